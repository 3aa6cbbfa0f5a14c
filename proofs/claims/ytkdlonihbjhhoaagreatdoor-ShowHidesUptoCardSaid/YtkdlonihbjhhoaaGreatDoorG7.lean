/-
  Parts of the walk: New Rng Rg2 Str.
-/
import Derived.Test.YtkdlonihbjhhoaaGreatDoorG6
import Derived.Laws.Sem
import Derived.RangeFuncLeaves
import Derived.RangeFuncRecord
import Derived.Scope
namespace Go.Proofs.YtkdlonihbjhhoaaGreatDoor
open Go.RowKit
set_option linter.unusedSimpArgs false
set_option linter.unusedVariables false
set_option maxHeartbeats 600000
set_option maxRecDepth 20000
class HasE (own : List Ent) (b : Nat) (cs : outParam (List Value)) (T : outParam TypeId) : Prop where
  h : InE own ⟨some b, cs, T⟩
instance (priority := high) HasE.here (r : List Ent) (b : Nat) (cs : List Value) (T : TypeId) : HasE (⟨some b, cs, T⟩ :: r) b cs T := ⟨.here⟩
instance HasE.there (r : List Ent) (x : Ent) (b : Nat) (cs : List Value) (T : TypeId) [HasE r b cs T] : HasE (x :: r) b cs T := ⟨.there HasE.h⟩
theorem InE.right {e r : List Ent} {x : Ent} (h : InE r x) : InE (e ++ r) x := by
  induction e with
  | nil => exact h
  | cons y e ih => exact .there ih
instance HasE.ext (e r : List Ent) (b : Nat) (cs : List Value) (T : TypeId) [HasE r b cs T] : HasE (e ++ r) b cs T := ⟨InE.right HasE.h⟩
theorem InE.tc {own : List Ent} {b : Nat} {cs : List Value} {T : TypeId} [h : HasE own b cs T] : InE own ⟨some b, cs, T⟩ := h.h
class HasC (own : List Ent) (ob : Option Nat) (cs : outParam (List Value)) (T : outParam TypeId) (C : outParam (Ent → List Ent)) : Prop where
  h : Ctx own ⟨ob, cs, T⟩ C
instance (priority := high) HasC.here (r : List Ent) (ob : Option Nat) (cs : List Value) (T : TypeId) : HasC (⟨ob, cs, T⟩ :: r) ob cs T (fun y => y :: r) := ⟨.here⟩
instance HasC.there (r : List Ent) (x : Ent) (ob : Option Nat) (cs : List Value) (T : TypeId) (C : Ent → List Ent) [HasC r ob cs T C] : HasC (x :: r) ob cs T (fun y => x :: C y) := ⟨.there HasC.h⟩
theorem Ctx.right {r : List Ent} {x : Ent} {C : Ent → List Ent} (h : Ctx r x C) : ∀ e : List Ent, Ctx (e ++ r) x (fun y => e ++ C y)
  | [] => h
  | z :: e => .there (Ctx.right h e)
instance HasC.ext (e r : List Ent) (ob : Option Nat) (cs : List Value) (T : TypeId) (C : Ent → List Ent) [h : HasC r ob cs T C] : HasC (e ++ r) ob cs T (fun y => e ++ C y) := ⟨Ctx.right h.h e⟩
theorem Ctx.tc {own : List Ent} {ob : Option Nat} {cs : List Value} {T : TypeId} {C : Ent → List Ent} [h : HasC own ob cs T C] : Ctx own ⟨ob, cs, T⟩ C := h.h
class HasF (fs : List Fact) (a : Option Addr) (xs : outParam (List Value)) : Prop where
  h : InF fs (Fact.sl a xs)
instance (priority := high) HasF.here (r : List Fact) (a : Option Addr) (xs : List Value) : HasF (Fact.sl a xs :: r) a xs := ⟨.here⟩
instance HasF.there (r : List Fact) (f : Fact) (a : Option Addr) (xs : List Value) [HasF r a xs] : HasF (f :: r) a xs := ⟨.there HasF.h⟩
theorem InF.tc {fs : List Fact} {a : Option Addr} {xs : List Value} [h : HasF fs a xs] : InF fs (Fact.sl a xs) := h.h
section
variable {ok : Nat → Prop} {w0 : World} {own : List Ent} {fs : List Fact} {w : World}
theorem St.sl (h : St ok w0 own fs w) {a : Option Addr} {xs : List Value} [hf : HasF fs a xs] : (Fact.sl a xs).holds (fun _ => True) w := by
  obtain ⟨k, hk⟩ := hf.h.get; exact h.holds_any hk
theorem St.os (h : St ok w0 own fs w) {b : Nat} {xs : List Value} {T : TypeId} [hf : HasE own b xs T] : (Fact.sl (some ⟨b, 0, none⟩) xs).holds (fun _ => True) w := ue h hf.h
theorem St.oc (h : St ok w0 own fs w) {ob : Option Nat} {xs sp : List Value} {T : TypeId} {C : Ent → List Ent} [hf : HasC own ob (xs ++ sp) T C] : (Fact.sl (ob.map fun b => ⟨b, 0, none⟩) xs).holds (fun _ => True) w := by
  obtain ⟨k, hk, _⟩ := hf.h.get
  have := h.own_ _ (A9 hk)
  cases ob with
  | none => exact .inl (by have h1 : xs ++ sp = [] := this; simp at h1; exact h1.1)
  | some b => exact .inr ⟨b, 0, (xs ++ sp).toArray, T, (0, 0), rfl, trivial, this.2, fun i hi => by rw [Az, De, B5 hi]⟩
theorem au {own' : List Ent} {fs' : List Fact} [h1 : SubL own own'] [h2 : SubL fs fs'] : ∀ w, St ok w0 own' fs' w → St ok w0 own fs w := fun w h => h.sub h1.h (fun f hf => h2.h.subset hf)
theorem ah {f : Fact} {ok : Nat → Prop} (h : f.holds ok w) : f.holds (fun _ => True) w := f.mono (fun _ _ => trivial) h
theorem gK {ok : Nat → Prop} : ∀ f ∈ ([] : List Fact), f.holds ok w := fun _ h => by cases h
theorem lc {f : Fact} {ok : Nat → Prop} (h : f.holds ok w) (h' : ∀ g ∈ fs, g.holds ok w) : ∀ g ∈ f :: fs, g.holds ok w := fun g hg => (A7.1 hg).elim (fun e => e ▸ h) (h' g)
end
section
variable {ds : List Deferred} {ρ : Option Nat} {P : Program} {o : Oper} {n : Nat} {L : ak} {x y : Operand} {v : Value} {t e : TypeId} {sz : Nat} {cs : List Value}
theorem py {val : Nat → Value} {T : TypeId} (h : ∀ a, Fr ds a n L → ∀ w : World, (execOp a.eval o).run P w = .ok (.value (val w.heap.size)) (w.alloc (.cells cs.toArray T))) : Fre ds P o n L val cs T := fun a hF w => h a hF w
theorem bJ (hop : o.op = .alloc t) (hz : (P.info? t).bind (·.zero) = some v) (hc : v.cells.toList = cs) : Fre ds P o n L (fun b : Nat => .pointer (some ⟨b, 0, none⟩)) cs t :=
  py fun a hF w => by subst hc; simp [execOp, hop, Instr.alloc, kx hz, gZ]
theorem yn {len : Nat} {parts : List (Nat × Operand)} {vs : List (Nat × Value)} (hop : o.op = .buildSlice t len parts.toArray) (hp : cj L parts = some vs) (hu : P.underlying t = some (.slice e))
    (hrun : ∀ w : World, (Instr.buildSlice t len vs.toArray).run P w = .ok (.slice (some ⟨w.heap.size, 0, none⟩) len len) (w.alloc (.cells cs.toArray e))) :
    Fre ds P o n L (fun b : Nat => .slice (some ⟨b, 0, none⟩) len len) cs e :=
  py fun a hF w => by
    have hpp := dd hF hp
    have e1 : Array.map (fun x => (x.1, a.eval x.2)) parts.toArray = vs.toArray := by simp [← hpp]
    simp only [execOp, hop, e1]
    simp [hrun]
theorem wB {len : Nat} {vs : List (Nat × Value)} {zv : Value} (hu : P.underlying t = some (.slice e))
    (hi : (P.info? e).map (fun i => (i.zero, i.size, i.bytes)) = some (some zv, 1, sz)) (hz : zv.cells = #[zv]) (hcs : vs.map Prod.snd = cs) (hnum : vs = (List.range' 0 len).zip (vs.map Prod.snd)) (hlen : cs.length = len) (h1 : ∀ v ∈ cs, v.cells = #[v]) (hsm : len ≤ 16777216) (w : World) :
    (Instr.buildSlice t len vs.toArray).run P w = .ok (.slice (some ⟨w.heap.size, 0, none⟩) len len) (w.alloc (.cells cs.toArray e)) := by
  obtain ⟨i', hi', hz', hs, hbb⟩ := info_parts hi
  have hfill := k9 cs [] (List.replicate len zv) (by simp [hlen]) h1
  simp only [List.nil_append, Eb, hlen] at hfill
  have hsz : ¬ (len * i'.size > 2 ^ 24) := by rw [hs]; omega
  have hvs : vs = (List.range' 0 len).zip cs := by rw [← hcs]; exact hnum
  have hfill' : Instr.fill (fun i => some (i, 1)) (List.replicate len zv).toArray vs = some cs.toArray := by
    rw [hvs]; simpa using hfill
  rw [hs] at hsz
  simp only [Instr.buildSlice, Sem.run_bind, run_underlying hu, Result.andThen, sizeOf, typeInfo, run_program, hi', Sem.run_pure, hs, A0]
  rw [Aa (by omega)]
  by_cases h0 : len = 0
  · subst h0
    have hzero : Array.map (fun x => (#[] : Array Value)[x % (#[] : Array Value).size]!) (Array.range 0) = (List.replicate 0 zv).toArray := by simp
    simp only [Sem.run_pure, Sem.run_bind, Result.andThen, if_true, hzero, hfill']
    rfl
  · have hzero : Array.map (fun x => zv.cells[x % zv.cells.size]!) (Array.range len) = (List.replicate len zv).toArray := by
      rw [hz]
      have := dI zv len
      unfold madeCells at this
      apply Array.ext'
      simpa using this
    simp only [Aa h0, Sem.run_bind, zeroValue, typeInfo, run_program, Result.andThen, hi', Sem.run_pure, hz', hzero, hfill']
    rfl
theorem ia {len : Nat} {parts : List (Nat × Operand)} {vs : List (Nat × Value)} {zv : Value} (hop : o.op = .buildSlice t len parts.toArray) (hp : cj L parts = some vs) (hu : P.underlying t = some (.slice e))
    (hi : (P.info? e).map (fun i => (i.zero, i.size, i.bytes)) = some (some zv, 1, sz)) (hz : zv.cells = #[zv]) (hcs : vs.map Prod.snd = cs) (hnum : vs = (List.range' 0 len).zip (vs.map Prod.snd)) (hlen : cs.length = len) (h1 : ∀ v ∈ cs, v.cells = #[v]) (hsm : len ≤ 16777216) :
    Fre ds P o n L (fun b : Nat => .slice (some ⟨b, 0, none⟩) len len) cs e := yn hop hp hu (wB hu hi hz hcs hnum hlen h1 hsm)
theorem BM {k1 k2 : IntKind} {l c' : Int} {zv : Value} (hop : o.op = .makeSlice t x y) (hx : ag L x = some (.int k1 l)) (hy : ag L y = some (.int k2 c')) (hu : P.underlying t = some (.slice e)) (hi : (P.info? e).map (fun i => (i.zero, i.size, i.bytes)) = some (some zv, 1, sz)) (h1 : zv.cells = #[zv])
    (hb : 0 ≤ l ∧ l ≤ c' ∧ (sz : Int) * c' ≤ 281474976710656 ∧ c' ≤ 9223372036854775807) {q1 q2 : Nat} (hq1 : l.toNat = q1) (hq2 : c'.toNat = q2) :
    Fre ds P o n L (fun b : Nat => .slice (some ⟨b, 0, none⟩) q1 q2) (List.replicate q2 zv) e :=
  py fun a hF w => by
    subst hq1 hq2
    obtain ⟨i', hi', hz, hs, hbb⟩ := info_parts hi
    have hrun := run_make (P := P) w t e i' zv hu hi' hz k1 k2 l c' hb.1 hb.2.1 (by rw [hbb]; exact hb.2.2.1) hb.2.2.2
    have e1 : (madeCells #[zv] c'.toNat) = (List.replicate c'.toNat zv).toArray := by rw [← dI]
    rw [h1, hs, A0, e1] at hrun
    simp [execOp, hop, hF.eval hx, hF.eval hy, hrun]
end
abbrev pt (a : Option Addr) (k : Nat) : Value := .pointer (some ((a.getD ⟨0, 0, none⟩).add k))
section
variable {ds : List Deferred} {ρ : Option Nat} {P : Program} {o : Oper} {n : Nat} {L : ak} {ok : Nat → Prop} {w0 : World} {own : List Ent} {fs : List Fact} {x y : Operand} {v : Value} {t e : TypeId} {k : IntKind} {i : Int} {sz q : Nat} {a : Option Addr} {xs ys : List Value}
theorem St.slx {w : World} (h : St ok w0 own fs w) [hf : HasF fs a xs] (hx : 0 < xs.length) : ∃ b off cs T fz, a = some ⟨b, off, none⟩ ∧ w.heap[b]? = some (.cells cs T fz) ∧ ∀ i, i < xs.length → cs[off + i]? = xs[i]? := by
  rcases h.sl (a := a) with h0 | ⟨b, off, cs, T, fz, h1, _, h3, h4⟩
  · subst h0; simp at hx
  · exact ⟨b, off, cs, T, fz, h1, h3, h4⟩
theorem iaf {len cap : Nat} (hop : o.op = .indexAddr t x y) (hx : ag L x = some (.slice a len cap)) (hy : ag L y = some (.int k i)) [hf : HasF fs a xs] (hu : P.underlying t = some (.slice e)) (hs : (P.info? e).map (·.size) = some sz) (hb : 0 ≤ i ∧ i < (len : Int)) (hxs : 0 < xs.length) (hq : i.toNat * sz = q) : Rd ds P o n L (St ok w0 own fs) (pt a q) :=
  aH fun ac hF w hS => by
    obtain ⟨b, off, cs, T, fz, rfl, h3, h4⟩ := hS.slx (a := a) hxs
    simp [execOp, hop, hF.eval hx, hF.eval hy, Instr.indexAt, asIntOf, run_underlying hu, hb, bc hs, Addr.add_lit, hq, pt]
theorem ldt (hop : o.op = .load t x) (hx : ag L x = some (pt a q)) [hf : HasF fs a xs] {d : TypeDesc} (hu : P.underlying t = some d) (hd : a8 d = false) (hv : xs[q]? = some v) : Rd ds P o n L (St ok w0 own fs) v :=
  aH fun ac hF w hS => by
    have hlt : q < xs.length := (Al.1 hv).1
    obtain ⟨b, off, cs, T, fz, rfl, h3, h4⟩ := hS.slx (a := a) (by omega)
    have hc : w.cell? ⟨b, off + q, none⟩ = some v := by simp [World.cell?, h3, h4 q hlt, hv]
    have hx' := hF.eval hx
    simp only [pt, Option.getD_some, Addr.add_lit] at hx'
    simp [execOp, hop, hx', Instr.loadAt, Instr.sureAddr, loadVar, dx hu, hd, hc]
theorem DG (hop : o.op = .load t x) (hx : ag L x = some (pt a q)) [hf : HasF fs a xs] {d : TypeDesc} (hu : P.underlying t = some d) (hd : a8 d = true) (hs : (P.info? t).map (·.size) = some sz) (hys : (xs.drop q).take sz = ys) (hlen : ys.length = sz) (h0 : 0 < sz) : Rd ds P o n L (St ok w0 own fs) (.agg ys.toArray) :=
  aH fun ac hF w hS => by
    have hml : q + sz ≤ xs.length := by
      have : ys.length = min sz (xs.length - q) := by rw [← hys]; simp
      omega
    obtain ⟨b, off, cs, T, fz, rfl, h3, h4⟩ := hS.slx (a := a) (by omega)
    have hx' := hF.eval hx
    simp only [pt, Option.getD_some, Addr.add_lit] at hx'
    have := gz (P := P) (off := off + q) (xs := ys) h3 (fun i hi => by
      rw [Co, h4 (q + i) (by omega), ← hys, Cu, Ab (by omega), Cv]) hu hd (by rw [hs, hlen])
    simp [execOp, hop, hx', Instr.loadAt, Instr.sureAddr, this]
theorem faf {f : Nat} {flds : Array Field} {fd : Field} {q' : Nat} (hop : o.op = .fieldAddr t x f) (hx : ag L x = some (pt a q)) (hu : P.underlying t = some (.struct flds)) (hf : flds[f]? = some fd) (hs : ((P.info? fd.type).map (fun i => decide (0 < i.size))) = some true) (hq : q + fd.offset = q') : Rd ds P o n L (St ok w0 own fs) (pt a q') :=
  aH fun ac hF w hS => by
    obtain ⟨i, hi, hi'⟩ := Dn.1 hs
    have hne : ¬ i.size = 0 := by simp at hi'; omega
    have hx' := hF.eval hx
    have e1 : ((a.getD ⟨0, 0, none⟩).add q).add fd.offset = (a.getD ⟨0, 0, none⟩).add q' := by subst hq; by_cases h1 : q = 0 <;> by_cases h2 : fd.offset = 0 <;> simp [Addr.add, h1, h2, Co]
    simp only [pt] at hx' ⊢
    simp [execOp, hop, hx', Instr.fieldAt, Instr.sureAddr, run_underlying hu, hf, fieldPlace, sizeOf, typeInfo, hi, hne, e1]
theorem f9 {α : Type} [Inhabited α] (l : List α) (f : α → Value) (q : Nat) (h : q < l.length) : (l.map f)[q]? = some (f (l.getD q default)) := by
  rw [A6, Ad h]; simp [List.getD, Ad h]
theorem ldm {α : Type} [Inhabited α] {l : List α} {f : α → Value} (hop : o.op = .load t x) (hx : ag L x = some (pt a q)) [hf : HasF fs a (l.map f)] {d : TypeDesc} (hu : P.underlying t = some d) (hd : a8 d = false) (hq : q < l.length) : Rd ds P o n L (St ok w0 own fs) (f (l.getD q default)) :=
  ldt hop hx hu hd (f9 l f q hq)
theorem iU {α : Type} {f : α → List Value} {sz : Nat} (hf : ∀ x, (f x).length = sz) : ∀ (l : List α) (q : Nat), (l.flatMap f).drop (q * sz) = (l.drop q).flatMap f
  | [], q => by simp
  | x :: l, 0 => by simp
  | x :: l, q + 1 => by
    rw [C2, show (q + 1) * sz = (f x).length + q * sz by rw [hf, Nat.succ_mul, Dp], ← List.drop_drop, List.drop_left, iU hf l q, List.drop_succ_cons]
theorem fB {α : Type} [Inhabited α] (l : List α) (f : α → List Value) (sz : Nat) (hf : ∀ x, (f x).length = sz) (q : Nat) (h : q < l.length) : ((l.flatMap f).drop (q * sz)).take sz = f (l.getD q default) := by
  rw [iU hf, Bo h, C2, ← hf l[q], List.take_left]
  simp [List.getD, Ad h]
theorem aj {α : Type} (l : List α) (f : α → List Value) (sz : Nat) (hf : ∀ x, (f x).length = sz) : (l.flatMap f).length = l.length * sz := by
  induction l with
  | nil => simp
  | cons x l ih => rw [C2, A5, hf, ih, Ar, Nat.succ_mul, Dp]
theorem dL {α : Type} [Inhabited α] {l : List α} {f : α → List Value} (j : Nat) (hop : o.op = .load t x) (hx : ag L x = some (pt a q)) [hf : HasF fs a (l.flatMap f)] {d : TypeDesc} (hu : P.underlying t = some d) (hd : a8 d = true) (hs : (P.info? t).map (·.size) = some sz) (hsz : ∀ x, (f x).length = sz) (h0 : 0 < sz) (hq : q = j * sz) (hj : j < l.length) : Rd ds P o n L (St ok w0 own fs) (.agg (f (l.getD j default)).toArray) :=
  DG hop hx hu hd hs (by rw [hq]; exact fB l f sz hsz j hj) (hsz _) h0
theorem lE {α : Type} [Inhabited α] {l : List α} {f : α → List Value} (j off : Nat) (hop : o.op = .load t x) (hx : ag L x = some (pt a q)) [hf : HasF fs a (l.flatMap f)] {d : TypeDesc} (hu : P.underlying t = some d) (hd : a8 d = false) (hsz : ∀ x, (f x).length = sz) (hq : q = j * sz + off) (hj : j < l.length) (ho : off < sz) (hv : (f (l.getD j default))[off]? = some v) : Rd ds P o n L (St ok w0 own fs) v :=
  ldt hop hx hu hd (by rw [← hv, ← fB l f sz hsz j hj, Cu, Ab ho, Cv, hq])
end
theorem WC.free0 {ds : List Deferred} {P : Program} {ok : Nat → Prop} {w0 : World} {n : Nat} {L : ak} {own : List Ent} {fs : List Fact} {Q : Exit → Act → World → Prop} {id : Nat} {l tl : List Oper} (front tail marks : List Nat) (hm : P.follows .mixedOrders = true) (hB : hI l front tail marks = true) (ht : bV l tail = tl)
    (k : WJ ds P l ok w0 (St ok w0 own fs) (fN P l.toArray Q tl) marks n front L own fs []) : WC ds none P (.region id l.toArray true) Q n L (St ok w0 own fs) := WC.free (K := own) (fs0 := fs) front tail marks hm hB ht k
section
variable {ds : List Deferred} {ρ : Option Nat} {P : Program} {o : Oper} {n : Nat} {L : ak} {Z : World → Prop} {x y : Operand} {t t2 e : TypeId} {a : Option Addr} {m c : Nat}
end
theorem ns {P : Program} {f : FuncId} {args : Array Value} {Z Z' : World → Prop} {v : Value} (h : ∀ w, Z w → Calls P f args w (fun e w' => e = .returned v ∧ Z' w')) : ∀ w, Z w → Calls P f args w (fun e w' => ∃ _g : Unit, e = .returned v ∧ Z' w') :=
  fun w hw => (h w hw).mono fun _ _ hh => ⟨(), hh⟩
section
variable {ds : List Deferred} {ρ : Option Nat} {P : Program} {o : Oper} {n : Nat} {L : ak} {ok : Nat → Prop} {w0 : World} {own : List Ent} {C : Ent → List Ent} {fs : List Fact} {x y : Operand} {v : Value} {t e T : TypeId} {k : IntKind} {i : Int} {sz q : Nat} {ob : Option Nat} {cs : List Value}
theorem St.ocx {w : World} (h : St ok w0 own fs w) (hc : Ctx own ⟨ob, cs, T⟩ C) (hx : 0 < cs.length) : ∃ b, ob = some b ∧ w.heap[b]? = some (.cells cs.toArray T (0, 0)) := by
  obtain ⟨k, hk, _⟩ := hc.get
  have := h.own_ _ (A9 hk)
  cases ob with
  | none => have h1 : cs = [] := this; subst h1; simp at hx
  | some b => exact ⟨b, rfl, this.2⟩
theorem iao {len cap : Nat} (hop : o.op = .indexAddr t x y) (hx : ag L x = some (.slice (ob.map fun b => ⟨b, 0, none⟩) len cap)) (hy : ag L y = some (.int k i)) [hf : HasC own ob cs T C] (hu : P.underlying t = some (.slice e)) (hs : (P.info? e).map (·.size) = some sz) (hb : 0 ≤ i ∧ i < (len : Int)) (hxs : 0 < cs.length) (hq : i.toNat * sz = q) : Rd ds P o n L (St ok w0 own fs) (pt (ob.map fun b => ⟨b, 0, none⟩) q) :=
  aH fun ac hF w hS => by
    obtain ⟨b, rfl, _⟩ := hS.ocx hf.h hxs
    have hx' := hF.eval hx
    simp only [Option.map_some] at hx'
    simp [execOp, hop, hx', hF.eval hy, Instr.indexAt, asIntOf, run_underlying hu, hb, bc hs, Addr.add_lit, hq, pt]
theorem ldo (hop : o.op = .load t x) (hx : ag L x = some (pt (ob.map fun b => ⟨b, 0, none⟩) q)) [hf : HasC own ob cs T C] {d : TypeDesc} (hu : P.underlying t = some d) (hd : a8 d = false) (hv : cs[q]? = some v) : Rd ds P o n L (St ok w0 own fs) v :=
  aH fun ac hF w hS => by
    have hlt : q < cs.length := (Al.1 hv).1
    obtain ⟨b, rfl, h3⟩ := hS.ocx hf.h (by omega)
    have hc : w.cell? ⟨b, q, none⟩ = some v := by simp [World.cell?, h3, hv]
    have hx' := hF.eval hx
    simp only [pt, Option.map_some, Option.getD_some, Addr.add_lit, Az] at hx'
    simp [execOp, hop, hx', Instr.loadAt, Instr.sureAddr, loadVar, dx hu, hd, hc]
theorem DH {α : Type} [Inhabited α] {l : List α} {f : α → Value} {sp : List Value} (hop : o.op = .load t x) (hx : ag L x = some (pt (ob.map fun b => ⟨b, 0, none⟩) q)) [hf : HasC own ob (l.map f ++ sp) T C] {d : TypeDesc} (hu : P.underlying t = some d) (hd : a8 d = false) (hq : q < l.length) : Rd ds P o n L (St ok w0 own fs) (f (l.getD q default)) :=
  ldo hop hx hu hd (by rw [B5 (by simpa using hq)]; exact f9 l f q hq)
end
theorem WR.free0 {ds : List Deferred} {ρ : Option Nat} {P : Program} {ok : Nat → Prop} {w0 : World} {n : Nat} {L : ak} {own : List Ent} {fs : List Fact} {Q : Exit → Act → World → Prop} {id : Nat} {l tl : List Oper} (hp : lY l = true) (front tail marks : List Nat) (hm : P.follows .mixedOrders = true) (hB : hI l front tail marks = true) (ht : bV l tail = tl)
    (k : WJ ds P l ok w0 (St ok w0 own fs) (fN P l.toArray Q tl) marks n front L own fs []) : WC ds ρ P (.region id l.toArray true) Q n L (St ok w0 own fs) := WR.free (K := own) (fs0 := fs) hp front tail marks hm hB ht k
abbrev sh (a : Option Addr) (k : Nat) : Option Addr := a.map (·.add k)
theorem tw {ok : Nat → Prop} {a : Option Addr} {xs : List Value} {w : World} (k : Nat) (h : (Fact.sl a xs).holds ok w) : (Fact.sl (sh a k) (xs.drop k)).holds ok w := by
  rcases h with rfl | ⟨b, off, cs, T, fz, rfl, h2, h3, h4⟩
  · exact .inl (by simp)
  · exact .inr ⟨b, off + k, cs, T, fz, by simp [sh, Addr.add_lit], h2, h3, fun i hi => by
      rw [Cp] at hi
      rw [Cv, ← h4 (k + i) (by omega), Co]⟩
theorem kw {α : Type} {ok : Nat → Prop} {a : Option Addr} {l : List α} {f : α → Value} {w : World} (k : Nat) (h : (Fact.sl a (l.map f)).holds ok w) : (Fact.sl (sh a k) ((l.drop k).map f)).holds ok w := by
  rw [List.map_drop]; exact tw k h
theorem jW {α : Type} {ok : Nat → Prop} {a : Option Addr} {l : List α} {f : α → Value} {w : World} {cap : Nat} (k : Nat) (hc : l.length ≤ cap) (h : (Fact.sl a (l.map f)).holds ok w) : (Fact.sl (cut a k cap 1) ((l.drop k).map f)).holds ok w := by
  unfold cut
  split
  · rename_i e; subst e; exact .inl (by simp; omega)
  · rw [A0]; exact kw k h
section
variable {ds : List Deferred} {ρ : Option Nat} {P : Program} {o : Oper} {n : Nat} {L : ak} {Z : World → Prop} {x y : Operand} {t e : TypeId} {k k' : IntKind} {i j : Int} {sz : Nat} {ok : Nat → Prop} {w0 : World} {own : List Ent} {fs : List Fact}
theorem wM {a : Option Addr} {len cap : Nat} {lo : Operand} (hop : o.op = .slice t x (some lo) none none) (hx : ag L x = some (.slice a len cap)) (hl : ag L lo = some (.int k i)) (hu : P.underlying t = some (.slice e)) (hs : (P.info? e).map (·.size) = some sz)
    (hb : 0 ≤ i ∧ i ≤ (len : Int) ∧ i < (cap : Int)) {q1 q2 q3 : Nat} (h1 : i.toNat * sz = q1) (h2 : len - i.toNat = q2) (h3 : cap - i.toNat = q3) : Rd ds P o n L (St ok w0 own fs) (.slice (sh a q1) q2 q3) := by
  have := kG (ds := ds) (P := P) (n := n) (ok := ok) (w0 := w0) (own := own) (fs := fs) hop hx hl hu hs ⟨hb.1, hb.2.1⟩ rfl rfl rfl
  rwa [cut, Aa (by omega), h1, h2, h3] at this
end
section
variable {ds : List Deferred} {ρ : Option Nat} {P : Program} {Q : Exit → Act → World → Prop} {n : Nat} {L : ak} {Z : World → Prop} {ops : List Oper}
theorem WC.sr {id : Nat} {l : List Oper} {y : Code} (k : WL ds P l (Exit.then (cdX none P y Q) Q) n l L Z) : WC ds none P (.seq (.region id l.toArray false) y) Q n L Z := WC.seq (WC.region k)
theorem WR.sr {id : Nat} {l : List Oper} {y : Code} (hp : lY l = true) (k : WL ds P l (Exit.then (cdX ρ P y Q) Q) n l L Z) : WC ds ρ P (.seq (.region id l.toArray false) y) Q n L Z := WC.seq (WR.region hp k)
theorem WL.nt {y : Code} (k : WC ds ρ P y Q n L Z) : WL ds P ops (Exit.then (cdX ρ P y Q) Q) n [] L Z := WL.nil (WX.then_normal k)
end
section
variable {ds : List Deferred} {ρ : Option Nat} {P : Program} {Q : Exit → Act → World → Prop} {n : Nat} {L : ak} {Z : World → Prop} {c : Code} {σ : Type}
theorem gt {A B L' : ak} (hA : ∀ k v, al A k = some v → al L' k = some v) (hB : ∀ k v, al B k = some v → al L' k = some v) : ∀ k v, al (A ++ B) k = some v → al L' k = some v := by
  intro k v hk
  induction A with
  | nil => exact hB k v hk
  | cons p A ih =>
    obtain ⟨d, u⟩ := p
    simp only [List.cons_append, al] at hk
    cases hb : Nat.beq k d with
    | true => exact hA k v (by simp only [al, hb]; simpa [hb] using hk)
    | false =>
      rw [hb] at hk
      by_cases hd : al A k = some v
      · exact hA k v (by simp only [al, hb]; exact hd)
      · have : ∀ A : ak, al (A ++ B) k = some v → al A k ≠ some v → al B k = some v := by
          intro A
          induction A with
          | nil => intro h _; exact h
          | cons p A ih =>
            obtain ⟨e, u⟩ := p
            intro h hne
            simp only [List.cons_append, al] at h hne
            cases hb : Nat.beq k e with
            | true => rw [hb] at h hne; exact absurd h hne
            | false => rw [hb] at h hne; exact ih h hne
        exact hB k v (this A hk hd)
theorem WC.loopP (Lm : ak) (Ls : σ → ak) (inv : σ → Prop) (μ : σ → Nat) (s0 : σ) (hm : ∀ k v, al Lm k = some v → al L k = some v) (hL : ∀ k v, al (Ls s0) k = some v → al L k = some v) (h0 : inv s0)
    (round : ∀ s, inv s → WC ds ρ P c (Exit.then (mB ds (fun s => Ls s ++ Lm) (fun s w => inv s ∧ Z w) μ n s) Q) n (Ls s ++ Lm) Z) : WC ds ρ P (.loop c) Q n L Z :=
  WC.loop (fun s => Ls s ++ Lm) (fun s w => inv s ∧ Z w) μ s0 (gt hL hm) (fun w h => ⟨h0, h⟩) fun s => WC.pu fun h => round s h
theorem WX.loopP {Lm L' : ak} {Ls : σ → ak} {inv : σ → Prop} {μ : σ → Nat} {s : σ} {Z' : World → Prop} (s' : σ) (hμ : μ s' < μ s) (hm : ∀ k v, al Lm k = some v → al L' k = some v) (hL : ∀ k v, al (Ls s') k = some v → al L' k = some v) (hi : inv s') (hZ : ∀ w, Z' w → Z w) :
    WX ds (Exit.then (mB ds (fun s => Ls s ++ Lm) (fun s w => inv s ∧ Z w) μ n s) Q) .normal n L' Z' := WX.loop s' hμ (gt hL hm) (fun w h => ⟨hi, hZ w h⟩)
theorem WC.loopO {ok : Nat → Prop} {w0 : World} {own : List Ent} {fs : List Fact} (Lm : ak) (Ls : σ → ak) (inv : σ → Prop) (μ : σ → Nat) (own' : σ → List Ent) (fs' : σ → List Fact) (s0 : σ) (hm : ∀ k v, al Lm k = some v → al L k = some v) (hL : ∀ k v, al (Ls s0) k = some v → al L k = some v) (h0 : inv s0) (hS : ∀ w, St ok w0 own fs w → St ok w0 (own' s0) (fs' s0) w)
    (round : ∀ s, inv s → WC ds ρ P c (Exit.then (mB ds (fun s => Ls s ++ Lm) (fun s w => inv s ∧ St ok w0 (own' s) (fs' s) w) μ n s) Q) n (Ls s ++ Lm) (St ok w0 (own' s) (fs' s))) : WC ds ρ P (.loop c) Q n L (St ok w0 own fs) :=
  WC.loop (fun s => Ls s ++ Lm) (fun s w => inv s ∧ St ok w0 (own' s) (fs' s) w) μ s0 (gt hL hm) (fun w h => ⟨h0, hS w h⟩) fun s => WC.pu fun h => round s h
theorem WX.loopO {ok : Nat → Prop} {w0 : World} {Lm L' : ak} {Ls : σ → ak} {inv : σ → Prop} {μ : σ → Nat} {own' : σ → List Ent} {fs' : σ → List Fact} {s : σ} {Z' : World → Prop} (s' : σ) (hμ : μ s' < μ s) (hm : ∀ k v, al Lm k = some v → al L' k = some v) (hL : ∀ k v, al (Ls s') k = some v → al L' k = some v) (hi : inv s') (hZ : ∀ w, Z' w → St ok w0 (own' s') (fs' s') w) :
    WX ds (Exit.then (mB ds (fun s => Ls s ++ Lm) (fun s w => inv s ∧ St ok w0 (own' s) (fs' s) w) μ n s) Q) .normal n L' Z' := WX.loop s' hμ (gt hL hm) (fun w h => ⟨hi, hZ w h⟩)
end
section
variable {ds : List Deferred} {ρ : Option Nat} {P : Program} {ops : List Oper} {ok : Nat → Prop} {w0 : World} {F : Act → World → Prop} {marks : List Nat} {n d i : Nat} {rest : List Nat} {L : ak} {K own z : List Ent} {fs0 fs : List Fact} {o : Oper} {v : Value}
theorem WJ.st {own' : List Ent} [h1 : SubL K own'] [h2 : SubL fs0 fs] (ho : ops[i]? = some o) (hm : marks.getD i 2 = 1) (hw : aC ops L o = some true) (hdst : o.dst = none)
    (h : ∀ ext, Og ds P o n L (St ok w0 (ext ++ own) fs) (fun _ : Unit => undef) (fun _ => St ok w0 (ext ++ own') fs))
    (k : WJ ds P ops ok w0 (St ok w0 K fs0) F marks n rest L own' fs z) : WJ ds P ops ok w0 (St ok w0 K fs0) F marks n (i :: rest) L own fs z := by
  intro a hF
  refine ⟨o, by simpa using ho, ?_⟩
  rw [Ab (bm hF hw)]
  refine .inr (.inl ⟨hm, Unit, fun _ => undef, fun _ => True, fun _ => own', fun _ => fs, fun ext w hS => bp (fun a' w' hh => ?_) (h ext a w hF hS), fun g _ => ⟨nz, ?_⟩⟩)
  · obtain ⟨u, rfl, g, rfl, hS'⟩ := hh
    exact ⟨(), rfl, trivial, hS'⟩
  · rw [hdst]; exact k _ hF
theorem WJ.gv [h1 : SubL K own] [h2 : SubL fs0 fs] (ho : ops[i]? = some o) (hm : marks.getD i 2 = 1) (hw : aC ops L o = some true) (hdst : o.dst = some d) (hd : Nat.blt d n = true)
    (h : ∀ ext, Og ds P o n L (St ok w0 (ext ++ own) fs) (fun _ : Unit => v) (fun _ => St ok w0 (ext ++ own) fs))
    (k : WJ ds P ops ok w0 (St ok w0 K fs0) F marks n rest ((d, v) :: L) own fs z) : WJ ds P ops ok w0 (St ok w0 K fs0) F marks n (i :: rest) L own fs z :=
  WJ.g (γ := Unit) (val := fun _ => v) (p := fun _ => True) (own' := fun _ => own) (fs' := fun _ => fs) ho hm hw hdst hd (fun ext a w hF hS => bp (fun a' w' hh => by
    obtain ⟨u, e, g, e', hS'⟩ := hh; exact ⟨u, e, g, e', trivial, hS'⟩) (h ext a w hF hS)) (fun _ _ => k)
end
theorem CK {ds : List Deferred} {P : Program} {o : Oper} {n : Nat} {L : ak} {ok : Nat → Prop} {w0 : World} {own : List Ent} {C : Ent → List Ent} {fs : List Fact} {x y : Operand} {t e : TypeId} {sz : Nat} {xs : List Value} {len cap b : Nat} {news : List Value} {zv : Value} {m c : Nat} {ad : Option Addr} (hop : o.op = .call { callee := .builtin .append, args := #[x, y], argTypes := #[t, t] }) (hu : P.underlying t = some (.slice e)) (hi : (P.info? e).map (fun i => (i.zero, i.size, i.bytes)) = some (some zv, 1, sz)) (h1 : zv.cells = #[zv])
    (hk : Ctx own ⟨some b, xs, e⟩ C) (hx : ag L x = some (.slice (some ⟨b, 0, none⟩) len cap)) (hy : ag L y = some (.slice ad m c)) (hsrc : ∀ w, St ok w0 own fs w → (Fact.sl ad news).holds (fun _ => True) w) (hm : news.length = m)
    (hb : xs.length = len ∧ cap = len ∧ len + m ≤ 9223372036854775807 ∧ (len + m) * sz ≤ 140737488355328) (h1c : ∀ u ∈ news, u.oneCell' = true) :
    Og ds P o n L (St ok w0 own fs) (fun g : Gr => .slice (g.ob.map fun b => ⟨b, 0, none⟩) (len + m) g.cap) (fun g w => (g.cap = len + m + g.sp.length) ∧ St ok w0 (C ⟨g.ob, (xs ++ news) ++ g.sp, e⟩) fs w) :=
  pL (ob := some b) (sp := []) hop hu hi h1 (by rw [Bl]; exact hk) hx hy hsrc hm ⟨hb.1, by simp; exact hb.2.1, hb.2.2⟩ h1c
section
variable {ds : List Deferred} {ρ : Option Nat} {P : Program} {o : Oper} {n : Nat} {L : ak} {ok : Nat → Prop} {w0 : World} {own : List Ent} {C : Ent → List Ent} {fs : List Fact} {x y : Operand} {t e : TypeId} {sz : Nat} {xs : List Value} {len cap b : Nat} {news : List Value} {zv : Value} {m c : Nat} {ad : Option Addr}
theorem oK {ob : Option Nat} {sp : List Value} (hop : o.op = .call { callee := .builtin .append, args := #[x, y], argTypes := #[t, t] }) (hu : P.underlying t = some (.slice e)) (hi : (P.info? e).map (fun i => (i.zero, i.size, i.bytes)) = some (some zv, 1, sz)) (h1 : zv.cells = #[zv])
    (hk : Ctx own ⟨ob, xs ++ sp, e⟩ C) (hx : ag L x = some (.slice (ob.map fun b => ⟨b, 0, none⟩) len cap)) (hy : ag L y = some (.slice ad m c)) (hsrc : ∀ ext w, St ok w0 (ext ++ own) fs w → (Fact.sl ad news).holds (fun _ => True) w) (hm : news.length = m)
    (hb : xs.length = len ∧ cap = len + sp.length ∧ len + m ≤ 9223372036854775807 ∧ (len + m) * sz ≤ 140737488355328) (h1c : ∀ u ∈ news, u.oneCell' = true) (ext : List Ent) :
    Og ds P o n L (St ok w0 (ext ++ own) fs) (fun g : Gr => .slice (g.ob.map fun b => ⟨b, 0, none⟩) (len + m) g.cap) (fun g w => (g.cap = len + m + g.sp.length) ∧ St ok w0 (ext ++ C ⟨g.ob, (xs ++ news) ++ g.sp, e⟩) fs w) :=
  pL hop hu hi h1 (Ctx.right hk ext) hx hy (hsrc ext) hm hb h1c
theorem yw (hop : o.op = .call { callee := .builtin .append, args := #[x, y], argTypes := #[t, t] }) (hu : P.underlying t = some (.slice e)) (hi : (P.info? e).map (fun i => (i.zero, i.size, i.bytes)) = some (some zv, 1, sz)) (h1 : zv.cells = #[zv])
    (hk : Ctx own ⟨some b, xs, e⟩ C) (hx : ag L x = some (.slice (some ⟨b, 0, none⟩) len cap)) (hy : ag L y = some (.slice ad m c)) (hsrc : ∀ ext w, St ok w0 (ext ++ own) fs w → (Fact.sl ad news).holds (fun _ => True) w) (hm : news.length = m)
    (hb : xs.length = len ∧ cap = len ∧ len + m ≤ 9223372036854775807 ∧ (len + m) * sz ≤ 140737488355328) (h1c : ∀ u ∈ news, u.oneCell' = true) (ext : List Ent) :
    Og ds P o n L (St ok w0 (ext ++ own) fs) (fun g : Gr => .slice (g.ob.map fun b => ⟨b, 0, none⟩) (len + m) g.cap) (fun g w => (g.cap = len + m + g.sp.length) ∧ St ok w0 (ext ++ C ⟨g.ob, (xs ++ news) ++ g.sp, e⟩) fs w) :=
  CK hop hu hi h1 (Ctx.right hk ext) hx hy (hsrc ext) hm hb h1c
theorem mZ {Z : World → Prop} {vs : List Value} {v : Value} {ix : Nat} (hop : o.op = .extract x ix) (hx : ag L x = some (.tuple vs.toArray)) (h : vs[ix]? = some v) : Rd ds P o n L Z v := tT hop hx (by simpa using h)
end
structure Rs where
  ob : Option Nat
  cap : Nat
  sp : List Value
abbrev Rs.a (g : Rs) : Option Addr := g.ob.map fun b => ⟨b, 0, none⟩
abbrev Rs.val (g : Rs) (n : Nat) : Value := .slice g.a n g.cap
abbrev Rs.ent (g : Rs) (xs : List Value) (T : TypeId) : Ent := ⟨g.ob, xs ++ g.sp, T⟩
section
variable {ds : List Deferred} {ρ : Option Nat} {P : Program} {ok : Nat → Prop} {w0 : World} {own ext : List Ent} {fs : List Fact} {γ : Type} {f : FuncId} {args : Array Value} {val : γ → Value} {p : γ → Prop}
theorem tu {w w' : World} {ok' : Nat → Prop} (hS : St ok w0 own fs w) : ∀ (xs : List (Rs × List Value × TypeId)), St ok' w (xs.map fun x => x.1.ent x.2.1 x.2.2) [] w' → St ok w0 own (xs.map (fun x => Fact.sl x.1.a x.2.1) ++ fs) w' := by
  intro xs hn
  have h1 := hS.keep hn.below
  refine ⟨h1.okn, h1.below, h1.own_, h1.nd, fun f hf => ?_⟩
  rcases B6.1 hf with hf | hf
  · obtain ⟨x, hx, rfl⟩ := B9.1 hf
    have := hn.own_ (x.1.ent x.2.1 x.2.2) (B9.2 ⟨x, hx, rfl⟩)
    unfold Ent.holds at this
    cases hob : x.1.ob with
    | none =>
      rw [Rs.ent, hob] at this
      exact .inl (by have h2 : x.2.1 ++ x.1.sp = [] := this; simp at h2; exact h2.1)
    | some b =>
      rw [Rs.ent, hob] at this
      have hf := hS.fresh b this.1
      exact .inr ⟨b, 0, (x.2.1 ++ x.1.sp).toArray, x.2.2, (0, 0), by rw [Rs.a, hob]; rfl, hf, this.2, fun i hi => by rw [Az, De, B5 hi]⟩
  · exact h1.fact f hf
theorem fx {val : Rs → Value} {p : Rs → Prop} {xs : List Value} {T : TypeId} {ok' : Nat → Prop} (h : ∀ w, St ok w0 own fs w → Calls P f args w (fun e w' => ∃ g : Rs, e = .returned (val g) ∧ p g ∧ St ok' w [g.ent xs T] [] w')) :
    ∀ w, St ok w0 own fs w → Calls P f args w (fun e w' => ∃ g : Rs, e = .returned (val g) ∧ p g ∧ St ok w0 own (Fact.sl g.a xs :: fs) w') :=
  fun w hS => (h w hS).mono fun _ _ ⟨g, he, hp, hb⟩ => ⟨g, he, hp, tu hS [(g, xs, T)] hb⟩
theorem qD {val : Rs → Value} {p : Rs → Prop} {xs : List Value} {T : TypeId} {ok' : Nat → Prop} (h : ∀ w, St ok w0 own fs w → Calls P f args w (fun e w' => ∃ g : Rs, e = .returned (val g) ∧ p g ∧ St ok' w [g.ent xs T] [] w')) :
    ∀ w, St ok w0 own fs w → Calls P f args w (fun e w' => ∃ g : Rs, e = .returned (val g) ∧ p g ∧ St ok w0 (g.ent xs T :: own) fs w') :=
  fun w hS => (h w hS).mono fun _ _ ⟨g, he, hp, hb⟩ => ⟨g, he, hp, hS.adopt hb⟩
theorem ux {val : Rs → Value} {p : Rs → Prop} {xs : List Value} {T : TypeId} {ok' : Nat → Prop} (h : ∀ w, St ok w0 (ext ++ own) fs w → Calls P f args w (fun e w' => ∃ g : Rs, e = .returned (val g) ∧ p g ∧ St ok' w [g.ent xs T] [] w')) :
    ∀ w, St ok w0 (ext ++ own) fs w → Calls P f args w (fun e w' => ∃ g : Rs, e = .returned (val g) ∧ p g ∧ St ok w0 (ext ++ (g.ent xs T :: own)) fs w') :=
  fun w hS => (h w hS).mono fun _ _ ⟨g, he, hp, hb⟩ => ⟨g, he, hp, (hS.adopt hb).perm List.perm_middle⟩
end
inductive jz (P : Program) (L : ak) (own : List Ent) : List ResultVar → List Value → Prop
  | nil : jz P L own [] []
  | tmp {r : Nat} {v : Value} {rs : List ResultVar} {vs : List Value} (h : al L r = some v) (k : jz P L own rs vs) : jz P L own (.tmp r :: rs) (v :: vs)
  | agg {r b : Nat} {t T : TypeId} {cs : List Value} {rs : List ResultVar} {vs : List Value} {d : TypeDesc} (h : al L r = some (.pointer (some ⟨b, 0, none⟩))) (he : InE own ⟨some b, cs, T⟩) (hu : P.underlying t = some d) (hd : a8 d = true) (hsz : (P.info? t).map (·.size) = some cs.length) (k : jz P L own rs vs) : jz P L own (.cell r t :: rs) (.agg cs.toArray :: vs)
  | one {r b : Nat} {t T : TypeId} {v : Value} {rs : List ResultVar} {vs : List Value} {d : TypeDesc} (h : al L r = some (.pointer (some ⟨b, 0, none⟩))) (he : InE own ⟨some b, [v], T⟩) (hu : P.underlying t = some d) (hd : a8 d = false) (k : jz P L own rs vs) : jz P L own (.cell r t :: rs) (v :: vs)
def tup : List Value → Value
  | [v] => v
  | vs => .tuple vs.toArray
def lR (tmps : Array Value) : ResultVar → Sem Value
  | .tmp t => pure (tmps.getD t undef)
  | .cell b t => do loadVar t (← asAddr (tmps.getD b undef))
theorem kD (fn : Func) (tmps : Array Value) : results fn tmps = (do let vs ← fn.results.mapM (lR tmps); pure (if h : vs.size = 1 then vs[0] else .tuple vs)) := by
  have : (lR tmps) = (fun | .tmp t => pure (tmps.getD t undef) | .cell a t => do loadVar t (← asAddr (tmps.getD a undef))) := by funext x; cases x <;> rfl
  rw [this]; rfl
section
variable {ds : List Deferred} {ρ : Option Nat} {P : Program} {fn : Func} {R : Ending → World → Prop} {n : Nat} {L : ak} {ok : Nat → Prop} {w0 : World} {own : List Ent} {fs : List Fact}
theorem fW {a : Act} {w : World} (hF : Fr ds a n L) (hS : St ok w0 own fs w) : ∀ {rs : List ResultVar} {vs : List Value}, jz P L own rs vs → (rs.mapM (lR a.tmps)).run P w = .ok vs w
  | _, _, .nil => rfl
  | _, _, .tmp (r := r) h k => by
    have h1 := hF.at_ _ _ h
    have ih := fW hF hS k
    rw [Eh]
    simp [ih, h1, lR]
  | _, _, .agg h he hu hd hsz k => by
    have h1 := hF.at_ _ _ h
    have ih := fW hF hS k
    obtain ⟨kk, hk⟩ := he.get
    have h2 := gz (P := P) (off := 0) (hS.block hk) (fun i _ => by simp) hu hd hsz
    rw [Eh]
    simp [ih, h1, asAddr, h2, lR]
  | _, _, .one h he hu hd k => by
    have h1 := hF.at_ _ _ h
    have ih := fW hF hS k
    obtain ⟨kk, hk⟩ := he.get
    have hc := dD (hS.block hk) 0
    rw [Eh]
    simp [ih, h1, asAddr, loadVar, dx hu, hd, hc, lR]
theorem WX.retN {rs : List ResultVar} {vs : List Value} (hr : fn.results = rs.toArray) (hv : jz P L own rs vs) (h : ∀ w, St ok w0 own fs w → R (.returned (tup vs)) w) : WX [] (bodyPost P fn R) .ret n L (St ok w0 own fs) := fun a w hF hS => by
  refine bodyPost_ret (v := tup vs) ?_ hF.defers (h w hS)
  have hm := fW hF hS hv
  rw [kD, hr, List.mapM_toArray]
  simp only [Sem.run_bind, map_eq_pure_bind, hm, Result.andThen, Sem.run_pure]
  match vs with
  | [] => rfl
  | [v] => rfl
  | v :: u :: r => simp [tup]
end
section
variable {ds : List Deferred} {ρ : Option Nat} {γ : Type} {P : Program} {ops : List Oper} {C S Z : World → Prop} {Q : Exit → Act → World → Prop} {n d i : Nat} {rest : List Oper} {L : ak} {o : Oper} {x : Operand} {v : Value} {marks : List Nat} {val : γ → Value} {S' : γ → World → Prop}
theorem Km (h : (aC ops L o, o.dst, Nat.blt d n, o.op, ag L x) = (some true, some d, true, .move x, some v)) (k : WL ds P ops Q n rest ((d, v) :: L) S) : WL ds P ops Q n (o :: rest) L S := by
  simp only [Prod.mk.injEq] at h; exact WL.r h.1 h.2.1 h.2.2.1 (ci h.2.2.2.1 h.2.2.2.2) k
theorem Ka (h : (aC ops L o, o.dst, Nat.blt d n, o.op, ag L x) = (some true, some d, true, .assign x, some v)) (k : WL ds P ops Q n rest ((d, v) :: L) S) : WL ds P ops Q n (o :: rest) L S := by
  simp only [Prod.mk.injEq] at h; exact WL.r h.1 h.2.1 h.2.2.1 (bI h.2.2.2.1 h.2.2.2.2) k
theorem Kq (h : (aC ops L o, o.dst, Nat.blt d n) = (some true, some d, true)) (hr : Rd ds P o n L S v) (k : WL ds P ops Q n rest ((d, v) :: L) S) : WL ds P ops Q n (o :: rest) L S := by
  simp only [Prod.mk.injEq] at h; exact WL.r h.1 h.2.1 h.2.2 hr k
theorem Kt (h : (aC ops L o, o.dst, Nat.blt d n) = (some false, some d, true)) (k : WL ds P ops Q n rest ((d, undef) :: L) S) : WL ds P ops Q n (o :: rest) L S := by
  simp only [Prod.mk.injEq] at h; exact WL.s h.1 h.2.1 h.2.2 k
theorem Kh (h : (aC ops L o, o.dst, Nat.blt d n) = (some true, some d, true)) (hr : Og ds P o n L S val S') (k : ∀ g, WL ds P ops Q n rest ((d, val g) :: L) (S' g)) : WL ds P ops Q n (o :: rest) L S := by
  simp only [Prod.mk.injEq] at h; exact WL.g h.1 h.2.1 h.2.2 hr k
theorem Kj {is : List Nat} {ok : Nat → Prop} {w0 : World} {F : Act → World → Prop} {own z : List Ent} {fs : List Fact} (h : (ops[i]?, marks.getD i 2, aC ops L o, o.dst, Nat.blt d n) = (some o, 0, some true, some d, true)) (hr : Rd ds P o n L C v) (k : WJ ds P ops ok w0 C F marks n is ((d, v) :: L) own fs z) : WJ ds P ops ok w0 C F marks n (i :: is) L own fs z := by
  simp only [Prod.mk.injEq] at h; exact WJ.r h.1 h.2.1 h.2.2.1 h.2.2.2.1 h.2.2.2.2 hr k
end
theorem Xa : type_of% @WX.then_normal := @WX.then_normal
theorem Xb : type_of% @WX.then_ret := @WX.then_ret
theorem Xc : type_of% @WX.then_exit := @WX.then_exit
theorem Xd : type_of% @WX.block_normal := @WX.block_normal
theorem Xe : type_of% @WX.block_exit := @WX.block_exit
theorem Xf : type_of% @WX.block_ret := @WX.block_ret
theorem Nt : type_of% @WL.nt := @WL.nt
theorem Cs : type_of% @WC.sr := @WC.sr
theorem Cq : type_of% @WC.seq := @WC.seq
theorem Ce : type_of% @WC.ret := @WC.ret
theorem Cd : type_of% @WC.cond := @WC.cond
theorem Cg : type_of% @WC.region := @WC.region
theorem Ck : type_of% @WC.skip := @WC.skip
theorem Cb : type_of% @WC.block := @WC.block
theorem Cx : type_of% @WC.exit := @WC.exit
theorem Nn : type_of% @WL.nil := @WL.nil
theorem Rn : type_of% @WX.retN := @WX.retN
theorem Ac : type_of% @fi := @fi
theorem An : type_of% @ja := @ja
theorem Kv : type_of% @gg := @gg
theorem Fn : type_of% @gK := @gK
theorem Fc : type_of% @lc := @lc
theorem Re : type_of% @mZ := @mZ
theorem Rm : type_of% @ci := @ci
theorem Rp : type_of% @kH := @kH
theorem Rq : type_of% @kI := @kI
theorem Rz : type_of% @kO := @kO
theorem Sc : type_of% @ao := @ao
theorem S0 : type_of% @cS := @cS
theorem Ng : type_of% @WL.g0 := @WL.g0
theorem Nb : type_of% @WL.bool := @WL.bool
theorem Ns : type_of% @WL.set := @WL.set
theorem Ra : type_of% @bI := @bI
theorem Js : type_of% @WJ.s := @WJ.s
theorem Jv : type_of% @WJ.gv := @WJ.gv
theorem Jf : type_of% @WJ.f := @WJ.f
theorem Jg : type_of% @WJ.g := @WJ.g
theorem Lo : type_of% @WC.loopO := @WC.loopO
theorem Lx : type_of% @WX.loopO := @WX.loopO
theorem Lp : type_of% @WC.loopP := @WC.loopP
theorem Ly : type_of% @WX.loopP := @WX.loopP
theorem Ob : type_of% @po := @po
theorem Oa : type_of% @kU := @kU
theorem Rt : type_of% @pe := @pe
theorem Cf : type_of% @WC.free0 := @WC.free0
section
variable {L : ak} {d1 d2 d3 d4 d5 d6 d7 d8 d9 : Nat} {v1 v2 v3 v4 v5 v6 v7 v8 v9 : Value}
theorem S1 (h1 : al L d1 = some v1) : ∀ k u, al [(d1, v1)] k = some u → al L k = some u := ao h1 (cS _)
theorem S2 (h1 : al L d1 = some v1) (h2 : al L d2 = some v2) : ∀ k u, al [(d1, v1), (d2, v2)] k = some u → al L k = some u := ao h1 (ao h2 (cS _))
theorem S3 (h1 : al L d1 = some v1) (h2 : al L d2 = some v2) (h3 : al L d3 = some v3) : ∀ k u, al [(d1, v1), (d2, v2), (d3, v3)] k = some u → al L k = some u := ao h1 (ao h2 (ao h3 (cS _)))
theorem S4 (h1 : al L d1 = some v1) (h2 : al L d2 = some v2) (h3 : al L d3 = some v3) (h4 : al L d4 = some v4) : ∀ k u, al [(d1, v1), (d2, v2), (d3, v3), (d4, v4)] k = some u → al L k = some u := ao h1 (ao h2 (ao h3 (ao h4 (cS _))))
theorem S5 (h1 : al L d1 = some v1) (h2 : al L d2 = some v2) (h3 : al L d3 = some v3) (h4 : al L d4 = some v4) (h5 : al L d5 = some v5) : ∀ k u, al [(d1, v1), (d2, v2), (d3, v3), (d4, v4), (d5, v5)] k = some u → al L k = some u := ao h1 (ao h2 (ao h3 (ao h4 (ao h5 (cS _)))))
theorem S6 (h1 : al L d1 = some v1) (h2 : al L d2 = some v2) (h3 : al L d3 = some v3) (h4 : al L d4 = some v4) (h5 : al L d5 = some v5) (h6 : al L d6 = some v6) : ∀ k u, al [(d1, v1), (d2, v2), (d3, v3), (d4, v4), (d5, v5), (d6, v6)] k = some u → al L k = some u := ao h1 (ao h2 (ao h3 (ao h4 (ao h5 (ao h6 (cS _))))))
theorem S7 (h1 : al L d1 = some v1) (h2 : al L d2 = some v2) (h3 : al L d3 = some v3) (h4 : al L d4 = some v4) (h5 : al L d5 = some v5) (h6 : al L d6 = some v6) (h7 : al L d7 = some v7) : ∀ k u, al [(d1, v1), (d2, v2), (d3, v3), (d4, v4), (d5, v5), (d6, v6), (d7, v7)] k = some u → al L k = some u := ao h1 (ao h2 (ao h3 (ao h4 (ao h5 (ao h6 (ao h7 (cS _)))))))
theorem S8 (h1 : al L d1 = some v1) (h2 : al L d2 = some v2) (h3 : al L d3 = some v3) (h4 : al L d4 = some v4) (h5 : al L d5 = some v5) (h6 : al L d6 = some v6) (h7 : al L d7 = some v7) (h8 : al L d8 = some v8) : ∀ k u, al [(d1, v1), (d2, v2), (d3, v3), (d4, v4), (d5, v5), (d6, v6), (d7, v7), (d8, v8)] k = some u → al L k = some u := ao h1 (ao h2 (ao h3 (ao h4 (ao h5 (ao h6 (ao h7 (ao h8 (cS _))))))))
theorem S9 (h1 : al L d1 = some v1) (h2 : al L d2 = some v2) (h3 : al L d3 = some v3) (h4 : al L d4 = some v4) (h5 : al L d5 = some v5) (h6 : al L d6 = some v6) (h7 : al L d7 = some v7) (h8 : al L d8 = some v8) (h9 : al L d9 = some v9) : ∀ k u, al [(d1, v1), (d2, v2), (d3, v3), (d4, v4), (d5, v5), (d6, v6), (d7, v7), (d8, v8), (d9, v9)] k = some u → al L k = some u := ao h1 (ao h2 (ao h3 (ao h4 (ao h5 (ao h6 (ao h7 (ao h8 (ao h9 (cS _)))))))))
end
section
variable {ds : List Deferred} {P : Program} {o : Oper} {n off b sz e t q : Nat} {Z : World → Prop} {w0 : World} {L : ak} {own : List Ent} {fs : List Fact} {ok : Nat → Prop} {x y : Operand} {i : Int} {k : IntKind} {a : Option Addr} {xs : List Value}
theorem Kb {t : TypeId} {cs : List Value} {parts : List (Nat × Operand)} {vs : List (Nat × Value)} (zs : List (List Value)) (hop : o.op = .build t parts.toArray) (hp : cj L parts = some vs) (hcs : bld vs 0 zs = cs := by simp only [bld, zQ, Nat.beq, Value.cells, cond_true, cond_false, List.nil_append, List.cons_append, Bl]; rfl) (hrun : ∀ w : World, (Instr.build t vs.toArray).run P w = .ok (.agg cs.toArray) w := by intro w; kernel_rfl) : Rd ds P o n L Z (.agg cs.toArray) := y7 zs hop hp hcs hrun
theorem Ia {len cap : Nat} (hop : o.op = .indexAddr t x y) (hx : ag L x = some (.slice a len cap)) (hy : ag L y = some (.int k i)) [hf : HasF fs a xs] (hu : P.underlying t = some (.slice e)) (hs : (P.info? e).map (·.size) = some sz) (hb : 0 ≤ i ∧ i < (len : Int)) (hxs : 0 < xs.length) (hq : i.toNat * sz = q := by (try simp only [At, A0, Az, Ba, Cc, Int.reduceToNat, Nat.reduceAdd, Nat.reduceMul, Nat.reduceSub, Ch]); rfl) : Rd ds P o n L (St ok w0 own fs) (pt a q) := iaf hop hx hy hu hs hb hxs hq
theorem Ib {len cap : Nat} (hop : o.op = .indexAddr t x y) (hx : ag L x = some (.slice a len cap)) (hy : ag L y = some (.int k i)) [hf : HasF fs a xs] (hu : P.underlying t = some (.slice e)) (hb : 0 ≤ i ∧ i < (len : Int)) (hxs : 0 < xs.length) (hs : (P.info? e).map (·.size) = some 1 := by kernel_rfl) (hq : i.toNat * 1 = q := by (try simp only [At, A0, Az, Ba, Cc, Int.reduceToNat, Nat.reduceAdd, Nat.reduceMul, Nat.reduceSub, Ch]); rfl) : Rd ds P o n L (St ok w0 own fs) (pt a q) := iaf hop hx hy hu hs hb hxs hq
theorem Ja {len cap q : Nat} (hop : o.op = .indexAddr t x y) (hx : ag L x = some (.slice (some ⟨b, off, none⟩) len cap)) (hy : ag L y = some (.int k i)) (hu : P.underlying t = some (.slice e)) (hs : (P.info? e).map (·.size) = some sz) (hb : 0 ≤ i ∧ i < (len : Int)) (hq : off + i.toNat * sz = q := by (try simp only [At, A0, Az, Ba, Cc, Int.reduceToNat, Nat.reduceAdd, Nat.reduceMul, Nat.reduceSub, Ch]); rfl) : Rd ds P o n L (St ok w0 own fs) (.pointer (some ⟨b, q, none⟩)) := AN hop hx hy hu hs hb hq
theorem Jb {len q : Nat} (hop : o.op = .indexAddr t x y) (hx : ag L x = some (.pointer (some ⟨b, off, none⟩))) (hy : ag L y = some (.int k i)) (hu : P.underlying t = some (.array len e)) (hs : (P.info? e).map (·.size) = some sz) (hb : 0 ≤ i ∧ i < (len : Int)) (hq : off + i.toNat * sz = q := by (try simp only [At, A0, Az, Ba, Cc, Int.reduceToNat, Nat.reduceAdd, Nat.reduceMul, Nat.reduceSub, Ch]); rfl) : Rd ds P o n L (St ok w0 own fs) (.pointer (some ⟨b, q, none⟩)) := y3 hop hx hy hu hs hb hq
theorem Fa {f : Nat} {flds : Array Field} {fd : Field} {q : Nat} (hop : o.op = .fieldAddr t x f) (hx : ag L x = some (.pointer (some ⟨b, off, none⟩))) (hu : P.underlying t = some (.struct flds)) (hf : flds[f]? = some fd) (hq : off + fd.offset = q) (hs : ((P.info? fd.type).map (fun i => decide (0 < i.size))) = some true := by kernel_rfl) : Rd ds P o n L (St ok w0 own fs) (.pointer (some ⟨b, q, none⟩)) := cX hop hx hu hf hs hq
abbrev Cw (f : FuncId) (args : Array Value) (w : World) (v : Value) : Prop := Calls Tryz.prog f args w fun e w' => e = .returned v ∧ Below w.heap.size w w'
theorem Oz (cs : List Value) (hop : o.op = .alloc t) (hz : (P.info? t).bind (·.zero) = some (.agg cs.toArray) := by kernel_rfl) : Og ds P o n L (St ok w0 own fs) (fun b : Nat => .pointer (some ⟨b, 0, none⟩)) (fun b => St ok w0 (⟨some b, cs, t⟩ :: own) fs) := kU hop hz (by simp [Value.cells])
theorem DL (l : List Value) : (Value.agg l.toArray).cells.toList = l := by simp [Value.cells]
theorem Oy {v : Value} {cs : List Value} (hop : o.op = .box t x) (hx : ag L x = some v) (hc : v.cells.toList = cs := by exact DL _) : Og ds P o n L (St ok w0 own fs) (fun b : Nat => .pointer (some ⟨b, 0, none⟩)) (fun b => St ok w0 (⟨some b, cs, t⟩ :: own) fs) := po hop hx hc
theorem Ld {cs : List Value} {T : TypeId} {v : Value} {d : TypeDesc} (hop : o.op = .load t x) (hx : ag L x = some (.pointer (some ⟨b, off, none⟩))) (hk : InE own ⟨some b, cs, T⟩) (hu : P.underlying t = some d) (hd : a8 d = false := by rfl) (hv : cs[off]? = some v := by rfl) : Rd ds P o n L (St ok w0 own fs) v := ld hop hx hk hu hd hv
theorem En {f n : Nat} {fn : Func} {c : Code} {args : Array Value} {w : World} {R : Ending → World → Prop} (fs : List Fact) (L : ak) (hf : P.funcs[f]? = some fn) (hb : fn.body = some c) (hn : fn.ntmps = n) (ha : Nat.ble args.size n = true) (hL : ∀ k v, al L k = some v → args[k]? = some v) (hF : ∀ x ∈ fs, x.holds (fun _ => True) w) (k : WC [] none P c (bodyPost P fn R) n L (St (fun _ => True) w [] fs)) : Calls P f args w R :=
  enter hf hb hn ha hL (St.start (fun _ _ => trivial) hF) k
theorem R1 {fn : Func} {r1 : Nat} {v1 : Value} {e : Ending} (hr : fn.results = [ResultVar.tmp r1].toArray) (h1 : al L r1 = some v1) (h : Ending.returned (tup [v1]) = e) : WX [] (bodyPost P fn fun e' w' => e' = e ∧ Below w0.heap.size w0 w') .ret n L (St ok w0 own fs) := WX.retN hr (.tmp h1 .nil) fun _ hS => ⟨h, hS.below⟩
theorem R2 {fn : Func} {r1 r2 : Nat} {v1 v2 : Value} {e : Ending} (hr : fn.results = [ResultVar.tmp r1, ResultVar.tmp r2].toArray) (h1 : al L r1 = some v1) (h2 : al L r2 = some v2) (h : Ending.returned (tup [v1, v2]) = e) : WX [] (bodyPost P fn fun e' w' => e' = e ∧ Below w0.heap.size w0 w') .ret n L (St ok w0 own fs) := WX.retN hr (.tmp h1 (.tmp h2 .nil)) fun _ hS => ⟨h, hS.below⟩
theorem R3 {fn : Func} {r1 r2 r3 : Nat} {v1 v2 v3 : Value} {e : Ending} (hr : fn.results = [ResultVar.tmp r1, ResultVar.tmp r2, ResultVar.tmp r3].toArray) (h1 : al L r1 = some v1) (h2 : al L r2 = some v2) (h3 : al L r3 = some v3) (h : Ending.returned (tup [v1, v2, v3]) = e) : WX [] (bodyPost P fn fun e' w' => e' = e ∧ Below w0.heap.size w0 w') .ret n L (St ok w0 own fs) := WX.retN hr (.tmp h1 (.tmp h2 (.tmp h3 .nil))) fun _ hS => ⟨h, hS.below⟩
theorem Sa {cs ys : List Value} {T : TypeId} {C : Ent → List Ent} (hop : o.op = .store t x y) (hx : ag L x = some (.pointer (some ⟨b, 0, none⟩))) (hy : ag L y = some (.agg ys.toArray)) (hk : Ctx own ⟨some b, cs, T⟩ C) (hs : (P.info? t).map (·.size) = some ys.length := by kernel_rfl) (h1 : ∀ v ∈ ys, v.oneCell' = true := by simp [Value.oneCell']) (hl : ys.length = cs.length := by first | rfl | simp) : Og ds P o n L (St ok w0 own fs) (fun _ : Unit => undef) (fun _ => St ok w0 (C ⟨some b, ys, T⟩) fs) := sta hop hx hy hk hs h1 hl
theorem Ku {ops rest : List Oper} {Q : Exit → Act → World → Prop} {d : Nat} {v : Value} {S1 S2 : World → Prop} (h : (aC ops L o, o.dst, Nat.blt d n) = (some true, some d, true)) (hr : Og ds P o n L S1 (fun _ : Unit => v) (fun _ => S2)) (k : WL ds P ops Q n rest ((d, v) :: L) S2) : WL ds P ops Q n (o :: rest) L S1 := Kh h hr fun _ => k
theorem Nu {ops rest : List Oper} {Q : Exit → Act → World → Prop} {v : Value} {S1 S2 : World → Prop} (h : aC ops L o = some true) (hd : o.dst = none) (hr : Og ds P o n L S1 (fun _ : Unit => v) (fun _ => S2)) (k : WL ds P ops Q n rest L S2) : WL ds P ops Q n (o :: rest) L S1 := WL.g0 h hd hr fun _ => k
theorem Oc {γ : Type} {val : γ → Value} {Z' : γ → World → Prop} {f : FuncId} {as0 : List Operand} {tys : Array TypeId} {args : List Value} (hop : o.op = .call { callee := .value (.func f), args := as0.toArray, argTypes := tys }) (hargs : ek L as0 = some args)
    (h : ∀ w, Z w → Calls P f args.toArray w (fun e w' => ∃ g, e = .returned (val g) ∧ Z' g w')) (hg : eO P f = true := by kernel_rfl) : Og ds P o n L Z val Z' := j2 hop hargs hg h
end
section
variable {ds : List Deferred} {P : Program} {ops rest : List Oper} {Z : World → Prop} {Q : Exit → Act → World → Prop} {n d ix m c0 : Nat} {L : ak} {o : Oper} {x y c : Operand} {v : Value} {vs : List Value} {b : Bool} {t t2 e : TypeId} {k : IntKind} {i j : Int} {a a2 : List UInt8} {ad : Option Addr}
theorem Ye (h : (aC ops L o, o.dst, Nat.blt d n, o.op, ag L x, vs[ix]?) = (some true, some d, true, .extract x ix, some (.tuple vs.toArray), some v)) (K : WL ds P ops Q n rest ((d, v) :: L) Z) : WL ds P ops Q n (o :: rest) L Z := by simp only [Prod.mk.injEq] at h; exact WL.r h.1 h.2.1 h.2.2.1 (mZ h.2.2.2.1 h.2.2.2.2.1 h.2.2.2.2.2) K
theorem Yp (h : (aC ops L o, o.dst, Nat.blt d n, o.op, ag L c, ag L x) = (some true, some d, true, .pick c x y, some (.bool true), some v)) (K : WL ds P ops Q n rest ((d, v) :: L) Z) : WL ds P ops Q n (o :: rest) L Z := by simp only [Prod.mk.injEq] at h; exact WL.r h.1 h.2.1 h.2.2.1 (kH h.2.2.2.1 h.2.2.2.2.1 h.2.2.2.2.2) K
theorem Yq (h : (aC ops L o, o.dst, Nat.blt d n, o.op, ag L c, ag L y) = (some true, some d, true, .pick c x y, some (.bool false), some v)) (K : WL ds P ops Q n rest ((d, v) :: L) Z) : WL ds P ops Q n (o :: rest) L Z := by simp only [Prod.mk.injEq] at h; exact WL.r h.1 h.2.1 h.2.2.1 (kI h.2.2.2.1 h.2.2.2.2.1 h.2.2.2.2.2) K
theorem Yt (h : (aC ops L o, o.dst, Nat.blt d n, o.op, ag L x) = (some true, some d, true, .unOp .not t x, some (.bool b))) (K : WL ds P ops Q n rest ((d, .bool (!b)) :: L) Z) : WL ds P ops Q n (o :: rest) L Z := by simp only [Prod.mk.injEq] at h; exact WL.r h.1 h.2.1 h.2.2.1 (pe h.2.2.2.1 h.2.2.2.2) K
theorem Yl (h : (aC ops L o, o.dst, Nat.blt d n, o.op, ag L x, ag L y) = (some true, some d, true, .binOp .lss t x y t2, some (.int k i), some (.int k j))) (K : WL ds P ops Q n rest ((d, .bool (decide (i < j))) :: L) Z) : WL ds P ops Q n (o :: rest) L Z := by simp only [Prod.mk.injEq] at h; exact WL.r h.1 h.2.1 h.2.2.1 (kL h.2.2.2.1 h.2.2.2.2.1 h.2.2.2.2.2) K
theorem Ym (h : (aC ops L o, o.dst, Nat.blt d n, o.op, ag L x, ag L y) = (some true, some d, true, .binOp .leq t x y t2, some (.int k i), some (.int k j))) (K : WL ds P ops Q n rest ((d, .bool (decide (i ≤ j))) :: L) Z) : WL ds P ops Q n (o :: rest) L Z := by simp only [Prod.mk.injEq] at h; exact WL.r h.1 h.2.1 h.2.2.1 (tS h.2.2.2.1 h.2.2.2.2.1 h.2.2.2.2.2) K
theorem Yg (h : (aC ops L o, o.dst, Nat.blt d n, o.op, ag L x, ag L y) = (some true, some d, true, .binOp .gtr t x y t2, some (.int k i), some (.int k j))) (K : WL ds P ops Q n rest ((d, .bool (decide (j < i))) :: L) Z) : WL ds P ops Q n (o :: rest) L Z := by simp only [Prod.mk.injEq] at h; exact WL.r h.1 h.2.1 h.2.2.1 (mY h.2.2.2.1 h.2.2.2.2.1 h.2.2.2.2.2) K
theorem Yh (h : (aC ops L o, o.dst, Nat.blt d n, o.op, ag L x, ag L y) = (some true, some d, true, .binOp .geq t x y t2, some (.int k i), some (.int k j))) (K : WL ds P ops Q n rest ((d, .bool (decide (j ≤ i))) :: L) Z) : WL ds P ops Q n (o :: rest) L Z := by simp only [Prod.mk.injEq] at h; exact WL.r h.1 h.2.1 h.2.2.1 (ph h.2.2.2.1 h.2.2.2.2.1 h.2.2.2.2.2) K
theorem Yi (h : (aC ops L o, o.dst, Nat.blt d n, o.op, ag L x, ag L y) = (some true, some d, true, .binOp .eql t x y t2, some (.int k i), some (.int k j))) (K : WL ds P ops Q n rest ((d, .bool (decide (i = j))) :: L) Z) : WL ds P ops Q n (o :: rest) L Z := by simp only [Prod.mk.injEq] at h; exact WL.r h.1 h.2.1 h.2.2.1 (y4 h.2.2.2.1 h.2.2.2.2.1 h.2.2.2.2.2) K
theorem Yj (h : (aC ops L o, o.dst, Nat.blt d n, o.op, ag L x, ag L y) = (some true, some d, true, .binOp .neq t x y t2, some (.int k i), some (.int k j))) (K : WL ds P ops Q n rest ((d, .bool (!decide (i = j))) :: L) Z) : WL ds P ops Q n (o :: rest) L Z := by simp only [Prod.mk.injEq] at h; exact WL.r h.1 h.2.1 h.2.2.1 (mW h.2.2.2.1 h.2.2.2.2.1 h.2.2.2.2.2) K
theorem Ys (h : (aC ops L o, o.dst, Nat.blt d n, o.op, ag L x, ag L y) = (some true, some d, true, .binOp .eql t x y t2, some (.string (S a)), some (.string (S a2)))) (K : WL ds P ops Q n rest ((d, .bool (decide (a = a2))) :: L) Z) : WL ds P ops Q n (o :: rest) L Z := by simp only [Prod.mk.injEq] at h; exact WL.r h.1 h.2.1 h.2.2.1 (mT h.2.2.2.1 h.2.2.2.2.1 h.2.2.2.2.2) K
theorem Yr (h : (aC ops L o, o.dst, Nat.blt d n, o.op, ag L x, ag L y) = (some true, some d, true, .binOp .neq t x y t2, some (.string (S a)), some (.string (S a2)))) (K : WL ds P ops Q n rest ((d, .bool (!decide (a = a2))) :: L) Z) : WL ds P ops Q n (o :: rest) L Z := by simp only [Prod.mk.injEq] at h; exact WL.r h.1 h.2.1 h.2.2.1 (pc h.2.2.2.1 h.2.2.2.2.1 h.2.2.2.2.2) K
theorem Yn (h : (aC ops L o, o.dst, Nat.blt d n, o.op, ag L x) = (some true, some d, true, .call { callee := .builtin .len, args := #[x], argTypes := #[t] }, some (.string (S a)))) (h1 : P.underlying t = some .string) (K : WL ds P ops Q n rest ((d, .int .i64 (a.length : Int)) :: L) Z) : WL ds P ops Q n (o :: rest) L Z := by simp only [Prod.mk.injEq] at h; exact WL.r h.1 h.2.1 h.2.2.1 (wN h.2.2.2.1 h.2.2.2.2 h1) K
theorem Yo (h : (aC ops L o, o.dst, Nat.blt d n, o.op, ag L x) = (some true, some d, true, .call { callee := .builtin .len, args := #[x], argTypes := #[t] }, some (.slice ad m c0))) (h1 : P.underlying t = some (.slice e)) (K : WL ds P ops Q n rest ((d, .int .i64 (m : Int)) :: L) Z) : WL ds P ops Q n (o :: rest) L Z := by simp only [Prod.mk.injEq] at h; exact WL.r h.1 h.2.1 h.2.2.1 (pf h.2.2.2.1 h.2.2.2.2 h1) K
end
section
variable {ds : List Deferred} {ρ : Option Nat} {P : Program} {ops rest : List Oper} {Z : World → Prop} {Q : Exit → Act → World → Prop} {n d d2 d3 d4 f : Nat} {L : ak} {o o2 o3 o4 : Oper} {x y c : Operand} {v : Value} {t t2 T : TypeId} {own : List Ent} {fs : List Fact} {ok : Nat → Prop} {w0 : World}
theorem Kc {f : FuncId} {as0 : List Operand} {tys : Array TypeId} {args : List Value} (h : (aC ops L o, o.dst, Nat.blt d n, o.op, ek L as0) = (some true, some d, true, .call { callee := .value (.func f), args := as0.toArray, argTypes := tys }, some args)) (hc : ∀ w, St ok w0 own fs w → Calls P f args.toArray w (fun e w' => e = .returned v ∧ Below w.heap.size w w')) (k : WL ds P ops Q n rest ((d, v) :: L) (St ok w0 own fs)) (hg : eO P f = true := by kernel_rfl) : WL ds P ops Q n (o :: rest) L (St ok w0 own fs) := by
  simp only [Prod.mk.injEq] at h; exact WL.g h.1 h.2.1 h.2.2.1 (j2 h.2.2.2.1 h.2.2.2.2 hg (gg hc)) fun _ => k
theorem T2 (h : (aC ops L o, o.dst, Nat.blt d n, aC ops ((d, undef) :: L) o2, o2.dst, Nat.blt d2 n) = (some false, some d, true, some false, some d2, true)) (k : WL ds P ops Q n rest ((d2, undef) :: (d, undef) :: L) Z) : WL ds P ops Q n (o :: o2 :: rest) L Z := by
  simp only [Prod.mk.injEq] at h; exact WL.s h.1 h.2.1 h.2.2.1 (WL.s h.2.2.2.1 h.2.2.2.2.1 h.2.2.2.2.2 k)
theorem T4 (h : (aC ops L o, o.dst, Nat.blt d n, aC ops ((d, undef) :: L) o2, o2.dst, Nat.blt d2 n, aC ops ((d2, undef) :: (d, undef) :: L) o3, o3.dst, Nat.blt d3 n, aC ops ((d3, undef) :: (d2, undef) :: (d, undef) :: L) o4, o4.dst, Nat.blt d4 n) = (some false, some d, true, some false, some d2, true, some false, some d3, true, some false, some d4, true)) (k : WL ds P ops Q n rest ((d4, undef) :: (d3, undef) :: (d2, undef) :: (d, undef) :: L) Z) : WL ds P ops Q n (o :: o2 :: o3 :: o4 :: rest) L Z := by
  simp only [Prod.mk.injEq] at h; obtain ⟨h1, h2, h3, h4, h5, h6, h7, h8, h9, ha, hb, hc⟩ := h; exact WL.s h1 h2 h3 (WL.s h4 h5 h6 (WL.s h7 h8 h9 (WL.s ha hb hc k)))
theorem Kf (q : Nat) {b off b2 off2 : Nat} {flds : Array Field} {fd : Field} {cs : List Value} {de : TypeDesc} (h : (aC ops L o, o.dst, Nat.blt d n, o.op, ag L x) = (some true, some d, true, .fieldAddr t x f, some (.pointer (some ⟨b, off, none⟩)))) (hu : P.underlying t = some (.struct flds)) (hf : flds[f]? = some fd) (hq : off + fd.offset = q)
    (h2 : (aC ops ((d, .pointer (some ⟨b, q, none⟩)) :: L) o2, o2.dst, Nat.blt d2 n, o2.op, ag ((d, .pointer (some ⟨b, q, none⟩)) :: L) y) = (some true, some d2, true, .load t2 y, some (.pointer (some ⟨b2, off2, none⟩)))) (hk : InE own ⟨some b2, cs, T⟩) (hu2 : P.underlying t2 = some de) (k : WL ds P ops Q n rest ((d2, v) :: (d, .pointer (some ⟨b, q, none⟩)) :: L) (St ok w0 own fs)) (hd : a8 de = false := by rfl) (hv : cs[off2]? = some v := by rfl) (hs : ((P.info? fd.type).map (fun i => decide (0 < i.size))) = some true := by kernel_rfl) : WL ds P ops Q n (o :: o2 :: rest) L (St ok w0 own fs) := by
  simp only [Prod.mk.injEq] at h h2; exact WL.r h.1 h.2.1 h.2.2.1 (cX h.2.2.2.1 h.2.2.2.2 hu hf hs hq) (WL.r h2.1 h2.2.1 h2.2.2.1 (ld h2.2.2.2.1 h2.2.2.2.2 hk hu2 hd hv) k)
class SB (p : Prop) (q : outParam Prop) : Prop where h : p = q
instance (priority := low) {p : Prop} : SB p p := ⟨rfl⟩
instance {p q : Prop} [Decidable p] [k : SB p q] : SB (decide p = true) q := ⟨by rw [← k.h]; simp⟩
instance {p q : Prop} [Decidable p] [k : SB (¬p) q] : SB (decide p = false) q := ⟨by rw [← k.h]; simp⟩
instance {b : Bool} {q : Prop} [k : SB (b = false) q] : SB ((!b) = true) q := ⟨by rw [← k.h]; simp⟩
instance {b : Bool} {q : Prop} [k : SB (b = true) q] : SB ((!b) = false) q := ⟨by rw [← k.h]; simp⟩
instance {a b : Int} : SB (¬ a < b) (b ≤ a) := ⟨by simp⟩
instance {a b : Int} : SB (¬ a ≤ b) (b < a) := ⟨by simp⟩
instance {p p2 q q2 : Prop} [k : SB p p2] [j : SB q q2] : SB (p ∧ q) (p2 ∧ q2) := ⟨by rw [k.h, j.h]⟩
instance {p p2 q q2 : Prop} [k : SB p p2] [j : SB q q2] : SB (p ∨ q) (p2 ∨ q2) := ⟨by rw [k.h, j.h]⟩
instance (priority := mid) {p q : Prop} [k : SB p q] : SB (¬ p) (¬ q) := ⟨by rw [k.h]⟩
theorem Nc (d : Nat) {t : Bool} {p q : Prop} (h : al L d = some (.bool t)) [i : SB (t = true) p] [j : SB (t = false) q] (h1 : p → WL ds P ops Q n rest ((d, .bool true) :: L) Z) (h2 : q → WL ds P ops Q n rest ((d, .bool false) :: L) Z) : WL ds P ops Q n rest L Z := WL.bool d h (fun e => h1 (i.h.mp e)) (fun e => h2 (j.h.mp e))
theorem Ci {x y : Code} {t : Bool} {p q : Prop} (h : ag L c = some (.bool t)) [i : SB (t = true) p] [j : SB (t = false) q] (h1 : p → WC ds ρ P x Q n L Z) (h2 : q → WC ds ρ P y Q n L Z) : WC ds ρ P (.cond c x y) Q n L Z := WC.cond h (fun e => h1 (i.h.mp e)) (fun e => h2 (j.h.mp e))
end
theorem u2 : type_of% Tryz.underlying2 := Tryz.underlying2
theorem u3 : type_of% Tryz.underlying3 := Tryz.underlying3
theorem u4 : type_of% Tryz.underlying4 := Tryz.underlying4
theorem u5 : type_of% Tryz.underlying5 := Tryz.underlying5
theorem u9 : type_of% Tryz.underlying9 := Tryz.underlying9
theorem u22 : type_of% Tryz.underlying22 := Tryz.underlying22
theorem u24 : type_of% Tryz.underlying24 := Tryz.underlying24
theorem u26 : type_of% Tryz.underlying26 := Tryz.underlying26
theorem u28 : type_of% Tryz.underlying28 := Tryz.underlying28
theorem u30 : type_of% Tryz.underlying30 := Tryz.underlying30
theorem u31 : type_of% Tryz.underlying31 := Tryz.underlying31
theorem u33 : type_of% Tryz.underlying33 := Tryz.underlying33
theorem u35 : type_of% Tryz.underlying35 := Tryz.underlying35
theorem u37 : type_of% Tryz.underlying37 := Tryz.underlying37
theorem u38 : type_of% Tryz.underlying38 := Tryz.underlying38
theorem u39 : type_of% Tryz.underlying39 := Tryz.underlying39
theorem u41 : type_of% Tryz.underlying41 := Tryz.underlying41
theorem u43 : type_of% Tryz.underlying43 := Tryz.underlying43
theorem u47 : type_of% Tryz.underlying47 := Tryz.underlying47
theorem u54 : type_of% Tryz.underlying54 := Tryz.underlying54
theorem u55 : type_of% Tryz.underlying55 := Tryz.underlying55
theorem u56 : type_of% Tryz.underlying56 := Tryz.underlying56
theorem u58 : type_of% Tryz.underlying58 := Tryz.underlying58
theorem u76 : type_of% Tryz.underlying76 := Tryz.underlying76
theorem u77 : type_of% Tryz.underlying77 := Tryz.underlying77
theorem u93 : type_of% Tryz.underlying93 := Tryz.underlying93
theorem u95 : type_of% Tryz.underlying95 := Tryz.underlying95
theorem u97 : type_of% Tryz.underlying97 := Tryz.underlying97
theorem u99 : type_of% Tryz.underlying99 := Tryz.underlying99
theorem jM : type_of% Tryz.underlying122 := Tryz.underlying122
theorem oW : type_of% Tryz.underlying124 := Tryz.underlying124
theorem yE : type_of% Tryz.underlying125 := Tryz.underlying125
theorem aE : type_of% Tryz.underlying140 := Tryz.underlying140
theorem AE : type_of% Tryz.underlying171 := Tryz.underlying171
theorem CV : type_of% Tryz.underlying178 := Tryz.underlying178
theorem AD : type_of% Tryz.underlying191 := Tryz.underlying191
theorem vV : type_of% Tryz.underlying196 := Tryz.underlying196
theorem yD : type_of% Tryz.underlying203 := Tryz.underlying203
theorem CU : type_of% Tryz.underlying214 := Tryz.underlying214
theorem td : type_of% Tryz.underlying219 := Tryz.underlying219
theorem kn : type_of% Tryz.underlying220 := Tryz.underlying220
theorem CT : type_of% Tryz.underlying224 := Tryz.underlying224
theorem dN : type_of% Tryz.underlying249 := Tryz.underlying249
theorem yC : type_of% Tryz.underlying254 := Tryz.underlying254
theorem rm : type_of% Tryz.underlying257 := Tryz.underlying257
theorem gR : type_of% Tryz.underlying268 := Tryz.underlying268
theorem em : type_of% Tryz.underlying274 := Tryz.underlying274
theorem km : type_of% Tryz.underlying284 := Tryz.underlying284
def Fact.lp (l : Nat) (r : Loop) : Fact where
 holds ok w := ok l ∧ w.heap[l]? = some (.loop r)
 mono h := fun hh => ⟨h _ hh.1, hh.2⟩
 stable := fun hh _ hk => ⟨hh.1, by rw [hk l (A3.1 hh.2).1 hh.1]; exact hh.2⟩
 here := fun hh => ⟨⟨hh.1, (A3.1 hh.2).1⟩, hh.2⟩
def Fact.dfr (D : Nat) : Fact where
 holds ok w := ok D ∧ w.heap[D]? = some (.deferred (some []))
 mono h := fun hh => ⟨h _ hh.1, hh.2⟩
 stable := fun hh _ hk => ⟨hh.1, by rw [hk D (A3.1 hh.2).1 hh.1]; exact hh.2⟩
 here := fun hh => ⟨⟨hh.1, (A3.1 hh.2).1⟩, hh.2⟩
class FL (f : Fact) : Prop where
 h : ∀ {ok : Nat → Prop} {w : World} {l : Nat} {r : Loop} (r' : Loop), f.holds ok w → w.heap[l]? = some (.loop r) → f.holds ok (w.putObj l (.loop r'))
class FD (f : Fact) : Prop where
 h : ∀ {ok : Nat → Prop} {w : World} {D : Nat} {ds : Option (List Deferred)} (ds' : Option (List Deferred)), f.holds ok w → w.heap[D]? = some (.deferred ds) → f.holds ok (w.putObj D (.deferred ds'))
theorem kv {a : Option Addr} {xs : List Value} {ok : Nat → Prop} {w : World} {k : Nat} {o : Obj} (o' : Obj) (h : (Fact.sl a xs).holds ok w) (hk : w.heap[k]? = some o) (hn : ∀ cs T fz, o ≠ .cells cs T fz) : (Fact.sl a xs).holds ok (w.putObj k o') := by
 rcases h with h | ⟨b, off, cs, T, fz, h1, h2, h3, h4⟩
 ·exact .inl h
 ·refine .inr ⟨b, off, cs, T, fz, h1, h2, ?_, h4⟩
  rw [World.putObj_heap_other]
  ·exact h3
  ·intro e; subst e; rw [h3] at hk; cases hk; exact hn _ _ _ rfl
instance (a : Option Addr) (xs : List Value) : FL (Fact.sl a xs) := ⟨fun _ h hl => kv _ h hl (fun _ _ _ e => by cases e)⟩
instance (a : Option Addr) (xs : List Value) : FD (Fact.sl a xs) := ⟨fun _ h hl => kv _ h hl (fun _ _ _ e => by cases e)⟩
instance (D : Nat) : FL (Fact.dfr D) := ⟨fun {ok w l r} r' h hl => ⟨h.1, by rw [World.putObj_heap_other (by intro e; subst e; rw [h.2] at hl; cases hl)]; exact h.2⟩⟩
instance (l : Nat) (r : Loop) : FD (Fact.lp l r) := ⟨fun {ok w D ds} ds' h hl => ⟨h.1, by rw [World.putObj_heap_other (by intro e; subst e; rw [h.2] at hl; cases hl)]; exact h.2⟩⟩
class FLs (fs : List Fact) : Prop where
 h : ∀ f ∈ fs, FL f
class FDs (fs : List Fact) : Prop where
 h : ∀ f ∈ fs, FD f
instance : FLs [] := ⟨fun _ h => by cases h⟩
instance : FDs [] := ⟨fun _ h => by cases h⟩
instance (f : Fact) (fs : List Fact) [h1 : FL f] [h2 : FLs fs] : FLs (f :: fs) := ⟨fun g hg => (A7.1 hg).elim (fun e => e ▸ h1) (h2.h g)⟩
instance (f : Fact) (fs : List Fact) [h1 : FD f] [h2 : FDs fs] : FDs (f :: fs) := ⟨fun g hg => (A7.1 hg).elim (fun e => e ▸ h1) (h2.h g)⟩
section
variable {ok : Nat → Prop} {w0 w : World} {own : List Ent} {fs : List Fact}
theorem fh {l : Nat} {o : Obj} (h : Below w0.heap.size w0 w) (hl : w0.heap.size ≤ l) : Below w0.heap.size w0 (w.putObj l o) :=
 ⟨h.os, h.tape, h.output, by simpa using h.size, fun b hb => by rw [World.putObj_heap_other (by omega)]; exact h.block b hb⟩
theorem iD {l : Nat} {o o' : Obj} (h : St ok w0 own fs w) (hk : w.heap[l]? = some o) (hn : ∀ cs T fz, o ≠ .cells cs T fz) : ∀ x ∈ own, x.holds w0.heap.size (w.putObj l o') := fun x hx =>
 Ent.holds_same (h.own_ x hx) fun b hb => World.putObj_heap_other (fun e => by
  have := h.own_ x hx
  unfold Ent.holds at this
  rw [hb] at this
  subst e
  rw [this.2] at hk; cases hk; exact hn _ _ _ rfl)
theorem St.fact_head {f : Fact} (h : St ok w0 own (f :: fs) w) : f.holds (fun b => ok b ∧ b ∉ ids own) w := h.fact f (by simp)
theorem St.setLoop {l : Nat} {r : Loop} (r' : Loop) [hf : FLs fs] (hl : w0.heap.size ≤ l) (h : St ok w0 own (Fact.lp l r :: fs) w) : St ok w0 own (Fact.lp l r' :: fs) (w.putObj l (.loop r')) := by
 have h0 := h.fact_head
 refine ⟨h.okn, fh h.below hl, iD h h0.2 (fun _ _ _ e => by cases e), h.nd, fun f hfm => ?_⟩
 rcases A7.1 hfm with rfl | hfm
 ·exact ⟨h0.1, World.putObj_heap_same (A3.1 h0.2).1⟩
 ·exact (hf.h f hfm).h r' (h.fact f (by simp [hfm])) h0.2
theorem St.shutD {D : Nat} [hf : FDs fs] (hl : w0.heap.size ≤ D) (h : St ok w0 own (Fact.dfr D :: fs) w) : St ok w0 own fs (w.putObj D (.deferred none)) := by
 have h0 := h.fact_head
 exact ⟨h.okn, fh h.below hl, iD h h0.2 (fun _ _ _ e => by cases e), h.nd, fun f hfm => (hf.h f hfm).h none (h.fact f (by simp [hfm])) h0.2⟩
theorem St.allocObj (h : St ok w0 own fs w) (o : Obj) : St ok w0 own fs (w.alloc o) := by
 refine ⟨h.okn, h.below.alloc h.below.size _, fun x hx => Ent.holds_same (h.own_ x hx) fun b hxb => cz w _ b (h.lt (iI hx hxb)).2, h.nd, fun f hf => ?_⟩
 exact f.stable (h.fact f hf) (by simp) fun b hlt _ => cz w _ b hlt
theorem St.enterLoop (h : St ok w0 own fs w) (r : Loop) : St ok w0 own (Fact.lp (w.heap.size + 1) r :: Fact.dfr w.heap.size :: fs) ((w.alloc (.deferred (some []))).alloc (.loop r)) := by
 have h1 := (h.allocObj (.deferred (some []))).allocObj (.loop r)
 have hlt : ∀ b, w.heap.size ≤ b → ok b ∧ b ∉ ids own := fun b hb => h.fresh b hb
 refine (h1.addF (f := Fact.dfr w.heap.size) ⟨hlt _ (Bd _), ?_⟩).addF ⟨hlt _ (Nat.le_succ _), ?_⟩
 ·exact (Below.heap_alloc _ _ _ (by simp)).trans (World.alloc_heap_new w _)
 ·have := World.alloc_heap_new (w.alloc (.deferred (some []))) (.loop r); rwa [World.size_alloc] at this
end
abbrev rcd (r : Loop) (c : Option Code) : Loop := { r with state := if c.isNone then .ready else .done, pending := c }
section
variable {P : Program} {ok : Nat → Prop} {w0 : World} {own : List Ent} {fs : List Fact} {n l : Nat} {L : ak} {r : Loop} {R : Ending → World → Prop} {body : Code}
def vH (P : Program) (l : Nat) (body : Code) (R : Ending → World → Prop) (a : Act) (w : World) : Prop := ∃ w2, (Instr.beginRound l).run P w = .ok () w2 ∧ cdX (some l) P body (roundPost P l R) a w2
theorem WX.begin [FLs fs] (hl : w0.heap.size ≤ l) (k : WC [] (some l) P body (roundPost P l R) n L (St ok w0 own (Fact.lp l { rcd r none with state := .busy } :: fs))) :
  WX [] (Exit.then (vH P l body R) (fun _ _ _ => False)) .normal n L (St ok w0 own (Fact.lp l (rcd r none) :: fs)) := fun a w hF hS =>
 ⟨_, run_beginRound hS.fact_head.2 rfl, k a _ hF (hS.setLoop _ hl)⟩
theorem WX.rnext [FLs fs] {ds : List Deferred} (hl : w0.heap.size ≤ l) (h : ∀ w, St ok w0 own (Fact.lp l (rcd r none) :: fs) w → R (.returned (.bool true)) w) : WX ds (roundPost P l R) .normal n L (St ok w0 own (Fact.lp l { rcd r none with state := .busy } :: fs)) := fun a w hF hS =>
 ⟨_, _, run_endRound none hS.fact_head.2, h _ (hS.setLoop _ hl)⟩
theorem WX.rret [FLs fs] {ds : List Deferred} (hl : w0.heap.size ≤ l) (h : ∀ w, St ok w0 own (Fact.lp l (rcd r (some .ret)) :: fs) w → R (.returned (.bool false)) w) : WX ds (roundPost P l R) .ret n L (St ok w0 own (Fact.lp l { rcd r none with state := .busy } :: fs)) := fun a w hF hS =>
 ⟨_, _, run_endRound (some .ret) hS.fact_head.2, h _ (hS.setLoop _ hl)⟩
theorem WX.rexit [FLs fs] {ds : List Deferred} {id : Nat} (hl : w0.heap.size ≤ l) (h : ∀ w, St ok w0 own (Fact.lp l (rcd r (some (.exit id))) :: fs) w → R (.returned (.bool false)) w) : WX ds (roundPost P l R) (.exit id) n L (St ok w0 own (Fact.lp l { rcd r none with state := .busy } :: fs)) := fun a w hF hS =>
 ⟨_, _, run_endRound (some (.exit id)) hS.fact_head.2, h _ (hS.setLoop _ hl)⟩
theorem eS {f : FuncId} {assign : Code} {tmps : Array Value} {w : World} (hF : Fr [] { tmps := tmps, defers := [] } n L) (hS : St ok w0 own fs w) (k : WC [] (some l) P assign (Exit.then (vH P l body R) (fun _ _ _ => False)) n L (St ok w0 own fs)) :
  RoundIn Fence.wide 0 P l f tmps assign body w R := roundIn_of_wpIn (F := Fence.wide) trivial (k _ w hF hS)
end
def YOk {σ γ α : Type} (P : Program) (l : Nat) (r : Loop) (ok : Nat → Prop) (w0 : World) (fs : List Fact) (CO : σ → γ → List Ent) (pg : σ → γ → Prop) (inv : σ → α → Prop) (after : σ → α → σ) (stop : σ → α → Option Code) (enc : α → Array Value) : Prop :=
 ∀ (s : σ) (g : γ) (x : α) (ext : List Ent) (w : World), inv s x → pg s g → St ok w0 (ext ++ CO s g) (Fact.lp l (rcd r none) :: fs) w → ∃ f tmps assign body, (Instr.yield l (enc x)).run P w = .ok (.round l f tmps assign body) w ∧
  RoundIn Fence.wide 0 P l f tmps assign body w (fun e w' => e = .returned (.bool (stop s x).isNone) ∧ ∃ g', (stop s x = none → pg (after s x) g') ∧ St ok w0 (ext ++ CO (after s x) g') (Fact.lp l (rcd r (stop s x)) :: fs) w')
section
variable {ds : List Deferred} {P : Program} {o : Oper} {n : Nat} {L : ak} {ok : Nat → Prop} {w0 : World} {fs : List Fact} {σ γ α : Type} {l : Nat} {r : Loop} {CO : σ → γ → List Ent} {pg : σ → γ → Prop} {inv : σ → α → Prop} {after : σ → α → σ} {stop : σ → α → Option Code} {enc : α → Array Value}
theorem dK {c : Operand} {as0 : List Operand} {tys : Array TypeId} {args : List Value} {s : σ} {g : γ} (hY : YOk P l r ok w0 fs CO pg inv after stop enc) (ext : List Ent) (x : α) (hop : o.op = .call { callee := .value c, args := as0.toArray, argTypes := tys }) (hc : ag L c = some (.func (.yield l) #[] #[])) (hargs : ek L as0 = some args) (hx : args.toArray = enc x) (hi : inv s x) (hg : pg s g) :
  Og ds P o n L (St ok w0 (ext ++ CO s g) (Fact.lp l (rcd r none) :: fs)) (fun _ : γ => .bool (stop s x).isNone) (fun g' w => (stop s x = none → pg (after s x) g') ∧ St ok w0 (ext ++ CO (after s x) g') (Fact.lp l (rcd r (stop s x)) :: fs) w) := by
 intro a w hF hS
 obtain ⟨f, tmps, assign, body, hy, hr⟩ := hY s g x ext w hi hg hS
 unfold opX
 have e1 : (execOp a.eval o).run P w = .ok (.round l f tmps assign body) w := by
  have ha := cQ hF hargs
  simp only [execOp, hop, resolve, hF.eval hc, Deferred.ofValue, invoke]
  simp [ha, hx, hy]
 rw [e1]
 refine ⟨fun h => absurd h (by decide), RoundIn.mono hr fun e w' hh => ?_⟩
 obtain ⟨rfl, g', hg', hS'⟩ := hh
 exact ⟨_, rfl, g', rfl, hg', hS'⟩
end
abbrev jn (D : Nat) : Deferred := { target := .collected D, args := #[] }
section
variable {P : Program} {ok : Nat → Prop} {w0 : World} {own : List Ent} {fs : List Fact} {n : Nat} {L : ak} {Q : Exit → Act → World → Prop} {σ γ α : Type} {CO : σ → γ → List Ent} {pg : σ → γ → Prop} {inv : σ → α → Prop} {after : σ → α → σ} {stop : σ → α → Option Code} {enc : α → Array Value}
theorem WC.range [hfl : FLs fs] {g : Operand} {gf : FuncId} {lb : Array Value} {ps : Array Tmp} {assign body : Code} (s0 : σ) (g0 : γ) (sf : σ) (cf : Option Code) (hg0 : pg s0 g0) (hg : ag L g = some (.func (.func gf) #[] lb)) (hgo : eO P gf = true) (hps : ∀ x, (enc x).size = ps.size)
  (hS : ∀ w, St ok w0 own fs w → St ok w0 (CO s0 g0) fs w)
  (round : ∀ (l : Nat) (r : Loop) (D : Nat) (f : FuncId) (a : Act) (s : σ) (g : γ) (x : α) (ext : List Ent) (w : World), w0.heap.size ≤ l → inv s x → pg s g → Fr [] a n L → St ok w0 (ext ++ CO s g) (Fact.lp l (rcd r none) :: Fact.dfr D :: fs) w →
   RoundIn Fence.wide 0 P l f ((ps.zip (enc x)).foldl (fun tmps (t, a) => tmps.setIfInBounds t a) a.tmps) assign body w (fun e w' => e = .returned (.bool (stop s x).isNone) ∧ ∃ g', (stop s x = none → pg (after s x) g') ∧ St ok w0 (ext ++ CO (after s x) g') (Fact.lp l (rcd r (stop s x)) :: Fact.dfr D :: fs) w'))
  (iter : ∀ (l : Nat) (r : Loop) (D : Nat) (w : World), w0.heap.size ≤ l → YOk P l r ok w0 (Fact.dfr D :: fs) CO pg inv after stop enc → St ok w0 (CO s0 g0) (Fact.lp l (rcd r none) :: Fact.dfr D :: fs) w →
   Calls P gf (#[.func (.yield l) #[] #[]] ++ lb) w (fun e w' => (∃ v, e = .returned v) ∧ ∃ g', (cf = none → pg sf g') ∧ St ok w0 (CO sf g') (Fact.lp l (rcd r cf) :: Fact.dfr D :: fs) w'))
  (done : ∀ D g', w0.heap.size ≤ D → pg sf g' → cf = none → WX [jn D] Q .normal n L (St ok w0 (CO sf g') (Fact.dfr D :: fs)))
  (left : ∀ D g' c, w0.heap.size ≤ D → cf = some c → WC [jn D] none P c Q n L (St ok w0 (CO sf g') (Fact.dfr D :: fs))) :
  WC [] none P (.rangeFunc g ps assign body) Q n L (St ok w0 own fs) := by
 intro a w hF hSt
 refine wpIn_rangeFunc (F := wd none) fun fn _ => ?_
 have hst := hS w hSt
 let r : Loop := { state := .ready, pending := none, fn, tmps := a.tmps, params := ps, assign, body, defers := w.heap.size }
 have hr : rcd r none = r := rfl
 have h1 := hst.enterLoop r
 have hsz : w0.heap.size ≤ w.heap.size := hst.below.size
 have hY : YOk P (w.heap.size + 1) r ok w0 (Fact.dfr w.heap.size :: fs) CO pg inv after stop enc := by
  intro s g x ext w' hi hpg hS'
  exact ⟨_, _, _, _, run_yield hS'.fact_head.2 (hps x), round (w.heap.size + 1) r w.heap.size fn a s g x ext w' (by omega) hi hpg hF hS'⟩
 obtain ⟨W1, hW1⟩ : ∃ W1, W1 = (w.alloc (.deferred (some []))).alloc (.loop r) := ⟨_, rfl⟩
 rw [← hW1] at h1
 refine ⟨w.heap.size + 1, [jn w.heap.size], W1, { target := .fn (.func gf) lb, args := #[.func (.yield (w.heap.size + 1)) #[] #[]] }, W1, gf, #[.func (.yield (w.heap.size + 1)) #[] #[]] ++ lb, W1, by rw [hW1]; exact run_enterLoop_outer _ _ _ _ _, ?_, fun _ _ => trivial, ?_, fun h => absurd h (by decide), ?_⟩
 ·simp only [resolve, hF.eval hg]
  simp [go_sem, r, Deferred.ofValue, Act.eval]
 ·simp [invoke, dT hgo]
 ·refine callsIn_wide.2 ((iter (w.heap.size + 1) r w.heap.size _ (by omega) hY h1).mono fun e w' hh => ?_)
  obtain ⟨⟨v, rfl⟩, g', hg', hS'⟩ := hh
  have hF' : Fr [jn w.heap.size] { a with defers := [jn w.heap.size] ++ a.defers } n L := ⟨hF.size, by simp [hF.defers], hF.at_⟩
  refine ⟨cf, _, run_endLoop hS'.fact_head.2 (by cases cf <;> simp [rcd]), ?_⟩
  have hS'' := (hS'.setLoop { rcd r cf with state := .exhausted } (by omega)).dropF
  cases cf with
  | none => exact done w.heap.size g' hsz (hg' rfl) rfl _ _ hF' hS''
  | some c => exact left w.heap.size g' c hsz rfl _ _ hF' hS''
end
theorem Fr.tm {ds : List Deferred} {a : Act} {n : Nat} {L : ak} (h : Fr ds a n L) : Fr [] { tmps := a.tmps, defers := [] } n L := ⟨h.size, rfl, h.at_⟩
theorem qL (p : Tmp) (v : Value) (t : Array Value) : (#[p].zip #[v]).foldl (fun tmps (t, a) => tmps.setIfInBounds t a) t = t.setIfInBounds p v := by simp
theorem yo (p q : Tmp) (v u : Value) (t : Array Value) : (#[p, q].zip #[v, u]).foldl (fun tmps (t, a) => tmps.setIfInBounds t a) t = (t.setIfInBounds p v).setIfInBounds q u := by simp
class s2 (fs : List Fact) (D : Nat) : Prop where
 h : Fact.dfr D ∈ fs
instance (priority := high) (D : Nat) (fs : List Fact) : s2 (Fact.dfr D :: fs) D := ⟨by simp⟩
instance (D : Nat) (f : Fact) (fs : List Fact) [h : s2 fs D] : s2 (f :: fs) D := ⟨by simp [h.h]⟩
section
variable {P : Program} {fn : Func} {f : FuncId} {c : Code} {R : Ending → World → Prop} {n : Nat} {L : ak} {S : World → Prop} {ok : Nat → Prop} {w0 : World} {own : List Ent} {fs : List Fact}
theorem li {args : Array Value} {w : World} (hf : P.funcs[f]? = some fn) (hb : fn.body = some c) (hn : fn.ntmps = n) (ha : Nat.ble args.size n = true) (hL : ∀ k v, al L k = some v → args[k]? = some v) (hS : S w) (k : WC [] none P c (bodyPostM Fence.wide 0 P fn R) n L S) : Calls P f args w R := by
 refine callsIn_wide.1 (callsIn_of_wp_marks (F := Fence.wide) (n := 0) hf hb trivial (k _ w (Fr.enter ?_ hL) hS))
 have := Nat.le_of_ble_eq_true ha
 omega
theorem kC {ds : List Deferred} {a : Act} {w : World} {rs : List ResultVar} {vs : List Value} (hr : fn.results = rs.toArray) (hv : jz P L own rs vs) (hF : Fr ds a n L) (hS : St ok w0 own fs w) : (results fn a.tmps).run P w = .ok (tup vs) w := by
 have hm := fW hF.tm hS hv
 rw [kD, hr, List.mapM_toArray]
 simp only [Sem.run_bind, map_eq_pure_bind, hm, Result.andThen, Sem.run_pure]
 match vs with
 | [] => rfl
 | [v] => rfl
 | v :: u :: r => simp [tup]
theorem WX.retM0 {rs : List ResultVar} {vs : List Value} (hr : fn.results = rs.toArray) (hv : jz P L own rs vs) (h : ∀ w, St ok w0 own fs w → R (.returned (tup vs)) w) : WX [] (bodyPostM Fence.wide 0 P fn R) .ret n L (St ok w0 own fs) := fun a w hF hS => by
 show LeavesInM Fence.wide 0 P fn a.tmps R a.defers .returning w
 rw [hF.defers]
 exact ⟨tup vs, kC hr hv hF hS, h w hS⟩
theorem WX.retM1 {D : Nat} [hd : s2 fs D] {rs : List ResultVar} {vs : List Value} (hD : w0.heap.size ≤ D) (hr : fn.results = rs.toArray) (hv : jz P L own rs vs) (h : ∀ w, St ok w0 own [] w → R (.returned (tup vs)) w) : WX [jn D] (bodyPostM Fence.wide 0 P fn R) .ret n L (St ok w0 own fs) := fun a w hF hS => by
 show LeavesInM Fence.wide 0 P fn a.tmps R a.defers .returning w
 rw [hF.defers]
 have hS1 : St ok w0 own [Fact.dfr D] w := hS.sub (Ax _) (fun f hf => by simp at hf; subst hf; exact hd.h)
 have hS2 := hS1.shutD hD
 exact ⟨by simp, .inl ⟨D, _, rfl, run_takeDeferred hS1.fact_head.2, tup vs, kC hr hv hF hS2, h _ hS2⟩⟩
end
section
variable {ds : List Deferred} {ρ : Option Nat} {P : Program} {c : Code} {Q : Exit → Act → World → Prop} {n : Nat} {L : ak} {S : World → Prop}
theorem WC.scope (k : WC ds none P c (Exit.noGoto Q) n L S) : WC ds none P (.scope c) Q n L S := fun a w hF hS => wpIn_wide.2 (wp_scope_straight (wpIn_wide.1 (k a w hF hS)))
theorem WC.label {l : Nat} (k : WX ds Q .normal n L S) : WC ds ρ P (.label l) Q n L S := fun a w hF hS => wpIn_label (k a w hF hS)
theorem WX.scope_ret (k : WX ds Q .ret n L S) : WX ds (Exit.noGoto Q) .ret n L S := k
end
section
variable {ds : List Deferred} {P : Program} {ops : List Oper} {Q : Exit → Act → World → Prop} {n : Nat} {l : List Oper} {L : ak} {ok : Nat → Prop} {w0 : World} {own : List Ent} {fs : List Fact} {e : Ent}
theorem WL.app0 (k : WL ds P ops Q n l L (St ok w0 own fs)) : WL ds P ops Q n l L (St ok w0 ([] ++ own) fs) := k
end
section
variable {P : Program} {ok : Nat → Prop} {w0 : World} {own : List Ent} {fs : List Fact} {n : Nat} {L : ak} {Q : Exit → Act → World → Prop} {σ γ α : Type} {CO : σ → γ → List Ent} {pg : σ → γ → Prop} {inv : σ → α → Prop} {after : σ → α → σ} {stop : σ → α → Option Code} {enc : α → Array Value}
theorem WC.range2 [hfl : FLs fs] {ds : List Deferred} {g : Operand} {gf : FuncId} {lb : Array Value} {ps : Array Tmp} {assign body : Code} (s0 : σ) (g0 : γ) (sf : σ) (cf : Option Code) (hg0 : pg s0 g0) (hg : ag L g = some (.func (.func gf) #[] lb)) (hgo : eO P gf = true) (hps : ∀ x, (enc x).size = ps.size)
  (hS : ∀ w, St ok w0 own fs w → St ok w0 (CO s0 g0) fs w)
  (round : ∀ (l : Nat) (r : Loop) (D : Nat) (f : FuncId) (a : Act) (s : σ) (g : γ) (x : α) (ext : List Ent) (w : World), w0.heap.size ≤ l → inv s x → pg s g → Fr ds a n L → St ok w0 (ext ++ CO s g) (Fact.lp l (rcd r none) :: Fact.dfr D :: fs) w →
   RoundIn Fence.wide 0 P l f ((ps.zip (enc x)).foldl (fun tmps (t, a) => tmps.setIfInBounds t a) a.tmps) assign body w (fun e w' => e = .returned (.bool (stop s x).isNone) ∧ ∃ g', (stop s x = none → pg (after s x) g') ∧ St ok w0 (ext ++ CO (after s x) g') (Fact.lp l (rcd r (stop s x)) :: Fact.dfr D :: fs) w'))
  (iter : ∀ (l : Nat) (r : Loop) (D : Nat) (w : World), w0.heap.size ≤ l → YOk P l r ok w0 (Fact.dfr D :: fs) CO pg inv after stop enc → St ok w0 (CO s0 g0) (Fact.lp l (rcd r none) :: Fact.dfr D :: fs) w →
   Calls P gf (#[.func (.yield l) #[] #[]] ++ lb) w (fun e w' => (∃ v, e = .returned v) ∧ ∃ g', (cf = none → pg sf g') ∧ St ok w0 (CO sf g') (Fact.lp l (rcd r cf) :: Fact.dfr D :: fs) w'))
  (done : ∀ D g', w0.heap.size ≤ D → (∀ D', Fact.dfr D' ∈ fs → D' ≠ D) → pg sf g' → cf = none → WX (jn D :: ds) Q .normal n L (St ok w0 (CO sf g') (Fact.dfr D :: fs)))
  (left : ∀ D g' c, w0.heap.size ≤ D → (∀ D', Fact.dfr D' ∈ fs → D' ≠ D) → cf = some c → WC (jn D :: ds) none P c Q n L (St ok w0 (CO sf g') (Fact.dfr D :: fs))) :
  WC ds none P (.rangeFunc g ps assign body) Q n L (St ok w0 own fs) := by
 intro a w hF hSt
 refine wpIn_rangeFunc (F := wd none) fun fn _ => ?_
 have hst := hS w hSt
 let r : Loop := { state := .ready, pending := none, fn, tmps := a.tmps, params := ps, assign, body, defers := w.heap.size }
 have hr : rcd r none = r := rfl
 have h1 := hst.enterLoop r
 have hsz : w0.heap.size ≤ w.heap.size := hst.below.size
 have hne : ∀ D', Fact.dfr D' ∈ fs → D' ≠ w.heap.size := fun D' hD' e => by
  have := (hst.fact _ hD').2
  have := (A3.1 this).1
  omega
 have hY : YOk P (w.heap.size + 1) r ok w0 (Fact.dfr w.heap.size :: fs) CO pg inv after stop enc := by
  intro s g x ext w' hi hpg hS'
  exact ⟨_, _, _, _, run_yield hS'.fact_head.2 (hps x), round (w.heap.size + 1) r w.heap.size fn a s g x ext w' (by omega) hi hpg hF hS'⟩
 obtain ⟨W1, hW1⟩ : ∃ W1, W1 = (w.alloc (.deferred (some []))).alloc (.loop r) := ⟨_, rfl⟩
 rw [← hW1] at h1
 refine ⟨w.heap.size + 1, [jn w.heap.size], W1, { target := .fn (.func gf) lb, args := #[.func (.yield (w.heap.size + 1)) #[] #[]] }, W1, gf, #[.func (.yield (w.heap.size + 1)) #[] #[]] ++ lb, W1, by rw [hW1]; exact run_enterLoop_outer _ _ _ _ _, ?_, fun _ _ => trivial, ?_, fun h => absurd h (by decide), ?_⟩
 ·simp only [resolve, hF.eval hg]
  simp [go_sem, r, Deferred.ofValue, Act.eval]
 ·simp [invoke, dT hgo]
 ·refine callsIn_wide.2 ((iter (w.heap.size + 1) r w.heap.size _ (by omega) hY h1).mono fun e w' hh => ?_)
  obtain ⟨⟨v, rfl⟩, g', hg', hS'⟩ := hh
  have hF' : Fr (jn w.heap.size :: ds) { a with defers := [jn w.heap.size] ++ a.defers } n L := ⟨hF.size, by simp [hF.defers], hF.at_⟩
  refine ⟨cf, _, run_endLoop hS'.fact_head.2 (by cases cf <;> simp [rcd]), ?_⟩
  have hS'' := (hS'.setLoop { rcd r cf with state := .exhausted } (by omega)).dropF
  cases cf with
  | none => exact done w.heap.size g' hsz hne (hg' rfl) rfl _ _ hF' hS''
  | some c => exact left w.heap.size g' c hsz hne rfl _ _ hF' hS''
end
section
variable {P : Program} {fn : Func} {R : Ending → World → Prop} {n : Nat} {L : ak} {ok : Nat → Prop} {w0 : World} {own : List Ent} {fs : List Fact}
theorem WX.retM2 {D1 D2 : Nat} [h1 : s2 fs D1] [h2 : s2 fs D2] (hD1 : w0.heap.size ≤ D1) (hD2 : w0.heap.size ≤ D2) (hne : D1 ≠ D2) {rs : List ResultVar} {vs : List Value} (hr : fn.results = rs.toArray) (hv : jz P L own rs vs) (h : ∀ w, St ok w0 own [] w → R (.returned (tup vs)) w) : WX [jn D2, jn D1] (bodyPostM Fence.wide 0 P fn R) .ret n L (St ok w0 own fs) := fun a w hF hS => by
 show LeavesInM Fence.wide 0 P fn a.tmps R a.defers .returning w
 rw [hF.defers]
 have hS1 : St ok w0 own [Fact.dfr D2, Fact.dfr D1] w := hS.sub (Ax _) (fun f hf => by simp at hf; rcases hf with rfl | rfl; exact h2.h; exact h1.h)
 have h0 := hS1.fact_head
 have hS2 : St ok w0 own [Fact.dfr D1] (w.putObj D2 (.deferred none)) := ⟨hS1.okn, fh hS1.below hD2, iD hS1 h0.2 (fun _ _ _ e => by cases e), hS1.nd, fun f hf => by
  simp at hf; subst hf
  have := hS1.fact (Fact.dfr D1) (by simp)
  exact ⟨this.1, by rw [World.putObj_heap_other hne]; exact this.2⟩⟩
 have hS3 := hS2.shutD hD1
 exact ⟨by simp, .inl ⟨D2, _, rfl, run_takeDeferred hS1.fact_head.2, by simp, .inl ⟨D1, _, rfl, run_takeDeferred hS2.fact_head.2, tup vs, kC hr hv hF hS3, h _ hS3⟩⟩⟩
end
def itL {σ α : Type} (after : σ → α → σ) (stop : σ → α → Option Code) : List α → σ → σ × Option Code
 | [], s => (s, none)
 | x :: l, s => if (stop s x).isSome then (after s x, stop s x) else itL after stop l (after s x)
section
variable {σ α : Type} {after : σ → α → σ} {stop : σ → α → Option Code} {l : List α} {x : α} {s : σ} {r : σ × Option Code}
theorem eX (h : itL after stop (x :: l) s = r) (hs : (stop s x).isSome = true) : r = (after s x, stop s x) := by rw [← h, itL, Ab hs]
theorem eY (h : itL after stop (x :: l) s = r) (hs : stop s x = none) : itL after stop l (after s x) = r := by rw [← h, itL, Aa (by simp [hs])]
end
theorem nw {α : Type} (P : α → Prop) [DecidablePred P] (e : Int) : ∀ (l : List α) (s : Int), itL (fun (s : Int) x => if P x then s else e) (fun _ x => if P x then none else some Code.ret) l s = if ∀ x ∈ l, P x then (s, none) else (e, some Code.ret)
 | [], s => by simp [itL]
 | x :: l, s => by
  by_cases h : P x
  ·rw [itL]; simp only [Ab h, Option.isSome_none, Dc, if_false]; rw [nw P e l s]; simp [h]
  ·rw [itL]; simp only [Aa h, Option.isSome_some, if_true]; rw [Aa (fun hh => h (hh x (by simp)))]
abbrev Bs := List UInt8
abbrev an (l : List Bs) : List Value := l.map fun s => .string (S s)
theorem vK (n : Nat) (h : n < 9223372036854775808) : IntKind.i64.wrap (n : Int) = (n : Int) := by
 rw [IntKind.wrap_i64]; omega
theorem x5 (k : Nat) : IntKind.u8.wrap (k : Int) = ((UInt8.ofNat k).toNat : Int) := by
 rw [IntKind.wrap_u8, UInt8.toNat_ofNat']; norm_cast
section
variable {ds : List Deferred} {P : Program} {o : Oper} {n : Nat} {L : ak} {Z : World → Prop} {x y : Operand} {t : TypeId} {k : IntKind} {i : Int}
theorem x7 (l : Bs) (i : Nat) (h : i < l.length) : l[i]? = some (l.getD i default) := by
 rw [List.getD_eq_getElem?_getD, Ad h]; rfl
theorem bo {a : List UInt8} (hop : o.op = .index t x y) (hx : ag L x = some (.string (S a))) (hy : ag L y = some (.int k i)) (h1 : P.underlying t = some .string) (h0 : 0 ≤ i ∧ i.toNat < a.length) : Rd ds P o n L Z (.int .u8 ((a.getD i.toNat default).toNat : Int)) :=
 wR hop hx hy h1 h0.1 (x7 _ _ h0.2)
end
end Go.Proofs.YtkdlonihbjhhoaaGreatDoor
