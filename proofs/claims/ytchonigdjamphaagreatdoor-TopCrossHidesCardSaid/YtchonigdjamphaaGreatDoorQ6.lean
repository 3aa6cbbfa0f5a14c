/-
  Parts of the walk: New Rng Str Num.
-/
import Derived.Test.YtchonigdjamphaaGreatDoorQ5
import Derived.Laws.Sem
import Derived.RangeFuncLeaves
import Derived.RangeFuncRecord
import Derived.Scope
namespace Go.Proofs.YtchonigdjamphaaGreatDoor
open Go.RowKit
set_option linter.unusedSimpArgs false
set_option linter.unusedVariables false
set_option maxHeartbeats 600000
set_option maxRecDepth 20000
class HasE (own : List Ent) (b : Nat) (cs : outParam (List Value)) (T : outParam TypeId) : Prop where
  h : InE own ⟨some b, cs, T⟩
instance (priority := high) HasE.here (r : List Ent) (b : Nat) (cs : List Value) (T : TypeId) : HasE (⟨some b, cs, T⟩ :: r) b cs T := ⟨.here⟩
instance HasE.there (r : List Ent) (x : Ent) (b : Nat) (cs : List Value) (T : TypeId) [HasE r b cs T] : HasE (x :: r) b cs T := ⟨.there HasE.h⟩
theorem InE.right {e r : List Ent} {x : Ent} (h : InE r x) : InE (e ++ r) x := by
  induction e with
  | nil => exact h
  | cons y e ih => exact .there ih
instance HasE.ext (e r : List Ent) (b : Nat) (cs : List Value) (T : TypeId) [HasE r b cs T] : HasE (e ++ r) b cs T := ⟨InE.right HasE.h⟩
theorem InE.tc {own : List Ent} {b : Nat} {cs : List Value} {T : TypeId} [h : HasE own b cs T] : InE own ⟨some b, cs, T⟩ := h.h
class HasC (own : List Ent) (ob : Option Nat) (cs : outParam (List Value)) (T : outParam TypeId) (C : outParam (Ent → List Ent)) : Prop where
  h : Ctx own ⟨ob, cs, T⟩ C
instance (priority := high) HasC.here (r : List Ent) (ob : Option Nat) (cs : List Value) (T : TypeId) : HasC (⟨ob, cs, T⟩ :: r) ob cs T (fun y => y :: r) := ⟨.here⟩
instance HasC.there (r : List Ent) (x : Ent) (ob : Option Nat) (cs : List Value) (T : TypeId) (C : Ent → List Ent) [HasC r ob cs T C] : HasC (x :: r) ob cs T (fun y => x :: C y) := ⟨.there HasC.h⟩
theorem Ctx.right {r : List Ent} {x : Ent} {C : Ent → List Ent} (h : Ctx r x C) : ∀ e : List Ent, Ctx (e ++ r) x (fun y => e ++ C y)
  | [] => h
  | z :: e => .there (Ctx.right h e)
instance HasC.ext (e r : List Ent) (ob : Option Nat) (cs : List Value) (T : TypeId) (C : Ent → List Ent) [h : HasC r ob cs T C] : HasC (e ++ r) ob cs T (fun y => e ++ C y) := ⟨Ctx.right h.h e⟩
theorem Ctx.tc {own : List Ent} {ob : Option Nat} {cs : List Value} {T : TypeId} {C : Ent → List Ent} [h : HasC own ob cs T C] : Ctx own ⟨ob, cs, T⟩ C := h.h
class HasF (fs : List Fact) (a : Option Addr) (xs : outParam (List Value)) : Prop where
  h : InF fs (Fact.sl a xs)
instance (priority := high) HasF.here (r : List Fact) (a : Option Addr) (xs : List Value) : HasF (Fact.sl a xs :: r) a xs := ⟨.here⟩
instance HasF.there (r : List Fact) (f : Fact) (a : Option Addr) (xs : List Value) [HasF r a xs] : HasF (f :: r) a xs := ⟨.there HasF.h⟩
theorem InF.tc {fs : List Fact} {a : Option Addr} {xs : List Value} [h : HasF fs a xs] : InF fs (Fact.sl a xs) := h.h
section
variable {ok : Nat → Prop} {w0 : World} {own : List Ent} {fs : List Fact} {w : World}
theorem St.sl (h : St ok w0 own fs w) {a : Option Addr} {xs : List Value} [hf : HasF fs a xs] : (Fact.sl a xs).holds (fun _ => True) w := by
  obtain ⟨k, hk⟩ := hf.h.get; exact h.holds_any hk
theorem St.os (h : St ok w0 own fs w) {b : Nat} {xs : List Value} {T : TypeId} [hf : HasE own b xs T] : (Fact.sl (some ⟨b, 0, none⟩) xs).holds (fun _ => True) w := ur h hf.h
theorem St.oc (h : St ok w0 own fs w) {ob : Option Nat} {xs sp : List Value} {T : TypeId} {C : Ent → List Ent} [hf : HasC own ob (xs ++ sp) T C] : (Fact.sl (ob.map fun b => ⟨b, 0, none⟩) xs).holds (fun _ => True) w := by
  obtain ⟨k, hk, _⟩ := hf.h.get
  have := h.own_ _ (A9 hk)
  cases ob with
  | none => exact .inl (by have h1 : xs ++ sp = [] := this; simp at h1; exact h1.1)
  | some b => exact .inr ⟨b, 0, (xs ++ sp).toArray, T, (0, 0), rfl, trivial, this.2, fun i hi => by rw [A3, Du, B2 hi]⟩
theorem aq {own' : List Ent} {fs' : List Fact} [h1 : SubL own own'] [h2 : SubL fs fs'] : ∀ w, St ok w0 own' fs' w → St ok w0 own fs w := fun w h => h.sub h1.h (fun f hf => h2.h.subset hf)
theorem hJ {a : Option Addr} : (Fact.sl a []).holds (fun _ => True) w := .inl rfl
theorem af {f : Fact} {ok : Nat → Prop} (h : f.holds ok w) : f.holds (fun _ => True) w := f.mono (fun _ _ => trivial) h
theorem gS {ok : Nat → Prop} : ∀ f ∈ ([] : List Fact), f.holds ok w := fun _ h => by cases h
theorem ly {f : Fact} {ok : Nat → Prop} (h : f.holds ok w) (h' : ∀ g ∈ fs, g.holds ok w) : ∀ g ∈ f :: fs, g.holds ok w := fun g hg => (Be.1 hg).elim (fun e => e ▸ h) (h' g)
end
section
variable {ds : List Deferred} {ρ : Option Nat} {P : Program} {o : Oper} {n : Nat} {L : an} {x y : Operand} {v : Value} {t e : TypeId} {sz : Nat} {cs : List Value}
theorem nX {val : Nat → Value} {T : TypeId} (h : ∀ a, Fr ds a n L → ∀ w : World, (execOp a.eval o).run P w = .ok (.value (val w.heap.size)) (w.alloc (.cells cs.toArray T))) : Fre ds P o n L val cs T := fun a hF w => h a hF w
theorem cG (hop : o.op = .alloc t) (hz : (P.info? t).bind (·.zero) = some v) (hc : v.cells.toList = cs) : Fre ds P o n L (fun b : Nat => .pointer (some ⟨b, 0, none⟩)) cs t :=
  nX fun a hF w => by subst hc; simp [execOp, hop, Instr.alloc, oG hz, fw]
theorem BL (hop : o.op = .box t x) (hx : ai L x = some v) (hc : v.cells.toList = cs) : Fre ds P o n L (fun b : Nat => .pointer (some ⟨b, 0, none⟩)) cs t :=
  nX fun a hF w => by subst hc; simp [execOp, hop, Instr.box, hF.eval hx, fw]
theorem yX {len : Nat} {parts : List (Nat × Operand)} {vs : List (Nat × Value)} (hop : o.op = .buildSlice t len parts.toArray) (hp : cK L parts = some vs) (hu : P.underlying t = some (.slice e))
    (hrun : ∀ w : World, (Instr.buildSlice t len vs.toArray).run P w = .ok (.slice (some ⟨w.heap.size, 0, none⟩) len len) (w.alloc (.cells cs.toArray e))) :
    Fre ds P o n L (fun b : Nat => .slice (some ⟨b, 0, none⟩) len len) cs e :=
  nX fun a hF w => by
    have hpp := du hF hp
    have e1 : Array.map (fun x => (x.1, a.eval x.2)) parts.toArray = vs.toArray := by simp [← hpp]
    simp only [execOp, hop, e1]
    simp [hrun]
theorem wQ {len : Nat} {vs : List (Nat × Value)} {zv : Value} (hu : P.underlying t = some (.slice e))
    (hi : (P.info? e).map (fun i => (i.zero, i.size, i.bytes)) = some (some zv, 1, sz)) (hz : zv.cells = #[zv]) (hcs : vs.map Prod.snd = cs) (hnum : vs = (List.range' 0 len).zip (vs.map Prod.snd)) (hlen : cs.length = len) (h1 : ∀ v ∈ cs, v.cells = #[v]) (hsm : len ≤ 16777216) (w : World) :
    (Instr.buildSlice t len vs.toArray).run P w = .ok (.slice (some ⟨w.heap.size, 0, none⟩) len len) (w.alloc (.cells cs.toArray e)) := by
  obtain ⟨i', hi', hz', hs, hbb⟩ := info_parts hi
  have hfill := lx cs [] (List.replicate len zv) (by simp [hlen]) h1
  simp only [List.nil_append, B4, hlen] at hfill
  have hsz : ¬ (len * i'.size > 2 ^ 24) := by rw [hs]; omega
  have hvs : vs = (List.range' 0 len).zip cs := by rw [← hcs]; exact hnum
  have hfill' : Instr.fill (fun i => some (i, 1)) (List.replicate len zv).toArray vs = some cs.toArray := by
    rw [hvs]; simpa using hfill
  rw [hs] at hsz
  simp only [Instr.buildSlice, Sem.run_bind, run_underlying hu, Result.andThen, sizeOf, typeInfo, run_program, hi', Sem.run_pure, hs, As]
  rw [Aa (by omega)]
  by_cases h0 : len = 0
  · subst h0
    have hzero : Array.map (fun x => (#[] : Array Value)[x % (#[] : Array Value).size]!) (Array.range 0) = (List.replicate 0 zv).toArray := by simp
    simp only [Sem.run_pure, Sem.run_bind, Result.andThen, if_true, hzero, hfill']
    rfl
  · have hzero : Array.map (fun x => zv.cells[x % zv.cells.size]!) (Array.range len) = (List.replicate len zv).toArray := by
      rw [hz]
      have := dU zv len
      unfold madeCells at this
      apply Array.ext'
      simpa using this
    simp only [Aa h0, Sem.run_bind, zeroValue, typeInfo, run_program, Result.andThen, hi', Sem.run_pure, hz', hzero, hfill']
    rfl
theorem im {len : Nat} {parts : List (Nat × Operand)} {vs : List (Nat × Value)} {zv : Value} (hop : o.op = .buildSlice t len parts.toArray) (hp : cK L parts = some vs) (hu : P.underlying t = some (.slice e))
    (hi : (P.info? e).map (fun i => (i.zero, i.size, i.bytes)) = some (some zv, 1, sz)) (hz : zv.cells = #[zv]) (hcs : vs.map Prod.snd = cs) (hnum : vs = (List.range' 0 len).zip (vs.map Prod.snd)) (hlen : cs.length = len) (h1 : ∀ v ∈ cs, v.cells = #[v]) (hsm : len ≤ 16777216) :
    Fre ds P o n L (fun b : Nat => .slice (some ⟨b, 0, none⟩) len len) cs e := yX hop hp hu (wQ hu hi hz hcs hnum hlen h1 hsm)
theorem q5 {k1 k2 : IntKind} {l c' : Int} {zv : Value} (hop : o.op = .makeSlice t x y) (hx : ai L x = some (.int k1 l)) (hy : ai L y = some (.int k2 c')) (hu : P.underlying t = some (.slice e)) (hi : (P.info? e).map (fun i => (i.zero, i.size, i.bytes)) = some (some zv, 1, sz)) (h1 : zv.cells = #[zv])
    (hb : 0 ≤ l ∧ l ≤ c' ∧ (sz : Int) * c' ≤ 281474976710656 ∧ c' ≤ 9223372036854775807) {q1 q2 : Nat} (hq1 : l.toNat = q1) (hq2 : c'.toNat = q2) :
    Fre ds P o n L (fun b : Nat => .slice (some ⟨b, 0, none⟩) q1 q2) (List.replicate q2 zv) e :=
  nX fun a hF w => by
    subst hq1 hq2
    obtain ⟨i', hi', hz, hs, hbb⟩ := info_parts hi
    have hrun := run_make (P := P) w t e i' zv hu hi' hz k1 k2 l c' hb.1 hb.2.1 (by rw [hbb]; exact hb.2.2.1) hb.2.2.2
    have e1 : (madeCells #[zv] c'.toNat) = (List.replicate c'.toNat zv).toArray := by rw [← dU]
    rw [h1, hs, As, e1] at hrun
    simp [execOp, hop, hF.eval hx, hF.eval hy, hrun]
end
abbrev pt (a : Option Addr) (k : Nat) : Value := .pointer (some ((a.getD ⟨0, 0, none⟩).add k))
section
variable {ds : List Deferred} {ρ : Option Nat} {P : Program} {o : Oper} {n : Nat} {L : an} {ok : Nat → Prop} {w0 : World} {own : List Ent} {fs : List Fact} {x y : Operand} {v : Value} {t e : TypeId} {k : IntKind} {i : Int} {sz q : Nat} {a : Option Addr} {xs ys : List Value}
theorem St.slx {w : World} (h : St ok w0 own fs w) [hf : HasF fs a xs] (hx : 0 < xs.length) : ∃ b off cs T fz, a = some ⟨b, off, none⟩ ∧ w.heap[b]? = some (.cells cs T fz) ∧ ∀ i, i < xs.length → cs[off + i]? = xs[i]? := by
  rcases h.sl (a := a) with h0 | ⟨b, off, cs, T, fz, h1, _, h3, h4⟩
  · subst h0; simp at hx
  · exact ⟨b, off, cs, T, fz, h1, h3, h4⟩
theorem iaf {len cap : Nat} (hop : o.op = .indexAddr t x y) (hx : ai L x = some (.slice a len cap)) (hy : ai L y = some (.int k i)) [hf : HasF fs a xs] (hu : P.underlying t = some (.slice e)) (hs : (P.info? e).map (·.size) = some sz) (hb : 0 ≤ i ∧ i < (len : Int)) (hxs : 0 < xs.length) (hq : i.toNat * sz = q) : Rd ds P o n L (St ok w0 own fs) (pt a q) :=
  aI fun ac hF w hS => by
    obtain ⟨b, off, cs, T, fz, rfl, h3, h4⟩ := hS.slx (a := a) hxs
    simp [execOp, hop, hF.eval hx, hF.eval hy, Instr.indexAt, asIntOf, run_underlying hu, hb, bi hs, Addr.add_lit, hq, pt]
theorem ldt (hop : o.op = .load t x) (hx : ai L x = some (pt a q)) [hf : HasF fs a xs] {d : TypeDesc} (hu : P.underlying t = some d) (hd : bn d = false) (hv : xs[q]? = some v) : Rd ds P o n L (St ok w0 own fs) v :=
  aI fun ac hF w hS => by
    have hlt : q < xs.length := (Ap.1 hv).1
    obtain ⟨b, off, cs, T, fz, rfl, h3, h4⟩ := hS.slx (a := a) (by omega)
    have hc : w.cell? ⟨b, off + q, none⟩ = some v := by simp [World.cell?, h3, h4 q hlt, hv]
    have hx' := hF.eval hx
    simp only [pt, Option.getD_some, Addr.add_lit] at hx'
    simp [execOp, hop, hx', Instr.loadAt, Instr.sureAddr, loadVar, dK hu, hd, hc]
theorem Fd (hop : o.op = .load t x) (hx : ai L x = some (pt a q)) [hf : HasF fs a xs] {d : TypeDesc} (hu : P.underlying t = some d) (hd : bn d = true) (hs : (P.info? t).map (·.size) = some sz) (hys : (xs.drop q).take sz = ys) (hlen : ys.length = sz) (h0 : 0 < sz) : Rd ds P o n L (St ok w0 own fs) (.agg ys.toArray) :=
  aI fun ac hF w hS => by
    have hml : q + sz ≤ xs.length := by
      have : ys.length = min sz (xs.length - q) := by rw [← hys]; simp
      omega
    obtain ⟨b, off, cs, T, fz, rfl, h3, h4⟩ := hS.slx (a := a) (by omega)
    have hx' := hF.eval hx
    simp only [pt, Option.getD_some, Addr.add_lit] at hx'
    have := gG (P := P) (off := off + q) (xs := ys) h3 (fun i hi => by
      rw [Cl, h4 (q + i) (by omega), ← hys, Cv, Ae (by omega), Cy]) hu hd (by rw [hs, hlen])
    simp [execOp, hop, hx', Instr.loadAt, Instr.sureAddr, this]
theorem faf {f : Nat} {flds : Array Field} {fd : Field} {q' : Nat} (hop : o.op = .fieldAddr t x f) (hx : ai L x = some (pt a q)) (hu : P.underlying t = some (.struct flds)) (hf : flds[f]? = some fd) (hs : ((P.info? fd.type).map (fun i => decide (0 < i.size))) = some true) (hq : q + fd.offset = q') : Rd ds P o n L (St ok w0 own fs) (pt a q') :=
  aI fun ac hF w hS => by
    obtain ⟨i, hi, hi'⟩ := C1.1 hs
    have hne : ¬ i.size = 0 := by simp at hi'; omega
    have hx' := hF.eval hx
    have e1 : ((a.getD ⟨0, 0, none⟩).add q).add fd.offset = (a.getD ⟨0, 0, none⟩).add q' := by subst hq; by_cases h1 : q = 0 <;> by_cases h2 : fd.offset = 0 <;> simp [Addr.add, h1, h2, Cl]
    simp only [pt] at hx' ⊢
    simp [execOp, hop, hx', Instr.fieldAt, Instr.sureAddr, run_underlying hu, hf, fieldPlace, sizeOf, typeInfo, hi, hne, e1]
theorem gj {α : Type} [Inhabited α] (l : List α) (f : α → Value) (q : Nat) (h : q < l.length) : (l.map f)[q]? = some (f (l.getD q default)) := by
  rw [A4, Ad h]; simp [List.getD, Ad h]
theorem ldm {α : Type} [Inhabited α] {l : List α} {f : α → Value} (hop : o.op = .load t x) (hx : ai L x = some (pt a q)) [hf : HasF fs a (l.map f)] {d : TypeDesc} (hu : P.underlying t = some d) (hd : bn d = false) (hq : q < l.length) : Rd ds P o n L (St ok w0 own fs) (f (l.getD q default)) :=
  ldt hop hx hu hd (gj l f q hq)
theorem ja {α : Type} {f : α → List Value} {sz : Nat} (hf : ∀ x, (f x).length = sz) : ∀ (l : List α) (q : Nat), (l.flatMap f).drop (q * sz) = (l.drop q).flatMap f
  | [], q => by simp
  | x :: l, 0 => by simp
  | x :: l, q + 1 => by
    rw [Cp, show (q + 1) * sz = (f x).length + q * sz by rw [hf, Nat.succ_mul, D2], ← List.drop_drop, List.drop_left, ja hf l q, List.drop_succ_cons]
theorem io {α : Type} [Inhabited α] (l : List α) (f : α → List Value) (sz : Nat) (hf : ∀ x, (f x).length = sz) (q : Nat) (h : q < l.length) : ((l.flatMap f).drop (q * sz)).take sz = f (l.getD q default) := by
  rw [ja hf, B3 h, Cp, ← hf l[q], List.take_left]
  simp [List.getD, Ad h]
theorem ag {α : Type} (l : List α) (f : α → List Value) (sz : Nat) (hf : ∀ x, (f x).length = sz) : (l.flatMap f).length = l.length * sz := by
  induction l with
  | nil => simp
  | cons x l ih => rw [Cp, Al, hf, ih, Ay, Nat.succ_mul, D2]
theorem aP {α : Type} [Inhabited α] {l : List α} {f : α → List Value} (j : Nat) (hop : o.op = .load t x) (hx : ai L x = some (pt a q)) [hf : HasF fs a (l.flatMap f)] {d : TypeDesc} (hu : P.underlying t = some d) (hd : bn d = true) (hs : (P.info? t).map (·.size) = some sz) (hsz : ∀ x, (f x).length = sz) (h0 : 0 < sz) (hq : q = j * sz) (hj : j < l.length) : Rd ds P o n L (St ok w0 own fs) (.agg (f (l.getD j default)).toArray) :=
  Fd hop hx hu hd hs (by rw [hq]; exact io l f sz hsz j hj) (hsz _) h0
theorem cE {α : Type} [Inhabited α] {l : List α} {f : α → List Value} (j off : Nat) (hop : o.op = .load t x) (hx : ai L x = some (pt a q)) [hf : HasF fs a (l.flatMap f)] {d : TypeDesc} (hu : P.underlying t = some d) (hd : bn d = false) (hsz : ∀ x, (f x).length = sz) (hq : q = j * sz + off) (hj : j < l.length) (ho : off < sz) (hv : (f (l.getD j default))[off]? = some v) : Rd ds P o n L (St ok w0 own fs) v :=
  ldt hop hx hu hd (by rw [← hv, ← io l f sz hsz j hj, Cv, Ae ho, Cy, hq])
end
theorem WC.free0 {ds : List Deferred} {P : Program} {ok : Nat → Prop} {w0 : World} {n : Nat} {L : an} {own : List Ent} {fs : List Fact} {Q : Exit → Act → World → Prop} {id : Nat} {l tl : List Oper} (front tail marks : List Nat) (hm : P.follows .mixedOrders = true) (hB : il l front tail marks = true) (ht : bJ l tail = tl)
    (k : WJ ds P l ok w0 (St ok w0 own fs) (eZ P l.toArray Q tl) marks n front L own fs []) : WC ds none P (.region id l.toArray true) Q n L (St ok w0 own fs) := WC.free (K := own) (fs0 := fs) front tail marks hm hB ht k
section
variable {ds : List Deferred} {ρ : Option Nat} {P : Program} {o : Oper} {n : Nat} {L : an} {Z : World → Prop} {x y : Operand} {t t2 e : TypeId} {a : Option Addr} {m c : Nat}
theorem oZ (op : BinOp) (h : P.underlying t = some (.slice e)) (b : Option Addr) (m' c' : Nat) (w : World) : (eqGuard op t x y (.slice a m c) (.slice b m' c')).run P w = .ok () w := by
  cases op <;> simp [eqGuard, Op.eqGuardIn, Op.maxDepth, run_underlying h]
theorem ns (hop : o.op = .binOp .eql t x y t2) (hx : ai L x = some (.slice a m c)) (hy : ai L y = some (.slice none 0 0)) (hu : P.underlying t = some (.slice e)) : Rd ds P o n L Z (.bool a.isNone) :=
  aW hop hx hy (oZ _ hu _ _ _) fun w => Lib.run_eql_slice_nil w t e a m c 0 0 hu
end
theorem ki {P : Program} {f : FuncId} {args : Array Value} {Z Z' : World → Prop} {v : Value} (h : ∀ w, Z w → Calls P f args w (fun e w' => e = .returned v ∧ Z' w')) : ∀ w, Z w → Calls P f args w (fun e w' => ∃ _g : Unit, e = .returned v ∧ Z' w') :=
  fun w hw => (h w hw).mono fun _ _ hh => ⟨(), hh⟩
section
variable {ds : List Deferred} {ρ : Option Nat} {P : Program} {o : Oper} {n : Nat} {L : an} {ok : Nat → Prop} {w0 : World} {own : List Ent} {C : Ent → List Ent} {fs : List Fact} {x y : Operand} {v : Value} {t e T : TypeId} {k : IntKind} {i : Int} {sz q : Nat} {ob : Option Nat} {cs : List Value}
theorem St.ocx {w : World} (h : St ok w0 own fs w) (hc : Ctx own ⟨ob, cs, T⟩ C) (hx : 0 < cs.length) : ∃ b, ob = some b ∧ w.heap[b]? = some (.cells cs.toArray T (0, 0)) := by
  obtain ⟨k, hk, _⟩ := hc.get
  have := h.own_ _ (A9 hk)
  cases ob with
  | none => have h1 : cs = [] := this; subst h1; simp at hx
  | some b => exact ⟨b, rfl, this.2⟩
theorem iao {len cap : Nat} (hop : o.op = .indexAddr t x y) (hx : ai L x = some (.slice (ob.map fun b => ⟨b, 0, none⟩) len cap)) (hy : ai L y = some (.int k i)) [hf : HasC own ob cs T C] (hu : P.underlying t = some (.slice e)) (hs : (P.info? e).map (·.size) = some sz) (hb : 0 ≤ i ∧ i < (len : Int)) (hxs : 0 < cs.length) (hq : i.toNat * sz = q) : Rd ds P o n L (St ok w0 own fs) (pt (ob.map fun b => ⟨b, 0, none⟩) q) :=
  aI fun ac hF w hS => by
    obtain ⟨b, rfl, _⟩ := hS.ocx hf.h hxs
    have hx' := hF.eval hx
    simp only [Option.map_some] at hx'
    simp [execOp, hop, hx', hF.eval hy, Instr.indexAt, asIntOf, run_underlying hu, hb, bi hs, Addr.add_lit, hq, pt]
theorem ldo (hop : o.op = .load t x) (hx : ai L x = some (pt (ob.map fun b => ⟨b, 0, none⟩) q)) [hf : HasC own ob cs T C] {d : TypeDesc} (hu : P.underlying t = some d) (hd : bn d = false) (hv : cs[q]? = some v) : Rd ds P o n L (St ok w0 own fs) v :=
  aI fun ac hF w hS => by
    have hlt : q < cs.length := (Ap.1 hv).1
    obtain ⟨b, rfl, h3⟩ := hS.ocx hf.h (by omega)
    have hc : w.cell? ⟨b, q, none⟩ = some v := by simp [World.cell?, h3, hv]
    have hx' := hF.eval hx
    simp only [pt, Option.map_some, Option.getD_some, Addr.add_lit, A3] at hx'
    simp [execOp, hop, hx', Instr.loadAt, Instr.sureAddr, loadVar, dK hu, hd, hc]
theorem Fe {α : Type} [Inhabited α] {l : List α} {f : α → Value} {sp : List Value} (hop : o.op = .load t x) (hx : ai L x = some (pt (ob.map fun b => ⟨b, 0, none⟩) q)) [hf : HasC own ob (l.map f ++ sp) T C] {d : TypeDesc} (hu : P.underlying t = some d) (hd : bn d = false) (hq : q < l.length) : Rd ds P o n L (St ok w0 own fs) (f (l.getD q default)) :=
  ldo hop hx hu hd (by rw [B2 (by simpa using hq)]; exact gj l f q hq)
end
theorem WR.free0 {ds : List Deferred} {ρ : Option Nat} {P : Program} {ok : Nat → Prop} {w0 : World} {n : Nat} {L : an} {own : List Ent} {fs : List Fact} {Q : Exit → Act → World → Prop} {id : Nat} {l tl : List Oper} (hp : ml l = true) (front tail marks : List Nat) (hm : P.follows .mixedOrders = true) (hB : il l front tail marks = true) (ht : bJ l tail = tl)
    (k : WJ ds P l ok w0 (St ok w0 own fs) (eZ P l.toArray Q tl) marks n front L own fs []) : WC ds ρ P (.region id l.toArray true) Q n L (St ok w0 own fs) := WR.free (K := own) (fs0 := fs) hp front tail marks hm hB ht k
abbrev sh (a : Option Addr) (k : Nat) : Option Addr := a.map (·.add k)
theorem tK {ok : Nat → Prop} {a : Option Addr} {xs : List Value} {w : World} (k : Nat) (h : (Fact.sl a xs).holds ok w) : (Fact.sl (sh a k) (xs.drop k)).holds ok w := by
  rcases h with rfl | ⟨b, off, cs, T, fz, rfl, h2, h3, h4⟩
  · exact .inl (by simp)
  · exact .inr ⟨b, off + k, cs, T, fz, by simp [sh, Addr.add_lit], h2, h3, fun i hi => by
      rw [C2] at hi
      rw [Cy, ← h4 (k + i) (by omega), Cl]⟩
theorem kI {α : Type} {ok : Nat → Prop} {a : Option Addr} {l : List α} {f : α → Value} {w : World} (k : Nat) (h : (Fact.sl a (l.map f)).holds ok w) : (Fact.sl (sh a k) ((l.drop k).map f)).holds ok w := by
  rw [List.map_drop]; exact tK k h
theorem ka {α : Type} {ok : Nat → Prop} {a : Option Addr} {l : List α} {f : α → Value} {w : World} {cap : Nat} (k : Nat) (hc : l.length ≤ cap) (h : (Fact.sl a (l.map f)).holds ok w) : (Fact.sl (cut a k cap 1) ((l.drop k).map f)).holds ok w := by
  unfold cut
  split
  · rename_i e; subst e; exact .inl (by simp; omega)
  · rw [As]; exact kI k h
section
variable {ds : List Deferred} {ρ : Option Nat} {P : Program} {o : Oper} {n : Nat} {L : an} {Z : World → Prop} {x y : Operand} {t e : TypeId} {k k' : IntKind} {i j : Int} {sz : Nat} {ok : Nat → Prop} {w0 : World} {own : List Ent} {fs : List Fact}
theorem w9 {a : Option Addr} {len cap : Nat} {lo : Operand} (hop : o.op = .slice t x (some lo) none none) (hx : ai L x = some (.slice a len cap)) (hl : ai L lo = some (.int k i)) (hu : P.underlying t = some (.slice e)) (hs : (P.info? e).map (·.size) = some sz)
    (hb : 0 ≤ i ∧ i ≤ (len : Int) ∧ i < (cap : Int)) {q1 q2 q3 : Nat} (h1 : i.toNat * sz = q1) (h2 : len - i.toNat = q2) (h3 : cap - i.toNat = q3) : Rd ds P o n L (St ok w0 own fs) (.slice (sh a q1) q2 q3) := by
  have := kT (ds := ds) (P := P) (n := n) (ok := ok) (w0 := w0) (own := own) (fs := fs) hop hx hl hu hs ⟨hb.1, hb.2.1⟩ rfl rfl rfl
  rwa [cut, Aa (by omega), h1, h2, h3] at this
end
section
variable {ds : List Deferred} {ρ : Option Nat} {P : Program} {Q : Exit → Act → World → Prop} {n : Nat} {L : an} {Z : World → Prop} {ops : List Oper}
theorem WC.sr {id : Nat} {l : List Oper} {y : Code} (k : WL ds P l (Exit.then (cdX none P y Q) Q) n l L Z) : WC ds none P (.seq (.region id l.toArray false) y) Q n L Z := WC.seq (WC.region k)
theorem WR.sr {id : Nat} {l : List Oper} {y : Code} (hp : ml l = true) (k : WL ds P l (Exit.then (cdX ρ P y Q) Q) n l L Z) : WC ds ρ P (.seq (.region id l.toArray false) y) Q n L Z := WC.seq (WR.region hp k)
theorem WL.nt {y : Code} (k : WC ds ρ P y Q n L Z) : WL ds P ops (Exit.then (cdX ρ P y Q) Q) n [] L Z := WL.nil (WX.then_normal k)
end
section
variable {ds : List Deferred} {ρ : Option Nat} {P : Program} {Q : Exit → Act → World → Prop} {n : Nat} {L : an} {Z : World → Prop} {c : Code} {σ : Type}
theorem gE {A B L' : an} (hA : ∀ k v, ap A k = some v → ap L' k = some v) (hB : ∀ k v, ap B k = some v → ap L' k = some v) : ∀ k v, ap (A ++ B) k = some v → ap L' k = some v := by
  intro k v hk
  induction A with
  | nil => exact hB k v hk
  | cons p A ih =>
    obtain ⟨d, u⟩ := p
    simp only [List.cons_append, ap] at hk
    cases hb : Nat.beq k d with
    | true => exact hA k v (by simp only [ap, hb]; simpa [hb] using hk)
    | false =>
      rw [hb] at hk
      by_cases hd : ap A k = some v
      · exact hA k v (by simp only [ap, hb]; exact hd)
      · have : ∀ A : an, ap (A ++ B) k = some v → ap A k ≠ some v → ap B k = some v := by
          intro A
          induction A with
          | nil => intro h _; exact h
          | cons p A ih =>
            obtain ⟨e, u⟩ := p
            intro h hne
            simp only [List.cons_append, ap] at h hne
            cases hb : Nat.beq k e with
            | true => rw [hb] at h hne; exact absurd h hne
            | false => rw [hb] at h hne; exact ih h hne
        exact hB k v (this A hk hd)
theorem WC.loopP (Lm : an) (Ls : σ → an) (inv : σ → Prop) (μ : σ → Nat) (s0 : σ) (hm : ∀ k v, ap Lm k = some v → ap L k = some v) (hL : ∀ k v, ap (Ls s0) k = some v → ap L k = some v) (h0 : inv s0)
    (round : ∀ s, inv s → WC ds ρ P c (Exit.then (mZ ds (fun s => Ls s ++ Lm) (fun s w => inv s ∧ Z w) μ n s) Q) n (Ls s ++ Lm) Z) : WC ds ρ P (.loop c) Q n L Z :=
  WC.loop (fun s => Ls s ++ Lm) (fun s w => inv s ∧ Z w) μ s0 (gE hL hm) (fun w h => ⟨h0, h⟩) fun s => WC.pu fun h => round s h
theorem WX.loopP {Lm L' : an} {Ls : σ → an} {inv : σ → Prop} {μ : σ → Nat} {s : σ} {Z' : World → Prop} (s' : σ) (hμ : μ s' < μ s) (hm : ∀ k v, ap Lm k = some v → ap L' k = some v) (hL : ∀ k v, ap (Ls s') k = some v → ap L' k = some v) (hi : inv s') (hZ : ∀ w, Z' w → Z w) :
    WX ds (Exit.then (mZ ds (fun s => Ls s ++ Lm) (fun s w => inv s ∧ Z w) μ n s) Q) .normal n L' Z' := WX.loop s' hμ (gE hL hm) (fun w h => ⟨hi, hZ w h⟩)
theorem WC.loopO {ok : Nat → Prop} {w0 : World} {own : List Ent} {fs : List Fact} (Lm : an) (Ls : σ → an) (inv : σ → Prop) (μ : σ → Nat) (own' : σ → List Ent) (fs' : σ → List Fact) (s0 : σ) (hm : ∀ k v, ap Lm k = some v → ap L k = some v) (hL : ∀ k v, ap (Ls s0) k = some v → ap L k = some v) (h0 : inv s0) (hS : ∀ w, St ok w0 own fs w → St ok w0 (own' s0) (fs' s0) w)
    (round : ∀ s, inv s → WC ds ρ P c (Exit.then (mZ ds (fun s => Ls s ++ Lm) (fun s w => inv s ∧ St ok w0 (own' s) (fs' s) w) μ n s) Q) n (Ls s ++ Lm) (St ok w0 (own' s) (fs' s))) : WC ds ρ P (.loop c) Q n L (St ok w0 own fs) :=
  WC.loop (fun s => Ls s ++ Lm) (fun s w => inv s ∧ St ok w0 (own' s) (fs' s) w) μ s0 (gE hL hm) (fun w h => ⟨h0, hS w h⟩) fun s => WC.pu fun h => round s h
theorem WX.loopO {ok : Nat → Prop} {w0 : World} {Lm L' : an} {Ls : σ → an} {inv : σ → Prop} {μ : σ → Nat} {own' : σ → List Ent} {fs' : σ → List Fact} {s : σ} {Z' : World → Prop} (s' : σ) (hμ : μ s' < μ s) (hm : ∀ k v, ap Lm k = some v → ap L' k = some v) (hL : ∀ k v, ap (Ls s') k = some v → ap L' k = some v) (hi : inv s') (hZ : ∀ w, Z' w → St ok w0 (own' s') (fs' s') w) :
    WX ds (Exit.then (mZ ds (fun s => Ls s ++ Lm) (fun s w => inv s ∧ St ok w0 (own' s) (fs' s) w) μ n s) Q) .normal n L' Z' := WX.loop s' hμ (gE hL hm) (fun w h => ⟨hi, hZ w h⟩)
end
section
variable {ds : List Deferred} {ρ : Option Nat} {P : Program} {ops : List Oper} {ok : Nat → Prop} {w0 : World} {F : Act → World → Prop} {marks : List Nat} {n d i : Nat} {rest : List Nat} {L : an} {K own z : List Ent} {fs0 fs : List Fact} {o : Oper} {v : Value}
theorem stJ {x y : Operand} {t T : TypeId} {b off : Nat} {cs xs : List Value} {C : Ent → List Ent} (hop : o.op = .store t x y) (hx : ai L x = some (.pointer (some ⟨b, off, none⟩))) (hy : ai L y = some v) [hk : HasC own (some b) cs T C] (hs : (P.info? t).map (·.size) = some 1) (h1 : v.oneCell' = true) (hoff : off < cs.length) (hxs : cs.set off v = xs) :
    ∀ ext, Og ds P o n L (St ok w0 (ext ++ own) fs) (fun _ : Unit => undef) (fun _ => St ok w0 (ext ++ C ⟨some b, xs, T⟩) fs) := fun ext => st hop hx hy (Ctx.right hk.h ext) hs h1 hoff hxs
theorem WJ.st {own' : List Ent} [h1 : SubL K own'] [h2 : SubL fs0 fs] (ho : ops[i]? = some o) (hm : marks.getD i 2 = 1) (hw : aH ops L o = some true) (hdst : o.dst = none)
    (h : ∀ ext, Og ds P o n L (St ok w0 (ext ++ own) fs) (fun _ : Unit => undef) (fun _ => St ok w0 (ext ++ own') fs))
    (k : WJ ds P ops ok w0 (St ok w0 K fs0) F marks n rest L own' fs z) : WJ ds P ops ok w0 (St ok w0 K fs0) F marks n (i :: rest) L own fs z := by
  intro a hF
  refine ⟨o, by simpa using ho, ?_⟩
  rw [Ae (bj hF hw)]
  refine .inr (.inl ⟨hm, Unit, fun _ => undef, fun _ => True, fun _ => own', fun _ => fs, fun ext w hS => bp (fun a' w' hh => ?_) (h ext a w hF hS), fun g _ => ⟨nW, ?_⟩⟩)
  · obtain ⟨u, rfl, g, rfl, hS'⟩ := hh
    exact ⟨(), rfl, trivial, hS'⟩
  · rw [hdst]; exact k _ hF
theorem WJ.gv [h1 : SubL K own] [h2 : SubL fs0 fs] (ho : ops[i]? = some o) (hm : marks.getD i 2 = 1) (hw : aH ops L o = some true) (hdst : o.dst = some d) (hd : Nat.blt d n = true)
    (h : ∀ ext, Og ds P o n L (St ok w0 (ext ++ own) fs) (fun _ : Unit => v) (fun _ => St ok w0 (ext ++ own) fs))
    (k : WJ ds P ops ok w0 (St ok w0 K fs0) F marks n rest ((d, v) :: L) own fs z) : WJ ds P ops ok w0 (St ok w0 K fs0) F marks n (i :: rest) L own fs z :=
  WJ.g (γ := Unit) (val := fun _ => v) (p := fun _ => True) (own' := fun _ => own) (fs' := fun _ => fs) ho hm hw hdst hd (fun ext a w hF hS => bp (fun a' w' hh => by
    obtain ⟨u, e, g, e', hS'⟩ := hh; exact ⟨u, e, g, e', trivial, hS'⟩) (h ext a w hF hS)) (fun _ _ => k)
end
theorem yR {ds : List Deferred} {P : Program} {o : Oper} {n : Nat} {L : an} {Z : World → Prop} {v : Value} (h : Rd ds P o n L Z v) : Og ds P o n L Z (fun _ : Unit => v) (fun _ => Z) := fun a w hF hS => (h a hF).wp hS ⟨v, rfl, (), rfl, hS⟩
theorem Fo {ds : List Deferred} {P : Program} {o : Oper} {n : Nat} {L : an} {ok : Nat → Prop} {w0 : World} {own : List Ent} {C : Ent → List Ent} {fs : List Fact} {x y : Operand} {t e : TypeId} {sz : Nat} {xs : List Value} {len cap b : Nat} {news : List Value} {zv : Value} {m c : Nat} {ad : Option Addr} (hop : o.op = .call { callee := .builtin .append, args := #[x, y], argTypes := #[t, t] }) (hu : P.underlying t = some (.slice e)) (hi : (P.info? e).map (fun i => (i.zero, i.size, i.bytes)) = some (some zv, 1, sz)) (h1 : zv.cells = #[zv])
    (hk : Ctx own ⟨some b, xs, e⟩ C) (hx : ai L x = some (.slice (some ⟨b, 0, none⟩) len cap)) (hy : ai L y = some (.slice ad m c)) (hsrc : ∀ w, St ok w0 own fs w → (Fact.sl ad news).holds (fun _ => True) w) (hm : news.length = m)
    (hb : xs.length = len ∧ cap = len ∧ len + m ≤ 9223372036854775807 ∧ (len + m) * sz ≤ 140737488355328) (h1c : ∀ u ∈ news, u.oneCell' = true) :
    Og ds P o n L (St ok w0 own fs) (fun g : Gr => .slice (g.ob.map fun b => ⟨b, 0, none⟩) (len + m) g.cap) (fun g w => (g.cap = len + m + g.sp.length) ∧ St ok w0 (C ⟨g.ob, (xs ++ news) ++ g.sp, e⟩) fs w) :=
  ol (ob := some b) (sp := []) hop hu hi h1 (by rw [A5]; exact hk) hx hy hsrc hm ⟨hb.1, by simp; exact hb.2.1, hb.2.2⟩ h1c
section
variable {ds : List Deferred} {ρ : Option Nat} {P : Program} {o : Oper} {n : Nat} {L : an} {ok : Nat → Prop} {w0 : World} {own : List Ent} {C : Ent → List Ent} {fs : List Fact} {x y : Operand} {t e : TypeId} {sz : Nat} {xs : List Value} {len cap b : Nat} {news : List Value} {zv : Value} {m c : Nat} {ad : Option Addr}
theorem po {ob : Option Nat} {sp : List Value} (hop : o.op = .call { callee := .builtin .append, args := #[x, y], argTypes := #[t, t] }) (hu : P.underlying t = some (.slice e)) (hi : (P.info? e).map (fun i => (i.zero, i.size, i.bytes)) = some (some zv, 1, sz)) (h1 : zv.cells = #[zv])
    (hk : Ctx own ⟨ob, xs ++ sp, e⟩ C) (hx : ai L x = some (.slice (ob.map fun b => ⟨b, 0, none⟩) len cap)) (hy : ai L y = some (.slice ad m c)) (hsrc : ∀ ext w, St ok w0 (ext ++ own) fs w → (Fact.sl ad news).holds (fun _ => True) w) (hm : news.length = m)
    (hb : xs.length = len ∧ cap = len + sp.length ∧ len + m ≤ 9223372036854775807 ∧ (len + m) * sz ≤ 140737488355328) (h1c : ∀ u ∈ news, u.oneCell' = true) (ext : List Ent) :
    Og ds P o n L (St ok w0 (ext ++ own) fs) (fun g : Gr => .slice (g.ob.map fun b => ⟨b, 0, none⟩) (len + m) g.cap) (fun g w => (g.cap = len + m + g.sp.length) ∧ St ok w0 (ext ++ C ⟨g.ob, (xs ++ news) ++ g.sp, e⟩) fs w) :=
  ol hop hu hi h1 (Ctx.right hk ext) hx hy (hsrc ext) hm hb h1c
theorem ny {Z : World → Prop} {vs : List Value} {v : Value} {ix : Nat} (hop : o.op = .extract x ix) (hx : ai L x = some (.tuple vs.toArray)) (h : vs[ix]? = some v) : Rd ds P o n L Z v := zY hop hx (by simpa using h)
end
structure Rs where
  ob : Option Nat
  cap : Nat
  sp : List Value
abbrev Rs.a (g : Rs) : Option Addr := g.ob.map fun b => ⟨b, 0, none⟩
abbrev Rs.val (g : Rs) (n : Nat) : Value := .slice g.a n g.cap
abbrev Rs.ent (g : Rs) (xs : List Value) (T : TypeId) : Ent := ⟨g.ob, xs ++ g.sp, T⟩
section
variable {ds : List Deferred} {ρ : Option Nat} {P : Program} {ok : Nat → Prop} {w0 : World} {own ext : List Ent} {fs : List Fact} {γ : Type} {f : FuncId} {args : Array Value} {val : γ → Value} {p : γ → Prop}
theorem tH {w w' : World} {ok' : Nat → Prop} (hS : St ok w0 own fs w) : ∀ (xs : List (Rs × List Value × TypeId)), St ok' w (xs.map fun x => x.1.ent x.2.1 x.2.2) [] w' → St ok w0 own (xs.map (fun x => Fact.sl x.1.a x.2.1) ++ fs) w' := by
  intro xs hn
  have h1 := hS.keep hn.below
  refine ⟨h1.okn, h1.below, h1.own_, h1.nd, fun f hf => ?_⟩
  rcases Bx.1 hf with hf | hf
  · obtain ⟨x, hx, rfl⟩ := Ch.1 hf
    have := hn.own_ (x.1.ent x.2.1 x.2.2) (Ch.2 ⟨x, hx, rfl⟩)
    unfold Ent.holds at this
    cases hob : x.1.ob with
    | none =>
      rw [Rs.ent, hob] at this
      exact .inl (by have h2 : x.2.1 ++ x.1.sp = [] := this; simp at h2; exact h2.1)
    | some b =>
      rw [Rs.ent, hob] at this
      have hf := hS.fresh b this.1
      exact .inr ⟨b, 0, (x.2.1 ++ x.1.sp).toArray, x.2.2, (0, 0), by rw [Rs.a, hob]; rfl, hf, this.2, fun i hi => by rw [A3, Du, B2 hi]⟩
  · exact h1.fact f hf
theorem kj {val : Rs → Value} {p : Rs → Prop} {xs : List Value} {T : TypeId} {ok' : Nat → Prop} (h : ∀ w, St ok w0 own fs w → Calls P f args w (fun e w' => ∃ g : Rs, e = .returned (val g) ∧ p g ∧ St ok' w [g.ent xs T] [] w')) :
    ∀ w, St ok w0 own fs w → Calls P f args w (fun e w' => ∃ g : Rs, e = .returned (val g) ∧ p g ∧ St ok w0 own (Fact.sl g.a xs :: fs) w') :=
  fun w hS => (h w hS).mono fun _ _ ⟨g, he, hp, hb⟩ => ⟨g, he, hp, tH hS [(g, xs, T)] hb⟩
theorem nQ {val : Rs → Value} {p : Rs → Prop} {xs : List Value} {T : TypeId} {ok' : Nat → Prop} (h : ∀ w, St ok w0 own fs w → Calls P f args w (fun e w' => ∃ g : Rs, e = .returned (val g) ∧ p g ∧ St ok' w [g.ent xs T] [] w')) :
    ∀ w, St ok w0 own fs w → Calls P f args w (fun e w' => ∃ g : Rs, e = .returned (val g) ∧ p g ∧ St ok w0 (g.ent xs T :: own) fs w') :=
  fun w hS => (h w hS).mono fun _ _ ⟨g, he, hp, hb⟩ => ⟨g, he, hp, hS.adopt hb⟩
theorem oU {val : Rs → Value} {p : Rs → Prop} {xs : List Value} {T : TypeId} {ok' : Nat → Prop} (h : ∀ w, St ok w0 (ext ++ own) fs w → Calls P f args w (fun e w' => ∃ g : Rs, e = .returned (val g) ∧ p g ∧ St ok' w [g.ent xs T] [] w')) :
    ∀ w, St ok w0 (ext ++ own) fs w → Calls P f args w (fun e w' => ∃ g : Rs, e = .returned (val g) ∧ p g ∧ St ok w0 (ext ++ (g.ent xs T :: own)) fs w') :=
  fun w hS => (h w hS).mono fun _ _ ⟨g, he, hp, hb⟩ => ⟨g, he, hp, (hS.adopt hb).perm List.perm_middle⟩
end
inductive jP (P : Program) (L : an) (own : List Ent) : List ResultVar → List Value → Prop
  | nil : jP P L own [] []
  | tmp {r : Nat} {v : Value} {rs : List ResultVar} {vs : List Value} (h : ap L r = some v) (k : jP P L own rs vs) : jP P L own (.tmp r :: rs) (v :: vs)
  | agg {r b : Nat} {t T : TypeId} {cs : List Value} {rs : List ResultVar} {vs : List Value} {d : TypeDesc} (h : ap L r = some (.pointer (some ⟨b, 0, none⟩))) (he : InE own ⟨some b, cs, T⟩) (hu : P.underlying t = some d) (hd : bn d = true) (hsz : (P.info? t).map (·.size) = some cs.length) (k : jP P L own rs vs) : jP P L own (.cell r t :: rs) (.agg cs.toArray :: vs)
  | one {r b : Nat} {t T : TypeId} {v : Value} {rs : List ResultVar} {vs : List Value} {d : TypeDesc} (h : ap L r = some (.pointer (some ⟨b, 0, none⟩))) (he : InE own ⟨some b, [v], T⟩) (hu : P.underlying t = some d) (hd : bn d = false) (k : jP P L own rs vs) : jP P L own (.cell r t :: rs) (v :: vs)
def tup : List Value → Value
  | [v] => v
  | vs => .tuple vs.toArray
def mc (tmps : Array Value) : ResultVar → Sem Value
  | .tmp t => pure (tmps.getD t undef)
  | .cell b t => do loadVar t (← asAddr (tmps.getD b undef))
theorem kO (fn : Func) (tmps : Array Value) : results fn tmps = (do let vs ← fn.results.mapM (mc tmps); pure (if h : vs.size = 1 then vs[0] else .tuple vs)) := by
  have : (mc tmps) = (fun | .tmp t => pure (tmps.getD t undef) | .cell a t => do loadVar t (← asAddr (tmps.getD a undef))) := by funext x; cases x <;> rfl
  rw [this]; rfl
section
variable {ds : List Deferred} {ρ : Option Nat} {P : Program} {fn : Func} {R : Ending → World → Prop} {n : Nat} {L : an} {ok : Nat → Prop} {w0 : World} {own : List Ent} {fs : List Fact}
theorem f5 {a : Act} {w : World} (hF : Fr ds a n L) (hS : St ok w0 own fs w) : ∀ {rs : List ResultVar} {vs : List Value}, jP P L own rs vs → (rs.mapM (mc a.tmps)).run P w = .ok vs w
  | _, _, .nil => rfl
  | _, _, .tmp (r := r) h k => by
    have h1 := hF.at_ _ _ h
    have ih := f5 hF hS k
    rw [Ee]
    simp [ih, h1, mc]
  | _, _, .agg h he hu hd hsz k => by
    have h1 := hF.at_ _ _ h
    have ih := f5 hF hS k
    obtain ⟨kk, hk⟩ := he.get
    have h2 := gG (P := P) (off := 0) (hS.block hk) (fun i _ => by simp) hu hd hsz
    rw [Ee]
    simp [ih, h1, asAddr, h2, mc]
  | _, _, .one h he hu hd k => by
    have h1 := hF.at_ _ _ h
    have ih := f5 hF hS k
    obtain ⟨kk, hk⟩ := he.get
    have hc := df (hS.block hk) 0
    rw [Ee]
    simp [ih, h1, asAddr, loadVar, dK hu, hd, hc, mc]
theorem WX.retN {rs : List ResultVar} {vs : List Value} (hr : fn.results = rs.toArray) (hv : jP P L own rs vs) (h : ∀ w, St ok w0 own fs w → R (.returned (tup vs)) w) : WX [] (bodyPost P fn R) .ret n L (St ok w0 own fs) := fun a w hF hS => by
  refine bodyPost_ret (v := tup vs) ?_ hF.defers (h w hS)
  have hm := f5 hF hS hv
  rw [kO, hr, List.mapM_toArray]
  simp only [Sem.run_bind, map_eq_pure_bind, hm, Result.andThen, Sem.run_pure]
  match vs with
  | [] => rfl
  | [v] => rfl
  | v :: u :: r => simp [tup]
end
section
variable {ds : List Deferred} {ρ : Option Nat} {γ : Type} {P : Program} {ops : List Oper} {C S Z : World → Prop} {Q : Exit → Act → World → Prop} {n d i : Nat} {rest : List Oper} {L : an} {o : Oper} {x : Operand} {v : Value} {marks : List Nat} {val : γ → Value} {S' : γ → World → Prop}
theorem Km (h : (aH ops L o, o.dst, Nat.blt d n, o.op, ai L x) = (some true, some d, true, .move x, some v)) (k : WL ds P ops Q n rest ((d, v) :: L) S) : WL ds P ops Q n (o :: rest) L S := by
  simp only [Prod.mk.injEq] at h; exact WL.r h.1 h.2.1 h.2.2.1 (cI h.2.2.2.1 h.2.2.2.2) k
theorem Ka (h : (aH ops L o, o.dst, Nat.blt d n, o.op, ai L x) = (some true, some d, true, .assign x, some v)) (k : WL ds P ops Q n rest ((d, v) :: L) S) : WL ds P ops Q n (o :: rest) L S := by
  simp only [Prod.mk.injEq] at h; exact WL.r h.1 h.2.1 h.2.2.1 (bS h.2.2.2.1 h.2.2.2.2) k
theorem Kq (h : (aH ops L o, o.dst, Nat.blt d n) = (some true, some d, true)) (hr : Rd ds P o n L S v) (k : WL ds P ops Q n rest ((d, v) :: L) S) : WL ds P ops Q n (o :: rest) L S := by
  simp only [Prod.mk.injEq] at h; exact WL.r h.1 h.2.1 h.2.2 hr k
theorem Kt (h : (aH ops L o, o.dst, Nat.blt d n) = (some false, some d, true)) (k : WL ds P ops Q n rest ((d, undef) :: L) S) : WL ds P ops Q n (o :: rest) L S := by
  simp only [Prod.mk.injEq] at h; exact WL.s h.1 h.2.1 h.2.2 k
theorem Kh (h : (aH ops L o, o.dst, Nat.blt d n) = (some true, some d, true)) (hr : Og ds P o n L S val S') (k : ∀ g, WL ds P ops Q n rest ((d, val g) :: L) (S' g)) : WL ds P ops Q n (o :: rest) L S := by
  simp only [Prod.mk.injEq] at h; exact WL.g h.1 h.2.1 h.2.2 hr k
theorem Kj {is : List Nat} {ok : Nat → Prop} {w0 : World} {F : Act → World → Prop} {own z : List Ent} {fs : List Fact} (h : (ops[i]?, marks.getD i 2, aH ops L o, o.dst, Nat.blt d n) = (some o, 0, some true, some d, true)) (hr : Rd ds P o n L C v) (k : WJ ds P ops ok w0 C F marks n is ((d, v) :: L) own fs z) : WJ ds P ops ok w0 C F marks n (i :: is) L own fs z := by
  simp only [Prod.mk.injEq] at h; exact WJ.r h.1 h.2.1 h.2.2.1 h.2.2.2.1 h.2.2.2.2 hr k
end
theorem Xa : type_of% @WX.then_normal := @WX.then_normal
theorem Xb : type_of% @WX.then_ret := @WX.then_ret
theorem Xc : type_of% @WX.then_exit := @WX.then_exit
theorem Xd : type_of% @WX.block_normal := @WX.block_normal
theorem Xe : type_of% @WX.block_exit := @WX.block_exit
theorem Xf : type_of% @WX.block_ret := @WX.block_ret
theorem Nt : type_of% @WL.nt := @WL.nt
theorem Cs : type_of% @WC.sr := @WC.sr
theorem Cq : type_of% @WC.seq := @WC.seq
theorem Ce : type_of% @WC.ret := @WC.ret
theorem Cd : type_of% @WC.cond := @WC.cond
theorem Cg : type_of% @WC.region := @WC.region
theorem Ck : type_of% @WC.skip := @WC.skip
theorem Cb : type_of% @WC.block := @WC.block
theorem Cx : type_of% @WC.exit := @WC.exit
theorem Nn : type_of% @WL.nil := @WL.nil
theorem Rn : type_of% @WX.retN := @WX.retN
theorem Ac : type_of% @fl := @fl
theorem An : type_of% @jl := @jl
theorem Kv : type_of% @gm := @gm
theorem Fn : type_of% @gS := @gS
theorem Fc : type_of% @ly := @ly
theorem Re : type_of% @ny := @ny
theorem Rm : type_of% @cI := @cI
theorem Rp : type_of% @kV := @kV
theorem Rq : type_of% @kW := @kW
theorem Rz : type_of% @k6 := @k6
theorem Sc : type_of% @au := @au
theorem S0 : type_of% @dp := @dp
theorem Ng : type_of% @WL.g0 := @WL.g0
theorem Nb : type_of% @WL.bool := @WL.bool
theorem Ns : type_of% @WL.set := @WL.set
theorem Ra : type_of% @bS := @bS
theorem Js : type_of% @WJ.s := @WJ.s
theorem Jv : type_of% @WJ.gv := @WJ.gv
theorem Jf : type_of% @WJ.f := @WJ.f
theorem Jg : type_of% @WJ.g := @WJ.g
theorem Lo : type_of% @WC.loopO := @WC.loopO
theorem Lx : type_of% @WX.loopO := @WX.loopO
theorem Lp : type_of% @WC.loopP := @WC.loopP
theorem Ly : type_of% @WX.loopP := @WX.loopP
theorem Ob : type_of% @pN := @pN
theorem Oa : type_of% @lh := @lh
theorem Rt : type_of% @pH := @pH
theorem Cf : type_of% @WC.free0 := @WC.free0
section
variable {L : an} {d1 d2 d3 d4 d5 d6 d7 d8 d9 : Nat} {v1 v2 v3 v4 v5 v6 v7 v8 v9 : Value}
theorem S1 (h1 : ap L d1 = some v1) : ∀ k u, ap [(d1, v1)] k = some u → ap L k = some u := au h1 (dp _)
theorem S2 (h1 : ap L d1 = some v1) (h2 : ap L d2 = some v2) : ∀ k u, ap [(d1, v1), (d2, v2)] k = some u → ap L k = some u := au h1 (au h2 (dp _))
theorem S3 (h1 : ap L d1 = some v1) (h2 : ap L d2 = some v2) (h3 : ap L d3 = some v3) : ∀ k u, ap [(d1, v1), (d2, v2), (d3, v3)] k = some u → ap L k = some u := au h1 (au h2 (au h3 (dp _)))
theorem S4 (h1 : ap L d1 = some v1) (h2 : ap L d2 = some v2) (h3 : ap L d3 = some v3) (h4 : ap L d4 = some v4) : ∀ k u, ap [(d1, v1), (d2, v2), (d3, v3), (d4, v4)] k = some u → ap L k = some u := au h1 (au h2 (au h3 (au h4 (dp _))))
theorem S5 (h1 : ap L d1 = some v1) (h2 : ap L d2 = some v2) (h3 : ap L d3 = some v3) (h4 : ap L d4 = some v4) (h5 : ap L d5 = some v5) : ∀ k u, ap [(d1, v1), (d2, v2), (d3, v3), (d4, v4), (d5, v5)] k = some u → ap L k = some u := au h1 (au h2 (au h3 (au h4 (au h5 (dp _)))))
theorem S6 (h1 : ap L d1 = some v1) (h2 : ap L d2 = some v2) (h3 : ap L d3 = some v3) (h4 : ap L d4 = some v4) (h5 : ap L d5 = some v5) (h6 : ap L d6 = some v6) : ∀ k u, ap [(d1, v1), (d2, v2), (d3, v3), (d4, v4), (d5, v5), (d6, v6)] k = some u → ap L k = some u := au h1 (au h2 (au h3 (au h4 (au h5 (au h6 (dp _))))))
theorem S7 (h1 : ap L d1 = some v1) (h2 : ap L d2 = some v2) (h3 : ap L d3 = some v3) (h4 : ap L d4 = some v4) (h5 : ap L d5 = some v5) (h6 : ap L d6 = some v6) (h7 : ap L d7 = some v7) : ∀ k u, ap [(d1, v1), (d2, v2), (d3, v3), (d4, v4), (d5, v5), (d6, v6), (d7, v7)] k = some u → ap L k = some u := au h1 (au h2 (au h3 (au h4 (au h5 (au h6 (au h7 (dp _)))))))
theorem S8 (h1 : ap L d1 = some v1) (h2 : ap L d2 = some v2) (h3 : ap L d3 = some v3) (h4 : ap L d4 = some v4) (h5 : ap L d5 = some v5) (h6 : ap L d6 = some v6) (h7 : ap L d7 = some v7) (h8 : ap L d8 = some v8) : ∀ k u, ap [(d1, v1), (d2, v2), (d3, v3), (d4, v4), (d5, v5), (d6, v6), (d7, v7), (d8, v8)] k = some u → ap L k = some u := au h1 (au h2 (au h3 (au h4 (au h5 (au h6 (au h7 (au h8 (dp _))))))))
theorem S9 (h1 : ap L d1 = some v1) (h2 : ap L d2 = some v2) (h3 : ap L d3 = some v3) (h4 : ap L d4 = some v4) (h5 : ap L d5 = some v5) (h6 : ap L d6 = some v6) (h7 : ap L d7 = some v7) (h8 : ap L d8 = some v8) (h9 : ap L d9 = some v9) : ∀ k u, ap [(d1, v1), (d2, v2), (d3, v3), (d4, v4), (d5, v5), (d6, v6), (d7, v7), (d8, v8), (d9, v9)] k = some u → ap L k = some u := au h1 (au h2 (au h3 (au h4 (au h5 (au h6 (au h7 (au h8 (au h9 (dp _)))))))))
end
section
variable {ds : List Deferred} {P : Program} {o : Oper} {n off b sz e t q : Nat} {Z : World → Prop} {w0 : World} {L : an} {own : List Ent} {fs : List Fact} {ok : Nat → Prop} {x y : Operand} {i : Int} {k : IntKind} {a : Option Addr} {xs : List Value}
theorem Kb {t : TypeId} {cs : List Value} {parts : List (Nat × Operand)} {vs : List (Nat × Value)} (zs : List (List Value)) (hop : o.op = .build t parts.toArray) (hp : cK L parts = some vs) (hcs : bld vs 0 zs = cs := by simp only [bld, BO, Nat.beq, Value.cells, cond_true, cond_false, List.nil_append, List.cons_append, A5]; rfl) (hrun : ∀ w : World, (Instr.build t vs.toArray).run P w = .ok (.agg cs.toArray) w := by intro w; kernel_rfl) : Rd ds P o n L Z (.agg cs.toArray) := AA zs hop hp hcs hrun
theorem Ia {len cap : Nat} (hop : o.op = .indexAddr t x y) (hx : ai L x = some (.slice a len cap)) (hy : ai L y = some (.int k i)) [hf : HasF fs a xs] (hu : P.underlying t = some (.slice e)) (hs : (P.info? e).map (·.size) = some sz) (hb : 0 ≤ i ∧ i < (len : Int)) (hxs : 0 < xs.length) (hq : i.toNat * sz = q := by (try simp only [A2, As, A3, Bd, B8, Int.reduceToNat, Nat.reduceAdd, Nat.reduceMul, Nat.reduceSub, B9]); rfl) : Rd ds P o n L (St ok w0 own fs) (pt a q) := iaf hop hx hy hu hs hb hxs hq
theorem Ib {len cap : Nat} (hop : o.op = .indexAddr t x y) (hx : ai L x = some (.slice a len cap)) (hy : ai L y = some (.int k i)) [hf : HasF fs a xs] (hu : P.underlying t = some (.slice e)) (hb : 0 ≤ i ∧ i < (len : Int)) (hxs : 0 < xs.length) (hs : (P.info? e).map (·.size) = some 1 := by kernel_rfl) (hq : i.toNat * 1 = q := by (try simp only [A2, As, A3, Bd, B8, Int.reduceToNat, Nat.reduceAdd, Nat.reduceMul, Nat.reduceSub, B9]); rfl) : Rd ds P o n L (St ok w0 own fs) (pt a q) := iaf hop hx hy hu hs hb hxs hq
theorem Ja {len cap q : Nat} (hop : o.op = .indexAddr t x y) (hx : ai L x = some (.slice (some ⟨b, off, none⟩) len cap)) (hy : ai L y = some (.int k i)) (hu : P.underlying t = some (.slice e)) (hs : (P.info? e).map (·.size) = some sz) (hb : 0 ≤ i ∧ i < (len : Int)) (hq : off + i.toNat * sz = q := by (try simp only [A2, As, A3, Bd, B8, Int.reduceToNat, Nat.reduceAdd, Nat.reduceMul, Nat.reduceSub, B9]); rfl) : Rd ds P o n L (St ok w0 own fs) (.pointer (some ⟨b, q, none⟩)) := DF hop hx hy hu hs hb hq
theorem Jb {len q : Nat} (hop : o.op = .indexAddr t x y) (hx : ai L x = some (.pointer (some ⟨b, off, none⟩))) (hy : ai L y = some (.int k i)) (hu : P.underlying t = some (.array len e)) (hs : (P.info? e).map (·.size) = some sz) (hb : 0 ≤ i ∧ i < (len : Int)) (hq : off + i.toNat * sz = q := by (try simp only [A2, As, A3, Bd, B8, Int.reduceToNat, Nat.reduceAdd, Nat.reduceMul, Nat.reduceSub, B9]); rfl) : Rd ds P o n L (St ok w0 own fs) (.pointer (some ⟨b, q, none⟩)) := zX hop hx hy hu hs hb hq
theorem Fa {f : Nat} {flds : Array Field} {fd : Field} {q : Nat} (hop : o.op = .fieldAddr t x f) (hx : ai L x = some (.pointer (some ⟨b, off, none⟩))) (hu : P.underlying t = some (.struct flds)) (hf : flds[f]? = some fd) (hq : off + fd.offset = q) (hs : ((P.info? fd.type).map (fun i => decide (0 < i.size))) = some true := by kernel_rfl) : Rd ds P o n L (St ok w0 own fs) (.pointer (some ⟨b, q, none⟩)) := cA hop hx hu hf hs hq
abbrev Cw (f : FuncId) (args : Array Value) (w : World) (v : Value) : Prop := Calls Tryz.prog f args w fun e w' => e = .returned v ∧ Below w.heap.size w w'
theorem Oz (cs : List Value) (hop : o.op = .alloc t) (hz : (P.info? t).bind (·.zero) = some (.agg cs.toArray) := by kernel_rfl) : Og ds P o n L (St ok w0 own fs) (fun b : Nat => .pointer (some ⟨b, 0, none⟩)) (fun b => St ok w0 (⟨some b, cs, t⟩ :: own) fs) := lh hop hz (by simp [Value.cells])
theorem Fl (l : List Value) : (Value.agg l.toArray).cells.toList = l := by simp [Value.cells]
theorem Oy {v : Value} {cs : List Value} (hop : o.op = .box t x) (hx : ai L x = some v) (hc : v.cells.toList = cs := by exact Fl _) : Og ds P o n L (St ok w0 own fs) (fun b : Nat => .pointer (some ⟨b, 0, none⟩)) (fun b => St ok w0 (⟨some b, cs, t⟩ :: own) fs) := pN hop hx hc
theorem Ld {cs : List Value} {T : TypeId} {v : Value} {d : TypeDesc} (hop : o.op = .load t x) (hx : ai L x = some (.pointer (some ⟨b, off, none⟩))) (hk : InE own ⟨some b, cs, T⟩) (hu : P.underlying t = some d) (hd : bn d = false := by rfl) (hv : cs[off]? = some v := by rfl) : Rd ds P o n L (St ok w0 own fs) v := ld hop hx hk hu hd hv
theorem En {f n : Nat} {fn : Func} {c : Code} {args : Array Value} {w : World} {R : Ending → World → Prop} (fs : List Fact) (L : an) (hf : P.funcs[f]? = some fn) (hb : fn.body = some c) (hn : fn.ntmps = n) (ha : Nat.ble args.size n = true) (hL : ∀ k v, ap L k = some v → args[k]? = some v) (hF : ∀ x ∈ fs, x.holds (fun _ => True) w) (k : WC [] none P c (bodyPost P fn R) n L (St (fun _ => True) w [] fs)) : Calls P f args w R :=
  enter hf hb hn ha hL (St.start (fun _ _ => trivial) hF) k
theorem R1 {fn : Func} {r1 : Nat} {v1 : Value} {e : Ending} (hr : fn.results = [ResultVar.tmp r1].toArray) (h1 : ap L r1 = some v1) (h : Ending.returned (tup [v1]) = e) : WX [] (bodyPost P fn fun e' w' => e' = e ∧ Below w0.heap.size w0 w') .ret n L (St ok w0 own fs) := WX.retN hr (.tmp h1 .nil) fun _ hS => ⟨h, hS.below⟩
theorem R2 {fn : Func} {r1 r2 : Nat} {v1 v2 : Value} {e : Ending} (hr : fn.results = [ResultVar.tmp r1, ResultVar.tmp r2].toArray) (h1 : ap L r1 = some v1) (h2 : ap L r2 = some v2) (h : Ending.returned (tup [v1, v2]) = e) : WX [] (bodyPost P fn fun e' w' => e' = e ∧ Below w0.heap.size w0 w') .ret n L (St ok w0 own fs) := WX.retN hr (.tmp h1 (.tmp h2 .nil)) fun _ hS => ⟨h, hS.below⟩
theorem R3 {fn : Func} {r1 r2 r3 : Nat} {v1 v2 v3 : Value} {e : Ending} (hr : fn.results = [ResultVar.tmp r1, ResultVar.tmp r2, ResultVar.tmp r3].toArray) (h1 : ap L r1 = some v1) (h2 : ap L r2 = some v2) (h3 : ap L r3 = some v3) (h : Ending.returned (tup [v1, v2, v3]) = e) : WX [] (bodyPost P fn fun e' w' => e' = e ∧ Below w0.heap.size w0 w') .ret n L (St ok w0 own fs) := WX.retN hr (.tmp h1 (.tmp h2 (.tmp h3 .nil))) fun _ hS => ⟨h, hS.below⟩
theorem Sa {cs ys : List Value} {T : TypeId} {C : Ent → List Ent} (hop : o.op = .store t x y) (hx : ai L x = some (.pointer (some ⟨b, 0, none⟩))) (hy : ai L y = some (.agg ys.toArray)) (hk : Ctx own ⟨some b, cs, T⟩ C) (hs : (P.info? t).map (·.size) = some ys.length := by kernel_rfl) (h1 : ∀ v ∈ ys, v.oneCell' = true := by simp [Value.oneCell']) (hl : ys.length = cs.length := by first | rfl | simp) : Og ds P o n L (St ok w0 own fs) (fun _ : Unit => undef) (fun _ => St ok w0 (C ⟨some b, ys, T⟩) fs) := sta hop hx hy hk hs h1 hl
theorem Ku {ops rest : List Oper} {Q : Exit → Act → World → Prop} {d : Nat} {v : Value} {S1 S2 : World → Prop} (h : (aH ops L o, o.dst, Nat.blt d n) = (some true, some d, true)) (hr : Og ds P o n L S1 (fun _ : Unit => v) (fun _ => S2)) (k : WL ds P ops Q n rest ((d, v) :: L) S2) : WL ds P ops Q n (o :: rest) L S1 := Kh h hr fun _ => k
theorem Nu {ops rest : List Oper} {Q : Exit → Act → World → Prop} {v : Value} {S1 S2 : World → Prop} (h : aH ops L o = some true) (hd : o.dst = none) (hr : Og ds P o n L S1 (fun _ : Unit => v) (fun _ => S2)) (k : WL ds P ops Q n rest L S2) : WL ds P ops Q n (o :: rest) L S1 := WL.g0 h hd hr fun _ => k
theorem Oc {γ : Type} {val : γ → Value} {Z' : γ → World → Prop} {f : FuncId} {as0 : List Operand} {tys : Array TypeId} {args : List Value} (hop : o.op = .call { callee := .value (.func f), args := as0.toArray, argTypes := tys }) (hargs : eB L as0 = some args)
    (h : ∀ w, Z w → Calls P f args.toArray w (fun e w' => ∃ g, e = .returned (val g) ∧ Z' g w')) (hg : ey P f = true := by kernel_rfl) : Og ds P o n L Z val Z' := kf hop hargs hg h
end
section
variable {ds : List Deferred} {P : Program} {ops rest : List Oper} {Z : World → Prop} {Q : Exit → Act → World → Prop} {n d ix m c0 : Nat} {L : an} {o : Oper} {x y c : Operand} {v : Value} {vs : List Value} {b : Bool} {t t2 e : TypeId} {k : IntKind} {i j : Int} {a a2 : List UInt8} {ad : Option Addr}
theorem Ye (h : (aH ops L o, o.dst, Nat.blt d n, o.op, ai L x, vs[ix]?) = (some true, some d, true, .extract x ix, some (.tuple vs.toArray), some v)) (K : WL ds P ops Q n rest ((d, v) :: L) Z) : WL ds P ops Q n (o :: rest) L Z := by simp only [Prod.mk.injEq] at h; exact WL.r h.1 h.2.1 h.2.2.1 (ny h.2.2.2.1 h.2.2.2.2.1 h.2.2.2.2.2) K
theorem Yp (h : (aH ops L o, o.dst, Nat.blt d n, o.op, ai L c, ai L x) = (some true, some d, true, .pick c x y, some (.bool true), some v)) (K : WL ds P ops Q n rest ((d, v) :: L) Z) : WL ds P ops Q n (o :: rest) L Z := by simp only [Prod.mk.injEq] at h; exact WL.r h.1 h.2.1 h.2.2.1 (kV h.2.2.2.1 h.2.2.2.2.1 h.2.2.2.2.2) K
theorem Yq (h : (aH ops L o, o.dst, Nat.blt d n, o.op, ai L c, ai L y) = (some true, some d, true, .pick c x y, some (.bool false), some v)) (K : WL ds P ops Q n rest ((d, v) :: L) Z) : WL ds P ops Q n (o :: rest) L Z := by simp only [Prod.mk.injEq] at h; exact WL.r h.1 h.2.1 h.2.2.1 (kW h.2.2.2.1 h.2.2.2.2.1 h.2.2.2.2.2) K
theorem Yt (h : (aH ops L o, o.dst, Nat.blt d n, o.op, ai L x) = (some true, some d, true, .unOp .not t x, some (.bool b))) (K : WL ds P ops Q n rest ((d, .bool (!b)) :: L) Z) : WL ds P ops Q n (o :: rest) L Z := by simp only [Prod.mk.injEq] at h; exact WL.r h.1 h.2.1 h.2.2.1 (pH h.2.2.2.1 h.2.2.2.2) K
theorem Yl (h : (aH ops L o, o.dst, Nat.blt d n, o.op, ai L x, ai L y) = (some true, some d, true, .binOp .lss t x y t2, some (.int k i), some (.int k j))) (K : WL ds P ops Q n rest ((d, .bool (decide (i < j))) :: L) Z) : WL ds P ops Q n (o :: rest) L Z := by simp only [Prod.mk.injEq] at h; exact WL.r h.1 h.2.1 h.2.2.1 (nx h.2.2.2.1 h.2.2.2.2.1 h.2.2.2.2.2) K
theorem Ym (h : (aH ops L o, o.dst, Nat.blt d n, o.op, ai L x, ai L y) = (some true, some d, true, .binOp .leq t x y t2, some (.int k i), some (.int k j))) (K : WL ds P ops Q n rest ((d, .bool (decide (i ≤ j))) :: L) Z) : WL ds P ops Q n (o :: rest) L Z := by simp only [Prod.mk.injEq] at h; exact WL.r h.1 h.2.1 h.2.2.1 (ug h.2.2.2.1 h.2.2.2.2.1 h.2.2.2.2.2) K
theorem Yg (h : (aH ops L o, o.dst, Nat.blt d n, o.op, ai L x, ai L y) = (some true, some d, true, .binOp .gtr t x y t2, some (.int k i), some (.int k j))) (K : WL ds P ops Q n rest ((d, .bool (decide (j < i))) :: L) Z) : WL ds P ops Q n (o :: rest) L Z := by simp only [Prod.mk.injEq] at h; exact WL.r h.1 h.2.1 h.2.2.1 (pI h.2.2.2.1 h.2.2.2.2.1 h.2.2.2.2.2) K
theorem Yh (h : (aH ops L o, o.dst, Nat.blt d n, o.op, ai L x, ai L y) = (some true, some d, true, .binOp .geq t x y t2, some (.int k i), some (.int k j))) (K : WL ds P ops Q n rest ((d, .bool (decide (j ≤ i))) :: L) Z) : WL ds P ops Q n (o :: rest) L Z := by simp only [Prod.mk.injEq] at h; exact WL.r h.1 h.2.1 h.2.2.1 (uh h.2.2.2.1 h.2.2.2.2.1 h.2.2.2.2.2) K
theorem Yi (h : (aH ops L o, o.dst, Nat.blt d n, o.op, ai L x, ai L y) = (some true, some d, true, .binOp .eql t x y t2, some (.int k i), some (.int k j))) (K : WL ds P ops Q n rest ((d, .bool (decide (i = j))) :: L) Z) : WL ds P ops Q n (o :: rest) L Z := by simp only [Prod.mk.injEq] at h; exact WL.r h.1 h.2.1 h.2.2.1 (zZ h.2.2.2.1 h.2.2.2.2.1 h.2.2.2.2.2) K
theorem Yj (h : (aH ops L o, o.dst, Nat.blt d n, o.op, ai L x, ai L y) = (some true, some d, true, .binOp .neq t x y t2, some (.int k i), some (.int k j))) (K : WL ds P ops Q n rest ((d, .bool (!decide (i = j))) :: L) Z) : WL ds P ops Q n (o :: rest) L Z := by simp only [Prod.mk.injEq] at h; exact WL.r h.1 h.2.1 h.2.2.1 (kY h.2.2.2.1 h.2.2.2.2.1 h.2.2.2.2.2) K
theorem Ys (h : (aH ops L o, o.dst, Nat.blt d n, o.op, ai L x, ai L y) = (some true, some d, true, .binOp .eql t x y t2, some (.string (S a)), some (.string (S a2)))) (K : WL ds P ops Q n rest ((d, .bool (decide (a = a2))) :: L) Z) : WL ds P ops Q n (o :: rest) L Z := by simp only [Prod.mk.injEq] at h; exact WL.r h.1 h.2.1 h.2.2.1 (jw h.2.2.2.1 h.2.2.2.2.1 h.2.2.2.2.2) K
theorem Yr (h : (aH ops L o, o.dst, Nat.blt d n, o.op, ai L x, ai L y) = (some true, some d, true, .binOp .neq t x y t2, some (.string (S a)), some (.string (S a2)))) (K : WL ds P ops Q n rest ((d, .bool (!decide (a = a2))) :: L) Z) : WL ds P ops Q n (o :: rest) L Z := by simp only [Prod.mk.injEq] at h; exact WL.r h.1 h.2.1 h.2.2.1 (pE h.2.2.2.1 h.2.2.2.2.1 h.2.2.2.2.2) K
theorem Yn (h : (aH ops L o, o.dst, Nat.blt d n, o.op, ai L x) = (some true, some d, true, .call { callee := .builtin .len, args := #[x], argTypes := #[t] }, some (.string (S a)))) (h1 : P.underlying t = some .string) (K : WL ds P ops Q n rest ((d, .int .i64 (a.length : Int)) :: L) Z) : WL ds P ops Q n (o :: rest) L Z := by simp only [Prod.mk.injEq] at h; exact WL.r h.1 h.2.1 h.2.2.1 (xi h.2.2.2.1 h.2.2.2.2 h1) K
theorem Yo (h : (aH ops L o, o.dst, Nat.blt d n, o.op, ai L x) = (some true, some d, true, .call { callee := .builtin .len, args := #[x], argTypes := #[t] }, some (.slice ad m c0))) (h1 : P.underlying t = some (.slice e)) (K : WL ds P ops Q n rest ((d, .int .i64 (m : Int)) :: L) Z) : WL ds P ops Q n (o :: rest) L Z := by simp only [Prod.mk.injEq] at h; exact WL.r h.1 h.2.1 h.2.2.1 (dN h.2.2.2.1 h.2.2.2.2 h1) K
end
section
variable {ds : List Deferred} {ρ : Option Nat} {P : Program} {ops rest : List Oper} {Z : World → Prop} {Q : Exit → Act → World → Prop} {n d d2 d3 d4 f : Nat} {L : an} {o o2 o3 o4 : Oper} {x y c : Operand} {v : Value} {t t2 T : TypeId} {own : List Ent} {fs : List Fact} {ok : Nat → Prop} {w0 : World}
theorem Kc {f : FuncId} {as0 : List Operand} {tys : Array TypeId} {args : List Value} (h : (aH ops L o, o.dst, Nat.blt d n, o.op, eB L as0) = (some true, some d, true, .call { callee := .value (.func f), args := as0.toArray, argTypes := tys }, some args)) (hc : ∀ w, St ok w0 own fs w → Calls P f args.toArray w (fun e w' => e = .returned v ∧ Below w.heap.size w w')) (k : WL ds P ops Q n rest ((d, v) :: L) (St ok w0 own fs)) (hg : ey P f = true := by kernel_rfl) : WL ds P ops Q n (o :: rest) L (St ok w0 own fs) := by
  simp only [Prod.mk.injEq] at h; exact WL.g h.1 h.2.1 h.2.2.1 (kf h.2.2.2.1 h.2.2.2.2 hg (gm hc)) fun _ => k
theorem T2 (h : (aH ops L o, o.dst, Nat.blt d n, aH ops ((d, undef) :: L) o2, o2.dst, Nat.blt d2 n) = (some false, some d, true, some false, some d2, true)) (k : WL ds P ops Q n rest ((d2, undef) :: (d, undef) :: L) Z) : WL ds P ops Q n (o :: o2 :: rest) L Z := by
  simp only [Prod.mk.injEq] at h; exact WL.s h.1 h.2.1 h.2.2.1 (WL.s h.2.2.2.1 h.2.2.2.2.1 h.2.2.2.2.2 k)
theorem T4 (h : (aH ops L o, o.dst, Nat.blt d n, aH ops ((d, undef) :: L) o2, o2.dst, Nat.blt d2 n, aH ops ((d2, undef) :: (d, undef) :: L) o3, o3.dst, Nat.blt d3 n, aH ops ((d3, undef) :: (d2, undef) :: (d, undef) :: L) o4, o4.dst, Nat.blt d4 n) = (some false, some d, true, some false, some d2, true, some false, some d3, true, some false, some d4, true)) (k : WL ds P ops Q n rest ((d4, undef) :: (d3, undef) :: (d2, undef) :: (d, undef) :: L) Z) : WL ds P ops Q n (o :: o2 :: o3 :: o4 :: rest) L Z := by
  simp only [Prod.mk.injEq] at h; obtain ⟨h1, h2, h3, h4, h5, h6, h7, h8, h9, ha, hb, hc⟩ := h; exact WL.s h1 h2 h3 (WL.s h4 h5 h6 (WL.s h7 h8 h9 (WL.s ha hb hc k)))
theorem Kf (q : Nat) {b off b2 off2 : Nat} {flds : Array Field} {fd : Field} {cs : List Value} {de : TypeDesc} (h : (aH ops L o, o.dst, Nat.blt d n, o.op, ai L x) = (some true, some d, true, .fieldAddr t x f, some (.pointer (some ⟨b, off, none⟩)))) (hu : P.underlying t = some (.struct flds)) (hf : flds[f]? = some fd) (hq : off + fd.offset = q)
    (h2 : (aH ops ((d, .pointer (some ⟨b, q, none⟩)) :: L) o2, o2.dst, Nat.blt d2 n, o2.op, ai ((d, .pointer (some ⟨b, q, none⟩)) :: L) y) = (some true, some d2, true, .load t2 y, some (.pointer (some ⟨b2, off2, none⟩)))) (hk : InE own ⟨some b2, cs, T⟩) (hu2 : P.underlying t2 = some de) (k : WL ds P ops Q n rest ((d2, v) :: (d, .pointer (some ⟨b, q, none⟩)) :: L) (St ok w0 own fs)) (hd : bn de = false := by rfl) (hv : cs[off2]? = some v := by rfl) (hs : ((P.info? fd.type).map (fun i => decide (0 < i.size))) = some true := by kernel_rfl) : WL ds P ops Q n (o :: o2 :: rest) L (St ok w0 own fs) := by
  simp only [Prod.mk.injEq] at h h2; exact WL.r h.1 h.2.1 h.2.2.1 (cA h.2.2.2.1 h.2.2.2.2 hu hf hs hq) (WL.r h2.1 h2.2.1 h2.2.2.1 (ld h2.2.2.2.1 h2.2.2.2.2 hk hu2 hd hv) k)
class SB (p : Prop) (q : outParam Prop) : Prop where h : p = q
instance (priority := low) {p : Prop} : SB p p := ⟨rfl⟩
instance {p q : Prop} [Decidable p] [k : SB p q] : SB (decide p = true) q := ⟨by rw [← k.h]; simp⟩
instance {p q : Prop} [Decidable p] [k : SB (¬p) q] : SB (decide p = false) q := ⟨by rw [← k.h]; simp⟩
instance {b : Bool} {q : Prop} [k : SB (b = false) q] : SB ((!b) = true) q := ⟨by rw [← k.h]; simp⟩
instance {b : Bool} {q : Prop} [k : SB (b = true) q] : SB ((!b) = false) q := ⟨by rw [← k.h]; simp⟩
instance {a b : Int} : SB (¬ a < b) (b ≤ a) := ⟨by simp⟩
instance {a b : Int} : SB (¬ a ≤ b) (b < a) := ⟨by simp⟩
instance {p p2 q q2 : Prop} [k : SB p p2] [j : SB q q2] : SB (p ∧ q) (p2 ∧ q2) := ⟨by rw [k.h, j.h]⟩
instance {p p2 q q2 : Prop} [k : SB p p2] [j : SB q q2] : SB (p ∨ q) (p2 ∨ q2) := ⟨by rw [k.h, j.h]⟩
instance (priority := mid) {p q : Prop} [k : SB p q] : SB (¬ p) (¬ q) := ⟨by rw [k.h]⟩
theorem Nc (d : Nat) {t : Bool} {p q : Prop} (h : ap L d = some (.bool t)) [i : SB (t = true) p] [j : SB (t = false) q] (h1 : p → WL ds P ops Q n rest ((d, .bool true) :: L) Z) (h2 : q → WL ds P ops Q n rest ((d, .bool false) :: L) Z) : WL ds P ops Q n rest L Z := WL.bool d h (fun e => h1 (i.h.mp e)) (fun e => h2 (j.h.mp e))
theorem Ci {x y : Code} {t : Bool} {p q : Prop} (h : ai L c = some (.bool t)) [i : SB (t = true) p] [j : SB (t = false) q] (h1 : p → WC ds ρ P x Q n L Z) (h2 : q → WC ds ρ P y Q n L Z) : WC ds ρ P (.cond c x y) Q n L Z := WC.cond h (fun e => h1 (i.h.mp e)) (fun e => h2 (j.h.mp e))
end
theorem u2 : type_of% Tryz.underlying2 := Tryz.underlying2
theorem u3 : type_of% Tryz.underlying3 := Tryz.underlying3
theorem u4 : type_of% Tryz.underlying4 := Tryz.underlying4
theorem u5 : type_of% Tryz.underlying5 := Tryz.underlying5
theorem u9 : type_of% Tryz.underlying9 := Tryz.underlying9
theorem u22 : type_of% Tryz.underlying22 := Tryz.underlying22
theorem u24 : type_of% Tryz.underlying24 := Tryz.underlying24
theorem u26 : type_of% Tryz.underlying26 := Tryz.underlying26
theorem u28 : type_of% Tryz.underlying28 := Tryz.underlying28
theorem u30 : type_of% Tryz.underlying30 := Tryz.underlying30
theorem u31 : type_of% Tryz.underlying31 := Tryz.underlying31
theorem rL : type_of% Tryz.underlying32 := Tryz.underlying32
theorem u33 : type_of% Tryz.underlying33 := Tryz.underlying33
theorem u35 : type_of% Tryz.underlying35 := Tryz.underlying35
theorem u39 : type_of% Tryz.underlying39 := Tryz.underlying39
theorem u40 : type_of% Tryz.underlying40 := Tryz.underlying40
theorem u41 : type_of% Tryz.underlying41 := Tryz.underlying41
theorem u43 : type_of% Tryz.underlying43 := Tryz.underlying43
theorem u44 : type_of% Tryz.underlying44 := Tryz.underlying44
theorem u47 : type_of% Tryz.underlying47 := Tryz.underlying47
theorem u49 : type_of% Tryz.underlying49 := Tryz.underlying49
theorem u52 : type_of% Tryz.underlying52 := Tryz.underlying52
theorem u53 : type_of% Tryz.underlying53 := Tryz.underlying53
theorem u55 : type_of% Tryz.underlying55 := Tryz.underlying55
theorem u57 : type_of% Tryz.underlying57 := Tryz.underlying57
theorem u68 : type_of% Tryz.underlying68 := Tryz.underlying68
theorem u72 : type_of% Tryz.underlying72 := Tryz.underlying72
theorem u76 : type_of% Tryz.underlying76 := Tryz.underlying76
theorem u81 : type_of% Tryz.underlying81 := Tryz.underlying81
theorem u82 : type_of% Tryz.underlying82 := Tryz.underlying82
theorem u84 : type_of% Tryz.underlying84 := Tryz.underlying84
theorem u87 : type_of% Tryz.underlying87 := Tryz.underlying87
theorem u89 : type_of% Tryz.underlying89 := Tryz.underlying89
theorem u95 : type_of% Tryz.underlying95 := Tryz.underlying95
theorem u96 : type_of% Tryz.underlying96 := Tryz.underlying96
theorem u98 : type_of% Tryz.underlying98 := Tryz.underlying98
theorem rO : type_of% Tryz.underlying104 := Tryz.underlying104
theorem j0 : type_of% Tryz.underlying106 := Tryz.underlying106
theorem fq : type_of% Tryz.underlying110 := Tryz.underlying110
theorem zl : type_of% Tryz.underlying125 := Tryz.underlying125
theorem nh : type_of% Tryz.underlying129 := Tryz.underlying129
theorem bG : type_of% Tryz.underlying132 := Tryz.underlying132
theorem wB : type_of% Tryz.underlying133 := Tryz.underlying133
theorem dG : type_of% Tryz.underlying136 := Tryz.underlying136
theorem CT : type_of% Tryz.underlying141 := Tryz.underlying141
theorem kD : type_of% Tryz.underlying151 := Tryz.underlying151
theorem jt : type_of% Tryz.underlying169 := Tryz.underlying169
theorem dA : type_of% Tryz.underlying177 := Tryz.underlying177
theorem E3 : type_of% Tryz.underlying189 := Tryz.underlying189
theorem CS : type_of% Tryz.underlying208 := Tryz.underlying208
theorem aF : type_of% Tryz.underlying210 := Tryz.underlying210
theorem ox : type_of% Tryz.underlying222 := Tryz.underlying222
theorem E2 : type_of% Tryz.underlying224 := Tryz.underlying224
theorem E1 : type_of% Tryz.underlying225 := Tryz.underlying225
theorem tB : type_of% Tryz.underlying231 := Tryz.underlying231
theorem rN : type_of% Tryz.underlying240 := Tryz.underlying240
theorem js : type_of% Tryz.underlying242 := Tryz.underlying242
theorem cS : type_of% Tryz.underlying250 := Tryz.underlying250
theorem kC : type_of% Tryz.underlying254 := Tryz.underlying254
theorem E0 : type_of% Tryz.underlying267 := Tryz.underlying267
theorem EZ : type_of% Tryz.underlying298 := Tryz.underlying298
theorem EY : type_of% Tryz.underlying308 := Tryz.underlying308
theorem wA : type_of% Tryz.underlying315 := Tryz.underlying315
theorem CR : type_of% Tryz.underlying319 := Tryz.underlying319
theorem tA : type_of% Tryz.underlying322 := Tryz.underlying322
theorem kB : type_of% Tryz.underlying323 := Tryz.underlying323
theorem CQ : type_of% Tryz.underlying333 := Tryz.underlying333
theorem dX : type_of% Tryz.underlying335 := Tryz.underlying335
theorem eD : type_of% Tryz.underlying337 := Tryz.underlying337
theorem g3 : type_of% Tryz.underlying351 := Tryz.underlying351
theorem kA : type_of% Tryz.underlying358 := Tryz.underlying358
def Fact.lp (l : Nat) (r : Loop) : Fact where
 holds ok w := ok l ∧ w.heap[l]? = some (.loop r)
 mono h := fun hh => ⟨h _ hh.1, hh.2⟩
 stable := fun hh _ hk => ⟨hh.1, by rw [hk l (B5.1 hh.2).1 hh.1]; exact hh.2⟩
 here := fun hh => ⟨⟨hh.1, (B5.1 hh.2).1⟩, hh.2⟩
def Fact.dfr (D : Nat) : Fact where
 holds ok w := ok D ∧ w.heap[D]? = some (.deferred (some []))
 mono h := fun hh => ⟨h _ hh.1, hh.2⟩
 stable := fun hh _ hk => ⟨hh.1, by rw [hk D (B5.1 hh.2).1 hh.1]; exact hh.2⟩
 here := fun hh => ⟨⟨hh.1, (B5.1 hh.2).1⟩, hh.2⟩
class FL (f : Fact) : Prop where
 h : ∀ {ok : Nat → Prop} {w : World} {l : Nat} {r : Loop} (r' : Loop), f.holds ok w → w.heap[l]? = some (.loop r) → f.holds ok (w.putObj l (.loop r'))
class FD (f : Fact) : Prop where
 h : ∀ {ok : Nat → Prop} {w : World} {D : Nat} {ds : Option (List Deferred)} (ds' : Option (List Deferred)), f.holds ok w → w.heap[D]? = some (.deferred ds) → f.holds ok (w.putObj D (.deferred ds'))
theorem oB {a : Option Addr} {xs : List Value} {ok : Nat → Prop} {w : World} {k : Nat} {o : Obj} (o' : Obj) (h : (Fact.sl a xs).holds ok w) (hk : w.heap[k]? = some o) (hn : ∀ cs T fz, o ≠ .cells cs T fz) : (Fact.sl a xs).holds ok (w.putObj k o') := by
 rcases h with h | ⟨b, off, cs, T, fz, h1, h2, h3, h4⟩
 ·exact .inl h
 ·refine .inr ⟨b, off, cs, T, fz, h1, h2, ?_, h4⟩
  rw [World.putObj_heap_other]
  ·exact h3
  ·intro e; subst e; rw [h3] at hk; cases hk; exact hn _ _ _ rfl
instance (a : Option Addr) (xs : List Value) : FL (Fact.sl a xs) := ⟨fun _ h hl => oB _ h hl (fun _ _ _ e => by cases e)⟩
instance (a : Option Addr) (xs : List Value) : FD (Fact.sl a xs) := ⟨fun _ h hl => oB _ h hl (fun _ _ _ e => by cases e)⟩
instance (D : Nat) : FL (Fact.dfr D) := ⟨fun {ok w l r} r' h hl => ⟨h.1, by rw [World.putObj_heap_other (by intro e; subst e; rw [h.2] at hl; cases hl)]; exact h.2⟩⟩
instance (l : Nat) (r : Loop) : FD (Fact.lp l r) := ⟨fun {ok w D ds} ds' h hl => ⟨h.1, by rw [World.putObj_heap_other (by intro e; subst e; rw [h.2] at hl; cases hl)]; exact h.2⟩⟩
class FLs (fs : List Fact) : Prop where
 h : ∀ f ∈ fs, FL f
class FDs (fs : List Fact) : Prop where
 h : ∀ f ∈ fs, FD f
instance : FLs [] := ⟨fun _ h => by cases h⟩
instance : FDs [] := ⟨fun _ h => by cases h⟩
instance (f : Fact) (fs : List Fact) [h1 : FL f] [h2 : FLs fs] : FLs (f :: fs) := ⟨fun g hg => (Be.1 hg).elim (fun e => e ▸ h1) (h2.h g)⟩
instance (f : Fact) (fs : List Fact) [h1 : FD f] [h2 : FDs fs] : FDs (f :: fs) := ⟨fun g hg => (Be.1 hg).elim (fun e => e ▸ h1) (h2.h g)⟩
section
variable {ok : Nat → Prop} {w0 w : World} {own : List Ent} {fs : List Fact}
theorem mX {l : Nat} {o : Obj} (h : Below w0.heap.size w0 w) (hl : w0.heap.size ≤ l) : Below w0.heap.size w0 (w.putObj l o) :=
 ⟨h.os, h.tape, h.output, by simpa using h.size, fun b hb => by rw [World.putObj_heap_other (by omega)]; exact h.block b hb⟩
theorem qD {l : Nat} {o o' : Obj} (h : St ok w0 own fs w) (hk : w.heap[l]? = some o) (hn : ∀ cs T fz, o ≠ .cells cs T fz) : ∀ x ∈ own, x.holds w0.heap.size (w.putObj l o') := fun x hx =>
 Ent.holds_same (h.own_ x hx) fun b hb => World.putObj_heap_other (fun e => by
  have := h.own_ x hx
  unfold Ent.holds at this
  rw [hb] at this
  subst e
  rw [this.2] at hk; cases hk; exact hn _ _ _ rfl)
theorem St.fact_head {f : Fact} (h : St ok w0 own (f :: fs) w) : f.holds (fun b => ok b ∧ b ∉ ids own) w := h.fact f (by simp)
theorem St.setLoop {l : Nat} {r : Loop} (r' : Loop) [hf : FLs fs] (hl : w0.heap.size ≤ l) (h : St ok w0 own (Fact.lp l r :: fs) w) : St ok w0 own (Fact.lp l r' :: fs) (w.putObj l (.loop r')) := by
 have h0 := h.fact_head
 refine ⟨h.okn, mX h.below hl, qD h h0.2 (fun _ _ _ e => by cases e), h.nd, fun f hfm => ?_⟩
 rcases Be.1 hfm with rfl | hfm
 ·exact ⟨h0.1, World.putObj_heap_same (B5.1 h0.2).1⟩
 ·exact (hf.h f hfm).h r' (h.fact f (by simp [hfm])) h0.2
theorem St.shutD {D : Nat} [hf : FDs fs] (hl : w0.heap.size ≤ D) (h : St ok w0 own (Fact.dfr D :: fs) w) : St ok w0 own fs (w.putObj D (.deferred none)) := by
 have h0 := h.fact_head
 exact ⟨h.okn, mX h.below hl, qD h h0.2 (fun _ _ _ e => by cases e), h.nd, fun f hfm => (hf.h f hfm).h none (h.fact f (by simp [hfm])) h0.2⟩
theorem St.allocObj (h : St ok w0 own fs w) (o : Obj) : St ok w0 own fs (w.alloc o) := by
 refine ⟨h.okn, h.below.alloc h.below.size _, fun x hx => Ent.holds_same (h.own_ x hx) fun b hxb => dV w _ b (h.lt (eh hx hxb)).2, h.nd, fun f hf => ?_⟩
 exact f.stable (h.fact f hf) (by simp) fun b hlt _ => dV w _ b hlt
theorem St.enterLoop (h : St ok w0 own fs w) (r : Loop) : St ok w0 own (Fact.lp (w.heap.size + 1) r :: Fact.dfr w.heap.size :: fs) ((w.alloc (.deferred (some []))).alloc (.loop r)) := by
 have h1 := (h.allocObj (.deferred (some []))).allocObj (.loop r)
 have hlt : ∀ b, w.heap.size ≤ b → ok b ∧ b ∉ ids own := fun b hb => h.fresh b hb
 refine (h1.addF (f := Fact.dfr w.heap.size) ⟨hlt _ (Ba _), ?_⟩).addF ⟨hlt _ (Nat.le_succ _), ?_⟩
 ·exact (Below.heap_alloc _ _ _ (by simp)).trans (World.alloc_heap_new w _)
 ·have := World.alloc_heap_new (w.alloc (.deferred (some []))) (.loop r); rwa [World.size_alloc] at this
end
abbrev rcd (r : Loop) (c : Option Code) : Loop := { r with state := if c.isNone then .ready else .done, pending := c }
section
variable {P : Program} {ok : Nat → Prop} {w0 : World} {own : List Ent} {fs : List Fact} {n l : Nat} {L : an} {r : Loop} {R : Ending → World → Prop} {body : Code}
def wm (P : Program) (l : Nat) (body : Code) (R : Ending → World → Prop) (a : Act) (w : World) : Prop := ∃ w2, (Instr.beginRound l).run P w = .ok () w2 ∧ cdX (some l) P body (roundPost P l R) a w2
theorem WX.begin [FLs fs] (hl : w0.heap.size ≤ l) (k : WC [] (some l) P body (roundPost P l R) n L (St ok w0 own (Fact.lp l { rcd r none with state := .busy } :: fs))) :
  WX [] (Exit.then (wm P l body R) (fun _ _ _ => False)) .normal n L (St ok w0 own (Fact.lp l (rcd r none) :: fs)) := fun a w hF hS =>
 ⟨_, run_beginRound hS.fact_head.2 rfl, k a _ hF (hS.setLoop _ hl)⟩
theorem WX.rnext [FLs fs] {ds : List Deferred} (hl : w0.heap.size ≤ l) (h : ∀ w, St ok w0 own (Fact.lp l (rcd r none) :: fs) w → R (.returned (.bool true)) w) : WX ds (roundPost P l R) .normal n L (St ok w0 own (Fact.lp l { rcd r none with state := .busy } :: fs)) := fun a w hF hS =>
 ⟨_, _, run_endRound none hS.fact_head.2, h _ (hS.setLoop _ hl)⟩
theorem WX.rexit [FLs fs] {ds : List Deferred} {id : Nat} (hl : w0.heap.size ≤ l) (h : ∀ w, St ok w0 own (Fact.lp l (rcd r (some (.exit id))) :: fs) w → R (.returned (.bool false)) w) : WX ds (roundPost P l R) (.exit id) n L (St ok w0 own (Fact.lp l { rcd r none with state := .busy } :: fs)) := fun a w hF hS =>
 ⟨_, _, run_endRound (some (.exit id)) hS.fact_head.2, h _ (hS.setLoop _ hl)⟩
theorem oJ {f : FuncId} {assign : Code} {tmps : Array Value} {w : World} (hF : Fr [] { tmps := tmps, defers := [] } n L) (hS : St ok w0 own fs w) (k : WC [] (some l) P assign (Exit.then (wm P l body R) (fun _ _ _ => False)) n L (St ok w0 own fs)) :
  RoundIn Fence.wide 0 P l f tmps assign body w R := roundIn_of_wpIn (F := Fence.wide) trivial (k _ w hF hS)
end
def YOk {σ γ α : Type} (P : Program) (l : Nat) (r : Loop) (ok : Nat → Prop) (w0 : World) (fs : List Fact) (CO : σ → γ → List Ent) (pg : σ → γ → Prop) (inv : σ → α → Prop) (after : σ → α → σ) (stop : σ → α → Option Code) (enc : α → Array Value) : Prop :=
 ∀ (s : σ) (g : γ) (x : α) (ext : List Ent) (w : World), inv s x → pg s g → St ok w0 (ext ++ CO s g) (Fact.lp l (rcd r none) :: fs) w → ∃ f tmps assign body, (Instr.yield l (enc x)).run P w = .ok (.round l f tmps assign body) w ∧
  RoundIn Fence.wide 0 P l f tmps assign body w (fun e w' => e = .returned (.bool (stop s x).isNone) ∧ ∃ g', (stop s x = none → pg (after s x) g') ∧ St ok w0 (ext ++ CO (after s x) g') (Fact.lp l (rcd r (stop s x)) :: fs) w')
section
variable {ds : List Deferred} {P : Program} {o : Oper} {n : Nat} {L : an} {ok : Nat → Prop} {w0 : World} {fs : List Fact} {σ γ α : Type} {l : Nat} {r : Loop} {CO : σ → γ → List Ent} {pg : σ → γ → Prop} {inv : σ → α → Prop} {after : σ → α → σ} {stop : σ → α → Option Code} {enc : α → Array Value}
theorem oR {c : Operand} {as0 : List Operand} {tys : Array TypeId} {args : List Value} {s : σ} {g : γ} (hY : YOk P l r ok w0 fs CO pg inv after stop enc) (ext : List Ent) (x : α) (hop : o.op = .call { callee := .value c, args := as0.toArray, argTypes := tys }) (hc : ai L c = some (.func (.yield l) #[] #[])) (hargs : eB L as0 = some args) (hx : args.toArray = enc x) (hi : inv s x) (hg : pg s g) :
  Og ds P o n L (St ok w0 (ext ++ CO s g) (Fact.lp l (rcd r none) :: fs)) (fun _ : γ => .bool (stop s x).isNone) (fun g' w => (stop s x = none → pg (after s x) g') ∧ St ok w0 (ext ++ CO (after s x) g') (Fact.lp l (rcd r (stop s x)) :: fs) w) := by
 intro a w hF hS
 obtain ⟨f, tmps, assign, body, hy, hr⟩ := hY s g x ext w hi hg hS
 unfold opX
 have e1 : (execOp a.eval o).run P w = .ok (.round l f tmps assign body) w := by
  have ha := dl hF hargs
  simp only [execOp, hop, resolve, hF.eval hc, Deferred.ofValue, invoke]
  simp [ha, hx, hy]
 rw [e1]
 refine ⟨fun h => absurd h (by decide), RoundIn.mono hr fun e w' hh => ?_⟩
 obtain ⟨rfl, g', hg', hS'⟩ := hh
 exact ⟨_, rfl, g', rfl, hg', hS'⟩
end
abbrev sn (D : Nat) : Deferred := { target := .collected D, args := #[] }
section
variable {P : Program} {ok : Nat → Prop} {w0 : World} {own : List Ent} {fs : List Fact} {n : Nat} {L : an} {Q : Exit → Act → World → Prop} {σ γ α : Type} {CO : σ → γ → List Ent} {pg : σ → γ → Prop} {inv : σ → α → Prop} {after : σ → α → σ} {stop : σ → α → Option Code} {enc : α → Array Value}
theorem WC.range [hfl : FLs fs] {g : Operand} {gf : FuncId} {lb : Array Value} {ps : Array Tmp} {assign body : Code} (s0 : σ) (g0 : γ) (sf : σ) (cf : Option Code) (hg0 : pg s0 g0) (hg : ai L g = some (.func (.func gf) #[] lb)) (hgo : ey P gf = true) (hps : ∀ x, (enc x).size = ps.size)
  (hS : ∀ w, St ok w0 own fs w → St ok w0 (CO s0 g0) fs w)
  (round : ∀ (l : Nat) (r : Loop) (D : Nat) (f : FuncId) (a : Act) (s : σ) (g : γ) (x : α) (ext : List Ent) (w : World), w0.heap.size ≤ l → inv s x → pg s g → Fr [] a n L → St ok w0 (ext ++ CO s g) (Fact.lp l (rcd r none) :: Fact.dfr D :: fs) w →
   RoundIn Fence.wide 0 P l f ((ps.zip (enc x)).foldl (fun tmps (t, a) => tmps.setIfInBounds t a) a.tmps) assign body w (fun e w' => e = .returned (.bool (stop s x).isNone) ∧ ∃ g', (stop s x = none → pg (after s x) g') ∧ St ok w0 (ext ++ CO (after s x) g') (Fact.lp l (rcd r (stop s x)) :: Fact.dfr D :: fs) w'))
  (iter : ∀ (l : Nat) (r : Loop) (D : Nat) (w : World), w0.heap.size ≤ l → YOk P l r ok w0 (Fact.dfr D :: fs) CO pg inv after stop enc → St ok w0 (CO s0 g0) (Fact.lp l (rcd r none) :: Fact.dfr D :: fs) w →
   Calls P gf (#[.func (.yield l) #[] #[]] ++ lb) w (fun e w' => (∃ v, e = .returned v) ∧ ∃ g', (cf = none → pg sf g') ∧ St ok w0 (CO sf g') (Fact.lp l (rcd r cf) :: Fact.dfr D :: fs) w'))
  (done : ∀ D g', w0.heap.size ≤ D → pg sf g' → cf = none → WX [sn D] Q .normal n L (St ok w0 (CO sf g') (Fact.dfr D :: fs)))
  (left : ∀ D g' c, w0.heap.size ≤ D → cf = some c → WC [sn D] none P c Q n L (St ok w0 (CO sf g') (Fact.dfr D :: fs))) :
  WC [] none P (.rangeFunc g ps assign body) Q n L (St ok w0 own fs) := by
 intro a w hF hSt
 refine wpIn_rangeFunc (F := wd none) fun fn _ => ?_
 have hst := hS w hSt
 let r : Loop := { state := .ready, pending := none, fn, tmps := a.tmps, params := ps, assign, body, defers := w.heap.size }
 have hr : rcd r none = r := rfl
 have h1 := hst.enterLoop r
 have hsz : w0.heap.size ≤ w.heap.size := hst.below.size
 have hY : YOk P (w.heap.size + 1) r ok w0 (Fact.dfr w.heap.size :: fs) CO pg inv after stop enc := by
  intro s g x ext w' hi hpg hS'
  exact ⟨_, _, _, _, run_yield hS'.fact_head.2 (hps x), round (w.heap.size + 1) r w.heap.size fn a s g x ext w' (by omega) hi hpg hF hS'⟩
 obtain ⟨W1, hW1⟩ : ∃ W1, W1 = (w.alloc (.deferred (some []))).alloc (.loop r) := ⟨_, rfl⟩
 rw [← hW1] at h1
 refine ⟨w.heap.size + 1, [sn w.heap.size], W1, { target := .fn (.func gf) lb, args := #[.func (.yield (w.heap.size + 1)) #[] #[]] }, W1, gf, #[.func (.yield (w.heap.size + 1)) #[] #[]] ++ lb, W1, by rw [hW1]; exact run_enterLoop_outer _ _ _ _ _, ?_, fun _ _ => trivial, ?_, fun h => absurd h (by decide), ?_⟩
 ·simp only [resolve, hF.eval hg]
  simp [go_sem, r, Deferred.ofValue, Act.eval]
 ·simp [invoke, ef hgo]
 ·refine callsIn_wide.2 ((iter (w.heap.size + 1) r w.heap.size _ (by omega) hY h1).mono fun e w' hh => ?_)
  obtain ⟨⟨v, rfl⟩, g', hg', hS'⟩ := hh
  have hF' : Fr [sn w.heap.size] { a with defers := [sn w.heap.size] ++ a.defers } n L := ⟨hF.size, by simp [hF.defers], hF.at_⟩
  refine ⟨cf, _, run_endLoop hS'.fact_head.2 (by cases cf <;> simp [rcd]), ?_⟩
  have hS'' := (hS'.setLoop { rcd r cf with state := .exhausted } (by omega)).dropF
  cases cf with
  | none => exact done w.heap.size g' hsz (hg' rfl) rfl _ _ hF' hS''
  | some c => exact left w.heap.size g' c hsz rfl _ _ hF' hS''
end
theorem Fr.tm {ds : List Deferred} {a : Act} {n : Nat} {L : an} (h : Fr ds a n L) : Fr [] { tmps := a.tmps, defers := [] } n L := ⟨h.size, rfl, h.at_⟩
theorem yY (p : Tmp) (v : Value) (t : Array Value) : (#[p].zip #[v]).foldl (fun tmps (t, a) => tmps.setIfInBounds t a) t = t.setIfInBounds p v := by simp
class yM (fs : List Fact) (D : Nat) : Prop where
 h : Fact.dfr D ∈ fs
instance (priority := high) (D : Nat) (fs : List Fact) : yM (Fact.dfr D :: fs) D := ⟨by simp⟩
instance (D : Nat) (f : Fact) (fs : List Fact) [h : yM fs D] : yM (f :: fs) D := ⟨by simp [h.h]⟩
section
variable {P : Program} {fn : Func} {f : FuncId} {c : Code} {R : Ending → World → Prop} {n : Nat} {L : an} {S : World → Prop} {ok : Nat → Prop} {w0 : World} {own : List Ent} {fs : List Fact}
theorem vu {args : Array Value} {w : World} (hf : P.funcs[f]? = some fn) (hb : fn.body = some c) (hn : fn.ntmps = n) (ha : Nat.ble args.size n = true) (hL : ∀ k v, ap L k = some v → args[k]? = some v) (hS : S w) (k : WC [] none P c (bodyPostM Fence.wide 0 P fn R) n L S) : Calls P f args w R := by
 refine callsIn_wide.1 (callsIn_of_wp_marks (F := Fence.wide) (n := 0) hf hb trivial (k _ w (Fr.enter ?_ hL) hS))
 have := Nat.le_of_ble_eq_true ha
 omega
theorem kN {ds : List Deferred} {a : Act} {w : World} {rs : List ResultVar} {vs : List Value} (hr : fn.results = rs.toArray) (hv : jP P L own rs vs) (hF : Fr ds a n L) (hS : St ok w0 own fs w) : (results fn a.tmps).run P w = .ok (tup vs) w := by
 have hm := f5 hF.tm hS hv
 rw [kO, hr, List.mapM_toArray]
 simp only [Sem.run_bind, map_eq_pure_bind, hm, Result.andThen, Sem.run_pure]
 match vs with
 | [] => rfl
 | [v] => rfl
 | v :: u :: r => simp [tup]
theorem WX.retM0 {rs : List ResultVar} {vs : List Value} (hr : fn.results = rs.toArray) (hv : jP P L own rs vs) (h : ∀ w, St ok w0 own fs w → R (.returned (tup vs)) w) : WX [] (bodyPostM Fence.wide 0 P fn R) .ret n L (St ok w0 own fs) := fun a w hF hS => by
 show LeavesInM Fence.wide 0 P fn a.tmps R a.defers .returning w
 rw [hF.defers]
 exact ⟨tup vs, kN hr hv hF hS, h w hS⟩
theorem WX.retM1 {D : Nat} [hd : yM fs D] {rs : List ResultVar} {vs : List Value} (hD : w0.heap.size ≤ D) (hr : fn.results = rs.toArray) (hv : jP P L own rs vs) (h : ∀ w, St ok w0 own [] w → R (.returned (tup vs)) w) : WX [sn D] (bodyPostM Fence.wide 0 P fn R) .ret n L (St ok w0 own fs) := fun a w hF hS => by
 show LeavesInM Fence.wide 0 P fn a.tmps R a.defers .returning w
 rw [hF.defers]
 have hS1 : St ok w0 own [Fact.dfr D] w := hS.sub (Ax _) (fun f hf => by simp at hf; subst hf; exact hd.h)
 have hS2 := hS1.shutD hD
 exact ⟨by simp, .inl ⟨D, _, rfl, run_takeDeferred hS1.fact_head.2, tup vs, kN hr hv hF hS2, h _ hS2⟩⟩
end
section
variable {ds : List Deferred} {ρ : Option Nat} {P : Program} {c : Code} {Q : Exit → Act → World → Prop} {n : Nat} {L : an} {S : World → Prop}
theorem WC.scope (k : WC ds none P c (Exit.noGoto Q) n L S) : WC ds none P (.scope c) Q n L S := fun a w hF hS => wpIn_wide.2 (wp_scope_straight (wpIn_wide.1 (k a w hF hS)))
theorem WC.label {l : Nat} (k : WX ds Q .normal n L S) : WC ds ρ P (.label l) Q n L S := fun a w hF hS => wpIn_label (k a w hF hS)
theorem WX.scope_ret (k : WX ds Q .ret n L S) : WX ds (Exit.noGoto Q) .ret n L S := k
end
section
variable {ds : List Deferred} {P : Program} {ops : List Oper} {Q : Exit → Act → World → Prop} {n : Nat} {l : List Oper} {L : an} {ok : Nat → Prop} {w0 : World} {own : List Ent} {fs : List Fact} {e : Ent}
theorem WL.app0 (k : WL ds P ops Q n l L (St ok w0 own fs)) : WL ds P ops Q n l L (St ok w0 ([] ++ own) fs) := k
end
abbrev Bs := List UInt8
abbrev am (l : List Bs) : List Value := l.map fun s => .string (S s)
theorem lq {a : Option Addr} {xs : List Value} {ok : Nat → Prop} {w : World} (h : (Fact.sl a xs).holds ok w) (ha : a.isNone = true) : xs = [] := by
 rcases h with h | ⟨b, off, cs, T, fz, h1, _⟩
 ·exact h
 ·subst h1; simp at ha
theorem wo (n : Nat) (h : n < 9223372036854775808) : IntKind.i64.wrap (n : Int) = (n : Int) := by
 rw [IntKind.wrap_i64]; omega
theorem sR (k j : Nat) (h : j ≤ 64) : IntKind.u8.wrap ((k : Int).fdiv (2 ^ (min (Int.toNat (j : Int)) IntKind.i64.bits))) = ((UInt8.ofNat (k / 2 ^ j)).toNat : Int) := by
 have m1 : min (Int.toNat (j : Int)) IntKind.i64.bits = j := by
  have : IntKind.i64.bits = 64 := by decide
  omega
 have e2 : ((2 : Int) ^ j) = ((2 ^ j : Nat) : Int) := by simp
 rw [m1, e2, IntKind.wrap_u8, Dn _ (Br _), UInt8.toNat_ofNat']
 norm_cast
theorem yD (k : Nat) : IntKind.u8.wrap (k : Int) = ((UInt8.ofNat k).toNat : Int) := by
 rw [IntKind.wrap_u8, UInt8.toNat_ofNat']; norm_cast
section
variable {ds : List Deferred} {P : Program} {o : Oper} {n : Nat} {L : an} {Z : World → Prop} {x y : Operand} {t : TypeId} {k : IntKind} {i : Int}
theorem yF (l : Bs) (i : Nat) (h : i < l.length) : l[i]? = some (l.getD i default) := by
 rw [List.getD_eq_getElem?_getD, Ad h]; rfl
theorem ck {a : List UInt8} (hop : o.op = .index t x y) (hx : ai L x = some (.string (S a))) (hy : ai L y = some (.int k i)) (h1 : P.underlying t = some .string) (h0 : 0 ≤ i ∧ i.toNat < a.length) : Rd ds P o n L Z (.int .u8 ((a.getD i.toNat default).toNat : Int)) :=
 xm hop hx hy h1 h0.1 (yF _ _ h0.2)
end
end Go.Proofs.YtchonigdjamphaaGreatDoor
namespace Go.Proofs.YtchonigdjamphaaGreatDoor
set_option linter.unusedSimpArgs false
set_option linter.unusedVariables false
set_option maxRecDepth 20000
def val : Bs → Nat
 | [] => 0
 | c :: s => c.toNat * 256 ^ s.length + val s
def be : Nat → Nat → Bs
 | 0, _ => []
 | k + 1, x => UInt8.ofNat (x / 256 ^ k) :: be k x
def cU : Bs → Bs
 | [] => []
 | c :: s => if c = 0 then cU s else c :: s
def Can (s : Bs) : Prop := s.head? ≠ some 0
instance (s : Bs) : Decidable (Can s) := inferInstanceAs (Decidable (¬ _))
theorem aQ : ∀ k x, (be k x).length = k
 | 0, x => rfl
 | k + 1, x => by simp [be, aQ k x]
theorem jA (k : Nat) : 0 < 256 ^ k := Cm (by decide)
theorem aG : ∀ s : Bs, val s < 256 ^ s.length
 | [] => by simp [val]
 | c :: s => by
  have h1 := aG s
  have h2 := c.toNat_lt
  simp only [val, Ay, A0]
  have : (c.toNat + 1) * 256 ^ s.length ≤ 256 * 256 ^ s.length := Bp _ (by omega)
  rw [Bk, Cn] at this
  rw [Ao (256 ^ s.length) 256]; omega
theorem fo : ∀ a b : Bs, val (a ++ b) = val a * 256 ^ b.length + val b
 | [], b => by simp [val]
 | c :: a, b => by
  simp only [List.cons_append, val, Al, fo a b, Bj]
  rw [Bk, A1]; omega
theorem dF : ∀ k x, val (be k x) = x % 256 ^ k
 | 0, x => by simp [be, val, Nat.mod_one]
 | k + 1, x => by
  have e : x % 256 ^ (k + 1) = x % 256 ^ k + 256 ^ k * (x / 256 ^ k % 256) := by rw [A0, Nat.mod_mul]
  simp only [be, val, aQ, dF k x, UInt8.toNat_ofNat']
  rw [e, Ao (256 ^ k), D2]
theorem ky : ∀ s : Bs, val (cU s) = val s
 | [] => rfl
 | c :: s => by
  unfold cU; split
  ·rename_i h; subst h; rw [ky s, val]; simp
  ·rfl
theorem lH : ∀ s : Bs, Can (cU s)
 | [] => by simp [cU, Can]
 | c :: s => by
  unfold cU; split
  ·exact lH s
  ·rename_i h; simpa [Can] using h
theorem tC : ∀ {s : Bs}, Can s → cU s = s
 | [], _ => rfl
 | c :: s, h => by
  unfold cU; rw [Aa]; simpa [Can] using h
theorem n8 {s : Bs} (h : Can s) (h0 : s ≠ []) : 256 ^ (s.length - 1) ≤ val s := by
 cases s with
 | nil => exact absurd rfl h0
 | cons c s =>
  have hc : 1 ≤ c.toNat := by
   rcases Bw c.toNat with h1 | h1
   ·exfalso; apply h; rw [List.head?_cons]; congr 1; exact UInt8.toNat_inj.1 h1
   ·exact h1
  simp only [val, Ay, Nat.add_sub_cancel]
  have := Bp (256 ^ s.length) hc
  rw [Cn] at this; omega
theorem jg {a b : Bs} (ha : Can a) (hb : Can b) (h : val a ≤ val b) : a.length ≤ b.length := by
 rcases Cc b.length a.length with q | q
 ·exfalso
  have h0 : a ≠ [] := by intro h; rw [h] at q; simp at q
  have h1 := n8 ha h0
  have h2 := aG b
  have h3 : 256 ^ b.length ≤ 256 ^ (a.length - 1) := Ar (by decide) (by omega)
  omega
 ·exact q
theorem qg : ∀ s : Bs, be s.length (val s) = s
 | [] => rfl
 | c :: s => by
  have h1 := aG s
  have hd : (c.toNat * 256 ^ s.length + val s) / 256 ^ s.length = c.toNat := by
   rw [Ao, Cj (jA _), Bo h1, Bd]
  have hm : be s.length (c.toNat * 256 ^ s.length + val s) = be s.length (val s) := by
   have key : ∀ k x y, k ≤ s.length → be k (y * 256 ^ s.length + x) = be k x := by
    intro k
    induction k with
    | zero => intro x y _; rfl
    | succ k ih =>
     intro x y hk; simp only [be, ih x y (by omega)]; congr 1; apply UInt8.toNat_inj.1; rw [UInt8.toNat_ofNat', UInt8.toNat_ofNat']; have e : 256 ^ s.length = 256 ^ k * 256 * 256 ^ (s.length - (k + 1)) := by rw [← A0, ← Bj]; congr 1; omega
     rw [e, show y * (256 ^ k * 256 * 256 ^ (s.length - (k + 1))) = 256 ^ k * (256 * (y * 256 ^ (s.length - (k + 1)))) by ac_rfl, Cj (jA _)]; omega
   exact key s.length (val s) c.toNat (Ba _)
  simp only [Ay, be, val, hd, hm, qg s]
  congr 1
  apply UInt8.toNat_inj.1; rw [UInt8.toNat_ofNat']; have := c.toNat_lt; omega
theorem wv {a b : Bs} (hl : a.length = b.length) (h : val a = val b) : a = b := by
 rw [← qg a, ← qg b, hl, h]
theorem kp {a b : Bs} (ha : Can a) (hb : Can b) (h : val a = val b) : a = b :=
 wv (Nat.le_antisymm (jg ha hb (by omega)) (jg hb ha (by omega))) h
def ae (n : Nat) : Bs := cU (be (Nat.log2 n / 8 + 1) n)
theorem AV (n : Nat) : n < 256 ^ (Nat.log2 n / 8 + 1) := by
 have h1 : n < 2 ^ (Nat.log2 n + 1) := Nat.lt_log2_self
 have h2 : 256 ^ (Nat.log2 n / 8 + 1) = 2 ^ (8 * (Nat.log2 n / 8 + 1)) := by rw [show (256 : Nat) = 2 ^ 8 from rfl, ← Nat.pow_mul]
 rw [h2]
 exact Aw h1 (Ar (by decide) (by omega))
theorem ah (n : Nat) : val (ae n) = n := by rw [ae, ky, dF, Am (AV n)]
theorem bH (n : Nat) : Can (ae n) := lH _
theorem sQ {s : Bs} (h : Can s) : ae (val s) = s := kp (bH _) h (ah _)
theorem dH (s : Bs) : cU s = ae (val s) := kp (lH _) (bH _) (by rw [ky, ah])
theorem canon_zero : ae 0 = [] := kp (bH _) (by simp [Can]) (by rw [ah]; rfl)
theorem yC : Can [] := by simp [Can]
theorem aM {s : Bs} (h : Can s) : val s = 0 ↔ s = [] := ⟨fun h0 => kp h yC (by rw [h0]; rfl), fun h0 => by rw [h0]; rfl⟩
theorem aX {n k : Nat} : (ae n).length ≤ k ↔ n < 256 ^ k := by
 constructor
 ·intro h
  have h1 := aG (ae n)
  rw [ah] at h1
  exact Aw h1 (Ar (by decide) h)
 ·intro h
  rcases Cc k (ae n).length with q | q
  ·exfalso
   have h0 : ae n ≠ [] := by intro h; rw [h] at q; simp at q
   have h1 := n8 (bH n) h0; rw [ah] at h1; have h3 : 256 ^ k ≤ 256 ^ ((ae n).length - 1) := Ar (by decide) (by omega); omega
  ·exact q
theorem jr (s : Bs) (i : Nat) (h : i < s.length) : val s / 256 ^ i % 256 = (s.getD (s.length - 1 - i) default).toNat := by
 induction s with
 | nil => simp at h
 | cons c s ih =>
  simp only [val, Ay, Nat.add_sub_cancel] at h ⊢
  by_cases hi : i = s.length
  ·subst hi; rw [Df, Dj, Ao, Cj (jA _), Bo (aG s), Bd, Am c.toNat_lt]
  ·have e : 256 ^ s.length = 256 ^ i * (256 * 256 ^ (s.length - 1 - i)) := by
    rw [← A1, ← A0, ← Bj]; congr 1; omega
   rw [e, show c.toNat * (256 ^ i * (256 * 256 ^ (s.length - 1 - i))) = 256 ^ i * (256 * (c.toNat * 256 ^ (s.length - 1 - i))) by ac_rfl, Cj (jA _), Nat.mul_add_mod, ih (by omega)]; rw [show s.length - i = (s.length - 1 - i) + 1 by omega, D9]
theorem kz (s : Bs) (i : Nat) (h : s.length ≤ i) : val s / 256 ^ i % 256 = 0 := by
 rw [Bo (Aw (aG s) (Ar (by decide) h))]
def cR (a b i : Nat) : Nat := (a % 256 ^ i + b % 256 ^ i) / 256 ^ i
theorem jV (a b : Nat) : cR a b 0 = 0 := by simp [cR, Nat.mod_one]
theorem mR (a b i : Nat) : cR a b i ≤ 1 := by
 have h1 := Aq a (jA i); have h2 := Aq b (jA i)
 unfold cR
 have : a % 256 ^ i + b % 256 ^ i < 2 * 256 ^ i := by omega
 have := (Co (jA i)).2 this
 omega
theorem ir (a b i : Nat) : (a + b) / 256 ^ i = cR a b i + a / 256 ^ i + b / 256 ^ i := by
 have h1 := Bl a (256 ^ i); have h2 := Bl b (256 ^ i)
 have e : a + b = 256 ^ i * (a / 256 ^ i + b / 256 ^ i) + (a % 256 ^ i + b % 256 ^ i) := by rw [Bn]; omega
 rw [e, Cj (jA i), cR]; omega
theorem jW (a b i : Nat) : cR a b (i + 1) = (cR a b i + a / 256 ^ i % 256 + b / 256 ^ i % 256) / 256 := by
 have h1 := ir a b i
 have h2 := ir a b (i + 1)
 rw [A0, ← A6, ← A6, ← A6, h1] at h2
 omega
theorem l7 (a b i : Nat) : UInt8.ofNat ((a + b) / 256 ^ i) = UInt8.ofNat (cR a b i + a / 256 ^ i % 256 + b / 256 ^ i % 256) := by
 apply UInt8.toNat_inj.1
 rw [UInt8.toNat_ofNat', UInt8.toNat_ofNat', ir]; omega
def bm (a b i : Nat) : Nat := if a % 256 ^ i < b % 256 ^ i then 1 else 0
theorem ji (a b : Nat) : bm a b 0 = 0 := by simp [bm, Nat.mod_one]
theorem qb {a b : Nat} (h : b ≤ a) (i : Nat) : (a - b) / 256 ^ i = a / 256 ^ i - b / 256 ^ i - bm a b i ∧ b / 256 ^ i + bm a b i ≤ a / 256 ^ i := by
 have h1 := Bl a (256 ^ i); have h2 := Bl b (256 ^ i)
 have m1 := Aq a (jA i); have m2 := Aq b (jA i)
 have hq : b / 256 ^ i ≤ a / 256 ^ i := Nat.div_le_div_right h
 unfold bm
 generalize 256 ^ i = P at *
 generalize hA : a / P = A at *
 generalize hB : b / P = B' at *
 split
 ·rename_i hlt
  have hne : B' < A := by
   rcases Cc B' A with q | q
   ·exact q
   ·exfalso
    have : A = B' := by omega
    subst this; omega
  obtain ⟨D, rfl⟩ : ∃ D, A = B' + 1 + D := ⟨A - B' - 1, by omega⟩
  refine ⟨?_, by omega⟩
  have e : a - b = P * D + (P + a % P - b % P) := by
   have : P * (B' + 1 + D) = P * B' + P + P * D := by rw [Bn, Bn, As]
   omega
  rw [e, Cj (by omega), Bo (by omega)]; omega
 ·rename_i hge
  obtain ⟨D, rfl⟩ : ∃ D, A = B' + D := ⟨A - B', by omega⟩
  refine ⟨?_, by omega⟩
  have e : a - b = P * D + (a % P - b % P) := by
   have : P * (B' + D) = P * B' + P * D := Bn _ _ _; omega
  rw [e, Cj (by omega), Bo (by omega)]; omega
end Go.Proofs.YtchonigdjamphaaGreatDoor
