/-
  Own framework: look-ups by instance; free allocations; slices that stand, by their address; loops that name only what they change; calls.
-/
import Derived.Test.YtbcnnkcddilfjaaGreatFree
import Derived.Laws.Sem
namespace Go.Proofs.YtbcnnkcddilfjaaGreat
set_option linter.unusedSimpArgs false
set_option linter.unusedVariables false
open Go.RowKit

/-! ### look-ups by instance -/
class HasE (own : List Ent) (b : Nat) (cs : outParam (List Value)) (T : outParam TypeId) : Prop where
  h : InE own ⟨some b, cs, T⟩
instance (priority := high) HasE.here (r : List Ent) (b : Nat) (cs : List Value) (T : TypeId) : HasE (⟨some b, cs, T⟩ :: r) b cs T := ⟨.here⟩
instance HasE.there (r : List Ent) (x : Ent) (b : Nat) (cs : List Value) (T : TypeId) [HasE r b cs T] : HasE (x :: r) b cs T := ⟨.there HasE.h⟩
theorem InE.right {e r : List Ent} {x : Ent} (h : InE r x) : InE (e ++ r) x := by
  induction e with
  | nil => exact h
  | cons y e ih => exact .there ih
instance HasE.ext (e r : List Ent) (b : Nat) (cs : List Value) (T : TypeId) [HasE r b cs T] : HasE (e ++ r) b cs T := ⟨InE.right HasE.h⟩
theorem InE.tc {own : List Ent} {b : Nat} {cs : List Value} {T : TypeId} [h : HasE own b cs T] : InE own ⟨some b, cs, T⟩ := h.h

class HasC (own : List Ent) (ob : Option Nat) (cs : outParam (List Value)) (T : outParam TypeId) (C : outParam (Ent → List Ent)) : Prop where
  h : Ctx own ⟨ob, cs, T⟩ C
instance (priority := high) HasC.here (r : List Ent) (ob : Option Nat) (cs : List Value) (T : TypeId) : HasC (⟨ob, cs, T⟩ :: r) ob cs T (fun y => y :: r) := ⟨.here⟩
instance HasC.there (r : List Ent) (x : Ent) (ob : Option Nat) (cs : List Value) (T : TypeId) (C : Ent → List Ent) [HasC r ob cs T C] : HasC (x :: r) ob cs T (fun y => x :: C y) := ⟨.there HasC.h⟩
theorem Ctx.right {r : List Ent} {x : Ent} {C : Ent → List Ent} (h : Ctx r x C) : ∀ e : List Ent, Ctx (e ++ r) x (fun y => e ++ C y)
  | [] => h
  | z :: e => .there (Ctx.right h e)
instance HasC.ext (e r : List Ent) (ob : Option Nat) (cs : List Value) (T : TypeId) (C : Ent → List Ent) [h : HasC r ob cs T C] : HasC (e ++ r) ob cs T (fun y => e ++ C y) := ⟨Ctx.right h.h e⟩
theorem Ctx.tc {own : List Ent} {ob : Option Nat} {cs : List Value} {T : TypeId} {C : Ent → List Ent} [h : HasC own ob cs T C] : Ctx own ⟨ob, cs, T⟩ C := h.h

class HasF (fs : List Fact) (a : Option Addr) (xs : outParam (List Value)) : Prop where
  h : InF fs (Fact.sl a xs)
instance (priority := high) HasF.here (r : List Fact) (a : Option Addr) (xs : List Value) : HasF (Fact.sl a xs :: r) a xs := ⟨.here⟩
instance HasF.there (r : List Fact) (f : Fact) (a : Option Addr) (xs : List Value) [HasF r a xs] : HasF (f :: r) a xs := ⟨.there HasF.h⟩
theorem InF.tc {fs : List Fact} {a : Option Addr} {xs : List Value} [h : HasF fs a xs] : InF fs (Fact.sl a xs) := h.h

section
variable {ok : Nat → Prop} {w0 : World} {own : List Ent} {fs : List Fact} {w : World}
/-- the cells of a slice, whatever they are: a standing fact, or an own block -/
theorem St.sl (h : St ok w0 own fs w) {a : Option Addr} {xs : List Value} [hf : HasF fs a xs] : (Fact.sl a xs).holds (fun _ => True) w := by
  obtain ⟨k, hk⟩ := hf.h.get; exact h.holds_any hk
theorem St.os (h : St ok w0 own fs w) {b : Nat} {xs : List Value} {T : TypeId} [hf : HasE own b xs T] : (Fact.sl (some ⟨b, 0, none⟩) xs).holds (fun _ => True) w := own_fact h hf.h
theorem St.oc (h : St ok w0 own fs w) {ob : Option Nat} {xs sp : List Value} {T : TypeId} {C : Ent → List Ent} [hf : HasC own ob (xs ++ sp) T C] : (Fact.sl (ob.map fun b => ⟨b, 0, none⟩) xs).holds (fun _ => True) w := by
  obtain ⟨k, hk, _⟩ := hf.h.get
  have := h.own_ _ (List.mem_of_getElem? hk)
  cases ob with
  | none => exact .inl (by have h1 : xs ++ sp = [] := this; simp at h1; exact h1.1)
  | some b => exact .inr ⟨b, 0, (xs ++ sp).toArray, T, (0, 0), rfl, trivial, this.2, fun i hi => by rw [Nat.zero_add, List.getElem?_toArray, List.getElem?_append_left hi]⟩
theorem st_sub {own' : List Ent} {fs' : List Fact} [h1 : SubL own own'] [h2 : SubL fs fs'] : ∀ w, St ok w0 own' fs' w → St ok w0 own fs w := fun w h => h.sub h1.h (fun f hf => h2.h.subset hf)
theorem sl_nil {a : Option Addr} : (Fact.sl a []).holds (fun _ => True) w := .inl rfl
theorem fact_any {f : Fact} {ok : Nat → Prop} (h : f.holds ok w) : f.holds (fun _ => True) w := f.mono (fun _ _ => trivial) h
theorem facts_nil {ok : Nat → Prop} : ∀ f ∈ ([] : List Fact), f.holds ok w := fun _ h => by cases h
theorem facts_cons {f : Fact} {ok : Nat → Prop} (h : f.holds ok w) (h' : ∀ g ∈ fs, g.holds ok w) : ∀ g ∈ f :: fs, g.holds ok w := fun g hg => (List.mem_cons.1 hg).elim (fun e => e ▸ h) (h' g)
end

/-! ### free allocations -/
section
variable {ds : List Deferred} {ρ : Option Nat} {P : Program} {o : Oper} {n : Nat} {L : Slots} {x y : Operand} {v : Value} {t e : TypeId} {sz : Nat} {cs : List Value}
theorem fr_run {val : Nat → Value} {T : TypeId} (h : ∀ a, Fr ds a n L → ∀ w : World, (execOp a.eval o).run P w = .ok (.value (val w.heap.size)) (w.alloc (.cells cs.toArray T))) : Fre ds P o n L val cs T := fun a hF w => h a hF w
theorem fr_alloc (hop : o.op = .alloc t) (hz : (P.info? t).bind (·.zero) = some v) (hc : v.cells.toList = cs) : Fre ds P o n L (fun b : Nat => .pointer (some ⟨b, 0, none⟩)) cs t :=
  fr_run fun a hF w => by subst hc; simp [execOp, hop, Instr.alloc, run_zero hz, run_newVar]
theorem fr_box (hop : o.op = .box t x) (hx : oper L x = some v) (hc : v.cells.toList = cs) : Fre ds P o n L (fun b : Nat => .pointer (some ⟨b, 0, none⟩)) cs t :=
  fr_run fun a hF w => by subst hc; simp [execOp, hop, Instr.box, hF.eval hx, run_newVar]
theorem fr_bs {len : Nat} {parts : List (Nat × Operand)} {vs : List (Nat × Value)} (hop : o.op = .buildSlice t len parts.toArray) (hp : partsOf L parts = some vs) (hu : P.underlying t = some (.slice e))
    (hrun : ∀ w : World, (Instr.buildSlice t len vs.toArray).run P w = .ok (.slice (some ⟨w.heap.size, 0, none⟩) len len) (w.alloc (.cells cs.toArray e))) :
    Fre ds P o n L (fun b : Nat => .slice (some ⟨b, 0, none⟩) len len) cs e :=
  fr_run fun a hF w => by
    have hpp := partsOf_eval hF hp
    have e1 : Array.map (fun x => (x.1, a.eval x.2)) parts.toArray = vs.toArray := by simp [← hpp]
    simp only [execOp, hop, e1]
    simp [hrun]
/-- the allocation of a literal, as a run -/
theorem run_bs1 {len : Nat} {vs : List (Nat × Value)} {zv : Value} (hu : P.underlying t = some (.slice e))
    (hi : (P.info? e).map (fun i => (i.zero, i.size, i.bytes)) = some (some zv, 1, sz)) (hz : zv.cells = #[zv]) (hcs : vs.map Prod.snd = cs) (hnum : vs = (List.range' 0 len).zip (vs.map Prod.snd)) (hlen : cs.length = len) (h1 : ∀ v ∈ cs, v.cells = #[v]) (hsm : len ≤ 16777216) (w : World) :
    (Instr.buildSlice t len vs.toArray).run P w = .ok (.slice (some ⟨w.heap.size, 0, none⟩) len len) (w.alloc (.cells cs.toArray e)) := by
  obtain ⟨i', hi', hz', hs, hbb⟩ := info_parts hi
  have hfill := fill_one cs [] (List.replicate len zv) (by simp [hlen]) h1
  simp only [List.nil_append, List.length_nil, hlen] at hfill
  have hsz : ¬ (len * i'.size > 2 ^ 24) := by rw [hs]; omega
  have hvs : vs = (List.range' 0 len).zip cs := by rw [← hcs]; exact hnum
  have hfill' : Instr.fill (fun i => some (i, 1)) (List.replicate len zv).toArray vs = some cs.toArray := by
    rw [hvs]; simpa using hfill
  rw [hs] at hsz
  simp only [Instr.buildSlice, Sem.run_bind, run_underlying hu, Result.andThen, sizeOf, typeInfo, run_program, hi', Sem.run_pure, hs, Nat.mul_one]
  rw [if_neg (by omega)]
  by_cases h0 : len = 0
  · subst h0
    have hzero : Array.map (fun x => (#[] : Array Value)[x % (#[] : Array Value).size]!) (Array.range 0) = (List.replicate 0 zv).toArray := by simp
    simp only [Sem.run_pure, Sem.run_bind, Result.andThen, if_true, hzero, hfill']
    rfl
  · have hzero : Array.map (fun x => zv.cells[x % zv.cells.size]!) (Array.range len) = (List.replicate len zv).toArray := by
      rw [hz]
      have := madeCells_one zv len
      unfold madeCells at this
      apply Array.ext'
      simpa using this
    simp only [if_neg h0, Sem.run_bind, zeroValue, typeInfo, run_program, Result.andThen, hi', Sem.run_pure, hz', hzero, hfill']
    rfl
theorem fr_bs1 {len : Nat} {parts : List (Nat × Operand)} {vs : List (Nat × Value)} {zv : Value} (hop : o.op = .buildSlice t len parts.toArray) (hp : partsOf L parts = some vs) (hu : P.underlying t = some (.slice e))
    (hi : (P.info? e).map (fun i => (i.zero, i.size, i.bytes)) = some (some zv, 1, sz)) (hz : zv.cells = #[zv]) (hcs : vs.map Prod.snd = cs) (hnum : vs = (List.range' 0 len).zip (vs.map Prod.snd)) (hlen : cs.length = len) (h1 : ∀ v ∈ cs, v.cells = #[v]) (hsm : len ≤ 16777216) :
    Fre ds P o n L (fun b : Nat => .slice (some ⟨b, 0, none⟩) len len) cs e := fr_bs hop hp hu (run_bs1 hu hi hz hcs hnum hlen h1 hsm)
theorem fr_mk {k1 k2 : IntKind} {l c' : Int} {zv : Value} (hop : o.op = .makeSlice t x y) (hx : oper L x = some (.int k1 l)) (hy : oper L y = some (.int k2 c')) (hu : P.underlying t = some (.slice e)) (hi : (P.info? e).map (fun i => (i.zero, i.size, i.bytes)) = some (some zv, 1, sz)) (h1 : zv.cells = #[zv])
    (hb : 0 ≤ l ∧ l ≤ c' ∧ (sz : Int) * c' ≤ 281474976710656 ∧ c' ≤ 9223372036854775807) {q1 q2 : Nat} (hq1 : l.toNat = q1) (hq2 : c'.toNat = q2) :
    Fre ds P o n L (fun b : Nat => .slice (some ⟨b, 0, none⟩) q1 q2) (List.replicate q2 zv) e :=
  fr_run fun a hF w => by
    subst hq1 hq2
    obtain ⟨i', hi', hz, hs, hbb⟩ := info_parts hi
    have hrun := run_make (P := P) w t e i' zv hu hi' hz k1 k2 l c' hb.1 hb.2.1 (by rw [hbb]; exact hb.2.2.1) hb.2.2.2
    have e1 : (madeCells #[zv] c'.toNat) = (List.replicate c'.toNat zv).toArray := by rw [← madeCells_one]
    rw [h1, hs, Nat.mul_one, e1] at hrun
    simp [execOp, hop, hF.eval hx, hF.eval hy, hrun]
end

/-! ### a slice that stands, by its address -/
abbrev pt (a : Option Addr) (k : Nat) : Value := .pointer (some ((a.getD ⟨0, 0, none⟩).add k))
section
variable {ds : List Deferred} {ρ : Option Nat} {P : Program} {o : Oper} {n : Nat} {L : Slots} {ok : Nat → Prop} {w0 : World} {own : List Ent} {fs : List Fact} {x y : Operand} {v : Value} {t e : TypeId} {k : IntKind} {i : Int} {sz q : Nat} {a : Option Addr} {xs ys : List Value}
theorem St.slx {w : World} (h : St ok w0 own fs w) [hf : HasF fs a xs] (hx : 0 < xs.length) : ∃ b off cs T fz, a = some ⟨b, off, none⟩ ∧ w.heap[b]? = some (.cells cs T fz) ∧ ∀ i, i < xs.length → cs[off + i]? = xs[i]? := by
  rcases h.sl (a := a) with h0 | ⟨b, off, cs, T, fz, h1, _, h3, h4⟩
  · subst h0; simp at hx
  · exact ⟨b, off, cs, T, fz, h1, h3, h4⟩
theorem iaf {len cap : Nat} (hop : o.op = .indexAddr t x y) (hx : oper L x = some (.slice a len cap)) (hy : oper L y = some (.int k i)) [hf : HasF fs a xs] (hu : P.underlying t = some (.slice e)) (hs : (P.info? e).map (·.size) = some sz) (hb : 0 ≤ i ∧ i < (len : Int)) (hxs : 0 < xs.length) (hq : i.toNat * sz = q) : Rd ds P o n L (St ok w0 own fs) (pt a q) :=
  rd_run fun ac hF w hS => by
    obtain ⟨b, off, cs, T, fz, rfl, h3, h4⟩ := hS.slx (a := a) hxs
    simp [execOp, hop, hF.eval hx, hF.eval hy, Instr.indexAt, asIntOf, run_underlying hu, hb, size_run hs, Addr.add_lit, hq, pt]
theorem ldt (hop : o.op = .load t x) (hx : oper L x = some (pt a q)) [hf : HasF fs a xs] {d : TypeDesc} (hu : P.underlying t = some d) (hd : isAggD d = false) (hv : xs[q]? = some v) : Rd ds P o n L (St ok w0 own fs) v :=
  rd_run fun ac hF w hS => by
    have hlt : q < xs.length := (List.getElem?_eq_some_iff.1 hv).1
    obtain ⟨b, off, cs, T, fz, rfl, h3, h4⟩ := hS.slx (a := a) (by omega)
    have hc : w.cell? ⟨b, off + q, none⟩ = some v := by simp [World.cell?, h3, h4 q hlt, hv]
    have hx' := hF.eval hx
    simp only [pt, Option.getD_some, Addr.add_lit] at hx'
    simp [execOp, hop, hx', Instr.loadAt, Instr.sureAddr, loadVar, run_isAgg hu, hd, hc]
theorem ldta (hop : o.op = .load t x) (hx : oper L x = some (pt a q)) [hf : HasF fs a xs] {d : TypeDesc} (hu : P.underlying t = some d) (hd : isAggD d = true) (hs : (P.info? t).map (·.size) = some sz) (hys : (xs.drop q).take sz = ys) (hlen : ys.length = sz) (h0 : 0 < sz) : Rd ds P o n L (St ok w0 own fs) (.agg ys.toArray) :=
  rd_run fun ac hF w hS => by
    have hml : q + sz ≤ xs.length := by
      have : ys.length = min sz (xs.length - q) := by rw [← hys]; simp
      omega
    obtain ⟨b, off, cs, T, fz, rfl, h3, h4⟩ := hS.slx (a := a) (by omega)
    have hx' := hF.eval hx
    simp only [pt, Option.getD_some, Addr.add_lit] at hx'
    have := run_lda (P := P) (off := off + q) (xs := ys) h3 (fun i hi => by
      rw [Nat.add_assoc, h4 (q + i) (by omega), ← hys, List.getElem?_take, if_pos (by omega), List.getElem?_drop]) hu hd (by rw [hs, hlen])
    simp [execOp, hop, hx', Instr.loadAt, Instr.sureAddr, this]
theorem faf {f : Nat} {flds : Array Field} {fd : Field} {q' : Nat} (hop : o.op = .fieldAddr t x f) (hx : oper L x = some (pt a q)) (hu : P.underlying t = some (.struct flds)) (hf : flds[f]? = some fd) (hs : ((P.info? fd.type).map (fun i => decide (0 < i.size))) = some true) (hq : q + fd.offset = q') : Rd ds P o n L (St ok w0 own fs) (pt a q') :=
  rd_run fun ac hF w hS => by
    obtain ⟨i, hi, hi'⟩ := Option.map_eq_some_iff.1 hs
    have hne : ¬ i.size = 0 := by simp at hi'; omega
    have hx' := hF.eval hx
    have e1 : ((a.getD ⟨0, 0, none⟩).add q).add fd.offset = (a.getD ⟨0, 0, none⟩).add q' := by subst hq; by_cases h1 : q = 0 <;> by_cases h2 : fd.offset = 0 <;> simp [Addr.add, h1, h2, Nat.add_assoc]
    simp only [pt] at hx' ⊢
    simp [execOp, hop, hx', Instr.fieldAt, Instr.sureAddr, run_underlying hu, hf, fieldPlace, sizeOf, typeInfo, hi, hne, e1]
theorem map_getD {α : Type} [Inhabited α] (l : List α) (f : α → Value) (q : Nat) (h : q < l.length) : (l.map f)[q]? = some (f (l.getD q default)) := by
  rw [List.getElem?_map, List.getElem?_eq_getElem h]; simp [List.getD, List.getElem?_eq_getElem h]
/-- an element of one cell -/
theorem ldm {α : Type} [Inhabited α] {l : List α} {f : α → Value} (hop : o.op = .load t x) (hx : oper L x = some (pt a q)) [hf : HasF fs a (l.map f)] {d : TypeDesc} (hu : P.underlying t = some d) (hd : isAggD d = false) (hq : q < l.length) : Rd ds P o n L (St ok w0 own fs) (f (l.getD q default)) :=
  ldt hop hx hu hd (map_getD l f q hq)
theorem drop_flatMap {α : Type} {f : α → List Value} {sz : Nat} (hf : ∀ x, (f x).length = sz) : ∀ (l : List α) (q : Nat), (l.flatMap f).drop (q * sz) = (l.drop q).flatMap f
  | [], q => by simp
  | x :: l, 0 => by simp
  | x :: l, q + 1 => by
    rw [List.flatMap_cons, show (q + 1) * sz = (f x).length + q * sz by rw [hf, Nat.succ_mul, Nat.add_comm], ← List.drop_drop, List.drop_left, drop_flatMap hf l q, List.drop_succ_cons]
theorem flatMap_at {α : Type} [Inhabited α] (l : List α) (f : α → List Value) (sz : Nat) (hf : ∀ x, (f x).length = sz) (q : Nat) (h : q < l.length) : ((l.flatMap f).drop (q * sz)).take sz = f (l.getD q default) := by
  rw [drop_flatMap hf, List.drop_eq_getElem_cons h, List.flatMap_cons, ← hf l[q], List.take_left]
  simp [List.getD, List.getElem?_eq_getElem h]
theorem flatMap_len {α : Type} (l : List α) (f : α → List Value) (sz : Nat) (hf : ∀ x, (f x).length = sz) : (l.flatMap f).length = l.length * sz := by
  induction l with
  | nil => simp
  | cons x l ih => rw [List.flatMap_cons, List.length_append, hf, ih, List.length_cons, Nat.succ_mul, Nat.add_comm]
/-- an element of some cells, whole -/
theorem ldma {α : Type} [Inhabited α] {l : List α} {f : α → List Value} (j : Nat) (hop : o.op = .load t x) (hx : oper L x = some (pt a q)) [hf : HasF fs a (l.flatMap f)] {d : TypeDesc} (hu : P.underlying t = some d) (hd : isAggD d = true) (hs : (P.info? t).map (·.size) = some sz) (hsz : ∀ x, (f x).length = sz) (h0 : 0 < sz) (hq : q = j * sz) (hj : j < l.length) : Rd ds P o n L (St ok w0 own fs) (.agg (f (l.getD j default)).toArray) :=
  ldta hop hx hu hd hs (by rw [hq]; exact flatMap_at l f sz hsz j hj) (hsz _) h0
/-- .. one of its cells -/
theorem ldmf {α : Type} [Inhabited α] {l : List α} {f : α → List Value} (j off : Nat) (hop : o.op = .load t x) (hx : oper L x = some (pt a q)) [hf : HasF fs a (l.flatMap f)] {d : TypeDesc} (hu : P.underlying t = some d) (hd : isAggD d = false) (hsz : ∀ x, (f x).length = sz) (hq : q = j * sz + off) (hj : j < l.length) (ho : off < sz) (hv : (f (l.getD j default))[off]? = some v) : Rd ds P o n L (St ok w0 own fs) v :=
  ldt hop hx hu hd (by rw [← hv, ← flatMap_at l f sz hsz j hj, List.getElem?_take, if_pos ho, List.getElem?_drop, hq])
end

theorem WC.free0 {ds : List Deferred} {P : Program} {ok : Nat → Prop} {w0 : World} {n : Nat} {L : Slots} {own : List Ent} {fs : List Fact} {Q : Exit → Act → World → Prop} {id : Nat} {l tl : List Oper} (front tail marks : List Nat) (hm : P.follows .mixedOrders = true) (hB : freeOk l front tail marks = true) (ht : pickOps l tail = tl)
    (k : WJ ds P l ok w0 (St ok w0 own fs) (lisX P l.toArray Q tl) marks n front L own fs []) : WC ds none P (.region id l.toArray true) Q n L (St ok w0 own fs) := WC.free (K := own) (fs0 := fs) front tail marks hm hB ht k

/-! ### comparison with nil -/
section
variable {ds : List Deferred} {ρ : Option Nat} {P : Program} {o : Oper} {n : Nat} {L : Slots} {Z : World → Prop} {x y : Operand} {t t2 e : TypeId} {a : Option Addr} {m c : Nat}
theorem guard_slice (op : BinOp) (h : P.underlying t = some (.slice e)) (b : Option Addr) (m' c' : Nat) (w : World) : (eqGuard op t x y (.slice a m c) (.slice b m' c')).run P w = .ok () w := by
  cases op <;> simp [eqGuard, Op.eqGuardIn, Op.maxDepth, run_underlying h]
theorem rd_sleq (hop : o.op = .binOp .eql t x y t2) (hx : oper L x = some (.slice a m c)) (hy : oper L y = some (.slice none 0 0)) (hu : P.underlying t = some (.slice e)) : Rd ds P o n L Z (.bool a.isNone) :=
  run_bin hop hx hy (guard_slice _ hu _ _ _) fun w => Lib.run_eql_slice_nil w t e a m c 0 0 hu
theorem rd_slne (hop : o.op = .binOp .neq t x y t2) (hx : oper L x = some (.slice a m c)) (hy : oper L y = some (.slice none 0 0)) (hu : P.underlying t = some (.slice e)) : Rd ds P o n L Z (.bool (!a.isNone)) :=
  run_bin hop hx hy (guard_slice _ hu _ _ _) fun w => run_neq_slice_nil_any w t e a m c 0 0 hu
end
theorem keep_st {P : Program} {f : FuncId} {args : Array Value} {Z Z' : World → Prop} {v : Value} (h : ∀ w, Z w → Calls P f args w (fun e w' => e = .returned v ∧ Z' w')) : ∀ w, Z w → Calls P f args w (fun e w' => ∃ _g : Unit, e = .returned v ∧ Z' w') :=
  fun w hw => (h w hw).mono fun _ _ hh => ⟨(), hh⟩

/-! ### an own slice that may be nil -/
section
variable {ds : List Deferred} {ρ : Option Nat} {P : Program} {o : Oper} {n : Nat} {L : Slots} {ok : Nat → Prop} {w0 : World} {own : List Ent} {C : Ent → List Ent} {fs : List Fact} {x y : Operand} {v : Value} {t e T : TypeId} {k : IntKind} {i : Int} {sz q : Nat} {ob : Option Nat} {cs : List Value}
theorem St.ocx {w : World} (h : St ok w0 own fs w) (hc : Ctx own ⟨ob, cs, T⟩ C) (hx : 0 < cs.length) : ∃ b, ob = some b ∧ w.heap[b]? = some (.cells cs.toArray T (0, 0)) := by
  obtain ⟨k, hk, _⟩ := hc.get
  have := h.own_ _ (List.mem_of_getElem? hk)
  cases ob with
  | none => have h1 : cs = [] := this; subst h1; simp at hx
  | some b => exact ⟨b, rfl, this.2⟩
theorem iao {len cap : Nat} (hop : o.op = .indexAddr t x y) (hx : oper L x = some (.slice (ob.map fun b => ⟨b, 0, none⟩) len cap)) (hy : oper L y = some (.int k i)) [hf : HasC own ob cs T C] (hu : P.underlying t = some (.slice e)) (hs : (P.info? e).map (·.size) = some sz) (hb : 0 ≤ i ∧ i < (len : Int)) (hxs : 0 < cs.length) (hq : i.toNat * sz = q) : Rd ds P o n L (St ok w0 own fs) (pt (ob.map fun b => ⟨b, 0, none⟩) q) :=
  rd_run fun ac hF w hS => by
    obtain ⟨b, rfl, _⟩ := hS.ocx hf.h hxs
    have hx' := hF.eval hx
    simp only [Option.map_some] at hx'
    simp [execOp, hop, hx', hF.eval hy, Instr.indexAt, asIntOf, run_underlying hu, hb, size_run hs, Addr.add_lit, hq, pt]
theorem ldo (hop : o.op = .load t x) (hx : oper L x = some (pt (ob.map fun b => ⟨b, 0, none⟩) q)) [hf : HasC own ob cs T C] {d : TypeDesc} (hu : P.underlying t = some d) (hd : isAggD d = false) (hv : cs[q]? = some v) : Rd ds P o n L (St ok w0 own fs) v :=
  rd_run fun ac hF w hS => by
    have hlt : q < cs.length := (List.getElem?_eq_some_iff.1 hv).1
    obtain ⟨b, rfl, h3⟩ := hS.ocx hf.h (by omega)
    have hc : w.cell? ⟨b, q, none⟩ = some v := by simp [World.cell?, h3, hv]
    have hx' := hF.eval hx
    simp only [pt, Option.map_some, Option.getD_some, Addr.add_lit, Nat.zero_add] at hx'
    simp [execOp, hop, hx', Instr.loadAt, Instr.sureAddr, loadVar, run_isAgg hu, hd, hc]
theorem ldom {α : Type} [Inhabited α] {l : List α} {f : α → Value} {sp : List Value} (hop : o.op = .load t x) (hx : oper L x = some (pt (ob.map fun b => ⟨b, 0, none⟩) q)) [hf : HasC own ob (l.map f ++ sp) T C] {d : TypeDesc} (hu : P.underlying t = some d) (hd : isAggD d = false) (hq : q < l.length) : Rd ds P o n L (St ok w0 own fs) (f (l.getD q default)) :=
  ldo hop hx hu hd (by rw [List.getElem?_append_left (by simpa using hq)]; exact map_getD l f q hq)
end

theorem WR.free0 {ds : List Deferred} {ρ : Option Nat} {P : Program} {ok : Nat → Prop} {w0 : World} {n : Nat} {L : Slots} {own : List Ent} {fs : List Fact} {Q : Exit → Act → World → Prop} {id : Nat} {l tl : List Oper} (hp : noDef l = true) (front tail marks : List Nat) (hm : P.follows .mixedOrders = true) (hB : freeOk l front tail marks = true) (ht : pickOps l tail = tl)
    (k : WJ ds P l ok w0 (St ok w0 own fs) (lisX P l.toArray Q tl) marks n front L own fs []) : WC ds ρ P (.region id l.toArray true) Q n L (St ok w0 own fs) := WR.free (K := own) (fs0 := fs) hp front tail marks hm hB ht k
/-! ### parts of a slice that stands -/
abbrev sh (a : Option Addr) (k : Nat) : Option Addr := a.map (·.add k)
theorem sl_dropO {ok : Nat → Prop} {a : Option Addr} {xs : List Value} {w : World} (k : Nat) (h : (Fact.sl a xs).holds ok w) : (Fact.sl (sh a k) (xs.drop k)).holds ok w := by
  rcases h with rfl | ⟨b, off, cs, T, fz, rfl, h2, h3, h4⟩
  · exact .inl (by simp)
  · exact .inr ⟨b, off + k, cs, T, fz, by simp [sh, Addr.add_lit], h2, h3, fun i hi => by
      rw [List.length_drop] at hi
      rw [List.getElem?_drop, ← h4 (k + i) (by omega), Nat.add_assoc]⟩
theorem sl_dropM {α : Type} {ok : Nat → Prop} {a : Option Addr} {l : List α} {f : α → Value} {w : World} (k : Nat) (h : (Fact.sl a (l.map f)).holds ok w) : (Fact.sl (sh a k) ((l.drop k).map f)).holds ok w := by
  rw [List.map_drop]; exact sl_dropO k h
theorem sl_takeM {α : Type} {ok : Nat → Prop} {a : Option Addr} {l : List α} {f : α → Value} {w : World} (k : Nat) (h : (Fact.sl a (l.map f)).holds ok w) : (Fact.sl a ((l.take k).map f)).holds ok w := by
  rw [List.map_take]; exact sl_take k h
theorem sl_cutM {α : Type} {ok : Nat → Prop} {a : Option Addr} {l : List α} {f : α → Value} {w : World} {cap : Nat} (k : Nat) (hc : l.length ≤ cap) (h : (Fact.sl a (l.map f)).holds ok w) : (Fact.sl (cut a k cap 1) ((l.drop k).map f)).holds ok w := by
  unfold cut
  split
  · rename_i e; subst e; exact .inl (by simp; omega)
  · rw [Nat.mul_one]; exact sl_dropM k h
section
variable {ds : List Deferred} {ρ : Option Nat} {P : Program} {o : Oper} {n : Nat} {L : Slots} {Z : World → Prop} {x y : Operand} {t e : TypeId} {k k' : IntKind} {i j : Int} {sz : Nat} {ok : Nat → Prop} {w0 : World} {own : List Ent} {fs : List Fact}
theorem rd_slfo {a : Option Addr} {len cap : Nat} {lo : Operand} (hop : o.op = .slice t x (some lo) none none) (hx : oper L x = some (.slice a len cap)) (hl : oper L lo = some (.int k i)) (hu : P.underlying t = some (.slice e)) (hs : (P.info? e).map (·.size) = some sz)
    (hb : 0 ≤ i ∧ i ≤ (len : Int) ∧ i < (cap : Int)) {q1 q2 q3 : Nat} (h1 : i.toNat * sz = q1) (h2 : len - i.toNat = q2) (h3 : cap - i.toNat = q3) : Rd ds P o n L (St ok w0 own fs) (.slice (sh a q1) q2 q3) := by
  have := rd_slf (ds := ds) (P := P) (n := n) (ok := ok) (w0 := w0) (own := own) (fs := fs) hop hx hl hu hs ⟨hb.1, hb.2.1⟩ rfl rfl rfl
  rwa [cut, if_neg (by omega), h1, h2, h3] at this
theorem rd_slbo {a : Option Addr} {len cap : Nat} {lo hi : Operand} (hop : o.op = .slice t x (some lo) (some hi) none) (hx : oper L x = some (.slice a len cap)) (hl : oper L lo = some (.int k i)) (hh : oper L hi = some (.int k' j)) (hu : P.underlying t = some (.slice e)) (hs : (P.info? e).map (·.size) = some sz)
    (hb : 0 ≤ i ∧ i ≤ j ∧ j ≤ (cap : Int) ∧ i < (cap : Int)) {q1 q2 q3 : Nat} (h1 : i.toNat * sz = q1) (h2 : j.toNat - i.toNat = q2) (h3 : cap - i.toNat = q3) : Rd ds P o n L (St ok w0 own fs) (.slice (sh a q1) q2 q3) := by
  have := rd_slb (ds := ds) (P := P) (n := n) (ok := ok) (w0 := w0) (own := own) (fs := fs) hop hx hl hh hu hs ⟨hb.1, hb.2.1, hb.2.2.1⟩ rfl rfl rfl
  rwa [cut, if_neg (by omega), h1, h2, h3] at this
end

/-! ### longer steps -/
section
variable {ds : List Deferred} {ρ : Option Nat} {P : Program} {Q : Exit → Act → World → Prop} {n : Nat} {L : Slots} {Z : World → Prop} {ops : List Oper}
theorem WC.sr {id : Nat} {l : List Oper} {y : Code} (k : WL ds P l (Exit.then (cdX none P y Q) Q) n l L Z) : WC ds none P (.seq (.region id l.toArray false) y) Q n L Z := WC.seq (WC.region k)
theorem WR.sr {id : Nat} {l : List Oper} {y : Code} (hp : noDef l = true) (k : WL ds P l (Exit.then (cdX ρ P y Q) Q) n l L Z) : WC ds ρ P (.seq (.region id l.toArray false) y) Q n L Z := WC.seq (WR.region hp k)
theorem WL.nt {y : Code} (k : WC ds ρ P y Q n L Z) : WL ds P ops (Exit.then (cdX ρ P y Q) Q) n [] L Z := WL.nil (WX.then_normal k)
end

/-! ### loops -/
def dropS (mods : List Nat) : Slots → Slots
  | [] => []
  | (d, v) :: L => bif mods.any (Nat.beq d) then dropS mods L else (d, v) :: dropS mods L
theorem slot_dropS (mods : List Nat) (k : Nat) : ∀ (L : Slots), slot (dropS mods L) k = bif mods.any (Nat.beq k) then none else slot L k
  | [] => by simp [dropS, slot]
  | (d, v) :: L => by
    simp only [dropS]
    cases hd : mods.any (Nat.beq d) with
    | true =>
      simp only [cond_true, slot, slot_dropS mods k L]
      cases hk : mods.any (Nat.beq k) with
      | true => rfl
      | false =>
        have : Nat.beq k d = false := by
          cases hb : Nat.beq k d with
          | false => rfl
          | true => have := Nat.eq_of_beq_eq_true hb; subst this; rw [hd] at hk; cases hk
        simp [this]
    | false =>
      simp only [cond_false, slot, slot_dropS mods k L]
      cases hb : Nat.beq k d with
      | false => simp
      | true => have := Nat.eq_of_beq_eq_true hb; subst this; simp [hd]
theorem sub_dropS {mods : List Nat} {L L' : Slots} (h : ∀ k v, slot L k = some v → mods.any (Nat.beq k) = false → slot L' k = some v) : ∀ k v, slot (dropS mods L) k = some v → slot L' k = some v := by
  intro k v hk
  rw [slot_dropS] at hk
  cases hm : mods.any (Nat.beq k) with
  | true => rw [hm] at hk; simp at hk
  | false => rw [hm] at hk; exact h k v (by simpa using hk) hm
section
variable {ds : List Deferred} {ρ : Option Nat} {P : Program} {Q : Exit → Act → World → Prop} {n : Nat} {L : Slots} {Z : World → Prop} {c : Code} {σ : Type}
theorem sub_app {A B L' : Slots} (hA : ∀ k v, slot A k = some v → slot L' k = some v) (hB : ∀ k v, slot B k = some v → slot L' k = some v) : ∀ k v, slot (A ++ B) k = some v → slot L' k = some v := by
  intro k v hk
  induction A with
  | nil => exact hB k v hk
  | cons p A ih =>
    obtain ⟨d, u⟩ := p
    simp only [List.cons_append, slot] at hk
    cases hb : Nat.beq k d with
    | true => exact hA k v (by simp only [slot, hb]; simpa [hb] using hk)
    | false =>
      rw [hb] at hk
      by_cases hd : slot A k = some v
      · exact hA k v (by simp only [slot, hb]; exact hd)
      · have : ∀ A : Slots, slot (A ++ B) k = some v → slot A k ≠ some v → slot B k = some v := by
          intro A
          induction A with
          | nil => intro h _; exact h
          | cons p A ih =>
            obtain ⟨e, u⟩ := p
            intro h hne
            simp only [List.cons_append, slot] at h hne
            cases hb : Nat.beq k e with
            | true => rw [hb] at h hne; exact absurd h hne
            | false => rw [hb] at h hne; exact ih h hne
        exact hB k v (this A hk hd)
theorem dropS_self (mods : List Nat) (L : Slots) : ∀ k v, slot (dropS mods L) k = some v → slot L k = some v := sub_dropS fun k v h _ => h
/-- a loop whose memory stays as it is -/
theorem WC.loopP (Lm : Slots) (Ls : σ → Slots) (inv : σ → Prop) (μ : σ → Nat) (s0 : σ) (hm : ∀ k v, slot Lm k = some v → slot L k = some v) (hL : ∀ k v, slot (Ls s0) k = some v → slot L k = some v) (h0 : inv s0)
    (round : ∀ s, inv s → WC ds ρ P c (Exit.then (LoopK ds (fun s => Ls s ++ Lm) (fun s w => inv s ∧ Z w) μ n s) Q) n (Ls s ++ Lm) Z) : WC ds ρ P (.loop c) Q n L Z :=
  WC.loop (fun s => Ls s ++ Lm) (fun s w => inv s ∧ Z w) μ s0 (sub_app hL hm) (fun w h => ⟨h0, h⟩) fun s => WC.pu fun h => round s h
theorem WX.loopP {Lm L' : Slots} {Ls : σ → Slots} {inv : σ → Prop} {μ : σ → Nat} {s : σ} {Z' : World → Prop} (s' : σ) (hμ : μ s' < μ s) (hm : ∀ k v, slot Lm k = some v → slot L' k = some v) (hL : ∀ k v, slot (Ls s') k = some v → slot L' k = some v) (hi : inv s') (hZ : ∀ w, Z' w → Z w) :
    WX ds (Exit.then (LoopK ds (fun s => Ls s ++ Lm) (fun s w => inv s ∧ Z w) μ n s) Q) .normal n L' Z' := WX.loop s' hμ (sub_app hL hm) (fun w h => ⟨hi, hZ w h⟩)
/-- a loop that changes own blocks, or learns facts -/
theorem WC.loopO {ok : Nat → Prop} {w0 : World} {own : List Ent} {fs : List Fact} (Lm : Slots) (Ls : σ → Slots) (inv : σ → Prop) (μ : σ → Nat) (own' : σ → List Ent) (fs' : σ → List Fact) (s0 : σ) (hm : ∀ k v, slot Lm k = some v → slot L k = some v) (hL : ∀ k v, slot (Ls s0) k = some v → slot L k = some v) (h0 : inv s0) (hS : ∀ w, St ok w0 own fs w → St ok w0 (own' s0) (fs' s0) w)
    (round : ∀ s, inv s → WC ds ρ P c (Exit.then (LoopK ds (fun s => Ls s ++ Lm) (fun s w => inv s ∧ St ok w0 (own' s) (fs' s) w) μ n s) Q) n (Ls s ++ Lm) (St ok w0 (own' s) (fs' s))) : WC ds ρ P (.loop c) Q n L (St ok w0 own fs) :=
  WC.loop (fun s => Ls s ++ Lm) (fun s w => inv s ∧ St ok w0 (own' s) (fs' s) w) μ s0 (sub_app hL hm) (fun w h => ⟨h0, hS w h⟩) fun s => WC.pu fun h => round s h
theorem WX.loopO {ok : Nat → Prop} {w0 : World} {Lm L' : Slots} {Ls : σ → Slots} {inv : σ → Prop} {μ : σ → Nat} {own' : σ → List Ent} {fs' : σ → List Fact} {s : σ} {Z' : World → Prop} (s' : σ) (hμ : μ s' < μ s) (hm : ∀ k v, slot Lm k = some v → slot L' k = some v) (hL : ∀ k v, slot (Ls s') k = some v → slot L' k = some v) (hi : inv s') (hZ : ∀ w, Z' w → St ok w0 (own' s') (fs' s') w) :
    WX ds (Exit.then (LoopK ds (fun s => Ls s ++ Lm) (fun s w => inv s ∧ St ok w0 (own' s) (fs' s) w) μ n s) Q) .normal n L' Z' := WX.loop s' hμ (sub_app hL hm) (fun w h => ⟨hi, hZ w h⟩)
end

/-! ### calls inside a region with free allocations -/
section
variable {ds : List Deferred} {ρ : Option Nat} {P : Program} {ops : List Oper} {ok : Nat → Prop} {w0 : World} {F : Act → World → Prop} {marks : List Nat} {n d i : Nat} {rest : List Nat} {L : Slots} {K own z : List Ent} {fs0 fs : List Fact} {o : Oper} {v : Value}
theorem stJ {x y : Operand} {t T : TypeId} {b off : Nat} {cs xs : List Value} {C : Ent → List Ent} (hop : o.op = .store t x y) (hx : oper L x = some (.pointer (some ⟨b, off, none⟩))) (hy : oper L y = some v) [hk : HasC own (some b) cs T C] (hs : (P.info? t).map (·.size) = some 1) (h1 : v.oneCell' = true) (hoff : off < cs.length) (hxs : cs.set off v = xs) :
    ∀ ext, Og ds P o n L (St ok w0 (ext ++ own) fs) (fun _ : Unit => undef) (fun _ => St ok w0 (ext ++ C ⟨some b, xs, T⟩) fs) := fun ext => st hop hx hy (Ctx.right hk.h ext) hs h1 hoff hxs
/-- a store that others need not wait for -/
theorem WJ.st {own' : List Ent} [h1 : SubL K own'] [h2 : SubL fs0 fs] (ho : ops[i]? = some o) (hm : marks.getD i 2 = 1) (hw : wantO ops L o = some true) (hdst : o.dst = none)
    (h : ∀ ext, Og ds P o n L (St ok w0 (ext ++ own) fs) (fun _ : Unit => undef) (fun _ => St ok w0 (ext ++ own') fs))
    (k : WJ ds P ops ok w0 (St ok w0 K fs0) F marks n rest L own' fs z) : WJ ds P ops ok w0 (St ok w0 K fs0) F marks n (i :: rest) L own fs z := by
  intro a hF
  refine ⟨o, by simpa using ho, ?_⟩
  rw [if_pos (wanted_of hF hw)]
  refine .inr (.inl ⟨hm, Unit, fun _ => undef, fun _ => True, fun _ => own', fun _ => fs, fun ext w hS => opX_mono (fun a' w' hh => ?_) (h ext a w hF hS), fun g _ => ⟨good_of, ?_⟩⟩)
  · obtain ⟨u, rfl, g, rfl, hS'⟩ := hh
    exact ⟨(), rfl, trivial, hS'⟩
  · rw [hdst]; exact k _ hF
theorem WJ.gv [h1 : SubL K own] [h2 : SubL fs0 fs] (ho : ops[i]? = some o) (hm : marks.getD i 2 = 1) (hw : wantO ops L o = some true) (hdst : o.dst = some d) (hd : Nat.blt d n = true)
    (h : ∀ ext, Og ds P o n L (St ok w0 (ext ++ own) fs) (fun _ : Unit => v) (fun _ => St ok w0 (ext ++ own) fs))
    (k : WJ ds P ops ok w0 (St ok w0 K fs0) F marks n rest ((d, v) :: L) own fs z) : WJ ds P ops ok w0 (St ok w0 K fs0) F marks n (i :: rest) L own fs z :=
  WJ.g (γ := Unit) (val := fun _ => v) (p := fun _ => True) (own' := fun _ => own) (fs' := fun _ => fs) ho hm hw hdst hd (fun ext a w hF hS => opX_mono (fun a' w' hh => by
    obtain ⟨u, e, g, e', hS'⟩ := hh; exact ⟨u, e, g, e', trivial, hS'⟩) (h ext a w hF hS)) (fun _ _ => k)
end

theorem og_rd {ds : List Deferred} {P : Program} {o : Oper} {n : Nat} {L : Slots} {Z : World → Prop} {v : Value} (h : Rd ds P o n L Z v) : Og ds P o n L Z (fun _ : Unit => v) (fun _ => Z) := fun a w hF hS => (h a hF).wp hS ⟨v, rfl, (), rfl, hS⟩
/-- append to a block that is full -/
theorem appf {ds : List Deferred} {P : Program} {o : Oper} {n : Nat} {L : Slots} {ok : Nat → Prop} {w0 : World} {own : List Ent} {C : Ent → List Ent} {fs : List Fact} {x y : Operand} {t e : TypeId} {sz : Nat} {xs : List Value} {len cap b : Nat} {news : List Value} {zv : Value} {m c : Nat} {ad : Option Addr} (hop : o.op = .call { callee := .builtin .append, args := #[x, y], argTypes := #[t, t] }) (hu : P.underlying t = some (.slice e)) (hi : (P.info? e).map (fun i => (i.zero, i.size, i.bytes)) = some (some zv, 1, sz)) (h1 : zv.cells = #[zv])
    (hk : Ctx own ⟨some b, xs, e⟩ C) (hx : oper L x = some (.slice (some ⟨b, 0, none⟩) len cap)) (hy : oper L y = some (.slice ad m c)) (hsrc : ∀ w, St ok w0 own fs w → (Fact.sl ad news).holds (fun _ => True) w) (hm : news.length = m)
    (hb : xs.length = len ∧ cap = len ∧ len + m ≤ 9223372036854775807 ∧ (len + m) * sz ≤ 140737488355328) (h1c : ∀ u ∈ news, u.oneCell' = true) :
    Og ds P o n L (St ok w0 own fs) (fun g : Gr => .slice (g.ob.map fun b => ⟨b, 0, none⟩) (len + m) g.cap) (fun g w => (g.cap = len + m + g.sp.length) ∧ St ok w0 (C ⟨g.ob, (xs ++ news) ++ g.sp, e⟩) fs w) :=
  appg (ob := some b) (sp := []) hop hu hi h1 (by rw [List.append_nil]; exact hk) hx hy hsrc hm ⟨hb.1, by simp; exact hb.2.1, hb.2.2⟩ h1c

section
variable {ds : List Deferred} {ρ : Option Nat} {P : Program} {o : Oper} {n : Nat} {L : Slots} {ok : Nat → Prop} {w0 : World} {own : List Ent} {C : Ent → List Ent} {fs : List Fact} {x y : Operand} {t e : TypeId} {sz : Nat} {xs : List Value} {len cap b : Nat} {news : List Value} {zv : Value} {m c : Nat} {ad : Option Addr}
/-- inside a region with free allocations -/
theorem appgJ {ob : Option Nat} {sp : List Value} (hop : o.op = .call { callee := .builtin .append, args := #[x, y], argTypes := #[t, t] }) (hu : P.underlying t = some (.slice e)) (hi : (P.info? e).map (fun i => (i.zero, i.size, i.bytes)) = some (some zv, 1, sz)) (h1 : zv.cells = #[zv])
    (hk : Ctx own ⟨ob, xs ++ sp, e⟩ C) (hx : oper L x = some (.slice (ob.map fun b => ⟨b, 0, none⟩) len cap)) (hy : oper L y = some (.slice ad m c)) (hsrc : ∀ ext w, St ok w0 (ext ++ own) fs w → (Fact.sl ad news).holds (fun _ => True) w) (hm : news.length = m)
    (hb : xs.length = len ∧ cap = len + sp.length ∧ len + m ≤ 9223372036854775807 ∧ (len + m) * sz ≤ 140737488355328) (h1c : ∀ u ∈ news, u.oneCell' = true) (ext : List Ent) :
    Og ds P o n L (St ok w0 (ext ++ own) fs) (fun g : Gr => .slice (g.ob.map fun b => ⟨b, 0, none⟩) (len + m) g.cap) (fun g w => (g.cap = len + m + g.sp.length) ∧ St ok w0 (ext ++ C ⟨g.ob, (xs ++ news) ++ g.sp, e⟩) fs w) :=
  appg hop hu hi h1 (Ctx.right hk ext) hx hy (hsrc ext) hm hb h1c
theorem appfJ (hop : o.op = .call { callee := .builtin .append, args := #[x, y], argTypes := #[t, t] }) (hu : P.underlying t = some (.slice e)) (hi : (P.info? e).map (fun i => (i.zero, i.size, i.bytes)) = some (some zv, 1, sz)) (h1 : zv.cells = #[zv])
    (hk : Ctx own ⟨some b, xs, e⟩ C) (hx : oper L x = some (.slice (some ⟨b, 0, none⟩) len cap)) (hy : oper L y = some (.slice ad m c)) (hsrc : ∀ ext w, St ok w0 (ext ++ own) fs w → (Fact.sl ad news).holds (fun _ => True) w) (hm : news.length = m)
    (hb : xs.length = len ∧ cap = len ∧ len + m ≤ 9223372036854775807 ∧ (len + m) * sz ≤ 140737488355328) (h1c : ∀ u ∈ news, u.oneCell' = true) (ext : List Ent) :
    Og ds P o n L (St ok w0 (ext ++ own) fs) (fun g : Gr => .slice (g.ob.map fun b => ⟨b, 0, none⟩) (len + m) g.cap) (fun g w => (g.cap = len + m + g.sp.length) ∧ St ok w0 (ext ++ C ⟨g.ob, (xs ++ news) ++ g.sp, e⟩) fs w) :=
  appf hop hu hi h1 (Ctx.right hk ext) hx hy (hsrc ext) hm hb h1c
theorem rd_extL {Z : World → Prop} {vs : List Value} {v : Value} {ix : Nat} (hop : o.op = .extract x ix) (hx : oper L x = some (.tuple vs.toArray)) (h : vs[ix]? = some v) : Rd ds P o n L Z v := rd_ext hop hx (by simpa using h)
end

/-! ### what a call hands over -/
/-- a new slice: its block (none: nil), its capacity, what lies behind its elements -/
structure Rs where
  ob : Option Nat
  cap : Nat
  sp : List Value
abbrev Rs.a (g : Rs) : Option Addr := g.ob.map fun b => ⟨b, 0, none⟩
abbrev Rs.val (g : Rs) (n : Nat) : Value := .slice g.a n g.cap
abbrev Rs.ent (g : Rs) (xs : List Value) (T : TypeId) : Ent := ⟨g.ob, xs ++ g.sp, T⟩
section
variable {ds : List Deferred} {ρ : Option Nat} {P : Program} {ok : Nat → Prop} {w0 : World} {own ext : List Ent} {fs : List Fact} {γ : Type} {f : FuncId} {args : Array Value} {val : γ → Value} {p : γ → Prop}
/-- kept as own blocks -/
theorem keep_o {x : γ → List Ent} {ok' : Nat → Prop} (h : ∀ w, St ok w0 own fs w → Calls P f args w (fun e w' => ∃ g, e = .returned (val g) ∧ p g ∧ St ok' w (x g) [] w')) :
    ∀ w, St ok w0 own fs w → Calls P f args w (fun e w' => ∃ g, e = .returned (val g) ∧ p g ∧ St ok w0 (x g ++ own) fs w') :=
  fun w hS => (h w hS).mono fun _ _ ⟨g, he, hp, hb⟩ => ⟨g, he, hp, hS.adopt hb⟩
theorem keep_oJ {x : γ → List Ent} {ok' : Nat → Prop} (h : ∀ w, St ok w0 (ext ++ own) fs w → Calls P f args w (fun e w' => ∃ g, e = .returned (val g) ∧ p g ∧ St ok' w (x g) [] w')) :
    ∀ w, St ok w0 (ext ++ own) fs w → Calls P f args w (fun e w' => ∃ g, e = .returned (val g) ∧ p g ∧ St ok w0 (ext ++ (x g ++ own)) fs w') :=
  fun w hS => (h w hS).mono fun _ _ ⟨g, he, hp, hb⟩ => ⟨g, he, hp, (hS.adopt hb).perm (by
    rw [← List.append_assoc, ← List.append_assoc]; exact List.Perm.append_right _ List.perm_append_comm)⟩
/-- .. that stand from now on -/
theorem st_facts {w w' : World} {ok' : Nat → Prop} (hS : St ok w0 own fs w) : ∀ (xs : List (Rs × List Value × TypeId)), St ok' w (xs.map fun x => x.1.ent x.2.1 x.2.2) [] w' → St ok w0 own (xs.map (fun x => Fact.sl x.1.a x.2.1) ++ fs) w' := by
  intro xs hn
  have h1 := hS.keep hn.below
  refine ⟨h1.okn, h1.below, h1.own_, h1.nd, fun f hf => ?_⟩
  rcases List.mem_append.1 hf with hf | hf
  · obtain ⟨x, hx, rfl⟩ := List.mem_map.1 hf
    have := hn.own_ (x.1.ent x.2.1 x.2.2) (List.mem_map.2 ⟨x, hx, rfl⟩)
    unfold Ent.holds at this
    cases hob : x.1.ob with
    | none =>
      rw [Rs.ent, hob] at this
      exact .inl (by have h2 : x.2.1 ++ x.1.sp = [] := this; simp at h2; exact h2.1)
    | some b =>
      rw [Rs.ent, hob] at this
      have hf := hS.fresh b this.1
      exact .inr ⟨b, 0, (x.2.1 ++ x.1.sp).toArray, x.2.2, (0, 0), by rw [Rs.a, hob]; rfl, hf, this.2, fun i hi => by rw [Nat.zero_add, List.getElem?_toArray, List.getElem?_append_left hi]⟩
  · exact h1.fact f hf
theorem keep_f {x : γ → List (Rs × List Value × TypeId)} {ok' : Nat → Prop} (h : ∀ w, St ok w0 own fs w → Calls P f args w (fun e w' => ∃ g, e = .returned (val g) ∧ p g ∧ St ok' w ((x g).map fun x => x.1.ent x.2.1 x.2.2) [] w')) :
    ∀ w, St ok w0 own fs w → Calls P f args w (fun e w' => ∃ g, e = .returned (val g) ∧ p g ∧ St ok w0 own ((x g).map (fun x => Fact.sl x.1.a x.2.1) ++ fs) w') :=
  fun w hS => (h w hS).mono fun _ _ ⟨g, he, hp, hb⟩ => ⟨g, he, hp, st_facts hS _ hb⟩
/-- one slice -/
theorem keep_f1 {val : Rs → Value} {p : Rs → Prop} {xs : List Value} {T : TypeId} {ok' : Nat → Prop} (h : ∀ w, St ok w0 own fs w → Calls P f args w (fun e w' => ∃ g : Rs, e = .returned (val g) ∧ p g ∧ St ok' w [g.ent xs T] [] w')) :
    ∀ w, St ok w0 own fs w → Calls P f args w (fun e w' => ∃ g : Rs, e = .returned (val g) ∧ p g ∧ St ok w0 own (Fact.sl g.a xs :: fs) w') :=
  fun w hS => (h w hS).mono fun _ _ ⟨g, he, hp, hb⟩ => ⟨g, he, hp, st_facts hS [(g, xs, T)] hb⟩
theorem keep_o1 {val : Rs → Value} {p : Rs → Prop} {xs : List Value} {T : TypeId} {ok' : Nat → Prop} (h : ∀ w, St ok w0 own fs w → Calls P f args w (fun e w' => ∃ g : Rs, e = .returned (val g) ∧ p g ∧ St ok' w [g.ent xs T] [] w')) :
    ∀ w, St ok w0 own fs w → Calls P f args w (fun e w' => ∃ g : Rs, e = .returned (val g) ∧ p g ∧ St ok w0 (g.ent xs T :: own) fs w') :=
  fun w hS => (h w hS).mono fun _ _ ⟨g, he, hp, hb⟩ => ⟨g, he, hp, hS.adopt hb⟩
theorem keep_o1J {val : Rs → Value} {p : Rs → Prop} {xs : List Value} {T : TypeId} {ok' : Nat → Prop} (h : ∀ w, St ok w0 (ext ++ own) fs w → Calls P f args w (fun e w' => ∃ g : Rs, e = .returned (val g) ∧ p g ∧ St ok' w [g.ent xs T] [] w')) :
    ∀ w, St ok w0 (ext ++ own) fs w → Calls P f args w (fun e w' => ∃ g : Rs, e = .returned (val g) ∧ p g ∧ St ok w0 (ext ++ (g.ent xs T :: own)) fs w') :=
  fun w hS => (h w hS).mono fun _ _ ⟨g, he, hp, hb⟩ => ⟨g, he, hp, (hS.adopt hb).perm List.perm_middle⟩
end

/-! ### results -/
inductive RetV (P : Program) (L : Slots) (own : List Ent) : List ResultVar → List Value → Prop
  | nil : RetV P L own [] []
  | tmp {r : Nat} {v : Value} {rs : List ResultVar} {vs : List Value} (h : slot L r = some v) (k : RetV P L own rs vs) : RetV P L own (.tmp r :: rs) (v :: vs)
  | agg {r b : Nat} {t T : TypeId} {cs : List Value} {rs : List ResultVar} {vs : List Value} {d : TypeDesc} (h : slot L r = some (.pointer (some ⟨b, 0, none⟩))) (he : InE own ⟨some b, cs, T⟩) (hu : P.underlying t = some d) (hd : isAggD d = true) (hsz : (P.info? t).map (·.size) = some cs.length) (k : RetV P L own rs vs) : RetV P L own (.cell r t :: rs) (.agg cs.toArray :: vs)
  | one {r b : Nat} {t T : TypeId} {v : Value} {rs : List ResultVar} {vs : List Value} {d : TypeDesc} (h : slot L r = some (.pointer (some ⟨b, 0, none⟩))) (he : InE own ⟨some b, [v], T⟩) (hu : P.underlying t = some d) (hd : isAggD d = false) (k : RetV P L own rs vs) : RetV P L own (.cell r t :: rs) (v :: vs)

def tup : List Value → Value
  | [v] => v
  | vs => .tuple vs.toArray

def resAt (tmps : Array Value) : ResultVar → Sem Value
  | .tmp t => pure (tmps.getD t undef)
  | .cell b t => do loadVar t (← asAddr (tmps.getD b undef))
theorem results_eq (fn : Func) (tmps : Array Value) : results fn tmps = (do let vs ← fn.results.mapM (resAt tmps); pure (if h : vs.size = 1 then vs[0] else .tuple vs)) := by
  have : (resAt tmps) = (fun | .tmp t => pure (tmps.getD t undef) | .cell a t => do loadVar t (← asAddr (tmps.getD a undef))) := by funext x; cases x <;> rfl
  rw [this]; rfl
section
variable {ds : List Deferred} {ρ : Option Nat} {P : Program} {fn : Func} {R : Ending → World → Prop} {n : Nat} {L : Slots} {ok : Nat → Prop} {w0 : World} {own : List Ent} {fs : List Fact}
theorem retV_run {a : Act} {w : World} (hF : Fr ds a n L) (hS : St ok w0 own fs w) : ∀ {rs : List ResultVar} {vs : List Value}, RetV P L own rs vs → (rs.mapM (resAt a.tmps)).run P w = .ok vs w
  | _, _, .nil => rfl
  | _, _, .tmp (r := r) h k => by
    have h1 := hF.at_ _ _ h
    have ih := retV_run hF hS k
    rw [List.mapM_cons]
    simp [ih, h1, resAt]
  | _, _, .agg h he hu hd hsz k => by
    have h1 := hF.at_ _ _ h
    have ih := retV_run hF hS k
    obtain ⟨kk, hk⟩ := he.get
    have h2 := run_lda (P := P) (off := 0) (hS.block hk) (fun i _ => by simp) hu hd hsz
    rw [List.mapM_cons]
    simp [ih, h1, asAddr, h2, resAt]
  | _, _, .one h he hu hd k => by
    have h1 := hF.at_ _ _ h
    have ih := retV_run hF hS k
    obtain ⟨kk, hk⟩ := he.get
    have hc := block_cell (hS.block hk) 0
    rw [List.mapM_cons]
    simp [ih, h1, asAddr, loadVar, run_isAgg hu, hd, hc, resAt]
theorem WX.retN {rs : List ResultVar} {vs : List Value} (hr : fn.results = rs.toArray) (hv : RetV P L own rs vs) (h : ∀ w, St ok w0 own fs w → R (.returned (tup vs)) w) : WX [] (bodyPost P fn R) .ret n L (St ok w0 own fs) := fun a w hF hS => by
  refine bodyPost_ret (v := tup vs) ?_ hF.defers (h w hS)
  have hm := retV_run hF hS hv
  rw [results_eq, hr, List.mapM_toArray]
  simp only [Sem.run_bind, map_eq_pure_bind, hm, Result.andThen, Sem.run_pure]
  match vs with
  | [] => rfl
  | [v] => rfl
  | v :: u :: r => simp [tup]
end
end Go.Proofs.YtbcnnkcddilfjaaGreat
