/-
  Parts of the walk: New Rng Str Dec Itoa Sha.
-/
import Derived.Test.YtddoigmffkmpcaaGreatDoorI6
import Derived.Laws.Sem
import Derived.RangeFuncLeaves
import Derived.RangeFuncRecord
import Derived.Scope
import Derived.Lib.ItoaNum
namespace Go.Proofs.YtddoigmffkmpcaaGreatDoor
open Go.RowKit
set_option linter.unusedSimpArgs false
set_option linter.unusedVariables false
set_option maxHeartbeats 600000
set_option maxRecDepth 20000
class HasE (own : List Ent) (b : Nat) (cs : outParam (List Value)) (T : outParam TypeId) : Prop where
  h : InE own ⟨some b, cs, T⟩
instance (priority := high) HasE.here (r : List Ent) (b : Nat) (cs : List Value) (T : TypeId) : HasE (⟨some b, cs, T⟩ :: r) b cs T := ⟨.here⟩
instance HasE.there (r : List Ent) (x : Ent) (b : Nat) (cs : List Value) (T : TypeId) [HasE r b cs T] : HasE (x :: r) b cs T := ⟨.there HasE.h⟩
theorem InE.right {e r : List Ent} {x : Ent} (h : InE r x) : InE (e ++ r) x := by
  induction e with
  | nil => exact h
  | cons y e ih => exact .there ih
instance HasE.ext (e r : List Ent) (b : Nat) (cs : List Value) (T : TypeId) [HasE r b cs T] : HasE (e ++ r) b cs T := ⟨InE.right HasE.h⟩
theorem InE.tc {own : List Ent} {b : Nat} {cs : List Value} {T : TypeId} [h : HasE own b cs T] : InE own ⟨some b, cs, T⟩ := h.h
class HasC (own : List Ent) (ob : Option Nat) (cs : outParam (List Value)) (T : outParam TypeId) (C : outParam (Ent → List Ent)) : Prop where
  h : Ctx own ⟨ob, cs, T⟩ C
instance (priority := high) HasC.here (r : List Ent) (ob : Option Nat) (cs : List Value) (T : TypeId) : HasC (⟨ob, cs, T⟩ :: r) ob cs T (fun y => y :: r) := ⟨.here⟩
instance HasC.there (r : List Ent) (x : Ent) (ob : Option Nat) (cs : List Value) (T : TypeId) (C : Ent → List Ent) [HasC r ob cs T C] : HasC (x :: r) ob cs T (fun y => x :: C y) := ⟨.there HasC.h⟩
theorem Ctx.right {r : List Ent} {x : Ent} {C : Ent → List Ent} (h : Ctx r x C) : ∀ e : List Ent, Ctx (e ++ r) x (fun y => e ++ C y)
  | [] => h
  | z :: e => .there (Ctx.right h e)
instance HasC.ext (e r : List Ent) (ob : Option Nat) (cs : List Value) (T : TypeId) (C : Ent → List Ent) [h : HasC r ob cs T C] : HasC (e ++ r) ob cs T (fun y => e ++ C y) := ⟨Ctx.right h.h e⟩
theorem Ctx.tc {own : List Ent} {ob : Option Nat} {cs : List Value} {T : TypeId} {C : Ent → List Ent} [h : HasC own ob cs T C] : Ctx own ⟨ob, cs, T⟩ C := h.h
class HasF (fs : List Fact) (a : Option Addr) (xs : outParam (List Value)) : Prop where
  h : InF fs (Fact.sl a xs)
instance (priority := high) HasF.here (r : List Fact) (a : Option Addr) (xs : List Value) : HasF (Fact.sl a xs :: r) a xs := ⟨.here⟩
instance HasF.there (r : List Fact) (f : Fact) (a : Option Addr) (xs : List Value) [HasF r a xs] : HasF (f :: r) a xs := ⟨.there HasF.h⟩
theorem InF.tc {fs : List Fact} {a : Option Addr} {xs : List Value} [h : HasF fs a xs] : InF fs (Fact.sl a xs) := h.h
section
variable {ok : Nat → Prop} {w0 : World} {own : List Ent} {fs : List Fact} {w : World}
theorem St.sl (h : St ok w0 own fs w) {a : Option Addr} {xs : List Value} [hf : HasF fs a xs] : (Fact.sl a xs).holds (fun _ => True) w := by
  obtain ⟨k, hk⟩ := hf.h.get; exact h.holds_any hk
theorem St.os (h : St ok w0 own fs w) {b : Nat} {xs : List Value} {T : TypeId} [hf : HasE own b xs T] : (Fact.sl (some ⟨b, 0, none⟩) xs).holds (fun _ => True) w := own_fact h hf.h
theorem st_sub {own' : List Ent} {fs' : List Fact} [h1 : SubL own own'] [h2 : SubL fs fs'] : ∀ w, St ok w0 own' fs' w → St ok w0 own fs w := fun w h => h.sub h1.h (fun f hf => h2.h.subset hf)
theorem sl_nil {a : Option Addr} : (Fact.sl a []).holds (fun _ => True) w := .inl rfl
theorem fact_any {f : Fact} {ok : Nat → Prop} (h : f.holds ok w) : f.holds (fun _ => True) w := f.mono (fun _ _ => trivial) h
theorem facts_nil {ok : Nat → Prop} : ∀ f ∈ ([] : List Fact), f.holds ok w := fun _ h => by cases h
theorem facts_cons {f : Fact} {ok : Nat → Prop} (h : f.holds ok w) (h' : ∀ g ∈ fs, g.holds ok w) : ∀ g ∈ f :: fs, g.holds ok w := fun g hg => (List.mem_cons.1 hg).elim (fun e => e ▸ h) (h' g)
end
section
variable {ds : List Deferred} {ρ : Option Nat} {P : Program} {o : Oper} {n : Nat} {L : Slots} {x y : Operand} {v : Value} {t e : TypeId} {sz : Nat} {cs : List Value}
theorem fr_run {val : Nat → Value} {T : TypeId} (h : ∀ a, Fr ds a n L → ∀ w : World, (execOp a.eval o).run P w = .ok (.value (val w.heap.size)) (w.alloc (.cells cs.toArray T))) : Fre ds P o n L val cs T := fun a hF w => h a hF w
theorem fr_alloc (hop : o.op = .alloc t) (hz : (P.info? t).bind (·.zero) = some v) (hc : v.cells.toList = cs) : Fre ds P o n L (fun b : Nat => .pointer (some ⟨b, 0, none⟩)) cs t :=
  fr_run fun a hF w => by subst hc; simp [execOp, hop, Instr.alloc, run_zero hz, run_newVar]
end
abbrev pt (a : Option Addr) (k : Nat) : Value := .pointer (some ((a.getD ⟨0, 0, none⟩).add k))
section
variable {ds : List Deferred} {ρ : Option Nat} {P : Program} {o : Oper} {n : Nat} {L : Slots} {ok : Nat → Prop} {w0 : World} {own : List Ent} {fs : List Fact} {x y : Operand} {v : Value} {t e : TypeId} {k : IntKind} {i : Int} {sz q : Nat} {a : Option Addr} {xs ys : List Value}
theorem St.slx {w : World} (h : St ok w0 own fs w) [hf : HasF fs a xs] (hx : 0 < xs.length) : ∃ b off cs T fz, a = some ⟨b, off, none⟩ ∧ w.heap[b]? = some (.cells cs T fz) ∧ ∀ i, i < xs.length → cs[off + i]? = xs[i]? := by
  rcases h.sl (a := a) with h0 | ⟨b, off, cs, T, fz, h1, _, h3, h4⟩
  · subst h0; simp at hx
  · exact ⟨b, off, cs, T, fz, h1, h3, h4⟩
theorem iaf {len cap : Nat} (hop : o.op = .indexAddr t x y) (hx : oper L x = some (.slice a len cap)) (hy : oper L y = some (.int k i)) [hf : HasF fs a xs] (hu : P.underlying t = some (.slice e)) (hs : (P.info? e).map (·.size) = some sz) (hb : 0 ≤ i ∧ i < (len : Int)) (hxs : 0 < xs.length) (hq : i.toNat * sz = q) : Rd ds P o n L (St ok w0 own fs) (pt a q) :=
  rd_run fun ac hF w hS => by
    obtain ⟨b, off, cs, T, fz, rfl, h3, h4⟩ := hS.slx (a := a) hxs
    simp [execOp, hop, hF.eval hx, hF.eval hy, Instr.indexAt, asIntOf, run_underlying hu, hb, size_run hs, Addr.add_lit, hq, pt]
theorem ldt (hop : o.op = .load t x) (hx : oper L x = some (pt a q)) [hf : HasF fs a xs] {d : TypeDesc} (hu : P.underlying t = some d) (hd : isAggD d = false) (hv : xs[q]? = some v) : Rd ds P o n L (St ok w0 own fs) v :=
  rd_run fun ac hF w hS => by
    have hlt : q < xs.length := (List.getElem?_eq_some_iff.1 hv).1
    obtain ⟨b, off, cs, T, fz, rfl, h3, h4⟩ := hS.slx (a := a) (by omega)
    have hc : w.cell? ⟨b, off + q, none⟩ = some v := by simp [World.cell?, h3, h4 q hlt, hv]
    have hx' := hF.eval hx
    simp only [pt, Option.getD_some, Addr.add_lit] at hx'
    simp [execOp, hop, hx', Instr.loadAt, Instr.sureAddr, loadVar, run_isAgg hu, hd, hc]
theorem ldta (hop : o.op = .load t x) (hx : oper L x = some (pt a q)) [hf : HasF fs a xs] {d : TypeDesc} (hu : P.underlying t = some d) (hd : isAggD d = true) (hs : (P.info? t).map (·.size) = some sz) (hys : (xs.drop q).take sz = ys) (hlen : ys.length = sz) (h0 : 0 < sz) : Rd ds P o n L (St ok w0 own fs) (.agg ys.toArray) :=
  rd_run fun ac hF w hS => by
    have hml : q + sz ≤ xs.length := by
      have : ys.length = min sz (xs.length - q) := by rw [← hys]; simp
      omega
    obtain ⟨b, off, cs, T, fz, rfl, h3, h4⟩ := hS.slx (a := a) (by omega)
    have hx' := hF.eval hx
    simp only [pt, Option.getD_some, Addr.add_lit] at hx'
    have := run_lda (P := P) (off := off + q) (xs := ys) h3 (fun i hi => by
      rw [Nat.add_assoc, h4 (q + i) (by omega), ← hys, List.getElem?_take, if_pos (by omega), List.getElem?_drop]) hu hd (by rw [hs, hlen])
    simp [execOp, hop, hx', Instr.loadAt, Instr.sureAddr, this]
theorem faf {f : Nat} {flds : Array Field} {fd : Field} {q' : Nat} (hop : o.op = .fieldAddr t x f) (hx : oper L x = some (pt a q)) (hu : P.underlying t = some (.struct flds)) (hf : flds[f]? = some fd) (hs : ((P.info? fd.type).map (fun i => decide (0 < i.size))) = some true) (hq : q + fd.offset = q') : Rd ds P o n L (St ok w0 own fs) (pt a q') :=
  rd_run fun ac hF w hS => by
    obtain ⟨i, hi, hi'⟩ := Option.map_eq_some_iff.1 hs
    have hne : ¬ i.size = 0 := by simp at hi'; omega
    have hx' := hF.eval hx
    have e1 : ((a.getD ⟨0, 0, none⟩).add q).add fd.offset = (a.getD ⟨0, 0, none⟩).add q' := by subst hq; by_cases h1 : q = 0 <;> by_cases h2 : fd.offset = 0 <;> simp [Addr.add, h1, h2, Nat.add_assoc]
    simp only [pt] at hx' ⊢
    simp [execOp, hop, hx', Instr.fieldAt, Instr.sureAddr, run_underlying hu, hf, fieldPlace, sizeOf, typeInfo, hi, hne, e1]
theorem map_getD {α : Type} [Inhabited α] (l : List α) (f : α → Value) (q : Nat) (h : q < l.length) : (l.map f)[q]? = some (f (l.getD q default)) := by
  rw [List.getElem?_map, List.getElem?_eq_getElem h]; simp [List.getD, List.getElem?_eq_getElem h]
theorem ldm {α : Type} [Inhabited α] {l : List α} {f : α → Value} (hop : o.op = .load t x) (hx : oper L x = some (pt a q)) [hf : HasF fs a (l.map f)] {d : TypeDesc} (hu : P.underlying t = some d) (hd : isAggD d = false) (hq : q < l.length) : Rd ds P o n L (St ok w0 own fs) (f (l.getD q default)) :=
  ldt hop hx hu hd (map_getD l f q hq)
theorem drop_flatMap {α : Type} {f : α → List Value} {sz : Nat} (hf : ∀ x, (f x).length = sz) : ∀ (l : List α) (q : Nat), (l.flatMap f).drop (q * sz) = (l.drop q).flatMap f
  | [], q => by simp
  | x :: l, 0 => by simp
  | x :: l, q + 1 => by
    rw [List.flatMap_cons, show (q + 1) * sz = (f x).length + q * sz by rw [hf, Nat.succ_mul, Nat.add_comm], ← List.drop_drop, List.drop_left, drop_flatMap hf l q, List.drop_succ_cons]
theorem flatMap_at {α : Type} [Inhabited α] (l : List α) (f : α → List Value) (sz : Nat) (hf : ∀ x, (f x).length = sz) (q : Nat) (h : q < l.length) : ((l.flatMap f).drop (q * sz)).take sz = f (l.getD q default) := by
  rw [drop_flatMap hf, List.drop_eq_getElem_cons h, List.flatMap_cons, ← hf l[q], List.take_left]
  simp [List.getD, List.getElem?_eq_getElem h]
theorem flatMap_len {α : Type} (l : List α) (f : α → List Value) (sz : Nat) (hf : ∀ x, (f x).length = sz) : (l.flatMap f).length = l.length * sz := by
  induction l with
  | nil => simp
  | cons x l ih => rw [List.flatMap_cons, List.length_append, hf, ih, List.length_cons, Nat.succ_mul, Nat.add_comm]
theorem ldma {α : Type} [Inhabited α] {l : List α} {f : α → List Value} (j : Nat) (hop : o.op = .load t x) (hx : oper L x = some (pt a q)) [hf : HasF fs a (l.flatMap f)] {d : TypeDesc} (hu : P.underlying t = some d) (hd : isAggD d = true) (hs : (P.info? t).map (·.size) = some sz) (hsz : ∀ x, (f x).length = sz) (h0 : 0 < sz) (hq : q = j * sz) (hj : j < l.length) : Rd ds P o n L (St ok w0 own fs) (.agg (f (l.getD j default)).toArray) :=
  ldta hop hx hu hd hs (by rw [hq]; exact flatMap_at l f sz hsz j hj) (hsz _) h0
theorem ldmf {α : Type} [Inhabited α] {l : List α} {f : α → List Value} (j off : Nat) (hop : o.op = .load t x) (hx : oper L x = some (pt a q)) [hf : HasF fs a (l.flatMap f)] {d : TypeDesc} (hu : P.underlying t = some d) (hd : isAggD d = false) (hsz : ∀ x, (f x).length = sz) (hq : q = j * sz + off) (hj : j < l.length) (ho : off < sz) (hv : (f (l.getD j default))[off]? = some v) : Rd ds P o n L (St ok w0 own fs) v :=
  ldt hop hx hu hd (by rw [← hv, ← flatMap_at l f sz hsz j hj, List.getElem?_take, if_pos ho, List.getElem?_drop, hq])
end
theorem WC.free0 {ds : List Deferred} {P : Program} {ok : Nat → Prop} {w0 : World} {n : Nat} {L : Slots} {own : List Ent} {fs : List Fact} {Q : Exit → Act → World → Prop} {id : Nat} {l tl : List Oper} (front tail marks : List Nat) (hm : P.follows .mixedOrders = true) (hB : freeOk l front tail marks = true) (ht : pickOps l tail = tl)
    (k : WJ ds P l ok w0 (St ok w0 own fs) (lisX P l.toArray Q tl) marks n front L own fs []) : WC ds none P (.region id l.toArray true) Q n L (St ok w0 own fs) := WC.free (K := own) (fs0 := fs) front tail marks hm hB ht k
section
variable {ds : List Deferred} {ρ : Option Nat} {P : Program} {o : Oper} {n : Nat} {L : Slots} {Z : World → Prop} {x y : Operand} {t t2 e : TypeId} {a : Option Addr} {m c : Nat}
end
theorem keep_st {P : Program} {f : FuncId} {args : Array Value} {Z Z' : World → Prop} {v : Value} (h : ∀ w, Z w → Calls P f args w (fun e w' => e = .returned v ∧ Z' w')) : ∀ w, Z w → Calls P f args w (fun e w' => ∃ _g : Unit, e = .returned v ∧ Z' w') :=
  fun w hw => (h w hw).mono fun _ _ hh => ⟨(), hh⟩
section
variable {ds : List Deferred} {ρ : Option Nat} {P : Program} {o : Oper} {n : Nat} {L : Slots} {ok : Nat → Prop} {w0 : World} {own : List Ent} {C : Ent → List Ent} {fs : List Fact} {x y : Operand} {v : Value} {t e T : TypeId} {k : IntKind} {i : Int} {sz q : Nat} {ob : Option Nat} {cs : List Value}
theorem St.ocx {w : World} (h : St ok w0 own fs w) (hc : Ctx own ⟨ob, cs, T⟩ C) (hx : 0 < cs.length) : ∃ b, ob = some b ∧ w.heap[b]? = some (.cells cs.toArray T (0, 0)) := by
  obtain ⟨k, hk, _⟩ := hc.get
  have := h.own_ _ (List.mem_of_getElem? hk)
  cases ob with
  | none => have h1 : cs = [] := this; subst h1; simp at hx
  | some b => exact ⟨b, rfl, this.2⟩
theorem iao {len cap : Nat} (hop : o.op = .indexAddr t x y) (hx : oper L x = some (.slice (ob.map fun b => ⟨b, 0, none⟩) len cap)) (hy : oper L y = some (.int k i)) [hf : HasC own ob cs T C] (hu : P.underlying t = some (.slice e)) (hs : (P.info? e).map (·.size) = some sz) (hb : 0 ≤ i ∧ i < (len : Int)) (hxs : 0 < cs.length) (hq : i.toNat * sz = q) : Rd ds P o n L (St ok w0 own fs) (pt (ob.map fun b => ⟨b, 0, none⟩) q) :=
  rd_run fun ac hF w hS => by
    obtain ⟨b, rfl, _⟩ := hS.ocx hf.h hxs
    have hx' := hF.eval hx
    simp only [Option.map_some] at hx'
    simp [execOp, hop, hx', hF.eval hy, Instr.indexAt, asIntOf, run_underlying hu, hb, size_run hs, Addr.add_lit, hq, pt]
theorem ldo (hop : o.op = .load t x) (hx : oper L x = some (pt (ob.map fun b => ⟨b, 0, none⟩) q)) [hf : HasC own ob cs T C] {d : TypeDesc} (hu : P.underlying t = some d) (hd : isAggD d = false) (hv : cs[q]? = some v) : Rd ds P o n L (St ok w0 own fs) v :=
  rd_run fun ac hF w hS => by
    have hlt : q < cs.length := (List.getElem?_eq_some_iff.1 hv).1
    obtain ⟨b, rfl, h3⟩ := hS.ocx hf.h (by omega)
    have hc : w.cell? ⟨b, q, none⟩ = some v := by simp [World.cell?, h3, hv]
    have hx' := hF.eval hx
    simp only [pt, Option.map_some, Option.getD_some, Addr.add_lit, Nat.zero_add] at hx'
    simp [execOp, hop, hx', Instr.loadAt, Instr.sureAddr, loadVar, run_isAgg hu, hd, hc]
theorem ldom {α : Type} [Inhabited α] {l : List α} {f : α → Value} {sp : List Value} (hop : o.op = .load t x) (hx : oper L x = some (pt (ob.map fun b => ⟨b, 0, none⟩) q)) [hf : HasC own ob (l.map f ++ sp) T C] {d : TypeDesc} (hu : P.underlying t = some d) (hd : isAggD d = false) (hq : q < l.length) : Rd ds P o n L (St ok w0 own fs) (f (l.getD q default)) :=
  ldo hop hx hu hd (by rw [List.getElem?_append_left (by simpa using hq)]; exact map_getD l f q hq)
end
theorem WR.free0 {ds : List Deferred} {ρ : Option Nat} {P : Program} {ok : Nat → Prop} {w0 : World} {n : Nat} {L : Slots} {own : List Ent} {fs : List Fact} {Q : Exit → Act → World → Prop} {id : Nat} {l tl : List Oper} (hp : noDef l = true) (front tail marks : List Nat) (hm : P.follows .mixedOrders = true) (hB : freeOk l front tail marks = true) (ht : pickOps l tail = tl)
    (k : WJ ds P l ok w0 (St ok w0 own fs) (lisX P l.toArray Q tl) marks n front L own fs []) : WC ds ρ P (.region id l.toArray true) Q n L (St ok w0 own fs) := WR.free (K := own) (fs0 := fs) hp front tail marks hm hB ht k
abbrev sh (a : Option Addr) (k : Nat) : Option Addr := a.map (·.add k)
theorem sl_dropO {ok : Nat → Prop} {a : Option Addr} {xs : List Value} {w : World} (k : Nat) (h : (Fact.sl a xs).holds ok w) : (Fact.sl (sh a k) (xs.drop k)).holds ok w := by
  rcases h with rfl | ⟨b, off, cs, T, fz, rfl, h2, h3, h4⟩
  · exact .inl (by simp)
  · exact .inr ⟨b, off + k, cs, T, fz, by simp [sh, Addr.add_lit], h2, h3, fun i hi => by
      rw [List.length_drop] at hi
      rw [List.getElem?_drop, ← h4 (k + i) (by omega), Nat.add_assoc]⟩
theorem sl_dropM {α : Type} {ok : Nat → Prop} {a : Option Addr} {l : List α} {f : α → Value} {w : World} (k : Nat) (h : (Fact.sl a (l.map f)).holds ok w) : (Fact.sl (sh a k) ((l.drop k).map f)).holds ok w := by
  rw [List.map_drop]; exact sl_dropO k h
theorem sl_cutM {α : Type} {ok : Nat → Prop} {a : Option Addr} {l : List α} {f : α → Value} {w : World} {cap : Nat} (k : Nat) (hc : l.length ≤ cap) (h : (Fact.sl a (l.map f)).holds ok w) : (Fact.sl (cut a k cap 1) ((l.drop k).map f)).holds ok w := by
  unfold cut
  split
  · rename_i e; subst e; exact .inl (by simp; omega)
  · rw [Nat.mul_one]; exact sl_dropM k h
section
variable {ds : List Deferred} {ρ : Option Nat} {P : Program} {o : Oper} {n : Nat} {L : Slots} {Z : World → Prop} {x y : Operand} {t e : TypeId} {k k' : IntKind} {i j : Int} {sz : Nat} {ok : Nat → Prop} {w0 : World} {own : List Ent} {fs : List Fact}
theorem rd_slfo {a : Option Addr} {len cap : Nat} {lo : Operand} (hop : o.op = .slice t x (some lo) none none) (hx : oper L x = some (.slice a len cap)) (hl : oper L lo = some (.int k i)) (hu : P.underlying t = some (.slice e)) (hs : (P.info? e).map (·.size) = some sz)
    (hb : 0 ≤ i ∧ i ≤ (len : Int) ∧ i < (cap : Int)) {q1 q2 q3 : Nat} (h1 : i.toNat * sz = q1) (h2 : len - i.toNat = q2) (h3 : cap - i.toNat = q3) : Rd ds P o n L (St ok w0 own fs) (.slice (sh a q1) q2 q3) := by
  have := rd_slf (ds := ds) (P := P) (n := n) (ok := ok) (w0 := w0) (own := own) (fs := fs) hop hx hl hu hs ⟨hb.1, hb.2.1⟩ rfl rfl rfl
  rwa [cut, if_neg (by omega), h1, h2, h3] at this
end
section
variable {ds : List Deferred} {ρ : Option Nat} {P : Program} {Q : Exit → Act → World → Prop} {n : Nat} {L : Slots} {Z : World → Prop} {ops : List Oper}
theorem WC.sr {id : Nat} {l : List Oper} {y : Code} (k : WL ds P l (Exit.then (cdX none P y Q) Q) n l L Z) : WC ds none P (.seq (.region id l.toArray false) y) Q n L Z := WC.seq (WC.region k)
theorem WR.sr {id : Nat} {l : List Oper} {y : Code} (hp : noDef l = true) (k : WL ds P l (Exit.then (cdX ρ P y Q) Q) n l L Z) : WC ds ρ P (.seq (.region id l.toArray false) y) Q n L Z := WC.seq (WR.region hp k)
theorem WL.nt {y : Code} (k : WC ds ρ P y Q n L Z) : WL ds P ops (Exit.then (cdX ρ P y Q) Q) n [] L Z := WL.nil (WX.then_normal k)
end
section
variable {ds : List Deferred} {ρ : Option Nat} {P : Program} {Q : Exit → Act → World → Prop} {n : Nat} {L : Slots} {Z : World → Prop} {c : Code} {σ : Type}
theorem sub_app {A B L' : Slots} (hA : ∀ k v, slot A k = some v → slot L' k = some v) (hB : ∀ k v, slot B k = some v → slot L' k = some v) : ∀ k v, slot (A ++ B) k = some v → slot L' k = some v := by
  intro k v hk
  induction A with
  | nil => exact hB k v hk
  | cons p A ih =>
    obtain ⟨d, u⟩ := p
    simp only [List.cons_append, slot] at hk
    cases hb : Nat.beq k d with
    | true => exact hA k v (by simp only [slot, hb]; simpa [hb] using hk)
    | false =>
      rw [hb] at hk
      by_cases hd : slot A k = some v
      · exact hA k v (by simp only [slot, hb]; exact hd)
      · have : ∀ A : Slots, slot (A ++ B) k = some v → slot A k ≠ some v → slot B k = some v := by
          intro A
          induction A with
          | nil => intro h _; exact h
          | cons p A ih =>
            obtain ⟨e, u⟩ := p
            intro h hne
            simp only [List.cons_append, slot] at h hne
            cases hb : Nat.beq k e with
            | true => rw [hb] at h hne; exact absurd h hne
            | false => rw [hb] at h hne; exact ih h hne
        exact hB k v (this A hk hd)
theorem WC.loopP (Lm : Slots) (Ls : σ → Slots) (inv : σ → Prop) (μ : σ → Nat) (s0 : σ) (hm : ∀ k v, slot Lm k = some v → slot L k = some v) (hL : ∀ k v, slot (Ls s0) k = some v → slot L k = some v) (h0 : inv s0)
    (round : ∀ s, inv s → WC ds ρ P c (Exit.then (LoopK ds (fun s => Ls s ++ Lm) (fun s w => inv s ∧ Z w) μ n s) Q) n (Ls s ++ Lm) Z) : WC ds ρ P (.loop c) Q n L Z :=
  WC.loop (fun s => Ls s ++ Lm) (fun s w => inv s ∧ Z w) μ s0 (sub_app hL hm) (fun w h => ⟨h0, h⟩) fun s => WC.pu fun h => round s h
theorem WX.loopP {Lm L' : Slots} {Ls : σ → Slots} {inv : σ → Prop} {μ : σ → Nat} {s : σ} {Z' : World → Prop} (s' : σ) (hμ : μ s' < μ s) (hm : ∀ k v, slot Lm k = some v → slot L' k = some v) (hL : ∀ k v, slot (Ls s') k = some v → slot L' k = some v) (hi : inv s') (hZ : ∀ w, Z' w → Z w) :
    WX ds (Exit.then (LoopK ds (fun s => Ls s ++ Lm) (fun s w => inv s ∧ Z w) μ n s) Q) .normal n L' Z' := WX.loop s' hμ (sub_app hL hm) (fun w h => ⟨hi, hZ w h⟩)
theorem WC.loopO {ok : Nat → Prop} {w0 : World} {own : List Ent} {fs : List Fact} (Lm : Slots) (Ls : σ → Slots) (inv : σ → Prop) (μ : σ → Nat) (own' : σ → List Ent) (fs' : σ → List Fact) (s0 : σ) (hm : ∀ k v, slot Lm k = some v → slot L k = some v) (hL : ∀ k v, slot (Ls s0) k = some v → slot L k = some v) (h0 : inv s0) (hS : ∀ w, St ok w0 own fs w → St ok w0 (own' s0) (fs' s0) w)
    (round : ∀ s, inv s → WC ds ρ P c (Exit.then (LoopK ds (fun s => Ls s ++ Lm) (fun s w => inv s ∧ St ok w0 (own' s) (fs' s) w) μ n s) Q) n (Ls s ++ Lm) (St ok w0 (own' s) (fs' s))) : WC ds ρ P (.loop c) Q n L (St ok w0 own fs) :=
  WC.loop (fun s => Ls s ++ Lm) (fun s w => inv s ∧ St ok w0 (own' s) (fs' s) w) μ s0 (sub_app hL hm) (fun w h => ⟨h0, hS w h⟩) fun s => WC.pu fun h => round s h
theorem WX.loopO {ok : Nat → Prop} {w0 : World} {Lm L' : Slots} {Ls : σ → Slots} {inv : σ → Prop} {μ : σ → Nat} {own' : σ → List Ent} {fs' : σ → List Fact} {s : σ} {Z' : World → Prop} (s' : σ) (hμ : μ s' < μ s) (hm : ∀ k v, slot Lm k = some v → slot L' k = some v) (hL : ∀ k v, slot (Ls s') k = some v → slot L' k = some v) (hi : inv s') (hZ : ∀ w, Z' w → St ok w0 (own' s') (fs' s') w) :
    WX ds (Exit.then (LoopK ds (fun s => Ls s ++ Lm) (fun s w => inv s ∧ St ok w0 (own' s) (fs' s) w) μ n s) Q) .normal n L' Z' := WX.loop s' hμ (sub_app hL hm) (fun w h => ⟨hi, hZ w h⟩)
end
section
variable {ds : List Deferred} {ρ : Option Nat} {P : Program} {ops : List Oper} {ok : Nat → Prop} {w0 : World} {F : Act → World → Prop} {marks : List Nat} {n d i : Nat} {rest : List Nat} {L : Slots} {K own z : List Ent} {fs0 fs : List Fact} {o : Oper} {v : Value}
theorem WJ.st {own' : List Ent} [h1 : SubL K own'] [h2 : SubL fs0 fs] (ho : ops[i]? = some o) (hm : marks.getD i 2 = 1) (hw : wantO ops L o = some true) (hdst : o.dst = none)
    (h : ∀ ext, Og ds P o n L (St ok w0 (ext ++ own) fs) (fun _ : Unit => undef) (fun _ => St ok w0 (ext ++ own') fs))
    (k : WJ ds P ops ok w0 (St ok w0 K fs0) F marks n rest L own' fs z) : WJ ds P ops ok w0 (St ok w0 K fs0) F marks n (i :: rest) L own fs z := by
  intro a hF
  refine ⟨o, by simpa using ho, ?_⟩
  rw [if_pos (wanted_of hF hw)]
  refine .inr (.inl ⟨hm, Unit, fun _ => undef, fun _ => True, fun _ => own', fun _ => fs, fun ext w hS => opX_mono (fun a' w' hh => ?_) (h ext a w hF hS), fun g _ => ⟨good_of, ?_⟩⟩)
  · obtain ⟨u, rfl, g, rfl, hS'⟩ := hh
    exact ⟨(), rfl, trivial, hS'⟩
  · rw [hdst]; exact k _ hF
theorem WJ.gv [h1 : SubL K own] [h2 : SubL fs0 fs] (ho : ops[i]? = some o) (hm : marks.getD i 2 = 1) (hw : wantO ops L o = some true) (hdst : o.dst = some d) (hd : Nat.blt d n = true)
    (h : ∀ ext, Og ds P o n L (St ok w0 (ext ++ own) fs) (fun _ : Unit => v) (fun _ => St ok w0 (ext ++ own) fs))
    (k : WJ ds P ops ok w0 (St ok w0 K fs0) F marks n rest ((d, v) :: L) own fs z) : WJ ds P ops ok w0 (St ok w0 K fs0) F marks n (i :: rest) L own fs z :=
  WJ.g (γ := Unit) (val := fun _ => v) (p := fun _ => True) (own' := fun _ => own) (fs' := fun _ => fs) ho hm hw hdst hd (fun ext a w hF hS => opX_mono (fun a' w' hh => by
    obtain ⟨u, e, g, e', hS'⟩ := hh; exact ⟨u, e, g, e', trivial, hS'⟩) (h ext a w hF hS)) (fun _ _ => k)
end
section
variable {ds : List Deferred} {ρ : Option Nat} {P : Program} {o : Oper} {n : Nat} {L : Slots} {ok : Nat → Prop} {w0 : World} {own : List Ent} {C : Ent → List Ent} {fs : List Fact} {x y : Operand} {t e : TypeId} {sz : Nat} {xs : List Value} {len cap b : Nat} {news : List Value} {zv : Value} {m c : Nat} {ad : Option Addr}
theorem rd_extL {Z : World → Prop} {vs : List Value} {v : Value} {ix : Nat} (hop : o.op = .extract x ix) (hx : oper L x = some (.tuple vs.toArray)) (h : vs[ix]? = some v) : Rd ds P o n L Z v := rd_ext hop hx (by simpa using h)
end
structure Rs where
  ob : Option Nat
  cap : Nat
  sp : List Value
abbrev Rs.a (g : Rs) : Option Addr := g.ob.map fun b => ⟨b, 0, none⟩
abbrev Rs.val (g : Rs) (n : Nat) : Value := .slice g.a n g.cap
section
variable {ds : List Deferred} {ρ : Option Nat} {P : Program} {ok : Nat → Prop} {w0 : World} {own ext : List Ent} {fs : List Fact} {γ : Type} {f : FuncId} {args : Array Value} {val : γ → Value} {p : γ → Prop}
end
inductive RetV (P : Program) (L : Slots) (own : List Ent) : List ResultVar → List Value → Prop
  | nil : RetV P L own [] []
  | tmp {r : Nat} {v : Value} {rs : List ResultVar} {vs : List Value} (h : slot L r = some v) (k : RetV P L own rs vs) : RetV P L own (.tmp r :: rs) (v :: vs)
  | agg {r b : Nat} {t T : TypeId} {cs : List Value} {rs : List ResultVar} {vs : List Value} {d : TypeDesc} (h : slot L r = some (.pointer (some ⟨b, 0, none⟩))) (he : InE own ⟨some b, cs, T⟩) (hu : P.underlying t = some d) (hd : isAggD d = true) (hsz : (P.info? t).map (·.size) = some cs.length) (k : RetV P L own rs vs) : RetV P L own (.cell r t :: rs) (.agg cs.toArray :: vs)
  | one {r b : Nat} {t T : TypeId} {v : Value} {rs : List ResultVar} {vs : List Value} {d : TypeDesc} (h : slot L r = some (.pointer (some ⟨b, 0, none⟩))) (he : InE own ⟨some b, [v], T⟩) (hu : P.underlying t = some d) (hd : isAggD d = false) (k : RetV P L own rs vs) : RetV P L own (.cell r t :: rs) (v :: vs)
def tup : List Value → Value
  | [v] => v
  | vs => .tuple vs.toArray
def resAt (tmps : Array Value) : ResultVar → Sem Value
  | .tmp t => pure (tmps.getD t undef)
  | .cell b t => do loadVar t (← asAddr (tmps.getD b undef))
theorem results_eq (fn : Func) (tmps : Array Value) : results fn tmps = (do let vs ← fn.results.mapM (resAt tmps); pure (if h : vs.size = 1 then vs[0] else .tuple vs)) := by
  have : (resAt tmps) = (fun | .tmp t => pure (tmps.getD t undef) | .cell a t => do loadVar t (← asAddr (tmps.getD a undef))) := by funext x; cases x <;> rfl
  rw [this]; rfl
section
variable {ds : List Deferred} {ρ : Option Nat} {P : Program} {fn : Func} {R : Ending → World → Prop} {n : Nat} {L : Slots} {ok : Nat → Prop} {w0 : World} {own : List Ent} {fs : List Fact}
theorem retV_run {a : Act} {w : World} (hF : Fr ds a n L) (hS : St ok w0 own fs w) : ∀ {rs : List ResultVar} {vs : List Value}, RetV P L own rs vs → (rs.mapM (resAt a.tmps)).run P w = .ok vs w
  | _, _, .nil => rfl
  | _, _, .tmp (r := r) h k => by
    have h1 := hF.at_ _ _ h
    have ih := retV_run hF hS k
    rw [List.mapM_cons]
    simp [ih, h1, resAt]
  | _, _, .agg h he hu hd hsz k => by
    have h1 := hF.at_ _ _ h
    have ih := retV_run hF hS k
    obtain ⟨kk, hk⟩ := he.get
    have h2 := run_lda (P := P) (off := 0) (hS.block hk) (fun i _ => by simp) hu hd hsz
    rw [List.mapM_cons]
    simp [ih, h1, asAddr, h2, resAt]
  | _, _, .one h he hu hd k => by
    have h1 := hF.at_ _ _ h
    have ih := retV_run hF hS k
    obtain ⟨kk, hk⟩ := he.get
    have hc := block_cell (hS.block hk) 0
    rw [List.mapM_cons]
    simp [ih, h1, asAddr, loadVar, run_isAgg hu, hd, hc, resAt]
theorem WX.retN {rs : List ResultVar} {vs : List Value} (hr : fn.results = rs.toArray) (hv : RetV P L own rs vs) (h : ∀ w, St ok w0 own fs w → R (.returned (tup vs)) w) : WX [] (bodyPost P fn R) .ret n L (St ok w0 own fs) := fun a w hF hS => by
  refine bodyPost_ret (v := tup vs) ?_ hF.defers (h w hS)
  have hm := retV_run hF hS hv
  rw [results_eq, hr, List.mapM_toArray]
  simp only [Sem.run_bind, map_eq_pure_bind, hm, Result.andThen, Sem.run_pure]
  match vs with
  | [] => rfl
  | [v] => rfl
  | v :: u :: r => simp [tup]
end
section
variable {ds : List Deferred} {ρ : Option Nat} {γ : Type} {P : Program} {ops : List Oper} {C S Z : World → Prop} {Q : Exit → Act → World → Prop} {n d i : Nat} {rest : List Oper} {L : Slots} {o : Oper} {x : Operand} {v : Value} {marks : List Nat} {val : γ → Value} {S' : γ → World → Prop}
theorem Km (h : (wantO ops L o, o.dst, Nat.blt d n, o.op, oper L x) = (some true, some d, true, .move x, some v)) (k : WL ds P ops Q n rest ((d, v) :: L) S) : WL ds P ops Q n (o :: rest) L S := by
  simp only [Prod.mk.injEq] at h; exact WL.r h.1 h.2.1 h.2.2.1 (rd_move h.2.2.2.1 h.2.2.2.2) k
theorem Ka (h : (wantO ops L o, o.dst, Nat.blt d n, o.op, oper L x) = (some true, some d, true, .assign x, some v)) (k : WL ds P ops Q n rest ((d, v) :: L) S) : WL ds P ops Q n (o :: rest) L S := by
  simp only [Prod.mk.injEq] at h; exact WL.r h.1 h.2.1 h.2.2.1 (rd_assign h.2.2.2.1 h.2.2.2.2) k
theorem Kq (h : (wantO ops L o, o.dst, Nat.blt d n) = (some true, some d, true)) (hr : Rd ds P o n L S v) (k : WL ds P ops Q n rest ((d, v) :: L) S) : WL ds P ops Q n (o :: rest) L S := by
  simp only [Prod.mk.injEq] at h; exact WL.r h.1 h.2.1 h.2.2 hr k
theorem Kt (h : (wantO ops L o, o.dst, Nat.blt d n) = (some false, some d, true)) (k : WL ds P ops Q n rest ((d, undef) :: L) S) : WL ds P ops Q n (o :: rest) L S := by
  simp only [Prod.mk.injEq] at h; exact WL.s h.1 h.2.1 h.2.2 k
theorem Kh (h : (wantO ops L o, o.dst, Nat.blt d n) = (some true, some d, true)) (hr : Og ds P o n L S val S') (k : ∀ g, WL ds P ops Q n rest ((d, val g) :: L) (S' g)) : WL ds P ops Q n (o :: rest) L S := by
  simp only [Prod.mk.injEq] at h; exact WL.g h.1 h.2.1 h.2.2 hr k
theorem Kj {is : List Nat} {ok : Nat → Prop} {w0 : World} {F : Act → World → Prop} {own z : List Ent} {fs : List Fact} (h : (ops[i]?, marks.getD i 2, wantO ops L o, o.dst, Nat.blt d n) = (some o, 0, some true, some d, true)) (hr : Rd ds P o n L C v) (k : WJ ds P ops ok w0 C F marks n is ((d, v) :: L) own fs z) : WJ ds P ops ok w0 C F marks n (i :: is) L own fs z := by
  simp only [Prod.mk.injEq] at h; exact WJ.r h.1 h.2.1 h.2.2.1 h.2.2.2.1 h.2.2.2.2 hr k
end
theorem Xa : type_of% @WX.then_normal := @WX.then_normal
theorem Xb : type_of% @WX.then_ret := @WX.then_ret
theorem Xc : type_of% @WX.then_exit := @WX.then_exit
theorem Xd : type_of% @WX.block_normal := @WX.block_normal
theorem Xe : type_of% @WX.block_exit := @WX.block_exit
theorem Xf : type_of% @WX.block_ret := @WX.block_ret
theorem Nt : type_of% @WL.nt := @WL.nt
theorem Cs : type_of% @WC.sr := @WC.sr
theorem Cq : type_of% @WC.seq := @WC.seq
theorem Ce : type_of% @WC.ret := @WC.ret
theorem Cd : type_of% @WC.cond := @WC.cond
theorem Cg : type_of% @WC.region := @WC.region
theorem Ck : type_of% @WC.skip := @WC.skip
theorem Cb : type_of% @WC.block := @WC.block
theorem Cx : type_of% @WC.exit := @WC.exit
theorem Nn : type_of% @WL.nil := @WL.nil
theorem Rn : type_of% @WX.retN := @WX.retN
theorem Ac : type_of% @args_cons := @args_cons
theorem An : type_of% @args_nil := @args_nil
theorem Kv : type_of% @keep_val := @keep_val
theorem Fn : type_of% @facts_nil := @facts_nil
theorem Fc : type_of% @facts_cons := @facts_cons
theorem Re : type_of% @rd_extL := @rd_extL
theorem Rm : type_of% @rd_move := @rd_move
theorem Rp : type_of% @rd_pickt := @rd_pickt
theorem Rq : type_of% @rd_pickf := @rd_pickf
theorem Rz : type_of% @rd_add64nl := @rd_add64nl
theorem Sc : type_of% @sub_cons := @sub_cons
theorem S0 : type_of% @sub_nil := @sub_nil
theorem Ng : type_of% @WL.g0 := @WL.g0
theorem Nb : type_of% @WL.bool := @WL.bool
theorem Ns : type_of% @WL.set := @WL.set
theorem Ra : type_of% @rd_assign := @rd_assign
theorem Js : type_of% @WJ.s := @WJ.s
theorem Jv : type_of% @WJ.gv := @WJ.gv
theorem Jf : type_of% @WJ.f := @WJ.f
theorem Lo : type_of% @WC.loopO := @WC.loopO
theorem Lx : type_of% @WX.loopO := @WX.loopO
theorem Lp : type_of% @WC.loopP := @WC.loopP
theorem Ly : type_of% @WX.loopP := @WX.loopP
theorem Ob : type_of% @og_box := @og_box
theorem Oa : type_of% @og_alloc := @og_alloc
theorem Rt : type_of% @rd_not := @rd_not
theorem Cf : type_of% @WC.free0 := @WC.free0
section
variable {L : Slots} {d1 d2 d3 d4 d5 d6 d7 d8 d9 : Nat} {v1 v2 v3 v4 v5 v6 v7 v8 v9 : Value}
theorem S1 (h1 : slot L d1 = some v1) : ∀ k u, slot [(d1, v1)] k = some u → slot L k = some u := sub_cons h1 (sub_nil _)
theorem S2 (h1 : slot L d1 = some v1) (h2 : slot L d2 = some v2) : ∀ k u, slot [(d1, v1), (d2, v2)] k = some u → slot L k = some u := sub_cons h1 (sub_cons h2 (sub_nil _))
theorem S3 (h1 : slot L d1 = some v1) (h2 : slot L d2 = some v2) (h3 : slot L d3 = some v3) : ∀ k u, slot [(d1, v1), (d2, v2), (d3, v3)] k = some u → slot L k = some u := sub_cons h1 (sub_cons h2 (sub_cons h3 (sub_nil _)))
theorem S4 (h1 : slot L d1 = some v1) (h2 : slot L d2 = some v2) (h3 : slot L d3 = some v3) (h4 : slot L d4 = some v4) : ∀ k u, slot [(d1, v1), (d2, v2), (d3, v3), (d4, v4)] k = some u → slot L k = some u := sub_cons h1 (sub_cons h2 (sub_cons h3 (sub_cons h4 (sub_nil _))))
theorem S5 (h1 : slot L d1 = some v1) (h2 : slot L d2 = some v2) (h3 : slot L d3 = some v3) (h4 : slot L d4 = some v4) (h5 : slot L d5 = some v5) : ∀ k u, slot [(d1, v1), (d2, v2), (d3, v3), (d4, v4), (d5, v5)] k = some u → slot L k = some u := sub_cons h1 (sub_cons h2 (sub_cons h3 (sub_cons h4 (sub_cons h5 (sub_nil _)))))
theorem S6 (h1 : slot L d1 = some v1) (h2 : slot L d2 = some v2) (h3 : slot L d3 = some v3) (h4 : slot L d4 = some v4) (h5 : slot L d5 = some v5) (h6 : slot L d6 = some v6) : ∀ k u, slot [(d1, v1), (d2, v2), (d3, v3), (d4, v4), (d5, v5), (d6, v6)] k = some u → slot L k = some u := sub_cons h1 (sub_cons h2 (sub_cons h3 (sub_cons h4 (sub_cons h5 (sub_cons h6 (sub_nil _))))))
theorem S7 (h1 : slot L d1 = some v1) (h2 : slot L d2 = some v2) (h3 : slot L d3 = some v3) (h4 : slot L d4 = some v4) (h5 : slot L d5 = some v5) (h6 : slot L d6 = some v6) (h7 : slot L d7 = some v7) : ∀ k u, slot [(d1, v1), (d2, v2), (d3, v3), (d4, v4), (d5, v5), (d6, v6), (d7, v7)] k = some u → slot L k = some u := sub_cons h1 (sub_cons h2 (sub_cons h3 (sub_cons h4 (sub_cons h5 (sub_cons h6 (sub_cons h7 (sub_nil _)))))))
theorem S8 (h1 : slot L d1 = some v1) (h2 : slot L d2 = some v2) (h3 : slot L d3 = some v3) (h4 : slot L d4 = some v4) (h5 : slot L d5 = some v5) (h6 : slot L d6 = some v6) (h7 : slot L d7 = some v7) (h8 : slot L d8 = some v8) : ∀ k u, slot [(d1, v1), (d2, v2), (d3, v3), (d4, v4), (d5, v5), (d6, v6), (d7, v7), (d8, v8)] k = some u → slot L k = some u := sub_cons h1 (sub_cons h2 (sub_cons h3 (sub_cons h4 (sub_cons h5 (sub_cons h6 (sub_cons h7 (sub_cons h8 (sub_nil _))))))))
theorem S9 (h1 : slot L d1 = some v1) (h2 : slot L d2 = some v2) (h3 : slot L d3 = some v3) (h4 : slot L d4 = some v4) (h5 : slot L d5 = some v5) (h6 : slot L d6 = some v6) (h7 : slot L d7 = some v7) (h8 : slot L d8 = some v8) (h9 : slot L d9 = some v9) : ∀ k u, slot [(d1, v1), (d2, v2), (d3, v3), (d4, v4), (d5, v5), (d6, v6), (d7, v7), (d8, v8), (d9, v9)] k = some u → slot L k = some u := sub_cons h1 (sub_cons h2 (sub_cons h3 (sub_cons h4 (sub_cons h5 (sub_cons h6 (sub_cons h7 (sub_cons h8 (sub_cons h9 (sub_nil _)))))))))
end
section
variable {ds : List Deferred} {P : Program} {o : Oper} {n off b sz e t q : Nat} {Z : World → Prop} {w0 : World} {L : Slots} {own : List Ent} {fs : List Fact} {ok : Nat → Prop} {x y : Operand} {i : Int} {k : IntKind} {a : Option Addr} {xs : List Value}
theorem Kb {t : TypeId} {cs : List Value} {parts : List (Nat × Operand)} {vs : List (Nat × Value)} (zs : List (List Value)) (hop : o.op = .build t parts.toArray) (hp : partsOf L parts = some vs) (hcs : bld vs 0 zs = cs := by simp only [bld, fldv, Nat.beq, Value.cells, cond_true, cond_false, List.nil_append, List.cons_append, List.append_nil]; rfl) (hrun : ∀ w : World, (Instr.build t vs.toArray).run P w = .ok (.agg cs.toArray) w := by intro w; kernel_rfl) : Rd ds P o n L Z (.agg cs.toArray) := rd_bld zs hop hp hcs hrun
theorem Ia {len cap : Nat} (hop : o.op = .indexAddr t x y) (hx : oper L x = some (.slice a len cap)) (hy : oper L y = some (.int k i)) [hf : HasF fs a xs] (hu : P.underlying t = some (.slice e)) (hs : (P.info? e).map (·.size) = some sz) (hb : 0 ≤ i ∧ i < (len : Int)) (hxs : 0 < xs.length) (hq : i.toNat * sz = q := by (try simp only [Int.toNat_natCast, Nat.mul_one, Nat.zero_add, Nat.add_zero, Nat.zero_mul, Int.reduceToNat, Nat.reduceAdd, Nat.reduceMul, Nat.reduceSub, Nat.sub_zero]); rfl) : Rd ds P o n L (St ok w0 own fs) (pt a q) := iaf hop hx hy hu hs hb hxs hq
theorem Ib {len cap : Nat} (hop : o.op = .indexAddr t x y) (hx : oper L x = some (.slice a len cap)) (hy : oper L y = some (.int k i)) [hf : HasF fs a xs] (hu : P.underlying t = some (.slice e)) (hb : 0 ≤ i ∧ i < (len : Int)) (hxs : 0 < xs.length) (hs : (P.info? e).map (·.size) = some 1 := by kernel_rfl) (hq : i.toNat * 1 = q := by (try simp only [Int.toNat_natCast, Nat.mul_one, Nat.zero_add, Nat.add_zero, Nat.zero_mul, Int.reduceToNat, Nat.reduceAdd, Nat.reduceMul, Nat.reduceSub, Nat.sub_zero]); rfl) : Rd ds P o n L (St ok w0 own fs) (pt a q) := iaf hop hx hy hu hs hb hxs hq
theorem Ja {len cap q : Nat} (hop : o.op = .indexAddr t x y) (hx : oper L x = some (.slice (some ⟨b, off, none⟩) len cap)) (hy : oper L y = some (.int k i)) (hu : P.underlying t = some (.slice e)) (hs : (P.info? e).map (·.size) = some sz) (hb : 0 ≤ i ∧ i < (len : Int)) (hq : off + i.toNat * sz = q := by (try simp only [Int.toNat_natCast, Nat.mul_one, Nat.zero_add, Nat.add_zero, Nat.zero_mul, Int.reduceToNat, Nat.reduceAdd, Nat.reduceMul, Nat.reduceSub, Nat.sub_zero]); rfl) : Rd ds P o n L (St ok w0 own fs) (.pointer (some ⟨b, q, none⟩)) := rd_ia hop hx hy hu hs hb hq
theorem Jb {len q : Nat} (hop : o.op = .indexAddr t x y) (hx : oper L x = some (.pointer (some ⟨b, off, none⟩))) (hy : oper L y = some (.int k i)) (hu : P.underlying t = some (.array len e)) (hs : (P.info? e).map (·.size) = some sz) (hb : 0 ≤ i ∧ i < (len : Int)) (hq : off + i.toNat * sz = q := by (try simp only [Int.toNat_natCast, Nat.mul_one, Nat.zero_add, Nat.add_zero, Nat.zero_mul, Int.reduceToNat, Nat.reduceAdd, Nat.reduceMul, Nat.reduceSub, Nat.sub_zero]); rfl) : Rd ds P o n L (St ok w0 own fs) (.pointer (some ⟨b, q, none⟩)) := rd_iaa hop hx hy hu hs hb hq
theorem Fa {f : Nat} {flds : Array Field} {fd : Field} {q : Nat} (hop : o.op = .fieldAddr t x f) (hx : oper L x = some (.pointer (some ⟨b, off, none⟩))) (hu : P.underlying t = some (.struct flds)) (hf : flds[f]? = some fd) (hq : off + fd.offset = q) (hs : ((P.info? fd.type).map (fun i => decide (0 < i.size))) = some true := by kernel_rfl) : Rd ds P o n L (St ok w0 own fs) (.pointer (some ⟨b, q, none⟩)) := rd_fa hop hx hu hf hs hq
abbrev Cw (f : FuncId) (args : Array Value) (w : World) (v : Value) : Prop := Calls Tryz.prog f args w fun e w' => e = .returned v ∧ Below w.heap.size w w'
theorem Oz (cs : List Value) (hop : o.op = .alloc t) (hz : (P.info? t).bind (·.zero) = some (.agg cs.toArray) := by kernel_rfl) : Og ds P o n L (St ok w0 own fs) (fun b : Nat => .pointer (some ⟨b, 0, none⟩)) (fun b => St ok w0 (⟨some b, cs, t⟩ :: own) fs) := og_alloc hop hz (by simp [Value.cells])
theorem cagg (l : List Value) : (Value.agg l.toArray).cells.toList = l := by simp [Value.cells]
theorem Oy {v : Value} {cs : List Value} (hop : o.op = .box t x) (hx : oper L x = some v) (hc : v.cells.toList = cs := by exact cagg _) : Og ds P o n L (St ok w0 own fs) (fun b : Nat => .pointer (some ⟨b, 0, none⟩)) (fun b => St ok w0 (⟨some b, cs, t⟩ :: own) fs) := og_box hop hx hc
theorem Ld {cs : List Value} {T : TypeId} {v : Value} {d : TypeDesc} (hop : o.op = .load t x) (hx : oper L x = some (.pointer (some ⟨b, off, none⟩))) (hk : InE own ⟨some b, cs, T⟩) (hu : P.underlying t = some d) (hd : isAggD d = false := by rfl) (hv : cs[off]? = some v := by rfl) : Rd ds P o n L (St ok w0 own fs) v := ld hop hx hk hu hd hv
theorem En {f n : Nat} {fn : Func} {c : Code} {args : Array Value} {w : World} {R : Ending → World → Prop} (fs : List Fact) (L : Slots) (hf : P.funcs[f]? = some fn) (hb : fn.body = some c) (hn : fn.ntmps = n) (ha : Nat.ble args.size n = true) (hL : ∀ k v, slot L k = some v → args[k]? = some v) (hF : ∀ x ∈ fs, x.holds (fun _ => True) w) (k : WC [] none P c (bodyPost P fn R) n L (St (fun _ => True) w [] fs)) : Calls P f args w R :=
  enter hf hb hn ha hL (St.start (fun _ _ => trivial) hF) k
theorem R1 {fn : Func} {r1 : Nat} {v1 : Value} {e : Ending} (hr : fn.results = [ResultVar.tmp r1].toArray) (h1 : slot L r1 = some v1) (h : Ending.returned (tup [v1]) = e) : WX [] (bodyPost P fn fun e' w' => e' = e ∧ Below w0.heap.size w0 w') .ret n L (St ok w0 own fs) := WX.retN hr (.tmp h1 .nil) fun _ hS => ⟨h, hS.below⟩
theorem R2 {fn : Func} {r1 r2 : Nat} {v1 v2 : Value} {e : Ending} (hr : fn.results = [ResultVar.tmp r1, ResultVar.tmp r2].toArray) (h1 : slot L r1 = some v1) (h2 : slot L r2 = some v2) (h : Ending.returned (tup [v1, v2]) = e) : WX [] (bodyPost P fn fun e' w' => e' = e ∧ Below w0.heap.size w0 w') .ret n L (St ok w0 own fs) := WX.retN hr (.tmp h1 (.tmp h2 .nil)) fun _ hS => ⟨h, hS.below⟩
theorem R3 {fn : Func} {r1 r2 r3 : Nat} {v1 v2 v3 : Value} {e : Ending} (hr : fn.results = [ResultVar.tmp r1, ResultVar.tmp r2, ResultVar.tmp r3].toArray) (h1 : slot L r1 = some v1) (h2 : slot L r2 = some v2) (h3 : slot L r3 = some v3) (h : Ending.returned (tup [v1, v2, v3]) = e) : WX [] (bodyPost P fn fun e' w' => e' = e ∧ Below w0.heap.size w0 w') .ret n L (St ok w0 own fs) := WX.retN hr (.tmp h1 (.tmp h2 (.tmp h3 .nil))) fun _ hS => ⟨h, hS.below⟩
theorem Sa {cs ys : List Value} {T : TypeId} {C : Ent → List Ent} (hop : o.op = .store t x y) (hx : oper L x = some (.pointer (some ⟨b, 0, none⟩))) (hy : oper L y = some (.agg ys.toArray)) (hk : Ctx own ⟨some b, cs, T⟩ C) (hs : (P.info? t).map (·.size) = some ys.length := by kernel_rfl) (h1 : ∀ v ∈ ys, v.oneCell' = true := by simp [Value.oneCell']) (hl : ys.length = cs.length := by first | rfl | simp) : Og ds P o n L (St ok w0 own fs) (fun _ : Unit => undef) (fun _ => St ok w0 (C ⟨some b, ys, T⟩) fs) := sta hop hx hy hk hs h1 hl
theorem Ku {ops rest : List Oper} {Q : Exit → Act → World → Prop} {d : Nat} {v : Value} {S1 S2 : World → Prop} (h : (wantO ops L o, o.dst, Nat.blt d n) = (some true, some d, true)) (hr : Og ds P o n L S1 (fun _ : Unit => v) (fun _ => S2)) (k : WL ds P ops Q n rest ((d, v) :: L) S2) : WL ds P ops Q n (o :: rest) L S1 := Kh h hr fun _ => k
theorem Nu {ops rest : List Oper} {Q : Exit → Act → World → Prop} {v : Value} {S1 S2 : World → Prop} (h : wantO ops L o = some true) (hd : o.dst = none) (hr : Og ds P o n L S1 (fun _ : Unit => v) (fun _ => S2)) (k : WL ds P ops Q n rest L S2) : WL ds P ops Q n (o :: rest) L S1 := WL.g0 h hd hr fun _ => k
theorem Oc {γ : Type} {val : γ → Value} {Z' : γ → World → Prop} {f : FuncId} {as0 : List Operand} {tys : Array TypeId} {args : List Value} (hop : o.op = .call { callee := .value (.func f), args := as0.toArray, argTypes := tys }) (hargs : argsOf L as0 = some args)
    (h : ∀ w, Z w → Calls P f args.toArray w (fun e w' => ∃ g, e = .returned (val g) ∧ Z' g w')) (hg : goes P f = true := by kernel_rfl) : Og ds P o n L Z val Z' := og_call hop hargs hg h
end
theorem u2 : type_of% Tryz.underlying2 := Tryz.underlying2
theorem u3 : type_of% Tryz.underlying3 := Tryz.underlying3
theorem u4 : type_of% Tryz.underlying4 := Tryz.underlying4
theorem u5 : type_of% Tryz.underlying5 := Tryz.underlying5
theorem u9 : type_of% Tryz.underlying9 := Tryz.underlying9
theorem u22 : type_of% Tryz.underlying22 := Tryz.underlying22
theorem u24 : type_of% Tryz.underlying24 := Tryz.underlying24
theorem u26 : type_of% Tryz.underlying26 := Tryz.underlying26
theorem u49 : type_of% Tryz.underlying49 := Tryz.underlying49
theorem u56 : type_of% Tryz.underlying56 := Tryz.underlying56
theorem u61 : type_of% Tryz.underlying61 := Tryz.underlying61
theorem u62 : type_of% Tryz.underlying62 := Tryz.underlying62
theorem u64 : type_of% Tryz.underlying64 := Tryz.underlying64
theorem u66 : type_of% Tryz.underlying66 := Tryz.underlying66
theorem u83 : type_of% Tryz.underlying83 := Tryz.underlying83
theorem u122 : type_of% Tryz.underlying122 := Tryz.underlying122
theorem u124 : type_of% Tryz.underlying124 := Tryz.underlying124
theorem u125 : type_of% Tryz.underlying125 := Tryz.underlying125
theorem u128 : type_of% Tryz.underlying128 := Tryz.underlying128
theorem u139 : type_of% Tryz.underlying139 := Tryz.underlying139
theorem u149 : type_of% Tryz.underlying149 := Tryz.underlying149
theorem u167 : type_of% Tryz.underlying167 := Tryz.underlying167
theorem u171 : type_of% Tryz.underlying171 := Tryz.underlying171
theorem u184 : type_of% Tryz.underlying184 := Tryz.underlying184
theorem u185 : type_of% Tryz.underlying185 := Tryz.underlying185
def Fact.lp (l : Nat) (r : Loop) : Fact where
 holds ok w := ok l ∧ w.heap[l]? = some (.loop r)
 mono h := fun hh => ⟨h _ hh.1, hh.2⟩
 stable := fun hh _ hk => ⟨hh.1, by rw [hk l (Array.getElem?_eq_some_iff.1 hh.2).1 hh.1]; exact hh.2⟩
 here := fun hh => ⟨⟨hh.1, (Array.getElem?_eq_some_iff.1 hh.2).1⟩, hh.2⟩
def Fact.dfr (D : Nat) : Fact where
 holds ok w := ok D ∧ w.heap[D]? = some (.deferred (some []))
 mono h := fun hh => ⟨h _ hh.1, hh.2⟩
 stable := fun hh _ hk => ⟨hh.1, by rw [hk D (Array.getElem?_eq_some_iff.1 hh.2).1 hh.1]; exact hh.2⟩
 here := fun hh => ⟨⟨hh.1, (Array.getElem?_eq_some_iff.1 hh.2).1⟩, hh.2⟩
class FL (f : Fact) : Prop where
 h : ∀ {ok : Nat → Prop} {w : World} {l : Nat} {r : Loop} (r' : Loop), f.holds ok w → w.heap[l]? = some (.loop r) → f.holds ok (w.putObj l (.loop r'))
class FD (f : Fact) : Prop where
 h : ∀ {ok : Nat → Prop} {w : World} {D : Nat} {ds : Option (List Deferred)} (ds' : Option (List Deferred)), f.holds ok w → w.heap[D]? = some (.deferred ds) → f.holds ok (w.putObj D (.deferred ds'))
theorem sl_other {a : Option Addr} {xs : List Value} {ok : Nat → Prop} {w : World} {k : Nat} {o : Obj} (o' : Obj) (h : (Fact.sl a xs).holds ok w) (hk : w.heap[k]? = some o) (hn : ∀ cs T fz, o ≠ .cells cs T fz) : (Fact.sl a xs).holds ok (w.putObj k o') := by
 rcases h with h | ⟨b, off, cs, T, fz, h1, h2, h3, h4⟩
 ·exact .inl h
 ·refine .inr ⟨b, off, cs, T, fz, h1, h2, ?_, h4⟩
  rw [World.putObj_heap_other]
  ·exact h3
  ·intro e; subst e; rw [h3] at hk; cases hk; exact hn _ _ _ rfl
instance (a : Option Addr) (xs : List Value) : FL (Fact.sl a xs) := ⟨fun _ h hl => sl_other _ h hl (fun _ _ _ e => by cases e)⟩
instance (a : Option Addr) (xs : List Value) : FD (Fact.sl a xs) := ⟨fun _ h hl => sl_other _ h hl (fun _ _ _ e => by cases e)⟩
instance (D : Nat) : FL (Fact.dfr D) := ⟨fun {ok w l r} r' h hl => ⟨h.1, by rw [World.putObj_heap_other (by intro e; subst e; rw [h.2] at hl; cases hl)]; exact h.2⟩⟩
instance (l : Nat) (r : Loop) : FD (Fact.lp l r) := ⟨fun {ok w D ds} ds' h hl => ⟨h.1, by rw [World.putObj_heap_other (by intro e; subst e; rw [h.2] at hl; cases hl)]; exact h.2⟩⟩
class FLs (fs : List Fact) : Prop where
 h : ∀ f ∈ fs, FL f
class FDs (fs : List Fact) : Prop where
 h : ∀ f ∈ fs, FD f
instance : FLs [] := ⟨fun _ h => by cases h⟩
instance : FDs [] := ⟨fun _ h => by cases h⟩
instance (f : Fact) (fs : List Fact) [h1 : FL f] [h2 : FLs fs] : FLs (f :: fs) := ⟨fun g hg => (List.mem_cons.1 hg).elim (fun e => e ▸ h1) (h2.h g)⟩
instance (f : Fact) (fs : List Fact) [h1 : FD f] [h2 : FDs fs] : FDs (f :: fs) := ⟨fun g hg => (List.mem_cons.1 hg).elim (fun e => e ▸ h1) (h2.h g)⟩
section
variable {ok : Nat → Prop} {w0 w : World} {own : List Ent} {fs : List Fact}
theorem below_put {l : Nat} {o : Obj} (h : Below w0.heap.size w0 w) (hl : w0.heap.size ≤ l) : Below w0.heap.size w0 (w.putObj l o) :=
 ⟨h.os, h.tape, h.output, by simpa using h.size, fun b hb => by rw [World.putObj_heap_other (by omega)]; exact h.block b hb⟩
theorem own_put {l : Nat} {o o' : Obj} (h : St ok w0 own fs w) (hk : w.heap[l]? = some o) (hn : ∀ cs T fz, o ≠ .cells cs T fz) : ∀ x ∈ own, x.holds w0.heap.size (w.putObj l o') := fun x hx =>
 Ent.holds_same (h.own_ x hx) fun b hb => World.putObj_heap_other (fun e => by
  have := h.own_ x hx
  unfold Ent.holds at this
  rw [hb] at this
  subst e
  rw [this.2] at hk; cases hk; exact hn _ _ _ rfl)
theorem St.fact_head {f : Fact} (h : St ok w0 own (f :: fs) w) : f.holds (fun b => ok b ∧ b ∉ ids own) w := h.fact f (by simp)
theorem St.setLoop {l : Nat} {r : Loop} (r' : Loop) [hf : FLs fs] (hl : w0.heap.size ≤ l) (h : St ok w0 own (Fact.lp l r :: fs) w) : St ok w0 own (Fact.lp l r' :: fs) (w.putObj l (.loop r')) := by
 have h0 := h.fact_head
 refine ⟨h.okn, below_put h.below hl, own_put h h0.2 (fun _ _ _ e => by cases e), h.nd, fun f hfm => ?_⟩
 rcases List.mem_cons.1 hfm with rfl | hfm
 ·exact ⟨h0.1, World.putObj_heap_same (Array.getElem?_eq_some_iff.1 h0.2).1⟩
 ·exact (hf.h f hfm).h r' (h.fact f (by simp [hfm])) h0.2
theorem St.shutD {D : Nat} [hf : FDs fs] (hl : w0.heap.size ≤ D) (h : St ok w0 own (Fact.dfr D :: fs) w) : St ok w0 own fs (w.putObj D (.deferred none)) := by
 have h0 := h.fact_head
 exact ⟨h.okn, below_put h.below hl, own_put h h0.2 (fun _ _ _ e => by cases e), h.nd, fun f hfm => (hf.h f hfm).h none (h.fact f (by simp [hfm])) h0.2⟩
theorem St.allocObj (h : St ok w0 own fs w) (o : Obj) : St ok w0 own fs (w.alloc o) := by
 refine ⟨h.okn, h.below.alloc h.below.size _, fun x hx => Ent.holds_same (h.own_ x hx) fun b hxb => heap_push_old w _ b (h.lt (mem_ids hx hxb)).2, h.nd, fun f hf => ?_⟩
 exact f.stable (h.fact f hf) (by simp) fun b hlt _ => heap_push_old w _ b hlt
theorem St.enterLoop (h : St ok w0 own fs w) (r : Loop) : St ok w0 own (Fact.lp (w.heap.size + 1) r :: Fact.dfr w.heap.size :: fs) ((w.alloc (.deferred (some []))).alloc (.loop r)) := by
 have h1 := (h.allocObj (.deferred (some []))).allocObj (.loop r)
 have hlt : ∀ b, w.heap.size ≤ b → ok b ∧ b ∉ ids own := fun b hb => h.fresh b hb
 refine (h1.addF (f := Fact.dfr w.heap.size) ⟨hlt _ (Nat.le_refl _), ?_⟩).addF ⟨hlt _ (Nat.le_succ _), ?_⟩
 ·exact (Below.heap_alloc _ _ _ (by simp)).trans (World.alloc_heap_new w _)
 ·have := World.alloc_heap_new (w.alloc (.deferred (some []))) (.loop r); rwa [World.size_alloc] at this
end
abbrev rcd (r : Loop) (c : Option Code) : Loop := { r with state := if c.isNone then .ready else .done, pending := c }
section
variable {P : Program} {ok : Nat → Prop} {w0 : World} {own : List Ent} {fs : List Fact} {n l : Nat} {L : Slots} {r : Loop} {R : Ending → World → Prop} {body : Code}
def AfterA (P : Program) (l : Nat) (body : Code) (R : Ending → World → Prop) (a : Act) (w : World) : Prop := ∃ w2, (Instr.beginRound l).run P w = .ok () w2 ∧ cdX (some l) P body (roundPost P l R) a w2
theorem WX.begin [FLs fs] (hl : w0.heap.size ≤ l) (k : WC [] (some l) P body (roundPost P l R) n L (St ok w0 own (Fact.lp l { rcd r none with state := .busy } :: fs))) :
  WX [] (Exit.then (AfterA P l body R) (fun _ _ _ => False)) .normal n L (St ok w0 own (Fact.lp l (rcd r none) :: fs)) := fun a w hF hS =>
 ⟨_, run_beginRound hS.fact_head.2 rfl, k a _ hF (hS.setLoop _ hl)⟩
theorem WX.rnext [FLs fs] {ds : List Deferred} (hl : w0.heap.size ≤ l) (h : ∀ w, St ok w0 own (Fact.lp l (rcd r none) :: fs) w → R (.returned (.bool true)) w) : WX ds (roundPost P l R) .normal n L (St ok w0 own (Fact.lp l { rcd r none with state := .busy } :: fs)) := fun a w hF hS =>
 ⟨_, _, run_endRound none hS.fact_head.2, h _ (hS.setLoop _ hl)⟩
theorem round_of {f : FuncId} {assign : Code} {tmps : Array Value} {w : World} (hF : Fr [] { tmps := tmps, defers := [] } n L) (hS : St ok w0 own fs w) (k : WC [] (some l) P assign (Exit.then (AfterA P l body R) (fun _ _ _ => False)) n L (St ok w0 own fs)) :
  RoundIn Fence.wide 0 P l f tmps assign body w R := roundIn_of_wpIn (F := Fence.wide) trivial (k _ w hF hS)
end
def YOk {σ γ α : Type} (P : Program) (l : Nat) (r : Loop) (ok : Nat → Prop) (w0 : World) (fs : List Fact) (CO : σ → γ → List Ent) (pg : σ → γ → Prop) (inv : σ → α → Prop) (after : σ → α → σ) (stop : σ → α → Option Code) (enc : α → Array Value) : Prop :=
 ∀ (s : σ) (g : γ) (x : α) (ext : List Ent) (w : World), inv s x → pg s g → St ok w0 (ext ++ CO s g) (Fact.lp l (rcd r none) :: fs) w → ∃ f tmps assign body, (Instr.yield l (enc x)).run P w = .ok (.round l f tmps assign body) w ∧
  RoundIn Fence.wide 0 P l f tmps assign body w (fun e w' => e = .returned (.bool (stop s x).isNone) ∧ ∃ g', (stop s x = none → pg (after s x) g') ∧ St ok w0 (ext ++ CO (after s x) g') (Fact.lp l (rcd r (stop s x)) :: fs) w')
section
variable {ds : List Deferred} {P : Program} {o : Oper} {n : Nat} {L : Slots} {ok : Nat → Prop} {w0 : World} {fs : List Fact} {σ γ α : Type} {l : Nat} {r : Loop} {CO : σ → γ → List Ent} {pg : σ → γ → Prop} {inv : σ → α → Prop} {after : σ → α → σ} {stop : σ → α → Option Code} {enc : α → Array Value}
theorem og_yield {c : Operand} {as0 : List Operand} {tys : Array TypeId} {args : List Value} {s : σ} {g : γ} (hY : YOk P l r ok w0 fs CO pg inv after stop enc) (ext : List Ent) (x : α) (hop : o.op = .call { callee := .value c, args := as0.toArray, argTypes := tys }) (hc : oper L c = some (.func (.yield l) #[] #[])) (hargs : argsOf L as0 = some args) (hx : args.toArray = enc x) (hi : inv s x) (hg : pg s g) :
  Og ds P o n L (St ok w0 (ext ++ CO s g) (Fact.lp l (rcd r none) :: fs)) (fun _ : γ => .bool (stop s x).isNone) (fun g' w => (stop s x = none → pg (after s x) g') ∧ St ok w0 (ext ++ CO (after s x) g') (Fact.lp l (rcd r (stop s x)) :: fs) w) := by
 intro a w hF hS
 obtain ⟨f, tmps, assign, body, hy, hr⟩ := hY s g x ext w hi hg hS
 unfold opX
 have e1 : (execOp a.eval o).run P w = .ok (.round l f tmps assign body) w := by
  have ha := argsOf_eval hF hargs
  simp only [execOp, hop, resolve, hF.eval hc, Deferred.ofValue, invoke]
  simp [ha, hx, hy]
 rw [e1]
 refine ⟨fun h => absurd h (by decide), RoundIn.mono hr fun e w' hh => ?_⟩
 obtain ⟨rfl, g', hg', hS'⟩ := hh
 exact ⟨_, rfl, g', rfl, hg', hS'⟩
end
abbrev mark (D : Nat) : Deferred := { target := .collected D, args := #[] }
section
variable {P : Program} {ok : Nat → Prop} {w0 : World} {own : List Ent} {fs : List Fact} {n : Nat} {L : Slots} {Q : Exit → Act → World → Prop} {σ γ α : Type} {CO : σ → γ → List Ent} {pg : σ → γ → Prop} {inv : σ → α → Prop} {after : σ → α → σ} {stop : σ → α → Option Code} {enc : α → Array Value}
theorem WC.range [hfl : FLs fs] {g : Operand} {gf : FuncId} {lb : Array Value} {ps : Array Tmp} {assign body : Code} (s0 : σ) (g0 : γ) (sf : σ) (cf : Option Code) (hg0 : pg s0 g0) (hg : oper L g = some (.func (.func gf) #[] lb)) (hgo : goes P gf = true) (hps : ∀ x, (enc x).size = ps.size)
  (hS : ∀ w, St ok w0 own fs w → St ok w0 (CO s0 g0) fs w)
  (round : ∀ (l : Nat) (r : Loop) (D : Nat) (f : FuncId) (a : Act) (s : σ) (g : γ) (x : α) (ext : List Ent) (w : World), w0.heap.size ≤ l → inv s x → pg s g → Fr [] a n L → St ok w0 (ext ++ CO s g) (Fact.lp l (rcd r none) :: Fact.dfr D :: fs) w →
   RoundIn Fence.wide 0 P l f ((ps.zip (enc x)).foldl (fun tmps (t, a) => tmps.setIfInBounds t a) a.tmps) assign body w (fun e w' => e = .returned (.bool (stop s x).isNone) ∧ ∃ g', (stop s x = none → pg (after s x) g') ∧ St ok w0 (ext ++ CO (after s x) g') (Fact.lp l (rcd r (stop s x)) :: Fact.dfr D :: fs) w'))
  (iter : ∀ (l : Nat) (r : Loop) (D : Nat) (w : World), w0.heap.size ≤ l → YOk P l r ok w0 (Fact.dfr D :: fs) CO pg inv after stop enc → St ok w0 (CO s0 g0) (Fact.lp l (rcd r none) :: Fact.dfr D :: fs) w →
   Calls P gf (#[.func (.yield l) #[] #[]] ++ lb) w (fun e w' => (∃ v, e = .returned v) ∧ ∃ g', (cf = none → pg sf g') ∧ St ok w0 (CO sf g') (Fact.lp l (rcd r cf) :: Fact.dfr D :: fs) w'))
  (done : ∀ D g', w0.heap.size ≤ D → pg sf g' → cf = none → WX [mark D] Q .normal n L (St ok w0 (CO sf g') (Fact.dfr D :: fs)))
  (left : ∀ D g' c, w0.heap.size ≤ D → cf = some c → WC [mark D] none P c Q n L (St ok w0 (CO sf g') (Fact.dfr D :: fs))) :
  WC [] none P (.rangeFunc g ps assign body) Q n L (St ok w0 own fs) := by
 intro a w hF hSt
 refine wpIn_rangeFunc (F := wd none) fun fn _ => ?_
 have hst := hS w hSt
 let r : Loop := { state := .ready, pending := none, fn, tmps := a.tmps, params := ps, assign, body, defers := w.heap.size }
 have hr : rcd r none = r := rfl
 have h1 := hst.enterLoop r
 have hsz : w0.heap.size ≤ w.heap.size := hst.below.size
 have hY : YOk P (w.heap.size + 1) r ok w0 (Fact.dfr w.heap.size :: fs) CO pg inv after stop enc := by
  intro s g x ext w' hi hpg hS'
  exact ⟨_, _, _, _, run_yield hS'.fact_head.2 (hps x), round (w.heap.size + 1) r w.heap.size fn a s g x ext w' (by omega) hi hpg hF hS'⟩
 obtain ⟨W1, hW1⟩ : ∃ W1, W1 = (w.alloc (.deferred (some []))).alloc (.loop r) := ⟨_, rfl⟩
 rw [← hW1] at h1
 refine ⟨w.heap.size + 1, [mark w.heap.size], W1, { target := .fn (.func gf) lb, args := #[.func (.yield (w.heap.size + 1)) #[] #[]] }, W1, gf, #[.func (.yield (w.heap.size + 1)) #[] #[]] ++ lb, W1, by rw [hW1]; exact run_enterLoop_outer _ _ _ _ _, ?_, fun _ _ => trivial, ?_, fun h => absurd h (by decide), ?_⟩
 ·simp only [resolve, hF.eval hg]
  simp [go_sem, r, Deferred.ofValue, Act.eval]
 ·simp [invoke, run_callFunc hgo]
 ·refine callsIn_wide.2 ((iter (w.heap.size + 1) r w.heap.size _ (by omega) hY h1).mono fun e w' hh => ?_)
  obtain ⟨⟨v, rfl⟩, g', hg', hS'⟩ := hh
  have hF' : Fr [mark w.heap.size] { a with defers := [mark w.heap.size] ++ a.defers } n L := ⟨hF.size, by simp [hF.defers], hF.at_⟩
  refine ⟨cf, _, run_endLoop hS'.fact_head.2 (by cases cf <;> simp [rcd]), ?_⟩
  have hS'' := (hS'.setLoop { rcd r cf with state := .exhausted } (by omega)).dropF
  cases cf with
  | none => exact done w.heap.size g' hsz (hg' rfl) rfl _ _ hF' hS''
  | some c => exact left w.heap.size g' c hsz rfl _ _ hF' hS''
end
theorem Fr.tm {ds : List Deferred} {a : Act} {n : Nat} {L : Slots} (h : Fr ds a n L) : Fr [] { tmps := a.tmps, defers := [] } n L := ⟨h.size, rfl, h.at_⟩
theorem fold1 (p : Tmp) (v : Value) (t : Array Value) : (#[p].zip #[v]).foldl (fun tmps (t, a) => tmps.setIfInBounds t a) t = t.setIfInBounds p v := by simp
class HasD (fs : List Fact) (D : Nat) : Prop where
 h : Fact.dfr D ∈ fs
instance (priority := high) (D : Nat) (fs : List Fact) : HasD (Fact.dfr D :: fs) D := ⟨by simp⟩
instance (D : Nat) (f : Fact) (fs : List Fact) [h : HasD fs D] : HasD (f :: fs) D := ⟨by simp [h.h]⟩
section
variable {P : Program} {fn : Func} {f : FuncId} {c : Code} {R : Ending → World → Prop} {n : Nat} {L : Slots} {S : World → Prop} {ok : Nat → Prop} {w0 : World} {own : List Ent} {fs : List Fact}
theorem enterM {args : Array Value} {w : World} (hf : P.funcs[f]? = some fn) (hb : fn.body = some c) (hn : fn.ntmps = n) (ha : Nat.ble args.size n = true) (hL : ∀ k v, slot L k = some v → args[k]? = some v) (hS : S w) (k : WC [] none P c (bodyPostM Fence.wide 0 P fn R) n L S) : Calls P f args w R := by
 refine callsIn_wide.1 (callsIn_of_wp_marks (F := Fence.wide) (n := 0) hf hb trivial (k _ w (Fr.enter ?_ hL) hS))
 have := Nat.le_of_ble_eq_true ha
 omega
theorem retM_run {ds : List Deferred} {a : Act} {w : World} {rs : List ResultVar} {vs : List Value} (hr : fn.results = rs.toArray) (hv : RetV P L own rs vs) (hF : Fr ds a n L) (hS : St ok w0 own fs w) : (results fn a.tmps).run P w = .ok (tup vs) w := by
 have hm := retV_run hF.tm hS hv
 rw [results_eq, hr, List.mapM_toArray]
 simp only [Sem.run_bind, map_eq_pure_bind, hm, Result.andThen, Sem.run_pure]
 match vs with
 | [] => rfl
 | [v] => rfl
 | v :: u :: r => simp [tup]
theorem WX.retM0 {rs : List ResultVar} {vs : List Value} (hr : fn.results = rs.toArray) (hv : RetV P L own rs vs) (h : ∀ w, St ok w0 own fs w → R (.returned (tup vs)) w) : WX [] (bodyPostM Fence.wide 0 P fn R) .ret n L (St ok w0 own fs) := fun a w hF hS => by
 show LeavesInM Fence.wide 0 P fn a.tmps R a.defers .returning w
 rw [hF.defers]
 exact ⟨tup vs, retM_run hr hv hF hS, h w hS⟩
theorem WX.retM1 {D : Nat} [hd : HasD fs D] {rs : List ResultVar} {vs : List Value} (hD : w0.heap.size ≤ D) (hr : fn.results = rs.toArray) (hv : RetV P L own rs vs) (h : ∀ w, St ok w0 own [] w → R (.returned (tup vs)) w) : WX [mark D] (bodyPostM Fence.wide 0 P fn R) .ret n L (St ok w0 own fs) := fun a w hF hS => by
 show LeavesInM Fence.wide 0 P fn a.tmps R a.defers .returning w
 rw [hF.defers]
 have hS1 : St ok w0 own [Fact.dfr D] w := hS.sub (List.Sublist.refl _) (fun f hf => by simp at hf; subst hf; exact hd.h)
 have hS2 := hS1.shutD hD
 exact ⟨by simp, .inl ⟨D, _, rfl, run_takeDeferred hS1.fact_head.2, tup vs, retM_run hr hv hF hS2, h _ hS2⟩⟩
end
section
variable {ds : List Deferred} {ρ : Option Nat} {P : Program} {c : Code} {Q : Exit → Act → World → Prop} {n : Nat} {L : Slots} {S : World → Prop}
theorem WC.scope (k : WC ds none P c (Exit.noGoto Q) n L S) : WC ds none P (.scope c) Q n L S := fun a w hF hS => wpIn_wide.2 (wp_scope_straight (wpIn_wide.1 (k a w hF hS)))
theorem WC.label {l : Nat} (k : WX ds Q .normal n L S) : WC ds ρ P (.label l) Q n L S := fun a w hF hS => wpIn_label (k a w hF hS)
theorem WX.scope_ret (k : WX ds Q .ret n L S) : WX ds (Exit.noGoto Q) .ret n L S := k
end
section
variable {ds : List Deferred} {P : Program} {ops : List Oper} {Q : Exit → Act → World → Prop} {n : Nat} {l : List Oper} {L : Slots} {ok : Nat → Prop} {w0 : World} {own : List Ent} {fs : List Fact} {e : Ent}
theorem WL.app0 (k : WL ds P ops Q n l L (St ok w0 own fs)) : WL ds P ops Q n l L (St ok w0 ([] ++ own) fs) := k
end
abbrev Bs := List UInt8
abbrev strs (l : List Bs) : List Value := l.map fun s => .string (S s)
theorem wrap64n (n : Nat) (h : n < 9223372036854775808) : IntKind.i64.wrap (n : Int) = (n : Int) := by
 rw [IntKind.wrap_i64]; omega
theorem byte_of (k : Nat) : IntKind.u8.wrap (k : Int) = ((UInt8.ofNat k).toNat : Int) := by
 rw [IntKind.wrap_u8, UInt8.toNat_ofNat']; norm_cast
section
variable {ds : List Deferred} {P : Program} {o : Oper} {n : Nat} {L : Slots} {Z : World → Prop} {x y : Operand} {t : TypeId} {k : IntKind} {i : Int}
theorem bs_getD (l : Bs) (i : Nat) (h : i < l.length) : l[i]? = some (l.getD i default) := by
 rw [List.getD_eq_getElem?_getD, List.getElem?_eq_getElem h]; rfl
theorem rd_sidxD {a : List UInt8} (hop : o.op = .index t x y) (hx : oper L x = some (.string (S a))) (hy : oper L y = some (.int k i)) (h1 : P.underlying t = some .string) (h0 : 0 ≤ i ∧ i.toNat < a.length) : Rd ds P o n L Z (.int .u8 ((a.getD i.toNat default).toNat : Int)) :=
 rd_sidx hop hx hy h1 h0.1 (bs_getD _ _ h0.2)
end
theorem dig10 : ∀ n, n < 10 → (([48, 49, 50, 51, 52, 53, 54, 55, 56, 57] : Bs).drop n).take 1 = [UInt8.ofNat (48 + n)] := by decide
theorem dec_big {n : Nat} (h : ¬ n < 10) : Lib.decDigits n = Lib.decDigits (n / 10) ++ [UInt8.ofNat (48 + n % 10)] := by rw [Lib.decDigits, dif_neg h]
theorem dec_small {n : Nat} (h : n < 10) : Lib.decDigits n = [UInt8.ofNat (48 + n)] := by rw [Lib.decDigits, dif_pos h]
theorem dec_len20 : ∀ (k n : Nat), n < 10 ^ (k + 1) → (Lib.decDigits n).length ≤ k + 1
 | 0, n, h => by rw [dec_small (by simpa using h)]; simp
 | k + 1, n, h => by
  by_cases h' : n < 10
  ·rw [dec_small h']; simp
  ·rw [dec_big h', List.length_append]
   have := dec_len20 k (n / 10) (by rw [Nat.pow_succ] at h; omega)
   simp; omega
abbrev Tab (w : World) : Prop := Lib.TabIs Tryz.prog w "internal/strconv.uint64pow10" .u64 Lib.pow10Tab
theorem tab_below {w w' : World} (h : Tab w) (hb : Below w.heap.size w w') : Tab w' := by
 have h' : w.var? Tryz.prog "internal/strconv.uint64pow10" = some (Lib.pow10Tab.map fun z => Value.int .u64 z).toArray := h
 show w'.var? Tryz.prog "internal/strconv.uint64pow10" = _
 unfold World.var? at h' ⊢
 cases hg : Tryz.prog.globalNamed "internal/strconv.uint64pow10" with
 | none => rw [hg] at h'; cases h'
 | some g =>
  rw [hg] at h'
  simp only [Option.bind_some] at h' ⊢
  have hlt : g < w.heap.size := by
   rcases Nat.lt_or_ge g w.heap.size with q | q
   ·exact q
   ·rw [Array.getElem?_eq_none q] at h'; cases h'
  rw [hb.block g hlt]; exact h'
theorem tab_st {ok : Nat → Prop} {w0 w : World} {own : List Ent} {fs : List Fact} (h : Tab w0) (hS : St ok w0 own fs w) : Tab w := tab_below h hS.below
theorem grow_below (w : World) (k : Nat) (os : Array Obj) : Below w.heap.size w (Sort.grow (w.drewN k) os) := by
 have hh : (Sort.grow (w.drewN k) os).heap = w.heap ++ os := rfl
 refine ⟨rfl, rfl, rfl, by rw [hh]; simp, fun q hq => ?_⟩
 rw [hh, Array.getElem?_append_left hq]
theorem itoa_c {n : Nat} {w : World} (hn : n ≤ 9223372036854775807) (hT : Tab w) :
  Cw 74 #[.int .i64 (n : Int)] w (.string (S (Lib.decDigits n))) :=
 (itoa_any n (by omega) (by omega) w hT).mono fun _ _ ⟨h1, k, os, h2⟩ => ⟨by rw [h1, Lib.itoa, if_neg (by omega), Int.toNat_natCast]; rfl, by rw [h2]; exact grow_below w k os⟩
end Go.Proofs.YtddoigmffkmpcaaGreatDoor
namespace Go.Proofs.YtddoigmffkmpcaaGreatDoor
set_option linter.unusedSimpArgs false
set_option linter.unusedVariables false
set_option maxRecDepth 20000
abbrev W := BitVec 32
def rr (x : W) (n : Nat) : W := x >>> n ||| x <<< (32 - n)
def u32 (x : W) : Value := .int .u32 (x.toNat : Int)
def s0 (x : W) : W := (rr x 7 ^^^ rr x 18) ^^^ x >>> 3
def s1 (y : W) : W := (rr y 17 ^^^ rr y 19) ^^^ y >>> 10
def word (a b c d : UInt8) : W := BitVec.ofNat 32 (a.toNat * 16777216 + b.toNat * 65536 + c.toNat * 256 + d.toNat)
def words : List UInt8 → List W
 | a :: b :: c :: d :: r => word a b c d :: words r
 | _ => []
def nextW (w : List W) : W := ((w.getD (w.length - 16) 0 + s0 (w.getD (w.length - 15) 0)) + w.getD (w.length - 7) 0) + s1 (w.getD (w.length - 2) 0)
def sched : Nat → List W → List W
 | 0, w => w
 | n + 1, w => sched n w ++ [nextW (sched n w)]
def tt (e f g h k w : W) : W := (((h + ((rr e 6 ^^^ rr e 11) ^^^ rr e 25)) + ((e &&& f) ^^^ (~~~e &&& g))) + k) + w
def uu (a b c : W) : W := ((rr a 2 ^^^ rr a 13) ^^^ rr a 22) + (((a &&& b) ^^^ (a &&& c)) ^^^ (b &&& c))
def rnd (k w : W) : List W → List W
 | [a, b, c, d, e, f, g, h] => [tt e f g h k w + uu a b c, a, b, c, d + tt e f g h k w, e, f, g]
 | l => l
def rounds (ks ws : List W) : Nat → List W → List W
 | 0, x => x
 | n + 1, x => rnd (ks.getD n 0) (ws.getD n 0) (rounds ks ws n x)
def KK : List W := [0x428a2f98#32, 0x71374491#32, 0xb5c0fbcf#32, 0xe9b5dba5#32, 0x3956c25b#32, 0x59f111f1#32, 0x923f82a4#32, 0xab1c5ed5#32,
 0xd807aa98#32, 0x12835b01#32, 0x243185be#32, 0x550c7dc3#32, 0x72be5d74#32, 0x80deb1fe#32, 0x9bdc06a7#32, 0xc19bf174#32,
 0xe49b69c1#32, 0xefbe4786#32, 0x0fc19dc6#32, 0x240ca1cc#32, 0x2de92c6f#32, 0x4a7484aa#32, 0x5cb0a9dc#32, 0x76f988da#32,
 0x983e5152#32, 0xa831c66d#32, 0xb00327c8#32, 0xbf597fc7#32, 0xc6e00bf3#32, 0xd5a79147#32, 0x06ca6351#32, 0x14292967#32,
 0x27b70a85#32, 0x2e1b2138#32, 0x4d2c6dfc#32, 0x53380d13#32, 0x650a7354#32, 0x766a0abb#32, 0x81c2c92e#32, 0x92722c85#32,
 0xa2bfe8a1#32, 0xa81a664b#32, 0xc24b8b70#32, 0xc76c51a3#32, 0xd192e819#32, 0xd6990624#32, 0xf40e3585#32, 0x106aa070#32,
 0x19a4c116#32, 0x1e376c08#32, 0x2748774c#32, 0x34b0bcb5#32, 0x391c0cb3#32, 0x4ed8aa4a#32, 0x5b9cca4f#32, 0x682e6ff3#32,
 0x748f82ee#32, 0x78a5636f#32, 0x84c87814#32, 0x8cc70208#32, 0x90befffa#32, 0xa4506ceb#32, 0xbef9a3f7#32, 0xc67178f2#32]
def H0 : List W := [0x6a09e667#32, 0xbb67ae85#32, 0x3c6ef372#32, 0xa54ff53a#32, 0x510e527f#32, 0x9b05688c#32, 0x1f83d9ab#32, 0x5be0cd19#32]
def addW : List W → List W → List W
 | a :: x, b :: y => (a + b) :: addW x y
 | _, _ => []
def compress (x : List W) (blk : List UInt8) : List W := addW (rounds KK (sched 48 (words blk)) 64 x) x
def chunks : Nat → List W → List UInt8 → List W
 | 0, x, _ => x
 | n + 1, x, m => chunks n (compress x (m.take 64)) (m.drop 64)
def byteAt (n i : Nat) : UInt8 := UInt8.ofNat (n / 2 ^ (8 * i) % 256)
def len8 (n : Nat) : List UInt8 := [byteAt n 7, byteAt n 6, byteAt n 5, byteAt n 4, byteAt n 3, byteAt n 2, byteAt n 1, byteAt n 0]
def zeros (n : Nat) : Nat := (119 - n % 64) % 64
def pad (s : List UInt8) : List UInt8 := s ++ [128] ++ List.replicate (zeros s.length) 0 ++ len8 (8 * s.length)
def bytes4 (x : W) : List UInt8 := [byteAt x.toNat 3, byteAt x.toNat 2, byteAt x.toNat 1, byteAt x.toNat 0]
def outW (x : List W) : List UInt8 := x.flatMap bytes4
def sha (s : List UInt8) : List UInt8 := outW (chunks ((pad s).length / 64) H0 (pad s))
theorem wrap_W (n : Nat) : IntKind.u32.wrap (n : Int) = ((BitVec.ofNat 32 n).toNat : Int) := by
 rw [IntKind.wrap_u32]; simp [BitVec.toNat_ofNat]
theorem add_W (x y : W) : IntKind.u32.wrap ((x.toNat : Int) + (y.toNat : Int)) = ((x + y).toNat : Int) := by
 rw [IntKind.wrap_u32, BitVec.toNat_add]; omega
theorem ofInt_W (x : W) : BitVec.ofInt 32 (x.toNat : Int) = x := by
 apply BitVec.eq_of_toNat_eq; simp
theorem xor_W (x y : W) : bits .xor .u32 (x.toNat : Int) (y.toNat : Int) = ((x ^^^ y).toNat : Int) := by
 unfold bits
 show IntKind.u32.wrap ((BitVec.ofInt 32 (x.toNat : Int) ^^^ BitVec.ofInt 32 (y.toNat : Int)).toNat : Int) = _
 rw [ofInt_W, ofInt_W, wrap_W]; simp
theorem and_W (x y : W) : bits .and .u32 (x.toNat : Int) (y.toNat : Int) = ((x &&& y).toNat : Int) := by
 unfold bits
 show IntKind.u32.wrap ((BitVec.ofInt 32 (x.toNat : Int) &&& BitVec.ofInt 32 (y.toNat : Int)).toNat : Int) = _
 rw [ofInt_W, ofInt_W, wrap_W]; simp
theorem or_W (x y : W) : bits .or .u32 (x.toNat : Int) (y.toNat : Int) = ((x ||| y).toNat : Int) := by
 unfold bits
 show IntKind.u32.wrap ((BitVec.ofInt 32 (x.toNat : Int) ||| BitVec.ofInt 32 (y.toNat : Int)).toNat : Int) = _
 rw [ofInt_W, ofInt_W, wrap_W]; simp
theorem com_W (x : W) : bits .xor .u32 (if IntKind.u32.signed then -1 else IntKind.u32.max) (x.toNat : Int) = ((~~~x).toNat : Int) := by
 have e : (if IntKind.u32.signed then -1 else IntKind.u32.max) = ((BitVec.allOnes 32).toNat : Int) := by decide
 rw [e, xor_W, BitVec.allOnes_xor]
theorem shl_W (x : W) (n : Nat) (h : n ≤ 32) : IntKind.u32.wrap ((x.toNat : Int) * 2 ^ n) = ((x <<< n).toNat : Int) := by
 rw [IntKind.wrap_u32, BitVec.toNat_shiftLeft, Nat.shiftLeft_eq]
 have : ((2 : Int) ^ n) = ((2 ^ n : Nat) : Int) := by simp
 rw [this]; omega
theorem shr_W (x : W) (n : Nat) : (x.toNat : Int).fdiv (2 ^ n) = ((x >>> n).toNat : Int) := by
 rw [BitVec.toNat_ushiftRight, Nat.shiftRight_eq_div_pow]
 have : ((2 : Int) ^ n) = ((2 ^ n : Nat) : Int) := by simp
 rw [this, Int.fdiv_eq_ediv_of_nonneg _ (Int.natCast_nonneg _)]; exact (Int.natCast_ediv _ _).symm
theorem rot_W (x : W) (n : Nat) (h0 : 0 < n) (h : n < 32) : bits .or .u32 (IntKind.u32.wrap ((x.toNat : Int) * 2 ^ (32 - n))) ((x.toNat : Int).fdiv (2 ^ n)) = ((rr x n).toNat : Int) := by
 rw [shl_W x (32 - n) (by omega), shr_W, or_W, rr, BitVec.or_comm]
theorem and31 (n : Nat) (h0 : 0 < n) (h : n < 32) : bits .and .u64 (IntKind.u64.wrap (0 - (n : Int))) 31 = 32 - (n : Int) := by
 have : ∀ k : Fin 32, 0 < k.val → bits .and .u64 (IntKind.u64.wrap (0 - (k.val : Int))) 31 = 32 - (k.val : Int) := by decide
 exact this ⟨n, h⟩ h0
theorem fill_set {α : Type} (l : List α) (f : α → Value) (z : Value) (n k : Nat) (x : α) (hk : k < n) (hx : l[k]? = some x) :
  ((l.take k).map f ++ List.replicate (n - k) z).set k (f x) = (l.take (k + 1)).map f ++ List.replicate (n - (k + 1)) z := by
 have hl : k < l.length := (List.getElem?_eq_some_iff.1 hx).1
 have hlen : ((l.take k).map f).length = k := by simp; omega
 rw [List.set_append_right _ _ (by omega), hlen, Nat.sub_self, List.take_add_one, hx]
 have : n - k = (n - (k + 1)) + 1 := by omega
 rw [this, List.replicate_succ]
 simp
theorem words_get : ∀ (k : Nat) (bs : List UInt8) (c0 c1 c2 c3 : UInt8), bs[4 * k]? = some c0 → bs[4 * k + 1]? = some c1 → bs[4 * k + 2]? = some c2 → bs[4 * k + 3]? = some c3 → (words bs)[k]? = some (word c0 c1 c2 c3)
 | 0, bs, c0, c1, c2, c3, h0, h1, h2, h3 => by
  match bs, h0, h1, h2, h3 with
  | a :: b :: c :: d :: r, h0, h1, h2, h3 => simp at h0 h1 h2 h3; simp [words, h0, h1, h2, h3]
 | k + 1, bs, c0, c1, c2, c3, h0, h1, h2, h3 => by
  match bs, h3 with
  | a :: b :: c :: d :: r, h3 =>
   have e : ∀ q, (a :: b :: c :: d :: r)[4 * (k + 1) + q]? = r[4 * k + q]? := fun q => by
    rw [show 4 * (k + 1) + q = (4 * k + q) + 4 by omega]; simp
   have e0 := e 0
   simp only [Nat.add_zero] at e0
   simp only [words, List.getElem?_cons_succ]
   exact words_get k r c0 c1 c2 c3 (e0 ▸ h0) (e 1 ▸ h1) (e 2 ▸ h2) (e 3 ▸ h3)
  | [], h3 => simp at h3
  | [_], h3 => simp at h3
  | [_, _], h3 => simp at h3
  | [_, _, _], h3 => simp at h3
theorem words_len : ∀ (n : Nat) (bs : List UInt8), bs.length = 4 * n → (words bs).length = n
 | 0, bs, h => by have : bs = [] := List.eq_nil_of_length_eq_zero (by omega); subst this; rfl
 | n + 1, bs, h => by
  match bs, h with
  | a :: b :: c :: d :: r, h => simp only [words, List.length_cons]; rw [words_len n r (by simp at h; omega)]
  | [], h => simp at h
  | [_], h => simp at h; omega
  | [_, _], h => simp at h; omega
  | [_, _, _], h => simp at h; omega
theorem sched_len (n : Nat) (w : List W) : (sched n w).length = w.length + n := by
 induction n with
 | zero => rfl
 | succ n ih => simp [sched, ih]; omega
theorem u8_W (c : UInt8) : IntKind.u32.wrap (c.toNat : Int) = ((BitVec.ofNat 32 c.toNat).toNat : Int) := wrap_W c.toNat
theorem word_W (c0 c1 c2 c3 : UInt8) : ((BitVec.ofNat 32 c0.toNat <<< 24 ||| BitVec.ofNat 32 c1.toNat <<< 16) ||| BitVec.ofNat 32 c2.toNat <<< 8) ||| BitVec.ofNat 32 c3.toNat = word c0 c1 c2 c3 := by
 have h0 := c0.toNat_lt; have h1 := c1.toNat_lt; have h2 := c2.toNat_lt; have h3 := c3.toNat_lt
 apply BitVec.eq_of_toNat_eq
 simp only [word, BitVec.toNat_or, BitVec.toNat_shiftLeft, BitVec.toNat_ofNat, Nat.shiftLeft_eq]
 rw [Nat.mod_eq_of_lt (by omega : c0.toNat < 2 ^ 32), Nat.mod_eq_of_lt (by omega : c1.toNat < 2 ^ 32), Nat.mod_eq_of_lt (by omega : c2.toNat < 2 ^ 32), Nat.mod_eq_of_lt (by omega : c3.toNat < 2 ^ 32)]
 rw [Nat.mod_eq_of_lt (by omega : c0.toNat * 2 ^ 24 < 2 ^ 32), Nat.mod_eq_of_lt (by omega : c1.toNat * 2 ^ 16 < 2 ^ 32), Nat.mod_eq_of_lt (by omega : c2.toNat * 2 ^ 8 < 2 ^ 32), Nat.mod_eq_of_lt (by omega)]
 have e1 := Nat.two_pow_add_eq_or_of_lt (i := 24) (b := c1.toNat * 2 ^ 16) (by omega) c0.toNat
 have e2 := Nat.two_pow_add_eq_or_of_lt (i := 16) (b := c2.toNat * 2 ^ 8) (by omega) (c0.toNat * 2 ^ 8 + c1.toNat)
 have e3 := Nat.two_pow_add_eq_or_of_lt (i := 8) (b := c3.toNat) (by omega) (c0.toNat * 2 ^ 16 + c1.toNat * 2 ^ 8 + c2.toNat)
 rw [Nat.mul_comm c0.toNat, ← e1]
 rw [show 2 ^ 24 * c0.toNat + c1.toNat * 2 ^ 16 = 2 ^ 16 * (c0.toNat * 2 ^ 8 + c1.toNat) by omega, ← e2]
 rw [show 2 ^ 16 * (c0.toNat * 2 ^ 8 + c1.toNat) + c2.toNat * 2 ^ 8 = 2 ^ 8 * (c0.toNat * 2 ^ 16 + c1.toNat * 2 ^ 8 + c2.toNat) by omega, ← e3]
 first | done | omega
theorem word_bits (c0 c1 c2 c3 : UInt8) : bits .or .u32 (bits .or .u32 (bits .or .u32 (IntKind.u32.wrap (IntKind.u32.wrap (c0.toNat : Int) * 2 ^ (min (Int.toNat 24) IntKind.u32.bits))) (IntKind.u32.wrap (IntKind.u32.wrap (c1.toNat : Int) * 2 ^ (min (Int.toNat 16) IntKind.u32.bits)))) (IntKind.u32.wrap (IntKind.u32.wrap (c2.toNat : Int) * 2 ^ (min (Int.toNat 8) IntKind.u32.bits)))) (IntKind.u32.wrap (c3.toNat : Int)) = ((word c0 c1 c2 c3).toNat : Int) := by
 have m1 : min (Int.toNat 24) IntKind.u32.bits = 24 := by decide
 have m2 : min (Int.toNat 16) IntKind.u32.bits = 16 := by decide
 have m3 : min (Int.toNat 8) IntKind.u32.bits = 8 := by decide
 rw [m1, m2, m3, u8_W, u8_W, u8_W, u8_W, shl_W _ 24 (by omega), shl_W _ 16 (by omega), shl_W _ 8 (by omega), or_W, or_W, or_W, word_W]
section
variable {ds : List Deferred} {ρ : Option Nat} {P : Program} {o : Oper} {n : Nat} {L : Slots} {Z : World → Prop} {x y : Operand} {t t2 : TypeId} {a b : W}
theorem rdW_add (hop : o.op = .binOp .add t x y t2) (hx : oper L x = some (u32 a)) (hy : oper L y = some (u32 b)) : Rd ds P o n L Z (u32 (a + b)) := by
 have := rd_add (ds := ds) (P := P) (n := n) (St := Z) hop hx hy; rwa [add_W] at this
theorem rdW_xor (hop : o.op = .binOp .xor t x y t2) (hx : oper L x = some (u32 a)) (hy : oper L y = some (u32 b)) : Rd ds P o n L Z (u32 (a ^^^ b)) := by
 have := rd_xor (ds := ds) (P := P) (n := n) (St := Z) hop hx hy; rwa [xor_W] at this
theorem rdW_and (hop : o.op = .binOp .and t x y t2) (hx : oper L x = some (u32 a)) (hy : oper L y = some (u32 b)) : Rd ds P o n L Z (u32 (a &&& b)) := by
 have := rd_and (ds := ds) (P := P) (n := n) (St := Z) hop hx hy; rwa [and_W] at this
theorem rdW_or (hop : o.op = .binOp .or t x y t2) (hx : oper L x = some (u32 a)) (hy : oper L y = some (u32 b)) : Rd ds P o n L Z (u32 (a ||| b)) := by
 have := rd_or (ds := ds) (P := P) (n := n) (St := Z) hop hx hy; rwa [or_W] at this
theorem rdW_com (hop : o.op = .unOp .xor t x) (hx : oper L x = some (u32 a)) : Rd ds P o n L Z (u32 (~~~a)) := by
 have := rd_com (ds := ds) (P := P) (n := n) (St := Z) hop hx; rwa [com_W] at this
theorem rdW_shr {k' : IntKind} {c : Nat} (hop : o.op = .binOp .shr t x y t2) (hx : oper L x = some (u32 a)) (hy : oper L y = some (.int k' (@OfNat.ofNat Int c instOfNat))) (hc : c ≤ 32) : Rd ds P o n L Z (u32 (a >>> c)) := by
 have := rd_shr (ds := ds) (P := P) (n := n) (St := Z) hop hx hy (Int.natCast_nonneg c)
 have e : min (@OfNat.ofNat Int c instOfNat).toNat IntKind.u32.bits = c := by
  show min c 32 = c; omega
 rwa [e, shr_W] at this
end
theorem u32_one (l : List W) : ∀ v ∈ l.map u32, v.oneCell' = true := fun v hv => by obtain ⟨c, _, rfl⟩ := List.mem_map.1 hv; rfl
theorem map_cell {α : Type} (l : List α) (f : α → Value) (r : List Value) (i : Nat) (x : α) (h : l[i]? = some x) : (l.map f ++ r)[i]? = some (f x) := by
 have : i < l.length := (List.getElem?_eq_some_iff.1 h).1
 rw [List.getElem?_append_left (by simpa using this), List.getElem?_map, h]; rfl
theorem get_getD {α : Type} (l : List α) (i : Nat) (z : α) (h : i < l.length) : l[i]? = some (l.getD i z) := by simp [h]
theorem rnd_len (k w : W) (x : List W) (h : x.length = 8) : (rnd k w x).length = 8 := by
 match x, h with
 | [a, b, c, d, e, f, g, i], _ => rfl
theorem rounds_len (ks ws : List W) (n : Nat) (x : List W) (h : x.length = 8) : (rounds ks ws n x).length = 8 := by
 induction n with
 | zero => exact h
 | succ n ih => exact rnd_len _ _ _ ih
theorem eight (x : List W) (h : x.length = 8) : ∃ a b c d e f g i, x = [a, b, c, d, e, f, g, i] := by
 match x, h with
 | [a, b, c, d, e, f, g, i], _ => exact ⟨a, b, c, d, e, f, g, i, rfl⟩
theorem addW_len : ∀ (x y : List W), x.length = y.length → (addW x y).length = x.length
 | [], [], _ => rfl
 | a :: x, b :: y, h => by simp only [addW, List.length_cons]; rw [addW_len x y (by simpa using h)]
theorem addW_get : ∀ (x y : List W) (k : Nat) (a b : W), x[k]? = some a → y[k]? = some b → (addW x y)[k]? = some (a + b)
 | a' :: x, b' :: y, 0, a, b, h1, h2 => by simp at h1 h2; simp [addW, h1, h2]
 | a' :: x, b' :: y, k + 1, a, b, h1, h2 => by simp at h1 h2; simp only [addW, List.getElem?_cons_succ]; exact addW_get x y k a b h1 h2
theorem addW_set (x y : List W) (k : Nat) (a b : W) (hl : x.length = y.length) (h1 : x[k]? = some a) (h2 : y[k]? = some b) :
  (((addW x y).take k ++ x.drop k).map u32).set k (u32 (a + b)) = ((addW x y).take (k + 1) ++ x.drop (k + 1)).map u32 := by
 have hk : k < x.length := (List.getElem?_eq_some_iff.1 h1).1
 have hal := addW_len x y hl
 rw [← List.map_set]
 congr 1
 have hlen : ((addW x y).take k).length = k := by simp; omega
 rw [List.set_append_right _ _ (by omega), hlen, Nat.sub_self, List.take_add_one, addW_get x y k a b h1 h2]
 have hd : (x.drop k).set 0 (a + b) = (a + b) :: x.drop (k + 1) := by rw [List.drop_eq_getElem_cons hk]; rfl
 rw [hd]; simp
def pick4 (c0 c1 c2 c3 : UInt8) : Nat → UInt8
 | 0 => c0
 | 1 => c1
 | 2 => c2
 | _ => c3
def part4 (c0 c1 c2 c3 : UInt8) : Nat → W
 | 0 => 0
 | n + 1 => part4 c0 c1 c2 c3 n * 256 + BitVec.ofNat 32 (pick4 c0 c1 c2 c3 n).toNat
theorem part4_succ (c0 c1 c2 c3 : UInt8) (j : Nat) (_h : j < 4) : part4 c0 c1 c2 c3 (j + 1) = part4 c0 c1 c2 c3 j * 256 + BitVec.ofNat 32 (pick4 c0 c1 c2 c3 j).toNat := rfl
theorem part4_word (c0 c1 c2 c3 : UInt8) : part4 c0 c1 c2 c3 4 = word c0 c1 c2 c3 := by
 apply BitVec.eq_of_toNat_eq
 have h0 := c0.toNat_lt; have h1 := c1.toNat_lt; have h2 := c2.toNat_lt; have h3 := c3.toNat_lt
 simp only [part4, pick4, word, BitVec.toNat_add, BitVec.toNat_mul, BitVec.toNat_ofNat, BitVec.ofNat_eq_ofNat]
 omega
theorem mul_W (x y : W) : IntKind.u32.wrap ((x.toNat : Int) * (y.toNat : Int)) = ((x * y).toNat : Int) := by
 rw [IntKind.wrap_u32, BitVec.toNat_mul, ← Int.natCast_mul]; omega
theorem set_zero4 (ws : List W) (hw : ws.length = 16) (k : Nat) (hk : k < 16) : ((ws.take k).map u32 ++ List.replicate (64 - k) (u32 0)).set k (u32 0) = (ws.take k).map u32 ++ List.replicate (64 - k) (u32 0) := by
 have hl : ((ws.take k).map u32).length = k := by simp; omega
 rw [List.set_append_right _ _ (by omega), hl, Nat.sub_self, show 64 - k = (63 - k) + 1 by omega, List.replicate_succ]
 rfl
end Go.Proofs.YtddoigmffkmpcaaGreatDoor
