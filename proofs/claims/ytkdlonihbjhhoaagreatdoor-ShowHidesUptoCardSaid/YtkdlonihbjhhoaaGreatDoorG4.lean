/-
  Parts of the walk: Rnd Mix Base Ops.
-/
import Derived.Test.YtkdlonihbjhhoaaGreatDoorG3
import Derived.Orders
import Derived.OrdersIn
import Derived.TacticsIn
import Derived.WalkKit
import Derived.WalkSpells
import Derived.WalkLawsBesides
import Derived.Laws.BitsLemmas
import Derived.Laws.Strings
namespace Go.Proofs.YtkdlonihbjhhoaaGreatDoor
set_option linter.unusedSimpArgs false
set_option linter.unusedVariables false
universe u
theorem Aa : type_of% @if_neg := @if_neg
theorem Ab : type_of% @if_pos := @if_pos
theorem Ad : type_of% @List.getElem?_eq_getElem := @List.getElem?_eq_getElem
theorem Ae : type_of% @List.getD_eq_getElem?_getD := @List.getD_eq_getElem?_getD
theorem Af : type_of% @decide_eq_decide := @decide_eq_decide
theorem Ag : type_of% @List.length_map := @List.length_map
theorem Ah : type_of% @Nat.mod_eq_of_lt := @Nat.mod_eq_of_lt
theorem Ai : type_of% @Nat.zero_le := @Nat.zero_le
theorem Aj : type_of% @Nat.mul_comm := @Nat.mul_comm
theorem Ak : type_of% @Nat.mod_lt := @Nat.mod_lt
theorem Al : type_of% @List.getElem?_eq_some_iff := @List.getElem?_eq_some_iff
theorem Am : type_of% @decide_eq_true := @decide_eq_true
theorem Ao : type_of% @Decidable.not_not := @Decidable.not_not
theorem Ap : type_of% @List.take_length := @List.take_length
theorem Aq : type_of% @decide_eq_false := @decide_eq_false
theorem Ar : type_of% @List.length_cons := @List.length_cons
theorem As : type_of% @Nat.pow_succ := @Nat.pow_succ
theorem At : type_of% @Int.toNat_natCast := @Int.toNat_natCast
theorem Au : type_of% @Nat.mul_assoc := @Nat.mul_assoc
theorem Av : type_of% @List.set_cons_zero := @List.set_cons_zero
theorem Aw : type_of% @List.set_cons_succ := @List.set_cons_succ
theorem Ax : type_of% @List.Sublist.refl := @List.Sublist.refl
theorem Ay : type_of% @Nat.lt_of_lt_of_le := @Nat.lt_of_lt_of_le
theorem Az : type_of% @Nat.zero_add := @Nat.zero_add
theorem A0 : type_of% @Nat.mul_one := @Nat.mul_one
theorem A1 : type_of% @Decidable.byContradiction := @Decidable.byContradiction
theorem A2 : type_of% @Nat.pow_le_pow_right := @Nat.pow_le_pow_right
theorem A3 : type_of% @Array.getElem?_eq_some_iff := @Array.getElem?_eq_some_iff
theorem A4 : type_of% @Nat.div_div_eq_div_mul := @Nat.div_div_eq_div_mul
theorem A5 : type_of% @List.length_append := @List.length_append
theorem A6 : type_of% @List.getElem?_map := @List.getElem?_map
theorem A7 : type_of% @List.mem_cons := @List.mem_cons
theorem A8 : type_of% @List.take_of_length_le := @List.take_of_length_le
theorem A9 : type_of% @List.mem_of_getElem? := @List.mem_of_getElem?
theorem Ba : type_of% @Nat.add_zero := @Nat.add_zero
theorem Bb : type_of% @Int.natAbs_natCast := @Int.natAbs_natCast
theorem Bc : type_of% @Nat.div_add_mod := @Nat.div_add_mod
theorem Bd : type_of% @Nat.le_refl := @Nat.le_refl
theorem Be : type_of% @Nat.add_mul := @Nat.add_mul
theorem Bf : type_of% @Nat.mul_add := @Nat.mul_add
theorem Bg : type_of% @Nat.pow_add := @Nat.pow_add
theorem Bh : type_of% @Nat.div_eq_of_lt := @Nat.div_eq_of_lt
theorem Bi : type_of% @List.nil_append := @List.nil_append
theorem Bj : type_of% @Nat.lt_of_le_of_lt := @Nat.lt_of_le_of_lt
theorem Bk : type_of% @Nat.mul_le_mul_right := @Nat.mul_le_mul_right
theorem Bl : type_of% @List.append_nil := @List.append_nil
theorem Bm : type_of% @Nat.mul_left_comm := @Nat.mul_left_comm
theorem Bn : type_of% @List.all_eq_true := @List.all_eq_true
theorem Bo : type_of% @List.drop_eq_getElem_cons := @List.drop_eq_getElem_cons
theorem Bp : type_of% @List.length_take := @List.length_take
theorem Bq : type_of% @Int.natCast_nonneg := @Int.natCast_nonneg
theorem Br : type_of% @Nat.le_trans := @Nat.le_trans
theorem Bt : type_of% @List.take_add_one := @List.take_add_one
theorem Bu : type_of% @Bool.not_eq_true' := @Bool.not_eq_true'
theorem Bv : type_of% @List.cons_append := @List.cons_append
theorem Bw : type_of% @Nat.div_le_self := @Nat.div_le_self
theorem Bx : type_of% @Int.natCast_mul := @Int.natCast_mul
theorem Bz : type_of% @Bool.eq_iff_iff := @Bool.eq_iff_iff
theorem B0 : type_of% @Nat.eq_zero_or_pos := @Nat.eq_zero_or_pos
theorem B1 : type_of% @Nat.pow_zero := @Nat.pow_zero
theorem B2 : type_of% @List.eq_nil_of_length_eq_zero := @List.eq_nil_of_length_eq_zero
theorem B3 : type_of% @Nat.mul_le_mul_left := @Nat.mul_le_mul_left
theorem B4 : type_of% @List.mem_map_of_mem := @List.mem_map_of_mem
theorem B5 : type_of% @List.getElem?_append_left := @List.getElem?_append_left
theorem B6 : type_of% @List.mem_append := @List.mem_append
theorem B7 : type_of% @List.map_append := @List.map_append
theorem B8 : type_of% @List.mem_range := @List.mem_range
theorem B9 : type_of% @List.mem_map := @List.mem_map
theorem Ca : type_of% @Nat.div_lt_iff_lt_mul := @Nat.div_lt_iff_lt_mul
theorem Cc : type_of% @Nat.zero_mul := @Nat.zero_mul
theorem Ch : type_of% @Nat.sub_zero := @Nat.sub_zero
theorem Cj : type_of% @Bool.and_eq_true := @Bool.and_eq_true
theorem Cl : type_of% @List.append_assoc := @List.append_assoc
theorem Cm : type_of% @Nat.one_mul := @Nat.one_mul
theorem Cn : type_of% @Nat.mul_add_div := @Nat.mul_add_div
theorem Co : type_of% @Nat.add_assoc := @Nat.add_assoc
theorem Cp : type_of% @List.length_drop := @List.length_drop
theorem Cr : type_of% @Nat.pow_pos := @Nat.pow_pos
theorem Ct : type_of% @Nat.pos_of_ne_zero := @Nat.pos_of_ne_zero
theorem Cu : type_of% @List.getElem?_take := @List.getElem?_take
theorem Cv : type_of% @List.getElem?_drop := @List.getElem?_drop
theorem Cy : type_of% @Nat.lt_or_ge := @Nat.lt_or_ge
theorem Cz : type_of% @Nat.two_pow_pos := @Nat.two_pow_pos
theorem C0 : type_of% @Nat.sub_self := @Nat.sub_self
theorem C1 : type_of% @List.sublist_cons_self := @List.sublist_cons_self
theorem C2 : type_of% @List.flatMap_cons := @List.flatMap_cons
theorem C3 : type_of% @List.length_set := @List.length_set
theorem C4 : type_of% @Nat.lt_succ_iff_lt_or_eq := @Nat.lt_succ_iff_lt_or_eq
theorem C5 : type_of% @Nat.mul_mod := @Nat.mul_mod
theorem C6 : type_of% @Nat.le_of_lt_succ := @Nat.le_of_lt_succ
theorem C7 : type_of% @List.ext_getElem? := @List.ext_getElem?
theorem C8 : type_of% @List.length_pos_iff := @List.length_pos_iff
theorem C9 : type_of% @List.getD_cons_zero := @List.getD_cons_zero
theorem Da : type_of% @List.getElem?_set_self := @List.getElem?_set_self
theorem Db : type_of% @List.drop_eq_nil_of_le := @List.drop_eq_nil_of_le
theorem Dc : type_of% @Bool.false_eq_true := @Bool.false_eq_true
theorem Dd : type_of% @List.set_append_right := @List.set_append_right
theorem De : type_of% @List.getElem?_toArray := @List.getElem?_toArray
theorem Df : type_of% @List.getElem?_eq_none := @List.getElem?_eq_none
theorem Dg : type_of% @Option.isNone_iff_eq_none := @Option.isNone_iff_eq_none
theorem Dh : type_of% @Nat.min_eq_left := @Nat.min_eq_left
theorem Di : type_of% @List.nodup_cons := @List.nodup_cons
theorem Dj : type_of% @Nat.div_one := @Nat.div_one
theorem Dk : type_of% @List.mem_cons_of_mem := @List.mem_cons_of_mem
theorem Dl : type_of% @List.getElem?_set_ne := @List.getElem?_set_ne
theorem Dm : type_of% @Nat.mul_div_cancel_left := @Nat.mul_div_cancel_left
theorem Dn : type_of% @Option.map_eq_some_iff := @Option.map_eq_some_iff
theorem Do : type_of% @Nat.lt_trans := @Nat.lt_trans
theorem Dp : type_of% @Nat.add_comm := @Nat.add_comm
theorem Dq : type_of% @List.Sublist.cons_cons := @List.Sublist.cons_cons
theorem Dr : type_of% @List.map_cons := @List.map_cons
theorem Ds : type_of% @Bool.true_and := @Bool.true_and
theorem Dt : type_of% @List.take_append_drop := @List.take_append_drop
theorem Du : type_of% @Nat.pow_mul := @Nat.pow_mul
theorem Dw : type_of% @Nat.mul_le_mul := @Nat.mul_le_mul
theorem Dx : type_of% @List.take_zero := @List.take_zero
theorem Dy : type_of% @Int.fdiv_eq_ediv_of_nonneg := @Int.fdiv_eq_ediv_of_nonneg
theorem Dz : type_of% @Nat.mul_lt_mul'' := @Nat.mul_lt_mul''
theorem D0 : type_of% @List.getElem_mem := @List.getElem_mem
theorem D3 : type_of% @List.rel_of_pairwise_cons := @List.rel_of_pairwise_cons
theorem D4 : type_of% @Nat.div_mul_le_self := @Nat.div_mul_le_self
theorem D5 : type_of% @List.toList_toArray := @List.toList_toArray
theorem D6 : type_of% @List.replicate_succ := @List.replicate_succ
theorem D7 : type_of% @List.getElem?_range := @List.getElem?_range
theorem D8 : type_of% @List.getD_cons_succ := @List.getD_cons_succ
theorem D9 : type_of% @Option.map_some := @Option.map_some
theorem Ea : type_of% @Nat.not_lt_zero := @Nat.not_lt_zero
theorem Eb : type_of% @List.length_nil := @List.length_nil
theorem Ec : type_of% @Int.natCast_add := @Int.natCast_add
theorem Ed : type_of% @Nat.gcd_zero_right := @Nat.gcd_zero_right
theorem Ee : type_of% @Nat.add_sub_cancel := @Nat.add_sub_cancel
theorem Ef : type_of% @List.getElem?_cons_succ := @List.getElem?_cons_succ
theorem Eg : type_of% @Int.mul_neg := @Int.mul_neg
theorem Eh : type_of% @List.mapM_cons := @List.mapM_cons
theorem Ei : type_of% @List.length_replicate := @List.length_replicate
theorem I {α : Sort u} {a : α} : a = a := rfl
abbrev wd (ρ : Option Nat) : Fence := { Fence.wide with round := ρ }
abbrev cdX (ρ : Option Nat) (P : Program) (c : Code) (Q : Exit → Act → World → Prop) (a : Act) (w : World) : Prop := c.wpIn (wd ρ) 0 P Q a w
def opX (P : Program) (o : Oper) (a : Act) (w : World) (next : Act → World → Prop) (Q : Exit → Act → World → Prop) : Prop := o.uponIn Fence.wide 0 P a next Q ((execOp a.eval o).run P w)
def jP (P : Program) (ops : Array Oper) (Q : Exit → Act → World → Prop) (i : Nat) (K : Act → World → Prop) (a : Act) (w : World) : Prop :=
  match ops[i]? with
  | none => K a w
  | some o => if Region.wanted o (yielded ops a.tmps) then opX P o a w K Q else K (a.put o.dst undef) w
def iF (P : Program) (ops : Array Oper) (Q : Exit → Act → World → Prop) : List Nat → Act → World → Prop
  | [], a, w => Q .normal a w
  | i :: rest, a, w =>
    match ops[i]? with
    | none => iF P ops Q rest a w
    | some o => if Region.wanted o (yielded ops a.tmps) then opX P o a w (iF P ops Q rest) Q else iF P ops Q rest (a.put o.dst undef) w
def fN (P : Program) (ops : Array Oper) (Q : Exit → Act → World → Prop) : List Oper → Act → World → Prop
  | [], a, w => Q .normal a w
  | o :: rest, a, w => if Region.wanted o (yielded ops a.tmps) then opX P o a w (fN P ops Q rest) Q else fN P ops Q rest (a.put o.dst undef) w
def oL (P : Program) (md : Region.Mode) (ops : Array Oper) (Q : Exit → Act → World → Prop) : Nat → Array Bool → Act → World → Prop
  | 0, listed, a, w => Region.ready md ops listed = [] ∧ Q .normal a w
  | fuel + 1, listed, a, w =>
    (Region.ready md ops listed = [] → Q .normal a w) ∧
    ∀ i ∈ Region.ready md ops listed, jP P ops Q i (oL P md ops Q fuel (listed.setIfInBounds i true)) a w
section
variable {P : Program} {ops : Array Oper} {Q : Exit → Act → World → Prop} {md : Region.Mode} {ρ : Option Nat}
theorem bp {o : Oper} {a : Act} {w : World} {K K' : Act → World → Prop} (h : ∀ a w, K a w → K' a w) (hh : opX P o a w K Q) : opX P o a w K' Q := by
  unfold opX at *
  generalize (execOp a.eval o).run P w = r at *
  cases r with
  | ok x w' =>
    cases x <;> simp only [Oper.uponIn] at hh ⊢ <;>
      first
        | exact h _ _ hh
        | exact ⟨hh.1, CallsIn.mono hh.2 (fun e w'' he => by cases e <;> first | exact h _ _ he | exact he)⟩
        | exact ⟨hh.1, RowsIn.mono hh.2 (fun _ _ he => h _ _ he)⟩
        | exact ⟨hh.1, RoundIn.mono hh.2 (fun e w'' he => by cases e <;> first | exact h _ _ he | exact he)⟩
  | halt x w' => cases x <;> simp only [Oper.uponIn] at hh ⊢ <;> exact hh
theorem rY {i : Nat} {a : Act} {w : World} {K K' : Act → World → Prop} (h : ∀ a w, K a w → K' a w) (hh : jP P ops Q i K a w) : jP P ops Q i K' a w := by
  unfold jP at *
  split
  · exact h _ _ (by simpa [*] using hh)
  · rename_i o ho
    simp only [ho] at hh
    split
    · rename_i hw; simp only [hw, if_true] at hh; exact bp h hh
    · rename_i hw; simp only [hw] at hh; exact h _ _ hh
theorem lX (i : Nat) (rest : List Nat) (a : Act) (w : World) : iF P ops Q (i :: rest) a w = jP P ops Q i (iF P ops Q rest) a w := by
  cases h : ops[i]? <;> simp [iF, jP, h]
def lY (l : List Oper) : Bool := l.all fun o => match o.op with | .defer _ => false | _ => true
theorem pq {l : List Oper} (h : lY l = true) : ∀ o ∈ l, ∀ c, o.op ≠ .defer c := fun o ho c e => by
  have := Bn.1 h o ho
  simp [e] at this
def jL (ρ : Option Nat) (l : List Oper) : Prop := ρ = none ∨ lY l = true
theorem pm {o : Oper} {a : Act} {w : World} {K : Act → World → Prop} (hp : ρ = none ∨ ∀ c, o.op ≠ .defer c) (h : opX P o a w K Q) : o.wpIn (wd ρ) 0 P a w K Q := by
  refine ⟨fun _ _ => trivial, ?_⟩
  have e : o.semAt (wd ρ).round a.eval = execOp a.eval o := by
    rcases hp with rfl | hp
    · rfl
    · exact Oper.semAt_eq _ _ o hp
  rw [e]; exact h
theorem jj {l : List Oper} (hp : jL ρ l) {o : Oper} (ho : o ∈ l) : ρ = none ∨ ∀ c, o.op ≠ .defer c := hp.imp id fun h => pq h o ho
theorem kc {l : List Oper} (hp : jL ρ l) : ∀ (fuel : Nat) (listed : Array Bool) (a : Act) (w : World), oL P md l.toArray Q fuel listed a w → wpAnyIn (wd ρ) 0 P md l.toArray Q fuel listed a w
  | 0, listed, a, w, h => h
  | fuel + 1, listed, a, w, h => by
    refine ⟨h.1, fun i hi => ?_⟩
    have h1 := h.2 i hi
    unfold jP at h1
    unfold wpOpIn
    cases ho : l.toArray[i]? with
    | none => simp only [ho] at h1 ⊢; exact kc hp fuel _ a w h1
    | some o =>
      simp only [ho] at h1 ⊢
      split
      · rename_i hw
        rw [Ab hw] at h1
        exact Oper.wpIn_mono (fun a' w' h' => kc hp fuel _ a' w' h') (pm (jj hp (A9 (by simpa using ho))) h1)
      · rename_i hw
        rw [Aa hw] at h1
        exact ⟨fun _ _ => trivial, kc hp fuel _ _ w h1⟩
theorem np {ops : Array Oper} : ∀ (l : List Oper) (a : Act) (w : World), (∀ o ∈ l, ρ = none ∨ ∀ c, o.op ≠ .defer c) → fN P ops Q l a w → wpListIn (wd ρ) 0 P ops Q l a w
  | [], a, w, _, h => h
  | o :: l, a, w, hp, h => by
    unfold fN at h
    unfold wpListIn
    split
    · rename_i hw
      rw [Ab hw] at h
      exact Oper.wpIn_mono (fun a' w' h' => np l a' w' (fun o ho => hp o (by simp [ho])) h') (pm (hp o (by simp)) h)
    · rename_i hw
      rw [Aa hw] at h
      exact ⟨fun _ _ => trivial, np l _ w (fun o ho => hp o (by simp [ho])) h⟩
theorem jZ {l : List Oper} (hp : jL ρ l) : ∀ (is : List Nat) (a : Act) (w : World), iF P l.toArray Q is a w → wpOpsIn (wd ρ) 0 P l.toArray Q is a w
  | [], a, w, h => h
  | i :: is, a, w, h => by
    rw [lX] at h
    rw [wpOpsIn_cons]
    unfold jP at h
    unfold wpOpIn
    cases ho : l.toArray[i]? with
    | none => simp only [ho] at h ⊢; exact jZ hp is a w h
    | some o =>
      simp only [ho] at h ⊢
      split
      · rename_i hw
        rw [Ab hw] at h
        exact Oper.wpIn_mono (fun a' w' h' => jZ hp is a' w' h') (pm (jj hp (A9 (by simpa using ho))) h)
      · rename_i hw
        rw [Aa hw] at h
        exact ⟨fun _ _ => trivial, jZ hp is _ w h⟩
theorem vl {id : Nat} {l : List Oper} {a : Act} {w : World} (hp : jL ρ l) (hm : P.follows .mixedOrders = true) (h : oL P .any l.toArray Q l.toArray.size (Array.replicate l.toArray.size false) a { w with drawn := w.drawn + 1 }) : cdX ρ P (.region id l.toArray true) Q a w :=
  wpIn_region_any hm (kc hp _ _ _ _ h)
theorem vk {id : Nat} {l : List Oper} {a : Act} {w : World} (hp : jL ρ l) (h : fN P l.toArray Q l a w) : cdX ρ P (.region id l.toArray false) Q a w :=
  wpIn_region_lit (np l a w (fun o ho => jj hp ho) h)
theorem x3 {id : Nat} {l : List Oper} {a : Act} {w : World} (hp : jL ρ l) (h : ∀ t : Nat, iF P l.toArray Q (Region.schedule (P.follows .mixedOrders) l.toArray t) a { w with drawn := w.drawn + 1 }) : cdX ρ P (.region id l.toArray true) Q a w :=
  wpIn_region_draw fun t => jZ hp _ _ _ (h t)
end
end Go.Proofs.YtkdlonihbjhhoaaGreatDoor
namespace Go.Proofs.YtkdlonihbjhhoaaGreatDoor
set_option linter.unusedSimpArgs false
set_option linter.unusedVariables false
/- Marks. 0: reads only, may come up at any time; 1: in a fixed order among those marked 1, keeps the class; 2: the forced tail. -/
section
variable (P : Program) (ops : Array Oper) (C : World → Prop) (Q : Exit → Act → World → Prop) (mk : Nat → Nat)
def bD : Exit → Act → World → Prop := fun _ _ _ => False
def Reads (o : Oper) (a : Act) (v : Value) : Prop :=
  ∀ w, C w → (execOp a.eval o).run P w = .ok (.value v) w ∨ ((execOp a.eval o).run P w = .ok .skip w ∧ v = undef)
def ep : List Nat → Act → World → Prop
  | [], a, w => Q .normal a w
  | i :: l, a, w => ∃ o, ops[i]? = some o ∧
    if Region.wanted o (yielded ops a.tmps) then
      (mk i = 0 ∧ ∃ v, Reads P C o a v ∧ ep l (a.put o.dst v) w) ∨
      (mk i = 1 ∧ opX P o a w (fun a' w' => C w' ∧ ep l a' w') bD) ∨
      (mk i = 2 ∧ opX P o a w (fun a' w' => ep l a' w') bD)
    else ep l (a.put o.dst undef) w
end
section
variable {P : Program} {ops : Array Oper} {C : World → Prop} {Q : Exit → Act → World → Prop} {mk : Nat → Nat}
theorem Reads.same {o : Oper} {a a' : Act} {v : Value} (h : Reads P C o a v) (he : execOp a'.eval o = execOp a.eval o) : Reads P C o a' v := by
  unfold Reads at *; rw [he]; exact h
theorem Reads.eq {o : Oper} {a : Act} {v u : Value} {w : World} (hw : C w) (h : Reads P C o a v) (k : Reads P C o a u) : v = u := by
  rcases h w hw with h1 | ⟨h1, rfl⟩ <;> rcases k w hw with k1 | ⟨k1, rfl⟩ <;> rw [h1] at k1 <;> simp_all
theorem Reads.wp {o : Oper} {a : Act} {v : Value} {w : World} (hw : C w) (h : Reads P C o a v) {K : Act → World → Prop} {Q' : Exit → Act → World → Prop} (hk : K (a.put o.dst v) w) : opX P o a w K Q' := by
  unfold opX
  rcases h w hw with h1 | ⟨h1, rfl⟩ <;> rw [h1] <;> exact hk
theorem mh {a a' : Act} (h : a'.tmps = a.tmps) : a'.eval = a.eval := by
  funext x; cases x <;> simp [Act.eval, h]
theorem fF (a : Act) (d : Deferred) (x : Option Tmp) (v : Value) : (({ a with defers := d :: a.defers } : Act).put x v).tmps = (a.put x v).tmps := by
  cases x <;> rfl
theorem pO {o : Oper} {a : Act} {w : World} {K : Act → World → Prop} (h : opX P o a w K bD) : ∃ a' w' u, a'.tmps = (a.put o.dst u).tmps ∧ K a' w' := by
  unfold opX at h
  generalize (execOp a.eval o).run P w = r at h
  cases r with
  | ok n w' =>
    cases n <;> simp only [Oper.uponIn] at h
    case value v => exact ⟨_, _, v, rfl, h⟩
    case skip => exact ⟨_, _, undef, rfl, h⟩
    case defer d => exact ⟨({ a with defers := d :: a.defers } : Act).put o.dst undef, _, undef, fF a _ _ _, h⟩
    case enter f args =>
      obtain ⟨e, w'', fr, hR, _⟩ := h.2.2 [] (room_wide _)
      cases e with
      | returned v => exact ⟨_, _, v, rfl, hR⟩
      | panicked c => exact hR.elim
      | outgrown => obtain ⟨_, _, h⟩ := hR; exact h.elim
    case row row args =>
      obtain ⟨v, w'', hR, _⟩ := h.2 default [] (room_wide _)
      exact ⟨_, _, v, rfl, hR⟩
    case round l f tmps assign body =>
      obtain ⟨e, w'', hR, _⟩ := h.2.2 default [] (room_wide _)
      cases e with
      | returned v => exact ⟨_, _, v, rfl, hR⟩
      | panicked c => exact hR.elim
      | outgrown => obtain ⟨_, _, h⟩ := hR; exact h.elim
  | halt x w' => cases x <;> simp only [Oper.uponIn] at h <;> exact h.elim
theorem fZ (a : Act) (x : Option Tmp) (v : Value) (y : Option Tmp) (u : Value) (d : Deferred) (h : ∀ t, x = some t → y ≠ some t) :
    (({ (a.put x v) with defers := d :: (a.put x v).defers } : Act).put y u) = (({ a with defers := d :: a.defers } : Act).put y u).put x v := by
  rw [Act.put_defers, Act.put_comm _ v u h]
theorem pP {oi oj : Oper} {a : Act} {w : World} {v : Value} {K : Act → World → Prop} (hap : oi.apart ops oj = true) (hsj : ∀ cs b, oj.op ≠ .select cs b)
    (h : opX P oj a w K bD) : opX P oj (a.put oi.dst v) w (fun a' w' => ∃ a1 u, a1.tmps = (a.put oj.dst u).tmps ∧ a' = a1.put oi.dst v ∧ K a1 w') bD := by
  obtain ⟨h1, h2, _⟩ := Oper.apart_spec hap
  unfold opX at *
  rw [execOp_put oj hsj a oi.dst v h1]
  generalize (execOp a.eval oj).run P w = r at *
  cases r with
  | ok n w' =>
    cases n <;> simp only [Oper.uponIn] at h ⊢
    case value u => exact ⟨_, u, rfl, Act.put_comm a v u h2, h⟩
    case skip => exact ⟨_, undef, rfl, Act.put_comm a v undef h2, h⟩
    case defer d => exact ⟨({ a with defers := d :: a.defers } : Act).put oj.dst undef, undef, fF a _ _ _, fZ a _ v _ undef d h2, h⟩
    case enter f args =>
      refine ⟨h.1, CallsIn.mono h.2 fun e w'' he => ?_⟩
      cases e with
      | returned u => exact ⟨_, u, rfl, Act.put_comm a v u h2, he⟩
      | panicked c => exact he
      | outgrown => obtain ⟨_, _, h⟩ := he; exact h.elim
    case round l f tmps assign body =>
      refine ⟨h.1, RoundIn.mono h.2 fun e w'' he => ?_⟩
      cases e with
      | returned u => exact ⟨_, u, rfl, Act.put_comm a v u h2, he⟩
      | panicked c => exact he
      | outgrown => obtain ⟨_, _, h⟩ := he; exact h.elim
    case row row args => exact ⟨h.1, RowsIn.mono h.2 fun u w'' he => ⟨_, u, rfl, Act.put_comm a v u h2, he⟩⟩
  | halt x w' => cases x <;> simp only [Oper.uponIn] at h ⊢ <;> exact h
theorem rj {oi oj : Oper} {a : Act} {w : World} {v : Value} {K : Act → World → Prop} (hap : oi.apart ops oj = true) (hsj : ∀ cs b, oj.op ≠ .select cs b)
    (h : opX P oj (a.put oi.dst v) w K bD) : opX P oj a w (fun a' w' => (∃ u, a'.tmps = (a.put oj.dst u).tmps) ∧ K (a'.put oi.dst v) w') bD := by
  obtain ⟨h1, h2, _⟩ := Oper.apart_spec hap
  unfold opX at *
  rw [execOp_put oj hsj a oi.dst v h1] at h
  generalize (execOp a.eval oj).run P w = r at *
  cases r with
  | ok n w' =>
    cases n <;> simp only [Oper.uponIn] at h ⊢
    case value u => exact ⟨⟨u, rfl⟩, by rw [← Act.put_comm a v u h2]; exact h⟩
    case skip => exact ⟨⟨undef, rfl⟩, by rw [← Act.put_comm a v undef h2]; exact h⟩
    case defer d => exact ⟨⟨undef, fF a _ _ _⟩, by rw [← fZ a _ v _ undef d h2]; exact h⟩
    case enter f args =>
      refine ⟨h.1, CallsIn.mono h.2 fun e w'' he => ?_⟩
      cases e with
      | returned u => exact ⟨⟨u, rfl⟩, by rw [← Act.put_comm a v u h2]; exact he⟩
      | panicked c => exact he
      | outgrown => obtain ⟨_, _, h⟩ := he; exact h.elim
    case round l f tmps assign body =>
      refine ⟨h.1, RoundIn.mono h.2 fun e w'' he => ?_⟩
      cases e with
      | returned u => exact ⟨⟨u, rfl⟩, by rw [← Act.put_comm a v u h2]; exact he⟩
      | panicked c => exact he
      | outgrown => obtain ⟨_, _, h⟩ := he; exact h.elim
    case row row args => exact ⟨h.1, RowsIn.mono h.2 fun u w'' he => ⟨⟨u, rfl⟩, by rw [← Act.put_comm a v u h2]; exact he⟩⟩
  | halt x w' => cases x <;> simp only [Oper.uponIn] at h ⊢ <;> exact h
theorem bv {ok oj : Oper} (hap : ok.apart ops oj = true) (hsk : ∀ cs b, ok.op ≠ .select cs b) {a a' : Act} {u : Value} (h : a'.tmps = (a.put oj.dst u).tmps) :
    execOp a'.eval ok = execOp a.eval ok := by
  obtain ⟨_, _, h3⟩ := Oper.apart_spec hap
  rw [mh h]; exact execOp_put ok hsk a oj.dst u h3
theorem aX {ok oj : Oper} (hap : ok.apart ops oj = true) {a a' : Act} {u : Value} (h : a'.tmps = (a.put oj.dst u).tmps) :
    Region.wanted ok (yielded ops a'.tmps) = Region.wanted ok (yielded ops a.tmps) := by
  obtain ⟨_, _, h3⟩ := Oper.apart_spec hap
  rw [h]; exact wanted_put ok a oj.dst u h3
theorem cL {ok oj : Oper} (hap : ok.apart ops oj = true) (hsj : ∀ cs b, oj.op ≠ .select cs b) {a a' : Act} {u : Value} (h : a'.tmps = (a.put ok.dst u).tmps) :
    execOp a'.eval oj = execOp a.eval oj := by
  obtain ⟨h1, _, _⟩ := Oper.apart_spec hap
  rw [mh h]; exact execOp_put oj hsj a ok.dst u h1
theorem ce {ok oj : Oper} (hap : ok.apart ops oj = true) {a a' : Act} {u : Value} (h : a'.tmps = (a.put ok.dst u).tmps) :
    Region.wanted oj (yielded ops a'.tmps) = Region.wanted oj (yielded ops a.tmps) := by
  obtain ⟨h1, _, _⟩ := Oper.apart_spec hap
  rw [h]; exact wanted_put oj a ok.dst u h1
theorem fH {x y : Oper} (hap : x.apart ops y = true) : y.apart ops x = true := by
  obtain ⟨q1, q2, q3⟩ := Oper.apart_spec hap
  have q2' : ∀ d, y.dst = some d → x.dst ≠ some d := fun d hd ho' => q2 d ho' hd
  unfold Oper.apart
  cases hd : y.dst with
  | none => cases hd' : x.dst with
    | none => simp
    | some d' => simp [q1 d' hd']
  | some d => cases hd' : x.dst with
    | none => simp [q3 d hd]
    | some d' => have := q2' d hd; rw [hd'] at this; simp [q3 d hd, q1 d' hd', fun e => this e]
variable (hsel : ∀ (j : Nat) (o : Oper) cs b, ops[j]? = some o → o.op ≠ .select cs b)
include hsel
theorem l4 {j : Nat} {oj : Oper} (hj : ops[j]? = some oj) (hm : mk j = 0) (l2 : List Nat) : ∀ (l1 : List Nat) (a : Act) (w : World), C w →
    (∀ k ∈ l1, mk k ≠ 2 ∧ ∀ ok, ops[k]? = some ok → ok.apart ops oj = true) → ep P ops C Q mk (l1 ++ j :: l2) a w →
    Region.wanted oj (yielded ops a.tmps) = false ∨ (Region.wanted oj (yielded ops a.tmps) = true ∧ ∃ v, Reads P C oj a v)
  | [], a, w, hC, _, h => by
    obtain ⟨o, ho, h⟩ := h
    obtain rfl : oj = o := Option.some.inj (hj.symm.trans ho)
    cases hw : Region.wanted oj (yielded ops a.tmps)
    · exact .inl rfl
    · rw [Ab hw] at h
      rcases h with ⟨_, v, hv, _⟩ | ⟨h1, _⟩ | ⟨h1, _⟩
      · exact .inr ⟨rfl, v, hv⟩
      · omega
      · omega
  | k :: l1, a, w, hC, hall, h => by
    obtain ⟨o, ho, h⟩ := h
    have hap := (hall k (by simp)).2 o ho
    have hall' : ∀ m ∈ l1, mk m ≠ 2 ∧ ∀ ok, ops[m]? = some ok → ok.apart ops oj = true := fun m hm => hall m (by simp [hm])
    have back : ∀ a' w' u, a'.tmps = (a.put o.dst u).tmps → C w' → ep P ops C Q mk (l1 ++ j :: l2) a' w' →
        Region.wanted oj (yielded ops a.tmps) = false ∨ (Region.wanted oj (yielded ops a.tmps) = true ∧ ∃ v, Reads P C oj a v) := fun a' w' u ht hC' h' => by
      have := l4 hj hm l2 l1 a' w' hC' hall' h'
      rw [ce hap ht] at this
      rcases this with h1 | ⟨h1, v, hv⟩
      · exact .inl h1
      · exact .inr ⟨h1, v, hv.same (cL hap (fun cs b => hsel j oj cs b hj) ht).symm⟩
    by_cases hw : Region.wanted o (yielded ops a.tmps) = true
    · rw [Ab hw] at h
      rcases h with ⟨_, v, _, h'⟩ | ⟨_, h'⟩ | ⟨h1, _⟩
      · exact back _ w v rfl hC h'
      · obtain ⟨a', w', u, ht, hC', h''⟩ := pO h'
        exact back a' w' u ht hC' h''
      · exact absurd h1 (hall k (by simp)).1
    · rw [Aa hw] at h
      exact back _ w undef rfl hC h
theorem g9 {j : Nat} {oj : Oper} (hj : ops[j]? = some oj) (hm : mk j = 0) (l2 : List Nat) (v : Value) : ∀ (l1 : List Nat) (a : Act) (w : World), C w →
    (∀ k ∈ l1, mk k ≠ 2 ∧ ∀ ok, ops[k]? = some ok → ok.apart ops oj = true) → ep P ops C Q mk (l1 ++ j :: l2) a w →
    (Region.wanted oj (yielded ops a.tmps) = false ∧ v = undef ∨ Region.wanted oj (yielded ops a.tmps) = true ∧ Reads P C oj a v) →
    ep P ops C Q mk (l1 ++ l2) (a.put oj.dst v) w
  | [], a, w, hC, _, h, hv => by
    obtain ⟨o, ho, h⟩ := h
    obtain rfl : oj = o := Option.some.inj (hj.symm.trans ho)
    rcases hv with ⟨hw, rfl⟩ | ⟨hw, hr⟩
    · rw [Aa (by simp [hw])] at h; exact h
    · rw [Ab hw] at h
      rcases h with ⟨_, u, hu, h'⟩ | ⟨h1, _⟩ | ⟨h1, _⟩
      · rw [hr.eq hC hu]; exact h'
      · omega
      · omega
  | k :: l1, a, w, hC, hall, h, hv => by
    obtain ⟨o, ho, h⟩ := h
    have hap := (hall k (by simp)).2 o ho
    have hall' : ∀ m ∈ l1, mk m ≠ 2 ∧ ∀ ok, ops[m]? = some ok → ok.apart ops oj = true := fun m hm => hall m (by simp [hm])
    obtain ⟨_, h2, _⟩ := Oper.apart_spec hap
    have next : ∀ a' w' u, a'.tmps = (a.put o.dst u).tmps → C w' → ep P ops C Q mk (l1 ++ j :: l2) a' w' → ep P ops C Q mk (l1 ++ l2) (a'.put oj.dst v) w' := fun a' w' u ht hC' h' => by
      refine g9 hj hm l2 v l1 a' w' hC' hall' h' ?_
      rw [ce hap ht]
      rcases hv with ⟨h1, h2⟩ | ⟨h1, h2⟩
      · exact .inl ⟨h1, h2⟩
      · exact .inr ⟨h1, h2.same (cL hap (fun cs b => hsel j oj cs b hj) ht)⟩
    refine ⟨o, ho, ?_⟩
    rw [aX hap (a := a) (a' := a.put oj.dst v) (u := v) rfl]
    by_cases hw : Region.wanted o (yielded ops a.tmps) = true
    · rw [Ab hw] at h ⊢
      rcases h with ⟨h1, u, hu, h'⟩ | ⟨h1, h'⟩ | ⟨h1, _⟩
      · refine .inl ⟨h1, u, hu.same (bv hap (fun cs b => hsel k o cs b ho) (u := v) rfl), ?_⟩
        rw [← Act.put_comm a u v h2]
        exact next _ w u rfl hC h'
      · refine .inr (.inl ⟨h1, ?_⟩)
        have hap' : oj.apart ops o = true := fH hap
        refine bp (fun a' w' hh => ?_) (pP hap' (fun cs b => hsel k o cs b ho) (v := v) h')
        obtain ⟨a1, u, ht, rfl, hC', h''⟩ := hh
        exact ⟨hC', next a1 w' u ht hC' h''⟩
      · exact absurd h1 (hall k (by simp)).1
    · rw [Aa hw] at h ⊢
      rw [← Act.put_comm a undef v h2]
      exact next _ w undef rfl hC h
theorem l5 {j : Nat} {oj : Oper} (hj : ops[j]? = some oj) (hm : mk j = 1) (l2 : List Nat) : ∀ (l1 : List Nat) (a : Act) (w : World), C w →
    (∀ k ∈ l1, mk k = 0 ∧ ∀ ok, ops[k]? = some ok → ok.apart ops oj = true) → ep P ops C Q mk (l1 ++ j :: l2) a w →
    (Region.wanted oj (yielded ops a.tmps) = false ∧ ep P ops C Q mk (l1 ++ l2) (a.put oj.dst undef) w) ∨
    (Region.wanted oj (yielded ops a.tmps) = true ∧ opX P oj a w (fun a' w' => (∃ u, a'.tmps = (a.put oj.dst u).tmps) ∧ C w' ∧ ep P ops C Q mk (l1 ++ l2) a' w') bD)
  | [], a, w, hC, _, h => by
    obtain ⟨o, ho, h⟩ := h
    obtain rfl : oj = o := Option.some.inj (hj.symm.trans ho)
    cases hw : Region.wanted oj (yielded ops a.tmps)
    · rw [Aa (by simp [hw])] at h; exact .inl ⟨rfl, h⟩
    · rw [Ab hw] at h
      rcases h with ⟨h1, _⟩ | ⟨_, h'⟩ | ⟨h1, _⟩
      · omega
      · refine .inr ⟨rfl, ?_⟩
        unfold opX at *
        generalize (execOp a.eval oj).run P w = r at *
        cases r with
        | ok n w' =>
          cases n <;> simp only [Oper.uponIn] at h' ⊢
          case value u => exact ⟨⟨u, rfl⟩, h'⟩
          case skip => exact ⟨⟨undef, rfl⟩, h'⟩
          case defer d => exact ⟨⟨undef, fF a _ _ _⟩, h'⟩
          case enter f args =>
            refine ⟨h'.1, CallsIn.mono h'.2 fun e w'' he => ?_⟩
            cases e with
            | returned u => exact ⟨⟨u, rfl⟩, he⟩
            | panicked c => exact he
            | outgrown => obtain ⟨_, _, h⟩ := he; exact h.elim
          case round l f tmps assign body =>
            refine ⟨h'.1, RoundIn.mono h'.2 fun e w'' he => ?_⟩
            cases e with
            | returned u => exact ⟨⟨u, rfl⟩, he⟩
            | panicked c => exact he
            | outgrown => obtain ⟨_, _, h⟩ := he; exact h.elim
          case row row args => exact ⟨h'.1, RowsIn.mono h'.2 fun u w'' he => ⟨⟨u, rfl⟩, he⟩⟩
        | halt x w' => cases x <;> simp only [Oper.uponIn] at h' ⊢ <;> exact h'
      · omega
  | k :: l1, a, w, hC, hall, h => by
    obtain ⟨o, ho, h⟩ := h
    have hk0 := (hall k (by simp)).1
    have hap := (hall k (by simp)).2 o ho
    have hall' : ∀ m ∈ l1, mk m = 0 ∧ ∀ ok, ops[m]? = some ok → ok.apart ops oj = true := fun m hm => hall m (by simp [hm])
    obtain ⟨_, h2, _⟩ := Oper.apart_spec hap
    -- the value that k leaves, and the rest behind it
    have key : ∀ v, (∀ a' u, a'.tmps = (a.put oj.dst u).tmps → ∀ w', ep P ops C Q mk (l1 ++ l2) (a'.put o.dst v) w' → ep P ops C Q mk (k :: l1 ++ l2) a' w') → ep P ops C Q mk (l1 ++ j :: l2) (a.put o.dst v) w →
        (Region.wanted oj (yielded ops a.tmps) = false ∧ ep P ops C Q mk (k :: l1 ++ l2) (a.put oj.dst undef) w) ∨
        (Region.wanted oj (yielded ops a.tmps) = true ∧ opX P oj a w (fun a' w' => (∃ u, a'.tmps = (a.put oj.dst u).tmps) ∧ C w' ∧ ep P ops C Q mk (k :: l1 ++ l2) a' w') bD) := fun v back h' => by
      have := l5 hj hm l2 l1 (a.put o.dst v) w hC hall' h'
      rw [ce hap (a := a) (a' := a.put o.dst v) (u := v) rfl] at this
      rcases this with ⟨h1, h3⟩ | ⟨h1, h3⟩
      · refine .inl ⟨h1, back _ undef rfl w ?_⟩
        rw [← Act.put_comm a v undef h2]; exact h3
      · refine .inr ⟨h1, bp (fun a' w' hh => ?_) (rj hap (fun cs b => hsel j oj cs b hj) h3)⟩
        obtain ⟨⟨u, ht⟩, _, hC', h4⟩ := hh
        exact ⟨⟨u, ht⟩, hC', back a' u ht w' h4⟩
    by_cases hw : Region.wanted o (yielded ops a.tmps) = true
    · rw [Ab hw] at h
      rcases h with ⟨_, v, hv, h'⟩ | ⟨h1, _⟩ | ⟨h1, _⟩
      · refine key v (fun a' u ht w' h'' => ⟨o, ho, ?_⟩) h'
        rw [Ab (by rw [aX hap ht]; exact hw)]
        exact .inl ⟨hk0, v, hv.same (bv hap (fun cs b => hsel k o cs b ho) ht), h''⟩
      · omega
      · omega
    · rw [Aa hw] at h
      refine key undef (fun a' u ht w' h'' => ⟨o, ho, ?_⟩) h
      rw [Aa (by rw [aX hap ht]; exact hw)]
      exact h''
omit hsel in
theorem bX {j : Nat} {oj : Oper} (hj : ops[j]? = some oj) {a : Act} {w : World} {K : Act → World → Prop} (hw : Region.wanted oj (yielded ops a.tmps) = true)
    (h : opX P oj a w K bD) : jP P ops Q j K a w := by
  unfold jP
  simp only [hj, hw, if_true]
  unfold opX at *
  generalize (execOp a.eval oj).run P w = r at *
  cases r with
  | ok n w' =>
    cases n <;> simp only [Oper.uponIn] at h ⊢ <;> try exact h
    case enter f args =>
      refine ⟨h.1, CallsIn.mono h.2 fun e w'' he => ?_⟩
      cases e with
      | returned u => exact he
      | panicked c => exact he.elim
      | outgrown => obtain ⟨_, _, h⟩ := he; exact h.elim
    case round l f tmps assign body =>
      refine ⟨h.1, RoundIn.mono h.2 fun e w'' he => ?_⟩
      cases e with
      | returned u => exact he
      | panicked c => exact he.elim
      | outgrown => obtain ⟨_, _, h⟩ := he; exact h.elim
  | halt x w' => cases x <;> simp only [Oper.uponIn] at h ⊢ <;> exact h.elim
omit hsel in
theorem dE {j : Nat} {oj : Oper} (hj : ops[j]? = some oj) {a : Act} {w : World} {K : Act → World → Prop} (hw : Region.wanted oj (yielded ops a.tmps) = false)
    (h : K (a.put oj.dst undef) w) : jP P ops Q j K a w := by
  unfold jP
  simp only [hj, hw, Dc, if_false]
  exact h
end
def oJ (m k : Nat) : Bool := (m >>> k) % 2 == 1
def nl (ops : List Oper) (masks : List Nat) : Bool :=
  (List.range ops.length).all fun j => match ops[j]? with
    | none => true
    | some o => (List.range j).all fun k => !oJ (masks.getD j 0) k ||
        o.after.any fun e => Region.binds .any e && (e.on == k || (Nat.blt e.on j && Nat.blt k e.on && oJ (masks.getD e.on 0) k))
def ze (ops : Array Oper) (l : List Oper) (masks marks : List Nat) : Bool :=
  (List.range l.length).all fun j => match l[j]? with
    | none => true
    | some oj => (List.range j).all fun k => match l[k]? with
      | none => true
      | some ok => oJ (masks.getD j 0) k ||
        (ok.apart ops oj && !((marks.getD k 2 == 1) && (marks.getD j 2 == 1)) && (marks.getD k 2 != 2) && (marks.getD j 2 != 2))
def ez : List Oper → List Nat → List Nat
  | [], acc => acc
  | o :: l, acc => ez l (acc ++ [o.after.foldl (fun s e => if Region.binds .any e then s ||| (1 <<< e.on) ||| acc.getD e.on 0 else s) 0])
def sv (ops : List Oper) : Bool :=
  (List.range ops.length).all fun j => match ops[j]? with
    | none => true
    | some o => o.after.all fun e => !Region.binds .any e || Nat.blt e.on j
def yi (ops : List Oper) : Bool := ops.all fun o => match o.op with | .select .. => false | _ => true
def uH (n : Nat) (marks : List Nat) : Bool := (List.range n).all fun j => (List.range j).all fun k => (marks.getD k 2 != 2) || (marks.getD j 2 == 2)
def qB (l : List Oper) (marks : List Nat) : Bool :=
  uH l.length marks && yi l && sv l && nl l (ez l []) && ze l.toArray l (ez l []) marks && marks.all (fun m => m == 0 || m == 1 || m == 2)
structure nN (l : List Oper) (listed : Array Bool) : Prop where
  size : listed.size = l.length
  closed : ∀ j o, l[j]? = some o → listed.getD j false = true → ∀ e ∈ o.after, Region.binds .any e = true → listed.getD e.on false = true
theorem jD {l : List Oper} {masks : List Nat} (hm : nl l masks = true) {listed : Array Bool} (hc : nN l listed) :
    ∀ (j : Nat) (o : Oper), l[j]? = some o → (∀ e ∈ o.after, Region.binds .any e = true → listed.getD e.on false = true) → ∀ k, k < j → oJ (masks.getD j 0) k = true → listed.getD k false = true := by
  intro j
  induction j using Nat.strongRecOn with
  | _ j ih =>
    intro o ho hall k hk hb
    have hjl : j < l.length := (Al.1 ho).1
    have h1 := Bn.1 hm j (B8.2 hjl)
    simp only [ho] at h1
    have h2 := Bn.1 h1 k (B8.2 hk)
    rw [hb] at h2
    simp only [Bool.not_true, Bool.false_or] at h2
    obtain ⟨e, he, h3⟩ := Array.any_eq_true'.1 h2
    simp only [Cj, Bool.or_eq_true, beq_iff_eq, Nat.blt_eq] at h3
    obtain ⟨hbind, h4⟩ := h3
    have hl := hall e he hbind
    rcases h4 with rfl | ⟨⟨h5, h6⟩, h7⟩
    · exact hl
    · have hlt : e.on < l.length := by omega
      obtain ⟨oe, hoe⟩ : ∃ oe, l[e.on]? = some oe := ⟨_, Ad hlt⟩
      exact ih e.on h5 oe hoe (hc.closed e.on oe hoe hl) k h6 h7
section
variable {P : Program} {l : List Oper} {C : World → Prop} {Q : Exit → Act → World → Prop} {marks : List Nat}
theorem lB (hB : qB l marks = true) : ∀ (rest : List Nat) (listed : Array Bool) (a : Act) (w : World), nN l listed →
    (∀ i, i ∈ rest ↔ i < l.length ∧ listed.getD i false = false) → rest.Pairwise (· < ·) →
    (C w ∨ ∀ i ∈ rest, marks.getD i 2 = 2) → ep P l.toArray C Q (fun i => marks.getD i 2) rest a w →
    oL P .any l.toArray Q rest.length listed a w := by
  simp only [qB, Cj] at hB
  obtain ⟨⟨⟨⟨⟨hhard, hsel⟩, hback⟩, hmask⟩, hpair⟩, hmarks⟩ := hB
  have hsel' : ∀ (j : Nat) (o : Oper) cs b, l.toArray[j]? = some o → o.op ≠ .select cs b := by
    intro j o cs b hj heq
    have := Bn.1 hsel o (A9 (by simpa using hj))
    simp [heq] at this
  intro rest
  induction hn : rest.length generalizing rest with
  | zero =>
    intro listed a w hcl hmem hpw hC h
    have : rest = [] := B2 hn
    subst this
    refine ⟨?_, h⟩
    rw [List.eq_nil_iff_forall_not_mem]
    intro i hi
    obtain ⟨h0, o, ho, _⟩ := mem_ready.1 hi
    have hil : i < l.length := by have := (Al.1 (show l[i]? = some o by simpa using ho)).1; exact this
    have : i ∈ ([] : List Nat) := (hmem i).2 ⟨hil, by
      have : i < listed.size := by rw [hcl.size]; exact hil
      simp [this] at h0 ⊢; exact h0⟩
    cases this
  | succ n ih =>
    intro listed a w hcl hmem hpw hC h
    have hrest : rest ≠ [] := by intro e; subst e; simp at hn
    refine ⟨fun hnil => ?_, fun j hj => ?_⟩
    · -- the first of the rest is ready
      exfalso
      obtain ⟨i, r, rfl⟩ := List.exists_cons_of_ne_nil hrest
      have hi := (hmem i).1 (by simp)
      obtain ⟨o, ho⟩ : ∃ o, l[i]? = some o := ⟨_, Ad hi.1⟩
      have : i ∈ Region.ready .any l.toArray listed := mem_ready.2 ⟨by
          have hs : i < listed.size := by rw [hcl.size]; exact hi.1
          have := hi.2; simp [hs] at this ⊢; exact this, o, by simpa using ho, fun e he hb => by
        have h1 := Bn.1 hback i (B8.2 hi.1)
        simp only [ho] at h1
        have h2 := Array.all_eq_true'.1 h1 e he
        simp only [hb, Bool.not_true, Bool.false_or, Nat.blt_eq] at h2
        cases hl : listed.getD e.on false with
        | true => rfl
        | false =>
          have h3 : e.on ∈ i :: r := (hmem e.on).2 ⟨by omega, hl⟩
          rcases A7.1 h3 with h4 | h4
          · omega
          · have := D3 hpw h4; omega⟩
      rw [hnil] at this
      cases this
    · obtain ⟨h0, oj, hoj, hall⟩ := mem_ready.1 hj
      have hojl : l[j]? = some oj := by simpa using hoj
      have hjl : j < l.length := (Al.1 hojl).1
      have hjs : j < listed.size := by rw [hcl.size]; exact hjl
      have hjun : listed.getD j false = false := by simp [hjs] at h0 ⊢; exact h0
      have hjr : j ∈ rest := (hmem j).2 ⟨hjl, hjun⟩
      obtain ⟨l1, l2, rfl⟩ := List.append_of_mem hjr
      have hpw' := hpw
      rw [List.pairwise_append] at hpw'
      obtain ⟨p1, p2, p3⟩ := hpw'
      -- what stands before j and has not come up: apart from it, not both loud, none hard
      have hbefore : ∀ k ∈ l1, k < j ∧ ∀ ok, l[k]? = some ok → ok.apart l.toArray oj = true ∧ ¬ (marks.getD k 2 = 1 ∧ marks.getD j 2 = 1) ∧ marks.getD k 2 ≠ 2 ∧ marks.getD j 2 ≠ 2 := by
        intro k hk
        have hkj : k < j := p3 k hk j (by simp)
        refine ⟨hkj, fun ok hok => ?_⟩
        have h1 := Bn.1 hpair j (B8.2 hjl)
        simp only [hojl] at h1
        have h2 := Bn.1 h1 k (B8.2 hkj)
        simp only [hok, Bool.or_eq_true] at h2
        rcases h2 with h2 | h2
        · have h3 := jD hmask hcl j oj hojl hall k hkj h2
          have := ((hmem k).1 (by simp [hk])).2
          rw [h3] at this
          cases this
        · simp only [Cj, Bu, Bool.and_eq_false_iff, beq_eq_false_iff_ne, bne_iff_ne] at h2
          obtain ⟨⟨⟨q1, q2⟩, q3⟩, q4⟩ := h2
          exact ⟨q1, fun hh => by rcases q2 with q2 | q2 <;> simp_all, q3, q4⟩
      have hlen : (l1 ++ l2).length = n := by simp at hn ⊢; omega
      have hmem' : ∀ i, i ∈ l1 ++ l2 ↔ i < l.length ∧ (listed.setIfInBounds j true).getD i false = false := by
        intro i
        by_cases hij : j = i
        · subst hij
          have hnot : j ∉ l1 ++ l2 := by
            intro hh
            rcases B6.1 hh with hh | hh
            · have := p3 j hh j (by simp); omega
            · have := D3 p2 hh; omega
          simp [hnot, hjs]
        · rw [getD_set_ne false hij, ← hmem i]
          simp [Ne.symm hij]
      have hpw2 : (l1 ++ l2).Pairwise (· < ·) := by
        rw [List.pairwise_append]
        exact ⟨p1, (List.pairwise_cons.1 p2).2, fun x hx y hy => p3 x hx y (by simp [hy])⟩
      have hcl' : nN l (listed.setIfInBounds j true) := ⟨by simp [hcl.size], fun m om hom hm e he hb => by
        by_cases hjm : j = m
        · subst hjm
          obtain rfl : oj = om := Option.some.inj (hojl.symm.trans hom)
          exact getD_set_true (hall e he hb)
        · rw [getD_set_ne false hjm] at hm
          exact getD_set_true (hcl.closed m om hom hm e he hb)⟩
      have go : ∀ a' w', (C w' ∨ ∀ i ∈ l1 ++ l2, marks.getD i 2 = 2) → ep P l.toArray C Q (fun i => marks.getD i 2) (l1 ++ l2) a' w' → oL P .any l.toArray Q n (listed.setIfInBounds j true) a' w' := fun a' w' hC' h' => by
        have := ih (l1 ++ l2) hlen (listed.setIfInBounds j true) a' w' hcl' hmem' hpw2 hC' h'
        exact this
      have hmk : marks.getD j 2 = 0 ∨ marks.getD j 2 = 1 ∨ marks.getD j 2 = 2 := by
        rcases Cy j marks.length with h' | h'
        · have h1 := Bn.1 hmarks marks[j] (D0 h')
          simp only [Bool.or_eq_true, beq_iff_eq] at h1
          have : marks.getD j 2 = marks[j] := by simp [h']
          rw [this]; omega
        · right; right; simp [h']
      rcases hmk with hmk | hmk | hmk
      · -- it reads
        have hCw : C w := by
          rcases hC with h' | h'
          · exact h'
          · have := h' j hjr; omega
        have hb' : ∀ k ∈ l1, (fun i => marks.getD i 2) k ≠ 2 ∧ ∀ ok, l.toArray[k]? = some ok → ok.apart l.toArray oj = true := fun k hk => by
          have hkl := ((hmem k).1 (by simp [hk])).1
          exact ⟨((hbefore k hk).2 _ (Ad hkl)).2.2.1, fun ok hok => ((hbefore k hk).2 ok (by simpa using hok)).1⟩
        rcases l4 hsel' hoj hmk l2 l1 a w hCw hb' h with hw | ⟨hw, v, hv⟩
        · exact dE hoj hw (go _ w (.inl hCw) (g9 hsel' hoj hmk l2 undef l1 a w hCw hb' h (.inl ⟨hw, rfl⟩)))
        · exact bX hoj hw (hv.wp hCw (go _ w (.inl hCw) (g9 hsel' hoj hmk l2 v l1 a w hCw hb' h (.inr ⟨hw, hv⟩))))
      · -- it is loud
        have hCw : C w := by
          rcases hC with h' | h'
          · exact h'
          · have := h' j hjr; omega
        have hb' : ∀ k ∈ l1, (fun i => marks.getD i 2) k = 0 ∧ ∀ ok, l.toArray[k]? = some ok → ok.apart l.toArray oj = true := fun k hk => by
          have hkl := ((hmem k).1 (by simp [hk])).1
          have q := (hbefore k hk).2 _ (Ad hkl)
          have hk3 : marks.getD k 2 = 0 ∨ marks.getD k 2 = 1 ∨ marks.getD k 2 = 2 := by
            rcases Cy k marks.length with h' | h'
            · have h1 := Bn.1 hmarks marks[k] (D0 h')
              simp only [Bool.or_eq_true, beq_iff_eq] at h1
              have : marks.getD k 2 = marks[k] := by simp [h']
              rw [this]; omega
            · right; right; simp [h']
          refine ⟨?_, fun ok hok => ((hbefore k hk).2 ok (by simpa using hok)).1⟩
          rcases hk3 with h' | h' | h'
          · exact h'
          · exact absurd ⟨h', hmk⟩ q.2.1
          · exact absurd h' q.2.2.1
        rcases l5 hsel' hoj hmk l2 l1 a w hCw hb' h with ⟨hw, h'⟩ | ⟨hw, h'⟩
        · exact dE hoj hw (go _ w (.inl hCw) h')
        · exact bX hoj hw (bp (fun a' w' hh => go a' w' (.inl hh.2.1) hh.2.2) h')
      · -- the forced tail
        have hl1 : l1 = [] := by
          cases l1 with
          | nil => rfl
          | cons k r =>
            exfalso
            have hkl := ((hmem k).1 (by simp)).1
            exact ((hbefore k (by simp)).2 _ (Ad hkl)).2.2.2 hmk
        subst hl1
        have htail : ∀ i ∈ l2, marks.getD i 2 = 2 := by
          intro i hi
          have hji : j < i := D3 p2 hi
          have hil := ((hmem i).1 (by simp [hi])).1
          have h1 := Bn.1 (Bn.1 hhard i (B8.2 hil)) j (B8.2 hji)
          simp only [hmk, bne_self_eq_false, Bool.false_or, beq_iff_eq] at h1
          exact h1
        obtain ⟨o, ho, h'⟩ := h
        obtain rfl : oj = o := Option.some.inj (hoj.symm.trans ho)
        cases hw : Region.wanted oj (yielded l.toArray a.tmps)
        · rw [Aa (by simp [hw])] at h'
          exact dE hoj hw (go _ w (.inr htail) h')
        · rw [Ab hw] at h'
          rcases h' with ⟨h1, _⟩ | ⟨h1, _⟩ | ⟨_, h'⟩
          · simp only at h1; omega
          · simp only at h1; omega
          · exact bX hoj hw (bp (fun a' w' hh => go a' w' (.inr htail) hh) h')
end
def jQ (P : Program) (ops : Array Oper) (C : World → Prop) (Q : Exit → Act → World → Prop) : List Nat → List Oper → Act → World → Prop
  | _, [], a, w => Q .normal a w
  | [], _ :: _, _, _ => False
  | m :: ms, o :: rest, a, w =>
    if Region.wanted o (yielded ops a.tmps) then
      (m = 0 ∧ ∃ v, Reads P C o a v ∧ jQ P ops C Q ms rest (a.put o.dst v) w) ∨
      (m = 1 ∧ opX P o a w (fun a' w' => C w' ∧ jQ P ops C Q ms rest a' w') bD) ∨
      (m = 2 ∧ opX P o a w (fun a' w' => jQ P ops C Q ms rest a' w') bD)
    else jQ P ops C Q ms rest (a.put o.dst undef) w
theorem nj {P : Program} {l : List Oper} {C : World → Prop} {Q : Exit → Act → World → Prop} {marks : List Nat} : ∀ (n k : Nat) (a : Act) (w : World), k + n = l.length →
    jQ P l.toArray C Q (marks.drop k) (l.drop k) a w → ep P l.toArray C Q (fun i => marks.getD i 2) (List.range' k n) a w := by
  intro n
  induction n with
  | zero =>
    intro k a w hk h
    have : l.drop k = [] := Db (by omega)
    rw [this] at h
    simp only [List.range'_zero, ep]
    cases hm : marks.drop k <;> rw [hm] at h <;> exact h
  | succ n ih =>
    intro k a w hk h
    have hkl : k < l.length := by omega
    rw [Bo hkl] at h
    rw [List.range'_succ]
    rcases Cy k marks.length with hkm | hkm
    · rw [Bo hkm] at h
      have hm : marks.getD k 2 = marks[k] := by simp [hkm]
      refine ⟨l[k], by simp [hkl], ?_⟩
      simp only [jQ] at h
      split at h
      · rename_i hw
        rw [Ab hw]
        simp only [hm]
        rcases h with ⟨h1, v, hv, h2⟩ | ⟨h1, h2⟩ | ⟨h1, h2⟩
        · exact .inl ⟨h1, v, hv, ih (k + 1) _ _ (by omega) h2⟩
        · exact .inr (.inl ⟨h1, bp (fun a' w' hh => ⟨hh.1, ih (k + 1) a' w' (by omega) hh.2⟩) h2⟩)
        · exact .inr (.inr ⟨h1, bp (fun a' w' hh => ih (k + 1) a' w' (by omega) hh) h2⟩)
      · rename_i hw
        rw [Aa hw]
        exact ih (k + 1) _ _ (by omega) h
    · rw [Db hkm] at h
      exact h.elim
theorem lz {P : Program} {ρ : Option Nat} {id : Nat} {l : List Oper} {C : World → Prop} {Q : Exit → Act → World → Prop} {a : Act} {w : World} (marks : List Nat) (hp : jL ρ l) (hm : P.follows .mixedOrders = true)
    (hB : qB l marks = true) (hC : C { w with drawn := w.drawn + 1 }) (h : jQ P l.toArray C Q marks l a { w with drawn := w.drawn + 1 }) : cdX ρ P (.region id l.toArray true) Q a w := by
  refine vl hp hm ?_
  have := lB hB (List.range l.length) (Array.replicate l.toArray.size false) a { w with drawn := w.drawn + 1 }
    ⟨by simp, fun j o _ hj => by simp [Array.getElem?_replicate] at hj; split at hj <;> simp at hj⟩
    (fun i => by simp [Array.getElem?_replicate]; intro hi; simp [hi]) List.pairwise_lt_range (.inl hC)
    (by rw [List.range_eq_range']; exact nj l.length 0 a _ (by omega) (by simpa using h))
  simpa using this
end Go.Proofs.YtkdlonihbjhhoaaGreatDoor
namespace Go.Proofs.YtkdlonihbjhhoaaGreatDoor
open Go.RowKit
set_option linter.unusedSimpArgs false
set_option linter.unusedVariables false
set_option maxHeartbeats 600000
set_option maxRecDepth 20000
theorem sB : (∀ (p : Prop) [Decidable p], (decide p = true) = p) ∧ (∀ (p : Prop) [Decidable p], (decide p = false) = ¬p) ∧ (∀ b : Bool, ((!b) = true) = (b = false)) ∧ (∀ b : Bool, ((!b) = false) = (b = true)) ∧ (∀ b : Bool, (!!b) = b) ∧ (∀ a b : Int, (¬ a < b) = (b ≤ a)) ∧ (∀ a b : Int, (¬ a ≤ b) = (b < a)) :=
  ⟨fun _ _ => by simp, fun _ _ => by simp, fun _ => by simp, fun _ => by simp, fun _ => by simp, fun _ _ => by simp, fun _ _ => by simp⟩
theorem sN : (∀ n : Nat, ((n : Int)).toNat = n) ∧ (∀ n : Nat, n * 1 = n) ∧ (∀ n : Nat, 0 + n = n) ∧ (∀ n : Nat, n + 0 = n) ∧ (∀ n : Nat, 0 * n = 0) ∧ (∀ n : Nat, n - 0 = n) :=
  ⟨fun _ => by simp, fun _ => by simp, fun _ => by simp, fun _ => by simp, fun _ => by simp, fun _ => by simp⟩
abbrev ak := List (Nat × Value)
def al : ak → Nat → Option Value
  | [], _ => none
  | (d, v) :: L, k => bif Nat.beq k d then some v else al L k
structure Fr (ds : List Deferred) (a : Act) (n : Nat) (L : ak) : Prop where
  size : a.tmps.size = n
  defers : a.defers = ds
  at_ : ∀ k v, al L k = some v → a.tmps[k]? = some v
def ag (L : ak) : Operand → Option Value
  | .tmp t => al L t
  | .const v => some v
  | .global g => some (.pointer (some ⟨g, 0, none⟩))
  | .func f => some (.func (.func f) #[] #[])
theorem Fr.eval {ds : List Deferred} {a : Act} {n : Nat} {L : ak} (h : Fr ds a n L) {x : Operand} {v : Value} (hx : ag L x = some v) : a.eval x = v := by
  cases x with
  | tmp t => have := h.at_ t v hx; simp [Act.eval, this]
  | const u => simpa [ag, Act.eval] using hx
  | global g => simpa [ag, Act.eval] using hx
  | func f => simpa [ag, Act.eval] using hx
theorem Fr.put {ds : List Deferred} {a : Act} {n : Nat} {L : ak} (h : Fr ds a n L) {d : Nat} (hd : Nat.blt d n = true) (v : Value) : Fr ds (a.put (some d) v) n ((d, v) :: L) := by
  have hd' : d < n := by simpa using hd
  refine ⟨by simp [Act.put, h.size], h.defers, fun k u hk => ?_⟩
  simp only [al] at hk
  cases hb : Nat.beq k d with
  | true =>
    have : k = d := Nat.eq_of_beq_eq_true hb
    subst this
    simp only [hb, cond_true, Option.some.injEq] at hk
    subst hk
    simp [Act.put, h.size, hd']
  | false =>
    simp only [hb, cond_false] at hk
    have hne : d ≠ k := fun e => by subst e; simp at hb
    simp only [Act.put, Array.getElem?_setIfInBounds_ne hne]
    exact h.at_ k u hk
theorem Fr.none {ds : List Deferred} {a : Act} {n : Nat} {L : ak} (h : Fr ds a n L) (v : Value) : Fr ds (a.put none v) n L := h
def putL (dst : Option Tmp) (v : Value) (L : ak) : ak :=
  match dst with
  | some d => (d, v) :: L
  | none => L
def iS (dst : Option Tmp) (n : Nat) : Bool :=
  match dst with
  | some d => Nat.blt d n
  | none => true
theorem Fr.putL {ds : List Deferred} {a : Act} {n : Nat} {L : ak} (h : Fr ds a n L) {dst : Option Tmp} (hd : iS dst n = true) (v : Value) : Fr ds (a.put dst v) n (putL dst v L) := by
  cases dst with
  | none => exact h
  | some d => exact h.put hd v
theorem Fr.sub {ds : List Deferred} {a : Act} {n : Nat} {L L' : ak} (h : Fr ds a n L) (hs : ∀ k v, al L' k = some v → al L k = some v) : Fr ds a n L' := ⟨h.size, h.defers, fun k v hk => h.at_ k v (hs k v hk)⟩
theorem cS (L : ak) : ∀ k v, al [] k = some v → al L k = some v := fun _ _ h => by simp [al] at h
theorem ao {L L' : ak} {d : Nat} {v : Value} (h : al L d = some v) (h' : ∀ k u, al L' k = some u → al L k = some u) : ∀ k u, al ((d, v) :: L') k = some u → al L k = some u := by
  intro k u hk
  simp only [al] at hk
  cases hb : Nat.beq k d with
  | true =>
    have : k = d := Nat.eq_of_beq_eq_true hb
    subst this
    simp only [hb, cond_true, Option.some.injEq] at hk
    subst hk; exact h
  | false => simp only [hb, cond_false] at hk; exact h' k u hk
theorem Fr.enter {args : Array Value} {n m : Nat} {L : ak} (hn : args.size + m = n) (hL : ∀ k v, al L k = some v → args[k]? = some v) :
    Fr [] { tmps := args ++ Array.replicate m undef, defers := [] } n L :=
  ⟨by simp [hn], rfl, fun k v hk => by
    have h1 := hL k v hk
    have : k < args.size := (A3.1 h1).1
    rw [Array.getElem?_append_left this]; exact h1⟩
theorem ja (args : Array Value) : ∀ k v, al [] k = some v → args[k]? = some v := fun _ _ h => by simp [al] at h
theorem fi {args : Array Value} {L : ak} {d : Nat} {v : Value} (h : args[d]? = some v) (h' : ∀ k u, al L k = some u → args[k]? = some u) : ∀ k u, al ((d, v) :: L) k = some u → args[k]? = some u := by
  intro k u hk
  simp only [al] at hk
  cases hb : Nat.beq k d with
  | true =>
    have : k = d := Nat.eq_of_beq_eq_true hb
    subst this
    simp only [hb, cond_true, Option.some.injEq] at hk
    subst hk; exact h
  | false => simp only [hb, cond_false] at hk; exact h' k u hk
def aC (ops : List Oper) (L : ak) (o : Oper) : Option Bool :=
  match o.guard with
  | none => some true
  | some (g, b) => match (ops[g]?).bind (·.dst) with
    | none => some false
    | some d => match al L d with
      | some (.bool c) => some (c == b)
      | some _ => some false
      | none => none
theorem bm {ds : List Deferred} {ops : List Oper} {L : ak} {o : Oper} {a : Act} {n : Nat} {c : Bool} (h : Fr ds a n L) (hw : aC ops L o = some c) : Region.wanted o (yielded ops.toArray a.tmps) = c := by
  unfold aC at hw
  unfold Region.wanted
  cases hg : o.guard with
  | none => simp only [hg, Option.some.injEq] at hw; exact hw
  | some gb =>
    obtain ⟨g, b⟩ := gb
    simp only [hg] at hw
    simp only [yielded, De]
    cases hd : (ops[g]?).bind (·.dst) with
    | none => simp only [hd, Option.some.injEq] at hw; subst hw; simp
    | some d =>
      simp only [hd] at hw
      simp only [Option.bind_some]
      cases hs : al L d with
      | none => simp [hs] at hw
      | some v =>
        rw [h.at_ d v hs]
        simp only [hs] at hw
        cases v <;> simp_all
def WL (ds : List Deferred) (P : Program) (ops : List Oper) (Q : Exit → Act → World → Prop) (n : Nat) (rest : List Oper) (L : ak) (S : World → Prop) : Prop :=
  ∀ a w, Fr ds a n L → S w → fN P ops.toArray Q rest a w
def WM (ds : List Deferred) (P : Program) (ops : List Oper) (C : World → Prop) (Q : Exit → Act → World → Prop) (n : Nat) (marks : List Nat) (rest : List Oper) (L : ak) (S : World → Prop) : Prop :=
  ∀ a w, Fr ds a n L → S w → jQ P ops.toArray C Q marks rest a w
def WC (ds : List Deferred) (ρ : Option Nat) (P : Program) (c : Code) (Q : Exit → Act → World → Prop) (n : Nat) (L : ak) (S : World → Prop) : Prop :=
  ∀ a w, Fr ds a n L → S w → cdX ρ P c Q a w
def WX (ds : List Deferred) (Q : Exit → Act → World → Prop) (e : Exit) (n : Nat) (L : ak) (S : World → Prop) : Prop :=
  ∀ a w, Fr ds a n L → S w → Q e a w
def Rd (ds : List Deferred) (P : Program) (o : Oper) (n : Nat) (L : ak) (S : World → Prop) (v : Value) : Prop :=
  ∀ a, Fr ds a n L → Reads P S o a v
def Op1 (ds : List Deferred) (P : Program) (o : Oper) (n : Nat) (L : ak) (S : World → Prop) (R : Value → World → Prop) : Prop :=
  ∀ a w, Fr ds a n L → S w → opX P o a w (fun a' w' => ∃ v, a' = a.put o.dst v ∧ R v w') bD
section
variable {ds : List Deferred} {ρ : Option Nat} {P : Program} {ops : List Oper} {C S : World → Prop} {Q : Exit → Act → World → Prop} {n : Nat} {rest : List Oper} {L : ak} {o : Oper} {v : Value} {marks : List Nat}
theorem WL.rd (hw : aC ops L o = some true) (hd : iS o.dst n = true) (h : Rd ds P o n L S v) (k : WL ds P ops Q n rest (putL o.dst v L) S) : WL ds P ops Q n (o :: rest) L S := by
  intro a w hF hS
  unfold fN
  rw [Ab (bm hF hw)]
  exact (h a hF).wp hS (k _ w (hF.putL hd v) hS)
theorem WL.skip (hw : aC ops L o = some false) (hd : iS o.dst n = true) (k : WL ds P ops Q n rest (putL o.dst undef L) S) : WL ds P ops Q n (o :: rest) L S := by
  intro a w hF hS
  unfold fN
  rw [Aa (by rw [bm hF hw]; simp)]
  exact k _ w (hF.putL hd undef) hS
theorem mJ {o : Oper} {a : Act} {w : World} {K : Act → World → Prop} (h : opX P o a w K bD) : opX P o a w K Q := by
  unfold opX at *
  generalize (execOp a.eval o).run P w = r at *
  cases r with
  | ok n w' =>
    cases n <;> simp only [Oper.uponIn] at h ⊢ <;> try exact h
    case enter f args =>
      refine ⟨h.1, CallsIn.mono h.2 fun e w'' he => ?_⟩
      cases e with
      | returned u => exact he
      | panicked c => exact he.elim
      | outgrown => obtain ⟨_, _, h⟩ := he; exact h.elim
    case round l f tmps assign body =>
      refine ⟨h.1, RoundIn.mono h.2 fun e w'' he => ?_⟩
      cases e with
      | returned u => exact he
      | panicked c => exact he.elim
      | outgrown => obtain ⟨_, _, h⟩ := he; exact h.elim
  | halt x w' => cases x <;> simp only [Oper.uponIn] at h ⊢ <;> exact h.elim
theorem WL.op {R : Value → World → Prop} (hw : aC ops L o = some true) (hd : iS o.dst n = true) (h : Op1 ds P o n L S R) (k : ∀ v, WL ds P ops Q n rest (putL o.dst v L) (R v)) : WL ds P ops Q n (o :: rest) L S := by
  intro a w hF hS
  unfold fN
  rw [Ab (bm hF hw)]
  refine (mJ (bp (fun a' w' hh => ?_) (h a w hF hS)))
  obtain ⟨v, rfl, hR⟩ := hh
  exact k v _ w' (hF.putL hd v) hR
theorem WL.nil (k : WX ds Q .normal n L S) : WL ds P ops Q n [] L S := fun a w hF hS => k a w hF hS
theorem WM.rd (hw : aC ops L o = some true) (hd : iS o.dst n = true) (h : Rd ds P o n L C v) (k : WM ds P ops C Q n marks rest (putL o.dst v L) S) : WM ds P ops C Q n (0 :: marks) (o :: rest) L S := by
  intro a w hF hS
  unfold jQ
  rw [Ab (bm hF hw)]
  exact .inl ⟨rfl, v, h a hF, k _ w (hF.putL hd v) hS⟩
theorem WM.skip {m : Nat} (hw : aC ops L o = some false) (hd : iS o.dst n = true) (k : WM ds P ops C Q n marks rest (putL o.dst undef L) S) : WM ds P ops C Q n (m :: marks) (o :: rest) L S := by
  intro a w hF hS
  unfold jQ
  rw [Aa (by rw [bm hF hw]; simp)]
  exact k _ w (hF.putL hd undef) hS
theorem WM.op {R : Value → World → Prop} (hw : aC ops L o = some true) (hd : iS o.dst n = true) (h : Op1 ds P o n L S R) (hC : ∀ v w, R v w → C w) (k : ∀ v, WM ds P ops C Q n marks rest (putL o.dst v L) (R v)) :
    WM ds P ops C Q n (1 :: marks) (o :: rest) L S := by
  intro a w hF hS
  unfold jQ
  rw [Ab (bm hF hw)]
  refine .inr (.inl ⟨rfl, bp (fun a' w' hh => ?_) (h a w hF hS)⟩)
  obtain ⟨v, rfl, hR⟩ := hh
  exact ⟨hC v w' hR, k v _ w' (hF.putL hd v) hR⟩
theorem WM.hard {R : Value → World → Prop} (hw : aC ops L o = some true) (hd : iS o.dst n = true) (h : Op1 ds P o n L S R) (k : ∀ v, WM ds P ops C Q n marks rest (putL o.dst v L) (R v)) :
    WM ds P ops C Q n (2 :: marks) (o :: rest) L S := by
  intro a w hF hS
  unfold jQ
  rw [Ab (bm hF hw)]
  refine .inr (.inr ⟨rfl, bp (fun a' w' hh => ?_) (h a w hF hS)⟩)
  obtain ⟨v, rfl, hR⟩ := hh
  exact k v _ w' (hF.putL hd v) hR
theorem WM.nil (k : WX ds Q .normal n L S) : WM ds P ops C Q n [] [] L S := fun a w hF hS => k a w hF hS
theorem Op1.of_rd (h : Rd ds P o n L S v) : Op1 ds P o n L S (fun u w => u = v ∧ S w) := fun a w hF hS => (h a hF).wp hS ⟨v, rfl, rfl, hS⟩
theorem WM.hard_rd (hw : aC ops L o = some true) (hd : iS o.dst n = true) (h : Rd ds P o n L S v) (k : WM ds P ops C Q n marks rest (putL o.dst v L) S) : WM ds P ops C Q n (2 :: marks) (o :: rest) L S :=
  WM.hard hw hd (Op1.of_rd h) fun _ a _ hF ⟨e, hS⟩ => by subst e; exact k a _ hF hS
theorem WL.st {S' : World → Prop} (h : ∀ w, S w → S' w) (k : WL ds P ops Q n rest L S') : WL ds P ops Q n rest L S := fun a w hF hS => k a w hF (h w hS)
theorem WM.st {S' : World → Prop} (h : ∀ w, S w → S' w) (k : WM ds P ops C Q n marks rest L S') : WM ds P ops C Q n marks rest L S := fun a w hF hS => k a w hF (h w hS)
theorem WC.st {c : Code} {S' : World → Prop} (h : ∀ w, S w → S' w) (k : WC ds ρ P c Q n L S') : WC ds ρ P c Q n L S := fun a w hF hS => k a w hF (h w hS)
theorem WX.st {e : Exit} {S' : World → Prop} (h : ∀ w, S w → S' w) (k : WX ds Q e n L S') : WX ds Q e n L S := fun a w hF hS => k a w hF (h w hS)
theorem Fr.set {ds : List Deferred} {a : Act} {d : Nat} {v v' : Value} (hF : Fr ds a n L) (h : al L d = some v) (e : v = v') : Fr ds a n ((d, v') :: L) :=
  hF.sub (ao (e ▸ h) (fun _ _ h => h))
theorem WL.set (d : Nat) {v v' : Value} (h : al L d = some v) (e : v = v') (k : WL ds P ops Q n rest ((d, v') :: L) S) : WL ds P ops Q n rest L S := fun a w hF hS => k a w (hF.set h e) hS
theorem WM.set (d : Nat) {v v' : Value} (h : al L d = some v) (e : v = v') (k : WM ds P ops C Q n marks rest ((d, v') :: L) S) : WM ds P ops C Q n marks rest L S := fun a w hF hS => k a w (hF.set h e) hS
theorem WC.set {c : Code} (d : Nat) {v v' : Value} (h : al L d = some v) (e : v = v') (k : WC ds ρ P c Q n ((d, v') :: L) S) : WC ds ρ P c Q n L S := fun a w hF hS => k a w (hF.set h e) hS
theorem WL.bool (d : Nat) {t : Bool} (h : al L d = some (.bool t)) (h1 : t = true → WL ds P ops Q n rest ((d, .bool true) :: L) S) (h2 : t = false → WL ds P ops Q n rest ((d, .bool false) :: L) S) : WL ds P ops Q n rest L S := by
  cases t
  · exact WL.set d h rfl (h2 rfl)
  · exact WL.set d h rfl (h1 rfl)
theorem WM.bool (d : Nat) {t : Bool} (h : al L d = some (.bool t)) (h1 : t = true → WM ds P ops C Q n marks rest ((d, .bool true) :: L) S) (h2 : t = false → WM ds P ops C Q n marks rest ((d, .bool false) :: L) S) : WM ds P ops C Q n marks rest L S := by
  cases t
  · exact WM.set d h rfl (h2 rfl)
  · exact WM.set d h rfl (h1 rfl)
theorem WC.sub {c : Code} {L' : ak} (hs : ∀ k v, al L' k = some v → al L k = some v) (k : WC ds ρ P c Q n L' S) : WC ds ρ P c Q n L S := fun a w hF hS => k a w (hF.sub hs) hS
theorem WC.seq {x y : Code} (k : WC ds ρ P x (Exit.then (cdX ρ P y Q) Q) n L S) : WC ds ρ P (.seq x y) Q n L S := fun a w hF hS => wpIn_seq (k a w hF hS)
theorem WC.block {id : Nat} {c : Code} (k : WC ds ρ P c (Exit.inBlock id Q) n L S) : WC ds ρ P (.block id c) Q n L S := fun a w hF hS => wpIn_block (k a w hF hS)
theorem WC.skip (k : WX ds Q .normal n L S) : WC ds ρ P .skip Q n L S := fun a w hF hS => wpIn_skip (k a w hF hS)
theorem WC.exit {id : Nat} (k : WX ds Q (.exit id) n L S) : WC ds ρ P (.exit id) Q n L S := fun a w hF hS => wpIn_exit (k a w hF hS)
theorem WC.ret (k : WX ds Q .ret n L S) : WC ds ρ P .ret Q n L S := fun a w hF hS => wpIn_ret (k a w hF hS)
theorem WC.region {id : Nat} {l : List Oper} (k : WL ds P l Q n l L S) : WC ds none P (.region id l.toArray false) Q n L S := fun a w hF hS => vk (.inl rfl) (k a w hF hS)
theorem WR.region {id : Nat} {l : List Oper} (hp : lY l = true) (k : WL ds P l Q n l L S) : WC ds ρ P (.region id l.toArray false) Q n L S := fun a w hF hS => vk (.inr hp) (k a w hF hS)
theorem WC.cond {c : Operand} {x y : Code} {t : Bool} (hc : ag L c = some (.bool t)) (h1 : t = true → WC ds ρ P x Q n L S) (h2 : t = false → WC ds ρ P y Q n L S) : WC ds ρ P (.cond c x y) Q n L S := fun a w hF hS =>
  wpIn_cond_split (hF.eval hc) (fun e => h1 e a w hF hS) (fun e => h2 e a w hF hS)
theorem WC.mix {id : Nat} {l : List Oper} (marks : List Nat) (hm : P.follows .mixedOrders = true) (hB : qB l marks = true) (hS : ∀ w, S w → S { w with drawn := w.drawn + 1 }) (k : WM ds P l S Q n marks l L S) :
    WC ds none P (.region id l.toArray true) Q n L S := fun a w hF h => lz marks (.inl rfl) hm hB (hS w h) (k a _ hF (hS w h))
theorem WX.then_normal {y : Code} (k : WC ds ρ P y Q n L S) : WX ds (Exit.then (cdX ρ P y Q) Q) .normal n L S := fun a w hF hS => k a w hF hS
theorem WX.then_exit {K : Act → World → Prop} {id : Nat} (k : WX ds Q (.exit id) n L S) : WX ds (Exit.then K Q) (.exit id) n L S := fun a w hF hS => k a w hF hS
theorem WX.then_ret {K : Act → World → Prop} (k : WX ds Q .ret n L S) : WX ds (Exit.then K Q) .ret n L S := fun a w hF hS => k a w hF hS
theorem WX.block_normal {id : Nat} (k : WX ds Q .normal n L S) : WX ds (Exit.inBlock id Q) .normal n L S := fun a w hF hS => k a w hF hS
theorem WX.block_ret {id : Nat} (k : WX ds Q .ret n L S) : WX ds (Exit.inBlock id Q) .ret n L S := fun a w hF hS => k a w hF hS
theorem WX.block_exit {id : Nat} (k : WX ds Q .normal n L S) : WX ds (Exit.inBlock id Q) (.exit id) n L S := fun a w hF hS => by
  show (if id = id then Q .normal a w else Q (.exit id) a w); rw [Ab rfl]; exact k a w hF hS
theorem WX.block_other {id id' : Nat} (hne : Nat.beq id' id = false) (k : WX ds Q (.exit id') n L S) : WX ds (Exit.inBlock id Q) (.exit id') n L S := fun a w hF hS => by
  have : id' ≠ id := fun e => by subst e; simp at hne
  show (if id' = id then Q .normal a w else Q (.exit id') a w); rw [Aa this]; exact k a w hF hS
def mB (ds : List Deferred) {σ : Type} (Ls : σ → ak) (Ss : σ → World → Prop) (μ : σ → Nat) (n : Nat) (s : σ) (a : Act) (w : World) : Prop := ∃ s', μ s' < μ s ∧ Fr ds a n (Ls s') ∧ Ss s' w
theorem WC.loop {c : Code} {σ : Type} (Ls : σ → ak) (Ss : σ → World → Prop) (μ : σ → Nat) (s0 : σ) (hL : ∀ k v, al (Ls s0) k = some v → al L k = some v) (hS : ∀ w, S w → Ss s0 w)
    (round : ∀ s, WC ds ρ P c (Exit.then (mB ds Ls Ss μ n s) Q) n (Ls s) (Ss s)) : WC ds ρ P (.loop c) Q n L S := by
  intro a w hF h b k cs hro hb hr
  have key : ∀ m s, μ s = m → ∀ a w, Fr ds a n (Ls s) → Ss s w → ∃ e a' w', Q e a' w' ∧ ArrivesIn (Machine.fenced P (wd ρ)) P (lone (b.atR a (.code c :: .inLoop c :: k)) cs w) b k cs e a' w' := by
    intro m
    induction m using Nat.strongRecOn with
    | _ m ih =>
      intro s hs a w hF hS
      obtain ⟨e, a₁, w₁, hq, harr⟩ := round s a w hF hS b (.inLoop c :: k) cs hro hb hr
      cases e with
      | normal =>
        obtain ⟨s', hlt, hF', hS'⟩ := hq
        obtain ⟨e₂, a₂, w₂, hq₂, harr₂⟩ := ih (μ s') (hs ▸ hlt) s' rfl a₁ w₁ hF' hS'
        exact ⟨e₂, a₂, w₂, hq₂, .of_steps (StepsIn.trans harr (.one (fenced_calm hb hr rfl) stepR_inLoop)) harr₂⟩
      | exit id => exact ⟨_, a₁, w₁, hq, .pass (x := .inLoop c) rfl (fun _ _ => .inl (by simp)) harr⟩
      | goto l => exact ⟨_, a₁, w₁, hq, .pass (x := .inLoop c) rfl (fun _ _ => .inl (by simp)) harr⟩
      | ret => exact ⟨_, a₁, w₁, hq, .pass (x := .inLoop c) rfl (fun _ _ => .inl (by simp)) harr⟩
      | panic ch => exact ⟨_, a₁, w₁, hq, .pass (x := .inLoop c) rfl (fun _ _ => .inl (by simp)) harr⟩
      | outgrown => exact ⟨_, a₁, w₁, hq, .pass (x := .inLoop c) rfl (fun _ _ => .inl (by simp)) harr⟩
  obtain ⟨e, a', w', hq, harr⟩ := key _ s0 rfl a w (hF.sub hL) (hS w h)
  exact ⟨e, a', w', hq, .of_steps (.one (fenced_calm hb hr rfl) stepR_loop) harr⟩
theorem WX.loop {σ : Type} {Ls : σ → ak} {Ss : σ → World → Prop} {μ : σ → Nat} {s : σ} (s' : σ) (hμ : μ s' < μ s) (hL : ∀ k v, al (Ls s') k = some v → al L k = some v) (hS : ∀ w, S w → Ss s' w) :
    WX ds (Exit.then (mB ds Ls Ss μ n s) Q) .normal n L S := fun _ w hF h => ⟨s', hμ, hF.sub hL, hS w h⟩
end
def S (l : List UInt8) : ByteArray := ⟨l.toArray⟩
theorem nM (s : ByteArray) : S s.data.toList = s := by cases s; simp [S]
theorem CP {a b : List UInt8} (h : S a = S b) : a = b := by have := congrArg (fun s : ByteArray => s.data.toList) h; simpa [S] using this
theorem ii (l : List UInt8) : (S l).size = l.length := by simp [S, ByteArray.size]
theorem vG (a b : List UInt8) : S a ++ S b = S (a ++ b) := by
  have h : (S a ++ S b).data.toList = a ++ b := by simp [S]
  rw [← nM (S a ++ S b), h]
theorem sZ (l : List UInt8) (i j : Nat) : (S l).extract i j = S ((l.drop i).take (j - i)) := by
  rw [← nM ((S l).extract i j), Lib.extract_data]; simp [S]
theorem oO (l : List UInt8) : (S l).toList = l := ByteArray.toList_mk l
theorem CQ (l : List UInt8) (i : Nat) : (S l)[i]? = l[i]? := by
  by_cases h : i < l.length
  · have : i < (S l).size := by rw [ii]; exact h
    rw [getElem?_pos (S l) i this, Ad h]; rfl
  · have : ¬ i < (S l).size := by rw [ii]; exact h
    rw [getElem?_neg (S l) i this, Df (by omega)]
section
variable {ds : List Deferred} {ρ : Option Nat} {P : Program} {o : Oper} {n : Nat} {L : ak} {St : World → Prop} {x y z : Operand} {v u : Value} {t t2 : TypeId}
theorem aH (h : ∀ a, Fr ds a n L → ∀ w, St w → (execOp a.eval o).run P w = .ok (.value v) w) : Rd ds P o n L St v := fun a hF w hw => .inl (h a hF w hw)
theorem ci (hop : o.op = .move x) (hx : ag L x = some v) : Rd ds P o n L St v := aH fun a hF w _ => by simp [execOp, hop, hF.eval hx]
theorem bI (hop : o.op = .assign x) (hx : ag L x = some v) : Rd ds P o n L St v := aH fun a hF w _ => by simp [execOp, hop, hF.eval hx]
theorem aY {op : BinOp} {r : Value} (hop : o.op = .binOp op t x y t2) (hx : ag L x = some v) (hy : ag L y = some u) (hg : ∀ w : World, (eqGuard op t x y v u).run P w = .ok () w) (h : ∀ w : World, (binOp op t v u).run P w = .ok r w) : Rd ds P o n L St r :=
  aH fun a hF w _ => by simp [execOp, hop, hF.eval hx, hF.eval hy, hg, h]
theorem aW (op : BinOp) (k k' : IntKind) (i j : Int) (w : World) : (eqGuard op t x y (.int k i) (.int k' j)).run P w = .ok () w := by
  cases op <;> simp [eqGuard]
theorem fy (op : BinOp) (a b : ByteArray) (w : World) : (eqGuard op t x y (.string a) (.string b)).run P w = .ok () w := by
  cases op <;> simp [eqGuard]
theorem k7 (op : BinOp) (a b : Bool) (w : World) : (eqGuard op t x y (.bool a) (.bool b)).run P w = .ok () w := by
  cases op <;> simp [eqGuard]
variable {k : IntKind} {i j : Int}
theorem m5 (hop : o.op = .binOp .add t x y t2) (hx : ag L x = some (.int k i)) (hy : ag L y = some (.int k j)) : Rd ds P o n L St (.int k (k.wrap (i + j))) :=
  aY hop hx hy (aW _ _ _ _ _) fun w => by simp [binOp, Op.intArith]
theorem kF (hop : o.op = .binOp .sub t x y t2) (hx : ag L x = some (.int k i)) (hy : ag L y = some (.int k j)) : Rd ds P o n L St (.int k (k.wrap (i - j))) :=
  aY hop hx hy (aW _ _ _ _ _) fun w => by simp [binOp, Op.intArith]
theorem mX (hop : o.op = .binOp .mul t x y t2) (hx : ag L x = some (.int k i)) (hy : ag L y = some (.int k j)) : Rd ds P o n L St (.int k (k.wrap (i * j))) :=
  aY hop hx hy (aW _ _ _ _ _) fun w => by simp [binOp, Op.intArith]
theorem bf (hop : o.op = .binOp .add t x y t2) (hx : ag L x = some (.int .i64 i)) (hy : ag L y = some (.int .i64 j)) (h : -9223372036854775808 ≤ i + j ∧ i + j ≤ 9223372036854775807) : Rd ds P o n L St (.int .i64 (i + j)) := by
  have := m5 (ds := ds) (P := P) (n := n) (St := St) hop hx hy; rwa [IntWalk.i64_in _ h] at this
theorem aJ (hop : o.op = .binOp .sub t x y t2) (hx : ag L x = some (.int .i64 i)) (hy : ag L y = some (.int .i64 j)) (h : -9223372036854775808 ≤ i - j ∧ i - j ≤ 9223372036854775807) : Rd ds P o n L St (.int .i64 (i - j)) := by
  have := kF (ds := ds) (P := P) (n := n) (St := St) hop hx hy; rwa [IntWalk.i64_in _ h] at this
theorem kK (hop : o.op = .binOp .mul t x y t2) (hx : ag L x = some (.int .i64 i)) (hy : ag L y = some (.int .i64 j)) (h : -9223372036854775808 ≤ i * j ∧ i * j ≤ 9223372036854775807) : Rd ds P o n L St (.int .i64 (i * j)) := by
  have := mX (ds := ds) (P := P) (n := n) (St := St) hop hx hy; rwa [IntWalk.i64_in _ h] at this
theorem kL (hop : o.op = .binOp .lss t x y t2) (hx : ag L x = some (.int k i)) (hy : ag L y = some (.int k j)) : Rd ds P o n L St (.bool (decide (i < j))) :=
  aY hop hx hy (aW _ _ _ _ _) fun w => by simp [binOp, Op.intCmp]
theorem tS (hop : o.op = .binOp .leq t x y t2) (hx : ag L x = some (.int k i)) (hy : ag L y = some (.int k j)) : Rd ds P o n L St (.bool (decide (i ≤ j))) :=
  aY hop hx hy (aW _ _ _ _ _) fun w => by simp [binOp, Op.intCmp]
theorem mY (hop : o.op = .binOp .gtr t x y t2) (hx : ag L x = some (.int k i)) (hy : ag L y = some (.int k j)) : Rd ds P o n L St (.bool (decide (j < i))) :=
  aY hop hx hy (aW _ _ _ _ _) fun w => by simp [binOp, Op.intCmp]
theorem ph (hop : o.op = .binOp .geq t x y t2) (hx : ag L x = some (.int k i)) (hy : ag L y = some (.int k j)) : Rd ds P o n L St (.bool (decide (j ≤ i))) :=
  aY hop hx hy (aW _ _ _ _ _) fun w => by simp [binOp, Op.intCmp]
theorem y4 (hop : o.op = .binOp .eql t x y t2) (hx : ag L x = some (.int k i)) (hy : ag L y = some (.int k j)) : Rd ds P o n L St (.bool (decide (i = j))) :=
  aY hop hx hy (aW _ _ _ _ _) fun w => by simp [binOp, Op.intCmp]; exact Bz.2 (by simp)
theorem mW (hop : o.op = .binOp .neq t x y t2) (hx : ag L x = some (.int k i)) (hy : ag L y = some (.int k j)) : Rd ds P o n L St (.bool (!decide (i = j))) :=
  aY hop hx hy (aW _ _ _ _ _) fun w => by simp [binOp, Op.intCmp]; exact Bz.2 (by simp)
theorem pd (hop : o.op = .binOp .quo t x y t2) (hx : ag L x = some (.int k i)) (hy : ag L y = some (.int k j)) (h : j ≠ 0) : Rd ds P o n L St (.int k (k.wrap (i.tdiv j))) :=
  aY hop hx hy (aW _ _ _ _ _) fun w => by simp [binOp, Op.intDiv, h]
theorem mU (hop : o.op = .binOp .rem t x y t2) (hx : ag L x = some (.int k i)) (hy : ag L y = some (.int k j)) (h : j ≠ 0) : Rd ds P o n L St (.int k (i.tmod j)) :=
  aY hop hx hy (aW _ _ _ _ _) fun w => by simp [binOp, Op.intDiv, h]
theorem jg (hop : o.op = .binOp .shl t x y t2) {k' : IntKind} (hx : ag L x = some (.int k i)) (hy : ag L y = some (.int k' j)) (h : 0 ≤ j) : Rd ds P o n L St (.int k (k.wrap (i * 2 ^ (min j.toNat k.bits)))) :=
  aY hop hx hy (aW _ _ _ _ _) fun w => by simp [binOp, Op.shift, show ¬ j < 0 by omega]
theorem g5 (hop : o.op = .binOp .shr t x y t2) {k' : IntKind} (hx : ag L x = some (.int k i)) (hy : ag L y = some (.int k' j)) (h : 0 ≤ j) : Rd ds P o n L St (.int k (i.fdiv (2 ^ (min j.toNat k.bits)))) :=
  aY hop hx hy (aW _ _ _ _ _) fun w => by simp [binOp, Op.shift, show ¬ j < 0 by omega]
theorem m4 (hop : o.op = .binOp .and t x y t2) (hx : ag L x = some (.int k i)) (hy : ag L y = some (.int k j)) : Rd ds P o n L St (.int k (bits .and k i j)) :=
  aY hop hx hy (aW _ _ _ _ _) fun w => by simp [binOp, intBits_and]
theorem lT (hop : o.op = .binOp .or t x y t2) (hx : ag L x = some (.int k i)) (hy : ag L y = some (.int k j)) : Rd ds P o n L St (.int k (bits .or k i j)) :=
  aY hop hx hy (aW _ _ _ _ _) fun w => by simp [binOp, intBits_or]
theorem kE (hop : o.op = .binOp .xor t x y t2) (hx : ag L x = some (.int k i)) (hy : ag L y = some (.int k j)) : Rd ds P o n L St (.int k (bits .xor k i j)) :=
  aY hop hx hy (aW _ _ _ _ _) fun w => by simp [binOp, intBits_xor]
theorem o6 {op : UnOp} {r : Value} (hop : o.op = .unOp op t x) (hx : ag L x = some v) (h : ∀ w : World, (Op.unary op v).run P w = .ok r w) : Rd ds P o n L St r :=
  aH fun a hF w _ => by simp [execOp, hop, hF.eval hx, h]
theorem tP (hop : o.op = .unOp .neg t x) (hx : ag L x = some (.int k i)) : Rd ds P o n L St (.int k (k.wrap (0 - i))) := o6 hop hx fun w => by simp [Op.unary, Op.intArith]
theorem pe {b : Bool} (hop : o.op = .unOp .not t x) (hx : ag L x = some (.bool b)) : Rd ds P o n L St (.bool (!b)) := o6 hop hx fun w => by simp [Op.unary]
theorem y6 (hop : o.op = .unOp .xor t x) (hx : ag L x = some (.int k i)) : Rd ds P o n L St (.int k (bits .xor k (if k.signed then -1 else k.max) i)) := o6 hop hx fun w => by simp only [Op.unary, intBits_xor]; rfl
theorem ky {r : Value} (hop : o.op = .convert t t2 x) (hx : ag L x = some v) (h : ∀ w : World, St w → (convert t t2 v).run P w = .ok r w) : Rd ds P o n L St r :=
  aH fun a hF w hw => by simp [execOp, hop, hF.eval hx, h w hw]
theorem aR {k' : IntKind} (hop : o.op = .convert t t2 x) (hx : ag L x = some (.int k' i)) {d : TypeDesc} (h1 : P.underlying t = some d) (h2 : P.underlying t2 = some (.int k)) : Rd ds P o n L St (.int k (k.wrap i)) :=
  ky hop hx fun w _ => by simp [convert, run_underlying h1, run_underlying h2, Conv.intToInt]
theorem fY {a b : List UInt8} (hop : o.op = .binOp .add t x y t2) (hx : ag L x = some (.string (S a))) (hy : ag L y = some (.string (S b))) (h : a.length + b.length ≤ 9223372036854775807) : Rd ds P o n L St (.string (S (a ++ b))) :=
  aY hop hx hy (fy _ _ _) fun w => by
    have e : ¬ (((S a).size + (S b).size : Nat) : Int) > IntKind.i64.max := by
      rw [ii, ii]; simp [IntKind.max, IntKind.bits, IntKind.signed]; omega
    simp only [binOp, Op.stringOp, Aa e, vG]; rfl
theorem oZ (a b : List UInt8) : ((S a).toList == (S b).toList) = decide (a = b) := by rw [oO, oO]; exact Bz.2 (by simp)
theorem mT {a b : List UInt8} (hop : o.op = .binOp .eql t x y t2) (hx : ag L x = some (.string (S a))) (hy : ag L y = some (.string (S b))) : Rd ds P o n L St (.bool (decide (a = b))) :=
  aY hop hx hy (fy _ _ _) fun w => by simp only [binOp, Op.stringOp, oZ]; rfl
theorem pc {a b : List UInt8} (hop : o.op = .binOp .neq t x y t2) (hx : ag L x = some (.string (S a))) (hy : ag L y = some (.string (S b))) : Rd ds P o n L St (.bool (!decide (a = b))) :=
  aY hop hx hy (fy _ _ _) fun w => by simp only [binOp, Op.stringOp, oZ]; rfl
theorem qc {r : Value} {ty : TypeId} (hop : o.op = .call { callee := .builtin .len, args := #[x], argTypes := #[ty] }) (hx : ag L x = some v) (h : ∀ w : World, (Builtin.len_ #[ty] o.type #[v]).run P w = .ok r w) : Rd ds P o n L St r :=
  aH fun a hF w _ => by simp [execOp, hop, resolve, invoke, builtin, hF.eval hx, h]
theorem wN {a : List UInt8} {ty : TypeId} (hop : o.op = .call { callee := .builtin .len, args := #[x], argTypes := #[ty] }) (hx : ag L x = some (.string (S a))) (h1 : P.underlying ty = some .string) : Rd ds P o n L St (.int .i64 (a.length : Int)) :=
  qc hop hx fun w => by simp [Builtin.len_, run_underlying h1, goInt, ii]
theorem pf {ad : Option Addr} {m c : Nat} {ty e : TypeId} (hop : o.op = .call { callee := .builtin .len, args := #[x], argTypes := #[ty] }) (hx : ag L x = some (.slice ad m c)) (h1 : P.underlying ty = some (.slice e)) : Rd ds P o n L St (.int .i64 (m : Int)) :=
  qc hop hx fun w => by simp [Builtin.len_, run_underlying h1, goInt]
theorem wA {r : Value} (hop : o.op = .index t x y) (hx : ag L x = some v) (hy : ag L y = some u) (h : ∀ w : World, (Instr.index t v u).run P w = .ok r w) : Rd ds P o n L St r :=
  aH fun a hF w _ => by simp [execOp, hop, hF.eval hx, hF.eval hy, h]
theorem wR {a : List UInt8} {b : UInt8} (hop : o.op = .index t x y) (hx : ag L x = some (.string (S a))) (hy : ag L y = some (.int k i)) (h1 : P.underlying t = some .string) (h0 : 0 ≤ i) (hb : a[i.toNat]? = some b) : Rd ds P o n L St (.int .u8 (b.toNat : Int)) :=
  wA hop hx hy fun w => by simp [Instr.index, run_underlying h1, asIntOf, h0, CQ, hb]
theorem dW {y' : Nat} {c : BoundsCode} (h : 0 ≤ i ∧ i ≤ (y' : Int)) (w : World) : (Instr.sliceBound (.int k i) y' c).run P w = .ok i.toNat w := by
  simp [Instr.sliceBound, asIntOf, h]
theorem tT {vs : Array Value} {ix : Nat} (hop : o.op = .extract x ix) (hx : ag L x = some (.tuple vs)) (h : vs[ix]? = some v) : Rd ds P o n L St v :=
  aH fun a hF w _ => by simp [execOp, hop, hF.eval hx, Instr.extract, h]
end
end Go.Proofs.YtkdlonihbjhhoaaGreatDoor
