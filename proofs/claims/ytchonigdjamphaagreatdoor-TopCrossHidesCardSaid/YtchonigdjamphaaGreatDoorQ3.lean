/-
  Parts of the walk: Rnd Mix Base Ops.
-/
import Derived.Test.YtchonigdjamphaaGreatDoorQ2
import Derived.Orders
import Derived.OrdersIn
import Derived.TacticsIn
import Derived.WalkKit
import Derived.WalkSpells
import Derived.WalkLawsBesides
import Derived.Laws.BitsLemmas
import Derived.Laws.Strings
namespace Go.Proofs.YtchonigdjamphaaGreatDoor
set_option linter.unusedSimpArgs false
set_option linter.unusedVariables false
universe u
theorem Aa : type_of% @if_neg := @if_neg
theorem Ab : type_of% @List.getD_eq_getElem?_getD := @List.getD_eq_getElem?_getD
theorem Ad : type_of% @List.getElem?_eq_getElem := @List.getElem?_eq_getElem
theorem Ae : type_of% @if_pos := @if_pos
theorem Af : type_of% @Nat.zero_le := @Nat.zero_le
theorem Ag : type_of% @List.length_map := @List.length_map
theorem Ah : type_of% @Decidable.not_not := @Decidable.not_not
theorem Ai : type_of% @List.take_length := @List.take_length
theorem Aj : type_of% @decide_eq_false := @decide_eq_false
theorem Ak : type_of% @decide_eq_decide := @decide_eq_decide
theorem Al : type_of% @List.length_append := @List.length_append
theorem Am : type_of% @Nat.mod_eq_of_lt := @Nat.mod_eq_of_lt
theorem Ao : type_of% @Nat.mul_comm := @Nat.mul_comm
theorem Ap : type_of% @List.getElem?_eq_some_iff := @List.getElem?_eq_some_iff
theorem Aq : type_of% @Nat.mod_lt := @Nat.mod_lt
theorem Ar : type_of% @Nat.pow_le_pow_right := @Nat.pow_le_pow_right
theorem As : type_of% @Nat.mul_one := @Nat.mul_one
theorem At : type_of% @List.mem_map_of_mem := @List.mem_map_of_mem
theorem Au : type_of% @List.nil_append := @List.nil_append
theorem Av : type_of% @List.cons_append := @List.cons_append
theorem Aw : type_of% @Nat.lt_of_lt_of_le := @Nat.lt_of_lt_of_le
theorem Ax : type_of% @List.Sublist.refl := @List.Sublist.refl
theorem Ay : type_of% @List.length_cons := @List.length_cons
theorem Az : type_of% @decide_eq_true := @decide_eq_true
theorem A0 : type_of% @Nat.pow_succ := @Nat.pow_succ
theorem A1 : type_of% @Nat.mul_assoc := @Nat.mul_assoc
theorem A2 : type_of% @Int.toNat_natCast := @Int.toNat_natCast
theorem A3 : type_of% @Nat.zero_add := @Nat.zero_add
theorem A4 : type_of% @List.getElem?_map := @List.getElem?_map
theorem A5 : type_of% @List.append_nil := @List.append_nil
theorem A6 : type_of% @Nat.div_div_eq_div_mul := @Nat.div_div_eq_div_mul
theorem A7 : type_of% @List.take_of_length_le := @List.take_of_length_le
theorem A8 : type_of% @Decidable.byContradiction := @Decidable.byContradiction
theorem A9 : type_of% @List.mem_of_getElem? := @List.mem_of_getElem?
theorem Ba : type_of% @Nat.le_refl := @Nat.le_refl
theorem Bb : type_of% @Nat.lt_of_le_of_lt := @Nat.lt_of_le_of_lt
theorem Bc : type_of% @Nat.lt_succ_iff_lt_or_eq := @Nat.lt_succ_iff_lt_or_eq
theorem Bd : type_of% @Nat.add_zero := @Nat.add_zero
theorem Be : type_of% @List.mem_cons := @List.mem_cons
theorem Bf : type_of% @List.set_cons_zero := @List.set_cons_zero
theorem Bg : type_of% @List.set_cons_succ := @List.set_cons_succ
theorem Bh : type_of% @Int.natAbs_natCast := @Int.natAbs_natCast
theorem Bi : type_of% @Nat.le_trans := @Nat.le_trans
theorem Bj : type_of% @Nat.pow_add := @Nat.pow_add
theorem Bk : type_of% @Nat.add_mul := @Nat.add_mul
theorem Bl : type_of% @Nat.div_add_mod := @Nat.div_add_mod
theorem Bm : type_of% @List.sublist_cons_self := @List.sublist_cons_self
theorem Bn : type_of% @Nat.mul_add := @Nat.mul_add
theorem Bo : type_of% @Nat.div_eq_of_lt := @Nat.div_eq_of_lt
theorem Bp : type_of% @Nat.mul_le_mul_right := @Nat.mul_le_mul_right
theorem Bq : type_of% @Nat.mul_left_comm := @Nat.mul_left_comm
theorem Br : type_of% @Int.natCast_nonneg := @Int.natCast_nonneg
theorem Bt : type_of% @List.all_eq_true := @List.all_eq_true
theorem Bu : type_of% @List.map_append := @List.map_append
theorem Bv : type_of% @List.take_add_one := @List.take_add_one
theorem Bw : type_of% @Nat.eq_zero_or_pos := @Nat.eq_zero_or_pos
theorem Bx : type_of% @List.mem_append := @List.mem_append
theorem Bz : type_of% @List.take_zero := @List.take_zero
theorem B0 : type_of% @List.eq_nil_of_length_eq_zero := @List.eq_nil_of_length_eq_zero
theorem B1 : type_of% @List.length_take := @List.length_take
theorem B2 : type_of% @List.getElem?_append_left := @List.getElem?_append_left
theorem B3 : type_of% @List.drop_eq_getElem_cons := @List.drop_eq_getElem_cons
theorem B4 : type_of% @List.length_nil := @List.length_nil
theorem B5 : type_of% @Array.getElem?_eq_some_iff := @Array.getElem?_eq_some_iff
theorem B6 : type_of% @Nat.not_lt_zero := @Nat.not_lt_zero
theorem B7 : type_of% @Bool.eq_iff_iff := @Bool.eq_iff_iff
theorem B8 : type_of% @Nat.zero_mul := @Nat.zero_mul
theorem B9 : type_of% @Nat.sub_zero := @Nat.sub_zero
theorem Ca : type_of% @Nat.mul_le_mul_left := @Nat.mul_le_mul_left
theorem Cc : type_of% @Nat.lt_or_ge := @Nat.lt_or_ge
theorem Ch : type_of% @List.mem_map := @List.mem_map
theorem Cj : type_of% @Nat.mul_add_div := @Nat.mul_add_div
theorem Cl : type_of% @Nat.add_assoc := @Nat.add_assoc
theorem Cm : type_of% @Nat.pow_pos := @Nat.pow_pos
theorem Cn : type_of% @Nat.one_mul := @Nat.one_mul
theorem Co : type_of% @Nat.div_lt_iff_lt_mul := @Nat.div_lt_iff_lt_mul
theorem Cp : type_of% @List.flatMap_cons := @List.flatMap_cons
theorem Cr : type_of% @List.append_assoc := @List.append_assoc
theorem Ct : type_of% @List.mem_range := @List.mem_range
theorem Cu : type_of% @List.mem_cons_of_mem := @List.mem_cons_of_mem
theorem Cv : type_of% @List.getElem?_take := @List.getElem?_take
theorem Cy : type_of% @List.getElem?_drop := @List.getElem?_drop
theorem Cz : type_of% @Nat.div_le_self := @Nat.div_le_self
theorem C0 : type_of% @Int.natCast_mul := @Int.natCast_mul
theorem C1 : type_of% @Option.map_eq_some_iff := @Option.map_eq_some_iff
theorem C2 : type_of% @List.length_drop := @List.length_drop
theorem C3 : type_of% @List.flatMap_nil := @List.flatMap_nil
theorem C4 : type_of% @Bool.not_eq_true' := @Bool.not_eq_true'
theorem C5 : type_of% @Nat.two_pow_pos := @Nat.two_pow_pos
theorem C6 : type_of% @Nat.pow_zero := @Nat.pow_zero
theorem C7 : type_of% @List.nodup_cons := @List.nodup_cons
theorem C8 : type_of% @List.getElem?_cons_succ := @List.getElem?_cons_succ
theorem C9 : type_of% @Nat.lt_trans := @Nat.lt_trans
theorem Da : type_of% @List.drop_eq_nil_of_le := @List.drop_eq_nil_of_le
theorem Db : type_of% @List.getElem?_range := @List.getElem?_range
theorem Dc : type_of% @List.length_set := @List.length_set
theorem Dd : type_of% @Int.natCast_add := @Int.natCast_add
theorem De : type_of% @Nat.mul_lt_mul'' := @Nat.mul_lt_mul''
theorem Df : type_of% @Nat.sub_self := @Nat.sub_self
theorem Dg : type_of% @Nat.mul_le_mul := @Nat.mul_le_mul
theorem Dh : type_of% @Nat.min_eq_left := @Nat.min_eq_left
theorem Di : type_of% @List.length_pos_iff := @List.length_pos_iff
theorem Dj : type_of% @List.getD_cons_zero := @List.getD_cons_zero
theorem Dk : type_of% @List.getElem?_set_self := @List.getElem?_set_self
theorem Dl : type_of% @Bool.and_eq_true := @Bool.and_eq_true
theorem Dm : type_of% @Nat.pos_of_ne_zero := @Nat.pos_of_ne_zero
theorem Dn : type_of% @Int.fdiv_eq_ediv_of_nonneg := @Int.fdiv_eq_ediv_of_nonneg
theorem Do : type_of% @List.set_append_right := @List.set_append_right
theorem Dp : type_of% @List.getElem?_set_ne := @List.getElem?_set_ne
theorem Dq : type_of% @Nat.mul_div_cancel_left := @Nat.mul_div_cancel_left
theorem Dr : type_of% @List.getElem?_cons_zero := @List.getElem?_cons_zero
theorem Ds : type_of% @List.map_cons := @List.map_cons
theorem Dt : type_of% @List.take_append_drop := @List.take_append_drop
theorem Du : type_of% @List.getElem?_toArray := @List.getElem?_toArray
theorem Dw : type_of% @List.getElem?_eq_none := @List.getElem?_eq_none
theorem Dx : type_of% @Nat.mul_mod := @Nat.mul_mod
theorem Dy : type_of% @Nat.div_one := @Nat.div_one
theorem Dz : type_of% @List.mem_iff_getElem := @List.mem_iff_getElem
theorem D0 : type_of% @List.mem_append_left := @List.mem_append_left
theorem D2 : type_of% @Nat.add_comm := @Nat.add_comm
theorem D3 : type_of% @List.not_mem_nil := @List.not_mem_nil
theorem D4 : type_of% @Int.natCast_emod := @Int.natCast_emod
theorem D5 : type_of% @List.rel_of_pairwise_cons := @List.rel_of_pairwise_cons
theorem D6 : type_of% @Nat.div_mul_le_self := @Nat.div_mul_le_self
theorem D7 : type_of% @List.toList_toArray := @List.toList_toArray
theorem D8 : type_of% @List.replicate_succ := @List.replicate_succ
theorem D9 : type_of% @List.getD_cons_succ := @List.getD_cons_succ
theorem Ea : type_of% @Int.toNat_of_nonneg := @Int.toNat_of_nonneg
theorem Eb : type_of% @Nat.sub_le := @Nat.sub_le
theorem Ec : type_of% @Int.mul_neg := @Int.mul_neg
theorem Ed : type_of% @Nat.le_of_lt_succ := @Nat.le_of_lt_succ
theorem Ee : type_of% @List.mapM_cons := @List.mapM_cons
theorem Ef : type_of% @List.ext_getElem? := @List.ext_getElem?
theorem Eg : type_of% @List.length_replicate := @List.length_replicate
theorem I {α : Sort u} {a : α} : a = a := rfl
abbrev wd (ρ : Option Nat) : Fence := { Fence.wide with round := ρ }
abbrev cdX (ρ : Option Nat) (P : Program) (c : Code) (Q : Exit → Act → World → Prop) (a : Act) (w : World) : Prop := c.wpIn (wd ρ) 0 P Q a w
def opX (P : Program) (o : Oper) (a : Act) (w : World) (next : Act → World → Prop) (Q : Exit → Act → World → Prop) : Prop := o.uponIn Fence.wide 0 P a next Q ((execOp a.eval o).run P w)
def j1 (P : Program) (ops : Array Oper) (Q : Exit → Act → World → Prop) (i : Nat) (K : Act → World → Prop) (a : Act) (w : World) : Prop :=
  match ops[i]? with
  | none => K a w
  | some o => if Region.wanted o (yielded ops a.tmps) then opX P o a w K Q else K (a.put o.dst undef) w
def iQ (P : Program) (ops : Array Oper) (Q : Exit → Act → World → Prop) : List Nat → Act → World → Prop
  | [], a, w => Q .normal a w
  | i :: rest, a, w =>
    match ops[i]? with
    | none => iQ P ops Q rest a w
    | some o => if Region.wanted o (yielded ops a.tmps) then opX P o a w (iQ P ops Q rest) Q else iQ P ops Q rest (a.put o.dst undef) w
def eZ (P : Program) (ops : Array Oper) (Q : Exit → Act → World → Prop) : List Oper → Act → World → Prop
  | [], a, w => Q .normal a w
  | o :: rest, a, w => if Region.wanted o (yielded ops a.tmps) then opX P o a w (eZ P ops Q rest) Q else eZ P ops Q rest (a.put o.dst undef) w
def pp (P : Program) (md : Region.Mode) (ops : Array Oper) (Q : Exit → Act → World → Prop) : Nat → Array Bool → Act → World → Prop
  | 0, listed, a, w => Region.ready md ops listed = [] ∧ Q .normal a w
  | fuel + 1, listed, a, w =>
    (Region.ready md ops listed = [] → Q .normal a w) ∧
    ∀ i ∈ Region.ready md ops listed, j1 P ops Q i (pp P md ops Q fuel (listed.setIfInBounds i true)) a w
section
variable {P : Program} {ops : Array Oper} {Q : Exit → Act → World → Prop} {md : Region.Mode} {ρ : Option Nat}
theorem bp {o : Oper} {a : Act} {w : World} {K K' : Act → World → Prop} (h : ∀ a w, K a w → K' a w) (hh : opX P o a w K Q) : opX P o a w K' Q := by
  unfold opX at *
  generalize (execOp a.eval o).run P w = r at *
  cases r with
  | ok x w' =>
    cases x <;> simp only [Oper.uponIn] at hh ⊢ <;>
      first
        | exact h _ _ hh
        | exact ⟨hh.1, CallsIn.mono hh.2 (fun e w'' he => by cases e <;> first | exact h _ _ he | exact he)⟩
        | exact ⟨hh.1, RowsIn.mono hh.2 (fun _ _ he => h _ _ he)⟩
        | exact ⟨hh.1, RoundIn.mono hh.2 (fun e w'' he => by cases e <;> first | exact h _ _ he | exact he)⟩
  | halt x w' => cases x <;> simp only [Oper.uponIn] at hh ⊢ <;> exact hh
theorem si {i : Nat} {a : Act} {w : World} {K K' : Act → World → Prop} (h : ∀ a w, K a w → K' a w) (hh : j1 P ops Q i K a w) : j1 P ops Q i K' a w := by
  unfold j1 at *
  split
  · exact h _ _ (by simpa [*] using hh)
  · rename_i o ho
    simp only [ho] at hh
    split
    · rename_i hw; simp only [hw, if_true] at hh; exact bp h hh
    · rename_i hw; simp only [hw] at hh; exact h _ _ hh
theorem mi (i : Nat) (rest : List Nat) (a : Act) (w : World) : iQ P ops Q (i :: rest) a w = j1 P ops Q i (iQ P ops Q rest) a w := by
  cases h : ops[i]? <;> simp [iQ, j1, h]
def ml (l : List Oper) : Bool := l.all fun o => match o.op with | .defer _ => false | _ => true
theorem pO {l : List Oper} (h : ml l = true) : ∀ o ∈ l, ∀ c, o.op ≠ .defer c := fun o ho c e => by
  have := Bt.1 h o ho
  simp [e] at this
def jZ (ρ : Option Nat) (l : List Oper) : Prop := ρ = none ∨ ml l = true
theorem pM {o : Oper} {a : Act} {w : World} {K : Act → World → Prop} (hp : ρ = none ∨ ∀ c, o.op ≠ .defer c) (h : opX P o a w K Q) : o.wpIn (wd ρ) 0 P a w K Q := by
  refine ⟨fun _ _ => trivial, ?_⟩
  have e : o.semAt (wd ρ).round a.eval = execOp a.eval o := by
    rcases hp with rfl | hp
    · rfl
    · exact Oper.semAt_eq _ _ o hp
  rw [e]; exact h
theorem jy {l : List Oper} (hp : jZ ρ l) {o : Oper} (ho : o ∈ l) : ρ = none ∨ ∀ c, o.op ≠ .defer c := hp.imp id fun h => pO h o ho
theorem kq {l : List Oper} (hp : jZ ρ l) : ∀ (fuel : Nat) (listed : Array Bool) (a : Act) (w : World), pp P md l.toArray Q fuel listed a w → wpAnyIn (wd ρ) 0 P md l.toArray Q fuel listed a w
  | 0, listed, a, w, h => h
  | fuel + 1, listed, a, w, h => by
    refine ⟨h.1, fun i hi => ?_⟩
    have h1 := h.2 i hi
    unfold j1 at h1
    unfold wpOpIn
    cases ho : l.toArray[i]? with
    | none => simp only [ho] at h1 ⊢; exact kq hp fuel _ a w h1
    | some o =>
      simp only [ho] at h1 ⊢
      split
      · rename_i hw
        rw [Ae hw] at h1
        exact Oper.wpIn_mono (fun a' w' h' => kq hp fuel _ a' w' h') (pM (jy hp (A9 (by simpa using ho))) h1)
      · rename_i hw
        rw [Aa hw] at h1
        exact ⟨fun _ _ => trivial, kq hp fuel _ _ w h1⟩
theorem nO {ops : Array Oper} : ∀ (l : List Oper) (a : Act) (w : World), (∀ o ∈ l, ρ = none ∨ ∀ c, o.op ≠ .defer c) → eZ P ops Q l a w → wpListIn (wd ρ) 0 P ops Q l a w
  | [], a, w, _, h => h
  | o :: l, a, w, hp, h => by
    unfold eZ at h
    unfold wpListIn
    split
    · rename_i hw
      rw [Ae hw] at h
      exact Oper.wpIn_mono (fun a' w' h' => nO l a' w' (fun o ho => hp o (by simp [ho])) h') (pM (hp o (by simp)) h)
    · rename_i hw
      rw [Aa hw] at h
      exact ⟨fun _ _ => trivial, nO l _ w (fun o ho => hp o (by simp [ho])) h⟩
theorem ke {l : List Oper} (hp : jZ ρ l) : ∀ (is : List Nat) (a : Act) (w : World), iQ P l.toArray Q is a w → wpOpsIn (wd ρ) 0 P l.toArray Q is a w
  | [], a, w, h => h
  | i :: is, a, w, h => by
    rw [mi] at h
    rw [wpOpsIn_cons]
    unfold j1 at h
    unfold wpOpIn
    cases ho : l.toArray[i]? with
    | none => simp only [ho] at h ⊢; exact ke hp is a w h
    | some o =>
      simp only [ho] at h ⊢
      split
      · rename_i hw
        rw [Ae hw] at h
        exact Oper.wpIn_mono (fun a' w' h' => ke hp is a' w' h') (pM (jy hp (A9 (by simpa using ho))) h)
      · rename_i hw
        rw [Aa hw] at h
        exact ⟨fun _ _ => trivial, ke hp is _ w h⟩
theorem vP {id : Nat} {l : List Oper} {a : Act} {w : World} (hp : jZ ρ l) (hm : P.follows .mixedOrders = true) (h : pp P .any l.toArray Q l.toArray.size (Array.replicate l.toArray.size false) a { w with drawn := w.drawn + 1 }) : cdX ρ P (.region id l.toArray true) Q a w :=
  wpIn_region_any hm (kq hp _ _ _ _ h)
theorem vO {id : Nat} {l : List Oper} {a : Act} {w : World} (hp : jZ ρ l) (h : eZ P l.toArray Q l a w) : cdX ρ P (.region id l.toArray false) Q a w :=
  wpIn_region_lit (nO l a w (fun o ho => jy hp ho) h)
theorem yB {id : Nat} {l : List Oper} {a : Act} {w : World} (hp : jZ ρ l) (h : ∀ t : Nat, iQ P l.toArray Q (Region.schedule (P.follows .mixedOrders) l.toArray t) a { w with drawn := w.drawn + 1 }) : cdX ρ P (.region id l.toArray true) Q a w :=
  wpIn_region_draw fun t => ke hp _ _ _ (h t)
end
section
variable {P Q Q1 Q2 Q3:Prop}(k:Q)
include k
theorem le (h:Q→P:=by intro zz;exact Ka I (Nt (Ce zz))):P:=h k
theorem ne (k1:Q1)(h:Q→Q1→P:=by intro zz zy;exact Cs (Yl I (Nt (Cq (Ci I zz zy))))):P:=h k k1
theorem Eq (h:Q→P:=by intro zz;exact Cs (Kh I (Oy I I) zz)):P:=h k
theorem Fq (h:Q→P:=by intro zz;exact Cx (Xc (Xc (Xe zz)))):P:=h k
theorem Fs (h:Q→P:=by intro zz;exact Km I (Ye I (Ye I (Ka I (Ka I (Nt zz)))))):P:=h k
theorem Ft (h:Q→P:=by intro zz;exact Kj I (Rm I I) (Kj I (Rm I I) zz)):P:=h k
theorem Fu (h:Q→P:=by intro zz;exact Kq I (aP _ I I bG I (by kernel_rfl : _ = some 1) (fun _ => rfl) (by decide) (As _).symm (by assumption)) zz):P:=h k
theorem Fv (h:Q→P:=by intro zz;exact Kq I (Ia I I I u39 (by kernel_rfl : _ = some 2) (by omega) (by (rw [ag _ _ 2 (fun _ => rfl)]; omega))) zz):P:=h k
theorem Fw (h:Q→P:=by intro zz;exact Kj I (Ia I I I u31 (by kernel_rfl : _ = some 2) (by omega) (by (rw [ag _ _ 2 (fun _ => rfl)]; omega))) zz):P:=h k
theorem Fx (h:Q→P:=by intro zz;exact Nt (Cd I (fun h => by cases h) zz)):P:=h k
theorem Fy (h:Q→P:=by intro zz;exact Xa (Cq (Cs (Km I (Yo I cS (Km I (Nt (Cb (Lo (σ := Nat × Gr) [(9, _), (41, _), (42, _)] (fun gq => [(43, .int .i64 (gq.1 : Int))]) (fun gq => gq.1 ≤ al.length ∧ BOk b9 (some ⟨b9, 0, none⟩) gq.2.ob (([k] ++ be8 (l.length + nl.length)) ++ (al.take gq.1).flatMap fr1) gq.2.sp gq.2.cap) (fun gq => al.length - gq.1) (fun gq => BDT FR b9 (some ⟨b9, 0, none⟩) gq.2.ob (([k] ++ be8 (l.length + nl.length)) ++ (al.take gq.1).flatMap fr1) gq.2.sp gq.2.cap []) (fun gq => [Fact.sl u (am al)]) (0, ⟨o2, c2, s2⟩) (S3 I I I) (S1 I) (by (try dsimp only); exact ⟨Af _, by rw [Bz, C3, A5]; exact hb2⟩) (by exact fun w h => by rw [Bz, C3, A5]; exact aq _ h) zz))))))))):P:=h k
theorem Fz (k1:Q1)(h:Q→Q1→P:=by intro zz zy;exact Cs (Km I (Yj I (Nt (Ci I zz zy))))):P:=h k k1
theorem FA (h:Q→P:=by intro zz;exact Kq I (Ia I I I u41 (by kernel_rfl : _ = some 3) (by omega) (by (rw [ag _ _ 3 (fun _ => rfl)]; omega))) zz):P:=h k
theorem FB (h:Q→P:=by intro zz;exact Km I (Nt (Cb (Lp (σ := Nat) [(0, _), (1, _), (7, _)] (fun gq => [(8, .int .i64 (gq : Int))]) (fun gq => gq ≤ l.length ∧ ∀ x ∈ l.take gq, p x = false) (fun gq => l.length - gq) (0) (S3 I I I) (S1 I) (by (try dsimp only); exact ⟨Af _, by simp⟩) zz)))):P:=h k
theorem FC (h:Q→P:=by intro zz;exact Kj I (aP _ I I u68 I (by kernel_rfl : _ = some 2) (fun _ => rfl) (by decide) I (by assumption)) zz):P:=h k
theorem FE (h:Q→P:=by intro zz;exact Xf (Xb (Xb (Xf (Xb zz))))):P:=h k
theorem FF (h:Q→P:=by intro zz;exact Nu I I (Sa I I I .tc) zz):P:=h k
theorem FG (h:Q→P:=by intro zz;exact Kq I (Ib I I I u40 (by omega) (by (rw [ag _ _ 1 (fun _ => rfl)]; omega))) zz):P:=h k
theorem FH (h:Q→P:=by intro zz;exact Kq I (aP _ I I u84 I (by kernel_rfl : _ = some 3) (fun _ => rfl) (by decide) I (by assumption)) zz):P:=h k
theorem FI (h:Q→P:=by intro zz;exact Kq I (Ia I I I u31 (by kernel_rfl : _ = some 2) (by omega) (by (rw [ag _ _ 2 (fun _ => rfl)]; omega))) zz):P:=h k
theorem FJ (h:Q→P:=by intro zz;exact Kq I (Kb [[.slice none 0 0], [.string (S [])], [.int .i64 0]] I I) zz):P:=h k
theorem FK (h:Q→P:=by intro zz;exact Kq I (aP _ I I u26 I (by kernel_rfl : _ = some 2) (fun _ => rfl) (by decide) I (by assumption)) zz):P:=h k
theorem FM (h:Q→P:=by intro zz;exact Ka I (Nt (Cq (Cs (Km I zz))))):P:=h k
theorem FN (h:Q→P:=by intro zz;exact Ka I (Nt (Cs (Km I zz)))):P:=h k
theorem FO (h:Q→P:=by intro zz;exact Ck (Xa (Cq (Cb (Cs zz))))):P:=h k
theorem FP (h:Q→P:=by intro zz;exact Kh I (Oz [.slice none 0 0, .string (S []), .int .i64 0] I) zz):P:=h k
theorem FQ (h:Q→P:=by intro zz;exact Kh I (Oz [.string (S []), .string (S []), .slice none 0 0, .slice none 0 0, .slice none 0 0, .slice none 0 0, .slice none 0 0, .string (S [])] I) zz):P:=h k
theorem FS (h:Q→P:=by intro zz;exact Kh I (Oz [.bool false, .string (S [])] I) zz):P:=h k
theorem FT (h:Q→P:=by intro zz;exact Kh I (Oz [.int .i64 0, .string (S []), .slice none 0 0] I) zz):P:=h k
theorem FU (h:Q→P:=by intro zz;exact Jf I I I I I (cG I (v := (.agg #[.bool false, .string (S [])])) (cs := [.bool false, .string (S [])]) (by kernel_rfl) I) zz):P:=h k
theorem FV (h:Q→P:=by intro zz;exact WM.g I I I (Oc I I (Kv fun w _ => cT _ _ (by decide) (by decide) w)) (fun _ _ h => by first | exact h | exact ⟨_, h⟩ | exact ⟨_, h.2⟩ | exact h.2 | exact h.sub (by repeat (first | exact Ax _ | apply List.Sublist.cons)) (fun _ h => by simp [*]) | exact h.2.sub (by repeat (first | exact Ax _ | apply List.Sublist.cons)) (fun _ h => by simp [*])) zz):P:=h k
theorem FW (h:Q→P:=by intro zz;exact Kq I (Ib I I I u33 (by omega) (by (rw [Ag]; omega))) zz):P:=h k
theorem FX (h:Q→P:=by intro zz;exact Kq I (Ja I I I aF (by kernel_rfl : _ = some 1) (by omega)) zz):P:=h k
theorem FY (h:Q→P:=by intro zz;exact Kq I (Kb [[.bool false], [.string (S [])]] I I) zz):P:=h k
theorem FZ (h:Q→P:=by intro zz;exact Kq I (cE (sz := 2) _ 1 I I u22 I (fun _ => rfl) I (by assumption) (by decide) I) zz):P:=h k
theorem F0 (h:Q→P:=by intro zz;exact Km I (Kh I (vF I I I .tc aF (by kernel_rfl) (m := (ee key).length) (by omega) (by simp; omega) (ys := K.map B) (by rw [← hK, Bz, List.nil_append, A3, Ai, List.drop_replicate, Bu, List.map_replicate]; rfl)) zz)):P:=h k
theorem F1 (h:Q→P:=by intro zz;exact Kq I (aB I I I (by omega)) (Km I (Kq I (aU I I I (by omega)) zz))):P:=h k
theorem F2 (h:Q→P:=by intro zz;exact Kh I (Oc I I (bE fun w hS => od (r := r) (s := s) (by (exact hS.sl)) (by (exact hS.sl)) (by (exact hS.sl)) (by (exact hS.more)) (by exact hs) (by exact h4) (by exact h5) (by exact h6))) zz):P:=h k
theorem F3 (h:Q→P:=by intro zz;exact Kh I (Oc I I (bE fun w hS => ry (r := r) (s := s) (by (exact hS.sl)) (by (exact hS.sl)) (by (exact hS.sl)) (by (exact hS.more)) (by exact hs) (by exact h4) (by exact h5) (by exact h6))) zz):P:=h k
theorem F4 (h:Q→P:=by intro zz;exact Kj I (Ja I I I dA (by kernel_rfl : _ = some 1) (by omega)) zz):P:=h k
theorem F5 (h:Q→P:=by intro zz;exact Kq I (Ja I I I dA (by kernel_rfl : _ = some 1) (by omega)) zz):P:=h k
theorem F6 (h:Q→P:=by intro zz;exact Kc I (fun w hS => nF (r := r) (s := s) (by (exact hS.sl)) (by (exact hS.sl)) (by (exact hS.sl)) (by (exact hS.more)) (by exact hs) (by exact hSm.a) (by exact hSm.b) (by exact hSm.v)) zz):P:=h k
theorem F7 (k1:Q1)(h:Q→Q1→P:=by intro zz zy;exact Yl I (Nt (Ci I zz zy))):P:=h k k1
theorem F8 (k1:Q1)(h:Q→Q1→P:=by intro zz zy;exact Ku I (a6 I I I hgo (fI _ _) (Kv fun w hS => hfn (l.getD i default) (aj _ _ hil) w hS.below)) (Nt (Ci I zz zy))):P:=h k k1
theorem F9 (h:Q→P:=by intro zz;exact Kh I (Oa I (v := (.agg (List.replicate 64 (.int .u32 0)).toArray)) (cs := (List.replicate 64 (.int .u32 0))) (by kernel_rfl) I) zz):P:=h k
theorem Ga (h:Q→P:=by intro zz;exact Kq I (Ia I I I u82 (by kernel_rfl : _ = some 4) (by omega) (by (rw [ag _ _ 4 (fun _ => rfl)]; omega))) zz):P:=h k
theorem Gb (h:Q→P:=by intro zz;exact Kh I (Oz [.string (S []), .string (S [])] I) zz):P:=h k
theorem Gc (h:Q→P:=by intro zz;exact Kh I (Oy I I) zz):P:=h k
theorem Gd (h:Q→P:=by intro zz;exact Kj I (Rm I I) (Kj I (Re I I I) (Kj I (Re I I I) (Kj I (Ra I I) (Kj I (Ra I I) zz))))):P:=h k
theorem Ge (h:Q→P:=by intro zz;exact Kf 1 I u43 I I I .tc u40 zz):P:=h k
theorem Gf (h:Q→P:=by intro zz;exact Kq I (aP _ I I dG I (by kernel_rfl : _ = some 4) (fun _ => rfl) (by decide) I (by assumption)) zz):P:=h k
theorem Gg (h:Q→P:=by intro zz;exact Kj I (Ld I I .tc u22) zz):P:=h k
theorem Gh (h:Q→P:=by intro zz;exact Kf 1 I u26 I I I .tc u22 zz):P:=h k
theorem Gi (h:Q→P:=by intro zz;exact Kf 0 I u43 I I I .tc u39 zz):P:=h k
theorem Gj (h:Q→P:=by intro zz;exact Kf 0 I u26 I I I .tc u22 zz):P:=h k
theorem Gk (h:Q→P:=by intro zz;exact Kq I (bA I I) (Kq I (cA I I js I (by kernel_rfl) (by (try simp only [sN, Int.reduceToNat, Nat.reduceAdd, Nat.reduceMul, Nat.reduceSub]); rfl)) zz)):P:=h k
theorem Gl (h:Q→P:=by intro zz;exact Nt (Cs (Kq I (Fa (q := 0) I I kC I I) (Km I (Kh I (Oc I I (fun w hS => wbT (T := FR) (bb := b9) (p := none) (ob := none) (m := []) (sp := []) (cap := 0) (c := k) (rr := []) (gF (hS.nil 5)) ij vU (by decide))) zz))))):P:=h k
theorem Gm (h:Q→P:=by intro zz;exact Kq I (Ld I I .tc u22) zz):P:=h k
theorem Gn (h:Q→P:=by intro zz;exact Kf 1 I u68 I I I .tc u22 zz):P:=h k
theorem Gq (h:Q→P:=by intro zz;exact Kq I (Fa (q := 0) I I u28 I I) (Kq I (ldp I I .tc u26 I (by kernel_rfl : _ = some 2) (by rfl) (by rfl)) zz)):P:=h k
theorem Gs (k1:Q1)(h:Q→Q1→P:=by intro zz zy;exact Yt I (Nt (Ci I zz zy))):P:=h k k1
theorem Gt (h:Q→P:=by intro zz;exact WM.r I I I (Rm I I) zz):P:=h k
theorem Gu (h:Q→P:=by intro zz;exact Kj I (Ia I I I kD (by kernel_rfl : _ = some 2) (by omega) (by (rw [ag _ _ 2 (fun _ => rfl)]; omega))) zz):P:=h k
theorem Gv (h:Q→P:=by intro zz;exact WM.r I I I (cA I I js I (by kernel_rfl) (by (try simp only [sN, Int.reduceToNat, Nat.reduceAdd, Nat.reduceMul, Nat.reduceSub]); rfl)) zz):P:=h k
theorem Gw (h:Q→P:=by intro zz;exact Kq I (Kb [[.string (S [])], [.slice none 0 0], [.slice none 0 0], [.slice none 0 0]] I I) zz):P:=h k
theorem Gx (h:Q→P:=by intro zz;exact Kq I (aP _ I I u68 I (by kernel_rfl : _ = some 2) (fun _ => rfl) (by decide) I (by assumption)) zz):P:=h k
theorem Gy (h:Q→P:=by intro zz;exact Kh I (Oa I (v := (.agg (List.replicate 64 (.int .u8 0)).toArray)) (cs := (List.replicate 64 (.int .u8 0))) (by kernel_rfl) I) zz):P:=h k
theorem Gz (h:Q→P:=by intro zz;exact Kf 2 I u43 I I I .tc u41 zz):P:=h k
theorem GA (h:Q→P:=by intro zz;exact Kq I (ldm I I u22 I (by assumption)) zz):P:=h k
theorem GB (h:Q→P:=by intro zz;exact Kh I (Oc I I (fun w hS => fL (bb := b9) (p := some ⟨b9, 0, none⟩) (ob := o1) (m := [k]) (n := l.length + nl.length) (sp := s1) (cap := c1) (rr := []) hS hb1 (by simp) (by omega))) zz):P:=h k
theorem GD (h:Q→P:=by intro zz;exact Kj I (Ib I I I u33 (by omega) (by (rw [Ag]; omega))) zz):P:=h k
theorem GE (h:Q→P:=by intro zz;exact Kh I (Oz [.int .u32 0, .int .u32 0, .int .u32 0, .int .u32 0, .int .u32 0, .int .u32 0, .int .u32 0, .int .u32 0] I) zz):P:=h k
theorem GF (h:Q→P:=by intro zz;exact Kq I (ldp I I .tc u68 I (by kernel_rfl : _ = some 2) (by rfl) (by rfl)) zz):P:=h k
theorem GG (h:Q→P:=by intro zz;exact Ck (Xa (Cs (Km I (Km I zz))))):P:=h k
theorem GH (h:Q→P:=by intro zz;exact Kc I (fun w hS => jf (l := [a, b]) (ms := [m]) (by (exact hS.os)) (by (exact hS.os)) (by (simp <;> omega)) (by (simp <;> omega)) (by (simp <;> omega)) (by (simp <;> omega))) zz):P:=h k
theorem GI (h:Q→P:=by intro zz;exact Ka I (Nt (Cq (Cs zz)))):P:=h k
theorem GJ (h:Q→P:=by intro zz;exact Cs (Kq I (Fa (q := 0) I I u30 I I) (Kq I (ldp I I .tc u24 I (by kernel_rfl : _ = some 2) (by rfl) (by rfl)) zz))):P:=h k
theorem GK (h:Q→P:=by intro zz;exact Kh I (Oz [.string (S [])] I) zz):P:=h k
theorem GL (h:Q→P:=by intro zz;exact Kh I (Oz [.string (S []), .slice none 0 0, .slice none 0 0, .slice none 0 0] I) zz):P:=h k
theorem GM (k1:Q1)(h:Q→Q1→P:=by intro zz zy;exact Km I (Kc I (fun w hS => ay) (Yt I (Yq I (Nt (Ci I zz zy)))))):P:=h k k1
theorem GN (h:Q→P:=by intro zz;exact Kh I (Oa I (v := (.string (S []))) (cs := [.string (S [])]) (by kernel_rfl) I) zz):P:=h k
theorem GO (h:Q→P:=by intro zz;exact Ck (Xa (Cq (Cs (Km I zz))))):P:=h k
theorem GP (h:Q→P:=by intro zz;exact Kj I (Rm I I) zz):P:=h k
theorem GQ (h:Q→P:=by intro zz;exact Kh I (Oz [.string (S []), .int .i64 0, .bool false, .string (S [])] I) zz):P:=h k
theorem GR (h:Q→P:=by intro zz;exact Kj I (Ra I I) zz):P:=h k
theorem GS (h:Q→P:=by intro zz;exact T4 I (Yq I (Km I (T4 I (Yq I (Km I (T4 I zz))))))):P:=h k
theorem GT (h:Q→P:=by intro zz;exact WL.st (fun w h => j9 (more := s.es.map qaF) (f := qaF (s.es.getD k default)) h (At hkm)) zz):P:=h k
theorem GU (h:Q→P:=by intro zz;exact Kq I (aC I I I (by omega)) (Ns 21 I (v' := .int .i64 ((l.length + nl.length : Nat) : Int)) (congrArg (Value.int .i64) (by omega)) zz)):P:=h k
theorem GV (h:Q→P:=by intro zz;exact Km I (Ye I (Ye I (Ye I (Ka I (Ka I zz)))))):P:=h k
theorem GW (h:Q→P:=by intro zz;exact Js I I I I (Js I I I I (Js I I I I zz))):P:=h k
theorem GX (h:Q→P:=by intro zz;exact Cs (Kq I (pT (m := 0) I I .tc u28 I (by kernel_rfl : _ = some 4) I I I (by decide)) zz)):P:=h k
theorem GY (h:Q→P:=by intro zz;exact Kj I (cE (sz := 2) _ 0 I I u22 I (fun _ => rfl) I (by assumption) (by decide) I) zz):P:=h k
theorem GZ (h:Q→P:=by intro zz;exact Jv I I I I I (fun ext => Oc I I (Kv fun w hS => da (a := c))) zz):P:=h k
theorem G0 (h:Q→P:=by intro zz;exact Kq I (Kb [[.bool false, .string (S [])], [.bool false, .string (S [])]] I I) zz):P:=h k
theorem G1 (h:Q→P:=by intro zz;exact Kf 0 I u68 I I I .tc u4 zz):P:=h k
theorem G2 (h:Q→P:=by intro zz;exact Kq I (Ia I I I u39 (by kernel_rfl : _ = some 2) (by assumption) (by (rw [ag _ _ 2 (fun _ => rfl)]; omega))) zz):P:=h k
theorem G5 (h:Q→P:=by intro zz;exact Kj I (pF I I I I cS (by kernel_rfl : _ = some 1) (by omega) (q2 := l.length + i) (q3 := l.length + i) I I) zz):P:=h k
theorem G6 (h:Q→P:=by intro zz;exact Kj I (ldp I I .tc u68 I (by kernel_rfl : _ = some 2) (by rfl) (by rfl)) zz):P:=h k
theorem G7 (h:Q→P:=by intro zz;exact Kq I (ldp I I .tc u55 I (by kernel_rfl : _ = some 1) (by rfl) (by rfl)) zz):P:=h k
theorem G8 (h:Q→P:=by intro zz;exact Kq I (ldp I I .tc u28 I (by kernel_rfl : _ = some 4) (by rfl) (by rfl)) zz):P:=h k
theorem G9 (h:Q→P:=by intro zz;exact Yq I (Km I (T4 I (Kt I (Yq I zz))))):P:=h k
theorem Ha (h:Q→P:=by intro zz;exact Kq I (Fa (q := 2) I I u89 I I) (Kq I (ldp I I .tc u43 I (by kernel_rfl : _ = some 3) (by rfl) (by rfl)) zz)):P:=h k
theorem Hb (h:Q→P:=by intro zz;exact WM.r I I I (ld I I .tc dX I (by rfl)) zz):P:=h k
theorem Hc (h:Q→P:=by intro zz;exact Kf 0 I bG I I I .tc u22 zz):P:=h k
theorem Hd (h:Q→P:=by intro zz;exact Cs (Km I (Km I zz))):P:=h k
theorem He (h:Q→P:=by intro zz;exact Nn (Xa (Cq (Cg (Kq I (eP I I g3 (by kernel_rfl : _ = some 1)) zz))))):P:=h k
theorem Hf (h:Q→P:=by intro zz;exact Kq I (Kb [[.slice none 0 0], [.slice none 0 0]] I I) zz):P:=h k
theorem Hg (k1:Q1)(h:Q→Q1→P:=by intro zz zy;exact Yh I (Nt (Ci I zz zy))):P:=h k k1
theorem Hh (k1:Q1)(h:Q→Q1→P:=by intro zz zy;exact Ys I (Nt (Ci I zz zy))):P:=h k k1
theorem Hi (h:Q→P:=by intro zz;exact Kf 0 I u24 I I I .tc u22 zz):P:=h k
theorem Hj (h:Q→P:=by intro zz;exact Kf 0 I u35 I I I .tc u33 zz):P:=h k
theorem Hk (h:Q→P:=by intro zz;exact Kq I (aC I I I (by omega)) zz):P:=h k
theorem Hl (h:Q→P:=by intro zz;exact Kq I (Kb [[.string (S [])], [.string (S [])]] I I) zz):P:=h k
theorem Hm (h:Q→P:=by intro zz;exact Xa (Cs (Kq I (Fa (q := 0) I I kC I I) (Kh I (Oc I I (fun w hS => stT hS hb (by omega))) zz)))):P:=h k
theorem Hn (h:Q→P:=by intro zz;exact Kf 0 I u84 I I I .tc u3 zz):P:=h k
theorem Ho (h:Q→P:=by intro zz;exact Cq (Cf [0, 1, 2, 3, 4, 5, 6] [] [0, 0, 0, 0, 0, 0, 0] (by kernel_rfl) (by kernel_rfl) I zz)):P:=h k
theorem Hp (h:Q→P:=by intro zz;exact Kc I (fun w hS => ay) (Yt I (Km I zz))):P:=h k
theorem Hq (h:Q→P:=by intro zz;exact Kq I (aK I I I (by omega)) (Ka I (Nt zz))):P:=h k
theorem Hr (k1:Q1)(h:Q→Q1→P:=by intro zz zy;exact Yr I (Nt (Ci I zz zy))):P:=h k k1
theorem Hs (h:Q→P:=by intro zz;exact Kq I (Ja I I I u33 (by kernel_rfl : _ = some 1) (by omega)) zz):P:=h k
theorem Ht (h:Q→P:=by intro zz;exact Kq I (ldf (m := 0) I I .tc u22 I I I) zz):P:=h k
theorem Hu (h:Q→P:=by intro zz;exact Kj I (Re I I I) zz):P:=h k
theorem Hv (h:Q→P:=by intro zz;exact Jv I I I I I (fun ext => Oc I I (Kv fun w hS => ln (by omega) (by (exact bW hT hS)))) zz):P:=h k
theorem Hw (h:Q→P:=by intro zz;exact Kf 2 I u84 I I I .tc u82 zz):P:=h k
theorem Hx (h:Q→P:=by intro zz;exact Kq I (Ld I I .tc aF) zz):P:=h k
theorem Hy (h:Q→P:=by intro zz;exact Kh I (Oz [.pointer none, .slice none 0 0] I) zz):P:=h k
theorem Hz (h:Q→P:=by intro zz;exact Kq I (Fa (q := 1) I I u57 I I) (Kf 1 I u55 I I I .tc u53 zz)):P:=h k
theorem HA (h:Q→P:=by intro zz;exact Kq I (Fa (q := 5) I I u89 I I) (Kf 5 I u57 I I I .tc u52 zz)):P:=h k
theorem HB (h:Q→P:=by intro zz;exact Kq I (Rz I I I (by omega)) zz):P:=h k
theorem HC (h:Q→P:=by intro zz;exact Kj I (cE (sz := 2) _ 1 I I u22 I (fun _ => rfl) I (by assumption) (by decide) I) zz):P:=h k
theorem HD (h:Q→P:=by intro zz;exact Kh I (Oz [.slice none 0 0, .slice none 0 0, .slice none 0 0, .slice none 0 0] I) zz):P:=h k
theorem HE (h:Q→P:=by intro zz;exact Kq I (bQ (c := 32) I I I (by decide)) zz):P:=h k
theorem HF (h:Q→P:=by intro zz;exact Yo I u40 (Km I (Nt (Cb zz)))):P:=h k
theorem HG (h:Q→P:=by intro zz;exact WM.r I I I (eP I I g3 (by kernel_rfl : _ = some 1)) zz):P:=h k
theorem HH (h:Q→P:=by intro zz;exact Kf 0 I u57 I I I .tc u52 zz):P:=h k
theorem HI (h:Q→P:=by intro zz;exact Jv I I I I I (fun ext => Oc I I (Kv fun w hS => kt (x := bP c) (y := W))) zz):P:=h k
theorem HJ (h:Q→P:=by intro zz;exact Xa (Cq (Cs (Ka I (Nt (Cb zz)))))):P:=h k
theorem HK (h:Q→P:=by intro zz;exact WM.r I I I (Ra I I) zz):P:=h k
theorem HL (h:Q→P:=by intro zz;exact Kh I (Oz [.bool false, .string (S []), .bool false, .string (S [])] I) zz):P:=h k
theorem HM (h:Q→P:=by intro zz;exact Kj I (aC I I I (by omega)) zz):P:=h k
theorem HN (h:Q→P:=by intro zz;exact Kc I (fun w hS => fy (a := a) (m := m) (by exact ha) (by exact hm) (by exact hm0)) zz):P:=h k
theorem HO (h:Q→P:=by intro zz;exact Kc I (fun w hS => fy (a := b) (m := m) (by exact hb) (by exact hm) (by exact hm0)) zz):P:=h k
theorem HP (h:Q→P:=by intro zz;exact Kj I (Ld I I .tc u3) zz):P:=h k
theorem HQ (h:Q→P:=by intro zz;exact Kj I (ldm I I u22 I (by assumption)) zz):P:=h k
theorem HR (h:Q→P:=by intro zz;exact Kh I (Oz [.slice none 0 0, .slice none 0 0] I) zz):P:=h k
theorem HS (h:Q→P:=by intro zz;exact Cd I (fun hc24 => by exfalso; (try simp only [sB] at hc24); omega) zz):P:=h k
theorem HT (h:Q→P:=by intro zz;exact Yo I u33 (Km I (Nt (Cb zz)))):P:=h k
theorem HU (k1:Q1)(h:Q→Q1→P:=by intro zz zy;exact Cq (Cg (Yl I (Nn (Xa (Cq (Ci I zz zy))))))):P:=h k k1
theorem HV (h:Q→P:=by intro zz;exact Kf 0 I u49 I I I .tc u22 zz):P:=h k
theorem HW (h:Q→P:=by intro zz;exact Kh I (Oz [.slice none 0 0, .string (S []), .slice none 0 0] I) zz):P:=h k
theorem HX (h:Q→P:=by intro zz;exact Km I (Kc I (fun w hS => dx (a := a) (i := k) (by omega) (by omega)) (Km I zz))):P:=h k
theorem HY (h:Q→P:=by intro zz;exact Kf 2 I u35 I I I .tc u3 zz):P:=h k
theorem HZ (h:Q→P:=by intro zz;exact Km I (Ye I (Ye I (Ye I zz)))):P:=h k
theorem H1 (h:Q→P:=by intro zz;exact Kj I (Kb [[.string (S [])], [.int .i64 0]] I I) zz):P:=h k
theorem H2 (h:Q→P:=by intro zz;exact Kq I (Fa (q := 2) I I u89 I I) (Kf 3 I u43 I I I .tc u40 zz)):P:=h k
theorem H3 (h:Q→P:=by intro zz;exact WL.r I I I (cI I I) zz):P:=h k
theorem H4 (h:Q→P:=by intro zz;exact Yq I (Km I (T2 I (Kt I (Yq I zz))))):P:=h k
theorem H5 (h:Q→P:=by intro zz;exact Yn I u22 (Ym I (Yp I (Km I zz)))):P:=h k
theorem H6 (h:Q→P:=by intro zz;exact Km I (Ku I (Oc I I (Kv fun w _ => cT _ _ (by decide) (by decide) w)) zz)):P:=h k
theorem H7 (h:Q→P:=by intro zz;exact Cs (Km I (Ka I zz))):P:=h k
theorem H8 (h:Q→P:=by intro zz;exact Km I (Kc I (fun w hS => dx (a := b) (i := k) (by omega) (by omega)) zz)):P:=h k
theorem H9 (h:Q→P:=by intro zz;exact Kf 0 I u55 I I I .tc u53 zz):P:=h k
theorem Ic (h:Q→P:=by intro zz;exact Kf 2 I u28 I I I .tc u22 zz):P:=h k
theorem Id (h:Q→P:=by intro zz;exact Kf 3 I u28 I I I .tc u22 zz):P:=h k
theorem Ie (h:Q→P:=by intro zz;exact Kq I (Fa (q := 5) I I u89 I I) (Kq I (Fa (q := 6) I I u57 I I) zz)):P:=h k
theorem Ig (h:Q→P:=by intro zz;exact Kf 3 I u49 I I I .tc u47 zz):P:=h k
theorem Ih (h:Q→P:=by intro zz;exact Kf 2 I u49 I I I .tc u33 zz):P:=h k
theorem Ii (h:Q→P:=by intro zz;exact Kj I (Fa (q := 2) I I u84 I I) (Kj I (Ld I I .tc u82) zz)):P:=h k
theorem Ij (h:Q→P:=by intro zz;exact WM.r I I I (ld I I .tc aF I (by rfl)) zz):P:=h k
theorem Ik (h:Q→P:=by intro zz;exact Kj I (ldf (m := 0) I I .tc u22 I I I) zz):P:=h k
theorem Il (h:Q→P:=by intro zz;exact Km I (Kq I (bX I I I (by omega)) zz)):P:=h k
end
theorem Im {P:Prop}(h:P:=by exact Rn I (.tmp I (.tmp I .nil)) fun w' hS => ⟨⟨none, 0, []⟩, by rw [hr]; rfl, trivial, hS.below, by rw [hr]; exact Fc av Fn⟩):P:=h
theorem Io {P:Prop}(h:P:=by exact R1 I I (by rw [hr]; rfl)):P:=h
theorem Ip {P:Prop}(h:P:=by exact R1 I I (by (simp only [tup, j4]; (refine congrArg (fun b => Ending.returned (Value.bool b)) (Aj ?_).symm; simp_all <;> omega)))):P:=h
theorem Iq {P:Prop}(h:P:=by exact R1 I I (by rfl)):P:=h
theorem Ir {P:Prop}(h:P:=by exact Rn I (.agg I .tc u49 I (by kernel_rfl) (.agg I .tc u35 I (by kernel_rfl) (.tmp I .nil))) fun w' hS => ⟨(⟨none, 0, []⟩, aJ, none, 0), by rw [hP]; rfl, trivial, hS.below, by rw [hP]; exact Fc av Fn⟩):P:=h
theorem Is {P:Prop}(h:P:=by exact Rn I (.agg I .tc u68 I (by kernel_rfl) (.tmp I .nil)) fun w' hS => ⟨by rw [hr]; rfl, hS.below⟩):P:=h
theorem It {P:Prop}(h:P:=by exact R1 I I (by (simp [*, tup]; done))):P:=h
theorem Iu {P:Prop}(h:P:=by exact Rn I (.agg I .tc u68 I (by kernel_rfl) (.agg I .tc u35 I (by kernel_rfl) (.tmp I .nil))) fun w' hS => wL hr hS):P:=h
theorem Iv {P:Prop}(h:P:=by exact R1 I I (by rw [show decide (elG g x) = decide (x ≠ [] ∧ val x < val g.1 ∧ Nat.gcd (val x) (val g.1) = 1) from Ak.2 hr]; (simp [*, tup]; done))):P:=h
theorem Iw {P:Prop}(h:P:=by exact Rn I (.tmp I (.tmp I .nil)) fun w' hS => ⟨⟨none, 0, []⟩, by rw [hr]; rfl, by rw [hr]; exact Af _, hS.below, by rw [hr]; exact Fc av Fn⟩):P:=h
theorem Ix {P:Prop}(h:P:=by exact R2 I I I (by rw [hr]; rfl)):P:=h
theorem Iy {P:Prop}(h:P:=by exact R1 I I (by rw [ik hil hok (by simpa using hc16)]; rfl)):P:=h
theorem Iz {P:Prop}(h:P:=by exact Rn I (.agg I .tc u68 I (by kernel_rfl) .nil) fun w' hS => ⟨by rw [hr]; rfl, hS.below⟩):P:=h
theorem IA {P:Prop}(h:P:=by exact Rn I (.tmp I (.tmp I .nil)) fun w' hS => ⟨⟨none, 0, []⟩, by rw [hr, he]; rfl, trivial, hS.below, by rw [hr]; exact Fc av Fn⟩):P:=h
theorem IB {P:Prop}(h:P:=by exact R1 I I (by (simp only [tup, iZ]; (refine congrArg (fun b => Ending.returned (Value.bool b)) (Aj ?_).symm; omega)))):P:=h
theorem ID {P:Prop}(h:P:=by exact ⟨⟨by dsimp only; omega, by dsimp only; omega⟩, by dsimp only; omega, h11⟩):P:=h
theorem IE {P:Prop}(h:P:=by exact R1 I I (by (simp [tup]; done))):P:=h
theorem IF {P:Prop}(h:P:=by exact R2 I I I (by rfl)):P:=h
theorem IG {P:Prop}(h:P:=by exact R1 I I (by (simp [*, tup, okZ]; done))):P:=h
theorem IH {P:Prop}(h:P:=by exact R2 I I I (by rw [bv, Aa (by simp_all <;> omega)]; rfl)):P:=h
theorem II {P:Prop}(h:P:=by exact Rn I (.tmp I .nil) fun w' hS => ⟨by rw [dF, Am hS256]; rfl, hS.below⟩):P:=h
theorem IJ {P:Prop}(h:P:=by exact R3 I I I I (by rw [g6, Aa (by simp_all)]; rfl)):P:=h
theorem IL {P:Prop}(h:P:=by exact R1 I I (by rw [e8 hok]; rfl)):P:=h
theorem IM {P:Prop}(h:P:=by exact R2 I I I (by rw [eg, Aa (by simp_all)]; rfl)):P:=h
theorem IP {P:Prop}(h:P:=by exact R1 I I (by rw [dO]; rfl)):P:=h
theorem IQ {P:Prop}(h:P:=by exact R1 I I (by (simp [*, tup, g9]; done))):P:=h
end Go.Proofs.YtchonigdjamphaaGreatDoor
namespace Go.Proofs.YtchonigdjamphaaGreatDoor
set_option linter.unusedSimpArgs false
set_option linter.unusedVariables false
/- Marks. 0: reads only, may come up at any time; 1: in a fixed order among those marked 1, keeps the class; 2: the forced tail. -/
section
variable (P : Program) (ops : Array Oper) (C : World → Prop) (Q : Exit → Act → World → Prop) (mk : Nat → Nat)
def bN : Exit → Act → World → Prop := fun _ _ _ => False
def Reads (o : Oper) (a : Act) (v : Value) : Prop :=
  ∀ w, C w → (execOp a.eval o).run P w = .ok (.value v) w ∨ ((execOp a.eval o).run P w = .ok .skip w ∧ v = undef)
def eE : List Nat → Act → World → Prop
  | [], a, w => Q .normal a w
  | i :: l, a, w => ∃ o, ops[i]? = some o ∧
    if Region.wanted o (yielded ops a.tmps) then
      (mk i = 0 ∧ ∃ v, Reads P C o a v ∧ eE l (a.put o.dst v) w) ∨
      (mk i = 1 ∧ opX P o a w (fun a' w' => C w' ∧ eE l a' w') bN) ∨
      (mk i = 2 ∧ opX P o a w (fun a' w' => eE l a' w') bN)
    else eE l (a.put o.dst undef) w
end
section
variable {P : Program} {ops : Array Oper} {C : World → Prop} {Q : Exit → Act → World → Prop} {mk : Nat → Nat}
theorem Reads.same {o : Oper} {a a' : Act} {v : Value} (h : Reads P C o a v) (he : execOp a'.eval o = execOp a.eval o) : Reads P C o a' v := by
  unfold Reads at *; rw [he]; exact h
theorem Reads.eq {o : Oper} {a : Act} {v u : Value} {w : World} (hw : C w) (h : Reads P C o a v) (k : Reads P C o a u) : v = u := by
  rcases h w hw with h1 | ⟨h1, rfl⟩ <;> rcases k w hw with k1 | ⟨k1, rfl⟩ <;> rw [h1] at k1 <;> simp_all
theorem Reads.wp {o : Oper} {a : Act} {v : Value} {w : World} (hw : C w) (h : Reads P C o a v) {K : Act → World → Prop} {Q' : Exit → Act → World → Prop} (hk : K (a.put o.dst v) w) : opX P o a w K Q' := by
  unfold opX
  rcases h w hw with h1 | ⟨h1, rfl⟩ <;> rw [h1] <;> exact hk
theorem mG {a a' : Act} (h : a'.tmps = a.tmps) : a'.eval = a.eval := by
  funext x; cases x <;> simp [Act.eval, h]
theorem fN (a : Act) (d : Deferred) (x : Option Tmp) (v : Value) : (({ a with defers := d :: a.defers } : Act).put x v).tmps = (a.put x v).tmps := by
  cases x <;> rfl
theorem qi {o : Oper} {a : Act} {w : World} {K : Act → World → Prop} (h : opX P o a w K bN) : ∃ a' w' u, a'.tmps = (a.put o.dst u).tmps ∧ K a' w' := by
  unfold opX at h
  generalize (execOp a.eval o).run P w = r at h
  cases r with
  | ok n w' =>
    cases n <;> simp only [Oper.uponIn] at h
    case value v => exact ⟨_, _, v, rfl, h⟩
    case skip => exact ⟨_, _, undef, rfl, h⟩
    case defer d => exact ⟨({ a with defers := d :: a.defers } : Act).put o.dst undef, _, undef, fN a _ _ _, h⟩
    case enter f args =>
      obtain ⟨e, w'', fr, hR, _⟩ := h.2.2 [] (room_wide _)
      cases e with
      | returned v => exact ⟨_, _, v, rfl, hR⟩
      | panicked c => exact hR.elim
      | outgrown => obtain ⟨_, _, h⟩ := hR; exact h.elim
    case row row args =>
      obtain ⟨v, w'', hR, _⟩ := h.2 default [] (room_wide _)
      exact ⟨_, _, v, rfl, hR⟩
    case round l f tmps assign body =>
      obtain ⟨e, w'', hR, _⟩ := h.2.2 default [] (room_wide _)
      cases e with
      | returned v => exact ⟨_, _, v, rfl, hR⟩
      | panicked c => exact hR.elim
      | outgrown => obtain ⟨_, _, h⟩ := hR; exact h.elim
  | halt x w' => cases x <;> simp only [Oper.uponIn] at h <;> exact h.elim
theorem f7 (a : Act) (x : Option Tmp) (v : Value) (y : Option Tmp) (u : Value) (d : Deferred) (h : ∀ t, x = some t → y ≠ some t) :
    (({ (a.put x v) with defers := d :: (a.put x v).defers } : Act).put y u) = (({ a with defers := d :: a.defers } : Act).put y u).put x v := by
  rw [Act.put_defers, Act.put_comm _ v u h]
theorem qj {oi oj : Oper} {a : Act} {w : World} {v : Value} {K : Act → World → Prop} (hap : oi.apart ops oj = true) (hsj : ∀ cs b, oj.op ≠ .select cs b)
    (h : opX P oj a w K bN) : opX P oj (a.put oi.dst v) w (fun a' w' => ∃ a1 u, a1.tmps = (a.put oj.dst u).tmps ∧ a' = a1.put oi.dst v ∧ K a1 w') bN := by
  obtain ⟨h1, h2, _⟩ := Oper.apart_spec hap
  unfold opX at *
  rw [execOp_put oj hsj a oi.dst v h1]
  generalize (execOp a.eval oj).run P w = r at *
  cases r with
  | ok n w' =>
    cases n <;> simp only [Oper.uponIn] at h ⊢
    case value u => exact ⟨_, u, rfl, Act.put_comm a v u h2, h⟩
    case skip => exact ⟨_, undef, rfl, Act.put_comm a v undef h2, h⟩
    case defer d => exact ⟨({ a with defers := d :: a.defers } : Act).put oj.dst undef, undef, fN a _ _ _, f7 a _ v _ undef d h2, h⟩
    case enter f args =>
      refine ⟨h.1, CallsIn.mono h.2 fun e w'' he => ?_⟩
      cases e with
      | returned u => exact ⟨_, u, rfl, Act.put_comm a v u h2, he⟩
      | panicked c => exact he
      | outgrown => obtain ⟨_, _, h⟩ := he; exact h.elim
    case round l f tmps assign body =>
      refine ⟨h.1, RoundIn.mono h.2 fun e w'' he => ?_⟩
      cases e with
      | returned u => exact ⟨_, u, rfl, Act.put_comm a v u h2, he⟩
      | panicked c => exact he
      | outgrown => obtain ⟨_, _, h⟩ := he; exact h.elim
    case row row args => exact ⟨h.1, RowsIn.mono h.2 fun u w'' he => ⟨_, u, rfl, Act.put_comm a v u h2, he⟩⟩
  | halt x w' => cases x <;> simp only [Oper.uponIn] at h ⊢ <;> exact h
theorem rF {oi oj : Oper} {a : Act} {w : World} {v : Value} {K : Act → World → Prop} (hap : oi.apart ops oj = true) (hsj : ∀ cs b, oj.op ≠ .select cs b)
    (h : opX P oj (a.put oi.dst v) w K bN) : opX P oj a w (fun a' w' => (∃ u, a'.tmps = (a.put oj.dst u).tmps) ∧ K (a'.put oi.dst v) w') bN := by
  obtain ⟨h1, h2, _⟩ := Oper.apart_spec hap
  unfold opX at *
  rw [execOp_put oj hsj a oi.dst v h1] at h
  generalize (execOp a.eval oj).run P w = r at *
  cases r with
  | ok n w' =>
    cases n <;> simp only [Oper.uponIn] at h ⊢
    case value u => exact ⟨⟨u, rfl⟩, by rw [← Act.put_comm a v u h2]; exact h⟩
    case skip => exact ⟨⟨undef, rfl⟩, by rw [← Act.put_comm a v undef h2]; exact h⟩
    case defer d => exact ⟨⟨undef, fN a _ _ _⟩, by rw [← f7 a _ v _ undef d h2]; exact h⟩
    case enter f args =>
      refine ⟨h.1, CallsIn.mono h.2 fun e w'' he => ?_⟩
      cases e with
      | returned u => exact ⟨⟨u, rfl⟩, by rw [← Act.put_comm a v u h2]; exact he⟩
      | panicked c => exact he
      | outgrown => obtain ⟨_, _, h⟩ := he; exact h.elim
    case round l f tmps assign body =>
      refine ⟨h.1, RoundIn.mono h.2 fun e w'' he => ?_⟩
      cases e with
      | returned u => exact ⟨⟨u, rfl⟩, by rw [← Act.put_comm a v u h2]; exact he⟩
      | panicked c => exact he
      | outgrown => obtain ⟨_, _, h⟩ := he; exact h.elim
    case row row args => exact ⟨h.1, RowsIn.mono h.2 fun u w'' he => ⟨⟨u, rfl⟩, by rw [← Act.put_comm a v u h2]; exact he⟩⟩
  | halt x w' => cases x <;> simp only [Oper.uponIn] at h ⊢ <;> exact h
theorem bI {ok oj : Oper} (hap : ok.apart ops oj = true) (hsk : ∀ cs b, ok.op ≠ .select cs b) {a a' : Act} {u : Value} (h : a'.tmps = (a.put oj.dst u).tmps) :
    execOp a'.eval ok = execOp a.eval ok := by
  obtain ⟨_, _, h3⟩ := Oper.apart_spec hap
  rw [mG h]; exact execOp_put ok hsk a oj.dst u h3
theorem bh {ok oj : Oper} (hap : ok.apart ops oj = true) {a a' : Act} {u : Value} (h : a'.tmps = (a.put oj.dst u).tmps) :
    Region.wanted ok (yielded ops a'.tmps) = Region.wanted ok (yielded ops a.tmps) := by
  obtain ⟨_, _, h3⟩ := Oper.apart_spec hap
  rw [h]; exact wanted_put ok a oj.dst u h3
theorem dh {ok oj : Oper} (hap : ok.apart ops oj = true) (hsj : ∀ cs b, oj.op ≠ .select cs b) {a a' : Act} {u : Value} (h : a'.tmps = (a.put ok.dst u).tmps) :
    execOp a'.eval oj = execOp a.eval oj := by
  obtain ⟨h1, _, _⟩ := Oper.apart_spec hap
  rw [mG h]; exact execOp_put oj hsj a ok.dst u h1
theorem cH {ok oj : Oper} (hap : ok.apart ops oj = true) {a a' : Act} {u : Value} (h : a'.tmps = (a.put ok.dst u).tmps) :
    Region.wanted oj (yielded ops a'.tmps) = Region.wanted oj (yielded ops a.tmps) := by
  obtain ⟨h1, _, _⟩ := Oper.apart_spec hap
  rw [h]; exact wanted_put oj a ok.dst u h1
theorem fO {x y : Oper} (hap : x.apart ops y = true) : y.apart ops x = true := by
  obtain ⟨q1, q2, q3⟩ := Oper.apart_spec hap
  have q2' : ∀ d, y.dst = some d → x.dst ≠ some d := fun d hd ho' => q2 d ho' hd
  unfold Oper.apart
  cases hd : y.dst with
  | none => cases hd' : x.dst with
    | none => simp
    | some d' => simp [q1 d' hd']
  | some d => cases hd' : x.dst with
    | none => simp [q3 d hd]
    | some d' => have := q2' d hd; rw [hd'] at this; simp [q3 d hd, q1 d' hd', fun e => this e]
variable (hsel : ∀ (j : Nat) (o : Oper) cs b, ops[j]? = some o → o.op ≠ .select cs b)
include hsel
theorem mr {j : Nat} {oj : Oper} (hj : ops[j]? = some oj) (hm : mk j = 0) (l2 : List Nat) : ∀ (l1 : List Nat) (a : Act) (w : World), C w →
    (∀ k ∈ l1, mk k ≠ 2 ∧ ∀ ok, ops[k]? = some ok → ok.apart ops oj = true) → eE P ops C Q mk (l1 ++ j :: l2) a w →
    Region.wanted oj (yielded ops a.tmps) = false ∨ (Region.wanted oj (yielded ops a.tmps) = true ∧ ∃ v, Reads P C oj a v)
  | [], a, w, hC, _, h => by
    obtain ⟨o, ho, h⟩ := h
    obtain rfl : oj = o := Option.some.inj (hj.symm.trans ho)
    cases hw : Region.wanted oj (yielded ops a.tmps)
    · exact .inl rfl
    · rw [Ae hw] at h
      rcases h with ⟨_, v, hv, _⟩ | ⟨h1, _⟩ | ⟨h1, _⟩
      · exact .inr ⟨rfl, v, hv⟩
      · omega
      · omega
  | k :: l1, a, w, hC, hall, h => by
    obtain ⟨o, ho, h⟩ := h
    have hap := (hall k (by simp)).2 o ho
    have hall' : ∀ m ∈ l1, mk m ≠ 2 ∧ ∀ ok, ops[m]? = some ok → ok.apart ops oj = true := fun m hm => hall m (by simp [hm])
    have back : ∀ a' w' u, a'.tmps = (a.put o.dst u).tmps → C w' → eE P ops C Q mk (l1 ++ j :: l2) a' w' →
        Region.wanted oj (yielded ops a.tmps) = false ∨ (Region.wanted oj (yielded ops a.tmps) = true ∧ ∃ v, Reads P C oj a v) := fun a' w' u ht hC' h' => by
      have := mr hj hm l2 l1 a' w' hC' hall' h'
      rw [cH hap ht] at this
      rcases this with h1 | ⟨h1, v, hv⟩
      · exact .inl h1
      · exact .inr ⟨h1, v, hv.same (dh hap (fun cs b => hsel j oj cs b hj) ht).symm⟩
    by_cases hw : Region.wanted o (yielded ops a.tmps) = true
    · rw [Ae hw] at h
      rcases h with ⟨_, v, _, h'⟩ | ⟨_, h'⟩ | ⟨h1, _⟩
      · exact back _ w v rfl hC h'
      · obtain ⟨a', w', u, ht, hC', h''⟩ := qi h'
        exact back a' w' u ht hC' h''
      · exact absurd h1 (hall k (by simp)).1
    · rw [Aa hw] at h
      exact back _ w undef rfl hC h
theorem ii {j : Nat} {oj : Oper} (hj : ops[j]? = some oj) (hm : mk j = 0) (l2 : List Nat) (v : Value) : ∀ (l1 : List Nat) (a : Act) (w : World), C w →
    (∀ k ∈ l1, mk k ≠ 2 ∧ ∀ ok, ops[k]? = some ok → ok.apart ops oj = true) → eE P ops C Q mk (l1 ++ j :: l2) a w →
    (Region.wanted oj (yielded ops a.tmps) = false ∧ v = undef ∨ Region.wanted oj (yielded ops a.tmps) = true ∧ Reads P C oj a v) →
    eE P ops C Q mk (l1 ++ l2) (a.put oj.dst v) w
  | [], a, w, hC, _, h, hv => by
    obtain ⟨o, ho, h⟩ := h
    obtain rfl : oj = o := Option.some.inj (hj.symm.trans ho)
    rcases hv with ⟨hw, rfl⟩ | ⟨hw, hr⟩
    · rw [Aa (by simp [hw])] at h; exact h
    · rw [Ae hw] at h
      rcases h with ⟨_, u, hu, h'⟩ | ⟨h1, _⟩ | ⟨h1, _⟩
      · rw [hr.eq hC hu]; exact h'
      · omega
      · omega
  | k :: l1, a, w, hC, hall, h, hv => by
    obtain ⟨o, ho, h⟩ := h
    have hap := (hall k (by simp)).2 o ho
    have hall' : ∀ m ∈ l1, mk m ≠ 2 ∧ ∀ ok, ops[m]? = some ok → ok.apart ops oj = true := fun m hm => hall m (by simp [hm])
    obtain ⟨_, h2, _⟩ := Oper.apart_spec hap
    have next : ∀ a' w' u, a'.tmps = (a.put o.dst u).tmps → C w' → eE P ops C Q mk (l1 ++ j :: l2) a' w' → eE P ops C Q mk (l1 ++ l2) (a'.put oj.dst v) w' := fun a' w' u ht hC' h' => by
      refine ii hj hm l2 v l1 a' w' hC' hall' h' ?_
      rw [cH hap ht]
      rcases hv with ⟨h1, h2⟩ | ⟨h1, h2⟩
      · exact .inl ⟨h1, h2⟩
      · exact .inr ⟨h1, h2.same (dh hap (fun cs b => hsel j oj cs b hj) ht)⟩
    refine ⟨o, ho, ?_⟩
    rw [bh hap (a := a) (a' := a.put oj.dst v) (u := v) rfl]
    by_cases hw : Region.wanted o (yielded ops a.tmps) = true
    · rw [Ae hw] at h ⊢
      rcases h with ⟨h1, u, hu, h'⟩ | ⟨h1, h'⟩ | ⟨h1, _⟩
      · refine .inl ⟨h1, u, hu.same (bI hap (fun cs b => hsel k o cs b ho) (u := v) rfl), ?_⟩
        rw [← Act.put_comm a u v h2]
        exact next _ w u rfl hC h'
      · refine .inr (.inl ⟨h1, ?_⟩)
        have hap' : oj.apart ops o = true := fO hap
        refine bp (fun a' w' hh => ?_) (qj hap' (fun cs b => hsel k o cs b ho) (v := v) h')
        obtain ⟨a1, u, ht, rfl, hC', h''⟩ := hh
        exact ⟨hC', next a1 w' u ht hC' h''⟩
      · exact absurd h1 (hall k (by simp)).1
    · rw [Aa hw] at h ⊢
      rw [← Act.put_comm a undef v h2]
      exact next _ w undef rfl hC h
theorem mu {j : Nat} {oj : Oper} (hj : ops[j]? = some oj) (hm : mk j = 1) (l2 : List Nat) : ∀ (l1 : List Nat) (a : Act) (w : World), C w →
    (∀ k ∈ l1, mk k = 0 ∧ ∀ ok, ops[k]? = some ok → ok.apart ops oj = true) → eE P ops C Q mk (l1 ++ j :: l2) a w →
    (Region.wanted oj (yielded ops a.tmps) = false ∧ eE P ops C Q mk (l1 ++ l2) (a.put oj.dst undef) w) ∨
    (Region.wanted oj (yielded ops a.tmps) = true ∧ opX P oj a w (fun a' w' => (∃ u, a'.tmps = (a.put oj.dst u).tmps) ∧ C w' ∧ eE P ops C Q mk (l1 ++ l2) a' w') bN)
  | [], a, w, hC, _, h => by
    obtain ⟨o, ho, h⟩ := h
    obtain rfl : oj = o := Option.some.inj (hj.symm.trans ho)
    cases hw : Region.wanted oj (yielded ops a.tmps)
    · rw [Aa (by simp [hw])] at h; exact .inl ⟨rfl, h⟩
    · rw [Ae hw] at h
      rcases h with ⟨h1, _⟩ | ⟨_, h'⟩ | ⟨h1, _⟩
      · omega
      · refine .inr ⟨rfl, ?_⟩
        unfold opX at *
        generalize (execOp a.eval oj).run P w = r at *
        cases r with
        | ok n w' =>
          cases n <;> simp only [Oper.uponIn] at h' ⊢
          case value u => exact ⟨⟨u, rfl⟩, h'⟩
          case skip => exact ⟨⟨undef, rfl⟩, h'⟩
          case defer d => exact ⟨⟨undef, fN a _ _ _⟩, h'⟩
          case enter f args =>
            refine ⟨h'.1, CallsIn.mono h'.2 fun e w'' he => ?_⟩
            cases e with
            | returned u => exact ⟨⟨u, rfl⟩, he⟩
            | panicked c => exact he
            | outgrown => obtain ⟨_, _, h⟩ := he; exact h.elim
          case round l f tmps assign body =>
            refine ⟨h'.1, RoundIn.mono h'.2 fun e w'' he => ?_⟩
            cases e with
            | returned u => exact ⟨⟨u, rfl⟩, he⟩
            | panicked c => exact he
            | outgrown => obtain ⟨_, _, h⟩ := he; exact h.elim
          case row row args => exact ⟨h'.1, RowsIn.mono h'.2 fun u w'' he => ⟨⟨u, rfl⟩, he⟩⟩
        | halt x w' => cases x <;> simp only [Oper.uponIn] at h' ⊢ <;> exact h'
      · omega
  | k :: l1, a, w, hC, hall, h => by
    obtain ⟨o, ho, h⟩ := h
    have hk0 := (hall k (by simp)).1
    have hap := (hall k (by simp)).2 o ho
    have hall' : ∀ m ∈ l1, mk m = 0 ∧ ∀ ok, ops[m]? = some ok → ok.apart ops oj = true := fun m hm => hall m (by simp [hm])
    obtain ⟨_, h2, _⟩ := Oper.apart_spec hap
    -- the value that k leaves, and the rest behind it
    have key : ∀ v, (∀ a' u, a'.tmps = (a.put oj.dst u).tmps → ∀ w', eE P ops C Q mk (l1 ++ l2) (a'.put o.dst v) w' → eE P ops C Q mk (k :: l1 ++ l2) a' w') → eE P ops C Q mk (l1 ++ j :: l2) (a.put o.dst v) w →
        (Region.wanted oj (yielded ops a.tmps) = false ∧ eE P ops C Q mk (k :: l1 ++ l2) (a.put oj.dst undef) w) ∨
        (Region.wanted oj (yielded ops a.tmps) = true ∧ opX P oj a w (fun a' w' => (∃ u, a'.tmps = (a.put oj.dst u).tmps) ∧ C w' ∧ eE P ops C Q mk (k :: l1 ++ l2) a' w') bN) := fun v back h' => by
      have := mu hj hm l2 l1 (a.put o.dst v) w hC hall' h'
      rw [cH hap (a := a) (a' := a.put o.dst v) (u := v) rfl] at this
      rcases this with ⟨h1, h3⟩ | ⟨h1, h3⟩
      · refine .inl ⟨h1, back _ undef rfl w ?_⟩
        rw [← Act.put_comm a v undef h2]; exact h3
      · refine .inr ⟨h1, bp (fun a' w' hh => ?_) (rF hap (fun cs b => hsel j oj cs b hj) h3)⟩
        obtain ⟨⟨u, ht⟩, _, hC', h4⟩ := hh
        exact ⟨⟨u, ht⟩, hC', back a' u ht w' h4⟩
    by_cases hw : Region.wanted o (yielded ops a.tmps) = true
    · rw [Ae hw] at h
      rcases h with ⟨_, v, hv, h'⟩ | ⟨h1, _⟩ | ⟨h1, _⟩
      · refine key v (fun a' u ht w' h'' => ⟨o, ho, ?_⟩) h'
        rw [Ae (by rw [bh hap ht]; exact hw)]
        exact .inl ⟨hk0, v, hv.same (bI hap (fun cs b => hsel k o cs b ho) ht), h''⟩
      · omega
      · omega
    · rw [Aa hw] at h
      refine key undef (fun a' u ht w' h'' => ⟨o, ho, ?_⟩) h
      rw [Aa (by rw [bh hap ht]; exact hw)]
      exact h''
omit hsel in
theorem ct {j : Nat} {oj : Oper} (hj : ops[j]? = some oj) {a : Act} {w : World} {K : Act → World → Prop} (hw : Region.wanted oj (yielded ops a.tmps) = true)
    (h : opX P oj a w K bN) : j1 P ops Q j K a w := by
  unfold j1
  simp only [hj, hw, if_true]
  unfold opX at *
  generalize (execOp a.eval oj).run P w = r at *
  cases r with
  | ok n w' =>
    cases n <;> simp only [Oper.uponIn] at h ⊢ <;> try exact h
    case enter f args =>
      refine ⟨h.1, CallsIn.mono h.2 fun e w'' he => ?_⟩
      cases e with
      | returned u => exact he
      | panicked c => exact he.elim
      | outgrown => obtain ⟨_, _, h⟩ := he; exact h.elim
    case round l f tmps assign body =>
      refine ⟨h.1, RoundIn.mono h.2 fun e w'' he => ?_⟩
      cases e with
      | returned u => exact he
      | panicked c => exact he.elim
      | outgrown => obtain ⟨_, _, h⟩ := he; exact h.elim
  | halt x w' => cases x <;> simp only [Oper.uponIn] at h ⊢ <;> exact h.elim
omit hsel in
theorem dR {j : Nat} {oj : Oper} (hj : ops[j]? = some oj) {a : Act} {w : World} {K : Act → World → Prop} (hw : Region.wanted oj (yielded ops a.tmps) = false)
    (h : K (a.put oj.dst undef) w) : j1 P ops Q j K a w := by
  unfold j1
  simp only [hj, hw, Bool.false_eq_true, if_false]
  exact h
end
def pl (m k : Nat) : Bool := (m >>> k) % 2 == 1
def nM (ops : List Oper) (masks : List Nat) : Bool :=
  (List.range ops.length).all fun j => match ops[j]? with
    | none => true
    | some o => (List.range j).all fun k => !pl (masks.getD j 0) k ||
        o.after.any fun e => Region.binds .any e && (e.on == k || (Nat.blt e.on j && Nat.blt k e.on && pl (masks.getD e.on 0) k))
def AF (ops : Array Oper) (l : List Oper) (masks marks : List Nat) : Bool :=
  (List.range l.length).all fun j => match l[j]? with
    | none => true
    | some oj => (List.range j).all fun k => match l[k]? with
      | none => true
      | some ok => pl (masks.getD j 0) k ||
        (ok.apart ops oj && !((marks.getD k 2 == 1) && (marks.getD j 2 == 1)) && (marks.getD k 2 != 2) && (marks.getD j 2 != 2))
def eJ : List Oper → List Nat → List Nat
  | [], acc => acc
  | o :: l, acc => eJ l (acc ++ [o.after.foldl (fun s e => if Region.binds .any e then s ||| (1 <<< e.on) ||| acc.getD e.on 0 else s) 0])
def sJ (ops : List Oper) : Bool :=
  (List.range ops.length).all fun j => match ops[j]? with
    | none => true
    | some o => o.after.all fun e => !Region.binds .any e || Nat.blt e.on j
def yT (ops : List Oper) : Bool := ops.all fun o => match o.op with | .select .. => false | _ => true
def uU (n : Nat) (marks : List Nat) : Bool := (List.range n).all fun j => (List.range j).all fun k => (marks.getD k 2 != 2) || (marks.getD j 2 == 2)
def qQ (l : List Oper) (marks : List Nat) : Bool :=
  uU l.length marks && yT l && sJ l && nM l (eJ l []) && AF l.toArray l (eJ l []) marks && marks.all (fun m => m == 0 || m == 1 || m == 2)
structure ot (l : List Oper) (listed : Array Bool) : Prop where
  size : listed.size = l.length
  closed : ∀ j o, l[j]? = some o → listed.getD j false = true → ∀ e ∈ o.after, Region.binds .any e = true → listed.getD e.on false = true
theorem jS {l : List Oper} {masks : List Nat} (hm : nM l masks = true) {listed : Array Bool} (hc : ot l listed) :
    ∀ (j : Nat) (o : Oper), l[j]? = some o → (∀ e ∈ o.after, Region.binds .any e = true → listed.getD e.on false = true) → ∀ k, k < j → pl (masks.getD j 0) k = true → listed.getD k false = true := by
  intro j
  induction j using Nat.strongRecOn with
  | _ j ih =>
    intro o ho hall k hk hb
    have hjl : j < l.length := (Ap.1 ho).1
    have h1 := Bt.1 hm j (Ct.2 hjl)
    simp only [ho] at h1
    have h2 := Bt.1 h1 k (Ct.2 hk)
    rw [hb] at h2
    simp only [Bool.not_true, Bool.false_or] at h2
    obtain ⟨e, he, h3⟩ := Array.any_eq_true'.1 h2
    simp only [Dl, Bool.or_eq_true, beq_iff_eq, Nat.blt_eq] at h3
    obtain ⟨hbind, h4⟩ := h3
    have hl := hall e he hbind
    rcases h4 with rfl | ⟨⟨h5, h6⟩, h7⟩
    · exact hl
    · have hlt : e.on < l.length := by omega
      obtain ⟨oe, hoe⟩ : ∃ oe, l[e.on]? = some oe := ⟨_, Ad hlt⟩
      exact ih e.on h5 oe hoe (hc.closed e.on oe hoe hl) k h6 h7
section
variable {P : Program} {l : List Oper} {C : World → Prop} {Q : Exit → Act → World → Prop} {marks : List Nat}
theorem lT (hB : qQ l marks = true) : ∀ (rest : List Nat) (listed : Array Bool) (a : Act) (w : World), ot l listed →
    (∀ i, i ∈ rest ↔ i < l.length ∧ listed.getD i false = false) → rest.Pairwise (· < ·) →
    (C w ∨ ∀ i ∈ rest, marks.getD i 2 = 2) → eE P l.toArray C Q (fun i => marks.getD i 2) rest a w →
    pp P .any l.toArray Q rest.length listed a w := by
  simp only [qQ, Dl] at hB
  obtain ⟨⟨⟨⟨⟨hhard, hsel⟩, hback⟩, hmask⟩, hpair⟩, hmarks⟩ := hB
  have hsel' : ∀ (j : Nat) (o : Oper) cs b, l.toArray[j]? = some o → o.op ≠ .select cs b := by
    intro j o cs b hj heq
    have := Bt.1 hsel o (A9 (by simpa using hj))
    simp [heq] at this
  intro rest
  induction hn : rest.length generalizing rest with
  | zero =>
    intro listed a w hcl hmem hpw hC h
    have : rest = [] := B0 hn
    subst this
    refine ⟨?_, h⟩
    rw [List.eq_nil_iff_forall_not_mem]
    intro i hi
    obtain ⟨h0, o, ho, _⟩ := mem_ready.1 hi
    have hil : i < l.length := by have := (Ap.1 (show l[i]? = some o by simpa using ho)).1; exact this
    have : i ∈ ([] : List Nat) := (hmem i).2 ⟨hil, by
      have : i < listed.size := by rw [hcl.size]; exact hil
      simp [this] at h0 ⊢; exact h0⟩
    cases this
  | succ n ih =>
    intro listed a w hcl hmem hpw hC h
    have hrest : rest ≠ [] := by intro e; subst e; simp at hn
    refine ⟨fun hnil => ?_, fun j hj => ?_⟩
    · -- the first of the rest is ready
      exfalso
      obtain ⟨i, r, rfl⟩ := List.exists_cons_of_ne_nil hrest
      have hi := (hmem i).1 (by simp)
      obtain ⟨o, ho⟩ : ∃ o, l[i]? = some o := ⟨_, Ad hi.1⟩
      have : i ∈ Region.ready .any l.toArray listed := mem_ready.2 ⟨by
          have hs : i < listed.size := by rw [hcl.size]; exact hi.1
          have := hi.2; simp [hs] at this ⊢; exact this, o, by simpa using ho, fun e he hb => by
        have h1 := Bt.1 hback i (Ct.2 hi.1)
        simp only [ho] at h1
        have h2 := Array.all_eq_true'.1 h1 e he
        simp only [hb, Bool.not_true, Bool.false_or, Nat.blt_eq] at h2
        cases hl : listed.getD e.on false with
        | true => rfl
        | false =>
          have h3 : e.on ∈ i :: r := (hmem e.on).2 ⟨by omega, hl⟩
          rcases Be.1 h3 with h4 | h4
          · omega
          · have := D5 hpw h4; omega⟩
      rw [hnil] at this
      cases this
    · obtain ⟨h0, oj, hoj, hall⟩ := mem_ready.1 hj
      have hojl : l[j]? = some oj := by simpa using hoj
      have hjl : j < l.length := (Ap.1 hojl).1
      have hjs : j < listed.size := by rw [hcl.size]; exact hjl
      have hjun : listed.getD j false = false := by simp [hjs] at h0 ⊢; exact h0
      have hjr : j ∈ rest := (hmem j).2 ⟨hjl, hjun⟩
      obtain ⟨l1, l2, rfl⟩ := List.append_of_mem hjr
      have hpw' := hpw
      rw [List.pairwise_append] at hpw'
      obtain ⟨p1, p2, p3⟩ := hpw'
      -- what stands before j and has not come up: apart from it, not both loud, none hard
      have hbefore : ∀ k ∈ l1, k < j ∧ ∀ ok, l[k]? = some ok → ok.apart l.toArray oj = true ∧ ¬ (marks.getD k 2 = 1 ∧ marks.getD j 2 = 1) ∧ marks.getD k 2 ≠ 2 ∧ marks.getD j 2 ≠ 2 := by
        intro k hk
        have hkj : k < j := p3 k hk j (by simp)
        refine ⟨hkj, fun ok hok => ?_⟩
        have h1 := Bt.1 hpair j (Ct.2 hjl)
        simp only [hojl] at h1
        have h2 := Bt.1 h1 k (Ct.2 hkj)
        simp only [hok, Bool.or_eq_true] at h2
        rcases h2 with h2 | h2
        · have h3 := jS hmask hcl j oj hojl hall k hkj h2
          have := ((hmem k).1 (by simp [hk])).2
          rw [h3] at this
          cases this
        · simp only [Dl, C4, Bool.and_eq_false_iff, beq_eq_false_iff_ne, bne_iff_ne] at h2
          obtain ⟨⟨⟨q1, q2⟩, q3⟩, q4⟩ := h2
          exact ⟨q1, fun hh => by rcases q2 with q2 | q2 <;> simp_all, q3, q4⟩
      have hlen : (l1 ++ l2).length = n := by simp at hn ⊢; omega
      have hmem' : ∀ i, i ∈ l1 ++ l2 ↔ i < l.length ∧ (listed.setIfInBounds j true).getD i false = false := by
        intro i
        by_cases hij : j = i
        · subst hij
          have hnot : j ∉ l1 ++ l2 := by
            intro hh
            rcases Bx.1 hh with hh | hh
            · have := p3 j hh j (by simp); omega
            · have := D5 p2 hh; omega
          simp [hnot, hjs]
        · rw [getD_set_ne false hij, ← hmem i]
          simp [Ne.symm hij]
      have hpw2 : (l1 ++ l2).Pairwise (· < ·) := by
        rw [List.pairwise_append]
        exact ⟨p1, (List.pairwise_cons.1 p2).2, fun x hx y hy => p3 x hx y (by simp [hy])⟩
      have hcl' : ot l (listed.setIfInBounds j true) := ⟨by simp [hcl.size], fun m om hom hm e he hb => by
        by_cases hjm : j = m
        · subst hjm
          obtain rfl : oj = om := Option.some.inj (hojl.symm.trans hom)
          exact getD_set_true (hall e he hb)
        · rw [getD_set_ne false hjm] at hm
          exact getD_set_true (hcl.closed m om hom hm e he hb)⟩
      have go : ∀ a' w', (C w' ∨ ∀ i ∈ l1 ++ l2, marks.getD i 2 = 2) → eE P l.toArray C Q (fun i => marks.getD i 2) (l1 ++ l2) a' w' → pp P .any l.toArray Q n (listed.setIfInBounds j true) a' w' := fun a' w' hC' h' => by
        have := ih (l1 ++ l2) hlen (listed.setIfInBounds j true) a' w' hcl' hmem' hpw2 hC' h'
        exact this
      have hmk : marks.getD j 2 = 0 ∨ marks.getD j 2 = 1 ∨ marks.getD j 2 = 2 := by
        rcases Cc j marks.length with h' | h'
        · have h1 := Bt.1 hmarks marks[j] (List.getElem_mem h')
          simp only [Bool.or_eq_true, beq_iff_eq] at h1
          have : marks.getD j 2 = marks[j] := by simp [h']
          rw [this]; omega
        · right; right; simp [h']
      rcases hmk with hmk | hmk | hmk
      · -- it reads
        have hCw : C w := by
          rcases hC with h' | h'
          · exact h'
          · have := h' j hjr; omega
        have hb' : ∀ k ∈ l1, (fun i => marks.getD i 2) k ≠ 2 ∧ ∀ ok, l.toArray[k]? = some ok → ok.apart l.toArray oj = true := fun k hk => by
          have hkl := ((hmem k).1 (by simp [hk])).1
          exact ⟨((hbefore k hk).2 _ (Ad hkl)).2.2.1, fun ok hok => ((hbefore k hk).2 ok (by simpa using hok)).1⟩
        rcases mr hsel' hoj hmk l2 l1 a w hCw hb' h with hw | ⟨hw, v, hv⟩
        · exact dR hoj hw (go _ w (.inl hCw) (ii hsel' hoj hmk l2 undef l1 a w hCw hb' h (.inl ⟨hw, rfl⟩)))
        · exact ct hoj hw (hv.wp hCw (go _ w (.inl hCw) (ii hsel' hoj hmk l2 v l1 a w hCw hb' h (.inr ⟨hw, hv⟩))))
      · -- it is loud
        have hCw : C w := by
          rcases hC with h' | h'
          · exact h'
          · have := h' j hjr; omega
        have hb' : ∀ k ∈ l1, (fun i => marks.getD i 2) k = 0 ∧ ∀ ok, l.toArray[k]? = some ok → ok.apart l.toArray oj = true := fun k hk => by
          have hkl := ((hmem k).1 (by simp [hk])).1
          have q := (hbefore k hk).2 _ (Ad hkl)
          have hk3 : marks.getD k 2 = 0 ∨ marks.getD k 2 = 1 ∨ marks.getD k 2 = 2 := by
            rcases Cc k marks.length with h' | h'
            · have h1 := Bt.1 hmarks marks[k] (List.getElem_mem h')
              simp only [Bool.or_eq_true, beq_iff_eq] at h1
              have : marks.getD k 2 = marks[k] := by simp [h']
              rw [this]; omega
            · right; right; simp [h']
          refine ⟨?_, fun ok hok => ((hbefore k hk).2 ok (by simpa using hok)).1⟩
          rcases hk3 with h' | h' | h'
          · exact h'
          · exact absurd ⟨h', hmk⟩ q.2.1
          · exact absurd h' q.2.2.1
        rcases mu hsel' hoj hmk l2 l1 a w hCw hb' h with ⟨hw, h'⟩ | ⟨hw, h'⟩
        · exact dR hoj hw (go _ w (.inl hCw) h')
        · exact ct hoj hw (bp (fun a' w' hh => go a' w' (.inl hh.2.1) hh.2.2) h')
      · -- the forced tail
        have hl1 : l1 = [] := by
          cases l1 with
          | nil => rfl
          | cons k r =>
            exfalso
            have hkl := ((hmem k).1 (by simp)).1
            exact ((hbefore k (by simp)).2 _ (Ad hkl)).2.2.2 hmk
        subst hl1
        have htail : ∀ i ∈ l2, marks.getD i 2 = 2 := by
          intro i hi
          have hji : j < i := D5 p2 hi
          have hil := ((hmem i).1 (by simp [hi])).1
          have h1 := Bt.1 (Bt.1 hhard i (Ct.2 hil)) j (Ct.2 hji)
          simp only [hmk, bne_self_eq_false, Bool.false_or, beq_iff_eq] at h1
          exact h1
        obtain ⟨o, ho, h'⟩ := h
        obtain rfl : oj = o := Option.some.inj (hoj.symm.trans ho)
        cases hw : Region.wanted oj (yielded l.toArray a.tmps)
        · rw [Aa (by simp [hw])] at h'
          exact dR hoj hw (go _ w (.inr htail) h')
        · rw [Ae hw] at h'
          rcases h' with ⟨h1, _⟩ | ⟨h1, _⟩ | ⟨_, h'⟩
          · simp only at h1; omega
          · simp only at h1; omega
          · exact ct hoj hw (bp (fun a' w' hh => go a' w' (.inr htail) hh) h')
end
def j2 (P : Program) (ops : Array Oper) (C : World → Prop) (Q : Exit → Act → World → Prop) : List Nat → List Oper → Act → World → Prop
  | _, [], a, w => Q .normal a w
  | [], _ :: _, _, _ => False
  | m :: ms, o :: rest, a, w =>
    if Region.wanted o (yielded ops a.tmps) then
      (m = 0 ∧ ∃ v, Reads P C o a v ∧ j2 P ops C Q ms rest (a.put o.dst v) w) ∨
      (m = 1 ∧ opX P o a w (fun a' w' => C w' ∧ j2 P ops C Q ms rest a' w') bN) ∨
      (m = 2 ∧ opX P o a w (fun a' w' => j2 P ops C Q ms rest a' w') bN)
    else j2 P ops C Q ms rest (a.put o.dst undef) w
theorem nK {P : Program} {l : List Oper} {C : World → Prop} {Q : Exit → Act → World → Prop} {marks : List Nat} : ∀ (n k : Nat) (a : Act) (w : World), k + n = l.length →
    j2 P l.toArray C Q (marks.drop k) (l.drop k) a w → eE P l.toArray C Q (fun i => marks.getD i 2) (List.range' k n) a w := by
  intro n
  induction n with
  | zero =>
    intro k a w hk h
    have : l.drop k = [] := Da (by omega)
    rw [this] at h
    simp only [List.range'_zero, eE]
    cases hm : marks.drop k <;> rw [hm] at h <;> exact h
  | succ n ih =>
    intro k a w hk h
    have hkl : k < l.length := by omega
    rw [B3 hkl] at h
    rw [List.range'_succ]
    rcases Cc k marks.length with hkm | hkm
    · rw [B3 hkm] at h
      have hm : marks.getD k 2 = marks[k] := by simp [hkm]
      refine ⟨l[k], by simp [hkl], ?_⟩
      simp only [j2] at h
      split at h
      · rename_i hw
        rw [Ae hw]
        simp only [hm]
        rcases h with ⟨h1, v, hv, h2⟩ | ⟨h1, h2⟩ | ⟨h1, h2⟩
        · exact .inl ⟨h1, v, hv, ih (k + 1) _ _ (by omega) h2⟩
        · exact .inr (.inl ⟨h1, bp (fun a' w' hh => ⟨hh.1, ih (k + 1) a' w' (by omega) hh.2⟩) h2⟩)
        · exact .inr (.inr ⟨h1, bp (fun a' w' hh => ih (k + 1) a' w' (by omega) hh) h2⟩)
      · rename_i hw
        rw [Aa hw]
        exact ih (k + 1) _ _ (by omega) h
    · rw [Da hkm] at h
      exact h.elim
theorem lR {P : Program} {ρ : Option Nat} {id : Nat} {l : List Oper} {C : World → Prop} {Q : Exit → Act → World → Prop} {a : Act} {w : World} (marks : List Nat) (hp : jZ ρ l) (hm : P.follows .mixedOrders = true)
    (hB : qQ l marks = true) (hC : C { w with drawn := w.drawn + 1 }) (h : j2 P l.toArray C Q marks l a { w with drawn := w.drawn + 1 }) : cdX ρ P (.region id l.toArray true) Q a w := by
  refine vP hp hm ?_
  have := lT hB (List.range l.length) (Array.replicate l.toArray.size false) a { w with drawn := w.drawn + 1 }
    ⟨by simp, fun j o _ hj => by simp [Array.getElem?_replicate] at hj; split at hj <;> simp at hj⟩
    (fun i => by simp [Array.getElem?_replicate]; intro hi; simp [hi]) List.pairwise_lt_range (.inl hC)
    (by rw [List.range_eq_range']; exact nK l.length 0 a _ (by omega) (by simpa using h))
  simpa using this
end Go.Proofs.YtchonigdjamphaaGreatDoor
namespace Go.Proofs.YtchonigdjamphaaGreatDoor
open Go.RowKit
set_option linter.unusedSimpArgs false
set_option linter.unusedVariables false
set_option maxHeartbeats 600000
set_option maxRecDepth 20000
theorem sB : (∀ (p : Prop) [Decidable p], (decide p = true) = p) ∧ (∀ (p : Prop) [Decidable p], (decide p = false) = ¬p) ∧ (∀ b : Bool, ((!b) = true) = (b = false)) ∧ (∀ b : Bool, ((!b) = false) = (b = true)) ∧ (∀ b : Bool, (!!b) = b) ∧ (∀ a b : Int, (¬ a < b) = (b ≤ a)) ∧ (∀ a b : Int, (¬ a ≤ b) = (b < a)) :=
  ⟨fun _ _ => by simp, fun _ _ => by simp, fun _ => by simp, fun _ => by simp, fun _ => by simp, fun _ _ => by simp, fun _ _ => by simp⟩
theorem sN : (∀ n : Nat, ((n : Int)).toNat = n) ∧ (∀ n : Nat, n * 1 = n) ∧ (∀ n : Nat, 0 + n = n) ∧ (∀ n : Nat, n + 0 = n) ∧ (∀ n : Nat, 0 * n = 0) ∧ (∀ n : Nat, n - 0 = n) :=
  ⟨fun _ => by simp, fun _ => by simp, fun _ => by simp, fun _ => by simp, fun _ => by simp, fun _ => by simp⟩
abbrev an := List (Nat × Value)
def ap : an → Nat → Option Value
  | [], _ => none
  | (d, v) :: L, k => bif Nat.beq k d then some v else ap L k
structure Fr (ds : List Deferred) (a : Act) (n : Nat) (L : an) : Prop where
  size : a.tmps.size = n
  defers : a.defers = ds
  at_ : ∀ k v, ap L k = some v → a.tmps[k]? = some v
def ai (L : an) : Operand → Option Value
  | .tmp t => ap L t
  | .const v => some v
  | .global g => some (.pointer (some ⟨g, 0, none⟩))
  | .func f => some (.func (.func f) #[] #[])
theorem Fr.eval {ds : List Deferred} {a : Act} {n : Nat} {L : an} (h : Fr ds a n L) {x : Operand} {v : Value} (hx : ai L x = some v) : a.eval x = v := by
  cases x with
  | tmp t => have := h.at_ t v hx; simp [Act.eval, this]
  | const u => simpa [ai, Act.eval] using hx
  | global g => simpa [ai, Act.eval] using hx
  | func f => simpa [ai, Act.eval] using hx
theorem Fr.put {ds : List Deferred} {a : Act} {n : Nat} {L : an} (h : Fr ds a n L) {d : Nat} (hd : Nat.blt d n = true) (v : Value) : Fr ds (a.put (some d) v) n ((d, v) :: L) := by
  have hd' : d < n := by simpa using hd
  refine ⟨by simp [Act.put, h.size], h.defers, fun k u hk => ?_⟩
  simp only [ap] at hk
  cases hb : Nat.beq k d with
  | true =>
    have : k = d := Nat.eq_of_beq_eq_true hb
    subst this
    simp only [hb, cond_true, Option.some.injEq] at hk
    subst hk
    simp [Act.put, h.size, hd']
  | false =>
    simp only [hb, cond_false] at hk
    have hne : d ≠ k := fun e => by subst e; simp at hb
    simp only [Act.put, Array.getElem?_setIfInBounds_ne hne]
    exact h.at_ k u hk
theorem Fr.none {ds : List Deferred} {a : Act} {n : Nat} {L : an} (h : Fr ds a n L) (v : Value) : Fr ds (a.put none v) n L := h
def putL (dst : Option Tmp) (v : Value) (L : an) : an :=
  match dst with
  | some d => (d, v) :: L
  | none => L
def i7 (dst : Option Tmp) (n : Nat) : Bool :=
  match dst with
  | some d => Nat.blt d n
  | none => true
theorem Fr.putL {ds : List Deferred} {a : Act} {n : Nat} {L : an} (h : Fr ds a n L) {dst : Option Tmp} (hd : i7 dst n = true) (v : Value) : Fr ds (a.put dst v) n (putL dst v L) := by
  cases dst with
  | none => exact h
  | some d => exact h.put hd v
theorem Fr.sub {ds : List Deferred} {a : Act} {n : Nat} {L L' : an} (h : Fr ds a n L) (hs : ∀ k v, ap L' k = some v → ap L k = some v) : Fr ds a n L' := ⟨h.size, h.defers, fun k v hk => h.at_ k v (hs k v hk)⟩
theorem dp (L : an) : ∀ k v, ap [] k = some v → ap L k = some v := fun _ _ h => by simp [ap] at h
theorem au {L L' : an} {d : Nat} {v : Value} (h : ap L d = some v) (h' : ∀ k u, ap L' k = some u → ap L k = some u) : ∀ k u, ap ((d, v) :: L') k = some u → ap L k = some u := by
  intro k u hk
  simp only [ap] at hk
  cases hb : Nat.beq k d with
  | true =>
    have : k = d := Nat.eq_of_beq_eq_true hb
    subst this
    simp only [hb, cond_true, Option.some.injEq] at hk
    subst hk; exact h
  | false => simp only [hb, cond_false] at hk; exact h' k u hk
theorem Fr.enter {args : Array Value} {n m : Nat} {L : an} (hn : args.size + m = n) (hL : ∀ k v, ap L k = some v → args[k]? = some v) :
    Fr [] { tmps := args ++ Array.replicate m undef, defers := [] } n L :=
  ⟨by simp [hn], rfl, fun k v hk => by
    have h1 := hL k v hk
    have : k < args.size := (B5.1 h1).1
    rw [Array.getElem?_append_left this]; exact h1⟩
theorem jl (args : Array Value) : ∀ k v, ap [] k = some v → args[k]? = some v := fun _ _ h => by simp [ap] at h
theorem fl {args : Array Value} {L : an} {d : Nat} {v : Value} (h : args[d]? = some v) (h' : ∀ k u, ap L k = some u → args[k]? = some u) : ∀ k u, ap ((d, v) :: L) k = some u → args[k]? = some u := by
  intro k u hk
  simp only [ap] at hk
  cases hb : Nat.beq k d with
  | true =>
    have : k = d := Nat.eq_of_beq_eq_true hb
    subst this
    simp only [hb, cond_true, Option.some.injEq] at hk
    subst hk; exact h
  | false => simp only [hb, cond_false] at hk; exact h' k u hk
def aH (ops : List Oper) (L : an) (o : Oper) : Option Bool :=
  match o.guard with
  | none => some true
  | some (g, b) => match (ops[g]?).bind (·.dst) with
    | none => some false
    | some d => match ap L d with
      | some (.bool c) => some (c == b)
      | some _ => some false
      | none => none
theorem bj {ds : List Deferred} {ops : List Oper} {L : an} {o : Oper} {a : Act} {n : Nat} {c : Bool} (h : Fr ds a n L) (hw : aH ops L o = some c) : Region.wanted o (yielded ops.toArray a.tmps) = c := by
  unfold aH at hw
  unfold Region.wanted
  cases hg : o.guard with
  | none => simp only [hg, Option.some.injEq] at hw; exact hw
  | some gb =>
    obtain ⟨g, b⟩ := gb
    simp only [hg] at hw
    simp only [yielded, Du]
    cases hd : (ops[g]?).bind (·.dst) with
    | none => simp only [hd, Option.some.injEq] at hw; subst hw; simp
    | some d =>
      simp only [hd] at hw
      simp only [Option.bind_some]
      cases hs : ap L d with
      | none => simp [hs] at hw
      | some v =>
        rw [h.at_ d v hs]
        simp only [hs] at hw
        cases v <;> simp_all
def WL (ds : List Deferred) (P : Program) (ops : List Oper) (Q : Exit → Act → World → Prop) (n : Nat) (rest : List Oper) (L : an) (S : World → Prop) : Prop :=
  ∀ a w, Fr ds a n L → S w → eZ P ops.toArray Q rest a w
def WM (ds : List Deferred) (P : Program) (ops : List Oper) (C : World → Prop) (Q : Exit → Act → World → Prop) (n : Nat) (marks : List Nat) (rest : List Oper) (L : an) (S : World → Prop) : Prop :=
  ∀ a w, Fr ds a n L → S w → j2 P ops.toArray C Q marks rest a w
def WC (ds : List Deferred) (ρ : Option Nat) (P : Program) (c : Code) (Q : Exit → Act → World → Prop) (n : Nat) (L : an) (S : World → Prop) : Prop :=
  ∀ a w, Fr ds a n L → S w → cdX ρ P c Q a w
def WX (ds : List Deferred) (Q : Exit → Act → World → Prop) (e : Exit) (n : Nat) (L : an) (S : World → Prop) : Prop :=
  ∀ a w, Fr ds a n L → S w → Q e a w
def Rd (ds : List Deferred) (P : Program) (o : Oper) (n : Nat) (L : an) (S : World → Prop) (v : Value) : Prop :=
  ∀ a, Fr ds a n L → Reads P S o a v
def Op1 (ds : List Deferred) (P : Program) (o : Oper) (n : Nat) (L : an) (S : World → Prop) (R : Value → World → Prop) : Prop :=
  ∀ a w, Fr ds a n L → S w → opX P o a w (fun a' w' => ∃ v, a' = a.put o.dst v ∧ R v w') bN
section
variable {ds : List Deferred} {ρ : Option Nat} {P : Program} {ops : List Oper} {C S : World → Prop} {Q : Exit → Act → World → Prop} {n : Nat} {rest : List Oper} {L : an} {o : Oper} {v : Value} {marks : List Nat}
theorem WL.rd (hw : aH ops L o = some true) (hd : i7 o.dst n = true) (h : Rd ds P o n L S v) (k : WL ds P ops Q n rest (putL o.dst v L) S) : WL ds P ops Q n (o :: rest) L S := by
  intro a w hF hS
  unfold eZ
  rw [Ae (bj hF hw)]
  exact (h a hF).wp hS (k _ w (hF.putL hd v) hS)
theorem WL.skip (hw : aH ops L o = some false) (hd : i7 o.dst n = true) (k : WL ds P ops Q n rest (putL o.dst undef L) S) : WL ds P ops Q n (o :: rest) L S := by
  intro a w hF hS
  unfold eZ
  rw [Aa (by rw [bj hF hw]; simp)]
  exact k _ w (hF.putL hd undef) hS
theorem na {o : Oper} {a : Act} {w : World} {K : Act → World → Prop} (h : opX P o a w K bN) : opX P o a w K Q := by
  unfold opX at *
  generalize (execOp a.eval o).run P w = r at *
  cases r with
  | ok n w' =>
    cases n <;> simp only [Oper.uponIn] at h ⊢ <;> try exact h
    case enter f args =>
      refine ⟨h.1, CallsIn.mono h.2 fun e w'' he => ?_⟩
      cases e with
      | returned u => exact he
      | panicked c => exact he.elim
      | outgrown => obtain ⟨_, _, h⟩ := he; exact h.elim
    case round l f tmps assign body =>
      refine ⟨h.1, RoundIn.mono h.2 fun e w'' he => ?_⟩
      cases e with
      | returned u => exact he
      | panicked c => exact he.elim
      | outgrown => obtain ⟨_, _, h⟩ := he; exact h.elim
  | halt x w' => cases x <;> simp only [Oper.uponIn] at h ⊢ <;> exact h.elim
theorem WL.op {R : Value → World → Prop} (hw : aH ops L o = some true) (hd : i7 o.dst n = true) (h : Op1 ds P o n L S R) (k : ∀ v, WL ds P ops Q n rest (putL o.dst v L) (R v)) : WL ds P ops Q n (o :: rest) L S := by
  intro a w hF hS
  unfold eZ
  rw [Ae (bj hF hw)]
  refine (na (bp (fun a' w' hh => ?_) (h a w hF hS)))
  obtain ⟨v, rfl, hR⟩ := hh
  exact k v _ w' (hF.putL hd v) hR
theorem WL.nil (k : WX ds Q .normal n L S) : WL ds P ops Q n [] L S := fun a w hF hS => k a w hF hS
theorem WM.rd (hw : aH ops L o = some true) (hd : i7 o.dst n = true) (h : Rd ds P o n L C v) (k : WM ds P ops C Q n marks rest (putL o.dst v L) S) : WM ds P ops C Q n (0 :: marks) (o :: rest) L S := by
  intro a w hF hS
  unfold j2
  rw [Ae (bj hF hw)]
  exact .inl ⟨rfl, v, h a hF, k _ w (hF.putL hd v) hS⟩
theorem WM.skip {m : Nat} (hw : aH ops L o = some false) (hd : i7 o.dst n = true) (k : WM ds P ops C Q n marks rest (putL o.dst undef L) S) : WM ds P ops C Q n (m :: marks) (o :: rest) L S := by
  intro a w hF hS
  unfold j2
  rw [Aa (by rw [bj hF hw]; simp)]
  exact k _ w (hF.putL hd undef) hS
theorem WM.op {R : Value → World → Prop} (hw : aH ops L o = some true) (hd : i7 o.dst n = true) (h : Op1 ds P o n L S R) (hC : ∀ v w, R v w → C w) (k : ∀ v, WM ds P ops C Q n marks rest (putL o.dst v L) (R v)) :
    WM ds P ops C Q n (1 :: marks) (o :: rest) L S := by
  intro a w hF hS
  unfold j2
  rw [Ae (bj hF hw)]
  refine .inr (.inl ⟨rfl, bp (fun a' w' hh => ?_) (h a w hF hS)⟩)
  obtain ⟨v, rfl, hR⟩ := hh
  exact ⟨hC v w' hR, k v _ w' (hF.putL hd v) hR⟩
theorem WM.hard {R : Value → World → Prop} (hw : aH ops L o = some true) (hd : i7 o.dst n = true) (h : Op1 ds P o n L S R) (k : ∀ v, WM ds P ops C Q n marks rest (putL o.dst v L) (R v)) :
    WM ds P ops C Q n (2 :: marks) (o :: rest) L S := by
  intro a w hF hS
  unfold j2
  rw [Ae (bj hF hw)]
  refine .inr (.inr ⟨rfl, bp (fun a' w' hh => ?_) (h a w hF hS)⟩)
  obtain ⟨v, rfl, hR⟩ := hh
  exact k v _ w' (hF.putL hd v) hR
theorem WM.nil (k : WX ds Q .normal n L S) : WM ds P ops C Q n [] [] L S := fun a w hF hS => k a w hF hS
theorem Op1.of_rd (h : Rd ds P o n L S v) : Op1 ds P o n L S (fun u w => u = v ∧ S w) := fun a w hF hS => (h a hF).wp hS ⟨v, rfl, rfl, hS⟩
theorem WM.hard_rd (hw : aH ops L o = some true) (hd : i7 o.dst n = true) (h : Rd ds P o n L S v) (k : WM ds P ops C Q n marks rest (putL o.dst v L) S) : WM ds P ops C Q n (2 :: marks) (o :: rest) L S :=
  WM.hard hw hd (Op1.of_rd h) fun _ a _ hF ⟨e, hS⟩ => by subst e; exact k a _ hF hS
theorem WL.st {S' : World → Prop} (h : ∀ w, S w → S' w) (k : WL ds P ops Q n rest L S') : WL ds P ops Q n rest L S := fun a w hF hS => k a w hF (h w hS)
theorem WM.st {S' : World → Prop} (h : ∀ w, S w → S' w) (k : WM ds P ops C Q n marks rest L S') : WM ds P ops C Q n marks rest L S := fun a w hF hS => k a w hF (h w hS)
theorem WC.st {c : Code} {S' : World → Prop} (h : ∀ w, S w → S' w) (k : WC ds ρ P c Q n L S') : WC ds ρ P c Q n L S := fun a w hF hS => k a w hF (h w hS)
theorem WX.st {e : Exit} {S' : World → Prop} (h : ∀ w, S w → S' w) (k : WX ds Q e n L S') : WX ds Q e n L S := fun a w hF hS => k a w hF (h w hS)
theorem Fr.set {ds : List Deferred} {a : Act} {d : Nat} {v v' : Value} (hF : Fr ds a n L) (h : ap L d = some v) (e : v = v') : Fr ds a n ((d, v') :: L) :=
  hF.sub (au (e ▸ h) (fun _ _ h => h))
theorem WL.set (d : Nat) {v v' : Value} (h : ap L d = some v) (e : v = v') (k : WL ds P ops Q n rest ((d, v') :: L) S) : WL ds P ops Q n rest L S := fun a w hF hS => k a w (hF.set h e) hS
theorem WM.set (d : Nat) {v v' : Value} (h : ap L d = some v) (e : v = v') (k : WM ds P ops C Q n marks rest ((d, v') :: L) S) : WM ds P ops C Q n marks rest L S := fun a w hF hS => k a w (hF.set h e) hS
theorem WC.set {c : Code} (d : Nat) {v v' : Value} (h : ap L d = some v) (e : v = v') (k : WC ds ρ P c Q n ((d, v') :: L) S) : WC ds ρ P c Q n L S := fun a w hF hS => k a w (hF.set h e) hS
theorem WL.bool (d : Nat) {t : Bool} (h : ap L d = some (.bool t)) (h1 : t = true → WL ds P ops Q n rest ((d, .bool true) :: L) S) (h2 : t = false → WL ds P ops Q n rest ((d, .bool false) :: L) S) : WL ds P ops Q n rest L S := by
  cases t
  · exact WL.set d h rfl (h2 rfl)
  · exact WL.set d h rfl (h1 rfl)
theorem WM.bool (d : Nat) {t : Bool} (h : ap L d = some (.bool t)) (h1 : t = true → WM ds P ops C Q n marks rest ((d, .bool true) :: L) S) (h2 : t = false → WM ds P ops C Q n marks rest ((d, .bool false) :: L) S) : WM ds P ops C Q n marks rest L S := by
  cases t
  · exact WM.set d h rfl (h2 rfl)
  · exact WM.set d h rfl (h1 rfl)
theorem WC.sub {c : Code} {L' : an} (hs : ∀ k v, ap L' k = some v → ap L k = some v) (k : WC ds ρ P c Q n L' S) : WC ds ρ P c Q n L S := fun a w hF hS => k a w (hF.sub hs) hS
theorem WC.seq {x y : Code} (k : WC ds ρ P x (Exit.then (cdX ρ P y Q) Q) n L S) : WC ds ρ P (.seq x y) Q n L S := fun a w hF hS => wpIn_seq (k a w hF hS)
theorem WC.block {id : Nat} {c : Code} (k : WC ds ρ P c (Exit.inBlock id Q) n L S) : WC ds ρ P (.block id c) Q n L S := fun a w hF hS => wpIn_block (k a w hF hS)
theorem WC.skip (k : WX ds Q .normal n L S) : WC ds ρ P .skip Q n L S := fun a w hF hS => wpIn_skip (k a w hF hS)
theorem WC.exit {id : Nat} (k : WX ds Q (.exit id) n L S) : WC ds ρ P (.exit id) Q n L S := fun a w hF hS => wpIn_exit (k a w hF hS)
theorem WC.ret (k : WX ds Q .ret n L S) : WC ds ρ P .ret Q n L S := fun a w hF hS => wpIn_ret (k a w hF hS)
theorem WC.region {id : Nat} {l : List Oper} (k : WL ds P l Q n l L S) : WC ds none P (.region id l.toArray false) Q n L S := fun a w hF hS => vO (.inl rfl) (k a w hF hS)
theorem WR.region {id : Nat} {l : List Oper} (hp : ml l = true) (k : WL ds P l Q n l L S) : WC ds ρ P (.region id l.toArray false) Q n L S := fun a w hF hS => vO (.inr hp) (k a w hF hS)
theorem WC.cond {c : Operand} {x y : Code} {t : Bool} (hc : ai L c = some (.bool t)) (h1 : t = true → WC ds ρ P x Q n L S) (h2 : t = false → WC ds ρ P y Q n L S) : WC ds ρ P (.cond c x y) Q n L S := fun a w hF hS =>
  wpIn_cond_split (hF.eval hc) (fun e => h1 e a w hF hS) (fun e => h2 e a w hF hS)
theorem WC.mix {id : Nat} {l : List Oper} (marks : List Nat) (hm : P.follows .mixedOrders = true) (hB : qQ l marks = true) (hS : ∀ w, S w → S { w with drawn := w.drawn + 1 }) (k : WM ds P l S Q n marks l L S) :
    WC ds none P (.region id l.toArray true) Q n L S := fun a w hF h => lR marks (.inl rfl) hm hB (hS w h) (k a _ hF (hS w h))
theorem WX.then_normal {y : Code} (k : WC ds ρ P y Q n L S) : WX ds (Exit.then (cdX ρ P y Q) Q) .normal n L S := fun a w hF hS => k a w hF hS
theorem WX.then_exit {K : Act → World → Prop} {id : Nat} (k : WX ds Q (.exit id) n L S) : WX ds (Exit.then K Q) (.exit id) n L S := fun a w hF hS => k a w hF hS
theorem WX.then_ret {K : Act → World → Prop} (k : WX ds Q .ret n L S) : WX ds (Exit.then K Q) .ret n L S := fun a w hF hS => k a w hF hS
theorem WX.block_normal {id : Nat} (k : WX ds Q .normal n L S) : WX ds (Exit.inBlock id Q) .normal n L S := fun a w hF hS => k a w hF hS
theorem WX.block_ret {id : Nat} (k : WX ds Q .ret n L S) : WX ds (Exit.inBlock id Q) .ret n L S := fun a w hF hS => k a w hF hS
theorem WX.block_exit {id : Nat} (k : WX ds Q .normal n L S) : WX ds (Exit.inBlock id Q) (.exit id) n L S := fun a w hF hS => by
  show (if id = id then Q .normal a w else Q (.exit id) a w); rw [Ae rfl]; exact k a w hF hS
theorem WX.block_other {id id' : Nat} (hne : Nat.beq id' id = false) (k : WX ds Q (.exit id') n L S) : WX ds (Exit.inBlock id Q) (.exit id') n L S := fun a w hF hS => by
  have : id' ≠ id := fun e => by subst e; simp at hne
  show (if id' = id then Q .normal a w else Q (.exit id') a w); rw [Aa this]; exact k a w hF hS
def mZ (ds : List Deferred) {σ : Type} (Ls : σ → an) (Ss : σ → World → Prop) (μ : σ → Nat) (n : Nat) (s : σ) (a : Act) (w : World) : Prop := ∃ s', μ s' < μ s ∧ Fr ds a n (Ls s') ∧ Ss s' w
theorem WC.loop {c : Code} {σ : Type} (Ls : σ → an) (Ss : σ → World → Prop) (μ : σ → Nat) (s0 : σ) (hL : ∀ k v, ap (Ls s0) k = some v → ap L k = some v) (hS : ∀ w, S w → Ss s0 w)
    (round : ∀ s, WC ds ρ P c (Exit.then (mZ ds Ls Ss μ n s) Q) n (Ls s) (Ss s)) : WC ds ρ P (.loop c) Q n L S := by
  intro a w hF h b k cs hro hb hr
  have key : ∀ m s, μ s = m → ∀ a w, Fr ds a n (Ls s) → Ss s w → ∃ e a' w', Q e a' w' ∧ ArrivesIn (Machine.fenced P (wd ρ)) P (lone (b.atR a (.code c :: .inLoop c :: k)) cs w) b k cs e a' w' := by
    intro m
    induction m using Nat.strongRecOn with
    | _ m ih =>
      intro s hs a w hF hS
      obtain ⟨e, a₁, w₁, hq, harr⟩ := round s a w hF hS b (.inLoop c :: k) cs hro hb hr
      cases e with
      | normal =>
        obtain ⟨s', hlt, hF', hS'⟩ := hq
        obtain ⟨e₂, a₂, w₂, hq₂, harr₂⟩ := ih (μ s') (hs ▸ hlt) s' rfl a₁ w₁ hF' hS'
        exact ⟨e₂, a₂, w₂, hq₂, .of_steps (StepsIn.trans harr (.one (fenced_calm hb hr rfl) stepR_inLoop)) harr₂⟩
      | exit id => exact ⟨_, a₁, w₁, hq, .pass (x := .inLoop c) rfl (fun _ _ => .inl (by simp)) harr⟩
      | goto l => exact ⟨_, a₁, w₁, hq, .pass (x := .inLoop c) rfl (fun _ _ => .inl (by simp)) harr⟩
      | ret => exact ⟨_, a₁, w₁, hq, .pass (x := .inLoop c) rfl (fun _ _ => .inl (by simp)) harr⟩
      | panic ch => exact ⟨_, a₁, w₁, hq, .pass (x := .inLoop c) rfl (fun _ _ => .inl (by simp)) harr⟩
      | outgrown => exact ⟨_, a₁, w₁, hq, .pass (x := .inLoop c) rfl (fun _ _ => .inl (by simp)) harr⟩
  obtain ⟨e, a', w', hq, harr⟩ := key _ s0 rfl a w (hF.sub hL) (hS w h)
  exact ⟨e, a', w', hq, .of_steps (.one (fenced_calm hb hr rfl) stepR_loop) harr⟩
theorem WX.loop {σ : Type} {Ls : σ → an} {Ss : σ → World → Prop} {μ : σ → Nat} {s : σ} (s' : σ) (hμ : μ s' < μ s) (hL : ∀ k v, ap (Ls s') k = some v → ap L k = some v) (hS : ∀ w, S w → Ss s' w) :
    WX ds (Exit.then (mZ ds Ls Ss μ n s) Q) .normal n L S := fun _ w hF h => ⟨s', hμ, hF.sub hL, hS w h⟩
end
def S (l : List UInt8) : ByteArray := ⟨l.toArray⟩
theorem oo (s : ByteArray) : S s.data.toList = s := by cases s; simp [S]
theorem eR (l : List UInt8) : (S l).size = l.length := by simp [S, ByteArray.size]
theorem wl (a b : List UInt8) : S a ++ S b = S (a ++ b) := by
  have h : (S a ++ S b).data.toList = a ++ b := by simp [S]
  rw [← oo (S a ++ S b), h]
theorem mY (l : List UInt8) (i j : Nat) : (S l).extract i j = S ((l.drop i).take (j - i)) := by
  rw [← oo ((S l).extract i j), Lib.extract_data]; simp [S]
theorem pv (l : List UInt8) : (S l).toList = l := ByteArray.toList_mk l
theorem EV (l : List UInt8) (i : Nat) : (S l)[i]? = l[i]? := by
  by_cases h : i < l.length
  · have : i < (S l).size := by rw [eR]; exact h
    rw [getElem?_pos (S l) i this, Ad h]; rfl
  · have : ¬ i < (S l).size := by rw [eR]; exact h
    rw [getElem?_neg (S l) i this, Dw (by omega)]
section
variable {ds : List Deferred} {ρ : Option Nat} {P : Program} {o : Oper} {n : Nat} {L : an} {St : World → Prop} {x y z : Operand} {v u : Value} {t t2 : TypeId}
theorem aI (h : ∀ a, Fr ds a n L → ∀ w, St w → (execOp a.eval o).run P w = .ok (.value v) w) : Rd ds P o n L St v := fun a hF w hw => .inl (h a hF w hw)
theorem cI (hop : o.op = .move x) (hx : ai L x = some v) : Rd ds P o n L St v := aI fun a hF w _ => by simp [execOp, hop, hF.eval hx]
theorem bS (hop : o.op = .assign x) (hx : ai L x = some v) : Rd ds P o n L St v := aI fun a hF w _ => by simp [execOp, hop, hF.eval hx]
theorem aW {op : BinOp} {r : Value} (hop : o.op = .binOp op t x y t2) (hx : ai L x = some v) (hy : ai L y = some u) (hg : ∀ w : World, (eqGuard op t x y v u).run P w = .ok () w) (h : ∀ w : World, (binOp op t v u).run P w = .ok r w) : Rd ds P o n L St r :=
  aI fun a hF w _ => by simp [execOp, hop, hF.eval hx, hF.eval hy, hg, h]
theorem bg (op : BinOp) (k k' : IntKind) (i j : Int) (w : World) : (eqGuard op t x y (.int k i) (.int k' j)).run P w = .ok () w := by
  cases op <;> simp [eqGuard]
theorem fG (op : BinOp) (a b : ByteArray) (w : World) : (eqGuard op t x y (.string a) (.string b)).run P w = .ok () w := by
  cases op <;> simp [eqGuard]
theorem lr (op : BinOp) (a b : Bool) (w : World) : (eqGuard op t x y (.bool a) (.bool b)).run P w = .ok () w := by
  cases op <;> simp [eqGuard]
variable {k : IntKind} {i j : Int}
theorem pJ (hop : o.op = .binOp .add t x y t2) (hx : ai L x = some (.int k i)) (hy : ai L y = some (.int k j)) : Rd ds P o n L St (.int k (k.wrap (i + j))) :=
  aW hop hx hy (bg _ _ _ _ _) fun w => by simp [binOp, Op.intArith]
theorem kS (hop : o.op = .binOp .sub t x y t2) (hx : ai L x = some (.int k i)) (hy : ai L y = some (.int k j)) : Rd ds P o n L St (.int k (k.wrap (i - j))) :=
  aW hop hx hy (bg _ _ _ _ _) fun w => by simp [binOp, Op.intArith]
theorem nw (hop : o.op = .binOp .mul t x y t2) (hx : ai L x = some (.int k i)) (hy : ai L y = some (.int k j)) : Rd ds P o n L St (.int k (k.wrap (i * j))) :=
  aW hop hx hy (bg _ _ _ _ _) fun w => by simp [binOp, Op.intArith]
theorem bB (hop : o.op = .binOp .add t x y t2) (hx : ai L x = some (.int .i64 i)) (hy : ai L y = some (.int .i64 j)) (h : -9223372036854775808 ≤ i + j ∧ i + j ≤ 9223372036854775807) : Rd ds P o n L St (.int .i64 (i + j)) := by
  have := pJ (ds := ds) (P := P) (n := n) (St := St) hop hx hy; rwa [IntWalk.i64_in _ h] at this
theorem aK (hop : o.op = .binOp .sub t x y t2) (hx : ai L x = some (.int .i64 i)) (hy : ai L y = some (.int .i64 j)) (h : -9223372036854775808 ≤ i - j ∧ i - j ≤ 9223372036854775807) : Rd ds P o n L St (.int .i64 (i - j)) := by
  have := kS (ds := ds) (P := P) (n := n) (St := St) hop hx hy; rwa [IntWalk.i64_in _ h] at this
theorem kZ (hop : o.op = .binOp .mul t x y t2) (hx : ai L x = some (.int .i64 i)) (hy : ai L y = some (.int .i64 j)) (h : -9223372036854775808 ≤ i * j ∧ i * j ≤ 9223372036854775807) : Rd ds P o n L St (.int .i64 (i * j)) := by
  have := nw (ds := ds) (P := P) (n := n) (St := St) hop hx hy; rwa [IntWalk.i64_in _ h] at this
theorem nx (hop : o.op = .binOp .lss t x y t2) (hx : ai L x = some (.int k i)) (hy : ai L y = some (.int k j)) : Rd ds P o n L St (.bool (decide (i < j))) :=
  aW hop hx hy (bg _ _ _ _ _) fun w => by simp [binOp, Op.intCmp]
theorem ug (hop : o.op = .binOp .leq t x y t2) (hx : ai L x = some (.int k i)) (hy : ai L y = some (.int k j)) : Rd ds P o n L St (.bool (decide (i ≤ j))) :=
  aW hop hx hy (bg _ _ _ _ _) fun w => by simp [binOp, Op.intCmp]
theorem pI (hop : o.op = .binOp .gtr t x y t2) (hx : ai L x = some (.int k i)) (hy : ai L y = some (.int k j)) : Rd ds P o n L St (.bool (decide (j < i))) :=
  aW hop hx hy (bg _ _ _ _ _) fun w => by simp [binOp, Op.intCmp]
theorem uh (hop : o.op = .binOp .geq t x y t2) (hx : ai L x = some (.int k i)) (hy : ai L y = some (.int k j)) : Rd ds P o n L St (.bool (decide (j ≤ i))) :=
  aW hop hx hy (bg _ _ _ _ _) fun w => by simp [binOp, Op.intCmp]
theorem zZ (hop : o.op = .binOp .eql t x y t2) (hx : ai L x = some (.int k i)) (hy : ai L y = some (.int k j)) : Rd ds P o n L St (.bool (decide (i = j))) :=
  aW hop hx hy (bg _ _ _ _ _) fun w => by simp [binOp, Op.intCmp]; exact B7.2 (by simp)
theorem kY (hop : o.op = .binOp .neq t x y t2) (hx : ai L x = some (.int k i)) (hy : ai L y = some (.int k j)) : Rd ds P o n L St (.bool (!decide (i = j))) :=
  aW hop hx hy (bg _ _ _ _ _) fun w => by simp [binOp, Op.intCmp]; exact B7.2 (by simp)
theorem pG (hop : o.op = .binOp .quo t x y t2) (hx : ai L x = some (.int k i)) (hy : ai L y = some (.int k j)) (h : j ≠ 0) : Rd ds P o n L St (.int k (k.wrap (i.tdiv j))) :=
  aW hop hx hy (bg _ _ _ _ _) fun w => by simp [binOp, Op.intDiv, h]
theorem nu (hop : o.op = .binOp .rem t x y t2) (hx : ai L x = some (.int k i)) (hy : ai L y = some (.int k j)) (h : j ≠ 0) : Rd ds P o n L St (.int k (i.tmod j)) :=
  aW hop hx hy (bg _ _ _ _ _) fun w => by simp [binOp, Op.intDiv, h]
theorem jv (hop : o.op = .binOp .shl t x y t2) {k' : IntKind} (hx : ai L x = some (.int k i)) (hy : ai L y = some (.int k' j)) (h : 0 ≤ j) : Rd ds P o n L St (.int k (k.wrap (i * 2 ^ (min j.toNat k.bits)))) :=
  aW hop hx hy (bg _ _ _ _ _) fun w => by simp [binOp, Op.shift, show ¬ j < 0 by omega]
theorem f6 (hop : o.op = .binOp .shr t x y t2) {k' : IntKind} (hx : ai L x = some (.int k i)) (hy : ai L y = some (.int k' j)) (h : 0 ≤ j) : Rd ds P o n L St (.int k (i.fdiv (2 ^ (min j.toNat k.bits)))) :=
  aW hop hx hy (bg _ _ _ _ _) fun w => by simp [binOp, Op.shift, show ¬ j < 0 by omega]
theorem nz (hop : o.op = .binOp .and t x y t2) (hx : ai L x = some (.int k i)) (hy : ai L y = some (.int k j)) : Rd ds P o n L St (.int k (bits .and k i j)) :=
  aW hop hx hy (bg _ _ _ _ _) fun w => by simp [binOp, intBits_and]
theorem mg (hop : o.op = .binOp .or t x y t2) (hx : ai L x = some (.int k i)) (hy : ai L y = some (.int k j)) : Rd ds P o n L St (.int k (bits .or k i j)) :=
  aW hop hx hy (bg _ _ _ _ _) fun w => by simp [binOp, intBits_or]
theorem kR (hop : o.op = .binOp .xor t x y t2) (hx : ai L x = some (.int k i)) (hy : ai L y = some (.int k j)) : Rd ds P o n L St (.int k (bits .xor k i j)) :=
  aW hop hx hy (bg _ _ _ _ _) fun w => by simp [binOp, intBits_xor]
theorem pC {op : UnOp} {r : Value} (hop : o.op = .unOp op t x) (hx : ai L x = some v) (h : ∀ w : World, (Op.unary op v).run P w = .ok r w) : Rd ds P o n L St r :=
  aI fun a hF w _ => by simp [execOp, hop, hF.eval hx, h]
theorem uf (hop : o.op = .unOp .neg t x) (hx : ai L x = some (.int k i)) : Rd ds P o n L St (.int k (k.wrap (0 - i))) := pC hop hx fun w => by simp [Op.unary, Op.intArith]
theorem pH {b : Bool} (hop : o.op = .unOp .not t x) (hx : ai L x = some (.bool b)) : Rd ds P o n L St (.bool (!b)) := pC hop hx fun w => by simp [Op.unary]
theorem z7 (hop : o.op = .unOp .xor t x) (hx : ai L x = some (.int k i)) : Rd ds P o n L St (.int k (bits .xor k (if k.signed then -1 else k.max) i)) := pC hop hx fun w => by simp only [Op.unary, intBits_xor]; rfl
theorem fZ {r : Value} (hop : o.op = .convert t t2 x) (hx : ai L x = some v) (h : ∀ w : World, St w → (convert t t2 v).run P w = .ok r w) : Rd ds P o n L St r :=
  aI fun a hF w hw => by simp [execOp, hop, hF.eval hx, h w hw]
theorem aS {k' : IntKind} (hop : o.op = .convert t t2 x) (hx : ai L x = some (.int k' i)) {d : TypeDesc} (h1 : P.underlying t = some d) (h2 : P.underlying t2 = some (.int k)) : Rd ds P o n L St (.int k (k.wrap i)) :=
  fZ hop hx fun w _ => by simp [convert, run_underlying h1, run_underlying h2, Conv.intToInt]
theorem eQ {a b : List UInt8} (hop : o.op = .binOp .add t x y t2) (hx : ai L x = some (.string (S a))) (hy : ai L y = some (.string (S b))) (h : a.length + b.length ≤ 9223372036854775807) : Rd ds P o n L St (.string (S (a ++ b))) :=
  aW hop hx hy (fG _ _ _) fun w => by
    have e : ¬ (((S a).size + (S b).size : Nat) : Int) > IntKind.i64.max := by
      rw [eR, eR]; simp [IntKind.max, IntKind.bits, IntKind.signed]; omega
    simp only [binOp, Op.stringOp, Aa e, wl]; rfl
theorem pz (a b : List UInt8) : ((S a).toList == (S b).toList) = decide (a = b) := by rw [pv, pv]; exact B7.2 (by simp)
theorem jw {a b : List UInt8} (hop : o.op = .binOp .eql t x y t2) (hx : ai L x = some (.string (S a))) (hy : ai L y = some (.string (S b))) : Rd ds P o n L St (.bool (decide (a = b))) :=
  aW hop hx hy (fG _ _ _) fun w => by simp only [binOp, Op.stringOp, pz]; rfl
theorem pE {a b : List UInt8} (hop : o.op = .binOp .neq t x y t2) (hx : ai L x = some (.string (S a))) (hy : ai L y = some (.string (S b))) : Rd ds P o n L St (.bool (!decide (a = b))) :=
  aW hop hx hy (fG _ _ _) fun w => by simp only [binOp, Op.stringOp, pz]; rfl
theorem qo {r : Value} {ty : TypeId} (hop : o.op = .call { callee := .builtin .len, args := #[x], argTypes := #[ty] }) (hx : ai L x = some v) (h : ∀ w : World, (Builtin.len_ #[ty] o.type #[v]).run P w = .ok r w) : Rd ds P o n L St r :=
  aI fun a hF w _ => by simp [execOp, hop, resolve, invoke, builtin, hF.eval hx, h]
theorem xi {a : List UInt8} {ty : TypeId} (hop : o.op = .call { callee := .builtin .len, args := #[x], argTypes := #[ty] }) (hx : ai L x = some (.string (S a))) (h1 : P.underlying ty = some .string) : Rd ds P o n L St (.int .i64 (a.length : Int)) :=
  qo hop hx fun w => by simp [Builtin.len_, run_underlying h1, goInt, eR]
theorem dN {ad : Option Addr} {m c : Nat} {ty e : TypeId} (hop : o.op = .call { callee := .builtin .len, args := #[x], argTypes := #[ty] }) (hx : ai L x = some (.slice ad m c)) (h1 : P.underlying ty = some (.slice e)) : Rd ds P o n L St (.int .i64 (m : Int)) :=
  qo hop hx fun w => by simp [Builtin.len_, run_underlying h1, goInt]
theorem wP {r : Value} (hop : o.op = .index t x y) (hx : ai L x = some v) (hy : ai L y = some u) (h : ∀ w : World, (Instr.index t v u).run P w = .ok r w) : Rd ds P o n L St r :=
  aI fun a hF w _ => by simp [execOp, hop, hF.eval hx, hF.eval hy, h]
theorem xm {a : List UInt8} {b : UInt8} (hop : o.op = .index t x y) (hx : ai L x = some (.string (S a))) (hy : ai L y = some (.int k i)) (h1 : P.underlying t = some .string) (h0 : 0 ≤ i) (hb : a[i.toNat]? = some b) : Rd ds P o n L St (.int .u8 (b.toNat : Int)) :=
  wP hop hx hy fun w => by simp [Instr.index, run_underlying h1, asIntOf, h0, EV, hb]
theorem cQ {y' : Nat} {c : BoundsCode} (h : 0 ≤ i ∧ i ≤ (y' : Int)) (w : World) : (Instr.sliceBound (.int k i) y' c).run P w = .ok i.toNat w := by
  simp [Instr.sliceBound, asIntOf, h]
theorem zO {a : List UInt8} {hi : Operand} (hop : o.op = .slice t x none (some hi) none) (hx : ai L x = some (.string (S a))) (hh : ai L hi = some (.int k j)) (h1 : P.underlying t = some .string)
    (hb : 0 ≤ j ∧ j ≤ (a.length : Int)) : Rd ds P o n L St (.string (S (a.take j.toNat))) :=
  aI fun ac hF w _ => by
    have e1 := cQ (P := P) (k := k) (i := j) (y' := (S a).size) (c := .sliceAlen) (by rw [eR]; omega) w
    simp [execOp, hop, hF.eval hx, hF.eval hh, Instr.sliceAt, Instr.slice, run_underlying h1, Instr.sliceBounds, e1, mY]
theorem zY {vs : Array Value} {ix : Nat} (hop : o.op = .extract x ix) (hx : ai L x = some (.tuple vs)) (h : vs[ix]? = some v) : Rd ds P o n L St v :=
  aI fun a hF w _ => by simp [execOp, hop, hF.eval hx, Instr.extract, h]
end
end Go.Proofs.YtchonigdjamphaaGreatDoor
