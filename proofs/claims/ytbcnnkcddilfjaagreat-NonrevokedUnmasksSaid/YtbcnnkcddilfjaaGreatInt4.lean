/-
  integer.Extended.
-/
import Derived.Test.YtbcnnkcddilfjaaGreatInt3
namespace Go.Proofs.YtbcnnkcddilfjaaGreat
set_option linter.unusedSimpArgs false
set_option linter.unusedVariables false
set_option maxRecDepth 20000
set_option maxHeartbeats 600000
open Go.RowKit

def extS (x y : Zs) (q : Bs) : Zs := (subZ x (mulZ (fromZ q) y).1).1
theorem ext1_c {x y : Zs} {q : Bs} {p : Nat} {w : World} {ok : Nat → Prop} (hF1 : (Fact.sl (some ⟨p, 0, none⟩) [.string (S q)]).holds ok w) :
    Calls Tryz.prog 96 #[.agg #[.bool x.1, .string (S x.2), .bool y.1, .string (S y.2)], .pointer (some ⟨p, 0, none⟩)] w fun e w' => e = .returned (.agg #[.bool y.1, .string (S y.2), .bool (extS x y q).1, .string (S (extS x y q).2)]) ∧ Below w.heap.size w w' := by
  refine enter (S := St (fun _ => True) w [] ([Fact.sl (some ⟨p, 0, none⟩) [.string (S q)]])) (L := [(0, .agg #[.bool x.1, .string (S x.2), .bool y.1, .string (S y.2)]), (1, .pointer (some ⟨p, 0, none⟩))]) Tryz.func96 rfl Tryz.ntmps96 rfl (args_cons rfl (args_cons rfl (args_nil _))) (St.start (fun _ _ => trivial) (facts_cons (fact_any hF1) facts_nil)) ?_
  refine WC.sr ?_
  refine WL.g rfl rfl rfl (og_box rfl rfl (by (exact cells_agg _))) ?_
  intro b2
  refine WL.g rfl rfl rfl (og_alloc rfl (v := (.agg #[.bool false, .string (S []), .bool false, .string (S [])])) (cs := [.bool false, .string (S []), .bool false, .string (S [])]) (by kernel_rfl) rfl) ?_
  intro b3
  refine WL.nt ?_
  refine WC.seq ?_
  refine WC.free0 [0, 1, 2, 3, 4, 5, 6, 8, 9, 7, 10] [] [0, 1, 0, 0, 1, 0, 0, 0, 3, 1, 0] (by kernel_rfl) (by kernel_rfl) rfl ?_
  refine WJ.r rfl rfl rfl rfl rfl (ldt (a := some ⟨p, 0, none⟩) (q := 0) rfl rfl Tryz.underlying22 rfl rfl) ?_
  refine WJ.gv rfl rfl rfl rfl rfl (fun ext => og_call rfl rfl (by kernel_rfl) (keep_val fun w hS => zfrom_c (a := q))) ?_
  refine WJ.r rfl rfl rfl rfl rfl (rd_iaa rfl rfl rfl Tryz.underlying122 (by kernel_rfl : _ = some 2) ?_ (by (try simp only [sN, Int.reduceToNat, Nat.reduceAdd, Nat.reduceMul, Nat.reduceSub]); rfl)) ?_
  · omega
  (refine WJ.r rfl rfl rfl rfl rfl (ldp rfl rfl .tc Tryz.underlying41 rfl (by kernel_rfl : _ = some 2) (by rfl) (by rfl)) ?_)
  refine WJ.gv rfl rfl rfl rfl rfl (fun ext => og_call rfl rfl (by kernel_rfl) (keep_val fun w hS => zmul_c (x := fromZ q) (y := y))) ?_
  refine WJ.r rfl rfl rfl rfl rfl (rd_move rfl rfl) ?_
  refine WJ.r rfl rfl rfl rfl rfl (rd_extL rfl rfl rfl) ?_
  refine WJ.f rfl rfl rfl rfl rfl (fr_alloc rfl (v := (.agg #[.bool false, .string (S [])])) (cs := [.bool false, .string (S [])]) (by kernel_rfl) rfl) ?_
  intro b4
  refine WJ.st rfl rfl rfl rfl (staJ rfl rfl rfl ?_ ?_ ?_) ?_
  · kernel_rfl
  · simp [Value.oneCell']
  · rfl
  refine WJ.r rfl rfl rfl rfl rfl (rd_extL rfl rfl rfl) ?_
  refine WJ.r rfl rfl rfl rfl rfl (rd_assign rfl rfl) ?_
  refine WJ.nil ?_
  refine WL.nt ?_
  refine WC.sr ?_
  refine WL.r rfl rfl rfl (rd_iaa rfl rfl rfl Tryz.underlying122 (by kernel_rfl : _ = some 2) ?_ (by (try simp only [sN, Int.reduceToNat, Nat.reduceAdd, Nat.reduceMul, Nat.reduceSub]); rfl)) ?_
  · omega
  (refine WL.r rfl rfl rfl (ldp rfl rfl .tc Tryz.underlying41 rfl (by kernel_rfl : _ = some 2) (by rfl) (by rfl)) ?_)
  refine WL.r rfl rfl rfl (lda rfl rfl .tc Tryz.underlying41 rfl ?_) ?_
  · kernel_rfl
  refine WL.g rfl rfl rfl (og_call rfl rfl (by kernel_rfl) (keep_val fun w hS => zsub_c (x := x) (y := (mulZ (fromZ q) y).1))) ?_
  intro _
  refine WL.r rfl rfl rfl (rd_move rfl rfl) ?_
  refine WL.r rfl rfl rfl (rd_extL rfl rfl rfl) ?_
  refine WL.r rfl rfl rfl (rd_extL rfl rfl rfl) ?_
  refine WL.g rfl rfl rfl (og_alloc rfl (v := (.agg #[.bool false, .string (S [])])) (cs := [.bool false, .string (S [])]) (by kernel_rfl) rfl) ?_
  intro b6
  refine WL.g0 rfl rfl (sta rfl rfl rfl .tc ?_ ?_ ?_) ?_
  · kernel_rfl
  · simp [Value.oneCell']
  · rfl
  intro _
  refine WL.r rfl rfl rfl (rd_assign rfl rfl) ?_
  refine WL.nt ?_
  refine WC.sr ?_
  refine WL.r rfl rfl rfl (rd_iaa rfl rfl rfl Tryz.underlying122 (by kernel_rfl : _ = some 2) ?_ (by (try simp only [sN, Int.reduceToNat, Nat.reduceAdd, Nat.reduceMul, Nat.reduceSub]); rfl)) ?_
  · omega
  (refine WL.r rfl rfl rfl (ldp rfl rfl .tc Tryz.underlying41 rfl (by kernel_rfl : _ = some 2) (by rfl) (by rfl)) ?_)
  refine WL.r rfl rfl rfl (lda rfl rfl .tc Tryz.underlying41 rfl ?_) ?_
  · kernel_rfl
  refine WL.r rfl rfl rfl (rd_bld [[.bool false, .string (S [])], [.bool false, .string (S [])]] rfl rfl (by simp only [bld, fldv, Nat.beq, Value.cells, cond_true, cond_false, List.nil_append, List.cons_append, List.append_nil]; rfl) (fun w => by kernel_rfl)) ?_
  refine WL.g0 rfl rfl (sta rfl rfl rfl .tc ?_ ?_ ?_) ?_
  · kernel_rfl
  · simp [Value.oneCell']
  · rfl
  intro _
  refine WL.nt ?_
  refine WC.ret ?_
  exact WX.retN rfl (.agg rfl .tc Tryz.underlying122 rfl (by kernel_rfl) .nil) fun w' hS => ⟨by rfl, hS.below⟩
theorem extS_of {x y : Int} {q : Nat} (hx : x.natAbs < Big) (hy : y.natAbs < Big) (hq : q < Big) (hm : q * y.natAbs < Big) (hs : (x - q * y).natAbs < Big) : extS (ofZ x) (ofZ y) (canon q) = ofZ (x - q * y) := by
  have hm' : ((q : Int) * y).natAbs < Big := by rw [Int.natAbs_mul, Int.natAbs_natCast]; exact hm
  rw [extS, fromZ_of hq, mulZ_of (by rw [Int.natAbs_natCast]; exact hq) hy hm', subZ_ok hx hm' hs]
set_option maxHeartbeats 6000000 in
theorem zext_c {a b : Bs} {w : World} {ok : Nat → Prop} (ha : okN a) (hb : okN b) (hb0 : b ≠ []) :
    Calls Tryz.prog 73 #[.string (S a), .string (S b)] w fun e w' => ∃ gx : Int × Zs, e = .returned (.tuple #[.string (S (canon (Nat.gcd (val a) (val b)))), zV (ofZ gx.1), zV gx.2, .int .i64 0]) ∧ (((val a : Int) * gx.1) % (val b) = (Nat.gcd (val a) (val b) : Int) % (val b) ∧ (Nat.gcd (val a) (val b) = 1 → 0 ≤ gx.1) ∧ gx.1.natAbs < Big) ∧ Below w.heap.size w w' ∧ ∀ x ∈ ([] : List Fact), x.holds (fun b => ok b ∨ w.heap.size ≤ b) w' := by
  have hvb : 0 < val b := Nat.pos_of_ne_zero fun e => hb0 ((val_eq_zero hb.2).1 e)
  have hbB := okN_val hb; have haB := okN_val ha
  have hB1 : 1 < Big := Nat.lt_of_lt_of_le (by decide) big64
  refine enter (S := St (fun b => ok b ∨ w.heap.size ≤ b) w [] ([])) (L := [(0, .string (S a)), (1, .string (S b))]) Tryz.func73 rfl Tryz.ntmps73 rfl (args_cons rfl (args_cons rfl (args_nil _))) (St.start (fun _ h => Or.inr h) (facts_or facts_nil)) ?_
  refine WC.sr ?_
  refine WL.r rfl rfl rfl (rd_assign rfl rfl) ?_
  refine WL.g rfl rfl rfl (og_alloc rfl (v := (.agg #[.bool false, .string (S [])])) (cs := [.bool false, .string (S [])]) (by kernel_rfl) rfl) ?_
  intro b5
  refine WL.g rfl rfl rfl (og_alloc rfl (v := (.agg #[.bool false, .string (S [])])) (cs := [.bool false, .string (S [])]) (by kernel_rfl) rfl) ?_
  intro b6
  refine WL.r rfl rfl rfl (rd_assign rfl rfl) ?_
  refine WL.nt ?_
  refine WC.seq ?_
  refine WC.sr ?_
  refine WL.r rfl rfl rfl (rd_move rfl rfl) ?_
  refine WL.g rfl rfl rfl (og_call rfl rfl (by kernel_rfl) (keep_val fun w hS => valid_c)) ?_
  intro _
  refine WL.set 23 rfl (v' := .bool true) (by rw [decide_eq_true ha]) ?_
  refine WL.r rfl rfl rfl (rd_not rfl rfl) ?_
  refine WL.r rfl rfl rfl (rd_move rfl rfl) ?_
  refine WL.r rfl rfl rfl (rd_move rfl rfl) ?_
  refine WL.g rfl rfl rfl (og_call rfl rfl (by kernel_rfl) (keep_val fun w hS => valid_c)) ?_
  intro _
  refine WL.set 27 rfl (v' := .bool true) (by rw [decide_eq_true hb]) ?_
  refine WL.r rfl rfl rfl (rd_not rfl rfl) ?_
  refine WL.r rfl rfl rfl (rd_pickf rfl rfl rfl) ?_
  refine WL.nt ?_
  refine WC.cond rfl (fun h => by cases h) (fun _ => ?_)
  refine WC.skip ?_
  refine WX.then_normal ?_
  refine WC.seq ?_
  refine WC.sr ?_
  refine WL.r rfl rfl rfl (rd_move rfl rfl) ?_
  refine WL.r rfl rfl rfl (rd_seq rfl rfl rfl) ?_
  refine WL.nt ?_
  refine WC.cond rfl (fun hc33 => by exfalso; (try simp only [sB] at hc33); simp_all) (fun hc33 => ?_)
  (try simp only [sB] at hc33)
  refine WC.skip ?_
  refine WX.then_normal ?_
  refine WC.sr ?_
  refine WL.r rfl rfl rfl (rd_move rfl rfl) ?_
  refine WL.r rfl rfl rfl (rd_move rfl rfl) ?_
  refine WL.r rfl rfl rfl (rd_bld [[.string (S [])], [.string (S [])]] rfl rfl (by simp only [bld, fldv, Nat.beq, Value.cells, cond_true, cond_false, List.nil_append, List.cons_append, List.append_nil]; rfl) (fun w => by kernel_rfl)) ?_
  refine WL.g rfl rfl rfl (og_alloc rfl (v := (.agg #[.string (S []), .string (S [])])) (cs := [.string (S []), .string (S [])]) (by kernel_rfl) rfl) ?_
  intro b8
  refine WL.g0 rfl rfl (sta rfl rfl rfl .tc ?_ ?_ ?_) ?_
  · kernel_rfl
  · simp [Value.oneCell']
  · rfl
  intro _
  refine WL.nt ?_
  refine WC.sr ?_
  refine WL.g rfl rfl rfl (og_call rfl rfl (by kernel_rfl) (keep_val fun w hS => zof_c (n := 1) (by omega) (by omega))) ?_
  intro _
  refine WL.g rfl rfl rfl (og_call rfl rfl (by kernel_rfl) (keep_val fun w hS => zof_c (n := 0) (by omega) (by omega))) ?_
  intro _
  refine WL.r rfl rfl rfl (rd_bld [[.bool false, .string (S [])], [.bool false, .string (S [])]] rfl rfl (by simp only [bld, fldv, Nat.beq, Value.cells, cond_true, cond_false, List.nil_append, List.cons_append, List.append_nil]; rfl) (fun w => by kernel_rfl)) ?_
  refine WL.g rfl rfl rfl (og_call rfl rfl (by kernel_rfl) (keep_val fun w hS => zof_c (n := 0) (by omega) (by omega))) ?_
  intro _
  refine WL.g rfl rfl rfl (og_call rfl rfl (by kernel_rfl) (keep_val fun w hS => zof_c (n := 1) (by omega) (by omega))) ?_
  intro _
  refine WL.r rfl rfl rfl (rd_bld [[.bool false, .string (S [])], [.bool false, .string (S [])]] rfl rfl (by simp only [bld, fldv, Nat.beq, Value.cells, cond_true, cond_false, List.nil_append, List.cons_append, List.append_nil]; rfl) (fun w => by kernel_rfl)) ?_
  refine WL.g rfl rfl rfl (og_alloc rfl (v := (.agg #[.bool false, .string (S []), .bool false, .string (S [])])) (cs := [.bool false, .string (S []), .bool false, .string (S [])]) (by kernel_rfl) rfl) ?_
  intro b9
  refine WL.g rfl rfl rfl (og_alloc rfl (v := (.agg #[.bool false, .string (S []), .bool false, .string (S [])])) (cs := [.bool false, .string (S []), .bool false, .string (S [])]) (by kernel_rfl) rfl) ?_
  intro b10
  refine WL.g0 rfl rfl (sta rfl rfl rfl .tc ?_ ?_ ?_) ?_
  · kernel_rfl
  · simp [Value.oneCell']
  · rfl
  intro _
  refine WL.g0 rfl rfl (sta rfl rfl rfl .tc ?_ ?_ ?_) ?_
  · kernel_rfl
  · simp [Value.oneCell']
  · rfl
  intro _
  refine WL.nt ?_
  refine WC.seq ?_
  refine WC.block ?_
  refine WC.loopO (σ := Nat × Nat × Int × Int × Int × Int) [(0, _), (1, _), (5, _), (6, _), (8, _), (9, _), (10, _)] (fun g => []) (fun g => Euc (val a) (val b) g.1 g.2.1 g.2.2.1 g.2.2.2.1 g.2.2.2.2.1 g.2.2.2.2.2 ∧ g.1 < Big ∧ g.2.1 < Big ∧ g.2.2.1.natAbs ≤ val b ∧ g.2.2.2.1.natAbs ≤ val b ∧ g.2.2.2.2.1.natAbs ≤ max (val a) 1 ∧ g.2.2.2.2.2.natAbs ≤ max (val a) 1) (fun g => g.2.1) (fun g => [⟨some b10, [.bool (ofZ g.2.2.2.2.1).1, .string (S (ofZ g.2.2.2.2.1).2), .bool (ofZ g.2.2.2.2.2).1, .string (S (ofZ g.2.2.2.2.2).2)], 122⟩, ⟨some b9, [.bool (ofZ g.2.2.1).1, .string (S (ofZ g.2.2.1).2), .bool (ofZ g.2.2.2.1).1, .string (S (ofZ g.2.2.2.1).2)], 122⟩, ⟨some b8, [.string (S (canon g.1)), .string (S (canon g.2.1))], 37⟩, ⟨some b6, [.bool false, .string (S [])], 41⟩, ⟨some b5, [.bool false, .string (S [])], 41⟩]) (fun g => []) (val a, val b, 1, 0, 0, 1) (sub_cons rfl (sub_cons rfl (sub_cons rfl (sub_cons rfl (sub_cons rfl (sub_cons rfl (sub_cons rfl (sub_nil _)))))))) (sub_nil _) (by (try dsimp only); exact ⟨euc_start _ _, haB, hbB, by omega, by omega, by omega, by omega⟩) (by exact fun w h => by rw [ok_canon ha, ok_canon hb]; exact h) ?_
  rintro ⟨r0, r1, x0, x1, y0, y1⟩ hinv1; (try dsimp only at hinv1 ⊢)
  obtain ⟨hE, hr0, hr1, hx0, hx1, hy0, hy1⟩ := hinv1
  refine WC.seq ?_
  refine WC.sr ?_
  refine WL.r rfl rfl rfl (rd_iaa rfl rfl rfl Tryz.underlying37 (by kernel_rfl : _ = some 1) ?_ (by (try simp only [sN, Int.reduceToNat, Nat.reduceAdd, Nat.reduceMul, Nat.reduceSub]); rfl)) ?_
  · omega
  (refine WL.r rfl rfl rfl (ld rfl rfl .tc Tryz.underlying22 rfl (by rfl)) ?_)
  refine WL.r rfl rfl rfl (rd_sne rfl rfl rfl) ?_
  refine WL.nt ?_
  refine WC.cond rfl (fun hc48 => ?_) (fun hc48 => ?_)
  · (try simp only [sB] at hc48)
    have hr1p : 0 < r1 := by
      rcases Nat.eq_zero_or_pos r1 with h | h
      · subst h; simp [canon_zero] at hc48
      · exact h
    have hE' := euc_step hE hr1p
    obtain ⟨hm1, hm2⟩ := euc_mul hE hr1p
    obtain ⟨hl1, hl2⟩ := euc_le hE' hr1p
    have hdv := divN_of hr0 hr1 hr1p
    have hdl := Nat.div_le_self r0 r1
    have hml := Nat.mod_lt r0 hr1p
    have hex := extS_of (x := x0) (y := x1) (q := r0 / r1) (by omega) (by omega) (by omega) (by omega) (by omega)
    have hey := extS_of (x := y0) (y := y1) (q := r0 / r1) (by omega) (by omega) (by omega) (by omega) (by omega)
    refine WC.skip ?_
    refine WX.then_normal ?_
    refine WC.block ?_
    refine WC.sr ?_
    refine WL.r rfl rfl rfl (rd_iaa rfl rfl rfl Tryz.underlying37 (by kernel_rfl : _ = some 1) ?_ (by (try simp only [sN, Int.reduceToNat, Nat.reduceAdd, Nat.reduceMul, Nat.reduceSub]); rfl)) ?_
    · omega
    (refine WL.r rfl rfl rfl (ld rfl rfl .tc Tryz.underlying22 rfl (by rfl)) ?_)
    refine WL.r rfl rfl rfl (rd_iaa rfl rfl rfl Tryz.underlying37 (by kernel_rfl : _ = some 1) ?_ (by (try simp only [sN, Int.reduceToNat, Nat.reduceAdd, Nat.reduceMul, Nat.reduceSub]); rfl)) ?_
    · omega
    (refine WL.r rfl rfl rfl (ld rfl rfl .tc Tryz.underlying22 rfl (by rfl)) ?_)
    refine WL.g rfl rfl rfl (og_call rfl rfl (by kernel_rfl) (keep_val fun w hS => (by have := divmod_c (w := w) (a := canon r0) (b := canon r1); rw [hdv] at this; exact this))) ?_
    intro _
    refine WL.r rfl rfl rfl (rd_move rfl rfl) ?_
    refine WL.r rfl rfl rfl (rd_extL rfl rfl rfl) ?_
    refine WL.r rfl rfl rfl (rd_extL rfl rfl rfl) ?_
    refine WL.r rfl rfl rfl (rd_extL rfl rfl rfl) ?_
    refine WL.g rfl rfl rfl (og_alloc rfl (v := (.string (S []))) (cs := [.string (S [])]) (by kernel_rfl) rfl) ?_
    intro b11
    refine WL.g0 rfl rfl (st rfl rfl rfl .tc (by kernel_rfl) rfl ?_ (by (simp only [List.set_cons_zero, List.set_cons_succ]; rfl))) ?_
    · decide
    intro _
    refine WL.r rfl rfl rfl (rd_assign rfl rfl) ?_
    refine WL.r rfl rfl rfl (rd_assign rfl rfl) ?_
    refine WL.nt ?_
    refine WC.sr ?_
    refine WL.r rfl rfl rfl (rd_mkf rfl rfl rfl) ?_
    refine WL.r rfl rfl rfl (rd_assign rfl rfl) ?_
    refine WL.nt ?_
    refine WC.sr ?_
    refine WL.r rfl rfl rfl (rd_iaa rfl rfl rfl Tryz.underlying37 (by kernel_rfl : _ = some 1) ?_ (by (try simp only [sN, Int.reduceToNat, Nat.reduceAdd, Nat.reduceMul, Nat.reduceSub]); rfl)) ?_
    · omega
    (refine WL.r rfl rfl rfl (ld rfl rfl .tc Tryz.underlying22 rfl (by rfl)) ?_)
    refine WL.r rfl rfl rfl (rd_move rfl rfl) ?_
    refine WL.r rfl rfl rfl (rd_bld [[.string (S [])], [.string (S [])]] rfl rfl (by simp only [bld, fldv, Nat.beq, Value.cells, cond_true, cond_false, List.nil_append, List.cons_append, List.append_nil]; rfl) (fun w => by kernel_rfl)) ?_
    refine WL.g0 rfl rfl (sta rfl rfl rfl .tc ?_ ?_ ?_) ?_
    · kernel_rfl
    · simp [Value.oneCell']
    · rfl
    intro _
    refine WL.nt ?_
    refine WC.free0 [0, 1, 2, 3, 4, 5] [6, 7] [0, 0, 1, 0, 0, 1, 2, 2] (by kernel_rfl) (by kernel_rfl) rfl ?_
    refine WJ.r rfl rfl rfl rfl rfl (rd_move rfl rfl) ?_
    refine WJ.r rfl rfl rfl rfl rfl (lda rfl rfl .tc Tryz.underlying122 rfl ?_) ?_
    · kernel_rfl
    refine WJ.gv rfl rfl rfl rfl rfl (fun ext => og_callv rfl rfl rfl (by kernel_rfl) rfl (keep_val fun w hS => ext1_c (x := ofZ x0) (y := ofZ x1) (q := canon (r0 / r1)) (p := b11) (by (exact hS.os)))) ?_
    refine WJ.r rfl rfl rfl rfl rfl (rd_move rfl rfl) ?_
    refine WJ.r rfl rfl rfl rfl rfl (lda rfl rfl .tc Tryz.underlying122 rfl ?_) ?_
    · kernel_rfl
    refine WJ.gv rfl rfl rfl rfl rfl (fun ext => og_callv rfl rfl rfl (by kernel_rfl) rfl (keep_val fun w hS => ext1_c (x := ofZ y0) (y := ofZ y1) (q := canon (r0 / r1)) (p := b11) (by (exact hS.os)))) ?_
    refine WJ.nil ?_
    refine WL.g0 rfl rfl (sta rfl rfl rfl .tc ?_ ?_ ?_) ?_
    · kernel_rfl
    · simp [Value.oneCell']
    · rfl
    intro _
    refine WL.g0 rfl rfl (sta rfl rfl rfl .tc ?_ ?_ ?_) ?_
    · kernel_rfl
    · simp [Value.oneCell']
    · rfl
    intro _
    refine WL.nil ?_
    refine WX.block_normal ?_
    refine WX.loopO ((r1, r0 % r1, x1, x0 - (r0 / r1 : Nat) * x1, y1, y0 - (r0 / r1 : Nat) * y1)) (by (try dsimp only); exact hml) (sub_cons rfl (sub_cons rfl (sub_cons rfl (sub_cons rfl (sub_cons rfl (sub_cons rfl (sub_cons rfl (sub_nil _)))))))) (sub_nil _) ?_ (by rw [← hex, ← hey]; exact st_sub)
    (try dsimp only)
    exact ⟨hE', hr1, by omega, hx1, hl1, hy1, by omega⟩
  · (try simp only [sB] at hc48)
    refine WC.exit ?_
    refine WX.then_exit ?_
    refine WX.then_exit ?_
    refine WX.block_exit ?_
    obtain rfl : r1 = 0 := by
      rcases Nat.eq_zero_or_pos r1 with h | h
      · exact h
      · exfalso; have : canon r1 ≠ [] := by rw [ne_eq, canon_nil]; omega
        simp_all
    obtain rfl : r0 = Nat.gcd (val a) (val b) := by rw [← hE.gc, Nat.gcd_zero_right]
    obtain ⟨gd, hg⟩ : ∃ gd, gd = Nat.gcd (val a) (val b) := ⟨_, rfl⟩
    have hg0 : 0 < gd := by rw [hg]; exact Nat.gcd_pos_of_pos_right _ hvb
    have hda : val a = val a / gd * gd := by rw [Nat.div_mul_cancel]; rw [hg]; exact Nat.gcd_dvd_left _ _
    have hdb : val b = val b / gd * gd := by rw [Nat.div_mul_cancel]; rw [hg]; exact Nat.gcd_dvd_right _ _
    have he0 := hE.e0
    rw [← hg] at he0 hr0 ⊢
    have hbl := Nat.div_le_self (val b) gd; have hal := Nat.div_le_self (val a) gd
    have hdvb : divN b (canon gd) = ((canon (val b / gd), canon (val b % gd)), 0) := by rw [divN_ok hb (okN_can (by omega)) (by rw [ne_eq, canon_nil]; omega), val_canon]
    have hdva : divN a (canon gd) = ((canon (val a / gd), canon (val a % gd)), 0) := by rw [divN_ok ha (okN_can (by omega)) (by rw [ne_eq, canon_nil]; omega), val_canon]
    have key : ∀ (X : Int) (q : Int), X * val a = x0 * val a + q * val b → ((val a : Int) * X) % (val b) = (gd : Int) % (val b) := fun X q h => by
      have e : (val a : Int) * X = gd + val b * (q - y0) := by
        rw [Int.mul_comm (val a : Int) X, h, ← he0, Int.mul_sub, Int.mul_comm q, Int.mul_comm x0]; omega
      rw [e, Int.add_mul_emod_self_left]
    refine WX.then_normal ?_
    refine WC.sr ?_
    refine WL.r rfl rfl rfl (rd_iaa rfl rfl rfl Tryz.underlying37 (by kernel_rfl : _ = some 1) ?_ (by (try simp only [sN, Int.reduceToNat, Nat.reduceAdd, Nat.reduceMul, Nat.reduceSub]); rfl)) ?_
    · omega
    (refine WL.r rfl rfl rfl (ld rfl rfl .tc Tryz.underlying22 rfl (by rfl)) ?_)
    refine WL.r rfl rfl rfl (rd_assign rfl rfl) ?_
    refine WL.nt ?_
    refine WC.joinO (σ := Int × Zs) [(5, _), (6, _), (9, _), (10, _), (15, _)] (fun g => []) (fun g => ((val a : Int) * g.1) % (val b) = (gd : Int) % (val b) ∧ (gd = 1 → 0 ≤ g.1) ∧ g.1.natAbs < Big) (fun g => [⟨some b10, [.bool g.2.1, .string (S g.2.2), .bool (ofZ y1).1, .string (S (ofZ y1).2)], 122⟩, ⟨some b9, [.bool (ofZ g.1).1, .string (S (ofZ g.1).2), .bool (ofZ x1).1, .string (S (ofZ x1).2)], 122⟩, ⟨some b6, [.bool false, .string (S [])], 41⟩, ⟨some b5, [.bool false, .string (S [])], 41⟩]) (fun g => []) (sub_cons rfl (sub_cons rfl (sub_cons rfl (sub_cons rfl (sub_cons rfl (sub_nil _)))))) ?_ ?_
    · skip
      refine WC.sr ?_
      refine WL.r rfl rfl rfl (rd_iaa rfl rfl rfl Tryz.underlying122 (by kernel_rfl : _ = some 2) ?_ (by (try simp only [sN, Int.reduceToNat, Nat.reduceAdd, Nat.reduceMul, Nat.reduceSub]); rfl)) ?_
      · omega
      (refine WL.r rfl rfl rfl (rd_fa rfl rfl Tryz.underlying41 rfl (by kernel_rfl) (by (try simp only [sN, Int.reduceToNat, Nat.reduceAdd, Nat.reduceMul, Nat.reduceSub]); rfl)) ?_)
      (refine WL.r rfl rfl rfl (ld rfl rfl .tc Tryz.underlying4 rfl (by rfl)) ?_)
      refine WL.nt ?_
      refine WC.cond rfl (fun hc73 => ?_) (fun hc73 => ?_)
      · (try simp only [sB] at hc73)
        have hneg : x0 < 0 := by rw [ofZ_eq] at hc73; simpa using hc73
        have aux : ∀ u : Nat, u ≤ val b → (x0 + (u : Int)).natAbs < Big := fun u hu => by omega
        have hadx : addZ (ofZ x0) (ofZ ((val b / gd : Nat) : Int)) = (ofZ (x0 + (val b / gd : Nat)), 0) := by
          rw [addZ_of (by omega) (by rw [Int.natAbs_natCast]; exact Nat.lt_of_le_of_lt hbl hbB), if_pos (aux _ hbl)]
        refine WC.sr ?_
        refine WL.r rfl rfl rfl (rd_move rfl rfl) ?_
        refine WL.r rfl rfl rfl (rd_move rfl rfl) ?_
        refine WL.g rfl rfl rfl (og_call rfl rfl (by kernel_rfl) (keep_val fun w hS => (by have := divmod_c (w := w) (a := b) (b := canon gd); rw [hdvb] at this; exact this))) ?_
        intro _
        refine WL.r rfl rfl rfl (rd_move rfl rfl) ?_
        refine WL.r rfl rfl rfl (rd_extL rfl rfl rfl) ?_
        refine WL.r rfl rfl rfl (rd_extL rfl rfl rfl) ?_
        refine WL.r rfl rfl rfl (rd_extL rfl rfl rfl) ?_
        refine WL.r rfl rfl rfl (rd_assign rfl rfl) ?_
        refine WL.r rfl rfl rfl (rd_assign rfl rfl) ?_
        refine WL.r rfl rfl rfl (rd_assign rfl rfl) ?_
        refine WL.nt ?_
        refine WC.sr ?_
        refine WL.r rfl rfl rfl (rd_move rfl rfl) ?_
        refine WL.r rfl rfl rfl (rd_move rfl rfl) ?_
        refine WL.g rfl rfl rfl (og_call rfl rfl (by kernel_rfl) (keep_val fun w hS => (by have := divmod_c (w := w) (a := a) (b := canon gd); rw [hdva] at this; exact this))) ?_
        intro _
        refine WL.r rfl rfl rfl (rd_move rfl rfl) ?_
        refine WL.r rfl rfl rfl (rd_extL rfl rfl rfl) ?_
        refine WL.r rfl rfl rfl (rd_extL rfl rfl rfl) ?_
        refine WL.r rfl rfl rfl (rd_extL rfl rfl rfl) ?_
        refine WL.r rfl rfl rfl (rd_assign rfl rfl) ?_
        refine WL.r rfl rfl rfl (rd_assign rfl rfl) ?_
        refine WL.r rfl rfl rfl (rd_assign rfl rfl) ?_
        refine WL.nt ?_
        refine WC.seq ?_
        refine WC.ordersP [(5, _), (6, _), (9, _), (10, _), (15, _), (19, _)] ([⟨some b10, [.bool (ofZ y0).1, .string (S (ofZ y0).2), .bool (ofZ y1).1, .string (S (ofZ y1).2)], 122⟩, ⟨some b9, [.bool (ofZ (x0 + (val b / gd : Nat))).1, .string (S (ofZ (x0 + (val b / gd : Nat))).2), .bool (ofZ x1).1, .string (S (ofZ x1).2)], 122⟩, ⟨some b8, [.string (S (canon gd)), .string (S (canon 0))], 37⟩, ⟨some b6, [.bool false, .string (S [])], 41⟩, ⟨some b5, [.bool false, .string (S [])], 41⟩]) ([]) (sub_cons rfl (sub_cons rfl (sub_cons rfl (sub_cons rfl (sub_cons rfl (sub_cons rfl (sub_nil _))))))) [[0, 1, 2, 3, 4, 5, 6, 7, 8, 9], [0, 1, 2, 3, 4, 5, 6, 8, 7, 9], [0, 1, 2, 3, 4, 5, 6, 8, 9, 7], [0, 1, 2, 3, 4, 5, 7, 6, 8, 9], [0, 2, 1, 3, 4, 5, 6, 7, 8, 9], [0, 2, 1, 3, 4, 5, 6, 8, 7, 9], [0, 2, 1, 3, 4, 5, 6, 8, 9, 7], [0, 2, 1, 3, 4, 5, 7, 6, 8, 9], [0, 2, 3, 1, 4, 5, 6, 7, 8, 9], [0, 2, 3, 1, 4, 5, 6, 8, 7, 9], [0, 2, 3, 1, 4, 5, 6, 8, 9, 7], [0, 2, 3, 1, 4, 5, 7, 6, 8, 9], [2, 0, 1, 3, 4, 5, 6, 7, 8, 9], [2, 0, 1, 3, 4, 5, 6, 8, 7, 9], [2, 0, 1, 3, 4, 5, 6, 8, 9, 7], [2, 0, 1, 3, 4, 5, 7, 6, 8, 9], [2, 0, 3, 1, 4, 5, 6, 7, 8, 9], [2, 0, 3, 1, 4, 5, 6, 8, 7, 9], [2, 0, 3, 1, 4, 5, 6, 8, 9, 7], [2, 0, 3, 1, 4, 5, 7, 6, 8, 9], [2, 3, 0, 1, 4, 5, 6, 7, 8, 9], [2, 3, 0, 1, 4, 5, 6, 8, 7, 9], [2, 3, 0, 1, 4, 5, 6, 8, 9, 7], [2, 3, 0, 1, 4, 5, 7, 6, 8, 9]] (by kernel_rfl) (by kernel_rfl) (by simp only [pickOps, List.map, List.getElem?_cons_zero, List.getElem?_cons_succ]; rfl) ?_ ?_
        · repeat' (first | exact AllL.nil | refine AllL.cons ?_ ?_)
          all_goals (repeat (first | (refine WL.r rfl rfl rfl (rd_move rfl rfl) ?_) | (refine WL.r rfl rfl rfl (rd_iaa rfl rfl rfl Tryz.underlying122 (by kernel_rfl : _ = some 2) ?_ (by (try simp only [sN, Int.reduceToNat, Nat.reduceAdd, Nat.reduceMul, Nat.reduceSub]); rfl)) ?_; focus omega) | (refine WL.r rfl rfl rfl (ldp rfl rfl .tc Tryz.underlying41 rfl (by kernel_rfl : _ = some 2) (by rfl) (by rfl)) ?_) | (refine WL.g rfl rfl rfl (og_call rfl rfl (by kernel_rfl) (keep_val fun w hS => (by have := zfrom_c (w := w) (a := canon (val b / gd)); rw [fromZ_of (Nat.lt_of_le_of_lt hbl hbB)] at this; exact this))) ?_; intro _) | (refine WL.g rfl rfl rfl (og_call rfl rfl (by kernel_rfl) (keep_val fun w hS => (by have := zadd_c (w := w) (x := ofZ x0) (y := ofZ ((val b / gd : Nat) : Int)); rw [hadx] at this; exact this))) ?_; intro _) | (refine WL.r rfl rfl rfl (rd_extL rfl rfl rfl) ?_) | (refine WL.g0 rfl rfl (stp rfl rfl rfl .tc (by kernel_rfl) (by simp [Value.oneCell']) (by (simp; done)) rfl) ?_; intro _)))
          all_goals (refine WL.nil ?_; exact WX.midP () (sub_cons rfl (sub_cons rfl (sub_cons rfl (sub_cons rfl (sub_cons rfl (sub_cons rfl (sub_nil _))))))) (by (exact fun _ h => h)))
        refine WX.then_normal ?_
        refine WC.ordersP [(5, _), (6, _), (9, _), (10, _), (15, _)] ([⟨some b10, [.bool (subZ (ofZ y0) (ofZ ((val a / gd : Nat) : Int))).1.1, .string (S (subZ (ofZ y0) (ofZ ((val a / gd : Nat) : Int))).1.2), .bool (ofZ y1).1, .string (S (ofZ y1).2)], 122⟩, ⟨some b9, [.bool (ofZ (x0 + (val b / gd : Nat))).1, .string (S (ofZ (x0 + (val b / gd : Nat))).2), .bool (ofZ x1).1, .string (S (ofZ x1).2)], 122⟩, ⟨some b8, [.string (S (canon gd)), .string (S (canon 0))], 37⟩, ⟨some b6, [.bool false, .string (S [])], 41⟩, ⟨some b5, [.bool false, .string (S [])], 41⟩]) ([]) (sub_cons rfl (sub_cons rfl (sub_cons rfl (sub_cons rfl (sub_cons rfl (sub_nil _)))))) [[0, 1, 2, 3, 4, 5, 6, 7, 8, 9], [0, 1, 2, 3, 4, 5, 6, 8, 7, 9], [0, 1, 2, 3, 4, 5, 6, 8, 9, 7], [0, 1, 2, 3, 4, 5, 7, 6, 8, 9], [0, 2, 1, 3, 4, 5, 6, 7, 8, 9], [0, 2, 1, 3, 4, 5, 6, 8, 7, 9], [0, 2, 1, 3, 4, 5, 6, 8, 9, 7], [0, 2, 1, 3, 4, 5, 7, 6, 8, 9], [0, 2, 3, 1, 4, 5, 6, 7, 8, 9], [0, 2, 3, 1, 4, 5, 6, 8, 7, 9], [0, 2, 3, 1, 4, 5, 6, 8, 9, 7], [0, 2, 3, 1, 4, 5, 7, 6, 8, 9], [2, 0, 1, 3, 4, 5, 6, 7, 8, 9], [2, 0, 1, 3, 4, 5, 6, 8, 7, 9], [2, 0, 1, 3, 4, 5, 6, 8, 9, 7], [2, 0, 1, 3, 4, 5, 7, 6, 8, 9], [2, 0, 3, 1, 4, 5, 6, 7, 8, 9], [2, 0, 3, 1, 4, 5, 6, 8, 7, 9], [2, 0, 3, 1, 4, 5, 6, 8, 9, 7], [2, 0, 3, 1, 4, 5, 7, 6, 8, 9], [2, 3, 0, 1, 4, 5, 6, 7, 8, 9], [2, 3, 0, 1, 4, 5, 6, 8, 7, 9], [2, 3, 0, 1, 4, 5, 6, 8, 9, 7], [2, 3, 0, 1, 4, 5, 7, 6, 8, 9]] (by kernel_rfl) (by kernel_rfl) (by simp only [pickOps, List.map, List.getElem?_cons_zero, List.getElem?_cons_succ]; rfl) ?_ ?_
        · repeat' (first | exact AllL.nil | refine AllL.cons ?_ ?_)
          all_goals (repeat (first | (refine WL.r rfl rfl rfl (rd_move rfl rfl) ?_) | (refine WL.r rfl rfl rfl (rd_iaa rfl rfl rfl Tryz.underlying122 (by kernel_rfl : _ = some 2) ?_ (by (try simp only [sN, Int.reduceToNat, Nat.reduceAdd, Nat.reduceMul, Nat.reduceSub]); rfl)) ?_; focus omega) | (refine WL.r rfl rfl rfl (ldp rfl rfl .tc Tryz.underlying41 rfl (by kernel_rfl : _ = some 2) (by rfl) (by rfl)) ?_) | (refine WL.g rfl rfl rfl (og_call rfl rfl (by kernel_rfl) (keep_val fun w hS => (by have := zfrom_c (w := w) (a := canon (val a / gd)); rw [fromZ_of (Nat.lt_of_le_of_lt hal haB)] at this; exact this))) ?_; intro _) | (refine WL.g rfl rfl rfl (og_call rfl rfl (by kernel_rfl) (keep_val fun w hS => zsub_c (x := ofZ y0) (y := ofZ ((val a / gd : Nat) : Int)))) ?_; intro _) | (refine WL.r rfl rfl rfl (rd_extL rfl rfl rfl) ?_) | (refine WL.g0 rfl rfl (stp rfl rfl rfl .tc (by kernel_rfl) (by simp [Value.oneCell']) (by (simp; done)) rfl) ?_; intro _)))
          all_goals (refine WL.nil ?_; exact WX.midP () (sub_cons rfl (sub_cons rfl (sub_cons rfl (sub_cons rfl (sub_cons rfl (sub_nil _)))))) (by (exact fun _ h => h)))
        refine WX.joinO (((x0 + (val b / gd : Nat)), (subZ (ofZ y0) (ofZ ((val a / gd : Nat) : Int))).1)) (sub_cons rfl (sub_cons rfl (sub_cons rfl (sub_cons rfl (sub_cons rfl (sub_nil _)))))) (sub_nil _) ?_ (by (exact st_sub))
        (try dsimp only)
        exact ⟨key _ (val a / gd : Nat) (by
          rw [Int.add_mul]; congr 1
          have e : val b / gd * val a = val a / gd * val b := by
            conv => lhs; rw [hda]
            conv => rhs; rw [hdb]
            ac_rfl
          exact_mod_cast e), fun h => by rw [h, Nat.div_one]; omega, aux _ hbl⟩
      · (try simp only [sB] at hc73)
        have hnn : 0 ≤ x0 := by rw [ofZ_eq] at hc73; simpa using hc73
        refine WC.skip ?_
        refine WX.joinO ((x0, ofZ y0)) (sub_cons rfl (sub_cons rfl (sub_cons rfl (sub_cons rfl (sub_cons rfl (sub_nil _)))))) (sub_nil _) ?_ (by (exact st_sub))
        (try dsimp only)
        exact ⟨key _ 0 (by omega), fun _ => hnn, by omega⟩
    · rintro ⟨X, Y⟩ hmeet; (try dsimp only at hmeet ⊢)
      refine WC.seq ?_
      refine WC.free (K := [⟨some b10, [.bool Y.1, .string (S Y.2), .bool (ofZ y1).1, .string (S (ofZ y1).2)], 122⟩, ⟨some b9, [.bool (ofZ X).1, .string (S (ofZ X).2), .bool (ofZ x1).1, .string (S (ofZ x1).2)], 122⟩]) (fs0 := []) [0, 1, 2, 5, 6, 3, 4] [7, 8] [0, 0, 0, 0, 0, 0, 1, 2, 2] (by kernel_rfl) (by kernel_rfl) rfl ?_
      refine WJ.r rfl rfl rfl rfl rfl (rd_move rfl rfl) ?_
      refine WJ.r rfl rfl rfl rfl rfl (rd_iaa rfl rfl rfl Tryz.underlying122 (by kernel_rfl : _ = some 2) ?_ (by (try simp only [sN, Int.reduceToNat, Nat.reduceAdd, Nat.reduceMul, Nat.reduceSub]); rfl)) ?_
      · omega
      (refine WJ.r rfl rfl rfl rfl rfl (ldp rfl rfl .tc Tryz.underlying41 rfl (by kernel_rfl : _ = some 2) (by rfl) (by rfl)) ?_)
      refine WJ.r rfl rfl rfl rfl rfl (rd_assign rfl rfl) ?_
      refine WJ.st rfl rfl rfl rfl (staJ rfl rfl rfl ?_ ?_ ?_) ?_
      · kernel_rfl
      · simp [Value.oneCell']
      · rfl
      refine WJ.r rfl rfl rfl rfl rfl (rd_iaa rfl rfl rfl Tryz.underlying122 (by kernel_rfl : _ = some 2) ?_ (by (try simp only [sN, Int.reduceToNat, Nat.reduceAdd, Nat.reduceMul, Nat.reduceSub]); rfl)) ?_
      · omega
      (refine WJ.r rfl rfl rfl rfl rfl (ldp rfl rfl .tc Tryz.underlying41 rfl (by kernel_rfl : _ = some 2) (by rfl) (by rfl)) ?_)
      refine WJ.nil ?_
      refine WL.g0 rfl rfl (sta rfl rfl rfl .tc ?_ ?_ ?_) ?_
      · kernel_rfl
      · simp [Value.oneCell']
      · rfl
      intro _
      refine WL.r rfl rfl rfl (rd_assign rfl rfl) ?_
      refine WL.nt ?_
      refine WC.ret ?_
      exact WX.retN rfl (.tmp rfl (.agg rfl .tc Tryz.underlying41 rfl (by kernel_rfl) (.agg rfl .tc Tryz.underlying41 rfl (by kernel_rfl) (.tmp rfl .nil)))) fun w' hS => ⟨(X, Y), rfl, hmeet, hS.below, fun _ h => by cases h⟩
end Go.Proofs.YtbcnnkcddilfjaaGreat
