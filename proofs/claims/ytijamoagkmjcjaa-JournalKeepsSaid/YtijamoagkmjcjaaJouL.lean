/-
  The statements about the journal: Crash, Open.
-/
import Derived.Test.YtijamoagkmjcjaaJouT
import Derived.Test.YtijamoagkmjcjaaOpz
namespace Go.Proofs.Ytijamoagkmjcjaa
set_option linter.unusedSimpArgs false
set_option linter.unusedVariables false
set_option maxRecDepth 20000
set_option maxHeartbeats 600000
open Go.RowKit

theorem fewP_len {l : List Bs} (h : fewP l) : l.length ≤ 30 ∧ l.flatten.length ≤ 3000 := h
theorem aw0 : appendD .zero [97, 98] = (⟨[], [recJ 69 [97, 98]], false⟩, 0) := by rw [appendD, if_neg (by simp [Dk.zero]), if_neg (by simp)]; rfl
theorem aw1 : crashD ⟨[], [recJ 69 [97, 98]], false⟩ 0 38 = (⟨(recJ 69 [97, 98]).take 38, [], true⟩, 0) := by
  have h : (([recJ 69 [97, 98]] : List Bs).getD (Int.toNat 0) default) = recJ 69 [97, 98] := rfl
  rw [crashD, if_neg (by simp), if_neg (by simp), h, if_neg (by rw [recJ_len]; decide)]; simp
theorem aw2 : crashD ⟨[], [recJ 69 [97, 98]], false⟩ 1 0 = (⟨recJ 69 [97, 98], [], true⟩, 0) := by
  have h : (([recJ 69 [97, 98]] : List Bs).getD (Int.toNat 1) default) = [] := rfl
  rw [crashD, if_neg (by simp), if_neg (by simp), h, if_neg (by simp)]; simp
theorem aw3 : opn ⟨(recJ 69 [97, 98]).take 38, [], true⟩ = ([], .zero, 0) := by
  have := run_opn (t := (recJ 69 [97, 98]).take 38) (cr := true) run_nil (nextJ_part [] 69 [97, 98] 38 (.inl rfl) (by decide) (by rw [recJ_len]; decide))
  simpa [Dk.zero] using this
theorem aw4 : opn ⟨recJ 69 [97, 98], [], true⟩ = ([[97, 98]], ⟨recJ 69 [97, 98], [], false⟩, 0) := by
  have h1 := run_E [97, 98] run_nil (by decide) (by decide) (by decide)
  have := run_opn (t := []) (cr := true) h1 (by rw [List.append_nil]; exact nextJ_end _)
  simpa using this
theorem crashD_pend (d : Dk) (k b : Int) : (crashD d k b).1.pend = [] := by
  unfold crashD; split
  · rfl
  · split
    · rfl
    · split <;> rfl
theorem syncD_pend (d : Dk) : (syncD d).1.pend = [] := by unfold syncD; split <;> rfl
theorem appendD_pend (d : Dk) (e : Bs) : (appendD d e).1.pend.length ≤ d.pend.length + 1 := by
  unfold appendD; split
  · exact Nat.zero_le _
  · split
    · exact Nat.zero_le _
    · simp
theorem compactD_pend (d : Dk) (l : List Bs) : (compactD d l).1.pend.length ≤ d.pend.length + 1 := by
  unfold compactD; split
  · exact Nat.zero_le _
  · split
    · exact Nat.zero_le _
    · split
      · exact Nat.zero_le _
      · split
        · exact Nat.zero_le _
        · simp
theorem opn_pend (d : Dk) : (opn d).2.1.pend = [] ∧ (opn d).2.1.crash = false := by
  unfold opn; split
  · exact ⟨rfl, rfl⟩
  · split <;> exact ⟨rfl, rfl⟩
theorem opn_small {d : Dk} (hd : d.safe.length ≤ 1000000) : (opn d).1.length ≤ d.safe.length := by
  by_cases h : (opn d).2.2 = 0
  · have := (opn_run hd h).2.2.2.1; omega
  · have : (opn d).1 = [] := by
      unfold opn at h ⊢; split
      · rfl
      · split
        · rfl
        · rename_i h1 h2; rw [if_neg h1, if_neg h2] at h; exact absurd rfl h
    rw [this]; exact Nat.zero_le _
theorem aw39 : (recJ 69 [97, 98]).length = 39 := recJ_len _ _
theorem aw7 : (recJ 69 [97, 98]).take 7 = [69, 0, 0, 0, 2, 97, 98] := by
  have h : (headJ 69 [97, 98]).length = 7 := headJ_len _ _
  rw [recJ, List.take_append_of_le_length (by omega), List.take_of_length_le (by omega)]; rfl
theorem awake_c {w : World} :
    Calls Try.prog 10 #[] w fun e w' => e = .returned (.bool true) ∧ Below w.heap.size w w' := by
  have a0 := aw0; have a1 := aw1; have a2 := aw2; have a3 := aw3; have a4 := aw4; have a39 := aw39; have a7 := aw7
  generalize recJ 69 [97, 98] = R at a0 a1 a2 a3 a4 a39 a7
  refine enter (S := St (fun _ => True) w [] []) (L := []) Try.func10 rfl Try.ntmps10 rfl (args_nil _) (St.start (fun _ _ => trivial) facts_nil) ?_
  refine WC.sr ?_
  refine WL.r rfl rfl rfl (rd_assign rfl rfl) ?_
  refine WL.nt ?_
  refine WC.sr ?_
  refine WL.r rfl rfl rfl (rd_bld [[.string (S [])], [.slice none 0 0], [.bool false]] rfl rfl (by simp only [bld, fldv, Nat.beq, Value.cells, cond_true, cond_false, List.nil_append, List.cons_append, List.append_nil]; rfl) (fun w => by kernel_rfl)) ?_
  refine WL.g rfl rfl rfl (og_call rfl rfl (by kernel_rfl) (keep_f1 (val := fun g => DE (⟨[], [R], false⟩, 0) (g.val 1)) (p := fun g => g.cap = 1 + g.sp.length) (xs := strs [R]) (T := 9) fun w hS => (by have := append_c (d := .zero) (t := [97, 98]) (a := none) (cap := 0) (w := w) sl_nil (by decide); rw [a0] at this; exact this))) ?_
  intro g13; refine WL.pu ?_; intro hg13
  refine WL.r rfl rfl rfl (rd_move rfl rfl) ?_
  refine WL.r rfl rfl rfl (rd_extL rfl rfl rfl) ?_
  refine WL.r rfl rfl rfl (rd_extL rfl rfl rfl) ?_
  refine WL.g rfl rfl rfl (og_alloc rfl (v := (.agg #[.string (S []), .slice none 0 0, .bool false])) (cs := [.string (S []), .slice none 0 0, .bool false]) (by kernel_rfl) rfl) ?_
  intro b1
  refine WL.g0 rfl rfl (sta rfl rfl rfl .tc ?_ ?_ ?_) ?_
  · kernel_rfl
  · simp [Value.oneCell']
  · first | rfl | simp
  intro _
  refine WL.r rfl rfl rfl (rd_assign rfl rfl) ?_
  refine WL.nt ?_
  refine WC.seq ?_
  refine WC.sr ?_
  refine WL.r rfl rfl rfl (rd_move rfl rfl) ?_
  refine WL.r rfl rfl rfl (rd_neq rfl rfl rfl) ?_
  refine WL.set 19 rfl (v' := .bool false) (by rfl) ?_
  refine WL.r rfl rfl rfl (rd_move rfl rfl) ?_
  first
    | (refine WL.r rfl rfl rfl (rd_fa (q := 1) rfl rfl Try.underlying24 rfl (by kernel_rfl) rfl) ?_)
    | (refine WL.r rfl rfl rfl (faf (q' := 1) rfl rfl Try.underlying24 rfl (by kernel_rfl) rfl) ?_)
  first
    | (refine WL.r rfl rfl rfl (ld rfl rfl .tc Try.underlying22 rfl (by rfl)) ?_)
    | (refine WL.r rfl rfl rfl (ldm rfl rfl Try.underlying22 rfl ?_) ?_; (focus (first | assumption | omega | (dsimp only; first | assumption | omega) | (simp <;> omega) | (simp; done))))
    | (refine WL.r rfl rfl rfl (ldom rfl rfl Try.underlying22 rfl ?_) ?_; (focus (first | assumption | omega | (dsimp only; first | assumption | omega) | (simp <;> omega) | (simp; done))))
  refine WL.r rfl rfl rfl (rd_len rfl rfl Try.underlying22) ?_
  refine WL.r rfl rfl rfl (rd_neq rfl rfl rfl) ?_
  refine WL.set 24 rfl (v' := .bool false) (by rfl) ?_
  refine WL.r rfl rfl rfl (rd_pickf rfl rfl rfl) ?_
  refine WL.r rfl rfl rfl (rd_move rfl rfl) ?_
  first
    | (refine WL.r rfl rfl rfl (rd_fa (q := 1) rfl rfl Try.underlying24 rfl (by kernel_rfl) rfl) ?_)
    | (refine WL.r rfl rfl rfl (faf (q' := 1) rfl rfl Try.underlying24 rfl (by kernel_rfl) rfl) ?_)
  first
    | (refine WL.r rfl rfl rfl (ld rfl rfl .tc Try.underlying22 rfl (by rfl)) ?_)
    | (refine WL.r rfl rfl rfl (ldm rfl rfl Try.underlying22 rfl ?_) ?_; (focus (first | assumption | omega | (dsimp only; first | assumption | omega) | (simp <;> omega) | (simp; done))))
    | (refine WL.r rfl rfl rfl (ldom rfl rfl Try.underlying22 rfl ?_) ?_; (focus (first | assumption | omega | (dsimp only; first | assumption | omega) | (simp <;> omega) | (simp; done))))
  first
    | (refine WL.r rfl rfl rfl (rd_ia rfl rfl rfl Try.underlying22 (by kernel_rfl : _ = some 1) ?_ (by (try simp only [Int.toNat_natCast, Nat.mul_one, Nat.zero_add, Nat.add_zero, Nat.zero_mul, Int.reduceToNat, Nat.reduceAdd, Nat.reduceMul, Nat.reduceSub, Nat.sub_zero]); rfl)) ?_; (focus (first | assumption | omega | (dsimp only; first | assumption | omega) | (simp <;> omega) | (simp; done))))
    | (refine WL.r rfl rfl rfl (iaf rfl rfl rfl Try.underlying22 (by kernel_rfl : _ = some 1) ?_ ?_ (by (try simp only [Int.toNat_natCast, Nat.mul_one, Nat.zero_add, Nat.add_zero, Nat.zero_mul, Int.reduceToNat, Nat.reduceAdd, Nat.reduceMul, Nat.reduceSub, Nat.sub_zero]); rfl)) ?_; (focus (first | assumption | omega | (dsimp only; first | assumption | omega) | (simp <;> omega) | (simp; done))); (focus (first | (rw [List.length_map]; omega) | (rw [flatMap_len _ _ _ (fun _ => rfl)]; omega) | (simp <;> omega))))
    | (refine WL.r rfl rfl rfl (iao rfl rfl rfl Try.underlying22 (by kernel_rfl : _ = some 1) ?_ ?_ (by (try simp only [Int.toNat_natCast, Nat.mul_one, Nat.zero_add, Nat.add_zero, Nat.zero_mul, Int.reduceToNat, Nat.reduceAdd, Nat.reduceMul, Nat.reduceSub, Nat.sub_zero]); rfl)) ?_; (focus (first | assumption | omega | (dsimp only; first | assumption | omega) | (simp <;> omega) | (simp; done))); (focus (first | (simp <;> omega) | (rw [List.length_append, List.length_map]; omega))))
  first
    | (refine WL.r rfl rfl rfl (ld rfl rfl .tc Try.underlying9 rfl (by rfl)) ?_)
    | (refine WL.r rfl rfl rfl (ldm rfl rfl Try.underlying9 rfl ?_) ?_; (focus (first | assumption | omega | (dsimp only; first | assumption | omega) | (simp <;> omega) | (simp; done))))
    | (refine WL.r rfl rfl rfl (ldom rfl rfl Try.underlying9 rfl ?_) ?_; (focus (first | assumption | omega | (dsimp only; first | assumption | omega) | (simp <;> omega) | (simp; done))))
  refine WL.r rfl rfl rfl (rd_slen rfl rfl Try.underlying9) ?_
  refine WL.r rfl rfl rfl (rd_neq rfl rfl rfl) ?_
  refine WL.set 32 rfl (v' := .bool false) (by show Value.bool (!decide ((R.length : Int) = 39)) = _; rw [a39]; rfl) ?_
  refine WL.r rfl rfl rfl (rd_pickf rfl rfl rfl) ?_
  refine WL.r rfl rfl rfl (rd_move rfl rfl) ?_
  first
    | (refine WL.r rfl rfl rfl (rd_fa (q := 1) rfl rfl Try.underlying24 rfl (by kernel_rfl) rfl) ?_)
    | (refine WL.r rfl rfl rfl (faf (q' := 1) rfl rfl Try.underlying24 rfl (by kernel_rfl) rfl) ?_)
  first
    | (refine WL.r rfl rfl rfl (ld rfl rfl .tc Try.underlying22 rfl (by rfl)) ?_)
    | (refine WL.r rfl rfl rfl (ldm rfl rfl Try.underlying22 rfl ?_) ?_; (focus (first | assumption | omega | (dsimp only; first | assumption | omega) | (simp <;> omega) | (simp; done))))
    | (refine WL.r rfl rfl rfl (ldom rfl rfl Try.underlying22 rfl ?_) ?_; (focus (first | assumption | omega | (dsimp only; first | assumption | omega) | (simp <;> omega) | (simp; done))))
  first
    | (refine WL.r rfl rfl rfl (rd_ia rfl rfl rfl Try.underlying22 (by kernel_rfl : _ = some 1) ?_ (by (try simp only [Int.toNat_natCast, Nat.mul_one, Nat.zero_add, Nat.add_zero, Nat.zero_mul, Int.reduceToNat, Nat.reduceAdd, Nat.reduceMul, Nat.reduceSub, Nat.sub_zero]); rfl)) ?_; (focus (first | assumption | omega | (dsimp only; first | assumption | omega) | (simp <;> omega) | (simp; done))))
    | (refine WL.r rfl rfl rfl (iaf rfl rfl rfl Try.underlying22 (by kernel_rfl : _ = some 1) ?_ ?_ (by (try simp only [Int.toNat_natCast, Nat.mul_one, Nat.zero_add, Nat.add_zero, Nat.zero_mul, Int.reduceToNat, Nat.reduceAdd, Nat.reduceMul, Nat.reduceSub, Nat.sub_zero]); rfl)) ?_; (focus (first | assumption | omega | (dsimp only; first | assumption | omega) | (simp <;> omega) | (simp; done))); (focus (first | (rw [List.length_map]; omega) | (rw [flatMap_len _ _ _ (fun _ => rfl)]; omega) | (simp <;> omega))))
    | (refine WL.r rfl rfl rfl (iao rfl rfl rfl Try.underlying22 (by kernel_rfl : _ = some 1) ?_ ?_ (by (try simp only [Int.toNat_natCast, Nat.mul_one, Nat.zero_add, Nat.add_zero, Nat.zero_mul, Int.reduceToNat, Nat.reduceAdd, Nat.reduceMul, Nat.reduceSub, Nat.sub_zero]); rfl)) ?_; (focus (first | assumption | omega | (dsimp only; first | assumption | omega) | (simp <;> omega) | (simp; done))); (focus (first | (simp <;> omega) | (rw [List.length_append, List.length_map]; omega))))
  first
    | (refine WL.r rfl rfl rfl (ld rfl rfl .tc Try.underlying9 rfl (by rfl)) ?_)
    | (refine WL.r rfl rfl rfl (ldm rfl rfl Try.underlying9 rfl ?_) ?_; (focus (first | assumption | omega | (dsimp only; first | assumption | omega) | (simp <;> omega) | (simp; done))))
    | (refine WL.r rfl rfl rfl (ldom rfl rfl Try.underlying9 rfl ?_) ?_; (focus (first | assumption | omega | (dsimp only; first | assumption | omega) | (simp <;> omega) | (simp; done))))
  refine WL.r rfl rfl rfl (rd_sto rfl rfl rfl Try.underlying9 ?_) ?_
  · show (0 : Int) ≤ 7 ∧ (7 : Int) ≤ ((R.length : Nat) : Int); rw [a39]; decide
  refine WL.r rfl rfl rfl (rd_sne rfl rfl rfl) ?_
  refine WL.set 40 rfl (v' := .bool false) (by show Value.bool (!decide (R.take 7 = [69, 0, 0, 0, 2, 97, 98])) = _; rw [a7]; rfl) ?_
  refine WL.r rfl rfl rfl (rd_pickf rfl rfl rfl) ?_
  refine WL.nt ?_
  refine WC.cond rfl (fun h => by cases h) (fun _ => ?_)
  refine WC.skip ?_
  refine WX.then_normal ?_
  refine WC.sr ?_
  refine WL.r rfl rfl rfl (lda rfl rfl .tc Try.underlying24 rfl ?_) ?_
  · kernel_rfl
  refine WL.g rfl rfl rfl (og_call rfl rfl (by kernel_rfl) (keep_f1 (val := fun g => DE (⟨R.take 38, [], true⟩, 0) (g.val 0)) (p := fun g => g.cap = 0 + g.sp.length) (xs := []) (T := 9) fun w hS => (by have := crash_c (d := ⟨[], [R], false⟩) (kept := 0) (bytes := 38) (a := g13.a) (cap := g13.cap) (w := w) hS.sl (by simp) (by simp; omega) (by simp; omega) (by simp); rw [a1] at this; exact this))) ?_
  intro g42; refine WL.pu ?_; intro hg42
  refine WL.r rfl rfl rfl (rd_move rfl rfl) ?_
  refine WL.r rfl rfl rfl (rd_extL rfl rfl rfl) ?_
  refine WL.r rfl rfl rfl (rd_extL rfl rfl rfl) ?_
  refine WL.g rfl rfl rfl (og_alloc rfl (v := (.agg #[.string (S []), .slice none 0 0, .bool false])) (cs := [.string (S []), .slice none 0 0, .bool false]) (by kernel_rfl) rfl) ?_
  intro b3
  refine WL.g0 rfl rfl (sta rfl rfl rfl .tc ?_ ?_ ?_) ?_
  · kernel_rfl
  · simp [Value.oneCell']
  · first | rfl | simp
  intro _
  refine WL.r rfl rfl rfl (rd_assign rfl rfl) ?_
  refine WL.nt ?_
  refine WC.sr ?_
  refine WL.r rfl rfl rfl (lda rfl rfl .tc Try.underlying24 rfl ?_) ?_
  · kernel_rfl
  refine WL.g rfl rfl rfl (og_call rfl rfl (by kernel_rfl) (keep_f1 (val := fun g => DE (⟨R, [], true⟩, 0) (g.val 0)) (p := fun g => g.cap = 0 + g.sp.length) (xs := []) (T := 9) fun w hS => (by have := crash_c (d := ⟨[], [R], false⟩) (kept := 1) (bytes := 0) (a := g13.a) (cap := g13.cap) (w := w) hS.sl (by simp) (by simp; omega) (by simp; omega) (by simp); rw [a2] at this; exact this))) ?_
  intro g47; refine WL.pu ?_; intro hg47
  refine WL.r rfl rfl rfl (rd_move rfl rfl) ?_
  refine WL.r rfl rfl rfl (rd_extL rfl rfl rfl) ?_
  refine WL.r rfl rfl rfl (rd_extL rfl rfl rfl) ?_
  refine WL.g rfl rfl rfl (og_alloc rfl (v := (.agg #[.string (S []), .slice none 0 0, .bool false])) (cs := [.string (S []), .slice none 0 0, .bool false]) (by kernel_rfl) rfl) ?_
  intro b5
  refine WL.g0 rfl rfl (sta rfl rfl rfl .tc ?_ ?_ ?_) ?_
  · kernel_rfl
  · simp [Value.oneCell']
  · first | rfl | simp
  intro _
  refine WL.r rfl rfl rfl (rd_assign rfl rfl) ?_
  refine WL.nt ?_
  refine WC.sr ?_
  refine WL.r rfl rfl rfl (lda rfl rfl .tc Try.underlying24 rfl ?_) ?_
  · kernel_rfl
  refine WL.g rfl rfl rfl (og_call rfl rfl (by kernel_rfl) (keep_f1 (val := fun g => .tuple #[g.val 0, .agg #[.string (S []), .slice none 0 0, .bool false], .int .i64 0]) (p := fun g => g.cap = 0 + g.sp.length) (xs := []) (T := 9) fun w hS => (by have := open_c (d := ⟨R.take 38, [], true⟩) (a := g42.a) (cap := g42.cap) (w := w) sl_nil (by simp; omega) (by simp); rw [a3] at this; exact this))) ?_
  intro g52; refine WL.pu ?_; intro hg52
  refine WL.r rfl rfl rfl (rd_move rfl rfl) ?_
  refine WL.r rfl rfl rfl (rd_extL rfl rfl rfl) ?_
  refine WL.r rfl rfl rfl (rd_extL rfl rfl rfl) ?_
  refine WL.r rfl rfl rfl (rd_extL rfl rfl rfl) ?_
  refine WL.g rfl rfl rfl (og_alloc rfl (v := (.agg #[.string (S []), .slice none 0 0, .bool false])) (cs := [.string (S []), .slice none 0 0, .bool false]) (by kernel_rfl) rfl) ?_
  intro b8
  refine WL.r rfl rfl rfl (rd_assign rfl rfl) ?_
  refine WL.g0 rfl rfl (sta rfl rfl rfl .tc ?_ ?_ ?_) ?_
  · kernel_rfl
  · simp [Value.oneCell']
  · first | rfl | simp
  intro _
  refine WL.r rfl rfl rfl (rd_assign rfl rfl) ?_
  refine WL.nt ?_
  refine WC.sr ?_
  refine WL.r rfl rfl rfl (lda rfl rfl .tc Try.underlying24 rfl ?_) ?_
  · kernel_rfl
  refine WL.g rfl rfl rfl (og_call rfl rfl (by kernel_rfl) (keep_f1 (val := fun g => .tuple #[g.val 1, .agg #[.string (S R), .slice none 0 0, .bool false], .int .i64 0]) (p := fun g => g.cap = 1 + g.sp.length) (xs := strs [[97, 98]]) (T := 9) fun w hS => (by have := open_c (d := ⟨R, [], true⟩) (a := g47.a) (cap := g47.cap) (w := w) sl_nil (by simp; omega) (by simp); rw [a4] at this; exact this))) ?_
  intro g58; refine WL.pu ?_; intro hg58
  refine WL.r rfl rfl rfl (rd_move rfl rfl) ?_
  refine WL.r rfl rfl rfl (rd_extL rfl rfl rfl) ?_
  refine WL.r rfl rfl rfl (rd_extL rfl rfl rfl) ?_
  refine WL.r rfl rfl rfl (rd_extL rfl rfl rfl) ?_
  refine WL.g rfl rfl rfl (og_alloc rfl (v := (.agg #[.string (S []), .slice none 0 0, .bool false])) (cs := [.string (S []), .slice none 0 0, .bool false]) (by kernel_rfl) rfl) ?_
  intro b11
  refine WL.r rfl rfl rfl (rd_assign rfl rfl) ?_
  refine WL.g0 rfl rfl (sta rfl rfl rfl .tc ?_ ?_ ?_) ?_
  · kernel_rfl
  · simp [Value.oneCell']
  · first | rfl | simp
  intro _
  refine WL.r rfl rfl rfl (rd_assign rfl rfl) ?_
  refine WL.nt ?_
  refine WC.sr ?_
  refine WL.r rfl rfl rfl (rd_move rfl rfl) ?_
  refine WL.r rfl rfl rfl (rd_eql rfl rfl rfl) ?_
  refine WL.r rfl rfl rfl (rd_move rfl rfl) ?_
  refine WL.set 66 rfl (v' := .bool true) (by first | rfl | exact congrArg Value.bool (by simp [*]; done) | exact congrArg Value.bool (by simp; omega)) ?_
  refine WL.r rfl rfl rfl (rd_move rfl rfl) ?_
  refine WL.r rfl rfl rfl (rd_eql rfl rfl rfl) ?_
  refine WL.r rfl rfl rfl (rd_pickt rfl rfl rfl) ?_
  refine WL.r rfl rfl rfl (rd_move rfl rfl) ?_
  refine WL.set 70 rfl (v' := .bool true) (by first | rfl | exact congrArg Value.bool (by simp [*]; done) | exact congrArg Value.bool (by simp; omega)) ?_
  refine WL.r rfl rfl rfl (rd_move rfl rfl) ?_
  refine WL.r rfl rfl rfl (rd_eql rfl rfl rfl) ?_
  refine WL.r rfl rfl rfl (rd_pickt rfl rfl rfl) ?_
  refine WL.r rfl rfl rfl (rd_move rfl rfl) ?_
  refine WL.set 74 rfl (v' := .bool true) (by first | rfl | exact congrArg Value.bool (by simp [*]; done) | exact congrArg Value.bool (by simp; omega)) ?_
  refine WL.r rfl rfl rfl (rd_move rfl rfl) ?_
  refine WL.r rfl rfl rfl (rd_len rfl rfl Try.underlying22) ?_
  refine WL.r rfl rfl rfl (rd_eql rfl rfl rfl) ?_
  refine WL.r rfl rfl rfl (rd_pickt rfl rfl rfl) ?_
  refine WL.r rfl rfl rfl (rd_move rfl rfl) ?_
  refine WL.set 79 rfl (v' := .bool true) (by first | rfl | exact congrArg Value.bool (by simp [*]; done) | exact congrArg Value.bool (by simp; omega)) ?_
  first
    | (refine WL.r rfl rfl rfl (rd_fa (q := 0) rfl rfl Try.underlying24 rfl (by kernel_rfl) rfl) ?_)
    | (refine WL.r rfl rfl rfl (faf (q' := 0) rfl rfl Try.underlying24 rfl (by kernel_rfl) rfl) ?_)
  first
    | (refine WL.r rfl rfl rfl (ld rfl rfl .tc Try.underlying9 rfl (by rfl)) ?_)
    | (refine WL.r rfl rfl rfl (ldm rfl rfl Try.underlying9 rfl ?_) ?_; (focus (first | assumption | omega | (dsimp only; first | assumption | omega) | (simp <;> omega) | (simp; done))))
    | (refine WL.r rfl rfl rfl (ldom rfl rfl Try.underlying9 rfl ?_) ?_; (focus (first | assumption | omega | (dsimp only; first | assumption | omega) | (simp <;> omega) | (simp; done))))
  refine WL.r rfl rfl rfl (rd_seq rfl rfl rfl) ?_
  refine WL.r rfl rfl rfl (rd_pickt rfl rfl rfl) ?_
  refine WL.r rfl rfl rfl (rd_move rfl rfl) ?_
  refine WL.set 84 rfl (v' := .bool true) (by first | rfl | exact congrArg Value.bool (by simp [*]; done) | exact congrArg Value.bool (by simp; omega)) ?_
  refine WL.r rfl rfl rfl (rd_move rfl rfl) ?_
  refine WL.r rfl rfl rfl (rd_eql rfl rfl rfl) ?_
  refine WL.r rfl rfl rfl (rd_pickt rfl rfl rfl) ?_
  refine WL.r rfl rfl rfl (rd_move rfl rfl) ?_
  refine WL.set 88 rfl (v' := .bool true) (by first | rfl | exact congrArg Value.bool (by simp [*]; done) | exact congrArg Value.bool (by simp; omega)) ?_
  refine WL.r rfl rfl rfl (rd_move rfl rfl) ?_
  refine WL.r rfl rfl rfl (rd_len rfl rfl Try.underlying22) ?_
  refine WL.r rfl rfl rfl (rd_eql rfl rfl rfl) ?_
  refine WL.r rfl rfl rfl (rd_pickt rfl rfl rfl) ?_
  refine WL.r rfl rfl rfl (rd_move rfl rfl) ?_
  refine WL.set 93 rfl (v' := .bool true) (by first | rfl | exact congrArg Value.bool (by simp [*]; done) | exact congrArg Value.bool (by simp; omega)) ?_
  refine WL.r rfl rfl rfl (rd_move rfl rfl) ?_
  first
    | (refine WL.r rfl rfl rfl (rd_ia rfl rfl rfl Try.underlying22 (by kernel_rfl : _ = some 1) ?_ (by (try simp only [Int.toNat_natCast, Nat.mul_one, Nat.zero_add, Nat.add_zero, Nat.zero_mul, Int.reduceToNat, Nat.reduceAdd, Nat.reduceMul, Nat.reduceSub, Nat.sub_zero]); rfl)) ?_; (focus (first | assumption | omega | (dsimp only; first | assumption | omega) | (simp <;> omega) | (simp; done))))
    | (refine WL.r rfl rfl rfl (iaf rfl rfl rfl Try.underlying22 (by kernel_rfl : _ = some 1) ?_ ?_ (by (try simp only [Int.toNat_natCast, Nat.mul_one, Nat.zero_add, Nat.add_zero, Nat.zero_mul, Int.reduceToNat, Nat.reduceAdd, Nat.reduceMul, Nat.reduceSub, Nat.sub_zero]); rfl)) ?_; (focus (first | assumption | omega | (dsimp only; first | assumption | omega) | (simp <;> omega) | (simp; done))); (focus (first | (rw [List.length_map]; omega) | (rw [flatMap_len _ _ _ (fun _ => rfl)]; omega) | (simp <;> omega))))
    | (refine WL.r rfl rfl rfl (iao rfl rfl rfl Try.underlying22 (by kernel_rfl : _ = some 1) ?_ ?_ (by (try simp only [Int.toNat_natCast, Nat.mul_one, Nat.zero_add, Nat.add_zero, Nat.zero_mul, Int.reduceToNat, Nat.reduceAdd, Nat.reduceMul, Nat.reduceSub, Nat.sub_zero]); rfl)) ?_; (focus (first | assumption | omega | (dsimp only; first | assumption | omega) | (simp <;> omega) | (simp; done))); (focus (first | (simp <;> omega) | (rw [List.length_append, List.length_map]; omega))))
  first
    | (refine WL.r rfl rfl rfl (ld rfl rfl .tc Try.underlying9 rfl (by rfl)) ?_)
    | (refine WL.r rfl rfl rfl (ldm rfl rfl Try.underlying9 rfl ?_) ?_; (focus (first | assumption | omega | (dsimp only; first | assumption | omega) | (simp <;> omega) | (simp; done))))
    | (refine WL.r rfl rfl rfl (ldom rfl rfl Try.underlying9 rfl ?_) ?_; (focus (first | assumption | omega | (dsimp only; first | assumption | omega) | (simp <;> omega) | (simp; done))))
  refine WL.r rfl rfl rfl (rd_seq rfl rfl rfl) ?_
  refine WL.r rfl rfl rfl (rd_pickt rfl rfl rfl) ?_
  refine WL.r rfl rfl rfl (rd_assign rfl rfl) ?_
  refine WL.nt ?_
  refine WC.ret ?_
  exact WX.retN rfl (.tmp rfl .nil) fun w' hS => ⟨by first | rfl | (simp [tup]; done) | (simp [*, tup]; done), hS.below⟩
theorem crashes_c {sf : Bs} {p : Sl Bs} {cr : Bool} {kept bytes : Int} {w : World} {ok : Nat → Prop} (hF1 : (Fact.sl p.a (strs p.l)).holds ok w) (hcap : p.l.length ≤ p.cap) (hcb : p.cap * 16 ≤ 140737488351232) (hsf : sf.length ≤ 140737488351232) (hs : ∀ s ∈ p.l, s.length ≤ 140737488351232) :
    Calls Try.prog 3 #[.agg #[.string (S sf), p.val, .bool cr], .int .i64 kept, .int .i64 bytes] w fun e w' => e = .returned (.bool true) ∧ Below w.heap.size w w' := by
  have hl63 : p.l.length ≤ 9223372036854775807 := by omega
  refine enter (S := St (fun _ => True) w [] [Fact.sl p.a (strs p.l)]) (L := [(0, .agg #[.string (S sf), p.val, .bool cr]), (1, .int .i64 kept), (2, .int .i64 bytes)]) Try.func3 rfl Try.ntmps3 rfl (args_cons rfl (args_cons rfl (args_cons rfl (args_nil _)))) (St.start (fun _ _ => trivial) (facts_cons (fact_any hF1) facts_nil)) ?_
  refine WC.sr ?_
  refine WL.g rfl rfl rfl (og_box rfl rfl (by first | exact cells_agg _ | rfl)) ?_
  intro b3
  refine WL.r rfl rfl rfl (rd_assign rfl rfl) ?_
  refine WL.nt ?_
  refine WC.seq ?_
  refine WC.sr ?_
  refine WL.r rfl rfl rfl (lda rfl rfl .tc Try.underlying24 rfl ?_) ?_
  · kernel_rfl
  refine WL.g rfl rfl rfl (og_call rfl rfl (by kernel_rfl) (keep_val fun w hS => small_c (d := ⟨sf, p.l, cr⟩) (by first | exact hS.sl | exact hS.os | exact hS.oc | exact sl_takeM _ hS.sl | exact sl_dropM _ hS.sl | exact sl_cutM _ (by omega) hS.sl | exact sl_nil) (by first | assumption | omega | (dsimp only; first | assumption | omega) | (simp <;> omega) | (simp; done)) (by first | assumption | omega | (dsimp only; first | assumption | omega) | (simp <;> omega) | (simp; done)))) ?_
  intro _
  refine WL.r rfl rfl rfl (rd_not rfl rfl) ?_
  refine WL.nt ?_
  refine WC.cond rfl (fun hc13 => ?_) (fun hc13 => ?_)
  · (try simp only [decide_eq_true_eq, decide_eq_false_iff_not, Bool.not_eq_true', Bool.not_eq_false', Bool.not_not, Int.not_lt, Int.not_le] at hc13)
    refine WC.sr ?_
    refine WL.g rfl rfl rfl (og_call rfl rfl (by kernel_rfl) (keep_val fun w hS => awake_c)) ?_
    intro _
    refine WL.r rfl rfl rfl (rd_assign rfl rfl) ?_
    refine WL.nt ?_
    refine WC.ret ?_
    refine WX.then_ret ?_
    exact WX.retN rfl (.tmp rfl .nil) fun w' hS => ⟨by first | rfl | (simp [tup]; done) | (simp [*, tup]; done), hS.below⟩
  · (try simp only [decide_eq_true_eq, decide_eq_false_iff_not, Bool.not_eq_true', Bool.not_eq_false', Bool.not_not, Int.not_lt, Int.not_le] at hc13)
    have hsm : sf.length ≤ 3000 ∧ fewP p.l := by simpa using hc13
    obtain ⟨hsm1, hsm2, hsm3⟩ := hsm
    refine WC.skip ?_
    refine WX.then_normal ?_
    refine WC.sr ?_
    refine WL.r rfl rfl rfl (lda rfl rfl .tc Try.underlying24 rfl ?_) ?_
    · kernel_rfl
    refine WL.r rfl rfl rfl (rd_move rfl rfl) ?_
    refine WL.r rfl rfl rfl (rd_move rfl rfl) ?_
    refine WL.g rfl rfl rfl (og_call rfl rfl (by kernel_rfl) (keep_f1 fun w hS => crash_c (d := ⟨sf, p.l, cr⟩) (by first | exact hS.sl | exact hS.os | exact hS.oc | exact sl_takeM _ hS.sl | exact sl_dropM _ hS.sl | exact sl_cutM _ (by omega) hS.sl | exact sl_nil) (by first | assumption | omega | (dsimp only; first | assumption | omega) | (simp <;> omega) | (simp; done)) (by first | assumption | omega | (dsimp only; first | assumption | omega) | (simp <;> omega) | (simp; done)) (by first | assumption | omega | (dsimp only; first | assumption | omega) | (simp <;> omega) | (simp; done)) (by first | assumption | omega | (dsimp only; first | assumption | omega) | (simp <;> omega) | (simp; done)))) ?_
    intro g19
    refine WL.pu ?_
    intro hg19; (try dsimp only at hg19 ⊢)
    refine WL.r rfl rfl rfl (rd_move rfl rfl) ?_
    refine WL.r rfl rfl rfl (rd_extL rfl rfl rfl) ?_
    refine WL.r rfl rfl rfl (rd_extL rfl rfl rfl) ?_
    refine WL.g rfl rfl rfl (og_alloc rfl (v := (.agg #[.string (S []), .slice none 0 0, .bool false])) (cs := [.string (S []), .slice none 0 0, .bool false]) (by kernel_rfl) rfl) ?_
    intro b7
    refine WL.g0 rfl rfl (sta rfl rfl rfl .tc ?_ ?_ ?_) ?_
    · kernel_rfl
    · simp [Value.oneCell']
    · first | rfl | simp
    intro _
    refine WL.r rfl rfl rfl (rd_assign rfl rfl) ?_
    refine WL.nt ?_
    refine WC.sr ?_
    refine WL.r rfl rfl rfl (lda rfl rfl .tc Try.underlying24 rfl ?_) ?_
    · kernel_rfl
    refine WL.r rfl rfl rfl (rd_move rfl rfl) ?_
    refine WL.r rfl rfl rfl (rd_move rfl rfl) ?_
    refine WL.g rfl rfl rfl (og_call rfl rfl (by kernel_rfl) (keep_f1 fun w hS => rcrash_c (d := ⟨sf, p.l, cr⟩) (by first | exact hS.sl | exact hS.os | exact hS.oc | exact sl_takeM _ hS.sl | exact sl_dropM _ hS.sl | exact sl_cutM _ (by omega) hS.sl | exact sl_nil) (by first | assumption | omega | (dsimp only; first | assumption | omega) | (simp <;> omega) | (simp; done)) (by first | assumption | omega | (dsimp only; first | assumption | omega) | (simp <;> omega) | (simp; done)) (by first | assumption | omega | (dsimp only; first | assumption | omega) | (simp <;> omega) | (simp; done)) (by first | assumption | omega | (dsimp only; first | assumption | omega) | (simp <;> omega) | (simp; done)))) ?_
    intro g26
    refine WL.pu ?_
    intro hg26; (try dsimp only at hg26 ⊢)
    refine WL.r rfl rfl rfl (rd_move rfl rfl) ?_
    refine WL.r rfl rfl rfl (rd_extL rfl rfl rfl) ?_
    refine WL.r rfl rfl rfl (rd_extL rfl rfl rfl) ?_
    refine WL.g rfl rfl rfl (og_alloc rfl (v := (.agg #[.string (S []), .slice none 0 0, .bool false])) (cs := [.string (S []), .slice none 0 0, .bool false]) (by kernel_rfl) rfl) ?_
    intro b9
    refine WL.g0 rfl rfl (sta rfl rfl rfl .tc ?_ ?_ ?_) ?_
    · kernel_rfl
    · simp [Value.oneCell']
    · first | rfl | simp
    intro _
    refine WL.r rfl rfl rfl (rd_assign rfl rfl) ?_
    refine WL.nt ?_
    refine WC.sr ?_
    refine WL.g rfl rfl rfl (og_call rfl rfl (by kernel_rfl) (keep_val fun w hS => awake_c)) ?_
    intro _
    refine WL.r rfl rfl rfl (rd_move rfl rfl) ?_
    refine WL.set 30 rfl (v' := .bool true) (by first | rfl | exact congrArg Value.bool (by simp [*]; done) | exact congrArg Value.bool (by simp; omega)) ?_
    refine WL.r rfl rfl rfl (lda rfl rfl .tc Try.underlying24 rfl ?_) ?_
    · kernel_rfl
    refine WL.r rfl rfl rfl (lda rfl rfl .tc Try.underlying24 rfl ?_) ?_
    · kernel_rfl
    refine WL.g rfl rfl rfl (og_call rfl rfl (by kernel_rfl) (keep_val fun w hS => Same_c (by first | exact hS.sl | exact hS.os | exact hS.oc | exact sl_takeM _ hS.sl | exact sl_dropM _ hS.sl | exact sl_cutM _ (by omega) hS.sl | exact sl_nil) (by first | exact hS.sl | exact hS.os | exact hS.oc | exact sl_takeM _ hS.sl | exact sl_dropM _ hS.sl | exact sl_cutM _ (by omega) hS.sl | exact sl_nil) (by rw [crashD_pend]; simp) (by rw [crashD_pend]; simp))) ?_
    intro _
    refine WL.r rfl rfl rfl (rd_pickt rfl rfl rfl) ?_
    refine WL.r rfl rfl rfl (rd_move rfl rfl) ?_
    refine WL.set 35 rfl (v' := .bool true) (by first | rfl | exact congrArg Value.bool (by simp [*]; done) | exact congrArg Value.bool (by simp; omega)) ?_
    refine WL.r rfl rfl rfl (rd_move rfl rfl) ?_
    refine WL.r rfl rfl rfl (rd_move rfl rfl) ?_
    refine WL.r rfl rfl rfl (rd_eql rfl rfl rfl) ?_
    refine WL.r rfl rfl rfl (rd_pickt rfl rfl rfl) ?_
    refine WL.r rfl rfl rfl (rd_assign rfl rfl) ?_
    refine WL.nt ?_
    refine WC.ret ?_
    exact WX.retN rfl (.tmp rfl .nil) fun w' hS => ⟨by first | rfl | (simp [tup]; done) | (simp [*, tup]; done), hS.below⟩
theorem opens_c {sf : Bs} {p : Sl Bs} {cr : Bool} {w : World} {ok : Nat → Prop} (hF1 : (Fact.sl p.a (strs p.l)).holds ok w) (hcap : p.l.length ≤ p.cap) (hcb : p.cap * 16 ≤ 140737488351232) (hsf : sf.length ≤ 140737488351232) (hs : ∀ s ∈ p.l, s.length ≤ 140737488351232) :
    Calls Try.prog 4 #[.agg #[.string (S sf), p.val, .bool cr]] w fun e w' => e = .returned (.bool true) ∧ Below w.heap.size w w' := by
  have hl63 : p.l.length ≤ 9223372036854775807 := by omega
  refine enter (S := St (fun _ => True) w [] [Fact.sl p.a (strs p.l)]) (L := [(0, .agg #[.string (S sf), p.val, .bool cr])]) Try.func4 rfl Try.ntmps4 rfl (args_cons rfl (args_nil _)) (St.start (fun _ _ => trivial) (facts_cons (fact_any hF1) facts_nil)) ?_
  refine WC.sr ?_
  refine WL.g rfl rfl rfl (og_box rfl rfl (by first | exact cells_agg _ | rfl)) ?_
  intro b1
  refine WL.r rfl rfl rfl (rd_assign rfl rfl) ?_
  refine WL.nt ?_
  refine WC.seq ?_
  refine WC.sr ?_
  refine WL.r rfl rfl rfl (lda rfl rfl .tc Try.underlying24 rfl ?_) ?_
  · kernel_rfl
  refine WL.g rfl rfl rfl (og_call rfl rfl (by kernel_rfl) (keep_val fun w hS => small_c (d := ⟨sf, p.l, cr⟩) (by first | exact hS.sl | exact hS.os | exact hS.oc | exact sl_takeM _ hS.sl | exact sl_dropM _ hS.sl | exact sl_cutM _ (by omega) hS.sl | exact sl_nil) (by first | assumption | omega | (dsimp only; first | assumption | omega) | (simp <;> omega) | (simp; done)) (by first | assumption | omega | (dsimp only; first | assumption | omega) | (simp <;> omega) | (simp; done)))) ?_
  intro _
  refine WL.r rfl rfl rfl (rd_not rfl rfl) ?_
  refine WL.nt ?_
  refine WC.cond rfl (fun hc11 => ?_) (fun hc11 => ?_)
  · (try simp only [decide_eq_true_eq, decide_eq_false_iff_not, Bool.not_eq_true', Bool.not_eq_false', Bool.not_not, Int.not_lt, Int.not_le] at hc11)
    refine WC.sr ?_
    refine WL.g rfl rfl rfl (og_call rfl rfl (by kernel_rfl) (keep_val fun w hS => awake_c)) ?_
    intro _
    refine WL.r rfl rfl rfl (rd_assign rfl rfl) ?_
    refine WL.nt ?_
    refine WC.ret ?_
    refine WX.then_ret ?_
    exact WX.retN rfl (.tmp rfl .nil) fun w' hS => ⟨by first | rfl | (simp [tup]; done) | (simp [*, tup]; done), hS.below⟩
  · (try simp only [decide_eq_true_eq, decide_eq_false_iff_not, Bool.not_eq_true', Bool.not_eq_false', Bool.not_not, Int.not_lt, Int.not_le] at hc11)
    have hsm : sf.length ≤ 3000 ∧ fewP p.l := by simpa using hc11
    obtain ⟨hsm1, hsm2, hsm3⟩ := hsm
    refine WC.skip ?_
    refine WX.then_normal ?_
    refine WC.sr ?_
    refine WL.r rfl rfl rfl (lda rfl rfl .tc Try.underlying24 rfl ?_) ?_
    · kernel_rfl
    refine WL.g rfl rfl rfl (og_call rfl rfl (by kernel_rfl) (keep_f1 fun w hS => open_c (d := ⟨sf, p.l, cr⟩) (by first | exact hS.sl | exact hS.os | exact hS.oc | exact sl_takeM _ hS.sl | exact sl_dropM _ hS.sl | exact sl_cutM _ (by omega) hS.sl | exact sl_nil) (by first | assumption | omega | (dsimp only; first | assumption | omega) | (simp <;> omega) | (simp; done)) (by first | assumption | omega | (dsimp only; first | assumption | omega) | (simp <;> omega) | (simp; done)))) ?_
    intro g15
    refine WL.pu ?_
    intro hg15; (try dsimp only at hg15 ⊢)
    refine WL.r rfl rfl rfl (rd_move rfl rfl) ?_
    refine WL.r rfl rfl rfl (rd_extL rfl rfl rfl) ?_
    refine WL.r rfl rfl rfl (rd_extL rfl rfl rfl) ?_
    refine WL.r rfl rfl rfl (rd_extL rfl rfl rfl) ?_
    refine WL.g rfl rfl rfl (og_alloc rfl (v := (.agg #[.string (S []), .slice none 0 0, .bool false])) (cs := [.string (S []), .slice none 0 0, .bool false]) (by kernel_rfl) rfl) ?_
    intro b4
    refine WL.r rfl rfl rfl (rd_assign rfl rfl) ?_
    refine WL.g0 rfl rfl (sta rfl rfl rfl .tc ?_ ?_ ?_) ?_
    · kernel_rfl
    · simp [Value.oneCell']
    · first | rfl | simp
    intro _
    refine WL.r rfl rfl rfl (rd_assign rfl rfl) ?_
    refine WL.nt ?_
    refine WC.sr ?_
    refine WL.r rfl rfl rfl (lda rfl rfl .tc Try.underlying24 rfl ?_) ?_
    · kernel_rfl
    refine WL.g rfl rfl rfl (og_call rfl rfl (by kernel_rfl) (keep_f1 fun w hS => ropen_c (d := ⟨sf, p.l, cr⟩) (by first | exact hS.sl | exact hS.os | exact hS.oc | exact sl_takeM _ hS.sl | exact sl_dropM _ hS.sl | exact sl_cutM _ (by omega) hS.sl | exact sl_nil) (by first | assumption | omega | (dsimp only; first | assumption | omega) | (simp <;> omega) | (simp; done)) (by first | assumption | omega | (dsimp only; first | assumption | omega) | (simp <;> omega) | (simp; done)))) ?_
    intro g21
    refine WL.pu ?_
    intro hg21; (try dsimp only at hg21 ⊢)
    refine WL.r rfl rfl rfl (rd_move rfl rfl) ?_
    refine WL.r rfl rfl rfl (rd_extL rfl rfl rfl) ?_
    refine WL.r rfl rfl rfl (rd_extL rfl rfl rfl) ?_
    refine WL.r rfl rfl rfl (rd_extL rfl rfl rfl) ?_
    refine WL.g rfl rfl rfl (og_alloc rfl (v := (.agg #[.string (S []), .slice none 0 0, .bool false])) (cs := [.string (S []), .slice none 0 0, .bool false]) (by kernel_rfl) rfl) ?_
    intro b7
    refine WL.r rfl rfl rfl (rd_assign rfl rfl) ?_
    refine WL.g0 rfl rfl (sta rfl rfl rfl .tc ?_ ?_ ?_) ?_
    · kernel_rfl
    · simp [Value.oneCell']
    · first | rfl | simp
    intro _
    refine WL.r rfl rfl rfl (rd_assign rfl rfl) ?_
    refine WL.nil ?_
    have hos : (opn ⟨sf, p.l, cr⟩).1.length ≤ 1000000 := Nat.le_trans (opn_small (by dsimp only; omega)) (by dsimp only; omega)
    refine WX.then_normal ?_
    refine WC.sr ?_
    refine WL.g rfl rfl rfl (og_call rfl rfl (by kernel_rfl) (keep_val fun w hS => awake_c)) ?_
    intro _
    refine WL.r rfl rfl rfl (rd_move rfl rfl) ?_
    refine WL.set 26 rfl (v' := .bool true) (by first | rfl | exact congrArg Value.bool (by simp [*]; done) | exact congrArg Value.bool (by simp; omega)) ?_
    refine WL.r rfl rfl rfl (rd_move rfl rfl) ?_
    refine WL.r rfl rfl rfl (rd_move rfl rfl) ?_
    refine WL.g rfl rfl rfl (og_call rfl rfl (by kernel_rfl) (keep_val fun w hS => same_c (l := (opn ⟨sf, p.l, cr⟩).1) (m := (opn ⟨sf, p.l, cr⟩).1) (by first | exact hS.sl | exact hS.os | exact hS.oc | exact sl_takeM _ hS.sl | exact sl_dropM _ hS.sl | exact sl_cutM _ (by omega) hS.sl | exact sl_nil) (by first | exact hS.sl | exact hS.os | exact hS.oc | exact sl_takeM _ hS.sl | exact sl_dropM _ hS.sl | exact sl_cutM _ (by omega) hS.sl | exact sl_nil) (by exact hos) (by exact hos))) ?_
    intro _
    refine WL.r rfl rfl rfl (rd_pickt rfl rfl rfl) ?_
    refine WL.r rfl rfl rfl (rd_move rfl rfl) ?_
    refine WL.set 31 rfl (v' := .bool true) (by first | rfl | exact congrArg Value.bool (by simp [*]; done) | exact congrArg Value.bool (by simp; omega)) ?_
    refine WL.r rfl rfl rfl (lda rfl rfl .tc Try.underlying24 rfl ?_) ?_
    · kernel_rfl
    refine WL.r rfl rfl rfl (lda rfl rfl .tc Try.underlying24 rfl ?_) ?_
    · kernel_rfl
    refine WL.g rfl rfl rfl (og_call rfl rfl (by kernel_rfl) (keep_val fun w hS => Same_c (d := ⟨(opn ⟨sf, p.l, cr⟩).2.1.safe, [], false⟩) (d' := ⟨(opn ⟨sf, p.l, cr⟩).2.1.safe, [], false⟩) (by first | exact hS.sl | exact hS.os | exact hS.oc | exact sl_takeM _ hS.sl | exact sl_dropM _ hS.sl | exact sl_cutM _ (by omega) hS.sl | exact sl_nil) (by first | exact hS.sl | exact hS.os | exact hS.oc | exact sl_takeM _ hS.sl | exact sl_dropM _ hS.sl | exact sl_cutM _ (by omega) hS.sl | exact sl_nil) (by first | assumption | omega | (dsimp only; first | assumption | omega) | (simp <;> omega) | (simp; done)) (by first | assumption | omega | (dsimp only; first | assumption | omega) | (simp <;> omega) | (simp; done)))) ?_
    intro _
    refine WL.r rfl rfl rfl (rd_pickt rfl rfl rfl) ?_
    refine WL.r rfl rfl rfl (rd_move rfl rfl) ?_
    refine WL.set 36 rfl (v' := .bool true) (by first | rfl | exact congrArg Value.bool (by simp [*]; done) | exact congrArg Value.bool (by simp; omega)) ?_
    refine WL.r rfl rfl rfl (rd_move rfl rfl) ?_
    refine WL.r rfl rfl rfl (rd_move rfl rfl) ?_
    refine WL.r rfl rfl rfl (rd_eql rfl rfl rfl) ?_
    refine WL.r rfl rfl rfl (rd_pickt rfl rfl rfl) ?_
    refine WL.r rfl rfl rfl (rd_assign rfl rfl) ?_
    refine WL.nt ?_
    refine WC.ret ?_
    exact WX.retN rfl (.tmp rfl .nil) fun w' hS => ⟨by first | rfl | (simp [tup]; done) | (simp [*, tup]; done), hS.below⟩
end Go.Proofs.Ytijamoagkmjcjaa
