/-
  The walks of Half, LeafHash, NodeHash and Root, of the program and of the reference.
-/
import Derived.Test.YtenjafedpcpoaaaRef2
import Derived.Test.YtenjafedpcpoaaaMer
import Derived.Test.YtenjafedpcpoaaaAux
namespace Go.Proofs.Ytenjafedpcpoaaa
set_option linter.unusedSimpArgs false
set_option linter.unusedVariables false
open Go.RowKit

abbrev strs (l : List Bs) : List Value := l.map fun s => .string (S s)
theorem strs_len (l : List Bs) : (strs l).length = l.length := by simp [strs]
theorem strs_take (l : List Bs) (k : Nat) : (strs l).take k = strs (l.take k) := by simp [strs, List.map_take]
theorem strs_drop (l : List Bs) (k : Nat) : (strs l).drop k = strs (l.drop k) := by simp [strs, List.map_drop]
theorem strs_get (l : List Bs) (k : Nat) (s : Bs) (h : l[k]? = some s) : (strs l)[k]? = some (.string (S s)) := by simp [strs, List.getElem?_map, h]

theorem lh_ok (s : Bs) (hs : s.length ≤ 900000) (w : World) :
    Calls Try.prog 24 #[.string (S s)] w fun e w' => e = .returned (.string (S (leafH s))) ∧ Below w.heap.size w w' := by
  refine enter (S := St (fun _ => True) w [] []) (L := [(0, .string (S s))]) Try.func24 rfl Try.ntmps24 rfl (args_cons rfl (args_nil _)) (St.start (fun _ _ => trivial) (by simp)) ?_
  refine WC.seq ?_
  refine WC.region ?_
  refine WL.r rfl rfl rfl (rd_assign rfl rfl) ?_
  refine WL.nil ?_
  refine WX.then_normal ?_
  refine WC.seq ?_
  refine WC.region ?_
  refine WL.r rfl rfl rfl (rd_move rfl rfl) ?_
  refine WL.r rfl rfl rfl (rd_cat rfl rfl rfl ?_) ?_
  · (simp; omega)
  refine WL.g rfl rfl rfl (og_call rfl rfl (by kernel_rfl) (keep_val fun w _ => sum_ok ([0] ++ s) (by simp; omega) w)) ?_
  intro _
  refine WL.r rfl rfl rfl (rd_assign rfl rfl) ?_
  refine WL.nil ?_
  refine WX.then_normal ?_
  refine WC.ret ?_
  exact WX.ret1 rfl rfl fun w' hS => ⟨rfl, hS.below⟩

theorem nh_ok (a b : Bs) (ha : a.length ≤ 400000) (hb : b.length ≤ 400000) (w : World) :
    Calls Try.prog 26 #[.string (S a), .string (S b)] w fun e w' => e = .returned (.string (S (nodeH a b))) ∧ Below w.heap.size w w' := by
  refine enter (S := St (fun _ => True) w [] []) (L := [(0, .string (S a)), (1, .string (S b))]) Try.func26 rfl Try.ntmps26 rfl (args_cons rfl (args_cons rfl (args_nil _))) (St.start (fun _ _ => trivial) (by simp)) ?_
  refine WC.seq ?_
  refine WC.region ?_
  refine WL.r rfl rfl rfl (rd_assign rfl rfl) ?_
  refine WL.nil ?_
  refine WX.then_normal ?_
  refine WC.seq ?_
  refine WC.region ?_
  refine WL.r rfl rfl rfl (rd_move rfl rfl) ?_
  refine WL.r rfl rfl rfl (rd_cat rfl rfl rfl ?_) ?_
  · (simp; omega)
  refine WL.r rfl rfl rfl (rd_move rfl rfl) ?_
  refine WL.r rfl rfl rfl (rd_cat rfl rfl rfl ?_) ?_
  · (simp; omega)
  refine WL.g rfl rfl rfl (og_call rfl rfl (by kernel_rfl) (keep_val fun w _ => sum_ok (([1] ++ a) ++ b) (by simp; omega) w)) ?_
  intro _
  refine WL.r rfl rfl rfl (rd_assign rfl rfl) ?_
  refine WL.nil ?_
  refine WX.then_normal ?_
  refine WC.ret ?_
  exact WX.ret1 rfl rfl fun w' hS => ⟨rfl, hS.below⟩

theorem rlh_ok (s : Bs) (hs : s.length ≤ 900000) (w : World) :
    Calls Try.prog 28 #[.string (S s)] w fun e w' => e = .returned (.string (S (leafH s))) ∧ Below w.heap.size w w' := by
  refine enter (S := St (fun _ => True) w [] []) (L := [(0, .string (S s))]) Try.func28 rfl Try.ntmps28 rfl (args_cons rfl (args_nil _)) (St.start (fun _ _ => trivial) (by simp)) ?_
  refine WC.seq ?_
  refine WC.region ?_
  refine WL.r rfl rfl rfl (rd_assign rfl rfl) ?_
  refine WL.nil ?_
  refine WX.then_normal ?_
  refine WC.seq ?_
  refine WC.region ?_
  refine WL.r rfl rfl rfl (rd_move rfl rfl) ?_
  refine WL.r rfl rfl rfl (rd_cat rfl rfl rfl ?_) ?_
  · (simp; omega)
  refine WL.g rfl rfl rfl (og_call rfl rfl (by kernel_rfl) (keep_val fun w _ => rsum_ok ([0] ++ s) (by simp; omega) w)) ?_
  intro _
  refine WL.r rfl rfl rfl (rd_assign rfl rfl) ?_
  refine WL.nil ?_
  refine WX.then_normal ?_
  refine WC.ret ?_
  exact WX.ret1 rfl rfl fun w' hS => ⟨rfl, hS.below⟩

theorem rnh_ok (a b : Bs) (ha : a.length ≤ 400000) (hb : b.length ≤ 400000) (w : World) :
    Calls Try.prog 30 #[.string (S a), .string (S b)] w fun e w' => e = .returned (.string (S (nodeH a b))) ∧ Below w.heap.size w w' := by
  refine enter (S := St (fun _ => True) w [] []) (L := [(0, .string (S a)), (1, .string (S b))]) Try.func30 rfl Try.ntmps30 rfl (args_cons rfl (args_cons rfl (args_nil _))) (St.start (fun _ _ => trivial) (by simp)) ?_
  refine WC.seq ?_
  refine WC.region ?_
  refine WL.r rfl rfl rfl (rd_assign rfl rfl) ?_
  refine WL.nil ?_
  refine WX.then_normal ?_
  refine WC.seq ?_
  refine WC.region ?_
  refine WL.r rfl rfl rfl (rd_move rfl rfl) ?_
  refine WL.r rfl rfl rfl (rd_cat rfl rfl rfl ?_) ?_
  · (simp; omega)
  refine WL.r rfl rfl rfl (rd_move rfl rfl) ?_
  refine WL.r rfl rfl rfl (rd_cat rfl rfl rfl ?_) ?_
  · (simp; omega)
  refine WL.g rfl rfl rfl (og_call rfl rfl (by kernel_rfl) (keep_val fun w _ => rsum_ok (([1] ++ a) ++ b) (by simp; omega) w)) ?_
  intro _
  refine WL.r rfl rfl rfl (rd_assign rfl rfl) ?_
  refine WL.nil ?_
  refine WX.then_normal ?_
  refine WC.ret ?_
  exact WX.ret1 rfl rfl fun w' hS => ⟨rfl, hS.below⟩

theorem half_ok (n : Nat) (h2 : 2 ≤ n) (hn : n ≤ 2305843009213693952) (w : World) :
    Calls Try.prog 25 #[.int .i64 (n : Int)] w fun e w' => e = .returned (.int .i64 (half n : Int)) ∧ Below w.heap.size w w' := by
  refine enter (S := St (fun _ => True) w [] []) (L := [(0, .int .i64 (n : Int))]) Try.func25 rfl Try.ntmps25 rfl (args_cons rfl (args_nil _)) (St.start (fun _ _ => trivial) (by simp)) ?_
  refine WC.seq ?_
  refine WC.region ?_
  refine WL.r rfl rfl rfl (rd_assign rfl rfl) ?_
  refine WL.nil ?_
  refine WX.then_normal ?_
  refine WC.seq ?_
  refine WC.region ?_
  refine WL.r rfl rfl rfl (rd_assign rfl rfl) ?_
  refine WL.nil ?_
  refine WX.then_normal ?_
  refine WC.seq ?_
  refine WC.seq ?_
  refine WC.region ?_
  refine WL.r rfl rfl rfl (rd_move rfl rfl) ?_
  refine WL.nil ?_
  refine WX.then_normal ?_
  refine WC.block ?_
  refine WC.loop (σ := Nat × Nat) (fun g => [(0, .int .i64 (n : Int)), (3, .int .i64 (g.2 : Int)), (4, .int .i64 (g.1 : Int))]) (fun g w' => (g.1 ≤ 62 ∧ 0 < g.2 ∧ g.2 < n ∧ halfF (62 - g.1) n g.2 = half n) ∧ St (fun _ => True) w [] [] w') (fun g => 62 - g.1) (0, 1) (by repeat (first | exact sub_nil _ | refine sub_cons rfl ?_)) (fun w' h => ⟨⟨by decide, by decide, by show 1 < n; omega, rfl⟩, h⟩) ?_
  rintro ⟨j, k⟩; dsimp only; refine WC.pu ?_; rintro ⟨hj, hk0, hkn, hinv⟩
  refine WC.seq ?_
  refine WC.region ?_
  refine WL.r rfl rfl rfl (rd_lss rfl rfl rfl) ?_
  refine WL.nil ?_
  refine WX.then_normal ?_
  refine WC.seq ?_
  refine WC.cond rfl (fun hc5 => ?_) (fun hc5 => ?_)
  · (try simp only [decide_eq_true_eq, decide_eq_false_iff_not, Bool.not_eq_true', Bool.not_eq_false', Bool.not_not, Int.not_lt, Int.not_le] at hc5)
    refine WC.skip ?_
    refine WX.then_normal ?_
    refine WC.seq ?_
    refine WC.block ?_
    refine WC.seq ?_
    refine WC.seq ?_
    refine WC.region ?_
    refine WL.r rfl rfl rfl (rd_move rfl rfl) ?_
    refine WL.r rfl rfl rfl (rd_move rfl rfl) ?_
    refine WL.r rfl rfl rfl (rd_move rfl rfl) ?_
    first
      | (refine WL.r rfl rfl rfl (rd_sub64n rfl rfl rfl ?_) ?_; focus (omega))
      | (refine WL.r rfl rfl rfl (rd_sub64 rfl rfl rfl ?_) ?_; focus (omega))
    refine WL.r rfl rfl rfl (rd_geq rfl rfl rfl) ?_
    refine WL.nil ?_
    refine WX.then_normal ?_
    refine WC.cond rfl (fun hc10 => ?_) (fun hc10 => ?_)
    · (try simp only [decide_eq_true_eq, decide_eq_false_iff_not, Bool.not_eq_true', Bool.not_eq_false', Bool.not_not, Int.not_lt, Int.not_le] at hc10)
      have hkk : half n = k := by rw [← hinv]; exact halfF_stop _ _ _ (by omega)
      refine WC.exit ?_
      refine WX.then_exit ?_
      refine WX.block_other rfl ?_
      refine WX.then_exit ?_
      refine WX.then_exit ?_
      refine WX.block_exit ?_
      refine WX.then_normal ?_
      refine WC.seq ?_
      refine WC.region ?_
      refine WL.r rfl rfl rfl (rd_move rfl rfl) ?_
      refine WL.r rfl rfl rfl (rd_assign rfl rfl) ?_
      refine WL.nil ?_
      refine WX.then_normal ?_
      refine WC.ret ?_
      exact WX.ret1 rfl rfl fun w' hS => ⟨by rw [hkk], hS.below⟩
    · (try simp only [decide_eq_true_eq, decide_eq_false_iff_not, Bool.not_eq_true', Bool.not_eq_false', Bool.not_not, Int.not_lt, Int.not_le] at hc10)
      refine WC.skip ?_
      refine WX.then_normal ?_
      refine WC.region ?_
      refine WL.r rfl rfl rfl (rd_move rfl rfl) ?_
      first
        | (refine WL.r rfl rfl rfl (rd_mul64nl rfl rfl rfl ?_) ?_; focus (omega))
        | (refine WL.r rfl rfl rfl (rd_mul64 rfl rfl rfl ?_) ?_; focus (omega))
      refine WL.r rfl rfl rfl (rd_assign rfl rfl) ?_
      refine WL.nil ?_
      refine WX.block_normal ?_
      refine WX.then_normal ?_
      refine WC.region ?_
      first
        | (refine WL.r rfl rfl rfl (rd_add64nl rfl rfl rfl ?_) ?_; focus (omega))
        | (refine WL.r rfl rfl rfl (rd_add64 rfl rfl rfl ?_) ?_; focus (omega))
      refine WL.r rfl rfl rfl (rd_move rfl rfl) ?_
      refine WL.nil ?_
      exact WX.loop (j + 1, k * 2) (by show 62 - (j + 1) < 62 - j; omega) (by repeat (first | exact sub_nil _ | refine sub_cons rfl ?_)) (fun w' h => ⟨⟨by show j + 1 ≤ 62; omega, by show 0 < k * 2; omega, by show k * 2 < n; omega, by show halfF (62 - (j + 1)) n (k * 2) = half n; rw [← hinv, show 62 - j = (62 - (j + 1)) + 1 by omega, halfF_turn _ _ _ (by omega), Nat.mul_comm]⟩, h⟩)
  · (try simp only [decide_eq_true_eq, decide_eq_false_iff_not, Bool.not_eq_true', Bool.not_eq_false', Bool.not_not, Int.not_lt, Int.not_le] at hc5)
    have hkk : half n = k := by rw [← hinv, show 62 - j = 0 by omega]; rfl
    refine WC.exit ?_
    refine WX.then_exit ?_
    refine WX.then_exit ?_
    refine WX.block_exit ?_
    refine WX.then_normal ?_
    refine WC.seq ?_
    refine WC.region ?_
    refine WL.r rfl rfl rfl (rd_move rfl rfl) ?_
    refine WL.r rfl rfl rfl (rd_assign rfl rfl) ?_
    refine WL.nil ?_
    refine WX.then_normal ?_
    refine WC.ret ?_
    exact WX.ret1 rfl rfl fun w' hS => ⟨by rw [hkk], hS.below⟩

theorem rhalf_ok (n : Nat) (h2 : 2 ≤ n) (hn : n ≤ 2305843009213693952) (w : World) :
    Calls Try.prog 29 #[.int .i64 (n : Int)] w fun e w' => e = .returned (.int .i64 (half n : Int)) ∧ Below w.heap.size w w' := by
  refine enter (S := St (fun _ => True) w [] []) (L := [(0, .int .i64 (n : Int))]) Try.func29 rfl Try.ntmps29 rfl (args_cons rfl (args_nil _)) (St.start (fun _ _ => trivial) (by simp)) ?_
  refine WC.seq ?_
  refine WC.region ?_
  refine WL.r rfl rfl rfl (rd_assign rfl rfl) ?_
  refine WL.nil ?_
  refine WX.then_normal ?_
  refine WC.seq ?_
  refine WC.region ?_
  refine WL.r rfl rfl rfl (rd_assign rfl rfl) ?_
  refine WL.nil ?_
  refine WX.then_normal ?_
  refine WC.seq ?_
  refine WC.block ?_
  refine WC.loop (σ := Nat) (fun k => [(0, .int .i64 (n : Int)), (3, .int .i64 (k : Int))]) (fun k w' => (0 < k ∧ k < n ∧ halfF 62 n k = half n) ∧ St (fun _ => True) w [] [] w') (fun k => n - k) 1 (by repeat (first | exact sub_nil _ | refine sub_cons rfl ?_)) (fun w' h => ⟨⟨by decide, by omega, rfl⟩, h⟩) ?_
  intro k; refine WC.pu ?_; rintro ⟨hk0, hkn, hinv⟩
  refine WC.seq ?_
  refine WC.seq ?_
  refine WC.region ?_
  refine WL.r rfl rfl rfl (rd_move rfl rfl) ?_
  first
    | (refine WL.r rfl rfl rfl (rd_mul64ln rfl rfl rfl ?_) ?_; focus (omega))
    | (refine WL.r rfl rfl rfl (rd_mul64 rfl rfl rfl ?_) ?_; focus (omega))
  refine WL.r rfl rfl rfl (rd_move rfl rfl) ?_
  refine WL.r rfl rfl rfl (rd_lss rfl rfl rfl) ?_
  refine WL.nil ?_
  refine WX.then_normal ?_
  refine WC.cond rfl (fun hc7 => ?_) (fun hc7 => ?_)
  · (try simp only [decide_eq_true_eq, decide_eq_false_iff_not, Bool.not_eq_true', Bool.not_eq_false', Bool.not_not, Int.not_lt, Int.not_le] at hc7)
    refine WC.skip ?_
    refine WX.then_normal ?_
    refine WC.block ?_
    refine WC.region ?_
    refine WL.r rfl rfl rfl (rd_move rfl rfl) ?_
    first
      | (refine WL.r rfl rfl rfl (rd_mul64ln rfl rfl rfl ?_) ?_; focus (omega))
      | (refine WL.r rfl rfl rfl (rd_mul64 rfl rfl rfl ?_) ?_; focus (omega))
    refine WL.r rfl rfl rfl (rd_assign rfl rfl) ?_
    refine WL.nil ?_
    refine WX.block_normal ?_
    exact WX.loop (2 * k) (by omega) (by repeat (first | exact sub_nil _ | refine sub_cons rfl ?_)) (fun w' h => ⟨⟨by omega, by omega, by rw [← hinv]; exact ((halfF_turn 61 n k (by omega)).trans (halfF_fuel 61 62 n (2 * k) (by omega) (by omega))).symm⟩, h⟩)
  · (try simp only [decide_eq_true_eq, decide_eq_false_iff_not, Bool.not_eq_true', Bool.not_eq_false', Bool.not_not, Int.not_lt, Int.not_le] at hc7)
    refine WC.exit ?_
    refine WX.then_exit ?_
    refine WX.then_exit ?_
    refine WX.block_exit ?_
    refine WX.then_normal ?_
    refine WC.seq ?_
    refine WC.region ?_
    refine WL.r rfl rfl rfl (rd_move rfl rfl) ?_
    refine WL.r rfl rfl rfl (rd_assign rfl rfl) ?_
    refine WL.nil ?_
    refine WX.then_normal ?_
    refine WC.ret ?_
    exact WX.ret1 rfl rfl fun w' hS => ⟨by rw [← hinv, halfF_stop _ _ _ (by omega)], hS.below⟩

theorem root_len (l : List Bs) (hl : l.length ≤ 1000000) : (root l).length = 32 := by
  by_cases h0 : l.length = 0
  · rw [List.eq_nil_of_length_eq_zero h0, root_nil, sha_len]
  by_cases h1 : l.length = 1
  · obtain ⟨s, rfl⟩ := List.length_eq_one_iff.1 h1
    rw [root_one, leafH, sha_len]
  rw [root_two l (by omega) hl, nodeH, sha_len]

def RootOk (f : FuncId) (l : List Bs) : Prop :=
  l.length ≤ 1000000 → (∀ s ∈ l, s.length ≤ 900000) → ∀ (a : Option Addr) (m cap : Nat), m = l.length → m ≤ cap → ∀ (ok : Nat → Prop) (w : World), (Fact.sl a (strs l)).holds ok w →
    Calls Try.prog f #[.slice a m cap] w fun e w' => e = .returned (.string (S (root l))) ∧ Below w.heap.size w w'

theorem root_step (l : List Bs) (ih : ∀ l' : List Bs, l'.length < l.length → RootOk 12 l') : RootOk 12 l := by
  intro hl hs a m cap hm hcap ok w hF
  subst hm
  refine enter (S := St (fun _ => True) w [] [Fact.sl a (strs l)]) (L := [(0, .slice a l.length cap)]) Try.func12 rfl Try.ntmps12 rfl (args_cons rfl (args_nil _)) (St.start (fun _ _ => trivial) (by simpa using sl_any hF)) ?_
  refine WC.seq ?_
  refine WC.region ?_
  refine WL.r rfl rfl rfl (rd_assign rfl rfl) ?_
  refine WL.nil ?_
  refine WX.then_normal ?_
  refine WC.seq ?_
  refine WC.seq ?_
  refine WC.region ?_
  refine WL.r rfl rfl rfl (rd_move rfl rfl) ?_
  refine WL.r rfl rfl rfl (rd_len rfl rfl Try.underlying22) ?_
  refine WL.nil ?_
  refine WX.then_normal ?_
  refine WC.block ?_
  refine WC.seq ?_
  refine WC.region ?_
  refine WL.r rfl rfl rfl (rd_eql rfl rfl rfl) ?_
  refine WL.r rfl rfl rfl (rd_assign rfl rfl) ?_
  refine WL.nil ?_
  refine WX.then_normal ?_
  refine WC.cond rfl (fun hc6 => ?_) (fun hc6 => ?_)
  · (try simp only [decide_eq_true_eq, decide_eq_false_iff_not, Bool.not_eq_true', Bool.not_eq_false', Bool.not_not, Int.not_lt, Int.not_le] at hc6)
    obtain rfl : l = [] := List.eq_nil_of_length_eq_zero (by omega)
    refine WC.seq ?_
    refine WC.region ?_
    refine WL.g rfl rfl rfl (og_call rfl rfl (by kernel_rfl) (keep_val fun w _ => sum_ok [] (by decide) w)) ?_
    intro _
    refine WL.r rfl rfl rfl (rd_assign rfl rfl) ?_
    refine WL.nil ?_
    refine WX.then_normal ?_
    refine WC.ret ?_
    refine WX.block_ret ?_
    refine WX.then_ret ?_
    exact WX.ret1 rfl rfl fun w' hS => ⟨rfl, hS.below⟩
  · (try simp only [decide_eq_true_eq, decide_eq_false_iff_not, Bool.not_eq_true', Bool.not_eq_false', Bool.not_not, Int.not_lt, Int.not_le] at hc6)
    obtain ⟨b, off, rfl⟩ := sl_addr hF (by rw [strs_len]; omega)
    refine WC.seq ?_
    refine WC.region ?_
    refine WL.r rfl rfl rfl (rd_eql rfl rfl rfl) ?_
    refine WL.r rfl rfl rfl (rd_assign rfl rfl) ?_
    refine WL.nil ?_
    refine WX.then_normal ?_
    refine WC.cond rfl (fun hc9 => ?_) (fun hc9 => ?_)
    · (try simp only [decide_eq_true_eq, decide_eq_false_iff_not, Bool.not_eq_true', Bool.not_eq_false', Bool.not_not, Int.not_lt, Int.not_le] at hc9)
      obtain ⟨s, rfl⟩ := List.length_eq_one_iff.1 (show l.length = 1 by omega)
      refine WC.seq ?_
      refine WC.region ?_
      refine WL.r rfl rfl rfl (rd_move rfl rfl) ?_
      refine WL.r rfl rfl rfl (rd_ia rfl rfl rfl Try.underlying22 (by kernel_rfl : _ = some 1) ?_ (by (try simp only [Int.toNat_natCast, Nat.mul_one, Nat.zero_add, Nat.add_zero, Nat.zero_mul, Int.reduceToNat, Nat.reduceAdd, Nat.reduceMul, Nat.reduceSub, Nat.sub_zero]); rfl)) ?_
      · simp
      refine WL.r rfl rfl rfl (ldf rfl rfl (by first | exact .here | exact .t1 | exact .t2 | exact .t3 | exact .t4 | exact .t5 | exact .t6 | exact .t7) Try.underlying9 rfl (m := 0) rfl rfl) ?_
      refine WL.g rfl rfl rfl (og_call rfl rfl (by kernel_rfl) (keep_val fun w _ => lh_ok s (hs s (by simp)) w)) ?_
      intro _
      refine WL.r rfl rfl rfl (rd_assign rfl rfl) ?_
      refine WL.nil ?_
      refine WX.then_normal ?_
      refine WC.ret ?_
      refine WX.block_ret ?_
      refine WX.then_ret ?_
      exact WX.ret1 rfl rfl fun w' hS => ⟨rfl, hS.below⟩
    · (try simp only [decide_eq_true_eq, decide_eq_false_iff_not, Bool.not_eq_true', Bool.not_eq_false', Bool.not_not, Int.not_lt, Int.not_le] at hc9)
      have hh := half_spec l.length (by omega) (by omega)
      refine WC.skip ?_
      refine WX.block_normal ?_
      refine WX.then_normal ?_
      refine WC.seq ?_
      refine WC.region ?_
      refine WL.r rfl rfl rfl (rd_move rfl rfl) ?_
      refine WL.r rfl rfl rfl (rd_len rfl rfl Try.underlying22) ?_
      refine WL.g rfl rfl rfl (og_call rfl rfl (by kernel_rfl) (keep_val fun w _ => half_ok l.length (by omega) (by omega) w)) ?_
      intro _
      refine WL.r rfl rfl rfl (rd_assign rfl rfl) ?_
      refine WL.nil ?_
      refine WX.then_normal ?_
      refine WC.seq ?_
      refine WC.mix [0, 0, 0, 1, 0, 0, 0, 1, 1, 0] (by kernel_rfl) (by kernel_rfl) (fun w h => h.draw) ?_
      refine WM.r rfl rfl rfl (rd_move rfl rfl) ?_
      refine WM.r rfl rfl rfl (rd_move rfl rfl) ?_
      refine WM.r rfl rfl rfl (rd_slt rfl rfl rfl Try.underlying22 (by kernel_rfl : _ = some 1) ?_ (by (try simp only [Int.toNat_natCast, Nat.mul_one, Nat.zero_add, Nat.add_zero, Nat.zero_mul, Int.reduceToNat, Nat.reduceAdd, Nat.reduceMul, Nat.reduceSub, Nat.sub_zero]); rfl)) ?_
      · omega
      refine WM.g rfl rfl rfl (og_call rfl rfl (by kernel_rfl) (keep_val fun w hS => ih (l.take (half l.length)) (by simp; omega) (by simp; omega) (fun s h => hs s (List.mem_of_mem_take h)) _ _ _ (by simp; omega) (by omega) _ w (strs_take l _ ▸ sl_take _ (hS.fact _ (by simp))))) (fun _ _ h => by first | exact h | exact ⟨_, h⟩ | exact ⟨_, h.2⟩ | exact h.2 | exact h.sub (by repeat (first | exact List.Sublist.refl _ | apply List.Sublist.cons)) (fun _ h => by simp [*]) | exact h.2.sub (by repeat (first | exact List.Sublist.refl _ | apply List.Sublist.cons)) (fun _ h => by simp [*])) ?_
      intro _
      refine WM.r rfl rfl rfl (rd_move rfl rfl) ?_
      refine WM.r rfl rfl rfl (rd_move rfl rfl) ?_
      refine WM.r rfl rfl rfl (rd_slfn rfl rfl rfl Try.underlying22 (by kernel_rfl : _ = some 1) ?_ (by (try simp only [Int.toNat_natCast, Nat.mul_one, Nat.zero_add, Nat.add_zero, Nat.zero_mul, Int.reduceToNat, Nat.reduceAdd, Nat.reduceMul, Nat.reduceSub, Nat.sub_zero]); rfl) (by (try simp only [Int.toNat_natCast, Nat.mul_one, Nat.zero_add, Nat.add_zero, Nat.zero_mul, Int.reduceToNat, Nat.reduceAdd, Nat.reduceMul, Nat.reduceSub, Nat.sub_zero]); rfl) (by (try simp only [Int.toNat_natCast, Nat.mul_one, Nat.zero_add, Nat.add_zero, Nat.zero_mul, Int.reduceToNat, Nat.reduceAdd, Nat.reduceMul, Nat.reduceSub, Nat.sub_zero]); rfl)) ?_
      · omega
      refine WM.g rfl rfl rfl (og_call rfl rfl (by kernel_rfl) (keep_val fun w hS => ih (l.drop (half l.length)) (by simp; omega) (by simp; omega) (fun s h => hs s (List.mem_of_mem_drop h)) _ _ _ (by simp) (by omega) _ w (strs_drop l _ ▸ sl_drop _ (hS.fact _ (by simp))))) (fun _ _ h => by first | exact h | exact ⟨_, h⟩ | exact ⟨_, h.2⟩ | exact h.2 | exact h.sub (by repeat (first | exact List.Sublist.refl _ | apply List.Sublist.cons)) (fun _ h => by simp [*]) | exact h.2.sub (by repeat (first | exact List.Sublist.refl _ | apply List.Sublist.cons)) (fun _ h => by simp [*])) ?_
      intro _
      refine WM.g rfl rfl rfl (og_call rfl rfl (by kernel_rfl) (keep_val fun w hS => nh_ok _ _ (by rw [root_len _ (by simp; omega)]; omega) (by rw [root_len _ (by simp; omega)]; omega) w)) (fun _ _ h => by first | exact h | exact ⟨_, h⟩ | exact ⟨_, h.2⟩ | exact h.2 | exact h.sub (by repeat (first | exact List.Sublist.refl _ | apply List.Sublist.cons)) (fun _ h => by simp [*]) | exact h.2.sub (by repeat (first | exact List.Sublist.refl _ | apply List.Sublist.cons)) (fun _ h => by simp [*])) ?_
      intro _
      refine WM.r rfl rfl rfl (rd_assign rfl rfl) ?_
      refine WM.set 2 rfl (v' := .string (S (root l))) (by rw [root_two l (by omega) hl]) ?_
      refine WM.nil ?_
      refine WX.then_normal ?_
      refine WC.ret ?_
      exact WX.ret1 rfl rfl fun w' hS => ⟨rfl, hS.below⟩

theorem rroot_step (l : List Bs) (ih : ∀ l' : List Bs, l'.length < l.length → RootOk 13 l') : RootOk 13 l := by
  intro hl hs a m cap hm hcap ok w hF
  subst hm
  refine enter (S := St (fun _ => True) w [] [Fact.sl a (strs l)]) (L := [(0, .slice a l.length cap)]) Try.func13 rfl Try.ntmps13 rfl (args_cons rfl (args_nil _)) (St.start (fun _ _ => trivial) (by simpa using sl_any hF)) ?_
  refine WC.seq ?_
  refine WC.region ?_
  refine WL.r rfl rfl rfl (rd_assign rfl rfl) ?_
  refine WL.nil ?_
  refine WX.then_normal ?_
  refine WC.seq ?_
  refine WC.region ?_
  refine WL.r rfl rfl rfl (rd_move rfl rfl) ?_
  refine WL.r rfl rfl rfl (rd_len rfl rfl Try.underlying22) ?_
  refine WL.r rfl rfl rfl (rd_assign rfl rfl) ?_
  refine WL.nil ?_
  refine WX.then_normal ?_
  refine WC.seq ?_
  refine WC.seq ?_
  refine WC.region ?_
  refine WL.r rfl rfl rfl (rd_move rfl rfl) ?_
  refine WL.r rfl rfl rfl (rd_eql rfl rfl rfl) ?_
  refine WL.nil ?_
  refine WX.then_normal ?_
  refine WC.cond rfl (fun hc8 => ?_) (fun hc8 => ?_)
  · (try simp only [decide_eq_true_eq, decide_eq_false_iff_not, Bool.not_eq_true', Bool.not_eq_false', Bool.not_not, Int.not_lt, Int.not_le] at hc8)
    obtain rfl : l = [] := List.eq_nil_of_length_eq_zero (by omega)
    refine WC.seq ?_
    refine WC.region ?_
    refine WL.g rfl rfl rfl (og_call rfl rfl (by kernel_rfl) (keep_val fun w _ => rsum_ok [] (by decide) w)) ?_
    intro _
    refine WL.r rfl rfl rfl (rd_assign rfl rfl) ?_
    refine WL.nil ?_
    refine WX.then_normal ?_
    refine WC.ret ?_
    refine WX.then_ret ?_
    exact WX.ret1 rfl rfl fun w' hS => ⟨rfl, hS.below⟩
  · (try simp only [decide_eq_true_eq, decide_eq_false_iff_not, Bool.not_eq_true', Bool.not_eq_false', Bool.not_not, Int.not_lt, Int.not_le] at hc8)
    obtain ⟨b, off, rfl⟩ := sl_addr hF (by rw [strs_len]; omega)
    refine WC.skip ?_
    refine WX.then_normal ?_
    refine WC.seq ?_
    refine WC.seq ?_
    refine WC.region ?_
    refine WL.r rfl rfl rfl (rd_move rfl rfl) ?_
    refine WL.r rfl rfl rfl (rd_eql rfl rfl rfl) ?_
    refine WL.nil ?_
    refine WX.then_normal ?_
    refine WC.cond rfl (fun hc11 => ?_) (fun hc11 => ?_)
    · (try simp only [decide_eq_true_eq, decide_eq_false_iff_not, Bool.not_eq_true', Bool.not_eq_false', Bool.not_not, Int.not_lt, Int.not_le] at hc11)
      obtain ⟨s, rfl⟩ := List.length_eq_one_iff.1 (show l.length = 1 by omega)
      refine WC.seq ?_
      refine WC.region ?_
      refine WL.r rfl rfl rfl (rd_move rfl rfl) ?_
      refine WL.r rfl rfl rfl (rd_ia rfl rfl rfl Try.underlying22 (by kernel_rfl : _ = some 1) ?_ (by (try simp only [Int.toNat_natCast, Nat.mul_one, Nat.zero_add, Nat.add_zero, Nat.zero_mul, Int.reduceToNat, Nat.reduceAdd, Nat.reduceMul, Nat.reduceSub, Nat.sub_zero]); rfl)) ?_
      · simp
      refine WL.r rfl rfl rfl (ldf rfl rfl (by first | exact .here | exact .t1 | exact .t2 | exact .t3 | exact .t4 | exact .t5 | exact .t6 | exact .t7) Try.underlying9 rfl (m := 0) rfl rfl) ?_
      refine WL.g rfl rfl rfl (og_call rfl rfl (by kernel_rfl) (keep_val fun w _ => rlh_ok s (hs s (by simp)) w)) ?_
      intro _
      refine WL.r rfl rfl rfl (rd_assign rfl rfl) ?_
      refine WL.nil ?_
      refine WX.then_normal ?_
      refine WC.ret ?_
      refine WX.then_ret ?_
      exact WX.ret1 rfl rfl fun w' hS => ⟨rfl, hS.below⟩
    · (try simp only [decide_eq_true_eq, decide_eq_false_iff_not, Bool.not_eq_true', Bool.not_eq_false', Bool.not_not, Int.not_lt, Int.not_le] at hc11)
      have hh := half_spec l.length (by omega) (by omega)
      refine WC.skip ?_
      refine WX.then_normal ?_
      refine WC.seq ?_
      refine WC.region ?_
      refine WL.r rfl rfl rfl (rd_move rfl rfl) ?_
      refine WL.g rfl rfl rfl (og_call rfl rfl (by kernel_rfl) (keep_val fun w _ => rhalf_ok l.length (by omega) (by omega) w)) ?_
      intro _
      refine WL.r rfl rfl rfl (rd_assign rfl rfl) ?_
      refine WL.nil ?_
      refine WX.then_normal ?_
      refine WC.seq ?_
      refine WC.mix [0, 0, 0, 1, 0, 0, 0, 1, 1, 0] (by kernel_rfl) (by kernel_rfl) (fun w h => h.draw) ?_
      refine WM.r rfl rfl rfl (rd_move rfl rfl) ?_
      refine WM.r rfl rfl rfl (rd_move rfl rfl) ?_
      refine WM.r rfl rfl rfl (rd_slt rfl rfl rfl Try.underlying22 (by kernel_rfl : _ = some 1) ?_ (by (try simp only [Int.toNat_natCast, Nat.mul_one, Nat.zero_add, Nat.add_zero, Nat.zero_mul, Int.reduceToNat, Nat.reduceAdd, Nat.reduceMul, Nat.reduceSub, Nat.sub_zero]); rfl)) ?_
      · omega
      refine WM.g rfl rfl rfl (og_call rfl rfl (by kernel_rfl) (keep_val fun w hS => ih (l.take (half l.length)) (by simp; omega) (by simp; omega) (fun s h => hs s (List.mem_of_mem_take h)) _ _ _ (by simp; omega) (by omega) _ w (strs_take l _ ▸ sl_take _ (hS.fact _ (by simp))))) (fun _ _ h => by first | exact h | exact ⟨_, h⟩ | exact ⟨_, h.2⟩ | exact h.2 | exact h.sub (by repeat (first | exact List.Sublist.refl _ | apply List.Sublist.cons)) (fun _ h => by simp [*]) | exact h.2.sub (by repeat (first | exact List.Sublist.refl _ | apply List.Sublist.cons)) (fun _ h => by simp [*])) ?_
      intro _
      refine WM.r rfl rfl rfl (rd_move rfl rfl) ?_
      refine WM.r rfl rfl rfl (rd_move rfl rfl) ?_
      refine WM.r rfl rfl rfl (rd_slfn rfl rfl rfl Try.underlying22 (by kernel_rfl : _ = some 1) ?_ (by (try simp only [Int.toNat_natCast, Nat.mul_one, Nat.zero_add, Nat.add_zero, Nat.zero_mul, Int.reduceToNat, Nat.reduceAdd, Nat.reduceMul, Nat.reduceSub, Nat.sub_zero]); rfl) (by (try simp only [Int.toNat_natCast, Nat.mul_one, Nat.zero_add, Nat.add_zero, Nat.zero_mul, Int.reduceToNat, Nat.reduceAdd, Nat.reduceMul, Nat.reduceSub, Nat.sub_zero]); rfl) (by (try simp only [Int.toNat_natCast, Nat.mul_one, Nat.zero_add, Nat.add_zero, Nat.zero_mul, Int.reduceToNat, Nat.reduceAdd, Nat.reduceMul, Nat.reduceSub, Nat.sub_zero]); rfl)) ?_
      · omega
      refine WM.g rfl rfl rfl (og_call rfl rfl (by kernel_rfl) (keep_val fun w hS => ih (l.drop (half l.length)) (by simp; omega) (by simp; omega) (fun s h => hs s (List.mem_of_mem_drop h)) _ _ _ (by simp) (by omega) _ w (strs_drop l _ ▸ sl_drop _ (hS.fact _ (by simp))))) (fun _ _ h => by first | exact h | exact ⟨_, h⟩ | exact ⟨_, h.2⟩ | exact h.2 | exact h.sub (by repeat (first | exact List.Sublist.refl _ | apply List.Sublist.cons)) (fun _ h => by simp [*]) | exact h.2.sub (by repeat (first | exact List.Sublist.refl _ | apply List.Sublist.cons)) (fun _ h => by simp [*])) ?_
      intro _
      refine WM.g rfl rfl rfl (og_call rfl rfl (by kernel_rfl) (keep_val fun w hS => rnh_ok _ _ (by rw [root_len _ (by simp; omega)]; omega) (by rw [root_len _ (by simp; omega)]; omega) w)) (fun _ _ h => by first | exact h | exact ⟨_, h⟩ | exact ⟨_, h.2⟩ | exact h.2 | exact h.sub (by repeat (first | exact List.Sublist.refl _ | apply List.Sublist.cons)) (fun _ h => by simp [*]) | exact h.2.sub (by repeat (first | exact List.Sublist.refl _ | apply List.Sublist.cons)) (fun _ h => by simp [*])) ?_
      intro _
      refine WM.r rfl rfl rfl (rd_assign rfl rfl) ?_
      refine WM.set 2 rfl (v' := .string (S (root l))) (by rw [root_two l (by omega) hl]) ?_
      refine WM.nil ?_
      refine WX.then_normal ?_
      refine WC.ret ?_
      exact WX.ret1 rfl rfl fun w' hS => ⟨rfl, hS.below⟩

theorem root_ok (l : List Bs) : RootOk 12 l := by
  have key : ∀ n (l : List Bs), l.length = n → RootOk 12 l := by
    intro n
    induction n using Nat.strongRecOn with
    | _ n ih => intro l hl; exact root_step l fun l' h => ih l'.length (by omega) l' rfl
  exact key _ l rfl
theorem rroot_ok (l : List Bs) : RootOk 13 l := by
  have key : ∀ n (l : List Bs), l.length = n → RootOk 13 l := by
    intro n
    induction n using Nat.strongRecOn with
    | _ n ih => intro l hl; exact rroot_step l fun l' h => ih l'.length (by omega) l' rfl
  exact key _ l rfl
end Go.Proofs.Ytenjafedpcpoaaa
