/-
  modular: the reference's arithmetic.
-/
import Derived.Test.YtbcnnkcddilfjaaGreatMo2
import Derived.Test.YtbcnnkcddilfjaaGreatInt3
namespace Go.Proofs.YtbcnnkcddilfjaaGreat
set_option linter.unusedSimpArgs false
set_option linter.unusedVariables false
set_option maxRecDepth 20000
set_option maxHeartbeats 600000
open Go.RowKit

theorem one_canon : canon 1 = [1] := by decide +kernel
theorem canon_one {n : Nat} : canon n = [1] ↔ n = 1 := by rw [← one_canon, canon_inj]
/-! the reference's -/
theorem rcheck_c {l : List Bs} {m : Bs} {a : Option Addr} {c : Nat} {w : World} {ok : Nat → Prop} (hF1 : (Fact.sl a (strs (l ++ [m]))).holds ok w) (hl : l.length ≤ 1000) :
    Calls Tryz.prog 85 #[.slice a (l ++ [m]).length c] w fun e w' => e = .returned (.int .i64 (chkM l [m])) ∧ Below w.heap.size w w' := by
  have hlen : (l ++ [m]).length = l.length + 1 := by simp
  refine enter (S := St (fun _ => True) w [] ([Fact.sl a (strs (l ++ [m]))])) (L := [(0, .slice a (l ++ [m]).length c)]) Tryz.func85 rfl Tryz.ntmps85 rfl (args_cons rfl (args_nil _)) (St.start (fun _ _ => trivial) (facts_cons (fact_any hF1) facts_nil)) ?_
  refine WC.sr ?_
  refine WL.r rfl rfl rfl (rd_assign rfl rfl) ?_
  refine WL.nt ?_
  refine WC.seq ?_
  refine WC.sr ?_
  refine WL.r rfl rfl rfl (rd_assign rfl rfl) ?_
  refine WL.nt ?_
  refine WC.block ?_
  refine WC.loopP (σ := Nat) [(0, _)] (fun g => [(3, .int .i64 (g : Int))]) (fun g => g ≤ (l ++ [m]).length ∧ ∀ x ∈ (l ++ [m]).take g, okN x) (fun g => (l ++ [m]).length - g) (0) (sub_cons rfl (sub_nil _)) (sub_cons rfl (sub_nil _)) (by (try dsimp only); exact ⟨Nat.zero_le _, by simp⟩) ?_
  rintro i hinv1; (try dsimp only at hinv1 ⊢)
  obtain ⟨hi, hok⟩ := hinv1
  refine WC.seq ?_
  refine WC.sr ?_
  refine WL.r rfl rfl rfl (rd_move rfl rfl) ?_
  refine WL.r rfl rfl rfl (rd_move rfl rfl) ?_
  refine WL.r rfl rfl rfl (rd_len rfl rfl Tryz.underlying31) ?_
  refine WL.r rfl rfl rfl (rd_lss rfl rfl rfl) ?_
  refine WL.nt ?_
  refine WC.cond rfl (fun hc7 => ?_) (fun hc7 => ?_)
  · (try simp only [sB] at hc7)
    have hil : i < (l ++ [m]).length := by omega
    refine WC.skip ?_
    refine WX.then_normal ?_
    refine WC.seq ?_
    refine WC.block ?_
    refine WC.sr ?_
    refine WL.r rfl rfl rfl (rd_move rfl rfl) ?_
    refine WL.r rfl rfl rfl (rd_move rfl rfl) ?_
    (refine WL.r rfl rfl rfl (iaf rfl rfl rfl Tryz.underlying31 (by kernel_rfl : _ = some 1) ?_ ?_ (by (try simp only [sN, Int.reduceToNat, Nat.reduceAdd, Nat.reduceMul, Nat.reduceSub]); rfl)) ?_; (focus (omega)); (focus ((rw [List.length_map]; omega))))
    (refine WL.r rfl rfl rfl (ldm rfl rfl Tryz.underlying22 rfl ?_) ?_; (focus (assumption)))
    refine WL.g rfl rfl rfl (og_call rfl rfl (by kernel_rfl) (keep_val fun w hS => rvalid_c (a := (l ++ [m]).getD i default))) ?_
    intro _
    refine WL.r rfl rfl rfl (rd_not rfl rfl) ?_
    refine WL.nt ?_
    refine WC.cond rfl (fun hc15 => ?_) (fun hc15 => ?_)
    · (try simp only [sB] at hc15)
      refine WC.sr ?_
      refine WL.r rfl rfl rfl (rd_assign rfl rfl) ?_
      refine WL.nt ?_
      refine WC.ret ?_
      refine WX.block_ret ?_
      refine WX.then_ret ?_
      refine WX.then_ret ?_
      refine WX.block_ret ?_
      refine WX.then_ret ?_
      exact WX.retN rfl (.tmp rfl .nil) fun w' hS => ⟨by rw [chkM, if_neg (fun h => absurd (h _ (getD_mem _ _ hil)) (by simpa using hc15))]; rfl, hS.below⟩
    · (try simp only [sB] at hc15)
      refine WC.skip ?_
      refine WX.block_normal ?_
      refine WX.then_normal ?_
      refine WC.region ?_
      refine WL.r rfl rfl rfl (rd_move rfl rfl) ?_
      (refine WL.r rfl rfl rfl (rd_add64nl rfl rfl rfl ?_) ?_; (focus (omega)))
      refine WL.r rfl rfl rfl (rd_assign rfl rfl) ?_
      refine WL.nil ?_
      refine WX.loopP (i + 1) (by (try dsimp only); omega) (sub_cons rfl (sub_nil _)) (by refine (sub_cons ?_ (sub_nil _)) <;> (rfl)) ?_ (by (exact fun _ h => h))
      (try dsimp only)
      exact ⟨hil, all_take hil hok (by simpa using hc15)⟩
  · (try simp only [sB] at hc7)
    refine WC.exit ?_
    refine WX.then_exit ?_
    refine WX.then_exit ?_
    refine WX.block_exit ?_
    have hall : ∀ x ∈ l ++ [m], okN x := by
      have e : i = (l ++ [m]).length := by omega
      subst e; rw [List.take_length] at hok; exact hok
    have hgl : (l ++ [m]).getD l.length default = m := by simp
    refine WX.then_normal ?_
    refine WC.seq ?_
    refine WC.sr ?_
    refine WL.r rfl rfl rfl (rd_move rfl rfl) ?_
    refine WL.r rfl rfl rfl (rd_move rfl rfl) ?_
    refine WL.r rfl rfl rfl (rd_len rfl rfl Tryz.underlying31) ?_
    (refine WL.r rfl rfl rfl (rd_sub64nl rfl rfl rfl ?_) ?_; (focus (omega)))
    (refine WL.r rfl rfl rfl (iaf rfl rfl rfl Tryz.underlying31 (by kernel_rfl : _ = some 1) ?_ ?_ (by (try simp only [sN, Int.reduceToNat, Nat.reduceAdd, Nat.reduceMul, Nat.reduceSub]); rfl)) ?_; (focus (omega)); (focus ((rw [List.length_map]; omega))))
    (refine WL.r rfl rfl rfl (ldm rfl rfl Tryz.underlying22 rfl ?_) ?_; (focus (omega)))
    refine WL.set 21 rfl (v' := .string (S (m))) (congrArg (fun l => Value.string (S l)) (by rw [hlen]; simp)) ?_
    refine WL.r rfl rfl rfl (rd_seq rfl rfl rfl) ?_
    refine WL.nt ?_
    refine WC.cond rfl (fun hc22 => ?_) (fun hc22 => ?_)
    · (try simp only [sB] at hc22)
      have hm0 : m = [] := by simpa using hc22
      refine WC.sr ?_
      refine WL.r rfl rfl rfl (rd_assign rfl rfl) ?_
      refine WL.nt ?_
      refine WC.ret ?_
      refine WX.then_ret ?_
      exact WX.retN rfl (.tmp rfl .nil) fun w' hS => ⟨by rw [chkM, if_pos hall, if_pos (by rw [hm0]; simp)]; rfl, hS.below⟩
    · (try simp only [sB] at hc22)
      have hm0 : m ≠ [] := by simpa using hc22
      refine WC.skip ?_
      refine WX.then_normal ?_
      refine WC.sr ?_
      refine WL.r rfl rfl rfl (rd_assign rfl rfl) ?_
      refine WL.nt ?_
      refine WC.ret ?_
      exact WX.retN rfl (.tmp rfl .nil) fun w' hS => ⟨by rw [chkM, if_pos hall, if_neg (by simpa using fun h => hm0 h)]; rfl, hS.below⟩
theorem rmod_c {a m : Bs} {w : World} (ha : okN a) (hm : okN m) (hm0 : m ≠ []) :
    Calls Tryz.prog 108 #[.string (S a), .string (S m)] w fun e w' => e = .returned (.string (S (canon (val a % val m)))) ∧ Below w.heap.size w w' := by
  refine enter (S := St (fun _ => True) w [] ([])) (L := [(0, .string (S a)), (1, .string (S m))]) Tryz.func108 rfl Tryz.ntmps108 rfl (args_cons rfl (args_cons rfl (args_nil _))) (St.start (fun _ _ => trivial) facts_nil) ?_
  refine WC.sr ?_
  refine WL.r rfl rfl rfl (rd_assign rfl rfl) ?_
  refine WL.nt ?_
  refine WC.sr ?_
  refine WL.r rfl rfl rfl (rd_move rfl rfl) ?_
  refine WL.r rfl rfl rfl (rd_move rfl rfl) ?_
  refine WL.g rfl rfl rfl (og_call rfl rfl (by kernel_rfl) (keep_val fun w hS => (by have := rdivmod_c (w := w) (a := a) (b := m); rw [divN_ok ha hm hm0] at this; exact this))) ?_
  intro _
  refine WL.r rfl rfl rfl (rd_move rfl rfl) ?_
  refine WL.r rfl rfl rfl (rd_extL rfl rfl rfl) ?_
  refine WL.r rfl rfl rfl (rd_extL rfl rfl rfl) ?_
  refine WL.r rfl rfl rfl (rd_extL rfl rfl rfl) ?_
  refine WL.r rfl rfl rfl (rd_assign rfl rfl) ?_
  refine WL.r rfl rfl rfl (rd_assign rfl rfl) ?_
  refine WL.r rfl rfl rfl (rd_assign rfl rfl) ?_
  refine WL.nt ?_
  refine WC.sr ?_
  refine WL.r rfl rfl rfl (rd_move rfl rfl) ?_
  refine WL.r rfl rfl rfl (rd_assign rfl rfl) ?_
  refine WL.nt ?_
  refine WC.ret ?_
  exact WX.retN rfl (.tmp rfl .nil) fun w' hS => ⟨by rfl, hS.below⟩
theorem small_canon {n : Nat} (h : n < 18446744073709551616) : smallN (canon n) = (n, true) := by
  have h8 : (canon n).length ≤ 8 := canon_len_le.2 h
  rw [small_ok ⟨by omega, can_canon _⟩ h8, val_canon]
theorem rtimes3_c {a b m : Bs} {w : World} (ha : okN a) (hb : okN b) (hm : okN m) (hm0 : m ≠ []) (hm8 : m.length ≤ 8) :
    Calls Tryz.prog 86 #[.string (S a), .string (S b), .string (S m)] w fun e w' => e = .returned (.string (S (canon (val a * val b % val m)))) ∧ Below w.heap.size w w' := by
  have hp := vpos hm hm0
  have hm64 := val_8 hm8
  have h1 := Nat.mod_lt (val a) hp; have h2 := Nat.mod_lt (val b) hp; have h3 := Nat.mod_lt (val a * val b) hp
  have hBB : 18446744073709551616 * 18446744073709551616 ≤ Big := by show 256 ^ 16 ≤ 256 ^ 128; exact Nat.pow_le_pow_right (by decide) (by decide)
  have hml : val a % val m * (val b % val m) < 18446744073709551616 * 18446744073709551616 := Nat.mul_lt_mul'' (by omega) (by omega)
  have hmB := okN_val hm
  have hmu : mulN (canon (val a % val m)) (canon (val b % val m)) = (canon (val a % val m * (val b % val m)), 0) := by
    rw [mulN_of (by omega) (by omega), if_pos (by omega)]
  have hko : okN (canon (val a % val m * (val b % val m))) := okN_can (by omega)
  refine enter (S := St (fun _ => True) w [] ([])) (L := [(0, .string (S a)), (1, .string (S b)), (2, .string (S m))]) Tryz.func86 rfl Tryz.ntmps86 rfl (args_cons rfl (args_cons rfl (args_cons rfl (args_nil _)))) (St.start (fun _ _ => trivial) facts_nil) ?_
  refine WC.sr ?_
  refine WL.r rfl rfl rfl (rd_assign rfl rfl) ?_
  refine WL.nt ?_
  refine WC.sr ?_
  refine WL.r rfl rfl rfl (rd_move rfl rfl) ?_
  refine WL.g rfl rfl rfl (og_call rfl rfl (by kernel_rfl) (keep_val fun w hS => (by have := rsmall_c (w := w) (a := m); rw [small_ok hm hm8] at this; exact this))) ?_
  intro _
  refine WL.r rfl rfl rfl (rd_move rfl rfl) ?_
  refine WL.r rfl rfl rfl (rd_extL rfl rfl rfl) ?_
  refine WL.r rfl rfl rfl (rd_extL rfl rfl rfl) ?_
  refine WL.r rfl rfl rfl (rd_assign rfl rfl) ?_
  refine WL.r rfl rfl rfl (rd_assign rfl rfl) ?_
  refine WL.nt ?_
  refine WC.seq ?_
  refine WC.sr ?_
  refine WL.r rfl rfl rfl (rd_move rfl rfl) ?_
  refine WL.r rfl rfl rfl (rd_move rfl rfl) ?_
  refine WL.bool 21 rfl (fun hg21 => ?_) (fun hg21 => ?_)
  · (try simp only [sB] at hg21)
    refine WL.r rfl rfl rfl (rd_move rfl rfl) ?_
    refine WL.r rfl rfl rfl (rd_lss rfl rfl rfl) ?_
    refine WL.r rfl rfl rfl (rd_pickt rfl rfl rfl) ?_
    refine WL.nt ?_
    refine WC.cond rfl (fun hc24 => ?_) (fun hc24 => ?_)
    · (try simp only [sB] at hc24)
      refine WC.sr ?_
      refine WL.r rfl rfl rfl (rd_move rfl rfl) ?_
      refine WL.r rfl rfl rfl (rd_move rfl rfl) ?_
      refine WL.g rfl rfl rfl (og_call rfl rfl (by kernel_rfl) (keep_val fun w hS => rmod_c (a := a) (m := m) (by exact ha) (by exact hm) (by exact hm0))) ?_
      intro _
      refine WL.g rfl rfl rfl (og_call rfl rfl (by kernel_rfl) (keep_val fun w hS => (by have := rsmall_c (w := w) (a := canon (val a % val m)); rw [small_canon (by omega)] at this; exact this))) ?_
      intro _
      refine WL.r rfl rfl rfl (rd_move rfl rfl) ?_
      refine WL.r rfl rfl rfl (rd_extL rfl rfl rfl) ?_
      refine WL.r rfl rfl rfl (rd_extL rfl rfl rfl) ?_
      refine WL.r rfl rfl rfl (rd_assign rfl rfl) ?_
      refine WL.r rfl rfl rfl (rd_assign rfl rfl) ?_
      refine WL.nt ?_
      refine WC.sr ?_
      refine WL.r rfl rfl rfl (rd_move rfl rfl) ?_
      refine WL.r rfl rfl rfl (rd_move rfl rfl) ?_
      refine WL.g rfl rfl rfl (og_call rfl rfl (by kernel_rfl) (keep_val fun w hS => rmod_c (a := b) (m := m) (by exact hb) (by exact hm) (by exact hm0))) ?_
      intro _
      refine WL.g rfl rfl rfl (og_call rfl rfl (by kernel_rfl) (keep_val fun w hS => (by have := rsmall_c (w := w) (a := canon (val b % val m)); rw [small_canon (by omega)] at this; exact this))) ?_
      intro _
      refine WL.r rfl rfl rfl (rd_move rfl rfl) ?_
      refine WL.r rfl rfl rfl (rd_extL rfl rfl rfl) ?_
      refine WL.r rfl rfl rfl (rd_extL rfl rfl rfl) ?_
      refine WL.r rfl rfl rfl (rd_assign rfl rfl) ?_
      refine WL.r rfl rfl rfl (rd_assign rfl rfl) ?_
      refine WL.nt ?_
      refine WC.sr ?_
      refine WL.r rfl rfl rfl (rd_move rfl rfl) ?_
      refine WL.r rfl rfl rfl (rd_move rfl rfl) ?_
      (refine WL.r rfl rfl rfl (rd_mulW rfl rfl rfl ?_) ?_; (focus (exact Nat.lt_of_le_of_lt (Nat.mul_le_mul (by omega : _ ≤ 2147483647) (by omega : _ ≤ 2147483647)) (by decide))))
      refine WL.r rfl rfl rfl (rd_move rfl rfl) ?_
      refine WL.r rfl rfl rfl (rd_remW rfl rfl rfl ?_) ?_
      · assumption
      refine WL.set 43 rfl (v' := .int .u64 ((val a * val b % val m : Nat) : Int)) (congrArg (Value.int .u64) (by rw [← Nat.mul_mod])) ?_
      refine WL.g rfl rfl rfl (og_call rfl rfl (by kernel_rfl) (keep_val fun w hS => rof_c (n := val a * val b % val m) (by omega))) ?_
      intro _
      refine WL.r rfl rfl rfl (rd_assign rfl rfl) ?_
      refine WL.nt ?_
      refine WC.ret ?_
      refine WX.then_ret ?_
      exact WX.retN rfl (.tmp rfl .nil) fun w' hS => ⟨by rfl, hS.below⟩
    · (try simp only [sB] at hc24)
      refine WC.skip ?_
      refine WX.then_normal ?_
      refine WC.sr ?_
      refine WL.r rfl rfl rfl (rd_move rfl rfl) ?_
      refine WL.r rfl rfl rfl (rd_move rfl rfl) ?_
      refine WL.g rfl rfl rfl (og_call rfl rfl (by kernel_rfl) (keep_val fun w hS => rmod_c (a := a) (m := m) (by exact ha) (by exact hm) (by exact hm0))) ?_
      intro _
      refine WL.r rfl rfl rfl (rd_move rfl rfl) ?_
      refine WL.r rfl rfl rfl (rd_move rfl rfl) ?_
      refine WL.g rfl rfl rfl (og_call rfl rfl (by kernel_rfl) (keep_val fun w hS => rmod_c (a := b) (m := m) (by exact hb) (by exact hm) (by exact hm0))) ?_
      intro _
      refine WL.g rfl rfl rfl (og_call rfl rfl (by kernel_rfl) (keep_val fun w hS => (by have := rmul_c (w := w) (a := canon (val a % val m)) (b := canon (val b % val m)); rw [hmu] at this; exact this))) ?_
      intro _
      refine WL.r rfl rfl rfl (rd_move rfl rfl) ?_
      refine WL.r rfl rfl rfl (rd_extL rfl rfl rfl) ?_
      refine WL.r rfl rfl rfl (rd_extL rfl rfl rfl) ?_
      refine WL.r rfl rfl rfl (rd_assign rfl rfl) ?_
      refine WL.r rfl rfl rfl (rd_assign rfl rfl) ?_
      refine WL.nt ?_
      refine WC.sr ?_
      refine WL.r rfl rfl rfl (rd_move rfl rfl) ?_
      refine WL.r rfl rfl rfl (rd_move rfl rfl) ?_
      refine WL.g rfl rfl rfl (og_call rfl rfl (by kernel_rfl) (keep_val fun w hS => rmod_c (a := canon (val a % val m * (val b % val m))) (m := m) (by exact hko) (by exact hm) (by exact hm0))) ?_
      intro _
      refine WL.set 57 rfl (v' := .string (S (canon (val a * val b % val m)))) (congrArg (fun l => Value.string (S l)) (by rw [val_canon, ← Nat.mul_mod])) ?_
      refine WL.r rfl rfl rfl (rd_assign rfl rfl) ?_
      refine WL.nt ?_
      refine WC.ret ?_
      exact WX.retN rfl (.tmp rfl .nil) fun w' hS => ⟨by rfl, hS.below⟩
  · (try simp only [sB] at hg21)
    refine WL.s rfl rfl rfl ?_
    refine WL.s rfl rfl rfl ?_
    refine WL.r rfl rfl rfl (rd_pickf rfl rfl rfl) ?_
    refine WL.nt ?_
    refine WC.cond rfl (fun h => by cases h) (fun _ => ?_)
    refine WC.skip ?_
    refine WX.then_normal ?_
    refine WC.sr ?_
    refine WL.r rfl rfl rfl (rd_move rfl rfl) ?_
    refine WL.r rfl rfl rfl (rd_move rfl rfl) ?_
    refine WL.g rfl rfl rfl (og_call rfl rfl (by kernel_rfl) (keep_val fun w hS => rmod_c (a := a) (m := m) (by exact ha) (by exact hm) (by exact hm0))) ?_
    intro _
    refine WL.r rfl rfl rfl (rd_move rfl rfl) ?_
    refine WL.r rfl rfl rfl (rd_move rfl rfl) ?_
    refine WL.g rfl rfl rfl (og_call rfl rfl (by kernel_rfl) (keep_val fun w hS => rmod_c (a := b) (m := m) (by exact hb) (by exact hm) (by exact hm0))) ?_
    intro _
    refine WL.g rfl rfl rfl (og_call rfl rfl (by kernel_rfl) (keep_val fun w hS => (by have := rmul_c (w := w) (a := canon (val a % val m)) (b := canon (val b % val m)); rw [hmu] at this; exact this))) ?_
    intro _
    refine WL.r rfl rfl rfl (rd_move rfl rfl) ?_
    refine WL.r rfl rfl rfl (rd_extL rfl rfl rfl) ?_
    refine WL.r rfl rfl rfl (rd_extL rfl rfl rfl) ?_
    refine WL.r rfl rfl rfl (rd_assign rfl rfl) ?_
    refine WL.r rfl rfl rfl (rd_assign rfl rfl) ?_
    refine WL.nt ?_
    refine WC.sr ?_
    refine WL.r rfl rfl rfl (rd_move rfl rfl) ?_
    refine WL.r rfl rfl rfl (rd_move rfl rfl) ?_
    refine WL.g rfl rfl rfl (og_call rfl rfl (by kernel_rfl) (keep_val fun w hS => rmod_c (a := canon (val a % val m * (val b % val m))) (m := m) (by exact hko) (by exact hm) (by exact hm0))) ?_
    intro _
    refine WL.set 57 rfl (v' := .string (S (canon (val a * val b % val m)))) (congrArg (fun l => Value.string (S l)) (by rw [val_canon, ← Nat.mul_mod])) ?_
    refine WL.r rfl rfl rfl (rd_assign rfl rfl) ?_
    refine WL.nt ?_
    refine WC.ret ?_
    exact WX.retN rfl (.tmp rfl .nil) fun w' hS => ⟨by rfl, hS.below⟩
theorem rmmul_c {a b m : Bs} {w : World} (hm8 : m.length ≤ 8) :
    Calls Tryz.prog 60 #[.string (S a), .string (S b), .string (S m)] w fun e w' => e = .returned (NE (mulM a b m)) ∧ Below w.heap.size w w' := by
  refine enter (S := St (fun _ => True) w [] ([])) (L := [(0, .string (S a)), (1, .string (S b)), (2, .string (S m))]) Tryz.func60 rfl Tryz.ntmps60 rfl (args_cons rfl (args_cons rfl (args_cons rfl (args_nil _)))) (St.start (fun _ _ => trivial) facts_nil) ?_
  refine WC.sr ?_
  refine WL.r rfl rfl rfl (rd_assign rfl rfl) ?_
  refine WL.r rfl rfl rfl (rd_assign rfl rfl) ?_
  refine WL.nt ?_
  refine WC.seq ?_
  refine WC.sr ?_
  refine WL.r rfl rfl rfl (rd_move rfl rfl) ?_
  refine WL.r rfl rfl rfl (rd_move rfl rfl) ?_
  refine WL.r rfl rfl rfl (rd_move rfl rfl) ?_
  refine WL.g rfl rfl rfl (og_bs1 rfl rfl Tryz.underlying31 (by kernel_rfl : _ = some (some (.string (S [])), 1, 16)) rfl (by simp only [List.map]; rfl) rfl rfl ?_ (by decide)) ?_
  · simp [Value.cells]
  intro b12
  refine WL.g rfl rfl rfl (og_call rfl rfl (by kernel_rfl) (keep_val fun w hS => rcheck_c (l := [a, b]) (m := m) (by (exact hS.os)) (by (simp <;> omega)))) ?_
  intro _
  refine WL.r rfl rfl rfl (rd_assign rfl rfl) ?_
  refine WL.nt ?_
  refine WC.sr ?_
  refine WL.r rfl rfl rfl (rd_move rfl rfl) ?_
  refine WL.r rfl rfl rfl (rd_neq rfl rfl rfl) ?_
  refine WL.nt ?_
  refine WC.cond rfl (fun hc15 => ?_) (fun hc15 => ?_)
  · (try simp only [sB] at hc15)
    have hr : mulM a b m = ([], chkM [a, b] [m]) := by rw [mulM, if_neg (by simpa using hc15)]
    refine WC.sr ?_
    refine WL.r rfl rfl rfl (rd_move rfl rfl) ?_
    refine WL.r rfl rfl rfl (rd_assign rfl rfl) ?_
    refine WL.r rfl rfl rfl (rd_assign rfl rfl) ?_
    refine WL.nt ?_
    refine WC.ret ?_
    refine WX.then_ret ?_
    exact WX.retN rfl (.tmp rfl (.tmp rfl .nil)) fun w' hS => ⟨by rw [hr]; rfl, hS.below⟩
  · (try simp only [sB] at hc15)
    have h0 : chkM [a, b] [m] = 0 := by simpa using hc15
    have hr : mulM a b m = (canon (val a * val b % val m), 0) := by rw [mulM, if_pos h0]
    obtain ⟨ha, hb, hm, hm0⟩ := chk2 h0
    refine WC.skip ?_
    refine WX.then_normal ?_
    refine WC.sr ?_
    refine WL.r rfl rfl rfl (rd_move rfl rfl) ?_
    refine WL.r rfl rfl rfl (rd_move rfl rfl) ?_
    refine WL.r rfl rfl rfl (rd_move rfl rfl) ?_
    refine WL.g rfl rfl rfl (og_call rfl rfl (by kernel_rfl) (keep_val fun w hS => rtimes3_c (a := a) (b := b) (m := m) (by exact ha) (by exact hb) (by exact hm) (by exact hm0) (by exact hm8))) ?_
    intro _
    refine WL.r rfl rfl rfl (rd_assign rfl rfl) ?_
    refine WL.r rfl rfl rfl (rd_assign rfl rfl) ?_
    refine WL.nt ?_
    refine WC.ret ?_
    exact WX.retN rfl (.tmp rfl (.tmp rfl .nil)) fun w' hS => ⟨by rw [hr]; rfl, hS.below⟩
theorem rraise_c {a x m : Bs} {w : World} (ha : okN a) (hx : okN x) (hm : okN m) (hm0 : m ≠ []) (hm8 : m.length ≤ 8) :
    Calls Tryz.prog 110 #[.string (S a), .string (S x), .string (S m)] w fun e w' => e = .returned (.string (S (canon (val a ^ val x % val m)))) ∧ Below w.heap.size w w' := by
  have hp := vpos hm hm0
  have hm64 := val_8 hm8
  have hmB := okN_val hm
  have hbl := bitsN_le hx.1
  have hB1 : 1 < Big := Nat.lt_of_lt_of_le (by decide) big64
  have hko : ∀ k, okN (canon (k % val m)) := fun k => okN_can (by have := Nat.mod_lt k hp; omega)
  refine enter (S := St (fun _ => True) w [] ([])) (L := [(0, .string (S a)), (1, .string (S x)), (2, .string (S m))]) Tryz.func110 rfl Tryz.ntmps110 rfl (args_cons rfl (args_cons rfl (args_cons rfl (args_nil _)))) (St.start (fun _ _ => trivial) facts_nil) ?_
  refine WC.sr ?_
  refine WL.r rfl rfl rfl (rd_assign rfl rfl) ?_
  refine WL.nt ?_
  refine WC.sr ?_
  refine WL.g rfl rfl rfl (og_call rfl rfl (by kernel_rfl) (keep_val fun w hS => rof_c (n := 1) (by omega))) ?_
  intro _
  refine WL.r rfl rfl rfl (rd_move rfl rfl) ?_
  refine WL.g rfl rfl rfl (og_call rfl rfl (by kernel_rfl) (keep_val fun w hS => rmod_c (a := canon 1) (m := m) (by exact okN_can hB1) (by exact hm) (by exact hm0))) ?_
  intro _
  refine WL.set 11 rfl (v' := .string (S (canon (val a ^ (val x / 2 ^ bitsN x) % val m)))) (congrArg (fun l => Value.string (S l)) (by rw [val_canon, Nat.div_eq_of_lt (val_bits x), Nat.pow_zero])) ?_
  refine WL.r rfl rfl rfl (rd_assign rfl rfl) ?_
  refine WL.nt ?_
  refine WC.seq ?_
  refine WC.sr ?_
  refine WL.r rfl rfl rfl (rd_move rfl rfl) ?_
  refine WL.g rfl rfl rfl (og_call rfl rfl (by kernel_rfl) (keep_val fun w hS => rbits_c (a := x))) ?_
  intro _
  refine WL.set 13 rfl (v' := .int .i64 ((bitsN x : Nat) : Int)) (congrArg (Value.int .i64) (by rw [if_pos hx])) ?_
  (refine WL.r rfl rfl rfl (rd_sub64 rfl rfl rfl ?_) ?_; (focus (omega)))
  refine WL.r rfl rfl rfl (rd_assign rfl rfl) ?_
  refine WL.nt ?_
  refine WC.block ?_
  refine WC.loopP (σ := Nat × Int) [(0, _), (1, _), (2, _)] (fun g => [(7, .string (S (canon (val a ^ (val x / 2 ^ g.1) % val m)))), (8, .int .i64 g.2)]) (fun g => g.1 ≤ bitsN x ∧ g.2 = (g.1 : Int) - 1) (fun g => g.1) (bitsN x, (bitsN x : Int) - 1) (sub_cons rfl (sub_cons rfl (sub_cons rfl (sub_nil _)))) (sub_cons rfl (sub_cons rfl (sub_nil _))) (by (try dsimp only); exact ⟨Nat.le_refl _, rfl⟩) ?_
  rintro ⟨n, j⟩ hinv1; (try dsimp only at hinv1 ⊢)
  obtain ⟨hn, hj⟩ := hinv1
  refine WC.seq ?_
  refine WC.sr ?_
  refine WL.r rfl rfl rfl (rd_move rfl rfl) ?_
  refine WL.r rfl rfl rfl (rd_geq rfl rfl rfl) ?_
  refine WL.nt ?_
  refine WC.cond rfl (fun hc16 => ?_) (fun hc16 => ?_)
  · (try simp only [sB] at hc16)
    obtain ⟨k, rfl⟩ : ∃ k, n = k + 1 := ⟨n - 1, by omega⟩
    refine WC.set 8 rfl (v' := .int .i64 ((k : Nat) : Int)) (by rw [hj]; congr 1; omega) ?_
    refine WC.skip ?_
    refine WX.then_normal ?_
    refine WC.seq ?_
    refine WC.block ?_
    refine WC.sr ?_
    refine WL.r rfl rfl rfl (rd_move rfl rfl) ?_
    refine WL.r rfl rfl rfl (rd_move rfl rfl) ?_
    refine WL.r rfl rfl rfl (rd_move rfl rfl) ?_
    refine WL.g rfl rfl rfl (og_call rfl rfl (by kernel_rfl) (keep_val fun w hS => rtimes3_c (a := canon (val a ^ (val x / 2 ^ (k + 1)) % val m)) (b := canon (val a ^ (val x / 2 ^ (k + 1)) % val m)) (m := m) (by exact hko _) (by exact hko _) (by exact hm) (by exact hm0) (by exact hm8))) ?_
    intro _
    refine WL.r rfl rfl rfl (rd_assign rfl rfl) ?_
    refine WL.nt ?_
    refine WC.sr ?_
    refine WL.r rfl rfl rfl (rd_move rfl rfl) ?_
    refine WL.r rfl rfl rfl (rd_move rfl rfl) ?_
    refine WL.g rfl rfl rfl (og_call rfl rfl (by kernel_rfl) (keep_val fun w hS => rbit_c (a := x) (i := k) (by omega))) ?_
    intro _
    refine WL.nt ?_
    refine WC.cond rfl (fun hc25 => ?_) (fun hc25 => ?_)
    · (try simp only [sB] at hc25)
      have hd : val x / 2 ^ k % 2 = 1 := by rw [bitA_nat hx, bitN] at hc25; simpa using hc25
      refine WC.region ?_
      refine WL.r rfl rfl rfl (rd_move rfl rfl) ?_
      refine WL.r rfl rfl rfl (rd_move rfl rfl) ?_
      refine WL.r rfl rfl rfl (rd_move rfl rfl) ?_
      refine WL.g rfl rfl rfl (og_call rfl rfl (by kernel_rfl) (keep_val fun w hS => rtimes3_c (a := canon (val (canon (val a ^ (val x / 2 ^ (k + 1)) % val m)) * val (canon (val a ^ (val x / 2 ^ (k + 1)) % val m)) % val m)) (b := a) (m := m) (by exact hko _) (by exact ha) (by exact hm) (by exact hm0) (by exact hm8))) ?_
      intro _
      refine WL.set 29 rfl (v' := .string (S (canon (val a ^ (val x / 2 ^ k) % val m)))) (congrArg (fun l => Value.string (S l)) (by rw [val_canon, val_canon, exp_step1 hd])) ?_
      refine WL.r rfl rfl rfl (rd_assign rfl rfl) ?_
      refine WL.nil ?_
      refine WX.block_normal ?_
      refine WX.then_normal ?_
      refine WC.region ?_
      refine WL.r rfl rfl rfl (rd_move rfl rfl) ?_
      (refine WL.r rfl rfl rfl (rd_sub64 rfl rfl rfl ?_) ?_; (focus (omega)))
      refine WL.r rfl rfl rfl (rd_assign rfl rfl) ?_
      refine WL.nil ?_
      refine WX.loopP ((k, (k : Int) - 1)) (by (try dsimp only); omega) (sub_cons rfl (sub_cons rfl (sub_cons rfl (sub_nil _)))) (by refine (sub_cons ?_ (sub_cons ?_ (sub_nil _))) <;> (rfl)) ?_ (by (exact fun _ h => h))
      (try dsimp only)
      exact ⟨by omega, rfl⟩
    · (try simp only [sB] at hc25)
      have hd : val x / 2 ^ k % 2 = 0 := by
        rw [bitA_nat hx, bitN] at hc25
        have : ¬ val x / 2 ^ k % 2 = 1 := by simpa using hc25
        omega
      rw [val_canon, exp_step0 hd]
      refine WC.skip ?_
      refine WX.block_normal ?_
      refine WX.then_normal ?_
      refine WC.region ?_
      refine WL.r rfl rfl rfl (rd_move rfl rfl) ?_
      (refine WL.r rfl rfl rfl (rd_sub64 rfl rfl rfl ?_) ?_; (focus (omega)))
      refine WL.r rfl rfl rfl (rd_assign rfl rfl) ?_
      refine WL.nil ?_
      refine WX.loopP ((k, (k : Int) - 1)) (by (try dsimp only); omega) (sub_cons rfl (sub_cons rfl (sub_cons rfl (sub_nil _)))) (by refine (sub_cons ?_ (sub_cons ?_ (sub_nil _))) <;> (rfl)) ?_ (by (exact fun _ h => h))
      (try dsimp only)
      exact ⟨by omega, rfl⟩
  · (try simp only [sB] at hc16)
    refine WC.exit ?_
    refine WX.then_exit ?_
    refine WX.then_exit ?_
    refine WX.block_exit ?_
    obtain rfl : n = 0 := by omega
    rw [Nat.pow_zero, Nat.div_one]
    refine WX.then_normal ?_
    refine WC.sr ?_
    refine WL.r rfl rfl rfl (rd_move rfl rfl) ?_
    refine WL.r rfl rfl rfl (rd_assign rfl rfl) ?_
    refine WL.nt ?_
    refine WC.ret ?_
    exact WX.retN rfl (.tmp rfl .nil) fun w' hS => ⟨by rfl, hS.below⟩
theorem rmexp_c {a x m : Bs} {w : World} (hm8 : m.length ≤ 8) :
    Calls Tryz.prog 106 #[.string (S a), .string (S x), .string (S m)] w fun e w' => e = .returned (NE (mexpM a x m)) ∧ Below w.heap.size w w' := by
  refine enter (S := St (fun _ => True) w [] ([])) (L := [(0, .string (S a)), (1, .string (S x)), (2, .string (S m))]) Tryz.func106 rfl Tryz.ntmps106 rfl (args_cons rfl (args_cons rfl (args_cons rfl (args_nil _)))) (St.start (fun _ _ => trivial) facts_nil) ?_
  refine WC.sr ?_
  refine WL.r rfl rfl rfl (rd_assign rfl rfl) ?_
  refine WL.r rfl rfl rfl (rd_assign rfl rfl) ?_
  refine WL.nt ?_
  refine WC.seq ?_
  refine WC.sr ?_
  refine WL.r rfl rfl rfl (rd_move rfl rfl) ?_
  refine WL.r rfl rfl rfl (rd_move rfl rfl) ?_
  refine WL.r rfl rfl rfl (rd_move rfl rfl) ?_
  refine WL.g rfl rfl rfl (og_bs1 rfl rfl Tryz.underlying31 (by kernel_rfl : _ = some (some (.string (S [])), 1, 16)) rfl (by simp only [List.map]; rfl) rfl rfl ?_ (by decide)) ?_
  · simp [Value.cells]
  intro b12
  refine WL.g rfl rfl rfl (og_call rfl rfl (by kernel_rfl) (keep_val fun w hS => rcheck_c (l := [a, x]) (m := m) (by (exact hS.os)) (by (simp <;> omega)))) ?_
  intro _
  refine WL.r rfl rfl rfl (rd_assign rfl rfl) ?_
  refine WL.nt ?_
  refine WC.sr ?_
  refine WL.r rfl rfl rfl (rd_move rfl rfl) ?_
  refine WL.r rfl rfl rfl (rd_neq rfl rfl rfl) ?_
  refine WL.nt ?_
  refine WC.cond rfl (fun hc15 => ?_) (fun hc15 => ?_)
  · (try simp only [sB] at hc15)
    have hr : mexpM a x m = ([], chkM [a, x] [m]) := by rw [mexpM, if_neg (by simpa using hc15)]
    refine WC.sr ?_
    refine WL.r rfl rfl rfl (rd_move rfl rfl) ?_
    refine WL.r rfl rfl rfl (rd_assign rfl rfl) ?_
    refine WL.r rfl rfl rfl (rd_assign rfl rfl) ?_
    refine WL.nt ?_
    refine WC.ret ?_
    refine WX.then_ret ?_
    exact WX.retN rfl (.tmp rfl (.tmp rfl .nil)) fun w' hS => ⟨by rw [hr]; rfl, hS.below⟩
  · (try simp only [sB] at hc15)
    have h0 : chkM [a, x] [m] = 0 := by simpa using hc15
    have hr : mexpM a x m = (canon (val a ^ val x % val m), 0) := by rw [mexpM, if_pos h0]
    obtain ⟨ha, hx, hm, hm0⟩ := chk2 h0
    refine WC.skip ?_
    refine WX.then_normal ?_
    refine WC.sr ?_
    refine WL.r rfl rfl rfl (rd_move rfl rfl) ?_
    refine WL.r rfl rfl rfl (rd_move rfl rfl) ?_
    refine WL.r rfl rfl rfl (rd_move rfl rfl) ?_
    refine WL.g rfl rfl rfl (og_call rfl rfl (by kernel_rfl) (keep_val fun w hS => rraise_c (a := a) (x := x) (m := m) (by exact ha) (by exact hx) (by exact hm) (by exact hm0) (by exact hm8))) ?_
    intro _
    refine WL.r rfl rfl rfl (rd_assign rfl rfl) ?_
    refine WL.r rfl rfl rfl (rd_assign rfl rfl) ?_
    refine WL.nt ?_
    refine WC.ret ?_
    exact WX.retN rfl (.tmp rfl (.tmp rfl .nil)) fun w' hS => ⟨by rw [hr]; rfl, hS.below⟩
end Go.Proofs.YtbcnnkcddilfjaaGreat
