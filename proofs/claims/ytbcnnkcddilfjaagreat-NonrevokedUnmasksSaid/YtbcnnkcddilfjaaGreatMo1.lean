/-
  modular: check, reduced, times (short numbers), Mul, Inverse.
-/
import Derived.Test.YtbcnnkcddilfjaaGreatInt3
import Derived.Test.YtbcnnkcddilfjaaGreatDivW
import Derived.Test.YtbcnnkcddilfjaaGreatAsl
namespace Go.Proofs.YtbcnnkcddilfjaaGreat
set_option linter.unusedSimpArgs false
set_option linter.unusedVariables false
set_option maxRecDepth 20000
set_option maxHeartbeats 600000
open Go.RowKit

def chkM (l ms : List Bs) : Int := if ∀ x ∈ l ++ ms, okN x then (if [] ∈ ms then 11 else 0) else 3
theorem getD_mem {α : Type} [Inhabited α] (l : List α) (i : Nat) (h : i < l.length) : l.getD i default ∈ l := by
  rw [List.getD_eq_getElem?_getD, List.getElem?_eq_getElem h]; exact List.getElem_mem h
theorem all_take {α : Type} [Inhabited α] {p : α → Prop} {l : List α} {i : Nat} (h : i < l.length) (ht : ∀ x ∈ l.take i, p x) (hx : p (l.getD i default)) : ∀ x ∈ l.take (i + 1), p x := by
  intro x hm
  rw [List.take_add_one, List.getElem?_eq_getElem h] at hm
  rcases List.mem_append.1 hm with h1 | h1
  · exact ht x h1
  · simp at h1; subst h1
    rwa [List.getD_eq_getElem?_getD, List.getElem?_eq_getElem h] at hx
theorem strs_app (a b : List Bs) : strs a ++ strs b = strs (a ++ b) := by simp [strs]
theorem check_c {l ms : List Bs} {a b : Option Addr} {c : Nat} {w : World} {ok : Nat → Prop} (hF1 : (Fact.sl a (strs l)).holds ok w) (hF2 : (Fact.sl b (strs ms)).holds ok w) (hl : l.length ≤ 1000) (hms : ms.length ≤ 1000) (hl0 : 0 < l.length) (hms0 : 0 < ms.length) :
    Calls Tryz.prog 72 #[.slice a l.length l.length, .slice b ms.length c] w fun e w' => e = .returned (.int .i64 (chkM l ms)) ∧ Below w.heap.size w w' := by
  refine enter (S := St (fun _ => True) w [] ([Fact.sl a (strs l), Fact.sl b (strs ms)])) (L := [(0, .slice a l.length l.length), (1, .slice b ms.length c)]) Tryz.func72 rfl Tryz.ntmps72 rfl (args_cons rfl (args_cons rfl (args_nil _))) (St.start (fun _ _ => trivial) (facts_cons (fact_any hF1) (facts_cons (fact_any hF2) facts_nil))) ?_
  refine WC.sr ?_
  refine WL.r rfl rfl rfl (rd_assign rfl rfl) ?_
  refine WL.nt ?_
  refine WC.seq ?_
  refine WC.sr ?_
  refine WL.r rfl rfl rfl (rd_move rfl rfl) ?_
  refine WL.r rfl rfl rfl (rd_move rfl rfl) ?_
  refine WL.g rfl rfl rfl (appsl rfl Tryz.underlying31 (by kernel_rfl : _ = some (some (.string (S [])), 1, 16)) rfl rfl rfl (fun w hS => by (exact hS.sl)) (by simp) ?_) ?_
  · (refine ⟨?_, ?_, ?_, ?_, ?_⟩ <;> (try simp) <;> omega)
  rintro ⟨o11, c11, s11⟩
  refine WL.pu ?_
  intro hg11; (try dsimp only at hg11 ⊢)
  rw [strs_app]
  refine WL.r rfl rfl rfl (rd_len rfl rfl Tryz.underlying31) ?_
  refine WL.r rfl rfl rfl (rd_move rfl rfl) ?_
  refine WL.nt ?_
  refine WC.block ?_
  refine WC.loopP (σ := Nat) [(1, _), (11, _), (12, _)] (fun g => [(13, .int .i64 (g : Int))]) (fun g => g ≤ (l ++ ms).length ∧ ∀ x ∈ (l ++ ms).take g, okN x) (fun g => (l ++ ms).length - g) (0) (sub_cons rfl (sub_cons rfl (sub_cons rfl (sub_nil _)))) (sub_cons rfl (sub_nil _)) (by (try dsimp only); exact ⟨Nat.zero_le _, by simp⟩) ?_
  rintro i hinv1; (try dsimp only at hinv1 ⊢)
  obtain ⟨hi, hok⟩ := hinv1
  refine WC.sr ?_
  refine WL.r rfl rfl rfl (rd_lss rfl rfl rfl) ?_
  refine WL.nt ?_
  refine WC.seq ?_
  refine WC.cond rfl (fun hc14 => ?_) (fun hc14 => ?_)
  · (try simp only [sB] at hc14)
    have hil : i < (l ++ ms).length := by (rw [List.length_append]; omega)
    refine WC.skip ?_
    refine WX.then_normal ?_
    refine WC.seq ?_
    refine WC.block ?_
    refine WC.sr ?_
    (refine WL.r rfl rfl rfl (iao rfl rfl rfl Tryz.underlying31 (by kernel_rfl : _ = some 1) ?_ ?_ (by (try simp only [sN, Int.reduceToNat, Nat.reduceAdd, Nat.reduceMul, Nat.reduceSub]); rfl)) ?_; (focus (omega)); (focus ((simp <;> omega))))
    (refine WL.r rfl rfl rfl (ldom rfl rfl Tryz.underlying22 rfl ?_) ?_; (focus (assumption)))
    refine WL.r rfl rfl rfl (rd_assign rfl rfl) ?_
    refine WL.nt ?_
    refine WC.sr ?_
    refine WL.r rfl rfl rfl (rd_move rfl rfl) ?_
    refine WL.g rfl rfl rfl (og_call rfl rfl (by kernel_rfl) (keep_val fun w hS => valid_c (a := (l ++ ms).getD i default))) ?_
    intro _
    refine WL.r rfl rfl rfl (rd_not rfl rfl) ?_
    refine WL.nt ?_
    refine WC.cond rfl (fun hc19 => ?_) (fun hc19 => ?_)
    · (try simp only [sB] at hc19)
      refine WC.sr ?_
      refine WL.r rfl rfl rfl (rd_assign rfl rfl) ?_
      refine WL.nt ?_
      refine WC.ret ?_
      refine WX.block_ret ?_
      refine WX.then_ret ?_
      refine WX.then_ret ?_
      refine WX.block_ret ?_
      refine WX.then_ret ?_
      exact WX.retN rfl (.tmp rfl .nil) fun w' hS => ⟨by rw [chkM, if_neg (fun h => absurd (h _ (getD_mem _ _ hil)) (by simpa using hc19))]; rfl, hS.below⟩
    · (try simp only [sB] at hc19)
      refine WC.skip ?_
      refine WX.block_normal ?_
      refine WX.then_normal ?_
      refine WC.region ?_
      (refine WL.r rfl rfl rfl (rd_add64nl rfl rfl rfl ?_) ?_; (focus (omega)))
      refine WL.r rfl rfl rfl (rd_move rfl rfl) ?_
      refine WL.nil ?_
      refine WX.loopP (i + 1) (by rw [List.length_append] at hil ⊢; omega) (sub_cons rfl (sub_cons rfl (sub_cons rfl (sub_nil _)))) (by refine (sub_cons ?_ (sub_nil _)) <;> (rfl)) ?_ (by (exact fun _ h => h))
      (try dsimp only)
      exact ⟨hil, all_take hil hok (by simpa using hc19)⟩
  · (try simp only [sB] at hc14)
    refine WC.exit ?_
    refine WX.then_exit ?_
    refine WX.then_exit ?_
    refine WX.block_exit ?_
    have hall : ∀ x ∈ l ++ ms, okN x := by
      have e : i = (l ++ ms).length := by rw [List.length_append] at hi ⊢; omega
      subst e; rw [List.take_length] at hok; exact hok
    refine WX.then_normal ?_
    refine WC.seq ?_
    refine WC.sr ?_
    refine WL.r rfl rfl rfl (rd_move rfl rfl) ?_
    refine WL.r rfl rfl rfl (rd_len rfl rfl Tryz.underlying31) ?_
    refine WL.r rfl rfl rfl (rd_move rfl rfl) ?_
    refine WL.nt ?_
    refine WC.block ?_
    refine WC.loopP (σ := Nat) [(21, _), (22, _)] (fun g => [(23, .int .i64 (g : Int))]) (fun g => g ≤ ms.length ∧ ∀ x ∈ ms.take g, x ≠ []) (fun g => ms.length - g) (0) (sub_cons rfl (sub_cons rfl (sub_nil _))) (sub_cons rfl (sub_nil _)) (by (try dsimp only); exact ⟨Nat.zero_le _, by simp⟩) ?_
    rintro i2 hinv2; (try dsimp only at hinv2 ⊢)
    obtain ⟨hi2, hne⟩ := hinv2
    refine WC.sr ?_
    refine WL.r rfl rfl rfl (rd_lss rfl rfl rfl) ?_
    refine WL.nt ?_
    refine WC.seq ?_
    refine WC.cond rfl (fun hc24 => ?_) (fun hc24 => ?_)
    · (try simp only [sB] at hc24)
      have hil2 : i2 < ms.length := by omega
      refine WC.skip ?_
      refine WX.then_normal ?_
      refine WC.seq ?_
      refine WC.block ?_
      refine WC.sr ?_
      (refine WL.r rfl rfl rfl (iaf rfl rfl rfl Tryz.underlying31 (by kernel_rfl : _ = some 1) ?_ ?_ (by (try simp only [sN, Int.reduceToNat, Nat.reduceAdd, Nat.reduceMul, Nat.reduceSub]); rfl)) ?_; (focus (omega)); (focus ((rw [List.length_map]; omega))))
      (refine WL.r rfl rfl rfl (ldm rfl rfl Tryz.underlying22 rfl ?_) ?_; (focus (assumption)))
      refine WL.r rfl rfl rfl (rd_assign rfl rfl) ?_
      refine WL.nt ?_
      refine WC.sr ?_
      refine WL.r rfl rfl rfl (rd_move rfl rfl) ?_
      refine WL.r rfl rfl rfl (rd_seq rfl rfl rfl) ?_
      refine WL.nt ?_
      refine WC.cond rfl (fun hc28 => ?_) (fun hc28 => ?_)
      · (try simp only [sB] at hc28)
        have hmem : [] ∈ ms := by
          have e : ms.getD i2 default = [] := by simpa using hc28
          rw [← e]; exact getD_mem _ _ hil2
        refine WC.sr ?_
        refine WL.r rfl rfl rfl (rd_assign rfl rfl) ?_
        refine WL.nt ?_
        refine WC.ret ?_
        refine WX.block_ret ?_
        refine WX.then_ret ?_
        refine WX.then_ret ?_
        refine WX.block_ret ?_
        refine WX.then_ret ?_
        exact WX.retN rfl (.tmp rfl .nil) fun w' hS => ⟨by rw [chkM, if_pos hall, if_pos hmem]; rfl, hS.below⟩
      · (try simp only [sB] at hc28)
        refine WC.skip ?_
        refine WX.block_normal ?_
        refine WX.then_normal ?_
        refine WC.region ?_
        (refine WL.r rfl rfl rfl (rd_add64nl rfl rfl rfl ?_) ?_; (focus (omega)))
        refine WL.r rfl rfl rfl (rd_move rfl rfl) ?_
        refine WL.nil ?_
        refine WX.loopP (i2 + 1) (by (try dsimp only); omega) (sub_cons rfl (sub_cons rfl (sub_nil _))) (by refine (sub_cons ?_ (sub_nil _)) <;> (rfl)) ?_ (by (exact fun _ h => h))
        (try dsimp only)
        exact ⟨hil2, all_take hil2 hne (by simpa using hc28)⟩
    · (try simp only [sB] at hc24)
      refine WC.exit ?_
      refine WX.then_exit ?_
      refine WX.then_exit ?_
      refine WX.block_exit ?_
      obtain rfl : i2 = ms.length := by omega
      rw [List.take_length] at hne
      refine WX.then_normal ?_
      refine WC.sr ?_
      refine WL.r rfl rfl rfl (rd_assign rfl rfl) ?_
      refine WL.nt ?_
      refine WC.ret ?_
      exact WX.retN rfl (.tmp rfl .nil) fun w' hS => ⟨by rw [chkM, if_pos hall, if_neg (fun h => hne _ h rfl)]; rfl, hS.below⟩
theorem chk_ok {l ms : List Bs} (h : chkM l ms = 0) : (∀ x ∈ l ++ ms, okN x) ∧ [] ∉ ms := by
  unfold chkM at h
  split at h
  · rename_i h1
    split at h
    · simp at h
    · rename_i h2; exact ⟨h1, h2⟩
  · simp at h
theorem chk_zero {l ms : List Bs} (h : ∀ x ∈ l ++ ms, okN x) (h2 : [] ∉ ms) : chkM l ms = 0 := by rw [chkM, if_pos h, if_neg h2]
theorem vpos {m : Bs} (h : okN m) (h0 : m ≠ []) : 0 < val m := Nat.pos_of_ne_zero fun e => h0 ((val_eq_zero h.2).1 e)
theorem reduced_c {a m : Bs} {w : World} (ha : okN a) (hm : okN m) (hm0 : m ≠ []) :
    Calls Tryz.prog 74 #[.string (S a), .string (S m)] w fun e w' => e = .returned (.string (S (canon (val a % val m)))) ∧ Below w.heap.size w w' := by
  refine enter (S := St (fun _ => True) w [] ([])) (L := [(0, .string (S a)), (1, .string (S m))]) Tryz.func74 rfl Tryz.ntmps74 rfl (args_cons rfl (args_cons rfl (args_nil _))) (St.start (fun _ _ => trivial) facts_nil) ?_
  refine WC.sr ?_
  refine WL.r rfl rfl rfl (rd_assign rfl rfl) ?_
  refine WL.nt ?_
  refine WC.sr ?_
  refine WL.r rfl rfl rfl (rd_move rfl rfl) ?_
  refine WL.r rfl rfl rfl (rd_move rfl rfl) ?_
  refine WL.g rfl rfl rfl (og_call rfl rfl (by kernel_rfl) (keep_val fun w hS => (by have := divmod_c (w := w) (a := a) (b := m); rw [divN_ok ha hm hm0] at this; exact this))) ?_
  intro _
  refine WL.r rfl rfl rfl (rd_move rfl rfl) ?_
  refine WL.r rfl rfl rfl (rd_extL rfl rfl rfl) ?_
  refine WL.r rfl rfl rfl (rd_extL rfl rfl rfl) ?_
  refine WL.r rfl rfl rfl (rd_extL rfl rfl rfl) ?_
  refine WL.r rfl rfl rfl (rd_assign rfl rfl) ?_
  refine WL.r rfl rfl rfl (rd_assign rfl rfl) ?_
  refine WL.r rfl rfl rfl (rd_assign rfl rfl) ?_
  refine WL.nt ?_
  refine WC.sr ?_
  refine WL.r rfl rfl rfl (rd_move rfl rfl) ?_
  refine WL.r rfl rfl rfl (rd_assign rfl rfl) ?_
  refine WL.nt ?_
  refine WC.ret ?_
  exact WX.retN rfl (.tmp rfl .nil) fun w' hS => ⟨by rfl, hS.below⟩
theorem small_ok {a : Bs} (h : okN a) (h8 : a.length ≤ 8) : smallN a = (val a, true) := by rw [smallN, if_pos ⟨h, h8⟩]
theorem times_eq (x y z : Nat) : (x % z * (y % z) / 18446744073709551616 * 18446744073709551616 + x % z * (y % z) % 18446744073709551616) % z = x * y % z := by
  rw [Nat.mul_comm (_ / _), Nat.div_add_mod, ← Nat.mul_mod]
theorem times_c {a b m : Bs} {w : World} (ha : okN a) (hb : okN b) (hm : okN m) (hm0 : m ≠ []) (ha8 : a.length ≤ 8) (hb8 : b.length ≤ 8) (hm8 : m.length ≤ 8) :
    Calls Tryz.prog 76 #[.string (S a), .string (S b), .string (S m)] w fun e w' => e = .returned (.string (S (canon (val a * val b % val m)))) ∧ Below w.heap.size w w' := by
  have hp := vpos hm hm0
  have ha64 := val_8 ha8; have hb64 := val_8 hb8; have hm64 := val_8 hm8
  have h1 := Nat.mod_lt (val a) hp; have h2 := Nat.mod_lt (val b) hp; have h3 := Nat.mod_lt (val a * val b) hp
  have hml : val a % val m * (val b % val m) < 18446744073709551616 * 18446744073709551616 := Nat.mul_lt_mul'' (by omega) (by omega)
  have hhi : val a % val m * (val b % val m) / 18446744073709551616 < 18446744073709551616 := by rw [Nat.div_lt_iff_lt_mul (by decide)]; exact hml
  have hlo : val a % val m * (val b % val m) % 18446744073709551616 < 18446744073709551616 := Nat.mod_lt _ (by decide)
  refine enter (S := St (fun _ => True) w [] ([])) (L := [(0, .string (S a)), (1, .string (S b)), (2, .string (S m))]) Tryz.func76 rfl Tryz.ntmps76 rfl (args_cons rfl (args_cons rfl (args_cons rfl (args_nil _)))) (St.start (fun _ _ => trivial) facts_nil) ?_
  refine WC.sr ?_
  refine WL.r rfl rfl rfl (rd_assign rfl rfl) ?_
  refine WL.nt ?_
  refine WC.seq ?_
  refine WC.sr ?_
  refine WL.r rfl rfl rfl (rd_move rfl rfl) ?_
  refine WL.r rfl rfl rfl (rd_slen rfl rfl Tryz.underlying22) ?_
  refine WL.r rfl rfl rfl (rd_leq rfl rfl rfl) ?_
  refine WL.set 17 rfl (v' := .bool true) (by rw [decide_eq_true (by omega)]) ?_
  refine WL.r rfl rfl rfl (rd_move rfl rfl) ?_
  refine WL.r rfl rfl rfl (rd_move rfl rfl) ?_
  refine WL.r rfl rfl rfl (rd_slen rfl rfl Tryz.underlying22) ?_
  refine WL.r rfl rfl rfl (rd_leq rfl rfl rfl) ?_
  refine WL.set 21 rfl (v' := .bool true) (by rw [decide_eq_true (by omega)]) ?_
  refine WL.r rfl rfl rfl (rd_pickt rfl rfl rfl) ?_
  refine WL.r rfl rfl rfl (rd_move rfl rfl) ?_
  refine WL.r rfl rfl rfl (rd_move rfl rfl) ?_
  refine WL.r rfl rfl rfl (rd_slen rfl rfl Tryz.underlying22) ?_
  refine WL.r rfl rfl rfl (rd_leq rfl rfl rfl) ?_
  refine WL.set 26 rfl (v' := .bool true) (by rw [decide_eq_true (by omega)]) ?_
  refine WL.r rfl rfl rfl (rd_pickt rfl rfl rfl) ?_
  refine WL.nt ?_
  refine WC.cond rfl (fun _ => ?_) (fun h => by cases h)
  refine WC.sr ?_
  refine WL.r rfl rfl rfl (rd_move rfl rfl) ?_
  refine WL.g rfl rfl rfl (og_call rfl rfl (by kernel_rfl) (keep_val fun w hS => (by have := small_c (w := w) (a := a) (by omega); rw [small_ok ha ha8] at this; exact this))) ?_
  intro _
  refine WL.r rfl rfl rfl (rd_move rfl rfl) ?_
  refine WL.r rfl rfl rfl (rd_extL rfl rfl rfl) ?_
  refine WL.r rfl rfl rfl (rd_extL rfl rfl rfl) ?_
  refine WL.r rfl rfl rfl (rd_assign rfl rfl) ?_
  refine WL.r rfl rfl rfl (rd_assign rfl rfl) ?_
  refine WL.nt ?_
  refine WC.sr ?_
  refine WL.r rfl rfl rfl (rd_move rfl rfl) ?_
  refine WL.g rfl rfl rfl (og_call rfl rfl (by kernel_rfl) (keep_val fun w hS => (by have := small_c (w := w) (a := b) (by omega); rw [small_ok hb hb8] at this; exact this))) ?_
  intro _
  refine WL.r rfl rfl rfl (rd_move rfl rfl) ?_
  refine WL.r rfl rfl rfl (rd_extL rfl rfl rfl) ?_
  refine WL.r rfl rfl rfl (rd_extL rfl rfl rfl) ?_
  refine WL.r rfl rfl rfl (rd_assign rfl rfl) ?_
  refine WL.r rfl rfl rfl (rd_assign rfl rfl) ?_
  refine WL.nt ?_
  refine WC.sr ?_
  refine WL.r rfl rfl rfl (rd_move rfl rfl) ?_
  refine WL.g rfl rfl rfl (og_call rfl rfl (by kernel_rfl) (keep_val fun w hS => (by have := small_c (w := w) (a := m) (by omega); rw [small_ok hm hm8] at this; exact this))) ?_
  intro _
  refine WL.r rfl rfl rfl (rd_move rfl rfl) ?_
  refine WL.r rfl rfl rfl (rd_extL rfl rfl rfl) ?_
  refine WL.r rfl rfl rfl (rd_extL rfl rfl rfl) ?_
  refine WL.r rfl rfl rfl (rd_assign rfl rfl) ?_
  refine WL.r rfl rfl rfl (rd_assign rfl rfl) ?_
  refine WL.nt ?_
  refine WC.seq ?_
  refine WC.free0 [0, 1, 2, 3, 4, 5, 6, 7, 8, 9, 10, 11] [] [0, 0, 0, 0, 0, 0, 1, 0, 0, 0, 0, 0] (by kernel_rfl) (by kernel_rfl) rfl ?_
  refine WJ.r rfl rfl rfl rfl rfl (rd_move rfl rfl) ?_
  refine WJ.r rfl rfl rfl rfl rfl (rd_move rfl rfl) ?_
  refine WJ.r rfl rfl rfl rfl rfl (rd_remW rfl rfl rfl ?_) ?_
  · assumption
  refine WJ.r rfl rfl rfl rfl rfl (rd_move rfl rfl) ?_
  refine WJ.r rfl rfl rfl rfl rfl (rd_move rfl rfl) ?_
  refine WJ.r rfl rfl rfl rfl rfl (rd_remW rfl rfl rfl ?_) ?_
  · assumption
  refine WJ.gv rfl rfl rfl rfl rfl (fun ext => og_call rfl rfl (by kernel_rfl) (keep_val fun w hS => mul64_c (x := val a % val m) (y := val b % val m) (by omega) (by omega))) ?_
  refine WJ.r rfl rfl rfl rfl rfl (rd_move rfl rfl) ?_
  refine WJ.r rfl rfl rfl rfl rfl (rd_extL rfl rfl rfl) ?_
  refine WJ.r rfl rfl rfl rfl rfl (rd_extL rfl rfl rfl) ?_
  refine WJ.r rfl rfl rfl rfl rfl (rd_assign rfl rfl) ?_
  refine WJ.r rfl rfl rfl rfl rfl (rd_assign rfl rfl) ?_
  refine WJ.nil ?_
  refine WL.nt ?_
  refine WC.sr ?_
  refine WL.r rfl rfl rfl (rd_move rfl rfl) ?_
  refine WL.r rfl rfl rfl (rd_move rfl rfl) ?_
  refine WL.r rfl rfl rfl (rd_move rfl rfl) ?_
  refine WL.g rfl rfl rfl (og_call rfl rfl (by kernel_rfl) (keep_val fun w hS => rem64_c (u := val a % val m * (val b % val m) / 18446744073709551616) (lo := val a % val m * (val b % val m) % 18446744073709551616) (y := val m) (by assumption) (by assumption) (by assumption) (by assumption))) ?_
  intro _
  refine WL.set 56 rfl (v' := .int .u64 ((val a * val b % val m : Nat) : Int)) (congrArg (Value.int .u64) (by rw [times_eq])) ?_
  refine WL.g rfl rfl rfl (og_call rfl rfl (by kernel_rfl) (keep_val fun w hS => of_c (n := val a * val b % val m) (by omega))) ?_
  intro _
  refine WL.r rfl rfl rfl (rd_assign rfl rfl) ?_
  refine WL.nt ?_
  refine WC.ret ?_
  refine WX.then_ret ?_
  exact WX.retN rfl (.tmp rfl .nil) fun w' hS => ⟨by rfl, hS.below⟩
def mulM (a b m : Bs) : Bs × Int := if chkM [a, b] [m] = 0 then (canon (val a * val b % val m), 0) else ([], chkM [a, b] [m])
theorem chk2 {a b m : Bs} (h : chkM [a, b] [m] = 0) : okN a ∧ okN b ∧ okN m ∧ m ≠ [] := by
  obtain ⟨h1, h2⟩ := chk_ok h
  exact ⟨h1 a (by simp), h1 b (by simp), h1 m (by simp), fun e => h2 (by simp [e])⟩
theorem mmul_c {a b m : Bs} {w : World} (ha8 : a.length ≤ 8) (hb8 : b.length ≤ 8) (hm8 : m.length ≤ 8) :
    Calls Tryz.prog 54 #[.string (S a), .string (S b), .string (S m)] w fun e w' => e = .returned (NE (mulM a b m)) ∧ Below w.heap.size w w' := by
  refine enter (S := St (fun _ => True) w [] ([])) (L := [(0, .string (S a)), (1, .string (S b)), (2, .string (S m))]) Tryz.func54 rfl Tryz.ntmps54 rfl (args_cons rfl (args_cons rfl (args_cons rfl (args_nil _)))) (St.start (fun _ _ => trivial) facts_nil) ?_
  refine WC.sr ?_
  refine WL.r rfl rfl rfl (rd_assign rfl rfl) ?_
  refine WL.r rfl rfl rfl (rd_assign rfl rfl) ?_
  refine WL.nt ?_
  refine WC.seq ?_
  refine WC.sr ?_
  refine WL.r rfl rfl rfl (rd_move rfl rfl) ?_
  refine WL.r rfl rfl rfl (rd_move rfl rfl) ?_
  refine WL.g rfl rfl rfl (og_bs1 rfl rfl Tryz.underlying31 (by kernel_rfl : _ = some (some (.string (S [])), 1, 16)) rfl (by simp only [List.map]; rfl) rfl rfl ?_ (by decide)) ?_
  · simp [Value.cells]
  intro b11
  refine WL.r rfl rfl rfl (rd_move rfl rfl) ?_
  refine WL.g rfl rfl rfl (og_bs1 rfl rfl Tryz.underlying31 (by kernel_rfl : _ = some (some (.string (S [])), 1, 16)) rfl (by simp only [List.map]; rfl) rfl rfl ?_ (by decide)) ?_
  · simp [Value.cells]
  intro b13
  refine WL.g rfl rfl rfl (og_call rfl rfl (by kernel_rfl) (keep_val fun w hS => check_c (l := [a, b]) (ms := [m]) (by (exact hS.os)) (by (exact hS.os)) (by (simp <;> omega)) (by (simp <;> omega)) (by (simp <;> omega)) (by (simp <;> omega)))) ?_
  intro _
  refine WL.r rfl rfl rfl (rd_assign rfl rfl) ?_
  refine WL.nt ?_
  refine WC.sr ?_
  refine WL.r rfl rfl rfl (rd_move rfl rfl) ?_
  refine WL.r rfl rfl rfl (rd_neq rfl rfl rfl) ?_
  refine WL.nt ?_
  refine WC.cond rfl (fun hc16 => ?_) (fun hc16 => ?_)
  · (try simp only [sB] at hc16)
    have hr : mulM a b m = ([], chkM [a, b] [m]) := by rw [mulM, if_neg (by simpa using hc16)]
    refine WC.sr ?_
    refine WL.r rfl rfl rfl (rd_move rfl rfl) ?_
    refine WL.r rfl rfl rfl (rd_assign rfl rfl) ?_
    refine WL.r rfl rfl rfl (rd_assign rfl rfl) ?_
    refine WL.nt ?_
    refine WC.ret ?_
    refine WX.then_ret ?_
    exact WX.retN rfl (.tmp rfl (.tmp rfl .nil)) fun w' hS => ⟨by rw [hr]; rfl, hS.below⟩
  · (try simp only [sB] at hc16)
    have h0 : chkM [a, b] [m] = 0 := by simpa using hc16
    have hr : mulM a b m = (canon (val a * val b % val m), 0) := by rw [mulM, if_pos h0]
    obtain ⟨ha, hb, hm, hm0⟩ := chk2 h0
    refine WC.skip ?_
    refine WX.then_normal ?_
    refine WC.sr ?_
    refine WL.r rfl rfl rfl (rd_move rfl rfl) ?_
    refine WL.r rfl rfl rfl (rd_move rfl rfl) ?_
    refine WL.r rfl rfl rfl (rd_move rfl rfl) ?_
    refine WL.g rfl rfl rfl (og_call rfl rfl (by kernel_rfl) (keep_val fun w hS => times_c (a := a) (b := b) (m := m) (by exact ha) (by exact hb) (by exact hm) (by exact hm0) (by exact ha8) (by exact hb8) (by exact hm8))) ?_
    intro _
    refine WL.r rfl rfl rfl (rd_assign rfl rfl) ?_
    refine WL.r rfl rfl rfl (rd_assign rfl rfl) ?_
    refine WL.nt ?_
    refine WC.ret ?_
    exact WX.retN rfl (.tmp rfl (.tmp rfl .nil)) fun w' hS => ⟨by rw [hr]; rfl, hS.below⟩
end Go.Proofs.YtbcnnkcddilfjaaGreat
