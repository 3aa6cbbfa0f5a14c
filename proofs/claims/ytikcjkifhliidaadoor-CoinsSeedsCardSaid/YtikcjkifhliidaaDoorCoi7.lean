/-
  Signed.
-/
import Derived.Test.YtikcjkifhliidaaDoorCoi6
namespace Go.Proofs.YtikcjkifhliidaaDoor
set_option linter.unusedSimpArgs false
set_option linter.unusedVariables false
set_option maxRecDepth 20000
set_option maxHeartbeats 600000
open Go.RowKit

theorem cmpN_okl {a b : Bs} (h : cmpN a b < 0) : okN a := by
  unfold cmpN at h; split at h
  · rename_i h1; exact h1.1
  · omega
theorem findA_okN {t : Tp} {n : Bs} : ∀ (f a : Nat) (x : Bs), findA t n f a = some x → okN x
  | 0, a, x, h => by cases h
  | f + 1, a, x, h => by
    unfold findA at h; split at h
    · rename_i h1; injection h with h; subst h; exact cmpN_okl h1
    · exact findA_okN f (a + 1) x h
theorem draw_okN {t : Tp} {n : Bs} (hg : goodT t) (h : (drawS t n).2.2 = 0) : okN (drawS t n).1 := by
  unfold drawS at h ⊢
  split
  · rename_i h1
    rw [if_pos h1] at h
    split
    · rename_i h2; rw [if_pos h2] at h; cases h
    · exact hg.2.2 _ (getD_memB _ _ (by have := hg.1; omega))
  · rename_i h1
    rw [if_neg h1] at h
    split
    · rename_i h2; rw [if_pos h2] at h; cases h
    · rename_i h2
      rw [if_neg h2] at h
      cases hf : findA t n 256 0 with
      | none => rw [hf] at h; cases h
      | some x => exact findA_okN _ _ _ hf
def signedS (t : Tp) (n : Bs) : Zs × Tp × Int :=
  if readyS t n ≠ 0 then ((false, []), zeroT, readyS t n)
  else if Big ≤ 2 * val n - 1 then ((false, []), zeroT, 5)
  else if (drawS t (canon (2 * val n - 1))).2.2 ≠ 0 then ((false, []), zeroT, (drawS t (canon (2 * val n - 1))).2.2)
  else ((subZ (false, (drawS t (canon (2 * val n - 1))).1) (false, canon (val n - 1))).1, (drawS t (canon (2 * val n - 1))).2.1, 0)
theorem val_one : val [1] = 1 := rfl
theorem ok_one : okN [1] := by decide
theorem val_pos {n : Bs} (h : okN n) (h0 : n ≠ []) : 1 ≤ val n := by
  rcases Nat.eq_zero_or_pos (val n) with q | q
  · exact absurd ((val_eq_zero h.2).1 q) h0
  · exact q
theorem val_big {n : Bs} (h : okN n) : val n < Big := Nat.lt_of_lt_of_le (val_lt n) (Nat.pow_le_pow_right (by decide) h.1)
theorem okN_canon {n : Nat} (h : n < Big) : okN (canon n) := ⟨canon_big.2 h, can_canon n⟩
theorem sgn0 {r : Zs × Tp × Int} {n : Int} {ok : Nat → Prop} {w0 w : World} {own : List Ent} {fs : List Fact} {T : TypeId} (hr : r = ((false, []), zeroT, n)) (hS : St ok w0 own fs w) :
    ∃ g : Rs, Ending.returned (tup [.agg #[.bool false, .string (S [])], .agg #[.slice none 0 0, .string (S []), .int .i64 0], .int .i64 n]) = Ending.returned (.tuple #[zV r.1, r.2.1.v (g.val r.2.1.vals.length), .int .i64 r.2.2]) ∧ g.cap = r.2.1.vals.length + g.sp.length ∧ St ok w0 [g.ent (strs r.2.1.vals) T] [] w := by
  subst hr
  exact ⟨⟨none, 0, []⟩, rfl, rfl, (hS.nil T).sub (List.singleton_sublist.2 (by simp [Rs.ent, zeroT])) (fun _ h => by cases h)⟩
theorem signed_c {t : Tp} {n : Bs} {a : Option Addr} {cap : Nat} {w : World} {ok : Nat → Prop} (hF1 : (Fact.sl a (strs t.vals)).holds ok w) (hl : t.vals.length ≤ 100000) (hsd : t.seed.length ≤ 400000) (hT : Tab w) :
    Calls Tryd.prog 22 #[t.v (.slice a t.vals.length cap), .string (S n)] w fun e w' => ∃ g : Rs, e = .returned (.tuple #[zV (signedS t n).1, (signedS t n).2.1.v (g.val (signedS t n).2.1.vals.length), .int .i64 (signedS t n).2.2]) ∧ g.cap = (signedS t n).2.1.vals.length + g.sp.length ∧ St (fun _ => True) w [g.ent (strs (signedS t n).2.1.vals) 33] [] w' := by
  refine enter (S := St (fun _ => True) w [] ([Fact.sl a (strs t.vals)])) (L := [(0, t.v (.slice a t.vals.length cap)), (1, .string (S n))]) Tryd.func22 rfl Tryd.ntmps22 rfl (args_cons rfl (args_cons rfl (args_nil _))) (St.start (fun _ _ => trivial) (facts_cons (fact_any hF1) facts_nil)) ?_
  refine WC.sr ?_
  refine WL.g rfl rfl rfl (og_box rfl rfl (by (exact cells_agg _))) ?_
  intro b2
  refine WL.g rfl rfl rfl (og_alloc rfl (v := (.agg #[.bool false, .string (S [])])) (cs := [.bool false, .string (S [])]) (by kernel_rfl) rfl) ?_
  intro b4
  refine WL.g rfl rfl rfl (og_alloc rfl (v := (.agg #[.slice none 0 0, .string (S []), .int .i64 0])) (cs := [.slice none 0 0, .string (S []), .int .i64 0]) (by kernel_rfl) rfl) ?_
  intro b5
  refine WL.r rfl rfl rfl (rd_assign rfl rfl) ?_
  refine WL.nt ?_
  refine WC.seq ?_
  refine WC.sr ?_
  refine WL.r rfl rfl rfl (lda rfl rfl .tc Tryd.underlying24 rfl ?_) ?_
  · kernel_rfl
  refine WL.r rfl rfl rfl (rd_move rfl rfl) ?_
  refine WL.g rfl rfl rfl (og_call rfl rfl (by kernel_rfl) (keep_val fun w hS => ready_c (t := t) (n := n) (by (exact hS.sl)) (by assumption))) ?_
  intro _
  refine WL.r rfl rfl rfl (rd_assign rfl rfl) ?_
  refine WL.nt ?_
  refine WC.sr ?_
  refine WL.r rfl rfl rfl (rd_move rfl rfl) ?_
  refine WL.r rfl rfl rfl (rd_neq rfl rfl rfl) ?_
  refine WL.nt ?_
  refine WC.cond rfl (fun hc21 => ?_) (fun hc21 => ?_)
  · (try simp only [sB] at hc21)
    have hr : signedS t n = ((false, []), zeroT, readyS t n) := by rw [signedS, if_pos (by simpa using hc21)]
    refine WC.sr ?_
    refine WL.r rfl rfl rfl (rd_bld [[.bool false], [.string (S [])]] rfl rfl (by simp only [bld, fldv, Nat.beq, Value.cells, cond_true, cond_false, List.nil_append, List.cons_append, List.append_nil]; rfl) (fun w => by kernel_rfl)) ?_
    refine WL.r rfl rfl rfl (rd_bld [[.slice none 0 0], [.string (S [])], [.int .i64 0]] rfl rfl (by simp only [bld, fldv, Nat.beq, Value.cells, cond_true, cond_false, List.nil_append, List.cons_append, List.append_nil]; rfl) (fun w => by kernel_rfl)) ?_
    refine WL.r rfl rfl rfl (rd_move rfl rfl) ?_
    refine WL.g0 rfl rfl (sta rfl rfl rfl .tc ?_ ?_ ?_) ?_
    · kernel_rfl
    · simp [Value.oneCell']
    · rfl
    intro _
    refine WL.g0 rfl rfl (sta rfl rfl rfl .tc ?_ ?_ ?_) ?_
    · kernel_rfl
    · simp [Value.oneCell']
    · rfl
    intro _
    refine WL.r rfl rfl rfl (rd_assign rfl rfl) ?_
    refine WL.nt ?_
    refine WC.ret ?_
    refine WX.then_ret ?_
    exact WX.retN rfl (.agg rfl .tc Tryd.underlying41 rfl (by kernel_rfl) (.agg rfl .tc Tryd.underlying24 rfl (by kernel_rfl) (.tmp rfl .nil))) fun w' hS => sgn0 hr hS
  · (try simp only [sB] at hc21)
    have hrd : readyS t n = 0 := by simpa using hc21
    obtain ⟨k1, k2, k3⟩ := ready_ok hrd
    have hv1 := val_pos k2 k3
    have hvb := val_big k2
    have hdb : addN n n = if val n + val n < Big then (canon (val n + val n), 0) else ([], 5) := by rw [addN, if_pos ⟨k2, k2⟩]
    have hls : subN n [1] = (canon (val n - 1), 0) := by rw [subN_ok k2 ok_one (by rw [val_one]; exact hv1), val_one]
    refine WC.skip ?_
    refine WX.then_normal ?_
    refine WC.sr ?_
    refine WL.r rfl rfl rfl (rd_move rfl rfl) ?_
    refine WL.r rfl rfl rfl (rd_move rfl rfl) ?_
    refine WL.g rfl rfl rfl (og_call rfl rfl (by kernel_rfl) (keep_val fun w hS => add_c (a := n) (b := n))) ?_
    intro _
    refine WL.r rfl rfl rfl (rd_move rfl rfl) ?_
    refine WL.r rfl rfl rfl (rd_extL rfl rfl rfl) ?_
    refine WL.r rfl rfl rfl (rd_extL rfl rfl rfl) ?_
    refine WL.r rfl rfl rfl (rd_assign rfl rfl) ?_
    refine WL.r rfl rfl rfl (rd_assign rfl rfl) ?_
    refine WL.nt ?_
    refine WC.sr ?_
    refine WL.r rfl rfl rfl (rd_move rfl rfl) ?_
    refine WL.g rfl rfl rfl (og_call rfl rfl (by kernel_rfl) (keep_val fun w hS => (by have := sub_c (w := w) (a := n) (b := [1]); rw [hls] at this; exact this))) ?_
    intro _
    refine WL.r rfl rfl rfl (rd_move rfl rfl) ?_
    refine WL.r rfl rfl rfl (rd_extL rfl rfl rfl) ?_
    refine WL.r rfl rfl rfl (rd_extL rfl rfl rfl) ?_
    refine WL.r rfl rfl rfl (rd_assign rfl rfl) ?_
    refine WL.r rfl rfl rfl (rd_assign rfl rfl) ?_
    refine WL.nt ?_
    refine WC.sr ?_
    refine WL.r rfl rfl rfl (rd_move rfl rfl) ?_
    refine WL.r rfl rfl rfl (rd_assign rfl rfl) ?_
    refine WL.nt ?_
    refine WC.seq ?_
    refine WC.sr ?_
    refine WL.r rfl rfl rfl (rd_move rfl rfl) ?_
    refine WL.r rfl rfl rfl (rd_eql rfl rfl rfl) ?_
    refine WL.nt ?_
    refine WC.cond rfl (fun hc38 => ?_) (fun hc38 => ?_)
    · (try simp only [sB] at hc38)
      have h2v : val n + val n < Big := by rcases Nat.lt_or_ge (val n + val n) Big with q | q; exact q; rw [hdb, if_neg (by omega)] at hc38; cases hc38
      have hM1 : subN (addN n n).1 [1] = (canon (2 * val n - 1), 0) := by rw [hdb, if_pos h2v, subN_ok (okN_canon h2v) ok_one (by rw [val_one, val_canon]; omega), val_one, val_canon]; congr 2; omega
      have hMB : 2 * val n - 1 < Big := by omega
      refine WC.region ?_
      refine WL.r rfl rfl rfl (rd_move rfl rfl) ?_
      refine WL.g rfl rfl rfl (og_call rfl rfl (by kernel_rfl) (keep_val fun w hS => (by have := sub_c (w := w) (a := (addN n n).1) (b := [1]); rw [hM1] at this; exact this))) ?_
      intro _
      refine WL.r rfl rfl rfl (rd_move rfl rfl) ?_
      refine WL.r rfl rfl rfl (rd_extL rfl rfl rfl) ?_
      refine WL.r rfl rfl rfl (rd_extL rfl rfl rfl) ?_
      refine WL.r rfl rfl rfl (rd_assign rfl rfl) ?_
      refine WL.nt ?_
      refine WC.sr ?_
      obtain ⟨M, hMe⟩ : ∃ M, M = canon (2 * val n - 1) := ⟨_, rfl⟩
      have hMok : okN M := by rw [hMe]; exact okN_canon hMB
      have hMne : M ≠ [] := fun h => by have h1 := congrArg val (hMe.symm.trans h); rw [val_canon] at h1; simp [val] at h1; omega
      refine WL.set 12 rfl (v' := .string (S M)) (by rw [hMe]) ?_
      refine WL.r rfl rfl rfl (lda rfl rfl .tc Tryd.underlying24 rfl ?_) ?_
      · kernel_rfl
      refine WL.r rfl rfl rfl (rd_move rfl rfl) ?_
      refine WL.g rfl rfl rfl (og_call rfl rfl (by kernel_rfl) (keep_o1 fun w hS => draw_c (t := t) (n := M) (by (exact hS.sl)) (by assumption) (by assumption) (by assumption) (by assumption) (by assumption) (by (exact tab_st hT hS)))) ?_
      intro g57
      refine WL.pu ?_
      intro hg57; (try dsimp only at hg57 ⊢)
      refine WL.r rfl rfl rfl (rd_move rfl rfl) ?_
      refine WL.r rfl rfl rfl (rd_extL rfl rfl rfl) ?_
      refine WL.r rfl rfl rfl (rd_extL rfl rfl rfl) ?_
      refine WL.r rfl rfl rfl (rd_extL rfl rfl rfl) ?_
      refine WL.g rfl rfl rfl (og_alloc rfl (v := (.agg #[.slice none 0 0, .string (S []), .int .i64 0])) (cs := [.slice none 0 0, .string (S []), .int .i64 0]) (by kernel_rfl) rfl) ?_
      intro b14
      refine WL.r rfl rfl rfl (rd_assign rfl rfl) ?_
      refine WL.g0 rfl rfl (sta rfl rfl rfl .tc ?_ ?_ ?_) ?_
      · kernel_rfl
      · simp [Value.oneCell']
      · rfl
      intro _
      refine WL.r rfl rfl rfl (rd_assign rfl rfl) ?_
      refine WL.nt ?_
      refine WC.seq ?_
      refine WC.sr ?_
      refine WL.r rfl rfl rfl (rd_move rfl rfl) ?_
      refine WL.r rfl rfl rfl (rd_neq rfl rfl rfl) ?_
      refine WL.nt ?_
      refine WC.cond rfl (fun hc62 => ?_) (fun hc62 => ?_)
      · (try simp only [sB] at hc62)
        have hr : signedS t n = ((false, []), zeroT, (drawS t M).2.2) := by rw [signedS, if_neg (by simp [hrd]), if_neg (by omega), ← hMe, if_pos (by simpa using hc62)]
        refine WC.sr ?_
        refine WL.r rfl rfl rfl (rd_bld [[.bool false], [.string (S [])]] rfl rfl (by simp only [bld, fldv, Nat.beq, Value.cells, cond_true, cond_false, List.nil_append, List.cons_append, List.append_nil]; rfl) (fun w => by kernel_rfl)) ?_
        refine WL.r rfl rfl rfl (rd_bld [[.slice none 0 0], [.string (S [])], [.int .i64 0]] rfl rfl (by simp only [bld, fldv, Nat.beq, Value.cells, cond_true, cond_false, List.nil_append, List.cons_append, List.append_nil]; rfl) (fun w => by kernel_rfl)) ?_
        refine WL.r rfl rfl rfl (rd_move rfl rfl) ?_
        refine WL.g0 rfl rfl (sta rfl rfl rfl .tc ?_ ?_ ?_) ?_
        · kernel_rfl
        · simp [Value.oneCell']
        · rfl
        intro _
        refine WL.g0 rfl rfl (sta rfl rfl rfl .tc ?_ ?_ ?_) ?_
        · kernel_rfl
        · simp [Value.oneCell']
        · rfl
        intro _
        refine WL.r rfl rfl rfl (rd_assign rfl rfl) ?_
        refine WL.nt ?_
        refine WC.ret ?_
        refine WX.then_ret ?_
        exact WX.retN rfl (.agg rfl .tc Tryd.underlying41 rfl (by kernel_rfl) (.agg rfl .tc Tryd.underlying24 rfl (by kernel_rfl) (.tmp rfl .nil))) fun w' hS => sgn0 hr hS
      · (try simp only [sB] at hc62)
        have hd0 : (drawS t M).2.2 = 0 := by simpa using hc62
        have hr : signedS t n = ((subZ (false, (drawS t M).1) (false, canon (val n - 1))).1, (drawS t M).2.1, 0) := by rw [signedS, if_neg (by simp [hrd]), if_neg (by omega), ← hMe, if_neg (by simp [hd0])]
        refine WC.skip ?_
        refine WX.then_normal ?_
        refine WC.sr ?_
        refine WL.r rfl rfl rfl (rd_move rfl rfl) ?_
        refine WL.r rfl rfl rfl (rd_bld [[.bool false], [.string (S [])]] rfl rfl (by simp only [bld, fldv, Nat.beq, Value.cells, cond_true, cond_false, List.nil_append, List.cons_append, List.append_nil]; rfl) (fun w => by kernel_rfl)) ?_
        refine WL.r rfl rfl rfl (rd_move rfl rfl) ?_
        refine WL.r rfl rfl rfl (rd_bld [[.bool false], [.string (S [])]] rfl rfl (by simp only [bld, fldv, Nat.beq, Value.cells, cond_true, cond_false, List.nil_append, List.cons_append, List.append_nil]; rfl) (fun w => by kernel_rfl)) ?_
        refine WL.g rfl rfl rfl (og_call rfl rfl (by kernel_rfl) (keep_val fun w hS => zsub_c (x := (false, (drawS t M).1)) (y := (false, canon (val n - 1))))) ?_
        intro _
        refine WL.r rfl rfl rfl (rd_move rfl rfl) ?_
        refine WL.r rfl rfl rfl (rd_extL rfl rfl rfl) ?_
        refine WL.r rfl rfl rfl (rd_extL rfl rfl rfl) ?_
        refine WL.g rfl rfl rfl (og_alloc rfl (v := (.agg #[.bool false, .string (S [])])) (cs := [.bool false, .string (S [])]) (by kernel_rfl) rfl) ?_
        intro b15
        refine WL.g0 rfl rfl (sta rfl rfl rfl .tc ?_ ?_ ?_) ?_
        · kernel_rfl
        · simp [Value.oneCell']
        · rfl
        intro _
        refine WL.r rfl rfl rfl (rd_assign rfl rfl) ?_
        refine WL.nt ?_
        refine WC.seq ?_
        refine WC.free (K := [⟨some b15, [.bool (subZ (false, (drawS t M).1) (false, canon (val n - 1))).1.1, .string (S (subZ (false, (drawS t M).1) (false, canon (val n - 1))).1.2)], 41⟩, ⟨some b14, [g57.val (drawS t M).2.1.vals.length, .string (S (drawS t M).2.1.seed), .int .i64 (drawS t M).2.1.at_], 24⟩]) (fs0 := []) [0, 2, 1] [3, 4] [0, 0, 1, 2, 2] (by kernel_rfl) (by kernel_rfl) rfl ?_
        refine WJ.r rfl rfl rfl rfl rfl (lda rfl rfl .tc Tryd.underlying41 rfl ?_) ?_
        · kernel_rfl
        refine WJ.st rfl rfl rfl rfl (staJ rfl rfl rfl ?_ ?_ ?_) ?_
        · kernel_rfl
        · simp [Value.oneCell']
        · rfl
        refine WJ.r rfl rfl rfl rfl rfl (lda rfl rfl .tc Tryd.underlying24 rfl ?_) ?_
        · kernel_rfl
        refine WJ.nil ?_
        refine WL.g0 rfl rfl (sta rfl rfl rfl .tc ?_ ?_ ?_) ?_
        · kernel_rfl
        · simp [Value.oneCell']
        · rfl
        intro _
        refine WL.r rfl rfl rfl (rd_assign rfl rfl) ?_
        refine WL.nt ?_
        refine WC.ret ?_
        exact WX.retN rfl (.agg rfl .tc Tryd.underlying41 rfl (by kernel_rfl) (.agg rfl .tc Tryd.underlying24 rfl (by kernel_rfl) (.tmp rfl .nil))) fun w' hS => ⟨g57, by rw [hr]; rfl, by rw [hr]; exact hg57, by rw [hr]; exact st_sub _ hS⟩
    · (try simp only [sB] at hc38)
      have h2v : ¬ val n + val n < Big := fun q => by rw [hdb, if_pos q] at hc38; exact hc38 rfl
      have hM2 : addN n (canon (val n - 1)) = if 2 * val n - 1 < Big then (canon (2 * val n - 1), 0) else ([], 5) := by rw [addN, if_pos ⟨k2, okN_canon (by omega)⟩, val_canon, show val n + (val n - 1) = 2 * val n - 1 by omega]
      refine WC.sr ?_
      refine WL.r rfl rfl rfl (rd_move rfl rfl) ?_
      refine WL.r rfl rfl rfl (rd_move rfl rfl) ?_
      refine WL.g rfl rfl rfl (og_call rfl rfl (by kernel_rfl) (keep_val fun w hS => add_c (w := w) (a := n) (b := canon (val n - 1)))) ?_
      intro _
      refine WL.r rfl rfl rfl (rd_move rfl rfl) ?_
      refine WL.r rfl rfl rfl (rd_extL rfl rfl rfl) ?_
      refine WL.r rfl rfl rfl (rd_extL rfl rfl rfl) ?_
      refine WL.r rfl rfl rfl (rd_assign rfl rfl) ?_
      refine WL.r rfl rfl rfl (rd_assign rfl rfl) ?_
      refine WL.nt ?_
      refine WC.sr ?_
      refine WL.r rfl rfl rfl (rd_move rfl rfl) ?_
      refine WL.r rfl rfl rfl (rd_neq rfl rfl rfl) ?_
      refine WL.nt ?_
      refine WC.cond rfl (fun hc51 => ?_) (fun hc51 => ?_)
      · (try simp only [sB] at hc51)
        have hr : signedS t n = ((false, []), zeroT, 5) := by rw [signedS, if_neg (by simp [hrd]), if_pos (Nat.not_lt.1 fun q => by rw [hM2, if_pos q] at hc51; exact hc51 rfl)]
        refine WC.sr ?_
        refine WL.r rfl rfl rfl (rd_bld [[.bool false], [.string (S [])]] rfl rfl (by simp only [bld, fldv, Nat.beq, Value.cells, cond_true, cond_false, List.nil_append, List.cons_append, List.append_nil]; rfl) (fun w => by kernel_rfl)) ?_
        refine WL.r rfl rfl rfl (rd_bld [[.slice none 0 0], [.string (S [])], [.int .i64 0]] rfl rfl (by simp only [bld, fldv, Nat.beq, Value.cells, cond_true, cond_false, List.nil_append, List.cons_append, List.append_nil]; rfl) (fun w => by kernel_rfl)) ?_
        refine WL.g0 rfl rfl (sta rfl rfl rfl .tc ?_ ?_ ?_) ?_
        · kernel_rfl
        · simp [Value.oneCell']
        · rfl
        intro _
        refine WL.g0 rfl rfl (sta rfl rfl rfl .tc ?_ ?_ ?_) ?_
        · kernel_rfl
        · simp [Value.oneCell']
        · rfl
        intro _
        refine WL.r rfl rfl rfl (rd_assign rfl rfl) ?_
        refine WL.nt ?_
        refine WC.ret ?_
        refine WX.then_ret ?_
        exact WX.retN rfl (.agg rfl .tc Tryd.underlying41 rfl (by kernel_rfl) (.agg rfl .tc Tryd.underlying24 rfl (by kernel_rfl) (.tmp rfl .nil))) fun w' hS => sgn0 hr hS
      · (try simp only [sB] at hc51)
        have hMB : 2 * val n - 1 < Big := by rcases Nat.lt_or_ge (2 * val n - 1) Big with q | q; exact q; rw [hM2, if_neg (by omega)] at hc51; cases hc51
        rw [if_pos hMB] at hM2
        refine WC.set 12 rfl (v' := .string (S (canon (2 * val n - 1)))) (by rw [hM2]) ?_
        refine WC.skip ?_
        refine WX.then_normal ?_
        refine WC.sr ?_
        obtain ⟨M, hMe⟩ : ∃ M, M = canon (2 * val n - 1) := ⟨_, rfl⟩
        have hMok : okN M := by rw [hMe]; exact okN_canon hMB
        have hMne : M ≠ [] := fun h => by have h1 := congrArg val (hMe.symm.trans h); rw [val_canon] at h1; simp [val] at h1; omega
        refine WL.set 12 rfl (v' := .string (S M)) (by rw [hMe]) ?_
        refine WL.r rfl rfl rfl (lda rfl rfl .tc Tryd.underlying24 rfl ?_) ?_
        · kernel_rfl
        refine WL.r rfl rfl rfl (rd_move rfl rfl) ?_
        refine WL.g rfl rfl rfl (og_call rfl rfl (by kernel_rfl) (keep_o1 fun w hS => draw_c (t := t) (n := M) (by (exact hS.sl)) (by assumption) (by assumption) (by assumption) (by assumption) (by assumption) (by (exact tab_st hT hS)))) ?_
        intro g57
        refine WL.pu ?_
        intro hg57; (try dsimp only at hg57 ⊢)
        refine WL.r rfl rfl rfl (rd_move rfl rfl) ?_
        refine WL.r rfl rfl rfl (rd_extL rfl rfl rfl) ?_
        refine WL.r rfl rfl rfl (rd_extL rfl rfl rfl) ?_
        refine WL.r rfl rfl rfl (rd_extL rfl rfl rfl) ?_
        refine WL.g rfl rfl rfl (og_alloc rfl (v := (.agg #[.slice none 0 0, .string (S []), .int .i64 0])) (cs := [.slice none 0 0, .string (S []), .int .i64 0]) (by kernel_rfl) rfl) ?_
        intro b14
        refine WL.r rfl rfl rfl (rd_assign rfl rfl) ?_
        refine WL.g0 rfl rfl (sta rfl rfl rfl .tc ?_ ?_ ?_) ?_
        · kernel_rfl
        · simp [Value.oneCell']
        · rfl
        intro _
        refine WL.r rfl rfl rfl (rd_assign rfl rfl) ?_
        refine WL.nt ?_
        refine WC.seq ?_
        refine WC.sr ?_
        refine WL.r rfl rfl rfl (rd_move rfl rfl) ?_
        refine WL.r rfl rfl rfl (rd_neq rfl rfl rfl) ?_
        refine WL.nt ?_
        refine WC.cond rfl (fun hc62 => ?_) (fun hc62 => ?_)
        · (try simp only [sB] at hc62)
          have hr : signedS t n = ((false, []), zeroT, (drawS t M).2.2) := by rw [signedS, if_neg (by simp [hrd]), if_neg (by omega), ← hMe, if_pos (by simpa using hc62)]
          refine WC.sr ?_
          refine WL.r rfl rfl rfl (rd_bld [[.bool false], [.string (S [])]] rfl rfl (by simp only [bld, fldv, Nat.beq, Value.cells, cond_true, cond_false, List.nil_append, List.cons_append, List.append_nil]; rfl) (fun w => by kernel_rfl)) ?_
          refine WL.r rfl rfl rfl (rd_bld [[.slice none 0 0], [.string (S [])], [.int .i64 0]] rfl rfl (by simp only [bld, fldv, Nat.beq, Value.cells, cond_true, cond_false, List.nil_append, List.cons_append, List.append_nil]; rfl) (fun w => by kernel_rfl)) ?_
          refine WL.r rfl rfl rfl (rd_move rfl rfl) ?_
          refine WL.g0 rfl rfl (sta rfl rfl rfl .tc ?_ ?_ ?_) ?_
          · kernel_rfl
          · simp [Value.oneCell']
          · rfl
          intro _
          refine WL.g0 rfl rfl (sta rfl rfl rfl .tc ?_ ?_ ?_) ?_
          · kernel_rfl
          · simp [Value.oneCell']
          · rfl
          intro _
          refine WL.r rfl rfl rfl (rd_assign rfl rfl) ?_
          refine WL.nt ?_
          refine WC.ret ?_
          refine WX.then_ret ?_
          exact WX.retN rfl (.agg rfl .tc Tryd.underlying41 rfl (by kernel_rfl) (.agg rfl .tc Tryd.underlying24 rfl (by kernel_rfl) (.tmp rfl .nil))) fun w' hS => sgn0 hr hS
        · (try simp only [sB] at hc62)
          have hd0 : (drawS t M).2.2 = 0 := by simpa using hc62
          have hr : signedS t n = ((subZ (false, (drawS t M).1) (false, canon (val n - 1))).1, (drawS t M).2.1, 0) := by rw [signedS, if_neg (by simp [hrd]), if_neg (by omega), ← hMe, if_neg (by simp [hd0])]
          refine WC.skip ?_
          refine WX.then_normal ?_
          refine WC.sr ?_
          refine WL.r rfl rfl rfl (rd_move rfl rfl) ?_
          refine WL.r rfl rfl rfl (rd_bld [[.bool false], [.string (S [])]] rfl rfl (by simp only [bld, fldv, Nat.beq, Value.cells, cond_true, cond_false, List.nil_append, List.cons_append, List.append_nil]; rfl) (fun w => by kernel_rfl)) ?_
          refine WL.r rfl rfl rfl (rd_move rfl rfl) ?_
          refine WL.r rfl rfl rfl (rd_bld [[.bool false], [.string (S [])]] rfl rfl (by simp only [bld, fldv, Nat.beq, Value.cells, cond_true, cond_false, List.nil_append, List.cons_append, List.append_nil]; rfl) (fun w => by kernel_rfl)) ?_
          refine WL.g rfl rfl rfl (og_call rfl rfl (by kernel_rfl) (keep_val fun w hS => zsub_c (x := (false, (drawS t M).1)) (y := (false, canon (val n - 1))))) ?_
          intro _
          refine WL.r rfl rfl rfl (rd_move rfl rfl) ?_
          refine WL.r rfl rfl rfl (rd_extL rfl rfl rfl) ?_
          refine WL.r rfl rfl rfl (rd_extL rfl rfl rfl) ?_
          refine WL.g rfl rfl rfl (og_alloc rfl (v := (.agg #[.bool false, .string (S [])])) (cs := [.bool false, .string (S [])]) (by kernel_rfl) rfl) ?_
          intro b15
          refine WL.g0 rfl rfl (sta rfl rfl rfl .tc ?_ ?_ ?_) ?_
          · kernel_rfl
          · simp [Value.oneCell']
          · rfl
          intro _
          refine WL.r rfl rfl rfl (rd_assign rfl rfl) ?_
          refine WL.nt ?_
          refine WC.seq ?_
          refine WC.free (K := [⟨some b15, [.bool (subZ (false, (drawS t M).1) (false, canon (val n - 1))).1.1, .string (S (subZ (false, (drawS t M).1) (false, canon (val n - 1))).1.2)], 41⟩, ⟨some b14, [g57.val (drawS t M).2.1.vals.length, .string (S (drawS t M).2.1.seed), .int .i64 (drawS t M).2.1.at_], 24⟩]) (fs0 := []) [0, 2, 1] [3, 4] [0, 0, 1, 2, 2] (by kernel_rfl) (by kernel_rfl) rfl ?_
          refine WJ.r rfl rfl rfl rfl rfl (lda rfl rfl .tc Tryd.underlying41 rfl ?_) ?_
          · kernel_rfl
          refine WJ.st rfl rfl rfl rfl (staJ rfl rfl rfl ?_ ?_ ?_) ?_
          · kernel_rfl
          · simp [Value.oneCell']
          · rfl
          refine WJ.r rfl rfl rfl rfl rfl (lda rfl rfl .tc Tryd.underlying24 rfl ?_) ?_
          · kernel_rfl
          refine WJ.nil ?_
          refine WL.g0 rfl rfl (sta rfl rfl rfl .tc ?_ ?_ ?_) ?_
          · kernel_rfl
          · simp [Value.oneCell']
          · rfl
          intro _
          refine WL.r rfl rfl rfl (rd_assign rfl rfl) ?_
          refine WL.nt ?_
          refine WC.ret ?_
          exact WX.retN rfl (.agg rfl .tc Tryd.underlying41 rfl (by kernel_rfl) (.agg rfl .tc Tryd.underlying24 rfl (by kernel_rfl) (.tmp rfl .nil))) fun w' hS => ⟨g57, by rw [hr]; rfl, by rw [hr]; exact hg57, by rw [hr]; exact st_sub _ hS⟩
theorem rsigned_c {t : Tp} {n : Bs} {a : Option Addr} {cap : Nat} {w : World} {ok : Nat → Prop} (hF1 : (Fact.sl a (strs t.vals)).holds ok w) (hl : t.vals.length ≤ 100000) (hsd : t.seed.length ≤ 400000) :
    Calls Tryd.prog 23 #[t.v (.slice a t.vals.length cap), .string (S n)] w fun e w' => ∃ g : Rs, e = .returned (.tuple #[zV (signedS t n).1, (signedS t n).2.1.v (g.val (signedS t n).2.1.vals.length), .int .i64 (signedS t n).2.2]) ∧ g.cap = (signedS t n).2.1.vals.length + g.sp.length ∧ St (fun _ => True) w [g.ent (strs (signedS t n).2.1.vals) 33] [] w' := by
  refine enter (S := St (fun _ => True) w [] ([Fact.sl a (strs t.vals)])) (L := [(0, t.v (.slice a t.vals.length cap)), (1, .string (S n))]) Tryd.func23 rfl Tryd.ntmps23 rfl (args_cons rfl (args_cons rfl (args_nil _))) (St.start (fun _ _ => trivial) (facts_cons (fact_any hF1) facts_nil)) ?_
  refine WC.sr ?_
  refine WL.g rfl rfl rfl (og_box rfl rfl (by (exact cells_agg _))) ?_
  intro b2
  refine WL.g rfl rfl rfl (og_alloc rfl (v := (.agg #[.bool false, .string (S [])])) (cs := [.bool false, .string (S [])]) (by kernel_rfl) rfl) ?_
  intro b4
  refine WL.g rfl rfl rfl (og_alloc rfl (v := (.agg #[.slice none 0 0, .string (S []), .int .i64 0])) (cs := [.slice none 0 0, .string (S []), .int .i64 0]) (by kernel_rfl) rfl) ?_
  intro b5
  refine WL.r rfl rfl rfl (rd_assign rfl rfl) ?_
  refine WL.nt ?_
  refine WC.seq ?_
  refine WC.sr ?_
  refine WL.r rfl rfl rfl (lda rfl rfl .tc Tryd.underlying24 rfl ?_) ?_
  · kernel_rfl
  refine WL.g rfl rfl rfl (og_call rfl rfl (by kernel_rfl) (keep_val fun w hS => rgood_c (t := t) (by (exact hS.sl)) (by omega))) ?_
  intro _
  refine WL.r rfl rfl rfl (rd_not rfl rfl) ?_
  refine WL.r rfl rfl rfl (rd_move rfl rfl) ?_
  refine WL.bool 18 rfl (fun hg18 => ?_) (fun hg18 => ?_)
  · (try simp only [sB] at hg18)
    refine WL.s rfl rfl rfl ?_
    refine WL.s rfl rfl rfl ?_
    refine WL.s rfl rfl rfl ?_
    refine WL.r rfl rfl rfl (rd_pickt rfl rfl rfl) ?_
    refine WL.nt ?_
    refine WC.cond rfl (fun _ => ?_) (fun h => by cases h)
    refine WC.sr ?_
    refine WL.r rfl rfl rfl (rd_bld [[.bool false], [.string (S [])]] rfl rfl (by simp only [bld, fldv, Nat.beq, Value.cells, cond_true, cond_false, List.nil_append, List.cons_append, List.append_nil]; rfl) (fun w => by kernel_rfl)) ?_
    refine WL.r rfl rfl rfl (rd_bld [[.slice none 0 0], [.string (S [])], [.int .i64 0]] rfl rfl (by simp only [bld, fldv, Nat.beq, Value.cells, cond_true, cond_false, List.nil_append, List.cons_append, List.append_nil]; rfl) (fun w => by kernel_rfl)) ?_
    refine WL.g0 rfl rfl (sta rfl rfl rfl .tc ?_ ?_ ?_) ?_
    · kernel_rfl
    · simp [Value.oneCell']
    · rfl
    intro _
    refine WL.g0 rfl rfl (sta rfl rfl rfl .tc ?_ ?_ ?_) ?_
    · kernel_rfl
    · simp [Value.oneCell']
    · rfl
    intro _
    refine WL.r rfl rfl rfl (rd_assign rfl rfl) ?_
    refine WL.nt ?_
    refine WC.ret ?_
    refine WX.then_ret ?_
    exact WX.retN rfl (.agg rfl .tc Tryd.underlying41 rfl (by kernel_rfl) (.agg rfl .tc Tryd.underlying24 rfl (by kernel_rfl) (.tmp rfl .nil))) fun w' hS => sgn0 (by rw [signedS, show readyS t n = 3 from by rw [readyS, if_neg (by simp_all)], if_pos (by decide)]) hS
  · (try simp only [sB] at hg18)
    refine WL.r rfl rfl rfl (rd_move rfl rfl) ?_
    refine WL.g rfl rfl rfl (og_call rfl rfl (by kernel_rfl) (keep_val fun w hS => rvalid_c)) ?_
    intro _
    refine WL.r rfl rfl rfl (rd_not rfl rfl) ?_
    refine WL.r rfl rfl rfl (rd_pickf rfl rfl rfl) ?_
    refine WL.nt ?_
    refine WC.cond rfl (fun hc22 => ?_) (fun hc22 => ?_)
    · (try simp only [sB] at hc22)
      refine WC.sr ?_
      refine WL.r rfl rfl rfl (rd_bld [[.bool false], [.string (S [])]] rfl rfl (by simp only [bld, fldv, Nat.beq, Value.cells, cond_true, cond_false, List.nil_append, List.cons_append, List.append_nil]; rfl) (fun w => by kernel_rfl)) ?_
      refine WL.r rfl rfl rfl (rd_bld [[.slice none 0 0], [.string (S [])], [.int .i64 0]] rfl rfl (by simp only [bld, fldv, Nat.beq, Value.cells, cond_true, cond_false, List.nil_append, List.cons_append, List.append_nil]; rfl) (fun w => by kernel_rfl)) ?_
      refine WL.g0 rfl rfl (sta rfl rfl rfl .tc ?_ ?_ ?_) ?_
      · kernel_rfl
      · simp [Value.oneCell']
      · rfl
      intro _
      refine WL.g0 rfl rfl (sta rfl rfl rfl .tc ?_ ?_ ?_) ?_
      · kernel_rfl
      · simp [Value.oneCell']
      · rfl
      intro _
      refine WL.r rfl rfl rfl (rd_assign rfl rfl) ?_
      refine WL.nt ?_
      refine WC.ret ?_
      refine WX.then_ret ?_
      exact WX.retN rfl (.agg rfl .tc Tryd.underlying41 rfl (by kernel_rfl) (.agg rfl .tc Tryd.underlying24 rfl (by kernel_rfl) (.tmp rfl .nil))) fun w' hS => sgn0 (by rw [signedS, show readyS t n = 3 from by rw [readyS, if_neg (by simp_all)], if_pos (by decide)]) hS
    · (try simp only [sB] at hc22)
      have hgn : goodT t ∧ okN n := by simp_all
      refine WC.skip ?_
      refine WX.then_normal ?_
      refine WC.seq ?_
      refine WC.sr ?_
      refine WL.r rfl rfl rfl (rd_move rfl rfl) ?_
      refine WL.r rfl rfl rfl (rd_seq rfl rfl rfl) ?_
      refine WL.nt ?_
      refine WC.cond rfl (fun hc26 => ?_) (fun hc26 => ?_)
      · (try simp only [sB] at hc26)
        refine WC.sr ?_
        refine WL.r rfl rfl rfl (rd_bld [[.bool false], [.string (S [])]] rfl rfl (by simp only [bld, fldv, Nat.beq, Value.cells, cond_true, cond_false, List.nil_append, List.cons_append, List.append_nil]; rfl) (fun w => by kernel_rfl)) ?_
        refine WL.r rfl rfl rfl (rd_bld [[.slice none 0 0], [.string (S [])], [.int .i64 0]] rfl rfl (by simp only [bld, fldv, Nat.beq, Value.cells, cond_true, cond_false, List.nil_append, List.cons_append, List.append_nil]; rfl) (fun w => by kernel_rfl)) ?_
        refine WL.g0 rfl rfl (sta rfl rfl rfl .tc ?_ ?_ ?_) ?_
        · kernel_rfl
        · simp [Value.oneCell']
        · rfl
        intro _
        refine WL.g0 rfl rfl (sta rfl rfl rfl .tc ?_ ?_ ?_) ?_
        · kernel_rfl
        · simp [Value.oneCell']
        · rfl
        intro _
        refine WL.r rfl rfl rfl (rd_assign rfl rfl) ?_
        refine WL.nt ?_
        refine WC.ret ?_
        refine WX.then_ret ?_
        exact WX.retN rfl (.agg rfl .tc Tryd.underlying41 rfl (by kernel_rfl) (.agg rfl .tc Tryd.underlying24 rfl (by kernel_rfl) (.tmp rfl .nil))) fun w' hS => sgn0 (by rw [signedS, show readyS t n = 11 from by rw [readyS, if_pos hgn, if_pos (by simpa using hc26)], if_pos (by decide)]) hS
      · (try simp only [sB] at hc26)
        have k3 : n ≠ [] := by simpa using hc26
        have k1 := hgn.1; have k2 := hgn.2
        have hrd : readyS t n = 0 := by rw [readyS, if_pos hgn, if_neg k3]
        have hv1 := val_pos k2 k3
        have hvb := val_big k2
        have hls : subN n (canon 1) = (canon (val n - 1), 0) := by rw [subN_ok k2 (okN_canon (by omega)) (by rw [val_canon]; exact hv1), val_canon]
        have hM2 : addN n (canon (val n - 1)) = if 2 * val n - 1 < Big then (canon (2 * val n - 1), 0) else ([], 5) := by rw [addN, if_pos ⟨k2, okN_canon (by omega)⟩, val_canon, show val n + (val n - 1) = 2 * val n - 1 by omega]
        refine WC.skip ?_
        refine WX.then_normal ?_
        refine WC.sr ?_
        refine WL.r rfl rfl rfl (rd_move rfl rfl) ?_
        refine WL.g rfl rfl rfl (og_call rfl rfl (by kernel_rfl) (keep_val fun w hS => rof_c (n := 1) (by omega))) ?_
        intro _
        refine WL.g rfl rfl rfl (og_call rfl rfl (by kernel_rfl) (keep_val fun w hS => (by have := rsub_c (w := w) (a := n) (b := canon 1); rw [hls] at this; exact this))) ?_
        intro _
        refine WL.r rfl rfl rfl (rd_move rfl rfl) ?_
        refine WL.r rfl rfl rfl (rd_extL rfl rfl rfl) ?_
        refine WL.r rfl rfl rfl (rd_extL rfl rfl rfl) ?_
        refine WL.r rfl rfl rfl (rd_assign rfl rfl) ?_
        refine WL.r rfl rfl rfl (rd_assign rfl rfl) ?_
        refine WL.nt ?_
        refine WC.sr ?_
        refine WL.r rfl rfl rfl (rd_move rfl rfl) ?_
        refine WL.r rfl rfl rfl (rd_move rfl rfl) ?_
        refine WL.g rfl rfl rfl (og_call rfl rfl (by kernel_rfl) (keep_val fun w hS => radd_c (w := w) (a := n) (b := canon (val n - 1)))) ?_
        intro _
        refine WL.r rfl rfl rfl (rd_move rfl rfl) ?_
        refine WL.r rfl rfl rfl (rd_extL rfl rfl rfl) ?_
        refine WL.r rfl rfl rfl (rd_extL rfl rfl rfl) ?_
        refine WL.r rfl rfl rfl (rd_assign rfl rfl) ?_
        refine WL.r rfl rfl rfl (rd_assign rfl rfl) ?_
        refine WL.nt ?_
        refine WC.seq ?_
        refine WC.sr ?_
        refine WL.r rfl rfl rfl (rd_move rfl rfl) ?_
        refine WL.r rfl rfl rfl (rd_neq rfl rfl rfl) ?_
        refine WL.nt ?_
        refine WC.cond rfl (fun hc42 => ?_) (fun hc42 => ?_)
        · (try simp only [sB] at hc42)
          have hr : signedS t n = ((false, []), zeroT, (addN n (canon (val n - 1))).2) := by
            have hnB : ¬ 2 * val n - 1 < Big := fun q => by rw [hM2, if_pos q] at hc42; exact hc42 rfl
            rw [signedS, if_neg (by simp [hrd]), if_pos (by omega), hM2, if_neg hnB]
          refine WC.sr ?_
          refine WL.r rfl rfl rfl (rd_bld [[.bool false], [.string (S [])]] rfl rfl (by simp only [bld, fldv, Nat.beq, Value.cells, cond_true, cond_false, List.nil_append, List.cons_append, List.append_nil]; rfl) (fun w => by kernel_rfl)) ?_
          refine WL.r rfl rfl rfl (rd_bld [[.slice none 0 0], [.string (S [])], [.int .i64 0]] rfl rfl (by simp only [bld, fldv, Nat.beq, Value.cells, cond_true, cond_false, List.nil_append, List.cons_append, List.append_nil]; rfl) (fun w => by kernel_rfl)) ?_
          refine WL.r rfl rfl rfl (rd_move rfl rfl) ?_
          refine WL.g0 rfl rfl (sta rfl rfl rfl .tc ?_ ?_ ?_) ?_
          · kernel_rfl
          · simp [Value.oneCell']
          · rfl
          intro _
          refine WL.g0 rfl rfl (sta rfl rfl rfl .tc ?_ ?_ ?_) ?_
          · kernel_rfl
          · simp [Value.oneCell']
          · rfl
          intro _
          refine WL.r rfl rfl rfl (rd_assign rfl rfl) ?_
          refine WL.nt ?_
          refine WC.ret ?_
          refine WX.then_ret ?_
          exact WX.retN rfl (.agg rfl .tc Tryd.underlying41 rfl (by kernel_rfl) (.agg rfl .tc Tryd.underlying24 rfl (by kernel_rfl) (.tmp rfl .nil))) fun w' hS => sgn0 hr hS
        · (try simp only [sB] at hc42)
          have hMB : 2 * val n - 1 < Big := by rcases Nat.lt_or_ge (2 * val n - 1) Big with q | q; exact q; rw [hM2, if_neg (by omega)] at hc42; cases hc42
          rw [if_pos hMB] at hM2
          refine WC.set 9 rfl (v' := .string (S (canon (2 * val n - 1)))) (by rw [hM2]) ?_
          refine WC.skip ?_
          refine WX.then_normal ?_
          refine WC.sr ?_
          obtain ⟨M, hMe⟩ : ∃ M, M = canon (2 * val n - 1) := ⟨_, rfl⟩
          have hMok : okN M := by rw [hMe]; exact okN_canon hMB
          have hMne : M ≠ [] := fun h => by have h1 := congrArg val (hMe.symm.trans h); rw [val_canon] at h1; simp [val] at h1; omega
          refine WL.set 9 rfl (v' := .string (S M)) (by rw [hMe]) ?_
          refine WL.r rfl rfl rfl (lda rfl rfl .tc Tryd.underlying24 rfl ?_) ?_
          · kernel_rfl
          refine WL.r rfl rfl rfl (rd_move rfl rfl) ?_
          refine WL.g rfl rfl rfl (og_call rfl rfl (by kernel_rfl) (keep_o1 fun w hS => rdraw_c (t := t) (n := M) (by (exact hS.sl)) (by assumption) (by assumption) (by assumption) (by assumption) (by assumption))) ?_
          intro g49
          refine WL.pu ?_
          intro hg49; (try dsimp only at hg49 ⊢)
          refine WL.r rfl rfl rfl (rd_move rfl rfl) ?_
          refine WL.r rfl rfl rfl (rd_extL rfl rfl rfl) ?_
          refine WL.r rfl rfl rfl (rd_extL rfl rfl rfl) ?_
          refine WL.r rfl rfl rfl (rd_extL rfl rfl rfl) ?_
          refine WL.g rfl rfl rfl (og_alloc rfl (v := (.agg #[.slice none 0 0, .string (S []), .int .i64 0])) (cs := [.slice none 0 0, .string (S []), .int .i64 0]) (by kernel_rfl) rfl) ?_
          intro b12
          refine WL.r rfl rfl rfl (rd_assign rfl rfl) ?_
          refine WL.g0 rfl rfl (sta rfl rfl rfl .tc ?_ ?_ ?_) ?_
          · kernel_rfl
          · simp [Value.oneCell']
          · rfl
          intro _
          refine WL.r rfl rfl rfl (rd_assign rfl rfl) ?_
          refine WL.nt ?_
          refine WC.seq ?_
          refine WC.sr ?_
          refine WL.r rfl rfl rfl (rd_move rfl rfl) ?_
          refine WL.r rfl rfl rfl (rd_neq rfl rfl rfl) ?_
          refine WL.nt ?_
          refine WC.cond rfl (fun hc54 => ?_) (fun hc54 => ?_)
          · (try simp only [sB] at hc54)
            have hr : signedS t n = ((false, []), zeroT, (drawS t M).2.2) := by rw [signedS, if_neg (by simp [hrd]), if_neg (by omega), ← hMe, if_pos (by simpa using hc54)]
            refine WC.sr ?_
            refine WL.r rfl rfl rfl (rd_bld [[.bool false], [.string (S [])]] rfl rfl (by simp only [bld, fldv, Nat.beq, Value.cells, cond_true, cond_false, List.nil_append, List.cons_append, List.append_nil]; rfl) (fun w => by kernel_rfl)) ?_
            refine WL.r rfl rfl rfl (rd_bld [[.slice none 0 0], [.string (S [])], [.int .i64 0]] rfl rfl (by simp only [bld, fldv, Nat.beq, Value.cells, cond_true, cond_false, List.nil_append, List.cons_append, List.append_nil]; rfl) (fun w => by kernel_rfl)) ?_
            refine WL.r rfl rfl rfl (rd_move rfl rfl) ?_
            refine WL.g0 rfl rfl (sta rfl rfl rfl .tc ?_ ?_ ?_) ?_
            · kernel_rfl
            · simp [Value.oneCell']
            · rfl
            intro _
            refine WL.g0 rfl rfl (sta rfl rfl rfl .tc ?_ ?_ ?_) ?_
            · kernel_rfl
            · simp [Value.oneCell']
            · rfl
            intro _
            refine WL.r rfl rfl rfl (rd_assign rfl rfl) ?_
            refine WL.nt ?_
            refine WC.ret ?_
            refine WX.then_ret ?_
            exact WX.retN rfl (.agg rfl .tc Tryd.underlying41 rfl (by kernel_rfl) (.agg rfl .tc Tryd.underlying24 rfl (by kernel_rfl) (.tmp rfl .nil))) fun w' hS => sgn0 hr hS
          · (try simp only [sB] at hc54)
            have hd0 : (drawS t M).2.2 = 0 := by simpa using hc54
            have hxo := draw_okN k1 hd0
            have hr : signedS t n = ((subZ (false, (drawS t M).1) (false, canon (val n - 1))).1, (drawS t M).2.1, 0) := by rw [signedS, if_neg (by simp [hrd]), if_neg (by omega), ← hMe, if_neg (by simp [hd0])]
            refine WC.skip ?_
            refine WX.then_normal ?_
            refine WC.sr ?_
            refine WL.r rfl rfl rfl (rd_move rfl rfl) ?_
            refine WL.g rfl rfl rfl (og_call rfl rfl (by kernel_rfl) (keep_val fun w hS => (by have := rfrom_c (w := w) (a := (drawS t M).1); rw [if_pos hxo] at this; exact this))) ?_
            intro _
            refine WL.r rfl rfl rfl (rd_move rfl rfl) ?_
            refine WL.g rfl rfl rfl (og_call rfl rfl (by kernel_rfl) (keep_val fun w hS => (by have := rfrom_c (w := w) (a := canon (val n - 1)); rw [if_pos (okN_canon (by omega))] at this; exact this))) ?_
            intro _
            refine WL.g rfl rfl rfl (og_call rfl rfl (by kernel_rfl) (keep_val fun w hS => rzsub_c (x := (false, (drawS t M).1)) (y := (false, canon (val n - 1))))) ?_
            intro _
            refine WL.r rfl rfl rfl (rd_move rfl rfl) ?_
            refine WL.r rfl rfl rfl (rd_extL rfl rfl rfl) ?_
            refine WL.r rfl rfl rfl (rd_extL rfl rfl rfl) ?_
            refine WL.g rfl rfl rfl (og_alloc rfl (v := (.agg #[.bool false, .string (S [])])) (cs := [.bool false, .string (S [])]) (by kernel_rfl) rfl) ?_
            intro b13
            refine WL.g0 rfl rfl (sta rfl rfl rfl .tc ?_ ?_ ?_) ?_
            · kernel_rfl
            · simp [Value.oneCell']
            · rfl
            intro _
            refine WL.r rfl rfl rfl (rd_assign rfl rfl) ?_
            refine WL.nt ?_
            refine WC.seq ?_
            refine WC.free (K := [⟨some b13, [.bool (subZ (false, (drawS t M).1) (false, canon (val n - 1))).1.1, .string (S (subZ (false, (drawS t M).1) (false, canon (val n - 1))).1.2)], 41⟩, ⟨some b12, [g49.val (drawS t M).2.1.vals.length, .string (S (drawS t M).2.1.seed), .int .i64 (drawS t M).2.1.at_], 24⟩]) (fs0 := []) [0, 2, 1] [3, 4] [0, 0, 1, 2, 2] (by kernel_rfl) (by kernel_rfl) rfl ?_
            refine WJ.r rfl rfl rfl rfl rfl (lda rfl rfl .tc Tryd.underlying41 rfl ?_) ?_
            · kernel_rfl
            refine WJ.st rfl rfl rfl rfl (staJ rfl rfl rfl ?_ ?_ ?_) ?_
            · kernel_rfl
            · simp [Value.oneCell']
            · rfl
            refine WJ.r rfl rfl rfl rfl rfl (lda rfl rfl .tc Tryd.underlying24 rfl ?_) ?_
            · kernel_rfl
            refine WJ.nil ?_
            refine WL.g0 rfl rfl (sta rfl rfl rfl .tc ?_ ?_ ?_) ?_
            · kernel_rfl
            · simp [Value.oneCell']
            · rfl
            intro _
            refine WL.r rfl rfl rfl (rd_assign rfl rfl) ?_
            refine WL.nt ?_
            refine WC.ret ?_
            exact WX.retN rfl (.agg rfl .tc Tryd.underlying41 rfl (by kernel_rfl) (.agg rfl .tc Tryd.underlying24 rfl (by kernel_rfl) (.tmp rfl .nil))) fun w' hS => ⟨g49, by rw [hr]; rfl, by rw [hr]; exact hg49, by rw [hr]; exact st_sub _ hS⟩
end Go.Proofs.YtikcjkifhliidaaDoor
