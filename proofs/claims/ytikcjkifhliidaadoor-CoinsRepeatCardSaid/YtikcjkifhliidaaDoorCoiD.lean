/-
  The statements about coins: CoinsRepeat, CoinsSeeds, CoinsSpread.
-/
import Derived.Test.YtikcjkifhliidaaDoorCoiC
import Derived.Test.YtikcjkifhliidaaDoorZed
import Derived.Test.YtikcjkifhliidaaDoorJoin
namespace Go.Proofs.YtikcjkifhliidaaDoor
set_option linter.unusedSimpArgs false
set_option linter.unusedVariables false
set_option maxRecDepth 20000
set_option maxHeartbeats 600000
open Go.RowKit

theorem draw_err {t : Tp} {n : Bs} (h : (drawS t n).2.2 ≠ 0) : drawS t n = ([], zeroT, (drawS t n).2.2) := by
  unfold drawS at h ⊢
  split
  · rename_i h1
    rw [if_pos h1] at h
    split
    · rfl
    · rename_i h2; rw [if_neg h2] at h; exact absurd rfl h
  · rename_i h1
    rw [if_neg h1] at h
    split
    · rfl
    · rename_i h2
      rw [if_neg h2] at h
      cases hf : findA t n 256 0 with
      | none => rfl
      | some x => rw [hf] at h; exact absurd rfl h
theorem drawsA_bad (n : Bs) : ∀ (k : Nat) (t : Tp) (o : List Bs), (drawsA n k t o).2.2 ≠ 0 → drawsA n k t o = ([], zeroT, (drawsA n k t o).2.2)
  | 0, t, o, h => absurd rfl h
  | k + 1, t, o, h => by
    unfold drawsA at h ⊢
    split
    · rfl
    · rename_i h1; rw [if_neg h1] at h; exact drawsA_bad n k _ _ h
theorem many_bad {t : Tp} {n : Bs} {c : Int} (h : (manyS t n c).2.2 ≠ 0) : manyS t n c = ([], zeroT, (manyS t n c).2.2) := by
  unfold manyS at h ⊢
  split
  · rfl
  · rename_i h1
    rw [if_neg h1] at h
    split
    · rfl
    · rename_i h2; rw [if_neg h2] at h; exact drawsA_bad _ _ _ _ h
/-- what was drawn before stays -/
theorem drawsA_pre (n : Bs) : ∀ (k : Nat) (t : Tp) (o : List Bs), (drawsA n k t o).2.2 = 0 → ∃ r, (drawsA n k t o).1 = o ++ r ∧ r.length = k
  | 0, t, o, _ => ⟨[], by simp [drawsA], rfl⟩
  | k + 1, t, o, h => by
    unfold drawsA at h ⊢
    split
    · rename_i h1; rw [if_pos h1] at h; exact absurd h h1
    · rename_i h1
      rw [if_neg h1] at h
      obtain ⟨r, h2, h3⟩ := drawsA_pre n k _ _ h
      exact ⟨(drawS t n).1 :: r, by rw [h2]; simp, by simp [h3]⟩
theorem drawsA_ok1 {n : Bs} {k : Nat} {t : Tp} {o : List Bs} (hk : 0 < k) (h : (drawsA n k t o).2.2 = 0) : (drawS t n).2.2 = 0 := by
  rcases Int.decEq (drawS t n).2.2 0 with q | q
  · rw [drawsA_err hk q] at h; exact h
  · exact q
theorem findA_lt {t : Tp} {n : Bs} : ∀ (f a : Nat) (x : Bs), findA t n f a = some x → cmpN x n < 0
  | 0, a, x, h => by cases h
  | f + 1, a, x, h => by
    unfold findA at h; split at h
    · rename_i h1; injection h with h; subst h; exact h1
    · exact findA_lt f (a + 1) x h
theorem draw_lt {t : Tp} {n : Bs} (h : (drawS t n).2.2 = 0) : cmpN (drawS t n).1 n < 0 := by
  unfold drawS at h ⊢
  split
  · rename_i h1
    rw [if_pos h1] at h
    split
    · rename_i h2; rw [if_pos h2] at h; cases h
    · rename_i h2; show cmpN (t.vals.getD t.at_.toNat default) n < 0; omega
  · rename_i h1
    rw [if_neg h1] at h
    split
    · rename_i h2; rw [if_pos h2] at h; cases h
    · rename_i h2
      rw [if_neg h2] at h
      cases hf : findA t n 256 0 with
      | none => rw [hf] at h; cases h
      | some x => exact findA_lt _ _ _ hf
theorem below_draw {t : Tp} {n : Bs} (h2 : goodT t) (h3 : okN n) (h4 : n ≠ []) : belowS t n = drawS t n := by
  rw [belowS, if_neg (by rw [readyS, if_pos ⟨h2, h3⟩, if_neg h4]; simp)]
theorem many_ok {t : Tp} {n : Bs} {m : Nat} (hm : m ≤ 4096) (h : (manyS t n m).2.2 = 0) : goodT t ∧ okN n ∧ n ≠ [] ∧ manyS t n m = drawsA n m t [] := by
  rcases Int.decEq (readyS t n) 0 with q | q
  · rw [manyS, if_pos q] at h; exact absurd h q
  · obtain ⟨k1, k2, k3⟩ := ready_ok q
    exact ⟨k1, k2, k3, by rw [manyS, if_neg (by simp [q]), if_neg (by omega), Int.toNat_natCast]⟩
theorem getD_appB {o r : List Bs} {x : Bs} : (o ++ x :: r).getD o.length default = x := by
  rw [List.getD_eq_getElem?_getD, List.getElem?_append_right (Nat.le_refl _), Nat.sub_self]; rfl
/-- one draw of a row -/
theorem row_step {n : Bs} {k m : Nat} {u : Tp} {o : List Bs} {r : List Bs × Tp × Int} (hk : k < m) (ho : o.length = k) (hdr : drawsA n (m - k) u o = r) (h0 : r.2.2 = 0) :
    (drawS u n).2.2 = 0 ∧ drawsA n (m - (k + 1)) (drawS u n).2.1 (o ++ [(drawS u n).1]) = r ∧ r.1.getD k default = (drawS u n).1 := by
  have hd0 : (drawS u n).2.2 = 0 := drawsA_ok1 (k := m - k) (o := o) (by omega) (by rw [hdr]; exact h0)
  have h2 : drawsA n (m - (k + 1)) (drawS u n).2.1 (o ++ [(drawS u n).1]) = r := by
    rw [show m - (k + 1) = m - k - 1 by omega, drawsA_go (by omega) hd0, hdr]
  refine ⟨hd0, h2, ?_⟩
  obtain ⟨q, h3, _⟩ := drawsA_pre n (m - (k + 1)) (drawS u n).2.1 (o ++ [(drawS u n).1]) (by rw [h2]; exact h0)
  rw [← h2, h3, List.append_assoc, ← ho]
  exact getD_appB
theorem coinsRepeat_c {t : Tp} {n : Bs} {c : Int} {a : Option Addr} {cap : Nat} {w : World} {ok : Nat → Prop} (hF1 : (Fact.sl a (strs t.vals)).holds ok w) (hl : t.vals.length ≤ 9223372036854775807) (hc0 : 0 ≤ c) (hc1 : c ≤ 255) (hT : Tab w) :
    Calls Tryd.prog 10 #[t.v (.slice a t.vals.length cap), .string (S n), .int .u8 c] w fun e w' => e = .returned (.bool true) ∧ Below w.heap.size w w' := by
  refine enter (S := St (fun _ => True) w [] ([Fact.sl a (strs t.vals)])) (L := [(0, t.v (.slice a t.vals.length cap)), (1, .string (S n)), (2, .int .u8 c)]) Tryd.func10 rfl Tryd.ntmps10 rfl (args_cons rfl (args_cons rfl (args_cons rfl (args_nil _)))) (St.start (fun _ _ => trivial) (facts_cons (fact_any hF1) facts_nil)) ?_
  refine WC.sr ?_
  refine WL.g rfl rfl rfl (og_box rfl rfl (by (exact cells_agg _))) ?_
  intro b3
  refine WL.r rfl rfl rfl (rd_assign rfl rfl) ?_
  refine WL.nt ?_
  refine WC.seq ?_
  refine WC.sr ?_
  refine WL.r rfl rfl rfl (lda rfl rfl .tc Tryd.underlying24 rfl ?_) ?_
  · kernel_rfl
  refine WL.g rfl rfl rfl (og_call rfl rfl (by kernel_rfl) (keep_val fun w hS => fewT_c (t := t) (by (exact hS.sl)) (by assumption))) ?_
  intro _
  refine WL.r rfl rfl rfl (rd_not rfl rfl) ?_
  refine WL.r rfl rfl rfl (rd_move rfl rfl) ?_
  refine WL.bool 21 rfl (fun hg21 => ?_) (fun hg21 => ?_)
  · (try simp only [sB] at hg21)
    refine WL.s rfl rfl rfl ?_
    refine WL.s rfl rfl rfl ?_
    refine WL.s rfl rfl rfl ?_
    refine WL.r rfl rfl rfl (rd_pickt rfl rfl rfl) ?_
    refine WL.nt ?_
    refine WC.cond rfl (fun _ => ?_) (fun h => by cases h)
    refine WC.sr ?_
    refine WL.g rfl rfl rfl (og_call rfl rfl (by kernel_rfl) (keep_val fun w hS => awake_c (by (exact tab_st hT hS)))) ?_
    intro _
    refine WL.r rfl rfl rfl (rd_assign rfl rfl) ?_
    refine WL.nt ?_
    refine WC.ret ?_
    refine WX.then_ret ?_
    exact WX.retN rfl (.tmp rfl .nil) fun w' hS => ⟨by rfl, hS.below⟩
  · (try simp only [sB] at hg21)
    refine WL.r rfl rfl rfl (rd_move rfl rfl) ?_
    refine WL.r rfl rfl rfl (rd_slen rfl rfl Tryd.underlying33) ?_
    refine WL.r rfl rfl rfl (rd_gtr rfl rfl rfl) ?_
    refine WL.r rfl rfl rfl (rd_pickf rfl rfl rfl) ?_
    refine WL.nt ?_
    refine WC.cond rfl (fun hc25 => ?_) (fun hc25 => ?_)
    · (try simp only [sB] at hc25)
      refine WC.sr ?_
      refine WL.g rfl rfl rfl (og_call rfl rfl (by kernel_rfl) (keep_val fun w hS => awake_c (by (exact tab_st hT hS)))) ?_
      intro _
      refine WL.r rfl rfl rfl (rd_assign rfl rfl) ?_
      refine WL.nt ?_
      refine WC.ret ?_
      refine WX.then_ret ?_
      exact WX.retN rfl (.tmp rfl .nil) fun w' hS => ⟨by rfl, hS.below⟩
    · (try simp only [sB] at hc25)
      have hf : fewT t := by simp_all
      have hv := hf.1; have hse := hf.2.1
      obtain ⟨cn, rfl⟩ : ∃ k : Nat, c = (k : Int) := ⟨c.toNat, by omega⟩
      obtain ⟨m, hm⟩ : ∃ m : Nat, m = cn % 8 := ⟨_, rfl⟩
      have hm8 : m < 8 := by omega
      obtain ⟨r, hr⟩ : ∃ r, r = manyS t n m := ⟨_, rfl⟩
      have hm1 := many_len t n m
      have hm2 := many_vals t n m
      rw [← hr] at hm1 hm2
      refine WC.skip ?_
      refine WX.then_normal ?_
      refine WC.sr ?_
      refine WL.r rfl rfl rfl (rd_move rfl rfl) ?_
      refine WL.r rfl rfl rfl (rd_remN rfl rfl rfl (by decide)) ?_
      refine WL.set 28 rfl (v' := .int .u8 ((m : Nat) : Int)) (congrArg (Value.int .u8) (by omega)) ?_
      refine WL.r rfl rfl rfl (rd_convN rfl rfl Tryd.underlying5 Tryd.underlying3 ?_) ?_
      · (rw [IntKind.wrap_i64]; omega)
      refine WL.r rfl rfl rfl (rd_assign rfl rfl) ?_
      refine WL.nt ?_
      refine WC.sr ?_
      refine WL.r rfl rfl rfl (lda rfl rfl .tc Tryd.underlying24 rfl ?_) ?_
      · kernel_rfl
      refine WL.r rfl rfl rfl (rd_move rfl rfl) ?_
      refine WL.r rfl rfl rfl (rd_move rfl rfl) ?_
      refine WL.g rfl rfl rfl (og_call rfl rfl (by kernel_rfl) (keep_ff (γ := Rs × Option Addr × Nat) (val := fun g => .tuple #[g.1.val r.1.length, r.2.1.v (.slice g.2.1 r.2.1.vals.length g.2.2), .int .i64 r.2.2]) (p := fun g => g.1.cap = r.1.length + g.1.sp.length) (F := fun g => [Fact.sl g.1.a (strs r.1), Fact.sl g.2.1 (strs r.2.1.vals)]) fun w hS => (by have := many_c (t := t) (n := n) (c := m) (a := a) (cap := cap) (w := w) hS.slo (by omega) (by omega) (tab_st hT hS); rw [← hr] at this; exact this))) ?_
      rintro ⟨g30, a30, c30⟩; refine WL.pu ?_; intro hg30; (try dsimp only [List.cons_append, List.nil_append] at hg30 ⊢)
      refine WL.r rfl rfl rfl (rd_move rfl rfl) ?_
      refine WL.r rfl rfl rfl (rd_extL rfl rfl rfl) ?_
      refine WL.r rfl rfl rfl (rd_extL rfl rfl rfl) ?_
      refine WL.r rfl rfl rfl (rd_extL rfl rfl rfl) ?_
      refine WL.g rfl rfl rfl (og_alloc rfl (v := (.agg #[.slice none 0 0, .string (S []), .int .i64 0])) (cs := [.slice none 0 0, .string (S []), .int .i64 0]) (by kernel_rfl) rfl) ?_
      intro b9
      refine WL.r rfl rfl rfl (rd_assign rfl rfl) ?_
      refine WL.g0 rfl rfl (sta rfl rfl rfl .tc ?_ ?_ ?_) ?_
      · kernel_rfl
      · simp [Value.oneCell']
      · rfl
      intro _
      refine WL.r rfl rfl rfl (rd_assign rfl rfl) ?_
      refine WL.nt ?_
      refine WC.sr ?_
      refine WL.r rfl rfl rfl (lda rfl rfl .tc Tryd.underlying24 rfl ?_) ?_
      · kernel_rfl
      refine WL.r rfl rfl rfl (rd_move rfl rfl) ?_
      refine WL.r rfl rfl rfl (rd_move rfl rfl) ?_
      refine WL.g rfl rfl rfl (og_call rfl rfl (by kernel_rfl) (keep_ff (γ := Rs × Option Addr × Nat) (val := fun g => .tuple #[g.1.val r.1.length, r.2.1.v (.slice g.2.1 r.2.1.vals.length g.2.2), .int .i64 r.2.2]) (p := fun g => g.1.cap = r.1.length + g.1.sp.length) (F := fun g => [Fact.sl g.1.a (strs r.1), Fact.sl g.2.1 (strs r.2.1.vals)]) fun w hS => (by have := many_c (t := t) (n := n) (c := m) (a := a) (cap := cap) (w := w) hS.slo (by omega) (by omega) (tab_st hT hS); rw [← hr] at this; exact this))) ?_
      rintro ⟨g38, a38, c38⟩; refine WL.pu ?_; intro hg38; (try dsimp only [List.cons_append, List.nil_append] at hg38 ⊢)
      refine WL.r rfl rfl rfl (rd_move rfl rfl) ?_
      refine WL.r rfl rfl rfl (rd_extL rfl rfl rfl) ?_
      refine WL.r rfl rfl rfl (rd_extL rfl rfl rfl) ?_
      refine WL.r rfl rfl rfl (rd_extL rfl rfl rfl) ?_
      refine WL.g rfl rfl rfl (og_alloc rfl (v := (.agg #[.slice none 0 0, .string (S []), .int .i64 0])) (cs := [.slice none 0 0, .string (S []), .int .i64 0]) (by kernel_rfl) rfl) ?_
      intro b12
      refine WL.r rfl rfl rfl (rd_assign rfl rfl) ?_
      refine WL.g0 rfl rfl (sta rfl rfl rfl .tc ?_ ?_ ?_) ?_
      · kernel_rfl
      · simp [Value.oneCell']
      · rfl
      intro _
      refine WL.r rfl rfl rfl (rd_assign rfl rfl) ?_
      refine WL.nt ?_
      refine WC.seq ?_
      refine WC.sr ?_
      refine WL.r rfl rfl rfl (rd_move rfl rfl) ?_
      refine WL.r rfl rfl rfl (rd_move rfl rfl) ?_
      refine WL.r rfl rfl rfl (rd_neq rfl rfl rfl) ?_
      refine WL.r rfl rfl rfl (rd_move rfl rfl) ?_
      refine WL.bool 49 rfl (fun hg49 => ?_) (fun hg49 => ?_)
      · (try simp only [sB] at hg49)
        refine WL.s rfl rfl rfl ?_
        refine WL.s rfl rfl rfl ?_
        refine WL.s rfl rfl rfl ?_
        refine WL.s rfl rfl rfl ?_
        refine WL.r rfl rfl rfl (rd_pickt rfl rfl rfl) ?_
        refine WL.r rfl rfl rfl (rd_move rfl rfl) ?_
        refine WL.s rfl rfl rfl ?_
        refine WL.s rfl rfl rfl ?_
        refine WL.s rfl rfl rfl ?_
        refine WL.s rfl rfl rfl ?_
        refine WL.r rfl rfl rfl (rd_pickt rfl rfl rfl) ?_
        refine WL.nt ?_
        refine WC.cond rfl (fun _ => ?_) (fun h => by cases h)
        refine WC.sr ?_
        refine WL.r rfl rfl rfl (rd_assign rfl rfl) ?_
        refine WL.nt ?_
        refine WC.ret ?_
        refine WX.then_ret ?_
        exfalso; simp_all
      · (try simp only [sB] at hg49)
        refine WL.r rfl rfl rfl (rd_move rfl rfl) ?_
        refine WL.r rfl rfl rfl (rd_move rfl rfl) ?_
        refine WL.g rfl rfl rfl (og_call rfl rfl (by kernel_rfl) (keep_val fun w hS => sameN_c (l := r.1) (m := r.1) (by (exact hS.sl)) (by (exact hS.sl)) (by omega) (by omega))) ?_
        intro _
        refine WL.r rfl rfl rfl (rd_not rfl rfl) ?_
        refine WL.r rfl rfl rfl (rd_pickf rfl rfl rfl) ?_
        refine WL.r rfl rfl rfl (rd_move rfl rfl) ?_
        refine WL.bool 55 rfl (fun hg55 => ?_) (fun hg55 => ?_)
        · (try simp only [sB] at hg55)
          refine WL.s rfl rfl rfl ?_
          refine WL.s rfl rfl rfl ?_
          refine WL.s rfl rfl rfl ?_
          refine WL.s rfl rfl rfl ?_
          refine WL.r rfl rfl rfl (rd_pickt rfl rfl rfl) ?_
          refine WL.nt ?_
          refine WC.cond rfl (fun _ => ?_) (fun h => by cases h)
          refine WC.sr ?_
          refine WL.r rfl rfl rfl (rd_assign rfl rfl) ?_
          refine WL.nt ?_
          refine WC.ret ?_
          refine WX.then_ret ?_
          exfalso; simp_all
        · (try simp only [sB] at hg55)
          refine WL.r rfl rfl rfl (lda rfl rfl .tc Tryd.underlying24 rfl ?_) ?_
          · kernel_rfl
          refine WL.r rfl rfl rfl (lda rfl rfl .tc Tryd.underlying24 rfl ?_) ?_
          · kernel_rfl
          refine WL.g rfl rfl rfl (og_call rfl rfl (by kernel_rfl) (keep_val fun w hS => sameT_c (t := r.2.1) (u := r.2.1) (by (exact hS.sl)) (by (exact hS.sl)) (by omega) (by omega))) ?_
          intro _
          refine WL.r rfl rfl rfl (rd_not rfl rfl) ?_
          refine WL.r rfl rfl rfl (rd_pickf rfl rfl rfl) ?_
          refine WL.nt ?_
          refine WC.cond rfl (fun hc60 => ?_) (fun hc60 => ?_)
          · (try simp only [sB] at hc60)
            refine WC.sr ?_
            refine WL.r rfl rfl rfl (rd_assign rfl rfl) ?_
            refine WL.nt ?_
            refine WC.ret ?_
            refine WX.then_ret ?_
            exfalso; simp_all
          · (try simp only [sB] at hc60)
            refine WC.skip ?_
            refine WX.then_normal ?_
            refine WC.seq ?_
            refine WC.sr ?_
            refine WL.r rfl rfl rfl (rd_move rfl rfl) ?_
            refine WL.r rfl rfl rfl (rd_neq rfl rfl rfl) ?_
            refine WL.nt ?_
            refine WC.cond rfl (fun hc62 => ?_) (fun hc62 => ?_)
            · (try simp only [sB] at hc62)
              have hb : r = ([], zeroT, r.2.2) := by rw [hr]; exact many_bad (by rw [← hr]; simpa using hc62)
              obtain ⟨e, he⟩ : ∃ e, e = r.2.2 := ⟨_, rfl⟩
              rw [← he] at hb
              subst hb
              refine WC.sr ?_
              refine WL.g rfl rfl rfl (og_call rfl rfl (by kernel_rfl) (keep_val fun w hS => awake_c (by (exact tab_st hT hS)))) ?_
              intro _
              refine WL.r rfl rfl rfl (rd_move rfl rfl) ?_
              refine WL.set 64 rfl (v' := .bool true) (by rfl) ?_
              refine WL.r rfl rfl rfl (rd_move rfl rfl) ?_
              refine WL.r rfl rfl rfl (rd_len rfl rfl Tryd.underlying22) ?_
              refine WL.r rfl rfl rfl (rd_eql rfl rfl rfl) ?_
              refine WL.r rfl rfl rfl (rd_pickt rfl rfl rfl) ?_
              refine WL.r rfl rfl rfl (rd_move rfl rfl) ?_
              refine WL.set 69 rfl (v' := .bool true) (by rfl) ?_
              refine WL.r rfl rfl rfl (lda rfl rfl .tc Tryd.underlying24 rfl ?_) ?_
              · kernel_rfl
              refine WL.r rfl rfl rfl (rd_bld [[.slice none 0 0], [.string (S [])], [.int .i64 0]] rfl rfl (by simp only [bld, fldv, Nat.beq, Value.cells, cond_true, cond_false, List.nil_append, List.cons_append, List.append_nil]; rfl) (fun w => by kernel_rfl)) ?_
              refine WL.g rfl rfl rfl (og_call rfl rfl (by kernel_rfl) (keep_val fun w hS => sameT_c (t := zeroT) (u := zeroT) (by (exact hS.sl)) (by (exact sl_nil)) (by decide) (by decide))) ?_
              intro _
              refine WL.r rfl rfl rfl (rd_pickt rfl rfl rfl) ?_
              refine WL.r rfl rfl rfl (rd_assign rfl rfl) ?_
              refine WL.nt ?_
              refine WC.ret ?_
              refine WX.then_ret ?_
              exact WX.retN rfl (.tmp rfl .nil) fun w' hS => ⟨by rfl, hS.below⟩
            · (try simp only [sB] at hc62)
              have h0 : r.2.2 = 0 := by simpa using hc62
              obtain ⟨k1, k2, k3, hdr0⟩ := many_ok (t := t) (n := n) (m := m) (by omega) (by rw [← hr]; exact h0)
              rw [← hr] at hdr0
              obtain ⟨q0, hq1, hq2⟩ := drawsA_pre n m t [] (by rw [← hdr0]; exact h0)
              rw [← hdr0, List.nil_append] at hq1
              have hrl : r.1.length = m := by rw [hq1]; exact hq2
              refine WC.skip ?_
              refine WX.then_normal ?_
              refine WC.seq ?_
              refine WC.sr ?_
              refine WL.r rfl rfl rfl (rd_assign rfl rfl) ?_
              refine WL.nt ?_
              refine WC.block ?_
              refine WC.loopO (σ := Nat × Tp × (List Bs) × (Option Addr) × Nat) [(1, _), (3, _), (7, _), (8, _), (9, _)] (fun g => [(14, .int .i64 (g.1 : Int))]) (fun g => g.1 ≤ m ∧ g.2.2.1.length = g.1 ∧ drawsA n (m - g.1) g.2.1 g.2.2.1 = r ∧ goodT g.2.1 ∧ g.2.1.vals.length ≤ 40 ∧ g.2.1.seed.length ≤ 100) (fun g => m - g.1) (fun g => [⟨some b9, [.slice a30 r.2.1.vals.length c30, .string (S r.2.1.seed), .int .i64 r.2.1.at_], 24⟩, ⟨some b3, [.slice g.2.2.2.1 g.2.1.vals.length g.2.2.2.2, .string (S g.2.1.seed), .int .i64 g.2.1.at_], 24⟩]) (fun g => [Fact.sl g.2.2.2.1 (strs g.2.1.vals), Fact.sl g30.a (strs r.1), Fact.sl a30 (strs r.2.1.vals)]) (0, t, [], a, cap) (sub_cons rfl (sub_cons rfl (sub_cons rfl (sub_cons rfl (sub_cons rfl (sub_nil _)))))) (sub_cons rfl (sub_nil _)) (by (try dsimp only); exact ⟨by omega, rfl, hdr0.symm, k1, hv, hse⟩) (by exact st_mem (by simp)) ?_
              rintro ⟨k, u, o, a', c'⟩ hinv1; (try dsimp only at hinv1 ⊢)
              obtain ⟨hk, hok, hdr, hgu, hul, hus⟩ := hinv1
              refine WC.seq ?_
              refine WC.sr ?_
              refine WL.r rfl rfl rfl (rd_move rfl rfl) ?_
              refine WL.r rfl rfl rfl (rd_move rfl rfl) ?_
              refine WL.r rfl rfl rfl (rd_lss rfl rfl rfl) ?_
              refine WL.nt ?_
              refine WC.cond rfl (fun hc76 => ?_) (fun hc76 => ?_)
              · (try simp only [sB] at hc76)
                obtain ⟨hd0, hd1, hd2⟩ := row_step (by omega) hok hdr h0
                have hd3 := draw_lt hd0
                have hd4 := draw_next hd0
                have hd5 := draw_good hgu (by omega) hd0
                have hbd := below_draw hgu k2 k3
                obtain ⟨q, hq⟩ : ∃ q, q = drawS u n := ⟨_, rfl⟩
                rw [← hq] at hd0 hd1 hd2 hd3 hd4 hd5 hbd
                have hd6 : q.2.1.vals.length ≤ 40 := by rw [hd4]; exact hul
                have hd7 : q.2.1.seed.length ≤ 100 := by rw [hd4]; exact hus
                refine WC.skip ?_
                refine WX.then_normal ?_
                refine WC.seq ?_
                refine WC.block ?_
                refine WC.sr ?_
                refine WL.r rfl rfl rfl (lda rfl rfl .tc Tryd.underlying24 rfl ?_) ?_
                · kernel_rfl
                refine WL.r rfl rfl rfl (rd_move rfl rfl) ?_
                refine WL.g rfl rfl rfl (og_call rfl rfl (by kernel_rfl) (keep_f1 (val := fun g => .tuple #[.string (S q.1), q.2.1.v (g.val q.2.1.vals.length), .int .i64 q.2.2]) (p := fun g => g.cap = q.2.1.vals.length + g.sp.length) (xs := strs q.2.1.vals) (T := 33) fun w hS => (by have := below_c (t := u) (n := n) (a := a') (cap := c') (w := w) hS.sl (by omega) (by omega) (tab_st hT hS); rw [hbd] at this; exact this))) ?_
                intro g79; refine WL.pu ?_; intro hg79
                refine WL.r rfl rfl rfl (rd_move rfl rfl) ?_
                refine WL.r rfl rfl rfl (rd_extL rfl rfl rfl) ?_
                refine WL.r rfl rfl rfl (rd_extL rfl rfl rfl) ?_
                refine WL.r rfl rfl rfl (rd_extL rfl rfl rfl) ?_
                refine WL.g rfl rfl rfl (og_alloc rfl (v := (.agg #[.slice none 0 0, .string (S []), .int .i64 0])) (cs := [.slice none 0 0, .string (S []), .int .i64 0]) (by kernel_rfl) rfl) ?_
                intro b16
                refine WL.r rfl rfl rfl (rd_assign rfl rfl) ?_
                refine WL.g0 rfl rfl (sta rfl rfl rfl .tc ?_ ?_ ?_) ?_
                · kernel_rfl
                · simp [Value.oneCell']
                · rfl
                intro _
                refine WL.r rfl rfl rfl (rd_assign rfl rfl) ?_
                refine WL.nt ?_
                refine WC.seq ?_
                refine WC.sr ?_
                refine WL.r rfl rfl rfl (rd_move rfl rfl) ?_
                refine WL.r rfl rfl rfl (rd_neq rfl rfl rfl) ?_
                refine WL.set 87 rfl (v' := .bool false) (by exact congrArg Value.bool (by simp [hd0])) ?_
                refine WL.r rfl rfl rfl (rd_move rfl rfl) ?_
                refine WL.r rfl rfl rfl (rd_move rfl rfl) ?_
                refine WL.r rfl rfl rfl (rd_move rfl rfl) ?_
                refine WL.r rfl rfl rfl (rd_len rfl rfl Tryd.underlying22) ?_
                refine WL.r rfl rfl rfl (rd_geq rfl rfl rfl) ?_
                refine WL.set 92 rfl (v' := .bool false) (by exact congrArg Value.bool (by simp; omega)) ?_
                refine WL.r rfl rfl rfl (rd_pickf rfl rfl rfl) ?_
                refine WL.r rfl rfl rfl (rd_move rfl rfl) ?_
                refine WL.r rfl rfl rfl (rd_move rfl rfl) ?_
                refine WL.r rfl rfl rfl (rd_move rfl rfl) ?_
                refine WL.r rfl rfl rfl (rd_move rfl rfl) ?_
                (refine WL.r rfl rfl rfl (iaf rfl rfl rfl Tryd.underlying22 (by kernel_rfl : _ = some 1) ?_ ?_ (by (try simp only [sN, Int.reduceToNat, Nat.reduceAdd, Nat.reduceMul, Nat.reduceSub]); rfl)) ?_; (focus (omega)); (focus ((rw [List.length_map]; omega))))
                (refine WL.r rfl rfl rfl (ldm rfl rfl Tryd.underlying33 rfl ?_) ?_; (focus (omega)))
                refine WL.set 99 rfl (v' := .string (S (q.1))) (congrArg (fun l => Value.string (S l)) (by simpa using hd2)) ?_
                refine WL.r rfl rfl rfl (rd_sne rfl rfl rfl) ?_
                refine WL.set 100 rfl (v' := .bool false) (by exact congrArg Value.bool (by simp)) ?_
                refine WL.r rfl rfl rfl (rd_pickf rfl rfl rfl) ?_
                refine WL.r rfl rfl rfl (rd_move rfl rfl) ?_
                refine WL.r rfl rfl rfl (rd_move rfl rfl) ?_
                refine WL.r rfl rfl rfl (rd_move rfl rfl) ?_
                refine WL.g rfl rfl rfl (og_call rfl rfl (by kernel_rfl) (keep_val fun w hS => Cmp_c (a := q.1) (b := n))) ?_
                intro _
                refine WL.r rfl rfl rfl (rd_geq rfl rfl rfl) ?_
                refine WL.set 106 rfl (v' := .bool false) (by exact congrArg Value.bool (by simp; omega)) ?_
                refine WL.r rfl rfl rfl (rd_pickf rfl rfl rfl) ?_
                refine WL.nt ?_
                refine WC.cond rfl (fun h => by cases h) (fun _ => ?_)
                refine WC.skip ?_
                refine WX.then_normal ?_
                refine WC.region ?_
                refine WL.r rfl rfl rfl (lda rfl rfl .tc Tryd.underlying24 rfl ?_) ?_
                · kernel_rfl
                refine WL.g0 rfl rfl (sta rfl rfl rfl .tc ?_ ?_ ?_) ?_
                · kernel_rfl
                · simp [Value.oneCell']
                · rfl
                intro _
                refine WL.nil ?_
                refine WX.block_normal ?_
                refine WX.then_normal ?_
                refine WC.region ?_
                refine WL.r rfl rfl rfl (rd_move rfl rfl) ?_
                (refine WL.r rfl rfl rfl (rd_add64nl rfl rfl rfl ?_) ?_; (focus (omega)))
                refine WL.r rfl rfl rfl (rd_assign rfl rfl) ?_
                refine WL.nil ?_
                refine WX.loopO ((k + 1, q.2.1, o ++ [q.1], g79.a, g79.cap)) (by (try dsimp only); omega) (sub_cons rfl (sub_cons rfl (sub_cons rfl (sub_cons rfl (sub_cons rfl (sub_nil _)))))) (by refine (sub_cons ?_ (sub_nil _)) <;> (rfl)) ?_ (by exact st_mem (by simp))
                (try dsimp only)
                exact ⟨by omega, by simp; omega, hd1, hd5, hd6, hd7⟩
              · (try simp only [sB] at hc76)
                refine WC.exit ?_
                refine WX.then_exit ?_
                refine WX.then_exit ?_
                refine WX.block_exit ?_
                obtain rfl : k = m := by omega
                rw [Nat.sub_self] at hdr
                have hu : u = r.2.1 := by rw [← hdr]; rfl
                subst hu
                clear hr hm hdr0 hq1 hdr
                refine WX.then_normal ?_
                refine WC.sr ?_
                refine WL.g rfl rfl rfl (og_call rfl rfl (by kernel_rfl) (keep_val fun w hS => awake_c (by (exact tab_st hT hS)))) ?_
                intro _
                refine WL.r rfl rfl rfl (rd_move rfl rfl) ?_
                refine WL.set 110 rfl (v' := .bool true) (by rfl) ?_
                refine WL.r rfl rfl rfl (rd_move rfl rfl) ?_
                refine WL.r rfl rfl rfl (rd_len rfl rfl Tryd.underlying22) ?_
                refine WL.r rfl rfl rfl (rd_move rfl rfl) ?_
                refine WL.r rfl rfl rfl (rd_eql rfl rfl rfl) ?_
                refine WL.r rfl rfl rfl (rd_pickt rfl rfl rfl) ?_
                refine WL.r rfl rfl rfl (rd_move rfl rfl) ?_
                refine WL.set 116 rfl (v' := .bool true) (by (exact congrArg Value.bool (by simp [*]; done))) ?_
                refine WL.r rfl rfl rfl (lda rfl rfl .tc Tryd.underlying24 rfl ?_) ?_
                · kernel_rfl
                refine WL.r rfl rfl rfl (lda rfl rfl .tc Tryd.underlying24 rfl ?_) ?_
                · kernel_rfl
                refine WL.g rfl rfl rfl (og_call rfl rfl (by kernel_rfl) (keep_val fun w hS => sameT_c (t := r.2.1) (u := r.2.1) (by (exact hS.sl)) (by (exact hS.sl)) (by omega) (by omega))) ?_
                intro _
                refine WL.r rfl rfl rfl (rd_pickt rfl rfl rfl) ?_
                refine WL.r rfl rfl rfl (rd_assign rfl rfl) ?_
                refine WL.nt ?_
                refine WC.ret ?_
                exact WX.retN rfl (.tmp rfl .nil) fun w' hS => ⟨by (simp [tup]; done), hS.below⟩
theorem findA_same {t u : Tp} {n : Bs} (h1 : t.seed = u.seed) (h2 : t.at_ = u.at_) : ∀ (f a : Nat), findA t n f a = findA u n f a
  | 0, a => rfl
  | f + 1, a => by unfold findA; rw [h1, h2, findA_same h1 h2 f (a + 1)]
theorem draw_seed {t : Tp} {n : Bs} (h1 : ¬ t.at_ < t.vals.length) (h2 : ¬ (t.seed = [] ∨ t.at_ = 2147483647)) :
    drawS t n = match findA t n 256 0 with | some x => (x, ⟨t.vals, t.seed, t.at_ + 1⟩, 0) | none => ([], zeroT, 14) := by rw [drawS, if_neg h1, if_neg h2]; cases findA t n 256 0 <;> rfl
theorem seeds {l : List Bs} {s n : Bs} (hl : ∀ x ∈ l, okN x) (hlen : l.length ≤ 40) (hn : okN n) (hn0 : n ≠ []) (hs : s ≠ []) :
    (belowS ⟨l, s, l.length⟩ n = ([], zeroT, 14) ∧ belowS ⟨[], s, l.length⟩ n = ([], zeroT, 14)) ∨
    ∃ x, belowS ⟨l, s, l.length⟩ n = (x, ⟨l, s, l.length + 1⟩, 0) ∧ belowS ⟨[], s, l.length⟩ n = (x, ⟨[], s, l.length + 1⟩, 0) ∧ cmpN x n < 0 := by
  have g1 : goodT ⟨l, s, l.length⟩ := ⟨by show (0 : Int) ≤ l.length; omega, by show (l.length : Int) ≤ _; omega, hl⟩
  have g2 : goodT ⟨[], s, l.length⟩ := ⟨by show (0 : Int) ≤ l.length; omega, by show (l.length : Int) ≤ _; omega, fun x h => by cases h⟩
  rw [below_draw g1 hn hn0, below_draw g2 hn hn0, draw_seed (t := ⟨l, s, l.length⟩) (by show ¬ (l.length : Int) < l.length; omega) (by rintro (h | h); exact hs h; have h' : (l.length : Int) = 2147483647 := h; omega),
    draw_seed (t := ⟨[], s, l.length⟩) (by show ¬ (l.length : Int) < ((0 : Nat) : Int); omega) (by rintro (h | h); exact hs h; have h' : (l.length : Int) = 2147483647 := h; omega), findA_same (t := ⟨l, s, l.length⟩) (u := ⟨[], s, l.length⟩) rfl rfl]
  cases hf : findA ⟨[], s, l.length⟩ n 256 0 with
  | none => exact .inl ⟨rfl, rfl⟩
  | some x => exact .inr ⟨x, rfl, rfl, findA_lt _ _ _ hf⟩
theorem coinsSeeds_c {l : List Bs} {s n : Bs} {a : Option Addr} {cap : Nat} {w : World} {ok : Nat → Prop} (hF1 : (Fact.sl a (strs l)).holds ok w) (hl : l.length ≤ 9223372036854775807) (hT : Tab w) :
    Calls Tryd.prog 8 #[.slice a l.length cap, .string (S s), .string (S n)] w fun e w' => e = .returned (.bool true) ∧ Below w.heap.size w w' := by
  refine enter (S := St (fun _ => True) w [] ([Fact.sl a (strs l)])) (L := [(0, .slice a l.length cap), (1, .string (S s)), (2, .string (S n))]) Tryd.func8 rfl Tryd.ntmps8 rfl (args_cons rfl (args_cons rfl (args_cons rfl (args_nil _)))) (St.start (fun _ _ => trivial) (facts_cons (fact_any hF1) facts_nil)) ?_
  refine WC.sr ?_
  refine WL.r rfl rfl rfl (rd_assign rfl rfl) ?_
  refine WL.nt ?_
  refine WC.seq ?_
  refine WC.sr ?_
  refine WL.r rfl rfl rfl (rd_move rfl rfl) ?_
  refine WL.r rfl rfl rfl (rd_move rfl rfl) ?_
  refine WL.r rfl rfl rfl (rd_bld [[.slice none 0 0], [.string (S [])], [.int .i64 0]] rfl rfl (by simp only [bld, fldv, Nat.beq, Value.cells, cond_true, cond_false, List.nil_append, List.cons_append, List.append_nil]; rfl) (fun w => by kernel_rfl)) ?_
  refine WL.g rfl rfl rfl (og_call rfl rfl (by kernel_rfl) (keep_val fun w hS => fewT_c (t := ⟨l, s, 0⟩) (by (exact hS.sl)) (by assumption))) ?_
  intro _
  refine WL.r rfl rfl rfl (rd_not rfl rfl) ?_
  refine WL.r rfl rfl rfl (rd_move rfl rfl) ?_
  refine WL.bool 19 rfl (fun hg19 => ?_) (fun hg19 => ?_)
  · (try simp only [sB] at hg19)
    refine WL.s rfl rfl rfl ?_
    refine WL.s rfl rfl rfl ?_
    refine WL.s rfl rfl rfl ?_
    refine WL.r rfl rfl rfl (rd_pickt rfl rfl rfl) ?_
    refine WL.r rfl rfl rfl (rd_move rfl rfl) ?_
    refine WL.s rfl rfl rfl ?_
    refine WL.s rfl rfl rfl ?_
    refine WL.s rfl rfl rfl ?_
    refine WL.r rfl rfl rfl (rd_pickt rfl rfl rfl) ?_
    refine WL.r rfl rfl rfl (rd_move rfl rfl) ?_
    refine WL.s rfl rfl rfl ?_
    refine WL.s rfl rfl rfl ?_
    refine WL.r rfl rfl rfl (rd_pickt rfl rfl rfl) ?_
    refine WL.r rfl rfl rfl (rd_move rfl rfl) ?_
    refine WL.s rfl rfl rfl ?_
    refine WL.s rfl rfl rfl ?_
    refine WL.r rfl rfl rfl (rd_pickt rfl rfl rfl) ?_
    refine WL.nt ?_
    refine WC.cond rfl (fun _ => ?_) (fun h => by cases h)
    refine WC.sr ?_
    refine WL.g rfl rfl rfl (og_call rfl rfl (by kernel_rfl) (keep_val fun w hS => awake_c (by (exact tab_st hT hS)))) ?_
    intro _
    refine WL.r rfl rfl rfl (rd_assign rfl rfl) ?_
    refine WL.nt ?_
    refine WC.ret ?_
    refine WX.then_ret ?_
    exact WX.retN rfl (.tmp rfl .nil) fun w' hS => ⟨by rfl, hS.below⟩
  · (try simp only [sB] at hg19)
    refine WL.r rfl rfl rfl (rd_move rfl rfl) ?_
    refine WL.r rfl rfl rfl (rd_slen rfl rfl Tryd.underlying33) ?_
    refine WL.r rfl rfl rfl (rd_gtr rfl rfl rfl) ?_
    refine WL.r rfl rfl rfl (rd_pickf rfl rfl rfl) ?_
    refine WL.r rfl rfl rfl (rd_move rfl rfl) ?_
    refine WL.bool 24 rfl (fun hg24 => ?_) (fun hg24 => ?_)
    · (try simp only [sB] at hg24)
      refine WL.s rfl rfl rfl ?_
      refine WL.s rfl rfl rfl ?_
      refine WL.s rfl rfl rfl ?_
      refine WL.r rfl rfl rfl (rd_pickt rfl rfl rfl) ?_
      refine WL.r rfl rfl rfl (rd_move rfl rfl) ?_
      refine WL.s rfl rfl rfl ?_
      refine WL.s rfl rfl rfl ?_
      refine WL.r rfl rfl rfl (rd_pickt rfl rfl rfl) ?_
      refine WL.r rfl rfl rfl (rd_move rfl rfl) ?_
      refine WL.s rfl rfl rfl ?_
      refine WL.s rfl rfl rfl ?_
      refine WL.r rfl rfl rfl (rd_pickt rfl rfl rfl) ?_
      refine WL.nt ?_
      refine WC.cond rfl (fun _ => ?_) (fun h => by cases h)
      refine WC.sr ?_
      refine WL.g rfl rfl rfl (og_call rfl rfl (by kernel_rfl) (keep_val fun w hS => awake_c (by (exact tab_st hT hS)))) ?_
      intro _
      refine WL.r rfl rfl rfl (rd_assign rfl rfl) ?_
      refine WL.nt ?_
      refine WC.ret ?_
      refine WX.then_ret ?_
      exact WX.retN rfl (.tmp rfl .nil) fun w' hS => ⟨by rfl, hS.below⟩
    · (try simp only [sB] at hg24)
      refine WL.r rfl rfl rfl (rd_move rfl rfl) ?_
      refine WL.g rfl rfl rfl (og_call rfl rfl (by kernel_rfl) (keep_val fun w hS => valid_c)) ?_
      intro _
      refine WL.r rfl rfl rfl (rd_not rfl rfl) ?_
      refine WL.r rfl rfl rfl (rd_pickf rfl rfl rfl) ?_
      refine WL.r rfl rfl rfl (rd_move rfl rfl) ?_
      refine WL.bool 29 rfl (fun hg29 => ?_) (fun hg29 => ?_)
      · (try simp only [sB] at hg29)
        refine WL.s rfl rfl rfl ?_
        refine WL.s rfl rfl rfl ?_
        refine WL.r rfl rfl rfl (rd_pickt rfl rfl rfl) ?_
        refine WL.r rfl rfl rfl (rd_move rfl rfl) ?_
        refine WL.s rfl rfl rfl ?_
        refine WL.s rfl rfl rfl ?_
        refine WL.r rfl rfl rfl (rd_pickt rfl rfl rfl) ?_
        refine WL.nt ?_
        refine WC.cond rfl (fun _ => ?_) (fun h => by cases h)
        refine WC.sr ?_
        refine WL.g rfl rfl rfl (og_call rfl rfl (by kernel_rfl) (keep_val fun w hS => awake_c (by (exact tab_st hT hS)))) ?_
        intro _
        refine WL.r rfl rfl rfl (rd_assign rfl rfl) ?_
        refine WL.nt ?_
        refine WC.ret ?_
        refine WX.then_ret ?_
        exact WX.retN rfl (.tmp rfl .nil) fun w' hS => ⟨by rfl, hS.below⟩
      · (try simp only [sB] at hg29)
        refine WL.r rfl rfl rfl (rd_move rfl rfl) ?_
        refine WL.r rfl rfl rfl (rd_seq rfl rfl rfl) ?_
        refine WL.r rfl rfl rfl (rd_pickf rfl rfl rfl) ?_
        refine WL.r rfl rfl rfl (rd_move rfl rfl) ?_
        refine WL.bool 33 rfl (fun hg33 => ?_) (fun hg33 => ?_)
        · (try simp only [sB] at hg33)
          refine WL.s rfl rfl rfl ?_
          refine WL.s rfl rfl rfl ?_
          refine WL.r rfl rfl rfl (rd_pickt rfl rfl rfl) ?_
          refine WL.nt ?_
          refine WC.cond rfl (fun _ => ?_) (fun h => by cases h)
          refine WC.sr ?_
          refine WL.g rfl rfl rfl (og_call rfl rfl (by kernel_rfl) (keep_val fun w hS => awake_c (by (exact tab_st hT hS)))) ?_
          intro _
          refine WL.r rfl rfl rfl (rd_assign rfl rfl) ?_
          refine WL.nt ?_
          refine WC.ret ?_
          refine WX.then_ret ?_
          exact WX.retN rfl (.tmp rfl .nil) fun w' hS => ⟨by rfl, hS.below⟩
        · (try simp only [sB] at hg33)
          refine WL.r rfl rfl rfl (rd_move rfl rfl) ?_
          refine WL.r rfl rfl rfl (rd_seq rfl rfl rfl) ?_
          refine WL.r rfl rfl rfl (rd_pickf rfl rfl rfl) ?_
          refine WL.nt ?_
          refine WC.cond rfl (fun hc36 => ?_) (fun hc36 => ?_)
          · (try simp only [sB] at hc36)
            refine WC.sr ?_
            refine WL.g rfl rfl rfl (og_call rfl rfl (by kernel_rfl) (keep_val fun w hS => awake_c (by (exact tab_st hT hS)))) ?_
            intro _
            refine WL.r rfl rfl rfl (rd_assign rfl rfl) ?_
            refine WL.nt ?_
            refine WC.ret ?_
            refine WX.then_ret ?_
            exact WX.retN rfl (.tmp rfl .nil) fun w' hS => ⟨by rfl, hS.below⟩
          · (try simp only [sB] at hc36)
            have hf : fewT ⟨l, s, 0⟩ := by simp_all
            have hv : l.length ≤ 40 := hf.1
            have hse : s.length ≤ 100 := hf.2.1
            have hokn : okN n := by simp_all
            have hn0 : n ≠ [] := by simp_all
            have hs0 : s ≠ [] := by simp_all
            refine WC.skip ?_
            refine WX.then_normal ?_
            refine WC.seq ?_
            refine WC.sr ?_
            refine WL.r rfl rfl rfl (rd_assign rfl rfl) ?_
            refine WL.nt ?_
            refine WC.block ?_
            refine WC.loopP (σ := Nat) [(0, _), (1, _), (2, _)] (fun g => [(7, .int .i64 (g : Int))]) (fun g => g ≤ l.length ∧ ∀ x ∈ l.take g, okN x) (fun g => l.length - g) (0) (sub_cons rfl (sub_cons rfl (sub_cons rfl (sub_nil _)))) (sub_cons rfl (sub_nil _)) (by (try dsimp only); exact ⟨Nat.zero_le _, fun s h => by simp at h⟩) ?_
            rintro k hinv1; (try dsimp only at hinv1 ⊢)
            obtain ⟨hk, hks⟩ := hinv1
            refine WC.seq ?_
            refine WC.sr ?_
            refine WL.r rfl rfl rfl (rd_move rfl rfl) ?_
            refine WL.r rfl rfl rfl (rd_move rfl rfl) ?_
            refine WL.r rfl rfl rfl (rd_len rfl rfl Tryd.underlying22) ?_
            refine WL.r rfl rfl rfl (rd_lss rfl rfl rfl) ?_
            refine WL.nt ?_
            refine WC.cond rfl (fun hc41 => ?_) (fun hc41 => ?_)
            · (try simp only [sB] at hc41)
              refine WC.skip ?_
              refine WX.then_normal ?_
              refine WC.seq ?_
              refine WC.block ?_
              refine WC.sr ?_
              refine WL.r rfl rfl rfl (rd_move rfl rfl) ?_
              refine WL.r rfl rfl rfl (rd_move rfl rfl) ?_
              (refine WL.r rfl rfl rfl (iaf rfl rfl rfl Tryd.underlying22 (by kernel_rfl : _ = some 1) ?_ ?_ (by (try simp only [sN, Int.reduceToNat, Nat.reduceAdd, Nat.reduceMul, Nat.reduceSub]); rfl)) ?_; (focus (omega)); (focus ((rw [List.length_map]; omega))))
              (refine WL.r rfl rfl rfl (ldm rfl rfl Tryd.underlying33 rfl ?_) ?_; (focus (omega)))
              refine WL.g rfl rfl rfl (og_call rfl rfl (by kernel_rfl) (keep_val fun w hS => valid_c (a := l.getD k default))) ?_
              intro _
              refine WL.r rfl rfl rfl (rd_not rfl rfl) ?_
              refine WL.nt ?_
              refine WC.cond rfl (fun hc49 => ?_) (fun hc49 => ?_)
              · (try simp only [sB] at hc49)
                refine WC.sr ?_
                refine WL.g rfl rfl rfl (og_call rfl rfl (by kernel_rfl) (keep_val fun w hS => awake_c (by (exact tab_st hT hS)))) ?_
                intro _
                refine WL.r rfl rfl rfl (rd_assign rfl rfl) ?_
                refine WL.nt ?_
                refine WC.ret ?_
                refine WX.block_ret ?_
                refine WX.then_ret ?_
                refine WX.then_ret ?_
                refine WX.block_ret ?_
                refine WX.then_ret ?_
                exact WX.retN rfl (.tmp rfl .nil) fun w' hS => ⟨by rfl, hS.below⟩
              · (try simp only [sB] at hc49)
                refine WC.skip ?_
                refine WX.block_normal ?_
                refine WX.then_normal ?_
                refine WC.region ?_
                refine WL.r rfl rfl rfl (rd_move rfl rfl) ?_
                (refine WL.r rfl rfl rfl (rd_add64nl rfl rfl rfl ?_) ?_; (focus (omega)))
                refine WL.r rfl rfl rfl (rd_assign rfl rfl) ?_
                refine WL.nil ?_
                refine WX.loopP (k + 1) (by (try dsimp only); omega) (sub_cons rfl (sub_cons rfl (sub_cons rfl (sub_nil _)))) (by refine (sub_cons ?_ (sub_nil _)) <;> (rfl)) ?_ (by (exact fun _ h => h))
                (try dsimp only)
                exact ⟨by omega, all_takeB (by omega) hks (by simpa using hc49)⟩
            · (try simp only [sB] at hc41)
              refine WC.exit ?_
              refine WX.then_exit ?_
              refine WX.then_exit ?_
              refine WX.block_exit ?_
              obtain rfl : k = l.length := by omega
              rw [List.take_of_length_le (Nat.le_refl _)] at hks
              have hsd := seeds hks hv hokn hn0 hs0
              obtain ⟨r1, hr1⟩ : ∃ r, r = belowS ⟨l, s, l.length⟩ n := ⟨_, rfl⟩
              obtain ⟨r2, hr2⟩ : ∃ r, r = belowS ⟨[], s, l.length⟩ n := ⟨_, rfl⟩
              have hrv1 : r1.2.1.vals.length ≤ 40 := by rw [hr1]; exact Nat.le_trans (below_vals _ _) hv
              rw [← hr1, ← hr2] at hsd
              refine WX.then_normal ?_
              refine WC.sr ?_
              refine WL.r rfl rfl rfl (rd_move rfl rfl) ?_
              refine WL.r rfl rfl rfl (rd_move rfl rfl) ?_
              refine WL.r rfl rfl rfl (rd_move rfl rfl) ?_
              refine WL.r rfl rfl rfl (rd_len rfl rfl Tryd.underlying22) ?_
              refine WL.r rfl rfl rfl (rd_bld [[.slice none 0 0], [.string (S [])], [.int .i64 0]] rfl rfl (by simp only [bld, fldv, Nat.beq, Value.cells, cond_true, cond_false, List.nil_append, List.cons_append, List.append_nil]; rfl) (fun w => by kernel_rfl)) ?_
              refine WL.r rfl rfl rfl (rd_move rfl rfl) ?_
              refine WL.g rfl rfl rfl (og_call rfl rfl (by kernel_rfl) (keep_f1 (val := fun g => .tuple #[.string (S r1.1), r1.2.1.v (g.val r1.2.1.vals.length), .int .i64 r1.2.2]) (p := fun g => g.cap = r1.2.1.vals.length + g.sp.length) (xs := strs r1.2.1.vals) (T := 33) fun w hS => (by have := below_c (t := ⟨l, s, l.length⟩) (n := n) (a := a) (cap := cap) (w := w) hS.sl (by show l.length ≤ _; omega) (by show s.length ≤ _; omega) (tab_st hT hS); rw [← hr1] at this; exact this))) ?_
              intro g51; refine WL.pu ?_; intro hg51
              refine WL.r rfl rfl rfl (rd_move rfl rfl) ?_
              refine WL.r rfl rfl rfl (rd_extL rfl rfl rfl) ?_
              refine WL.r rfl rfl rfl (rd_extL rfl rfl rfl) ?_
              refine WL.r rfl rfl rfl (rd_extL rfl rfl rfl) ?_
              refine WL.g rfl rfl rfl (og_alloc rfl (v := (.agg #[.slice none 0 0, .string (S []), .int .i64 0])) (cs := [.slice none 0 0, .string (S []), .int .i64 0]) (by kernel_rfl) rfl) ?_
              intro b9
              refine WL.r rfl rfl rfl (rd_assign rfl rfl) ?_
              refine WL.g0 rfl rfl (sta rfl rfl rfl .tc ?_ ?_ ?_) ?_
              · kernel_rfl
              · simp [Value.oneCell']
              · rfl
              intro _
              refine WL.r rfl rfl rfl (rd_assign rfl rfl) ?_
              refine WL.nt ?_
              refine WC.sr ?_
              refine WL.r rfl rfl rfl (rd_move rfl rfl) ?_
              refine WL.r rfl rfl rfl (rd_move rfl rfl) ?_
              refine WL.r rfl rfl rfl (rd_len rfl rfl Tryd.underlying22) ?_
              refine WL.r rfl rfl rfl (rd_bld [[.slice none 0 0], [.string (S [])], [.int .i64 0]] rfl rfl (by simp only [bld, fldv, Nat.beq, Value.cells, cond_true, cond_false, List.nil_append, List.cons_append, List.append_nil]; rfl) (fun w => by kernel_rfl)) ?_
              refine WL.r rfl rfl rfl (rd_move rfl rfl) ?_
              refine WL.g rfl rfl rfl (og_call rfl rfl (by kernel_rfl) (keep_f1 (val := fun g => .tuple #[.string (S r2.1), r2.2.1.v (g.val r2.2.1.vals.length), .int .i64 r2.2.2]) (p := fun g => g.cap = r2.2.1.vals.length + g.sp.length) (xs := strs r2.2.1.vals) (T := 33) fun w hS => (by have := below_c (t := ⟨[], s, l.length⟩) (n := n) (a := none) (cap := 0) (w := w) sl_nil (Nat.zero_le _) (by show s.length ≤ _; omega) (tab_st hT hS); rw [← hr2] at this; exact this))) ?_
              intro g62; refine WL.pu ?_; intro hg62
              refine WL.r rfl rfl rfl (rd_move rfl rfl) ?_
              refine WL.r rfl rfl rfl (rd_extL rfl rfl rfl) ?_
              refine WL.r rfl rfl rfl (rd_extL rfl rfl rfl) ?_
              refine WL.r rfl rfl rfl (rd_extL rfl rfl rfl) ?_
              refine WL.g rfl rfl rfl (og_alloc rfl (v := (.agg #[.slice none 0 0, .string (S []), .int .i64 0])) (cs := [.slice none 0 0, .string (S []), .int .i64 0]) (by kernel_rfl) rfl) ?_
              intro b12
              refine WL.r rfl rfl rfl (rd_assign rfl rfl) ?_
              refine WL.g0 rfl rfl (sta rfl rfl rfl .tc ?_ ?_ ?_) ?_
              · kernel_rfl
              · simp [Value.oneCell']
              · rfl
              intro _
              refine WL.r rfl rfl rfl (rd_assign rfl rfl) ?_
              refine WL.nt ?_
              refine WC.seq ?_
              refine WC.sr ?_
              refine WL.r rfl rfl rfl (rd_move rfl rfl) ?_
              refine WL.r rfl rfl rfl (rd_eql rfl rfl rfl) ?_
              refine WL.nt ?_
              refine WC.cond rfl (fun hc73 => ?_) (fun hc73 => ?_)
              · (try simp only [sB] at hc73)
                have h14 : r2.2.2 = 14 := by
                  rcases hsd with ⟨h1, h2⟩ | ⟨x, h1, h2, h3⟩
                  · rw [h2]
                  · rw [h1] at hc73; simp at hc73
                clear hr1 hr2
                refine WC.sr ?_
                refine WL.g rfl rfl rfl (og_call rfl rfl (by kernel_rfl) (keep_val fun w hS => awake_c (by (exact tab_st hT hS)))) ?_
                intro _
                refine WL.r rfl rfl rfl (rd_move rfl rfl) ?_
                refine WL.set 75 rfl (v' := .bool true) (by rfl) ?_
                refine WL.r rfl rfl rfl (rd_move rfl rfl) ?_
                refine WL.r rfl rfl rfl (rd_eql rfl rfl rfl) ?_
                refine WL.r rfl rfl rfl (rd_pickt rfl rfl rfl) ?_
                refine WL.r rfl rfl rfl (rd_assign rfl rfl) ?_
                refine WL.nt ?_
                refine WC.ret ?_
                refine WX.then_ret ?_
                exact WX.retN rfl (.tmp rfl .nil) fun w' hS => ⟨by (simp [*, tup]; done), hS.below⟩
              · (try simp only [sB] at hc73)
                have hsd2 : ∃ x, r1 = (x, ⟨l, s, l.length + 1⟩, 0) ∧ r2 = (x, ⟨[], s, l.length + 1⟩, 0) ∧ cmpN x n < 0 := by
                  rcases hsd with ⟨h1, h2⟩ | h
                  · rw [h1] at hc73; simp at hc73
                  · exact h
                clear hsd hr1 hr2
                obtain ⟨x, rfl, rfl, hx⟩ := hsd2
                refine WC.skip ?_
                refine WX.then_normal ?_
                refine WC.sr ?_
                refine WL.g rfl rfl rfl (og_call rfl rfl (by kernel_rfl) (keep_val fun w hS => awake_c (by (exact tab_st hT hS)))) ?_
                intro _
                refine WL.r rfl rfl rfl (rd_move rfl rfl) ?_
                refine WL.set 80 rfl (v' := .bool true) (by rfl) ?_
                refine WL.r rfl rfl rfl (rd_move rfl rfl) ?_
                refine WL.r rfl rfl rfl (rd_eql rfl rfl rfl) ?_
                refine WL.r rfl rfl rfl (rd_pickt rfl rfl rfl) ?_
                refine WL.r rfl rfl rfl (rd_move rfl rfl) ?_
                refine WL.set 84 rfl (v' := .bool true) (by rfl) ?_
                refine WL.r rfl rfl rfl (rd_move rfl rfl) ?_
                refine WL.r rfl rfl rfl (rd_eql rfl rfl rfl) ?_
                refine WL.r rfl rfl rfl (rd_pickt rfl rfl rfl) ?_
                refine WL.r rfl rfl rfl (rd_move rfl rfl) ?_
                refine WL.set 88 rfl (v' := .bool true) (by rfl) ?_
                refine WL.r rfl rfl rfl (rd_move rfl rfl) ?_
                refine WL.r rfl rfl rfl (rd_move rfl rfl) ?_
                refine WL.r rfl rfl rfl (rd_seq rfl rfl rfl) ?_
                refine WL.r rfl rfl rfl (rd_pickt rfl rfl rfl) ?_
                refine WL.r rfl rfl rfl (rd_move rfl rfl) ?_
                refine WL.set 93 rfl (v' := .bool true) (by (exact congrArg Value.bool (by simp [*]; done))) ?_
                (refine WL.r rfl rfl rfl (rd_fa (q := 2) rfl rfl Tryd.underlying24 rfl (by kernel_rfl) rfl) ?_)
                (refine WL.r rfl rfl rfl (ld rfl rfl .tc Tryd.underlying3 rfl (by rfl)) ?_)
                (refine WL.r rfl rfl rfl (rd_fa (q := 2) rfl rfl Tryd.underlying24 rfl (by kernel_rfl) rfl) ?_)
                (refine WL.r rfl rfl rfl (ld rfl rfl .tc Tryd.underlying3 rfl (by rfl)) ?_)
                refine WL.r rfl rfl rfl (rd_eql rfl rfl rfl) ?_
                refine WL.r rfl rfl rfl (rd_pickt rfl rfl rfl) ?_
                refine WL.r rfl rfl rfl (rd_move rfl rfl) ?_
                refine WL.set 100 rfl (v' := .bool true) (by (exact congrArg Value.bool (by simp [*]; done))) ?_
                refine WL.r rfl rfl rfl (rd_move rfl rfl) ?_
                refine WL.r rfl rfl rfl (rd_move rfl rfl) ?_
                refine WL.g rfl rfl rfl (og_call rfl rfl (by kernel_rfl) (keep_val fun w hS => Cmp_c (a := x) (b := n))) ?_
                intro _
                refine WL.r rfl rfl rfl (rd_lss rfl rfl rfl) ?_
                refine WL.r rfl rfl rfl (rd_pickt rfl rfl rfl) ?_
                refine WL.r rfl rfl rfl (rd_move rfl rfl) ?_
                refine WL.set 106 rfl (v' := .bool true) (by (exact congrArg Value.bool (by simp [*]; done))) ?_
                (refine WL.r rfl rfl rfl (rd_fa (q := 0) rfl rfl Tryd.underlying24 rfl (by kernel_rfl) rfl) ?_)
                (refine WL.r rfl rfl rfl (ld rfl rfl .tc Tryd.underlying22 rfl (by rfl)) ?_)
                refine WL.r rfl rfl rfl (rd_move rfl rfl) ?_
                refine WL.g rfl rfl rfl (og_call rfl rfl (by kernel_rfl) (keep_val fun w hS => sameN_c (l := l) (m := l) (by (exact hS.sl)) (by (exact hS.sl)) (by omega) (by omega))) ?_
                intro _
                refine WL.r rfl rfl rfl (rd_pickt rfl rfl rfl) ?_
                refine WL.r rfl rfl rfl (rd_move rfl rfl) ?_
                refine WL.set 112 rfl (v' := .bool true) (by (exact congrArg Value.bool (by simp [*]; done))) ?_
                (refine WL.r rfl rfl rfl (rd_fa (q := 0) rfl rfl Tryd.underlying24 rfl (by kernel_rfl) rfl) ?_)
                (refine WL.r rfl rfl rfl (ld rfl rfl .tc Tryd.underlying22 rfl (by rfl)) ?_)
                refine WL.r rfl rfl rfl (rd_len rfl rfl Tryd.underlying22) ?_
                refine WL.r rfl rfl rfl (rd_eql rfl rfl rfl) ?_
                refine WL.r rfl rfl rfl (rd_pickt rfl rfl rfl) ?_
                refine WL.r rfl rfl rfl (rd_assign rfl rfl) ?_
                refine WL.nt ?_
                refine WC.ret ?_
                exact WX.retN rfl (.tmp rfl .nil) fun w' hS => ⟨by rfl, hS.below⟩
theorem spread {i n : Nat} (hn : 0 < n) (hn' : n ≤ 40) (hi : i ≤ 100) :
    signedS ⟨[canon i], [], 0⟩ (canon n) = if i < 2 * n - 1 then (ofZ ((i : Int) - n + 1), ⟨[canon i], [], 1⟩, 0) else ((false, []), zeroT, 2) := by
  have hB : 1000 < Big := by have : val [4, 0] < Big := val_big (n := [4, 0]) (by decide); have h2 : val [4, 0] = 1024 := rfl; omega
  obtain ⟨G, hG⟩ : ∃ G, G = Big := ⟨_, rfl⟩
  have hok : okN (canon n) := okN_can (by omega)
  have hoi : okN (canon i) := okN_can (by omega)
  have hg : goodT ⟨[canon i], [], 0⟩ := aw_g (by intro x hx; simp at hx; subst hx; exact hoi)
  have hr : readyS ⟨[canon i], [], 0⟩ (canon n) = 0 := by rw [readyS, if_pos ⟨hg, hok⟩, if_neg (by rw [canon_nil]; omega)]
  have hd : drawS ⟨[canon i], [], 0⟩ (canon (2 * n - 1)) = if i < 2 * n - 1 then (canon i, ⟨[canon i], [], 1⟩, 0) else ([], zeroT, 2) := by
    rw [drawS, if_pos (by show (0 : Int) < ((1 : Nat) : Int); decide)]
    show (if 0 ≤ cmpN (canon i) (canon (2 * n - 1)) then _ else _) = _
    rw [cmpN_of (by omega) (by omega)]
    by_cases h : i < 2 * n - 1
    · rw [if_neg (by have := (cmpI_neg i (2 * n - 1)).2 h; omega), if_pos h]; rfl
    · rw [if_pos (by have := mt (cmpI_neg i (2 * n - 1)).1 h; omega), if_neg h]
  rw [signedS, if_neg (by rw [hr]; decide), val_canon, ← hG, if_neg (by omega), hd]
  by_cases h : i < 2 * n - 1
  · rw [if_pos h, if_pos h, if_neg (by simp)]
    show ((subZ (false, canon i) (false, canon (n - 1))).1, _, _) = _
    rw [← ofZ_nat, ← ofZ_nat, subZ_of (by omega) (by omega), if_pos (by omega)]
    show (ofZ ((i : Int) - ((n - 1 : Nat) : Int)), _, _) = _
    rw [show (i : Int) - ((n - 1 : Nat) : Int) = (i : Int) - n + 1 by omega]
  · rw [if_neg h, if_neg h, if_pos (by simp)]
theorem spread0 : signedS ⟨[], [115], 0⟩ [] = ((false, []), zeroT, 11) := by
  have hr : readyS ⟨[], [115], 0⟩ [] = 11 := by rw [readyS, if_pos ⟨aw_g (by decide), by decide⟩, if_pos rfl]
  rw [signedS, if_pos (by rw [hr]; decide), hr]
theorem coinsSpread_c {b : Int} {w : World} (hb0 : 0 ≤ b) (hb1 : b ≤ 255) (hT : Tab w) :
    Calls Tryd.prog 7 #[.int .u8 b] w fun e w' => e = .returned (.bool true) ∧ Below w.heap.size w w' := by
  obtain ⟨bn, hbn⟩ : ∃ k : Nat, b = (k : Int) := ⟨b.toNat, by omega⟩
  refine enter (S := St (fun _ => True) w [] ([])) (L := [(0, .int .u8 b)]) Tryd.func7 rfl Tryd.ntmps7 rfl (args_cons rfl (args_nil _)) (St.start (fun _ _ => trivial) facts_nil) ?_
  refine WC.sr ?_
  refine WL.r rfl rfl rfl (rd_assign rfl rfl) ?_
  refine WL.nt ?_
  refine WC.seq ?_
  refine WC.sr ?_
  refine WL.set 0 rfl (v' := .int .u8 (bn : Int)) (by rw [hbn]) ?_
  refine WL.r rfl rfl rfl (rd_move rfl rfl) ?_
  refine WL.r rfl rfl rfl (rd_eql rfl rfl rfl) ?_
  refine WL.nt ?_
  refine WC.cond rfl (fun hc15 => ?_) (fun hc15 => ?_)
  · (try simp only [sB] at hc15)
    refine WC.sr ?_
    refine WL.g rfl rfl rfl (og_call rfl rfl (by kernel_rfl) (keep_val fun w hS => seed_c)) ?_
    intro _
    refine WL.g rfl rfl rfl (og_call rfl rfl (by kernel_rfl) (keep_f1 (val := fun g => .tuple #[.agg #[.bool false, .string (S [])], .agg #[g.val 0, .string (S []), .int .i64 0], .int .i64 11]) (p := fun g => g.cap = 0 + g.sp.length) (xs := []) (T := 33) fun w hS => (by have := signed_c (t := ⟨[], [115], 0⟩) (n := []) (a := none) (cap := 0) (w := w) sl_nil (by decide) (by decide) (tab_st hT hS); rw [spread0] at this; exact this))) ?_
    intro g16; refine WL.pu ?_; intro hg16
    refine WL.r rfl rfl rfl (rd_move rfl rfl) ?_
    refine WL.r rfl rfl rfl (rd_extL rfl rfl rfl) ?_
    refine WL.r rfl rfl rfl (rd_extL rfl rfl rfl) ?_
    refine WL.r rfl rfl rfl (rd_extL rfl rfl rfl) ?_
    refine WL.g rfl rfl rfl (og_alloc rfl (v := (.agg #[.bool false, .string (S [])])) (cs := [.bool false, .string (S [])]) (by kernel_rfl) rfl) ?_
    intro b3
    refine WL.g rfl rfl rfl (og_alloc rfl (v := (.agg #[.slice none 0 0, .string (S []), .int .i64 0])) (cs := [.slice none 0 0, .string (S []), .int .i64 0]) (by kernel_rfl) rfl) ?_
    intro b4
    refine WL.g0 rfl rfl (sta rfl rfl rfl .tc ?_ ?_ ?_) ?_
    · kernel_rfl
    · simp [Value.oneCell']
    · rfl
    intro _
    refine WL.g0 rfl rfl (sta rfl rfl rfl .tc ?_ ?_ ?_) ?_
    · kernel_rfl
    · simp [Value.oneCell']
    · rfl
    intro _
    refine WL.r rfl rfl rfl (rd_assign rfl rfl) ?_
    refine WL.nt ?_
    refine WC.sr ?_
    refine WL.g rfl rfl rfl (og_call rfl rfl (by kernel_rfl) (keep_val fun w hS => awake_c (by (exact tab_st hT hS)))) ?_
    intro _
    refine WL.r rfl rfl rfl (rd_move rfl rfl) ?_
    refine WL.set 23 rfl (v' := .bool true) (by rfl) ?_
    refine WL.r rfl rfl rfl (rd_move rfl rfl) ?_
    refine WL.r rfl rfl rfl (rd_eql rfl rfl rfl) ?_
    refine WL.r rfl rfl rfl (rd_pickt rfl rfl rfl) ?_
    refine WL.r rfl rfl rfl (rd_assign rfl rfl) ?_
    refine WL.nt ?_
    refine WC.ret ?_
    refine WX.then_ret ?_
    exact WX.retN rfl (.tmp rfl .nil) fun w' hS => ⟨by rfl, hS.below⟩
  · (try simp only [sB] at hc15)
    refine WC.skip ?_
    refine WX.then_normal ?_
    refine WC.sr ?_
    refine WL.r rfl rfl rfl (rd_move rfl rfl) ?_
    refine WL.r rfl rfl rfl (rd_remN rfl rfl rfl (by decide)) ?_
    refine WL.r rfl rfl rfl (rd_convN rfl rfl Tryd.underlying5 Tryd.underlying2 ?_) ?_
    · (rw [IntKind.wrap_i64]; omega)
    refine WL.r rfl rfl rfl (rd_assign rfl rfl) ?_
    refine WL.nt ?_
    refine WC.joinP (σ := Nat) [(2, _)] (fun g => [(6, .int .i64 (g : Int))]) (fun g => 0 < g ∧ g ≤ 40) (sub_cons rfl (sub_nil _)) ?_ ?_
    · skip
      refine WC.sr ?_
      refine WL.r rfl rfl rfl (rd_move rfl rfl) ?_
      refine WL.r rfl rfl rfl (rd_eql rfl rfl rfl) ?_
      refine WL.nt ?_
      refine WC.cond rfl (fun hc31 => ?_) (fun hc31 => ?_)
      · (try simp only [sB] at hc31)
        refine WC.region ?_
        refine WL.r rfl rfl rfl (rd_assign rfl rfl) ?_
        refine WL.nil ?_
        refine WX.joinP (40) (sub_cons rfl (sub_nil _)) (by refine (sub_cons ?_ (sub_nil _)) <;> (rfl)) ?_ (by (exact fun _ h => h))
        (try dsimp only)
        omega
      · (try simp only [sB] at hc31)
        refine WC.skip ?_
        refine WX.joinP (bn % 40) (sub_cons rfl (sub_nil _)) (by refine (sub_cons ?_ (sub_nil _)) <;> (rfl)) ?_ (by (exact fun _ h => h))
        (try dsimp only)
        omega
    · rintro n hmeet; (try dsimp only at hmeet ⊢)
      obtain ⟨hn0, hn1⟩ := hmeet
      refine WC.seq ?_
      refine WC.sr ?_
      refine WL.r rfl rfl rfl (rd_assign rfl rfl) ?_
      refine WL.nt ?_
      refine WC.block ?_
      refine WC.loopP (σ := Nat) [(6, _)] (fun g => [(7, .int .i64 (g : Int))]) (fun g => g ≤ 2 * n - 1) (fun g => 2 * n - 1 - g) (0) (sub_cons rfl (sub_nil _)) (sub_cons rfl (sub_nil _)) (by (try dsimp only); omega) ?_
      rintro i hinv1; (try dsimp only at hinv1 ⊢)
      obtain hi := hinv1
      refine WC.seq ?_
      refine WC.sr ?_
      refine WL.r rfl rfl rfl (rd_move rfl rfl) ?_
      refine WL.r rfl rfl rfl (rd_move rfl rfl) ?_
      (refine WL.r rfl rfl rfl (rd_mul64ln rfl rfl rfl ?_) ?_; (focus (omega)))
      (refine WL.r rfl rfl rfl (rd_sub64nl rfl rfl rfl ?_) ?_; (focus (omega)))
      refine WL.r rfl rfl rfl (rd_lss rfl rfl rfl) ?_
      refine WL.nt ?_
      refine WC.cond rfl (fun hc36 => ?_) (fun hc36 => ?_)
      · (try simp only [sB] at hc36)
        have hsp := spread (i := i) (n := n) hn0 hn1 (by omega)
        rw [if_pos (by omega)] at hsp
        refine WC.skip ?_
        refine WX.then_normal ?_
        refine WC.seq ?_
        refine WC.block ?_
        refine WC.sr ?_
        refine WL.r rfl rfl rfl (rd_move rfl rfl) ?_
        refine WL.r rfl rfl rfl (rd_convN rfl rfl Tryd.underlying2 Tryd.underlying50 ?_) ?_
        · (rw [IntKind.wrap_u64]; omega)
        refine WL.g rfl rfl rfl (og_call rfl rfl (by kernel_rfl) (keep_val fun w hS => of_c (n := i) (by omega))) ?_
        intro _
        refine WL.g rfl rfl rfl (og_bs1 rfl rfl Tryd.underlying22 (by kernel_rfl : _ = some (some (.string (S [])), 1, 16)) rfl (by simp only [List.map]; rfl) rfl rfl ?_ (by decide)) ?_
        · simp [Value.cells]
        intro b43
        refine WL.g rfl rfl rfl (og_call rfl rfl (by kernel_rfl) (keep_f1 fun w hS => values_c (l := [canon i]) (by (exact hS.os)) (by (simp <;> omega)) (by (simp <;> omega)))) ?_
        intro g44
        refine WL.pu ?_
        intro hg44; (try dsimp only at hg44 ⊢)
        refine WL.r rfl rfl rfl (rd_move rfl rfl) ?_
        refine WL.r rfl rfl rfl (rd_convN rfl rfl Tryd.underlying2 Tryd.underlying50 ?_) ?_
        · (rw [IntKind.wrap_u64]; omega)
        refine WL.g rfl rfl rfl (og_call rfl rfl (by kernel_rfl) (keep_val fun w hS => of_c (n := n) (by omega))) ?_
        intro _
        refine WL.g rfl rfl rfl (og_call rfl rfl (by kernel_rfl) (keep_f1 (val := fun g => .tuple #[zV (ofZ ((i : Int) - n + 1)), .agg #[g.val 1, .string (S []), .int .i64 1], .int .i64 0]) (p := fun g => g.cap = 1 + g.sp.length) (xs := strs [canon i]) (T := 33) fun w hS => (by have := signed_c (t := ⟨[canon i], [], 0⟩) (n := canon n) (a := g44.a) (cap := g44.cap) (w := w) hS.sl (by show 1 ≤ _; decide) (Nat.zero_le _) (tab_st hT hS); rw [hsp] at this; exact this))) ?_
        intro g39; refine WL.pu ?_; intro hg39
        refine WL.r rfl rfl rfl (rd_move rfl rfl) ?_
        refine WL.r rfl rfl rfl (rd_extL rfl rfl rfl) ?_
        refine WL.r rfl rfl rfl (rd_extL rfl rfl rfl) ?_
        refine WL.r rfl rfl rfl (rd_extL rfl rfl rfl) ?_
        refine WL.g rfl rfl rfl (og_alloc rfl (v := (.agg #[.bool false, .string (S [])])) (cs := [.bool false, .string (S [])]) (by kernel_rfl) rfl) ?_
        intro b8
        refine WL.g rfl rfl rfl (og_alloc rfl (v := (.agg #[.slice none 0 0, .string (S []), .int .i64 0])) (cs := [.slice none 0 0, .string (S []), .int .i64 0]) (by kernel_rfl) rfl) ?_
        intro b9
        refine WL.g0 rfl rfl (sta rfl rfl rfl .tc ?_ ?_ ?_) ?_
        · kernel_rfl
        · simp [Value.oneCell']
        · rfl
        intro _
        refine WL.g0 rfl rfl (sta rfl rfl rfl .tc ?_ ?_ ?_) ?_
        · kernel_rfl
        · simp [Value.oneCell']
        · rfl
        intro _
        refine WL.r rfl rfl rfl (rd_assign rfl rfl) ?_
        refine WL.nt ?_
        refine WC.seq ?_
        refine WC.free0 [0, 1, 2, 4, 5, 6, 7, 8, 3, 9, 10] [] [0, 0, 0, 0, 0, 0, 0, 0, 1, 0, 0] (by kernel_rfl) (by kernel_rfl) rfl ?_
        refine WJ.r rfl rfl rfl rfl rfl (rd_move rfl rfl) ?_
        refine WJ.r rfl rfl rfl rfl rfl (rd_neq rfl rfl rfl) ?_
        refine WJ.r rfl rfl rfl rfl rfl (rd_move rfl rfl) ?_
        refine WJ.bool 54 rfl (fun hg54 => ?_) (fun hg54 => ?_)
        · (try simp only [sB] at hg54)
          refine WJ.s rfl rfl rfl rfl ?_
          refine WJ.s rfl rfl rfl rfl ?_
          refine WJ.s rfl rfl rfl rfl ?_
          refine WJ.s rfl rfl rfl rfl ?_
          refine WJ.s rfl rfl rfl rfl ?_
          refine WJ.s rfl rfl rfl rfl ?_
          refine WJ.s rfl rfl rfl rfl ?_
          refine WJ.r rfl rfl rfl rfl rfl (rd_pickt rfl rfl rfl) ?_
          refine WJ.nil ?_
          refine WL.nt ?_
          refine WC.cond rfl (fun _ => ?_) (fun h => by cases h)
          refine WC.sr ?_
          refine WL.r rfl rfl rfl (rd_assign rfl rfl) ?_
          refine WL.nt ?_
          refine WC.ret ?_
          refine WX.block_ret ?_
          refine WX.then_ret ?_
          refine WX.then_ret ?_
          refine WX.block_ret ?_
          refine WX.then_ret ?_
          exfalso; simp_all
        · (try simp only [sB] at hg54)
          refine WJ.r rfl rfl rfl rfl rfl (rd_move rfl rfl) ?_
          refine WJ.r rfl rfl rfl rfl rfl (rd_move rfl rfl) ?_
          (refine WJ.r rfl rfl rfl rfl rfl (rd_sub64 rfl rfl rfl ?_) ?_; (focus (omega)))
          (refine WJ.r rfl rfl rfl rfl rfl (rd_add64 rfl rfl rfl ?_) ?_; (focus (omega)))
          refine WJ.gv rfl rfl rfl rfl rfl (fun ext => og_call rfl rfl (by kernel_rfl) (keep_val fun w hS => zof_c (by omega) (by omega))) ?_
          refine WJ.r rfl rfl rfl rfl rfl (lda rfl rfl .tc Tryd.underlying41 rfl ?_) ?_
          · kernel_rfl
          refine WJ.r rfl rfl rfl rfl rfl (rd_neA rfl rfl rfl (by kernel_rfl) (fun w => eql_api_Int _ _ _ _ w)) ?_
          refine WJ.r rfl rfl rfl rfl rfl (rd_pickf rfl rfl rfl) ?_
          refine WJ.nil ?_
          refine WL.nt ?_
          refine WC.cond rfl (fun hc62 => ?_) (fun hc62 => ?_)
          · (try simp only [sB] at hc62)
            refine WC.sr ?_
            refine WL.r rfl rfl rfl (rd_assign rfl rfl) ?_
            refine WL.nt ?_
            refine WC.ret ?_
            refine WX.block_ret ?_
            refine WX.then_ret ?_
            refine WX.then_ret ?_
            refine WX.block_ret ?_
            refine WX.then_ret ?_
            exfalso; simp_all
          · (try simp only [sB] at hc62)
            refine WC.skip ?_
            refine WX.block_normal ?_
            refine WX.then_normal ?_
            refine WC.region ?_
            refine WL.r rfl rfl rfl (rd_move rfl rfl) ?_
            (refine WL.r rfl rfl rfl (rd_add64nl rfl rfl rfl ?_) ?_; (focus (omega)))
            refine WL.r rfl rfl rfl (rd_assign rfl rfl) ?_
            refine WL.nil ?_
            refine WX.loopP (i + 1) (by (try dsimp only); omega) (sub_cons rfl (sub_nil _)) (by refine (sub_cons ?_ (sub_nil _)) <;> (rfl)) ?_ (by (exact st_sub))
            (try dsimp only)
            omega
      · (try simp only [sB] at hc36)
        refine WC.exit ?_
        refine WX.then_exit ?_
        refine WX.then_exit ?_
        refine WX.block_exit ?_
        have hsp := spread (i := 2 * n - 1) (n := n) hn0 hn1 (by omega)
        rw [if_neg (by omega)] at hsp
        obtain ⟨p, hp⟩ : ∃ p, p = 2 * n - 1 := ⟨_, rfl⟩
        rw [← hp] at hsp
        refine WX.then_normal ?_
        refine WC.sr ?_
        refine WL.r rfl rfl rfl (rd_move rfl rfl) ?_
        (refine WL.r rfl rfl rfl (rd_mul64ln rfl rfl rfl ?_) ?_; (focus (omega)))
        (refine WL.r rfl rfl rfl (rd_sub64nl rfl rfl rfl ?_) ?_; (focus (omega)))
        refine WL.set 66 rfl (v' := .int .i64 ((p : Nat) : Int)) (congrArg (Value.int .i64) (by omega)) ?_
        refine WL.r rfl rfl rfl (rd_convN rfl rfl Tryd.underlying2 Tryd.underlying50 ?_) ?_
        · (rw [IntKind.wrap_u64]; omega)
        refine WL.g rfl rfl rfl (og_call rfl rfl (by kernel_rfl) (keep_val fun w hS => of_c (n := p) (by omega))) ?_
        intro _
        refine WL.g rfl rfl rfl (og_bs1 rfl rfl Tryd.underlying22 (by kernel_rfl : _ = some (some (.string (S [])), 1, 16)) rfl (by simp only [List.map]; rfl) rfl rfl ?_ (by decide)) ?_
        · simp [Value.cells]
        intro b69
        refine WL.g rfl rfl rfl (og_call rfl rfl (by kernel_rfl) (keep_f1 fun w hS => values_c (l := [canon p]) (by (exact hS.os)) (by (simp <;> omega)) (by (simp <;> omega)))) ?_
        intro g70
        refine WL.pu ?_
        intro hg70; (try dsimp only at hg70 ⊢)
        refine WL.r rfl rfl rfl (rd_move rfl rfl) ?_
        refine WL.r rfl rfl rfl (rd_convN rfl rfl Tryd.underlying2 Tryd.underlying50 ?_) ?_
        · (rw [IntKind.wrap_u64]; omega)
        refine WL.g rfl rfl rfl (og_call rfl rfl (by kernel_rfl) (keep_val fun w hS => of_c (n := n) (by omega))) ?_
        intro _
        refine WL.g rfl rfl rfl (og_call rfl rfl (by kernel_rfl) (keep_f1 (val := fun g => .tuple #[.agg #[.bool false, .string (S [])], .agg #[g.val 0, .string (S []), .int .i64 0], .int .i64 2]) (p := fun g => g.cap = 0 + g.sp.length) (xs := []) (T := 33) fun w hS => (by have := signed_c (t := ⟨[canon p], [], 0⟩) (n := canon n) (a := g70.a) (cap := g70.cap) (w := w) hS.sl (by show 1 ≤ _; decide) (Nat.zero_le _) (tab_st hT hS); rw [hsp] at this; exact this))) ?_
        intro g63; refine WL.pu ?_; intro hg63
        refine WL.r rfl rfl rfl (rd_move rfl rfl) ?_
        refine WL.r rfl rfl rfl (rd_extL rfl rfl rfl) ?_
        refine WL.r rfl rfl rfl (rd_extL rfl rfl rfl) ?_
        refine WL.r rfl rfl rfl (rd_extL rfl rfl rfl) ?_
        refine WL.g rfl rfl rfl (og_alloc rfl (v := (.agg #[.bool false, .string (S [])])) (cs := [.bool false, .string (S [])]) (by kernel_rfl) rfl) ?_
        intro b11
        refine WL.g rfl rfl rfl (og_alloc rfl (v := (.agg #[.slice none 0 0, .string (S []), .int .i64 0])) (cs := [.slice none 0 0, .string (S []), .int .i64 0]) (by kernel_rfl) rfl) ?_
        intro b12
        refine WL.g0 rfl rfl (sta rfl rfl rfl .tc ?_ ?_ ?_) ?_
        · kernel_rfl
        · simp [Value.oneCell']
        · rfl
        intro _
        refine WL.g0 rfl rfl (sta rfl rfl rfl .tc ?_ ?_ ?_) ?_
        · kernel_rfl
        · simp [Value.oneCell']
        · rfl
        intro _
        refine WL.r rfl rfl rfl (rd_assign rfl rfl) ?_
        refine WL.nt ?_
        refine WC.sr ?_
        refine WL.g rfl rfl rfl (og_call rfl rfl (by kernel_rfl) (keep_val fun w hS => awake_c (by (exact tab_st hT hS)))) ?_
        intro _
        refine WL.r rfl rfl rfl (rd_move rfl rfl) ?_
        refine WL.set 79 rfl (v' := .bool true) (by rfl) ?_
        refine WL.r rfl rfl rfl (rd_move rfl rfl) ?_
        refine WL.r rfl rfl rfl (rd_eql rfl rfl rfl) ?_
        refine WL.r rfl rfl rfl (rd_pickt rfl rfl rfl) ?_
        refine WL.r rfl rfl rfl (rd_assign rfl rfl) ?_
        refine WL.nt ?_
        refine WC.ret ?_
        exact WX.retN rfl (.tmp rfl .nil) fun w' hS => ⟨by rfl, hS.below⟩
end Go.Proofs.YtikcjkifhliidaaDoor
