/-
  Many coins.
-/
import Derived.Test.YtikcjkifhliidaaDoorCoiA
import Derived.Test.YtikcjkifhliidaaDoorKeep
namespace Go.Proofs.YtikcjkifhliidaaDoor
set_option linter.unusedSimpArgs false
set_option linter.unusedVariables false
set_option maxRecDepth 20000
set_option maxHeartbeats 600000
open Go.RowKit

/-- draws in a row: the coins so far are kept -/
def drawsA (n : Bs) : Nat → Tp → List Bs → List Bs × Tp × Int
  | 0, t, o => (o, t, 0)
  | k + 1, t, o => if (drawS t n).2.2 ≠ 0 then ([], zeroT, (drawS t n).2.2) else drawsA n k (drawS t n).2.1 (o ++ [(drawS t n).1])
def manyS (t : Tp) (n : Bs) (c : Int) : List Bs × Tp × Int :=
  if readyS t n ≠ 0 then ([], zeroT, readyS t n) else if c < 0 ∨ 4096 < c then ([], zeroT, 6) else drawsA n c.toNat t []
theorem draw_next {t : Tp} {n : Bs} (h : (drawS t n).2.2 = 0) : (drawS t n).2.1 = ⟨t.vals, t.seed, t.at_ + 1⟩ := by
  unfold drawS at h ⊢
  split
  · rename_i h1
    rw [if_pos h1] at h
    split
    · rename_i h2; rw [if_pos h2] at h; cases h
    · rfl
  · rename_i h1
    rw [if_neg h1] at h
    split
    · rename_i h2; rw [if_pos h2] at h; cases h
    · rename_i h2
      rw [if_neg h2] at h
      cases hf : findA t n 256 0 with
      | none => rw [hf] at h; cases h
      | some x => rfl
theorem draw_good {t : Tp} {n : Bs} (hg : goodT t) (hl : t.vals.length ≤ 1000000) (h : (drawS t n).2.2 = 0) : goodT (drawS t n).2.1 := by
  rw [draw_next h]
  refine ⟨by have := hg.1; show 0 ≤ t.at_ + 1; omega, ?_, hg.2.2⟩
  show t.at_ + 1 ≤ 2147483647
  unfold drawS at h
  split at h
  · omega
  · split at h
    · cases h
    · rename_i h2; have := hg.2.1; omega
theorem drawsA_len (n : Bs) : ∀ (k : Nat) (t : Tp) (o : List Bs), (drawsA n k t o).1.length ≤ o.length + k
  | 0, t, o => Nat.le_refl _
  | k + 1, t, o => by
    unfold drawsA; split
    · simp
    · have := drawsA_len n k (drawS t n).2.1 (o ++ [(drawS t n).1]); simp at this; omega
theorem drawsA_vals (n : Bs) : ∀ (k : Nat) (t : Tp) (o : List Bs), (drawsA n k t o).2.1.vals.length ≤ t.vals.length
  | 0, t, o => Nat.le_refl _
  | k + 1, t, o => by
    unfold drawsA; split
    · simp [zeroT]
    · exact Nat.le_trans (drawsA_vals n k _ _) (draw_vals t n)
theorem many_len (t : Tp) (n : Bs) (c : Int) : (manyS t n c).1.length ≤ 4096 := by
  unfold manyS; repeat' split
  all_goals first | (simp; done) | skip
  rename_i h; have := drawsA_len n c.toNat t []; simp at this; omega
theorem many_vals (t : Tp) (n : Bs) (c : Int) : (manyS t n c).2.1.vals.length ≤ t.vals.length := by
  unfold manyS; repeat' split
  all_goals first | (simp [zeroT]; done) | exact drawsA_vals _ _ _ _
theorem drawsA_err {n : Bs} {k : Nat} {t : Tp} {o : List Bs} (hk : 0 < k) (h : (drawS t n).2.2 ≠ 0) : drawsA n k t o = ([], zeroT, (drawS t n).2.2) := by
  rw [show k = (k - 1) + 1 by omega, drawsA, if_pos h]
theorem drawsA_go {n : Bs} {k : Nat} {t : Tp} {o : List Bs} (hk : 0 < k) (h : (drawS t n).2.2 = 0) : drawsA n (k - 1) (drawS t n).2.1 (o ++ [(drawS t n).1]) = drawsA n k t o := by
  conv => rhs; rw [show k = (k - 1) + 1 by omega, drawsA, if_neg (by simp [h])]
theorem many0 {r : List Bs × Tp × Int} {n : Int} {ok : Nat → Prop} {w0 w : World} {own : List Ent} {fs : List Fact} (hr : r = ([], zeroT, n)) (hS : St (fun b => ok b ∨ w0.heap.size ≤ b) w0 own fs w) :
    ∃ gx : Rs × (Option Addr) × Nat, Ending.returned (tup [.slice none 0 0, .agg #[.slice none 0 0, .string (S []), .int .i64 0], .int .i64 n]) = Ending.returned (.tuple #[gx.1.val r.1.length, r.2.1.v (.slice gx.2.1 r.2.1.vals.length gx.2.2), .int .i64 r.2.2]) ∧ (gx.1.cap = r.1.length + gx.1.sp.length) ∧ Below w0.heap.size w0 w ∧ ∀ x ∈ ([Fact.sl gx.1.a (strs r.1), Fact.sl gx.2.1 (strs r.2.1.vals)] : List Fact), x.holds (fun b => ok b ∨ w0.heap.size ≤ b) w := by
  subst hr
  exact ⟨(⟨none, 0, []⟩, none, 0), rfl, rfl, hS.below, facts_cons sl_nilk (facts_cons sl_nilk facts_nil)⟩
theorem many_c {t : Tp} {n : Bs} {c : Int} {a : Option Addr} {cap : Nat} {w : World} {ok : Nat → Prop} (hF1 : (Fact.sl a (strs t.vals)).holds ok w) (hl : t.vals.length ≤ 100000) (hsd : t.seed.length ≤ 400000) (hT : Tab w) :
    Calls Tryd.prog 29 #[t.v (.slice a t.vals.length cap), .string (S n), .int .i64 c] w fun e w' => ∃ gx : Rs × (Option Addr) × Nat, e = .returned (.tuple #[gx.1.val (manyS t n c).1.length, (manyS t n c).2.1.v (.slice gx.2.1 (manyS t n c).2.1.vals.length gx.2.2), .int .i64 (manyS t n c).2.2]) ∧ (gx.1.cap = (manyS t n c).1.length + gx.1.sp.length) ∧ Below w.heap.size w w' ∧ ∀ x ∈ ([Fact.sl gx.1.a (strs (manyS t n c).1), Fact.sl gx.2.1 (strs (manyS t n c).2.1.vals)] : List Fact), x.holds (fun b => ok b ∨ w.heap.size ≤ b) w' := by
  refine enter (S := St (fun b => ok b ∨ w.heap.size ≤ b) w [] ([Fact.sl a (strs t.vals)])) (L := [(0, t.v (.slice a t.vals.length cap)), (1, .string (S n)), (2, .int .i64 c)]) Tryd.func29 rfl Tryd.ntmps29 rfl (args_cons rfl (args_cons rfl (args_cons rfl (args_nil _)))) (St.start (fun _ h => Or.inr h) (facts_or (facts_cons hF1 facts_nil))) ?_
  refine WC.sr ?_
  refine WL.g rfl rfl rfl (og_box rfl rfl (by (exact cells_agg _))) ?_
  intro b3
  refine WL.r rfl rfl rfl (rd_assign rfl rfl) ?_
  refine WL.g rfl rfl rfl (og_alloc rfl (v := (.agg #[.slice none 0 0, .string (S []), .int .i64 0])) (cs := [.slice none 0 0, .string (S []), .int .i64 0]) (by kernel_rfl) rfl) ?_
  intro b7
  refine WL.r rfl rfl rfl (rd_assign rfl rfl) ?_
  refine WL.nt ?_
  refine WC.seq ?_
  refine WC.sr ?_
  refine WL.r rfl rfl rfl (lda rfl rfl .tc Tryd.underlying24 rfl ?_) ?_
  · kernel_rfl
  refine WL.r rfl rfl rfl (rd_move rfl rfl) ?_
  refine WL.g rfl rfl rfl (og_call rfl rfl (by kernel_rfl) (keep_val fun w hS => ready_c (t := t) (n := n) (by (exact hS.sl)) (by assumption))) ?_
  intro _
  refine WL.r rfl rfl rfl (rd_assign rfl rfl) ?_
  refine WL.nt ?_
  refine WC.sr ?_
  refine WL.r rfl rfl rfl (rd_move rfl rfl) ?_
  refine WL.r rfl rfl rfl (rd_neq rfl rfl rfl) ?_
  refine WL.nt ?_
  refine WC.cond rfl (fun hc18 => ?_) (fun hc18 => ?_)
  · (try simp only [sB] at hc18)
    have hr : manyS t n c = ([], zeroT, readyS t n) := by rw [manyS, if_pos (by simpa using hc18)]
    refine WC.sr ?_
    refine WL.r rfl rfl rfl (rd_bld [[.slice none 0 0], [.string (S [])], [.int .i64 0]] rfl rfl (by simp only [bld, fldv, Nat.beq, Value.cells, cond_true, cond_false, List.nil_append, List.cons_append, List.append_nil]; rfl) (fun w => by kernel_rfl)) ?_
    refine WL.r rfl rfl rfl (rd_move rfl rfl) ?_
    refine WL.r rfl rfl rfl (rd_assign rfl rfl) ?_
    refine WL.g0 rfl rfl (sta rfl rfl rfl .tc ?_ ?_ ?_) ?_
    · kernel_rfl
    · simp [Value.oneCell']
    · rfl
    intro _
    refine WL.r rfl rfl rfl (rd_assign rfl rfl) ?_
    refine WL.nt ?_
    refine WC.ret ?_
    refine WX.then_ret ?_
    exact WX.retN rfl (.tmp rfl (.agg rfl .tc Tryd.underlying24 rfl (by kernel_rfl) (.tmp rfl .nil))) fun w' hS => many0 hr hS
  · (try simp only [sB] at hc18)
    have hrd : readyS t n = 0 := by simpa using hc18
    obtain ⟨k1, k2, k3⟩ := ready_ok hrd
    refine WC.skip ?_
    refine WX.then_normal ?_
    refine WC.seq ?_
    refine WC.sr ?_
    refine WL.r rfl rfl rfl (rd_move rfl rfl) ?_
    refine WL.r rfl rfl rfl (rd_lss rfl rfl rfl) ?_
    refine WL.r rfl rfl rfl (rd_move rfl rfl) ?_
    refine WL.bool 23 rfl (fun hg23 => ?_) (fun hg23 => ?_)
    · (try simp only [sB] at hg23)
      refine WL.s rfl rfl rfl ?_
      refine WL.s rfl rfl rfl ?_
      refine WL.r rfl rfl rfl (rd_pickt rfl rfl rfl) ?_
      refine WL.nt ?_
      refine WC.cond rfl (fun _ => ?_) (fun h => by cases h)
      refine WC.sr ?_
      refine WL.r rfl rfl rfl (rd_bld [[.slice none 0 0], [.string (S [])], [.int .i64 0]] rfl rfl (by simp only [bld, fldv, Nat.beq, Value.cells, cond_true, cond_false, List.nil_append, List.cons_append, List.append_nil]; rfl) (fun w => by kernel_rfl)) ?_
      refine WL.r rfl rfl rfl (rd_assign rfl rfl) ?_
      refine WL.g0 rfl rfl (sta rfl rfl rfl .tc ?_ ?_ ?_) ?_
      · kernel_rfl
      · simp [Value.oneCell']
      · rfl
      intro _
      refine WL.r rfl rfl rfl (rd_assign rfl rfl) ?_
      refine WL.nt ?_
      refine WC.ret ?_
      refine WX.then_ret ?_
      exact WX.retN rfl (.tmp rfl (.agg rfl .tc Tryd.underlying24 rfl (by kernel_rfl) (.tmp rfl .nil))) fun w' hS => many0 (by rw [manyS, if_neg (by simp [hrd]), if_pos (by omega)]) hS
    · (try simp only [sB] at hg23)
      refine WL.r rfl rfl rfl (rd_move rfl rfl) ?_
      refine WL.r rfl rfl rfl (rd_gtr rfl rfl rfl) ?_
      refine WL.r rfl rfl rfl (rd_pickf rfl rfl rfl) ?_
      refine WL.nt ?_
      refine WC.cond rfl (fun hc26 => ?_) (fun hc26 => ?_)
      · (try simp only [sB] at hc26)
        refine WC.sr ?_
        refine WL.r rfl rfl rfl (rd_bld [[.slice none 0 0], [.string (S [])], [.int .i64 0]] rfl rfl (by simp only [bld, fldv, Nat.beq, Value.cells, cond_true, cond_false, List.nil_append, List.cons_append, List.append_nil]; rfl) (fun w => by kernel_rfl)) ?_
        refine WL.r rfl rfl rfl (rd_assign rfl rfl) ?_
        refine WL.g0 rfl rfl (sta rfl rfl rfl .tc ?_ ?_ ?_) ?_
        · kernel_rfl
        · simp [Value.oneCell']
        · rfl
        intro _
        refine WL.r rfl rfl rfl (rd_assign rfl rfl) ?_
        refine WL.nt ?_
        refine WC.ret ?_
        refine WX.then_ret ?_
        exact WX.retN rfl (.tmp rfl (.agg rfl .tc Tryd.underlying24 rfl (by kernel_rfl) (.tmp rfl .nil))) fun w' hS => many0 (by rw [manyS, if_neg (by simp [hrd]), if_pos (by omega)]) hS
      · (try simp only [sB] at hc26)
        have hcb : ¬ (c < 0 ∨ 4096 < c) := by omega
        have hr : manyS t n c = drawsA n c.toNat t [] := by rw [manyS, if_neg (by simp [hrd]), if_neg hcb]
        refine WC.skip ?_
        refine WX.then_normal ?_
        refine WC.sr ?_
        refine WL.r rfl rfl rfl (rd_assign rfl rfl) ?_
        refine WL.nt ?_
        refine WC.seq ?_
        refine WC.sr ?_
        refine WL.r rfl rfl rfl (rd_move rfl rfl) ?_
        refine WL.r rfl rfl rfl (rd_move rfl rfl) ?_
        refine WL.nt ?_
        refine WC.block ?_
        refine WC.loopO (σ := Nat × Tp × (List Bs) × Rs × (Option Addr) × Nat) [(1, _), (3, _), (7, _), (28, _)] (fun g => [(10, g.2.2.2.1.val g.2.2.1.length), (29, .int .i64 (g.1 : Int))]) (fun g => (g.1 : Int) ≤ c ∧ g.2.2.1.length = g.1 ∧ drawsA n (c.toNat - g.1) g.2.1 g.2.2.1 = drawsA n c.toNat t [] ∧ goodT g.2.1 ∧ g.2.1.vals.length ≤ 100000 ∧ g.2.1.seed.length ≤ 400000 ∧ g.2.2.2.1.cap = g.2.2.1.length + g.2.2.2.1.sp.length) (fun g => c.toNat - g.1) (fun g => [g.2.2.2.1.ent (strs g.2.2.1) 33, ⟨some b7, [.slice none 0 0, .string (S []), .int .i64 0], 24⟩, ⟨some b3, [.slice g.2.2.2.2.1 g.2.1.vals.length g.2.2.2.2.2, .string (S g.2.1.seed), .int .i64 g.2.1.at_], 24⟩]) (fun g => [Fact.sl g.2.2.2.2.1 (strs g.2.1.vals)]) (0, t, [], ⟨none, 0, []⟩, a, cap) (sub_cons rfl (sub_cons rfl (sub_cons rfl (sub_cons rfl (sub_nil _))))) (sub_cons rfl (sub_cons rfl (sub_nil _))) (by (try dsimp only); exact ⟨by omega, rfl, rfl, k1, hl, hsd, rfl⟩) (by exact fun w h => h.nil _) ?_
        rintro ⟨k, u, o, g, a', c'⟩ hinv1; (try dsimp only at hinv1 ⊢)
        obtain ⟨hk, hok, hdr, hgu, hul, hus, hgc⟩ := hinv1
        refine WC.sr ?_
        refine WL.r rfl rfl rfl (rd_lss rfl rfl rfl) ?_
        refine WL.nt ?_
        refine WC.seq ?_
        refine WC.cond rfl (fun hc30 => ?_) (fun hc30 => ?_)
        · (try simp only [sB] at hc30)
          refine WC.skip ?_
          refine WX.then_normal ?_
          refine WC.seq ?_
          refine WC.block ?_
          refine WC.sr ?_
          refine WL.r rfl rfl rfl (lda rfl rfl .tc Tryd.underlying24 rfl ?_) ?_
          · kernel_rfl
          refine WL.r rfl rfl rfl (rd_move rfl rfl) ?_
          refine WL.g rfl rfl rfl (og_call rfl rfl (by kernel_rfl) (keep_f1 fun w hS => draw_c (t := u) (n := n) (by (exact hS.sl)) (by assumption) (by assumption) (by assumption) (by assumption) (by assumption) (by (exact tab_st hT hS)))) ?_
          intro g34
          refine WL.pu ?_
          intro hg34; (try dsimp only at hg34 ⊢)
          refine WL.r rfl rfl rfl (rd_move rfl rfl) ?_
          refine WL.r rfl rfl rfl (rd_extL rfl rfl rfl) ?_
          refine WL.r rfl rfl rfl (rd_extL rfl rfl rfl) ?_
          refine WL.r rfl rfl rfl (rd_extL rfl rfl rfl) ?_
          refine WL.g rfl rfl rfl (og_alloc rfl (v := (.agg #[.slice none 0 0, .string (S []), .int .i64 0])) (cs := [.slice none 0 0, .string (S []), .int .i64 0]) (by kernel_rfl) rfl) ?_
          intro b12
          refine WL.r rfl rfl rfl (rd_assign rfl rfl) ?_
          refine WL.g0 rfl rfl (sta rfl rfl rfl .tc ?_ ?_ ?_) ?_
          · kernel_rfl
          · simp [Value.oneCell']
          · rfl
          intro _
          refine WL.r rfl rfl rfl (rd_assign rfl rfl) ?_
          refine WL.nt ?_
          refine WC.seq ?_
          refine WC.sr ?_
          refine WL.r rfl rfl rfl (rd_move rfl rfl) ?_
          refine WL.r rfl rfl rfl (rd_neq rfl rfl rfl) ?_
          refine WL.nt ?_
          refine WC.cond rfl (fun hc39 => ?_) (fun hc39 => ?_)
          · (try simp only [sB] at hc39)
            have hr2 : manyS t n c = ([], zeroT, (drawS u n).2.2) := by rw [hr, ← hdr, drawsA_err (by omega) (by simpa using hc39)]
            refine WC.sr ?_
            refine WL.r rfl rfl rfl (rd_bld [[.slice none 0 0], [.string (S [])], [.int .i64 0]] rfl rfl (by simp only [bld, fldv, Nat.beq, Value.cells, cond_true, cond_false, List.nil_append, List.cons_append, List.append_nil]; rfl) (fun w => by kernel_rfl)) ?_
            refine WL.r rfl rfl rfl (rd_move rfl rfl) ?_
            refine WL.r rfl rfl rfl (rd_assign rfl rfl) ?_
            refine WL.g0 rfl rfl (sta rfl rfl rfl .tc ?_ ?_ ?_) ?_
            · kernel_rfl
            · simp [Value.oneCell']
            · rfl
            intro _
            refine WL.r rfl rfl rfl (rd_assign rfl rfl) ?_
            refine WL.nt ?_
            refine WC.ret ?_
            refine WX.then_ret ?_
            refine WX.block_ret ?_
            refine WX.then_ret ?_
            refine WX.then_ret ?_
            refine WX.block_ret ?_
            refine WX.then_ret ?_
            exact WX.retN rfl (.tmp rfl (.agg rfl .tc Tryd.underlying24 rfl (by kernel_rfl) (.tmp rfl .nil))) fun w' hS => many0 hr2 hS
          · (try simp only [sB] at hc39)
            have hd0 : (drawS u n).2.2 = 0 := by simpa using hc39
            have hng := draw_good hgu (by omega) hd0
            have hnv := draw_vals u n
            have hns : (drawS u n).2.1.seed = u.seed := by rw [draw_next hd0]
            refine WC.skip ?_
            refine WX.then_normal ?_
            refine WC.free (K := [⟨some b12, [g34.val (drawS u n).2.1.vals.length, .string (S (drawS u n).2.1.seed), .int .i64 (drawS u n).2.1.at_], 24⟩]) (fs0 := []) [0, 1, 2, 3, 4, 5] [6] [0, 0, 3, 1, 0, 0, 2] (by kernel_rfl) (by kernel_rfl) rfl ?_
            refine WJ.r rfl rfl rfl rfl rfl (rd_move rfl rfl) ?_
            refine WJ.r rfl rfl rfl rfl rfl (rd_move rfl rfl) ?_
            refine WJ.f rfl rfl rfl rfl rfl (fr_bs1 rfl rfl Tryd.underlying22 (by kernel_rfl : _ = some (some (.string (S [])), 1, 16)) rfl (by simp only [List.map]; rfl) rfl rfl ?_ (by decide)) ?_
            · simp [Value.cells]
            intro b44
            (refine WJ.g rfl rfl rfl rfl rfl (appgJ rfl Tryd.underlying22 (by kernel_rfl : _ = some (some (.string (S [])), 1, 16)) rfl .tc rfl rfl (fun ext w hS => by (exact hS.os)) (by rfl) ?_ ?_) ?_; (focus ((refine ⟨?_, ?_, ?_, ?_⟩ <;> (try simp) <;> omega))); (focus ((simp [Value.oneCell']; done))))
            rintro ⟨o45, c45, s45⟩ hg45; (try dsimp only at hg45 ⊢)
            refine WJ.r rfl rfl rfl rfl rfl (lda rfl rfl .tc Tryd.underlying24 rfl ?_) ?_
            · kernel_rfl
            refine WJ.r rfl rfl rfl rfl rfl (rd_assign rfl rfl) ?_
            refine WJ.nil ?_
            refine WL.g0 rfl rfl (sta rfl rfl rfl .tc ?_ ?_ ?_) ?_
            · kernel_rfl
            · simp [Value.oneCell']
            · rfl
            intro _
            refine WL.nil ?_
            refine WX.block_normal ?_
            refine WX.then_normal ?_
            refine WC.region ?_
            (refine WL.r rfl rfl rfl (rd_add64nl rfl rfl rfl ?_) ?_; (focus (omega)))
            refine WL.r rfl rfl rfl (rd_move rfl rfl) ?_
            refine WL.nil ?_
            refine WX.loopO ((k + 1, (drawS u n).2.1, o ++ [(drawS u n).1], ⟨o45, c45, s45⟩, g34.a, g34.cap)) (by (try dsimp only); omega) (sub_cons rfl (sub_cons rfl (sub_cons rfl (sub_cons rfl (sub_nil _))))) (by refine (sub_cons ?_ (sub_cons ?_ (sub_nil _))) <;> (first | rfl | (simp only [List.length_append, List.length_cons, List.length_nil, Nat.zero_add]; rfl))) ?_ (by intro w h; show St _ _ [⟨o45, strs (o ++ [(drawS u n).1]) ++ s45, _⟩, _, _] [_] w; rw [show strs (o ++ [(drawS u n).1]) = strs o ++ [.string (S (drawS u n).1)] from List.map_append]; exact st_sub _ h)
            (try dsimp only)
            exact ⟨by omega, by simp; omega, by rw [show c.toNat - (k + 1) = c.toNat - k - 1 by omega, drawsA_go (by omega) hd0, hdr], hng, by omega, by rw [hns]; exact hus, by simpa using hg45⟩
        · (try simp only [sB] at hc30)
          refine WC.exit ?_
          refine WX.then_exit ?_
          refine WX.then_exit ?_
          refine WX.block_exit ?_
          obtain rfl : (k : Int) = c := by omega
          rw [Int.toNat_natCast, Nat.sub_self] at hdr
          have hr2 : manyS t n k = (o, u, 0) := by rw [hr]; exact hdr.symm
          refine WX.then_normal ?_
          refine WC.seq ?_
          refine WC.free0 [0, 1, 2] [3, 4] [0, 0, 0, 2, 2] (by kernel_rfl) (by kernel_rfl) rfl ?_
          refine WJ.r rfl rfl rfl rfl rfl (rd_move rfl rfl) ?_
          refine WJ.r rfl rfl rfl rfl rfl (lda rfl rfl .tc Tryd.underlying24 rfl ?_) ?_
          · kernel_rfl
          refine WJ.r rfl rfl rfl rfl rfl (rd_assign rfl rfl) ?_
          refine WJ.nil ?_
          refine WL.g0 rfl rfl (sta rfl rfl rfl .tc ?_ ?_ ?_) ?_
          · kernel_rfl
          · simp [Value.oneCell']
          · rfl
          intro _
          refine WL.r rfl rfl rfl (rd_assign rfl rfl) ?_
          refine WL.nt ?_
          refine WC.ret ?_
          exact WX.retN rfl (.tmp rfl (.agg rfl .tc Tryd.underlying24 rfl (by kernel_rfl) (.tmp rfl .nil))) fun w' hS => ⟨(g, a', c'), by rw [hr2]; rfl, by rw [hr2]; exact hgc, hS.below, by rw [hr2]; exact facts_cons hS.ock (facts_cons hS.slk facts_nil)⟩
theorem rmany_c {t : Tp} {n : Bs} {c : Int} {a : Option Addr} {cap : Nat} {w : World} {ok : Nat → Prop} (hF1 : (Fact.sl a (strs t.vals)).holds ok w) (hl : t.vals.length ≤ 100000) (hsd : t.seed.length ≤ 400000) :
    Calls Tryd.prog 30 #[t.v (.slice a t.vals.length cap), .string (S n), .int .i64 c] w fun e w' => ∃ gx : Rs × (Option Addr) × Nat, e = .returned (.tuple #[gx.1.val (manyS t n c).1.length, (manyS t n c).2.1.v (.slice gx.2.1 (manyS t n c).2.1.vals.length gx.2.2), .int .i64 (manyS t n c).2.2]) ∧ (gx.1.cap = (manyS t n c).1.length + gx.1.sp.length) ∧ Below w.heap.size w w' ∧ ∀ x ∈ ([Fact.sl gx.1.a (strs (manyS t n c).1), Fact.sl gx.2.1 (strs (manyS t n c).2.1.vals)] : List Fact), x.holds (fun b => ok b ∨ w.heap.size ≤ b) w' := by
  refine enter (S := St (fun b => ok b ∨ w.heap.size ≤ b) w [] ([Fact.sl a (strs t.vals)])) (L := [(0, t.v (.slice a t.vals.length cap)), (1, .string (S n)), (2, .int .i64 c)]) Tryd.func30 rfl Tryd.ntmps30 rfl (args_cons rfl (args_cons rfl (args_cons rfl (args_nil _)))) (St.start (fun _ h => Or.inr h) (facts_or (facts_cons hF1 facts_nil))) ?_
  refine WC.sr ?_
  refine WL.g rfl rfl rfl (og_box rfl rfl (by (exact cells_agg _))) ?_
  intro b3
  refine WL.r rfl rfl rfl (rd_assign rfl rfl) ?_
  refine WL.g rfl rfl rfl (og_alloc rfl (v := (.agg #[.slice none 0 0, .string (S []), .int .i64 0])) (cs := [.slice none 0 0, .string (S []), .int .i64 0]) (by kernel_rfl) rfl) ?_
  intro b7
  refine WL.r rfl rfl rfl (rd_assign rfl rfl) ?_
  refine WL.nt ?_
  refine WC.seq ?_
  refine WC.sr ?_
  refine WL.r rfl rfl rfl (lda rfl rfl .tc Tryd.underlying24 rfl ?_) ?_
  · kernel_rfl
  refine WL.g rfl rfl rfl (og_call rfl rfl (by kernel_rfl) (keep_val fun w hS => rgood_c (t := t) (by (exact hS.sl)) (by omega))) ?_
  intro _
  refine WL.r rfl rfl rfl (rd_not rfl rfl) ?_
  refine WL.r rfl rfl rfl (rd_move rfl rfl) ?_
  refine WL.bool 17 rfl (fun hg17 => ?_) (fun hg17 => ?_)
  · (try simp only [sB] at hg17)
    refine WL.s rfl rfl rfl ?_
    refine WL.s rfl rfl rfl ?_
    refine WL.s rfl rfl rfl ?_
    refine WL.r rfl rfl rfl (rd_pickt rfl rfl rfl) ?_
    refine WL.nt ?_
    refine WC.cond rfl (fun _ => ?_) (fun h => by cases h)
    refine WC.sr ?_
    refine WL.r rfl rfl rfl (rd_bld [[.slice none 0 0], [.string (S [])], [.int .i64 0]] rfl rfl (by simp only [bld, fldv, Nat.beq, Value.cells, cond_true, cond_false, List.nil_append, List.cons_append, List.append_nil]; rfl) (fun w => by kernel_rfl)) ?_
    refine WL.r rfl rfl rfl (rd_assign rfl rfl) ?_
    refine WL.g0 rfl rfl (sta rfl rfl rfl .tc ?_ ?_ ?_) ?_
    · kernel_rfl
    · simp [Value.oneCell']
    · rfl
    intro _
    refine WL.r rfl rfl rfl (rd_assign rfl rfl) ?_
    refine WL.nt ?_
    refine WC.ret ?_
    refine WX.then_ret ?_
    exact WX.retN rfl (.tmp rfl (.agg rfl .tc Tryd.underlying24 rfl (by kernel_rfl) (.tmp rfl .nil))) fun w' hS => many0 (by rw [manyS, show readyS t n = 3 from by rw [readyS, if_neg (by simp_all)], if_pos (by decide)]) hS
  · (try simp only [sB] at hg17)
    refine WL.r rfl rfl rfl (rd_move rfl rfl) ?_
    refine WL.g rfl rfl rfl (og_call rfl rfl (by kernel_rfl) (keep_val fun w hS => rvalid_c)) ?_
    intro _
    refine WL.r rfl rfl rfl (rd_not rfl rfl) ?_
    refine WL.r rfl rfl rfl (rd_pickf rfl rfl rfl) ?_
    refine WL.nt ?_
    refine WC.cond rfl (fun hc21 => ?_) (fun hc21 => ?_)
    · (try simp only [sB] at hc21)
      refine WC.sr ?_
      refine WL.r rfl rfl rfl (rd_bld [[.slice none 0 0], [.string (S [])], [.int .i64 0]] rfl rfl (by simp only [bld, fldv, Nat.beq, Value.cells, cond_true, cond_false, List.nil_append, List.cons_append, List.append_nil]; rfl) (fun w => by kernel_rfl)) ?_
      refine WL.r rfl rfl rfl (rd_assign rfl rfl) ?_
      refine WL.g0 rfl rfl (sta rfl rfl rfl .tc ?_ ?_ ?_) ?_
      · kernel_rfl
      · simp [Value.oneCell']
      · rfl
      intro _
      refine WL.r rfl rfl rfl (rd_assign rfl rfl) ?_
      refine WL.nt ?_
      refine WC.ret ?_
      refine WX.then_ret ?_
      exact WX.retN rfl (.tmp rfl (.agg rfl .tc Tryd.underlying24 rfl (by kernel_rfl) (.tmp rfl .nil))) fun w' hS => many0 (by rw [manyS, show readyS t n = 3 from by rw [readyS, if_neg (by simp_all)], if_pos (by decide)]) hS
    · (try simp only [sB] at hc21)
      have hgn : goodT t ∧ okN n := by simp_all
      have k1 := hgn.1; have k2 := hgn.2
      refine WC.skip ?_
      refine WX.then_normal ?_
      refine WC.seq ?_
      refine WC.sr ?_
      refine WL.r rfl rfl rfl (rd_move rfl rfl) ?_
      refine WL.r rfl rfl rfl (rd_seq rfl rfl rfl) ?_
      refine WL.nt ?_
      refine WC.cond rfl (fun hc24 => ?_) (fun hc24 => ?_)
      · (try simp only [sB] at hc24)
        refine WC.sr ?_
        refine WL.r rfl rfl rfl (rd_bld [[.slice none 0 0], [.string (S [])], [.int .i64 0]] rfl rfl (by simp only [bld, fldv, Nat.beq, Value.cells, cond_true, cond_false, List.nil_append, List.cons_append, List.append_nil]; rfl) (fun w => by kernel_rfl)) ?_
        refine WL.r rfl rfl rfl (rd_assign rfl rfl) ?_
        refine WL.g0 rfl rfl (sta rfl rfl rfl .tc ?_ ?_ ?_) ?_
        · kernel_rfl
        · simp [Value.oneCell']
        · rfl
        intro _
        refine WL.r rfl rfl rfl (rd_assign rfl rfl) ?_
        refine WL.nt ?_
        refine WC.ret ?_
        refine WX.then_ret ?_
        exact WX.retN rfl (.tmp rfl (.agg rfl .tc Tryd.underlying24 rfl (by kernel_rfl) (.tmp rfl .nil))) fun w' hS => many0 (by rw [manyS, show readyS t n = 11 from by rw [readyS, if_pos hgn, if_pos (by simpa using hc24)], if_pos (by decide)]) hS
      · (try simp only [sB] at hc24)
        have k3 : n ≠ [] := by simpa using hc24
        have hrd : readyS t n = 0 := by rw [readyS, if_pos hgn, if_neg k3]
        refine WC.skip ?_
        refine WX.then_normal ?_
        refine WC.seq ?_
        refine WC.sr ?_
        refine WL.r rfl rfl rfl (rd_move rfl rfl) ?_
        refine WL.r rfl rfl rfl (rd_lss rfl rfl rfl) ?_
        refine WL.r rfl rfl rfl (rd_move rfl rfl) ?_
        refine WL.bool 28 rfl (fun hg28 => ?_) (fun hg28 => ?_)
        · (try simp only [sB] at hg28)
          refine WL.s rfl rfl rfl ?_
          refine WL.s rfl rfl rfl ?_
          refine WL.r rfl rfl rfl (rd_pickt rfl rfl rfl) ?_
          refine WL.nt ?_
          refine WC.cond rfl (fun _ => ?_) (fun h => by cases h)
          refine WC.sr ?_
          refine WL.r rfl rfl rfl (rd_bld [[.slice none 0 0], [.string (S [])], [.int .i64 0]] rfl rfl (by simp only [bld, fldv, Nat.beq, Value.cells, cond_true, cond_false, List.nil_append, List.cons_append, List.append_nil]; rfl) (fun w => by kernel_rfl)) ?_
          refine WL.r rfl rfl rfl (rd_assign rfl rfl) ?_
          refine WL.g0 rfl rfl (sta rfl rfl rfl .tc ?_ ?_ ?_) ?_
          · kernel_rfl
          · simp [Value.oneCell']
          · rfl
          intro _
          refine WL.r rfl rfl rfl (rd_assign rfl rfl) ?_
          refine WL.nt ?_
          refine WC.ret ?_
          refine WX.then_ret ?_
          exact WX.retN rfl (.tmp rfl (.agg rfl .tc Tryd.underlying24 rfl (by kernel_rfl) (.tmp rfl .nil))) fun w' hS => many0 (by rw [manyS, if_neg (by simp [hrd]), if_pos (by omega)]) hS
        · (try simp only [sB] at hg28)
          refine WL.r rfl rfl rfl (rd_move rfl rfl) ?_
          refine WL.r rfl rfl rfl (rd_gtr rfl rfl rfl) ?_
          refine WL.r rfl rfl rfl (rd_pickf rfl rfl rfl) ?_
          refine WL.nt ?_
          refine WC.cond rfl (fun hc31 => ?_) (fun hc31 => ?_)
          · (try simp only [sB] at hc31)
            refine WC.sr ?_
            refine WL.r rfl rfl rfl (rd_bld [[.slice none 0 0], [.string (S [])], [.int .i64 0]] rfl rfl (by simp only [bld, fldv, Nat.beq, Value.cells, cond_true, cond_false, List.nil_append, List.cons_append, List.append_nil]; rfl) (fun w => by kernel_rfl)) ?_
            refine WL.r rfl rfl rfl (rd_assign rfl rfl) ?_
            refine WL.g0 rfl rfl (sta rfl rfl rfl .tc ?_ ?_ ?_) ?_
            · kernel_rfl
            · simp [Value.oneCell']
            · rfl
            intro _
            refine WL.r rfl rfl rfl (rd_assign rfl rfl) ?_
            refine WL.nt ?_
            refine WC.ret ?_
            refine WX.then_ret ?_
            exact WX.retN rfl (.tmp rfl (.agg rfl .tc Tryd.underlying24 rfl (by kernel_rfl) (.tmp rfl .nil))) fun w' hS => many0 (by rw [manyS, if_neg (by simp [hrd]), if_pos (by omega)]) hS
          · (try simp only [sB] at hc31)
            have hcb : ¬ (c < 0 ∨ 4096 < c) := by omega
            have hr : manyS t n c = drawsA n c.toNat t [] := by rw [manyS, if_neg (by simp [hrd]), if_neg hcb]
            refine WC.skip ?_
            refine WX.then_normal ?_
            refine WC.sr ?_
            refine WL.r rfl rfl rfl (rd_assign rfl rfl) ?_
            refine WL.nt ?_
            refine WC.seq ?_
            refine WC.sr ?_
            refine WL.r rfl rfl rfl (rd_assign rfl rfl) ?_
            refine WL.nt ?_
            refine WC.block ?_
            refine WC.loopO (σ := Nat × Tp × (List Bs) × Rs × (Option Addr) × Nat) [(1, _), (2, _), (3, _), (7, _)] (fun g => [(9, g.2.2.2.1.val g.2.2.1.length), (10, .int .i64 (g.1 : Int))]) (fun g => (g.1 : Int) ≤ c ∧ g.2.2.1.length = g.1 ∧ drawsA n (c.toNat - g.1) g.2.1 g.2.2.1 = drawsA n c.toNat t [] ∧ goodT g.2.1 ∧ g.2.1.vals.length ≤ 100000 ∧ g.2.1.seed.length ≤ 400000 ∧ g.2.2.2.1.cap = g.2.2.1.length + g.2.2.2.1.sp.length) (fun g => c.toNat - g.1) (fun g => [g.2.2.2.1.ent (strs g.2.2.1) 33, ⟨some b7, [.slice none 0 0, .string (S []), .int .i64 0], 24⟩, ⟨some b3, [.slice g.2.2.2.2.1 g.2.1.vals.length g.2.2.2.2.2, .string (S g.2.1.seed), .int .i64 g.2.1.at_], 24⟩]) (fun g => [Fact.sl g.2.2.2.2.1 (strs g.2.1.vals)]) (0, t, [], ⟨none, 0, []⟩, a, cap) (sub_cons rfl (sub_cons rfl (sub_cons rfl (sub_cons rfl (sub_nil _))))) (sub_cons rfl (sub_cons rfl (sub_nil _))) (by (try dsimp only); exact ⟨by omega, rfl, rfl, k1, hl, hsd, rfl⟩) (by exact fun w h => h.nil _) ?_
            rintro ⟨k, u, o, g, a', c'⟩ hinv1; (try dsimp only at hinv1 ⊢)
            obtain ⟨hk, hok, hdr, hgu, hul, hus, hgc⟩ := hinv1
            refine WC.seq ?_
            refine WC.sr ?_
            refine WL.r rfl rfl rfl (rd_move rfl rfl) ?_
            refine WL.r rfl rfl rfl (rd_move rfl rfl) ?_
            refine WL.r rfl rfl rfl (rd_lss rfl rfl rfl) ?_
            refine WL.nt ?_
            refine WC.cond rfl (fun hc35 => ?_) (fun hc35 => ?_)
            · (try simp only [sB] at hc35)
              refine WC.skip ?_
              refine WX.then_normal ?_
              refine WC.seq ?_
              refine WC.block ?_
              refine WC.sr ?_
              refine WL.r rfl rfl rfl (lda rfl rfl .tc Tryd.underlying24 rfl ?_) ?_
              · kernel_rfl
              refine WL.r rfl rfl rfl (rd_move rfl rfl) ?_
              refine WL.g rfl rfl rfl (og_call rfl rfl (by kernel_rfl) (keep_f1 fun w hS => rdraw_c (t := u) (n := n) (by (exact hS.sl)) (by assumption) (by assumption) (by assumption) (by assumption) (by assumption))) ?_
              intro g41
              refine WL.pu ?_
              intro hg41; (try dsimp only at hg41 ⊢)
              refine WL.r rfl rfl rfl (rd_move rfl rfl) ?_
              refine WL.r rfl rfl rfl (rd_extL rfl rfl rfl) ?_
              refine WL.r rfl rfl rfl (rd_extL rfl rfl rfl) ?_
              refine WL.r rfl rfl rfl (rd_extL rfl rfl rfl) ?_
              refine WL.g rfl rfl rfl (og_alloc rfl (v := (.agg #[.slice none 0 0, .string (S []), .int .i64 0])) (cs := [.slice none 0 0, .string (S []), .int .i64 0]) (by kernel_rfl) rfl) ?_
              intro b12
              refine WL.r rfl rfl rfl (rd_assign rfl rfl) ?_
              refine WL.g0 rfl rfl (sta rfl rfl rfl .tc ?_ ?_ ?_) ?_
              · kernel_rfl
              · simp [Value.oneCell']
              · rfl
              intro _
              refine WL.r rfl rfl rfl (rd_assign rfl rfl) ?_
              refine WL.nt ?_
              refine WC.seq ?_
              refine WC.sr ?_
              refine WL.r rfl rfl rfl (rd_move rfl rfl) ?_
              refine WL.r rfl rfl rfl (rd_neq rfl rfl rfl) ?_
              refine WL.nt ?_
              refine WC.cond rfl (fun hc46 => ?_) (fun hc46 => ?_)
              · (try simp only [sB] at hc46)
                have hr2 : manyS t n c = ([], zeroT, (drawS u n).2.2) := by rw [hr, ← hdr, drawsA_err (by omega) (by simpa using hc46)]
                refine WC.sr ?_
                refine WL.r rfl rfl rfl (rd_bld [[.slice none 0 0], [.string (S [])], [.int .i64 0]] rfl rfl (by simp only [bld, fldv, Nat.beq, Value.cells, cond_true, cond_false, List.nil_append, List.cons_append, List.append_nil]; rfl) (fun w => by kernel_rfl)) ?_
                refine WL.r rfl rfl rfl (rd_move rfl rfl) ?_
                refine WL.r rfl rfl rfl (rd_assign rfl rfl) ?_
                refine WL.g0 rfl rfl (sta rfl rfl rfl .tc ?_ ?_ ?_) ?_
                · kernel_rfl
                · simp [Value.oneCell']
                · rfl
                intro _
                refine WL.r rfl rfl rfl (rd_assign rfl rfl) ?_
                refine WL.nt ?_
                refine WC.ret ?_
                refine WX.then_ret ?_
                refine WX.block_ret ?_
                refine WX.then_ret ?_
                refine WX.then_ret ?_
                refine WX.block_ret ?_
                refine WX.then_ret ?_
                exact WX.retN rfl (.tmp rfl (.agg rfl .tc Tryd.underlying24 rfl (by kernel_rfl) (.tmp rfl .nil))) fun w' hS => many0 hr2 hS
              · (try simp only [sB] at hc46)
                have hd0 : (drawS u n).2.2 = 0 := by simpa using hc46
                have hng := draw_good hgu (by omega) hd0
                have hnv := draw_vals u n
                have hns : (drawS u n).2.1.seed = u.seed := by rw [draw_next hd0]
                refine WC.skip ?_
                refine WX.then_normal ?_
                refine WC.sr ?_
                refine WL.r rfl rfl rfl (rd_move rfl rfl) ?_
                refine WL.r rfl rfl rfl (rd_move rfl rfl) ?_
                refine WL.g rfl rfl rfl (og_bs1 rfl rfl Tryd.underlying22 (by kernel_rfl : _ = some (some (.string (S [])), 1, 16)) rfl (by simp only [List.map]; rfl) rfl rfl ?_ (by decide)) ?_
                · simp [Value.cells]
                intro b51
                (refine WL.g rfl rfl rfl (appg rfl Tryd.underlying22 (by kernel_rfl : _ = some (some (.string (S [])), 1, 16)) rfl .tc rfl rfl (fun w hS => by (exact hS.os)) (by rfl) ?_ ?_) ?_; (focus ((refine ⟨?_, ?_, ?_, ?_⟩ <;> (try simp) <;> omega))); (focus ((simp [Value.oneCell']; done))))
                rintro ⟨o52, c52, s52⟩
                refine WL.pu ?_
                intro hg52; (try dsimp only at hg52 ⊢)
                refine WL.r rfl rfl rfl (rd_assign rfl rfl) ?_
                refine WL.nt ?_
                refine WC.region ?_
                refine WL.r rfl rfl rfl (lda rfl rfl .tc Tryd.underlying24 rfl ?_) ?_
                · kernel_rfl
                refine WL.g0 rfl rfl (sta rfl rfl rfl .tc ?_ ?_ ?_) ?_
                · kernel_rfl
                · simp [Value.oneCell']
                · rfl
                intro _
                refine WL.nil ?_
                refine WX.block_normal ?_
                refine WX.then_normal ?_
                refine WC.region ?_
                refine WL.r rfl rfl rfl (rd_move rfl rfl) ?_
                (refine WL.r rfl rfl rfl (rd_add64nl rfl rfl rfl ?_) ?_; (focus (omega)))
                refine WL.r rfl rfl rfl (rd_assign rfl rfl) ?_
                refine WL.nil ?_
                refine WX.loopO ((k + 1, (drawS u n).2.1, o ++ [(drawS u n).1], ⟨o52, c52, s52⟩, g41.a, g41.cap)) (by (try dsimp only); omega) (sub_cons rfl (sub_cons rfl (sub_cons rfl (sub_cons rfl (sub_nil _))))) (by refine (sub_cons ?_ (sub_cons ?_ (sub_nil _))) <;> (first | rfl | (simp only [List.length_append, List.length_cons, List.length_nil, Nat.zero_add]; rfl))) ?_ (by intro w h; show St _ _ [⟨o52, strs (o ++ [(drawS u n).1]) ++ s52, _⟩, _, _] [_] w; rw [show strs (o ++ [(drawS u n).1]) = strs o ++ [.string (S (drawS u n).1)] from List.map_append]; exact st_sub _ h)
                (try dsimp only)
                exact ⟨by omega, by simp; omega, by rw [show c.toNat - (k + 1) = c.toNat - k - 1 by omega, drawsA_go (by omega) hd0, hdr], hng, by omega, by rw [hns]; exact hus, by simpa using hg52⟩
            · (try simp only [sB] at hc35)
              refine WC.exit ?_
              refine WX.then_exit ?_
              refine WX.then_exit ?_
              refine WX.block_exit ?_
              obtain rfl : (k : Int) = c := by omega
              rw [Int.toNat_natCast, Nat.sub_self] at hdr
              have hr2 : manyS t n k = (o, u, 0) := by rw [hr]; exact hdr.symm
              refine WX.then_normal ?_
              refine WC.seq ?_
              refine WC.free0 [0, 1, 2] [3, 4] [0, 0, 0, 2, 2] (by kernel_rfl) (by kernel_rfl) rfl ?_
              refine WJ.r rfl rfl rfl rfl rfl (rd_move rfl rfl) ?_
              refine WJ.r rfl rfl rfl rfl rfl (lda rfl rfl .tc Tryd.underlying24 rfl ?_) ?_
              · kernel_rfl
              refine WJ.r rfl rfl rfl rfl rfl (rd_assign rfl rfl) ?_
              refine WJ.nil ?_
              refine WL.g0 rfl rfl (sta rfl rfl rfl .tc ?_ ?_ ?_) ?_
              · kernel_rfl
              · simp [Value.oneCell']
              · rfl
              intro _
              refine WL.r rfl rfl rfl (rd_assign rfl rfl) ?_
              refine WL.nt ?_
              refine WC.ret ?_
              exact WX.retN rfl (.tmp rfl (.agg rfl .tc Tryd.underlying24 rfl (by kernel_rfl) (.tmp rfl .nil))) fun w' hS => ⟨(g, a', c'), by rw [hr2]; rfl, by rw [hr2]; exact hgc, hS.below, by rw [hr2]; exact facts_cons hS.ock (facts_cons hS.slk facts_nil)⟩
end Go.Proofs.YtikcjkifhliidaaDoor
