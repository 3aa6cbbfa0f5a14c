/-
  Products of powers: the reference's.
-/
import Derived.Test.YtbcnnkcddilfjaaGreatPw2
import Derived.Test.YtbcnnkcddilfjaaGreatGrp2
namespace Go.Proofs.YtbcnnkcddilfjaaGreat
set_option linter.unusedSimpArgs false
set_option linter.unusedVariables false
set_option maxRecDepth 20000
set_option maxHeartbeats 600000
open Go.RowKit

theorem powM_ok {x : Bs} {z : Zs} {m : Bs} (hx : okN x) (hz : okZ z) (hm : okN m) (hm0 : m ≠ []) (hg : Nat.gcd (val x) (val m) = 1) : powM x z m = (canon (powI (val m) (val x) (zv z)), 0) := by
  rw [powM, if_pos ⟨hx, hz, hm⟩, if_neg hm0, powI, zv_abs]
  by_cases h : z.1 = true
  · rw [if_pos h, if_pos hg, if_pos ((okZ_neg hz).2 h)]
  · rw [if_neg h, if_neg (fun h2 => h ((okZ_neg hz).1 h2))]
theorem rraw_c {g : Gp} {x : Bs} {z : Zs} {w : World} (hm8 : g.1.length ≤ 8) :
    Calls Tryz.prog 61 #[gV g, .string (S x), zV z] w fun e w' => e = .returned (.string (S (powM x z g.1).1)) ∧ Below w.heap.size w w' := by
  refine enter (S := St (fun _ => True) w [] ([])) (L := [(0, gV g), (1, .string (S x)), (2, zV z)]) Tryz.func61 rfl Tryz.ntmps61 rfl (args_cons rfl (args_cons rfl (args_cons rfl (args_nil _)))) (St.start (fun _ _ => trivial) facts_nil) ?_
  refine WC.sr ?_
  refine WL.g rfl rfl rfl (og_box rfl rfl (by (exact cells_agg _))) ?_
  intro b3
  refine WL.g rfl rfl rfl (og_box rfl rfl (by (exact cells_agg _))) ?_
  intro b5
  refine WL.r rfl rfl rfl (rd_assign rfl rfl) ?_
  refine WL.nt ?_
  refine WC.sr ?_
  refine WL.r rfl rfl rfl (rd_move rfl rfl) ?_
  refine WL.r rfl rfl rfl (lda rfl rfl .tc Tryz.underlying41 rfl ?_) ?_
  · kernel_rfl
  (refine WL.r rfl rfl rfl (rd_fa (q := 0) rfl rfl Tryz.underlying26 rfl (by kernel_rfl) rfl) ?_)
  (refine WL.r rfl rfl rfl (ld rfl rfl .tc Tryz.underlying22 rfl (by rfl)) ?_)
  refine WL.g rfl rfl rfl (og_call rfl rfl (by kernel_rfl) (keep_val fun w hS => rpower_c (a := x) (x := z) (m := g.1) (by assumption))) ?_
  intro _
  refine WL.r rfl rfl rfl (rd_move rfl rfl) ?_
  refine WL.r rfl rfl rfl (rd_extL rfl rfl rfl) ?_
  refine WL.r rfl rfl rfl (rd_extL rfl rfl rfl) ?_
  refine WL.r rfl rfl rfl (rd_assign rfl rfl) ?_
  refine WL.r rfl rfl rfl (rd_assign rfl rfl) ?_
  refine WL.nt ?_
  refine WC.sr ?_
  refine WL.r rfl rfl rfl (rd_move rfl rfl) ?_
  refine WL.r rfl rfl rfl (rd_assign rfl rfl) ?_
  refine WL.nt ?_
  refine WC.ret ?_
  exact WX.retN rfl (.tmp rfl .nil) fun w' hS => ⟨by rfl, hS.below⟩
theorem rproduct_c {g : Gp} {l : List Bs} {es : List Zs} {a b : Option Addr} {c d : Nat} {w : World} {ok : Nat → Prop} (hF1 : (Fact.sl a (strs l)).holds ok w) (hF2 : (Fact.sl b (ints es)).holds ok w) (hl : l.length ≤ 100000) (hes : es.length ≤ 100000) (hm8 : g.1.length ≤ 8) :
    Calls Tryz.prog 32 #[gV g, .slice a l.length c, .slice b es.length d] w fun e w' => e = .returned (NE (prodS g l es)) ∧ Below w.heap.size w w' := by
  have hnz : ∀ x : Int, chkP g l es (decide (l.length = es.length)) = x → x ≠ 0 → prodS g l es = ([], x) := fun x h h0 => by rw [prodS, if_neg (by rw [h]; exact h0), h]
  refine enter (S := St (fun _ => True) w [] ([Fact.sl a (strs l), Fact.sl b (ints es)])) (L := [(0, gV g), (1, .slice a l.length c), (2, .slice b es.length d)]) Tryz.func32 rfl Tryz.ntmps32 rfl (args_cons rfl (args_cons rfl (args_cons rfl (args_nil _)))) (St.start (fun _ _ => trivial) (facts_cons (fact_any hF1) (facts_cons (fact_any hF2) facts_nil))) ?_
  refine WC.sr ?_
  refine WL.g rfl rfl rfl (og_box rfl rfl (by (exact cells_agg _))) ?_
  intro b3
  refine WL.r rfl rfl rfl (rd_assign rfl rfl) ?_
  refine WL.r rfl rfl rfl (rd_assign rfl rfl) ?_
  refine WL.nt ?_
  refine WC.seq ?_
  refine WC.sr ?_
  refine WL.r rfl rfl rfl (rd_assign rfl rfl) ?_
  refine WL.nt ?_
  refine WC.block ?_
  refine WC.loopP (σ := Nat) [(1, _), (2, _), (3, _)] (fun gq => [(8, .int .i64 (gq : Int))]) (fun gq => gq ≤ l.length ∧ ∀ x ∈ l.take gq, okN x) (fun gq => l.length - gq) (0) (sub_cons rfl (sub_cons rfl (sub_cons rfl (sub_nil _)))) (sub_cons rfl (sub_nil _)) (by (try dsimp only); exact ⟨Nat.zero_le _, by simp⟩) ?_
  rintro i hinv1; (try dsimp only at hinv1 ⊢)
  obtain ⟨hi, hok⟩ := hinv1
  refine WC.seq ?_
  refine WC.sr ?_
  refine WL.r rfl rfl rfl (rd_move rfl rfl) ?_
  refine WL.r rfl rfl rfl (rd_move rfl rfl) ?_
  refine WL.r rfl rfl rfl (rd_len rfl rfl Tryz.underlying31) ?_
  refine WL.r rfl rfl rfl (rd_lss rfl rfl rfl) ?_
  refine WL.nt ?_
  refine WC.cond rfl (fun hc17 => ?_) (fun hc17 => ?_)
  · (try simp only [sB] at hc17)
    have hil : i < l.length := by omega
    refine WC.skip ?_
    refine WX.then_normal ?_
    refine WC.seq ?_
    refine WC.block ?_
    refine WC.sr ?_
    refine WL.r rfl rfl rfl (rd_move rfl rfl) ?_
    refine WL.r rfl rfl rfl (rd_move rfl rfl) ?_
    (refine WL.r rfl rfl rfl (iaf rfl rfl rfl Tryz.underlying31 (by kernel_rfl : _ = some 1) ?_ ?_ (by (try simp only [sN, Int.reduceToNat, Nat.reduceAdd, Nat.reduceMul, Nat.reduceSub]); rfl)) ?_; (focus (omega)); (focus ((rw [List.length_map]; omega))))
    (refine WL.r rfl rfl rfl (ldm rfl rfl Tryz.underlying22 rfl ?_) ?_; (focus (assumption)))
    refine WL.g rfl rfl rfl (og_call rfl rfl (by kernel_rfl) (keep_val fun w hS => rvalid_c (a := l.getD i default))) ?_
    intro _
    refine WL.r rfl rfl rfl (rd_not rfl rfl) ?_
    refine WL.nt ?_
    refine WC.cond rfl (fun hc25 => ?_) (fun hc25 => ?_)
    · (try simp only [sB] at hc25)
      refine WC.sr ?_
      refine WL.r rfl rfl rfl (rd_assign rfl rfl) ?_
      refine WL.r rfl rfl rfl (rd_assign rfl rfl) ?_
      refine WL.nt ?_
      refine WC.ret ?_
      refine WX.block_ret ?_
      refine WX.then_ret ?_
      refine WX.then_ret ?_
      refine WX.block_ret ?_
      refine WX.then_ret ?_
      exact WX.retN rfl (.tmp rfl (.tmp rfl .nil)) fun w' hS => ⟨by rw [hnz 3 (by rw [chkP, if_pos (fun h => absurd (h _ (getD_mem _ _ hil)) (by simpa using hc25))]) (by decide)]; rfl, hS.below⟩
    · (try simp only [sB] at hc25)
      refine WC.skip ?_
      refine WX.block_normal ?_
      refine WX.then_normal ?_
      refine WC.region ?_
      refine WL.r rfl rfl rfl (rd_move rfl rfl) ?_
      (refine WL.r rfl rfl rfl (rd_add64nl rfl rfl rfl ?_) ?_; (focus (omega)))
      refine WL.r rfl rfl rfl (rd_assign rfl rfl) ?_
      refine WL.nil ?_
      refine WX.loopP (i + 1) (by (try dsimp only); omega) (sub_cons rfl (sub_cons rfl (sub_cons rfl (sub_nil _)))) (by refine (sub_cons ?_ (sub_nil _)) <;> (rfl)) ?_ (by (exact fun _ h => h))
      (try dsimp only)
      exact ⟨hil, all_take hil hok (by simpa using hc25)⟩
  · (try simp only [sB] at hc17)
    refine WC.exit ?_
    refine WX.then_exit ?_
    refine WX.then_exit ?_
    refine WX.block_exit ?_
    obtain rfl : i = l.length := by omega
    rw [List.take_length] at hok
    refine WX.then_normal ?_
    refine WC.seq ?_
    refine WC.sr ?_
    refine WL.r rfl rfl rfl (rd_assign rfl rfl) ?_
    refine WL.nt ?_
    refine WC.block ?_
    refine WC.loopP (σ := Nat) [(1, _), (2, _), (3, _)] (fun gq => [(9, .int .i64 (gq : Int))]) (fun gq => gq ≤ es.length ∧ ∀ x ∈ es.take gq, okZ x) (fun gq => es.length - gq) (0) (sub_cons rfl (sub_cons rfl (sub_cons rfl (sub_nil _)))) (sub_cons rfl (sub_nil _)) (by (try dsimp only); exact ⟨Nat.zero_le _, by simp⟩) ?_
    rintro k hinv2; (try dsimp only at hinv2 ⊢)
    obtain ⟨hk, hokz⟩ := hinv2
    refine WC.seq ?_
    refine WC.sr ?_
    refine WL.r rfl rfl rfl (rd_move rfl rfl) ?_
    refine WL.r rfl rfl rfl (rd_move rfl rfl) ?_
    refine WL.r rfl rfl rfl (rd_len rfl rfl Tryz.underlying36) ?_
    refine WL.r rfl rfl rfl (rd_lss rfl rfl rfl) ?_
    refine WL.nt ?_
    refine WC.cond rfl (fun hc29 => ?_) (fun hc29 => ?_)
    · (try simp only [sB] at hc29)
      have hkl : k < es.length := by omega
      refine WC.skip ?_
      refine WX.then_normal ?_
      refine WC.seq ?_
      refine WC.block ?_
      refine WC.sr ?_
      refine WL.r rfl rfl rfl (rd_move rfl rfl) ?_
      refine WL.r rfl rfl rfl (rd_move rfl rfl) ?_
      (refine WL.r rfl rfl rfl (iaf rfl rfl rfl Tryz.underlying36 (by kernel_rfl : _ = some 2) ?_ ?_ (by (try simp only [sN, Int.reduceToNat, Nat.reduceAdd, Nat.reduceMul, Nat.reduceSub]); rfl)) ?_; (focus (omega)); (focus ((rw [flatMap_len _ _ 2 (fun _ => rfl)]; omega))))
      (refine WL.r rfl rfl rfl (ldma _ rfl rfl Tryz.underlying41 rfl (by kernel_rfl : _ = some 2) (fun _ => rfl) (by decide) rfl ?_) ?_; (focus (assumption)))
      refine WL.g rfl rfl rfl (og_call rfl rfl (by kernel_rfl) (keep_val fun w hS => rzvalid_c (x := es.getD k default))) ?_
      intro _
      refine WL.r rfl rfl rfl (rd_not rfl rfl) ?_
      refine WL.nt ?_
      refine WC.cond rfl (fun hc37 => ?_) (fun hc37 => ?_)
      · (try simp only [sB] at hc37)
        refine WC.sr ?_
        refine WL.r rfl rfl rfl (rd_assign rfl rfl) ?_
        refine WL.r rfl rfl rfl (rd_assign rfl rfl) ?_
        refine WL.nt ?_
        refine WC.ret ?_
        refine WX.block_ret ?_
        refine WX.then_ret ?_
        refine WX.then_ret ?_
        refine WX.block_ret ?_
        refine WX.then_ret ?_
        exact WX.retN rfl (.tmp rfl (.tmp rfl .nil)) fun w' hS => ⟨by rw [hnz 3 (by rw [chkP, if_neg (fun h => h hok), if_pos (fun h => absurd (h _ (getD_mem _ _ hkl)) (by simpa using hc37))]) (by decide)]; rfl, hS.below⟩
      · (try simp only [sB] at hc37)
        refine WC.skip ?_
        refine WX.block_normal ?_
        refine WX.then_normal ?_
        refine WC.region ?_
        refine WL.r rfl rfl rfl (rd_move rfl rfl) ?_
        (refine WL.r rfl rfl rfl (rd_add64nl rfl rfl rfl ?_) ?_; (focus (omega)))
        refine WL.r rfl rfl rfl (rd_assign rfl rfl) ?_
        refine WL.nil ?_
        refine WX.loopP (k + 1) (by (try dsimp only); omega) (sub_cons rfl (sub_cons rfl (sub_cons rfl (sub_nil _)))) (by refine (sub_cons ?_ (sub_nil _)) <;> (rfl)) ?_ (by (exact fun _ h => h))
        (try dsimp only)
        exact ⟨hkl, all_take hkl hokz (by simpa using hc37)⟩
    · (try simp only [sB] at hc29)
      refine WC.exit ?_
      refine WX.then_exit ?_
      refine WX.then_exit ?_
      refine WX.block_exit ?_
      obtain rfl : k = es.length := by omega
      rw [List.take_length] at hokz
      refine WX.then_normal ?_
      refine WC.seq ?_
      refine WC.sr ?_
      refine WL.r rfl rfl rfl (lda rfl rfl .tc Tryz.underlying26 rfl ?_) ?_
      · kernel_rfl
      refine WL.g rfl rfl rfl (og_call rfl rfl (by kernel_rfl) (keep_val fun w hS => rgcheck_c (g := g))) ?_
      intro _
      refine WL.r rfl rfl rfl (rd_assign rfl rfl) ?_
      refine WL.nt ?_
      refine WC.sr ?_
      refine WL.r rfl rfl rfl (rd_move rfl rfl) ?_
      refine WL.r rfl rfl rfl (rd_neq rfl rfl rfl) ?_
      refine WL.nt ?_
      refine WC.cond rfl (fun hc41 => ?_) (fun hc41 => ?_)
      · (try simp only [sB] at hc41)
        have hgn : chkG g ≠ 0 := by simpa using hc41
        refine WC.sr ?_
        refine WL.r rfl rfl rfl (rd_move rfl rfl) ?_
        refine WL.r rfl rfl rfl (rd_assign rfl rfl) ?_
        refine WL.r rfl rfl rfl (rd_assign rfl rfl) ?_
        refine WL.nt ?_
        refine WC.ret ?_
        refine WX.then_ret ?_
        exact WX.retN rfl (.tmp rfl (.tmp rfl .nil)) fun w' hS => ⟨by rw [hnz (chkG g) (by rw [chkP, if_neg (fun h => h hok), if_neg (fun h => h hokz), if_pos hgn]) hgn]; rfl, hS.below⟩
      · (try simp only [sB] at hc41)
        have hg : chkG g = 0 := by simpa using hc41
        obtain ⟨hm, hq, hm2, _⟩ := chkG_ok hg
        have hm0 : g.1 ≠ [] := fun h => by rw [h] at hm2; exact absurd hm2 (by decide)
        have hp := vpos hm hm0
        have hm64 := val_8 hm8
        refine WC.skip ?_
        refine WX.then_normal ?_
        refine WC.seq ?_
        refine WC.sr ?_
        refine WL.r rfl rfl rfl (rd_move rfl rfl) ?_
        refine WL.r rfl rfl rfl (rd_len rfl rfl Tryz.underlying31) ?_
        refine WL.r rfl rfl rfl (rd_move rfl rfl) ?_
        refine WL.r rfl rfl rfl (rd_len rfl rfl Tryz.underlying36) ?_
        refine WL.r rfl rfl rfl (rd_neq rfl rfl rfl) ?_
        refine WL.set 47 rfl (v' := .bool (decide (l.length ≠ es.length))) (congrArg Value.bool (by simp; omega)) ?_
        refine WL.nt ?_
        refine WC.cond rfl (fun hc47 => ?_) (fun hc47 => ?_)
        · (try simp only [sB] at hc47)
          refine WC.sr ?_
          refine WL.r rfl rfl rfl (rd_assign rfl rfl) ?_
          refine WL.r rfl rfl rfl (rd_assign rfl rfl) ?_
          refine WL.nt ?_
          refine WC.ret ?_
          refine WX.then_ret ?_
          exact WX.retN rfl (.tmp rfl (.tmp rfl .nil)) fun w' hS => ⟨by rw [hnz 6 (by rw [chkP, if_neg (fun h => h hok), if_neg (fun h => h hokz), if_neg (fun h => h hg), if_pos (decide_eq_false hc47)]) (by decide)]; rfl, hS.below⟩
        · (try simp only [sB] at hc47)
          have hlen : l.length = es.length := by omega
          refine WC.skip ?_
          refine WX.then_normal ?_
          refine WC.seq ?_
          refine WC.sr ?_
          refine WL.r rfl rfl rfl (rd_assign rfl rfl) ?_
          refine WL.nt ?_
          refine WC.block ?_
          refine WC.loopP (σ := Nat) [(1, _), (2, _), (3, _)] (fun gq => [(11, .int .i64 (gq : Int))]) (fun gq => gq ≤ l.length ∧ ∀ x ∈ l.take gq, elG g x) (fun gq => l.length - gq) (0) (sub_cons rfl (sub_cons rfl (sub_cons rfl (sub_nil _)))) (sub_cons rfl (sub_nil _)) (by (try dsimp only); exact ⟨Nat.zero_le _, by simp⟩) ?_
          rintro i3 hinv3; (try dsimp only at hinv3 ⊢)
          obtain ⟨hi3, hel⟩ := hinv3
          refine WC.seq ?_
          refine WC.sr ?_
          refine WL.r rfl rfl rfl (rd_move rfl rfl) ?_
          refine WL.r rfl rfl rfl (rd_move rfl rfl) ?_
          refine WL.r rfl rfl rfl (rd_len rfl rfl Tryz.underlying31) ?_
          refine WL.r rfl rfl rfl (rd_lss rfl rfl rfl) ?_
          refine WL.nt ?_
          refine WC.cond rfl (fun hc51 => ?_) (fun hc51 => ?_)
          · (try simp only [sB] at hc51)
            have hil3 : i3 < l.length := by omega
            refine WC.skip ?_
            refine WX.then_normal ?_
            refine WC.seq ?_
            refine WC.block ?_
            refine WC.seq ?_
            refine WC.free0 [0, 1, 2, 3, 4, 5, 6] [] [0, 0, 0, 0, 0, 1, 0] (by kernel_rfl) (by kernel_rfl) rfl ?_
            refine WJ.r rfl rfl rfl rfl rfl (lda rfl rfl .tc Tryz.underlying26 rfl ?_) ?_
            · kernel_rfl
            refine WJ.r rfl rfl rfl rfl rfl (rd_move rfl rfl) ?_
            refine WJ.r rfl rfl rfl rfl rfl (rd_move rfl rfl) ?_
            (refine WJ.r rfl rfl rfl rfl rfl (iaf rfl rfl rfl Tryz.underlying31 (by kernel_rfl : _ = some 1) ?_ ?_ (by (try simp only [sN, Int.reduceToNat, Nat.reduceAdd, Nat.reduceMul, Nat.reduceSub]); rfl)) ?_; (focus (omega)); (focus ((rw [List.length_map]; omega))))
            (refine WJ.r rfl rfl rfl rfl rfl (ldm rfl rfl Tryz.underlying22 rfl ?_) ?_; (focus (assumption)))
            refine WJ.gv rfl rfl rfl rfl rfl (fun ext => og_call rfl rfl (by kernel_rfl) (keep_val fun w hS => rghas0_c (g := g) (x := l.getD i3 default) (by exact hg) (by exact hok _ (getD_mem _ _ hil3)) (by exact hm8))) ?_
            refine WJ.r rfl rfl rfl rfl rfl (rd_not rfl rfl) ?_
            refine WJ.nil ?_
            refine WL.nt ?_
            refine WC.cond rfl (fun hc60 => ?_) (fun hc60 => ?_)
            · (try simp only [sB] at hc60)
              refine WC.sr ?_
              refine WL.r rfl rfl rfl (rd_assign rfl rfl) ?_
              refine WL.r rfl rfl rfl (rd_assign rfl rfl) ?_
              refine WL.nt ?_
              refine WC.ret ?_
              refine WX.block_ret ?_
              refine WX.then_ret ?_
              refine WX.then_ret ?_
              refine WX.block_ret ?_
              refine WX.then_ret ?_
              exact WX.retN rfl (.tmp rfl (.tmp rfl .nil)) fun w' hS => ⟨by rw [hnz 13 (by rw [chkP, if_neg (fun h => h hok), if_neg (fun h => h hokz), if_neg (fun h => h hg), if_neg (by simp [hlen]), if_pos (fun h => absurd (h _ (getD_mem _ _ hil3)) (by simpa using hc60))]) (by decide)]; rfl, hS.below⟩
            · (try simp only [sB] at hc60)
              refine WC.skip ?_
              refine WX.block_normal ?_
              refine WX.then_normal ?_
              refine WC.region ?_
              refine WL.r rfl rfl rfl (rd_move rfl rfl) ?_
              (refine WL.r rfl rfl rfl (rd_add64nl rfl rfl rfl ?_) ?_; (focus (omega)))
              refine WL.r rfl rfl rfl (rd_assign rfl rfl) ?_
              refine WL.nil ?_
              refine WX.loopP (i3 + 1) (by (try dsimp only); omega) (sub_cons rfl (sub_cons rfl (sub_cons rfl (sub_nil _)))) (by refine (sub_cons ?_ (sub_nil _)) <;> (rfl)) ?_ (by (exact fun _ h => h))
              (try dsimp only)
              exact ⟨hil3, all_take hil3 hel (by simpa using hc60)⟩
          · (try simp only [sB] at hc51)
            refine WC.exit ?_
            refine WX.then_exit ?_
            refine WX.then_exit ?_
            refine WX.block_exit ?_
            obtain rfl : i3 = l.length := by omega
            rw [List.take_length] at hel
            have h0 : chkP g l es (decide (l.length = es.length)) = 0 := by rw [chkP, if_neg (fun h => h hok), if_neg (fun h => h hokz), if_neg (fun h => h hg), if_neg (by simp [hlen]), if_neg (fun h => h hel)]
            obtain ⟨Z, hZ⟩ : ∃ Z, Z = l.zip es := ⟨_, rfl⟩
            have hZl : Z.length = l.length := by rw [hZ]; simp; omega
            have hr : prodS g l es = (canon (prodL (fun p => powI (val g.1) (val p.1) (zv p.2)) Z % val g.1), 0) := by rw [prodS, if_pos h0, hZ]
            have hmk : ∀ k, okN (canon (k % val g.1)) ∧ (canon (k % val g.1)).length ≤ 8 := fun k => lt_len (Nat.mod_lt _ hp) hm8
            refine WX.then_normal ?_
            refine WC.sr ?_
            refine WL.r rfl rfl rfl (rd_assign rfl rfl) ?_
            refine WL.set 12 rfl (v' := .string (S (canon (prodL (fun p => powI (val g.1) (val p.1) (zv p.2)) (Z.take 0) % val g.1)))) (congrArg (fun l => Value.string (S l)) (by rw [List.take_zero, prodL, Nat.mod_eq_of_lt (by omega), one_canon])) ?_
            refine WL.nt ?_
            refine WC.seq ?_
            refine WC.sr ?_
            refine WL.r rfl rfl rfl (rd_assign rfl rfl) ?_
            refine WL.nt ?_
            refine WC.block ?_
            refine WC.loopP (σ := Nat) [(1, _), (2, _), (3, _)] (fun gq => [(12, .string (S (canon (prodL (fun p => powI (val g.1) (val p.1) (zv p.2)) (Z.take gq) % val g.1)))), (13, .int .i64 (gq : Int))]) (fun gq => gq ≤ l.length) (fun gq => l.length - gq) (0) (sub_cons rfl (sub_cons rfl (sub_cons rfl (sub_nil _)))) (sub_cons rfl (sub_cons rfl (sub_nil _))) (by (try dsimp only); omega) ?_
            rintro i4 hinv4; (try dsimp only at hinv4 ⊢)
            obtain hi4 := hinv4
            refine WC.seq ?_
            refine WC.sr ?_
            refine WL.r rfl rfl rfl (rd_move rfl rfl) ?_
            refine WL.r rfl rfl rfl (rd_move rfl rfl) ?_
            refine WL.r rfl rfl rfl (rd_len rfl rfl Tryz.underlying31) ?_
            refine WL.r rfl rfl rfl (rd_lss rfl rfl rfl) ?_
            refine WL.nt ?_
            refine WC.cond rfl (fun hc64 => ?_) (fun hc64 => ?_)
            · (try simp only [sB] at hc64)
              have hil4 : i4 < l.length := by omega
              have hx := hel _ (getD_mem l i4 hil4)
              have hz := hokz _ (getD_mem es i4 (by omega))
              have hpw := powM_ok hx.1 hz hm hm0 (elG_gcd hg hx)
              have hpl : powI (val g.1) (val (l.getD i4 default)) (zv (es.getD i4 default)) < val g.1 := Nat.mod_lt _ hp
              have hpk := lt_len hpl hm8
              have hsu := prodL_succ (fun p => powI (val g.1) (val p.1) (zv p.2)) Z i4 (by omega)
              rw [show Z.getD i4 default = (l.getD i4 default, es.getD i4 default) by rw [hZ]; exact getD_zip hil4 (by omega)] at hsu
              have hmm := mulM_ok (hmk (prodL (fun p => powI (val g.1) (val p.1) (zv p.2)) (Z.take i4))).1 hpk.1 hm hm0
              rw [val_canon, val_canon, mml, ← hsu] at hmm
              refine WC.skip ?_
              refine WX.then_normal ?_
              refine WC.seq ?_
              refine WC.block ?_
              refine WC.free0 [1, 2, 3, 4, 5, 6, 7, 8, 9, 10, 0, 11, 12, 13, 14, 15, 16, 17] [] [0, 0, 0, 0, 0, 0, 0, 0, 0, 0, 1, 0, 0, 1, 0, 0, 0, 0] (by kernel_rfl) (by kernel_rfl) rfl ?_
              refine WJ.r rfl rfl rfl rfl rfl (lda rfl rfl .tc Tryz.underlying26 rfl ?_) ?_
              · kernel_rfl
              refine WJ.r rfl rfl rfl rfl rfl (rd_move rfl rfl) ?_
              refine WJ.r rfl rfl rfl rfl rfl (rd_move rfl rfl) ?_
              (refine WJ.r rfl rfl rfl rfl rfl (iaf rfl rfl rfl Tryz.underlying31 (by kernel_rfl : _ = some 1) ?_ ?_ (by (try simp only [sN, Int.reduceToNat, Nat.reduceAdd, Nat.reduceMul, Nat.reduceSub]); rfl)) ?_; (focus (omega)); (focus ((rw [List.length_map]; omega))))
              (refine WJ.r rfl rfl rfl rfl rfl (ldm rfl rfl Tryz.underlying22 rfl ?_) ?_; (focus (assumption)))
              refine WJ.r rfl rfl rfl rfl rfl (rd_move rfl rfl) ?_
              refine WJ.r rfl rfl rfl rfl rfl (rd_move rfl rfl) ?_
              (refine WJ.r rfl rfl rfl rfl rfl (iaf rfl rfl rfl Tryz.underlying36 (by kernel_rfl : _ = some 2) ?_ ?_ (by (try simp only [sN, Int.reduceToNat, Nat.reduceAdd, Nat.reduceMul, Nat.reduceSub]); rfl)) ?_; (focus (omega)); (focus ((rw [flatMap_len _ _ 2 (fun _ => rfl)]; omega))))
              (refine WJ.r rfl rfl rfl rfl rfl (ldma _ rfl rfl Tryz.underlying41 rfl (by kernel_rfl : _ = some 2) (fun _ => rfl) (by decide) rfl ?_) ?_; (focus (omega)))
              refine WJ.gv rfl rfl rfl rfl rfl (fun ext => og_call rfl rfl (by kernel_rfl) (keep_val fun w hS => (by have := rraw_c (w := w) (g := g) (x := l.getD i4 default) (z := es.getD i4 default) hm8; rw [hpw] at this; exact this))) ?_
              refine WJ.r rfl rfl rfl rfl rfl (rd_move rfl rfl) ?_
              (refine WJ.r rfl rfl rfl rfl rfl (rd_fa (q := 0) rfl rfl Tryz.underlying26 rfl (by kernel_rfl) rfl) ?_)
              (refine WJ.r rfl rfl rfl rfl rfl (ld rfl rfl .tc Tryz.underlying22 rfl (by rfl)) ?_)
              refine WJ.gv rfl rfl rfl rfl rfl (fun ext => og_call rfl rfl (by kernel_rfl) (keep_val fun w hS => (by have := rmmul_c (w := w) (a := canon (prodL (fun p => powI (val g.1) (val p.1) (zv p.2)) (Z.take i4) % val g.1)) (b := canon (powI (val g.1) (val (l.getD i4 default)) (zv (es.getD i4 default)))) (m := g.1) hm8; rw [hmm] at this; exact this))) ?_
              refine WJ.r rfl rfl rfl rfl rfl (rd_move rfl rfl) ?_
              refine WJ.r rfl rfl rfl rfl rfl (rd_extL rfl rfl rfl) ?_
              refine WJ.r rfl rfl rfl rfl rfl (rd_extL rfl rfl rfl) ?_
              refine WJ.r rfl rfl rfl rfl rfl (rd_assign rfl rfl) ?_
              refine WJ.nil ?_
              refine WL.nil ?_
              refine WX.block_normal ?_
              refine WX.then_normal ?_
              refine WC.region ?_
              refine WL.r rfl rfl rfl (rd_move rfl rfl) ?_
              (refine WL.r rfl rfl rfl (rd_add64nl rfl rfl rfl ?_) ?_; (focus (omega)))
              refine WL.r rfl rfl rfl (rd_assign rfl rfl) ?_
              refine WL.nil ?_
              refine WX.loopP (i4 + 1) (by (try dsimp only); omega) (sub_cons rfl (sub_cons rfl (sub_cons rfl (sub_nil _)))) (by refine (sub_cons ?_ (sub_cons ?_ (sub_nil _))) <;> (rfl)) ?_ (by (exact fun _ h => h))
              (try dsimp only)
              omega
            · (try simp only [sB] at hc64)
              refine WC.exit ?_
              refine WX.then_exit ?_
              refine WX.then_exit ?_
              refine WX.block_exit ?_
              obtain rfl : i4 = l.length := by omega
              rw [List.take_of_length_le (Nat.le_of_eq hZl)]
              refine WX.then_normal ?_
              refine WC.sr ?_
              refine WL.r rfl rfl rfl (rd_move rfl rfl) ?_
              refine WL.r rfl rfl rfl (rd_assign rfl rfl) ?_
              refine WL.r rfl rfl rfl (rd_assign rfl rfl) ?_
              refine WL.nt ?_
              refine WC.ret ?_
              exact WX.retN rfl (.tmp rfl (.tmp rfl .nil)) fun w' hS => ⟨by rw [hr]; rfl, hS.below⟩
end Go.Proofs.YtbcnnkcddilfjaaGreat
