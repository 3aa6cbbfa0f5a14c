/-
  Groups: the reference's Check and Has.
-/
import Derived.Test.YtbcnnkcddilfjaaGreatGrp1
namespace Go.Proofs.YtbcnnkcddilfjaaGreat
set_option linter.unusedSimpArgs false
set_option linter.unusedVariables false
set_option maxRecDepth 20000
set_option maxHeartbeats 600000
open Go.RowKit

theorem last_mod2 {s : Bs} (h : s ≠ []) : (s.getD (s.length - 1) default).toNat % 2 = val s % 2 := by
  have hl := List.length_pos_iff.2 h
  have := val_digit s 0 hl
  rw [Nat.pow_zero, Nat.div_one, Nat.sub_zero] at this
  omega
theorem eq_one {s : Bs} (h : okN s) : s = [1] ↔ val s = 1 := by
  rw [← canon_one, ok_canon h]
theorem eq_nil {s : Bs} (h : okN s) : s = [] ↔ val s = 0 := (val_eq_zero h.2).symm
theorem rgcheck_c {g : Gp} {w : World} :
    Calls Tryz.prog 29 #[gV g] w fun e w' => e = .returned (.int .i64 (chkG g)) ∧ Below w.heap.size w w' := by
  have hB8 : 8 < Big := Nat.lt_of_lt_of_le (by decide) big64
  refine enter (S := St (fun _ => True) w [] ([])) (L := [(0, gV g)]) Tryz.func29 rfl Tryz.ntmps29 rfl (args_cons rfl (args_nil _)) (St.start (fun _ _ => trivial) facts_nil) ?_
  refine WC.sr ?_
  refine WL.g rfl rfl rfl (og_box rfl rfl (by (exact cells_agg _))) ?_
  intro b1
  refine WL.r rfl rfl rfl (rd_assign rfl rfl) ?_
  refine WL.nt ?_
  refine WC.seq ?_
  refine WC.joinP (σ := Unit) [(1, _)] (fun gq => [(14, .bool (decide (¬ (okN g.1 ∧ okN g.2))))]) (fun gq => True) (sub_cons rfl (sub_nil _)) ?_ ?_
  · skip
    refine WC.region ?_
    (refine WL.r rfl rfl rfl (rd_fa (q := 0) rfl rfl Tryz.underlying26 rfl (by kernel_rfl) rfl) ?_)
    (refine WL.r rfl rfl rfl (ld rfl rfl .tc Tryz.underlying22 rfl (by rfl)) ?_)
    refine WL.g rfl rfl rfl (og_call rfl rfl (by kernel_rfl) (keep_val fun w hS => rvalid_c (a := g.1))) ?_
    intro _
    refine WL.r rfl rfl rfl (rd_not rfl rfl) ?_
    refine WL.r rfl rfl rfl (rd_move rfl rfl) ?_
    refine WL.bool 9 rfl (fun hg9 => ?_) (fun hg9 => ?_)
    · (try simp only [sB] at hg9)
      refine WL.s rfl rfl rfl ?_
      refine WL.s rfl rfl rfl ?_
      refine WL.s rfl rfl rfl ?_
      refine WL.s rfl rfl rfl ?_
      refine WL.r rfl rfl rfl (rd_pickt rfl rfl rfl) ?_
      refine WL.nil ?_
      refine WX.joinP (()) (sub_cons rfl (sub_nil _)) (by refine (sub_cons ?_ (sub_nil _)) <;> ((refine slot_b rfl ?_; (try dsimp only); (simp [*]; done)))) ?_ (by (exact fun _ h => h))
      (try dsimp only)
      done
    · (try simp only [sB] at hg9)
      (refine WL.r rfl rfl rfl (rd_fa (q := 1) rfl rfl Tryz.underlying26 rfl (by kernel_rfl) rfl) ?_)
      (refine WL.r rfl rfl rfl (ld rfl rfl .tc Tryz.underlying22 rfl (by rfl)) ?_)
      refine WL.g rfl rfl rfl (og_call rfl rfl (by kernel_rfl) (keep_val fun w hS => rvalid_c (a := g.2))) ?_
      intro _
      refine WL.r rfl rfl rfl (rd_not rfl rfl) ?_
      refine WL.r rfl rfl rfl (rd_pickf rfl rfl rfl) ?_
      refine WL.nil ?_
      refine WX.joinP (()) (sub_cons rfl (sub_nil _)) (by refine (sub_cons ?_ (sub_nil _)) <;> ((refine slot_b rfl ?_; (try dsimp only); (simp [*]; done)))) ?_ (by (exact fun _ h => h))
      (try dsimp only)
      done
  · rintro _ hmeet; (try dsimp only at hmeet ⊢)
    refine WC.cond rfl (fun hc14 => ?_) (fun hc14 => ?_)
    · (try simp only [sB] at hc14)
      have hr : chkG g = 3 := by rw [chkG, if_neg hc14]
      refine WC.sr ?_
      refine WL.r rfl rfl rfl (rd_assign rfl rfl) ?_
      refine WL.nt ?_
      refine WC.ret ?_
      refine WX.then_ret ?_
      exact WX.retN rfl (.tmp rfl .nil) fun w' hS => ⟨by rw [hr]; rfl, hS.below⟩
    · (try simp only [sB] at hc14)
      have hok : okN g.1 ∧ okN g.2 := by simpa using hc14
      have hb1 := okN_val hok.1; have hb2 := okN_val hok.2
      have hv2 : val g.2 = 0 ↔ g.2 = [] := val_eq_zero hok.2.2
      have hl1 := hok.1.1
      refine WC.skip ?_
      refine WX.then_normal ?_
      refine WC.seq ?_
      refine WC.sr ?_
      (refine WL.r rfl rfl rfl (rd_fa (q := 1) rfl rfl Tryz.underlying26 rfl (by kernel_rfl) rfl) ?_)
      (refine WL.r rfl rfl rfl (ld rfl rfl .tc Tryz.underlying22 rfl (by rfl)) ?_)
      refine WL.r rfl rfl rfl (rd_seq rfl rfl rfl) ?_
      refine WL.nt ?_
      refine WC.cond rfl (fun hc17 => ?_) (fun hc17 => ?_)
      · (try simp only [sB] at hc17)
        have hq : g.2 = [] := by simpa using hc17
        have hlp : val g.1 = 0 ∨ 0 < g.1.length := by
          by_cases h : g.1 = []
          · exact .inl (by rw [h]; rfl)
          · exact .inr (List.length_pos_iff.2 h)
        have hlm : val g.1 = 0 ∨ (g.1.getD (g.1.length - 1) default).toNat % 2 = val g.1 % 2 := by
          by_cases h : g.1 = []
          · exact .inl (by rw [h]; rfl)
          · exact .inr (last_mod2 h)
        refine WC.seq ?_
        refine WC.joinP (σ := Unit) [] (fun gq => [(37, .bool (decide (¬ (val g.1 % 2 = 1 ∧ 8 < val g.1))))]) (fun gq => True) (sub_nil _) ?_ ?_
        · skip
          refine WC.region ?_
          (refine WL.r rfl rfl rfl (rd_fa (q := 0) rfl rfl Tryz.underlying26 rfl (by kernel_rfl) rfl) ?_)
          (refine WL.r rfl rfl rfl (ld rfl rfl .tc Tryz.underlying22 rfl (by rfl)) ?_)
          refine WL.r rfl rfl rfl (rd_seq rfl rfl rfl) ?_
          refine WL.set 20 rfl (v' := .bool (decide (val g.1 = 0))) (congrArg Value.bool (by exact decide_eq_decide.2 (by rw [← eq_nil hok.1]))) ?_
          refine WL.r rfl rfl rfl (rd_move rfl rfl) ?_
          refine WL.bool 21 rfl (fun hg21 => ?_) (fun hg21 => ?_)
          · (try simp only [sB] at hg21)
            refine WL.s rfl rfl rfl ?_
            refine WL.s rfl rfl rfl ?_
            refine WL.s rfl rfl rfl ?_
            refine WL.s rfl rfl rfl ?_
            refine WL.s rfl rfl rfl ?_
            refine WL.s rfl rfl rfl ?_
            refine WL.s rfl rfl rfl ?_
            refine WL.s rfl rfl rfl ?_
            refine WL.s rfl rfl rfl ?_
            refine WL.r rfl rfl rfl (rd_pickt rfl rfl rfl) ?_
            refine WL.r rfl rfl rfl (rd_move rfl rfl) ?_
            refine WL.s rfl rfl rfl ?_
            refine WL.s rfl rfl rfl ?_
            refine WL.s rfl rfl rfl ?_
            refine WL.s rfl rfl rfl ?_
            refine WL.r rfl rfl rfl (rd_pickt rfl rfl rfl) ?_
            refine WL.nil ?_
            refine WX.joinP (()) (sub_nil _) (by refine (sub_cons ?_ (sub_nil _)) <;> ((refine slot_b rfl ?_; (try dsimp only); (simp [*]; done)))) ?_ (by (exact fun _ h => h))
            (try dsimp only)
            done
          · (try simp only [sB] at hg21)
            (refine WL.r rfl rfl rfl (rd_fa (q := 0) rfl rfl Tryz.underlying26 rfl (by kernel_rfl) rfl) ?_)
            (refine WL.r rfl rfl rfl (ld rfl rfl .tc Tryz.underlying22 rfl (by rfl)) ?_)
            (refine WL.r rfl rfl rfl (rd_fa (q := 0) rfl rfl Tryz.underlying26 rfl (by kernel_rfl) rfl) ?_)
            (refine WL.r rfl rfl rfl (ld rfl rfl .tc Tryz.underlying22 rfl (by rfl)) ?_)
            refine WL.r rfl rfl rfl (rd_slen rfl rfl Tryz.underlying22) ?_
            (refine WL.r rfl rfl rfl (rd_sub64nl rfl rfl rfl ?_) ?_; (focus (omega)))
            refine WL.r rfl rfl rfl (rd_sidxD rfl rfl rfl Tryz.underlying22 ?_) ?_
            · omega
            refine WL.r rfl rfl rfl (rd_remN rfl rfl rfl (by decide)) ?_
            refine WL.r rfl rfl rfl (rd_eql rfl rfl rfl) ?_
            refine WL.set 30 rfl (v' := .bool (decide (val g.1 % 2 = 0))) (congrArg Value.bool (by exact decide_eq_decide.2 (by rw [Int.toNat_natCast]; omega))) ?_
            refine WL.r rfl rfl rfl (rd_pickf rfl rfl rfl) ?_
            refine WL.r rfl rfl rfl (rd_move rfl rfl) ?_
            refine WL.bool 32 rfl (fun hg32 => ?_) (fun hg32 => ?_)
            · (try simp only [sB] at hg32)
              refine WL.s rfl rfl rfl ?_
              refine WL.s rfl rfl rfl ?_
              refine WL.s rfl rfl rfl ?_
              refine WL.s rfl rfl rfl ?_
              refine WL.r rfl rfl rfl (rd_pickt rfl rfl rfl) ?_
              refine WL.nil ?_
              refine WX.joinP (()) (sub_nil _) (by refine (sub_cons ?_ (sub_nil _)) <;> ((refine slot_b rfl ?_; (try dsimp only); (simp [*]; done)))) ?_ (by (exact fun _ h => h))
              (try dsimp only)
              done
            · (try simp only [sB] at hg32)
              (refine WL.r rfl rfl rfl (rd_fa (q := 0) rfl rfl Tryz.underlying26 rfl (by kernel_rfl) rfl) ?_)
              (refine WL.r rfl rfl rfl (ld rfl rfl .tc Tryz.underlying22 rfl (by rfl)) ?_)
              refine WL.g rfl rfl rfl (og_call rfl rfl (by kernel_rfl) (keep_val fun w hS => order_c (a := g.1) (b := [8]) (by exact hok.1.2) (by decide) (by omega))) ?_
              intro _
              refine WL.r rfl rfl rfl (rd_leq rfl rfl rfl) ?_
              refine WL.set 36 rfl (v' := .bool (decide (val g.1 ≤ 8))) (congrArg Value.bool (by exact decide_eq_decide.2 (cmpI_le _ _))) ?_
              refine WL.r rfl rfl rfl (rd_pickf rfl rfl rfl) ?_
              refine WL.nil ?_
              refine WX.joinP (()) (sub_nil _) (by refine (sub_cons ?_ (sub_nil _)) <;> ((refine slot_b rfl ?_; (try dsimp only); (exact decide_eq_decide.2 (by omega))))) ?_ (by (exact fun _ h => h))
              (try dsimp only)
              done
        · rintro _ hmeet; (try dsimp only at hmeet ⊢)
          refine WC.cond rfl (fun hc37 => ?_) (fun hc37 => ?_)
          · (try simp only [sB] at hc37)
            have hr : chkG g = 13 := by rw [chkG, if_pos hok, if_pos hq, if_neg hc37]
            refine WC.sr ?_
            refine WL.r rfl rfl rfl (rd_assign rfl rfl) ?_
            refine WL.nt ?_
            refine WC.ret ?_
            refine WX.then_ret ?_
            refine WX.then_ret ?_
            exact WX.retN rfl (.tmp rfl .nil) fun w' hS => ⟨by rw [hr]; rfl, hS.below⟩
          · (try simp only [sB] at hc37)
            have hr : chkG g = 0 := by rw [chkG, if_pos hok, if_pos hq, if_pos (by simpa using hc37)]
            refine WC.skip ?_
            refine WX.then_normal ?_
            refine WC.sr ?_
            refine WL.r rfl rfl rfl (rd_assign rfl rfl) ?_
            refine WL.nt ?_
            refine WC.ret ?_
            refine WX.then_ret ?_
            exact WX.retN rfl (.tmp rfl .nil) fun w' hS => ⟨by rw [hr]; rfl, hS.below⟩
      · (try simp only [sB] at hc17)
        have hq : g.2 ≠ [] := by simpa using hc17
        have hqp : 0 < val g.2 := by rcases Nat.eq_zero_or_pos (val g.2) with h | h; exact absurd (hv2.1 h) hq; exact h
        refine WC.skip ?_
        refine WX.then_normal ?_
        refine WC.seq ?_
        refine WC.joinP (σ := Unit) [(1, _)] (fun gq => [(50, .bool (decide (val g.1 ≤ 1 ∨ val g.2 < 2)))]) (fun gq => True) (sub_cons rfl (sub_nil _)) ?_ ?_
        · skip
          refine WC.region ?_
          (refine WL.r rfl rfl rfl (rd_fa (q := 0) rfl rfl Tryz.underlying26 rfl (by kernel_rfl) rfl) ?_)
          (refine WL.r rfl rfl rfl (ld rfl rfl .tc Tryz.underlying22 rfl (by rfl)) ?_)
          refine WL.r rfl rfl rfl (rd_seq rfl rfl rfl) ?_
          refine WL.set 40 rfl (v' := .bool (decide (val g.1 = 0))) (congrArg Value.bool (by exact decide_eq_decide.2 (by rw [← eq_nil hok.1]))) ?_
          refine WL.r rfl rfl rfl (rd_move rfl rfl) ?_
          refine WL.bool 41 rfl (fun hg41 => ?_) (fun hg41 => ?_)
          · (try simp only [sB] at hg41)
            refine WL.s rfl rfl rfl ?_
            refine WL.s rfl rfl rfl ?_
            refine WL.s rfl rfl rfl ?_
            refine WL.r rfl rfl rfl (rd_pickt rfl rfl rfl) ?_
            refine WL.r rfl rfl rfl (rd_move rfl rfl) ?_
            refine WL.s rfl rfl rfl ?_
            refine WL.s rfl rfl rfl ?_
            refine WL.s rfl rfl rfl ?_
            refine WL.r rfl rfl rfl (rd_pickt rfl rfl rfl) ?_
            refine WL.nil ?_
            refine WX.joinP (()) (sub_cons rfl (sub_nil _)) (by refine (sub_cons ?_ (sub_nil _)) <;> ((refine slot_b rfl ?_; (try dsimp only); (simp [*]; done)))) ?_ (by (exact fun _ h => h))
            (try dsimp only)
            done
          · (try simp only [sB] at hg41)
            (refine WL.r rfl rfl rfl (rd_fa (q := 0) rfl rfl Tryz.underlying26 rfl (by kernel_rfl) rfl) ?_)
            (refine WL.r rfl rfl rfl (ld rfl rfl .tc Tryz.underlying22 rfl (by rfl)) ?_)
            refine WL.r rfl rfl rfl (rd_seq rfl rfl rfl) ?_
            refine WL.set 44 rfl (v' := .bool (decide (val g.1 = 1))) (congrArg Value.bool (by exact decide_eq_decide.2 (by rw [← eq_one hok.1]))) ?_
            refine WL.r rfl rfl rfl (rd_pickf rfl rfl rfl) ?_
            refine WL.r rfl rfl rfl (rd_move rfl rfl) ?_
            refine WL.bool 46 rfl (fun hg46 => ?_) (fun hg46 => ?_)
            · (try simp only [sB] at hg46)
              refine WL.s rfl rfl rfl ?_
              refine WL.s rfl rfl rfl ?_
              refine WL.s rfl rfl rfl ?_
              refine WL.r rfl rfl rfl (rd_pickt rfl rfl rfl) ?_
              refine WL.nil ?_
              refine WX.joinP (()) (sub_cons rfl (sub_nil _)) (by refine (sub_cons ?_ (sub_nil _)) <;> ((refine slot_b rfl ?_; (try dsimp only); (simp [*]; done)))) ?_ (by (exact fun _ h => h))
              (try dsimp only)
              done
            · (try simp only [sB] at hg46)
              (refine WL.r rfl rfl rfl (rd_fa (q := 1) rfl rfl Tryz.underlying26 rfl (by kernel_rfl) rfl) ?_)
              (refine WL.r rfl rfl rfl (ld rfl rfl .tc Tryz.underlying22 rfl (by rfl)) ?_)
              refine WL.r rfl rfl rfl (rd_seq rfl rfl rfl) ?_
              refine WL.set 49 rfl (v' := .bool (decide (val g.2 = 1))) (congrArg Value.bool (by exact decide_eq_decide.2 (by rw [← eq_one hok.2]))) ?_
              refine WL.r rfl rfl rfl (rd_pickf rfl rfl rfl) ?_
              refine WL.nil ?_
              refine WX.joinP (()) (sub_cons rfl (sub_nil _)) (by refine (sub_cons ?_ (sub_nil _)) <;> ((refine slot_b rfl ?_; (try dsimp only); (exact decide_eq_decide.2 (by omega))))) ?_ (by (exact fun _ h => h))
              (try dsimp only)
              done
        · rintro _ hmeet; (try dsimp only at hmeet ⊢)
          refine WC.cond rfl (fun hc50 => ?_) (fun hc50 => ?_)
          · (try simp only [sB] at hc50)
            have hr : chkG g = 13 := by rw [chkG, if_pos hok, if_neg hq, if_pos (by omega)]
            refine WC.sr ?_
            refine WL.r rfl rfl rfl (rd_assign rfl rfl) ?_
            refine WL.nt ?_
            refine WC.ret ?_
            refine WX.then_ret ?_
            exact WX.retN rfl (.tmp rfl .nil) fun w' hS => ⟨by rw [hr]; rfl, hS.below⟩
          · (try simp only [sB] at hc50)
            refine WC.skip ?_
            refine WX.then_normal ?_
            refine WC.seq ?_
            refine WC.seq ?_
            refine WC.free0 [0, 1, 2, 3, 4, 5, 6, 7, 8, 9, 10] [] [0, 0, 1, 0, 0, 1, 0, 0, 0, 0, 0] (by kernel_rfl) (by kernel_rfl) rfl ?_
            (refine WJ.r rfl rfl rfl rfl rfl (rd_fa (q := 0) rfl rfl Tryz.underlying26 rfl (by kernel_rfl) rfl) ?_)
            (refine WJ.r rfl rfl rfl rfl rfl (ld rfl rfl .tc Tryz.underlying22 rfl (by rfl)) ?_)
            refine WJ.gv rfl rfl rfl rfl rfl (fun ext => og_call rfl rfl (by kernel_rfl) (keep_val fun w hS => minus_c (a := g.1) (b := [1]) (by show 1 ≤ val g.1; omega) (by omega) (by decide))) ?_
            refine WJ.set 54 rfl (v' := .string (S (canon (val g.1 - 1)))) (congrArg (fun l => Value.string (S l)) (by rfl)) ?_
            (refine WJ.r rfl rfl rfl rfl rfl (rd_fa (q := 1) rfl rfl Tryz.underlying26 rfl (by kernel_rfl) rfl) ?_)
            (refine WJ.r rfl rfl rfl rfl rfl (ld rfl rfl .tc Tryz.underlying22 rfl (by rfl)) ?_)
            refine WJ.gv rfl rfl rfl rfl rfl (fun ext => og_call rfl rfl (by kernel_rfl) (keep_val fun w hS => rover_c (a := canon (val g.1 - 1)) (b := g.2) (by exact okN_can (by omega)) (by exact hok.2) (by exact hq))) ?_
            refine WJ.r rfl rfl rfl rfl rfl (rd_move rfl rfl) ?_
            refine WJ.r rfl rfl rfl rfl rfl (rd_extL rfl rfl rfl) ?_
            refine WJ.r rfl rfl rfl rfl rfl (rd_extL rfl rfl rfl) ?_
            refine WJ.r rfl rfl rfl rfl rfl (rd_assign rfl rfl) ?_
            refine WJ.r rfl rfl rfl rfl rfl (rd_assign rfl rfl) ?_
            refine WJ.nil ?_
            refine WL.nt ?_
            refine WC.sr ?_
            refine WL.r rfl rfl rfl (rd_move rfl rfl) ?_
            refine WL.r rfl rfl rfl (rd_sne rfl rfl rfl) ?_
            refine WL.set 61 rfl (v' := .bool (decide ((val g.1 - 1) % val g.2 ≠ 0))) (congrArg Value.bool (by simp [canon_nil, val_canon])) ?_
            refine WL.nt ?_
            refine WC.cond rfl (fun hc61 => ?_) (fun hc61 => ?_)
            · (try simp only [sB] at hc61)
              have hr : chkG g = 13 := by rw [chkG, if_pos hok, if_neg hq, if_pos (Or.inr (Or.inr hc61))]
              refine WC.sr ?_
              refine WL.r rfl rfl rfl (rd_assign rfl rfl) ?_
              refine WL.nt ?_
              refine WC.ret ?_
              refine WX.then_ret ?_
              exact WX.retN rfl (.tmp rfl .nil) fun w' hS => ⟨by rw [hr]; rfl, hS.below⟩
            · (try simp only [sB] at hc61)
              have hr : chkG g = 0 := by rw [chkG, if_pos hok, if_neg hq, if_neg (fun h => by rcases h with h | h | h; omega; omega; exact hc61 h)]
              refine WC.skip ?_
              refine WX.then_normal ?_
              refine WC.sr ?_
              refine WL.r rfl rfl rfl (rd_assign rfl rfl) ?_
              refine WL.nt ?_
              refine WC.ret ?_
              exact WX.retN rfl (.tmp rfl .nil) fun w' hS => ⟨by rw [hr]; rfl, hS.below⟩
theorem rghas0_c {g : Gp} {x : Bs} {w : World} (hg : chkG g = 0) (hx : okN x) (hm8 : g.1.length ≤ 8) :
    Calls Tryz.prog 58 #[gV g, .string (S x)] w fun e w' => e = .returned (.bool (decide (elG g x))) ∧ Below w.heap.size w w' := by
  obtain ⟨hm, hqk, h2, _⟩ := chkG_ok hg
  have hl := hm.1
  refine enter (S := St (fun _ => True) w [] ([])) (L := [(0, gV g), (1, .string (S x))]) Tryz.func58 rfl Tryz.ntmps58 rfl (args_cons rfl (args_cons rfl (args_nil _))) (St.start (fun _ _ => trivial) facts_nil) ?_
  refine WC.sr ?_
  refine WL.g rfl rfl rfl (og_box rfl rfl (by (exact cells_agg _))) ?_
  intro b2
  refine WL.r rfl rfl rfl (rd_assign rfl rfl) ?_
  refine WL.nt ?_
  refine WC.seq ?_
  refine WC.sr ?_
  (refine WL.r rfl rfl rfl (rd_fa (q := 1) rfl rfl Tryz.underlying26 rfl (by kernel_rfl) rfl) ?_)
  (refine WL.r rfl rfl rfl (ld rfl rfl .tc Tryz.underlying22 rfl (by rfl)) ?_)
  refine WL.r rfl rfl rfl (rd_sne rfl rfl rfl) ?_
  refine WL.nt ?_
  refine WC.cond rfl (fun hc7 => ?_) (fun hc7 => ?_)
  · (try simp only [sB] at hc7)
    have hq : g.2 ≠ [] := by simpa using hc7
    have hr := elG_P (x := x) hg hq
    refine WC.sr ?_
    refine WL.r rfl rfl rfl (lda rfl rfl .tc Tryz.underlying26 rfl ?_) ?_
    · kernel_rfl
    refine WL.r rfl rfl rfl (rd_move rfl rfl) ?_
    refine WL.g rfl rfl rfl (og_call rfl rfl (by kernel_rfl) (keep_val fun w hS => rphas_c (g := g) (x := x) (by assumption))) ?_
    intro _
    refine WL.r rfl rfl rfl (rd_assign rfl rfl) ?_
    refine WL.nt ?_
    refine WC.ret ?_
    refine WX.then_ret ?_
    exact WX.retN rfl (.tmp rfl .nil) fun w' hS => ⟨by simp only [hr]; rfl, hS.below⟩
  · (try simp only [sB] at hc7)
    have hq : g.2 = [] := by simpa using hc7
    have hr : elG g x ↔ x ≠ [] ∧ val x < val g.1 ∧ Nat.gcd (val x) (val g.1) = 1 := by
      rw [elG, if_pos hq]; exact ⟨fun h => h.2, fun h => ⟨hx, h⟩⟩
    refine WC.skip ?_
    refine WX.then_normal ?_
    refine WC.sr ?_
    refine WL.r rfl rfl rfl (rd_move rfl rfl) ?_
    refine WL.r rfl rfl rfl (rd_sne rfl rfl rfl) ?_
    refine WL.r rfl rfl rfl (rd_move rfl rfl) ?_
    refine WL.bool 13 rfl (fun hg13 => ?_) (fun hg13 => ?_)
    · (try simp only [sB] at hg13)
      refine WL.r rfl rfl rfl (rd_move rfl rfl) ?_
      (refine WL.r rfl rfl rfl (rd_fa (q := 0) rfl rfl Tryz.underlying26 rfl (by kernel_rfl) rfl) ?_)
      (refine WL.r rfl rfl rfl (ld rfl rfl .tc Tryz.underlying22 rfl (by rfl)) ?_)
      refine WL.g rfl rfl rfl (og_call rfl rfl (by kernel_rfl) (keep_val fun w hS => order_c (a := x) (b := g.1) (by exact hx.2) (by exact hm.2) (by have := hx.1; omega))) ?_
      intro _
      refine WL.r rfl rfl rfl (rd_lss rfl rfl rfl) ?_
      refine WL.set 18 rfl (v' := .bool (decide (val x < val g.1))) (congrArg Value.bool (by exact decide_eq_decide.2 (cmpI_neg _ _))) ?_
      refine WL.r rfl rfl rfl (rd_pickt rfl rfl rfl) ?_
      refine WL.r rfl rfl rfl (rd_move rfl rfl) ?_
      refine WL.bool 20 rfl (fun hg20 => ?_) (fun hg20 => ?_)
      · (try simp only [sB] at hg20)
        refine WL.r rfl rfl rfl (rd_move rfl rfl) ?_
        (refine WL.r rfl rfl rfl (rd_fa (q := 0) rfl rfl Tryz.underlying26 rfl (by kernel_rfl) rfl) ?_)
        (refine WL.r rfl rfl rfl (ld rfl rfl .tc Tryz.underlying22 rfl (by rfl)) ?_)
        refine WL.g rfl rfl rfl (og_call rfl rfl (by kernel_rfl) (keep_val fun w hS => rcommon_c (a := x) (b := g.1) (by exact hx) (by exact hm))) ?_
        intro _
        refine WL.r rfl rfl rfl (rd_seq rfl rfl rfl) ?_
        refine WL.set 25 rfl (v' := .bool (decide (Nat.gcd (val x) (val g.1) = 1))) (congrArg Value.bool (by simp [canon_one])) ?_
        refine WL.r rfl rfl rfl (rd_pickt rfl rfl rfl) ?_
        refine WL.r rfl rfl rfl (rd_assign rfl rfl) ?_
        refine WL.nt ?_
        refine WC.ret ?_
        exact WX.retN rfl (.tmp rfl .nil) fun w' hS => ⟨by rw [show decide (elG g x) = decide (x ≠ [] ∧ val x < val g.1 ∧ Nat.gcd (val x) (val g.1) = 1) from decide_eq_decide.2 hr]; (simp [*, tup]; done), hS.below⟩
      · (try simp only [sB] at hg20)
        refine WL.s rfl rfl rfl ?_
        refine WL.s rfl rfl rfl ?_
        refine WL.s rfl rfl rfl ?_
        refine WL.s rfl rfl rfl ?_
        refine WL.s rfl rfl rfl ?_
        refine WL.r rfl rfl rfl (rd_pickf rfl rfl rfl) ?_
        refine WL.r rfl rfl rfl (rd_assign rfl rfl) ?_
        refine WL.nt ?_
        refine WC.ret ?_
        exact WX.retN rfl (.tmp rfl .nil) fun w' hS => ⟨by rw [show decide (elG g x) = decide (x ≠ [] ∧ val x < val g.1 ∧ Nat.gcd (val x) (val g.1) = 1) from decide_eq_decide.2 hr]; (simp [*, tup]; done), hS.below⟩
    · (try simp only [sB] at hg13)
      refine WL.s rfl rfl rfl ?_
      refine WL.s rfl rfl rfl ?_
      refine WL.s rfl rfl rfl ?_
      refine WL.s rfl rfl rfl ?_
      refine WL.s rfl rfl rfl ?_
      refine WL.r rfl rfl rfl (rd_pickf rfl rfl rfl) ?_
      refine WL.r rfl rfl rfl (rd_move rfl rfl) ?_
      refine WL.s rfl rfl rfl ?_
      refine WL.s rfl rfl rfl ?_
      refine WL.s rfl rfl rfl ?_
      refine WL.s rfl rfl rfl ?_
      refine WL.s rfl rfl rfl ?_
      refine WL.r rfl rfl rfl (rd_pickf rfl rfl rfl) ?_
      refine WL.r rfl rfl rfl (rd_assign rfl rfl) ?_
      refine WL.nt ?_
      refine WC.ret ?_
      exact WX.retN rfl (.tmp rfl .nil) fun w' hS => ⟨by rw [show decide (elG g x) = decide (x ≠ [] ∧ val x < val g.1 ∧ Nat.gcd (val x) (val g.1) = 1) from decide_eq_decide.2 hr]; (simp [*, tup]; done), hS.below⟩
theorem rghas_c {g : Gp} {x : Bs} {w : World} (hm8 : g.1.length ≤ 8) :
    Calls Tryz.prog 30 #[gV g, .string (S x)] w fun e w' => e = .returned (.bool (decide (chkG g = 0 ∧ elG g x))) ∧ Below w.heap.size w w' := by
  refine enter (S := St (fun _ => True) w [] ([])) (L := [(0, gV g), (1, .string (S x))]) Tryz.func30 rfl Tryz.ntmps30 rfl (args_cons rfl (args_cons rfl (args_nil _))) (St.start (fun _ _ => trivial) facts_nil) ?_
  refine WC.sr ?_
  refine WL.g rfl rfl rfl (og_box rfl rfl (by (exact cells_agg _))) ?_
  intro b2
  refine WL.r rfl rfl rfl (rd_assign rfl rfl) ?_
  refine WL.nt ?_
  refine WC.sr ?_
  refine WL.r rfl rfl rfl (lda rfl rfl .tc Tryz.underlying26 rfl ?_) ?_
  · kernel_rfl
  refine WL.g rfl rfl rfl (og_call rfl rfl (by kernel_rfl) (keep_val fun w hS => rgcheck_c (g := g))) ?_
  intro _
  refine WL.r rfl rfl rfl (rd_eql rfl rfl rfl) ?_
  refine WL.r rfl rfl rfl (rd_move rfl rfl) ?_
  refine WL.bool 8 rfl (fun hg8 => ?_) (fun hg8 => ?_)
  · (try simp only [sB] at hg8)
    refine WL.r rfl rfl rfl (rd_move rfl rfl) ?_
    refine WL.g rfl rfl rfl (og_call rfl rfl (by kernel_rfl) (keep_val fun w hS => rvalid_c (a := x))) ?_
    intro _
    refine WL.r rfl rfl rfl (rd_pickt rfl rfl rfl) ?_
    refine WL.r rfl rfl rfl (rd_move rfl rfl) ?_
    refine WL.bool 12 rfl (fun hg12 => ?_) (fun hg12 => ?_)
    · (try simp only [sB] at hg12)
      refine WL.r rfl rfl rfl (lda rfl rfl .tc Tryz.underlying26 rfl ?_) ?_
      · kernel_rfl
      refine WL.r rfl rfl rfl (rd_move rfl rfl) ?_
      refine WL.g rfl rfl rfl (og_call rfl rfl (by kernel_rfl) (keep_val fun w hS => rghas0_c (g := g) (x := x) (by assumption) (by assumption) (by assumption))) ?_
      intro _
      refine WL.r rfl rfl rfl (rd_pickt rfl rfl rfl) ?_
      refine WL.r rfl rfl rfl (rd_assign rfl rfl) ?_
      refine WL.nt ?_
      refine WC.ret ?_
      exact WX.retN rfl (.tmp rfl .nil) fun w' hS => ⟨by (simp [*, tup, elG]; done), hS.below⟩
    · (try simp only [sB] at hg12)
      refine WL.s rfl rfl rfl ?_
      refine WL.s rfl rfl rfl ?_
      refine WL.s rfl rfl rfl ?_
      refine WL.r rfl rfl rfl (rd_pickf rfl rfl rfl) ?_
      refine WL.r rfl rfl rfl (rd_assign rfl rfl) ?_
      refine WL.nt ?_
      refine WC.ret ?_
      exact WX.retN rfl (.tmp rfl .nil) fun w' hS => ⟨by (simp [*, tup, elG]; done), hS.below⟩
  · (try simp only [sB] at hg8)
    refine WL.s rfl rfl rfl ?_
    refine WL.s rfl rfl rfl ?_
    refine WL.r rfl rfl rfl (rd_pickf rfl rfl rfl) ?_
    refine WL.r rfl rfl rfl (rd_move rfl rfl) ?_
    refine WL.s rfl rfl rfl ?_
    refine WL.s rfl rfl rfl ?_
    refine WL.s rfl rfl rfl ?_
    refine WL.r rfl rfl rfl (rd_pickf rfl rfl rfl) ?_
    refine WL.r rfl rfl rfl (rd_assign rfl rfl) ?_
    refine WL.nt ?_
    refine WC.ret ?_
    exact WX.retN rfl (.tmp rfl .nil) fun w' hS => ⟨by (simp [*, tup, elG]; done), hS.below⟩
end Go.Proofs.YtbcnnkcddilfjaaGreat
