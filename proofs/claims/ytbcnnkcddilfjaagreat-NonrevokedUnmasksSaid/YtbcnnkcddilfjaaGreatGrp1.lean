/-
  Groups: power.Check, Has; the reference's.
-/
import Derived.Test.YtbcnnkcddilfjaaGreatMo3
namespace Go.Proofs.YtbcnnkcddilfjaaGreat
set_option linter.unusedSimpArgs false
set_option linter.unusedVariables false
set_option maxRecDepth 20000
set_option maxHeartbeats 600000
open Go.RowKit

/-- a group: its modulus and its order -/
abbrev Gp := Bs × Bs
abbrev gV (g : Gp) : Value := .agg #[.string (S g.1), .string (S g.2)]
def chkG (g : Gp) : Int :=
  if okN g.1 ∧ okN g.2 then
    (if g.2 = [] then (if val g.1 % 2 = 1 ∧ 8 < val g.1 then 0 else 13)
     else if val g.1 ≤ 1 ∨ val g.2 < 2 ∨ (val g.1 - 1) % val g.2 ≠ 0 then 13 else 0)
  else 3
theorem cmpI_le (a b : Nat) : cmpI a b ≤ 0 ↔ a ≤ b := by
  have h := cmpI_neg b a
  unfold cmpI at *
  constructor
  · intro h1; split at h1 <;> (try split at h1) <;> omega
  · intro h1; split <;> (try split) <;> omega
theorem cmpI_ge (a b : Nat) : 0 ≤ cmpI a b ↔ b ≤ a := by
  have h := cmpI_neg a b; omega
theorem odd_bit {a : Bs} (h : okN a) : bitA a 0 = decide (val a % 2 = 1) := by
  have := bitA_nat (i := 0) h
  rw [show ((0 : Nat) : Int) = 0 from rfl] at this
  rw [this, bitN, Nat.pow_zero, Nat.div_one]
theorem pcheck_c {g : Gp} {w : World} :
    Calls Tryz.prog 22 #[gV g] w fun e w' => e = .returned (.int .i64 (chkG g)) ∧ Below w.heap.size w w' := by
  have hB8 : 8 < Big := Nat.lt_of_lt_of_le (by decide) big64
  refine enter (S := St (fun _ => True) w [] ([])) (L := [(0, gV g)]) Tryz.func22 rfl Tryz.ntmps22 rfl (args_cons rfl (args_nil _)) (St.start (fun _ _ => trivial) facts_nil) ?_
  refine WC.sr ?_
  refine WL.g rfl rfl rfl (og_box rfl rfl (by (exact cells_agg _))) ?_
  intro b1
  refine WL.r rfl rfl rfl (rd_assign rfl rfl) ?_
  refine WL.nt ?_
  refine WC.seq ?_
  refine WC.joinP (σ := Unit) [(1, _)] (fun gq => [(17, .bool (decide (¬ (okN g.1 ∧ okN g.2))))]) (fun gq => True) (sub_cons rfl (sub_nil _)) ?_ ?_
  · skip
    refine WC.region ?_
    (refine WL.r rfl rfl rfl (rd_fa (q := 0) rfl rfl Tryz.underlying26 rfl (by kernel_rfl) rfl) ?_)
    (refine WL.r rfl rfl rfl (ld rfl rfl .tc Tryz.underlying22 rfl (by rfl)) ?_)
    refine WL.g rfl rfl rfl (og_call rfl rfl (by kernel_rfl) (keep_val fun w hS => valid_c (a := g.1))) ?_
    intro _
    refine WL.r rfl rfl rfl (rd_not rfl rfl) ?_
    refine WL.r rfl rfl rfl (rd_move rfl rfl) ?_
    refine WL.bool 12 rfl (fun hg12 => ?_) (fun hg12 => ?_)
    · (try simp only [sB] at hg12)
      refine WL.s rfl rfl rfl ?_
      refine WL.s rfl rfl rfl ?_
      refine WL.s rfl rfl rfl ?_
      refine WL.s rfl rfl rfl ?_
      refine WL.r rfl rfl rfl (rd_pickt rfl rfl rfl) ?_
      refine WL.nil ?_
      refine WX.joinP (()) (sub_cons rfl (sub_nil _)) (by refine (sub_cons ?_ (sub_nil _)) <;> ((refine slot_b rfl ?_; (try dsimp only); (simp [*]; done)))) ?_ (by (exact fun _ h => h))
      (try dsimp only)
      done
    · (try simp only [sB] at hg12)
      (refine WL.r rfl rfl rfl (rd_fa (q := 1) rfl rfl Tryz.underlying26 rfl (by kernel_rfl) rfl) ?_)
      (refine WL.r rfl rfl rfl (ld rfl rfl .tc Tryz.underlying22 rfl (by rfl)) ?_)
      refine WL.g rfl rfl rfl (og_call rfl rfl (by kernel_rfl) (keep_val fun w hS => valid_c (a := g.2))) ?_
      intro _
      refine WL.r rfl rfl rfl (rd_not rfl rfl) ?_
      refine WL.r rfl rfl rfl (rd_pickf rfl rfl rfl) ?_
      refine WL.nil ?_
      refine WX.joinP (()) (sub_cons rfl (sub_nil _)) (by refine (sub_cons ?_ (sub_nil _)) <;> ((refine slot_b rfl ?_; (try dsimp only); (simp [*]; done)))) ?_ (by (exact fun _ h => h))
      (try dsimp only)
      done
  · rintro _ hmeet; (try dsimp only at hmeet ⊢)
    refine WC.cond rfl (fun hc17 => ?_) (fun hc17 => ?_)
    · (try simp only [sB] at hc17)
      have hr : chkG g = 3 := by rw [chkG, if_neg hc17]
      refine WC.sr ?_
      refine WL.r rfl rfl rfl (rd_assign rfl rfl) ?_
      refine WL.nt ?_
      refine WC.ret ?_
      refine WX.then_ret ?_
      exact WX.retN rfl (.tmp rfl .nil) fun w' hS => ⟨by rw [hr]; rfl, hS.below⟩
    · (try simp only [sB] at hc17)
      have hok : okN g.1 ∧ okN g.2 := by simpa using hc17
      have hb1 := okN_val hok.1; have hb2 := okN_val hok.2
      have hv2 : val g.2 = 0 ↔ g.2 = [] := val_eq_zero hok.2.2
      refine WC.skip ?_
      refine WX.then_normal ?_
      refine WC.seq ?_
      refine WC.sr ?_
      (refine WL.r rfl rfl rfl (rd_fa (q := 1) rfl rfl Tryz.underlying26 rfl (by kernel_rfl) rfl) ?_)
      (refine WL.r rfl rfl rfl (ld rfl rfl .tc Tryz.underlying22 rfl (by rfl)) ?_)
      refine WL.r rfl rfl rfl (rd_seq rfl rfl rfl) ?_
      refine WL.nt ?_
      refine WC.cond rfl (fun hc20 => ?_) (fun hc20 => ?_)
      · (try simp only [sB] at hc20)
        have hq : g.2 = [] := by simpa using hc20
        refine WC.seq ?_
        refine WC.joinP (σ := Unit) [] (fun gq => [(31, .bool (decide (¬ (val g.1 % 2 = 1 ∧ 8 < val g.1))))]) (fun gq => True) (sub_nil _) ?_ ?_
        · skip
          refine WC.free0 [0, 1, 2, 3, 4, 7, 5, 6, 8, 9, 10] [] [0, 0, 1, 0, 0, 0, 0, 1, 1, 0, 0] (by kernel_rfl) (by kernel_rfl) rfl ?_
          (refine WJ.r rfl rfl rfl rfl rfl (rd_fa (q := 0) rfl rfl Tryz.underlying26 rfl (by kernel_rfl) rfl) ?_)
          (refine WJ.r rfl rfl rfl rfl rfl (ld rfl rfl .tc Tryz.underlying22 rfl (by rfl)) ?_)
          refine WJ.gv rfl rfl rfl rfl rfl (fun ext => og_call rfl rfl (by kernel_rfl) (keep_val fun w hS => bitn_c (a := g.1) (i := 0) (by omega))) ?_
          refine WJ.set 23 rfl (v' := .bool (decide (val g.1 % 2 = 1))) (congrArg Value.bool (by exact odd_bit hok.1)) ?_
          refine WJ.r rfl rfl rfl rfl rfl (rd_not rfl rfl) ?_
          refine WJ.r rfl rfl rfl rfl rfl (rd_move rfl rfl) ?_
          refine WJ.bool 25 rfl (fun hg25 => ?_) (fun hg25 => ?_)
          · (try simp only [sB] at hg25)
            refine WJ.s rfl rfl rfl rfl ?_
            refine WJ.s rfl rfl rfl rfl ?_
            refine WJ.s rfl rfl rfl rfl ?_
            refine WJ.s rfl rfl rfl rfl ?_
            refine WJ.s rfl rfl rfl rfl ?_
            refine WJ.r rfl rfl rfl rfl rfl (rd_pickt rfl rfl rfl) ?_
            refine WJ.nil ?_
            refine WL.nil ?_
            refine WX.joinP (()) (sub_nil _) (by refine (sub_cons ?_ (sub_nil _)) <;> ((refine slot_b rfl ?_; (try dsimp only); (simp [*]; done)))) ?_ (by (exact fun _ h => h))
            (try dsimp only)
            done
          · (try simp only [sB] at hg25)
            refine WJ.gv rfl rfl rfl rfl rfl (fun ext => og_call rfl rfl (by kernel_rfl) (keep_val fun w hS => of_c (n := 8) (by omega))) ?_
            (refine WJ.r rfl rfl rfl rfl rfl (rd_fa (q := 0) rfl rfl Tryz.underlying26 rfl (by kernel_rfl) rfl) ?_)
            (refine WJ.r rfl rfl rfl rfl rfl (ld rfl rfl .tc Tryz.underlying22 rfl (by rfl)) ?_)
            refine WJ.gv rfl rfl rfl rfl rfl (fun ext => og_call rfl rfl (by kernel_rfl) (keep_val fun w hS => Cmp_c (a := g.1) (b := canon 8))) ?_
            refine WJ.r rfl rfl rfl rfl rfl (rd_leq rfl rfl rfl) ?_
            refine WJ.set 30 rfl (v' := .bool (decide (val g.1 ≤ 8))) (congrArg Value.bool (by rw [cmpN_ok hok.1 (okN_can hB8), val_canon]; exact decide_eq_decide.2 (cmpI_le _ _))) ?_
            refine WJ.r rfl rfl rfl rfl rfl (rd_pickf rfl rfl rfl) ?_
            refine WJ.nil ?_
            refine WL.nil ?_
            refine WX.joinP (()) (sub_nil _) (by refine (sub_cons ?_ (sub_nil _)) <;> ((refine slot_b rfl ?_; (try dsimp only); (exact decide_eq_decide.2 (by omega))))) ?_ (by (exact fun _ h => h))
            (try dsimp only)
            done
        · rintro _ hmeet; (try dsimp only at hmeet ⊢)
          refine WC.cond rfl (fun hc31 => ?_) (fun hc31 => ?_)
          · (try simp only [sB] at hc31)
            have hr : chkG g = 13 := by rw [chkG, if_pos hok, if_pos hq, if_neg hc31]
            refine WC.sr ?_
            refine WL.r rfl rfl rfl (rd_assign rfl rfl) ?_
            refine WL.nt ?_
            refine WC.ret ?_
            refine WX.then_ret ?_
            refine WX.then_ret ?_
            exact WX.retN rfl (.tmp rfl .nil) fun w' hS => ⟨by rw [hr]; rfl, hS.below⟩
          · (try simp only [sB] at hc31)
            have hr : chkG g = 0 := by rw [chkG, if_pos hok, if_pos hq, if_pos (by simpa using hc31)]
            refine WC.skip ?_
            refine WX.then_normal ?_
            refine WC.sr ?_
            refine WL.r rfl rfl rfl (rd_assign rfl rfl) ?_
            refine WL.nt ?_
            refine WC.ret ?_
            refine WX.then_ret ?_
            exact WX.retN rfl (.tmp rfl .nil) fun w' hS => ⟨by rw [hr]; rfl, hS.below⟩
      · (try simp only [sB] at hc20)
        have hq : g.2 ≠ [] := by simpa using hc20
        have hsb : subN g.1 (canon 1) = if val g.1 < 1 then ([], 2) else (canon (val g.1 - 1), 0) := by rw [subN, if_pos ⟨hok.1, okN_can (by omega)⟩, val_canon]
        have hqp : 0 < val g.2 := by rcases Nat.eq_zero_or_pos (val g.2) with h | h; exact absurd (hv2.1 h) hq; exact h
        refine WC.skip ?_
        refine WX.then_normal ?_
        refine WC.seq ?_
        refine WC.free0 [2, 0, 1, 3, 4, 5, 6, 7, 8] [] [0, 0, 1, 1, 0, 0, 0, 0, 0] (by kernel_rfl) (by kernel_rfl) rfl ?_
        refine WJ.gv rfl rfl rfl rfl rfl (fun ext => og_call rfl rfl (by kernel_rfl) (keep_val fun w hS => of_c (n := 1) (by omega))) ?_
        (refine WJ.r rfl rfl rfl rfl rfl (rd_fa (q := 0) rfl rfl Tryz.underlying26 rfl (by kernel_rfl) rfl) ?_)
        (refine WJ.r rfl rfl rfl rfl rfl (ld rfl rfl .tc Tryz.underlying22 rfl (by rfl)) ?_)
        refine WJ.gv rfl rfl rfl rfl rfl (fun ext => og_call rfl rfl (by kernel_rfl) (keep_val fun w hS => sub_c (a := g.1) (b := canon 1))) ?_
        refine WJ.r rfl rfl rfl rfl rfl (rd_move rfl rfl) ?_
        refine WJ.r rfl rfl rfl rfl rfl (rd_extL rfl rfl rfl) ?_
        refine WJ.r rfl rfl rfl rfl rfl (rd_extL rfl rfl rfl) ?_
        refine WJ.r rfl rfl rfl rfl rfl (rd_assign rfl rfl) ?_
        refine WJ.r rfl rfl rfl rfl rfl (rd_assign rfl rfl) ?_
        refine WJ.nil ?_
        refine WL.nt ?_
        refine WC.seq ?_
        refine WC.joinP (σ := Unit) [(1, _), (3, _)] (fun gq => [(51, .bool (decide (val g.1 ≤ 1 ∨ val g.2 < 2)))]) (fun gq => True) (sub_cons rfl (sub_cons rfl (sub_nil _))) ?_ ?_
        · skip
          refine WC.free0 [0, 1, 2, 3, 4, 5, 6, 9, 7, 8, 10, 11, 12] [] [0, 0, 0, 0, 0, 0, 0, 0, 0, 1, 1, 0, 0] (by kernel_rfl) (by kernel_rfl) rfl ?_
          refine WJ.r rfl rfl rfl rfl rfl (rd_move rfl rfl) ?_
          refine WJ.r rfl rfl rfl rfl rfl (rd_neq rfl rfl rfl) ?_
          refine WJ.set 40 rfl (v' := .bool (decide (val g.1 < 1))) (congrArg Value.bool (by rw [hsb]; split <;> simp <;> omega)) ?_
          refine WJ.r rfl rfl rfl rfl rfl (rd_move rfl rfl) ?_
          refine WJ.bool 41 rfl (fun hg41 => ?_) (fun hg41 => ?_)
          · (try simp only [sB] at hg41)
            refine WJ.s rfl rfl rfl rfl ?_
            refine WJ.s rfl rfl rfl rfl ?_
            refine WJ.r rfl rfl rfl rfl rfl (rd_pickt rfl rfl rfl) ?_
            refine WJ.r rfl rfl rfl rfl rfl (rd_move rfl rfl) ?_
            refine WJ.s rfl rfl rfl rfl ?_
            refine WJ.s rfl rfl rfl rfl ?_
            refine WJ.s rfl rfl rfl rfl ?_
            refine WJ.s rfl rfl rfl rfl ?_
            refine WJ.s rfl rfl rfl rfl ?_
            refine WJ.r rfl rfl rfl rfl rfl (rd_pickt rfl rfl rfl) ?_
            refine WJ.nil ?_
            refine WL.nil ?_
            refine WX.joinP (()) (sub_cons rfl (sub_cons rfl (sub_nil _))) (by refine (sub_cons ?_ (sub_nil _)) <;> ((exact congrArg (fun b => some (Value.bool b)) (by symm; apply decide_eq_true; omega)))) ?_ (by (exact fun _ h => h))
            (try dsimp only)
            done
          · (try simp only [sB] at hg41)
            refine WJ.r rfl rfl rfl rfl rfl (rd_move rfl rfl) ?_
            refine WJ.r rfl rfl rfl rfl rfl (rd_seq rfl rfl rfl) ?_
            refine WJ.set 43 rfl (v' := .bool (decide (val g.1 ≤ 1))) (congrArg Value.bool (by rw [hsb]; split <;> simp [canon_nil] <;> omega)) ?_
            refine WJ.r rfl rfl rfl rfl rfl (rd_pickf rfl rfl rfl) ?_
            refine WJ.r rfl rfl rfl rfl rfl (rd_move rfl rfl) ?_
            refine WJ.bool 45 rfl (fun hg45 => ?_) (fun hg45 => ?_)
            · (try simp only [sB] at hg45)
              refine WJ.s rfl rfl rfl rfl ?_
              refine WJ.s rfl rfl rfl rfl ?_
              refine WJ.s rfl rfl rfl rfl ?_
              refine WJ.s rfl rfl rfl rfl ?_
              refine WJ.s rfl rfl rfl rfl ?_
              refine WJ.r rfl rfl rfl rfl rfl (rd_pickt rfl rfl rfl) ?_
              refine WJ.nil ?_
              refine WL.nil ?_
              refine WX.joinP (()) (sub_cons rfl (sub_cons rfl (sub_nil _))) (by refine (sub_cons ?_ (sub_nil _)) <;> ((refine slot_b rfl ?_; (try dsimp only); (simp [*]; done)))) ?_ (by (exact fun _ h => h))
              (try dsimp only)
              done
            · (try simp only [sB] at hg45)
              refine WJ.gv rfl rfl rfl rfl rfl (fun ext => og_call rfl rfl (by kernel_rfl) (keep_val fun w hS => of_c (n := 2) (by omega))) ?_
              (refine WJ.r rfl rfl rfl rfl rfl (rd_fa (q := 1) rfl rfl Tryz.underlying26 rfl (by kernel_rfl) rfl) ?_)
              (refine WJ.r rfl rfl rfl rfl rfl (ld rfl rfl .tc Tryz.underlying22 rfl (by rfl)) ?_)
              refine WJ.gv rfl rfl rfl rfl rfl (fun ext => og_call rfl rfl (by kernel_rfl) (keep_val fun w hS => Cmp_c (a := g.2) (b := canon 2))) ?_
              refine WJ.r rfl rfl rfl rfl rfl (rd_lss rfl rfl rfl) ?_
              refine WJ.set 50 rfl (v' := .bool (decide (val g.2 < 2))) (congrArg Value.bool (by rw [cmpN_ok hok.2 (okN_can (by omega)), val_canon]; exact decide_eq_decide.2 (cmpI_neg _ _))) ?_
              refine WJ.r rfl rfl rfl rfl rfl (rd_pickf rfl rfl rfl) ?_
              refine WJ.nil ?_
              refine WL.nil ?_
              refine WX.joinP (()) (sub_cons rfl (sub_cons rfl (sub_nil _))) (by refine (sub_cons ?_ (sub_nil _)) <;> ((refine slot_b rfl ?_; (try dsimp only); (exact decide_eq_decide.2 (by omega))))) ?_ (by (exact fun _ h => h))
              (try dsimp only)
              done
        · rintro _ hmeet; (try dsimp only at hmeet ⊢)
          refine WC.cond rfl (fun hc51 => ?_) (fun hc51 => ?_)
          · (try simp only [sB] at hc51)
            have hr : chkG g = 13 := by rw [chkG, if_pos hok, if_neg hq, if_pos (by omega)]
            refine WC.sr ?_
            refine WL.r rfl rfl rfl (rd_assign rfl rfl) ?_
            refine WL.nt ?_
            refine WC.ret ?_
            refine WX.then_ret ?_
            exact WX.retN rfl (.tmp rfl .nil) fun w' hS => ⟨by rw [hr]; rfl, hS.below⟩
          · (try simp only [sB] at hc51)
            have hs1 : (subN g.1 (canon 1)).1 = canon (val g.1 - 1) := by rw [hsb, if_neg (by omega)]
            have hdv : divN (canon (val g.1 - 1)) g.2 = ((canon ((val g.1 - 1) / val g.2), canon ((val g.1 - 1) % val g.2)), 0) := by rw [divN_ok (okN_can (by omega)) hok.2 hq, val_canon]
            rw [hs1]
            refine WC.skip ?_
            refine WX.then_normal ?_
            refine WC.seq ?_
            refine WC.sr ?_
            refine WL.r rfl rfl rfl (rd_move rfl rfl) ?_
            (refine WL.r rfl rfl rfl (rd_fa (q := 1) rfl rfl Tryz.underlying26 rfl (by kernel_rfl) rfl) ?_)
            (refine WL.r rfl rfl rfl (ld rfl rfl .tc Tryz.underlying22 rfl (by rfl)) ?_)
            refine WL.g rfl rfl rfl (og_call rfl rfl (by kernel_rfl) (keep_val fun w hS => (by have := divmod_c (w := w) (a := canon (val g.1 - 1)) (b := g.2); rw [hdv] at this; exact this))) ?_
            intro _
            refine WL.r rfl rfl rfl (rd_move rfl rfl) ?_
            refine WL.r rfl rfl rfl (rd_extL rfl rfl rfl) ?_
            refine WL.r rfl rfl rfl (rd_extL rfl rfl rfl) ?_
            refine WL.r rfl rfl rfl (rd_extL rfl rfl rfl) ?_
            refine WL.r rfl rfl rfl (rd_assign rfl rfl) ?_
            refine WL.r rfl rfl rfl (rd_assign rfl rfl) ?_
            refine WL.r rfl rfl rfl (rd_assign rfl rfl) ?_
            refine WL.nt ?_
            refine WC.sr ?_
            refine WL.r rfl rfl rfl (rd_move rfl rfl) ?_
            refine WL.r rfl rfl rfl (rd_neq rfl rfl rfl) ?_
            refine WL.set 61 rfl (v' := .bool false) (by rfl) ?_
            refine WL.r rfl rfl rfl (rd_move rfl rfl) ?_
            refine WL.r rfl rfl rfl (rd_move rfl rfl) ?_
            refine WL.r rfl rfl rfl (rd_sne rfl rfl rfl) ?_
            refine WL.set 64 rfl (v' := .bool (decide ((val g.1 - 1) % val g.2 ≠ 0))) (congrArg Value.bool (by simp [canon_nil])) ?_
            refine WL.r rfl rfl rfl (rd_pickf rfl rfl rfl) ?_
            refine WL.nt ?_
            refine WC.cond rfl (fun hc65 => ?_) (fun hc65 => ?_)
            · (try simp only [sB] at hc65)
              have hr : chkG g = 13 := by rw [chkG, if_pos hok, if_neg hq, if_pos (Or.inr (Or.inr hc65))]
              refine WC.sr ?_
              refine WL.r rfl rfl rfl (rd_assign rfl rfl) ?_
              refine WL.nt ?_
              refine WC.ret ?_
              refine WX.then_ret ?_
              exact WX.retN rfl (.tmp rfl .nil) fun w' hS => ⟨by rw [hr]; rfl, hS.below⟩
            · (try simp only [sB] at hc65)
              have hr : chkG g = 0 := by rw [chkG, if_pos hok, if_neg hq, if_neg (fun h => by rcases h with h | h | h; omega; omega; exact hc65 h)]
              refine WC.skip ?_
              refine WX.then_normal ?_
              refine WC.sr ?_
              refine WL.r rfl rfl rfl (rd_assign rfl rfl) ?_
              refine WL.nt ?_
              refine WC.ret ?_
              exact WX.retN rfl (.tmp rfl .nil) fun w' hS => ⟨by rw [hr]; rfl, hS.below⟩
theorem pform_c {g : Gp} {w : World} :
    Calls Tryz.prog 91 #[gV g] w fun e w' => e = .returned (.bool (decide (okN g.1 ∧ okN g.2))) ∧ Below w.heap.size w w' := by
  refine enter (S := St (fun _ => True) w [] ([])) (L := [(0, gV g)]) Tryz.func91 rfl Tryz.ntmps91 rfl (args_cons rfl (args_nil _)) (St.start (fun _ _ => trivial) facts_nil) ?_
  refine WC.sr ?_
  refine WL.g rfl rfl rfl (og_box rfl rfl (by (exact cells_agg _))) ?_
  intro b1
  refine WL.r rfl rfl rfl (rd_assign rfl rfl) ?_
  refine WL.nt ?_
  refine WC.sr ?_
  (refine WL.r rfl rfl rfl (rd_fa (q := 0) rfl rfl Tryz.underlying26 rfl (by kernel_rfl) rfl) ?_)
  (refine WL.r rfl rfl rfl (ld rfl rfl .tc Tryz.underlying22 rfl (by rfl)) ?_)
  refine WL.g rfl rfl rfl (og_call rfl rfl (by kernel_rfl) (keep_val fun w hS => valid_c (a := g.1))) ?_
  intro _
  refine WL.r rfl rfl rfl (rd_move rfl rfl) ?_
  refine WL.bool 6 rfl (fun hg6 => ?_) (fun hg6 => ?_)
  · (try simp only [sB] at hg6)
    (refine WL.r rfl rfl rfl (rd_fa (q := 1) rfl rfl Tryz.underlying26 rfl (by kernel_rfl) rfl) ?_)
    (refine WL.r rfl rfl rfl (ld rfl rfl .tc Tryz.underlying22 rfl (by rfl)) ?_)
    refine WL.g rfl rfl rfl (og_call rfl rfl (by kernel_rfl) (keep_val fun w hS => valid_c (a := g.2))) ?_
    intro _
    refine WL.r rfl rfl rfl (rd_pickt rfl rfl rfl) ?_
    refine WL.r rfl rfl rfl (rd_assign rfl rfl) ?_
    refine WL.nt ?_
    refine WC.ret ?_
    exact WX.retN rfl (.tmp rfl .nil) fun w' hS => ⟨by (simp [*, tup]; done), hS.below⟩
  · (try simp only [sB] at hg6)
    refine WL.s rfl rfl rfl ?_
    refine WL.s rfl rfl rfl ?_
    refine WL.s rfl rfl rfl ?_
    refine WL.r rfl rfl rfl (rd_pickf rfl rfl rfl) ?_
    refine WL.r rfl rfl rfl (rd_assign rfl rfl) ?_
    refine WL.nt ?_
    refine WC.ret ?_
    exact WX.retN rfl (.tmp rfl .nil) fun w' hS => ⟨by (simp [*, tup]; done), hS.below⟩
def hasP (g : Gp) (x : Bs) : Prop := okN g.1 ∧ okN g.2 ∧ okN x ∧ g.2 ≠ [] ∧ x ≠ [] ∧ val x < val g.1 ∧ val x ^ val g.2 % val g.1 = 1
instance (g : Gp) (x : Bs) : Decidable (hasP g x) := inferInstanceAs (Decidable (_ ∧ _))
theorem mexp_ok {a x m : Bs} (ha : okN a) (hx : okN x) (hm : okN m) (hm0 : m ≠ []) : mexpM a x m = (canon (val a ^ val x % val m), 0) := by
  rw [mexpM, if_pos (chk_zero (by intro y hy; simp at hy; rcases hy with rfl | rfl | rfl <;> assumption) (by simpa using fun h => hm0 h))]
theorem okN_nil : okN [] := ⟨by decide, by decide⟩
theorem pos_of_ne {x : Bs} (h : okN x) (h0 : x ≠ []) : 0 < val x := vpos h h0
theorem phas_c {g : Gp} {x : Bs} {w : World} (hm8 : g.1.length ≤ 8) :
    Calls Tryz.prog 70 #[gV g, .string (S x)] w fun e w' => e = .returned (.bool (decide (hasP g x))) ∧ Below w.heap.size w w' := by
  refine enter (S := St (fun _ => True) w [] ([])) (L := [(0, gV g), (1, .string (S x))]) Tryz.func70 rfl Tryz.ntmps70 rfl (args_cons rfl (args_cons rfl (args_nil _))) (St.start (fun _ _ => trivial) facts_nil) ?_
  refine WC.sr ?_
  refine WL.g rfl rfl rfl (og_box rfl rfl (by (exact cells_agg _))) ?_
  intro b2
  refine WL.r rfl rfl rfl (rd_assign rfl rfl) ?_
  refine WL.nt ?_
  refine WC.seq ?_
  refine WC.joinP (σ := Unit) [(1, _), (2, _)] (fun gq => [(32, .bool (decide (¬ ((okN g.1 ∧ okN g.2) ∧ okN x ∧ g.2 ≠ [] ∧ x ≠ [] ∧ val x < val g.1))))]) (fun gq => True) (sub_cons rfl (sub_cons rfl (sub_nil _))) ?_ ?_
  · skip
    refine WC.region ?_
    refine WL.r rfl rfl rfl (lda rfl rfl .tc Tryz.underlying26 rfl ?_) ?_
    · kernel_rfl
    refine WL.g rfl rfl rfl (og_call rfl rfl (by kernel_rfl) (keep_val fun w hS => pform_c (g := g))) ?_
    intro _
    refine WL.r rfl rfl rfl (rd_not rfl rfl) ?_
    refine WL.r rfl rfl rfl (rd_move rfl rfl) ?_
    refine WL.bool 12 rfl (fun hg12 => ?_) (fun hg12 => ?_)
    · (try simp only [sB] at hg12)
      refine WL.s rfl rfl rfl ?_
      refine WL.s rfl rfl rfl ?_
      refine WL.s rfl rfl rfl ?_
      refine WL.r rfl rfl rfl (rd_pickt rfl rfl rfl) ?_
      refine WL.r rfl rfl rfl (rd_move rfl rfl) ?_
      refine WL.s rfl rfl rfl ?_
      refine WL.s rfl rfl rfl ?_
      refine WL.s rfl rfl rfl ?_
      refine WL.r rfl rfl rfl (rd_pickt rfl rfl rfl) ?_
      refine WL.r rfl rfl rfl (rd_move rfl rfl) ?_
      refine WL.s rfl rfl rfl ?_
      refine WL.s rfl rfl rfl ?_
      refine WL.r rfl rfl rfl (rd_pickt rfl rfl rfl) ?_
      refine WL.r rfl rfl rfl (rd_move rfl rfl) ?_
      refine WL.s rfl rfl rfl ?_
      refine WL.s rfl rfl rfl ?_
      refine WL.s rfl rfl rfl ?_
      refine WL.s rfl rfl rfl ?_
      refine WL.s rfl rfl rfl ?_
      refine WL.r rfl rfl rfl (rd_pickt rfl rfl rfl) ?_
      refine WL.nil ?_
      refine WX.joinP (()) (sub_cons rfl (sub_cons rfl (sub_nil _))) (by refine (sub_cons ?_ (sub_nil _)) <;> ((refine slot_b rfl ?_; (try dsimp only); (simp [*]; done)))) ?_ (by (exact fun _ h => h))
      (try dsimp only)
      done
    · (try simp only [sB] at hg12)
      refine WL.r rfl rfl rfl (rd_move rfl rfl) ?_
      refine WL.g rfl rfl rfl (og_call rfl rfl (by kernel_rfl) (keep_val fun w hS => valid_c (a := x))) ?_
      intro _
      refine WL.r rfl rfl rfl (rd_not rfl rfl) ?_
      refine WL.r rfl rfl rfl (rd_pickf rfl rfl rfl) ?_
      refine WL.r rfl rfl rfl (rd_move rfl rfl) ?_
      refine WL.bool 17 rfl (fun hg17 => ?_) (fun hg17 => ?_)
      · (try simp only [sB] at hg17)
        refine WL.s rfl rfl rfl ?_
        refine WL.s rfl rfl rfl ?_
        refine WL.s rfl rfl rfl ?_
        refine WL.r rfl rfl rfl (rd_pickt rfl rfl rfl) ?_
        refine WL.r rfl rfl rfl (rd_move rfl rfl) ?_
        refine WL.s rfl rfl rfl ?_
        refine WL.s rfl rfl rfl ?_
        refine WL.r rfl rfl rfl (rd_pickt rfl rfl rfl) ?_
        refine WL.r rfl rfl rfl (rd_move rfl rfl) ?_
        refine WL.s rfl rfl rfl ?_
        refine WL.s rfl rfl rfl ?_
        refine WL.s rfl rfl rfl ?_
        refine WL.s rfl rfl rfl ?_
        refine WL.s rfl rfl rfl ?_
        refine WL.r rfl rfl rfl (rd_pickt rfl rfl rfl) ?_
        refine WL.nil ?_
        refine WX.joinP (()) (sub_cons rfl (sub_cons rfl (sub_nil _))) (by refine (sub_cons ?_ (sub_nil _)) <;> ((refine slot_b rfl ?_; (try dsimp only); (simp [*]; done)))) ?_ (by (exact fun _ h => h))
        (try dsimp only)
        done
      · (try simp only [sB] at hg17)
        (refine WL.r rfl rfl rfl (rd_fa (q := 1) rfl rfl Tryz.underlying26 rfl (by kernel_rfl) rfl) ?_)
        (refine WL.r rfl rfl rfl (ld rfl rfl .tc Tryz.underlying22 rfl (by rfl)) ?_)
        refine WL.r rfl rfl rfl (rd_seq rfl rfl rfl) ?_
        refine WL.r rfl rfl rfl (rd_pickf rfl rfl rfl) ?_
        refine WL.r rfl rfl rfl (rd_move rfl rfl) ?_
        refine WL.bool 22 rfl (fun hg22 => ?_) (fun hg22 => ?_)
        · (try simp only [sB] at hg22)
          refine WL.s rfl rfl rfl ?_
          refine WL.s rfl rfl rfl ?_
          refine WL.r rfl rfl rfl (rd_pickt rfl rfl rfl) ?_
          refine WL.r rfl rfl rfl (rd_move rfl rfl) ?_
          refine WL.s rfl rfl rfl ?_
          refine WL.s rfl rfl rfl ?_
          refine WL.s rfl rfl rfl ?_
          refine WL.s rfl rfl rfl ?_
          refine WL.s rfl rfl rfl ?_
          refine WL.r rfl rfl rfl (rd_pickt rfl rfl rfl) ?_
          refine WL.nil ?_
          refine WX.joinP (()) (sub_cons rfl (sub_cons rfl (sub_nil _))) (by refine (sub_cons ?_ (sub_nil _)) <;> ((refine slot_b rfl ?_; (try dsimp only); (simp [*]; done)))) ?_ (by (exact fun _ h => h))
          (try dsimp only)
          done
        · (try simp only [sB] at hg22)
          refine WL.r rfl rfl rfl (rd_move rfl rfl) ?_
          refine WL.r rfl rfl rfl (rd_seq rfl rfl rfl) ?_
          refine WL.r rfl rfl rfl (rd_pickf rfl rfl rfl) ?_
          refine WL.r rfl rfl rfl (rd_move rfl rfl) ?_
          refine WL.bool 26 rfl (fun hg26 => ?_) (fun hg26 => ?_)
          · (try simp only [sB] at hg26)
            refine WL.s rfl rfl rfl ?_
            refine WL.s rfl rfl rfl ?_
            refine WL.s rfl rfl rfl ?_
            refine WL.s rfl rfl rfl ?_
            refine WL.s rfl rfl rfl ?_
            refine WL.r rfl rfl rfl (rd_pickt rfl rfl rfl) ?_
            refine WL.nil ?_
            refine WX.joinP (()) (sub_cons rfl (sub_cons rfl (sub_nil _))) (by refine (sub_cons ?_ (sub_nil _)) <;> ((refine slot_b rfl ?_; (try dsimp only); (simp [*]; done)))) ?_ (by (exact fun _ h => h))
            (try dsimp only)
            done
          · (try simp only [sB] at hg26)
            refine WL.r rfl rfl rfl (rd_move rfl rfl) ?_
            (refine WL.r rfl rfl rfl (rd_fa (q := 0) rfl rfl Tryz.underlying26 rfl (by kernel_rfl) rfl) ?_)
            (refine WL.r rfl rfl rfl (ld rfl rfl .tc Tryz.underlying22 rfl (by rfl)) ?_)
            refine WL.g rfl rfl rfl (og_call rfl rfl (by kernel_rfl) (keep_val fun w hS => Cmp_c (a := x) (b := g.1))) ?_
            intro _
            refine WL.r rfl rfl rfl (rd_geq rfl rfl rfl) ?_
            refine WL.set 31 rfl (v' := .bool (decide (val g.1 ≤ val x))) (congrArg Value.bool (by rw [cmpN_ok hg17 hg12.1]; exact decide_eq_decide.2 (cmpI_ge _ _))) ?_
            refine WL.r rfl rfl rfl (rd_pickf rfl rfl rfl) ?_
            refine WL.nil ?_
            refine WX.joinP (()) (sub_cons rfl (sub_cons rfl (sub_nil _))) (by refine (sub_cons ?_ (sub_nil _)) <;> ((refine slot_b rfl ?_; (try dsimp only); (simp [*]; done)))) ?_ (by (exact fun _ h => h))
            (try dsimp only)
            done
  · rintro _ hmeet; (try dsimp only at hmeet ⊢)
    refine WC.cond rfl (fun hc32 => ?_) (fun hc32 => ?_)
    · (try simp only [sB] at hc32)
      have hr : ¬ hasP g x := fun h => hc32 ⟨⟨h.1, h.2.1⟩, h.2.2.1, h.2.2.2.1, h.2.2.2.2.1, h.2.2.2.2.2.1⟩
      refine WC.sr ?_
      refine WL.r rfl rfl rfl (rd_assign rfl rfl) ?_
      refine WL.nt ?_
      refine WC.ret ?_
      refine WX.then_ret ?_
      exact WX.retN rfl (.tmp rfl .nil) fun w' hS => ⟨by (simp [*, tup]; done), hS.below⟩
    · (try simp only [sB] at hc32)
      have hok : (okN g.1 ∧ okN g.2) ∧ okN x ∧ g.2 ≠ [] ∧ x ≠ [] ∧ val x < val g.1 := Decidable.not_not.1 hc32
      obtain ⟨⟨hm, hq⟩, hx, hq0, hx0, hlt⟩ := hok
      have hxp := pos_of_ne hx hx0
      have hm0 : g.1 ≠ [] := fun h => by rw [h] at hlt; exact absurd hlt (Nat.not_lt_zero _)
      have he1 := mexp_ok hx hq hm hm0
      have he2 := mexp_ok hx okN_nil hm hm0
      have h1m : val x ^ val [] % val g.1 = 1 := by rw [show val [] = 0 from rfl, Nat.pow_zero, Nat.mod_eq_of_lt (by omega)]
      have hr : hasP g x ↔ val x ^ val g.2 % val g.1 = 1 := ⟨fun h => h.2.2.2.2.2.2, fun h => ⟨hm, hq, hx, hq0, hx0, hlt, h⟩⟩
      refine WC.skip ?_
      refine WX.then_normal ?_
      refine WC.sr ?_
      refine WL.r rfl rfl rfl (rd_move rfl rfl) ?_
      (refine WL.r rfl rfl rfl (rd_fa (q := 1) rfl rfl Tryz.underlying26 rfl (by kernel_rfl) rfl) ?_)
      (refine WL.r rfl rfl rfl (ld rfl rfl .tc Tryz.underlying22 rfl (by rfl)) ?_)
      (refine WL.r rfl rfl rfl (rd_fa (q := 0) rfl rfl Tryz.underlying26 rfl (by kernel_rfl) rfl) ?_)
      (refine WL.r rfl rfl rfl (ld rfl rfl .tc Tryz.underlying22 rfl (by rfl)) ?_)
      refine WL.g rfl rfl rfl (og_call rfl rfl (by kernel_rfl) (keep_val fun w hS => (by have := mexp_c (w := w) (a := x) (x := g.2) (m := g.1) hm8; rw [he1] at this; exact this))) ?_
      intro _
      refine WL.r rfl rfl rfl (rd_move rfl rfl) ?_
      refine WL.r rfl rfl rfl (rd_extL rfl rfl rfl) ?_
      refine WL.r rfl rfl rfl (rd_extL rfl rfl rfl) ?_
      refine WL.r rfl rfl rfl (rd_assign rfl rfl) ?_
      refine WL.r rfl rfl rfl (rd_assign rfl rfl) ?_
      refine WL.nt ?_
      refine WC.sr ?_
      refine WL.r rfl rfl rfl (rd_move rfl rfl) ?_
      (refine WL.r rfl rfl rfl (rd_fa (q := 0) rfl rfl Tryz.underlying26 rfl (by kernel_rfl) rfl) ?_)
      (refine WL.r rfl rfl rfl (ld rfl rfl .tc Tryz.underlying22 rfl (by rfl)) ?_)
      refine WL.g rfl rfl rfl (og_call rfl rfl (by kernel_rfl) (keep_val fun w hS => (by have := mexp_c (w := w) (a := x) (x := []) (m := g.1) hm8; rw [he2, h1m] at this; exact this))) ?_
      intro _
      refine WL.r rfl rfl rfl (rd_move rfl rfl) ?_
      refine WL.r rfl rfl rfl (rd_extL rfl rfl rfl) ?_
      refine WL.r rfl rfl rfl (rd_extL rfl rfl rfl) ?_
      refine WL.r rfl rfl rfl (rd_assign rfl rfl) ?_
      refine WL.r rfl rfl rfl (rd_assign rfl rfl) ?_
      refine WL.nt ?_
      refine WC.sr ?_
      refine WL.r rfl rfl rfl (rd_move rfl rfl) ?_
      refine WL.r rfl rfl rfl (rd_eql rfl rfl rfl) ?_
      refine WL.set 50 rfl (v' := .bool true) (by rfl) ?_
      refine WL.r rfl rfl rfl (rd_move rfl rfl) ?_
      refine WL.r rfl rfl rfl (rd_move rfl rfl) ?_
      refine WL.r rfl rfl rfl (rd_move rfl rfl) ?_
      refine WL.r rfl rfl rfl (rd_seq rfl rfl rfl) ?_
      refine WL.set 54 rfl (v' := .bool (decide (hasP g x))) (congrArg Value.bool (by simp [hr, canon_inj])) ?_
      refine WL.r rfl rfl rfl (rd_pickt rfl rfl rfl) ?_
      refine WL.r rfl rfl rfl (rd_assign rfl rfl) ?_
      refine WL.nt ?_
      refine WC.ret ?_
      exact WX.retN rfl (.tmp rfl .nil) fun w' hS => ⟨by rfl, hS.below⟩
def goodR (g : Gp) : Prop := okN g.1 ∧ g.2 = [] ∧ val g.1 % 2 = 1 ∧ 8 < val g.1
instance (g : Gp) : Decidable (goodR g) := inferInstanceAs (Decidable (_ ∧ _))
theorem rgood_c {g : Gp} {w : World} :
    Calls Tryz.prog 93 #[gV g] w fun e w' => e = .returned (.bool (decide (goodR g))) ∧ Below w.heap.size w w' := by
  have hB8 : 8 < Big := Nat.lt_of_lt_of_le (by decide) big64
  refine enter (S := St (fun _ => True) w [] ([])) (L := [(0, gV g)]) Tryz.func93 rfl Tryz.ntmps93 rfl (args_cons rfl (args_nil _)) (St.start (fun _ _ => trivial) facts_nil) ?_
  refine WC.sr ?_
  refine WL.g rfl rfl rfl (og_box rfl rfl (by (exact cells_agg _))) ?_
  intro b1
  refine WL.r rfl rfl rfl (rd_assign rfl rfl) ?_
  refine WL.nt ?_
  refine WC.seq ?_
  refine WC.free0 [0, 1, 2, 3, 4, 5, 6, 7, 8, 9, 10, 11, 12, 13, 16, 14, 15, 17, 18, 19, 20] [] [0, 0, 1, 0, 0, 0, 0, 0, 0, 0, 0, 1, 0, 0, 0, 0, 1, 1, 0, 0, 0] (by kernel_rfl) (by kernel_rfl) rfl ?_
  (refine WJ.r rfl rfl rfl rfl rfl (rd_fa (q := 0) rfl rfl Tryz.underlying26 rfl (by kernel_rfl) rfl) ?_)
  (refine WJ.r rfl rfl rfl rfl rfl (ld rfl rfl .tc Tryz.underlying22 rfl (by rfl)) ?_)
  refine WJ.gv rfl rfl rfl rfl rfl (fun ext => og_call rfl rfl (by kernel_rfl) (keep_val fun w hS => valid_c (a := g.1))) ?_
  refine WJ.r rfl rfl rfl rfl rfl (rd_move rfl rfl) ?_
  refine WJ.bool 6 rfl (fun hg6 => ?_) (fun hg6 => ?_)
  · (try simp only [sB] at hg6)
    (refine WJ.r rfl rfl rfl rfl rfl (rd_fa (q := 1) rfl rfl Tryz.underlying26 rfl (by kernel_rfl) rfl) ?_)
    (refine WJ.r rfl rfl rfl rfl rfl (ld rfl rfl .tc Tryz.underlying22 rfl (by rfl)) ?_)
    refine WJ.r rfl rfl rfl rfl rfl (rd_seq rfl rfl rfl) ?_
    refine WJ.r rfl rfl rfl rfl rfl (rd_pickt rfl rfl rfl) ?_
    refine WJ.r rfl rfl rfl rfl rfl (rd_move rfl rfl) ?_
    refine WJ.bool 11 rfl (fun hg11 => ?_) (fun hg11 => ?_)
    · (try simp only [sB] at hg11)
      (refine WJ.r rfl rfl rfl rfl rfl (rd_fa (q := 0) rfl rfl Tryz.underlying26 rfl (by kernel_rfl) rfl) ?_)
      (refine WJ.r rfl rfl rfl rfl rfl (ld rfl rfl .tc Tryz.underlying22 rfl (by rfl)) ?_)
      refine WJ.gv rfl rfl rfl rfl rfl (fun ext => og_call rfl rfl (by kernel_rfl) (keep_val fun w hS => bitn_c (a := g.1) (i := 0) (by omega))) ?_
      refine WJ.set 14 rfl (v' := .bool (decide (val g.1 % 2 = 1))) (congrArg Value.bool (by exact odd_bit hg6)) ?_
      refine WJ.r rfl rfl rfl rfl rfl (rd_pickt rfl rfl rfl) ?_
      refine WJ.r rfl rfl rfl rfl rfl (rd_move rfl rfl) ?_
      refine WJ.bool 16 rfl (fun hg16 => ?_) (fun hg16 => ?_)
      · (try simp only [sB] at hg16)
        refine WJ.gv rfl rfl rfl rfl rfl (fun ext => og_call rfl rfl (by kernel_rfl) (keep_val fun w hS => of_c (n := 8) (by omega))) ?_
        (refine WJ.r rfl rfl rfl rfl rfl (rd_fa (q := 0) rfl rfl Tryz.underlying26 rfl (by kernel_rfl) rfl) ?_)
        (refine WJ.r rfl rfl rfl rfl rfl (ld rfl rfl .tc Tryz.underlying22 rfl (by rfl)) ?_)
        refine WJ.gv rfl rfl rfl rfl rfl (fun ext => og_call rfl rfl (by kernel_rfl) (keep_val fun w hS => Cmp_c (a := g.1) (b := canon 8))) ?_
        refine WJ.r rfl rfl rfl rfl rfl (rd_gtr rfl rfl rfl) ?_
        refine WJ.set 21 rfl (v' := .bool (decide (8 < val g.1))) (congrArg Value.bool (by rw [cmpN_ok hg6 (okN_can hB8), val_canon]; exact decide_eq_decide.2 (by have := cmpI_le (val g.1) 8; omega))) ?_
        refine WJ.r rfl rfl rfl rfl rfl (rd_pickt rfl rfl rfl) ?_
        refine WJ.r rfl rfl rfl rfl rfl (rd_assign rfl rfl) ?_
        refine WJ.nil ?_
        refine WL.nt ?_
        refine WC.ret ?_
        exact WX.retN rfl (.tmp rfl .nil) fun w' hS => ⟨by (simp [*, tup, goodR]; done), hS.below⟩
      · (try simp only [sB] at hg16)
        refine WJ.s rfl rfl rfl rfl ?_
        refine WJ.s rfl rfl rfl rfl ?_
        refine WJ.s rfl rfl rfl rfl ?_
        refine WJ.s rfl rfl rfl rfl ?_
        refine WJ.s rfl rfl rfl rfl ?_
        refine WJ.r rfl rfl rfl rfl rfl (rd_pickf rfl rfl rfl) ?_
        refine WJ.r rfl rfl rfl rfl rfl (rd_assign rfl rfl) ?_
        refine WJ.nil ?_
        refine WL.nt ?_
        refine WC.ret ?_
        exact WX.retN rfl (.tmp rfl .nil) fun w' hS => ⟨by (simp [*, tup, goodR]; done), hS.below⟩
    · (try simp only [sB] at hg11)
      refine WJ.s rfl rfl rfl rfl ?_
      refine WJ.s rfl rfl rfl rfl ?_
      refine WJ.s rfl rfl rfl rfl ?_
      refine WJ.r rfl rfl rfl rfl rfl (rd_pickf rfl rfl rfl) ?_
      refine WJ.r rfl rfl rfl rfl rfl (rd_move rfl rfl) ?_
      refine WJ.s rfl rfl rfl rfl ?_
      refine WJ.s rfl rfl rfl rfl ?_
      refine WJ.s rfl rfl rfl rfl ?_
      refine WJ.s rfl rfl rfl rfl ?_
      refine WJ.s rfl rfl rfl rfl ?_
      refine WJ.r rfl rfl rfl rfl rfl (rd_pickf rfl rfl rfl) ?_
      refine WJ.r rfl rfl rfl rfl rfl (rd_assign rfl rfl) ?_
      refine WJ.nil ?_
      refine WL.nt ?_
      refine WC.ret ?_
      exact WX.retN rfl (.tmp rfl .nil) fun w' hS => ⟨by (simp [*, tup, goodR]; done), hS.below⟩
  · (try simp only [sB] at hg6)
    refine WJ.s rfl rfl rfl rfl ?_
    refine WJ.s rfl rfl rfl rfl ?_
    refine WJ.s rfl rfl rfl rfl ?_
    refine WJ.r rfl rfl rfl rfl rfl (rd_pickf rfl rfl rfl) ?_
    refine WJ.r rfl rfl rfl rfl rfl (rd_move rfl rfl) ?_
    refine WJ.s rfl rfl rfl rfl ?_
    refine WJ.s rfl rfl rfl rfl ?_
    refine WJ.s rfl rfl rfl rfl ?_
    refine WJ.r rfl rfl rfl rfl rfl (rd_pickf rfl rfl rfl) ?_
    refine WJ.r rfl rfl rfl rfl rfl (rd_move rfl rfl) ?_
    refine WJ.s rfl rfl rfl rfl ?_
    refine WJ.s rfl rfl rfl rfl ?_
    refine WJ.s rfl rfl rfl rfl ?_
    refine WJ.s rfl rfl rfl rfl ?_
    refine WJ.s rfl rfl rfl rfl ?_
    refine WJ.r rfl rfl rfl rfl rfl (rd_pickf rfl rfl rfl) ?_
    refine WJ.r rfl rfl rfl rfl rfl (rd_assign rfl rfl) ?_
    refine WJ.nil ?_
    refine WL.nt ?_
    refine WC.ret ?_
    exact WX.retN rfl (.tmp rfl .nil) fun w' hS => ⟨by (simp [*, tup, goodR]; done), hS.below⟩
theorem rsone_c {w : World} :
    Calls Tryz.prog 95 #[] w fun e w' => e = .returned (.string (S (canon 1))) ∧ Below w.heap.size w w' := by
  refine enter (S := St (fun _ => True) w [] ([])) (L := []) Tryz.func95 rfl Tryz.ntmps95 rfl (args_nil _) (St.start (fun _ _ => trivial) facts_nil) ?_
  refine WC.sr ?_
  refine WL.r rfl rfl rfl (rd_assign rfl rfl) ?_
  refine WL.nt ?_
  refine WC.sr ?_
  refine WL.g rfl rfl rfl (og_call rfl rfl (by kernel_rfl) (keep_val fun w hS => of_c (n := 1) (by omega))) ?_
  intro _
  refine WL.r rfl rfl rfl (rd_assign rfl rfl) ?_
  refine WL.nt ?_
  refine WC.ret ?_
  exact WX.retN rfl (.tmp rfl .nil) fun w' hS => ⟨by rfl, hS.below⟩
def hasR (g : Gp) (x : Bs) : Prop := goodR g ∧ okN x ∧ x ≠ [] ∧ val x < val g.1 ∧ Nat.gcd (val x) (val g.1) = 1
instance (g : Gp) (x : Bs) : Decidable (hasR g x) := inferInstanceAs (Decidable (_ ∧ _))
theorem rshas_c {g : Gp} {x : Bs} {w : World} :
    Calls Tryz.prog 71 #[gV g, .string (S x)] w fun e w' => e = .returned (.bool (decide (hasR g x))) ∧ Below w.heap.size w w' := by
  refine enter (S := St (fun _ => True) w [] ([])) (L := [(0, gV g), (1, .string (S x))]) Tryz.func71 rfl Tryz.ntmps71 rfl (args_cons rfl (args_cons rfl (args_nil _))) (St.start (fun _ _ => trivial) facts_nil) ?_
  refine WC.sr ?_
  refine WL.g rfl rfl rfl (og_box rfl rfl (by (exact cells_agg _))) ?_
  intro b2
  refine WL.r rfl rfl rfl (rd_assign rfl rfl) ?_
  refine WL.nt ?_
  refine WC.seq ?_
  refine WC.joinP (σ := Unit) [(1, _), (2, _)] (fun gq => [(25, .bool (decide (¬ (goodR g ∧ okN x ∧ x ≠ [] ∧ val x < val g.1))))]) (fun gq => True) (sub_cons rfl (sub_cons rfl (sub_nil _))) ?_ ?_
  · skip
    refine WC.region ?_
    refine WL.r rfl rfl rfl (lda rfl rfl .tc Tryz.underlying26 rfl ?_) ?_
    · kernel_rfl
    refine WL.g rfl rfl rfl (og_call rfl rfl (by kernel_rfl) (keep_val fun w hS => rgood_c (g := g))) ?_
    intro _
    refine WL.r rfl rfl rfl (rd_not rfl rfl) ?_
    refine WL.r rfl rfl rfl (rd_move rfl rfl) ?_
    refine WL.bool 10 rfl (fun hg10 => ?_) (fun hg10 => ?_)
    · (try simp only [sB] at hg10)
      refine WL.s rfl rfl rfl ?_
      refine WL.s rfl rfl rfl ?_
      refine WL.s rfl rfl rfl ?_
      refine WL.r rfl rfl rfl (rd_pickt rfl rfl rfl) ?_
      refine WL.r rfl rfl rfl (rd_move rfl rfl) ?_
      refine WL.s rfl rfl rfl ?_
      refine WL.s rfl rfl rfl ?_
      refine WL.r rfl rfl rfl (rd_pickt rfl rfl rfl) ?_
      refine WL.r rfl rfl rfl (rd_move rfl rfl) ?_
      refine WL.s rfl rfl rfl ?_
      refine WL.s rfl rfl rfl ?_
      refine WL.s rfl rfl rfl ?_
      refine WL.s rfl rfl rfl ?_
      refine WL.s rfl rfl rfl ?_
      refine WL.r rfl rfl rfl (rd_pickt rfl rfl rfl) ?_
      refine WL.nil ?_
      refine WX.joinP (()) (sub_cons rfl (sub_cons rfl (sub_nil _))) (by refine (sub_cons ?_ (sub_nil _)) <;> ((refine slot_b rfl ?_; (try dsimp only); (simp [*]; done)))) ?_ (by (exact fun _ h => h))
      (try dsimp only)
      done
    · (try simp only [sB] at hg10)
      refine WL.r rfl rfl rfl (rd_move rfl rfl) ?_
      refine WL.g rfl rfl rfl (og_call rfl rfl (by kernel_rfl) (keep_val fun w hS => valid_c (a := x))) ?_
      intro _
      refine WL.r rfl rfl rfl (rd_not rfl rfl) ?_
      refine WL.r rfl rfl rfl (rd_pickf rfl rfl rfl) ?_
      refine WL.r rfl rfl rfl (rd_move rfl rfl) ?_
      refine WL.bool 15 rfl (fun hg15 => ?_) (fun hg15 => ?_)
      · (try simp only [sB] at hg15)
        refine WL.s rfl rfl rfl ?_
        refine WL.s rfl rfl rfl ?_
        refine WL.r rfl rfl rfl (rd_pickt rfl rfl rfl) ?_
        refine WL.r rfl rfl rfl (rd_move rfl rfl) ?_
        refine WL.s rfl rfl rfl ?_
        refine WL.s rfl rfl rfl ?_
        refine WL.s rfl rfl rfl ?_
        refine WL.s rfl rfl rfl ?_
        refine WL.s rfl rfl rfl ?_
        refine WL.r rfl rfl rfl (rd_pickt rfl rfl rfl) ?_
        refine WL.nil ?_
        refine WX.joinP (()) (sub_cons rfl (sub_cons rfl (sub_nil _))) (by refine (sub_cons ?_ (sub_nil _)) <;> ((refine slot_b rfl ?_; (try dsimp only); (simp [*]; done)))) ?_ (by (exact fun _ h => h))
        (try dsimp only)
        done
      · (try simp only [sB] at hg15)
        refine WL.r rfl rfl rfl (rd_move rfl rfl) ?_
        refine WL.r rfl rfl rfl (rd_seq rfl rfl rfl) ?_
        refine WL.r rfl rfl rfl (rd_pickf rfl rfl rfl) ?_
        refine WL.r rfl rfl rfl (rd_move rfl rfl) ?_
        refine WL.bool 19 rfl (fun hg19 => ?_) (fun hg19 => ?_)
        · (try simp only [sB] at hg19)
          refine WL.s rfl rfl rfl ?_
          refine WL.s rfl rfl rfl ?_
          refine WL.s rfl rfl rfl ?_
          refine WL.s rfl rfl rfl ?_
          refine WL.s rfl rfl rfl ?_
          refine WL.r rfl rfl rfl (rd_pickt rfl rfl rfl) ?_
          refine WL.nil ?_
          refine WX.joinP (()) (sub_cons rfl (sub_cons rfl (sub_nil _))) (by refine (sub_cons ?_ (sub_nil _)) <;> ((refine slot_b rfl ?_; (try dsimp only); (simp [*]; done)))) ?_ (by (exact fun _ h => h))
          (try dsimp only)
          done
        · (try simp only [sB] at hg19)
          refine WL.r rfl rfl rfl (rd_move rfl rfl) ?_
          (refine WL.r rfl rfl rfl (rd_fa (q := 0) rfl rfl Tryz.underlying26 rfl (by kernel_rfl) rfl) ?_)
          (refine WL.r rfl rfl rfl (ld rfl rfl .tc Tryz.underlying22 rfl (by rfl)) ?_)
          refine WL.g rfl rfl rfl (og_call rfl rfl (by kernel_rfl) (keep_val fun w hS => Cmp_c (a := x) (b := g.1))) ?_
          intro _
          refine WL.r rfl rfl rfl (rd_geq rfl rfl rfl) ?_
          refine WL.set 24 rfl (v' := .bool (decide (val g.1 ≤ val x))) (congrArg Value.bool (by rw [cmpN_ok hg15 hg10.1]; exact decide_eq_decide.2 (cmpI_ge _ _))) ?_
          refine WL.r rfl rfl rfl (rd_pickf rfl rfl rfl) ?_
          refine WL.nil ?_
          refine WX.joinP (()) (sub_cons rfl (sub_cons rfl (sub_nil _))) (by refine (sub_cons ?_ (sub_nil _)) <;> ((refine slot_b rfl ?_; (try dsimp only); (simp [*]; done)))) ?_ (by (exact fun _ h => h))
          (try dsimp only)
          done
  · rintro _ hmeet; (try dsimp only at hmeet ⊢)
    refine WC.cond rfl (fun hc25 => ?_) (fun hc25 => ?_)
    · (try simp only [sB] at hc25)
      have hr : ¬ hasR g x := fun h => hc25 ⟨h.1, h.2.1, h.2.2.1, h.2.2.2.1⟩
      refine WC.sr ?_
      refine WL.r rfl rfl rfl (rd_assign rfl rfl) ?_
      refine WL.nt ?_
      refine WC.ret ?_
      refine WX.then_ret ?_
      exact WX.retN rfl (.tmp rfl .nil) fun w' hS => ⟨by (simp [*, tup]; done), hS.below⟩
    · (try simp only [sB] at hc25)
      have hok : goodR g ∧ okN x ∧ x ≠ [] ∧ val x < val g.1 := Decidable.not_not.1 hc25
      have hgc : gcdN x g.1 = (canon (Nat.gcd (val x) (val g.1)), 0) := by rw [gcdN, if_pos ⟨hok.2.1, hok.1.1⟩]
      have hr : hasR g x ↔ Nat.gcd (val x) (val g.1) = 1 := ⟨fun h => h.2.2.2.2, fun h => ⟨hok.1, hok.2.1, hok.2.2.1, hok.2.2.2, h⟩⟩
      refine WC.skip ?_
      refine WX.then_normal ?_
      refine WC.sr ?_
      refine WL.r rfl rfl rfl (rd_move rfl rfl) ?_
      (refine WL.r rfl rfl rfl (rd_fa (q := 0) rfl rfl Tryz.underlying26 rfl (by kernel_rfl) rfl) ?_)
      (refine WL.r rfl rfl rfl (ld rfl rfl .tc Tryz.underlying22 rfl (by rfl)) ?_)
      refine WL.g rfl rfl rfl (og_call rfl rfl (by kernel_rfl) (keep_val fun w hS => (by have := gcd_c (w := w) (a := x) (b := g.1); rw [hgc] at this; exact this))) ?_
      intro _
      refine WL.r rfl rfl rfl (rd_move rfl rfl) ?_
      refine WL.r rfl rfl rfl (rd_extL rfl rfl rfl) ?_
      refine WL.r rfl rfl rfl (rd_extL rfl rfl rfl) ?_
      refine WL.r rfl rfl rfl (rd_assign rfl rfl) ?_
      refine WL.r rfl rfl rfl (rd_assign rfl rfl) ?_
      refine WL.nt ?_
      refine WC.sr ?_
      refine WL.r rfl rfl rfl (rd_move rfl rfl) ?_
      refine WL.g rfl rfl rfl (og_call rfl rfl (by kernel_rfl) (keep_val fun w hS => rsone_c)) ?_
      intro _
      refine WL.r rfl rfl rfl (rd_seq rfl rfl rfl) ?_
      refine WL.set 35 rfl (v' := .bool (decide (hasR g x))) (congrArg Value.bool (by simp [hr, canon_inj])) ?_
      refine WL.r rfl rfl rfl (rd_assign rfl rfl) ?_
      refine WL.nt ?_
      refine WC.ret ?_
      exact WX.retN rfl (.tmp rfl .nil) fun w' hS => ⟨by rfl, hS.below⟩
/-- an element of a well-formed group -/
def elG (g : Gp) (x : Bs) : Prop := okN x ∧ x ≠ [] ∧ val x < val g.1 ∧ (if g.2 = [] then Nat.gcd (val x) (val g.1) = 1 else val x ^ val g.2 % val g.1 = 1)
instance (g : Gp) (x : Bs) : Decidable (elG g x) := inferInstanceAs (Decidable (_ ∧ _))
theorem chkG_ok {g : Gp} (h : chkG g = 0) : okN g.1 ∧ okN g.2 ∧ 2 ≤ val g.1 ∧ (g.2 = [] → goodR g) ∧ (g.2 ≠ [] → 2 ≤ val g.2 ∧ (val g.1 - 1) % val g.2 = 0) := by
  unfold chkG at h
  split at h
  · rename_i h1
    split at h
    · rename_i h2
      split at h
      · rename_i h3; exact ⟨h1.1, h1.2, by omega, fun _ => ⟨h1.1, h2, h3.1, h3.2⟩, fun hn => absurd h2 hn⟩
      · simp at h
    · rename_i h2
      split at h
      · simp at h
      · rename_i h3; exact ⟨h1.1, h1.2, by omega, fun hn => absurd hn h2, fun _ => ⟨by omega, by omega⟩⟩
  · simp at h
theorem elG_P {g : Gp} {x : Bs} (h : chkG g = 0) (hq : g.2 ≠ []) : hasP g x ↔ elG g x := by
  obtain ⟨h1, h2, h3, h4, h5⟩ := chkG_ok h
  rw [hasP, elG, if_neg hq]
  exact ⟨fun ⟨_, _, a, _, b, c, d⟩ => ⟨a, b, c, d⟩, fun ⟨a, b, c, d⟩ => ⟨h1, h2, a, hq, b, c, d⟩⟩
theorem elG_R {g : Gp} {x : Bs} (h : chkG g = 0) (hq : g.2 = []) : hasR g x ↔ elG g x := by
  obtain ⟨h1, h2, h3, h4, h5⟩ := chkG_ok h
  rw [hasR, elG, if_pos hq]
  exact ⟨fun ⟨_, a, b, c, d⟩ => ⟨a, b, c, d⟩, fun ⟨a, b, c, d⟩ => ⟨h4 hq, a, b, c, d⟩⟩
theorem pwhas0_c {g : Gp} {x : Bs} {w : World} (hg : chkG g = 0) (hm8 : g.1.length ≤ 8) :
    Calls Tryz.prog 48 #[gV g, .string (S x)] w fun e w' => e = .returned (.bool (decide (elG g x))) ∧ Below w.heap.size w w' := by
  refine enter (S := St (fun _ => True) w [] ([])) (L := [(0, gV g), (1, .string (S x))]) Tryz.func48 rfl Tryz.ntmps48 rfl (args_cons rfl (args_cons rfl (args_nil _))) (St.start (fun _ _ => trivial) facts_nil) ?_
  refine WC.sr ?_
  refine WL.g rfl rfl rfl (og_box rfl rfl (by (exact cells_agg _))) ?_
  intro b2
  refine WL.r rfl rfl rfl (rd_assign rfl rfl) ?_
  refine WL.nt ?_
  refine WC.seq ?_
  refine WC.sr ?_
  (refine WL.r rfl rfl rfl (rd_fa (q := 1) rfl rfl Tryz.underlying26 rfl (by kernel_rfl) rfl) ?_)
  (refine WL.r rfl rfl rfl (ld rfl rfl .tc Tryz.underlying22 rfl (by rfl)) ?_)
  refine WL.r rfl rfl rfl (rd_sne rfl rfl rfl) ?_
  refine WL.nt ?_
  refine WC.cond rfl (fun hc7 => ?_) (fun hc7 => ?_)
  · (try simp only [sB] at hc7)
    have hq : g.2 ≠ [] := by simpa using hc7
    have hr := elG_P (x := x) hg hq
    refine WC.sr ?_
    refine WL.r rfl rfl rfl (lda rfl rfl .tc Tryz.underlying26 rfl ?_) ?_
    · kernel_rfl
    refine WL.r rfl rfl rfl (rd_move rfl rfl) ?_
    refine WL.g rfl rfl rfl (og_call rfl rfl (by kernel_rfl) (keep_val fun w hS => phas_c (g := g) (x := x) (by assumption))) ?_
    intro _
    refine WL.r rfl rfl rfl (rd_assign rfl rfl) ?_
    refine WL.nt ?_
    refine WC.ret ?_
    refine WX.then_ret ?_
    exact WX.retN rfl (.tmp rfl .nil) fun w' hS => ⟨by simp only [hr]; rfl, hS.below⟩
  · (try simp only [sB] at hc7)
    have hq : g.2 = [] := by simpa using hc7
    have hr := elG_R (x := x) hg hq
    refine WC.skip ?_
    refine WX.then_normal ?_
    refine WC.sr ?_
    refine WL.r rfl rfl rfl (lda rfl rfl .tc Tryz.underlying26 rfl ?_) ?_
    · kernel_rfl
    refine WL.r rfl rfl rfl (rd_move rfl rfl) ?_
    refine WL.g rfl rfl rfl (og_call rfl rfl (by kernel_rfl) (keep_val fun w hS => rshas_c (g := g) (x := x))) ?_
    intro _
    refine WL.r rfl rfl rfl (rd_assign rfl rfl) ?_
    refine WL.nt ?_
    refine WC.ret ?_
    exact WX.retN rfl (.tmp rfl .nil) fun w' hS => ⟨by simp only [hr]; rfl, hS.below⟩
theorem pwhas_c {g : Gp} {x : Bs} {w : World} (hm8 : g.1.length ≤ 8) :
    Calls Tryz.prog 23 #[gV g, .string (S x)] w fun e w' => e = .returned (.bool (decide (chkG g = 0 ∧ elG g x))) ∧ Below w.heap.size w w' := by
  refine enter (S := St (fun _ => True) w [] ([])) (L := [(0, gV g), (1, .string (S x))]) Tryz.func23 rfl Tryz.ntmps23 rfl (args_cons rfl (args_cons rfl (args_nil _))) (St.start (fun _ _ => trivial) facts_nil) ?_
  refine WC.sr ?_
  refine WL.g rfl rfl rfl (og_box rfl rfl (by (exact cells_agg _))) ?_
  intro b2
  refine WL.r rfl rfl rfl (rd_assign rfl rfl) ?_
  refine WL.nt ?_
  refine WC.sr ?_
  refine WL.r rfl rfl rfl (lda rfl rfl .tc Tryz.underlying26 rfl ?_) ?_
  · kernel_rfl
  refine WL.g rfl rfl rfl (og_call rfl rfl (by kernel_rfl) (keep_val fun w hS => pcheck_c (g := g))) ?_
  intro _
  refine WL.r rfl rfl rfl (rd_eql rfl rfl rfl) ?_
  refine WL.r rfl rfl rfl (rd_move rfl rfl) ?_
  refine WL.bool 8 rfl (fun hg8 => ?_) (fun hg8 => ?_)
  · (try simp only [sB] at hg8)
    refine WL.r rfl rfl rfl (lda rfl rfl .tc Tryz.underlying26 rfl ?_) ?_
    · kernel_rfl
    refine WL.r rfl rfl rfl (rd_move rfl rfl) ?_
    refine WL.g rfl rfl rfl (og_call rfl rfl (by kernel_rfl) (keep_val fun w hS => pwhas0_c (g := g) (x := x) (by assumption) (by assumption))) ?_
    intro _
    refine WL.r rfl rfl rfl (rd_pickt rfl rfl rfl) ?_
    refine WL.r rfl rfl rfl (rd_assign rfl rfl) ?_
    refine WL.nt ?_
    refine WC.ret ?_
    exact WX.retN rfl (.tmp rfl .nil) fun w' hS => ⟨by (simp [*, tup]; done), hS.below⟩
  · (try simp only [sB] at hg8)
    refine WL.s rfl rfl rfl ?_
    refine WL.s rfl rfl rfl ?_
    refine WL.s rfl rfl rfl ?_
    refine WL.r rfl rfl rfl (rd_pickf rfl rfl rfl) ?_
    refine WL.r rfl rfl rfl (rd_assign rfl rfl) ?_
    refine WL.nt ?_
    refine WC.ret ?_
    exact WX.retN rfl (.tmp rfl .nil) fun w' hS => ⟨by (simp [*, tup]; done), hS.below⟩
/-! the reference's -/
theorem rpform_c {g : Gp} {w : World} :
    Calls Tryz.prog 105 #[gV g] w fun e w' => e = .returned (.bool (decide (okN g.1 ∧ okN g.2))) ∧ Below w.heap.size w w' := by
  refine enter (S := St (fun _ => True) w [] ([])) (L := [(0, gV g)]) Tryz.func105 rfl Tryz.ntmps105 rfl (args_cons rfl (args_nil _)) (St.start (fun _ _ => trivial) facts_nil) ?_
  refine WC.sr ?_
  refine WL.g rfl rfl rfl (og_box rfl rfl (by (exact cells_agg _))) ?_
  intro b1
  refine WL.r rfl rfl rfl (rd_assign rfl rfl) ?_
  refine WL.nt ?_
  refine WC.sr ?_
  (refine WL.r rfl rfl rfl (rd_fa (q := 0) rfl rfl Tryz.underlying26 rfl (by kernel_rfl) rfl) ?_)
  (refine WL.r rfl rfl rfl (ld rfl rfl .tc Tryz.underlying22 rfl (by rfl)) ?_)
  refine WL.g rfl rfl rfl (og_call rfl rfl (by kernel_rfl) (keep_val fun w hS => rvalid_c (a := g.1))) ?_
  intro _
  refine WL.r rfl rfl rfl (rd_move rfl rfl) ?_
  refine WL.bool 6 rfl (fun hg6 => ?_) (fun hg6 => ?_)
  · (try simp only [sB] at hg6)
    (refine WL.r rfl rfl rfl (rd_fa (q := 1) rfl rfl Tryz.underlying26 rfl (by kernel_rfl) rfl) ?_)
    (refine WL.r rfl rfl rfl (ld rfl rfl .tc Tryz.underlying22 rfl (by rfl)) ?_)
    refine WL.g rfl rfl rfl (og_call rfl rfl (by kernel_rfl) (keep_val fun w hS => rvalid_c (a := g.2))) ?_
    intro _
    refine WL.r rfl rfl rfl (rd_pickt rfl rfl rfl) ?_
    refine WL.r rfl rfl rfl (rd_assign rfl rfl) ?_
    refine WL.nt ?_
    refine WC.ret ?_
    exact WX.retN rfl (.tmp rfl .nil) fun w' hS => ⟨by (simp [*, tup]; done), hS.below⟩
  · (try simp only [sB] at hg6)
    refine WL.s rfl rfl rfl ?_
    refine WL.s rfl rfl rfl ?_
    refine WL.s rfl rfl rfl ?_
    refine WL.r rfl rfl rfl (rd_pickf rfl rfl rfl) ?_
    refine WL.r rfl rfl rfl (rd_assign rfl rfl) ?_
    refine WL.nt ?_
    refine WC.ret ?_
    exact WX.retN rfl (.tmp rfl .nil) fun w' hS => ⟨by (simp [*, tup]; done), hS.below⟩
theorem rphas_c {g : Gp} {x : Bs} {w : World} (hm8 : g.1.length ≤ 8) :
    Calls Tryz.prog 80 #[gV g, .string (S x)] w fun e w' => e = .returned (.bool (decide (hasP g x))) ∧ Below w.heap.size w w' := by
  refine enter (S := St (fun _ => True) w [] ([])) (L := [(0, gV g), (1, .string (S x))]) Tryz.func80 rfl Tryz.ntmps80 rfl (args_cons rfl (args_cons rfl (args_nil _))) (St.start (fun _ _ => trivial) facts_nil) ?_
  refine WC.sr ?_
  refine WL.g rfl rfl rfl (og_box rfl rfl (by (exact cells_agg _))) ?_
  intro b2
  refine WL.r rfl rfl rfl (rd_assign rfl rfl) ?_
  refine WL.nt ?_
  refine WC.seq ?_
  refine WC.joinP (σ := Unit) [(1, _), (2, _)] (fun gq => [(30, .bool (decide (¬ ((okN g.1 ∧ okN g.2) ∧ okN x ∧ g.2 ≠ [] ∧ x ≠ [] ∧ val x < val g.1))))]) (fun gq => True) (sub_cons rfl (sub_cons rfl (sub_nil _))) ?_ ?_
  · skip
    refine WC.region ?_
    refine WL.r rfl rfl rfl (lda rfl rfl .tc Tryz.underlying26 rfl ?_) ?_
    · kernel_rfl
    refine WL.g rfl rfl rfl (og_call rfl rfl (by kernel_rfl) (keep_val fun w hS => rpform_c (g := g))) ?_
    intro _
    refine WL.r rfl rfl rfl (rd_not rfl rfl) ?_
    refine WL.r rfl rfl rfl (rd_move rfl rfl) ?_
    refine WL.bool 10 rfl (fun hg10 => ?_) (fun hg10 => ?_)
    · (try simp only [sB] at hg10)
      refine WL.s rfl rfl rfl ?_
      refine WL.s rfl rfl rfl ?_
      refine WL.s rfl rfl rfl ?_
      refine WL.r rfl rfl rfl (rd_pickt rfl rfl rfl) ?_
      refine WL.r rfl rfl rfl (rd_move rfl rfl) ?_
      refine WL.s rfl rfl rfl ?_
      refine WL.s rfl rfl rfl ?_
      refine WL.s rfl rfl rfl ?_
      refine WL.r rfl rfl rfl (rd_pickt rfl rfl rfl) ?_
      refine WL.r rfl rfl rfl (rd_move rfl rfl) ?_
      refine WL.s rfl rfl rfl ?_
      refine WL.s rfl rfl rfl ?_
      refine WL.r rfl rfl rfl (rd_pickt rfl rfl rfl) ?_
      refine WL.r rfl rfl rfl (rd_move rfl rfl) ?_
      refine WL.s rfl rfl rfl ?_
      refine WL.s rfl rfl rfl ?_
      refine WL.s rfl rfl rfl ?_
      refine WL.s rfl rfl rfl ?_
      refine WL.s rfl rfl rfl ?_
      refine WL.r rfl rfl rfl (rd_pickt rfl rfl rfl) ?_
      refine WL.nil ?_
      refine WX.joinP (()) (sub_cons rfl (sub_cons rfl (sub_nil _))) (by refine (sub_cons ?_ (sub_nil _)) <;> ((refine slot_b rfl ?_; (try dsimp only); (simp [*]; done)))) ?_ (by (exact fun _ h => h))
      (try dsimp only)
      done
    · (try simp only [sB] at hg10)
      refine WL.r rfl rfl rfl (rd_move rfl rfl) ?_
      refine WL.g rfl rfl rfl (og_call rfl rfl (by kernel_rfl) (keep_val fun w hS => rvalid_c (a := x))) ?_
      intro _
      refine WL.r rfl rfl rfl (rd_not rfl rfl) ?_
      refine WL.r rfl rfl rfl (rd_pickf rfl rfl rfl) ?_
      refine WL.r rfl rfl rfl (rd_move rfl rfl) ?_
      refine WL.bool 15 rfl (fun hg15 => ?_) (fun hg15 => ?_)
      · (try simp only [sB] at hg15)
        refine WL.s rfl rfl rfl ?_
        refine WL.s rfl rfl rfl ?_
        refine WL.s rfl rfl rfl ?_
        refine WL.r rfl rfl rfl (rd_pickt rfl rfl rfl) ?_
        refine WL.r rfl rfl rfl (rd_move rfl rfl) ?_
        refine WL.s rfl rfl rfl ?_
        refine WL.s rfl rfl rfl ?_
        refine WL.r rfl rfl rfl (rd_pickt rfl rfl rfl) ?_
        refine WL.r rfl rfl rfl (rd_move rfl rfl) ?_
        refine WL.s rfl rfl rfl ?_
        refine WL.s rfl rfl rfl ?_
        refine WL.s rfl rfl rfl ?_
        refine WL.s rfl rfl rfl ?_
        refine WL.s rfl rfl rfl ?_
        refine WL.r rfl rfl rfl (rd_pickt rfl rfl rfl) ?_
        refine WL.nil ?_
        refine WX.joinP (()) (sub_cons rfl (sub_cons rfl (sub_nil _))) (by refine (sub_cons ?_ (sub_nil _)) <;> ((refine slot_b rfl ?_; (try dsimp only); (simp [*]; done)))) ?_ (by (exact fun _ h => h))
        (try dsimp only)
        done
      · (try simp only [sB] at hg15)
        (refine WL.r rfl rfl rfl (rd_fa (q := 1) rfl rfl Tryz.underlying26 rfl (by kernel_rfl) rfl) ?_)
        (refine WL.r rfl rfl rfl (ld rfl rfl .tc Tryz.underlying22 rfl (by rfl)) ?_)
        refine WL.r rfl rfl rfl (rd_seq rfl rfl rfl) ?_
        refine WL.r rfl rfl rfl (rd_pickf rfl rfl rfl) ?_
        refine WL.r rfl rfl rfl (rd_move rfl rfl) ?_
        refine WL.bool 20 rfl (fun hg20 => ?_) (fun hg20 => ?_)
        · (try simp only [sB] at hg20)
          refine WL.s rfl rfl rfl ?_
          refine WL.s rfl rfl rfl ?_
          refine WL.r rfl rfl rfl (rd_pickt rfl rfl rfl) ?_
          refine WL.r rfl rfl rfl (rd_move rfl rfl) ?_
          refine WL.s rfl rfl rfl ?_
          refine WL.s rfl rfl rfl ?_
          refine WL.s rfl rfl rfl ?_
          refine WL.s rfl rfl rfl ?_
          refine WL.s rfl rfl rfl ?_
          refine WL.r rfl rfl rfl (rd_pickt rfl rfl rfl) ?_
          refine WL.nil ?_
          refine WX.joinP (()) (sub_cons rfl (sub_cons rfl (sub_nil _))) (by refine (sub_cons ?_ (sub_nil _)) <;> ((refine slot_b rfl ?_; (try dsimp only); (simp [*]; done)))) ?_ (by (exact fun _ h => h))
          (try dsimp only)
          done
        · (try simp only [sB] at hg20)
          refine WL.r rfl rfl rfl (rd_move rfl rfl) ?_
          refine WL.r rfl rfl rfl (rd_seq rfl rfl rfl) ?_
          refine WL.r rfl rfl rfl (rd_pickf rfl rfl rfl) ?_
          refine WL.r rfl rfl rfl (rd_move rfl rfl) ?_
          refine WL.bool 24 rfl (fun hg24 => ?_) (fun hg24 => ?_)
          · (try simp only [sB] at hg24)
            refine WL.s rfl rfl rfl ?_
            refine WL.s rfl rfl rfl ?_
            refine WL.s rfl rfl rfl ?_
            refine WL.s rfl rfl rfl ?_
            refine WL.s rfl rfl rfl ?_
            refine WL.r rfl rfl rfl (rd_pickt rfl rfl rfl) ?_
            refine WL.nil ?_
            refine WX.joinP (()) (sub_cons rfl (sub_cons rfl (sub_nil _))) (by refine (sub_cons ?_ (sub_nil _)) <;> ((refine slot_b rfl ?_; (try dsimp only); (simp [*]; done)))) ?_ (by (exact fun _ h => h))
            (try dsimp only)
            done
          · (try simp only [sB] at hg24)
            refine WL.r rfl rfl rfl (rd_move rfl rfl) ?_
            (refine WL.r rfl rfl rfl (rd_fa (q := 0) rfl rfl Tryz.underlying26 rfl (by kernel_rfl) rfl) ?_)
            (refine WL.r rfl rfl rfl (ld rfl rfl .tc Tryz.underlying22 rfl (by rfl)) ?_)
            refine WL.g rfl rfl rfl (og_call rfl rfl (by kernel_rfl) (keep_val fun w hS => order_c (a := x) (b := g.1) (by exact hg15.2) (by exact hg10.1.2) (by have := hg15.1; omega))) ?_
            intro _
            refine WL.r rfl rfl rfl (rd_geq rfl rfl rfl) ?_
            refine WL.set 29 rfl (v' := .bool (decide (val g.1 ≤ val x))) (congrArg Value.bool (by exact decide_eq_decide.2 (cmpI_ge _ _))) ?_
            refine WL.r rfl rfl rfl (rd_pickf rfl rfl rfl) ?_
            refine WL.nil ?_
            refine WX.joinP (()) (sub_cons rfl (sub_cons rfl (sub_nil _))) (by refine (sub_cons ?_ (sub_nil _)) <;> ((refine slot_b rfl ?_; (try dsimp only); (simp [*]; done)))) ?_ (by (exact fun _ h => h))
            (try dsimp only)
            done
  · rintro _ hmeet; (try dsimp only at hmeet ⊢)
    refine WC.cond rfl (fun hc30 => ?_) (fun hc30 => ?_)
    · (try simp only [sB] at hc30)
      have hr : ¬ hasP g x := fun h => hc30 ⟨⟨h.1, h.2.1⟩, h.2.2.1, h.2.2.2.1, h.2.2.2.2.1, h.2.2.2.2.2.1⟩
      refine WC.sr ?_
      refine WL.r rfl rfl rfl (rd_assign rfl rfl) ?_
      refine WL.nt ?_
      refine WC.ret ?_
      refine WX.then_ret ?_
      exact WX.retN rfl (.tmp rfl .nil) fun w' hS => ⟨by (simp [*, tup]; done), hS.below⟩
    · (try simp only [sB] at hc30)
      have hok : (okN g.1 ∧ okN g.2) ∧ okN x ∧ g.2 ≠ [] ∧ x ≠ [] ∧ val x < val g.1 := Decidable.not_not.1 hc30
      obtain ⟨⟨hm, hq⟩, hx, hq0, hx0, hlt⟩ := hok
      have hm0 : g.1 ≠ [] := fun h => by rw [h] at hlt; exact absurd hlt (Nat.not_lt_zero _)
      have he1 := mexp_ok hx hq hm hm0
      have hr : hasP g x ↔ val x ^ val g.2 % val g.1 = 1 := ⟨fun h => h.2.2.2.2.2.2, fun h => ⟨hm, hq, hx, hq0, hx0, hlt, h⟩⟩
      refine WC.skip ?_
      refine WX.then_normal ?_
      refine WC.sr ?_
      refine WL.r rfl rfl rfl (rd_move rfl rfl) ?_
      (refine WL.r rfl rfl rfl (rd_fa (q := 1) rfl rfl Tryz.underlying26 rfl (by kernel_rfl) rfl) ?_)
      (refine WL.r rfl rfl rfl (ld rfl rfl .tc Tryz.underlying22 rfl (by rfl)) ?_)
      (refine WL.r rfl rfl rfl (rd_fa (q := 0) rfl rfl Tryz.underlying26 rfl (by kernel_rfl) rfl) ?_)
      (refine WL.r rfl rfl rfl (ld rfl rfl .tc Tryz.underlying22 rfl (by rfl)) ?_)
      refine WL.g rfl rfl rfl (og_call rfl rfl (by kernel_rfl) (keep_val fun w hS => (by have := rmexp_c (w := w) (a := x) (x := g.2) (m := g.1) hm8; rw [he1] at this; exact this))) ?_
      intro _
      refine WL.r rfl rfl rfl (rd_move rfl rfl) ?_
      refine WL.r rfl rfl rfl (rd_extL rfl rfl rfl) ?_
      refine WL.r rfl rfl rfl (rd_extL rfl rfl rfl) ?_
      refine WL.r rfl rfl rfl (rd_assign rfl rfl) ?_
      refine WL.r rfl rfl rfl (rd_assign rfl rfl) ?_
      refine WL.nt ?_
      refine WC.sr ?_
      refine WL.r rfl rfl rfl (rd_move rfl rfl) ?_
      refine WL.r rfl rfl rfl (rd_seq rfl rfl rfl) ?_
      refine WL.set 41 rfl (v' := .bool (decide (hasP g x))) (congrArg Value.bool (by simp [hr, canon_one])) ?_
      refine WL.r rfl rfl rfl (rd_assign rfl rfl) ?_
      refine WL.nt ?_
      refine WC.ret ?_
      exact WX.retN rfl (.tmp rfl .nil) fun w' hS => ⟨by rfl, hS.below⟩
end Go.Proofs.YtbcnnkcddilfjaaGreat
