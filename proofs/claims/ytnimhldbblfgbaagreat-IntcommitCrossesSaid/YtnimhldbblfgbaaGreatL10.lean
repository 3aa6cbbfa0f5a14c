/-
  Parts of the walk: Grp1 Int4 Mo4 Pw1.
-/
import Derived.Test.YtnimhldbblfgbaaGreatL9
namespace Go.Proofs.YtnimhldbblfgbaaGreat
set_option linter.unusedSimpArgs false
set_option linter.unusedVariables false
set_option maxRecDepth 20000
set_option maxHeartbeats 600000
open Go.RowKit
/-- a group: its modulus and its order -/
abbrev Gp := Bs × Bs
abbrev gV (g : Gp) : Value := .agg #[.string (S g.1), .string (S g.2)]
def chkG (g : Gp) : Int :=
 if okN g.1 ∧ okN g.2 then
  (if g.2 = [] then (if val g.1 % 2 = 1 ∧ 8 < val g.1 then 0 else 13)
   else if val g.1 ≤ 1 ∨ val g.2 < 2 ∨ (val g.1 - 1) % val g.2 ≠ 0 then 13 else 0)
 else 3
theorem cmpI_le (a b : Nat) : cmpI a b ≤ 0 ↔ a ≤ b := by
 have h := cmpI_neg b a
 unfold cmpI at *
 constructor
 ·intro h1; split at h1 <;> (try split at h1) <;> omega
 ·intro h1; split <;> (try split) <;> omega
theorem cmpI_ge (a b : Nat) : 0 ≤ cmpI a b ↔ b ≤ a := by
 have h := cmpI_neg a b; omega
theorem odd_bit {a : Bs} (h : okN a) : bitA a 0 = decide (val a % 2 = 1) := by
 have := bitA_nat (i := 0) h
 rw [show ((0 : Nat) : Int) = 0 from rfl] at this
 rw [this, bitN, Nat.pow_zero, Nat.div_one]
theorem pcheck_c {g : Gp} {w : World} :
  Calls Tryz.prog 86 #[gV g] w fun e w' => e = .returned (.int .i64 (chkG g)) ∧ Below w.heap.size w w' := by
 have hB8 : 8 < Big := Nat.lt_of_lt_of_le (by decide) big64
 refine enter (S := St (fun _ => True) w [] ([])) (L := [(0, gV g)]) Tryz.func86 rfl Tryz.ntmps86 rfl (args_cons rfl (args_nil _)) (St.start (fun _ _ => trivial) facts_nil) ?_
 refine WC.sr ?_
 refine Kh rfl (og_box rfl rfl (by (exact cells_agg _))) ?_
 intro b1
 refine Ka rfl (WL.nt (WC.seq ?_))
 refine WC.joinP (σ := Unit) [(1, _)] (fun gq => [(17, .bool (decide (¬ (okN g.1 ∧ okN g.2))))]) (fun gq => True) (sub_cons rfl (sub_nil _)) ?_ ?_
 ·skip
  refine WC.region ?_
  refine Kq rfl (rd_fa (q := 0) rfl rfl Tryz.underlying24 rfl (by kernel_rfl) rfl) ?_
  refine Kq rfl (ld rfl rfl .tc Tryz.underlying22 rfl (by rfl)) ?_
  refine Kh rfl (og_call rfl rfl (by kernel_rfl) (keep_val fun w hS => valid_c (a := g.1))) ?_
  intro _
  refine Kq rfl (rd_not rfl rfl) (Km rfl ?_)
  refine WL.bool 12 rfl (fun hg12 => ?_) (fun hg12 => ?_)
  ·(try simp only [sB] at hg12)
   refine Kt rfl (Kt rfl (Kt rfl (Kt rfl (Kq rfl (rd_pickt rfl rfl rfl) (WL.nil ?_)))))
   refine WX.joinP (()) (sub_cons rfl (sub_nil _)) (by refine (sub_cons ?_ (sub_nil _)) <;> ((refine slot_b rfl ?_; (try dsimp only); (simp [*]; done)))) ?_ (by (exact fun _ h => h))
   (try dsimp only)
   done
  ·(try simp only [sB] at hg12)
   refine Kq rfl (rd_fa (q := 1) rfl rfl Tryz.underlying24 rfl (by kernel_rfl) rfl) ?_
   refine Kq rfl (ld rfl rfl .tc Tryz.underlying22 rfl (by rfl)) ?_
   refine Kh rfl (og_call rfl rfl (by kernel_rfl) (keep_val fun w hS => valid_c (a := g.2))) ?_
   intro _
   refine Kq rfl (rd_not rfl rfl) (Kq rfl (rd_pickf rfl rfl rfl) (WL.nil ?_))
   refine WX.joinP (()) (sub_cons rfl (sub_nil _)) (by refine (sub_cons ?_ (sub_nil _)) <;> ((refine slot_b rfl ?_; (try dsimp only); (simp [*]; done)))) ?_ (by (exact fun _ h => h))
   (try dsimp only)
   done
 ·rintro _ hmeet; (try dsimp only at hmeet ⊢)
  refine WC.cond rfl (fun hc17 => ?_) (fun hc17 => ?_)
  ·(try simp only [sB] at hc17)
   have hr : chkG g = 3 := by rw [chkG, if_neg hc17]
   refine WC.sr (Ka rfl (WL.nt (WC.ret (WX.then_ret ?_))))
   exact WX.retN rfl (.tmp rfl .nil) fun w' hS => ⟨by rw [hr]; rfl, hS.below⟩
  ·(try simp only [sB] at hc17)
   have hok : okN g.1 ∧ okN g.2 := by simpa using hc17
   have hb1 := okN_val hok.1; have hb2 := okN_val hok.2
   have hv2 : val g.2 = 0 ↔ g.2 = [] := val_eq_zero hok.2.2
   refine WC.skip (WX.then_normal (WC.seq (WC.sr ?_)))
   refine Kq rfl (rd_fa (q := 1) rfl rfl Tryz.underlying24 rfl (by kernel_rfl) rfl) ?_
   refine Kq rfl (ld rfl rfl .tc Tryz.underlying22 rfl (by rfl)) ?_
   refine Kq rfl (rd_seq rfl rfl rfl) (WL.nt ?_)
   refine WC.cond rfl (fun hc20 => ?_) (fun hc20 => ?_)
   ·(try simp only [sB] at hc20)
    have hq : g.2 = [] := by simpa using hc20
    refine WC.seq ?_
    refine WC.joinP (σ := Unit) [] (fun gq => [(31, .bool (decide (¬ (val g.1 % 2 = 1 ∧ 8 < val g.1))))]) (fun gq => True) (sub_nil _) ?_ ?_
    ·skip
     refine WC.free0 [0, 1, 2, 3, 4, 7, 5, 6, 8, 9, 10] [] [0, 0, 1, 0, 0, 0, 0, 1, 1, 0, 0] (by kernel_rfl) (by kernel_rfl) rfl ?_
     refine Kj rfl (rd_fa (q := 0) rfl rfl Tryz.underlying24 rfl (by kernel_rfl) rfl) ?_
     refine Kj rfl (ld rfl rfl .tc Tryz.underlying22 rfl (by rfl)) ?_
     refine WJ.gv rfl rfl rfl rfl rfl (fun ext => og_call rfl rfl (by kernel_rfl) (keep_val fun w hS => bitn_c (a := g.1) (i := 0) (by omega))) ?_
     refine WJ.set 23 rfl (v' := .bool (decide (val g.1 % 2 = 1))) (congrArg Value.bool (by exact odd_bit hok.1)) ?_
     refine Kj rfl (rd_not rfl rfl) ?_
     refine Kj rfl (rd_move rfl rfl) ?_
     refine WJ.bool 25 rfl (fun hg25 => ?_) (fun hg25 => ?_)
     ·(try simp only [sB] at hg25)
      refine WJ.s rfl rfl rfl rfl ?_
      refine WJ.s rfl rfl rfl rfl ?_
      refine WJ.s rfl rfl rfl rfl ?_
      refine WJ.s rfl rfl rfl rfl ?_
      refine WJ.s rfl rfl rfl rfl ?_
      refine Kj rfl (rd_pickt rfl rfl rfl) ?_
      refine WJ.nil ?_
      refine WL.nil ?_
      refine WX.joinP (()) (sub_nil _) (by refine (sub_cons ?_ (sub_nil _)) <;> ((refine slot_b rfl ?_; (try dsimp only); (simp [*]; done)))) ?_ (by (exact fun _ h => h))
      (try dsimp only)
      done
     ·(try simp only [sB] at hg25)
      refine WJ.gv rfl rfl rfl rfl rfl (fun ext => og_call rfl rfl (by kernel_rfl) (keep_val fun w hS => of_c (n := 8) (by omega))) ?_
      refine Kj rfl (rd_fa (q := 0) rfl rfl Tryz.underlying24 rfl (by kernel_rfl) rfl) ?_
      refine Kj rfl (ld rfl rfl .tc Tryz.underlying22 rfl (by rfl)) ?_
      refine WJ.gv rfl rfl rfl rfl rfl (fun ext => og_call rfl rfl (by kernel_rfl) (keep_val fun w hS => Cmp_c (a := g.1) (b := canon 8))) ?_
      refine Kj rfl (rd_leq rfl rfl rfl) ?_
      refine WJ.set 30 rfl (v' := .bool (decide (val g.1 ≤ 8))) (congrArg Value.bool (by rw [cmpN_ok hok.1 (okN_can hB8), val_canon]; exact decide_eq_decide.2 (cmpI_le _ _))) ?_
      refine Kj rfl (rd_pickf rfl rfl rfl) ?_
      refine WJ.nil ?_
      refine WL.nil ?_
      refine WX.joinP (()) (sub_nil _) (by refine (sub_cons ?_ (sub_nil _)) <;> ((refine slot_b rfl ?_; (try dsimp only); (exact decide_eq_decide.2 (by omega))))) ?_ (by (exact fun _ h => h))
      (try dsimp only)
      done
    ·rintro _ hmeet; (try dsimp only at hmeet ⊢)
     refine WC.cond rfl (fun hc31 => ?_) (fun hc31 => ?_)
     ·(try simp only [sB] at hc31)
      have hr : chkG g = 13 := by rw [chkG, if_pos hok, if_pos hq, if_neg hc31]
      refine WC.sr (Ka rfl (WL.nt (WC.ret (WX.then_ret (WX.then_ret ?_)))))
      exact WX.retN rfl (.tmp rfl .nil) fun w' hS => ⟨by rw [hr]; rfl, hS.below⟩
     ·(try simp only [sB] at hc31)
      have hr : chkG g = 0 := by rw [chkG, if_pos hok, if_pos hq, if_pos (by simpa using hc31)]
      refine WC.skip (WX.then_normal (WC.sr (Ka rfl (WL.nt (WC.ret (WX.then_ret ?_))))))
      exact WX.retN rfl (.tmp rfl .nil) fun w' hS => ⟨by rw [hr]; rfl, hS.below⟩
   ·(try simp only [sB] at hc20)
    have hq : g.2 ≠ [] := by simpa using hc20
    have hsb : subN g.1 (canon 1) = if val g.1 < 1 then ([], 2) else (canon (val g.1 - 1), 0) := by rw [subN, if_pos ⟨hok.1, okN_can (by omega)⟩, val_canon]
    have hqp : 0 < val g.2 := by rcases Nat.eq_zero_or_pos (val g.2) with h | h; exact absurd (hv2.1 h) hq; exact h
    refine WC.skip (WX.then_normal (WC.seq ?_))
    refine WC.free0 [2, 0, 1, 3, 4, 5, 6, 7, 8] [] [0, 0, 1, 1, 0, 0, 0, 0, 0] (by kernel_rfl) (by kernel_rfl) rfl ?_
    refine WJ.gv rfl rfl rfl rfl rfl (fun ext => og_call rfl rfl (by kernel_rfl) (keep_val fun w hS => of_c (n := 1) (by omega))) ?_
    refine Kj rfl (rd_fa (q := 0) rfl rfl Tryz.underlying24 rfl (by kernel_rfl) rfl) ?_
    refine Kj rfl (ld rfl rfl .tc Tryz.underlying22 rfl (by rfl)) ?_
    refine WJ.gv rfl rfl rfl rfl rfl (fun ext => og_call rfl rfl (by kernel_rfl) (keep_val fun w hS => sub_c (a := g.1) (b := canon 1))) ?_
    refine Kj rfl (rd_move rfl rfl) ?_
    refine Kj rfl (rd_extL rfl rfl rfl) ?_
    refine Kj rfl (rd_extL rfl rfl rfl) ?_
    refine Kj rfl (rd_assign rfl rfl) ?_
    refine Kj rfl (rd_assign rfl rfl) ?_
    refine WJ.nil ?_
    refine WL.nt (WC.seq ?_)
    refine WC.joinP (σ := Unit) [(1, _), (3, _)] (fun gq => [(51, .bool (decide (val g.1 ≤ 1 ∨ val g.2 < 2)))]) (fun gq => True) (sub_cons rfl (sub_cons rfl (sub_nil _))) ?_ ?_
    ·skip
     refine WC.free0 [0, 1, 2, 3, 4, 5, 6, 9, 7, 8, 10, 11, 12] [] [0, 0, 0, 0, 0, 0, 0, 0, 0, 1, 1, 0, 0] (by kernel_rfl) (by kernel_rfl) rfl ?_
     refine Kj rfl (rd_move rfl rfl) ?_
     refine Kj rfl (rd_neq rfl rfl rfl) ?_
     refine WJ.set 40 rfl (v' := .bool (decide (val g.1 < 1))) (congrArg Value.bool (by rw [hsb]; split <;> simp <;> omega)) ?_
     refine Kj rfl (rd_move rfl rfl) ?_
     refine WJ.bool 41 rfl (fun hg41 => ?_) (fun hg41 => ?_)
     ·(try simp only [sB] at hg41)
      refine WJ.s rfl rfl rfl rfl ?_
      refine WJ.s rfl rfl rfl rfl ?_
      refine Kj rfl (rd_pickt rfl rfl rfl) ?_
      refine Kj rfl (rd_move rfl rfl) ?_
      refine WJ.s rfl rfl rfl rfl ?_
      refine WJ.s rfl rfl rfl rfl ?_
      refine WJ.s rfl rfl rfl rfl ?_
      refine WJ.s rfl rfl rfl rfl ?_
      refine WJ.s rfl rfl rfl rfl ?_
      refine Kj rfl (rd_pickt rfl rfl rfl) ?_
      refine WJ.nil ?_
      refine WL.nil ?_
      refine WX.joinP (()) (sub_cons rfl (sub_cons rfl (sub_nil _))) (by refine (sub_cons ?_ (sub_nil _)) <;> ((exact congrArg (fun b => some (Value.bool b)) (by symm; apply decide_eq_true; omega)))) ?_ (by (exact fun _ h => h))
      (try dsimp only)
      done
     ·(try simp only [sB] at hg41)
      refine Kj rfl (rd_move rfl rfl) ?_
      refine Kj rfl (rd_seq rfl rfl rfl) ?_
      refine WJ.set 43 rfl (v' := .bool (decide (val g.1 ≤ 1))) (congrArg Value.bool (by rw [hsb]; split <;> simp [canon_nil] <;> omega)) ?_
      refine Kj rfl (rd_pickf rfl rfl rfl) ?_
      refine Kj rfl (rd_move rfl rfl) ?_
      refine WJ.bool 45 rfl (fun hg45 => ?_) (fun hg45 => ?_)
      ·(try simp only [sB] at hg45)
       refine WJ.s rfl rfl rfl rfl ?_
       refine WJ.s rfl rfl rfl rfl ?_
       refine WJ.s rfl rfl rfl rfl ?_
       refine WJ.s rfl rfl rfl rfl ?_
       refine WJ.s rfl rfl rfl rfl ?_
       refine Kj rfl (rd_pickt rfl rfl rfl) ?_
       refine WJ.nil ?_
       refine WL.nil ?_
       refine WX.joinP (()) (sub_cons rfl (sub_cons rfl (sub_nil _))) (by refine (sub_cons ?_ (sub_nil _)) <;> ((refine slot_b rfl ?_; (try dsimp only); (simp [*]; done)))) ?_ (by (exact fun _ h => h))
       (try dsimp only)
       done
      ·(try simp only [sB] at hg45)
       refine WJ.gv rfl rfl rfl rfl rfl (fun ext => og_call rfl rfl (by kernel_rfl) (keep_val fun w hS => of_c (n := 2) (by omega))) ?_
       refine Kj rfl (rd_fa (q := 1) rfl rfl Tryz.underlying24 rfl (by kernel_rfl) rfl) ?_
       refine Kj rfl (ld rfl rfl .tc Tryz.underlying22 rfl (by rfl)) ?_
       refine WJ.gv rfl rfl rfl rfl rfl (fun ext => og_call rfl rfl (by kernel_rfl) (keep_val fun w hS => Cmp_c (a := g.2) (b := canon 2))) ?_
       refine Kj rfl (rd_lss rfl rfl rfl) ?_
       refine WJ.set 50 rfl (v' := .bool (decide (val g.2 < 2))) (congrArg Value.bool (by rw [cmpN_ok hok.2 (okN_can (by omega)), val_canon]; exact decide_eq_decide.2 (cmpI_neg _ _))) ?_
       refine Kj rfl (rd_pickf rfl rfl rfl) ?_
       refine WJ.nil ?_
       refine WL.nil ?_
       refine WX.joinP (()) (sub_cons rfl (sub_cons rfl (sub_nil _))) (by refine (sub_cons ?_ (sub_nil _)) <;> ((refine slot_b rfl ?_; (try dsimp only); (exact decide_eq_decide.2 (by omega))))) ?_ (by (exact fun _ h => h))
       (try dsimp only)
       done
    ·rintro _ hmeet; (try dsimp only at hmeet ⊢)
     refine WC.cond rfl (fun hc51 => ?_) (fun hc51 => ?_)
     ·(try simp only [sB] at hc51)
      have hr : chkG g = 13 := by rw [chkG, if_pos hok, if_neg hq, if_pos (by omega)]
      refine WC.sr (Ka rfl (WL.nt (WC.ret (WX.then_ret ?_))))
      exact WX.retN rfl (.tmp rfl .nil) fun w' hS => ⟨by rw [hr]; rfl, hS.below⟩
     ·(try simp only [sB] at hc51)
      have hs1 : (subN g.1 (canon 1)).1 = canon (val g.1 - 1) := by rw [hsb, if_neg (by omega)]
      have hdv : divN (canon (val g.1 - 1)) g.2 = ((canon ((val g.1 - 1) / val g.2), canon ((val g.1 - 1) % val g.2)), 0) := by rw [divN_ok (okN_can (by omega)) hok.2 hq, val_canon]
      rw [hs1]
      refine WC.skip (WX.then_normal (WC.seq (WC.sr (Km rfl ?_))))
      refine Kq rfl (rd_fa (q := 1) rfl rfl Tryz.underlying24 rfl (by kernel_rfl) rfl) ?_
      refine Kq rfl (ld rfl rfl .tc Tryz.underlying22 rfl (by rfl)) ?_
      refine Kh rfl (og_call rfl rfl (by kernel_rfl) (keep_val fun w hS => (by have := divmod_c (w := w) (a := canon (val g.1 - 1)) (b := g.2); rw [hdv] at this; exact this))) ?_
      intro _
      refine Km rfl (Kq rfl (rd_extL rfl rfl rfl) (Kq rfl (rd_extL rfl rfl rfl) (Kq rfl (rd_extL rfl rfl rfl) (Ka rfl (Ka rfl (Ka rfl (WL.nt (WC.sr (Km rfl (Kq rfl (rd_neq rfl rfl rfl) ?_))))))))))
      refine WL.set 61 rfl (v' := .bool false) (by rfl) ?_
      refine Km rfl (Km rfl (Kq rfl (rd_sne rfl rfl rfl) ?_))
      refine WL.set 64 rfl (v' := .bool (decide ((val g.1 - 1) % val g.2 ≠ 0))) (congrArg Value.bool (by simp [canon_nil])) ?_
      refine Kq rfl (rd_pickf rfl rfl rfl) (WL.nt ?_)
      refine WC.cond rfl (fun hc65 => ?_) (fun hc65 => ?_)
      ·(try simp only [sB] at hc65)
       have hr : chkG g = 13 := by rw [chkG, if_pos hok, if_neg hq, if_pos (Or.inr (Or.inr hc65))]
       refine WC.sr (Ka rfl (WL.nt (WC.ret (WX.then_ret ?_))))
       exact WX.retN rfl (.tmp rfl .nil) fun w' hS => ⟨by rw [hr]; rfl, hS.below⟩
      ·(try simp only [sB] at hc65)
       have hr : chkG g = 0 := by rw [chkG, if_pos hok, if_neg hq, if_neg (fun h => by rcases h with h | h | h; omega; omega; exact hc65 h)]
       refine WC.skip (WX.then_normal (WC.sr (Ka rfl (WL.nt (WC.ret ?_)))))
       exact WX.retN rfl (.tmp rfl .nil) fun w' hS => ⟨by rw [hr]; rfl, hS.below⟩
theorem pform_c {g : Gp} {w : World} :
  Calls Tryz.prog 171 #[gV g] w fun e w' => e = .returned (.bool (decide (okN g.1 ∧ okN g.2))) ∧ Below w.heap.size w w' := by
 refine enter (S := St (fun _ => True) w [] ([])) (L := [(0, gV g)]) Tryz.func171 rfl Tryz.ntmps171 rfl (args_cons rfl (args_nil _)) (St.start (fun _ _ => trivial) facts_nil) ?_
 refine WC.sr ?_
 refine Kh rfl (og_box rfl rfl (by (exact cells_agg _))) ?_
 intro b1
 refine Ka rfl (WL.nt (WC.sr ?_))
 refine Kq rfl (rd_fa (q := 0) rfl rfl Tryz.underlying24 rfl (by kernel_rfl) rfl) ?_
 refine Kq rfl (ld rfl rfl .tc Tryz.underlying22 rfl (by rfl)) ?_
 refine Kh rfl (og_call rfl rfl (by kernel_rfl) (keep_val fun w hS => valid_c (a := g.1))) ?_
 intro _
 refine Km rfl ?_
 refine WL.bool 6 rfl (fun hg6 => ?_) (fun hg6 => ?_)
 ·(try simp only [sB] at hg6)
  refine Kq rfl (rd_fa (q := 1) rfl rfl Tryz.underlying24 rfl (by kernel_rfl) rfl) ?_
  refine Kq rfl (ld rfl rfl .tc Tryz.underlying22 rfl (by rfl)) ?_
  refine Kh rfl (og_call rfl rfl (by kernel_rfl) (keep_val fun w hS => valid_c (a := g.2))) ?_
  intro _
  refine Kq rfl (rd_pickt rfl rfl rfl) (Ka rfl (WL.nt (WC.ret ?_)))
  exact WX.retN rfl (.tmp rfl .nil) fun w' hS => ⟨by (simp [*, tup]; done), hS.below⟩
 ·(try simp only [sB] at hg6)
  refine Kt rfl (Kt rfl (Kt rfl (Kq rfl (rd_pickf rfl rfl rfl) (Ka rfl (WL.nt (WC.ret ?_))))))
  exact WX.retN rfl (.tmp rfl .nil) fun w' hS => ⟨by (simp [*, tup]; done), hS.below⟩
def hasP (g : Gp) (x : Bs) : Prop := okN g.1 ∧ okN g.2 ∧ okN x ∧ g.2 ≠ [] ∧ x ≠ [] ∧ val x < val g.1 ∧ val x ^ val g.2 % val g.1 = 1
instance (g : Gp) (x : Bs) : Decidable (hasP g x) := inferInstanceAs (Decidable (_ ∧ _))
theorem mexp_ok {a x m : Bs} (ha : okN a) (hx : okN x) (hm : okN m) (hm0 : m ≠ []) : mexpM a x m = (canon (val a ^ val x % val m), 0) := by
 rw [mexpM, if_pos (chk_zero (by intro y hy; simp at hy; rcases hy with rfl | rfl | rfl <;> assumption) (by simpa using fun h => hm0 h))]
theorem okN_nil : okN [] := ⟨by decide, by decide⟩
theorem pos_of_ne {x : Bs} (h : okN x) (h0 : x ≠ []) : 0 < val x := vpos h h0
theorem phas_c {g : Gp} {x : Bs} {w : World} (hm8 : g.1.length ≤ 8) :
  Calls Tryz.prog 145 #[gV g, .string (S x)] w fun e w' => e = .returned (.bool (decide (hasP g x))) ∧ Below w.heap.size w w' := by
 refine enter (S := St (fun _ => True) w [] ([])) (L := [(0, gV g), (1, .string (S x))]) Tryz.func145 rfl Tryz.ntmps145 rfl (args_cons rfl (args_cons rfl (args_nil _))) (St.start (fun _ _ => trivial) facts_nil) ?_
 refine WC.sr ?_
 refine Kh rfl (og_box rfl rfl (by (exact cells_agg _))) ?_
 intro b2
 refine Ka rfl (WL.nt (WC.seq ?_))
 refine WC.joinP (σ := Unit) [(1, _), (2, _)] (fun gq => [(32, .bool (decide (¬ ((okN g.1 ∧ okN g.2) ∧ okN x ∧ g.2 ≠ [] ∧ x ≠ [] ∧ val x < val g.1))))]) (fun gq => True) (sub_cons rfl (sub_cons rfl (sub_nil _))) ?_ ?_
 ·skip
  refine WC.region ?_
  refine Kq rfl (lda rfl rfl .tc Tryz.underlying24 rfl ?_) ?_
  ·kernel_rfl
  refine Kh rfl (og_call rfl rfl (by kernel_rfl) (keep_val fun w hS => pform_c (g := g))) ?_
  intro _
  refine Kq rfl (rd_not rfl rfl) (Km rfl ?_)
  refine WL.bool 12 rfl (fun hg12 => ?_) (fun hg12 => ?_)
  ·(try simp only [sB] at hg12)
   refine Kt rfl (Kt rfl (Kt rfl (Kq rfl (rd_pickt rfl rfl rfl) (Km rfl (Kt rfl (Kt rfl (Kt rfl (Kq rfl (rd_pickt rfl rfl rfl) (Km rfl (Kt rfl (Kt rfl ?_)))))))))))
   refine Kq rfl (rd_pickt rfl rfl rfl) (Km rfl (Kt rfl (Kt rfl (Kt rfl (Kt rfl (Kt rfl (Kq rfl (rd_pickt rfl rfl rfl) (WL.nil ?_))))))))
   refine WX.joinP (()) (sub_cons rfl (sub_cons rfl (sub_nil _))) (by refine (sub_cons ?_ (sub_nil _)) <;> ((refine slot_b rfl ?_; (try dsimp only); (simp [*]; done)))) ?_ (by (exact fun _ h => h))
   (try dsimp only)
   done
  ·(try simp only [sB] at hg12)
   refine Km rfl ?_
   refine Kh rfl (og_call rfl rfl (by kernel_rfl) (keep_val fun w hS => valid_c (a := x))) ?_
   intro _
   refine Kq rfl (rd_not rfl rfl) (Kq rfl (rd_pickf rfl rfl rfl) (Km rfl ?_))
   refine WL.bool 17 rfl (fun hg17 => ?_) (fun hg17 => ?_)
   ·(try simp only [sB] at hg17)
    refine Kt rfl (Kt rfl (Kt rfl (Kq rfl (rd_pickt rfl rfl rfl) (Km rfl (Kt rfl (Kt rfl (Kq rfl (rd_pickt rfl rfl rfl) (Km rfl (Kt rfl (Kt rfl (Kt rfl ?_)))))))))))
    refine Kt rfl (Kt rfl (Kq rfl (rd_pickt rfl rfl rfl) (WL.nil ?_)))
    refine WX.joinP (()) (sub_cons rfl (sub_cons rfl (sub_nil _))) (by refine (sub_cons ?_ (sub_nil _)) <;> ((refine slot_b rfl ?_; (try dsimp only); (simp [*]; done)))) ?_ (by (exact fun _ h => h))
    (try dsimp only)
    done
   ·(try simp only [sB] at hg17)
    refine Kq rfl (rd_fa (q := 1) rfl rfl Tryz.underlying24 rfl (by kernel_rfl) rfl) ?_
    refine Kq rfl (ld rfl rfl .tc Tryz.underlying22 rfl (by rfl)) ?_
    refine Kq rfl (rd_seq rfl rfl rfl) (Kq rfl (rd_pickf rfl rfl rfl) (Km rfl ?_))
    refine WL.bool 22 rfl (fun hg22 => ?_) (fun hg22 => ?_)
    ·(try simp only [sB] at hg22)
     refine Kt rfl (Kt rfl (Kq rfl (rd_pickt rfl rfl rfl) (Km rfl (Kt rfl (Kt rfl (Kt rfl (Kt rfl (Kt rfl (Kq rfl (rd_pickt rfl rfl rfl) (WL.nil ?_))))))))))
     refine WX.joinP (()) (sub_cons rfl (sub_cons rfl (sub_nil _))) (by refine (sub_cons ?_ (sub_nil _)) <;> ((refine slot_b rfl ?_; (try dsimp only); (simp [*]; done)))) ?_ (by (exact fun _ h => h))
     (try dsimp only)
     done
    ·(try simp only [sB] at hg22)
     refine Km rfl (Kq rfl (rd_seq rfl rfl rfl) (Kq rfl (rd_pickf rfl rfl rfl) (Km rfl ?_)))
     refine WL.bool 26 rfl (fun hg26 => ?_) (fun hg26 => ?_)
     ·(try simp only [sB] at hg26)
      refine Kt rfl (Kt rfl (Kt rfl (Kt rfl (Kt rfl (Kq rfl (rd_pickt rfl rfl rfl) (WL.nil ?_))))))
      refine WX.joinP (()) (sub_cons rfl (sub_cons rfl (sub_nil _))) (by refine (sub_cons ?_ (sub_nil _)) <;> ((refine slot_b rfl ?_; (try dsimp only); (simp [*]; done)))) ?_ (by (exact fun _ h => h))
      (try dsimp only)
      done
     ·(try simp only [sB] at hg26)
      refine Km rfl ?_
      refine Kq rfl (rd_fa (q := 0) rfl rfl Tryz.underlying24 rfl (by kernel_rfl) rfl) ?_
      refine Kq rfl (ld rfl rfl .tc Tryz.underlying22 rfl (by rfl)) ?_
      refine Kh rfl (og_call rfl rfl (by kernel_rfl) (keep_val fun w hS => Cmp_c (a := x) (b := g.1))) ?_
      intro _
      refine Kq rfl (rd_geq rfl rfl rfl) ?_
      refine WL.set 31 rfl (v' := .bool (decide (val g.1 ≤ val x))) (congrArg Value.bool (by rw [cmpN_ok hg17 hg12.1]; exact decide_eq_decide.2 (cmpI_ge _ _))) ?_
      refine Kq rfl (rd_pickf rfl rfl rfl) (WL.nil ?_)
      refine WX.joinP (()) (sub_cons rfl (sub_cons rfl (sub_nil _))) (by refine (sub_cons ?_ (sub_nil _)) <;> ((refine slot_b rfl ?_; (try dsimp only); (simp [*]; done)))) ?_ (by (exact fun _ h => h))
      (try dsimp only)
      done
 ·rintro _ hmeet; (try dsimp only at hmeet ⊢)
  refine WC.cond rfl (fun hc32 => ?_) (fun hc32 => ?_)
  ·(try simp only [sB] at hc32)
   have hr : ¬ hasP g x := fun h => hc32 ⟨⟨h.1, h.2.1⟩, h.2.2.1, h.2.2.2.1, h.2.2.2.2.1, h.2.2.2.2.2.1⟩
   refine WC.sr (Ka rfl (WL.nt (WC.ret (WX.then_ret ?_))))
   exact WX.retN rfl (.tmp rfl .nil) fun w' hS => ⟨by (simp [*, tup]; done), hS.below⟩
  ·(try simp only [sB] at hc32)
   have hok : (okN g.1 ∧ okN g.2) ∧ okN x ∧ g.2 ≠ [] ∧ x ≠ [] ∧ val x < val g.1 := Decidable.not_not.1 hc32
   obtain ⟨⟨hm, hq⟩, hx, hq0, hx0, hlt⟩ := hok
   have hxp := pos_of_ne hx hx0
   have hm0 : g.1 ≠ [] := fun h => by rw [h] at hlt; exact absurd hlt (Nat.not_lt_zero _)
   have he1 := mexp_ok hx hq hm hm0
   have he2 := mexp_ok hx okN_nil hm hm0
   have h1m : val x ^ val [] % val g.1 = 1 := by rw [show val [] = 0 from rfl, Nat.pow_zero, Nat.mod_eq_of_lt (by omega)]
   have hr : hasP g x ↔ val x ^ val g.2 % val g.1 = 1 := ⟨fun h => h.2.2.2.2.2.2, fun h => ⟨hm, hq, hx, hq0, hx0, hlt, h⟩⟩
   refine WC.skip (WX.then_normal (WC.sr (Km rfl ?_)))
   refine Kq rfl (rd_fa (q := 1) rfl rfl Tryz.underlying24 rfl (by kernel_rfl) rfl) ?_
   refine Kq rfl (ld rfl rfl .tc Tryz.underlying22 rfl (by rfl)) ?_
   refine Kq rfl (rd_fa (q := 0) rfl rfl Tryz.underlying24 rfl (by kernel_rfl) rfl) ?_
   refine Kq rfl (ld rfl rfl .tc Tryz.underlying22 rfl (by rfl)) ?_
   refine Kh rfl (og_call rfl rfl (by kernel_rfl) (keep_val fun w hS => (by have := mexp_c (w := w) (a := x) (x := g.2) (m := g.1) hm8; rw [he1] at this; exact this))) ?_
   intro _
   refine Km rfl (Kq rfl (rd_extL rfl rfl rfl) (Kq rfl (rd_extL rfl rfl rfl) (Ka rfl (Ka rfl (WL.nt (WC.sr (Km rfl ?_)))))))
   refine Kq rfl (rd_fa (q := 0) rfl rfl Tryz.underlying24 rfl (by kernel_rfl) rfl) ?_
   refine Kq rfl (ld rfl rfl .tc Tryz.underlying22 rfl (by rfl)) ?_
   refine Kh rfl (og_call rfl rfl (by kernel_rfl) (keep_val fun w hS => (by have := mexp_c (w := w) (a := x) (x := []) (m := g.1) hm8; rw [he2, h1m] at this; exact this))) ?_
   intro _
   refine Km rfl (Kq rfl (rd_extL rfl rfl rfl) (Kq rfl (rd_extL rfl rfl rfl) (Ka rfl (Ka rfl (WL.nt (WC.sr (Km rfl (Kq rfl (rd_eql rfl rfl rfl) ?_))))))))
   refine WL.set 50 rfl (v' := .bool true) (by rfl) ?_
   refine Km rfl (Km rfl (Km rfl (Kq rfl (rd_seq rfl rfl rfl) ?_)))
   refine WL.set 54 rfl (v' := .bool (decide (hasP g x))) (congrArg Value.bool (by simp [hr, canon_inj])) ?_
   refine Kq rfl (rd_pickt rfl rfl rfl) (Ka rfl (WL.nt (WC.ret ?_)))
   exact WX.retN rfl (.tmp rfl .nil) fun w' hS => ⟨by rfl, hS.below⟩
def goodR (g : Gp) : Prop := okN g.1 ∧ g.2 = [] ∧ val g.1 % 2 = 1 ∧ 8 < val g.1
instance (g : Gp) : Decidable (goodR g) := inferInstanceAs (Decidable (_ ∧ _))
theorem rgood_c {g : Gp} {w : World} :
  Calls Tryz.prog 173 #[gV g] w fun e w' => e = .returned (.bool (decide (goodR g))) ∧ Below w.heap.size w w' := by
 have hB8 : 8 < Big := Nat.lt_of_lt_of_le (by decide) big64
 refine enter (S := St (fun _ => True) w [] ([])) (L := [(0, gV g)]) Tryz.func173 rfl Tryz.ntmps173 rfl (args_cons rfl (args_nil _)) (St.start (fun _ _ => trivial) facts_nil) ?_
 refine WC.sr ?_
 refine Kh rfl (og_box rfl rfl (by (exact cells_agg _))) ?_
 intro b1
 refine Ka rfl (WL.nt (WC.seq ?_))
 refine WC.free0 [0, 1, 2, 3, 4, 5, 6, 7, 8, 9, 10, 11, 12, 13, 16, 14, 15, 17, 18, 19, 20] [] [0, 0, 1, 0, 0, 0, 0, 0, 0, 0, 0, 1, 0, 0, 0, 0, 1, 1, 0, 0, 0] (by kernel_rfl) (by kernel_rfl) rfl ?_
 refine Kj rfl (rd_fa (q := 0) rfl rfl Tryz.underlying24 rfl (by kernel_rfl) rfl) ?_
 refine Kj rfl (ld rfl rfl .tc Tryz.underlying22 rfl (by rfl)) ?_
 refine WJ.gv rfl rfl rfl rfl rfl (fun ext => og_call rfl rfl (by kernel_rfl) (keep_val fun w hS => valid_c (a := g.1))) ?_
 refine Kj rfl (rd_move rfl rfl) ?_
 refine WJ.bool 6 rfl (fun hg6 => ?_) (fun hg6 => ?_)
 ·(try simp only [sB] at hg6)
  refine Kj rfl (rd_fa (q := 1) rfl rfl Tryz.underlying24 rfl (by kernel_rfl) rfl) ?_
  refine Kj rfl (ld rfl rfl .tc Tryz.underlying22 rfl (by rfl)) ?_
  refine Kj rfl (rd_seq rfl rfl rfl) ?_
  refine Kj rfl (rd_pickt rfl rfl rfl) ?_
  refine Kj rfl (rd_move rfl rfl) ?_
  refine WJ.bool 11 rfl (fun hg11 => ?_) (fun hg11 => ?_)
  ·(try simp only [sB] at hg11)
   refine Kj rfl (rd_fa (q := 0) rfl rfl Tryz.underlying24 rfl (by kernel_rfl) rfl) ?_
   refine Kj rfl (ld rfl rfl .tc Tryz.underlying22 rfl (by rfl)) ?_
   refine WJ.gv rfl rfl rfl rfl rfl (fun ext => og_call rfl rfl (by kernel_rfl) (keep_val fun w hS => bitn_c (a := g.1) (i := 0) (by omega))) ?_
   refine WJ.set 14 rfl (v' := .bool (decide (val g.1 % 2 = 1))) (congrArg Value.bool (by exact odd_bit hg6)) ?_
   refine Kj rfl (rd_pickt rfl rfl rfl) ?_
   refine Kj rfl (rd_move rfl rfl) ?_
   refine WJ.bool 16 rfl (fun hg16 => ?_) (fun hg16 => ?_)
   ·(try simp only [sB] at hg16)
    refine WJ.gv rfl rfl rfl rfl rfl (fun ext => og_call rfl rfl (by kernel_rfl) (keep_val fun w hS => of_c (n := 8) (by omega))) ?_
    refine Kj rfl (rd_fa (q := 0) rfl rfl Tryz.underlying24 rfl (by kernel_rfl) rfl) ?_
    refine Kj rfl (ld rfl rfl .tc Tryz.underlying22 rfl (by rfl)) ?_
    refine WJ.gv rfl rfl rfl rfl rfl (fun ext => og_call rfl rfl (by kernel_rfl) (keep_val fun w hS => Cmp_c (a := g.1) (b := canon 8))) ?_
    refine Kj rfl (rd_gtr rfl rfl rfl) ?_
    refine WJ.set 21 rfl (v' := .bool (decide (8 < val g.1))) (congrArg Value.bool (by rw [cmpN_ok hg6 (okN_can hB8), val_canon]; exact decide_eq_decide.2 (by have := cmpI_le (val g.1) 8; omega))) ?_
    refine Kj rfl (rd_pickt rfl rfl rfl) ?_
    refine Kj rfl (rd_assign rfl rfl) ?_
    refine WJ.nil ?_
    refine WL.nt (WC.ret ?_)
    exact WX.retN rfl (.tmp rfl .nil) fun w' hS => ⟨by (simp [*, tup, goodR]; done), hS.below⟩
   ·(try simp only [sB] at hg16)
    refine WJ.s rfl rfl rfl rfl ?_
    refine WJ.s rfl rfl rfl rfl ?_
    refine WJ.s rfl rfl rfl rfl ?_
    refine WJ.s rfl rfl rfl rfl ?_
    refine WJ.s rfl rfl rfl rfl ?_
    refine Kj rfl (rd_pickf rfl rfl rfl) ?_
    refine Kj rfl (rd_assign rfl rfl) ?_
    refine WJ.nil ?_
    refine WL.nt (WC.ret ?_)
    exact WX.retN rfl (.tmp rfl .nil) fun w' hS => ⟨by (simp [*, tup, goodR]; done), hS.below⟩
  ·(try simp only [sB] at hg11)
   refine WJ.s rfl rfl rfl rfl ?_
   refine WJ.s rfl rfl rfl rfl ?_
   refine WJ.s rfl rfl rfl rfl ?_
   refine Kj rfl (rd_pickf rfl rfl rfl) ?_
   refine Kj rfl (rd_move rfl rfl) ?_
   refine WJ.s rfl rfl rfl rfl ?_
   refine WJ.s rfl rfl rfl rfl ?_
   refine WJ.s rfl rfl rfl rfl ?_
   refine WJ.s rfl rfl rfl rfl ?_
   refine WJ.s rfl rfl rfl rfl ?_
   refine Kj rfl (rd_pickf rfl rfl rfl) ?_
   refine Kj rfl (rd_assign rfl rfl) ?_
   refine WJ.nil ?_
   refine WL.nt (WC.ret ?_)
   exact WX.retN rfl (.tmp rfl .nil) fun w' hS => ⟨by (simp [*, tup, goodR]; done), hS.below⟩
 ·(try simp only [sB] at hg6)
  refine WJ.s rfl rfl rfl rfl ?_
  refine WJ.s rfl rfl rfl rfl ?_
  refine WJ.s rfl rfl rfl rfl ?_
  refine Kj rfl (rd_pickf rfl rfl rfl) ?_
  refine Kj rfl (rd_move rfl rfl) ?_
  refine WJ.s rfl rfl rfl rfl ?_
  refine WJ.s rfl rfl rfl rfl ?_
  refine WJ.s rfl rfl rfl rfl ?_
  refine Kj rfl (rd_pickf rfl rfl rfl) ?_
  refine Kj rfl (rd_move rfl rfl) ?_
  refine WJ.s rfl rfl rfl rfl ?_
  refine WJ.s rfl rfl rfl rfl ?_
  refine WJ.s rfl rfl rfl rfl ?_
  refine WJ.s rfl rfl rfl rfl ?_
  refine WJ.s rfl rfl rfl rfl ?_
  refine Kj rfl (rd_pickf rfl rfl rfl) ?_
  refine Kj rfl (rd_assign rfl rfl) ?_
  refine WJ.nil ?_
  refine WL.nt (WC.ret ?_)
  exact WX.retN rfl (.tmp rfl .nil) fun w' hS => ⟨by (simp [*, tup, goodR]; done), hS.below⟩
theorem rsone_c {w : World} :
  Calls Tryz.prog 175 #[] w fun e w' => e = .returned (.string (S (canon 1))) ∧ Below w.heap.size w w' := by
 refine enter (S := St (fun _ => True) w [] ([])) (L := []) Tryz.func175 rfl Tryz.ntmps175 rfl (args_nil _) (St.start (fun _ _ => trivial) facts_nil) ?_
 refine WC.sr (Ka rfl (WL.nt (WC.sr ?_)))
 refine Kh rfl (og_call rfl rfl (by kernel_rfl) (keep_val fun w hS => of_c (n := 1) (by omega))) ?_
 intro _
 refine Ka rfl (WL.nt (WC.ret ?_))
 exact WX.retN rfl (.tmp rfl .nil) fun w' hS => ⟨by rfl, hS.below⟩
def hasR (g : Gp) (x : Bs) : Prop := goodR g ∧ okN x ∧ x ≠ [] ∧ val x < val g.1 ∧ Nat.gcd (val x) (val g.1) = 1
instance (g : Gp) (x : Bs) : Decidable (hasR g x) := inferInstanceAs (Decidable (_ ∧ _))
theorem rshas_c {g : Gp} {x : Bs} {w : World} :
  Calls Tryz.prog 146 #[gV g, .string (S x)] w fun e w' => e = .returned (.bool (decide (hasR g x))) ∧ Below w.heap.size w w' := by
 refine enter (S := St (fun _ => True) w [] ([])) (L := [(0, gV g), (1, .string (S x))]) Tryz.func146 rfl Tryz.ntmps146 rfl (args_cons rfl (args_cons rfl (args_nil _))) (St.start (fun _ _ => trivial) facts_nil) ?_
 refine WC.sr ?_
 refine Kh rfl (og_box rfl rfl (by (exact cells_agg _))) ?_
 intro b2
 refine Ka rfl (WL.nt (WC.seq ?_))
 refine WC.joinP (σ := Unit) [(1, _), (2, _)] (fun gq => [(25, .bool (decide (¬ (goodR g ∧ okN x ∧ x ≠ [] ∧ val x < val g.1))))]) (fun gq => True) (sub_cons rfl (sub_cons rfl (sub_nil _))) ?_ ?_
 ·skip
  refine WC.region ?_
  refine Kq rfl (lda rfl rfl .tc Tryz.underlying24 rfl ?_) ?_
  ·kernel_rfl
  refine Kh rfl (og_call rfl rfl (by kernel_rfl) (keep_val fun w hS => rgood_c (g := g))) ?_
  intro _
  refine Kq rfl (rd_not rfl rfl) (Km rfl ?_)
  refine WL.bool 10 rfl (fun hg10 => ?_) (fun hg10 => ?_)
  ·(try simp only [sB] at hg10)
   refine Kt rfl (Kt rfl (Kt rfl (Kq rfl (rd_pickt rfl rfl rfl) (Km rfl (Kt rfl (Kt rfl (Kq rfl (rd_pickt rfl rfl rfl) (Km rfl (Kt rfl (Kt rfl (Kt rfl ?_)))))))))))
   refine Kt rfl (Kt rfl (Kq rfl (rd_pickt rfl rfl rfl) (WL.nil ?_)))
   refine WX.joinP (()) (sub_cons rfl (sub_cons rfl (sub_nil _))) (by refine (sub_cons ?_ (sub_nil _)) <;> ((refine slot_b rfl ?_; (try dsimp only); (simp [*]; done)))) ?_ (by (exact fun _ h => h))
   (try dsimp only)
   done
  ·(try simp only [sB] at hg10)
   refine Km rfl ?_
   refine Kh rfl (og_call rfl rfl (by kernel_rfl) (keep_val fun w hS => valid_c (a := x))) ?_
   intro _
   refine Kq rfl (rd_not rfl rfl) (Kq rfl (rd_pickf rfl rfl rfl) (Km rfl ?_))
   refine WL.bool 15 rfl (fun hg15 => ?_) (fun hg15 => ?_)
   ·(try simp only [sB] at hg15)
    refine Kt rfl (Kt rfl (Kq rfl (rd_pickt rfl rfl rfl) (Km rfl (Kt rfl (Kt rfl (Kt rfl (Kt rfl (Kt rfl (Kq rfl (rd_pickt rfl rfl rfl) (WL.nil ?_))))))))))
    refine WX.joinP (()) (sub_cons rfl (sub_cons rfl (sub_nil _))) (by refine (sub_cons ?_ (sub_nil _)) <;> ((refine slot_b rfl ?_; (try dsimp only); (simp [*]; done)))) ?_ (by (exact fun _ h => h))
    (try dsimp only)
    done
   ·(try simp only [sB] at hg15)
    refine Km rfl (Kq rfl (rd_seq rfl rfl rfl) (Kq rfl (rd_pickf rfl rfl rfl) (Km rfl ?_)))
    refine WL.bool 19 rfl (fun hg19 => ?_) (fun hg19 => ?_)
    ·(try simp only [sB] at hg19)
     refine Kt rfl (Kt rfl (Kt rfl (Kt rfl (Kt rfl (Kq rfl (rd_pickt rfl rfl rfl) (WL.nil ?_))))))
     refine WX.joinP (()) (sub_cons rfl (sub_cons rfl (sub_nil _))) (by refine (sub_cons ?_ (sub_nil _)) <;> ((refine slot_b rfl ?_; (try dsimp only); (simp [*]; done)))) ?_ (by (exact fun _ h => h))
     (try dsimp only)
     done
    ·(try simp only [sB] at hg19)
     refine Km rfl ?_
     refine Kq rfl (rd_fa (q := 0) rfl rfl Tryz.underlying24 rfl (by kernel_rfl) rfl) ?_
     refine Kq rfl (ld rfl rfl .tc Tryz.underlying22 rfl (by rfl)) ?_
     refine Kh rfl (og_call rfl rfl (by kernel_rfl) (keep_val fun w hS => Cmp_c (a := x) (b := g.1))) ?_
     intro _
     refine Kq rfl (rd_geq rfl rfl rfl) ?_
     refine WL.set 24 rfl (v' := .bool (decide (val g.1 ≤ val x))) (congrArg Value.bool (by rw [cmpN_ok hg15 hg10.1]; exact decide_eq_decide.2 (cmpI_ge _ _))) ?_
     refine Kq rfl (rd_pickf rfl rfl rfl) (WL.nil ?_)
     refine WX.joinP (()) (sub_cons rfl (sub_cons rfl (sub_nil _))) (by refine (sub_cons ?_ (sub_nil _)) <;> ((refine slot_b rfl ?_; (try dsimp only); (simp [*]; done)))) ?_ (by (exact fun _ h => h))
     (try dsimp only)
     done
 ·rintro _ hmeet; (try dsimp only at hmeet ⊢)
  refine WC.cond rfl (fun hc25 => ?_) (fun hc25 => ?_)
  ·(try simp only [sB] at hc25)
   have hr : ¬ hasR g x := fun h => hc25 ⟨h.1, h.2.1, h.2.2.1, h.2.2.2.1⟩
   refine WC.sr (Ka rfl (WL.nt (WC.ret (WX.then_ret ?_))))
   exact WX.retN rfl (.tmp rfl .nil) fun w' hS => ⟨by (simp [*, tup]; done), hS.below⟩
  ·(try simp only [sB] at hc25)
   have hok : goodR g ∧ okN x ∧ x ≠ [] ∧ val x < val g.1 := Decidable.not_not.1 hc25
   have hgc : gcdN x g.1 = (canon (Nat.gcd (val x) (val g.1)), 0) := by rw [gcdN, if_pos ⟨hok.2.1, hok.1.1⟩]
   have hr : hasR g x ↔ Nat.gcd (val x) (val g.1) = 1 := ⟨fun h => h.2.2.2.2, fun h => ⟨hok.1, hok.2.1, hok.2.2.1, hok.2.2.2, h⟩⟩
   refine WC.skip (WX.then_normal (WC.sr (Km rfl ?_)))
   refine Kq rfl (rd_fa (q := 0) rfl rfl Tryz.underlying24 rfl (by kernel_rfl) rfl) ?_
   refine Kq rfl (ld rfl rfl .tc Tryz.underlying22 rfl (by rfl)) ?_
   refine Kh rfl (og_call rfl rfl (by kernel_rfl) (keep_val fun w hS => (by have := gcd_c (w := w) (a := x) (b := g.1); rw [hgc] at this; exact this))) ?_
   intro _
   refine Km rfl (Kq rfl (rd_extL rfl rfl rfl) (Kq rfl (rd_extL rfl rfl rfl) (Ka rfl (Ka rfl (WL.nt (WC.sr (Km rfl ?_)))))))
   refine Kh rfl (og_call rfl rfl (by kernel_rfl) (keep_val fun w hS => rsone_c)) ?_
   intro _
   refine Kq rfl (rd_seq rfl rfl rfl) ?_
   refine WL.set 35 rfl (v' := .bool (decide (hasR g x))) (congrArg Value.bool (by simp [hr, canon_inj])) ?_
   refine Ka rfl (WL.nt (WC.ret ?_))
   exact WX.retN rfl (.tmp rfl .nil) fun w' hS => ⟨by rfl, hS.below⟩
/-- an element of a well-formed group -/
def elG (g : Gp) (x : Bs) : Prop := okN x ∧ x ≠ [] ∧ val x < val g.1 ∧ (if g.2 = [] then Nat.gcd (val x) (val g.1) = 1 else val x ^ val g.2 % val g.1 = 1)
instance (g : Gp) (x : Bs) : Decidable (elG g x) := inferInstanceAs (Decidable (_ ∧ _))
theorem chkG_ok {g : Gp} (h : chkG g = 0) : okN g.1 ∧ okN g.2 ∧ 2 ≤ val g.1 ∧ (g.2 = [] → goodR g) ∧ (g.2 ≠ [] → 2 ≤ val g.2 ∧ (val g.1 - 1) % val g.2 = 0) := by
 unfold chkG at h
 split at h
 ·rename_i h1
  split at h
  ·rename_i h2
   split at h
   ·rename_i h3; exact ⟨h1.1, h1.2, by omega, fun _ => ⟨h1.1, h2, h3.1, h3.2⟩, fun hn => absurd h2 hn⟩
   ·simp at h
  ·rename_i h2
   split at h
   ·simp at h
   ·rename_i h3; exact ⟨h1.1, h1.2, by omega, fun hn => absurd hn h2, fun _ => ⟨by omega, by omega⟩⟩
 ·simp at h
theorem elG_P {g : Gp} {x : Bs} (h : chkG g = 0) (hq : g.2 ≠ []) : hasP g x ↔ elG g x := by
 obtain ⟨h1, h2, h3, h4, h5⟩ := chkG_ok h
 rw [hasP, elG, if_neg hq]
 exact ⟨fun ⟨_, _, a, _, b, c, d⟩ => ⟨a, b, c, d⟩, fun ⟨a, b, c, d⟩ => ⟨h1, h2, a, hq, b, c, d⟩⟩
theorem elG_R {g : Gp} {x : Bs} (h : chkG g = 0) (hq : g.2 = []) : hasR g x ↔ elG g x := by
 obtain ⟨h1, h2, h3, h4, h5⟩ := chkG_ok h
 rw [hasR, elG, if_pos hq]
 exact ⟨fun ⟨_, a, b, c, d⟩ => ⟨a, b, c, d⟩, fun ⟨a, b, c, d⟩ => ⟨h4 hq, a, b, c, d⟩⟩
theorem pwhas0_c {g : Gp} {x : Bs} {w : World} (hg : chkG g = 0) (hm8 : g.1.length ≤ 8) :
  Calls Tryz.prog 121 #[gV g, .string (S x)] w fun e w' => e = .returned (.bool (decide (elG g x))) ∧ Below w.heap.size w w' := by
 refine enter (S := St (fun _ => True) w [] ([])) (L := [(0, gV g), (1, .string (S x))]) Tryz.func121 rfl Tryz.ntmps121 rfl (args_cons rfl (args_cons rfl (args_nil _))) (St.start (fun _ _ => trivial) facts_nil) ?_
 refine WC.sr ?_
 refine Kh rfl (og_box rfl rfl (by (exact cells_agg _))) ?_
 intro b2
 refine Ka rfl (WL.nt (WC.seq (WC.sr ?_)))
 refine Kq rfl (rd_fa (q := 1) rfl rfl Tryz.underlying24 rfl (by kernel_rfl) rfl) ?_
 refine Kq rfl (ld rfl rfl .tc Tryz.underlying22 rfl (by rfl)) ?_
 refine Kq rfl (rd_sne rfl rfl rfl) (WL.nt ?_)
 refine WC.cond rfl (fun hc7 => ?_) (fun hc7 => ?_)
 ·(try simp only [sB] at hc7)
  have hq : g.2 ≠ [] := by simpa using hc7
  have hr := elG_P (x := x) hg hq
  refine WC.sr ?_
  refine Kq rfl (lda rfl rfl .tc Tryz.underlying24 rfl ?_) ?_
  ·kernel_rfl
  refine Km rfl ?_
  refine Kh rfl (og_call rfl rfl (by kernel_rfl) (keep_val fun w hS => phas_c (g := g) (x := x) (by assumption))) ?_
  intro _
  refine Ka rfl (WL.nt (WC.ret (WX.then_ret ?_)))
  exact WX.retN rfl (.tmp rfl .nil) fun w' hS => ⟨by simp only [hr]; rfl, hS.below⟩
 ·(try simp only [sB] at hc7)
  have hq : g.2 = [] := by simpa using hc7
  have hr := elG_R (x := x) hg hq
  refine WC.skip (WX.then_normal (WC.sr ?_))
  refine Kq rfl (lda rfl rfl .tc Tryz.underlying24 rfl ?_) ?_
  ·kernel_rfl
  refine Km rfl ?_
  refine Kh rfl (og_call rfl rfl (by kernel_rfl) (keep_val fun w hS => rshas_c (g := g) (x := x))) ?_
  intro _
  refine Ka rfl (WL.nt (WC.ret ?_))
  exact WX.retN rfl (.tmp rfl .nil) fun w' hS => ⟨by simp only [hr]; rfl, hS.below⟩
theorem pwhas_c {g : Gp} {x : Bs} {w : World} (hm8 : g.1.length ≤ 8) :
  Calls Tryz.prog 87 #[gV g, .string (S x)] w fun e w' => e = .returned (.bool (decide (chkG g = 0 ∧ elG g x))) ∧ Below w.heap.size w w' := by
 refine enter (S := St (fun _ => True) w [] ([])) (L := [(0, gV g), (1, .string (S x))]) Tryz.func87 rfl Tryz.ntmps87 rfl (args_cons rfl (args_cons rfl (args_nil _))) (St.start (fun _ _ => trivial) facts_nil) ?_
 refine WC.sr ?_
 refine Kh rfl (og_box rfl rfl (by (exact cells_agg _))) ?_
 intro b2
 refine Ka rfl (WL.nt (WC.sr ?_))
 refine Kq rfl (lda rfl rfl .tc Tryz.underlying24 rfl ?_) ?_
 ·kernel_rfl
 refine Kh rfl (og_call rfl rfl (by kernel_rfl) (keep_val fun w hS => pcheck_c (g := g))) ?_
 intro _
 refine Kq rfl (rd_eql rfl rfl rfl) (Km rfl ?_)
 refine WL.bool 8 rfl (fun hg8 => ?_) (fun hg8 => ?_)
 ·(try simp only [sB] at hg8)
  refine Kq rfl (lda rfl rfl .tc Tryz.underlying24 rfl ?_) ?_
  ·kernel_rfl
  refine Km rfl ?_
  refine Kh rfl (og_call rfl rfl (by kernel_rfl) (keep_val fun w hS => pwhas0_c (g := g) (x := x) (by assumption) (by assumption))) ?_
  intro _
  refine Kq rfl (rd_pickt rfl rfl rfl) (Ka rfl (WL.nt (WC.ret ?_)))
  exact WX.retN rfl (.tmp rfl .nil) fun w' hS => ⟨by (simp [*, tup]; done), hS.below⟩
 ·(try simp only [sB] at hg8)
  refine Kt rfl (Kt rfl (Kt rfl (Kq rfl (rd_pickf rfl rfl rfl) (Ka rfl (WL.nt (WC.ret ?_))))))
  exact WX.retN rfl (.tmp rfl .nil) fun w' hS => ⟨by (simp [*, tup]; done), hS.below⟩
/-! the reference's -/
theorem rpform_c {g : Gp} {w : World} :
  Calls Tryz.prog 152 #[gV g] w fun e w' => e = .returned (.bool (decide (okN g.1 ∧ okN g.2))) ∧ Below w.heap.size w w' := by
 refine enter (S := St (fun _ => True) w [] ([])) (L := [(0, gV g)]) Tryz.func152 rfl Tryz.ntmps152 rfl (args_cons rfl (args_nil _)) (St.start (fun _ _ => trivial) facts_nil) ?_
 refine WC.sr ?_
 refine Kh rfl (og_box rfl rfl (by (exact cells_agg _))) ?_
 intro b1
 refine Ka rfl (WL.nt (WC.sr ?_))
 refine Kq rfl (rd_fa (q := 0) rfl rfl Tryz.underlying24 rfl (by kernel_rfl) rfl) ?_
 refine Kq rfl (ld rfl rfl .tc Tryz.underlying22 rfl (by rfl)) ?_
 refine Kh rfl (og_call rfl rfl (by kernel_rfl) (keep_val fun w hS => rvalid_c (a := g.1))) ?_
 intro _
 refine Km rfl ?_
 refine WL.bool 6 rfl (fun hg6 => ?_) (fun hg6 => ?_)
 ·(try simp only [sB] at hg6)
  refine Kq rfl (rd_fa (q := 1) rfl rfl Tryz.underlying24 rfl (by kernel_rfl) rfl) ?_
  refine Kq rfl (ld rfl rfl .tc Tryz.underlying22 rfl (by rfl)) ?_
  refine Kh rfl (og_call rfl rfl (by kernel_rfl) (keep_val fun w hS => rvalid_c (a := g.2))) ?_
  intro _
  refine Kq rfl (rd_pickt rfl rfl rfl) (Ka rfl (WL.nt (WC.ret ?_)))
  exact WX.retN rfl (.tmp rfl .nil) fun w' hS => ⟨by (simp [*, tup]; done), hS.below⟩
 ·(try simp only [sB] at hg6)
  refine Kt rfl (Kt rfl (Kt rfl (Kq rfl (rd_pickf rfl rfl rfl) (Ka rfl (WL.nt (WC.ret ?_))))))
  exact WX.retN rfl (.tmp rfl .nil) fun w' hS => ⟨by (simp [*, tup]; done), hS.below⟩
theorem rphas_c {g : Gp} {x : Bs} {w : World} (hm8 : g.1.length ≤ 8) :
  Calls Tryz.prog 127 #[gV g, .string (S x)] w fun e w' => e = .returned (.bool (decide (hasP g x))) ∧ Below w.heap.size w w' := by
 refine enter (S := St (fun _ => True) w [] ([])) (L := [(0, gV g), (1, .string (S x))]) Tryz.func127 rfl Tryz.ntmps127 rfl (args_cons rfl (args_cons rfl (args_nil _))) (St.start (fun _ _ => trivial) facts_nil) ?_
 refine WC.sr ?_
 refine Kh rfl (og_box rfl rfl (by (exact cells_agg _))) ?_
 intro b2
 refine Ka rfl (WL.nt (WC.seq ?_))
 refine WC.joinP (σ := Unit) [(1, _), (2, _)] (fun gq => [(30, .bool (decide (¬ ((okN g.1 ∧ okN g.2) ∧ okN x ∧ g.2 ≠ [] ∧ x ≠ [] ∧ val x < val g.1))))]) (fun gq => True) (sub_cons rfl (sub_cons rfl (sub_nil _))) ?_ ?_
 ·skip
  refine WC.region ?_
  refine Kq rfl (lda rfl rfl .tc Tryz.underlying24 rfl ?_) ?_
  ·kernel_rfl
  refine Kh rfl (og_call rfl rfl (by kernel_rfl) (keep_val fun w hS => rpform_c (g := g))) ?_
  intro _
  refine Kq rfl (rd_not rfl rfl) (Km rfl ?_)
  refine WL.bool 10 rfl (fun hg10 => ?_) (fun hg10 => ?_)
  ·(try simp only [sB] at hg10)
   refine Kt rfl (Kt rfl (Kt rfl (Kq rfl (rd_pickt rfl rfl rfl) (Km rfl (Kt rfl (Kt rfl (Kt rfl (Kq rfl (rd_pickt rfl rfl rfl) (Km rfl (Kt rfl (Kt rfl ?_)))))))))))
   refine Kq rfl (rd_pickt rfl rfl rfl) (Km rfl (Kt rfl (Kt rfl (Kt rfl (Kt rfl (Kt rfl (Kq rfl (rd_pickt rfl rfl rfl) (WL.nil ?_))))))))
   refine WX.joinP (()) (sub_cons rfl (sub_cons rfl (sub_nil _))) (by refine (sub_cons ?_ (sub_nil _)) <;> ((refine slot_b rfl ?_; (try dsimp only); (simp [*]; done)))) ?_ (by (exact fun _ h => h))
   (try dsimp only)
   done
  ·(try simp only [sB] at hg10)
   refine Km rfl ?_
   refine Kh rfl (og_call rfl rfl (by kernel_rfl) (keep_val fun w hS => rvalid_c (a := x))) ?_
   intro _
   refine Kq rfl (rd_not rfl rfl) (Kq rfl (rd_pickf rfl rfl rfl) (Km rfl ?_))
   refine WL.bool 15 rfl (fun hg15 => ?_) (fun hg15 => ?_)
   ·(try simp only [sB] at hg15)
    refine Kt rfl (Kt rfl (Kt rfl (Kq rfl (rd_pickt rfl rfl rfl) (Km rfl (Kt rfl (Kt rfl (Kq rfl (rd_pickt rfl rfl rfl) (Km rfl (Kt rfl (Kt rfl (Kt rfl ?_)))))))))))
    refine Kt rfl (Kt rfl (Kq rfl (rd_pickt rfl rfl rfl) (WL.nil ?_)))
    refine WX.joinP (()) (sub_cons rfl (sub_cons rfl (sub_nil _))) (by refine (sub_cons ?_ (sub_nil _)) <;> ((refine slot_b rfl ?_; (try dsimp only); (simp [*]; done)))) ?_ (by (exact fun _ h => h))
    (try dsimp only)
    done
   ·(try simp only [sB] at hg15)
    refine Kq rfl (rd_fa (q := 1) rfl rfl Tryz.underlying24 rfl (by kernel_rfl) rfl) ?_
    refine Kq rfl (ld rfl rfl .tc Tryz.underlying22 rfl (by rfl)) ?_
    refine Kq rfl (rd_seq rfl rfl rfl) (Kq rfl (rd_pickf rfl rfl rfl) (Km rfl ?_))
    refine WL.bool 20 rfl (fun hg20 => ?_) (fun hg20 => ?_)
    ·(try simp only [sB] at hg20)
     refine Kt rfl (Kt rfl (Kq rfl (rd_pickt rfl rfl rfl) (Km rfl (Kt rfl (Kt rfl (Kt rfl (Kt rfl (Kt rfl (Kq rfl (rd_pickt rfl rfl rfl) (WL.nil ?_))))))))))
     refine WX.joinP (()) (sub_cons rfl (sub_cons rfl (sub_nil _))) (by refine (sub_cons ?_ (sub_nil _)) <;> ((refine slot_b rfl ?_; (try dsimp only); (simp [*]; done)))) ?_ (by (exact fun _ h => h))
     (try dsimp only)
     done
    ·(try simp only [sB] at hg20)
     refine Km rfl (Kq rfl (rd_seq rfl rfl rfl) (Kq rfl (rd_pickf rfl rfl rfl) (Km rfl ?_)))
     refine WL.bool 24 rfl (fun hg24 => ?_) (fun hg24 => ?_)
     ·(try simp only [sB] at hg24)
      refine Kt rfl (Kt rfl (Kt rfl (Kt rfl (Kt rfl (Kq rfl (rd_pickt rfl rfl rfl) (WL.nil ?_))))))
      refine WX.joinP (()) (sub_cons rfl (sub_cons rfl (sub_nil _))) (by refine (sub_cons ?_ (sub_nil _)) <;> ((refine slot_b rfl ?_; (try dsimp only); (simp [*]; done)))) ?_ (by (exact fun _ h => h))
      (try dsimp only)
      done
     ·(try simp only [sB] at hg24)
      refine Km rfl ?_
      refine Kq rfl (rd_fa (q := 0) rfl rfl Tryz.underlying24 rfl (by kernel_rfl) rfl) ?_
      refine Kq rfl (ld rfl rfl .tc Tryz.underlying22 rfl (by rfl)) ?_
      refine Kh rfl (og_call rfl rfl (by kernel_rfl) (keep_val fun w hS => order_c (a := x) (b := g.1) (by exact hg15.2) (by exact hg10.1.2) (by have := hg15.1; omega))) ?_
      intro _
      refine Kq rfl (rd_geq rfl rfl rfl) ?_
      refine WL.set 29 rfl (v' := .bool (decide (val g.1 ≤ val x))) (congrArg Value.bool (by exact decide_eq_decide.2 (cmpI_ge _ _))) ?_
      refine Kq rfl (rd_pickf rfl rfl rfl) (WL.nil ?_)
      refine WX.joinP (()) (sub_cons rfl (sub_cons rfl (sub_nil _))) (by refine (sub_cons ?_ (sub_nil _)) <;> ((refine slot_b rfl ?_; (try dsimp only); (simp [*]; done)))) ?_ (by (exact fun _ h => h))
      (try dsimp only)
      done
 ·rintro _ hmeet; (try dsimp only at hmeet ⊢)
  refine WC.cond rfl (fun hc30 => ?_) (fun hc30 => ?_)
  ·(try simp only [sB] at hc30)
   have hr : ¬ hasP g x := fun h => hc30 ⟨⟨h.1, h.2.1⟩, h.2.2.1, h.2.2.2.1, h.2.2.2.2.1, h.2.2.2.2.2.1⟩
   refine WC.sr (Ka rfl (WL.nt (WC.ret (WX.then_ret ?_))))
   exact WX.retN rfl (.tmp rfl .nil) fun w' hS => ⟨by (simp [*, tup]; done), hS.below⟩
  ·(try simp only [sB] at hc30)
   have hok : (okN g.1 ∧ okN g.2) ∧ okN x ∧ g.2 ≠ [] ∧ x ≠ [] ∧ val x < val g.1 := Decidable.not_not.1 hc30
   obtain ⟨⟨hm, hq⟩, hx, hq0, hx0, hlt⟩ := hok
   have hm0 : g.1 ≠ [] := fun h => by rw [h] at hlt; exact absurd hlt (Nat.not_lt_zero _)
   have he1 := mexp_ok hx hq hm hm0
   have hr : hasP g x ↔ val x ^ val g.2 % val g.1 = 1 := ⟨fun h => h.2.2.2.2.2.2, fun h => ⟨hm, hq, hx, hq0, hx0, hlt, h⟩⟩
   refine WC.skip (WX.then_normal (WC.sr (Km rfl ?_)))
   refine Kq rfl (rd_fa (q := 1) rfl rfl Tryz.underlying24 rfl (by kernel_rfl) rfl) ?_
   refine Kq rfl (ld rfl rfl .tc Tryz.underlying22 rfl (by rfl)) ?_
   refine Kq rfl (rd_fa (q := 0) rfl rfl Tryz.underlying24 rfl (by kernel_rfl) rfl) ?_
   refine Kq rfl (ld rfl rfl .tc Tryz.underlying22 rfl (by rfl)) ?_
   refine Kh rfl (og_call rfl rfl (by kernel_rfl) (keep_val fun w hS => (by have := rmexp_c (w := w) (a := x) (x := g.2) (m := g.1) hm8; rw [he1] at this; exact this))) ?_
   intro _
   refine Km rfl (Kq rfl (rd_extL rfl rfl rfl) (Kq rfl (rd_extL rfl rfl rfl) (Ka rfl (Ka rfl (WL.nt (WC.sr (Km rfl (Kq rfl (rd_seq rfl rfl rfl) ?_))))))))
   refine WL.set 41 rfl (v' := .bool (decide (hasP g x))) (congrArg Value.bool (by simp [hr, canon_one])) ?_
   refine Ka rfl (WL.nt (WC.ret ?_))
   exact WX.retN rfl (.tmp rfl .nil) fun w' hS => ⟨by rfl, hS.below⟩
end Go.Proofs.YtnimhldbblfgbaaGreat
namespace Go.Proofs.YtnimhldbblfgbaaGreat
set_option linter.unusedSimpArgs false
set_option linter.unusedVariables false
set_option maxRecDepth 20000
set_option maxHeartbeats 600000
open Go.RowKit
def extS (x y : Zs) (q : Bs) : Zs := (subZ x (mulZ (fromZ q) y).1).1
theorem ext1_c {x y : Zs} {q : Bs} {p : Nat} {w : World} {ok : Nat → Prop} (hF1 : (Fact.sl (some ⟨p, 0, none⟩) [.string (S q)]).holds ok w) :
  Calls Tryz.prog 154 #[.agg #[.bool x.1, .string (S x.2), .bool y.1, .string (S y.2)], .pointer (some ⟨p, 0, none⟩)] w fun e w' => e = .returned (.agg #[.bool y.1, .string (S y.2), .bool (extS x y q).1, .string (S (extS x y q).2)]) ∧ Below w.heap.size w w' := by
 refine enter (S := St (fun _ => True) w [] ([Fact.sl (some ⟨p, 0, none⟩) [.string (S q)]])) (L := [(0, .agg #[.bool x.1, .string (S x.2), .bool y.1, .string (S y.2)]), (1, .pointer (some ⟨p, 0, none⟩))]) Tryz.func154 rfl Tryz.ntmps154 rfl (args_cons rfl (args_cons rfl (args_nil _))) (St.start (fun _ _ => trivial) (facts_cons (fact_any hF1) facts_nil)) ?_
 refine WC.sr ?_
 refine Kh rfl (og_box rfl rfl (by (exact cells_agg _))) ?_
 intro b2
 refine Kh rfl (og_alloc rfl (v := (.agg #[.bool false, .string (S []), .bool false, .string (S [])])) (cs := [.bool false, .string (S []), .bool false, .string (S [])]) (by kernel_rfl) rfl) ?_
 intro b3
 refine WL.nt (WC.seq ?_)
 refine WC.free0 [0, 1, 2, 3, 4, 5, 6, 8, 9, 7, 10] [] [0, 1, 0, 0, 1, 0, 0, 0, 3, 1, 0] (by kernel_rfl) (by kernel_rfl) rfl ?_
 refine Kj rfl (ldt (a := some ⟨p, 0, none⟩) (q := 0) rfl rfl Tryz.underlying22 rfl rfl) ?_
 refine WJ.gv rfl rfl rfl rfl rfl (fun ext => og_call rfl rfl (by kernel_rfl) (keep_val fun w hS => zfrom_c (a := q))) ?_
 refine Kj rfl (rd_iaa rfl rfl rfl Tryz.underlying79 (by kernel_rfl : _ = some 2) ?_ (by (try simp only [sN, Int.reduceToNat, Nat.reduceAdd, Nat.reduceMul, Nat.reduceSub]); rfl)) ?_
 ·omega
 refine Kj rfl (ldp rfl rfl .tc Tryz.underlying45 rfl (by kernel_rfl : _ = some 2) (by rfl) (by rfl)) ?_
 refine WJ.gv rfl rfl rfl rfl rfl (fun ext => og_call rfl rfl (by kernel_rfl) (keep_val fun w hS => zmul_c (x := fromZ q) (y := y))) ?_
 refine Kj rfl (rd_move rfl rfl) ?_
 refine Kj rfl (rd_extL rfl rfl rfl) ?_
 refine WJ.f rfl rfl rfl rfl rfl (fr_alloc rfl (v := (.agg #[.bool false, .string (S [])])) (cs := [.bool false, .string (S [])]) (by kernel_rfl) rfl) ?_
 intro b4
 refine WJ.st rfl rfl rfl rfl (staJ rfl rfl rfl ?_ ?_ ?_) ?_
 ·kernel_rfl
 ·simp [Value.oneCell']
 ·rfl
 refine Kj rfl (rd_extL rfl rfl rfl) ?_
 refine Kj rfl (rd_assign rfl rfl) ?_
 refine WJ.nil ?_
 refine WL.nt (WC.sr ?_)
 refine Kq rfl (rd_iaa rfl rfl rfl Tryz.underlying79 (by kernel_rfl : _ = some 2) ?_ (by (try simp only [sN, Int.reduceToNat, Nat.reduceAdd, Nat.reduceMul, Nat.reduceSub]); rfl)) ?_
 ·omega
 refine Kq rfl (ldp rfl rfl .tc Tryz.underlying45 rfl (by kernel_rfl : _ = some 2) (by rfl) (by rfl)) ?_
 refine Kq rfl (lda rfl rfl .tc Tryz.underlying45 rfl ?_) ?_
 ·kernel_rfl
 refine Kh rfl (og_call rfl rfl (by kernel_rfl) (keep_val fun w hS => zsub_c (x := x) (y := (mulZ (fromZ q) y).1))) ?_
 intro _
 refine Km rfl (Kq rfl (rd_extL rfl rfl rfl) (Kq rfl (rd_extL rfl rfl rfl) ?_))
 refine Kh rfl (og_alloc rfl (v := (.agg #[.bool false, .string (S [])])) (cs := [.bool false, .string (S [])]) (by kernel_rfl) rfl) ?_
 intro b6
 refine WL.g0 rfl rfl (sta rfl rfl rfl .tc ?_ ?_ ?_) ?_
 ·kernel_rfl
 ·simp [Value.oneCell']
 ·rfl
 intro _
 refine Ka rfl (WL.nt (WC.sr ?_))
 refine Kq rfl (rd_iaa rfl rfl rfl Tryz.underlying79 (by kernel_rfl : _ = some 2) ?_ (by (try simp only [sN, Int.reduceToNat, Nat.reduceAdd, Nat.reduceMul, Nat.reduceSub]); rfl)) ?_
 ·omega
 refine Kq rfl (ldp rfl rfl .tc Tryz.underlying45 rfl (by kernel_rfl : _ = some 2) (by rfl) (by rfl)) ?_
 refine Kq rfl (lda rfl rfl .tc Tryz.underlying45 rfl ?_) ?_
 ·kernel_rfl
 refine Kq rfl (rd_bld [[.bool false, .string (S [])], [.bool false, .string (S [])]] rfl rfl (by simp only [bld, fldv, Nat.beq, Value.cells, cond_true, cond_false, List.nil_append, List.cons_append, List.append_nil]; rfl) (fun w => by kernel_rfl)) ?_
 refine WL.g0 rfl rfl (sta rfl rfl rfl .tc ?_ ?_ ?_) ?_
 ·kernel_rfl
 ·simp [Value.oneCell']
 ·rfl
 intro _
 refine WL.nt (WC.ret ?_)
 exact WX.retN rfl (.agg rfl .tc Tryz.underlying79 rfl (by kernel_rfl) .nil) fun w' hS => ⟨by rfl, hS.below⟩
theorem extS_of {x y : Int} {q : Nat} (hx : x.natAbs < Big) (hy : y.natAbs < Big) (hq : q < Big) (hm : q * y.natAbs < Big) (hs : (x - q * y).natAbs < Big) : extS (ofZ x) (ofZ y) (canon q) = ofZ (x - q * y) := by
 have hm' : ((q : Int) * y).natAbs < Big := by rw [Int.natAbs_mul, Int.natAbs_natCast]; exact hm
 rw [extS, fromZ_of hq, mulZ_of (by rw [Int.natAbs_natCast]; exact hq) hy hm', subZ_ok hx hm' hs]
set_option maxHeartbeats 6000000 in
theorem zext_c {a b : Bs} {w : World} {ok : Nat → Prop} (ha : okN a) (hb : okN b) (hb0 : b ≠ []) :
  Calls Tryz.prog 135 #[.string (S a), .string (S b)] w fun e w' => ∃ gx : Int × Zs, e = .returned (.tuple #[.string (S (canon (Nat.gcd (val a) (val b)))), zV (ofZ gx.1), zV gx.2, .int .i64 0]) ∧ (((val a : Int) * gx.1) % (val b) = (Nat.gcd (val a) (val b) : Int) % (val b) ∧ (Nat.gcd (val a) (val b) = 1 → 0 ≤ gx.1) ∧ gx.1.natAbs < Big) ∧ Below w.heap.size w w' ∧ ∀ x ∈ ([] : List Fact), x.holds (fun b => ok b ∨ w.heap.size ≤ b) w' := by
 have hvb : 0 < val b := Nat.pos_of_ne_zero fun e => hb0 ((val_eq_zero hb.2).1 e)
 have hbB := okN_val hb; have haB := okN_val ha
 have hB1 : 1 < Big := Nat.lt_of_lt_of_le (by decide) big64
 refine enter (S := St (fun b => ok b ∨ w.heap.size ≤ b) w [] ([])) (L := [(0, .string (S a)), (1, .string (S b))]) Tryz.func135 rfl Tryz.ntmps135 rfl (args_cons rfl (args_cons rfl (args_nil _))) (St.start (fun _ h => Or.inr h) (facts_or facts_nil)) ?_
 refine WC.sr (Ka rfl ?_)
 refine Kh rfl (og_alloc rfl (v := (.agg #[.bool false, .string (S [])])) (cs := [.bool false, .string (S [])]) (by kernel_rfl) rfl) ?_
 intro b5
 refine Kh rfl (og_alloc rfl (v := (.agg #[.bool false, .string (S [])])) (cs := [.bool false, .string (S [])]) (by kernel_rfl) rfl) ?_
 intro b6
 refine Ka rfl (WL.nt (WC.seq (WC.sr (Km rfl ?_))))
 refine Kh rfl (og_call rfl rfl (by kernel_rfl) (keep_val fun w hS => valid_c)) ?_
 intro _
 refine WL.set 23 rfl (v' := .bool true) (by rw [decide_eq_true ha]) ?_
 refine Kq rfl (rd_not rfl rfl) (Km rfl (Km rfl ?_))
 refine Kh rfl (og_call rfl rfl (by kernel_rfl) (keep_val fun w hS => valid_c)) ?_
 intro _
 refine WL.set 27 rfl (v' := .bool true) (by rw [decide_eq_true hb]) ?_
 refine Kq rfl (rd_not rfl rfl) (Kq rfl (rd_pickf rfl rfl rfl) (WL.nt ?_))
 refine WC.cond rfl (fun h => by cases h) (fun _ => ?_)
 refine WC.skip (WX.then_normal (WC.seq (WC.sr (Km rfl (Kq rfl (rd_seq rfl rfl rfl) (WL.nt ?_))))))
 refine WC.cond rfl (fun hc33 => by exfalso; (try simp only [sB] at hc33); simp_all) (fun hc33 => ?_)
 (try simp only [sB] at hc33)
 refine WC.skip (WX.then_normal (WC.sr (Km rfl (Km rfl ?_))))
 refine Kq rfl (rd_bld [[.string (S [])], [.string (S [])]] rfl rfl (by simp only [bld, fldv, Nat.beq, Value.cells, cond_true, cond_false, List.nil_append, List.cons_append, List.append_nil]; rfl) (fun w => by kernel_rfl)) ?_
 refine Kh rfl (og_alloc rfl (v := (.agg #[.string (S []), .string (S [])])) (cs := [.string (S []), .string (S [])]) (by kernel_rfl) rfl) ?_
 intro b8
 refine WL.g0 rfl rfl (sta rfl rfl rfl .tc ?_ ?_ ?_) ?_
 ·kernel_rfl
 ·simp [Value.oneCell']
 ·rfl
 intro _
 refine WL.nt (WC.sr ?_)
 refine Kh rfl (og_call rfl rfl (by kernel_rfl) (keep_val fun w hS => zof_c (n := 1) (by omega) (by omega))) ?_
 intro _
 refine Kh rfl (og_call rfl rfl (by kernel_rfl) (keep_val fun w hS => zof_c (n := 0) (by omega) (by omega))) ?_
 intro _
 refine Kq rfl (rd_bld [[.bool false, .string (S [])], [.bool false, .string (S [])]] rfl rfl (by simp only [bld, fldv, Nat.beq, Value.cells, cond_true, cond_false, List.nil_append, List.cons_append, List.append_nil]; rfl) (fun w => by kernel_rfl)) ?_
 refine Kh rfl (og_call rfl rfl (by kernel_rfl) (keep_val fun w hS => zof_c (n := 0) (by omega) (by omega))) ?_
 intro _
 refine Kh rfl (og_call rfl rfl (by kernel_rfl) (keep_val fun w hS => zof_c (n := 1) (by omega) (by omega))) ?_
 intro _
 refine Kq rfl (rd_bld [[.bool false, .string (S [])], [.bool false, .string (S [])]] rfl rfl (by simp only [bld, fldv, Nat.beq, Value.cells, cond_true, cond_false, List.nil_append, List.cons_append, List.append_nil]; rfl) (fun w => by kernel_rfl)) ?_
 refine Kh rfl (og_alloc rfl (v := (.agg #[.bool false, .string (S []), .bool false, .string (S [])])) (cs := [.bool false, .string (S []), .bool false, .string (S [])]) (by kernel_rfl) rfl) ?_
 intro b9
 refine Kh rfl (og_alloc rfl (v := (.agg #[.bool false, .string (S []), .bool false, .string (S [])])) (cs := [.bool false, .string (S []), .bool false, .string (S [])]) (by kernel_rfl) rfl) ?_
 intro b10
 refine WL.g0 rfl rfl (sta rfl rfl rfl .tc ?_ ?_ ?_) ?_
 ·kernel_rfl
 ·simp [Value.oneCell']
 ·rfl
 intro _
 refine WL.g0 rfl rfl (sta rfl rfl rfl .tc ?_ ?_ ?_) ?_
 ·kernel_rfl
 ·simp [Value.oneCell']
 ·rfl
 intro _
 refine WL.nt (WC.seq (WC.block ?_))
 refine WC.loopO (σ := Nat × Nat × Int × Int × Int × Int) [(0, _), (1, _), (5, _), (6, _), (8, _), (9, _), (10, _)] (fun gq => []) (fun gq => Euc (val a) (val b) gq.1 gq.2.1 gq.2.2.1 gq.2.2.2.1 gq.2.2.2.2.1 gq.2.2.2.2.2 ∧ gq.1 < Big ∧ gq.2.1 < Big ∧ gq.2.2.1.natAbs ≤ val b ∧ gq.2.2.2.1.natAbs ≤ val b ∧ gq.2.2.2.2.1.natAbs ≤ max (val a) 1 ∧ gq.2.2.2.2.2.natAbs ≤ max (val a) 1) (fun gq => gq.2.1) (fun gq => [⟨some b10, [.bool (ofZ gq.2.2.2.2.1).1, .string (S (ofZ gq.2.2.2.2.1).2), .bool (ofZ gq.2.2.2.2.2).1, .string (S (ofZ gq.2.2.2.2.2).2)], 79⟩, ⟨some b9, [.bool (ofZ gq.2.2.1).1, .string (S (ofZ gq.2.2.1).2), .bool (ofZ gq.2.2.2.1).1, .string (S (ofZ gq.2.2.2.1).2)], 79⟩, ⟨some b8, [.string (S (canon gq.1)), .string (S (canon gq.2.1))], 56⟩, ⟨some b6, [.bool false, .string (S [])], 45⟩, ⟨some b5, [.bool false, .string (S [])], 45⟩]) (fun gq => []) (val a, val b, 1, 0, 0, 1) (sub_cons rfl (sub_cons rfl (sub_cons rfl (sub_cons rfl (sub_cons rfl (sub_cons rfl (sub_cons rfl (sub_nil _)))))))) (sub_nil _) (by (try dsimp only); exact ⟨euc_start _ _, haB, hbB, by omega, by omega, by omega, by omega⟩) (by exact fun w h => by rw [ok_canon ha, ok_canon hb]; exact h) ?_
 rintro ⟨r0, r1, x0, x1, y0, y1⟩ hinv1; (try dsimp only at hinv1 ⊢)
 obtain ⟨hE, hr0, hr1, hx0, hx1, hy0, hy1⟩ := hinv1
 refine WC.seq (WC.sr ?_)
 refine Kq rfl (rd_iaa rfl rfl rfl Tryz.underlying56 (by kernel_rfl : _ = some 1) ?_ (by (try simp only [sN, Int.reduceToNat, Nat.reduceAdd, Nat.reduceMul, Nat.reduceSub]); rfl)) ?_
 ·omega
 refine Kq rfl (ld rfl rfl .tc Tryz.underlying22 rfl (by rfl)) ?_
 refine Kq rfl (rd_sne rfl rfl rfl) (WL.nt ?_)
 refine WC.cond rfl (fun hc48 => ?_) (fun hc48 => ?_)
 ·(try simp only [sB] at hc48)
  have hr1p : 0 < r1 := by
   rcases Nat.eq_zero_or_pos r1 with h | h
   ·subst h; simp [canon_zero] at hc48
   ·exact h
  have hE' := euc_step hE hr1p
  obtain ⟨hm1, hm2⟩ := euc_mul hE hr1p
  obtain ⟨hl1, hl2⟩ := euc_le hE' hr1p
  have hdv := divN_of hr0 hr1 hr1p
  have hdl := Nat.div_le_self r0 r1
  have hml := Nat.mod_lt r0 hr1p
  have hex := extS_of (x := x0) (y := x1) (q := r0 / r1) (by omega) (by omega) (by omega) (by omega) (by omega)
  have hey := extS_of (x := y0) (y := y1) (q := r0 / r1) (by omega) (by omega) (by omega) (by omega) (by omega)
  refine WC.skip (WX.then_normal (WC.block (WC.sr ?_)))
  refine Kq rfl (rd_iaa rfl rfl rfl Tryz.underlying56 (by kernel_rfl : _ = some 1) ?_ (by (try simp only [sN, Int.reduceToNat, Nat.reduceAdd, Nat.reduceMul, Nat.reduceSub]); rfl)) ?_
  ·omega
  refine Kq rfl (ld rfl rfl .tc Tryz.underlying22 rfl (by rfl)) ?_
  refine Kq rfl (rd_iaa rfl rfl rfl Tryz.underlying56 (by kernel_rfl : _ = some 1) ?_ (by (try simp only [sN, Int.reduceToNat, Nat.reduceAdd, Nat.reduceMul, Nat.reduceSub]); rfl)) ?_
  ·omega
  refine Kq rfl (ld rfl rfl .tc Tryz.underlying22 rfl (by rfl)) ?_
  refine Kh rfl (og_call rfl rfl (by kernel_rfl) (keep_val fun w hS => (by have := divmod_c (w := w) (a := canon r0) (b := canon r1); rw [hdv] at this; exact this))) ?_
  intro _
  refine Km rfl (Kq rfl (rd_extL rfl rfl rfl) (Kq rfl (rd_extL rfl rfl rfl) (Kq rfl (rd_extL rfl rfl rfl) ?_)))
  refine Kh rfl (og_alloc rfl (v := (.string (S []))) (cs := [.string (S [])]) (by kernel_rfl) rfl) ?_
  intro b11
  refine WL.g0 rfl rfl (st rfl rfl rfl .tc (by kernel_rfl) rfl ?_ (by (simp only [List.set_cons_zero, List.set_cons_succ]; rfl))) ?_
  ·decide
  intro _
  refine Ka rfl (Ka rfl (WL.nt (WC.sr ?_)))
  refine Kq rfl (rd_mkf rfl rfl rfl) ?_
  refine Ka rfl (WL.nt (WC.sr ?_))
  refine Kq rfl (rd_iaa rfl rfl rfl Tryz.underlying56 (by kernel_rfl : _ = some 1) ?_ (by (try simp only [sN, Int.reduceToNat, Nat.reduceAdd, Nat.reduceMul, Nat.reduceSub]); rfl)) ?_
  ·omega
  refine Kq rfl (ld rfl rfl .tc Tryz.underlying22 rfl (by rfl)) ?_
  refine Km rfl ?_
  refine Kq rfl (rd_bld [[.string (S [])], [.string (S [])]] rfl rfl (by simp only [bld, fldv, Nat.beq, Value.cells, cond_true, cond_false, List.nil_append, List.cons_append, List.append_nil]; rfl) (fun w => by kernel_rfl)) ?_
  refine WL.g0 rfl rfl (sta rfl rfl rfl .tc ?_ ?_ ?_) ?_
  ·kernel_rfl
  ·simp [Value.oneCell']
  ·rfl
  intro _
  refine WL.nt ?_
  refine WC.free0 [0, 1, 2, 3, 4, 5] [6, 7] [0, 0, 1, 0, 0, 1, 2, 2] (by kernel_rfl) (by kernel_rfl) rfl ?_
  refine Kj rfl (rd_move rfl rfl) ?_
  refine Kj rfl (lda rfl rfl .tc Tryz.underlying79 rfl ?_) ?_
  ·kernel_rfl
  refine WJ.gv rfl rfl rfl rfl rfl (fun ext => og_callv rfl rfl rfl (by kernel_rfl) rfl (keep_val fun w hS => ext1_c (x := ofZ x0) (y := ofZ x1) (q := canon (r0 / r1)) (p := b11) (by (exact hS.os)))) ?_
  refine Kj rfl (rd_move rfl rfl) ?_
  refine Kj rfl (lda rfl rfl .tc Tryz.underlying79 rfl ?_) ?_
  ·kernel_rfl
  refine WJ.gv rfl rfl rfl rfl rfl (fun ext => og_callv rfl rfl rfl (by kernel_rfl) rfl (keep_val fun w hS => ext1_c (x := ofZ y0) (y := ofZ y1) (q := canon (r0 / r1)) (p := b11) (by (exact hS.os)))) ?_
  refine WJ.nil ?_
  refine WL.g0 rfl rfl (sta rfl rfl rfl .tc ?_ ?_ ?_) ?_
  ·kernel_rfl
  ·simp [Value.oneCell']
  ·rfl
  intro _
  refine WL.g0 rfl rfl (sta rfl rfl rfl .tc ?_ ?_ ?_) ?_
  ·kernel_rfl
  ·simp [Value.oneCell']
  ·rfl
  intro _
  refine WL.nil (WX.block_normal ?_)
  refine WX.loopO ((r1, r0 % r1, x1, x0 - (r0 / r1 : Nat) * x1, y1, y0 - (r0 / r1 : Nat) * y1)) (by (try dsimp only); exact hml) (sub_cons rfl (sub_cons rfl (sub_cons rfl (sub_cons rfl (sub_cons rfl (sub_cons rfl (sub_cons rfl (sub_nil _)))))))) (sub_nil _) ?_ (by rw [← hex, ← hey]; exact st_sub)
  (try dsimp only)
  exact ⟨hE', hr1, by omega, hx1, hl1, hy1, by omega⟩
 ·(try simp only [sB] at hc48)
  refine WC.exit (WX.then_exit (WX.then_exit (WX.block_exit ?_)))
  obtain rfl : r1 = 0 := by
   rcases Nat.eq_zero_or_pos r1 with h | h
   ·exact h
   ·exfalso; have : canon r1 ≠ [] := by rw [ne_eq, canon_nil]; omega
    simp_all
  obtain rfl : r0 = Nat.gcd (val a) (val b) := by rw [← hE.gc, Nat.gcd_zero_right]
  obtain ⟨gd, hg⟩ : ∃ gd, gd = Nat.gcd (val a) (val b) := ⟨_, rfl⟩
  have hg0 : 0 < gd := by rw [hg]; exact Nat.gcd_pos_of_pos_right _ hvb
  have hda : val a = val a / gd * gd := by rw [Nat.div_mul_cancel]; rw [hg]; exact Nat.gcd_dvd_left _ _
  have hdb : val b = val b / gd * gd := by rw [Nat.div_mul_cancel]; rw [hg]; exact Nat.gcd_dvd_right _ _
  have he0 := hE.e0
  rw [← hg] at he0 hr0 ⊢
  have hbl := Nat.div_le_self (val b) gd; have hal := Nat.div_le_self (val a) gd
  have hdvb : divN b (canon gd) = ((canon (val b / gd), canon (val b % gd)), 0) := by rw [divN_ok hb (okN_can (by omega)) (by rw [ne_eq, canon_nil]; omega), val_canon]
  have hdva : divN a (canon gd) = ((canon (val a / gd), canon (val a % gd)), 0) := by rw [divN_ok ha (okN_can (by omega)) (by rw [ne_eq, canon_nil]; omega), val_canon]
  have key : ∀ (X : Int) (q : Int), X * val a = x0 * val a + q * val b → ((val a : Int) * X) % (val b) = (gd : Int) % (val b) := fun X q h => by
   have e : (val a : Int) * X = gd + val b * (q - y0) := by
    rw [Int.mul_comm (val a : Int) X, h, ← he0, Int.mul_sub, Int.mul_comm q, Int.mul_comm x0]; omega
   rw [e, Int.add_mul_emod_self_left]
  refine WX.then_normal (WC.sr ?_)
  refine Kq rfl (rd_iaa rfl rfl rfl Tryz.underlying56 (by kernel_rfl : _ = some 1) ?_ (by (try simp only [sN, Int.reduceToNat, Nat.reduceAdd, Nat.reduceMul, Nat.reduceSub]); rfl)) ?_
  ·omega
  refine Kq rfl (ld rfl rfl .tc Tryz.underlying22 rfl (by rfl)) ?_
  refine Ka rfl (WL.nt ?_)
  refine WC.joinO (σ := Int × Zs) [(5, _), (6, _), (9, _), (10, _), (15, _)] (fun gq => []) (fun gq => ((val a : Int) * gq.1) % (val b) = (gd : Int) % (val b) ∧ (gd = 1 → 0 ≤ gq.1) ∧ gq.1.natAbs < Big) (fun gq => [⟨some b10, [.bool gq.2.1, .string (S gq.2.2), .bool (ofZ y1).1, .string (S (ofZ y1).2)], 79⟩, ⟨some b9, [.bool (ofZ gq.1).1, .string (S (ofZ gq.1).2), .bool (ofZ x1).1, .string (S (ofZ x1).2)], 79⟩, ⟨some b6, [.bool false, .string (S [])], 45⟩, ⟨some b5, [.bool false, .string (S [])], 45⟩]) (fun gq => []) (sub_cons rfl (sub_cons rfl (sub_cons rfl (sub_cons rfl (sub_cons rfl (sub_nil _)))))) ?_ ?_
  ·skip
   refine WC.sr ?_
   refine Kq rfl (rd_iaa rfl rfl rfl Tryz.underlying79 (by kernel_rfl : _ = some 2) ?_ (by (try simp only [sN, Int.reduceToNat, Nat.reduceAdd, Nat.reduceMul, Nat.reduceSub]); rfl)) ?_
   ·omega
   (refine Kq rfl (rd_fa rfl rfl Tryz.underlying45 rfl (by kernel_rfl) (by (try simp only [sN, Int.reduceToNat, Nat.reduceAdd, Nat.reduceMul, Nat.reduceSub]); rfl)) ?_)
   refine Kq rfl (ld rfl rfl .tc Tryz.underlying4 rfl (by rfl)) ?_
   refine WL.nt ?_
   refine WC.cond rfl (fun hc73 => ?_) (fun hc73 => ?_)
   ·(try simp only [sB] at hc73)
    have hneg : x0 < 0 := by rw [ofZ_eq] at hc73; simpa using hc73
    have aux : ∀ u : Nat, u ≤ val b → (x0 + (u : Int)).natAbs < Big := fun u hu => by omega
    have hadx : addZ (ofZ x0) (ofZ ((val b / gd : Nat) : Int)) = (ofZ (x0 + (val b / gd : Nat)), 0) := by
     rw [addZ_of (by omega) (by rw [Int.natAbs_natCast]; exact Nat.lt_of_le_of_lt hbl hbB), if_pos (aux _ hbl)]
    refine WC.sr (Km rfl (Km rfl ?_))
    refine Kh rfl (og_call rfl rfl (by kernel_rfl) (keep_val fun w hS => (by have := divmod_c (w := w) (a := b) (b := canon gd); rw [hdvb] at this; exact this))) ?_
    intro _
    refine Km rfl (Kq rfl (rd_extL rfl rfl rfl) (Kq rfl (rd_extL rfl rfl rfl) (Kq rfl (rd_extL rfl rfl rfl) (Ka rfl (Ka rfl (Ka rfl (WL.nt (WC.sr (Km rfl (Km rfl ?_))))))))))
    refine Kh rfl (og_call rfl rfl (by kernel_rfl) (keep_val fun w hS => (by have := divmod_c (w := w) (a := a) (b := canon gd); rw [hdva] at this; exact this))) ?_
    intro _
    refine Km rfl (Kq rfl (rd_extL rfl rfl rfl) (Kq rfl (rd_extL rfl rfl rfl) (Kq rfl (rd_extL rfl rfl rfl) (Ka rfl (Ka rfl (Ka rfl (WL.nt (WC.seq ?_))))))))
    refine WC.ordersP [(5, _), (6, _), (9, _), (10, _), (15, _), (19, _)] ([⟨some b10, [.bool (ofZ y0).1, .string (S (ofZ y0).2), .bool (ofZ y1).1, .string (S (ofZ y1).2)], 79⟩, ⟨some b9, [.bool (ofZ (x0 + (val b / gd : Nat))).1, .string (S (ofZ (x0 + (val b / gd : Nat))).2), .bool (ofZ x1).1, .string (S (ofZ x1).2)], 79⟩, ⟨some b8, [.string (S (canon gd)), .string (S (canon 0))], 56⟩, ⟨some b6, [.bool false, .string (S [])], 45⟩, ⟨some b5, [.bool false, .string (S [])], 45⟩]) ([]) (sub_cons rfl (sub_cons rfl (sub_cons rfl (sub_cons rfl (sub_cons rfl (sub_cons rfl (sub_nil _))))))) [[0, 1, 2, 3, 4, 5, 6, 7, 8, 9], [0, 1, 2, 3, 4, 5, 6, 8, 7, 9], [0, 1, 2, 3, 4, 5, 6, 8, 9, 7], [0, 1, 2, 3, 4, 5, 7, 6, 8, 9], [0, 2, 1, 3, 4, 5, 6, 7, 8, 9], [0, 2, 1, 3, 4, 5, 6, 8, 7, 9], [0, 2, 1, 3, 4, 5, 6, 8, 9, 7], [0, 2, 1, 3, 4, 5, 7, 6, 8, 9], [0, 2, 3, 1, 4, 5, 6, 7, 8, 9], [0, 2, 3, 1, 4, 5, 6, 8, 7, 9], [0, 2, 3, 1, 4, 5, 6, 8, 9, 7], [0, 2, 3, 1, 4, 5, 7, 6, 8, 9], [2, 0, 1, 3, 4, 5, 6, 7, 8, 9], [2, 0, 1, 3, 4, 5, 6, 8, 7, 9], [2, 0, 1, 3, 4, 5, 6, 8, 9, 7], [2, 0, 1, 3, 4, 5, 7, 6, 8, 9], [2, 0, 3, 1, 4, 5, 6, 7, 8, 9], [2, 0, 3, 1, 4, 5, 6, 8, 7, 9], [2, 0, 3, 1, 4, 5, 6, 8, 9, 7], [2, 0, 3, 1, 4, 5, 7, 6, 8, 9], [2, 3, 0, 1, 4, 5, 6, 7, 8, 9], [2, 3, 0, 1, 4, 5, 6, 8, 7, 9], [2, 3, 0, 1, 4, 5, 6, 8, 9, 7], [2, 3, 0, 1, 4, 5, 7, 6, 8, 9]] (by kernel_rfl) (by kernel_rfl) (by simp only [pickOps, List.map, List.getElem?_cons_zero, List.getElem?_cons_succ]; rfl) ?_ ?_
    ·repeat' (first | exact AllL.nil | refine AllL.cons ?_ ?_)
     all_goals (repeat (first | (refine Km rfl ?_) | (refine Kq rfl (rd_iaa rfl rfl rfl Tryz.underlying79 (by kernel_rfl : _ = some 2) ?_ (by (try simp only [sN, Int.reduceToNat, Nat.reduceAdd, Nat.reduceMul, Nat.reduceSub]); rfl)) ?_; focus omega) | (refine Kq rfl (ldp rfl rfl .tc Tryz.underlying45 rfl (by kernel_rfl : _ = some 2) (by rfl) (by rfl)) ?_) | (refine Kh rfl (og_call rfl rfl (by kernel_rfl) (keep_val fun w hS => (by have := zfrom_c (w := w) (a := canon (val b / gd)); rw [fromZ_of (Nat.lt_of_le_of_lt hbl hbB)] at this; exact this))) ?_; intro _) | (refine Kh rfl (og_call rfl rfl (by kernel_rfl) (keep_val fun w hS => (by have := zadd_c (w := w) (x := ofZ x0) (y := ofZ ((val b / gd : Nat) : Int)); rw [hadx] at this; exact this))) ?_; intro _) | (refine Kq rfl (rd_extL rfl rfl rfl) ?_) | (refine WL.g0 rfl rfl (stp rfl rfl rfl .tc (by kernel_rfl) (by simp [Value.oneCell']) (by (simp; done)) rfl) ?_; intro _)))
     all_goals (refine WL.nil ?_; exact WX.midP () (sub_cons rfl (sub_cons rfl (sub_cons rfl (sub_cons rfl (sub_cons rfl (sub_cons rfl (sub_nil _))))))) (by (exact fun _ h => h)))
    refine WX.then_normal ?_
    refine WC.ordersP [(5, _), (6, _), (9, _), (10, _), (15, _)] ([⟨some b10, [.bool (subZ (ofZ y0) (ofZ ((val a / gd : Nat) : Int))).1.1, .string (S (subZ (ofZ y0) (ofZ ((val a / gd : Nat) : Int))).1.2), .bool (ofZ y1).1, .string (S (ofZ y1).2)], 79⟩, ⟨some b9, [.bool (ofZ (x0 + (val b / gd : Nat))).1, .string (S (ofZ (x0 + (val b / gd : Nat))).2), .bool (ofZ x1).1, .string (S (ofZ x1).2)], 79⟩, ⟨some b8, [.string (S (canon gd)), .string (S (canon 0))], 56⟩, ⟨some b6, [.bool false, .string (S [])], 45⟩, ⟨some b5, [.bool false, .string (S [])], 45⟩]) ([]) (sub_cons rfl (sub_cons rfl (sub_cons rfl (sub_cons rfl (sub_cons rfl (sub_nil _)))))) [[0, 1, 2, 3, 4, 5, 6, 7, 8, 9], [0, 1, 2, 3, 4, 5, 6, 8, 7, 9], [0, 1, 2, 3, 4, 5, 6, 8, 9, 7], [0, 1, 2, 3, 4, 5, 7, 6, 8, 9], [0, 2, 1, 3, 4, 5, 6, 7, 8, 9], [0, 2, 1, 3, 4, 5, 6, 8, 7, 9], [0, 2, 1, 3, 4, 5, 6, 8, 9, 7], [0, 2, 1, 3, 4, 5, 7, 6, 8, 9], [0, 2, 3, 1, 4, 5, 6, 7, 8, 9], [0, 2, 3, 1, 4, 5, 6, 8, 7, 9], [0, 2, 3, 1, 4, 5, 6, 8, 9, 7], [0, 2, 3, 1, 4, 5, 7, 6, 8, 9], [2, 0, 1, 3, 4, 5, 6, 7, 8, 9], [2, 0, 1, 3, 4, 5, 6, 8, 7, 9], [2, 0, 1, 3, 4, 5, 6, 8, 9, 7], [2, 0, 1, 3, 4, 5, 7, 6, 8, 9], [2, 0, 3, 1, 4, 5, 6, 7, 8, 9], [2, 0, 3, 1, 4, 5, 6, 8, 7, 9], [2, 0, 3, 1, 4, 5, 6, 8, 9, 7], [2, 0, 3, 1, 4, 5, 7, 6, 8, 9], [2, 3, 0, 1, 4, 5, 6, 7, 8, 9], [2, 3, 0, 1, 4, 5, 6, 8, 7, 9], [2, 3, 0, 1, 4, 5, 6, 8, 9, 7], [2, 3, 0, 1, 4, 5, 7, 6, 8, 9]] (by kernel_rfl) (by kernel_rfl) (by simp only [pickOps, List.map, List.getElem?_cons_zero, List.getElem?_cons_succ]; rfl) ?_ ?_
    ·repeat' (first | exact AllL.nil | refine AllL.cons ?_ ?_)
     all_goals (repeat (first | (refine Km rfl ?_) | (refine Kq rfl (rd_iaa rfl rfl rfl Tryz.underlying79 (by kernel_rfl : _ = some 2) ?_ (by (try simp only [sN, Int.reduceToNat, Nat.reduceAdd, Nat.reduceMul, Nat.reduceSub]); rfl)) ?_; focus omega) | (refine Kq rfl (ldp rfl rfl .tc Tryz.underlying45 rfl (by kernel_rfl : _ = some 2) (by rfl) (by rfl)) ?_) | (refine Kh rfl (og_call rfl rfl (by kernel_rfl) (keep_val fun w hS => (by have := zfrom_c (w := w) (a := canon (val a / gd)); rw [fromZ_of (Nat.lt_of_le_of_lt hal haB)] at this; exact this))) ?_; intro _) | (refine Kh rfl (og_call rfl rfl (by kernel_rfl) (keep_val fun w hS => zsub_c (x := ofZ y0) (y := ofZ ((val a / gd : Nat) : Int)))) ?_; intro _) | (refine Kq rfl (rd_extL rfl rfl rfl) ?_) | (refine WL.g0 rfl rfl (stp rfl rfl rfl .tc (by kernel_rfl) (by simp [Value.oneCell']) (by (simp; done)) rfl) ?_; intro _)))
     all_goals (refine WL.nil ?_; exact WX.midP () (sub_cons rfl (sub_cons rfl (sub_cons rfl (sub_cons rfl (sub_cons rfl (sub_nil _)))))) (by (exact fun _ h => h)))
    refine WX.joinO (((x0 + (val b / gd : Nat)), (subZ (ofZ y0) (ofZ ((val a / gd : Nat) : Int))).1)) (sub_cons rfl (sub_cons rfl (sub_cons rfl (sub_cons rfl (sub_cons rfl (sub_nil _)))))) (sub_nil _) ?_ (by (exact st_sub))
    (try dsimp only)
    exact ⟨key _ (val a / gd : Nat) (by
     rw [Int.add_mul]; congr 1
     have e : val b / gd * val a = val a / gd * val b := by
      conv => lhs; rw [hda]
      conv => rhs; rw [hdb]
      ac_rfl
     exact_mod_cast e), fun h => by rw [h, Nat.div_one]; omega, aux _ hbl⟩
   ·(try simp only [sB] at hc73)
    have hnn : 0 ≤ x0 := by rw [ofZ_eq] at hc73; simpa using hc73
    refine WC.skip ?_
    refine WX.joinO ((x0, ofZ y0)) (sub_cons rfl (sub_cons rfl (sub_cons rfl (sub_cons rfl (sub_cons rfl (sub_nil _)))))) (sub_nil _) ?_ (by (exact st_sub))
    (try dsimp only)
    exact ⟨key _ 0 (by omega), fun _ => hnn, by omega⟩
  ·rintro ⟨X, Y⟩ hmeet; (try dsimp only at hmeet ⊢)
   refine WC.seq ?_
   refine WC.free (K := [⟨some b10, [.bool Y.1, .string (S Y.2), .bool (ofZ y1).1, .string (S (ofZ y1).2)], 79⟩, ⟨some b9, [.bool (ofZ X).1, .string (S (ofZ X).2), .bool (ofZ x1).1, .string (S (ofZ x1).2)], 79⟩]) (fs0 := []) [0, 1, 2, 5, 6, 3, 4] [7, 8] [0, 0, 0, 0, 0, 0, 1, 2, 2] (by kernel_rfl) (by kernel_rfl) rfl ?_
   refine Kj rfl (rd_move rfl rfl) ?_
   refine Kj rfl (rd_iaa rfl rfl rfl Tryz.underlying79 (by kernel_rfl : _ = some 2) ?_ (by (try simp only [sN, Int.reduceToNat, Nat.reduceAdd, Nat.reduceMul, Nat.reduceSub]); rfl)) ?_
   ·omega
   refine Kj rfl (ldp rfl rfl .tc Tryz.underlying45 rfl (by kernel_rfl : _ = some 2) (by rfl) (by rfl)) ?_
   refine Kj rfl (rd_assign rfl rfl) ?_
   refine WJ.st rfl rfl rfl rfl (staJ rfl rfl rfl ?_ ?_ ?_) ?_
   ·kernel_rfl
   ·simp [Value.oneCell']
   ·rfl
   refine Kj rfl (rd_iaa rfl rfl rfl Tryz.underlying79 (by kernel_rfl : _ = some 2) ?_ (by (try simp only [sN, Int.reduceToNat, Nat.reduceAdd, Nat.reduceMul, Nat.reduceSub]); rfl)) ?_
   ·omega
   refine Kj rfl (ldp rfl rfl .tc Tryz.underlying45 rfl (by kernel_rfl : _ = some 2) (by rfl) (by rfl)) ?_
   refine WJ.nil ?_
   refine WL.g0 rfl rfl (sta rfl rfl rfl .tc ?_ ?_ ?_) ?_
   ·kernel_rfl
   ·simp [Value.oneCell']
   ·rfl
   intro _
   refine Ka rfl (WL.nt (WC.ret ?_))
   exact WX.retN rfl (.tmp rfl (.agg rfl .tc Tryz.underlying45 rfl (by kernel_rfl) (.agg rfl .tc Tryz.underlying45 rfl (by kernel_rfl) (.tmp rfl .nil)))) fun w' hS => ⟨(X, Y), rfl, hmeet, hS.below, fun _ h => by cases h⟩
end Go.Proofs.YtnimhldbblfgbaaGreat
namespace Go.Proofs.YtnimhldbblfgbaaGreat
set_option linter.unusedSimpArgs false
set_option linter.unusedVariables false
set_option maxRecDepth 20000
set_option maxHeartbeats 600000
open Go.RowKit
def invM (a m : Bs) : Bs × Int := if chkM [a] [m] = 0 then (if Nat.gcd (val a) (val m) = 1 then (canon (invN (val a) (val m)), 0) else ([], 9)) else ([], chkM [a] [m])
theorem chk1 {a m : Bs} (h : chkM [a] [m] = 0) : okN a ∧ okN m ∧ m ≠ [] := by
 obtain ⟨h1, h2⟩ := chk_ok h
 exact ⟨h1 a (by simp), h1 m (by simp), fun e => h2 (by simp [e])⟩
theorem gcd_mod (a m : Nat) : Nat.gcd (a % m) m = Nat.gcd a m := by rw [Nat.gcd_comm, gcd_rec']
/-- a coefficient of 1 is an inverse -/
theorem inv_of_coef {a m : Nat} {X : Int} (hm : 0 < m) (h : ((a : Int) * X) % m = (1 : Int) % m) (h0 : 0 ≤ X) : invN a m = X.natAbs % m := by
 obtain ⟨x, rfl⟩ : ∃ x : Nat, X = x := ⟨X.toNat, by omega⟩
 rw [Int.natAbs_natCast]
 apply invN_eq (Nat.mod_lt _ hm)
 rw [mmr]
 exact_mod_cast h
theorem minv_c {a m : Bs} {w : World} :
  Calls Tryz.prog 108 #[.string (S a), .string (S m)] w fun e w' => e = .returned (NE (invM a m)) ∧ Below w.heap.size w w' := by
 refine enter (S := St (fun _ => True) w [] ([])) (L := [(0, .string (S a)), (1, .string (S m))]) Tryz.func108 rfl Tryz.ntmps108 rfl (args_cons rfl (args_cons rfl (args_nil _))) (St.start (fun _ _ => trivial) facts_nil) ?_
 refine WC.sr (Ka rfl (Ka rfl (WL.nt (WC.seq (WC.sr (Km rfl ?_))))))
 refine Kh rfl (og_bs1 rfl rfl Tryz.underlying60 (by kernel_rfl : _ = some (some (.string (S [])), 1, 16)) rfl (by simp only [List.map]; rfl) rfl rfl ?_ (by decide)) ?_
 ·simp [Value.cells]
 intro b12
 refine Km rfl ?_
 refine Kh rfl (og_bs1 rfl rfl Tryz.underlying60 (by kernel_rfl : _ = some (some (.string (S [])), 1, 16)) rfl (by simp only [List.map]; rfl) rfl rfl ?_ (by decide)) ?_
 ·simp [Value.cells]
 intro b14
 refine Kh rfl (og_call rfl rfl (by kernel_rfl) (keep_val fun w hS => check_c (l := [a]) (ms := [m]) (by (exact hS.os)) (by (exact hS.os)) (by (simp <;> omega)) (by (simp <;> omega)) (by (simp <;> omega)) (by (simp <;> omega)))) ?_
 intro _
 refine Ka rfl (WL.nt (WC.sr (Km rfl (Kq rfl (rd_neq rfl rfl rfl) (WL.nt ?_)))))
 refine WC.cond rfl (fun hc17 => ?_) (fun hc17 => ?_)
 ·(try simp only [sB] at hc17)
  have hr : invM a m = ([], chkM [a] [m]) := by rw [invM, if_neg (by simpa using hc17)]
  refine WC.sr (Km rfl (Ka rfl (Ka rfl (WL.nt (WC.ret (WX.then_ret ?_))))))
  exact WX.retN rfl (.tmp rfl (.tmp rfl .nil)) fun w' hS => ⟨by rw [hr]; rfl, hS.below⟩
 ·(try simp only [sB] at hc17)
  have h0 : chkM [a] [m] = 0 := by simpa using hc17
  obtain ⟨ha, hm, hm0⟩ := chk1 h0
  have hp := vpos hm hm0
  have hmB := okN_val hm
  have hak : okN (canon (val a % val m)) := okN_can (by have := Nat.mod_lt (val a) hp; omega)
  have hvk : val (canon (val a % val m)) = val a % val m := val_canon _
  refine WC.skip (WX.then_normal (WC.sr (Km rfl (Km rfl ?_))))
  refine Kh rfl (og_call rfl rfl (by kernel_rfl) (keep_val fun w hS => reduced_c (a := a) (m := m) (by exact ha) (by exact hm) (by exact hm0))) ?_
  intro _
  refine Km rfl ?_
  refine Kh rfl (og_call rfl rfl (by kernel_rfl) (keep_ff fun w hS => zext_c (a := canon (val a % val m)) (b := m) (by exact hak) (by exact hm) (by exact hm0))) ?_
  rintro ⟨X24, Y24⟩
  refine WL.pu ?_
  intro hg24; (try dsimp only [List.cons_append, List.nil_append] at hg24 ⊢)
  refine Km rfl (Kq rfl (rd_extL rfl rfl rfl) (Kq rfl (rd_extL rfl rfl rfl) (Kq rfl (rd_extL rfl rfl rfl) (Kq rfl (rd_extL rfl rfl rfl) ?_))))
  refine Kh rfl (og_alloc rfl (v := (.agg #[.bool false, .string (S [])])) (cs := [.bool false, .string (S [])]) (by kernel_rfl) rfl) ?_
  intro b8
  refine Kh rfl (og_alloc rfl (v := (.agg #[.bool false, .string (S [])])) (cs := [.bool false, .string (S [])]) (by kernel_rfl) rfl) ?_
  intro b9
  refine Ka rfl ?_
  refine WL.g0 rfl rfl (sta rfl rfl rfl .tc ?_ ?_ ?_) ?_
  ·kernel_rfl
  ·simp [Value.oneCell']
  ·rfl
  intro _
  refine WL.g0 rfl rfl (sta rfl rfl rfl .tc ?_ ?_ ?_) ?_
  ·kernel_rfl
  ·simp [Value.oneCell']
  ·rfl
  intro _
  refine Ka rfl (WL.nt (WC.seq (WC.sr (Km rfl (Kq rfl (rd_neq rfl rfl rfl) (WL.nt ?_))))))
  refine WC.cond rfl (fun hc30 => by exfalso; (try simp only [sB] at hc30); exact hc30 trivial) (fun hc30 => ?_)
  (try simp only [sB] at hc30)
  refine WC.skip (WX.then_normal (WC.seq (WC.sr (Km rfl (Kq rfl (rd_sne rfl rfl rfl) (WL.nt ?_))))))
  refine WC.cond rfl (fun hc33 => ?_) (fun hc33 => ?_)
  ·(try simp only [sB] at hc33)
   have hr : invM a m = ([], 9) := by
    have h1 : ¬ Nat.gcd (val a) (val m) = 1 := fun h => by
     rw [hvk, gcd_mod, h, one_canon] at hc33; exact hc33 rfl
    rw [invM, if_pos h0, if_neg h1]
   refine WC.sr (Ka rfl (Ka rfl (WL.nt (WC.ret (WX.then_ret ?_)))))
   exact WX.retN rfl (.tmp rfl (.tmp rfl .nil)) fun w' hS => ⟨by rw [hr]; rfl, hS.below⟩
  ·(try simp only [sB] at hc33)
   have hg1 : Nat.gcd (val a) (val m) = 1 := by
    rw [hvk, gcd_mod] at hc33; exact canon_one.1 (by simpa using hc33)
   obtain ⟨hq1, hq2, hq3⟩ := hg24
   rw [hvk, gcd_mod, hg1] at hq1
   rw [hvk, gcd_mod] at hq2
   have hiv := inv_of_coef hp hq1 (hq2 hg1)
   rw [invN_mod] at hiv
   have hr : invM a m = (canon (invN (val a) (val m)), 0) := by rw [invM, if_pos h0, if_pos hg1]
   have hXa : (ofZ X24).2 = canon X24.natAbs := by rw [ofZ_eq]
   refine WC.skip (WX.then_normal (WC.sr ?_))
   refine Kq rfl (rd_fa (q := 1) rfl rfl Tryz.underlying45 rfl (by kernel_rfl) rfl) ?_
   refine Kq rfl (ld rfl rfl .tc Tryz.underlying22 rfl (by rfl)) ?_
   refine Km rfl ?_
   refine Kh rfl (og_call rfl rfl (by kernel_rfl) (keep_val fun w hS => reduced_c (a := (ofZ X24).2) (m := m) (by rw [hXa]; exact okN_can hq3) (by exact hm) (by exact hm0))) ?_
   intro _
   refine Ka rfl (Ka rfl (WL.nt (WC.ret ?_)))
   exact WX.retN rfl (.tmp rfl (.tmp rfl .nil)) fun w' hS => ⟨by rw [hr, hiv, hXa, val_canon]; rfl, hS.below⟩
/-- a power with an exponent that may be negative -/
def powM (a : Bs) (x : Zs) (m : Bs) : Bs × Int :=
 if okN a ∧ okZ x ∧ okN m then (if m = [] then ([], 11) else if x.1 = true then (if Nat.gcd (val a) (val m) = 1 then (canon (invN (val a) (val m) ^ val x.2 % val m), 0) else ([], 9)) else (canon (val a ^ val x.2 % val m), 0)) else ([], 3)
theorem invM_ok {a m : Bs} (ha : okN a) (hm : okN m) (hm0 : m ≠ []) : invM a m = if Nat.gcd (val a) (val m) = 1 then (canon (invN (val a) (val m)), 0) else ([], 9) := by
 rw [invM, if_pos (chk_zero (by intro x hx; simp at hx; rcases hx with rfl | rfl <;> assumption) (by simpa using fun h => hm0 h))]
end Go.Proofs.YtnimhldbblfgbaaGreat
namespace Go.Proofs.YtnimhldbblfgbaaGreat
set_option linter.unusedSimpArgs false
set_option linter.unusedVariables false
set_option maxRecDepth 20000
set_option maxHeartbeats 600000
open Go.RowKit
abbrev zc (z : Zs) : List Value := [.bool z.1, .string (S z.2)]
abbrev ints (l : List Zs) : List Value := l.flatMap zc
def chkP (g : Gp) (l : List Bs) (es : List Zs) (same : Bool) : Int :=
 if ¬ (∀ x ∈ l, okN x) then 3 else if ¬ (∀ x ∈ es, okZ x) then 3 else if chkG g ≠ 0 then chkG g else if same = false then 6 else if ¬ (∀ x ∈ l, elG g x) then 13 else 0
theorem checked_c {g : Gp} {l : List Bs} {es : List Zs} {same : Bool} {a b : Option Addr} {c d : Nat} {w : World} {ok : Nat → Prop} (hF1 : (Fact.sl a (strs l)).holds ok w) (hF2 : (Fact.sl b (ints es)).holds ok w) (hl : l.length ≤ 1000000) (hes : es.length ≤ 1000000) (hm8 : g.1.length ≤ 8) :
  Calls Tryz.prog 107 #[gV g, .slice a l.length c, .slice b es.length d, .bool same] w fun e w' => e = .returned (.int .i64 (chkP g l es same)) ∧ Below w.heap.size w w' := by
 refine enter (S := St (fun _ => True) w [] ([Fact.sl a (strs l), Fact.sl b (ints es)])) (L := [(0, gV g), (1, .slice a l.length c), (2, .slice b es.length d), (3, .bool same)]) Tryz.func107 rfl Tryz.ntmps107 rfl (args_cons rfl (args_cons rfl (args_cons rfl (args_cons rfl (args_nil _))))) (St.start (fun _ _ => trivial) (facts_cons (fact_any hF1) (facts_cons (fact_any hF2) facts_nil))) ?_
 refine WC.sr ?_
 refine Kh rfl (og_box rfl rfl (by (exact cells_agg _))) ?_
 intro b4
 refine Ka rfl (WL.nt (WC.seq (WC.sr (Km rfl (Kq rfl (rd_len rfl rfl Tryz.underlying60) (Km rfl (WL.nt (WC.block ?_))))))))
 refine WC.loopP (σ := Nat) [(1, _), (2, _), (3, _), (4, _), (16, _), (17, _)] (fun gq => [(18, .int .i64 (gq : Int))]) (fun gq => gq ≤ l.length ∧ ∀ x ∈ l.take gq, okN x) (fun gq => l.length - gq) (0) (sub_cons rfl (sub_cons rfl (sub_cons rfl (sub_cons rfl (sub_cons rfl (sub_cons rfl (sub_nil _))))))) (sub_cons rfl (sub_nil _)) (by (try dsimp only); exact ⟨Nat.zero_le _, by simp⟩) ?_
 rintro i hinv1; (try dsimp only at hinv1 ⊢)
 obtain ⟨hi, hok⟩ := hinv1
 refine WC.sr (Kq rfl (rd_lss rfl rfl rfl) (WL.nt (WC.seq ?_)))
 refine WC.cond rfl (fun hc19 => ?_) (fun hc19 => ?_)
 ·(try simp only [sB] at hc19)
  have hil : i < l.length := by omega
  refine WC.skip (WX.then_normal (WC.seq (WC.block (WC.sr ?_))))
  (refine Kq rfl (iaf rfl rfl rfl Tryz.underlying60 (by kernel_rfl : _ = some 1) ?_ ?_ (by (try simp only [sN, Int.reduceToNat, Nat.reduceAdd, Nat.reduceMul, Nat.reduceSub]); rfl)) ?_; (focus (omega)); (focus ((rw [List.length_map]; omega))))
  (refine Kq rfl (ldm rfl rfl Tryz.underlying22 rfl ?_) ?_; (focus (assumption)))
  refine Ka rfl (WL.nt (WC.sr (Km rfl ?_)))
  refine Kh rfl (og_call rfl rfl (by kernel_rfl) (keep_val fun w hS => valid_c (a := l.getD i default))) ?_
  intro _
  refine Kq rfl (rd_not rfl rfl) (WL.nt ?_)
  refine WC.cond rfl (fun hc24 => ?_) (fun hc24 => ?_)
  ·(try simp only [sB] at hc24)
   refine WC.sr (Ka rfl (WL.nt (WC.ret (WX.block_ret (WX.then_ret (WX.then_ret (WX.block_ret (WX.then_ret ?_))))))))
   exact WX.retN rfl (.tmp rfl .nil) fun w' hS => ⟨by rw [chkP, if_pos (fun h => absurd (h _ (getD_mem _ _ hil)) (by simpa using hc24))]; rfl, hS.below⟩
  ·(try simp only [sB] at hc24)
   refine WC.skip (WX.block_normal (WX.then_normal (WC.region ?_)))
   (refine Kq rfl (rd_add64nl rfl rfl rfl ?_) ?_; (focus (omega)))
   refine Km rfl (WL.nil ?_)
   refine WX.loopP (i + 1) (by (try dsimp only); omega) (sub_cons rfl (sub_cons rfl (sub_cons rfl (sub_cons rfl (sub_cons rfl (sub_cons rfl (sub_nil _))))))) (by refine (sub_cons ?_ (sub_nil _)) <;> (rfl)) ?_ (by (exact fun _ h => h))
   (try dsimp only)
   exact ⟨hil, all_take hil hok (by simpa using hc24)⟩
 ·(try simp only [sB] at hc19)
  refine WC.exit (WX.then_exit (WX.then_exit (WX.block_exit ?_)))
  obtain rfl : i = l.length := by omega
  rw [List.take_length] at hok
  refine WX.then_normal (WC.seq (WC.sr (Km rfl (Kq rfl (rd_len rfl rfl Tryz.underlying49) (Km rfl (WL.nt (WC.block ?_)))))))
  refine WC.loopO (σ := Nat) [(1, _), (3, _), (4, _), (26, _), (27, _)] (fun gq => [(28, .int .i64 (gq : Int))]) (fun gq => gq ≤ es.length ∧ ∀ x ∈ es.take gq, okZ x) (fun gq => es.length - gq) (fun gq => [⟨some b4, [.string (S g.1), .string (S g.2)], 24⟩]) (fun gq => [Fact.sl a (strs l), Fact.sl b (ints es)]) (0) (sub_cons rfl (sub_cons rfl (sub_cons rfl (sub_cons rfl (sub_cons rfl (sub_nil _)))))) (sub_cons rfl (sub_nil _)) (by (try dsimp only); exact ⟨Nat.zero_le _, by simp⟩) (by (exact fun _ h => h)) ?_
  rintro k hinv2; (try dsimp only at hinv2 ⊢)
  obtain ⟨hk, hokz⟩ := hinv2
  refine WC.sr (Kq rfl (rd_lss rfl rfl rfl) (WL.nt (WC.seq ?_)))
  refine WC.cond rfl (fun hc29 => ?_) (fun hc29 => ?_)
  ·(try simp only [sB] at hc29)
   have hkl : k < es.length := by omega
   refine WC.skip (WX.then_normal (WC.seq (WC.block (WC.sr ?_))))
   (refine Kq rfl (iaf rfl rfl rfl Tryz.underlying49 (by kernel_rfl : _ = some 2) ?_ ?_ (by (try simp only [sN, Int.reduceToNat, Nat.reduceAdd, Nat.reduceMul, Nat.reduceSub]); rfl)) ?_; (focus (omega)); (focus ((rw [flatMap_len _ _ 2 (fun _ => rfl)]; omega))))
   (refine Kq rfl (ldma _ rfl rfl Tryz.underlying45 rfl (by kernel_rfl : _ = some 2) (fun _ => rfl) (by decide) rfl ?_) ?_; (focus (assumption)))
   refine Kh rfl (og_alloc rfl (v := (.agg #[.bool false, .string (S [])])) (cs := [.bool false, .string (S [])]) (by kernel_rfl) rfl) ?_
   intro b12
   refine WL.g0 rfl rfl (sta rfl rfl rfl .tc ?_ ?_ ?_) ?_
   ·kernel_rfl
   ·simp [Value.oneCell']
   ·rfl
   intro _
   refine WL.nt (WC.sr ?_)
   refine Kq rfl (lda rfl rfl .tc Tryz.underlying45 rfl ?_) ?_
   ·kernel_rfl
   refine Kh rfl (og_call rfl rfl (by kernel_rfl) (keep_val fun w hS => zvalid_c (x := es.getD k default))) ?_
   intro _
   refine Kq rfl (rd_not rfl rfl) (WL.nt ?_)
   refine WC.cond rfl (fun hc34 => ?_) (fun hc34 => ?_)
   ·(try simp only [sB] at hc34)
    refine WC.sr (Ka rfl (WL.nt (WC.ret (WX.block_ret (WX.then_ret (WX.then_ret (WX.block_ret (WX.then_ret ?_))))))))
    exact WX.retN rfl (.tmp rfl .nil) fun w' hS => ⟨by rw [chkP, if_neg (fun h => h hok), if_pos (fun h => absurd (h _ (getD_mem _ _ hkl)) (by simpa using hc34))]; rfl, hS.below⟩
   ·(try simp only [sB] at hc34)
    refine WC.skip (WX.block_normal (WX.then_normal (WC.region ?_)))
    (refine Kq rfl (rd_add64nl rfl rfl rfl ?_) ?_; (focus (omega)))
    refine Km rfl (WL.nil ?_)
    refine WX.loopO (k + 1) (by (try dsimp only); omega) (sub_cons rfl (sub_cons rfl (sub_cons rfl (sub_cons rfl (sub_cons rfl (sub_nil _)))))) (by refine (sub_cons ?_ (sub_nil _)) <;> (rfl)) ?_ (by (exact st_sub))
    (try dsimp only)
    exact ⟨hkl, all_take hkl hokz (by simpa using hc34)⟩
  ·(try simp only [sB] at hc29)
   refine WC.exit (WX.then_exit (WX.then_exit (WX.block_exit ?_)))
   obtain rfl : k = es.length := by omega
   rw [List.take_length] at hokz
   refine WX.then_normal (WC.seq (WC.sr ?_))
   refine Kq rfl (lda rfl rfl .tc Tryz.underlying24 rfl ?_) ?_
   ·kernel_rfl
   refine Kh rfl (og_call rfl rfl (by kernel_rfl) (keep_val fun w hS => pcheck_c (g := g))) ?_
   intro _
   refine Ka rfl (WL.nt (WC.sr (Km rfl (Kq rfl (rd_neq rfl rfl rfl) (WL.nt ?_)))))
   refine WC.cond rfl (fun hc39 => ?_) (fun hc39 => ?_)
   ·(try simp only [sB] at hc39)
    refine WC.sr (Km rfl (Ka rfl (WL.nt (WC.ret (WX.then_ret ?_)))))
    exact WX.retN rfl (.tmp rfl .nil) fun w' hS => ⟨by rw [chkP, if_neg (fun h => h hok), if_neg (fun h => h hokz), if_pos (by simpa using hc39)]; rfl, hS.below⟩
   ·(try simp only [sB] at hc39)
    have hg : chkG g = 0 := by simpa using hc39
    refine WC.skip (WX.then_normal (WC.seq (WC.sr (Km rfl (Kq rfl (rd_not rfl rfl) (WL.nt ?_))))))
    refine WC.cond rfl (fun hc42 => ?_) (fun hc42 => ?_)
    ·(try simp only [sB] at hc42)
     refine WC.sr (Ka rfl (WL.nt (WC.ret (WX.then_ret ?_))))
     exact WX.retN rfl (.tmp rfl .nil) fun w' hS => ⟨by rw [chkP, if_neg (fun h => h hok), if_neg (fun h => h hokz), if_neg (fun h => h hg), if_pos (by simpa using hc42)]; rfl, hS.below⟩
    ·(try simp only [sB] at hc42)
     refine WC.skip (WX.then_normal (WC.seq (WC.sr (Km rfl (Kq rfl (rd_len rfl rfl Tryz.underlying60) (Km rfl (WL.nt (WC.block ?_))))))))
     refine WC.loopP (σ := Nat) [(4, _), (43, _), (44, _)] (fun gq => [(45, .int .i64 (gq : Int))]) (fun gq => gq ≤ l.length ∧ ∀ x ∈ l.take gq, elG g x) (fun gq => l.length - gq) (0) (sub_cons rfl (sub_cons rfl (sub_cons rfl (sub_nil _)))) (sub_cons rfl (sub_nil _)) (by (try dsimp only); exact ⟨Nat.zero_le _, by simp⟩) ?_
     rintro i3 hinv3; (try dsimp only at hinv3 ⊢)
     obtain ⟨hi3, hel⟩ := hinv3
     refine WC.sr (Kq rfl (rd_lss rfl rfl rfl) (WL.nt (WC.seq ?_)))
     refine WC.cond rfl (fun hc46 => ?_) (fun hc46 => ?_)
     ·(try simp only [sB] at hc46)
      have hil3 : i3 < l.length := by omega
      refine WC.skip (WX.then_normal (WC.seq (WC.block (WC.sr ?_))))
      (refine Kq rfl (iaf rfl rfl rfl Tryz.underlying60 (by kernel_rfl : _ = some 1) ?_ ?_ (by (try simp only [sN, Int.reduceToNat, Nat.reduceAdd, Nat.reduceMul, Nat.reduceSub]); rfl)) ?_; (focus (omega)); (focus ((rw [List.length_map]; omega))))
      (refine Kq rfl (ldm rfl rfl Tryz.underlying22 rfl ?_) ?_; (focus (assumption)))
      refine Ka rfl (WL.nt (WC.sr ?_))
      refine Kq rfl (lda rfl rfl .tc Tryz.underlying24 rfl ?_) ?_
      ·kernel_rfl
      refine Km rfl ?_
      refine Kh rfl (og_call rfl rfl (by kernel_rfl) (keep_val fun w hS => pwhas0_c (g := g) (x := l.getD i3 default) (by exact hg) (by exact hm8))) ?_
      intro _
      refine Kq rfl (rd_not rfl rfl) (WL.nt ?_)
      refine WC.cond rfl (fun hc52 => ?_) (fun hc52 => ?_)
      ·(try simp only [sB] at hc52)
       refine WC.sr (Ka rfl (WL.nt (WC.ret (WX.block_ret (WX.then_ret (WX.then_ret (WX.block_ret (WX.then_ret ?_))))))))
       exact WX.retN rfl (.tmp rfl .nil) fun w' hS => ⟨by rw [chkP, if_neg (fun h => h hok), if_neg (fun h => h hokz), if_neg (fun h => h hg), if_neg (by simpa using hc42), if_pos (fun h => absurd (h _ (getD_mem _ _ hil3)) (by simpa using hc52))]; rfl, hS.below⟩
      ·(try simp only [sB] at hc52)
       refine WC.skip (WX.block_normal (WX.then_normal (WC.region ?_)))
       (refine Kq rfl (rd_add64nl rfl rfl rfl ?_) ?_; (focus (omega)))
       refine Km rfl (WL.nil ?_)
       refine WX.loopP (i3 + 1) (by (try dsimp only); omega) (sub_cons rfl (sub_cons rfl (sub_cons rfl (sub_nil _)))) (by refine (sub_cons ?_ (sub_nil _)) <;> (rfl)) ?_ (by (exact fun _ h => h))
       (try dsimp only)
       exact ⟨hil3, all_take hil3 hel (by simpa using hc52)⟩
     ·(try simp only [sB] at hc46)
      refine WC.exit (WX.then_exit (WX.then_exit (WX.block_exit ?_)))
      obtain rfl : i3 = l.length := by omega
      rw [List.take_length] at hel
      refine WX.then_normal (WC.sr (Ka rfl (WL.nt (WC.ret ?_))))
      exact WX.retN rfl (.tmp rfl .nil) fun w' hS => ⟨by rw [chkP, if_neg (fun h => h hok), if_neg (fun h => h hokz), if_neg (fun h => h hg), if_neg (by simpa using hc42), if_neg (fun h => h hel)]; rfl, hS.below⟩
end Go.Proofs.YtnimhldbblfgbaaGreat
