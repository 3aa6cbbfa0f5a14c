/-
  Parts of the walk: Mll.
-/
import Derived.Test.YtnimhldbblfgbaaGreatLM1
import Derived.Test.YtnimhldbblfgbaaGreatLD1
namespace Go.Proofs.YtnimhldbblfgbaaGreat
set_option linter.unusedSimpArgs false
set_option linter.unusedVariables false
set_option maxRecDepth 20000
set_option maxHeartbeats 600000
open Go.RowKit
theorem pw_ok {a b c : Opn} (h : (pwS a b c).2 = 0) : (mulZ a.1 b.1).2 = 0 ∧ (mulZ a.1 b.1).1 = c.1 ∧ (mulZ b.1 a.2).2 = 0 ∧ (subZ c.2 (mulZ b.1 a.2).1).2 = 0 ∧ (pwS a b c).1 = [b.1, b.2, (subZ c.2 (mulZ b.1 a.2).1).1] := by
 unfold pwS at h ⊢
 split at h
 ·simp at h
 ·rename_i h1; rw [if_neg h1]; split at h
  ·simp at h
  ·rename_i h2; rw [if_neg h2]; split at h
   ·rename_i h3; exact absurd h h3
   ·rename_i h3; rw [if_neg h3]; split at h
    ·rename_i h4; exact absurd h h4
    ·rename_i h4; rw [if_neg h4]
     have h2' : (mulZ a.1 b.1).2 = 0 ∧ (mulZ a.1 b.1).1 = c.1 := by
      constructor
      ·exact Decidable.byContradiction fun h => h2 (Or.inl h)
      ·exact Decidable.byContradiction fun h => h2 (Or.inr h)
     exact ⟨h2'.1, h2'.2, Decidable.not_not.1 h3, Decidable.not_not.1 h4, rfl⟩
theorem ml_law {k : PK} {o0 o1 o2 : Opn} {v r : Bs} (hw : (pwS o0 o1 o2).2 = 0) (ha : (comS k o0).2 = 0) (hb : (comS k o1).2 = 0) (hc : (comS k o2).2 = 0) (hs : (prS k (comS k o0).1 (comS k o1).1 (comS k o2).1 v r).2 = 0) :
  ∃ b : Bool, hldS (prS k (comS k o0).1 (comS k o1).1 (comS k o2).1 v r).1 (pwS o0 o1 o2).1 = (b, 0) ∧ (withP o0 v r ∧ withP o1 v r ∧ withP o2 v r → b = true) ∧ (b = true → withP o1 v r) := by
 obtain ⟨hok, hz00, hz01, hck, hc0⟩ := comS_ok ha
 obtain ⟨_, hz10, hz11, _, hc1⟩ := comS_ok hb
 obtain ⟨_, hz20, hz21, _, hc2⟩ := comS_ok hc
 obtain ⟨_, hg, hel⟩ := chkK_ok hck
 obtain ⟨p1, p2, p3, p4, p5⟩ := pw_ok hw
 obtain ⟨q1, q2⟩ := mulZ_zv hz00 hz10 p1
 obtain ⟨q3, q4⟩ := mulZ_zv hz10 hz01 p3
 rw [q3] at p4 p5
 have hzm : okZ (ofZ (zv o1.1 * zv o0.2)) := okZ_ofZ.2 q4
 obtain ⟨q5, q6⟩ := subZ_zv hz21 hzm p4
 rw [zv_ofZ] at q5 q6
 rw [q5] at p5
 have hzs : okZ (ofZ (zv o2.2 - zv o1.1 * zv o0.2)) := okZ_ofZ.2 q6
 have hm0 := elG_lt (x := k.2.1) hg
 have hmc : zv o2.1 = zv o0.1 * zv o1.1 := by rw [← p2, q1, zv_ofZ]
 have hea : elG k.1 (comS k o0).1 := by rw [hc0]; exact elG_prod (by rw [← hc0]; exact ha)
 have hva : val (comS k o0).1 = powI (val k.1.1) (val k.2.1) (zv o0.1) * powI (val k.1.1) (val k.2.2) (zv o0.2) % val k.1.1 := by
  rw [hc0, prodS_two hg hel.1 hel.2.1 hz00 hz01, val_canon]
 have e1 : (prodS k.1 [k.2.1, k.2.2] [o1.1, o1.2]).1 = (comS k o1).1 := by rw [hc1]
 have e2 : (prodS k.1 [(comS k o0).1, k.2.2] [o1.1, ofZ (zv o2.2 - zv o1.1 * zv o0.2)]).1 = (comS k o2).1 := by
  rw [hc2, prodS_two hg hel.1 hel.2.1 hz20 hz21, prodS_two hg hea hel.2.1 hz10 hzs, hva, zv_ofZ, com_pow hm0 (elG_gcd hg hel.1) (elG_gcd hg hel.2.1), ← hmc, show zv o0.2 * zv o1.1 + (zv o2.2 - zv o1.1 * zv o0.2) = zv o2.2 by rw [Int.mul_comm]; omega]
 rw [p5, pr_holds hs hz10 hz11 hzs]
 refine ⟨_, rfl, fun h => decide_eq_true ⟨⟨h.2.1.1, h.2.1.2, ?_⟩, e1, e2⟩, fun h => ⟨(of_decide_eq_true h).1.1, (of_decide_eq_true h).1.2.1⟩⟩
 have b1 := h.2.2.2
 have b2 : val o1.1.2 * val o0.2.2 ≤ val v * val r := Nat.mul_le_mul (Nat.le_of_lt h.2.1.1) (Nat.le_of_lt h.1.2)
 have b3 : (zv o1.1 * zv o0.2).natAbs = val o1.1.2 * val o0.2.2 := by rw [Int.natAbs_mul, zv_abs, zv_abs]
 have b4 : (zv o2.2).natAbs = val o2.2.2 := zv_abs _
 rw [← zv_abs, zv_ofZ]
 omega
theorem icmul_c {k : PK} {a b c : Opn} {x y : Bs} {w : World} :
  Calls Tryz.prog 6 #[pkV k, op3 a b c, .agg #[.string (S x), .string (S y)]] w fun e w' => e = .returned (.bool true) ∧ Below w.heap.size w w' := by
 refine enter (S := St (fun _ => True) w [] ([])) (L := [(0, pkV k), (1, op3 a b c), (2, .agg #[.string (S x), .string (S y)])]) Tryz.func6 rfl Tryz.ntmps6 rfl (args_cons rfl (args_cons rfl (args_cons rfl (args_nil _)))) (St.start (fun _ _ => trivial) facts_nil) ?_
 refine WC.sr ?_
 refine Kh rfl (og_box rfl rfl (by (exact cells_agg _))) ?_
 intro b3
 refine Kh rfl (og_box rfl rfl (by (exact cells_agg _))) ?_
 intro b4
 refine Kh rfl (og_box rfl rfl (by (exact cells_agg _))) ?_
 intro b5
 refine Ka rfl (WL.nt (WC.seq ?_))
 refine WC.joinP (σ := Unit) [(3, _), (4, _), (5, _)] (fun gq => [(36, .bool (decide (¬ (few14 k ∧ smP [a, b, c] ∧ shP [x, y] ∧ chkI k = 0))))]) (fun gq => True) (sub_cons rfl (sub_cons rfl (sub_cons rfl (sub_nil _)))) ?_ ?_
 ·skip
  refine WC.region ?_
  refine Kq rfl (lda rfl rfl .tc Tryz.underlying26 rfl ?_) ?_
  ·kernel_rfl
  refine Kh rfl (og_call rfl rfl (by kernel_rfl) (keep_val fun w hS => few14_c (k := k))) ?_
  intro _
  refine Kq rfl (rd_not rfl rfl) (Km rfl ?_)
  refine WL.bool 22 rfl (fun hg22 => ?_) (fun hg22 => ?_)
  ·(try simp only [sB] at hg22)
   refine Kt rfl (Kt rfl (Kt rfl (Kq rfl (rd_pickt rfl rfl rfl) (Km rfl (Kt rfl (Kt rfl (Kt rfl (Kq rfl (rd_pickt rfl rfl rfl) (Km rfl (Kt rfl (Kt rfl ?_)))))))))))
   refine Kt rfl (Kq rfl (rd_pickt rfl rfl rfl) (WL.nil ?_))
   refine WX.joinP (()) (sub_cons rfl (sub_cons rfl (sub_cons rfl (sub_nil _)))) (by refine (sub_cons ?_ (sub_nil _)) <;> ((refine slot_b rfl ?_; (try dsimp only); (simp [*]; done)))) ?_ (by (exact fun _ h => h))
   (try dsimp only)
   done
  ·(try simp only [sB] at hg22)
   refine Kq rfl (rd_sla rfl rfl Tryz.underlying48 (by kernel_rfl : _ = some 4)) ?_
   refine Kh rfl (og_call rfl rfl (by kernel_rfl) (keep_val fun w hS => small26_c (l := [a, b, c]) (by (exact hS.os)) (by (simp <;> omega)))) ?_
   intro _
   refine Kq rfl (rd_not rfl rfl) (Kq rfl (rd_pickf rfl rfl rfl) (Km rfl ?_))
   refine WL.bool 27 rfl (fun hg27 => ?_) (fun hg27 => ?_)
   ·(try simp only [sB] at hg27)
    refine Kt rfl (Kt rfl (Kt rfl (Kq rfl (rd_pickt rfl rfl rfl) (Km rfl (Kt rfl (Kt rfl (Kt rfl (Kq rfl (rd_pickt rfl rfl rfl) (WL.nil ?_)))))))))
    refine WX.joinP (()) (sub_cons rfl (sub_cons rfl (sub_cons rfl (sub_nil _)))) (by refine (sub_cons ?_ (sub_nil _)) <;> ((refine slot_b rfl ?_; (try dsimp only); (simp [*]; done)))) ?_ (by (exact fun _ h => h))
    (try dsimp only)
    done
   ·(try simp only [sB] at hg27)
    refine Kq rfl (rd_sla rfl rfl Tryz.underlying56 (by kernel_rfl : _ = some 1)) ?_
    refine Kh rfl (og_call rfl rfl (by kernel_rfl) (keep_val fun w hS => short26_c (l := [x, y]) (by (exact hS.os)) (by (simp <;> omega)))) ?_
    intro _
    refine Kq rfl (rd_not rfl rfl) (Kq rfl (rd_pickf rfl rfl rfl) (Km rfl ?_))
    refine WL.bool 32 rfl (fun hg32 => ?_) (fun hg32 => ?_)
    ·(try simp only [sB] at hg32)
     refine Kt rfl (Kt rfl (Kt rfl (Kq rfl (rd_pickt rfl rfl rfl) (WL.nil ?_))))
     refine WX.joinP (()) (sub_cons rfl (sub_cons rfl (sub_cons rfl (sub_nil _)))) (by refine (sub_cons ?_ (sub_nil _)) <;> ((refine slot_b rfl ?_; (try dsimp only); (simp [*]; done)))) ?_ (by (exact fun _ h => h))
     (try dsimp only)
     done
    ·(try simp only [sB] at hg32)
     refine Kq rfl (lda rfl rfl .tc Tryz.underlying26 rfl ?_) ?_
     ·kernel_rfl
     refine Kh rfl (og_call rfl rfl (by kernel_rfl) (keep_val fun w hS => icheck_c (k := k) (by exact (show few14 k by assumption).1))) ?_
     intro _
     refine Kq rfl (rd_neq rfl rfl rfl) (Kq rfl (rd_pickf rfl rfl rfl) (WL.nil ?_))
     refine WX.joinP (()) (sub_cons rfl (sub_cons rfl (sub_cons rfl (sub_nil _)))) (by refine (sub_cons ?_ (sub_nil _)) <;> ((refine slot_b rfl ?_; (try dsimp only); (simp [*]; done)))) ?_ (by (exact fun _ h => h))
     (try dsimp only)
     done
 ·rintro _ hmeet; (try dsimp only at hmeet ⊢)
  refine WC.cond rfl (fun hc36 => ?_) (fun hc36 => ?_)
  ·(try simp only [sB] at hc36)
   refine WC.sr ?_
   refine Kh rfl (og_call rfl rfl (by kernel_rfl) (keep_val fun w hS => awake26_c)) ?_
   intro _
   refine Ka rfl (WL.nt (WC.ret (WX.then_ret ?_)))
   exact WX.retN rfl (.tmp rfl .nil) fun w' hS => ⟨by rfl, hS.below⟩
  ·(try simp only [sB] at hc36)
   obtain ⟨hfw, hsm, hsh, hk⟩ := Decidable.not_not.1 hc36
   have hm8 := hfw.1
   refine WC.skip (WX.then_normal (WC.sr ?_))
   refine Kq rfl (rd_iaa rfl rfl rfl Tryz.underlying48 (by kernel_rfl : _ = some 4) ?_ (by (try simp only [sN, Int.reduceToNat, Nat.reduceAdd, Nat.reduceMul, Nat.reduceSub]); rfl)) ?_
   ·omega
   refine Kq rfl (ldp rfl rfl .tc Tryz.underlying47 rfl (by kernel_rfl : _ = some 4) (by rfl) (by rfl)) ?_
   refine Kq rfl (rd_iaa rfl rfl rfl Tryz.underlying48 (by kernel_rfl : _ = some 4) ?_ (by (try simp only [sN, Int.reduceToNat, Nat.reduceAdd, Nat.reduceMul, Nat.reduceSub]); rfl)) ?_
   ·omega
   refine Kq rfl (ldp rfl rfl .tc Tryz.underlying47 rfl (by kernel_rfl : _ = some 4) (by rfl) (by rfl)) ?_
   refine Kq rfl (rd_iaa rfl rfl rfl Tryz.underlying48 (by kernel_rfl : _ = some 4) ?_ (by (try simp only [sN, Int.reduceToNat, Nat.reduceAdd, Nat.reduceMul, Nat.reduceSub]); rfl)) ?_
   ·omega
   refine Kq rfl (ldp rfl rfl .tc Tryz.underlying47 rfl (by kernel_rfl : _ = some 4) (by rfl) (by rfl)) ?_
   refine Kh rfl (og_call rfl rfl (by kernel_rfl) (keep_f1 fun w hS => icpw_c (a := a) (b := b) (c := c))) ?_
   intro g45
   refine WL.pu ?_
   intro hg45; (try dsimp only at hg45 ⊢)
   refine Km rfl (Kq rfl (rd_extL rfl rfl rfl) (Kq rfl (rd_extL rfl rfl rfl) (Ka rfl (Ka rfl (WL.nt (WC.sr ?_))))))
   refine Kq rfl (lda rfl rfl .tc Tryz.underlying26 rfl ?_) ?_
   ·kernel_rfl
   refine Kq rfl (rd_iaa rfl rfl rfl Tryz.underlying48 (by kernel_rfl : _ = some 4) ?_ (by (try simp only [sN, Int.reduceToNat, Nat.reduceAdd, Nat.reduceMul, Nat.reduceSub]); rfl)) ?_
   ·omega
   refine Kq rfl (ldp rfl rfl .tc Tryz.underlying47 rfl (by kernel_rfl : _ = some 4) (by rfl) (by rfl)) ?_
   refine Kh rfl (og_call rfl rfl (by kernel_rfl) (keep_val fun w hS => commit_c (k := k) (o := a) (by assumption))) ?_
   intro _
   refine Km rfl (Kq rfl (rd_extL rfl rfl rfl) (Kq rfl (rd_extL rfl rfl rfl) (Ka rfl (Ka rfl (WL.nt (WC.sr ?_))))))
   refine Kq rfl (lda rfl rfl .tc Tryz.underlying26 rfl ?_) ?_
   ·kernel_rfl
   refine Kq rfl (rd_iaa rfl rfl rfl Tryz.underlying48 (by kernel_rfl : _ = some 4) ?_ (by (try simp only [sN, Int.reduceToNat, Nat.reduceAdd, Nat.reduceMul, Nat.reduceSub]); rfl)) ?_
   ·omega
   refine Kq rfl (ldp rfl rfl .tc Tryz.underlying47 rfl (by kernel_rfl : _ = some 4) (by rfl) (by rfl)) ?_
   refine Kh rfl (og_call rfl rfl (by kernel_rfl) (keep_val fun w hS => commit_c (k := k) (o := b) (by assumption))) ?_
   intro _
   refine Km rfl (Kq rfl (rd_extL rfl rfl rfl) (Kq rfl (rd_extL rfl rfl rfl) (Ka rfl (Ka rfl (WL.nt (WC.sr ?_))))))
   refine Kq rfl (lda rfl rfl .tc Tryz.underlying26 rfl ?_) ?_
   ·kernel_rfl
   refine Kq rfl (rd_iaa rfl rfl rfl Tryz.underlying48 (by kernel_rfl : _ = some 4) ?_ (by (try simp only [sN, Int.reduceToNat, Nat.reduceAdd, Nat.reduceMul, Nat.reduceSub]); rfl)) ?_
   ·omega
   refine Kq rfl (ldp rfl rfl .tc Tryz.underlying47 rfl (by kernel_rfl : _ = some 4) (by rfl) (by rfl)) ?_
   refine Kh rfl (og_call rfl rfl (by kernel_rfl) (keep_val fun w hS => commit_c (k := k) (o := c) (by assumption))) ?_
   intro _
   refine Km rfl (Kq rfl (rd_extL rfl rfl rfl) (Kq rfl (rd_extL rfl rfl rfl) (Ka rfl (Ka rfl (WL.nt (WC.sr ?_))))))
   refine Kq rfl (lda rfl rfl .tc Tryz.underlying26 rfl ?_) ?_
   ·kernel_rfl
   refine Km rfl (Km rfl (Km rfl ?_))
   refine Kq rfl (rd_iaa rfl rfl rfl Tryz.underlying56 (by kernel_rfl : _ = some 1) ?_ (by (try simp only [sN, Int.reduceToNat, Nat.reduceAdd, Nat.reduceMul, Nat.reduceSub]); rfl)) ?_
   ·omega
   refine Kq rfl (ld rfl rfl .tc Tryz.underlying22 rfl (by rfl)) ?_
   refine Kq rfl (rd_iaa rfl rfl rfl Tryz.underlying56 (by kernel_rfl : _ = some 1) ?_ (by (try simp only [sN, Int.reduceToNat, Nat.reduceAdd, Nat.reduceMul, Nat.reduceSub]); rfl)) ?_
   ·omega
   refine Kq rfl (ld rfl rfl .tc Tryz.underlying22 rfl (by rfl)) ?_
   refine Kh rfl (og_call rfl rfl (by kernel_rfl) (keep_ff fun w hS => icprod_c (k := k) (a := (comS k a).1) (b := (comS k b).1) (c := (comS k c).1) (v := x) (r := y) (by assumption))) ?_
   rintro s78
   refine WL.pu ?_
   intro hg78; (try dsimp only [List.cons_append, List.nil_append] at hg78 ⊢)
   refine Km rfl (Kq rfl (rd_extL rfl rfl rfl) (Kq rfl (rd_extL rfl rfl rfl) ?_))
   refine Kh rfl (og_alloc rfl (v := (.agg #[.slice none 0 0, .slice none 0 0, .slice none 0 0])) (cs := [.slice none 0 0, .slice none 0 0, .slice none 0 0]) (by kernel_rfl) rfl) ?_
   intro b15
   refine WL.g0 rfl rfl (sta rfl rfl rfl .tc ?_ ?_ ?_) ?_
   ·kernel_rfl
   ·simp [Value.oneCell']
   ·rfl
   intro _
   refine Ka rfl (WL.nt (WC.seq ?_))
   refine WC.joinP (σ := Unit) [(4, _), (5, _), (7, _), (15, _)] (fun gq => [(98, .bool (decide (¬ ((pwS a b c).2 = 0 ∧ (comS k a).2 = 0 ∧ (comS k b).2 = 0 ∧ (comS k c).2 = 0 ∧ (prS k (comS k a).1 (comS k b).1 (comS k c).1 x y).2 = 0))))]) (fun gq => True) (sub_cons rfl (sub_cons rfl (sub_cons rfl (sub_cons rfl (sub_nil _))))) ?_ ?_
   ·skip
    refine WC.region (Km rfl (Kq rfl (rd_neq rfl rfl rfl) (Km rfl ?_)))
    refine WL.bool 83 rfl (fun hg83 => ?_) (fun hg83 => ?_)
    ·(try simp only [sB] at hg83)
     refine Kt rfl (Kt rfl (Kq rfl (rd_pickt rfl rfl rfl) (Km rfl (Kt rfl (Kt rfl (Kq rfl (rd_pickt rfl rfl rfl) (Km rfl (Kt rfl (Kt rfl (Kq rfl (rd_pickt rfl rfl rfl) (Km rfl ?_)))))))))))
     refine Kt rfl (Kt rfl (Kq rfl (rd_pickt rfl rfl rfl) (WL.nil ?_)))
     refine WX.joinP (()) (sub_cons rfl (sub_cons rfl (sub_cons rfl (sub_cons rfl (sub_nil _))))) (by refine (sub_cons ?_ (sub_nil _)) <;> ((refine slot_b rfl ?_; (try dsimp only); (simp [*]; done)))) ?_ (by (exact fun _ h => h))
     (try dsimp only)
     done
    ·(try simp only [sB] at hg83)
     refine Km rfl (Kq rfl (rd_neq rfl rfl rfl) (Kq rfl (rd_pickf rfl rfl rfl) (Km rfl ?_)))
     refine WL.bool 87 rfl (fun hg87 => ?_) (fun hg87 => ?_)
     ·(try simp only [sB] at hg87)
      refine Kt rfl (Kt rfl (Kq rfl (rd_pickt rfl rfl rfl) (Km rfl (Kt rfl (Kt rfl (Kq rfl (rd_pickt rfl rfl rfl) (Km rfl (Kt rfl (Kt rfl (Kq rfl (rd_pickt rfl rfl rfl) (WL.nil ?_)))))))))))
      refine WX.joinP (()) (sub_cons rfl (sub_cons rfl (sub_cons rfl (sub_cons rfl (sub_nil _))))) (by refine (sub_cons ?_ (sub_nil _)) <;> ((refine slot_b rfl ?_; (try dsimp only); (simp [*]; done)))) ?_ (by (exact fun _ h => h))
      (try dsimp only)
      done
     ·(try simp only [sB] at hg87)
      refine Km rfl (Kq rfl (rd_neq rfl rfl rfl) (Kq rfl (rd_pickf rfl rfl rfl) (Km rfl ?_)))
      refine WL.bool 91 rfl (fun hg91 => ?_) (fun hg91 => ?_)
      ·(try simp only [sB] at hg91)
       refine Kt rfl (Kt rfl (Kq rfl (rd_pickt rfl rfl rfl) (Km rfl (Kt rfl (Kt rfl (Kq rfl (rd_pickt rfl rfl rfl) (WL.nil ?_)))))))
       refine WX.joinP (()) (sub_cons rfl (sub_cons rfl (sub_cons rfl (sub_cons rfl (sub_nil _))))) (by refine (sub_cons ?_ (sub_nil _)) <;> ((refine slot_b rfl ?_; (try dsimp only); (simp [*]; done)))) ?_ (by (exact fun _ h => h))
       (try dsimp only)
       done
      ·(try simp only [sB] at hg91)
       refine Km rfl (Kq rfl (rd_neq rfl rfl rfl) (Kq rfl (rd_pickf rfl rfl rfl) (Km rfl ?_)))
       refine WL.bool 95 rfl (fun hg95 => ?_) (fun hg95 => ?_)
       ·(try simp only [sB] at hg95)
        refine Kt rfl (Kt rfl (Kq rfl (rd_pickt rfl rfl rfl) (WL.nil ?_)))
        refine WX.joinP (()) (sub_cons rfl (sub_cons rfl (sub_cons rfl (sub_cons rfl (sub_nil _))))) (by refine (sub_cons ?_ (sub_nil _)) <;> ((refine slot_b rfl ?_; (try dsimp only); (simp [*]; done)))) ?_ (by (exact fun _ h => h))
        (try dsimp only)
        done
       ·(try simp only [sB] at hg95)
        refine Km rfl (Kq rfl (rd_neq rfl rfl rfl) (Kq rfl (rd_pickf rfl rfl rfl) (WL.nil ?_)))
        refine WX.joinP (()) (sub_cons rfl (sub_cons rfl (sub_cons rfl (sub_cons rfl (sub_nil _))))) (by refine (sub_cons ?_ (sub_nil _)) <;> ((refine slot_b rfl ?_; (try dsimp only); (simp [*]; done)))) ?_ (by (exact fun _ h => h))
        (try dsimp only)
        done
   ·rintro _ hmeet; (try dsimp only at hmeet ⊢)
    refine WC.cond rfl (fun hc98 => ?_) (fun hc98 => ?_)
    ·(try simp only [sB] at hc98)
     refine WC.sr ?_
     refine Kh rfl (og_call rfl rfl (by kernel_rfl) (keep_val fun w hS => awake26_c)) ?_
     intro _
     refine Ka rfl (WL.nt (WC.ret (WX.then_ret ?_)))
     exact WX.retN rfl (.tmp rfl .nil) fun w' hS => ⟨by rfl, hS.below⟩
    ·(try simp only [sB] at hc98)
     obtain ⟨h1, h2, h3, h4, h5⟩ := Decidable.not_not.1 hc98
     obtain ⟨hb, hH, hH1, hH2⟩ := ml_law h1 h2 h3 h4 h5
     obtain ⟨⟨_, _, _, _, hvv, hrr⟩, _, _, _, _, _⟩ := prS_ok h5
     obtain ⟨_, za1, za2, _, _⟩ := comS_ok h2
     obtain ⟨_, zb1, zb2, _, _⟩ := comS_ok h3
     obtain ⟨_, zc1, zc2, _, _⟩ := comS_ok h4
     refine WC.skip (WX.then_normal (WC.sr ?_))
     refine Kq rfl (lda rfl rfl .tc Tryz.underlying35 rfl ?_) ?_
     ·kernel_rfl
     refine Km rfl ?_
     refine Kh rfl (og_call rfl rfl (by kernel_rfl) (keep_val fun w hS => (by have := holds_c (w := w) (s := s78) (ws := (pwS a b c).1) (a := g45.a) (c := g45.cap) hS.sl hS.sl hS.sl hS.sl hS.more (saL_pr hm8 hg78) pw_len; rw [hg78, hH] at this; exact this))) ?_
     intro _
     refine Km rfl (Kq rfl (rd_extL rfl rfl rfl) (Kq rfl (rd_extL rfl rfl rfl) (Ka rfl (Ka rfl (WL.nt (WC.seq (WC.sr (Km rfl (Kq rfl (rd_neq rfl rfl rfl) ?_)))))))))
     refine WL.set 107 rfl (v' := .bool false) (by rfl) ?_
     refine WL.nt ?_
     refine WC.cond rfl (fun h => by cases h) (fun _ => ?_)
     refine WC.skip (WX.then_normal (WC.seq ?_))
     refine WC.joinP (σ := Unit) [(4, _), (5, _), (17, _)] (fun gq => [(132, .bool (decide (withP a x y ∧ withP b x y ∧ withP c x y)))]) (fun gq => True) (sub_cons rfl (sub_cons rfl (sub_cons rfl (sub_nil _)))) ?_ ?_
     ·skip
      refine WC.region ?_
      refine Kq rfl (rd_iaa rfl rfl rfl Tryz.underlying48 (by kernel_rfl : _ = some 4) ?_ (by (try simp only [sN, Int.reduceToNat, Nat.reduceAdd, Nat.reduceMul, Nat.reduceSub]); rfl)) ?_
      ·omega
      refine Kq rfl (ldp rfl rfl .tc Tryz.underlying47 rfl (by kernel_rfl : _ = some 4) (by rfl) (by rfl)) ?_
      refine Kq rfl (rd_iaa rfl rfl rfl Tryz.underlying56 (by kernel_rfl : _ = some 1) ?_ (by (try simp only [sN, Int.reduceToNat, Nat.reduceAdd, Nat.reduceMul, Nat.reduceSub]); rfl)) ?_
      ·omega
      refine Kq rfl (ld rfl rfl .tc Tryz.underlying22 rfl (by rfl)) ?_
      refine Kq rfl (rd_iaa rfl rfl rfl Tryz.underlying56 (by kernel_rfl : _ = some 1) ?_ (by (try simp only [sN, Int.reduceToNat, Nat.reduceAdd, Nat.reduceMul, Nat.reduceSub]); rfl)) ?_
      ·omega
      refine Kq rfl (ld rfl rfl .tc Tryz.underlying22 rfl (by rfl)) ?_
      refine Kh rfl (og_call rfl rfl (by kernel_rfl) (keep_val fun w hS => (by have := within26_c (w := w) (o := a) (v := x) (r := y); rw [with_dec za1 za2 hvv hrr] at this; exact this))) ?_
      intro _
      refine Km rfl ?_
      refine WL.bool 115 rfl (fun hg115 => ?_) (fun hg115 => ?_)
      ·(try simp only [sB] at hg115)
       refine Kq rfl (rd_iaa rfl rfl rfl Tryz.underlying48 (by kernel_rfl : _ = some 4) ?_ (by (try simp only [sN, Int.reduceToNat, Nat.reduceAdd, Nat.reduceMul, Nat.reduceSub]); rfl)) ?_
       ·omega
       refine Kq rfl (ldp rfl rfl .tc Tryz.underlying47 rfl (by kernel_rfl : _ = some 4) (by rfl) (by rfl)) ?_
       refine Kq rfl (rd_iaa rfl rfl rfl Tryz.underlying56 (by kernel_rfl : _ = some 1) ?_ (by (try simp only [sN, Int.reduceToNat, Nat.reduceAdd, Nat.reduceMul, Nat.reduceSub]); rfl)) ?_
       ·omega
       refine Kq rfl (ld rfl rfl .tc Tryz.underlying22 rfl (by rfl)) ?_
       refine Kq rfl (rd_iaa rfl rfl rfl Tryz.underlying56 (by kernel_rfl : _ = some 1) ?_ (by (try simp only [sN, Int.reduceToNat, Nat.reduceAdd, Nat.reduceMul, Nat.reduceSub]); rfl)) ?_
       ·omega
       refine Kq rfl (ld rfl rfl .tc Tryz.underlying22 rfl (by rfl)) ?_
       refine Kh rfl (og_call rfl rfl (by kernel_rfl) (keep_val fun w hS => (by have := within26_c (w := w) (o := b) (v := x) (r := y); rw [with_dec zb1 zb2 hvv hrr] at this; exact this))) ?_
       intro _
       refine Kq rfl (rd_pickt rfl rfl rfl) (Km rfl ?_)
       refine WL.bool 124 rfl (fun hg124 => ?_) (fun hg124 => ?_)
       ·(try simp only [sB] at hg124)
        refine Kq rfl (rd_iaa rfl rfl rfl Tryz.underlying48 (by kernel_rfl : _ = some 4) ?_ (by (try simp only [sN, Int.reduceToNat, Nat.reduceAdd, Nat.reduceMul, Nat.reduceSub]); rfl)) ?_
        ·omega
        refine Kq rfl (ldp rfl rfl .tc Tryz.underlying47 rfl (by kernel_rfl : _ = some 4) (by rfl) (by rfl)) ?_
        refine Kq rfl (rd_iaa rfl rfl rfl Tryz.underlying56 (by kernel_rfl : _ = some 1) ?_ (by (try simp only [sN, Int.reduceToNat, Nat.reduceAdd, Nat.reduceMul, Nat.reduceSub]); rfl)) ?_
        ·omega
        refine Kq rfl (ld rfl rfl .tc Tryz.underlying22 rfl (by rfl)) ?_
        refine Kq rfl (rd_iaa rfl rfl rfl Tryz.underlying56 (by kernel_rfl : _ = some 1) ?_ (by (try simp only [sN, Int.reduceToNat, Nat.reduceAdd, Nat.reduceMul, Nat.reduceSub]); rfl)) ?_
        ·omega
        refine Kq rfl (ld rfl rfl .tc Tryz.underlying22 rfl (by rfl)) ?_
        refine Kh rfl (og_call rfl rfl (by kernel_rfl) (keep_val fun w hS => (by have := within26_c (w := w) (o := c) (v := x) (r := y); rw [with_dec zc1 zc2 hvv hrr] at this; exact this))) ?_
        intro _
        refine Kq rfl (rd_pickt rfl rfl rfl) (WL.nil ?_)
        refine WX.joinP (()) (sub_cons rfl (sub_cons rfl (sub_cons rfl (sub_nil _)))) (by refine (sub_cons ?_ (sub_nil _)) <;> ((refine slot_b rfl ?_; (try dsimp only); (simp [*]; done)))) ?_ (by (exact fun _ h => h))
        (try dsimp only)
        done
       ·(try simp only [sB] at hg124)
        refine Kt rfl (Kt rfl (Kt rfl (Kt rfl (Kt rfl (Kt rfl (Kt rfl (Kq rfl (rd_pickf rfl rfl rfl) (WL.nil ?_))))))))
        refine WX.joinP (()) (sub_cons rfl (sub_cons rfl (sub_cons rfl (sub_nil _)))) (by refine (sub_cons ?_ (sub_nil _)) <;> ((refine slot_b rfl ?_; (try dsimp only); (simp [*]; done)))) ?_ (by (exact fun _ h => h))
        (try dsimp only)
        done
      ·(try simp only [sB] at hg115)
       refine Kt rfl (Kt rfl (Kt rfl (Kt rfl (Kt rfl (Kt rfl (Kt rfl (Kq rfl (rd_pickf rfl rfl rfl) (Km rfl (Kt rfl (Kt rfl (Kt rfl ?_)))))))))))
       refine Kt rfl (Kt rfl (Kt rfl (Kt rfl (Kq rfl (rd_pickf rfl rfl rfl) (WL.nil ?_)))))
       refine WX.joinP (()) (sub_cons rfl (sub_cons rfl (sub_cons rfl (sub_nil _)))) (by refine (sub_cons ?_ (sub_nil _)) <;> ((refine slot_b rfl ?_; (try dsimp only); (simp [*]; done)))) ?_ (by (exact fun _ h => h))
       (try dsimp only)
       done
     ·rintro _ hmeet; (try dsimp only at hmeet ⊢)
      refine WC.cond rfl (fun hc132 => ?_) (fun hc132 => ?_)
      ·(try simp only [sB] at hc132)
       refine WC.sr ?_
       refine Kh rfl (og_call rfl rfl (by kernel_rfl) (keep_val fun w hS => awake26_c)) ?_
       intro _
       refine Km rfl ?_
       refine WL.bool 134 rfl (fun hg134 => ?_) (fun hg134 => ?_)
       ·(try simp only [sB] at hg134)
        refine Km rfl (Kq rfl (rd_pickt rfl rfl rfl) (Ka rfl (WL.nt (WC.ret (WX.then_ret ?_)))))
        exact WX.retN rfl (.tmp rfl .nil) fun w' hS => ⟨by (rw [hH1 hc132]; rfl), hS.below⟩
       ·(try simp only [sB] at hg134)
        refine Kt rfl (Kq rfl (rd_pickf rfl rfl rfl) (Ka rfl (WL.nt (WC.ret (WX.then_ret ?_)))))
        exact WX.retN rfl (.tmp rfl .nil) fun w' hS => ⟨by (have h9 := hH1 hc132; simp_all; done), hS.below⟩
      ·(try simp only [sB] at hc132)
       refine WC.skip (WX.then_normal (WC.sr ?_))
       refine Kh rfl (og_call rfl rfl (by kernel_rfl) (keep_val fun w hS => awake26_c)) ?_
       intro _
       refine Km rfl ?_
       refine WL.bool 138 rfl (fun hg138 => ?_) (fun hg138 => ?_)
       ·(try simp only [sB] at hg138)
        refine Km rfl (Kq rfl (rd_not rfl rfl) (Km rfl ?_))
        refine WL.bool 141 rfl (fun hg141 => ?_) (fun hg141 => ?_)
        ·(try simp only [sB] at hg141)
         refine Kt rfl (Kt rfl (Kt rfl (Kt rfl (Kt rfl (Kt rfl (Kt rfl (Kq rfl (rd_pickt rfl rfl rfl) (Kq rfl (rd_pickt rfl rfl rfl) (Ka rfl (WL.nt (WC.ret ?_)))))))))))
         exact WX.retN rfl (.tmp rfl .nil) fun w' hS => ⟨by rfl, hS.below⟩
        ·(try simp only [sB] at hg141)
         refine Kq rfl (rd_iaa rfl rfl rfl Tryz.underlying48 (by kernel_rfl : _ = some 4) ?_ (by (try simp only [sN, Int.reduceToNat, Nat.reduceAdd, Nat.reduceMul, Nat.reduceSub]); rfl)) ?_
         ·omega
         refine Kq rfl (ldp rfl rfl .tc Tryz.underlying47 rfl (by kernel_rfl : _ = some 4) (by rfl) (by rfl)) ?_
         refine Kq rfl (rd_iaa rfl rfl rfl Tryz.underlying56 (by kernel_rfl : _ = some 1) ?_ (by (try simp only [sN, Int.reduceToNat, Nat.reduceAdd, Nat.reduceMul, Nat.reduceSub]); rfl)) ?_
         ·omega
         refine Kq rfl (ld rfl rfl .tc Tryz.underlying22 rfl (by rfl)) ?_
         refine Kq rfl (rd_iaa rfl rfl rfl Tryz.underlying56 (by kernel_rfl : _ = some 1) ?_ (by (try simp only [sN, Int.reduceToNat, Nat.reduceAdd, Nat.reduceMul, Nat.reduceSub]); rfl)) ?_
         ·omega
         refine Kq rfl (ld rfl rfl .tc Tryz.underlying22 rfl (by rfl)) ?_
         refine Kh rfl (og_call rfl rfl (by kernel_rfl) (keep_val fun w hS => (by have := within26_c (w := w) (o := b) (v := x) (r := y); rw [with_dec zb1 zb2 hvv hrr] at this; exact this))) ?_
         intro _
         refine Kq rfl (rd_pickf rfl rfl rfl) (Kq rfl (rd_pickt rfl rfl rfl) (Ka rfl (WL.nt (WC.ret ?_))))
         exact WX.retN rfl (.tmp rfl .nil) fun w' hS => ⟨by (rw [decide_eq_true (hH2 (by assumption))]; rfl), hS.below⟩
       ·(try simp only [sB] at hg138)
        refine Kt rfl (Kt rfl (Kt rfl (Kt rfl (Kt rfl (Kt rfl (Kt rfl (Kt rfl (Kt rfl (Kt rfl (Kt rfl (Kq rfl (rd_pickf rfl rfl rfl) ?_)))))))))))
        refine Ka rfl (WL.nt (WC.ret ?_))
        exact WX.retN rfl (.tmp rfl .nil) fun w' hS => ⟨by (simp_all [tup]; done), hS.below⟩
end Go.Proofs.YtnimhldbblfgbaaGreat
