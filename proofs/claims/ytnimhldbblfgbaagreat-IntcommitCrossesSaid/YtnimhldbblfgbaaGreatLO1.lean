/-
  Parts of the walk: Oll.
-/
import Derived.Test.YtnimhldbblfgbaaGreatLM1
namespace Go.Proofs.YtnimhldbblfgbaaGreat
set_option linter.unusedSimpArgs false
set_option linter.unusedVariables false
set_option maxRecDepth 20000
set_option maxHeartbeats 600000
open Go.RowKit
theorem comS_eq {k : PK} {o : Opn} (h1 : okK k) (h2 : okZ o.1) (h3 : okZ o.2) (h4 : chkK k = 0) : comS k o = prodS k.1 [k.2.1, k.2.2] [o.1, o.2] := by
 rw [comS, if_neg (fun h => h ⟨h1, h2, h3⟩), if_neg (fun h => h h4)]
theorem chkI_K {k : PK} (h : chkI k = 0) : chkK k = 0 := by
 unfold chkI at h; split at h
 ·exact h
 ·rename_i h1; exact Decidable.not_not.1 h1
theorem hld_rdy {s : Sm} {w : List Zs} (h : (hldS s w).1 = true) : rdyS s w = 0 := by
 unfold hldS at h; split at h
 ·simp at h
 ·rename_i h1; exact Decidable.not_not.1 h1
theorem small_zv {x : Zs} (h : x.2.length ≤ 16) : (zv x).natAbs < 256 ^ 16 := by
 rw [zv_abs]; exact Nat.lt_of_lt_of_le (val_lt x.2) (Nat.pow_le_pow_right (by decide) h)
theorem big_32 : (256 : Nat) ^ 32 + 256 ^ 32 ≤ Big := by decide +kernel
theorem mul_16 {a b : Nat} (ha : a < 256 ^ 16) (hb : b < 256 ^ 16) : a * b < 256 ^ 32 := by
 have := Nat.mul_lt_mul'' ha hb; rw [← Nat.pow_add] at this; exact this
theorem mul_small {x y : Zs} (hx : okZ x) (hy : okZ y) (h1 : x.2.length ≤ 16) (h2 : y.2.length ≤ 16) : mulZ x y = (ofZ (zv x * zv y), 0) ∧ (zv x * zv y).natAbs < 256 ^ 32 := by
 have h3 : (zv x * zv y).natAbs < 256 ^ 32 := by rw [Int.natAbs_mul]; exact mul_16 (small_zv h1) (small_zv h2)
 have hB := big_32
 have := mulZ_of (okZ_zv hx) (okZ_zv hy) (Nat.lt_of_lt_of_le h3 (Nat.le_trans (Nat.le_add_right _ _) hB))
 rw [ofZ_zv hx, ofZ_zv hy] at this; exact ⟨this, h3⟩
theorem ol_law {k : PK} {o : Opn} {a b c v r : Bs} {w0 w1 w2 : Zs} (ho : opnS k a o = true) (hs : (prS k a b c v r).2 = 0) (hH : (hldS (prS k a b c v r).1 [w0, w1, w2]).1 = true) (ho1 : o.1.2.length ≤ 16) (ho2 : o.2.2.length ≤ 16) (h0l : w0.2.length ≤ 16) (h2l : w2.2.length ≤ 16) :
  mulZ w0 o.1 = (ofZ (zv w0 * zv o.1), 0) ∧ mulZ w0 o.2 = (ofZ (zv w0 * zv o.2), 0) ∧ addZ (ofZ (zv w0 * zv o.2)) w2 = (ofZ (zv w0 * zv o.2 + zv w2), 0) ∧ opnS k c (ofZ (zv w0 * zv o.1), ofZ (zv w0 * zv o.2 + zv w2)) = true ∧ opnS k b (w0, w1) = true := by
 obtain ⟨hoe, hoa⟩ := of_decide_eq_true ho
 obtain ⟨hok, hz1, hz2, hck, hc0⟩ := comS_ok hoe
 obtain ⟨_, hw, _, _⟩ := rdy_ok (hld_rdy hH)
 have z0 : okZ w0 := hw _ (by simp)
 have z1 : okZ w1 := hw _ (by simp)
 have z2 : okZ w2 := hw _ (by simp)
 rw [pr_holds hs z0 z1 z2] at hH
 obtain ⟨_, e1, e2⟩ := of_decide_eq_true hH
 obtain ⟨_, hg, hel⟩ := chkK_ok hck
 have hB := big_32
 obtain ⟨m1, n1⟩ := mul_small z0 hz1 h0l ho1
 obtain ⟨m2, n2⟩ := mul_small z0 hz2 h0l ho2
 have n3 : (zv w0 * zv o.2 + zv w2).natAbs < Big := by
  have := small_zv h2l
  have h5 : (256 : Nat) ^ 16 ≤ 256 ^ 32 := Nat.pow_le_pow_right (by decide) (by decide)
  omega
 have m3 : addZ (ofZ (zv w0 * zv o.2)) w2 = (ofZ (zv w0 * zv o.2 + zv w2), 0) := by
  have := addZ_of (a := zv w0 * zv o.2) (b := zv w2) (by omega) (okZ_zv z2)
  rw [ofZ_zv z2, if_pos n3] at this; exact this
 refine ⟨m1, m2, m3, ?_, ?_⟩
 ·have zz1 : okZ (ofZ (zv w0 * zv o.1)) := okZ_ofZ.2 (by omega)
  have zz2 : okZ (ofZ (zv w0 * zv o.2 + zv w2)) := okZ_ofZ.2 n3
  have hea : elG k.1 a := by rw [← hoa, hc0]; exact elG_prod (by rw [← hc0]; exact hoe)
  have hva : val a = powI (val k.1.1) (val k.2.1) (zv o.1) * powI (val k.1.1) (val k.2.2) (zv o.2) % val k.1.1 := by
   rw [← hoa, hc0, prodS_two hg hel.1 hel.2.1 hz1 hz2, val_canon]
  have hm0 := elG_lt (x := k.2.1) hg
  have hcc : comS k (ofZ (zv w0 * zv o.1), ofZ (zv w0 * zv o.2 + zv w2)) = (c, 0) := by
   rw [comS_eq hok zz1 zz2 hck, prodS_two hg hel.1 hel.2.1 zz1 zz2, zv_ofZ, zv_ofZ, ← e2, prodS_two hg hea hel.2.1 z0 z2, hva, com_pow hm0 (elG_gcd hg hel.1) (elG_gcd hg hel.2.1), Int.mul_comm (zv w0) (zv o.1), Int.mul_comm (zv w0) (zv o.2)]
  rw [opnS, hcc]; exact decide_eq_true ⟨rfl, rfl⟩
 ·have hcb : comS k (w0, w1) = prodS k.1 [k.2.1, k.2.2] [w0, w1] := comS_eq hok z0 z1 hck
  rw [opnS, hcb]; exact decide_eq_true ⟨by rw [prodS_two hg hel.1 hel.2.1 z0 z1], e1⟩
theorem icopens_c {q : IC} {o : Opn} {w0 w1 w2 : Zs} {w : World} :
  Calls Tryz.prog 7 #[icV q, opV o, .agg #[.bool w0.1, .string (S w0.2), .bool w1.1, .string (S w1.2), .bool w2.1, .string (S w2.2)]] w fun e w' => e = .returned (.bool true) ∧ Below w.heap.size w w' := by
 refine enter (S := St (fun _ => True) w [] ([])) (L := [(0, icV q), (1, opV o), (2, .agg #[.bool w0.1, .string (S w0.2), .bool w1.1, .string (S w1.2), .bool w2.1, .string (S w2.2)])]) Tryz.func7 rfl Tryz.ntmps7 rfl (args_cons rfl (args_cons rfl (args_cons rfl (args_nil _)))) (St.start (fun _ _ => trivial) facts_nil) ?_
 refine WC.sr ?_
 refine Kh rfl (og_box rfl rfl (by (exact cells_agg _))) ?_
 intro b3
 refine Kh rfl (og_box rfl rfl (by (exact cells_agg _))) ?_
 intro b4
 refine Kh rfl (og_box rfl rfl (by (exact cells_agg _))) ?_
 intro b5
 refine Ka rfl (WL.nt (WC.seq ?_))
 refine WC.joinP (σ := Unit) [(3, _), (4, _), (5, _)] (fun gq => [(51, .bool (decide (¬ (fewC q ∧ shP [q.v, q.r, w0.2, w1.2, w2.2] ∧ smP [o] ∧ opnS q.k q.a o = true))))]) (fun gq => True) (sub_cons rfl (sub_cons rfl (sub_cons rfl (sub_nil _)))) ?_ ?_
 ·skip
  refine WC.region ?_
  refine Kq rfl (lda rfl rfl .tc Tryz.underlying28 rfl ?_) ?_
  ·kernel_rfl
  refine Kh rfl (og_call rfl rfl (by kernel_rfl) (keep_val fun w hS => few26_c (q := q))) ?_
  intro _
  refine Kq rfl (rd_not rfl rfl) (Km rfl ?_)
  refine WL.bool 19 rfl (fun hg19 => ?_) (fun hg19 => ?_)
  ·(try simp only [sB] at hg19)
   refine Kt rfl (Kt rfl (Kt rfl (Kt rfl (Kt rfl (Kt rfl (Kt rfl (Kt rfl (Kt rfl (Kt rfl (Kt rfl (Kt rfl ?_)))))))))))
   refine Kt rfl (Kt rfl (Kt rfl (Kt rfl (Kq rfl (rd_pickt rfl rfl rfl) (Km rfl (Kt rfl (Kt rfl (Kt rfl (Kt rfl (Kq rfl (rd_pickt rfl rfl rfl) (Km rfl ?_)))))))))))
   refine Kt rfl (Kt rfl (Kt rfl (Kt rfl (Kt rfl (Kt rfl (Kt rfl (Kq rfl (rd_pickt rfl rfl rfl) (WL.nil ?_))))))))
   refine WX.joinP (()) (sub_cons rfl (sub_cons rfl (sub_cons rfl (sub_nil _)))) (by refine (sub_cons ?_ (sub_nil _)) <;> ((refine slot_b rfl ?_; (try dsimp only); (simp [*]; done)))) ?_ (by (exact fun _ h => h))
   (try dsimp only)
   done
  ·(try simp only [sB] at hg19)
   refine Kq rfl (rd_fa (q := 7) rfl rfl Tryz.underlying28 rfl (by kernel_rfl) rfl) ?_
   refine Kq rfl (ld rfl rfl .tc Tryz.underlying22 rfl (by rfl)) ?_
   refine Kq rfl (rd_fa (q := 8) rfl rfl Tryz.underlying28 rfl (by kernel_rfl) rfl) ?_
   refine Kq rfl (ld rfl rfl .tc Tryz.underlying22 rfl (by rfl)) ?_
   refine Kq rfl (rd_iaa rfl rfl rfl Tryz.underlying70 (by kernel_rfl : _ = some 2) ?_ (by (try simp only [sN, Int.reduceToNat, Nat.reduceAdd, Nat.reduceMul, Nat.reduceSub]); rfl)) ?_
   ·omega
   (refine Kq rfl (rd_fa rfl rfl Tryz.underlying45 rfl (by kernel_rfl) (by (try simp only [sN, Int.reduceToNat, Nat.reduceAdd, Nat.reduceMul, Nat.reduceSub]); rfl)) ?_)
   refine Kq rfl (ld rfl rfl .tc Tryz.underlying22 rfl (by rfl)) ?_
   refine Kq rfl (rd_iaa rfl rfl rfl Tryz.underlying70 (by kernel_rfl : _ = some 2) ?_ (by (try simp only [sN, Int.reduceToNat, Nat.reduceAdd, Nat.reduceMul, Nat.reduceSub]); rfl)) ?_
   ·omega
   (refine Kq rfl (rd_fa rfl rfl Tryz.underlying45 rfl (by kernel_rfl) (by (try simp only [sN, Int.reduceToNat, Nat.reduceAdd, Nat.reduceMul, Nat.reduceSub]); rfl)) ?_)
   refine Kq rfl (ld rfl rfl .tc Tryz.underlying22 rfl (by rfl)) ?_
   refine Kq rfl (rd_iaa rfl rfl rfl Tryz.underlying70 (by kernel_rfl : _ = some 2) ?_ (by (try simp only [sN, Int.reduceToNat, Nat.reduceAdd, Nat.reduceMul, Nat.reduceSub]); rfl)) ?_
   ·omega
   (refine Kq rfl (rd_fa rfl rfl Tryz.underlying45 rfl (by kernel_rfl) (by (try simp only [sN, Int.reduceToNat, Nat.reduceAdd, Nat.reduceMul, Nat.reduceSub]); rfl)) ?_)
   refine Kq rfl (ld rfl rfl .tc Tryz.underlying22 rfl (by rfl)) ?_
   refine Kh rfl (og_bs1 rfl rfl Tryz.underlying60 (by kernel_rfl : _ = some (some (.string (S [])), 1, 16)) rfl (by simp only [List.map]; rfl) rfl rfl ?_ (by decide)) ?_
   ·simp [Value.cells]
   intro b33
   refine Kh rfl (og_call rfl rfl (by kernel_rfl) (keep_val fun w hS => short26_c (l := [q.v, q.r, w0.2, w1.2, w2.2]) (by (exact hS.os)) (by (simp <;> omega)))) ?_
   intro _
   refine Kq rfl (rd_not rfl rfl) (Kq rfl (rd_pickf rfl rfl rfl) (Km rfl ?_))
   refine WL.bool 37 rfl (fun hg37 => ?_) (fun hg37 => ?_)
   ·(try simp only [sB] at hg37)
    refine Kt rfl (Kt rfl (Kt rfl (Kt rfl (Kq rfl (rd_pickt rfl rfl rfl) (Km rfl (Kt rfl (Kt rfl (Kt rfl (Kt rfl (Kt rfl (Kt rfl ?_)))))))))))
    refine Kt rfl (Kq rfl (rd_pickt rfl rfl rfl) (WL.nil ?_))
    refine WX.joinP (()) (sub_cons rfl (sub_cons rfl (sub_cons rfl (sub_nil _)))) (by refine (sub_cons ?_ (sub_nil _)) <;> ((refine slot_b rfl ?_; (try dsimp only); (simp [*]; done)))) ?_ (by (exact st_sub))
    (try dsimp only)
    done
   ·(try simp only [sB] at hg37)
    refine Kq rfl (lda rfl rfl .tc Tryz.underlying47 rfl ?_) ?_
    ·kernel_rfl
    refine Kh rfl (og_bsN rfl rfl Tryz.underlying68 (by kernel_rfl : _ = some (some (.agg #[.bool false, .string (S []), .bool false, .string (S [])]), 4, 48)) (by kernel_rfl) (by decide) rfl rfl (by (simp [Value.cells]; done)) (by (exact cells_one _)) (by decide)) ?_
    intro b39
    refine Kh rfl (og_call rfl rfl (by kernel_rfl) (keep_val fun w hS => small26_c (l := [o]) (by (exact hS.os)) (by (simp <;> omega)))) ?_
    intro _
    refine Kq rfl (rd_not rfl rfl) (Kq rfl (rd_pickf rfl rfl rfl) (Km rfl ?_))
    refine WL.bool 43 rfl (fun hg43 => ?_) (fun hg43 => ?_)
    ·(try simp only [sB] at hg43)
     refine Kt rfl (Kt rfl (Kt rfl (Kt rfl (Kt rfl (Kt rfl (Kt rfl (Kq rfl (rd_pickt rfl rfl rfl) (WL.nil ?_))))))))
     refine WX.joinP (()) (sub_cons rfl (sub_cons rfl (sub_cons rfl (sub_nil _)))) (by refine (sub_cons ?_ (sub_nil _)) <;> ((refine slot_b rfl ?_; (try dsimp only); (simp [*]; done)))) ?_ (by (exact st_sub))
     (try dsimp only)
     done
    ·(try simp only [sB] at hg43)
     refine Kq rfl (rd_fa (q := 0) rfl rfl Tryz.underlying28 rfl (by kernel_rfl) rfl) ?_
     refine Kq rfl (ldp rfl rfl .tc Tryz.underlying26 rfl (by kernel_rfl : _ = some 4) (by rfl) (by rfl)) ?_
     refine Kq rfl (rd_fa (q := 4) rfl rfl Tryz.underlying28 rfl (by kernel_rfl) rfl) ?_
     refine Kq rfl (ld rfl rfl .tc Tryz.underlying22 rfl (by rfl)) ?_
     refine Kq rfl (lda rfl rfl .tc Tryz.underlying47 rfl ?_) ?_
     ·kernel_rfl
     refine Kh rfl (og_call rfl rfl (by kernel_rfl) (keep_val fun w hS => opens_c (k := q.k) (c := q.a) (o := o) (by exact (show fewC q by assumption).1.1))) ?_
     intro _
     refine Kq rfl (rd_not rfl rfl) (Kq rfl (rd_pickf rfl rfl rfl) (WL.nil ?_))
     refine WX.joinP (()) (sub_cons rfl (sub_cons rfl (sub_cons rfl (sub_nil _)))) (by refine (sub_cons ?_ (sub_nil _)) <;> ((refine slot_b rfl ?_; (try dsimp only); (simp [*]; done)))) ?_ (by (exact st_sub))
     (try dsimp only)
     done
 ·rintro _ hmeet; (try dsimp only at hmeet ⊢)
  refine WC.cond rfl (fun hc51 => ?_) (fun hc51 => ?_)
  ·(try simp only [sB] at hc51)
   refine WC.sr ?_
   refine Kh rfl (og_call rfl rfl (by kernel_rfl) (keep_val fun w hS => awake26_c)) ?_
   intro _
   refine Ka rfl (WL.nt (WC.ret (WX.then_ret ?_)))
   exact WX.retN rfl (.tmp rfl .nil) fun w' hS => ⟨by rfl, hS.below⟩
  ·(try simp only [sB] at hc51)
   obtain ⟨hfw, hsh, hsm, hop⟩ := Decidable.not_not.1 hc51
   have hm8 := hfw.1.1
   have hl0 : w0.2.length ≤ 16 := hsh _ (by simp)
   have hl2 : w2.2.length ≤ 16 := hsh _ (by simp)
   have hlo := hsm o (by simp)
   refine WC.skip (WX.then_normal (WC.sr ?_))
   refine Kq rfl (rd_fa (q := 0) rfl rfl Tryz.underlying28 rfl (by kernel_rfl) rfl) ?_
   refine Kq rfl (ldp rfl rfl .tc Tryz.underlying26 rfl (by kernel_rfl : _ = some 4) (by rfl) (by rfl)) ?_
   refine Kq rfl (rd_fa (q := 4) rfl rfl Tryz.underlying28 rfl (by kernel_rfl) rfl) ?_
   refine Kq rfl (ld rfl rfl .tc Tryz.underlying22 rfl (by rfl)) ?_
   refine Kq rfl (rd_fa (q := 5) rfl rfl Tryz.underlying28 rfl (by kernel_rfl) rfl) ?_
   refine Kq rfl (ld rfl rfl .tc Tryz.underlying22 rfl (by rfl)) ?_
   refine Kq rfl (rd_fa (q := 6) rfl rfl Tryz.underlying28 rfl (by kernel_rfl) rfl) ?_
   refine Kq rfl (ld rfl rfl .tc Tryz.underlying22 rfl (by rfl)) ?_
   refine Kq rfl (rd_fa (q := 7) rfl rfl Tryz.underlying28 rfl (by kernel_rfl) rfl) ?_
   refine Kq rfl (ld rfl rfl .tc Tryz.underlying22 rfl (by rfl)) ?_
   refine Kq rfl (rd_fa (q := 8) rfl rfl Tryz.underlying28 rfl (by kernel_rfl) rfl) ?_
   refine Kq rfl (ld rfl rfl .tc Tryz.underlying22 rfl (by rfl)) ?_
   refine Kh rfl (og_call rfl rfl (by kernel_rfl) (keep_ff fun w hS => icprod_c (k := q.k) (a := q.a) (b := q.b) (c := q.c) (v := q.v) (r := q.r) (by assumption))) ?_
   rintro s66
   refine WL.pu ?_
   intro hg66; (try dsimp only [List.cons_append, List.nil_append] at hg66 ⊢)
   refine Km rfl (Kq rfl (rd_extL rfl rfl rfl) (Kq rfl (rd_extL rfl rfl rfl) ?_))
   refine Kh rfl (og_alloc rfl (v := (.agg #[.slice none 0 0, .slice none 0 0, .slice none 0 0])) (cs := [.slice none 0 0, .slice none 0 0, .slice none 0 0]) (by kernel_rfl) rfl) ?_
   intro b7
   refine WL.g0 rfl rfl (sta rfl rfl rfl .tc ?_ ?_ ?_) ?_
   ·kernel_rfl
   ·simp [Value.oneCell']
   ·rfl
   intro _
   refine Ka rfl (WL.nt (WC.seq (WC.sr (Km rfl (Kq rfl (rd_neq rfl rfl rfl) (WL.nt ?_))))))
   refine WC.cond rfl (fun hc70 => ?_) (fun hc70 => ?_)
   ·(try simp only [sB] at hc70)
    refine WC.sr ?_
    refine Kh rfl (og_call rfl rfl (by kernel_rfl) (keep_val fun w hS => awake26_c)) ?_
    intro _
    refine Ka rfl (WL.nt (WC.ret (WX.then_ret ?_)))
    exact WX.retN rfl (.tmp rfl .nil) fun w' hS => ⟨by rfl, hS.below⟩
   ·(try simp only [sB] at hc70)
    have hs0 : (prS q.k q.a q.b q.c q.v q.r).2 = 0 := by simpa using hc70
    refine WC.skip (WX.then_normal (WC.seq ?_))
    refine WC.free0 [0, 1, 2, 3, 4, 5, 6, 7] [] [0, 0, 1, 0, 0, 0, 0, 0] (by kernel_rfl) (by kernel_rfl) rfl ?_
    refine Kj rfl (lda rfl rfl .tc Tryz.underlying35 rfl ?_) ?_
    ·kernel_rfl
    refine Kj rfl (rd_sla rfl rfl Tryz.underlying70 (by kernel_rfl : _ = some 2)) ?_
    refine WJ.gv rfl rfl rfl rfl rfl (fun ext => og_call rfl rfl (by kernel_rfl) (keep_val fun w hS => (by have := holds_c (w := w) (s := s66) (ws := [w0, w1, w2]) (a := some ⟨b5, 0, none⟩) (c := 3) hS.sl hS.sl hS.sl hS.os hS.more (saL_pr hm8 hg66) (by simp); rw [hg66] at this; exact this))) ?_
    refine Kj rfl (rd_move rfl rfl) ?_
    refine Kj rfl (rd_extL rfl rfl rfl) ?_
    refine Kj rfl (rd_extL rfl rfl rfl) ?_
    refine Kj rfl (rd_assign rfl rfl) ?_
    refine Kj rfl (rd_assign rfl rfl) ?_
    refine WJ.nil ?_
    refine WL.nt (WC.seq ?_)
    refine WC.joinP (σ := Unit) [(3, _), (4, _), (5, _)] (fun gq => [(83, .bool (decide (¬ ((hldS (prS q.k q.a q.b q.c q.v q.r).1 [w0, w1, w2]).2 = 0 ∧ (hldS (prS q.k q.a q.b q.c q.v q.r).1 [w0, w1, w2]).1 = true))))]) (fun gq => True) (sub_cons rfl (sub_cons rfl (sub_cons rfl (sub_nil _)))) ?_ ?_
    ·skip
     refine WC.region (Km rfl (Kq rfl (rd_neq rfl rfl rfl) (Km rfl ?_)))
     refine WL.bool 80 rfl (fun hg80 => ?_) (fun hg80 => ?_)
     ·(try simp only [sB] at hg80)
      refine Kt rfl (Kt rfl (Kq rfl (rd_pickt rfl rfl rfl) (WL.nil ?_)))
      refine WX.joinP (()) (sub_cons rfl (sub_cons rfl (sub_cons rfl (sub_nil _)))) (by refine (sub_cons ?_ (sub_nil _)) <;> ((refine slot_b rfl ?_; (try dsimp only); (simp [*]; done)))) ?_ (by (exact fun _ h => h))
      (try dsimp only)
      done
     ·(try simp only [sB] at hg80)
      refine Km rfl (Kq rfl (rd_not rfl rfl) (Kq rfl (rd_pickf rfl rfl rfl) (WL.nil ?_)))
      refine WX.joinP (()) (sub_cons rfl (sub_cons rfl (sub_cons rfl (sub_nil _)))) (by refine (sub_cons ?_ (sub_nil _)) <;> ((refine slot_b rfl ?_; (try dsimp only); (simp [*]; done)))) ?_ (by (exact fun _ h => h))
      (try dsimp only)
      done
    ·rintro _ hmeet; (try dsimp only at hmeet ⊢)
     refine WC.cond rfl (fun hc83 => ?_) (fun hc83 => ?_)
     ·(try simp only [sB] at hc83)
      refine WC.sr ?_
      refine Kh rfl (og_call rfl rfl (by kernel_rfl) (keep_val fun w hS => awake26_c)) ?_
      intro _
      refine Ka rfl (WL.nt (WC.ret (WX.then_ret ?_)))
      exact WX.retN rfl (.tmp rfl .nil) fun w' hS => ⟨by rfl, hS.below⟩
     ·(try simp only [sB] at hc83)
      obtain ⟨_, hH⟩ := Decidable.not_not.1 hc83
      obtain ⟨hM1, hM2, hM3, hO1, hO2⟩ := ol_law hop hs0 hH hlo.1 hlo.2 hl0 hl2
      refine WC.skip (WX.then_normal (WC.sr ?_))
      refine Kq rfl (rd_iaa rfl rfl rfl Tryz.underlying70 (by kernel_rfl : _ = some 2) ?_ (by (try simp only [sN, Int.reduceToNat, Nat.reduceAdd, Nat.reduceMul, Nat.reduceSub]); rfl)) ?_
      ·omega
      refine Kq rfl (ldp rfl rfl .tc Tryz.underlying45 rfl (by kernel_rfl : _ = some 2) (by rfl) (by rfl)) ?_
      refine Kq rfl (rd_fa (q := 0) rfl rfl Tryz.underlying47 rfl (by kernel_rfl) rfl) ?_
      refine Kq rfl (ldp rfl rfl .tc Tryz.underlying45 rfl (by kernel_rfl : _ = some 2) (by rfl) (by rfl)) ?_
      refine Kh rfl (og_call rfl rfl (by kernel_rfl) (keep_val fun w hS => (by have := zmul_c (w := w) (x := w0) (y := o.1); rw [hM1] at this; exact this))) ?_
      intro _
      refine Km rfl (Kq rfl (rd_extL rfl rfl rfl) (Kq rfl (rd_extL rfl rfl rfl) ?_))
      refine Kh rfl (og_alloc rfl (v := (.agg #[.bool false, .string (S [])])) (cs := [.bool false, .string (S [])]) (by kernel_rfl) rfl) ?_
      intro b11
      refine WL.g0 rfl rfl (sta rfl rfl rfl .tc ?_ ?_ ?_) ?_
      ·kernel_rfl
      ·simp [Value.oneCell']
      ·rfl
      intro _
      refine Ka rfl (WL.nt (WC.sr ?_))
      refine Kq rfl (rd_iaa rfl rfl rfl Tryz.underlying70 (by kernel_rfl : _ = some 2) ?_ (by (try simp only [sN, Int.reduceToNat, Nat.reduceAdd, Nat.reduceMul, Nat.reduceSub]); rfl)) ?_
      ·omega
      refine Kq rfl (ldp rfl rfl .tc Tryz.underlying45 rfl (by kernel_rfl : _ = some 2) (by rfl) (by rfl)) ?_
      refine Kq rfl (rd_fa (q := 2) rfl rfl Tryz.underlying47 rfl (by kernel_rfl) rfl) ?_
      refine Kq rfl (ldp rfl rfl .tc Tryz.underlying45 rfl (by kernel_rfl : _ = some 2) (by rfl) (by rfl)) ?_
      refine Kh rfl (og_call rfl rfl (by kernel_rfl) (keep_val fun w hS => (by have := zmul_c (w := w) (x := w0) (y := o.2); rw [hM2] at this; exact this))) ?_
      intro _
      refine Km rfl (Kq rfl (rd_extL rfl rfl rfl) (Kq rfl (rd_extL rfl rfl rfl) ?_))
      refine Kh rfl (og_alloc rfl (v := (.agg #[.bool false, .string (S [])])) (cs := [.bool false, .string (S [])]) (by kernel_rfl) rfl) ?_
      intro b13
      refine WL.g0 rfl rfl (sta rfl rfl rfl .tc ?_ ?_ ?_) ?_
      ·kernel_rfl
      ·simp [Value.oneCell']
      ·rfl
      intro _
      refine Ka rfl (WL.nt (WC.sr ?_))
      refine Kq rfl (lda rfl rfl .tc Tryz.underlying45 rfl ?_) ?_
      ·kernel_rfl
      refine Kq rfl (rd_iaa rfl rfl rfl Tryz.underlying70 (by kernel_rfl : _ = some 2) ?_ (by (try simp only [sN, Int.reduceToNat, Nat.reduceAdd, Nat.reduceMul, Nat.reduceSub]); rfl)) ?_
      ·omega
      refine Kq rfl (ldp rfl rfl .tc Tryz.underlying45 rfl (by kernel_rfl : _ = some 2) (by rfl) (by rfl)) ?_
      refine Kh rfl (og_call rfl rfl (by kernel_rfl) (keep_val fun w hS => (by have := zadd_c (w := w) (x := ofZ (zv w0 * zv o.2)) (y := w2); rw [hM3] at this; exact this))) ?_
      intro _
      refine Km rfl (Kq rfl (rd_extL rfl rfl rfl) (Kq rfl (rd_extL rfl rfl rfl) ?_))
      refine WL.g0 rfl rfl (sta rfl rfl rfl .tc ?_ ?_ ?_) ?_
      ·kernel_rfl
      ·simp [Value.oneCell']
      ·rfl
      intro _
      refine Ka rfl (WL.nt (WC.seq (WC.sr (Km rfl (Kq rfl (rd_neq rfl rfl rfl) ?_)))))
      refine WL.set 109 rfl (v' := .bool false) (by rfl) ?_
      refine Km rfl (Km rfl (Kq rfl (rd_neq rfl rfl rfl) ?_))
      refine WL.set 112 rfl (v' := .bool false) (by rfl) ?_
      refine Kq rfl (rd_pickf rfl rfl rfl) (Km rfl (Km rfl (Kq rfl (rd_neq rfl rfl rfl) ?_)))
      refine WL.set 116 rfl (v' := .bool false) (by rfl) ?_
      refine Kq rfl (rd_pickf rfl rfl rfl) (WL.nt ?_)
      refine WC.cond rfl (fun h => by cases h) (fun _ => ?_)
      refine WC.skip (WX.then_normal (WC.sr ?_))
      refine Kh rfl (og_call rfl rfl (by kernel_rfl) (keep_val fun w hS => awake26_c)) ?_
      intro _
      refine Km rfl ?_
      refine WL.set 119 rfl (v' := .bool true) (by rfl) ?_
      refine Kq rfl (rd_fa (q := 0) rfl rfl Tryz.underlying28 rfl (by kernel_rfl) rfl) ?_
      refine Kq rfl (ldp rfl rfl .tc Tryz.underlying26 rfl (by kernel_rfl : _ = some 4) (by rfl) (by rfl)) ?_
      refine Kq rfl (rd_fa (q := 6) rfl rfl Tryz.underlying28 rfl (by kernel_rfl) rfl) ?_
      refine Kq rfl (ld rfl rfl .tc Tryz.underlying22 rfl (by rfl)) ?_
      refine Kq rfl (lda rfl rfl .tc Tryz.underlying45 rfl ?_) ?_
      ·kernel_rfl
      refine Kq rfl (lda rfl rfl .tc Tryz.underlying45 rfl ?_) ?_
      ·kernel_rfl
      refine Kq rfl (rd_bld [[.bool false, .string (S [])], [.bool false, .string (S [])]] rfl rfl (by simp only [bld, fldv, Nat.beq, Value.cells, cond_true, cond_false, List.nil_append, List.cons_append, List.append_nil]; rfl) (fun w => by kernel_rfl)) ?_
      refine Kh rfl (og_call rfl rfl (by kernel_rfl) (keep_val fun w hS => (by have := opens_c (w := w) (k := q.k) (c := q.c) (o := (ofZ (zv w0 * zv o.1), ofZ (zv w0 * zv o.2 + zv w2))) hm8; rw [hO1] at this; exact this))) ?_
      intro _
      refine Kq rfl (rd_pickt rfl rfl rfl) (Km rfl ?_)
      refine WL.set 129 rfl (v' := .bool true) (by rfl) ?_
      refine Kq rfl (rd_fa (q := 0) rfl rfl Tryz.underlying28 rfl (by kernel_rfl) rfl) ?_
      refine Kq rfl (ldp rfl rfl .tc Tryz.underlying26 rfl (by kernel_rfl : _ = some 4) (by rfl) (by rfl)) ?_
      refine Kq rfl (rd_fa (q := 5) rfl rfl Tryz.underlying28 rfl (by kernel_rfl) rfl) ?_
      refine Kq rfl (ld rfl rfl .tc Tryz.underlying22 rfl (by rfl)) ?_
      refine Kq rfl (rd_iaa rfl rfl rfl Tryz.underlying70 (by kernel_rfl : _ = some 2) ?_ (by (try simp only [sN, Int.reduceToNat, Nat.reduceAdd, Nat.reduceMul, Nat.reduceSub]); rfl)) ?_
      ·omega
      refine Kq rfl (ldp rfl rfl .tc Tryz.underlying45 rfl (by kernel_rfl : _ = some 2) (by rfl) (by rfl)) ?_
      refine Kq rfl (rd_iaa rfl rfl rfl Tryz.underlying70 (by kernel_rfl : _ = some 2) ?_ (by (try simp only [sN, Int.reduceToNat, Nat.reduceAdd, Nat.reduceMul, Nat.reduceSub]); rfl)) ?_
      ·omega
      refine Kq rfl (ldp rfl rfl .tc Tryz.underlying45 rfl (by kernel_rfl : _ = some 2) (by rfl) (by rfl)) ?_
      refine Kq rfl (rd_bld [[.bool false, .string (S [])], [.bool false, .string (S [])]] rfl rfl (by simp only [bld, fldv, Nat.beq, Value.cells, cond_true, cond_false, List.nil_append, List.cons_append, List.append_nil]; rfl) (fun w => by kernel_rfl)) ?_
      refine Kh rfl (og_call rfl rfl (by kernel_rfl) (keep_val fun w hS => (by have := opens_c (w := w) (k := q.k) (c := q.b) (o := (w0, w1)) hm8; rw [hO2] at this; exact this))) ?_
      intro _
      refine Kq rfl (rd_pickt rfl rfl rfl) (Ka rfl (WL.nt (WC.ret ?_)))
      exact WX.retN rfl (.tmp rfl .nil) fun w' hS => ⟨by rfl, hS.below⟩
end Go.Proofs.YtnimhldbblfgbaaGreat
