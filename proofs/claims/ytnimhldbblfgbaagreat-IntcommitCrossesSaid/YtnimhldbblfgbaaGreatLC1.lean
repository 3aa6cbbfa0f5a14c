/-
  Parts of the walk: Crl.
-/
import Derived.Test.YtnimhldbblfgbaaGreatLO1
namespace Go.Proofs.YtnimhldbblfgbaaGreat
set_option linter.unusedSimpArgs false
set_option linter.unusedVariables false
set_option maxRecDepth 20000
set_option maxHeartbeats 600000
open Go.RowKit
/-- the remainder -/
def modI (x : Zs) (m : Bs) : Nat := if x.1 = true ∧ val x.2 % val m ≠ 0 then val m - val x.2 % val m else val x.2 % val m
theorem modI_lt {x : Zs} {m : Bs} (h : 0 < val m) : modI x m < val m := by
 have := Nat.mod_lt (val x.2) h
 unfold modI; split <;> omega
theorem modI_eq (x : Zs) (m : Bs) (h : 0 < val m) : ∃ t : Int, zv x = modI x m + val m * t := by
 obtain ⟨s, a⟩ := x
 have e := Nat.div_add_mod (val a) (val m)
 have hl := Nat.mod_lt (val a) h
 have e2 : (val m : Int) * ((val a / val m : Nat) : Int) + ((val a % val m : Nat) : Int) = val a := by rw [← Int.natCast_mul, ← Int.natCast_add, e]
 cases s with
 | false =>
  refine ⟨((val a / val m : Nat) : Int), ?_⟩
  have hz : zv (false, a) = (val a : Int) := rfl
  have hm : modI (false, a) m = val a % val m := by simp [modI]
  rw [hz, hm, Int.add_comm]; exact e2.symm
 | true =>
  have hz : zv (true, a) = -(val a : Int) := rfl
  by_cases h0 : val a % val m = 0
  ·refine ⟨-((val a / val m : Nat) : Int), ?_⟩
   have hm : modI (true, a) m = 0 := by simp [modI, h0]
   rw [h0] at e2
   rw [hz, hm, Int.mul_neg, ← e2]; simp
  ·refine ⟨-((val a / val m : Nat) : Int) - 1, ?_⟩
   have e3 : modI (true, a) m = val m - val a % val m := by rw [modI, if_pos ⟨rfl, h0⟩]
   rw [hz, e3, Int.mul_sub, Int.mul_neg, Int.mul_one, Int.natCast_sub (Nat.le_of_lt hl)]
   generalize (val m : Int) * ((val a / val m : Nat) : Int) = T at e2 ⊢
   omega
theorem zmod_c {x : Zs} {m : Bs} {w : World} (hx : okZ x) (hm : okN m) (hm0 : m ≠ []) :
  Calls Tryz.prog 35 #[zV x, .string (S m)] w fun e w' => e = .returned (.tuple #[.string (S (canon (modI x m))), .int .i64 0]) ∧ Below w.heap.size w w' := by
 have hmp := vpos hm hm0
 have hrl := Nat.mod_lt (val x.2) hmp
 have hmB := okN_val hm
 refine enter (S := St (fun _ => True) w [] ([])) (L := [(0, zV x), (1, .string (S m))]) Tryz.func35 rfl Tryz.ntmps35 rfl (args_cons rfl (args_cons rfl (args_nil _))) (St.start (fun _ _ => trivial) facts_nil) ?_
 refine WC.sr ?_
 refine Kh rfl (og_box rfl rfl (by (exact cells_agg _))) ?_
 intro b2
 refine Ka rfl (Ka rfl (WL.nt (WC.seq (WC.sr ?_))))
 refine Kq rfl (lda rfl rfl .tc Tryz.underlying45 rfl ?_) ?_
 ·kernel_rfl
 refine Kh rfl (og_call rfl rfl (by kernel_rfl) (keep_val fun w hS => zvalid_c (x := x))) ?_
 intro _
 refine WL.set 10 rfl (v' := .bool true) (by simp [hx]) ?_
 refine Kq rfl (rd_not rfl rfl) (Km rfl (Km rfl ?_))
 refine Kh rfl (og_call rfl rfl (by kernel_rfl) (keep_val fun w hS => valid_c (a := m))) ?_
 intro _
 refine WL.set 14 rfl (v' := .bool true) (by simp [hm]) ?_
 refine Kq rfl (rd_not rfl rfl) (Kq rfl (rd_pickf rfl rfl rfl) (WL.nt ?_))
 refine WC.cond rfl (fun h => by cases h) (fun _ => ?_)
 refine WC.skip (WX.then_normal (WC.seq (WC.sr (Km rfl (Kq rfl (rd_seq rfl rfl rfl) (WL.nt ?_))))))
 refine WC.cond rfl (fun hc18 => ?_) (fun hc18 => ?_)
 ·(try simp only [sB] at hc18)
  exact absurd hc18 hm0 -- done
 ·(try simp only [sB] at hc18)
  refine WC.skip (WX.then_normal (WC.sr ?_))
  refine Kq rfl (rd_fa (q := 1) rfl rfl Tryz.underlying45 rfl (by kernel_rfl) rfl) ?_
  refine Kq rfl (ld rfl rfl .tc Tryz.underlying22 rfl (by rfl)) ?_
  refine Km rfl ?_
  refine Kh rfl (og_call rfl rfl (by kernel_rfl) (keep_val fun w hS => (by have := divmod_c (w := w) (a := x.2) (b := m); rw [divN_ok hx.1 hm hm0] at this; exact this))) ?_
  intro _
  refine Km rfl (Kq rfl (rd_extL rfl rfl rfl) (Kq rfl (rd_extL rfl rfl rfl) (Kq rfl (rd_extL rfl rfl rfl) (Ka rfl (Ka rfl (Ka rfl (WL.nt (WC.seq ?_))))))))
  refine WC.joinP (σ := Unit) [(1, _), (7, _)] (fun gq => [(32, .bool (decide (x.1 = true ∧ val x.2 % val m ≠ 0)))]) (fun gq => True) (sub_cons rfl (sub_cons rfl (sub_nil _))) ?_ ?_
  ·skip
   refine WC.region ?_
   refine Kq rfl (rd_fa (q := 0) rfl rfl Tryz.underlying45 rfl (by kernel_rfl) rfl) ?_
   refine Kq rfl (ld rfl rfl .tc Tryz.underlying4 rfl (by rfl)) ?_
   refine Km rfl ?_
   refine WL.bool 29 rfl (fun hg29 => ?_) (fun hg29 => ?_)
   ·(try simp only [sB] at hg29)
    refine Km rfl (Kq rfl (rd_sne rfl rfl rfl) ?_)
    refine WL.set 31 rfl (v' := .bool (decide (val x.2 % val m ≠ 0))) (congrArg Value.bool (by simp [canon_nil])) ?_
    refine Kq rfl (rd_pickt rfl rfl rfl) (WL.nil ?_)
    refine WX.joinP (()) (sub_cons rfl (sub_cons rfl (sub_nil _))) (by refine (sub_cons ?_ (sub_nil _)) <;> ((refine slot_b rfl ?_; (try dsimp only); (simp [*]; done)))) ?_ (by (exact fun _ h => h))
    (try dsimp only)
    done
   ·(try simp only [sB] at hg29)
    refine Kt rfl (Kt rfl (Kq rfl (rd_pickf rfl rfl rfl) (WL.nil ?_)))
    refine WX.joinP (()) (sub_cons rfl (sub_cons rfl (sub_nil _))) (by refine (sub_cons ?_ (sub_nil _)) <;> ((refine slot_b rfl ?_; (try dsimp only); (simp [*]; done)))) ?_ (by (exact fun _ h => h))
    (try dsimp only)
    done
  ·rintro _ hmeet; (try dsimp only at hmeet ⊢)
   refine WC.cond rfl (fun hc32 => ?_) (fun hc32 => ?_)
   ·(try simp only [sB] at hc32)
    have hr : modI x m = val m - val x.2 % val m := by rw [modI, if_pos hc32]
    refine WC.region (Km rfl (Km rfl ?_))
    refine Kh rfl (og_call rfl rfl (by kernel_rfl) (keep_val fun w hS => (by have := sub_c (w := w) (a := m) (b := canon (val x.2 % val m)); rw [subN_ok hm (okN_can (by omega)) (by rw [val_canon]; omega), val_canon] at this; exact this))) ?_
    intro _
    refine Km rfl (Kq rfl (rd_extL rfl rfl rfl) (Kq rfl (rd_extL rfl rfl rfl) (Ka rfl (WL.nt (WC.sr (Km rfl (Ka rfl (Ka rfl (WL.nt (WC.ret ?_))))))))))
    exact WX.retN rfl (.tmp rfl (.tmp rfl .nil)) fun w' hS => ⟨by rw [hr]; rfl, hS.below⟩
   ·(try simp only [sB] at hc32)
    have hr : modI x m = val x.2 % val m := by rw [modI, if_neg hc32]
    refine WC.skip (WX.then_normal (WC.sr (Km rfl (Ka rfl (Ka rfl (WL.nt (WC.ret ?_)))))))
    exact WX.retN rfl (.tmp rfl (.tmp rfl .nil)) fun w' hS => ⟨by rw [hr]; rfl, hS.below⟩
theorem powI_ord {m h q : Nat} {t : Int} (hm : 0 < m) (hh : Un m h) (ho : h ^ q % m = 1 % m) : powI m h ((q : Int) * t) = 1 % m := by
 rw [← powI_mul hm hh, powI_nat, ho]
 have h1 : Un m (1 % m) := un_mod.2 (by simp [Un])
 have e := powI_mul hm (show Un m 1 by simp [Un]) 0 t
 rw [powI_zero, Int.zero_mul, powI_zero] at e; exact e
theorem zv_nat (n : Nat) : zv (false, canon n) = n := by rw [← ofZ_nat, zv_ofZ]
theorem cr_law {m k : PK} {x r0 r1 : Zs} (hkm : chkK m = 0) (hmo : m.1.2 ≠ []) (hk : chkI k = 0) (ha : (comS m (x, r0)).2 = 0) (hb : (comS k (x, r1)).2 = 0) (hx16 : x.2.length ≤ 16) (hr16 : r1.2.length ≤ 16) :
  addN x.2 (canon 1) = (canon (val x.2 + 1), 0) ∧ addN r1.2 (canon 1) = (canon (val r1.2 + 1), 0) ∧
  eqS m k (comS m (x, r0)).1 (comS k (x, r1)).1 (canon (val x.2 + 1)) (canon (val r1.2 + 1)) = (eqQ m k (comS m (x, r0)).1 (comS k (x, r1)).1 (canon (val x.2 + 1)) (canon (val r1.2 + 1)), 0) ∧
  hldS (eqQ m k (comS m (x, r0)).1 (comS k (x, r1)).1 (canon (val x.2 + 1)) (canon (val r1.2 + 1))) [x, fromZ (canon (modI r0 m.1.2)), r1] = (true, 0) := by
 obtain ⟨hokm, hzx, hzr0, _, hca⟩ := comS_ok ha
 obtain ⟨hokk, _, hzr1, _, hcb⟩ := comS_ok hb
 obtain ⟨_, hgm, helm⟩ := chkK_ok hkm
 obtain ⟨_, hgk, helk, hko⟩ := chkI_ok hk
 have hB := big_32
 have h5 : (256 : Nat) ^ 16 ≤ 256 ^ 32 := Nat.pow_le_pow_right (by decide) (by decide)
 have hpos : 0 < (256 : Nat) ^ 32 := Nat.pow_pos (by decide)
 have hlx : val x.2 < 256 ^ 16 := Nat.lt_of_lt_of_le (val_lt x.2) (Nat.pow_le_pow_right (by decide) hx16)
 have hlr : val r1.2 < 256 ^ 16 := Nat.lt_of_lt_of_le (val_lt r1.2) (Nat.pow_le_pow_right (by decide) hr16)
 have add1 : ∀ s : Bs, okN s → val s < 256 ^ 16 → addN s (canon 1) = (canon (val s + 1), 0) := fun s hs hl => by
  have := addN_of (a := val s) (b := 1) (by omega) (by omega)
  rw [ok_canon hs, if_pos (by omega)] at this; exact this
 have hea : elG m.1 (comS m (x, r0)).1 := by rw [hca]; exact elG_prod (by rw [← hca]; exact ha)
 have heb : elG k.1 (comS k (x, r1)).1 := by rw [hcb]; exact elG_prod (by rw [← hcb]; exact hb)
 have hqp := vpos hokm.2.1 hmo
 have hmd := modI_lt (x := r0) hqp
 have hmB := okN_val hokm.2.1
 have hokv : okN (canon (val x.2 + 1)) := okN_can (by omega)
 have hokr : okN (canon (val r1.2 + 1)) := okN_can (by omega)
 have hv0 : canon (val x.2 + 1) ≠ [] := fun h => by rw [canon_nil] at h; omega
 have hr0 : canon (val r1.2 + 1) ≠ [] := fun h => by rw [canon_nil] at h; omega
 have hokd : okN (canon (modI r0 m.1.2)) := okN_can (by omega)
 have hfd : fromZ (canon (modI r0 m.1.2)) = (false, canon (modI r0 m.1.2)) := fromZ_ok hokd
 have hzd : okZ (false, canon (modI r0 m.1.2)) := ⟨hokd, fun h => by cases h.1⟩
 refine ⟨add1 _ hzx.1 hlx, add1 _ hzr1.1 hlr, ?_, ?_⟩
 ·have e : eqE m k (comS m (x, r0)).1 (comS k (x, r1)).1 (canon (val x.2 + 1)) (canon (val r1.2 + 1)) = 0 := by
   rw [eqE, if_neg (fun h => h ⟨hokm, hokk, hea.1, heb.1, hokv, hokr⟩), if_neg (fun h => h hkm), if_neg hmo, if_neg (fun h => h hk), if_neg (fun h => h ⟨hea, heb⟩), bndE, if_neg (fun h => h.elim hv0 hr0)]
  rw [eqS, if_neg (fun h => h e)]
 ·rw [hfd]
  obtain ⟨a, hae⟩ : ∃ a, (comS m (x, r0)).1 = a := ⟨_, rfl⟩
  obtain ⟨b, hbe⟩ : ∃ b, (comS k (x, r1)).1 = b := ⟨_, rfl⟩
  obtain ⟨v, hv⟩ : ∃ v, canon (val x.2 + 1) = v := ⟨_, rfl⟩
  obtain ⟨r, hr⟩ : ∃ r, canon (val r1.2 + 1) = r := ⟨_, rfl⟩
  have hvv : val v = val x.2 + 1 := by rw [← hv, val_canon]
  have hrv : val r = val r1.2 + 1 := by rw [← hr, val_canon]
  have I1 : prodS m.1 [m.2.1, m.2.2] [x, (false, canon (modI r0 m.1.2))] = (a, 0) := by
   have hm0 := elG_lt (x := m.2.1) hgm
   have hU := elG_gcd hgm helm.2.1
   obtain ⟨t, ht⟩ := modI_eq r0 m.1.2 hqp
   have hord : val m.2.2 ^ val m.1.2 % val m.1.1 = 1 % val m.1.1 := by
    have h1 := helm.2.1.2.2.2; rw [if_neg hmo] at h1
    obtain ⟨_, _, h2, _, _⟩ := chkG_ok hgm
    rw [h1, Nat.mod_eq_of_lt (by omega)]
   have e0 : powI (val m.1.1) (val m.2.2) (zv r0) = powI (val m.1.1) (val m.2.2) (modI r0 m.1.2 : Int) := by
    rw [ht, ← powI_add hm0 hU, powI_ord hm0 hU hord, mmr, Nat.mul_one, powI_mod]
   have e1 := hca
   rw [prodS_two hgm helm.1 helm.2.1 hzx hzr0] at e1
   dsimp only at e1
   rw [e0] at e1
   rw [prodS_two hgm helm.1 helm.2.1 hzx hzd, zv_nat, ← hae, e1]
  have I2 : prodS k.1 [k.2.1, k.2.2] [x, r1] = (b, 0) := by rw [← hcb]; exact Prod.ext hbe hb
  rw [hae] at hea ⊢
  rw [hbe] at heb ⊢
  rw [hv] at hokv hv0 ⊢
  rw [hr] at hokr hr0 ⊢
  have hf : formS (eqQ m k a b v r) := by
   refine ⟨?_, ?_, ?_⟩
   ·intro g hg; simp [eqQ] at hg; rcases hg with rfl | rfl; exact ⟨hokm.1, hokm.2.1⟩; exact ⟨hokk.1, hokk.2.1⟩
   ·intro y hy; simp [eqQ] at hy; rcases hy with rfl | rfl | rfl; exact hokv; exact okN_nil; exact hokr
   ·intro q hq; simp [eqQ] at hq; rcases hq with rfl | rfl
    ·refine ⟨⟨⟨Int.le_refl 0, by simp [eqQ]⟩, hea.1⟩, ?_⟩
     intro t ht; simp [trm] at ht; rcases ht with rfl | rfl
     ·exact okT_trm hokm.2.2.1 (by decide) (by simp [eqQ])
     ·exact okT_trm hokm.2.2.2 (by decide) (by simp [eqQ])
    ·refine ⟨⟨⟨by show (0 : Int) ≤ 1; decide, by simp [eqQ]⟩, heb.1⟩, ?_⟩
     intro t ht; simp [trm] at ht; rcases ht with rfl | rfl
     ·exact okT_trm hokk.2.2.1 (by decide) (by simp [eqQ])
     ·exact okT_trm hokk.2.2.2 (by decide) (by simp [eqQ])
  have hs : sizeS (eqQ m k a b v r) := by simp [sizeS, eqQ]
  have he : elS (eqQ m k a b v r) := by
   refine ⟨?_, ?_⟩
   ·intro g hg1; simp [eqQ] at hg1; rcases hg1 with rfl | rfl <;> assumption
   ·intro q hq; simp [eqQ] at hq; rcases hq with rfl | rfl
    ·refine ⟨hea, ?_⟩
     intro t ht; simp [trm] at ht; rcases ht with rfl | rfl
     ·exact helm.1
     ·exact helm.2.1
    ·refine ⟨heb, ?_⟩
     intro t ht; simp [trm] at ht; rcases ht with rfl | rfl
     ·exact helk.1
     ·exact helk.2.1
  have hord : ordS [m.1, k.1] = m.1.2 := by simp [ordS, List.find?, hmo]
  have hd : kdS (eqQ m k a b v r) := by
   refine Or.inr ⟨⟨by rw [show (eqQ m k a b v r).1 = [m.1, k.1] from rfl, hord]; exact hmo, ?_⟩, ?_⟩
   ·intro g hg1; rw [show (eqQ m k a b v r).1 = [m.1, k.1] from rfl] at hg1 ⊢
    rw [hord]; simp at hg1; rcases hg1 with rfl | rfl
    ·exact fun h => h.2 rfl
    ·exact fun h => h.1 hko
   ·intro q hq; simp [eqQ] at hq; rcases hq with rfl | rfl
    ·exact Or.inl hmo
    ·refine Or.inr ?_
     intro t ht; simp [trm] at ht; rcases ht with rfl | rfl
     ·exact hv0
     ·exact hr0
  have hck : chkS (eqQ m k a b v r) = 0 := by simp [chkS, hf, hs, he, hd]
  have hrd : rdyS (eqQ m k a b v r) [x, (false, canon (modI r0 m.1.2)), r1] = 0 := by
   rw [rdyS, if_neg (fun h => h hf), if_neg (fun h => h (by intro y hy; simp at hy; rcases hy with rfl | rfl | rfl <;> assumption)), if_neg (fun h => h hck), if_neg (fun h => h rfl)]
  have hin : inR (eqQ m k a b v r) [x, (false, canon (modI r0 m.1.2)), r1] := by
   intro i hi
   simp [eqQ] at hi
   rcases i with _ | _ | _ | i
   ·simp [eqQ, inV, hv0]; omega
   ·have h6 : val (canon (modI r0 m.1.2)) < val (ordS [m.1, k.1]) := by rw [hord, val_canon]; exact hmd
    simpa [eqQ, inV] using h6
   ·simp [eqQ, inV, hr0]; omega
   ·omega
  have J1 : imQ [m.1, k.1] [x, (false, canon (modI r0 m.1.2)), r1] (0, a, [trm m.2.1 0, trm m.2.2 1]) = (a, 0) := (imQ_two (by exact hzx) (by exact hzd)).trans I1
  have J2 : imQ [m.1, k.1] [x, (false, canon (modI r0 m.1.2)), r1] (1, b, [trm k.2.1 0, trm k.2.2 2]) = (b, 0) := (imQ_two (by exact hzx) (by exact hzr1)).trans I2
  have him : imS (eqQ m k a b v r) [x, (false, canon (modI r0 m.1.2)), r1] = ([a, b], 0) := by
   simp only [imS, eqQ, List.map_cons, List.map_nil, J1, J2, errL]; simp
  rw [hldS, if_neg (fun h => h hrd), if_neg (fun h => h hin), him, if_neg (fun h => h rfl)]
  exact congrArg (fun b => (b, (0 : Int))) (decide_eq_true rfl)
theorem iccross_l {m k : PK} {x r0 r1 : Zs} {w : World} :
  Calls Tryz.prog 9 #[.agg #[.string (S m.1.1), .string (S m.1.2), .string (S m.2.1), .string (S m.2.2), .string (S k.1.1), .string (S k.1.2), .string (S k.2.1), .string (S k.2.2)], zV x, .agg #[.bool r0.1, .string (S r0.2), .bool r1.1, .string (S r1.2)]] w fun e w' => e = .returned (.bool true) ∧ Below w.heap.size w w' := by
 refine enter (S := St (fun _ => True) w [] ([])) (L := [(0, .agg #[.string (S m.1.1), .string (S m.1.2), .string (S m.2.1), .string (S m.2.2), .string (S k.1.1), .string (S k.1.2), .string (S k.2.1), .string (S k.2.2)]), (1, zV x), (2, .agg #[.bool r0.1, .string (S r0.2), .bool r1.1, .string (S r1.2)])]) Tryz.func9 rfl Tryz.ntmps9 rfl (args_cons rfl (args_cons rfl (args_cons rfl (args_nil _)))) (St.start (fun _ _ => trivial) facts_nil) ?_
 refine WC.sr ?_
 refine Kh rfl (og_box rfl rfl (by (exact cells_agg _))) ?_
 intro b3
 refine Kh rfl (og_box rfl rfl (by (exact cells_agg _))) ?_
 intro b4
 refine Kh rfl (og_box rfl rfl (by (exact cells_agg _))) ?_
 intro b5
 refine Ka rfl (WL.nt (WC.seq ?_))
 refine WC.free0 [0, 1, 4, 5, 6, 2, 3, 7] [] [0, 0, 0, 0, 3, 3, 1, 1] (by kernel_rfl) (by kernel_rfl) rfl ?_
 refine Kj rfl (rd_iaa rfl rfl rfl Tryz.underlying78 (by kernel_rfl : _ = some 4) ?_ (by (try simp only [sN, Int.reduceToNat, Nat.reduceAdd, Nat.reduceMul, Nat.reduceSub]); rfl)) ?_
 ·omega
 refine Kj rfl (ldp rfl rfl .tc Tryz.underlying26 rfl (by kernel_rfl : _ = some 4) (by rfl) (by rfl)) ?_
 refine WJ.f rfl rfl rfl rfl rfl (fr_alloc rfl (v := (.agg #[.string (S []), .string (S []), .string (S []), .string (S [])])) (cs := [.string (S []), .string (S []), .string (S []), .string (S [])]) (by kernel_rfl) rfl) ?_
 intro b7
 refine WJ.f rfl rfl rfl rfl rfl (fr_alloc rfl (v := (.agg #[.string (S []), .string (S []), .string (S []), .string (S [])])) (cs := [.string (S []), .string (S []), .string (S []), .string (S [])]) (by kernel_rfl) rfl) ?_
 intro b8
 refine WJ.st rfl rfl rfl rfl (staJ rfl rfl rfl ?_ ?_ ?_) ?_
 ·kernel_rfl
 ·simp [Value.oneCell']
 ·rfl
 refine Kj rfl (rd_iaa rfl rfl rfl Tryz.underlying78 (by kernel_rfl : _ = some 4) ?_ (by (try simp only [sN, Int.reduceToNat, Nat.reduceAdd, Nat.reduceMul, Nat.reduceSub]); rfl)) ?_
 ·omega
 refine Kj rfl (ldp rfl rfl .tc Tryz.underlying26 rfl (by kernel_rfl : _ = some 4) (by rfl) (by rfl)) ?_
 refine WJ.st rfl rfl rfl rfl (staJ rfl rfl rfl ?_ ?_ ?_) ?_
 ·kernel_rfl
 ·simp [Value.oneCell']
 ·rfl
 refine WJ.nil ?_
 refine WL.nt (WC.seq ?_)
 refine WC.joinP (σ := Unit) [(4, _), (5, _), (7, _), (8, _)] (fun gq => [(64, .bool (decide (¬ (few14 m ∧ few14 k ∧ shP [x.2, r0.2, r1.2] ∧ chkK m = 0 ∧ m.1.2 ≠ [] ∧ chkI k = 0))))]) (fun gq => True) (sub_cons rfl (sub_cons rfl (sub_cons rfl (sub_cons rfl (sub_nil _))))) ?_ ?_
 ·skip
  refine WC.region ?_
  refine Kq rfl (lda rfl rfl .tc Tryz.underlying26 rfl ?_) ?_
  ·kernel_rfl
  refine Kh rfl (og_call rfl rfl (by kernel_rfl) (keep_val fun w hS => few14_c (k := m))) ?_
  intro _
  refine Kq rfl (rd_not rfl rfl) (Km rfl ?_)
  refine WL.bool 31 rfl (fun hg31 => ?_) (fun hg31 => ?_)
  ·(try simp only [sB] at hg31)
   refine Kt rfl (Kt rfl (Kt rfl (Kq rfl (rd_pickt rfl rfl rfl) (Km rfl (Kt rfl (Kt rfl (Kt rfl (Kt rfl (Kt rfl (Kt rfl (Kt rfl ?_)))))))))))
   refine Kt rfl (Kt rfl (Kt rfl (Kt rfl (Kq rfl (rd_pickt rfl rfl rfl) (Km rfl (Kt rfl (Kt rfl (Kt rfl (Kq rfl (rd_pickt rfl rfl rfl) (Km rfl (Kt rfl ?_)))))))))))
   refine Kt rfl (Kt rfl (Kt rfl (Kq rfl (rd_pickt rfl rfl rfl) (Km rfl (Kt rfl (Kt rfl (Kt rfl (Kq rfl (rd_pickt rfl rfl rfl) (WL.nil ?_)))))))))
   refine WX.joinP (()) (sub_cons rfl (sub_cons rfl (sub_cons rfl (sub_cons rfl (sub_nil _))))) (by refine (sub_cons ?_ (sub_nil _)) <;> ((refine slot_b rfl ?_; (try dsimp only); (simp [*]; done)))) ?_ (by (exact fun _ h => h))
   (try dsimp only)
   done
  ·(try simp only [sB] at hg31)
   refine Kq rfl (lda rfl rfl .tc Tryz.underlying26 rfl ?_) ?_
   ·kernel_rfl
   refine Kh rfl (og_call rfl rfl (by kernel_rfl) (keep_val fun w hS => few14_c (k := k))) ?_
   intro _
   refine Kq rfl (rd_not rfl rfl) (Kq rfl (rd_pickf rfl rfl rfl) (Km rfl ?_))
   refine WL.bool 36 rfl (fun hg36 => ?_) (fun hg36 => ?_)
   ·(try simp only [sB] at hg36)
    refine Kt rfl (Kt rfl (Kt rfl (Kt rfl (Kt rfl (Kt rfl (Kt rfl (Kt rfl (Kt rfl (Kt rfl (Kt rfl (Kq rfl (rd_pickt rfl rfl rfl) ?_)))))))))))
    refine Km rfl (Kt rfl (Kt rfl (Kt rfl (Kq rfl (rd_pickt rfl rfl rfl) (Km rfl (Kt rfl (Kt rfl (Kt rfl (Kt rfl (Kq rfl (rd_pickt rfl rfl rfl) (Km rfl ?_)))))))))))
    refine Kt rfl (Kt rfl (Kt rfl (Kq rfl (rd_pickt rfl rfl rfl) (WL.nil ?_))))
    refine WX.joinP (()) (sub_cons rfl (sub_cons rfl (sub_cons rfl (sub_cons rfl (sub_nil _))))) (by refine (sub_cons ?_ (sub_nil _)) <;> ((refine slot_b rfl ?_; (try dsimp only); (simp [*]; done)))) ?_ (by (exact fun _ h => h))
    (try dsimp only)
    done
   ·(try simp only [sB] at hg36)
    refine Kq rfl (rd_fa (q := 1) rfl rfl Tryz.underlying45 rfl (by kernel_rfl) rfl) ?_
    refine Kq rfl (ld rfl rfl .tc Tryz.underlying22 rfl (by rfl)) ?_
    refine Kq rfl (rd_iaa rfl rfl rfl Tryz.underlying79 (by kernel_rfl : _ = some 2) ?_ (by (try simp only [sN, Int.reduceToNat, Nat.reduceAdd, Nat.reduceMul, Nat.reduceSub]); rfl)) ?_
    ·omega
    (refine Kq rfl (rd_fa rfl rfl Tryz.underlying45 rfl (by kernel_rfl) (by (try simp only [sN, Int.reduceToNat, Nat.reduceAdd, Nat.reduceMul, Nat.reduceSub]); rfl)) ?_)
    refine Kq rfl (ld rfl rfl .tc Tryz.underlying22 rfl (by rfl)) ?_
    refine Kq rfl (rd_iaa rfl rfl rfl Tryz.underlying79 (by kernel_rfl : _ = some 2) ?_ (by (try simp only [sN, Int.reduceToNat, Nat.reduceAdd, Nat.reduceMul, Nat.reduceSub]); rfl)) ?_
    ·omega
    (refine Kq rfl (rd_fa rfl rfl Tryz.underlying45 rfl (by kernel_rfl) (by (try simp only [sN, Int.reduceToNat, Nat.reduceAdd, Nat.reduceMul, Nat.reduceSub]); rfl)) ?_)
    refine Kq rfl (ld rfl rfl .tc Tryz.underlying22 rfl (by rfl)) ?_
    refine Kh rfl (og_bs1 rfl rfl Tryz.underlying60 (by kernel_rfl : _ = some (some (.string (S [])), 1, 16)) rfl (by simp only [List.map]; rfl) rfl rfl ?_ (by decide)) ?_
    ·simp [Value.cells]
    intro b45
    refine Kh rfl (og_call rfl rfl (by kernel_rfl) (keep_val fun w hS => short26_c (l := [x.2, r0.2, r1.2]) (by (exact hS.os)) (by (simp <;> omega)))) ?_
    intro _
    refine Kq rfl (rd_not rfl rfl) (Kq rfl (rd_pickf rfl rfl rfl) (Km rfl ?_))
    refine WL.bool 49 rfl (fun hg49 => ?_) (fun hg49 => ?_)
    ·(try simp only [sB] at hg49)
     refine Kt rfl (Kt rfl (Kt rfl (Kq rfl (rd_pickt rfl rfl rfl) (Km rfl (Kt rfl (Kt rfl (Kt rfl (Kt rfl (Kq rfl (rd_pickt rfl rfl rfl) (Km rfl (Kt rfl ?_)))))))))))
     refine Kt rfl (Kt rfl (Kq rfl (rd_pickt rfl rfl rfl) (WL.nil ?_)))
     refine WX.joinP (()) (sub_cons rfl (sub_cons rfl (sub_cons rfl (sub_cons rfl (sub_nil _))))) (by refine (sub_cons ?_ (sub_nil _)) <;> ((refine slot_b rfl ?_; (try dsimp only); (simp [*]; done)))) ?_ (by (exact st_sub))
     (try dsimp only)
     done
    ·(try simp only [sB] at hg49)
     refine Kq rfl (lda rfl rfl .tc Tryz.underlying26 rfl ?_) ?_
     ·kernel_rfl
     refine Kh rfl (og_call rfl rfl (by kernel_rfl) (keep_val fun w hS => pdcheck_c (k := m) (by exact (show few14 m by assumption).1))) ?_
     intro _
     refine Kq rfl (rd_neq rfl rfl rfl) (Kq rfl (rd_pickf rfl rfl rfl) (Km rfl ?_))
     refine WL.bool 54 rfl (fun hg54 => ?_) (fun hg54 => ?_)
     ·(try simp only [sB] at hg54)
      refine Kt rfl (Kt rfl (Kt rfl (Kt rfl (Kq rfl (rd_pickt rfl rfl rfl) (Km rfl (Kt rfl (Kt rfl (Kt rfl (Kq rfl (rd_pickt rfl rfl rfl) (WL.nil ?_))))))))))
      refine WX.joinP (()) (sub_cons rfl (sub_cons rfl (sub_cons rfl (sub_cons rfl (sub_nil _))))) (by refine (sub_cons ?_ (sub_nil _)) <;> ((refine slot_b rfl ?_; (try dsimp only); (simp [*]; done)))) ?_ (by (exact st_sub))
      (try dsimp only)
      done
     ·(try simp only [sB] at hg54)
      refine Kq rfl (rd_fa (q := 0) rfl rfl Tryz.underlying26 rfl (by kernel_rfl) rfl) ?_
      refine Kq rfl (rd_fa (q := 1) rfl rfl Tryz.underlying24 rfl (by kernel_rfl) rfl) ?_
      refine Kq rfl (ld rfl rfl .tc Tryz.underlying22 rfl (by rfl)) ?_
      refine Kq rfl (rd_seq rfl rfl rfl) (Kq rfl (rd_pickf rfl rfl rfl) (Km rfl ?_))
      refine WL.bool 60 rfl (fun hg60 => ?_) (fun hg60 => ?_)
      ·(try simp only [sB] at hg60)
       refine Kt rfl (Kt rfl (Kt rfl (Kq rfl (rd_pickt rfl rfl rfl) (WL.nil ?_))))
       refine WX.joinP (()) (sub_cons rfl (sub_cons rfl (sub_cons rfl (sub_cons rfl (sub_nil _))))) (by refine (sub_cons ?_ (sub_nil _)) <;> ((refine slot_b rfl ?_; (try dsimp only); (simp [*]; done)))) ?_ (by (exact st_sub))
       (try dsimp only)
       done
      ·(try simp only [sB] at hg60)
       refine Kq rfl (lda rfl rfl .tc Tryz.underlying26 rfl ?_) ?_
       ·kernel_rfl
       refine Kh rfl (og_call rfl rfl (by kernel_rfl) (keep_val fun w hS => icheck_c (k := k) (by exact (show few14 k by assumption).1))) ?_
       intro _
       refine Kq rfl (rd_neq rfl rfl rfl) (Kq rfl (rd_pickf rfl rfl rfl) (WL.nil ?_))
       refine WX.joinP (()) (sub_cons rfl (sub_cons rfl (sub_cons rfl (sub_cons rfl (sub_nil _))))) (by refine (sub_cons ?_ (sub_nil _)) <;> ((refine slot_b rfl ?_; (try dsimp only); (simp [*]; done)))) ?_ (by (exact st_sub))
       (try dsimp only)
       done
 ·rintro _ hmeet; (try dsimp only at hmeet ⊢)
  refine WC.cond rfl (fun hc64 => ?_) (fun hc64 => ?_)
  ·(try simp only [sB] at hc64)
   refine WC.sr ?_
   refine Kh rfl (og_call rfl rfl (by kernel_rfl) (keep_val fun w hS => awake26_c)) ?_
   intro _
   refine Ka rfl (WL.nt (WC.ret (WX.then_ret ?_)))
   exact WX.retN rfl (.tmp rfl .nil) fun w' hS => ⟨by rfl, hS.below⟩
  ·(try simp only [sB] at hc64)
   obtain ⟨hfm, hfk, hsh, hkm, hmo, hk⟩ := Decidable.not_not.1 hc64
   have hm8 := hfm.1
   have hk8 := hfk.1
   have hlx : x.2.length ≤ 16 := hsh _ (by simp)
   have hlr : r1.2.length ≤ 16 := hsh _ (by simp)
   refine WC.skip (WX.then_normal (WC.sr ?_))
   refine Kq rfl (lda rfl rfl .tc Tryz.underlying26 rfl ?_) ?_
   ·kernel_rfl
   refine Kq rfl (lda rfl rfl .tc Tryz.underlying45 rfl ?_) ?_
   ·kernel_rfl
   refine Kq rfl (rd_iaa rfl rfl rfl Tryz.underlying79 (by kernel_rfl : _ = some 2) ?_ (by (try simp only [sN, Int.reduceToNat, Nat.reduceAdd, Nat.reduceMul, Nat.reduceSub]); rfl)) ?_
   ·omega
   refine Kq rfl (ldp rfl rfl .tc Tryz.underlying45 rfl (by kernel_rfl : _ = some 2) (by rfl) (by rfl)) ?_
   refine Kq rfl (rd_bld [[.bool false, .string (S [])], [.bool false, .string (S [])]] rfl rfl (by simp only [bld, fldv, Nat.beq, Value.cells, cond_true, cond_false, List.nil_append, List.cons_append, List.append_nil]; rfl) (fun w => by kernel_rfl)) ?_
   refine Kh rfl (og_call rfl rfl (by kernel_rfl) (keep_val fun w hS => commit_c (k := m) (o := (x, r0)) (by assumption))) ?_
   intro _
   refine Km rfl (Kq rfl (rd_extL rfl rfl rfl) (Kq rfl (rd_extL rfl rfl rfl) (Ka rfl (Ka rfl (WL.nt (WC.sr ?_))))))
   refine Kq rfl (lda rfl rfl .tc Tryz.underlying26 rfl ?_) ?_
   ·kernel_rfl
   refine Kq rfl (lda rfl rfl .tc Tryz.underlying45 rfl ?_) ?_
   ·kernel_rfl
   refine Kq rfl (rd_iaa rfl rfl rfl Tryz.underlying79 (by kernel_rfl : _ = some 2) ?_ (by (try simp only [sN, Int.reduceToNat, Nat.reduceAdd, Nat.reduceMul, Nat.reduceSub]); rfl)) ?_
   ·omega
   refine Kq rfl (ldp rfl rfl .tc Tryz.underlying45 rfl (by kernel_rfl : _ = some 2) (by rfl) (by rfl)) ?_
   refine Kq rfl (rd_bld [[.bool false, .string (S [])], [.bool false, .string (S [])]] rfl rfl (by simp only [bld, fldv, Nat.beq, Value.cells, cond_true, cond_false, List.nil_append, List.cons_append, List.append_nil]; rfl) (fun w => by kernel_rfl)) ?_
   refine Kh rfl (og_call rfl rfl (by kernel_rfl) (keep_val fun w hS => commit_c (k := k) (o := (x, r1)) (by assumption))) ?_
   intro _
   refine Km rfl (Kq rfl (rd_extL rfl rfl rfl) (Kq rfl (rd_extL rfl rfl rfl) (Ka rfl (Ka rfl (WL.nt (WC.seq ?_))))))
   refine WC.joinP (σ := Unit) [(4, _), (5, _), (7, _), (8, _), (9, _), (11, _)] (fun gq => [(89, .bool (decide (¬ ((comS m (x, r0)).2 = 0 ∧ (comS k (x, r1)).2 = 0))))]) (fun gq => True) (sub_cons rfl (sub_cons rfl (sub_cons rfl (sub_cons rfl (sub_cons rfl (sub_cons rfl (sub_nil _))))))) ?_ ?_
   ·skip
    refine WC.region (Km rfl (Kq rfl (rd_neq rfl rfl rfl) (Km rfl ?_)))
    refine WL.bool 86 rfl (fun hg86 => ?_) (fun hg86 => ?_)
    ·(try simp only [sB] at hg86)
     refine Kt rfl (Kt rfl (Kq rfl (rd_pickt rfl rfl rfl) (WL.nil ?_)))
     refine WX.joinP (()) (sub_cons rfl (sub_cons rfl (sub_cons rfl (sub_cons rfl (sub_cons rfl (sub_cons rfl (sub_nil _))))))) (by refine (sub_cons ?_ (sub_nil _)) <;> ((refine slot_b rfl ?_; (try dsimp only); (simp [*]; done)))) ?_ (by (exact fun _ h => h))
     (try dsimp only)
     done
    ·(try simp only [sB] at hg86)
     refine Km rfl (Kq rfl (rd_neq rfl rfl rfl) (Kq rfl (rd_pickf rfl rfl rfl) (WL.nil ?_)))
     refine WX.joinP (()) (sub_cons rfl (sub_cons rfl (sub_cons rfl (sub_cons rfl (sub_cons rfl (sub_cons rfl (sub_nil _))))))) (by refine (sub_cons ?_ (sub_nil _)) <;> ((refine slot_b rfl ?_; (try dsimp only); (simp [*]; done)))) ?_ (by (exact fun _ h => h))
     (try dsimp only)
     done
   ·rintro _ hmeet; (try dsimp only at hmeet ⊢)
    refine WC.cond rfl (fun hc89 => ?_) (fun hc89 => ?_)
    ·(try simp only [sB] at hc89)
     refine WC.sr ?_
     refine Kh rfl (og_call rfl rfl (by kernel_rfl) (keep_val fun w hS => awake26_c)) ?_
     intro _
     refine Ka rfl (WL.nt (WC.ret (WX.then_ret ?_)))
     exact WX.retN rfl (.tmp rfl .nil) fun w' hS => ⟨by rfl, hS.below⟩
    ·(try simp only [sB] at hc89)
     obtain ⟨h1, h2⟩ := Decidable.not_not.1 hc89
     obtain ⟨hA1, hA2, hE, hH⟩ := cr_law hkm hmo hk h1 h2 hlx hlr
     have hzr0 : okZ r0 := (comS_ok h1).2.2.1
     have hoq : okN m.1.2 := (comS_ok h1).1.2.1
     refine WC.skip (WX.then_normal (WC.sr ?_))
     refine Kh rfl (og_call rfl rfl (by kernel_rfl) (keep_val fun w hS => of_c (n := 1) (by omega))) ?_
     intro _
     refine Ka rfl (WL.nt (WC.sr ?_))
     refine Kq rfl (rd_fa (q := 1) rfl rfl Tryz.underlying45 rfl (by kernel_rfl) rfl) ?_
     refine Kq rfl (ld rfl rfl .tc Tryz.underlying22 rfl (by rfl)) ?_
     refine Km rfl ?_
     refine Kh rfl (og_call rfl rfl (by kernel_rfl) (keep_val fun w hS => (by have := add_c (w := w) (a := x.2) (b := canon 1); rw [hA1] at this; exact this))) ?_
     intro _
     refine Km rfl (Kq rfl (rd_extL rfl rfl rfl) (Kq rfl (rd_extL rfl rfl rfl) (Ka rfl (Ka rfl (WL.nt (WC.sr ?_))))))
     refine Kq rfl (rd_iaa rfl rfl rfl Tryz.underlying79 (by kernel_rfl : _ = some 2) ?_ (by (try simp only [sN, Int.reduceToNat, Nat.reduceAdd, Nat.reduceMul, Nat.reduceSub]); rfl)) ?_
     ·omega
     (refine Kq rfl (rd_fa rfl rfl Tryz.underlying45 rfl (by kernel_rfl) (by (try simp only [sN, Int.reduceToNat, Nat.reduceAdd, Nat.reduceMul, Nat.reduceSub]); rfl)) ?_)
     refine Kq rfl (ld rfl rfl .tc Tryz.underlying22 rfl (by rfl)) ?_
     refine Km rfl ?_
     refine Kh rfl (og_call rfl rfl (by kernel_rfl) (keep_val fun w hS => (by have := add_c (w := w) (a := r1.2) (b := canon 1); rw [hA2] at this; exact this))) ?_
     intro _
     refine Km rfl (Kq rfl (rd_extL rfl rfl rfl) (Kq rfl (rd_extL rfl rfl rfl) (Ka rfl (Ka rfl (WL.nt (WC.sr ?_))))))
     refine Kq rfl (lda rfl rfl .tc Tryz.underlying26 rfl ?_) ?_
     ·kernel_rfl
     refine Kq rfl (lda rfl rfl .tc Tryz.underlying26 rfl ?_) ?_
     ·kernel_rfl
     refine Km rfl (Km rfl (Km rfl (Km rfl ?_)))
     refine Kh rfl (og_call rfl rfl (by kernel_rfl) (keep_ff fun w hS => iceql_c (m := m) (k := k) (a := (comS m (x, r0)).1) (b := (comS k (x, r1)).1) (v := (canon (val x.2 + 1))) (r := (canon (val r1.2 + 1))) (by assumption) (by assumption))) ?_
     rintro s114
     refine WL.pu ?_
     intro hg114; (try dsimp only [List.cons_append, List.nil_append] at hg114 ⊢)
     refine Km rfl (Kq rfl (rd_extL rfl rfl rfl) (Kq rfl (rd_extL rfl rfl rfl) ?_))
     refine Kh rfl (og_alloc rfl (v := (.agg #[.slice none 0 0, .slice none 0 0, .slice none 0 0])) (cs := [.slice none 0 0, .slice none 0 0, .slice none 0 0]) (by kernel_rfl) rfl) ?_
     intro b18
     refine WL.g0 rfl rfl (sta rfl rfl rfl .tc ?_ ?_ ?_) ?_
     ·kernel_rfl
     ·simp [Value.oneCell']
     ·rfl
     intro _
     refine Ka rfl (WL.nt (WC.sr ?_))
     refine Kq rfl (rd_iaa rfl rfl rfl Tryz.underlying79 (by kernel_rfl : _ = some 2) ?_ (by (try simp only [sN, Int.reduceToNat, Nat.reduceAdd, Nat.reduceMul, Nat.reduceSub]); rfl)) ?_
     ·omega
     refine Kq rfl (ldp rfl rfl .tc Tryz.underlying45 rfl (by kernel_rfl : _ = some 2) (by rfl) (by rfl)) ?_
     refine Kq rfl (rd_fa (q := 0) rfl rfl Tryz.underlying26 rfl (by kernel_rfl) rfl) ?_
     refine Kq rfl (rd_fa (q := 1) rfl rfl Tryz.underlying24 rfl (by kernel_rfl) rfl) ?_
     refine Kq rfl (ld rfl rfl .tc Tryz.underlying22 rfl (by rfl)) ?_
     refine Kh rfl (og_call rfl rfl (by kernel_rfl) (keep_val fun w hS => zmod_c (x := r0) (m := m.1.2) hzr0 hoq hmo)) ?_
     intro _
     refine Km rfl (Kq rfl (rd_extL rfl rfl rfl) (Kq rfl (rd_extL rfl rfl rfl) (Ka rfl (Ka rfl (WL.nt (WC.seq (WC.sr (Km rfl (Kq rfl (rd_neq rfl rfl rfl) ?_)))))))))
     refine WL.set 127 rfl (v' := .bool false) (by rfl) ?_
     refine Km rfl (Km rfl (Kq rfl (rd_neq rfl rfl rfl) ?_))
     refine WL.set 130 rfl (v' := .bool false) (by rfl) ?_
     refine Kq rfl (rd_pickf rfl rfl rfl) (Km rfl (Km rfl (Kq rfl (rd_neq rfl rfl rfl) ?_)))
     refine WL.set 134 rfl (v' := .bool false) (by rw [hE]; rfl) ?_
     refine Kq rfl (rd_pickf rfl rfl rfl) (Km rfl (Km rfl (Kq rfl (rd_neq rfl rfl rfl) ?_)))
     refine WL.set 138 rfl (v' := .bool false) (by rfl) ?_
     refine Kq rfl (rd_pickf rfl rfl rfl) (WL.nt ?_)
     refine WC.cond rfl (fun h => by cases h) (fun _ => ?_)
     refine WC.skip (WX.then_normal (WC.seq ?_))
     refine WC.free0 [2, 3, 0, 1, 4, 5, 6, 7, 8, 9, 10, 11, 12] [] [0, 0, 0, 1, 0, 0, 3, 1, 0, 0, 0, 0, 0] (by kernel_rfl) (by kernel_rfl) rfl ?_
     refine Kj rfl (rd_move rfl rfl) ?_
     refine WJ.gv rfl rfl rfl rfl rfl (fun ext => og_call rfl rfl (by kernel_rfl) (keep_val fun w hS => zfrom_c (a := canon (modI r0 m.1.2)))) ?_
     refine Kj rfl (lda rfl rfl .tc Tryz.underlying35 rfl ?_) ?_
     ·kernel_rfl
     refine Kj rfl (lda rfl rfl .tc Tryz.underlying45 rfl ?_) ?_
     ·kernel_rfl
     refine Kj rfl (rd_iaa rfl rfl rfl Tryz.underlying79 (by kernel_rfl : _ = some 2) ?_ (by (try simp only [sN, Int.reduceToNat, Nat.reduceAdd, Nat.reduceMul, Nat.reduceSub]); rfl)) ?_
     ·omega
     refine Kj rfl (ldp rfl rfl .tc Tryz.underlying45 rfl (by kernel_rfl : _ = some 2) (by rfl) (by rfl)) ?_
     refine WJ.f rfl rfl rfl rfl rfl (fr_bsN rfl rfl Tryz.underlying49 (by kernel_rfl : _ = some (some (.agg #[.bool false, .string (S [])]), 2, 24)) (by kernel_rfl) (by decide) rfl rfl (by (simp [Value.cells]; done)) (by (simp only [List.map, Value.cells, List.flatMap_cons, List.flatMap_nil, List.append_nil, List.toList_toArray]; rfl)) (by decide)) ?_
     intro b147
     refine WJ.gv rfl rfl rfl rfl rfl (fun ext => og_call rfl rfl (by kernel_rfl) (keep_val fun w hS => (by have := holds_c (w := w) (s := s114) (ws := [x, fromZ (canon (modI r0 m.1.2)), r1]) (a := some ⟨b147, 0, none⟩) (c := 3) hS.sl hS.sl hS.sl hS.os hS.more (saL_eq hm8 hk8 hg114) (by simp); rw [hg114, hE, hH] at this; exact this))) ?_
     refine Kj rfl (rd_move rfl rfl) ?_
     refine Kj rfl (rd_extL rfl rfl rfl) ?_
     refine Kj rfl (rd_extL rfl rfl rfl) ?_
     refine Kj rfl (rd_assign rfl rfl) ?_
     refine Kj rfl (rd_assign rfl rfl) ?_
     refine WJ.nil ?_
     refine WL.nt (WC.sr ?_)
     refine Kh rfl (og_call rfl rfl (by kernel_rfl) (keep_val fun w hS => awake26_c)) ?_
     intro _
     refine Km rfl ?_
     refine WL.set 152 rfl (v' := .bool true) (by rfl) ?_
     refine Km rfl (Kq rfl (rd_eql rfl rfl rfl) (Kq rfl (rd_pickt rfl rfl rfl) (Km rfl ?_)))
     refine WL.set 156 rfl (v' := .bool true) (by rfl) ?_
     refine Km rfl (Kq rfl (rd_pickt rfl rfl rfl) (Km rfl ?_))
     refine WL.set 159 rfl (v' := .bool true) (by rfl) ?_
     refine Kq rfl (lda rfl rfl .tc Tryz.underlying26 rfl ?_) ?_
     ·kernel_rfl
     refine Kh rfl (og_call rfl rfl (by kernel_rfl) (keep_val fun w hS => rpdcheck_c (k := m) (by assumption))) ?_
     intro _
     refine Kq rfl (rd_eql rfl rfl rfl) ?_
     refine WL.set 162 rfl (v' := .bool true) (by simp [hkm]) ?_
     refine Kq rfl (rd_pickt rfl rfl rfl) (Ka rfl (WL.nt (WC.ret ?_)))
     exact WX.retN rfl (.tmp rfl .nil) fun w' hS => ⟨by rfl, hS.below⟩
end Go.Proofs.YtnimhldbblfgbaaGreat
