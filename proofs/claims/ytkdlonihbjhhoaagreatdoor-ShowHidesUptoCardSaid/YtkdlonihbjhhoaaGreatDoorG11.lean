/-
  Parts of the walk: Ntl7 Int2 Mod Int3 DivW Asl Mo1.
-/
import Derived.Test.YtkdlonihbjhhoaaGreatDoorG10
namespace Go.Proofs.YtkdlonihbjhhoaaGreatDoor
open Go.RowKit
set_option linter.unusedSimpArgs false
set_option linter.unusedVariables false
set_option maxHeartbeats 600000
set_option maxRecDepth 20000
def fE (a b : Bs) : (Bs × Bs) × Int := if okN a ∧ okN b then (if b = [] then (([], []), 11) else ((ae (val a / val b), ae (val a % val b)), 0)) else (([], []), 3)
abbrev DE (r : (Bs × Bs) × Int) : Value := .tuple #[.string (S r.1.1), .string (S r.1.2), .int .i64 r.2]
theorem e9 {a b : Bs} {w : World} :
  Cw 145 #[.string (S a), .string (S b)] w (DE (fE a b)) := by
 refine En [] [(0, .string (S a)), (1, .string (S b))] Tryz.func145 I Tryz.ntmps145 I (Ac I (Ac I (An _))) Fn (Cs (Ka I (Ka I (DR ?_)))); refine FJ ?_; refine Nc 12 I (fun hg12 => ?_) (fun hg12 => ?_)
 ·refine T2 I (Kt I (Yp I (Nt (Cd I (fun _ => ?_) (fun h => by cases h)))))
  refine Cs (Ka I (Ka I (ne ?_)))
  exact GT
 ·refine Gi ?_; refine EP (fun hc16 => ?_) (fun hc16 => ?_)
  ·refine Cs (Ka I (Ka I (ne ?_))); exact GT
  ·have hab : okN a ∧ okN b := by simp_all
   refine Fe ?_; refine Fu (fun hc18 => ?_) (fun hc18 => ?_)
   ·have hb0 : b = [] := by simpa using hc18
    refine Cs (Ka I (Ka I (ne ?_))); exact R3 I I I I (by rw [fE, Ab hab, Ab hb0]; rfl)
   ·have hb0 : b ≠ [] := by simpa using hc18
    refine EN ?_; refine Kc I (fun w hS => mj (a := a) (b := b) (by exact hab.1) (by exact hab.2) (by exact hb0)) (BY ?_); refine FS ?_; refine Ka I (Ka I (to ?_)); exact R3 I I I I (by rw [fE, Ab hab, Aa hb0]; rfl)
def jT (a b : Bs) : Bs × Int := if okN a ∧ okN b then (ae (Nat.gcd (val a) (val b)), 0) else ([], 3)
theorem gi (x y : Nat) : Nat.gcd y (x % y) = Nat.gcd x y := by rw [Nat.gcd_comm x y, Nat.gcd_rec y x, Nat.gcd_comm]
theorem qu {x y : Bs} (h : okN y) (h0 : y ≠ []) : okN (ae (val x % val y)) := aq (Do (Ak _ (Ct fun e => h0 ((aM h.2).1 e))) (aK h))
theorem BL {a b : Bs} {w : World} :
  Cw 166 #[.string (S a), .string (S b)] w (NE (jT a b)) := by
 refine En [] [(0, .string (S a)), (1, .string (S b))] Tryz.func166 I Tryz.ntmps166 I (Ac I (Ac I (An _))) Fn (Cs (Ka I (DR ?_))); refine FJ ?_; refine Nc 11 I (fun hg11 => ?_) (fun hg11 => ?_)
 ·refine T2 I (Kt I (Yp I (Nt (Cd I (fun _ => ?_) (fun h => by cases h)))))
  refine Cs (Ka I (ne ?_))
  exact GW
 ·refine Gi ?_; refine EP (fun hc15 => ?_) (fun hc15 => ?_)
  ·refine Cs (Ka I (ne ?_)); exact GW
  ·have hab : okN a ∧ okN b := by simp_all
   refine Ck (Xa (Cq (Cb (Lp (σ := Bs × Bs) [] (fun gq => [(0, .string (S gq.1)), (1, .string (S gq.2))]) (fun gq => okN gq.1 ∧ okN gq.2 ∧ Nat.gcd (val gq.1) (val gq.2) = Nat.gcd (val a) (val b)) (fun gq => val gq.2) (a, b) (S0 _) (S2 I I) (by (try dsimp only); exact ⟨hab.1, hab.2, rfl⟩) ?_)))); rintro ⟨x, y⟩ hinv1; (try dsimp only at hinv1 ⊢); obtain ⟨hx, hy, hg⟩ := hinv1; refine Cq (Cs (Km I (Yr I (Nt (Ci I (fun hc17 => ?_) (fun hc17 => ?_))))))
   ·have hy0 : y ≠ [] := by simpa using hc17
    have hvy : 0 < val y := Ct fun e => hy0 ((aM hy.2).1 e)
    refine Ck (Xa (Cb (Cs (Km I (Km I (Kc I (fun w hS => mj (a := x) (b := y) (by exact hx) (by exact hy) (by exact hy0)) (Km I (Ye I (Ye I (Ka I (Ka I (Nt (Cg (Km I (Km I (Ka I (Ka I (Nn (Xd (Ly ((y, ae (val x % val y))) (by (try dsimp only); rw [af]; exact Ak _ hvy) (S0 _) (by refine (Sc ?_ (Sc ?_ (S0 _))) <;> (rfl)) ?_ (fun _ h => h))))))))))))))))))))); (try dsimp only); exact ⟨hy, qu hy hy0, by rw [af, gi, hg]⟩
   ·refine AT ?_; obtain rfl : y = [] := by simpa using hc17
    have hgx : val x = Nat.gcd (val a) (val b) := by rw [← hg]; exact (Ed _).symm
    refine Xa (Cs (Km I (Ka I (to ?_)))); exact R2 I I I (by rw [jT, Ab hab, ← hgx, bB hx]; rfl)
theorem jX {a b : Bs} {w : World} (ha : okN a) (hb : okN b) (hb0 : b ≠ []) :
  Cw 122 #[.string (S a), .string (S b)] w (.tuple #[.string (S (ae (val a / val b))), .string (S (ae (val a % val b)))]) := by
 have hal := ha.1; have hbl := hb.1
 have hvb : 0 < val b := Ct fun h => hb0 ((aM hb.2).1 h)
 have hbs := gn hal
 have hblt := aK hb
 have hvl := aL a
 refine En [] [(0, .string (S a)), (1, .string (S b))] Tryz.func122 I Tryz.ntmps122 I (Ac I (Ac I (An _))) Fn (Cs (Ka I (Ka I (Nt (Cq (WC.joinP (σ := Unit) [(0, _), (1, _)] (fun gq => [(20, .bool (decide (a.length ≤ 8 ∧ b.length ≤ 8)))]) (fun gq => True) (S2 I I) ?_ ?_))))))
 ·skip
  refine Cg (Km I (Yn I u22 (Ym I (Km I (Nc 16 I (fun hg16 => ?_) (fun hg16 => ?_))))))
  ·refine Km I (Yn I u22 (Ym I (Yp I (Nn (WX.joinP (()) (S2 I I) (by refine (Sc ?_ (S0 _)) <;> ((refine ai rfl ?_; (try dsimp only); (exact Af.2 (by omega))))) ?_ (fun _ h => h)))))); (try dsimp only); done
  ·refine T2 I (Kt I (Yq I (Nn (WX.joinP (()) (S2 I I) (by refine (Sc ?_ (S0 _)) <;> ((exact congrArg (fun b => some (Value.bool b)) (by symm; apply Aq; omega)))) ?_ (fun _ h => h))))); (try dsimp only); done
 ·rintro _ hmeet; (try dsimp only at hmeet ⊢)
  refine Ci I (fun hc20 => ?_) (fun hc20 => ?_)
  ·have hva8 : val a < 18446744073709551616 := dQ hc20.1; have hvb8 : val b < 18446744073709551616 := dQ hc20.2; have hdv := Bw (val a) (val b); have hmd := Ak (val a) hvb; refine Cs (Km I (Kc I (fun w hS => kz (a := a) (by omega)) (Km I (Kc I (fun w hS => kz (a := b) (by omega)) (Ka I (Ka I (Nt (Cq (Cf [0, 1, 2, 3, 4, 5, 6, 7, 8, 9] [] [0, 0, 0, 1, 0, 0, 0, 1, 0, 0] (by kernel_rfl) (by kernel_rfl) I ?_))))))))); refine DW ?_; refine Kj I (cF I I I ?_) ?_
   ·omega
   refine Jv I I I I I (fun ext => Oc I I (Kv fun w hS => dJ (n := val a / val b) (by omega))) ?_; refine DW ?_; refine Kj I (bt I I I ?_) ?_
   ·assumption
   refine Jv I I I I I (fun ext => Oc I I (Kv fun w hS => dJ (n := val a % val b) (by omega))) ?_; refine ES ?_; refine ES ?_; refine WJ.nil ?_; refine Nt (Ce (Xb ?_)); exact R2 I I I (by rfl)
  ·refine Ck (Xa (Cs (Km I (Yn I u22 (Kh I (ef I I I aE (by kernel_rfl : _ = some (some (.int .u8 0), 1, 1)) I ?_ (by (try simp only [sN, Int.reduceToNat, Nat.reduceAdd, Nat.reduceMul, Nat.reduceSub]); rfl) (by (try simp only [sN, Int.reduceToNat, Nat.reduceAdd, Nat.reduceMul, Nat.reduceSub]); rfl)) ?_)))))
   ·omega
   intro b35; refine Ka I (Nt (Cs (DR ?_))); refine Kc I (fun w hS => kQ (a := a) (by omega)) (FG ?_); refine Ka I (Nt (Cb (Lo (σ := Nat × Bs × Nat × Int) [(0, _), (1, _), (8, _)] (fun gq => [(9, .string (S gq.2.1)), (10, .int .i64 gq.2.2.2)]) (fun gq => gq.1 ≤ aF a ∧ gq.2.1 = ae (val a / 2 ^ gq.1 % val b) ∧ gq.2.2.1 = val a / 2 ^ gq.1 / val b * 2 ^ gq.1 ∧ gq.2.2.2 = (gq.1 : Int) - 1) (fun gq => gq.1) (fun gq => [⟨some b35, (be a.length gq.2.2.1).map B, 5⟩]) (fun gq => []) (aF a, [], 0, (aF a : Int) - 1) (S3 I I I) (S2 I I) (by (try dsimp only); have h0 : val a / 2 ^ aF a = 0 := Bh (fQ a); rw [h0]; exact ⟨Bd _, by rw [Nat.zero_mod, ei], by rw [Nat.zero_div, Cc], rfl⟩) (by exact fun w h => by rw [show (be a.length 0).map B = List.replicate a.length (.int .u8 0) from re _]; exact h) ?_))); rintro ⟨t, r, Q, j⟩ hinv1; (try dsimp only at hinv1 ⊢); obtain ⟨ht, hr, hQ, hj⟩ := hinv1; refine Cq (Cs (Km I (E7 (fun hc40 => ?_) (fun hc40 => ?_))))
   ·obtain ⟨m, rfl⟩ : ∃ m, t = m + 1 := ⟨t - 1, by omega⟩; refine WC.set 10 I (v' := .int .i64 ((m : Nat) : Int)) (by rw [hj]; congr 1; omega) ?_; obtain ⟨R, hR⟩ : ∃ R, R = val a / 2 ^ (m + 1) % val b := ⟨_, rfl⟩; rw [← hR] at hr; obtain ⟨c, hc⟩ : ∃ c, c = 2 * R + val a / 2 ^ m % 2 := ⟨_, rfl⟩; have hst := rV (A := val a) (B := val b) (t := m) (c := c) hvb (by rw [hc, hR]); have hRl : R < val b := by rw [hR]; exact Ak _ hvb
    have hlR : (ae R).length ≤ 128 := (aq (by omega)).1
    have hl2 : (ae (2 * R)).length ≤ 129 := bj.2 (by have h1 : (256 : Nat) ^ 129 = 256 * Big := by rw [As, Aj]; rfl
                                                     omega)
    have hlc : (ae c).length ≤ 129 := bj.2 (by have h1 : (256 : Nat) ^ 129 = 256 * Big := by rw [As, Aj]; rfl
                                               omega)
    subst hr
    have hm8 : m / 8 < a.length := by
     have h1 := sL a; omega
    have hod := pl (val a / 2 ^ (m + 1) / val b) m; rw [← hQ] at hod; refine El ?_; refine Km I (Kc I (fun w hS => kT (a := ae R) (b := ae R) (by omega) (by omega)) (Ns 45 I (v' := .string (S (ae (2 * R)))) (congrArg (fun l => Value.string (S l)) (by rw [af, ← Nat.two_mul])) ?_)); refine Ka I (Nt (WC.joinP (σ := Unit) [(0, _), (1, _), (8, _), (10, _)] (fun gq => [(9, .string (S (ae c)))]) (fun gq => True) (S4 I I I I) ?_ ?_))
    ·skip
     refine FS ?_; refine Kc I (fun w hS => tJ (a := a) (i := m) (by omega) (by omega)) (Nt (Ci I (fun hc48 => ?_) (fun hc48 => ?_)))
     ·have hb1 : val a / 2 ^ m % 2 = 1 := by simpa [gp] using hc48
      refine Cg (Km I (Kc I (fun w hS => kT (a := ae (2 * R)) (b := [1]) (by omega) (by (simp <;> omega))) (Ns 50 I (v' := .string (S (ae c))) (congrArg (fun l => Value.string (S l)) (by rw [af, show val [1] = 1 from rfl, hc, hb1])) ?_))); refine Ka I (Nn (WX.joinP (()) (S4 I I I I) (by refine (Sc ?_ (S0 _)) <;> (rfl)) ?_ (fun _ h => h))); (try dsimp only); done
     ·have hb1 : ¬ val a / 2 ^ m % 2 = 1 := by simpa [gp] using hc48
      rw [show 2 * R = c by omega]; refine Ck (WX.joinP (()) (S4 I I I I) (by refine (Sc ?_ (S0 _)) <;> (rfl)) ?_ (fun _ h => h)); (try dsimp only); done
    ·rintro _ hmeet; (try dsimp only at hmeet ⊢); refine FS ?_; refine Kc I (fun w hS => dH (a := ae c) (b := b) (by exact bn _) (by exact hb.2) (by omega)) (E7 (fun hc54 => ?_) (fun hc54 => ?_))
     ·have hge : val b ≤ c := Nat.not_lt.1 fun h => by have := (ax c (val b)).2 h; rw [af] at hc54; omega
      obtain ⟨hq1, hr1⟩ := hst.1 hge; refine FS ?_; refine Kc I (fun w hS => j5 (a := ae c) (b := b) (by rw [af]; exact hge) (by omega) (by omega)) (Ns 57 I (v' := .string (S (ae (c - val b)))) (congrArg (fun l => Value.string (S l)) (by rw [af])) ?_); refine Ka I (Nt (Cs (E5 ?_))); refine Lo (σ := Nat × Nat) [(0, _), (1, _), (8, _), (9, _), (10, _)] (fun gq => [(11, .int .u8 (gq.2 : Int)), (12, .int .i64 (gq.1 : Int))]) (fun gq => gq.1 ≤ m % 8 ∧ gq.2 = 2 ^ gq.1) (fun gq => m % 8 - gq.1) (fun gq => [⟨some b35, (be a.length Q).map B, 5⟩]) (fun gq => []) (0, 1) (S5 I I I I I) (S2 I I) (by (try dsimp only); exact ⟨Ai _, rfl⟩) (fun _ h => h) ?_; rintro ⟨k, p⟩ hinv2; (try dsimp only at hinv2 ⊢); obtain ⟨hk, hp⟩ := hinv2; refine E0 ?_; refine Kq I (cH I I I (by omega)) (Ew (fun hc61 => ?_) (fun hc61 => ?_))
      ·have hp2 : p * 2 ≤ 128 := by
        rw [hp, ← As]; exact Br (A2 (by decide) (by omega : k + 1 ≤ 7)) (by decide)
       refine Ck (Xa (Cq (Cb (Cg (Km I (Kq I (bH (c := 2) I I I (by omega)) (Ka I (Nn (Xd (Xa (Cg (Km I (Kq I (Rz I I I (by omega)) (Ka I (Nn (Lx ((k + 1, p * 2)) (by (try dsimp only); omega) (S5 I I I I I) (by refine (Sc ?_ (Sc ?_ (S0 _))) <;> (rfl)) ?_ (fun _ h => h))))))))))))))))); (try dsimp only); exact ⟨by omega, by rw [hp, As]⟩
      ·refine AT ?_; obtain rfl : k = m % 8 := by omega
       have hq8 : ((be a.length Q).map B)[a.length - 1 - m / 8]? = some (.int .u8 ((Q / 256 ^ (m / 8) % 256 : Nat) : Int)) := by
        rw [A6, jx _ _ _ (by omega), show a.length - 1 - (a.length - 1 - m / 8) = m / 8 by omega]; simp [B, UInt8.toNat_ofNat']
       rw [← hp] at hod; refine Xa (Cg (Km I (Km I (Yn I u22 (Kq I (av I I I (by omega)) (Gx ?_)))))); refine Kq I (aS I I I (by omega)) ?_; refine Ek ?_; refine Kq I (ld I I .tc u5 I hq8) ?_; refine Km I (Kq I (bN I I I (by assumption)) ?_); refine Ns 76 I (v' := B (UInt8.ofNat (Q / 256 ^ (m / 8) % 256 + p))) (by rw [B, UInt8.toNat_ofNat', Ah hod]) ?_; refine Ek ?_; refine Ng I I (st I I I .tc (by kernel_rfl) I ?_ (by rfl)) ?_
       ·rw [Ag, aP]; omega
       intro _; refine Nn (Xd (Xa (Cg (Km I (Kq I (aJ I I I (by omega)) (Ka I (Nn (Lx ((m, ae (c - val b), Q + p * 256 ^ (m / 8), (m : Int) - 1)) (by (try dsimp only); omega) (S3 I I I) (by refine (Sc ?_ (Sc ?_ (S0 _))) <;> (rfl)) ?_ (by exact fun w h => by rw [← z7 a.length (m / 8) Q p (by omega) hod, List.map_set]; exact h))))))))); (try dsimp only); exact ⟨by omega, by rw [hr1], by rw [hq1, hp, ← lL, hQ, As, Be, Cm]; congr 1; simp only [Aj, Bm, Au], rfl⟩
     ·have hlt : c < val b := by rw [af] at hc54; exact (ax c (val b)).1 hc54
      obtain ⟨hq1, hr1⟩ := hst.2 hlt; refine Ck (Xd (Xa (Cg (Km I (Kq I (aJ I I I (by omega)) (Ka I (Nn (Lx ((m, ae c, Q, (m : Int) - 1)) (by (try dsimp only); omega) (S3 I I I) (by refine (Sc ?_ (Sc ?_ (S0 _))) <;> (rfl)) ?_ (fun _ h => h))))))))); (try dsimp only); exact ⟨by omega, by rw [hr1], by rw [hq1, hQ, As]; simp only [Aj, Bm, Au], rfl⟩
   ·refine AT ?_; obtain rfl : t = 0 := by omega
    rw [B1, Dj, A0] at hQ; rw [B1, Dj] at hr; subst hr; have hbl1 := aP a.length Q; have hQl : Q < 256 ^ a.length := by rw [hQ]; exact Bj (Bw _ _) hvl
    refine Xa (Cs (Km I (Kc I (fun w hS => ip (b := be a.length Q) (by (exact hS.os)) (by omega) (by omega) (by omega)) (Km I (Ka I (to ?_)))))); exact R2 I I I (by rw [dr, Ah hQl, hQ]; rfl)
theorem eT {a b : Bs} {w : World} :
  Cw 213 #[.string (S a), .string (S b)] w (DE (fE a b)) := by
 refine En [] [(0, .string (S a)), (1, .string (S b))] Tryz.func213 I Tryz.ntmps213 I (Ac I (Ac I (An _))) Fn (Cs (Ka I (Ka I (DR ?_)))); refine Gj ?_; refine Yt I (Km I (Nc 12 I (fun hg12 => ?_) (fun hg12 => ?_)))
 ·refine T2 I (Kt I (Yp I (Nt (Cd I (fun _ => ?_) (fun h => by cases h)))))
  refine Cs (Ka I (Ka I (ne ?_)))
  exact GT
 ·refine Km I (Gj ?_); refine EP (fun hc16 => ?_) (fun hc16 => ?_)
  ·refine Cs (Ka I (Ka I (ne ?_))); exact GT
  ·have hab : okN a ∧ okN b := by simp_all
   refine Fe ?_; refine Fu (fun hc18 => ?_) (fun hc18 => ?_)
   ·have hb0 : b = [] := by simpa using hc18
    refine Cs (Ka I (Ka I (ne ?_))); exact R3 I I I I (by rw [fE, Ab hab, Ab hb0]; rfl)
   ·have hb0 : b ≠ [] := by simpa using hc18
    refine EN ?_; refine Kc I (fun w hS => jX (a := a) (b := b) (by exact hab.1) (by exact hab.2) (by exact hb0)) (BY ?_); refine FS ?_; refine Ka I (Ka I (to ?_)); exact R3 I I I I (by rw [fE, Ab hab, Aa hb0]; rfl)
theorem lU {a b : Bs} {w : World} (ha : okN a) (hb : okN b) :
  Cw 125 #[.string (S a), .string (S b)] w (.string (S (ae (Nat.gcd (val a) (val b))))) := by
 refine En [] [(0, .string (S a)), (1, .string (S b))] Tryz.func125 I Tryz.ntmps125 I (Ac I (Ac I (An _))) Fn (Cs (Ka I (Nt (Cq (Cb (Lp (σ := Bs × Bs) [] (fun gq => [(0, .string (S gq.1)), (1, .string (S gq.2))]) (fun gq => okN gq.1 ∧ okN gq.2 ∧ Nat.gcd (val gq.1) (val gq.2) = Nat.gcd (val a) (val b)) (fun gq => val gq.2) (a, b) (S0 _) (S2 I I) (by (try dsimp only); exact ⟨ha, hb, rfl⟩) ?_))))))
 rintro ⟨x, y⟩ hinv1; (try dsimp only at hinv1 ⊢)
 obtain ⟨hx, hy, hg⟩ := hinv1
 refine Cq (Cs (Km I (Yr I (Nt (Ci I (fun hc8 => ?_) (fun hc8 => ?_))))))
 ·have hy0 : y ≠ [] := by simpa using hc8
  have hvy : 0 < val y := Ct fun e => hy0 ((aM hy.2).1 e)
  refine Ck (Xa (Cb (Cs (Km I (Km I (Kc I (fun w hS => jX (a := x) (b := y) (by exact hx) (by exact hy) (by exact hy0)) (Km I (Ye I (Ye I (Ka I (Ka I (Nt (Cg (Km I (Km I (Ka I (Ka I (Nn (Xd (Ly ((y, ae (val x % val y))) (by (try dsimp only); rw [af]; exact Ak _ hvy) (S0 _) (by refine (Sc ?_ (Sc ?_ (S0 _))) <;> (rfl)) ?_ (fun _ h => h)))))))))))))))))))))
  (try dsimp only)
  exact ⟨hy, qu hy hy0, by rw [af, gi, hg]⟩
 ·refine AT ?_
  obtain rfl : y = [] := by simpa using hc8
  have hgx : val x = Nat.gcd (val a) (val b) := by rw [← hg]; exact (Ed _).symm
  refine Xa (Cs (Km I (to ?_)))
  exact R1 I I (by rw [← hgx, bB hx]; rfl)
def aw (a : Bs) : Zs := if okN a then (false, a) else (false, [])
theorem cD {a : Bs} (h : okN a) : aw a = (false, a) := Ab h
theorem cR {a : Bs} {w : World} :
  Cw 45 #[.string (S a)] w (zV (aw a)) := by
 refine En [] [(0, .string (S a))] Tryz.func45 I Tryz.ntmps45 I (Ac I (An _)) Fn (Cs (AS ?_))
 intro b2
 refine Nt (Cq (Cs (Gi ?_))); refine Eq (fun hc5 => ?_) (fun hc5 => ?_)
 ·refine Cs (By ?_)
  refine DQ ?_; refine Nt (Ce (Xb ?_))
  exact Rn I (.agg I .tc u37 I (by kernel_rfl) .nil) fun w' hS => ⟨by rw [aw, Aa (by simpa using hc5)]; rfl, hS.below⟩
 ·refine FN ?_; refine Kc I (fun w hS => ge (n := false) (a := a)) (DQ ?_); refine Nt (Ce ?_)
  exact Rn I (.agg I .tc u37 I (by kernel_rfl) .nil) fun w' hS => ⟨by rw [aw, Ab (by simpa using hc5)]; rfl, hS.below⟩
def bP (x y : Zs) : Zs × Int := if okZ x ∧ okZ y then (mkZ (x.1 != y.1) (bG x.2 y.2).1, (bG x.2 y.2).2) else ((false, []), 3)
theorem oR {x y : Zs} {w : World} :
  Cw 46 #[zV x, zV y] w (ZE (bP x y)) := by
 refine En [] [(0, zV x), (1, zV y)] Tryz.func46 I Tryz.ntmps46 I (Ac I (Ac I (An _))) Fn (DO ?_)
 intro b2
 refine EW ?_
 intro b3
 refine AS ?_
 intro b4
 refine Ka I (Nt (Cq (Cs (Kq I (lda I I .tc u37 I ?_) ?_))))
 ·kernel_rfl
 refine Kq I (lda I I .tc u37 I ?_) ?_
 ·kernel_rfl
 refine Kc I (fun w hS => pH (x := x) (y := y)) (Eq (fun hc11 => ?_) (fun hc11 => ?_))
 ·have hr : bP x y = ((false, []), 3) := by rw [bP, Aa (by simpa using hc11)]
  refine Cs (By ?_)
  refine DQ ?_; refine ne ?_
  exact Gy
 ·have hr : bP x y = (mkZ (x.1 != y.1) (bG x.2 y.2).1, (bG x.2 y.2).2) := by rw [bP, Ab (by simpa using hc11)]
  refine Ck (Xa (Cs (Ej ?_)))
  refine Ej ?_
  refine Kc I (fun w hS => um (a := x.2) (b := y.2)) (BY ?_); refine Cs (EJ ?_)
  refine EJ ?_
  refine Kq I (m0 I I I u4) (Km I (Kc I (fun w hS => ge (n := x.1 != y.1) (a := (bG x.2 y.2).1)) (Km I (DQ ?_)))); refine to ?_
  exact Gy
theorem p8 {x y : Zs} {w : World} :
  Cw 53 #[zV x, zV y] w (ZE (bP x y)) := by
 refine En [] [(0, zV x), (1, zV y)] Tryz.func53 I Tryz.ntmps53 I (Ac I (Ac I (An _))) Fn (DO ?_)
 intro b2
 refine EW ?_
 intro b3
 refine AS ?_
 intro b4
 refine Ka I (Nt (Cq (Cs (Kq I (lda I I .tc u37 I ?_) ?_))))
 ·kernel_rfl
 refine Gf ?_; refine Nc 11 I (fun hg11 => ?_) (fun hg11 => ?_)
 ·refine T2 I (Kt I (Yp I (Nt (Cd I (fun _ => ?_) (fun h => by cases h)))))
  refine Cs (By ?_)
  refine DQ ?_; refine ne ?_
  exact Rn I (.agg I .tc u37 I (by kernel_rfl) (.tmp I .nil)) fun w' hS => ⟨by rw [show bP x y = ((false, []), 3) from by rw [bP, Aa (by simp_all)]]; rfl, hS.below⟩
 ·refine Kq I (lda I I .tc u37 I ?_) ?_
  ·kernel_rfl
  refine Kc I (fun w hS => bu (x := y)) (EP (fun hc15 => ?_) (fun hc15 => ?_))
  ·refine Cs (By ?_); refine DQ ?_; refine ne ?_; exact Rn I (.agg I .tc u37 I (by kernel_rfl) (.tmp I .nil)) fun w' hS => ⟨by rw [show bP x y = ((false, []), 3) from by rw [bP, Aa (by simp_all)]]; rfl, hS.below⟩
  ·have hr : bP x y = (mkZ (x.1 != y.1) (bG x.2 y.2).1, (bG x.2 y.2).2) := by rw [bP, Ab (by simp_all)]
   refine Ck (Xa (Cs (Ej ?_))); refine Ej ?_; refine Kc I (fun w hS => mS (a := x.2) (b := y.2)) (BY ?_); refine Cs (EJ ?_); refine EJ ?_; refine Kq I (m0 I I I u4) (Km I (Kc I (fun w hS => dF (n := x.1 != y.1) (a := (bG x.2 y.2).1)) (Km I (DQ ?_)))); refine to ?_; exact Gy
theorem dg {a b : Bs} (ha : okN a) (hb : okN b) (h0 : b ≠ []) : fE a b = ((ae (val a / val b), ae (val a % val b)), 0) := by rw [fE, Ab ⟨ha, hb⟩, Aa h0]
theorem tA {n : Int} {w : World} (h0 : -9223372036854775808 ≤ n) (h1 : n ≤ 9223372036854775807) :
  Cw 245 #[.int .i64 n] w (zV (ofZ n)) := by
 refine En [] [(0, .int .i64 n)] Tryz.func245 I Tryz.ntmps245 I (Ac I (An _)) Fn (Cs (AS ?_))
 intro b2
 refine Nt (Cq (Cs (Km I (Ew (fun hc4 => ?_) (fun hc4 => ?_)))))
 ·have hr : ofZ n = mkZ true (ae n.natAbs) := by rw [ofZ, Am hc4]
  refine Cs (Km I (Kq I (bf I I I (by omega)) ?_))
  refine Kq I (n4 I I ?_) ?_
  ·omega
  refine Kq I (aR I I u2 u76) (Kq I (m5 I I I) (Ns 9 I (v' := .int .u64 ((n.natAbs : Nat) : Int)) (by exact congrArg (Value.int .u64) (by simp only [IntKind.wrap_u64]; omega)) ?_))
  refine Kc I (fun w hS => dJ (n := n.natAbs) (by omega)) (Kc I (fun w hS => dF (n := true) (a := ae n.natAbs)) (DQ ?_)); refine Nt (Ce (Xb ?_))
  exact GA
 ·have hr : ofZ n = mkZ false (ae n.natAbs) := by rw [ofZ, Aq (by omega)]
  refine FN ?_; refine Kq I (aR I I u2 u76) (Ns 13 I (v' := .int .u64 ((n.natAbs : Nat) : Int)) (by exact congrArg (Value.int .u64) (by rw [IntKind.wrap_u64]; omega)) ?_)
  refine Kc I (fun w hS => dJ (n := n.natAbs) (by omega)) (Kc I (fun w hS => dF (n := false) (a := ae n.natAbs)) (DQ ?_)); refine Nt (Ce ?_)
  exact GA
def dmZ (x y : Zs) : (Zs × Bs) × Int :=
 if okZ x ∧ okZ y then
  (if y.2 = [] then (((false, []), []), 11)
   else if x.1 = true ∧ val x.2 % val y.2 ≠ 0 then ((mkZ (x.1 != y.1) (addN (ae (val x.2 / val y.2)) [1]).1, ae (val y.2 - val x.2 % val y.2)), 0)
   else ((mkZ (x.1 != y.1) (ae (val x.2 / val y.2)), ae (val x.2 % val y.2)), 0))
 else (((false, []), []), 3)
abbrev DZE (r : (Zs × Bs) × Int) : Value := .tuple #[zV r.1.1, .string (S r.1.2), .int .i64 r.2]
theorem tD {x y : Zs} {w : World} :
  Cw 247 #[zV x, zV y] w (DZE (dmZ x y)) := by
 refine En [] [(0, zV x), (1, zV y)] Tryz.func247 I Tryz.ntmps247 I (Ac I (Ac I (An _))) Fn (DO ?_)
 intro b2
 refine EW ?_
 intro b3
 refine AS ?_
 intro b4
 refine Ka I (Ka I (Nt (Cq (Cs (Kq I (lda I I .tc u37 I ?_) ?_)))))
 ·kernel_rfl
 refine Gf ?_; refine Nc 13 I (fun hg13 => ?_) (fun hg13 => ?_)
 ·refine T2 I (Kt I (Yp I (Nt (Cd I (fun _ => ?_) (fun h => by cases h)))))
  refine Cs (By ?_)
  refine DQ ?_; refine Ka I (ne ?_)
  exact Rn I (.agg I .tc u37 I (by kernel_rfl) (.tmp I (.tmp I .nil))) fun w' hS => ⟨by rw [show dmZ x y = (((false, []), []), 3) from by rw [dmZ, Aa (by simp_all)]]; rfl, hS.below⟩
 ·refine Kq I (lda I I .tc u37 I ?_) ?_
  ·kernel_rfl
  refine Kc I (fun w hS => bu (x := y)) (EP (fun hc17 => ?_) (fun hc17 => ?_))
  ·refine Cs (By ?_); refine DQ ?_; refine Ka I (ne ?_); exact Rn I (.agg I .tc u37 I (by kernel_rfl) (.tmp I (.tmp I .nil))) fun w' hS => ⟨by rw [show dmZ x y = (((false, []), []), 3) from by rw [dmZ, Aa (by simp_all)]]; rfl, hS.below⟩
  ·have hok : okZ x ∧ okZ y := by simp_all
   refine Gg ?_; refine Ej ?_; refine Fu (fun hc21 => ?_) (fun hc21 => ?_)
   ·have hr : dmZ x y = (((false, []), []), 11) := by rw [dmZ, Ab hok, Ab (by simpa using hc21)]
    refine Cs (By ?_); refine DQ ?_; refine Ka I (ne ?_); exact GN
   ·have hy0 : y.2 ≠ [] := by simpa using hc21
    have hdv := dg hok.1.1 hok.2.1 hy0; have hvy : 0 < val y.2 := Ct fun e => hy0 ((aM hok.2.1.2).1 e)
    have hmd := Ak (val x.2) hvy; have hby := aK hok.2.1; refine Ck (Xa (Cs (Ej ?_))); refine Ej ?_; refine Kc I (fun w hS => (by have := eT (w := w) (a := x.2) (b := y.2); rw [hdv] at this; exact this)) (EX ?_); refine Ka I (Nt (Cq (WC.joinP (σ := Unit) [(2, _), (3, _), (4, _), (7, _), (8, _)] (fun gq => [(37, .bool (decide (x.1 = true ∧ val x.2 % val y.2 ≠ 0)))]) (fun gq => True) (S5 I I I I I) ?_ ?_)))
    ·skip
     refine Cg (EJ ?_); refine Km I (Nc 34 I (fun hg34 => ?_) (fun hg34 => ?_))
     ·refine Km I (Yr I (Ns 36 I (v' := .bool (decide (val x.2 % val y.2 ≠ 0))) (congrArg Value.bool (by simp [aT])) ?_)); refine Yp I (Nn (WX.joinP (()) (S5 I I I I I) (by refine (Sc ?_ (S0 _)) <;> ((refine ai rfl ?_; (try dsimp only); (simp [*]; done)))) ?_ (fun _ h => h))); (try dsimp only); done
     ·refine T2 I (Yq I (Nn (WX.joinP (()) (S5 I I I I I) (by refine (Sc ?_ (S0 _)) <;> ((refine ai rfl ?_; (try dsimp only); (simp [*]; done)))) ?_ (fun _ h => h)))); (try dsimp only); done
    ·rintro _ hmeet; (try dsimp only at hmeet ⊢); refine Ci I (fun hc37 => ?_) (fun hc37 => ?_)
     ·have hr : dmZ x y = ((mkZ (x.1 != y.1) (addN (ae (val x.2 / val y.2)) [1]).1, ae (val y.2 - val x.2 % val y.2)), 0) := by rw [dmZ, Ab hok, Aa hy0, Ab hc37]
      have hsb : eP y.2 (ae (val x.2 % val y.2)) = (ae (val y.2 - val x.2 % val y.2), 0) := by rw [im hok.2.1 (aq (by omega)) (by rw [af]; omega), af]
      refine Cs (Km I (Kc I (fun w hS => dJ (n := 1) (by omega)) (Kc I (fun w hS => tW (a := ae (val x.2 / val y.2)) (b := ae 1)) (Km I (Ye I (Ye I (Ka I (Nt (Cg (Ej ?_)))))))))); refine Km I (Kc I (fun w hS => (by have := o7 (w := w) (a := y.2) (b := ae (val x.2 % val y.2)); rw [hsb] at this; exact this)) (Km I (Ye I (Ye I (Ka I (Nt (Cs (EJ ?_)))))))); refine EJ ?_; refine Kq I (m0 I I I u4) (Km I (Kc I (fun w hS => dF) (Km I (DQ ?_)))); refine Ka I (to ?_); exact GN
     ·have hr : dmZ x y = ((mkZ (x.1 != y.1) (ae (val x.2 / val y.2)), ae (val x.2 % val y.2)), 0) := by rw [dmZ, Ab hok, Aa hy0, Aa hc37]
      refine Ck (Xa (Cs (EJ ?_))); refine EJ ?_; refine Kq I (m0 I I I u4) (Km I (Kc I (fun w hS => dF) (Km I (DQ ?_)))); refine Ka I (to ?_); exact GN
def sc (x : Zs) (m : Bs) : Bs × Int := if okZ x ∧ okN m then ((dmZ x (aw m)).1.2, (dmZ x (aw m)).2) else ([], 3)
theorem wx {x : Zs} {m : Bs} {w : World} :
  Cw 215 #[zV x, .string (S m)] w (NE (sc x m)) := by
 refine En [] [(0, zV x), (1, .string (S m))] Tryz.func215 I Tryz.ntmps215 I (Ac I (Ac I (An _))) Fn (DO ?_)
 intro b2
 refine Ka I (Ka I (Nt (Cq (Cs (Kq I (lda I I .tc u37 I ?_) ?_)))))
 ·kernel_rfl
 refine Gf ?_; refine Nc 12 I (fun hg12 => ?_) (fun hg12 => ?_)
 ·refine T2 I (Kt I (Yp I (Nt (Cd I (fun _ => ?_) (fun h => by cases h)))))
  refine Cs (Ka I (ne ?_))
  exact R2 I I I (by rw [sc, Aa (by simp_all)]; rfl)
 ·refine Km I (Kc I (fun w hS => ar (a := m)) (EP (fun hc16 => ?_) (fun hc16 => ?_)))
  ·refine Cs (Ka I (ne ?_)); exact R2 I I I (by rw [sc, Aa (by simp_all)]; rfl)
  ·refine Ck (Xa (Cq (Cf [1, 2, 0, 3, 4, 5, 8, 9, 6, 7, 10, 11] [] [0, 0, 1, 1, 0, 0, 0, 0, 3, 1, 0, 0] (by kernel_rfl) (by kernel_rfl) I ?_))); refine ER ?_; refine Jv I I I I I (fun ext => Oc I I (Kv fun w hS => ir (a := m))) ?_; refine Kj I (lda I I .tc u37 I ?_) ?_
   ·kernel_rfl
   refine Jv I I I I I (fun ext => Oc I I (Kv fun w hS => tD (x := x) (y := aw m))) ?_; refine ER ?_; refine F3 ?_; refine DV ?_; intro b6; refine WJ.st I I I I (gS I I I ?_ ?_ ?_) ?_
   ·kernel_rfl
   ·simp [Value.oneCell']
   ·rfl
   refine EM ?_; refine WJ.nil ?_; refine Nt (FS ?_); refine Ka I (to ?_); exact R2 I I I (by rw [sc, Ab (by simp_all)]; rfl)
end Go.Proofs.YtkdlonihbjhhoaaGreatDoor
namespace Go.Proofs.YtkdlonihbjhhoaaGreatDoor
set_option linter.unusedSimpArgs false
set_option linter.unusedVariables false
set_option maxRecDepth 20000
theorem mml (a b m : Nat) : a % m * b % m = a * b % m := Nat.mod_mul_mod a b m
theorem mmr (a b m : Nat) : a * (b % m) % m = a * b % m := Nat.mul_mod_mod a b m
def dB (a m : Nat) : Nat := ((List.range m).find? fun x => a * x % m == 1 % m).getD 0
theorem xr {a x y m : Nat} (hx : x < m) (hy : y < m) (h1 : a * x % m = 1 % m) (h2 : a * y % m = 1 % m) : x = y := by
 have e1 : x * (a * y) % m = x := by rw [← mmr, h2, mmr, A0, Ah hx]
 have e2 : y * (a * x) % m = y := by rw [← mmr, h1, mmr, A0, Ah hy]
 rw [show x * (a * y) = y * (a * x) by simp only [Aj, Bm]] at e1
 exact e1.symm.trans e2
theorem qI {a m x : Nat} (hx : x < m) (h : a * x % m = 1 % m) : dB a m = x := by
 rw [dB]
 cases hf : (List.range m).find? fun x => a * x % m == 1 % m with
 | none =>
  exfalso
  have := List.find?_eq_none.1 hf x (B8.2 hx)
  simp [h] at this
 | some y =>
  have h1 := List.find?_some hf
  have h2 := B8.1 (List.mem_of_find?_eq_some hf)
  exact xr h2 hx (by simpa using h1) h
theorem ov (a m : Nat) : dB (a % m) m = dB a m := by
 rw [dB, dB]; congr 2; funext x; rw [mml]
theorem qH (a : Nat) {m : Nat} (hm : 0 < m) : dB a m < m := by
 rw [dB]
 cases hf : (List.range m).find? fun x => a * x % m == 1 % m with
 | none => exact hm
 | some y => exact B8.1 (List.mem_of_find?_eq_some hf)
theorem sm {a m x : Nat} (hm : 0 < m) (h : a * x % m = 1 % m) : a * dB a m % m = 1 % m := by
 rw [qI (x := x % m) (Ak _ hm) (by rw [mmr]; exact h), mmr, h]
theorem nO {a m x : Nat} (h : a * x % m = 1 % m) : Nat.gcd a m = 1 := by
 have h1 : Nat.gcd a m ∣ a * x % m := (Nat.dvd_mod_iff (Nat.gcd_dvd_right a m)).2 (Nat.dvd_trans (Nat.gcd_dvd_left a m) (Nat.dvd_mul_right a x))
 rw [h] at h1
 exact Nat.dvd_one.1 ((Nat.dvd_mod_iff (Nat.gcd_dvd_right a m)).1 h1)
theorem uJ {a m : Nat} (hm : 0 < m) (h : Nat.gcd a m = 1) : ∃ x, a * x % m = 1 % m := by
 -- by the extended algorithm of Euclid
 have key : ∀ (n r0 r1 : Nat) (x0 x1 y0 y1 : Int), r1 ≤ n → Euc a m r0 r1 x0 x1 y0 y1 → ∃ x y : Int, (a : Int) * x + m * y = Nat.gcd a m := by
  intro n
  induction n with
  | zero => intro r0 r1 x0 x1 y0 y1 hn e; exact ⟨x0, y0, by rw [e.e0, ← e.gc, show r1 = 0 by omega, Ed]⟩
  | succ n ih =>
   intro r0 r1 x0 x1 y0 y1 hn e
   rcases B0 r1 with h0 | h0
   ·exact ⟨x0, y0, by rw [e.e0, ← e.gc, h0, Ed]⟩
   ·exact ih _ _ _ _ _ _ (by have := Ak r0 h0; omega) (lf e h0)
 obtain ⟨x, y, hxy⟩ := key m a m 1 0 0 1 (Bd _) (mi a m)
 rw [h] at hxy
 refine ⟨(x % m).toNat, ?_⟩
 have hm' : (m : Int) ≠ 0 := by omega
 have h1 : ((x % m).toNat : Int) = x % m := Int.toNat_of_nonneg (Int.emod_nonneg _ hm')
 apply Int.ofNat_inj.1
 rw [Int.natCast_emod, Bx, h1, Int.natCast_emod, Int.mul_emod, Int.emod_emod_of_dvd _ (Int.dvd_refl _), ← Int.mul_emod]
 have e : (a : Int) * x = 1 + m * (-y) := by rw [Eg]; omega
 rw [e, Int.add_mul_emod_self_left]; rfl
theorem ee (a e m : Nat) : (a % m) ^ e % m = a ^ e % m := (Nat.pow_mod a e m).symm
theorem mg {a e i m : Nat} (h : e / 2 ^ i % 2 = 0) : a ^ (e / 2 ^ (i + 1)) % m * (a ^ (e / 2 ^ (i + 1)) % m) % m = a ^ (e / 2 ^ i) % m := by
 rw [mml, mmr, ← Bg]; congr 2; rw [As, ← A4]; omega
theorem me {a e i m : Nat} (h : e / 2 ^ i % 2 = 1) : a ^ (e / 2 ^ (i + 1)) % m * (a ^ (e / 2 ^ (i + 1)) % m) % m * a % m = a ^ (e / 2 ^ i) % m := by
 rw [← C5, mml, ← Bg, ← As]; congr 2; rw [As, ← A4]; omega
def db (m x : Nat) (e : Int) : Nat := (if e < 0 then dB x m else x) ^ e.natAbs % m
def aD {α : Type} (f : α → Nat) : List α → Nat
 | [] => 1
 | x :: l => f x * aD f l
theorem iA {α : Type} (f : α → Nat) : ∀ a b : List α, aD f (a ++ b) = aD f a * aD f b
 | [], b => by simp [aD]
 | x :: a, b => by rw [List.cons_append, aD, aD, iA f a b, Au]
theorem ji {α : Type} (f g : α → Nat) (m : Nat) : ∀ l : List α, (∀ x ∈ l, f x % m = g x % m) → aD f l % m = aD g l % m
 | [], _ => rfl
 | x :: l, h => by
  rw [aD, aD, C5, h x (.head _), ji f g m l (fun y hy => h y (.tail _ hy)), ← C5]
theorem jh {α : Type} (f g : α → Nat) : ∀ l : List α, aD (fun x => f x * g x) l = aD f l * aD g l
 | [] => rfl
 | x :: l => by rw [aD, aD, aD, jh f g l]; simp only [Aj, Bm, Au]
theorem rQ {α : Type} (f : α → Nat) (l : List α) (h : ∀ x ∈ l, f x = 1) : aD f l = 1 := by
 induction l with
 | nil => rfl
 | cons x l ih => rw [aD, h x (.head _), ih fun y hy => h y (.tail _ hy)]
def ej (i : Nat) (p : Nat × Nat) : Nat := p.1 ^ (p.2 / 2 ^ i)
theorem ua (m i : Nat) (l : List (Nat × Nat)) : aD (ej (i + 1)) l % m * (aD (ej (i + 1)) l % m) % m * aD (fun p => if p.2 / 2 ^ i % 2 = 1 then p.1 else 1) l % m = aD (ej i) l % m := by
 rw [← C5, mml, ← jh, ← jh]
 apply ji
 intro p _
 congr 1
 simp only [ej]
 have e : p.2 / 2 ^ (i + 1) = p.2 / 2 ^ i / 2 := by rw [As, A4]
 rw [e, ← Bg]
 generalize p.2 / 2 ^ i = k
 split
 ·rw [← As]; congr 1; omega
 ·rw [A0]; congr 1; omega
end Go.Proofs.YtkdlonihbjhhoaaGreatDoor
namespace Go.Proofs.YtkdlonihbjhhoaaGreatDoor
open Go.RowKit
set_option linter.unusedSimpArgs false
set_option linter.unusedVariables false
set_option maxHeartbeats 600000
set_option maxRecDepth 20000
theorem gj {n : Nat} (h : n < Big) : aw (ae n) = ofZ n := by rw [cD (aq h), gH]
theorem nh {a b : Nat} (ha : a < Big) (hb : b < Big) : bG (ae a) (ae b) = if a * b < Big then (ae (a * b), 0) else ([], 5) := by rw [bG, Ab ⟨aq ha, aq hb⟩, af, af]
theorem j4 {a b : Int} (ha : a.natAbs < Big) (hb : b.natAbs < Big) (h : (a * b).natAbs < Big) : bP (ofZ a) (ofZ b) = (ofZ (a * b), 0) := by
 rw [bP, Ab ⟨bW.2 ha, bW.2 hb⟩]
 rw [cI a, cI b]
 simp only
 rw [nh ha hb, ← Int.natAbs_mul, Ab h]
 show (mkZ _ (ae (a * b).natAbs), (0 : Int)) = _
 rw [kY]
 congr 2
 rw [Int.natAbs_mul]
 by_cases h1 : a < 0 <;> by_cases h2 : b < 0
 ·rw [Am h1, Am h2]
  obtain ⟨m, rfl⟩ : ∃ m : Nat, a = -(m : Int) := ⟨a.natAbs, by omega⟩
  obtain ⟨n, rfl⟩ : ∃ n : Nat, b = -(n : Int) := ⟨b.natAbs, by omega⟩
  simp [Int.neg_mul, Eg]
 ·rw [Am h1, Aq h2]
  obtain ⟨m, rfl⟩ : ∃ m : Nat, a = -(m : Int) := ⟨a.natAbs, by omega⟩
  obtain ⟨n, rfl⟩ : ∃ n : Nat, b = (n : Int) := ⟨b.natAbs, by omega⟩
  simp [Int.neg_mul, Eg]
 ·rw [Aq h1, Am h2]
  obtain ⟨m, rfl⟩ : ∃ m : Nat, a = (m : Int) := ⟨a.natAbs, by omega⟩
  obtain ⟨n, rfl⟩ : ∃ n : Nat, b = -(n : Int) := ⟨b.natAbs, by omega⟩
  simp [Int.neg_mul, Eg]
 ·rw [Aq h1, Aq h2]
  obtain ⟨m, rfl⟩ : ∃ m : Nat, a = (m : Int) := ⟨a.natAbs, by omega⟩
  obtain ⟨n, rfl⟩ : ∃ n : Nat, b = (n : Int) := ⟨b.natAbs, by omega⟩
  simp [Int.neg_mul, Eg]
theorem pW {a b : Int} (ha : a.natAbs < Big) (hb : b.natAbs < Big) (h : (a - b).natAbs < Big) : cG (ofZ a) (ofZ b) = (ofZ (a - b), 0) := by rw [mN ha hb, Ab h]
theorem xP {a b : Nat} (ha : a < Big) (hb : b < Big) (h0 : 0 < b) : fE (ae a) (ae b) = ((ae (a / b), ae (a % b)), 0) := by
 rw [dg (aq ha) (aq hb) (by rw [ne_eq, aT]; omega), af, af]
theorem qR {n : Int} {m : Nat} (hn : n.natAbs < Big) (hm : m < Big) (h0 : 0 < m) : (dmZ (ofZ n) (false, ae m)).1.2 = ae (n % m).toNat ∧ (dmZ (ofZ n) (false, ae m)).2 = 0 := by
 have hok : okZ (ofZ n) ∧ okZ (false, ae m) := ⟨bW.2 hn, aq hm, by simp⟩
 have h1 : ¬ (ae m = []) := by rw [aT]; omega
 have hr := Ak n.natAbs h0
 have hd := Bc n.natAbs m
 rw [dmZ, Ab hok, Aa h1]
 rw [cI]
 simp only [af, decide_eq_true_eq]
 by_cases h2 : n < 0
 ·by_cases h3 : n.natAbs % m = 0
  ·rw [Aa (fun h => h.2 h3)]; refine ⟨?_, rfl⟩; show ae (n.natAbs % m) = _; rw [h3]; congr 1
   have : n % m = 0 := Int.emod_eq_zero_of_dvd (by
    obtain ⟨q, hq⟩ := Nat.dvd_of_mod_eq_zero h3
    exact ⟨-(q : Int), by rw [Eg, ← Bx, ← hq]; omega⟩)
   rw [this]; rfl
  ·rw [Ab ⟨h2, h3⟩]; refine ⟨?_, rfl⟩; show ae (m - n.natAbs % m) = _; congr 1
   have e : n = (m - n.natAbs % m : Nat) + m * (-((n.natAbs / m : Nat) : Int) - 1) := by
    have e1 : (m : Int) * (-((n.natAbs / m : Nat) : Int) - 1) = -((m * (n.natAbs / m) : Nat) : Int) - m := by rw [Int.mul_sub, Eg, Bx]; omega
    rw [e1]; omega
   rw [e, Int.add_mul_emod_self_left, Int.emod_eq_of_lt (by omega) (by omega), ← e]; rfl
 ·rw [Aa (fun h => h2 h.1)]
  refine ⟨?_, rfl⟩
  show ae (n.natAbs % m) = _
  congr 1
  obtain ⟨k, rfl⟩ : ∃ k : Nat, n = k := ⟨n.natAbs, by omega⟩
  rw [Bb, ← Int.natCast_emod, At]
def bF (a b : Nat) : Int × Int := if h : b = 0 then (1, 0) else ((bF b (a % b)).2, (bF b (a % b)).1 - (a / b : Nat) * (bF b (a % b)).2)
termination_by b
decreasing_by all_goals exact Ak a (Ct h)
theorem lr (a : Nat) : bF a 0 = (1, 0) := by rw [bF, dif_pos rfl]
theorem i7 {a b : Nat} (h : 0 < b) : bF a b = ((bF b (a % b)).2, (bF b (a % b)).1 - (a / b : Nat) * (bF b (a % b)).2) := by rw [bF, dif_neg (by omega)]
theorem zY (b : Nat) : ∀ a : Nat, (a : Int) * (bF a b).1 + b * (bF a b).2 = Nat.gcd a b := by
 induction b using Nat.strongRecOn with
 | _ b ih =>
  intro a
  rcases B0 b with h | h
  ·subst h; rw [lr]; simp
  ·have h1 := ih (a % b) (Ak _ h) b; rw [i7 h, ← gi, ← h1]; generalize bF b (a % b) = p; have e : (a : Int) = b * (a / b : Nat) + (a % b : Nat) := by rw [← Bx, ← Ec, Bc]
   generalize ((a / b : Nat) : Int) = q at *; generalize ((a % b : Nat) : Int) = r at *; simp only; rw [e, Int.mul_sub, Int.add_mul, Int.mul_assoc]; omega
theorem vt (b : Nat) : ∀ a : Nat, 0 < b → (bF a b).1.natAbs ≤ b ∧ (bF a b).2.natAbs ≤ max a 1 ∧ a / b * (bF b (a % b)).2.natAbs ≤ a ∧ (bF b (a % b)).1.natAbs ≤ b ∧ (bF b (a % b)).2.natAbs ≤ b := by
 induction b using Nat.strongRecOn with
 | _ b ih =>
  intro a h
  have hd := Bc a b
  rcases B0 (a % b) with h0 | h0
  ·rw [i7 h, h0, lr]; simp; omega
  ·obtain ⟨h1, h2, _⟩ := ih (a % b) (Ak _ h) b h0; have hlt := Ak a h; rw [i7 h]; generalize bF b (a % b) = p at *; have h3 : p.2.natAbs ≤ b := by omega
   have h4 : a / b * p.2.natAbs ≤ a / b * b := B3 _ h3; have h5 : ((a / b : Nat) * p.2).natAbs = a / b * p.2.natAbs := by rw [Int.natAbs_mul, Bb]
   rw [Aj b] at hd; refine ⟨h3, ?_, by omega, by omega, h3⟩; simp only; have := Int.natAbs_sub_le p.1 ((a / b : Nat) * p.2); omega
abbrev BE (a b : Bs) : Value := .tuple #[.string (S (ae (Nat.gcd (val a) (val b)))), zV (ofZ (bF (val a) (val b)).1), zV (ofZ (bF (val a) (val b)).2)]
theorem rK {a b : Bs} {w : World} (ha : okN a) (hb : okN b) (hih : ∀ b' : Bs, val b' < val b → okN b' → ∀ (a' : Bs) (w : World), okN a' → Calls Tryz.prog 246 #[.string (S a'), .string (S b')] w fun e w' => e = .returned (BE a' b') ∧ Below w.heap.size w w') :
  Cw 246 #[.string (S a), .string (S b)] w (BE a b) := by
 refine En [] [(0, .string (S a)), (1, .string (S b))] Tryz.func246 I Tryz.ntmps246 I (Ac I (Ac I (An _))) Fn (Cs (Ka I (AS ?_)))
 intro b5
 refine AS ?_
 intro b6
 refine Nt (Cq (Cs (Km I (Fu (fun hc18 => ?_) (fun hc18 => ?_)))))
 ·obtain rfl : b = [] := by simpa using hc18
  have hg0 : ae (Nat.gcd (val a) (val [])) = a := by rw [show val [] = 0 from rfl, Ed, bB ha]
  refine Cs (Km I (Kc I (fun w hS => tA (n := 1) (by omega) (by omega)) (Kc I (fun w hS => tA (n := 0) (by omega) (by omega)) (Ka I (DQ ?_))))); refine DQ ?_; refine Nt (Ce (Xb ?_))
  exact Rn I (.tmp I (.agg I .tc u37 I (by kernel_rfl) (.agg I .tc u37 I (by kernel_rfl) .nil))) fun w' hS => ⟨by rw [BE, hg0, show val [] = 0 from rfl, lr]; rfl, hS.below⟩
 ·have hb0 : b ≠ [] := by simpa using hc18
  have hvb : 0 < val b := Ct fun e => hb0 ((aM hb.2).1 e)
  have hdv := dg ha hb hb0
  have hmd := Ak (val a) hvb
  have hbB := aK hb; have haB := aK ha
  have hdl := Bw (val a) (val b)
  have hor : okN (ae (val a % val b)) := aq (by omega)
  have hbst := i7 (a := val a) hvb
  obtain ⟨hd1, hd2, hd3, hd4, hd5⟩ := vt (val b) (val a) hvb
  have hB1 : 1 < Big := Ay (by decide) fg
  have hq3 : (((val a / val b : Nat) : Int) * (bF (val b) (val a % val b)).2).natAbs ≤ val a := by rw [Int.natAbs_mul, Bb]; exact hd3
  have hmz : bP (aw (ae (val a / val b))) (ofZ (bF (val b) (val a % val b)).2) = (ofZ ((val a / val b : Nat) * (bF (val b) (val a % val b)).2), 0) := by
   rw [gj (by omega)]; exact j4 (by rw [Bb]; omega) (by omega) (by omega)
  have hsz : cG (ofZ (bF (val b) (val a % val b)).1) (ofZ ((val a / val b : Nat) * (bF (val b) (val a % val b)).2)) = (ofZ (bF (val a) (val b)).2, 0) := by
   rw [hbst] at hd2; have e := pW (a := (bF (val b) (val a % val b)).1) (b := (val a / val b : Nat) * (bF (val b) (val a % val b)).2) (by omega) (by omega) (by simp only at hd2; omega); rw [e, hbst]
  have hx1 : (bF (val b) (val a % val b)).2 = (bF (val a) (val b)).1 := by rw [hbst]
  have hgg := gi (val a) (val b)
  refine EN ?_; refine Kc I (fun w hS => (by have := eT (w := w) (a := a) (b := b); rw [hdv] at this; exact this)) (EX ?_); refine DT ?_; refine Km I (Kc I (fun w hS => (by have := hih (ae (val a % val b)) (by rw [af]; exact hmd) hor b w hb; rw [BE, af, hgg] at this; exact this)) (Km I (Ye I (Ye I (Ye I (AS ?_))))))
  intro b11
  refine AS ?_
  intro b12
  refine Ka I (DQ ?_); refine DQ ?_; refine Nt (Cq (Cf [0, 1, 2, 3, 4, 5, 7, 8, 6, 9] [] [0, 1, 0, 1, 0, 0, 0, 3, 1, 0] (by kernel_rfl) (by kernel_rfl) I ?_))
  refine ER ?_
  refine Jv I I I I I (fun ext => Oc I I (Kv fun w hS => ir (a := ae (val a / val b)))) ?_
  refine Kj I (lda I I .tc u37 I ?_) ?_
  ·kernel_rfl
  refine Jv I I I I I (fun ext => Oc I I (Kv fun w hS => (by have := p8 (w := w) (x := aw (ae (val a / val b))) (y := ofZ (bF (val b) (val a % val b)).2); rw [hmz] at this; exact this))) ?_
  refine ER ?_; refine F3 ?_
  refine DV ?_
  intro b13
  refine WJ.st I I I I (gS I I I ?_ ?_ ?_) ?_
  ·kernel_rfl
  ·simp [Value.oneCell']
  ·rfl
  refine F3 ?_; refine ES ?_
  refine WJ.nil ?_
  refine Nt (Cs (Kq I (lda I I .tc u37 I ?_) ?_))
  ·kernel_rfl
  refine Kq I (lda I I .tc u37 I ?_) ?_
  ·kernel_rfl
  refine Kc I (fun w hS => (by have := wu (w := w) (x := ofZ (bF (val b) (val a % val b)).1) (y := ofZ ((val a / val b : Nat) * (bF (val b) (val a % val b)).2)); rw [hsz] at this; exact this)) (Km I (Ye I (Ye I (AS ?_))))
  intro b15
  refine DQ ?_; refine Ka I (Nt (Cq (WC.free (K := [⟨some b15, [.bool (ofZ (bF (val a) (val b)).2).1, .string (S (ofZ (bF (val a) (val b)).2).2)], 37⟩, ⟨some b12, [.bool (ofZ (bF (val b) (val a % val b)).2).1, .string (S (ofZ (bF (val b) (val a % val b)).2).2)], 37⟩]) (fs0 := []) [0, 1, 3, 4, 2] [5] [0, 0, 0, 0, 1, 2] (by kernel_rfl) (by kernel_rfl) I ?_)))
  refine ER ?_
  refine Kj I (lda I I .tc u37 I ?_) ?_
  ·kernel_rfl
  refine ES ?_
  refine WJ.st I I I I (gS I I I ?_ ?_ ?_) ?_
  ·kernel_rfl
  ·simp [Value.oneCell']
  ·rfl
  refine Kj I (lda I I .tc u37 I ?_) ?_
  ·kernel_rfl
  refine WJ.nil ?_
  refine DQ ?_; refine Nt (Ce ?_)
  exact Rn I (.tmp I (.agg I .tc u37 I (by kernel_rfl) (.agg I .tc u37 I (by kernel_rfl) .nil))) fun w' hS => ⟨by rw [hx1]; rfl, hS.below⟩
theorem y8 {a b : Bs} {w : World} (ha : okN a) (hb : okN b) :
  Cw 246 #[.string (S a), .string (S b)] w (BE a b) :=
 (by
have key : ∀ n (b : Bs), val b = n → okN b → ∀ (a : Bs) (w : World), okN a → Cw 246 #[.string (S a), .string (S b)] w (BE a b) := by
 intro n
 induction n using Nat.strongRecOn with
 | _ n ih => intro b hbn hb a w ha; exact rK ha hb fun b' hlt hb' a' w' ha' => ih (val b') (by omega) b' rfl hb' a' w' ha'
exact key _ b rfl hb a w ha)
theorem yS {a b : Bs} {w : World} {ok : Nat → Prop} (ha : okN a) (hb : okN b) (hb0 : b ≠ []) :
  Calls Tryz.prog 214 #[.string (S a), .string (S b)] w fun e w' => ∃ gx : Zs, e = .returned (.tuple #[.string (S (ae (Nat.gcd (val a) (val b)))), zV (ofZ (((bF (val a) (val b)).1 % ((val b / Nat.gcd (val a) (val b) : Nat) : Int)).toNat : Int)), zV gx, .int .i64 0]) ∧ (True) ∧ Below w.heap.size w w' ∧ ∀ x ∈ ([] : List Fact), x.holds (fun b => ok b ∨ w.heap.size ≤ b) w' := by
 have hvb : 0 < val b := Ct fun e => hb0 ((aM hb.2).1 e)
 have hbB := aK hb; have haB := aK ha
 obtain ⟨g, hg⟩ : ∃ g, g = Nat.gcd (val a) (val b) := ⟨_, rfl⟩
 have hg0 : 0 < g := by rw [hg]; exact Nat.gcd_pos_of_pos_right _ hvb
 have hgl : g ≤ val b := by rw [hg]; exact Nat.le_of_dvd hvb (Nat.gcd_dvd_right _ _)
 have hbg : 0 < val b / g := Nat.div_pos hgl hg0
 have hbl := Bw (val b) g; have hal := Bw (val a) g
 rw [← hg]
 obtain ⟨hd1, hd2, _⟩ := vt (val b) (val a) hvb
 obtain ⟨X, hX⟩ : ∃ X, X = (bF (val a) (val b)).1 := ⟨_, rfl⟩
 obtain ⟨Z, hZ⟩ : ∃ X, X = (bF (val a) (val b)).2 := ⟨_, rfl⟩
 rw [← hX] at hd1 ⊢
 have hdm := qR (n := X) (m := val b / g) (by omega) (by omega) hbg
 have hXr : (X % ((val b / g : Nat) : Int)).toNat < Big := by
  have h1 := Int.emod_lt_of_pos X (b := ((val b / g : Nat) : Int)) (by omega)
  have h2 := Int.emod_nonneg X (b := ((val b / g : Nat) : Int)) (by omega)
  generalize X % ((val b / g : Nat) : Int) = q at *
  omega
 have hdvb : fE b (ae g) = ((ae (val b / g), ae (val b % g)), 0) := by rw [dg hb (aq (by omega)) (by rw [ne_eq, aT]; omega), af]
 have hdva : fE a (ae g) = ((ae (val a / g), ae (val a % g)), 0) := by rw [dg ha (aq (by omega)) (by rw [ne_eq, aT]; omega), af]
 obtain ⟨dq, hdq⟩ : ∃ q, q = (dmZ (ofZ X) (false, ae (val b / g))).1.1 := ⟨_, rfl⟩
 have hdm2 : dmZ (ofZ X) (aw (ae (val b / g))) = ((dq, ae (X % ((val b / g : Nat) : Int)).toNat), 0) := by
  rw [cD (aq (by omega)), hdq, ← hdm.1]
  conv => rhs; rw [← hdm.2]
 refine enter (S := St (fun b => ok b ∨ w.heap.size ≤ b) w [] ([])) (L := [(0, .string (S a)), (1, .string (S b))]) Tryz.func214 rfl Tryz.ntmps214 rfl (Ac rfl (Ac rfl (An _))) (St.start (fun _ h => Or.inr h) (iR Fn)) ?_
 refine Cs (Ka I (AS ?_))
 intro b5
 refine AS ?_
 intro b6
 refine DR ?_; refine Gj ?_; refine Ns 23 I (v' := .bool true) (by rw [Am ha]) ?_
 refine Yt I (Km I (Km I (Gj ?_))); refine Ns 27 I (v' := .bool true) (by rw [Am hb]) ?_
 refine Yt I (Yq I (Fg (fun _ => ?_)))
 refine Fe ?_; refine Ys I (Nt (Cd I (fun hc33 => by exfalso; (try simp only [sB] at hc33); simp_all) (fun hc33 => ?_)))
 (try simp only [sB] at hc33)
 refine EN ?_; refine Kc I (fun w hS => (by have := y8 (w := w) ha hb; rw [BE, ← hg, ← hX, ← hZ] at this; exact this)) (Km I (Ye I (Ye I (Ye I (AS ?_)))))
 intro b9
 refine AS ?_
 intro b10
 refine Ka I (DQ ?_); refine DQ ?_; refine Nt (FS ?_); refine Kc I (fun w hS => (by have := eT (w := w) (a := b) (b := ae g); rw [hdvb] at this; exact this)) (EX ?_); refine DT ?_; refine Km I (Kc I (fun w hS => (by have := eT (w := w) (a := a) (b := ae g); rw [hdva] at this; exact this)) (EX ?_)); refine Ka I (Nt (Cq (Cf [1, 2, 0, 3, 4, 5, 8, 9, 6, 7, 10, 11] [] [0, 0, 1, 1, 0, 0, 0, 0, 3, 1, 0, 0] (by kernel_rfl) (by kernel_rfl) I ?_)))
 refine ER ?_
 refine Jv I I I I I (fun ext => Oc I I (Kv fun w hS => ir (a := ae (val b / g)))) ?_
 refine Kj I (lda I I .tc u37 I ?_) ?_
 ·kernel_rfl
 refine Jv I I I I I (fun ext => Oc I I (Kv fun w hS => (by have := tD (w := w) (x := ofZ X) (y := aw (ae (val b / g))); rw [hdm2] at this; exact this))) ?_
 refine ER ?_; refine F3 ?_
 refine DV ?_
 intro b17
 refine WJ.st I I I I (gS I I I ?_ ?_ ?_) ?_
 ·kernel_rfl
 ·simp [Value.oneCell']
 ·rfl
 refine EM ?_
 refine WJ.nil ?_
 refine Nt (Cq (Cf [1, 2, 0, 3, 4, 5, 7, 8, 6, 9] [] [0, 0, 1, 1, 0, 0, 0, 3, 1, 0] (by kernel_rfl) (by kernel_rfl) I ?_))
 refine ER ?_
 refine Jv I I I I I (fun ext => Oc I I (Kv fun w hS => ir (a := ae (val a / g)))) ?_
 refine Kj I (lda I I .tc u37 I ?_) ?_
 ·kernel_rfl
 refine Jv I I I I I (fun ext => Oc I I (Kv fun w hS => p8 (x := dq) (y := aw (ae (val a / g))))) ?_
 refine ER ?_; refine F3 ?_
 refine DV ?_
 intro b20
 refine WJ.st I I I I (gS I I I ?_ ?_ ?_) ?_
 ·kernel_rfl
 ·simp [Value.oneCell']
 ·rfl
 refine F3 ?_; refine ES ?_
 refine WJ.nil ?_
 refine Nt (Cs (Kq I (lda I I .tc u37 I ?_) ?_))
 ·kernel_rfl
 refine Kq I (lda I I .tc u37 I ?_) ?_
 ·kernel_rfl
 refine Kc I (fun w hS => p9 (x := ofZ Z) (y := (bP dq (aw (ae (val a / g)))).1)) (Km I (Ye I (Ye I (DQ ?_)))); refine Nt (Cq (WC.free (K := [⟨some b10, [.bool (dl (ofZ Z) (bP dq (aw (ae (val a / g)))).1).1.1, .string (S (dl (ofZ Z) (bP dq (aw (ae (val a / g)))).1).1.2)], 37⟩]) (fs0 := []) [1, 2, 0, 4, 5, 3] [6, 7] [0, 0, 1, 0, 0, 1, 2, 2] (by kernel_rfl) (by kernel_rfl) I ?_))
 refine ER ?_
 refine Jv I I I I I (fun ext => Oc I I (Kv fun w hS => (by have := ir (w := w) (a := ae (X % ((val b / g : Nat) : Int)).toNat); rw [show (if okN (ae (X % ((val b / g : Nat) : Int)).toNat) then (false, ae (X % ((val b / g : Nat) : Int)).toNat) else (false, [])) = ofZ (((X % ((val b / g : Nat) : Int)).toNat : Nat) : Int) from gj hXr] at this; exact this))) ?_
 refine ER ?_; refine ES ?_
 refine WJ.st I I I I (gS I I I ?_ ?_ ?_) ?_
 ·kernel_rfl
 ·simp [Value.oneCell']
 ·rfl
 refine Kj I (lda I I .tc u37 I ?_) ?_
 ·kernel_rfl
 refine WJ.nil ?_
 refine DQ ?_; refine to ?_
 exact Rn I (.tmp I (.agg I .tc u37 I (by kernel_rfl) (.agg I .tc u37 I (by kernel_rfl) (.tmp I .nil)))) fun w' hS => ⟨(dl (ofZ Z) (bP dq (aw (ae (val a / g)))).1).1, rfl, trivial, hS.below, fun _ h => by cases h⟩
theorem vz : ∀ f x, x < 2 ^ f → x < 2 ^ Lib.bitLenAux f x ∧ (0 < x → 2 ^ Lib.bitLenAux f x ≤ 2 * x)
 | 0, x, h => by have : x = 0 := by simpa using h
                 subst this; exact ⟨by decide, fun h => absurd h (by decide)⟩
 | f + 1, x, h => by
  rw [gQ]
  by_cases h0 : x = 0
  ·rw [Ab h0, h0]; exact ⟨by decide, fun h => absurd h (by decide)⟩
  ·rw [Aa h0, Dp 1, As]; obtain ⟨h1, h2⟩ := vz f (x / 2) (by rw [As] at h; omega); refine ⟨by omega, fun _ => ?_⟩
   rcases B0 (x / 2) with h3 | h3
   ·have h4 : Lib.bitLenAux f (x / 2) = 0 := by rw [h3]; cases f <;> rfl
    rw [h4]; omega
   ·have := h2 h3; omega
theorem sQ {x : Nat} (h : x < 18446744073709551616) : x < 2 ^ Lib.bitLen x ∧ (0 < x → 2 ^ Lib.bitLen x ≤ 2 * x) := vz 64 x h
theorem ur {y : Nat} (h0 : 0 < y) (h : y < 18446744073709551616) : y * 2 ^ (64 - Lib.bitLen y) < 18446744073709551616 ∧ 9223372036854775808 ≤ y * 2 ^ (64 - Lib.bitLen y) := by
 obtain ⟨h1, h2⟩ := sQ h
 have h2 := h2 h0
 have hl := ff y
 have e : 2 ^ Lib.bitLen y * 2 ^ (64 - Lib.bitLen y) = 18446744073709551616 := by rw [← Bg, show Lib.bitLen y + (64 - Lib.bitLen y) = 64 by omega]
 constructor
 ·rw [← e]; exact Nat.mul_lt_mul_of_pos_right h1 (Cz _)
 ·have h3 := Bk (2 ^ (64 - Lib.bitLen y)) h2
  rw [e, Au] at h3; omega
theorem xn {x : Nat} {w : World} (hx : x < 18446744073709551616) :
  Cw 265 #[.int .u64 (x : Int)] w (.int .i64 (Lib.bitLen x)) :=
 (uv x w (by omega) (by omega)).mono fun _ _ ⟨h1, h2⟩ => ⟨by simpa using h1, by rw [h2]; exact ie⟩
theorem zt {x : Nat} {w : World} (hx : x < 18446744073709551616) :
  Cw 256 #[.int .u64 (x : Int)] w (.int .i64 ((64 - Lib.bitLen x : Nat) : Int)) := by
 have hb := ff x
 refine En [] [(0, .int .u64 (x : Int))] Tryz.func256 I Tryz.ntmps256 I (Ac I (An _)) Fn (Cs (DT ?_)); refine Kc I (fun w hS => xn (x := x) (by assumption)) (Kq I (ed I I I (by omega)) (to ?_))
 exact GH
theorem wo {hi lo s : Nat} (hs : s ≤ 64) : (hi * 18446744073709551616 + lo) * 2 ^ s = (hi * 2 ^ s + lo / 2 ^ (64 - s)) * 18446744073709551616 + lo * 2 ^ s % 18446744073709551616 := by
 have e : 2 ^ (64 - s) * 2 ^ s = 18446744073709551616 := by rw [← Bg, show 64 - s + s = 64 by omega]
 have h1 : lo * 2 ^ s / 18446744073709551616 = lo / 2 ^ (64 - s) := by rw [← e, Nat.mul_div_mul_right _ _ (Cz s)]
 have h2 := Bc (lo * 2 ^ s) 18446744073709551616
 rw [h1] at h2
 rw [Be, Be, Nat.mul_right_comm]
 omega
def Keep (p : Prop) : Prop := p
theorem s8 {U n1 Q D V : Nat} (h : U * 4294967296 + n1 = Q * D + V) (hn : n1 < 4294967296) (hV : V < 18446744073709551616) : IntKind.u64.wrap (((U * 4294967296 % 18446744073709551616 + n1 : Nat) : Int) - ((Q * D % 18446744073709551616 : Nat) : Int)) = (V : Int) := by
 rw [IntKind.wrap_u64]; generalize Q * D = X at *; omega
theorem pD {X y s U N D n1 n0 Q1 Q0 V W : Nat} (hsh : Keep (X * 2 ^ s = U * 18446744073709551616 + N)) (hD : D = y * 2 ^ s) (hN : n1 * 4294967296 + n0 = N) (h1 : U * 4294967296 + n1 = Q1 * D + V) (h0 : V * 4294967296 + n0 = Q0 * D + W) (hW : W < D) :
  X / y = Q1 * 4294967296 + Q0 ∧ X % y = W / 2 ^ s := by
 have hb := xQ h1 h0 hW
 rw [hN] at hb
 have e : U * (4294967296 * 4294967296) + N = X * 2 ^ s := hsh.symm
 rw [e, hD, Nat.mul_div_mul_right _ _ (Cz s), Nat.mul_mod_mul_right] at hb
 exact ⟨hb.1, by rw [← hb.2, Nat.mul_div_cancel _ (Cz s)]⟩
theorem un {a b : Nat} (ha : a < 4294967296) (hb : b < 4294967296) : a * b < 2 ^ 64 := Bj (Dw (C6 ha) (C6 hb)) (by decide)
theorem tY {u y1 : Nat} (hu : u < 18446744073709551616) (hy : 2147483648 ≤ y1) : u / y1 ≤ 8589934591 := by
 apply C6
 rw [Ca (by omega)]; omega
theorem qS {u lo y : Nat} {w : World} (hhi : u < y) (hlo : lo < 18446744073709551616) (hy : y < 18446744073709551616) :
  Cw 233 #[.int .u64 (u : Int), .int .u64 (lo : Int), .int .u64 (y : Int)] w (.tuple #[.int .u64 (((u * 18446744073709551616 + lo) / y : Nat) : Int), .int .u64 (((u * 18446744073709551616 + lo) % y : Nat) : Int)]) := by
 obtain ⟨s, hs⟩ : ∃ s, s = 64 - Lib.bitLen y := ⟨_, rfl⟩
 obtain ⟨hy1, hy2⟩ := ur (by omega) hy
 rw [← hs] at hy1 hy2
 have hs64 : s ≤ 64 := by omega
 obtain ⟨D, hD⟩ : ∃ D, D = y * 2 ^ s := ⟨_, rfl⟩
 rw [← hD] at hy1 hy2
 have hsh := wo (hi := u) (lo := lo) hs64
 obtain ⟨U, hU⟩ : ∃ U, U = u * 2 ^ s + lo / 2 ^ (64 - s) := ⟨_, rfl⟩
 obtain ⟨N, hN⟩ : ∃ N, N = lo * 2 ^ s % 18446744073709551616 := ⟨_, rfl⟩
 rw [← hU, ← hN] at hsh
 have hps : 2 ^ (64 - s) * 2 ^ s = 18446744073709551616 := by rw [← Bg, show 64 - s + s = 64 by omega]
 replace hsh : Keep ((u * 18446744073709551616 + lo) * 2 ^ s = U * 18446744073709551616 + N) := hsh
 have hlos : lo / 2 ^ (64 - s) < 2 ^ s := by rw [Ca (Cz _), Aj, hps]; exact hlo
 have hhis : u * 2 ^ s + 2 ^ s ≤ D := by rw [hD, ← Nat.succ_mul]; exact Bk _ hhi
 have hUl : U < D := by omega
 have hus : u * 2 ^ s < 18446744073709551616 := Bj (Br (Nat.le_add_right _ _) hhis) hy1
 have hus2 : u * 2 ^ s + lo / 2 ^ (64 - s) < 18446744073709551616 := by rw [← hU]; omega
 have hNl : N < 18446744073709551616 := by rw [hN]; exact Ak _ (by decide)
 replace hps : Keep (2 ^ (64 - s) * 2 ^ s = 18446744073709551616) := hps
 replace hN : Keep (N = lo * 2 ^ s % 18446744073709551616) := hN
 obtain ⟨y1, hdy1⟩ : ∃ q, q = D / 4294967296 := ⟨_, rfl⟩
 obtain ⟨y0, hdy0⟩ : ∃ q, q = D % 4294967296 := ⟨_, rfl⟩
 obtain ⟨n1, hdn1⟩ : ∃ q, q = N / 4294967296 := ⟨_, rfl⟩
 obtain ⟨n0, hdn0⟩ : ∃ q, q = N % 4294967296 := ⟨_, rfl⟩
 have hDe : y1 * 4294967296 + y0 = D := by omega
 have hNe : n1 * 4294967296 + n0 = N := by rw [hdn1, hdn0, Aj]; exact Bc N 4294967296
 have hy0l : y0 < 4294967296 := by omega
 have hn1l : n1 < 4294967296 := by omega
 have hn0l : n0 < 4294967296 := by omega
 have hy1l : 2147483648 ≤ y1 := by omega
 have hy1u : y1 < 4294967296 := by omega
 refine En [] [(0, .int .u64 (u : Int)), (1, .int .u64 (lo : Int)), (2, .int .u64 (y : Int))] Tryz.func233 I Tryz.ntmps233 I (Ac I (Ac I (Ac I (An _)))) Fn (Cs (Ka I (DR ?_))); refine Yi I (Nt (Cd I (fun hc20 => by exfalso; (try simp only [sB] at hc20); omega) (fun hc20 => ?_)))
 (try simp only [sB] at hc20)
 refine Ck (Xa (E0 ?_)); refine Ym I (Nt (Cd I (fun hc24 => by exfalso; (try simp only [sB] at hc24); omega) (fun hc24 => ?_)))
 (try simp only [sB] at hc24)
 refine Fe ?_; refine FT (fun hc27 => ?_) (fun hc27 => ?_)
 ·obtain rfl : u = 0 := by omega
  rw [Cc, Az]
  have hdl := Bw lo y
  refine Cq (Cf [0, 1, 2, 3, 4, 5, 6, 7] [] [0, 0, 0, 0, 0, 0, 0, 0] (by kernel_rfl) (by kernel_rfl) I ?_)
  refine DW ?_
  refine Kj I (cF I I I ?_) ?_
  ·omega
  refine DW ?_
  refine Kj I (bt I I I ?_) ?_
  ·assumption
  refine ES ?_; refine ES ?_
  refine WJ.nil ?_
  refine Nt (Ce (Xb ?_))
  exact R2 I I I (by rfl)
 ·refine FN ?_; refine Kc I (fun w hS => zt (x := y) (by assumption)) (Kq I (n5 I I u3 AE (by omega)) (Ns 36 I (v' := .int .u64 ((s : Nat) : Int)) (congrArg (Value.int .u64) (by omega)) (DT ?_))); refine Km I (Kq I (fp I I I (by (show _ ≤ 64; omega)) (by omega)) ?_)
  refine Ns 39 I (v' := .int .u64 ((D : Nat) : Int)) (congrArg (Value.int .u64) (by rw [hD])) ?_
  refine DT ?_; refine FH ?_
  refine Ns 41 I (v' := .int .u64 ((y1 : Nat) : Int)) (congrArg (Value.int .u64) (by rw [hdy1])) ?_
  refine Ka I (Nt (Cs (Km I (Kq I (dG 32 I I I (by decide) ?_) ?_))))
  ·omega
  refine Ns 43 I (v' := .int .u64 ((y0 : Nat) : Int)) (congrArg (Value.int .u64) (by rw [hdy0])) ?_
  refine DT ?_; refine Km I (Kq I (fp I I I (by (show _ ≤ 64; omega)) (by exact hus)) ?_)
  refine Km I (Km I (Kq I (bU (a := 64) I I I (by omega)) ?_))
  refine Gk ?_
  refine Kq I (kJ s I I I ?_) ?_
  ·exact ⟨Nat.mul_mod_left _ _, hus, hlos, by omega⟩
  refine Ns 51 I (v' := .int .u64 ((U : Nat) : Int)) (congrArg (Value.int .u64) (by rw [hU])) ?_
  refine DT ?_; refine Km I (Kq I (wS I I I (by (show _ ≤ 64; omega))) ?_)
  refine Ns 54 I (v' := .int .u64 ((N : Nat) : Int)) (congrArg (Value.int .u64) (by exact congrArg _ hN.symm)) ?_
  refine DT ?_; refine FH ?_
  refine Ns 56 I (v' := .int .u64 ((n1 : Nat) : Int)) (congrArg (Value.int .u64) (by rw [hdn1])) ?_
  refine Ka I (Nt (Cs (Km I (Kq I (dG 32 I I I (by decide) ?_) ?_))))
  ·omega
  refine Ns 58 I (v' := .int .u64 ((n0 : Nat) : Int)) (congrArg (Value.int .u64) (by rw [hdn0])) ?_
  refine Ka I (Nt (Cs (Km I (Km I (Kq I (cF I I I ?_) ?_)))))
  ·omega
  refine DT ?_; refine Km I (Km I (Kq I (bH I I I (by have h1 := D4 U y1; omega)) ?_))
  refine Kq I (bU I I I (by have h1 := D4 U y1; omega)) ?_
  refine Ns 66 I (v' := .int .u64 ((U % y1 : Nat) : Int)) (congrArg (Value.int .u64) (by have h1 := Bc U y1; rw [Aj] at h1; omega)) ?_
  refine Ka I (Nt (WC.joinP (σ := Unit) [(2, _), (8, _), (9, _), (10, _), (11, _), (13, _), (14, _)] (fun gq => [(15, .int .u64 (((U * 4294967296 + n1) / D : Nat) : Int))]) (fun gq => True) (S7 I I I I I I I) ?_ ?_))
  ·skip
   refine Cb (Lp (σ := Nat × Nat) [(2, _), (8, _), (9, _), (10, _), (11, _), (13, _), (14, _)] (fun gq => [(15, .int .u64 (gq.1 : Int)), (16, .int .u64 (gq.2 : Int))]) (fun gq => U = gq.1 * y1 + gq.2 ∧ (U * 4294967296 + n1) / D ≤ gq.1 ∧ gq.2 < 4294967296 ∧ gq.1 ≤ 8589934591) (fun gq => gq.1) (U / y1, U % y1) (S7 I I I I I I I) (S2 I I) (by (try dsimp only); exact ⟨by rw [Aj]; exact (Bc U y1).symm, by rw [← hDe]; exact qU hn1l (by omega), Do (Ak _ (by omega)) hy1u, tY (by omega) hy1l⟩) ?_); rintro ⟨q, rh⟩ hinv1; (try dsimp only at hinv1 ⊢); obtain ⟨hi1, hi2, hi3, hi4⟩ := hinv1; refine Cq (WC.joinP (σ := Unit) [(2, _), (8, _), (9, _), (10, _), (11, _), (13, _), (14, _), (15, _), (16, _)] (fun gq => [(78, .bool (decide (4294967296 ≤ q ∨ 4294967296 * rh + n1 < q * y0)))]) (fun gq => True) (S9 I I I I I I I I I) ?_ ?_)
   ·skip
    refine Cg (Km I (Yh I (Km I (Nc 69 I (fun hg69 => ?_) (fun hg69 => ?_)))))
    ·refine T4 I (T4 I (Yp I (Nn (WX.joinP (()) (S9 I I I I I I I I I) (by refine (Sc ?_ (S0 _)) <;> ((exact congrArg (fun b => some (Value.bool b)) (by symm; apply Am; omega)))) ?_ (fun _ h => h))))); (try dsimp only); done
    ·refine Km I (Km I (Kq I (bH I I I (by exact un (by omega) hy0l)) ?_)); refine Km I (Kq I (bH (a := 4294967296) I I I (by omega)) (Km I (Kq I (bN I I I (by omega)) (Yg I (Yq I (Nn (WX.joinP (()) (S9 I I I I I I I I I) (by refine (Sc ?_ (S0 _)) <;> ((refine ai rfl ?_; (try dsimp only); (exact Af.2 (by omega))))) ?_ (fun _ h => h)))))))); (try dsimp only); done
   ·rintro _ hmeet; (try dsimp only at hmeet ⊢); refine Ci I (fun hc78 => ?_) (fun hc78 => ?_)
    ·rw [← hDe] at hi2; obtain ⟨hm1, hm2⟩ := qT hn1l (by rw [hDe]; exact hUl) hi1 hi2 hc78; have hi5 : U = (q - 1) * y1 + (rh + y1) := by rw [hi1, Nat.sub_mul, Cm]; have := Nat.le_mul_of_pos_left y1 hm1; omega
     rw [hDe] at hi2 hm2; refine Ck (Xa (Cb (Cs (Km I (FC ?_))))); refine DT ?_; refine Km I (Kq I (bN I I I (by omega)) (DT ?_)); refine E7 (fun hc85 => ?_) (fun hc85 => ?_)
     ·have hqe : q - 1 = (U * 4294967296 + n1) / D := by
       rw [← hDe] at hm2 ⊢; exact j8 (by omega) hi5 hm2 (oE (by omega) hy0l (by rw [hDe]; exact hUl) hi5 (by omega)).2
      rw [hqe]; refine Cx ?_; refine WX.block_other I ?_; refine Xc (Xe (WX.joinP (()) (S7 I I I I I I I) (by refine (Sc ?_ (S0 _)) <;> (rfl)) ?_ (fun _ h => h))); (try dsimp only); done
     ·refine Ck (Xd (Ly ((q - 1, rh + y1)) (by (try dsimp only); omega) (S7 I I I I I I I) (by refine (Sc ?_ (Sc ?_ (S0 _))) <;> (rfl)) ?_ (fun _ h => h))); (try dsimp only); exact ⟨hi5, hm2, by omega, by omega⟩
    ·have hqe : q = (U * 4294967296 + n1) / D := by rw [← hDe] at hi2 ⊢; exact j8 (by omega) hi1 hi2 (by omega)
     subst hqe; refine Cx (Xc (Xc (Xe ?_))); refine WX.joinP (()) (S7 I I I I I I I) (by refine (Sc ?_ (S0 _)) <;> (rfl)) ?_ (fun _ h => h); (try dsimp only); done
  ·rintro _ hmeet; (try dsimp only at hmeet ⊢); obtain ⟨Q1, hQ1⟩ : ∃ q, q = (U * 4294967296 + n1) / D := ⟨_, rfl⟩; obtain ⟨V, hV⟩ : ∃ q, q = (U * 4294967296 + n1) % D := ⟨_, rfl⟩; have hUV : U * 4294967296 + n1 = Q1 * D + V := by rw [hQ1, hV, Aj _ D]; exact (Bc _ _).symm
   have hVl : V < D := by rw [hV]; exact Ak _ (by omega)
   have hQ1l : Q1 < 4294967296 := by rw [hQ1, ← hDe]; exact vf hn1l (by omega)
   rw [← hQ1]; refine Cs (Km I (Kq I (gD (c := 4294967296) I I I) (Km I (Kq I (bN I I I (by omega)) (Km I (Km I (Kq I (gD I I I) (Kq I (kF I I I) (Ns 93 I (v' := .int .u64 ((V : Nat) : Int)) (congrArg (Value.int .u64) (by exact s8 hUV hn1l (by omega))) ?_))))))))); refine Ka I (Nt (Cs (Km I (Km I (Kq I (cF I I I ?_) ?_)))))
   ·omega
   refine DT ?_; refine Km I (Km I (Kq I (bH I I I (by have h1 := D4 V y1; omega)) ?_)); refine Kq I (bU I I I (by have h1 := D4 V y1; omega)) ?_; refine Ns 101 I (v' := .int .u64 ((V % y1 : Nat) : Int)) (congrArg (Value.int .u64) (by have h1 := Bc V y1; rw [Aj] at h1; omega)) ?_; refine Ka I (Nt (WC.joinP (σ := Unit) [(2, _), (8, _), (14, _), (15, _), (17, _)] (fun gq => [(18, .int .u64 (((V * 4294967296 + n0) / D : Nat) : Int))]) (fun gq => True) (S5 I I I I I) ?_ ?_))
   ·skip
    refine Cb (Lp (σ := Nat × Nat) [(2, _), (8, _), (9, _), (10, _), (14, _), (15, _), (17, _)] (fun gq => [(18, .int .u64 (gq.1 : Int)), (16, .int .u64 (gq.2 : Int))]) (fun gq => V = gq.1 * y1 + gq.2 ∧ (V * 4294967296 + n0) / D ≤ gq.1 ∧ gq.2 < 4294967296 ∧ gq.1 ≤ 8589934591) (fun gq => gq.1) (V / y1, V % y1) (S7 I I I I I I I) (S2 I I) (by (try dsimp only); exact ⟨by rw [Aj]; exact (Bc V y1).symm, by rw [← hDe]; exact qU hn0l (by omega), Do (Ak _ (by omega)) hy1u, tY (by omega) hy1l⟩) ?_); rintro ⟨q, rh⟩ hinv2; (try dsimp only at hinv2 ⊢); obtain ⟨hi1, hi2, hi3, hi4⟩ := hinv2; refine Cq (WC.joinP (σ := Unit) [(2, _), (8, _), (9, _), (10, _), (14, _), (15, _), (16, _), (17, _), (18, _)] (fun gq => [(113, .bool (decide (4294967296 ≤ q ∨ 4294967296 * rh + n0 < q * y0)))]) (fun gq => True) (S9 I I I I I I I I I) ?_ ?_)
    ·skip
     refine Cg (Km I (Yh I (Km I (Nc 104 I (fun hg104 => ?_) (fun hg104 => ?_)))))
     ·refine T4 I (T4 I (Yp I (Nn (WX.joinP (()) (S9 I I I I I I I I I) (by refine (Sc ?_ (S0 _)) <;> ((exact congrArg (fun b => some (Value.bool b)) (by symm; apply Am; omega)))) ?_ (fun _ h => h))))); (try dsimp only); done
     ·refine Km I (Km I (Kq I (bH I I I (by exact un (by omega) hy0l)) ?_)); refine Km I (Kq I (bH (a := 4294967296) I I I (by omega)) (Km I (Kq I (bN I I I (by omega)) (Yg I (Yq I (Nn (WX.joinP (()) (S9 I I I I I I I I I) (by refine (Sc ?_ (S0 _)) <;> ((refine ai rfl ?_; (try dsimp only); (exact Af.2 (by omega))))) ?_ (fun _ h => h)))))))); (try dsimp only); done
    ·rintro _ hmeet; (try dsimp only at hmeet ⊢); refine Ci I (fun hc113 => ?_) (fun hc113 => ?_)
     ·rw [← hDe] at hi2; obtain ⟨hm1, hm2⟩ := qT hn0l (by rw [hDe]; exact hVl) hi1 hi2 hc113; have hi5 : V = (q - 1) * y1 + (rh + y1) := by rw [hi1, Nat.sub_mul, Cm]; have := Nat.le_mul_of_pos_left y1 hm1; omega
      rw [hDe] at hi2 hm2; refine Ck (Xa (Cb (Cs (Km I (FC ?_))))); refine DT ?_; refine Km I (Kq I (bN I I I (by omega)) (DT ?_)); refine E7 (fun hc120 => ?_) (fun hc120 => ?_)
      ·have hqe : q - 1 = (V * 4294967296 + n0) / D := by
        rw [← hDe] at hm2 ⊢; exact j8 (by omega) hi5 hm2 (oE (by omega) hy0l (by rw [hDe]; exact hVl) hi5 (by omega)).2
       rw [hqe]; refine Cx ?_; refine WX.block_other I ?_; refine Xc (Xe (WX.joinP (()) (S5 I I I I I) (by refine (Sc ?_ (S0 _)) <;> (rfl)) ?_ (fun _ h => h))); (try dsimp only); done
      ·refine Ck (Xd (Ly ((q - 1, rh + y1)) (by (try dsimp only); omega) (S7 I I I I I I I) (by refine (Sc ?_ (Sc ?_ (S0 _))) <;> (rfl)) ?_ (fun _ h => h))); (try dsimp only); exact ⟨hi5, hm2, by omega, by omega⟩
     ·have hqe : q = (V * 4294967296 + n0) / D := by rw [← hDe] at hi2 ⊢; exact j8 (by omega) hi1 hi2 (by omega)
      subst hqe; refine Cx (Xc (Xc (Xe ?_))); refine WX.joinP (()) (S5 I I I I I) (by refine (Sc ?_ (S0 _)) <;> (rfl)) ?_ (fun _ h => h); (try dsimp only); done
   ·rintro _ hmeet; (try dsimp only at hmeet ⊢); obtain ⟨Q0, hQ0⟩ : ∃ q, q = (V * 4294967296 + n0) / D := ⟨_, rfl⟩; obtain ⟨W, hW⟩ : ∃ q, q = (V * 4294967296 + n0) % D := ⟨_, rfl⟩; have hVW : V * 4294967296 + n0 = Q0 * D + W := by rw [hQ0, hW, Aj _ D]; exact (Bc _ _).symm
    have hWl : W < D := by rw [hW]; exact Ak _ (by omega)
    have hQ0l : Q0 < 4294967296 := by rw [hQ0, ← hDe]; exact vf hn0l (by omega)
    rw [← hQ0]; have hfin := pD hsh hD hNe hUV hVW hWl; refine Cs (Km I (Kq I (bH (c := 4294967296) I I I (by omega)) (Km I (Kq I (bN I I I (by omega)) (Km I (Kq I (gD (c := 4294967296) I I I) (Km I (Kq I (bN I I I (by omega)) (Km I (Km I (Kq I (gD I I I) (Kq I (kF I I I) (Ns 132 I (v' := .int .u64 ((W : Nat) : Int)) (congrArg (Value.int .u64) (by exact s8 hVW hn0l (by omega))) ?_))))))))))))); refine Km I (Kq I (bA I I I (by show s ≤ 64; omega)) ?_); refine Ns 134 I (v' := .int .u64 ((W / 2 ^ s : Nat) : Int)) (congrArg (Value.int .u64) (by rfl)) ?_; refine Ka I (to ?_); exact R2 I I I (by rw [hfin.1, hfin.2]; rfl)
theorem wK {u lo y : Nat} {w : World} (h0 : 0 < y) (hhi : u < 18446744073709551616) (hlo : lo < 18446744073709551616) (hy : y < 18446744073709551616) :
  Cw 196 #[.int .u64 (u : Int), .int .u64 (lo : Int), .int .u64 (y : Int)] w (.int .u64 (((u * 18446744073709551616 + lo) % y : Nat) : Int)) := by
 have hm := Ak u h0
 refine En [] [(0, .int .u64 (u : Int)), (1, .int .u64 (lo : Int)), (2, .int .u64 (y : Int))] Tryz.func196 I Tryz.ntmps196 I (Ac I (Ac I (Ac I (An _)))) Fn (Cs (Ka I (Nt (Cs (Km I (Km I (Kq I (bt I I I ?_) ?_)))))))
 ·assumption
 refine Km I (Km I (Kc I (fun w hS => qS (u := u % y) (lo := lo) (y := y) (by assumption) (by assumption) (by assumption)) (BY ?_))); refine Cs (Km I (to ?_))
 exact R1 I I (by rw [show (u % y * 18446744073709551616 + lo) % y = (u * 18446744073709551616 + lo) % y by rw [Nat.add_mod, Nat.mod_mul_mod, ← Nat.add_mod]]; rfl)
section
variable {ds : List Deferred} {ρ : Option Nat} {P : Program} {o : Oper} {n : Nat} {L : ak} {ok : Nat → Prop} {w0 : World} {own : List Ent} {fs : List Fact} {x y : Operand} {t e : TypeId} {sz : Nat} {xs : List Value}
theorem mb {w : World} {ad : Option Addr} {xs : List Value} (h : (Fact.sl ad xs).holds (fun _ => True) w) (hx : 0 < xs.length) : ∃ b, ad = some b ∧ ∀ j v, xs[j]? = some v → w.cell? (b.add j) = some v := by
 rcases h with h0 | ⟨b, off, cells, T', fz, e1, _, e3, e4⟩
 ·subst h0; simp at hx
 ·exact ⟨⟨b, off, none⟩, e1, fun j v hq => by
   have hlt : j < xs.length := (Al.1 hq).1
   rw [Addr.add_lit]; simp [World.cell?, e3, e4 j hlt, hq]⟩
theorem CJ {len m c : Nat} {adx ad : Option Addr} {news : List Value} {zv : Value} (hop : o.op = .call { callee := .builtin .append, args := #[x, y], argTypes := #[t, t] }) (hu : P.underlying t = some (.slice e)) (hi : (P.info? e).map (fun i => (i.zero, i.size, i.bytes)) = some (some zv, 1, sz)) (h1 : zv.cells = #[zv])
  (hx : ag L x = some (.slice adx len len)) (hy : ag L y = some (.slice ad m c)) [hf : HasF fs adx xs] (hsrc : ∀ w, St ok w0 own fs w → (Fact.sl ad news).holds (fun _ => True) w) (hm : news.length = m)
  (hb : xs.length = len ∧ 0 < len ∧ 0 < m ∧ len + m ≤ 9223372036854775807 ∧ (len + m) * sz ≤ 140737488355328) :
  Og ds P o n L (St ok w0 own fs) (fun g : Gr => .slice (g.ob.map fun b => ⟨b, 0, none⟩) (len + m) g.cap) (fun g w => (g.cap = len + m + g.sp.length ∧ g.ob.isSome = true) ∧ St ok w0 (⟨g.ob, (xs ++ news) ++ g.sp, e⟩ :: own) fs w) :=
 bO fun a hF w hS => by
  obtain ⟨hxl, hl0, hm0, h63, hbb⟩ := hb
  obtain ⟨i', hi', hz, hs, hbb'⟩ := info_parts hi
  obtain ⟨bx, rfl, hcx⟩ := mb (hS.sl (a := adx)) (by omega)
  obtain ⟨by', rfl, hcy⟩ := mb (hsrc w hS) (by omega)
  have zlen : ∀ q, (Builtin.zeroCells zv.cells q).toList = List.replicate q zv := fun q => by rw [h1]; exact ij zv q
  have hrun := run_append_grow (P := P) w t o.type e i' zv hu hi' hz bx len len xs (by rw [hs]; omega) hcx by' m c news (by rw [hs]; omega) hcy (by omega) (by omega) (by rw [hbb']; exact growslice_fits (by omega) hbb)
  have hge := grownCap_ge w (len + m) len e
  refine ⟨⟨some w.heap.size, grownCap w (len + m) len e, List.replicate (grownCap w (len + m) len e - (len + m)) zv⟩, (w.drew.alloc (.cells (xs.toArray ++ news.toArray ++ Builtin.zeroCells zv.cells (grownCap w (len + m) len e - (len + m))) e)), .inl ?_, ?_, ?_⟩
  ·simp [execOp, hop, resolve, invoke, builtin, hF.eval hx, hF.eval hy, hrun]
  ·exact ⟨by simp; omega, rfl⟩
  ·have := hS.draw.alloc ((xs ++ news) ++ List.replicate (grownCap w (len + m) len e - (len + m)) zv) e
   have e1 : (xs.toArray ++ news.toArray ++ Builtin.zeroCells zv.cells (grownCap w (len + m) len e - (len + m))) = ((xs ++ news) ++ List.replicate (grownCap w (len + m) len e - (len + m)) zv).toArray := by
    apply Array.ext'; simp [zlen]
   rw [e1]; exact this
end
def co (l ms : List Bs) : Int := if ∀ x ∈ l ++ ms, okN x then (if [] ∈ ms then 11 else 0) else 3
theorem ap {α : Type} [Inhabited α] (l : List α) (i : Nat) (h : i < l.length) : l.getD i default ∈ l := by
 rw [List.getD_eq_getElem?_getD, Ad h]; exact D0 h
theorem az {α : Type} [Inhabited α] {p : α → Prop} {l : List α} {i : Nat} (h : i < l.length) (ht : ∀ x ∈ l.take i, p x) (hx : p (l.getD i default)) : ∀ x ∈ l.take (i + 1), p x := by
 intro x hm
 rw [Bt, Ad h] at hm
 rcases B6.1 hm with h1 | h1
 ·exact ht x h1
 ·simp at h1; subst h1
  rwa [List.getD_eq_getElem?_getD, Ad h] at hx
theorem fS (a b : List Bs) : an a ++ an b = an (a ++ b) := by simp [an]
theorem nF {l ms : List Bs} {a b : Option Addr} {c : Nat} {w : World} {ok : Nat → Prop} (hF1 : (Fact.sl a (an l)).holds ok w) (hF2 : (Fact.sl b (an ms)).holds ok w) (hl : l.length ≤ 1000) (hms : ms.length ≤ 1000) (hl0 : 0 < l.length) (hms0 : 0 < ms.length) :
  Cw 149 #[.slice a l.length l.length, .slice b ms.length c] w (.int .i64 (co l ms)) := by
 refine En [Fact.sl a (an l), Fact.sl b (an ms)] [(0, .slice a l.length l.length), (1, .slice b ms.length c)] Tryz.func149 I Tryz.ntmps149 I (Ac I (Ac I (An _))) (Fc (ah hF1) (Fc (ah hF2) Fn)) (Cs (Ka I (Nt (Cq (Cs (Km I (Km I (Kh I (CJ I u31 (by kernel_rfl : _ = some (some (.string (S [])), 1, 16)) I I I (fun w hS => by (exact hS.sl)) (by simp) ?_) ?_))))))))
 ·(refine ⟨?_, ?_, ?_, ?_, ?_⟩ <;> (try simp) <;> omega)
 rintro ⟨o11, c11, s11⟩
 refine WL.pu ?_
 intro hg11; (try dsimp only at hg11 ⊢)
 rw [fS]
 refine FW ?_; refine Lp (σ := Nat) [(1, _), (11, _), (12, _)] (fun gq => [(13, .int .i64 (gq : Int))]) (fun gq => gq ≤ (l ++ ms).length ∧ ∀ x ∈ (l ++ ms).take gq, okN x) (fun gq => (l ++ ms).length - gq) (0) (S3 I I I) (S1 I) (by (try dsimp only); exact ⟨Ai _, by simp⟩) ?_
 rintro i hinv1; (try dsimp only at hinv1 ⊢)
 obtain ⟨hi, hok⟩ := hinv1
 refine DP (fun hc14 => ?_) (fun hc14 => ?_)
 ·have hil : i < (l ++ ms).length := by (rw [A5]; omega)
  refine E3 ?_; refine Kq I (iao I I I u31 (by kernel_rfl : _ = some 1) (by omega) (by (simp <;> omega)) (by (try simp only [sN, Int.reduceToNat, Nat.reduceAdd, Nat.reduceMul, Nat.reduceSub]); rfl)) ?_
  refine Kq I (DH I I u22 I (by assumption)) (DT ?_); refine Kc I (fun w hS => ay (a := (l ++ ms).getD i default)) (Eq (fun hc19 => ?_) (fun hc19 => ?_))
  ·refine Cs (to ?_); refine DS ?_; exact R1 I I (by rw [co, Aa (fun h => absurd (h _ (ap _ _ hil)) (by simpa using hc19))]; rfl)
  ·refine Ck (Xd (Xa (Cg (Kq I (Rz I I I (by omega)) (Km I (Nn (Ly (i + 1) (by rw [A5] at hil ⊢; omega) (S3 I I I) (by refine (Sc ?_ (S0 _)) <;> (rfl)) ?_ (fun _ h => h)))))))); (try dsimp only); exact ⟨hil, az hil hok (by simpa using hc19)⟩
 ·refine AT ?_
  have hall : ∀ x ∈ l ++ ms, okN x := by
   have e : i = (l ++ ms).length := by rw [A5] at hi ⊢; omega
   subst e; rw [Ap] at hok; exact hok
  refine Xa (Cq (Cs (Km I (FW ?_)))); refine Lp (σ := Nat) [(21, _), (22, _)] (fun gq => [(23, .int .i64 (gq : Int))]) (fun gq => gq ≤ ms.length ∧ ∀ x ∈ ms.take gq, x ≠ []) (fun gq => ms.length - gq) (0) (S2 I I) (S1 I) (by (try dsimp only); exact ⟨Ai _, by simp⟩) ?_
  rintro i2 hinv2; (try dsimp only at hinv2 ⊢)
  obtain ⟨hi2, hne⟩ := hinv2
  refine DP (fun hc24 => ?_) (fun hc24 => ?_)
  ·have hil2 : i2 < ms.length := by omega
   refine E3 ?_; refine DZ ?_; refine EI ?_; refine DT ?_; refine Fu (fun hc28 => ?_) (fun hc28 => ?_)
   ·have hmem : [] ∈ ms := by
     have e : ms.getD i2 default = [] := by simpa using hc28
     rw [← e]; exact ap _ _ hil2
    refine Cs (to ?_); refine DS ?_; exact R1 I I (by rw [co, Ab hall, Ab hmem]; rfl)
   ·refine Ck (Xd (Xa (Cg (Kq I (Rz I I I (by omega)) (Km I (Nn (Ly (i2 + 1) (by (try dsimp only); omega) (S2 I I) (by refine (Sc ?_ (S0 _)) <;> (rfl)) ?_ (fun _ h => h)))))))); (try dsimp only); exact ⟨hil2, az hil2 hne (by simpa using hc28)⟩
  ·refine AT ?_; obtain rfl : i2 = ms.length := by omega
   rw [Ap] at hne; refine Xa (Cs (to ?_)); exact R1 I I (by rw [co, Ab hall, Aa (fun h => hne _ h rfl)]; rfl)
theorem vj {l ms : List Bs} (h : co l ms = 0) : (∀ x ∈ l ++ ms, okN x) ∧ [] ∉ ms := by
 unfold co at h
 split at h
 ·rename_i h1
  split at h
  ·simp at h
  ·rename_i h2; exact ⟨h1, h2⟩
 ·simp at h
theorem lk {l ms : List Bs} (h : ∀ x ∈ l ++ ms, okN x) (h2 : [] ∉ ms) : co l ms = 0 := by rw [co, Ab h, Aa h2]
theorem lC {m : Bs} (h : okN m) (h0 : m ≠ []) : 0 < val m := Ct fun e => h0 ((aM h.2).1 e)
theorem gC {a m : Bs} {w : World} (ha : okN a) (hm : okN m) (hm0 : m ≠ []) :
  Cw 151 #[.string (S a), .string (S m)] w (.string (S (ae (val a % val m)))) := by
 refine En [] [(0, .string (S a)), (1, .string (S m))] Tryz.func151 I Tryz.ntmps151 I (Ac I (Ac I (An _))) Fn (Cs (DT ?_)); refine Km I (Kc I (fun w hS => (by have := e9 (w := w) (a := a) (b := m); rw [dg ha hm hm0] at this; exact this)) (EX ?_)); refine DT ?_; refine to ?_
 exact GH
theorem fU {a : Bs} (h : okN a) (h8 : a.length ≤ 8) : aQ a = (val a, true) := by rw [aQ, Ab ⟨h, h8⟩]
theorem tj (x y z : Nat) : (x % z * (y % z) / 18446744073709551616 * 18446744073709551616 + x % z * (y % z) % 18446744073709551616) % z = x * y % z := by
 rw [Aj (_ / _), Bc, ← C5]
theorem mL {a b m : Bs} {w : World} (ha : okN a) (hb : okN b) (hm : okN m) (hm0 : m ≠ []) (ha8 : a.length ≤ 8) (hb8 : b.length ≤ 8) (hm8 : m.length ≤ 8) :
  Cw 153 #[.string (S a), .string (S b), .string (S m)] w (.string (S (ae (val a * val b % val m)))) := by
 have hp := lC hm hm0
 have ha64 := dQ ha8; have hb64 := dQ hb8; have hm64 := dQ hm8
 have h1 := Ak (val a) hp; have h2 := Ak (val b) hp; have h3 := Ak (val a * val b) hp
 have hml : val a % val m * (val b % val m) < 18446744073709551616 * 18446744073709551616 := Dz (by omega) (by omega)
 have hhi : val a % val m * (val b % val m) / 18446744073709551616 < 18446744073709551616 := by rw [Ca (by decide)]; exact hml
 have hlo : val a % val m * (val b % val m) % 18446744073709551616 < 18446744073709551616 := Ak _ (by decide)
 refine En [] [(0, .string (S a)), (1, .string (S b)), (2, .string (S m))] Tryz.func153 I Tryz.ntmps153 I (Ac I (Ac I (Ac I (An _)))) Fn (Cs (DR ?_)); refine Yn I u22 (Ym I (Ns 17 I (v' := .bool true) (by rw [Am (by omega)]) ?_))
 refine Km I (Km I (Yn I u22 (Ym I (Ns 21 I (v' := .bool true) (by rw [Am (by omega)]) ?_))))
 refine Yp I (Km I (Km I (Yn I u22 (Ym I (Ns 26 I (v' := .bool true) (by rw [Am (by omega)]) ?_)))))
 refine Yp I (Nt (Cd I (fun _ => ?_) (fun h => by cases h)))
 refine Cs (Km I (Kc I (fun w hS => (by have := ex (w := w) (a := a) (by omega); rw [fU ha ha8] at this; exact this)) (BY ?_))); refine Cs (Km I (Kc I (fun w hS => (by have := ex (w := w) (a := b) (by omega); rw [fU hb hb8] at this; exact this)) (BY ?_))); refine Cs (Km I (Kc I (fun w hS => (by have := ex (w := w) (a := m) (by omega); rw [fU hm hm8] at this; exact this)) (BY ?_))); refine Cq (Cf [0, 1, 2, 3, 4, 5, 6, 7, 8, 9, 10, 11] [] [0, 0, 0, 0, 0, 0, 1, 0, 0, 0, 0, 0] (by kernel_rfl) (by kernel_rfl) I ?_)
 refine DW ?_
 refine Kj I (bt I I I ?_) ?_
 ·assumption
 refine DW ?_
 refine Kj I (bt I I I ?_) ?_
 ·assumption
 refine Jv I I I I I (fun ext => Oc I I (Kv fun w hS => ni (x := val a % val m) (y := val b % val m) (by omega) (by omega))) ?_
 refine ER ?_; refine EM ?_
 refine WJ.nil ?_
 refine Nt (FS ?_); refine Km I (Kc I (fun w hS => wK (u := val a % val m * (val b % val m) / 18446744073709551616) (lo := val a % val m * (val b % val m) % 18446744073709551616) (y := val m) (by assumption) (by assumption) (by assumption) (by assumption)) (Ns 56 I (v' := .int .u64 ((val a * val b % val m : Nat) : Int)) (congrArg (Value.int .u64) (by rw [tj])) ?_))
 refine Kc I (fun w hS => f8 (n := val a * val b % val m) (by omega)) (ne ?_)
 exact GH
def iH (a b m : Bs) : Bs × Int := if co [a, b] [m] = 0 then (ae (val a * val b % val m), 0) else ([], co [a, b] [m])
theorem x2 {a b m : Bs} (h : co [a, b] [m] = 0) : okN a ∧ okN b ∧ okN m ∧ m ≠ [] := by
 obtain ⟨h1, h2⟩ := vj h
 exact ⟨h1 a (by simp), h1 b (by simp), h1 m (by simp), fun e => h2 (by simp [e])⟩
theorem zp {a b m : Bs} {w : World} (ha8 : a.length ≤ 8) (hb8 : b.length ≤ 8) (hm8 : m.length ≤ 8) :
  Cw 93 #[.string (S a), .string (S b), .string (S m)] w (NE (iH a b m)) := by
 refine En [] [(0, .string (S a)), (1, .string (S b)), (2, .string (S m))] Tryz.func93 I Tryz.ntmps93 I (Ac I (Ac I (Ac I (An _)))) Fn (Cs (Ka I (Ka I (Nt (Cq (Cs (Km I (Km I (Kh I (aO I I u31 (by kernel_rfl : _ = some (some (.string (S [])), 1, 16)) I (by simp only [List.map]; rfl) I I ?_ (by decide)) ?_)))))))))
 ·simp [Value.cells]
 intro b11
 refine Km I (Kh I (aO I I u31 (by kernel_rfl : _ = some (some (.string (S [])), 1, 16)) I (by simp only [List.map]; rfl) I I ?_ (by decide)) ?_)
 ·simp [Value.cells]
 intro b13
 refine Kc I (fun w hS => nF (l := [a, b]) (ms := [m]) (by (exact hS.os)) (by (exact hS.os)) (by (simp <;> omega)) (by (simp <;> omega)) (by (simp <;> omega)) (by (simp <;> omega))) (DT ?_); refine EL (fun hc16 => ?_) (fun hc16 => ?_)
 ·have hr : iH a b m = ([], co [a, b] [m]) := by rw [iH, Aa (by simpa using hc16)]
  refine Cs (Km I (Ka I (ne ?_)))
  exact GE
 ·have h0 : co [a, b] [m] = 0 := by simpa using hc16
  have hr : iH a b m = (ae (val a * val b % val m), 0) := by rw [iH, Ab h0]
  obtain ⟨ha, hb, hm, hm0⟩ := x2 h0
  refine EN ?_; refine Km I (Kc I (fun w hS => mL (a := a) (b := b) (m := m) (by exact ha) (by exact hb) (by exact hm) (by exact hm0) (by exact ha8) (by exact hb8) (by exact hm8)) (Ka I (to ?_)))
  exact GE
end Go.Proofs.YtkdlonihbjhhoaaGreatDoor
