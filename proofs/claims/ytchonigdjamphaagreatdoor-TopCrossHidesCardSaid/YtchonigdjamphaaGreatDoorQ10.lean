/-
  Parts of the walk: DivW Asl Mo1 Mo2 Mo3 Grp1.
-/
import Derived.Test.YtchonigdjamphaaGreatDoorQ9
namespace Go.Proofs.YtchonigdjamphaaGreatDoor
open Go.RowKit
set_option linter.unusedSimpArgs false
set_option linter.unusedVariables false
set_option maxHeartbeats 600000
set_option maxRecDepth 20000
theorem we : ∀ f x, x < 2 ^ f → x < 2 ^ Lib.bitLenAux f x ∧ (0 < x → 2 ^ Lib.bitLenAux f x ≤ 2 * x)
 | 0, x, h => by have : x = 0 := by simpa using h
                 subst this; exact ⟨by decide, fun h => absurd h (by decide)⟩
 | f + 1, x, h => by
  rw [gY]
  by_cases h0 : x = 0
  ·rw [Ae h0, h0]; exact ⟨by decide, fun h => absurd h (by decide)⟩
  ·rw [Aa h0, D2 1, A0]; obtain ⟨h1, h2⟩ := we f (x / 2) (by rw [A0] at h; omega); refine ⟨by omega, fun _ => ?_⟩
   rcases Bw (x / 2) with h3 | h3
   ·have h4 : Lib.bitLenAux f (x / 2) = 0 := by rw [h3]; cases f <;> rfl
    rw [h4]; omega
   ·have := h2 h3; omega
theorem sY {x : Nat} (h : x < 18446744073709551616) : x < 2 ^ Lib.bitLen x ∧ (0 < x → 2 ^ Lib.bitLen x ≤ 2 * x) := we 64 x h
theorem uE {y : Nat} (h0 : 0 < y) (h : y < 18446744073709551616) : y * 2 ^ (64 - Lib.bitLen y) < 18446744073709551616 ∧ 9223372036854775808 ≤ y * 2 ^ (64 - Lib.bitLen y) := by
 obtain ⟨h1, h2⟩ := sY h
 have h2 := h2 h0
 have hl := fi y
 have e : 2 ^ Lib.bitLen y * 2 ^ (64 - Lib.bitLen y) = 18446744073709551616 := by rw [← Bj, show Lib.bitLen y + (64 - Lib.bitLen y) = 64 by omega]
 constructor
 ·rw [← e]; exact Nat.mul_lt_mul_of_pos_right h1 (C5 _)
 ·have h3 := Bp (2 ^ (64 - Lib.bitLen y)) h2
  rw [e, A1] at h3; omega
theorem xR {x : Nat} {w : World} (hx : x < 18446744073709551616) :
  Cw 313 #[.int .u64 (x : Int)] w (.int .i64 (Lib.bitLen x)) :=
 (uJ x w (by omega) (by omega)).mono fun _ _ ⟨h1, h2⟩ => ⟨by simpa using h1, by rw [h2]; exact iu⟩
theorem AU {x : Nat} {w : World} (hx : x < 18446744073709551616) :
  Cw 307 #[.int .u64 (x : Int)] w (.int .i64 ((64 - Lib.bitLen x : Nat) : Int)) := by
 have hb := fi x
 refine En [] [(0, .int .u64 (x : Int))] Tryz.func307 I Tryz.ntmps307 I (Ac I (An _)) Fn (Cs (FN ?_)); refine Kc I (fun w hS => xR (x := x) (by assumption)) (Kq I (et I I I (by omega)) (le ?_))
 exact Iq
theorem wK {hi lo s : Nat} (hs : s ≤ 64) : (hi * 18446744073709551616 + lo) * 2 ^ s = (hi * 2 ^ s + lo / 2 ^ (64 - s)) * 18446744073709551616 + lo * 2 ^ s % 18446744073709551616 := by
 have e : 2 ^ (64 - s) * 2 ^ s = 18446744073709551616 := by rw [← Bj, show 64 - s + s = 64 by omega]
 have h1 : lo * 2 ^ s / 18446744073709551616 = lo / 2 ^ (64 - s) := by rw [← e, Nat.mul_div_mul_right _ _ (C5 s)]
 have h2 := Bl (lo * 2 ^ s) 18446744073709551616
 rw [h1] at h2
 rw [Bk, Bk, Nat.mul_right_comm]
 omega
def Keep (p : Prop) : Prop := p
theorem tk {U n1 Q D V : Nat} (h : U * 4294967296 + n1 = Q * D + V) (hn : n1 < 4294967296) (hV : V < 18446744073709551616) : IntKind.u64.wrap (((U * 4294967296 % 18446744073709551616 + n1 : Nat) : Int) - ((Q * D % 18446744073709551616 : Nat) : Int)) = (V : Int) := by
 rw [IntKind.wrap_u64]; generalize Q * D = X at *; omega
theorem pY {X y s U N D n1 n0 Q1 Q0 V W : Nat} (hsh : Keep (X * 2 ^ s = U * 18446744073709551616 + N)) (hD : D = y * 2 ^ s) (hN : n1 * 4294967296 + n0 = N) (h1 : U * 4294967296 + n1 = Q1 * D + V) (h0 : V * 4294967296 + n0 = Q0 * D + W) (hW : W < D) :
  X / y = Q1 * 4294967296 + Q0 ∧ X % y = W / 2 ^ s := by
 have hb := yr h1 h0 hW
 rw [hN] at hb
 have e : U * (4294967296 * 4294967296) + N = X * 2 ^ s := hsh.symm
 rw [e, hD, Nat.mul_div_mul_right _ _ (C5 s), Nat.mul_mod_mul_right] at hb
 exact ⟨hb.1, by rw [← hb.2, Nat.mul_div_cancel _ (C5 s)]⟩
theorem uz {a b : Nat} (ha : a < 4294967296) (hb : b < 4294967296) : a * b < 2 ^ 64 := Bb (Dg (Ed ha) (Ed hb)) (by decide)
theorem ul {u y1 : Nat} (hu : u < 18446744073709551616) (hy : 2147483648 ≤ y1) : u / y1 ≤ 8589934591 := by
 apply Ed
 rw [Co (by omega)]; omega
theorem yq {u lo y : Nat} {w : World} (hhi : u < y) (hlo : lo < 18446744073709551616) (hy : y < 18446744073709551616) :
  Cw 281 #[.int .u64 (u : Int), .int .u64 (lo : Int), .int .u64 (y : Int)] w (.tuple #[.int .u64 (((u * 18446744073709551616 + lo) / y : Nat) : Int), .int .u64 (((u * 18446744073709551616 + lo) % y : Nat) : Int)]) := by
 obtain ⟨s, hs⟩ : ∃ s, s = 64 - Lib.bitLen y := ⟨_, rfl⟩
 obtain ⟨hy1, hy2⟩ := uE (by omega) hy
 rw [← hs] at hy1 hy2
 have hs64 : s ≤ 64 := by omega
 obtain ⟨D, hD⟩ : ∃ D, D = y * 2 ^ s := ⟨_, rfl⟩
 rw [← hD] at hy1 hy2
 have hsh := wK (hi := u) (lo := lo) hs64
 obtain ⟨U, hU⟩ : ∃ U, U = u * 2 ^ s + lo / 2 ^ (64 - s) := ⟨_, rfl⟩
 obtain ⟨N, hN⟩ : ∃ N, N = lo * 2 ^ s % 18446744073709551616 := ⟨_, rfl⟩
 rw [← hU, ← hN] at hsh
 have hps : 2 ^ (64 - s) * 2 ^ s = 18446744073709551616 := by rw [← Bj, show 64 - s + s = 64 by omega]
 replace hsh : Keep ((u * 18446744073709551616 + lo) * 2 ^ s = U * 18446744073709551616 + N) := hsh
 have hlos : lo / 2 ^ (64 - s) < 2 ^ s := by rw [Co (C5 _), Ao, hps]; exact hlo
 have hhis : u * 2 ^ s + 2 ^ s ≤ D := by rw [hD, ← Nat.succ_mul]; exact Bp _ hhi
 have hUl : U < D := by omega
 have hus : u * 2 ^ s < 18446744073709551616 := Bb (Bi (Nat.le_add_right _ _) hhis) hy1
 have hus2 : u * 2 ^ s + lo / 2 ^ (64 - s) < 18446744073709551616 := by rw [← hU]; omega
 have hNl : N < 18446744073709551616 := by rw [hN]; exact Aq _ (by decide)
 replace hps : Keep (2 ^ (64 - s) * 2 ^ s = 18446744073709551616) := hps
 replace hN : Keep (N = lo * 2 ^ s % 18446744073709551616) := hN
 obtain ⟨y1, hdy1⟩ : ∃ q, q = D / 4294967296 := ⟨_, rfl⟩
 obtain ⟨y0, hdy0⟩ : ∃ q, q = D % 4294967296 := ⟨_, rfl⟩
 obtain ⟨n1, hdn1⟩ : ∃ q, q = N / 4294967296 := ⟨_, rfl⟩
 obtain ⟨n0, hdn0⟩ : ∃ q, q = N % 4294967296 := ⟨_, rfl⟩
 have hDe : y1 * 4294967296 + y0 = D := by omega
 have hNe : n1 * 4294967296 + n0 = N := by rw [hdn1, hdn0, Ao]; exact Bl N 4294967296
 have hy0l : y0 < 4294967296 := by omega
 have hn1l : n1 < 4294967296 := by omega
 have hn0l : n0 < 4294967296 := by omega
 have hy1l : 2147483648 ≤ y1 := by omega
 have hy1u : y1 < 4294967296 := by omega
 refine En [] [(0, .int .u64 (u : Int)), (1, .int .u64 (lo : Int)), (2, .int .u64 (y : Int))] Tryz.func281 I Tryz.ntmps281 I (Ac I (Ac I (Ac I (An _)))) Fn (Cs (Ka I (FM ?_))); refine Yi I (Nt (Cd I (fun hc20 => by exfalso; (try simp only [sB] at hc20); omega) (fun hc20 => ?_)))
 (try simp only [sB] at hc20)
 refine GO ?_; refine Km I (Ym I (Nt (HS (fun hc24 => ?_))))
 (try simp only [sB] at hc24)
 refine GO ?_; refine Yi I (Nt (Ci I (fun hc27 => ?_) (fun hc27 => ?_)))
 ·obtain rfl : u = 0 := by omega
  rw [B8, A3]
  have hdl := Cz lo y
  refine Cq (Cf [0, 1, 2, 3, 4, 5, 6, 7] [] [0, 0, 0, 0, 0, 0, 0, 0] (by kernel_rfl) (by kernel_rfl) I ?_)
  refine Ft ?_
  refine Kj I (iH I I I ?_) ?_
  ·omega
  refine Ft ?_
  refine Kj I (fB I I I ?_) ?_
  ·assumption
  refine GR ?_; refine GR ?_
  refine WJ.nil ?_
  refine Nt (Ce (Xb ?_))
  exact IF
 ·refine Ck (Xa (Cs (Km I (Kc I (fun w hS => AU (x := y) (by assumption)) (Kq I (oL I I u3 CR (by omega)) (Ns 36 I (v' := .int .u64 ((s : Nat) : Int)) (congrArg (Value.int .u64) (by omega)) (FN ?_))))))); refine Km I (Kq I (fA I I I (by (show _ ≤ 64; omega)) (by omega)) ?_)
  refine Ns 39 I (v' := .int .u64 ((D : Nat) : Int)) (congrArg (Value.int .u64) (by rw [hD])) ?_
  refine FN ?_; refine HE ?_
  refine Ns 41 I (v' := .int .u64 ((y1 : Nat) : Int)) (congrArg (Value.int .u64) (by rw [hdy1])) ?_
  refine Ka I (Nt (Cs (Km I (Kq I (dT 32 I I I (by decide) ?_) ?_))))
  ·omega
  refine Ns 43 I (v' := .int .u64 ((y0 : Nat) : Int)) (congrArg (Value.int .u64) (by rw [hdy0])) ?_
  refine FN ?_; refine Km I (Kq I (fA I I I (by (show _ ≤ 64; omega)) (by exact hus)) ?_)
  refine Km I (Km I (Kq I (iG (a := 64) I I I (by omega)) ?_))
  refine Kq I (bQ I I I (by (show _ ≤ 64; omega))) ?_
  refine Kq I (kX s I I I ?_) ?_
  ·exact ⟨Nat.mul_mod_left _ _, hus, hlos, by omega⟩
  refine Ns 51 I (v' := .int .u64 ((U : Nat) : Int)) (congrArg (Value.int .u64) (by rw [hU])) ?_
  refine FN ?_; refine Km I (Kq I (xn I I I (by (show _ ≤ 64; omega))) ?_)
  refine Ns 54 I (v' := .int .u64 ((N : Nat) : Int)) (congrArg (Value.int .u64) (by exact congrArg _ hN.symm)) ?_
  refine FN ?_; refine HE ?_
  refine Ns 56 I (v' := .int .u64 ((n1 : Nat) : Int)) (congrArg (Value.int .u64) (by rw [hdn1])) ?_
  refine Ka I (Nt (Cs (Km I (Kq I (dT 32 I I I (by decide) ?_) ?_))))
  ·omega
  refine Ns 58 I (v' := .int .u64 ((n0 : Nat) : Int)) (congrArg (Value.int .u64) (by rw [hdn0])) ?_
  refine Ka I (Nt (Cs (Km I (Km I (Kq I (iH I I I ?_) ?_)))))
  ·omega
  refine FN ?_; refine Km I (Km I (Kq I (bY I I I (by have h1 := D6 U y1; omega)) ?_))
  refine Kq I (iG I I I (by have h1 := D6 U y1; omega)) ?_
  refine Ns 66 I (v' := .int .u64 ((U % y1 : Nat) : Int)) (congrArg (Value.int .u64) (by have h1 := Bl U y1; rw [Ao] at h1; omega)) ?_
  refine Ka I (Nt (WC.joinP (σ := Unit) [(2, _), (8, _), (9, _), (10, _), (11, _), (13, _), (14, _)] (fun gq => [(15, .int .u64 (((U * 4294967296 + n1) / D : Nat) : Int))]) (fun gq => True) (S7 I I I I I I I) ?_ ?_))
  ·skip
   refine Cb (Lp (σ := Nat × Nat) [(2, _), (8, _), (9, _), (10, _), (11, _), (13, _), (14, _)] (fun gq => [(15, .int .u64 (gq.1 : Int)), (16, .int .u64 (gq.2 : Int))]) (fun gq => U = gq.1 * y1 + gq.2 ∧ (U * 4294967296 + n1) / D ≤ gq.1 ∧ gq.2 < 4294967296 ∧ gq.1 ≤ 8589934591) (fun gq => gq.1) (U / y1, U % y1) (S7 I I I I I I I) (S2 I I) (by (try dsimp only); exact ⟨by rw [Ao]; exact (Bl U y1).symm, by rw [← hDe]; exact rj hn1l (by omega), C9 (Aq _ (by omega)) hy1u, ul (by omega) hy1l⟩) ?_); rintro ⟨q, rh⟩ hinv1; (try dsimp only at hinv1 ⊢); obtain ⟨hi1, hi2, hi3, hi4⟩ := hinv1; refine Cq (WC.joinP (σ := Unit) [(2, _), (8, _), (9, _), (10, _), (11, _), (13, _), (14, _), (15, _), (16, _)] (fun gq => [(78, .bool (decide (4294967296 ≤ q ∨ 4294967296 * rh + n1 < q * y0)))]) (fun gq => True) (S9 I I I I I I I I I) ?_ ?_)
   ·skip
    refine Cg (Km I (Yh I (Km I (Nc 69 I (fun hg69 => ?_) (fun hg69 => ?_)))))
    ·refine T4 I (T4 I (Yp I (Nn (WX.joinP (()) (S9 I I I I I I I I I) (by refine (Sc ?_ (S0 _)) <;> ((exact congrArg (fun b => some (Value.bool b)) (by symm; apply Az; omega)))) ?_ (fun _ h => h))))); (try dsimp only); done
    ·refine Km I (Km I (Kq I (bY I I I (by exact uz (by omega) hy0l)) ?_)); refine Km I (Kq I (bY (a := 4294967296) I I I (by omega)) (Km I (Kq I (cJ I I I (by omega)) (Yg I (Yq I (Nn (WX.joinP (()) (S9 I I I I I I I I I) (by refine (Sc ?_ (S0 _)) <;> ((refine ao rfl ?_; (try dsimp only); (exact Ak.2 (by omega))))) ?_ (fun _ h => h)))))))); (try dsimp only); done
   ·rintro _ hmeet; (try dsimp only at hmeet ⊢); refine Ci I (fun hc78 => ?_) (fun hc78 => ?_)
    ·rw [← hDe] at hi2; obtain ⟨hm1, hm2⟩ := ri hn1l (by rw [hDe]; exact hUl) hi1 hi2 hc78; have hi5 : U = (q - 1) * y1 + (rh + y1) := by rw [hi1, Nat.sub_mul, Cn]; have := Nat.le_mul_of_pos_left y1 hm1; omega
     rw [hDe] at hi2 hm2; refine Ck (Xa (Cb (Cs (Km I (Kq I (iG (c := 1) I I I (by omega)) (FN ?_)))))); refine Km I (Kq I (cJ I I I (by omega)) (FN ?_)); refine Hg (fun hc85 => ?_) (fun hc85 => ?_)
     ·have hqe : q - 1 = (U * 4294967296 + n1) / D := by
       rw [← hDe] at hm2 ⊢; exact kn (by omega) hi5 hm2 (pd (by omega) hy0l (by rw [hDe]; exact hUl) hi5 (by omega)).2
      rw [hqe]; refine Cx ?_; refine WX.block_other I ?_; refine Xc (Xe (WX.joinP (()) (S7 I I I I I I I) (by refine (Sc ?_ (S0 _)) <;> (rfl)) ?_ (fun _ h => h))); (try dsimp only); done
     ·refine Ck (Xd (Ly ((q - 1, rh + y1)) (by (try dsimp only); omega) (S7 I I I I I I I) (by refine (Sc ?_ (Sc ?_ (S0 _))) <;> (rfl)) ?_ (fun _ h => h))); (try dsimp only); exact ⟨hi5, hm2, by omega, by omega⟩
    ·have hqe : q = (U * 4294967296 + n1) / D := by rw [← hDe] at hi2 ⊢; exact kn (by omega) hi1 hi2 (by omega)
     subst hqe; refine Cx (Xc (Xc (Xe ?_))); refine WX.joinP (()) (S7 I I I I I I I) (by refine (Sc ?_ (S0 _)) <;> (rfl)) ?_ (fun _ h => h); (try dsimp only); done
  ·rintro _ hmeet; (try dsimp only at hmeet ⊢); obtain ⟨Q1, hQ1⟩ : ∃ q, q = (U * 4294967296 + n1) / D := ⟨_, rfl⟩; obtain ⟨V, hV⟩ : ∃ q, q = (U * 4294967296 + n1) % D := ⟨_, rfl⟩; have hUV : U * 4294967296 + n1 = Q1 * D + V := by rw [hQ1, hV, Ao _ D]; exact (Bl _ _).symm
   have hVl : V < D := by rw [hV]; exact Aq _ (by omega)
   have hQ1l : Q1 < 4294967296 := by rw [hQ1, ← hDe]; exact vD hn1l (by omega)
   rw [← hQ1]; refine Cs (Km I (Kq I (iI (c := 4294967296) I I I) (Km I (Kq I (cJ I I I (by omega)) (Km I (Km I (Kq I (iI I I I) (Kq I (kS I I I) (Ns 93 I (v' := .int .u64 ((V : Nat) : Int)) (congrArg (Value.int .u64) (by exact tk hUV hn1l (by omega))) ?_))))))))); refine Ka I (Nt (Cs (Km I (Km I (Kq I (iH I I I ?_) ?_)))))
   ·omega
   refine FN ?_; refine Km I (Km I (Kq I (bY I I I (by have h1 := D6 V y1; omega)) ?_)); refine Kq I (iG I I I (by have h1 := D6 V y1; omega)) ?_; refine Ns 101 I (v' := .int .u64 ((V % y1 : Nat) : Int)) (congrArg (Value.int .u64) (by have h1 := Bl V y1; rw [Ao] at h1; omega)) ?_; refine Ka I (Nt (WC.joinP (σ := Unit) [(2, _), (8, _), (14, _), (15, _), (17, _)] (fun gq => [(18, .int .u64 (((V * 4294967296 + n0) / D : Nat) : Int))]) (fun gq => True) (S5 I I I I I) ?_ ?_))
   ·skip
    refine Cb (Lp (σ := Nat × Nat) [(2, _), (8, _), (9, _), (10, _), (14, _), (15, _), (17, _)] (fun gq => [(18, .int .u64 (gq.1 : Int)), (16, .int .u64 (gq.2 : Int))]) (fun gq => V = gq.1 * y1 + gq.2 ∧ (V * 4294967296 + n0) / D ≤ gq.1 ∧ gq.2 < 4294967296 ∧ gq.1 ≤ 8589934591) (fun gq => gq.1) (V / y1, V % y1) (S7 I I I I I I I) (S2 I I) (by (try dsimp only); exact ⟨by rw [Ao]; exact (Bl V y1).symm, by rw [← hDe]; exact rj hn0l (by omega), C9 (Aq _ (by omega)) hy1u, ul (by omega) hy1l⟩) ?_); rintro ⟨q, rh⟩ hinv2; (try dsimp only at hinv2 ⊢); obtain ⟨hi1, hi2, hi3, hi4⟩ := hinv2; refine Cq (WC.joinP (σ := Unit) [(2, _), (8, _), (9, _), (10, _), (14, _), (15, _), (16, _), (17, _), (18, _)] (fun gq => [(113, .bool (decide (4294967296 ≤ q ∨ 4294967296 * rh + n0 < q * y0)))]) (fun gq => True) (S9 I I I I I I I I I) ?_ ?_)
    ·skip
     refine Cg (Km I (Yh I (Km I (Nc 104 I (fun hg104 => ?_) (fun hg104 => ?_)))))
     ·refine T4 I (T4 I (Yp I (Nn (WX.joinP (()) (S9 I I I I I I I I I) (by refine (Sc ?_ (S0 _)) <;> ((exact congrArg (fun b => some (Value.bool b)) (by symm; apply Az; omega)))) ?_ (fun _ h => h))))); (try dsimp only); done
     ·refine Km I (Km I (Kq I (bY I I I (by exact uz (by omega) hy0l)) ?_)); refine Km I (Kq I (bY (a := 4294967296) I I I (by omega)) (Km I (Kq I (cJ I I I (by omega)) (Yg I (Yq I (Nn (WX.joinP (()) (S9 I I I I I I I I I) (by refine (Sc ?_ (S0 _)) <;> ((refine ao rfl ?_; (try dsimp only); (exact Ak.2 (by omega))))) ?_ (fun _ h => h)))))))); (try dsimp only); done
    ·rintro _ hmeet; (try dsimp only at hmeet ⊢); refine Ci I (fun hc113 => ?_) (fun hc113 => ?_)
     ·rw [← hDe] at hi2; obtain ⟨hm1, hm2⟩ := ri hn0l (by rw [hDe]; exact hVl) hi1 hi2 hc113; have hi5 : V = (q - 1) * y1 + (rh + y1) := by rw [hi1, Nat.sub_mul, Cn]; have := Nat.le_mul_of_pos_left y1 hm1; omega
      rw [hDe] at hi2 hm2; refine Ck (Xa (Cb (Cs (Km I (Kq I (iG (c := 1) I I I (by omega)) (FN ?_)))))); refine Km I (Kq I (cJ I I I (by omega)) (FN ?_)); refine Hg (fun hc120 => ?_) (fun hc120 => ?_)
      ·have hqe : q - 1 = (V * 4294967296 + n0) / D := by
        rw [← hDe] at hm2 ⊢; exact kn (by omega) hi5 hm2 (pd (by omega) hy0l (by rw [hDe]; exact hVl) hi5 (by omega)).2
       rw [hqe]; refine Cx ?_; refine WX.block_other I ?_; refine Xc (Xe (WX.joinP (()) (S5 I I I I I) (by refine (Sc ?_ (S0 _)) <;> (rfl)) ?_ (fun _ h => h))); (try dsimp only); done
      ·refine Ck (Xd (Ly ((q - 1, rh + y1)) (by (try dsimp only); omega) (S7 I I I I I I I) (by refine (Sc ?_ (Sc ?_ (S0 _))) <;> (rfl)) ?_ (fun _ h => h))); (try dsimp only); exact ⟨hi5, hm2, by omega, by omega⟩
     ·have hqe : q = (V * 4294967296 + n0) / D := by rw [← hDe] at hi2 ⊢; exact kn (by omega) hi1 hi2 (by omega)
      subst hqe; refine Cx (Xc (Xc (Xe ?_))); refine WX.joinP (()) (S5 I I I I I) (by refine (Sc ?_ (S0 _)) <;> (rfl)) ?_ (fun _ h => h); (try dsimp only); done
   ·rintro _ hmeet; (try dsimp only at hmeet ⊢); obtain ⟨Q0, hQ0⟩ : ∃ q, q = (V * 4294967296 + n0) / D := ⟨_, rfl⟩; obtain ⟨W, hW⟩ : ∃ q, q = (V * 4294967296 + n0) % D := ⟨_, rfl⟩; have hVW : V * 4294967296 + n0 = Q0 * D + W := by rw [hQ0, hW, Ao _ D]; exact (Bl _ _).symm
    have hWl : W < D := by rw [hW]; exact Aq _ (by omega)
    have hQ0l : Q0 < 4294967296 := by rw [hQ0, ← hDe]; exact vD hn0l (by omega)
    rw [← hQ0]; have hfin := pY hsh hD hNe hUV hVW hWl; refine Cs (Km I (Kq I (bY (c := 4294967296) I I I (by omega)) (Km I (Kq I (cJ I I I (by omega)) (Km I (Kq I (iI (c := 4294967296) I I I) (Km I (Kq I (cJ I I I (by omega)) (Km I (Km I (Kq I (iI I I I) (Kq I (kS I I I) (Ns 132 I (v' := .int .u64 ((W : Nat) : Int)) (congrArg (Value.int .u64) (by exact tk hVW hn0l (by omega))) ?_))))))))))))); refine Km I (Kq I (bQ I I I (by show s ≤ 64; omega)) ?_); refine Ns 134 I (v' := .int .u64 ((W / 2 ^ s : Nat) : Int)) (congrArg (Value.int .u64) (by rfl)) ?_; refine Ka I (le ?_); exact R2 I I I (by rw [hfin.1, hfin.2]; rfl)
theorem w6 {u lo y : Nat} {w : World} (h0 : 0 < y) (hhi : u < 18446744073709551616) (hlo : lo < 18446744073709551616) (hy : y < 18446744073709551616) :
  Cw 239 #[.int .u64 (u : Int), .int .u64 (lo : Int), .int .u64 (y : Int)] w (.int .u64 (((u * 18446744073709551616 + lo) % y : Nat) : Int)) := by
 have hm := Aq u h0
 refine En [] [(0, .int .u64 (u : Int)), (1, .int .u64 (lo : Int)), (2, .int .u64 (y : Int))] Tryz.func239 I Tryz.ntmps239 I (Ac I (Ac I (Ac I (An _)))) Fn (Cs (Ka I (Nt (Cs (Km I (Km I (Kq I (fB I I I ?_) ?_)))))))
 ·assumption
 refine Km I (Km I (Kc I (fun w hS => yq (u := u % y) (lo := lo) (y := y) (by assumption) (by assumption) (by assumption)) (Fs ?_))); refine Cs (Km I (le ?_))
 exact R1 I I (by rw [show (u % y * 18446744073709551616 + lo) % y = (u * 18446744073709551616 + lo) % y by rw [Nat.add_mod, Nat.mod_mul_mod, ← Nat.add_mod]]; rfl)
section
variable {ds : List Deferred} {ρ : Option Nat} {P : Program} {o : Oper} {n : Nat} {L : an} {ok : Nat → Prop} {w0 : World} {own : List Ent} {fs : List Fact} {x y : Operand} {t e : TypeId} {sz : Nat} {xs : List Value}
theorem mD {w : World} {ad : Option Addr} {xs : List Value} (h : (Fact.sl ad xs).holds (fun _ => True) w) (hx : 0 < xs.length) : ∃ b, ad = some b ∧ ∀ j v, xs[j]? = some v → w.cell? (b.add j) = some v := by
 rcases h with h0 | ⟨b, off, cells, T', fz, e1, _, e3, e4⟩
 ·subst h0; simp at hx
 ·exact ⟨⟨b, off, none⟩, e1, fun j v hq => by
   have hlt : j < xs.length := (Ap.1 hq).1
   rw [Addr.add_lit]; simp [World.cell?, e3, e4 j hlt, hq]⟩
theorem y7 {len m c : Nat} {adx ad : Option Addr} {news : List Value} {zv : Value} (hop : o.op = .call { callee := .builtin .append, args := #[x, y], argTypes := #[t, t] }) (hu : P.underlying t = some (.slice e)) (hi : (P.info? e).map (fun i => (i.zero, i.size, i.bytes)) = some (some zv, 1, sz)) (h1 : zv.cells = #[zv])
  (hx : ai L x = some (.slice adx len len)) (hy : ai L y = some (.slice ad m c)) [hf : HasF fs adx xs] (hsrc : ∀ w, St ok w0 own fs w → (Fact.sl ad news).holds (fun _ => True) w) (hm : news.length = m)
  (hb : xs.length = len ∧ 0 < len ∧ 0 < m ∧ len + m ≤ 9223372036854775807 ∧ (len + m) * sz ≤ 140737488355328) :
  Og ds P o n L (St ok w0 own fs) (fun g : Gr => .slice (g.ob.map fun b => ⟨b, 0, none⟩) (len + m) g.cap) (fun g w => (g.cap = len + m + g.sp.length ∧ g.ob.isSome = true) ∧ St ok w0 (⟨g.ob, (xs ++ news) ++ g.sp, e⟩ :: own) fs w) :=
 cB fun a hF w hS => by
  obtain ⟨hxl, hl0, hm0, h63, hbb⟩ := hb
  obtain ⟨i', hi', hz, hs, hbb'⟩ := info_parts hi
  obtain ⟨bx, rfl, hcx⟩ := mD (hS.sl (a := adx)) (by omega)
  obtain ⟨by', rfl, hcy⟩ := mD (hsrc w hS) (by omega)
  have zlen : ∀ q, (Builtin.zeroCells zv.cells q).toList = List.replicate q zv := fun q => by rw [h1]; exact iy zv q
  have hrun := run_append_grow (P := P) w t o.type e i' zv hu hi' hz bx len len xs (by rw [hs]; omega) hcx by' m c news (by rw [hs]; omega) hcy (by omega) (by omega) (by rw [hbb']; exact growslice_fits (by omega) hbb)
  have hge := grownCap_ge w (len + m) len e
  refine ⟨⟨some w.heap.size, grownCap w (len + m) len e, List.replicate (grownCap w (len + m) len e - (len + m)) zv⟩, (w.drew.alloc (.cells (xs.toArray ++ news.toArray ++ Builtin.zeroCells zv.cells (grownCap w (len + m) len e - (len + m))) e)), .inl ?_, ?_, ?_⟩
  ·simp [execOp, hop, resolve, invoke, builtin, hF.eval hx, hF.eval hy, hrun]
  ·exact ⟨by simp; omega, rfl⟩
  ·have := hS.draw.alloc ((xs ++ news) ++ List.replicate (grownCap w (len + m) len e - (len + m)) zv) e
   have e1 : (xs.toArray ++ news.toArray ++ Builtin.zeroCells zv.cells (grownCap w (len + m) len e - (len + m))) = ((xs ++ news) ++ List.replicate (grownCap w (len + m) len e - (len + m)) zv).toArray := by
    apply Array.ext'; simp [zlen]
   rw [e1]; exact this
end
def cY (l ms : List Bs) : Int := if ∀ x ∈ l ++ ms, okN x then (if [] ∈ ms then 11 else 0) else 3
theorem aj {α : Type} [Inhabited α] (l : List α) (i : Nat) (h : i < l.length) : l.getD i default ∈ l := by
 rw [List.getD_eq_getElem?_getD, Ad h]; exact List.getElem_mem h
theorem ax {α : Type} [Inhabited α] {p : α → Prop} {l : List α} {i : Nat} (h : i < l.length) (ht : ∀ x ∈ l.take i, p x) (hx : p (l.getD i default)) : ∀ x ∈ l.take (i + 1), p x := by
 intro x hm
 rw [Bv, Ad h] at hm
 rcases Bx.1 hm with h1 | h1
 ·exact ht x h1
 ·simp at h1; subst h1
  rwa [List.getD_eq_getElem?_getD, Ad h] at hx
theorem tG (a b : List Bs) : am a ++ am b = am (a ++ b) := by simp [am]
theorem jf {l ms : List Bs} {a b : Option Addr} {c : Nat} {w : World} {ok : Nat → Prop} (hF1 : (Fact.sl a (am l)).holds ok w) (hF2 : (Fact.sl b (am ms)).holds ok w) (hl : l.length ≤ 1000) (hms : ms.length ≤ 1000) (hl0 : 0 < l.length) (hms0 : 0 < ms.length) :
  Cw 179 #[.slice a l.length l.length, .slice b ms.length c] w (.int .i64 (cY l ms)) := by
 refine En [Fact.sl a (am l), Fact.sl b (am ms)] [(0, .slice a l.length l.length), (1, .slice b ms.length c)] Tryz.func179 I Tryz.ntmps179 I (Ac I (Ac I (An _))) (Fc (af hF1) (Fc (af hF2) Fn)) (Cs (Ka I (Nt (Cq (Cs (Km I (Km I (Kh I (y7 I u33 (by kernel_rfl : _ = some (some (.string (S [])), 1, 16)) I I I (fun w hS => by (exact hS.sl)) (by simp) ?_) ?_))))))))
 ·(refine ⟨?_, ?_, ?_, ?_, ?_⟩ <;> (try simp) <;> omega)
 rintro ⟨o11, c11, s11⟩
 refine WL.pu ?_
 intro hg11; (try dsimp only at hg11 ⊢)
 rw [tG]
 refine HT ?_; refine Lp (σ := Nat) [(1, _), (11, _), (12, _)] (fun gq => [(13, .int .i64 (gq : Int))]) (fun gq => gq ≤ (l ++ ms).length ∧ ∀ x ∈ (l ++ ms).take gq, okN x) (fun gq => (l ++ ms).length - gq) (0) (S3 I I I) (S1 I) (by (try dsimp only); exact ⟨Af _, by simp⟩) ?_
 rintro i hinv1; (try dsimp only at hinv1 ⊢)
 obtain ⟨hi, hok⟩ := hinv1
 refine ne (fun hc14 => ?_) (fun hc14 => ?_)
 ·have hil : i < (l ++ ms).length := by (rw [Al]; omega)
  refine FO ?_; refine Kq I (iao I I I u33 (by kernel_rfl : _ = some 1) (by omega) (by (simp <;> omega)) (by (try simp only [sN, Int.reduceToNat, Nat.reduceAdd, Nat.reduceMul, Nat.reduceSub]); rfl)) ?_
  refine Kq I (Fe I I u22 I (by assumption)) (FN ?_); refine Kc I (fun w hS => ay (a := (l ++ ms).getD i default)) (Gs (fun hc19 => ?_) (fun hc19 => ?_))
  ·refine Cs (le ?_); refine FE ?_; exact R1 I I (by rw [cY, Aa (fun h => absurd (h _ (aj _ _ hil)) (by simpa using hc19))]; rfl)
  ·refine Ck (Xd (Xa (Cg (Kq I (Rz I I I (by omega)) (Km I (Nn (Ly (i + 1) (by rw [Al] at hil ⊢; omega) (S3 I I I) (by refine (Sc ?_ (S0 _)) <;> (rfl)) ?_ (fun _ h => h)))))))); (try dsimp only); exact ⟨hil, ax hil hok (by simpa using hc19)⟩
 ·refine Fq ?_
  have hall : ∀ x ∈ l ++ ms, okN x := by
   have e : i = (l ++ ms).length := by rw [Al] at hi ⊢; omega
   subst e; rw [Ai] at hok; exact hok
  refine Xa (Cq (Cs (Km I (HT ?_)))); refine Lp (σ := Nat) [(21, _), (22, _)] (fun gq => [(23, .int .i64 (gq : Int))]) (fun gq => gq ≤ ms.length ∧ ∀ x ∈ ms.take gq, x ≠ []) (fun gq => ms.length - gq) (0) (S2 I I) (S1 I) (by (try dsimp only); exact ⟨Af _, by simp⟩) ?_
  rintro i2 hinv2; (try dsimp only at hinv2 ⊢)
  obtain ⟨hi2, hne⟩ := hinv2
  refine ne (fun hc24 => ?_) (fun hc24 => ?_)
  ·have hil2 : i2 < ms.length := by omega
   refine FO ?_; refine FW ?_; refine GA ?_; refine FN ?_; refine Hh (fun hc28 => ?_) (fun hc28 => ?_)
   ·have hmem : [] ∈ ms := by
     have e : ms.getD i2 default = [] := by simpa using hc28
     rw [← e]; exact aj _ _ hil2
    refine Cs (le ?_); refine FE ?_; exact R1 I I (by rw [cY, Ae hall, Ae hmem]; rfl)
   ·refine Ck (Xd (Xa (Cg (Kq I (Rz I I I (by omega)) (Km I (Nn (Ly (i2 + 1) (by (try dsimp only); omega) (S2 I I) (by refine (Sc ?_ (S0 _)) <;> (rfl)) ?_ (fun _ h => h)))))))); (try dsimp only); exact ⟨hil2, ax hil2 hne (by simpa using hc28)⟩
  ·refine Fq ?_; obtain rfl : i2 = ms.length := by omega
   rw [Ai] at hne; refine Xa (Cs (le ?_)); exact R1 I I (by rw [cY, Ae hall, Aa (fun h => hne _ h rfl)]; rfl)
theorem vL {l ms : List Bs} (h : cY l ms = 0) : (∀ x ∈ l ++ ms, okN x) ∧ [] ∉ ms := by
 unfold cY at h
 split at h
 ·rename_i h1
  split at h
  ·simp at h
  ·rename_i h2; exact ⟨h1, h2⟩
 ·simp at h
theorem lF {l ms : List Bs} (h : ∀ x ∈ l ++ ms, okN x) (h2 : [] ∉ ms) : cY l ms = 0 := by rw [cY, Ae h, Aa h2]
theorem iz {m : Bs} (h : okN m) (h0 : m ≠ []) : 0 < val m := Dm fun e => h0 ((aM h.2).1 e)
theorem di {a m : Bs} {w : World} (ha : okN a) (hm : okN m) (hm0 : m ≠ []) :
  Cw 182 #[.string (S a), .string (S m)] w (.string (S (ae (val a % val m)))) := by
 refine En [] [(0, .string (S a)), (1, .string (S m))] Tryz.func182 I Tryz.ntmps182 I (Ac I (Ac I (An _))) Fn (Cs (FN ?_)); refine Km I (Kc I (fun w hS => (by have := fe (w := w) (a := a) (b := m); rw [fM ha hm hm0] at this; exact this)) (GV ?_)); refine FN ?_; refine le ?_
 exact Iq
theorem fY {a : Bs} (h : okN a) (h8 : a.length ≤ 8) : bv a = (val a, true) := by rw [bv, Ae ⟨h, h8⟩]
theorem tD (x y z : Nat) : (x % z * (y % z) / 18446744073709551616 * 18446744073709551616 + x % z * (y % z) % 18446744073709551616) % z = x * y % z := by
 rw [Ao (_ / _), Bl, ← Dx]
theorem ni {a b m : Bs} {w : World} (ha : okN a) (hb : okN b) (hm : okN m) (hm0 : m ≠ []) (ha8 : a.length ≤ 8) (hb8 : b.length ≤ 8) (hm8 : m.length ≤ 8) :
  Cw 180 #[.string (S a), .string (S b), .string (S m)] w (.string (S (ae (val a * val b % val m)))) := by
 have hp := iz hm hm0
 have ha64 := eS ha8; have hb64 := eS hb8; have hm64 := eS hm8
 have h1 := Aq (val a) hp; have h2 := Aq (val b) hp; have h3 := Aq (val a * val b) hp
 have hml : val a % val m * (val b % val m) < 18446744073709551616 * 18446744073709551616 := De (by omega) (by omega)
 have hhi : val a % val m * (val b % val m) / 18446744073709551616 < 18446744073709551616 := by rw [Co (by decide)]; exact hml
 have hlo : val a % val m * (val b % val m) % 18446744073709551616 < 18446744073709551616 := Aq _ (by decide)
 refine En [] [(0, .string (S a)), (1, .string (S b)), (2, .string (S m))] Tryz.func180 I Tryz.ntmps180 I (Ac I (Ac I (Ac I (An _)))) Fn (Cs (FM ?_)); refine Yn I u22 (Ym I (Ns 17 I (v' := .bool true) (by rw [Az (by omega)]) ?_))
 refine Km I (Km I (Yn I u22 (Ym I (Ns 21 I (v' := .bool true) (by rw [Az (by omega)]) ?_))))
 refine Yp I (Km I (Km I (Yn I u22 (Ym I (Ns 26 I (v' := .bool true) (by rw [Az (by omega)]) ?_)))))
 refine Yp I (Nt (Cd I (fun _ => ?_) (fun h => by cases h)))
 refine Cs (Km I (Kc I (fun w hS => (by have := fu (w := w) (a := a) (by omega); rw [fY ha ha8] at this; exact this)) (Fs ?_))); refine Cs (Km I (Kc I (fun w hS => (by have := fu (w := w) (a := b) (by omega); rw [fY hb hb8] at this; exact this)) (Fs ?_))); refine Cs (Km I (Kc I (fun w hS => (by have := fu (w := w) (a := m) (by omega); rw [fY hm hm8] at this; exact this)) (Fs ?_))); refine Cq (Cf [0, 1, 2, 3, 4, 5, 6, 7, 8, 9, 10, 11] [] [0, 0, 0, 0, 0, 0, 1, 0, 0, 0, 0, 0] (by kernel_rfl) (by kernel_rfl) I ?_)
 refine Ft ?_
 refine Kj I (fB I I I ?_) ?_
 ·assumption
 refine Ft ?_
 refine Kj I (fB I I I ?_) ?_
 ·assumption
 refine Jv I I I I I (fun ext => Oc I I (Kv fun w hS => qN (x := val a % val m) (y := val b % val m) (by omega) (by omega))) ?_
 refine Gd ?_
 refine WJ.nil ?_
 refine Nt (Hd ?_); refine Km I (Kc I (fun w hS => w6 (u := val a % val m * (val b % val m) / 18446744073709551616) (lo := val a % val m * (val b % val m) % 18446744073709551616) (y := val m) (by assumption) (by assumption) (by assumption) (by assumption)) (Ns 56 I (v' := .int .u64 ((val a * val b % val m : Nat) : Int)) (congrArg (Value.int .u64) (by rw [tD])) ?_))
 refine Kc I (fun w hS => fU (n := val a * val b % val m) (by omega)) (le ?_); refine Xb ?_
 exact Iq
def lV (a b m : Bs) : Bs × Int := if cY [a, b] [m] = 0 then (ae (val a * val b % val m), 0) else ([], cY [a, b] [m])
theorem CA {a b m : Bs} (h : cY [a, b] [m] = 0) : okN a ∧ okN b ∧ okN m ∧ m ≠ [] := by
 obtain ⟨h1, h2⟩ := vL h
 exact ⟨h1 a (by simp), h1 b (by simp), h1 m (by simp), fun e => h2 (by simp [e])⟩
theorem nI {a b m : Bs} {w : World} (ha8 : a.length ≤ 8) (hb8 : b.length ≤ 8) (hm8 : m.length ≤ 8) :
  Cw 95 #[.string (S a), .string (S b), .string (S m)] w (NE (lV a b m)) := by
 refine En [] [(0, .string (S a)), (1, .string (S b)), (2, .string (S m))] Tryz.func95 I Tryz.ntmps95 I (Ac I (Ac I (Ac I (An _)))) Fn (Cs (Ka I (Ka I (Nt (Cq (Cs (Km I (Km I (Kh I (aN I I u33 (by kernel_rfl : _ = some (some (.string (S [])), 1, 16)) I (by simp only [List.map]; rfl) I I ?_ (by decide)) ?_)))))))))
 ·simp [Value.cells]
 intro b11
 refine Km I (Kh I (aN I I u33 (by kernel_rfl : _ = some (some (.string (S [])), 1, 16)) I (by simp only [List.map]; rfl) I I ?_ (by decide)) ?_)
 ·simp [Value.cells]
 intro b13
 refine GH ?_; refine Ka I (Nt (Fz (fun hc16 => ?_) (fun hc16 => ?_)))
 ·have hr : lV a b m = ([], cY [a, b] [m]) := by rw [lV, Aa (by simpa using hc16)]
  refine H7 ?_; refine le ?_; refine Xb ?_
  exact Ix
 ·have h0 : cY [a, b] [m] = 0 := by simpa using hc16
  have hr : lV a b m = (ae (val a * val b % val m), 0) := by rw [lV, Ae h0]
  obtain ⟨ha, hb, hm, hm0⟩ := CA h0
  refine GG ?_; refine Km I (Kc I (fun w hS => ni (a := a) (b := b) (m := m) (by exact ha) (by exact hb) (by exact hm) (by exact hm0) (by exact ha8) (by exact hb8) (by exact hm8)) (Ka I (le ?_)))
  exact Ix
def itD {σ : Type} (x : Bs) (after : σ → Bool → σ) : Nat → σ → σ
 | 0, s => s
 | n + 1, s => itD x after n (after s (lK x n))
theorem vC {x : Bs} {own0 : List Ent} {ok : Nat → Prop} {w0 : World} {fs : List Fact} {w : World} (hS0 : St ok w0 (own0) (fs) w) :
  Calls Tryz.prog 296 #[.string (S x)] w fun e w' => ∃ g : Nat, e = .returned (.func (.func 311) #[] #[.pointer (some ⟨g, 0, none⟩)]) ∧ St ok w0 (⟨some g, [.string (S x)], 22⟩ :: own0) fs w' := by
 refine enter (S := St ok w0 (own0) (fs)) (L := [(0, .string (S x))]) Tryz.func296 rfl Tryz.ntmps296 rfl (Ac rfl (An _)) hS0 ?_
 refine Eq ?_
 intro b1
 refine Ka I (Nt (Cs (Kq I (bM I I I) (le ?_))))
 exact Rn I (.tmp I .nil) fun w' hS => ⟨b1, rfl, hS⟩
theorem ED {σ γ : Type} {CO : σ → γ → List Ent} {pg : σ → γ → Prop} {inv : σ → Bool → Prop} {after : σ → Bool → σ} {stop : σ → Bool → Option Code} {l : Nat} {r : Loop} {ok : Nat → Prop} {w0 : World} {fs : List Fact} {w : World} {x : Bs} {b1 : Nat} {s0 : σ} [∀ s g, HasE (CO s g) b1 [.string (S x)] 22] {g0 : γ} (hY : YOk Tryz.prog l r ok w0 fs CO pg inv after stop (fun y : Bool => #[Value.bool y])) (hS0 : St ok w0 (CO s0 g0) (Fact.lp l (rcd r none) :: fs) w) (hg0 : pg s0 g0) (hx : okN x) (hinv : ∀ s y, inv s y) (hst : ∀ s y, stop s y = none) :
  Calls Tryz.prog 311 #[.func (.yield l) #[] #[], .pointer (some ⟨b1, 0, none⟩)] w fun e w' => (∃ v, e = .returned v) ∧ ∃ g', ((none : Option Code) = none → pg (itD x after (aL x) s0) g') ∧ St ok w0 (CO (itD x after (aL x) s0) g') (Fact.lp l (rcd r ((none : Option Code))) :: fs) w' := by
 have hbl := gA hx.1
 refine enter (S := St ok w0 (CO s0 g0) (Fact.lp l (rcd r none) :: fs)) (L := [(0, .func (.yield l) #[] #[]), (1, .pointer (some ⟨b1, 0, none⟩))]) Tryz.func311 rfl Tryz.ntmps311 rfl (Ac rfl (Ac rfl (An _))) hS0 ?_
 refine Cs (Gm ?_)
 refine Kc I (fun w hS => og (a := x)) (Ns 5 I (v' := .int .i64 ((aL x : Nat) : Int)) (congrArg (Value.int .i64) (by rw [Ae hx])) ?_)
 refine Hq ?_; refine Cb (Lo (σ := Nat × Int × σ × γ) [(0, _), (1, _)] (fun gq => [(3, .int .i64 gq.2.1)]) (fun gq => gq.1 ≤ aL x ∧ gq.2.1 = (gq.1 : Int) - 1 ∧ pg gq.2.2.1 gq.2.2.2 ∧ itD x after gq.1 gq.2.2.1 = itD x after (aL x) s0) (fun gq => gq.1) (fun gq => CO gq.2.2.1 gq.2.2.2) (fun gq => Fact.lp l (rcd r none) :: fs) (aL x, (aL x : Int) - 1, s0, g0) (S2 I I) (S1 I) (by (try dsimp only); exact ⟨Ba _, rfl, hg0, rfl⟩) (fun _ h => h) ?_)
 rintro ⟨n, j, s, g⟩ hinv1; (try dsimp only at hinv1 ⊢)
 obtain ⟨hn, hj, hgs, hi⟩ := hinv1
 refine Cq (Cs (Km I (Hg (fun hc8 => ?_) (fun hc8 => ?_))))
 ·obtain ⟨m, rfl⟩ : ∃ m, n = m + 1 := ⟨n - 1, by omega⟩
  refine WC.set 3 I (v' := .int .i64 ((m : Nat) : Int)) (by rw [hj]; congr 1; omega) ?_
  refine FO ?_; refine Km I (Gm ?_)
  refine Km I (Kc I (fun w hS => oh (a := x) (i := m) (by omega)) (Kh I (oR hY [] (lK x m) I I I I (hinv _ _) (hgs)) ?_))
  intro gy; refine WL.pu ?_; intro hgy; (refine WL.app0 ?_)
  refine Yt I (Nt (Cd I (fun hc16 => by exfalso; (try simp only [sB] at hc16); simp [hst] at hc16) (fun hc16 => ?_)))
  (try simp only [sB] at hc16)
  refine Ck (Xd (Xa (Cg (Km I (Kq I (aK I I I (by omega)) (Ka I (Nn ?_)))))))
  rw [hst]
  refine Lx ((m, (m : Int) - 1, after s (lK x m), gy)) (by (try dsimp only); omega) (S2 I I) (by refine (Sc ?_ (S0 _)) <;> (rfl)) ?_ (fun _ h => h)
  (try dsimp only)
  exact ⟨by omega, rfl, hgy (hst _ _), hi⟩
 ·refine Fq ?_
  obtain rfl : n = 0 := by omega
  have hfin : s = itD x after (aL x) s0 := hi
  refine WX.ret_normal ?_
  exact Rn I .nil fun w' hS => ⟨⟨_, rfl⟩, g, fun _ => hfin ▸ hgs, by rw [← hfin]; exact aq _ hS⟩
def lX (m a : Nat) (s : Bs) (y : Bool) : Bs := if y then ae (val (ae (val s * val s % m)) * a % m) else ae (val s * val s % m)
theorem qT {x : Bs} (hx : okN x) (m a : Nat) : ∀ n : Nat, itD x (lX m a) n (ae (a ^ (val x / 2 ^ n) % m)) = ae (a ^ val x % m)
 | 0 => by rw [itD, C6, Dy]
 | n + 1 => by
  rw [itD, show lX m a (ae (a ^ (val x / 2 ^ (n + 1)) % m)) (lK x n) = ae (a ^ (val x / 2 ^ n) % m) from ?_, qT hx m a n]
  rw [co hx, gB, lX, ah, ah]
  by_cases h : val x / 2 ^ n % 2 = 1
  ·rw [Az h, Ae rfl, mE h]
  ·rw [Aj h, Aa (by simp), mF (by omega)]
theorem xV {x : Bs} (hx : okN x) (m a : Nat) : itD x (lX m a) (aL x) (ae (1 % m)) = ae (a ^ val x % m) := by
 have := qT hx m a (aL x)
 rwa [Bo (fW x), C6] at this
theorem yi {m a : Nat} (hm : 0 < m) (hm8 : m ≤ 18446744073709551616) (s : Bs) (y : Bool) : val (lX m a s y) < m ∧ okN (lX m a s y) ∧ (lX m a s y).length ≤ 8 := by
 have key : ∀ k, k < m → val (ae k) < m ∧ okN (ae k) ∧ (ae k).length ≤ 8 := fun k hk => by
  have h8 : (ae k).length ≤ 8 := aX.2 (by show k < 18446744073709551616; omega)
  exact ⟨by rw [ah]; exact hk, ⟨by omega, bH _⟩, h8⟩
 rw [lX]; split <;> exact key _ (Aq _ hm)
def fR (a x m : Bs) : Bs × Int := if cY [a, x] [m] = 0 then (ae (val a ^ val x % val m), 0) else ([], cY [a, x] [m])
abbrev XCO (b9 g b5 b3 : Nat) (x m a : Bs) (s : Bs) (_ : Unit) : List Ent := [⟨some g, [.string (S x)], 22⟩, ⟨some b9, [.string (S s)], 22⟩, ⟨some b5, [.string (S m)], 22⟩, ⟨some b3, [.string (S a)], 22⟩]
theorem uC {a x m : Bs} {w : World} (hm8 : m.length ≤ 8) :
  Cw 264 #[.string (S a), .string (S x), .string (S m)] w (NE (fR a x m)) := by
 refine vu (S := St (fun _ => True) w [] ([])) (L := [(0, .string (S a)), (1, .string (S x)), (2, .string (S m))]) Tryz.func264 rfl Tryz.ntmps264 rfl (Ac rfl (Ac rfl (Ac rfl (An _)))) (St.start (fun _ _ => trivial) Fn) ?_
 refine Eq ?_
 intro b3
 refine Gc ?_
 intro b5
 refine Ka I (GI ?_); refine Gm ?_
 refine Km I (Kh I (aN I I u33 (by kernel_rfl : _ = some (some (.string (S [])), 1, 16)) I (by simp only [List.map]; rfl) I I ?_ (by decide)) ?_)
 ·simp [Value.cells]
 intro b13
 refine Gm ?_
 refine Kh I (aN I I u33 (by kernel_rfl : _ = some (some (.string (S [])), 1, 16)) I (by simp only [List.map]; rfl) I I ?_ (by decide)) ?_
 ·simp [Value.cells]
 intro b15
 refine Kc I (fun w hS => jf (l := [a, x]) (ms := [m]) (by (exact hS.os)) (by (exact hS.os)) (by (simp <;> omega)) (by (simp <;> omega)) (by (simp <;> omega)) (by (simp <;> omega))) (Ka I (Nt (Fz (fun hc18 => ?_) (fun hc18 => ?_))))
 ·have hr : fR a x m = ([], cY [a, x] [m]) := by rw [fR, Aa (by simpa using hc18)]
  refine H7 ?_; refine le ?_; refine Xb ?_
  exact WX.retM0 rfl (.tmp rfl (.tmp rfl .nil)) fun w' hS => ⟨by rw [hr]; rfl, hS.below⟩
 ·have h0 : cY [a, x] [m] = 0 := by simpa using hc18
  have hr : fR a x m = (ae (val a ^ val x % val m), 0) := by rw [fR, Ae h0]
  obtain ⟨ha, hx, hm, hm0⟩ := CA h0
  have hp := iz hm hm0
  have hm64 := eS hm8
  obtain ⟨A, hA⟩ : ∃ A, A = ae (val a % val m) := ⟨_, rfl⟩
  have hAv : val A = val a % val m := by rw [hA, ah]
  have hA8 : A.length ≤ 8 := by rw [hA]; exact aX.2 (by have := Aq (val a) hp; show _ < 18446744073709551616; omega)
  have hAk : okN A := by rw [hA]; exact ⟨by rw [← hA]; omega, bH _⟩
  have hone : okN [1] := ⟨by decide, by decide⟩
  have hit := xV hx (val m) (val A)
  rw [hAv, eu, ← hAv] at hit
  have h1k : okN (ae (1 % val m)) ∧ (ae (1 % val m)).length ≤ 8 := by
   have h8 : (ae (1 % val m)).length ≤ 8 := aX.2 (by have := Aq 1 hp; show _ < 18446744073709551616; omega); exact ⟨⟨by omega, bH _⟩, h8⟩
  refine Ck (Xa (Cs (Gm ?_)))
  refine Gm ?_
  refine Kc I (fun w hS => di (a := a) (m := m) (by exact ha) (by exact hm) (by exact hm0)) (Ns 22 I (v' := .string (S (A))) (congrArg (fun l => Value.string (S l)) (by rw [hA])) ?_)
  refine Ng I I (st I I I .tc (by kernel_rfl) I ?_ (by (simp only [Bf, Bg]; rfl))) ?_
  ·(simp; done)
  intro _
  refine Nt (Cs (Gm ?_))
  refine Kc I (fun w hS => di (a := [1]) (m := m) (by exact hone) (by exact hm) (by exact hm0)) (Ns 24 I (v' := .string (S (ae (1 % val m)))) (congrArg (fun l => Value.string (S l)) (by rfl)) ?_)
  refine GN ?_
  intro b9
  refine Ng I I (st I I I .tc (by kernel_rfl) I ?_ (by (simp only [Bf, Bg]; rfl))) ?_
  ·decide
  intro _
  refine Nt (Cq (Cs (Km I (Kh I (Oc I I (fun w hS => vC (x := x) hS)) ?_))))
  intro g26
  refine Nt (Cb (WC.range (CO := XCO b9 g26 b5 b3 x m A) (pg := fun s _ => okN s ∧ s.length ≤ 8) (inv := fun s y => True) (after := lX (val m) (val A)) (stop := fun _ _ => none) (enc := fun y : Bool => #[Value.bool y]) (ae (1 % val m)) (()) (itD x (lX (val m) (val A)) (aL x) (ae (1 % val m))) ((none : Option Code)) (h1k) I (by kernel_rfl) (fun _ => rfl) (by exact aq) ?_ (fun l r D w hl hY hS => ED (x := x) hY hS h1k hx (fun s y => trivial) (fun s y => rfl)) ?_ ?_))
  ·intro l r D f a s g x ext wr hl hi hpg hF hS; rw [yY]; refine oJ (Fr.tm (hF.put (d := 27) rfl _)) hS ?_; refine WR.region (by kernel_rfl) ?_; refine Ka I (Nn (WX.begin hl ?_)); have hbd := yi (a := val A) hp (by omega) s; have hsq : okN (ae (val s * val s % val m)) ∧ (ae (val s * val s % val m)).length ≤ 8 := (hbd false).2; refine Cb (WR.sr (by kernel_rfl) ?_); refine Gm ?_; refine Gm ?_; refine Gm ?_; refine Kc I (fun w hS => ni (a := s) (b := s) (m := m) (by exact hpg.1) (by exact hpg.1) (by exact hm) (by exact hm0) (by exact hpg.2) (by exact hpg.2) (by exact hm8)) (Ng I I (st I I I .tc (by kernel_rfl) I ?_ (by (simp only [Bf, Bg]; rfl))) ?_)
   ·(simp; done)
   intro _; refine Nt (WR.sr (by kernel_rfl) ?_); refine Km I (Nt (Ci I (fun hc32 => ?_) (fun hc32 => ?_)))
   ·refine WR.region (by kernel_rfl) ?_; refine Gm ?_; refine Gm ?_; refine Gm ?_; refine Kc I (fun w hS => ni (a := ae (val s * val s % val m)) (b := A) (m := m) (by exact hsq.1) (by exact hAk) (by exact hm) (by exact hm0) (by exact hsq.2) (by exact hA8) (by exact hm8)) (Ng I I (st I I I .tc (by kernel_rfl) I ?_ (by (simp only [Bf, Bg]; rfl))) ?_)
    ·(simp; done)
    intro _; refine Nn (Xd ?_)
    exact WX.rnext hl fun w' hS => by
     obtain rfl : x = true := by simpa using hc32
     exact ⟨rfl, (), fun _ => (hbd true).2, hS⟩
   ·refine Ck (Xd ?_)
    exact WX.rnext hl fun w' hS => by
     obtain rfl : x = false := by simpa using hc32
     exact ⟨rfl, (), fun _ => (hbd false).2, hS⟩
  ·intro D1 g1 hD1 hg1 hcf; refine Xd (Xa (Cs (Gm ?_))); refine Ka I (le ?_); exact WX.retM1 hD1 I (.tmp I (.tmp I .nil)) fun w' hS => ⟨by rw [hr, ← hit]; rfl, hS.below⟩
  ·intro D1 g1 c hD1 hcf
   cases hcf
theorem mj : ae 1 = [1] := by decide +kernel
theorem gX {n : Nat} : ae n = [1] ↔ n = 1 := by rw [← mj, jM]
theorem uk {l : List Bs} {m : Bs} {a : Option Addr} {c : Nat} {w : World} {ok : Nat → Prop} (hF1 : (Fact.sl a (am (l ++ [m]))).holds ok w) (hl : l.length ≤ 1000) :
  Cw 318 #[.slice a (l ++ [m]).length c] w (.int .i64 (cY l [m])) := by
 have hlen : (l ++ [m]).length = l.length + 1 := by simp
 refine En ([Fact.sl a (am (l ++ [m]))]) [(0, .slice a (l ++ [m]).length c)] Tryz.func318 I Tryz.ntmps318 I (Ac I (An _)) (Fc (af hF1) Fn) (Cs (GI ?_)); refine Ka I (Nt (Cb (Lp (σ := Nat) [(0, _)] (fun gq => [(3, .int .i64 (gq : Int))]) (fun gq => gq ≤ (l ++ [m]).length ∧ ∀ x ∈ (l ++ [m]).take gq, okN x) (fun gq => (l ++ [m]).length - gq) (0) (S1 I) (S1 I) (by (try dsimp only); exact ⟨Af _, by simp⟩) ?_)))
 rintro i hinv1; (try dsimp only at hinv1 ⊢)
 obtain ⟨hi, hok⟩ := hinv1
 refine Cq (Hd ?_); refine Yo I u33 (F7 (fun hc7 => ?_) (fun hc7 => ?_))
 ·have hil : i < (l ++ [m]).length := by omega
  refine FO ?_; refine Km I (Km I (FW ?_))
  refine GA ?_
  refine Kc I (fun w hS => aY (a := (l ++ [m]).getD i default)) (Gs (fun hc15 => ?_) (fun hc15 => ?_))
  ·refine Cs (le ?_); refine FE ?_; exact R1 I I (by rw [cY, Aa (fun h => absurd (h _ (aj _ _ hil)) (by simpa using hc15))]; rfl)
  ·refine Ck (Xd (Xa (Cg (Km I (Kq I (Rz I I I (by omega)) (Ka I (Nn (Ly (i + 1) (by (try dsimp only); omega) (S1 I) (by refine (Sc ?_ (S0 _)) <;> (rfl)) ?_ (fun _ h => h))))))))); (try dsimp only); exact ⟨hil, ax hil hok (by simpa using hc15)⟩
 ·refine Fq ?_
  have hall : ∀ x ∈ l ++ [m], okN x := by
   have e : i = (l ++ [m]).length := by omega
   subst e; rw [Ai] at hok; exact hok
  have hgl : (l ++ [m]).getD l.length default = m := by simp
  refine Xa (Cq (Hd ?_)); refine Yo I u33 (Kq I (aB I I I (by omega)) ?_)
  refine FW ?_
  refine Kq I (ldm I I u22 I (by omega)) ?_
  refine Ns 21 I (v' := .string (S (m))) (congrArg (fun l => Value.string (S l)) (by rw [hlen]; simp)) ?_
  refine Hh (fun hc22 => ?_) (fun hc22 => ?_)
  ·have hm0 : m = [] := by simpa using hc22
   refine Cs (le ?_); refine Xb ?_; exact R1 I I (by rw [cY, Ae hall, Ae (by rw [hm0]; simp)]; rfl)
  ·have hm0 : m ≠ [] := by simpa using hc22
   refine Ck (Xa (Cs (le ?_))); exact R1 I I (by rw [cY, Ae hall, Aa (by simpa using fun h => hm0 h)]; rfl)
theorem fy {a m : Bs} {w : World} (ha : okN a) (hm : okN m) (hm0 : m ≠ []) :
  Cw 321 #[.string (S a), .string (S m)] w (.string (S (ae (val a % val m)))) := by
 refine En [] [(0, .string (S a)), (1, .string (S m))] Tryz.func321 I Tryz.ntmps321 I (Ac I (Ac I (An _))) Fn (Cs (FN ?_)); refine Km I (Kc I (fun w hS => (by have := rW (w := w) (a := a) (b := m); rw [fM ha hm hm0] at this; exact this)) (GV ?_)); refine FN ?_; refine le ?_
 exact Iq
theorem jR {n : Nat} (h : n < 18446744073709551616) : bv (ae n) = (n, true) := by
 have h8 : (ae n).length ≤ 8 := aX.2 h
 rw [fY ⟨by omega, bH _⟩ h8, ah]
theorem ma {a b m : Bs} {w : World} (ha : okN a) (hb : okN b) (hm : okN m) (hm0 : m ≠ []) (hm8 : m.length ≤ 8) :
  Cw 323 #[.string (S a), .string (S b), .string (S m)] w (.string (S (ae (val a * val b % val m)))) := by
 have hp := iz hm hm0
 have hm64 := eS hm8
 have h1 := Aq (val a) hp; have h2 := Aq (val b) hp; have h3 := Aq (val a * val b) hp
 have hBB : 18446744073709551616 * 18446744073709551616 ≤ Big := by show 256 ^ 16 ≤ 256 ^ 128; exact Ar (by decide) (by decide)
 have hml : val a % val m * (val b % val m) < 18446744073709551616 * 18446744073709551616 := De (by omega) (by omega)
 have hmB := a7 hm
 have hmu : eg (ae (val a % val m)) (ae (val b % val m)) = (ae (val a % val m * (val b % val m)), 0) := by
  rw [nG (by omega) (by omega), Ae (by omega)]
 have hko : okN (ae (val a % val m * (val b % val m))) := az (by omega)
 refine En [] [(0, .string (S a)), (1, .string (S b)), (2, .string (S m))] Tryz.func323 I Tryz.ntmps323 I (Ac I (Ac I (Ac I (An _)))) Fn (Cs (FN ?_)); refine Kc I (fun w hS => (by have := kM (w := w) (a := m); rw [fY hm hm8] at this; exact this)) (Fs ?_); refine Cq (Hd ?_); refine Nc 21 I (fun hg21 => ?_) (fun hg21 => ?_)
 ·refine Km I (Yl I (Yp I (Nt (Ci I (fun hc24 => ?_) (fun hc24 => ?_)))))
  ·refine Hd ?_; refine HN ?_; refine Kc I (fun w hS => (by have := kM (w := w) (a := ae (val a % val m)); rw [jR (by omega)] at this; exact this)) (Fs ?_); refine Hd ?_; refine HO ?_; refine Kc I (fun w hS => (by have := kM (w := w) (a := ae (val b % val m)); rw [jR (by omega)] at this; exact this)) (Fs ?_); refine Hd ?_; refine Kq I (bY I I I (by exact Bb (Dg (by omega : _ ≤ 2147483647) (by omega : _ ≤ 2147483647)) (by decide))) ?_; refine Km I (Kq I (fB I I I ?_) ?_)
   ·assumption
   refine Ns 43 I (v' := .int .u64 ((val a * val b % val m : Nat) : Int)) (congrArg (Value.int .u64) (by rw [← Dx])) ?_; refine Kc I (fun w hS => oK (n := val a * val b % val m) (by omega)) (le ?_); refine Xb ?_; exact Iq
  ·refine GG ?_; refine HN ?_; refine Km I (Km I (HO ?_)); refine Kc I (fun w hS => (by have := tX (w := w) (a := ae (val a % val m)) (b := ae (val b % val m)); rw [hmu] at this; exact this)) (Fs ?_); refine Hd ?_; refine Kc I (fun w hS => fy (a := ae (val a % val m * (val b % val m))) (m := m) (by exact hko) (by exact hm) (by exact hm0)) (Ns 57 I (v' := .string (S (ae (val a * val b % val m)))) (congrArg (fun l => Value.string (S l)) (by rw [ah, ← Dx])) ?_); refine le ?_; exact Iq
 ·refine T2 I (Yq I (Fx (fun _ => ?_)))
  refine GG ?_; refine HN ?_; refine Km I (Km I (HO ?_)); refine Kc I (fun w hS => (by have := tX (w := w) (a := ae (val a % val m)) (b := ae (val b % val m)); rw [hmu] at this; exact this)) (Fs ?_); refine Hd ?_; refine Kc I (fun w hS => fy (a := ae (val a % val m * (val b % val m))) (m := m) (by exact hko) (by exact hm) (by exact hm0)) (Ns 57 I (v' := .string (S (ae (val a * val b % val m)))) (congrArg (fun l => Value.string (S l)) (by rw [ah, ← Dx])) ?_)
  refine le ?_
  exact Iq
theorem tU {a x m : Bs} {w : World} (ha : okN a) (hx : okN x) (hm : okN m) (hm0 : m ≠ []) (hm8 : m.length ≤ 8) :
  Cw 319 #[.string (S a), .string (S x), .string (S m)] w (.string (S (ae (val a ^ val x % val m)))) := by
 have hp := iz hm hm0
 have hm64 := eS hm8
 have hmB := a7 hm
 have hbl := gA hx.1
 have hB1 : 1 < Big := Aw (by decide) mW
 have hko : ∀ k, okN (ae (k % val m)) := fun k => az (by have := Aq k hp; omega)
 refine En [] [(0, .string (S a)), (1, .string (S x)), (2, .string (S m))] Tryz.func319 I Tryz.ntmps319 I (Ac I (Ac I (Ac I (An _)))) Fn (Cs (Ka I (Nt (Cs (Kc I (fun w hS => oK (n := 1) (by omega)) (Km I (Kc I (fun w hS => fy (a := ae 1) (m := m) (by exact az hB1) (by exact hm) (by exact hm0)) (Ns 11 I (v' := .string (S (ae (val a ^ (val x / 2 ^ aL x) % val m)))) (congrArg (fun l => Value.string (S l)) (by rw [ah, Bo (fW x), C6])) ?_))))))))
 refine FM ?_; refine Kc I (fun w hS => xw (a := x)) (Ns 13 I (v' := .int .i64 ((aL x : Nat) : Int)) (congrArg (Value.int .i64) (by rw [Ae hx])) ?_)
 refine Hq ?_; refine Cb (Lp (σ := Nat × Int) [(0, _), (1, _), (2, _)] (fun gq => [(7, .string (S (ae (val a ^ (val x / 2 ^ gq.1) % val m)))), (8, .int .i64 gq.2)]) (fun gq => gq.1 ≤ aL x ∧ gq.2 = (gq.1 : Int) - 1) (fun gq => gq.1) (aL x, (aL x : Int) - 1) (S3 I I I) (S2 I I) (by (try dsimp only); exact ⟨Ba _, rfl⟩) ?_)
 rintro ⟨n, j⟩ hinv1; (try dsimp only at hinv1 ⊢)
 obtain ⟨hn, hj⟩ := hinv1
 refine Cq (Cs (Km I (Hg (fun hc16 => ?_) (fun hc16 => ?_))))
 ·obtain ⟨k, rfl⟩ : ∃ k, n = k + 1 := ⟨n - 1, by omega⟩
  refine WC.set 8 I (v' := .int .i64 ((k : Nat) : Int)) (by rw [hj]; congr 1; omega) ?_
  refine FO ?_; refine Km I (Km I (Km I (Kc I (fun w hS => ma (a := ae (val a ^ (val x / 2 ^ (k + 1)) % val m)) (b := ae (val a ^ (val x / 2 ^ (k + 1)) % val m)) (m := m) (by exact hko _) (by exact hko _) (by exact hm) (by exact hm0) (by exact hm8)) (FN ?_)))); refine Km I (Kc I (fun w hS => AC (a := x) (i := k) (by omega)) (Nt (Ci I (fun hc25 => ?_) (fun hc25 => ?_))))
  ·have hd : val x / 2 ^ k % 2 = 1 := by rw [co hx, gB] at hc25; simpa using hc25
   refine Cg (Km I (Km I (Km I (Kc I (fun w hS => ma (a := ae (val (ae (val a ^ (val x / 2 ^ (k + 1)) % val m)) * val (ae (val a ^ (val x / 2 ^ (k + 1)) % val m)) % val m)) (b := a) (m := m) (by exact hko _) (by exact ha) (by exact hm) (by exact hm0) (by exact hm8)) (Ns 29 I (v' := .string (S (ae (val a ^ (val x / 2 ^ k) % val m)))) (congrArg (fun l => Value.string (S l)) (by rw [ah, ah, mE hd])) ?_))))); refine Ka I (Nn (Xd (Xa (Cg (Km I (Kq I (aK I I I (by omega)) (Ka I (Nn (Ly ((k, (k : Int) - 1)) (by (try dsimp only); omega) (S3 I I I) (by refine (Sc ?_ (Sc ?_ (S0 _))) <;> (rfl)) ?_ (fun _ h => h)))))))))); (try dsimp only); exact ⟨by omega, rfl⟩
  ·have hd : val x / 2 ^ k % 2 = 0 := by
    rw [co hx, gB] at hc25; have : ¬ val x / 2 ^ k % 2 = 1 := by simpa using hc25
    omega
   rw [ah, mF hd]; refine Ck (Xd (Xa (Cg (Km I (Kq I (aK I I I (by omega)) (Ka I (Nn (Ly ((k, (k : Int) - 1)) (by (try dsimp only); omega) (S3 I I I) (by refine (Sc ?_ (Sc ?_ (S0 _))) <;> (rfl)) ?_ (fun _ h => h))))))))); (try dsimp only); exact ⟨by omega, rfl⟩
 ·refine Fq ?_
  obtain rfl : n = 0 := by omega
  rw [C6, Dy]
  refine Xa (Cs (Km I (le ?_)))
  exact Iq
theorem wZ {a x m : Bs} {w : World} (hm8 : m.length ≤ 8) :
  Cw 310 #[.string (S a), .string (S x), .string (S m)] w (NE (fR a x m)) := by
 refine En [] [(0, .string (S a)), (1, .string (S x)), (2, .string (S m))] Tryz.func310 I Tryz.ntmps310 I (Ac I (Ac I (Ac I (An _)))) Fn (Cs (Ka I (Ka I (Nt (Cq (Cs (Km I (Km I (Km I (Kh I (aN I I u33 (by kernel_rfl : _ = some (some (.string (S [])), 1, 16)) I (by simp only [List.map]; rfl) I I ?_ (by decide)) ?_))))))))))
 ·simp [Value.cells]
 intro b12
 refine Kc I (fun w hS => uk (l := [a, x]) (m := m) (by (exact hS.os)) (by (simp <;> omega))) (Ka I (Nt (Fz (fun hc15 => ?_) (fun hc15 => ?_))))
 ·have hr : fR a x m = ([], cY [a, x] [m]) := by rw [fR, Aa (by simpa using hc15)]
  refine H7 ?_; refine le ?_; refine Xb ?_
  exact Ix
 ·have h0 : cY [a, x] [m] = 0 := by simpa using hc15
  have hr : fR a x m = (ae (val a ^ val x % val m), 0) := by rw [fR, Ae h0]
  obtain ⟨ha, hx, hm, hm0⟩ := CA h0
  refine GG ?_; refine Km I (Kc I (fun w hS => tU (a := a) (x := x) (m := m) (by exact ha) (by exact hx) (by exact hm) (by exact hm0) (by exact hm8)) (Ka I (le ?_)))
  exact Ix
abbrev Gp := Bs × Bs
abbrev gV (g : Gp) : Value := .agg #[.string (S g.1), .string (S g.2)]
def aT (g : Gp) : Int :=
 if okN g.1 ∧ okN g.2 then
  (if g.2 = [] then (if val g.1 % 2 = 1 ∧ 8 < val g.1 then 0 else 13)
   else if val g.1 ≤ 1 ∨ val g.2 < 2 ∨ (val g.1 - 1) % val g.2 ≠ 0 then 13 else 0)
 else 3
theorem n7 (a b : Nat) : dn a b ≤ 0 ↔ a ≤ b := by
 have h := aR b a
 unfold dn at *
 constructor
 ·intro h1; split at h1 <;> (try split at h1) <;> omega
 ·intro h1; split <;> (try split) <;> omega
theorem ek (a b : Nat) : 0 ≤ dn a b ↔ b ≤ a := by
 have h := aR a b; omega
theorem qI {a : Bs} (h : okN a) : lK a 0 = decide (val a % 2 = 1) := by
 have := co (i := 0) h
 rw [show ((0 : Nat) : Int) = 0 from rfl] at this
 rw [this, gB, C6, Dy]
theorem iN {g : Gp} {w : World} :
  Cw 54 #[gV g] w (.int .i64 (aT g)) := by
 have hB8 : 8 < Big := Aw (by decide) mW
 refine En [] [(0, gV g)] Tryz.func54 I Tryz.ntmps54 I (Ac I (An _)) Fn (Eq ?_)
 intro b1
 refine Ka I (Nt (Cq (WC.joinP (σ := Unit) [(1, _)] (fun gq => [(17, .bool (decide (¬ (okN g.1 ∧ okN g.2))))]) (fun gq => True) (S1 I) ?_ ?_)))
 ·skip
  refine Cg (Gj ?_)
  refine Kc I (fun w hS => ay (a := g.1)) (Yt I (Km I (Nc 12 I (fun hg12 => ?_) (fun hg12 => ?_))))
  ·refine T4 I (Yp I (Nn (WX.joinP (()) (S1 I) (by refine (Sc ?_ (S0 _)) <;> ((refine ao rfl ?_; (try dsimp only); (simp [*]; done)))) ?_ (fun _ h => h)))); (try dsimp only); done
  ·refine Kf 1 I u26 I I I .tc u22 ?_; refine Kc I (fun w hS => ay (a := g.2)) (Yt I (Yq I (Nn (WX.joinP (()) (S1 I) (by refine (Sc ?_ (S0 _)) <;> ((refine ao rfl ?_; (try dsimp only); (simp [*]; done)))) ?_ (fun _ h => h))))); (try dsimp only); done
 ·rintro _ hmeet; (try dsimp only at hmeet ⊢)
  refine Ci I (fun hc17 => ?_) (fun hc17 => ?_)
  ·have hr : aT g = 3 := by rw [aT, Aa hc17]
   refine Cs (le ?_); refine Xb ?_; exact Io
  ·have hok : okN g.1 ∧ okN g.2 := by simpa using hc17
   have hb1 := a7 hok.1; have hb2 := a7 hok.2; have hv2 : val g.2 = 0 ↔ g.2 = [] := aM hok.2.2; refine Ck (Xa (Cq (Cs (Gh ?_)))); refine Hh (fun hc20 => ?_) (fun hc20 => ?_)
   ·have hq : g.2 = [] := by simpa using hc20
    refine Cq (WC.joinP (σ := Unit) [] (fun gq => [(31, .bool (decide (¬ (val g.1 % 2 = 1 ∧ 8 < val g.1))))]) (fun gq => True) (S0 _) ?_ ?_)
    ·skip
     refine Cf [0, 1, 2, 3, 4, 7, 5, 6, 8, 9, 10] [] [0, 0, 1, 0, 0, 0, 0, 1, 1, 0, 0] (by kernel_rfl) (by kernel_rfl) I ?_; refine Kj I (Fa (q := 0) I I u26 I I) (Gg ?_); refine Jv I I I I I (fun ext => Oc I I (Kv fun w hS => oh (a := g.1) (i := 0) (by omega))) ?_; refine WJ.set 23 I (v' := .bool (decide (val g.1 % 2 = 1))) (congrArg Value.bool (by exact qI hok.1)) ?_; refine Kj I (Rt I I) (GP ?_); refine WJ.bool 25 I (fun hg25 => ?_) (fun hg25 => ?_)
     ·(try simp only [sB] at hg25); refine Js I I I I (Js I I I I (Js I I I I (Js I I I I (Js I I I I (Kj I (Rp I I I) ?_))))); refine WJ.nil ?_; refine Nn (WX.joinP (()) (S0 _) (by refine (Sc ?_ (S0 _)) <;> ((refine ao rfl ?_; (try dsimp only); (simp [*]; done)))) ?_ (fun _ h => h)); (try dsimp only); done
     ·(try simp only [sB] at hg25); refine Jv I I I I I (fun ext => Oc I I (Kv fun w hS => fU (n := 8) (by omega))) ?_; refine Kj I (Fa (q := 0) I I u26 I I) (Kj I (Ld I I .tc u22) ?_); refine Jv I I I I I (fun ext => Oc I I (Kv fun w hS => cZ (a := g.1) (b := ae 8))) ?_; refine Kj I (ug I I I) ?_; refine WJ.set 30 I (v' := .bool (decide (val g.1 ≤ 8))) (congrArg Value.bool (by rw [a8 hok.1 (az hB8), ah]; exact Ak.2 (n7 _ _))) ?_; refine Kj I (Rq I I I) ?_; refine WJ.nil ?_; refine Nn (WX.joinP (()) (S0 _) (by refine (Sc ?_ (S0 _)) <;> ((refine ao rfl ?_; (try dsimp only); (exact Ak.2 (by omega))))) ?_ (fun _ h => h)); (try dsimp only); done
    ·rintro _ hmeet; (try dsimp only at hmeet ⊢); refine Ci I (fun hc31 => ?_) (fun hc31 => ?_)
     ·have hr : aT g = 13 := by rw [aT, Ae hok, Ae hq, Aa hc31]
      refine Cs (le ?_); refine Xb (Xb ?_); exact Io
     ·have hr : aT g = 0 := by rw [aT, Ae hok, Ae hq, Ae (by simpa using hc31)]
      refine Ck (Xa (Cs (le ?_))); refine Xb ?_; exact Io
   ·have hq : g.2 ≠ [] := by simpa using hc20
    have hsb : fT g.1 (ae 1) = if val g.1 < 1 then ([], 2) else (ae (val g.1 - 1), 0) := by rw [fT, Ae ⟨hok.1, az (by omega)⟩, ah]
    have hqp : 0 < val g.2 := by rcases Bw (val g.2) with h | h; exact absurd (hv2.1 h) hq; exact h
    refine Ck (Xa (Cq (Cf [2, 0, 1, 3, 4, 5, 6, 7, 8] [] [0, 0, 1, 1, 0, 0, 0, 0, 0] (by kernel_rfl) (by kernel_rfl) I ?_))); refine Jv I I I I I (fun ext => Oc I I (Kv fun w hS => fU (n := 1) (by omega))) ?_; refine Kj I (Fa (q := 0) I I u26 I I) (Gg ?_); refine Jv I I I I I (fun ext => Oc I I (Kv fun w hS => fQ (a := g.1) (b := ae 1))) ?_; refine Gd ?_; refine WJ.nil ?_; refine Nt (Cq (WC.joinP (σ := Unit) [(1, _), (3, _)] (fun gq => [(51, .bool (decide (val g.1 ≤ 1 ∨ val g.2 < 2)))]) (fun gq => True) (S2 I I) ?_ ?_))
    ·skip
     refine Cf [0, 1, 2, 3, 4, 5, 6, 9, 7, 8, 10, 11, 12] [] [0, 0, 0, 0, 0, 0, 0, 0, 0, 1, 1, 0, 0] (by kernel_rfl) (by kernel_rfl) I ?_; refine Kj I (Rm I I) (Kj I (kY I I I) ?_); refine WJ.set 40 I (v' := .bool (decide (val g.1 < 1))) (congrArg Value.bool (by rw [hsb]; split <;> simp <;> omega)) ?_; refine Kj I (Rm I I) ?_; refine WJ.bool 41 I (fun hg41 => ?_) (fun hg41 => ?_)
     ·(try simp only [sB] at hg41); refine Js I I I I (Js I I I I (Kj I (Rp I I I) (Kj I (Rm I I) (Js I I I I (Js I I I I (Js I I I I (Js I I I I (Js I I I I (Kj I (Rp I I I) ?_))))))))); refine WJ.nil ?_; refine Nn (WX.joinP (()) (S2 I I) (by refine (Sc ?_ (S0 _)) <;> ((exact congrArg (fun b => some (Value.bool b)) (by symm; apply Az; omega)))) ?_ (fun _ h => h)); (try dsimp only); done
     ·(try simp only [sB] at hg41); refine Kj I (Rm I I) (Kj I (jw I I I) ?_); refine WJ.set 43 I (v' := .bool (decide (val g.1 ≤ 1))) (congrArg Value.bool (by rw [hsb]; split <;> simp [bk] <;> omega)) ?_; refine Kj I (Rq I I I) (Kj I (Rm I I) ?_); refine WJ.bool 45 I (fun hg45 => ?_) (fun hg45 => ?_)
      ·(try simp only [sB] at hg45); refine Js I I I I (Js I I I I (Js I I I I (Js I I I I (Js I I I I (Kj I (Rp I I I) ?_))))); refine WJ.nil ?_; refine Nn (WX.joinP (()) (S2 I I) (by refine (Sc ?_ (S0 _)) <;> ((refine ao rfl ?_; (try dsimp only); (simp [*]; done)))) ?_ (fun _ h => h)); (try dsimp only); done
      ·(try simp only [sB] at hg45); refine Jv I I I I I (fun ext => Oc I I (Kv fun w hS => fU (n := 2) (by omega))) ?_; refine Kj I (Fa (q := 1) I I u26 I I) (Kj I (Ld I I .tc u22) ?_); refine Jv I I I I I (fun ext => Oc I I (Kv fun w hS => cZ (a := g.2) (b := ae 2))) ?_; refine Kj I (nx I I I) ?_; refine WJ.set 50 I (v' := .bool (decide (val g.2 < 2))) (congrArg Value.bool (by rw [a8 hok.2 (az (by omega)), ah]; exact Ak.2 (aR _ _))) ?_; refine Kj I (Rq I I I) ?_; refine WJ.nil ?_; refine Nn (WX.joinP (()) (S2 I I) (by refine (Sc ?_ (S0 _)) <;> ((refine ao rfl ?_; (try dsimp only); (exact Ak.2 (by omega))))) ?_ (fun _ h => h)); (try dsimp only); done
    ·rintro _ hmeet; (try dsimp only at hmeet ⊢); refine Ci I (fun hc51 => ?_) (fun hc51 => ?_)
     ·have hr : aT g = 13 := by rw [aT, Ae hok, Aa hq, Ae (by omega)]
      refine Cs (le ?_); refine Xb ?_; exact Io
     ·have hs1 : (fT g.1 (ae 1)).1 = ae (val g.1 - 1) := by rw [hsb, Aa (by omega)]
      have hdv : g6 (ae (val g.1 - 1)) g.2 = ((ae ((val g.1 - 1) / val g.2), ae ((val g.1 - 1) % val g.2)), 0) := by rw [fM (az (by omega)) hok.2 hq, ah]
      rw [hs1]; refine GO ?_; refine Gh ?_; refine Kc I (fun w hS => (by have := fe (w := w) (a := ae (val g.1 - 1)) (b := g.2); rw [hdv] at this; exact this)) (GV ?_); refine FN ?_; refine Yj I (Ns 61 I (v' := .bool false) (by rfl) ?_); refine Km I (Km I (Yr I (Ns 64 I (v' := .bool (decide ((val g.1 - 1) % val g.2 ≠ 0))) (congrArg Value.bool (by simp [bk])) ?_))); refine Yq I (Nt (Ci I (fun hc65 => ?_) (fun hc65 => ?_)))
      ·have hr : aT g = 13 := by rw [aT, Ae hok, Aa hq, Ae (Or.inr (Or.inr hc65))]
       refine Cs (le ?_); refine Xb ?_; exact Io
      ·have hr : aT g = 0 := by rw [aT, Ae hok, Aa hq, Aa (fun h => by rcases h with h | h | h; omega; omega; exact hc65 h)]
       refine Ck (Xa (Cs (le ?_))); exact Io
theorem xA {g : Gp} {w : World} :
  Cw 263 #[gV g] w (.bool (decide (okN g.1 ∧ okN g.2))) := by
 refine En [] [(0, gV g)] Tryz.func263 I Tryz.ntmps263 I (Ac I (An _)) Fn (Eq ?_)
 intro b1
 refine Ka I (Nt (Cs (Gj ?_)))
 refine Kc I (fun w hS => ay (a := g.1)) (Km I (Nc 6 I (fun hg6 => ?_) (fun hg6 => ?_)))
 ·refine Gh ?_
  refine Kc I (fun w hS => ay (a := g.2)) (Yp I (le ?_))
  exact It
 ·refine T2 I (Kt I (Yq I (le ?_)))
  exact It
def j3 (g : Gp) (x : Bs) : Prop := okN g.1 ∧ okN g.2 ∧ okN x ∧ g.2 ≠ [] ∧ x ≠ [] ∧ val x < val g.1 ∧ val x ^ val g.2 % val g.1 = 1
instance (g : Gp) (x : Bs) : Decidable (j3 g x) := inferInstanceAs (Decidable (_ ∧ _))
theorem nL {a x m : Bs} (ha : okN a) (hx : okN x) (hm : okN m) (hm0 : m ≠ []) : fR a x m = (ae (val a ^ val x % val m), 0) := by
 rw [fR, Ae (lF (by intro y hy; simp at hy; rcases hy with rfl | rfl | rfl <;> assumption) (by simpa using fun h => hm0 h))]
theorem qF : okN [] := ⟨by decide, by decide⟩
theorem r8 {x : Bs} (h : okN x) (h0 : x ≠ []) : 0 < val x := iz h h0
theorem AE {g : Gp} {x : Bs} {w : World} (hm8 : g.1.length ≤ 8) :
  Cw 213 #[gV g, .string (S x)] w (.bool (decide (j3 g x))) := by
 refine En [] [(0, gV g), (1, .string (S x))] Tryz.func213 I Tryz.ntmps213 I (Ac I (Ac I (An _))) Fn (Eq ?_)
 intro b2
 refine Ka I (Nt (Cq (WC.joinP (σ := Unit) [(1, _), (2, _)] (fun gq => [(32, .bool (decide (¬ ((okN g.1 ∧ okN g.2) ∧ okN x ∧ g.2 ≠ [] ∧ x ≠ [] ∧ val x < val g.1))))]) (fun gq => True) (S2 I I) ?_ ?_)))
 ·skip
  refine Cg (Kq I (lda I I .tc u26 I ?_) ?_)
  ·kernel_rfl
  refine Kc I (fun w hS => xA (g := g)) (Yt I (Km I (Nc 12 I (fun hg12 => ?_) (fun hg12 => ?_))))
  ·refine T2 I (Kt I (Yp I (Km I (T2 I (Kt I (Yp I (Km I (T2 I (Yp I (Km I (T4 I (Kt I (Yp I (Nn (WX.joinP (()) (S2 I I) (by refine (Sc ?_ (S0 _)) <;> ((refine ao rfl ?_; (try dsimp only); (simp [*]; done)))) ?_ (fun _ h => h)))))))))))))))); (try dsimp only); done
  ·refine Km I (Kc I (fun w hS => ay (a := x)) (Yt I (Yq I (Km I (Nc 17 I (fun hg17 => ?_) (fun hg17 => ?_))))))
   ·refine T2 I (Kt I (Yp I (Km I (T2 I (Yp I (Km I (T4 I (Kt I (Yp I (Nn (WX.joinP (()) (S2 I I) (by refine (Sc ?_ (S0 _)) <;> ((refine ao rfl ?_; (try dsimp only); (simp [*]; done)))) ?_ (fun _ h => h)))))))))))); (try dsimp only); done
   ·refine Gh ?_; refine Ys I (Yq I (Km I (Nc 22 I (fun hg22 => ?_) (fun hg22 => ?_))))
    ·refine T2 I (Yp I (Km I (T4 I (Kt I (Yp I (Nn (WX.joinP (()) (S2 I I) (by refine (Sc ?_ (S0 _)) <;> ((refine ao rfl ?_; (try dsimp only); (simp [*]; done)))) ?_ (fun _ h => h)))))))); (try dsimp only); done
    ·refine Km I (Ys I (Yq I (Km I (Nc 26 I (fun hg26 => ?_) (fun hg26 => ?_)))))
     ·refine T4 I (Kt I (Yp I (Nn (WX.joinP (()) (S2 I I) (by refine (Sc ?_ (S0 _)) <;> ((refine ao rfl ?_; (try dsimp only); (simp [*]; done)))) ?_ (fun _ h => h))))); (try dsimp only); done
     ·refine Km I (Kf 0 I u26 I I I .tc u22 ?_); refine Kc I (fun w hS => cZ (a := x) (b := g.1)) (Yh I (Ns 31 I (v' := .bool (decide (val g.1 ≤ val x))) (congrArg Value.bool (by rw [a8 hg17 hg12.1]; exact Ak.2 (ek _ _))) ?_)); refine Yq I (Nn (WX.joinP (()) (S2 I I) (by refine (Sc ?_ (S0 _)) <;> ((refine ao rfl ?_; (try dsimp only); (simp [*]; done)))) ?_ (fun _ h => h))); (try dsimp only); done
 ·rintro _ hmeet; (try dsimp only at hmeet ⊢)
  refine Ci I (fun hc32 => ?_) (fun hc32 => ?_)
  ·have hr : ¬ j3 g x := fun h => hc32 ⟨⟨h.1, h.2.1⟩, h.2.2.1, h.2.2.2.1, h.2.2.2.2.1, h.2.2.2.2.2.1⟩
   refine Cs (le ?_); refine Xb ?_; exact It
  ·have hok : (okN g.1 ∧ okN g.2) ∧ okN x ∧ g.2 ≠ [] ∧ x ≠ [] ∧ val x < val g.1 := Ah.1 hc32; obtain ⟨⟨hm, hq⟩, hx, hq0, hx0, hlt⟩ := hok; have hxp := r8 hx hx0; have hm0 : g.1 ≠ [] := fun h => by rw [h] at hlt; exact absurd hlt (B6 _)
   have he1 := nL hx hq hm hm0; have he2 := nL hx qF hm hm0; have h1m : val x ^ val [] % val g.1 = 1 := by rw [show val [] = 0 from rfl, C6, Am (by omega)]
   have hr : j3 g x ↔ val x ^ val g.2 % val g.1 = 1 := ⟨fun h => h.2.2.2.2.2.2, fun h => ⟨hm, hq, hx, hq0, hx0, hlt, h⟩⟩; refine Ck (Xa (Cs (Km I (Gh ?_)))); refine Gj ?_; refine Kc I (fun w hS => (by have := uC (w := w) (a := x) (x := g.2) (m := g.1) hm8; rw [he1] at this; exact this)) (Fs ?_); refine Cs (Km I (Gj ?_)); refine Kc I (fun w hS => (by have := uC (w := w) (a := x) (x := []) (m := g.1) hm8; rw [he2, h1m] at this; exact this)) (Fs ?_); refine Cs (Km I (Yi I (Ns 50 I (v' := .bool true) (by rfl) ?_))); refine Km I (Km I (Km I (Ys I (Ns 54 I (v' := .bool (decide (j3 g x))) (congrArg Value.bool (by simp [hr, jM])) ?_)))); refine Yp I (le ?_); exact Iq
def g9 (g : Gp) : Prop := okN g.1 ∧ g.2 = [] ∧ val g.1 % 2 = 1 ∧ 8 < val g.1
instance (g : Gp) : Decidable (g9 g) := inferInstanceAs (Decidable (_ ∧ _))
theorem w4 {g : Gp} {w : World} :
  Cw 265 #[gV g] w (.bool (decide (g9 g))) := by
 have hB8 : 8 < Big := Aw (by decide) mW
 refine En [] [(0, gV g)] Tryz.func265 I Tryz.ntmps265 I (Ac I (An _)) Fn (Eq ?_)
 intro b1
 refine Ka I (Nt (Cq (Cf [0, 1, 2, 3, 4, 5, 6, 7, 8, 9, 10, 11, 12, 13, 16, 14, 15, 17, 18, 19, 20] [] [0, 0, 1, 0, 0, 0, 0, 0, 0, 0, 0, 1, 0, 0, 0, 0, 1, 1, 0, 0, 0] (by kernel_rfl) (by kernel_rfl) I ?_)))
 refine Kj I (Fa (q := 0) I I u26 I I) (Gg ?_)
 refine Jv I I I I I (fun ext => Oc I I (Kv fun w hS => ay (a := g.1))) ?_
 refine GP ?_
 refine WJ.bool 6 I (fun hg6 => ?_) (fun hg6 => ?_)
 ·(try simp only [sB] at hg6)
  refine Kj I (Fa (q := 1) I I u26 I I) (Gg ?_)
  refine Kj I (jw I I I) (Kj I (Rp I I I) (GP ?_))
  refine WJ.bool 11 I (fun hg11 => ?_) (fun hg11 => ?_)
  ·(try simp only [sB] at hg11); refine Kj I (Fa (q := 0) I I u26 I I) (Gg ?_); refine Jv I I I I I (fun ext => Oc I I (Kv fun w hS => oh (a := g.1) (i := 0) (by omega))) ?_; refine WJ.set 14 I (v' := .bool (decide (val g.1 % 2 = 1))) (congrArg Value.bool (by exact qI hg6)) ?_; refine Kj I (Rp I I I) (GP ?_); refine WJ.bool 16 I (fun hg16 => ?_) (fun hg16 => ?_)
   ·(try simp only [sB] at hg16); refine Jv I I I I I (fun ext => Oc I I (Kv fun w hS => fU (n := 8) (by omega))) ?_; refine Kj I (Fa (q := 0) I I u26 I I) (Gg ?_); refine Jv I I I I I (fun ext => Oc I I (Kv fun w hS => cZ (a := g.1) (b := ae 8))) ?_; refine Kj I (pI I I I) ?_; refine WJ.set 21 I (v' := .bool (decide (8 < val g.1))) (congrArg Value.bool (by rw [a8 hg6 (az hB8), ah]; exact Ak.2 (by have := n7 (val g.1) 8; omega))) ?_; refine Kj I (Rp I I I) (GR ?_); refine WJ.nil ?_; refine Nt (Ce ?_); exact IQ
   ·(try simp only [sB] at hg16); refine GW ?_; refine Js I I I I (Js I I I I (Kj I (Rq I I I) (GR ?_))); refine WJ.nil ?_; refine Nt (Ce ?_); exact IQ
  ·(try simp only [sB] at hg11); refine GW ?_; refine Kj I (Rq I I I) (GP ?_); refine GW ?_; refine Js I I I I (Js I I I I (Kj I (Rq I I I) (GR ?_))); refine WJ.nil ?_; refine Nt (Ce ?_); exact IQ
 ·(try simp only [sB] at hg6)
  refine GW ?_; refine Kj I (Rq I I I) (GP ?_); refine GW ?_; refine Kj I (Rq I I I) (GP ?_); refine GW ?_; refine Js I I I I (Js I I I I (Kj I (Rq I I I) (GR ?_)))
  refine WJ.nil ?_
  refine Nt (Ce ?_)
  exact IQ
theorem wT {w : World} :
  Cw 267 #[] w (.string (S (ae 1))) := by
 refine En [] [] Tryz.func267 I Tryz.ntmps267 I (An _) Fn (Cs (Ka I (Nt (Cs (Kc I (fun w hS => fU (n := 1) (by omega)) (le ?_))))))
 exact Iq
def oY (g : Gp) (x : Bs) : Prop := g9 g ∧ okN x ∧ x ≠ [] ∧ val x < val g.1 ∧ Nat.gcd (val x) (val g.1) = 1
instance (g : Gp) (x : Bs) : Decidable (oY g x) := inferInstanceAs (Decidable (_ ∧ _))
theorem wU {g : Gp} {x : Bs} {w : World} :
  Cw 214 #[gV g, .string (S x)] w (.bool (decide (oY g x))) := by
 refine En [] [(0, gV g), (1, .string (S x))] Tryz.func214 I Tryz.ntmps214 I (Ac I (Ac I (An _))) Fn (Eq ?_)
 intro b2
 refine Ka I (Nt (Cq (WC.joinP (σ := Unit) [(1, _), (2, _)] (fun gq => [(25, .bool (decide (¬ (g9 g ∧ okN x ∧ x ≠ [] ∧ val x < val g.1))))]) (fun gq => True) (S2 I I) ?_ ?_)))
 ·skip
  refine Cg (Kq I (lda I I .tc u26 I ?_) ?_)
  ·kernel_rfl
  refine Kc I (fun w hS => w4 (g := g)) (Yt I (Km I (Nc 10 I (fun hg10 => ?_) (fun hg10 => ?_))))
  ·refine T2 I (Kt I (Yp I (Km I (T2 I (Yp I (Km I (T4 I (Kt I (Yp I (Nn (WX.joinP (()) (S2 I I) (by refine (Sc ?_ (S0 _)) <;> ((refine ao rfl ?_; (try dsimp only); (simp [*]; done)))) ?_ (fun _ h => h)))))))))))); (try dsimp only); done
  ·refine Km I (Kc I (fun w hS => ay (a := x)) (Yt I (Yq I (Km I (Nc 15 I (fun hg15 => ?_) (fun hg15 => ?_))))))
   ·refine T2 I (Yp I (Km I (T4 I (Kt I (Yp I (Nn (WX.joinP (()) (S2 I I) (by refine (Sc ?_ (S0 _)) <;> ((refine ao rfl ?_; (try dsimp only); (simp [*]; done)))) ?_ (fun _ h => h)))))))); (try dsimp only); done
   ·refine Km I (Ys I (Yq I (Km I (Nc 19 I (fun hg19 => ?_) (fun hg19 => ?_)))))
    ·refine T4 I (Kt I (Yp I (Nn (WX.joinP (()) (S2 I I) (by refine (Sc ?_ (S0 _)) <;> ((refine ao rfl ?_; (try dsimp only); (simp [*]; done)))) ?_ (fun _ h => h))))); (try dsimp only); done
    ·refine Km I (Kf 0 I u26 I I I .tc u22 ?_); refine Kc I (fun w hS => cZ (a := x) (b := g.1)) (Yh I (Ns 24 I (v' := .bool (decide (val g.1 ≤ val x))) (congrArg Value.bool (by rw [a8 hg15 hg10.1]; exact Ak.2 (ek _ _))) ?_)); refine Yq I (Nn (WX.joinP (()) (S2 I I) (by refine (Sc ?_ (S0 _)) <;> ((refine ao rfl ?_; (try dsimp only); (simp [*]; done)))) ?_ (fun _ h => h))); (try dsimp only); done
 ·rintro _ hmeet; (try dsimp only at hmeet ⊢)
  refine Ci I (fun hc25 => ?_) (fun hc25 => ?_)
  ·have hr : ¬ oY g x := fun h => hc25 ⟨h.1, h.2.1, h.2.2.1, h.2.2.2.1⟩
   refine Cs (le ?_); refine Xb ?_; exact It
  ·have hok : g9 g ∧ okN x ∧ x ≠ [] ∧ val x < val g.1 := Ah.1 hc25; have hgc : sE x g.1 = (ae (Nat.gcd (val x) (val g.1)), 0) := by rw [sE, Ae ⟨hok.2.1, hok.1.1⟩]
   have hr : oY g x ↔ Nat.gcd (val x) (val g.1) = 1 := ⟨fun h => h.2.2.2.2, fun h => ⟨hok.1, hok.2.1, hok.2.2.1, hok.2.2.2, h⟩⟩; refine Ck (Xa (Cs (Km I (Gj ?_)))); refine Kc I (fun w hS => (by have := DY (w := w) (a := x) (b := g.1); rw [hgc] at this; exact this)) (Fs ?_); refine Cs (Km I (Kc I (fun w hS => wT) (Ys I (Ns 35 I (v' := .bool (decide (oY g x))) (congrArg Value.bool (by simp [hr, jM])) ?_)))); refine le ?_; exact Iq
def elG (g : Gp) (x : Bs) : Prop := okN x ∧ x ≠ [] ∧ val x < val g.1 ∧ (if g.2 = [] then Nat.gcd (val x) (val g.1) = 1 else val x ^ val g.2 % val g.1 = 1)
instance (g : Gp) (x : Bs) : Decidable (elG g x) := inferInstanceAs (Decidable (_ ∧ _))
theorem db {g : Gp} (h : aT g = 0) : okN g.1 ∧ okN g.2 ∧ 2 ≤ val g.1 ∧ (g.2 = [] → g9 g) ∧ (g.2 ≠ [] → 2 ≤ val g.2 ∧ (val g.1 - 1) % val g.2 = 0) := by
 unfold aT at h
 split at h
 ·rename_i h1
  split at h
  ·rename_i h2; split at h
   ·rename_i h3; exact ⟨h1.1, h1.2, by omega, fun _ => ⟨h1.1, h2, h3.1, h3.2⟩, fun hn => absurd h2 hn⟩
   ·simp at h
  ·rename_i h2; split at h
   ·simp at h
   ·rename_i h3; exact ⟨h1.1, h1.2, by omega, fun hn => absurd hn h2, fun _ => ⟨by omega, by omega⟩⟩
 ·simp at h
theorem y2 {g : Gp} {x : Bs} (h : aT g = 0) (hq : g.2 ≠ []) : j3 g x ↔ elG g x := by
 obtain ⟨h1, h2, h3, h4, h5⟩ := db h
 rw [j3, elG, Aa hq]
 exact ⟨fun ⟨_, _, a, _, b, c, d⟩ => ⟨a, b, c, d⟩, fun ⟨a, b, c, d⟩ => ⟨h1, h2, a, hq, b, c, d⟩⟩
theorem EA {g : Gp} {x : Bs} (h : aT g = 0) (hq : g.2 = []) : oY g x ↔ elG g x := by
 obtain ⟨h1, h2, h3, h4, h5⟩ := db h
 rw [oY, elG, Ae hq]
 exact ⟨fun ⟨_, a, b, c, d⟩ => ⟨a, b, c, d⟩, fun ⟨a, b, c, d⟩ => ⟨h4 hq, a, b, c, d⟩⟩
theorem oO {g : Gp} {x : Bs} {w : World} (hg : aT g = 0) (hm8 : g.1.length ≤ 8) :
  Cw 135 #[gV g, .string (S x)] w (.bool (decide (elG g x))) := by
 refine En [] [(0, gV g), (1, .string (S x))] Tryz.func135 I Tryz.ntmps135 I (Ac I (Ac I (An _))) Fn (Eq ?_)
 intro b2
 refine GI ?_; refine Gh ?_
 refine Hr (fun hc7 => ?_) (fun hc7 => ?_)
 ·have hq : g.2 ≠ [] := by simpa using hc7
  have hr := y2 (x := x) hg hq
  refine Cs (Kq I (lda I I .tc u26 I ?_) ?_)
  ·kernel_rfl
  refine Km I (Kc I (fun w hS => AE (g := g) (x := x) (by assumption)) (le ?_)); refine Xb ?_
  exact R1 I I (by simp only [hr]; rfl)
 ·have hq : g.2 = [] := by simpa using hc7
  have hr := EA (x := x) hg hq
  refine Ck (Xa (Cs (Kq I (lda I I .tc u26 I ?_) ?_)))
  ·kernel_rfl
  refine Km I (Kc I (fun w hS => wU (g := g) (x := x)) (le ?_))
  exact R1 I I (by simp only [hr]; rfl)
theorem gI {g : Gp} {x : Bs} {w : World} (hm8 : g.1.length ≤ 8) :
  Cw 56 #[gV g, .string (S x)] w (.bool (decide (aT g = 0 ∧ elG g x))) := by
 refine En [] [(0, gV g), (1, .string (S x))] Tryz.func56 I Tryz.ntmps56 I (Ac I (Ac I (An _))) Fn (Eq ?_)
 intro b2
 refine Ka I (Nt (Cs (Kq I (lda I I .tc u26 I ?_) ?_)))
 ·kernel_rfl
 refine Kc I (fun w hS => iN (g := g)) (Yi I (Km I (Nc 8 I (fun hg8 => ?_) (fun hg8 => ?_))))
 ·refine Kq I (lda I I .tc u26 I ?_) ?_
  ·kernel_rfl
  refine Km I (Kc I (fun w hS => oO (g := g) (x := x) (by assumption) (by assumption)) (Yp I (le ?_)))
  exact It
 ·refine T2 I (Kt I (Yq I (le ?_)))
  exact It
theorem tV {g : Gp} {w : World} :
  Cw 309 #[gV g] w (.bool (decide (okN g.1 ∧ okN g.2))) := by
 refine En [] [(0, gV g)] Tryz.func309 I Tryz.ntmps309 I (Ac I (An _)) Fn (Eq ?_)
 intro b1
 refine Ka I (Nt (Cs (Gj ?_)))
 refine Kc I (fun w hS => aY (a := g.1)) (Km I (Nc 6 I (fun hg6 => ?_) (fun hg6 => ?_)))
 ·refine Gh ?_
  refine Kc I (fun w hS => aY (a := g.2)) (Yp I (le ?_))
  exact It
 ·refine T2 I (Kt I (Yq I (le ?_)))
  exact It
theorem wX {g : Gp} {x : Bs} {w : World} (hm8 : g.1.length ≤ 8) :
  Cw 294 #[gV g, .string (S x)] w (.bool (decide (j3 g x))) := by
 refine En [] [(0, gV g), (1, .string (S x))] Tryz.func294 I Tryz.ntmps294 I (Ac I (Ac I (An _))) Fn (Eq ?_)
 intro b2
 refine Ka I (Nt (Cq (WC.joinP (σ := Unit) [(1, _), (2, _)] (fun gq => [(30, .bool (decide (¬ ((okN g.1 ∧ okN g.2) ∧ okN x ∧ g.2 ≠ [] ∧ x ≠ [] ∧ val x < val g.1))))]) (fun gq => True) (S2 I I) ?_ ?_)))
 ·skip
  refine Cg (Kq I (lda I I .tc u26 I ?_) ?_)
  ·kernel_rfl
  refine Kc I (fun w hS => tV (g := g)) (Yt I (Km I (Nc 10 I (fun hg10 => ?_) (fun hg10 => ?_))))
  ·refine T2 I (Kt I (Yp I (Km I (T2 I (Kt I (Yp I (Km I (T2 I (Yp I (Km I (T4 I (Kt I (Yp I (Nn (WX.joinP (()) (S2 I I) (by refine (Sc ?_ (S0 _)) <;> ((refine ao rfl ?_; (try dsimp only); (simp [*]; done)))) ?_ (fun _ h => h)))))))))))))))); (try dsimp only); done
  ·refine Km I (Kc I (fun w hS => aY (a := x)) (Yt I (Yq I (Km I (Nc 15 I (fun hg15 => ?_) (fun hg15 => ?_))))))
   ·refine T2 I (Kt I (Yp I (Km I (T2 I (Yp I (Km I (T4 I (Kt I (Yp I (Nn (WX.joinP (()) (S2 I I) (by refine (Sc ?_ (S0 _)) <;> ((refine ao rfl ?_; (try dsimp only); (simp [*]; done)))) ?_ (fun _ h => h)))))))))))); (try dsimp only); done
   ·refine Gh ?_; refine Ys I (Yq I (Km I (Nc 20 I (fun hg20 => ?_) (fun hg20 => ?_))))
    ·refine T2 I (Yp I (Km I (T4 I (Kt I (Yp I (Nn (WX.joinP (()) (S2 I I) (by refine (Sc ?_ (S0 _)) <;> ((refine ao rfl ?_; (try dsimp only); (simp [*]; done)))) ?_ (fun _ h => h)))))))); (try dsimp only); done
    ·refine Km I (Ys I (Yq I (Km I (Nc 24 I (fun hg24 => ?_) (fun hg24 => ?_)))))
     ·refine T4 I (Kt I (Yp I (Nn (WX.joinP (()) (S2 I I) (by refine (Sc ?_ (S0 _)) <;> ((refine ao rfl ?_; (try dsimp only); (simp [*]; done)))) ?_ (fun _ h => h))))); (try dsimp only); done
     ·refine Km I (Kf 0 I u26 I I I .tc u22 ?_); refine Kc I (fun w hS => kc (a := x) (b := g.1) (by exact hg15.2) (by exact hg10.1.2) (by have := hg15.1; omega)) (Yh I (Ns 29 I (v' := .bool (decide (val g.1 ≤ val x))) (congrArg Value.bool (by exact Ak.2 (ek _ _))) ?_)); refine Yq I (Nn (WX.joinP (()) (S2 I I) (by refine (Sc ?_ (S0 _)) <;> ((refine ao rfl ?_; (try dsimp only); (simp [*]; done)))) ?_ (fun _ h => h))); (try dsimp only); done
 ·rintro _ hmeet; (try dsimp only at hmeet ⊢)
  refine Ci I (fun hc30 => ?_) (fun hc30 => ?_)
  ·have hr : ¬ j3 g x := fun h => hc30 ⟨⟨h.1, h.2.1⟩, h.2.2.1, h.2.2.2.1, h.2.2.2.2.1, h.2.2.2.2.2.1⟩
   refine Cs (le ?_); refine Xb ?_; exact It
  ·have hok : (okN g.1 ∧ okN g.2) ∧ okN x ∧ g.2 ≠ [] ∧ x ≠ [] ∧ val x < val g.1 := Ah.1 hc30; obtain ⟨⟨hm, hq⟩, hx, hq0, hx0, hlt⟩ := hok; have hm0 : g.1 ≠ [] := fun h => by rw [h] at hlt; exact absurd hlt (B6 _)
   have he1 := nL hx hq hm hm0; have hr : j3 g x ↔ val x ^ val g.2 % val g.1 = 1 := ⟨fun h => h.2.2.2.2.2.2, fun h => ⟨hm, hq, hx, hq0, hx0, hlt, h⟩⟩; refine Ck (Xa (Cs (Km I (Gh ?_)))); refine Gj ?_; refine Kc I (fun w hS => (by have := wZ (w := w) (a := x) (x := g.2) (m := g.1) hm8; rw [he1] at this; exact this)) (Fs ?_); refine Cs (Km I (Ys I (Ns 41 I (v' := .bool (decide (j3 g x))) (congrArg Value.bool (by simp [hr, gX])) ?_))); refine le ?_; exact Iq
end Go.Proofs.YtchonigdjamphaaGreatDoor
