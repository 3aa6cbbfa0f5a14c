/-
  Parts of the walk: Ntl4 NtlB Ntl5 Div Ntl6.
-/
import Derived.Test.YtkdlonihbjhhoaaGreatDoorG9
namespace Go.Proofs.YtkdlonihbjhhoaaGreatDoor
open Go.RowKit
set_option linter.unusedSimpArgs false
set_option linter.unusedVariables false
set_option maxHeartbeats 600000
set_option maxRecDepth 20000
theorem zo {β x0 x1 y0 y1 : Nat} (hβ : 0 < β) : (x1 * β + x0) * (y1 * β + y0) / (β * β) = x1 * y1 + (x1 * y0 + x0 * y0 / β) / β + ((x1 * y0 + x0 * y0 / β) % β + x0 * y1) / β := by
 have e1 := Bc (x0 * y0) β
 have e2 := Bc (x1 * y0 + x0 * y0 / β) β
 have e3 := Bc ((x1 * y0 + x0 * y0 / β) % β + x0 * y1) β
 have l1 := Ak (x0 * y0) hβ
 have l3 := Ak ((x1 * y0 + x0 * y0 / β) % β + x0 * y1) hβ
 generalize x0 * y0 / β = a at *
 generalize x0 * y0 % β = p0 at *
 generalize (x1 * y0 + a) / β = w2 at *
 generalize (x1 * y0 + a) % β = t0 at *
 generalize (t0 + x0 * y1) / β = b at *
 generalize (t0 + x0 * y1) % β = w10 at *
 have e : (x1 * β + x0) * (y1 * β + y0) = β * β * (x1 * y1 + w2 + b) + (w10 * β + p0) := by
  have f1 : (x1 * β + x0) * (y1 * β + y0) = x1 * y1 * (β * β) + (x1 * y0 + x0 * y1) * β + x0 * y0 := by
   simp only [Be, Bf, Au, Aj, Bm]; omega
  have f2 : (x1 * y0 + x0 * y1) * β + a * β = (β * w2 + (β * b + w10)) * β := by rw [← Be]; congr 1; omega
  have f3 : (β * w2 + (β * b + w10)) * β = β * β * w2 + β * β * b + w10 * β := by
   simp only [Be, Bf, Au, Aj, Bm]; omega
  rw [f1, ← e1, Bf, Bf, Aj (x1 * y1)]
  rw [Aj β a]
  omega
 have l : w10 * β + p0 < β * β := by
  have : (w10 + 1) * β ≤ β * β := Bk _ l3
  rw [Be, Cm] at this; omega
 rw [e, Cn (Nat.mul_pos hβ hβ), Bh l, Ba]
theorem ni {x y : Nat} {w : World} (hx : x < 18446744073709551616) (hy : y < 18446744073709551616) :
  Cw 155 #[.int .u64 (x : Int), .int .u64 (y : Int)] w (.tuple #[.int .u64 ((x * y / 18446744073709551616 : Nat) : Int), .int .u64 ((x * y % 18446744073709551616 : Nat) : Int)]) := by
 obtain ⟨x0, hx0⟩ : ∃ q, q = x % 2 ^ 32 := ⟨_, rfl⟩
 obtain ⟨x1, hx1⟩ : ∃ q, q = x / 2 ^ 32 := ⟨_, rfl⟩
 obtain ⟨y0, hy0⟩ : ∃ q, q = y % 2 ^ 32 := ⟨_, rfl⟩
 obtain ⟨y1, hy1⟩ : ∃ q, q = y / 2 ^ 32 := ⟨_, rfl⟩
 have hm : ∀ a b : Nat, a < 4294967296 → b < 4294967296 → a * b ≤ 18446744065119617025 := fun a b ha hb => Dw (by omega : a ≤ 4294967295) (by omega : b ≤ 4294967295)
 have h00 := hm x0 y0 (by omega) (by omega)
 have h10 := hm x1 y0 (by omega) (by omega)
 have h01 := hm x0 y1 (by omega) (by omega)
 have h11 := hm x1 y1 (by omega) (by omega)
 have hxe : x = x1 * 4294967296 + x0 := by omega
 have hye : y = y1 * 4294967296 + y0 := by omega
 have hhi := zo (β := 4294967296) (x0 := x0) (x1 := x1) (y0 := y0) (y1 := y1) (by decide)
 rw [← hxe, ← hye] at hhi
 refine En [] [(0, .int .u64 (x : Int)), (1, .int .u64 (y : Int))] Tryz.func155 I Tryz.ntmps155 I (Ac I (Ac I (An _))) Fn (Cs (Ka I (Ka I (Nt (Cs (Km I (Kq I (dG 32 I I I (by decide) ?_) ?_)))))))
 ·omega
 refine Ns 15 I (v' := .int .u64 ((x0 : Nat) : Int)) (congrArg (Value.int .u64) (by rw [hx0])) ?_
 refine DT ?_; refine FH ?_
 refine Ns 17 I (v' := .int .u64 ((x1 : Nat) : Int)) (congrArg (Value.int .u64) (by rw [hx1])) ?_
 refine Ka I (Nt (Cs (Km I (Kq I (dG 32 I I I (by decide) ?_) ?_))))
 ·omega
 refine Ns 19 I (v' := .int .u64 ((y0 : Nat) : Int)) (congrArg (Value.int .u64) (by rw [hy0])) ?_
 refine DT ?_; refine FH ?_
 refine Ns 21 I (v' := .int .u64 ((y1 : Nat) : Int)) (congrArg (Value.int .u64) (by rw [hy1])) ?_
 refine Ka I (Nt (Cs (Km I (Km I (Kq I (bH I I I (by omega)) (Ka I (Nt (Cs (Km I (Km I (Kq I (bH I I I (by omega)) (Km I (Kq I (bA (c := 32) I I I (by decide)) (Kq I (bN I I I (by omega)) (Ka I (Nt (Cs (Km I (Kq I (dG 32 I I I (by decide) ?_) ?_)))))))))))))))))))
 ·omega
 refine DT ?_; refine FH ?_; refine DT ?_; refine Km I (Km I (Kq I (bH I I I (by omega)) (Kq I (bN I I I (by omega)) (DT ?_)))); refine Km I (Kq I (bH I I I (by omega)) (Km I (Kq I (bN I I I (by omega)) (Km I (FH ?_))))); refine Kq I (bN I I I (by omega)) (DT ?_); refine Km I (Kq I (gD I I I) (to ?_))
 exact R2 I I I (by rw [hhi]; rfl)
theorem fg : 18446744073709551616 ≤ Big := by show 256 ^ 8 ≤ 256 ^ 128; exact A2 (by decide) (by decide)
def bG (a b : Bs) : Bs × Int := if okN a ∧ okN b then (if val a * val b < Big then (ae (val a * val b), 0) else ([], 5)) else ([], 3)
theorem qM {a b : Bs} (hab : okN a ∧ okN b) : (if 128 < (ae (val a * val b)).length then ([] : Bs) else ae (val a * val b)) = (bG a b).1 ∧ (if 128 < (ae (val a * val b)).length then (5 : Int) else 0) = (bG a b).2 := by
 rw [bG, Ab hab]
 by_cases h : val a * val b < Big
 ·have := dC.2 h
  rw [Ab h, Aa (by omega), Aa (by omega)]; exact ⟨rfl, rfl⟩
 ·have : ¬ (ae (val a * val b)).length ≤ 128 := fun q => h (dC.1 q)
  rw [Aa h, Ab (by omega), Ab (by omega)]; exact ⟨rfl, rfl⟩
theorem um {a b : Bs} {w : World} :
  Cw 97 #[.string (S a), .string (S b)] w (NE (bG a b)) := by
 obtain ⟨sa, hsa⟩ : ∃ q, q = aQ a := ⟨_, rfl⟩
 obtain ⟨sb, hsb⟩ : ∃ q, q = aQ b := ⟨_, rfl⟩
 have hla := nT a; have hlb := nT b
 rw [← hsa] at hla; rw [← hsb] at hlb
 refine En [] [(0, .string (S a)), (1, .string (S b))] Tryz.func97 I Tryz.ntmps97 I (Ac I (Ac I (An _))) Fn (Cs (Ka I (DR ?_))); refine FJ ?_; refine Nc 16 I (fun hg16 => ?_) (fun hg16 => ?_)
 ·refine T2 I (Kt I (Yp I (Nt (Cd I (fun _ => ?_) (fun h => by cases h)))))
  refine Cs (Ka I (ne ?_))
  exact GY
 ·refine Gi ?_; refine EP (fun hc20 => ?_) (fun hc20 => ?_)
  ·refine Cs (Ka I (ne ?_)); exact GY
  ·have hab : okN a ∧ okN b := by simp_all
   have hal := hab.1.1; have hbl := hab.2.1; refine FN ?_; refine Kc I (fun w hS => (by have := ex (w := w) (a := a) (by omega); rw [← hsa] at this; exact this)) (BY ?_); refine Cs (Km I (Kc I (fun w hS => (by have := ex (w := w) (a := b) (by omega); rw [← hsb] at this; exact this)) (BY ?_))); refine E0 ?_; refine Kc I (fun w hS => ni (x := sa.1) (y := sb.1) (by assumption) (by assumption)) (BY ?_); refine WC.joinP (σ := Unit) [(0, _), (1, _), (11, _)] (fun gq => [(48, .bool (decide (a.length ≤ 8 ∧ b.length ≤ 8 ∧ sa.1 * sb.1 / 18446744073709551616 = 0)))]) (fun gq => True) (S3 I I I) ?_ ?_
   ·skip
    refine Cg (Km I (Yn I u22 (Ym I (Km I (Nc 40 I (fun hg40 => ?_) (fun hg40 => ?_))))))
    ·refine Km I (Yn I u22 (Ym I (Yp I (Km I (Nc 45 I (fun hg45 => ?_) (fun hg45 => ?_))))))
     ·refine Km I (Yi I (Yp I (Nn (WX.joinP (()) (S3 I I I) (by refine (Sc ?_ (S0 _)) <;> ((refine ai rfl ?_; (try dsimp only); (exact Af.2 (by omega))))) ?_ (fun _ h => h))))); (try dsimp only); done
     ·refine T2 I (Yq I (Nn (WX.joinP (()) (S3 I I I) (by refine (Sc ?_ (S0 _)) <;> ((exact congrArg (fun b => some (Value.bool b)) (by symm; apply Aq; omega)))) ?_ (fun _ h => h)))); (try dsimp only); done
    ·refine T2 I (Kt I (Yq I (Km I (T2 I (Yq I (Nn (WX.joinP (()) (S3 I I I) (by refine (Sc ?_ (S0 _)) <;> ((exact congrArg (fun b => some (Value.bool b)) (by symm; apply Aq; omega)))) ?_ (fun _ h => h)))))))); (try dsimp only); done
   ·rintro _ hmeet; (try dsimp only at hmeet ⊢); refine Ci I (fun hc48 => ?_) (fun hc48 => ?_)
    ·have e1 : sa.1 = val a := by rw [hsa, aQ, Ab ⟨hab.1, hc48.1⟩]
     have e2 : sb.1 = val b := by rw [hsb, aQ, Ab ⟨hab.2, hc48.2.1⟩]
     have hlt : val a * val b < 18446744073709551616 := by have := hc48.2.2; rw [e1, e2] at this; omega
     have hr : bG a b = (ae (val a * val b), 0) := by rw [bG, Ab hab, Ab (Ay hlt fg)]
     refine Cs (Km I (Kc I (fun w hS => f8 (by omega)) (Ka I (ne ?_)))); exact R2 I I I (by rw [hr, e1, e2, Ah hlt]; rfl)
    ·have hfm := qM hab; refine Ck (Xa (Cs (Kh I (Oa I (v := (.agg (List.replicate 256 (.int .i64 0)).toArray)) (cs := (List.replicate 256 (.int .i64 0))) (by kernel_rfl) I) ?_))); intro b12; refine Nt (FS ?_); refine Kh I (Oc I I (fun w hS => rO (a := a) (b := b) (p := b12) (cs := List.replicate 256 (.int .i64 0)) hS (by simp) (by omega) (by omega))) ?_; intro c; refine Kc I (fun w hS => l8 (a := ae (val a * val b))) (Ye I (Ye I (Ka I (to ?_)))); exact R2 I I I (by simp only [tup, NE]; rw [← hfm.1, ← hfm.2])
theorem tH {a b : Bs} {w : World} (ha : a.length ≤ 50000) (hb : b.length ≤ 50000) :
  Cw 161 #[.string (S a), .string (S b)] w (.string (S (ae (val a * val b)))) := by
 obtain ⟨V, hV⟩ : ∃ V, V = val a * val b := ⟨_, rfl⟩
 have hVl : V < 256 ^ (a.length + b.length) := by rw [hV, Bg]; exact Dz (aL a) (aL b)
 rw [← hV]
 refine En [] [(0, .string (S a)), (1, .string (S b))] Tryz.func161 I Tryz.ntmps161 I (Ac I (Ac I (An _))) Fn (Cs (DR ?_)); refine Yn I u22 (Km I (Yn I u22 (Fq ?_))); refine Ym I (Nt (Ci I (fun hc18 => ?_) (fun hc18 => ?_)))
 ·have hV8 : V < 18446744073709551616 := Ay hVl (Br (A2 (by decide) (by omega : a.length + b.length ≤ 8)) (by decide))
  refine Cs (Km I (Kc I (fun w hS => kz (a := a) (by omega)) (Km I (Kc I (fun w hS => kz (a := b) (by omega)) (Kq I (bH I I I (by omega)) ?_)))))
  refine Ns 23 I (v' := .int .u64 ((V : Nat) : Int)) (congrArg (Value.int .u64) (by rw [hV])) ?_
  refine Kc I (fun w hS => dJ (n := V) (by assumption)) (ne ?_)
  exact GH
 ·refine FN ?_; refine Yn I u22 (Km I (Yn I u22 (Fq ?_))); refine DT ?_; refine F7 ?_
  refine Kh I (ef I I I u38 (by kernel_rfl : _ = some (some (.int .i64 0), 1, 8)) I ?_ (by (try simp only [sN, Int.reduceToNat, Nat.reduceAdd, Nat.reduceMul, Nat.reduceSub]); rfl) (by (try simp only [sN, Int.reduceToNat, Nat.reduceAdd, Nat.reduceMul, Nat.reduceSub]); rfl)) ?_
  ·omega
  intro b32
  refine E5 ?_; refine Lo (σ := Nat × (List Nat)) [(0, _), (1, _), (5, _), (6, _)] (fun gq => [(7, .int .i64 (gq.1 : Int))]) (fun gq => gq.1 ≤ a.length ∧ dP (a.length + b.length + 1) (val a) (val b) gq.1 0 gq.2) (fun gq => a.length - gq.1) (fun gq => [⟨some b32, cn gq.2, 3⟩]) (fun gq => []) (0, List.replicate (a.length + b.length + 1) 0) (S4 I I I I) (S1 I) (by (try dsimp only); exact ⟨Ai _, mo _ _ _⟩) (by exact fun w h => by rw [iW]; exact h) ?_
  rintro ⟨i, c⟩ hinv1; (try dsimp only at hinv1 ⊢)
  obtain ⟨hi, hci⟩ := hinv1
  refine E0 ?_; refine Yn I u22 (Ew (fun hc36 => ?_) (fun hc36 => ?_))
  ·refine E3 ?_; refine Ka I (Nt (Cb (Lo (σ := Nat × (List Nat)) [(0, _), (1, _), (5, _), (6, _), (7, _)] (fun gq => [(8, .int .i64 (gq.1 : Int))]) (fun gq => gq.1 ≤ b.length ∧ dP (a.length + b.length + 1) (val a) (val b) i gq.1 gq.2) (fun gq => b.length - gq.1) (fun gq => [⟨some b32, cn gq.2, 3⟩]) (fun gq => []) (0, c) (S5 I I I I I) (S1 I) (by (try dsimp only); exact ⟨Ai _, hci⟩) (fun _ h => h) ?_))); rintro ⟨k, c2⟩ hinv2; (try dsimp only at hinv2 ⊢); obtain ⟨hk, hck⟩ := hinv2; refine E0 ?_; refine Yn I u22 (Ew (fun hc42 => ?_) (fun hc42 => ?_))
   ·have hcl := hck.len; have hca := qY hck (by omega) (i + k); have hcs2 := oF hck (by omega); refine Ck (Xa (Cq (Cb (Cf [6, 7, 8, 9, 10, 11, 0, 1, 2, 3, 4, 5, 12, 13, 14] [15] [0, 0, 0, 0, 0, 0, 0, 0, 1, 0, 0, 1, 0, 0, 0, 2] (by kernel_rfl) (by kernel_rfl) I ?_)))); refine DW ?_; refine Jv I I I I I (fun ext => Oc I I (Kv fun w hS => kR (a := a) (i := i) (by omega) (by omega))) ?_; refine DW ?_; refine Jv I I I I I (fun ext => Oc I I (Kv fun w hS => kR (a := b) (i := k) (by omega) (by omega))) ?_; refine DW ?_; refine ER ?_; refine FZ ?_; refine Et ?_; refine Kj I (ld I I .tc u3 I (bg c2 _ (by omega))) ?_; refine Kj I (gE I I I (by omega)) (FZ ?_); refine Et ?_; refine WJ.nil ?_; refine Ng I I (st I I I .tc (by kernel_rfl) I ?_ (by rfl)) ?_
    ·rw [dj]; omega
    intro _; rw [di]; refine Nn (Xd (Xa (Cg (Km I (Kq I (Rz I I I (by omega)) (Ka I (Nn (Lx ((k + 1, c2.set (i + k) (c2.getD (i + k) 0 + val a / 256 ^ i % 256 * (val b / 256 ^ k % 256)))) (by (try dsimp only); omega) (S5 I I I I I) (by refine (Sc ?_ (S0 _)) <;> (rfl)) ?_ (fun _ h => h))))))))); (try dsimp only); exact ⟨by omega, hcs2⟩
   ·refine AT ?_; obtain rfl : k = b.length := by omega
    have hrow := qW hck (aL b); refine Xd (Xa (Cg (Km I (Kq I (Rz I I I (by omega)) (Ka I (Nn (Lx ((i + 1, c2)) (by (try dsimp only); omega) (S4 I I I I) (by refine (Sc ?_ (S0 _)) <;> (rfl)) ?_ (fun _ h => h)))))))); (try dsimp only); exact ⟨by omega, hrow⟩
  ·refine AT ?_; obtain rfl : i = a.length := by omega
   have hev := qX hci (aL a); have hcl := hci.len; rw [← hV] at hev; refine Xa (Cs (Km I (Kh I (ef I I I aE (by kernel_rfl : _ = some (some (.int .u8 0), 1, 1)) I ?_ (by (try simp only [sN, Int.reduceToNat, Nat.reduceAdd, Nat.reduceMul, Nat.reduceSub]); rfl) (by (try simp only [sN, Int.reduceToNat, Nat.reduceAdd, Nat.reduceMul, Nat.reduceSub]); rfl)) ?_)))
   ·omega
   intro b61; refine Ka I (Nt (Cs (E5 ?_))); refine Lo (σ := Nat × Nat) [(5, _), (6, _), (9, _)] (fun gq => [(10, .int .i64 (gq.2 : Int)), (11, .int .i64 (gq.1 : Int))]) (fun gq => gq.1 ≤ a.length + b.length ∧ gq.2 = jv 256 c gq.1) (fun gq => a.length + b.length - gq.1) (fun gq => [⟨some b61, fw (a.length + b.length) gq.1 V, 5⟩, ⟨some b32, cn c, 3⟩]) (fun gq => []) (0, 0) (S3 I I I) (S2 I I) (by (try dsimp only); exact ⟨Ai _, (jt 256 c).symm⟩) (by exact fun w h => by rw [cN]; exact h) ?_; rintro ⟨i, cy⟩ hinv3; (try dsimp only at hinv3 ⊢); obtain ⟨hi, hcy⟩ := hinv3; refine E0 ?_; refine Ew (fun hc64 => ?_) (fun hc64 => ?_)
   ·have hcc := mr (i := i) hci (by omega) (by omega); have hcs3 := ju 256 (by decide) c i (by omega); have hcd := lj 256 (by decide) c i (by omega); rw [← hcy] at hcc hcs3 hcd; rw [hev] at hcd; refine El ?_; refine Km I (Eu ?_); refine Kq I (ld I I .tc u3 I (bg c _ (by omega))) ?_; refine Km I (Fq ?_); refine Ns 72 I (v' := .int .i64 ((cy + c.getD i 0 : Nat) : Int)) (congrArg (Value.int .i64) (by omega)) (DT ?_); refine Km I (Ev ?_); refine Km I (Kq I (cH I I I (by omega)) (Kq I (iv I I u3 u5) (Ns 80 I (v' := B (UInt8.ofNat (V / 256 ^ i))) (by exact congrArg (fun b : UInt8 => B b) (oU (by omega))) ?_))); refine Ek ?_; refine Ng I I (st I I I .tc (by kernel_rfl) I ?_ (by rfl)) ?_
    ·rw [cd _ _ _ (by omega)]; omega
    intro _; refine Nt (Cg (Km I (Kq I (bM I I I (by omega)) (Ka I (Nn (Xd (Xa (Cg (Km I (Kq I (Rz I I I (by omega)) (Ka I (Nn (Lx ((i + 1, (cy + c.getD i 0) / 256)) (by (try dsimp only); omega) (S3 I I I) (by refine (Sc ?_ (Sc ?_ (S0 _))) <;> (rfl)) ?_ (by exact fun w h => by rw [← cb (a.length + b.length) i V (by omega)]; exact h)))))))))))))); (try dsimp only); exact ⟨by omega, hcs3.symm⟩
   ·refine AT ?_; obtain rfl : i = a.length + b.length := by omega
    rw [ck]; have hbl := aP (a.length + b.length) V; refine Xa (Cs (Km I (Kc I (fun w hS => ip (b := be (a.length + b.length) V) (by (exact hS.os)) (by omega) (by omega) (by omega)) (to ?_)))); exact R1 I I (by rw [dr, Ah hVl]; rfl)
theorem mS {a b : Bs} {w : World} :
  Cw 103 #[.string (S a), .string (S b)] w (NE (bG a b)) := by
 refine En [] [(0, .string (S a)), (1, .string (S b))] Tryz.func103 I Tryz.ntmps103 I (Ac I (Ac I (An _))) Fn (Cs (Ka I (DR ?_))); refine Gj ?_; refine Yt I (Km I (Nc 9 I (fun hg9 => ?_) (fun hg9 => ?_)))
 ·refine T2 I (Kt I (Yp I (Nt (Cd I (fun _ => ?_) (fun h => by cases h)))))
  refine Cs (Ka I (ne ?_))
  exact GY
 ·refine Km I (Gj ?_); refine EP (fun hc13 => ?_) (fun hc13 => ?_)
  ·refine Cs (Ka I (ne ?_)); exact GY
  ·have hab : okN a ∧ okN b := by simp_all
   have hal := hab.1.1; have hbl := hab.2.1; have hfm := qM hab; refine EN ?_; refine Kc I (fun w hS => tH (a := a) (b := b) (by omega) (by omega)) (Kc I (fun w hS => yp (a := ae (val a * val b))) (Ye I (Ye I (Ka I (to ?_))))); exact R2 I I I (by simp only [tup, NE]; rw [← hfm.1, ← hfm.2])
theorem gQ (f x : Nat) : Lib.bitLenAux (f + 1) x = if x = 0 then 0 else 1 + Lib.bitLenAux f (x / 2) := rfl
theorem jK : ∀ (f g x : Nat), x < 2 ^ f → x < 2 ^ g → Lib.bitLenAux f x = Lib.bitLenAux g x
 | 0, 0, x, _, _ => rfl
 | 0, g + 1, x, h, _ => by have : x = 0 := by simpa using h
                           subst this; rfl
 | f + 1, 0, x, _, h => by have : x = 0 := by simpa using h
                           subst this; rfl
 | f + 1, g + 1, x, h1, h2 => by
  rw [gQ, gQ]
  split
  ·rfl
  ·rw [jK f g (x / 2) (by rw [As] at h1; omega) (by rw [As] at h2; omega)]
theorem gr {x : Nat} (h : 0 < x) (hx : x < 2 ^ 63) : Lib.bitLen x = 1 + Lib.bitLen (x / 2) := by
 unfold Lib.bitLen
 rw [gQ 63 x, Aa (by omega), jK 63 64 (x / 2) (by omega) (by omega)]
theorem kQ {a : Bs} {w : World} (ha : a.length ≤ 1000000) :
  Cw 174 #[.string (S a)] w (.int .i64 (aF a : Int)) := by
 refine En [] [(0, .string (S a))] Tryz.func174 I Tryz.ntmps174 I (Ac I (An _)) Fn (Cs (DR ?_)); refine Fu (fun hc6 => ?_) (fun hc6 => ?_)
 ·have h0 : a = [] := by simpa using hc6
  refine Cs (ne ?_)
  exact R1 I I (by rw [h0]; rfl)
 ·have hne : a ≠ [] := by simpa using hc6
  have hl0 : 0 < a.length := C8.2 hne
  have hc0 := (a.getD 0 default).toNat_lt
  have hbN : aF a ≤ 8000064 := by rw [aF, Aa hne]; have := ff (a.getD 0 default).toNat; omega
  refine Ck (Xa (Cs (Km I (Yn I u22 (Kq I (av I I I (by omega)) (Kq I (bZ I I I (by omega)) (Ka I (Nt (Cq (Cs (Km I (Kq I (bo I I I u22 ?_) ?_))))))))))))
  ·omega
  refine Kq I (fX I I u5 u3 ?_) ?_
  ·(exact kg _)
  refine Ka I (Nt (Cb (Lp (σ := Nat × Nat) [] (fun gq => [(3, .int .i64 (gq.2 : Int)), (4, .int .i64 (gq.1 : Int))]) (fun gq => gq.2 + Lib.bitLen gq.1 = aF a ∧ gq.1 < 256) (fun gq => gq.1) ((a.getD 0 default).toNat, 8 * (a.length - 1)) (S0 _) (S2 I I) (by (try dsimp only); exact ⟨by rw [aF, Aa hne], hc0⟩) ?_)))
  rintro ⟨x, k⟩ hinv1; (try dsimp only at hinv1 ⊢)
  obtain ⟨hb, hx⟩ := hinv1
  refine Cq (Cs (Km I (FR (fun hc15 => ?_) (fun hc15 => ?_))))
  ·have hst := gr (x := x) (by omega) (by omega); refine Ck (Xa (Cq (Cb (Cg (Km I (Kq I (Rz I I I (by omega)) (Ka I (Nn (Xd (Xa (Cg (Km I (Kq I (bM I I I (by omega)) (Ka I (Nn (Ly ((x / 2, k + 1)) (by (try dsimp only); omega) (S0 _) (by refine (Sc ?_ (Sc ?_ (S0 _))) <;> (rfl)) ?_ (fun _ h => h))))))))))))))))); (try dsimp only); exact ⟨by omega, by omega⟩
  ·refine AT ?_; obtain rfl : x = 0 := by omega
   have hb0 : Lib.bitLen 0 = 0 := rfl; refine Xa (Cs (Km I (to ?_))); exact R1 I I (by rw [← hb]; rfl)
theorem wY {a : Bs} {w : World} :
  Cw 159 #[.string (S a)] w (.int .i64 ((if okN a then aF a else 0 : Nat) : Int)) := by
 refine En [] [(0, .string (S a))] Tryz.func159 I Tryz.ntmps159 I (Ac I (An _)) Fn (Cs (DR ?_)); refine Gj ?_; refine Eq (fun hc5 => ?_) (fun hc5 => ?_)
 ·refine Cs (ne ?_)
  exact R1 I I (by rw [Aa (by simpa using hc5)]; rfl)
 ·have hok : okN a := by simpa using hc5
  have hal := hok.1
  refine FN ?_; refine Kc I (fun w hS => kQ (by omega)) (to ?_)
  exact R1 I I (by rw [Ab hok]; rfl)
theorem sK {n : Bs} (h : okN n) (h0 : n ≠ []) : 1 ≤ aF n := by
 have hc := (iZ n).1 h.2
 have hl : 0 < n.length := C8.2 h0
 rw [aF, Aa h0, gr (by omega) (by have := (n.getD 0 default).toNat_lt; omega)]; omega
theorem gn {n : Bs} (h : n.length ≤ 128) : aF n ≤ 2000 := by
 rw [aF]; split
 ·omega
 ·have := ff (n.getD 0 default).toNat; omega
theorem vr : ∀ x, x < 256 → Lib.bitLen x ≤ 8 := by decide +kernel
theorem sL (a : Bs) : aF a ≤ 8 * a.length := by
 rw [aF]; split
 ·omega
 ·rename_i h
  have h1 := vr (a.getD 0 default).toNat (a.getD 0 default).toNat_lt
  have h2 := C8.2 h
  omega
theorem se : ∀ x, x < 256 → x < 2 ^ Lib.bitLen x := by decide +kernel
theorem fQ (a : Bs) : val a < 2 ^ aF a := by
 cases a with
 | nil => decide
 | cons c s =>
  have h1 := se c.toNat c.toNat_lt
  have h2 := aL s
  have h3 : val (c :: s) = c.toNat * 256 ^ s.length + val s := rfl
  rw [aF, Aa (by simp), h3]
  show c.toNat * 256 ^ s.length + val s < 2 ^ (8 * s.length + Lib.bitLen c.toNat)
  rw [Bg, Du, show (2 : Nat) ^ 8 = 256 from rfl]
  have h4 : (c.toNat + 1) * 256 ^ s.length ≤ 2 ^ Lib.bitLen c.toNat * 256 ^ s.length := Bk _ h1
  rw [Be, Cm] at h4
  rw [Aj (256 ^ s.length)]; omega
def gp (n i : Nat) : Bool := decide (n / 2 ^ i % 2 = 1)
theorem my (n i : Nat) : n / 256 ^ (i / 8) % 256 / 2 ^ (i % 8) % 2 = n / 2 ^ i % 2 := by
 have e : 2 ^ i = 256 ^ (i / 8) * 2 ^ (i % 8) := by
  rw [show (256 : Nat) = 2 ^ 8 from rfl, ← Du, ← Bg]; congr 1; omega
 rw [e, ← A4]
 generalize n / 256 ^ (i / 8) = m
 have h : i % 8 = 0 ∨ i % 8 = 1 ∨ i % 8 = 2 ∨ i % 8 = 3 ∨ i % 8 = 4 ∨ i % 8 = 5 ∨ i % 8 = 6 ∨ i % 8 = 7 := by omega
 rcases h with h | h | h | h | h | h | h | h <;> rw [h] <;> omega
theorem vq {n i : Nat} (h : n < 256 ^ (i / 8)) : n / 2 ^ i = 0 := by
 apply Bh
 refine Ay h ?_
 rw [show (256 : Nat) = 2 ^ 8 from rfl, ← Du]
 exact A2 (by decide) (by omega)
def lq (a : Bs) (i : Int) : Bool := decide (okN a ∧ 0 ≤ i) && gp (val a) i.toNat
theorem bR {a : Bs} {i : Nat} (h : okN a) : lq a i = gp (val a) i := by rw [lq, Am (p := okN a ∧ (0 : Int) ≤ i) ⟨h, by omega⟩, Ds, At]
theorem q9 {a : Bs} {i : Int} (h : ¬ (okN a ∧ 0 ≤ i)) : lq a i = false := by rw [lq, Aq h, Bool.false_and]
theorem mz {a : Bs} {i : Nat} (h : a.length ≤ i / 8) : gp (val a) i = false := by
 rw [gp]; apply Aq; rw [vq (Ay (aL a) (A2 (by decide) h))]; omega
theorem nK {a : Bs} {i : Nat} {w : World} (hi : i ≤ 1000000000) :
  Cw 94 #[.string (S a), .int .i64 (i : Int)] w (.bool (lq a i)) := by
 have hbd := my (val a) i
 have hx256 : val a / 256 ^ (i / 8) % 256 / 2 ^ (i % 8) < 256 := Bj (Bw _ _) (Ak _ (by decide))
 refine En [] [(0, .string (S a)), (1, .int .i64 (i : Int))] Tryz.func94 I Tryz.ntmps94 I (Ac I (Ac I (An _))) Fn (Cs (DT ?_)); refine Kc I (fun w hS => ay) (Km I (Nc 7 I (fun hg7 => ?_) (fun hg7 => ?_)))
 ·refine Km I (Yh I (Yp I (Km I (Nc 11 I (fun hg11 => ?_) (fun hg11 => ?_)))))
  ·refine Gx ?_; refine Km I (Yn I u22 (Yl I (Yp I (Km I (Nc 18 I (fun hg18 => ?_) (fun hg18 => ?_))))))
   ·refine Km I (Gx ?_); refine Kc I (fun w hS => dh (a := a) (i := i / 8) (by have hok : okN a := (by assumption); have := hok.1; omega) (by omega)) (Km I (Kq I (cH I I I (by omega)) ?_)); refine Gk ?_; refine Kq I (dG 1 I I I (by decide) ?_) ?_
    ·omega
    refine Yi I (Yp I (to ?_)); exact R1 I I (by (rw [bR (by assumption), gp]; exact congrArg (fun b => Ending.returned (.bool b)) (by apply Af.2; omega)))
   ·refine T4 I (T4 I (Kt I (Yq I (to ?_)))); exact R1 I I (by (rw [bR (by assumption), mz (by omega)]; rfl))
  ·refine T4 I (Kt I (Yq I (Km I (T4 I (T4 I (Kt I (Yq I (to ?_)))))))); exact R1 I I (by (rw [bR (by assumption), mz (by omega)]; rfl))
 ·refine T2 I (Yq I (Km I (T4 I (Kt I (Yq I (Km I (T4 I (T4 I (Kt I (Yq I (to ?_)))))))))))
  exact R1 I I (by (rw [q9 (fun h => absurd h.1 (by assumption))]; rfl))
theorem tJ {a : Bs} {i : Nat} {w : World} (ha : a.length ≤ 1000000) (hi : i ≤ 1000000000) :
  Cw 175 #[.string (S a), .int .i64 (i : Int)] w (.bool (gp (val a) i)) := by
 have hbd := my (val a) i
 refine En [] [(0, .string (S a)), (1, .int .i64 (i : Int))] Tryz.func175 I Tryz.ntmps175 I (Ac I (Ac I (An _))) Fn (Cs (DT ?_)); refine Gx ?_
 refine Kc I (fun w hS => kR (a := a) (i := i / 8) (by omega) (by omega)) (E5 ?_); refine Lp (σ := Nat × Nat) [(1, _)] (fun gq => [(5, .int .i64 (gq.2 : Int)), (6, .int .i64 (gq.1 : Int))]) (fun gq => gq.1 ≤ i % 8 ∧ gq.2 = val a / 256 ^ (i / 8) % 256 / 2 ^ gq.1) (fun gq => i % 8 - gq.1) (0, val a / 256 ^ (i / 8) % 256) (S1 I) (S2 I I) (by (try dsimp only); exact ⟨Ai _, by simp⟩) ?_
 rintro ⟨k, x⟩ hinv1; (try dsimp only at hinv1 ⊢)
 obtain ⟨hk, hx⟩ := hinv1
 refine E0 ?_; refine Kq I (cH I I I (by omega)) (Ew (fun hc14 => ?_) (fun hc14 => ?_))
 ·have hx256 : x < 256 := by rw [hx]; exact Bj (Bw _ _) (Ak _ (by decide))
  refine Ck (Xa (Cq (Cb (Cg (Km I (Kq I (bM I I I (by omega)) (Ka I (Nn (Xd (Xa (Cg (Km I (Kq I (Rz I I I (by omega)) (Ka I (Nn (Ly ((k + 1, x / 2)) (by (try dsimp only); omega) (S1 I) (by refine (Sc ?_ (Sc ?_ (S0 _))) <;> (rfl)) ?_ (fun _ h => h)))))))))))))))))
  (try dsimp only)
  exact ⟨by omega, by rw [hx, As, A4]⟩
 ·refine AT ?_
  obtain rfl : k = i % 8 := by omega
  have hx256 : x < 256 := by rw [hx]; exact Bj (Bw _ _) (Ak _ (by decide))
  rw [← hx] at hbd
  refine Xa (Cs (Km I (Kq I (cH I I I (by omega)) (Yi I (to ?_)))))
  exact R1 I I (by rw [gp, ← hbd]; exact congrArg (fun b => Ending.returned (.bool b)) (Af.2 (by omega)))
theorem mA {a : Bs} {i : Nat} (h : aF a ≤ i) : gp (val a) i = false := by
 rw [gp]; apply Aq; rw [Bh (Ay (fQ a) (A2 (by decide) h))]; omega
theorem pi {a : Bs} {i : Nat} {w : World} (hi : i ≤ 1000000000) :
  Cw 118 #[.string (S a), .int .i64 (i : Int)] w (.bool (lq a i)) := by
 refine En [] [(0, .string (S a)), (1, .int .i64 (i : Int))] Tryz.func118 I Tryz.ntmps118 I (Ac I (Ac I (An _))) Fn (Cs (DT ?_)); refine Gj ?_; refine Km I (Nc 7 I (fun hg7 => ?_) (fun hg7 => ?_))
 ·refine Km I (Yh I (Yp I (Km I (Nc 11 I (fun hg11 => ?_) (fun hg11 => ?_)))))
  ·refine Km I (Km I (Kc I (fun w hS => kQ (a := a) (by have hok : okN a := (by assumption); have := hok.1; omega)) (Yl I (Yp I (Km I (Nc 17 I (fun hg17 => ?_) (fun hg17 => ?_)))))))
   ·refine Km I (Km I (Kc I (fun w hS => tJ (a := a) (i := i) (by have hok : okN a := (by assumption); have := hok.1; omega) (by omega)) (Yp I (to ?_)))); exact R1 I I (by (rw [bR (by assumption)]; rfl))
   ·refine T2 I (Kt I (Yq I (to ?_))); exact R1 I I (by (rw [bR (by assumption), mA (by omega)]; rfl))
  ·refine T4 I (Yq I (Km I (T2 I (Kt I (Yq I (to ?_)))))); exact R1 I I (by (rw [bR (by assumption), mA (by omega)]; rfl))
 ·refine T2 I (Yq I (Km I (T4 I (Yq I (Km I (T2 I (Kt I (Yq I (to ?_)))))))))
  exact R1 I I (by (rw [q9 (fun h => absurd h.1 (by assumption))]; rfl))
end Go.Proofs.YtkdlonihbjhhoaaGreatDoor
namespace Go.Proofs.YtkdlonihbjhhoaaGreatDoor
set_option linter.unusedSimpArgs false
set_option linter.unusedVariables false
set_option maxRecDepth 20000
def br (X n : Nat) : List Nat := (List.range n).map fun i => X / 256 ^ i % 256
theorem bq (X n : Nat) : (br X n).length = n := by simp [br]
theorem ml (X n : Nat) : br X (n + 1) = br X n ++ [X / 256 ^ n % 256] := by simp [br, List.range_succ]
theorem gN (X n : Nat) : ∀ x ∈ br X n, x < 256 := by
 intro x hx
 obtain ⟨i, _, rfl⟩ := B9.1 hx
 exact Ak _ (by decide)
theorem nB (X : Nat) : ∀ n, ev 256 (br X n) = X % 256 ^ n
 | 0 => by simp [br, ev, Nat.mod_one]
 | n + 1 => by rw [ml, e8, bq, nB X n, Nat.mod_pow_succ]; simp [ev]
theorem iV (X n k : Nat) (h : k < n) : (br X k ++ List.replicate (n - k) 0).set k (X / 256 ^ k % 256) = br X (k + 1) ++ List.replicate (n - (k + 1)) 0 := by
 rw [Dd _ _ (by rw [bq]; exact Bd _), bq, C0, show n - k = (n - (k + 1)) + 1 by omega, D6, Av, ml, Cl]; rfl
theorem vd (X n i : Nat) (h : i < n) : (br X n).getD i 0 = X / 256 ^ i % 256 := by
 rw [List.getD_eq_getElem?_getD, br, A6, D7 h]; rfl
theorem eR {s : Nat} (h : s < 8) : s = 0 ∨ s = 1 ∨ s = 2 ∨ s = 3 ∨ s = 4 ∨ s = 5 ∨ s = 6 ∨ s = 7 := by omega
theorem lQ (A s : Nat) : A * 2 ^ s / 256 ^ 0 % 256 = A / 256 ^ 0 % 256 * 2 ^ s % 256 := by
 rw [B1, Dj, Dj, C5 (A % 256), Nat.mod_mod, ← C5]
theorem nW (A s i : Nat) (h : s < 8) : A * 2 ^ s / 256 ^ (i + 1) % 256 = A / 256 ^ (i + 1) % 256 * 2 ^ s % 256 + A / 256 ^ i % 256 / 2 ^ (8 - s) := by
 have e1 : A * 2 ^ s / 256 ^ (i + 1) = A / 256 ^ i / 2 ^ (8 - s) := by
  rw [A4, show 256 ^ (i + 1) = 256 ^ i * 2 ^ (8 - s) * 2 ^ s from by
   rw [Au, ← Bg, show 8 - s + s = 8 by omega, As], Nat.mul_div_mul_right _ _ (Cz s)]
 have e2 : A / 256 ^ (i + 1) = A / 256 ^ i / 256 := by rw [As, A4]
 rw [e1, e2]
 generalize A / 256 ^ i = B
 rcases eR h with rfl | rfl | rfl | rfl | rfl | rfl | rfl | rfl <;> omega
theorem nV (A s i : Nat) (h : s < 8) : A / 256 ^ i % 256 / 2 ^ (8 - s) < 2 ^ s ∧ A / 256 ^ (i + 1) % 256 * 2 ^ s % 256 % 2 ^ s = 0 ∧ A / 256 ^ (i + 1) % 256 * 2 ^ s < 65536 := by
 have hx : A / 256 ^ i % 256 < 256 := Ak _ (by decide)
 have hy : A / 256 ^ (i + 1) % 256 < 256 := Ak _ (by decide)
 generalize A / 256 ^ i % 256 = x at *
 generalize A / 256 ^ (i + 1) % 256 = y at *
 rcases eR h with rfl | rfl | rfl | rfl | rfl | rfl | rfl | rfl <;> exact ⟨by omega, by omega, by omega⟩
structure lx (L X D n t : Nat) (r : List Nat) (Q : Nat) : Prop where
 len : r.length = L
 dig : ∀ x ∈ r, x < 256
 sum : X = Q * D + ev 256 (r.take (t + n))
 lt : ev 256 (r.take (t + n)) < 256 ^ t * D
 dvd : Q % 256 ^ t = 0
theorem sD {L X D n t : Nat} (hL : L = t + n) (hX : X < 256 ^ t * D) (hX2 : X < 256 ^ L) : lx L X D n t (br X L) 0 := by
 have e : ev 256 ((br X L).take (t + n)) = X := by
  rw [A8 (by rw [bq]; omega), nB, Ah hX2]
 exact ⟨bq X L, gN X L, by rw [e]; omega, by rw [e]; exact hX, by simp⟩
theorem u1 {L X D n j Q g : Nat} {r r1 : List Nat} {top : Int} (h : lx L X D n (j + 1) r Q) (hD : D < 256 ^ n) (hL : j + n < L) (hlen : r1.length = L) (hdig : ∀ x ∈ r1, x < 256)
  (hsum : (ev 256 (r1.take (j + n)) : Int) + ((256 ^ (j + n) : Nat) : Int) * top + ((256 ^ j * g * D : Nat) : Int) = ev 256 (r.take (j + 1 + n))) (htop : 0 ≤ top) (hg : ev 256 (r.take (j + 1 + n)) / (256 ^ j * D) ≤ g) :
  top = 0 ∧ lx L X D n j (r1.set (j + n) 0) (Q + g * 256 ^ j) := by
 obtain ⟨tp, rfl⟩ : ∃ k : Nat, top = (k : Int) := ⟨top.toNat, by omega⟩
 have hs : ev 256 (r1.take (j + n)) + 256 ^ (j + n) * tp + 256 ^ j * g * D = ev 256 (r.take (j + 1 + n)) := by
  apply Int.ofNat_inj.1
  rw [Ec, Ec, Bx]; exact hsum
 obtain ⟨W, hW⟩ : ∃ W, W = ev 256 (r.take (j + 1 + n)) := ⟨_, rfl⟩
 obtain ⟨E, hE⟩ : ∃ E, E = ev 256 (r1.take (j + n)) := ⟨_, rfl⟩
 rw [← hW] at hs hg
 rw [← hE] at hs
 have hlt := h.lt
 rw [← hW] at hlt
 have hDp : 0 < D := by
  rcases B0 D with e | e
  ·rw [e] at hlt; omega
  ·exact e
 obtain ⟨V, hV⟩ : ∃ V, V = 256 ^ j * D := ⟨_, rfl⟩
 have hVp : 0 < V := by rw [hV]; exact Nat.mul_pos (Cr (by decide)) hDp
 have e1 : 256 ^ j * g * D = g * V := by rw [hV, Aj (256 ^ j) g, Au]
 rw [← hV] at hg
 rw [e1] at hs
 have hgq : g = W / V := Nat.le_antisymm ((Nat.le_div_iff_mul_le hVp).2 (by omega)) hg
 have hT : E + 256 ^ (j + n) * tp = W % V := by
  have := Bc W V
  rw [Aj V, ← hgq] at this; omega
 have hTl := Ak W hVp
 have hVl : V < 256 ^ (j + n) := by rw [hV, Bg]; exact Nat.mul_lt_mul_of_pos_left hD (Cr (by decide))
 have htp : tp = 0 := by
  rcases B0 tp with e | e
  ·exact e
  ·have : 256 ^ (j + n) * 1 ≤ 256 ^ (j + n) * tp := B3 _ e; omega
 subst htp
 have hEV : E = W % V := by omega
 have hE2 : ev 256 ((r1.set (j + n) 0).take (j + n)) = E := by rw [ew r1 _ _ _ (Bd _), hE]
 refine ⟨rfl, by rw [C3]; exact hlen, o5 256 r1 hdig _ 0 (by decide), ?_, ?_, ?_⟩
 ·rw [hE2, h.sum, ← hW, Be]
  have : g * 256 ^ j * D = g * V := by rw [hV, Au]
  omega
 ·rw [hE2, ← hV]; omega
 ·have h1 := h.dvd
  obtain ⟨q, hq⟩ := Nat.dvd_of_mod_eq_zero h1
  rw [hq, As, Au, Aj g, ← Bf]; exact Nat.mul_mod_right _ _
theorem u6 {W A D E P g : Nat} {top : Int} (hsum : (E : Int) + (P : Int) * top + ((A * g * D : Nat) : Int) = W) (hE : E < P) (ht : top < 0) : W < g * (A * D) := by
 have h1 : (P : Int) * top ≤ (P : Int) * (-1) := Int.mul_le_mul_of_nonneg_left (by omega) (by omega)
 have e : A * g * D = g * (A * D) := by rw [Aj A g, Au]
 rw [e] at hsum
 omega
theorem xN {m g n D cy bw : Nat} {r d r2 : List Nat} (h : lv 256 m g r d n r2 cy bw) (hd : ev 256 (d.take n) = D) (hl : m + n < r.length) :
  (ev 256 (r2.take (m + n)) : Int) + ((256 ^ (m + n) : Nat) : Int) * ((r2.getD (m + n) 0 : Nat) - (cy : Int) - bw) + ((256 ^ m * g * D : Nat) : Int) = ev 256 (r.take (m + 1 + n)) := by
 have h1 := h.sum
 have h2 := fA h.high
 rw [hd] at h1
 rw [show m + 1 + n = m + n + 1 by omega, bi 256 r (m + n) hl, ← h2]
 generalize 256 ^ (m + n) = P at *
 generalize 256 ^ m * g * D = G at *
 generalize r2.getD (m + n) 0 = x at *
 generalize ev 256 (r2.take (m + n)) = E at *
 generalize ev 256 (r.take (m + n)) = F at *
 have e : (P : Int) * ((x : Int) - cy - bw) = ((P * x : Nat) : Int) - ((P * (cy + bw) : Nat) : Int) := by
  rw [Bx, Bx, Ec, Int.mul_sub, Int.mul_sub, Int.mul_add]; omega
 rw [e]; omega
theorem u7 {m g n D c : Nat} {W : Nat} {top : Int} {r3 d r4 : List Nat} (h : ly 256 m r3 d n r4 c) (hd : ev 256 (d.take n) = D) (hg : 1 ≤ g)
  (hs : (ev 256 (r3.take (m + n)) : Int) + ((256 ^ (m + n) : Nat) : Int) * top + ((256 ^ m * g * D : Nat) : Int) = W) :
  (ev 256 (r4.take (m + n)) : Int) + ((256 ^ (m + n) : Nat) : Int) * (top + c) + ((256 ^ m * (g - 1) * D : Nat) : Int) = W := by
 have h1 := h.sum
 rw [hd] at h1
 have e1 : 256 ^ m * g * D = 256 ^ m * (g - 1) * D + 256 ^ m * D := by
  obtain ⟨k, rfl⟩ : ∃ k, g = k + 1 := ⟨g - 1, by omega⟩
  rw [Ee, Bf, A0, Be]
 rw [e1] at hs
 rw [Int.mul_add]
 generalize 256 ^ (m + n) = P at *
 generalize 256 ^ m * (g - 1) * D = G at *
 generalize 256 ^ m * D = G' at *
 have e : (P : Int) * (c : Int) = ((P * c : Nat) : Int) := by rw [Bx]
 rw [e]; omega
theorem jx : ∀ (k x i : Nat), i < k → (be k x)[i]? = some (UInt8.ofNat (x / 256 ^ (k - 1 - i)))
 | 0, x, i, h => by omega
 | k + 1, x, 0, h => by rw [be, List.getElem?_cons_zero]; rfl
 | k + 1, x, i + 1, h => by rw [be, Ef, jx k x i (by omega), show k + 1 - 1 - (i + 1) = k - 1 - i by omega]
theorem jU {x y : Nat} (h : x % 256 = y % 256) : UInt8.ofNat x = UInt8.ofNat y := UInt8.toNat.inj (by rw [UInt8.toNat_ofNat', UInt8.toNat_ofNat']; exact h)
theorem zZ (L m Q g : Nat) (hm : m < L) (hg : g < 256) (hQ : Q % 256 ^ (m + 1) = 0) : (be L Q).set (L - 1 - m) (UInt8.ofNat g) = be L (Q + g * 256 ^ m) := by
 obtain ⟨q, rfl⟩ := Nat.dvd_of_mod_eq_zero hQ
 apply C7
 intro i
 rcases Cy i L with h | h
 ·rw [jx L _ i h]
  by_cases e : L - 1 - m = i
  ·subst e; rw [Da (by rw [aP]; omega), show L - 1 - (L - 1 - m) = m by omega]; congr 1; apply jU; rw [As, Au, Aj g, ← Bf, Dm _ (Cr (by decide))]; omega
  ·rw [Dl e, jx L _ i h]; congr 1; apply jU; obtain ⟨t, ht⟩ : ∃ t, t = L - 1 - i := ⟨_, rfl⟩; rw [← ht]
   rcases Cy t m with h1 | h1
   ·have e1 : 256 ^ (m + 1) * q = 256 ^ t * (256 * (256 ^ (m - t) * q)) := by
     rw [show m + 1 = t + (1 + (m - t)) by omega, Bg, Bg]; simp only [Au, Nat.pow_one]
    have e2 : g * 256 ^ m = 256 ^ t * (256 * (256 ^ (m - t - 1) * g)) := by
     rw [show m = t + (1 + (m - t - 1)) by omega, Bg, Bg, show t + (1 + (m - t - 1)) - t - 1 = m - t - 1 by omega]; simp only [Aj, Au, Bm, Nat.pow_one]
    rw [e1, e2, ← Bf, Dm _ (Cr (by decide)), Dm _ (Cr (by decide))]; omega
   ·obtain ⟨u, rfl⟩ : ∃ u, t = m + 1 + u := ⟨t - (m + 1), by omega⟩; congr 1
    rw [Bg 256 (m + 1) u, ← A4, ← A4, Dm _ (Cr (by decide)), Cn (Cr (by decide)), Bh (a := g * 256 ^ m) (by
     rw [As, Aj]; exact Nat.mul_lt_mul_of_pos_left hg (Cr (by decide))), Ba]
 ·rw [Df (by rw [C3, aP]; exact h), Df (by rw [aP]; exact h)]
theorem z7 (L m Q k : Nat) (hm : m < L) (hk : Q / 256 ^ m % 256 + k < 256) : (be L Q).set (L - 1 - m) (UInt8.ofNat (Q / 256 ^ m % 256 + k)) = be L (Q + k * 256 ^ m) := by
 apply C7
 intro i
 have hdv : (Q + k * 256 ^ m) / 256 ^ m = Q / 256 ^ m + k := by rw [Aj, Nat.add_mul_div_left _ _ (Cr (by decide))]
 rcases Cy i L with h | h
 ·rw [jx L _ i h]
  by_cases e : L - 1 - m = i
  ·subst e; rw [Da (by rw [aP]; omega), show L - 1 - (L - 1 - m) = m by omega, hdv]; congr 1; apply jU; omega
  ·rw [Dl e, jx L _ i h]; congr 1; apply jU; obtain ⟨t, ht⟩ : ∃ t, t = L - 1 - i := ⟨_, rfl⟩; rw [← ht]
   rcases Cy t m with h1 | h1
   ·have e2 : k * 256 ^ m = 256 ^ t * (256 * (256 ^ (m - t - 1) * k)) := by
     rw [show m = t + (1 + (m - t - 1)) by omega, Bg, Bg, show t + (1 + (m - t - 1)) - t - 1 = m - t - 1 by omega]; simp only [Aj, Au, Bm, Nat.pow_one]
    rw [e2, Nat.add_mul_div_left _ _ (Cr (by decide)), Nat.add_mul_mod_self_left]
   ·obtain ⟨u, rfl⟩ : ∃ u, t = m + 1 + u := ⟨t - (m + 1), by omega⟩; rw [Bg 256 (m + 1) u, As, ← A4, ← A4, ← A4, ← A4, hdv]; rw [show (Q / 256 ^ m + k) / 256 = Q / 256 ^ m / 256 by omega]
 ·rw [Df (by rw [C3, aP]; exact h), Df (by rw [aP]; exact h)]
theorem rV {A B t c : Nat} (hB : 0 < B) (hc : c = 2 * (A / 2 ^ (t + 1) % B) + A / 2 ^ t % 2) :
  (B ≤ c → A / 2 ^ t / B = 2 * (A / 2 ^ (t + 1) / B) + 1 ∧ A / 2 ^ t % B = c - B) ∧ (c < B → A / 2 ^ t / B = 2 * (A / 2 ^ (t + 1) / B) ∧ A / 2 ^ t % B = c) := by
 have h1 : A / 2 ^ (t + 1) = A / 2 ^ t / 2 := by rw [As, A4]
 rw [h1] at hc ⊢
 generalize A / 2 ^ t = X at *
 have h2 := Bc (X / 2) B
 have h3 := Ak (X / 2) hB
 generalize X / 2 / B = u at *
 generalize X / 2 % B = R at *
 have hX : X = B * (2 * u) + c := by rw [Bm]; omega
 constructor
 ·intro h
  have hX2 : X = B * (2 * u + 1) + (c - B) := by rw [Bf]; omega
  rw [hX2]
  constructor
  ·rw [Cn hB, Bh (by omega), Ba]
  ·rw [Nat.mul_add_mod, Ah (by omega)]
 ·intro h
  rw [hX]
  constructor
  ·rw [Cn hB, Bh h, Ba]
  ·rw [Nat.mul_add_mod, Ah h]
theorem lL (i : Nat) : 2 ^ i = 2 ^ (i % 8) * 256 ^ (i / 8) := by
 rw [show (256 : Nat) = 2 ^ 8 from rfl, ← Du, ← Bg]; congr 1; omega
theorem pl (u t : Nat) : u * 2 ^ (t + 1) / 256 ^ (t / 8) % 256 + 2 ^ (t % 8) < 256 := by
 have e : u * 2 ^ (t + 1) = 256 ^ (t / 8) * (u * 2 ^ (t % 8 + 1)) := by
  rw [As, lL t, As]; simp only [Aj, Bm, Au]
 rw [e, Dm _ (Cr (by decide))]
 have h : t % 8 < 8 := Ak _ (by decide)
 rcases eR h with h | h | h | h | h | h | h | h <;> rw [h] <;> omega
theorem pb (R s i : Nat) (h : s < 8) : R / 256 ^ i % 256 = (R * 2 ^ s / 256 ^ i % 256 + R * 2 ^ s / 256 ^ (i + 1) % 256 * 256) / 2 ^ s % 256 := by
 have e1 : R * 2 ^ s / 256 ^ i / 2 ^ s = R / 256 ^ i := by
  rw [A4, Aj (256 ^ i), ← A4, Nat.mul_div_cancel _ (Cz s)]
 rw [As, ← A4, ← e1]
 generalize R * 2 ^ s / 256 ^ i = B
 rcases eR h with rfl | rfl | rfl | rfl | rfl | rfl | rfl | rfl <;> omega
theorem xO {L X D n Q : Nat} {r : List Nat} (h : lx L X D n 0 r Q) : Q = X / D ∧ ev 256 (r.take n) = X % D := by
 have h1 := h.sum; have h2 := h.lt
 rw [Az] at h1 h2
 rw [B1, Cm] at h2
 rw [h1]
 constructor
 ·rw [Aj, Cn (by omega), Bh h2, Ba]
 ·rw [Aj, Nat.mul_add_mod, Ah h2]
end Go.Proofs.YtkdlonihbjhhoaaGreatDoor
namespace Go.Proofs.YtkdlonihbjhhoaaGreatDoor
open Go.RowKit
set_option linter.unusedSimpArgs false
set_option linter.unusedVariables false
set_option maxHeartbeats 600000
set_option maxRecDepth 20000
theorem yb : ∀ x, x < 256 → Lib.bitLen x ≤ 8 := by decide +kernel
theorem sO : ∀ x, x < 256 → (x + 1) * 2 ^ (8 - Lib.bitLen x) ≤ 256 := by decide +kernel
theorem sP : ∀ x, x < 256 → x * 2 ^ (8 - Lib.bitLen x) < 256 := by decide +kernel
theorem pJ {x : Nat} (h : 0 < x) (h2 : x < 256) : 1 ≤ Lib.bitLen x := by rw [gr h (by omega)]; omega
theorem AY {c : UInt8} {w : World} :
  Cw 228 #[.int .u8 (c.toNat : Int)] w (.int .i64 ((8 - Lib.bitLen c.toNat : Nat) : Int)) := by
 have hc := c.toNat_lt
 have hb := yb c.toNat (by omega)
 refine En [] [(0, .int .u8 (c.toNat : Int))] Tryz.func228 I Tryz.ntmps228 I (Ac I (An _)) Fn (Cs (DT ?_)); refine Kc I (fun w hS => ut (x := c.toNat) (by assumption)) (Kq I (ed I I I (by omega)) (to ?_))
 exact GH
theorem wt {b : Bs} (h : Can b) (h0 : b ≠ []) : val b * 2 ^ (8 - Lib.bitLen (b.getD 0 default).toNat) < 256 ^ b.length := by
 cases b with
 | nil => exact absurd rfl h0
 | cons c s =>
  show (c.toNat * 256 ^ s.length + val s) * 2 ^ (8 - Lib.bitLen c.toNat) < 256 ^ (s.length + 1)
  have h1 := sP c.toNat c.toNat_lt
  have h2 := aL s
  have h3 : (c.toNat * 256 ^ s.length + val s) * 2 ^ (8 - Lib.bitLen c.toNat) < (c.toNat + 1) * 256 ^ s.length * 2 ^ (8 - Lib.bitLen c.toNat) :=
   Nat.mul_lt_mul_of_pos_right (by rw [Be, Cm]; omega) (Cz _)
  have h4 : (c.toNat + 1) * 2 ^ (8 - Lib.bitLen c.toNat) ≤ 256 := sO c.toNat c.toNat_lt
  have h5 : (c.toNat + 1) * 256 ^ s.length * 2 ^ (8 - Lib.bitLen c.toNat) = (c.toNat + 1) * 2 ^ (8 - Lib.bitLen c.toNat) * 256 ^ s.length := by
   rw [Au, Aj (256 ^ s.length), ← Au]
  have h6 : (c.toNat + 1) * 2 ^ (8 - Lib.bitLen c.toNat) * 256 ^ s.length ≤ 256 * 256 ^ s.length := Bk _ h4
  rw [As, Aj (256 ^ s.length)]; omega
theorem re (n : Nat) : (be n 0).map B = List.replicate n (.int .u8 0) := by
 have h : be n 0 = List.replicate n 0 := by
  induction n with
  | zero => rfl
  | succ n ih => rw [be, ih]; simp [D6]
 rw [h, List.map_replicate]; rfl
theorem mj {a b : Bs} {w : World} (ha : okN a) (hb : okN b) (hb0 : b ≠ []) :
  Cw 191 #[.string (S a), .string (S b)] w (.tuple #[.string (S (ae (val a / val b))), .string (S (ae (val a % val b)))]) := by
 have hal := ha.1; have hbl := hb.1
 have hvb : 0 < val b := Ct fun h => hb0 ((aM hb.2).1 h)
 refine En [] [(0, .string (S a)), (1, .string (S b))] Tryz.func191 I Tryz.ntmps191 I (Ac I (Ac I (An _))) Fn (Cs (Ka I (DR ?_))); refine Km I (Kc I (fun w hS => js (a := a) (b := b) (by exact ha.2) (by exact hb.2)) (Ew (fun hc32 => ?_) (fun hc32 => ?_)))
 ·have hlt : val a < val b := (ax _ _).1 hc32
  refine Cs (Km I (Ka I (ne ?_)))
  exact R2 I I I (by rw [Bh hlt, Ah hlt, ei, bB ha]; rfl)
 ·have hge : val b ≤ val a := Nat.not_lt.1 fun h => absurd ((ax _ _).2 h) (by omega)
  have hlen : b.length ≤ a.length := iY hb.2 ha.2 hge
  refine Fe ?_; refine Yn I u22 (Ym I (Nt (Ci I (fun hc36 => ?_) (fun hc36 => ?_))))
  ·have hsa : aQ a = (val a, true) := by rw [aQ, Ab ⟨ha, by omega⟩]
   have hsb : aQ b = (val b, true) := by rw [aQ, Ab ⟨hb, by omega⟩]
   have hva8 : val a < 18446744073709551616 := dQ (by omega); have hdv := Bw (val a) (val b); have hmd := Ak (val a) hvb; refine Cs (Km I (Kc I (fun w hS => (by have := ex (w := w) (a := a) (by omega); rw [hsa] at this; exact this)) (BY ?_))); refine Cs (Km I (Kc I (fun w hS => (by have := ex (w := w) (a := b) (by omega); rw [hsb] at this; exact this)) (BY ?_))); refine Cq (Cf [0, 1, 2, 3, 4, 5, 6, 7, 8, 9] [] [0, 0, 0, 1, 0, 0, 0, 1, 0, 0] (by kernel_rfl) (by kernel_rfl) I ?_); refine DW ?_; refine Kj I (cF I I I ?_) ?_
   ·omega
   refine Jv I I I I I (fun ext => Oc I I (Kv fun w hS => f8 (n := val a / val b) (by omega))) ?_; refine DW ?_; refine Kj I (bt I I I ?_) ?_
   ·assumption
   refine Jv I I I I I (fun ext => Oc I I (Kv fun w hS => f8 (n := val a % val b) (by omega))) ?_; refine ES ?_; refine ES ?_; refine WJ.nil ?_; refine Nt (Ce (Xb ?_)); exact R2 I I I (by rfl)
  ·obtain ⟨s, hs⟩ : ∃ s, s = 8 - Lib.bitLen (b.getD 0 default).toNat := ⟨_, rfl⟩; have hcb := (iZ b).1 hb.2; have hbp : 0 < b.length := C8.2 hb0; have hs8 : s < 8 := by have := pJ (x := (b.getD 0 default).toNat) (by omega) (b.getD 0 default).toNat_lt; omega
   have hfit := wt hb.2 hb0; rw [← hs] at hfit; obtain ⟨D, hD⟩ : ∃ D, D = val b * 2 ^ s := ⟨_, rfl⟩; rw [← hD] at hfit
   have hdg : ∀ (x k : Nat), x / 256 ^ k % 256 * 2 ^ s < 65536 := fun x k => by
    have h1 : x / 256 ^ k % 256 < 256 := Ak _ (by decide); generalize x / 256 ^ k % 256 = y at *
    rcases eR hs8 with rfl | rfl | rfl | rfl | rfl | rfl | rfl | rfl <;> omega
   have hdg2 : ∀ (x k : Nat), x / 256 ^ k % 256 < 256 := fun x k => Ak _ (by decide)
   refine FN ?_; refine Kq I (iu I I I u22 (by assumption)) ?_; refine Kc I (fun w hS => AY (c := b.getD 0 default)) (Ns 57 I (v' := .int .i64 ((s : Nat) : Int)) (congrArg (Value.int .i64) (by rw [hs])) ?_); refine Ka I (Nt (Cs (Km I (Yn I u22 (Ka I (Nt (Cs (Km I (Kh I (ef I I I u38 (by kernel_rfl : _ = some (some (.int .i64 0), 1, 8)) I ?_ (by (try simp only [sN, Int.reduceToNat, Nat.reduceAdd, Nat.reduceMul, Nat.reduceSub]); rfl) (by (try simp only [sN, Int.reduceToNat, Nat.reduceAdd, Nat.reduceMul, Nat.reduceSub]); rfl)) ?_)))))))))
   ·omega
   intro b61; refine DR ?_; refine Km I (Nt (Cb (Lo (σ := Nat) [(0, _), (1, _), (10, _), (11, _), (12, _), (62, _)] (fun gq => [(63, .int .i64 (gq : Int))]) (fun gq => gq ≤ b.length) (fun gq => b.length - gq) (fun gq => [⟨some b61, cn (br D gq ++ List.replicate (b.length - gq) 0), 3⟩]) (fun gq => []) (0) (S6 I I I I I I) (S1 I) (by (try dsimp only); omega) (by exact fun w h => by rw [show br D 0 ++ List.replicate (b.length - 0) 0 = List.replicate b.length 0 from rfl, iW]; exact h) ?_))); rintro k hinv1; (try dsimp only at hinv1 ⊢); obtain hk := hinv1; refine DP (fun hc64 => ?_) (fun hc64 => ?_)
   ·have hd1 := hdg (val b) k; have hd2 := hdg2 (val b) k; have hll : (br D k ++ List.replicate (b.length - k) 0).length = b.length := by rw [A5, bq, Ei]; omega
    refine Ck (Xa (WC.joinO (σ := Unit) [(0, _), (1, _), (10, _), (11, _), (12, _), (62, _), (63, _)] (fun gq => []) (fun gq => True) (fun gq => [⟨some b61, cn (br D (k + 1) ++ List.replicate (b.length - (k + 1)) 0), 3⟩]) (fun gq => []) (S7 I I I I I I I) ?_ ?_))
    ·skip
     refine Cb (Cs (Km I (DT ?_))); refine Km I (Km I (Gu ?_)); refine Km I (Kq I (fp I I I (by (show _ ≤ 64; omega)) (by omega)) ?_); refine Kq I (dG 8 I I I (by decide) ?_) ?_
     ·omega
     refine Eu ?_; refine Ng I I (st I I I .tc (by kernel_rfl) I ?_ (by rfl)) ?_
     ·rw [dj, hll]; omega
     intro _; rw [di]; refine Nt (Cs (Km I (FR (fun hc76 => ?_) (fun hc76 => ?_))))
     ·have hk1 : k - 1 + 1 = k := by omega
      have hsc := nW (val b) s (k - 1) hs8; have hsp := nV (val b) s (k - 1) hs8; rw [hk1] at hsc hsp; rw [← hD] at hsc; have hd3 := hdg2 (val b) (k - 1); refine Cf [4, 5, 6, 7, 0, 1, 2, 3, 8, 9, 10, 11, 12] [13] [0, 0, 0, 0, 0, 0, 0, 1, 0, 0, 0, 0, 0, 2] (by kernel_rfl) (by kernel_rfl) I ?_; refine DW ?_; refine Kj I (av I I I (by omega)) ?_; refine Jv I I I I I (fun ext => Oc I I (Kv fun w hS => dh (a := b) (i := k - 1) (by omega) (by omega))) ?_; refine DW ?_; refine Et ?_; refine Kj I (ld I I .tc u3 I (bg _ _ (by rw [C3, hll]; omega))) ?_; refine WJ.set 80 I (v' := .int .i64 ((val b / 256 ^ k % 256 * 2 ^ s % 2 ^ 8 : Nat) : Int)) (congrArg (Value.int .i64) (by rw [eE _ _ _ (by rw [hll]; omega)])) ?_; refine ER ?_; refine Kj I (ed I I I (by omega)) ?_; refine Kj I (bA I I I (by (show _ ≤ 64; omega))) ?_; refine Kj I (kJ s I I I ?_) ?_
      ·exact ⟨hsp.2.1, by omega, hsp.1, by omega⟩
      refine Et ?_; refine WJ.nil ?_; refine Ng I I (st I I I .tc (by kernel_rfl) I ?_ (by rfl)) ?_
      ·rw [dj, C3, hll]; omega
      intro _; rw [di, List.set_set]; refine Nn (Xd (WX.joinO (()) (S7 I I I I I I I) (S0 _) ?_ (by exact fun w h => by rw [← iV D b.length k (by omega), hsc]; exact h))); (try dsimp only); done
     ·obtain rfl : k = 0 := by omega
      have hsc := lQ (val b) s; rw [← hD] at hsc; refine Ck (Xd (WX.joinO (()) (S7 I I I I I I I) (S0 _) ?_ (by exact fun w h => by rw [← iV D b.length 0 (by omega), hsc]; exact h))); (try dsimp only); done
    ·rintro _ hmeet; (try dsimp only at hmeet ⊢); refine Cg (Kq I (Rz I I I (by omega)) (Km I (Nn (Lx (k + 1) (by (try dsimp only); omega) (S6 I I I I I I) (by refine (Sc ?_ (S0 _)) <;> (rfl)) ?_ (fun _ h => h))))); (try dsimp only); omega
   ·refine AT ?_; obtain rfl : k = b.length := by omega
    rw [show List.replicate (b.length - b.length) 0 = ([] : List Nat) by rw [C0]; rfl, Bl]; obtain ⟨X, hX⟩ : ∃ X, X = val a * 2 ^ s := ⟨_, rfl⟩; refine Xa (Cs (Km I (Yn I u22 (F7 ?_)))); refine Kh I (ef I I I u38 (by kernel_rfl : _ = some (some (.int .i64 0), 1, 8)) I ?_ (by (try simp only [sN, Int.reduceToNat, Nat.reduceAdd, Nat.reduceMul, Nat.reduceSub]); rfl) (by (try simp only [sN, Int.reduceToNat, Nat.reduceAdd, Nat.reduceMul, Nat.reduceSub]); rfl)) ?_
    ·omega
    intro b94; refine DR ?_; refine Yo I u38 (Km I (Nt (Cb (Lo (σ := Nat) [(0, _), (10, _), (11, _), (12, _), (14, _), (96, _)] (fun gq => [(97, .int .i64 (gq : Int))]) (fun gq => gq ≤ a.length + 1) (fun gq => a.length + 1 - gq) (fun gq => [⟨some b94, cn (br X gq ++ List.replicate (a.length + 1 - gq) 0), 3⟩, ⟨some b61, cn (br D b.length), 3⟩]) (fun gq => []) (0) (S6 I I I I I I) (S1 I) (by (try dsimp only); omega) (by exact fun w h => by rw [show br X 0 ++ List.replicate (a.length + 1 - 0) 0 = List.replicate (a.length + 1) 0 from rfl, iW]; exact h) ?_)))); rintro k hinv2; (try dsimp only at hinv2 ⊢); obtain hk := hinv2; refine DP (fun hc98 => ?_) (fun hc98 => ?_)
    ·have hd1 := hdg (val a) k; have hd2 := hdg2 (val a) k; have hll : (br X k ++ List.replicate (a.length + 1 - k) 0).length = a.length + 1 := by rw [A5, bq, Ei]; omega
     refine Ck (Xa (WC.joinO (σ := Unit) [(0, _), (10, _), (11, _), (12, _), (14, _), (96, _), (97, _)] (fun gq => []) (fun gq => True) (fun gq => [⟨some b94, cn (br X (k + 1) ++ List.replicate (a.length + 1 - (k + 1)) 0), 3⟩, ⟨some b61, cn (br D b.length), 3⟩]) (fun gq => []) (S7 I I I I I I I) ?_ ?_))
     ·skip
      refine Cb (Cs (Km I (DT ?_))); refine Km I (Km I (Ge ?_)); refine Kq I (fp I I I (by (show _ ≤ 64; omega)) (by omega)) ?_; refine Kq I (dG 8 I I I (by decide) ?_) ?_
      ·omega
      refine Eu ?_; refine Ng I I (st I I I .tc (by kernel_rfl) I ?_ (by rfl)) ?_
      ·rw [dj, hll]; omega
      intro _; rw [di]; refine Nt (Cs (Km I (FR (fun hc110 => ?_) (fun hc110 => ?_))))
      ·have hk1 : k - 1 + 1 = k := by omega
       have hsc := nW (val a) s (k - 1) hs8; have hsp := nV (val a) s (k - 1) hs8; rw [hk1] at hsc hsp; rw [← hX] at hsc; have hd3 := hdg2 (val a) (k - 1); refine Cf [4, 5, 6, 7, 0, 1, 2, 3, 8, 9, 10, 11, 12] [13] [0, 0, 0, 0, 0, 0, 0, 1, 0, 0, 0, 0, 0, 2] (by kernel_rfl) (by kernel_rfl) I ?_; refine DW ?_; refine Kj I (av I I I (by omega)) ?_; refine Jv I I I I I (fun ext => Oc I I (Kv fun w hS => dh (a := a) (i := k - 1) (by omega) (by omega))) ?_; refine DW ?_; refine Et ?_; refine Kj I (ld I I .tc u3 I (bg _ _ (by rw [C3, hll]; omega))) ?_; refine WJ.set 114 I (v' := .int .i64 ((val a / 256 ^ k % 256 * 2 ^ s % 2 ^ 8 : Nat) : Int)) (congrArg (Value.int .i64) (by rw [eE _ _ _ (by rw [hll]; omega)])) ?_; refine ER ?_; refine Kj I (ed I I I (by omega)) ?_; refine Kj I (bA I I I (by (show _ ≤ 64; omega))) ?_; refine Kj I (kJ s I I I ?_) ?_
       ·exact ⟨hsp.2.1, by omega, hsp.1, by omega⟩
       refine Et ?_; refine WJ.nil ?_; refine Ng I I (st I I I .tc (by kernel_rfl) I ?_ (by rfl)) ?_
       ·rw [dj, C3, hll]; omega
       intro _; rw [di, List.set_set]; refine Nn (Xd (WX.joinO (()) (S7 I I I I I I I) (S0 _) ?_ (by exact fun w h => by rw [← iV X (a.length + 1) k (by omega), hsc]; exact h))); (try dsimp only); done
      ·obtain rfl : k = 0 := by omega
       have hsc := lQ (val a) s; rw [← hX] at hsc; refine Ck (Xd (WX.joinO (()) (S7 I I I I I I I) (S0 _) ?_ (by exact fun w h => by rw [← iV X (a.length + 1) 0 (by omega), hsc]; exact h))); (try dsimp only); done
     ·rintro _ hmeet; (try dsimp only at hmeet ⊢); refine Cg (Kq I (Rz I I I (by omega)) (Km I (Nn (Lx (k + 1) (by (try dsimp only); omega) (S6 I I I I I I) (by refine (Sc ?_ (S0 _)) <;> (rfl)) ?_ (fun _ h => h))))); (try dsimp only); omega
    ·refine AT ?_; obtain rfl : k = a.length + 1 := by omega
     rw [show List.replicate (a.length + 1 - (a.length + 1)) 0 = ([] : List Nat) by rw [C0]; rfl, Bl]
     have hXl : X < 256 ^ (a.length - b.length + 1) * D := by
      have h1 := aL a; have h2 := nG hb.2 hb0; rw [hX, hD, ← Au]; refine Nat.mul_lt_mul_of_pos_right ?_ (Cz s); refine Ay h1 (Br ?_ (B3 _ h2)); rw [← Bg]; exact A2 (by decide) (by omega)
     have hXL : X < 256 ^ (a.length + 1) := by
      have h1 := aL a; rw [hX, As]; exact Dz h1 (by rcases eR hs8 with h | h | h | h | h | h | h | h <;> rw [h] <;> decide)
     have hdi0 := sD (L := a.length + 1) (X := X) (D := D) (n := b.length) (t := a.length - b.length + 1) (by omega) hXl hXL; have hDev : ev 256 (br D b.length) = D := by rw [nB, Ah hfit]
     have hDt : 0 < (br D b.length).getD (b.length - 1) 0 := by
      have h2 := nG hb.2 hb0; have h3 : val b * 1 ≤ val b * 2 ^ s := B3 _ (Cz s)
      rw [vd _ _ _ (by omega), Ah (by
       rw [Ca (Cr (by decide)), ← Nat.pow_succ', show (b.length - 1).succ = b.length by omega]; exact hfit)]
      exact Nat.div_pos (by omega) (Cr (by decide))
     have hDl := cm 256 (by decide) _ (gN D b.length) (b.length - 1); have hDp : 0 < D := by rw [hD]; exact Nat.mul_pos hvb (Cz s)
     refine Xa (Cs (Km I (Yn I u22 (Km I (Kq I (aS I I I (by omega)) (F7 ?_)))))); refine Kh I (ef I I I aE (by kernel_rfl : _ = some (some (.int .u8 0), 1, 1)) I ?_ (by (try simp only [sN, Int.reduceToNat, Nat.reduceAdd, Nat.reduceMul, Nat.reduceSub]); rfl) (by (try simp only [sN, Int.reduceToNat, Nat.reduceAdd, Nat.reduceMul, Nat.reduceSub]); rfl)) ?_
     ·omega
     intro b130; refine DR ?_; refine Yn I u22 (Km I (Kq I (aS I I I (by omega)) (Ka I (Nt (Cb (Lo (σ := Nat × (List Nat) × Nat × Int) [(10, _), (11, _), (12, _), (14, _), (16, _)] (fun gq => [(17, .int .i64 gq.2.2.2)]) (fun gq => gq.1 ≤ a.length - b.length + 1 ∧ lx (a.length + 1) X D b.length gq.1 gq.2.1 gq.2.2.1 ∧ gq.2.2.1 < 256 ^ (a.length - b.length + 1) ∧ gq.2.2.2 = (gq.1 : Int) - 1 ∧ (gq.1 < a.length - b.length + 1 → gq.2.1.getD (gq.1 + b.length) 0 = 0)) (fun gq => gq.1) (fun gq => [⟨some b130, (be (a.length - b.length + 1) gq.2.2.1).map B, 5⟩, ⟨some b94, cn gq.2.1, 3⟩, ⟨some b61, cn (br D b.length), 3⟩]) (fun gq => []) (a.length - b.length + 1, br X (a.length + 1), 0, ((a.length - b.length : Nat) : Int)) (S5 I I I I I) (S1 I) (by (try dsimp only); exact ⟨by omega, hdi0, Cr (by decide), by omega, fun h => absurd h (by omega)⟩) (by exact fun w h => by rw [show (be (a.length - b.length + 1) 0).map B = List.replicate (a.length - b.length + 1) (.int .u8 0) from re _]; exact h) ?_)))))); rintro ⟨t, r, Q, j⟩ hinv3; (try dsimp only at hinv3 ⊢); obtain ⟨ht, hdi, hQ, hj, hz⟩ := hinv3; refine Cq (Cs (Km I (E7 (fun hc136 => ?_) (fun hc136 => ?_))))
     ·obtain ⟨m, rfl⟩ : ∃ m, t = m + 1 := ⟨t - 1, by omega⟩; refine WC.set 17 I (v' := .int .i64 ((m : Nat) : Int)) (by rw [hj]; congr 1; omega) ?_; have hrl := hdi.len; have hr1 := cm 256 (by decide) _ hdi.dig (m + b.length); have hr0 := cm 256 (by decide) _ hdi.dig (m + b.length - 1); obtain ⟨gu, hg⟩ : ∃ g, g = min ((r.getD (m + b.length) 0 * 2 ^ 8 + r.getD (m + b.length - 1) 0) / (br D b.length).getD (b.length - 1) 0) 255 := ⟨_, rfl⟩; have hgl : gu < 256 := by omega
      have hgg := uI (β := 256) (j := m) (n := b.length) (q := ev 256 (r.take (m + 1 + b.length)) / (256 ^ m * D)) (d := br D b.length) (by decide) hbp (bq D _) (by omega) hdi.dig (show ev 256 (r.take (m + 1 + b.length)) = _ by rw [show m + 1 + b.length = m + b.length + 1 by omega]) hDev.symm hDt (D4 _ _) hdi.lt; obtain ⟨qq, hqq⟩ : ∃ qq, qq = ev 256 (r.take (m + 1 + b.length)) / (256 ^ m * D) := ⟨_, rfl⟩; rw [← hqq] at hgg; have hgq : qq ≤ gu := by rw [hg]; exact Nat.le_min.2 ⟨hgg.1, C6 hgg.2⟩
      have hVp : 0 < 256 ^ m * D := Nat.mul_pos (Cr (by decide)) hDp; refine Ck (Xa (Cq (Cb (Cq (Cf [0, 1, 2, 3, 4, 5, 6, 7, 8, 9, 10, 11, 12, 13, 14, 15, 16, 17, 18, 19, 20, 21, 22] [] [0, 0, 0, 0, 0, 0, 0, 0, 0, 0, 0, 0, 0, 0, 0, 0, 0, 0, 0, 0, 0, 0, 0] (by kernel_rfl) (by kernel_rfl) I ?_))))); refine DW ?_; refine ER ?_; refine FZ ?_; refine Et ?_; refine Kj I (ld I I .tc u3 I (bg r _ (by omega))) ?_; refine Kj I (fp (c := 8) I I I (by decide) (by omega)) (DW ?_); refine ER ?_; refine FZ ?_; refine Kj I (av I I I (by omega)) ?_; refine Et ?_; refine Kj I (ld I I .tc u3 I (bg r _ (by omega))) ?_; refine Kj I (kJ 8 I I I ?_) ?_
      ·omega
      refine DW ?_; refine Kj I (av I I I (by omega)) ?_; refine Et ?_; refine Kj I (ld I I .tc u3 I (bg (br D b.length) _ (by rw [bq]; omega))) ?_; refine Kj I (lS I I I (by omega)) (Kj I (wU I I I) ?_); refine WJ.set 160 I (v' := .int .i64 ((gu : Nat) : Int)) (congrArg (Value.int .i64) (by rw [hg]; omega)) ?_; refine ES ?_; refine WJ.nil ?_; refine Nt (Cs (Ka I (DR ?_))); refine Km I (Nt (Cb (Lo (σ := Nat × (List Nat) × Nat × Nat) [(10, _), (11, _), (12, _), (14, _), (16, _), (17, _), (18, _), (161, _)] (fun gq => [(19, .int .i64 (gq.2.2.1 : Int)), (20, .int .i64 (gq.2.2.2 : Int)), (162, .int .i64 (gq.1 : Int))]) (fun gq => gq.1 ≤ b.length ∧ lv 256 m gu r (br D b.length) gq.1 gq.2.1 gq.2.2.1 gq.2.2.2) (fun gq => b.length - gq.1) (fun gq => [⟨some b130, (be (a.length - b.length + 1) Q).map B, 5⟩, ⟨some b94, cn gq.2.1, 3⟩, ⟨some b61, cn (br D b.length), 3⟩]) (fun gq => []) (0, r, 0, 0) (S8 I I I I I I I I) (S3 I I I) (by (try dsimp only); exact ⟨Ai _, rp (by decide) hdi.dig⟩) (fun _ h => h) ?_))); rintro ⟨i, r2, cy, bw⟩ hinv4; (try dsimp only at hinv4 ⊢); obtain ⟨hi, hsi⟩ := hinv4; refine DP (fun hc163 => ?_) (fun hc163 => ?_)
      ·have hr2l := hsi.len; have hcyl := hsi.cyl; have hbwl := hsi.bwl; have hdil := cm 256 (by decide) _ (gN D b.length) i; have hr2d := cm 256 (by decide) _ hsi.dig (m + i); have hgd : gu * (br D b.length).getD i 0 ≤ 65025 := Dw (by omega : gu ≤ 255) (by omega : (br D b.length).getD i 0 ≤ 255); rw [Dp m i] at hr2d; refine El ?_; refine DT ?_; refine Km I (Km I (Km I (Eu ?_))); refine Kq I (ld I I .tc u3 I (bg (br D b.length) _ (by rw [bq]; omega))) ?_; refine Kq I (gE I I I (by omega)) (Fq ?_); refine DT ?_; refine Km I (Km I (Fq ?_)); refine Eu ?_; refine Kq I (ld I I .tc u3 I (bg r2 _ (by omega))) ?_; refine Km I (Kq I (dG 8 I I I (by decide) ?_) ?_)
       ·omega
       refine FG ?_; refine Km I (FG ?_); refine DT ?_; refine Kq I (bA (c := 8) I I I (by decide)) (Ka I (Nt (Cs (Ka I (Nt (WC.joinP (σ := Nat × Nat) [(10, _), (11, _), (12, _), (14, _), (16, _), (17, _), (18, _), (19, _), (21, _), (161, _), (162, _)] (fun gq => [(22, .int .i64 (gq.1 : Int)), (20, .int .i64 (gq.2 : Int)), (19, .int .i64 ((cy + gu * (br D b.length).getD i 0) / 256 : Nat))]) (fun gq => gq.1 + (cy + gu * (br D b.length).getD i 0) % 256 + bw = r2.getD (i + m) 0 + 256 * gq.2 ∧ gq.1 < 256 ∧ gq.2 ≤ 1) (Sc I (Sc I (Sc I (Sc I (Sc I (Sc I (Sc I (Sc I (Sc I (Sc I (Sc I (S0 _)))))))))))) ?_ ?_))))))
       ·skip
        refine Cs (Km I (Ew (fun hc187 => ?_) (fun hc187 => ?_)))
        ·refine Cs (Km I (Kq I (bf I I I (by omega)) (Ka I (Nt (Cg (Ka I (Nn (WX.joinP (((((r2.getD (i + m) 0 : Nat) : Int) - ((cy + gu * (br D b.length).getD i 0) % 256 : Nat) - bw + 256).toNat, 1)) (Sc I (Sc I (Sc I (Sc I (Sc I (Sc I (Sc I (Sc I (Sc I (Sc I (Sc I (S0 _)))))))))))) (by refine (Sc ?_ (Sc ?_ (Sc ?_ (S0 _)))) <;> (first | rfl | (refine tv rfl ?_; (try dsimp only); omega))) ?_ (fun _ h => h))))))))); (try dsimp only); omega
        ·refine Ck (WX.joinP (((((r2.getD (i + m) 0 : Nat) : Int) - ((cy + gu * (br D b.length).getD i 0) % 256 : Nat) - bw).toNat, 0)) (Sc I (Sc I (Sc I (Sc I (Sc I (Sc I (Sc I (Sc I (Sc I (Sc I (Sc I (S0 _)))))))))))) (by refine (Sc ?_ (Sc ?_ (Sc ?_ (S0 _)))) <;> (first | rfl | (refine tv rfl ?_; (try dsimp only); omega))) ?_ (fun _ h => h)); (try dsimp only); omega
       ·rintro ⟨y, bw'⟩ hmeet; (try dsimp only at hmeet ⊢); obtain ⟨hy1, hy2, hy3⟩ := hmeet; refine Cg (Km I (Km I (Km I (Fq ?_)))); refine Km I (Eu ?_); refine Ng I I (st I I I .tc (by kernel_rfl) I ?_ (by rfl)) ?_
        ·rw [dj]; omega
        intro _; rw [di]; refine Nn (Xd (Xa (Cg (Kq I (Rz I I I (by omega)) (Km I (Nn (Lx ((i + 1, r2.set (i + m) y, (cy + gu * (br D b.length).getD i 0) / 256, bw')) (by (try dsimp only); omega) (S8 I I I I I I I I) (by refine (Sc ?_ (Sc ?_ (Sc ?_ (S0 _)))) <;> (rfl)) ?_ (fun _ h => h)))))))); (try dsimp only); exact ⟨by omega, by rw [Dp i m]; exact tn hsi (by decide) hgl (by rw [bq]; omega) (gN D b.length) (by omega) (by rw [Dp m i]; exact hy1) hy2 hy3⟩
      ·refine AT ?_; obtain rfl : i = b.length := by omega
       have hr2l := hsi.len; have hcyl := hsi.cyl; have hbwl := hsi.bwl; have hr2d := cm 256 (by decide) _ hsi.dig (m + b.length); have hs0 := xN (D := D) hsi (by rw [A8 (by rw [bq]; exact Bd _)]; exact hDev) (by omega); refine Xa (FS ?_); refine Km I (Fq ?_); refine Eu ?_; refine Kq I (ld I I .tc u3 I (bg r2 _ (by omega))) ?_; refine Km I (FG ?_); refine Km I (FG ?_); refine Ka I (Nt (Cq (Cb (Lo (σ := Nat × (List Nat) × Int) [(10, _), (11, _), (12, _), (14, _), (16, _), (17, _)] (fun gq => [(18, .int .i64 (gq.1 : Int)), (23, .int .i64 gq.2.2)]) (fun gq => gq.2.1.length = a.length + 1 ∧ (∀ x ∈ gq.2.1, x < 256) ∧ ((ev 256 (gq.2.1.take (m + b.length)) : Nat) : Int) + ((256 ^ (m + b.length) : Nat) : Int) * gq.2.2 + ((256 ^ m * gq.1 * D : Nat) : Int) = (ev 256 (r.take (m + 1 + b.length)) : Nat) ∧ qq ≤ gq.1 ∧ gq.1 ≤ 255 ∧ -256 ≤ gq.2.2 ∧ gq.2.2 ≤ 255) (fun gq => gq.1) (fun gq => [⟨some b130, (be (a.length - b.length + 1) Q).map B, 5⟩, ⟨some b94, cn gq.2.1, 3⟩, ⟨some b61, cn (br D b.length), 3⟩]) (fun gq => []) (gu, r2, ((r2.getD (m + b.length) 0 : Nat) : Int) - cy - bw) (S6 I I I I I I) (S2 I I) (by (try dsimp only); exact ⟨by omega, hsi.dig, hs0, hgq, by omega, by omega, by omega⟩) (fun _ h => h) ?_))))
       rintro ⟨g, r3, top⟩ hinv5; (try dsimp only at hinv5 ⊢); obtain ⟨hl3, hd3, hs3, hq3, hg3, ht1, ht2⟩ := hinv5; refine Cq (Cs (Km I (Ew (fun hc208 => ?_) (fun hc208 => ?_))))
       ·have hWl := u6 hs3 (fD 256 r3 _ (by omega) hd3) (by omega); have hg1 : qq < g := by rw [hqq]; exact (Ca hVp).2 hWl
        refine Ck (Xa (Cb (Cs (Km I (Kq I (av I I I (by omega)) (Ns 210 I (v' := .int .i64 ((g - 1 : Nat) : Int)) (congrArg (Value.int .i64) (by omega)) (Ka I (Nt (Cs (DR ?_)))))))))); refine Km I (Nt (Cb (Lo (σ := Nat × (List Nat) × Nat) [(10, _), (11, _), (12, _), (14, _), (16, _), (17, _), (18, _), (23, _), (211, _)] (fun gq => [(24, .int .i64 (gq.2.2 : Int)), (212, .int .i64 (gq.1 : Int))]) (fun gq => gq.1 ≤ b.length ∧ ly 256 m r3 (br D b.length) gq.1 gq.2.1 gq.2.2) (fun gq => b.length - gq.1) (fun gq => [⟨some b130, (be (a.length - b.length + 1) Q).map B, 5⟩, ⟨some b94, cn gq.2.1, 3⟩, ⟨some b61, cn (br D b.length), 3⟩]) (fun gq => []) (0, r3, 0) (S9 I I I I I I I I I) (S2 I I) (by (try dsimp only); exact ⟨Ai _, sY hd3⟩) (fun _ h => h) ?_))); rintro ⟨k, r4, c⟩ hinv6; (try dsimp only at hinv6 ⊢); obtain ⟨hk, hai⟩ := hinv6; refine DP (fun hc213 => ?_) (fun hc213 => ?_)
        ·have hr4l := hai.len; have hcl := hai.cl; have hdk := cm 256 (by decide) _ (gN D b.length) k; have hrk := cm 256 (by decide) _ hai.dig (m + k); rw [Dp m k] at hrk; refine El ?_; refine Ka I (Nt (Cq (Cf [0, 1, 2, 3, 4, 5, 6, 7, 8, 9, 10, 11, 12, 13] [] [0, 0, 0, 0, 0, 0, 0, 0, 0, 0, 0, 0, 0, 0] (by kernel_rfl) (by kernel_rfl) I ?_))); refine DW ?_; refine DW ?_; refine FZ ?_; refine Et ?_; refine Kj I (ld I I .tc u3 I (bg r4 _ (by omega))) ?_; refine DW ?_; refine Et ?_; refine Kj I (ld I I .tc u3 I (bg (br D b.length) _ (by rw [bq]; omega))) ?_; refine FZ ?_; refine FZ ?_; refine ES ?_; refine WJ.nil ?_; refine Nt (Cs (Km I (Km I (Km I (Kq I (aA I I I (by omega)) (Km I (Kq I (dG 8 I I I (by decide) ?_) ?_)))))))
         ·omega
         refine Eu ?_; refine Ng I I (st I I I .tc (by kernel_rfl) I ?_ (by rfl)) ?_
         ·rw [dj]; omega
         intro _; rw [di]; refine Nt (Cg (Km I (Kq I (bA (c := 8) I I I (by decide)) (Ka I (Nn (Xd (Xa (Cg (Kq I (Rz I I I (by omega)) (Km I (Nn (Lx ((k + 1, r4.set (k + m) ((c + (r4.getD (k + m) 0 + (br D b.length).getD k 0)) % 256), (c + (r4.getD (k + m) 0 + (br D b.length).getD k 0)) / 256)) (by (try dsimp only); omega) (S9 I I I I I I I I I) (by refine (Sc ?_ (Sc ?_ (S0 _))) <;> (rfl)) ?_ (fun _ h => h))))))))))))); (try dsimp only); exact ⟨by omega, by rw [← Co, Dp k m]; exact vD hai (by decide) (by rw [bq]; omega) (gN D b.length) (by omega)⟩
        ·refine AT ?_; obtain rfl : k = b.length := by omega
         have hcl := hai.cl; have hr4l := hai.len; have hb4 := u7 (D := D) hai (by rw [A8 (by rw [bq]; exact Bd _)]; exact hDev) (by omega) hs3; refine Xa (Cg (Km I (Km I (Kq I (bf I I I (by omega)) (Ka I (Nn (Xd (Lx ((g - 1, r4, top + c)) (by (try dsimp only); omega) (S6 I I I I I I) (by refine (Sc ?_ (Sc ?_ (S0 _))) <;> (rfl)) ?_ (fun _ h => h))))))))); (try dsimp only); exact ⟨by omega, hai.dig, hb4, by omega, by omega, by omega, by omega⟩
       ·refine AT ?_; obtain ⟨ht0, hdi2⟩ := u1 hdi hfit (by omega) hl3 hd3 hs3 (by omega) (by rw [← hqq]; exact hq3); subst ht0
        have hQ2 : Q + g * 256 ^ m < 256 ^ (a.length - b.length + 1) := by
         have h1 := hdi2.sum; have h2 : (Q + g * 256 ^ m) * D < 256 ^ (a.length - b.length + 1) * D := by omega
         exact Nat.lt_of_mul_lt_mul_right h2
        refine Xa (FS ?_); refine Km I (Fq ?_); refine Km I (Eu ?_); refine Ng I I (st I I I .tc (by kernel_rfl) I ?_ (by rfl)) ?_
        ·rw [dj]; omega
        intro _; rw [show (cn r3).set (m + b.length) (.int .i64 0) = cn (r3.set (m + b.length) 0) from di r3 _ 0]; refine Nt (Cg (Km I (Km I (Yo I aE (Ev ?_))))); refine Km I (Kq I (iv I I u3 u5) (Ek ?_)); refine Ng I I (st I I I .tc (by kernel_rfl) I ?_ (by rfl)) ?_
        ·rw [Ag, aP]; omega
        intro _; refine Nn (Xd (Xa (Cg (Km I (Kq I (aJ I I I (by omega)) (Ka I (Nn (Lx ((m, r3.set (m + b.length) 0, Q + g * 256 ^ m, (m : Int) - 1)) (by (try dsimp only); omega) (S5 I I I I I) (by refine (Sc ?_ (S0 _)) <;> (rfl)) ?_ (by exact fun w h => by rw [← zZ (a.length - b.length + 1) m Q g (by omega) (by omega) hdi.dvd, List.map_set]; exact h))))))))); (try dsimp only); exact ⟨by omega, hdi2, hQ2, rfl, fun _ => eE r3 _ 0 (by omega)⟩
     ·refine AT ?_; obtain rfl : t = 0 := by omega
      obtain ⟨hq1, hq2⟩ := xO hdi; have hrl := hdi.len; obtain ⟨R, hR⟩ : ∃ R, R = val a % val b := ⟨_, rfl⟩; have hqe : Q = val a / val b := by rw [hq1, hX, hD, Nat.mul_div_mul_right _ _ (Cz s)]
      have hre : ev 256 (r.take b.length) = R * 2 ^ s := by rw [hq2, hX, hD, Nat.mul_mod_mul_right, hR]
      have hRl : R < 256 ^ b.length := by rw [hR]; exact Do (Ak _ hvb) (aL b)
      have hdg3 : ∀ i, i ≤ b.length → r.getD i 0 = R * 2 ^ s / 256 ^ i % 256 := fun i hi => by
       rw [← hre]
       rcases Cy i b.length with h | h
       ·rw [uT 256 (by decide) (r.take b.length) i (by rw [Bp]; omega) (fun x hx => hdi.dig x (List.mem_of_mem_take hx)), List.getD_eq_getElem?_getD, List.getD_eq_getElem?_getD, Cu, Ab h]
       ·obtain rfl : i = b.length := by omega
        have h1 := hz (by omega); rw [Az] at h1; rw [h1, Bh (fD 256 r _ (by omega) hdi.dig)]
      refine Xa (Cs (Km I (Kh I (ef I I I aE (by kernel_rfl : _ = some (some (.int .u8 0), 1, 1)) I ?_ (by (try simp only [sN, Int.reduceToNat, Nat.reduceAdd, Nat.reduceMul, Nat.reduceSub]); rfl) (by (try simp only [sN, Int.reduceToNat, Nat.reduceAdd, Nat.reduceMul, Nat.reduceSub]); rfl)) ?_)))
      ·omega
      intro b257; refine DR ?_; refine Km I (Nt (Cb (Lo (σ := Nat) [(10, _), (11, _), (14, _), (16, _), (26, _), (258, _)] (fun gq => [(259, .int .i64 (gq : Int))]) (fun gq => gq ≤ b.length) (fun gq => b.length - gq) (fun gq => [⟨some b257, fw b.length gq R, 5⟩, ⟨some b130, (be (a.length - b.length + 1) Q).map B, 5⟩, ⟨some b94, cn r, 3⟩]) (fun gq => []) (0) (S6 I I I I I I) (S1 I) (by (try dsimp only); omega) (by exact fun w h => by rw [show fw b.length 0 R = List.replicate b.length (.int .u8 0) from cN _ _]; exact au _ h) ?_))); rintro k hinv7; (try dsimp only at hinv7 ⊢); obtain hk := hinv7; refine DP (fun hc260 => ?_) (fun hc260 => ?_)
      ·have hrk := cm 256 (by decide) _ hdi.dig k; have hrk1 := cm 256 (by decide) _ hdi.dig (k + 1); have hrd := pb R s k hs8; rw [← hdg3 k (by omega), ← hdg3 (k + 1) (by omega)] at hrd; refine El ?_; refine DT ?_; refine Km I (Eu ?_); refine Kq I (ld I I .tc u3 I (bg r _ (by omega))) ?_; refine Ka I (Nt (Cq (Cs (Km I (Kq I (Rz I I I (by omega)) (Km I (Yo I u38 (Yl I (Nt (Cd I (fun hc270 => ?_) (fun hc270 => by exfalso; (try simp only [sB] at hc270); omega))))))))))); (try simp only [sB] at hc270); refine Cg (Km I (Km I (Km I (F7 ?_)))); refine Eu ?_; refine Kq I (ld I I .tc u3 I (bg r _ (by omega))) ?_; refine Kq I (fp (c := 8) I I I (by decide) (by omega)) ?_; refine Kq I (yW 8 I I I ?_) ?_
       ·omega
       refine Ka I (Nt (Cg (Km I (Km I (Ev ?_))))); refine Km I (Km I (Gk ?_)); refine Kq I (iv I I u3 u5) (Ns 287 I (v' := B (UInt8.ofNat (R / 256 ^ k))) (by exact congrArg (fun b : UInt8 => B b) (oU hrd.symm)) ?_); refine Ek ?_; refine Ng I I (st I I I .tc (by kernel_rfl) I ?_ (by rfl)) ?_
       ·rw [cd _ _ _ (by omega)]; omega
       intro _; refine Nn (Xd (Xa (Cg (Kq I (Rz I I I (by omega)) (Km I (Nn (Lx (k + 1) (by (try dsimp only); omega) (S6 I I I I I I) (by refine (Sc ?_ (S0 _)) <;> (rfl)) ?_ (by exact fun w h => by rw [← cb b.length k R (by omega)]; exact h)))))))); (try dsimp only); omega
      ·refine AT ?_; obtain rfl : k = b.length := by omega
       rw [ck]; have hbl1 := aP (a.length - b.length + 1) Q; have hbl2 := aP b.length R; refine Xa (Cs (Km I (Kc I (fun w hS => dV (b := be (a.length - b.length + 1) Q) (by (exact hS.os)) (by omega) (by omega) (by omega)) (Km I (Kc I (fun w hS => dV (b := be b.length R) (by (exact hS.os)) (by omega) (by omega) (by omega)) (Ka I (to ?_))))))); exact R2 I I I (by rw [dr, dr, Ah hQ, Ah hRl, hqe, hR]; rfl)
end Go.Proofs.YtkdlonihbjhhoaaGreatDoor
