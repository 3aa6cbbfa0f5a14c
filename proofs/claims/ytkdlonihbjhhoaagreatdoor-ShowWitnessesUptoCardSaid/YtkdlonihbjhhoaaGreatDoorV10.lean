/-
  Parts of the walk: Ntl4 NtlB Ntl5 Div Ntl6.
-/
import Derived.Test.YtkdlonihbjhhoaaGreatDoorV9
namespace Go.Proofs.YtkdlonihbjhhoaaGreatDoor
open Go.RowKit
set_option linter.unusedSimpArgs false
set_option linter.unusedVariables false
set_option maxHeartbeats 600000
set_option maxRecDepth 20000
theorem xP {β x0 x1 y0 y1 : Nat} (hβ : 0 < β) : (x1 * β + x0) * (y1 * β + y0) / (β * β) = x1 * y1 + (x1 * y0 + x0 * y0 / β) / β + ((x1 * y0 + x0 * y0 / β) % β + x0 * y1) / β := by
 have e1 := Nat.div_add_mod (x0 * y0) β
 have e2 := Nat.div_add_mod (x1 * y0 + x0 * y0 / β) β
 have e3 := Nat.div_add_mod ((x1 * y0 + x0 * y0 / β) % β + x0 * y1) β
 have l1 := Nat.mod_lt (x0 * y0) hβ
 have l3 := Nat.mod_lt ((x1 * y0 + x0 * y0 / β) % β + x0 * y1) hβ
 generalize x0 * y0 / β = a at *
 generalize x0 * y0 % β = p0 at *
 generalize (x1 * y0 + a) / β = w2 at *
 generalize (x1 * y0 + a) % β = t0 at *
 generalize (t0 + x0 * y1) / β = b at *
 generalize (t0 + x0 * y1) % β = w10 at *
 have e : (x1 * β + x0) * (y1 * β + y0) = β * β * (x1 * y1 + w2 + b) + (w10 * β + p0) := by
  have f1 : (x1 * β + x0) * (y1 * β + y0) = x1 * y1 * (β * β) + (x1 * y0 + x0 * y1) * β + x0 * y0 := by
   simp only [Nat.add_mul, Nat.mul_add, Nat.mul_assoc, Nat.mul_comm, Nat.mul_left_comm]; omega
  have f2 : (x1 * y0 + x0 * y1) * β + a * β = (β * w2 + (β * b + w10)) * β := by rw [← Nat.add_mul]; congr 1; omega
  have f3 : (β * w2 + (β * b + w10)) * β = β * β * w2 + β * β * b + w10 * β := by
   simp only [Nat.add_mul, Nat.mul_add, Nat.mul_assoc, Nat.mul_comm, Nat.mul_left_comm]; omega
  rw [f1, ← e1, Nat.mul_add, Nat.mul_add, Nat.mul_comm (x1 * y1)]
  rw [Nat.mul_comm β a]
  omega
 have l : w10 * β + p0 < β * β := by
  have : (w10 + 1) * β ≤ β * β := Nat.mul_le_mul_right _ l3
  rw [Nat.add_mul, Nat.one_mul] at this; omega
 rw [e, Nat.mul_add_div (Nat.mul_pos hβ hβ), Nat.div_eq_of_lt l, Nat.add_zero]
theorem ml {x y : Nat} {w : World} (hx : x < 18446744073709551616) (hy : y < 18446744073709551616) :
  Cw 155 #[.int .u64 (x : Int), .int .u64 (y : Int)] w (.tuple #[.int .u64 ((x * y / 18446744073709551616 : Nat) : Int), .int .u64 ((x * y % 18446744073709551616 : Nat) : Int)]) := by
 obtain ⟨x0, hx0⟩ : ∃ q, q = x % 2 ^ 32 := ⟨_, rfl⟩
 obtain ⟨x1, hx1⟩ : ∃ q, q = x / 2 ^ 32 := ⟨_, rfl⟩
 obtain ⟨y0, hy0⟩ : ∃ q, q = y % 2 ^ 32 := ⟨_, rfl⟩
 obtain ⟨y1, hy1⟩ : ∃ q, q = y / 2 ^ 32 := ⟨_, rfl⟩
 have hm : ∀ a b : Nat, a < 4294967296 → b < 4294967296 → a * b ≤ 18446744065119617025 := fun a b ha hb => Nat.mul_le_mul (by omega : a ≤ 4294967295) (by omega : b ≤ 4294967295)
 have h00 := hm x0 y0 (by omega) (by omega)
 have h10 := hm x1 y0 (by omega) (by omega)
 have h01 := hm x0 y1 (by omega) (by omega)
 have h11 := hm x1 y1 (by omega) (by omega)
 have hxe : x = x1 * 4294967296 + x0 := by omega
 have hye : y = y1 * 4294967296 + y0 := by omega
 have hhi := xP (β := 4294967296) (x0 := x0) (x1 := x1) (y0 := y0) (y1 := y1) (by decide)
 rw [← hxe, ← hye] at hhi
 refine En [] [(0, .int .u64 (x : Int)), (1, .int .u64 (y : Int))] Tryz.func155 rfl Tryz.ntmps155 rfl (Ac rfl (Ac rfl (An _))) Fn ?_
 refine Cs (Ka rfl (Ka rfl (Nt (Cs (Km rfl ?_)))))
 refine Kq rfl (dk 32 rfl rfl rfl (by decide) ?_) ?_
 ·omega
 refine Ns 15 rfl (v' := .int .u64 ((x0 : Nat) : Int)) (congrArg (Value.int .u64) (by rw [hx0])) ?_
 refine Ka rfl (Nt (Cs (Km rfl (Kq rfl (bq (c := 32) rfl rfl rfl (by decide)) ?_))))
 refine Ns 17 rfl (v' := .int .u64 ((x1 : Nat) : Int)) (congrArg (Value.int .u64) (by rw [hx1])) ?_
 refine Ka rfl (Nt (Cs (Km rfl ?_)))
 refine Kq rfl (dk 32 rfl rfl rfl (by decide) ?_) ?_
 ·omega
 refine Ns 19 rfl (v' := .int .u64 ((y0 : Nat) : Int)) (congrArg (Value.int .u64) (by rw [hy0])) ?_
 refine Ka rfl (Nt (Cs (Km rfl (Kq rfl (bq (c := 32) rfl rfl rfl (by decide)) ?_))))
 refine Ns 21 rfl (v' := .int .u64 ((y1 : Nat) : Int)) (congrArg (Value.int .u64) (by rw [hy1])) ?_
 refine Ka rfl (Nt (Cs (Km rfl (Km rfl (Kq rfl (bu rfl rfl rfl (by omega)) (Ka rfl (Nt (Cs (Km rfl (Km rfl (Kq rfl (bu rfl rfl rfl (by omega)) (Km rfl (Kq rfl (bq (c := 32) rfl rfl rfl (by decide)) (Kq rfl (bG rfl rfl rfl (by omega)) (Ka rfl (Nt (Cs (Km rfl ?_))))))))))))))))))
 refine Kq rfl (dk 32 rfl rfl rfl (by decide) ?_) ?_
 ·omega
 refine Ka rfl (Nt (Cs (Km rfl (Kq rfl (bq (c := 32) rfl rfl rfl (by decide)) (Ka rfl (Nt (Cs (Km rfl (Km rfl (Km rfl (Kq rfl (bu rfl rfl rfl (by omega)) (Kq rfl (bG rfl rfl rfl (by omega)) (Ka rfl (Nt (Cs (Km rfl (Km rfl (Kq rfl (bu rfl rfl rfl (by omega)) (Km rfl (Kq rfl (bG rfl rfl rfl (by omega)) (Km rfl (Kq rfl (bq (c := 32) rfl rfl rfl (by decide)) (Kq rfl (bG rfl rfl rfl (by omega)) (Ka rfl (Nt (Cs (Km rfl (Km rfl (Kq rfl (fX rfl rfl rfl) (Ka rfl (Nt (Ce ?_))))))))))))))))))))))))))))))))
 exact R2 rfl rfl rfl (by rw [hhi]; rfl)
theorem gz : 18446744073709551616 ≤ Big := by show 256 ^ 8 ≤ 256 ^ 128; exact Nat.pow_le_pow_right (by decide) (by decide)
def bH (a b : Bs) : Bs × Int := if okN a ∧ okN b then (if val a * val b < Big then (ae (val a * val b), 0) else ([], 5)) else ([], 3)
theorem pP {a b : Bs} (hab : okN a ∧ okN b) : (if 128 < (ae (val a * val b)).length then ([] : Bs) else ae (val a * val b)) = (bH a b).1 ∧ (if 128 < (ae (val a * val b)).length then (5 : Int) else 0) = (bH a b).2 := by
 rw [bH, if_pos hab]
 by_cases h : val a * val b < Big
 ·have := dh.2 h
  rw [if_pos h, if_neg (by omega), if_neg (by omega)]; exact ⟨rfl, rfl⟩
 ·have : ¬ (ae (val a * val b)).length ≤ 128 := fun q => h (dh.1 q)
  rw [if_neg h, if_pos (by omega), if_pos (by omega)]; exact ⟨rfl, rfl⟩
theorem sY {a b : Bs} {w : World} :
  Cw 97 #[.string (S a), .string (S b)] w (NE (bH a b)) := by
 obtain ⟨sa, hsa⟩ : ∃ q, q = aO a := ⟨_, rfl⟩
 obtain ⟨sb, hsb⟩ : ∃ q, q = aO b := ⟨_, rfl⟩
 have hla := mW a; have hlb := mW b
 rw [← hsa] at hla; rw [← hsb] at hlb
 refine En [] [(0, .string (S a)), (1, .string (S b))] Tryz.func97 rfl Tryz.ntmps97 rfl (Ac rfl (Ac rfl (An _))) Fn ?_
 refine Cs (Ka rfl (Ka rfl (Nt (Cq (Cs (Km rfl ?_))))))
 refine Ku rfl (Oc rfl rfl (Kv fun w hS => av)) ?_
 refine Yt rfl (Km rfl ?_)
 refine Nb 16 rfl (fun hg16 => ?_) (fun hg16 => ?_)
 ·(try simp only [sB] at hg16)
  refine Kt rfl (Kt rfl (Kt rfl (Yp rfl (Nt ?_))))
  refine Cd rfl (fun _ => ?_) (fun h => by cases h)
  refine Cs (Ka rfl (Ka rfl (Nt (Ce (Xb ?_)))))
  exact R2 rfl rfl rfl (by rw [bH, if_neg (by simp_all)]; rfl)
 ·(try simp only [sB] at hg16)
  refine Km rfl ?_
  refine Ku rfl (Oc rfl rfl (Kv fun w hS => av)) ?_
  refine Yt rfl (Yq rfl (Nt ?_))
  refine Cd rfl (fun hc20 => ?_) (fun hc20 => ?_)
  ·(try simp only [sB] at hc20)
   refine Cs (Ka rfl (Ka rfl (Nt (Ce (Xb ?_)))))
   exact R2 rfl rfl rfl (by rw [bH, if_neg (by simp_all)]; rfl)
  ·(try simp only [sB] at hc20)
   have hab : okN a ∧ okN b := by simp_all
   have hal := hab.1.1; have hbl := hab.2.1
   refine Ck (Xa (Cs (Km rfl ?_)))
   refine Ku rfl (Oc rfl rfl (Kv fun w hS => (by have := dY (w := w) (a := a) (by omega); rw [← hsa] at this; exact this))) ?_
   refine Km rfl (Ye rfl (Ye rfl (Ka rfl (Ka rfl (Nt (Cs (Km rfl ?_)))))))
   refine Ku rfl (Oc rfl rfl (Kv fun w hS => (by have := dY (w := w) (a := b) (by omega); rw [← hsb] at this; exact this))) ?_
   refine Km rfl (Ye rfl (Ye rfl (Ka rfl (Ka rfl (Nt (Cq (Cs (Km rfl (Km rfl ?_)))))))))
   refine Ku rfl (Oc rfl rfl (Kv fun w hS => ml (x := sa.1) (y := sb.1) (by assumption) (by assumption))) ?_
   refine Km rfl (Ye rfl (Ye rfl (Ka rfl (Ka rfl (Nt ?_)))))
   refine WC.joinP (σ := Unit) [(0, _), (1, _), (11, _)] (fun gq => [(48, .bool (decide (a.length ≤ 8 ∧ b.length ≤ 8 ∧ sa.1 * sb.1 / 18446744073709551616 = 0)))]) (fun gq => True) (S3 rfl rfl rfl) ?_ ?_
   ·skip
    refine Cg (Km rfl (Yn rfl u22 (Ym rfl (Km rfl ?_))))
    refine Nb 40 rfl (fun hg40 => ?_) (fun hg40 => ?_)
    ·(try simp only [sB] at hg40)
     refine Km rfl (Yn rfl u22 (Ym rfl (Yp rfl (Km rfl ?_))))
     refine Nb 45 rfl (fun hg45 => ?_) (fun hg45 => ?_)
     ·(try simp only [sB] at hg45)
      refine Km rfl (Yi rfl (Yp rfl (Nn ?_)))
      refine WX.joinP (()) (S3 rfl rfl rfl) (by refine (Sc ?_ (S0 _)) <;> ((refine ai rfl ?_; (try dsimp only); (exact decide_eq_decide.2 (by omega))))) ?_ (by (exact fun _ h => h))
      (try dsimp only)
      done
     ·(try simp only [sB] at hg45)
      refine Kt rfl (Kt rfl (Yq rfl (Nn ?_)))
      refine WX.joinP (()) (S3 rfl rfl rfl) (by refine (Sc ?_ (S0 _)) <;> ((exact congrArg (fun b => some (Value.bool b)) (by symm; apply decide_eq_false; omega)))) ?_ (by (exact fun _ h => h))
      (try dsimp only)
      done
    ·(try simp only [sB] at hg40)
     refine Kt rfl (Kt rfl (Kt rfl (Yq rfl (Km rfl (Kt rfl (Kt rfl (Yq rfl (Nn ?_))))))))
     refine WX.joinP (()) (S3 rfl rfl rfl) (by refine (Sc ?_ (S0 _)) <;> ((exact congrArg (fun b => some (Value.bool b)) (by symm; apply decide_eq_false; omega)))) ?_ (by (exact fun _ h => h))
     (try dsimp only)
     done
   ·rintro _ hmeet; (try dsimp only at hmeet ⊢)
    refine Cd rfl (fun hc48 => ?_) (fun hc48 => ?_)
    ·(try simp only [sB] at hc48)
     have e1 : sa.1 = val a := by rw [hsa, aO, if_pos ⟨hab.1, hc48.1⟩]
     have e2 : sb.1 = val b := by rw [hsb, aO, if_pos ⟨hab.2, hc48.2.1⟩]
     have hlt : val a * val b < 18446744073709551616 := by have := hc48.2.2; rw [e1, e2] at this; omega
     have hr : bH a b = (ae (val a * val b), 0) := by rw [bH, if_pos hab, if_pos (Nat.lt_of_lt_of_le hlt gz)]
     refine Cs (Km rfl ?_)
     refine Ku rfl (Oc rfl rfl (Kv fun w hS => fF (by omega))) ?_
     refine Ka rfl (Ka rfl (Nt (Ce (Xb ?_))))
     exact R2 rfl rfl rfl (by rw [hr, e1, e2, Nat.mod_eq_of_lt hlt]; rfl)
    ·(try simp only [sB] at hc48)
     have hfm := pP hab
     refine Ck (Xa (Cs ?_))
     refine Kh rfl (Oa rfl (v := (.agg (List.replicate 256 (.int .i64 0)).toArray)) (cs := (List.replicate 256 (.int .i64 0))) (by kernel_rfl) rfl) ?_
     intro b12
     refine Nt (Cs (Km rfl (Km rfl ?_)))
     refine Kh rfl (Oc rfl rfl (fun w hS => qF (a := a) (b := b) (p := b12) (cs := List.replicate 256 (.int .i64 0)) hS (by simp) (by omega) (by omega))) ?_
     intro c
     refine Ku rfl (Oc rfl rfl (Kv fun w hS => ll (a := ae (val a * val b)))) ?_
     refine Ye rfl (Ye rfl (Ka rfl (Ka rfl (Nt (Ce ?_)))))
     exact R2 rfl rfl rfl (by simp only [tup, NE]; rw [← hfm.1, ← hfm.2])
theorem si {a b : Bs} {w : World} (ha : a.length ≤ 50000) (hb : b.length ≤ 50000) :
  Cw 161 #[.string (S a), .string (S b)] w (.string (S (ae (val a * val b)))) := by
 obtain ⟨V, hV⟩ : ∃ V, V = val a * val b := ⟨_, rfl⟩
 have hVl : V < 256 ^ (a.length + b.length) := by rw [hV, Nat.pow_add]; exact Nat.mul_lt_mul'' (aK a) (aK b)
 rw [← hV]
 refine En [] [(0, .string (S a)), (1, .string (S b))] Tryz.func161 rfl Tryz.ntmps161 rfl (Ac rfl (Ac rfl (An _))) Fn ?_
 refine Cs (Ka rfl (Nt (Cq (Cs (Km rfl (Yn rfl u22 (Km rfl (Yn rfl u22 (Kq rfl (ax rfl rfl rfl (by omega)) (Ym rfl (Nt ?_)))))))))))
 refine Cd rfl (fun hc18 => ?_) (fun hc18 => ?_)
 ·(try simp only [sB] at hc18)
  have hV8 : V < 18446744073709551616 := Nat.lt_of_lt_of_le hVl (Nat.le_trans (Nat.pow_le_pow_right (by decide) (by omega : a.length + b.length ≤ 8)) (by decide))
  refine Cs (Km rfl ?_)
  refine Ku rfl (Oc rfl rfl (Kv fun w hS => jR (a := a) (by omega))) ?_
  refine Km rfl ?_
  refine Ku rfl (Oc rfl rfl (Kv fun w hS => jR (a := b) (by omega))) ?_
  refine Kq rfl (bu rfl rfl rfl (by omega)) ?_
  refine Ns 23 rfl (v' := .int .u64 ((V : Nat) : Int)) (congrArg (Value.int .u64) (by rw [hV])) ?_
  refine Ku rfl (Oc rfl rfl (Kv fun w hS => fw (n := V) (by assumption))) ?_
  refine Ka rfl (Nt (Ce (Xb ?_)))
  exact R1 rfl rfl (by rfl)
 ·(try simp only [sB] at hc18)
  refine Ck (Xa (Cs (Km rfl (Yn rfl u22 (Km rfl (Yn rfl u22 (Kq rfl (ax rfl rfl rfl (by omega)) (Ka rfl (Nt (Cs (Km rfl (Kq rfl (Rz rfl rfl rfl (by omega)) ?_))))))))))))
  refine Kh rfl (dN rfl rfl rfl u38 (by kernel_rfl : _ = some (some (.int .i64 0), 1, 8)) rfl ?_ (by (try simp only [sN, Int.reduceToNat, Nat.reduceAdd, Nat.reduceMul, Nat.reduceSub]); rfl) (by (try simp only [sN, Int.reduceToNat, Nat.reduceAdd, Nat.reduceMul, Nat.reduceSub]); rfl)) ?_
  ·omega
  intro b32
  refine Ka rfl (Nt (Cq (Cs (Ka rfl (Nt (Cb ?_))))))
  refine Lo (σ := Nat × (List Nat)) [(0, _), (1, _), (5, _), (6, _)] (fun gq => [(7, .int .i64 (gq.1 : Int))]) (fun gq => gq.1 ≤ a.length ∧ dy (a.length + b.length + 1) (val a) (val b) gq.1 0 gq.2) (fun gq => a.length - gq.1) (fun gq => [⟨some b32, bX gq.2, 3⟩]) (fun gq => []) (0, List.replicate (a.length + b.length + 1) 0) (S4 rfl rfl rfl rfl) (S1 rfl) (by (try dsimp only); exact ⟨Nat.zero_le _, lx _ _ _⟩) (by exact fun w h => by rw [im]; exact h) ?_
  rintro ⟨i, c⟩ hinv1; (try dsimp only at hinv1 ⊢)
  obtain ⟨hi, hci⟩ := hinv1
  refine Cq (Cs (Km rfl (Km rfl (Yn rfl u22 (Yl rfl (Nt ?_))))))
  refine Cd rfl (fun hc36 => ?_) (fun hc36 => ?_)
  ·(try simp only [sB] at hc36)
   refine Ck (Xa (Cq (Cb (Cs (Ka rfl (Nt (Cb ?_)))))))
   refine Lo (σ := Nat × (List Nat)) [(0, _), (1, _), (5, _), (6, _), (7, _)] (fun gq => [(8, .int .i64 (gq.1 : Int))]) (fun gq => gq.1 ≤ b.length ∧ dy (a.length + b.length + 1) (val a) (val b) i gq.1 gq.2) (fun gq => b.length - gq.1) (fun gq => [⟨some b32, bX gq.2, 3⟩]) (fun gq => []) (0, c) (S5 rfl rfl rfl rfl rfl) (S1 rfl) (by (try dsimp only); exact ⟨Nat.zero_le _, hci⟩) (by (exact fun _ h => h)) ?_
   rintro ⟨k, c2⟩ hinv2; (try dsimp only at hinv2 ⊢)
   obtain ⟨hk, hck⟩ := hinv2
   refine Cq (Cs (Km rfl (Km rfl (Yn rfl u22 (Yl rfl (Nt ?_))))))
   refine Cd rfl (fun hc42 => ?_) (fun hc42 => ?_)
   ·(try simp only [sB] at hc42)
    have hcl := hck.len
    have hca := p6 hck (by omega) (i + k)
    have hcs2 := nF hck (by omega)
    refine Ck (Xa (Cq (Cb ?_)))
    refine Cf [6, 7, 8, 9, 10, 11, 0, 1, 2, 3, 4, 5, 12, 13, 14] [15] [0, 0, 0, 0, 0, 0, 0, 0, 1, 0, 0, 1, 0, 0, 0, 2] (by kernel_rfl) (by kernel_rfl) rfl ?_
    refine Kj rfl (Rm rfl rfl) (Kj rfl (Rm rfl rfl) ?_)
    refine Jv rfl rfl rfl rfl rfl (fun ext => Oc rfl rfl (Kv fun w hS => j9 (a := a) (i := i) (by omega) (by omega))) ?_
    refine Kj rfl (Rm rfl rfl) (Kj rfl (Rm rfl rfl) ?_)
    refine Jv rfl rfl rfl rfl rfl (fun ext => Oc rfl rfl (Kv fun w hS => j9 (a := b) (i := k) (by omega) (by omega))) ?_
    refine Kj rfl (Rm rfl rfl) (Kj rfl (Rm rfl rfl) (Kj rfl (Rm rfl rfl) (Kj rfl (ax rfl rfl rfl (by omega)) ?_)))
    refine Kj rfl (Ja rfl rfl rfl u38 (by kernel_rfl : _ = some 1) (by omega)) ?_
    refine Kj rfl (ld rfl rfl .tc u3 rfl (a6 c2 _ (by omega))) ?_
    refine Kj rfl (fY rfl rfl rfl (by omega)) (Kj rfl (ax rfl rfl rfl (by omega)) ?_)
    refine Kj rfl (Ja rfl rfl rfl u38 (by kernel_rfl : _ = some 1) (by omega)) ?_
    refine WJ.nil ?_
    refine Ng rfl rfl (st rfl rfl rfl .tc (by kernel_rfl) rfl ?_ (by rfl)) ?_
    ·rw [cN]; omega
    intro _
    rw [cM]
    refine Nn (Xd (Xa (Cg (Km rfl (Kq rfl (Rz rfl rfl rfl (by omega)) (Ka rfl (Nn ?_)))))))
    refine Lx ((k + 1, c2.set (i + k) (c2.getD (i + k) 0 + val a / 256 ^ i % 256 * (val b / 256 ^ k % 256)))) (by (try dsimp only); omega) (S5 rfl rfl rfl rfl rfl) (by refine (Sc ?_ (S0 _)) <;> (rfl)) ?_ (by (exact fun _ h => h))
    (try dsimp only)
    exact ⟨by omega, hcs2⟩
   ·(try simp only [sB] at hc42)
    refine Cx (Xc (Xc (Xe ?_)))
    obtain rfl : k = b.length := by omega
    have hrow := p4 hck (aK b)
    refine Xd (Xa (Cg (Km rfl (Kq rfl (Rz rfl rfl rfl (by omega)) (Ka rfl (Nn ?_))))))
    refine Lx ((i + 1, c2)) (by (try dsimp only); omega) (S4 rfl rfl rfl rfl) (by refine (Sc ?_ (S0 _)) <;> (rfl)) ?_ (by (exact fun _ h => h))
    (try dsimp only)
    exact ⟨by omega, hrow⟩
  ·(try simp only [sB] at hc36)
   refine Cx (Xc (Xc (Xe ?_)))
   obtain rfl : i = a.length := by omega
   have hev := p5 hci (aK a)
   have hcl := hci.len
   rw [← hV] at hev
   refine Xa (Cs (Km rfl ?_))
   refine Kh rfl (dN rfl rfl rfl aB (by kernel_rfl : _ = some (some (.int .u8 0), 1, 1)) rfl ?_ (by (try simp only [sN, Int.reduceToNat, Nat.reduceAdd, Nat.reduceMul, Nat.reduceSub]); rfl) (by (try simp only [sN, Int.reduceToNat, Nat.reduceAdd, Nat.reduceMul, Nat.reduceSub]); rfl)) ?_
   ·omega
   intro b61
   refine Ka rfl (Nt (Cs (Ka rfl (Nt (Cq (Cs (Ka rfl (Nt (Cb ?_)))))))))
   refine Lo (σ := Nat × Nat) [(5, _), (6, _), (9, _)] (fun gq => [(10, .int .i64 (gq.2 : Int)), (11, .int .i64 (gq.1 : Int))]) (fun gq => gq.1 ≤ a.length + b.length ∧ gq.2 = iQ 256 c gq.1) (fun gq => a.length + b.length - gq.1) (fun gq => [⟨some b61, eV (a.length + b.length) gq.1 V, 5⟩, ⟨some b32, bX c, 3⟩]) (fun gq => []) (0, 0) (S3 rfl rfl rfl) (S2 rfl rfl) (by (try dsimp only); exact ⟨Nat.zero_le _, (iO 256 c).symm⟩) (by exact fun w h => by rw [cq]; exact h) ?_
   rintro ⟨i, cy⟩ hinv3; (try dsimp only at hinv3 ⊢)
   obtain ⟨hi, hcy⟩ := hinv3
   refine Cq (Cs (Km rfl (Km rfl (Yl rfl (Nt ?_)))))
   refine Cd rfl (fun hc64 => ?_) (fun hc64 => ?_)
   ·(try simp only [sB] at hc64)
    have hcc := ly (i := i) hci (by omega) (by omega)
    have hcs3 := iP 256 (by decide) c i (by omega)
    have hcd := ky 256 (by decide) c i (by omega)
    rw [← hcy] at hcc hcs3 hcd
    rw [hev] at hcd
    refine Ck (Xa (Cq (Cb (Cs (Km rfl (Km rfl ?_))))))
    refine Kq rfl (Ja rfl rfl rfl u38 (by kernel_rfl : _ = some 1) (by omega)) ?_
    refine Kq rfl (ld rfl rfl .tc u3 rfl (a6 c _ (by omega))) ?_
    refine Km rfl (Kq rfl (ax rfl rfl rfl (by omega)) (Ns 72 rfl (v' := .int .i64 ((cy + c.getD i 0 : Nat) : Int)) (congrArg (Value.int .i64) (by omega)) (Ka rfl (Nt (Cs (Km rfl (Km rfl (Kq rfl (ar rfl rfl rfl (by omega)) (Km rfl (Kq rfl (aP rfl rfl rfl (by omega)) (Km rfl (Kq rfl (ci rfl rfl rfl (by omega)) (Kq rfl (gW rfl rfl u3 u5) ?_)))))))))))))
    refine Ns 80 rfl (v' := B (UInt8.ofNat (V / 256 ^ i))) (by exact congrArg (fun b : UInt8 => B b) (nT (by omega))) ?_
    refine Kq rfl (Ja rfl rfl rfl aB (by kernel_rfl : _ = some 1) (by omega)) ?_
    refine Ng rfl rfl (st rfl rfl rfl .tc (by kernel_rfl) rfl ?_ (by rfl)) ?_
    ·rw [bO _ _ _ (by omega)]; omega
    intro _
    refine Nt (Cg (Km rfl (Kq rfl (bF rfl rfl rfl (by omega)) (Ka rfl (Nn (Xd (Xa (Cg (Km rfl (Kq rfl (Rz rfl rfl rfl (by omega)) (Ka rfl (Nn ?_))))))))))))
    refine Lx ((i + 1, (cy + c.getD i 0) / 256)) (by (try dsimp only); omega) (S3 rfl rfl rfl) (by refine (Sc ?_ (Sc ?_ (S0 _))) <;> (rfl)) ?_ (by exact fun w h => by rw [← bN (a.length + b.length) i V (by omega)]; exact h)
    (try dsimp only)
    exact ⟨by omega, hcs3.symm⟩
   ·(try simp only [sB] at hc64)
    refine Cx (Xc (Xc (Xe ?_)))
    obtain rfl : i = a.length + b.length := by omega
    rw [bV]
    have hbl := aN (a.length + b.length) V
    refine Xa (Cs (Km rfl ?_))
    refine Ku rfl (Oc rfl rfl (Kv fun w hS => gT (b := be (a.length + b.length) V) (by (exact hS.os)) (by omega) (by omega) (by omega))) ?_
    refine Ka rfl (Nt (Ce ?_))
    exact R1 rfl rfl (by rw [cW, Nat.mod_eq_of_lt hVl]; rfl)
theorem n4 {a b : Bs} {w : World} :
  Cw 103 #[.string (S a), .string (S b)] w (NE (bH a b)) := by
 refine En [] [(0, .string (S a)), (1, .string (S b))] Tryz.func103 rfl Tryz.ntmps103 rfl (Ac rfl (Ac rfl (An _))) Fn ?_
 refine Cs (Ka rfl (Ka rfl (Nt (Cq (Cs (Km rfl ?_))))))
 refine Ku rfl (Oc rfl rfl (Kv fun w hS => aA)) ?_
 refine Yt rfl (Km rfl ?_)
 refine Nb 9 rfl (fun hg9 => ?_) (fun hg9 => ?_)
 ·(try simp only [sB] at hg9)
  refine Kt rfl (Kt rfl (Kt rfl (Yp rfl (Nt ?_))))
  refine Cd rfl (fun _ => ?_) (fun h => by cases h)
  refine Cs (Ka rfl (Ka rfl (Nt (Ce (Xb ?_)))))
  exact R2 rfl rfl rfl (by rw [bH, if_neg (by simp_all)]; rfl)
 ·(try simp only [sB] at hg9)
  refine Km rfl ?_
  refine Ku rfl (Oc rfl rfl (Kv fun w hS => aA)) ?_
  refine Yt rfl (Yq rfl (Nt ?_))
  refine Cd rfl (fun hc13 => ?_) (fun hc13 => ?_)
  ·(try simp only [sB] at hc13)
   refine Cs (Ka rfl (Ka rfl (Nt (Ce (Xb ?_)))))
   exact R2 rfl rfl rfl (by rw [bH, if_neg (by simp_all)]; rfl)
  ·(try simp only [sB] at hc13)
   have hab : okN a ∧ okN b := by simp_all
   have hal := hab.1.1; have hbl := hab.2.1
   have hfm := pP hab
   refine Ck (Xa (Cs (Km rfl (Km rfl ?_))))
   refine Ku rfl (Oc rfl rfl (Kv fun w hS => si (a := a) (b := b) (by omega) (by omega))) ?_
   refine Ku rfl (Oc rfl rfl (Kv fun w hS => wP (a := ae (val a * val b)))) ?_
   refine Ye rfl (Ye rfl (Ka rfl (Ka rfl (Nt (Ce ?_)))))
   exact R2 rfl rfl rfl (by simp only [tup, NE]; rw [← hfm.1, ← hfm.2])
theorem gn (f x : Nat) : Lib.bitLenAux (f + 1) x = if x = 0 then 0 else 1 + Lib.bitLenAux f (x / 2) := rfl
theorem ja : ∀ (f g x : Nat), x < 2 ^ f → x < 2 ^ g → Lib.bitLenAux f x = Lib.bitLenAux g x
 | 0, 0, x, _, _ => rfl
 | 0, g + 1, x, h, _ => by have : x = 0 := by simpa using h
                           subst this; rfl
 | f + 1, 0, x, _, h => by have : x = 0 := by simpa using h
                           subst this; rfl
 | f + 1, g + 1, x, h1, h2 => by
  rw [gn, gn]
  split
  ·rfl
  ·rw [ja f g (x / 2) (by rw [Nat.pow_succ] at h1; omega) (by rw [Nat.pow_succ] at h2; omega)]
theorem fR {x : Nat} (h : 0 < x) (hx : x < 2 ^ 63) : Lib.bitLen x = 1 + Lib.bitLen (x / 2) := by
 unfold Lib.bitLen
 rw [gn 63 x, if_neg (by omega), ja 63 64 (x / 2) (by omega) (by omega)]
theorem j8 {a : Bs} {w : World} (ha : a.length ≤ 1000000) :
  Cw 174 #[.string (S a)] w (.int .i64 (aC a : Int)) := by
 refine En [] [(0, .string (S a))] Tryz.func174 rfl Tryz.ntmps174 rfl (Ac rfl (An _)) Fn ?_
 refine Cs (Ka rfl (Nt (Cq (Cs (Km rfl (Ys rfl (Nt ?_)))))))
 refine Cd rfl (fun hc6 => ?_) (fun hc6 => ?_)
 ·(try simp only [sB] at hc6)
  have h0 : a = [] := by simpa using hc6
  refine Cs (Ka rfl (Nt (Ce (Xb ?_))))
  exact R1 rfl rfl (by rw [h0]; rfl)
 ·(try simp only [sB] at hc6)
  have hne : a ≠ [] := by simpa using hc6
  have hl0 : 0 < a.length := List.length_pos_iff.2 hne
  have hc0 := (a.getD 0 default).toNat_lt
  have hbN : aC a ≤ 8000064 := by rw [aC, if_neg hne]; have := eK (a.getD 0 default).toNat; omega
  refine Ck (Xa (Cs (Km rfl (Yn rfl u22 (Kq rfl (ar rfl rfl rfl (by omega)) (Kq rfl (dd rfl rfl rfl (by omega)) (Ka rfl (Nt (Cq (Cs (Km rfl ?_)))))))))))
  refine Kq rfl (bA rfl rfl rfl u22 ?_) ?_
  ·omega
  refine Kq rfl (j4 rfl rfl u5 u3 ?_) ?_
  ·(exact jD _)
  refine Ka rfl (Nt (Cb ?_))
  refine Lp (σ := Nat × Nat) [] (fun gq => [(3, .int .i64 (gq.2 : Int)), (4, .int .i64 (gq.1 : Int))]) (fun gq => gq.2 + Lib.bitLen gq.1 = aC a ∧ gq.1 < 256) (fun gq => gq.1) ((a.getD 0 default).toNat, 8 * (a.length - 1)) (S0 _) (S2 rfl rfl) (by (try dsimp only); exact ⟨by rw [aC, if_neg hne], hc0⟩) ?_
  rintro ⟨x, k⟩ hinv1; (try dsimp only at hinv1 ⊢)
  obtain ⟨hb, hx⟩ := hinv1
  refine Cq (Cs (Km rfl (Yg rfl (Nt ?_))))
  refine Cd rfl (fun hc15 => ?_) (fun hc15 => ?_)
  ·(try simp only [sB] at hc15)
   have hst := fR (x := x) (by omega) (by omega)
   refine Ck (Xa (Cq (Cb (Cg (Km rfl (Kq rfl (Rz rfl rfl rfl (by omega)) (Ka rfl (Nn (Xd (Xa (Cg (Km rfl (Kq rfl (bF rfl rfl rfl (by omega)) (Ka rfl (Nn ?_)))))))))))))))
   refine Ly ((x / 2, k + 1)) (by (try dsimp only); omega) (S0 _) (by refine (Sc ?_ (Sc ?_ (S0 _))) <;> (rfl)) ?_ (by (exact fun _ h => h))
   (try dsimp only)
   exact ⟨by omega, by omega⟩
  ·(try simp only [sB] at hc15)
   refine Cx (Xc (Xc (Xe ?_)))
   obtain rfl : x = 0 := by omega
   have hb0 : Lib.bitLen 0 = 0 := rfl
   refine Xa (Cs (Km rfl (Ka rfl (Nt (Ce ?_)))))
   exact R1 rfl rfl (by rw [← hb]; rfl)
theorem vr {a : Bs} {w : World} :
  Cw 159 #[.string (S a)] w (.int .i64 ((if okN a then aC a else 0 : Nat) : Int)) := by
 refine En [] [(0, .string (S a))] Tryz.func159 rfl Tryz.ntmps159 rfl (Ac rfl (An _)) Fn ?_
 refine Cs (Ka rfl (Nt (Cq (Cs (Km rfl ?_)))))
 refine Ku rfl (Oc rfl rfl (Kv fun w hS => aA)) ?_
 refine Yt rfl (Nt ?_)
 refine Cd rfl (fun hc5 => ?_) (fun hc5 => ?_)
 ·(try simp only [sB] at hc5)
  refine Cs (Ka rfl (Nt (Ce (Xb ?_))))
  exact R1 rfl rfl (by rw [if_neg (by simpa using hc5)]; rfl)
 ·(try simp only [sB] at hc5)
  have hok : okN a := by simpa using hc5
  have hal := hok.1
  refine Ck (Xa (Cs (Km rfl ?_)))
  refine Ku rfl (Oc rfl rfl (Kv fun w hS => j8 (by omega))) ?_
  refine Ka rfl (Nt (Ce ?_))
  exact R1 rfl rfl (by rw [if_pos hok]; rfl)
theorem rj {n : Bs} (h : okN n) (h0 : n ≠ []) : 1 ≤ aC n := by
 have hc := (iq n).1 h.2
 have hl : 0 < n.length := List.length_pos_iff.2 h0
 rw [aC, if_neg h0, fR (by omega) (by have := (n.getD 0 default).toNat_lt; omega)]; omega
theorem fP {n : Bs} (h : n.length ≤ 128) : aC n ≤ 2000 := by
 rw [aC]; split
 ·omega
 ·have := eK (n.getD 0 default).toNat; omega
theorem ub : ∀ x, x < 256 → Lib.bitLen x ≤ 8 := by decide +kernel
theorem rk (a : Bs) : aC a ≤ 8 * a.length := by
 rw [aC]; split
 ·omega
 ·rename_i h
  have h1 := ub (a.getD 0 default).toNat (a.getD 0 default).toNat_lt
  have h2 := List.length_pos_iff.2 h
  omega
theorem qS : ∀ x, x < 256 → x < 2 ^ Lib.bitLen x := by decide +kernel
theorem fm (a : Bs) : val a < 2 ^ aC a := by
 cases a with
 | nil => decide
 | cons c s =>
  have h1 := qS c.toNat c.toNat_lt
  have h2 := aK s
  have h3 : val (c :: s) = c.toNat * 256 ^ s.length + val s := rfl
  rw [aC, if_neg (by simp), h3]
  show c.toNat * 256 ^ s.length + val s < 2 ^ (8 * s.length + Lib.bitLen c.toNat)
  rw [Nat.pow_add, Nat.pow_mul, show (2 : Nat) ^ 8 = 256 from rfl]
  have h4 : (c.toNat + 1) * 256 ^ s.length ≤ 2 ^ Lib.bitLen c.toNat * 256 ^ s.length := Nat.mul_le_mul_right _ h1
  rw [Nat.add_mul, Nat.one_mul] at h4
  rw [Nat.mul_comm (256 ^ s.length)]; omega
def fQ (n i : Nat) : Bool := decide (n / 2 ^ i % 2 = 1)
theorem lD (n i : Nat) : n / 256 ^ (i / 8) % 256 / 2 ^ (i % 8) % 2 = n / 2 ^ i % 2 := by
 have e : 2 ^ i = 256 ^ (i / 8) * 2 ^ (i % 8) := by
  rw [show (256 : Nat) = 2 ^ 8 from rfl, ← Nat.pow_mul, ← Nat.pow_add]; congr 1; omega
 rw [e, ← Nat.div_div_eq_div_mul]
 generalize n / 256 ^ (i / 8) = m
 have h : i % 8 = 0 ∨ i % 8 = 1 ∨ i % 8 = 2 ∨ i % 8 = 3 ∨ i % 8 = 4 ∨ i % 8 = 5 ∨ i % 8 = 6 ∨ i % 8 = 7 := by omega
 rcases h with h | h | h | h | h | h | h | h <;> rw [h] <;> omega
theorem ua {n i : Nat} (h : n < 256 ^ (i / 8)) : n / 2 ^ i = 0 := by
 apply Nat.div_eq_of_lt
 refine Nat.lt_of_lt_of_le h ?_
 rw [show (256 : Nat) = 2 ^ 8 from rfl, ← Nat.pow_mul]
 exact Nat.pow_le_pow_right (by decide) (by omega)
def kD (a : Bs) (i : Int) : Bool := decide (okN a ∧ 0 ≤ i) && fQ (val a) i.toNat
theorem bI {a : Bs} {i : Nat} (h : okN a) : kD a i = fQ (val a) i := by rw [kD, decide_eq_true (p := okN a ∧ (0 : Int) ≤ i) ⟨h, by omega⟩, Bool.true_and, Int.toNat_natCast]
theorem qa {a : Bs} {i : Int} (h : ¬ (okN a ∧ 0 ≤ i)) : kD a i = false := by rw [kD, decide_eq_false h, Bool.false_and]
theorem lE {a : Bs} {i : Nat} (h : a.length ≤ i / 8) : fQ (val a) i = false := by
 rw [fQ]; apply decide_eq_false; rw [ua (Nat.lt_of_lt_of_le (aK a) (Nat.pow_le_pow_right (by decide) h))]; omega
theorem mO {a : Bs} {i : Nat} {w : World} (hi : i ≤ 1000000000) :
  Cw 94 #[.string (S a), .int .i64 (i : Int)] w (.bool (kD a i)) := by
 have hbd := lD (val a) i
 have hx256 : val a / 256 ^ (i / 8) % 256 / 2 ^ (i % 8) < 256 := Nat.lt_of_le_of_lt (Nat.div_le_self _ _) (Nat.mod_lt _ (by decide))
 refine En [] [(0, .string (S a)), (1, .int .i64 (i : Int))] Tryz.func94 rfl Tryz.ntmps94 rfl (Ac rfl (Ac rfl (An _))) Fn ?_
 refine Cs (Ka rfl (Nt (Cs (Km rfl ?_))))
 refine Ku rfl (Oc rfl rfl (Kv fun w hS => av)) ?_
 refine Km rfl ?_
 refine Nb 7 rfl (fun hg7 => ?_) (fun hg7 => ?_)
 ·(try simp only [sB] at hg7)
  refine Km rfl (Yh rfl (Yp rfl (Km rfl ?_)))
  refine Nb 11 rfl (fun hg11 => ?_) (fun hg11 => ?_)
  ·(try simp only [sB] at hg11)
   refine Km rfl (Kq rfl (bF rfl rfl rfl (by omega)) (Km rfl (Yn rfl u22 (Yl rfl (Yp rfl (Km rfl ?_))))))
   refine Nb 18 rfl (fun hg18 => ?_) (fun hg18 => ?_)
   ·(try simp only [sB] at hg18)
    refine Km rfl (Km rfl (Kq rfl (bF rfl rfl rfl (by omega)) ?_))
    refine Ku rfl (Oc rfl rfl (Kv fun w hS => cL (a := a) (i := i / 8) (by have hok : okN a := (by assumption); have := hok.1; omega) (by omega))) ?_
    refine Km rfl (Kq rfl (ci rfl rfl rfl (by omega)) ?_)
    refine Kq rfl (bq rfl rfl rfl (by (show _ ≤ 64; omega))) ?_
    refine Kq rfl (dk 1 rfl rfl rfl (by decide) ?_) ?_
    ·omega
    refine Yi rfl (Yp rfl (Ka rfl (Nt (Ce ?_))))
    exact R1 rfl rfl (by (rw [bI (by assumption), fQ]; exact congrArg (fun b => Ending.returned (.bool b)) (by apply decide_eq_decide.2; omega)))
   ·(try simp only [sB] at hg18)
    refine Kt rfl (Kt rfl (Kt rfl (Kt rfl (Kt rfl (Kt rfl (Kt rfl (Kt rfl (Kt rfl (Yq rfl (Ka rfl (Nt (Ce ?_))))))))))))
    exact R1 rfl rfl (by (rw [bI (by assumption), lE (by omega)]; rfl))
  ·(try simp only [sB] at hg11)
   refine Kt rfl (Kt rfl (Kt rfl (Kt rfl (Kt rfl (Yq rfl (Km rfl (Kt rfl (Kt rfl (Kt rfl (Kt rfl (Kt rfl (Kt rfl (Kt rfl (Kt rfl (Kt rfl (Yq rfl (Ka rfl (Nt (Ce ?_)))))))))))))))))))
   exact R1 rfl rfl (by (rw [bI (by assumption), lE (by omega)]; rfl))
 ·(try simp only [sB] at hg7)
  refine Kt rfl (Kt rfl (Yq rfl (Km rfl (Kt rfl (Kt rfl (Kt rfl (Kt rfl (Kt rfl (Yq rfl (Km rfl (Kt rfl (Kt rfl (Kt rfl (Kt rfl (Kt rfl (Kt rfl (Kt rfl (Kt rfl (Kt rfl (Yq rfl (Ka rfl (Nt (Ce ?_)))))))))))))))))))))))
  exact R1 rfl rfl (by (rw [qa (fun h => absurd h.1 (by assumption))]; rfl))
theorem sn {a : Bs} {i : Nat} {w : World} (ha : a.length ≤ 1000000) (hi : i ≤ 1000000000) :
  Cw 175 #[.string (S a), .int .i64 (i : Int)] w (.bool (fQ (val a) i)) := by
 have hbd := lD (val a) i
 refine En [] [(0, .string (S a)), (1, .int .i64 (i : Int))] Tryz.func175 rfl Tryz.ntmps175 rfl (Ac rfl (Ac rfl (An _))) Fn ?_
 refine Cs (Ka rfl (Nt (Cs (Km rfl (Km rfl (Kq rfl (bF rfl rfl rfl (by omega)) ?_))))))
 refine Ku rfl (Oc rfl rfl (Kv fun w hS => j9 (a := a) (i := i / 8) (by omega) (by omega))) ?_
 refine Ka rfl (Nt (Cq (Cs (Ka rfl (Nt (Cb ?_))))))
 refine Lp (σ := Nat × Nat) [(1, _)] (fun gq => [(5, .int .i64 (gq.2 : Int)), (6, .int .i64 (gq.1 : Int))]) (fun gq => gq.1 ≤ i % 8 ∧ gq.2 = val a / 256 ^ (i / 8) % 256 / 2 ^ gq.1) (fun gq => i % 8 - gq.1) (0, val a / 256 ^ (i / 8) % 256) (S1 rfl) (S2 rfl rfl) (by (try dsimp only); exact ⟨Nat.zero_le _, by simp⟩) ?_
 rintro ⟨k, x⟩ hinv1; (try dsimp only at hinv1 ⊢)
 obtain ⟨hk, hx⟩ := hinv1
 refine Cq (Cs (Km rfl (Km rfl (Kq rfl (ci rfl rfl rfl (by omega)) (Yl rfl (Nt ?_))))))
 refine Cd rfl (fun hc14 => ?_) (fun hc14 => ?_)
 ·(try simp only [sB] at hc14)
  have hx256 : x < 256 := by rw [hx]; exact Nat.lt_of_le_of_lt (Nat.div_le_self _ _) (Nat.mod_lt _ (by decide))
  refine Ck (Xa (Cq (Cb (Cg (Km rfl (Kq rfl (bF rfl rfl rfl (by omega)) (Ka rfl (Nn (Xd (Xa (Cg (Km rfl (Kq rfl (Rz rfl rfl rfl (by omega)) (Ka rfl (Nn ?_)))))))))))))))
  refine Ly ((k + 1, x / 2)) (by (try dsimp only); omega) (S1 rfl) (by refine (Sc ?_ (Sc ?_ (S0 _))) <;> (rfl)) ?_ (by (exact fun _ h => h))
  (try dsimp only)
  exact ⟨by omega, by rw [hx, Nat.pow_succ, Nat.div_div_eq_div_mul]⟩
 ·(try simp only [sB] at hc14)
  refine Cx (Xc (Xc (Xe ?_)))
  obtain rfl : k = i % 8 := by omega
  have hx256 : x < 256 := by rw [hx]; exact Nat.lt_of_le_of_lt (Nat.div_le_self _ _) (Nat.mod_lt _ (by decide))
  rw [← hx] at hbd
  refine Xa (Cs (Km rfl (Kq rfl (ci rfl rfl rfl (by omega)) (Yi rfl (Ka rfl (Nt (Ce ?_)))))))
  exact R1 rfl rfl (by rw [fQ, ← hbd]; exact congrArg (fun b => Ending.returned (.bool b)) (decide_eq_decide.2 (by omega)))
theorem lF {a : Bs} {i : Nat} (h : aC a ≤ i) : fQ (val a) i = false := by
 rw [fQ]; apply decide_eq_false; rw [Nat.div_eq_of_lt (Nat.lt_of_lt_of_le (fm a) (Nat.pow_le_pow_right (by decide) h))]; omega
theorem oh {a : Bs} {i : Nat} {w : World} (hi : i ≤ 1000000000) :
  Cw 118 #[.string (S a), .int .i64 (i : Int)] w (.bool (kD a i)) := by
 refine En [] [(0, .string (S a)), (1, .int .i64 (i : Int))] Tryz.func118 rfl Tryz.ntmps118 rfl (Ac rfl (Ac rfl (An _))) Fn ?_
 refine Cs (Ka rfl (Nt (Cs (Km rfl ?_))))
 refine Ku rfl (Oc rfl rfl (Kv fun w hS => aA)) ?_
 refine Km rfl ?_
 refine Nb 7 rfl (fun hg7 => ?_) (fun hg7 => ?_)
 ·(try simp only [sB] at hg7)
  refine Km rfl (Yh rfl (Yp rfl (Km rfl ?_)))
  refine Nb 11 rfl (fun hg11 => ?_) (fun hg11 => ?_)
  ·(try simp only [sB] at hg11)
   refine Km rfl (Km rfl ?_)
   refine Ku rfl (Oc rfl rfl (Kv fun w hS => j8 (a := a) (by have hok : okN a := (by assumption); have := hok.1; omega))) ?_
   refine Yl rfl (Yp rfl (Km rfl ?_))
   refine Nb 17 rfl (fun hg17 => ?_) (fun hg17 => ?_)
   ·(try simp only [sB] at hg17)
    refine Km rfl (Km rfl ?_)
    refine Ku rfl (Oc rfl rfl (Kv fun w hS => sn (a := a) (i := i) (by have hok : okN a := (by assumption); have := hok.1; omega) (by omega))) ?_
    refine Yp rfl (Ka rfl (Nt (Ce ?_)))
    exact R1 rfl rfl (by (rw [bI (by assumption)]; rfl))
   ·(try simp only [sB] at hg17)
    refine Kt rfl (Kt rfl (Kt rfl (Yq rfl (Ka rfl (Nt (Ce ?_))))))
    exact R1 rfl rfl (by (rw [bI (by assumption), lF (by omega)]; rfl))
  ·(try simp only [sB] at hg11)
   refine Kt rfl (Kt rfl (Kt rfl (Kt rfl (Yq rfl (Km rfl (Kt rfl (Kt rfl (Kt rfl (Yq rfl (Ka rfl (Nt (Ce ?_))))))))))))
   exact R1 rfl rfl (by (rw [bI (by assumption), lF (by omega)]; rfl))
 ·(try simp only [sB] at hg7)
  refine Kt rfl (Kt rfl (Yq rfl (Km rfl (Kt rfl (Kt rfl (Kt rfl (Kt rfl (Yq rfl (Km rfl (Kt rfl (Kt rfl (Kt rfl (Yq rfl (Ka rfl (Nt (Ce ?_))))))))))))))))
  exact R1 rfl rfl (by (rw [qa (fun h => absurd h.1 (by assumption))]; rfl))
end Go.Proofs.YtkdlonihbjhhoaaGreatDoor
namespace Go.Proofs.YtkdlonihbjhhoaaGreatDoor
set_option linter.unusedSimpArgs false
set_option linter.unusedVariables false
set_option maxRecDepth 20000
def bm (X n : Nat) : List Nat := (List.range n).map fun i => X / 256 ^ i % 256
theorem bk (X n : Nat) : (bm X n).length = n := by simp [bm]
theorem lv (X n : Nat) : bm X (n + 1) = bm X n ++ [X / 256 ^ n % 256] := by simp [bm, List.range_succ]
theorem gh (X n : Nat) : ∀ x ∈ bm X n, x < 256 := by
 intro x hx
 obtain ⟨i, _, rfl⟩ := List.mem_map.1 hx
 exact Nat.mod_lt _ (by decide)
theorem mF (X : Nat) : ∀ n, ev 256 (bm X n) = X % 256 ^ n
 | 0 => by simp [bm, ev, Nat.mod_one]
 | n + 1 => by rw [lv, eG, bk, mF X n, Nat.mod_pow_succ]; simp [ev]
theorem il (X n k : Nat) (h : k < n) : (bm X k ++ List.replicate (n - k) 0).set k (X / 256 ^ k % 256) = bm X (k + 1) ++ List.replicate (n - (k + 1)) 0 := by
 rw [List.set_append_right _ _ (by rw [bk]; exact Nat.le_refl _), bk, Nat.sub_self, show n - k = (n - (k + 1)) + 1 by omega, List.replicate_succ, List.set_cons_zero, lv, List.append_assoc]; rfl
theorem tQ (X n i : Nat) (h : i < n) : (bm X n).getD i 0 = X / 256 ^ i % 256 := by
 rw [List.getD_eq_getElem?_getD, bm, List.getElem?_map, List.getElem?_range h]; rfl
theorem eo {s : Nat} (h : s < 8) : s = 0 ∨ s = 1 ∨ s = 2 ∨ s = 3 ∨ s = 4 ∨ s = 5 ∨ s = 6 ∨ s = 7 := by omega
theorem kZ (A s : Nat) : A * 2 ^ s / 256 ^ 0 % 256 = A / 256 ^ 0 % 256 * 2 ^ s % 256 := by
 rw [Nat.pow_zero, Nat.div_one, Nat.div_one, Nat.mul_mod (A % 256), Nat.mod_mod, ← Nat.mul_mod]
theorem m0 (A s i : Nat) (h : s < 8) : A * 2 ^ s / 256 ^ (i + 1) % 256 = A / 256 ^ (i + 1) % 256 * 2 ^ s % 256 + A / 256 ^ i % 256 / 2 ^ (8 - s) := by
 have e1 : A * 2 ^ s / 256 ^ (i + 1) = A / 256 ^ i / 2 ^ (8 - s) := by
  rw [Nat.div_div_eq_div_mul, show 256 ^ (i + 1) = 256 ^ i * 2 ^ (8 - s) * 2 ^ s from by
   rw [Nat.mul_assoc, ← Nat.pow_add, show 8 - s + s = 8 by omega, Nat.pow_succ], Nat.mul_div_mul_right _ _ (Nat.two_pow_pos s)]
 have e2 : A / 256 ^ (i + 1) = A / 256 ^ i / 256 := by rw [Nat.pow_succ, Nat.div_div_eq_div_mul]
 rw [e1, e2]
 generalize A / 256 ^ i = B
 rcases eo h with rfl | rfl | rfl | rfl | rfl | rfl | rfl | rfl <;> omega
theorem mZ (A s i : Nat) (h : s < 8) : A / 256 ^ i % 256 / 2 ^ (8 - s) < 2 ^ s ∧ A / 256 ^ (i + 1) % 256 * 2 ^ s % 256 % 2 ^ s = 0 ∧ A / 256 ^ (i + 1) % 256 * 2 ^ s < 65536 := by
 have hx : A / 256 ^ i % 256 < 256 := Nat.mod_lt _ (by decide)
 have hy : A / 256 ^ (i + 1) % 256 < 256 := Nat.mod_lt _ (by decide)
 generalize A / 256 ^ i % 256 = x at *
 generalize A / 256 ^ (i + 1) % 256 = y at *
 rcases eo h with rfl | rfl | rfl | rfl | rfl | rfl | rfl | rfl <;> exact ⟨by omega, by omega, by omega⟩
structure kI (L X D n t : Nat) (r : List Nat) (Q : Nat) : Prop where
 len : r.length = L
 dig : ∀ x ∈ r, x < 256
 sum : X = Q * D + ev 256 (r.take (t + n))
 lt : ev 256 (r.take (t + n)) < 256 ^ t * D
 dvd : Q % 256 ^ t = 0
theorem q9 {L X D n t : Nat} (hL : L = t + n) (hX : X < 256 ^ t * D) (hX2 : X < 256 ^ L) : kI L X D n t (bm X L) 0 := by
 have e : ev 256 ((bm X L).take (t + n)) = X := by
  rw [List.take_of_length_le (by rw [bk]; omega), mF, Nat.mod_eq_of_lt hX2]
 exact ⟨bk X L, gh X L, by rw [e]; omega, by rw [e]; exact hX, by simp⟩
theorem tN {L X D n j Q g : Nat} {r r1 : List Nat} {top : Int} (h : kI L X D n (j + 1) r Q) (hD : D < 256 ^ n) (hL : j + n < L) (hlen : r1.length = L) (hdig : ∀ x ∈ r1, x < 256)
  (hsum : (ev 256 (r1.take (j + n)) : Int) + ((256 ^ (j + n) : Nat) : Int) * top + ((256 ^ j * g * D : Nat) : Int) = ev 256 (r.take (j + 1 + n))) (htop : 0 ≤ top) (hg : ev 256 (r.take (j + 1 + n)) / (256 ^ j * D) ≤ g) :
  top = 0 ∧ kI L X D n j (r1.set (j + n) 0) (Q + g * 256 ^ j) := by
 obtain ⟨tp, rfl⟩ : ∃ k : Nat, top = (k : Int) := ⟨top.toNat, by omega⟩
 have hs : ev 256 (r1.take (j + n)) + 256 ^ (j + n) * tp + 256 ^ j * g * D = ev 256 (r.take (j + 1 + n)) := by
  apply Int.ofNat_inj.1
  rw [Int.natCast_add, Int.natCast_add, Int.natCast_mul]; exact hsum
 obtain ⟨W, hW⟩ : ∃ W, W = ev 256 (r.take (j + 1 + n)) := ⟨_, rfl⟩
 obtain ⟨E, hE⟩ : ∃ E, E = ev 256 (r1.take (j + n)) := ⟨_, rfl⟩
 rw [← hW] at hs hg
 rw [← hE] at hs
 have hlt := h.lt
 rw [← hW] at hlt
 have hDp : 0 < D := by
  rcases Nat.eq_zero_or_pos D with e | e
  ·rw [e] at hlt; omega
  ·exact e
 obtain ⟨V, hV⟩ : ∃ V, V = 256 ^ j * D := ⟨_, rfl⟩
 have hVp : 0 < V := by rw [hV]; exact Nat.mul_pos (Nat.pow_pos (by decide)) hDp
 have e1 : 256 ^ j * g * D = g * V := by rw [hV, Nat.mul_comm (256 ^ j) g, Nat.mul_assoc]
 rw [← hV] at hg
 rw [e1] at hs
 have hgq : g = W / V := Nat.le_antisymm ((Nat.le_div_iff_mul_le hVp).2 (by omega)) hg
 have hT : E + 256 ^ (j + n) * tp = W % V := by
  have := Nat.div_add_mod W V
  rw [Nat.mul_comm V, ← hgq] at this; omega
 have hTl := Nat.mod_lt W hVp
 have hVl : V < 256 ^ (j + n) := by rw [hV, Nat.pow_add]; exact Nat.mul_lt_mul_of_pos_left hD (Nat.pow_pos (by decide))
 have htp : tp = 0 := by
  rcases Nat.eq_zero_or_pos tp with e | e
  ·exact e
  ·have : 256 ^ (j + n) * 1 ≤ 256 ^ (j + n) * tp := Nat.mul_le_mul_left _ e
   omega
 subst htp
 have hEV : E = W % V := by omega
 have hE2 : ev 256 ((r1.set (j + n) 0).take (j + n)) = E := by rw [dX r1 _ _ _ (Nat.le_refl _), hE]
 refine ⟨rfl, by rw [List.length_set]; exact hlen, nZ 256 r1 hdig _ 0 (by decide), ?_, ?_, ?_⟩
 ·rw [hE2, h.sum, ← hW, Nat.add_mul]
  have : g * 256 ^ j * D = g * V := by rw [hV, Nat.mul_assoc]
  omega
 ·rw [hE2, ← hV]; omega
 ·have h1 := h.dvd
  obtain ⟨q, hq⟩ := Nat.dvd_of_mod_eq_zero h1
  rw [hq, Nat.pow_succ, Nat.mul_assoc, Nat.mul_comm g, ← Nat.mul_add]; exact Nat.mul_mod_right _ _
theorem tO {W A D E P g : Nat} {top : Int} (hsum : (E : Int) + (P : Int) * top + ((A * g * D : Nat) : Int) = W) (hE : E < P) (ht : top < 0) : W < g * (A * D) := by
 have h1 : (P : Int) * top ≤ (P : Int) * (-1) := Int.mul_le_mul_of_nonneg_left (by omega) (by omega)
 have e : A * g * D = g * (A * D) := by rw [Nat.mul_comm A g, Nat.mul_assoc]
 rw [e] at hsum
 omega
theorem wi {m g n D cy bw : Nat} {r d r2 : List Nat} (h : kG 256 m g r d n r2 cy bw) (hd : ev 256 (d.take n) = D) (hl : m + n < r.length) :
  (ev 256 (r2.take (m + n)) : Int) + ((256 ^ (m + n) : Nat) : Int) * ((r2.getD (m + n) 0 : Nat) - (cy : Int) - bw) + ((256 ^ m * g * D : Nat) : Int) = ev 256 (r.take (m + 1 + n)) := by
 have h1 := h.sum
 have h2 := eX h.high
 rw [hd] at h1
 rw [show m + 1 + n = m + n + 1 by omega, a8 256 r (m + n) hl, ← h2]
 generalize 256 ^ (m + n) = P at *
 generalize 256 ^ m * g * D = G at *
 generalize r2.getD (m + n) 0 = x at *
 generalize ev 256 (r2.take (m + n)) = E at *
 generalize ev 256 (r.take (m + n)) = F at *
 have e : (P : Int) * ((x : Int) - cy - bw) = ((P * x : Nat) : Int) - ((P * (cy + bw) : Nat) : Int) := by
  rw [Int.natCast_mul, Int.natCast_mul, Int.natCast_add, Int.mul_sub, Int.mul_sub, Int.mul_add]; omega
 rw [e]; omega
theorem tP {m g n D c : Nat} {W : Nat} {top : Int} {r3 d r4 : List Nat} (h : kJ 256 m r3 d n r4 c) (hd : ev 256 (d.take n) = D) (hg : 1 ≤ g)
  (hs : (ev 256 (r3.take (m + n)) : Int) + ((256 ^ (m + n) : Nat) : Int) * top + ((256 ^ m * g * D : Nat) : Int) = W) :
  (ev 256 (r4.take (m + n)) : Int) + ((256 ^ (m + n) : Nat) : Int) * (top + c) + ((256 ^ m * (g - 1) * D : Nat) : Int) = W := by
 have h1 := h.sum
 rw [hd] at h1
 have e1 : 256 ^ m * g * D = 256 ^ m * (g - 1) * D + 256 ^ m * D := by
  obtain ⟨k, rfl⟩ : ∃ k, g = k + 1 := ⟨g - 1, by omega⟩
  rw [Nat.add_sub_cancel, Nat.mul_add, Nat.mul_one, Nat.add_mul]
 rw [e1] at hs
 rw [Int.mul_add]
 generalize 256 ^ (m + n) = P at *
 generalize 256 ^ m * (g - 1) * D = G at *
 generalize 256 ^ m * D = G' at *
 have e : (P : Int) * (c : Int) = ((P * c : Nat) : Int) := by rw [Int.natCast_mul]
 rw [e]; omega
theorem iT : ∀ (k x i : Nat), i < k → (be k x)[i]? = some (UInt8.ofNat (x / 256 ^ (k - 1 - i)))
 | 0, x, i, h => by omega
 | k + 1, x, 0, h => by rw [be, List.getElem?_cons_zero]; rfl
 | k + 1, x, i + 1, h => by rw [be, List.getElem?_cons_succ, iT k x i (by omega), show k + 1 - 1 - (i + 1) = k - 1 - i by omega]
theorem jk {x y : Nat} (h : x % 256 = y % 256) : UInt8.ofNat x = UInt8.ofNat y := UInt8.toNat.inj (by rw [UInt8.toNat_ofNat', UInt8.toNat_ofNat']; exact h)
theorem yg (L m Q g : Nat) (hm : m < L) (hg : g < 256) (hQ : Q % 256 ^ (m + 1) = 0) : (be L Q).set (L - 1 - m) (UInt8.ofNat g) = be L (Q + g * 256 ^ m) := by
 obtain ⟨q, rfl⟩ := Nat.dvd_of_mod_eq_zero hQ
 apply List.ext_getElem?
 intro i
 rcases Nat.lt_or_ge i L with h | h
 ·rw [iT L _ i h]
  by_cases e : L - 1 - m = i
  ·subst e
   rw [List.getElem?_set_self (by rw [aN]; omega), show L - 1 - (L - 1 - m) = m by omega]
   congr 1; apply jk
   rw [Nat.pow_succ, Nat.mul_assoc, Nat.mul_comm g, ← Nat.mul_add, Nat.mul_div_cancel_left _ (Nat.pow_pos (by decide))]; omega
  ·rw [List.getElem?_set_ne e, iT L _ i h]
   congr 1; apply jk
   obtain ⟨t, ht⟩ : ∃ t, t = L - 1 - i := ⟨_, rfl⟩
   rw [← ht]
   rcases Nat.lt_or_ge t m with h1 | h1
   ·have e1 : 256 ^ (m + 1) * q = 256 ^ t * (256 * (256 ^ (m - t) * q)) := by
     rw [show m + 1 = t + (1 + (m - t)) by omega, Nat.pow_add, Nat.pow_add]; simp only [Nat.mul_assoc, Nat.pow_one]
    have e2 : g * 256 ^ m = 256 ^ t * (256 * (256 ^ (m - t - 1) * g)) := by
     rw [show m = t + (1 + (m - t - 1)) by omega, Nat.pow_add, Nat.pow_add, show t + (1 + (m - t - 1)) - t - 1 = m - t - 1 by omega]
     simp only [Nat.mul_comm, Nat.mul_assoc, Nat.mul_left_comm, Nat.pow_one]
    rw [e1, e2, ← Nat.mul_add, Nat.mul_div_cancel_left _ (Nat.pow_pos (by decide)), Nat.mul_div_cancel_left _ (Nat.pow_pos (by decide))]; omega
   ·obtain ⟨u, rfl⟩ : ∃ u, t = m + 1 + u := ⟨t - (m + 1), by omega⟩
    congr 1
    rw [Nat.pow_add 256 (m + 1) u, ← Nat.div_div_eq_div_mul, ← Nat.div_div_eq_div_mul, Nat.mul_div_cancel_left _ (Nat.pow_pos (by decide)), Nat.mul_add_div (Nat.pow_pos (by decide)), Nat.div_eq_of_lt (a := g * 256 ^ m) (by
     rw [Nat.pow_succ, Nat.mul_comm]; exact Nat.mul_lt_mul_of_pos_left hg (Nat.pow_pos (by decide))), Nat.add_zero]
 ·rw [List.getElem?_eq_none (by rw [List.length_set, aN]; exact h), List.getElem?_eq_none (by rw [aN]; exact h)]
theorem yh (L m Q k : Nat) (hm : m < L) (hk : Q / 256 ^ m % 256 + k < 256) : (be L Q).set (L - 1 - m) (UInt8.ofNat (Q / 256 ^ m % 256 + k)) = be L (Q + k * 256 ^ m) := by
 apply List.ext_getElem?
 intro i
 have hdv : (Q + k * 256 ^ m) / 256 ^ m = Q / 256 ^ m + k := by rw [Nat.mul_comm, Nat.add_mul_div_left _ _ (Nat.pow_pos (by decide))]
 rcases Nat.lt_or_ge i L with h | h
 ·rw [iT L _ i h]
  by_cases e : L - 1 - m = i
  ·subst e
   rw [List.getElem?_set_self (by rw [aN]; omega), show L - 1 - (L - 1 - m) = m by omega, hdv]
   congr 1; apply jk; omega
  ·rw [List.getElem?_set_ne e, iT L _ i h]
   congr 1; apply jk
   obtain ⟨t, ht⟩ : ∃ t, t = L - 1 - i := ⟨_, rfl⟩
   rw [← ht]
   rcases Nat.lt_or_ge t m with h1 | h1
   ·have e2 : k * 256 ^ m = 256 ^ t * (256 * (256 ^ (m - t - 1) * k)) := by
     rw [show m = t + (1 + (m - t - 1)) by omega, Nat.pow_add, Nat.pow_add, show t + (1 + (m - t - 1)) - t - 1 = m - t - 1 by omega]
     simp only [Nat.mul_comm, Nat.mul_assoc, Nat.mul_left_comm, Nat.pow_one]
    rw [e2, Nat.add_mul_div_left _ _ (Nat.pow_pos (by decide)), Nat.add_mul_mod_self_left]
   ·obtain ⟨u, rfl⟩ : ∃ u, t = m + 1 + u := ⟨t - (m + 1), by omega⟩
    rw [Nat.pow_add 256 (m + 1) u, Nat.pow_succ, ← Nat.div_div_eq_div_mul, ← Nat.div_div_eq_div_mul, ← Nat.div_div_eq_div_mul, ← Nat.div_div_eq_div_mul, hdv]
    rw [show (Q / 256 ^ m + k) / 256 = Q / 256 ^ m / 256 by omega]
 ·rw [List.getElem?_eq_none (by rw [List.length_set, aN]; exact h), List.getElem?_eq_none (by rw [aN]; exact h)]
theorem qN {A B t c : Nat} (hB : 0 < B) (hc : c = 2 * (A / 2 ^ (t + 1) % B) + A / 2 ^ t % 2) :
  (B ≤ c → A / 2 ^ t / B = 2 * (A / 2 ^ (t + 1) / B) + 1 ∧ A / 2 ^ t % B = c - B) ∧ (c < B → A / 2 ^ t / B = 2 * (A / 2 ^ (t + 1) / B) ∧ A / 2 ^ t % B = c) := by
 have h1 : A / 2 ^ (t + 1) = A / 2 ^ t / 2 := by rw [Nat.pow_succ, Nat.div_div_eq_div_mul]
 rw [h1] at hc ⊢
 generalize A / 2 ^ t = X at *
 have h2 := Nat.div_add_mod (X / 2) B
 have h3 := Nat.mod_lt (X / 2) hB
 generalize X / 2 / B = u at *
 generalize X / 2 % B = R at *
 have hX : X = B * (2 * u) + c := by rw [Nat.mul_left_comm]; omega
 constructor
 ·intro h
  have hX2 : X = B * (2 * u + 1) + (c - B) := by rw [Nat.mul_add]; omega
  rw [hX2]
  constructor
  ·rw [Nat.mul_add_div hB, Nat.div_eq_of_lt (by omega), Nat.add_zero]
  ·rw [Nat.mul_add_mod, Nat.mod_eq_of_lt (by omega)]
 ·intro h
  rw [hX]
  constructor
  ·rw [Nat.mul_add_div hB, Nat.div_eq_of_lt h, Nat.add_zero]
  ·rw [Nat.mul_add_mod, Nat.mod_eq_of_lt h]
theorem kV (i : Nat) : 2 ^ i = 2 ^ (i % 8) * 256 ^ (i / 8) := by
 rw [show (256 : Nat) = 2 ^ 8 from rfl, ← Nat.pow_mul, ← Nat.pow_add]; congr 1; omega
theorem ot (u t : Nat) : u * 2 ^ (t + 1) / 256 ^ (t / 8) % 256 + 2 ^ (t % 8) < 256 := by
 have e : u * 2 ^ (t + 1) = 256 ^ (t / 8) * (u * 2 ^ (t % 8 + 1)) := by
  rw [Nat.pow_succ, kV t, Nat.pow_succ]; simp only [Nat.mul_comm, Nat.mul_left_comm, Nat.mul_assoc]
 rw [e, Nat.mul_div_cancel_left _ (Nat.pow_pos (by decide))]
 have h : t % 8 < 8 := Nat.mod_lt _ (by decide)
 rcases eo h with h | h | h | h | h | h | h | h <;> rw [h] <;> omega
theorem n6 (R s i : Nat) (h : s < 8) : R / 256 ^ i % 256 = (R * 2 ^ s / 256 ^ i % 256 + R * 2 ^ s / 256 ^ (i + 1) % 256 * 256) / 2 ^ s % 256 := by
 have e1 : R * 2 ^ s / 256 ^ i / 2 ^ s = R / 256 ^ i := by
  rw [Nat.div_div_eq_div_mul, Nat.mul_comm (256 ^ i), ← Nat.div_div_eq_div_mul, Nat.mul_div_cancel _ (Nat.two_pow_pos s)]
 rw [Nat.pow_succ, ← Nat.div_div_eq_div_mul, ← e1]
 generalize R * 2 ^ s / 256 ^ i = B
 rcases eo h with rfl | rfl | rfl | rfl | rfl | rfl | rfl | rfl <;> omega
theorem wj {L X D n Q : Nat} {r : List Nat} (h : kI L X D n 0 r Q) : Q = X / D ∧ ev 256 (r.take n) = X % D := by
 have h1 := h.sum; have h2 := h.lt
 rw [Nat.zero_add] at h1 h2
 rw [Nat.pow_zero, Nat.one_mul] at h2
 rw [h1]
 constructor
 ·rw [Nat.mul_comm, Nat.mul_add_div (by omega), Nat.div_eq_of_lt h2, Nat.add_zero]
 ·rw [Nat.mul_comm, Nat.mul_add_mod, Nat.mod_eq_of_lt h2]
end Go.Proofs.YtkdlonihbjhhoaaGreatDoor
namespace Go.Proofs.YtkdlonihbjhhoaaGreatDoor
open Go.RowKit
set_option linter.unusedSimpArgs false
set_option linter.unusedVariables false
set_option maxHeartbeats 600000
set_option maxRecDepth 20000
theorem wC : ∀ x, x < 256 → Lib.bitLen x ≤ 8 := by decide +kernel
theorem rl : ∀ x, x < 256 → (x + 1) * 2 ^ (8 - Lib.bitLen x) ≤ 256 := by decide +kernel
theorem rm : ∀ x, x < 256 → x * 2 ^ (8 - Lib.bitLen x) < 256 := by decide +kernel
theorem oP {x : Nat} (h : 0 < x) (h2 : x < 256) : 1 ≤ Lib.bitLen x := by rw [fR h (by omega)]; omega
theorem yC {c : UInt8} {w : World} :
  Cw 228 #[.int .u8 (c.toNat : Int)] w (.int .i64 ((8 - Lib.bitLen c.toNat : Nat) : Int)) := by
 have hc := c.toNat_lt
 have hb := wC c.toNat (by omega)
 refine En [] [(0, .int .u8 (c.toNat : Int))] Tryz.func228 rfl Tryz.ntmps228 rfl (Ac rfl (An _)) Fn ?_
 refine Cs (Ka rfl (Nt (Cs (Km rfl ?_))))
 refine Ku rfl (Oc rfl rfl (Kv fun w hS => s7 (x := c.toNat) (by assumption))) ?_
 refine Kq rfl (dM rfl rfl rfl (by omega)) (Ka rfl (Nt (Ce ?_)))
 exact R1 rfl rfl (by rfl)
theorem uP {b : Bs} (h : Can b) (h0 : b ≠ []) : val b * 2 ^ (8 - Lib.bitLen (b.getD 0 default).toNat) < 256 ^ b.length := by
 cases b with
 | nil => exact absurd rfl h0
 | cons c s =>
  show (c.toNat * 256 ^ s.length + val s) * 2 ^ (8 - Lib.bitLen c.toNat) < 256 ^ (s.length + 1)
  have h1 := rm c.toNat c.toNat_lt
  have h2 := aK s
  have h3 : (c.toNat * 256 ^ s.length + val s) * 2 ^ (8 - Lib.bitLen c.toNat) < (c.toNat + 1) * 256 ^ s.length * 2 ^ (8 - Lib.bitLen c.toNat) :=
   Nat.mul_lt_mul_of_pos_right (by rw [Nat.add_mul, Nat.one_mul]; omega) (Nat.two_pow_pos _)
  have h4 : (c.toNat + 1) * 2 ^ (8 - Lib.bitLen c.toNat) ≤ 256 := rl c.toNat c.toNat_lt
  have h5 : (c.toNat + 1) * 256 ^ s.length * 2 ^ (8 - Lib.bitLen c.toNat) = (c.toNat + 1) * 2 ^ (8 - Lib.bitLen c.toNat) * 256 ^ s.length := by
   rw [Nat.mul_assoc, Nat.mul_comm (256 ^ s.length), ← Nat.mul_assoc]
  have h6 : (c.toNat + 1) * 2 ^ (8 - Lib.bitLen c.toNat) * 256 ^ s.length ≤ 256 * 256 ^ s.length := Nat.mul_le_mul_right _ h4
  rw [Nat.pow_succ, Nat.mul_comm (256 ^ s.length)]; omega
theorem qc (n : Nat) : (be n 0).map B = List.replicate n (.int .u8 0) := by
 have h : be n 0 = List.replicate n 0 := by
  induction n with
  | zero => rfl
  | succ n ih => rw [be, ih]; simp [List.replicate_succ]
 rw [h, List.map_replicate]; rfl
theorem lu {a b : Bs} {w : World} (ha : okN a) (hb : okN b) (hb0 : b ≠ []) :
  Cw 191 #[.string (S a), .string (S b)] w (.tuple #[.string (S (ae (val a / val b))), .string (S (ae (val a % val b)))]) := by
 have hal := ha.1; have hbl := hb.1
 have hvb : 0 < val b := Nat.pos_of_ne_zero fun h => hb0 ((bg hb.2).1 h)
 refine En [] [(0, .string (S a)), (1, .string (S b))] Tryz.func191 rfl Tryz.ntmps191 rfl (Ac rfl (Ac rfl (An _))) Fn ?_
 refine Cs (Ka rfl (Ka rfl (Nt (Cq (Cs (Km rfl (Km rfl ?_)))))))
 refine Ku rfl (Oc rfl rfl (Kv fun w hS => iN (a := a) (b := b) (by exact ha.2) (by exact hb.2))) ?_
 refine Yl rfl (Nt ?_)
 refine Cd rfl (fun hc32 => ?_) (fun hc32 => ?_)
 ·(try simp only [sB] at hc32)
  have hlt : val a < val b := (aw _ _).1 hc32
  refine Cs (Km rfl (Ka rfl (Ka rfl (Nt (Ce (Xb ?_))))))
  exact R2 rfl rfl rfl (by rw [Nat.div_eq_of_lt hlt, Nat.mod_eq_of_lt hlt, dR, dp ha]; rfl)
 ·(try simp only [sB] at hc32)
  have hge : val b ≤ val a := Nat.not_lt.1 fun h => absurd ((aw _ _).2 h) (by omega)
  have hlen : b.length ≤ a.length := ip hb.2 ha.2 hge
  refine Ck (Xa (Cq (Cs (Km rfl (Yn rfl u22 (Ym rfl (Nt ?_)))))))
  refine Cd rfl (fun hc36 => ?_) (fun hc36 => ?_)
  ·(try simp only [sB] at hc36)
   have hsa : aO a = (val a, true) := by rw [aO, if_pos ⟨ha, by omega⟩]
   have hsb : aO b = (val b, true) := by rw [aO, if_pos ⟨hb, by omega⟩]
   have hva8 : val a < 18446744073709551616 := dK (by omega)
   have hdv := Nat.div_le_self (val a) (val b)
   have hmd := Nat.mod_lt (val a) hvb
   refine Cs (Km rfl ?_)
   refine Ku rfl (Oc rfl rfl (Kv fun w hS => (by have := dY (w := w) (a := a) (by omega); rw [hsa] at this; exact this))) ?_
   refine Km rfl (Ye rfl (Ye rfl (Ka rfl (Ka rfl (Nt (Cs (Km rfl ?_)))))))
   refine Ku rfl (Oc rfl rfl (Kv fun w hS => (by have := dY (w := w) (a := b) (by omega); rw [hsb] at this; exact this))) ?_
   refine Km rfl (Ye rfl (Ye rfl (Ka rfl (Ka rfl (Nt (Cq ?_))))))
   refine Cf [0, 1, 2, 3, 4, 5, 6, 7, 8, 9] [] [0, 0, 0, 1, 0, 0, 0, 1, 0, 0] (by kernel_rfl) (by kernel_rfl) rfl ?_
   refine Kj rfl (Rm rfl rfl) (Kj rfl (Rm rfl rfl) ?_)
   refine Kj rfl (cg rfl rfl rfl ?_) ?_
   ·omega
   refine Jv rfl rfl rfl rfl rfl (fun ext => Oc rfl rfl (Kv fun w hS => fF (n := val a / val b) (by omega))) ?_
   refine Kj rfl (Rm rfl rfl) (Kj rfl (Rm rfl rfl) ?_)
   refine Kj rfl (bo rfl rfl rfl ?_) ?_
   ·assumption
   refine Jv rfl rfl rfl rfl rfl (fun ext => Oc rfl rfl (Kv fun w hS => fF (n := val a % val b) (by omega))) ?_
   refine Kj rfl (Ra rfl rfl) (Kj rfl (Ra rfl rfl) ?_)
   refine WJ.nil ?_
   refine Nt (Ce (Xb ?_))
   exact R2 rfl rfl rfl (by rfl)
  ·(try simp only [sB] at hc36)
   obtain ⟨s, hs⟩ : ∃ s, s = 8 - Lib.bitLen (b.getD 0 default).toNat := ⟨_, rfl⟩
   have hcb := (iq b).1 hb.2
   have hbp : 0 < b.length := List.length_pos_iff.2 hb0
   have hs8 : s < 8 := by have := oP (x := (b.getD 0 default).toNat) (by omega) (b.getD 0 default).toNat_lt; omega
   have hfit := uP hb.2 hb0
   rw [← hs] at hfit
   obtain ⟨D, hD⟩ : ∃ D, D = val b * 2 ^ s := ⟨_, rfl⟩
   rw [← hD] at hfit
   have hdg : ∀ (x k : Nat), x / 256 ^ k % 256 * 2 ^ s < 65536 := fun x k => by
    have h1 : x / 256 ^ k % 256 < 256 := Nat.mod_lt _ (by decide)
    generalize x / 256 ^ k % 256 = y at *
    rcases eo hs8 with rfl | rfl | rfl | rfl | rfl | rfl | rfl | rfl <;> omega
   have hdg2 : ∀ (x k : Nat), x / 256 ^ k % 256 < 256 := fun x k => Nat.mod_lt _ (by decide)
   refine Ck (Xa (Cs (Km rfl (Kq rfl (gU rfl rfl rfl u22 (by assumption)) ?_))))
   refine Ku rfl (Oc rfl rfl (Kv fun w hS => yC (c := b.getD 0 default))) ?_
   refine Ns 57 rfl (v' := .int .i64 ((s : Nat) : Int)) (congrArg (Value.int .i64) (by rw [hs])) ?_
   refine Ka rfl (Nt (Cs (Km rfl (Yn rfl u22 (Ka rfl (Nt (Cs (Km rfl ?_))))))))
   refine Kh rfl (dN rfl rfl rfl u38 (by kernel_rfl : _ = some (some (.int .i64 0), 1, 8)) rfl ?_ (by (try simp only [sN, Int.reduceToNat, Nat.reduceAdd, Nat.reduceMul, Nat.reduceSub]); rfl) (by (try simp only [sN, Int.reduceToNat, Nat.reduceAdd, Nat.reduceMul, Nat.reduceSub]); rfl)) ?_
   ·omega
   intro b61
   refine Ka rfl (Nt (Cq (Cs (Km rfl (Km rfl (Nt (Cb ?_)))))))
   refine Lo (σ := Nat) [(0, _), (1, _), (10, _), (11, _), (12, _), (62, _)] (fun gq => [(63, .int .i64 (gq : Int))]) (fun gq => gq ≤ b.length) (fun gq => b.length - gq) (fun gq => [⟨some b61, bX (bm D gq ++ List.replicate (b.length - gq) 0), 3⟩]) (fun gq => []) (0) (S6 rfl rfl rfl rfl rfl rfl) (S1 rfl) (by (try dsimp only); omega) (by exact fun w h => by rw [show bm D 0 ++ List.replicate (b.length - 0) 0 = List.replicate b.length 0 from rfl, im]; exact h) ?_
   rintro k hinv1; (try dsimp only at hinv1 ⊢)
   obtain hk := hinv1
   refine Cs (Yl rfl (Nt (Cq ?_)))
   refine Cd rfl (fun hc64 => ?_) (fun hc64 => ?_)
   ·(try simp only [sB] at hc64)
    have hd1 := hdg (val b) k
    have hd2 := hdg2 (val b) k
    have hll : (bm D k ++ List.replicate (b.length - k) 0).length = b.length := by rw [List.length_append, bk, List.length_replicate]; omega
    refine Ck (Xa ?_)
    refine WC.joinO (σ := Unit) [(0, _), (1, _), (10, _), (11, _), (12, _), (62, _), (63, _)] (fun gq => []) (fun gq => True) (fun gq => [⟨some b61, bX (bm D (k + 1) ++ List.replicate (b.length - (k + 1)) 0), 3⟩]) (fun gq => []) (S7 rfl rfl rfl rfl rfl rfl rfl) ?_ ?_
    ·skip
     refine Cb (Cs (Km rfl (Ka rfl (Nt (Cs (Km rfl (Km rfl (Km rfl (Km rfl ?_)))))))))
     refine Ku rfl (Oc rfl rfl (Kv fun w hS => cL (a := b) (i := k) (by omega) (by omega))) ?_
     refine Km rfl ?_
     refine Kq rfl (eT rfl rfl rfl (by (show _ ≤ 64; omega)) (by omega)) ?_
     refine Kq rfl (dk 8 rfl rfl rfl (by decide) ?_) ?_
     ·omega
     refine Kq rfl (Ja rfl rfl rfl u38 (by kernel_rfl : _ = some 1) (by omega)) ?_
     refine Ng rfl rfl (st rfl rfl rfl .tc (by kernel_rfl) rfl ?_ (by rfl)) ?_
     ·rw [cN, hll]; omega
     intro _
     rw [cM]
     refine Nt (Cs (Km rfl (Yg rfl (Nt ?_))))
     refine Cd rfl (fun hc76 => ?_) (fun hc76 => ?_)
     ·(try simp only [sB] at hc76)
      have hk1 : k - 1 + 1 = k := by omega
      have hsc := m0 (val b) s (k - 1) hs8
      have hsp := mZ (val b) s (k - 1) hs8
      rw [hk1] at hsc hsp
      rw [← hD] at hsc
      have hd3 := hdg2 (val b) (k - 1)
      refine Cf [4, 5, 6, 7, 0, 1, 2, 3, 8, 9, 10, 11, 12] [13] [0, 0, 0, 0, 0, 0, 0, 1, 0, 0, 0, 0, 0, 2] (by kernel_rfl) (by kernel_rfl) rfl ?_
      refine Kj rfl (Rm rfl rfl) (Kj rfl (Rm rfl rfl) (Kj rfl (ar rfl rfl rfl (by omega)) ?_))
      refine Jv rfl rfl rfl rfl rfl (fun ext => Oc rfl rfl (Kv fun w hS => cL (a := b) (i := k - 1) (by omega) (by omega))) ?_
      refine Kj rfl (Rm rfl rfl) (Kj rfl (Rm rfl rfl) ?_)
      refine Kj rfl (Ja rfl rfl rfl u38 (by kernel_rfl : _ = some 1) (by omega)) ?_
      refine Kj rfl (ld rfl rfl .tc u3 rfl (a6 _ _ (by rw [List.length_set, hll]; omega))) ?_
      refine WJ.set 80 rfl (v' := .int .i64 ((val b / 256 ^ k % 256 * 2 ^ s % 2 ^ 8 : Nat) : Int)) (congrArg (Value.int .i64) (by rw [ed _ _ _ (by rw [hll]; omega)])) ?_
      refine Kj rfl (Rm rfl rfl) (Kj rfl (dM rfl rfl rfl (by omega)) ?_)
      refine Kj rfl (bq rfl rfl rfl (by (show _ ≤ 64; omega))) ?_
      refine Kj rfl (j0 s rfl rfl rfl ?_) ?_
      ·exact ⟨hsp.2.1, by omega, hsp.1, by omega⟩
      refine Kj rfl (Ja rfl rfl rfl u38 (by kernel_rfl : _ = some 1) (by omega)) ?_
      refine WJ.nil ?_
      refine Ng rfl rfl (st rfl rfl rfl .tc (by kernel_rfl) rfl ?_ (by rfl)) ?_
      ·rw [cN, List.length_set, hll]; omega
      intro _
      rw [cM, List.set_set]
      refine Nn (Xd ?_)
      refine WX.joinO (()) (S7 rfl rfl rfl rfl rfl rfl rfl) (S0 _) ?_ (by exact fun w h => by rw [← il D b.length k (by omega), hsc]; exact h)
      (try dsimp only)
      done
     ·(try simp only [sB] at hc76)
      obtain rfl : k = 0 := by omega
      have hsc := kZ (val b) s
      rw [← hD] at hsc
      refine Ck (Xd ?_)
      refine WX.joinO (()) (S7 rfl rfl rfl rfl rfl rfl rfl) (S0 _) ?_ (by exact fun w h => by rw [← il D b.length 0 (by omega), hsc]; exact h)
      (try dsimp only)
      done
    ·rintro _ hmeet; (try dsimp only at hmeet ⊢)
     refine Cg (Kq rfl (Rz rfl rfl rfl (by omega)) (Km rfl (Nn ?_)))
     refine Lx (k + 1) (by (try dsimp only); omega) (S6 rfl rfl rfl rfl rfl rfl) (by refine (Sc ?_ (S0 _)) <;> (rfl)) ?_ (by (exact fun _ h => h))
     (try dsimp only)
     omega
   ·(try simp only [sB] at hc64)
    refine Cx (Xc (Xc (Xe ?_)))
    obtain rfl : k = b.length := by omega
    rw [show List.replicate (b.length - b.length) 0 = ([] : List Nat) by rw [Nat.sub_self]; rfl, List.append_nil]
    obtain ⟨X, hX⟩ : ∃ X, X = val a * 2 ^ s := ⟨_, rfl⟩
    refine Xa (Cs (Km rfl (Yn rfl u22 (Kq rfl (Rz rfl rfl rfl (by omega)) ?_))))
    refine Kh rfl (dN rfl rfl rfl u38 (by kernel_rfl : _ = some (some (.int .i64 0), 1, 8)) rfl ?_ (by (try simp only [sN, Int.reduceToNat, Nat.reduceAdd, Nat.reduceMul, Nat.reduceSub]); rfl) (by (try simp only [sN, Int.reduceToNat, Nat.reduceAdd, Nat.reduceMul, Nat.reduceSub]); rfl)) ?_
    ·omega
    intro b94
    refine Ka rfl (Nt (Cq (Cs (Km rfl (Yo rfl u38 (Km rfl (Nt (Cb ?_))))))))
    refine Lo (σ := Nat) [(0, _), (10, _), (11, _), (12, _), (14, _), (96, _)] (fun gq => [(97, .int .i64 (gq : Int))]) (fun gq => gq ≤ a.length + 1) (fun gq => a.length + 1 - gq) (fun gq => [⟨some b94, bX (bm X gq ++ List.replicate (a.length + 1 - gq) 0), 3⟩, ⟨some b61, bX (bm D b.length), 3⟩]) (fun gq => []) (0) (S6 rfl rfl rfl rfl rfl rfl) (S1 rfl) (by (try dsimp only); omega) (by exact fun w h => by rw [show bm X 0 ++ List.replicate (a.length + 1 - 0) 0 = List.replicate (a.length + 1) 0 from rfl, im]; exact h) ?_
    rintro k hinv2; (try dsimp only at hinv2 ⊢)
    obtain hk := hinv2
    refine Cs (Yl rfl (Nt (Cq ?_)))
    refine Cd rfl (fun hc98 => ?_) (fun hc98 => ?_)
    ·(try simp only [sB] at hc98)
     have hd1 := hdg (val a) k
     have hd2 := hdg2 (val a) k
     have hll : (bm X k ++ List.replicate (a.length + 1 - k) 0).length = a.length + 1 := by rw [List.length_append, bk, List.length_replicate]; omega
     refine Ck (Xa ?_)
     refine WC.joinO (σ := Unit) [(0, _), (10, _), (11, _), (12, _), (14, _), (96, _), (97, _)] (fun gq => []) (fun gq => True) (fun gq => [⟨some b94, bX (bm X (k + 1) ++ List.replicate (a.length + 1 - (k + 1)) 0), 3⟩, ⟨some b61, bX (bm D b.length), 3⟩]) (fun gq => []) (S7 rfl rfl rfl rfl rfl rfl rfl) ?_ ?_
     ·skip
      refine Cb (Cs (Km rfl (Ka rfl (Nt (Cs (Km rfl (Km rfl (Km rfl (Km rfl ?_)))))))))
      refine Ku rfl (Oc rfl rfl (Kv fun w hS => cL (a := a) (i := k) (by omega) (by omega))) ?_
      refine Km rfl ?_
      refine Kq rfl (eT rfl rfl rfl (by (show _ ≤ 64; omega)) (by omega)) ?_
      refine Kq rfl (dk 8 rfl rfl rfl (by decide) ?_) ?_
      ·omega
      refine Kq rfl (Ja rfl rfl rfl u38 (by kernel_rfl : _ = some 1) (by omega)) ?_
      refine Ng rfl rfl (st rfl rfl rfl .tc (by kernel_rfl) rfl ?_ (by rfl)) ?_
      ·rw [cN, hll]; omega
      intro _
      rw [cM]
      refine Nt (Cs (Km rfl (Yg rfl (Nt ?_))))
      refine Cd rfl (fun hc110 => ?_) (fun hc110 => ?_)
      ·(try simp only [sB] at hc110)
       have hk1 : k - 1 + 1 = k := by omega
       have hsc := m0 (val a) s (k - 1) hs8
       have hsp := mZ (val a) s (k - 1) hs8
       rw [hk1] at hsc hsp
       rw [← hX] at hsc
       have hd3 := hdg2 (val a) (k - 1)
       refine Cf [4, 5, 6, 7, 0, 1, 2, 3, 8, 9, 10, 11, 12] [13] [0, 0, 0, 0, 0, 0, 0, 1, 0, 0, 0, 0, 0, 2] (by kernel_rfl) (by kernel_rfl) rfl ?_
       refine Kj rfl (Rm rfl rfl) (Kj rfl (Rm rfl rfl) (Kj rfl (ar rfl rfl rfl (by omega)) ?_))
       refine Jv rfl rfl rfl rfl rfl (fun ext => Oc rfl rfl (Kv fun w hS => cL (a := a) (i := k - 1) (by omega) (by omega))) ?_
       refine Kj rfl (Rm rfl rfl) (Kj rfl (Rm rfl rfl) ?_)
       refine Kj rfl (Ja rfl rfl rfl u38 (by kernel_rfl : _ = some 1) (by omega)) ?_
       refine Kj rfl (ld rfl rfl .tc u3 rfl (a6 _ _ (by rw [List.length_set, hll]; omega))) ?_
       refine WJ.set 114 rfl (v' := .int .i64 ((val a / 256 ^ k % 256 * 2 ^ s % 2 ^ 8 : Nat) : Int)) (congrArg (Value.int .i64) (by rw [ed _ _ _ (by rw [hll]; omega)])) ?_
       refine Kj rfl (Rm rfl rfl) (Kj rfl (dM rfl rfl rfl (by omega)) ?_)
       refine Kj rfl (bq rfl rfl rfl (by (show _ ≤ 64; omega))) ?_
       refine Kj rfl (j0 s rfl rfl rfl ?_) ?_
       ·exact ⟨hsp.2.1, by omega, hsp.1, by omega⟩
       refine Kj rfl (Ja rfl rfl rfl u38 (by kernel_rfl : _ = some 1) (by omega)) ?_
       refine WJ.nil ?_
       refine Ng rfl rfl (st rfl rfl rfl .tc (by kernel_rfl) rfl ?_ (by rfl)) ?_
       ·rw [cN, List.length_set, hll]; omega
       intro _
       rw [cM, List.set_set]
       refine Nn (Xd ?_)
       refine WX.joinO (()) (S7 rfl rfl rfl rfl rfl rfl rfl) (S0 _) ?_ (by exact fun w h => by rw [← il X (a.length + 1) k (by omega), hsc]; exact h)
       (try dsimp only)
       done
      ·(try simp only [sB] at hc110)
       obtain rfl : k = 0 := by omega
       have hsc := kZ (val a) s
       rw [← hX] at hsc
       refine Ck (Xd ?_)
       refine WX.joinO (()) (S7 rfl rfl rfl rfl rfl rfl rfl) (S0 _) ?_ (by exact fun w h => by rw [← il X (a.length + 1) 0 (by omega), hsc]; exact h)
       (try dsimp only)
       done
     ·rintro _ hmeet; (try dsimp only at hmeet ⊢)
      refine Cg (Kq rfl (Rz rfl rfl rfl (by omega)) (Km rfl (Nn ?_)))
      refine Lx (k + 1) (by (try dsimp only); omega) (S6 rfl rfl rfl rfl rfl rfl) (by refine (Sc ?_ (S0 _)) <;> (rfl)) ?_ (by (exact fun _ h => h))
      (try dsimp only)
      omega
    ·(try simp only [sB] at hc98)
     refine Cx (Xc (Xc (Xe ?_)))
     obtain rfl : k = a.length + 1 := by omega
     rw [show List.replicate (a.length + 1 - (a.length + 1)) 0 = ([] : List Nat) by rw [Nat.sub_self]; rfl, List.append_nil]
     have hXl : X < 256 ^ (a.length - b.length + 1) * D := by
      have h1 := aK a
      have h2 := mK hb.2 hb0
      rw [hX, hD, ← Nat.mul_assoc]
      refine Nat.mul_lt_mul_of_pos_right ?_ (Nat.two_pow_pos s)
      refine Nat.lt_of_lt_of_le h1 (Nat.le_trans ?_ (Nat.mul_le_mul_left _ h2))
      rw [← Nat.pow_add]; exact Nat.pow_le_pow_right (by decide) (by omega)
     have hXL : X < 256 ^ (a.length + 1) := by
      have h1 := aK a
      rw [hX, Nat.pow_succ]
      exact Nat.mul_lt_mul'' h1 (by rcases eo hs8 with h | h | h | h | h | h | h | h <;> rw [h] <;> decide)
     have hdi0 := q9 (L := a.length + 1) (X := X) (D := D) (n := b.length) (t := a.length - b.length + 1) (by omega) hXl hXL
     have hDev : ev 256 (bm D b.length) = D := by rw [mF, Nat.mod_eq_of_lt hfit]
     have hDt : 0 < (bm D b.length).getD (b.length - 1) 0 := by
      have h2 := mK hb.2 hb0
      have h3 : val b * 1 ≤ val b * 2 ^ s := Nat.mul_le_mul_left _ (Nat.two_pow_pos s)
      rw [tQ _ _ _ (by omega), Nat.mod_eq_of_lt (by
       rw [Nat.div_lt_iff_lt_mul (Nat.pow_pos (by decide)), ← Nat.pow_succ', show (b.length - 1).succ = b.length by omega]; exact hfit)]
      exact Nat.div_pos (by omega) (Nat.pow_pos (by decide))
     have hDl := bW 256 (by decide) _ (gh D b.length) (b.length - 1)
     have hDp : 0 < D := by rw [hD]; exact Nat.mul_pos hvb (Nat.two_pow_pos s)
     refine Xa (Cs (Km rfl (Yn rfl u22 (Km rfl (Kq rfl (aP rfl rfl rfl (by omega)) (Kq rfl (Rz rfl rfl rfl (by omega)) ?_))))))
     refine Kh rfl (dN rfl rfl rfl aB (by kernel_rfl : _ = some (some (.int .u8 0), 1, 1)) rfl ?_ (by (try simp only [sN, Int.reduceToNat, Nat.reduceAdd, Nat.reduceMul, Nat.reduceSub]); rfl) (by (try simp only [sN, Int.reduceToNat, Nat.reduceAdd, Nat.reduceMul, Nat.reduceSub]); rfl)) ?_
     ·omega
     intro b130
     refine Ka rfl (Nt (Cq (Cs (Km rfl (Yn rfl u22 (Km rfl (Kq rfl (aP rfl rfl rfl (by omega)) (Ka rfl (Nt (Cb ?_))))))))))
     refine Lo (σ := Nat × (List Nat) × Nat × Int) [(10, _), (11, _), (12, _), (14, _), (16, _)] (fun gq => [(17, .int .i64 gq.2.2.2)]) (fun gq => gq.1 ≤ a.length - b.length + 1 ∧ kI (a.length + 1) X D b.length gq.1 gq.2.1 gq.2.2.1 ∧ gq.2.2.1 < 256 ^ (a.length - b.length + 1) ∧ gq.2.2.2 = (gq.1 : Int) - 1 ∧ (gq.1 < a.length - b.length + 1 → gq.2.1.getD (gq.1 + b.length) 0 = 0)) (fun gq => gq.1) (fun gq => [⟨some b130, (be (a.length - b.length + 1) gq.2.2.1).map B, 5⟩, ⟨some b94, bX gq.2.1, 3⟩, ⟨some b61, bX (bm D b.length), 3⟩]) (fun gq => []) (a.length - b.length + 1, bm X (a.length + 1), 0, ((a.length - b.length : Nat) : Int)) (S5 rfl rfl rfl rfl rfl) (S1 rfl) (by (try dsimp only); exact ⟨by omega, hdi0, Nat.pow_pos (by decide), by omega, fun h => absurd h (by omega)⟩) (by exact fun w h => by rw [show (be (a.length - b.length + 1) 0).map B = List.replicate (a.length - b.length + 1) (.int .u8 0) from qc _]; exact h) ?_
     rintro ⟨t, r, Q, j⟩ hinv3; (try dsimp only at hinv3 ⊢)
     obtain ⟨ht, hdi, hQ, hj, hz⟩ := hinv3
     refine Cq (Cs (Km rfl (Yh rfl (Nt ?_))))
     refine Cd rfl (fun hc136 => ?_) (fun hc136 => ?_)
     ·(try simp only [sB] at hc136)
      obtain ⟨m, rfl⟩ : ∃ m, t = m + 1 := ⟨t - 1, by omega⟩
      refine WC.set 17 rfl (v' := .int .i64 ((m : Nat) : Int)) (by rw [hj]; congr 1; omega) ?_
      have hrl := hdi.len
      have hr1 := bW 256 (by decide) _ hdi.dig (m + b.length)
      have hr0 := bW 256 (by decide) _ hdi.dig (m + b.length - 1)
      obtain ⟨gu, hg⟩ : ∃ g, g = min ((r.getD (m + b.length) 0 * 2 ^ 8 + r.getD (m + b.length - 1) 0) / (bm D b.length).getD (b.length - 1) 0) 255 := ⟨_, rfl⟩
      have hgl : gu < 256 := by omega
      have hgg := tr (β := 256) (j := m) (n := b.length) (q := ev 256 (r.take (m + 1 + b.length)) / (256 ^ m * D)) (d := bm D b.length) (by decide) hbp (bk D _) (by omega) hdi.dig (show ev 256 (r.take (m + 1 + b.length)) = _ by rw [show m + 1 + b.length = m + b.length + 1 by omega]) hDev.symm hDt (Nat.div_mul_le_self _ _) hdi.lt
      obtain ⟨qq, hqq⟩ : ∃ qq, qq = ev 256 (r.take (m + 1 + b.length)) / (256 ^ m * D) := ⟨_, rfl⟩
      rw [← hqq] at hgg
      have hgq : qq ≤ gu := by rw [hg]; exact Nat.le_min.2 ⟨hgg.1, Nat.le_of_lt_succ hgg.2⟩
      have hVp : 0 < 256 ^ m * D := Nat.mul_pos (Nat.pow_pos (by decide)) hDp
      refine Ck (Xa (Cq (Cb (Cq ?_))))
      refine Cf [0, 1, 2, 3, 4, 5, 6, 7, 8, 9, 10, 11, 12, 13, 14, 15, 16, 17, 18, 19, 20, 21, 22] [] [0, 0, 0, 0, 0, 0, 0, 0, 0, 0, 0, 0, 0, 0, 0, 0, 0, 0, 0, 0, 0, 0, 0] (by kernel_rfl) (by kernel_rfl) rfl ?_
      refine Kj rfl (Rm rfl rfl) (Kj rfl (Rm rfl rfl) (Kj rfl (Rm rfl rfl) (Kj rfl (ax rfl rfl rfl (by omega)) ?_)))
      refine Kj rfl (Ja rfl rfl rfl u38 (by kernel_rfl : _ = some 1) (by omega)) ?_
      refine Kj rfl (ld rfl rfl .tc u3 rfl (a6 r _ (by omega))) ?_
      refine Kj rfl (eT (c := 8) rfl rfl rfl (by decide) (by omega)) (Kj rfl (Rm rfl rfl) (Kj rfl (Rm rfl rfl) (Kj rfl (Rm rfl rfl) (Kj rfl (ax rfl rfl rfl (by omega)) (Kj rfl (ar rfl rfl rfl (by omega)) ?_)))))
      refine Kj rfl (Ja rfl rfl rfl u38 (by kernel_rfl : _ = some 1) (by omega)) ?_
      refine Kj rfl (ld rfl rfl .tc u3 rfl (a6 r _ (by omega))) ?_
      refine Kj rfl (j0 8 rfl rfl rfl ?_) ?_
      ·omega
      refine Kj rfl (Rm rfl rfl) (Kj rfl (Rm rfl rfl) (Kj rfl (ar rfl rfl rfl (by omega)) ?_))
      refine Kj rfl (Ja rfl rfl rfl u38 (by kernel_rfl : _ = some 1) (by omega)) ?_
      refine Kj rfl (ld rfl rfl .tc u3 rfl (a6 (bm D b.length) _ (by rw [bk]; omega))) ?_
      refine Kj rfl (k6 rfl rfl rfl (by omega)) (Kj rfl (vo rfl rfl rfl) ?_)
      refine WJ.set 160 rfl (v' := .int .i64 ((gu : Nat) : Int)) (congrArg (Value.int .i64) (by rw [hg]; omega)) ?_
      refine Kj rfl (Ra rfl rfl) ?_
      refine WJ.nil ?_
      refine Nt (Cs (Ka rfl (Ka rfl (Nt (Cq (Cs (Km rfl (Km rfl (Nt (Cb ?_))))))))))
      refine Lo (σ := Nat × (List Nat) × Nat × Nat) [(10, _), (11, _), (12, _), (14, _), (16, _), (17, _), (18, _), (161, _)] (fun gq => [(19, .int .i64 (gq.2.2.1 : Int)), (20, .int .i64 (gq.2.2.2 : Int)), (162, .int .i64 (gq.1 : Int))]) (fun gq => gq.1 ≤ b.length ∧ kG 256 m gu r (bm D b.length) gq.1 gq.2.1 gq.2.2.1 gq.2.2.2) (fun gq => b.length - gq.1) (fun gq => [⟨some b130, (be (a.length - b.length + 1) Q).map B, 5⟩, ⟨some b94, bX gq.2.1, 3⟩, ⟨some b61, bX (bm D b.length), 3⟩]) (fun gq => []) (0, r, 0, 0) (S8 rfl rfl rfl rfl rfl rfl rfl rfl) (S3 rfl rfl rfl) (by (try dsimp only); exact ⟨Nat.zero_le _, qm (by decide) hdi.dig⟩) (by (exact fun _ h => h)) ?_
      rintro ⟨i, r2, cy, bw⟩ hinv4; (try dsimp only at hinv4 ⊢)
      obtain ⟨hi, hsi⟩ := hinv4
      refine Cs (Yl rfl (Nt (Cq ?_)))
      refine Cd rfl (fun hc163 => ?_) (fun hc163 => ?_)
      ·(try simp only [sB] at hc163)
       have hr2l := hsi.len
       have hcyl := hsi.cyl; have hbwl := hsi.bwl
       have hdil := bW 256 (by decide) _ (gh D b.length) i
       have hr2d := bW 256 (by decide) _ hsi.dig (m + i)
       have hgd : gu * (bm D b.length).getD i 0 ≤ 65025 := Nat.mul_le_mul (by omega : gu ≤ 255) (by omega : (bm D b.length).getD i 0 ≤ 255)
       rw [Nat.add_comm m i] at hr2d
       refine Ck (Xa (Cq (Cb (Cs (Km rfl (Ka rfl (Nt (Cs (Km rfl (Km rfl (Km rfl (Km rfl ?_))))))))))))
       refine Kq rfl (Ja rfl rfl rfl u38 (by kernel_rfl : _ = some 1) (by omega)) ?_
       refine Kq rfl (ld rfl rfl .tc u3 rfl (a6 (bm D b.length) _ (by rw [bk]; omega))) ?_
       refine Kq rfl (fY rfl rfl rfl (by omega)) (Kq rfl (ax rfl rfl rfl (by omega)) (Ka rfl (Nt (Cs (Km rfl (Km rfl (Km rfl (Kq rfl (ax rfl rfl rfl (by omega)) ?_))))))))
       refine Kq rfl (Ja rfl rfl rfl u38 (by kernel_rfl : _ = some 1) (by omega)) ?_
       refine Kq rfl (ld rfl rfl .tc u3 rfl (a6 r2 _ (by omega))) ?_
       refine Km rfl ?_
       refine Kq rfl (dk 8 rfl rfl rfl (by decide) ?_) ?_
       ·omega
       refine Kq rfl (aD rfl rfl rfl (by omega)) (Km rfl (Kq rfl (aD rfl rfl rfl (by omega)) (Ka rfl (Nt (Cs (Km rfl (Kq rfl (bq (c := 8) rfl rfl rfl (by decide)) (Ka rfl (Nt (Cs (Ka rfl (Nt ?_))))))))))))
       refine WC.joinP (σ := Nat × Nat) [(10, _), (11, _), (12, _), (14, _), (16, _), (17, _), (18, _), (19, _), (21, _), (161, _), (162, _)] (fun gq => [(22, .int .i64 (gq.1 : Int)), (20, .int .i64 (gq.2 : Int)), (19, .int .i64 ((cy + gu * (bm D b.length).getD i 0) / 256 : Nat))]) (fun gq => gq.1 + (cy + gu * (bm D b.length).getD i 0) % 256 + bw = r2.getD (i + m) 0 + 256 * gq.2 ∧ gq.1 < 256 ∧ gq.2 ≤ 1) (Sc rfl (Sc rfl (Sc rfl (Sc rfl (Sc rfl (Sc rfl (Sc rfl (Sc rfl (Sc rfl (Sc rfl (Sc rfl (S0 _)))))))))))) ?_ ?_
       ·skip
        refine Cs (Km rfl (Yl rfl (Nt ?_)))
        refine Cd rfl (fun hc187 => ?_) (fun hc187 => ?_)
        ·(try simp only [sB] at hc187)
         refine Cs (Km rfl (Kq rfl (bi rfl rfl rfl (by omega)) (Ka rfl (Nt (Cg (Ka rfl (Nn ?_)))))))
         refine WX.joinP (((((r2.getD (i + m) 0 : Nat) : Int) - ((cy + gu * (bm D b.length).getD i 0) % 256 : Nat) - bw + 256).toNat, 1)) (Sc rfl (Sc rfl (Sc rfl (Sc rfl (Sc rfl (Sc rfl (Sc rfl (Sc rfl (Sc rfl (Sc rfl (Sc rfl (S0 _)))))))))))) (by refine (Sc ?_ (Sc ?_ (Sc ?_ (S0 _)))) <;> (first | rfl | (refine rX rfl ?_; (try dsimp only); omega))) ?_ (by (exact fun _ h => h))
         (try dsimp only)
         omega
        ·(try simp only [sB] at hc187)
         refine Ck ?_
         refine WX.joinP (((((r2.getD (i + m) 0 : Nat) : Int) - ((cy + gu * (bm D b.length).getD i 0) % 256 : Nat) - bw).toNat, 0)) (Sc rfl (Sc rfl (Sc rfl (Sc rfl (Sc rfl (Sc rfl (Sc rfl (Sc rfl (Sc rfl (Sc rfl (Sc rfl (S0 _)))))))))))) (by refine (Sc ?_ (Sc ?_ (Sc ?_ (S0 _)))) <;> (first | rfl | (refine rX rfl ?_; (try dsimp only); omega))) ?_ (by (exact fun _ h => h))
         (try dsimp only)
         omega
       ·rintro ⟨y, bw'⟩ hmeet; (try dsimp only at hmeet ⊢)
        obtain ⟨hy1, hy2, hy3⟩ := hmeet
        refine Cg (Km rfl (Km rfl (Km rfl (Kq rfl (ax rfl rfl rfl (by omega)) (Km rfl ?_)))))
        refine Kq rfl (Ja rfl rfl rfl u38 (by kernel_rfl : _ = some 1) (by omega)) ?_
        refine Ng rfl rfl (st rfl rfl rfl .tc (by kernel_rfl) rfl ?_ (by rfl)) ?_
        ·rw [cN]; omega
        intro _
        rw [cM]
        refine Nn (Xd (Xa (Cg (Kq rfl (Rz rfl rfl rfl (by omega)) (Km rfl (Nn ?_))))))
        refine Lx ((i + 1, r2.set (i + m) y, (cy + gu * (bm D b.length).getD i 0) / 256, bw')) (by (try dsimp only); omega) (S8 rfl rfl rfl rfl rfl rfl rfl rfl) (by refine (Sc ?_ (Sc ?_ (Sc ?_ (S0 _)))) <;> (rfl)) ?_ (by (exact fun _ h => h))
        (try dsimp only)
        exact ⟨by omega, by rw [Nat.add_comm i m]; exact rT hsi (by decide) hgl (by rw [bk]; omega) (gh D b.length) (by omega) (by rw [Nat.add_comm m i]; exact hy1) hy2 hy3⟩
      ·(try simp only [sB] at hc163)
       refine Cx (Xc (Xc (Xe ?_)))
       obtain rfl : i = b.length := by omega
       have hr2l := hsi.len
       have hcyl := hsi.cyl; have hbwl := hsi.bwl
       have hr2d := bW 256 (by decide) _ hsi.dig (m + b.length)
       have hs0 := wi (D := D) hsi (by rw [List.take_of_length_le (by rw [bk]; exact Nat.le_refl _)]; exact hDev) (by omega)
       refine Xa (Cs (Km rfl (Km rfl (Km rfl (Kq rfl (ax rfl rfl rfl (by omega)) ?_)))))
       refine Kq rfl (Ja rfl rfl rfl u38 (by kernel_rfl : _ = some 1) (by omega)) ?_
       refine Kq rfl (ld rfl rfl .tc u3 rfl (a6 r2 _ (by omega))) ?_
       refine Km rfl (Kq rfl (aD rfl rfl rfl (by omega)) (Km rfl (Kq rfl (aD rfl rfl rfl (by omega)) (Ka rfl (Nt (Cq (Cb ?_)))))))
       refine Lo (σ := Nat × (List Nat) × Int) [(10, _), (11, _), (12, _), (14, _), (16, _), (17, _)] (fun gq => [(18, .int .i64 (gq.1 : Int)), (23, .int .i64 gq.2.2)]) (fun gq => gq.2.1.length = a.length + 1 ∧ (∀ x ∈ gq.2.1, x < 256) ∧ ((ev 256 (gq.2.1.take (m + b.length)) : Nat) : Int) + ((256 ^ (m + b.length) : Nat) : Int) * gq.2.2 + ((256 ^ m * gq.1 * D : Nat) : Int) = (ev 256 (r.take (m + 1 + b.length)) : Nat) ∧ qq ≤ gq.1 ∧ gq.1 ≤ 255 ∧ -256 ≤ gq.2.2 ∧ gq.2.2 ≤ 255) (fun gq => gq.1) (fun gq => [⟨some b130, (be (a.length - b.length + 1) Q).map B, 5⟩, ⟨some b94, bX gq.2.1, 3⟩, ⟨some b61, bX (bm D b.length), 3⟩]) (fun gq => []) (gu, r2, ((r2.getD (m + b.length) 0 : Nat) : Int) - cy - bw) (S6 rfl rfl rfl rfl rfl rfl) (S2 rfl rfl) (by (try dsimp only); exact ⟨by omega, hsi.dig, hs0, hgq, by omega, by omega, by omega⟩) (by (exact fun _ h => h)) ?_
       rintro ⟨g, r3, top⟩ hinv5; (try dsimp only at hinv5 ⊢)
       obtain ⟨hl3, hd3, hs3, hq3, hg3, ht1, ht2⟩ := hinv5
       refine Cq (Cs (Km rfl (Yl rfl (Nt ?_))))
       refine Cd rfl (fun hc208 => ?_) (fun hc208 => ?_)
       ·(try simp only [sB] at hc208)
        have hWl := tO hs3 (eZ 256 r3 _ (by omega) hd3) (by omega)
        have hg1 : qq < g := by rw [hqq]; exact (Nat.div_lt_iff_lt_mul hVp).2 hWl
        refine Ck (Xa (Cb (Cs (Km rfl (Kq rfl (ar rfl rfl rfl (by omega)) (Ns 210 rfl (v' := .int .i64 ((g - 1 : Nat) : Int)) (congrArg (Value.int .i64) (by omega)) (Ka rfl (Nt (Cs (Ka rfl (Nt (Cq (Cs (Km rfl (Km rfl (Nt (Cb ?_)))))))))))))))))
        refine Lo (σ := Nat × (List Nat) × Nat) [(10, _), (11, _), (12, _), (14, _), (16, _), (17, _), (18, _), (23, _), (211, _)] (fun gq => [(24, .int .i64 (gq.2.2 : Int)), (212, .int .i64 (gq.1 : Int))]) (fun gq => gq.1 ≤ b.length ∧ kJ 256 m r3 (bm D b.length) gq.1 gq.2.1 gq.2.2) (fun gq => b.length - gq.1) (fun gq => [⟨some b130, (be (a.length - b.length + 1) Q).map B, 5⟩, ⟨some b94, bX gq.2.1, 3⟩, ⟨some b61, bX (bm D b.length), 3⟩]) (fun gq => []) (0, r3, 0) (S9 rfl rfl rfl rfl rfl rfl rfl rfl rfl) (S2 rfl rfl) (by (try dsimp only); exact ⟨Nat.zero_le _, rz hd3⟩) (by (exact fun _ h => h)) ?_
        rintro ⟨k, r4, c⟩ hinv6; (try dsimp only at hinv6 ⊢)
        obtain ⟨hk, hai⟩ := hinv6
        refine Cs (Yl rfl (Nt (Cq ?_)))
        refine Cd rfl (fun hc213 => ?_) (fun hc213 => ?_)
        ·(try simp only [sB] at hc213)
         have hr4l := hai.len; have hcl := hai.cl
         have hdk := bW 256 (by decide) _ (gh D b.length) k
         have hrk := bW 256 (by decide) _ hai.dig (m + k)
         rw [Nat.add_comm m k] at hrk
         refine Ck (Xa (Cq (Cb (Cs (Km rfl (Ka rfl (Nt (Cq ?_))))))))
         refine Cf [0, 1, 2, 3, 4, 5, 6, 7, 8, 9, 10, 11, 12, 13] [] [0, 0, 0, 0, 0, 0, 0, 0, 0, 0, 0, 0, 0, 0] (by kernel_rfl) (by kernel_rfl) rfl ?_
         refine Kj rfl (Rm rfl rfl) (Kj rfl (Rm rfl rfl) (Kj rfl (Rm rfl rfl) (Kj rfl (Rm rfl rfl) (Kj rfl (ax rfl rfl rfl (by omega)) ?_))))
         refine Kj rfl (Ja rfl rfl rfl u38 (by kernel_rfl : _ = some 1) (by omega)) ?_
         refine Kj rfl (ld rfl rfl .tc u3 rfl (a6 r4 _ (by omega))) ?_
         refine Kj rfl (Rm rfl rfl) (Kj rfl (Rm rfl rfl) ?_)
         refine Kj rfl (Ja rfl rfl rfl u38 (by kernel_rfl : _ = some 1) (by omega)) ?_
         refine Kj rfl (ld rfl rfl .tc u3 rfl (a6 (bm D b.length) _ (by rw [bk]; omega))) ?_
         refine Kj rfl (ax rfl rfl rfl (by omega)) (Kj rfl (ax rfl rfl rfl (by omega)) (Kj rfl (Ra rfl rfl) ?_))
         refine WJ.nil ?_
         refine Nt (Cs (Km rfl (Km rfl (Km rfl (Kq rfl (ax rfl rfl rfl (by omega)) (Km rfl ?_))))))
         refine Kq rfl (dk 8 rfl rfl rfl (by decide) ?_) ?_
         ·omega
         refine Kq rfl (Ja rfl rfl rfl u38 (by kernel_rfl : _ = some 1) (by omega)) ?_
         refine Ng rfl rfl (st rfl rfl rfl .tc (by kernel_rfl) rfl ?_ (by rfl)) ?_
         ·rw [cN]; omega
         intro _
         rw [cM]
         refine Nt (Cg (Km rfl (Kq rfl (bq (c := 8) rfl rfl rfl (by decide)) (Ka rfl (Nn (Xd (Xa (Cg (Kq rfl (Rz rfl rfl rfl (by omega)) (Km rfl (Nn ?_)))))))))))
         refine Lx ((k + 1, r4.set (k + m) ((c + (r4.getD (k + m) 0 + (bm D b.length).getD k 0)) % 256), (c + (r4.getD (k + m) 0 + (bm D b.length).getD k 0)) / 256)) (by (try dsimp only); omega) (S9 rfl rfl rfl rfl rfl rfl rfl rfl rfl) (by refine (Sc ?_ (Sc ?_ (S0 _))) <;> (rfl)) ?_ (by (exact fun _ h => h))
         (try dsimp only)
         exact ⟨by omega, by rw [← Nat.add_assoc, Nat.add_comm k m]; exact ui hai (by decide) (by rw [bk]; omega) (gh D b.length) (by omega)⟩
        ·(try simp only [sB] at hc213)
         refine Cx (Xc (Xc (Xe ?_)))
         obtain rfl : k = b.length := by omega
         have hcl := hai.cl
         have hr4l := hai.len
         have hb4 := tP (D := D) hai (by rw [List.take_of_length_le (by rw [bk]; exact Nat.le_refl _)]; exact hDev) (by omega) hs3
         refine Xa (Cg (Km rfl (Km rfl (Kq rfl (bi rfl rfl rfl (by omega)) (Ka rfl (Nn (Xd ?_)))))))
         refine Lx ((g - 1, r4, top + c)) (by (try dsimp only); omega) (S6 rfl rfl rfl rfl rfl rfl) (by refine (Sc ?_ (Sc ?_ (S0 _))) <;> (rfl)) ?_ (by (exact fun _ h => h))
         (try dsimp only)
         exact ⟨by omega, hai.dig, hb4, by omega, by omega, by omega, by omega⟩
       ·(try simp only [sB] at hc208)
        refine Cx (Xc (Xc (Xe ?_)))
        obtain ⟨ht0, hdi2⟩ := tN hdi hfit (by omega) hl3 hd3 hs3 (by omega) (by rw [← hqq]; exact hq3)
        subst ht0
        have hQ2 : Q + g * 256 ^ m < 256 ^ (a.length - b.length + 1) := by
         have h1 := hdi2.sum
         have h2 : (Q + g * 256 ^ m) * D < 256 ^ (a.length - b.length + 1) * D := by omega
         exact Nat.lt_of_mul_lt_mul_right h2
        refine Xa (Cs (Km rfl (Km rfl (Km rfl (Kq rfl (ax rfl rfl rfl (by omega)) (Km rfl ?_))))))
        refine Kq rfl (Ja rfl rfl rfl u38 (by kernel_rfl : _ = some 1) (by omega)) ?_
        refine Ng rfl rfl (st rfl rfl rfl .tc (by kernel_rfl) rfl ?_ (by rfl)) ?_
        ·rw [cN]; omega
        intro _
        rw [show (bX r3).set (m + b.length) (.int .i64 0) = bX (r3.set (m + b.length) 0) from cM r3 _ 0]
        refine Nt (Cg (Km rfl (Km rfl (Yo rfl aB (Kq rfl (ar rfl rfl rfl (by omega)) (Km rfl (Kq rfl (aP rfl rfl rfl (by omega)) (Km rfl (Kq rfl (gW rfl rfl u3 u5) ?_)))))))))
        refine Kq rfl (Ja rfl rfl rfl aB (by kernel_rfl : _ = some 1) (by omega)) ?_
        refine Ng rfl rfl (st rfl rfl rfl .tc (by kernel_rfl) rfl ?_ (by rfl)) ?_
        ·rw [List.length_map, aN]; omega
        intro _
        refine Nn (Xd (Xa (Cg (Km rfl (Kq rfl (aD rfl rfl rfl (by omega)) (Ka rfl (Nn ?_)))))))
        refine Lx ((m, r3.set (m + b.length) 0, Q + g * 256 ^ m, (m : Int) - 1)) (by (try dsimp only); omega) (S5 rfl rfl rfl rfl rfl) (by refine (Sc ?_ (S0 _)) <;> (rfl)) ?_ (by exact fun w h => by rw [← yg (a.length - b.length + 1) m Q g (by omega) (by omega) hdi.dvd, List.map_set]; exact h)
        (try dsimp only)
        exact ⟨by omega, hdi2, hQ2, rfl, fun _ => ed r3 _ 0 (by omega)⟩
     ·(try simp only [sB] at hc136)
      refine Cx (Xc (Xc (Xe ?_)))
      obtain rfl : t = 0 := by omega
      obtain ⟨hq1, hq2⟩ := wj hdi
      have hrl := hdi.len
      obtain ⟨R, hR⟩ : ∃ R, R = val a % val b := ⟨_, rfl⟩
      have hqe : Q = val a / val b := by rw [hq1, hX, hD, Nat.mul_div_mul_right _ _ (Nat.two_pow_pos s)]
      have hre : ev 256 (r.take b.length) = R * 2 ^ s := by rw [hq2, hX, hD, Nat.mul_mod_mul_right, hR]
      have hRl : R < 256 ^ b.length := by rw [hR]; exact Nat.lt_trans (Nat.mod_lt _ hvb) (aK b)
      have hdg3 : ∀ i, i ≤ b.length → r.getD i 0 = R * 2 ^ s / 256 ^ i % 256 := fun i hi => by
       rw [← hre]
       rcases Nat.lt_or_ge i b.length with h | h
       ·rw [tI 256 (by decide) (r.take b.length) i (by rw [List.length_take]; omega) (fun x hx => hdi.dig x (List.mem_of_mem_take hx)), List.getD_eq_getElem?_getD, List.getD_eq_getElem?_getD, List.getElem?_take, if_pos h]
       ·obtain rfl : i = b.length := by omega
        have h1 := hz (by omega)
        rw [Nat.zero_add] at h1
        rw [h1, Nat.div_eq_of_lt (eZ 256 r _ (by omega) hdi.dig)]
      refine Xa (Cs (Km rfl ?_))
      refine Kh rfl (dN rfl rfl rfl aB (by kernel_rfl : _ = some (some (.int .u8 0), 1, 1)) rfl ?_ (by (try simp only [sN, Int.reduceToNat, Nat.reduceAdd, Nat.reduceMul, Nat.reduceSub]); rfl) (by (try simp only [sN, Int.reduceToNat, Nat.reduceAdd, Nat.reduceMul, Nat.reduceSub]); rfl)) ?_
      ·omega
      intro b257
      refine Ka rfl (Nt (Cq (Cs (Km rfl (Km rfl (Nt (Cb ?_)))))))
      refine Lo (σ := Nat) [(10, _), (11, _), (14, _), (16, _), (26, _), (258, _)] (fun gq => [(259, .int .i64 (gq : Int))]) (fun gq => gq ≤ b.length) (fun gq => b.length - gq) (fun gq => [⟨some b257, eV b.length gq R, 5⟩, ⟨some b130, (be (a.length - b.length + 1) Q).map B, 5⟩, ⟨some b94, bX r, 3⟩]) (fun gq => []) (0) (S6 rfl rfl rfl rfl rfl rfl) (S1 rfl) (by (try dsimp only); omega) (by exact fun w h => by rw [show eV b.length 0 R = List.replicate b.length (.int .u8 0) from cq _ _]; exact aq _ h) ?_
      rintro k hinv7; (try dsimp only at hinv7 ⊢)
      obtain hk := hinv7
      refine Cs (Yl rfl (Nt (Cq ?_)))
      refine Cd rfl (fun hc260 => ?_) (fun hc260 => ?_)
      ·(try simp only [sB] at hc260)
       have hrk := bW 256 (by decide) _ hdi.dig k
       have hrk1 := bW 256 (by decide) _ hdi.dig (k + 1)
       have hrd := n6 R s k hs8
       rw [← hdg3 k (by omega), ← hdg3 (k + 1) (by omega)] at hrd
       refine Ck (Xa (Cq (Cb (Cs (Km rfl (Ka rfl (Nt (Cs (Km rfl (Km rfl ?_))))))))))
       refine Kq rfl (Ja rfl rfl rfl u38 (by kernel_rfl : _ = some 1) (by omega)) ?_
       refine Kq rfl (ld rfl rfl .tc u3 rfl (a6 r _ (by omega))) ?_
       refine Ka rfl (Nt (Cq (Cs (Km rfl (Kq rfl (Rz rfl rfl rfl (by omega)) (Km rfl (Yo rfl u38 (Yl rfl (Nt ?_)))))))))
       refine Cd rfl (fun hc270 => ?_) (fun hc270 => by exfalso; (try simp only [sB] at hc270); omega)
       (try simp only [sB] at hc270)
       refine Cg (Km rfl (Km rfl (Km rfl (Kq rfl (Rz rfl rfl rfl (by omega)) ?_))))
       refine Kq rfl (Ja rfl rfl rfl u38 (by kernel_rfl : _ = some 1) (by omega)) ?_
       refine Kq rfl (ld rfl rfl .tc u3 rfl (a6 r _ (by omega))) ?_
       refine Kq rfl (eT (c := 8) rfl rfl rfl (by decide) (by omega)) ?_
       refine Kq rfl (xv 8 rfl rfl rfl ?_) ?_
       ·omega
       refine Ka rfl (Nt (Cg (Km rfl (Km rfl (Kq rfl (ar rfl rfl rfl (by omega)) (Km rfl (Kq rfl (aP rfl rfl rfl (by omega)) (Km rfl (Km rfl ?_)))))))))
       refine Kq rfl (bq rfl rfl rfl (by (show _ ≤ 64; omega))) ?_
       refine Kq rfl (gW rfl rfl u3 u5) ?_
       refine Ns 287 rfl (v' := B (UInt8.ofNat (R / 256 ^ k))) (by exact congrArg (fun b : UInt8 => B b) (nT hrd.symm)) ?_
       refine Kq rfl (Ja rfl rfl rfl aB (by kernel_rfl : _ = some 1) (by omega)) ?_
       refine Ng rfl rfl (st rfl rfl rfl .tc (by kernel_rfl) rfl ?_ (by rfl)) ?_
       ·rw [bO _ _ _ (by omega)]; omega
       intro _
       refine Nn (Xd (Xa (Cg (Kq rfl (Rz rfl rfl rfl (by omega)) (Km rfl (Nn ?_))))))
       refine Lx (k + 1) (by (try dsimp only); omega) (S6 rfl rfl rfl rfl rfl rfl) (by refine (Sc ?_ (S0 _)) <;> (rfl)) ?_ (by exact fun w h => by rw [← bN b.length k R (by omega)]; exact h)
       (try dsimp only)
       omega
      ·(try simp only [sB] at hc260)
       refine Cx (Xc (Xc (Xe ?_)))
       obtain rfl : k = b.length := by omega
       rw [bV]
       have hbl1 := aN (a.length - b.length + 1) Q
       have hbl2 := aN b.length R
       refine Xa (Cs (Km rfl ?_))
       refine Ku rfl (Oc rfl rfl (Kv fun w hS => dF (b := be (a.length - b.length + 1) Q) (by (exact hS.os)) (by omega) (by omega) (by omega))) ?_
       refine Km rfl ?_
       refine Ku rfl (Oc rfl rfl (Kv fun w hS => dF (b := be b.length R) (by (exact hS.os)) (by omega) (by omega) (by omega))) ?_
       refine Ka rfl (Ka rfl (Nt (Ce ?_)))
       exact R2 rfl rfl rfl (by rw [cW, cW, Nat.mod_eq_of_lt hQ, Nat.mod_eq_of_lt hRl, hqe, hR]; rfl)
end Go.Proofs.YtkdlonihbjhhoaaGreatDoor
