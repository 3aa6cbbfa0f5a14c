/-
  Parts of the walk: Ntl5 Div Ntl6 Ntl7 Int2 Mod Int3.
-/
import Derived.Test.YtddoigmffkmpcaaGreatDoorI9
namespace Go.Proofs.YtddoigmffkmpcaaGreatDoor
open Go.RowKit
set_option linter.unusedSimpArgs false
set_option linter.unusedVariables false
set_option maxHeartbeats 600000
set_option maxRecDepth 20000
def bitN (n i : Nat) : Bool := decide (n / 2 ^ i % 2 = 1)
theorem bit_digit (n i : Nat) : n / 256 ^ (i / 8) % 256 / 2 ^ (i % 8) % 2 = n / 2 ^ i % 2 := by
 have e : 2 ^ i = 256 ^ (i / 8) * 2 ^ (i % 8) := by
  rw [show (256 : Nat) = 2 ^ 8 from rfl, ← Nat.pow_mul, ← Nat.pow_add]; congr 1; omega
 rw [e, ← Nat.div_div_eq_div_mul]
 generalize n / 256 ^ (i / 8) = m
 have h : i % 8 = 0 ∨ i % 8 = 1 ∨ i % 8 = 2 ∨ i % 8 = 3 ∨ i % 8 = 4 ∨ i % 8 = 5 ∨ i % 8 = 6 ∨ i % 8 = 7 := by omega
 rcases h with h | h | h | h | h | h | h | h <;> rw [h] <;> omega
theorem bit_high {n i : Nat} (h : n < 256 ^ (i / 8)) : n / 2 ^ i = 0 := by
 apply Nat.div_eq_of_lt
 refine Nat.lt_of_lt_of_le h ?_
 rw [show (256 : Nat) = 2 ^ 8 from rfl, ← Nat.pow_mul]
 exact Nat.pow_le_pow_right (by decide) (by omega)
def bitA (a : Bs) (i : Int) : Bool := decide (okN a ∧ 0 ≤ i) && bitN (val a) i.toNat
theorem bitA_nat {a : Bs} {i : Nat} (h : okN a) : bitA a i = bitN (val a) i := by rw [bitA, decide_eq_true (p := okN a ∧ (0 : Int) ≤ i) ⟨h, by omega⟩, Bool.true_and, Int.toNat_natCast]
theorem bitA_no {a : Bs} {i : Int} (h : ¬ (okN a ∧ 0 ≤ i)) : bitA a i = false := by rw [bitA, decide_eq_false h, Bool.false_and]
theorem bitN_high {a : Bs} {i : Nat} (h : a.length ≤ i / 8) : bitN (val a) i = false := by
 rw [bitN]; apply decide_eq_false; rw [bit_high (Nat.lt_of_lt_of_le (val_lt a) (Nat.pow_le_pow_right (by decide) h))]; omega
theorem bitn_c {a : Bs} {i : Nat} {w : World} (hi : i ≤ 1000000000) :
  Cw 58 #[.string (S a), .int .i64 (i : Int)] w (.bool (bitA a i)) := by
 have hbd := bit_digit (val a) i
 have hx256 : val a / 256 ^ (i / 8) % 256 / 2 ^ (i % 8) < 256 := Nat.lt_of_le_of_lt (Nat.div_le_self _ _) (Nat.mod_lt _ (by decide))
 refine En [] [(0, .string (S a)), (1, .int .i64 (i : Int))] Tryz.func58 rfl Tryz.ntmps58 rfl (Ac rfl (Ac rfl (An _))) Fn ?_
 refine Cs (Ka rfl (Nt (Cs (Km rfl ?_))))
 refine Ku rfl (Oc rfl rfl (Kv fun w hS => valid_c)) ?_
 refine Km rfl ?_
 refine Nb 7 rfl (fun hg7 => ?_) (fun hg7 => ?_)
 ·(try simp only [sB] at hg7)
  refine Km rfl (Kq rfl (rd_geq rfl rfl rfl) (Kq rfl (Rp rfl rfl rfl) (Km rfl ?_)))
  refine Nb 11 rfl (fun hg11 => ?_) (fun hg11 => ?_)
  ·(try simp only [sB] at hg11)
   refine Km rfl (Kq rfl (rd_quo64nl rfl rfl rfl (by omega)) (Km rfl (Kq rfl (rd_slen rfl rfl u22) (Kq rfl (rd_lss rfl rfl rfl) (Kq rfl (Rp rfl rfl rfl) (Km rfl ?_))))))
   refine Nb 18 rfl (fun hg18 => ?_) (fun hg18 => ?_)
   ·(try simp only [sB] at hg18)
    refine Km rfl (Km rfl (Kq rfl (rd_quo64nl rfl rfl rfl (by omega)) ?_))
    refine Ku rfl (Oc rfl rfl (Kv fun w hS => digit_c (a := a) (i := i / 8) (by have hok : okN a := (by assumption); have := hok.1; omega) (by omega))) ?_
    refine Km rfl (Kq rfl (rd_rem64nl rfl rfl rfl (by omega)) ?_)
    refine Kq rfl (rd_shrW rfl rfl rfl (by (show _ ≤ 64; omega))) ?_
    refine Kq rfl (rd_andW 1 rfl rfl rfl (by decide) ?_) ?_
    ·omega
    refine Kq rfl (rd_eql rfl rfl rfl) (Kq rfl (Rp rfl rfl rfl) (Ka rfl (Nt (Ce ?_))))
    exact R1 rfl rfl (by (rw [bitA_nat (by assumption), bitN]; exact congrArg (fun b => Ending.returned (.bool b)) (by apply decide_eq_decide.2; omega)))
   ·(try simp only [sB] at hg18)
    refine Kt rfl (Kt rfl (Kt rfl (Kt rfl (Kt rfl (Kt rfl (Kt rfl (Kt rfl (Kt rfl (Kq rfl (Rq rfl rfl rfl) (Ka rfl (Nt (Ce ?_))))))))))))
    exact R1 rfl rfl (by (rw [bitA_nat (by assumption), bitN_high (by omega)]; rfl))
  ·(try simp only [sB] at hg11)
   refine Kt rfl (Kt rfl (Kt rfl (Kt rfl (Kt rfl (Kq rfl (Rq rfl rfl rfl) (Km rfl (Kt rfl (Kt rfl (Kt rfl (Kt rfl (Kt rfl (Kt rfl (Kt rfl (Kt rfl (Kt rfl (Kq rfl (Rq rfl rfl rfl) (Ka rfl (Nt (Ce ?_)))))))))))))))))))
   exact R1 rfl rfl (by (rw [bitA_nat (by assumption), bitN_high (by omega)]; rfl))
 ·(try simp only [sB] at hg7)
  refine Kt rfl (Kt rfl (Kq rfl (Rq rfl rfl rfl) (Km rfl (Kt rfl (Kt rfl (Kt rfl (Kt rfl (Kt rfl (Kq rfl (Rq rfl rfl rfl) (Km rfl (Kt rfl (Kt rfl (Kt rfl (Kt rfl (Kt rfl (Kt rfl (Kt rfl (Kt rfl (Kt rfl (Kq rfl (Rq rfl rfl rfl) (Ka rfl (Nt (Ce ?_)))))))))))))))))))))))
  exact R1 rfl rfl (by (rw [bitA_no (fun h => absurd h.1 (by assumption))]; rfl))
theorem rone_c {a : Bs} {i : Nat} {w : World} (ha : a.length ≤ 1000000) (hi : i ≤ 1000000000) :
  Cw 78 #[.string (S a), .int .i64 (i : Int)] w (.bool (bitN (val a) i)) := by
 have hbd := bit_digit (val a) i
 refine En [] [(0, .string (S a)), (1, .int .i64 (i : Int))] Tryz.func78 rfl Tryz.ntmps78 rfl (Ac rfl (Ac rfl (An _))) Fn ?_
 refine Cs (Ka rfl (Nt (Cs (Km rfl (Km rfl (Kq rfl (rd_quo64nl rfl rfl rfl (by omega)) ?_))))))
 refine Ku rfl (Oc rfl rfl (Kv fun w hS => rat_c (a := a) (i := i / 8) (by omega) (by omega))) ?_
 refine Ka rfl (Nt (Cq (Cs (Ka rfl (Nt (Cb ?_))))))
 refine Lp (σ := Nat × Nat) [(1, _)] (fun gq => [(5, .int .i64 (gq.2 : Int)), (6, .int .i64 (gq.1 : Int))]) (fun gq => gq.1 ≤ i % 8 ∧ gq.2 = val a / 256 ^ (i / 8) % 256 / 2 ^ gq.1) (fun gq => i % 8 - gq.1) (0, val a / 256 ^ (i / 8) % 256) (S1 rfl) (S2 rfl rfl) (by (try dsimp only); exact ⟨Nat.zero_le _, by simp⟩) ?_
 rintro ⟨k, x⟩ hinv1; (try dsimp only at hinv1 ⊢)
 obtain ⟨hk, hx⟩ := hinv1
 refine Cq (Cs (Km rfl (Km rfl (Kq rfl (rd_rem64nl rfl rfl rfl (by omega)) (Kq rfl (rd_lss rfl rfl rfl) (Nt ?_))))))
 refine Cd rfl (fun hc14 => ?_) (fun hc14 => ?_)
 ·(try simp only [sB] at hc14)
  have hx256 : x < 256 := by rw [hx]; exact Nat.lt_of_le_of_lt (Nat.div_le_self _ _) (Nat.mod_lt _ (by decide))
  refine Ck (Xa (Cq (Cb (Cg (Km rfl (Kq rfl (rd_quo64nl rfl rfl rfl (by omega)) (Ka rfl (Nn (Xd (Xa (Cg (Km rfl (Kq rfl (Rz rfl rfl rfl (by omega)) (Ka rfl (Nn ?_)))))))))))))))
  refine Ly ((k + 1, x / 2)) (by (try dsimp only); omega) (S1 rfl) (by refine (Sc ?_ (Sc ?_ (S0 _))) <;> (rfl)) ?_ (by (exact fun _ h => h))
  (try dsimp only)
  exact ⟨by omega, by rw [hx, Nat.pow_succ, Nat.div_div_eq_div_mul]⟩
 ·(try simp only [sB] at hc14)
  refine Cx (Xc (Xc (Xe ?_)))
  obtain rfl : k = i % 8 := by omega
  have hx256 : x < 256 := by rw [hx]; exact Nat.lt_of_le_of_lt (Nat.div_le_self _ _) (Nat.mod_lt _ (by decide))
  rw [← hx] at hbd
  refine Xa (Cs (Km rfl (Kq rfl (rd_rem64nl rfl rfl rfl (by omega)) (Kq rfl (rd_eql rfl rfl rfl) (Ka rfl (Nt (Ce ?_)))))))
  exact R1 rfl rfl (by rw [bitN, ← hbd]; exact congrArg (fun b => Ending.returned (.bool b)) (decide_eq_decide.2 (by omega)))
theorem bitN_bits {a : Bs} {i : Nat} (h : bitsN a ≤ i) : bitN (val a) i = false := by
 rw [bitN]; apply decide_eq_false; rw [Nat.div_eq_of_lt (Nat.lt_of_lt_of_le (val_bits a) (Nat.pow_le_pow_right (by decide) h))]; omega
theorem rbit_c {a : Bs} {i : Nat} {w : World} (hi : i ≤ 1000000000) :
  Cw 120 #[.string (S a), .int .i64 (i : Int)] w (.bool (bitA a i)) := by
 refine En [] [(0, .string (S a)), (1, .int .i64 (i : Int))] Tryz.func120 rfl Tryz.ntmps120 rfl (Ac rfl (Ac rfl (An _))) Fn ?_
 refine Cs (Ka rfl (Nt (Cs (Km rfl ?_))))
 refine Ku rfl (Oc rfl rfl (Kv fun w hS => rvalid_c)) ?_
 refine Km rfl ?_
 refine Nb 7 rfl (fun hg7 => ?_) (fun hg7 => ?_)
 ·(try simp only [sB] at hg7)
  refine Km rfl (Kq rfl (rd_geq rfl rfl rfl) (Kq rfl (Rp rfl rfl rfl) (Km rfl ?_)))
  refine Nb 11 rfl (fun hg11 => ?_) (fun hg11 => ?_)
  ·(try simp only [sB] at hg11)
   refine Km rfl (Km rfl ?_)
   refine Ku rfl (Oc rfl rfl (Kv fun w hS => rbits0_c (a := a) (by have hok : okN a := (by assumption); have := hok.1; omega))) ?_
   refine Kq rfl (rd_lss rfl rfl rfl) (Kq rfl (Rp rfl rfl rfl) (Km rfl ?_))
   refine Nb 17 rfl (fun hg17 => ?_) (fun hg17 => ?_)
   ·(try simp only [sB] at hg17)
    refine Km rfl (Km rfl ?_)
    refine Ku rfl (Oc rfl rfl (Kv fun w hS => rone_c (a := a) (i := i) (by have hok : okN a := (by assumption); have := hok.1; omega) (by omega))) ?_
    refine Kq rfl (Rp rfl rfl rfl) (Ka rfl (Nt (Ce ?_)))
    exact R1 rfl rfl (by (rw [bitA_nat (by assumption)]; rfl))
   ·(try simp only [sB] at hg17)
    refine Kt rfl (Kt rfl (Kt rfl (Kq rfl (Rq rfl rfl rfl) (Ka rfl (Nt (Ce ?_))))))
    exact R1 rfl rfl (by (rw [bitA_nat (by assumption), bitN_bits (by omega)]; rfl))
  ·(try simp only [sB] at hg11)
   refine Kt rfl (Kt rfl (Kt rfl (Kt rfl (Kq rfl (Rq rfl rfl rfl) (Km rfl (Kt rfl (Kt rfl (Kt rfl (Kq rfl (Rq rfl rfl rfl) (Ka rfl (Nt (Ce ?_))))))))))))
   exact R1 rfl rfl (by (rw [bitA_nat (by assumption), bitN_bits (by omega)]; rfl))
 ·(try simp only [sB] at hg7)
  refine Kt rfl (Kt rfl (Kq rfl (Rq rfl rfl rfl) (Km rfl (Kt rfl (Kt rfl (Kt rfl (Kt rfl (Kq rfl (Rq rfl rfl rfl) (Km rfl (Kt rfl (Kt rfl (Kt rfl (Kq rfl (Rq rfl rfl rfl) (Ka rfl (Nt (Ce ?_))))))))))))))))
  exact R1 rfl rfl (by (rw [bitA_no (fun h => absurd h.1 (by assumption))]; rfl))
end Go.Proofs.YtddoigmffkmpcaaGreatDoor
namespace Go.Proofs.YtddoigmffkmpcaaGreatDoor
set_option linter.unusedSimpArgs false
set_option linter.unusedVariables false
set_option maxRecDepth 20000
def digs (X n : Nat) : List Nat := (List.range n).map fun i => X / 256 ^ i % 256
theorem digs_len (X n : Nat) : (digs X n).length = n := by simp [digs]
theorem digs_succ (X n : Nat) : digs X (n + 1) = digs X n ++ [X / 256 ^ n % 256] := by simp [digs, List.range_succ]
theorem digs_lt (X n : Nat) : ∀ x ∈ digs X n, x < 256 := by
 intro x hx
 obtain ⟨i, _, rfl⟩ := List.mem_map.1 hx
 exact Nat.mod_lt _ (by decide)
theorem ev_digs (X : Nat) : ∀ n, ev 256 (digs X n) = X % 256 ^ n
 | 0 => by simp [digs, ev, Nat.mod_one]
 | n + 1 => by rw [digs_succ, ev_append, digs_len, ev_digs X n, Nat.mod_pow_succ]; simp [ev]
theorem digs_set (X n k : Nat) (h : k < n) : (digs X k ++ List.replicate (n - k) 0).set k (X / 256 ^ k % 256) = digs X (k + 1) ++ List.replicate (n - (k + 1)) 0 := by
 rw [List.set_append_right _ _ (by rw [digs_len]; exact Nat.le_refl _), digs_len, Nat.sub_self, show n - k = (n - (k + 1)) + 1 by omega, List.replicate_succ, List.set_cons_zero, digs_succ, List.append_assoc]; rfl
theorem digs_get (X n i : Nat) (h : i < n) : (digs X n).getD i 0 = X / 256 ^ i % 256 := by
 rw [List.getD_eq_getElem?_getD, digs, List.getElem?_map, List.getElem?_range h]; rfl
theorem sh_cases {s : Nat} (h : s < 8) : s = 0 ∨ s = 1 ∨ s = 2 ∨ s = 3 ∨ s = 4 ∨ s = 5 ∨ s = 6 ∨ s = 7 := by omega
theorem sc_digit0 (A s : Nat) : A * 2 ^ s / 256 ^ 0 % 256 = A / 256 ^ 0 % 256 * 2 ^ s % 256 := by
 rw [Nat.pow_zero, Nat.div_one, Nat.div_one, Nat.mul_mod (A % 256), Nat.mod_mod, ← Nat.mul_mod]
theorem sc_digit (A s i : Nat) (h : s < 8) : A * 2 ^ s / 256 ^ (i + 1) % 256 = A / 256 ^ (i + 1) % 256 * 2 ^ s % 256 + A / 256 ^ i % 256 / 2 ^ (8 - s) := by
 have e1 : A * 2 ^ s / 256 ^ (i + 1) = A / 256 ^ i / 2 ^ (8 - s) := by
  rw [Nat.div_div_eq_div_mul, show 256 ^ (i + 1) = 256 ^ i * 2 ^ (8 - s) * 2 ^ s from by
   rw [Nat.mul_assoc, ← Nat.pow_add, show 8 - s + s = 8 by omega, Nat.pow_succ], Nat.mul_div_mul_right _ _ (Nat.two_pow_pos s)]
 have e2 : A / 256 ^ (i + 1) = A / 256 ^ i / 256 := by rw [Nat.pow_succ, Nat.div_div_eq_div_mul]
 rw [e1, e2]
 generalize A / 256 ^ i = B
 rcases sh_cases h with rfl | rfl | rfl | rfl | rfl | rfl | rfl | rfl <;> omega
theorem sc_parts (A s i : Nat) (h : s < 8) : A / 256 ^ i % 256 / 2 ^ (8 - s) < 2 ^ s ∧ A / 256 ^ (i + 1) % 256 * 2 ^ s % 256 % 2 ^ s = 0 ∧ A / 256 ^ (i + 1) % 256 * 2 ^ s < 65536 := by
 have hx : A / 256 ^ i % 256 < 256 := Nat.mod_lt _ (by decide)
 have hy : A / 256 ^ (i + 1) % 256 < 256 := Nat.mod_lt _ (by decide)
 generalize A / 256 ^ i % 256 = x at *
 generalize A / 256 ^ (i + 1) % 256 = y at *
 rcases sh_cases h with rfl | rfl | rfl | rfl | rfl | rfl | rfl | rfl <;> exact ⟨by omega, by omega, by omega⟩
structure DivInv (L X D n t : Nat) (r : List Nat) (Q : Nat) : Prop where
 len : r.length = L
 dig : ∀ x ∈ r, x < 256
 sum : X = Q * D + ev 256 (r.take (t + n))
 lt : ev 256 (r.take (t + n)) < 256 ^ t * D
 dvd : Q % 256 ^ t = 0
theorem div_start {L X D n t : Nat} (hL : L = t + n) (hX : X < 256 ^ t * D) (hX2 : X < 256 ^ L) : DivInv L X D n t (digs X L) 0 := by
 have e : ev 256 ((digs X L).take (t + n)) = X := by
  rw [List.take_of_length_le (by rw [digs_len]; omega), ev_digs, Nat.mod_eq_of_lt hX2]
 exact ⟨digs_len X L, digs_lt X L, by rw [e]; omega, by rw [e]; exact hX, by simp⟩
theorem div_step {L X D n j Q g : Nat} {r r1 : List Nat} {top : Int} (h : DivInv L X D n (j + 1) r Q) (hD : D < 256 ^ n) (hL : j + n < L) (hlen : r1.length = L) (hdig : ∀ x ∈ r1, x < 256)
  (hsum : (ev 256 (r1.take (j + n)) : Int) + ((256 ^ (j + n) : Nat) : Int) * top + ((256 ^ j * g * D : Nat) : Int) = ev 256 (r.take (j + 1 + n))) (htop : 0 ≤ top) (hg : ev 256 (r.take (j + 1 + n)) / (256 ^ j * D) ≤ g) :
  top = 0 ∧ DivInv L X D n j (r1.set (j + n) 0) (Q + g * 256 ^ j) := by
 obtain ⟨tp, rfl⟩ : ∃ k : Nat, top = (k : Int) := ⟨top.toNat, by omega⟩
 have hs : ev 256 (r1.take (j + n)) + 256 ^ (j + n) * tp + 256 ^ j * g * D = ev 256 (r.take (j + 1 + n)) := by
  apply Int.ofNat_inj.1
  rw [Int.natCast_add, Int.natCast_add, Int.natCast_mul]; exact hsum
 obtain ⟨W, hW⟩ : ∃ W, W = ev 256 (r.take (j + 1 + n)) := ⟨_, rfl⟩
 obtain ⟨E, hE⟩ : ∃ E, E = ev 256 (r1.take (j + n)) := ⟨_, rfl⟩
 rw [← hW] at hs hg
 rw [← hE] at hs
 have hlt := h.lt
 rw [← hW] at hlt
 have hDp : 0 < D := by
  rcases Nat.eq_zero_or_pos D with e | e
  ·rw [e] at hlt; omega
  ·exact e
 obtain ⟨V, hV⟩ : ∃ V, V = 256 ^ j * D := ⟨_, rfl⟩
 have hVp : 0 < V := by rw [hV]; exact Nat.mul_pos (Nat.pow_pos (by decide)) hDp
 have e1 : 256 ^ j * g * D = g * V := by rw [hV, Nat.mul_comm (256 ^ j) g, Nat.mul_assoc]
 rw [← hV] at hg
 rw [e1] at hs
 have hgq : g = W / V := Nat.le_antisymm ((Nat.le_div_iff_mul_le hVp).2 (by omega)) hg
 have hT : E + 256 ^ (j + n) * tp = W % V := by
  have := Nat.div_add_mod W V
  rw [Nat.mul_comm V, ← hgq] at this; omega
 have hTl := Nat.mod_lt W hVp
 have hVl : V < 256 ^ (j + n) := by rw [hV, Nat.pow_add]; exact Nat.mul_lt_mul_of_pos_left hD (Nat.pow_pos (by decide))
 have htp : tp = 0 := by
  rcases Nat.eq_zero_or_pos tp with e | e
  ·exact e
  ·have : 256 ^ (j + n) * 1 ≤ 256 ^ (j + n) * tp := Nat.mul_le_mul_left _ e
   omega
 subst htp
 have hEV : E = W % V := by omega
 have hE2 : ev 256 ((r1.set (j + n) 0).take (j + n)) = E := by rw [take_set_lt r1 _ _ _ (Nat.le_refl _), hE]
 refine ⟨rfl, by rw [List.length_set]; exact hlen, set_lt 256 r1 hdig _ 0 (by decide), ?_, ?_, ?_⟩
 ·rw [hE2, h.sum, ← hW, Nat.add_mul]
  have : g * 256 ^ j * D = g * V := by rw [hV, Nat.mul_assoc]
  omega
 ·rw [hE2, ← hV]; omega
 ·have h1 := h.dvd
  obtain ⟨q, hq⟩ := Nat.dvd_of_mod_eq_zero h1
  rw [hq, Nat.pow_succ, Nat.mul_assoc, Nat.mul_comm g, ← Nat.mul_add]; exact Nat.mul_mod_right _ _
theorem div_less {W A D E P g : Nat} {top : Int} (hsum : (E : Int) + (P : Int) * top + ((A * g * D : Nat) : Int) = W) (hE : E < P) (ht : top < 0) : W < g * (A * D) := by
 have h1 : (P : Int) * top ≤ (P : Int) * (-1) := Int.mul_le_mul_of_nonneg_left (by omega) (by omega)
 have e : A * g * D = g * (A * D) := by rw [Nat.mul_comm A g, Nat.mul_assoc]
 rw [e] at hsum
 omega
theorem div_sub {m g n D cy bw : Nat} {r d r2 : List Nat} (h : SubInv 256 m g r d n r2 cy bw) (hd : ev 256 (d.take n) = D) (hl : m + n < r.length) :
  (ev 256 (r2.take (m + n)) : Int) + ((256 ^ (m + n) : Nat) : Int) * ((r2.getD (m + n) 0 : Nat) - (cy : Int) - bw) + ((256 ^ m * g * D : Nat) : Int) = ev 256 (r.take (m + 1 + n)) := by
 have h1 := h.sum
 have h2 := getD_drop_eq h.high
 rw [hd] at h1
 rw [show m + 1 + n = m + n + 1 by omega, ev_take_succ 256 r (m + n) hl, ← h2]
 generalize 256 ^ (m + n) = P at *
 generalize 256 ^ m * g * D = G at *
 generalize r2.getD (m + n) 0 = x at *
 generalize ev 256 (r2.take (m + n)) = E at *
 generalize ev 256 (r.take (m + n)) = F at *
 have e : (P : Int) * ((x : Int) - cy - bw) = ((P * x : Nat) : Int) - ((P * (cy + bw) : Nat) : Int) := by
  rw [Int.natCast_mul, Int.natCast_mul, Int.natCast_add, Int.mul_sub, Int.mul_sub, Int.mul_add]; omega
 rw [e]; omega
theorem div_back {m g n D c : Nat} {W : Nat} {top : Int} {r3 d r4 : List Nat} (h : AddInv 256 m r3 d n r4 c) (hd : ev 256 (d.take n) = D) (hg : 1 ≤ g)
  (hs : (ev 256 (r3.take (m + n)) : Int) + ((256 ^ (m + n) : Nat) : Int) * top + ((256 ^ m * g * D : Nat) : Int) = W) :
  (ev 256 (r4.take (m + n)) : Int) + ((256 ^ (m + n) : Nat) : Int) * (top + c) + ((256 ^ m * (g - 1) * D : Nat) : Int) = W := by
 have h1 := h.sum
 rw [hd] at h1
 have e1 : 256 ^ m * g * D = 256 ^ m * (g - 1) * D + 256 ^ m * D := by
  obtain ⟨k, rfl⟩ : ∃ k, g = k + 1 := ⟨g - 1, by omega⟩
  rw [Nat.add_sub_cancel, Nat.mul_add, Nat.mul_one, Nat.add_mul]
 rw [e1] at hs
 rw [Int.mul_add]
 generalize 256 ^ (m + n) = P at *
 generalize 256 ^ m * (g - 1) * D = G at *
 generalize 256 ^ m * D = G' at *
 have e : (P : Int) * (c : Int) = ((P * c : Nat) : Int) := by rw [Int.natCast_mul]
 rw [e]; omega
theorem be_get : ∀ (k x i : Nat), i < k → (be k x)[i]? = some (UInt8.ofNat (x / 256 ^ (k - 1 - i)))
 | 0, x, i, h => by omega
 | k + 1, x, 0, h => by rw [be, List.getElem?_cons_zero]; rfl
 | k + 1, x, i + 1, h => by rw [be, List.getElem?_cons_succ, be_get k x i (by omega), show k + 1 - 1 - (i + 1) = k - 1 - i by omega]
theorem u8_mod' {x y : Nat} (h : x % 256 = y % 256) : UInt8.ofNat x = UInt8.ofNat y := UInt8.toNat.inj (by rw [UInt8.toNat_ofNat', UInt8.toNat_ofNat']; exact h)
theorem be_set (L m Q g : Nat) (hm : m < L) (hg : g < 256) (hQ : Q % 256 ^ (m + 1) = 0) : (be L Q).set (L - 1 - m) (UInt8.ofNat g) = be L (Q + g * 256 ^ m) := by
 obtain ⟨q, rfl⟩ := Nat.dvd_of_mod_eq_zero hQ
 apply List.ext_getElem?
 intro i
 rcases Nat.lt_or_ge i L with h | h
 ·rw [be_get L _ i h]
  by_cases e : L - 1 - m = i
  ·subst e
   rw [List.getElem?_set_self (by rw [be_len]; omega), show L - 1 - (L - 1 - m) = m by omega]
   congr 1; apply u8_mod'
   rw [Nat.pow_succ, Nat.mul_assoc, Nat.mul_comm g, ← Nat.mul_add, Nat.mul_div_cancel_left _ (Nat.pow_pos (by decide))]; omega
  ·rw [List.getElem?_set_ne e, be_get L _ i h]
   congr 1; apply u8_mod'
   obtain ⟨t, ht⟩ : ∃ t, t = L - 1 - i := ⟨_, rfl⟩
   rw [← ht]
   rcases Nat.lt_or_ge t m with h1 | h1
   ·have e1 : 256 ^ (m + 1) * q = 256 ^ t * (256 * (256 ^ (m - t) * q)) := by
     rw [show m + 1 = t + (1 + (m - t)) by omega, Nat.pow_add, Nat.pow_add]; simp only [Nat.mul_assoc, Nat.pow_one]
    have e2 : g * 256 ^ m = 256 ^ t * (256 * (256 ^ (m - t - 1) * g)) := by
     rw [show m = t + (1 + (m - t - 1)) by omega, Nat.pow_add, Nat.pow_add, show t + (1 + (m - t - 1)) - t - 1 = m - t - 1 by omega]
     simp only [Nat.mul_comm, Nat.mul_assoc, Nat.mul_left_comm, Nat.pow_one]
    rw [e1, e2, ← Nat.mul_add, Nat.mul_div_cancel_left _ (Nat.pow_pos (by decide)), Nat.mul_div_cancel_left _ (Nat.pow_pos (by decide))]; omega
   ·obtain ⟨u, rfl⟩ : ∃ u, t = m + 1 + u := ⟨t - (m + 1), by omega⟩
    congr 1
    rw [Nat.pow_add 256 (m + 1) u, ← Nat.div_div_eq_div_mul, ← Nat.div_div_eq_div_mul, Nat.mul_div_cancel_left _ (Nat.pow_pos (by decide)), Nat.mul_add_div (Nat.pow_pos (by decide)), Nat.div_eq_of_lt (a := g * 256 ^ m) (by
     rw [Nat.pow_succ, Nat.mul_comm]; exact Nat.mul_lt_mul_of_pos_left hg (Nat.pow_pos (by decide))), Nat.add_zero]
 ·rw [List.getElem?_eq_none (by rw [List.length_set, be_len]; exact h), List.getElem?_eq_none (by rw [be_len]; exact h)]
theorem be_add (L m Q k : Nat) (hm : m < L) (hk : Q / 256 ^ m % 256 + k < 256) : (be L Q).set (L - 1 - m) (UInt8.ofNat (Q / 256 ^ m % 256 + k)) = be L (Q + k * 256 ^ m) := by
 apply List.ext_getElem?
 intro i
 have hdv : (Q + k * 256 ^ m) / 256 ^ m = Q / 256 ^ m + k := by rw [Nat.mul_comm, Nat.add_mul_div_left _ _ (Nat.pow_pos (by decide))]
 rcases Nat.lt_or_ge i L with h | h
 ·rw [be_get L _ i h]
  by_cases e : L - 1 - m = i
  ·subst e
   rw [List.getElem?_set_self (by rw [be_len]; omega), show L - 1 - (L - 1 - m) = m by omega, hdv]
   congr 1; apply u8_mod'; omega
  ·rw [List.getElem?_set_ne e, be_get L _ i h]
   congr 1; apply u8_mod'
   obtain ⟨t, ht⟩ : ∃ t, t = L - 1 - i := ⟨_, rfl⟩
   rw [← ht]
   rcases Nat.lt_or_ge t m with h1 | h1
   ·have e2 : k * 256 ^ m = 256 ^ t * (256 * (256 ^ (m - t - 1) * k)) := by
     rw [show m = t + (1 + (m - t - 1)) by omega, Nat.pow_add, Nat.pow_add, show t + (1 + (m - t - 1)) - t - 1 = m - t - 1 by omega]
     simp only [Nat.mul_comm, Nat.mul_assoc, Nat.mul_left_comm, Nat.pow_one]
    rw [e2, Nat.add_mul_div_left _ _ (Nat.pow_pos (by decide)), Nat.add_mul_mod_self_left]
   ·obtain ⟨u, rfl⟩ : ∃ u, t = m + 1 + u := ⟨t - (m + 1), by omega⟩
    rw [Nat.pow_add 256 (m + 1) u, Nat.pow_succ, ← Nat.div_div_eq_div_mul, ← Nat.div_div_eq_div_mul, ← Nat.div_div_eq_div_mul, ← Nat.div_div_eq_div_mul, hdv]
    rw [show (Q / 256 ^ m + k) / 256 = Q / 256 ^ m / 256 by omega]
 ·rw [List.getElem?_eq_none (by rw [List.length_set, be_len]; exact h), List.getElem?_eq_none (by rw [be_len]; exact h)]
theorem over_step {A B t c : Nat} (hB : 0 < B) (hc : c = 2 * (A / 2 ^ (t + 1) % B) + A / 2 ^ t % 2) :
  (B ≤ c → A / 2 ^ t / B = 2 * (A / 2 ^ (t + 1) / B) + 1 ∧ A / 2 ^ t % B = c - B) ∧ (c < B → A / 2 ^ t / B = 2 * (A / 2 ^ (t + 1) / B) ∧ A / 2 ^ t % B = c) := by
 have h1 : A / 2 ^ (t + 1) = A / 2 ^ t / 2 := by rw [Nat.pow_succ, Nat.div_div_eq_div_mul]
 rw [h1] at hc ⊢
 generalize A / 2 ^ t = X at *
 have h2 := Nat.div_add_mod (X / 2) B
 have h3 := Nat.mod_lt (X / 2) hB
 generalize X / 2 / B = u at *
 generalize X / 2 % B = R at *
 have hX : X = B * (2 * u) + c := by rw [Nat.mul_left_comm]; omega
 constructor
 ·intro h
  have hX2 : X = B * (2 * u + 1) + (c - B) := by rw [Nat.mul_add]; omega
  rw [hX2]
  constructor
  ·rw [Nat.mul_add_div hB, Nat.div_eq_of_lt (by omega), Nat.add_zero]
  ·rw [Nat.mul_add_mod, Nat.mod_eq_of_lt (by omega)]
 ·intro h
  rw [hX]
  constructor
  ·rw [Nat.mul_add_div hB, Nat.div_eq_of_lt h, Nat.add_zero]
  ·rw [Nat.mul_add_mod, Nat.mod_eq_of_lt h]
theorem two_split (i : Nat) : 2 ^ i = 2 ^ (i % 8) * 256 ^ (i / 8) := by
 rw [show (256 : Nat) = 2 ^ 8 from rfl, ← Nat.pow_mul, ← Nat.pow_add]; congr 1; omega
theorem over_digit (u t : Nat) : u * 2 ^ (t + 1) / 256 ^ (t / 8) % 256 + 2 ^ (t % 8) < 256 := by
 have e : u * 2 ^ (t + 1) = 256 ^ (t / 8) * (u * 2 ^ (t % 8 + 1)) := by
  rw [Nat.pow_succ, two_split t, Nat.pow_succ]; simp only [Nat.mul_comm, Nat.mul_left_comm, Nat.mul_assoc]
 rw [e, Nat.mul_div_cancel_left _ (Nat.pow_pos (by decide))]
 have h : t % 8 < 8 := Nat.mod_lt _ (by decide)
 rcases sh_cases h with h | h | h | h | h | h | h | h <;> rw [h] <;> omega
theorem rest_digit (R s i : Nat) (h : s < 8) : R / 256 ^ i % 256 = (R * 2 ^ s / 256 ^ i % 256 + R * 2 ^ s / 256 ^ (i + 1) % 256 * 256) / 2 ^ s % 256 := by
 have e1 : R * 2 ^ s / 256 ^ i / 2 ^ s = R / 256 ^ i := by
  rw [Nat.div_div_eq_div_mul, Nat.mul_comm (256 ^ i), ← Nat.div_div_eq_div_mul, Nat.mul_div_cancel _ (Nat.two_pow_pos s)]
 rw [Nat.pow_succ, ← Nat.div_div_eq_div_mul, ← e1]
 generalize R * 2 ^ s / 256 ^ i = B
 rcases sh_cases h with rfl | rfl | rfl | rfl | rfl | rfl | rfl | rfl <;> omega
theorem div_end {L X D n Q : Nat} {r : List Nat} (h : DivInv L X D n 0 r Q) : Q = X / D ∧ ev 256 (r.take n) = X % D := by
 have h1 := h.sum; have h2 := h.lt
 rw [Nat.zero_add] at h1 h2
 rw [Nat.pow_zero, Nat.one_mul] at h2
 rw [h1]
 constructor
 ·rw [Nat.mul_comm, Nat.mul_add_div (by omega), Nat.div_eq_of_lt h2, Nat.add_zero]
 ·rw [Nat.mul_comm, Nat.mul_add_mod, Nat.mod_eq_of_lt h2]
end Go.Proofs.YtddoigmffkmpcaaGreatDoor
namespace Go.Proofs.YtddoigmffkmpcaaGreatDoor
open Go.RowKit
set_option linter.unusedSimpArgs false
set_option linter.unusedVariables false
set_option maxHeartbeats 600000
set_option maxRecDepth 20000
theorem bitLen8 : ∀ x, x < 256 → Lib.bitLen x ≤ 8 := by decide +kernel
theorem bitLen_up : ∀ x, x < 256 → (x + 1) * 2 ^ (8 - Lib.bitLen x) ≤ 256 := by decide +kernel
theorem bitLen_lz : ∀ x, x < 256 → x * 2 ^ (8 - Lib.bitLen x) < 256 := by decide +kernel
theorem bitLen_pos {x : Nat} (h : 0 < x) (h2 : x < 256) : 1 ≤ Lib.bitLen x := by rw [bitLen_step h (by omega)]; omega
theorem lz8_c {c : UInt8} {w : World} :
  Cw 130 #[.int .u8 (c.toNat : Int)] w (.int .i64 ((8 - Lib.bitLen c.toNat : Nat) : Int)) := by
 have hc := c.toNat_lt
 have hb := bitLen8 c.toNat (by omega)
 refine En [] [(0, .int .u8 (c.toNat : Int))] Tryz.func130 rfl Tryz.ntmps130 rfl (Ac rfl (An _)) Fn ?_
 refine Cs (Ka rfl (Nt (Cs (Km rfl ?_))))
 refine Ku rfl (Oc rfl rfl (Kv fun w hS => len8_c (x := c.toNat) (by assumption))) ?_
 refine Kq rfl (rd_sub64ln rfl rfl rfl (by omega)) (Ka rfl (Nt (Ce ?_)))
 exact R1 rfl rfl (by rfl)
theorem sc_fits {b : Bs} (h : Can b) (h0 : b ≠ []) : val b * 2 ^ (8 - Lib.bitLen (b.getD 0 default).toNat) < 256 ^ b.length := by
 cases b with
 | nil => exact absurd rfl h0
 | cons c s =>
  show (c.toNat * 256 ^ s.length + val s) * 2 ^ (8 - Lib.bitLen c.toNat) < 256 ^ (s.length + 1)
  have h1 := bitLen_lz c.toNat c.toNat_lt
  have h2 := val_lt s
  have h3 : (c.toNat * 256 ^ s.length + val s) * 2 ^ (8 - Lib.bitLen c.toNat) < (c.toNat + 1) * 256 ^ s.length * 2 ^ (8 - Lib.bitLen c.toNat) :=
   Nat.mul_lt_mul_of_pos_right (by rw [Nat.add_mul, Nat.one_mul]; omega) (Nat.two_pow_pos _)
  have h4 : (c.toNat + 1) * 2 ^ (8 - Lib.bitLen c.toNat) ≤ 256 := bitLen_up c.toNat c.toNat_lt
  have h5 : (c.toNat + 1) * 256 ^ s.length * 2 ^ (8 - Lib.bitLen c.toNat) = (c.toNat + 1) * 2 ^ (8 - Lib.bitLen c.toNat) * 256 ^ s.length := by
   rw [Nat.mul_assoc, Nat.mul_comm (256 ^ s.length), ← Nat.mul_assoc]
  have h6 : (c.toNat + 1) * 2 ^ (8 - Lib.bitLen c.toNat) * 256 ^ s.length ≤ 256 * 256 ^ s.length := Nat.mul_le_mul_right _ h4
  rw [Nat.pow_succ, Nat.mul_comm (256 ^ s.length)]; omega
theorem be_zero (n : Nat) : (be n 0).map B = List.replicate n (.int .u8 0) := by
 have h : be n 0 = List.replicate n 0 := by
  induction n with
  | zero => rfl
  | succ n ih => rw [be, ih]; simp [List.replicate_succ]
 rw [h, List.map_replicate]; rfl
theorem divided_c {a b : Bs} {w : World} (ha : okN a) (hb : okN b) (hb0 : b ≠ []) :
  Cw 97 #[.string (S a), .string (S b)] w (.tuple #[.string (S (canon (val a / val b))), .string (S (canon (val a % val b)))]) := by
 have hal := ha.1; have hbl := hb.1
 have hvb : 0 < val b := Nat.pos_of_ne_zero fun h => hb0 ((val_eq_zero hb.2).1 h)
 refine En [] [(0, .string (S a)), (1, .string (S b))] Tryz.func97 rfl Tryz.ntmps97 rfl (Ac rfl (Ac rfl (An _))) Fn ?_
 refine Cs (Ka rfl (Ka rfl (Nt (Cq (Cs (Km rfl (Km rfl ?_)))))))
 refine Ku rfl (Oc rfl rfl (Kv fun w hS => compare_c (a := a) (b := b) (by exact ha.2) (by exact hb.2))) ?_
 refine Kq rfl (rd_lss rfl rfl rfl) (Nt ?_)
 refine Cd rfl (fun hc32 => ?_) (fun hc32 => ?_)
 ·(try simp only [sB] at hc32)
  have hlt : val a < val b := (cmpI_neg _ _).1 hc32
  refine Cs (Km rfl (Ka rfl (Ka rfl (Nt (Ce (Xb ?_))))))
  exact R2 rfl rfl rfl (by rw [Nat.div_eq_of_lt hlt, Nat.mod_eq_of_lt hlt, canon_zero, ok_canon ha]; rfl)
 ·(try simp only [sB] at hc32)
  have hge : val b ≤ val a := Nat.not_lt.1 fun h => absurd ((cmpI_neg _ _).2 h) (by omega)
  have hlen : b.length ≤ a.length := can_len hb.2 ha.2 hge
  refine Ck (Xa (Cq (Cs (Km rfl (Kq rfl (rd_slen rfl rfl u22) (Kq rfl (rd_leq rfl rfl rfl) (Nt ?_)))))))
  refine Cd rfl (fun hc36 => ?_) (fun hc36 => ?_)
  ·(try simp only [sB] at hc36)
   have hsa : smallN a = (val a, true) := by rw [smallN, if_pos ⟨ha, by omega⟩]
   have hsb : smallN b = (val b, true) := by rw [smallN, if_pos ⟨hb, by omega⟩]
   have hva8 : val a < 18446744073709551616 := val_8 (by omega)
   have hdv := Nat.div_le_self (val a) (val b)
   have hmd := Nat.mod_lt (val a) hvb
   refine Cs (Km rfl ?_)
   refine Ku rfl (Oc rfl rfl (Kv fun w hS => (by have := small_c (w := w) (a := a) (by omega); rw [hsa] at this; exact this))) ?_
   refine Km rfl (Kq rfl (Re rfl rfl rfl) (Kq rfl (Re rfl rfl rfl) (Ka rfl (Ka rfl (Nt (Cs (Km rfl ?_)))))))
   refine Ku rfl (Oc rfl rfl (Kv fun w hS => (by have := small_c (w := w) (a := b) (by omega); rw [hsb] at this; exact this))) ?_
   refine Km rfl (Kq rfl (Re rfl rfl rfl) (Kq rfl (Re rfl rfl rfl) (Ka rfl (Ka rfl (Nt (Cq ?_))))))
   refine Cf [0, 1, 2, 3, 4, 5, 6, 7, 8, 9] [] [0, 0, 0, 1, 0, 0, 0, 1, 0, 0] (by kernel_rfl) (by kernel_rfl) rfl ?_
   refine Kj rfl (Rm rfl rfl) (Kj rfl (Rm rfl rfl) ?_)
   refine Kj rfl (rd_quoW rfl rfl rfl ?_) ?_
   ·omega
   refine Jv rfl rfl rfl rfl rfl (fun ext => Oc rfl rfl (Kv fun w hS => of_c (n := val a / val b) (by omega))) ?_
   refine Kj rfl (Rm rfl rfl) (Kj rfl (Rm rfl rfl) ?_)
   refine Kj rfl (rd_remW rfl rfl rfl ?_) ?_
   ·assumption
   refine Jv rfl rfl rfl rfl rfl (fun ext => Oc rfl rfl (Kv fun w hS => of_c (n := val a % val b) (by omega))) ?_
   refine Kj rfl (Ra rfl rfl) (Kj rfl (Ra rfl rfl) ?_)
   refine WJ.nil ?_
   refine Nt (Ce (Xb ?_))
   exact R2 rfl rfl rfl (by rfl)
  ·(try simp only [sB] at hc36)
   obtain ⟨s, hs⟩ : ∃ s, s = 8 - Lib.bitLen (b.getD 0 default).toNat := ⟨_, rfl⟩
   have hcb := (can_iff b).1 hb.2
   have hbp : 0 < b.length := List.length_pos_iff.2 hb0
   have hs8 : s < 8 := by have := bitLen_pos (x := (b.getD 0 default).toNat) (by omega) (b.getD 0 default).toNat_lt; omega
   have hfit := sc_fits hb.2 hb0
   rw [← hs] at hfit
   obtain ⟨D, hD⟩ : ∃ D, D = val b * 2 ^ s := ⟨_, rfl⟩
   rw [← hD] at hfit
   have hdg : ∀ (x k : Nat), x / 256 ^ k % 256 * 2 ^ s < 65536 := fun x k => by
    have h1 : x / 256 ^ k % 256 < 256 := Nat.mod_lt _ (by decide)
    generalize x / 256 ^ k % 256 = y at *
    rcases sh_cases hs8 with rfl | rfl | rfl | rfl | rfl | rfl | rfl | rfl <;> omega
   have hdg2 : ∀ (x k : Nat), x / 256 ^ k % 256 < 256 := fun x k => Nat.mod_lt _ (by decide)
   refine Ck (Xa (Cs (Km rfl (Kq rfl (rd_sidxN rfl rfl rfl u22 (by assumption)) ?_))))
   refine Ku rfl (Oc rfl rfl (Kv fun w hS => lz8_c (c := b.getD 0 default))) ?_
   refine Ns 57 rfl (v' := .int .i64 ((s : Nat) : Int)) (congrArg (Value.int .i64) (by rw [hs])) ?_
   refine Ka rfl (Nt (Cs (Km rfl (Kq rfl (rd_slen rfl rfl u22) (Ka rfl (Nt (Cs (Km rfl ?_))))))))
   refine Kh rfl (og_mk rfl rfl rfl u125 (by kernel_rfl : _ = some (some (.int .i64 0), 1, 8)) rfl ?_ (by (try simp only [sN, Int.reduceToNat, Nat.reduceAdd, Nat.reduceMul, Nat.reduceSub]); rfl) (by (try simp only [sN, Int.reduceToNat, Nat.reduceAdd, Nat.reduceMul, Nat.reduceSub]); rfl)) ?_
   ·omega
   intro b61
   refine Ka rfl (Nt (Cq (Cs (Km rfl (Km rfl (Nt (Cb ?_)))))))
   refine Lo (σ := Nat) [(0, _), (1, _), (10, _), (11, _), (12, _), (62, _)] (fun gq => [(63, .int .i64 (gq : Int))]) (fun gq => gq ≤ b.length) (fun gq => b.length - gq) (fun gq => [⟨some b61, cols (digs D gq ++ List.replicate (b.length - gq) 0), 3⟩]) (fun gq => []) (0) (S6 rfl rfl rfl rfl rfl rfl) (S1 rfl) (by (try dsimp only); omega) (by exact fun w h => by rw [show digs D 0 ++ List.replicate (b.length - 0) 0 = List.replicate b.length 0 from rfl, cols_rep]; exact h) ?_
   rintro k hinv1; (try dsimp only at hinv1 ⊢)
   obtain hk := hinv1
   refine Cs (Kq rfl (rd_lss rfl rfl rfl) (Nt (Cq ?_)))
   refine Cd rfl (fun hc64 => ?_) (fun hc64 => ?_)
   ·(try simp only [sB] at hc64)
    have hd1 := hdg (val b) k
    have hd2 := hdg2 (val b) k
    have hll : (digs D k ++ List.replicate (b.length - k) 0).length = b.length := by rw [List.length_append, digs_len, List.length_replicate]; omega
    refine Ck (Xa ?_)
    refine WC.joinO (σ := Unit) [(0, _), (1, _), (10, _), (11, _), (12, _), (62, _), (63, _)] (fun gq => []) (fun gq => True) (fun gq => [⟨some b61, cols (digs D (k + 1) ++ List.replicate (b.length - (k + 1)) 0), 3⟩]) (fun gq => []) (S7 rfl rfl rfl rfl rfl rfl rfl) ?_ ?_
    ·skip
     refine Cb (Cs (Km rfl (Ka rfl (Nt (Cs (Km rfl (Km rfl (Km rfl (Km rfl ?_)))))))))
     refine Ku rfl (Oc rfl rfl (Kv fun w hS => digit_c (a := b) (i := k) (by omega) (by omega))) ?_
     refine Km rfl ?_
     refine Kq rfl (rd_shlW rfl rfl rfl (by (show _ ≤ 64; omega)) (by omega)) ?_
     refine Kq rfl (rd_andW 8 rfl rfl rfl (by decide) ?_) ?_
     ·omega
     refine Kq rfl (Ja rfl rfl rfl u125 (by kernel_rfl : _ = some 1) (by omega)) ?_
     refine Ng rfl rfl (st rfl rfl rfl .tc (by kernel_rfl) rfl ?_ (by rfl)) ?_
     ·rw [cols_len, hll]; omega
     intro _
     rw [cols_set]
     refine Nt (Cs (Km rfl (Kq rfl (rd_gtr rfl rfl rfl) (Nt ?_))))
     refine Cd rfl (fun hc76 => ?_) (fun hc76 => ?_)
     ·(try simp only [sB] at hc76)
      have hk1 : k - 1 + 1 = k := by omega
      have hsc := sc_digit (val b) s (k - 1) hs8
      have hsp := sc_parts (val b) s (k - 1) hs8
      rw [hk1] at hsc hsp
      rw [← hD] at hsc
      have hd3 := hdg2 (val b) (k - 1)
      refine Cf [4, 5, 6, 7, 0, 1, 2, 3, 8, 9, 10, 11, 12] [13] [0, 0, 0, 0, 0, 0, 0, 1, 0, 0, 0, 0, 0, 2] (by kernel_rfl) (by kernel_rfl) rfl ?_
      refine Kj rfl (Rm rfl rfl) (Kj rfl (Rm rfl rfl) (Kj rfl (rd_sub64nl rfl rfl rfl (by omega)) ?_))
      refine Jv rfl rfl rfl rfl rfl (fun ext => Oc rfl rfl (Kv fun w hS => digit_c (a := b) (i := k - 1) (by omega) (by omega))) ?_
      refine Kj rfl (Rm rfl rfl) (Kj rfl (Rm rfl rfl) ?_)
      refine Kj rfl (Ja rfl rfl rfl u125 (by kernel_rfl : _ = some 1) (by omega)) ?_
      refine Kj rfl (ld rfl rfl .tc u3 rfl (cols_get _ _ (by rw [List.length_set, hll]; omega))) ?_
      refine WJ.set 80 rfl (v' := .int .i64 ((val b / 256 ^ k % 256 * 2 ^ s % 2 ^ 8 : Nat) : Int)) (congrArg (Value.int .i64) (by rw [getD_set_eq _ _ _ (by rw [hll]; omega)])) ?_
      refine Kj rfl (Rm rfl rfl) (Kj rfl (rd_sub64ln rfl rfl rfl (by omega)) ?_)
      refine Kj rfl (rd_shrW rfl rfl rfl (by (show _ ≤ 64; omega))) ?_
      refine Kj rfl (rd_orW s rfl rfl rfl ?_) ?_
      ·exact ⟨hsp.2.1, by omega, hsp.1, by omega⟩
      refine Kj rfl (Ja rfl rfl rfl u125 (by kernel_rfl : _ = some 1) (by omega)) ?_
      refine WJ.nil ?_
      refine Ng rfl rfl (st rfl rfl rfl .tc (by kernel_rfl) rfl ?_ (by rfl)) ?_
      ·rw [cols_len, List.length_set, hll]; omega
      intro _
      rw [cols_set, List.set_set]
      refine Nn (Xd ?_)
      refine WX.joinO (()) (S7 rfl rfl rfl rfl rfl rfl rfl) (S0 _) ?_ (by exact fun w h => by rw [← digs_set D b.length k (by omega), hsc]; exact h)
      (try dsimp only)
      done
     ·(try simp only [sB] at hc76)
      obtain rfl : k = 0 := by omega
      have hsc := sc_digit0 (val b) s
      rw [← hD] at hsc
      refine Ck (Xd ?_)
      refine WX.joinO (()) (S7 rfl rfl rfl rfl rfl rfl rfl) (S0 _) ?_ (by exact fun w h => by rw [← digs_set D b.length 0 (by omega), hsc]; exact h)
      (try dsimp only)
      done
    ·rintro _ hmeet; (try dsimp only at hmeet ⊢)
     refine Cg (Kq rfl (Rz rfl rfl rfl (by omega)) (Km rfl (Nn ?_)))
     refine Lx (k + 1) (by (try dsimp only); omega) (S6 rfl rfl rfl rfl rfl rfl) (by refine (Sc ?_ (S0 _)) <;> (rfl)) ?_ (by (exact fun _ h => h))
     (try dsimp only)
     omega
   ·(try simp only [sB] at hc64)
    refine Cx (Xc (Xc (Xe ?_)))
    obtain rfl : k = b.length := by omega
    rw [show List.replicate (b.length - b.length) 0 = ([] : List Nat) by rw [Nat.sub_self]; rfl, List.append_nil]
    obtain ⟨X, hX⟩ : ∃ X, X = val a * 2 ^ s := ⟨_, rfl⟩
    refine Xa (Cs (Km rfl (Kq rfl (rd_slen rfl rfl u22) (Kq rfl (Rz rfl rfl rfl (by omega)) ?_))))
    refine Kh rfl (og_mk rfl rfl rfl u125 (by kernel_rfl : _ = some (some (.int .i64 0), 1, 8)) rfl ?_ (by (try simp only [sN, Int.reduceToNat, Nat.reduceAdd, Nat.reduceMul, Nat.reduceSub]); rfl) (by (try simp only [sN, Int.reduceToNat, Nat.reduceAdd, Nat.reduceMul, Nat.reduceSub]); rfl)) ?_
    ·omega
    intro b94
    refine Ka rfl (Nt (Cq (Cs (Km rfl (Kq rfl (rd_len rfl rfl u125) (Km rfl (Nt (Cb ?_))))))))
    refine Lo (σ := Nat) [(0, _), (10, _), (11, _), (12, _), (14, _), (96, _)] (fun gq => [(97, .int .i64 (gq : Int))]) (fun gq => gq ≤ a.length + 1) (fun gq => a.length + 1 - gq) (fun gq => [⟨some b94, cols (digs X gq ++ List.replicate (a.length + 1 - gq) 0), 3⟩, ⟨some b61, cols (digs D b.length), 3⟩]) (fun gq => []) (0) (S6 rfl rfl rfl rfl rfl rfl) (S1 rfl) (by (try dsimp only); omega) (by exact fun w h => by rw [show digs X 0 ++ List.replicate (a.length + 1 - 0) 0 = List.replicate (a.length + 1) 0 from rfl, cols_rep]; exact h) ?_
    rintro k hinv2; (try dsimp only at hinv2 ⊢)
    obtain hk := hinv2
    refine Cs (Kq rfl (rd_lss rfl rfl rfl) (Nt (Cq ?_)))
    refine Cd rfl (fun hc98 => ?_) (fun hc98 => ?_)
    ·(try simp only [sB] at hc98)
     have hd1 := hdg (val a) k
     have hd2 := hdg2 (val a) k
     have hll : (digs X k ++ List.replicate (a.length + 1 - k) 0).length = a.length + 1 := by rw [List.length_append, digs_len, List.length_replicate]; omega
     refine Ck (Xa ?_)
     refine WC.joinO (σ := Unit) [(0, _), (10, _), (11, _), (12, _), (14, _), (96, _), (97, _)] (fun gq => []) (fun gq => True) (fun gq => [⟨some b94, cols (digs X (k + 1) ++ List.replicate (a.length + 1 - (k + 1)) 0), 3⟩, ⟨some b61, cols (digs D b.length), 3⟩]) (fun gq => []) (S7 rfl rfl rfl rfl rfl rfl rfl) ?_ ?_
     ·skip
      refine Cb (Cs (Km rfl (Ka rfl (Nt (Cs (Km rfl (Km rfl (Km rfl (Km rfl ?_)))))))))
      refine Ku rfl (Oc rfl rfl (Kv fun w hS => digit_c (a := a) (i := k) (by omega) (by omega))) ?_
      refine Km rfl ?_
      refine Kq rfl (rd_shlW rfl rfl rfl (by (show _ ≤ 64; omega)) (by omega)) ?_
      refine Kq rfl (rd_andW 8 rfl rfl rfl (by decide) ?_) ?_
      ·omega
      refine Kq rfl (Ja rfl rfl rfl u125 (by kernel_rfl : _ = some 1) (by omega)) ?_
      refine Ng rfl rfl (st rfl rfl rfl .tc (by kernel_rfl) rfl ?_ (by rfl)) ?_
      ·rw [cols_len, hll]; omega
      intro _
      rw [cols_set]
      refine Nt (Cs (Km rfl (Kq rfl (rd_gtr rfl rfl rfl) (Nt ?_))))
      refine Cd rfl (fun hc110 => ?_) (fun hc110 => ?_)
      ·(try simp only [sB] at hc110)
       have hk1 : k - 1 + 1 = k := by omega
       have hsc := sc_digit (val a) s (k - 1) hs8
       have hsp := sc_parts (val a) s (k - 1) hs8
       rw [hk1] at hsc hsp
       rw [← hX] at hsc
       have hd3 := hdg2 (val a) (k - 1)
       refine Cf [4, 5, 6, 7, 0, 1, 2, 3, 8, 9, 10, 11, 12] [13] [0, 0, 0, 0, 0, 0, 0, 1, 0, 0, 0, 0, 0, 2] (by kernel_rfl) (by kernel_rfl) rfl ?_
       refine Kj rfl (Rm rfl rfl) (Kj rfl (Rm rfl rfl) (Kj rfl (rd_sub64nl rfl rfl rfl (by omega)) ?_))
       refine Jv rfl rfl rfl rfl rfl (fun ext => Oc rfl rfl (Kv fun w hS => digit_c (a := a) (i := k - 1) (by omega) (by omega))) ?_
       refine Kj rfl (Rm rfl rfl) (Kj rfl (Rm rfl rfl) ?_)
       refine Kj rfl (Ja rfl rfl rfl u125 (by kernel_rfl : _ = some 1) (by omega)) ?_
       refine Kj rfl (ld rfl rfl .tc u3 rfl (cols_get _ _ (by rw [List.length_set, hll]; omega))) ?_
       refine WJ.set 114 rfl (v' := .int .i64 ((val a / 256 ^ k % 256 * 2 ^ s % 2 ^ 8 : Nat) : Int)) (congrArg (Value.int .i64) (by rw [getD_set_eq _ _ _ (by rw [hll]; omega)])) ?_
       refine Kj rfl (Rm rfl rfl) (Kj rfl (rd_sub64ln rfl rfl rfl (by omega)) ?_)
       refine Kj rfl (rd_shrW rfl rfl rfl (by (show _ ≤ 64; omega))) ?_
       refine Kj rfl (rd_orW s rfl rfl rfl ?_) ?_
       ·exact ⟨hsp.2.1, by omega, hsp.1, by omega⟩
       refine Kj rfl (Ja rfl rfl rfl u125 (by kernel_rfl : _ = some 1) (by omega)) ?_
       refine WJ.nil ?_
       refine Ng rfl rfl (st rfl rfl rfl .tc (by kernel_rfl) rfl ?_ (by rfl)) ?_
       ·rw [cols_len, List.length_set, hll]; omega
       intro _
       rw [cols_set, List.set_set]
       refine Nn (Xd ?_)
       refine WX.joinO (()) (S7 rfl rfl rfl rfl rfl rfl rfl) (S0 _) ?_ (by exact fun w h => by rw [← digs_set X (a.length + 1) k (by omega), hsc]; exact h)
       (try dsimp only)
       done
      ·(try simp only [sB] at hc110)
       obtain rfl : k = 0 := by omega
       have hsc := sc_digit0 (val a) s
       rw [← hX] at hsc
       refine Ck (Xd ?_)
       refine WX.joinO (()) (S7 rfl rfl rfl rfl rfl rfl rfl) (S0 _) ?_ (by exact fun w h => by rw [← digs_set X (a.length + 1) 0 (by omega), hsc]; exact h)
       (try dsimp only)
       done
     ·rintro _ hmeet; (try dsimp only at hmeet ⊢)
      refine Cg (Kq rfl (Rz rfl rfl rfl (by omega)) (Km rfl (Nn ?_)))
      refine Lx (k + 1) (by (try dsimp only); omega) (S6 rfl rfl rfl rfl rfl rfl) (by refine (Sc ?_ (S0 _)) <;> (rfl)) ?_ (by (exact fun _ h => h))
      (try dsimp only)
      omega
    ·(try simp only [sB] at hc98)
     refine Cx (Xc (Xc (Xe ?_)))
     obtain rfl : k = a.length + 1 := by omega
     rw [show List.replicate (a.length + 1 - (a.length + 1)) 0 = ([] : List Nat) by rw [Nat.sub_self]; rfl, List.append_nil]
     have hXl : X < 256 ^ (a.length - b.length + 1) * D := by
      have h1 := val_lt a
      have h2 := can_ge hb.2 hb0
      rw [hX, hD, ← Nat.mul_assoc]
      refine Nat.mul_lt_mul_of_pos_right ?_ (Nat.two_pow_pos s)
      refine Nat.lt_of_lt_of_le h1 (Nat.le_trans ?_ (Nat.mul_le_mul_left _ h2))
      rw [← Nat.pow_add]; exact Nat.pow_le_pow_right (by decide) (by omega)
     have hXL : X < 256 ^ (a.length + 1) := by
      have h1 := val_lt a
      rw [hX, Nat.pow_succ]
      exact Nat.mul_lt_mul'' h1 (by rcases sh_cases hs8 with h | h | h | h | h | h | h | h <;> rw [h] <;> decide)
     have hdi0 := div_start (L := a.length + 1) (X := X) (D := D) (n := b.length) (t := a.length - b.length + 1) (by omega) hXl hXL
     have hDev : ev 256 (digs D b.length) = D := by rw [ev_digs, Nat.mod_eq_of_lt hfit]
     have hDt : 0 < (digs D b.length).getD (b.length - 1) 0 := by
      have h2 := can_ge hb.2 hb0
      have h3 : val b * 1 ≤ val b * 2 ^ s := Nat.mul_le_mul_left _ (Nat.two_pow_pos s)
      rw [digs_get _ _ _ (by omega), Nat.mod_eq_of_lt (by
       rw [Nat.div_lt_iff_lt_mul (Nat.pow_pos (by decide)), ← Nat.pow_succ', show (b.length - 1).succ = b.length by omega]; exact hfit)]
      exact Nat.div_pos (by omega) (Nat.pow_pos (by decide))
     have hDl := getD_lt 256 (by decide) _ (digs_lt D b.length) (b.length - 1)
     have hDp : 0 < D := by rw [hD]; exact Nat.mul_pos hvb (Nat.two_pow_pos s)
     refine Xa (Cs (Km rfl (Kq rfl (rd_slen rfl rfl u22) (Km rfl (Kq rfl (rd_sub64n rfl rfl rfl (by omega)) (Kq rfl (Rz rfl rfl rfl (by omega)) ?_))))))
     refine Kh rfl (og_mk rfl rfl rfl u83 (by kernel_rfl : _ = some (some (.int .u8 0), 1, 1)) rfl ?_ (by (try simp only [sN, Int.reduceToNat, Nat.reduceAdd, Nat.reduceMul, Nat.reduceSub]); rfl) (by (try simp only [sN, Int.reduceToNat, Nat.reduceAdd, Nat.reduceMul, Nat.reduceSub]); rfl)) ?_
     ·omega
     intro b130
     refine Ka rfl (Nt (Cq (Cs (Km rfl (Kq rfl (rd_slen rfl rfl u22) (Km rfl (Kq rfl (rd_sub64n rfl rfl rfl (by omega)) (Ka rfl (Nt (Cb ?_))))))))))
     refine Lo (σ := Nat × (List Nat) × Nat × Int) [(10, _), (11, _), (12, _), (14, _), (16, _)] (fun gq => [(17, .int .i64 gq.2.2.2)]) (fun gq => gq.1 ≤ a.length - b.length + 1 ∧ DivInv (a.length + 1) X D b.length gq.1 gq.2.1 gq.2.2.1 ∧ gq.2.2.1 < 256 ^ (a.length - b.length + 1) ∧ gq.2.2.2 = (gq.1 : Int) - 1 ∧ (gq.1 < a.length - b.length + 1 → gq.2.1.getD (gq.1 + b.length) 0 = 0)) (fun gq => gq.1) (fun gq => [⟨some b130, (be (a.length - b.length + 1) gq.2.2.1).map B, 5⟩, ⟨some b94, cols gq.2.1, 3⟩, ⟨some b61, cols (digs D b.length), 3⟩]) (fun gq => []) (a.length - b.length + 1, digs X (a.length + 1), 0, ((a.length - b.length : Nat) : Int)) (S5 rfl rfl rfl rfl rfl) (S1 rfl) (by (try dsimp only); exact ⟨by omega, hdi0, Nat.pow_pos (by decide), by omega, fun h => absurd h (by omega)⟩) (by exact fun w h => by rw [show (be (a.length - b.length + 1) 0).map B = List.replicate (a.length - b.length + 1) (.int .u8 0) from be_zero _]; exact h) ?_
     rintro ⟨t, r, Q, j⟩ hinv3; (try dsimp only at hinv3 ⊢)
     obtain ⟨ht, hdi, hQ, hj, hz⟩ := hinv3
     refine Cq (Cs (Km rfl (Kq rfl (rd_geq rfl rfl rfl) (Nt ?_))))
     refine Cd rfl (fun hc136 => ?_) (fun hc136 => ?_)
     ·(try simp only [sB] at hc136)
      obtain ⟨m, rfl⟩ : ∃ m, t = m + 1 := ⟨t - 1, by omega⟩
      refine WC.set 17 rfl (v' := .int .i64 ((m : Nat) : Int)) (by rw [hj]; congr 1; omega) ?_
      have hrl := hdi.len
      have hr1 := getD_lt 256 (by decide) _ hdi.dig (m + b.length)
      have hr0 := getD_lt 256 (by decide) _ hdi.dig (m + b.length - 1)
      obtain ⟨gu, hg⟩ : ∃ g, g = min ((r.getD (m + b.length) 0 * 2 ^ 8 + r.getD (m + b.length - 1) 0) / (digs D b.length).getD (b.length - 1) 0) 255 := ⟨_, rfl⟩
      have hgl : gu < 256 := by omega
      have hgg := guess_ge (β := 256) (j := m) (n := b.length) (q := ev 256 (r.take (m + 1 + b.length)) / (256 ^ m * D)) (d := digs D b.length) (by decide) hbp (digs_len D _) (by omega) hdi.dig (show ev 256 (r.take (m + 1 + b.length)) = _ by rw [show m + 1 + b.length = m + b.length + 1 by omega]) hDev.symm hDt (Nat.div_mul_le_self _ _) hdi.lt
      obtain ⟨qq, hqq⟩ : ∃ qq, qq = ev 256 (r.take (m + 1 + b.length)) / (256 ^ m * D) := ⟨_, rfl⟩
      rw [← hqq] at hgg
      have hgq : qq ≤ gu := by rw [hg]; exact Nat.le_min.2 ⟨hgg.1, Nat.le_of_lt_succ hgg.2⟩
      have hVp : 0 < 256 ^ m * D := Nat.mul_pos (Nat.pow_pos (by decide)) hDp
      refine Ck (Xa (Cq (Cb (Cq ?_))))
      refine Cf [0, 1, 2, 3, 4, 5, 6, 7, 8, 9, 10, 11, 12, 13, 14, 15, 16, 17, 18, 19, 20, 21, 22] [] [0, 0, 0, 0, 0, 0, 0, 0, 0, 0, 0, 0, 0, 0, 0, 0, 0, 0, 0, 0, 0, 0, 0] (by kernel_rfl) (by kernel_rfl) rfl ?_
      refine Kj rfl (Rm rfl rfl) (Kj rfl (Rm rfl rfl) (Kj rfl (Rm rfl rfl) (Kj rfl (rd_add64n rfl rfl rfl (by omega)) ?_)))
      refine Kj rfl (Ja rfl rfl rfl u125 (by kernel_rfl : _ = some 1) (by omega)) ?_
      refine Kj rfl (ld rfl rfl .tc u3 rfl (cols_get r _ (by omega))) ?_
      refine Kj rfl (rd_shlW (c := 8) rfl rfl rfl (by decide) (by omega)) (Kj rfl (Rm rfl rfl) (Kj rfl (Rm rfl rfl) (Kj rfl (Rm rfl rfl) (Kj rfl (rd_add64n rfl rfl rfl (by omega)) (Kj rfl (rd_sub64nl rfl rfl rfl (by omega)) ?_)))))
      refine Kj rfl (Ja rfl rfl rfl u125 (by kernel_rfl : _ = some 1) (by omega)) ?_
      refine Kj rfl (ld rfl rfl .tc u3 rfl (cols_get r _ (by omega))) ?_
      refine Kj rfl (rd_orW 8 rfl rfl rfl ?_) ?_
      ·omega
      refine Kj rfl (Rm rfl rfl) (Kj rfl (Rm rfl rfl) (Kj rfl (rd_sub64nl rfl rfl rfl (by omega)) ?_))
      refine Kj rfl (Ja rfl rfl rfl u125 (by kernel_rfl : _ = some 1) (by omega)) ?_
      refine Kj rfl (ld rfl rfl .tc u3 rfl (cols_get (digs D b.length) _ (by rw [digs_len]; omega))) ?_
      refine Kj rfl (rd_quo64n rfl rfl rfl (by omega)) (Kj rfl (rd_min2 rfl rfl rfl) ?_)
      refine WJ.set 160 rfl (v' := .int .i64 ((gu : Nat) : Int)) (congrArg (Value.int .i64) (by rw [hg]; omega)) ?_
      refine Kj rfl (Ra rfl rfl) ?_
      refine WJ.nil ?_
      refine Nt (Cs (Ka rfl (Ka rfl (Nt (Cq (Cs (Km rfl (Km rfl (Nt (Cb ?_))))))))))
      refine Lo (σ := Nat × (List Nat) × Nat × Nat) [(10, _), (11, _), (12, _), (14, _), (16, _), (17, _), (18, _), (161, _)] (fun gq => [(19, .int .i64 (gq.2.2.1 : Int)), (20, .int .i64 (gq.2.2.2 : Int)), (162, .int .i64 (gq.1 : Int))]) (fun gq => gq.1 ≤ b.length ∧ SubInv 256 m gu r (digs D b.length) gq.1 gq.2.1 gq.2.2.1 gq.2.2.2) (fun gq => b.length - gq.1) (fun gq => [⟨some b130, (be (a.length - b.length + 1) Q).map B, 5⟩, ⟨some b94, cols gq.2.1, 3⟩, ⟨some b61, cols (digs D b.length), 3⟩]) (fun gq => []) (0, r, 0, 0) (S8 rfl rfl rfl rfl rfl rfl rfl rfl) (S3 rfl rfl rfl) (by (try dsimp only); exact ⟨Nat.zero_le _, sub_start (by decide) hdi.dig⟩) (by (exact fun _ h => h)) ?_
      rintro ⟨i, r2, cy, bw⟩ hinv4; (try dsimp only at hinv4 ⊢)
      obtain ⟨hi, hsi⟩ := hinv4
      refine Cs (Kq rfl (rd_lss rfl rfl rfl) (Nt (Cq ?_)))
      refine Cd rfl (fun hc163 => ?_) (fun hc163 => ?_)
      ·(try simp only [sB] at hc163)
       have hr2l := hsi.len
       have hcyl := hsi.cyl; have hbwl := hsi.bwl
       have hdil := getD_lt 256 (by decide) _ (digs_lt D b.length) i
       have hr2d := getD_lt 256 (by decide) _ hsi.dig (m + i)
       have hgd : gu * (digs D b.length).getD i 0 ≤ 65025 := Nat.mul_le_mul (by omega : gu ≤ 255) (by omega : (digs D b.length).getD i 0 ≤ 255)
       rw [Nat.add_comm m i] at hr2d
       refine Ck (Xa (Cq (Cb (Cs (Km rfl (Ka rfl (Nt (Cs (Km rfl (Km rfl (Km rfl (Km rfl ?_))))))))))))
       refine Kq rfl (Ja rfl rfl rfl u125 (by kernel_rfl : _ = some 1) (by omega)) ?_
       refine Kq rfl (ld rfl rfl .tc u3 rfl (cols_get (digs D b.length) _ (by rw [digs_len]; omega))) ?_
       refine Kq rfl (rd_mul64n rfl rfl rfl (by omega)) (Kq rfl (rd_add64n rfl rfl rfl (by omega)) (Ka rfl (Nt (Cs (Km rfl (Km rfl (Km rfl (Kq rfl (rd_add64n rfl rfl rfl (by omega)) ?_))))))))
       refine Kq rfl (Ja rfl rfl rfl u125 (by kernel_rfl : _ = some 1) (by omega)) ?_
       refine Kq rfl (ld rfl rfl .tc u3 rfl (cols_get r2 _ (by omega))) ?_
       refine Km rfl ?_
       refine Kq rfl (rd_andW 8 rfl rfl rfl (by decide) ?_) ?_
       ·omega
       refine Kq rfl (rd_sub64 rfl rfl rfl (by omega)) (Km rfl (Kq rfl (rd_sub64 rfl rfl rfl (by omega)) (Ka rfl (Nt (Cs (Km rfl (Kq rfl (rd_shrW (c := 8) rfl rfl rfl (by decide)) (Ka rfl (Nt (Cs (Ka rfl (Nt ?_))))))))))))
       refine WC.joinP (σ := Nat × Nat) [(10, _), (11, _), (12, _), (14, _), (16, _), (17, _), (18, _), (19, _), (21, _), (161, _), (162, _)] (fun gq => [(22, .int .i64 (gq.1 : Int)), (20, .int .i64 (gq.2 : Int)), (19, .int .i64 ((cy + gu * (digs D b.length).getD i 0) / 256 : Nat))]) (fun gq => gq.1 + (cy + gu * (digs D b.length).getD i 0) % 256 + bw = r2.getD (i + m) 0 + 256 * gq.2 ∧ gq.1 < 256 ∧ gq.2 ≤ 1) (Sc rfl (Sc rfl (Sc rfl (Sc rfl (Sc rfl (Sc rfl (Sc rfl (Sc rfl (Sc rfl (Sc rfl (Sc rfl (S0 _)))))))))))) ?_ ?_
       ·skip
        refine Cs (Km rfl (Kq rfl (rd_lss rfl rfl rfl) (Nt ?_)))
        refine Cd rfl (fun hc187 => ?_) (fun hc187 => ?_)
        ·(try simp only [sB] at hc187)
         refine Cs (Km rfl (Kq rfl (rd_add64 rfl rfl rfl (by omega)) (Ka rfl (Nt (Cg (Ka rfl (Nn ?_)))))))
         refine WX.joinP (((((r2.getD (i + m) 0 : Nat) : Int) - ((cy + gu * (digs D b.length).getD i 0) % 256 : Nat) - bw + 256).toNat, 1)) (Sc rfl (Sc rfl (Sc rfl (Sc rfl (Sc rfl (Sc rfl (Sc rfl (Sc rfl (Sc rfl (Sc rfl (Sc rfl (S0 _)))))))))))) (by refine (Sc ?_ (Sc ?_ (Sc ?_ (S0 _)))) <;> (first | rfl | (refine slot_i rfl ?_; (try dsimp only); omega))) ?_ (by (exact fun _ h => h))
         (try dsimp only)
         omega
        ·(try simp only [sB] at hc187)
         refine Ck ?_
         refine WX.joinP (((((r2.getD (i + m) 0 : Nat) : Int) - ((cy + gu * (digs D b.length).getD i 0) % 256 : Nat) - bw).toNat, 0)) (Sc rfl (Sc rfl (Sc rfl (Sc rfl (Sc rfl (Sc rfl (Sc rfl (Sc rfl (Sc rfl (Sc rfl (Sc rfl (S0 _)))))))))))) (by refine (Sc ?_ (Sc ?_ (Sc ?_ (S0 _)))) <;> (first | rfl | (refine slot_i rfl ?_; (try dsimp only); omega))) ?_ (by (exact fun _ h => h))
         (try dsimp only)
         omega
       ·rintro ⟨y, bw'⟩ hmeet; (try dsimp only at hmeet ⊢)
        obtain ⟨hy1, hy2, hy3⟩ := hmeet
        refine Cg (Km rfl (Km rfl (Km rfl (Kq rfl (rd_add64n rfl rfl rfl (by omega)) (Km rfl ?_)))))
        refine Kq rfl (Ja rfl rfl rfl u125 (by kernel_rfl : _ = some 1) (by omega)) ?_
        refine Ng rfl rfl (st rfl rfl rfl .tc (by kernel_rfl) rfl ?_ (by rfl)) ?_
        ·rw [cols_len]; omega
        intro _
        rw [cols_set]
        refine Nn (Xd (Xa (Cg (Kq rfl (Rz rfl rfl rfl (by omega)) (Km rfl (Nn ?_))))))
        refine Lx ((i + 1, r2.set (i + m) y, (cy + gu * (digs D b.length).getD i 0) / 256, bw')) (by (try dsimp only); omega) (S8 rfl rfl rfl rfl rfl rfl rfl rfl) (by refine (Sc ?_ (Sc ?_ (Sc ?_ (S0 _)))) <;> (rfl)) ?_ (by (exact fun _ h => h))
        (try dsimp only)
        exact ⟨by omega, by rw [Nat.add_comm i m]; exact sub_step hsi (by decide) hgl (by rw [digs_len]; omega) (digs_lt D b.length) (by omega) (by rw [Nat.add_comm m i]; exact hy1) hy2 hy3⟩
      ·(try simp only [sB] at hc163)
       refine Cx (Xc (Xc (Xe ?_)))
       obtain rfl : i = b.length := by omega
       have hr2l := hsi.len
       have hcyl := hsi.cyl; have hbwl := hsi.bwl
       have hr2d := getD_lt 256 (by decide) _ hsi.dig (m + b.length)
       have hs0 := div_sub (D := D) hsi (by rw [List.take_of_length_le (by rw [digs_len]; exact Nat.le_refl _)]; exact hDev) (by omega)
       refine Xa (Cs (Km rfl (Km rfl (Km rfl (Kq rfl (rd_add64n rfl rfl rfl (by omega)) ?_)))))
       refine Kq rfl (Ja rfl rfl rfl u125 (by kernel_rfl : _ = some 1) (by omega)) ?_
       refine Kq rfl (ld rfl rfl .tc u3 rfl (cols_get r2 _ (by omega))) ?_
       refine Km rfl (Kq rfl (rd_sub64 rfl rfl rfl (by omega)) (Km rfl (Kq rfl (rd_sub64 rfl rfl rfl (by omega)) (Ka rfl (Nt (Cq (Cb ?_)))))))
       refine Lo (σ := Nat × (List Nat) × Int) [(10, _), (11, _), (12, _), (14, _), (16, _), (17, _)] (fun gq => [(18, .int .i64 (gq.1 : Int)), (23, .int .i64 gq.2.2)]) (fun gq => gq.2.1.length = a.length + 1 ∧ (∀ x ∈ gq.2.1, x < 256) ∧ ((ev 256 (gq.2.1.take (m + b.length)) : Nat) : Int) + ((256 ^ (m + b.length) : Nat) : Int) * gq.2.2 + ((256 ^ m * gq.1 * D : Nat) : Int) = (ev 256 (r.take (m + 1 + b.length)) : Nat) ∧ qq ≤ gq.1 ∧ gq.1 ≤ 255 ∧ -256 ≤ gq.2.2 ∧ gq.2.2 ≤ 255) (fun gq => gq.1) (fun gq => [⟨some b130, (be (a.length - b.length + 1) Q).map B, 5⟩, ⟨some b94, cols gq.2.1, 3⟩, ⟨some b61, cols (digs D b.length), 3⟩]) (fun gq => []) (gu, r2, ((r2.getD (m + b.length) 0 : Nat) : Int) - cy - bw) (S6 rfl rfl rfl rfl rfl rfl) (S2 rfl rfl) (by (try dsimp only); exact ⟨by omega, hsi.dig, hs0, hgq, by omega, by omega, by omega⟩) (by (exact fun _ h => h)) ?_
       rintro ⟨g, r3, top⟩ hinv5; (try dsimp only at hinv5 ⊢)
       obtain ⟨hl3, hd3, hs3, hq3, hg3, ht1, ht2⟩ := hinv5
       refine Cq (Cs (Km rfl (Kq rfl (rd_lss rfl rfl rfl) (Nt ?_))))
       refine Cd rfl (fun hc208 => ?_) (fun hc208 => ?_)
       ·(try simp only [sB] at hc208)
        have hWl := div_less hs3 (ev_take_lt 256 r3 _ (by omega) hd3) (by omega)
        have hg1 : qq < g := by rw [hqq]; exact (Nat.div_lt_iff_lt_mul hVp).2 hWl
        refine Ck (Xa (Cb (Cs (Km rfl (Kq rfl (rd_sub64nl rfl rfl rfl (by omega)) (Ns 210 rfl (v' := .int .i64 ((g - 1 : Nat) : Int)) (congrArg (Value.int .i64) (by omega)) (Ka rfl (Nt (Cs (Ka rfl (Nt (Cq (Cs (Km rfl (Km rfl (Nt (Cb ?_)))))))))))))))))
        refine Lo (σ := Nat × (List Nat) × Nat) [(10, _), (11, _), (12, _), (14, _), (16, _), (17, _), (18, _), (23, _), (211, _)] (fun gq => [(24, .int .i64 (gq.2.2 : Int)), (212, .int .i64 (gq.1 : Int))]) (fun gq => gq.1 ≤ b.length ∧ AddInv 256 m r3 (digs D b.length) gq.1 gq.2.1 gq.2.2) (fun gq => b.length - gq.1) (fun gq => [⟨some b130, (be (a.length - b.length + 1) Q).map B, 5⟩, ⟨some b94, cols gq.2.1, 3⟩, ⟨some b61, cols (digs D b.length), 3⟩]) (fun gq => []) (0, r3, 0) (S9 rfl rfl rfl rfl rfl rfl rfl rfl rfl) (S2 rfl rfl) (by (try dsimp only); exact ⟨Nat.zero_le _, add_start hd3⟩) (by (exact fun _ h => h)) ?_
        rintro ⟨k, r4, c⟩ hinv6; (try dsimp only at hinv6 ⊢)
        obtain ⟨hk, hai⟩ := hinv6
        refine Cs (Kq rfl (rd_lss rfl rfl rfl) (Nt (Cq ?_)))
        refine Cd rfl (fun hc213 => ?_) (fun hc213 => ?_)
        ·(try simp only [sB] at hc213)
         have hr4l := hai.len; have hcl := hai.cl
         have hdk := getD_lt 256 (by decide) _ (digs_lt D b.length) k
         have hrk := getD_lt 256 (by decide) _ hai.dig (m + k)
         rw [Nat.add_comm m k] at hrk
         refine Ck (Xa (Cq (Cb (Cs (Km rfl (Ka rfl (Nt (Cq ?_))))))))
         refine Cf [0, 1, 2, 3, 4, 5, 6, 7, 8, 9, 10, 11, 12, 13] [] [0, 0, 0, 0, 0, 0, 0, 0, 0, 0, 0, 0, 0, 0] (by kernel_rfl) (by kernel_rfl) rfl ?_
         refine Kj rfl (Rm rfl rfl) (Kj rfl (Rm rfl rfl) (Kj rfl (Rm rfl rfl) (Kj rfl (Rm rfl rfl) (Kj rfl (rd_add64n rfl rfl rfl (by omega)) ?_))))
         refine Kj rfl (Ja rfl rfl rfl u125 (by kernel_rfl : _ = some 1) (by omega)) ?_
         refine Kj rfl (ld rfl rfl .tc u3 rfl (cols_get r4 _ (by omega))) ?_
         refine Kj rfl (Rm rfl rfl) (Kj rfl (Rm rfl rfl) ?_)
         refine Kj rfl (Ja rfl rfl rfl u125 (by kernel_rfl : _ = some 1) (by omega)) ?_
         refine Kj rfl (ld rfl rfl .tc u3 rfl (cols_get (digs D b.length) _ (by rw [digs_len]; omega))) ?_
         refine Kj rfl (rd_add64n rfl rfl rfl (by omega)) (Kj rfl (rd_add64n rfl rfl rfl (by omega)) (Kj rfl (Ra rfl rfl) ?_))
         refine WJ.nil ?_
         refine Nt (Cs (Km rfl (Km rfl (Km rfl (Kq rfl (rd_add64n rfl rfl rfl (by omega)) (Km rfl ?_))))))
         refine Kq rfl (rd_andW 8 rfl rfl rfl (by decide) ?_) ?_
         ·omega
         refine Kq rfl (Ja rfl rfl rfl u125 (by kernel_rfl : _ = some 1) (by omega)) ?_
         refine Ng rfl rfl (st rfl rfl rfl .tc (by kernel_rfl) rfl ?_ (by rfl)) ?_
         ·rw [cols_len]; omega
         intro _
         rw [cols_set]
         refine Nt (Cg (Km rfl (Kq rfl (rd_shrW (c := 8) rfl rfl rfl (by decide)) (Ka rfl (Nn (Xd (Xa (Cg (Kq rfl (Rz rfl rfl rfl (by omega)) (Km rfl (Nn ?_)))))))))))
         refine Lx ((k + 1, r4.set (k + m) ((c + (r4.getD (k + m) 0 + (digs D b.length).getD k 0)) % 256), (c + (r4.getD (k + m) 0 + (digs D b.length).getD k 0)) / 256)) (by (try dsimp only); omega) (S9 rfl rfl rfl rfl rfl rfl rfl rfl rfl) (by refine (Sc ?_ (Sc ?_ (S0 _))) <;> (rfl)) ?_ (by (exact fun _ h => h))
         (try dsimp only)
         exact ⟨by omega, by rw [← Nat.add_assoc, Nat.add_comm k m]; exact add_step hai (by decide) (by rw [digs_len]; omega) (digs_lt D b.length) (by omega)⟩
        ·(try simp only [sB] at hc213)
         refine Cx (Xc (Xc (Xe ?_)))
         obtain rfl : k = b.length := by omega
         have hcl := hai.cl
         have hr4l := hai.len
         have hb4 := div_back (D := D) hai (by rw [List.take_of_length_le (by rw [digs_len]; exact Nat.le_refl _)]; exact hDev) (by omega) hs3
         refine Xa (Cg (Km rfl (Km rfl (Kq rfl (rd_add64 rfl rfl rfl (by omega)) (Ka rfl (Nn (Xd ?_)))))))
         refine Lx ((g - 1, r4, top + c)) (by (try dsimp only); omega) (S6 rfl rfl rfl rfl rfl rfl) (by refine (Sc ?_ (Sc ?_ (S0 _))) <;> (rfl)) ?_ (by (exact fun _ h => h))
         (try dsimp only)
         exact ⟨by omega, hai.dig, hb4, by omega, by omega, by omega, by omega⟩
       ·(try simp only [sB] at hc208)
        refine Cx (Xc (Xc (Xe ?_)))
        obtain ⟨ht0, hdi2⟩ := div_step hdi hfit (by omega) hl3 hd3 hs3 (by omega) (by rw [← hqq]; exact hq3)
        subst ht0
        have hQ2 : Q + g * 256 ^ m < 256 ^ (a.length - b.length + 1) := by
         have h1 := hdi2.sum
         have h2 : (Q + g * 256 ^ m) * D < 256 ^ (a.length - b.length + 1) * D := by omega
         exact Nat.lt_of_mul_lt_mul_right h2
        refine Xa (Cs (Km rfl (Km rfl (Km rfl (Kq rfl (rd_add64n rfl rfl rfl (by omega)) (Km rfl ?_))))))
        refine Kq rfl (Ja rfl rfl rfl u125 (by kernel_rfl : _ = some 1) (by omega)) ?_
        refine Ng rfl rfl (st rfl rfl rfl .tc (by kernel_rfl) rfl ?_ (by rfl)) ?_
        ·rw [cols_len]; omega
        intro _
        rw [show (cols r3).set (m + b.length) (.int .i64 0) = cols (r3.set (m + b.length) 0) from cols_set r3 _ 0]
        refine Nt (Cg (Km rfl (Km rfl (Kq rfl (rd_len rfl rfl u83) (Kq rfl (rd_sub64nl rfl rfl rfl (by omega)) (Km rfl (Kq rfl (rd_sub64n rfl rfl rfl (by omega)) (Km rfl (Kq rfl (rd_convB rfl rfl u3 u5) ?_)))))))))
        refine Kq rfl (Ja rfl rfl rfl u83 (by kernel_rfl : _ = some 1) (by omega)) ?_
        refine Ng rfl rfl (st rfl rfl rfl .tc (by kernel_rfl) rfl ?_ (by rfl)) ?_
        ·rw [List.length_map, be_len]; omega
        intro _
        refine Nn (Xd (Xa (Cg (Km rfl (Kq rfl (rd_sub64 rfl rfl rfl (by omega)) (Ka rfl (Nn ?_)))))))
        refine Lx ((m, r3.set (m + b.length) 0, Q + g * 256 ^ m, (m : Int) - 1)) (by (try dsimp only); omega) (S5 rfl rfl rfl rfl rfl) (by refine (Sc ?_ (S0 _)) <;> (rfl)) ?_ (by exact fun w h => by rw [← be_set (a.length - b.length + 1) m Q g (by omega) (by omega) hdi.dvd, List.map_set]; exact h)
        (try dsimp only)
        exact ⟨by omega, hdi2, hQ2, rfl, fun _ => getD_set_eq r3 _ 0 (by omega)⟩
     ·(try simp only [sB] at hc136)
      refine Cx (Xc (Xc (Xe ?_)))
      obtain rfl : t = 0 := by omega
      obtain ⟨hq1, hq2⟩ := div_end hdi
      have hrl := hdi.len
      obtain ⟨R, hR⟩ : ∃ R, R = val a % val b := ⟨_, rfl⟩
      have hqe : Q = val a / val b := by rw [hq1, hX, hD, Nat.mul_div_mul_right _ _ (Nat.two_pow_pos s)]
      have hre : ev 256 (r.take b.length) = R * 2 ^ s := by rw [hq2, hX, hD, Nat.mul_mod_mul_right, hR]
      have hRl : R < 256 ^ b.length := by rw [hR]; exact Nat.lt_trans (Nat.mod_lt _ hvb) (val_lt b)
      have hdg3 : ∀ i, i ≤ b.length → r.getD i 0 = R * 2 ^ s / 256 ^ i % 256 := fun i hi => by
       rw [← hre]
       rcases Nat.lt_or_ge i b.length with h | h
       ·rw [ev_digit 256 (by decide) (r.take b.length) i (by rw [List.length_take]; omega) (fun x hx => hdi.dig x (List.mem_of_mem_take hx)), List.getD_eq_getElem?_getD, List.getD_eq_getElem?_getD, List.getElem?_take, if_pos h]
       ·obtain rfl : i = b.length := by omega
        have h1 := hz (by omega)
        rw [Nat.zero_add] at h1
        rw [h1, Nat.div_eq_of_lt (ev_take_lt 256 r _ (by omega) hdi.dig)]
      refine Xa (Cs (Km rfl ?_))
      refine Kh rfl (og_mk rfl rfl rfl u83 (by kernel_rfl : _ = some (some (.int .u8 0), 1, 1)) rfl ?_ (by (try simp only [sN, Int.reduceToNat, Nat.reduceAdd, Nat.reduceMul, Nat.reduceSub]); rfl) (by (try simp only [sN, Int.reduceToNat, Nat.reduceAdd, Nat.reduceMul, Nat.reduceSub]); rfl)) ?_
      ·omega
      intro b257
      refine Ka rfl (Nt (Cq (Cs (Km rfl (Km rfl (Nt (Cb ?_)))))))
      refine Lo (σ := Nat) [(10, _), (11, _), (14, _), (16, _), (26, _), (258, _)] (fun gq => [(259, .int .i64 (gq : Int))]) (fun gq => gq ≤ b.length) (fun gq => b.length - gq) (fun gq => [⟨some b257, lowB b.length gq R, 5⟩, ⟨some b130, (be (a.length - b.length + 1) Q).map B, 5⟩, ⟨some b94, cols r, 3⟩]) (fun gq => []) (0) (S6 rfl rfl rfl rfl rfl rfl) (S1 rfl) (by (try dsimp only); omega) (by exact fun w h => by rw [show lowB b.length 0 R = List.replicate b.length (.int .u8 0) from lowB_zero _ _]; exact st_sub _ h) ?_
      rintro k hinv7; (try dsimp only at hinv7 ⊢)
      obtain hk := hinv7
      refine Cs (Kq rfl (rd_lss rfl rfl rfl) (Nt (Cq ?_)))
      refine Cd rfl (fun hc260 => ?_) (fun hc260 => ?_)
      ·(try simp only [sB] at hc260)
       have hrk := getD_lt 256 (by decide) _ hdi.dig k
       have hrk1 := getD_lt 256 (by decide) _ hdi.dig (k + 1)
       have hrd := rest_digit R s k hs8
       rw [← hdg3 k (by omega), ← hdg3 (k + 1) (by omega)] at hrd
       refine Ck (Xa (Cq (Cb (Cs (Km rfl (Ka rfl (Nt (Cs (Km rfl (Km rfl ?_))))))))))
       refine Kq rfl (Ja rfl rfl rfl u125 (by kernel_rfl : _ = some 1) (by omega)) ?_
       refine Kq rfl (ld rfl rfl .tc u3 rfl (cols_get r _ (by omega))) ?_
       refine Ka rfl (Nt (Cq (Cs (Km rfl (Kq rfl (Rz rfl rfl rfl (by omega)) (Km rfl (Kq rfl (rd_len rfl rfl u125) (Kq rfl (rd_lss rfl rfl rfl) (Nt ?_)))))))))
       refine Cd rfl (fun hc270 => ?_) (fun hc270 => by exfalso; (try simp only [sB] at hc270); omega)
       (try simp only [sB] at hc270)
       refine Cg (Km rfl (Km rfl (Km rfl (Kq rfl (Rz rfl rfl rfl (by omega)) ?_))))
       refine Kq rfl (Ja rfl rfl rfl u125 (by kernel_rfl : _ = some 1) (by omega)) ?_
       refine Kq rfl (ld rfl rfl .tc u3 rfl (cols_get r _ (by omega))) ?_
       refine Kq rfl (rd_shlW (c := 8) rfl rfl rfl (by decide) (by omega)) ?_
       refine Kq rfl (rd_orV 8 rfl rfl rfl ?_) ?_
       ·omega
       refine Ka rfl (Nt (Cg (Km rfl (Km rfl (Kq rfl (rd_sub64nl rfl rfl rfl (by omega)) (Km rfl (Kq rfl (rd_sub64n rfl rfl rfl (by omega)) (Km rfl (Km rfl ?_)))))))))
       refine Kq rfl (rd_shrW rfl rfl rfl (by (show _ ≤ 64; omega))) ?_
       refine Kq rfl (rd_convB rfl rfl u3 u5) ?_
       refine Ns 287 rfl (v' := B (UInt8.ofNat (R / 256 ^ k))) (by exact congrArg (fun b : UInt8 => B b) (u8_mod hrd.symm)) ?_
       refine Kq rfl (Ja rfl rfl rfl u83 (by kernel_rfl : _ = some 1) (by omega)) ?_
       refine Ng rfl rfl (st rfl rfl rfl .tc (by kernel_rfl) rfl ?_ (by rfl)) ?_
       ·rw [lowB_len _ _ _ (by omega)]; omega
       intro _
       refine Nn (Xd (Xa (Cg (Kq rfl (Rz rfl rfl rfl (by omega)) (Km rfl (Nn ?_))))))
       refine Lx (k + 1) (by (try dsimp only); omega) (S6 rfl rfl rfl rfl rfl rfl) (by refine (Sc ?_ (S0 _)) <;> (rfl)) ?_ (by exact fun w h => by rw [← lowB_set b.length k R (by omega)]; exact h)
       (try dsimp only)
       omega
      ·(try simp only [sB] at hc260)
       refine Cx (Xc (Xc (Xe ?_)))
       obtain rfl : k = b.length := by omega
       rw [lowB_full]
       have hbl1 := be_len (a.length - b.length + 1) Q
       have hbl2 := be_len b.length R
       refine Xa (Cs (Km rfl ?_))
       refine Ku rfl (Oc rfl rfl (Kv fun w hS => trimmed_c (b := be (a.length - b.length + 1) Q) (by (exact hS.os)) (by omega) (by omega) (by omega))) ?_
       refine Km rfl ?_
       refine Ku rfl (Oc rfl rfl (Kv fun w hS => trimmed_c (b := be b.length R) (by (exact hS.os)) (by omega) (by omega) (by omega))) ?_
       refine Ka rfl (Ka rfl (Nt (Ce ?_)))
       exact R2 rfl rfl rfl (by rw [val_be, val_be, Nat.mod_eq_of_lt hQ, Nat.mod_eq_of_lt hRl, hqe, hR]; rfl)
def divN (a b : Bs) : (Bs × Bs) × Int := if okN a ∧ okN b then (if b = [] then (([], []), 11) else ((canon (val a / val b), canon (val a % val b)), 0)) else (([], []), 3)
abbrev DE (r : (Bs × Bs) × Int) : Value := .tuple #[.string (S r.1.1), .string (S r.1.2), .int .i64 r.2]
theorem divmod_c {a b : Bs} {w : World} :
  Cw 61 #[.string (S a), .string (S b)] w (DE (divN a b)) := by
 refine En [] [(0, .string (S a)), (1, .string (S b))] Tryz.func61 rfl Tryz.ntmps61 rfl (Ac rfl (Ac rfl (An _))) Fn ?_
 refine Cs (Ka rfl (Ka rfl (Ka rfl (Nt (Cq (Cs (Km rfl ?_)))))))
 refine Ku rfl (Oc rfl rfl (Kv fun w hS => valid_c)) ?_
 refine Kq rfl (Rt rfl rfl) (Km rfl ?_)
 refine Nb 12 rfl (fun hg12 => ?_) (fun hg12 => ?_)
 ·(try simp only [sB] at hg12)
  refine Kt rfl (Kt rfl (Kt rfl (Kq rfl (Rp rfl rfl rfl) (Nt ?_))))
  refine Cd rfl (fun _ => ?_) (fun h => by cases h)
  refine Cs (Ka rfl (Ka rfl (Ka rfl (Nt (Ce (Xb ?_))))))
  exact R3 rfl rfl rfl rfl (by rw [divN, if_neg (by simp_all)]; rfl)
 ·(try simp only [sB] at hg12)
  refine Km rfl ?_
  refine Ku rfl (Oc rfl rfl (Kv fun w hS => valid_c)) ?_
  refine Kq rfl (Rt rfl rfl) (Kq rfl (Rq rfl rfl rfl) (Nt ?_))
  refine Cd rfl (fun hc16 => ?_) (fun hc16 => ?_)
  ·(try simp only [sB] at hc16)
   refine Cs (Ka rfl (Ka rfl (Ka rfl (Nt (Ce (Xb ?_))))))
   exact R3 rfl rfl rfl rfl (by rw [divN, if_neg (by simp_all)]; rfl)
  ·(try simp only [sB] at hc16)
   have hab : okN a ∧ okN b := by simp_all
   refine Ck (Xa (Cq (Cs (Km rfl (Kq rfl (rd_seq rfl rfl rfl) (Nt ?_))))))
   refine Cd rfl (fun hc18 => ?_) (fun hc18 => ?_)
   ·(try simp only [sB] at hc18)
    have hb0 : b = [] := by simpa using hc18
    refine Cs (Ka rfl (Ka rfl (Ka rfl (Nt (Ce (Xb ?_))))))
    exact R3 rfl rfl rfl rfl (by rw [divN, if_pos hab, if_pos hb0]; rfl)
   ·(try simp only [sB] at hc18)
    have hb0 : b ≠ [] := by simpa using hc18
    refine Ck (Xa (Cs (Km rfl (Km rfl ?_))))
    refine Ku rfl (Oc rfl rfl (Kv fun w hS => divided_c (a := a) (b := b) (by exact hab.1) (by exact hab.2) (by exact hb0))) ?_
    refine Km rfl (Kq rfl (Re rfl rfl rfl) (Kq rfl (Re rfl rfl rfl) (Ka rfl (Ka rfl (Nt (Cs (Km rfl (Km rfl (Ka rfl (Ka rfl (Ka rfl (Nt (Ce ?_)))))))))))))
    exact R3 rfl rfl rfl rfl (by rw [divN, if_pos hab, if_neg hb0]; rfl)
def gcdN (a b : Bs) : Bs × Int := if okN a ∧ okN b then (canon (Nat.gcd (val a) (val b)), 0) else ([], 3)
theorem gcd_rec' (x y : Nat) : Nat.gcd y (x % y) = Nat.gcd x y := by rw [Nat.gcd_comm x y, Nat.gcd_rec y x, Nat.gcd_comm]
theorem okN_mod {x y : Bs} (h : okN y) (h0 : y ≠ []) : okN (canon (val x % val y)) := okN_can (Nat.lt_trans (Nat.mod_lt _ (Nat.pos_of_ne_zero fun e => h0 ((val_eq_zero h.2).1 e))) (okN_val h))
theorem gcd_c {a b : Bs} {w : World} :
  Cw 99 #[.string (S a), .string (S b)] w (NE (gcdN a b)) := by
 refine En [] [(0, .string (S a)), (1, .string (S b))] Tryz.func99 rfl Tryz.ntmps99 rfl (Ac rfl (Ac rfl (An _))) Fn ?_
 refine Cs (Ka rfl (Ka rfl (Nt (Cq (Cs (Km rfl ?_))))))
 refine Ku rfl (Oc rfl rfl (Kv fun w hS => valid_c)) ?_
 refine Kq rfl (Rt rfl rfl) (Km rfl ?_)
 refine Nb 11 rfl (fun hg11 => ?_) (fun hg11 => ?_)
 ·(try simp only [sB] at hg11)
  refine Kt rfl (Kt rfl (Kt rfl (Kq rfl (Rp rfl rfl rfl) (Nt ?_))))
  refine Cd rfl (fun _ => ?_) (fun h => by cases h)
  refine Cs (Ka rfl (Ka rfl (Nt (Ce (Xb ?_)))))
  exact R2 rfl rfl rfl (by rw [gcdN, if_neg (by simp_all)]; rfl)
 ·(try simp only [sB] at hg11)
  refine Km rfl ?_
  refine Ku rfl (Oc rfl rfl (Kv fun w hS => valid_c)) ?_
  refine Kq rfl (Rt rfl rfl) (Kq rfl (Rq rfl rfl rfl) (Nt ?_))
  refine Cd rfl (fun hc15 => ?_) (fun hc15 => ?_)
  ·(try simp only [sB] at hc15)
   refine Cs (Ka rfl (Ka rfl (Nt (Ce (Xb ?_)))))
   exact R2 rfl rfl rfl (by rw [gcdN, if_neg (by simp_all)]; rfl)
  ·(try simp only [sB] at hc15)
   have hab : okN a ∧ okN b := by simp_all
   refine Ck (Xa (Cq (Cb ?_)))
   refine Lp (σ := Bs × Bs) [] (fun gq => [(0, .string (S gq.1)), (1, .string (S gq.2))]) (fun gq => okN gq.1 ∧ okN gq.2 ∧ Nat.gcd (val gq.1) (val gq.2) = Nat.gcd (val a) (val b)) (fun gq => val gq.2) (a, b) (S0 _) (S2 rfl rfl) (by (try dsimp only); exact ⟨hab.1, hab.2, rfl⟩) ?_
   rintro ⟨x, y⟩ hinv1; (try dsimp only at hinv1 ⊢)
   obtain ⟨hx, hy, hg⟩ := hinv1
   refine Cq (Cs (Km rfl (Kq rfl (rd_sne rfl rfl rfl) (Nt ?_))))
   refine Cd rfl (fun hc17 => ?_) (fun hc17 => ?_)
   ·(try simp only [sB] at hc17)
    have hy0 : y ≠ [] := by simpa using hc17
    have hvy : 0 < val y := Nat.pos_of_ne_zero fun e => hy0 ((val_eq_zero hy.2).1 e)
    refine Ck (Xa (Cb (Cs (Km rfl (Km rfl ?_)))))
    refine Ku rfl (Oc rfl rfl (Kv fun w hS => divided_c (a := x) (b := y) (by exact hx) (by exact hy) (by exact hy0))) ?_
    refine Km rfl (Kq rfl (Re rfl rfl rfl) (Kq rfl (Re rfl rfl rfl) (Ka rfl (Ka rfl (Nt (Cg (Km rfl (Km rfl (Ka rfl (Ka rfl (Nn (Xd ?_))))))))))))
    refine Ly ((y, canon (val x % val y))) (by (try dsimp only); rw [val_canon]; exact Nat.mod_lt _ hvy) (S0 _) (by refine (Sc ?_ (Sc ?_ (S0 _))) <;> (rfl)) ?_ (by (exact fun _ h => h))
    (try dsimp only)
    exact ⟨hy, okN_mod hy hy0, by rw [val_canon, gcd_rec', hg]⟩
   ·(try simp only [sB] at hc17)
    refine Cx (Xc (Xc (Xe ?_)))
    obtain rfl : y = [] := by simpa using hc17
    have hgx : val x = Nat.gcd (val a) (val b) := by rw [← hg]; exact (Nat.gcd_zero_right _).symm
    refine Xa (Cs (Km rfl (Ka rfl (Ka rfl (Nt (Ce ?_))))))
    exact R2 rfl rfl rfl (by rw [gcdN, if_pos hab, ← hgx, ok_canon hx]; rfl)
theorem rover_c {a b : Bs} {w : World} (ha : okN a) (hb : okN b) (hb0 : b ≠ []) :
  Cw 44 #[.string (S a), .string (S b)] w (.tuple #[.string (S (canon (val a / val b))), .string (S (canon (val a % val b)))]) := by
 have hal := ha.1; have hbl := hb.1
 have hvb : 0 < val b := Nat.pos_of_ne_zero fun h => hb0 ((val_eq_zero hb.2).1 h)
 have hbs := bitsN_le hal
 have hblt := okN_val hb
 have hvl := val_lt a
 refine En [] [(0, .string (S a)), (1, .string (S b))] Tryz.func44 rfl Tryz.ntmps44 rfl (Ac rfl (Ac rfl (An _))) Fn ?_
 refine Cs (Ka rfl (Ka rfl (Nt (Cq ?_))))
 refine WC.joinP (σ := Unit) [(0, _), (1, _)] (fun gq => [(20, .bool (decide (a.length ≤ 8 ∧ b.length ≤ 8)))]) (fun gq => True) (S2 rfl rfl) ?_ ?_
 ·skip
  refine Cg (Km rfl (Kq rfl (rd_slen rfl rfl u22) (Kq rfl (rd_leq rfl rfl rfl) (Km rfl ?_))))
  refine Nb 16 rfl (fun hg16 => ?_) (fun hg16 => ?_)
  ·(try simp only [sB] at hg16)
   refine Km rfl (Kq rfl (rd_slen rfl rfl u22) (Kq rfl (rd_leq rfl rfl rfl) (Kq rfl (Rp rfl rfl rfl) (Nn ?_))))
   refine WX.joinP (()) (S2 rfl rfl) (by refine (Sc ?_ (S0 _)) <;> ((refine slot_b rfl ?_; (try dsimp only); (exact decide_eq_decide.2 (by omega))))) ?_ (by (exact fun _ h => h))
   (try dsimp only)
   done
  ·(try simp only [sB] at hg16)
   refine Kt rfl (Kt rfl (Kt rfl (Kq rfl (Rq rfl rfl rfl) (Nn ?_))))
   refine WX.joinP (()) (S2 rfl rfl) (by refine (Sc ?_ (S0 _)) <;> ((exact congrArg (fun b => some (Value.bool b)) (by symm; apply decide_eq_false; omega)))) ?_ (by (exact fun _ h => h))
   (try dsimp only)
   done
 ·rintro _ hmeet; (try dsimp only at hmeet ⊢)
  refine Cd rfl (fun hc20 => ?_) (fun hc20 => ?_)
  ·(try simp only [sB] at hc20)
   have hva8 : val a < 18446744073709551616 := val_8 hc20.1
   have hvb8 : val b < 18446744073709551616 := val_8 hc20.2
   have hdv := Nat.div_le_self (val a) (val b)
   have hmd := Nat.mod_lt (val a) hvb
   refine Cs (Km rfl ?_)
   refine Ku rfl (Oc rfl rfl (Kv fun w hS => ru64_c (a := a) (by omega))) ?_
   refine Km rfl ?_
   refine Ku rfl (Oc rfl rfl (Kv fun w hS => ru64_c (a := b) (by omega))) ?_
   refine Ka rfl (Ka rfl (Nt (Cq ?_)))
   refine Cf [0, 1, 2, 3, 4, 5, 6, 7, 8, 9] [] [0, 0, 0, 1, 0, 0, 0, 1, 0, 0] (by kernel_rfl) (by kernel_rfl) rfl ?_
   refine Kj rfl (Rm rfl rfl) (Kj rfl (Rm rfl rfl) ?_)
   refine Kj rfl (rd_quoW rfl rfl rfl ?_) ?_
   ·omega
   refine Jv rfl rfl rfl rfl rfl (fun ext => Oc rfl rfl (Kv fun w hS => rof_c (n := val a / val b) (by omega))) ?_
   refine Kj rfl (Rm rfl rfl) (Kj rfl (Rm rfl rfl) ?_)
   refine Kj rfl (rd_remW rfl rfl rfl ?_) ?_
   ·assumption
   refine Jv rfl rfl rfl rfl rfl (fun ext => Oc rfl rfl (Kv fun w hS => rof_c (n := val a % val b) (by omega))) ?_
   refine Kj rfl (Ra rfl rfl) (Kj rfl (Ra rfl rfl) ?_)
   refine WJ.nil ?_
   refine Nt (Ce (Xb ?_))
   exact R2 rfl rfl rfl (by rfl)
  ·(try simp only [sB] at hc20)
   refine Ck (Xa (Cs (Km rfl (Kq rfl (rd_slen rfl rfl u22) ?_))))
   refine Kh rfl (og_mk rfl rfl rfl u83 (by kernel_rfl : _ = some (some (.int .u8 0), 1, 1)) rfl ?_ (by (try simp only [sN, Int.reduceToNat, Nat.reduceAdd, Nat.reduceMul, Nat.reduceSub]); rfl) (by (try simp only [sN, Int.reduceToNat, Nat.reduceAdd, Nat.reduceMul, Nat.reduceSub]); rfl)) ?_
   ·omega
   intro b35
   refine Ka rfl (Nt (Cs (Ka rfl (Nt (Cq (Cs (Km rfl ?_)))))))
   refine Ku rfl (Oc rfl rfl (Kv fun w hS => rbits0_c (a := a) (by omega))) ?_
   refine Kq rfl (rd_sub64 rfl rfl rfl (by omega)) (Ka rfl (Nt (Cb ?_)))
   refine Lo (σ := Nat × Bs × Nat × Int) [(0, _), (1, _), (8, _)] (fun gq => [(9, .string (S gq.2.1)), (10, .int .i64 gq.2.2.2)]) (fun gq => gq.1 ≤ bitsN a ∧ gq.2.1 = canon (val a / 2 ^ gq.1 % val b) ∧ gq.2.2.1 = val a / 2 ^ gq.1 / val b * 2 ^ gq.1 ∧ gq.2.2.2 = (gq.1 : Int) - 1) (fun gq => gq.1) (fun gq => [⟨some b35, (be a.length gq.2.2.1).map B, 5⟩]) (fun gq => []) (bitsN a, [], 0, (bitsN a : Int) - 1) (S3 rfl rfl rfl) (S2 rfl rfl) (by (try dsimp only); have h0 : val a / 2 ^ bitsN a = 0 := Nat.div_eq_of_lt (val_bits a); rw [h0]; exact ⟨Nat.le_refl _, by rw [Nat.zero_mod, canon_zero], by rw [Nat.zero_div, Nat.zero_mul], rfl⟩) (by exact fun w h => by rw [show (be a.length 0).map B = List.replicate a.length (.int .u8 0) from be_zero _]; exact h) ?_
   rintro ⟨t, r, Q, j⟩ hinv1; (try dsimp only at hinv1 ⊢)
   obtain ⟨ht, hr, hQ, hj⟩ := hinv1
   refine Cq (Cs (Km rfl (Kq rfl (rd_geq rfl rfl rfl) (Nt ?_))))
   refine Cd rfl (fun hc40 => ?_) (fun hc40 => ?_)
   ·(try simp only [sB] at hc40)
    obtain ⟨m, rfl⟩ : ∃ m, t = m + 1 := ⟨t - 1, by omega⟩
    refine WC.set 10 rfl (v' := .int .i64 ((m : Nat) : Int)) (by rw [hj]; congr 1; omega) ?_
    obtain ⟨R, hR⟩ : ∃ R, R = val a / 2 ^ (m + 1) % val b := ⟨_, rfl⟩
    rw [← hR] at hr
    obtain ⟨c, hc⟩ : ∃ c, c = 2 * R + val a / 2 ^ m % 2 := ⟨_, rfl⟩
    have hst := over_step (A := val a) (B := val b) (t := m) (c := c) hvb (by rw [hc, hR])
    have hRl : R < val b := by rw [hR]; exact Nat.mod_lt _ hvb
    have hlR : (canon R).length ≤ 128 := (okN_can (by omega)).1
    have hl2 : (canon (2 * R)).length ≤ 129 := canon_len_le.2 (by have h1 : (256 : Nat) ^ 129 = 256 * Big := by rw [Nat.pow_succ, Nat.mul_comm]; rfl
                                                                  omega)
    have hlc : (canon c).length ≤ 129 := canon_len_le.2 (by have h1 : (256 : Nat) ^ 129 = 256 * Big := by rw [Nat.pow_succ, Nat.mul_comm]; rfl
                                                            omega)
    subst hr
    have hm8 : m / 8 < a.length := by
     have h1 := bitsN_le8 a; omega
    have hod := over_digit (val a / 2 ^ (m + 1) / val b) m
    rw [← hQ] at hod
    refine Ck (Xa (Cq (Cb (Cs (Km rfl (Km rfl ?_))))))
    refine Ku rfl (Oc rfl rfl (Kv fun w hS => plus_c (a := canon R) (b := canon R) (by omega) (by omega))) ?_
    refine Ns 45 rfl (v' := .string (S (canon (2 * R)))) (congrArg (fun l => Value.string (S l)) (by rw [val_canon, ← Nat.two_mul])) ?_
    refine Ka rfl (Nt ?_)
    refine WC.joinP (σ := Unit) [(0, _), (1, _), (8, _), (10, _)] (fun gq => [(9, .string (S (canon c)))]) (fun gq => True) (S4 rfl rfl rfl rfl) ?_ ?_
    ·skip
     refine Cs (Km rfl (Km rfl ?_))
     refine Ku rfl (Oc rfl rfl (Kv fun w hS => rone_c (a := a) (i := m) (by omega) (by omega))) ?_
     refine Nt ?_
     refine Cd rfl (fun hc48 => ?_) (fun hc48 => ?_)
     ·(try simp only [sB] at hc48)
      have hb1 : val a / 2 ^ m % 2 = 1 := by simpa [bitN] using hc48
      refine Cg (Km rfl ?_)
      refine Ku rfl (Oc rfl rfl (Kv fun w hS => plus_c (a := canon (2 * R)) (b := [1]) (by omega) (by (simp <;> omega)))) ?_
      refine Ns 50 rfl (v' := .string (S (canon c))) (congrArg (fun l => Value.string (S l)) (by rw [val_canon, show val [1] = 1 from rfl, hc, hb1])) ?_
      refine Ka rfl (Nn ?_)
      refine WX.joinP (()) (S4 rfl rfl rfl rfl) (by refine (Sc ?_ (S0 _)) <;> (rfl)) ?_ (by (exact fun _ h => h))
      (try dsimp only)
      done
     ·(try simp only [sB] at hc48)
      have hb1 : ¬ val a / 2 ^ m % 2 = 1 := by simpa [bitN] using hc48
      rw [show 2 * R = c by omega]
      refine Ck ?_
      refine WX.joinP (()) (S4 rfl rfl rfl rfl) (by refine (Sc ?_ (S0 _)) <;> (rfl)) ?_ (by (exact fun _ h => h))
      (try dsimp only)
      done
    ·rintro _ hmeet; (try dsimp only at hmeet ⊢)
     refine Cs (Km rfl (Km rfl ?_))
     refine Ku rfl (Oc rfl rfl (Kv fun w hS => order_c (a := canon c) (b := b) (by exact can_canon _) (by exact hb.2) (by omega))) ?_
     refine Kq rfl (rd_geq rfl rfl rfl) (Nt ?_)
     refine Cd rfl (fun hc54 => ?_) (fun hc54 => ?_)
     ·(try simp only [sB] at hc54)
      have hge : val b ≤ c := Nat.not_lt.1 fun h => by have := (cmpI_neg c (val b)).2 h; rw [val_canon] at hc54; omega
      obtain ⟨hq1, hr1⟩ := hst.1 hge
      refine Cs (Km rfl (Km rfl ?_))
      refine Ku rfl (Oc rfl rfl (Kv fun w hS => minus_c (a := canon c) (b := b) (by rw [val_canon]; exact hge) (by omega) (by omega))) ?_
      refine Ns 57 rfl (v' := .string (S (canon (c - val b)))) (congrArg (fun l => Value.string (S l)) (by rw [val_canon])) ?_
      refine Ka rfl (Nt (Cs (Ka rfl (Nt (Cq (Cs (Ka rfl (Nt (Cb ?_)))))))))
      refine Lo (σ := Nat × Nat) [(0, _), (1, _), (8, _), (9, _), (10, _)] (fun gq => [(11, .int .u8 (gq.2 : Int)), (12, .int .i64 (gq.1 : Int))]) (fun gq => gq.1 ≤ m % 8 ∧ gq.2 = 2 ^ gq.1) (fun gq => m % 8 - gq.1) (fun gq => [⟨some b35, (be a.length Q).map B, 5⟩]) (fun gq => []) (0, 1) (S5 rfl rfl rfl rfl rfl) (S2 rfl rfl) (by (try dsimp only); exact ⟨Nat.zero_le _, rfl⟩) (by (exact fun _ h => h)) ?_
      rintro ⟨k, p⟩ hinv2; (try dsimp only at hinv2 ⊢)
      obtain ⟨hk, hp⟩ := hinv2
      refine Cq (Cs (Km rfl (Km rfl (Kq rfl (rd_rem64nl rfl rfl rfl (by omega)) (Kq rfl (rd_lss rfl rfl rfl) (Nt ?_))))))
      refine Cd rfl (fun hc61 => ?_) (fun hc61 => ?_)
      ·(try simp only [sB] at hc61)
       have hp2 : p * 2 ≤ 128 := by
        rw [hp, ← Nat.pow_succ]; exact Nat.le_trans (Nat.pow_le_pow_right (by decide) (by omega : k + 1 ≤ 7)) (by decide)
       refine Ck (Xa (Cq (Cb (Cg (Km rfl (Kq rfl (rd_mulW (c := 2) rfl rfl rfl (by omega)) (Ka rfl (Nn (Xd (Xa (Cg (Km rfl (Kq rfl (Rz rfl rfl rfl (by omega)) (Ka rfl (Nn ?_)))))))))))))))
       refine Lx ((k + 1, p * 2)) (by (try dsimp only); omega) (S5 rfl rfl rfl rfl rfl) (by refine (Sc ?_ (Sc ?_ (S0 _))) <;> (rfl)) ?_ (by (exact fun _ h => h))
       (try dsimp only)
       exact ⟨by omega, by rw [hp, Nat.pow_succ]⟩
      ·(try simp only [sB] at hc61)
       refine Cx (Xc (Xc (Xe ?_)))
       obtain rfl : k = m % 8 := by omega
       have hq8 : ((be a.length Q).map B)[a.length - 1 - m / 8]? = some (.int .u8 ((Q / 256 ^ (m / 8) % 256 : Nat) : Int)) := by
        rw [List.getElem?_map, be_get _ _ _ (by omega), show a.length - 1 - (a.length - 1 - m / 8) = m / 8 by omega]; simp [B, UInt8.toNat_ofNat']
       rw [← hp] at hod
       refine Xa (Cg (Km rfl (Km rfl (Kq rfl (rd_slen rfl rfl u22) (Kq rfl (rd_sub64nl rfl rfl rfl (by omega)) (Km rfl (Kq rfl (rd_quo64nl rfl rfl rfl (by omega)) (Kq rfl (rd_sub64n rfl rfl rfl (by omega)) ?_))))))))
       refine Kq rfl (Ja rfl rfl rfl u83 (by kernel_rfl : _ = some 1) (by omega)) ?_
       refine Kq rfl (ld rfl rfl .tc u5 rfl hq8) ?_
       refine Km rfl (Kq rfl (rd_addW rfl rfl rfl (by assumption)) ?_)
       refine Ns 76 rfl (v' := B (UInt8.ofNat (Q / 256 ^ (m / 8) % 256 + p))) (by rw [B, UInt8.toNat_ofNat', Nat.mod_eq_of_lt hod]) ?_
       refine Kq rfl (Ja rfl rfl rfl u83 (by kernel_rfl : _ = some 1) (by omega)) ?_
       refine Ng rfl rfl (st rfl rfl rfl .tc (by kernel_rfl) rfl ?_ (by rfl)) ?_
       ·rw [List.length_map, be_len]; omega
       intro _
       refine Nn (Xd (Xa (Cg (Km rfl (Kq rfl (rd_sub64 rfl rfl rfl (by omega)) (Ka rfl (Nn ?_)))))))
       refine Lx ((m, canon (c - val b), Q + p * 256 ^ (m / 8), (m : Int) - 1)) (by (try dsimp only); omega) (S3 rfl rfl rfl) (by refine (Sc ?_ (Sc ?_ (S0 _))) <;> (rfl)) ?_ (by exact fun w h => by rw [← be_add a.length (m / 8) Q p (by omega) hod, List.map_set]; exact h)
       (try dsimp only)
       exact ⟨by omega, by rw [hr1], by rw [hq1, hp, ← two_split, hQ, Nat.pow_succ, Nat.add_mul, Nat.one_mul]; congr 1; simp only [Nat.mul_comm, Nat.mul_left_comm, Nat.mul_assoc], rfl⟩
     ·(try simp only [sB] at hc54)
      have hlt : c < val b := by rw [val_canon] at hc54; exact (cmpI_neg c (val b)).1 hc54
      obtain ⟨hq1, hr1⟩ := hst.2 hlt
      refine Ck (Xd (Xa (Cg (Km rfl (Kq rfl (rd_sub64 rfl rfl rfl (by omega)) (Ka rfl (Nn ?_)))))))
      refine Lx ((m, canon c, Q, (m : Int) - 1)) (by (try dsimp only); omega) (S3 rfl rfl rfl) (by refine (Sc ?_ (Sc ?_ (S0 _))) <;> (rfl)) ?_ (by (exact fun _ h => h))
      (try dsimp only)
      exact ⟨by omega, by rw [hr1], by rw [hq1, hQ, Nat.pow_succ]; simp only [Nat.mul_comm, Nat.mul_left_comm, Nat.mul_assoc], rfl⟩
   ·(try simp only [sB] at hc40)
    refine Cx (Xc (Xc (Xe ?_)))
    obtain rfl : t = 0 := by omega
    rw [Nat.pow_zero, Nat.div_one, Nat.mul_one] at hQ
    rw [Nat.pow_zero, Nat.div_one] at hr
    subst hr
    have hbl1 := be_len a.length Q
    have hQl : Q < 256 ^ a.length := by rw [hQ]; exact Nat.lt_of_le_of_lt (Nat.div_le_self _ _) hvl
    refine Xa (Cs (Km rfl ?_))
    refine Ku rfl (Oc rfl rfl (Kv fun w hS => rtrim_c (b := be a.length Q) (by (exact hS.os)) (by omega) (by omega) (by omega))) ?_
    refine Km rfl (Ka rfl (Ka rfl (Nt (Ce ?_))))
    exact R2 rfl rfl rfl (by rw [val_be, Nat.mod_eq_of_lt hQl, hQ]; rfl)
theorem rdivmod_c {a b : Bs} {w : World} :
  Cw 153 #[.string (S a), .string (S b)] w (DE (divN a b)) := by
 refine En [] [(0, .string (S a)), (1, .string (S b))] Tryz.func153 rfl Tryz.ntmps153 rfl (Ac rfl (Ac rfl (An _))) Fn ?_
 refine Cs (Ka rfl (Ka rfl (Ka rfl (Nt (Cq (Cs (Km rfl ?_)))))))
 refine Ku rfl (Oc rfl rfl (Kv fun w hS => rvalid_c)) ?_
 refine Kq rfl (Rt rfl rfl) (Km rfl ?_)
 refine Nb 12 rfl (fun hg12 => ?_) (fun hg12 => ?_)
 ·(try simp only [sB] at hg12)
  refine Kt rfl (Kt rfl (Kt rfl (Kq rfl (Rp rfl rfl rfl) (Nt ?_))))
  refine Cd rfl (fun _ => ?_) (fun h => by cases h)
  refine Cs (Ka rfl (Ka rfl (Ka rfl (Nt (Ce (Xb ?_))))))
  exact R3 rfl rfl rfl rfl (by rw [divN, if_neg (by simp_all)]; rfl)
 ·(try simp only [sB] at hg12)
  refine Km rfl ?_
  refine Ku rfl (Oc rfl rfl (Kv fun w hS => rvalid_c)) ?_
  refine Kq rfl (Rt rfl rfl) (Kq rfl (Rq rfl rfl rfl) (Nt ?_))
  refine Cd rfl (fun hc16 => ?_) (fun hc16 => ?_)
  ·(try simp only [sB] at hc16)
   refine Cs (Ka rfl (Ka rfl (Ka rfl (Nt (Ce (Xb ?_))))))
   exact R3 rfl rfl rfl rfl (by rw [divN, if_neg (by simp_all)]; rfl)
  ·(try simp only [sB] at hc16)
   have hab : okN a ∧ okN b := by simp_all
   refine Ck (Xa (Cq (Cs (Km rfl (Kq rfl (rd_seq rfl rfl rfl) (Nt ?_))))))
   refine Cd rfl (fun hc18 => ?_) (fun hc18 => ?_)
   ·(try simp only [sB] at hc18)
    have hb0 : b = [] := by simpa using hc18
    refine Cs (Ka rfl (Ka rfl (Ka rfl (Nt (Ce (Xb ?_))))))
    exact R3 rfl rfl rfl rfl (by rw [divN, if_pos hab, if_pos hb0]; rfl)
   ·(try simp only [sB] at hc18)
    have hb0 : b ≠ [] := by simpa using hc18
    refine Ck (Xa (Cs (Km rfl (Km rfl ?_))))
    refine Ku rfl (Oc rfl rfl (Kv fun w hS => rover_c (a := a) (b := b) (by exact hab.1) (by exact hab.2) (by exact hb0))) ?_
    refine Km rfl (Kq rfl (Re rfl rfl rfl) (Kq rfl (Re rfl rfl rfl) (Ka rfl (Ka rfl (Nt (Cs (Km rfl (Km rfl (Ka rfl (Ka rfl (Ka rfl (Nt (Ce ?_)))))))))))))
    exact R3 rfl rfl rfl rfl (by rw [divN, if_pos hab, if_neg hb0]; rfl)
theorem rcommon_c {a b : Bs} {w : World} (ha : okN a) (hb : okN b) :
  Cw 85 #[.string (S a), .string (S b)] w (.string (S (canon (Nat.gcd (val a) (val b))))) := by
 refine En [] [(0, .string (S a)), (1, .string (S b))] Tryz.func85 rfl Tryz.ntmps85 rfl (Ac rfl (Ac rfl (An _))) Fn ?_
 refine Cs (Ka rfl (Nt (Cq (Cb ?_))))
 refine Lp (σ := Bs × Bs) [] (fun gq => [(0, .string (S gq.1)), (1, .string (S gq.2))]) (fun gq => okN gq.1 ∧ okN gq.2 ∧ Nat.gcd (val gq.1) (val gq.2) = Nat.gcd (val a) (val b)) (fun gq => val gq.2) (a, b) (S0 _) (S2 rfl rfl) (by (try dsimp only); exact ⟨ha, hb, rfl⟩) ?_
 rintro ⟨x, y⟩ hinv1; (try dsimp only at hinv1 ⊢)
 obtain ⟨hx, hy, hg⟩ := hinv1
 refine Cq (Cs (Km rfl (Kq rfl (rd_sne rfl rfl rfl) (Nt ?_))))
 refine Cd rfl (fun hc8 => ?_) (fun hc8 => ?_)
 ·(try simp only [sB] at hc8)
  have hy0 : y ≠ [] := by simpa using hc8
  have hvy : 0 < val y := Nat.pos_of_ne_zero fun e => hy0 ((val_eq_zero hy.2).1 e)
  refine Ck (Xa (Cb (Cs (Km rfl (Km rfl ?_)))))
  refine Ku rfl (Oc rfl rfl (Kv fun w hS => rover_c (a := x) (b := y) (by exact hx) (by exact hy) (by exact hy0))) ?_
  refine Km rfl (Kq rfl (Re rfl rfl rfl) (Kq rfl (Re rfl rfl rfl) (Ka rfl (Ka rfl (Nt (Cg (Km rfl (Km rfl (Ka rfl (Ka rfl (Nn (Xd ?_))))))))))))
  refine Ly ((y, canon (val x % val y))) (by (try dsimp only); rw [val_canon]; exact Nat.mod_lt _ hvy) (S0 _) (by refine (Sc ?_ (Sc ?_ (S0 _))) <;> (rfl)) ?_ (by (exact fun _ h => h))
  (try dsimp only)
  exact ⟨hy, okN_mod hy hy0, by rw [val_canon, gcd_rec', hg]⟩
 ·(try simp only [sB] at hc8)
  refine Cx (Xc (Xc (Xe ?_)))
  obtain rfl : y = [] := by simpa using hc8
  have hgx : val x = Nat.gcd (val a) (val b) := by rw [← hg]; exact (Nat.gcd_zero_right _).symm
  refine Xa (Cs (Km rfl (Ka rfl (Nt (Ce ?_)))))
  exact R1 rfl rfl (by rw [← hgx, ok_canon hx]; rfl)
def fromZ (a : Bs) : Zs := if okN a then (false, a) else (false, [])
theorem fromZ_ok {a : Bs} (h : okN a) : fromZ a = (false, a) := if_pos h
theorem zfrom_c {a : Bs} {w : World} :
  Cw 30 #[.string (S a)] w (zV (fromZ a)) := by
 refine En [] [(0, .string (S a))] Tryz.func30 rfl Tryz.ntmps30 rfl (Ac rfl (An _)) Fn ?_
 refine Cs ?_
 refine Kh rfl (Oz [.bool false, .string (S [])] rfl) ?_
 intro b2
 refine Nt (Cq (Cs (Km rfl ?_)))
 refine Ku rfl (Oc rfl rfl (Kv fun w hS => valid_c)) ?_
 refine Kq rfl (Rt rfl rfl) (Nt ?_)
 refine Cd rfl (fun hc5 => ?_) (fun hc5 => ?_)
 ·(try simp only [sB] at hc5)
  refine Cs (Kq rfl (Kb [[.bool false], [.string (S [])]] rfl rfl) ?_)
  refine Nu rfl rfl (Sa rfl rfl rfl .tc) ?_
  refine Nt (Ce (Xb ?_))
  exact Rn rfl (.agg rfl .tc u61 rfl (by kernel_rfl) .nil) fun w' hS => ⟨by rw [fromZ, if_neg (by simpa using hc5)]; rfl, hS.below⟩
 ·(try simp only [sB] at hc5)
  refine Ck (Xa (Cs (Km rfl ?_)))
  refine Ku rfl (Oc rfl rfl (Kv fun w hS => made_c (n := false) (a := a))) ?_
  refine Nu rfl rfl (Sa rfl rfl rfl .tc) ?_
  refine Nt (Ce ?_)
  exact Rn rfl (.agg rfl .tc u61 rfl (by kernel_rfl) .nil) fun w' hS => ⟨by rw [fromZ, if_pos (by simpa using hc5)]; rfl, hS.below⟩
def mulZ (x y : Zs) : Zs × Int := if okZ x ∧ okZ y then (mkZ (x.1 != y.1) (mulN x.2 y.2).1, (mulN x.2 y.2).2) else ((false, []), 3)
theorem zmul_c {x y : Zs} {w : World} :
  Cw 71 #[zV x, zV y] w (ZE (mulZ x y)) := by
 refine En [] [(0, zV x), (1, zV y)] Tryz.func71 rfl Tryz.ntmps71 rfl (Ac rfl (Ac rfl (An _))) Fn ?_
 refine Cs ?_
 refine Kh rfl (Oy rfl rfl) ?_
 intro b2
 refine Kh rfl (Oy rfl rfl) ?_
 intro b3
 refine Kh rfl (Oz [.bool false, .string (S [])] rfl) ?_
 intro b4
 refine Ka rfl (Nt (Cq (Cs ?_)))
 refine Kq rfl (lda rfl rfl .tc u61 rfl ?_) ?_
 ·kernel_rfl
 refine Kq rfl (lda rfl rfl .tc u61 rfl ?_) ?_
 ·kernel_rfl
 refine Ku rfl (Oc rfl rfl (Kv fun w hS => both_c (x := x) (y := y))) ?_
 refine Kq rfl (Rt rfl rfl) (Nt ?_)
 refine Cd rfl (fun hc11 => ?_) (fun hc11 => ?_)
 ·(try simp only [sB] at hc11)
  have hr : mulZ x y = ((false, []), 3) := by rw [mulZ, if_neg (by simpa using hc11)]
  refine Cs (Kq rfl (Kb [[.bool false], [.string (S [])]] rfl rfl) ?_)
  refine Nu rfl rfl (Sa rfl rfl rfl .tc) ?_
  refine Ka rfl (Nt (Ce (Xb ?_)))
  exact Rn rfl (.agg rfl .tc u61 rfl (by kernel_rfl) (.tmp rfl .nil)) fun w' hS => ⟨by rw [hr]; rfl, hS.below⟩
 ·(try simp only [sB] at hc11)
  have hr : mulZ x y = (mkZ (x.1 != y.1) (mulN x.2 y.2).1, (mulN x.2 y.2).2) := by rw [mulZ, if_pos (by simpa using hc11)]
  refine Ck (Xa (Cs (Kq rfl (Fa (q := 1) rfl rfl u61 rfl rfl) (Kq rfl (Ld rfl rfl .tc u22) ?_))))
  refine Kq rfl (Fa (q := 1) rfl rfl u61 rfl rfl) (Kq rfl (Ld rfl rfl .tc u22) ?_)
  refine Ku rfl (Oc rfl rfl (Kv fun w hS => mul_c (a := x.2) (b := y.2))) ?_
  refine Km rfl (Kq rfl (Re rfl rfl rfl) (Kq rfl (Re rfl rfl rfl) (Ka rfl (Ka rfl (Nt (Cs (Kq rfl (Fa (q := 0) rfl rfl u61 rfl rfl) (Kq rfl (Ld rfl rfl .tc u4) ?_))))))))
  refine Kq rfl (Fa (q := 0) rfl rfl u61 rfl rfl) (Kq rfl (Ld rfl rfl .tc u4) ?_)
  refine Kq rfl (rd_bne rfl rfl rfl u4) (Km rfl ?_)
  refine Ku rfl (Oc rfl rfl (Kv fun w hS => made_c (n := x.1 != y.1) (a := (mulN x.2 y.2).1))) ?_
  refine Km rfl ?_
  refine Nu rfl rfl (Sa rfl rfl rfl .tc) ?_
  refine Ka rfl (Nt (Ce ?_))
  exact Rn rfl (.agg rfl .tc u61 rfl (by kernel_rfl) (.tmp rfl .nil)) fun w' hS => ⟨by rw [hr]; rfl, hS.below⟩
theorem divN_ok {a b : Bs} (ha : okN a) (hb : okN b) (h0 : b ≠ []) : divN a b = ((canon (val a / val b), canon (val a % val b)), 0) := by rw [divN, if_pos ⟨ha, hb⟩, if_neg h0]
end Go.Proofs.YtddoigmffkmpcaaGreatDoor
namespace Go.Proofs.YtddoigmffkmpcaaGreatDoor
set_option linter.unusedSimpArgs false
set_option linter.unusedVariables false
set_option maxRecDepth 20000
theorem mml (a b m : Nat) : a % m * b % m = a * b % m := Nat.mod_mul_mod a b m
theorem mmr (a b m : Nat) : a * (b % m) % m = a * b % m := Nat.mul_mod_mod a b m
def invN (a m : Nat) : Nat := ((List.range m).find? fun x => a * x % m == 1 % m).getD 0
theorem inv_uni {a x y m : Nat} (hx : x < m) (hy : y < m) (h1 : a * x % m = 1 % m) (h2 : a * y % m = 1 % m) : x = y := by
 have e1 : x * (a * y) % m = x := by rw [← mmr, h2, mmr, Nat.mul_one, Nat.mod_eq_of_lt hx]
 have e2 : y * (a * x) % m = y := by rw [← mmr, h1, mmr, Nat.mul_one, Nat.mod_eq_of_lt hy]
 rw [show x * (a * y) = y * (a * x) by simp only [Nat.mul_comm, Nat.mul_left_comm]] at e1
 exact e1.symm.trans e2
theorem invN_eq {a m x : Nat} (hx : x < m) (h : a * x % m = 1 % m) : invN a m = x := by
 rw [invN]
 cases hf : (List.range m).find? fun x => a * x % m == 1 % m with
 | none =>
  exfalso
  have := List.find?_eq_none.1 hf x (List.mem_range.2 hx)
  simp [h] at this
 | some y =>
  have h1 := List.find?_some hf
  have h2 := List.mem_range.1 (List.mem_of_find?_eq_some hf)
  exact inv_uni h2 hx (by simpa using h1) h
theorem invN_mod (a m : Nat) : invN (a % m) m = invN a m := by
 rw [invN, invN]; congr 2; funext x; rw [mml]
theorem invN_lt (a : Nat) {m : Nat} (hm : 0 < m) : invN a m < m := by
 rw [invN]
 cases hf : (List.range m).find? fun x => a * x % m == 1 % m with
 | none => exact hm
 | some y => exact List.mem_range.1 (List.mem_of_find?_eq_some hf)
theorem invN_spec {a m x : Nat} (hm : 0 < m) (h : a * x % m = 1 % m) : a * invN a m % m = 1 % m := by
 rw [invN_eq (x := x % m) (Nat.mod_lt _ hm) (by rw [mmr]; exact h), mmr, h]
theorem unit_gcd {a m x : Nat} (h : a * x % m = 1 % m) : Nat.gcd a m = 1 := by
 have h1 : Nat.gcd a m ∣ a * x % m := (Nat.dvd_mod_iff (Nat.gcd_dvd_right a m)).2 (Nat.dvd_trans (Nat.gcd_dvd_left a m) (Nat.dvd_mul_right a x))
 rw [h] at h1
 exact Nat.dvd_one.1 ((Nat.dvd_mod_iff (Nat.gcd_dvd_right a m)).1 h1)
theorem gcd_unit {a m : Nat} (hm : 0 < m) (h : Nat.gcd a m = 1) : ∃ x, a * x % m = 1 % m := by
 -- by the extended algorithm of Euclid
 have key : ∀ (n r0 r1 : Nat) (x0 x1 y0 y1 : Int), r1 ≤ n → Euc a m r0 r1 x0 x1 y0 y1 → ∃ x y : Int, (a : Int) * x + m * y = Nat.gcd a m := by
  intro n
  induction n with
  | zero => intro r0 r1 x0 x1 y0 y1 hn e; exact ⟨x0, y0, by rw [e.e0, ← e.gc, show r1 = 0 by omega, Nat.gcd_zero_right]⟩
  | succ n ih =>
   intro r0 r1 x0 x1 y0 y1 hn e
   rcases Nat.eq_zero_or_pos r1 with h0 | h0
   ·exact ⟨x0, y0, by rw [e.e0, ← e.gc, h0, Nat.gcd_zero_right]⟩
   ·exact ih _ _ _ _ _ _ (by have := Nat.mod_lt r0 h0; omega) (euc_step e h0)
 obtain ⟨x, y, hxy⟩ := key m a m 1 0 0 1 (Nat.le_refl _) (euc_start a m)
 rw [h] at hxy
 refine ⟨(x % m).toNat, ?_⟩
 have hm' : (m : Int) ≠ 0 := by omega
 have h1 : ((x % m).toNat : Int) = x % m := Int.toNat_of_nonneg (Int.emod_nonneg _ hm')
 apply Int.ofNat_inj.1
 rw [Int.natCast_emod, Int.natCast_mul, h1, Int.natCast_emod, Int.mul_emod, Int.emod_emod_of_dvd _ (Int.dvd_refl _), ← Int.mul_emod]
 have e : (a : Int) * x = 1 + m * (-y) := by rw [Int.mul_neg]; omega
 rw [e, Int.add_mul_emod_self_left]; rfl
theorem pow_mod2 (a e m : Nat) : (a % m) ^ e % m = a ^ e % m := (Nat.pow_mod a e m).symm
theorem exp_step0 {a e i m : Nat} (h : e / 2 ^ i % 2 = 0) : a ^ (e / 2 ^ (i + 1)) % m * (a ^ (e / 2 ^ (i + 1)) % m) % m = a ^ (e / 2 ^ i) % m := by
 rw [mml, mmr, ← Nat.pow_add]; congr 2; rw [Nat.pow_succ, ← Nat.div_div_eq_div_mul]; omega
theorem exp_step1 {a e i m : Nat} (h : e / 2 ^ i % 2 = 1) : a ^ (e / 2 ^ (i + 1)) % m * (a ^ (e / 2 ^ (i + 1)) % m) % m * a % m = a ^ (e / 2 ^ i) % m := by
 rw [← Nat.mul_mod, mml, ← Nat.pow_add, ← Nat.pow_succ]; congr 2; rw [Nat.pow_succ, ← Nat.div_div_eq_div_mul]; omega
def powI (m x : Nat) (e : Int) : Nat := (if e < 0 then invN x m else x) ^ e.natAbs % m
def prodL {α : Type} (f : α → Nat) : List α → Nat
 | [] => 1
 | x :: l => f x * prodL f l
theorem prodL_append {α : Type} (f : α → Nat) : ∀ a b : List α, prodL f (a ++ b) = prodL f a * prodL f b
 | [], b => by simp [prodL]
 | x :: a, b => by rw [List.cons_append, prodL, prodL, prodL_append f a b, Nat.mul_assoc]
theorem prodL_mod {α : Type} (f g : α → Nat) (m : Nat) : ∀ l : List α, (∀ x ∈ l, f x % m = g x % m) → prodL f l % m = prodL g l % m
 | [], _ => rfl
 | x :: l, h => by
  rw [prodL, prodL, Nat.mul_mod, h x (.head _), prodL_mod f g m l (fun y hy => h y (.tail _ hy)), ← Nat.mul_mod]
theorem prodL_mul {α : Type} (f g : α → Nat) : ∀ l : List α, prodL (fun x => f x * g x) l = prodL f l * prodL g l
 | [] => rfl
 | x :: l => by rw [prodL, prodL, prodL, prodL_mul f g l]; simp only [Nat.mul_comm, Nat.mul_left_comm, Nat.mul_assoc]
theorem prodL_one {α : Type} (f : α → Nat) (l : List α) (h : ∀ x ∈ l, f x = 1) : prodL f l = 1 := by
 induction l with
 | nil => rfl
 | cons x l ih => rw [prodL, h x (.head _), ih fun y hy => h y (.tail _ hy)]
def atBit (i : Nat) (p : Nat × Nat) : Nat := p.1 ^ (p.2 / 2 ^ i)
theorem prod_bit (m i : Nat) (l : List (Nat × Nat)) : prodL (atBit (i + 1)) l % m * (prodL (atBit (i + 1)) l % m) % m * prodL (fun p => if p.2 / 2 ^ i % 2 = 1 then p.1 else 1) l % m = prodL (atBit i) l % m := by
 rw [← Nat.mul_mod, mml, ← prodL_mul, ← prodL_mul]
 apply prodL_mod
 intro p _
 congr 1
 simp only [atBit]
 have e : p.2 / 2 ^ (i + 1) = p.2 / 2 ^ i / 2 := by rw [Nat.pow_succ, Nat.div_div_eq_div_mul]
 rw [e, ← Nat.pow_add]
 generalize p.2 / 2 ^ i = k
 split
 ·rw [← Nat.pow_succ]; congr 1; omega
 ·rw [Nat.mul_one]; congr 1; omega
end Go.Proofs.YtddoigmffkmpcaaGreatDoor
namespace Go.Proofs.YtddoigmffkmpcaaGreatDoor
open Go.RowKit
set_option linter.unusedSimpArgs false
set_option linter.unusedVariables false
set_option maxHeartbeats 600000
set_option maxRecDepth 20000
theorem fromZ_of {n : Nat} (h : n < Big) : fromZ (canon n) = ofZ n := by rw [fromZ_ok (okN_can h), ofZ_nat]
theorem mulN_of {a b : Nat} (ha : a < Big) (hb : b < Big) : mulN (canon a) (canon b) = if a * b < Big then (canon (a * b), 0) else ([], 5) := by rw [mulN, if_pos ⟨okN_can ha, okN_can hb⟩, val_canon, val_canon]
theorem mulZ_of {a b : Int} (ha : a.natAbs < Big) (hb : b.natAbs < Big) (h : (a * b).natAbs < Big) : mulZ (ofZ a) (ofZ b) = (ofZ (a * b), 0) := by
 rw [mulZ, if_pos ⟨okZ_ofZ.2 ha, okZ_ofZ.2 hb⟩]
 rw [ofZ_eq a, ofZ_eq b]
 simp only
 rw [mulN_of ha hb, ← Int.natAbs_mul, if_pos h]
 show (mkZ _ (canon (a * b).natAbs), (0 : Int)) = _
 rw [mkZ_of]
 congr 2
 rw [Int.natAbs_mul]
 by_cases h1 : a < 0 <;> by_cases h2 : b < 0
 ·rw [decide_eq_true h1, decide_eq_true h2]
  obtain ⟨m, rfl⟩ : ∃ m : Nat, a = -(m : Int) := ⟨a.natAbs, by omega⟩
  obtain ⟨n, rfl⟩ : ∃ n : Nat, b = -(n : Int) := ⟨b.natAbs, by omega⟩
  simp [Int.neg_mul, Int.mul_neg]
 ·rw [decide_eq_true h1, decide_eq_false h2]
  obtain ⟨m, rfl⟩ : ∃ m : Nat, a = -(m : Int) := ⟨a.natAbs, by omega⟩
  obtain ⟨n, rfl⟩ : ∃ n : Nat, b = (n : Int) := ⟨b.natAbs, by omega⟩
  simp [Int.neg_mul, Int.mul_neg]
 ·rw [decide_eq_false h1, decide_eq_true h2]
  obtain ⟨m, rfl⟩ : ∃ m : Nat, a = (m : Int) := ⟨a.natAbs, by omega⟩
  obtain ⟨n, rfl⟩ : ∃ n : Nat, b = -(n : Int) := ⟨b.natAbs, by omega⟩
  simp [Int.neg_mul, Int.mul_neg]
 ·rw [decide_eq_false h1, decide_eq_false h2]
  obtain ⟨m, rfl⟩ : ∃ m : Nat, a = (m : Int) := ⟨a.natAbs, by omega⟩
  obtain ⟨n, rfl⟩ : ∃ n : Nat, b = (n : Int) := ⟨b.natAbs, by omega⟩
  simp [Int.neg_mul, Int.mul_neg]
theorem subZ_ok {a b : Int} (ha : a.natAbs < Big) (hb : b.natAbs < Big) (h : (a - b).natAbs < Big) : subZ (ofZ a) (ofZ b) = (ofZ (a - b), 0) := by rw [subZ_of ha hb, if_pos h]
theorem divN_of {a b : Nat} (ha : a < Big) (hb : b < Big) (h0 : 0 < b) : divN (canon a) (canon b) = ((canon (a / b), canon (a % b)), 0) := by
 rw [divN_ok (okN_can ha) (okN_can hb) (by rw [ne_eq, canon_nil]; omega), val_canon, val_canon]
end Go.Proofs.YtddoigmffkmpcaaGreatDoor
