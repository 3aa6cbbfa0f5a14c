/-
  Parts of the walk: Div Ntl6 Ntl7 Int2 Mod Int3.
-/
import Derived.Test.YtchonigdjamphaaGreatDoorQ8
namespace Go.Proofs.YtchonigdjamphaaGreatDoor
set_option linter.unusedSimpArgs false
set_option linter.unusedVariables false
set_option maxRecDepth 20000
def bD (X n : Nat) : List Nat := (List.range n).map fun i => X / 256 ^ i % 256
theorem bC (X n : Nat) : (bD X n).length = n := by simp [bD]
theorem mL (X n : Nat) : bD X (n + 1) = bD X n ++ [X / 256 ^ n % 256] := by simp [bD, List.range_succ]
theorem gU (X n : Nat) : ∀ x ∈ bD X n, x < 256 := by
 intro x hx
 obtain ⟨i, _, rfl⟩ := Ch.1 hx
 exact Aq _ (by decide)
theorem nZ (X : Nat) : ∀ n, ev 256 (bD X n) = X % 256 ^ n
 | 0 => by simp [bD, ev, Nat.mod_one]
 | n + 1 => by rw [mL, fb, bC, nZ X n, Nat.mod_pow_succ]; simp [ev]
theorem jb (X n k : Nat) (h : k < n) : (bD X k ++ List.replicate (n - k) 0).set k (X / 256 ^ k % 256) = bD X (k + 1) ++ List.replicate (n - (k + 1)) 0 := by
 rw [Do _ _ (by rw [bC]; exact Ba _), bC, Df, show n - k = (n - (k + 1)) + 1 by omega, D8, Bf, mL, Cr]; rfl
theorem vB (X n i : Nat) (h : i < n) : (bD X n).getD i 0 = X / 256 ^ i % 256 := by
 rw [List.getD_eq_getElem?_getD, bD, A4, Db h]; rfl
theorem eU {s : Nat} (h : s < 8) : s = 0 ∨ s = 1 ∨ s = 2 ∨ s = 3 ∨ s = 4 ∨ s = 5 ∨ s = 6 ∨ s = 7 := by omega
theorem l9 (A s : Nat) : A * 2 ^ s / 256 ^ 0 % 256 = A / 256 ^ 0 % 256 * 2 ^ s % 256 := by
 rw [C6, Dy, Dy, Dx (A % 256), Nat.mod_mod, ← Dx]
theorem oF (A s i : Nat) (h : s < 8) : A * 2 ^ s / 256 ^ (i + 1) % 256 = A / 256 ^ (i + 1) % 256 * 2 ^ s % 256 + A / 256 ^ i % 256 / 2 ^ (8 - s) := by
 have e1 : A * 2 ^ s / 256 ^ (i + 1) = A / 256 ^ i / 2 ^ (8 - s) := by
  rw [A6, show 256 ^ (i + 1) = 256 ^ i * 2 ^ (8 - s) * 2 ^ s from by
   rw [A1, ← Bj, show 8 - s + s = 8 by omega, A0], Nat.mul_div_mul_right _ _ (C5 s)]
 have e2 : A / 256 ^ (i + 1) = A / 256 ^ i / 256 := by rw [A0, A6]
 rw [e1, e2]
 generalize A / 256 ^ i = B
 rcases eU h with rfl | rfl | rfl | rfl | rfl | rfl | rfl | rfl <;> omega
theorem oE (A s i : Nat) (h : s < 8) : A / 256 ^ i % 256 / 2 ^ (8 - s) < 2 ^ s ∧ A / 256 ^ (i + 1) % 256 * 2 ^ s % 256 % 2 ^ s = 0 ∧ A / 256 ^ (i + 1) % 256 * 2 ^ s < 65536 := by
 have hx : A / 256 ^ i % 256 < 256 := Aq _ (by decide)
 have hy : A / 256 ^ (i + 1) % 256 < 256 := Aq _ (by decide)
 generalize A / 256 ^ i % 256 = x at *
 generalize A / 256 ^ (i + 1) % 256 = y at *
 rcases eU h with rfl | rfl | rfl | rfl | rfl | rfl | rfl | rfl <;> exact ⟨by omega, by omega, by omega⟩
structure lP (L X D n t : Nat) (r : List Nat) (Q : Nat) : Prop where
 len : r.length = L
 dig : ∀ x ∈ r, x < 256
 sum : X = Q * D + ev 256 (r.take (t + n))
 lt : ev 256 (r.take (t + n)) < 256 ^ t * D
 dvd : Q % 256 ^ t = 0
theorem sL {L X D n t : Nat} (hL : L = t + n) (hX : X < 256 ^ t * D) (hX2 : X < 256 ^ L) : lP L X D n t (bD X L) 0 := by
 have e : ev 256 ((bD X L).take (t + n)) = X := by
  rw [A7 (by rw [bC]; omega), nZ, Am hX2]
 exact ⟨bC X L, gU X L, by rw [e]; omega, by rw [e]; exact hX, by simp⟩
theorem vy {L X D n j Q g : Nat} {r r1 : List Nat} {top : Int} (h : lP L X D n (j + 1) r Q) (hD : D < 256 ^ n) (hL : j + n < L) (hlen : r1.length = L) (hdig : ∀ x ∈ r1, x < 256)
  (hsum : (ev 256 (r1.take (j + n)) : Int) + ((256 ^ (j + n) : Nat) : Int) * top + ((256 ^ j * g * D : Nat) : Int) = ev 256 (r.take (j + 1 + n))) (htop : 0 ≤ top) (hg : ev 256 (r.take (j + 1 + n)) / (256 ^ j * D) ≤ g) :
  top = 0 ∧ lP L X D n j (r1.set (j + n) 0) (Q + g * 256 ^ j) := by
 obtain ⟨tp, rfl⟩ : ∃ k : Nat, top = (k : Int) := ⟨top.toNat, by omega⟩
 have hs : ev 256 (r1.take (j + n)) + 256 ^ (j + n) * tp + 256 ^ j * g * D = ev 256 (r.take (j + 1 + n)) := by
  apply Int.ofNat_inj.1
  rw [Dd, Dd, C0]; exact hsum
 obtain ⟨W, hW⟩ : ∃ W, W = ev 256 (r.take (j + 1 + n)) := ⟨_, rfl⟩
 obtain ⟨E, hE⟩ : ∃ E, E = ev 256 (r1.take (j + n)) := ⟨_, rfl⟩
 rw [← hW] at hs hg
 rw [← hE] at hs
 have hlt := h.lt
 rw [← hW] at hlt
 have hDp : 0 < D := by
  rcases Bw D with e | e
  ·rw [e] at hlt; omega
  ·exact e
 obtain ⟨V, hV⟩ : ∃ V, V = 256 ^ j * D := ⟨_, rfl⟩
 have hVp : 0 < V := by rw [hV]; exact Nat.mul_pos (Cm (by decide)) hDp
 have e1 : 256 ^ j * g * D = g * V := by rw [hV, Ao (256 ^ j) g, A1]
 rw [← hV] at hg
 rw [e1] at hs
 have hgq : g = W / V := Nat.le_antisymm ((Nat.le_div_iff_mul_le hVp).2 (by omega)) hg
 have hT : E + 256 ^ (j + n) * tp = W % V := by
  have := Bl W V
  rw [Ao V, ← hgq] at this; omega
 have hTl := Aq W hVp
 have hVl : V < 256 ^ (j + n) := by rw [hV, Bj]; exact Nat.mul_lt_mul_of_pos_left hD (Cm (by decide))
 have htp : tp = 0 := by
  rcases Bw tp with e | e
  ·exact e
  ·have : 256 ^ (j + n) * 1 ≤ 256 ^ (j + n) * tp := Ca _ e; omega
 subst htp
 have hEV : E = W % V := by omega
 have hE2 : ev 256 ((r1.set (j + n) 0).take (j + n)) = E := by rw [eG r1 _ _ _ (Ba _), hE]
 refine ⟨rfl, by rw [Dc]; exact hlen, pA 256 r1 hdig _ 0 (by decide), ?_, ?_, ?_⟩
 ·rw [hE2, h.sum, ← hW, Bk]
  have : g * 256 ^ j * D = g * V := by rw [hV, A1]
  omega
 ·rw [hE2, ← hV]; omega
 ·have h1 := h.dvd
  obtain ⟨q, hq⟩ := Nat.dvd_of_mod_eq_zero h1
  rw [hq, A0, A1, Ao g, ← Bn]; exact Nat.mul_mod_right _ _
theorem vz {W A D E P g : Nat} {top : Int} (hsum : (E : Int) + (P : Int) * top + ((A * g * D : Nat) : Int) = W) (hE : E < P) (ht : top < 0) : W < g * (A * D) := by
 have h1 : (P : Int) * top ≤ (P : Int) * (-1) := Int.mul_le_mul_of_nonneg_left (by omega) (by omega)
 have e : A * g * D = g * (A * D) := by rw [Ao A g, A1]
 rw [e] at hsum
 omega
theorem yn {m g n D cy bw : Nat} {r d r2 : List Nat} (h : lN 256 m g r d n r2 cy bw) (hd : ev 256 (d.take n) = D) (hl : m + n < r.length) :
  (ev 256 (r2.take (m + n)) : Int) + ((256 ^ (m + n) : Nat) : Int) * ((r2.getD (m + n) 0 : Nat) - (cy : Int) - bw) + ((256 ^ m * g * D : Nat) : Int) = ev 256 (r.take (m + 1 + n)) := by
 have h1 := h.sum
 have h2 := fH h.high
 rw [hd] at h1
 rw [show m + 1 + n = m + n + 1 by omega, br 256 r (m + n) hl, ← h2]
 generalize 256 ^ (m + n) = P at *
 generalize 256 ^ m * g * D = G at *
 generalize r2.getD (m + n) 0 = x at *
 generalize ev 256 (r2.take (m + n)) = E at *
 generalize ev 256 (r.take (m + n)) = F at *
 have e : (P : Int) * ((x : Int) - cy - bw) = ((P * x : Nat) : Int) - ((P * (cy + bw) : Nat) : Int) := by
  rw [C0, C0, Dd, Int.mul_sub, Int.mul_sub, Int.mul_add]; omega
 rw [e]; omega
theorem vA {m g n D c : Nat} {W : Nat} {top : Int} {r3 d r4 : List Nat} (h : lQ 256 m r3 d n r4 c) (hd : ev 256 (d.take n) = D) (hg : 1 ≤ g)
  (hs : (ev 256 (r3.take (m + n)) : Int) + ((256 ^ (m + n) : Nat) : Int) * top + ((256 ^ m * g * D : Nat) : Int) = W) :
  (ev 256 (r4.take (m + n)) : Int) + ((256 ^ (m + n) : Nat) : Int) * (top + c) + ((256 ^ m * (g - 1) * D : Nat) : Int) = W := by
 have h1 := h.sum
 rw [hd] at h1
 have e1 : 256 ^ m * g * D = 256 ^ m * (g - 1) * D + 256 ^ m * D := by
  obtain ⟨k, rfl⟩ : ∃ k, g = k + 1 := ⟨g - 1, by omega⟩
  rw [Nat.add_sub_cancel, Bn, As, Bk]
 rw [e1] at hs
 rw [Int.mul_add]
 generalize 256 ^ (m + n) = P at *
 generalize 256 ^ m * (g - 1) * D = G at *
 generalize 256 ^ m * D = G' at *
 have e : (P : Int) * (c : Int) = ((P * c : Nat) : Int) := by rw [C0]
 rw [e]; omega
theorem jO : ∀ (k x i : Nat), i < k → (be k x)[i]? = some (UInt8.ofNat (x / 256 ^ (k - 1 - i)))
 | 0, x, i, h => by omega
 | k + 1, x, 0, h => by rw [be, Dr]; rfl
 | k + 1, x, i + 1, h => by rw [be, C8, jO k x i (by omega), show k + 1 - 1 - (i + 1) = k - 1 - i by omega]
theorem j7 {x y : Nat} (h : x % 256 = y % 256) : UInt8.ofNat x = UInt8.ofNat y := UInt8.toNat.inj (by rw [UInt8.toNat_ofNat', UInt8.toNat_ofNat']; exact h)
theorem CI (L m Q g : Nat) (hm : m < L) (hg : g < 256) (hQ : Q % 256 ^ (m + 1) = 0) : (be L Q).set (L - 1 - m) (UInt8.ofNat g) = be L (Q + g * 256 ^ m) := by
 obtain ⟨q, rfl⟩ := Nat.dvd_of_mod_eq_zero hQ
 apply Ef
 intro i
 rcases Cc i L with h | h
 ·rw [jO L _ i h]
  by_cases e : L - 1 - m = i
  ·subst e; rw [Dk (by rw [aQ]; omega), show L - 1 - (L - 1 - m) = m by omega]; congr 1; apply j7; rw [A0, A1, Ao g, ← Bn, Dq _ (Cm (by decide))]; omega
  ·rw [Dp e, jO L _ i h]; congr 1; apply j7; obtain ⟨t, ht⟩ : ∃ t, t = L - 1 - i := ⟨_, rfl⟩; rw [← ht]
   rcases Cc t m with h1 | h1
   ·have e1 : 256 ^ (m + 1) * q = 256 ^ t * (256 * (256 ^ (m - t) * q)) := by
     rw [show m + 1 = t + (1 + (m - t)) by omega, Bj, Bj]; simp only [A1, Nat.pow_one]
    have e2 : g * 256 ^ m = 256 ^ t * (256 * (256 ^ (m - t - 1) * g)) := by
     rw [show m = t + (1 + (m - t - 1)) by omega, Bj, Bj, show t + (1 + (m - t - 1)) - t - 1 = m - t - 1 by omega]; simp only [Ao, A1, Bq, Nat.pow_one]
    rw [e1, e2, ← Bn, Dq _ (Cm (by decide)), Dq _ (Cm (by decide))]; omega
   ·obtain ⟨u, rfl⟩ : ∃ u, t = m + 1 + u := ⟨t - (m + 1), by omega⟩; congr 1
    rw [Bj 256 (m + 1) u, ← A6, ← A6, Dq _ (Cm (by decide)), Cj (Cm (by decide)), Bo (a := g * 256 ^ m) (by
     rw [A0, Ao]; exact Nat.mul_lt_mul_of_pos_left hg (Cm (by decide))), Bd]
 ·rw [Dw (by rw [Dc, aQ]; exact h), Dw (by rw [aQ]; exact h)]
theorem CJ (L m Q k : Nat) (hm : m < L) (hk : Q / 256 ^ m % 256 + k < 256) : (be L Q).set (L - 1 - m) (UInt8.ofNat (Q / 256 ^ m % 256 + k)) = be L (Q + k * 256 ^ m) := by
 apply Ef
 intro i
 have hdv : (Q + k * 256 ^ m) / 256 ^ m = Q / 256 ^ m + k := by rw [Ao, Nat.add_mul_div_left _ _ (Cm (by decide))]
 rcases Cc i L with h | h
 ·rw [jO L _ i h]
  by_cases e : L - 1 - m = i
  ·subst e; rw [Dk (by rw [aQ]; omega), show L - 1 - (L - 1 - m) = m by omega, hdv]; congr 1; apply j7; omega
  ·rw [Dp e, jO L _ i h]; congr 1; apply j7; obtain ⟨t, ht⟩ : ∃ t, t = L - 1 - i := ⟨_, rfl⟩; rw [← ht]
   rcases Cc t m with h1 | h1
   ·have e2 : k * 256 ^ m = 256 ^ t * (256 * (256 ^ (m - t - 1) * k)) := by
     rw [show m = t + (1 + (m - t - 1)) by omega, Bj, Bj, show t + (1 + (m - t - 1)) - t - 1 = m - t - 1 by omega]; simp only [Ao, A1, Bq, Nat.pow_one]
    rw [e2, Nat.add_mul_div_left _ _ (Cm (by decide)), Nat.add_mul_mod_self_left]
   ·obtain ⟨u, rfl⟩ : ∃ u, t = m + 1 + u := ⟨t - (m + 1), by omega⟩; rw [Bj 256 (m + 1) u, A0, ← A6, ← A6, ← A6, ← A6, hdv]; rw [show (Q / 256 ^ m + k) / 256 = Q / 256 ^ m / 256 by omega]
 ·rw [Dw (by rw [Dc, aQ]; exact h), Dw (by rw [aQ]; exact h)]
theorem sc {A B t c : Nat} (hB : 0 < B) (hc : c = 2 * (A / 2 ^ (t + 1) % B) + A / 2 ^ t % 2) :
  (B ≤ c → A / 2 ^ t / B = 2 * (A / 2 ^ (t + 1) / B) + 1 ∧ A / 2 ^ t % B = c - B) ∧ (c < B → A / 2 ^ t / B = 2 * (A / 2 ^ (t + 1) / B) ∧ A / 2 ^ t % B = c) := by
 have h1 : A / 2 ^ (t + 1) = A / 2 ^ t / 2 := by rw [A0, A6]
 rw [h1] at hc ⊢
 generalize A / 2 ^ t = X at *
 have h2 := Bl (X / 2) B
 have h3 := Aq (X / 2) hB
 generalize X / 2 / B = u at *
 generalize X / 2 % B = R at *
 have hX : X = B * (2 * u) + c := by rw [Bq]; omega
 constructor
 ·intro h
  have hX2 : X = B * (2 * u + 1) + (c - B) := by rw [Bn]; omega
  rw [hX2]
  constructor
  ·rw [Cj hB, Bo (by omega), Bd]
  ·rw [Nat.mul_add_mod, Am (by omega)]
 ·intro h
  rw [hX]
  constructor
  ·rw [Cj hB, Bo h, Bd]
  ·rw [Nat.mul_add_mod, Am h]
theorem l6 (i : Nat) : 2 ^ i = 2 ^ (i % 8) * 256 ^ (i / 8) := by
 rw [show (256 : Nat) = 2 ^ 8 from rfl, ← Nat.pow_mul, ← Bj]; congr 1; omega
theorem pL (u t : Nat) : u * 2 ^ (t + 1) / 256 ^ (t / 8) % 256 + 2 ^ (t % 8) < 256 := by
 have e : u * 2 ^ (t + 1) = 256 ^ (t / 8) * (u * 2 ^ (t % 8 + 1)) := by
  rw [A0, l6 t, A0]; simp only [Ao, Bq, A1]
 rw [e, Dq _ (Cm (by decide))]
 have h : t % 8 < 8 := Aq _ (by decide)
 rcases eU h with h | h | h | h | h | h | h | h <;> rw [h] <;> omega
theorem pD (R s i : Nat) (h : s < 8) : R / 256 ^ i % 256 = (R * 2 ^ s / 256 ^ i % 256 + R * 2 ^ s / 256 ^ (i + 1) % 256 * 256) / 2 ^ s % 256 := by
 have e1 : R * 2 ^ s / 256 ^ i / 2 ^ s = R / 256 ^ i := by
  rw [A6, Ao (256 ^ i), ← A6, Nat.mul_div_cancel _ (C5 s)]
 rw [A0, ← A6, ← e1]
 generalize R * 2 ^ s / 256 ^ i = B
 rcases eU h with rfl | rfl | rfl | rfl | rfl | rfl | rfl | rfl <;> omega
theorem yo {L X D n Q : Nat} {r : List Nat} (h : lP L X D n 0 r Q) : Q = X / D ∧ ev 256 (r.take n) = X % D := by
 have h1 := h.sum; have h2 := h.lt
 rw [A3] at h1 h2
 rw [C6, Cn] at h2
 rw [h1]
 constructor
 ·rw [Ao, Cj (by omega), Bo h2, Bd]
 ·rw [Ao, Nat.mul_add_mod, Am h2]
end Go.Proofs.YtchonigdjamphaaGreatDoor
namespace Go.Proofs.YtchonigdjamphaaGreatDoor
open Go.RowKit
set_option linter.unusedSimpArgs false
set_option linter.unusedVariables false
set_option maxHeartbeats 600000
set_option maxRecDepth 20000
theorem yI : ∀ x, x < 256 → Lib.bitLen x ≤ 8 := by decide +kernel
theorem sW : ∀ x, x < 256 → (x + 1) * 2 ^ (8 - Lib.bitLen x) ≤ 256 := by decide +kernel
theorem sX : ∀ x, x < 256 → x * 2 ^ (8 - Lib.bitLen x) < 256 := by decide +kernel
theorem qe {x : Nat} (h : 0 < x) (h2 : x < 256) : 1 ≤ Lib.bitLen x := by rw [gC h (by omega)]; omega
theorem DN {c : UInt8} {w : World} :
  Cw 262 #[.int .u8 (c.toNat : Int)] w (.int .i64 ((8 - Lib.bitLen c.toNat : Nat) : Int)) := by
 have hc := c.toNat_lt
 have hb := yI c.toNat (by omega)
 refine En [] [(0, .int .u8 (c.toNat : Int))] Tryz.func262 I Tryz.ntmps262 I (Ac I (An _)) Fn (Cs (FN ?_)); refine Kc I (fun w hS => uI (x := c.toNat) (by assumption)) (Kq I (et I I I (by omega)) (le ?_))
 exact Iq
theorem wM {b : Bs} (h : Can b) (h0 : b ≠ []) : val b * 2 ^ (8 - Lib.bitLen (b.getD 0 default).toNat) < 256 ^ b.length := by
 cases b with
 | nil => exact absurd rfl h0
 | cons c s =>
  show (c.toNat * 256 ^ s.length + val s) * 2 ^ (8 - Lib.bitLen c.toNat) < 256 ^ (s.length + 1)
  have h1 := sX c.toNat c.toNat_lt
  have h2 := aG s
  have h3 : (c.toNat * 256 ^ s.length + val s) * 2 ^ (8 - Lib.bitLen c.toNat) < (c.toNat + 1) * 256 ^ s.length * 2 ^ (8 - Lib.bitLen c.toNat) :=
   Nat.mul_lt_mul_of_pos_right (by rw [Bk, Cn]; omega) (C5 _)
  have h4 : (c.toNat + 1) * 2 ^ (8 - Lib.bitLen c.toNat) ≤ 256 := sW c.toNat c.toNat_lt
  have h5 : (c.toNat + 1) * 256 ^ s.length * 2 ^ (8 - Lib.bitLen c.toNat) = (c.toNat + 1) * 2 ^ (8 - Lib.bitLen c.toNat) * 256 ^ s.length := by
   rw [A1, Ao (256 ^ s.length), ← A1]
  have h6 : (c.toNat + 1) * 2 ^ (8 - Lib.bitLen c.toNat) * 256 ^ s.length ≤ 256 * 256 ^ s.length := Bp _ h4
  rw [A0, Ao (256 ^ s.length)]; omega
theorem rC (n : Nat) : (be n 0).map B = List.replicate n (.int .u8 0) := by
 have h : be n 0 = List.replicate n 0 := by
  induction n with
  | zero => rfl
  | succ n ih => rw [be, ih]; simp [D8]
 rw [h, List.map_replicate]; rfl
theorem mK {a b : Bs} {w : World} (ha : okN a) (hb : okN b) (hb0 : b ≠ []) :
  Cw 212 #[.string (S a), .string (S b)] w (.tuple #[.string (S (ae (val a / val b))), .string (S (ae (val a % val b)))]) := by
 have hal := ha.1; have hbl := hb.1
 have hvb : 0 < val b := Dm fun h => hb0 ((aM hb.2).1 h)
 refine En [] [(0, .string (S a)), (1, .string (S b))] Tryz.func212 I Tryz.ntmps212 I (Ac I (Ac I (An _))) Fn (Cs (Ka I (FM ?_))); refine Km I (Kc I (fun w hS => jH (a := a) (b := b) (by exact ha.2) (by exact hb.2)) (F7 (fun hc32 => ?_) (fun hc32 => ?_)))
 ·have hlt : val a < val b := (aR _ _).1 hc32
  refine H7 ?_; refine le ?_; refine Xb ?_
  exact R2 I I I (by rw [Bo hlt, Am hlt, canon_zero, bT ha]; rfl)
 ·have hge : val b ≤ val a := Nat.not_lt.1 fun h => absurd ((aR _ _).2 h) (by omega)
  have hlen : b.length ≤ a.length := jg hb.2 ha.2 hge
  refine GO ?_; refine Yn I u22 (Ym I (Nt (Ci I (fun hc36 => ?_) (fun hc36 => ?_))))
  ·have hsa : bv a = (val a, true) := by rw [bv, Ae ⟨ha, by omega⟩]
   have hsb : bv b = (val b, true) := by rw [bv, Ae ⟨hb, by omega⟩]
   have hva8 : val a < 18446744073709551616 := eS (by omega); have hdv := Cz (val a) (val b); have hmd := Aq (val a) hvb; refine Cs (Km I (Kc I (fun w hS => (by have := fu (w := w) (a := a) (by omega); rw [hsa] at this; exact this)) (Fs ?_))); refine Cs (Km I (Kc I (fun w hS => (by have := fu (w := w) (a := b) (by omega); rw [hsb] at this; exact this)) (Fs ?_))); refine Cq (Cf [0, 1, 2, 3, 4, 5, 6, 7, 8, 9] [] [0, 0, 0, 1, 0, 0, 0, 1, 0, 0] (by kernel_rfl) (by kernel_rfl) I ?_); refine Ft ?_; refine Kj I (iH I I I ?_) ?_
   ·omega
   refine Jv I I I I I (fun ext => Oc I I (Kv fun w hS => fU (n := val a / val b) (by omega))) ?_; refine Ft ?_; refine Kj I (fB I I I ?_) ?_
   ·assumption
   refine Jv I I I I I (fun ext => Oc I I (Kv fun w hS => fU (n := val a % val b) (by omega))) ?_; refine GR ?_; refine GR ?_; refine WJ.nil ?_; refine Nt (Ce (Xb ?_)); exact IF
  ·obtain ⟨s, hs⟩ : ∃ s, s = 8 - Lib.bitLen (b.getD 0 default).toNat := ⟨_, rfl⟩; have hcb := (jh b).1 hb.2; have hbp : 0 < b.length := Di.2 hb0; have hs8 : s < 8 := by have := qe (x := (b.getD 0 default).toNat) (by omega) (b.getD 0 default).toNat_lt; omega
   have hfit := wM hb.2 hb0; rw [← hs] at hfit; obtain ⟨D, hD⟩ : ∃ D, D = val b * 2 ^ s := ⟨_, rfl⟩; rw [← hD] at hfit
   have hdg : ∀ (x k : Nat), x / 256 ^ k % 256 * 2 ^ s < 65536 := fun x k => by
    have h1 : x / 256 ^ k % 256 < 256 := Aq _ (by decide); generalize x / 256 ^ k % 256 = y at *
    rcases eU hs8 with rfl | rfl | rfl | rfl | rfl | rfl | rfl | rfl <;> omega
   have hdg2 : ∀ (x k : Nat), x / 256 ^ k % 256 < 256 := fun x k => Aq _ (by decide)
   refine Ck (Xa (Cs (Km I (Kq I (kU I I I u22 (by assumption)) ?_)))); refine Kc I (fun w hS => DN (c := b.getD 0 default)) (Ns 57 I (v' := .int .i64 ((s : Nat) : Int)) (congrArg (Value.int .i64) (by rw [hs])) ?_); refine Ka I (Nt (Cs (Km I (Yn I u22 (Ka I (Nt (Cs (Km I (Kh I (ed I I I dA (by kernel_rfl : _ = some (some (.int .i64 0), 1, 8)) I ?_ (by (try simp only [sN, Int.reduceToNat, Nat.reduceAdd, Nat.reduceMul, Nat.reduceSub]); rfl) (by (try simp only [sN, Int.reduceToNat, Nat.reduceAdd, Nat.reduceMul, Nat.reduceSub]); rfl)) ?_)))))))))
   ·omega
   intro b61; refine FM ?_; refine Km I (Nt (Cb (Lo (σ := Nat) [(0, _), (1, _), (10, _), (11, _), (12, _), (62, _)] (fun gq => [(63, .int .i64 (gq : Int))]) (fun gq => gq ≤ b.length) (fun gq => b.length - gq) (fun gq => [⟨some b61, cP (bD D gq ++ List.replicate (b.length - gq) 0), 3⟩]) (fun gq => []) (0) (S6 I I I I I I) (S1 I) (by (try dsimp only); omega) (by exact fun w h => by rw [show bD D 0 ++ List.replicate (b.length - 0) 0 = List.replicate b.length 0 from rfl, jc]; exact h) ?_))); rintro k hinv1; (try dsimp only at hinv1 ⊢); obtain hk := hinv1; refine ne (fun hc64 => ?_) (fun hc64 => ?_)
   ·have hd1 := hdg (val b) k; have hd2 := hdg2 (val b) k; have hll : (bD D k ++ List.replicate (b.length - k) 0).length = b.length := by rw [Al, bC, Eg]; omega
    refine Ck (Xa (WC.joinO (σ := Unit) [(0, _), (1, _), (10, _), (11, _), (12, _), (62, _), (63, _)] (fun gq => []) (fun gq => True) (fun gq => [⟨some b61, cP (bD D (k + 1) ++ List.replicate (b.length - (k + 1)) 0), 3⟩]) (fun gq => []) (S7 I I I I I I I) ?_ ?_))
    ·skip
     refine Cb (Cs (Km I (FN ?_))); refine Km I (Km I (H8 ?_)); refine Km I (Kq I (fA I I I (by (show _ ≤ 64; omega)) (by omega)) ?_); refine Kq I (dT 8 I I I (by decide) ?_) ?_
     ·omega
     refine F5 ?_; refine Ng I I (st I I I .tc (by kernel_rfl) I ?_ (by rfl)) ?_
     ·rw [dz, hll]; omega
     intro _; rw [dy]; refine Nt (Cs (Km I (Yg I (Nt (Ci I (fun hc76 => ?_) (fun hc76 => ?_))))))
     ·have hk1 : k - 1 + 1 = k := by omega
      have hsc := oF (val b) s (k - 1) hs8; have hsp := oE (val b) s (k - 1) hs8; rw [hk1] at hsc hsp; rw [← hD] at hsc; have hd3 := hdg2 (val b) (k - 1); refine Cf [4, 5, 6, 7, 0, 1, 2, 3, 8, 9, 10, 11, 12] [13] [0, 0, 0, 0, 0, 0, 0, 1, 0, 0, 0, 0, 0, 2] (by kernel_rfl) (by kernel_rfl) I ?_; refine Ft ?_; refine Kj I (aB I I I (by omega)) ?_; refine Jv I I I I I (fun ext => Oc I I (Kv fun w hS => dx (a := b) (i := k - 1) (by omega) (by omega))) ?_; refine Ft ?_; refine F4 ?_; refine Kj I (ld I I .tc u3 I (bq _ _ (by rw [Dc, hll]; omega))) ?_; refine WJ.set 80 I (v' := .int .i64 ((val b / 256 ^ k % 256 * 2 ^ s % 2 ^ 8 : Nat) : Int)) (congrArg (Value.int .i64) (by rw [eK _ _ _ (by rw [hll]; omega)])) ?_; refine GP ?_; refine Kj I (et I I I (by omega)) ?_; refine Kj I (bQ I I I (by (show _ ≤ 64; omega))) ?_; refine Kj I (kX s I I I ?_) ?_
      ·exact ⟨hsp.2.1, by omega, hsp.1, by omega⟩
      refine F4 ?_; refine WJ.nil ?_; refine Ng I I (st I I I .tc (by kernel_rfl) I ?_ (by rfl)) ?_
      ·rw [dz, Dc, hll]; omega
      intro _; rw [dy, List.set_set]; refine Nn (Xd (WX.joinO (()) (S7 I I I I I I I) (S0 _) ?_ (by exact fun w h => by rw [← jb D b.length k (by omega), hsc]; exact h))); (try dsimp only); done
     ·obtain rfl : k = 0 := by omega
      have hsc := l9 (val b) s; rw [← hD] at hsc; refine Ck (Xd (WX.joinO (()) (S7 I I I I I I I) (S0 _) ?_ (by exact fun w h => by rw [← jb D b.length 0 (by omega), hsc]; exact h))); (try dsimp only); done
    ·rintro _ hmeet; (try dsimp only at hmeet ⊢); refine Cg (Kq I (Rz I I I (by omega)) (Km I (Nn (Lx (k + 1) (by (try dsimp only); omega) (S6 I I I I I I) (by refine (Sc ?_ (S0 _)) <;> (rfl)) ?_ (fun _ h => h))))); (try dsimp only); omega
   ·refine Fq ?_; obtain rfl : k = b.length := by omega
    rw [show List.replicate (b.length - b.length) 0 = ([] : List Nat) by rw [Df]; rfl, A5]; obtain ⟨X, hX⟩ : ∃ X, X = val a * 2 ^ s := ⟨_, rfl⟩; refine Xa (Cs (Km I (Yn I u22 (HB ?_)))); refine Kh I (ed I I I dA (by kernel_rfl : _ = some (some (.int .i64 0), 1, 8)) I ?_ (by (try simp only [sN, Int.reduceToNat, Nat.reduceAdd, Nat.reduceMul, Nat.reduceSub]); rfl) (by (try simp only [sN, Int.reduceToNat, Nat.reduceAdd, Nat.reduceMul, Nat.reduceSub]); rfl)) ?_
    ·omega
    intro b94; refine FM ?_; refine Yo I dA (Km I (Nt (Cb (Lo (σ := Nat) [(0, _), (10, _), (11, _), (12, _), (14, _), (96, _)] (fun gq => [(97, .int .i64 (gq : Int))]) (fun gq => gq ≤ a.length + 1) (fun gq => a.length + 1 - gq) (fun gq => [⟨some b94, cP (bD X gq ++ List.replicate (a.length + 1 - gq) 0), 3⟩, ⟨some b61, cP (bD D b.length), 3⟩]) (fun gq => []) (0) (S6 I I I I I I) (S1 I) (by (try dsimp only); omega) (by exact fun w h => by rw [show bD X 0 ++ List.replicate (a.length + 1 - 0) 0 = List.replicate (a.length + 1) 0 from rfl, jc]; exact h) ?_)))); rintro k hinv2; (try dsimp only at hinv2 ⊢); obtain hk := hinv2; refine ne (fun hc98 => ?_) (fun hc98 => ?_)
    ·have hd1 := hdg (val a) k; have hd2 := hdg2 (val a) k; have hll : (bD X k ++ List.replicate (a.length + 1 - k) 0).length = a.length + 1 := by rw [Al, bC, Eg]; omega
     refine Ck (Xa (WC.joinO (σ := Unit) [(0, _), (10, _), (11, _), (12, _), (14, _), (96, _), (97, _)] (fun gq => []) (fun gq => True) (fun gq => [⟨some b94, cP (bD X (k + 1) ++ List.replicate (a.length + 1 - (k + 1)) 0), 3⟩, ⟨some b61, cP (bD D b.length), 3⟩]) (fun gq => []) (S7 I I I I I I I) ?_ ?_))
     ·skip
      refine Cb (Cs (Km I (FN ?_))); refine Km I (Km I (HX ?_)); refine Kq I (fA I I I (by (show _ ≤ 64; omega)) (by omega)) ?_; refine Kq I (dT 8 I I I (by decide) ?_) ?_
      ·omega
      refine F5 ?_; refine Ng I I (st I I I .tc (by kernel_rfl) I ?_ (by rfl)) ?_
      ·rw [dz, hll]; omega
      intro _; rw [dy]; refine Nt (Cs (Km I (Yg I (Nt (Ci I (fun hc110 => ?_) (fun hc110 => ?_))))))
      ·have hk1 : k - 1 + 1 = k := by omega
       have hsc := oF (val a) s (k - 1) hs8; have hsp := oE (val a) s (k - 1) hs8; rw [hk1] at hsc hsp; rw [← hX] at hsc; have hd3 := hdg2 (val a) (k - 1); refine Cf [4, 5, 6, 7, 0, 1, 2, 3, 8, 9, 10, 11, 12] [13] [0, 0, 0, 0, 0, 0, 0, 1, 0, 0, 0, 0, 0, 2] (by kernel_rfl) (by kernel_rfl) I ?_; refine Ft ?_; refine Kj I (aB I I I (by omega)) ?_; refine Jv I I I I I (fun ext => Oc I I (Kv fun w hS => dx (a := a) (i := k - 1) (by omega) (by omega))) ?_; refine Ft ?_; refine F4 ?_; refine Kj I (ld I I .tc u3 I (bq _ _ (by rw [Dc, hll]; omega))) ?_; refine WJ.set 114 I (v' := .int .i64 ((val a / 256 ^ k % 256 * 2 ^ s % 2 ^ 8 : Nat) : Int)) (congrArg (Value.int .i64) (by rw [eK _ _ _ (by rw [hll]; omega)])) ?_; refine GP ?_; refine Kj I (et I I I (by omega)) ?_; refine Kj I (bQ I I I (by (show _ ≤ 64; omega))) ?_; refine Kj I (kX s I I I ?_) ?_
       ·exact ⟨hsp.2.1, by omega, hsp.1, by omega⟩
       refine F4 ?_; refine WJ.nil ?_; refine Ng I I (st I I I .tc (by kernel_rfl) I ?_ (by rfl)) ?_
       ·rw [dz, Dc, hll]; omega
       intro _; rw [dy, List.set_set]; refine Nn (Xd (WX.joinO (()) (S7 I I I I I I I) (S0 _) ?_ (by exact fun w h => by rw [← jb X (a.length + 1) k (by omega), hsc]; exact h))); (try dsimp only); done
      ·obtain rfl : k = 0 := by omega
       have hsc := l9 (val a) s; rw [← hX] at hsc; refine Ck (Xd (WX.joinO (()) (S7 I I I I I I I) (S0 _) ?_ (by exact fun w h => by rw [← jb X (a.length + 1) 0 (by omega), hsc]; exact h))); (try dsimp only); done
     ·rintro _ hmeet; (try dsimp only at hmeet ⊢); refine Cg (Kq I (Rz I I I (by omega)) (Km I (Nn (Lx (k + 1) (by (try dsimp only); omega) (S6 I I I I I I) (by refine (Sc ?_ (S0 _)) <;> (rfl)) ?_ (fun _ h => h))))); (try dsimp only); omega
    ·refine Fq ?_; obtain rfl : k = a.length + 1 := by omega
     rw [show List.replicate (a.length + 1 - (a.length + 1)) 0 = ([] : List Nat) by rw [Df]; rfl, A5]
     have hXl : X < 256 ^ (a.length - b.length + 1) * D := by
      have h1 := aG a; have h2 := n8 hb.2 hb0; rw [hX, hD, ← A1]; refine Nat.mul_lt_mul_of_pos_right ?_ (C5 s); refine Aw h1 (Bi ?_ (Ca _ h2)); rw [← Bj]; exact Ar (by decide) (by omega)
     have hXL : X < 256 ^ (a.length + 1) := by
      have h1 := aG a; rw [hX, A0]; exact De h1 (by rcases eU hs8 with h | h | h | h | h | h | h | h <;> rw [h] <;> decide)
     have hdi0 := sL (L := a.length + 1) (X := X) (D := D) (n := b.length) (t := a.length - b.length + 1) (by omega) hXl hXL; have hDev : ev 256 (bD D b.length) = D := by rw [nZ, Am hfit]
     have hDt : 0 < (bD D b.length).getD (b.length - 1) 0 := by
      have h2 := n8 hb.2 hb0; have h3 : val b * 1 ≤ val b * 2 ^ s := Ca _ (C5 s)
      rw [vB _ _ _ (by omega), Am (by
       rw [Co (Cm (by decide)), ← Nat.pow_succ', show (b.length - 1).succ = b.length by omega]; exact hfit)]
      exact Nat.div_pos (by omega) (Cm (by decide))
     have hDl := cM 256 (by decide) _ (gU D b.length) (b.length - 1); have hDp : 0 < D := by rw [hD]; exact Nat.mul_pos hvb (C5 s)
     refine Xa (Cs (Km I (Yn I u22 (Km I (Kq I (aU I I I (by omega)) (HB ?_)))))); refine Kh I (ed I I I aF (by kernel_rfl : _ = some (some (.int .u8 0), 1, 1)) I ?_ (by (try simp only [sN, Int.reduceToNat, Nat.reduceAdd, Nat.reduceMul, Nat.reduceSub]); rfl) (by (try simp only [sN, Int.reduceToNat, Nat.reduceAdd, Nat.reduceMul, Nat.reduceSub]); rfl)) ?_
     ·omega
     intro b130; refine FM ?_; refine Yn I u22 (Km I (Kq I (aU I I I (by omega)) (Ka I (Nt (Cb (Lo (σ := Nat × (List Nat) × Nat × Int) [(10, _), (11, _), (12, _), (14, _), (16, _)] (fun gq => [(17, .int .i64 gq.2.2.2)]) (fun gq => gq.1 ≤ a.length - b.length + 1 ∧ lP (a.length + 1) X D b.length gq.1 gq.2.1 gq.2.2.1 ∧ gq.2.2.1 < 256 ^ (a.length - b.length + 1) ∧ gq.2.2.2 = (gq.1 : Int) - 1 ∧ (gq.1 < a.length - b.length + 1 → gq.2.1.getD (gq.1 + b.length) 0 = 0)) (fun gq => gq.1) (fun gq => [⟨some b130, (be (a.length - b.length + 1) gq.2.2.1).map B, 5⟩, ⟨some b94, cP gq.2.1, 3⟩, ⟨some b61, cP (bD D b.length), 3⟩]) (fun gq => []) (a.length - b.length + 1, bD X (a.length + 1), 0, ((a.length - b.length : Nat) : Int)) (S5 I I I I I) (S1 I) (by (try dsimp only); exact ⟨by omega, hdi0, Cm (by decide), by omega, fun h => absurd h (by omega)⟩) (by exact fun w h => by rw [show (be (a.length - b.length + 1) 0).map B = List.replicate (a.length - b.length + 1) (.int .u8 0) from rC _]; exact h) ?_)))))); rintro ⟨t, r, Q, j⟩ hinv3; (try dsimp only at hinv3 ⊢); obtain ⟨ht, hdi, hQ, hj, hz⟩ := hinv3; refine Cq (Cs (Km I (Hg (fun hc136 => ?_) (fun hc136 => ?_))))
     ·obtain ⟨m, rfl⟩ : ∃ m, t = m + 1 := ⟨t - 1, by omega⟩; refine WC.set 17 I (v' := .int .i64 ((m : Nat) : Int)) (by rw [hj]; congr 1; omega) ?_; have hrl := hdi.len; have hr1 := cM 256 (by decide) _ hdi.dig (m + b.length); have hr0 := cM 256 (by decide) _ hdi.dig (m + b.length - 1); obtain ⟨gu, hg⟩ : ∃ g, g = min ((r.getD (m + b.length) 0 * 2 ^ 8 + r.getD (m + b.length - 1) 0) / (bD D b.length).getD (b.length - 1) 0) 255 := ⟨_, rfl⟩; have hgl : gu < 256 := by omega
      have hgg := uV (β := 256) (j := m) (n := b.length) (q := ev 256 (r.take (m + 1 + b.length)) / (256 ^ m * D)) (d := bD D b.length) (by decide) hbp (bC D _) (by omega) hdi.dig (show ev 256 (r.take (m + 1 + b.length)) = _ by rw [show m + 1 + b.length = m + b.length + 1 by omega]) hDev.symm hDt (D6 _ _) hdi.lt; obtain ⟨qq, hqq⟩ : ∃ qq, qq = ev 256 (r.take (m + 1 + b.length)) / (256 ^ m * D) := ⟨_, rfl⟩; rw [← hqq] at hgg; have hgq : qq ≤ gu := by rw [hg]; exact Nat.le_min.2 ⟨hgg.1, Ed hgg.2⟩
      have hVp : 0 < 256 ^ m * D := Nat.mul_pos (Cm (by decide)) hDp; refine Ck (Xa (Cq (Cb (Cq (Cf [0, 1, 2, 3, 4, 5, 6, 7, 8, 9, 10, 11, 12, 13, 14, 15, 16, 17, 18, 19, 20, 21, 22] [] [0, 0, 0, 0, 0, 0, 0, 0, 0, 0, 0, 0, 0, 0, 0, 0, 0, 0, 0, 0, 0, 0, 0] (by kernel_rfl) (by kernel_rfl) I ?_))))); refine Ft ?_; refine GP ?_; refine HM ?_; refine F4 ?_; refine Kj I (ld I I .tc u3 I (bq r _ (by omega))) ?_; refine Kj I (fA (c := 8) I I I (by decide) (by omega)) (Ft ?_); refine GP ?_; refine HM ?_; refine Kj I (aB I I I (by omega)) ?_; refine F4 ?_; refine Kj I (ld I I .tc u3 I (bq r _ (by omega))) ?_; refine Kj I (kX 8 I I I ?_) ?_
      ·omega
      refine Ft ?_; refine Kj I (aB I I I (by omega)) ?_; refine F4 ?_; refine Kj I (ld I I .tc u3 I (bq (bD D b.length) _ (by rw [bC]; omega))) ?_; refine Kj I (me I I I (by omega)) (Kj I (xp I I I) ?_); refine WJ.set 160 I (v' := .int .i64 ((gu : Nat) : Int)) (congrArg (Value.int .i64) (by rw [hg]; omega)) ?_; refine GR ?_; refine WJ.nil ?_; refine Nt (Cs (Ka I (FM ?_))); refine Km I (Nt (Cb (Lo (σ := Nat × (List Nat) × Nat × Nat) [(10, _), (11, _), (12, _), (14, _), (16, _), (17, _), (18, _), (161, _)] (fun gq => [(19, .int .i64 (gq.2.2.1 : Int)), (20, .int .i64 (gq.2.2.2 : Int)), (162, .int .i64 (gq.1 : Int))]) (fun gq => gq.1 ≤ b.length ∧ lN 256 m gu r (bD D b.length) gq.1 gq.2.1 gq.2.2.1 gq.2.2.2) (fun gq => b.length - gq.1) (fun gq => [⟨some b130, (be (a.length - b.length + 1) Q).map B, 5⟩, ⟨some b94, cP gq.2.1, 3⟩, ⟨some b61, cP (bD D b.length), 3⟩]) (fun gq => []) (0, r, 0, 0) (S8 I I I I I I I I) (S3 I I I) (by (try dsimp only); exact ⟨Af _, rR (by decide) hdi.dig⟩) (fun _ h => h) ?_))); rintro ⟨i, r2, cy, bw⟩ hinv4; (try dsimp only at hinv4 ⊢); obtain ⟨hi, hsi⟩ := hinv4; refine ne (fun hc163 => ?_) (fun hc163 => ?_)
      ·have hr2l := hsi.len; have hcyl := hsi.cyl; have hbwl := hsi.bwl; have hdil := cM 256 (by decide) _ (gU D b.length) i; have hr2d := cM 256 (by decide) _ hsi.dig (m + i); have hgd : gu * (bD D b.length).getD i 0 ≤ 65025 := Dg (by omega : gu ≤ 255) (by omega : (bD D b.length).getD i 0 ≤ 255); rw [D2 m i] at hr2d; refine FO ?_; refine Km I (FN ?_); refine Km I (Km I (Km I (F5 ?_))); refine Kq I (ld I I .tc u3 I (bq (bD D b.length) _ (by rw [bC]; omega))) ?_; refine Kq I (gH I I I (by omega)) (Hk ?_); refine FN ?_; refine Km I (Km I (Hk ?_)); refine F5 ?_; refine Kq I (ld I I .tc u3 I (bq r2 _ (by omega))) ?_; refine Km I (Kq I (dT 8 I I I (by decide) ?_) ?_)
       ·omega
       refine Kq I (aK I I I (by omega)) (Km I (Kq I (aK I I I (by omega)) (FN ?_))); refine Kq I (bQ (c := 8) I I I (by decide)) (Ka I (Nt (Cs (Ka I (Nt (WC.joinP (σ := Nat × Nat) [(10, _), (11, _), (12, _), (14, _), (16, _), (17, _), (18, _), (19, _), (21, _), (161, _), (162, _)] (fun gq => [(22, .int .i64 (gq.1 : Int)), (20, .int .i64 (gq.2 : Int)), (19, .int .i64 ((cy + gu * (bD D b.length).getD i 0) / 256 : Nat))]) (fun gq => gq.1 + (cy + gu * (bD D b.length).getD i 0) % 256 + bw = r2.getD (i + m) 0 + 256 * gq.2 ∧ gq.1 < 256 ∧ gq.2 ≤ 1) (Sc I (Sc I (Sc I (Sc I (Sc I (Sc I (Sc I (Sc I (Sc I (Sc I (Sc I (S0 _)))))))))))) ?_ ?_))))))
       ·skip
        refine Cs (Km I (F7 (fun hc187 => ?_) (fun hc187 => ?_)))
        ·refine Cs (Km I (Kq I (bB I I I (by omega)) (Ka I (Nt (Cg (Ka I (Nn (WX.joinP (((((r2.getD (i + m) 0 : Nat) : Int) - ((cy + gu * (bD D b.length).getD i 0) % 256 : Nat) - bw + 256).toNat, 1)) (Sc I (Sc I (Sc I (Sc I (Sc I (Sc I (Sc I (Sc I (Sc I (Sc I (Sc I (S0 _)))))))))))) (by refine (Sc ?_ (Sc ?_ (Sc ?_ (S0 _)))) <;> (first | rfl | (refine tJ rfl ?_; (try dsimp only); omega))) ?_ (fun _ h => h))))))))); (try dsimp only); omega
        ·refine Ck (WX.joinP (((((r2.getD (i + m) 0 : Nat) : Int) - ((cy + gu * (bD D b.length).getD i 0) % 256 : Nat) - bw).toNat, 0)) (Sc I (Sc I (Sc I (Sc I (Sc I (Sc I (Sc I (Sc I (Sc I (Sc I (Sc I (S0 _)))))))))))) (by refine (Sc ?_ (Sc ?_ (Sc ?_ (S0 _)))) <;> (first | rfl | (refine tJ rfl ?_; (try dsimp only); omega))) ?_ (fun _ h => h)); (try dsimp only); omega
       ·rintro ⟨y, bw'⟩ hmeet; (try dsimp only at hmeet ⊢); obtain ⟨hy1, hy2, hy3⟩ := hmeet; refine Cg (Km I (Km I (Km I (Hk ?_)))); refine Km I (F5 ?_); refine Ng I I (st I I I .tc (by kernel_rfl) I ?_ (by rfl)) ?_
        ·rw [dz]; omega
        intro _; rw [dy]; refine Nn (Xd (Xa (Cg (Kq I (Rz I I I (by omega)) (Km I (Nn (Lx ((i + 1, r2.set (i + m) y, (cy + gu * (bD D b.length).getD i 0) / 256, bw')) (by (try dsimp only); omega) (S8 I I I I I I I I) (by refine (Sc ?_ (Sc ?_ (Sc ?_ (S0 _)))) <;> (rfl)) ?_ (fun _ h => h)))))))); (try dsimp only); exact ⟨by omega, by rw [D2 i m]; exact tF hsi (by decide) hgl (by rw [bC]; omega) (gU D b.length) (by omega) (by rw [D2 m i]; exact hy1) hy2 hy3⟩
      ·refine Fq ?_; obtain rfl : i = b.length := by omega
       have hr2l := hsi.len; have hcyl := hsi.cyl; have hbwl := hsi.bwl; have hr2d := cM 256 (by decide) _ hsi.dig (m + b.length); have hs0 := yn (D := D) hsi (by rw [A7 (by rw [bC]; exact Ba _)]; exact hDev) (by omega); refine Xa (Hd ?_); refine Km I (Hk ?_); refine F5 ?_; refine Kq I (ld I I .tc u3 I (bq r2 _ (by omega))) ?_; refine Km I (Kq I (aK I I I (by omega)) (Km I (Hq ?_))); refine Cq (Cb (Lo (σ := Nat × (List Nat) × Int) [(10, _), (11, _), (12, _), (14, _), (16, _), (17, _)] (fun gq => [(18, .int .i64 (gq.1 : Int)), (23, .int .i64 gq.2.2)]) (fun gq => gq.2.1.length = a.length + 1 ∧ (∀ x ∈ gq.2.1, x < 256) ∧ ((ev 256 (gq.2.1.take (m + b.length)) : Nat) : Int) + ((256 ^ (m + b.length) : Nat) : Int) * gq.2.2 + ((256 ^ m * gq.1 * D : Nat) : Int) = (ev 256 (r.take (m + 1 + b.length)) : Nat) ∧ qq ≤ gq.1 ∧ gq.1 ≤ 255 ∧ -256 ≤ gq.2.2 ∧ gq.2.2 ≤ 255) (fun gq => gq.1) (fun gq => [⟨some b130, (be (a.length - b.length + 1) Q).map B, 5⟩, ⟨some b94, cP gq.2.1, 3⟩, ⟨some b61, cP (bD D b.length), 3⟩]) (fun gq => []) (gu, r2, ((r2.getD (m + b.length) 0 : Nat) : Int) - cy - bw) (S6 I I I I I I) (S2 I I) (by (try dsimp only); exact ⟨by omega, hsi.dig, hs0, hgq, by omega, by omega, by omega⟩) (fun _ h => h) ?_))
       rintro ⟨g, r3, top⟩ hinv5; (try dsimp only at hinv5 ⊢); obtain ⟨hl3, hd3, hs3, hq3, hg3, ht1, ht2⟩ := hinv5; refine Cq (Cs (Km I (F7 (fun hc208 => ?_) (fun hc208 => ?_))))
       ·have hWl := vz hs3 (fJ 256 r3 _ (by omega) hd3) (by omega); have hg1 : qq < g := by rw [hqq]; exact (Co hVp).2 hWl
        refine Ck (Xa (Cb (Cs (Km I (Kq I (aB I I I (by omega)) (Ns 210 I (v' := .int .i64 ((g - 1 : Nat) : Int)) (congrArg (Value.int .i64) (by omega)) (Ka I (Nt (Cs (FM ?_)))))))))); refine Km I (Nt (Cb (Lo (σ := Nat × (List Nat) × Nat) [(10, _), (11, _), (12, _), (14, _), (16, _), (17, _), (18, _), (23, _), (211, _)] (fun gq => [(24, .int .i64 (gq.2.2 : Int)), (212, .int .i64 (gq.1 : Int))]) (fun gq => gq.1 ≤ b.length ∧ lQ 256 m r3 (bD D b.length) gq.1 gq.2.1 gq.2.2) (fun gq => b.length - gq.1) (fun gq => [⟨some b130, (be (a.length - b.length + 1) Q).map B, 5⟩, ⟨some b94, cP gq.2.1, 3⟩, ⟨some b61, cP (bD D b.length), 3⟩]) (fun gq => []) (0, r3, 0) (S9 I I I I I I I I I) (S2 I I) (by (try dsimp only); exact ⟨Af _, tb hd3⟩) (fun _ h => h) ?_))); rintro ⟨k, r4, c⟩ hinv6; (try dsimp only at hinv6 ⊢); obtain ⟨hk, hai⟩ := hinv6; refine ne (fun hc213 => ?_) (fun hc213 => ?_)
        ·have hr4l := hai.len; have hcl := hai.cl; have hdk := cM 256 (by decide) _ (gU D b.length) k; have hrk := cM 256 (by decide) _ hai.dig (m + k); rw [D2 m k] at hrk; refine FO ?_; refine Km I (Ka I (Nt (Cq (Cf [0, 1, 2, 3, 4, 5, 6, 7, 8, 9, 10, 11, 12, 13] [] [0, 0, 0, 0, 0, 0, 0, 0, 0, 0, 0, 0, 0, 0] (by kernel_rfl) (by kernel_rfl) I ?_)))); refine Ft ?_; refine Ft ?_; refine HM ?_; refine F4 ?_; refine Kj I (ld I I .tc u3 I (bq r4 _ (by omega))) ?_; refine Ft ?_; refine F4 ?_; refine Kj I (ld I I .tc u3 I (bq (bD D b.length) _ (by rw [bC]; omega))) ?_; refine HM ?_; refine HM ?_; refine GR ?_; refine WJ.nil ?_; refine Nt (Cs (Km I (Km I (Km I (Kq I (aC I I I (by omega)) (Km I (Kq I (dT 8 I I I (by decide) ?_) ?_)))))))
         ·omega
         refine F5 ?_; refine Ng I I (st I I I .tc (by kernel_rfl) I ?_ (by rfl)) ?_
         ·rw [dz]; omega
         intro _; rw [dy]; refine Nt (Cg (Km I (Kq I (bQ (c := 8) I I I (by decide)) (Ka I (Nn (Xd (Xa (Cg (Kq I (Rz I I I (by omega)) (Km I (Nn (Lx ((k + 1, r4.set (k + m) ((c + (r4.getD (k + m) 0 + (bD D b.length).getD k 0)) % 256), (c + (r4.getD (k + m) 0 + (bD D b.length).getD k 0)) / 256)) (by (try dsimp only); omega) (S9 I I I I I I I I I) (by refine (Sc ?_ (Sc ?_ (S0 _))) <;> (rfl)) ?_ (fun _ h => h))))))))))))); (try dsimp only); exact ⟨by omega, by rw [← Cl, D2 k m]; exact wj hai (by decide) (by rw [bC]; omega) (gU D b.length) (by omega)⟩
        ·refine Fq ?_; obtain rfl : k = b.length := by omega
         have hcl := hai.cl; have hr4l := hai.len; have hb4 := vA (D := D) hai (by rw [A7 (by rw [bC]; exact Ba _)]; exact hDev) (by omega) hs3; refine Xa (Cg (Km I (Km I (Kq I (bB I I I (by omega)) (Ka I (Nn (Xd (Lx ((g - 1, r4, top + c)) (by (try dsimp only); omega) (S6 I I I I I I) (by refine (Sc ?_ (Sc ?_ (S0 _))) <;> (rfl)) ?_ (fun _ h => h))))))))); (try dsimp only); exact ⟨by omega, hai.dig, hb4, by omega, by omega, by omega, by omega⟩
       ·refine Fq ?_; obtain ⟨ht0, hdi2⟩ := vy hdi hfit (by omega) hl3 hd3 hs3 (by omega) (by rw [← hqq]; exact hq3); subst ht0
        have hQ2 : Q + g * 256 ^ m < 256 ^ (a.length - b.length + 1) := by
         have h1 := hdi2.sum; have h2 : (Q + g * 256 ^ m) * D < 256 ^ (a.length - b.length + 1) * D := by omega
         exact Nat.lt_of_mul_lt_mul_right h2
        refine Xa (Hd ?_); refine Km I (Hk ?_); refine Km I (F5 ?_); refine Ng I I (st I I I .tc (by kernel_rfl) I ?_ (by rfl)) ?_
        ·rw [dz]; omega
        intro _; rw [show (cP r3).set (m + b.length) (.int .i64 0) = cP (r3.set (m + b.length) 0) from dy r3 _ 0]; refine Nt (Cg (Km I (Km I (Yo I aF (F1 ?_))))); refine Km I (Kq I (iJ I I u3 u5) (FX ?_)); refine Ng I I (st I I I .tc (by kernel_rfl) I ?_ (by rfl)) ?_
        ·rw [Ag, aQ]; omega
        intro _; refine Nn (Xd (Xa (Cg (Km I (Kq I (aK I I I (by omega)) (Ka I (Nn (Lx ((m, r3.set (m + b.length) 0, Q + g * 256 ^ m, (m : Int) - 1)) (by (try dsimp only); omega) (S5 I I I I I) (by refine (Sc ?_ (S0 _)) <;> (rfl)) ?_ (by exact fun w h => by rw [← CI (a.length - b.length + 1) m Q g (by omega) (by omega) hdi.dvd, List.map_set]; exact h))))))))); (try dsimp only); exact ⟨by omega, hdi2, hQ2, rfl, fun _ => eK r3 _ 0 (by omega)⟩
     ·refine Fq ?_; obtain rfl : t = 0 := by omega
      obtain ⟨hq1, hq2⟩ := yo hdi; have hrl := hdi.len; obtain ⟨R, hR⟩ : ∃ R, R = val a % val b := ⟨_, rfl⟩; have hqe : Q = val a / val b := by rw [hq1, hX, hD, Nat.mul_div_mul_right _ _ (C5 s)]
      have hre : ev 256 (r.take b.length) = R * 2 ^ s := by rw [hq2, hX, hD, Nat.mul_mod_mul_right, hR]
      have hRl : R < 256 ^ b.length := by rw [hR]; exact C9 (Aq _ hvb) (aG b)
      have hdg3 : ∀ i, i ≤ b.length → r.getD i 0 = R * 2 ^ s / 256 ^ i % 256 := fun i hi => by
       rw [← hre]
       rcases Cc i b.length with h | h
       ·rw [vn 256 (by decide) (r.take b.length) i (by rw [B1]; omega) (fun x hx => hdi.dig x (List.mem_of_mem_take hx)), List.getD_eq_getElem?_getD, List.getD_eq_getElem?_getD, Cv, Ae h]
       ·obtain rfl : i = b.length := by omega
        have h1 := hz (by omega); rw [A3] at h1; rw [h1, Bo (fJ 256 r _ (by omega) hdi.dig)]
      refine Xa (Cs (Km I (Kh I (ed I I I aF (by kernel_rfl : _ = some (some (.int .u8 0), 1, 1)) I ?_ (by (try simp only [sN, Int.reduceToNat, Nat.reduceAdd, Nat.reduceMul, Nat.reduceSub]); rfl) (by (try simp only [sN, Int.reduceToNat, Nat.reduceAdd, Nat.reduceMul, Nat.reduceSub]); rfl)) ?_)))
      ·omega
      intro b257; refine FM ?_; refine Km I (Nt (Cb (Lo (σ := Nat) [(10, _), (11, _), (14, _), (16, _), (26, _), (258, _)] (fun gq => [(259, .int .i64 (gq : Int))]) (fun gq => gq ≤ b.length) (fun gq => b.length - gq) (fun gq => [⟨some b257, fE b.length gq R, 5⟩, ⟨some b130, (be (a.length - b.length + 1) Q).map B, 5⟩, ⟨some b94, cP r, 3⟩]) (fun gq => []) (0) (S6 I I I I I I) (S1 I) (by (try dsimp only); omega) (by exact fun w h => by rw [show fE b.length 0 R = List.replicate b.length (.int .u8 0) from dk _ _]; exact aq _ h) ?_))); rintro k hinv7; (try dsimp only at hinv7 ⊢); obtain hk := hinv7; refine ne (fun hc260 => ?_) (fun hc260 => ?_)
      ·have hrk := cM 256 (by decide) _ hdi.dig k; have hrk1 := cM 256 (by decide) _ hdi.dig (k + 1); have hrd := pD R s k hs8; rw [← hdg3 k (by omega), ← hdg3 (k + 1) (by omega)] at hrd; refine FO ?_; refine Km I (FN ?_); refine Km I (F5 ?_); refine Kq I (ld I I .tc u3 I (bq r _ (by omega))) ?_; refine Ka I (Nt (Cq (Cs (Km I (Kq I (Rz I I I (by omega)) (Km I (Yo I dA (Yl I (Nt (Cd I (fun hc270 => ?_) (fun hc270 => by exfalso; (try simp only [sB] at hc270); omega))))))))))); (try simp only [sB] at hc270); refine Cg (Km I (Km I (Km I (HB ?_)))); refine F5 ?_; refine Kq I (ld I I .tc u3 I (bq r _ (by omega))) ?_; refine Kq I (fA (c := 8) I I I (by decide) (by omega)) ?_; refine Kq I (zR 8 I I I ?_) ?_
       ·omega
       refine Ka I (Nt (Cg (Km I (Km I (F1 ?_))))); refine Km I (Km I (Kq I (bQ I I I (by (show _ ≤ 64; omega))) ?_)); refine Kq I (iJ I I u3 u5) (Ns 287 I (v' := B (UInt8.ofNat (R / 256 ^ k))) (by exact congrArg (fun b : UInt8 => B b) (pw hrd.symm)) ?_); refine FX ?_; refine Ng I I (st I I I .tc (by kernel_rfl) I ?_ (by rfl)) ?_
       ·rw [cD _ _ _ (by omega)]; omega
       intro _; refine Nn (Xd (Xa (Cg (Kq I (Rz I I I (by omega)) (Km I (Nn (Lx (k + 1) (by (try dsimp only); omega) (S6 I I I I I I) (by refine (Sc ?_ (S0 _)) <;> (rfl)) ?_ (by exact fun w h => by rw [← cC b.length k R (by omega)]; exact h)))))))); (try dsimp only); omega
      ·refine Fq ?_; obtain rfl : k = b.length := by omega
       rw [cL]; have hbl1 := aQ (a.length - b.length + 1) Q; have hbl2 := aQ b.length R; refine Xa (Cs (Km I (Kc I (fun w hS => em (b := be (a.length - b.length + 1) Q) (by (exact hS.os)) (by omega) (by omega) (by omega)) (Km I (Kc I (fun w hS => em (b := be b.length R) (by (exact hS.os)) (by omega) (by omega) (by omega)) (Ka I (le ?_))))))); exact R2 I I I (by rw [dF, dF, Am hQ, Am hRl, hqe, hR]; rfl)
def g6 (a b : Bs) : (Bs × Bs) × Int := if okN a ∧ okN b then (if b = [] then (([], []), 11) else ((ae (val a / val b), ae (val a % val b)), 0)) else (([], []), 3)
abbrev DE (r : (Bs × Bs) × Int) : Value := .tuple #[.string (S r.1.1), .string (S r.1.2), .int .i64 r.2]
theorem fe {a b : Bs} {w : World} :
  Cw 133 #[.string (S a), .string (S b)] w (DE (g6 a b)) := by
 refine En [] [(0, .string (S a)), (1, .string (S b))] Tryz.func133 I Tryz.ntmps133 I (Ac I (Ac I (An _))) Fn (Cs (Ka I (Ka I (FM ?_)))); refine Hp ?_; refine Nc 12 I (fun hg12 => ?_) (fun hg12 => ?_)
 ·refine T2 I (Kt I (Yp I (Nt (Cd I (fun _ => ?_) (fun h => by cases h)))))
  refine Cs (Ka I (Ka I (le ?_))); refine Xb ?_
  exact IJ
 ·refine GM (fun hc16 => ?_) (fun hc16 => ?_)
  ·refine Cs (Ka I (Ka I (le ?_))); refine Xb ?_; exact IJ
  ·have hab : okN a ∧ okN b := by simp_all
   refine GO ?_; refine Hh (fun hc18 => ?_) (fun hc18 => ?_)
   ·have hb0 : b = [] := by simpa using hc18
    refine Cs (Ka I (Ka I (le ?_))); refine Xb ?_; exact R3 I I I I (by rw [g6, Ae hab, Ae hb0]; rfl)
   ·have hb0 : b ≠ [] := by simpa using hc18
    refine GG ?_; refine Kc I (fun w hS => mK (a := a) (b := b) (by exact hab.1) (by exact hab.2) (by exact hb0)) (Fs ?_); refine Hd ?_; refine Ka I (Ka I (le ?_)); exact R3 I I I I (by rw [g6, Ae hab, Aa hb0]; rfl)
def sE (a b : Bs) : Bs × Int := if okN a ∧ okN b then (ae (Nat.gcd (val a) (val b)), 0) else ([], 3)
theorem lu (x y : Nat) : Nat.gcd y (x % y) = Nat.gcd x y := by rw [Nat.gcd_comm x y, Nat.gcd_rec y x, Nat.gcd_comm]
theorem qH {x y : Bs} (h : okN y) (h0 : y ≠ []) : okN (ae (val x % val y)) := az (C9 (Aq _ (Dm fun e => h0 ((aM h.2).1 e))) (a7 h))
theorem DY {a b : Bs} {w : World} :
  Cw 266 #[.string (S a), .string (S b)] w (NE (sE a b)) := by
 refine En [] [(0, .string (S a)), (1, .string (S b))] Tryz.func266 I Tryz.ntmps266 I (Ac I (Ac I (An _))) Fn (Cs (Ka I (FM ?_))); refine Hp ?_; refine Nc 11 I (fun hg11 => ?_) (fun hg11 => ?_)
 ·refine T2 I (Kt I (Yp I (Nt (Cd I (fun _ => ?_) (fun h => by cases h)))))
  refine Cs (Ka I (le ?_)); refine Xb ?_
  exact R2 I I I (by rw [sE, Aa (by simp_all)]; rfl)
 ·refine GM (fun hc15 => ?_) (fun hc15 => ?_)
  ·refine Cs (Ka I (le ?_)); refine Xb ?_; exact R2 I I I (by rw [sE, Aa (by simp_all)]; rfl)
  ·have hab : okN a ∧ okN b := by simp_all
   refine Ck (Xa (Cq (Cb (Lp (σ := Bs × Bs) [] (fun gq => [(0, .string (S gq.1)), (1, .string (S gq.2))]) (fun gq => okN gq.1 ∧ okN gq.2 ∧ Nat.gcd (val gq.1) (val gq.2) = Nat.gcd (val a) (val b)) (fun gq => val gq.2) (a, b) (S0 _) (S2 I I) (by (try dsimp only); exact ⟨hab.1, hab.2, rfl⟩) ?_)))); rintro ⟨x, y⟩ hinv1; (try dsimp only at hinv1 ⊢); obtain ⟨hx, hy, hg⟩ := hinv1; refine Cq (Cs (Km I (Hr (fun hc17 => ?_) (fun hc17 => ?_))))
   ·have hy0 : y ≠ [] := by simpa using hc17
    have hvy : 0 < val y := Dm fun e => hy0 ((aM hy.2).1 e)
    refine Ck (Xa (Cb (Cs (Km I (Km I (Kc I (fun w hS => mK (a := x) (b := y) (by exact hx) (by exact hy) (by exact hy0)) (Km I (Ye I (Ye I (Ka I (Ka I (Nt (Cg (Km I (Km I (Ka I (Ka I (Nn (Xd (Ly ((y, ae (val x % val y))) (by (try dsimp only); rw [ah]; exact Aq _ hvy) (S0 _) (by refine (Sc ?_ (Sc ?_ (S0 _))) <;> (rfl)) ?_ (fun _ h => h))))))))))))))))))))); (try dsimp only); exact ⟨hy, qH hy hy0, by rw [ah, lu, hg]⟩
   ·refine Fq ?_; obtain rfl : y = [] := by simpa using hc17
    have hgx : val x = Nat.gcd (val a) (val b) := by rw [← hg]; exact (Nat.gcd_zero_right _).symm
    refine Xa (H7 ?_); refine le ?_; exact R2 I I I (by rw [sE, Ae hab, ← hgx, bT hx]; rfl)
theorem nq {a b : Bs} {w : World} (ha : okN a) (hb : okN b) (hb0 : b ≠ []) :
  Cw 258 #[.string (S a), .string (S b)] w (.tuple #[.string (S (ae (val a / val b))), .string (S (ae (val a % val b)))]) := by
 have hal := ha.1; have hbl := hb.1
 have hvb : 0 < val b := Dm fun h => hb0 ((aM hb.2).1 h)
 have hbs := gA hal
 have hblt := a7 hb
 have hvl := aG a
 refine En [] [(0, .string (S a)), (1, .string (S b))] Tryz.func258 I Tryz.ntmps258 I (Ac I (Ac I (An _))) Fn (Cs (Ka I (Ka I (Nt (Cq (WC.joinP (σ := Unit) [(0, _), (1, _)] (fun gq => [(20, .bool (decide (a.length ≤ 8 ∧ b.length ≤ 8)))]) (fun gq => True) (S2 I I) ?_ ?_))))))
 ·skip
  refine Cg (Km I (Yn I u22 (Ym I (Km I (Nc 16 I (fun hg16 => ?_) (fun hg16 => ?_))))))
  ·refine Km I (Yn I u22 (Ym I (Yp I (Nn (WX.joinP (()) (S2 I I) (by refine (Sc ?_ (S0 _)) <;> ((refine ao rfl ?_; (try dsimp only); (exact Ak.2 (by omega))))) ?_ (fun _ h => h)))))); (try dsimp only); done
  ·refine T2 I (Kt I (Yq I (Nn (WX.joinP (()) (S2 I I) (by refine (Sc ?_ (S0 _)) <;> ((exact congrArg (fun b => some (Value.bool b)) (by symm; apply Aj; omega)))) ?_ (fun _ h => h))))); (try dsimp only); done
 ·rintro _ hmeet; (try dsimp only at hmeet ⊢)
  refine Ci I (fun hc20 => ?_) (fun hc20 => ?_)
  ·have hva8 : val a < 18446744073709551616 := eS hc20.1; have hvb8 : val b < 18446744073709551616 := eS hc20.2; have hdv := Cz (val a) (val b); have hmd := Aq (val a) hvb; refine Cs (Km I (Kc I (fun w hS => kK (a := a) (by omega)) (Km I (Kc I (fun w hS => kK (a := b) (by omega)) (Ka I (Ka I (Nt (Cq (Cf [0, 1, 2, 3, 4, 5, 6, 7, 8, 9] [] [0, 0, 0, 1, 0, 0, 0, 1, 0, 0] (by kernel_rfl) (by kernel_rfl) I ?_))))))))); refine Ft ?_; refine Kj I (iH I I I ?_) ?_
   ·omega
   refine Jv I I I I I (fun ext => Oc I I (Kv fun w hS => oK (n := val a / val b) (by omega))) ?_; refine Ft ?_; refine Kj I (fB I I I ?_) ?_
   ·assumption
   refine Jv I I I I I (fun ext => Oc I I (Kv fun w hS => oK (n := val a % val b) (by omega))) ?_; refine GR ?_; refine GR ?_; refine WJ.nil ?_; refine Nt (Ce (Xb ?_)); exact IF
  ·refine Ck (Xa (Cs (Km I (Yn I u22 (Kh I (ed I I I aF (by kernel_rfl : _ = some (some (.int .u8 0), 1, 1)) I ?_ (by (try simp only [sN, Int.reduceToNat, Nat.reduceAdd, Nat.reduceMul, Nat.reduceSub]); rfl) (by (try simp only [sN, Int.reduceToNat, Nat.reduceAdd, Nat.reduceMul, Nat.reduceSub]); rfl)) ?_)))))
   ·omega
   intro b35; refine Ka I (Nt (Cs (FM ?_))); refine Kc I (fun w hS => k7 (a := a) (by omega)) (Hq ?_); refine Cb (Lo (σ := Nat × Bs × Nat × Int) [(0, _), (1, _), (8, _)] (fun gq => [(9, .string (S gq.2.1)), (10, .int .i64 gq.2.2.2)]) (fun gq => gq.1 ≤ aL a ∧ gq.2.1 = ae (val a / 2 ^ gq.1 % val b) ∧ gq.2.2.1 = val a / 2 ^ gq.1 / val b * 2 ^ gq.1 ∧ gq.2.2.2 = (gq.1 : Int) - 1) (fun gq => gq.1) (fun gq => [⟨some b35, (be a.length gq.2.2.1).map B, 5⟩]) (fun gq => []) (aL a, [], 0, (aL a : Int) - 1) (S3 I I I) (S2 I I) (by (try dsimp only); have h0 : val a / 2 ^ aL a = 0 := Bo (fW a); rw [h0]; exact ⟨Ba _, by rw [Nat.zero_mod, canon_zero], by rw [Nat.zero_div, B8], rfl⟩) (by exact fun w h => by rw [show (be a.length 0).map B = List.replicate a.length (.int .u8 0) from rC _]; exact h) ?_); rintro ⟨t, r, Q, j⟩ hinv1; (try dsimp only at hinv1 ⊢); obtain ⟨ht, hr, hQ, hj⟩ := hinv1; refine Cq (Cs (Km I (Hg (fun hc40 => ?_) (fun hc40 => ?_))))
   ·obtain ⟨m, rfl⟩ : ∃ m, t = m + 1 := ⟨t - 1, by omega⟩; refine WC.set 10 I (v' := .int .i64 ((m : Nat) : Int)) (by rw [hj]; congr 1; omega) ?_; obtain ⟨R, hR⟩ : ∃ R, R = val a / 2 ^ (m + 1) % val b := ⟨_, rfl⟩; rw [← hR] at hr; obtain ⟨c, hc⟩ : ∃ c, c = 2 * R + val a / 2 ^ m % 2 := ⟨_, rfl⟩; have hst := sc (A := val a) (B := val b) (t := m) (c := c) hvb (by rw [hc, hR]); have hRl : R < val b := by rw [hR]; exact Aq _ hvb
    have hlR : (ae R).length ≤ 128 := (az (by omega)).1
    have hl2 : (ae (2 * R)).length ≤ 129 := aX.2 (by have h1 : (256 : Nat) ^ 129 = 256 * Big := by rw [A0, Ao]; rfl
                                                     omega)
    have hlc : (ae c).length ≤ 129 := aX.2 (by have h1 : (256 : Nat) ^ 129 = 256 * Big := by rw [A0, Ao]; rfl
                                               omega)
    subst hr
    have hm8 : m / 8 < a.length := by
     have h1 := sV a; omega
    have hod := pL (val a / 2 ^ (m + 1) / val b) m; rw [← hQ] at hod; refine FO ?_; refine Km I (Km I (Kc I (fun w hS => uq (a := ae R) (b := ae R) (by omega) (by omega)) (Ns 45 I (v' := .string (S (ae (2 * R)))) (congrArg (fun l => Value.string (S l)) (by rw [ah, ← Nat.two_mul])) ?_))); refine Ka I (Nt (WC.joinP (σ := Unit) [(0, _), (1, _), (8, _), (10, _)] (fun gq => [(9, .string (S (ae c)))]) (fun gq => True) (S4 I I I I) ?_ ?_))
    ·skip
     refine Hd ?_; refine Kc I (fun w hS => tW (a := a) (i := m) (by omega) (by omega)) (Nt (Ci I (fun hc48 => ?_) (fun hc48 => ?_)))
     ·have hb1 : val a / 2 ^ m % 2 = 1 := by simpa [gB] using hc48
      refine Cg (Km I (Kc I (fun w hS => uq (a := ae (2 * R)) (b := [1]) (by omega) (by (simp <;> omega))) (Ns 50 I (v' := .string (S (ae c))) (congrArg (fun l => Value.string (S l)) (by rw [ah, show val [1] = 1 from rfl, hc, hb1])) ?_))); refine Ka I (Nn (WX.joinP (()) (S4 I I I I) (by refine (Sc ?_ (S0 _)) <;> (rfl)) ?_ (fun _ h => h))); (try dsimp only); done
     ·have hb1 : ¬ val a / 2 ^ m % 2 = 1 := by simpa [gB] using hc48
      rw [show 2 * R = c by omega]; refine Ck (WX.joinP (()) (S4 I I I I) (by refine (Sc ?_ (S0 _)) <;> (rfl)) ?_ (fun _ h => h)); (try dsimp only); done
    ·rintro _ hmeet; (try dsimp only at hmeet ⊢); refine Hd ?_; refine Kc I (fun w hS => kc (a := ae c) (b := b) (by exact bH _) (by exact hb.2) (by omega)) (Hg (fun hc54 => ?_) (fun hc54 => ?_))
     ·have hge : val b ≤ c := Nat.not_lt.1 fun h => by have := (aR c (val b)).2 h; rw [ah] at hc54; omega
      obtain ⟨hq1, hr1⟩ := hst.1 hge; refine Hd ?_; refine Kc I (fun w hS => qS (a := ae c) (b := b) (by rw [ah]; exact hge) (by omega) (by omega)) (Ns 57 I (v' := .string (S (ae (c - val b)))) (congrArg (fun l => Value.string (S l)) (by rw [ah])) ?_); refine Ka I (Nt (Cs (GI ?_))); refine Ka I (Nt (Cb (Lo (σ := Nat × Nat) [(0, _), (1, _), (8, _), (9, _), (10, _)] (fun gq => [(11, .int .u8 (gq.2 : Int)), (12, .int .i64 (gq.1 : Int))]) (fun gq => gq.1 ≤ m % 8 ∧ gq.2 = 2 ^ gq.1) (fun gq => m % 8 - gq.1) (fun gq => [⟨some b35, (be a.length Q).map B, 5⟩]) (fun gq => []) (0, 1) (S5 I I I I I) (S2 I I) (by (try dsimp only); exact ⟨Af _, rfl⟩) (fun _ h => h) ?_))); rintro ⟨k, p⟩ hinv2; (try dsimp only at hinv2 ⊢); obtain ⟨hk, hp⟩ := hinv2; refine Cq (Hd ?_); refine Kq I (dc I I I (by omega)) (F7 (fun hc61 => ?_) (fun hc61 => ?_))
      ·have hp2 : p * 2 ≤ 128 := by
        rw [hp, ← A0]; exact Bi (Ar (by decide) (by omega : k + 1 ≤ 7)) (by decide)
       refine Ck (Xa (Cq (Cb (Cg (Km I (Kq I (bY (c := 2) I I I (by omega)) (Ka I (Nn (Xd (Xa (Cg (Km I (Kq I (Rz I I I (by omega)) (Ka I (Nn (Lx ((k + 1, p * 2)) (by (try dsimp only); omega) (S5 I I I I I) (by refine (Sc ?_ (Sc ?_ (S0 _))) <;> (rfl)) ?_ (fun _ h => h))))))))))))))))); (try dsimp only); exact ⟨by omega, by rw [hp, A0]⟩
      ·refine Fq ?_; obtain rfl : k = m % 8 := by omega
       have hq8 : ((be a.length Q).map B)[a.length - 1 - m / 8]? = some (.int .u8 ((Q / 256 ^ (m / 8) % 256 : Nat) : Int)) := by
        rw [A4, jO _ _ _ (by omega), show a.length - 1 - (a.length - 1 - m / 8) = m / 8 by omega]; simp [B, UInt8.toNat_ofNat']
       rw [← hp] at hod; refine Xa (Cg (Km I (Km I (Yn I u22 (Kq I (aB I I I (by omega)) (Il ?_)))))); refine Kq I (aU I I I (by omega)) ?_; refine FX ?_; refine Kq I (ld I I .tc u5 I hq8) ?_; refine Km I (Kq I (cJ I I I (by assumption)) ?_); refine Ns 76 I (v' := B (UInt8.ofNat (Q / 256 ^ (m / 8) % 256 + p))) (by rw [B, UInt8.toNat_ofNat', Am hod]) ?_; refine FX ?_; refine Ng I I (st I I I .tc (by kernel_rfl) I ?_ (by rfl)) ?_
       ·rw [Ag, aQ]; omega
       intro _; refine Nn (Xd (Xa (Cg (Km I (Kq I (aK I I I (by omega)) (Ka I (Nn (Lx ((m, ae (c - val b), Q + p * 256 ^ (m / 8), (m : Int) - 1)) (by (try dsimp only); omega) (S3 I I I) (by refine (Sc ?_ (Sc ?_ (S0 _))) <;> (rfl)) ?_ (by exact fun w h => by rw [← CJ a.length (m / 8) Q p (by omega) hod, List.map_set]; exact h))))))))); (try dsimp only); exact ⟨by omega, by rw [hr1], by rw [hq1, hp, ← l6, hQ, A0, Bk, Cn]; congr 1; simp only [Ao, Bq, A1], rfl⟩
     ·have hlt : c < val b := by rw [ah] at hc54; exact (aR c (val b)).1 hc54
      obtain ⟨hq1, hr1⟩ := hst.2 hlt; refine Ck (Xd (Xa (Cg (Km I (Kq I (aK I I I (by omega)) (Ka I (Nn (Lx ((m, ae c, Q, (m : Int) - 1)) (by (try dsimp only); omega) (S3 I I I) (by refine (Sc ?_ (Sc ?_ (S0 _))) <;> (rfl)) ?_ (fun _ h => h))))))))); (try dsimp only); exact ⟨by omega, by rw [hr1], by rw [hq1, hQ, A0]; simp only [Ao, Bq, A1], rfl⟩
   ·refine Fq ?_; obtain rfl : t = 0 := by omega
    rw [C6, Dy, As] at hQ; rw [C6, Dy] at hr; subst hr; have hbl1 := aQ a.length Q; have hQl : Q < 256 ^ a.length := by rw [hQ]; exact Bb (Cz _ _) hvl
    refine Xa (Cs (Km I (Kc I (fun w hS => iE (b := be a.length Q) (by (exact hS.os)) (by omega) (by omega) (by omega)) (Km I (Ka I (le ?_)))))); exact R2 I I I (by rw [dF, Am hQl, hQ]; rfl)
theorem rW {a b : Bs} {w : World} :
  Cw 325 #[.string (S a), .string (S b)] w (DE (g6 a b)) := by
 refine En [] [(0, .string (S a)), (1, .string (S b))] Tryz.func325 I Tryz.ntmps325 I (Ac I (Ac I (An _))) Fn (Cs (Ka I (Ka I (FM ?_)))); refine Kc I (fun w hS => aY) (Yt I (Km I (Nc 12 I (fun hg12 => ?_) (fun hg12 => ?_))))
 ·refine T2 I (Kt I (Yp I (Nt (Cd I (fun _ => ?_) (fun h => by cases h)))))
  refine Cs (Ka I (Ka I (le ?_))); refine Xb ?_
  exact IJ
 ·refine Km I (Kc I (fun w hS => aY) (Yt I (Yq I (Nt (Ci I (fun hc16 => ?_) (fun hc16 => ?_))))))
  ·refine Cs (Ka I (Ka I (le ?_))); refine Xb ?_; exact IJ
  ·have hab : okN a ∧ okN b := by simp_all
   refine GO ?_; refine Hh (fun hc18 => ?_) (fun hc18 => ?_)
   ·have hb0 : b = [] := by simpa using hc18
    refine Cs (Ka I (Ka I (le ?_))); refine Xb ?_; exact R3 I I I I (by rw [g6, Ae hab, Ae hb0]; rfl)
   ·have hb0 : b ≠ [] := by simpa using hc18
    refine GG ?_; refine Kc I (fun w hS => nq (a := a) (b := b) (by exact hab.1) (by exact hab.2) (by exact hb0)) (Fs ?_); refine Hd ?_; refine Ka I (Ka I (le ?_)); exact R3 I I I I (by rw [g6, Ae hab, Aa hb0]; rfl)
theorem rY {a b : Bs} {w : World} (ha : okN a) (hb : okN b) :
  Cw 295 #[.string (S a), .string (S b)] w (.string (S (ae (Nat.gcd (val a) (val b))))) := by
 refine En [] [(0, .string (S a)), (1, .string (S b))] Tryz.func295 I Tryz.ntmps295 I (Ac I (Ac I (An _))) Fn (Cs (Ka I (Nt (Cq (Cb (Lp (σ := Bs × Bs) [] (fun gq => [(0, .string (S gq.1)), (1, .string (S gq.2))]) (fun gq => okN gq.1 ∧ okN gq.2 ∧ Nat.gcd (val gq.1) (val gq.2) = Nat.gcd (val a) (val b)) (fun gq => val gq.2) (a, b) (S0 _) (S2 I I) (by (try dsimp only); exact ⟨ha, hb, rfl⟩) ?_))))))
 rintro ⟨x, y⟩ hinv1; (try dsimp only at hinv1 ⊢)
 obtain ⟨hx, hy, hg⟩ := hinv1
 refine Cq (Cs (Km I (Hr (fun hc8 => ?_) (fun hc8 => ?_))))
 ·have hy0 : y ≠ [] := by simpa using hc8
  have hvy : 0 < val y := Dm fun e => hy0 ((aM hy.2).1 e)
  refine Ck (Xa (Cb (Cs (Km I (Km I (Kc I (fun w hS => nq (a := x) (b := y) (by exact hx) (by exact hy) (by exact hy0)) (Km I (Ye I (Ye I (Ka I (Ka I (Nt (Cg (Km I (Km I (Ka I (Ka I (Nn (Xd (Ly ((y, ae (val x % val y))) (by (try dsimp only); rw [ah]; exact Aq _ hvy) (S0 _) (by refine (Sc ?_ (Sc ?_ (S0 _))) <;> (rfl)) ?_ (fun _ h => h)))))))))))))))))))))
  (try dsimp only)
  exact ⟨hy, qH hy hy0, by rw [ah, lu, hg]⟩
 ·refine Fq ?_
  obtain rfl : y = [] := by simpa using hc8
  have hgx : val x = Nat.gcd (val a) (val b) := by rw [← hg]; exact (Nat.gcd_zero_right _).symm
  refine Xa (Cs (Km I (le ?_)))
  exact R1 I I (by rw [← hgx, bT hx]; rfl)
def bP (a : Bs) : Zs := if okN a then (false, a) else (false, [])
theorem dv {a : Bs} (h : okN a) : bP a = (false, a) := Ae h
theorem da {a : Bs} {w : World} :
  Cw 113 #[.string (S a)] w (zV (bP a)) := by
 refine En [] [(0, .string (S a))] Tryz.func113 I Tryz.ntmps113 I (Ac I (An _)) Fn (Cs (FS ?_))
 intro b2
 refine Nt (Cq (Cs (Km I (Kc I (fun w hS => ay) (Gs (fun hc5 => ?_) (fun hc5 => ?_))))))
 ·refine Cs (FY ?_)
  refine FF ?_; refine Nt (Ce (Xb ?_))
  exact Rn I (.agg I .tc u68 I (by kernel_rfl) .nil) fun w' hS => ⟨by rw [bP, Aa (by simpa using hc5)]; rfl, hS.below⟩
 ·refine Ck (Xa (Cs (Km I (Kc I (fun w hS => gl (n := false) (a := a)) (FF ?_))))); refine Nt (Ce ?_)
  exact Rn I (.agg I .tc u68 I (by kernel_rfl) .nil) fun w' hS => ⟨by rw [bP, Ae (by simpa using hc5)]; rfl, hS.below⟩
def ig (x y : Zs) : Zs × Int := if okZ x ∧ okZ y then (mkZ (x.1 != y.1) (eg x.2 y.2).1, (eg x.2 y.2).2) else ((false, []), 3)
theorem kt {x y : Zs} {w : World} :
  Cw 110 #[zV x, zV y] w (ZE (ig x y)) := by
 refine En [] [(0, zV x), (1, zV y)] Tryz.func110 I Tryz.ntmps110 I (Ac I (Ac I (An _))) Fn (Eq ?_)
 intro b2
 refine Gc ?_
 intro b3
 refine FS ?_
 intro b4
 refine Ka I (Nt (Cq (Cs (Kq I (lda I I .tc u68 I ?_) ?_))))
 ·kernel_rfl
 refine Kq I (lda I I .tc u68 I ?_) ?_
 ·kernel_rfl
 refine Kc I (fun w hS => p9 (x := x) (y := y)) (Gs (fun hc11 => ?_) (fun hc11 => ?_))
 ·have hr : ig x y = ((false, []), 3) := by rw [ig, Aa (by simpa using hc11)]
  refine Cs (FY ?_)
  refine FF ?_; refine le ?_; refine Xb ?_
  exact Is
 ·have hr : ig x y = (mkZ (x.1 != y.1) (eg x.2 y.2).1, (eg x.2 y.2).2) := by rw [ig, Ae (by simpa using hc11)]
  refine Ck (Xa (Cs (Gn ?_)))
  refine Gn ?_
  refine Kc I (fun w hS => qL (a := x.2) (b := y.2)) (Fs ?_); refine Cs (G1 ?_)
  refine G1 ?_
  refine Kq I (z8 I I I u4) (Km I (Kc I (fun w hS => gl (n := x.1 != y.1) (a := (eg x.2 y.2).1)) (Km I (FF ?_)))); refine le ?_
  exact Is
theorem fM {a b : Bs} (ha : okN a) (hb : okN b) (h0 : b ≠ []) : g6 a b = ((ae (val a / val b), ae (val a % val b)), 0) := by rw [g6, Ae ⟨ha, hb⟩, Aa h0]
end Go.Proofs.YtchonigdjamphaaGreatDoor
namespace Go.Proofs.YtchonigdjamphaaGreatDoor
set_option linter.unusedSimpArgs false
set_option linter.unusedVariables false
set_option maxRecDepth 20000
theorem mml (a b m : Nat) : a % m * b % m = a * b % m := Nat.mod_mul_mod a b m
theorem mmr (a b m : Nat) : a * (b % m) % m = a * b % m := Nat.mul_mod_mod a b m
def ei (a m : Nat) : Nat := ((List.range m).find? fun x => a * x % m == 1 % m).getD 0
theorem xW {a x y m : Nat} (hx : x < m) (hy : y < m) (h1 : a * x % m = 1 % m) (h2 : a * y % m = 1 % m) : x = y := by
 have e1 : x * (a * y) % m = x := by rw [← mmr, h2, mmr, As, Am hx]
 have e2 : y * (a * x) % m = y := by rw [← mmr, h1, mmr, As, Am hy]
 rw [show x * (a * y) = y * (a * x) by simp only [Ao, Bq]] at e1
 exact e1.symm.trans e2
theorem nR {a m x : Nat} (hx : x < m) (h : a * x % m = 1 % m) : ei a m = x := by
 rw [ei]
 cases hf : (List.range m).find? fun x => a * x % m == 1 % m with
 | none =>
  exfalso
  have := List.find?_eq_none.1 hf x (Ct.2 hx)
  simp [h] at this
 | some y =>
  have h1 := List.find?_some hf
  have h2 := Ct.1 (List.mem_of_find?_eq_some hf)
  exact xW h2 hx (by simpa using h1) h
theorem uN (a m : Nat) : ei (a % m) m = ei a m := by
 rw [ei, ei]; congr 2; funext x; rw [mml]
theorem xX (a : Nat) {m : Nat} (hm : 0 < m) : ei a m < m := by
 rw [ei]
 cases hf : (List.range m).find? fun x => a * x % m == 1 % m with
 | none => exact hm
 | some y => exact Ct.1 (List.mem_of_find?_eq_some hf)
theorem sw {a m x : Nat} (hm : 0 < m) (h : a * x % m = 1 % m) : a * ei a m % m = 1 % m := by
 rw [nR (x := x % m) (Aq _ hm) (by rw [mmr]; exact h), mmr, h]
theorem ov {a m x : Nat} (h : a * x % m = 1 % m) : Nat.gcd a m = 1 := by
 have h1 : Nat.gcd a m ∣ a * x % m := (Nat.dvd_mod_iff (Nat.gcd_dvd_right a m)).2 (Nat.dvd_trans (Nat.gcd_dvd_left a m) (Nat.dvd_mul_right a x))
 rw [h] at h1
 exact Nat.dvd_one.1 ((Nat.dvd_mod_iff (Nat.gcd_dvd_right a m)).1 h1)
theorem uX {a m : Nat} (hm : 0 < m) (h : Nat.gcd a m = 1) : ∃ x, a * x % m = 1 % m := by
 -- by the extended algorithm of Euclid
 have key : ∀ (n r0 r1 : Nat) (x0 x1 y0 y1 : Int), r1 ≤ n → Euc a m r0 r1 x0 x1 y0 y1 → ∃ x y : Int, (a : Int) * x + m * y = Nat.gcd a m := by
  intro n
  induction n with
  | zero => intro r0 r1 x0 x1 y0 y1 hn e; exact ⟨x0, y0, by rw [e.e0, ← e.gc, show r1 = 0 by omega, Nat.gcd_zero_right]⟩
  | succ n ih =>
   intro r0 r1 x0 x1 y0 y1 hn e
   rcases Bw r1 with h0 | h0
   ·exact ⟨x0, y0, by rw [e.e0, ← e.gc, h0, Nat.gcd_zero_right]⟩
   ·exact ih _ _ _ _ _ _ (by have := Aq r0 h0; omega) (lz e h0)
 obtain ⟨x, y, hxy⟩ := key m a m 1 0 0 1 (Ba _) (mH a m)
 rw [h] at hxy
 refine ⟨(x % m).toNat, ?_⟩
 have hm' : (m : Int) ≠ 0 := by omega
 have h1 : ((x % m).toNat : Int) = x % m := Ea (Int.emod_nonneg _ hm')
 apply Int.ofNat_inj.1
 rw [D4, C0, h1, D4, Int.mul_emod, Int.emod_emod_of_dvd _ (Int.dvd_refl _), ← Int.mul_emod]
 have e : (a : Int) * x = 1 + m * (-y) := by rw [Ec]; omega
 rw [e, Int.add_mul_emod_self_left]; rfl
theorem eu (a e m : Nat) : (a % m) ^ e % m = a ^ e % m := (Nat.pow_mod a e m).symm
theorem mF {a e i m : Nat} (h : e / 2 ^ i % 2 = 0) : a ^ (e / 2 ^ (i + 1)) % m * (a ^ (e / 2 ^ (i + 1)) % m) % m = a ^ (e / 2 ^ i) % m := by
 rw [mml, mmr, ← Bj]; congr 2; rw [A0, ← A6]; omega
theorem mE {a e i m : Nat} (h : e / 2 ^ i % 2 = 1) : a ^ (e / 2 ^ (i + 1)) % m * (a ^ (e / 2 ^ (i + 1)) % m) % m * a % m = a ^ (e / 2 ^ i) % m := by
 rw [← Dx, mml, ← Bj, ← A0]; congr 2; rw [A0, ← A6]; omega
def aZ (m x : Nat) (e : Int) : Nat := (if e < 0 then ei x m else x) ^ e.natAbs % m
def aD {α : Type} (f : α → Nat) : List α → Nat
 | [] => 1
 | x :: l => f x * aD f l
theorem fC {α : Type} (f : α → Nat) : ∀ a b : List α, aD f (a ++ b) = aD f a * aD f b
 | [], b => by simp [aD]
 | x :: a, b => by rw [List.cons_append, aD, aD, fC f a b, A1]
theorem gL {α : Type} (f g : α → Nat) (m : Nat) : ∀ l : List α, (∀ x ∈ l, f x % m = g x % m) → aD f l % m = aD g l % m
 | [], _ => rfl
 | x :: l, h => by
  rw [aD, aD, Dx, h x (.head _), gL f g m l (fun y hy => h y (.tail _ hy)), ← Dx]
theorem gK {α : Type} (f g : α → Nat) : ∀ l : List α, aD (fun x => f x * g x) l = aD f l * aD g l
 | [] => rfl
 | x :: l => by rw [aD, aD, aD, gK f g l]; simp only [Ao, Bq, A1]
theorem r7 {α : Type} (f : α → Nat) (l : List α) (h : ∀ x ∈ l, f x = 1) : aD f l = 1 := by
 induction l with
 | nil => rfl
 | cons x l ih => rw [aD, h x (.head _), ih fun y hy => h y (.tail _ hy)]
def eA (i : Nat) (p : Nat × Nat) : Nat := p.1 ^ (p.2 / 2 ^ i)
theorem un (m i : Nat) (l : List (Nat × Nat)) : aD (eA (i + 1)) l % m * (aD (eA (i + 1)) l % m) % m * aD (fun p => if p.2 / 2 ^ i % 2 = 1 then p.1 else 1) l % m = aD (eA i) l % m := by
 rw [← Dx, mml, ← gK, ← gK]
 apply gL
 intro p _
 congr 1
 simp only [eA]
 have e : p.2 / 2 ^ (i + 1) = p.2 / 2 ^ i / 2 := by rw [A0, A6]
 rw [e, ← Bj]
 generalize p.2 / 2 ^ i = k
 split
 ·rw [← A0]; congr 1; omega
 ·rw [As]; congr 1; omega
end Go.Proofs.YtchonigdjamphaaGreatDoor
namespace Go.Proofs.YtchonigdjamphaaGreatDoor
open Go.RowKit
set_option linter.unusedSimpArgs false
set_option linter.unusedVariables false
set_option maxHeartbeats 600000
set_option maxRecDepth 20000
theorem iX {n : Nat} (h : n < Big) : bP (ae n) = ofZ n := by rw [dv (az h), eI]
theorem nG {a b : Nat} (ha : a < Big) (hb : b < Big) : eg (ae a) (ae b) = if a * b < Big then (ae (a * b), 0) else ([], 5) := by rw [eg, Ae ⟨az ha, az hb⟩, ah, ah]
theorem kg {a b : Int} (ha : a.natAbs < Big) (hb : b.natAbs < Big) (h : (a * b).natAbs < Big) : ig (ofZ a) (ofZ b) = (ofZ (a * b), 0) := by
 rw [ig, Ae ⟨bZ.2 ha, bZ.2 hb⟩]
 rw [ce a, ce b]
 simp only
 rw [nG ha hb, ← Int.natAbs_mul, Ae h]
 show (mkZ _ (ae (a * b).natAbs), (0 : Int)) = _
 rw [lk]
 congr 2
 rw [Int.natAbs_mul]
 by_cases h1 : a < 0 <;> by_cases h2 : b < 0
 ·rw [Az h1, Az h2]
  obtain ⟨m, rfl⟩ : ∃ m : Nat, a = -(m : Int) := ⟨a.natAbs, by omega⟩
  obtain ⟨n, rfl⟩ : ∃ n : Nat, b = -(n : Int) := ⟨b.natAbs, by omega⟩
  simp [Int.neg_mul, Ec]
 ·rw [Az h1, Aj h2]
  obtain ⟨m, rfl⟩ : ∃ m : Nat, a = -(m : Int) := ⟨a.natAbs, by omega⟩
  obtain ⟨n, rfl⟩ : ∃ n : Nat, b = (n : Int) := ⟨b.natAbs, by omega⟩
  simp [Int.neg_mul, Ec]
 ·rw [Aj h1, Az h2]
  obtain ⟨m, rfl⟩ : ∃ m : Nat, a = (m : Int) := ⟨a.natAbs, by omega⟩
  obtain ⟨n, rfl⟩ : ∃ n : Nat, b = -(n : Int) := ⟨b.natAbs, by omega⟩
  simp [Int.neg_mul, Ec]
 ·rw [Aj h1, Aj h2]
  obtain ⟨m, rfl⟩ : ∃ m : Nat, a = (m : Int) := ⟨a.natAbs, by omega⟩
  obtain ⟨n, rfl⟩ : ∃ n : Nat, b = (n : Int) := ⟨b.natAbs, by omega⟩
  simp [Int.neg_mul, Ec]
theorem j8 {a b : Int} (ha : a.natAbs < Big) (hb : b.natAbs < Big) (h : (a - b).natAbs < Big) : eO (ofZ a) (ofZ b) = (ofZ (a - b), 0) := by rw [wH ha hb, Ae h]
theorem yp {a b : Nat} (ha : a < Big) (hb : b < Big) (h0 : 0 < b) : g6 (ae a) (ae b) = ((ae (a / b), ae (a % b)), 0) := by
 rw [fM (az ha) (az hb) (by rw [ne_eq, bk]; omega), ah, ah]
end Go.Proofs.YtchonigdjamphaaGreatDoor
