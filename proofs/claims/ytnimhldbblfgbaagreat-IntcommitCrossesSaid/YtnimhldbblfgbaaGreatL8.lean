/-
  Parts of the walk: Div Ntl6 Ntl7 Int2.
-/
import Derived.Test.YtnimhldbblfgbaaGreatL7
namespace Go.Proofs.YtnimhldbblfgbaaGreat
set_option linter.unusedSimpArgs false
set_option linter.unusedVariables false
set_option maxRecDepth 20000
/-- the first n digits of a number -/
def digs (X n : Nat) : List Nat := (List.range n).map fun i => X / 256 ^ i % 256
theorem digs_len (X n : Nat) : (digs X n).length = n := by simp [digs]
theorem digs_succ (X n : Nat) : digs X (n + 1) = digs X n ++ [X / 256 ^ n % 256] := by simp [digs, List.range_succ]
theorem digs_lt (X n : Nat) : ∀ x ∈ digs X n, x < 256 := by
 intro x hx
 obtain ⟨i, _, rfl⟩ := List.mem_map.1 hx
 exact Nat.mod_lt _ (by decide)
theorem ev_digs (X : Nat) : ∀ n, ev 256 (digs X n) = X % 256 ^ n
 | 0 => by simp [digs, ev, Nat.mod_one]
 | n + 1 => by rw [digs_succ, ev_append, digs_len, ev_digs X n, Nat.mod_pow_succ]; simp [ev]
theorem digs_set (X n k : Nat) (h : k < n) : (digs X k ++ List.replicate (n - k) 0).set k (X / 256 ^ k % 256) = digs X (k + 1) ++ List.replicate (n - (k + 1)) 0 := by
 rw [List.set_append_right _ _ (by rw [digs_len]; exact Nat.le_refl _), digs_len, Nat.sub_self, show n - k = (n - (k + 1)) + 1 by omega, List.replicate_succ, List.set_cons_zero, digs_succ, List.append_assoc]; rfl
theorem digs_get (X n i : Nat) (h : i < n) : (digs X n).getD i 0 = X / 256 ^ i % 256 := by
 rw [List.getD_eq_getElem?_getD, digs, List.getElem?_map, List.getElem?_range h]; rfl
theorem sh_cases {s : Nat} (h : s < 8) : s = 0 ∨ s = 1 ∨ s = 2 ∨ s = 3 ∨ s = 4 ∨ s = 5 ∨ s = 6 ∨ s = 7 := by omega
/-- digits of a scaled number -/
theorem sc_digit0 (A s : Nat) : A * 2 ^ s / 256 ^ 0 % 256 = A / 256 ^ 0 % 256 * 2 ^ s % 256 := by
 rw [Nat.pow_zero, Nat.div_one, Nat.div_one, Nat.mul_mod (A % 256), Nat.mod_mod, ← Nat.mul_mod]
theorem sc_digit (A s i : Nat) (h : s < 8) : A * 2 ^ s / 256 ^ (i + 1) % 256 = A / 256 ^ (i + 1) % 256 * 2 ^ s % 256 + A / 256 ^ i % 256 / 2 ^ (8 - s) := by
 have e1 : A * 2 ^ s / 256 ^ (i + 1) = A / 256 ^ i / 2 ^ (8 - s) := by
  rw [Nat.div_div_eq_div_mul, show 256 ^ (i + 1) = 256 ^ i * 2 ^ (8 - s) * 2 ^ s from by
   rw [Nat.mul_assoc, ← Nat.pow_add, show 8 - s + s = 8 by omega, Nat.pow_succ], Nat.mul_div_mul_right _ _ (Nat.two_pow_pos s)]
 have e2 : A / 256 ^ (i + 1) = A / 256 ^ i / 256 := by rw [Nat.pow_succ, Nat.div_div_eq_div_mul]
 rw [e1, e2]
 generalize A / 256 ^ i = B
 rcases sh_cases h with rfl | rfl | rfl | rfl | rfl | rfl | rfl | rfl <;> omega
theorem sc_parts (A s i : Nat) (h : s < 8) : A / 256 ^ i % 256 / 2 ^ (8 - s) < 2 ^ s ∧ A / 256 ^ (i + 1) % 256 * 2 ^ s % 256 % 2 ^ s = 0 ∧ A / 256 ^ (i + 1) % 256 * 2 ^ s < 65536 := by
 have hx : A / 256 ^ i % 256 < 256 := Nat.mod_lt _ (by decide)
 have hy : A / 256 ^ (i + 1) % 256 < 256 := Nat.mod_lt _ (by decide)
 generalize A / 256 ^ i % 256 = x at *
 generalize A / 256 ^ (i + 1) % 256 = y at *
 rcases sh_cases h with rfl | rfl | rfl | rfl | rfl | rfl | rfl | rfl <;> exact ⟨by omega, by omega, by omega⟩
/-- the quotient's places from t on are done -/
structure DivInv (L X D n t : Nat) (r : List Nat) (Q : Nat) : Prop where
 len : r.length = L
 dig : ∀ x ∈ r, x < 256
 sum : X = Q * D + ev 256 (r.take (t + n))
 lt : ev 256 (r.take (t + n)) < 256 ^ t * D
 dvd : Q % 256 ^ t = 0
theorem div_start {L X D n t : Nat} (hL : L = t + n) (hX : X < 256 ^ t * D) (hX2 : X < 256 ^ L) : DivInv L X D n t (digs X L) 0 := by
 have e : ev 256 ((digs X L).take (t + n)) = X := by
  rw [List.take_of_length_le (by rw [digs_len]; omega), ev_digs, Nat.mod_eq_of_lt hX2]
 exact ⟨digs_len X L, digs_lt X L, by rw [e]; omega, by rw [e]; exact hX, by simp⟩
/-- the place j is done -/
theorem div_step {L X D n j Q g : Nat} {r r1 : List Nat} {top : Int} (h : DivInv L X D n (j + 1) r Q) (hD : D < 256 ^ n) (hL : j + n < L) (hlen : r1.length = L) (hdig : ∀ x ∈ r1, x < 256)
  (hsum : (ev 256 (r1.take (j + n)) : Int) + ((256 ^ (j + n) : Nat) : Int) * top + ((256 ^ j * g * D : Nat) : Int) = ev 256 (r.take (j + 1 + n))) (htop : 0 ≤ top) (hg : ev 256 (r.take (j + 1 + n)) / (256 ^ j * D) ≤ g) :
  top = 0 ∧ DivInv L X D n j (r1.set (j + n) 0) (Q + g * 256 ^ j) := by
 obtain ⟨tp, rfl⟩ : ∃ k : Nat, top = (k : Int) := ⟨top.toNat, by omega⟩
 have hs : ev 256 (r1.take (j + n)) + 256 ^ (j + n) * tp + 256 ^ j * g * D = ev 256 (r.take (j + 1 + n)) := by
  apply Int.ofNat_inj.1
  rw [Int.natCast_add, Int.natCast_add, Int.natCast_mul]; exact hsum
 obtain ⟨W, hW⟩ : ∃ W, W = ev 256 (r.take (j + 1 + n)) := ⟨_, rfl⟩
 obtain ⟨E, hE⟩ : ∃ E, E = ev 256 (r1.take (j + n)) := ⟨_, rfl⟩
 rw [← hW] at hs hg
 rw [← hE] at hs
 have hlt := h.lt
 rw [← hW] at hlt
 have hDp : 0 < D := by
  rcases Nat.eq_zero_or_pos D with e | e
  ·rw [e] at hlt; omega
  ·exact e
 obtain ⟨V, hV⟩ : ∃ V, V = 256 ^ j * D := ⟨_, rfl⟩
 have hVp : 0 < V := by rw [hV]; exact Nat.mul_pos (Nat.pow_pos (by decide)) hDp
 have e1 : 256 ^ j * g * D = g * V := by rw [hV, Nat.mul_comm (256 ^ j) g, Nat.mul_assoc]
 rw [← hV] at hg
 rw [e1] at hs
 have hgq : g = W / V := Nat.le_antisymm ((Nat.le_div_iff_mul_le hVp).2 (by omega)) hg
 have hT : E + 256 ^ (j + n) * tp = W % V := by
  have := Nat.div_add_mod W V
  rw [Nat.mul_comm V, ← hgq] at this; omega
 have hTl := Nat.mod_lt W hVp
 have hVl : V < 256 ^ (j + n) := by rw [hV, Nat.pow_add]; exact Nat.mul_lt_mul_of_pos_left hD (Nat.pow_pos (by decide))
 have htp : tp = 0 := by
  rcases Nat.eq_zero_or_pos tp with e | e
  ·exact e
  ·have : 256 ^ (j + n) * 1 ≤ 256 ^ (j + n) * tp := Nat.mul_le_mul_left _ e
   omega
 subst htp
 have hEV : E = W % V := by omega
 have hE2 : ev 256 ((r1.set (j + n) 0).take (j + n)) = E := by rw [take_set_lt r1 _ _ _ (Nat.le_refl _), hE]
 refine ⟨rfl, by rw [List.length_set]; exact hlen, set_lt 256 r1 hdig _ 0 (by decide), ?_, ?_, ?_⟩
 ·rw [hE2, h.sum, ← hW, Nat.add_mul]
  have : g * 256 ^ j * D = g * V := by rw [hV, Nat.mul_assoc]
  omega
 ·rw [hE2, ← hV]; omega
 ·have h1 := h.dvd
  obtain ⟨q, hq⟩ := Nat.dvd_of_mod_eq_zero h1
  rw [hq, Nat.pow_succ, Nat.mul_assoc, Nat.mul_comm g, ← Nat.mul_add]; exact Nat.mul_mod_right _ _
/-- the estimate is too great -/
theorem div_less {W A D E P g : Nat} {top : Int} (hsum : (E : Int) + (P : Int) * top + ((A * g * D : Nat) : Int) = W) (hE : E < P) (ht : top < 0) : W < g * (A * D) := by
 have h1 : (P : Int) * top ≤ (P : Int) * (-1) := Int.mul_le_mul_of_nonneg_left (by omega) (by omega)
 have e : A * g * D = g * (A * D) := by rw [Nat.mul_comm A g, Nat.mul_assoc]
 rw [e] at hsum
 omega
/-- the subtraction is done -/
theorem div_sub {m g n D cy bw : Nat} {r d r2 : List Nat} (h : SubInv 256 m g r d n r2 cy bw) (hd : ev 256 (d.take n) = D) (hl : m + n < r.length) :
  (ev 256 (r2.take (m + n)) : Int) + ((256 ^ (m + n) : Nat) : Int) * ((r2.getD (m + n) 0 : Nat) - (cy : Int) - bw) + ((256 ^ m * g * D : Nat) : Int) = ev 256 (r.take (m + 1 + n)) := by
 have h1 := h.sum
 have h2 := getD_drop_eq h.high
 rw [hd] at h1
 rw [show m + 1 + n = m + n + 1 by omega, ev_take_succ 256 r (m + n) hl, ← h2]
 generalize 256 ^ (m + n) = P at *
 generalize 256 ^ m * g * D = G at *
 generalize r2.getD (m + n) 0 = x at *
 generalize ev 256 (r2.take (m + n)) = E at *
 generalize ev 256 (r.take (m + n)) = F at *
 have e : (P : Int) * ((x : Int) - cy - bw) = ((P * x : Nat) : Int) - ((P * (cy + bw) : Nat) : Int) := by
  rw [Int.natCast_mul, Int.natCast_mul, Int.natCast_add, Int.mul_sub, Int.mul_sub, Int.mul_add]; omega
 rw [e]; omega
/-- one is given back -/
theorem div_back {m g n D c : Nat} {W : Nat} {top : Int} {r3 d r4 : List Nat} (h : AddInv 256 m r3 d n r4 c) (hd : ev 256 (d.take n) = D) (hg : 1 ≤ g)
  (hs : (ev 256 (r3.take (m + n)) : Int) + ((256 ^ (m + n) : Nat) : Int) * top + ((256 ^ m * g * D : Nat) : Int) = W) :
  (ev 256 (r4.take (m + n)) : Int) + ((256 ^ (m + n) : Nat) : Int) * (top + c) + ((256 ^ m * (g - 1) * D : Nat) : Int) = W := by
 have h1 := h.sum
 rw [hd] at h1
 have e1 : 256 ^ m * g * D = 256 ^ m * (g - 1) * D + 256 ^ m * D := by
  obtain ⟨k, rfl⟩ : ∃ k, g = k + 1 := ⟨g - 1, by omega⟩
  rw [Nat.add_sub_cancel, Nat.mul_add, Nat.mul_one, Nat.add_mul]
 rw [e1] at hs
 rw [Int.mul_add]
 generalize 256 ^ (m + n) = P at *
 generalize 256 ^ m * (g - 1) * D = G at *
 generalize 256 ^ m * D = G' at *
 have e : (P : Int) * (c : Int) = ((P * c : Nat) : Int) := by rw [Int.natCast_mul]
 rw [e]; omega
theorem be_get : ∀ (k x i : Nat), i < k → (be k x)[i]? = some (UInt8.ofNat (x / 256 ^ (k - 1 - i)))
 | 0, x, i, h => by omega
 | k + 1, x, 0, h => by rw [be, List.getElem?_cons_zero]; rfl
 | k + 1, x, i + 1, h => by rw [be, List.getElem?_cons_succ, be_get k x i (by omega), show k + 1 - 1 - (i + 1) = k - 1 - i by omega]
theorem u8_mod' {x y : Nat} (h : x % 256 = y % 256) : UInt8.ofNat x = UInt8.ofNat y := UInt8.toNat.inj (by rw [UInt8.toNat_ofNat', UInt8.toNat_ofNat']; exact h)
/-- a place of the quotient is set -/
theorem be_set (L m Q g : Nat) (hm : m < L) (hg : g < 256) (hQ : Q % 256 ^ (m + 1) = 0) : (be L Q).set (L - 1 - m) (UInt8.ofNat g) = be L (Q + g * 256 ^ m) := by
 obtain ⟨q, rfl⟩ := Nat.dvd_of_mod_eq_zero hQ
 apply List.ext_getElem?
 intro i
 rcases Nat.lt_or_ge i L with h | h
 ·rw [be_get L _ i h]
  by_cases e : L - 1 - m = i
  ·subst e
   rw [List.getElem?_set_self (by rw [be_len]; omega), show L - 1 - (L - 1 - m) = m by omega]
   congr 1; apply u8_mod'
   rw [Nat.pow_succ, Nat.mul_assoc, Nat.mul_comm g, ← Nat.mul_add, Nat.mul_div_cancel_left _ (Nat.pow_pos (by decide))]; omega
  ·rw [List.getElem?_set_ne e, be_get L _ i h]
   congr 1; apply u8_mod'
   obtain ⟨t, ht⟩ : ∃ t, t = L - 1 - i := ⟨_, rfl⟩
   rw [← ht]
   rcases Nat.lt_or_ge t m with h1 | h1
   ·have e1 : 256 ^ (m + 1) * q = 256 ^ t * (256 * (256 ^ (m - t) * q)) := by
     rw [show m + 1 = t + (1 + (m - t)) by omega, Nat.pow_add, Nat.pow_add]; simp only [Nat.mul_assoc, Nat.pow_one]
    have e2 : g * 256 ^ m = 256 ^ t * (256 * (256 ^ (m - t - 1) * g)) := by
     rw [show m = t + (1 + (m - t - 1)) by omega, Nat.pow_add, Nat.pow_add, show t + (1 + (m - t - 1)) - t - 1 = m - t - 1 by omega]
     simp only [Nat.mul_comm, Nat.mul_assoc, Nat.mul_left_comm, Nat.pow_one]
    rw [e1, e2, ← Nat.mul_add, Nat.mul_div_cancel_left _ (Nat.pow_pos (by decide)), Nat.mul_div_cancel_left _ (Nat.pow_pos (by decide))]; omega
   ·obtain ⟨u, rfl⟩ : ∃ u, t = m + 1 + u := ⟨t - (m + 1), by omega⟩
    congr 1
    rw [Nat.pow_add 256 (m + 1) u, ← Nat.div_div_eq_div_mul, ← Nat.div_div_eq_div_mul, Nat.mul_div_cancel_left _ (Nat.pow_pos (by decide)), Nat.mul_add_div (Nat.pow_pos (by decide)), Nat.div_eq_of_lt (a := g * 256 ^ m) (by
     rw [Nat.pow_succ, Nat.mul_comm]; exact Nat.mul_lt_mul_of_pos_left hg (Nat.pow_pos (by decide))), Nat.add_zero]
 ·rw [List.getElem?_eq_none (by rw [List.length_set, be_len]; exact h), List.getElem?_eq_none (by rw [be_len]; exact h)]
/-- a digit grows, without a carry -/
theorem be_add (L m Q k : Nat) (hm : m < L) (hk : Q / 256 ^ m % 256 + k < 256) : (be L Q).set (L - 1 - m) (UInt8.ofNat (Q / 256 ^ m % 256 + k)) = be L (Q + k * 256 ^ m) := by
 apply List.ext_getElem?
 intro i
 have hdv : (Q + k * 256 ^ m) / 256 ^ m = Q / 256 ^ m + k := by rw [Nat.mul_comm, Nat.add_mul_div_left _ _ (Nat.pow_pos (by decide))]
 rcases Nat.lt_or_ge i L with h | h
 ·rw [be_get L _ i h]
  by_cases e : L - 1 - m = i
  ·subst e
   rw [List.getElem?_set_self (by rw [be_len]; omega), show L - 1 - (L - 1 - m) = m by omega, hdv]
   congr 1; apply u8_mod'; omega
  ·rw [List.getElem?_set_ne e, be_get L _ i h]
   congr 1; apply u8_mod'
   obtain ⟨t, ht⟩ : ∃ t, t = L - 1 - i := ⟨_, rfl⟩
   rw [← ht]
   rcases Nat.lt_or_ge t m with h1 | h1
   ·have e2 : k * 256 ^ m = 256 ^ t * (256 * (256 ^ (m - t - 1) * k)) := by
     rw [show m = t + (1 + (m - t - 1)) by omega, Nat.pow_add, Nat.pow_add, show t + (1 + (m - t - 1)) - t - 1 = m - t - 1 by omega]
     simp only [Nat.mul_comm, Nat.mul_assoc, Nat.mul_left_comm, Nat.pow_one]
    rw [e2, Nat.add_mul_div_left _ _ (Nat.pow_pos (by decide)), Nat.add_mul_mod_self_left]
   ·obtain ⟨u, rfl⟩ : ∃ u, t = m + 1 + u := ⟨t - (m + 1), by omega⟩
    rw [Nat.pow_add 256 (m + 1) u, Nat.pow_succ, ← Nat.div_div_eq_div_mul, ← Nat.div_div_eq_div_mul, ← Nat.div_div_eq_div_mul, ← Nat.div_div_eq_div_mul, hdv]
    rw [show (Q / 256 ^ m + k) / 256 = Q / 256 ^ m / 256 by omega]
 ·rw [List.getElem?_eq_none (by rw [List.length_set, be_len]; exact h), List.getElem?_eq_none (by rw [be_len]; exact h)]
/-! ### division bit by bit -/
theorem over_step {A B t c : Nat} (hB : 0 < B) (hc : c = 2 * (A / 2 ^ (t + 1) % B) + A / 2 ^ t % 2) :
  (B ≤ c → A / 2 ^ t / B = 2 * (A / 2 ^ (t + 1) / B) + 1 ∧ A / 2 ^ t % B = c - B) ∧ (c < B → A / 2 ^ t / B = 2 * (A / 2 ^ (t + 1) / B) ∧ A / 2 ^ t % B = c) := by
 have h1 : A / 2 ^ (t + 1) = A / 2 ^ t / 2 := by rw [Nat.pow_succ, Nat.div_div_eq_div_mul]
 rw [h1] at hc ⊢
 generalize A / 2 ^ t = X at *
 have h2 := Nat.div_add_mod (X / 2) B
 have h3 := Nat.mod_lt (X / 2) hB
 generalize X / 2 / B = u at *
 generalize X / 2 % B = R at *
 have hX : X = B * (2 * u) + c := by rw [Nat.mul_left_comm]; omega
 constructor
 ·intro h
  have hX2 : X = B * (2 * u + 1) + (c - B) := by rw [Nat.mul_add]; omega
  rw [hX2]
  constructor
  ·rw [Nat.mul_add_div hB, Nat.div_eq_of_lt (by omega), Nat.add_zero]
  ·rw [Nat.mul_add_mod, Nat.mod_eq_of_lt (by omega)]
 ·intro h
  rw [hX]
  constructor
  ·rw [Nat.mul_add_div hB, Nat.div_eq_of_lt h, Nat.add_zero]
  ·rw [Nat.mul_add_mod, Nat.mod_eq_of_lt h]
theorem two_split (i : Nat) : 2 ^ i = 2 ^ (i % 8) * 256 ^ (i / 8) := by
 rw [show (256 : Nat) = 2 ^ 8 from rfl, ← Nat.pow_mul, ← Nat.pow_add]; congr 1; omega
theorem over_digit (u t : Nat) : u * 2 ^ (t + 1) / 256 ^ (t / 8) % 256 + 2 ^ (t % 8) < 256 := by
 have e : u * 2 ^ (t + 1) = 256 ^ (t / 8) * (u * 2 ^ (t % 8 + 1)) := by
  rw [Nat.pow_succ, two_split t, Nat.pow_succ]; simp only [Nat.mul_comm, Nat.mul_left_comm, Nat.mul_assoc]
 rw [e, Nat.mul_div_cancel_left _ (Nat.pow_pos (by decide))]
 have h : t % 8 < 8 := Nat.mod_lt _ (by decide)
 rcases sh_cases h with h | h | h | h | h | h | h | h <;> rw [h] <;> omega
/-- a digit of the unscaled rest -/
theorem rest_digit (R s i : Nat) (h : s < 8) : R / 256 ^ i % 256 = (R * 2 ^ s / 256 ^ i % 256 + R * 2 ^ s / 256 ^ (i + 1) % 256 * 256) / 2 ^ s % 256 := by
 have e1 : R * 2 ^ s / 256 ^ i / 2 ^ s = R / 256 ^ i := by
  rw [Nat.div_div_eq_div_mul, Nat.mul_comm (256 ^ i), ← Nat.div_div_eq_div_mul, Nat.mul_div_cancel _ (Nat.two_pow_pos s)]
 rw [Nat.pow_succ, ← Nat.div_div_eq_div_mul, ← e1]
 generalize R * 2 ^ s / 256 ^ i = B
 rcases sh_cases h with rfl | rfl | rfl | rfl | rfl | rfl | rfl | rfl <;> omega
theorem div_end {L X D n Q : Nat} {r : List Nat} (h : DivInv L X D n 0 r Q) : Q = X / D ∧ ev 256 (r.take n) = X % D := by
 have h1 := h.sum; have h2 := h.lt
 rw [Nat.zero_add] at h1 h2
 rw [Nat.pow_zero, Nat.one_mul] at h2
 rw [h1]
 constructor
 ·rw [Nat.mul_comm, Nat.mul_add_div (by omega), Nat.div_eq_of_lt h2, Nat.add_zero]
 ·rw [Nat.mul_comm, Nat.mul_add_mod, Nat.mod_eq_of_lt h2]
end Go.Proofs.YtnimhldbblfgbaaGreat
namespace Go.Proofs.YtnimhldbblfgbaaGreat
set_option linter.unusedSimpArgs false
set_option linter.unusedVariables false
set_option maxRecDepth 20000
set_option maxHeartbeats 600000
open Go.RowKit
theorem bitLen8 : ∀ x, x < 256 → Lib.bitLen x ≤ 8 := by decide +kernel
theorem bitLen_up : ∀ x, x < 256 → (x + 1) * 2 ^ (8 - Lib.bitLen x) ≤ 256 := by decide +kernel
theorem bitLen_lz : ∀ x, x < 256 → x * 2 ^ (8 - Lib.bitLen x) < 256 := by decide +kernel
theorem bitLen_pos {x : Nat} (h : 0 < x) (h2 : x < 256) : 1 ≤ Lib.bitLen x := by rw [bitLen_step h (by omega)]; omega
theorem lz8_c {c : UInt8} {w : World} :
  Calls Tryz.prog 147 #[.int .u8 (c.toNat : Int)] w fun e w' => e = .returned (.int .i64 ((8 - Lib.bitLen c.toNat : Nat) : Int)) ∧ Below w.heap.size w w' := by
 have hc := c.toNat_lt
 have hb := bitLen8 c.toNat (by omega)
 refine enter (S := St (fun _ => True) w [] ([])) (L := [(0, .int .u8 (c.toNat : Int))]) Tryz.func147 rfl Tryz.ntmps147 rfl (args_cons rfl (args_nil _)) (St.start (fun _ _ => trivial) facts_nil) ?_
 refine WC.sr (Ka rfl (WL.nt (WC.sr (Km rfl ?_))))
 refine Kh rfl (og_call rfl rfl (by kernel_rfl) (keep_val fun w hS => len8_c (x := c.toNat) (by assumption))) ?_
 intro _
 (refine Kq rfl (rd_sub64ln rfl rfl rfl ?_) ?_; (focus (omega)))
 refine Ka rfl (WL.nt (WC.ret ?_))
 exact WX.retN rfl (.tmp rfl .nil) fun w' hS => ⟨by rfl, hS.below⟩
/-- the scaled divisor fits -/
theorem sc_fits {b : Bs} (h : Can b) (h0 : b ≠ []) : val b * 2 ^ (8 - Lib.bitLen (b.getD 0 default).toNat) < 256 ^ b.length := by
 cases b with
 | nil => exact absurd rfl h0
 | cons c s =>
  show (c.toNat * 256 ^ s.length + val s) * 2 ^ (8 - Lib.bitLen c.toNat) < 256 ^ (s.length + 1)
  have h1 := bitLen_lz c.toNat c.toNat_lt
  have h2 := val_lt s
  have h3 : (c.toNat * 256 ^ s.length + val s) * 2 ^ (8 - Lib.bitLen c.toNat) < (c.toNat + 1) * 256 ^ s.length * 2 ^ (8 - Lib.bitLen c.toNat) :=
   Nat.mul_lt_mul_of_pos_right (by rw [Nat.add_mul, Nat.one_mul]; omega) (Nat.two_pow_pos _)
  have h4 : (c.toNat + 1) * 2 ^ (8 - Lib.bitLen c.toNat) ≤ 256 := bitLen_up c.toNat c.toNat_lt
  have h5 : (c.toNat + 1) * 256 ^ s.length * 2 ^ (8 - Lib.bitLen c.toNat) = (c.toNat + 1) * 2 ^ (8 - Lib.bitLen c.toNat) * 256 ^ s.length := by
   rw [Nat.mul_assoc, Nat.mul_comm (256 ^ s.length), ← Nat.mul_assoc]
  have h6 : (c.toNat + 1) * 2 ^ (8 - Lib.bitLen c.toNat) * 256 ^ s.length ≤ 256 * 256 ^ s.length := Nat.mul_le_mul_right _ h4
  rw [Nat.pow_succ, Nat.mul_comm (256 ^ s.length)]; omega
theorem be_zero (n : Nat) : (be n 0).map B = List.replicate n (.int .u8 0) := by
 have h : be n 0 = List.replicate n 0 := by
  induction n with
  | zero => rfl
  | succ n ih => rw [be, ih]; simp [List.replicate_succ]
 rw [h, List.map_replicate]; rfl
theorem divided_c {a b : Bs} {w : World} (ha : okN a) (hb : okN b) (hb0 : b ≠ []) :
  Calls Tryz.prog 122 #[.string (S a), .string (S b)] w fun e w' => e = .returned (.tuple #[.string (S (canon (val a / val b))), .string (S (canon (val a % val b)))]) ∧ Below w.heap.size w w' := by
 have hal := ha.1; have hbl := hb.1
 have hvb : 0 < val b := Nat.pos_of_ne_zero fun h => hb0 ((val_eq_zero hb.2).1 h)
 refine enter (S := St (fun _ => True) w [] ([])) (L := [(0, .string (S a)), (1, .string (S b))]) Tryz.func122 rfl Tryz.ntmps122 rfl (args_cons rfl (args_cons rfl (args_nil _))) (St.start (fun _ _ => trivial) facts_nil) ?_
 refine WC.sr (Ka rfl (Ka rfl (WL.nt (WC.seq (WC.sr (Km rfl (Km rfl ?_)))))))
 refine Kh rfl (og_call rfl rfl (by kernel_rfl) (keep_val fun w hS => compare_c (a := a) (b := b) (by exact ha.2) (by exact hb.2))) ?_
 intro _
 refine Kq rfl (rd_lss rfl rfl rfl) (WL.nt ?_)
 refine WC.cond rfl (fun hc32 => ?_) (fun hc32 => ?_)
 ·(try simp only [sB] at hc32)
  have hlt : val a < val b := (cmpI_neg _ _).1 hc32
  refine WC.sr (Km rfl (Ka rfl (Ka rfl (WL.nt (WC.ret (WX.then_ret ?_))))))
  exact WX.retN rfl (.tmp rfl (.tmp rfl .nil)) fun w' hS => ⟨by rw [Nat.div_eq_of_lt hlt, Nat.mod_eq_of_lt hlt, canon_zero, ok_canon ha]; rfl, hS.below⟩
 ·(try simp only [sB] at hc32)
  have hge : val b ≤ val a := Nat.not_lt.1 fun h => absurd ((cmpI_neg _ _).2 h) (by omega)
  have hlen : b.length ≤ a.length := can_len hb.2 ha.2 hge
  refine WC.skip (WX.then_normal (WC.seq (WC.sr (Km rfl (Kq rfl (rd_slen rfl rfl Tryz.underlying22) (Kq rfl (rd_leq rfl rfl rfl) (WL.nt ?_)))))))
  refine WC.cond rfl (fun hc36 => ?_) (fun hc36 => ?_)
  ·(try simp only [sB] at hc36)
   have hsa : smallN a = (val a, true) := by rw [smallN, if_pos ⟨ha, by omega⟩]
   have hsb : smallN b = (val b, true) := by rw [smallN, if_pos ⟨hb, by omega⟩]
   have hva8 : val a < 18446744073709551616 := val_8 (by omega)
   have hdv := Nat.div_le_self (val a) (val b)
   have hmd := Nat.mod_lt (val a) hvb
   refine WC.sr (Km rfl ?_)
   refine Kh rfl (og_call rfl rfl (by kernel_rfl) (keep_val fun w hS => (by have := small_c (w := w) (a := a) (by omega); rw [hsa] at this; exact this))) ?_
   intro _
   refine Km rfl (Kq rfl (rd_extL rfl rfl rfl) (Kq rfl (rd_extL rfl rfl rfl) (Ka rfl (Ka rfl (WL.nt (WC.sr (Km rfl ?_)))))))
   refine Kh rfl (og_call rfl rfl (by kernel_rfl) (keep_val fun w hS => (by have := small_c (w := w) (a := b) (by omega); rw [hsb] at this; exact this))) ?_
   intro _
   refine Km rfl (Kq rfl (rd_extL rfl rfl rfl) (Kq rfl (rd_extL rfl rfl rfl) (Ka rfl (Ka rfl (WL.nt (WC.seq ?_))))))
   refine WC.free0 [0, 1, 2, 3, 4, 5, 6, 7, 8, 9] [] [0, 0, 0, 1, 0, 0, 0, 1, 0, 0] (by kernel_rfl) (by kernel_rfl) rfl ?_
   refine Kj rfl (rd_move rfl rfl) ?_
   refine Kj rfl (rd_move rfl rfl) ?_
   refine Kj rfl (rd_quoW rfl rfl rfl ?_) ?_
   ·omega
   refine WJ.gv rfl rfl rfl rfl rfl (fun ext => og_call rfl rfl (by kernel_rfl) (keep_val fun w hS => of_c (n := val a / val b) (by omega))) ?_
   refine Kj rfl (rd_move rfl rfl) ?_
   refine Kj rfl (rd_move rfl rfl) ?_
   refine Kj rfl (rd_remW rfl rfl rfl ?_) ?_
   ·assumption
   refine WJ.gv rfl rfl rfl rfl rfl (fun ext => og_call rfl rfl (by kernel_rfl) (keep_val fun w hS => of_c (n := val a % val b) (by omega))) ?_
   refine Kj rfl (rd_assign rfl rfl) ?_
   refine Kj rfl (rd_assign rfl rfl) ?_
   refine WJ.nil ?_
   refine WL.nt (WC.ret (WX.then_ret ?_))
   exact WX.retN rfl (.tmp rfl (.tmp rfl .nil)) fun w' hS => ⟨by rfl, hS.below⟩
  ·(try simp only [sB] at hc36)
   obtain ⟨s, hs⟩ : ∃ s, s = 8 - Lib.bitLen (b.getD 0 default).toNat := ⟨_, rfl⟩
   have hcb := (can_iff b).1 hb.2
   have hbp : 0 < b.length := List.length_pos_iff.2 hb0
   have hs8 : s < 8 := by have := bitLen_pos (x := (b.getD 0 default).toNat) (by omega) (b.getD 0 default).toNat_lt; omega
   have hfit := sc_fits hb.2 hb0
   rw [← hs] at hfit
   obtain ⟨D, hD⟩ : ∃ D, D = val b * 2 ^ s := ⟨_, rfl⟩
   rw [← hD] at hfit
   have hdg : ∀ (x k : Nat), x / 256 ^ k % 256 * 2 ^ s < 65536 := fun x k => by
    have h1 : x / 256 ^ k % 256 < 256 := Nat.mod_lt _ (by decide)
    generalize x / 256 ^ k % 256 = y at *
    rcases sh_cases hs8 with rfl | rfl | rfl | rfl | rfl | rfl | rfl | rfl <;> omega
   have hdg2 : ∀ (x k : Nat), x / 256 ^ k % 256 < 256 := fun x k => Nat.mod_lt _ (by decide)
   refine WC.skip (WX.then_normal (WC.sr (Km rfl ?_)))
   (refine Kq rfl (rd_sidxN rfl rfl rfl Tryz.underlying22 ?_) ?_; (focus (assumption)))
   refine Kh rfl (og_call rfl rfl (by kernel_rfl) (keep_val fun w hS => lz8_c (c := b.getD 0 default))) ?_
   intro _
   refine WL.set 57 rfl (v' := .int .i64 ((s : Nat) : Int)) (congrArg (Value.int .i64) (by rw [hs])) ?_
   refine Ka rfl (WL.nt (WC.sr (Km rfl (Kq rfl (rd_slen rfl rfl Tryz.underlying22) (Ka rfl (WL.nt (WC.sr (Km rfl ?_))))))))
   refine Kh rfl (og_mk rfl rfl rfl Tryz.underlying158 (by kernel_rfl : _ = some (some (.int .i64 0), 1, 8)) rfl ?_ (by (try simp only [sN, Int.reduceToNat, Nat.reduceAdd, Nat.reduceMul, Nat.reduceSub]); rfl) (by (try simp only [sN, Int.reduceToNat, Nat.reduceAdd, Nat.reduceMul, Nat.reduceSub]); rfl)) ?_
   ·omega
   intro b61
   refine Ka rfl (WL.nt (WC.seq (WC.sr (Km rfl (Km rfl (WL.nt (WC.block ?_)))))))
   refine WC.loopO (σ := Nat) [(0, _), (1, _), (10, _), (11, _), (12, _), (62, _)] (fun gq => [(63, .int .i64 (gq : Int))]) (fun gq => gq ≤ b.length) (fun gq => b.length - gq) (fun gq => [⟨some b61, cols (digs D gq ++ List.replicate (b.length - gq) 0), 3⟩]) (fun gq => []) (0) (sub_cons rfl (sub_cons rfl (sub_cons rfl (sub_cons rfl (sub_cons rfl (sub_cons rfl (sub_nil _))))))) (sub_cons rfl (sub_nil _)) (by (try dsimp only); omega) (by exact fun w h => by rw [show digs D 0 ++ List.replicate (b.length - 0) 0 = List.replicate b.length 0 from rfl, cols_rep]; exact h) ?_
   rintro k hinv1; (try dsimp only at hinv1 ⊢)
   obtain hk := hinv1
   refine WC.sr (Kq rfl (rd_lss rfl rfl rfl) (WL.nt (WC.seq ?_)))
   refine WC.cond rfl (fun hc64 => ?_) (fun hc64 => ?_)
   ·(try simp only [sB] at hc64)
    have hd1 := hdg (val b) k
    have hd2 := hdg2 (val b) k
    have hll : (digs D k ++ List.replicate (b.length - k) 0).length = b.length := by rw [List.length_append, digs_len, List.length_replicate]; omega
    refine WC.skip (WX.then_normal ?_)
    refine WC.joinO (σ := Unit) [(0, _), (1, _), (10, _), (11, _), (12, _), (62, _), (63, _)] (fun gq => []) (fun gq => True) (fun gq => [⟨some b61, cols (digs D (k + 1) ++ List.replicate (b.length - (k + 1)) 0), 3⟩]) (fun gq => []) (sub_cons rfl (sub_cons rfl (sub_cons rfl (sub_cons rfl (sub_cons rfl (sub_cons rfl (sub_cons rfl (sub_nil _)))))))) ?_ ?_
    ·skip
     refine WC.block (WC.sr (Km rfl (Ka rfl (WL.nt (WC.sr (Km rfl (Km rfl (Km rfl (Km rfl ?_)))))))))
     refine Kh rfl (og_call rfl rfl (by kernel_rfl) (keep_val fun w hS => digit_c (a := b) (i := k) (by omega) (by omega))) ?_
     intro _
     refine Km rfl ?_
     (refine Kq rfl (rd_shlW rfl rfl rfl ?_ ?_) ?_; (focus ((show _ ≤ 64; omega))); (focus (omega)))
     refine Kq rfl (rd_andW 8 rfl rfl rfl (by decide) ?_) ?_
     ·omega
     (refine Kq rfl (rd_ia rfl rfl rfl Tryz.underlying158 (by kernel_rfl : _ = some 1) ?_ (by (try simp only [sN, Int.reduceToNat, Nat.reduceAdd, Nat.reduceMul, Nat.reduceSub]); rfl)) ?_; (focus (omega)))
     refine WL.g0 rfl rfl (st rfl rfl rfl .tc (by kernel_rfl) rfl ?_ (by rfl)) ?_
     ·rw [cols_len, hll]; omega
     intro _
     rw [cols_set]
     refine WL.nt (WC.sr (Km rfl (Kq rfl (rd_gtr rfl rfl rfl) (WL.nt ?_))))
     refine WC.cond rfl (fun hc76 => ?_) (fun hc76 => ?_)
     ·(try simp only [sB] at hc76)
      have hk1 : k - 1 + 1 = k := by omega
      have hsc := sc_digit (val b) s (k - 1) hs8
      have hsp := sc_parts (val b) s (k - 1) hs8
      rw [hk1] at hsc hsp
      rw [← hD] at hsc
      have hd3 := hdg2 (val b) (k - 1)
      refine WC.free0 [4, 5, 6, 7, 0, 1, 2, 3, 8, 9, 10, 11, 12] [13] [0, 0, 0, 0, 0, 0, 0, 1, 0, 0, 0, 0, 0, 2] (by kernel_rfl) (by kernel_rfl) rfl ?_
      refine Kj rfl (rd_move rfl rfl) ?_
      refine Kj rfl (rd_move rfl rfl) ?_
      (refine Kj rfl (rd_sub64nl rfl rfl rfl ?_) ?_; (focus (omega)))
      refine WJ.gv rfl rfl rfl rfl rfl (fun ext => og_call rfl rfl (by kernel_rfl) (keep_val fun w hS => digit_c (a := b) (i := k - 1) (by omega) (by omega))) ?_
      refine Kj rfl (rd_move rfl rfl) ?_
      refine Kj rfl (rd_move rfl rfl) ?_
      (refine Kj rfl (rd_ia rfl rfl rfl Tryz.underlying158 (by kernel_rfl : _ = some 1) ?_ (by (try simp only [sN, Int.reduceToNat, Nat.reduceAdd, Nat.reduceMul, Nat.reduceSub]); rfl)) ?_; (focus (omega)))
      refine Kj rfl (ld rfl rfl .tc Tryz.underlying3 rfl (cols_get _ _ (by rw [List.length_set, hll]; omega))) ?_
      refine WJ.set 80 rfl (v' := .int .i64 ((val b / 256 ^ k % 256 * 2 ^ s % 2 ^ 8 : Nat) : Int)) (congrArg (Value.int .i64) (by rw [getD_set_eq _ _ _ (by rw [hll]; omega)])) ?_
      refine Kj rfl (rd_move rfl rfl) ?_
      (refine Kj rfl (rd_sub64ln rfl rfl rfl ?_) ?_; (focus (omega)))
      (refine Kj rfl (rd_shrW rfl rfl rfl ?_) ?_; (focus ((show _ ≤ 64; omega))))
      refine Kj rfl (rd_orW s rfl rfl rfl ?_) ?_
      ·exact ⟨hsp.2.1, by omega, hsp.1, by omega⟩
      (refine Kj rfl (rd_ia rfl rfl rfl Tryz.underlying158 (by kernel_rfl : _ = some 1) ?_ (by (try simp only [sN, Int.reduceToNat, Nat.reduceAdd, Nat.reduceMul, Nat.reduceSub]); rfl)) ?_; (focus (omega)))
      refine WJ.nil ?_
      refine WL.g0 rfl rfl (st rfl rfl rfl .tc (by kernel_rfl) rfl ?_ (by rfl)) ?_
      ·rw [cols_len, List.length_set, hll]; omega
      intro _
      rw [cols_set, List.set_set]
      refine WL.nil (WX.block_normal ?_)
      refine WX.joinO (()) (sub_cons rfl (sub_cons rfl (sub_cons rfl (sub_cons rfl (sub_cons rfl (sub_cons rfl (sub_cons rfl (sub_nil _)))))))) (sub_nil _) ?_ (by exact fun w h => by rw [← digs_set D b.length k (by omega), hsc]; exact h)
      (try dsimp only)
      done
     ·(try simp only [sB] at hc76)
      obtain rfl : k = 0 := by omega
      have hsc := sc_digit0 (val b) s
      rw [← hD] at hsc
      refine WC.skip (WX.block_normal ?_)
      refine WX.joinO (()) (sub_cons rfl (sub_cons rfl (sub_cons rfl (sub_cons rfl (sub_cons rfl (sub_cons rfl (sub_cons rfl (sub_nil _)))))))) (sub_nil _) ?_ (by exact fun w h => by rw [← digs_set D b.length 0 (by omega), hsc]; exact h)
      (try dsimp only)
      done
    ·rintro _ hmeet; (try dsimp only at hmeet ⊢)
     refine WC.region ?_
     (refine Kq rfl (rd_add64nl rfl rfl rfl ?_) ?_; (focus (omega)))
     refine Km rfl (WL.nil ?_)
     refine WX.loopO (k + 1) (by (try dsimp only); omega) (sub_cons rfl (sub_cons rfl (sub_cons rfl (sub_cons rfl (sub_cons rfl (sub_cons rfl (sub_nil _))))))) (by refine (sub_cons ?_ (sub_nil _)) <;> (rfl)) ?_ (by (exact fun _ h => h))
     (try dsimp only)
     omega
   ·(try simp only [sB] at hc64)
    refine WC.exit (WX.then_exit (WX.then_exit (WX.block_exit ?_)))
    obtain rfl : k = b.length := by omega
    rw [show List.replicate (b.length - b.length) 0 = ([] : List Nat) by rw [Nat.sub_self]; rfl, List.append_nil]
    obtain ⟨X, hX⟩ : ∃ X, X = val a * 2 ^ s := ⟨_, rfl⟩
    refine WX.then_normal (WC.sr (Km rfl (Kq rfl (rd_slen rfl rfl Tryz.underlying22) ?_)))
    (refine Kq rfl (rd_add64nl rfl rfl rfl ?_) ?_; (focus (omega)))
    refine Kh rfl (og_mk rfl rfl rfl Tryz.underlying158 (by kernel_rfl : _ = some (some (.int .i64 0), 1, 8)) rfl ?_ (by (try simp only [sN, Int.reduceToNat, Nat.reduceAdd, Nat.reduceMul, Nat.reduceSub]); rfl) (by (try simp only [sN, Int.reduceToNat, Nat.reduceAdd, Nat.reduceMul, Nat.reduceSub]); rfl)) ?_
    ·omega
    intro b94
    refine Ka rfl (WL.nt (WC.seq (WC.sr (Km rfl (Kq rfl (rd_len rfl rfl Tryz.underlying158) (Km rfl (WL.nt (WC.block ?_))))))))
    refine WC.loopO (σ := Nat) [(0, _), (10, _), (11, _), (12, _), (14, _), (96, _)] (fun gq => [(97, .int .i64 (gq : Int))]) (fun gq => gq ≤ a.length + 1) (fun gq => a.length + 1 - gq) (fun gq => [⟨some b94, cols (digs X gq ++ List.replicate (a.length + 1 - gq) 0), 3⟩, ⟨some b61, cols (digs D b.length), 3⟩]) (fun gq => []) (0) (sub_cons rfl (sub_cons rfl (sub_cons rfl (sub_cons rfl (sub_cons rfl (sub_cons rfl (sub_nil _))))))) (sub_cons rfl (sub_nil _)) (by (try dsimp only); omega) (by exact fun w h => by rw [show digs X 0 ++ List.replicate (a.length + 1 - 0) 0 = List.replicate (a.length + 1) 0 from rfl, cols_rep]; exact h) ?_
    rintro k hinv2; (try dsimp only at hinv2 ⊢)
    obtain hk := hinv2
    refine WC.sr (Kq rfl (rd_lss rfl rfl rfl) (WL.nt (WC.seq ?_)))
    refine WC.cond rfl (fun hc98 => ?_) (fun hc98 => ?_)
    ·(try simp only [sB] at hc98)
     have hd1 := hdg (val a) k
     have hd2 := hdg2 (val a) k
     have hll : (digs X k ++ List.replicate (a.length + 1 - k) 0).length = a.length + 1 := by rw [List.length_append, digs_len, List.length_replicate]; omega
     refine WC.skip (WX.then_normal ?_)
     refine WC.joinO (σ := Unit) [(0, _), (10, _), (11, _), (12, _), (14, _), (96, _), (97, _)] (fun gq => []) (fun gq => True) (fun gq => [⟨some b94, cols (digs X (k + 1) ++ List.replicate (a.length + 1 - (k + 1)) 0), 3⟩, ⟨some b61, cols (digs D b.length), 3⟩]) (fun gq => []) (sub_cons rfl (sub_cons rfl (sub_cons rfl (sub_cons rfl (sub_cons rfl (sub_cons rfl (sub_cons rfl (sub_nil _)))))))) ?_ ?_
     ·skip
      refine WC.block (WC.sr (Km rfl (Ka rfl (WL.nt (WC.sr (Km rfl (Km rfl (Km rfl (Km rfl ?_)))))))))
      refine Kh rfl (og_call rfl rfl (by kernel_rfl) (keep_val fun w hS => digit_c (a := a) (i := k) (by omega) (by omega))) ?_
      intro _
      refine Km rfl ?_
      (refine Kq rfl (rd_shlW rfl rfl rfl ?_ ?_) ?_; (focus ((show _ ≤ 64; omega))); (focus (omega)))
      refine Kq rfl (rd_andW 8 rfl rfl rfl (by decide) ?_) ?_
      ·omega
      (refine Kq rfl (rd_ia rfl rfl rfl Tryz.underlying158 (by kernel_rfl : _ = some 1) ?_ (by (try simp only [sN, Int.reduceToNat, Nat.reduceAdd, Nat.reduceMul, Nat.reduceSub]); rfl)) ?_; (focus (omega)))
      refine WL.g0 rfl rfl (st rfl rfl rfl .tc (by kernel_rfl) rfl ?_ (by rfl)) ?_
      ·rw [cols_len, hll]; omega
      intro _
      rw [cols_set]
      refine WL.nt (WC.sr (Km rfl (Kq rfl (rd_gtr rfl rfl rfl) (WL.nt ?_))))
      refine WC.cond rfl (fun hc110 => ?_) (fun hc110 => ?_)
      ·(try simp only [sB] at hc110)
       have hk1 : k - 1 + 1 = k := by omega
       have hsc := sc_digit (val a) s (k - 1) hs8
       have hsp := sc_parts (val a) s (k - 1) hs8
       rw [hk1] at hsc hsp
       rw [← hX] at hsc
       have hd3 := hdg2 (val a) (k - 1)
       refine WC.free0 [4, 5, 6, 7, 0, 1, 2, 3, 8, 9, 10, 11, 12] [13] [0, 0, 0, 0, 0, 0, 0, 1, 0, 0, 0, 0, 0, 2] (by kernel_rfl) (by kernel_rfl) rfl ?_
       refine Kj rfl (rd_move rfl rfl) ?_
       refine Kj rfl (rd_move rfl rfl) ?_
       (refine Kj rfl (rd_sub64nl rfl rfl rfl ?_) ?_; (focus (omega)))
       refine WJ.gv rfl rfl rfl rfl rfl (fun ext => og_call rfl rfl (by kernel_rfl) (keep_val fun w hS => digit_c (a := a) (i := k - 1) (by omega) (by omega))) ?_
       refine Kj rfl (rd_move rfl rfl) ?_
       refine Kj rfl (rd_move rfl rfl) ?_
       (refine Kj rfl (rd_ia rfl rfl rfl Tryz.underlying158 (by kernel_rfl : _ = some 1) ?_ (by (try simp only [sN, Int.reduceToNat, Nat.reduceAdd, Nat.reduceMul, Nat.reduceSub]); rfl)) ?_; (focus (omega)))
       refine Kj rfl (ld rfl rfl .tc Tryz.underlying3 rfl (cols_get _ _ (by rw [List.length_set, hll]; omega))) ?_
       refine WJ.set 114 rfl (v' := .int .i64 ((val a / 256 ^ k % 256 * 2 ^ s % 2 ^ 8 : Nat) : Int)) (congrArg (Value.int .i64) (by rw [getD_set_eq _ _ _ (by rw [hll]; omega)])) ?_
       refine Kj rfl (rd_move rfl rfl) ?_
       (refine Kj rfl (rd_sub64ln rfl rfl rfl ?_) ?_; (focus (omega)))
       (refine Kj rfl (rd_shrW rfl rfl rfl ?_) ?_; (focus ((show _ ≤ 64; omega))))
       refine Kj rfl (rd_orW s rfl rfl rfl ?_) ?_
       ·exact ⟨hsp.2.1, by omega, hsp.1, by omega⟩
       (refine Kj rfl (rd_ia rfl rfl rfl Tryz.underlying158 (by kernel_rfl : _ = some 1) ?_ (by (try simp only [sN, Int.reduceToNat, Nat.reduceAdd, Nat.reduceMul, Nat.reduceSub]); rfl)) ?_; (focus (omega)))
       refine WJ.nil ?_
       refine WL.g0 rfl rfl (st rfl rfl rfl .tc (by kernel_rfl) rfl ?_ (by rfl)) ?_
       ·rw [cols_len, List.length_set, hll]; omega
       intro _
       rw [cols_set, List.set_set]
       refine WL.nil (WX.block_normal ?_)
       refine WX.joinO (()) (sub_cons rfl (sub_cons rfl (sub_cons rfl (sub_cons rfl (sub_cons rfl (sub_cons rfl (sub_cons rfl (sub_nil _)))))))) (sub_nil _) ?_ (by exact fun w h => by rw [← digs_set X (a.length + 1) k (by omega), hsc]; exact h)
       (try dsimp only)
       done
      ·(try simp only [sB] at hc110)
       obtain rfl : k = 0 := by omega
       have hsc := sc_digit0 (val a) s
       rw [← hX] at hsc
       refine WC.skip (WX.block_normal ?_)
       refine WX.joinO (()) (sub_cons rfl (sub_cons rfl (sub_cons rfl (sub_cons rfl (sub_cons rfl (sub_cons rfl (sub_cons rfl (sub_nil _)))))))) (sub_nil _) ?_ (by exact fun w h => by rw [← digs_set X (a.length + 1) 0 (by omega), hsc]; exact h)
       (try dsimp only)
       done
     ·rintro _ hmeet; (try dsimp only at hmeet ⊢)
      refine WC.region ?_
      (refine Kq rfl (rd_add64nl rfl rfl rfl ?_) ?_; (focus (omega)))
      refine Km rfl (WL.nil ?_)
      refine WX.loopO (k + 1) (by (try dsimp only); omega) (sub_cons rfl (sub_cons rfl (sub_cons rfl (sub_cons rfl (sub_cons rfl (sub_cons rfl (sub_nil _))))))) (by refine (sub_cons ?_ (sub_nil _)) <;> (rfl)) ?_ (by (exact fun _ h => h))
      (try dsimp only)
      omega
    ·(try simp only [sB] at hc98)
     refine WC.exit (WX.then_exit (WX.then_exit (WX.block_exit ?_)))
     obtain rfl : k = a.length + 1 := by omega
     rw [show List.replicate (a.length + 1 - (a.length + 1)) 0 = ([] : List Nat) by rw [Nat.sub_self]; rfl, List.append_nil]
     have hXl : X < 256 ^ (a.length - b.length + 1) * D := by
      have h1 := val_lt a
      have h2 := can_ge hb.2 hb0
      rw [hX, hD, ← Nat.mul_assoc]
      refine Nat.mul_lt_mul_of_pos_right ?_ (Nat.two_pow_pos s)
      refine Nat.lt_of_lt_of_le h1 (Nat.le_trans ?_ (Nat.mul_le_mul_left _ h2))
      rw [← Nat.pow_add]; exact Nat.pow_le_pow_right (by decide) (by omega)
     have hXL : X < 256 ^ (a.length + 1) := by
      have h1 := val_lt a
      rw [hX, Nat.pow_succ]
      exact Nat.mul_lt_mul'' h1 (by rcases sh_cases hs8 with h | h | h | h | h | h | h | h <;> rw [h] <;> decide)
     have hdi0 := div_start (L := a.length + 1) (X := X) (D := D) (n := b.length) (t := a.length - b.length + 1) (by omega) hXl hXL
     have hDev : ev 256 (digs D b.length) = D := by rw [ev_digs, Nat.mod_eq_of_lt hfit]
     have hDt : 0 < (digs D b.length).getD (b.length - 1) 0 := by
      have h2 := can_ge hb.2 hb0
      have h3 : val b * 1 ≤ val b * 2 ^ s := Nat.mul_le_mul_left _ (Nat.two_pow_pos s)
      rw [digs_get _ _ _ (by omega), Nat.mod_eq_of_lt (by
       rw [Nat.div_lt_iff_lt_mul (Nat.pow_pos (by decide)), ← Nat.pow_succ', show (b.length - 1).succ = b.length by omega]; exact hfit)]
      exact Nat.div_pos (by omega) (Nat.pow_pos (by decide))
     have hDl := getD_lt 256 (by decide) _ (digs_lt D b.length) (b.length - 1)
     have hDp : 0 < D := by rw [hD]; exact Nat.mul_pos hvb (Nat.two_pow_pos s)
     refine WX.then_normal (WC.sr (Km rfl (Kq rfl (rd_slen rfl rfl Tryz.underlying22) (Km rfl ?_))))
     (refine Kq rfl (rd_sub64n rfl rfl rfl ?_) ?_; (focus (omega)))
     (refine Kq rfl (rd_add64nl rfl rfl rfl ?_) ?_; (focus (omega)))
     refine Kh rfl (og_mk rfl rfl rfl Tryz.underlying128 (by kernel_rfl : _ = some (some (.int .u8 0), 1, 1)) rfl ?_ (by (try simp only [sN, Int.reduceToNat, Nat.reduceAdd, Nat.reduceMul, Nat.reduceSub]); rfl) (by (try simp only [sN, Int.reduceToNat, Nat.reduceAdd, Nat.reduceMul, Nat.reduceSub]); rfl)) ?_
     ·omega
     intro b130
     refine Ka rfl (WL.nt (WC.seq (WC.sr (Km rfl (Kq rfl (rd_slen rfl rfl Tryz.underlying22) (Km rfl ?_))))))
     (refine Kq rfl (rd_sub64n rfl rfl rfl ?_) ?_; (focus (omega)))
     refine Ka rfl (WL.nt (WC.block ?_))
     refine WC.loopO (σ := Nat × (List Nat) × Nat × Int) [(10, _), (11, _), (12, _), (14, _), (16, _)] (fun gq => [(17, .int .i64 gq.2.2.2)]) (fun gq => gq.1 ≤ a.length - b.length + 1 ∧ DivInv (a.length + 1) X D b.length gq.1 gq.2.1 gq.2.2.1 ∧ gq.2.2.1 < 256 ^ (a.length - b.length + 1) ∧ gq.2.2.2 = (gq.1 : Int) - 1 ∧ (gq.1 < a.length - b.length + 1 → gq.2.1.getD (gq.1 + b.length) 0 = 0)) (fun gq => gq.1) (fun gq => [⟨some b130, (be (a.length - b.length + 1) gq.2.2.1).map B, 5⟩, ⟨some b94, cols gq.2.1, 3⟩, ⟨some b61, cols (digs D b.length), 3⟩]) (fun gq => []) (a.length - b.length + 1, digs X (a.length + 1), 0, ((a.length - b.length : Nat) : Int)) (sub_cons rfl (sub_cons rfl (sub_cons rfl (sub_cons rfl (sub_cons rfl (sub_nil _)))))) (sub_cons rfl (sub_nil _)) (by (try dsimp only); exact ⟨by omega, hdi0, Nat.pow_pos (by decide), by omega, fun h => absurd h (by omega)⟩) (by exact fun w h => by rw [show (be (a.length - b.length + 1) 0).map B = List.replicate (a.length - b.length + 1) (.int .u8 0) from be_zero _]; exact h) ?_
     rintro ⟨t, r, Q, j⟩ hinv3; (try dsimp only at hinv3 ⊢)
     obtain ⟨ht, hdi, hQ, hj, hz⟩ := hinv3
     refine WC.seq (WC.sr (Km rfl (Kq rfl (rd_geq rfl rfl rfl) (WL.nt ?_))))
     refine WC.cond rfl (fun hc136 => ?_) (fun hc136 => ?_)
     ·(try simp only [sB] at hc136)
      obtain ⟨m, rfl⟩ : ∃ m, t = m + 1 := ⟨t - 1, by omega⟩
      refine WC.set 17 rfl (v' := .int .i64 ((m : Nat) : Int)) (by rw [hj]; congr 1; omega) ?_
      have hrl := hdi.len
      have hr1 := getD_lt 256 (by decide) _ hdi.dig (m + b.length)
      have hr0 := getD_lt 256 (by decide) _ hdi.dig (m + b.length - 1)
      obtain ⟨gu, hg⟩ : ∃ g, g = min ((r.getD (m + b.length) 0 * 2 ^ 8 + r.getD (m + b.length - 1) 0) / (digs D b.length).getD (b.length - 1) 0) 255 := ⟨_, rfl⟩
      have hgl : gu < 256 := by omega
      have hgg := guess_ge (β := 256) (j := m) (n := b.length) (q := ev 256 (r.take (m + 1 + b.length)) / (256 ^ m * D)) (d := digs D b.length) (by decide) hbp (digs_len D _) (by omega) hdi.dig (show ev 256 (r.take (m + 1 + b.length)) = _ by rw [show m + 1 + b.length = m + b.length + 1 by omega]) hDev.symm hDt (Nat.div_mul_le_self _ _) hdi.lt
      obtain ⟨qq, hqq⟩ : ∃ qq, qq = ev 256 (r.take (m + 1 + b.length)) / (256 ^ m * D) := ⟨_, rfl⟩
      rw [← hqq] at hgg
      have hgq : qq ≤ gu := by rw [hg]; exact Nat.le_min.2 ⟨hgg.1, Nat.le_of_lt_succ hgg.2⟩
      have hVp : 0 < 256 ^ m * D := Nat.mul_pos (Nat.pow_pos (by decide)) hDp
      refine WC.skip (WX.then_normal (WC.seq (WC.block (WC.seq ?_))))
      refine WC.free0 [0, 1, 2, 3, 4, 5, 6, 7, 8, 9, 10, 11, 12, 13, 14, 15, 16, 17, 18, 19, 20, 21, 22] [] [0, 0, 0, 0, 0, 0, 0, 0, 0, 0, 0, 0, 0, 0, 0, 0, 0, 0, 0, 0, 0, 0, 0] (by kernel_rfl) (by kernel_rfl) rfl ?_
      refine Kj rfl (rd_move rfl rfl) ?_
      refine Kj rfl (rd_move rfl rfl) ?_
      refine Kj rfl (rd_move rfl rfl) ?_
      (refine Kj rfl (rd_add64n rfl rfl rfl ?_) ?_; (focus (omega)))
      (refine Kj rfl (rd_ia rfl rfl rfl Tryz.underlying158 (by kernel_rfl : _ = some 1) ?_ (by (try simp only [sN, Int.reduceToNat, Nat.reduceAdd, Nat.reduceMul, Nat.reduceSub]); rfl)) ?_; (focus (omega)))
      refine Kj rfl (ld rfl rfl .tc Tryz.underlying3 rfl (cols_get r _ (by omega))) ?_
      (refine Kj rfl (rd_shlW (c := 8) rfl rfl rfl ?_ ?_) ?_; (focus (decide)); (focus (omega)))
      refine Kj rfl (rd_move rfl rfl) ?_
      refine Kj rfl (rd_move rfl rfl) ?_
      refine Kj rfl (rd_move rfl rfl) ?_
      (refine Kj rfl (rd_add64n rfl rfl rfl ?_) ?_; (focus (omega)))
      (refine Kj rfl (rd_sub64nl rfl rfl rfl ?_) ?_; (focus (omega)))
      (refine Kj rfl (rd_ia rfl rfl rfl Tryz.underlying158 (by kernel_rfl : _ = some 1) ?_ (by (try simp only [sN, Int.reduceToNat, Nat.reduceAdd, Nat.reduceMul, Nat.reduceSub]); rfl)) ?_; (focus (omega)))
      refine Kj rfl (ld rfl rfl .tc Tryz.underlying3 rfl (cols_get r _ (by omega))) ?_
      refine Kj rfl (rd_orW 8 rfl rfl rfl ?_) ?_
      ·omega
      refine Kj rfl (rd_move rfl rfl) ?_
      refine Kj rfl (rd_move rfl rfl) ?_
      (refine Kj rfl (rd_sub64nl rfl rfl rfl ?_) ?_; (focus (omega)))
      (refine Kj rfl (rd_ia rfl rfl rfl Tryz.underlying158 (by kernel_rfl : _ = some 1) ?_ (by (try simp only [sN, Int.reduceToNat, Nat.reduceAdd, Nat.reduceMul, Nat.reduceSub]); rfl)) ?_; (focus (omega)))
      refine Kj rfl (ld rfl rfl .tc Tryz.underlying3 rfl (cols_get (digs D b.length) _ (by rw [digs_len]; omega))) ?_
      (refine Kj rfl (rd_quo64n rfl rfl rfl ?_) ?_; (focus (omega)))
      refine Kj rfl (rd_min2 rfl rfl rfl) ?_
      refine WJ.set 160 rfl (v' := .int .i64 ((gu : Nat) : Int)) (congrArg (Value.int .i64) (by rw [hg]; omega)) ?_
      refine Kj rfl (rd_assign rfl rfl) ?_
      refine WJ.nil ?_
      refine WL.nt (WC.sr (Ka rfl (Ka rfl (WL.nt (WC.seq (WC.sr (Km rfl (Km rfl (WL.nt (WC.block ?_))))))))))
      refine WC.loopO (σ := Nat × (List Nat) × Nat × Nat) [(10, _), (11, _), (12, _), (14, _), (16, _), (17, _), (18, _), (161, _)] (fun gq => [(19, .int .i64 (gq.2.2.1 : Int)), (20, .int .i64 (gq.2.2.2 : Int)), (162, .int .i64 (gq.1 : Int))]) (fun gq => gq.1 ≤ b.length ∧ SubInv 256 m gu r (digs D b.length) gq.1 gq.2.1 gq.2.2.1 gq.2.2.2) (fun gq => b.length - gq.1) (fun gq => [⟨some b130, (be (a.length - b.length + 1) Q).map B, 5⟩, ⟨some b94, cols gq.2.1, 3⟩, ⟨some b61, cols (digs D b.length), 3⟩]) (fun gq => []) (0, r, 0, 0) (sub_cons rfl (sub_cons rfl (sub_cons rfl (sub_cons rfl (sub_cons rfl (sub_cons rfl (sub_cons rfl (sub_cons rfl (sub_nil _))))))))) (sub_cons rfl (sub_cons rfl (sub_cons rfl (sub_nil _)))) (by (try dsimp only); exact ⟨Nat.zero_le _, sub_start (by decide) hdi.dig⟩) (by (exact fun _ h => h)) ?_
      rintro ⟨i, r2, cy, bw⟩ hinv4; (try dsimp only at hinv4 ⊢)
      obtain ⟨hi, hsi⟩ := hinv4
      refine WC.sr (Kq rfl (rd_lss rfl rfl rfl) (WL.nt (WC.seq ?_)))
      refine WC.cond rfl (fun hc163 => ?_) (fun hc163 => ?_)
      ·(try simp only [sB] at hc163)
       have hr2l := hsi.len
       have hcyl := hsi.cyl; have hbwl := hsi.bwl
       have hdil := getD_lt 256 (by decide) _ (digs_lt D b.length) i
       have hr2d := getD_lt 256 (by decide) _ hsi.dig (m + i)
       have hgd : gu * (digs D b.length).getD i 0 ≤ 65025 := Nat.mul_le_mul (by omega : gu ≤ 255) (by omega : (digs D b.length).getD i 0 ≤ 255)
       rw [Nat.add_comm m i] at hr2d
       refine WC.skip (WX.then_normal (WC.seq (WC.block (WC.sr (Km rfl (Ka rfl (WL.nt (WC.sr (Km rfl (Km rfl (Km rfl ?_)))))))))))
       refine Km rfl ?_
       (refine Kq rfl (rd_ia rfl rfl rfl Tryz.underlying158 (by kernel_rfl : _ = some 1) ?_ (by (try simp only [sN, Int.reduceToNat, Nat.reduceAdd, Nat.reduceMul, Nat.reduceSub]); rfl)) ?_; (focus (omega)))
       refine Kq rfl (ld rfl rfl .tc Tryz.underlying3 rfl (cols_get (digs D b.length) _ (by rw [digs_len]; omega))) ?_
       (refine Kq rfl (rd_mul64n rfl rfl rfl ?_) ?_; (focus (omega)))
       (refine Kq rfl (rd_add64n rfl rfl rfl ?_) ?_; (focus (omega)))
       refine Ka rfl (WL.nt (WC.sr (Km rfl (Km rfl (Km rfl ?_)))))
       (refine Kq rfl (rd_add64n rfl rfl rfl ?_) ?_; (focus (omega)))
       (refine Kq rfl (rd_ia rfl rfl rfl Tryz.underlying158 (by kernel_rfl : _ = some 1) ?_ (by (try simp only [sN, Int.reduceToNat, Nat.reduceAdd, Nat.reduceMul, Nat.reduceSub]); rfl)) ?_; (focus (omega)))
       refine Kq rfl (ld rfl rfl .tc Tryz.underlying3 rfl (cols_get r2 _ (by omega))) ?_
       refine Km rfl ?_
       refine Kq rfl (rd_andW 8 rfl rfl rfl (by decide) ?_) ?_
       ·omega
       (refine Kq rfl (rd_sub64 rfl rfl rfl ?_) ?_; (focus (omega)))
       refine Km rfl ?_
       (refine Kq rfl (rd_sub64 rfl rfl rfl ?_) ?_; (focus (omega)))
       refine Ka rfl (WL.nt (WC.sr (Km rfl ?_)))
       (refine Kq rfl (rd_shrW (c := 8) rfl rfl rfl ?_) ?_; (focus (decide)))
       refine Ka rfl (WL.nt (WC.sr (Ka rfl (WL.nt ?_))))
       refine WC.joinP (σ := Nat × Nat) [(10, _), (11, _), (12, _), (14, _), (16, _), (17, _), (18, _), (19, _), (21, _), (161, _), (162, _)] (fun gq => [(22, .int .i64 (gq.1 : Int)), (20, .int .i64 (gq.2 : Int)), (19, .int .i64 ((cy + gu * (digs D b.length).getD i 0) / 256 : Nat))]) (fun gq => gq.1 + (cy + gu * (digs D b.length).getD i 0) % 256 + bw = r2.getD (i + m) 0 + 256 * gq.2 ∧ gq.1 < 256 ∧ gq.2 ≤ 1) (sub_cons rfl (sub_cons rfl (sub_cons rfl (sub_cons rfl (sub_cons rfl (sub_cons rfl (sub_cons rfl (sub_cons rfl (sub_cons rfl (sub_cons rfl (sub_cons rfl (sub_nil _)))))))))))) ?_ ?_
       ·skip
        refine WC.sr (Km rfl (Kq rfl (rd_lss rfl rfl rfl) (WL.nt ?_)))
        refine WC.cond rfl (fun hc187 => ?_) (fun hc187 => ?_)
        ·(try simp only [sB] at hc187)
         refine WC.sr (Km rfl ?_)
         (refine Kq rfl (rd_add64 rfl rfl rfl ?_) ?_; (focus (omega)))
         refine Ka rfl (WL.nt (WC.region (Ka rfl (WL.nil ?_))))
         refine WX.joinP (((((r2.getD (i + m) 0 : Nat) : Int) - ((cy + gu * (digs D b.length).getD i 0) % 256 : Nat) - bw + 256).toNat, 1)) (sub_cons rfl (sub_cons rfl (sub_cons rfl (sub_cons rfl (sub_cons rfl (sub_cons rfl (sub_cons rfl (sub_cons rfl (sub_cons rfl (sub_cons rfl (sub_cons rfl (sub_nil _)))))))))))) (by refine (sub_cons ?_ (sub_cons ?_ (sub_cons ?_ (sub_nil _)))) <;> (first | rfl | (refine slot_i rfl ?_; (try dsimp only); omega))) ?_ (by (exact fun _ h => h))
         (try dsimp only)
         omega
        ·(try simp only [sB] at hc187)
         refine WC.skip ?_
         refine WX.joinP (((((r2.getD (i + m) 0 : Nat) : Int) - ((cy + gu * (digs D b.length).getD i 0) % 256 : Nat) - bw).toNat, 0)) (sub_cons rfl (sub_cons rfl (sub_cons rfl (sub_cons rfl (sub_cons rfl (sub_cons rfl (sub_cons rfl (sub_cons rfl (sub_cons rfl (sub_cons rfl (sub_cons rfl (sub_nil _)))))))))))) (by refine (sub_cons ?_ (sub_cons ?_ (sub_cons ?_ (sub_nil _)))) <;> (first | rfl | (refine slot_i rfl ?_; (try dsimp only); omega))) ?_ (by (exact fun _ h => h))
         (try dsimp only)
         omega
       ·rintro ⟨y, bw'⟩ hmeet; (try dsimp only at hmeet ⊢)
        obtain ⟨hy1, hy2, hy3⟩ := hmeet
        refine WC.region (Km rfl (Km rfl (Km rfl ?_)))
        (refine Kq rfl (rd_add64n rfl rfl rfl ?_) ?_; (focus (omega)))
        refine Km rfl ?_
        (refine Kq rfl (rd_ia rfl rfl rfl Tryz.underlying158 (by kernel_rfl : _ = some 1) ?_ (by (try simp only [sN, Int.reduceToNat, Nat.reduceAdd, Nat.reduceMul, Nat.reduceSub]); rfl)) ?_; (focus (omega)))
        refine WL.g0 rfl rfl (st rfl rfl rfl .tc (by kernel_rfl) rfl ?_ (by rfl)) ?_
        ·rw [cols_len]; omega
        intro _
        rw [cols_set]
        refine WL.nil (WX.block_normal (WX.then_normal (WC.region ?_)))
        (refine Kq rfl (rd_add64nl rfl rfl rfl ?_) ?_; (focus (omega)))
        refine Km rfl (WL.nil ?_)
        refine WX.loopO ((i + 1, r2.set (i + m) y, (cy + gu * (digs D b.length).getD i 0) / 256, bw')) (by (try dsimp only); omega) (sub_cons rfl (sub_cons rfl (sub_cons rfl (sub_cons rfl (sub_cons rfl (sub_cons rfl (sub_cons rfl (sub_cons rfl (sub_nil _))))))))) (by refine (sub_cons ?_ (sub_cons ?_ (sub_cons ?_ (sub_nil _)))) <;> (rfl)) ?_ (by (exact fun _ h => h))
        (try dsimp only)
        exact ⟨by omega, by rw [Nat.add_comm i m]; exact sub_step hsi (by decide) hgl (by rw [digs_len]; omega) (digs_lt D b.length) (by omega) (by rw [Nat.add_comm m i]; exact hy1) hy2 hy3⟩
      ·(try simp only [sB] at hc163)
       refine WC.exit (WX.then_exit (WX.then_exit (WX.block_exit ?_)))
       obtain rfl : i = b.length := by omega
       have hr2l := hsi.len
       have hcyl := hsi.cyl; have hbwl := hsi.bwl
       have hr2d := getD_lt 256 (by decide) _ hsi.dig (m + b.length)
       have hs0 := div_sub (D := D) hsi (by rw [List.take_of_length_le (by rw [digs_len]; exact Nat.le_refl _)]; exact hDev) (by omega)
       refine WX.then_normal (WC.sr (Km rfl (Km rfl (Km rfl ?_))))
       (refine Kq rfl (rd_add64n rfl rfl rfl ?_) ?_; (focus (omega)))
       (refine Kq rfl (rd_ia rfl rfl rfl Tryz.underlying158 (by kernel_rfl : _ = some 1) ?_ (by (try simp only [sN, Int.reduceToNat, Nat.reduceAdd, Nat.reduceMul, Nat.reduceSub]); rfl)) ?_; (focus (omega)))
       refine Kq rfl (ld rfl rfl .tc Tryz.underlying3 rfl (cols_get r2 _ (by omega))) ?_
       refine Km rfl ?_
       (refine Kq rfl (rd_sub64 rfl rfl rfl ?_) ?_; (focus (omega)))
       refine Km rfl ?_
       (refine Kq rfl (rd_sub64 rfl rfl rfl ?_) ?_; (focus (omega)))
       refine Ka rfl (WL.nt (WC.seq (WC.block ?_)))
       refine WC.loopO (σ := Nat × (List Nat) × Int) [(10, _), (11, _), (12, _), (14, _), (16, _), (17, _)] (fun gq => [(18, .int .i64 (gq.1 : Int)), (23, .int .i64 gq.2.2)]) (fun gq => gq.2.1.length = a.length + 1 ∧ (∀ x ∈ gq.2.1, x < 256) ∧ ((ev 256 (gq.2.1.take (m + b.length)) : Nat) : Int) + ((256 ^ (m + b.length) : Nat) : Int) * gq.2.2 + ((256 ^ m * gq.1 * D : Nat) : Int) = (ev 256 (r.take (m + 1 + b.length)) : Nat) ∧ qq ≤ gq.1 ∧ gq.1 ≤ 255 ∧ -256 ≤ gq.2.2 ∧ gq.2.2 ≤ 255) (fun gq => gq.1) (fun gq => [⟨some b130, (be (a.length - b.length + 1) Q).map B, 5⟩, ⟨some b94, cols gq.2.1, 3⟩, ⟨some b61, cols (digs D b.length), 3⟩]) (fun gq => []) (gu, r2, ((r2.getD (m + b.length) 0 : Nat) : Int) - cy - bw) (sub_cons rfl (sub_cons rfl (sub_cons rfl (sub_cons rfl (sub_cons rfl (sub_cons rfl (sub_nil _))))))) (sub_cons rfl (sub_cons rfl (sub_nil _))) (by (try dsimp only); exact ⟨by omega, hsi.dig, hs0, hgq, by omega, by omega, by omega⟩) (by (exact fun _ h => h)) ?_
       rintro ⟨g, r3, top⟩ hinv5; (try dsimp only at hinv5 ⊢)
       obtain ⟨hl3, hd3, hs3, hq3, hg3, ht1, ht2⟩ := hinv5
       refine WC.seq (WC.sr (Km rfl (Kq rfl (rd_lss rfl rfl rfl) (WL.nt ?_))))
       refine WC.cond rfl (fun hc208 => ?_) (fun hc208 => ?_)
       ·(try simp only [sB] at hc208)
        have hWl := div_less hs3 (ev_take_lt 256 r3 _ (by omega) hd3) (by omega)
        have hg1 : qq < g := by rw [hqq]; exact (Nat.div_lt_iff_lt_mul hVp).2 hWl
        refine WC.skip (WX.then_normal (WC.block (WC.sr (Km rfl ?_))))
        (refine Kq rfl (rd_sub64nl rfl rfl rfl ?_) ?_; (focus (omega)))
        refine WL.set 210 rfl (v' := .int .i64 ((g - 1 : Nat) : Int)) (congrArg (Value.int .i64) (by omega)) ?_
        refine Ka rfl (WL.nt (WC.sr (Ka rfl (WL.nt (WC.seq (WC.sr (Km rfl (Km rfl (WL.nt (WC.block ?_))))))))))
        refine WC.loopO (σ := Nat × (List Nat) × Nat) [(10, _), (11, _), (12, _), (14, _), (16, _), (17, _), (18, _), (23, _), (211, _)] (fun gq => [(24, .int .i64 (gq.2.2 : Int)), (212, .int .i64 (gq.1 : Int))]) (fun gq => gq.1 ≤ b.length ∧ AddInv 256 m r3 (digs D b.length) gq.1 gq.2.1 gq.2.2) (fun gq => b.length - gq.1) (fun gq => [⟨some b130, (be (a.length - b.length + 1) Q).map B, 5⟩, ⟨some b94, cols gq.2.1, 3⟩, ⟨some b61, cols (digs D b.length), 3⟩]) (fun gq => []) (0, r3, 0) (sub_cons rfl (sub_cons rfl (sub_cons rfl (sub_cons rfl (sub_cons rfl (sub_cons rfl (sub_cons rfl (sub_cons rfl (sub_cons rfl (sub_nil _)))))))))) (sub_cons rfl (sub_cons rfl (sub_nil _))) (by (try dsimp only); exact ⟨Nat.zero_le _, add_start hd3⟩) (by (exact fun _ h => h)) ?_
        rintro ⟨k, r4, c⟩ hinv6; (try dsimp only at hinv6 ⊢)
        obtain ⟨hk, hai⟩ := hinv6
        refine WC.sr (Kq rfl (rd_lss rfl rfl rfl) (WL.nt (WC.seq ?_)))
        refine WC.cond rfl (fun hc213 => ?_) (fun hc213 => ?_)
        ·(try simp only [sB] at hc213)
         have hr4l := hai.len; have hcl := hai.cl
         have hdk := getD_lt 256 (by decide) _ (digs_lt D b.length) k
         have hrk := getD_lt 256 (by decide) _ hai.dig (m + k)
         rw [Nat.add_comm m k] at hrk
         refine WC.skip (WX.then_normal (WC.seq (WC.block (WC.sr (Km rfl (Ka rfl (WL.nt (WC.seq ?_))))))))
         refine WC.free0 [0, 1, 2, 3, 4, 5, 6, 7, 8, 9, 10, 11, 12, 13] [] [0, 0, 0, 0, 0, 0, 0, 0, 0, 0, 0, 0, 0, 0] (by kernel_rfl) (by kernel_rfl) rfl ?_
         refine Kj rfl (rd_move rfl rfl) ?_
         refine Kj rfl (rd_move rfl rfl) ?_
         refine Kj rfl (rd_move rfl rfl) ?_
         refine Kj rfl (rd_move rfl rfl) ?_
         (refine Kj rfl (rd_add64n rfl rfl rfl ?_) ?_; (focus (omega)))
         (refine Kj rfl (rd_ia rfl rfl rfl Tryz.underlying158 (by kernel_rfl : _ = some 1) ?_ (by (try simp only [sN, Int.reduceToNat, Nat.reduceAdd, Nat.reduceMul, Nat.reduceSub]); rfl)) ?_; (focus (omega)))
         refine Kj rfl (ld rfl rfl .tc Tryz.underlying3 rfl (cols_get r4 _ (by omega))) ?_
         refine Kj rfl (rd_move rfl rfl) ?_
         refine Kj rfl (rd_move rfl rfl) ?_
         (refine Kj rfl (rd_ia rfl rfl rfl Tryz.underlying158 (by kernel_rfl : _ = some 1) ?_ (by (try simp only [sN, Int.reduceToNat, Nat.reduceAdd, Nat.reduceMul, Nat.reduceSub]); rfl)) ?_; (focus (omega)))
         refine Kj rfl (ld rfl rfl .tc Tryz.underlying3 rfl (cols_get (digs D b.length) _ (by rw [digs_len]; omega))) ?_
         (refine Kj rfl (rd_add64n rfl rfl rfl ?_) ?_; (focus (omega)))
         (refine Kj rfl (rd_add64n rfl rfl rfl ?_) ?_; (focus (omega)))
         refine Kj rfl (rd_assign rfl rfl) ?_
         refine WJ.nil ?_
         refine WL.nt (WC.sr (Km rfl (Km rfl (Km rfl ?_))))
         (refine Kq rfl (rd_add64n rfl rfl rfl ?_) ?_; (focus (omega)))
         refine Km rfl ?_
         refine Kq rfl (rd_andW 8 rfl rfl rfl (by decide) ?_) ?_
         ·omega
         (refine Kq rfl (rd_ia rfl rfl rfl Tryz.underlying158 (by kernel_rfl : _ = some 1) ?_ (by (try simp only [sN, Int.reduceToNat, Nat.reduceAdd, Nat.reduceMul, Nat.reduceSub]); rfl)) ?_; (focus (omega)))
         refine WL.g0 rfl rfl (st rfl rfl rfl .tc (by kernel_rfl) rfl ?_ (by rfl)) ?_
         ·rw [cols_len]; omega
         intro _
         rw [cols_set]
         refine WL.nt (WC.region (Km rfl ?_))
         (refine Kq rfl (rd_shrW (c := 8) rfl rfl rfl ?_) ?_; (focus (decide)))
         refine Ka rfl (WL.nil (WX.block_normal (WX.then_normal (WC.region ?_))))
         (refine Kq rfl (rd_add64nl rfl rfl rfl ?_) ?_; (focus (omega)))
         refine Km rfl (WL.nil ?_)
         refine WX.loopO ((k + 1, r4.set (k + m) ((c + (r4.getD (k + m) 0 + (digs D b.length).getD k 0)) % 256), (c + (r4.getD (k + m) 0 + (digs D b.length).getD k 0)) / 256)) (by (try dsimp only); omega) (sub_cons rfl (sub_cons rfl (sub_cons rfl (sub_cons rfl (sub_cons rfl (sub_cons rfl (sub_cons rfl (sub_cons rfl (sub_cons rfl (sub_nil _)))))))))) (by refine (sub_cons ?_ (sub_cons ?_ (sub_nil _))) <;> (rfl)) ?_ (by (exact fun _ h => h))
         (try dsimp only)
         exact ⟨by omega, by rw [← Nat.add_assoc, Nat.add_comm k m]; exact add_step hai (by decide) (by rw [digs_len]; omega) (digs_lt D b.length) (by omega)⟩
        ·(try simp only [sB] at hc213)
         refine WC.exit (WX.then_exit (WX.then_exit (WX.block_exit ?_)))
         obtain rfl : k = b.length := by omega
         have hcl := hai.cl
         have hr4l := hai.len
         have hb4 := div_back (D := D) hai (by rw [List.take_of_length_le (by rw [digs_len]; exact Nat.le_refl _)]; exact hDev) (by omega) hs3
         refine WX.then_normal (WC.region (Km rfl (Km rfl ?_)))
         (refine Kq rfl (rd_add64 rfl rfl rfl ?_) ?_; (focus (omega)))
         refine Ka rfl (WL.nil (WX.block_normal ?_))
         refine WX.loopO ((g - 1, r4, top + c)) (by (try dsimp only); omega) (sub_cons rfl (sub_cons rfl (sub_cons rfl (sub_cons rfl (sub_cons rfl (sub_cons rfl (sub_nil _))))))) (by refine (sub_cons ?_ (sub_cons ?_ (sub_nil _))) <;> (rfl)) ?_ (by (exact fun _ h => h))
         (try dsimp only)
         exact ⟨by omega, hai.dig, hb4, by omega, by omega, by omega, by omega⟩
       ·(try simp only [sB] at hc208)
        refine WC.exit (WX.then_exit (WX.then_exit (WX.block_exit ?_)))
        obtain ⟨ht0, hdi2⟩ := div_step hdi hfit (by omega) hl3 hd3 hs3 (by omega) (by rw [← hqq]; exact hq3)
        subst ht0
        have hQ2 : Q + g * 256 ^ m < 256 ^ (a.length - b.length + 1) := by
         have h1 := hdi2.sum
         have h2 : (Q + g * 256 ^ m) * D < 256 ^ (a.length - b.length + 1) * D := by omega
         exact Nat.lt_of_mul_lt_mul_right h2
        refine WX.then_normal (WC.sr (Km rfl (Km rfl (Km rfl ?_))))
        (refine Kq rfl (rd_add64n rfl rfl rfl ?_) ?_; (focus (omega)))
        refine Km rfl ?_
        (refine Kq rfl (rd_ia rfl rfl rfl Tryz.underlying158 (by kernel_rfl : _ = some 1) ?_ (by (try simp only [sN, Int.reduceToNat, Nat.reduceAdd, Nat.reduceMul, Nat.reduceSub]); rfl)) ?_; (focus (omega)))
        refine WL.g0 rfl rfl (st rfl rfl rfl .tc (by kernel_rfl) rfl ?_ (by rfl)) ?_
        ·rw [cols_len]; omega
        intro _
        rw [show (cols r3).set (m + b.length) (.int .i64 0) = cols (r3.set (m + b.length) 0) from cols_set r3 _ 0]
        refine WL.nt (WC.region (Km rfl (Km rfl (Kq rfl (rd_len rfl rfl Tryz.underlying128) ?_))))
        (refine Kq rfl (rd_sub64nl rfl rfl rfl ?_) ?_; (focus (omega)))
        refine Km rfl ?_
        (refine Kq rfl (rd_sub64n rfl rfl rfl ?_) ?_; (focus (omega)))
        refine Km rfl ?_
        refine Kq rfl (rd_convB rfl rfl Tryz.underlying3 Tryz.underlying5) ?_
        (refine Kq rfl (rd_ia rfl rfl rfl Tryz.underlying128 (by kernel_rfl : _ = some 1) ?_ (by (try simp only [sN, Int.reduceToNat, Nat.reduceAdd, Nat.reduceMul, Nat.reduceSub]); rfl)) ?_; (focus (omega)))
        refine WL.g0 rfl rfl (st rfl rfl rfl .tc (by kernel_rfl) rfl ?_ (by rfl)) ?_
        ·rw [List.length_map, be_len]; omega
        intro _
        refine WL.nil (WX.block_normal (WX.then_normal (WC.region (Km rfl ?_))))
        (refine Kq rfl (rd_sub64 rfl rfl rfl ?_) ?_; (focus (omega)))
        refine Ka rfl (WL.nil ?_)
        refine WX.loopO ((m, r3.set (m + b.length) 0, Q + g * 256 ^ m, (m : Int) - 1)) (by (try dsimp only); omega) (sub_cons rfl (sub_cons rfl (sub_cons rfl (sub_cons rfl (sub_cons rfl (sub_nil _)))))) (by refine (sub_cons ?_ (sub_nil _)) <;> (rfl)) ?_ (by exact fun w h => by rw [← be_set (a.length - b.length + 1) m Q g (by omega) (by omega) hdi.dvd, List.map_set]; exact h)
        (try dsimp only)
        exact ⟨by omega, hdi2, hQ2, rfl, fun _ => getD_set_eq r3 _ 0 (by omega)⟩
     ·(try simp only [sB] at hc136)
      refine WC.exit (WX.then_exit (WX.then_exit (WX.block_exit ?_)))
      obtain rfl : t = 0 := by omega
      obtain ⟨hq1, hq2⟩ := div_end hdi
      have hrl := hdi.len
      obtain ⟨R, hR⟩ : ∃ R, R = val a % val b := ⟨_, rfl⟩
      have hqe : Q = val a / val b := by rw [hq1, hX, hD, Nat.mul_div_mul_right _ _ (Nat.two_pow_pos s)]
      have hre : ev 256 (r.take b.length) = R * 2 ^ s := by rw [hq2, hX, hD, Nat.mul_mod_mul_right, hR]
      have hRl : R < 256 ^ b.length := by rw [hR]; exact Nat.lt_trans (Nat.mod_lt _ hvb) (val_lt b)
      have hdg3 : ∀ i, i ≤ b.length → r.getD i 0 = R * 2 ^ s / 256 ^ i % 256 := fun i hi => by
       rw [← hre]
       rcases Nat.lt_or_ge i b.length with h | h
       ·rw [ev_digit 256 (by decide) (r.take b.length) i (by rw [List.length_take]; omega) (fun x hx => hdi.dig x (List.mem_of_mem_take hx)), List.getD_eq_getElem?_getD, List.getD_eq_getElem?_getD, List.getElem?_take, if_pos h]
       ·obtain rfl : i = b.length := by omega
        have h1 := hz (by omega)
        rw [Nat.zero_add] at h1
        rw [h1, Nat.div_eq_of_lt (ev_take_lt 256 r _ (by omega) hdi.dig)]
      refine WX.then_normal (WC.sr (Km rfl ?_))
      refine Kh rfl (og_mk rfl rfl rfl Tryz.underlying128 (by kernel_rfl : _ = some (some (.int .u8 0), 1, 1)) rfl ?_ (by (try simp only [sN, Int.reduceToNat, Nat.reduceAdd, Nat.reduceMul, Nat.reduceSub]); rfl) (by (try simp only [sN, Int.reduceToNat, Nat.reduceAdd, Nat.reduceMul, Nat.reduceSub]); rfl)) ?_
      ·omega
      intro b257
      refine Ka rfl (WL.nt (WC.seq (WC.sr (Km rfl (Km rfl (WL.nt (WC.block ?_)))))))
      refine WC.loopO (σ := Nat) [(10, _), (11, _), (14, _), (16, _), (26, _), (258, _)] (fun gq => [(259, .int .i64 (gq : Int))]) (fun gq => gq ≤ b.length) (fun gq => b.length - gq) (fun gq => [⟨some b257, lowB b.length gq R, 5⟩, ⟨some b130, (be (a.length - b.length + 1) Q).map B, 5⟩, ⟨some b94, cols r, 3⟩]) (fun gq => []) (0) (sub_cons rfl (sub_cons rfl (sub_cons rfl (sub_cons rfl (sub_cons rfl (sub_cons rfl (sub_nil _))))))) (sub_cons rfl (sub_nil _)) (by (try dsimp only); omega) (by exact fun w h => by rw [show lowB b.length 0 R = List.replicate b.length (.int .u8 0) from lowB_zero _ _]; exact st_sub _ h) ?_
      rintro k hinv7; (try dsimp only at hinv7 ⊢)
      obtain hk := hinv7
      refine WC.sr (Kq rfl (rd_lss rfl rfl rfl) (WL.nt (WC.seq ?_)))
      refine WC.cond rfl (fun hc260 => ?_) (fun hc260 => ?_)
      ·(try simp only [sB] at hc260)
       have hrk := getD_lt 256 (by decide) _ hdi.dig k
       have hrk1 := getD_lt 256 (by decide) _ hdi.dig (k + 1)
       have hrd := rest_digit R s k hs8
       rw [← hdg3 k (by omega), ← hdg3 (k + 1) (by omega)] at hrd
       refine WC.skip (WX.then_normal (WC.seq (WC.block (WC.sr (Km rfl (Ka rfl (WL.nt (WC.sr (Km rfl (Km rfl ?_))))))))))
       (refine Kq rfl (rd_ia rfl rfl rfl Tryz.underlying158 (by kernel_rfl : _ = some 1) ?_ (by (try simp only [sN, Int.reduceToNat, Nat.reduceAdd, Nat.reduceMul, Nat.reduceSub]); rfl)) ?_; (focus (omega)))
       refine Kq rfl (ld rfl rfl .tc Tryz.underlying3 rfl (cols_get r _ (by omega))) ?_
       refine Ka rfl (WL.nt (WC.seq (WC.sr (Km rfl ?_))))
       (refine Kq rfl (rd_add64nl rfl rfl rfl ?_) ?_; (focus (omega)))
       refine Km rfl (Kq rfl (rd_len rfl rfl Tryz.underlying158) (Kq rfl (rd_lss rfl rfl rfl) (WL.nt ?_)))
       refine WC.cond rfl (fun hc270 => ?_) (fun hc270 => by exfalso; (try simp only [sB] at hc270); omega)
       (try simp only [sB] at hc270)
       refine WC.region (Km rfl (Km rfl (Km rfl ?_)))
       (refine Kq rfl (rd_add64nl rfl rfl rfl ?_) ?_; (focus (omega)))
       (refine Kq rfl (rd_ia rfl rfl rfl Tryz.underlying158 (by kernel_rfl : _ = some 1) ?_ (by (try simp only [sN, Int.reduceToNat, Nat.reduceAdd, Nat.reduceMul, Nat.reduceSub]); rfl)) ?_; (focus (omega)))
       refine Kq rfl (ld rfl rfl .tc Tryz.underlying3 rfl (cols_get r _ (by omega))) ?_
       (refine Kq rfl (rd_shlW (c := 8) rfl rfl rfl ?_ ?_) ?_; (focus (decide)); (focus (omega)))
       refine Kq rfl (rd_orV 8 rfl rfl rfl ?_) ?_
       ·omega
       refine Ka rfl (WL.nt (WC.region (Km rfl (Km rfl ?_))))
       (refine Kq rfl (rd_sub64nl rfl rfl rfl ?_) ?_; (focus (omega)))
       refine Km rfl ?_
       (refine Kq rfl (rd_sub64n rfl rfl rfl ?_) ?_; (focus (omega)))
       refine Km rfl (Km rfl ?_)
       (refine Kq rfl (rd_shrW rfl rfl rfl ?_) ?_; (focus ((show _ ≤ 64; omega))))
       refine Kq rfl (rd_convB rfl rfl Tryz.underlying3 Tryz.underlying5) ?_
       refine WL.set 287 rfl (v' := B (UInt8.ofNat (R / 256 ^ k))) (by exact congrArg (fun b : UInt8 => B b) (u8_mod hrd.symm)) ?_
       (refine Kq rfl (rd_ia rfl rfl rfl Tryz.underlying128 (by kernel_rfl : _ = some 1) ?_ (by (try simp only [sN, Int.reduceToNat, Nat.reduceAdd, Nat.reduceMul, Nat.reduceSub]); rfl)) ?_; (focus (omega)))
       refine WL.g0 rfl rfl (st rfl rfl rfl .tc (by kernel_rfl) rfl ?_ (by rfl)) ?_
       ·rw [lowB_len _ _ _ (by omega)]; omega
       intro _
       refine WL.nil (WX.block_normal (WX.then_normal (WC.region ?_)))
       (refine Kq rfl (rd_add64nl rfl rfl rfl ?_) ?_; (focus (omega)))
       refine Km rfl (WL.nil ?_)
       refine WX.loopO (k + 1) (by (try dsimp only); omega) (sub_cons rfl (sub_cons rfl (sub_cons rfl (sub_cons rfl (sub_cons rfl (sub_cons rfl (sub_nil _))))))) (by refine (sub_cons ?_ (sub_nil _)) <;> (rfl)) ?_ (by exact fun w h => by rw [← lowB_set b.length k R (by omega)]; exact h)
       (try dsimp only)
       omega
      ·(try simp only [sB] at hc260)
       refine WC.exit (WX.then_exit (WX.then_exit (WX.block_exit ?_)))
       obtain rfl : k = b.length := by omega
       rw [lowB_full]
       have hbl1 := be_len (a.length - b.length + 1) Q
       have hbl2 := be_len b.length R
       refine WX.then_normal (WC.sr (Km rfl ?_))
       refine Kh rfl (og_call rfl rfl (by kernel_rfl) (keep_val fun w hS => trimmed_c (b := be (a.length - b.length + 1) Q) (by (exact hS.os)) (by omega) (by omega) (by omega))) ?_
       intro _
       refine Km rfl ?_
       refine Kh rfl (og_call rfl rfl (by kernel_rfl) (keep_val fun w hS => trimmed_c (b := be b.length R) (by (exact hS.os)) (by omega) (by omega) (by omega))) ?_
       intro _
       refine Ka rfl (Ka rfl (WL.nt (WC.ret ?_)))
       exact WX.retN rfl (.tmp rfl (.tmp rfl .nil)) fun w' hS => ⟨by rw [val_be, val_be, Nat.mod_eq_of_lt hQ, Nat.mod_eq_of_lt hRl, hqe, hR]; rfl, hS.below⟩
end Go.Proofs.YtnimhldbblfgbaaGreat
namespace Go.Proofs.YtnimhldbblfgbaaGreat
set_option linter.unusedSimpArgs false
set_option linter.unusedVariables false
set_option maxRecDepth 20000
set_option maxHeartbeats 600000
open Go.RowKit
def divN (a b : Bs) : (Bs × Bs) × Int := if okN a ∧ okN b then (if b = [] then (([], []), 11) else ((canon (val a / val b), canon (val a % val b)), 0)) else (([], []), 3)
abbrev DE (r : (Bs × Bs) × Int) : Value := .tuple #[.string (S r.1.1), .string (S r.1.2), .int .i64 r.2]
theorem divmod_c {a b : Bs} {w : World} :
  Calls Tryz.prog 92 #[.string (S a), .string (S b)] w fun e w' => e = .returned (DE (divN a b)) ∧ Below w.heap.size w w' := by
 refine enter (S := St (fun _ => True) w [] ([])) (L := [(0, .string (S a)), (1, .string (S b))]) Tryz.func92 rfl Tryz.ntmps92 rfl (args_cons rfl (args_cons rfl (args_nil _))) (St.start (fun _ _ => trivial) facts_nil) ?_
 refine WC.sr (Ka rfl (Ka rfl (Ka rfl (WL.nt (WC.seq (WC.sr (Km rfl ?_)))))))
 refine Kh rfl (og_call rfl rfl (by kernel_rfl) (keep_val fun w hS => valid_c)) ?_
 intro _
 refine Kq rfl (rd_not rfl rfl) (Km rfl ?_)
 refine WL.bool 12 rfl (fun hg12 => ?_) (fun hg12 => ?_)
 ·(try simp only [sB] at hg12)
  refine Kt rfl (Kt rfl (Kt rfl (Kq rfl (rd_pickt rfl rfl rfl) (WL.nt ?_))))
  refine WC.cond rfl (fun _ => ?_) (fun h => by cases h)
  refine WC.sr (Ka rfl (Ka rfl (Ka rfl (WL.nt (WC.ret (WX.then_ret ?_))))))
  exact WX.retN rfl (.tmp rfl (.tmp rfl (.tmp rfl .nil))) fun w' hS => ⟨by rw [divN, if_neg (by simp_all)]; rfl, hS.below⟩
 ·(try simp only [sB] at hg12)
  refine Km rfl ?_
  refine Kh rfl (og_call rfl rfl (by kernel_rfl) (keep_val fun w hS => valid_c)) ?_
  intro _
  refine Kq rfl (rd_not rfl rfl) (Kq rfl (rd_pickf rfl rfl rfl) (WL.nt ?_))
  refine WC.cond rfl (fun hc16 => ?_) (fun hc16 => ?_)
  ·(try simp only [sB] at hc16)
   refine WC.sr (Ka rfl (Ka rfl (Ka rfl (WL.nt (WC.ret (WX.then_ret ?_))))))
   exact WX.retN rfl (.tmp rfl (.tmp rfl (.tmp rfl .nil))) fun w' hS => ⟨by rw [divN, if_neg (by simp_all)]; rfl, hS.below⟩
  ·(try simp only [sB] at hc16)
   have hab : okN a ∧ okN b := by simp_all
   refine WC.skip (WX.then_normal (WC.seq (WC.sr (Km rfl (Kq rfl (rd_seq rfl rfl rfl) (WL.nt ?_))))))
   refine WC.cond rfl (fun hc18 => ?_) (fun hc18 => ?_)
   ·(try simp only [sB] at hc18)
    have hb0 : b = [] := by simpa using hc18
    refine WC.sr (Ka rfl (Ka rfl (Ka rfl (WL.nt (WC.ret (WX.then_ret ?_))))))
    exact WX.retN rfl (.tmp rfl (.tmp rfl (.tmp rfl .nil))) fun w' hS => ⟨by rw [divN, if_pos hab, if_pos hb0]; rfl, hS.below⟩
   ·(try simp only [sB] at hc18)
    have hb0 : b ≠ [] := by simpa using hc18
    refine WC.skip (WX.then_normal (WC.sr (Km rfl (Km rfl ?_))))
    refine Kh rfl (og_call rfl rfl (by kernel_rfl) (keep_val fun w hS => divided_c (a := a) (b := b) (by exact hab.1) (by exact hab.2) (by exact hb0))) ?_
    intro _
    refine Km rfl (Kq rfl (rd_extL rfl rfl rfl) (Kq rfl (rd_extL rfl rfl rfl) (Ka rfl (Ka rfl (WL.nt (WC.sr (Km rfl (Km rfl (Ka rfl (Ka rfl (Ka rfl ?_)))))))))))
    refine WL.nt (WC.ret ?_)
    exact WX.retN rfl (.tmp rfl (.tmp rfl (.tmp rfl .nil))) fun w' hS => ⟨by rw [divN, if_pos hab, if_neg hb0]; rfl, hS.below⟩
def gcdN (a b : Bs) : Bs × Int := if okN a ∧ okN b then (canon (Nat.gcd (val a) (val b)), 0) else ([], 3)
theorem gcd_rec' (x y : Nat) : Nat.gcd y (x % y) = Nat.gcd x y := by rw [Nat.gcd_comm x y, Nat.gcd_rec y x, Nat.gcd_comm]
theorem okN_mod {x y : Bs} (h : okN y) (h0 : y ≠ []) : okN (canon (val x % val y)) := okN_can (Nat.lt_trans (Nat.mod_lt _ (Nat.pos_of_ne_zero fun e => h0 ((val_eq_zero h.2).1 e))) (okN_val h))
theorem gcd_c {a b : Bs} {w : World} :
  Calls Tryz.prog 174 #[.string (S a), .string (S b)] w fun e w' => e = .returned (NE (gcdN a b)) ∧ Below w.heap.size w w' := by
 refine enter (S := St (fun _ => True) w [] ([])) (L := [(0, .string (S a)), (1, .string (S b))]) Tryz.func174 rfl Tryz.ntmps174 rfl (args_cons rfl (args_cons rfl (args_nil _))) (St.start (fun _ _ => trivial) facts_nil) ?_
 refine WC.sr (Ka rfl (Ka rfl (WL.nt (WC.seq (WC.sr (Km rfl ?_))))))
 refine Kh rfl (og_call rfl rfl (by kernel_rfl) (keep_val fun w hS => valid_c)) ?_
 intro _
 refine Kq rfl (rd_not rfl rfl) (Km rfl ?_)
 refine WL.bool 11 rfl (fun hg11 => ?_) (fun hg11 => ?_)
 ·(try simp only [sB] at hg11)
  refine Kt rfl (Kt rfl (Kt rfl (Kq rfl (rd_pickt rfl rfl rfl) (WL.nt ?_))))
  refine WC.cond rfl (fun _ => ?_) (fun h => by cases h)
  refine WC.sr (Ka rfl (Ka rfl (WL.nt (WC.ret (WX.then_ret ?_)))))
  exact WX.retN rfl (.tmp rfl (.tmp rfl .nil)) fun w' hS => ⟨by rw [gcdN, if_neg (by simp_all)]; rfl, hS.below⟩
 ·(try simp only [sB] at hg11)
  refine Km rfl ?_
  refine Kh rfl (og_call rfl rfl (by kernel_rfl) (keep_val fun w hS => valid_c)) ?_
  intro _
  refine Kq rfl (rd_not rfl rfl) (Kq rfl (rd_pickf rfl rfl rfl) (WL.nt ?_))
  refine WC.cond rfl (fun hc15 => ?_) (fun hc15 => ?_)
  ·(try simp only [sB] at hc15)
   refine WC.sr (Ka rfl (Ka rfl (WL.nt (WC.ret (WX.then_ret ?_)))))
   exact WX.retN rfl (.tmp rfl (.tmp rfl .nil)) fun w' hS => ⟨by rw [gcdN, if_neg (by simp_all)]; rfl, hS.below⟩
  ·(try simp only [sB] at hc15)
   have hab : okN a ∧ okN b := by simp_all
   refine WC.skip (WX.then_normal (WC.seq (WC.block ?_)))
   refine WC.loopP (σ := Bs × Bs) [] (fun gq => [(0, .string (S gq.1)), (1, .string (S gq.2))]) (fun gq => okN gq.1 ∧ okN gq.2 ∧ Nat.gcd (val gq.1) (val gq.2) = Nat.gcd (val a) (val b)) (fun gq => val gq.2) (a, b) (sub_nil _) (sub_cons rfl (sub_cons rfl (sub_nil _))) (by (try dsimp only); exact ⟨hab.1, hab.2, rfl⟩) ?_
   rintro ⟨x, y⟩ hinv1; (try dsimp only at hinv1 ⊢)
   obtain ⟨hx, hy, hg⟩ := hinv1
   refine WC.seq (WC.sr (Km rfl (Kq rfl (rd_sne rfl rfl rfl) (WL.nt ?_))))
   refine WC.cond rfl (fun hc17 => ?_) (fun hc17 => ?_)
   ·(try simp only [sB] at hc17)
    have hy0 : y ≠ [] := by simpa using hc17
    have hvy : 0 < val y := Nat.pos_of_ne_zero fun e => hy0 ((val_eq_zero hy.2).1 e)
    refine WC.skip (WX.then_normal (WC.block (WC.sr (Km rfl (Km rfl ?_)))))
    refine Kh rfl (og_call rfl rfl (by kernel_rfl) (keep_val fun w hS => divided_c (a := x) (b := y) (by exact hx) (by exact hy) (by exact hy0))) ?_
    intro _
    refine Km rfl (Kq rfl (rd_extL rfl rfl rfl) (Kq rfl (rd_extL rfl rfl rfl) (Ka rfl (Ka rfl (WL.nt (WC.region (Km rfl (Km rfl (Ka rfl (Ka rfl (WL.nil ?_)))))))))))
    refine WX.block_normal ?_
    refine WX.loopP ((y, canon (val x % val y))) (by (try dsimp only); rw [val_canon]; exact Nat.mod_lt _ hvy) (sub_nil _) (by refine (sub_cons ?_ (sub_cons ?_ (sub_nil _))) <;> (rfl)) ?_ (by (exact fun _ h => h))
    (try dsimp only)
    exact ⟨hy, okN_mod hy hy0, by rw [val_canon, gcd_rec', hg]⟩
   ·(try simp only [sB] at hc17)
    refine WC.exit (WX.then_exit (WX.then_exit (WX.block_exit ?_)))
    obtain rfl : y = [] := by simpa using hc17
    have hgx : val x = Nat.gcd (val a) (val b) := by rw [← hg]; exact (Nat.gcd_zero_right _).symm
    refine WX.then_normal (WC.sr (Km rfl (Ka rfl (Ka rfl (WL.nt (WC.ret ?_))))))
    exact WX.retN rfl (.tmp rfl (.tmp rfl .nil)) fun w' hS => ⟨by rw [gcdN, if_pos hab, ← hgx, ok_canon hx]; rfl, hS.below⟩
theorem rover_c {a b : Bs} {w : World} (ha : okN a) (hb : okN b) (hb0 : b ≠ []) :
  Calls Tryz.prog 124 #[.string (S a), .string (S b)] w fun e w' => e = .returned (.tuple #[.string (S (canon (val a / val b))), .string (S (canon (val a % val b)))]) ∧ Below w.heap.size w w' := by
 have hal := ha.1; have hbl := hb.1
 have hvb : 0 < val b := Nat.pos_of_ne_zero fun h => hb0 ((val_eq_zero hb.2).1 h)
 have hbs := bitsN_le hal
 have hblt := okN_val hb
 have hvl := val_lt a
 refine enter (S := St (fun _ => True) w [] ([])) (L := [(0, .string (S a)), (1, .string (S b))]) Tryz.func124 rfl Tryz.ntmps124 rfl (args_cons rfl (args_cons rfl (args_nil _))) (St.start (fun _ _ => trivial) facts_nil) ?_
 refine WC.sr (Ka rfl (Ka rfl (WL.nt (WC.seq ?_))))
 refine WC.joinP (σ := Unit) [(0, _), (1, _)] (fun gq => [(20, .bool (decide (a.length ≤ 8 ∧ b.length ≤ 8)))]) (fun gq => True) (sub_cons rfl (sub_cons rfl (sub_nil _))) ?_ ?_
 ·skip
  refine WC.region (Km rfl (Kq rfl (rd_slen rfl rfl Tryz.underlying22) (Kq rfl (rd_leq rfl rfl rfl) (Km rfl ?_))))
  refine WL.bool 16 rfl (fun hg16 => ?_) (fun hg16 => ?_)
  ·(try simp only [sB] at hg16)
   refine Km rfl (Kq rfl (rd_slen rfl rfl Tryz.underlying22) (Kq rfl (rd_leq rfl rfl rfl) (Kq rfl (rd_pickt rfl rfl rfl) (WL.nil ?_))))
   refine WX.joinP (()) (sub_cons rfl (sub_cons rfl (sub_nil _))) (by refine (sub_cons ?_ (sub_nil _)) <;> ((refine slot_b rfl ?_; (try dsimp only); (exact decide_eq_decide.2 (by omega))))) ?_ (by (exact fun _ h => h))
   (try dsimp only)
   done
  ·(try simp only [sB] at hg16)
   refine Kt rfl (Kt rfl (Kt rfl (Kq rfl (rd_pickf rfl rfl rfl) (WL.nil ?_))))
   refine WX.joinP (()) (sub_cons rfl (sub_cons rfl (sub_nil _))) (by refine (sub_cons ?_ (sub_nil _)) <;> ((exact congrArg (fun b => some (Value.bool b)) (by symm; apply decide_eq_false; omega)))) ?_ (by (exact fun _ h => h))
   (try dsimp only)
   done
 ·rintro _ hmeet; (try dsimp only at hmeet ⊢)
  refine WC.cond rfl (fun hc20 => ?_) (fun hc20 => ?_)
  ·(try simp only [sB] at hc20)
   have hva8 : val a < 18446744073709551616 := val_8 hc20.1
   have hvb8 : val b < 18446744073709551616 := val_8 hc20.2
   have hdv := Nat.div_le_self (val a) (val b)
   have hmd := Nat.mod_lt (val a) hvb
   refine WC.sr (Km rfl ?_)
   refine Kh rfl (og_call rfl rfl (by kernel_rfl) (keep_val fun w hS => ru64_c (a := a) (by omega))) ?_
   intro _
   refine Km rfl ?_
   refine Kh rfl (og_call rfl rfl (by kernel_rfl) (keep_val fun w hS => ru64_c (a := b) (by omega))) ?_
   intro _
   refine Ka rfl (Ka rfl (WL.nt (WC.seq ?_)))
   refine WC.free0 [0, 1, 2, 3, 4, 5, 6, 7, 8, 9] [] [0, 0, 0, 1, 0, 0, 0, 1, 0, 0] (by kernel_rfl) (by kernel_rfl) rfl ?_
   refine Kj rfl (rd_move rfl rfl) ?_
   refine Kj rfl (rd_move rfl rfl) ?_
   refine Kj rfl (rd_quoW rfl rfl rfl ?_) ?_
   ·omega
   refine WJ.gv rfl rfl rfl rfl rfl (fun ext => og_call rfl rfl (by kernel_rfl) (keep_val fun w hS => rof_c (n := val a / val b) (by omega))) ?_
   refine Kj rfl (rd_move rfl rfl) ?_
   refine Kj rfl (rd_move rfl rfl) ?_
   refine Kj rfl (rd_remW rfl rfl rfl ?_) ?_
   ·assumption
   refine WJ.gv rfl rfl rfl rfl rfl (fun ext => og_call rfl rfl (by kernel_rfl) (keep_val fun w hS => rof_c (n := val a % val b) (by omega))) ?_
   refine Kj rfl (rd_assign rfl rfl) ?_
   refine Kj rfl (rd_assign rfl rfl) ?_
   refine WJ.nil ?_
   refine WL.nt (WC.ret (WX.then_ret ?_))
   exact WX.retN rfl (.tmp rfl (.tmp rfl .nil)) fun w' hS => ⟨by rfl, hS.below⟩
  ·(try simp only [sB] at hc20)
   refine WC.skip (WX.then_normal (WC.sr (Km rfl (Kq rfl (rd_slen rfl rfl Tryz.underlying22) ?_))))
   refine Kh rfl (og_mk rfl rfl rfl Tryz.underlying128 (by kernel_rfl : _ = some (some (.int .u8 0), 1, 1)) rfl ?_ (by (try simp only [sN, Int.reduceToNat, Nat.reduceAdd, Nat.reduceMul, Nat.reduceSub]); rfl) (by (try simp only [sN, Int.reduceToNat, Nat.reduceAdd, Nat.reduceMul, Nat.reduceSub]); rfl)) ?_
   ·omega
   intro b35
   refine Ka rfl (WL.nt (WC.sr (Ka rfl (WL.nt (WC.seq (WC.sr (Km rfl ?_)))))))
   refine Kh rfl (og_call rfl rfl (by kernel_rfl) (keep_val fun w hS => rbits0_c (a := a) (by omega))) ?_
   intro _
   (refine Kq rfl (rd_sub64 rfl rfl rfl ?_) ?_; (focus (omega)))
   refine Ka rfl (WL.nt (WC.block ?_))
   refine WC.loopO (σ := Nat × Bs × Nat × Int) [(0, _), (1, _), (8, _)] (fun gq => [(9, .string (S gq.2.1)), (10, .int .i64 gq.2.2.2)]) (fun gq => gq.1 ≤ bitsN a ∧ gq.2.1 = canon (val a / 2 ^ gq.1 % val b) ∧ gq.2.2.1 = val a / 2 ^ gq.1 / val b * 2 ^ gq.1 ∧ gq.2.2.2 = (gq.1 : Int) - 1) (fun gq => gq.1) (fun gq => [⟨some b35, (be a.length gq.2.2.1).map B, 5⟩]) (fun gq => []) (bitsN a, [], 0, (bitsN a : Int) - 1) (sub_cons rfl (sub_cons rfl (sub_cons rfl (sub_nil _)))) (sub_cons rfl (sub_cons rfl (sub_nil _))) (by (try dsimp only); have h0 : val a / 2 ^ bitsN a = 0 := Nat.div_eq_of_lt (val_bits a); rw [h0]; exact ⟨Nat.le_refl _, by rw [Nat.zero_mod, canon_zero], by rw [Nat.zero_div, Nat.zero_mul], rfl⟩) (by exact fun w h => by rw [show (be a.length 0).map B = List.replicate a.length (.int .u8 0) from be_zero _]; exact h) ?_
   rintro ⟨t, r, Q, j⟩ hinv1; (try dsimp only at hinv1 ⊢)
   obtain ⟨ht, hr, hQ, hj⟩ := hinv1
   refine WC.seq (WC.sr (Km rfl (Kq rfl (rd_geq rfl rfl rfl) (WL.nt ?_))))
   refine WC.cond rfl (fun hc40 => ?_) (fun hc40 => ?_)
   ·(try simp only [sB] at hc40)
    obtain ⟨m, rfl⟩ : ∃ m, t = m + 1 := ⟨t - 1, by omega⟩
    refine WC.set 10 rfl (v' := .int .i64 ((m : Nat) : Int)) (by rw [hj]; congr 1; omega) ?_
    obtain ⟨R, hR⟩ : ∃ R, R = val a / 2 ^ (m + 1) % val b := ⟨_, rfl⟩
    rw [← hR] at hr
    obtain ⟨c, hc⟩ : ∃ c, c = 2 * R + val a / 2 ^ m % 2 := ⟨_, rfl⟩
    have hst := over_step (A := val a) (B := val b) (t := m) (c := c) hvb (by rw [hc, hR])
    have hRl : R < val b := by rw [hR]; exact Nat.mod_lt _ hvb
    have hlR : (canon R).length ≤ 128 := (okN_can (by omega)).1
    have hl2 : (canon (2 * R)).length ≤ 129 := canon_len_le.2 (by have h1 : (256 : Nat) ^ 129 = 256 * Big := by rw [Nat.pow_succ, Nat.mul_comm]; rfl
                                                                  omega)
    have hlc : (canon c).length ≤ 129 := canon_len_le.2 (by have h1 : (256 : Nat) ^ 129 = 256 * Big := by rw [Nat.pow_succ, Nat.mul_comm]; rfl
                                                            omega)
    subst hr
    have hm8 : m / 8 < a.length := by
     have h1 := bitsN_le8 a; omega
    have hod := over_digit (val a / 2 ^ (m + 1) / val b) m
    rw [← hQ] at hod
    refine WC.skip (WX.then_normal (WC.seq (WC.block (WC.sr (Km rfl (Km rfl ?_))))))
    refine Kh rfl (og_call rfl rfl (by kernel_rfl) (keep_val fun w hS => plus_c (a := canon R) (b := canon R) (by omega) (by omega))) ?_
    intro _
    refine WL.set 45 rfl (v' := .string (S (canon (2 * R)))) (congrArg (fun l => Value.string (S l)) (by rw [val_canon, ← Nat.two_mul])) ?_
    refine Ka rfl (WL.nt ?_)
    refine WC.joinP (σ := Unit) [(0, _), (1, _), (8, _), (10, _)] (fun gq => [(9, .string (S (canon c)))]) (fun gq => True) (sub_cons rfl (sub_cons rfl (sub_cons rfl (sub_cons rfl (sub_nil _))))) ?_ ?_
    ·skip
     refine WC.sr (Km rfl (Km rfl ?_))
     refine Kh rfl (og_call rfl rfl (by kernel_rfl) (keep_val fun w hS => rone_c (a := a) (i := m) (by omega) (by omega))) ?_
     intro _
     refine WL.nt ?_
     refine WC.cond rfl (fun hc48 => ?_) (fun hc48 => ?_)
     ·(try simp only [sB] at hc48)
      have hb1 : val a / 2 ^ m % 2 = 1 := by simpa [bitN] using hc48
      refine WC.region (Km rfl ?_)
      refine Kh rfl (og_call rfl rfl (by kernel_rfl) (keep_val fun w hS => plus_c (a := canon (2 * R)) (b := [1]) (by omega) (by (simp <;> omega)))) ?_
      intro _
      refine WL.set 50 rfl (v' := .string (S (canon c))) (congrArg (fun l => Value.string (S l)) (by rw [val_canon, show val [1] = 1 from rfl, hc, hb1])) ?_
      refine Ka rfl (WL.nil ?_)
      refine WX.joinP (()) (sub_cons rfl (sub_cons rfl (sub_cons rfl (sub_cons rfl (sub_nil _))))) (by refine (sub_cons ?_ (sub_nil _)) <;> (rfl)) ?_ (by (exact fun _ h => h))
      (try dsimp only)
      done
     ·(try simp only [sB] at hc48)
      have hb1 : ¬ val a / 2 ^ m % 2 = 1 := by simpa [bitN] using hc48
      rw [show 2 * R = c by omega]
      refine WC.skip ?_
      refine WX.joinP (()) (sub_cons rfl (sub_cons rfl (sub_cons rfl (sub_cons rfl (sub_nil _))))) (by refine (sub_cons ?_ (sub_nil _)) <;> (rfl)) ?_ (by (exact fun _ h => h))
      (try dsimp only)
      done
    ·rintro _ hmeet; (try dsimp only at hmeet ⊢)
     refine WC.sr (Km rfl (Km rfl ?_))
     refine Kh rfl (og_call rfl rfl (by kernel_rfl) (keep_val fun w hS => order_c (a := canon c) (b := b) (by exact can_canon _) (by exact hb.2) (by omega))) ?_
     intro _
     refine Kq rfl (rd_geq rfl rfl rfl) (WL.nt ?_)
     refine WC.cond rfl (fun hc54 => ?_) (fun hc54 => ?_)
     ·(try simp only [sB] at hc54)
      have hge : val b ≤ c := Nat.not_lt.1 fun h => by have := (cmpI_neg c (val b)).2 h; rw [val_canon] at hc54; omega
      obtain ⟨hq1, hr1⟩ := hst.1 hge
      refine WC.sr (Km rfl (Km rfl ?_))
      refine Kh rfl (og_call rfl rfl (by kernel_rfl) (keep_val fun w hS => minus_c (a := canon c) (b := b) (by rw [val_canon]; exact hge) (by omega) (by omega))) ?_
      intro _
      refine WL.set 57 rfl (v' := .string (S (canon (c - val b)))) (congrArg (fun l => Value.string (S l)) (by rw [val_canon])) ?_
      refine Ka rfl (WL.nt (WC.sr (Ka rfl (WL.nt (WC.seq (WC.sr (Ka rfl (WL.nt (WC.block ?_)))))))))
      refine WC.loopO (σ := Nat × Nat) [(0, _), (1, _), (8, _), (9, _), (10, _)] (fun gq => [(11, .int .u8 (gq.2 : Int)), (12, .int .i64 (gq.1 : Int))]) (fun gq => gq.1 ≤ m % 8 ∧ gq.2 = 2 ^ gq.1) (fun gq => m % 8 - gq.1) (fun gq => [⟨some b35, (be a.length Q).map B, 5⟩]) (fun gq => []) (0, 1) (sub_cons rfl (sub_cons rfl (sub_cons rfl (sub_cons rfl (sub_cons rfl (sub_nil _)))))) (sub_cons rfl (sub_cons rfl (sub_nil _))) (by (try dsimp only); exact ⟨Nat.zero_le _, rfl⟩) (by (exact fun _ h => h)) ?_
      rintro ⟨k, p⟩ hinv2; (try dsimp only at hinv2 ⊢)
      obtain ⟨hk, hp⟩ := hinv2
      refine WC.seq (WC.sr (Km rfl (Km rfl ?_)))
      (refine Kq rfl (rd_rem64nl rfl rfl rfl ?_) ?_; (focus (omega)))
      refine Kq rfl (rd_lss rfl rfl rfl) (WL.nt ?_)
      refine WC.cond rfl (fun hc61 => ?_) (fun hc61 => ?_)
      ·(try simp only [sB] at hc61)
       have hp2 : p * 2 ≤ 128 := by
        rw [hp, ← Nat.pow_succ]; exact Nat.le_trans (Nat.pow_le_pow_right (by decide) (by omega : k + 1 ≤ 7)) (by decide)
       refine WC.skip (WX.then_normal (WC.seq (WC.block (WC.region (Km rfl ?_)))))
       (refine Kq rfl (rd_mulW (c := 2) rfl rfl rfl ?_) ?_; (focus (omega)))
       refine Ka rfl (WL.nil (WX.block_normal (WX.then_normal (WC.region (Km rfl ?_)))))
       (refine Kq rfl (rd_add64nl rfl rfl rfl ?_) ?_; (focus (omega)))
       refine Ka rfl (WL.nil ?_)
       refine WX.loopO ((k + 1, p * 2)) (by (try dsimp only); omega) (sub_cons rfl (sub_cons rfl (sub_cons rfl (sub_cons rfl (sub_cons rfl (sub_nil _)))))) (by refine (sub_cons ?_ (sub_cons ?_ (sub_nil _))) <;> (rfl)) ?_ (by (exact fun _ h => h))
       (try dsimp only)
       exact ⟨by omega, by rw [hp, Nat.pow_succ]⟩
      ·(try simp only [sB] at hc61)
       refine WC.exit (WX.then_exit (WX.then_exit (WX.block_exit ?_)))
       obtain rfl : k = m % 8 := by omega
       have hq8 : ((be a.length Q).map B)[a.length - 1 - m / 8]? = some (.int .u8 ((Q / 256 ^ (m / 8) % 256 : Nat) : Int)) := by
        rw [List.getElem?_map, be_get _ _ _ (by omega), show a.length - 1 - (a.length - 1 - m / 8) = m / 8 by omega]; simp [B, UInt8.toNat_ofNat']
       rw [← hp] at hod
       refine WX.then_normal (WC.region (Km rfl (Km rfl (Kq rfl (rd_slen rfl rfl Tryz.underlying22) ?_))))
       (refine Kq rfl (rd_sub64nl rfl rfl rfl ?_) ?_; (focus (omega)))
       refine Km rfl ?_
       (refine Kq rfl (rd_quo64nl rfl rfl rfl ?_) ?_; (focus (omega)))
       (refine Kq rfl (rd_sub64n rfl rfl rfl ?_) ?_; (focus (omega)))
       (refine Kq rfl (rd_ia rfl rfl rfl Tryz.underlying128 (by kernel_rfl : _ = some 1) ?_ (by (try simp only [sN, Int.reduceToNat, Nat.reduceAdd, Nat.reduceMul, Nat.reduceSub]); rfl)) ?_; (focus (omega)))
       refine Kq rfl (ld rfl rfl .tc Tryz.underlying5 rfl hq8) ?_
       refine Km rfl ?_
       (refine Kq rfl (rd_addW rfl rfl rfl ?_) ?_; (focus (assumption)))
       refine WL.set 76 rfl (v' := B (UInt8.ofNat (Q / 256 ^ (m / 8) % 256 + p))) (by rw [B, UInt8.toNat_ofNat', Nat.mod_eq_of_lt hod]) ?_
       (refine Kq rfl (rd_ia rfl rfl rfl Tryz.underlying128 (by kernel_rfl : _ = some 1) ?_ (by (try simp only [sN, Int.reduceToNat, Nat.reduceAdd, Nat.reduceMul, Nat.reduceSub]); rfl)) ?_; (focus (omega)))
       refine WL.g0 rfl rfl (st rfl rfl rfl .tc (by kernel_rfl) rfl ?_ (by rfl)) ?_
       ·rw [List.length_map, be_len]; omega
       intro _
       refine WL.nil (WX.block_normal (WX.then_normal (WC.region (Km rfl ?_))))
       (refine Kq rfl (rd_sub64 rfl rfl rfl ?_) ?_; (focus (omega)))
       refine Ka rfl (WL.nil ?_)
       refine WX.loopO ((m, canon (c - val b), Q + p * 256 ^ (m / 8), (m : Int) - 1)) (by (try dsimp only); omega) (sub_cons rfl (sub_cons rfl (sub_cons rfl (sub_nil _)))) (by refine (sub_cons ?_ (sub_cons ?_ (sub_nil _))) <;> (rfl)) ?_ (by exact fun w h => by rw [← be_add a.length (m / 8) Q p (by omega) hod, List.map_set]; exact h)
       (try dsimp only)
       exact ⟨by omega, by rw [hr1], by rw [hq1, hp, ← two_split, hQ, Nat.pow_succ, Nat.add_mul, Nat.one_mul]; congr 1; simp only [Nat.mul_comm, Nat.mul_left_comm, Nat.mul_assoc], rfl⟩
     ·(try simp only [sB] at hc54)
      have hlt : c < val b := by rw [val_canon] at hc54; exact (cmpI_neg c (val b)).1 hc54
      obtain ⟨hq1, hr1⟩ := hst.2 hlt
      refine WC.skip (WX.block_normal (WX.then_normal (WC.region (Km rfl ?_))))
      (refine Kq rfl (rd_sub64 rfl rfl rfl ?_) ?_; (focus (omega)))
      refine Ka rfl (WL.nil ?_)
      refine WX.loopO ((m, canon c, Q, (m : Int) - 1)) (by (try dsimp only); omega) (sub_cons rfl (sub_cons rfl (sub_cons rfl (sub_nil _)))) (by refine (sub_cons ?_ (sub_cons ?_ (sub_nil _))) <;> (rfl)) ?_ (by (exact fun _ h => h))
      (try dsimp only)
      exact ⟨by omega, by rw [hr1], by rw [hq1, hQ, Nat.pow_succ]; simp only [Nat.mul_comm, Nat.mul_left_comm, Nat.mul_assoc], rfl⟩
   ·(try simp only [sB] at hc40)
    refine WC.exit (WX.then_exit (WX.then_exit (WX.block_exit ?_)))
    obtain rfl : t = 0 := by omega
    rw [Nat.pow_zero, Nat.div_one, Nat.mul_one] at hQ
    rw [Nat.pow_zero, Nat.div_one] at hr
    subst hr
    have hbl1 := be_len a.length Q
    have hQl : Q < 256 ^ a.length := by rw [hQ]; exact Nat.lt_of_le_of_lt (Nat.div_le_self _ _) hvl
    refine WX.then_normal (WC.sr (Km rfl ?_))
    refine Kh rfl (og_call rfl rfl (by kernel_rfl) (keep_val fun w hS => rtrim_c (b := be a.length Q) (by (exact hS.os)) (by omega) (by omega) (by omega))) ?_
    intro _
    refine Km rfl (Ka rfl (Ka rfl (WL.nt (WC.ret ?_))))
    exact WX.retN rfl (.tmp rfl (.tmp rfl .nil)) fun w' hS => ⟨by rw [val_be, Nat.mod_eq_of_lt hQl, hQ]; rfl, hS.below⟩
theorem rdivmod_c {a b : Bs} {w : World} :
  Calls Tryz.prog 195 #[.string (S a), .string (S b)] w fun e w' => e = .returned (DE (divN a b)) ∧ Below w.heap.size w w' := by
 refine enter (S := St (fun _ => True) w [] ([])) (L := [(0, .string (S a)), (1, .string (S b))]) Tryz.func195 rfl Tryz.ntmps195 rfl (args_cons rfl (args_cons rfl (args_nil _))) (St.start (fun _ _ => trivial) facts_nil) ?_
 refine WC.sr (Ka rfl (Ka rfl (Ka rfl (WL.nt (WC.seq (WC.sr (Km rfl ?_)))))))
 refine Kh rfl (og_call rfl rfl (by kernel_rfl) (keep_val fun w hS => rvalid_c)) ?_
 intro _
 refine Kq rfl (rd_not rfl rfl) (Km rfl ?_)
 refine WL.bool 12 rfl (fun hg12 => ?_) (fun hg12 => ?_)
 ·(try simp only [sB] at hg12)
  refine Kt rfl (Kt rfl (Kt rfl (Kq rfl (rd_pickt rfl rfl rfl) (WL.nt ?_))))
  refine WC.cond rfl (fun _ => ?_) (fun h => by cases h)
  refine WC.sr (Ka rfl (Ka rfl (Ka rfl (WL.nt (WC.ret (WX.then_ret ?_))))))
  exact WX.retN rfl (.tmp rfl (.tmp rfl (.tmp rfl .nil))) fun w' hS => ⟨by rw [divN, if_neg (by simp_all)]; rfl, hS.below⟩
 ·(try simp only [sB] at hg12)
  refine Km rfl ?_
  refine Kh rfl (og_call rfl rfl (by kernel_rfl) (keep_val fun w hS => rvalid_c)) ?_
  intro _
  refine Kq rfl (rd_not rfl rfl) (Kq rfl (rd_pickf rfl rfl rfl) (WL.nt ?_))
  refine WC.cond rfl (fun hc16 => ?_) (fun hc16 => ?_)
  ·(try simp only [sB] at hc16)
   refine WC.sr (Ka rfl (Ka rfl (Ka rfl (WL.nt (WC.ret (WX.then_ret ?_))))))
   exact WX.retN rfl (.tmp rfl (.tmp rfl (.tmp rfl .nil))) fun w' hS => ⟨by rw [divN, if_neg (by simp_all)]; rfl, hS.below⟩
  ·(try simp only [sB] at hc16)
   have hab : okN a ∧ okN b := by simp_all
   refine WC.skip (WX.then_normal (WC.seq (WC.sr (Km rfl (Kq rfl (rd_seq rfl rfl rfl) (WL.nt ?_))))))
   refine WC.cond rfl (fun hc18 => ?_) (fun hc18 => ?_)
   ·(try simp only [sB] at hc18)
    have hb0 : b = [] := by simpa using hc18
    refine WC.sr (Ka rfl (Ka rfl (Ka rfl (WL.nt (WC.ret (WX.then_ret ?_))))))
    exact WX.retN rfl (.tmp rfl (.tmp rfl (.tmp rfl .nil))) fun w' hS => ⟨by rw [divN, if_pos hab, if_pos hb0]; rfl, hS.below⟩
   ·(try simp only [sB] at hc18)
    have hb0 : b ≠ [] := by simpa using hc18
    refine WC.skip (WX.then_normal (WC.sr (Km rfl (Km rfl ?_))))
    refine Kh rfl (og_call rfl rfl (by kernel_rfl) (keep_val fun w hS => rover_c (a := a) (b := b) (by exact hab.1) (by exact hab.2) (by exact hb0))) ?_
    intro _
    refine Km rfl (Kq rfl (rd_extL rfl rfl rfl) (Kq rfl (rd_extL rfl rfl rfl) (Ka rfl (Ka rfl (WL.nt (WC.sr (Km rfl (Km rfl (Ka rfl (Ka rfl (Ka rfl ?_)))))))))))
    refine WL.nt (WC.ret ?_)
    exact WX.retN rfl (.tmp rfl (.tmp rfl (.tmp rfl .nil))) fun w' hS => ⟨by rw [divN, if_pos hab, if_neg hb0]; rfl, hS.below⟩
theorem rcommon_c {a b : Bs} {w : World} (ha : okN a) (hb : okN b) :
  Calls Tryz.prog 128 #[.string (S a), .string (S b)] w fun e w' => e = .returned (.string (S (canon (Nat.gcd (val a) (val b))))) ∧ Below w.heap.size w w' := by
 refine enter (S := St (fun _ => True) w [] ([])) (L := [(0, .string (S a)), (1, .string (S b))]) Tryz.func128 rfl Tryz.ntmps128 rfl (args_cons rfl (args_cons rfl (args_nil _))) (St.start (fun _ _ => trivial) facts_nil) ?_
 refine WC.sr (Ka rfl (WL.nt (WC.seq (WC.block ?_))))
 refine WC.loopP (σ := Bs × Bs) [] (fun gq => [(0, .string (S gq.1)), (1, .string (S gq.2))]) (fun gq => okN gq.1 ∧ okN gq.2 ∧ Nat.gcd (val gq.1) (val gq.2) = Nat.gcd (val a) (val b)) (fun gq => val gq.2) (a, b) (sub_nil _) (sub_cons rfl (sub_cons rfl (sub_nil _))) (by (try dsimp only); exact ⟨ha, hb, rfl⟩) ?_
 rintro ⟨x, y⟩ hinv1; (try dsimp only at hinv1 ⊢)
 obtain ⟨hx, hy, hg⟩ := hinv1
 refine WC.seq (WC.sr (Km rfl (Kq rfl (rd_sne rfl rfl rfl) (WL.nt ?_))))
 refine WC.cond rfl (fun hc8 => ?_) (fun hc8 => ?_)
 ·(try simp only [sB] at hc8)
  have hy0 : y ≠ [] := by simpa using hc8
  have hvy : 0 < val y := Nat.pos_of_ne_zero fun e => hy0 ((val_eq_zero hy.2).1 e)
  refine WC.skip (WX.then_normal (WC.block (WC.sr (Km rfl (Km rfl ?_)))))
  refine Kh rfl (og_call rfl rfl (by kernel_rfl) (keep_val fun w hS => rover_c (a := x) (b := y) (by exact hx) (by exact hy) (by exact hy0))) ?_
  intro _
  refine Km rfl (Kq rfl (rd_extL rfl rfl rfl) (Kq rfl (rd_extL rfl rfl rfl) (Ka rfl (Ka rfl (WL.nt (WC.region (Km rfl (Km rfl (Ka rfl (Ka rfl (WL.nil ?_)))))))))))
  refine WX.block_normal ?_
  refine WX.loopP ((y, canon (val x % val y))) (by (try dsimp only); rw [val_canon]; exact Nat.mod_lt _ hvy) (sub_nil _) (by refine (sub_cons ?_ (sub_cons ?_ (sub_nil _))) <;> (rfl)) ?_ (by (exact fun _ h => h))
  (try dsimp only)
  exact ⟨hy, okN_mod hy hy0, by rw [val_canon, gcd_rec', hg]⟩
 ·(try simp only [sB] at hc8)
  refine WC.exit (WX.then_exit (WX.then_exit (WX.block_exit ?_)))
  obtain rfl : y = [] := by simpa using hc8
  have hgx : val x = Nat.gcd (val a) (val b) := by rw [← hg]; exact (Nat.gcd_zero_right _).symm
  refine WX.then_normal (WC.sr (Km rfl (Ka rfl (WL.nt (WC.ret ?_)))))
  exact WX.retN rfl (.tmp rfl .nil) fun w' hS => ⟨by rw [← hgx, ok_canon hx]; rfl, hS.below⟩
end Go.Proofs.YtnimhldbblfgbaaGreat
namespace Go.Proofs.YtnimhldbblfgbaaGreat
set_option linter.unusedSimpArgs false
set_option linter.unusedVariables false
set_option maxRecDepth 20000
set_option maxHeartbeats 600000
open Go.RowKit
def fromZ (a : Bs) : Zs := if okN a then (false, a) else (false, [])
theorem fromZ_ok {a : Bs} (h : okN a) : fromZ a = (false, a) := if_pos h
theorem zfrom_c {a : Bs} {w : World} :
  Calls Tryz.prog 36 #[.string (S a)] w fun e w' => e = .returned (zV (fromZ a)) ∧ Below w.heap.size w w' := by
 refine enter (S := St (fun _ => True) w [] ([])) (L := [(0, .string (S a))]) Tryz.func36 rfl Tryz.ntmps36 rfl (args_cons rfl (args_nil _)) (St.start (fun _ _ => trivial) facts_nil) ?_
 refine WC.sr ?_
 refine Kh rfl (og_alloc rfl (v := (.agg #[.bool false, .string (S [])])) (cs := [.bool false, .string (S [])]) (by kernel_rfl) rfl) ?_
 intro b2
 refine WL.nt (WC.seq (WC.sr (Km rfl ?_)))
 refine Kh rfl (og_call rfl rfl (by kernel_rfl) (keep_val fun w hS => valid_c)) ?_
 intro _
 refine Kq rfl (rd_not rfl rfl) (WL.nt ?_)
 refine WC.cond rfl (fun hc5 => ?_) (fun hc5 => ?_)
 ·(try simp only [sB] at hc5)
  refine WC.sr ?_
  refine Kq rfl (rd_bld [[.bool false], [.string (S [])]] rfl rfl (by simp only [bld, fldv, Nat.beq, Value.cells, cond_true, cond_false, List.nil_append, List.cons_append, List.append_nil]; rfl) (fun w => by kernel_rfl)) ?_
  refine WL.g0 rfl rfl (sta rfl rfl rfl .tc ?_ ?_ ?_) ?_
  ·kernel_rfl
  ·simp [Value.oneCell']
  ·rfl
  intro _
  refine WL.nt (WC.ret (WX.then_ret ?_))
  exact WX.retN rfl (.agg rfl .tc Tryz.underlying45 rfl (by kernel_rfl) .nil) fun w' hS => ⟨by rw [fromZ, if_neg (by simpa using hc5)]; rfl, hS.below⟩
 ·(try simp only [sB] at hc5)
  refine WC.skip (WX.then_normal (WC.sr (Km rfl ?_)))
  refine Kh rfl (og_call rfl rfl (by kernel_rfl) (keep_val fun w hS => made_c (n := false) (a := a))) ?_
  intro _
  refine WL.g0 rfl rfl (sta rfl rfl rfl .tc ?_ ?_ ?_) ?_
  ·kernel_rfl
  ·simp [Value.oneCell']
  ·rfl
  intro _
  refine WL.nt (WC.ret ?_)
  exact WX.retN rfl (.agg rfl .tc Tryz.underlying45 rfl (by kernel_rfl) .nil) fun w' hS => ⟨by rw [fromZ, if_pos (by simpa using hc5)]; rfl, hS.below⟩
def mulZ (x y : Zs) : Zs × Int := if okZ x ∧ okZ y then (mkZ (x.1 != y.1) (mulN x.2 y.2).1, (mulN x.2 y.2).2) else ((false, []), 3)
theorem zmul_c {x y : Zs} {w : World} :
  Calls Tryz.prog 28 #[zV x, zV y] w fun e w' => e = .returned (ZE (mulZ x y)) ∧ Below w.heap.size w w' := by
 refine enter (S := St (fun _ => True) w [] ([])) (L := [(0, zV x), (1, zV y)]) Tryz.func28 rfl Tryz.ntmps28 rfl (args_cons rfl (args_cons rfl (args_nil _))) (St.start (fun _ _ => trivial) facts_nil) ?_
 refine WC.sr ?_
 refine Kh rfl (og_box rfl rfl (by (exact cells_agg _))) ?_
 intro b2
 refine Kh rfl (og_box rfl rfl (by (exact cells_agg _))) ?_
 intro b3
 refine Kh rfl (og_alloc rfl (v := (.agg #[.bool false, .string (S [])])) (cs := [.bool false, .string (S [])]) (by kernel_rfl) rfl) ?_
 intro b4
 refine Ka rfl (WL.nt (WC.seq (WC.sr ?_)))
 refine Kq rfl (lda rfl rfl .tc Tryz.underlying45 rfl ?_) ?_
 ·kernel_rfl
 refine Kq rfl (lda rfl rfl .tc Tryz.underlying45 rfl ?_) ?_
 ·kernel_rfl
 refine Kh rfl (og_call rfl rfl (by kernel_rfl) (keep_val fun w hS => both_c (x := x) (y := y))) ?_
 intro _
 refine Kq rfl (rd_not rfl rfl) (WL.nt ?_)
 refine WC.cond rfl (fun hc11 => ?_) (fun hc11 => ?_)
 ·(try simp only [sB] at hc11)
  have hr : mulZ x y = ((false, []), 3) := by rw [mulZ, if_neg (by simpa using hc11)]
  refine WC.sr ?_
  refine Kq rfl (rd_bld [[.bool false], [.string (S [])]] rfl rfl (by simp only [bld, fldv, Nat.beq, Value.cells, cond_true, cond_false, List.nil_append, List.cons_append, List.append_nil]; rfl) (fun w => by kernel_rfl)) ?_
  refine WL.g0 rfl rfl (sta rfl rfl rfl .tc ?_ ?_ ?_) ?_
  ·kernel_rfl
  ·simp [Value.oneCell']
  ·rfl
  intro _
  refine Ka rfl (WL.nt (WC.ret (WX.then_ret ?_)))
  exact WX.retN rfl (.agg rfl .tc Tryz.underlying45 rfl (by kernel_rfl) (.tmp rfl .nil)) fun w' hS => ⟨by rw [hr]; rfl, hS.below⟩
 ·(try simp only [sB] at hc11)
  have hr : mulZ x y = (mkZ (x.1 != y.1) (mulN x.2 y.2).1, (mulN x.2 y.2).2) := by rw [mulZ, if_pos (by simpa using hc11)]
  refine WC.skip (WX.then_normal (WC.sr ?_))
  refine Kq rfl (rd_fa (q := 1) rfl rfl Tryz.underlying45 rfl (by kernel_rfl) rfl) ?_
  refine Kq rfl (ld rfl rfl .tc Tryz.underlying22 rfl (by rfl)) ?_
  refine Kq rfl (rd_fa (q := 1) rfl rfl Tryz.underlying45 rfl (by kernel_rfl) rfl) ?_
  refine Kq rfl (ld rfl rfl .tc Tryz.underlying22 rfl (by rfl)) ?_
  refine Kh rfl (og_call rfl rfl (by kernel_rfl) (keep_val fun w hS => mul_c (a := x.2) (b := y.2))) ?_
  intro _
  refine Km rfl (Kq rfl (rd_extL rfl rfl rfl) (Kq rfl (rd_extL rfl rfl rfl) (Ka rfl (Ka rfl (WL.nt (WC.sr ?_))))))
  refine Kq rfl (rd_fa (q := 0) rfl rfl Tryz.underlying45 rfl (by kernel_rfl) rfl) ?_
  refine Kq rfl (ld rfl rfl .tc Tryz.underlying4 rfl (by rfl)) ?_
  refine Kq rfl (rd_fa (q := 0) rfl rfl Tryz.underlying45 rfl (by kernel_rfl) rfl) ?_
  refine Kq rfl (ld rfl rfl .tc Tryz.underlying4 rfl (by rfl)) ?_
  refine Kq rfl (rd_bne rfl rfl rfl Tryz.underlying4) ?_
  refine Km rfl ?_
  refine Kh rfl (og_call rfl rfl (by kernel_rfl) (keep_val fun w hS => made_c (n := x.1 != y.1) (a := (mulN x.2 y.2).1))) ?_
  intro _
  refine Km rfl ?_
  refine WL.g0 rfl rfl (sta rfl rfl rfl .tc ?_ ?_ ?_) ?_
  ·kernel_rfl
  ·simp [Value.oneCell']
  ·rfl
  intro _
  refine Ka rfl (WL.nt (WC.ret ?_))
  exact WX.retN rfl (.agg rfl .tc Tryz.underlying45 rfl (by kernel_rfl) (.tmp rfl .nil)) fun w' hS => ⟨by rw [hr]; rfl, hS.below⟩
theorem rzmul_c {x y : Zs} {w : World} :
  Calls Tryz.prog 68 #[zV x, zV y] w fun e w' => e = .returned (ZE (mulZ x y)) ∧ Below w.heap.size w w' := by
 refine enter (S := St (fun _ => True) w [] ([])) (L := [(0, zV x), (1, zV y)]) Tryz.func68 rfl Tryz.ntmps68 rfl (args_cons rfl (args_cons rfl (args_nil _))) (St.start (fun _ _ => trivial) facts_nil) ?_
 refine WC.sr ?_
 refine Kh rfl (og_box rfl rfl (by (exact cells_agg _))) ?_
 intro b2
 refine Kh rfl (og_box rfl rfl (by (exact cells_agg _))) ?_
 intro b3
 refine Kh rfl (og_alloc rfl (v := (.agg #[.bool false, .string (S [])])) (cs := [.bool false, .string (S [])]) (by kernel_rfl) rfl) ?_
 intro b4
 refine Ka rfl (WL.nt (WC.seq (WC.sr ?_)))
 refine Kq rfl (lda rfl rfl .tc Tryz.underlying45 rfl ?_) ?_
 ·kernel_rfl
 refine Kh rfl (og_call rfl rfl (by kernel_rfl) (keep_val fun w hS => rzvalid_c (x := x))) ?_
 intro _
 refine Kq rfl (rd_not rfl rfl) (Km rfl ?_)
 refine WL.bool 11 rfl (fun hg11 => ?_) (fun hg11 => ?_)
 ·(try simp only [sB] at hg11)
  refine Kt rfl (Kt rfl (Kt rfl (Kq rfl (rd_pickt rfl rfl rfl) (WL.nt ?_))))
  refine WC.cond rfl (fun _ => ?_) (fun h => by cases h)
  refine WC.sr ?_
  refine Kq rfl (rd_bld [[.bool false], [.string (S [])]] rfl rfl (by simp only [bld, fldv, Nat.beq, Value.cells, cond_true, cond_false, List.nil_append, List.cons_append, List.append_nil]; rfl) (fun w => by kernel_rfl)) ?_
  refine WL.g0 rfl rfl (sta rfl rfl rfl .tc ?_ ?_ ?_) ?_
  ·kernel_rfl
  ·simp [Value.oneCell']
  ·rfl
  intro _
  refine Ka rfl (WL.nt (WC.ret (WX.then_ret ?_)))
  exact WX.retN rfl (.agg rfl .tc Tryz.underlying45 rfl (by kernel_rfl) (.tmp rfl .nil)) fun w' hS => ⟨by rw [show mulZ x y = ((false, []), 3) from by rw [mulZ, if_neg (by simp_all)]]; rfl, hS.below⟩
 ·(try simp only [sB] at hg11)
  refine Kq rfl (lda rfl rfl .tc Tryz.underlying45 rfl ?_) ?_
  ·kernel_rfl
  refine Kh rfl (og_call rfl rfl (by kernel_rfl) (keep_val fun w hS => rzvalid_c (x := y))) ?_
  intro _
  refine Kq rfl (rd_not rfl rfl) (Kq rfl (rd_pickf rfl rfl rfl) (WL.nt ?_))
  refine WC.cond rfl (fun hc15 => ?_) (fun hc15 => ?_)
  ·(try simp only [sB] at hc15)
   refine WC.sr ?_
   refine Kq rfl (rd_bld [[.bool false], [.string (S [])]] rfl rfl (by simp only [bld, fldv, Nat.beq, Value.cells, cond_true, cond_false, List.nil_append, List.cons_append, List.append_nil]; rfl) (fun w => by kernel_rfl)) ?_
   refine WL.g0 rfl rfl (sta rfl rfl rfl .tc ?_ ?_ ?_) ?_
   ·kernel_rfl
   ·simp [Value.oneCell']
   ·rfl
   intro _
   refine Ka rfl (WL.nt (WC.ret (WX.then_ret ?_)))
   exact WX.retN rfl (.agg rfl .tc Tryz.underlying45 rfl (by kernel_rfl) (.tmp rfl .nil)) fun w' hS => ⟨by rw [show mulZ x y = ((false, []), 3) from by rw [mulZ, if_neg (by simp_all)]]; rfl, hS.below⟩
  ·(try simp only [sB] at hc15)
   have hr : mulZ x y = (mkZ (x.1 != y.1) (mulN x.2 y.2).1, (mulN x.2 y.2).2) := by rw [mulZ, if_pos (by simp_all)]
   refine WC.skip (WX.then_normal (WC.sr ?_))
   refine Kq rfl (rd_fa (q := 1) rfl rfl Tryz.underlying45 rfl (by kernel_rfl) rfl) ?_
   refine Kq rfl (ld rfl rfl .tc Tryz.underlying22 rfl (by rfl)) ?_
   refine Kq rfl (rd_fa (q := 1) rfl rfl Tryz.underlying45 rfl (by kernel_rfl) rfl) ?_
   refine Kq rfl (ld rfl rfl .tc Tryz.underlying22 rfl (by rfl)) ?_
   refine Kh rfl (og_call rfl rfl (by kernel_rfl) (keep_val fun w hS => rmul_c (a := x.2) (b := y.2))) ?_
   intro _
   refine Km rfl (Kq rfl (rd_extL rfl rfl rfl) (Kq rfl (rd_extL rfl rfl rfl) (Ka rfl (Ka rfl (WL.nt (WC.sr ?_))))))
   refine Kq rfl (rd_fa (q := 0) rfl rfl Tryz.underlying45 rfl (by kernel_rfl) rfl) ?_
   refine Kq rfl (ld rfl rfl .tc Tryz.underlying4 rfl (by rfl)) ?_
   refine Kq rfl (rd_fa (q := 0) rfl rfl Tryz.underlying45 rfl (by kernel_rfl) rfl) ?_
   refine Kq rfl (ld rfl rfl .tc Tryz.underlying4 rfl (by rfl)) ?_
   refine Kq rfl (rd_bne rfl rfl rfl Tryz.underlying4) ?_
   refine Km rfl ?_
   refine Kh rfl (og_call rfl rfl (by kernel_rfl) (keep_val fun w hS => rmake_c (n := x.1 != y.1) (a := (mulN x.2 y.2).1))) ?_
   intro _
   refine Km rfl ?_
   refine WL.g0 rfl rfl (sta rfl rfl rfl .tc ?_ ?_ ?_) ?_
   ·kernel_rfl
   ·simp [Value.oneCell']
   ·rfl
   intro _
   refine Ka rfl (WL.nt (WC.ret ?_))
   exact WX.retN rfl (.agg rfl .tc Tryz.underlying45 rfl (by kernel_rfl) (.tmp rfl .nil)) fun w' hS => ⟨by rw [hr]; rfl, hS.below⟩
def divZ (x y : Zs) : Zs × Int :=
 if okZ x ∧ okZ y then (if y.2 = [] then ((false, []), 11) else if val x.2 % val y.2 = 0 then (mkZ (x.1 != y.1) (canon (val x.2 / val y.2)), 0) else ((false, []), 1)) else ((false, []), 3)
theorem divN_ok {a b : Bs} (ha : okN a) (hb : okN b) (h0 : b ≠ []) : divN a b = ((canon (val a / val b), canon (val a % val b)), 0) := by rw [divN, if_pos ⟨ha, hb⟩, if_neg h0]
theorem rzof_c {n : Int} {w : World} (h0 : -9223372036854775808 ≤ n) (h1 : n ≤ 9223372036854775807) :
  Calls Tryz.prog 97 #[.int .i64 n] w fun e w' => e = .returned (zV (ofZ n)) ∧ Below w.heap.size w w' := by
 refine enter (S := St (fun _ => True) w [] ([])) (L := [(0, .int .i64 n)]) Tryz.func97 rfl Tryz.ntmps97 rfl (args_cons rfl (args_nil _)) (St.start (fun _ _ => trivial) facts_nil) ?_
 refine WC.sr ?_
 refine Kh rfl (og_alloc rfl (v := (.agg #[.bool false, .string (S [])])) (cs := [.bool false, .string (S [])]) (by kernel_rfl) rfl) ?_
 intro b2
 refine WL.nt (WC.seq (WC.sr (Km rfl (Kq rfl (rd_lss rfl rfl rfl) (WL.nt ?_)))))
 refine WC.cond rfl (fun hc4 => ?_) (fun hc4 => ?_)
 ·(try simp only [sB] at hc4)
  have hr : ofZ n = mkZ true (canon n.natAbs) := by rw [ofZ, decide_eq_true hc4]
  refine WC.sr (Km rfl ?_)
  (refine Kq rfl (rd_add64 rfl rfl rfl ?_) ?_; (focus (omega)))
  refine Kq rfl (rd_neg64 rfl rfl ?_) ?_
  ·omega
  refine Kq rfl (rd_conv rfl rfl Tryz.underlying2 Tryz.underlying81) ?_
  refine Kq rfl (rd_add rfl rfl rfl) ?_
  refine WL.set 9 rfl (v' := .int .u64 ((n.natAbs : Nat) : Int)) (by exact congrArg (Value.int .u64) (by simp only [IntKind.wrap_u64]; omega)) ?_
  refine Kh rfl (og_call rfl rfl (by kernel_rfl) (keep_val fun w hS => rof_c (n := n.natAbs) (by omega))) ?_
  intro _
  refine Kh rfl (og_call rfl rfl (by kernel_rfl) (keep_val fun w hS => rmake_c (n := true) (a := canon n.natAbs))) ?_
  intro _
  refine WL.g0 rfl rfl (sta rfl rfl rfl .tc ?_ ?_ ?_) ?_
  ·kernel_rfl
  ·simp [Value.oneCell']
  ·rfl
  intro _
  refine WL.nt (WC.ret (WX.then_ret ?_))
  exact WX.retN rfl (.agg rfl .tc Tryz.underlying45 rfl (by kernel_rfl) .nil) fun w' hS => ⟨by rw [hr]; rfl, hS.below⟩
 ·(try simp only [sB] at hc4)
  have hr : ofZ n = mkZ false (canon n.natAbs) := by rw [ofZ, decide_eq_false (by omega)]
  refine WC.skip (WX.then_normal (WC.sr (Km rfl ?_)))
  refine Kq rfl (rd_conv rfl rfl Tryz.underlying2 Tryz.underlying81) ?_
  refine WL.set 13 rfl (v' := .int .u64 ((n.natAbs : Nat) : Int)) (by exact congrArg (Value.int .u64) (by rw [IntKind.wrap_u64]; omega)) ?_
  refine Kh rfl (og_call rfl rfl (by kernel_rfl) (keep_val fun w hS => rof_c (n := n.natAbs) (by omega))) ?_
  intro _
  refine Kh rfl (og_call rfl rfl (by kernel_rfl) (keep_val fun w hS => rmake_c (n := false) (a := canon n.natAbs))) ?_
  intro _
  refine WL.g0 rfl rfl (sta rfl rfl rfl .tc ?_ ?_ ?_) ?_
  ·kernel_rfl
  ·simp [Value.oneCell']
  ·rfl
  intro _
  refine WL.nt (WC.ret ?_)
  exact WX.retN rfl (.agg rfl .tc Tryz.underlying45 rfl (by kernel_rfl) .nil) fun w' hS => ⟨by rw [hr]; rfl, hS.below⟩
/-- the division with a rest that is not negative -/
def dmZ (x y : Zs) : (Zs × Bs) × Int :=
 if okZ x ∧ okZ y then
  (if y.2 = [] then (((false, []), []), 11)
   else if x.1 = true ∧ val x.2 % val y.2 ≠ 0 then ((mkZ (x.1 != y.1) (addN (canon (val x.2 / val y.2)) [1]).1, canon (val y.2 - val x.2 % val y.2)), 0)
   else ((mkZ (x.1 != y.1) (canon (val x.2 / val y.2)), canon (val x.2 % val y.2)), 0))
 else (((false, []), []), 3)
abbrev DZE (r : (Zs × Bs) × Int) : Value := .tuple #[zV r.1.1, .string (S r.1.2), .int .i64 r.2]
def modZ (x : Zs) (m : Bs) : Bs × Int := if okZ x ∧ okN m then ((dmZ x (fromZ m)).1.2, (dmZ x (fromZ m)).2) else ([], 3)
theorem divZ_dm (x y : Zs) : divZ x y = if (dmZ x y).2 ≠ 0 then ((false, []), (dmZ x y).2) else if (dmZ x y).1.2 ≠ [] then ((false, []), 1) else ((dmZ x y).1.1, 0) := by
 unfold divZ dmZ
 by_cases h : okZ x ∧ okZ y
 ·rw [if_pos h, if_pos h]
  by_cases h0 : y.2 = []
  ·rw [if_pos h0, if_pos h0]; rfl
  ·rw [if_neg h0, if_neg h0]
   have hvy : 0 < val y.2 := Nat.pos_of_ne_zero fun e => h0 ((val_eq_zero h.2.1.2).1 e)
   have hmd := Nat.mod_lt (val x.2) hvy
   by_cases h1 : val x.2 % val y.2 = 0
   ·rw [if_pos h1, if_neg (by simp [h1])]
    simp [h1, canon_zero]
   ·rw [if_neg h1]
    by_cases h2 : x.1 = true
    ·have h3 : canon (val y.2 - val x.2 % val y.2) ≠ [] := by rw [ne_eq, canon_nil]; omega
     simp [h1, h2, h3]
    ·have h3 : canon (val x.2 % val y.2) ≠ [] := by rw [ne_eq, canon_nil]; exact h1
     simp [h1, h2, h3]
 ·rw [if_neg h, if_neg h]; rfl
end Go.Proofs.YtnimhldbblfgbaaGreat
