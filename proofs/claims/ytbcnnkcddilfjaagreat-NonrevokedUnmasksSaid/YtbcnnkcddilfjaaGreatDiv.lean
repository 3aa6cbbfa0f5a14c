/-
  Division of natural numbers by digits: plain facts for natural.divided.
-/
import Derived.Test.YtbcnnkcddilfjaaGreatArt
namespace Go.Proofs.YtbcnnkcddilfjaaGreat
set_option linter.unusedSimpArgs false
set_option linter.unusedVariables false
set_option maxRecDepth 20000

/-- the first n digits of a number -/
def digs (X n : Nat) : List Nat := (List.range n).map fun i => X / 256 ^ i % 256
theorem digs_len (X n : Nat) : (digs X n).length = n := by simp [digs]
theorem digs_succ (X n : Nat) : digs X (n + 1) = digs X n ++ [X / 256 ^ n % 256] := by simp [digs, List.range_succ]
theorem digs_lt (X n : Nat) : ∀ x ∈ digs X n, x < 256 := by
  intro x hx
  obtain ⟨i, _, rfl⟩ := List.mem_map.1 hx
  exact Nat.mod_lt _ (by decide)
theorem ev_digs (X : Nat) : ∀ n, ev 256 (digs X n) = X % 256 ^ n
  | 0 => by simp [digs, ev, Nat.mod_one]
  | n + 1 => by rw [digs_succ, ev_append, digs_len, ev_digs X n, Nat.mod_pow_succ]; simp [ev]
theorem digs_set (X n k : Nat) (h : k < n) : (digs X k ++ List.replicate (n - k) 0).set k (X / 256 ^ k % 256) = digs X (k + 1) ++ List.replicate (n - (k + 1)) 0 := by
  rw [List.set_append_right _ _ (by rw [digs_len]; exact Nat.le_refl _), digs_len, Nat.sub_self, show n - k = (n - (k + 1)) + 1 by omega, List.replicate_succ, List.set_cons_zero, digs_succ, List.append_assoc]; rfl
theorem digs_get (X n i : Nat) (h : i < n) : (digs X n).getD i 0 = X / 256 ^ i % 256 := by
  rw [List.getD_eq_getElem?_getD, digs, List.getElem?_map, List.getElem?_range h]; rfl
theorem sh_cases {s : Nat} (h : s < 8) : s = 0 ∨ s = 1 ∨ s = 2 ∨ s = 3 ∨ s = 4 ∨ s = 5 ∨ s = 6 ∨ s = 7 := by omega
/-- digits of a scaled number -/
theorem sc_digit0 (A s : Nat) : A * 2 ^ s / 256 ^ 0 % 256 = A / 256 ^ 0 % 256 * 2 ^ s % 256 := by
  rw [Nat.pow_zero, Nat.div_one, Nat.div_one, Nat.mul_mod (A % 256), Nat.mod_mod, ← Nat.mul_mod]
theorem sc_digit (A s i : Nat) (h : s < 8) : A * 2 ^ s / 256 ^ (i + 1) % 256 = A / 256 ^ (i + 1) % 256 * 2 ^ s % 256 + A / 256 ^ i % 256 / 2 ^ (8 - s) := by
  have e1 : A * 2 ^ s / 256 ^ (i + 1) = A / 256 ^ i / 2 ^ (8 - s) := by
    rw [Nat.div_div_eq_div_mul, show 256 ^ (i + 1) = 256 ^ i * 2 ^ (8 - s) * 2 ^ s from by
      rw [Nat.mul_assoc, ← Nat.pow_add, show 8 - s + s = 8 by omega, Nat.pow_succ], Nat.mul_div_mul_right _ _ (Nat.two_pow_pos s)]
  have e2 : A / 256 ^ (i + 1) = A / 256 ^ i / 256 := by rw [Nat.pow_succ, Nat.div_div_eq_div_mul]
  rw [e1, e2]
  generalize A / 256 ^ i = B
  rcases sh_cases h with rfl | rfl | rfl | rfl | rfl | rfl | rfl | rfl <;> omega
theorem sc_parts (A s i : Nat) (h : s < 8) : A / 256 ^ i % 256 / 2 ^ (8 - s) < 2 ^ s ∧ A / 256 ^ (i + 1) % 256 * 2 ^ s % 256 % 2 ^ s = 0 ∧ A / 256 ^ (i + 1) % 256 * 2 ^ s < 65536 := by
  have hx : A / 256 ^ i % 256 < 256 := Nat.mod_lt _ (by decide)
  have hy : A / 256 ^ (i + 1) % 256 < 256 := Nat.mod_lt _ (by decide)
  generalize A / 256 ^ i % 256 = x at *
  generalize A / 256 ^ (i + 1) % 256 = y at *
  rcases sh_cases h with rfl | rfl | rfl | rfl | rfl | rfl | rfl | rfl <;> exact ⟨by omega, by omega, by omega⟩
/-- the quotient's places from t on are done -/
structure DivInv (L X D n t : Nat) (r : List Nat) (Q : Nat) : Prop where
  len : r.length = L
  dig : ∀ x ∈ r, x < 256
  sum : X = Q * D + ev 256 (r.take (t + n))
  lt : ev 256 (r.take (t + n)) < 256 ^ t * D
  dvd : Q % 256 ^ t = 0
theorem div_start {L X D n t : Nat} (hL : L = t + n) (hX : X < 256 ^ t * D) (hX2 : X < 256 ^ L) : DivInv L X D n t (digs X L) 0 := by
  have e : ev 256 ((digs X L).take (t + n)) = X := by
    rw [List.take_of_length_le (by rw [digs_len]; omega), ev_digs, Nat.mod_eq_of_lt hX2]
  exact ⟨digs_len X L, digs_lt X L, by rw [e]; omega, by rw [e]; exact hX, by simp⟩
/-- the place j is done -/
theorem div_step {L X D n j Q g : Nat} {r r1 : List Nat} {top : Int} (h : DivInv L X D n (j + 1) r Q) (hD : D < 256 ^ n) (hL : j + n < L) (hlen : r1.length = L) (hdig : ∀ x ∈ r1, x < 256)
    (hsum : (ev 256 (r1.take (j + n)) : Int) + ((256 ^ (j + n) : Nat) : Int) * top + ((256 ^ j * g * D : Nat) : Int) = ev 256 (r.take (j + 1 + n))) (htop : 0 ≤ top) (hg : ev 256 (r.take (j + 1 + n)) / (256 ^ j * D) ≤ g) :
    top = 0 ∧ DivInv L X D n j (r1.set (j + n) 0) (Q + g * 256 ^ j) := by
  obtain ⟨tp, rfl⟩ : ∃ k : Nat, top = (k : Int) := ⟨top.toNat, by omega⟩
  have hs : ev 256 (r1.take (j + n)) + 256 ^ (j + n) * tp + 256 ^ j * g * D = ev 256 (r.take (j + 1 + n)) := by
    apply Int.ofNat_inj.1
    rw [Int.natCast_add, Int.natCast_add, Int.natCast_mul]; exact hsum
  obtain ⟨W, hW⟩ : ∃ W, W = ev 256 (r.take (j + 1 + n)) := ⟨_, rfl⟩
  obtain ⟨E, hE⟩ : ∃ E, E = ev 256 (r1.take (j + n)) := ⟨_, rfl⟩
  rw [← hW] at hs hg
  rw [← hE] at hs
  have hlt := h.lt
  rw [← hW] at hlt
  have hDp : 0 < D := by
    rcases Nat.eq_zero_or_pos D with e | e
    · rw [e] at hlt; omega
    · exact e
  obtain ⟨V, hV⟩ : ∃ V, V = 256 ^ j * D := ⟨_, rfl⟩
  have hVp : 0 < V := by rw [hV]; exact Nat.mul_pos (Nat.pow_pos (by decide)) hDp
  have e1 : 256 ^ j * g * D = g * V := by rw [hV, Nat.mul_comm (256 ^ j) g, Nat.mul_assoc]
  rw [← hV] at hg
  rw [e1] at hs
  have hgq : g = W / V := Nat.le_antisymm ((Nat.le_div_iff_mul_le hVp).2 (by omega)) hg
  have hT : E + 256 ^ (j + n) * tp = W % V := by
    have := Nat.div_add_mod W V
    rw [Nat.mul_comm V, ← hgq] at this; omega
  have hTl := Nat.mod_lt W hVp
  have hVl : V < 256 ^ (j + n) := by rw [hV, Nat.pow_add]; exact Nat.mul_lt_mul_of_pos_left hD (Nat.pow_pos (by decide))
  have htp : tp = 0 := by
    rcases Nat.eq_zero_or_pos tp with e | e
    · exact e
    · have : 256 ^ (j + n) * 1 ≤ 256 ^ (j + n) * tp := Nat.mul_le_mul_left _ e
      omega
  subst htp
  have hEV : E = W % V := by omega
  have hE2 : ev 256 ((r1.set (j + n) 0).take (j + n)) = E := by rw [take_set_lt r1 _ _ _ (Nat.le_refl _), hE]
  refine ⟨rfl, by rw [List.length_set]; exact hlen, set_lt 256 r1 hdig _ 0 (by decide), ?_, ?_, ?_⟩
  · rw [hE2, h.sum, ← hW, Nat.add_mul]
    have : g * 256 ^ j * D = g * V := by rw [hV, Nat.mul_assoc]
    omega
  · rw [hE2, ← hV]; omega
  · have h1 := h.dvd
    obtain ⟨q, hq⟩ := Nat.dvd_of_mod_eq_zero h1
    rw [hq, Nat.pow_succ, Nat.mul_assoc, Nat.mul_comm g, ← Nat.mul_add]; exact Nat.mul_mod_right _ _
/-- the estimate is too great -/
theorem div_less {W A D E P g : Nat} {top : Int} (hsum : (E : Int) + (P : Int) * top + ((A * g * D : Nat) : Int) = W) (hE : E < P) (ht : top < 0) : W < g * (A * D) := by
  have h1 : (P : Int) * top ≤ (P : Int) * (-1) := Int.mul_le_mul_of_nonneg_left (by omega) (by omega)
  have e : A * g * D = g * (A * D) := by rw [Nat.mul_comm A g, Nat.mul_assoc]
  rw [e] at hsum
  omega
/-- the subtraction is done -/
theorem div_sub {m g n D cy bw : Nat} {r d r2 : List Nat} (h : SubInv 256 m g r d n r2 cy bw) (hd : ev 256 (d.take n) = D) (hl : m + n < r.length) :
    (ev 256 (r2.take (m + n)) : Int) + ((256 ^ (m + n) : Nat) : Int) * ((r2.getD (m + n) 0 : Nat) - (cy : Int) - bw) + ((256 ^ m * g * D : Nat) : Int) = ev 256 (r.take (m + 1 + n)) := by
  have h1 := h.sum
  have h2 := getD_drop_eq h.high
  rw [hd] at h1
  rw [show m + 1 + n = m + n + 1 by omega, ev_take_succ 256 r (m + n) hl, ← h2]
  generalize 256 ^ (m + n) = P at *
  generalize 256 ^ m * g * D = G at *
  generalize r2.getD (m + n) 0 = x at *
  generalize ev 256 (r2.take (m + n)) = E at *
  generalize ev 256 (r.take (m + n)) = F at *
  have e : (P : Int) * ((x : Int) - cy - bw) = ((P * x : Nat) : Int) - ((P * (cy + bw) : Nat) : Int) := by
    rw [Int.natCast_mul, Int.natCast_mul, Int.natCast_add, Int.mul_sub, Int.mul_sub, Int.mul_add]; omega
  rw [e]; omega
/-- one is given back -/
theorem div_back {m g n D c : Nat} {W : Nat} {top : Int} {r3 d r4 : List Nat} (h : AddInv 256 m r3 d n r4 c) (hd : ev 256 (d.take n) = D) (hg : 1 ≤ g)
    (hs : (ev 256 (r3.take (m + n)) : Int) + ((256 ^ (m + n) : Nat) : Int) * top + ((256 ^ m * g * D : Nat) : Int) = W) :
    (ev 256 (r4.take (m + n)) : Int) + ((256 ^ (m + n) : Nat) : Int) * (top + c) + ((256 ^ m * (g - 1) * D : Nat) : Int) = W := by
  have h1 := h.sum
  rw [hd] at h1
  have e1 : 256 ^ m * g * D = 256 ^ m * (g - 1) * D + 256 ^ m * D := by
    obtain ⟨k, rfl⟩ : ∃ k, g = k + 1 := ⟨g - 1, by omega⟩
    rw [Nat.add_sub_cancel, Nat.mul_add, Nat.mul_one, Nat.add_mul]
  rw [e1] at hs
  rw [Int.mul_add]
  generalize 256 ^ (m + n) = P at *
  generalize 256 ^ m * (g - 1) * D = G at *
  generalize 256 ^ m * D = G' at *
  have e : (P : Int) * (c : Int) = ((P * c : Nat) : Int) := by rw [Int.natCast_mul]
  rw [e]; omega
theorem be_get : ∀ (k x i : Nat), i < k → (be k x)[i]? = some (UInt8.ofNat (x / 256 ^ (k - 1 - i)))
  | 0, x, i, h => by omega
  | k + 1, x, 0, h => by rw [be, List.getElem?_cons_zero]; rfl
  | k + 1, x, i + 1, h => by rw [be, List.getElem?_cons_succ, be_get k x i (by omega), show k + 1 - 1 - (i + 1) = k - 1 - i by omega]
theorem u8_mod' {x y : Nat} (h : x % 256 = y % 256) : UInt8.ofNat x = UInt8.ofNat y := UInt8.toNat.inj (by rw [UInt8.toNat_ofNat', UInt8.toNat_ofNat']; exact h)
/-- a place of the quotient is set -/
theorem be_set (L m Q g : Nat) (hm : m < L) (hg : g < 256) (hQ : Q % 256 ^ (m + 1) = 0) : (be L Q).set (L - 1 - m) (UInt8.ofNat g) = be L (Q + g * 256 ^ m) := by
  obtain ⟨q, rfl⟩ := Nat.dvd_of_mod_eq_zero hQ
  apply List.ext_getElem?
  intro i
  rcases Nat.lt_or_ge i L with h | h
  · rw [be_get L _ i h]
    by_cases e : L - 1 - m = i
    · subst e
      rw [List.getElem?_set_self (by rw [be_len]; omega), show L - 1 - (L - 1 - m) = m by omega]
      congr 1; apply u8_mod'
      rw [Nat.pow_succ, Nat.mul_assoc, Nat.mul_comm g, ← Nat.mul_add, Nat.mul_div_cancel_left _ (Nat.pow_pos (by decide))]; omega
    · rw [List.getElem?_set_ne e, be_get L _ i h]
      congr 1; apply u8_mod'
      obtain ⟨t, ht⟩ : ∃ t, t = L - 1 - i := ⟨_, rfl⟩
      rw [← ht]
      rcases Nat.lt_or_ge t m with h1 | h1
      · have e1 : 256 ^ (m + 1) * q = 256 ^ t * (256 * (256 ^ (m - t) * q)) := by
          rw [show m + 1 = t + (1 + (m - t)) by omega, Nat.pow_add, Nat.pow_add]; simp only [Nat.mul_assoc, Nat.pow_one]
        have e2 : g * 256 ^ m = 256 ^ t * (256 * (256 ^ (m - t - 1) * g)) := by
          rw [show m = t + (1 + (m - t - 1)) by omega, Nat.pow_add, Nat.pow_add, show t + (1 + (m - t - 1)) - t - 1 = m - t - 1 by omega]
          simp only [Nat.mul_comm, Nat.mul_assoc, Nat.mul_left_comm, Nat.pow_one]
        rw [e1, e2, ← Nat.mul_add, Nat.mul_div_cancel_left _ (Nat.pow_pos (by decide)), Nat.mul_div_cancel_left _ (Nat.pow_pos (by decide))]; omega
      · obtain ⟨u, rfl⟩ : ∃ u, t = m + 1 + u := ⟨t - (m + 1), by omega⟩
        congr 1
        rw [Nat.pow_add 256 (m + 1) u, ← Nat.div_div_eq_div_mul, ← Nat.div_div_eq_div_mul, Nat.mul_div_cancel_left _ (Nat.pow_pos (by decide)), Nat.mul_add_div (Nat.pow_pos (by decide)), Nat.div_eq_of_lt (a := g * 256 ^ m) (by
          rw [Nat.pow_succ, Nat.mul_comm]; exact Nat.mul_lt_mul_of_pos_left hg (Nat.pow_pos (by decide))), Nat.add_zero]
  · rw [List.getElem?_eq_none (by rw [List.length_set, be_len]; exact h), List.getElem?_eq_none (by rw [be_len]; exact h)]
/-- a digit grows, without a carry -/
theorem be_add (L m Q k : Nat) (hm : m < L) (hk : Q / 256 ^ m % 256 + k < 256) : (be L Q).set (L - 1 - m) (UInt8.ofNat (Q / 256 ^ m % 256 + k)) = be L (Q + k * 256 ^ m) := by
  apply List.ext_getElem?
  intro i
  have hdv : (Q + k * 256 ^ m) / 256 ^ m = Q / 256 ^ m + k := by rw [Nat.mul_comm, Nat.add_mul_div_left _ _ (Nat.pow_pos (by decide))]
  rcases Nat.lt_or_ge i L with h | h
  · rw [be_get L _ i h]
    by_cases e : L - 1 - m = i
    · subst e
      rw [List.getElem?_set_self (by rw [be_len]; omega), show L - 1 - (L - 1 - m) = m by omega, hdv]
      congr 1; apply u8_mod'; omega
    · rw [List.getElem?_set_ne e, be_get L _ i h]
      congr 1; apply u8_mod'
      obtain ⟨t, ht⟩ : ∃ t, t = L - 1 - i := ⟨_, rfl⟩
      rw [← ht]
      rcases Nat.lt_or_ge t m with h1 | h1
      · have e2 : k * 256 ^ m = 256 ^ t * (256 * (256 ^ (m - t - 1) * k)) := by
          rw [show m = t + (1 + (m - t - 1)) by omega, Nat.pow_add, Nat.pow_add, show t + (1 + (m - t - 1)) - t - 1 = m - t - 1 by omega]
          simp only [Nat.mul_comm, Nat.mul_assoc, Nat.mul_left_comm, Nat.pow_one]
        rw [e2, Nat.add_mul_div_left _ _ (Nat.pow_pos (by decide)), Nat.add_mul_mod_self_left]
      · obtain ⟨u, rfl⟩ : ∃ u, t = m + 1 + u := ⟨t - (m + 1), by omega⟩
        rw [Nat.pow_add 256 (m + 1) u, Nat.pow_succ, ← Nat.div_div_eq_div_mul, ← Nat.div_div_eq_div_mul, ← Nat.div_div_eq_div_mul, ← Nat.div_div_eq_div_mul, hdv]
        rw [show (Q / 256 ^ m + k) / 256 = Q / 256 ^ m / 256 by omega]
  · rw [List.getElem?_eq_none (by rw [List.length_set, be_len]; exact h), List.getElem?_eq_none (by rw [be_len]; exact h)]
/-! ### division bit by bit -/
theorem over_step {A B t c : Nat} (hB : 0 < B) (hc : c = 2 * (A / 2 ^ (t + 1) % B) + A / 2 ^ t % 2) :
    (B ≤ c → A / 2 ^ t / B = 2 * (A / 2 ^ (t + 1) / B) + 1 ∧ A / 2 ^ t % B = c - B) ∧ (c < B → A / 2 ^ t / B = 2 * (A / 2 ^ (t + 1) / B) ∧ A / 2 ^ t % B = c) := by
  have h1 : A / 2 ^ (t + 1) = A / 2 ^ t / 2 := by rw [Nat.pow_succ, Nat.div_div_eq_div_mul]
  rw [h1] at hc ⊢
  generalize A / 2 ^ t = X at *
  have h2 := Nat.div_add_mod (X / 2) B
  have h3 := Nat.mod_lt (X / 2) hB
  generalize X / 2 / B = u at *
  generalize X / 2 % B = R at *
  have hX : X = B * (2 * u) + c := by rw [Nat.mul_left_comm]; omega
  constructor
  · intro h
    have hX2 : X = B * (2 * u + 1) + (c - B) := by rw [Nat.mul_add]; omega
    rw [hX2]
    constructor
    · rw [Nat.mul_add_div hB, Nat.div_eq_of_lt (by omega), Nat.add_zero]
    · rw [Nat.mul_add_mod, Nat.mod_eq_of_lt (by omega)]
  · intro h
    rw [hX]
    constructor
    · rw [Nat.mul_add_div hB, Nat.div_eq_of_lt h, Nat.add_zero]
    · rw [Nat.mul_add_mod, Nat.mod_eq_of_lt h]
theorem two_split (i : Nat) : 2 ^ i = 2 ^ (i % 8) * 256 ^ (i / 8) := by
  rw [show (256 : Nat) = 2 ^ 8 from rfl, ← Nat.pow_mul, ← Nat.pow_add]; congr 1; omega
theorem over_digit (u t : Nat) : u * 2 ^ (t + 1) / 256 ^ (t / 8) % 256 + 2 ^ (t % 8) < 256 := by
  have e : u * 2 ^ (t + 1) = 256 ^ (t / 8) * (u * 2 ^ (t % 8 + 1)) := by
    rw [Nat.pow_succ, two_split t, Nat.pow_succ]; simp only [Nat.mul_comm, Nat.mul_left_comm, Nat.mul_assoc]
  rw [e, Nat.mul_div_cancel_left _ (Nat.pow_pos (by decide))]
  have h : t % 8 < 8 := Nat.mod_lt _ (by decide)
  rcases sh_cases h with h | h | h | h | h | h | h | h <;> rw [h] <;> omega
/-- a digit of the unscaled rest -/
theorem rest_digit (R s i : Nat) (h : s < 8) : R / 256 ^ i % 256 = (R * 2 ^ s / 256 ^ i % 256 + R * 2 ^ s / 256 ^ (i + 1) % 256 * 256) / 2 ^ s % 256 := by
  have e1 : R * 2 ^ s / 256 ^ i / 2 ^ s = R / 256 ^ i := by
    rw [Nat.div_div_eq_div_mul, Nat.mul_comm (256 ^ i), ← Nat.div_div_eq_div_mul, Nat.mul_div_cancel _ (Nat.two_pow_pos s)]
  rw [Nat.pow_succ, ← Nat.div_div_eq_div_mul, ← e1]
  generalize R * 2 ^ s / 256 ^ i = B
  rcases sh_cases h with rfl | rfl | rfl | rfl | rfl | rfl | rfl | rfl <;> omega
theorem div_end {L X D n Q : Nat} {r : List Nat} (h : DivInv L X D n 0 r Q) : Q = X / D ∧ ev 256 (r.take n) = X % D := by
  have h1 := h.sum; have h2 := h.lt
  rw [Nat.zero_add] at h1 h2
  rw [Nat.pow_zero, Nat.one_mul] at h2
  rw [h1]
  constructor
  · rw [Nat.mul_comm, Nat.mul_add_div (by omega), Nat.div_eq_of_lt h2, Nat.add_zero]
  · rw [Nat.mul_comm, Nat.mul_add_mod, Nat.mod_eq_of_lt h2]
end Go.Proofs.YtbcnnkcddilfjaaGreat
