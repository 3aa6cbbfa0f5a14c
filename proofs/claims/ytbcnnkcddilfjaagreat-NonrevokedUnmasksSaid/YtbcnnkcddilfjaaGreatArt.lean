/-
  The schoolbook's multiplication and division on lists of digits, in plain terms.
-/
import Derived.Test.YtbcnnkcddilfjaaGreatDig
namespace Go.Proofs.YtbcnnkcddilfjaaGreat
set_option linter.unusedSimpArgs false
set_option linter.unusedVariables false
set_option maxRecDepth 20000

/-! ### products by columns -/
/-- i rows and k places of the next row are in the columns -/
structure ColInv (N A B i k : Nat) (c : List Nat) : Prop where
  len : c.length = N
  sum : ev 256 c = A % 256 ^ i * B + A / 256 ^ i % 256 * 256 ^ i * (B % 256 ^ k)
  all : ∀ j, c.getD j 0 ≤ (i + 1) * 65025
  rest : ∀ j, i + k ≤ j → c.getD j 0 ≤ i * 65025
theorem getD_rep (N j : Nat) : (List.replicate N 0).getD j 0 = 0 := by
  rw [List.getD_eq_getElem?_getD, List.getElem?_replicate]; split <;> rfl
theorem col_start (N A B : Nat) : ColInv N A B 0 0 (List.replicate N 0) :=
  ⟨by simp, by rw [ev_replicate]; simp [Nat.mod_one], fun j => by rw [getD_rep]; exact Nat.zero_le _, fun j _ => by rw [getD_rep]; exact Nat.zero_le _⟩
theorem digits_prod (x y : Nat) : x % 256 * (y % 256) ≤ 65025 := by
  have h1 : x % 256 ≤ 255 := by omega
  have h2 : y % 256 ≤ 255 := by omega
  exact Nat.mul_le_mul h1 h2
theorem col_step {N A B i k : Nat} {c : List Nat} (h : ColInv N A B i k c) (hlt : i + k < N) :
    ColInv N A B i (k + 1) (c.set (i + k) (c.getD (i + k) 0 + A / 256 ^ i % 256 * (B / 256 ^ k % 256))) := by
  have hp := digits_prod (A / 256 ^ i) (B / 256 ^ k)
  have hl : i + k < c.length := by rw [h.len]; exact hlt
  refine ⟨by rw [List.length_set]; exact h.len, ?_, fun j => ?_, fun j hj => ?_⟩
  · have h1 := ev_set 256 c (i + k) (c.getD (i + k) 0 + A / 256 ^ i % 256 * (B / 256 ^ k % 256)) hl
    rw [h.sum, Nat.mul_add] at h1
    rw [Nat.mod_pow_succ, Nat.mul_add, ← Nat.add_assoc]
    have h2 : A / 256 ^ i % 256 * 256 ^ i * (256 ^ k * (B / 256 ^ k % 256)) = 256 ^ (i + k) * (A / 256 ^ i % 256 * (B / 256 ^ k % 256)) := by
      rw [Nat.pow_add]; simp only [Nat.mul_comm, Nat.mul_left_comm, Nat.mul_assoc]
    rw [h2]; omega
  · by_cases e : i + k = j
    · subst e; rw [getD_set_eq c _ _ hl]; have := h.rest (i + k) (Nat.le_refl _); rw [Nat.add_mul]; omega
    · rw [getD_set_ne c _ _ _ e]; exact h.all j
  · rw [getD_set_ne c _ _ _ (by omega)]; exact h.rest j (by omega)
theorem col_row {N A B i n : Nat} {c : List Nat} (h : ColInv N A B i n c) (hB : B < 256 ^ n) : ColInv N A B (i + 1) 0 c := by
  refine ⟨h.len, ?_, fun j => Nat.le_trans (h.all j) (by rw [Nat.add_mul, Nat.add_mul (i + 1)]; omega), fun j _ => h.all j⟩
  rw [h.sum, Nat.mod_eq_of_lt hB, Nat.mod_pow_succ, Nat.add_mul, Nat.pow_zero, Nat.mod_one, Nat.mul_zero, Nat.add_zero, Nat.mul_comm (256 ^ i) (A / 256 ^ i % 256)]
theorem col_end {N A B n : Nat} {c : List Nat} (h : ColInv N A B n 0 c) (hA : A < 256 ^ n) : ev 256 c = A * B := by
  rw [h.sum, Nat.mod_eq_of_lt hA, Nat.pow_zero, Nat.mod_one, Nat.mul_zero, Nat.add_zero]
theorem col_add {N A B i k : Nat} {c : List Nat} (h : ColInv N A B i k c) (hi : i ≤ 100000) (j : Nat) : c.getD j 0 + A / 256 ^ i % 256 * (B / 256 ^ k % 256) ≤ 9000000000 ∧ A / 256 ^ i % 256 * (B / 256 ^ k % 256) ≤ 65025 := by
  have h1 := digits_prod (A / 256 ^ i) (B / 256 ^ k)
  have h2 := h.all j
  omega
theorem col_carry {N A B n i : Nat} {c : List Nat} (h : ColInv N A B n 0 c) (hn : n ≤ 100000) (hi : i < N) : colC 256 c i + c.getD i 0 ≤ 20000000000 := by
  have h1 := colC_le 256 (by decide) c ((n + 1) * 65025) h.all i (by rw [h.len]; omega)
  have h2 := h.all i
  omega

/-! ### division -/
/-- a multiple is being subtracted at the place j: i digits are done -/
structure SubInv (β j g : Nat) (r0 d : List Nat) (i : Nat) (r : List Nat) (cy bw : Nat) : Prop where
  len : r.length = r0.length
  dig : ∀ x ∈ r, x < β
  low : r.take j = r0.take j
  high : r.drop (j + i) = r0.drop (j + i)
  sum : ev β (r.take (j + i)) + β ^ j * g * ev β (d.take i) = ev β (r0.take (j + i)) + β ^ (j + i) * (cy + bw)
  cyl : cy < β
  bwl : bw ≤ 1
theorem sub_start {β j g : Nat} {r0 d : List Nat} (hβ : 0 < β) (hd : ∀ x ∈ r0, x < β) : SubInv β j g r0 d 0 r0 0 0 :=
  ⟨rfl, hd, rfl, rfl, by simp [ev], hβ, by omega⟩
theorem getD_drop_eq {r r0 : List Nat} {k : Nat} (h : r.drop k = r0.drop k) : r.getD k 0 = r0.getD k 0 := by
  have := congrArg (fun l => l[0]?.getD 0) h
  simpa [List.getD_eq_getElem?_getD, List.getElem?_drop] using this
theorem drop_succ_eq {α : Type} {r r0 : List α} {k : Nat} (h : r.drop k = r0.drop k) : r.drop (k + 1) = r0.drop (k + 1) := by
  have := congrArg (List.drop 1) h
  simpa [List.drop_drop] using this
theorem sub_step {β j g i cy bw y bw' : Nat} {r0 d r : List Nat} (h : SubInv β j g r0 d i r cy bw) (hβ : 0 < β) (hg : g < β) (hi : i < d.length) (hd : ∀ x ∈ d, x < β) (hj : j + i < r0.length)
    (hy : y + (cy + g * d.getD i 0) % β + bw = r.getD (j + i) 0 + β * bw') (hyl : y < β) (hbw : bw' ≤ 1) :
    SubInv β j g r0 d (i + 1) (r.set (j + i) y) ((cy + g * d.getD i 0) / β) bw' := by
  have hdi := getD_lt β hβ d hd i
  have hjl : j + i < r.length := by rw [h.len]; exact hj
  refine ⟨by rw [List.length_set]; exact h.len, set_lt β r h.dig _ y hyl, by rw [take_set_lt r _ _ _ (by omega)]; exact h.low, ?_, ?_, ?_, hbw⟩
  · rw [← Nat.add_assoc, drop_set_lt r _ _ _ (by omega)]; exact drop_succ_eq h.high
  · have hx := getD_drop_eq h.high
    rw [← Nat.add_assoc, ev_set_take β r (j + i) y hjl, ev_take_succ β d i hi, ev_take_succ β r0 (j + i) hj, ← hx]
    have h1 := h.sum
    have h2 := Nat.div_add_mod (cy + g * d.getD i 0) β
    generalize (cy + g * d.getD i 0) / β = q at *
    generalize (cy + g * d.getD i 0) % β = m at *
    have e1 : β ^ j * g * (ev β (d.take i) + β ^ i * d.getD i 0) = β ^ j * g * ev β (d.take i) + β ^ (j + i) * (g * d.getD i 0) := by
      rw [Nat.mul_add, Nat.pow_add]; congr 1; simp only [Nat.mul_comm, Nat.mul_left_comm, Nat.mul_assoc]
    have e2 : β ^ (j + i + 1) * (q + bw') = β ^ (j + i) * (β * q + β * bw') := by rw [Nat.pow_succ, Nat.mul_assoc, Nat.mul_add]
    rw [e1, e2]
    have e3 : cy + bw + y + g * d.getD i 0 = r.getD (j + i) 0 + (β * q + β * bw') := by omega
    have e4 := congrArg (β ^ (j + i) * ·) e3
    simp only [Nat.mul_add] at e4 h1 ⊢
    omega
  · rw [Nat.div_lt_iff_lt_mul hβ]
    have : g * d.getD i 0 ≤ (β - 1) * (β - 1) := Nat.mul_le_mul (by omega) (by omega)
    have h3 := h.cyl
    have h4 : (β - 1) * (β - 1) + β ≤ β * β := by
      obtain ⟨b, rfl⟩ : ∃ b, β = b + 1 := ⟨β - 1, by omega⟩
      simp only [Nat.add_sub_cancel, Nat.add_mul, Nat.mul_add]; omega
    omega
/-- what was subtracted is given back once: i digits are done -/
structure AddInv (β j : Nat) (r0 d : List Nat) (i : Nat) (r : List Nat) (c : Nat) : Prop where
  len : r.length = r0.length
  dig : ∀ x ∈ r, x < β
  low : r.take j = r0.take j
  high : r.drop (j + i) = r0.drop (j + i)
  sum : ev β (r.take (j + i)) + β ^ (j + i) * c = ev β (r0.take (j + i)) + β ^ j * ev β (d.take i)
  cl : c ≤ 1
theorem add_start {β j : Nat} {r0 d : List Nat} (hd : ∀ x ∈ r0, x < β) : AddInv β j r0 d 0 r0 0 := ⟨rfl, hd, rfl, rfl, by simp [ev], by omega⟩
theorem add_step {β j i c : Nat} {r0 d r : List Nat} (h : AddInv β j r0 d i r c) (hβ : 1 < β) (hi : i < d.length) (hd : ∀ x ∈ d, x < β) (hj : j + i < r0.length) :
    AddInv β j r0 d (i + 1) (r.set (j + i) ((c + r.getD (j + i) 0 + d.getD i 0) % β)) ((c + r.getD (j + i) 0 + d.getD i 0) / β) := by
  have hdi := getD_lt β (by omega) d hd i
  have hri := getD_lt β (by omega) r h.dig (j + i)
  have hjl : j + i < r.length := by rw [h.len]; exact hj
  have hcl := h.cl
  refine ⟨by rw [List.length_set]; exact h.len, set_lt β r h.dig _ _ (Nat.mod_lt _ (by omega)), by rw [take_set_lt r _ _ _ (by omega)]; exact h.low, ?_, ?_, ?_⟩
  · rw [← Nat.add_assoc, drop_set_lt r _ _ _ (by omega)]; exact drop_succ_eq h.high
  · have hx := getD_drop_eq h.high
    rw [← Nat.add_assoc, ev_set_take β r (j + i) _ hjl, ev_take_succ β d i hi, ev_take_succ β r0 (j + i) hj, ← hx]
    have h1 := h.sum
    have h2 := Nat.div_add_mod (c + r.getD (j + i) 0 + d.getD i 0) β
    generalize (c + r.getD (j + i) 0 + d.getD i 0) / β = q at *
    generalize (c + r.getD (j + i) 0 + d.getD i 0) % β = m at *
    have e1 : β ^ j * (ev β (d.take i) + β ^ i * d.getD i 0) = β ^ j * ev β (d.take i) + β ^ (j + i) * d.getD i 0 := by
      rw [Nat.mul_add, Nat.pow_add, Nat.mul_assoc]
    have e2 : β ^ (j + i + 1) * q = β ^ (j + i) * (β * q) := by rw [Nat.pow_succ, Nat.mul_assoc]
    rw [e1, e2]
    have e4 := congrArg (β ^ (j + i) * ·) h2
    simp only [Nat.mul_add] at e4 h1 ⊢
    omega
  · apply Nat.le_of_lt_succ
    rw [Nat.div_lt_iff_lt_mul (by omega)]
    omega
/-- the estimate of a digit is not too small -/
theorem guess_ge {β j n W Dv q : Nat} {r d : List Nat} (hβ : 0 < β) (hn : 0 < n) (hdl : d.length = n) (hj : j + n < r.length) (hr : ∀ x ∈ r, x < β)
    (hW : W = ev β (r.take (j + n + 1))) (hD : Dv = ev β d) (htop : 0 < d.getD (n - 1) 0) (hq : q * (β ^ j * Dv) ≤ W) (hlt : W < β ^ (j + 1) * Dv) :
    q ≤ (r.getD (j + n) 0 * β + r.getD (j + n - 1) 0) / d.getD (n - 1) 0 ∧ q < β := by
  have hDv : 0 < Dv := by
    rcases Nat.eq_zero_or_pos Dv with e | e
    · rw [e] at hlt; omega
    · exact e
  constructor
  · rw [Nat.le_div_iff_mul_le htop]
    have e1 : W = ev β (r.take (j + n - 1)) + β ^ (j + n - 1) * (r.getD (j + n - 1) 0 + β * r.getD (j + n) 0) := by
      rw [hW, ev_take_succ β r (j + n) hj, show j + n = (j + n - 1) + 1 by omega, ev_take_succ β r (j + n - 1) (by omega), Nat.pow_succ, Nat.mul_add, Nat.add_sub_cancel, Nat.mul_assoc, Nat.add_assoc]
    have e2 := ev_take_lt β r (j + n - 1) (by omega) hr
    have e3 : β ^ (n - 1) * d.getD (n - 1) 0 ≤ Dv := by
      rw [hD, ev_take_drop β d (n - 1) (by omega), List.drop_eq_getElem_cons (by omega), ev, List.getD_eq_getElem?_getD, List.getElem?_eq_getElem (by omega : n - 1 < d.length), Nat.mul_add]
      show β ^ (n - 1) * d[n - 1] ≤ _
      omega
    have e4 : β ^ (j + n - 1) * (q * d.getD (n - 1) 0) ≤ W := by
      have : q * (β ^ j * (β ^ (n - 1) * d.getD (n - 1) 0)) ≤ q * (β ^ j * Dv) := Nat.mul_le_mul_left _ (Nat.mul_le_mul_left _ e3)
      have e5 : q * (β ^ j * (β ^ (n - 1) * d.getD (n - 1) 0)) = β ^ (j + n - 1) * (q * d.getD (n - 1) 0) := by
        rw [show j + n - 1 = j + (n - 1) by omega, Nat.pow_add]; simp only [Nat.mul_comm, Nat.mul_left_comm, Nat.mul_assoc]
      omega
    have e6 : β ^ (j + n - 1) * (q * d.getD (n - 1) 0) < β ^ (j + n - 1) * (r.getD (j + n - 1) 0 + β * r.getD (j + n) 0 + 1) := by
      rw [Nat.mul_add (β ^ (j + n - 1)) _ 1, Nat.mul_one]; omega
    have e7 := Nat.lt_of_mul_lt_mul_left e6
    rw [Nat.mul_comm (r.getD (j + n) 0) β]; omega
  · rcases Nat.lt_or_ge q β with e | e
    · exact e
    · have h1 : β * (β ^ j * Dv) ≤ q * (β ^ j * Dv) := Nat.mul_le_mul_right _ e
      have h2 : β * (β ^ j * Dv) = β ^ (j + 1) * Dv := by rw [Nat.pow_succ]; simp only [Nat.mul_comm, Nat.mul_left_comm, Nat.mul_assoc]
      omega
end Go.Proofs.YtbcnnkcddilfjaaGreat
