/-
  Division of two digits by two digits, and the extended algorithm of Euclid, in plain terms.
-/
import Derived.Test.YtbcnnkcddilfjaaGreatArt
namespace Go.Proofs.YtbcnnkcddilfjaaGreat
set_option linter.unusedSimpArgs false
set_option linter.unusedVariables false
set_option maxRecDepth 20000

section
variable {β u n y1 y0 q rh : Nat}
theorem dg_lt (hn : n < β) (hu : u < y1 * β + y0) : (u * β + n) / (y1 * β + y0) < β := by
  rw [Nat.div_lt_iff_lt_mul (by omega)]
  have : (u + 1) * β ≤ (y1 * β + y0) * β := Nat.mul_le_mul_right _ hu
  rw [Nat.add_mul, Nat.one_mul] at this
  rw [Nat.mul_comm β]; omega
theorem dg_init (hn : n < β) (hy1 : 0 < y1) : (u * β + n) / (y1 * β + y0) ≤ u / y1 := by
  have hβ : 0 < β := by omega
  rw [Nat.le_div_iff_mul_le hy1]
  have h1 := Nat.div_mul_le_self (u * β + n) (y1 * β + y0)
  generalize (u * β + n) / (y1 * β + y0) = Q at *
  have h2 : Q * y1 * β ≤ Q * (y1 * β + y0) := by rw [Nat.mul_assoc]; exact Nat.mul_le_mul_left _ (by omega)
  have h3 : Q * y1 * β < (u + 1) * β := by rw [Nat.add_mul, Nat.one_mul]; omega
  exact Nat.le_of_lt_succ (Nat.lt_of_mul_lt_mul_right h3)
theorem dg_le (hy : 0 < y1 * β + y0) (hi : u = q * y1 + rh) (hc : q * y0 ≤ β * rh + n) : q ≤ (u * β + n) / (y1 * β + y0) := by
  rw [Nat.le_div_iff_mul_le hy]
  subst hi
  have e : q * (y1 * β + y0) = q * y1 * β + q * y0 := by rw [Nat.mul_add, Nat.mul_assoc]
  rw [e, Nat.add_mul, Nat.mul_comm rh β]; omega
theorem dg_exit (hy : 0 < y1 * β + y0) (hi : u = q * y1 + rh) (hQ : (u * β + n) / (y1 * β + y0) ≤ q) (hc : q * y0 ≤ β * rh + n) : q = (u * β + n) / (y1 * β + y0) :=
  Nat.le_antisymm (dg_le hy hi hc) hQ
theorem dg_break (hy1 : 0 < y1) (hy0 : y0 < β) (hu : u < y1 * β + y0) (hi : u = q * y1 + rh) (hb : β ≤ rh) : q < β ∧ q * y0 ≤ β * rh + n := by
  have h1 : q * y1 < β * y1 := by rw [Nat.mul_comm β]; omega
  have h2 : q < β := Nat.lt_of_mul_lt_mul_right h1
  refine ⟨h2, ?_⟩
  have h3 : q * y0 ≤ β * β := Nat.mul_le_mul (by omega) (by omega)
  have h4 : β * β ≤ β * rh := Nat.mul_le_mul_left _ hb
  omega
theorem dg_more (hn : n < β) (hu : u < y1 * β + y0) (hi : u = q * y1 + rh) (hQ : (u * β + n) / (y1 * β + y0) ≤ q) (hc : β ≤ q ∨ β * rh + n < q * y0) : 1 ≤ q ∧ (u * β + n) / (y1 * β + y0) ≤ q - 1 := by
  have h1 := dg_lt hn hu
  rcases hc with hc | hc
  · omega
  · have h2 : (u * β + n) / (y1 * β + y0) < q := by
      rw [Nat.div_lt_iff_lt_mul (by omega)]
      subst hi
      have e : q * (y1 * β + y0) = q * y1 * β + q * y0 := by rw [Nat.mul_add, Nat.mul_assoc]
      rw [e, Nat.add_mul, Nat.mul_comm rh β]; omega
    exact ⟨Nat.lt_of_le_of_lt (Nat.zero_le _) h2, Nat.le_sub_one_of_lt h2⟩
end
/-- both digits -/
theorem dg_both {β u n1 n0 y q1 q0 v w : Nat} (h1 : u * β + n1 = q1 * y + v) (h0 : v * β + n0 = q0 * y + w) (hw : w < y) : (u * (β * β) + (n1 * β + n0)) / y = q1 * β + q0 ∧ (u * (β * β) + (n1 * β + n0)) % y = w := by
  have e : u * (β * β) + (n1 * β + n0) = (q1 * β + q0) * y + w := by
    have : (u * β + n1) * β = (q1 * y + v) * β := by rw [h1]
    simp only [Nat.add_mul, Nat.mul_assoc] at this ⊢
    rw [Nat.mul_comm y β] at this
    omega
  rw [e]
  constructor
  · rw [Nat.mul_comm, Nat.mul_add_div (by omega), Nat.div_eq_of_lt hw, Nat.add_zero]
  · rw [Nat.mul_comm, Nat.mul_add_mod, Nat.mod_eq_of_lt hw]

/-! ### the extended algorithm of Euclid -/
/-- rows r0, r1 with the magnitudes of their coefficients; the signs change from row to row -/
structure Euc (a b r0 r1 : Nat) (x0 x1 y0 y1 : Int) : Prop where
  e0 : (a : Int) * x0 + b * y0 = r0
  e1 : (a : Int) * x1 + b * y1 = r1
  bx : x1.natAbs * r0 + x0.natAbs * r1 = b
  ab : y1.natAbs * r0 + y0.natAbs * r1 = a
  sx : (0 ≤ x0 ∧ x1 ≤ 0) ∨ (x0 ≤ 0 ∧ 0 ≤ x1)
  sy : (0 ≤ y0 ∧ y1 ≤ 0) ∨ (y0 ≤ 0 ∧ 0 ≤ y1)
  gc : Nat.gcd r0 r1 = Nat.gcd a b
theorem euc_start (a b : Nat) : Euc a b a b 1 0 0 1 := ⟨by simp, by simp, by simp, by simp, .inl ⟨by decide, by decide⟩, .inr ⟨by decide, by decide⟩, rfl⟩
theorem abs_alt {x0 x1 : Int} (q : Nat) (h : (0 ≤ x0 ∧ x1 ≤ 0) ∨ (x0 ≤ 0 ∧ 0 ≤ x1)) : (x0 - q * x1).natAbs = x0.natAbs + q * x1.natAbs ∧ ((0 ≤ x1 ∧ x0 - q * x1 ≤ 0) ∨ (x1 ≤ 0 ∧ 0 ≤ x0 - q * x1)) := by
  rcases h with ⟨h0, h1⟩ | ⟨h0, h1⟩
  · obtain ⟨m, rfl⟩ : ∃ m : Nat, x1 = -(m : Int) := ⟨x1.natAbs, by omega⟩
    have e : (q : Int) * -(m : Int) = -((q * m : Nat) : Int) := by rw [Int.mul_neg, Int.natCast_mul]
    rw [e, Int.natAbs_neg, Int.natAbs_natCast]
    exact ⟨by omega, .inr ⟨by omega, by omega⟩⟩
  · obtain ⟨m, rfl⟩ : ∃ m : Nat, x1 = (m : Int) := ⟨x1.natAbs, by omega⟩
    rw [← Int.natCast_mul, Int.natAbs_natCast]
    exact ⟨by omega, .inl ⟨by omega, by omega⟩⟩
theorem euc_step {a b r0 r1 : Nat} {x0 x1 y0 y1 : Int} (h : Euc a b r0 r1 x0 x1 y0 y1) (hr : 0 < r1) : Euc a b r1 (r0 % r1) x1 (x0 - (r0 / r1 : Nat) * x1) y1 (y0 - (r0 / r1 : Nat) * y1) := by
  have hd := Nat.div_add_mod r0 r1
  obtain ⟨hx1, hx2⟩ := abs_alt (r0 / r1) h.sx
  obtain ⟨hy1, hy2⟩ := abs_alt (r0 / r1) h.sy
  refine ⟨h.e1, ?_, ?_, ?_, hx2, hy2, ?_⟩
  · have h0 := h.e0; have h1 := h.e1
    have e : (r0 : Int) = r1 * (r0 / r1 : Nat) + (r0 % r1 : Nat) := by rw [← Int.natCast_mul, ← Int.natCast_add, hd]
    generalize ((r0 / r1 : Nat) : Int) = Q at *
    generalize ((r0 % r1 : Nat) : Int) = M at *
    have e2 : (a : Int) * (x0 - Q * x1) + b * (y0 - Q * y1) = (a * x0 + b * y0) - (a * x1 + b * y1) * Q := by
      simp only [Int.mul_sub, Int.add_mul, Int.mul_assoc, Int.mul_comm Q, Int.mul_left_comm]
      omega
    rw [e2, h0, h1]; omega
  · rw [hx1]
    have h1 := h.bx
    have e3 : (x0.natAbs + r0 / r1 * x1.natAbs) * r1 + x1.natAbs * (r0 % r1) = x1.natAbs * (r1 * (r0 / r1) + r0 % r1) + x0.natAbs * r1 := by
      simp only [Nat.add_mul, Nat.mul_add, Nat.mul_assoc, Nat.mul_comm, Nat.mul_left_comm]; omega
    rw [e3, hd]; exact h1
  · rw [hy1]
    have h1 := h.ab
    have e3 : (y0.natAbs + r0 / r1 * y1.natAbs) * r1 + y1.natAbs * (r0 % r1) = y1.natAbs * (r1 * (r0 / r1) + r0 % r1) + y0.natAbs * r1 := by
      simp only [Nat.add_mul, Nat.mul_add, Nat.mul_assoc, Nat.mul_comm, Nat.mul_left_comm]; omega
    rw [e3, hd]; exact h1
  · rw [← h.gc, Nat.gcd_comm r0 r1, Nat.gcd_rec r1 r0, Nat.gcd_comm]
/-- bounds of a row's coefficients -/
theorem euc_le {a b r0 r1 : Nat} {x0 x1 y0 y1 : Int} (h : Euc a b r0 r1 x0 x1 y0 y1) (hr : 0 < r0) : x1.natAbs ≤ b ∧ y1.natAbs ≤ a := by
  have h1 := h.bx; have h2 := h.ab
  have h3 : x1.natAbs * 1 ≤ x1.natAbs * r0 := Nat.mul_le_mul_left _ hr
  have h4 : y1.natAbs * 1 ≤ y1.natAbs * r0 := Nat.mul_le_mul_left _ hr
  omega
theorem euc_le0 {a b r0 r1 : Nat} {x0 x1 y0 y1 : Int} (h : Euc a b r0 r1 x0 x1 y0 y1) (hr : 0 < r1) : x0.natAbs ≤ b ∧ y0.natAbs ≤ a := by
  have h1 := h.bx; have h2 := h.ab
  have h3 : x0.natAbs * 1 ≤ x0.natAbs * r1 := Nat.mul_le_mul_left _ hr
  have h4 : y0.natAbs * 1 ≤ y0.natAbs * r1 := Nat.mul_le_mul_left _ hr
  omega
/-- the product of a quotient and a coefficient -/
theorem euc_mul {a b r0 r1 : Nat} {x0 x1 y0 y1 : Int} (h : Euc a b r0 r1 x0 x1 y0 y1) (hr : 0 < r1) : r0 / r1 * x1.natAbs ≤ b ∧ r0 / r1 * y1.natAbs ≤ a := by
  have h' := euc_step h hr
  have h1 := euc_le h' hr
  rw [(abs_alt (r0 / r1) h.sx).1, (abs_alt (r0 / r1) h.sy).1] at h1
  omega
end Go.Proofs.YtbcnnkcddilfjaaGreat
