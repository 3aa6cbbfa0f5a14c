/-
  Arithmetic modulo a number, in plain terms: inverses, powers, products of powers.
-/
import Derived.Test.YtbcnnkcddilfjaaGreatArs
namespace Go.Proofs.YtbcnnkcddilfjaaGreat
set_option linter.unusedSimpArgs false
set_option linter.unusedVariables false
set_option maxRecDepth 20000

theorem mml (a b m : Nat) : a % m * b % m = a * b % m := Nat.mod_mul_mod a b m
theorem mmr (a b m : Nat) : a * (b % m) % m = a * b % m := Nat.mul_mod_mod a b m
/-- the inverse of a modulo m; 0 if there is none -/
def invN (a m : Nat) : Nat := ((List.range m).find? fun x => a * x % m == 1 % m).getD 0
theorem inv_uni {a x y m : Nat} (hx : x < m) (hy : y < m) (h1 : a * x % m = 1 % m) (h2 : a * y % m = 1 % m) : x = y := by
  have e1 : x * (a * y) % m = x := by rw [← mmr, h2, mmr, Nat.mul_one, Nat.mod_eq_of_lt hx]
  have e2 : y * (a * x) % m = y := by rw [← mmr, h1, mmr, Nat.mul_one, Nat.mod_eq_of_lt hy]
  rw [show x * (a * y) = y * (a * x) by simp only [Nat.mul_comm, Nat.mul_left_comm]] at e1
  exact e1.symm.trans e2
theorem invN_eq {a m x : Nat} (hx : x < m) (h : a * x % m = 1 % m) : invN a m = x := by
  rw [invN]
  cases hf : (List.range m).find? fun x => a * x % m == 1 % m with
  | none =>
    exfalso
    have := List.find?_eq_none.1 hf x (List.mem_range.2 hx)
    simp [h] at this
  | some y =>
    have h1 := List.find?_some hf
    have h2 := List.mem_range.1 (List.mem_of_find?_eq_some hf)
    exact inv_uni h2 hx (by simpa using h1) h
theorem invN_mod (a m : Nat) : invN (a % m) m = invN a m := by
  rw [invN, invN]; congr 2; funext x; rw [mml]
theorem invN_lt (a : Nat) {m : Nat} (hm : 0 < m) : invN a m < m := by
  rw [invN]
  cases hf : (List.range m).find? fun x => a * x % m == 1 % m with
  | none => exact hm
  | some y => exact List.mem_range.1 (List.mem_of_find?_eq_some hf)
theorem invN_spec {a m x : Nat} (hm : 0 < m) (h : a * x % m = 1 % m) : a * invN a m % m = 1 % m := by
  rw [invN_eq (x := x % m) (Nat.mod_lt _ hm) (by rw [mmr]; exact h), mmr, h]
/-- an element with an inverse has no common divisor with the modulus -/
theorem unit_gcd {a m x : Nat} (h : a * x % m = 1 % m) : Nat.gcd a m = 1 := by
  have h1 : Nat.gcd a m ∣ a * x % m := (Nat.dvd_mod_iff (Nat.gcd_dvd_right a m)).2 (Nat.dvd_trans (Nat.gcd_dvd_left a m) (Nat.dvd_mul_right a x))
  rw [h] at h1
  exact Nat.dvd_one.1 ((Nat.dvd_mod_iff (Nat.gcd_dvd_right a m)).1 h1)
/-- .. and the other way round -/
theorem gcd_unit {a m : Nat} (hm : 0 < m) (h : Nat.gcd a m = 1) : ∃ x, a * x % m = 1 % m := by
  -- by the extended algorithm of Euclid
  have key : ∀ (n r0 r1 : Nat) (x0 x1 y0 y1 : Int), r1 ≤ n → Euc a m r0 r1 x0 x1 y0 y1 → ∃ x y : Int, (a : Int) * x + m * y = Nat.gcd a m := by
    intro n
    induction n with
    | zero => intro r0 r1 x0 x1 y0 y1 hn e; exact ⟨x0, y0, by rw [e.e0, ← e.gc, show r1 = 0 by omega, Nat.gcd_zero_right]⟩
    | succ n ih =>
      intro r0 r1 x0 x1 y0 y1 hn e
      rcases Nat.eq_zero_or_pos r1 with h0 | h0
      · exact ⟨x0, y0, by rw [e.e0, ← e.gc, h0, Nat.gcd_zero_right]⟩
      · exact ih _ _ _ _ _ _ (by have := Nat.mod_lt r0 h0; omega) (euc_step e h0)
  obtain ⟨x, y, hxy⟩ := key m a m 1 0 0 1 (Nat.le_refl _) (euc_start a m)
  rw [h] at hxy
  refine ⟨(x % m).toNat, ?_⟩
  have hm' : (m : Int) ≠ 0 := by omega
  have h1 : ((x % m).toNat : Int) = x % m := Int.toNat_of_nonneg (Int.emod_nonneg _ hm')
  apply Int.ofNat_inj.1
  rw [Int.natCast_emod, Int.natCast_mul, h1, Int.natCast_emod, Int.mul_emod, Int.emod_emod_of_dvd _ (Int.dvd_refl _), ← Int.mul_emod]
  have e : (a : Int) * x = 1 + m * (-y) := by rw [Int.mul_neg]; omega
  rw [e, Int.add_mul_emod_self_left]; rfl

/-! ### powers -/
theorem pow_mod2 (a e m : Nat) : (a % m) ^ e % m = a ^ e % m := (Nat.pow_mod a e m).symm
theorem exp_step0 {a e i m : Nat} (h : e / 2 ^ i % 2 = 0) : a ^ (e / 2 ^ (i + 1)) % m * (a ^ (e / 2 ^ (i + 1)) % m) % m = a ^ (e / 2 ^ i) % m := by
  rw [mml, mmr, ← Nat.pow_add]; congr 2; rw [Nat.pow_succ, ← Nat.div_div_eq_div_mul]; omega
theorem exp_step1 {a e i m : Nat} (h : e / 2 ^ i % 2 = 1) : a ^ (e / 2 ^ (i + 1)) % m * (a ^ (e / 2 ^ (i + 1)) % m) % m * a % m = a ^ (e / 2 ^ i) % m := by
  rw [← Nat.mul_mod, mml, ← Nat.pow_add, ← Nat.pow_succ]; congr 2; rw [Nat.pow_succ, ← Nat.div_div_eq_div_mul]; omega
/-- a power with an exponent that may be negative -/
def powI (m x : Nat) (e : Int) : Nat := (if e < 0 then invN x m else x) ^ e.natAbs % m
/-- a product -/
def prodL {α : Type} (f : α → Nat) : List α → Nat
  | [] => 1
  | x :: l => f x * prodL f l
theorem prodL_append {α : Type} (f : α → Nat) : ∀ a b : List α, prodL f (a ++ b) = prodL f a * prodL f b
  | [], b => by simp [prodL]
  | x :: a, b => by rw [List.cons_append, prodL, prodL, prodL_append f a b, Nat.mul_assoc]
theorem prodL_mod {α : Type} (f g : α → Nat) (m : Nat) : ∀ l : List α, (∀ x ∈ l, f x % m = g x % m) → prodL f l % m = prodL g l % m
  | [], _ => rfl
  | x :: l, h => by
    rw [prodL, prodL, Nat.mul_mod, h x (.head _), prodL_mod f g m l (fun y hy => h y (.tail _ hy)), ← Nat.mul_mod]
theorem prodL_mul {α : Type} (f g : α → Nat) : ∀ l : List α, prodL (fun x => f x * g x) l = prodL f l * prodL g l
  | [] => rfl
  | x :: l => by rw [prodL, prodL, prodL, prodL_mul f g l]; simp only [Nat.mul_comm, Nat.mul_left_comm, Nat.mul_assoc]
theorem prodL_one {α : Type} (f : α → Nat) (l : List α) (h : ∀ x ∈ l, f x = 1) : prodL f l = 1 := by
  induction l with
  | nil => rfl
  | cons x l ih => rw [prodL, h x (.head _), ih fun y hy => h y (.tail _ hy)]
/-- bases with exponents that are not negative, at the bit i -/
def atBit (i : Nat) (p : Nat × Nat) : Nat := p.1 ^ (p.2 / 2 ^ i)
theorem prod_bit (m i : Nat) (l : List (Nat × Nat)) : prodL (atBit (i + 1)) l % m * (prodL (atBit (i + 1)) l % m) % m * prodL (fun p => if p.2 / 2 ^ i % 2 = 1 then p.1 else 1) l % m = prodL (atBit i) l % m := by
  rw [← Nat.mul_mod, mml, ← prodL_mul, ← prodL_mul]
  apply prodL_mod
  intro p _
  congr 1
  simp only [atBit]
  have e : p.2 / 2 ^ (i + 1) = p.2 / 2 ^ i / 2 := by rw [Nat.pow_succ, Nat.div_div_eq_div_mul]
  rw [e, ← Nat.pow_add]
  generalize p.2 / 2 ^ i = k
  split
  · rw [← Nat.pow_succ]; congr 1; omega
  · rw [Nat.mul_one]; congr 1; omega
end Go.Proofs.YtbcnnkcddilfjaaGreat
