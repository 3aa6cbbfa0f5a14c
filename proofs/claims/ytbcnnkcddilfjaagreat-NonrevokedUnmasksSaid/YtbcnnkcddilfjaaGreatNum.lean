/-
  Natural numbers as byte strings, in plain terms: values, canonical strings, fixed lengths.
-/
import Derived.Test.YtbcnnkcddilfjaaGreatStr
namespace Go.Proofs.YtbcnnkcddilfjaaGreat
set_option linter.unusedSimpArgs false
set_option linter.unusedVariables false
set_option maxRecDepth 20000

/-- the number of a byte string, the first byte the greatest -/
def val : Bs → Nat
  | [] => 0
  | c :: s => c.toNat * 256 ^ s.length + val s
/-- k bytes of a number -/
def be : Nat → Nat → Bs
  | 0, _ => []
  | k + 1, x => UInt8.ofNat (x / 256 ^ k) :: be k x
def trimB : Bs → Bs
  | [] => []
  | c :: s => if c = 0 then trimB s else c :: s
/-- no zero byte leads -/
def Can (s : Bs) : Prop := s.head? ≠ some 0
instance (s : Bs) : Decidable (Can s) := inferInstanceAs (Decidable (¬ _))
theorem be_len : ∀ k x, (be k x).length = k
  | 0, x => rfl
  | k + 1, x => by simp [be, be_len k x]
theorem p256 (k : Nat) : 0 < 256 ^ k := Nat.pow_pos (by decide)
theorem val_lt : ∀ s : Bs, val s < 256 ^ s.length
  | [] => by simp [val]
  | c :: s => by
    have h1 := val_lt s
    have h2 := c.toNat_lt
    simp only [val, List.length_cons, Nat.pow_succ]
    have : (c.toNat + 1) * 256 ^ s.length ≤ 256 * 256 ^ s.length := Nat.mul_le_mul_right _ (by omega)
    rw [Nat.add_mul, Nat.one_mul] at this
    rw [Nat.mul_comm (256 ^ s.length) 256]; omega
theorem val_append : ∀ a b : Bs, val (a ++ b) = val a * 256 ^ b.length + val b
  | [], b => by simp [val]
  | c :: a, b => by
    simp only [List.cons_append, val, List.length_append, val_append a b, Nat.pow_add]
    rw [Nat.add_mul, Nat.mul_assoc]; omega
theorem val_be : ∀ k x, val (be k x) = x % 256 ^ k
  | 0, x => by simp [be, val, Nat.mod_one]
  | k + 1, x => by
    have e : x % 256 ^ (k + 1) = x % 256 ^ k + 256 ^ k * (x / 256 ^ k % 256) := by rw [Nat.pow_succ, Nat.mod_mul]
    simp only [be, val, be_len, val_be k x, UInt8.toNat_ofNat']
    rw [e, Nat.mul_comm (256 ^ k), Nat.add_comm]
theorem val_trim : ∀ s : Bs, val (trimB s) = val s
  | [] => rfl
  | c :: s => by
    unfold trimB; split
    · rename_i h; subst h; rw [val_trim s, val]; simp
    · rfl
theorem can_trim : ∀ s : Bs, Can (trimB s)
  | [] => by simp [trimB, Can]
  | c :: s => by
    unfold trimB; split
    · exact can_trim s
    · rename_i h; simpa [Can] using h
theorem trim_can : ∀ {s : Bs}, Can s → trimB s = s
  | [], _ => rfl
  | c :: s, h => by
    unfold trimB; rw [if_neg]; simpa [Can] using h
theorem trim_len : ∀ s : Bs, (trimB s).length ≤ s.length
  | [] => Nat.le_refl _
  | c :: s => by
    unfold trimB; split
    · have := trim_len s; simp; omega
    · exact Nat.le_refl _
/-- a string that is not empty and canonical is not less than its first byte's weight -/
theorem can_ge {s : Bs} (h : Can s) (h0 : s ≠ []) : 256 ^ (s.length - 1) ≤ val s := by
  cases s with
  | nil => exact absurd rfl h0
  | cons c s =>
    have hc : 1 ≤ c.toNat := by
      rcases Nat.eq_zero_or_pos c.toNat with h1 | h1
      · exfalso; apply h; rw [List.head?_cons]; congr 1; exact UInt8.toNat_inj.1 h1
      · exact h1
    simp only [val, List.length_cons, Nat.add_sub_cancel]
    have := Nat.mul_le_mul_right (256 ^ s.length) hc
    rw [Nat.one_mul] at this; omega
theorem can_len {a b : Bs} (ha : Can a) (hb : Can b) (h : val a ≤ val b) : a.length ≤ b.length := by
  rcases Nat.lt_or_ge b.length a.length with q | q
  · exfalso
    have h0 : a ≠ [] := by intro h; rw [h] at q; simp at q
    have h1 := can_ge ha h0
    have h2 := val_lt b
    have h3 : 256 ^ b.length ≤ 256 ^ (a.length - 1) := Nat.pow_le_pow_right (by decide) (by omega)
    omega
  · exact q
theorem be_val : ∀ s : Bs, be s.length (val s) = s
  | [] => rfl
  | c :: s => by
    have h1 := val_lt s
    have hd : (c.toNat * 256 ^ s.length + val s) / 256 ^ s.length = c.toNat := by
      rw [Nat.mul_comm, Nat.mul_add_div (p256 _), Nat.div_eq_of_lt h1, Nat.add_zero]
    have hm : be s.length (c.toNat * 256 ^ s.length + val s) = be s.length (val s) := by
      have key : ∀ k x y, k ≤ s.length → be k (y * 256 ^ s.length + x) = be k x := by
        intro k
        induction k with
        | zero => intro x y _; rfl
        | succ k ih =>
          intro x y hk
          simp only [be, ih x y (by omega)]
          congr 1
          apply UInt8.toNat_inj.1
          rw [UInt8.toNat_ofNat', UInt8.toNat_ofNat']
          have e : 256 ^ s.length = 256 ^ k * 256 * 256 ^ (s.length - (k + 1)) := by rw [← Nat.pow_succ, ← Nat.pow_add]; congr 1; omega
          rw [e, show y * (256 ^ k * 256 * 256 ^ (s.length - (k + 1))) = 256 ^ k * (256 * (y * 256 ^ (s.length - (k + 1)))) by ac_rfl, Nat.mul_add_div (p256 _)]
          omega
      exact key s.length (val s) c.toNat (Nat.le_refl _)
    simp only [List.length_cons, be, val, hd, hm, be_val s]
    congr 1
    apply UInt8.toNat_inj.1; rw [UInt8.toNat_ofNat']; have := c.toNat_lt; omega
theorem val_inj {a b : Bs} (hl : a.length = b.length) (h : val a = val b) : a = b := by
  rw [← be_val a, ← be_val b, hl, h]
theorem can_inj {a b : Bs} (ha : Can a) (hb : Can b) (h : val a = val b) : a = b :=
  val_inj (Nat.le_antisymm (can_len ha hb (by omega)) (can_len hb ha (by omega))) h
/-- the canonical string of a number -/
def canon (n : Nat) : Bs := trimB (be (Nat.log2 n / 8 + 1) n)
theorem lt_log (n : Nat) : n < 256 ^ (Nat.log2 n / 8 + 1) := by
  have h1 : n < 2 ^ (Nat.log2 n + 1) := Nat.lt_log2_self
  have h2 : 256 ^ (Nat.log2 n / 8 + 1) = 2 ^ (8 * (Nat.log2 n / 8 + 1)) := by rw [show (256 : Nat) = 2 ^ 8 from rfl, ← Nat.pow_mul]
  rw [h2]
  exact Nat.lt_of_lt_of_le h1 (Nat.pow_le_pow_right (by decide) (by omega))
theorem val_canon (n : Nat) : val (canon n) = n := by rw [canon, val_trim, val_be, Nat.mod_eq_of_lt (lt_log n)]
theorem can_canon (n : Nat) : Can (canon n) := can_trim _
theorem canon_val {s : Bs} (h : Can s) : canon (val s) = s := can_inj (can_canon _) h (val_canon _)
theorem trim_canon (s : Bs) : trimB s = canon (val s) := can_inj (can_trim _) (can_canon _) (by rw [val_trim, val_canon])
theorem trim_be {k n : Nat} (h : n < 256 ^ k) : trimB (be k n) = canon n := by rw [trim_canon, val_be, Nat.mod_eq_of_lt h]
theorem canon_zero : canon 0 = [] := can_inj (can_canon _) (by simp [Can]) (by rw [val_canon]; rfl)
theorem can_nil : Can [] := by simp [Can]
theorem val_eq_zero {s : Bs} (h : Can s) : val s = 0 ↔ s = [] := ⟨fun h0 => can_inj h can_nil (by rw [h0]; rfl), fun h0 => by rw [h0]; rfl⟩
theorem canon_len_le {n k : Nat} : (canon n).length ≤ k ↔ n < 256 ^ k := by
  constructor
  · intro h
    have h1 := val_lt (canon n)
    rw [val_canon] at h1
    exact Nat.lt_of_lt_of_le h1 (Nat.pow_le_pow_right (by decide) h)
  · intro h
    rcases Nat.lt_or_ge k (canon n).length with q | q
    · exfalso
      have h0 : canon n ≠ [] := by intro h; rw [h] at q; simp at q
      have h1 := can_ge (can_canon n) h0
      rw [val_canon] at h1
      have h3 : 256 ^ k ≤ 256 ^ ((canon n).length - 1) := Nat.pow_le_pow_right (by decide) (by omega)
      omega
    · exact q
/-- the digit of weight 256^i -/
theorem val_digit (s : Bs) (i : Nat) (h : i < s.length) : val s / 256 ^ i % 256 = (s.getD (s.length - 1 - i) default).toNat := by
  induction s with
  | nil => simp at h
  | cons c s ih =>
    simp only [val, List.length_cons, Nat.add_sub_cancel] at h ⊢
    by_cases hi : i = s.length
    · subst hi
      rw [Nat.sub_self, List.getD_cons_zero, Nat.mul_comm, Nat.mul_add_div (p256 _), Nat.div_eq_of_lt (val_lt s), Nat.add_zero, Nat.mod_eq_of_lt c.toNat_lt]
    · have e : 256 ^ s.length = 256 ^ i * (256 * 256 ^ (s.length - 1 - i)) := by
        rw [← Nat.mul_assoc, ← Nat.pow_succ, ← Nat.pow_add]; congr 1; omega
      rw [e, show c.toNat * (256 ^ i * (256 * 256 ^ (s.length - 1 - i))) = 256 ^ i * (256 * (c.toNat * 256 ^ (s.length - 1 - i))) by ac_rfl, Nat.mul_add_div (p256 _), Nat.mul_add_mod, ih (by omega)]
      rw [show s.length - i = (s.length - 1 - i) + 1 by omega, List.getD_cons_succ]
theorem val_digit0 (s : Bs) (i : Nat) (h : s.length ≤ i) : val s / 256 ^ i % 256 = 0 := by
  rw [Nat.div_eq_of_lt (Nat.lt_of_lt_of_le (val_lt s) (Nat.pow_le_pow_right (by decide) h))]
/-- order -/
theorem val_lex : ∀ (a b : Bs), a.length = b.length → (val a < val b ↔ a < b)
  | [], [], _ => by simp [val]
  | [], _ :: _, h => by simp at h
  | _ :: _, [], h => by simp at h
  | x :: a, y :: b, h => by
    have hl : a.length = b.length := by simpa using h
    have ih := val_lex a b hl
    have ha := val_lt a; have hb := val_lt b
    simp only [val]
    rw [hl] at ha ⊢
    rw [List.cons_lt_cons_iff]
    rcases Nat.lt_trichotomy x.toNat y.toNat with q | q | q
    · have h1 : (x.toNat + 1) * 256 ^ b.length ≤ y.toNat * 256 ^ b.length := Nat.mul_le_mul_right _ q
      rw [Nat.add_mul, Nat.one_mul] at h1
      exact ⟨fun _ => .inl q, fun _ => by omega⟩
    · have hxy : x = y := UInt8.toNat_inj.1 q
      subst hxy
      constructor
      · intro h; exact .inr ⟨rfl, ih.1 (by omega)⟩
      · rintro (h | ⟨_, h⟩)
        · exact absurd h (by exact Nat.lt_irrefl _)
        · have := ih.2 h; omega
    · have h1 : (y.toNat + 1) * 256 ^ b.length ≤ x.toNat * 256 ^ b.length := Nat.mul_le_mul_right _ q
      rw [Nat.add_mul, Nat.one_mul] at h1
      constructor
      · intro h; omega
      · rintro (h | ⟨h, _⟩)
        · exact absurd (show x.toNat < y.toNat from h) (by omega)
        · subst h; omega
/-- sums and differences, digit by digit -/
def carryA (a b i : Nat) : Nat := (a % 256 ^ i + b % 256 ^ i) / 256 ^ i
theorem carryA_zero (a b : Nat) : carryA a b 0 = 0 := by simp [carryA, Nat.mod_one]
theorem carryA_le (a b i : Nat) : carryA a b i ≤ 1 := by
  have h1 := Nat.mod_lt a (p256 i); have h2 := Nat.mod_lt b (p256 i)
  unfold carryA
  have : a % 256 ^ i + b % 256 ^ i < 2 * 256 ^ i := by omega
  have := (Nat.div_lt_iff_lt_mul (p256 i)).2 this
  omega
theorem carryA_div (a b i : Nat) : (a + b) / 256 ^ i = carryA a b i + a / 256 ^ i + b / 256 ^ i := by
  have h1 := Nat.div_add_mod a (256 ^ i); have h2 := Nat.div_add_mod b (256 ^ i)
  have e : a + b = 256 ^ i * (a / 256 ^ i + b / 256 ^ i) + (a % 256 ^ i + b % 256 ^ i) := by rw [Nat.mul_add]; omega
  rw [e, Nat.mul_add_div (p256 i), carryA]; omega
theorem carryA_succ (a b i : Nat) : carryA a b (i + 1) = (carryA a b i + a / 256 ^ i % 256 + b / 256 ^ i % 256) / 256 := by
  have h1 := carryA_div a b i
  have h2 := carryA_div a b (i + 1)
  rw [Nat.pow_succ, ← Nat.div_div_eq_div_mul, ← Nat.div_div_eq_div_mul, ← Nat.div_div_eq_div_mul, h1] at h2
  omega
theorem sum_digit (a b i : Nat) : UInt8.ofNat ((a + b) / 256 ^ i) = UInt8.ofNat (carryA a b i + a / 256 ^ i % 256 + b / 256 ^ i % 256) := by
  apply UInt8.toNat_inj.1
  rw [UInt8.toNat_ofNat', UInt8.toNat_ofNat', carryA_div]; omega
def borrowB (a b i : Nat) : Nat := if a % 256 ^ i < b % 256 ^ i then 1 else 0
theorem borrowB_zero (a b : Nat) : borrowB a b 0 = 0 := by simp [borrowB, Nat.mod_one]
theorem borrow_div {a b : Nat} (h : b ≤ a) (i : Nat) : (a - b) / 256 ^ i = a / 256 ^ i - b / 256 ^ i - borrowB a b i ∧ b / 256 ^ i + borrowB a b i ≤ a / 256 ^ i := by
  have h1 := Nat.div_add_mod a (256 ^ i); have h2 := Nat.div_add_mod b (256 ^ i)
  have m1 := Nat.mod_lt a (p256 i); have m2 := Nat.mod_lt b (p256 i)
  have hq : b / 256 ^ i ≤ a / 256 ^ i := Nat.div_le_div_right h
  unfold borrowB
  generalize 256 ^ i = P at *
  generalize hA : a / P = A at *
  generalize hB : b / P = B' at *
  split
  · rename_i hlt
    have hne : B' < A := by
      rcases Nat.lt_or_ge B' A with q | q
      · exact q
      · exfalso
        have : A = B' := by omega
        subst this; omega
    obtain ⟨D, rfl⟩ : ∃ D, A = B' + 1 + D := ⟨A - B' - 1, by omega⟩
    refine ⟨?_, by omega⟩
    have e : a - b = P * D + (P + a % P - b % P) := by
      have : P * (B' + 1 + D) = P * B' + P + P * D := by rw [Nat.mul_add, Nat.mul_add, Nat.mul_one]
      omega
    rw [e, Nat.mul_add_div (by omega), Nat.div_eq_of_lt (by omega)]; omega
  · rename_i hge
    obtain ⟨D, rfl⟩ : ∃ D, A = B' + D := ⟨A - B', by omega⟩
    refine ⟨?_, by omega⟩
    have e : a - b = P * D + (a % P - b % P) := by
      have : P * (B' + D) = P * B' + P * D := Nat.mul_add _ _ _
      omega
    rw [e, Nat.mul_add_div (by omega), Nat.div_eq_of_lt (by omega)]; omega
end Go.Proofs.YtbcnnkcddilfjaaGreat
