/-
  Digits: lists of digits, the least significant one first, in any base.
-/
import Derived.Test.YtbcnnkcddilfjaaGreatNum
namespace Go.Proofs.YtbcnnkcddilfjaaGreat
set_option linter.unusedSimpArgs false
set_option linter.unusedVariables false
set_option maxRecDepth 20000

/-- the number with some digits -/
def ev (β : Nat) : List Nat → Nat
  | [] => 0
  | x :: l => x + β * ev β l
theorem ev_append (β : Nat) : ∀ a b : List Nat, ev β (a ++ b) = ev β a + β ^ a.length * ev β b
  | [], b => by simp [ev]
  | x :: a, b => by
    rw [List.cons_append, ev, ev, ev_append β a b, List.length_cons, Nat.pow_succ, Nat.mul_add, Nat.add_assoc, ← Nat.mul_assoc, Nat.mul_comm β (β ^ a.length)]
theorem ev_take_drop (β : Nat) (l : List Nat) (i : Nat) (h : i ≤ l.length) : ev β l = ev β (l.take i) + β ^ i * ev β (l.drop i) := by
  have := ev_append β (l.take i) (l.drop i)
  rwa [List.take_append_drop, List.length_take, Nat.min_eq_left h] at this
theorem ev_take_succ (β : Nat) (l : List Nat) (i : Nat) (h : i < l.length) : ev β (l.take (i + 1)) = ev β (l.take i) + β ^ i * l.getD i 0 := by
  rw [List.take_add_one, List.getElem?_eq_getElem h, ev_append, List.length_take, Nat.min_eq_left (by omega), List.getD_eq_getElem?_getD, List.getElem?_eq_getElem h]
  simp [ev]
theorem ev_lt (β : Nat) : ∀ l : List Nat, (∀ x ∈ l, x < β) → ev β l < β ^ l.length
  | [], _ => by simp [ev]
  | x :: l, h => by
    have h1 := ev_lt β l fun y hy => h y (.tail _ hy)
    have h2 := h x (.head _)
    rw [ev, List.length_cons, Nat.pow_succ]
    have : β * (ev β l + 1) ≤ β * β ^ l.length := Nat.mul_le_mul_left _ h1
    rw [Nat.mul_add, Nat.mul_one, Nat.mul_comm β (β ^ l.length)] at this
    omega
theorem ev_take_lt (β : Nat) (l : List Nat) (i : Nat) (hi : i ≤ l.length) (h : ∀ x ∈ l, x < β) : ev β (l.take i) < β ^ i := by
  have := ev_lt β (l.take i) fun x hx => h x (List.mem_of_mem_take hx)
  rwa [List.length_take, Nat.min_eq_left hi] at this
theorem ev_replicate (β n : Nat) : ev β (List.replicate n 0) = 0 := by
  induction n with
  | zero => rfl
  | succ n ih => rw [List.replicate_succ, ev, ih]; simp
theorem take_set_lt {α : Type} (l : List α) (i k : Nat) (y : α) (h : k ≤ i) : (l.set i y).take k = l.take k := by
  rw [List.take_set, List.set_eq_of_length_le (by rw [List.length_take]; omega)]
theorem take_set_succ (l : List Nat) (i y : Nat) (h : i < l.length) : (l.set i y).take (i + 1) = l.take i ++ [y] := by
  rw [List.take_add_one, take_set_lt l i i y (Nat.le_refl _), List.getElem?_set_self h]; rfl
theorem drop_set_lt {α : Type} (l : List α) (i k : Nat) (y : α) (h : i < k) : (l.set i y).drop k = l.drop k := by
  rw [List.drop_set, if_pos h]
theorem ev_set_take (β : Nat) (l : List Nat) (i y : Nat) (h : i < l.length) : ev β ((l.set i y).take (i + 1)) = ev β (l.take i) + β ^ i * y := by
  rw [take_set_succ l i y h, ev_append, List.length_take, Nat.min_eq_left (by omega)]; simp [ev]
theorem ev_set (β : Nat) (l : List Nat) (i y : Nat) (h : i < l.length) : ev β (l.set i y) + β ^ i * l.getD i 0 = ev β l + β ^ i * y := by
  rw [ev_take_drop β (l.set i y) (i + 1) (by rw [List.length_set]; omega), ev_set_take β l i y h, drop_set_lt l i (i + 1) y (by omega), ev_take_drop β l (i + 1) (by omega), ev_take_succ β l i h]
  omega
theorem ev_digit (β : Nat) (hβ : 0 < β) (l : List Nat) (i : Nat) (hi : i < l.length) (h : ∀ x ∈ l, x < β) : ev β l / β ^ i % β = l.getD i 0 := by
  have h1 := ev_take_lt β l i (by omega) h
  have h2 : l.drop i = l.getD i 0 :: l.drop (i + 1) := by
    rw [List.drop_eq_getElem_cons hi, List.getD_eq_getElem?_getD, List.getElem?_eq_getElem hi]; rfl
  have h3 : l.getD i 0 < β := by
    rw [List.getD_eq_getElem?_getD, List.getElem?_eq_getElem hi]; exact h _ (List.getElem_mem hi)
  rw [ev_take_drop β l i (by omega), h2, ev, Nat.add_mul_div_left _ _ (Nat.pow_pos hβ), Nat.div_eq_of_lt h1, Nat.zero_add, Nat.add_mul_mod_self_left, Nat.mod_eq_of_lt h3]
theorem ev_zeros (β : Nat) (hβ : 0 < β) : ∀ l : List Nat, ev β l = 0 → ∀ x ∈ l, x = 0
  | [], _, x, hx => by cases hx
  | y :: l, h, x, hx => by
    rw [ev] at h
    have h1 : y = 0 := by omega
    have h2 : ev β l = 0 := by
      rcases Nat.eq_zero_or_pos (ev β l) with q | q
      · exact q
      · have := Nat.mul_pos hβ q; omega
    rcases List.mem_cons.1 hx with rfl | hx
    · exact h1
    · exact ev_zeros β hβ l h2 x hx
theorem ev_inj (β : Nat) (hβ : 0 < β) : ∀ a b : List Nat, a.length = b.length → (∀ x ∈ a, x < β) → (∀ x ∈ b, x < β) → ev β a = ev β b → a = b
  | [], [], _, _, _, _ => rfl
  | [], _ :: _, h, _, _, _ => by simp at h
  | _ :: _, [], h, _, _, _ => by simp at h
  | x :: a, y :: b, h, ha, hb, he => by
    have hx := ha x (.head _)
    have hy := hb y (.head _)
    rw [ev, ev] at he
    have e1 : x = y := by
      have := congrArg (· % β) he
      simp only [Nat.add_mul_mod_self_left, Nat.mod_eq_of_lt hx, Nat.mod_eq_of_lt hy] at this
      exact this
    subst e1
    have e2 : ev β a = ev β b := Nat.eq_of_mul_eq_mul_left hβ (by omega)
    rw [ev_inj β hβ a b (by simpa using h) (fun z hz => ha z (.tail _ hz)) (fun z hz => hb z (.tail _ hz)) e2]
theorem getD_set_ne (l : List Nat) (i k y : Nat) (h : i ≠ k) : (l.set i y).getD k 0 = l.getD k 0 := by
  rw [List.getD_eq_getElem?_getD, List.getD_eq_getElem?_getD, List.getElem?_set_ne h]
theorem getD_set_eq (l : List Nat) (i y : Nat) (h : i < l.length) : (l.set i y).getD i 0 = y := by
  rw [List.getD_eq_getElem?_getD, List.getElem?_set_self h]; rfl
theorem getD_lt (β : Nat) (hβ : 0 < β) (l : List Nat) (h : ∀ x ∈ l, x < β) (i : Nat) : l.getD i 0 < β := by
  rw [List.getD_eq_getElem?_getD]
  cases hi : l[i]? with
  | none => exact hβ
  | some x => exact h x (List.mem_of_getElem? hi)
theorem set_lt (β : Nat) (l : List Nat) (h : ∀ x ∈ l, x < β) (i y : Nat) (hy : y < β) : ∀ x ∈ l.set i y, x < β := by
  intro x hx
  rcases List.mem_or_eq_of_mem_set hx with h1 | h1
  · exact h x h1
  · rw [h1]; exact hy
/-- the carry of sums of columns -/
def colC (β : Nat) (c : List Nat) (i : Nat) : Nat := ev β (c.take i) / β ^ i
theorem colC_zero (β : Nat) (c : List Nat) : colC β c 0 = 0 := by simp [colC, ev]
theorem colC_succ (β : Nat) (hβ : 0 < β) (c : List Nat) (i : Nat) (hi : i < c.length) : colC β c (i + 1) = (colC β c i + c.getD i 0) / β := by
  rw [colC, ev_take_succ β c i hi, Nat.pow_succ, ← Nat.div_div_eq_div_mul, Nat.add_mul_div_left _ _ (Nat.pow_pos hβ), colC]
theorem colC_digit (β : Nat) (hβ : 0 < β) (c : List Nat) (i : Nat) (hi : i < c.length) : ev β c / β ^ i % β = (colC β c i + c.getD i 0) % β := by
  have h2 : c.drop i = c.getD i 0 :: c.drop (i + 1) := by
    rw [List.drop_eq_getElem_cons hi, List.getD_eq_getElem?_getD, List.getElem?_eq_getElem hi]; rfl
  rw [ev_take_drop β c i (by omega), h2, ev, Nat.add_mul_div_left _ _ (Nat.pow_pos hβ), ← Nat.add_assoc, Nat.add_mul_mod_self_left, colC]
theorem colC_le (β : Nat) (hβ : 1 < β) (c : List Nat) (M : Nat) (h : ∀ i, c.getD i 0 ≤ M) : ∀ i, i ≤ c.length → colC β c i ≤ M
  | 0, _ => by rw [colC_zero]; omega
  | i + 1, hi => by
    have h1 := colC_le β hβ c M h i (by omega)
    rw [colC_succ β (by omega) c i (by omega)]
    have h2 := h i
    calc (colC β c i + c.getD i 0) / β ≤ (M + M) / β := Nat.div_le_div_right (by omega)
      _ ≤ (M + M) / 2 := Nat.div_le_div_left (by omega) (by omega)
      _ = M := by omega
end Go.Proofs.YtbcnnkcddilfjaaGreat
