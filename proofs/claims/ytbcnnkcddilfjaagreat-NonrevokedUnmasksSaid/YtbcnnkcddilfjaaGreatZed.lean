/-
  Integers in plain terms.
-/
import Derived.Test.YtbcnnkcddilfjaaGreatInt1
namespace Go.Proofs.YtbcnnkcddilfjaaGreat
set_option linter.unusedSimpArgs false
set_option linter.unusedVariables false
set_option maxRecDepth 20000
open Go.RowKit

theorem big_pos : 0 < Big := Nat.pow_pos (by decide)
theorem okN_can {n : Nat} (h : n < Big) : okN (canon n) := ⟨canon_big.2 h, can_canon n⟩
theorem okN_val {s : Bs} (h : okN s) : val s < Big := Nat.lt_of_lt_of_le (val_lt s) (Nat.pow_le_pow_right (by decide) h.1)
theorem canon_nil {n : Nat} : canon n = [] ↔ n = 0 := ⟨fun h => by rw [← val_canon n, h]; rfl, fun h => by rw [h]; exact canon_zero⟩
theorem canon_inj {a b : Nat} : canon a = canon b ↔ a = b := ⟨fun h => by rw [← val_canon a, h, val_canon], fun h => by rw [h]⟩
theorem ok_canon {s : Bs} (h : okN s) : canon (val s) = s := canon_val h.2
/-- a valid number is the canonical string of a small number -/
theorem okN_iff {s : Bs} : okN s ↔ ∃ n, n < Big ∧ s = canon n := ⟨fun h => ⟨val s, okN_val h, (ok_canon h).symm⟩, fun ⟨n, h, e⟩ => e ▸ okN_can h⟩
def zv (x : Zs) : Int := if x.1 then -(val x.2 : Int) else val x.2
theorem ofZ_eq (n : Int) : ofZ n = (decide (n < 0), canon n.natAbs) := by
  unfold ofZ mkZ
  by_cases h : n < 0
  · rw [decide_eq_true h, Bool.true_and, decide_eq_false (by rw [canon_nil]; omega)]; rfl
  · rw [decide_eq_false h, Bool.false_and]
theorem zv_ofZ (n : Int) : zv (ofZ n) = n := by
  rw [ofZ_eq, zv]
  by_cases h : n < 0
  · rw [if_pos (by simpa using h), val_canon]; omega
  · rw [if_neg (by simpa using h), val_canon]; omega
theorem ofZ_zv {x : Zs} (h : okZ x) : ofZ (zv x) = x := by
  obtain ⟨s, a⟩ := x
  have ha : okN a := h.1
  have h2 : ¬ (s = true ∧ a = []) := h.2
  have hc := ok_canon ha
  rw [ofZ_eq, zv]
  cases s with
  | false =>
    rw [if_neg (by simp)]
    show (decide ((val a : Int) < 0), canon (val a : Int).natAbs) = (false, a)
    rw [decide_eq_false (by omega), Int.natAbs_natCast, hc]
  | true =>
    rw [if_pos rfl]
    have h0 : val a ≠ 0 := fun h0 => h2 ⟨rfl, (val_eq_zero ha.2).1 h0⟩
    show (decide (-(val a : Int) < 0), canon (-(val a : Int)).natAbs) = (true, a)
    rw [decide_eq_true (by omega), Int.natAbs_neg, Int.natAbs_natCast, hc]
theorem okZ_ofZ {n : Int} : okZ (ofZ n) ↔ n.natAbs < Big := by
  rw [ofZ_eq]
  constructor
  · intro h; have := okN_val h.1; rwa [show val (canon n.natAbs) = n.natAbs from val_canon _] at this
  · intro h
    refine ⟨okN_can h, ?_⟩
    rintro ⟨h1, h2⟩
    have h1' : n < 0 := by simpa using h1
    have h2' : n.natAbs = 0 := canon_nil.1 h2
    omega
theorem okZ_zv {x : Zs} (h : okZ x) : (zv x).natAbs < Big := by rw [← ofZ_zv h] at h; exact okZ_ofZ.1 h
/-- a valid integer is that of a small number -/
theorem okZ_iff {x : Zs} : okZ x ↔ ∃ n : Int, n.natAbs < Big ∧ x = ofZ n := ⟨fun h => ⟨zv x, okZ_zv h, (ofZ_zv h).symm⟩, fun ⟨n, h, e⟩ => e ▸ okZ_ofZ.2 h⟩
theorem ofZ_inj {a b : Int} : ofZ a = ofZ b ↔ a = b := ⟨fun h => by rw [← zv_ofZ a, h, zv_ofZ], fun h => by rw [h]⟩
theorem ofZ_nat (n : Nat) : ofZ n = (false, canon n) := by rw [ofZ_eq, decide_eq_false (by omega), Int.natAbs_natCast]
theorem ofZ_zero : ofZ 0 = (false, []) := by rw [ofZ_eq]; exact congrArg (Prod.mk false) canon_zero
theorem mkZ_of (s : Bool) (n : Nat) : mkZ s (canon n) = ofZ (if s then -(n : Int) else n) := by
  cases s with
  | false => rw [if_neg (by simp), ofZ_nat]; rfl
  | true =>
    rw [if_pos rfl, ofZ_eq, Int.natAbs_neg, Int.natAbs_natCast, mkZ, Bool.true_and]
    congr 1
    by_cases h : n = 0
    · subst h; rw [canon_zero]; rfl
    · rw [decide_eq_false (by rw [canon_nil]; exact h), decide_eq_true (by omega)]; rfl
theorem negZ_of {n : Int} (h : n.natAbs < Big) : negZ (ofZ n) = ofZ (-n) := by
  rw [negZ, if_pos (okZ_ofZ.2 h), ofZ_eq, mkZ_of]
  by_cases h1 : n < 0
  · rw [decide_eq_true h1]; simp only [Bool.not_true, Bool.false_eq_true, if_false]; congr 1; omega
  · rw [decide_eq_false h1]; simp only [Bool.not_false, if_true]; congr 1; omega
theorem addZ_of {a b : Int} (ha : a.natAbs < Big) (hb : b.natAbs < Big) : addZ (ofZ a) (ofZ b) = if (a + b).natAbs < Big then (ofZ (a + b), 0) else ((false, []), 5) := by
  obtain ⟨G, hG⟩ : ∃ G, G = Big := ⟨_, rfl⟩
  rw [addZ, if_pos ⟨okZ_ofZ.2 ha, okZ_ofZ.2 hb⟩]
  rw [ofZ_eq a, ofZ_eq b]
  simp only [val_canon]
  rw [← hG] at ha hb ⊢
  by_cases hs : decide (a < 0) = decide (b < 0)
  · rw [if_pos hs]
    have hs' : (a < 0) ↔ (b < 0) := by simpa using hs
    have hn : (a + b).natAbs = a.natAbs + b.natAbs := by by_cases h1 : a < 0 <;> have := hs'.1 <;> have := hs'.2 <;> omega
    rw [addN, if_pos ⟨okN_can (by rw [← hG]; exact ha), okN_can (by rw [← hG]; exact hb)⟩, val_canon, val_canon, ← hG, hn]
    by_cases hl : a.natAbs + b.natAbs < G
    · rw [if_pos hl, if_pos hl]
      show (mkZ (decide (a < 0)) (canon (a.natAbs + b.natAbs)), (0 : Int)) = _
      rw [mkZ_of]
      congr 2
      by_cases h1 : a < 0
      · rw [if_pos (by simpa using h1)]; omega
      · rw [if_neg (by simpa using h1)]; have := hs'.2; omega
    · rw [if_neg hl, if_neg hl]
      show (mkZ (decide (a < 0)) [], (5 : Int)) = _
      rw [mkZ]; simp
  · rw [if_neg hs]
    have hs' : ¬ ((a < 0) ↔ (b < 0)) := by simpa using hs
    have hl : (a + b).natAbs < G := by omega
    rw [if_pos hl]
    by_cases h1 : a.natAbs < b.natAbs
    · rw [if_pos h1, mkZ_of]
      congr 2
      by_cases h2 : b < 0
      · rw [if_pos (by simpa using h2)]; omega
      · rw [if_neg (by simpa using h2)]; omega
    · rw [if_neg h1, mkZ_of]
      congr 2
      by_cases h2 : a < 0
      · rw [if_pos (by simpa using h2)]; omega
      · rw [if_neg (by simpa using h2)]; omega
theorem subZ_of {a b : Int} (ha : a.natAbs < Big) (hb : b.natAbs < Big) : subZ (ofZ a) (ofZ b) = if (a - b).natAbs < Big then (ofZ (a - b), 0) else ((false, []), 5) := by
  rw [subZ, if_pos ⟨okZ_ofZ.2 ha, okZ_ofZ.2 hb⟩, negZ_of hb, addZ_of ha (by omega), Int.sub_eq_add_neg]
theorem cmpN_of {a b : Nat} (ha : a < Big) (hb : b < Big) : cmpN (canon a) (canon b) = cmpI a b := by rw [cmpN_ok (okN_can ha) (okN_can hb), val_canon, val_canon]
theorem addN_of {a b : Nat} (ha : a < Big) (hb : b < Big) : addN (canon a) (canon b) = if a + b < Big then (canon (a + b), 0) else ([], 5) := by rw [addN, if_pos ⟨okN_can ha, okN_can hb⟩, val_canon, val_canon]
theorem subN_of {a b : Nat} (ha : a < Big) (hb : b < Big) : subN (canon a) (canon b) = if a < b then ([], 2) else (canon (a - b), 0) := by rw [subN, if_pos ⟨okN_can ha, okN_can hb⟩, val_canon, val_canon]
end Go.Proofs.YtbcnnkcddilfjaaGreat
