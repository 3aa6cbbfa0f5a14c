/-
  The examples of the chapter on coins, in plain terms.
-/
import Derived.Test.YtikcjkifhliidaaDoorCoi7
import Derived.Test.YtikcjkifhliidaaDoorCoiE
namespace Go.Proofs.YtikcjkifhliidaaDoor
set_option linter.unusedSimpArgs false
set_option linter.unusedVariables false
set_option maxRecDepth 20000
open Go.RowKit

theorem canon_of {s : Bs} (n : Nat) (h : Can s) (hv : val s = n) : canon n = s := by rw [← hv]; exact canon_val h
theorem c1 : canon 1 = [1] := canon_of 1 (by decide) rfl
theorem c2 : canon 2 = [2] := canon_of 2 (by decide) rfl
theorem c3 : canon 3 = [3] := canon_of 3 (by decide) rfl
theorem c5 : canon 5 = [5] := canon_of 5 (by decide) rfl
theorem c9 : canon 9 = [9] := canon_of 9 (by decide) rfl
theorem c10 : canon 10 = [10] := canon_of 10 (by decide) rfl
theorem aw_g {l : List Bs} {s : Bs} (h : ∀ x ∈ l, okN x) : goodT ⟨l, s, 0⟩ := ⟨by show (0 : Int) ≤ 0; decide, by show (0 : Int) ≤ 2147483647; decide, h⟩
theorem aw_l : ∀ x ∈ ([[5], [9]] : List Bs), okN x := by decide
theorem aw_b1 : belowS ⟨[[5], [9]], [], 0⟩ [10] = ([5], ⟨[[5], [9]], [], 1⟩, 0) := by
  have hr : readyS ⟨[[5], [9]], [], 0⟩ [10] = 0 := by rw [readyS, if_pos ⟨aw_g aw_l, by decide⟩, if_neg (by decide)]
  rw [belowS, if_neg (by rw [hr]; decide), drawS, if_pos (by decide), if_neg (by decide)]; rfl
theorem aw_b2 : belowS ⟨[[5], [9]], [], 0⟩ [5] = ([], zeroT, 2) := by
  have hr : readyS ⟨[[5], [9]], [], 0⟩ [5] = 0 := by rw [readyS, if_pos ⟨aw_g aw_l, by decide⟩, if_neg (by decide)]
  rw [belowS, if_neg (by rw [hr]; decide), drawS, if_pos (by decide), if_pos (by decide)]
theorem aw_s : signedS ⟨[[]], [], 0⟩ [3] = ((true, [2]), ⟨[[]], [], 1⟩, 0) := by
  have hr : readyS ⟨[[]], [], 0⟩ [3] = 0 := by rw [readyS, if_pos ⟨aw_g (by decide), by decide⟩, if_neg (by decide)]
  have hv : val [3] = 3 := rfl
  have hd : drawS ⟨[[]], [], 0⟩ [5] = ([], ⟨[[]], [], 1⟩, 0) := by rw [drawS, if_pos (by decide), if_neg (by decide)]; rfl
  have hB : ¬ Big ≤ 5 := Nat.not_le.2 (val_big (n := [5]) (by decide))
  rw [signedS, if_neg (by rw [hr]; decide), hv, if_neg hB, c5, hd, c2, if_neg (by decide)]
  have hz : subZ (false, []) (false, [2]) = ((true, [2]), 0) := by
    have e1 : negZ (false, [2]) = (true, [2]) := by rw [negZ, if_pos (by decide)]; rfl
    rw [subZ, if_pos (by decide), e1, addZ, if_pos (by decide), if_neg (by decide), if_pos (by decide), show val ([2] : Bs) - val ([] : Bs) = 2 from rfl, c2]; rfl
  rw [hz]
theorem findA_some {t : Tp} {n : Bs} : ∀ (f a k : Nat), a ≤ k → k < a + f → cmpN (attS t.seed t.at_.toNat k (bitsN n)) n < 0 → ∃ x, findA t n f a = some x ∧ cmpN x n < 0
  | 0, a, k, h1, h2, _ => by omega
  | f + 1, a, k, h1, h2, hc => by
    unfold findA
    split
    · rename_i h; exact ⟨_, rfl, h⟩
    · rename_i h
      have : a ≠ k := fun e => by subst e; exact h hc
      exact findA_some f (a + 1) k (by omega) (by omega) hc
theorem aw_b3 : belowS ⟨[], [115, 101, 101, 100], 0⟩ [1] = ([], ⟨[], [115, 101, 101, 100], 1⟩, 0) := by
  have hr : readyS ⟨[], [115, 101, 101, 100], 0⟩ [1] = 0 := by rw [readyS, if_pos ⟨aw_g (by decide), by decide⟩, if_neg (by decide)]
  have hb : bitsN [1] = 1 := by decide
  have hatt : attS [115, 101, 101, 100] 0 1 1 = [] := by
    have e1 : bytesB [115, 101, 101, 100] 0 1 1 = [196] := by
      have := ex_seed
      rw [bytesB, show sizeB 1 = 1 from rfl, show (1 + 31) / 32 = 1 from rfl, blks, blks, List.nil_append, blkB]
      rw [show nameB 0 1 0 = [48, 46, 49, 46, 48] from by rw [nameB, dec_small (by decide), dec_small (by decide)]; rfl]
      exact this
    rw [attS, e1]; exact canon_zero
  obtain ⟨x, hx, hc⟩ := findA_some (t := ⟨[], [115, 101, 101, 100], 0⟩) (n := [1]) 256 0 1 (by decide) (by decide) (by
    rw [hb]; show cmpN (attS [115, 101, 101, 100] 0 1 1) [1] < 0; rw [hatt]; decide)
  have hx0 : x = [] := by
    have ho := cmpN_okl hc
    rw [cmpN_ok ho (by decide), cmpI_neg] at hc
    exact (val_eq_zero ho.2).1 (by have : val [1] = 1 := rfl; omega)
  subst hx0
  rw [belowS, if_neg (by rw [hr]; decide), drawS, if_neg (by decide), if_neg (by decide), hx]; rfl
theorem aw_left : leftT ⟨[[5], [9]], [], 1⟩ = 1 := by rw [leftT, if_pos ⟨by decide, by decide, aw_l⟩]; rfl
theorem aw_of : ofZ (-2) = (true, [2]) := by rw [ofZ, show (-2 : Int).natAbs = 2 from rfl, c2]; rfl
end Go.Proofs.YtikcjkifhliidaaDoor
