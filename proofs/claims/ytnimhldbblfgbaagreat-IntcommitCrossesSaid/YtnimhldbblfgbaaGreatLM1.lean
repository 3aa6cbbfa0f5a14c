/-
  Parts of the walk: Mlp.
-/
import Derived.Test.YtnimhldbblfgbaaGreatLE1
namespace Go.Proofs.YtnimhldbblfgbaaGreat
set_option linter.unusedSimpArgs false
set_option linter.unusedVariables false
set_option maxRecDepth 20000
open Go.RowKit
theorem mulZ_zv {x y : Zs} (hx : okZ x) (hy : okZ y) (h : (mulZ x y).2 = 0) : (mulZ x y).1 = ofZ (zv x * zv y) ∧ (zv x * zv y).natAbs < Big := by
 obtain ⟨a, ha, rfl⟩ := okZ_iff.1 hx
 obtain ⟨b, hb, rfl⟩ := okZ_iff.1 hy
 rw [zv_ofZ, zv_ofZ]
 by_cases hab : (a * b).natAbs < Big
 ·rw [mulZ_of ha hb hab]; exact ⟨rfl, hab⟩
 ·rw [mulZ, if_pos ⟨hx, hy⟩] at h
  simp only [ofZ_eq] at h
  rw [mulN_of ha hb, if_neg (by rw [← Int.natAbs_mul]; exact hab)] at h; cases h
theorem subZ_zv {x y : Zs} (hx : okZ x) (hy : okZ y) (h : (subZ x y).2 = 0) : (subZ x y).1 = ofZ (zv x - zv y) ∧ (zv x - zv y).natAbs < Big := by
 obtain ⟨a, ha, rfl⟩ := okZ_iff.1 hx
 obtain ⟨b, hb, rfl⟩ := okZ_iff.1 hy
 rw [zv_ofZ, zv_ofZ]
 rw [subZ_of ha hb] at h ⊢
 by_cases hab : (a - b).natAbs < Big
 ·rw [if_pos hab]; exact ⟨rfl, hab⟩
 ·rw [if_neg hab] at h; cases h
/-- a product of two powers -/
theorem prodS_two {g : Gp} {a b : Bs} {x y : Zs} (hg : chkG g = 0) (ha : elG g a) (hb : elG g b) (hx : okZ x) (hy : okZ y) :
  prodS g [a, b] [x, y] = (canon (powI (val g.1) (val a) (zv x) * powI (val g.1) (val b) (zv y) % val g.1), 0) := by
 have h0 : chkP g [a, b] [x, y] (decide ([a, b].length = [x, y].length)) = 0 := by
  have e1 : ∀ z ∈ [a, b], okN z := by intro z hz; simp at hz; rcases hz with rfl | rfl; exact ha.1; exact hb.1
  have e2 : ∀ z ∈ [x, y], okZ z := by intro z hz; simp at hz; rcases hz with rfl | rfl <;> assumption
  have e3 : ∀ z ∈ [a, b], elG g z := by intro z hz; simp at hz; rcases hz with rfl | rfl <;> assumption
  rw [chkP, if_neg (fun h => h e1), if_neg (fun h => h e2), if_neg (fun h => h hg), if_neg (by simp), if_neg (fun h => h e3)]
 rw [prodS, if_pos h0]; simp [prodL]
theorem elG_lt {g : Gp} {x : Bs} (hg : chkG g = 0) : 0 < val g.1 := by obtain ⟨_, _, h, _, _⟩ := chkG_ok hg; omega
/-- the power of a commitment, times a power of H -/
theorem com_pow {m g h : Nat} {x y z s : Int} (hm : 0 < m) (hg : Un m g) (hh : Un m h) :
  powI m (powI m g x * powI m h y % m) z * powI m h s % m = powI m g (x * z) * powI m h (y * z + s) % m := by
 rw [powI_base hm (un_powI hm hg _) (un_powI hm hh _), powI_mul hm hg, powI_mul hm hh, mml, Nat.mul_assoc, ← mmr, powI_add hm hh]
theorem crossS_ok {v r : Bs} (hv : okN v) (hr : okN r) (h : (crossS v r).2 = 0) : okN (crossS v r).1 ∧ val (crossS v r).1 = val v * val r + val r := by
 obtain ⟨a, ha, rfl⟩ := okN_iff.1 hv
 obtain ⟨b, hb, rfl⟩ := okN_iff.1 hr
 unfold crossS at h ⊢
 rw [mulN_of ha hb] at h ⊢
 by_cases h1 : a * b < Big
 ·simp only [if_pos h1] at h ⊢
  simp only [ne_eq, not_true_eq_false, if_false] at h ⊢
  rw [addN_of h1 hb] at h ⊢
  by_cases h2 : a * b + b < Big
  ·simp only [if_pos h2]; exact ⟨okN_can h2, by simp [val_canon]⟩
  ·rw [if_neg h2] at h; cases h
 ·simp only [if_neg h1] at h; simp at h
theorem prS_ok {k : PK} {a b c v r : Bs} (h : (prS k a b c v r).2 = 0) : (okK k ∧ okN a ∧ okN b ∧ okN c ∧ okN v ∧ okN r) ∧ chkI k = 0 ∧ (elG k.1 a ∧ elG k.1 b ∧ elG k.1 c) ∧ (v ≠ [] ∧ r ≠ []) ∧ (crossS v r).2 = 0 ∧ prS k a b c v r = (prQ k a b c v r (crossS v r).1, 0) := by
 have h0 : prE k a b c v r = 0 := by
  unfold prS at h; split at h
  ·exact h
  ·rename_i h1; exact Decidable.not_not.1 h1
 have e : prS k a b c v r = (prQ k a b c v r (crossS v r).1, 0) := by rw [prS, if_neg (fun h => h h0)]
 unfold prE at h0
 split at h0
 ·simp at h0
 ·rename_i h1; split at h0
  ·rename_i h2; exact absurd h0 h2
  ·rename_i h2; split at h0
   ·simp at h0
   ·rename_i h3; split at h0
    ·rename_i h4; exact absurd h0 h4
    ·rename_i h4
     have h5 : ¬ (v = [] ∨ r = []) := fun h => by rw [bndE, if_pos h] at h4; exact h4 (by decide)
     exact ⟨Decidable.not_not.1 h1, Decidable.not_not.1 h2, Decidable.not_not.1 h3, ⟨fun h => h5 (Or.inl h), fun h => h5 (Or.inr h)⟩, h0, e⟩
theorem pr_chk {k : PK} {a b c v r x : Bs} (hk : chkI k = 0) (ha : elG k.1 a) (hb : elG k.1 b) (hc : elG k.1 c) (hv : okN v) (hr : okN r) (hx : okN x) (hv0 : v ≠ []) (hr0 : r ≠ []) (hx0 : x ≠ []) : formS (prQ k a b c v r x) ∧ chkS (prQ k a b c v r x) = 0 := by
 obtain ⟨hok, hg, hel, ho⟩ := chkI_ok hk
 have hf : formS (prQ k a b c v r x) := by
  refine ⟨?_, ?_, ?_⟩
  ·intro g hg; simp [prQ] at hg; subst hg; exact ⟨hok.1, hok.2.1⟩
  ·intro y hy; simp [prQ] at hy; rcases hy with rfl | rfl | rfl <;> assumption
  ·intro q hq; simp [prQ] at hq; rcases hq with rfl | rfl
   ·refine ⟨⟨⟨Int.le_refl 0, by simp [prQ]⟩, hb.1⟩, ?_⟩
    intro t ht; simp [trm] at ht; rcases ht with rfl | rfl
    ·exact okT_trm hok.2.2.1 (by decide) (by simp [prQ])
    ·exact okT_trm hok.2.2.2 (by decide) (by simp [prQ])
   ·refine ⟨⟨⟨Int.le_refl 0, by simp [prQ]⟩, hc.1⟩, ?_⟩
    intro t ht; simp [trm] at ht; rcases ht with rfl | rfl
    ·exact okT_trm ha.1 (by decide) (by simp [prQ])
    ·exact okT_trm hok.2.2.2 (by decide) (by simp [prQ])
 have hs : sizeS (prQ k a b c v r x) := by simp [sizeS, prQ]
 have he : elS (prQ k a b c v r x) := by
  refine ⟨?_, ?_⟩
  ·intro g hg1; simp [prQ] at hg1; subst hg1; exact hg
  ·intro q hq; simp [prQ] at hq; rcases hq with rfl | rfl
   ·refine ⟨hb, ?_⟩
    intro t ht; simp [trm] at ht; rcases ht with rfl | rfl
    ·exact hel.1
    ·exact hel.2.1
   ·refine ⟨hc, ?_⟩
    intro t ht; simp [trm] at ht; rcases ht with rfl | rfl
    ·exact ha
    ·exact hel.2.1
 have hd : kdS (prQ k a b c v r x) := Or.inl (by intro y hy; simp [prQ] at hy; rcases hy with rfl | rfl | rfl <;> assumption)
 exact ⟨hf, by simp [chkS, hf, hs, he, hd]⟩
/-- what Holds answers for the statement of a product -/
theorem pr_holds {k : PK} {a b c v r : Bs} {w0 w1 w2 : Zs} (h : (prS k a b c v r).2 = 0) (h0 : okZ w0) (h1 : okZ w1) (h2 : okZ w2) :
  hldS (prS k a b c v r).1 [w0, w1, w2] = (decide ((val w0.2 < val v ∧ val w1.2 < val r ∧ val w2.2 < val v * val r + val r) ∧ (prodS k.1 [k.2.1, k.2.2] [w0, w1]).1 = b ∧ (prodS k.1 [a, k.2.2] [w0, w2]).1 = c), 0) := by
 obtain ⟨⟨hok, hoa, hob, hoc, hov, hor⟩, hk, ⟨ha, hb, hc⟩, ⟨hv0, hr0⟩, hcr, e⟩ := prS_ok h
 obtain ⟨hox, hxv⟩ := crossS_ok hov hor hcr
 obtain ⟨_, hg, hel, _⟩ := chkI_ok hk
 have hrp : 0 < val r := vpos hor hr0
 obtain ⟨x, hx⟩ : ∃ x, (crossS v r).1 = x := ⟨_, rfl⟩
 rw [hx] at hox hxv e
 have hx0 : x ≠ [] := fun h => by rw [h] at hxv; have : val ([] : Bs) = 0 := rfl; omega
 obtain ⟨hf, hs⟩ := pr_chk hk ha hb hc hov hor hox hv0 hr0 hx0
 rw [e]
 have hrd : rdyS (prQ k a b c v r x) [w0, w1, w2] = 0 := by
  rw [rdyS, if_neg (fun h => h hf), if_neg (fun h => h (by intro y hy; simp at hy; rcases hy with rfl | rfl | rfl <;> assumption)), if_neg (fun h => h hs), if_neg (fun h => h rfl)]
 have hin : inR (prQ k a b c v r x) [w0, w1, w2] ↔ (val w0.2 < val v ∧ val w1.2 < val r ∧ val w2.2 < val v * val r + val r) := by
  rw [← hxv]
  constructor
  ·intro h3
   have a1 := h3 0 (by simp [prQ]); have a2 := h3 1 (by simp [prQ]); have a3 := h3 2 (by simp [prQ])
   simp [prQ, inV, hv0, hr0, hx0] at a1 a2 a3; exact ⟨a1, a2, a3⟩
  ·intro h3 i hi
   simp [prQ] at hi
   rcases i with _ | _ | _ | i
   ·simp [prQ, inV, hv0]; exact h3.1
   ·simp [prQ, inV, hr0]; exact h3.2.1
   ·simp [prQ, inV, hx0]; exact h3.2.2
   ·omega
 have hI1 : imQ [k.1] [w0, w1, w2] (0, b, [trm k.2.1 0, trm k.2.2 1]) = prodS k.1 [k.2.1, k.2.2] [w0, w1] := imQ_two (by exact h0) (by exact h1)
 have hI2 : imQ [k.1] [w0, w1, w2] (0, c, [trm a 0, trm k.2.2 2]) = prodS k.1 [a, k.2.2] [w0, w2] := imQ_two (by exact h0) (by exact h2)
 have e1 : (prodS k.1 [k.2.1, k.2.2] [w0, w1]).2 = 0 := by rw [prodS_two hg hel.1 hel.2.1 h0 h1]
 have e2 : (prodS k.1 [a, k.2.2] [w0, w2]).2 = 0 := by rw [prodS_two hg ha hel.2.1 h0 h2]
 have him : imS (prQ k a b c v r x) [w0, w1, w2] = ([(prodS k.1 [k.2.1, k.2.2] [w0, w1]).1, (prodS k.1 [a, k.2.2] [w0, w2]).1], 0) := by
  simp only [imS, prQ, List.map_cons, List.map_nil, hI1, hI2, errL, e1, e2]; simp
 by_cases h3 : inR (prQ k a b c v r x) [w0, w1, w2]
 ·rw [hldS, if_neg (fun h => h hrd), if_neg (fun h => h h3), him, if_neg (fun h => h rfl)]
  refine congrArg (fun b => (b, (0 : Int))) (decide_eq_decide.2 ?_)
  simp [prQ, hin.1 h3]
 ·rw [hldS, if_neg (fun h => h hrd), if_pos h3, decide_eq_false (fun h => h3 (hin.2 h.1))]
end Go.Proofs.YtnimhldbblfgbaaGreat
