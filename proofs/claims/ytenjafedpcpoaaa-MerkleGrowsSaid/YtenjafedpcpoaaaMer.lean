/-
  Hash trees: the plain definitions and what holds of them.
-/
import Derived.Test.YtenjafedpcpoaaaSha
namespace Go.Proofs.Ytenjafedpcpoaaa
set_option linter.unusedSimpArgs false
set_option linter.unusedVariables false

abbrev Bs := List UInt8

def halfF : Nat → Nat → Nat → Nat
  | 0, _, k => k
  | f + 1, n, k => if 2 * k < n then halfF f n (2 * k) else k
def half (n : Nat) : Nat := halfF 62 n 1

theorem halfF_spec : ∀ f n k, 0 < k → k < n → n ≤ 2 ^ (f + 1) * k → 0 < halfF f n k ∧ halfF f n k < n ∧ n ≤ 2 * halfF f n k := by
  intro f
  induction f with
  | zero => intro n k h0 h1 h2; simp only [halfF]; omega
  | succ f ih =>
    intro n k h0 h1 h2
    simp only [halfF]
    split
    · refine ih n (2 * k) (by omega) (by assumption) ?_
      rw [Nat.pow_succ, Nat.mul_assoc] at h2
      exact h2
    · omega
theorem half_spec (n : Nat) (h : 2 ≤ n) (hn : n ≤ 4611686018427387904) : 0 < half n ∧ half n < n ∧ n ≤ 2 * half n := halfF_spec 62 n 1 (by omega) (by omega) (by omega)
theorem halfF_stop (f n k : Nat) (h : n ≤ 2 * k) : halfF f n k = k := by
  cases f with
  | zero => rfl
  | succ f => simp only [halfF]; rw [if_neg (by omega)]
/-- after j turns -/
theorem halfF_turn (f n k : Nat) (h : 2 * k < n) : halfF (f + 1) n k = halfF f n (2 * k) := by simp only [halfF]; rw [if_pos h]
/-- the fuel does not matter as long as it lasts -/
theorem halfF_fuel : ∀ f g n k, n ≤ 2 ^ (f + 1) * k → n ≤ 2 ^ (g + 1) * k → halfF f n k = halfF g n k := by
  intro f
  induction f with
  | zero => intro g n k h1 h2; rw [halfF_stop g n k (by omega)]; rfl
  | succ f ih =>
    intro g n k h1 h2
    by_cases hk : 2 * k < n
    · cases g with
      | zero => omega
      | succ g =>
        rw [halfF_turn _ _ _ hk, halfF_turn _ _ _ hk]
        rw [Nat.pow_succ, Nat.mul_assoc] at h1 h2
        exact ih g n (2 * k) h1 h2
    · rw [halfF_stop _ _ _ (by omega), halfF_stop _ _ _ (by omega)]

def leafH (s : Bs) : Bs := sha (0 :: s)
def nodeH (a b : Bs) : Bs := sha (1 :: (a ++ b))

def rootF : Nat → List Bs → Bs
  | 0, _ => sha []
  | f + 1, l => if l.length = 0 then sha [] else if l.length = 1 then leafH (l.headD []) else nodeH (rootF f (l.take (half l.length))) (rootF f (l.drop (half l.length)))
def root (l : List Bs) : Bs := rootF l.length l

theorem rootF_root : ∀ f l, l.length ≤ f → l.length ≤ 1000000 → rootF f l = root l := by
  have key : ∀ n f g l, l.length ≤ n → l.length ≤ f → l.length ≤ g → l.length ≤ 1000000 → rootF f l = rootF g l := by
    intro n
    induction n with
    | zero =>
      intro f g l h1 h2 h3 h4
      have : l = [] := List.eq_nil_of_length_eq_zero (by omega)
      subst this
      cases f <;> cases g <;> simp [rootF]
    | succ n ih =>
      intro f g l h1 h2 h3 h4
      by_cases h0 : l.length = 0
      · have : l = [] := List.eq_nil_of_length_eq_zero h0
        subst this
        cases f <;> cases g <;> simp [rootF]
      cases f with
      | zero => omega
      | succ f =>
        cases g with
        | zero => omega
        | succ g =>
          simp only [rootF, if_neg h0]
          by_cases hl1 : l.length = 1
          · rw [if_pos hl1, if_pos hl1]
          rw [if_neg hl1, if_neg hl1]
          have hh := half_spec l.length (by omega) (by omega)
          rw [ih f g (l.take (half l.length)) (by simp; omega) (by simp; omega) (by simp; omega) (by simp; omega),
            ih f g (l.drop (half l.length)) (by simp; omega) (by simp; omega) (by simp; omega) (by simp; omega)]
  intro f l h h2
  exact key l.length f l.length l (Nat.le_refl _) h (Nat.le_refl _) h2
theorem root_nil : root [] = sha [] := rfl
theorem root_one (s : Bs) : root [s] = leafH s := rfl
theorem root_two (l : List Bs) (h : 2 ≤ l.length) (hl : l.length ≤ 1000000) : root l = nodeH (root (l.take (half l.length))) (root (l.drop (half l.length))) := by
  have hh := half_spec l.length h (by omega)
  obtain ⟨f, hf⟩ : ∃ f, l.length = f + 1 := ⟨l.length - 1, by omega⟩
  have e : root l = rootF (f + 1) l := by rw [root, hf]
  rw [e]
  simp only [rootF]
  rw [if_neg (by omega), if_neg (by omega), rootF_root f _ (by simp; omega) (by simp; omega), rootF_root f _ (by simp; omega) (by simp; omega)]

/-! paths -/
def pathF : Nat → List Bs → Nat → List Bs
  | 0, _, _ => []
  | f + 1, l, i => if l.length ≤ 1 then [] else if i < half l.length then pathF f (l.take (half l.length)) i ++ [root (l.drop (half l.length))] else pathF f (l.drop (half l.length)) (i - half l.length) ++ [root (l.take (half l.length))]
def path (l : List Bs) (i : Nat) : List Bs := pathF l.length l i

theorem pathF_path (f : Nat) (l : List Bs) (i : Nat) (h : l.length ≤ f) (h2 : l.length ≤ 1000000) : pathF f l i = path l i := by
  have key : ∀ n f g l i, l.length ≤ n → l.length ≤ f → l.length ≤ g → l.length ≤ 1000000 → pathF f l i = pathF g l i := by
    intro n
    induction n with
    | zero =>
      intro f g l i h1 h2 h3 h4
      cases f <;> cases g <;> simp only [pathF] <;> (try rw [if_pos (by omega)]) <;> (try rw [if_pos (by omega)])
    | succ n ih =>
      intro f g l i h1 h2 h3 h4
      by_cases h0 : l.length ≤ 1
      · cases f <;> cases g <;> simp only [pathF] <;> (try rw [if_pos h0]) <;> (try rw [if_pos h0])
      cases f with
      | zero => omega
      | succ f =>
        cases g with
        | zero => omega
        | succ g =>
          have hh := half_spec l.length (by omega) (by omega)
          simp only [pathF, if_neg h0]
          rw [ih f g (l.take (half l.length)) _ (by simp; omega) (by simp; omega) (by simp; omega) (by simp; omega),
            ih f g (l.drop (half l.length)) _ (by simp; omega) (by simp; omega) (by simp; omega) (by simp; omega)]
  exact key l.length f l.length l i (Nat.le_refl _) h (Nat.le_refl _) h2
theorem path_one (l : List Bs) (i : Nat) (h : l.length ≤ 1) : path l i = [] := by
  rw [path]; cases hl : l.length with
  | zero => rfl
  | succ n => simp only [pathF]; rw [if_pos h]
theorem path_lt (l : List Bs) (i : Nat) (h : 2 ≤ l.length) (hl : l.length ≤ 1000000) (hi : i < half l.length) : path l i = path (l.take (half l.length)) i ++ [root (l.drop (half l.length))] := by
  have hh := half_spec l.length h (by omega)
  obtain ⟨f, hf⟩ : ∃ f, l.length = f + 1 := ⟨l.length - 1, by omega⟩
  have e : path l i = pathF (f + 1) l i := by rw [path, hf]
  rw [e]; simp only [pathF]
  rw [if_neg (by omega), if_pos hi, pathF_path f _ _ (by simp; omega) (by simp; omega)]
theorem path_ge (l : List Bs) (i : Nat) (h : 2 ≤ l.length) (hl : l.length ≤ 1000000) (hi : half l.length ≤ i) : path l i = path (l.drop (half l.length)) (i - half l.length) ++ [root (l.take (half l.length))] := by
  have hh := half_spec l.length h (by omega)
  obtain ⟨f, hf⟩ : ∃ f, l.length = f + 1 := ⟨l.length - 1, by omega⟩
  have e : path l i = pathF (f + 1) l i := by rw [path, hf]
  rw [e]; simp only [pathF]
  rw [if_neg (by omega), if_neg (by omega), pathF_path f _ _ (by simp; omega) (by simp; omega)]

/-! consistency proofs -/
def betwF : Nat → List Bs → Nat → Bool → List Bs
  | 0, _, _, _ => []
  | f + 1, l, m, whole => if m = l.length then (if whole then [] else [root l]) else
    if m ≤ half l.length then betwF f (l.take (half l.length)) m whole ++ [root (l.drop (half l.length))] else betwF f (l.drop (half l.length)) (m - half l.length) false ++ [root (l.take (half l.length))]
def betw (l : List Bs) (m : Nat) (whole : Bool) : List Bs := betwF l.length l m whole
theorem betwF_betw (f : Nat) (l : List Bs) (m : Nat) (wh : Bool) (h : l.length ≤ f) (h2 : l.length ≤ 1000000) (hm0 : 0 < m) (hm : m ≤ l.length) : betwF f l m wh = betw l m wh := by
  have key : ∀ n f g l m wh, l.length ≤ n → l.length ≤ f → l.length ≤ g → l.length ≤ 1000000 → 0 < m → m ≤ l.length → betwF f l m wh = betwF g l m wh := by
    intro n
    induction n with
    | zero => intro f g l m wh h1 h2 h3 h4 h5 h6; omega
    | succ n ih =>
      intro f g l m wh h1 h2 h3 h4 h5 h6
      cases f with
      | zero => omega
      | succ f =>
        cases g with
        | zero => omega
        | succ g =>
          simp only [betwF]
          by_cases h0 : m = l.length
          · rw [if_pos h0, if_pos h0]
          rw [if_neg h0, if_neg h0]
          have hh := half_spec l.length (by omega) (by omega)
          by_cases hk : m ≤ half l.length
          · rw [if_pos hk, if_pos hk, ih f g (l.take (half l.length)) _ _ (by simp; omega) (by simp; omega) (by simp; omega) (by simp; omega) h5 (by simp; omega)]
          · rw [if_neg hk, if_neg hk, ih f g (l.drop (half l.length)) _ _ (by simp; omega) (by simp; omega) (by simp; omega) (by simp; omega) (by omega) (by simp; omega)]
  exact key l.length f l.length l m wh (Nat.le_refl _) h (Nat.le_refl _) h2 hm0 hm
theorem betw_eq (l : List Bs) (m : Nat) (wh : Bool) (h2 : l.length ≤ 1000000) (hm0 : 0 < m) (hm : m ≤ l.length) : betw l m wh = if m = l.length then (if wh then [] else [root l]) else
    if m ≤ half l.length then betw (l.take (half l.length)) m wh ++ [root (l.drop (half l.length))] else betw (l.drop (half l.length)) (m - half l.length) false ++ [root (l.take (half l.length))] := by
  obtain ⟨f, hf⟩ : ∃ f, l.length = f + 1 := ⟨l.length - 1, by omega⟩
  have e : betw l m wh = betwF (f + 1) l m wh := by rw [betw, hf]
  rw [e]; simp only [betwF]
  by_cases h0 : m = l.length
  · rw [if_pos h0, if_pos h0]
  rw [if_neg h0, if_neg h0]
  have hh := half_spec l.length (by omega) (by omega)
  by_cases hk : m ≤ half l.length
  · rw [if_pos hk, if_pos hk, betwF_betw f _ _ _ (by simp; omega) (by simp; omega) hm0 (by simp; omega)]
  · rw [if_neg hk, if_neg hk, betwF_betw f _ _ _ (by simp; omega) (by simp; omega) (by omega) (by simp; omega)]
end Go.Proofs.Ytenjafedpcpoaaa
