/-
  Hash trees, plain: what the laws on paths need.
-/
import Derived.Test.YtenjafedpcpoaaaMer5
namespace Go.Proofs.Ytenjafedpcpoaaa
set_option linter.unusedSimpArgs false
set_option linter.unusedVariables false

/-- only one length is right -/
theorem climb_unique : ∀ (r r' : List Bs) (h h' : Bs) (n i : Nat), (climb h n i r).2 = true → (climb h' n i r').2 = true → r.length = r'.length := by
  intro r
  induction r with
  | nil =>
    intro r' h h' n i h1 h2
    simp only [climb, decide_eq_true_eq] at h1
    subst h1
    cases r' with
    | nil => rfl
    | cons x r' => simp [climb] at h2
  | cons x r ih =>
    intro r' h h' n i h1 h2
    cases r' with
    | nil => simp only [climb, decide_eq_true_eq] at h2; subst h2; simp [climb] at h1
    | cons y r' =>
      simp only [climb] at h1 h2
      by_cases hn : n = 1
      · rw [if_pos hn] at h1; cases h1
      rw [if_neg hn] at h1 h2
      by_cases hi : i < half n
      · rw [if_pos hi] at h1 h2
        simp only [List.length_cons]; rw [ih r' h h' _ _ h1 h2]
      · rw [if_neg hi] at h1 h2
        simp only [List.length_cons]; rw [ih r' h h' _ _ h1 h2]

theorem climb_path (l : List Bs) (i : Nat) (s : Bs) (hl : l.length ≤ 1000000) (hs : l[i]? = some s) : climb (leafH s) l.length i (path l i).reverse = (root l, true) := by
  have key : ∀ n (l : List Bs) i, l.length = n → l.length ≤ 1000000 → l[i]? = some s → climb (leafH s) l.length i (path l i).reverse = (root l, true) := by
    intro n
    induction n using Nat.strongRecOn with
    | _ n ih =>
      intro l i hn hl hs
      have hi := (List.getElem?_eq_some_iff.1 hs).1
      by_cases h1 : l.length ≤ 1
      · obtain ⟨x, rfl⟩ := List.length_eq_one_iff.1 (show l.length = 1 by omega)
        obtain rfl : i = 0 := by simpa using hi
        simp at hs; subst hs
        rw [path_one _ _ (by simp), root_one]; rfl
      have hh := half_spec l.length (by omega) (by omega)
      by_cases hk : i < half l.length
      · rw [path_lt l i (by omega) hl hk, List.reverse_append, root_two l (by omega) hl]
        simp only [List.reverse_cons, List.reverse_nil, List.nil_append, List.cons_append, climb]
        rw [if_neg (by omega), if_pos hk]
        have h2 := ih (l.take (half l.length)).length (by simp; omega) (l.take (half l.length)) i rfl (by simp; omega) (by rw [List.getElem?_take_of_lt hk]; exact hs)
        rw [show (l.take (half l.length)).length = half l.length by simp; omega] at h2
        rw [h2]
      · rw [path_ge l i (by omega) hl (by omega), List.reverse_append, root_two l (by omega) hl]
        simp only [List.reverse_cons, List.reverse_nil, List.nil_append, List.cons_append, climb]
        rw [if_neg (by omega), if_neg hk]
        have h2 := ih (l.drop (half l.length)).length (by simp; omega) (l.drop (half l.length)) (i - half l.length) rfl (by simp; omega) (by rw [List.getElem?_drop]; rw [show half l.length + (i - half l.length) = i by omega]; exact hs)
        rw [show (l.drop (half l.length)).length = l.length - half l.length by simp] at h2
        rw [h2]
  exact key _ l i rfl hl hs

theorem incl_path (l : List Bs) (i : Nat) (s : Bs) (hl : l.length ≤ 1000000) (hs : l[i]? = some s) : inclB (root l) l.length i s (path l i) = true := by
  have hi := (List.getElem?_eq_some_iff.1 hs).1
  rw [inclB, Int.toNat_natCast, Int.toNat_natCast, climb_path l i s hl hs]
  simp; omega
theorem incl_other (l : List Bs) (i : Nat) (s : Bs) (p : List Bs) (hl : l.length ≤ 1000000) (hs : l[i]? = some s) (hp : p.length ≠ (path l i).length) : inclB (root l) l.length i s p = false := by
  cases h : inclB (root l) l.length i s p with
  | false => rfl
  | true =>
    exfalso
    rw [inclB, Int.toNat_natCast, Int.toNat_natCast] at h
    simp only [Bool.and_eq_true] at h
    have h1 := climb_unique _ _ _ _ _ _ h.2.1 (by rw [climb_path l i s hl hs] : (climb (leafH s) l.length i (path l i).reverse).2 = true)
    rw [List.length_reverse, List.length_reverse] at h1
    exact hp h1

/-! the strings that are hashed on the way -/
def leftsF : Nat → Nat → Nat → List Bool
  | 0, _, _ => []
  | f + 1, n, i => if n ≤ 1 then [] else if i < half n then true :: leftsF f (half n) i else false :: leftsF f (n - half n) (i - half n)
def lefts (n i : Nat) : List Bool := leftsF n n i
theorem leftsF_lefts (f n i : Nat) (h : n ≤ f) (h2 : n ≤ 4611686018427387904) : leftsF f n i = lefts n i := by
  have key : ∀ k f g n i, n ≤ k → n ≤ f → n ≤ g → n ≤ 4611686018427387904 → leftsF f n i = leftsF g n i := by
    intro k
    induction k with
    | zero => intro f g n i h1 h2 h3 h4; cases f <;> cases g <;> simp only [leftsF] <;> (try rw [if_pos (by omega)]) <;> (try rw [if_pos (by omega)])
    | succ k ih =>
      intro f g n i h1 h2 h3 h4
      by_cases h0 : n ≤ 1
      · cases f <;> cases g <;> simp only [leftsF] <;> (try rw [if_pos h0]) <;> (try rw [if_pos h0])
      cases f with
      | zero => omega
      | succ f =>
        cases g with
        | zero => omega
        | succ g =>
          have hh := half_spec n (by omega) (by omega)
          simp only [leftsF, if_neg h0]
          rw [ih f g (half n) _ (by omega) (by omega) (by omega) (by omega), ih f g (n - half n) _ (by omega) (by omega) (by omega) (by omega)]
  exact key n f n n i (Nat.le_refl _) h (Nat.le_refl _) h2
theorem lefts_one (n i : Nat) (h : n ≤ 1) : lefts n i = [] := by
  rw [lefts]; cases n with
  | zero => rfl
  | succ n => simp only [leftsF]; rw [if_pos h]
theorem lefts_lt (n i : Nat) (h : 2 ≤ n) (h2 : n ≤ 4611686018427387904) (hi : i < half n) : lefts n i = true :: lefts (half n) i := by
  have hh := half_spec n h h2
  obtain ⟨f, rfl⟩ : ∃ f, n = f + 1 := ⟨n - 1, by omega⟩
  rw [lefts]; simp only [leftsF]
  rw [if_neg (by omega), if_pos hi, leftsF_lefts f _ _ (by omega) (by omega)]
theorem lefts_ge (n i : Nat) (h : 2 ≤ n) (h2 : n ≤ 4611686018427387904) (hi : half n ≤ i) : lefts n i = false :: lefts (n - half n) (i - half n) := by
  have hh := half_spec n h h2
  obtain ⟨f, rfl⟩ : ∃ f, n = f + 1 := ⟨n - 1, by omega⟩
  rw [lefts]; simp only [leftsF]
  rw [if_neg (by omega), if_neg (by omega), leftsF_lefts f _ _ (by omega) (by omega)]

/-- the next string -/
def up (s : Bs) (z : Bool × Bs) : Bs := if z.1 then 1 :: (sha s ++ z.2) else 1 :: (z.2 ++ sha s)
def inps : Bs → List (Bool × Bs) → List Bs
  | s, [] => [s]
  | s, z :: zs => s :: inps (up s z) zs
theorem inps_len : ∀ (zs : List (Bool × Bs)) (s : Bs), (inps s zs).length = zs.length + 1 := by
  intro zs; induction zs with
  | nil => intro s; rfl
  | cons z zs ih => intro s; simp [inps, ih]
theorem inps_head (zs : List (Bool × Bs)) (s : Bs) : (inps s zs)[0]? = some s := by cases zs <;> rfl
theorem inps_snoc : ∀ (zs : List (Bool × Bs)) (s : Bs) (z : Bool × Bs), inps s (zs ++ [z]) = inps s zs ++ [up (zs.foldl up s) z] := by
  intro zs; induction zs with
  | nil => intro s z; rfl
  | cons y zs ih => intro s z; simp [inps, ih]
theorem inps_last : ∀ (zs : List (Bool × Bs)) (s : Bs), (inps s zs)[zs.length]? = some (zs.foldl up s) := by
  intro zs; induction zs with
  | nil => intro s; rfl
  | cons y zs ih => intro s; simp [inps, ih]
theorem inps_link : ∀ (zs zs' : List (Bool × Bs)) (s s' : Bs) (j : Nat) (x y x' : Bs), zs.map (·.1) = zs'.map (·.1) → (inps s zs)[j]? = some x → (inps s' zs')[j]? = some x' → (inps s zs)[j + 1]? = some y → (inps s' zs')[j + 1]? = some y → sha x = sha x' := by
  intro zs
  induction zs with
  | nil => intro zs' s s' j x y x' h h1 h2 h3 h4; simp [inps] at h3
  | cons z zs ih =>
    intro zs' s s' j x y x' h h1 h2 h3 h4
    cases zs' with
    | nil => simp [inps] at h4
    | cons z' zs' =>
      simp only [List.map_cons, List.cons.injEq] at h
      cases j with
      | zero =>
        simp only [inps, List.getElem?_cons_zero, List.getElem?_cons_succ, Option.some.injEq] at h1 h2 h3 h4
        rw [inps_head] at h3 h4
        subst h1 h2
        have h5 : up s z = up s' z' := by rw [Option.some.inj h3, Option.some.inj h4]
        unfold up at h5
        rw [h.1] at h5
        split at h5
        · exact (List.append_inj (List.cons.inj h5).2 (by rw [sha_len, sha_len])).1
        · exact (List.append_inj' (List.cons.inj h5).2 (by rw [sha_len, sha_len])).2
      | succ j =>
        simp only [inps, List.getElem?_cons_succ] at h1 h2 h3 h4
        exact ih zs' _ _ j x y x' h.2 h1 h2 h3 h4

def ways (n i : Nat) (p : List Bs) : List (Bool × Bs) := (lefts n i).reverse.zip p
theorem climb_ways (s : Bs) : ∀ (k : Nat) (p : List Bs) (n i : Nat), p.length = k → 0 < n → n ≤ 4611686018427387904 → (climb (leafH s) n i p.reverse).2 = true → (lefts n i).length = p.length ∧ (climb (leafH s) n i p.reverse).1 = sha ((ways n i p).foldl up (0 :: s)) := by
  intro k
  induction k with
  | zero =>
    intro p n i hp h0 hn h
    obtain rfl := List.eq_nil_of_length_eq_zero hp
    simp only [List.reverse_nil, climb, decide_eq_true_eq] at h
    subst h
    rw [ways, lefts_one _ _ (by omega)]
    exact ⟨rfl, rfl⟩
  | succ k ih =>
    intro p n i hp h0 hn h
    obtain ⟨q, x, rfl⟩ := snoc_of p (by omega)
    have hq : q.length = k := by simpa using hp
    simp only [List.reverse_append, List.reverse_cons, List.reverse_nil, List.nil_append, List.cons_append, climb] at h ⊢
    by_cases h1 : n = 1
    · rw [if_pos h1] at h; cases h
    rw [if_neg h1] at h ⊢
    have hh := half_spec n (by omega) hn
    by_cases hi : i < half n
    · rw [if_pos hi] at h ⊢
      obtain ⟨e1, e2⟩ := ih q (half n) i hq (by omega) (by omega) h
      have hl := lefts_lt n i (by omega) hn hi
      refine ⟨by rw [hl]; simp [e1], ?_⟩
      show nodeH _ _ = _
      rw [ways, hl, List.reverse_cons, List.zip_append (by simp [e1]), List.foldl_append, e2]
      rfl
    · rw [if_neg hi] at h ⊢
      obtain ⟨e1, e2⟩ := ih q (n - half n) (i - half n) hq (by omega) (by omega) h
      have hl := lefts_ge n i (by omega) hn (by omega)
      refine ⟨by rw [hl]; simp [e1], ?_⟩
      show nodeH _ _ = _
      rw [ways, hl, List.reverse_cons, List.zip_append (by simp [e1]), List.foldl_append, e2]
      rfl
theorem ways_fst (n i : Nat) (p : List Bs) (h : (lefts n i).length = p.length) : (ways n i p).map (·.1) = (lefts n i).reverse := by
  rw [ways, List.map_fst_zip]; simp [h]
theorem ways_len (n i : Nat) (p : List Bs) (h : (lefts n i).length = p.length) : (ways n i p).length = p.length := by rw [ways, List.length_zip]; simp [h]
end Go.Proofs.Ytenjafedpcpoaaa
