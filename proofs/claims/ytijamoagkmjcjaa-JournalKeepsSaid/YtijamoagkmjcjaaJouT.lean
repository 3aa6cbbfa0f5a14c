/-
  The journal's plain laws: what is written is read again, a record that is cut off is not read.
-/
import Derived.Test.YtijamoagkmjcjaaJou9
namespace Go.Proofs.Ytijamoagkmjcjaa
set_option linter.unusedSimpArgs false
set_option linter.unusedVariables false
set_option maxRecDepth 20000

theorem getD_app (a b : Bs) (i : Nat) : (a ++ b).getD (a.length + i) default = b.getD i default := by
  rw [List.getD_eq_getElem?_getD, List.getD_eq_getElem?_getD, List.getElem?_append_right (by omega)]; congr 2; omega
theorem drop_app (a b : Bs) (i : Nat) : (a ++ b).drop (a.length + i) = b.drop i := by
  rw [List.drop_append, List.drop_eq_nil_of_le (by omega), List.nil_append]; congr 1; omega
theorem getD_app0 (a b : Bs) : (a ++ b).getD a.length default = b.getD 0 default := getD_app a b 0
theorem itO_err (d : Bs) : ∀ (f p : Nat) (s : OS), (itJ d afterO stopO f p s).2.isSome = true → (itJ d afterO stopO f p s).1.r ≠ 0
  | 0, p, s, h => by simp [itJ] at h
  | f + 1, p, s, h => by
    unfold itJ at h ⊢
    cases hn : nextJ d p with
    | none => simp [hn] at h
    | some x =>
      simp only [hn] at h ⊢
      by_cases hx : x.e ≠ 0 ∨ (stopO s x).isSome
      · rw [if_pos hx] at h ⊢
        have : errO s x ≠ 0 := fun he => by simp [stopO, he] at h
        simp only; rw [after_err this]; exact this
      · rw [if_neg hx] at h ⊢
        exact itO_err d f _ _ h
/-- a whole record is read -/
theorem nextJ_rec (b t : Bs) (k : UInt8) (c : Bs) (hk : k.toNat = 69 ∨ k.toNat = 82) (hc : c.length ≤ 16777216) :
    nextJ (b ++ (recJ k c ++ t)) b.length = some ⟨k, c, b.length, b.length + 5 + c.length + 32, 0⟩ := by
  have hr : recJ k c ++ t = k :: (four c.length ++ (c ++ (sha (headJ k c) ++ t))) := by simp [recJ, headJ, List.append_assoc]
  have hn : num4 ((b ++ (recJ k c ++ t)).drop (b.length + 1)) = c.length := by
    rw [drop_app, hr]; exact num4_four _ _ (by omega)
  have hg : (b ++ (recJ k c ++ t)).getD b.length default = k := by
    have := getD_app b (recJ k c ++ t) 0
    rw [Nat.add_zero] at this; rw [this, hr]; rfl
  have hl : (b ++ (recJ k c ++ t)).length = b.length + (c.length + 37) + t.length := by rw [List.length_append, List.length_append, recJ_len]; omega
  have hd : (b ++ (recJ k c ++ t)).drop b.length = recJ k c ++ t := by simp
  have ht : (recJ k c ++ t).take (5 + c.length) = headJ k c := by
    rw [recJ, List.append_assoc, List.take_append_of_le_length (by rw [headJ_len]; omega), List.take_of_length_le (by rw [headJ_len]; omega)]
  have hs : ((b ++ (recJ k c ++ t)).drop (b.length + 5 + c.length)).take 32 = sha (headJ k c) := by
    have h1 := drop_app b (recJ k c ++ t) (5 + c.length)
    rw [← Nat.add_assoc] at h1
    rw [h1, recJ, List.append_assoc, show 5 + c.length = (headJ k c).length + 0 by rw [headJ_len]; omega, drop_app, List.drop_zero, List.take_append_of_le_length (by rw [sha_len]; exact Nat.le_refl _), List.take_of_length_le (by rw [sha_len]; exact Nat.le_refl _)]
  have hcc : ((b ++ (recJ k c ++ t)).drop (b.length + 5)).take c.length = c := by
    have h1 := drop_app b (recJ k c ++ t) 5
    rw [h1, hr]
    show ((four c.length ++ (c ++ (sha (headJ k c) ++ t))).drop 4).take c.length = c
    have h2 := drop_app (four c.length) (c ++ (sha (headJ k c) ++ t)) 0
    rw [four_len] at h2
    rw [h2, List.drop_zero, List.take_append_of_le_length (Nat.le_refl _), List.take_of_length_le (Nat.le_refl _)]
  rw [nextJ, hn, hg, hl, hd, ht, hs, hcc, if_neg (by omega), if_neg (by omega), if_neg (by omega), if_neg (by simp)]
/-- a part of a record is not -/
theorem nextJ_part (b : Bs) (k : UInt8) (c : Bs) (m : Nat) (hk : k.toNat = 69 ∨ k.toNat = 82) (hc : c.length ≤ 16777216) (hm : m < (recJ k c).length) :
    nextJ (b ++ (recJ k c).take m) b.length = none := by
  rw [recJ_len] at hm
  have hl : (b ++ (recJ k c).take m).length = b.length + m := by rw [List.length_append, List.length_take, recJ_len]; congr 1; exact Nat.min_eq_left (by omega)
  by_cases h5 : m < 5
  · rw [nextJ, if_pos (by omega)]
  · have hr : recJ k c = k :: (four c.length ++ (c ++ sha (headJ k c))) := by simp [recJ, headJ, List.append_assoc]
    obtain ⟨q, rfl⟩ : ∃ q, m = q + 5 := ⟨m - 5, by omega⟩
    have ht : (recJ k c).take (q + 5) = k :: (four c.length ++ ((c ++ sha (headJ k c)).take q)) := by rw [hr]; rfl
    have hn : num4 ((b ++ (recJ k c).take (q + 5)).drop (b.length + 1)) = c.length := by
      rw [drop_app, ht]; exact num4_four _ _ (by omega)
    have hg : (b ++ (recJ k c).take (q + 5)).getD b.length default = k := by
      rw [getD_app0, ht]; rfl
    rw [nextJ, hn, hg, hl, if_neg (by omega), if_neg (by omega), if_pos (by omega)]
theorem nextJ_end (b : Bs) : nextJ b b.length = none := by rw [nextJ, if_pos (by omega)]

/-- a content that is read whole: its entries, and where they begin -/
def RunG (b : Bs) (out : List Bs) (fr : Nat) : Prop :=
  fr ≤ b.length ∧ ∀ t, itJ (b ++ t) afterO stopO ((b ++ t).length + 1) 0 ⟨[], 0, 0, 0⟩ = itJ (b ++ t) afterO stopO ((b ++ t).length + 1 - b.length) b.length ⟨out, fr, b.length, 0⟩
theorem run_nil : RunG [] [] 0 := ⟨Nat.le_refl _, fun t => rfl⟩
theorem run_step {b : Bs} {out : List Bs} {fr : Nat} (k : UInt8) (c : Bs) (hk : k.toNat = 69 ∨ k.toNat = 82) (hc : c.length ≤ 16777216) (h : RunG b out fr) (hd : b.length + c.length + 37 ≤ 100000000)
    {out' : List Bs} {fr' : Nat} (he : errO ⟨out, fr, b.length, 0⟩ ⟨k, c, b.length, b.length + 5 + c.length + 32, 0⟩ = 0)
    (ha : afterO ⟨out, fr, b.length, 0⟩ ⟨k, c, b.length, b.length + 5 + c.length + 32, 0⟩ = ⟨out', fr', b.length + 5 + c.length + 32, 0⟩) (hf : fr' ≤ b.length) : RunG (b ++ recJ k c) out' fr' := by
  have hl : (b ++ recJ k c).length = b.length + 5 + c.length + 32 := by rw [List.length_append, recJ_len]; omega
  refine ⟨by omega, fun t => ?_⟩
  have h1 := h.2 (recJ k c ++ t)
  rw [← List.append_assoc] at h1
  rw [h1]
  have hx := nextJ_rec b t k c hk hc
  rw [← List.append_assoc] at hx
  have hp : b.length ≤ (b ++ recJ k c ++ t).length := by rw [List.append_assoc, List.length_append]; omega
  have hs : stopO ⟨out, fr, b.length, 0⟩ ⟨k, c, b.length, b.length + 5 + c.length + 32, 0⟩ = none := by rw [stopO, he]; rfl
  rw [it_next hp hx rfl hs, ha, hl]
theorem run_E {b : Bs} {out : List Bs} {fr : Nat} (c : Bs) (h : RunG b out fr) (hc : c.length ≤ 65536) (ho : out.length + 1 ≤ 4096) (hd : b.length + c.length + 37 ≤ 100000000) : RunG (b ++ recJ 69 c) (out ++ [c]) fr :=
  run_step 69 c (.inl rfl) (by omega) h hd (by rw [errO, if_neg (by simp), if_pos (by rfl), if_neg (by simp only; omega), if_neg (by simp only; omega)])
    (by rw [afterO, if_neg (by simp), if_pos (by rfl), if_neg (by simp only; omega), if_neg (by simp only; omega)]) h.1
theorem run_R {b : Bs} {out : List Bs} {fr : Nat} (c : Bs) (h : RunG b out fr) (hc : c.length ≤ 16777216) (hu : (unl c).2 = true) (hd : b.length + c.length + 37 ≤ 100000000) : RunG (b ++ recJ 82 c) (unl c).1 b.length :=
  run_step 82 c (.inr rfl) hc h hd (by rw [errO, if_neg (by simp), if_neg (by show ¬ ((82 : UInt8).toNat = 69); decide), if_neg (by simp [hu])])
    (by rw [afterO, if_neg (by simp), if_neg (by show ¬ ((82 : UInt8).toNat = 69); decide), if_neg (by simp [hu])]) (Nat.le_refl _)
theorem run_opn {b t : Bs} {out : List Bs} {fr : Nat} {cr : Bool} (h : RunG b out fr) (ht : nextJ (b ++ t) b.length = none) : opn ⟨b ++ t, [], cr⟩ = (out, ⟨b.drop fr, [], false⟩, 0) := by
  have h1 := h.2 t
  have h2 : openS (b ++ t) = (⟨out, fr, b.length, 0⟩, none) := by
    rw [openS, h1, it_none (by rw [List.length_append]; omega) ht]
  rw [opn, if_neg (by simp), h2, if_neg (by simp)]
  simp only [Prod.mk.injEq, Dk.mk.injEq, and_true, true_and]
  have hf := h.1
  rw [List.drop_append, List.take_append_of_le_length (by rw [List.length_drop]; exact Nat.le_refl _), List.take_of_length_le (by rw [List.length_drop]; exact Nat.le_refl _)]

/-- lists of entries -/
theorem unlF_list : ∀ (l acc : List Bs) (f : Nat), (∀ s ∈ l, s.length ≤ 65536) → acc.length + l.length ≤ 4096 → (listJ l).length < f → unlF f (listJ l) acc = (acc ++ l, true)
  | [], acc, 0, _, _, h => by omega
  | [], acc, f + 1, _, _, _ => by simp [listJ, unlF]
  | s :: l, acc, 0, _, _, h => by omega
  | s :: l, acc, f + 1, hs, ha, hf => by
    have hj : listJ (s :: l) = four s.length ++ (s ++ listJ l) := by simp [listJ, List.flatMap_cons, List.append_assoc]
    have hs0 := hs s (List.mem_cons_self)
    have hn : num4 (listJ (s :: l)) = s.length := by rw [hj]; exact num4_four _ _ (by omega)
    have hl : (listJ (s :: l)).length = 4 + s.length + (listJ l).length := by rw [hj, List.length_append, List.length_append, four_len]; omega
    have h4 : (listJ (s :: l)).drop 4 = s ++ listJ l := by
      have := drop_app (four s.length) (s ++ listJ l) 0
      rw [four_len] at this; rw [hj]; simpa using this
    have h5 : (listJ (s :: l)).drop (4 + s.length) = listJ l := by
      rw [← List.drop_drop, h4]; simp
    have hne : listJ (s :: l) ≠ [] := by intro h; have := congrArg List.length h; rw [hl] at this; simp at this
    rw [List.length_cons] at ha
    rw [unlF, if_neg hne, hn, if_neg (by omega), h5, h4, List.take_append_of_le_length (Nat.le_refl _), List.take_of_length_le (Nat.le_refl _),
      unlF_list l (acc ++ [s]) f (fun x hx => hs x (List.mem_cons_of_mem _ hx)) (by simp; omega) (by omega)]
    simp
theorem unl_list (l : List Bs) (hs : ∀ s ∈ l, s.length ≤ 65536) (hl : l.length ≤ 4096) : unl (listJ l) = (l, true) := by
  rw [unl, unlF_list l [] _ hs (by simpa using hl) (by omega)]; simp
theorem unlF_count : ∀ (f : Nat) (s : Bs) (acc : List Bs), (unlF f s acc).1.length * 4 ≤ acc.length * 4 + s.length
  | 0, s, acc => by simp [unlF]
  | f + 1, s, acc => by
    unfold unlF
    split
    · simp
    · split
      · simp
      · rename_i h1 h2
        have := unlF_count f (s.drop (4 + num4 s)) (acc ++ [(s.drop 4).take (num4 s)])
        rw [List.length_append, List.length_drop] at this
        simp only [List.length_cons, List.length_nil] at this
        have h3 : 4 + num4 s ≤ s.length := by omega
        have h4 : s.length - (4 + num4 s) + 4 ≤ s.length := by omega
        omega
theorem unl_count (s : Bs) : (unl s).1.length * 4 ≤ s.length := by have := unlF_count (s.length + 1) s []; simpa [unl] using this

/-- what is read is a record -/
theorem four_num4 (b0 b1 b2 b3 : UInt8) (t : Bs) : four (num4 (b0 :: b1 :: b2 :: b3 :: t)) = [b0, b1, b2, b3] := by
  have h0 := b0.toNat_lt; have h1 := b1.toNat_lt; have h2 := b2.toNat_lt; have h3 := b3.toNat_lt
  simp only [num4, four, List.getD_cons_zero, List.getD_cons_succ]
  have e : ∀ (x y : UInt8), x.toNat = y.toNat → x = y := fun x y h => UInt8.toNat_inj.1 h
  congr 1
  · apply e; rw [UInt8.toNat_ofNat']; omega
  · congr 1
    · apply e; rw [UInt8.toNat_ofNat']; omega
    · congr 1
      · apply e; rw [UInt8.toNat_ofNat']; omega
      · congr 1
        apply e; rw [UInt8.toNat_ofNat']; omega
theorem nextJ_inv {d : Bs} {p : Nat} {x : It} (h : nextJ d p = some x) (he : x.e = 0) :
    (x.k.toNat = 69 ∨ x.k.toNat = 82) ∧ x.c.length ≤ 16777216 ∧ x.fr = p ∧ x.to = p + 5 + x.c.length + 32 ∧ x.to ≤ d.length ∧ (d.drop p).take (37 + x.c.length) = recJ x.k x.c := by
  obtain ⟨n, hn⟩ : ∃ n, n = num4 (d.drop (p + 1)) := ⟨_, rfl⟩
  rw [nextJ, ← hn] at h
  by_cases c1 : d.length < p + 5
  · rw [if_pos c1] at h; cases h
  rw [if_neg c1] at h
  by_cases c2 : ((d.getD p default).toNat ≠ 69 ∧ (d.getD p default).toNat ≠ 82) ∨ 16777216 < n
  · rw [if_pos c2] at h; injection h with h; subst h; simp at he
  rw [if_neg c2] at h
  by_cases c3 : d.length < p + 37 + n
  · rw [if_pos c3] at h; cases h
  rw [if_neg c3] at h
  by_cases c4 : sha ((d.drop p).take (5 + n)) ≠ (d.drop (p + 5 + n)).take 32
  · rw [if_pos c4] at h; injection h with h; subst h; simp at he
  rw [if_neg c4] at h
  injection h with h; subst h
  have hcl : ((d.drop (p + 5)).take n).length = n := by rw [List.length_take, List.length_drop]; exact Nat.min_eq_left (by omega)
  simp only [hcl]
  refine ⟨by omega, by omega, trivial, trivial, by omega, ?_⟩
  obtain ⟨e0, e1⟩ : ∃ y, d.drop p = d.getD p default :: y ∧ y = d.drop (p + 1) := ⟨d.drop (p + 1), by rw [List.drop_eq_getElem_cons (by omega), List.getD_eq_getElem?_getD, List.getElem?_eq_getElem (by omega)]; rfl, rfl⟩
  obtain ⟨b0, b1, b2, b3, y, hy⟩ : ∃ b0 b1 b2 b3 y, d.drop (p + 1) = b0 :: b1 :: b2 :: b3 :: y := by
    have hl : 4 ≤ (d.drop (p + 1)).length := by rw [List.length_drop]; omega
    match d.drop (p + 1), hl with
    | b0 :: b1 :: b2 :: b3 :: y, _ => exact ⟨b0, b1, b2, b3, y, rfl⟩
  have hy5 : y = d.drop (p + 5) := by
    have : (d.drop (p + 1)).drop 4 = d.drop (p + 5) := by rw [List.drop_drop]
    rw [hy] at this; exact this
  have hf : four n = [b0, b1, b2, b3] := by rw [hn, hy]; exact four_num4 _ _ _ _ _
  have hhd : (d.drop p).take (5 + n) = headJ (d.getD p default) ((d.drop (p + 5)).take n) := by
    rw [headJ, hcl, hf, e1.1, e1.2, hy, hy5, Nat.add_comm 5 n]; rfl
  have hdd : d.drop (p + 5 + n) = (d.drop p).drop (5 + n) := by rw [List.drop_drop]; congr 1; omega
  rw [recJ, ← hhd, Classical.not_not.1 c4, hdd]
  rw [show 37 + n = (5 + n) + 32 by omega, List.take_add]
theorem run_path (d : Bs) (hd : d.length ≤ 1000000) : ∀ (f p : Nat) (s : OS), s.to = p → s.r = 0 → s.fr ≤ p → p ≤ d.length → s.out.length * 4 ≤ p → RunG ((d.take p).drop s.fr) s.out 0 → (itJ d afterO stopO f p s).2 = none →
    (itJ d afterO stopO f p s).1.r = 0 ∧ (itJ d afterO stopO f p s).1.fr ≤ (itJ d afterO stopO f p s).1.to ∧ (itJ d afterO stopO f p s).1.to ≤ d.length ∧ (itJ d afterO stopO f p s).1.out.length * 4 ≤ (itJ d afterO stopO f p s).1.to ∧
    RunG ((d.take (itJ d afterO stopO f p s).1.to).drop (itJ d afterO stopO f p s).1.fr) (itJ d afterO stopO f p s).1.out 0
  | 0, p, s, h1, h2, h3, h4, h5, h6, _ => by subst h1; exact ⟨h2, h3, h4, h5, h6⟩
  | f + 1, p, s, h1, h2, h3, h4, h5, h6, h => by
    unfold itJ at h ⊢
    cases hn : nextJ d p with
    | none => subst h1; exact ⟨h2, h3, h4, h5, h6⟩
    | some x =>
      simp only [hn] at h ⊢
      by_cases hx : x.e ≠ 0 ∨ (stopO s x).isSome
      · rw [if_pos hx] at h ⊢
        exfalso
        simp only [stopO] at h hx
        rcases hx with hx | hx
        · simp [errO, hx] at h
        · rw [h] at hx; simp at hx
      · rw [if_neg hx] at h ⊢
        have he : x.e = 0 := by simp at hx; exact hx.1
        have hs : errO s x = 0 := by
          have : stopO s x = none := by simp at hx; exact hx.2
          simpa [stopO] using this
        obtain ⟨i1, i2, i3, i4, i5, i6⟩ := nextJ_inv hn he
        have hcut : d.take x.to = d.take p ++ recJ x.k x.c := by
          rw [← i6, i4, show p + 5 + x.c.length + 32 = p + (37 + x.c.length) by omega, List.take_add]
        have hpl : (d.take p).length = p := by rw [List.length_take]; exact Nat.min_eq_left h4
        have key : (afterO s x).to = x.to ∧ (afterO s x).r = 0 ∧ (afterO s x).fr ≤ x.to ∧ (afterO s x).out.length * 4 ≤ x.to ∧ RunG ((d.take x.to).drop (afterO s x).fr) (afterO s x).out 0 := by
          have hs' := hs
          unfold errO at hs'; unfold afterO
          rw [if_neg (by simp [he])] at hs' ⊢
          by_cases h69 : x.k.toNat = 69
          · rw [if_pos h69] at hs' ⊢
            have hk : x.k = 69 := UInt8.toNat_inj.1 h69
            by_cases h5' : 65536 < x.c.length
            · rw [if_pos h5'] at hs'; cases hs'
            · rw [if_neg h5'] at hs' ⊢
              by_cases h6' : 4096 < s.out.length + 1
              · rw [if_pos h6'] at hs'; cases hs'
              · rw [if_neg h6']
                refine ⟨rfl, h2, by simp only; omega, by simp; omega, ?_⟩
                simp only
                rw [hcut, List.drop_append_of_le_length (by omega), hk]
                exact run_E x.c h6 (by omega) (by omega) (by rw [List.length_drop]; omega)
          · rw [if_neg h69] at hs' ⊢
            have hk : x.k = 82 := UInt8.toNat_inj.1 (by have : (82 : UInt8).toNat = 82 := rfl; omega)
            by_cases h5' : (unl x.c).2 = false
            · rw [if_pos h5'] at hs'; cases hs'
            · rw [if_neg h5']
              have hu := unl_count x.c
              refine ⟨rfl, h2, by simp only; omega, by simp only; omega, ?_⟩
              simp only
              have e1 : (d.take x.to).drop x.fr = [] ++ recJ 82 x.c := by
                rw [hcut, i3, hk]
                have := drop_app (d.take p) (recJ 82 x.c) 0
                rw [hpl] at this; simpa using this
              rw [e1]
              exact run_R x.c run_nil (by omega) (by simpa using h5') (by simp; omega)
        exact run_path d hd f x.to (afterO s x) key.1 key.2.1 key.2.2.1 i5 key.2.2.2.1 key.2.2.2.2 h
/-- what Open returns can be opened again -/
theorem opn_run {d : Dk} (hd : d.safe.length ≤ 1000000) (h : (opn d).2.2 = 0) :
    RunG (opn d).2.1.safe (opn d).1 0 ∧ (opn d).2.1.pend = [] ∧ (opn d).2.1.crash = false ∧ (opn d).1.length * 4 ≤ d.safe.length ∧ (opn d).2.1.safe.length ≤ d.safe.length := by
  by_cases h0 : d.pend = []
  · rw [opn, if_neg (by simp [h0])] at h ⊢
    by_cases h1 : (openS d.safe).2.isSome
    · exfalso
      rw [if_pos h1] at h
      exact itO_err d.safe _ _ _ h1 h
    · rw [if_neg h1]
      have h2 : (openS d.safe).2 = none := by simpa using h1
      obtain ⟨k1, k2, k3, k4, k5⟩ := run_path d.safe hd (d.safe.length + 1) 0 ⟨[], 0, 0, 0⟩ rfl rfl (Nat.le_refl _) (Nat.zero_le _) (by simp) (by simpa using run_nil) h2
      change (openS d.safe).1.fr ≤ (openS d.safe).1.to at k2
      change (openS d.safe).1.to ≤ d.safe.length at k3
      change (openS d.safe).1.out.length * 4 ≤ (openS d.safe).1.to at k4
      change RunG ((d.safe.take (openS d.safe).1.to).drop (openS d.safe).1.fr) (openS d.safe).1.out 0 at k5
      rw [List.drop_take] at k5
      exact ⟨k5, rfl, rfl, by simp only; omega, by simp only; rw [List.length_take, List.length_drop]; omega⟩
  · rw [opn, if_pos h0] at h; cases h
end Go.Proofs.Ytijamoagkmjcjaa
