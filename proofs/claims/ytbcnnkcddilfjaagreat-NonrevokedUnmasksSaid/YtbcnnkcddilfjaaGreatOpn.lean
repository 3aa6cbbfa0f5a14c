/-
  Opening a law's arguments: what the caller laid, as standing facts; any shape of strings, numbers, slices, structs, arrays.
-/
import Derived.Test.YtbcnnkcddilfjaaGreatOpen
import Derived.Test.YtbcnnkcddilfjaaGreatNew
namespace Go.Proofs.YtbcnnkcddilfjaaGreat
set_option linter.unusedSimpArgs false
set_option linter.unusedVariables false
open Go.ChangeShapes Go.WideShapes Go.ChangeAt Go.RowKit

/-- A slice as the caller laid it. -/
structure Sl (α : Type) where
  a : Option Addr
  l : List α
  cap : Nat
abbrev Sl.val {α : Type} (s : Sl α) : Value := .slice s.a s.l.length s.cap

section
variable {H : Type} {enc : TypeId × Value → H} {P : Program} {w : World} {spare : Nat → Bool} {held : Bool} {fuel : Nat} {t e : TypeId} {cs : List Value} {x : DataW H × List MemPlace}

theorem op_str (ht : P.underlying t = some .string) (h : DataW.trod enc P w 0 spare held fuel t cs = some x) : ∃ s : List UInt8, cs = [.string (S s)] ∧ s.length ≤ maxLen := by
  cases fuel with
  | zero => simp [DataW.trod] at h
  | succ n =>
    simp only [DataW.trod, ht] at h
    split at h <;> simp_all
    rename_i s
    exact ⟨s.data.toList, (S_data s).symm, by simpa using h.1⟩
theorem op_int {k : IntKind} (ht : P.underlying t = some (.int k)) (h : DataW.trod enc P w 0 spare held fuel t cs = some x) : ∃ n : Int, cs = [.int k n] ∧ (Lit.int k n).wf = true := by
  cases fuel with
  | zero => simp [DataW.trod] at h
  | succ n =>
    simp only [DataW.trod, ht] at h
    split at h <;> simp_all
theorem op_bool (ht : P.underlying t = some .bool) (h : DataW.trod enc P w 0 spare held fuel t cs = some x) : ∃ b : Bool, cs = [.bool b] := by
  cases fuel with
  | zero => simp [DataW.trod] at h
  | succ n =>
    simp only [DataW.trod, ht] at h
    split at h <;> simp_all

theorem mapM_all {α β : Type} {f : α → Option β} : ∀ {l : List α} {r : List β}, l.mapM f = some r → ∀ y ∈ l, ∃ z, f y = some z
  | [], _, _, y, hy => by cases hy
  | a :: l, r, h, y, hy => by
    rw [List.mapM_cons] at h
    cases hf : f a with
    | none => simp [hf] at h
    | some z =>
      cases hr : l.mapM f with
      | none => simp [hf, hr] at h
      | some r' =>
        rcases List.mem_cons.1 hy with rfl | hy
        · exact ⟨z, hf⟩
        · exact mapM_all hr y hy

theorem op_struct {fs : Array Field} (ht : P.underlying t = some (.struct fs)) (h : DataW.trod enc P w 0 spare held fuel t cs = some x) :
    cs.length = P.cellsOf t ∧ ∃ m, ∀ f ∈ fs.toList, ∃ y, DataW.trod enc P w 0 spare held m f.type ((cs.drop f.offset).take (P.cellsOf f.type)) = some y := by
  cases fuel with
  | zero => simp [DataW.trod] at h
  | succ n =>
    simp only [DataW.trod, ht] at h
    split at h
    · rename_i hl
      refine ⟨hl, n, fun f hf => ?_⟩
      obtain ⟨xs, hxs, _⟩ := Option.map_eq_some_iff.1 h
      exact mapM_all hxs f hf
    · cases h
theorem op_array {n : Nat} (ht : P.underlying t = some (.array n e)) (h : DataW.trod enc P w 0 spare held fuel t cs = some x) :
    cs.length = P.cellsOf t ∧ ∃ m, ∀ i, i < n → ∃ y, DataW.trod enc P w 0 spare held m e ((cs.drop (i * P.cellsOf e)).take (P.cellsOf e)) = some y := by
  cases fuel with
  | zero => simp [DataW.trod] at h
  | succ q =>
    simp only [DataW.trod, ht] at h
    split at h
    · rename_i hl
      refine ⟨hl, q, fun i hi => ?_⟩
      obtain ⟨xs, hxs, _⟩ := Option.map_eq_some_iff.1 h
      exact mapM_all hxs i (List.mem_range.2 hi)
    · cases h

theorem cells?_get {a : Addr} {n : Nat} {ys : List Value} (h : w.cells? 0 a n = some ys) : ys.length = n ∧ ∀ i v, ys[i]? = some v → w.cell? (a.add i) = some v := by
  unfold World.cells? at h
  simp only [Nat.zero_le, if_true] at h
  have key : ∀ (l : List Nat) (ys : List Value), (l.mapM fun i => w.cell? (a.add i)) = some ys → ys.length = l.length ∧ ∀ (i : Nat) (v : Value), ys[i]? = some v → ∃ j : Nat, l[i]? = some j ∧ w.cell? (a.add j) = some v := by
    intro l
    induction l with
    | nil => intro ys h; simp at h; subst h; simp
    | cons j l ih =>
      intro ys h
      rw [List.mapM_cons] at h
      cases hf : w.cell? (a.add j) with
      | none => simp [hf] at h
      | some z =>
        cases hr : l.mapM fun i => w.cell? (a.add i) with
        | none => simp [hf, hr] at h
        | some r' =>
          simp [hf, hr] at h
          subst h
          obtain ⟨h1, h2⟩ := ih r' hr
          refine ⟨by simp [h1], fun i v hi => ?_⟩
          cases i with
          | zero => simp at hi; subst hi; exact ⟨j, rfl, hf⟩
          | succ i => simp at hi; simpa using h2 i v hi
  obtain ⟨h1, h2⟩ := key _ _ h
  refine ⟨by simpa using h1, fun i v hi => ?_⟩
  obtain ⟨j, hj, hc⟩ := h2 i v hi
  have : i < n := by
    have := (List.getElem?_eq_some_iff.1 hj).1
    simpa using this
  rw [List.getElem?_range this] at hj
  cases hj
  exact hc

/-- a slice, its elements opened in their turn -/
theorem op_slice {α : Type} [Inhabited α] {cells : α → List Value} {F : α → Prop} (sz : Nat) (ht : P.underlying t = some (.slice e)) (hc : P.cellsOf e = sz) (hsz : ∀ a, (cells a).length = sz)
    (hel : ∀ m cs (y : DataW H × List MemPlace), DataW.trod enc P w 0 spare held m e cs = some y → ∃ a : α, cs = cells a ∧ F a) (h : DataW.trod enc P w 0 spare held fuel t cs = some x) :
    ∃ s : Sl α, cs = [s.val] ∧ s.l.length ≤ s.cap ∧ s.cap ≤ maxLen ∧ (Fact.sl s.a (s.l.flatMap cells)).holds (fun _ => True) w ∧ ∀ y ∈ s.l, F y := by
  cases fuel with
  | zero => simp [DataW.trod] at h
  | succ n =>
    simp only [DataW.trod, ht] at h
    split at h
    all_goals (try (rename_i hq; cases hq; done))
    all_goals (try (cases h; done))
    all_goals (try (rename_i hq _; cases hq; done))
    · exact ⟨⟨none, [], 0⟩, rfl, Nat.le_refl _, Nat.zero_le _, .inl rfl, by simp⟩
    · rename_i e' a len cap he
      cases he
      split at h <;> try cases h
      rename_i hb
      obtain ⟨elems, hm, _⟩ := Option.bind_eq_some_iff.1 h
      have hall : ∀ i, i < len → ∃ ys : List Value, w.cells? 0 (a.add (i * sz)) sz = some ys ∧ ∃ q : α, ys = cells q ∧ F q := fun i hi => by
        obtain ⟨z, hz⟩ := mapM_all hm i (List.mem_range.2 hi)
        obtain ⟨ys, h1, h2⟩ := Option.bind_eq_some_iff.1 hz
        rw [hc] at h1
        obtain ⟨q, hq, hF⟩ := hel _ _ _ h2
        exact ⟨ys, h1, q, hq, hF⟩
      have hlist : ∀ k, k ≤ len → ∃ l : List α, l.length = k ∧ (∀ y ∈ l, F y) ∧ ∀ i, i < k → w.cells? 0 (a.add (i * sz)) sz = some (cells (l.getD i default)) := by
        intro k
        induction k with
        | zero => intro _; exact ⟨[], rfl, by simp, fun i hi => by omega⟩
        | succ k ih =>
          intro hk
          obtain ⟨l, h1, h2, h3⟩ := ih (by omega)
          obtain ⟨ys, hy, q, rfl, hF⟩ := hall k (by omega)
          refine ⟨l ++ [q], by simp [h1], fun y hy' => ?_, fun i hi => ?_⟩
          · rcases List.mem_append.1 hy' with h | h
            · exact h2 y h
            · simp at h; subst h; exact hF
          · by_cases hik : i = k
            · subst hik; rw [hy]; simp [List.getD, ← h1]
            · rw [h3 i (by omega)]; simp only [List.getD]; rw [List.getElem?_append_left (by omega)]
      obtain ⟨l, h1, h2, h3⟩ := hlist len (Nat.le_refl _)
      refine ⟨⟨some a, l, cap⟩, by simp [h1], by simp [h1]; exact hb.2.1, hb.2.2, slfact_of fun i v hv => ?_, h2⟩
      have hlen := flatMap_len l cells sz hsz
      have hi : i < l.length * sz := by rw [← hlen]; exact (List.getElem?_eq_some_iff.1 hv).1
      have hs0 : 0 < sz := by rcases Nat.eq_zero_or_pos sz with h0 | h0; · subst h0; omega
                              · exact h0
      have hj : i / sz < l.length := Nat.div_lt_of_lt_mul (by rw [Nat.mul_comm]; exact hi)
      obtain ⟨_, h5⟩ := cells?_get (h3 (i / sz) (by omega))
      have h6 := h5 (i % sz) v (by
        rw [← flatMap_at l cells sz hsz (i / sz) hj, List.getElem?_take, if_pos (Nat.mod_lt _ hs0), List.getElem?_drop, Nat.mul_comm, Nat.div_add_mod]; exact hv)
      have e1 : (a.add (i / sz * sz)).add (i % sz) = a.add i := by
        have h7 : i / sz * sz + i % sz = i := by rw [Nat.mul_comm]; exact Nat.div_add_mod i sz
        have h8 : ∀ p q : Nat, (a.add p).add q = a.add (p + q) := fun p q => by by_cases hp : p = 0 <;> by_cases hq : q = 0 <;> simp [Addr.add, hp, hq, Nat.add_assoc]
        rw [h8, h7]
      rw [e1] at h6; exact h6
theorem fm_one {α : Type} (f : α → Value) (l : List α) : l.flatMap (fun x => [f x]) = l.map f := by induction l with | nil => rfl | cons x l ih => simp [ih]
theorem sl_map {α : Type} {a : Option Addr} {l : List α} {f : α → Value} {ok : Nat → Prop} (h : (Fact.sl a (l.flatMap fun x => [f x])).holds ok w) : (Fact.sl a (l.map f)).holds ok w := by rw [fm_one] at h; exact h
end
end Go.Proofs.YtbcnnkcddilfjaaGreat
