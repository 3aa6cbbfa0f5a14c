/-
  Opening a law's arguments: what the caller laid, as standing facts.
-/
import Derived.Test.YtbcnnkcddilfjaaGreatAux
import Derived.ProofKit
import Derived.OpenShut
import Derived.SliceStrings
import Derived.Carry
namespace Go.Proofs.YtbcnnkcddilfjaaGreat
set_option linter.unusedSimpArgs false
set_option linter.unusedVariables false
open Go.ChangeShapes Go.WideShapes Go.ChangeAt Go.RowKit
section
variable {H : Type} {enc : TypeId × Value → H} {P : Program} {w : World} {spare : Nat → Bool} {held : Bool}

theorem cell_block {b i : Nat} {v : Value} (h : w.cell? ⟨b, i, none⟩ = some v) : ∃ cs T fz, w.heap[b]? = some (.cells cs T fz) ∧ cs[i]? = some v := by
  unfold World.cell? at h
  split at h
  · rename_i cs T fz hb
    refine ⟨cs, T, fz, hb, ?_⟩
    simpa using h
  · simp at h
theorem slfact_of {a : Addr} {xs : List Value} (h : ∀ i v, xs[i]? = some v → w.cell? (a.add i) = some v) : (Fact.sl (some a) xs).holds (fun _ => True) w := by
  cases xs with
  | nil => exact .inl rfl
  | cons x xs =>
    right
    obtain ⟨b, off, spot⟩ := a
    have hspot : spot = none := by simpa [Addr.add] using World.cell?_spot (h 0 x rfl)
    subst hspot
    have h0 := h 0 x rfl
    rw [Addr.add_lit] at h0
    obtain ⟨cs, T, fz, hb, _⟩ := cell_block h0
    refine ⟨b, off, cs, T, fz, rfl, trivial, hb, fun i hi => ?_⟩
    have h1 := h i _ (List.getElem?_eq_getElem hi)
    rw [Addr.add_lit] at h1
    obtain ⟨cs', T', fz', hb', h2⟩ := cell_block h1
    rw [hb] at hb'; cases hb'
    rw [h2, List.getElem?_eq_getElem hi]

/-- a slice of strings -/
theorem op_strs {t e : TypeId} {v : Value} {d : DataW H} {ps : List MemPlace} {fuel : Nat} (ht : P.underlying t = some (.slice e)) (he : P.underlying e = some .string) (hc : P.cellsOf e = 1) (h : DataW.trod enc P w 0 spare held fuel t [v] = some (d, ps)) :
    ∃ (a : Option Addr) (l : List (List UInt8)) (cap : Nat), v = .slice a l.length cap ∧ l.length ≤ cap ∧ cap ≤ maxLen ∧ (∀ s ∈ l, s.length ≤ maxLen) ∧ (Fact.sl a (l.map fun s => .string (S s))).holds (fun _ => True) w := by
  rcases open_strings ht he hc h with ⟨hcs, hx⟩ | ⟨a, len', cap', ss, hcs, _, hl, hm, hz, hx, hcell, hsz⟩
  · obtain rfl : v = .slice none 0 0 := by simpa using hcs
    exact ⟨none, [], 0, rfl, Nat.le_refl _, by decide, by simp, .inl rfl⟩
  · obtain rfl : v = .slice (some a) len' cap' := by simpa using hcs
    have hlen : len' ≤ ss.length := by rw [hz]; split <;> omega
    refine ⟨some a, (ss.take len').map (·.data.toList), cap', by simp; omega, by simp; omega, hm, ?_, slfact_of fun i v hv => ?_⟩
    · intro s hs
      obtain ⟨x, hx, rfl⟩ := List.mem_map.1 hs
      have := hsz x (List.mem_of_mem_take hx)
      show x.data.toList.length ≤ maxLen
      rw [Array.length_toList]; exact this
    · simp only [List.map_map, List.getElem?_map, Option.map_eq_some_iff, Function.comp] at hv
      obtain ⟨x, hx, rfl⟩ := hv
      have hi : i < ss.length := by have := (List.getElem?_eq_some_iff.1 hx).1; simp at this; omega
      rw [hcell i hi, S_data]
      have : ss[i]? = some x := by rw [List.getElem?_take] at hx; split at hx; exact hx; cases hx
      simp [List.getD, this]
end
end Go.Proofs.YtbcnnkcddilfjaaGreat
