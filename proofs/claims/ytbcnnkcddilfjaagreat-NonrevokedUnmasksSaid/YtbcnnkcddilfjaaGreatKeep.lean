/-
  Contracts that hand over facts: memory that is new or was an argument's.
-/
import Derived.Test.YtbcnnkcddilfjaaGreatApp
namespace Go.Proofs.YtbcnnkcddilfjaaGreat
open Go.RowKit
section
variable {ds : List Deferred} {ρ : Option Nat} {P : Program} {ok : Nat → Prop} {w0 w : World} {own ext : List Ent} {fs : List Fact} {γ : Type} {f : FuncId} {args : Array Value} {val : γ → Value} {p : γ → Prop} {F : γ → List Fact} {a : Option Addr} {xs : List Value}
theorem keep_ff (h : ∀ w, St ok w0 own fs w → Calls P f args w (fun e w' => ∃ g, e = .returned (val g) ∧ p g ∧ Below w.heap.size w w' ∧ ∀ x ∈ F g, x.holds (fun b => (ok b ∧ b ∉ ids own) ∨ w.heap.size ≤ b) w')) :
    ∀ w, St ok w0 own fs w → Calls P f args w (fun e w' => ∃ g, e = .returned (val g) ∧ p g ∧ St ok w0 own (F g ++ fs) w') :=
  fun w hS => (h w hS).mono fun _ w' ⟨g, he, hp, hb, hF⟩ => ⟨g, he, hp, by
    have h1 := hS.keep hb
    refine ⟨h1.okn, h1.below, h1.own_, h1.nd, fun x hx => (List.mem_append.1 hx).elim (fun hx => ?_) (h1.fact x)⟩
    exact x.mono (fun b hb => hb.elim id (hS.fresh b)) (hF x hx)⟩
theorem St.slo (h : St ok w0 own fs w) [hf : HasF fs a xs] : (Fact.sl a xs).holds (fun b => ok b ∧ b ∉ ids own) w := by
  obtain ⟨k, hk⟩ := hf.h.get; exact h.fact _ (List.mem_of_getElem? hk)
theorem St.slk (h : St ok w0 own fs w) [hf : HasF fs a xs] : (Fact.sl a xs).holds ok w := (Fact.sl a xs).mono (fun _ h => h.1) h.slo
theorem St.moreo {more : List Fact} (hS : St ok w0 own fs w) [h : HasM fs more] : ∀ f ∈ more, f.holds (fun b => ok b ∧ b ∉ ids own) w := fun f hf => hS.fact f (h.h f hf)
theorem St.morek {more : List Fact} (hS : St ok w0 own fs w) [h : HasM fs more] : ∀ f ∈ more, f.holds ok w := fun f hf => f.mono (fun _ h => h.1) (hS.fact f (h.h f hf))
theorem St.ock (h : St ok w0 own fs w) {ob : Option Nat} {sp : List Value} {T : TypeId} {C : Ent → List Ent} [hf : HasC own ob (xs ++ sp) T C] : (Fact.sl (ob.map fun b => ⟨b, 0, none⟩) xs).holds ok w := by
  obtain ⟨k, hk, _⟩ := hf.h.get
  have := h.own_ _ (List.mem_of_getElem? hk)
  cases ob with
  | none => exact .inl (by have h1 : xs ++ sp = [] := this; simp at h1; exact h1.1)
  | some b =>
    refine .inr ⟨b, 0, (xs ++ sp).toArray, T, (0, 0), rfl, h.okn b this.1, this.2, fun i hi => ?_⟩
    rw [Nat.zero_add, List.getElem?_toArray, List.getElem?_append_left hi]
theorem st_mem {own' : List Ent} {fs' : List Fact} (hf : ∀ f ∈ fs, f ∈ fs') [h1 : SubL own own'] : ∀ w, St ok w0 own' fs' w → St ok w0 own fs w := fun w h => h.sub h1.h hf
theorem sl_nilk : (Fact.sl a []).holds ok w := .inl rfl
theorem facts_or {fs : List Fact} {ok' : Nat → Prop} (h : ∀ f ∈ fs, f.holds ok w) : ∀ f ∈ fs, f.holds (fun b => ok b ∨ ok' b) w := fun f hf => f.mono (fun _ h => .inl h) (h f hf)
end
end Go.Proofs.YtbcnnkcddilfjaaGreat
