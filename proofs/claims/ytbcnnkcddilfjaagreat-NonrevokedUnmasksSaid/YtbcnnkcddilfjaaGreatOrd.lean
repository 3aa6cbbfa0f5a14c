/-
  Own framework: a region that draws its order, walked once in each order; the walks meet in one assertion.
-/
import Derived.Test.YtbcnnkcddilfjaaGreatBase
namespace Go.Proofs.YtbcnnkcddilfjaaGreat
set_option linter.unusedSimpArgs false
set_option linter.unusedVariables false
open Go.RowKit

def allOrders (ops : Array Oper) : Nat → Array Bool → List (List Nat)
  | 0, _ => [[]]
  | f + 1, listed =>
    match Region.ready .any ops listed with
    | [] => [[]]
    | x :: xs => (x :: xs).flatMap fun i => (allOrders ops f (listed.setIfInBounds i true)).map (i :: ·)

theorem mem_orders (ops : Array Oper) : ∀ (fuel t : Nat) (listed : Array Bool), Region.linearise.go .any ops fuel t listed [] ∈ allOrders ops fuel listed := by
  intro fuel
  induction fuel with
  | zero => intro t listed; simp [Region.linearise.go, allOrders]
  | succ fuel ih =>
    intro t listed
    simp only [allOrders]
    change (match (Region.ready .any ops listed)[t % (Region.ready .any ops listed).length]? with
      | some i => Region.linearise.go .any ops fuel (t / (Region.ready .any ops listed).length) (listed.setIfInBounds i true) [i]
      | none => [].reverse) ∈ _
    cases hr : Region.ready .any ops listed with
    | nil => simp
    | cons x xs =>
      have hlt : t % (x :: xs).length < (x :: xs).length := Nat.mod_lt _ (by simp)
      simp only [List.getElem?_eq_getElem hlt]
      rw [linearise_go_acc]
      exact List.mem_flatMap.2 ⟨_, List.getElem_mem hlt, List.mem_map.2 ⟨_, ih (t / (x :: xs).length) _, by simp⟩⟩

def pickOps (l : List Oper) : List Nat → List Oper
  | [] => []
  | i :: is => match l[i]? with
    | some o => o :: pickOps l is
    | none => pickOps l is

section
variable {ds : List Deferred} {ρ : Option Nat} {P : Program} {Q : Exit → Act → World → Prop} {n : Nat} {L : Slots} {S : World → Prop}

theorem wpOps_pick (l : List Oper) : ∀ is : List Nat, opsX P l.toArray Q is = lisX P l.toArray Q (pickOps l is) := by
  intro is
  induction is with
  | nil => rfl
  | cons i is ih =>
    funext a w
    simp only [opsX, pickOps, List.getElem?_toArray]
    cases h : l[i]? with
    | none => simp only [ih]
    | some o => simp only [lisX, ih]

def Mid (ds : List Deferred) {γ : Type} (L' : γ → Slots) (S' : γ → World → Prop) (n : Nat) : Exit → Act → World → Prop
  | .normal, a, w => ∃ g, Fr ds a n (L' g) ∧ S' g w
  | _, _, _ => False

def AllL (ds : List Deferred) (P : Program) (ops : List Oper) (Q : Exit → Act → World → Prop) (n : Nat) (L : Slots) (S : World → Prop) : List (List Oper) → Prop
  | [] => True
  | x :: xs => WL ds P ops Q n x L S ∧ AllL ds P ops Q n L S xs
theorem AllL.nil {ops : List Oper} : AllL ds P ops Q n L S [] := trivial
theorem AllL.cons {ops x : List Oper} {xs : List (List Oper)} (h : WL ds P ops Q n x L S) (t : AllL ds P ops Q n L S xs) : AllL ds P ops Q n L S (x :: xs) := ⟨h, t⟩
theorem AllL.get {ops : List Oper} : ∀ {xs : List (List Oper)}, AllL ds P ops Q n L S xs → ∀ x ∈ xs, WL ds P ops Q n x L S
  | _ :: _, h, x, hx => by
    rcases List.mem_cons.1 hx with rfl | hx
    · exact h.1
    · exact h.2.get x hx

theorem WC.orders {γ : Type} {id : Nat} {l : List Oper} (L' : γ → Slots) (S' : γ → World → Prop) (iss : List (List Nat)) {oss : List (List Oper)} (hm : P.follows .mixedOrders = true)
    (hi : allOrders l.toArray l.length (Array.replicate l.length false) = iss) (ho : iss.map (pickOps l) = oss) (hS : ∀ w, S w → S { w with drawn := w.drawn + 1 })
    (k : AllL ds P l (Mid ds L' S' n) n L S oss) (next : ∀ g, WX ds Q .normal n (L' g) (S' g)) : WC ds none P (.region id l.toArray true) Q n L S := by
  intro a w hF h
  refine wpIn_mono (Q := Mid ds L' S' n) (cd_draw (.inl rfl) fun t => ?_) (fun e a w hq => ?_)
  rotate_left
  · cases e with
    | normal => obtain ⟨g, hF, hS⟩ := hq; exact next g a w hF hS
    | _ => exact hq.elim
  · simp only [Region.schedule, hm, Bool.true_or, if_true]
    have hmem := mem_orders l.toArray l.length t (Array.replicate l.length false)
    rw [hi] at hmem
    have := AllL.get k (pickOps l (Region.linearise.go .any l.toArray l.length t (Array.replicate l.length false) [])) (by rw [← ho]; exact List.mem_map_of_mem hmem)
    have h2 := this a { w with drawn := w.drawn + 1 } hF (hS w h)
    rw [← wpOps_pick] at h2
    exact h2

theorem WX.mid {γ : Type} {L' : γ → Slots} {S' : γ → World → Prop} (g : γ) (hL : ∀ k v, slot (L' g) k = some v → slot L k = some v) (hS : ∀ w, S w → S' g w) :
    WX ds (Mid ds L' S' n) .normal n L S := fun _ w hF h => ⟨g, hF.sub hL, hS w h⟩
end
end Go.Proofs.YtbcnnkcddilfjaaGreat
