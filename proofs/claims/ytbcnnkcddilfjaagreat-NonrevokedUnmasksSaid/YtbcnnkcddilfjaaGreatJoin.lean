/-
  Ways that meet again.
-/
import Derived.Test.YtbcnnkcddilfjaaGreatKeep
import Derived.Test.YtbcnnkcddilfjaaGreatOrd
namespace Go.Proofs.YtbcnnkcddilfjaaGreat
open Go.RowKit
section
variable {ds : List Deferred} {ρ : Option Nat} {P : Program} {Q : Exit → Act → World → Prop} {n : Nat} {L : Slots} {x y : Code} {σ : Type} {Z : World → Prop}
theorem slot_i {k : Nat} {kd : IntKind} {i j : Int} (h : slot L k = some (.int kd i)) (e : i = j) : slot L k = some (.int kd j) := e ▸ h
theorem slot_b {k : Nat} {i j : Bool} (h : slot L k = some (.bool i)) (e : i = j) : slot L k = some (.bool j) := e ▸ h
/-- where the ways meet: a ghost state fits -/
def JoinK (ds : List Deferred) {σ : Type} (Ls : σ → Slots) (Ss : σ → World → Prop) (n : Nat) (a : Act) (w : World) : Prop := ∃ s, Fr ds a n (Ls s) ∧ Ss s w
theorem WC.join (Ls : σ → Slots) (Ss : σ → World → Prop) (h : WC ds ρ P x (Exit.then (JoinK ds Ls Ss n) Q) n L Z) (k : ∀ s, WC ds ρ P y Q n (Ls s) (Ss s)) : WC ds ρ P (.seq x y) Q n L Z :=
  WC.seq fun a w hF hS => wpIn_mono (h a w hF hS) fun e a w hq => by
    cases e with
    | normal => obtain ⟨s, hF', hS'⟩ := hq; exact k s a w hF' hS'
    | _ => exact hq
theorem WX.join {Ls : σ → Slots} {Ss : σ → World → Prop} (s : σ) (hL : ∀ k v, slot (Ls s) k = some v → slot L k = some v) (hS : ∀ w, Z w → Ss s w) : WX ds (Exit.then (JoinK ds Ls Ss n) Q) .normal n L Z := fun _ w hF h => ⟨s, hF.sub hL, hS w h⟩
theorem WC.joinP (Lm : Slots) (Ls : σ → Slots) (inv : σ → Prop) (hm : ∀ k v, slot Lm k = some v → slot L k = some v) (h : WC ds ρ P x (Exit.then (JoinK ds (fun s => Ls s ++ Lm) (fun s w => inv s ∧ Z w) n) Q) n L Z) (k : ∀ s, inv s → WC ds ρ P y Q n (Ls s ++ Lm) Z) : WC ds ρ P (.seq x y) Q n L Z :=
  have := hm
  WC.join _ _ h fun s => WC.pu fun h => k s h
theorem WX.joinP {Z' : World → Prop} {L' Lm : Slots} {Ls : σ → Slots} {inv : σ → Prop} (s : σ) (hm : ∀ k v, slot Lm k = some v → slot L' k = some v) (hL : ∀ k v, slot (Ls s) k = some v → slot L' k = some v) (hi : inv s) (hZ : ∀ w, Z' w → Z w) :
    WX ds (Exit.then (JoinK ds (fun s => Ls s ++ Lm) (fun s w => inv s ∧ Z w) n) Q) .normal n L' Z' := WX.join s (sub_app hL hm) fun w h => ⟨hi, hZ w h⟩
theorem WC.joinO {ok : Nat → Prop} {w0 : World} {own : List Ent} {fs : List Fact} (Lm : Slots) (Ls : σ → Slots) (inv : σ → Prop) (own' : σ → List Ent) (fs' : σ → List Fact) (hm : ∀ k v, slot Lm k = some v → slot L k = some v)
    (h : WC ds ρ P x (Exit.then (JoinK ds (fun s => Ls s ++ Lm) (fun s w => inv s ∧ St ok w0 (own' s) (fs' s) w) n) Q) n L (St ok w0 own fs)) (k : ∀ s, inv s → WC ds ρ P y Q n (Ls s ++ Lm) (St ok w0 (own' s) (fs' s))) : WC ds ρ P (.seq x y) Q n L (St ok w0 own fs) :=
  have := hm
  WC.join _ _ h fun s => WC.pu fun h => k s h
theorem WX.joinO {ok : Nat → Prop} {w0 : World} {Z' : World → Prop} {L' Lm : Slots} {Ls : σ → Slots} {inv : σ → Prop} {own' : σ → List Ent} {fs' : σ → List Fact} (s : σ) (hm : ∀ k v, slot Lm k = some v → slot L' k = some v) (hL : ∀ k v, slot (Ls s) k = some v → slot L' k = some v) (hi : inv s) (hZ : ∀ w, Z' w → St ok w0 (own' s) (fs' s) w) :
    WX ds (Exit.then (JoinK ds (fun s => Ls s ++ Lm) (fun s w => inv s ∧ St ok w0 (own' s) (fs' s) w) n) Q) .normal n L' Z' := WX.join s (sub_app hL hm) fun w h => ⟨hi, hZ w h⟩
/-- a drawn region, walked once in each order; what is known before is known behind -/
theorem WC.ordersP {id : Nat} {l : List Oper} {n : Nat} {L : Slots} {ok : Nat → Prop} {w0 : World} {own : List Ent} {fs : List Fact} (Lm : Slots) (own' : List Ent) (fs' : List Fact) (hm : ∀ k v, slot Lm k = some v → slot L k = some v) (iss : List (List Nat)) {oss : List (List Oper)} (hp : P.follows .mixedOrders = true)
    (hi : allOrders l.toArray l.length (Array.replicate l.length false) = iss) (ho : iss.map (pickOps l) = oss)
    (k : AllL ds P l (Mid ds (fun _ : Unit => Lm) (fun _ => St ok w0 own' fs') n) n L (St ok w0 own fs) oss) (next : WX ds Q .normal n Lm (St ok w0 own' fs')) : WC ds none P (.region id l.toArray true) Q n L (St ok w0 own fs) :=
  have := hm
  WC.orders (fun _ => Lm) _ iss hp hi ho (fun w h => h.draw) k fun _ => next
theorem WX.midP {γ : Type} {n : Nat} {L Lm : Slots} {S : World → Prop} {S' : γ → World → Prop} (g : γ) (hm : ∀ k v, slot Lm k = some v → slot L k = some v) (hS : ∀ w, S w → S' g w) : WX ds (Mid ds (fun _ => Lm) S' n) .normal n L S := WX.mid g hm hS
end
end Go.Proofs.YtbcnnkcddilfjaaGreat
