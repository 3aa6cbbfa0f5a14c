/-
  Own framework, part 0: one operation, a list of operations, a region, in a frame of a function or of a round of a range over a function.
-/
import Derived.Orders
import Derived.OrdersIn
import Derived.TacticsIn
namespace Go.Proofs.YtbcnnkcddilfjaaGreat
set_option linter.unusedSimpArgs false
set_option linter.unusedVariables false

/-- no fence; the round that the frame is of -/
abbrev wd (ρ : Option Nat) : Fence := { Fence.wide with round := ρ }
abbrev cdX (ρ : Option Nat) (P : Program) (c : Code) (Q : Exit → Act → World → Prop) (a : Act) (w : World) : Prop := c.wpIn (wd ρ) 0 P Q a w
def opX (P : Program) (o : Oper) (a : Act) (w : World) (next : Act → World → Prop) (Q : Exit → Act → World → Prop) : Prop := o.uponIn Fence.wide 0 P a next Q ((execOp a.eval o).run P w)
def opnX (P : Program) (ops : Array Oper) (Q : Exit → Act → World → Prop) (i : Nat) (K : Act → World → Prop) (a : Act) (w : World) : Prop :=
  match ops[i]? with
  | none => K a w
  | some o => if Region.wanted o (yielded ops a.tmps) then opX P o a w K Q else K (a.put o.dst undef) w
def opsX (P : Program) (ops : Array Oper) (Q : Exit → Act → World → Prop) : List Nat → Act → World → Prop
  | [], a, w => Q .normal a w
  | i :: rest, a, w =>
    match ops[i]? with
    | none => opsX P ops Q rest a w
    | some o => if Region.wanted o (yielded ops a.tmps) then opX P o a w (opsX P ops Q rest) Q else opsX P ops Q rest (a.put o.dst undef) w
def lisX (P : Program) (ops : Array Oper) (Q : Exit → Act → World → Prop) : List Oper → Act → World → Prop
  | [], a, w => Q .normal a w
  | o :: rest, a, w => if Region.wanted o (yielded ops a.tmps) then opX P o a w (lisX P ops Q rest) Q else lisX P ops Q rest (a.put o.dst undef) w
def anyX (P : Program) (md : Region.Mode) (ops : Array Oper) (Q : Exit → Act → World → Prop) : Nat → Array Bool → Act → World → Prop
  | 0, listed, a, w => Region.ready md ops listed = [] ∧ Q .normal a w
  | fuel + 1, listed, a, w =>
    (Region.ready md ops listed = [] → Q .normal a w) ∧
    ∀ i ∈ Region.ready md ops listed, opnX P ops Q i (anyX P md ops Q fuel (listed.setIfInBounds i true)) a w

section
variable {P : Program} {ops : Array Oper} {Q : Exit → Act → World → Prop} {md : Region.Mode} {ρ : Option Nat}
theorem opX_mono {o : Oper} {a : Act} {w : World} {K K' : Act → World → Prop} (h : ∀ a w, K a w → K' a w) (hh : opX P o a w K Q) : opX P o a w K' Q := by
  unfold opX at *
  generalize (execOp a.eval o).run P w = r at *
  cases r with
  | ok x w' =>
    cases x <;> simp only [Oper.uponIn] at hh ⊢ <;>
      first
        | exact h _ _ hh
        | exact ⟨hh.1, CallsIn.mono hh.2 (fun e w'' he => by cases e <;> first | exact h _ _ he | exact he)⟩
        | exact ⟨hh.1, RowsIn.mono hh.2 (fun _ _ he => h _ _ he)⟩
        | exact ⟨hh.1, RoundIn.mono hh.2 (fun e w'' he => by cases e <;> first | exact h _ _ he | exact he)⟩
  | halt x w' => cases x <;> simp only [Oper.uponIn] at hh ⊢ <;> exact hh
theorem opnX_mono {i : Nat} {a : Act} {w : World} {K K' : Act → World → Prop} (h : ∀ a w, K a w → K' a w) (hh : opnX P ops Q i K a w) : opnX P ops Q i K' a w := by
  unfold opnX at *
  split
  · exact h _ _ (by simpa [*] using hh)
  · rename_i o ho
    simp only [ho] at hh
    split
    · rename_i hw; simp only [hw, if_true] at hh; exact opX_mono h hh
    · rename_i hw; simp only [hw] at hh; exact h _ _ hh
theorem opsX_cons (i : Nat) (rest : List Nat) (a : Act) (w : World) : opsX P ops Q (i :: rest) a w = opnX P ops Q i (opsX P ops Q rest) a w := by
  cases h : ops[i]? <;> simp [opsX, opnX, h]

def noDef (l : List Oper) : Bool := l.all fun o => match o.op with | .defer _ => false | _ => true
theorem noDef_spec {l : List Oper} (h : noDef l = true) : ∀ o ∈ l, ∀ c, o.op ≠ .defer c := fun o ho c e => by
  have := List.all_eq_true.1 h o ho
  simp [e] at this
/-- what is asked of the operations in a round -/
def Plain (ρ : Option Nat) (l : List Oper) : Prop := ρ = none ∨ noDef l = true

theorem opX_in {o : Oper} {a : Act} {w : World} {K : Act → World → Prop} (hp : ρ = none ∨ ∀ c, o.op ≠ .defer c) (h : opX P o a w K Q) : o.wpIn (wd ρ) 0 P a w K Q := by
  refine ⟨fun _ _ => trivial, ?_⟩
  have e : o.semAt (wd ρ).round a.eval = execOp a.eval o := by
    rcases hp with rfl | hp
    · rfl
    · exact Oper.semAt_eq _ _ o hp
  rw [e]; exact h
theorem plain_get {l : List Oper} (hp : Plain ρ l) {o : Oper} (ho : o ∈ l) : ρ = none ∨ ∀ c, o.op ≠ .defer c := hp.imp id fun h => noDef_spec h o ho
theorem anyX_in {l : List Oper} (hp : Plain ρ l) : ∀ (fuel : Nat) (listed : Array Bool) (a : Act) (w : World), anyX P md l.toArray Q fuel listed a w → wpAnyIn (wd ρ) 0 P md l.toArray Q fuel listed a w
  | 0, listed, a, w, h => h
  | fuel + 1, listed, a, w, h => by
    refine ⟨h.1, fun i hi => ?_⟩
    have h1 := h.2 i hi
    unfold opnX at h1
    unfold wpOpIn
    cases ho : l.toArray[i]? with
    | none => simp only [ho] at h1 ⊢; exact anyX_in hp fuel _ a w h1
    | some o =>
      simp only [ho] at h1 ⊢
      split
      · rename_i hw
        rw [if_pos hw] at h1
        exact Oper.wpIn_mono (fun a' w' h' => anyX_in hp fuel _ a' w' h') (opX_in (plain_get hp (List.mem_of_getElem? (by simpa using ho))) h1)
      · rename_i hw
        rw [if_neg hw] at h1
        exact ⟨fun _ _ => trivial, anyX_in hp fuel _ _ w h1⟩
theorem lisX_in {ops : Array Oper} : ∀ (l : List Oper) (a : Act) (w : World), (∀ o ∈ l, ρ = none ∨ ∀ c, o.op ≠ .defer c) → lisX P ops Q l a w → wpListIn (wd ρ) 0 P ops Q l a w
  | [], a, w, _, h => h
  | o :: l, a, w, hp, h => by
    unfold lisX at h
    unfold wpListIn
    split
    · rename_i hw
      rw [if_pos hw] at h
      exact Oper.wpIn_mono (fun a' w' h' => lisX_in l a' w' (fun o ho => hp o (by simp [ho])) h') (opX_in (hp o (by simp)) h)
    · rename_i hw
      rw [if_neg hw] at h
      exact ⟨fun _ _ => trivial, lisX_in l _ w (fun o ho => hp o (by simp [ho])) h⟩
theorem opsX_in {l : List Oper} (hp : Plain ρ l) : ∀ (is : List Nat) (a : Act) (w : World), opsX P l.toArray Q is a w → wpOpsIn (wd ρ) 0 P l.toArray Q is a w
  | [], a, w, h => h
  | i :: is, a, w, h => by
    rw [opsX_cons] at h
    rw [wpOpsIn_cons]
    unfold opnX at h
    unfold wpOpIn
    cases ho : l.toArray[i]? with
    | none => simp only [ho] at h ⊢; exact opsX_in hp is a w h
    | some o =>
      simp only [ho] at h ⊢
      split
      · rename_i hw
        rw [if_pos hw] at h
        exact Oper.wpIn_mono (fun a' w' h' => opsX_in hp is a' w' h') (opX_in (plain_get hp (List.mem_of_getElem? (by simpa using ho))) h)
      · rename_i hw
        rw [if_neg hw] at h
        exact ⟨fun _ _ => trivial, opsX_in hp is _ w h⟩
theorem cd_any {id : Nat} {l : List Oper} {a : Act} {w : World} (hp : Plain ρ l) (hm : P.follows .mixedOrders = true) (h : anyX P .any l.toArray Q l.toArray.size (Array.replicate l.toArray.size false) a { w with drawn := w.drawn + 1 }) : cdX ρ P (.region id l.toArray true) Q a w :=
  wpIn_region_any hm (anyX_in hp _ _ _ _ h)
theorem cd_lit {id : Nat} {l : List Oper} {a : Act} {w : World} (hp : Plain ρ l) (h : lisX P l.toArray Q l a w) : cdX ρ P (.region id l.toArray false) Q a w :=
  wpIn_region_lit (lisX_in l a w (fun o ho => plain_get hp ho) h)
theorem cd_draw {id : Nat} {l : List Oper} {a : Act} {w : World} (hp : Plain ρ l) (h : ∀ t : Nat, opsX P l.toArray Q (Region.schedule (P.follows .mixedOrders) l.toArray t) a { w with drawn := w.drawn + 1 }) : cdX ρ P (.region id l.toArray true) Q a w :=
  wpIn_region_draw fun t => opsX_in hp _ _ _ (h t)
end
end Go.Proofs.YtbcnnkcddilfjaaGreat
