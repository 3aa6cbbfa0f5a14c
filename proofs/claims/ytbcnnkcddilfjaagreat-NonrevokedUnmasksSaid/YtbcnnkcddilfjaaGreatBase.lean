/-
  Own framework, part 2: frames known by some of their slots, worlds known by a predicate; the judgements WL (a plain region's operations), WM (a drawn region's operations), WC (code), and the rules of control.
-/
import Derived.Test.YtbcnnkcddilfjaaGreatMix
import Derived.WalkKit
import Derived.WalkSpells
import Derived.WalkLawsBesides
namespace Go.Proofs.YtbcnnkcddilfjaaGreat
set_option linter.unusedSimpArgs false
set_option linter.unusedVariables false
open Go.RowKit
/-- rules for conditions, and for places, as one name each -/
theorem sB : (∀ (p : Prop) [Decidable p], (decide p = true) = p) ∧ (∀ (p : Prop) [Decidable p], (decide p = false) = ¬p) ∧ (∀ b : Bool, ((!b) = true) = (b = false)) ∧ (∀ b : Bool, ((!b) = false) = (b = true)) ∧ (∀ b : Bool, (!!b) = b) ∧ (∀ a b : Int, (¬ a < b) = (b ≤ a)) ∧ (∀ a b : Int, (¬ a ≤ b) = (b < a)) :=
  ⟨fun _ _ => by simp, fun _ _ => by simp, fun _ => by simp, fun _ => by simp, fun _ => by simp, fun _ _ => by simp, fun _ _ => by simp⟩
theorem sN : (∀ n : Nat, ((n : Int)).toNat = n) ∧ (∀ n : Nat, n * 1 = n) ∧ (∀ n : Nat, 0 + n = n) ∧ (∀ n : Nat, n + 0 = n) ∧ (∀ n : Nat, 0 * n = 0) ∧ (∀ n : Nat, n - 0 = n) :=
  ⟨fun _ => by simp, fun _ => by simp, fun _ => by simp, fun _ => by simp, fun _ => by simp, fun _ => by simp⟩

abbrev Slots := List (Nat × Value)

def slot : Slots → Nat → Option Value
  | [], _ => none
  | (d, v) :: L, k => bif Nat.beq k d then some v else slot L k

/-- The frame has n slots, nothing deferred, and the slots of L hold what L says. -/
structure Fr (ds : List Deferred) (a : Act) (n : Nat) (L : Slots) : Prop where
  size : a.tmps.size = n
  defers : a.defers = ds
  at_ : ∀ k v, slot L k = some v → a.tmps[k]? = some v

def oper (L : Slots) : Operand → Option Value
  | .tmp t => slot L t
  | .const v => some v
  | .global g => some (.pointer (some ⟨g, 0, none⟩))
  | .func f => some (.func (.func f) #[] #[])

theorem Fr.eval {ds : List Deferred} {a : Act} {n : Nat} {L : Slots} (h : Fr ds a n L) {x : Operand} {v : Value} (hx : oper L x = some v) : a.eval x = v := by
  cases x with
  | tmp t => have := h.at_ t v hx; simp [Act.eval, this]
  | const u => simpa [oper, Act.eval] using hx
  | global g => simpa [oper, Act.eval] using hx
  | func f => simpa [oper, Act.eval] using hx

theorem Fr.put {ds : List Deferred} {a : Act} {n : Nat} {L : Slots} (h : Fr ds a n L) {d : Nat} (hd : Nat.blt d n = true) (v : Value) : Fr ds (a.put (some d) v) n ((d, v) :: L) := by
  have hd' : d < n := by simpa using hd
  refine ⟨by simp [Act.put, h.size], h.defers, fun k u hk => ?_⟩
  simp only [slot] at hk
  cases hb : Nat.beq k d with
  | true =>
    have : k = d := Nat.eq_of_beq_eq_true hb
    subst this
    simp only [hb, cond_true, Option.some.injEq] at hk
    subst hk
    simp [Act.put, h.size, hd']
  | false =>
    simp only [hb, cond_false] at hk
    have hne : d ≠ k := fun e => by subst e; simp at hb
    simp only [Act.put, Array.getElem?_setIfInBounds_ne hne]
    exact h.at_ k u hk

theorem Fr.none {ds : List Deferred} {a : Act} {n : Nat} {L : Slots} (h : Fr ds a n L) (v : Value) : Fr ds (a.put none v) n L := h

def putL (dst : Option Tmp) (v : Value) (L : Slots) : Slots :=
  match dst with
  | some d => (d, v) :: L
  | none => L

def dstOk (dst : Option Tmp) (n : Nat) : Bool :=
  match dst with
  | some d => Nat.blt d n
  | none => true

theorem Fr.putL {ds : List Deferred} {a : Act} {n : Nat} {L : Slots} (h : Fr ds a n L) {dst : Option Tmp} (hd : dstOk dst n = true) (v : Value) : Fr ds (a.put dst v) n (putL dst v L) := by
  cases dst with
  | none => exact h
  | some d => exact h.put hd v

/-- Fewer slots known. -/
theorem Fr.sub {ds : List Deferred} {a : Act} {n : Nat} {L L' : Slots} (h : Fr ds a n L) (hs : ∀ k v, slot L' k = some v → slot L k = some v) : Fr ds a n L' := ⟨h.size, h.defers, fun k v hk => h.at_ k v (hs k v hk)⟩

theorem sub_nil (L : Slots) : ∀ k v, slot [] k = some v → slot L k = some v := fun _ _ h => by simp [slot] at h
theorem sub_cons {L L' : Slots} {d : Nat} {v : Value} (h : slot L d = some v) (h' : ∀ k u, slot L' k = some u → slot L k = some u) : ∀ k u, slot ((d, v) :: L') k = some u → slot L k = some u := by
  intro k u hk
  simp only [slot] at hk
  cases hb : Nat.beq k d with
  | true =>
    have : k = d := Nat.eq_of_beq_eq_true hb
    subst this
    simp only [hb, cond_true, Option.some.injEq] at hk
    subst hk; exact h
  | false => simp only [hb, cond_false] at hk; exact h' k u hk

/-- The first frame of a call. -/
theorem Fr.enter {args : Array Value} {n m : Nat} {L : Slots} (hn : args.size + m = n) (hL : ∀ k v, slot L k = some v → args[k]? = some v) :
    Fr [] { tmps := args ++ Array.replicate m undef, defers := [] } n L :=
  ⟨by simp [hn], rfl, fun k v hk => by
    have h1 := hL k v hk
    have : k < args.size := (Array.getElem?_eq_some_iff.1 h1).1
    rw [Array.getElem?_append_left this]; exact h1⟩

theorem args_nil (args : Array Value) : ∀ k v, slot [] k = some v → args[k]? = some v := fun _ _ h => by simp [slot] at h
theorem args_cons {args : Array Value} {L : Slots} {d : Nat} {v : Value} (h : args[d]? = some v) (h' : ∀ k u, slot L k = some u → args[k]? = some u) : ∀ k u, slot ((d, v) :: L) k = some u → args[k]? = some u := by
  intro k u hk
  simp only [slot] at hk
  cases hb : Nat.beq k d with
  | true =>
    have : k = d := Nat.eq_of_beq_eq_true hb
    subst this
    simp only [hb, cond_true, Option.some.injEq] at hk
    subst hk; exact h
  | false => simp only [hb, cond_false] at hk; exact h' k u hk

/-- Is the operation wanted? none: not known from L. -/
def wantO (ops : List Oper) (L : Slots) (o : Oper) : Option Bool :=
  match o.guard with
  | none => some true
  | some (g, b) => match (ops[g]?).bind (·.dst) with
    | none => some false
    | some d => match slot L d with
      | some (.bool c) => some (c == b)
      | some _ => some false
      | none => none

theorem wanted_of {ds : List Deferred} {ops : List Oper} {L : Slots} {o : Oper} {a : Act} {n : Nat} {c : Bool} (h : Fr ds a n L) (hw : wantO ops L o = some c) : Region.wanted o (yielded ops.toArray a.tmps) = c := by
  unfold wantO at hw
  unfold Region.wanted
  cases hg : o.guard with
  | none => simp only [hg, Option.some.injEq] at hw; exact hw
  | some gb =>
    obtain ⟨g, b⟩ := gb
    simp only [hg] at hw
    simp only [yielded, List.getElem?_toArray]
    cases hd : (ops[g]?).bind (·.dst) with
    | none => simp only [hd, Option.some.injEq] at hw; subst hw; simp
    | some d =>
      simp only [hd] at hw
      simp only [Option.bind_some]
      cases hs : slot L d with
      | none => simp [hs] at hw
      | some v =>
        rw [h.at_ d v hs]
        simp only [hs] at hw
        cases v <;> simp_all

/-! ### Judgements -/

def WL (ds : List Deferred) (P : Program) (ops : List Oper) (Q : Exit → Act → World → Prop) (n : Nat) (rest : List Oper) (L : Slots) (S : World → Prop) : Prop :=
  ∀ a w, Fr ds a n L → S w → lisX P ops.toArray Q rest a w

def WM (ds : List Deferred) (P : Program) (ops : List Oper) (C : World → Prop) (Q : Exit → Act → World → Prop) (n : Nat) (marks : List Nat) (rest : List Oper) (L : Slots) (S : World → Prop) : Prop :=
  ∀ a w, Fr ds a n L → S w → mixL P ops.toArray C Q marks rest a w

def WC (ds : List Deferred) (ρ : Option Nat) (P : Program) (c : Code) (Q : Exit → Act → World → Prop) (n : Nat) (L : Slots) (S : World → Prop) : Prop :=
  ∀ a w, Fr ds a n L → S w → cdX ρ P c Q a w

def WX (ds : List Deferred) (Q : Exit → Act → World → Prop) (e : Exit) (n : Nat) (L : Slots) (S : World → Prop) : Prop :=
  ∀ a w, Fr ds a n L → S w → Q e a w

/-- The operation reads and yields v. -/
def Rd (ds : List Deferred) (P : Program) (o : Oper) (n : Nat) (L : Slots) (S : World → Prop) (v : Value) : Prop :=
  ∀ a, Fr ds a n L → Reads P S o a v

/-- The operation yields a value, in a world, such that .. -/
def Op1 (ds : List Deferred) (P : Program) (o : Oper) (n : Nat) (L : Slots) (S : World → Prop) (R : Value → World → Prop) : Prop :=
  ∀ a w, Fr ds a n L → S w → opX P o a w (fun a' w' => ∃ v, a' = a.put o.dst v ∧ R v w') noExit

section
variable {ds : List Deferred} {ρ : Option Nat} {P : Program} {ops : List Oper} {C S : World → Prop} {Q : Exit → Act → World → Prop} {n : Nat} {rest : List Oper} {L : Slots} {o : Oper} {v : Value} {marks : List Nat}

theorem WL.rd (hw : wantO ops L o = some true) (hd : dstOk o.dst n = true) (h : Rd ds P o n L S v) (k : WL ds P ops Q n rest (putL o.dst v L) S) : WL ds P ops Q n (o :: rest) L S := by
  intro a w hF hS
  unfold lisX
  rw [if_pos (wanted_of hF hw)]
  exact (h a hF).wp hS (k _ w (hF.putL hd v) hS)

theorem WL.skip (hw : wantO ops L o = some false) (hd : dstOk o.dst n = true) (k : WL ds P ops Q n rest (putL o.dst undef L) S) : WL ds P ops Q n (o :: rest) L S := by
  intro a w hF hS
  unfold lisX
  rw [if_neg (by rw [wanted_of hF hw]; simp)]
  exact k _ w (hF.putL hd undef) hS

theorem wp_of_noExit {o : Oper} {a : Act} {w : World} {K : Act → World → Prop} (h : opX P o a w K noExit) : opX P o a w K Q := by
  unfold opX at *
  generalize (execOp a.eval o).run P w = r at *
  cases r with
  | ok n w' =>
    cases n <;> simp only [Oper.uponIn] at h ⊢ <;> try exact h
    case enter f args =>
      refine ⟨h.1, CallsIn.mono h.2 fun e w'' he => ?_⟩
      cases e with
      | returned u => exact he
      | panicked c => exact he.elim
      | outgrown => obtain ⟨_, _, h⟩ := he; exact h.elim
    case round l f tmps assign body =>
      refine ⟨h.1, RoundIn.mono h.2 fun e w'' he => ?_⟩
      cases e with
      | returned u => exact he
      | panicked c => exact he.elim
      | outgrown => obtain ⟨_, _, h⟩ := he; exact h.elim
  | halt x w' => cases x <;> simp only [Oper.uponIn] at h ⊢ <;> exact h.elim

theorem WL.op {R : Value → World → Prop} (hw : wantO ops L o = some true) (hd : dstOk o.dst n = true) (h : Op1 ds P o n L S R) (k : ∀ v, WL ds P ops Q n rest (putL o.dst v L) (R v)) : WL ds P ops Q n (o :: rest) L S := by
  intro a w hF hS
  unfold lisX
  rw [if_pos (wanted_of hF hw)]
  refine (wp_of_noExit (opX_mono (fun a' w' hh => ?_) (h a w hF hS)))
  obtain ⟨v, rfl, hR⟩ := hh
  exact k v _ w' (hF.putL hd v) hR

theorem WL.nil (k : WX ds Q .normal n L S) : WL ds P ops Q n [] L S := fun a w hF hS => k a w hF hS

theorem WM.rd (hw : wantO ops L o = some true) (hd : dstOk o.dst n = true) (h : Rd ds P o n L C v) (k : WM ds P ops C Q n marks rest (putL o.dst v L) S) : WM ds P ops C Q n (0 :: marks) (o :: rest) L S := by
  intro a w hF hS
  unfold mixL
  rw [if_pos (wanted_of hF hw)]
  exact .inl ⟨rfl, v, h a hF, k _ w (hF.putL hd v) hS⟩

theorem WM.skip {m : Nat} (hw : wantO ops L o = some false) (hd : dstOk o.dst n = true) (k : WM ds P ops C Q n marks rest (putL o.dst undef L) S) : WM ds P ops C Q n (m :: marks) (o :: rest) L S := by
  intro a w hF hS
  unfold mixL
  rw [if_neg (by rw [wanted_of hF hw]; simp)]
  exact k _ w (hF.putL hd undef) hS

theorem WM.op {R : Value → World → Prop} (hw : wantO ops L o = some true) (hd : dstOk o.dst n = true) (h : Op1 ds P o n L S R) (hC : ∀ v w, R v w → C w) (k : ∀ v, WM ds P ops C Q n marks rest (putL o.dst v L) (R v)) :
    WM ds P ops C Q n (1 :: marks) (o :: rest) L S := by
  intro a w hF hS
  unfold mixL
  rw [if_pos (wanted_of hF hw)]
  refine .inr (.inl ⟨rfl, opX_mono (fun a' w' hh => ?_) (h a w hF hS)⟩)
  obtain ⟨v, rfl, hR⟩ := hh
  exact ⟨hC v w' hR, k v _ w' (hF.putL hd v) hR⟩

theorem WM.hard {R : Value → World → Prop} (hw : wantO ops L o = some true) (hd : dstOk o.dst n = true) (h : Op1 ds P o n L S R) (k : ∀ v, WM ds P ops C Q n marks rest (putL o.dst v L) (R v)) :
    WM ds P ops C Q n (2 :: marks) (o :: rest) L S := by
  intro a w hF hS
  unfold mixL
  rw [if_pos (wanted_of hF hw)]
  refine .inr (.inr ⟨rfl, opX_mono (fun a' w' hh => ?_) (h a w hF hS)⟩)
  obtain ⟨v, rfl, hR⟩ := hh
  exact k v _ w' (hF.putL hd v) hR

theorem WM.nil (k : WX ds Q .normal n L S) : WM ds P ops C Q n [] [] L S := fun a w hF hS => k a w hF hS

/-- a reading operation in the forced tail -/
theorem Op1.of_rd (h : Rd ds P o n L S v) : Op1 ds P o n L S (fun u w => u = v ∧ S w) := fun a w hF hS => (h a hF).wp hS ⟨v, rfl, rfl, hS⟩

theorem WM.hard_rd (hw : wantO ops L o = some true) (hd : dstOk o.dst n = true) (h : Rd ds P o n L S v) (k : WM ds P ops C Q n marks rest (putL o.dst v L) S) : WM ds P ops C Q n (2 :: marks) (o :: rest) L S :=
  WM.hard hw hd (Op1.of_rd h) fun _ a _ hF ⟨e, hS⟩ => by subst e; exact k a _ hF hS

/-! a world's predicate, a slot's spelling -/
theorem WL.st {S' : World → Prop} (h : ∀ w, S w → S' w) (k : WL ds P ops Q n rest L S') : WL ds P ops Q n rest L S := fun a w hF hS => k a w hF (h w hS)
theorem WM.st {S' : World → Prop} (h : ∀ w, S w → S' w) (k : WM ds P ops C Q n marks rest L S') : WM ds P ops C Q n marks rest L S := fun a w hF hS => k a w hF (h w hS)
theorem WC.st {c : Code} {S' : World → Prop} (h : ∀ w, S w → S' w) (k : WC ds ρ P c Q n L S') : WC ds ρ P c Q n L S := fun a w hF hS => k a w hF (h w hS)
theorem WX.st {e : Exit} {S' : World → Prop} (h : ∀ w, S w → S' w) (k : WX ds Q e n L S') : WX ds Q e n L S := fun a w hF hS => k a w hF (h w hS)

theorem Fr.set {ds : List Deferred} {a : Act} {d : Nat} {v v' : Value} (hF : Fr ds a n L) (h : slot L d = some v) (e : v = v') : Fr ds a n ((d, v') :: L) :=
  hF.sub (sub_cons (e ▸ h) (fun _ _ h => h))

theorem WL.set (d : Nat) {v v' : Value} (h : slot L d = some v) (e : v = v') (k : WL ds P ops Q n rest ((d, v') :: L) S) : WL ds P ops Q n rest L S := fun a w hF hS => k a w (hF.set h e) hS
theorem WM.set (d : Nat) {v v' : Value} (h : slot L d = some v) (e : v = v') (k : WM ds P ops C Q n marks rest ((d, v') :: L) S) : WM ds P ops C Q n marks rest L S := fun a w hF hS => k a w (hF.set h e) hS
theorem WC.set {c : Code} (d : Nat) {v v' : Value} (h : slot L d = some v) (e : v = v') (k : WC ds ρ P c Q n ((d, v') :: L) S) : WC ds ρ P c Q n L S := fun a w hF hS => k a w (hF.set h e) hS

/-- a truth value is decided -/
theorem WL.bool (d : Nat) {t : Bool} (h : slot L d = some (.bool t)) (h1 : t = true → WL ds P ops Q n rest ((d, .bool true) :: L) S) (h2 : t = false → WL ds P ops Q n rest ((d, .bool false) :: L) S) : WL ds P ops Q n rest L S := by
  cases t
  · exact WL.set d h rfl (h2 rfl)
  · exact WL.set d h rfl (h1 rfl)
theorem WM.bool (d : Nat) {t : Bool} (h : slot L d = some (.bool t)) (h1 : t = true → WM ds P ops C Q n marks rest ((d, .bool true) :: L) S) (h2 : t = false → WM ds P ops C Q n marks rest ((d, .bool false) :: L) S) : WM ds P ops C Q n marks rest L S := by
  cases t
  · exact WM.set d h rfl (h2 rfl)
  · exact WM.set d h rfl (h1 rfl)

/-- forget slots -/
theorem WC.sub {c : Code} {L' : Slots} (hs : ∀ k v, slot L' k = some v → slot L k = some v) (k : WC ds ρ P c Q n L' S) : WC ds ρ P c Q n L S := fun a w hF hS => k a w (hF.sub hs) hS

/-! ### Code -/
theorem WC.seq {x y : Code} (k : WC ds ρ P x (Exit.then (cdX ρ P y Q) Q) n L S) : WC ds ρ P (.seq x y) Q n L S := fun a w hF hS => wpIn_seq (k a w hF hS)
theorem WC.block {id : Nat} {c : Code} (k : WC ds ρ P c (Exit.inBlock id Q) n L S) : WC ds ρ P (.block id c) Q n L S := fun a w hF hS => wpIn_block (k a w hF hS)
theorem WC.skip (k : WX ds Q .normal n L S) : WC ds ρ P .skip Q n L S := fun a w hF hS => wpIn_skip (k a w hF hS)
theorem WC.exit {id : Nat} (k : WX ds Q (.exit id) n L S) : WC ds ρ P (.exit id) Q n L S := fun a w hF hS => wpIn_exit (k a w hF hS)
theorem WC.ret (k : WX ds Q .ret n L S) : WC ds ρ P .ret Q n L S := fun a w hF hS => wpIn_ret (k a w hF hS)
theorem WC.region {id : Nat} {l : List Oper} (k : WL ds P l Q n l L S) : WC ds none P (.region id l.toArray false) Q n L S := fun a w hF hS => cd_lit (.inl rfl) (k a w hF hS)
theorem WR.region {id : Nat} {l : List Oper} (hp : noDef l = true) (k : WL ds P l Q n l L S) : WC ds ρ P (.region id l.toArray false) Q n L S := fun a w hF hS => cd_lit (.inr hp) (k a w hF hS)
theorem WC.cond {c : Operand} {x y : Code} {t : Bool} (hc : oper L c = some (.bool t)) (h1 : t = true → WC ds ρ P x Q n L S) (h2 : t = false → WC ds ρ P y Q n L S) : WC ds ρ P (.cond c x y) Q n L S := fun a w hF hS =>
  wpIn_cond_split (hF.eval hc) (fun e => h1 e a w hF hS) (fun e => h2 e a w hF hS)

theorem WC.mix {id : Nat} {l : List Oper} (marks : List Nat) (hm : P.follows .mixedOrders = true) (hB : mixOk l marks = true) (hS : ∀ w, S w → S { w with drawn := w.drawn + 1 }) (k : WM ds P l S Q n marks l L S) :
    WC ds none P (.region id l.toArray true) Q n L S := fun a w hF h => wp_region_mix marks (.inl rfl) hm hB (hS w h) (k a _ hF (hS w h))

/-! exits -/
theorem WX.then_normal {y : Code} (k : WC ds ρ P y Q n L S) : WX ds (Exit.then (cdX ρ P y Q) Q) .normal n L S := fun a w hF hS => k a w hF hS
theorem WX.then_exit {K : Act → World → Prop} {id : Nat} (k : WX ds Q (.exit id) n L S) : WX ds (Exit.then K Q) (.exit id) n L S := fun a w hF hS => k a w hF hS
theorem WX.then_ret {K : Act → World → Prop} (k : WX ds Q .ret n L S) : WX ds (Exit.then K Q) .ret n L S := fun a w hF hS => k a w hF hS
theorem WX.block_normal {id : Nat} (k : WX ds Q .normal n L S) : WX ds (Exit.inBlock id Q) .normal n L S := fun a w hF hS => k a w hF hS
theorem WX.block_ret {id : Nat} (k : WX ds Q .ret n L S) : WX ds (Exit.inBlock id Q) .ret n L S := fun a w hF hS => k a w hF hS
theorem WX.block_exit {id : Nat} (k : WX ds Q .normal n L S) : WX ds (Exit.inBlock id Q) (.exit id) n L S := fun a w hF hS => by
  show (if id = id then Q .normal a w else Q (.exit id) a w); rw [if_pos rfl]; exact k a w hF hS
theorem WX.block_other {id id' : Nat} (hne : Nat.beq id' id = false) (k : WX ds Q (.exit id') n L S) : WX ds (Exit.inBlock id Q) (.exit id') n L S := fun a w hF hS => by
  have : id' ≠ id := fun e => by subst e; simp at hne
  show (if id' = id then Q .normal a w else Q (.exit id') a w); rw [if_neg this]; exact k a w hF hS

/-! ### Loops: a ghost state s : σ says what the slots and the world are -/
/-- the end of a round: a further ghost state fits, lower than s -/
def LoopK (ds : List Deferred) {σ : Type} (Ls : σ → Slots) (Ss : σ → World → Prop) (μ : σ → Nat) (n : Nat) (s : σ) (a : Act) (w : World) : Prop := ∃ s', μ s' < μ s ∧ Fr ds a n (Ls s') ∧ Ss s' w

theorem WC.loop {c : Code} {σ : Type} (Ls : σ → Slots) (Ss : σ → World → Prop) (μ : σ → Nat) (s0 : σ) (hL : ∀ k v, slot (Ls s0) k = some v → slot L k = some v) (hS : ∀ w, S w → Ss s0 w)
    (round : ∀ s, WC ds ρ P c (Exit.then (LoopK ds Ls Ss μ n s) Q) n (Ls s) (Ss s)) : WC ds ρ P (.loop c) Q n L S := by
  intro a w hF h b k cs hro hb hr
  have key : ∀ m s, μ s = m → ∀ a w, Fr ds a n (Ls s) → Ss s w → ∃ e a' w', Q e a' w' ∧ ArrivesIn (Machine.fenced P (wd ρ)) P (lone (b.atR a (.code c :: .inLoop c :: k)) cs w) b k cs e a' w' := by
    intro m
    induction m using Nat.strongRecOn with
    | _ m ih =>
      intro s hs a w hF hS
      obtain ⟨e, a₁, w₁, hq, harr⟩ := round s a w hF hS b (.inLoop c :: k) cs hro hb hr
      cases e with
      | normal =>
        obtain ⟨s', hlt, hF', hS'⟩ := hq
        obtain ⟨e₂, a₂, w₂, hq₂, harr₂⟩ := ih (μ s') (hs ▸ hlt) s' rfl a₁ w₁ hF' hS'
        exact ⟨e₂, a₂, w₂, hq₂, .of_steps (StepsIn.trans harr (.one (fenced_calm hb hr rfl) stepR_inLoop)) harr₂⟩
      | exit id => exact ⟨_, a₁, w₁, hq, .pass (x := .inLoop c) rfl (fun _ _ => .inl (by simp)) harr⟩
      | goto l => exact ⟨_, a₁, w₁, hq, .pass (x := .inLoop c) rfl (fun _ _ => .inl (by simp)) harr⟩
      | ret => exact ⟨_, a₁, w₁, hq, .pass (x := .inLoop c) rfl (fun _ _ => .inl (by simp)) harr⟩
      | panic ch => exact ⟨_, a₁, w₁, hq, .pass (x := .inLoop c) rfl (fun _ _ => .inl (by simp)) harr⟩
      | outgrown => exact ⟨_, a₁, w₁, hq, .pass (x := .inLoop c) rfl (fun _ _ => .inl (by simp)) harr⟩
  obtain ⟨e, a', w', hq, harr⟩ := key _ s0 rfl a w (hF.sub hL) (hS w h)
  exact ⟨e, a', w', hq, .of_steps (.one (fenced_calm hb hr rfl) stepR_loop) harr⟩

theorem WX.loop {σ : Type} {Ls : σ → Slots} {Ss : σ → World → Prop} {μ : σ → Nat} {s : σ} (s' : σ) (hμ : μ s' < μ s) (hL : ∀ k v, slot (Ls s') k = some v → slot L k = some v) (hS : ∀ w, S w → Ss s' w) :
    WX ds (Exit.then (LoopK ds Ls Ss μ n s) Q) .normal n L S := fun _ w hF h => ⟨s', hμ, hF.sub hL, hS w h⟩
end
end Go.Proofs.YtbcnnkcddilfjaaGreat
