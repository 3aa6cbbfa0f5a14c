/-
  Own framework, part 1: a region that draws its order, walked once in the text's order. Operations that only read in a class of worlds may come up at any time; the others are totally ordered by the region's edges; a forced tail may leave the class.
-/
import Derived.Test.YtbcnnkcddilfjaaGreatRnd
namespace Go.Proofs.YtbcnnkcddilfjaaGreat
set_option linter.unusedSimpArgs false
set_option linter.unusedVariables false

/- Marks. 0: reads only, may come up at any time; 1: in a fixed order among those marked 1, keeps the class; 2: the forced tail. -/
section
variable (P : Program) (ops : Array Oper) (C : World → Prop) (Q : Exit → Act → World → Prop) (mk : Nat → Nat)

def noExit : Exit → Act → World → Prop := fun _ _ _ => False

/-- In every world of the class the operation yields 'v' and leaves the world alone. -/
def Reads (o : Oper) (a : Act) (v : Value) : Prop :=
  ∀ w, C w → (execOp a.eval o).run P w = .ok (.value v) w ∨ ((execOp a.eval o).run P w = .ok .skip w ∧ v = undef)

def mixI : List Nat → Act → World → Prop
  | [], a, w => Q .normal a w
  | i :: l, a, w => ∃ o, ops[i]? = some o ∧
    if Region.wanted o (yielded ops a.tmps) then
      (mk i = 0 ∧ ∃ v, Reads P C o a v ∧ mixI l (a.put o.dst v) w) ∨
      (mk i = 1 ∧ opX P o a w (fun a' w' => C w' ∧ mixI l a' w') noExit) ∨
      (mk i = 2 ∧ opX P o a w (fun a' w' => mixI l a' w') noExit)
    else mixI l (a.put o.dst undef) w

end

section
variable {P : Program} {ops : Array Oper} {C : World → Prop} {Q : Exit → Act → World → Prop} {mk : Nat → Nat}

theorem Reads.same {o : Oper} {a a' : Act} {v : Value} (h : Reads P C o a v) (he : execOp a'.eval o = execOp a.eval o) : Reads P C o a' v := by
  unfold Reads at *; rw [he]; exact h

theorem Reads.eq {o : Oper} {a : Act} {v u : Value} {w : World} (hw : C w) (h : Reads P C o a v) (k : Reads P C o a u) : v = u := by
  rcases h w hw with h1 | ⟨h1, rfl⟩ <;> rcases k w hw with k1 | ⟨k1, rfl⟩ <;> rw [h1] at k1 <;> simp_all

theorem Reads.wp {o : Oper} {a : Act} {v : Value} {w : World} (hw : C w) (h : Reads P C o a v) {K : Act → World → Prop} {Q' : Exit → Act → World → Prop} (hk : K (a.put o.dst v) w) : opX P o a w K Q' := by
  unfold opX
  rcases h w hw with h1 | ⟨h1, rfl⟩ <;> rw [h1] <;> exact hk

theorem eval_tmps {a a' : Act} (h : a'.tmps = a.tmps) : a'.eval = a.eval := by
  funext x; cases x <;> simp [Act.eval, h]

theorem put_tmps {a a' : Act} (h : a'.tmps = a.tmps) (d : Option Tmp) (v : Value) : (a'.put d v).tmps = (a.put d v).tmps := by
  cases d <;> simp [Act.put, h]

theorem defer_tmps (a : Act) (d : Deferred) (x : Option Tmp) (v : Value) : (({ a with defers := d :: a.defers } : Act).put x v).tmps = (a.put x v).tmps := by
  cases x <;> rfl

/-- An outcome of an operation that cannot exit. -/
theorem wp_some {o : Oper} {a : Act} {w : World} {K : Act → World → Prop} (h : opX P o a w K noExit) : ∃ a' w' u, a'.tmps = (a.put o.dst u).tmps ∧ K a' w' := by
  unfold opX at h
  generalize (execOp a.eval o).run P w = r at h
  cases r with
  | ok n w' =>
    cases n <;> simp only [Oper.uponIn] at h
    case value v => exact ⟨_, _, v, rfl, h⟩
    case skip => exact ⟨_, _, undef, rfl, h⟩
    case defer d => exact ⟨({ a with defers := d :: a.defers } : Act).put o.dst undef, _, undef, defer_tmps a _ _ _, h⟩
    case enter f args =>
      obtain ⟨e, w'', fr, hR, _⟩ := h.2.2 [] (room_wide _)
      cases e with
      | returned v => exact ⟨_, _, v, rfl, hR⟩
      | panicked c => exact hR.elim
      | outgrown => obtain ⟨_, _, h⟩ := hR; exact h.elim
    case row row args =>
      obtain ⟨v, w'', hR, _⟩ := h.2 default [] (room_wide _)
      exact ⟨_, _, v, rfl, hR⟩
    case round l f tmps assign body =>
      obtain ⟨e, w'', hR, _⟩ := h.2.2 default [] (room_wide _)
      cases e with
      | returned v => exact ⟨_, _, v, rfl, hR⟩
      | panicked c => exact hR.elim
      | outgrown => obtain ⟨_, _, h⟩ := hR; exact h.elim
  | halt x w' => cases x <;> simp only [Oper.uponIn] at h <;> exact h.elim

theorem put_defer_comm (a : Act) (x : Option Tmp) (v : Value) (y : Option Tmp) (u : Value) (d : Deferred) (h : ∀ t, x = some t → y ≠ some t) :
    (({ (a.put x v) with defers := d :: (a.put x v).defers } : Act).put y u) = (({ a with defers := d :: a.defers } : Act).put y u).put x v := by
  rw [Act.put_defers, Act.put_comm _ v u h]

/-- What comes up does so whether or not a slot that it does not look at is filled. -/
theorem wp_fill {oi oj : Oper} {a : Act} {w : World} {v : Value} {K : Act → World → Prop} (hap : oi.apart ops oj = true) (hsj : ∀ cs b, oj.op ≠ .select cs b)
    (h : opX P oj a w K noExit) : opX P oj (a.put oi.dst v) w (fun a' w' => ∃ a1 u, a1.tmps = (a.put oj.dst u).tmps ∧ a' = a1.put oi.dst v ∧ K a1 w') noExit := by
  obtain ⟨h1, h2, _⟩ := Oper.apart_spec hap
  unfold opX at *
  rw [execOp_put oj hsj a oi.dst v h1]
  generalize (execOp a.eval oj).run P w = r at *
  cases r with
  | ok n w' =>
    cases n <;> simp only [Oper.uponIn] at h ⊢
    case value u => exact ⟨_, u, rfl, Act.put_comm a v u h2, h⟩
    case skip => exact ⟨_, undef, rfl, Act.put_comm a v undef h2, h⟩
    case defer d => exact ⟨({ a with defers := d :: a.defers } : Act).put oj.dst undef, undef, defer_tmps a _ _ _, put_defer_comm a _ v _ undef d h2, h⟩
    case enter f args =>
      refine ⟨h.1, CallsIn.mono h.2 fun e w'' he => ?_⟩
      cases e with
      | returned u => exact ⟨_, u, rfl, Act.put_comm a v u h2, he⟩
      | panicked c => exact he
      | outgrown => obtain ⟨_, _, h⟩ := he; exact h.elim
    case round l f tmps assign body =>
      refine ⟨h.1, RoundIn.mono h.2 fun e w'' he => ?_⟩
      cases e with
      | returned u => exact ⟨_, u, rfl, Act.put_comm a v u h2, he⟩
      | panicked c => exact he
      | outgrown => obtain ⟨_, _, h⟩ := he; exact h.elim
    case row row args => exact ⟨h.1, RowsIn.mono h.2 fun u w'' he => ⟨_, u, rfl, Act.put_comm a v u h2, he⟩⟩
  | halt x w' => cases x <;> simp only [Oper.uponIn] at h ⊢ <;> exact h

/-- .. and back. -/
theorem wp_unfill {oi oj : Oper} {a : Act} {w : World} {v : Value} {K : Act → World → Prop} (hap : oi.apart ops oj = true) (hsj : ∀ cs b, oj.op ≠ .select cs b)
    (h : opX P oj (a.put oi.dst v) w K noExit) : opX P oj a w (fun a' w' => (∃ u, a'.tmps = (a.put oj.dst u).tmps) ∧ K (a'.put oi.dst v) w') noExit := by
  obtain ⟨h1, h2, _⟩ := Oper.apart_spec hap
  unfold opX at *
  rw [execOp_put oj hsj a oi.dst v h1] at h
  generalize (execOp a.eval oj).run P w = r at *
  cases r with
  | ok n w' =>
    cases n <;> simp only [Oper.uponIn] at h ⊢
    case value u => exact ⟨⟨u, rfl⟩, by rw [← Act.put_comm a v u h2]; exact h⟩
    case skip => exact ⟨⟨undef, rfl⟩, by rw [← Act.put_comm a v undef h2]; exact h⟩
    case defer d => exact ⟨⟨undef, defer_tmps a _ _ _⟩, by rw [← put_defer_comm a _ v _ undef d h2]; exact h⟩
    case enter f args =>
      refine ⟨h.1, CallsIn.mono h.2 fun e w'' he => ?_⟩
      cases e with
      | returned u => exact ⟨⟨u, rfl⟩, by rw [← Act.put_comm a v u h2]; exact he⟩
      | panicked c => exact he
      | outgrown => obtain ⟨_, _, h⟩ := he; exact h.elim
    case round l f tmps assign body =>
      refine ⟨h.1, RoundIn.mono h.2 fun e w'' he => ?_⟩
      cases e with
      | returned u => exact ⟨⟨u, rfl⟩, by rw [← Act.put_comm a v u h2]; exact he⟩
      | panicked c => exact he
      | outgrown => obtain ⟨_, _, h⟩ := he; exact h.elim
    case row row args => exact ⟨h.1, RowsIn.mono h.2 fun u w'' he => ⟨⟨u, rfl⟩, by rw [← Act.put_comm a v u h2]; exact he⟩⟩
  | halt x w' => cases x <;> simp only [Oper.uponIn] at h ⊢ <;> exact h

theorem apart_symm_exec {ok oj : Oper} (hap : ok.apart ops oj = true) (hsk : ∀ cs b, ok.op ≠ .select cs b) {a a' : Act} {u : Value} (h : a'.tmps = (a.put oj.dst u).tmps) :
    execOp a'.eval ok = execOp a.eval ok := by
  obtain ⟨_, _, h3⟩ := Oper.apart_spec hap
  rw [eval_tmps h]; exact execOp_put ok hsk a oj.dst u h3

theorem apart_symm_want {ok oj : Oper} (hap : ok.apart ops oj = true) {a a' : Act} {u : Value} (h : a'.tmps = (a.put oj.dst u).tmps) :
    Region.wanted ok (yielded ops a'.tmps) = Region.wanted ok (yielded ops a.tmps) := by
  obtain ⟨_, _, h3⟩ := Oper.apart_spec hap
  rw [h]; exact wanted_put ok a oj.dst u h3

theorem apart_exec {ok oj : Oper} (hap : ok.apart ops oj = true) (hsj : ∀ cs b, oj.op ≠ .select cs b) {a a' : Act} {u : Value} (h : a'.tmps = (a.put ok.dst u).tmps) :
    execOp a'.eval oj = execOp a.eval oj := by
  obtain ⟨h1, _, _⟩ := Oper.apart_spec hap
  rw [eval_tmps h]; exact execOp_put oj hsj a ok.dst u h1

theorem apart_want {ok oj : Oper} (hap : ok.apart ops oj = true) {a a' : Act} {u : Value} (h : a'.tmps = (a.put ok.dst u).tmps) :
    Region.wanted oj (yielded ops a'.tmps) = Region.wanted oj (yielded ops a.tmps) := by
  obtain ⟨h1, _, _⟩ := Oper.apart_spec hap
  rw [h]; exact wanted_put oj a ok.dst u h1

theorem apart_comm {x y : Oper} (hap : x.apart ops y = true) : y.apart ops x = true := by
  obtain ⟨q1, q2, q3⟩ := Oper.apart_spec hap
  have q2' : ∀ d, y.dst = some d → x.dst ≠ some d := fun d hd ho' => q2 d ho' hd
  unfold Oper.apart
  cases hd : y.dst with
  | none => cases hd' : x.dst with
    | none => simp
    | some d' => simp [q1 d' hd']
  | some d => cases hd' : x.dst with
    | none => simp [q3 d hd]
    | some d' => have := q2' d hd; rw [hd'] at this; simp [q3 d hd, q1 d' hd', fun e => this e]

variable (hsel : ∀ (j : Nat) (o : Oper) cs b, ops[j]? = some o → o.op ≠ .select cs b)
include hsel

/-- A reading operation further back is known to read already now. -/
theorem mixI_peek {j : Nat} {oj : Oper} (hj : ops[j]? = some oj) (hm : mk j = 0) (l2 : List Nat) : ∀ (l1 : List Nat) (a : Act) (w : World), C w →
    (∀ k ∈ l1, mk k ≠ 2 ∧ ∀ ok, ops[k]? = some ok → ok.apart ops oj = true) → mixI P ops C Q mk (l1 ++ j :: l2) a w →
    Region.wanted oj (yielded ops a.tmps) = false ∨ (Region.wanted oj (yielded ops a.tmps) = true ∧ ∃ v, Reads P C oj a v)
  | [], a, w, hC, _, h => by
    obtain ⟨o, ho, h⟩ := h
    obtain rfl : oj = o := Option.some.inj (hj.symm.trans ho)
    cases hw : Region.wanted oj (yielded ops a.tmps)
    · exact .inl rfl
    · rw [if_pos hw] at h
      rcases h with ⟨_, v, hv, _⟩ | ⟨h1, _⟩ | ⟨h1, _⟩
      · exact .inr ⟨rfl, v, hv⟩
      · omega
      · omega
  | k :: l1, a, w, hC, hall, h => by
    obtain ⟨o, ho, h⟩ := h
    have hap := (hall k (by simp)).2 o ho
    have hall' : ∀ m ∈ l1, mk m ≠ 2 ∧ ∀ ok, ops[m]? = some ok → ok.apart ops oj = true := fun m hm => hall m (by simp [hm])
    have back : ∀ a' w' u, a'.tmps = (a.put o.dst u).tmps → C w' → mixI P ops C Q mk (l1 ++ j :: l2) a' w' →
        Region.wanted oj (yielded ops a.tmps) = false ∨ (Region.wanted oj (yielded ops a.tmps) = true ∧ ∃ v, Reads P C oj a v) := fun a' w' u ht hC' h' => by
      have := mixI_peek hj hm l2 l1 a' w' hC' hall' h'
      rw [apart_want hap ht] at this
      rcases this with h1 | ⟨h1, v, hv⟩
      · exact .inl h1
      · exact .inr ⟨h1, v, hv.same (apart_exec hap (fun cs b => hsel j oj cs b hj) ht).symm⟩
    by_cases hw : Region.wanted o (yielded ops a.tmps) = true
    · rw [if_pos hw] at h
      rcases h with ⟨_, v, _, h'⟩ | ⟨_, h'⟩ | ⟨h1, _⟩
      · exact back _ w v rfl hC h'
      · obtain ⟨a', w', u, ht, hC', h''⟩ := wp_some h'
        exact back a' w' u ht hC' h''
      · exact absurd h1 (hall k (by simp)).1
    · rw [if_neg hw] at h
      exact back _ w undef rfl hC h

/-- .. and may be carried out now. -/
theorem mixI_early {j : Nat} {oj : Oper} (hj : ops[j]? = some oj) (hm : mk j = 0) (l2 : List Nat) (v : Value) : ∀ (l1 : List Nat) (a : Act) (w : World), C w →
    (∀ k ∈ l1, mk k ≠ 2 ∧ ∀ ok, ops[k]? = some ok → ok.apart ops oj = true) → mixI P ops C Q mk (l1 ++ j :: l2) a w →
    (Region.wanted oj (yielded ops a.tmps) = false ∧ v = undef ∨ Region.wanted oj (yielded ops a.tmps) = true ∧ Reads P C oj a v) →
    mixI P ops C Q mk (l1 ++ l2) (a.put oj.dst v) w
  | [], a, w, hC, _, h, hv => by
    obtain ⟨o, ho, h⟩ := h
    obtain rfl : oj = o := Option.some.inj (hj.symm.trans ho)
    rcases hv with ⟨hw, rfl⟩ | ⟨hw, hr⟩
    · rw [if_neg (by simp [hw])] at h; exact h
    · rw [if_pos hw] at h
      rcases h with ⟨_, u, hu, h'⟩ | ⟨h1, _⟩ | ⟨h1, _⟩
      · rw [hr.eq hC hu]; exact h'
      · omega
      · omega
  | k :: l1, a, w, hC, hall, h, hv => by
    obtain ⟨o, ho, h⟩ := h
    have hap := (hall k (by simp)).2 o ho
    have hall' : ∀ m ∈ l1, mk m ≠ 2 ∧ ∀ ok, ops[m]? = some ok → ok.apart ops oj = true := fun m hm => hall m (by simp [hm])
    obtain ⟨_, h2, _⟩ := Oper.apart_spec hap
    have next : ∀ a' w' u, a'.tmps = (a.put o.dst u).tmps → C w' → mixI P ops C Q mk (l1 ++ j :: l2) a' w' → mixI P ops C Q mk (l1 ++ l2) (a'.put oj.dst v) w' := fun a' w' u ht hC' h' => by
      refine mixI_early hj hm l2 v l1 a' w' hC' hall' h' ?_
      rw [apart_want hap ht]
      rcases hv with ⟨h1, h2⟩ | ⟨h1, h2⟩
      · exact .inl ⟨h1, h2⟩
      · exact .inr ⟨h1, h2.same (apart_exec hap (fun cs b => hsel j oj cs b hj) ht)⟩
    refine ⟨o, ho, ?_⟩
    rw [apart_symm_want hap (a := a) (a' := a.put oj.dst v) (u := v) rfl]
    by_cases hw : Region.wanted o (yielded ops a.tmps) = true
    · rw [if_pos hw] at h ⊢
      rcases h with ⟨h1, u, hu, h'⟩ | ⟨h1, h'⟩ | ⟨h1, _⟩
      · refine .inl ⟨h1, u, hu.same (apart_symm_exec hap (fun cs b => hsel k o cs b ho) (u := v) rfl), ?_⟩
        rw [← Act.put_comm a u v h2]
        exact next _ w u rfl hC h'
      · refine .inr (.inl ⟨h1, ?_⟩)
        have hap' : oj.apart ops o = true := apart_comm hap
        refine opX_mono (fun a' w' hh => ?_) (wp_fill hap' (fun cs b => hsel k o cs b ho) (v := v) h')
        obtain ⟨a1, u, ht, rfl, hC', h''⟩ := hh
        exact ⟨hC', next a1 w' u ht hC' h''⟩
      · exact absurd h1 (hall k (by simp)).1
    · rw [if_neg hw] at h ⊢
      rw [← Act.put_comm a undef v h2]
      exact next _ w undef rfl hC h

/-- A loud operation behind reading ones may be carried out now. -/
theorem mixI_loud {j : Nat} {oj : Oper} (hj : ops[j]? = some oj) (hm : mk j = 1) (l2 : List Nat) : ∀ (l1 : List Nat) (a : Act) (w : World), C w →
    (∀ k ∈ l1, mk k = 0 ∧ ∀ ok, ops[k]? = some ok → ok.apart ops oj = true) → mixI P ops C Q mk (l1 ++ j :: l2) a w →
    (Region.wanted oj (yielded ops a.tmps) = false ∧ mixI P ops C Q mk (l1 ++ l2) (a.put oj.dst undef) w) ∨
    (Region.wanted oj (yielded ops a.tmps) = true ∧ opX P oj a w (fun a' w' => (∃ u, a'.tmps = (a.put oj.dst u).tmps) ∧ C w' ∧ mixI P ops C Q mk (l1 ++ l2) a' w') noExit)
  | [], a, w, hC, _, h => by
    obtain ⟨o, ho, h⟩ := h
    obtain rfl : oj = o := Option.some.inj (hj.symm.trans ho)
    cases hw : Region.wanted oj (yielded ops a.tmps)
    · rw [if_neg (by simp [hw])] at h; exact .inl ⟨rfl, h⟩
    · rw [if_pos hw] at h
      rcases h with ⟨h1, _⟩ | ⟨_, h'⟩ | ⟨h1, _⟩
      · omega
      · refine .inr ⟨rfl, ?_⟩
        unfold opX at *
        generalize (execOp a.eval oj).run P w = r at *
        cases r with
        | ok n w' =>
          cases n <;> simp only [Oper.uponIn] at h' ⊢
          case value u => exact ⟨⟨u, rfl⟩, h'⟩
          case skip => exact ⟨⟨undef, rfl⟩, h'⟩
          case defer d => exact ⟨⟨undef, defer_tmps a _ _ _⟩, h'⟩
          case enter f args =>
            refine ⟨h'.1, CallsIn.mono h'.2 fun e w'' he => ?_⟩
            cases e with
            | returned u => exact ⟨⟨u, rfl⟩, he⟩
            | panicked c => exact he
            | outgrown => obtain ⟨_, _, h⟩ := he; exact h.elim
          case round l f tmps assign body =>
            refine ⟨h'.1, RoundIn.mono h'.2 fun e w'' he => ?_⟩
            cases e with
            | returned u => exact ⟨⟨u, rfl⟩, he⟩
            | panicked c => exact he
            | outgrown => obtain ⟨_, _, h⟩ := he; exact h.elim
          case row row args => exact ⟨h'.1, RowsIn.mono h'.2 fun u w'' he => ⟨⟨u, rfl⟩, he⟩⟩
        | halt x w' => cases x <;> simp only [Oper.uponIn] at h' ⊢ <;> exact h'
      · omega
  | k :: l1, a, w, hC, hall, h => by
    obtain ⟨o, ho, h⟩ := h
    have hk0 := (hall k (by simp)).1
    have hap := (hall k (by simp)).2 o ho
    have hall' : ∀ m ∈ l1, mk m = 0 ∧ ∀ ok, ops[m]? = some ok → ok.apart ops oj = true := fun m hm => hall m (by simp [hm])
    obtain ⟨_, h2, _⟩ := Oper.apart_spec hap
    -- the value that k leaves, and the rest behind it
    have key : ∀ v, (∀ a' u, a'.tmps = (a.put oj.dst u).tmps → ∀ w', mixI P ops C Q mk (l1 ++ l2) (a'.put o.dst v) w' → mixI P ops C Q mk (k :: l1 ++ l2) a' w') → mixI P ops C Q mk (l1 ++ j :: l2) (a.put o.dst v) w →
        (Region.wanted oj (yielded ops a.tmps) = false ∧ mixI P ops C Q mk (k :: l1 ++ l2) (a.put oj.dst undef) w) ∨
        (Region.wanted oj (yielded ops a.tmps) = true ∧ opX P oj a w (fun a' w' => (∃ u, a'.tmps = (a.put oj.dst u).tmps) ∧ C w' ∧ mixI P ops C Q mk (k :: l1 ++ l2) a' w') noExit) := fun v back h' => by
      have := mixI_loud hj hm l2 l1 (a.put o.dst v) w hC hall' h'
      rw [apart_want hap (a := a) (a' := a.put o.dst v) (u := v) rfl] at this
      rcases this with ⟨h1, h3⟩ | ⟨h1, h3⟩
      · refine .inl ⟨h1, back _ undef rfl w ?_⟩
        rw [← Act.put_comm a v undef h2]; exact h3
      · refine .inr ⟨h1, opX_mono (fun a' w' hh => ?_) (wp_unfill hap (fun cs b => hsel j oj cs b hj) h3)⟩
        obtain ⟨⟨u, ht⟩, _, hC', h4⟩ := hh
        exact ⟨⟨u, ht⟩, hC', back a' u ht w' h4⟩
    by_cases hw : Region.wanted o (yielded ops a.tmps) = true
    · rw [if_pos hw] at h
      rcases h with ⟨_, v, hv, h'⟩ | ⟨h1, _⟩ | ⟨h1, _⟩
      · refine key v (fun a' u ht w' h'' => ⟨o, ho, ?_⟩) h'
        rw [if_pos (by rw [apart_symm_want hap ht]; exact hw)]
        exact .inl ⟨hk0, v, hv.same (apart_symm_exec hap (fun cs b => hsel k o cs b ho) ht), h''⟩
      · omega
      · omega
    · rw [if_neg hw] at h
      refine key undef (fun a' u ht w' h'' => ⟨o, ho, ?_⟩) h
      rw [if_neg (by rw [apart_symm_want hap ht]; exact hw)]
      exact h''

omit hsel in
theorem wpOp_of_wp {j : Nat} {oj : Oper} (hj : ops[j]? = some oj) {a : Act} {w : World} {K : Act → World → Prop} (hw : Region.wanted oj (yielded ops a.tmps) = true)
    (h : opX P oj a w K noExit) : opnX P ops Q j K a w := by
  unfold opnX
  simp only [hj, hw, if_true]
  unfold opX at *
  generalize (execOp a.eval oj).run P w = r at *
  cases r with
  | ok n w' =>
    cases n <;> simp only [Oper.uponIn] at h ⊢ <;> try exact h
    case enter f args =>
      refine ⟨h.1, CallsIn.mono h.2 fun e w'' he => ?_⟩
      cases e with
      | returned u => exact he
      | panicked c => exact he.elim
      | outgrown => obtain ⟨_, _, h⟩ := he; exact h.elim
    case round l f tmps assign body =>
      refine ⟨h.1, RoundIn.mono h.2 fun e w'' he => ?_⟩
      cases e with
      | returned u => exact he
      | panicked c => exact he.elim
      | outgrown => obtain ⟨_, _, h⟩ := he; exact h.elim
  | halt x w' => cases x <;> simp only [Oper.uponIn] at h ⊢ <;> exact h.elim

omit hsel in
theorem wpOp_unwanted {j : Nat} {oj : Oper} (hj : ops[j]? = some oj) {a : Act} {w : World} {K : Act → World → Prop} (hw : Region.wanted oj (yielded ops a.tmps) = false)
    (h : K (a.put oj.dst undef) w) : opnX P ops Q j K a w := by
  unfold opnX
  simp only [hj, hw, Bool.false_eq_true, if_false]
  exact h
end

/-! ### The static look: bit k of masks[j] says that j waits for k, by the edges. -/

def bitOf (m k : Nat) : Bool := (m >>> k) % 2 == 1

/-- Certificate: each bit comes of an edge, or of an edge and a bit of an earlier operation. -/
def maskOk (ops : List Oper) (masks : List Nat) : Bool :=
  (List.range ops.length).all fun j => match ops[j]? with
    | none => true
    | some o => (List.range j).all fun k => !bitOf (masks.getD j 0) k ||
        o.after.any fun e => Region.binds .any e && (e.on == k || (Nat.blt e.on j && Nat.blt k e.on && bitOf (masks.getD e.on 0) k))

def pairOk (ops : Array Oper) (l : List Oper) (masks marks : List Nat) : Bool :=
  (List.range l.length).all fun j => match l[j]? with
    | none => true
    | some oj => (List.range j).all fun k => match l[k]? with
      | none => true
      | some ok => bitOf (masks.getD j 0) k ||
        (ok.apart ops oj && !((marks.getD k 2 == 1) && (marks.getD j 2 == 1)) && (marks.getD k 2 != 2) && (marks.getD j 2 != 2))

/-- what waits for what, computed -/
def masksOf : List Oper → List Nat → List Nat
  | [], acc => acc
  | o :: l, acc => masksOf l (acc ++ [o.after.foldl (fun s e => if Region.binds .any e then s ||| (1 <<< e.on) ||| acc.getD e.on 0 else s) 0])

def edgesBack (ops : List Oper) : Bool :=
  (List.range ops.length).all fun j => match ops[j]? with
    | none => true
    | some o => o.after.all fun e => !Region.binds .any e || Nat.blt e.on j

def noSel (ops : List Oper) : Bool := ops.all fun o => match o.op with | .select .. => false | _ => true

def hardTail (n : Nat) (marks : List Nat) : Bool := (List.range n).all fun j => (List.range j).all fun k => (marks.getD k 2 != 2) || (marks.getD j 2 == 2)

def mixOk (l : List Oper) (marks : List Nat) : Bool :=
  hardTail l.length marks && noSel l && edgesBack l && maskOk l (masksOf l []) && pairOk l.toArray l (masksOf l []) marks && marks.all (fun m => m == 0 || m == 1 || m == 2)

/-- Listed operations are closed under what they wait for. -/
structure Closed (l : List Oper) (listed : Array Bool) : Prop where
  size : listed.size = l.length
  closed : ∀ j o, l[j]? = some o → listed.getD j false = true → ∀ e ∈ o.after, Region.binds .any e = true → listed.getD e.on false = true

theorem mask_listed {l : List Oper} {masks : List Nat} (hm : maskOk l masks = true) {listed : Array Bool} (hc : Closed l listed) :
    ∀ (j : Nat) (o : Oper), l[j]? = some o → (∀ e ∈ o.after, Region.binds .any e = true → listed.getD e.on false = true) → ∀ k, k < j → bitOf (masks.getD j 0) k = true → listed.getD k false = true := by
  intro j
  induction j using Nat.strongRecOn with
  | _ j ih =>
    intro o ho hall k hk hb
    have hjl : j < l.length := (List.getElem?_eq_some_iff.1 ho).1
    have h1 := List.all_eq_true.1 hm j (List.mem_range.2 hjl)
    simp only [ho] at h1
    have h2 := List.all_eq_true.1 h1 k (List.mem_range.2 hk)
    rw [hb] at h2
    simp only [Bool.not_true, Bool.false_or] at h2
    obtain ⟨e, he, h3⟩ := Array.any_eq_true'.1 h2
    simp only [Bool.and_eq_true, Bool.or_eq_true, beq_iff_eq, Nat.blt_eq] at h3
    obtain ⟨hbind, h4⟩ := h3
    have hl := hall e he hbind
    rcases h4 with rfl | ⟨⟨h5, h6⟩, h7⟩
    · exact hl
    · have hlt : e.on < l.length := by omega
      obtain ⟨oe, hoe⟩ : ∃ oe, l[e.on]? = some oe := ⟨_, List.getElem?_eq_getElem hlt⟩
      exact ih e.on h5 oe hoe (hc.closed e.on oe hoe hl) k h6 h7

section
variable {P : Program} {l : List Oper} {C : World → Prop} {Q : Exit → Act → World → Prop} {marks : List Nat}

/-- Whatever order is picked: from the walk in the text's order. 'rest': what has not come up yet, ascending. -/
theorem wpAny_of_mixI (hB : mixOk l marks = true) : ∀ (rest : List Nat) (listed : Array Bool) (a : Act) (w : World), Closed l listed →
    (∀ i, i ∈ rest ↔ i < l.length ∧ listed.getD i false = false) → rest.Pairwise (· < ·) →
    (C w ∨ ∀ i ∈ rest, marks.getD i 2 = 2) → mixI P l.toArray C Q (fun i => marks.getD i 2) rest a w →
    anyX P .any l.toArray Q rest.length listed a w := by
  simp only [mixOk, Bool.and_eq_true] at hB
  obtain ⟨⟨⟨⟨⟨hhard, hsel⟩, hback⟩, hmask⟩, hpair⟩, hmarks⟩ := hB
  have hsel' : ∀ (j : Nat) (o : Oper) cs b, l.toArray[j]? = some o → o.op ≠ .select cs b := by
    intro j o cs b hj heq
    have := List.all_eq_true.1 hsel o (List.mem_of_getElem? (by simpa using hj))
    simp [heq] at this
  intro rest
  induction hn : rest.length generalizing rest with
  | zero =>
    intro listed a w hcl hmem hpw hC h
    have : rest = [] := List.eq_nil_of_length_eq_zero hn
    subst this
    refine ⟨?_, h⟩
    rw [List.eq_nil_iff_forall_not_mem]
    intro i hi
    obtain ⟨h0, o, ho, _⟩ := mem_ready.1 hi
    have hil : i < l.length := by have := (List.getElem?_eq_some_iff.1 (show l[i]? = some o by simpa using ho)).1; exact this
    have : i ∈ ([] : List Nat) := (hmem i).2 ⟨hil, by
      have : i < listed.size := by rw [hcl.size]; exact hil
      simp [this] at h0 ⊢; exact h0⟩
    cases this
  | succ n ih =>
    intro listed a w hcl hmem hpw hC h
    have hrest : rest ≠ [] := by intro e; subst e; simp at hn
    refine ⟨fun hnil => ?_, fun j hj => ?_⟩
    · -- the first of the rest is ready
      exfalso
      obtain ⟨i, r, rfl⟩ := List.exists_cons_of_ne_nil hrest
      have hi := (hmem i).1 (by simp)
      obtain ⟨o, ho⟩ : ∃ o, l[i]? = some o := ⟨_, List.getElem?_eq_getElem hi.1⟩
      have : i ∈ Region.ready .any l.toArray listed := mem_ready.2 ⟨by
          have hs : i < listed.size := by rw [hcl.size]; exact hi.1
          have := hi.2; simp [hs] at this ⊢; exact this, o, by simpa using ho, fun e he hb => by
        have h1 := List.all_eq_true.1 hback i (List.mem_range.2 hi.1)
        simp only [ho] at h1
        have h2 := Array.all_eq_true'.1 h1 e he
        simp only [hb, Bool.not_true, Bool.false_or, Nat.blt_eq] at h2
        cases hl : listed.getD e.on false with
        | true => rfl
        | false =>
          have h3 : e.on ∈ i :: r := (hmem e.on).2 ⟨by omega, hl⟩
          rcases List.mem_cons.1 h3 with h4 | h4
          · omega
          · have := List.rel_of_pairwise_cons hpw h4; omega⟩
      rw [hnil] at this
      cases this
    · obtain ⟨h0, oj, hoj, hall⟩ := mem_ready.1 hj
      have hojl : l[j]? = some oj := by simpa using hoj
      have hjl : j < l.length := (List.getElem?_eq_some_iff.1 hojl).1
      have hjs : j < listed.size := by rw [hcl.size]; exact hjl
      have hjun : listed.getD j false = false := by simp [hjs] at h0 ⊢; exact h0
      have hjr : j ∈ rest := (hmem j).2 ⟨hjl, hjun⟩
      obtain ⟨l1, l2, rfl⟩ := List.append_of_mem hjr
      have hpw' := hpw
      rw [List.pairwise_append] at hpw'
      obtain ⟨p1, p2, p3⟩ := hpw'
      -- what stands before j and has not come up: apart from it, not both loud, none hard
      have hbefore : ∀ k ∈ l1, k < j ∧ ∀ ok, l[k]? = some ok → ok.apart l.toArray oj = true ∧ ¬ (marks.getD k 2 = 1 ∧ marks.getD j 2 = 1) ∧ marks.getD k 2 ≠ 2 ∧ marks.getD j 2 ≠ 2 := by
        intro k hk
        have hkj : k < j := p3 k hk j (by simp)
        refine ⟨hkj, fun ok hok => ?_⟩
        have h1 := List.all_eq_true.1 hpair j (List.mem_range.2 hjl)
        simp only [hojl] at h1
        have h2 := List.all_eq_true.1 h1 k (List.mem_range.2 hkj)
        simp only [hok, Bool.or_eq_true] at h2
        rcases h2 with h2 | h2
        · have h3 := mask_listed hmask hcl j oj hojl hall k hkj h2
          have := ((hmem k).1 (by simp [hk])).2
          rw [h3] at this
          cases this
        · simp only [Bool.and_eq_true, Bool.not_eq_true', Bool.and_eq_false_iff, beq_eq_false_iff_ne, bne_iff_ne] at h2
          obtain ⟨⟨⟨q1, q2⟩, q3⟩, q4⟩ := h2
          exact ⟨q1, fun hh => by rcases q2 with q2 | q2 <;> simp_all, q3, q4⟩
      have hlen : (l1 ++ l2).length = n := by simp at hn ⊢; omega
      have hmem' : ∀ i, i ∈ l1 ++ l2 ↔ i < l.length ∧ (listed.setIfInBounds j true).getD i false = false := by
        intro i
        by_cases hij : j = i
        · subst hij
          have hnot : j ∉ l1 ++ l2 := by
            intro hh
            rcases List.mem_append.1 hh with hh | hh
            · have := p3 j hh j (by simp); omega
            · have := List.rel_of_pairwise_cons p2 hh; omega
          simp [hnot, hjs]
        · rw [getD_set_ne false hij, ← hmem i]
          simp [Ne.symm hij]
      have hpw2 : (l1 ++ l2).Pairwise (· < ·) := by
        rw [List.pairwise_append]
        exact ⟨p1, (List.pairwise_cons.1 p2).2, fun x hx y hy => p3 x hx y (by simp [hy])⟩
      have hcl' : Closed l (listed.setIfInBounds j true) := ⟨by simp [hcl.size], fun m om hom hm e he hb => by
        by_cases hjm : j = m
        · subst hjm
          obtain rfl : oj = om := Option.some.inj (hojl.symm.trans hom)
          exact getD_set_true (hall e he hb)
        · rw [getD_set_ne false hjm] at hm
          exact getD_set_true (hcl.closed m om hom hm e he hb)⟩
      have go : ∀ a' w', (C w' ∨ ∀ i ∈ l1 ++ l2, marks.getD i 2 = 2) → mixI P l.toArray C Q (fun i => marks.getD i 2) (l1 ++ l2) a' w' → anyX P .any l.toArray Q n (listed.setIfInBounds j true) a' w' := fun a' w' hC' h' => by
        have := ih (l1 ++ l2) hlen (listed.setIfInBounds j true) a' w' hcl' hmem' hpw2 hC' h'
        exact this
      have hmk : marks.getD j 2 = 0 ∨ marks.getD j 2 = 1 ∨ marks.getD j 2 = 2 := by
        rcases Nat.lt_or_ge j marks.length with h' | h'
        · have h1 := List.all_eq_true.1 hmarks marks[j] (List.getElem_mem h')
          simp only [Bool.or_eq_true, beq_iff_eq] at h1
          have : marks.getD j 2 = marks[j] := by simp [h']
          rw [this]; omega
        · right; right; simp [h']
      rcases hmk with hmk | hmk | hmk
      · -- it reads
        have hCw : C w := by
          rcases hC with h' | h'
          · exact h'
          · have := h' j hjr; omega
        have hb' : ∀ k ∈ l1, (fun i => marks.getD i 2) k ≠ 2 ∧ ∀ ok, l.toArray[k]? = some ok → ok.apart l.toArray oj = true := fun k hk => by
          have hkl := ((hmem k).1 (by simp [hk])).1
          exact ⟨((hbefore k hk).2 _ (List.getElem?_eq_getElem hkl)).2.2.1, fun ok hok => ((hbefore k hk).2 ok (by simpa using hok)).1⟩
        rcases mixI_peek hsel' hoj hmk l2 l1 a w hCw hb' h with hw | ⟨hw, v, hv⟩
        · exact wpOp_unwanted hoj hw (go _ w (.inl hCw) (mixI_early hsel' hoj hmk l2 undef l1 a w hCw hb' h (.inl ⟨hw, rfl⟩)))
        · exact wpOp_of_wp hoj hw (hv.wp hCw (go _ w (.inl hCw) (mixI_early hsel' hoj hmk l2 v l1 a w hCw hb' h (.inr ⟨hw, hv⟩))))
      · -- it is loud
        have hCw : C w := by
          rcases hC with h' | h'
          · exact h'
          · have := h' j hjr; omega
        have hb' : ∀ k ∈ l1, (fun i => marks.getD i 2) k = 0 ∧ ∀ ok, l.toArray[k]? = some ok → ok.apart l.toArray oj = true := fun k hk => by
          have hkl := ((hmem k).1 (by simp [hk])).1
          have q := (hbefore k hk).2 _ (List.getElem?_eq_getElem hkl)
          have hk3 : marks.getD k 2 = 0 ∨ marks.getD k 2 = 1 ∨ marks.getD k 2 = 2 := by
            rcases Nat.lt_or_ge k marks.length with h' | h'
            · have h1 := List.all_eq_true.1 hmarks marks[k] (List.getElem_mem h')
              simp only [Bool.or_eq_true, beq_iff_eq] at h1
              have : marks.getD k 2 = marks[k] := by simp [h']
              rw [this]; omega
            · right; right; simp [h']
          refine ⟨?_, fun ok hok => ((hbefore k hk).2 ok (by simpa using hok)).1⟩
          rcases hk3 with h' | h' | h'
          · exact h'
          · exact absurd ⟨h', hmk⟩ q.2.1
          · exact absurd h' q.2.2.1
        rcases mixI_loud hsel' hoj hmk l2 l1 a w hCw hb' h with ⟨hw, h'⟩ | ⟨hw, h'⟩
        · exact wpOp_unwanted hoj hw (go _ w (.inl hCw) h')
        · exact wpOp_of_wp hoj hw (opX_mono (fun a' w' hh => go a' w' (.inl hh.2.1) hh.2.2) h')
      · -- the forced tail
        have hl1 : l1 = [] := by
          cases l1 with
          | nil => rfl
          | cons k r =>
            exfalso
            have hkl := ((hmem k).1 (by simp)).1
            exact ((hbefore k (by simp)).2 _ (List.getElem?_eq_getElem hkl)).2.2.2 hmk
        subst hl1
        have htail : ∀ i ∈ l2, marks.getD i 2 = 2 := by
          intro i hi
          have hji : j < i := List.rel_of_pairwise_cons p2 hi
          have hil := ((hmem i).1 (by simp [hi])).1
          have h1 := List.all_eq_true.1 (List.all_eq_true.1 hhard i (List.mem_range.2 hil)) j (List.mem_range.2 hji)
          simp only [hmk, bne_self_eq_false, Bool.false_or, beq_iff_eq] at h1
          exact h1
        obtain ⟨o, ho, h'⟩ := h
        obtain rfl : oj = o := Option.some.inj (hoj.symm.trans ho)
        cases hw : Region.wanted oj (yielded l.toArray a.tmps)
        · rw [if_neg (by simp [hw])] at h'
          exact wpOp_unwanted hoj hw (go _ w (.inr htail) h')
        · rw [if_pos hw] at h'
          rcases h' with ⟨h1, _⟩ | ⟨h1, _⟩ | ⟨_, h'⟩
          · simp only at h1; omega
          · simp only at h1; omega
          · exact wpOp_of_wp hoj hw (opX_mono (fun a' w' hh => go a' w' (.inr htail) hh) h')
end

/-- The walk in the text's order, over the operations themselves and their marks. -/
def mixL (P : Program) (ops : Array Oper) (C : World → Prop) (Q : Exit → Act → World → Prop) : List Nat → List Oper → Act → World → Prop
  | _, [], a, w => Q .normal a w
  | [], _ :: _, _, _ => False
  | m :: ms, o :: rest, a, w =>
    if Region.wanted o (yielded ops a.tmps) then
      (m = 0 ∧ ∃ v, Reads P C o a v ∧ mixL P ops C Q ms rest (a.put o.dst v) w) ∨
      (m = 1 ∧ opX P o a w (fun a' w' => C w' ∧ mixL P ops C Q ms rest a' w') noExit) ∨
      (m = 2 ∧ opX P o a w (fun a' w' => mixL P ops C Q ms rest a' w') noExit)
    else mixL P ops C Q ms rest (a.put o.dst undef) w

theorem mixI_of_mixL {P : Program} {l : List Oper} {C : World → Prop} {Q : Exit → Act → World → Prop} {marks : List Nat} : ∀ (n k : Nat) (a : Act) (w : World), k + n = l.length →
    mixL P l.toArray C Q (marks.drop k) (l.drop k) a w → mixI P l.toArray C Q (fun i => marks.getD i 2) (List.range' k n) a w := by
  intro n
  induction n with
  | zero =>
    intro k a w hk h
    have : l.drop k = [] := List.drop_eq_nil_of_le (by omega)
    rw [this] at h
    simp only [List.range'_zero, mixI]
    cases hm : marks.drop k <;> rw [hm] at h <;> exact h
  | succ n ih =>
    intro k a w hk h
    have hkl : k < l.length := by omega
    rw [List.drop_eq_getElem_cons hkl] at h
    rw [List.range'_succ]
    rcases Nat.lt_or_ge k marks.length with hkm | hkm
    · rw [List.drop_eq_getElem_cons hkm] at h
      have hm : marks.getD k 2 = marks[k] := by simp [hkm]
      refine ⟨l[k], by simp [hkl], ?_⟩
      simp only [mixL] at h
      split at h
      · rename_i hw
        rw [if_pos hw]
        simp only [hm]
        rcases h with ⟨h1, v, hv, h2⟩ | ⟨h1, h2⟩ | ⟨h1, h2⟩
        · exact .inl ⟨h1, v, hv, ih (k + 1) _ _ (by omega) h2⟩
        · exact .inr (.inl ⟨h1, opX_mono (fun a' w' hh => ⟨hh.1, ih (k + 1) a' w' (by omega) hh.2⟩) h2⟩)
        · exact .inr (.inr ⟨h1, opX_mono (fun a' w' hh => ih (k + 1) a' w' (by omega) hh) h2⟩)
      · rename_i hw
        rw [if_neg hw]
        exact ih (k + 1) _ _ (by omega) h
    · rw [List.drop_eq_nil_of_le hkm] at h
      exact h.elim

/-- A region that draws its order: one walk in the text's order serves. -/
theorem wp_region_mix {P : Program} {ρ : Option Nat} {id : Nat} {l : List Oper} {C : World → Prop} {Q : Exit → Act → World → Prop} {a : Act} {w : World} (marks : List Nat) (hp : Plain ρ l) (hm : P.follows .mixedOrders = true)
    (hB : mixOk l marks = true) (hC : C { w with drawn := w.drawn + 1 }) (h : mixL P l.toArray C Q marks l a { w with drawn := w.drawn + 1 }) : cdX ρ P (.region id l.toArray true) Q a w := by
  refine cd_any hp hm ?_
  have := wpAny_of_mixI hB (List.range l.length) (Array.replicate l.toArray.size false) a { w with drawn := w.drawn + 1 }
    ⟨by simp, fun j o _ hj => by simp [Array.getElem?_replicate] at hj; split at hj <;> simp at hj⟩
    (fun i => by simp [Array.getElem?_replicate]; intro hi; simp [hi]) List.pairwise_lt_range (.inl hC)
    (by rw [List.range_eq_range']; exact mixI_of_mixL l.length 0 a _ (by omega) (by simpa using h))
  simpa using this
end Go.Proofs.YtbcnnkcddilfjaaGreat
