/-
  Parts of the walk: Free.
-/
import Derived.Test.YtchonigdjamphaaGreatDoorQ4
namespace Go.Proofs.YtchonigdjamphaaGreatDoor
open Go.RowKit
set_option linter.unusedSimpArgs false
set_option linter.unusedVariables false
set_option maxHeartbeats 600000
set_option maxRecDepth 20000
def Frees (P : Program) (o : Oper) (a : Act) (val : Nat → Value) (cs : List Value) (T : TypeId) : Prop :=
  ∀ w : World, (execOp a.eval o).run P w = .ok (.value (val w.heap.size)) (w.alloc (.cells cs.toArray T))
def g5 (o : Oper) (a : Act) : Option Nat := match o.op with
  | .convert _ _ x => (match a.eval x with | .slice (some ad) _ _ => some ad.block | _ => none)
  | .load _ x => (match a.eval x with | .pointer (some ad) => some ad.block | _ => none)
  | _ => none
def zf (z : List Ent) (b : Nat) : Prop := ∀ e ∈ z, e.ob ≠ some b
def ZOk (z : List Ent) : Prop := ∀ e ∈ z, ∀ e' ∈ z, ∀ b, e.ob = some b → e'.ob = some b → e = e'
section
variable (P : Program) (ops : Array Oper) (ok : Nat → Prop) (w0 : World) (C : World → Prop) (F : Act → World → Prop) (mk : Nat → Nat)
def te (own : List Ent) (fs : List Fact) : Prop := ∀ ext w, St ok w0 (ext ++ own) fs w → C w
def dd : List Nat → Act → List Ent → List Ent → List Fact → Prop
  | [], a, z, own, fs => ∀ w, St ok w0 (z ++ own) fs w → F a w
  | i :: l, a, z, own, fs => ∃ o, ops[i]? = some o ∧
    if Region.wanted o (yielded ops a.tmps) then
      (mk i = 0 ∧ ∃ v, Reads P C o a v ∧ dd l (a.put o.dst v) z own fs) ∨
      (mk i = 1 ∧ ∃ (γ : Type) (val : γ → Value) (p : γ → Prop) (own' : γ → List Ent) (fs' : γ → List Fact),
        (∀ ext w, St ok w0 (ext ++ own) fs w → opX P o a w (fun a' w' => ∃ g, a' = a.put o.dst (val g) ∧ p g ∧ St ok w0 (ext ++ own' g) (fs' g) w') bN) ∧
        ∀ g, p g → te ok w0 C (own' g) (fs' g) ∧ dd l (a.put o.dst (val g)) z (own' g) (fs' g)) ∨
      (mk i = 3 ∧ ∃ val cs T, Frees P o a val cs T ∧ ∀ b, dd l (a.put o.dst (val b)) z (⟨some b, cs, T⟩ :: own) fs) ∨
      (mk i = 5 ∧ ∃ val cs T, Frees P o a val cs T ∧ ∀ b, zf z b → dd l (a.put o.dst (val b)) (⟨some b, cs, T⟩ :: z) own fs) ∨
      (mk i = 4 ∧ ∃ b cs T v, (⟨some b, cs, T⟩ : Ent) ∈ z ∧ g5 o a = some b ∧ Reads P (St ok w0 [⟨some b, cs, T⟩] []) o a v ∧ dd l (a.put o.dst v) z own fs)
    else dd l (a.put o.dst undef) z own fs
end
theorem zf.mem {z z' : List Ent} {b : Nat} (h : zf z b) (hs : ∀ e ∈ z', e ∈ z) : zf z' b := fun e he => h e (hs e he)
theorem zf.cons {z : List Ent} {b b' : Nat} {cs : List Value} {T : TypeId} (h : zf z b) (hb : b' ≠ b) : zf (⟨some b', cs, T⟩ :: z) b := fun e he => by
  rcases Be.1 he with rfl | he
  · simpa using hb
  · exact h e he
theorem ZOk.cons {z : List Ent} {b : Nat} {cs : List Value} {T : TypeId} (h : ZOk z) (hb : zf z b) : ZOk (⟨some b, cs, T⟩ :: z) := fun e he e' he' q h1 h2 => by
  rcases Be.1 he with rfl | he <;> rcases Be.1 he' with rfl | he'
  · rfl
  · simp at h1; subst h1; exact absurd h2 (hb _ he')
  · simp at h2; subst h2; exact absurd h1 (hb _ he)
  · exact h e he e' he' q h1 h2
theorem St.zf {ok : Nat → Prop} {w0 w : World} {z own : List Ent} {fs : List Fact} {m : Nat} (h : St ok w0 (z ++ own) fs w) (hm : w.heap.size ≤ m) : zf z m := fun e he hb => by
  obtain ⟨k, hk⟩ := List.getElem?_of_mem (D0 own he)
  obtain ⟨ob, cs, T⟩ := e
  simp only at hb; subst hb
  have := (B5.1 (h.block hk)).1
  omega
theorem fX {ops : Array Oper} (o : Oper) (a : Act) (dst : Option Tmp) (v : Value) (h : ∀ d, dst = some d → d ∉ o.looksAt ops) : g5 o (a.put dst v) = g5 o a := by
  have ev : ∀ x, x ∈ o.op.operands.toList → (a.put dst v).eval x = a.eval x := fun x hx => Act.eval_put fun d hd hxd => h d hd (by
    subst hxd
    exact D0 _ (List.mem_filterMap.2 ⟨.tmp d, hx, rfl⟩))
  unfold g5
  cases hop : o.op <;> simp only [hop] at ev ⊢
  case convert t t2 x => rw [ev x (by simp [Op.operands])]
  case load t x => rw [ev x (by simp [Op.operands])]
section
variable {ds : List Deferred} {ρ : Option Nat} {P : Program} {ops : Array Oper} {ok : Nat → Prop} {w0 : World} {C : World → Prop} {F : Act → World → Prop} {mk : Nat → Nat}
theorem Frees.same {o : Oper} {a a' : Act} {val : Nat → Value} {cs : List Value} {T : TypeId} (h : Frees P o a val cs T) (he : execOp a'.eval o = execOp a.eval o) : Frees P o a' val cs T := by
  unfold Frees at *; rw [he]; exact h
theorem Frees.eq {o : Oper} {a : Act} {val val' : Nat → Value} {cs cs' : List Value} {T T' : TypeId} (w : World) (h : Frees P o a val cs T) (k : Frees P o a val' cs' T') : val = val' ∧ cs = cs' ∧ T = T' := by
  have key : ∀ b : Nat, val b = val' b ∧ cs = cs' ∧ T = T' := fun b => by
    have h1 := h { w with heap := Array.replicate b (.cells #[] 0) }
    have k1 := k { w with heap := Array.replicate b (.cells #[] 0) }
    rw [h1] at k1
    simp only [Result.ok.injEq, Next.value.injEq, Array.size_replicate, World.alloc, World.mk.injEq, Array.push_inj_left, Array.push_eq_push] at k1
    obtain ⟨e1, e2⟩ := k1
    simp at e2
    exact ⟨e1, e2.1, e2.2⟩
  exact ⟨funext fun b => (key b).1, (key 0).2.1, (key 0).2.2⟩
theorem dj : ∀ (l : List Nat) (a : Act) (z z' own own' : List Ent) (fs : List Fact), z'.Perm z → own'.Perm own → dd P ops ok w0 C F mk l a z own fs → dd P ops ok w0 C F mk l a z' own' fs
  | [], a, z, z', own, own', fs, hz, hp, h => fun w hS => h w (hS.perm (List.Perm.append hz.symm hp.symm))
  | i :: l, a, z, z', own, own', fs, hz, hp, h => by
    obtain ⟨o, ho, h⟩ := h
    refine ⟨o, ho, ?_⟩
    split
    · rename_i hw
      rw [Ae hw] at h
      rcases h with ⟨h1, v, hv, h⟩ | ⟨h1, γ, val, p, ow, f, hs, h⟩ | ⟨h1, val, cs, T, hf, h⟩ | ⟨h1, val, cs, T, hf, h⟩ | ⟨h1, b, cs, T, v, hm, hb, hv, h⟩
      · exact .inl ⟨h1, v, hv, dj l _ z z' own own' fs hz hp h⟩
      · exact .inr (.inl ⟨h1, γ, val, p, ow, f, fun ext w hS => hs ext w (hS.perm (List.Perm.append_left ext hp.symm)), fun g hg => ⟨(h g hg).1, dj l _ z z' _ _ _ hz (List.Perm.refl _) (h g hg).2⟩⟩)
      · exact .inr (.inr (.inl ⟨h1, val, cs, T, hf, fun b => dj l _ z z' _ _ fs hz (hp.cons _) (h b)⟩))
      · exact .inr (.inr (.inr (.inl ⟨h1, val, cs, T, hf, fun b hb => dj l _ _ _ _ _ fs (hz.cons _) hp (h b (hb.mem fun e he => hz.mem_iff.2 he))⟩)))
      · exact .inr (.inr (.inr (.inr ⟨h1, b, cs, T, v, hz.mem_iff.2 hm, hb, hv, dj l _ z z' own own' fs hz hp h⟩)))
    · rename_i hw
      rw [Aa hw] at h
      exact dj l _ z z' own own' fs hz hp h
theorem m9 {γ : Type} {val : γ → Value} {R : γ → World → Prop} {oi oj : Oper} {a : Act} {w : World} {v : Value} (hap : oi.apart ops oj = true) (hsj : ∀ cs b, oj.op ≠ .select cs b)
    (h : opX P oj a w (fun a' w' => ∃ g, a' = a.put oj.dst (val g) ∧ R g w') bN) : opX P oj (a.put oi.dst v) w (fun a' w' => ∃ g, a' = (a.put oi.dst v).put oj.dst (val g) ∧ R g w') bN := by
  obtain ⟨_, h2, _⟩ := Oper.apart_spec hap
  refine bp (fun a' w' hh => ?_) (qj hap hsj (v := v) h)
  obtain ⟨a1, u, _, rfl, g, rfl, hR⟩ := hh
  exact ⟨g, (Act.put_comm a v (val g) h2).symm, hR⟩
theorem f8 {a : Act} {d e : Option Tmp} {v u x : Value} (h : (a.put d v).put e u = (a.put d v).put e x) : a.put e u = a.put e x := by
  cases e with
  | none => rfl
  | some e =>
    have h1 := congrArg (fun a : Act => a.tmps[e]?) h
    by_cases hlt : e < a.tmps.size
    · have : e < (a.put d v).tmps.size := by cases d <;> simp [Act.put, hlt]
      simp [Act.put] at h1
      cases d <;> simp [hlt] at h1 <;> rw [h1]
    · simp only [Act.put]
      rw [Array.setIfInBounds_eq_of_size_le (Nat.le_of_not_lt hlt), Array.setIfInBounds_eq_of_size_le (Nat.le_of_not_lt hlt)]
theorem wq {γ : Type} {val : γ → Value} {R : γ → World → Prop} {oi oj : Oper} {a : Act} {w : World} {v : Value} (hap : oi.apart ops oj = true) (hsj : ∀ cs b, oj.op ≠ .select cs b)
    (h : opX P oj (a.put oi.dst v) w (fun a' w' => ∃ g, a' = (a.put oi.dst v).put oj.dst (val g) ∧ R g w') bN) : opX P oj a w (fun a' w' => ∃ g, a' = a.put oj.dst (val g) ∧ R g w') bN := by
  obtain ⟨h1, h2, _⟩ := Oper.apart_spec hap
  unfold opX at *
  rw [execOp_put oj hsj a oi.dst v h1] at h
  generalize (execOp a.eval oj).run P w = r at *
  cases r with
  | ok n w' =>
    cases n <;> simp only [Oper.uponIn] at h ⊢
    case value u => obtain ⟨g, e, hR⟩ := h; exact ⟨g, f8 e, hR⟩
    case skip => obtain ⟨g, e, hR⟩ := h; exact ⟨g, f8 e, hR⟩
    case defer d =>
      obtain ⟨g, e, hR⟩ := h
      exfalso
      have := congrArg (fun a : Act => a.defers.length) e
      cases hd : oj.dst <;> cases hd' : oi.dst <;> simp [Act.put, hd, hd'] at this
    case enter f args =>
      refine ⟨h.1, CallsIn.mono h.2 fun e w'' he => ?_⟩
      cases e with
      | returned u => obtain ⟨g, e, hR⟩ := he; exact ⟨g, f8 e, hR⟩
      | panicked c => exact he
      | outgrown => obtain ⟨_, _, h⟩ := he; exact h.elim
    case round l f tmps assign body =>
      refine ⟨h.1, RoundIn.mono h.2 fun e w'' he => ?_⟩
      cases e with
      | returned u => obtain ⟨g, e, hR⟩ := he; exact ⟨g, f8 e, hR⟩
      | panicked c => exact he
      | outgrown => obtain ⟨_, _, h⟩ := he; exact h.elim
    case row row args => exact ⟨h.1, RowsIn.mono h.2 fun u w'' he => by obtain ⟨g, e, hR⟩ := he; exact ⟨g, f8 e, hR⟩⟩
  | halt x w' => cases x <;> simp only [Oper.uponIn] at h ⊢ <;> exact h
variable (hsel : ∀ (j : Nat) (o : Oper) cs b, ops[j]? = some o → o.op ≠ .select cs b)
include hsel
theorem eY {j : Nat} {oj : Oper} (hj : ops[j]? = some oj) (hm : mk j ≠ 1) (l2 : List Nat) : ∀ (l1 : List Nat) (a : Act) (z own : List Ent) (fs : List Fact) (w : World), St ok w0 (z ++ own) fs w →
    (∀ k ∈ l1, ∀ ok, ops[k]? = some ok → ok.apart ops oj = true) → dd P ops ok w0 C F mk (l1 ++ j :: l2) a z own fs →
    Region.wanted oj (yielded ops a.tmps) = false ∨ (Region.wanted oj (yielded ops a.tmps) = true ∧ ((mk j = 0 ∧ ∃ v, Reads P C oj a v) ∨ ((mk j = 3 ∨ mk j = 5) ∧ ∃ val cs T, Frees P oj a val cs T) ∨
      (mk j = 4 ∧ ∃ b cs T v, (⟨some b, cs, T⟩ : Ent) ∈ z ∧ g5 oj a = some b ∧ Reads P (St ok w0 [⟨some b, cs, T⟩] []) oj a v)))
  | [], a, z, own, fs, w, hS, _, h => by
    obtain ⟨o, ho, h⟩ := h
    obtain rfl : oj = o := Option.some.inj (hj.symm.trans ho)
    cases hw : Region.wanted oj (yielded ops a.tmps)
    · exact .inl rfl
    · rw [Ae hw] at h
      rcases h with ⟨h1, v, hv, _⟩ | ⟨h1, _⟩ | ⟨h1, val, cs, T, hf, _⟩ | ⟨h1, val, cs, T, hf, _⟩ | ⟨h1, b, cs, T, v, h2, h3, h4, _⟩
      · exact .inr ⟨rfl, .inl ⟨h1, v, hv⟩⟩
      · exact absurd h1 hm
      · exact .inr ⟨rfl, .inr (.inl ⟨.inl h1, val, cs, T, hf⟩)⟩
      · exact .inr ⟨rfl, .inr (.inl ⟨.inr h1, val, cs, T, hf⟩)⟩
      · exact .inr ⟨rfl, .inr (.inr ⟨h1, b, cs, T, v, h2, h3, h4⟩)⟩
  | k :: l1, a, z, own, fs, w, hS, hall, h => by
    obtain ⟨o, ho, h⟩ := h
    have hap := hall k (by simp) o ho
    have hall' : ∀ m ∈ l1, ∀ ok, ops[m]? = some ok → ok.apart ops oj = true := fun m hm => hall m (by simp [hm])
    have back : ∀ u z' own' fs' w', (∀ b, g5 oj a = some b → ∀ cs T, (⟨some b, cs, T⟩ : Ent) ∈ z' → (⟨some b, cs, T⟩ : Ent) ∈ z) → St ok w0 (z' ++ own') fs' w' → dd P ops ok w0 C F mk (l1 ++ j :: l2) (a.put o.dst u) z' own' fs' →
        Region.wanted oj (yielded ops a.tmps) = false ∨ (Region.wanted oj (yielded ops a.tmps) = true ∧ ((mk j = 0 ∧ ∃ v, Reads P C oj a v) ∨ ((mk j = 3 ∨ mk j = 5) ∧ ∃ val cs T, Frees P oj a val cs T) ∨
      (mk j = 4 ∧ ∃ b cs T v, (⟨some b, cs, T⟩ : Ent) ∈ z ∧ g5 oj a = some b ∧ Reads P (St ok w0 [⟨some b, cs, T⟩] []) oj a v))) := fun u z' own' fs' w' hz hS' h' => by
      have := eY hj hm l2 l1 (a.put o.dst u) z' own' fs' w' hS' hall' h'
      rw [cH hap (a := a) (u := u) rfl, fX oj a o.dst u (Oper.apart_spec hap).1] at this
      have hex := (dh hap (fun cs b => hsel j oj cs b hj) (a := a) (u := u) (a' := a.put o.dst u) rfl).symm
      rcases this with h1 | ⟨h1, h2 | h2 | h2⟩
      · exact .inl h1
      · obtain ⟨h3, v, hv⟩ := h2; exact .inr ⟨h1, .inl ⟨h3, v, hv.same hex⟩⟩
      · obtain ⟨h3, val, cs, T, hf⟩ := h2; exact .inr ⟨h1, .inr (.inl ⟨h3, val, cs, T, hf.same hex⟩)⟩
      · obtain ⟨h3, b, cs, T, v, h4, h5, h6⟩ := h2; exact .inr ⟨h1, .inr (.inr ⟨h3, b, cs, T, v, hz b h5 cs T h4, h5, h6.same hex⟩)⟩
    by_cases hw : Region.wanted o (yielded ops a.tmps) = true
    · rw [Ae hw] at h
      rcases h with ⟨_, v, _, h'⟩ | ⟨_, γ, val, p, ow, f, hs, h'⟩ | ⟨_, val, cs, T, hf, h'⟩ | ⟨_, val, cs, T, hf, h'⟩ | ⟨_, b, cs, T, v, _, _, _, h'⟩
      · exact back v z own fs w (fun _ _ _ _ h => h) hS h'
      · obtain ⟨a', w', u, _, g, rfl, hp, hS'⟩ := qi (hs z w hS)
        exact back (val g) z _ _ w' (fun _ _ _ _ h => h) hS' (h' g hp).2
      · exact back _ z _ fs _ (fun _ _ _ _ h => h) ((hS.alloc cs T).perm List.perm_middle) (h' w.heap.size)
      · obtain ⟨w1, hS1, hne⟩ : ∃ w1, St ok w0 (z ++ own) fs w1 ∧ g5 oj a ≠ some w1.heap.size := by
          by_cases hq : g5 oj a = some w.heap.size
          · refine ⟨_, (hS.alloc [] 0).sub (Bm _ _) (fun _ h => h), ?_⟩
            rw [hq]; show some w.heap.size ≠ some (w.heap.push _).size; simp
          · exact ⟨w, hS, hq⟩
        refine back _ _ _ fs _ (fun b hb cs' T' hmem => ?_) (hS1.alloc cs T) (h' w1.heap.size (hS1.zf (Ba _)))
        rcases Be.1 hmem with hh | hh
        · simp only [Ent.mk.injEq, Option.some.injEq] at hh; rw [hh.1] at hb; exact absurd hb hne
        · exact hh
      · exact back v z own fs w (fun _ _ _ _ h => h) hS h'
    · rw [Aa hw] at h
      exact back undef z own fs w (fun _ _ _ _ h => h) hS h
theorem fD {j : Nat} {oj : Oper} (hj : ops[j]? = some oj) (l2 : List Nat) (v : Value) {wc : World} (hC : C wc) : ∀ (l1 : List Nat) (a : Act) (z own : List Ent) (fs : List Fact), ZOk z →
    (∀ k ∈ l1, ∀ ok, ops[k]? = some ok → ok.apart ops oj = true) → dd P ops ok w0 C F mk (l1 ++ j :: l2) a z own fs →
    (Region.wanted oj (yielded ops a.tmps) = false ∧ v = undef ∨ mk j = 0 ∧ Region.wanted oj (yielded ops a.tmps) = true ∧ Reads P C oj a v ∨
      mk j = 4 ∧ Region.wanted oj (yielded ops a.tmps) = true ∧ ∃ b cs T, (⟨some b, cs, T⟩ : Ent) ∈ z ∧ g5 oj a = some b ∧ Reads P (St ok w0 [⟨some b, cs, T⟩] []) oj a v ∧ St ok w0 [⟨some b, cs, T⟩] [] wc) →
    dd P ops ok w0 C F mk (l1 ++ l2) (a.put oj.dst v) z own fs
  | [], a, z, own, fs, hZ, _, h, hv => by
    obtain ⟨o, ho, h⟩ := h
    obtain rfl : oj = o := Option.some.inj (hj.symm.trans ho)
    rcases hv with ⟨hw, rfl⟩ | ⟨hm, hw, hr⟩ | ⟨hm, hw, b, cs, T, hz, hb, hr, hwc⟩
    · rw [Aa (by simp [hw])] at h; exact h
    · rw [Ae hw] at h
      rcases h with ⟨_, u, hu, h'⟩ | ⟨h1, _⟩ | ⟨h1, _⟩ | ⟨h1, _⟩ | ⟨h1, _⟩
      · rw [hr.eq hC hu]; exact h'
      · omega
      · omega
      · omega
      · omega
    · rw [Ae hw] at h
      rcases h with ⟨h1, _⟩ | ⟨h1, _⟩ | ⟨h1, _⟩ | ⟨h1, _⟩ | ⟨_, b', cs', T', u, hz', hb', hu, h'⟩
      · omega
      · omega
      · omega
      · omega
      · obtain rfl : b = b' := Option.some.inj (hb.symm.trans hb')
        have := hZ _ hz _ hz' b rfl rfl
        simp only [Ent.mk.injEq, true_and] at this
        obtain ⟨rfl, rfl⟩ := this
        rw [hr.eq hwc hu]; exact h'
  | k :: l1, a, z, own, fs, hZ, hall, h, hv => by
    obtain ⟨o, ho, h⟩ := h
    have hap := hall k (by simp) o ho
    have hall' : ∀ m ∈ l1, ∀ ok, ops[m]? = some ok → ok.apart ops oj = true := fun m hm => hall m (by simp [hm])
    obtain ⟨_, h2, _⟩ := Oper.apart_spec hap
    have hap' : oj.apart ops o = true := fO hap
    have next : ∀ u z' own' fs', ZOk z' → (∀ e ∈ z, e ∈ z') → dd P ops ok w0 C F mk (l1 ++ j :: l2) (a.put o.dst u) z' own' fs' → dd P ops ok w0 C F mk (l1 ++ l2) ((a.put oj.dst v).put o.dst u) z' own' fs' := fun u z' own' fs' hZ' hzz h' => by
      rw [← Act.put_comm a u v h2]
      refine fD hj l2 v hC l1 _ z' own' fs' hZ' hall' h' ?_
      rw [cH hap (a := a) (u := u) rfl, fX oj a o.dst u (Oper.apart_spec hap).1]
      rcases hv with ⟨h1, h3⟩ | ⟨hm, h1, h3⟩ | ⟨hm, h1, b, cs, T, h3, h4, h5, h6⟩
      · exact .inl ⟨h1, h3⟩
      · exact .inr (.inl ⟨hm, h1, h3.same (dh hap (fun cs b => hsel j oj cs b hj) (u := u) rfl)⟩)
      · exact .inr (.inr ⟨hm, h1, b, cs, T, hzz _ h3, h4, h5.same (dh hap (fun cs b => hsel j oj cs b hj) (u := u) rfl), h6⟩)
    refine ⟨o, ho, ?_⟩
    rw [bh hap (a := a) (a' := a.put oj.dst v) (u := v) rfl]
    have hex := bI hap (fun cs b => hsel k o cs b ho) (a := a) (a' := a.put oj.dst v) (u := v) rfl
    have hsr : g5 o (a.put oj.dst v) = g5 o a := fX o a oj.dst v (Oper.apart_spec hap').1
    by_cases hw : Region.wanted o (yielded ops a.tmps) = true
    · rw [Ae hw] at h ⊢
      rcases h with ⟨h1, u, hu, h'⟩ | ⟨h1, γ, val, p, ow, f, hs, h'⟩ | ⟨h1, val, cs, T, hf, h'⟩ | ⟨h1, val, cs, T, hf, h'⟩ | ⟨h1, b, cs, T, u, h4, h5, h6, h'⟩
      · exact .inl ⟨h1, u, hu.same hex, next u z own fs hZ (fun _ h => h) h'⟩
      · exact .inr (.inl ⟨h1, γ, val, p, ow, f, fun ext w hS => m9 (R := fun g w' => p g ∧ St ok w0 (ext ++ ow g) (f g) w') hap' (fun cs b => hsel k o cs b ho) (hs ext w hS), fun g hp => ⟨(h' g hp).1, next (val g) z _ _ hZ (fun _ h => h) (h' g hp).2⟩⟩)
      · exact .inr (.inr (.inl ⟨h1, val, cs, T, hf.same hex, fun b => next (val b) z _ _ hZ (fun _ h => h) (h' b)⟩))
      · exact .inr (.inr (.inr (.inl ⟨h1, val, cs, T, hf.same hex, fun b hb => next (val b) _ _ _ (hZ.cons hb) (fun _ h => Cu _ h) (h' b hb)⟩)))
      · exact .inr (.inr (.inr (.inr ⟨h1, b, cs, T, u, h4, hsr.trans h5, h6.same hex, next u z own fs hZ (fun _ h => h) h'⟩)))
    · rw [Aa hw] at h ⊢
      exact next undef z own fs hZ (fun _ h => h) h
theorem mq {j : Nat} {oj : Oper} (hj : ops[j]? = some oj) (hm : mk j = 3) (l2 : List Nat) {val : Nat → Value} {cs : List Value} {T : TypeId} (wc : World) (b : Nat) : ∀ (l1 : List Nat) (a : Act) (z own : List Ent) (fs : List Fact),
    (∀ k ∈ l1, ∀ ok, ops[k]? = some ok → ok.apart ops oj = true) → dd P ops ok w0 C F mk (l1 ++ j :: l2) a z own fs →
    Region.wanted oj (yielded ops a.tmps) = true → Frees P oj a val cs T →
    dd P ops ok w0 C F mk (l1 ++ l2) (a.put oj.dst (val b)) z (⟨some b, cs, T⟩ :: own) fs
  | [], a, z, own, fs, _, h, hw, hr => by
    obtain ⟨o, ho, h⟩ := h
    obtain rfl : oj = o := Option.some.inj (hj.symm.trans ho)
    rw [Ae hw] at h
    rcases h with ⟨h1, _⟩ | ⟨h1, _⟩ | ⟨_, val', cs', T', hf, h'⟩ | ⟨h1, _⟩ | ⟨h1, _⟩
    · omega
    · omega
    · obtain ⟨rfl, rfl, rfl⟩ := hr.eq wc hf
      exact h' b
    · omega
    · omega
  | k :: l1, a, z, own, fs, hall, h, hwj, hr => by
    obtain ⟨o, ho, h⟩ := h
    have hap := hall k (by simp) o ho
    have hall' : ∀ m ∈ l1, ∀ ok, ops[m]? = some ok → ok.apart ops oj = true := fun m hm => hall m (by simp [hm])
    obtain ⟨_, h2, _⟩ := Oper.apart_spec hap
    have hap' : oj.apart ops o = true := fO hap
    have next : ∀ u z' own' fs', dd P ops ok w0 C F mk (l1 ++ j :: l2) (a.put o.dst u) z' own' fs' → dd P ops ok w0 C F mk (l1 ++ l2) ((a.put oj.dst (val b)).put o.dst u) z' (⟨some b, cs, T⟩ :: own') fs' := fun u z' own' fs' h' => by
      rw [← Act.put_comm a u (val b) h2]
      refine mq hj hm l2 wc b l1 _ z' own' fs' hall' h' ?_ (hr.same (dh hap (fun cs b => hsel j oj cs b hj) (u := u) rfl))
      rw [cH hap (a := a) (u := u) rfl]; exact hwj
    refine ⟨o, ho, ?_⟩
    rw [bh hap (a := a) (a' := a.put oj.dst (val b)) (u := val b) rfl]
    have hex := bI hap (fun cs b => hsel k o cs b ho) (a := a) (a' := a.put oj.dst (val b)) (u := val b) rfl
    have hsr : g5 o (a.put oj.dst (val b)) = g5 o a := fX o a oj.dst (val b) (Oper.apart_spec hap').1
    by_cases hw : Region.wanted o (yielded ops a.tmps) = true
    · rw [Ae hw] at h ⊢
      rcases h with ⟨h1, u, hu, h'⟩ | ⟨h1, γ, val', p, ow, f, hs, h'⟩ | ⟨h1, val', cs', T', hf, h'⟩ | ⟨h1, val', cs', T', hf, h'⟩ | ⟨h1, b4, cs4, T4, u, h4, h5, h6, h'⟩
      · exact .inl ⟨h1, u, hu.same hex, next u z own fs h'⟩
      · refine .inr (.inl ⟨h1, γ, val', p, fun g => ⟨some b, cs, T⟩ :: ow g, f, fun ext w hS => ?_, fun g hp => ⟨fun ext w hS => (h' g hp).1 (ext ++ [⟨some b, cs, T⟩]) w (by simpa using hS), next (val' g) z _ _ (h' g hp).2⟩⟩)
        have := hs (ext ++ [⟨some b, cs, T⟩]) w (by simpa using hS)
        simp only [Cr, List.singleton_append] at this
        exact m9 (R := fun g w' => p g ∧ St ok w0 (ext ++ (⟨some b, cs, T⟩ :: ow g)) (f g) w') hap' (fun cs b => hsel k o cs b ho) this
      · exact .inr (.inr (.inl ⟨h1, val', cs', T', hf.same hex, fun b' => dj _ _ _ _ _ _ _ (List.Perm.refl _) (List.Perm.swap _ _ _) (next (val' b') z _ _ (h' b'))⟩))
      · exact .inr (.inr (.inr (.inl ⟨h1, val', cs', T', hf.same hex, fun b' hb' => next (val' b') _ _ _ (h' b' hb')⟩)))
      · exact .inr (.inr (.inr (.inr ⟨h1, b4, cs4, T4, u, h4, hsr.trans h5, h6.same hex, next u z own fs h'⟩)))
    · rw [Aa hw] at h ⊢
      exact next undef z own fs h
theorem qR {j : Nat} {oj : Oper} (hj : ops[j]? = some oj) (hm : mk j = 5) (l2 : List Nat) {val : Nat → Value} {cs : List Value} {T : TypeId} (wc : World) (b : Nat) : ∀ (l1 : List Nat) (a : Act) (z own : List Ent) (fs : List Fact), zf z b →
    (∀ k ∈ l1, ∀ ok, ops[k]? = some ok → ok.apart ops oj = true) → dd P ops ok w0 C F mk (l1 ++ j :: l2) a z own fs →
    Region.wanted oj (yielded ops a.tmps) = true → Frees P oj a val cs T →
    dd P ops ok w0 C F mk (l1 ++ l2) (a.put oj.dst (val b)) (⟨some b, cs, T⟩ :: z) own fs
  | [], a, z, own, fs, hzb, _, h, hw, hr => by
    obtain ⟨o, ho, h⟩ := h
    obtain rfl : oj = o := Option.some.inj (hj.symm.trans ho)
    rw [Ae hw] at h
    rcases h with ⟨h1, _⟩ | ⟨h1, _⟩ | ⟨h1, _⟩ | ⟨_, val', cs', T', hf, h'⟩ | ⟨h1, _⟩
    · omega
    · omega
    · omega
    · obtain ⟨rfl, rfl, rfl⟩ := hr.eq wc hf
      exact h' b hzb
    · omega
  | k :: l1, a, z, own, fs, hzb, hall, h, hwj, hr => by
    obtain ⟨o, ho, h⟩ := h
    have hap := hall k (by simp) o ho
    have hall' : ∀ m ∈ l1, ∀ ok, ops[m]? = some ok → ok.apart ops oj = true := fun m hm => hall m (by simp [hm])
    obtain ⟨_, h2, _⟩ := Oper.apart_spec hap
    have hap' : oj.apart ops o = true := fO hap
    have next : ∀ u z' own' fs', zf z' b → dd P ops ok w0 C F mk (l1 ++ j :: l2) (a.put o.dst u) z' own' fs' → dd P ops ok w0 C F mk (l1 ++ l2) ((a.put oj.dst (val b)).put o.dst u) (⟨some b, cs, T⟩ :: z') own' fs' := fun u z' own' fs' hz' h' => by
      rw [← Act.put_comm a u (val b) h2]
      refine qR hj hm l2 wc b l1 _ z' own' fs' hz' hall' h' ?_ (hr.same (dh hap (fun cs b => hsel j oj cs b hj) (u := u) rfl))
      rw [cH hap (a := a) (u := u) rfl]; exact hwj
    refine ⟨o, ho, ?_⟩
    rw [bh hap (a := a) (a' := a.put oj.dst (val b)) (u := val b) rfl]
    have hex := bI hap (fun cs b => hsel k o cs b ho) (a := a) (a' := a.put oj.dst (val b)) (u := val b) rfl
    have hsr : g5 o (a.put oj.dst (val b)) = g5 o a := fX o a oj.dst (val b) (Oper.apart_spec hap').1
    by_cases hw : Region.wanted o (yielded ops a.tmps) = true
    · rw [Ae hw] at h ⊢
      rcases h with ⟨h1, u, hu, h'⟩ | ⟨h1, γ, val', p, ow, f, hs, h'⟩ | ⟨h1, val', cs', T', hf, h'⟩ | ⟨h1, val', cs', T', hf, h'⟩ | ⟨h1, b4, cs4, T4, u, h4, h5, h6, h'⟩
      · exact .inl ⟨h1, u, hu.same hex, next u z own fs hzb h'⟩
      · exact .inr (.inl ⟨h1, γ, val', p, ow, f, fun ext w hS => m9 (R := fun g w' => p g ∧ St ok w0 (ext ++ ow g) (f g) w') hap' (fun cs b => hsel k o cs b ho) (hs ext w hS), fun g hp => ⟨(h' g hp).1, next (val' g) z _ _ hzb (h' g hp).2⟩⟩)
      · exact .inr (.inr (.inl ⟨h1, val', cs', T', hf.same hex, fun b' => next (val' b') z _ _ hzb (h' b')⟩))
      · refine .inr (.inr (.inr (.inl ⟨h1, val', cs', T', hf.same hex, fun b' hb' => ?_⟩)))
        have hne : b' ≠ b := fun e => hb' ⟨some b, cs, T⟩ (by simp) (by rw [e])
        exact dj _ _ _ _ _ _ _ (List.Perm.swap _ _ _) (List.Perm.refl _) (next (val' b') _ _ _ (hzb.cons hne) (h' b' (hb'.mem fun e he => Cu _ he)))
      · exact .inr (.inr (.inr (.inr ⟨h1, b4, cs4, T4, u, Cu _ h4, hsr.trans h5, h6.same hex, next u z own fs hzb h'⟩)))
    · rw [Aa hw] at h ⊢
      exact next undef z own fs hzb h
theorem mo {j : Nat} {oj : Oper} (hj : ops[j]? = some oj) (hm : mk j = 1) (l2 : List Nat) : ∀ (l1 : List Nat) (a : Act) (z own : List Ent) (fs : List Fact),
    (∀ k ∈ l1, mk k = 0 ∧ ∀ ok, ops[k]? = some ok → ok.apart ops oj = true) → dd P ops ok w0 C F mk (l1 ++ j :: l2) a z own fs → Region.wanted oj (yielded ops a.tmps) = true →
    ∃ (γ : Type) (val : γ → Value) (p : γ → Prop) (own' : γ → List Ent) (fs' : γ → List Fact),
        (∀ ext w, St ok w0 (ext ++ own) fs w → opX P oj a w (fun a' w' => ∃ g, a' = a.put oj.dst (val g) ∧ p g ∧ St ok w0 (ext ++ own' g) (fs' g) w') bN) ∧
        ∀ g, p g → te ok w0 C (own' g) (fs' g) ∧ dd P ops ok w0 C F mk (l1 ++ l2) (a.put oj.dst (val g)) z (own' g) (fs' g)
  | [], a, z, own, fs, _, h, hw => by
    obtain ⟨o, ho, h⟩ := h
    obtain rfl : oj = o := Option.some.inj (hj.symm.trans ho)
    rw [Ae hw] at h
    rcases h with ⟨h1, _⟩ | ⟨_, h'⟩ | ⟨h1, _⟩ | ⟨h1, _⟩ | ⟨h1, _⟩
    · omega
    · exact h'
    · omega
    · omega
    · omega
  | k :: l1, a, z, own, fs, hall, h, hwj => by
    obtain ⟨o, ho, h⟩ := h
    have hk0 := (hall k (by simp)).1
    have hap := (hall k (by simp)).2 o ho
    have hall' : ∀ m ∈ l1, mk m = 0 ∧ ∀ ok, ops[m]? = some ok → ok.apart ops oj = true := fun m hm => hall m (by simp [hm])
    obtain ⟨_, h2, _⟩ := Oper.apart_spec hap
    have key : ∀ v, (∀ u own' fs', dd P ops ok w0 C F mk (l1 ++ l2) ((a.put oj.dst u).put o.dst v) z own' fs' → dd P ops ok w0 C F mk (k :: l1 ++ l2) (a.put oj.dst u) z own' fs') → dd P ops ok w0 C F mk (l1 ++ j :: l2) (a.put o.dst v) z own fs →
        ∃ (γ : Type) (val : γ → Value) (p : γ → Prop) (own' : γ → List Ent) (fs' : γ → List Fact),
        (∀ ext w, St ok w0 (ext ++ own) fs w → opX P oj a w (fun a' w' => ∃ g, a' = a.put oj.dst (val g) ∧ p g ∧ St ok w0 (ext ++ own' g) (fs' g) w') bN) ∧
        ∀ g, p g → te ok w0 C (own' g) (fs' g) ∧ dd P ops ok w0 C F mk (k :: l1 ++ l2) (a.put oj.dst (val g)) z (own' g) (fs' g) := fun v back h' => by
      obtain ⟨γ, val, p, ow, f, hs, hn⟩ := mo hj hm l2 l1 (a.put o.dst v) z own fs hall' h' (by rw [cH hap (a := a) (u := v) rfl]; exact hwj)
      refine ⟨γ, val, p, ow, f, fun ext w hS => wq (R := fun g w' => p g ∧ St ok w0 (ext ++ ow g) (f g) w') hap (fun cs b => hsel j oj cs b hj) (hs ext w hS), fun g hp => ⟨(hn g hp).1, back _ _ _ ?_⟩⟩
      rw [← Act.put_comm a v (val g) h2]; exact (hn g hp).2
    by_cases hw : Region.wanted o (yielded ops a.tmps) = true
    · rw [Ae hw] at h
      rcases h with ⟨_, v, hv, h'⟩ | ⟨h1, _⟩ | ⟨h1, _⟩ | ⟨h1, _⟩ | ⟨h1, _⟩
      · refine key v (fun u own' fs' h'' => ⟨o, ho, ?_⟩) h'
        rw [Ae (by rw [bh hap (a := a) (u := u) rfl]; exact hw)]
        exact .inl ⟨hk0, v, hv.same (bI hap (fun cs b => hsel k o cs b ho) (u := u) rfl), h''⟩
      · omega
      · omega
      · omega
      · omega
    · rw [Aa hw] at h
      refine key undef (fun u own' fs' h'' => ⟨o, ho, ?_⟩) h
      rw [Aa (by rw [bh hap (a := a) (u := u) rfl]; exact hw)]
      exact h''
end
def li (l : List Oper) (j k : Nat) : Bool := match l[j]? with
  | none => true
  | some o => o.after.all fun e => !Region.binds .any e || !(e.on == k)
def eN (l : List Oper) (masks marks : List Nat) (k j : Nat) : Bool :=
  !(k == j) && li l k j && match l[j]?, l[k]? with
    | some oj, some ok => (Nat.blt k j && pl (masks.getD j 0) k) ||
      (ok.apart l.toArray oj && (marks.getD j 2 == 0 || marks.getD j 2 == 3 || marks.getD j 2 == 4 || marks.getD j 2 == 5 || (marks.getD j 2 == 1 && marks.getD k 2 == 0)))
    | _, _ => false
def gO (r : Nat → Nat → Bool) : List Nat → Bool
  | [] => true
  | x :: l => l.all (r x) && gO r l
theorem gg {r : Nat → Nat → Bool} : ∀ {l : List Nat}, gO r l = true → l.Pairwise (fun x y => r x y = true)
  | [], _ => List.Pairwise.nil
  | x :: l, h => by
    simp only [gO, Dl] at h
    exact List.Pairwise.cons (fun y hy => Bt.1 h.1 y hy) (gg h.2)
def il (l : List Oper) (front tail marks : List Nat) : Bool :=
  yT l && nM l (eJ l []) && (List.range l.length).all (fun i => (front ++ tail).contains i && li l i i) && (front ++ tail).all (fun i => Nat.blt i l.length) &&
  l.all (fun o => o.after.all fun e => !Region.binds .any e || Nat.blt e.on l.length) &&
  gO (eN l (eJ l []) marks) (front ++ tail) && front.all (fun i => marks.getD i 2 == 0 || marks.getD i 2 == 1 || marks.getD i 2 == 3 || marks.getD i 2 == 4 || marks.getD i 2 == 5) && tail.all (fun i => marks.getD i 2 == 2)
section
variable {ds : List Deferred} {ρ : Option Nat} {P : Program} {l : List Oper} {ok : Nat → Prop} {w0 : World} {C : World → Prop} {Q : Exit → Act → World → Prop} {front tail marks : List Nat}
structure lO (l : List Oper) (front tail marks : List Nat) : Prop where
  sel : ∀ (j : Nat) (o : Oper) cs b, l.toArray[j]? = some o → o.op ≠ .select cs b
  mask : nM l (eJ l []) = true
  all : ∀ i, i < l.length → i ∈ front ++ tail ∧ li l i i = true
  lt : ∀ i, i ∈ front ++ tail → i < l.length
  edge : ∀ (j : Nat) (o : Oper), l[j]? = some o → ∀ e ∈ o.after, Region.binds .any e = true → e.on < l.length
  pair : (front ++ tail).Pairwise (fun k j => eN l (eJ l []) marks k j = true)
  mf : ∀ i ∈ front, marks.getD i 2 = 0 ∨ marks.getD i 2 = 1 ∨ marks.getD i 2 = 3 ∨ marks.getD i 2 = 4 ∨ marks.getD i 2 = 5
  mt : ∀ i ∈ tail, marks.getD i 2 = 2
theorem o5 (h : il l front tail marks = true) : lO l front tail marks := by
  simp only [il, Dl] at h
  obtain ⟨⟨⟨⟨⟨⟨⟨h1, h2⟩, h3⟩, h4⟩, h5⟩, h6⟩, h7⟩, h8⟩ := h
  refine ⟨fun j o cs b hj heq => ?_, h2, fun i hi => ?_, fun i hi => ?_, fun j o hj e he hb => ?_, gg h6, fun i hi => ?_, fun i hi => ?_⟩
  · have := Bt.1 h1 o (A9 (by simpa using hj))
    simp [heq] at this
  · have := Bt.1 h3 i (Ct.2 hi)
    simp only [Dl] at this
    exact ⟨by simpa using this.1, this.2⟩
  · have := Bt.1 h4 i hi
    simpa using this
  · have := Array.all_eq_true'.1 (Bt.1 h5 o (A9 hj)) e he
    simpa [hb] using this
  · have := Bt.1 h7 i hi
    simp only [Bool.or_eq_true, beq_iff_eq] at this
    omega
  · have := Bt.1 h8 i hi
    simpa using this
structure Left (l : List Oper) (listed : Array Bool) (rest : List Nat) (front tail marks : List Nat) : Prop where
  cl : ot l listed
  mem : ∀ i, i ∈ rest ↔ i < l.length ∧ listed.getD i false = false
  pair : rest.Pairwise (fun k j => eN l (eJ l []) marks k j = true)
theorem Left.head (hB : lO l front tail marks) {listed : Array Bool} {i : Nat} {r : List Nat} (h : Left l listed (i :: r) front tail marks) : i ∈ Region.ready .any l.toArray listed := by
  have hi := (h.mem i).1 (by simp)
  obtain ⟨o, ho⟩ : ∃ o, l[i]? = some o := ⟨_, Ad hi.1⟩
  refine mem_ready.2 ⟨by
    have hs : i < listed.size := by rw [h.cl.size]; exact hi.1
    have := hi.2; simp [hs] at this ⊢; exact this, o, by simpa using ho, fun e he hb => ?_⟩
  cases hl : listed.getD e.on false with
  | true => rfl
  | false =>
    exfalso
    have h3 : e.on ∈ i :: r := (h.mem e.on).2 ⟨hB.edge i o ho e he hb, hl⟩
    have key : ∀ k, li l i k = true → e.on ≠ k := fun k hk hek => by
      simp only [li, ho] at hk
      have := Array.all_eq_true'.1 hk e he
      simp [hb, hek] at this
    rcases Be.1 h3 with h4 | h4
    · exact key i (hB.all i hi.1).2 h4
    · have := D5 h.pair h4
      simp only [eN, Dl] at this
      exact key e.on this.1.2 rfl
theorem Left.next {listed : Array Bool} {j : Nat} {l1 l2 : List Nat} (h : Left l listed (l1 ++ j :: l2) front tail marks) (hj : j ∈ Region.ready .any l.toArray listed) : Left l (listed.setIfInBounds j true) (l1 ++ l2) front tail marks := by
  obtain ⟨h0, oj, hoj, hall⟩ := mem_ready.1 hj
  have hojl : l[j]? = some oj := by simpa using hoj
  have hjl : j < l.length := (Ap.1 hojl).1
  have hjs : j < listed.size := by rw [h.cl.size]; exact hjl
  have hpw := h.pair
  rw [List.pairwise_append] at hpw
  obtain ⟨p1, p2, p3⟩ := hpw
  refine ⟨⟨by simp [h.cl.size], fun m om hom hm e he hb => ?_⟩, fun i => ?_, ?_⟩
  · by_cases hjm : j = m
    · subst hjm
      obtain rfl : oj = om := Option.some.inj (hojl.symm.trans hom)
      exact getD_set_true (hall e he hb)
    · rw [getD_set_ne false hjm] at hm
      exact getD_set_true (h.cl.closed m om hom hm e he hb)
  · by_cases hij : j = i
    · subst hij
      have hnot : j ∉ l1 ++ l2 := by
        intro hh
        rcases Bx.1 hh with hh | hh
        · have := p3 j hh j (by simp); simp [eN] at this
        · have := D5 p2 hh; simp [eN] at this
      simp [hnot, hjs]
    · rw [getD_set_ne false hij, ← h.mem i]
      simp [Ne.symm hij]
  · rw [List.pairwise_append]
    exact ⟨p1, (List.pairwise_cons.1 p2).2, fun x hx y hy => p3 x hx y (by simp [hy])⟩
theorem Left.ahead (hB : lO l front tail marks) {listed : Array Bool} {j : Nat} {oj : Oper} {l1 l2 : List Nat} (h : Left l listed (l1 ++ j :: l2) front tail marks) (hj : j ∈ Region.ready .any l.toArray listed) (hoj : l[j]? = some oj) :
    ∀ k ∈ l1, (∀ ok, l[k]? = some ok → ok.apart l.toArray oj = true) ∧ (marks.getD j 2 = 0 ∨ marks.getD j 2 = 3 ∨ marks.getD j 2 = 4 ∨ marks.getD j 2 = 5 ∨ (marks.getD j 2 = 1 ∧ marks.getD k 2 = 0)) := by
  intro k hk
  obtain ⟨h0, oj', hoj', hall⟩ := mem_ready.1 hj
  obtain rfl : oj = oj' := Option.some.inj (hoj.symm.trans (by simpa using hoj'))
  have hpw := h.pair
  rw [List.pairwise_append] at hpw
  have h1 := hpw.2.2 k hk j (by simp)
  have hkm := (h.mem k).1 (by simp [hk])
  obtain ⟨okk, hok⟩ : ∃ o, l[k]? = some o := ⟨_, Ad hkm.1⟩
  simp only [eN, hoj, hok, Dl, Bool.or_eq_true, Nat.blt_eq, beq_iff_eq] at h1
  rcases h1.2 with ⟨h2, h3⟩ | ⟨h2, h3⟩
  · have := jS hB.mask h.cl j oj hoj hall k h2 h3
    rw [this] at hkm
    exact absurd hkm.2 (by simp)
  · refine ⟨fun ok' hok' => ?_, by omega⟩
    obtain rfl : okk = ok' := Option.some.inj (hok.symm.trans hok')
    exact h2
theorem kx (hB : lO l front tail marks) : ∀ (rest : List Nat) (listed : Array Bool) (a : Act) (w : World), (∀ i ∈ rest, marks.getD i 2 = 2) → Left l listed rest front tail marks → iQ P l.toArray Q rest a w → pp P .any l.toArray Q rest.length listed a w
  | [], listed, a, w, _, hL, h => by
    refine ⟨?_, h⟩
    rw [List.eq_nil_iff_forall_not_mem]
    intro i hi
    obtain ⟨h0, o, ho, _⟩ := mem_ready.1 hi
    have hil : i < l.length := (Ap.1 (show l[i]? = some o by simpa using ho)).1
    have : i ∈ ([] : List Nat) := (hL.mem i).2 ⟨hil, by
      have : i < listed.size := by rw [hL.cl.size]; exact hil
      simp [this] at h0 ⊢; exact h0⟩
    cases this
  | i :: r, listed, a, w, hm, hL, h => by
    refine ⟨fun hnil => ?_, fun j hj => ?_⟩
    · have := hL.head hB; rw [hnil] at this; cases this
    · obtain ⟨h0, oj, hoj, hall⟩ := mem_ready.1 hj
      have hojl : l[j]? = some oj := by simpa using hoj
      have hjl : j < l.length := (Ap.1 hojl).1
      have hjs : j < listed.size := by rw [hL.cl.size]; exact hjl
      have hjr : j ∈ i :: r := (hL.mem j).2 ⟨hjl, by simp [hjs] at h0 ⊢; exact h0⟩
      have hji : j = i := by
        rcases Be.1 hjr with h1 | h1
        · exact h1
        · exfalso
          obtain ⟨l1, l2, e⟩ := List.append_of_mem h1
          have hL' : Left l listed ((i :: l1) ++ j :: l2) front tail marks := by rw [List.cons_append, ← e]; exact hL
          have h3 := (hL'.ahead hB hj hojl i (by simp)).2
          have := hm j hjr
          omega
      subst hji
      rw [mi] at h
      refine si (fun a' w' h' => ?_) h
      exact kx hB r _ a' w' (fun i hi => hm i (by simp [hi])) (hL.next (l1 := []) hj) h'
theorem lS (hB : lO l front tail marks) : ∀ (rest : List Nat) (listed : Array Bool) (a : Act) (z own : List Ent) (fs : List Fact) (w : World), (∀ i ∈ rest, i ∈ front) →
    Left l listed (rest ++ tail) front tail marks → St ok w0 (z ++ own) fs w → te ok w0 C own fs → ZOk z →
    dd P l.toArray ok w0 C (iQ P l.toArray Q tail) (fun i => marks.getD i 2) rest a z own fs → pp P .any l.toArray Q (rest ++ tail).length listed a w := by
  intro rest
  induction hn : rest.length generalizing rest with
  | zero =>
    intro listed a z own fs w hf hL hS hG hZ h
    have : rest = [] := B0 hn
    subst this
    exact kx hB tail listed a w hB.mt hL (h w hS)
  | succ n ih =>
    intro listed a z own fs w hf hL hS hG hZ h
    have hlen : (rest ++ tail).length = (n + tail.length) + 1 := by simp; omega
    rw [hlen]
    refine ⟨fun hnil => ?_, fun j hj => ?_⟩
    · obtain ⟨i, r, rfl⟩ := List.exists_cons_of_ne_nil (show rest ≠ [] by intro e; subst e; simp at hn)
      have := hL.head hB; rw [hnil] at this; cases this
    · obtain ⟨h0, oj, hoj, hall⟩ := mem_ready.1 hj
      have hojl : l[j]? = some oj := by simpa using hoj
      have hjl : j < l.length := (Ap.1 hojl).1
      have hjs : j < listed.size := by rw [hL.cl.size]; exact hjl
      have hjr : j ∈ rest ++ tail := (hL.mem j).2 ⟨hjl, by simp [hjs] at h0 ⊢; exact h0⟩
      rcases Bx.1 hjr with hjr | hjt
      · obtain ⟨l1, l2, rfl⟩ := List.append_of_mem hjr
        have hL' : Left l listed (l1 ++ j :: (l2 ++ tail)) front tail marks := by simpa using hL
        have hnext := hL'.next hj
        have hah := hL'.ahead hB hj hojl
        have hlen' : (l1 ++ l2).length = n := by simp at hn ⊢; omega
        have hlt : n + tail.length = ((l1 ++ l2) ++ tail).length := by rw [Al, hlen']
        have hff : ∀ i ∈ l1 ++ l2, i ∈ front := fun i hi => hf i (by rcases Bx.1 hi with h | h <;> simp [h])
        have hap : ∀ k ∈ l1, ∀ ok, l.toArray[k]? = some ok → ok.apart l.toArray oj = true := fun k hk ok hok => (hah k hk).1 ok (by simpa using hok)
        have hCw : C w := hG z w hS
        have go : ∀ a' z' own' fs' w', St ok w0 (z' ++ own') fs' w' → te ok w0 C own' fs' → ZOk z' → dd P l.toArray ok w0 C (iQ P l.toArray Q tail) (fun i => marks.getD i 2) (l1 ++ l2) a' z' own' fs' → pp P .any l.toArray Q (n + tail.length) (listed.setIfInBounds j true) a' w' := fun a' z' own' fs' w' hS' hG' hZ' h' => by
          rw [hlt]
          exact ih (l1 ++ l2) hlen' _ a' z' own' fs' w' hff (by simpa using hnext) hS' hG' hZ' h'
        have hmk := hB.mf j (hf j (by simp))
        by_cases hw : Region.wanted oj (yielded l.toArray a.tmps) = true
        · rcases hmk with hmk | hmk | hmk | hmk | hmk
          · rcases eY hB.sel hoj (by show marks.getD j 2 ≠ 1; omega) l2 l1 a z own fs w hS hap h with h1 | ⟨_, ⟨_, v, hv⟩ | ⟨h1, _⟩ | ⟨h1, _⟩⟩
            · rw [hw] at h1; cases h1
            · exact ct hoj hw (hv.wp hCw (go _ z own fs w hS hG hZ (fD hB.sel hoj l2 v hCw l1 a z own fs hZ hap h (.inr (.inl ⟨hmk, hw, hv⟩)))))
            · exfalso; omega
            · exfalso; omega
          · have hap1 : ∀ k ∈ l1, (fun i => marks.getD i 2) k = 0 ∧ ∀ ok, l.toArray[k]? = some ok → ok.apart l.toArray oj = true := fun k hk => ⟨by have := (hah k hk).2; simp only; omega, hap k hk⟩
            obtain ⟨γ, val, p, ow, f, hs, hnx⟩ := mo hB.sel hoj hmk l2 l1 a z own fs hap1 h hw
            refine ct hoj hw (bp (fun a' w' hh => ?_) (hs z w hS))
            obtain ⟨g, rfl, hp, hS'⟩ := hh
            exact go _ z _ _ w' hS' (hnx g hp).1 hZ (hnx g hp).2
          · rcases eY hB.sel hoj (by show marks.getD j 2 ≠ 1; omega) l2 l1 a z own fs w hS hap h with h1 | ⟨_, ⟨h1, _⟩ | ⟨_, val, cs, T, hfr⟩ | ⟨h1, _⟩⟩
            · rw [hw] at h1; cases h1
            · exfalso; omega
            · refine ct hoj hw ?_
              unfold opX
              rw [hfr w]
              exact go _ z _ fs _ ((hS.alloc cs T).perm List.perm_middle) (fun ext w hS => hG (ext ++ [⟨some _, cs, T⟩]) w (by simpa using hS)) hZ (mq hB.sel hoj hmk l2 w _ l1 a z own fs hap h hw hfr)
            · exfalso; omega
          · rcases eY hB.sel hoj (by show marks.getD j 2 ≠ 1; omega) l2 l1 a z own fs w hS hap h with h1 | ⟨_, ⟨h1, _⟩ | ⟨h1, _⟩ | ⟨_, b, cs, T, v, h3, h4, h5⟩⟩
            · rw [hw] at h1; cases h1
            · exfalso; omega
            · exfalso; omega
            · have hSb : St ok w0 [⟨some b, cs, T⟩] [] w := hS.sub (List.singleton_sublist.2 (D0 _ h3)) (fun _ h => by cases h)
              exact ct hoj hw (h5.wp hSb (go _ z own fs w hS hG hZ (fD hB.sel hoj l2 v hCw l1 a z own fs hZ hap h (.inr (.inr ⟨hmk, hw, b, cs, T, h3, h4, h5, hSb⟩)))))
          · rcases eY hB.sel hoj (by show marks.getD j 2 ≠ 1; omega) l2 l1 a z own fs w hS hap h with h1 | ⟨_, ⟨h1, _⟩ | ⟨_, val, cs, T, hfr⟩ | ⟨h1, _⟩⟩
            · rw [hw] at h1; cases h1
            · exfalso; omega
            · refine ct hoj hw ?_
              unfold opX
              rw [hfr w]
              have hzf := hS.zf (Ba _)
              exact go _ _ _ fs _ (hS.alloc cs T) hG (hZ.cons hzf) (qR hB.sel hoj hmk l2 w _ l1 a z own fs hzf hap h hw hfr)
            · exfalso; omega
        · have hw' : Region.wanted oj (yielded l.toArray a.tmps) = false := by simpa using hw
          exact dR hoj hw' (go _ z own fs w hS hG hZ (fD hB.sel hoj l2 undef hCw l1 a z own fs hZ hap h (.inl ⟨hw', rfl⟩)))
      · exfalso
        obtain ⟨i, r, rfl⟩ := List.exists_cons_of_ne_nil (show rest ≠ [] by intro e; subst e; simp at hn)
        obtain ⟨l1, l2, e⟩ := List.append_of_mem hjt
        have hL' : Left l listed ((i :: r ++ l1) ++ j :: l2) front tail marks := by rw [Cr, ← e]; exact hL
        have h3 := (hL'.ahead hB hj hojl i (by simp)).2
        have := hB.mt j hjt
        omega
end
def WJ (ds : List Deferred) (P : Program) (ops : List Oper) (ok : Nat → Prop) (w0 : World) (C : World → Prop) (F : Act → World → Prop) (marks : List Nat) (n : Nat) (rest : List Nat) (L : an) (own : List Ent) (fs : List Fact) (z : List Ent) : Prop :=
  ∀ a, Fr ds a n L → dd P ops.toArray ok w0 C F (fun i => marks.getD i 2) rest a z own fs
class SubL {α : Type} (x y : List α) : Prop where
  h : x.Sublist y
instance (priority := high) SubL.refl {α : Type} (x : List α) : SubL x x := ⟨Ax _⟩
instance SubL.nil {α : Type} (y : List α) : SubL [] y := ⟨List.nil_sublist _⟩
instance SubL.cons {α : Type} (x y : List α) (e : α) [SubL x y] : SubL x (e :: y) := ⟨SubL.h.cons _⟩
instance SubL.cc {α : Type} (x y : List α) (e : α) [SubL x y] : SubL (e :: x) (e :: y) := ⟨SubL.h.cons_cons _⟩
section
variable {ds : List Deferred} {ρ : Option Nat} {P : Program} {ops : List Oper} {ok : Nat → Prop} {w0 : World} {C : World → Prop} {F : Act → World → Prop} {marks : List Nat} {n d i : Nat} {rest : List Nat} {L : an} {own z : List Ent} {fs : List Fact} {o : Oper} {v : Value}
theorem WJ.r (ho : ops[i]? = some o) (hm : marks.getD i 2 = 0) (hw : aH ops L o = some true) (hdst : o.dst = some d) (hd : Nat.blt d n = true) (h : Rd ds P o n L C v) (k : WJ ds P ops ok w0 C F marks n rest ((d, v) :: L) own fs z) : WJ ds P ops ok w0 C F marks n (i :: rest) L own fs z := by
  intro a hF
  refine ⟨o, by simpa using ho, ?_⟩
  rw [Ae (bj hF hw)]
  refine .inl ⟨hm, v, h a hF, ?_⟩
  rw [hdst]; exact k _ (hF.put hd v)
theorem WJ.s (ho : ops[i]? = some o) (hw : aH ops L o = some false) (hdst : o.dst = some d) (hd : Nat.blt d n = true) (k : WJ ds P ops ok w0 C F marks n rest ((d, undef) :: L) own fs z) : WJ ds P ops ok w0 C F marks n (i :: rest) L own fs z := by
  intro a hF
  refine ⟨o, by simpa using ho, ?_⟩
  rw [Aa (by rw [bj hF hw]; simp)]
  rw [hdst]; exact k _ (hF.put hd undef)
def Fre (ds : List Deferred) (P : Program) (o : Oper) (n : Nat) (L : an) (val : Nat → Value) (cs : List Value) (T : TypeId) : Prop := ∀ a, Fr ds a n L → Frees P o a val cs T
theorem WJ.f {val : Nat → Value} {cs : List Value} {T : TypeId} (ho : ops[i]? = some o) (hm : marks.getD i 2 = 3) (hw : aH ops L o = some true) (hdst : o.dst = some d) (hd : Nat.blt d n = true) (h : Fre ds P o n L val cs T) (k : ∀ b, WJ ds P ops ok w0 C F marks n rest ((d, val b) :: L) (⟨some b, cs, T⟩ :: own) fs z) : WJ ds P ops ok w0 C F marks n (i :: rest) L own fs z := by
  intro a hF
  refine ⟨o, by simpa using ho, ?_⟩
  rw [Ae (bj hF hw)]
  refine .inr (.inr (.inl ⟨hm, val, cs, T, h a hF, fun b => ?_⟩))
  rw [hdst]; exact k b _ (hF.put hd _)
theorem nW {K own : List Ent} {fs0 fs : List Fact} [h1 : SubL K own] [h2 : SubL fs0 fs] : te ok w0 (St ok w0 K fs0) own fs := fun ext w hS =>
  hS.sub (h1.h.trans (List.sublist_append_right _ _)) (fun f hf => h2.h.subset hf)
theorem WJ.g {γ : Type} {K : List Ent} {fs0 : List Fact} {val : γ → Value} {p : γ → Prop} {own' : γ → List Ent} {fs' : γ → List Fact} (ho : ops[i]? = some o) (hm : marks.getD i 2 = 1) (hw : aH ops L o = some true) (hdst : o.dst = some d) (hd : Nat.blt d n = true)
    (h : ∀ ext, Og ds P o n L (St ok w0 (ext ++ own) fs) val (fun g w => p g ∧ St ok w0 (ext ++ own' g) (fs' g) w)) [h1 : ∀ g, SubL K (own' g)] [h2 : ∀ g, SubL fs0 (fs' g)]
    (k : ∀ g, p g → WJ ds P ops ok w0 (St ok w0 K fs0) F marks n rest ((d, val g) :: L) (own' g) (fs' g) z) : WJ ds P ops ok w0 (St ok w0 K fs0) F marks n (i :: rest) L own fs z := by
  intro a hF
  refine ⟨o, by simpa using ho, ?_⟩
  rw [Ae (bj hF hw)]
  refine .inr (.inl ⟨hm, γ, val, p, own', fs', fun ext w hS => bp (fun a' w' hh => ?_) (h ext a w hF hS), fun g hp => ⟨nW, ?_⟩⟩)
  · obtain ⟨u, rfl, g, rfl, hp, hS'⟩ := hh
    exact ⟨g, rfl, hp, hS'⟩
  · rw [hdst]; exact k g hp _ (hF.put hd _)
theorem WJ.nil {Q : Exit → Act → World → Prop} {tl : List Oper} (k : WL ds P ops Q n tl L (St ok w0 own fs)) : WJ ds P ops ok w0 C (eZ P ops.toArray Q tl) marks n [] L own fs [] := fun a hF w hS => k a w hF hS
theorem WJ.fz {val : Nat → Value} {cs : List Value} {T : TypeId} (ho : ops[i]? = some o) (hm : marks.getD i 2 = 5) (hw : aH ops L o = some true) (hdst : o.dst = some d) (hd : Nat.blt d n = true) (h : Fre ds P o n L val cs T) (k : ∀ b, WJ ds P ops ok w0 C F marks n rest ((d, val b) :: L) own fs (⟨some b, cs, T⟩ :: z)) : WJ ds P ops ok w0 C F marks n (i :: rest) L own fs z := by
  intro a hF
  refine ⟨o, by simpa using ho, ?_⟩
  rw [Ae (bj hF hw)]
  refine .inr (.inr (.inr (.inl ⟨hm, val, cs, T, h a hF, fun b _ => ?_⟩)))
  rw [hdst]; exact k b _ (hF.put hd _)
theorem WJ.know {p : Prop} (h : ∀ w, St ok w0 own fs w → p) (k : p → WJ ds P ops ok w0 C F marks n rest L own fs z) (hex : ∃ w, St ok w0 own fs w) : WJ ds P ops ok w0 C F marks n rest L own fs z := k (hex.elim h)
theorem WJ.set (d : Nat) {v v' : Value} (h : ap L d = some v) (e : v = v') (k : WJ ds P ops ok w0 C F marks n rest ((d, v') :: L) own fs z) : WJ ds P ops ok w0 C F marks n rest L own fs z := fun a hF => k a (hF.set h e)
theorem WJ.bool (d : Nat) {t : Bool} (h : ap L d = some (.bool t)) (h1 : t = true → WJ ds P ops ok w0 C F marks n rest ((d, .bool true) :: L) own fs z) (h2 : t = false → WJ ds P ops ok w0 C F marks n rest ((d, .bool false) :: L) own fs z) : WJ ds P ops ok w0 C F marks n rest L own fs z := by
  cases t
  · exact WJ.set d h rfl (h2 rfl)
  · exact WJ.set d h rfl (h1 rfl)
theorem WC.freeP {Q : Exit → Act → World → Prop} {id : Nat} {l tl : List Oper} {K : List Ent} {fs0 : List Fact} (hp : jZ ρ l) (front tail marks : List Nat) (hm : P.follows .mixedOrders = true) (hB : il l front tail marks = true) (ht : bJ l tail = tl) [SubL K own] [SubL fs0 fs]
    (k : WJ ds P l ok w0 (St ok w0 K fs0) (eZ P l.toArray Q tl) marks n front L own fs []) : WC ds ρ P (.region id l.toArray true) Q n L (St ok w0 own fs) := by
  intro a w hF hS
  refine vP hp hm ?_
  have hB' := o5 hB
  have hS' := hS.draw
  have hk := k a hF
  have hF2 : eZ P l.toArray Q tl = iQ P l.toArray Q tail := by rw [kw, ht]
  rw [hF2] at hk
  have := lS (Q := Q) hB' front (Array.replicate l.toArray.size false) a [] own fs { w with drawn := w.drawn + 1 } (fun i hi => hi)
    ⟨⟨by simp, fun j o _ hj => by simp [Array.getElem?_replicate] at hj; split at hj <;> simp at hj⟩,
     fun i => ⟨fun hi => ⟨hB'.lt i hi, by simp [Array.getElem?_replicate]; split <;> simp⟩, fun hi => (hB'.all i hi.1).1⟩, hB'.pair⟩ hS' nW (fun e he => by cases he) hk
  have hsize : (front ++ tail).length = l.length := by
    have hnd : (front ++ tail).Nodup := hB'.pair.imp (fun h => by simp [eN] at h; exact h.1.1)
    have h1 : (front ++ tail).length ≤ (List.range l.length).length := hnd.length_le_of_subset (fun i hi => Ct.2 (hB'.lt i hi))
    have h2 : (List.range l.length).length ≤ (front ++ tail).length := List.nodup_range.length_le_of_subset (fun i hi => (hB'.all i (Ct.1 hi)).1)
    simp at h1 h2 ⊢; omega
  rw [hsize] at this
  simpa using this
theorem WC.free {Q : Exit → Act → World → Prop} {id : Nat} {l tl : List Oper} {K : List Ent} {fs0 : List Fact} (front tail marks : List Nat) (hm : P.follows .mixedOrders = true) (hB : il l front tail marks = true) (ht : bJ l tail = tl) [SubL K own] [SubL fs0 fs]
    (k : WJ ds P l ok w0 (St ok w0 K fs0) (eZ P l.toArray Q tl) marks n front L own fs []) : WC ds none P (.region id l.toArray true) Q n L (St ok w0 own fs) := WC.freeP (.inl rfl) front tail marks hm hB ht k
theorem WR.free {Q : Exit → Act → World → Prop} {id : Nat} {l tl : List Oper} {K : List Ent} {fs0 : List Fact} (hp : ml l = true) (front tail marks : List Nat) (hm : P.follows .mixedOrders = true) (hB : il l front tail marks = true) (ht : bJ l tail = tl) [SubL K own] [SubL fs0 fs]
    (k : WJ ds P l ok w0 (St ok w0 K fs0) (eZ P l.toArray Q tl) marks n front L own fs []) : WC ds ρ P (.region id l.toArray true) Q n L (St ok w0 own fs) := WC.freeP (.inr hp) front tail marks hm hB ht k
end
end Go.Proofs.YtchonigdjamphaaGreatDoor
