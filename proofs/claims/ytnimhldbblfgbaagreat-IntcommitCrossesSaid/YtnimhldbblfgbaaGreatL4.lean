/-
  Parts of the walk: Free New.
-/
import Derived.Test.YtnimhldbblfgbaaGreatL3
import Derived.Laws.Sem
namespace Go.Proofs.YtnimhldbblfgbaaGreat
set_option linter.unusedSimpArgs false
set_option linter.unusedVariables false
open Go.RowKit
/-- The operation allocates a block of known cells and does nothing else. -/
def Frees (P : Program) (o : Oper) (a : Act) (val : Nat → Value) (cs : List Value) (T : TypeId) : Prop :=
  ∀ w : World, (execOp a.eval o).run P w = .ok (.value (val w.heap.size)) (w.alloc (.cells cs.toArray T))
/-- the block that a conversion or a load reads -/
def srcB (o : Oper) (a : Act) : Option Nat := match o.op with
  | .convert _ _ x => (match a.eval x with | .slice (some ad) _ _ => some ad.block | _ => none)
  | .load _ x => (match a.eval x with | .pointer (some ad) => some ad.block | _ => none)
  | _ => none
def zf (z : List Ent) (b : Nat) : Prop := ∀ e ∈ z, e.ob ≠ some b
def ZOk (z : List Ent) : Prop := ∀ e ∈ z, ∀ e' ∈ z, ∀ b, e.ob = some b → e'.ob = some b → e = e'
section
variable (P : Program) (ops : Array Oper) (ok : Nat → Prop) (w0 : World) (C : World → Prop) (F : Act → World → Prop) (mk : Nat → Nat)
def Good (own : List Ent) (fs : List Fact) : Prop := ∀ ext w, St ok w0 (ext ++ own) fs w → C w
/-- z: blocks allocated freely that nobody changes -/
def mixJ : List Nat → Act → List Ent → List Ent → List Fact → Prop
  | [], a, z, own, fs => ∀ w, St ok w0 (z ++ own) fs w → F a w
  | i :: l, a, z, own, fs => ∃ o, ops[i]? = some o ∧
    if Region.wanted o (yielded ops a.tmps) then
      (mk i = 0 ∧ ∃ v, Reads P C o a v ∧ mixJ l (a.put o.dst v) z own fs) ∨
      (mk i = 1 ∧ ∃ (γ : Type) (val : γ → Value) (p : γ → Prop) (own' : γ → List Ent) (fs' : γ → List Fact),
        (∀ ext w, St ok w0 (ext ++ own) fs w → opX P o a w (fun a' w' => ∃ g, a' = a.put o.dst (val g) ∧ p g ∧ St ok w0 (ext ++ own' g) (fs' g) w') noExit) ∧
        ∀ g, p g → Good ok w0 C (own' g) (fs' g) ∧ mixJ l (a.put o.dst (val g)) z (own' g) (fs' g)) ∨
      (mk i = 3 ∧ ∃ val cs T, Frees P o a val cs T ∧ ∀ b, mixJ l (a.put o.dst (val b)) z (⟨some b, cs, T⟩ :: own) fs) ∨
      (mk i = 5 ∧ ∃ val cs T, Frees P o a val cs T ∧ ∀ b, zf z b → mixJ l (a.put o.dst (val b)) (⟨some b, cs, T⟩ :: z) own fs) ∨
      (mk i = 4 ∧ ∃ b cs T v, (⟨some b, cs, T⟩ : Ent) ∈ z ∧ srcB o a = some b ∧ Reads P (St ok w0 [⟨some b, cs, T⟩] []) o a v ∧ mixJ l (a.put o.dst v) z own fs)
    else mixJ l (a.put o.dst undef) z own fs
end
theorem zf.mem {z z' : List Ent} {b : Nat} (h : zf z b) (hs : ∀ e ∈ z', e ∈ z) : zf z' b := fun e he => h e (hs e he)
theorem zf.cons {z : List Ent} {b b' : Nat} {cs : List Value} {T : TypeId} (h : zf z b) (hb : b' ≠ b) : zf (⟨some b', cs, T⟩ :: z) b := fun e he => by
  rcases List.mem_cons.1 he with rfl | he
  · simpa using hb
  · exact h e he
theorem ZOk.cons {z : List Ent} {b : Nat} {cs : List Value} {T : TypeId} (h : ZOk z) (hb : zf z b) : ZOk (⟨some b, cs, T⟩ :: z) := fun e he e' he' q h1 h2 => by
  rcases List.mem_cons.1 he with rfl | he <;> rcases List.mem_cons.1 he' with rfl | he'
  · rfl
  · simp at h1; subst h1; exact absurd h2 (hb _ he')
  · simp at h2; subst h2; exact absurd h1 (hb _ he)
  · exact h e he e' he' q h1 h2
theorem St.zf {ok : Nat → Prop} {w0 w : World} {z own : List Ent} {fs : List Fact} {m : Nat} (h : St ok w0 (z ++ own) fs w) (hm : w.heap.size ≤ m) : zf z m := fun e he hb => by
  obtain ⟨k, hk⟩ := List.getElem?_of_mem (List.mem_append_left own he)
  obtain ⟨ob, cs, T⟩ := e
  simp only at hb; subst hb
  have := (Array.getElem?_eq_some_iff.1 (h.block hk)).1
  omega
theorem srcB_put {ops : Array Oper} (o : Oper) (a : Act) (dst : Option Tmp) (v : Value) (h : ∀ d, dst = some d → d ∉ o.looksAt ops) : srcB o (a.put dst v) = srcB o a := by
  have ev : ∀ x, x ∈ o.op.operands.toList → (a.put dst v).eval x = a.eval x := fun x hx => Act.eval_put fun d hd hxd => h d hd (by
    subst hxd
    exact List.mem_append_left _ (List.mem_filterMap.2 ⟨.tmp d, hx, rfl⟩))
  unfold srcB
  cases hop : o.op <;> simp only [hop] at ev ⊢
  case convert t t2 x => rw [ev x (by simp [Op.operands])]
  case load t x => rw [ev x (by simp [Op.operands])]
section
variable {ds : List Deferred} {ρ : Option Nat} {P : Program} {ops : Array Oper} {ok : Nat → Prop} {w0 : World} {C : World → Prop} {F : Act → World → Prop} {mk : Nat → Nat}
theorem Frees.same {o : Oper} {a a' : Act} {val : Nat → Value} {cs : List Value} {T : TypeId} (h : Frees P o a val cs T) (he : execOp a'.eval o = execOp a.eval o) : Frees P o a' val cs T := by
  unfold Frees at *; rw [he]; exact h
theorem Frees.eq {o : Oper} {a : Act} {val val' : Nat → Value} {cs cs' : List Value} {T T' : TypeId} (w : World) (h : Frees P o a val cs T) (k : Frees P o a val' cs' T') : val = val' ∧ cs = cs' ∧ T = T' := by
  have key : ∀ b : Nat, val b = val' b ∧ cs = cs' ∧ T = T' := fun b => by
    have h1 := h { w with heap := Array.replicate b (.cells #[] 0) }
    have k1 := k { w with heap := Array.replicate b (.cells #[] 0) }
    rw [h1] at k1
    simp only [Result.ok.injEq, Next.value.injEq, Array.size_replicate, World.alloc, World.mk.injEq, Array.push_inj_left, Array.push_eq_push] at k1
    obtain ⟨e1, e2⟩ := k1
    simp at e2
    exact ⟨e1, e2.1, e2.2⟩
  exact ⟨funext fun b => (key b).1, (key 0).2.1, (key 0).2.2⟩
theorem mixJ_perm : ∀ (l : List Nat) (a : Act) (z z' own own' : List Ent) (fs : List Fact), z'.Perm z → own'.Perm own → mixJ P ops ok w0 C F mk l a z own fs → mixJ P ops ok w0 C F mk l a z' own' fs
  | [], a, z, z', own, own', fs, hz, hp, h => fun w hS => h w (hS.perm (List.Perm.append hz.symm hp.symm))
  | i :: l, a, z, z', own, own', fs, hz, hp, h => by
    obtain ⟨o, ho, h⟩ := h
    refine ⟨o, ho, ?_⟩
    split
    · rename_i hw
      rw [if_pos hw] at h
      rcases h with ⟨h1, v, hv, h⟩ | ⟨h1, γ, val, p, ow, f, hs, h⟩ | ⟨h1, val, cs, T, hf, h⟩ | ⟨h1, val, cs, T, hf, h⟩ | ⟨h1, b, cs, T, v, hm, hb, hv, h⟩
      · exact .inl ⟨h1, v, hv, mixJ_perm l _ z z' own own' fs hz hp h⟩
      · exact .inr (.inl ⟨h1, γ, val, p, ow, f, fun ext w hS => hs ext w (hS.perm (List.Perm.append_left ext hp.symm)), fun g hg => ⟨(h g hg).1, mixJ_perm l _ z z' _ _ _ hz (List.Perm.refl _) (h g hg).2⟩⟩)
      · exact .inr (.inr (.inl ⟨h1, val, cs, T, hf, fun b => mixJ_perm l _ z z' _ _ fs hz (hp.cons _) (h b)⟩))
      · exact .inr (.inr (.inr (.inl ⟨h1, val, cs, T, hf, fun b hb => mixJ_perm l _ _ _ _ _ fs (hz.cons _) hp (h b (hb.mem fun e he => hz.mem_iff.2 he))⟩)))
      · exact .inr (.inr (.inr (.inr ⟨h1, b, cs, T, v, hz.mem_iff.2 hm, hb, hv, mixJ_perm l _ z z' own own' fs hz hp h⟩)))
    · rename_i hw
      rw [if_neg hw] at h
      exact mixJ_perm l _ z z' own own' fs hz hp h
/-- carried over to a frame in which one more slot is filled -/
theorem wp_over {γ : Type} {val : γ → Value} {R : γ → World → Prop} {oi oj : Oper} {a : Act} {w : World} {v : Value} (hap : oi.apart ops oj = true) (hsj : ∀ cs b, oj.op ≠ .select cs b)
    (h : opX P oj a w (fun a' w' => ∃ g, a' = a.put oj.dst (val g) ∧ R g w') noExit) : opX P oj (a.put oi.dst v) w (fun a' w' => ∃ g, a' = (a.put oi.dst v).put oj.dst (val g) ∧ R g w') noExit := by
  obtain ⟨_, h2, _⟩ := Oper.apart_spec hap
  refine opX_mono (fun a' w' hh => ?_) (wp_fill hap hsj (v := v) h)
  obtain ⟨a1, u, _, rfl, g, rfl, hR⟩ := hh
  exact ⟨g, (Act.put_comm a v (val g) h2).symm, hR⟩
theorem put_back {a : Act} {d e : Option Tmp} {v u x : Value} (h : (a.put d v).put e u = (a.put d v).put e x) : a.put e u = a.put e x := by
  cases e with
  | none => rfl
  | some e =>
    have h1 := congrArg (fun a : Act => a.tmps[e]?) h
    by_cases hlt : e < a.tmps.size
    · have : e < (a.put d v).tmps.size := by cases d <;> simp [Act.put, hlt]
      simp [Act.put] at h1
      cases d <;> simp [hlt] at h1 <;> rw [h1]
    · simp only [Act.put]
      rw [Array.setIfInBounds_eq_of_size_le (Nat.le_of_not_lt hlt), Array.setIfInBounds_eq_of_size_le (Nat.le_of_not_lt hlt)]
/-- .. and back -/
theorem wp_back {γ : Type} {val : γ → Value} {R : γ → World → Prop} {oi oj : Oper} {a : Act} {w : World} {v : Value} (hap : oi.apart ops oj = true) (hsj : ∀ cs b, oj.op ≠ .select cs b)
    (h : opX P oj (a.put oi.dst v) w (fun a' w' => ∃ g, a' = (a.put oi.dst v).put oj.dst (val g) ∧ R g w') noExit) : opX P oj a w (fun a' w' => ∃ g, a' = a.put oj.dst (val g) ∧ R g w') noExit := by
  obtain ⟨h1, h2, _⟩ := Oper.apart_spec hap
  unfold opX at *
  rw [execOp_put oj hsj a oi.dst v h1] at h
  generalize (execOp a.eval oj).run P w = r at *
  cases r with
  | ok n w' =>
    cases n <;> simp only [Oper.uponIn] at h ⊢
    case value u => obtain ⟨g, e, hR⟩ := h; exact ⟨g, put_back e, hR⟩
    case skip => obtain ⟨g, e, hR⟩ := h; exact ⟨g, put_back e, hR⟩
    case defer d =>
      obtain ⟨g, e, hR⟩ := h
      exfalso
      have := congrArg (fun a : Act => a.defers.length) e
      cases hd : oj.dst <;> cases hd' : oi.dst <;> simp [Act.put, hd, hd'] at this
    case enter f args =>
      refine ⟨h.1, CallsIn.mono h.2 fun e w'' he => ?_⟩
      cases e with
      | returned u => obtain ⟨g, e, hR⟩ := he; exact ⟨g, put_back e, hR⟩
      | panicked c => exact he
      | outgrown => obtain ⟨_, _, h⟩ := he; exact h.elim
    case round l f tmps assign body =>
      refine ⟨h.1, RoundIn.mono h.2 fun e w'' he => ?_⟩
      cases e with
      | returned u => obtain ⟨g, e, hR⟩ := he; exact ⟨g, put_back e, hR⟩
      | panicked c => exact he
      | outgrown => obtain ⟨_, _, h⟩ := he; exact h.elim
    case row row args => exact ⟨h.1, RowsIn.mono h.2 fun u w'' he => by obtain ⟨g, e, hR⟩ := he; exact ⟨g, put_back e, hR⟩⟩
  | halt x w' => cases x <;> simp only [Oper.uponIn] at h ⊢ <;> exact h
variable (hsel : ∀ (j : Nat) (o : Oper) cs b, ops[j]? = some o → o.op ≠ .select cs b)
include hsel
/-- What is known of an operation further back is known already now. -/
theorem mixJ_peek {j : Nat} {oj : Oper} (hj : ops[j]? = some oj) (hm : mk j ≠ 1) (l2 : List Nat) : ∀ (l1 : List Nat) (a : Act) (z own : List Ent) (fs : List Fact) (w : World), St ok w0 (z ++ own) fs w →
    (∀ k ∈ l1, ∀ ok, ops[k]? = some ok → ok.apart ops oj = true) → mixJ P ops ok w0 C F mk (l1 ++ j :: l2) a z own fs →
    Region.wanted oj (yielded ops a.tmps) = false ∨ (Region.wanted oj (yielded ops a.tmps) = true ∧ ((mk j = 0 ∧ ∃ v, Reads P C oj a v) ∨ ((mk j = 3 ∨ mk j = 5) ∧ ∃ val cs T, Frees P oj a val cs T) ∨
      (mk j = 4 ∧ ∃ b cs T v, (⟨some b, cs, T⟩ : Ent) ∈ z ∧ srcB oj a = some b ∧ Reads P (St ok w0 [⟨some b, cs, T⟩] []) oj a v)))
  | [], a, z, own, fs, w, hS, _, h => by
    obtain ⟨o, ho, h⟩ := h
    obtain rfl : oj = o := Option.some.inj (hj.symm.trans ho)
    cases hw : Region.wanted oj (yielded ops a.tmps)
    · exact .inl rfl
    · rw [if_pos hw] at h
      rcases h with ⟨h1, v, hv, _⟩ | ⟨h1, _⟩ | ⟨h1, val, cs, T, hf, _⟩ | ⟨h1, val, cs, T, hf, _⟩ | ⟨h1, b, cs, T, v, h2, h3, h4, _⟩
      · exact .inr ⟨rfl, .inl ⟨h1, v, hv⟩⟩
      · exact absurd h1 hm
      · exact .inr ⟨rfl, .inr (.inl ⟨.inl h1, val, cs, T, hf⟩)⟩
      · exact .inr ⟨rfl, .inr (.inl ⟨.inr h1, val, cs, T, hf⟩)⟩
      · exact .inr ⟨rfl, .inr (.inr ⟨h1, b, cs, T, v, h2, h3, h4⟩)⟩
  | k :: l1, a, z, own, fs, w, hS, hall, h => by
    obtain ⟨o, ho, h⟩ := h
    have hap := hall k (by simp) o ho
    have hall' : ∀ m ∈ l1, ∀ ok, ops[m]? = some ok → ok.apart ops oj = true := fun m hm => hall m (by simp [hm])
    have back : ∀ u z' own' fs' w', (∀ b, srcB oj a = some b → ∀ cs T, (⟨some b, cs, T⟩ : Ent) ∈ z' → (⟨some b, cs, T⟩ : Ent) ∈ z) → St ok w0 (z' ++ own') fs' w' → mixJ P ops ok w0 C F mk (l1 ++ j :: l2) (a.put o.dst u) z' own' fs' →
        Region.wanted oj (yielded ops a.tmps) = false ∨ (Region.wanted oj (yielded ops a.tmps) = true ∧ ((mk j = 0 ∧ ∃ v, Reads P C oj a v) ∨ ((mk j = 3 ∨ mk j = 5) ∧ ∃ val cs T, Frees P oj a val cs T) ∨
      (mk j = 4 ∧ ∃ b cs T v, (⟨some b, cs, T⟩ : Ent) ∈ z ∧ srcB oj a = some b ∧ Reads P (St ok w0 [⟨some b, cs, T⟩] []) oj a v))) := fun u z' own' fs' w' hz hS' h' => by
      have := mixJ_peek hj hm l2 l1 (a.put o.dst u) z' own' fs' w' hS' hall' h'
      rw [apart_want hap (a := a) (u := u) rfl, srcB_put oj a o.dst u (Oper.apart_spec hap).1] at this
      have hex := (apart_exec hap (fun cs b => hsel j oj cs b hj) (a := a) (u := u) (a' := a.put o.dst u) rfl).symm
      rcases this with h1 | ⟨h1, h2 | h2 | h2⟩
      · exact .inl h1
      · obtain ⟨h3, v, hv⟩ := h2; exact .inr ⟨h1, .inl ⟨h3, v, hv.same hex⟩⟩
      · obtain ⟨h3, val, cs, T, hf⟩ := h2; exact .inr ⟨h1, .inr (.inl ⟨h3, val, cs, T, hf.same hex⟩)⟩
      · obtain ⟨h3, b, cs, T, v, h4, h5, h6⟩ := h2; exact .inr ⟨h1, .inr (.inr ⟨h3, b, cs, T, v, hz b h5 cs T h4, h5, h6.same hex⟩)⟩
    by_cases hw : Region.wanted o (yielded ops a.tmps) = true
    · rw [if_pos hw] at h
      rcases h with ⟨_, v, _, h'⟩ | ⟨_, γ, val, p, ow, f, hs, h'⟩ | ⟨_, val, cs, T, hf, h'⟩ | ⟨_, val, cs, T, hf, h'⟩ | ⟨_, b, cs, T, v, _, _, _, h'⟩
      · exact back v z own fs w (fun _ _ _ _ h => h) hS h'
      · obtain ⟨a', w', u, _, g, rfl, hp, hS'⟩ := wp_some (hs z w hS)
        exact back (val g) z _ _ w' (fun _ _ _ _ h => h) hS' (h' g hp).2
      · exact back _ z _ fs _ (fun _ _ _ _ h => h) ((hS.alloc cs T).perm List.perm_middle) (h' w.heap.size)
      · obtain ⟨w1, hS1, hne⟩ : ∃ w1, St ok w0 (z ++ own) fs w1 ∧ srcB oj a ≠ some w1.heap.size := by
          by_cases hq : srcB oj a = some w.heap.size
          · refine ⟨_, (hS.alloc [] 0).sub (List.sublist_cons_self _ _) (fun _ h => h), ?_⟩
            rw [hq]; show some w.heap.size ≠ some (w.heap.push _).size; simp
          · exact ⟨w, hS, hq⟩
        refine back _ _ _ fs _ (fun b hb cs' T' hmem => ?_) (hS1.alloc cs T) (h' w1.heap.size (hS1.zf (Nat.le_refl _)))
        rcases List.mem_cons.1 hmem with hh | hh
        · simp only [Ent.mk.injEq, Option.some.injEq] at hh; rw [hh.1] at hb; exact absurd hb hne
        · exact hh
      · exact back v z own fs w (fun _ _ _ _ h => h) hS h'
    · rw [if_neg hw] at h
      exact back undef z own fs w (fun _ _ _ _ h => h) hS h
/-- .. and may be carried out now: what is not wanted, what reads -/
theorem mixJ_early {j : Nat} {oj : Oper} (hj : ops[j]? = some oj) (l2 : List Nat) (v : Value) {wc : World} (hC : C wc) : ∀ (l1 : List Nat) (a : Act) (z own : List Ent) (fs : List Fact), ZOk z →
    (∀ k ∈ l1, ∀ ok, ops[k]? = some ok → ok.apart ops oj = true) → mixJ P ops ok w0 C F mk (l1 ++ j :: l2) a z own fs →
    (Region.wanted oj (yielded ops a.tmps) = false ∧ v = undef ∨ mk j = 0 ∧ Region.wanted oj (yielded ops a.tmps) = true ∧ Reads P C oj a v ∨
      mk j = 4 ∧ Region.wanted oj (yielded ops a.tmps) = true ∧ ∃ b cs T, (⟨some b, cs, T⟩ : Ent) ∈ z ∧ srcB oj a = some b ∧ Reads P (St ok w0 [⟨some b, cs, T⟩] []) oj a v ∧ St ok w0 [⟨some b, cs, T⟩] [] wc) →
    mixJ P ops ok w0 C F mk (l1 ++ l2) (a.put oj.dst v) z own fs
  | [], a, z, own, fs, hZ, _, h, hv => by
    obtain ⟨o, ho, h⟩ := h
    obtain rfl : oj = o := Option.some.inj (hj.symm.trans ho)
    rcases hv with ⟨hw, rfl⟩ | ⟨hm, hw, hr⟩ | ⟨hm, hw, b, cs, T, hz, hb, hr, hwc⟩
    · rw [if_neg (by simp [hw])] at h; exact h
    · rw [if_pos hw] at h
      rcases h with ⟨_, u, hu, h'⟩ | ⟨h1, _⟩ | ⟨h1, _⟩ | ⟨h1, _⟩ | ⟨h1, _⟩
      · rw [hr.eq hC hu]; exact h'
      · omega
      · omega
      · omega
      · omega
    · rw [if_pos hw] at h
      rcases h with ⟨h1, _⟩ | ⟨h1, _⟩ | ⟨h1, _⟩ | ⟨h1, _⟩ | ⟨_, b', cs', T', u, hz', hb', hu, h'⟩
      · omega
      · omega
      · omega
      · omega
      · obtain rfl : b = b' := Option.some.inj (hb.symm.trans hb')
        have := hZ _ hz _ hz' b rfl rfl
        simp only [Ent.mk.injEq, true_and] at this
        obtain ⟨rfl, rfl⟩ := this
        rw [hr.eq hwc hu]; exact h'
  | k :: l1, a, z, own, fs, hZ, hall, h, hv => by
    obtain ⟨o, ho, h⟩ := h
    have hap := hall k (by simp) o ho
    have hall' : ∀ m ∈ l1, ∀ ok, ops[m]? = some ok → ok.apart ops oj = true := fun m hm => hall m (by simp [hm])
    obtain ⟨_, h2, _⟩ := Oper.apart_spec hap
    have hap' : oj.apart ops o = true := apart_comm hap
    have next : ∀ u z' own' fs', ZOk z' → (∀ e ∈ z, e ∈ z') → mixJ P ops ok w0 C F mk (l1 ++ j :: l2) (a.put o.dst u) z' own' fs' → mixJ P ops ok w0 C F mk (l1 ++ l2) ((a.put oj.dst v).put o.dst u) z' own' fs' := fun u z' own' fs' hZ' hzz h' => by
      rw [← Act.put_comm a u v h2]
      refine mixJ_early hj l2 v hC l1 _ z' own' fs' hZ' hall' h' ?_
      rw [apart_want hap (a := a) (u := u) rfl, srcB_put oj a o.dst u (Oper.apart_spec hap).1]
      rcases hv with ⟨h1, h3⟩ | ⟨hm, h1, h3⟩ | ⟨hm, h1, b, cs, T, h3, h4, h5, h6⟩
      · exact .inl ⟨h1, h3⟩
      · exact .inr (.inl ⟨hm, h1, h3.same (apart_exec hap (fun cs b => hsel j oj cs b hj) (u := u) rfl)⟩)
      · exact .inr (.inr ⟨hm, h1, b, cs, T, hzz _ h3, h4, h5.same (apart_exec hap (fun cs b => hsel j oj cs b hj) (u := u) rfl), h6⟩)
    refine ⟨o, ho, ?_⟩
    rw [apart_symm_want hap (a := a) (a' := a.put oj.dst v) (u := v) rfl]
    have hex := apart_symm_exec hap (fun cs b => hsel k o cs b ho) (a := a) (a' := a.put oj.dst v) (u := v) rfl
    have hsr : srcB o (a.put oj.dst v) = srcB o a := srcB_put o a oj.dst v (Oper.apart_spec hap').1
    by_cases hw : Region.wanted o (yielded ops a.tmps) = true
    · rw [if_pos hw] at h ⊢
      rcases h with ⟨h1, u, hu, h'⟩ | ⟨h1, γ, val, p, ow, f, hs, h'⟩ | ⟨h1, val, cs, T, hf, h'⟩ | ⟨h1, val, cs, T, hf, h'⟩ | ⟨h1, b, cs, T, u, h4, h5, h6, h'⟩
      · exact .inl ⟨h1, u, hu.same hex, next u z own fs hZ (fun _ h => h) h'⟩
      · exact .inr (.inl ⟨h1, γ, val, p, ow, f, fun ext w hS => wp_over (R := fun g w' => p g ∧ St ok w0 (ext ++ ow g) (f g) w') hap' (fun cs b => hsel k o cs b ho) (hs ext w hS), fun g hp => ⟨(h' g hp).1, next (val g) z _ _ hZ (fun _ h => h) (h' g hp).2⟩⟩)
      · exact .inr (.inr (.inl ⟨h1, val, cs, T, hf.same hex, fun b => next (val b) z _ _ hZ (fun _ h => h) (h' b)⟩))
      · exact .inr (.inr (.inr (.inl ⟨h1, val, cs, T, hf.same hex, fun b hb => next (val b) _ _ _ (hZ.cons hb) (fun _ h => List.mem_cons_of_mem _ h) (h' b hb)⟩)))
      · exact .inr (.inr (.inr (.inr ⟨h1, b, cs, T, u, h4, hsr.trans h5, h6.same hex, next u z own fs hZ (fun _ h => h) h'⟩)))
    · rw [if_neg hw] at h ⊢
      exact next undef z own fs hZ (fun _ h => h) h
/-- a free allocation may be carried out now -/
theorem mixJ_free {j : Nat} {oj : Oper} (hj : ops[j]? = some oj) (hm : mk j = 3) (l2 : List Nat) {val : Nat → Value} {cs : List Value} {T : TypeId} (wc : World) (b : Nat) : ∀ (l1 : List Nat) (a : Act) (z own : List Ent) (fs : List Fact),
    (∀ k ∈ l1, ∀ ok, ops[k]? = some ok → ok.apart ops oj = true) → mixJ P ops ok w0 C F mk (l1 ++ j :: l2) a z own fs →
    Region.wanted oj (yielded ops a.tmps) = true → Frees P oj a val cs T →
    mixJ P ops ok w0 C F mk (l1 ++ l2) (a.put oj.dst (val b)) z (⟨some b, cs, T⟩ :: own) fs
  | [], a, z, own, fs, _, h, hw, hr => by
    obtain ⟨o, ho, h⟩ := h
    obtain rfl : oj = o := Option.some.inj (hj.symm.trans ho)
    rw [if_pos hw] at h
    rcases h with ⟨h1, _⟩ | ⟨h1, _⟩ | ⟨_, val', cs', T', hf, h'⟩ | ⟨h1, _⟩ | ⟨h1, _⟩
    · omega
    · omega
    · obtain ⟨rfl, rfl, rfl⟩ := hr.eq wc hf
      exact h' b
    · omega
    · omega
  | k :: l1, a, z, own, fs, hall, h, hwj, hr => by
    obtain ⟨o, ho, h⟩ := h
    have hap := hall k (by simp) o ho
    have hall' : ∀ m ∈ l1, ∀ ok, ops[m]? = some ok → ok.apart ops oj = true := fun m hm => hall m (by simp [hm])
    obtain ⟨_, h2, _⟩ := Oper.apart_spec hap
    have hap' : oj.apart ops o = true := apart_comm hap
    have next : ∀ u z' own' fs', mixJ P ops ok w0 C F mk (l1 ++ j :: l2) (a.put o.dst u) z' own' fs' → mixJ P ops ok w0 C F mk (l1 ++ l2) ((a.put oj.dst (val b)).put o.dst u) z' (⟨some b, cs, T⟩ :: own') fs' := fun u z' own' fs' h' => by
      rw [← Act.put_comm a u (val b) h2]
      refine mixJ_free hj hm l2 wc b l1 _ z' own' fs' hall' h' ?_ (hr.same (apart_exec hap (fun cs b => hsel j oj cs b hj) (u := u) rfl))
      rw [apart_want hap (a := a) (u := u) rfl]; exact hwj
    refine ⟨o, ho, ?_⟩
    rw [apart_symm_want hap (a := a) (a' := a.put oj.dst (val b)) (u := val b) rfl]
    have hex := apart_symm_exec hap (fun cs b => hsel k o cs b ho) (a := a) (a' := a.put oj.dst (val b)) (u := val b) rfl
    have hsr : srcB o (a.put oj.dst (val b)) = srcB o a := srcB_put o a oj.dst (val b) (Oper.apart_spec hap').1
    by_cases hw : Region.wanted o (yielded ops a.tmps) = true
    · rw [if_pos hw] at h ⊢
      rcases h with ⟨h1, u, hu, h'⟩ | ⟨h1, γ, val', p, ow, f, hs, h'⟩ | ⟨h1, val', cs', T', hf, h'⟩ | ⟨h1, val', cs', T', hf, h'⟩ | ⟨h1, b4, cs4, T4, u, h4, h5, h6, h'⟩
      · exact .inl ⟨h1, u, hu.same hex, next u z own fs h'⟩
      · refine .inr (.inl ⟨h1, γ, val', p, fun g => ⟨some b, cs, T⟩ :: ow g, f, fun ext w hS => ?_, fun g hp => ⟨fun ext w hS => (h' g hp).1 (ext ++ [⟨some b, cs, T⟩]) w (by simpa using hS), next (val' g) z _ _ (h' g hp).2⟩⟩)
        have := hs (ext ++ [⟨some b, cs, T⟩]) w (by simpa using hS)
        simp only [List.append_assoc, List.singleton_append] at this
        exact wp_over (R := fun g w' => p g ∧ St ok w0 (ext ++ (⟨some b, cs, T⟩ :: ow g)) (f g) w') hap' (fun cs b => hsel k o cs b ho) this
      · exact .inr (.inr (.inl ⟨h1, val', cs', T', hf.same hex, fun b' => mixJ_perm _ _ _ _ _ _ _ (List.Perm.refl _) (List.Perm.swap _ _ _) (next (val' b') z _ _ (h' b'))⟩))
      · exact .inr (.inr (.inr (.inl ⟨h1, val', cs', T', hf.same hex, fun b' hb' => next (val' b') _ _ _ (h' b' hb')⟩)))
      · exact .inr (.inr (.inr (.inr ⟨h1, b4, cs4, T4, u, h4, hsr.trans h5, h6.same hex, next u z own fs h'⟩)))
    · rw [if_neg hw] at h ⊢
      exact next undef z own fs h
/-- .. one that nobody changes -/
theorem mixJ_fz {j : Nat} {oj : Oper} (hj : ops[j]? = some oj) (hm : mk j = 5) (l2 : List Nat) {val : Nat → Value} {cs : List Value} {T : TypeId} (wc : World) (b : Nat) : ∀ (l1 : List Nat) (a : Act) (z own : List Ent) (fs : List Fact), zf z b →
    (∀ k ∈ l1, ∀ ok, ops[k]? = some ok → ok.apart ops oj = true) → mixJ P ops ok w0 C F mk (l1 ++ j :: l2) a z own fs →
    Region.wanted oj (yielded ops a.tmps) = true → Frees P oj a val cs T →
    mixJ P ops ok w0 C F mk (l1 ++ l2) (a.put oj.dst (val b)) (⟨some b, cs, T⟩ :: z) own fs
  | [], a, z, own, fs, hzb, _, h, hw, hr => by
    obtain ⟨o, ho, h⟩ := h
    obtain rfl : oj = o := Option.some.inj (hj.symm.trans ho)
    rw [if_pos hw] at h
    rcases h with ⟨h1, _⟩ | ⟨h1, _⟩ | ⟨h1, _⟩ | ⟨_, val', cs', T', hf, h'⟩ | ⟨h1, _⟩
    · omega
    · omega
    · omega
    · obtain ⟨rfl, rfl, rfl⟩ := hr.eq wc hf
      exact h' b hzb
    · omega
  | k :: l1, a, z, own, fs, hzb, hall, h, hwj, hr => by
    obtain ⟨o, ho, h⟩ := h
    have hap := hall k (by simp) o ho
    have hall' : ∀ m ∈ l1, ∀ ok, ops[m]? = some ok → ok.apart ops oj = true := fun m hm => hall m (by simp [hm])
    obtain ⟨_, h2, _⟩ := Oper.apart_spec hap
    have hap' : oj.apart ops o = true := apart_comm hap
    have next : ∀ u z' own' fs', zf z' b → mixJ P ops ok w0 C F mk (l1 ++ j :: l2) (a.put o.dst u) z' own' fs' → mixJ P ops ok w0 C F mk (l1 ++ l2) ((a.put oj.dst (val b)).put o.dst u) (⟨some b, cs, T⟩ :: z') own' fs' := fun u z' own' fs' hz' h' => by
      rw [← Act.put_comm a u (val b) h2]
      refine mixJ_fz hj hm l2 wc b l1 _ z' own' fs' hz' hall' h' ?_ (hr.same (apart_exec hap (fun cs b => hsel j oj cs b hj) (u := u) rfl))
      rw [apart_want hap (a := a) (u := u) rfl]; exact hwj
    refine ⟨o, ho, ?_⟩
    rw [apart_symm_want hap (a := a) (a' := a.put oj.dst (val b)) (u := val b) rfl]
    have hex := apart_symm_exec hap (fun cs b => hsel k o cs b ho) (a := a) (a' := a.put oj.dst (val b)) (u := val b) rfl
    have hsr : srcB o (a.put oj.dst (val b)) = srcB o a := srcB_put o a oj.dst (val b) (Oper.apart_spec hap').1
    by_cases hw : Region.wanted o (yielded ops a.tmps) = true
    · rw [if_pos hw] at h ⊢
      rcases h with ⟨h1, u, hu, h'⟩ | ⟨h1, γ, val', p, ow, f, hs, h'⟩ | ⟨h1, val', cs', T', hf, h'⟩ | ⟨h1, val', cs', T', hf, h'⟩ | ⟨h1, b4, cs4, T4, u, h4, h5, h6, h'⟩
      · exact .inl ⟨h1, u, hu.same hex, next u z own fs hzb h'⟩
      · exact .inr (.inl ⟨h1, γ, val', p, ow, f, fun ext w hS => wp_over (R := fun g w' => p g ∧ St ok w0 (ext ++ ow g) (f g) w') hap' (fun cs b => hsel k o cs b ho) (hs ext w hS), fun g hp => ⟨(h' g hp).1, next (val' g) z _ _ hzb (h' g hp).2⟩⟩)
      · exact .inr (.inr (.inl ⟨h1, val', cs', T', hf.same hex, fun b' => next (val' b') z _ _ hzb (h' b')⟩))
      · refine .inr (.inr (.inr (.inl ⟨h1, val', cs', T', hf.same hex, fun b' hb' => ?_⟩)))
        have hne : b' ≠ b := fun e => hb' ⟨some b, cs, T⟩ (by simp) (by rw [e])
        exact mixJ_perm _ _ _ _ _ _ _ (List.Perm.swap _ _ _) (List.Perm.refl _) (next (val' b') _ _ _ (hzb.cons hne) (h' b' (hb'.mem fun e he => List.mem_cons_of_mem _ he)))
      · exact .inr (.inr (.inr (.inr ⟨h1, b4, cs4, T4, u, List.mem_cons_of_mem _ h4, hsr.trans h5, h6.same hex, next u z own fs hzb h'⟩)))
    · rw [if_neg hw] at h ⊢
      exact next undef z own fs hzb h
/-- a loud operation behind reading ones may be carried out now -/
theorem mixJ_loud {j : Nat} {oj : Oper} (hj : ops[j]? = some oj) (hm : mk j = 1) (l2 : List Nat) : ∀ (l1 : List Nat) (a : Act) (z own : List Ent) (fs : List Fact),
    (∀ k ∈ l1, mk k = 0 ∧ ∀ ok, ops[k]? = some ok → ok.apart ops oj = true) → mixJ P ops ok w0 C F mk (l1 ++ j :: l2) a z own fs → Region.wanted oj (yielded ops a.tmps) = true →
    ∃ (γ : Type) (val : γ → Value) (p : γ → Prop) (own' : γ → List Ent) (fs' : γ → List Fact),
        (∀ ext w, St ok w0 (ext ++ own) fs w → opX P oj a w (fun a' w' => ∃ g, a' = a.put oj.dst (val g) ∧ p g ∧ St ok w0 (ext ++ own' g) (fs' g) w') noExit) ∧
        ∀ g, p g → Good ok w0 C (own' g) (fs' g) ∧ mixJ P ops ok w0 C F mk (l1 ++ l2) (a.put oj.dst (val g)) z (own' g) (fs' g)
  | [], a, z, own, fs, _, h, hw => by
    obtain ⟨o, ho, h⟩ := h
    obtain rfl : oj = o := Option.some.inj (hj.symm.trans ho)
    rw [if_pos hw] at h
    rcases h with ⟨h1, _⟩ | ⟨_, h'⟩ | ⟨h1, _⟩ | ⟨h1, _⟩ | ⟨h1, _⟩
    · omega
    · exact h'
    · omega
    · omega
    · omega
  | k :: l1, a, z, own, fs, hall, h, hwj => by
    obtain ⟨o, ho, h⟩ := h
    have hk0 := (hall k (by simp)).1
    have hap := (hall k (by simp)).2 o ho
    have hall' : ∀ m ∈ l1, mk m = 0 ∧ ∀ ok, ops[m]? = some ok → ok.apart ops oj = true := fun m hm => hall m (by simp [hm])
    obtain ⟨_, h2, _⟩ := Oper.apart_spec hap
    have key : ∀ v, (∀ u own' fs', mixJ P ops ok w0 C F mk (l1 ++ l2) ((a.put oj.dst u).put o.dst v) z own' fs' → mixJ P ops ok w0 C F mk (k :: l1 ++ l2) (a.put oj.dst u) z own' fs') → mixJ P ops ok w0 C F mk (l1 ++ j :: l2) (a.put o.dst v) z own fs →
        ∃ (γ : Type) (val : γ → Value) (p : γ → Prop) (own' : γ → List Ent) (fs' : γ → List Fact),
        (∀ ext w, St ok w0 (ext ++ own) fs w → opX P oj a w (fun a' w' => ∃ g, a' = a.put oj.dst (val g) ∧ p g ∧ St ok w0 (ext ++ own' g) (fs' g) w') noExit) ∧
        ∀ g, p g → Good ok w0 C (own' g) (fs' g) ∧ mixJ P ops ok w0 C F mk (k :: l1 ++ l2) (a.put oj.dst (val g)) z (own' g) (fs' g) := fun v back h' => by
      obtain ⟨γ, val, p, ow, f, hs, hn⟩ := mixJ_loud hj hm l2 l1 (a.put o.dst v) z own fs hall' h' (by rw [apart_want hap (a := a) (u := v) rfl]; exact hwj)
      refine ⟨γ, val, p, ow, f, fun ext w hS => wp_back (R := fun g w' => p g ∧ St ok w0 (ext ++ ow g) (f g) w') hap (fun cs b => hsel j oj cs b hj) (hs ext w hS), fun g hp => ⟨(hn g hp).1, back _ _ _ ?_⟩⟩
      rw [← Act.put_comm a v (val g) h2]; exact (hn g hp).2
    by_cases hw : Region.wanted o (yielded ops a.tmps) = true
    · rw [if_pos hw] at h
      rcases h with ⟨_, v, hv, h'⟩ | ⟨h1, _⟩ | ⟨h1, _⟩ | ⟨h1, _⟩ | ⟨h1, _⟩
      · refine key v (fun u own' fs' h'' => ⟨o, ho, ?_⟩) h'
        rw [if_pos (by rw [apart_symm_want hap (a := a) (u := u) rfl]; exact hw)]
        exact .inl ⟨hk0, v, hv.same (apart_symm_exec hap (fun cs b => hsel k o cs b ho) (u := u) rfl), h''⟩
      · omega
      · omega
      · omega
      · omega
    · rw [if_neg hw] at h
      refine key undef (fun u own' fs' h'' => ⟨o, ho, ?_⟩) h
      rw [if_neg (by rw [apart_symm_want hap (a := a) (u := u) rfl]; exact hw)]
      exact h''
end
/-! ### The static look -/
def noEdge (l : List Oper) (j k : Nat) : Bool := match l[j]? with
  | none => true
  | some o => o.after.all fun e => !Region.binds .any e || !(e.on == k)
/-- k stands ahead of j in the walk -/
def aheadOk (l : List Oper) (masks marks : List Nat) (k j : Nat) : Bool :=
  !(k == j) && noEdge l k j && match l[j]?, l[k]? with
    | some oj, some ok => (Nat.blt k j && bitOf (masks.getD j 0) k) ||
      (ok.apart l.toArray oj && (marks.getD j 2 == 0 || marks.getD j 2 == 3 || marks.getD j 2 == 4 || marks.getD j 2 == 5 || (marks.getD j 2 == 1 && marks.getD k 2 == 0)))
    | _, _ => false
def pairwiseB (r : Nat → Nat → Bool) : List Nat → Bool
  | [] => true
  | x :: l => l.all (r x) && pairwiseB r l
theorem pairwiseB_spec {r : Nat → Nat → Bool} : ∀ {l : List Nat}, pairwiseB r l = true → l.Pairwise (fun x y => r x y = true)
  | [], _ => List.Pairwise.nil
  | x :: l, h => by
    simp only [pairwiseB, Bool.and_eq_true] at h
    exact List.Pairwise.cons (fun y hy => List.all_eq_true.1 h.1 y hy) (pairwiseB_spec h.2)
def freeOk (l : List Oper) (front tail marks : List Nat) : Bool :=
  noSel l && maskOk l (masksOf l []) && (List.range l.length).all (fun i => (front ++ tail).contains i && noEdge l i i) && (front ++ tail).all (fun i => Nat.blt i l.length) &&
  l.all (fun o => o.after.all fun e => !Region.binds .any e || Nat.blt e.on l.length) &&
  pairwiseB (aheadOk l (masksOf l []) marks) (front ++ tail) && front.all (fun i => marks.getD i 2 == 0 || marks.getD i 2 == 1 || marks.getD i 2 == 3 || marks.getD i 2 == 4 || marks.getD i 2 == 5) && tail.all (fun i => marks.getD i 2 == 2)
section
variable {ds : List Deferred} {ρ : Option Nat} {P : Program} {l : List Oper} {ok : Nat → Prop} {w0 : World} {C : World → Prop} {Q : Exit → Act → World → Prop} {front tail marks : List Nat}
structure FreeOk (l : List Oper) (front tail marks : List Nat) : Prop where
  sel : ∀ (j : Nat) (o : Oper) cs b, l.toArray[j]? = some o → o.op ≠ .select cs b
  mask : maskOk l (masksOf l []) = true
  all : ∀ i, i < l.length → i ∈ front ++ tail ∧ noEdge l i i = true
  lt : ∀ i, i ∈ front ++ tail → i < l.length
  edge : ∀ (j : Nat) (o : Oper), l[j]? = some o → ∀ e ∈ o.after, Region.binds .any e = true → e.on < l.length
  pair : (front ++ tail).Pairwise (fun k j => aheadOk l (masksOf l []) marks k j = true)
  mf : ∀ i ∈ front, marks.getD i 2 = 0 ∨ marks.getD i 2 = 1 ∨ marks.getD i 2 = 3 ∨ marks.getD i 2 = 4 ∨ marks.getD i 2 = 5
  mt : ∀ i ∈ tail, marks.getD i 2 = 2
theorem freeOk_spec (h : freeOk l front tail marks = true) : FreeOk l front tail marks := by
  simp only [freeOk, Bool.and_eq_true] at h
  obtain ⟨⟨⟨⟨⟨⟨⟨h1, h2⟩, h3⟩, h4⟩, h5⟩, h6⟩, h7⟩, h8⟩ := h
  refine ⟨fun j o cs b hj heq => ?_, h2, fun i hi => ?_, fun i hi => ?_, fun j o hj e he hb => ?_, pairwiseB_spec h6, fun i hi => ?_, fun i hi => ?_⟩
  · have := List.all_eq_true.1 h1 o (List.mem_of_getElem? (by simpa using hj))
    simp [heq] at this
  · have := List.all_eq_true.1 h3 i (List.mem_range.2 hi)
    simp only [Bool.and_eq_true] at this
    exact ⟨by simpa using this.1, this.2⟩
  · have := List.all_eq_true.1 h4 i hi
    simpa using this
  · have := Array.all_eq_true'.1 (List.all_eq_true.1 h5 o (List.mem_of_getElem? hj)) e he
    simpa [hb] using this
  · have := List.all_eq_true.1 h7 i hi
    simp only [Bool.or_eq_true, beq_iff_eq] at this
    omega
  · have := List.all_eq_true.1 h8 i hi
    simpa using this
/-- what is left: not listed yet -/
structure Left (l : List Oper) (listed : Array Bool) (rest : List Nat) (front tail marks : List Nat) : Prop where
  cl : Closed l listed
  mem : ∀ i, i ∈ rest ↔ i < l.length ∧ listed.getD i false = false
  pair : rest.Pairwise (fun k j => aheadOk l (masksOf l []) marks k j = true)
theorem Left.head (hB : FreeOk l front tail marks) {listed : Array Bool} {i : Nat} {r : List Nat} (h : Left l listed (i :: r) front tail marks) : i ∈ Region.ready .any l.toArray listed := by
  have hi := (h.mem i).1 (by simp)
  obtain ⟨o, ho⟩ : ∃ o, l[i]? = some o := ⟨_, List.getElem?_eq_getElem hi.1⟩
  refine mem_ready.2 ⟨by
    have hs : i < listed.size := by rw [h.cl.size]; exact hi.1
    have := hi.2; simp [hs] at this ⊢; exact this, o, by simpa using ho, fun e he hb => ?_⟩
  cases hl : listed.getD e.on false with
  | true => rfl
  | false =>
    exfalso
    have h3 : e.on ∈ i :: r := (h.mem e.on).2 ⟨hB.edge i o ho e he hb, hl⟩
    have key : ∀ k, noEdge l i k = true → e.on ≠ k := fun k hk hek => by
      simp only [noEdge, ho] at hk
      have := Array.all_eq_true'.1 hk e he
      simp [hb, hek] at this
    rcases List.mem_cons.1 h3 with h4 | h4
    · exact key i (hB.all i hi.1).2 h4
    · have := List.rel_of_pairwise_cons h.pair h4
      simp only [aheadOk, Bool.and_eq_true] at this
      exact key e.on this.1.2 rfl
theorem Left.next {listed : Array Bool} {j : Nat} {l1 l2 : List Nat} (h : Left l listed (l1 ++ j :: l2) front tail marks) (hj : j ∈ Region.ready .any l.toArray listed) : Left l (listed.setIfInBounds j true) (l1 ++ l2) front tail marks := by
  obtain ⟨h0, oj, hoj, hall⟩ := mem_ready.1 hj
  have hojl : l[j]? = some oj := by simpa using hoj
  have hjl : j < l.length := (List.getElem?_eq_some_iff.1 hojl).1
  have hjs : j < listed.size := by rw [h.cl.size]; exact hjl
  have hpw := h.pair
  rw [List.pairwise_append] at hpw
  obtain ⟨p1, p2, p3⟩ := hpw
  refine ⟨⟨by simp [h.cl.size], fun m om hom hm e he hb => ?_⟩, fun i => ?_, ?_⟩
  · by_cases hjm : j = m
    · subst hjm
      obtain rfl : oj = om := Option.some.inj (hojl.symm.trans hom)
      exact getD_set_true (hall e he hb)
    · rw [getD_set_ne false hjm] at hm
      exact getD_set_true (h.cl.closed m om hom hm e he hb)
  · by_cases hij : j = i
    · subst hij
      have hnot : j ∉ l1 ++ l2 := by
        intro hh
        rcases List.mem_append.1 hh with hh | hh
        · have := p3 j hh j (by simp); simp [aheadOk] at this
        · have := List.rel_of_pairwise_cons p2 hh; simp [aheadOk] at this
      simp [hnot, hjs]
    · rw [getD_set_ne false hij, ← h.mem i]
      simp [Ne.symm hij]
  · rw [List.pairwise_append]
    exact ⟨p1, (List.pairwise_cons.1 p2).2, fun x hx y hy => p3 x hx y (by simp [hy])⟩
theorem Left.ahead (hB : FreeOk l front tail marks) {listed : Array Bool} {j : Nat} {oj : Oper} {l1 l2 : List Nat} (h : Left l listed (l1 ++ j :: l2) front tail marks) (hj : j ∈ Region.ready .any l.toArray listed) (hoj : l[j]? = some oj) :
    ∀ k ∈ l1, (∀ ok, l[k]? = some ok → ok.apart l.toArray oj = true) ∧ (marks.getD j 2 = 0 ∨ marks.getD j 2 = 3 ∨ marks.getD j 2 = 4 ∨ marks.getD j 2 = 5 ∨ (marks.getD j 2 = 1 ∧ marks.getD k 2 = 0)) := by
  intro k hk
  obtain ⟨h0, oj', hoj', hall⟩ := mem_ready.1 hj
  obtain rfl : oj = oj' := Option.some.inj (hoj.symm.trans (by simpa using hoj'))
  have hpw := h.pair
  rw [List.pairwise_append] at hpw
  have h1 := hpw.2.2 k hk j (by simp)
  have hkm := (h.mem k).1 (by simp [hk])
  obtain ⟨okk, hok⟩ : ∃ o, l[k]? = some o := ⟨_, List.getElem?_eq_getElem hkm.1⟩
  simp only [aheadOk, hoj, hok, Bool.and_eq_true, Bool.or_eq_true, Nat.blt_eq, beq_iff_eq] at h1
  rcases h1.2 with ⟨h2, h3⟩ | ⟨h2, h3⟩
  · have := mask_listed hB.mask h.cl j oj hoj hall k h2 h3
    rw [this] at hkm
    exact absurd hkm.2 (by simp)
  · refine ⟨fun ok' hok' => ?_, by omega⟩
    obtain rfl : okk = ok' := Option.some.inj (hok.symm.trans hok')
    exact h2
/-- the forced tail -/
theorem wpAny_tail (hB : FreeOk l front tail marks) : ∀ (rest : List Nat) (listed : Array Bool) (a : Act) (w : World), (∀ i ∈ rest, marks.getD i 2 = 2) → Left l listed rest front tail marks → opsX P l.toArray Q rest a w → anyX P .any l.toArray Q rest.length listed a w
  | [], listed, a, w, _, hL, h => by
    refine ⟨?_, h⟩
    rw [List.eq_nil_iff_forall_not_mem]
    intro i hi
    obtain ⟨h0, o, ho, _⟩ := mem_ready.1 hi
    have hil : i < l.length := (List.getElem?_eq_some_iff.1 (show l[i]? = some o by simpa using ho)).1
    have : i ∈ ([] : List Nat) := (hL.mem i).2 ⟨hil, by
      have : i < listed.size := by rw [hL.cl.size]; exact hil
      simp [this] at h0 ⊢; exact h0⟩
    cases this
  | i :: r, listed, a, w, hm, hL, h => by
    refine ⟨fun hnil => ?_, fun j hj => ?_⟩
    · have := hL.head hB; rw [hnil] at this; cases this
    · obtain ⟨h0, oj, hoj, hall⟩ := mem_ready.1 hj
      have hojl : l[j]? = some oj := by simpa using hoj
      have hjl : j < l.length := (List.getElem?_eq_some_iff.1 hojl).1
      have hjs : j < listed.size := by rw [hL.cl.size]; exact hjl
      have hjr : j ∈ i :: r := (hL.mem j).2 ⟨hjl, by simp [hjs] at h0 ⊢; exact h0⟩
      have hji : j = i := by
        rcases List.mem_cons.1 hjr with h1 | h1
        · exact h1
        · exfalso
          obtain ⟨l1, l2, e⟩ := List.append_of_mem h1
          have hL' : Left l listed ((i :: l1) ++ j :: l2) front tail marks := by rw [List.cons_append, ← e]; exact hL
          have h3 := (hL'.ahead hB hj hojl i (by simp)).2
          have := hm j hjr
          omega
      subst hji
      rw [opsX_cons] at h
      refine opnX_mono (fun a' w' h' => ?_) h
      exact wpAny_tail hB r _ a' w' (fun i hi => hm i (by simp [hi])) (hL.next (l1 := []) hj) h'
theorem wpAny_of_mixJ (hB : FreeOk l front tail marks) : ∀ (rest : List Nat) (listed : Array Bool) (a : Act) (z own : List Ent) (fs : List Fact) (w : World), (∀ i ∈ rest, i ∈ front) →
    Left l listed (rest ++ tail) front tail marks → St ok w0 (z ++ own) fs w → Good ok w0 C own fs → ZOk z →
    mixJ P l.toArray ok w0 C (opsX P l.toArray Q tail) (fun i => marks.getD i 2) rest a z own fs → anyX P .any l.toArray Q (rest ++ tail).length listed a w := by
  intro rest
  induction hn : rest.length generalizing rest with
  | zero =>
    intro listed a z own fs w hf hL hS hG hZ h
    have : rest = [] := List.eq_nil_of_length_eq_zero hn
    subst this
    exact wpAny_tail hB tail listed a w hB.mt hL (h w hS)
  | succ n ih =>
    intro listed a z own fs w hf hL hS hG hZ h
    have hlen : (rest ++ tail).length = (n + tail.length) + 1 := by simp; omega
    rw [hlen]
    refine ⟨fun hnil => ?_, fun j hj => ?_⟩
    · obtain ⟨i, r, rfl⟩ := List.exists_cons_of_ne_nil (show rest ≠ [] by intro e; subst e; simp at hn)
      have := hL.head hB; rw [hnil] at this; cases this
    · obtain ⟨h0, oj, hoj, hall⟩ := mem_ready.1 hj
      have hojl : l[j]? = some oj := by simpa using hoj
      have hjl : j < l.length := (List.getElem?_eq_some_iff.1 hojl).1
      have hjs : j < listed.size := by rw [hL.cl.size]; exact hjl
      have hjr : j ∈ rest ++ tail := (hL.mem j).2 ⟨hjl, by simp [hjs] at h0 ⊢; exact h0⟩
      rcases List.mem_append.1 hjr with hjr | hjt
      · obtain ⟨l1, l2, rfl⟩ := List.append_of_mem hjr
        have hL' : Left l listed (l1 ++ j :: (l2 ++ tail)) front tail marks := by simpa using hL
        have hnext := hL'.next hj
        have hah := hL'.ahead hB hj hojl
        have hlen' : (l1 ++ l2).length = n := by simp at hn ⊢; omega
        have hlt : n + tail.length = ((l1 ++ l2) ++ tail).length := by rw [List.length_append, hlen']
        have hff : ∀ i ∈ l1 ++ l2, i ∈ front := fun i hi => hf i (by rcases List.mem_append.1 hi with h | h <;> simp [h])
        have hap : ∀ k ∈ l1, ∀ ok, l.toArray[k]? = some ok → ok.apart l.toArray oj = true := fun k hk ok hok => (hah k hk).1 ok (by simpa using hok)
        have hCw : C w := hG z w hS
        have go : ∀ a' z' own' fs' w', St ok w0 (z' ++ own') fs' w' → Good ok w0 C own' fs' → ZOk z' → mixJ P l.toArray ok w0 C (opsX P l.toArray Q tail) (fun i => marks.getD i 2) (l1 ++ l2) a' z' own' fs' → anyX P .any l.toArray Q (n + tail.length) (listed.setIfInBounds j true) a' w' := fun a' z' own' fs' w' hS' hG' hZ' h' => by
          rw [hlt]
          exact ih (l1 ++ l2) hlen' _ a' z' own' fs' w' hff (by simpa using hnext) hS' hG' hZ' h'
        have hmk := hB.mf j (hf j (by simp))
        by_cases hw : Region.wanted oj (yielded l.toArray a.tmps) = true
        · rcases hmk with hmk | hmk | hmk | hmk | hmk
          · rcases mixJ_peek hB.sel hoj (by show marks.getD j 2 ≠ 1; omega) l2 l1 a z own fs w hS hap h with h1 | ⟨_, ⟨_, v, hv⟩ | ⟨h1, _⟩ | ⟨h1, _⟩⟩
            · rw [hw] at h1; cases h1
            · exact wpOp_of_wp hoj hw (hv.wp hCw (go _ z own fs w hS hG hZ (mixJ_early hB.sel hoj l2 v hCw l1 a z own fs hZ hap h (.inr (.inl ⟨hmk, hw, hv⟩)))))
            · exfalso; omega
            · exfalso; omega
          · have hap1 : ∀ k ∈ l1, (fun i => marks.getD i 2) k = 0 ∧ ∀ ok, l.toArray[k]? = some ok → ok.apart l.toArray oj = true := fun k hk => ⟨by have := (hah k hk).2; simp only; omega, hap k hk⟩
            obtain ⟨γ, val, p, ow, f, hs, hnx⟩ := mixJ_loud hB.sel hoj hmk l2 l1 a z own fs hap1 h hw
            refine wpOp_of_wp hoj hw (opX_mono (fun a' w' hh => ?_) (hs z w hS))
            obtain ⟨g, rfl, hp, hS'⟩ := hh
            exact go _ z _ _ w' hS' (hnx g hp).1 hZ (hnx g hp).2
          · rcases mixJ_peek hB.sel hoj (by show marks.getD j 2 ≠ 1; omega) l2 l1 a z own fs w hS hap h with h1 | ⟨_, ⟨h1, _⟩ | ⟨_, val, cs, T, hfr⟩ | ⟨h1, _⟩⟩
            · rw [hw] at h1; cases h1
            · exfalso; omega
            · refine wpOp_of_wp hoj hw ?_
              unfold opX
              rw [hfr w]
              exact go _ z _ fs _ ((hS.alloc cs T).perm List.perm_middle) (fun ext w hS => hG (ext ++ [⟨some _, cs, T⟩]) w (by simpa using hS)) hZ (mixJ_free hB.sel hoj hmk l2 w _ l1 a z own fs hap h hw hfr)
            · exfalso; omega
          · rcases mixJ_peek hB.sel hoj (by show marks.getD j 2 ≠ 1; omega) l2 l1 a z own fs w hS hap h with h1 | ⟨_, ⟨h1, _⟩ | ⟨h1, _⟩ | ⟨_, b, cs, T, v, h3, h4, h5⟩⟩
            · rw [hw] at h1; cases h1
            · exfalso; omega
            · exfalso; omega
            · have hSb : St ok w0 [⟨some b, cs, T⟩] [] w := hS.sub (List.singleton_sublist.2 (List.mem_append_left _ h3)) (fun _ h => by cases h)
              exact wpOp_of_wp hoj hw (h5.wp hSb (go _ z own fs w hS hG hZ (mixJ_early hB.sel hoj l2 v hCw l1 a z own fs hZ hap h (.inr (.inr ⟨hmk, hw, b, cs, T, h3, h4, h5, hSb⟩)))))
          · rcases mixJ_peek hB.sel hoj (by show marks.getD j 2 ≠ 1; omega) l2 l1 a z own fs w hS hap h with h1 | ⟨_, ⟨h1, _⟩ | ⟨_, val, cs, T, hfr⟩ | ⟨h1, _⟩⟩
            · rw [hw] at h1; cases h1
            · exfalso; omega
            · refine wpOp_of_wp hoj hw ?_
              unfold opX
              rw [hfr w]
              have hzf := hS.zf (Nat.le_refl _)
              exact go _ _ _ fs _ (hS.alloc cs T) hG (hZ.cons hzf) (mixJ_fz hB.sel hoj hmk l2 w _ l1 a z own fs hzf hap h hw hfr)
            · exfalso; omega
        · have hw' : Region.wanted oj (yielded l.toArray a.tmps) = false := by simpa using hw
          exact wpOp_unwanted hoj hw' (go _ z own fs w hS hG hZ (mixJ_early hB.sel hoj l2 undef hCw l1 a z own fs hZ hap h (.inl ⟨hw', rfl⟩)))
      · exfalso
        obtain ⟨i, r, rfl⟩ := List.exists_cons_of_ne_nil (show rest ≠ [] by intro e; subst e; simp at hn)
        obtain ⟨l1, l2, e⟩ := List.append_of_mem hjt
        have hL' : Left l listed ((i :: r ++ l1) ++ j :: l2) front tail marks := by rw [List.append_assoc, ← e]; exact hL
        have h3 := (hL'.ahead hB hj hojl i (by simp)).2
        have := hB.mt j hjt
        omega
end
/-! ### Judgement and rules -/
def WJ (ds : List Deferred) (P : Program) (ops : List Oper) (ok : Nat → Prop) (w0 : World) (C : World → Prop) (F : Act → World → Prop) (marks : List Nat) (n : Nat) (rest : List Nat) (L : Slots) (own : List Ent) (fs : List Fact) (z : List Ent) : Prop :=
  ∀ a, Fr ds a n L → mixJ P ops.toArray ok w0 C F (fun i => marks.getD i 2) rest a z own fs
/-- found by instance: one list is a part of another -/
class SubL {α : Type} (x y : List α) : Prop where
  h : x.Sublist y
instance (priority := high) SubL.refl {α : Type} (x : List α) : SubL x x := ⟨List.Sublist.refl _⟩
instance SubL.nil {α : Type} (y : List α) : SubL [] y := ⟨List.nil_sublist _⟩
instance SubL.cons {α : Type} (x y : List α) (e : α) [SubL x y] : SubL x (e :: y) := ⟨SubL.h.cons _⟩
instance SubL.cc {α : Type} (x y : List α) (e : α) [SubL x y] : SubL (e :: x) (e :: y) := ⟨SubL.h.cons_cons _⟩
section
variable {ds : List Deferred} {ρ : Option Nat} {P : Program} {ops : List Oper} {ok : Nat → Prop} {w0 : World} {C : World → Prop} {F : Act → World → Prop} {marks : List Nat} {n d i : Nat} {rest : List Nat} {L : Slots} {own z : List Ent} {fs : List Fact} {o : Oper} {v : Value}
theorem WJ.r (ho : ops[i]? = some o) (hm : marks.getD i 2 = 0) (hw : wantO ops L o = some true) (hdst : o.dst = some d) (hd : Nat.blt d n = true) (h : Rd ds P o n L C v) (k : WJ ds P ops ok w0 C F marks n rest ((d, v) :: L) own fs z) : WJ ds P ops ok w0 C F marks n (i :: rest) L own fs z := by
  intro a hF
  refine ⟨o, by simpa using ho, ?_⟩
  rw [if_pos (wanted_of hF hw)]
  refine .inl ⟨hm, v, h a hF, ?_⟩
  rw [hdst]; exact k _ (hF.put hd v)
theorem WJ.s (ho : ops[i]? = some o) (hw : wantO ops L o = some false) (hdst : o.dst = some d) (hd : Nat.blt d n = true) (k : WJ ds P ops ok w0 C F marks n rest ((d, undef) :: L) own fs z) : WJ ds P ops ok w0 C F marks n (i :: rest) L own fs z := by
  intro a hF
  refine ⟨o, by simpa using ho, ?_⟩
  rw [if_neg (by rw [wanted_of hF hw]; simp)]
  rw [hdst]; exact k _ (hF.put hd undef)
/-- a free allocation -/
def Fre (ds : List Deferred) (P : Program) (o : Oper) (n : Nat) (L : Slots) (val : Nat → Value) (cs : List Value) (T : TypeId) : Prop := ∀ a, Fr ds a n L → Frees P o a val cs T
theorem WJ.f {val : Nat → Value} {cs : List Value} {T : TypeId} (ho : ops[i]? = some o) (hm : marks.getD i 2 = 3) (hw : wantO ops L o = some true) (hdst : o.dst = some d) (hd : Nat.blt d n = true) (h : Fre ds P o n L val cs T) (k : ∀ b, WJ ds P ops ok w0 C F marks n rest ((d, val b) :: L) (⟨some b, cs, T⟩ :: own) fs z) : WJ ds P ops ok w0 C F marks n (i :: rest) L own fs z := by
  intro a hF
  refine ⟨o, by simpa using ho, ?_⟩
  rw [if_pos (wanted_of hF hw)]
  refine .inr (.inr (.inl ⟨hm, val, cs, T, h a hF, fun b => ?_⟩))
  rw [hdst]; exact k b _ (hF.put hd _)
theorem good_of {K own : List Ent} {fs0 fs : List Fact} [h1 : SubL K own] [h2 : SubL fs0 fs] : Good ok w0 (St ok w0 K fs0) own fs := fun ext w hS =>
  hS.sub (h1.h.trans (List.sublist_append_right _ _)) (fun f hf => h2.h.subset hf)
theorem WJ.g {γ : Type} {K : List Ent} {fs0 : List Fact} {val : γ → Value} {p : γ → Prop} {own' : γ → List Ent} {fs' : γ → List Fact} (ho : ops[i]? = some o) (hm : marks.getD i 2 = 1) (hw : wantO ops L o = some true) (hdst : o.dst = some d) (hd : Nat.blt d n = true)
    (h : ∀ ext, Og ds P o n L (St ok w0 (ext ++ own) fs) val (fun g w => p g ∧ St ok w0 (ext ++ own' g) (fs' g) w)) [h1 : ∀ g, SubL K (own' g)] [h2 : ∀ g, SubL fs0 (fs' g)]
    (k : ∀ g, p g → WJ ds P ops ok w0 (St ok w0 K fs0) F marks n rest ((d, val g) :: L) (own' g) (fs' g) z) : WJ ds P ops ok w0 (St ok w0 K fs0) F marks n (i :: rest) L own fs z := by
  intro a hF
  refine ⟨o, by simpa using ho, ?_⟩
  rw [if_pos (wanted_of hF hw)]
  refine .inr (.inl ⟨hm, γ, val, p, own', fs', fun ext w hS => opX_mono (fun a' w' hh => ?_) (h ext a w hF hS), fun g hp => ⟨good_of, ?_⟩⟩)
  · obtain ⟨u, rfl, g, rfl, hp, hS'⟩ := hh
    exact ⟨g, rfl, hp, hS'⟩
  · rw [hdst]; exact k g hp _ (hF.put hd _)
theorem WJ.nil {Q : Exit → Act → World → Prop} {tl : List Oper} (k : WL ds P ops Q n tl L (St ok w0 own fs)) : WJ ds P ops ok w0 C (lisX P ops.toArray Q tl) marks n [] L own fs [] := fun a hF w hS => k a w hF hS
theorem WJ.nilz {Q : Exit → Act → World → Prop} {tl : List Oper} {z : List Ent} (k : WL ds P ops Q n tl L (St ok w0 own fs)) : WJ ds P ops ok w0 C (lisX P ops.toArray Q tl) marks n [] L own fs z := fun a hF w hS => k a w hF (hS.sub (List.sublist_append_right _ _) (fun _ h => h))
/-- a free allocation that nobody changes -/
theorem WJ.fz {val : Nat → Value} {cs : List Value} {T : TypeId} (ho : ops[i]? = some o) (hm : marks.getD i 2 = 5) (hw : wantO ops L o = some true) (hdst : o.dst = some d) (hd : Nat.blt d n = true) (h : Fre ds P o n L val cs T) (k : ∀ b, WJ ds P ops ok w0 C F marks n rest ((d, val b) :: L) own fs (⟨some b, cs, T⟩ :: z)) : WJ ds P ops ok w0 C F marks n (i :: rest) L own fs z := by
  intro a hF
  refine ⟨o, by simpa using ho, ?_⟩
  rw [if_pos (wanted_of hF hw)]
  refine .inr (.inr (.inr (.inl ⟨hm, val, cs, T, h a hF, fun b _ => ?_⟩)))
  rw [hdst]; exact k b _ (hF.put hd _)
/-- reading such a block -/
theorem WJ.zr {b : Nat} {cs : List Value} {T : TypeId} (ho : ops[i]? = some o) (hm : marks.getD i 2 = 4) (hw : wantO ops L o = some true) (hdst : o.dst = some d) (hd : Nat.blt d n = true) (hz : (⟨some b, cs, T⟩ : Ent) ∈ z) (hb : ∀ a, Fr ds a n L → srcB o a = some b) (h : Rd ds P o n L (St ok w0 [⟨some b, cs, T⟩] []) v) (k : WJ ds P ops ok w0 C F marks n rest ((d, v) :: L) own fs z) : WJ ds P ops ok w0 C F marks n (i :: rest) L own fs z := by
  intro a hF
  refine ⟨o, by simpa using ho, ?_⟩
  rw [if_pos (wanted_of hF hw)]
  refine .inr (.inr (.inr (.inr ⟨hm, b, cs, T, v, hz, hb a hF, h a hF, ?_⟩)))
  rw [hdst]; exact k _ (hF.put hd v)
theorem src_conv {x : Operand} {t t2 : TypeId} {b off m c : Nat} (hop : o.op = .convert t t2 x) (hx : oper L x = some (.slice (some ⟨b, off, none⟩) m c)) : ∀ a, Fr ds a n L → srcB o a = some b := fun a hF => by
  simp only [srcB, hop, hF.eval hx]
theorem WJ.know {p : Prop} (h : ∀ w, St ok w0 own fs w → p) (k : p → WJ ds P ops ok w0 C F marks n rest L own fs z) (hex : ∃ w, St ok w0 own fs w) : WJ ds P ops ok w0 C F marks n rest L own fs z := k (hex.elim h)
theorem WJ.set (d : Nat) {v v' : Value} (h : slot L d = some v) (e : v = v') (k : WJ ds P ops ok w0 C F marks n rest ((d, v') :: L) own fs z) : WJ ds P ops ok w0 C F marks n rest L own fs z := fun a hF => k a (hF.set h e)
theorem WJ.bool (d : Nat) {t : Bool} (h : slot L d = some (.bool t)) (h1 : t = true → WJ ds P ops ok w0 C F marks n rest ((d, .bool true) :: L) own fs z) (h2 : t = false → WJ ds P ops ok w0 C F marks n rest ((d, .bool false) :: L) own fs z) : WJ ds P ops ok w0 C F marks n rest L own fs z := by
  cases t
  · exact WJ.set d h rfl (h2 rfl)
  · exact WJ.set d h rfl (h1 rfl)
theorem WC.freeP {Q : Exit → Act → World → Prop} {id : Nat} {l tl : List Oper} {K : List Ent} {fs0 : List Fact} (hp : Plain ρ l) (front tail marks : List Nat) (hm : P.follows .mixedOrders = true) (hB : freeOk l front tail marks = true) (ht : pickOps l tail = tl) [SubL K own] [SubL fs0 fs]
    (k : WJ ds P l ok w0 (St ok w0 K fs0) (lisX P l.toArray Q tl) marks n front L own fs []) : WC ds ρ P (.region id l.toArray true) Q n L (St ok w0 own fs) := by
  intro a w hF hS
  refine cd_any hp hm ?_
  have hB' := freeOk_spec hB
  have hS' := hS.draw
  have hk := k a hF
  have hF2 : lisX P l.toArray Q tl = opsX P l.toArray Q tail := by rw [wpOps_pick, ht]
  rw [hF2] at hk
  have := wpAny_of_mixJ (Q := Q) hB' front (Array.replicate l.toArray.size false) a [] own fs { w with drawn := w.drawn + 1 } (fun i hi => hi)
    ⟨⟨by simp, fun j o _ hj => by simp [Array.getElem?_replicate] at hj; split at hj <;> simp at hj⟩,
     fun i => ⟨fun hi => ⟨hB'.lt i hi, by simp [Array.getElem?_replicate]; split <;> simp⟩, fun hi => (hB'.all i hi.1).1⟩, hB'.pair⟩ hS' good_of (fun e he => by cases he) hk
  have hsize : (front ++ tail).length = l.length := by
    have hnd : (front ++ tail).Nodup := hB'.pair.imp (fun h => by simp [aheadOk] at h; exact h.1.1)
    have h1 : (front ++ tail).length ≤ (List.range l.length).length := hnd.length_le_of_subset (fun i hi => List.mem_range.2 (hB'.lt i hi))
    have h2 : (List.range l.length).length ≤ (front ++ tail).length := List.nodup_range.length_le_of_subset (fun i hi => (hB'.all i (List.mem_range.1 hi)).1)
    simp at h1 h2 ⊢; omega
  rw [hsize] at this
  simpa using this
theorem WC.free {Q : Exit → Act → World → Prop} {id : Nat} {l tl : List Oper} {K : List Ent} {fs0 : List Fact} (front tail marks : List Nat) (hm : P.follows .mixedOrders = true) (hB : freeOk l front tail marks = true) (ht : pickOps l tail = tl) [SubL K own] [SubL fs0 fs]
    (k : WJ ds P l ok w0 (St ok w0 K fs0) (lisX P l.toArray Q tl) marks n front L own fs []) : WC ds none P (.region id l.toArray true) Q n L (St ok w0 own fs) := WC.freeP (.inl rfl) front tail marks hm hB ht k
theorem WR.free {Q : Exit → Act → World → Prop} {id : Nat} {l tl : List Oper} {K : List Ent} {fs0 : List Fact} (hp : noDef l = true) (front tail marks : List Nat) (hm : P.follows .mixedOrders = true) (hB : freeOk l front tail marks = true) (ht : pickOps l tail = tl) [SubL K own] [SubL fs0 fs]
    (k : WJ ds P l ok w0 (St ok w0 K fs0) (lisX P l.toArray Q tl) marks n front L own fs []) : WC ds ρ P (.region id l.toArray true) Q n L (St ok w0 own fs) := WC.freeP (.inr hp) front tail marks hm hB ht k
end
end Go.Proofs.YtnimhldbblfgbaaGreat
namespace Go.Proofs.YtnimhldbblfgbaaGreat
set_option linter.unusedSimpArgs false
set_option linter.unusedVariables false
open Go.RowKit
/-! ### look-ups by instance -/
class HasE (own : List Ent) (b : Nat) (cs : outParam (List Value)) (T : outParam TypeId) : Prop where
  h : InE own ⟨some b, cs, T⟩
instance (priority := high) HasE.here (r : List Ent) (b : Nat) (cs : List Value) (T : TypeId) : HasE (⟨some b, cs, T⟩ :: r) b cs T := ⟨.here⟩
instance HasE.there (r : List Ent) (x : Ent) (b : Nat) (cs : List Value) (T : TypeId) [HasE r b cs T] : HasE (x :: r) b cs T := ⟨.there HasE.h⟩
theorem InE.right {e r : List Ent} {x : Ent} (h : InE r x) : InE (e ++ r) x := by
  induction e with
  | nil => exact h
  | cons y e ih => exact .there ih
instance HasE.ext (e r : List Ent) (b : Nat) (cs : List Value) (T : TypeId) [HasE r b cs T] : HasE (e ++ r) b cs T := ⟨InE.right HasE.h⟩
theorem InE.tc {own : List Ent} {b : Nat} {cs : List Value} {T : TypeId} [h : HasE own b cs T] : InE own ⟨some b, cs, T⟩ := h.h
class HasC (own : List Ent) (ob : Option Nat) (cs : outParam (List Value)) (T : outParam TypeId) (C : outParam (Ent → List Ent)) : Prop where
  h : Ctx own ⟨ob, cs, T⟩ C
instance (priority := high) HasC.here (r : List Ent) (ob : Option Nat) (cs : List Value) (T : TypeId) : HasC (⟨ob, cs, T⟩ :: r) ob cs T (fun y => y :: r) := ⟨.here⟩
instance HasC.there (r : List Ent) (x : Ent) (ob : Option Nat) (cs : List Value) (T : TypeId) (C : Ent → List Ent) [HasC r ob cs T C] : HasC (x :: r) ob cs T (fun y => x :: C y) := ⟨.there HasC.h⟩
theorem Ctx.right {r : List Ent} {x : Ent} {C : Ent → List Ent} (h : Ctx r x C) : ∀ e : List Ent, Ctx (e ++ r) x (fun y => e ++ C y)
  | [] => h
  | z :: e => .there (Ctx.right h e)
instance HasC.ext (e r : List Ent) (ob : Option Nat) (cs : List Value) (T : TypeId) (C : Ent → List Ent) [h : HasC r ob cs T C] : HasC (e ++ r) ob cs T (fun y => e ++ C y) := ⟨Ctx.right h.h e⟩
theorem Ctx.tc {own : List Ent} {ob : Option Nat} {cs : List Value} {T : TypeId} {C : Ent → List Ent} [h : HasC own ob cs T C] : Ctx own ⟨ob, cs, T⟩ C := h.h
class HasF (fs : List Fact) (a : Option Addr) (xs : outParam (List Value)) : Prop where
  h : InF fs (Fact.sl a xs)
instance (priority := high) HasF.here (r : List Fact) (a : Option Addr) (xs : List Value) : HasF (Fact.sl a xs :: r) a xs := ⟨.here⟩
instance HasF.there (r : List Fact) (f : Fact) (a : Option Addr) (xs : List Value) [HasF r a xs] : HasF (f :: r) a xs := ⟨.there HasF.h⟩
theorem InF.tc {fs : List Fact} {a : Option Addr} {xs : List Value} [h : HasF fs a xs] : InF fs (Fact.sl a xs) := h.h
section
variable {ok : Nat → Prop} {w0 : World} {own : List Ent} {fs : List Fact} {w : World}
/-- the cells of a slice, whatever they are: a standing fact, or an own block -/
theorem St.sl (h : St ok w0 own fs w) {a : Option Addr} {xs : List Value} [hf : HasF fs a xs] : (Fact.sl a xs).holds (fun _ => True) w := by
  obtain ⟨k, hk⟩ := hf.h.get; exact h.holds_any hk
theorem St.os (h : St ok w0 own fs w) {b : Nat} {xs : List Value} {T : TypeId} [hf : HasE own b xs T] : (Fact.sl (some ⟨b, 0, none⟩) xs).holds (fun _ => True) w := own_fact h hf.h
theorem St.oc (h : St ok w0 own fs w) {ob : Option Nat} {xs sp : List Value} {T : TypeId} {C : Ent → List Ent} [hf : HasC own ob (xs ++ sp) T C] : (Fact.sl (ob.map fun b => ⟨b, 0, none⟩) xs).holds (fun _ => True) w := by
  obtain ⟨k, hk, _⟩ := hf.h.get
  have := h.own_ _ (List.mem_of_getElem? hk)
  cases ob with
  | none => exact .inl (by have h1 : xs ++ sp = [] := this; simp at h1; exact h1.1)
  | some b => exact .inr ⟨b, 0, (xs ++ sp).toArray, T, (0, 0), rfl, trivial, this.2, fun i hi => by rw [Nat.zero_add, List.getElem?_toArray, List.getElem?_append_left hi]⟩
theorem st_sub {own' : List Ent} {fs' : List Fact} [h1 : SubL own own'] [h2 : SubL fs fs'] : ∀ w, St ok w0 own' fs' w → St ok w0 own fs w := fun w h => h.sub h1.h (fun f hf => h2.h.subset hf)
theorem sl_nil {a : Option Addr} : (Fact.sl a []).holds (fun _ => True) w := .inl rfl
theorem fact_any {f : Fact} {ok : Nat → Prop} (h : f.holds ok w) : f.holds (fun _ => True) w := f.mono (fun _ _ => trivial) h
theorem facts_nil {ok : Nat → Prop} : ∀ f ∈ ([] : List Fact), f.holds ok w := fun _ h => by cases h
theorem facts_cons {f : Fact} {ok : Nat → Prop} (h : f.holds ok w) (h' : ∀ g ∈ fs, g.holds ok w) : ∀ g ∈ f :: fs, g.holds ok w := fun g hg => (List.mem_cons.1 hg).elim (fun e => e ▸ h) (h' g)
end
/-! ### free allocations -/
section
variable {ds : List Deferred} {ρ : Option Nat} {P : Program} {o : Oper} {n : Nat} {L : Slots} {x y : Operand} {v : Value} {t e : TypeId} {sz : Nat} {cs : List Value}
theorem fr_run {val : Nat → Value} {T : TypeId} (h : ∀ a, Fr ds a n L → ∀ w : World, (execOp a.eval o).run P w = .ok (.value (val w.heap.size)) (w.alloc (.cells cs.toArray T))) : Fre ds P o n L val cs T := fun a hF w => h a hF w
theorem fr_alloc (hop : o.op = .alloc t) (hz : (P.info? t).bind (·.zero) = some v) (hc : v.cells.toList = cs) : Fre ds P o n L (fun b : Nat => .pointer (some ⟨b, 0, none⟩)) cs t :=
  fr_run fun a hF w => by subst hc; simp [execOp, hop, Instr.alloc, run_zero hz, run_newVar]
theorem fr_box (hop : o.op = .box t x) (hx : oper L x = some v) (hc : v.cells.toList = cs) : Fre ds P o n L (fun b : Nat => .pointer (some ⟨b, 0, none⟩)) cs t :=
  fr_run fun a hF w => by subst hc; simp [execOp, hop, Instr.box, hF.eval hx, run_newVar]
theorem fr_bs {len : Nat} {parts : List (Nat × Operand)} {vs : List (Nat × Value)} (hop : o.op = .buildSlice t len parts.toArray) (hp : partsOf L parts = some vs) (hu : P.underlying t = some (.slice e))
    (hrun : ∀ w : World, (Instr.buildSlice t len vs.toArray).run P w = .ok (.slice (some ⟨w.heap.size, 0, none⟩) len len) (w.alloc (.cells cs.toArray e))) :
    Fre ds P o n L (fun b : Nat => .slice (some ⟨b, 0, none⟩) len len) cs e :=
  fr_run fun a hF w => by
    have hpp := partsOf_eval hF hp
    have e1 : Array.map (fun x => (x.1, a.eval x.2)) parts.toArray = vs.toArray := by simp [← hpp]
    simp only [execOp, hop, e1]
    simp [hrun]
/-- the allocation of a literal, as0 a run -/
theorem run_bs1 {len : Nat} {vs : List (Nat × Value)} {zv : Value} (hu : P.underlying t = some (.slice e))
    (hi : (P.info? e).map (fun i => (i.zero, i.size, i.bytes)) = some (some zv, 1, sz)) (hz : zv.cells = #[zv]) (hcs : vs.map Prod.snd = cs) (hnum : vs = (List.range' 0 len).zip (vs.map Prod.snd)) (hlen : cs.length = len) (h1 : ∀ v ∈ cs, v.cells = #[v]) (hsm : len ≤ 16777216) (w : World) :
    (Instr.buildSlice t len vs.toArray).run P w = .ok (.slice (some ⟨w.heap.size, 0, none⟩) len len) (w.alloc (.cells cs.toArray e)) := by
  obtain ⟨i', hi', hz', hs, hbb⟩ := info_parts hi
  have hfill := fill_one cs [] (List.replicate len zv) (by simp [hlen]) h1
  simp only [List.nil_append, List.length_nil, hlen] at hfill
  have hsz : ¬ (len * i'.size > 2 ^ 24) := by rw [hs]; omega
  have hvs : vs = (List.range' 0 len).zip cs := by rw [← hcs]; exact hnum
  have hfill' : Instr.fill (fun i => some (i, 1)) (List.replicate len zv).toArray vs = some cs.toArray := by
    rw [hvs]; simpa using hfill
  rw [hs] at hsz
  simp only [Instr.buildSlice, Sem.run_bind, run_underlying hu, Result.andThen, sizeOf, typeInfo, run_program, hi', Sem.run_pure, hs, Nat.mul_one]
  rw [if_neg (by omega)]
  by_cases h0 : len = 0
  · subst h0
    have hzero : Array.map (fun x => (#[] : Array Value)[x % (#[] : Array Value).size]!) (Array.range 0) = (List.replicate 0 zv).toArray := by simp
    simp only [Sem.run_pure, Sem.run_bind, Result.andThen, if_true, hzero, hfill']
    rfl
  · have hzero : Array.map (fun x => zv.cells[x % zv.cells.size]!) (Array.range len) = (List.replicate len zv).toArray := by
      rw [hz]
      have := madeCells_one zv len
      unfold madeCells at this
      apply Array.ext'
      simpa using this
    simp only [if_neg h0, Sem.run_bind, zeroValue, typeInfo, run_program, Result.andThen, hi', Sem.run_pure, hz', hzero, hfill']
    rfl
theorem fr_bs1 {len : Nat} {parts : List (Nat × Operand)} {vs : List (Nat × Value)} {zv : Value} (hop : o.op = .buildSlice t len parts.toArray) (hp : partsOf L parts = some vs) (hu : P.underlying t = some (.slice e))
    (hi : (P.info? e).map (fun i => (i.zero, i.size, i.bytes)) = some (some zv, 1, sz)) (hz : zv.cells = #[zv]) (hcs : vs.map Prod.snd = cs) (hnum : vs = (List.range' 0 len).zip (vs.map Prod.snd)) (hlen : cs.length = len) (h1 : ∀ v ∈ cs, v.cells = #[v]) (hsm : len ≤ 16777216) :
    Fre ds P o n L (fun b : Nat => .slice (some ⟨b, 0, none⟩) len len) cs e := fr_bs hop hp hu (run_bs1 hu hi hz hcs hnum hlen h1 hsm)
theorem fr_mk {k1 k2 : IntKind} {l c' : Int} {zv : Value} (hop : o.op = .makeSlice t x y) (hx : oper L x = some (.int k1 l)) (hy : oper L y = some (.int k2 c')) (hu : P.underlying t = some (.slice e)) (hi : (P.info? e).map (fun i => (i.zero, i.size, i.bytes)) = some (some zv, 1, sz)) (h1 : zv.cells = #[zv])
    (hb : 0 ≤ l ∧ l ≤ c' ∧ (sz : Int) * c' ≤ 281474976710656 ∧ c' ≤ 9223372036854775807) {q1 q2 : Nat} (hq1 : l.toNat = q1) (hq2 : c'.toNat = q2) :
    Fre ds P o n L (fun b : Nat => .slice (some ⟨b, 0, none⟩) q1 q2) (List.replicate q2 zv) e :=
  fr_run fun a hF w => by
    subst hq1 hq2
    obtain ⟨i', hi', hz, hs, hbb⟩ := info_parts hi
    have hrun := run_make (P := P) w t e i' zv hu hi' hz k1 k2 l c' hb.1 hb.2.1 (by rw [hbb]; exact hb.2.2.1) hb.2.2.2
    have e1 : (madeCells #[zv] c'.toNat) = (List.replicate c'.toNat zv).toArray := by rw [← madeCells_one]
    rw [h1, hs, Nat.mul_one, e1] at hrun
    simp [execOp, hop, hF.eval hx, hF.eval hy, hrun]
end
/-! ### a slice that stands, by its address -/
abbrev pt (a : Option Addr) (k : Nat) : Value := .pointer (some ((a.getD ⟨0, 0, none⟩).add k))
section
variable {ds : List Deferred} {ρ : Option Nat} {P : Program} {o : Oper} {n : Nat} {L : Slots} {ok : Nat → Prop} {w0 : World} {own : List Ent} {fs : List Fact} {x y : Operand} {v : Value} {t e : TypeId} {k : IntKind} {i : Int} {sz q : Nat} {a : Option Addr} {xs ys : List Value}
theorem St.slx {w : World} (h : St ok w0 own fs w) [hf : HasF fs a xs] (hx : 0 < xs.length) : ∃ b off cs T fz, a = some ⟨b, off, none⟩ ∧ w.heap[b]? = some (.cells cs T fz) ∧ ∀ i, i < xs.length → cs[off + i]? = xs[i]? := by
  rcases h.sl (a := a) with h0 | ⟨b, off, cs, T, fz, h1, _, h3, h4⟩
  · subst h0; simp at hx
  · exact ⟨b, off, cs, T, fz, h1, h3, h4⟩
theorem iaf {len cap : Nat} (hop : o.op = .indexAddr t x y) (hx : oper L x = some (.slice a len cap)) (hy : oper L y = some (.int k i)) [hf : HasF fs a xs] (hu : P.underlying t = some (.slice e)) (hs : (P.info? e).map (·.size) = some sz) (hb : 0 ≤ i ∧ i < (len : Int)) (hxs : 0 < xs.length) (hq : i.toNat * sz = q) : Rd ds P o n L (St ok w0 own fs) (pt a q) :=
  rd_run fun ac hF w hS => by
    obtain ⟨b, off, cs, T, fz, rfl, h3, h4⟩ := hS.slx (a := a) hxs
    simp [execOp, hop, hF.eval hx, hF.eval hy, Instr.indexAt, asIntOf, run_underlying hu, hb, size_run hs, Addr.add_lit, hq, pt]
theorem ldt (hop : o.op = .load t x) (hx : oper L x = some (pt a q)) [hf : HasF fs a xs] {d : TypeDesc} (hu : P.underlying t = some d) (hd : isAggD d = false) (hv : xs[q]? = some v) : Rd ds P o n L (St ok w0 own fs) v :=
  rd_run fun ac hF w hS => by
    have hlt : q < xs.length := (List.getElem?_eq_some_iff.1 hv).1
    obtain ⟨b, off, cs, T, fz, rfl, h3, h4⟩ := hS.slx (a := a) (by omega)
    have hc : w.cell? ⟨b, off + q, none⟩ = some v := by simp [World.cell?, h3, h4 q hlt, hv]
    have hx' := hF.eval hx
    simp only [pt, Option.getD_some, Addr.add_lit] at hx'
    simp [execOp, hop, hx', Instr.loadAt, Instr.sureAddr, loadVar, run_isAgg hu, hd, hc]
theorem ldta (hop : o.op = .load t x) (hx : oper L x = some (pt a q)) [hf : HasF fs a xs] {d : TypeDesc} (hu : P.underlying t = some d) (hd : isAggD d = true) (hs : (P.info? t).map (·.size) = some sz) (hys : (xs.drop q).take sz = ys) (hlen : ys.length = sz) (h0 : 0 < sz) : Rd ds P o n L (St ok w0 own fs) (.agg ys.toArray) :=
  rd_run fun ac hF w hS => by
    have hml : q + sz ≤ xs.length := by
      have : ys.length = min sz (xs.length - q) := by rw [← hys]; simp
      omega
    obtain ⟨b, off, cs, T, fz, rfl, h3, h4⟩ := hS.slx (a := a) (by omega)
    have hx' := hF.eval hx
    simp only [pt, Option.getD_some, Addr.add_lit] at hx'
    have := run_lda (P := P) (off := off + q) (xs := ys) h3 (fun i hi => by
      rw [Nat.add_assoc, h4 (q + i) (by omega), ← hys, List.getElem?_take, if_pos (by omega), List.getElem?_drop]) hu hd (by rw [hs, hlen])
    simp [execOp, hop, hx', Instr.loadAt, Instr.sureAddr, this]
theorem faf {f : Nat} {flds : Array Field} {fd : Field} {q' : Nat} (hop : o.op = .fieldAddr t x f) (hx : oper L x = some (pt a q)) (hu : P.underlying t = some (.struct flds)) (hf : flds[f]? = some fd) (hs : ((P.info? fd.type).map (fun i => decide (0 < i.size))) = some true) (hq : q + fd.offset = q') : Rd ds P o n L (St ok w0 own fs) (pt a q') :=
  rd_run fun ac hF w hS => by
    obtain ⟨i, hi, hi'⟩ := Option.map_eq_some_iff.1 hs
    have hne : ¬ i.size = 0 := by simp at hi'; omega
    have hx' := hF.eval hx
    have e1 : ((a.getD ⟨0, 0, none⟩).add q).add fd.offset = (a.getD ⟨0, 0, none⟩).add q' := by subst hq; by_cases h1 : q = 0 <;> by_cases h2 : fd.offset = 0 <;> simp [Addr.add, h1, h2, Nat.add_assoc]
    simp only [pt] at hx' ⊢
    simp [execOp, hop, hx', Instr.fieldAt, Instr.sureAddr, run_underlying hu, hf, fieldPlace, sizeOf, typeInfo, hi, hne, e1]
theorem map_getD {α : Type} [Inhabited α] (l : List α) (f : α → Value) (q : Nat) (h : q < l.length) : (l.map f)[q]? = some (f (l.getD q default)) := by
  rw [List.getElem?_map, List.getElem?_eq_getElem h]; simp [List.getD, List.getElem?_eq_getElem h]
/-- an element of one cell -/
theorem ldm {α : Type} [Inhabited α] {l : List α} {f : α → Value} (hop : o.op = .load t x) (hx : oper L x = some (pt a q)) [hf : HasF fs a (l.map f)] {d : TypeDesc} (hu : P.underlying t = some d) (hd : isAggD d = false) (hq : q < l.length) : Rd ds P o n L (St ok w0 own fs) (f (l.getD q default)) :=
  ldt hop hx hu hd (map_getD l f q hq)
theorem drop_flatMap {α : Type} {f : α → List Value} {sz : Nat} (hf : ∀ x, (f x).length = sz) : ∀ (l : List α) (q : Nat), (l.flatMap f).drop (q * sz) = (l.drop q).flatMap f
  | [], q => by simp
  | x :: l, 0 => by simp
  | x :: l, q + 1 => by
    rw [List.flatMap_cons, show (q + 1) * sz = (f x).length + q * sz by rw [hf, Nat.succ_mul, Nat.add_comm], ← List.drop_drop, List.drop_left, drop_flatMap hf l q, List.drop_succ_cons]
theorem flatMap_at {α : Type} [Inhabited α] (l : List α) (f : α → List Value) (sz : Nat) (hf : ∀ x, (f x).length = sz) (q : Nat) (h : q < l.length) : ((l.flatMap f).drop (q * sz)).take sz = f (l.getD q default) := by
  rw [drop_flatMap hf, List.drop_eq_getElem_cons h, List.flatMap_cons, ← hf l[q], List.take_left]
  simp [List.getD, List.getElem?_eq_getElem h]
theorem flatMap_len {α : Type} (l : List α) (f : α → List Value) (sz : Nat) (hf : ∀ x, (f x).length = sz) : (l.flatMap f).length = l.length * sz := by
  induction l with
  | nil => simp
  | cons x l ih => rw [List.flatMap_cons, List.length_append, hf, ih, List.length_cons, Nat.succ_mul, Nat.add_comm]
/-- an element of some cells, whole -/
theorem ldma {α : Type} [Inhabited α] {l : List α} {f : α → List Value} (j : Nat) (hop : o.op = .load t x) (hx : oper L x = some (pt a q)) [hf : HasF fs a (l.flatMap f)] {d : TypeDesc} (hu : P.underlying t = some d) (hd : isAggD d = true) (hs : (P.info? t).map (·.size) = some sz) (hsz : ∀ x, (f x).length = sz) (h0 : 0 < sz) (hq : q = j * sz) (hj : j < l.length) : Rd ds P o n L (St ok w0 own fs) (.agg (f (l.getD j default)).toArray) :=
  ldta hop hx hu hd hs (by rw [hq]; exact flatMap_at l f sz hsz j hj) (hsz _) h0
/-- .. one of its cells -/
theorem ldmf {α : Type} [Inhabited α] {l : List α} {f : α → List Value} (j off : Nat) (hop : o.op = .load t x) (hx : oper L x = some (pt a q)) [hf : HasF fs a (l.flatMap f)] {d : TypeDesc} (hu : P.underlying t = some d) (hd : isAggD d = false) (hsz : ∀ x, (f x).length = sz) (hq : q = j * sz + off) (hj : j < l.length) (ho : off < sz) (hv : (f (l.getD j default))[off]? = some v) : Rd ds P o n L (St ok w0 own fs) v :=
  ldt hop hx hu hd (by rw [← hv, ← flatMap_at l f sz hsz j hj, List.getElem?_take, if_pos ho, List.getElem?_drop, hq])
end
theorem WC.free0 {ds : List Deferred} {P : Program} {ok : Nat → Prop} {w0 : World} {n : Nat} {L : Slots} {own : List Ent} {fs : List Fact} {Q : Exit → Act → World → Prop} {id : Nat} {l tl : List Oper} (front tail marks : List Nat) (hm : P.follows .mixedOrders = true) (hB : freeOk l front tail marks = true) (ht : pickOps l tail = tl)
    (k : WJ ds P l ok w0 (St ok w0 own fs) (lisX P l.toArray Q tl) marks n front L own fs []) : WC ds none P (.region id l.toArray true) Q n L (St ok w0 own fs) := WC.free (K := own) (fs0 := fs) front tail marks hm hB ht k
/-! ### comparison with nil -/
section
variable {ds : List Deferred} {ρ : Option Nat} {P : Program} {o : Oper} {n : Nat} {L : Slots} {Z : World → Prop} {x y : Operand} {t t2 e : TypeId} {a : Option Addr} {m c : Nat}
theorem guard_slice (op : BinOp) (h : P.underlying t = some (.slice e)) (b : Option Addr) (m' c' : Nat) (w : World) : (eqGuard op t x y (.slice a m c) (.slice b m' c')).run P w = .ok () w := by
  cases op <;> simp [eqGuard, Op.eqGuardIn, Op.maxDepth, run_underlying h]
theorem rd_sleq (hop : o.op = .binOp .eql t x y t2) (hx : oper L x = some (.slice a m c)) (hy : oper L y = some (.slice none 0 0)) (hu : P.underlying t = some (.slice e)) : Rd ds P o n L Z (.bool a.isNone) :=
  run_bin hop hx hy (guard_slice _ hu _ _ _) fun w => Lib.run_eql_slice_nil w t e a m c 0 0 hu
theorem rd_slne (hop : o.op = .binOp .neq t x y t2) (hx : oper L x = some (.slice a m c)) (hy : oper L y = some (.slice none 0 0)) (hu : P.underlying t = some (.slice e)) : Rd ds P o n L Z (.bool (!a.isNone)) :=
  run_bin hop hx hy (guard_slice _ hu _ _ _) fun w => run_neq_slice_nil_any w t e a m c 0 0 hu
end
theorem keep_st {P : Program} {f : FuncId} {args : Array Value} {Z Z' : World → Prop} {v : Value} (h : ∀ w, Z w → Calls P f args w (fun e w' => e = .returned v ∧ Z' w')) : ∀ w, Z w → Calls P f args w (fun e w' => ∃ _g : Unit, e = .returned v ∧ Z' w') :=
  fun w hw => (h w hw).mono fun _ _ hh => ⟨(), hh⟩
/-! ### an own slice that may be nil -/
section
variable {ds : List Deferred} {ρ : Option Nat} {P : Program} {o : Oper} {n : Nat} {L : Slots} {ok : Nat → Prop} {w0 : World} {own : List Ent} {C : Ent → List Ent} {fs : List Fact} {x y : Operand} {v : Value} {t e T : TypeId} {k : IntKind} {i : Int} {sz q : Nat} {ob : Option Nat} {cs : List Value}
theorem St.ocx {w : World} (h : St ok w0 own fs w) (hc : Ctx own ⟨ob, cs, T⟩ C) (hx : 0 < cs.length) : ∃ b, ob = some b ∧ w.heap[b]? = some (.cells cs.toArray T (0, 0)) := by
  obtain ⟨k, hk, _⟩ := hc.get
  have := h.own_ _ (List.mem_of_getElem? hk)
  cases ob with
  | none => have h1 : cs = [] := this; subst h1; simp at hx
  | some b => exact ⟨b, rfl, this.2⟩
theorem iao {len cap : Nat} (hop : o.op = .indexAddr t x y) (hx : oper L x = some (.slice (ob.map fun b => ⟨b, 0, none⟩) len cap)) (hy : oper L y = some (.int k i)) [hf : HasC own ob cs T C] (hu : P.underlying t = some (.slice e)) (hs : (P.info? e).map (·.size) = some sz) (hb : 0 ≤ i ∧ i < (len : Int)) (hxs : 0 < cs.length) (hq : i.toNat * sz = q) : Rd ds P o n L (St ok w0 own fs) (pt (ob.map fun b => ⟨b, 0, none⟩) q) :=
  rd_run fun ac hF w hS => by
    obtain ⟨b, rfl, _⟩ := hS.ocx hf.h hxs
    have hx' := hF.eval hx
    simp only [Option.map_some] at hx'
    simp [execOp, hop, hx', hF.eval hy, Instr.indexAt, asIntOf, run_underlying hu, hb, size_run hs, Addr.add_lit, hq, pt]
theorem ldo (hop : o.op = .load t x) (hx : oper L x = some (pt (ob.map fun b => ⟨b, 0, none⟩) q)) [hf : HasC own ob cs T C] {d : TypeDesc} (hu : P.underlying t = some d) (hd : isAggD d = false) (hv : cs[q]? = some v) : Rd ds P o n L (St ok w0 own fs) v :=
  rd_run fun ac hF w hS => by
    have hlt : q < cs.length := (List.getElem?_eq_some_iff.1 hv).1
    obtain ⟨b, rfl, h3⟩ := hS.ocx hf.h (by omega)
    have hc : w.cell? ⟨b, q, none⟩ = some v := by simp [World.cell?, h3, hv]
    have hx' := hF.eval hx
    simp only [pt, Option.map_some, Option.getD_some, Addr.add_lit, Nat.zero_add] at hx'
    simp [execOp, hop, hx', Instr.loadAt, Instr.sureAddr, loadVar, run_isAgg hu, hd, hc]
theorem ldom {α : Type} [Inhabited α] {l : List α} {f : α → Value} {sp : List Value} (hop : o.op = .load t x) (hx : oper L x = some (pt (ob.map fun b => ⟨b, 0, none⟩) q)) [hf : HasC own ob (l.map f ++ sp) T C] {d : TypeDesc} (hu : P.underlying t = some d) (hd : isAggD d = false) (hq : q < l.length) : Rd ds P o n L (St ok w0 own fs) (f (l.getD q default)) :=
  ldo hop hx hu hd (by rw [List.getElem?_append_left (by simpa using hq)]; exact map_getD l f q hq)
end
theorem WR.free0 {ds : List Deferred} {ρ : Option Nat} {P : Program} {ok : Nat → Prop} {w0 : World} {n : Nat} {L : Slots} {own : List Ent} {fs : List Fact} {Q : Exit → Act → World → Prop} {id : Nat} {l tl : List Oper} (hp : noDef l = true) (front tail marks : List Nat) (hm : P.follows .mixedOrders = true) (hB : freeOk l front tail marks = true) (ht : pickOps l tail = tl)
    (k : WJ ds P l ok w0 (St ok w0 own fs) (lisX P l.toArray Q tl) marks n front L own fs []) : WC ds ρ P (.region id l.toArray true) Q n L (St ok w0 own fs) := WR.free (K := own) (fs0 := fs) hp front tail marks hm hB ht k
/-! ### parts of a slice that stands -/
abbrev sh (a : Option Addr) (k : Nat) : Option Addr := a.map (·.add k)
theorem sl_dropO {ok : Nat → Prop} {a : Option Addr} {xs : List Value} {w : World} (k : Nat) (h : (Fact.sl a xs).holds ok w) : (Fact.sl (sh a k) (xs.drop k)).holds ok w := by
  rcases h with rfl | ⟨b, off, cs, T, fz, rfl, h2, h3, h4⟩
  · exact .inl (by simp)
  · exact .inr ⟨b, off + k, cs, T, fz, by simp [sh, Addr.add_lit], h2, h3, fun i hi => by
      rw [List.length_drop] at hi
      rw [List.getElem?_drop, ← h4 (k + i) (by omega), Nat.add_assoc]⟩
theorem sl_dropM {α : Type} {ok : Nat → Prop} {a : Option Addr} {l : List α} {f : α → Value} {w : World} (k : Nat) (h : (Fact.sl a (l.map f)).holds ok w) : (Fact.sl (sh a k) ((l.drop k).map f)).holds ok w := by
  rw [List.map_drop]; exact sl_dropO k h
theorem sl_takeM {α : Type} {ok : Nat → Prop} {a : Option Addr} {l : List α} {f : α → Value} {w : World} (k : Nat) (h : (Fact.sl a (l.map f)).holds ok w) : (Fact.sl a ((l.take k).map f)).holds ok w := by
  rw [List.map_take]; exact sl_take k h
theorem sl_cutM {α : Type} {ok : Nat → Prop} {a : Option Addr} {l : List α} {f : α → Value} {w : World} {cap : Nat} (k : Nat) (hc : l.length ≤ cap) (h : (Fact.sl a (l.map f)).holds ok w) : (Fact.sl (cut a k cap 1) ((l.drop k).map f)).holds ok w := by
  unfold cut
  split
  · rename_i e; subst e; exact .inl (by simp; omega)
  · rw [Nat.mul_one]; exact sl_dropM k h
section
variable {ds : List Deferred} {ρ : Option Nat} {P : Program} {o : Oper} {n : Nat} {L : Slots} {Z : World → Prop} {x y : Operand} {t e : TypeId} {k k' : IntKind} {i j : Int} {sz : Nat} {ok : Nat → Prop} {w0 : World} {own : List Ent} {fs : List Fact}
theorem rd_slfo {a : Option Addr} {len cap : Nat} {lo : Operand} (hop : o.op = .slice t x (some lo) none none) (hx : oper L x = some (.slice a len cap)) (hl : oper L lo = some (.int k i)) (hu : P.underlying t = some (.slice e)) (hs : (P.info? e).map (·.size) = some sz)
    (hb : 0 ≤ i ∧ i ≤ (len : Int) ∧ i < (cap : Int)) {q1 q2 q3 : Nat} (h1 : i.toNat * sz = q1) (h2 : len - i.toNat = q2) (h3 : cap - i.toNat = q3) : Rd ds P o n L (St ok w0 own fs) (.slice (sh a q1) q2 q3) := by
  have := rd_slf (ds := ds) (P := P) (n := n) (ok := ok) (w0 := w0) (own := own) (fs := fs) hop hx hl hu hs ⟨hb.1, hb.2.1⟩ rfl rfl rfl
  rwa [cut, if_neg (by omega), h1, h2, h3] at this
theorem rd_slbo {a : Option Addr} {len cap : Nat} {lo hi : Operand} (hop : o.op = .slice t x (some lo) (some hi) none) (hx : oper L x = some (.slice a len cap)) (hl : oper L lo = some (.int k i)) (hh : oper L hi = some (.int k' j)) (hu : P.underlying t = some (.slice e)) (hs : (P.info? e).map (·.size) = some sz)
    (hb : 0 ≤ i ∧ i ≤ j ∧ j ≤ (cap : Int) ∧ i < (cap : Int)) {q1 q2 q3 : Nat} (h1 : i.toNat * sz = q1) (h2 : j.toNat - i.toNat = q2) (h3 : cap - i.toNat = q3) : Rd ds P o n L (St ok w0 own fs) (.slice (sh a q1) q2 q3) := by
  have := rd_slb (ds := ds) (P := P) (n := n) (ok := ok) (w0 := w0) (own := own) (fs := fs) hop hx hl hh hu hs ⟨hb.1, hb.2.1, hb.2.2.1⟩ rfl rfl rfl
  rwa [cut, if_neg (by omega), h1, h2, h3] at this
end
/-! ### longer steps -/
section
variable {ds : List Deferred} {ρ : Option Nat} {P : Program} {Q : Exit → Act → World → Prop} {n : Nat} {L : Slots} {Z : World → Prop} {ops : List Oper}
theorem WC.sr {id : Nat} {l : List Oper} {y : Code} (k : WL ds P l (Exit.then (cdX none P y Q) Q) n l L Z) : WC ds none P (.seq (.region id l.toArray false) y) Q n L Z := WC.seq (WC.region k)
theorem WR.sr {id : Nat} {l : List Oper} {y : Code} (hp : noDef l = true) (k : WL ds P l (Exit.then (cdX ρ P y Q) Q) n l L Z) : WC ds ρ P (.seq (.region id l.toArray false) y) Q n L Z := WC.seq (WR.region hp k)
theorem WL.nt {y : Code} (k : WC ds ρ P y Q n L Z) : WL ds P ops (Exit.then (cdX ρ P y Q) Q) n [] L Z := WL.nil (WX.then_normal k)
end
/-! ### loops -/
def dropS (mods : List Nat) : Slots → Slots
  | [] => []
  | (d, v) :: L => bif mods.any (Nat.beq d) then dropS mods L else (d, v) :: dropS mods L
theorem slot_dropS (mods : List Nat) (k : Nat) : ∀ (L : Slots), slot (dropS mods L) k = bif mods.any (Nat.beq k) then none else slot L k
  | [] => by simp [dropS, slot]
  | (d, v) :: L => by
    simp only [dropS]
    cases hd : mods.any (Nat.beq d) with
    | true =>
      simp only [cond_true, slot, slot_dropS mods k L]
      cases hk : mods.any (Nat.beq k) with
      | true => rfl
      | false =>
        have : Nat.beq k d = false := by
          cases hb : Nat.beq k d with
          | false => rfl
          | true => have := Nat.eq_of_beq_eq_true hb; subst this; rw [hd] at hk; cases hk
        simp [this]
    | false =>
      simp only [cond_false, slot, slot_dropS mods k L]
      cases hb : Nat.beq k d with
      | false => simp
      | true => have := Nat.eq_of_beq_eq_true hb; subst this; simp [hd]
theorem sub_dropS {mods : List Nat} {L L' : Slots} (h : ∀ k v, slot L k = some v → mods.any (Nat.beq k) = false → slot L' k = some v) : ∀ k v, slot (dropS mods L) k = some v → slot L' k = some v := by
  intro k v hk
  rw [slot_dropS] at hk
  cases hm : mods.any (Nat.beq k) with
  | true => rw [hm] at hk; simp at hk
  | false => rw [hm] at hk; exact h k v (by simpa using hk) hm
section
variable {ds : List Deferred} {ρ : Option Nat} {P : Program} {Q : Exit → Act → World → Prop} {n : Nat} {L : Slots} {Z : World → Prop} {c : Code} {σ : Type}
theorem sub_app {A B L' : Slots} (hA : ∀ k v, slot A k = some v → slot L' k = some v) (hB : ∀ k v, slot B k = some v → slot L' k = some v) : ∀ k v, slot (A ++ B) k = some v → slot L' k = some v := by
  intro k v hk
  induction A with
  | nil => exact hB k v hk
  | cons p A ih =>
    obtain ⟨d, u⟩ := p
    simp only [List.cons_append, slot] at hk
    cases hb : Nat.beq k d with
    | true => exact hA k v (by simp only [slot, hb]; simpa [hb] using hk)
    | false =>
      rw [hb] at hk
      by_cases hd : slot A k = some v
      · exact hA k v (by simp only [slot, hb]; exact hd)
      · have : ∀ A : Slots, slot (A ++ B) k = some v → slot A k ≠ some v → slot B k = some v := by
          intro A
          induction A with
          | nil => intro h _; exact h
          | cons p A ih =>
            obtain ⟨e, u⟩ := p
            intro h hne
            simp only [List.cons_append, slot] at h hne
            cases hb : Nat.beq k e with
            | true => rw [hb] at h hne; exact absurd h hne
            | false => rw [hb] at h hne; exact ih h hne
        exact hB k v (this A hk hd)
theorem dropS_self (mods : List Nat) (L : Slots) : ∀ k v, slot (dropS mods L) k = some v → slot L k = some v := sub_dropS fun k v h _ => h
/-- a loop whose memory stays as0 it is -/
theorem WC.loopP (Lm : Slots) (Ls : σ → Slots) (inv : σ → Prop) (μ : σ → Nat) (s0 : σ) (hm : ∀ k v, slot Lm k = some v → slot L k = some v) (hL : ∀ k v, slot (Ls s0) k = some v → slot L k = some v) (h0 : inv s0)
    (round : ∀ s, inv s → WC ds ρ P c (Exit.then (LoopK ds (fun s => Ls s ++ Lm) (fun s w => inv s ∧ Z w) μ n s) Q) n (Ls s ++ Lm) Z) : WC ds ρ P (.loop c) Q n L Z :=
  WC.loop (fun s => Ls s ++ Lm) (fun s w => inv s ∧ Z w) μ s0 (sub_app hL hm) (fun w h => ⟨h0, h⟩) fun s => WC.pu fun h => round s h
theorem WX.loopP {Lm L' : Slots} {Ls : σ → Slots} {inv : σ → Prop} {μ : σ → Nat} {s : σ} {Z' : World → Prop} (s' : σ) (hμ : μ s' < μ s) (hm : ∀ k v, slot Lm k = some v → slot L' k = some v) (hL : ∀ k v, slot (Ls s') k = some v → slot L' k = some v) (hi : inv s') (hZ : ∀ w, Z' w → Z w) :
    WX ds (Exit.then (LoopK ds (fun s => Ls s ++ Lm) (fun s w => inv s ∧ Z w) μ n s) Q) .normal n L' Z' := WX.loop s' hμ (sub_app hL hm) (fun w h => ⟨hi, hZ w h⟩)
/-- a loop that changes own blocks, or learns facts -/
theorem WC.loopO {ok : Nat → Prop} {w0 : World} {own : List Ent} {fs : List Fact} (Lm : Slots) (Ls : σ → Slots) (inv : σ → Prop) (μ : σ → Nat) (own' : σ → List Ent) (fs' : σ → List Fact) (s0 : σ) (hm : ∀ k v, slot Lm k = some v → slot L k = some v) (hL : ∀ k v, slot (Ls s0) k = some v → slot L k = some v) (h0 : inv s0) (hS : ∀ w, St ok w0 own fs w → St ok w0 (own' s0) (fs' s0) w)
    (round : ∀ s, inv s → WC ds ρ P c (Exit.then (LoopK ds (fun s => Ls s ++ Lm) (fun s w => inv s ∧ St ok w0 (own' s) (fs' s) w) μ n s) Q) n (Ls s ++ Lm) (St ok w0 (own' s) (fs' s))) : WC ds ρ P (.loop c) Q n L (St ok w0 own fs) :=
  WC.loop (fun s => Ls s ++ Lm) (fun s w => inv s ∧ St ok w0 (own' s) (fs' s) w) μ s0 (sub_app hL hm) (fun w h => ⟨h0, hS w h⟩) fun s => WC.pu fun h => round s h
theorem WX.loopO {ok : Nat → Prop} {w0 : World} {Lm L' : Slots} {Ls : σ → Slots} {inv : σ → Prop} {μ : σ → Nat} {own' : σ → List Ent} {fs' : σ → List Fact} {s : σ} {Z' : World → Prop} (s' : σ) (hμ : μ s' < μ s) (hm : ∀ k v, slot Lm k = some v → slot L' k = some v) (hL : ∀ k v, slot (Ls s') k = some v → slot L' k = some v) (hi : inv s') (hZ : ∀ w, Z' w → St ok w0 (own' s') (fs' s') w) :
    WX ds (Exit.then (LoopK ds (fun s => Ls s ++ Lm) (fun s w => inv s ∧ St ok w0 (own' s) (fs' s) w) μ n s) Q) .normal n L' Z' := WX.loop s' hμ (sub_app hL hm) (fun w h => ⟨hi, hZ w h⟩)
end
/-! ### calls inside a region with free allocations -/
section
variable {ds : List Deferred} {ρ : Option Nat} {P : Program} {ops : List Oper} {ok : Nat → Prop} {w0 : World} {F : Act → World → Prop} {marks : List Nat} {n d i : Nat} {rest : List Nat} {L : Slots} {K own z : List Ent} {fs0 fs : List Fact} {o : Oper} {v : Value}
theorem stJ {x y : Operand} {t T : TypeId} {b off : Nat} {cs xs : List Value} {C : Ent → List Ent} (hop : o.op = .store t x y) (hx : oper L x = some (.pointer (some ⟨b, off, none⟩))) (hy : oper L y = some v) [hk : HasC own (some b) cs T C] (hs : (P.info? t).map (·.size) = some 1) (h1 : v.oneCell' = true) (hoff : off < cs.length) (hxs : cs.set off v = xs) :
    ∀ ext, Og ds P o n L (St ok w0 (ext ++ own) fs) (fun _ : Unit => undef) (fun _ => St ok w0 (ext ++ C ⟨some b, xs, T⟩) fs) := fun ext => st hop hx hy (Ctx.right hk.h ext) hs h1 hoff hxs
/-- a store that others need not wait for -/
theorem WJ.st {own' : List Ent} [h1 : SubL K own'] [h2 : SubL fs0 fs] (ho : ops[i]? = some o) (hm : marks.getD i 2 = 1) (hw : wantO ops L o = some true) (hdst : o.dst = none)
    (h : ∀ ext, Og ds P o n L (St ok w0 (ext ++ own) fs) (fun _ : Unit => undef) (fun _ => St ok w0 (ext ++ own') fs))
    (k : WJ ds P ops ok w0 (St ok w0 K fs0) F marks n rest L own' fs z) : WJ ds P ops ok w0 (St ok w0 K fs0) F marks n (i :: rest) L own fs z := by
  intro a hF
  refine ⟨o, by simpa using ho, ?_⟩
  rw [if_pos (wanted_of hF hw)]
  refine .inr (.inl ⟨hm, Unit, fun _ => undef, fun _ => True, fun _ => own', fun _ => fs, fun ext w hS => opX_mono (fun a' w' hh => ?_) (h ext a w hF hS), fun g _ => ⟨good_of, ?_⟩⟩)
  · obtain ⟨u, rfl, g, rfl, hS'⟩ := hh
    exact ⟨(), rfl, trivial, hS'⟩
  · rw [hdst]; exact k _ hF
theorem WJ.gv [h1 : SubL K own] [h2 : SubL fs0 fs] (ho : ops[i]? = some o) (hm : marks.getD i 2 = 1) (hw : wantO ops L o = some true) (hdst : o.dst = some d) (hd : Nat.blt d n = true)
    (h : ∀ ext, Og ds P o n L (St ok w0 (ext ++ own) fs) (fun _ : Unit => v) (fun _ => St ok w0 (ext ++ own) fs))
    (k : WJ ds P ops ok w0 (St ok w0 K fs0) F marks n rest ((d, v) :: L) own fs z) : WJ ds P ops ok w0 (St ok w0 K fs0) F marks n (i :: rest) L own fs z :=
  WJ.g (γ := Unit) (val := fun _ => v) (p := fun _ => True) (own' := fun _ => own) (fs' := fun _ => fs) ho hm hw hdst hd (fun ext a w hF hS => opX_mono (fun a' w' hh => by
    obtain ⟨u, e, g, e', hS'⟩ := hh; exact ⟨u, e, g, e', trivial, hS'⟩) (h ext a w hF hS)) (fun _ _ => k)
end
theorem og_rd {ds : List Deferred} {P : Program} {o : Oper} {n : Nat} {L : Slots} {Z : World → Prop} {v : Value} (h : Rd ds P o n L Z v) : Og ds P o n L Z (fun _ : Unit => v) (fun _ => Z) := fun a w hF hS => (h a hF).wp hS ⟨v, rfl, (), rfl, hS⟩
/-- append to a block that is full -/
theorem appf {ds : List Deferred} {P : Program} {o : Oper} {n : Nat} {L : Slots} {ok : Nat → Prop} {w0 : World} {own : List Ent} {C : Ent → List Ent} {fs : List Fact} {x y : Operand} {t e : TypeId} {sz : Nat} {xs : List Value} {len cap b : Nat} {news : List Value} {zv : Value} {m c : Nat} {ad : Option Addr} (hop : o.op = .call { callee := .builtin .append, args := #[x, y], argTypes := #[t, t] }) (hu : P.underlying t = some (.slice e)) (hi : (P.info? e).map (fun i => (i.zero, i.size, i.bytes)) = some (some zv, 1, sz)) (h1 : zv.cells = #[zv])
    (hk : Ctx own ⟨some b, xs, e⟩ C) (hx : oper L x = some (.slice (some ⟨b, 0, none⟩) len cap)) (hy : oper L y = some (.slice ad m c)) (hsrc : ∀ w, St ok w0 own fs w → (Fact.sl ad news).holds (fun _ => True) w) (hm : news.length = m)
    (hb : xs.length = len ∧ cap = len ∧ len + m ≤ 9223372036854775807 ∧ (len + m) * sz ≤ 140737488355328) (h1c : ∀ u ∈ news, u.oneCell' = true) :
    Og ds P o n L (St ok w0 own fs) (fun g : Gr => .slice (g.ob.map fun b => ⟨b, 0, none⟩) (len + m) g.cap) (fun g w => (g.cap = len + m + g.sp.length) ∧ St ok w0 (C ⟨g.ob, (xs ++ news) ++ g.sp, e⟩) fs w) :=
  appg (ob := some b) (sp := []) hop hu hi h1 (by rw [List.append_nil]; exact hk) hx hy hsrc hm ⟨hb.1, by simp; exact hb.2.1, hb.2.2⟩ h1c
section
variable {ds : List Deferred} {ρ : Option Nat} {P : Program} {o : Oper} {n : Nat} {L : Slots} {ok : Nat → Prop} {w0 : World} {own : List Ent} {C : Ent → List Ent} {fs : List Fact} {x y : Operand} {t e : TypeId} {sz : Nat} {xs : List Value} {len cap b : Nat} {news : List Value} {zv : Value} {m c : Nat} {ad : Option Addr}
/-- inside a region with free allocations -/
theorem appgJ {ob : Option Nat} {sp : List Value} (hop : o.op = .call { callee := .builtin .append, args := #[x, y], argTypes := #[t, t] }) (hu : P.underlying t = some (.slice e)) (hi : (P.info? e).map (fun i => (i.zero, i.size, i.bytes)) = some (some zv, 1, sz)) (h1 : zv.cells = #[zv])
    (hk : Ctx own ⟨ob, xs ++ sp, e⟩ C) (hx : oper L x = some (.slice (ob.map fun b => ⟨b, 0, none⟩) len cap)) (hy : oper L y = some (.slice ad m c)) (hsrc : ∀ ext w, St ok w0 (ext ++ own) fs w → (Fact.sl ad news).holds (fun _ => True) w) (hm : news.length = m)
    (hb : xs.length = len ∧ cap = len + sp.length ∧ len + m ≤ 9223372036854775807 ∧ (len + m) * sz ≤ 140737488355328) (h1c : ∀ u ∈ news, u.oneCell' = true) (ext : List Ent) :
    Og ds P o n L (St ok w0 (ext ++ own) fs) (fun g : Gr => .slice (g.ob.map fun b => ⟨b, 0, none⟩) (len + m) g.cap) (fun g w => (g.cap = len + m + g.sp.length) ∧ St ok w0 (ext ++ C ⟨g.ob, (xs ++ news) ++ g.sp, e⟩) fs w) :=
  appg hop hu hi h1 (Ctx.right hk ext) hx hy (hsrc ext) hm hb h1c
theorem appfJ (hop : o.op = .call { callee := .builtin .append, args := #[x, y], argTypes := #[t, t] }) (hu : P.underlying t = some (.slice e)) (hi : (P.info? e).map (fun i => (i.zero, i.size, i.bytes)) = some (some zv, 1, sz)) (h1 : zv.cells = #[zv])
    (hk : Ctx own ⟨some b, xs, e⟩ C) (hx : oper L x = some (.slice (some ⟨b, 0, none⟩) len cap)) (hy : oper L y = some (.slice ad m c)) (hsrc : ∀ ext w, St ok w0 (ext ++ own) fs w → (Fact.sl ad news).holds (fun _ => True) w) (hm : news.length = m)
    (hb : xs.length = len ∧ cap = len ∧ len + m ≤ 9223372036854775807 ∧ (len + m) * sz ≤ 140737488355328) (h1c : ∀ u ∈ news, u.oneCell' = true) (ext : List Ent) :
    Og ds P o n L (St ok w0 (ext ++ own) fs) (fun g : Gr => .slice (g.ob.map fun b => ⟨b, 0, none⟩) (len + m) g.cap) (fun g w => (g.cap = len + m + g.sp.length) ∧ St ok w0 (ext ++ C ⟨g.ob, (xs ++ news) ++ g.sp, e⟩) fs w) :=
  appf hop hu hi h1 (Ctx.right hk ext) hx hy (hsrc ext) hm hb h1c
theorem rd_extL {Z : World → Prop} {vs : List Value} {v : Value} {ix : Nat} (hop : o.op = .extract x ix) (hx : oper L x = some (.tuple vs.toArray)) (h : vs[ix]? = some v) : Rd ds P o n L Z v := rd_ext hop hx (by simpa using h)
end
/-! ### what a call hands over -/
/-- a new slice: its block (none: nil), its capacity, what lies behind its elements -/
structure Rs where
  ob : Option Nat
  cap : Nat
  sp : List Value
abbrev Rs.a (g : Rs) : Option Addr := g.ob.map fun b => ⟨b, 0, none⟩
abbrev Rs.val (g : Rs) (n : Nat) : Value := .slice g.a n g.cap
abbrev Rs.ent (g : Rs) (xs : List Value) (T : TypeId) : Ent := ⟨g.ob, xs ++ g.sp, T⟩
section
variable {ds : List Deferred} {ρ : Option Nat} {P : Program} {ok : Nat → Prop} {w0 : World} {own ext : List Ent} {fs : List Fact} {γ : Type} {f : FuncId} {args : Array Value} {val : γ → Value} {p : γ → Prop}
/-- kept as0 own blocks -/
theorem keep_o {x : γ → List Ent} {ok' : Nat → Prop} (h : ∀ w, St ok w0 own fs w → Calls P f args w (fun e w' => ∃ g, e = .returned (val g) ∧ p g ∧ St ok' w (x g) [] w')) :
    ∀ w, St ok w0 own fs w → Calls P f args w (fun e w' => ∃ g, e = .returned (val g) ∧ p g ∧ St ok w0 (x g ++ own) fs w') :=
  fun w hS => (h w hS).mono fun _ _ ⟨g, he, hp, hb⟩ => ⟨g, he, hp, hS.adopt hb⟩
theorem keep_oJ {x : γ → List Ent} {ok' : Nat → Prop} (h : ∀ w, St ok w0 (ext ++ own) fs w → Calls P f args w (fun e w' => ∃ g, e = .returned (val g) ∧ p g ∧ St ok' w (x g) [] w')) :
    ∀ w, St ok w0 (ext ++ own) fs w → Calls P f args w (fun e w' => ∃ g, e = .returned (val g) ∧ p g ∧ St ok w0 (ext ++ (x g ++ own)) fs w') :=
  fun w hS => (h w hS).mono fun _ _ ⟨g, he, hp, hb⟩ => ⟨g, he, hp, (hS.adopt hb).perm (by
    rw [← List.append_assoc, ← List.append_assoc]; exact List.Perm.append_right _ List.perm_append_comm)⟩
/-- .. that stand from now on -/
theorem st_facts {w w' : World} {ok' : Nat → Prop} (hS : St ok w0 own fs w) : ∀ (xs : List (Rs × List Value × TypeId)), St ok' w (xs.map fun x => x.1.ent x.2.1 x.2.2) [] w' → St ok w0 own (xs.map (fun x => Fact.sl x.1.a x.2.1) ++ fs) w' := by
  intro xs hn
  have h1 := hS.keep hn.below
  refine ⟨h1.okn, h1.below, h1.own_, h1.nd, fun f hf => ?_⟩
  rcases List.mem_append.1 hf with hf | hf
  · obtain ⟨x, hx, rfl⟩ := List.mem_map.1 hf
    have := hn.own_ (x.1.ent x.2.1 x.2.2) (List.mem_map.2 ⟨x, hx, rfl⟩)
    unfold Ent.holds at this
    cases hob : x.1.ob with
    | none =>
      rw [Rs.ent, hob] at this
      exact .inl (by have h2 : x.2.1 ++ x.1.sp = [] := this; simp at h2; exact h2.1)
    | some b =>
      rw [Rs.ent, hob] at this
      have hf := hS.fresh b this.1
      exact .inr ⟨b, 0, (x.2.1 ++ x.1.sp).toArray, x.2.2, (0, 0), by rw [Rs.a, hob]; rfl, hf, this.2, fun i hi => by rw [Nat.zero_add, List.getElem?_toArray, List.getElem?_append_left hi]⟩
  · exact h1.fact f hf
theorem keep_f {x : γ → List (Rs × List Value × TypeId)} {ok' : Nat → Prop} (h : ∀ w, St ok w0 own fs w → Calls P f args w (fun e w' => ∃ g, e = .returned (val g) ∧ p g ∧ St ok' w ((x g).map fun x => x.1.ent x.2.1 x.2.2) [] w')) :
    ∀ w, St ok w0 own fs w → Calls P f args w (fun e w' => ∃ g, e = .returned (val g) ∧ p g ∧ St ok w0 own ((x g).map (fun x => Fact.sl x.1.a x.2.1) ++ fs) w') :=
  fun w hS => (h w hS).mono fun _ _ ⟨g, he, hp, hb⟩ => ⟨g, he, hp, st_facts hS _ hb⟩
/-- one slice -/
theorem keep_f1 {val : Rs → Value} {p : Rs → Prop} {xs : List Value} {T : TypeId} {ok' : Nat → Prop} (h : ∀ w, St ok w0 own fs w → Calls P f args w (fun e w' => ∃ g : Rs, e = .returned (val g) ∧ p g ∧ St ok' w [g.ent xs T] [] w')) :
    ∀ w, St ok w0 own fs w → Calls P f args w (fun e w' => ∃ g : Rs, e = .returned (val g) ∧ p g ∧ St ok w0 own (Fact.sl g.a xs :: fs) w') :=
  fun w hS => (h w hS).mono fun _ _ ⟨g, he, hp, hb⟩ => ⟨g, he, hp, st_facts hS [(g, xs, T)] hb⟩
theorem keep_o1 {val : Rs → Value} {p : Rs → Prop} {xs : List Value} {T : TypeId} {ok' : Nat → Prop} (h : ∀ w, St ok w0 own fs w → Calls P f args w (fun e w' => ∃ g : Rs, e = .returned (val g) ∧ p g ∧ St ok' w [g.ent xs T] [] w')) :
    ∀ w, St ok w0 own fs w → Calls P f args w (fun e w' => ∃ g : Rs, e = .returned (val g) ∧ p g ∧ St ok w0 (g.ent xs T :: own) fs w') :=
  fun w hS => (h w hS).mono fun _ _ ⟨g, he, hp, hb⟩ => ⟨g, he, hp, hS.adopt hb⟩
theorem keep_o1J {val : Rs → Value} {p : Rs → Prop} {xs : List Value} {T : TypeId} {ok' : Nat → Prop} (h : ∀ w, St ok w0 (ext ++ own) fs w → Calls P f args w (fun e w' => ∃ g : Rs, e = .returned (val g) ∧ p g ∧ St ok' w [g.ent xs T] [] w')) :
    ∀ w, St ok w0 (ext ++ own) fs w → Calls P f args w (fun e w' => ∃ g : Rs, e = .returned (val g) ∧ p g ∧ St ok w0 (ext ++ (g.ent xs T :: own)) fs w') :=
  fun w hS => (h w hS).mono fun _ _ ⟨g, he, hp, hb⟩ => ⟨g, he, hp, (hS.adopt hb).perm List.perm_middle⟩
end
/-! ### results -/
inductive RetV (P : Program) (L : Slots) (own : List Ent) : List ResultVar → List Value → Prop
  | nil : RetV P L own [] []
  | tmp {r : Nat} {v : Value} {rs : List ResultVar} {vs : List Value} (h : slot L r = some v) (k : RetV P L own rs vs) : RetV P L own (.tmp r :: rs) (v :: vs)
  | agg {r b : Nat} {t T : TypeId} {cs : List Value} {rs : List ResultVar} {vs : List Value} {d : TypeDesc} (h : slot L r = some (.pointer (some ⟨b, 0, none⟩))) (he : InE own ⟨some b, cs, T⟩) (hu : P.underlying t = some d) (hd : isAggD d = true) (hsz : (P.info? t).map (·.size) = some cs.length) (k : RetV P L own rs vs) : RetV P L own (.cell r t :: rs) (.agg cs.toArray :: vs)
  | one {r b : Nat} {t T : TypeId} {v : Value} {rs : List ResultVar} {vs : List Value} {d : TypeDesc} (h : slot L r = some (.pointer (some ⟨b, 0, none⟩))) (he : InE own ⟨some b, [v], T⟩) (hu : P.underlying t = some d) (hd : isAggD d = false) (k : RetV P L own rs vs) : RetV P L own (.cell r t :: rs) (v :: vs)
def tup : List Value → Value
  | [v] => v
  | vs => .tuple vs.toArray
def resAt (tmps : Array Value) : ResultVar → Sem Value
  | .tmp t => pure (tmps.getD t undef)
  | .cell b t => do loadVar t (← asAddr (tmps.getD b undef))
theorem results_eq (fn : Func) (tmps : Array Value) : results fn tmps = (do let vs ← fn.results.mapM (resAt tmps); pure (if h : vs.size = 1 then vs[0] else .tuple vs)) := by
  have : (resAt tmps) = (fun | .tmp t => pure (tmps.getD t undef) | .cell a t => do loadVar t (← asAddr (tmps.getD a undef))) := by funext x; cases x <;> rfl
  rw [this]; rfl
section
variable {ds : List Deferred} {ρ : Option Nat} {P : Program} {fn : Func} {R : Ending → World → Prop} {n : Nat} {L : Slots} {ok : Nat → Prop} {w0 : World} {own : List Ent} {fs : List Fact}
theorem retV_run {a : Act} {w : World} (hF : Fr ds a n L) (hS : St ok w0 own fs w) : ∀ {rs : List ResultVar} {vs : List Value}, RetV P L own rs vs → (rs.mapM (resAt a.tmps)).run P w = .ok vs w
  | _, _, .nil => rfl
  | _, _, .tmp (r := r) h k => by
    have h1 := hF.at_ _ _ h
    have ih := retV_run hF hS k
    rw [List.mapM_cons]
    simp [ih, h1, resAt]
  | _, _, .agg h he hu hd hsz k => by
    have h1 := hF.at_ _ _ h
    have ih := retV_run hF hS k
    obtain ⟨kk, hk⟩ := he.get
    have h2 := run_lda (P := P) (off := 0) (hS.block hk) (fun i _ => by simp) hu hd hsz
    rw [List.mapM_cons]
    simp [ih, h1, asAddr, h2, resAt]
  | _, _, .one h he hu hd k => by
    have h1 := hF.at_ _ _ h
    have ih := retV_run hF hS k
    obtain ⟨kk, hk⟩ := he.get
    have hc := block_cell (hS.block hk) 0
    rw [List.mapM_cons]
    simp [ih, h1, asAddr, loadVar, run_isAgg hu, hd, hc, resAt]
theorem WX.retN {rs : List ResultVar} {vs : List Value} (hr : fn.results = rs.toArray) (hv : RetV P L own rs vs) (h : ∀ w, St ok w0 own fs w → R (.returned (tup vs)) w) : WX [] (bodyPost P fn R) .ret n L (St ok w0 own fs) := fun a w hF hS => by
  refine bodyPost_ret (v := tup vs) ?_ hF.defers (h w hS)
  have hm := retV_run hF hS hv
  rw [results_eq, hr, List.mapM_toArray]
  simp only [Sem.run_bind, map_eq_pure_bind, hm, Result.andThen, Sem.run_pure]
  match vs with
  | [] => rfl
  | [v] => rfl
  | v :: u :: r => simp [tup]
end
/-! ### short names -/
section
variable {ds : List Deferred} {ρ : Option Nat} {γ : Type} {P : Program} {ops : List Oper} {C S Z : World → Prop} {Q : Exit → Act → World → Prop} {n d i : Nat} {rest : List Oper} {L : Slots} {o : Oper} {x : Operand} {v : Value} {marks : List Nat} {val : γ → Value} {S' : γ → World → Prop}
theorem Km (h : (wantO ops L o, o.dst, Nat.blt d n, o.op, oper L x) = (some true, some d, true, .move x, some v)) (k : WL ds P ops Q n rest ((d, v) :: L) S) : WL ds P ops Q n (o :: rest) L S := by
  simp only [Prod.mk.injEq] at h; exact WL.r h.1 h.2.1 h.2.2.1 (rd_move h.2.2.2.1 h.2.2.2.2) k
theorem Ka (h : (wantO ops L o, o.dst, Nat.blt d n, o.op, oper L x) = (some true, some d, true, .assign x, some v)) (k : WL ds P ops Q n rest ((d, v) :: L) S) : WL ds P ops Q n (o :: rest) L S := by
  simp only [Prod.mk.injEq] at h; exact WL.r h.1 h.2.1 h.2.2.1 (rd_assign h.2.2.2.1 h.2.2.2.2) k
theorem Kq (h : (wantO ops L o, o.dst, Nat.blt d n) = (some true, some d, true)) (hr : Rd ds P o n L S v) (k : WL ds P ops Q n rest ((d, v) :: L) S) : WL ds P ops Q n (o :: rest) L S := by
  simp only [Prod.mk.injEq] at h; exact WL.r h.1 h.2.1 h.2.2 hr k
theorem Kt (h : (wantO ops L o, o.dst, Nat.blt d n) = (some false, some d, true)) (k : WL ds P ops Q n rest ((d, undef) :: L) S) : WL ds P ops Q n (o :: rest) L S := by
  simp only [Prod.mk.injEq] at h; exact WL.s h.1 h.2.1 h.2.2 k
theorem Kh (h : (wantO ops L o, o.dst, Nat.blt d n) = (some true, some d, true)) (hr : Og ds P o n L S val S') (k : ∀ g, WL ds P ops Q n rest ((d, val g) :: L) (S' g)) : WL ds P ops Q n (o :: rest) L S := by
  simp only [Prod.mk.injEq] at h; exact WL.g h.1 h.2.1 h.2.2 hr k
theorem Kj {is : List Nat} {ok : Nat → Prop} {w0 : World} {F : Act → World → Prop} {own z : List Ent} {fs : List Fact} (h : (ops[i]?, marks.getD i 2, wantO ops L o, o.dst, Nat.blt d n) = (some o, 0, some true, some d, true)) (hr : Rd ds P o n L C v) (k : WJ ds P ops ok w0 C F marks n is ((d, v) :: L) own fs z) : WJ ds P ops ok w0 C F marks n (i :: is) L own fs z := by
  simp only [Prod.mk.injEq] at h; exact WJ.r h.1 h.2.1 h.2.2.1 h.2.2.2.1 h.2.2.2.2 hr k
end
end Go.Proofs.YtnimhldbblfgbaaGreat
