/-
  Parts of the walk: Mem Rul Ord Aux.
-/
import Derived.Test.YtchonigdjamphaaGreatDoorQ3
import Derived.Laws.AppendOwn
import Derived.Laws.MakeOwn
import Derived.Laws.CopyOwn
import Derived.Laws.BytesString
import Derived.Laws.Rows
namespace Go.Proofs.YtchonigdjamphaaGreatDoor
open Go.RowKit
set_option linter.unusedSimpArgs false
set_option linter.unusedVariables false
set_option maxHeartbeats 600000
set_option maxRecDepth 20000
structure Fact where
  holds : (Nat → Prop) → World → Prop
  mono : ∀ {ok ok' : Nat → Prop} {w : World}, (∀ b, ok b → ok' b) → holds ok w → holds ok' w
  stable : ∀ {ok : Nat → Prop} {w w' : World}, holds ok w → w.heap.size ≤ w'.heap.size → (∀ b, b < w.heap.size → ok b → w'.heap[b]? = w.heap[b]?) → holds ok w'
  here : ∀ {ok : Nat → Prop} {w : World}, holds ok w → holds (fun b => ok b ∧ b < w.heap.size) w
def Fact.sl (a : Option Addr) (xs : List Value) : Fact where
  holds ok w := xs = [] ∨ ∃ b off cs T fz, a = some ⟨b, off, none⟩ ∧ ok b ∧ w.heap[b]? = some (.cells cs T fz) ∧ ∀ i, i < xs.length → cs[off + i]? = xs[i]?
  mono h := fun hh => hh.imp id fun ⟨b, off, cs, T, fz, h1, h2, h3, h4⟩ => ⟨b, off, cs, T, fz, h1, h _ h2, h3, h4⟩
  stable := fun hh _ hk => hh.imp id fun ⟨b, off, cs, T, fz, h1, h2, h3, h4⟩ => ⟨b, off, cs, T, fz, h1, h2, by rw [hk b (B5.1 h3).1 h2]; exact h3, h4⟩
  here := fun hh => hh.imp id fun ⟨b, off, cs, T, fz, h1, h2, h3, h4⟩ => ⟨b, off, cs, T, fz, h1, ⟨h2, (B5.1 h3).1⟩, h3, h4⟩
structure Ent where
  ob : Option Nat
  cs : List Value
  T : TypeId
def ids (own : List Ent) : List Nat := own.filterMap (·.ob)
def Ent.holds (B : Nat) (w : World) (x : Ent) : Prop :=
  match x.ob with
  | none => x.cs = []
  | some b => B ≤ b ∧ w.heap[b]? = some (.cells x.cs.toArray x.T (0, 0))
structure St (ok : Nat → Prop) (w0 : World) (own : List Ent) (fs : List Fact) (w : World) : Prop where
  okn : ∀ b, w0.heap.size ≤ b → ok b
  below : Below w0.heap.size w0 w
  own_ : ∀ x ∈ own, x.holds w0.heap.size w
  nd : (ids own).Nodup
  fact : ∀ f ∈ fs, f.holds (fun b => ok b ∧ b ∉ ids own) w
section
variable {ok : Nat → Prop} {w0 w w' : World} {own : List Ent} {fs : List Fact}
theorem x3 (own : List Ent) (k b : Nat) (cs cs' : List Value) (T T' : TypeId) (h : own[k]? = some ⟨some b, cs, T⟩) : ids (own.set k ⟨some b, cs', T'⟩) = ids own := by
  induction own generalizing k with
  | nil => simp at h
  | cons x r ih =>
    cases k with
    | zero => simp at h; subst h; rfl
    | succ k => simp at h; simp only [Bg, ids, List.filterMap_cons] at ih ⊢; rw [ih k h]
theorem eh {b : Nat} {x : Ent} (hx : x ∈ own) (hb : x.ob = some b) : b ∈ ids own := List.mem_filterMap.2 ⟨x, hx, hb⟩
theorem Ent.holds_same {B : Nat} {x : Ent} (h : x.holds B w) (hk : ∀ b, x.ob = some b → w'.heap[b]? = w.heap[b]?) : x.holds B w' := by
  unfold Ent.holds at *
  split
  · rename_i h1; simpa [h1] using h
  · rename_i b h1; simp only [h1] at h; exact ⟨h.1, by rw [hk b h1]; exact h.2⟩
theorem St.draw (h : St ok w0 own fs w) : St ok w0 own fs { w with drawn := w.drawn + 1 } :=
  ⟨h.okn, ⟨h.below.os, h.below.tape, h.below.output, h.below.size, h.below.block⟩, fun x hx => Ent.holds_same (h.own_ x hx) fun _ _ => rfl, h.nd, fun f hf => f.stable (h.fact f hf) (Ba _) fun _ _ _ => rfl⟩
theorem St.lt (h : St ok w0 own fs w) {b : Nat} (hb : b ∈ ids own) : w0.heap.size ≤ b ∧ b < w.heap.size := by
  obtain ⟨x, hx, hxb⟩ := List.mem_filterMap.1 hb
  have := h.own_ x hx
  unfold Ent.holds at this
  rw [hxb] at this
  exact ⟨this.1, (B5.1 this.2).1⟩
theorem St.keep (h : St ok w0 own fs w) (hb : Below w.heap.size w w') : St ok w0 own fs w' :=
  ⟨h.okn, h.below.trans (hb.mono h.below.size), fun x hx => Ent.holds_same (h.own_ x hx) fun b hxb => hb.block b (h.lt (eh hx hxb)).2, h.nd, fun f hf => f.stable (h.fact f hf) hb.size fun b hlt _ => hb.block b hlt⟩
theorem dV (w : World) (o : Obj) (b : Nat) (h : b < w.heap.size) : (w.heap.push o)[b]? = w.heap[b]? := by rw [Array.getElem?_push, Aa (by omega)]
theorem St.alloc (h : St ok w0 own fs w) (cs : List Value) (T : TypeId) : St ok w0 (⟨some w.heap.size, cs, T⟩ :: own) fs (w.alloc (.cells cs.toArray T)) := by
  refine ⟨h.okn, h.below.alloc h.below.size _, fun x hx => ?_, ?_, fun f hf => ?_⟩
  · rcases Be.1 hx with rfl | hx
    · exact ⟨h.below.size, heap_alloc_new w _⟩
    · exact Ent.holds_same (h.own_ x hx) fun b hxb => dV w _ b (h.lt (eh hx hxb)).2
  · show (w.heap.size :: ids own).Nodup
    exact C7.2 ⟨fun hm => by have := (h.lt hm).2; omega, h.nd⟩
  · refine f.mono (ok := fun b => (ok b ∧ b ∉ ids own) ∧ b < w.heap.size) (fun b hb => ⟨hb.1.1, fun hm => ?_⟩) ?_
    · rcases Be.1 (show b ∈ w.heap.size :: ids own from hm) with rfl | hm
      · exact absurd hb.2 (Nat.lt_irrefl _)
      · exact hb.1.2 hm
    · exact f.stable (f.here (h.fact f hf)) (by simp) fun b hlt _ => dV w _ b hlt
theorem St.setRow (h : St ok w0 own fs w) {k b : Nat} {cs : List Value} {T : TypeId} (hk : own[k]? = some ⟨some b, cs, T⟩) (cs' : List Value) : St ok w0 (own.set k ⟨some b, cs', T⟩) fs (w.setRow b cs'.toArray) := by
  have hmem : (⟨some b, cs, T⟩ : Ent) ∈ own := A9 hk
  have hb := h.own_ _ hmem
  have hids := x3 own k b cs cs' T T hk
  refine ⟨h.okn, below_setRow h.below hb.1 _, fun x hx => ?_, by rw [hids]; exact h.nd, fun f hf => ?_⟩
  · rcases List.mem_or_eq_of_mem_set hx with hx' | rfl
    · by_cases hxb : x.ob = some b
      · -- the entry itself: the same place, since the blocks differ
        have : x = ⟨some b, cs', T⟩ := by
          obtain ⟨j, hj⟩ := List.mem_iff_getElem?.1 hx
          by_cases hjk : j = k
          · subst hjk
            have hlt : j < own.length := (Ap.1 hk).1
            simp [hlt] at hj
            exact hj.symm
          · rw [Dp (Ne.symm hjk)] at hj
            exfalso
            have nd := h.nd
            have : ∀ (own : List Ent) (j k : Nat) (x y : Ent), own[j]? = some x → own[k]? = some y → j < k → x.ob = some b → y.ob = some b → ¬ (ids own).Nodup := by
              intro own
              induction own with
              | nil => intro j k x y hj; simp at hj
              | cons z r ih =>
                intro j k x y hj hk hlt hx hy hnd
                cases j with
                | zero =>
                  simp at hj; subst hj
                  cases k with
                  | zero => omega
                  | succ k =>
                    simp at hk
                    have hnd' : (b :: ids r).Nodup := by simpa [ids, hx] using hnd
                    exact (C7.1 hnd').1 (eh (A9 hk) hy)
                | succ j =>
                  cases k with
                  | zero => omega
                  | succ k =>
                    simp at hj hk
                    refine ih j k x y hj hk (by omega) hx hy ?_
                    cases hz : z.ob with
                    | none => simpa [ids, hz] using hnd
                    | some c => have : (c :: ids r).Nodup := by simpa [ids, hz] using hnd
                                exact (C7.1 this).2
            rcases Nat.lt_or_gt_of_ne hjk with hlt | hlt
            · exact this own j k _ _ hj hk hlt hxb rfl nd
            · exact this own k j _ _ hk hj hlt rfl hxb nd
        subst this
        exact ⟨hb.1, setRow_heap w b _ _ T (0, 0) hb.2⟩
      · exact Ent.holds_same (h.own_ x hx') fun c hc => setRow_other w b c _ (fun e => hxb (by rw [hc, e]))
    · exact ⟨hb.1, setRow_heap w b _ _ T (0, 0) hb.2⟩
  · rw [hids]
    refine f.stable (h.fact f hf) (by simp) fun c _ hc => setRow_other w b c _ (fun e => hc.2 (by rw [e]; exact eh hmem rfl))
theorem St.block (h : St ok w0 own fs w) {k b : Nat} {cs : List Value} {T : TypeId} (hk : own[k]? = some ⟨some b, cs, T⟩) : w.heap[b]? = some (.cells cs.toArray T (0, 0)) := (h.own_ _ (A9 hk)).2
theorem df {b : Nat} {cs : List Value} {T : TypeId} (hb : w.heap[b]? = some (.cells cs.toArray T (0, 0))) (i : Nat) : w.cell? ⟨b, i, none⟩ = cs[i]? := by
  simp [World.cell?, hb]
theorem St.sub {own' : List Ent} {fs' : List Fact} (h : St ok w0 own fs w) (hs : own'.Sublist own) (hf : ∀ f ∈ fs', f ∈ fs) : St ok w0 own' fs' w := by
  have hids : (ids own').Sublist (ids own) := hs.filterMap _
  exact ⟨h.okn, h.below, fun x hx => h.own_ x (hs.subset hx), hids.nodup h.nd, fun f hf' => f.mono (fun b hb => ⟨hb.1, fun hm => hb.2 (hids.subset hm)⟩) (h.fact f (hf f hf'))⟩
theorem St.add {f : Fact} (h : St ok w0 own fs w) (hf : f.holds (fun b => ok b ∧ b ∉ ids own) w) : St ok w0 own (f :: fs) w :=
  ⟨h.okn, h.below, h.own_, h.nd, fun g hg => (Be.1 hg).elim (fun e => e ▸ hf) (fun hg => h.fact g hg)⟩
theorem St.freeze {b off : Nat} {cs xs : List Value} {T : TypeId} {r : List Ent} (h : St ok w0 (⟨some b, cs, T⟩ :: r) fs w) (hx : ∀ i, i < xs.length → cs[off + i]? = xs[i]?) : St ok w0 r (Fact.sl (some ⟨b, off, none⟩) xs :: fs) w := by
  have h' := h.sub (own' := r) (fs' := fs) (Bm _ _) (fun _ h => h)
  have hb : w0.heap.size ≤ b ∧ w.heap[b]? = some (.cells cs.toArray T (0, 0)) := h.own_ ⟨some b, cs, T⟩ (by simp)
  refine h'.add (.inr ⟨b, off, cs.toArray, T, (0, 0), rfl, ⟨h.okn b hb.1, fun hm => ?_⟩, hb.2, fun i hi => by simpa using hx i hi⟩)
  have := h.nd
  exact (C7.1 (show (b :: ids r).Nodup from this)).1 hm
theorem St.own_sl (h : St ok w0 own fs w) {k b off : Nat} {cs xs : List Value} {T : TypeId} (hk : own[k]? = some ⟨some b, cs, T⟩) (hx : ∀ i, i < xs.length → cs[off + i]? = xs[i]?) : (Fact.sl (some ⟨b, off, none⟩) xs).holds (fun _ => True) w :=
  .inr ⟨b, off, cs.toArray, T, (0, 0), rfl, trivial, h.block hk, fun i hi => by simpa using hx i hi⟩
theorem St.holds (h : St ok w0 own fs w) {k : Nat} {f : Fact} (hk : fs[k]? = some f) : f.holds (fun b => ok b ∧ b ∉ ids own) w := h.fact f (A9 hk)
theorem St.holds_any (h : St ok w0 own fs w) {k : Nat} {f : Fact} (hk : fs[k]? = some f) : f.holds (fun _ => True) w := f.mono (fun _ _ => trivial) (h.holds hk)
theorem jT : ∀ (own : List Ent) (kk : Nat) (x : Ent), (ids (x :: own)).Nodup → (ids (own.set kk x)).Nodup ∧ ∀ b, b ∈ ids (own.set kk x) → b ∈ ids (x :: own)
  | [], _, x, h => ⟨by simp [ids], by simp [ids]⟩
  | y :: r, 0, x, h => by
    have hsub : (ids (x :: r)).Sublist (ids (x :: y :: r)) := List.Sublist.filterMap _ (List.Sublist.cons_cons x (Bm y r))
    exact ⟨hsub.nodup h, fun b hb => hsub.subset hb⟩
  | y :: r, kk + 1, x, h => by
    have hsub : (ids (x :: r)).Sublist (ids (x :: y :: r)) := List.Sublist.filterMap _ (List.Sublist.cons_cons x (Bm y r))
    obtain ⟨h1, h2⟩ := jT r kk x (hsub.nodup h)
    simp only [Bg]
    cases hy : y.ob with
    | none =>
      have e1 : ids (y :: r.set kk x) = ids (r.set kk x) := by simp [ids, hy]
      rw [e1]
      exact ⟨h1, fun b hb => hsub.subset (h2 b hb)⟩
    | some c =>
      have e1 : ids (y :: r.set kk x) = c :: ids (r.set kk x) := by simp [ids, hy]
      have e2 : ids (y :: r) = c :: ids r := by simp [ids, hy]
      rw [e1]
      refine ⟨C7.2 ⟨fun hm => ?_, h1⟩, fun b hb => ?_⟩
      · have := h2 c hm
        cases hx : x.ob with
        | none =>
          have e3 : ids (x :: r) = ids r := by simp [ids, hx]
          have e4 : ids (x :: y :: r) = c :: ids r := by simp [ids, hx, hy]
          rw [e3] at this; rw [e4] at h
          exact (C7.1 h).1 this
        | some q =>
          have e3 : ids (x :: r) = q :: ids r := by simp [ids, hx]
          have e4 : ids (x :: y :: r) = q :: c :: ids r := by simp [ids, hx, hy]
          rw [e3] at this; rw [e4] at h
          rcases Be.1 this with rfl | hm'
          · exact (C7.1 h).1 (by simp)
          · exact (C7.1 (C7.1 h).2).1 hm'
      · rcases Be.1 hb with rfl | hb
        · exact List.mem_filterMap.2 ⟨y, by simp, hy⟩
        · exact hsub.subset (h2 b hb)
theorem St.replace {x : Ent} (h : St ok w0 (x :: own) fs w) (kk : Nat) : St ok w0 (own.set kk x) fs w := by
  obtain ⟨h1, h2⟩ := jT own kk x h.nd
  exact ⟨h.okn, h.below, fun y hy => h.own_ y (by
    rcases List.mem_or_eq_of_mem_set hy with h' | h'
    · exact Cu _ h'
    · simp [h']), h1, fun f hf => f.mono (fun b hb => ⟨hb.1, fun hm => hb.2 (h2 b hm)⟩) (h.fact f hf)⟩
theorem St.start {w : World} (hok : ∀ b, w.heap.size ≤ b → ok b) (hf : ∀ f ∈ fs, f.holds ok w) : St ok w [] fs w :=
  ⟨hok, Below.refl _ _, fun x hx => (by cases hx), List.nodup_nil, fun f hf' => f.mono (fun b hb => ⟨hb, by simp [ids]⟩) (hf f hf')⟩
end
def Og (ds : List Deferred) {γ : Type} (P : Program) (o : Oper) (n : Nat) (L : an) (S : World → Prop) (val : γ → Value) (S' : γ → World → Prop) : Prop := Op1 ds P o n L S (fun v w => ∃ g, v = val g ∧ S' g w)
section
variable {ds : List Deferred} {ρ : Option Nat} {γ : Type} {P : Program} {ops : List Oper} {C S : World → Prop} {Q : Exit → Act → World → Prop} {n d : Nat} {rest : List Oper} {L : an} {o : Oper} {v : Value} {marks : List Nat} {val : γ → Value} {S' : γ → World → Prop}
theorem WL.r (hw : aH ops L o = some true) (hdst : o.dst = some d) (hd : Nat.blt d n = true) (h : Rd ds P o n L S v) (k : WL ds P ops Q n rest ((d, v) :: L) S) : WL ds P ops Q n (o :: rest) L S :=
  WL.rd hw (by rw [hdst]; exact hd) h (by rw [hdst]; exact k)
theorem WM.r (hw : aH ops L o = some true) (hdst : o.dst = some d) (hd : Nat.blt d n = true) (h : Rd ds P o n L C v) (k : WM ds P ops C Q n marks rest ((d, v) :: L) S) : WM ds P ops C Q n (0 :: marks) (o :: rest) L S :=
  WM.rd hw (by rw [hdst]; exact hd) h (by rw [hdst]; exact k)
theorem WM.hr (hw : aH ops L o = some true) (hdst : o.dst = some d) (hd : Nat.blt d n = true) (h : Rd ds P o n L S v) (k : WM ds P ops C Q n marks rest ((d, v) :: L) S) : WM ds P ops C Q n (2 :: marks) (o :: rest) L S :=
  WM.hard_rd hw (by rw [hdst]; exact hd) h (by rw [hdst]; exact k)
theorem WL.s (hw : aH ops L o = some false) (hdst : o.dst = some d) (hd : Nat.blt d n = true) (k : WL ds P ops Q n rest ((d, undef) :: L) S) : WL ds P ops Q n (o :: rest) L S :=
  WL.skip hw (by rw [hdst]; exact hd) (by rw [hdst]; exact k)
theorem WM.s {m : Nat} (hw : aH ops L o = some false) (hdst : o.dst = some d) (hd : Nat.blt d n = true) (k : WM ds P ops C Q n marks rest ((d, undef) :: L) S) : WM ds P ops C Q n (m :: marks) (o :: rest) L S :=
  WM.skip hw (by rw [hdst]; exact hd) (by rw [hdst]; exact k)
theorem WL.g (hw : aH ops L o = some true) (hdst : o.dst = some d) (hd : Nat.blt d n = true) (h : Og ds P o n L S val S') (k : ∀ g, WL ds P ops Q n rest ((d, val g) :: L) (S' g)) : WL ds P ops Q n (o :: rest) L S :=
  WL.op hw (by rw [hdst]; exact hd) h fun v a w hF hh => by obtain ⟨g, rfl, hS⟩ := hh; rw [hdst] at hF; exact k g a w hF hS
theorem WL.g0 (hw : aH ops L o = some true) (hdst : o.dst = none) (h : Og ds P o n L S val S') (k : ∀ g, WL ds P ops Q n rest L (S' g)) : WL ds P ops Q n (o :: rest) L S :=
  WL.op hw (by rw [hdst]; rfl) h fun v a w hF hh => by obtain ⟨g, rfl, hS⟩ := hh; rw [hdst] at hF; exact k g a w hF hS
theorem WM.g (hw : aH ops L o = some true) (hdst : o.dst = some d) (hd : Nat.blt d n = true) (h : Og ds P o n L S val S') (hC : ∀ g w, S' g w → C w) (k : ∀ g, WM ds P ops C Q n marks rest ((d, val g) :: L) (S' g)) : WM ds P ops C Q n (1 :: marks) (o :: rest) L S :=
  WM.op hw (by rw [hdst]; exact hd) h (fun v w hh => by obtain ⟨g, _, hS⟩ := hh; exact hC g w hS) fun v a w hF hh => by obtain ⟨g, rfl, hS⟩ := hh; rw [hdst] at hF; exact k g a w hF hS
theorem WM.g0 (hw : aH ops L o = some true) (hdst : o.dst = none) (h : Og ds P o n L S val S') (hC : ∀ g w, S' g w → C w) (k : ∀ g, WM ds P ops C Q n marks rest L (S' g)) : WM ds P ops C Q n (1 :: marks) (o :: rest) L S :=
  WM.op hw (by rw [hdst]; rfl) h (fun v w hh => by obtain ⟨g, _, hS⟩ := hh; exact hC g w hS) fun v a w hF hh => by obtain ⟨g, rfl, hS⟩ := hh; rw [hdst] at hF; exact k g a w hF hS
theorem WM.h (hw : aH ops L o = some true) (hdst : o.dst = some d) (hd : Nat.blt d n = true) (h : Og ds P o n L S val S') (k : ∀ g, WM ds P ops C Q n marks rest ((d, val g) :: L) (S' g)) : WM ds P ops C Q n (2 :: marks) (o :: rest) L S :=
  WM.hard hw (by rw [hdst]; exact hd) h fun v a w hF hh => by obtain ⟨g, rfl, hS⟩ := hh; rw [hdst] at hF; exact k g a w hF hS
theorem WM.h0 (hw : aH ops L o = some true) (hdst : o.dst = none) (h : Og ds P o n L S val S') (k : ∀ g, WM ds P ops C Q n marks rest L (S' g)) : WM ds P ops C Q n (2 :: marks) (o :: rest) L S :=
  WM.hard hw (by rw [hdst]; rfl) h fun v a w hF hh => by obtain ⟨g, rfl, hS⟩ := hh; rw [hdst] at hF; exact k g a w hF hS
theorem cB (h : ∀ a, Fr ds a n L → ∀ w, S w → ∃ g w', ((execOp a.eval o).run P w = .ok (.value (val g)) w' ∨ ((execOp a.eval o).run P w = .ok .skip w' ∧ val g = undef)) ∧ S' g w') : Og ds P o n L S val S' := by
  intro a w hF hS
  obtain ⟨g, w', hr, hS'⟩ := h a hF w hS
  unfold opX
  rcases hr with hr | ⟨hr, hv⟩
  · rw [hr]; exact ⟨_, rfl, g, rfl, hS'⟩
  · rw [hr]; exact ⟨undef, rfl, g, hv.symm, hS'⟩
end
section
variable {ds : List Deferred} {ρ : Option Nat} {P : Program} {o : Oper} {n : Nat} {L : an} {ok : Nat → Prop} {w0 : World} {own r : List Ent} {fs : List Fact} {x y z : Operand} {v u : Value} {t t2 e : TypeId} {k : IntKind} {i j : Int} {b off sz : Nat} {cs xs : List Value} {T : TypeId} {c : Nat}
theorem fw (w : World) (t : TypeId) (v : Value) : (newVar t v).run P w = .ok ⟨w.heap.size, 0, none⟩ (w.alloc (.cells v.cells t)) := by
  rfl
theorem oG (h : (P.info? t).bind (·.zero) = some v) (w : World) : (zeroValue t).run P w = .ok v w := by
  cases hi : P.info? t with
  | none => simp [hi] at h
  | some i => simp [hi] at h; simp [zeroValue, typeInfo, hi, h]
theorem lh (hop : o.op = .alloc t) (hz : (P.info? t).bind (·.zero) = some v) (hc : v.cells.toList = cs) : Og ds P o n L (St ok w0 own fs) (fun b : Nat => .pointer (some ⟨b, 0, none⟩)) (fun b => St ok w0 (⟨some b, cs, t⟩ :: own) fs) :=
  cB fun a hF w hS => by
    refine ⟨w.heap.size, w.alloc (.cells v.cells t), .inl ?_, ?_⟩
    · simp [execOp, hop, Instr.alloc, oG hz, fw]
    · have := hS.alloc cs t; rw [← hc] at this ⊢; simpa using this
theorem pN (hop : o.op = .box t x) (hx : ai L x = some v) (hc : v.cells.toList = cs) : Og ds P o n L (St ok w0 own fs) (fun b : Nat => .pointer (some ⟨b, 0, none⟩)) (fun b => St ok w0 (⟨some b, cs, t⟩ :: own) fs) :=
  cB fun a hF w hS => by
    refine ⟨w.heap.size, w.alloc (.cells v.cells t), .inl ?_, ?_⟩
    · simp [execOp, hop, Instr.box, hF.eval hx, fw]
    · have := hS.alloc cs t; rw [← hc] at this ⊢; simpa using this
def bn : TypeDesc → Bool
  | .struct _ | .array _ _ => true
  | _ => false
theorem dK {d : TypeDesc} (h : P.underlying t = some d) (w : World) : (isAgg t).run P w = .ok (bn d) w := by
  simp only [isAgg, Sem.run_bind, run_underlying h, Result.andThen]
  cases d <;> rfl
theorem bi (h : (P.info? t).map (·.size) = some sz) (w : World) : (sizeOf t).run P w = .ok sz w := by
  cases hi : P.info? t with
  | none => simp [hi] at h
  | some i => simp [hi] at h; simp [sizeOf, typeInfo, hi, h]
theorem DD (kk : Nat) (hop : o.op = .load t x) (hx : ai L x = some (.pointer (some ⟨b, off, none⟩))) (hk : own[kk]? = some ⟨some b, cs, T⟩) {d : TypeDesc} (hu : P.underlying t = some d) (hd : bn d = false) (hv : cs[off]? = some v) : Rd ds P o n L (St ok w0 own fs) v :=
  aI fun a hF w hS => by
    have hc := df (hS.block hk) off
    simp [execOp, hop, hF.eval hx, Instr.loadAt, Instr.sureAddr, loadVar, dK hu, hd, hc, hv]
theorem gG {w : World} {cells : Array Value} {fz : Nat × Nat} (hb : w.heap[b]? = some (.cells cells T fz)) (hxs : ∀ i, i < xs.length → cells[off + i]? = xs[i]?) {d : TypeDesc} (hu : P.underlying t = some d) (hd : bn d = true) (hs : (P.info? t).map (·.size) = some xs.length) :
    (loadVar t ⟨b, off, none⟩).run P w = .ok (.agg xs.toArray) w := by
  have hl : (loadCells ⟨b, off, none⟩ xs.length).run P w = .ok xs.toArray w :=
    run_loadCells_list (P := P) w ⟨b, off, none⟩ xs (fun j v hv => by
      have hj : j < xs.length := (Ap.1 hv).1
      rw [Addr.add_lit]; simp [World.cell?, hb, hxs j hj, hv])
  simp [loadVar, dK hu, hd, bi hs, hl]
theorem zW (kk : Nat) (hop : o.op = .load t x) (hx : ai L x = some (.pointer (some ⟨b, 0, none⟩))) (hk : own[kk]? = some ⟨some b, cs, T⟩) {d : TypeDesc} (hu : P.underlying t = some d) (hd : bn d = true) (hs : (P.info? t).map (·.size) = some cs.length) : Rd ds P o n L (St ok w0 own fs) (.agg cs.toArray) :=
  aI fun a hF w hS => by
    have := gG (P := P) (off := 0) (xs := cs) (hS.block hk) (fun i _ => by simp) hu hd hs
    simp [execOp, hop, hF.eval hx, Instr.loadAt, Instr.sureAddr, this]
theorem zT (kk : Nat) (hop : o.op = .load t x) (hx : ai L x = some (.pointer (some ⟨b, off, none⟩))) (hk : own[kk]? = some ⟨some b, cs, T⟩) {d : TypeDesc} (hu : P.underlying t = some d) (hd : bn d = true) (hs : (P.info? t).map (·.size) = some sz) (hxs : (cs.drop off).take sz = xs) (hlen : xs.length = sz) : Rd ds P o n L (St ok w0 own fs) (.agg xs.toArray) :=
  aI fun a hF w hS => by
    have := gG (P := P) (off := off) (xs := xs) (hS.block hk) (fun i hi => by rw [← hxs]; rw [Cv, Ae (by omega), Cy]; simp) hu hd (by rw [hs, hlen])
    simp [execOp, hop, hF.eval hx, Instr.loadAt, Instr.sureAddr, this]
theorem zU (kk : Nat) {off0 m : Nat} (hop : o.op = .load t x) (hx : ai L x = some (.pointer (some ⟨b, off, none⟩))) (hk : fs[kk]? = some (Fact.sl (some ⟨b, off0, none⟩) xs)) {d : TypeDesc} (hu : P.underlying t = some d) (hd : bn d = false) (hm : off = off0 + m) (hv : xs[m]? = some v) : Rd ds P o n L (St ok w0 own fs) v :=
  aI fun a hF w hS => by
    have hlt : m < xs.length := (Ap.1 hv).1
    rcases hS.holds hk with h0 | ⟨b', off', cells, T', fz, e1, _, e3, e4⟩
    · subst h0; simp at hlt
    · simp only [Option.some.injEq, Addr.mk.injEq, and_true] at e1
      obtain ⟨rfl, rfl⟩ := e1
      have hc : w.cell? ⟨b, off, none⟩ = some v := by simp [World.cell?, e3, hm, e4 m hlt, hv]
      simp [execOp, hop, hF.eval hx, Instr.loadAt, Instr.sureAddr, loadVar, dK hu, hd, hc]
theorem xq (kk : Nat) {off0 m : Nat} {ys : List Value} (hop : o.op = .load t x) (hx : ai L x = some (.pointer (some ⟨b, off, none⟩))) (hk : fs[kk]? = some (Fact.sl (some ⟨b, off0, none⟩) xs)) {d : TypeDesc} (hu : P.underlying t = some d) (hd : bn d = true) (hs : (P.info? t).map (·.size) = some sz) (hm : off = off0 + m) (hys : (xs.drop m).take sz = ys) (hlen : ys.length = sz) (h0 : 0 < sz) : Rd ds P o n L (St ok w0 own fs) (.agg ys.toArray) :=
  aI fun a hF w hS => by
    rcases hS.holds hk with h0' | ⟨b', off', cells, T', fz, e1, _, e3, e4⟩
    · subst h0'; simp at hys; subst hys; simp at hlen; omega
    · simp only [Option.some.injEq, Addr.mk.injEq, and_true] at e1
      obtain ⟨rfl, rfl⟩ := e1
      have hml : m + sz ≤ xs.length := by
        have : ys.length = min sz (xs.length - m) := by rw [← hys]; simp
        omega
      have := gG (P := P) (off := off) (xs := ys) e3 (fun i hi => by
        rw [hm, Cl, e4 (m + i) (by omega), ← hys, Cv, Ae (by omega), Cy]) hu hd (by rw [hs, hlen])
      simp [execOp, hop, hF.eval hx, Instr.loadAt, Instr.sureAddr, this]
theorem DF {len cap q : Nat} (hop : o.op = .indexAddr t x y) (hx : ai L x = some (.slice (some ⟨b, off, none⟩) len cap)) (hy : ai L y = some (.int k i)) (hu : P.underlying t = some (.slice e)) (hs : (P.info? e).map (·.size) = some sz) (hb : 0 ≤ i ∧ i < (len : Int)) (hq : off + i.toNat * sz = q) : Rd ds P o n L (St ok w0 own fs) (.pointer (some ⟨b, q, none⟩)) :=
  aI fun a hF w hS => by
    simp [execOp, hop, hF.eval hx, hF.eval hy, Instr.indexAt, asIntOf, run_underlying hu, hb, bi hs, Addr.add_lit, hq]
theorem zX {len q : Nat} (hop : o.op = .indexAddr t x y) (hx : ai L x = some (.pointer (some ⟨b, off, none⟩))) (hy : ai L y = some (.int k i)) (hu : P.underlying t = some (.array len e)) (hs : (P.info? e).map (·.size) = some sz) (hb : 0 ≤ i ∧ i < (len : Int)) (hq : off + i.toNat * sz = q) : Rd ds P o n L (St ok w0 own fs) (.pointer (some ⟨b, q, none⟩)) :=
  aI fun a hF w hS => by
    simp [execOp, hop, hF.eval hx, hF.eval hy, Instr.indexAt, Instr.sureAddr, asIntOf, run_underlying hu, hb, bi hs, Addr.add_lit, hq]
theorem cA {f : Nat} {flds : Array Field} {fd : Field} {q : Nat} (hop : o.op = .fieldAddr t x f) (hx : ai L x = some (.pointer (some ⟨b, off, none⟩))) (hu : P.underlying t = some (.struct flds)) (hf : flds[f]? = some fd) (hs : ((P.info? fd.type).map (fun i => decide (0 < i.size))) = some true) (hq : off + fd.offset = q) : Rd ds P o n L (St ok w0 own fs) (.pointer (some ⟨b, q, none⟩)) :=
  aI fun a hF w hS => by
    obtain ⟨i, hi, hi'⟩ := C1.1 hs
    have hne : ¬ i.size = 0 := by simp at hi'; omega
    simp [execOp, hop, hF.eval hx, Instr.fieldAt, Instr.sureAddr, run_underlying hu, hf, fieldPlace, sizeOf, typeInfo, hi, hne, Addr.add_lit, hq]
theorem qy {len : Nat} {d : TypeDesc} (hop : o.op = .index t x y) (hx : ai L x = some (.agg cs.toArray)) (hy : ai L y = some (.int k i)) (hu : P.underlying t = some (.array len e)) (hd : P.underlying e = some d) (ha : bn d = false) (hs : (P.info? e).map (·.size) = some 1) (hb : 0 ≤ i ∧ i < (len : Int)) (hv : cs[i.toNat]? = some v) : Rd ds P o n L (St ok w0 own fs) v :=
  aI fun a hF w hS => by simp [execOp, hop, hF.eval hx, hF.eval hy, Instr.index, asIntOf, run_underlying hu, hb, bi hs, part, dK hd, ha, hv]
def cut (ad : Option Addr) (l m sz : Nat) : Option Addr := if m = l then ad else ad.map (·.add (l * sz))
theorem zP {ad : Option Addr} {len cap : Nat} {lo hi : Operand} {k' : IntKind} (hop : o.op = .slice t x (some lo) (some hi) none) (hx : ai L x = some (.slice ad len cap)) (hl : ai L lo = some (.int k i)) (hh : ai L hi = some (.int k' j)) (hu : P.underlying t = some (.slice e)) (hs : (P.info? e).map (·.size) = some sz)
    (hb : 0 ≤ i ∧ i ≤ j ∧ j ≤ (cap : Int)) {q1 q2 q3 : Nat} (h1 : i.toNat = q1) (h2 : j.toNat - q1 = q2) (h3 : cap - q1 = q3) : Rd ds P o n L (St ok w0 own fs) (.slice (cut ad q1 cap sz) q2 q3) :=
  aI fun a hF w hS => by
    subst h1 h2 h3
    have e1 := cQ (P := P) (k := k') (i := j) (y' := cap) (c := .sliceAcap) (by omega) w
    have e2 := cQ (P := P) (k := k) (i := i) (y' := j.toNat) (c := .sliceB) (by omega) w
    simp [execOp, hop, hF.eval hx, hF.eval hl, hF.eval hh, Instr.sliceAt, Instr.slice, run_underlying hu, Instr.sliceBounds, e1, e2, bi hs, cut]
theorem kT {ad : Option Addr} {len cap : Nat} {lo : Operand} (hop : o.op = .slice t x (some lo) none none) (hx : ai L x = some (.slice ad len cap)) (hl : ai L lo = some (.int k i)) (hu : P.underlying t = some (.slice e)) (hs : (P.info? e).map (·.size) = some sz)
    (hb : 0 ≤ i ∧ i ≤ (len : Int)) {q1 q2 q3 : Nat} (h1 : i.toNat = q1) (h2 : len - q1 = q2) (h3 : cap - q1 = q3) : Rd ds P o n L (St ok w0 own fs) (.slice (cut ad q1 cap sz) q2 q3) :=
  aI fun a hF w hS => by
    subst h1 h2 h3
    have e2 := cQ (P := P) (k := k) (i := i) (y' := len) (c := .sliceB) (by omega) w
    simp [execOp, hop, hF.eval hx, hF.eval hl, Instr.sliceAt, Instr.slice, run_underlying hu, Instr.sliceBounds, e2, bi hs, cut]
theorem t8 {ad : Option Addr} {len cap : Nat} {hi : Operand} (hop : o.op = .slice t x none (some hi) none) (hx : ai L x = some (.slice ad len cap)) (hh : ai L hi = some (.int k j)) (hu : P.underlying t = some (.slice e)) (hs : (P.info? e).map (·.size) = some sz)
    (hb : 0 ≤ j ∧ j ≤ (cap : Int)) {q2 : Nat} (h2 : j.toNat = q2) : Rd ds P o n L (St ok w0 own fs) (.slice ad q2 cap) :=
  aI fun a hF w hS => by
    subst h2
    have e1 := cQ (P := P) (k := k) (i := j) (y' := cap) (c := .sliceAcap) (by omega) w
    cases ad <;> simp [execOp, hop, hF.eval hx, hF.eval hh, Instr.sliceAt, Instr.slice, run_underlying hu, Instr.sliceBounds, e1, bi hs, Addr.add]
theorem eP {len : Nat} (hop : o.op = .slice t x none none none) (hx : ai L x = some (.pointer (some ⟨b, off, none⟩))) (hu : P.underlying t = some (.array len e)) (hs : (P.info? e).map (·.size) = some sz) : Rd ds P o n L (St ok w0 own fs) (.slice (some ⟨b, off, none⟩) len len) :=
  aI fun a hF w hS => by simp [execOp, hop, hF.eval hx, Instr.sliceAt, Instr.sureAddr, run_underlying hu, Instr.sliceBounds, bi hs, Addr.add]
theorem xk {len : Nat} {lo : Operand} (hop : o.op = .slice t x (some lo) none none) (hx : ai L x = some (.pointer (some ⟨b, off, none⟩))) (hl : ai L lo = some (.int k i)) (hu : P.underlying t = some (.array len e)) (hs : (P.info? e).map (·.size) = some sz)
    (hb : 0 ≤ i ∧ i < (len : Int)) {q1 q2 q3 : Nat} (h1 : off + i.toNat * sz = q1) (h2 : len - i.toNat = q2) (h3 : len - i.toNat = q3) : Rd ds P o n L (St ok w0 own fs) (.slice (some ⟨b, q1, none⟩) q2 q3) :=
  aI fun a hF w hS => by
    subst h1 h2 h3
    have e2 := cQ (P := P) (k := k) (i := i) (y' := len) (c := .sliceB) (by omega) w
    have : ¬ len = i.toNat := by omega
    simp [execOp, hop, hF.eval hx, hF.eval hl, Instr.sliceAt, Instr.sureAddr, run_underlying hu, Instr.sliceBounds, e2, bi hs, this, Addr.add_lit]
theorem qv {len : Nat} {hi : Operand} (hop : o.op = .slice t x none (some hi) none) (hx : ai L x = some (.pointer (some ⟨b, off, none⟩))) (hh : ai L hi = some (.int k j)) (hu : P.underlying t = some (.array len e)) (hs : (P.info? e).map (·.size) = some sz)
    (hb : 0 ≤ j ∧ j ≤ (len : Int)) {q2 : Nat} (h2 : j.toNat = q2) : Rd ds P o n L (St ok w0 own fs) (.slice (some ⟨b, off, none⟩) q2 len) :=
  aI fun a hF w hS => by
    subst h2
    have e1 := cQ (P := P) (k := k) (i := j) (y' := len) (c := .sliceAlen) (by omega) w
    simp [execOp, hop, hF.eval hx, hF.eval hh, Instr.sliceAt, Instr.sureAddr, run_underlying hu, Instr.sliceBounds, e1, bi hs, Addr.add]
theorem wO {w : World} (hb : w.heap[b]? = some (.cells cs.toArray T (0, 0))) (hs : (P.info? t).map (·.size) = some 1) (h1 : v.oneCell' = true) (hoff : off < cs.length) : (storeVar t ⟨b, off, none⟩ v).run P w = .ok () (w.setRow b (cs.set off v).toArray) := by
  have hc : v.cells = #[v] := by cases v <;> simp_all [Value.cells, Value.oneCell']
  have := run_storeCells_at P b off T [v] 0 cs.toArray w hb (by simp; omega) (by simpa using h1)
  have e : cs.take off ++ [v] ++ cs.drop (off + 1) = cs.set off v := by
    rw [List.set_eq_take_append_cons_drop, Ae hoff]; simp
  simp only [List.length_singleton, Bd, e] at this
  simp [storeVar, bi hs, hc, this]
theorem DI (kk : Nat) (hop : o.op = .store t x y) (hx : ai L x = some (.pointer (some ⟨b, off, none⟩))) (hy : ai L y = some v) (hk : own[kk]? = some ⟨some b, cs, T⟩) (hs : (P.info? t).map (·.size) = some 1) (h1 : v.oneCell' = true) (hoff : off < cs.length) :
    Og ds P o n L (St ok w0 own fs) (fun _ : Unit => undef) (fun _ => St ok w0 (own.set kk ⟨some b, cs.set off v, T⟩) fs) :=
  cB fun a hF w hS => ⟨(), _, .inr ⟨by simp [execOp, hop, hF.eval hx, hF.eval hy, Instr.storeAt, Instr.sureAddr, wO (P := P) (hS.block hk) hs h1 hoff], rfl⟩, hS.setRow hk _⟩
theorem qn {w : World} (hb : w.heap[b]? = some (.cells cs.toArray T (0, 0))) (hs : (P.info? t).map (·.size) = some xs.length) (h1 : ∀ v ∈ xs, v.oneCell' = true) (hoff : off + xs.length ≤ cs.length) : (storeVar t ⟨b, off, none⟩ (.agg xs.toArray)).run P w = .ok () (w.setRow b (cs.take off ++ xs ++ cs.drop (off + xs.length)).toArray) := by
  have := run_storeCells_at P b off T xs 0 cs.toArray w hb (by simpa using hoff) h1
  simp only [Bd] at this
  simp [storeVar, bi hs, Value.cells, this]
theorem AM (kk : Nat) (hop : o.op = .store t x y) (hx : ai L x = some (.pointer (some ⟨b, 0, none⟩))) (hy : ai L y = some (.agg xs.toArray)) (hk : own[kk]? = some ⟨some b, cs, T⟩) (hs : (P.info? t).map (·.size) = some xs.length) (h1 : ∀ v ∈ xs, v.oneCell' = true) (hl : xs.length = cs.length) :
    Og ds P o n L (St ok w0 own fs) (fun _ : Unit => undef) (fun _ => St ok w0 (own.set kk ⟨some b, xs, T⟩) fs) :=
  cB fun a hF w hS => by
    have := qn (P := P) (off := 0) (hS.block hk) hs h1 (by omega)
    simp only [Bz, List.nil_append, A3, hl, List.drop_length, A5] at this
    exact ⟨(), _, .inr ⟨by simp [execOp, hop, hF.eval hx, hF.eval hy, Instr.storeAt, Instr.sureAddr, this], rfl⟩, hS.setRow hk _⟩
theorem AL (kk : Nat) {ys : List Value} (hop : o.op = .store t x y) (hx : ai L x = some (.pointer (some ⟨b, off, none⟩))) (hy : ai L y = some (.agg xs.toArray)) (hk : own[kk]? = some ⟨some b, cs, T⟩) (hs : (P.info? t).map (·.size) = some xs.length) (h1 : ∀ v ∈ xs, v.oneCell' = true) (hl : off + xs.length ≤ cs.length) (hys : cs.take off ++ xs ++ cs.drop (off + xs.length) = ys) :
    Og ds P o n L (St ok w0 own fs) (fun _ : Unit => undef) (fun _ => St ok w0 (own.set kk ⟨some b, ys, T⟩) fs) :=
  cB fun a hF w hS => by
    subst hys
    have := qn (P := P) (off := off) (hS.block hk) hs h1 hl
    exact ⟨(), _, .inr ⟨by simp [execOp, hop, hF.eval hx, hF.eval hy, Instr.storeAt, Instr.sureAddr, this], rfl⟩, hS.setRow hk _⟩
theorem dU (z : Value) (m : Nat) : (madeCells #[z] m).toList = List.replicate m z := toList_madeCells_one z m
theorem ed {k1 k2 : IntKind} {l c' : Int} {zv : Value} (hop : o.op = .makeSlice t x y) (hx : ai L x = some (.int k1 l)) (hy : ai L y = some (.int k2 c')) (hu : P.underlying t = some (.slice e)) (hi : (P.info? e).map (fun i => (i.zero, i.size, i.bytes)) = some (some zv, 1, sz)) (h1 : zv.cells = #[zv])
    (hb : 0 ≤ l ∧ l ≤ c' ∧ (sz : Int) * c' ≤ 281474976710656 ∧ c' ≤ 9223372036854775807) {q1 q2 : Nat} (hq1 : l.toNat = q1) (hq2 : c'.toNat = q2) :
    Og ds P o n L (St ok w0 own fs) (fun b : Nat => .slice (some ⟨b, 0, none⟩) q1 q2) (fun b => St ok w0 (⟨some b, List.replicate q2 zv, e⟩ :: own) fs) :=
  cB fun a hF w hS => by
    subst hq1 hq2
    obtain ⟨i', hi', hz, hs, hbb⟩ := info_parts hi
    have hrun := run_make (P := P) w t e i' zv hu hi' hz k1 k2 l c' hb.1 hb.2.1 (by rw [hbb]; exact hb.2.2.1) hb.2.2.2
    refine ⟨w.heap.size, w.alloc (.cells (madeCells zv.cells (c'.toNat * i'.size)) e), .inl ?_, ?_⟩
    · simp [execOp, hop, hF.eval hx, hF.eval hy, hrun]
    · have := hS.alloc (List.replicate c'.toNat zv) e
      rw [h1, hs, As]
      have e1 : (madeCells #[zv] c'.toNat) = (List.replicate c'.toNat zv).toArray := by rw [← dU]
      rw [e1]; exact this
def Src (w : World) (v : Value) (m : Nat) (news : List Value) : Prop := ∃ ad c, v = .slice ad m c ∧ (ad = none → m = 0 ∧ c = 0) ∧ ∀ a, ad = some a → ∀ q u, news[q]? = some u → w.cell? (a.add q) = some u
theorem iy (zv : Value) (m : Nat) : (Builtin.zeroCells #[zv] m).toList = List.replicate m zv := by
  simp [Builtin.zeroCells]
  apply Ef ; intro q
  simp [List.getElem?_replicate]
  by_cases h : q < m
  · simp [h, Db, Nat.mod_one]
  · simp [h, Db]
structure App where
  b : Nat
  cap : Nat
  spare : List Value
theorem qs {w : World} {own : List Ent} {kk : Nat} {ob : Option Nat} {len cap : Nat} {news : List Value} {zv : Value} {src : Value} {m : Nat} {ty : TypeId} (hS : St ok w0 own fs w) (hk : own[kk]? = some ⟨ob, cs, e⟩)
    (hu : P.underlying t = some (.slice e)) (hi : (P.info? e).map (fun i => (i.zero, i.size, i.bytes)) = some (some zv, 1, sz)) (h1 : zv.cells = #[zv])
    (hlen : len ≤ cap) (hcap : cap = cs.length) (hsrc : Src w src m news) (hm : news.length = m) (h1c : ∀ u ∈ news, u.oneCell' = true) (hpos : 0 < m)
    (h63 : len + m ≤ 9223372036854775807) (hb : (len + m) * sz ≤ 140737488355328) :
    ∃ (g : App) (w' : World), (Builtin.append_ #[t, t] ty #[.slice (ob.map fun b => ⟨b, 0, none⟩) len cap, src]).run P w = .ok (.slice (some ⟨g.b, 0, none⟩) (len + m) g.cap) w' ∧ (len + m ≤ g.cap ∧ g.cap = (cs.take len ++ news ++ g.spare).length) ∧ St ok w0 (own.set kk ⟨some g.b, cs.take len ++ news ++ g.spare, e⟩) fs w' := by
  obtain ⟨i', hi', hz, hs, hbb⟩ := info_parts hi
  obtain ⟨ad, c', rfl, hnone, hcell⟩ := hsrc
  cases ad with
  | none => have := (hnone rfl).1; omega
  | some a =>
  have hnews := hcell a rfl
  have hl : news.length = m * i'.size := by rw [hs, As]; exact hm
  have zlen : ∀ q, (Builtin.zeroCells zv.cells q).toList = List.replicate q zv := fun q => by rw [h1]; exact iy zv q
  cases ob with
  | none =>
    have hcs : cs = [] := hS.own_ _ (A9 hk)
    subst hcs
    have hc0 : cap = 0 := by simpa using hcap
    subst hc0
    have hl0 : len = 0 := by omega
    subst hl0
    have hrun := run_append_nil (P := P) w t ty e i' zv hu hi' hz a m c' news hl hnews hpos (by omega) (by rw [hbb]; rw [A3] at hb; omega)
    refine ⟨⟨w.heap.size, grownCap w m 0 e, List.replicate (grownCap w m 0 e - m) zv⟩, _, by simpa using hrun, ⟨?_, ?_⟩, ?_⟩
    · simpa using grownCap_ge w m 0 e
    · have := grownCap_ge w m 0 e; simp; omega
    · have := (hS.draw.alloc (news ++ List.replicate (grownCap w m 0 e - m) zv) e).replace kk
      have e1 : (news.toArray ++ Builtin.zeroCells zv.cells (grownCap w m 0 e - m)) = (news ++ List.replicate (grownCap w m 0 e - m) zv).toArray := by
        apply Array.ext'; simp [zlen]
      simp only [List.take_nil, List.nil_append]
      rw [e1]; exact this
  | some b' =>
    have hbk := hS.block hk
    have hlc : len ≤ cs.length := by omega
    by_cases hroom : len + m ≤ cap
    · have hrun := run_append_room (P := P) w t ty e i' hu hi' b' len cap cs.toArray hbk a m c' news hl hnews h1c hroom (by rw [hs]; simp; omega)
      refine ⟨⟨b', cap, cs.drop (len + m)⟩, _, hrun, ⟨hroom, ?_⟩, ?_⟩
      · simp; omega
      · have := hS.setRow hk (cs.take len ++ news ++ cs.drop (len + m))
        rw [hs]; simp only [As, hm]; exact this
    · have hrun := run_append_grow (P := P) w t ty e i' zv hu hi' hz ⟨b', 0, none⟩ len cap (cs.take len) (by rw [hs]; simp; omega) (fun q u hq => by
          rw [Addr.add_lit, A3, df hbk]
          rw [Cv] at hq; split at hq
          · exact hq
          · cases hq) a m c' news hl hnews (by omega) (by omega) (by rw [hbb]; exact growslice_fits (by omega) hb)
      refine ⟨⟨w.heap.size, grownCap w (len + m) cap e, List.replicate (grownCap w (len + m) cap e - (len + m)) zv⟩, _, hrun, ⟨grownCap_ge _ _ _ _, ?_⟩, ?_⟩
      · have := grownCap_ge w (len + m) cap e; simp; omega
      · have := (hS.draw.alloc (cs.take len ++ news ++ List.replicate (grownCap w (len + m) cap e - (len + m)) zv) e).replace kk
        have e1 : ((cs.take len).toArray ++ news.toArray ++ Builtin.zeroCells zv.cells (grownCap w (len + m) cap e - (len + m))) = (cs.take len ++ news ++ List.replicate (grownCap w (len + m) cap e - (len + m)) zv).toArray := by
          apply Array.ext'; simp [zlen]
        rw [e1]; exact this
end
inductive InE : List Ent → Ent → Prop
  | here {x : Ent} {r : List Ent} : InE (x :: r) x
  | there {x y : Ent} {r : List Ent} (h : InE r x) : InE (y :: r) x
inductive Ctx : List Ent → Ent → (Ent → List Ent) → Prop
  | here {x : Ent} {r : List Ent} : Ctx (x :: r) x (fun y => y :: r)
  | there {x z : Ent} {r : List Ent} {C : Ent → List Ent} (h : Ctx r x C) : Ctx (z :: r) x (fun y => z :: C y)
inductive InF : List Fact → Fact → Prop
  | here {x : Fact} {r : List Fact} : InF (x :: r) x
  | there {x y : Fact} {r : List Fact} (h : InF r x) : InF (y :: r) x
theorem InE.t1 {x z0 : Ent} {r : List Ent} : InE (z0 :: x :: r) x := .there .here
theorem InE.t2 {x z0 z1 : Ent} {r : List Ent} : InE (z0 :: z1 :: x :: r) x := .there (.there .here)
theorem InE.t3 {x z0 z1 z2 : Ent} {r : List Ent} : InE (z0 :: z1 :: z2 :: x :: r) x := .there (.there (.there .here))
theorem InE.t4 {x z0 z1 z2 z3 : Ent} {r : List Ent} : InE (z0 :: z1 :: z2 :: z3 :: x :: r) x := .there (.there (.there (.there .here)))
theorem InE.t5 {x z0 z1 z2 z3 z4 : Ent} {r : List Ent} : InE (z0 :: z1 :: z2 :: z3 :: z4 :: x :: r) x := .there (.there (.there (.there (.there .here))))
theorem InE.t6 {x z0 z1 z2 z3 z4 z5 : Ent} {r : List Ent} : InE (z0 :: z1 :: z2 :: z3 :: z4 :: z5 :: x :: r) x := .there (.there (.there (.there (.there (.there .here)))))
theorem InE.t7 {x z0 z1 z2 z3 z4 z5 z6 : Ent} {r : List Ent} : InE (z0 :: z1 :: z2 :: z3 :: z4 :: z5 :: z6 :: x :: r) x := .there (.there (.there (.there (.there (.there (.there .here))))))
theorem InF.t1 {x z0 : Fact} {r : List Fact} : InF (z0 :: x :: r) x := .there .here
theorem InF.t2 {x z0 z1 : Fact} {r : List Fact} : InF (z0 :: z1 :: x :: r) x := .there (.there .here)
theorem InF.t3 {x z0 z1 z2 : Fact} {r : List Fact} : InF (z0 :: z1 :: z2 :: x :: r) x := .there (.there (.there .here))
theorem InF.t4 {x z0 z1 z2 z3 : Fact} {r : List Fact} : InF (z0 :: z1 :: z2 :: z3 :: x :: r) x := .there (.there (.there (.there .here)))
theorem InF.t5 {x z0 z1 z2 z3 z4 : Fact} {r : List Fact} : InF (z0 :: z1 :: z2 :: z3 :: z4 :: x :: r) x := .there (.there (.there (.there (.there .here))))
theorem InF.t6 {x z0 z1 z2 z3 z4 z5 : Fact} {r : List Fact} : InF (z0 :: z1 :: z2 :: z3 :: z4 :: z5 :: x :: r) x := .there (.there (.there (.there (.there (.there .here)))))
theorem InF.t7 {x z0 z1 z2 z3 z4 z5 z6 : Fact} {r : List Fact} : InF (z0 :: z1 :: z2 :: z3 :: z4 :: z5 :: z6 :: x :: r) x := .there (.there (.there (.there (.there (.there (.there .here))))))
theorem Ctx.t1 {x z0 : Ent} {r : List Ent} : Ctx (z0 :: x :: r) x (fun y => z0 :: y :: r) := .there .here
theorem Ctx.t2 {x z0 z1 : Ent} {r : List Ent} : Ctx (z0 :: z1 :: x :: r) x (fun y => z0 :: z1 :: y :: r) := .there (.there .here)
theorem Ctx.t3 {x z0 z1 z2 : Ent} {r : List Ent} : Ctx (z0 :: z1 :: z2 :: x :: r) x (fun y => z0 :: z1 :: z2 :: y :: r) := .there (.there (.there .here))
theorem Ctx.t4 {x z0 z1 z2 z3 : Ent} {r : List Ent} : Ctx (z0 :: z1 :: z2 :: z3 :: x :: r) x (fun y => z0 :: z1 :: z2 :: z3 :: y :: r) := .there (.there (.there (.there .here)))
theorem Ctx.t5 {x z0 z1 z2 z3 z4 : Ent} {r : List Ent} : Ctx (z0 :: z1 :: z2 :: z3 :: z4 :: x :: r) x (fun y => z0 :: z1 :: z2 :: z3 :: z4 :: y :: r) := .there (.there (.there (.there (.there .here))))
theorem Ctx.t6 {x z0 z1 z2 z3 z4 z5 : Ent} {r : List Ent} : Ctx (z0 :: z1 :: z2 :: z3 :: z4 :: z5 :: x :: r) x (fun y => z0 :: z1 :: z2 :: z3 :: z4 :: z5 :: y :: r) := .there (.there (.there (.there (.there (.there .here)))))
theorem Ctx.t7 {x z0 z1 z2 z3 z4 z5 z6 : Ent} {r : List Ent} : Ctx (z0 :: z1 :: z2 :: z3 :: z4 :: z5 :: z6 :: x :: r) x (fun y => z0 :: z1 :: z2 :: z3 :: z4 :: z5 :: z6 :: y :: r) := .there (.there (.there (.there (.there (.there (.there .here))))))
theorem InE.get {own : List Ent} {x : Ent} (h : InE own x) : ∃ k : Nat, own[k]? = some x := by
  induction h with
  | here => exact ⟨0, rfl⟩
  | there _ ih => obtain ⟨k, hk⟩ := ih; exact ⟨k + 1, by simpa using hk⟩
theorem Ctx.get {own : List Ent} {x : Ent} {C : Ent → List Ent} (h : Ctx own x C) : ∃ k : Nat, own[k]? = some x ∧ ∀ y, C y = own.set k y := by
  induction h with
  | here => exact ⟨0, rfl, fun _ => rfl⟩
  | there _ ih => obtain ⟨k, hk, e⟩ := ih; exact ⟨k + 1, by simpa using hk, fun y => by show _ :: _ = _; rw [e y]; rfl⟩
theorem InF.get {fs : List Fact} {x : Fact} (h : InF fs x) : ∃ k : Nat, fs[k]? = some x := by
  induction h with
  | here => exact ⟨0, rfl⟩
  | there _ ih => obtain ⟨k, hk⟩ := ih; exact ⟨k + 1, by simpa using hk⟩
def eB (L : an) : List Operand → Option (List Value)
  | [] => some []
  | x :: xs => match ai L x, eB L xs with
    | some v, some vs => some (v :: vs)
    | _, _ => none
theorem dl {ds : List Deferred} {a : Act} {n : Nat} {L : an} (hF : Fr ds a n L) : ∀ {xs : List Operand} {vs : List Value}, eB L xs = some vs → xs.map a.eval = vs
  | [], vs, h => by simpa [eB] using h
  | x :: xs, vs, h => by
    simp only [eB] at h
    split at h
    · rename_i v vs' h1 h2
      simp only [Option.some.injEq] at h
      rw [Ds, hF.eval h1, dl hF h2, h]
    · cases h
def ey (P : Program) (f : FuncId) : Bool :=
  match P.funcs[f]? with
  | some fn => fn.body.isSome && !(fn.name == "runtime.NumGoroutine")
  | none => false
theorem ef {P : Program} {f : FuncId} (h : ey P f = true) (args : Array Value) (w : World) : (callFunc f args).run P w = .ok (.enter f args) w := by
  unfold ey at h
  split at h
  · rename_i fn hf
    simp only [Dl, C4] at h
    have hb : fn.body.isNone = false := by cases hbb : fn.body <;> simp_all
    simp only [callFunc, Sem.run_bind, run_program, Result.andThen, hf, h.2, hb]
    rfl
  · cases h
section
variable {ds : List Deferred} {ρ : Option Nat} {P : Program} {o : Oper} {n : Nat} {L : an} {ok : Nat → Prop} {w0 : World} {own r : List Ent} {C : Ent → List Ent} {fs : List Fact} {x y z : Operand} {v u : Value} {t t2 e : TypeId} {k : IntKind} {i j : Int} {b off sz : Nat} {cs xs ys : List Value} {T : TypeId}
variable {γ : Type} {Z : World → Prop} {val : γ → Value} {Z' : γ → World → Prop}
theorem kf {f : FuncId} {as0 : List Operand} {tys : Array TypeId} {args : List Value} (hop : o.op = .call { callee := .value (.func f), args := as0.toArray, argTypes := tys }) (hargs : eB L as0 = some args) (hg : ey P f = true)
    (h : ∀ w, Z w → Calls P f args.toArray w (fun e w' => ∃ g, e = .returned (val g) ∧ Z' g w')) : Og ds P o n L Z val Z' := by
  intro a w hF hS
  unfold opX
  have e1 : (execOp a.eval o).run P w = .ok (.enter f args.toArray) w := by
    have ha := dl hF hargs
    simp only [execOp, hop, resolve, Act.eval, Deferred.ofValue, invoke]
    simp [ef hg, ha]
  rw [e1]
  refine ⟨fun h => absurd h (by decide), callsIn_wide.2 (Calls.mono (h w hS) fun e w' hh => ?_)⟩
  obtain ⟨g, rfl, hS'⟩ := hh
  exact ⟨_, rfl, g, rfl, hS'⟩
theorem a6 {c : Operand} {f : FuncId} {first caps : Array Value} {as0 : List Operand} {tys : Array TypeId} {args : List Value} (hop : o.op = .call { callee := .value c, args := as0.toArray, argTypes := tys }) (hc : ai L c = some (.func (.func f) first caps)) (hargs : eB L as0 = some args) (hg : ey P f = true)
    {all : Array Value} (hall : first ++ args.toArray ++ caps = all) (h : ∀ w, Z w → Calls P f all w (fun e w' => ∃ g, e = .returned (val g) ∧ Z' g w')) : Og ds P o n L Z val Z' := by
  intro a w hF hS
  unfold opX
  have e1 : (execOp a.eval o).run P w = .ok (.enter f all) w := by
    have ha := dl hF hargs
    have hm : Array.map a.eval as0.toArray = args.toArray := by simp [ha]
    simp only [execOp, hop, resolve, hF.eval hc, Deferred.ofValue, invoke]
    simp [ef hg, ha, ← hall]
  rw [e1]
  refine ⟨fun h => absurd h (by decide), callsIn_wide.2 (Calls.mono (h w hS) fun e w' hh => ?_)⟩
  obtain ⟨g, rfl, hS'⟩ := hh
  exact ⟨_, rfl, g, rfl, hS'⟩
theorem gm {f : FuncId} {args : Array Value} (h : ∀ w, St ok w0 own fs w → Calls P f args w (fun e w' => e = .returned v ∧ Below w.heap.size w w')) :
    ∀ w, St ok w0 own fs w → Calls P f args w (fun e w' => ∃ _g : Unit, e = .returned v ∧ St ok w0 own fs w') :=
  fun w hS => (h w hS).mono fun _ _ ⟨he, hb⟩ => ⟨(), he, hS.keep hb⟩
theorem ld (hop : o.op = .load t x) (hx : ai L x = some (.pointer (some ⟨b, off, none⟩))) (hk : InE own ⟨some b, cs, T⟩) {d : TypeDesc} (hu : P.underlying t = some d) (hd : bn d = false) (hv : cs[off]? = some v) : Rd ds P o n L (St ok w0 own fs) v := by
  obtain ⟨kk, hk⟩ := hk.get; exact DD kk hop hx hk hu hd hv
theorem lda (hop : o.op = .load t x) (hx : ai L x = some (.pointer (some ⟨b, 0, none⟩))) (hk : InE own ⟨some b, cs, T⟩) {d : TypeDesc} (hu : P.underlying t = some d) (hd : bn d = true) (hs : (P.info? t).map (·.size) = some cs.length) : Rd ds P o n L (St ok w0 own fs) (.agg cs.toArray) := by
  obtain ⟨kk, hk⟩ := hk.get; exact zW kk hop hx hk hu hd hs
theorem ldp (hop : o.op = .load t x) (hx : ai L x = some (.pointer (some ⟨b, off, none⟩))) (hk : InE own ⟨some b, cs, T⟩) {d : TypeDesc} (hu : P.underlying t = some d) (hd : bn d = true) (hs : (P.info? t).map (·.size) = some sz) (hxs : (cs.drop off).take sz = xs) (hlen : xs.length = sz) : Rd ds P o n L (St ok w0 own fs) (.agg xs.toArray) := by
  obtain ⟨kk, hk⟩ := hk.get; exact zT kk hop hx hk hu hd hs hxs hlen
theorem ldf {off0 m : Nat} (hop : o.op = .load t x) (hx : ai L x = some (.pointer (some ⟨b, off, none⟩))) (hk : InF fs (Fact.sl (some ⟨b, off0, none⟩) xs)) {d : TypeDesc} (hu : P.underlying t = some d) (hd : bn d = false) (hm : off = off0 + m) (hv : xs[m]? = some v) : Rd ds P o n L (St ok w0 own fs) v := by
  obtain ⟨kk, hk⟩ := hk.get; exact zU kk hop hx hk hu hd hm hv
theorem pT {off0 m : Nat} (hop : o.op = .load t x) (hx : ai L x = some (.pointer (some ⟨b, off, none⟩))) (hk : InF fs (Fact.sl (some ⟨b, off0, none⟩) xs)) {d : TypeDesc} (hu : P.underlying t = some d) (hd : bn d = true) (hs : (P.info? t).map (·.size) = some sz) (hm : off = off0 + m) (hys : (xs.drop m).take sz = ys) (hlen : ys.length = sz) (h0 : 0 < sz) : Rd ds P o n L (St ok w0 own fs) (.agg ys.toArray) := by
  obtain ⟨kk, hk⟩ := hk.get; exact xq kk hop hx hk hu hd hs hm hys hlen h0
theorem st (hop : o.op = .store t x y) (hx : ai L x = some (.pointer (some ⟨b, off, none⟩))) (hy : ai L y = some v) (hk : Ctx own ⟨some b, cs, T⟩ C) (hs : (P.info? t).map (·.size) = some 1) (h1 : v.oneCell' = true) (hoff : off < cs.length) (hxs : cs.set off v = xs) :
    Og ds P o n L (St ok w0 own fs) (fun _ : Unit => undef) (fun _ => St ok w0 (C ⟨some b, xs, T⟩) fs) := by
  subst hxs; obtain ⟨kk, hk', hC⟩ := hk.get; rw [hC]; exact DI kk hop hx hy hk' hs h1 hoff
theorem sta (hop : o.op = .store t x y) (hx : ai L x = some (.pointer (some ⟨b, 0, none⟩))) (hy : ai L y = some (.agg xs.toArray)) (hk : Ctx own ⟨some b, cs, T⟩ C) (hs : (P.info? t).map (·.size) = some xs.length) (h1 : ∀ v ∈ xs, v.oneCell' = true) (hl : xs.length = cs.length) :
    Og ds P o n L (St ok w0 own fs) (fun _ : Unit => undef) (fun _ => St ok w0 (C ⟨some b, xs, T⟩) fs) := by
  obtain ⟨kk, hk', hC⟩ := hk.get; rw [hC]; exact AM kk hop hx hy hk' hs h1 hl
theorem stp (hop : o.op = .store t x y) (hx : ai L x = some (.pointer (some ⟨b, off, none⟩))) (hy : ai L y = some (.agg xs.toArray)) (hk : Ctx own ⟨some b, cs, T⟩ C) (hs : (P.info? t).map (·.size) = some xs.length) (h1 : ∀ v ∈ xs, v.oneCell' = true) (hl : off + xs.length ≤ cs.length) (hys : cs.take off ++ xs ++ cs.drop (off + xs.length) = ys) :
    Og ds P o n L (St ok w0 own fs) (fun _ : Unit => undef) (fun _ => St ok w0 (C ⟨some b, ys, T⟩) fs) := by
  obtain ⟨kk, hk', hC⟩ := hk.get; rw [hC]; exact AL kk hop hx hy hk' hs h1 hl hys
theorem wI {w : World} {own : List Ent} (hS : St ok w0 own fs w) {news : List Value} {m c : Nat} (hk : InE own ⟨some b, cs, T⟩) (hx : ∀ q, q < news.length → cs[off + q]? = news[q]?) : Src w (.slice (some ⟨b, off, none⟩) m c) m news := by
  obtain ⟨kk, hk⟩ := hk.get
  refine ⟨_, _, rfl, (fun h => by cases h), fun a ha q u hq => ?_⟩
  obtain rfl := Option.some.inj ha
  have hlt : q < news.length := (Ap.1 hq).1
  rw [Addr.add_lit, df (hS.block hk), hx q hlt, hq]
theorem app {len cap : Nat} {ob : Option Nat} {news sp : List Value} {zv : Value} {m c : Nat} {b2 : Nat} {T2 : TypeId} (hop : o.op = .call { callee := .builtin .append, args := #[x, y], argTypes := #[t, t] }) (hu : P.underlying t = some (.slice e)) (hi : (P.info? e).map (fun i => (i.zero, i.size, i.bytes)) = some (some zv, 1, sz)) (h1 : zv.cells = #[zv])
    (hk : Ctx own ⟨ob, xs ++ sp, e⟩ C) (hx : ai L x = some (.slice (ob.map fun b => ⟨b, 0, none⟩) len cap)) (hy : ai L y = some (.slice (some ⟨b2, 0, none⟩) m c)) (hnew : InE own ⟨some b2, news, T2⟩) (hm : news.length = m)
    (hb : xs.length = len ∧ cap = len + sp.length ∧ 0 < m ∧ len + m ≤ 9223372036854775807 ∧ (len + m) * sz ≤ 140737488355328) (h1c : ∀ u ∈ news, u.oneCell' = true) :
    Og ds P o n L (St ok w0 own fs) (fun g : App => .slice (some ⟨g.b, 0, none⟩) (len + m) g.cap) (fun g w => (len + m ≤ g.cap ∧ g.cap = len + m + g.spare.length) ∧ St ok w0 (C ⟨some g.b, (xs ++ news) ++ g.spare, e⟩) fs w) :=
  cB fun a hF w hS => by
    obtain ⟨kk, hkk, hC⟩ := hk.get
    obtain ⟨hxl, hcap, hpos, h63, hbb⟩ := hb
    have htake : (xs ++ sp).take len = xs := by rw [← hxl]; simp
    obtain ⟨g, w', hrun, hp, hS'⟩ := qs (P := P) (ty := o.type) hS hkk hu hi h1 (by omega : len ≤ cap) (by simp; omega) (wI (c := c) hS hnew (fun q _ => by simp) : Src w (.slice (some ⟨b2, 0, none⟩) m c) m news) hm h1c hpos h63 hbb
    rw [htake] at hp hS'
    refine ⟨g, w', .inl ?_, ⟨hp.1, ?_⟩, ?_⟩
    · simp [execOp, hop, resolve, invoke, builtin, hF.eval hx, hF.eval hy, hrun]
    · rw [hp.2]; simp [hxl, hm]; omega
    · rw [hC]; exact hS'
theorem St.nil {w : World} (h : St ok w0 own fs w) (e : TypeId) : St ok w0 (⟨none, [] ++ [], e⟩ :: own) fs w :=
  ⟨h.okn, h.below, fun x hx => by
    rcases Be.1 hx with rfl | hx
    · rfl
    · exact h.own_ x hx, h.nd, h.fact⟩
def B (c : UInt8) : Value := .int .u8 (c.toNat : Int)
theorem EW (l : List UInt8) : ∀ u ∈ l.map B, u.oneCell' = true := fun u hu => by obtain ⟨c, _, rfl⟩ := Ch.1 hu; rfl
theorem sF (l : List UInt8) : ∀ s : ByteArray, (l.map (fun c : UInt8 => (c.toNat : Int))).foldl (fun r n => r.push (UInt8.ofNat n.toNat)) s = S (s.data.toList ++ l) := by
  induction l with
  | nil => intro s; simp [oo]
  | cons c l ih =>
    intro s
    simp only [Ds, List.foldl_cons]
    rw [ih]
    congr 1
    simp
theorem qr {w : World} {l : List UInt8} {cells : Array Value} {fz : Nat × Nat} {len cap : Nat} (hb : w.heap[b]? = some (.cells cells T fz)) (hl : l.length = len) (hxs : ∀ i, i < l.length → cells[off + i]? = (l.map B)[i]?) (hs : P.underlying t = some (.slice e)) (he : P.underlying e = some (.int .u8)) (hd : P.underlying t2 = some .string) :
    (convert t t2 (.slice (some ⟨b, off, none⟩) len cap)).run P w = .ok (.string (S l)) w := by
  have hmap : l.map B = (l.map (fun c : UInt8 => (c.toNat : Int))).map (Value.int .u8) := by simp [B]
  have hload : (loadCells ⟨b, off, none⟩ len).run P w = .ok ((l.map (fun c : UInt8 => (c.toNat : Int))).map (Value.int .u8)).toArray w := by
    rw [← hmap, ← hl]
    have := run_loadCells_list (P := P) w ⟨b, off, none⟩ (l.map B) (fun j v hv => by
      have hj : j < l.length := by have := (Ap.1 hv).1; simpa using this
      rw [Addr.add_lit]; simp only [World.cell?, hb]; rw [Aa (by simp)]; rw [hxs j hj]; exact hv)
    simpa using this
  rw [run_convert_bytes_string w t t2 e _ _ _ hs he hd, run_bytesToString w _ len cap _ hload, sF]
  simp
theorem b2s {l : List UInt8} {len cap : Nat} (hop : o.op = .convert t t2 x) (hx : ai L x = some (.slice (some ⟨b, off, none⟩) len cap)) (hk : InE own ⟨some b, cs, T⟩) (hs : P.underlying t = some (.slice e)) (he : P.underlying e = some (.int .u8)) (hd : P.underlying t2 = some .string) (hl : (cs.drop off).take len = l.map B) (hlen : l.length = len) : Rd ds P o n L (St ok w0 own fs) (.string (S l)) := by
  obtain ⟨kk, hk⟩ := hk.get
  exact fZ hop hx fun w hS => qr (hS.block hk) hlen (fun q hq => by rw [← hl, Cv, Ae (by omega), Cy]; simp) hs he hd
theorem s6 {l : List UInt8} {len cap : Nat} {a0 : Option Addr} (hop : o.op = .convert t t2 x) (hx : ai L x = some (.slice a0 len cap)) (hk : InF fs (Fact.sl a0 (l.map B))) (hs : P.underlying t = some (.slice e)) (he : P.underlying e = some (.int .u8)) (hd : P.underlying t2 = some .string) (hlen : l.length = len) : Rd ds P o n L (St ok w0 own fs) (.string (S l)) := by
  obtain ⟨kk, hk⟩ := hk.get
  exact fZ hop hx fun w hS => by
    rcases hS.holds hk with h0 | ⟨b', off', cells, T', fz, e1, _, e3, e4⟩
    · have hl0 : l = [] := by simpa using h0
      subst hl0
      simp at hlen; subst hlen
      rw [run_convert_bytes_string w t t2 e _ _ _ hs he hd]
      cases a0 <;> simp [Conv.bytesToString, S, loadCells, loadCellsFrom] <;> rfl
    · subst e1
      exact qr e3 hlen (fun q hq => e4 q (by simpa using hq)) hs he hd
theorem oH {w w' : World} {rt ty : TypeId} {src : Value} {len cap q m : Nat} (hu : P.underlying t = some (.slice e)) (hs : (P.info? e).map (·.size) = some 1) (hq : ∀ w : World, (Builtin.lenOf src).run P w = .ok q w) (hm : min q len = m) (hf : (Builtin.firstCells 1 m src).run P w = .ok xs.toArray w) (hst : (storeCells ⟨b, off, none⟩ xs).run P w = .ok () w') :
    (Builtin.copy_ #[t, rt] ty #[.slice (some ⟨b, off, none⟩) len cap, src]).run P w = .ok (.int .i64 (m : Int)) w' := by
  have hm' : Nat.min q len = m := hm
  simp [Builtin.copy_, run_underlying hu, hq, hm, bi hs, hf, hst, goInt]
theorem vF {l : List UInt8} {len cap m : Nat} {rt : TypeId} (hop : o.op = .call { callee := .builtin .copy, args := #[x, y], argTypes := #[t, rt] }) (hx : ai L x = some (.slice (some ⟨b, off, none⟩) len cap)) (hy : ai L y = some (.string (S l))) (hk : Ctx own ⟨some b, cs, T⟩ C) (hu : P.underlying t = some (.slice e)) (hs : (P.info? e).map (·.size) = some 1)
    (hm : min l.length len = m) (hfit : off + m ≤ cs.length) (hys : cs.take off ++ (l.take m).map B ++ cs.drop (off + m) = ys) :
    Og ds P o n L (St ok w0 own fs) (fun _ : Unit => .int .i64 (m : Int)) (fun _ => St ok w0 (C ⟨some b, ys, T⟩) fs) :=
  cB fun a hF w hS => by
    obtain ⟨kk, hkk, hC⟩ := hk.get
    have hlm : (l.take m).length = m := by simp; omega
    have hst := run_storeCells_at P b off T ((l.take m).map B) 0 cs.toArray w (hS.block hkk) (by simp [hlm]; omega) (EW _)
    simp only [Bd, Ag, hlm, hys] at hst
    refine ⟨(), w.setRow b ys.toArray, .inl ?_, by rw [hC]; exact hS.setRow hkk _⟩
    have hf : (Builtin.firstCells 1 m (.string (S l))).run P w = .ok ((l.take m).map B).toArray w := by
      have hex : Array.map (fun c : UInt8 => Value.int .u8 (c.toNat : Int)) ((S l).extract 0 m).data = ((l.take m).map B).toArray := by
        apply Array.ext'; rw [mY]; simp [S]; rfl
      show Result.ok _ w = _
      rw [hex]
    have hrun := oH (P := P) (w := w) (ty := o.type) (rt := rt) (src := .string (S l)) (cap := cap) (q := l.length) hu hs (fun w => by simp [Builtin.lenOf, eR]) hm hf hst
    simp [execOp, hop, resolve, invoke, builtin, hF.eval hx, hF.eval hy, hrun]
theorem EG {len cap len2 cap2 m : Nat} {ad2 : Option Addr} {rt : TypeId} (hop : o.op = .call { callee := .builtin .copy, args := #[x, y], argTypes := #[t, rt] }) (hx : ai L x = some (.slice (some ⟨b, off, none⟩) len cap)) (hy : ai L y = some (.slice ad2 len2 cap2)) (hk : Ctx own ⟨some b, cs, T⟩ C) (hu : P.underlying t = some (.slice e)) (hs : (P.info? e).map (·.size) = some 1)
    (hm : min len2 len = m) (hxm : xs.length = m) (hsrc : ∀ w, St ok w0 own fs w → (Fact.sl ad2 xs).holds (fun _ => True) w) (h1 : ∀ u ∈ xs, u.oneCell' = true) (hfit : off + m ≤ cs.length) (hys : cs.take off ++ xs ++ cs.drop (off + m) = ys) :
    Og ds P o n L (St ok w0 own fs) (fun _ : Unit => .int .i64 (m : Int)) (fun _ => St ok w0 (C ⟨some b, ys, T⟩) fs) :=
  cB fun a hF w hS => by
    obtain ⟨kk, hkk, hC⟩ := hk.get
    have hst := run_storeCells_at P b off T xs 0 cs.toArray w (hS.block hkk) (by simp; omega) h1
    simp only [Bd, hxm, hys] at hst
    refine ⟨(), w.setRow b ys.toArray, .inl ?_, by rw [hC]; exact hS.setRow hkk _⟩
    have hf : (Builtin.firstCells 1 m (.slice ad2 len2 cap2)).run P w = .ok xs.toArray w := by
      rcases hsrc w hS with h0 | ⟨b', off', cells, T', fz, e1, _, e3, e4⟩
      · subst h0
        simp at hxm; subst hxm
        cases ad2 <;> simp [Builtin.firstCells, loadCells, loadCellsFrom]
      · subst e1
        have := run_loadCells_list (P := P) w ⟨b', off', none⟩ xs (fun j v hv => by
          have hj : j < xs.length := (Ap.1 hv).1
          rw [Addr.add_lit]; simp [World.cell?, e3, e4 j hj, hv])
        rw [hxm] at this
        simp [Builtin.firstCells, this]
    have hrun := oH (P := P) (w := w) (ty := o.type) (rt := rt) (src := .slice ad2 len2 cap2) (cap := cap) (q := len2) hu hs (fun w => by simp [Builtin.lenOf]) hm hf hst
    simp [execOp, hop, resolve, invoke, builtin, hF.eval hx, hF.eval hy, hrun]
def cK (L : an) : List (Nat × Operand) → Option (List (Nat × Value))
  | [] => some []
  | (q, x) :: xs => match ai L x, cK L xs with
    | some v, some vs => some ((q, v) :: vs)
    | _, _ => none
theorem du {ds : List Deferred} {a : Act} {n : Nat} {L : an} (hF : Fr ds a n L) : ∀ {xs : List (Nat × Operand)} {vs : List (Nat × Value)}, cK L xs = some vs → xs.map (fun (q, x) => (q, a.eval x)) = vs
  | [], vs, h => by simpa [cK] using h
  | (q, x) :: xs, vs, h => by
    simp only [cK] at h
    split at h
    · rename_i v vs' h1 h2
      simp only [Option.some.injEq] at h
      rw [Ds, du hF h2, ← h]; simp [hF.eval h1]
    · cases h
theorem yS {len : Nat} {parts : List (Nat × Operand)} {vs : List (Nat × Value)} (hop : o.op = .buildSlice t len parts.toArray) (hp : cK L parts = some vs) (hu : P.underlying t = some (.slice e))
    (hrun : ∀ w : World, (Instr.buildSlice t len vs.toArray).run P w = .ok (.slice (some ⟨w.heap.size, 0, none⟩) len len) (w.alloc (.cells cs.toArray e))) :
    Og ds P o n L (St ok w0 own fs) (fun b : Nat => .slice (some ⟨b, 0, none⟩) len len) (fun b => St ok w0 (⟨some b, cs, e⟩ :: own) fs) :=
  cB fun a hF w hS => by
    refine ⟨w.heap.size, w.alloc (.cells cs.toArray e), .inl ?_, hS.alloc cs e⟩
    have hpp := du hF hp
    have e1 : Array.map (fun x => (x.1, a.eval x.2)) parts.toArray = vs.toArray := by simp [← hpp]
    simp only [execOp, hop, e1]
    simp [hrun]
theorem lx : ∀ (vs done : List Value) (zs : List Value), vs.length = zs.length → (∀ v ∈ vs, v.cells = #[v]) →
    Instr.fill (fun i => some (i * 1, 1)) (done ++ zs).toArray ((List.range' done.length vs.length).zip vs) = some (done ++ vs).toArray
  | [], done, zs, hl, _ => by have : zs = [] := B0 hl.symm; subst this; simp [Instr.fill]
  | v :: vs, done, zs, hl, h1 => by
    cases zs with
    | nil => simp at hl
    | cons z zs =>
      have hv := h1 v (by simp)
      have ih := lx vs (done ++ [v]) zs (by simpa using hl) (fun u hu => h1 u (by simp [hu]))
      have e1 : (done ++ z :: zs).toArray.setIfInBounds done.length v = (done ++ [v] ++ zs).toArray := by
        apply Array.ext'; simp
      simp only [Ay, List.range'_succ, List.zip_cons_cons, Instr.fill, hv]
      rw [Aa (by simp)]
      simp only [As, Al, List.length_singleton, Cr] at ih e1 ⊢
      have e2 : (#[v].zipIdx.foldl (fun (cs : Array Value) (x : Value × Nat) => cs.setIfInBounds (done.length + x.2) x.1) (done ++ z :: zs).toArray) = (done ++ ([v] ++ zs)).toArray := by
        simp
      rw [e2]
      simpa using ih
theorem aN {len : Nat} {parts : List (Nat × Operand)} {vs : List (Nat × Value)} {zv : Value} (hop : o.op = .buildSlice t len parts.toArray) (hp : cK L parts = some vs) (hu : P.underlying t = some (.slice e))
    (hi : (P.info? e).map (fun i => (i.zero, i.size, i.bytes)) = some (some zv, 1, sz)) (hz : zv.cells = #[zv]) (hcs : vs.map Prod.snd = cs) (hnum : vs = (List.range' 0 len).zip (vs.map Prod.snd)) (hlen : cs.length = len) (h1 : ∀ v ∈ cs, v.cells = #[v]) (hsm : len ≤ 16777216) :
    Og ds P o n L (St ok w0 own fs) (fun b : Nat => .slice (some ⟨b, 0, none⟩) len len) (fun b => St ok w0 (⟨some b, cs, e⟩ :: own) fs) :=
  yS hop hp hu fun w => by
    obtain ⟨i', hi', hz', hs, hbb⟩ := info_parts hi
    have hfill := lx cs [] (List.replicate len zv) (by simp [hlen]) h1
    simp only [List.nil_append, B4, hlen] at hfill
    have hsz : ¬ (len * i'.size > 2 ^ 24) := by rw [hs]; omega
    have hvs : vs = (List.range' 0 len).zip cs := by rw [← hcs]; exact hnum
    have hfill' : Instr.fill (fun i => some (i, 1)) (List.replicate len zv).toArray vs = some cs.toArray := by
      rw [hvs]; simpa using hfill
    rw [hs] at hsz
    simp only [Instr.buildSlice, Sem.run_bind, run_underlying hu, Result.andThen, sizeOf, typeInfo, run_program, hi', Sem.run_pure, hs, As]
    rw [Aa (by omega)]
    by_cases h0 : len = 0
    · subst h0
      have hzero : Array.map (fun x => (#[] : Array Value)[x % (#[] : Array Value).size]!) (Array.range 0) = (List.replicate 0 zv).toArray := by simp
      simp only [Sem.run_pure, Sem.run_bind, Result.andThen, if_true, hzero, hfill']
      rfl
    · have hzero : Array.map (fun x => zv.cells[x % zv.cells.size]!) (Array.range len) = (List.replicate len zv).toArray := by
        rw [hz]
        have := dU zv len
        unfold madeCells at this
        apply Array.ext'
        simpa using this
      simp only [Aa h0, Sem.run_bind, zeroValue, typeInfo, run_program, Result.andThen, hi', Sem.run_pure, hz', hzero, hfill']
      rfl
def BO (ps : List (Nat × Value)) (i : Nat) (z : List Value) : List Value :=
  match ps with
  | [] => z
  | (q, v) :: r => bif Nat.beq q i then v.cells.toList else BO r i z
def bld (ps : List (Nat × Value)) : Nat → List (List Value) → List Value
  | _, [] => []
  | i, z :: zs => BO ps i z ++ bld ps (i + 1) zs
theorem AA {parts : List (Nat × Operand)} {vs : List (Nat × Value)} (zs : List (List Value)) (hop : o.op = .build t parts.toArray) (hp : cK L parts = some vs) (hcs : bld vs 0 zs = cs) (hrun : ∀ w : World, (Instr.build t vs.toArray).run P w = .ok (.agg cs.toArray) w) : Rd ds P o n L Z (.agg cs.toArray) :=
  aI fun a hF w _ => by
    have hpp := du hF hp
    have e1 : Array.map (fun x => (x.1, a.eval x.2)) parts.toArray = vs.toArray := by simp [← hpp]
    simp only [execOp, hop, e1]
    simp [hrun]
theorem xj {len cap : Nat} {lo hi : Operand} {k' : IntKind} (hop : o.op = .slice t x (some lo) (some hi) none) (hx : ai L x = some (.slice (some ⟨b, off, none⟩) len cap)) (hl : ai L lo = some (.int k i)) (hh : ai L hi = some (.int k' j)) (hu : P.underlying t = some (.slice e)) (hs : (P.info? e).map (·.size) = some sz)
    (hb : 0 ≤ i ∧ i ≤ j ∧ j ≤ (cap : Int) ∧ i < (cap : Int)) {q1 q2 q3 : Nat} (h1 : off + i.toNat * sz = q1) (h2 : j.toNat - i.toNat = q2) (h3 : cap - i.toNat = q3) : Rd ds P o n L (St ok w0 own fs) (.slice (some ⟨b, q1, none⟩) q2 q3) := by
  have := zP (ds := ds) (P := P) (n := n) (ok := ok) (w0 := w0) (own := own) (fs := fs) hop hx hl hh hu hs ⟨hb.1, hb.2.1, hb.2.2.1⟩ rfl rfl rfl
  rwa [cut, Aa (by omega), Option.map_some, Addr.add_lit, h1, h2, h3] at this
section
variable {a c : Nat}
theorem aC (hop : o.op = .binOp .add t x y t2) (hx : ai L x = some (.int .i64 (a : Int))) (hy : ai L y = some (.int .i64 (c : Int))) (h : a + c ≤ 9223372036854775807) : Rd ds P o n L Z (.int .i64 ((a + c : Nat) : Int)) := by
  rw [Dd]; exact bB hop hx hy (by omega)
theorem aU (hop : o.op = .binOp .sub t x y t2) (hx : ai L x = some (.int .i64 (a : Int))) (hy : ai L y = some (.int .i64 (c : Int))) (h : c ≤ a ∧ a ≤ 9223372036854775807) : Rd ds P o n L Z (.int .i64 ((a - c : Nat) : Int)) := by
  rw [Int.natCast_sub h.1]; exact aK hop hx hy (by omega)
theorem gH (hop : o.op = .binOp .mul t x y t2) (hx : ai L x = some (.int .i64 (a : Int))) (hy : ai L y = some (.int .i64 (c : Int))) (h : a * c ≤ 9223372036854775807) : Rd ds P o n L Z (.int .i64 ((a * c : Nat) : Int)) := by
  have h0 : 0 ≤ (a : Int) * (c : Int) := Int.mul_nonneg (by omega) (by omega)
  have h1 : (a : Int) * (c : Int) ≤ 9223372036854775807 := by rw [← C0]; omega
  rw [C0]; exact kZ hop hx hy ⟨by omega, h1⟩
theorem me (hop : o.op = .binOp .quo t x y t2) (hx : ai L x = some (.int .i64 (a : Int))) (hy : ai L y = some (.int .i64 (c : Int))) (h : 0 < c ∧ a ≤ 9223372036854775807) : Rd ds P o n L Z (.int .i64 ((a / c : Nat) : Int)) := by
  have := pG (ds := ds) (P := P) (n := n) (St := Z) hop hx hy (by omega)
  rw [Int.tdiv_eq_ediv_of_nonneg (by omega), ← Int.natCast_ediv] at this
  have h2 : a / c ≤ a := Cz _ _
  have h3 : -9223372036854775808 ≤ ((a / c : Nat) : Int) ∧ ((a / c : Nat) : Int) ≤ 9223372036854775807 := by generalize a / c = q at h2; omega
  rwa [IntWalk.i64_in _ h3] at this
theorem rX (hop : o.op = .binOp .rem t x y t2) (hx : ai L x = some (.int .i64 (a : Int))) (hy : ai L y = some (.int .i64 (c : Int))) (h : 0 < c) : Rd ds P o n L Z (.int .i64 ((a % c : Nat) : Int)) := by
  have := nu (ds := ds) (P := P) (n := n) (St := Z) hop hx hy (by omega)
  rwa [Int.tmod_eq_emod_of_nonneg (by omega), ← D4] at this
theorem k6 (hop : o.op = .binOp .add t x y t2) (hx : ai L x = some (.int .i64 (a : Int))) (hy : ai L y = some (.int .i64 (@OfNat.ofNat Int c instOfNat))) (h : a + (@OfNat.ofNat Nat c (instOfNatNat c)) ≤ 9223372036854775807) : Rd ds P o n L Z (.int .i64 ((a + (@OfNat.ofNat Nat c (instOfNatNat c)) : Nat) : Int)) := aC hop hx hy h
theorem et (hop : o.op = .binOp .sub t x y t2) (hx : ai L x = some (.int .i64 (@OfNat.ofNat Int a instOfNat))) (hy : ai L y = some (.int .i64 (c : Int))) (h : c ≤ (@OfNat.ofNat Nat a (instOfNatNat a)) ∧ (@OfNat.ofNat Nat a (instOfNatNat a)) ≤ 9223372036854775807) : Rd ds P o n L Z (.int .i64 (((@OfNat.ofNat Nat a (instOfNatNat a)) - c : Nat) : Int)) := aU hop hx hy h
theorem aB (hop : o.op = .binOp .sub t x y t2) (hx : ai L x = some (.int .i64 (a : Int))) (hy : ai L y = some (.int .i64 (@OfNat.ofNat Int c instOfNat))) (h : (@OfNat.ofNat Nat c (instOfNatNat c)) ≤ a ∧ a ≤ 9223372036854775807) : Rd ds P o n L Z (.int .i64 ((a - (@OfNat.ofNat Nat c (instOfNatNat c)) : Nat) : Int)) := aU hop hx hy h
theorem dM (hop : o.op = .binOp .mul t x y t2) (hx : ai L x = some (.int .i64 (@OfNat.ofNat Int a instOfNat))) (hy : ai L y = some (.int .i64 (c : Int))) (h : (@OfNat.ofNat Nat a (instOfNatNat a)) * c ≤ 9223372036854775807) : Rd ds P o n L Z (.int .i64 (((@OfNat.ofNat Nat a (instOfNatNat a)) * c : Nat) : Int)) := gH hop hx hy h
theorem bX (hop : o.op = .binOp .quo t x y t2) (hx : ai L x = some (.int .i64 (a : Int))) (hy : ai L y = some (.int .i64 (@OfNat.ofNat Int c instOfNat))) (h : 0 < (@OfNat.ofNat Nat c (instOfNatNat c)) ∧ a ≤ 9223372036854775807) : Rd ds P o n L Z (.int .i64 ((a / (@OfNat.ofNat Nat c (instOfNatNat c)) : Nat) : Int)) := me hop hx hy h
theorem dc (hop : o.op = .binOp .rem t x y t2) (hx : ai L x = some (.int .i64 (a : Int))) (hy : ai L y = some (.int .i64 (@OfNat.ofNat Int c instOfNat))) (h : 0 < (@OfNat.ofNat Nat c (instOfNatNat c))) : Rd ds P o n L Z (.int .i64 ((a % (@OfNat.ofNat Nat c (instOfNatNat c)) : Nat) : Int)) := rX hop hx hy h
theorem qw {k : IntKind} (hop : o.op = .binOp .rem t x y t2) (hx : ai L x = some (.int k (a : Int))) (hy : ai L y = some (.int k (@OfNat.ofNat Int c instOfNat))) (h : 0 < c) : Rd ds P o n L Z (.int k ((a % (@OfNat.ofNat Nat c (instOfNatNat c)) : Nat) : Int)) := by
  have := nu (ds := ds) (P := P) (n := n) (St := Z) hop hx hy (by show ((c : Nat) : Int) ≠ 0; omega)
  rwa [Int.tmod_eq_emod_of_nonneg (by omega), show (@OfNat.ofNat Int c instOfNat) = ((c : Nat) : Int) from rfl, ← D4] at this
theorem xo {k : IntKind} (hop : o.op = .binOp .quo t x y t2) (hx : ai L x = some (.int k (a : Int))) (hy : ai L y = some (.int k (@OfNat.ofNat Int c instOfNat))) (h : 0 < c) (hw : k.wrap ((a / (@OfNat.ofNat Nat c (instOfNatNat c)) : Nat) : Int) = ((a / (@OfNat.ofNat Nat c (instOfNatNat c)) : Nat) : Int)) : Rd ds P o n L Z (.int k ((a / (@OfNat.ofNat Nat c (instOfNatNat c)) : Nat) : Int)) := by
  have := pG (ds := ds) (P := P) (n := n) (St := Z) hop hx hy (by show ((c : Nat) : Int) ≠ 0; omega)
  rw [Int.tdiv_eq_ediv_of_nonneg (by omega), show (@OfNat.ofNat Int c instOfNat) = ((c : Nat) : Int) from rfl, ← Int.natCast_ediv] at this
  rw [← hw]; exact this
end
theorem St.fresh {w : World} (h : St ok w0 own fs w) : ∀ b, w.heap.size ≤ b → ok b ∧ b ∉ ids own := fun b hb =>
  ⟨h.okn b (Bi h.below.size hb), fun hm => by have := (h.lt hm).2; omega⟩
theorem kV {c : Operand} (hop : o.op = .pick c x y) (hc : ai L c = some (.bool true)) (hx : ai L x = some v) : Rd ds P o n L Z v := aI fun a hF w _ => by simp [execOp, hop, hF.eval hc, hF.eval hx, asBool]
theorem kW {c : Operand} (hop : o.op = .pick c x y) (hc : ai L c = some (.bool false)) (hy : ai L y = some v) : Rd ds P o n L Z v := aI fun a hF w _ => by simp [execOp, hop, hF.eval hc, hF.eval hy, asBool]
theorem bA {ad : Addr} (hop : o.op = .nilCheck x) (hx : ai L x = some (.pointer (some ad))) : Rd ds P o n L Z (.pointer (some ad)) := aI fun a hF w _ => by simp [execOp, hop, hF.eval hx]
theorem ue (hop : o.op = .unOp .neg t x) (hx : ai L x = some (.int .i64 i)) (h : -9223372036854775808 ≤ 0 - i ∧ 0 - i ≤ 9223372036854775807) : Rd ds P o n L Z (.int .i64 (0 - i)) := by
  have := uf (ds := ds) (P := P) (n := n) (St := Z) hop hx; rwa [IntWalk.i64_in _ h] at this
theorem ub (hop : o.op = .binOp .rem t x y t2) (hx : ai L x = some (.int .i64 i)) (hy : ai L y = some (.int .i64 j)) (h : 0 ≤ i ∧ 0 < j) : Rd ds P o n L Z (.int .i64 (i % j)) := by
  have := nu (ds := ds) (P := P) (n := n) (St := Z) hop hx hy (by omega)
  rwa [Int.tmod_eq_emod_of_nonneg h.1] at this
theorem AB {p q : Bool} (hop : o.op = .binOp .eql t x y t2) (hx : ai L x = some (.bool p)) (hy : ai L y = some (.bool q)) (hu : P.underlying t = some .bool) : Rd ds P o n L Z (.bool (p == q)) :=
  aW hop hx hy (lr _ _ _) fun w => run_eql_bool w t p q hu
theorem bM {fn : Fn} {fa ca : List Operand} {fv cv : List Value} (hop : o.op = .makeFunc fn fa.toArray ca.toArray) (hf : eB L fa = some fv) (hc : eB L ca = some cv) : Rd ds P o n L Z (.func fn fv.toArray cv.toArray) := aI fun a hF w _ => by
  have h1 := dl hF hf; have h2 := dl hF hc
  simp [execOp, hop, Instr.makeFunc, h1, h2]
theorem oN {parts : List (Nat × Operand)} {vs : List (Nat × Value)} (hop : o.op = .build t parts.toArray) (hp : cK L parts = some vs) (hrun : ∀ w : World, (Instr.build t vs.toArray).run P w = .ok v w) : Rd ds P o n L Z v :=
  aI fun a hF w _ => by
    have hpp := du hF hp
    have e1 : Array.map (fun x => (x.1, a.eval x.2)) parts.toArray = vs.toArray := by simp [← hpp]
    simp only [execOp, hop, e1]
    simp [hrun]
end
section
variable {ds : List Deferred} {ρ : Option Nat} {P : Program} {ops : List Oper} {C S : World → Prop} {Q : Exit → Act → World → Prop} {n : Nat} {rest : List Oper} {L : an} {marks : List Nat} {p : Prop}
theorem WM.r1 {o : Oper} {d : Nat} {v : Value} (hw : aH ops L o = some true) (hdst : o.dst = some d) (hd : Nat.blt d n = true) (h : Rd ds P o n L S v) (hC : ∀ w, S w → C w) (k : WM ds P ops C Q n marks rest ((d, v) :: L) S) : WM ds P ops C Q n (1 :: marks) (o :: rest) L S :=
  WM.op hw (by rw [hdst]; exact hd) (Op1.of_rd h) (fun _ w hh => hC w hh.2) fun _ a w hF hh => by obtain ⟨rfl, hS⟩ := hh; rw [hdst] at hF; exact k a w hF hS
theorem WL.pu (k : p → WL ds P ops Q n rest L S) : WL ds P ops Q n rest L (fun w => p ∧ S w) := fun a w hF hS => k hS.1 a w hF hS.2
theorem WM.pu (k : p → WM ds P ops C Q n marks rest L S) : WM ds P ops C Q n marks rest L (fun w => p ∧ S w) := fun a w hF hS => k hS.1 a w hF hS.2
theorem WC.pu {c : Code} (k : p → WC ds ρ P c Q n L S) : WC ds ρ P c Q n L (fun w => p ∧ S w) := fun a w hF hS => k hS.1 a w hF hS.2
end
section
variable {ds : List Deferred} {ρ : Option Nat} {P : Program} {fn : Func} {f : FuncId} {c : Code} {R : Ending → World → Prop} {n : Nat} {L : an} {S : World → Prop} {v u q : Value}
theorem enter {args : Array Value} {w : World} (hf : P.funcs[f]? = some fn) (hb : fn.body = some c) (hn : fn.ntmps = n) (ha : Nat.ble args.size n = true) (hL : ∀ k v, ap L k = some v → args[k]? = some v) (hS : S w) (k : WC [] none P c (bodyPost P fn R) n L S) : Calls P f args w R := by
  refine callsIn_wide.1 (callsIn_of_wp (F := Fence.wide) (n := 0) hf hb trivial (k _ w (Fr.enter ?_ hL) hS))
  have := Nat.le_of_ble_eq_true ha
  omega
theorem WX.ret_normal (k : WX [] (bodyPost P fn R) .ret n L S) : WX [] (bodyPost P fn R) .normal n L S := k
theorem WX.ret0 (hr : fn.results = #[]) (h : ∀ w, S w → R (.returned (.tuple #[])) w) : WX [] (bodyPost P fn R) .ret n L S := fun a w hF hS =>
  bodyPost_ret (results_none hr _ _ _) hF.defers (h w hS)
theorem WX.ret1 {r : Nat} (hr : fn.results = #[.tmp r]) (hs : ap L r = some v) (h : ∀ w, S w → R (.returned v) w) : WX [] (bodyPost P fn R) .ret n L S := fun a w hF hS =>
  bodyPost_ret (results_tmp hr _ _ _) hF.defers (by have := hF.at_ r v hs; simp [this]; exact h w hS)
theorem WX.ret1c {r b : Nat} {t T : TypeId} {cs : List Value} {ok : Nat → Prop} {w0 : World} {own : List Ent} {fs : List Fact} {d : TypeDesc} (hr : fn.results = #[.cell r t]) (hs : ap L r = some (.pointer (some ⟨b, 0, none⟩))) (hk : InE own ⟨some b, cs, T⟩) (hu : P.underlying t = some d) (hd : bn d = true) (hsz : (P.info? t).map (·.size) = some cs.length)
    (h : ∀ w, St ok w0 own fs w → R (.returned (.agg cs.toArray)) w) : WX [] (bodyPost P fn R) .ret n L (St ok w0 own fs) := fun a w hF hS => by
  obtain ⟨kk, hk⟩ := hk.get
  refine bodyPost_ret ?_ hF.defers (h w hS)
  have h1 := hF.at_ r _ hs
  have h2 := gG (P := P) (off := 0) (xs := cs) (hS.block hk) (fun i _ => by simp) hu hd hsz
  simp [results, hr, h1, asAddr, h2]
end
def ep (ops : Array Oper) : Nat → Array Bool → List (List Nat)
  | 0, _ => [[]]
  | f + 1, listed =>
    match Region.ready .any ops listed with
    | [] => [[]]
    | x :: xs => (x :: xs).flatMap fun i => (ep ops f (listed.setIfInBounds i true)).map (i :: ·)
theorem pR (ops : Array Oper) : ∀ (fuel t : Nat) (listed : Array Bool), Region.linearise.go .any ops fuel t listed [] ∈ ep ops fuel listed := by
  intro fuel
  induction fuel with
  | zero => intro t listed; simp [Region.linearise.go, ep]
  | succ fuel ih =>
    intro t listed
    simp only [ep]
    change (match (Region.ready .any ops listed)[t % (Region.ready .any ops listed).length]? with
      | some i => Region.linearise.go .any ops fuel (t / (Region.ready .any ops listed).length) (listed.setIfInBounds i true) [i]
      | none => [].reverse) ∈ _
    cases hr : Region.ready .any ops listed with
    | nil => simp
    | cons x xs =>
      have hlt : t % (x :: xs).length < (x :: xs).length := Aq _ (by simp)
      simp only [Ad hlt]
      rw [linearise_go_acc]
      exact List.mem_flatMap.2 ⟨_, List.getElem_mem hlt, Ch.2 ⟨_, ih (t / (x :: xs).length) _, by simp⟩⟩
def bJ (l : List Oper) : List Nat → List Oper
  | [] => []
  | i :: is => match l[i]? with
    | some o => o :: bJ l is
    | none => bJ l is
section
variable {ds : List Deferred} {ρ : Option Nat} {P : Program} {Q : Exit → Act → World → Prop} {n : Nat} {L : an} {S : World → Prop}
theorem kw (l : List Oper) : ∀ is : List Nat, iQ P l.toArray Q is = eZ P l.toArray Q (bJ l is) := by
  intro is
  induction is with
  | nil => rfl
  | cons i is ih =>
    funext a w
    simp only [iQ, bJ, Du]
    cases h : l[i]? with
    | none => simp only [ih]
    | some o => simp only [eZ, ih]
def Mid (ds : List Deferred) {γ : Type} (L' : γ → an) (S' : γ → World → Prop) (n : Nat) : Exit → Act → World → Prop
  | .normal, a, w => ∃ g, Fr ds a n (L' g) ∧ S' g w
  | _, _, _ => False
def AllL (ds : List Deferred) (P : Program) (ops : List Oper) (Q : Exit → Act → World → Prop) (n : Nat) (L : an) (S : World → Prop) : List (List Oper) → Prop
  | [] => True
  | x :: xs => WL ds P ops Q n x L S ∧ AllL ds P ops Q n L S xs
theorem AllL.nil {ops : List Oper} : AllL ds P ops Q n L S [] := trivial
theorem AllL.cons {ops x : List Oper} {xs : List (List Oper)} (h : WL ds P ops Q n x L S) (t : AllL ds P ops Q n L S xs) : AllL ds P ops Q n L S (x :: xs) := ⟨h, t⟩
theorem AllL.get {ops : List Oper} : ∀ {xs : List (List Oper)}, AllL ds P ops Q n L S xs → ∀ x ∈ xs, WL ds P ops Q n x L S
  | _ :: _, h, x, hx => by
    rcases Be.1 hx with rfl | hx
    · exact h.1
    · exact h.2.get x hx
theorem WC.orders {γ : Type} {id : Nat} {l : List Oper} (L' : γ → an) (S' : γ → World → Prop) (iss : List (List Nat)) {oss : List (List Oper)} (hm : P.follows .mixedOrders = true)
    (hi : ep l.toArray l.length (Array.replicate l.length false) = iss) (ho : iss.map (bJ l) = oss) (hS : ∀ w, S w → S { w with drawn := w.drawn + 1 })
    (k : AllL ds P l (Mid ds L' S' n) n L S oss) (next : ∀ g, WX ds Q .normal n (L' g) (S' g)) : WC ds none P (.region id l.toArray true) Q n L S := by
  intro a w hF h
  refine wpIn_mono (Q := Mid ds L' S' n) (yB (.inl rfl) fun t => ?_) (fun e a w hq => ?_)
  rotate_left
  · cases e with
    | normal => obtain ⟨g, hF, hS⟩ := hq; exact next g a w hF hS
    | _ => exact hq.elim
  · simp only [Region.schedule, hm, Bool.true_or, if_true]
    have hmem := pR l.toArray l.length t (Array.replicate l.length false)
    rw [hi] at hmem
    have := AllL.get k (bJ l (Region.linearise.go .any l.toArray l.length t (Array.replicate l.length false) [])) (by rw [← ho]; exact At hmem)
    have h2 := this a { w with drawn := w.drawn + 1 } hF (hS w h)
    rw [← kw] at h2
    exact h2
theorem WX.mid {γ : Type} {L' : γ → an} {S' : γ → World → Prop} (g : γ) (hL : ∀ k v, ap (L' g) k = some v → ap L k = some v) (hS : ∀ w, S w → S' g w) :
    WX ds (Mid ds L' S' n) .normal n L S := fun _ w hF h => ⟨g, hF.sub hL, hS w h⟩
end
section
variable {ds : List Deferred} {ρ : Option Nat} {P : Program} {ok : Nat → Prop} {w0 : World} {own : List Ent} {fs : List Fact}
theorem gF {w : World} {p q : Ent} {r : List Ent} (hS : St ok w0 (p :: q :: r) fs w) : St ok w0 (q :: p :: r) fs w := by
  have hperm : ∀ c, c ∈ ids (q :: p :: r) ↔ c ∈ ids (p :: q :: r) := fun c => by
    simp only [ids, List.mem_filterMap, Be]
    constructor
    · rintro ⟨x, h, hx⟩; exact ⟨x, by rcases h with h | h | h <;> simp [h], hx⟩
    · rintro ⟨x, h, hx⟩; exact ⟨x, by rcases h with h | h | h <;> simp [h], hx⟩
  refine ⟨hS.okn, hS.below, fun z hz => hS.own_ z (by simp at hz ⊢; rcases hz with h | h | h <;> simp [h]), ?_, fun f hf => f.mono (fun c hc => ⟨hc.1, fun hm => hc.2 ((hperm c).1 hm)⟩) (hS.fact f hf)⟩
  have := hS.nd
  have hp : (ids (q :: p :: r)).Perm (ids (p :: q :: r)) := List.Perm.filterMap _ (List.Perm.swap p q r)
  exact hp.nodup_iff.2 this
theorem St.adopt {ok' : Nat → Prop} {w w' : World} {own' : List Ent} {fs' : List Fact} (h : St ok w0 own fs w) (h' : St ok' w own' fs' w') : St ok w0 (own' ++ own) fs w' := by
  have hk := h.keep h'.below
  have hids : ids (own' ++ own) = ids own' ++ ids own := by simp [ids, List.filterMap_append]
  refine ⟨h.okn, hk.below, fun x hx => ?_, ?_, fun f hf => ?_⟩
  · rcases Bx.1 hx with hx | hx
    · have := h'.own_ x hx
      unfold Ent.holds at *
      split
      · rename_i h1; simpa [h1] using this
      · rename_i b h1; simp only [h1] at this; exact ⟨Bi h.below.size this.1, this.2⟩
    · exact hk.own_ x hx
  · rw [hids]
    refine List.nodup_append.2 ⟨h'.nd, h.nd, fun b hb c hc hbc => ?_⟩
    subst hbc
    have := (h'.lt hb).1
    have := (h.lt hc).2
    omega
  · have h1 := f.here (h.fact f hf)
    have h2 := f.stable h1 h'.below.size fun b hlt _ => h'.below.block b hlt
    refine f.mono (fun b hb => ⟨hb.1.1, fun hm => ?_⟩) h2
    rw [hids] at hm
    rcases Bx.1 hm with hm | hm
    · have := (h'.lt hm).1
      have := hb.2
      omega
    · exact hb.1.2 hm
theorem ur {w : World} {b : Nat} {xs : List Value} {T : TypeId} (h : St ok w0 own fs w) (hx : InE own ⟨some b, xs, T⟩) : (Fact.sl (some ⟨b, 0, none⟩) xs).holds (fun _ => True) w := by
  obtain ⟨k, hk⟩ := hx.get
  have := h.own_ _ (A9 hk)
  exact .inr ⟨b, 0, xs.toArray, T, (0, 0), rfl, trivial, this.2, fun i hi => by rw [A3]; simp⟩
theorem St.addF {w : World} {f : Fact} (h : St ok w0 own fs w) (hf : f.holds (fun b => ok b ∧ b ∉ ids own) w) : St ok w0 own (f :: fs) w :=
  ⟨h.okn, h.below, h.own_, h.nd, fun x hx => (Be.1 hx).elim (fun e => e ▸ hf) (h.fact x)⟩
theorem St.dropF {w : World} {f : Fact} (h : St ok w0 own (f :: fs) w) : St ok w0 own fs w := ⟨h.okn, h.below, h.own_, h.nd, fun x hx => h.fact x (by simp [hx])⟩
theorem St.perm {w : World} {own' : List Ent} (h : St ok w0 own fs w) (hp : own'.Perm own) : St ok w0 own' fs w := by
  have hi : (ids own').Perm (ids own) := List.Perm.filterMap _ hp
  exact ⟨h.okn, h.below, fun x hx => h.own_ x (hp.mem_iff.1 hx), hi.nodup_iff.2 h.nd, fun f hf => f.mono (fun b hb => ⟨hb.1, fun hm => hb.2 (hi.mem_iff.1 hm)⟩) (h.fact f hf)⟩
end
structure Gr where
  ob : Option Nat
  cap : Nat
  sp : List Value
section
variable {ds : List Deferred} {ρ : Option Nat} {P : Program} {o : Oper} {n : Nat} {L : an} {ok : Nat → Prop} {w0 : World} {own : List Ent} {C : Ent → List Ent} {fs : List Fact} {x y : Operand} {t e : TypeId} {sz : Nat} {xs : List Value}
theorem kJ {w : World} {ob : Option Nat} {len cap c : Nat} {ad : Option Addr} {ty : TypeId} (hu : P.underlying t = some (.slice e)) (hs : (P.info? e).map (·.size) = some sz) (hlc : len ≤ cap) :
    (Builtin.append_ #[t, t] ty #[.slice (ob.map fun b => ⟨b, 0, none⟩) len cap, .slice ad 0 c]).run P w = .ok (.slice (ob.map fun b => ⟨b, 0, none⟩) len cap) w := by
  cases ob <;> cases ad <;> simp [Builtin.append_, run_underlying hu, bi hs, Builtin.lenOf, hlc, Builtin.firstCells, loadCells, loadCellsFrom, storeCells]
theorem ol {len cap : Nat} {ob : Option Nat} {news sp : List Value} {zv : Value} {m c : Nat} {ad : Option Addr} (hop : o.op = .call { callee := .builtin .append, args := #[x, y], argTypes := #[t, t] }) (hu : P.underlying t = some (.slice e)) (hi : (P.info? e).map (fun i => (i.zero, i.size, i.bytes)) = some (some zv, 1, sz)) (h1 : zv.cells = #[zv])
    (hk : Ctx own ⟨ob, xs ++ sp, e⟩ C) (hx : ai L x = some (.slice (ob.map fun b => ⟨b, 0, none⟩) len cap)) (hy : ai L y = some (.slice ad m c)) (hsrc : ∀ w, St ok w0 own fs w → (Fact.sl ad news).holds (fun _ => True) w) (hm : news.length = m)
    (hb : xs.length = len ∧ cap = len + sp.length ∧ len + m ≤ 9223372036854775807 ∧ (len + m) * sz ≤ 140737488355328) (h1c : ∀ u ∈ news, u.oneCell' = true) :
    Og ds P o n L (St ok w0 own fs) (fun g : Gr => .slice (g.ob.map fun b => ⟨b, 0, none⟩) (len + m) g.cap) (fun g w => (g.cap = len + m + g.sp.length) ∧ St ok w0 (C ⟨g.ob, (xs ++ news) ++ g.sp, e⟩) fs w) :=
  cB fun a hF w hS => by
    obtain ⟨kk, hkk, hC⟩ := hk.get
    obtain ⟨hxl, hcap, h63, hbb⟩ := hb
    by_cases hpos : 0 < m
    · have htake : (xs ++ sp).take len = xs := by rw [← hxl]; simp
      have hs : Src w (.slice ad m c) m news := by
        rcases hsrc w hS with h0 | ⟨b', off', cells, T', fz, e1, _, e3, e4⟩
        · subst h0; simp at hm; omega
        · subst e1
          refine ⟨_, _, rfl, (fun h => by cases h), fun a ha q u hq => ?_⟩
          obtain rfl := Option.some.inj ha
          have hlt : q < news.length := (Ap.1 hq).1
          rw [Addr.add_lit]; simp [World.cell?, e3, e4 q hlt, hq]
      obtain ⟨g, w', hrun, hp, hS'⟩ := qs (P := P) (ty := o.type) hS hkk hu hi h1 (by omega : len ≤ cap) (by simp; omega) hs hm h1c hpos h63 hbb
      rw [htake] at hp hS'
      refine ⟨⟨some g.b, g.cap, g.spare⟩, w', .inl ?_, ?_, ?_⟩
      · simp [execOp, hop, resolve, invoke, builtin, hF.eval hx, hF.eval hy, hrun]
      · rw [hp.2]; simp [hxl, hm]; omega
      · rw [hC]; exact hS'
    · have hm0 : m = 0 := by omega
      subst hm0
      have hn0 : news = [] := B0 hm
      subst hn0
      obtain ⟨i', hi', hz, hs, hbb'⟩ := info_parts hi
      have hrun := kJ (P := P) (w := w) (ob := ob) (len := len) (cap := cap) (c := c) (ad := ad) (ty := o.type) (sz := 1) hu (by rw [hi']; simp [hs]) (by omega)
      refine ⟨⟨ob, cap, sp⟩, w, .inl ?_, ?_, ?_⟩
      · simp [execOp, hop, resolve, invoke, builtin, hF.eval hx, hF.eval hy, hrun]
      · show cap = _; omega
      · rw [A5]
        rw [hC]
        have : own.set kk ⟨ob, xs ++ sp, e⟩ = own := by
          apply Ef; intro q
          by_cases hq : kk = q
          · subst hq; rw [Dk (Ap.1 hkk).1, hkk]
          · rw [Dp hq]
        rw [this]; exact hS
end
section
variable {ds : List Deferred} {ρ : Option Nat} {P : Program} {Q : Exit → Act → World → Prop} {n : Nat} {L : an} {Z : World → Prop}
end
end Go.Proofs.YtchonigdjamphaaGreatDoor
