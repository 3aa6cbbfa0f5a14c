/-
  Own framework, part 4: worlds known by own (writable) blocks and by standing facts on the rest of memory; the operations that touch memory.
-/
import Derived.Test.YtbcnnkcddilfjaaGreatOps
import Derived.Laws.AppendOwn
import Derived.Laws.MakeOwn
import Derived.Laws.CopyOwn
import Derived.Laws.BytesString
import Derived.Laws.Rows
namespace Go.Proofs.YtbcnnkcddilfjaaGreat
set_option linter.unusedSimpArgs false
set_option linter.unusedVariables false
open Go.RowKit

/-- A standing fact on memory: reads blocks that 'ok' lets; holds on as long as these stay as they are. -/
structure Fact where
  holds : (Nat → Prop) → World → Prop
  mono : ∀ {ok ok' : Nat → Prop} {w : World}, (∀ b, ok b → ok' b) → holds ok w → holds ok' w
  stable : ∀ {ok : Nat → Prop} {w w' : World}, holds ok w → w.heap.size ≤ w'.heap.size → (∀ b, b < w.heap.size → ok b → w'.heap[b]? = w.heap[b]?) → holds ok w'
  here : ∀ {ok : Nat → Prop} {w : World}, holds ok w → holds (fun b => ok b ∧ b < w.heap.size) w

def addr (b off : Nat) : Addr := ⟨b, off, none⟩

/-- From the address on the cells xs lie (nothing is said where there are none). -/
def Fact.sl (a : Option Addr) (xs : List Value) : Fact where
  holds ok w := xs = [] ∨ ∃ b off cs T fz, a = some ⟨b, off, none⟩ ∧ ok b ∧ w.heap[b]? = some (.cells cs T fz) ∧ ∀ i, i < xs.length → cs[off + i]? = xs[i]?
  mono h := fun hh => hh.imp id fun ⟨b, off, cs, T, fz, h1, h2, h3, h4⟩ => ⟨b, off, cs, T, fz, h1, h _ h2, h3, h4⟩
  stable := fun hh _ hk => hh.imp id fun ⟨b, off, cs, T, fz, h1, h2, h3, h4⟩ => ⟨b, off, cs, T, fz, h1, h2, by rw [hk b (Array.getElem?_eq_some_iff.1 h3).1 h2]; exact h3, h4⟩
  here := fun hh => hh.imp id fun ⟨b, off, cs, T, fz, h1, h2, h3, h4⟩ => ⟨b, off, cs, T, fz, h1, ⟨h2, (Array.getElem?_eq_some_iff.1 h3).1⟩, h3, h4⟩

/-- A block of the call's own (none: a nil slice). -/
structure Ent where
  ob : Option Nat
  cs : List Value
  T : TypeId

def ids (own : List Ent) : List Nat := own.filterMap (·.ob)

def Ent.holds (B : Nat) (w : World) (x : Ent) : Prop :=
  match x.ob with
  | none => x.cs = []
  | some b => B ≤ b ∧ w.heap[b]? = some (.cells x.cs.toArray x.T (0, 0))

structure St (ok : Nat → Prop) (w0 : World) (own : List Ent) (fs : List Fact) (w : World) : Prop where
  okn : ∀ b, w0.heap.size ≤ b → ok b
  below : Below w0.heap.size w0 w
  own_ : ∀ x ∈ own, x.holds w0.heap.size w
  nd : (ids own).Nodup
  fact : ∀ f ∈ fs, f.holds (fun b => ok b ∧ b ∉ ids own) w

section
variable {ok : Nat → Prop} {w0 w w' : World} {own : List Ent} {fs : List Fact}

theorem ids_set (own : List Ent) (k b : Nat) (cs cs' : List Value) (T T' : TypeId) (h : own[k]? = some ⟨some b, cs, T⟩) : ids (own.set k ⟨some b, cs', T'⟩) = ids own := by
  induction own generalizing k with
  | nil => simp at h
  | cons x r ih =>
    cases k with
    | zero => simp at h; subst h; rfl
    | succ k => simp at h; simp only [List.set_cons_succ, ids, List.filterMap_cons] at ih ⊢; rw [ih k h]

theorem mem_ids {b : Nat} {x : Ent} (hx : x ∈ own) (hb : x.ob = some b) : b ∈ ids own := List.mem_filterMap.2 ⟨x, hx, hb⟩

theorem Ent.holds_same {B : Nat} {x : Ent} (h : x.holds B w) (hk : ∀ b, x.ob = some b → w'.heap[b]? = w.heap[b]?) : x.holds B w' := by
  unfold Ent.holds at *
  split
  · rename_i h1; simpa [h1] using h
  · rename_i b h1; simp only [h1] at h; exact ⟨h.1, by rw [hk b h1]; exact h.2⟩

theorem St.draw (h : St ok w0 own fs w) : St ok w0 own fs { w with drawn := w.drawn + 1 } :=
  ⟨h.okn, ⟨h.below.os, h.below.tape, h.below.output, h.below.size, h.below.block⟩, fun x hx => Ent.holds_same (h.own_ x hx) fun _ _ => rfl, h.nd, fun f hf => f.stable (h.fact f hf) (Nat.le_refl _) fun _ _ _ => rfl⟩

theorem St.lt (h : St ok w0 own fs w) {b : Nat} (hb : b ∈ ids own) : w0.heap.size ≤ b ∧ b < w.heap.size := by
  obtain ⟨x, hx, hxb⟩ := List.mem_filterMap.1 hb
  have := h.own_ x hx
  unfold Ent.holds at this
  rw [hxb] at this
  exact ⟨this.1, (Array.getElem?_eq_some_iff.1 this.2).1⟩

/-- behind a callee that leaves alone what was there -/
theorem St.keep (h : St ok w0 own fs w) (hb : Below w.heap.size w w') : St ok w0 own fs w' :=
  ⟨h.okn, h.below.trans (hb.mono h.below.size), fun x hx => Ent.holds_same (h.own_ x hx) fun b hxb => hb.block b (h.lt (mem_ids hx hxb)).2, h.nd, fun f hf => f.stable (h.fact f hf) hb.size fun b hlt _ => hb.block b hlt⟩

theorem heap_push_old (w : World) (o : Obj) (b : Nat) (h : b < w.heap.size) : (w.heap.push o)[b]? = w.heap[b]? := by rw [Array.getElem?_push, if_neg (by omega)]

theorem St.alloc (h : St ok w0 own fs w) (cs : List Value) (T : TypeId) : St ok w0 (⟨some w.heap.size, cs, T⟩ :: own) fs (w.alloc (.cells cs.toArray T)) := by
  refine ⟨h.okn, h.below.alloc h.below.size _, fun x hx => ?_, ?_, fun f hf => ?_⟩
  · rcases List.mem_cons.1 hx with rfl | hx
    · exact ⟨h.below.size, heap_alloc_new w _⟩
    · exact Ent.holds_same (h.own_ x hx) fun b hxb => heap_push_old w _ b (h.lt (mem_ids hx hxb)).2
  · show (w.heap.size :: ids own).Nodup
    exact List.nodup_cons.2 ⟨fun hm => by have := (h.lt hm).2; omega, h.nd⟩
  · refine f.mono (ok := fun b => (ok b ∧ b ∉ ids own) ∧ b < w.heap.size) (fun b hb => ⟨hb.1.1, fun hm => ?_⟩) ?_
    · rcases List.mem_cons.1 (show b ∈ w.heap.size :: ids own from hm) with rfl | hm
      · exact absurd hb.2 (Nat.lt_irrefl _)
      · exact hb.1.2 hm
    · exact f.stable (f.here (h.fact f hf)) (by simp) fun b hlt _ => heap_push_old w _ b hlt

theorem St.setRow (h : St ok w0 own fs w) {k b : Nat} {cs : List Value} {T : TypeId} (hk : own[k]? = some ⟨some b, cs, T⟩) (cs' : List Value) : St ok w0 (own.set k ⟨some b, cs', T⟩) fs (w.setRow b cs'.toArray) := by
  have hmem : (⟨some b, cs, T⟩ : Ent) ∈ own := List.mem_of_getElem? hk
  have hb := h.own_ _ hmem
  have hids := ids_set own k b cs cs' T T hk
  refine ⟨h.okn, below_setRow h.below hb.1 _, fun x hx => ?_, by rw [hids]; exact h.nd, fun f hf => ?_⟩
  · rcases List.mem_or_eq_of_mem_set hx with hx' | rfl
    · by_cases hxb : x.ob = some b
      · -- the entry itself: the same place, since the blocks differ
        have : x = ⟨some b, cs', T⟩ := by
          obtain ⟨j, hj⟩ := List.mem_iff_getElem?.1 hx
          by_cases hjk : j = k
          · subst hjk
            have hlt : j < own.length := (List.getElem?_eq_some_iff.1 hk).1
            simp [hlt] at hj
            exact hj.symm
          · rw [List.getElem?_set_ne (Ne.symm hjk)] at hj
            exfalso
            have nd := h.nd
            have : ∀ (own : List Ent) (j k : Nat) (x y : Ent), own[j]? = some x → own[k]? = some y → j < k → x.ob = some b → y.ob = some b → ¬ (ids own).Nodup := by
              intro own
              induction own with
              | nil => intro j k x y hj; simp at hj
              | cons z r ih =>
                intro j k x y hj hk hlt hx hy hnd
                cases j with
                | zero =>
                  simp at hj; subst hj
                  cases k with
                  | zero => omega
                  | succ k =>
                    simp at hk
                    have hnd' : (b :: ids r).Nodup := by simpa [ids, hx] using hnd
                    exact (List.nodup_cons.1 hnd').1 (mem_ids (List.mem_of_getElem? hk) hy)
                | succ j =>
                  cases k with
                  | zero => omega
                  | succ k =>
                    simp at hj hk
                    refine ih j k x y hj hk (by omega) hx hy ?_
                    cases hz : z.ob with
                    | none => simpa [ids, hz] using hnd
                    | some c => have : (c :: ids r).Nodup := by simpa [ids, hz] using hnd
                                exact (List.nodup_cons.1 this).2
            rcases Nat.lt_or_gt_of_ne hjk with hlt | hlt
            · exact this own j k _ _ hj hk hlt hxb rfl nd
            · exact this own k j _ _ hk hj hlt rfl hxb nd
        subst this
        exact ⟨hb.1, setRow_heap w b _ _ T (0, 0) hb.2⟩
      · exact Ent.holds_same (h.own_ x hx') fun c hc => setRow_other w b c _ (fun e => hxb (by rw [hc, e]))
    · exact ⟨hb.1, setRow_heap w b _ _ T (0, 0) hb.2⟩
  · rw [hids]
    refine f.stable (h.fact f hf) (by simp) fun c _ hc => setRow_other w b c _ (fun e => hc.2 (by rw [e]; exact mem_ids hmem rfl))

theorem St.block (h : St ok w0 own fs w) {k b : Nat} {cs : List Value} {T : TypeId} (hk : own[k]? = some ⟨some b, cs, T⟩) : w.heap[b]? = some (.cells cs.toArray T (0, 0)) := (h.own_ _ (List.mem_of_getElem? hk)).2

theorem block_cell {b : Nat} {cs : List Value} {T : TypeId} (hb : w.heap[b]? = some (.cells cs.toArray T (0, 0))) (i : Nat) : w.cell? ⟨b, i, none⟩ = cs[i]? := by
  simp [World.cell?, hb]

/-- what is forgotten: an own block, facts -/
theorem St.sub {own' : List Ent} {fs' : List Fact} (h : St ok w0 own fs w) (hs : own'.Sublist own) (hf : ∀ f ∈ fs', f ∈ fs) : St ok w0 own' fs' w := by
  have hids : (ids own').Sublist (ids own) := hs.filterMap _
  exact ⟨h.okn, h.below, fun x hx => h.own_ x (hs.subset hx), hids.nodup h.nd, fun f hf' => f.mono (fun b hb => ⟨hb.1, fun hm => hb.2 (hids.subset hm)⟩) (h.fact f (hf f hf'))⟩

/-- a further fact -/
theorem St.add {f : Fact} (h : St ok w0 own fs w) (hf : f.holds (fun b => ok b ∧ b ∉ ids own) w) : St ok w0 own (f :: fs) w :=
  ⟨h.okn, h.below, h.own_, h.nd, fun g hg => (List.mem_cons.1 hg).elim (fun e => e ▸ hf) (fun hg => h.fact g hg)⟩

/-- an own block stands from now on: the cells xs from its offset off on -/
theorem St.freeze {b off : Nat} {cs xs : List Value} {T : TypeId} {r : List Ent} (h : St ok w0 (⟨some b, cs, T⟩ :: r) fs w) (hx : ∀ i, i < xs.length → cs[off + i]? = xs[i]?) : St ok w0 r (Fact.sl (some ⟨b, off, none⟩) xs :: fs) w := by
  have h' := h.sub (own' := r) (fs' := fs) (List.sublist_cons_self _ _) (fun _ h => h)
  have hb : w0.heap.size ≤ b ∧ w.heap[b]? = some (.cells cs.toArray T (0, 0)) := h.own_ ⟨some b, cs, T⟩ (by simp)
  refine h'.add (.inr ⟨b, off, cs.toArray, T, (0, 0), rfl, ⟨h.okn b hb.1, fun hm => ?_⟩, hb.2, fun i hi => by simpa using hx i hi⟩)
  have := h.nd
  exact (List.nodup_cons.1 (show (b :: ids r).Nodup from this)).1 hm

/-- what an own block holds, as a fact of the moment -/
theorem St.own_sl (h : St ok w0 own fs w) {k b off : Nat} {cs xs : List Value} {T : TypeId} (hk : own[k]? = some ⟨some b, cs, T⟩) (hx : ∀ i, i < xs.length → cs[off + i]? = xs[i]?) : (Fact.sl (some ⟨b, off, none⟩) xs).holds (fun _ => True) w :=
  .inr ⟨b, off, cs.toArray, T, (0, 0), rfl, trivial, h.block hk, fun i hi => by simpa using hx i hi⟩

theorem St.holds (h : St ok w0 own fs w) {k : Nat} {f : Fact} (hk : fs[k]? = some f) : f.holds (fun b => ok b ∧ b ∉ ids own) w := h.fact f (List.mem_of_getElem? hk)
theorem St.holds_any (h : St ok w0 own fs w) {k : Nat} {f : Fact} (hk : fs[k]? = some f) : f.holds (fun _ => True) w := f.mono (fun _ _ => trivial) (h.holds hk)

theorem ids_replace : ∀ (own : List Ent) (kk : Nat) (x : Ent), (ids (x :: own)).Nodup → (ids (own.set kk x)).Nodup ∧ ∀ b, b ∈ ids (own.set kk x) → b ∈ ids (x :: own)
  | [], _, x, h => ⟨by simp [ids], by simp [ids]⟩
  | y :: r, 0, x, h => by
    have hsub : (ids (x :: r)).Sublist (ids (x :: y :: r)) := List.Sublist.filterMap _ (List.Sublist.cons_cons x (List.sublist_cons_self y r))
    exact ⟨hsub.nodup h, fun b hb => hsub.subset hb⟩
  | y :: r, kk + 1, x, h => by
    have hsub : (ids (x :: r)).Sublist (ids (x :: y :: r)) := List.Sublist.filterMap _ (List.Sublist.cons_cons x (List.sublist_cons_self y r))
    obtain ⟨h1, h2⟩ := ids_replace r kk x (hsub.nodup h)
    simp only [List.set_cons_succ]
    cases hy : y.ob with
    | none =>
      have e1 : ids (y :: r.set kk x) = ids (r.set kk x) := by simp [ids, hy]
      rw [e1]
      exact ⟨h1, fun b hb => hsub.subset (h2 b hb)⟩
    | some c =>
      have e1 : ids (y :: r.set kk x) = c :: ids (r.set kk x) := by simp [ids, hy]
      have e2 : ids (y :: r) = c :: ids r := by simp [ids, hy]
      rw [e1]
      refine ⟨List.nodup_cons.2 ⟨fun hm => ?_, h1⟩, fun b hb => ?_⟩
      · have := h2 c hm
        cases hx : x.ob with
        | none =>
          have e3 : ids (x :: r) = ids r := by simp [ids, hx]
          have e4 : ids (x :: y :: r) = c :: ids r := by simp [ids, hx, hy]
          rw [e3] at this; rw [e4] at h
          exact (List.nodup_cons.1 h).1 this
        | some q =>
          have e3 : ids (x :: r) = q :: ids r := by simp [ids, hx]
          have e4 : ids (x :: y :: r) = q :: c :: ids r := by simp [ids, hx, hy]
          rw [e3] at this; rw [e4] at h
          rcases List.mem_cons.1 this with rfl | hm'
          · exact (List.nodup_cons.1 h).1 (by simp)
          · exact (List.nodup_cons.1 (List.nodup_cons.1 h).2).1 hm'
      · rcases List.mem_cons.1 hb with rfl | hb
        · exact List.mem_filterMap.2 ⟨y, by simp, hy⟩
        · exact hsub.subset (h2 b hb)

/-- a new block in the place of an entry -/
theorem St.replace {x : Ent} (h : St ok w0 (x :: own) fs w) (kk : Nat) : St ok w0 (own.set kk x) fs w := by
  obtain ⟨h1, h2⟩ := ids_replace own kk x h.nd
  exact ⟨h.okn, h.below, fun y hy => h.own_ y (by
    rcases List.mem_or_eq_of_mem_set hy with h' | h'
    · exact List.mem_cons_of_mem _ h'
    · simp [h']), h1, fun f hf => f.mono (fun b hb => ⟨hb.1, fun hm => hb.2 (h2 b hm)⟩) (h.fact f hf)⟩

/-- the start of a call -/
theorem St.start {w : World} (hok : ∀ b, w.heap.size ≤ b → ok b) (hf : ∀ f ∈ fs, f.holds ok w) : St ok w [] fs w :=
  ⟨hok, Below.refl _ _, fun x hx => (by cases hx), List.nodup_nil, fun f hf' => f.mono (fun b hb => ⟨hb, by simp [ids]⟩) (hf f hf')⟩
end

/-! ### Judgements with a ghost -/
def Og (ds : List Deferred) {γ : Type} (P : Program) (o : Oper) (n : Nat) (L : Slots) (S : World → Prop) (val : γ → Value) (S' : γ → World → Prop) : Prop := Op1 ds P o n L S (fun v w => ∃ g, v = val g ∧ S' g w)

section
variable {ds : List Deferred} {ρ : Option Nat} {γ : Type} {P : Program} {ops : List Oper} {C S : World → Prop} {Q : Exit → Act → World → Prop} {n d : Nat} {rest : List Oper} {L : Slots} {o : Oper} {v : Value} {marks : List Nat} {val : γ → Value} {S' : γ → World → Prop}

theorem WL.r (hw : wantO ops L o = some true) (hdst : o.dst = some d) (hd : Nat.blt d n = true) (h : Rd ds P o n L S v) (k : WL ds P ops Q n rest ((d, v) :: L) S) : WL ds P ops Q n (o :: rest) L S :=
  WL.rd hw (by rw [hdst]; exact hd) h (by rw [hdst]; exact k)
theorem WM.r (hw : wantO ops L o = some true) (hdst : o.dst = some d) (hd : Nat.blt d n = true) (h : Rd ds P o n L C v) (k : WM ds P ops C Q n marks rest ((d, v) :: L) S) : WM ds P ops C Q n (0 :: marks) (o :: rest) L S :=
  WM.rd hw (by rw [hdst]; exact hd) h (by rw [hdst]; exact k)
theorem WM.hr (hw : wantO ops L o = some true) (hdst : o.dst = some d) (hd : Nat.blt d n = true) (h : Rd ds P o n L S v) (k : WM ds P ops C Q n marks rest ((d, v) :: L) S) : WM ds P ops C Q n (2 :: marks) (o :: rest) L S :=
  WM.hard_rd hw (by rw [hdst]; exact hd) h (by rw [hdst]; exact k)
theorem WL.s (hw : wantO ops L o = some false) (hdst : o.dst = some d) (hd : Nat.blt d n = true) (k : WL ds P ops Q n rest ((d, undef) :: L) S) : WL ds P ops Q n (o :: rest) L S :=
  WL.skip hw (by rw [hdst]; exact hd) (by rw [hdst]; exact k)
theorem WM.s {m : Nat} (hw : wantO ops L o = some false) (hdst : o.dst = some d) (hd : Nat.blt d n = true) (k : WM ds P ops C Q n marks rest ((d, undef) :: L) S) : WM ds P ops C Q n (m :: marks) (o :: rest) L S :=
  WM.skip hw (by rw [hdst]; exact hd) (by rw [hdst]; exact k)

theorem WL.g (hw : wantO ops L o = some true) (hdst : o.dst = some d) (hd : Nat.blt d n = true) (h : Og ds P o n L S val S') (k : ∀ g, WL ds P ops Q n rest ((d, val g) :: L) (S' g)) : WL ds P ops Q n (o :: rest) L S :=
  WL.op hw (by rw [hdst]; exact hd) h fun v a w hF hh => by obtain ⟨g, rfl, hS⟩ := hh; rw [hdst] at hF; exact k g a w hF hS
theorem WL.g0 (hw : wantO ops L o = some true) (hdst : o.dst = none) (h : Og ds P o n L S val S') (k : ∀ g, WL ds P ops Q n rest L (S' g)) : WL ds P ops Q n (o :: rest) L S :=
  WL.op hw (by rw [hdst]; rfl) h fun v a w hF hh => by obtain ⟨g, rfl, hS⟩ := hh; rw [hdst] at hF; exact k g a w hF hS
theorem WM.g (hw : wantO ops L o = some true) (hdst : o.dst = some d) (hd : Nat.blt d n = true) (h : Og ds P o n L S val S') (hC : ∀ g w, S' g w → C w) (k : ∀ g, WM ds P ops C Q n marks rest ((d, val g) :: L) (S' g)) : WM ds P ops C Q n (1 :: marks) (o :: rest) L S :=
  WM.op hw (by rw [hdst]; exact hd) h (fun v w hh => by obtain ⟨g, _, hS⟩ := hh; exact hC g w hS) fun v a w hF hh => by obtain ⟨g, rfl, hS⟩ := hh; rw [hdst] at hF; exact k g a w hF hS
theorem WM.g0 (hw : wantO ops L o = some true) (hdst : o.dst = none) (h : Og ds P o n L S val S') (hC : ∀ g w, S' g w → C w) (k : ∀ g, WM ds P ops C Q n marks rest L (S' g)) : WM ds P ops C Q n (1 :: marks) (o :: rest) L S :=
  WM.op hw (by rw [hdst]; rfl) h (fun v w hh => by obtain ⟨g, _, hS⟩ := hh; exact hC g w hS) fun v a w hF hh => by obtain ⟨g, rfl, hS⟩ := hh; rw [hdst] at hF; exact k g a w hF hS
theorem WM.h (hw : wantO ops L o = some true) (hdst : o.dst = some d) (hd : Nat.blt d n = true) (h : Og ds P o n L S val S') (k : ∀ g, WM ds P ops C Q n marks rest ((d, val g) :: L) (S' g)) : WM ds P ops C Q n (2 :: marks) (o :: rest) L S :=
  WM.hard hw (by rw [hdst]; exact hd) h fun v a w hF hh => by obtain ⟨g, rfl, hS⟩ := hh; rw [hdst] at hF; exact k g a w hF hS
theorem WM.h0 (hw : wantO ops L o = some true) (hdst : o.dst = none) (h : Og ds P o n L S val S') (k : ∀ g, WM ds P ops C Q n marks rest L (S' g)) : WM ds P ops C Q n (2 :: marks) (o :: rest) L S :=
  WM.hard hw (by rw [hdst]; rfl) h fun v a w hF hh => by obtain ⟨g, rfl, hS⟩ := hh; rw [hdst] at hF; exact k g a w hF hS

theorem og_run (h : ∀ a, Fr ds a n L → ∀ w, S w → ∃ g w', ((execOp a.eval o).run P w = .ok (.value (val g)) w' ∨ ((execOp a.eval o).run P w = .ok .skip w' ∧ val g = undef)) ∧ S' g w') : Og ds P o n L S val S' := by
  intro a w hF hS
  obtain ⟨g, w', hr, hS'⟩ := h a hF w hS
  unfold opX
  rcases hr with hr | ⟨hr, hv⟩
  · rw [hr]; exact ⟨_, rfl, g, rfl, hS'⟩
  · rw [hr]; exact ⟨undef, rfl, g, hv.symm, hS'⟩
end

section
variable {ds : List Deferred} {ρ : Option Nat} {P : Program} {o : Oper} {n : Nat} {L : Slots} {ok : Nat → Prop} {w0 : World} {own r : List Ent} {fs : List Fact} {x y z : Operand} {v u : Value} {t t2 e : TypeId} {k : IntKind} {i j : Int} {b off sz : Nat} {cs xs : List Value} {T : TypeId} {c : Nat}

theorem run_newVar (w : World) (t : TypeId) (v : Value) : (newVar t v).run P w = .ok ⟨w.heap.size, 0, none⟩ (w.alloc (.cells v.cells t)) := by
  rfl

theorem run_zero (h : (P.info? t).bind (·.zero) = some v) (w : World) : (zeroValue t).run P w = .ok v w := by
  cases hi : P.info? t with
  | none => simp [hi] at h
  | some i => simp [hi] at h; simp [zeroValue, typeInfo, hi, h]

theorem og_alloc (hop : o.op = .alloc t) (hz : (P.info? t).bind (·.zero) = some v) (hc : v.cells.toList = cs) : Og ds P o n L (St ok w0 own fs) (fun b : Nat => .pointer (some ⟨b, 0, none⟩)) (fun b => St ok w0 (⟨some b, cs, t⟩ :: own) fs) :=
  og_run fun a hF w hS => by
    refine ⟨w.heap.size, w.alloc (.cells v.cells t), .inl ?_, ?_⟩
    · simp [execOp, hop, Instr.alloc, run_zero hz, run_newVar]
    · have := hS.alloc cs t; rw [← hc] at this ⊢; simpa using this

theorem og_box (hop : o.op = .box t x) (hx : oper L x = some v) (hc : v.cells.toList = cs) : Og ds P o n L (St ok w0 own fs) (fun b : Nat => .pointer (some ⟨b, 0, none⟩)) (fun b => St ok w0 (⟨some b, cs, t⟩ :: own) fs) :=
  og_run fun a hF w hS => by
    refine ⟨w.heap.size, w.alloc (.cells v.cells t), .inl ?_, ?_⟩
    · simp [execOp, hop, Instr.box, hF.eval hx, run_newVar]
    · have := hS.alloc cs t; rw [← hc] at this ⊢; simpa using this

def isAggD : TypeDesc → Bool
  | .struct _ | .array _ _ => true
  | _ => false

theorem run_isAgg {d : TypeDesc} (h : P.underlying t = some d) (w : World) : (isAgg t).run P w = .ok (isAggD d) w := by
  simp only [isAgg, Sem.run_bind, run_underlying h, Result.andThen]
  cases d <;> rfl

theorem size_run (h : (P.info? t).map (·.size) = some sz) (w : World) : (sizeOf t).run P w = .ok sz w := by
  cases hi : P.info? t with
  | none => simp [hi] at h
  | some i => simp [hi] at h; simp [sizeOf, typeInfo, hi, h]

/-! loads -/
theorem rd_ld (kk : Nat) (hop : o.op = .load t x) (hx : oper L x = some (.pointer (some ⟨b, off, none⟩))) (hk : own[kk]? = some ⟨some b, cs, T⟩) {d : TypeDesc} (hu : P.underlying t = some d) (hd : isAggD d = false) (hv : cs[off]? = some v) : Rd ds P o n L (St ok w0 own fs) v :=
  rd_run fun a hF w hS => by
    have hc := block_cell (hS.block hk) off
    simp [execOp, hop, hF.eval hx, Instr.loadAt, Instr.sureAddr, loadVar, run_isAgg hu, hd, hc, hv]

theorem run_lda {w : World} {cells : Array Value} {fz : Nat × Nat} (hb : w.heap[b]? = some (.cells cells T fz)) (hxs : ∀ i, i < xs.length → cells[off + i]? = xs[i]?) {d : TypeDesc} (hu : P.underlying t = some d) (hd : isAggD d = true) (hs : (P.info? t).map (·.size) = some xs.length) :
    (loadVar t ⟨b, off, none⟩).run P w = .ok (.agg xs.toArray) w := by
  have hl : (loadCells ⟨b, off, none⟩ xs.length).run P w = .ok xs.toArray w :=
    run_loadCells_list (P := P) w ⟨b, off, none⟩ xs (fun j v hv => by
      have hj : j < xs.length := (List.getElem?_eq_some_iff.1 hv).1
      rw [Addr.add_lit]; simp [World.cell?, hb, hxs j hj, hv])
  simp [loadVar, run_isAgg hu, hd, size_run hs, hl]

/-- a whole variable -/
theorem rd_lda (kk : Nat) (hop : o.op = .load t x) (hx : oper L x = some (.pointer (some ⟨b, 0, none⟩))) (hk : own[kk]? = some ⟨some b, cs, T⟩) {d : TypeDesc} (hu : P.underlying t = some d) (hd : isAggD d = true) (hs : (P.info? t).map (·.size) = some cs.length) : Rd ds P o n L (St ok w0 own fs) (.agg cs.toArray) :=
  rd_run fun a hF w hS => by
    have := run_lda (P := P) (off := 0) (xs := cs) (hS.block hk) (fun i _ => by simp) hu hd hs
    simp [execOp, hop, hF.eval hx, Instr.loadAt, Instr.sureAddr, this]

/-- a part of a variable -/
theorem rd_ldp (kk : Nat) (hop : o.op = .load t x) (hx : oper L x = some (.pointer (some ⟨b, off, none⟩))) (hk : own[kk]? = some ⟨some b, cs, T⟩) {d : TypeDesc} (hu : P.underlying t = some d) (hd : isAggD d = true) (hs : (P.info? t).map (·.size) = some sz) (hxs : (cs.drop off).take sz = xs) (hlen : xs.length = sz) : Rd ds P o n L (St ok w0 own fs) (.agg xs.toArray) :=
  rd_run fun a hF w hS => by
    have := run_lda (P := P) (off := off) (xs := xs) (hS.block hk) (fun i hi => by rw [← hxs]; rw [List.getElem?_take, if_pos (by omega), List.getElem?_drop]; simp) hu hd (by rw [hs, hlen])
    simp [execOp, hop, hF.eval hx, Instr.loadAt, Instr.sureAddr, this]

/-- a cell of a standing fact; 'pt': where the fact's first cell lies -/
theorem rd_ldf (kk : Nat) {off0 m : Nat} (hop : o.op = .load t x) (hx : oper L x = some (.pointer (some ⟨b, off, none⟩))) (hk : fs[kk]? = some (Fact.sl (some ⟨b, off0, none⟩) xs)) {d : TypeDesc} (hu : P.underlying t = some d) (hd : isAggD d = false) (hm : off = off0 + m) (hv : xs[m]? = some v) : Rd ds P o n L (St ok w0 own fs) v :=
  rd_run fun a hF w hS => by
    have hlt : m < xs.length := (List.getElem?_eq_some_iff.1 hv).1
    rcases hS.holds hk with h0 | ⟨b', off', cells, T', fz, e1, _, e3, e4⟩
    · subst h0; simp at hlt
    · simp only [Option.some.injEq, Addr.mk.injEq, and_true] at e1
      obtain ⟨rfl, rfl⟩ := e1
      have hc : w.cell? ⟨b, off, none⟩ = some v := by simp [World.cell?, e3, hm, e4 m hlt, hv]
      simp [execOp, hop, hF.eval hx, Instr.loadAt, Instr.sureAddr, loadVar, run_isAgg hu, hd, hc]

theorem rd_ldfa (kk : Nat) {off0 m : Nat} {ys : List Value} (hop : o.op = .load t x) (hx : oper L x = some (.pointer (some ⟨b, off, none⟩))) (hk : fs[kk]? = some (Fact.sl (some ⟨b, off0, none⟩) xs)) {d : TypeDesc} (hu : P.underlying t = some d) (hd : isAggD d = true) (hs : (P.info? t).map (·.size) = some sz) (hm : off = off0 + m) (hys : (xs.drop m).take sz = ys) (hlen : ys.length = sz) (h0 : 0 < sz) : Rd ds P o n L (St ok w0 own fs) (.agg ys.toArray) :=
  rd_run fun a hF w hS => by
    rcases hS.holds hk with h0' | ⟨b', off', cells, T', fz, e1, _, e3, e4⟩
    · subst h0'; simp at hys; subst hys; simp at hlen; omega
    · simp only [Option.some.injEq, Addr.mk.injEq, and_true] at e1
      obtain ⟨rfl, rfl⟩ := e1
      have hml : m + sz ≤ xs.length := by
        have : ys.length = min sz (xs.length - m) := by rw [← hys]; simp
        omega
      have := run_lda (P := P) (off := off) (xs := ys) e3 (fun i hi => by
        rw [hm, Nat.add_assoc, e4 (m + i) (by omega), ← hys, List.getElem?_take, if_pos (by omega), List.getElem?_drop]) hu hd (by rw [hs, hlen])
      simp [execOp, hop, hF.eval hx, Instr.loadAt, Instr.sureAddr, this]

/-! addresses -/
theorem rd_ia {len cap q : Nat} (hop : o.op = .indexAddr t x y) (hx : oper L x = some (.slice (some ⟨b, off, none⟩) len cap)) (hy : oper L y = some (.int k i)) (hu : P.underlying t = some (.slice e)) (hs : (P.info? e).map (·.size) = some sz) (hb : 0 ≤ i ∧ i < (len : Int)) (hq : off + i.toNat * sz = q) : Rd ds P o n L (St ok w0 own fs) (.pointer (some ⟨b, q, none⟩)) :=
  rd_run fun a hF w hS => by
    simp [execOp, hop, hF.eval hx, hF.eval hy, Instr.indexAt, asIntOf, run_underlying hu, hb, size_run hs, Addr.add_lit, hq]
theorem rd_iaa {len q : Nat} (hop : o.op = .indexAddr t x y) (hx : oper L x = some (.pointer (some ⟨b, off, none⟩))) (hy : oper L y = some (.int k i)) (hu : P.underlying t = some (.array len e)) (hs : (P.info? e).map (·.size) = some sz) (hb : 0 ≤ i ∧ i < (len : Int)) (hq : off + i.toNat * sz = q) : Rd ds P o n L (St ok w0 own fs) (.pointer (some ⟨b, q, none⟩)) :=
  rd_run fun a hF w hS => by
    simp [execOp, hop, hF.eval hx, hF.eval hy, Instr.indexAt, Instr.sureAddr, asIntOf, run_underlying hu, hb, size_run hs, Addr.add_lit, hq]
theorem rd_fa {f : Nat} {flds : Array Field} {fd : Field} {q : Nat} (hop : o.op = .fieldAddr t x f) (hx : oper L x = some (.pointer (some ⟨b, off, none⟩))) (hu : P.underlying t = some (.struct flds)) (hf : flds[f]? = some fd) (hs : ((P.info? fd.type).map (fun i => decide (0 < i.size))) = some true) (hq : off + fd.offset = q) : Rd ds P o n L (St ok w0 own fs) (.pointer (some ⟨b, q, none⟩)) :=
  rd_run fun a hF w hS => by
    obtain ⟨i, hi, hi'⟩ := Option.map_eq_some_iff.1 hs
    have hne : ¬ i.size = 0 := by simp at hi'; omega
    simp [execOp, hop, hF.eval hx, Instr.fieldAt, Instr.sureAddr, run_underlying hu, hf, fieldPlace, sizeOf, typeInfo, hi, hne, Addr.add_lit, hq]

/-- an aggregate's field and element -/
theorem rd_fld {f : Nat} {flds : Array Field} {fd : Field} {d : TypeDesc} (hop : o.op = .field t x f) (hx : oper L x = some (.agg cs.toArray)) (hu : P.underlying t = some (.struct flds)) (hf : flds[f]? = some fd) (hd : P.underlying fd.type = some d) (ha : isAggD d = false) (hv : cs[fd.offset]? = some v) : Rd ds P o n L (St ok w0 own fs) v :=
  rd_run fun a hF w hS => by simp [execOp, hop, hF.eval hx, Instr.field, run_underlying hu, hf, asAgg, part, run_isAgg hd, ha, hv]
theorem rd_flda {f : Nat} {flds : Array Field} {fd : Field} {d : TypeDesc} (hop : o.op = .field t x f) (hx : oper L x = some (.agg cs.toArray)) (hu : P.underlying t = some (.struct flds)) (hf : flds[f]? = some fd) (hd : P.underlying fd.type = some d) (ha : isAggD d = true) (hs : (P.info? fd.type).map (·.size) = some sz) (hv : (cs.drop fd.offset).take sz = xs) : Rd ds P o n L (St ok w0 own fs) (.agg xs.toArray) :=
  rd_run fun a hF w hS => by
    have e : cs.toArray.extract fd.offset (fd.offset + sz) = xs.toArray := by
      apply Array.ext'; rw [← hv]; simp [Array.toList_extract, List.extract_eq_take_drop]
    simp only [execOp, hop, hF.eval hx, Instr.field, Sem.run_bind, run_underlying hu, Result.andThen, hf, asAgg, Sem.run_pure, part, run_isAgg hd, ha, if_true, size_run hs, e]
theorem rd_aidx {len : Nat} {d : TypeDesc} (hop : o.op = .index t x y) (hx : oper L x = some (.agg cs.toArray)) (hy : oper L y = some (.int k i)) (hu : P.underlying t = some (.array len e)) (hd : P.underlying e = some d) (ha : isAggD d = false) (hs : (P.info? e).map (·.size) = some 1) (hb : 0 ≤ i ∧ i < (len : Int)) (hv : cs[i.toNat]? = some v) : Rd ds P o n L (St ok w0 own fs) v :=
  rd_run fun a hF w hS => by simp [execOp, hop, hF.eval hx, hF.eval hy, Instr.index, asIntOf, run_underlying hu, hb, size_run hs, part, run_isAgg hd, ha, hv]

/-! slices of slices -/
def cut (ad : Option Addr) (l m sz : Nat) : Option Addr := if m = l then ad else ad.map (·.add (l * sz))

theorem rd_slb {ad : Option Addr} {len cap : Nat} {lo hi : Operand} {k' : IntKind} (hop : o.op = .slice t x (some lo) (some hi) none) (hx : oper L x = some (.slice ad len cap)) (hl : oper L lo = some (.int k i)) (hh : oper L hi = some (.int k' j)) (hu : P.underlying t = some (.slice e)) (hs : (P.info? e).map (·.size) = some sz)
    (hb : 0 ≤ i ∧ i ≤ j ∧ j ≤ (cap : Int)) {q1 q2 q3 : Nat} (h1 : i.toNat = q1) (h2 : j.toNat - q1 = q2) (h3 : cap - q1 = q3) : Rd ds P o n L (St ok w0 own fs) (.slice (cut ad q1 cap sz) q2 q3) :=
  rd_run fun a hF w hS => by
    subst h1 h2 h3
    have e1 := bound_run (P := P) (k := k') (i := j) (y' := cap) (c := .sliceAcap) (by omega) w
    have e2 := bound_run (P := P) (k := k) (i := i) (y' := j.toNat) (c := .sliceB) (by omega) w
    simp [execOp, hop, hF.eval hx, hF.eval hl, hF.eval hh, Instr.sliceAt, Instr.slice, run_underlying hu, Instr.sliceBounds, e1, e2, size_run hs, cut]
theorem rd_slf {ad : Option Addr} {len cap : Nat} {lo : Operand} (hop : o.op = .slice t x (some lo) none none) (hx : oper L x = some (.slice ad len cap)) (hl : oper L lo = some (.int k i)) (hu : P.underlying t = some (.slice e)) (hs : (P.info? e).map (·.size) = some sz)
    (hb : 0 ≤ i ∧ i ≤ (len : Int)) {q1 q2 q3 : Nat} (h1 : i.toNat = q1) (h2 : len - q1 = q2) (h3 : cap - q1 = q3) : Rd ds P o n L (St ok w0 own fs) (.slice (cut ad q1 cap sz) q2 q3) :=
  rd_run fun a hF w hS => by
    subst h1 h2 h3
    have e2 := bound_run (P := P) (k := k) (i := i) (y' := len) (c := .sliceB) (by omega) w
    simp [execOp, hop, hF.eval hx, hF.eval hl, Instr.sliceAt, Instr.slice, run_underlying hu, Instr.sliceBounds, e2, size_run hs, cut]
theorem rd_slt {ad : Option Addr} {len cap : Nat} {hi : Operand} (hop : o.op = .slice t x none (some hi) none) (hx : oper L x = some (.slice ad len cap)) (hh : oper L hi = some (.int k j)) (hu : P.underlying t = some (.slice e)) (hs : (P.info? e).map (·.size) = some sz)
    (hb : 0 ≤ j ∧ j ≤ (cap : Int)) {q2 : Nat} (h2 : j.toNat = q2) : Rd ds P o n L (St ok w0 own fs) (.slice ad q2 cap) :=
  rd_run fun a hF w hS => by
    subst h2
    have e1 := bound_run (P := P) (k := k) (i := j) (y' := cap) (c := .sliceAcap) (by omega) w
    cases ad <;> simp [execOp, hop, hF.eval hx, hF.eval hh, Instr.sliceAt, Instr.slice, run_underlying hu, Instr.sliceBounds, e1, size_run hs, Addr.add]

/-- of an array variable -/
theorem rd_sla {len : Nat} (hop : o.op = .slice t x none none none) (hx : oper L x = some (.pointer (some ⟨b, off, none⟩))) (hu : P.underlying t = some (.array len e)) (hs : (P.info? e).map (·.size) = some sz) : Rd ds P o n L (St ok w0 own fs) (.slice (some ⟨b, off, none⟩) len len) :=
  rd_run fun a hF w hS => by simp [execOp, hop, hF.eval hx, Instr.sliceAt, Instr.sureAddr, run_underlying hu, Instr.sliceBounds, size_run hs, Addr.add]
theorem rd_slaf {len : Nat} {lo : Operand} (hop : o.op = .slice t x (some lo) none none) (hx : oper L x = some (.pointer (some ⟨b, off, none⟩))) (hl : oper L lo = some (.int k i)) (hu : P.underlying t = some (.array len e)) (hs : (P.info? e).map (·.size) = some sz)
    (hb : 0 ≤ i ∧ i < (len : Int)) {q1 q2 q3 : Nat} (h1 : off + i.toNat * sz = q1) (h2 : len - i.toNat = q2) (h3 : len - i.toNat = q3) : Rd ds P o n L (St ok w0 own fs) (.slice (some ⟨b, q1, none⟩) q2 q3) :=
  rd_run fun a hF w hS => by
    subst h1 h2 h3
    have e2 := bound_run (P := P) (k := k) (i := i) (y' := len) (c := .sliceB) (by omega) w
    have : ¬ len = i.toNat := by omega
    simp [execOp, hop, hF.eval hx, hF.eval hl, Instr.sliceAt, Instr.sureAddr, run_underlying hu, Instr.sliceBounds, e2, size_run hs, this, Addr.add_lit]
theorem rd_slat {len : Nat} {hi : Operand} (hop : o.op = .slice t x none (some hi) none) (hx : oper L x = some (.pointer (some ⟨b, off, none⟩))) (hh : oper L hi = some (.int k j)) (hu : P.underlying t = some (.array len e)) (hs : (P.info? e).map (·.size) = some sz)
    (hb : 0 ≤ j ∧ j ≤ (len : Int)) {q2 : Nat} (h2 : j.toNat = q2) : Rd ds P o n L (St ok w0 own fs) (.slice (some ⟨b, off, none⟩) q2 len) :=
  rd_run fun a hF w hS => by
    subst h2
    have e1 := bound_run (P := P) (k := k) (i := j) (y' := len) (c := .sliceAlen) (by omega) w
    simp [execOp, hop, hF.eval hx, hF.eval hh, Instr.sliceAt, Instr.sureAddr, run_underlying hu, Instr.sliceBounds, e1, size_run hs, Addr.add]

/-! stores -/
theorem run_st1 {w : World} (hb : w.heap[b]? = some (.cells cs.toArray T (0, 0))) (hs : (P.info? t).map (·.size) = some 1) (h1 : v.oneCell' = true) (hoff : off < cs.length) : (storeVar t ⟨b, off, none⟩ v).run P w = .ok () (w.setRow b (cs.set off v).toArray) := by
  have hc : v.cells = #[v] := by cases v <;> simp_all [Value.cells, Value.oneCell']
  have := run_storeCells_at P b off T [v] 0 cs.toArray w hb (by simp; omega) (by simpa using h1)
  have e : cs.take off ++ [v] ++ cs.drop (off + 1) = cs.set off v := by
    rw [List.set_eq_take_append_cons_drop, if_pos hoff]; simp
  simp only [List.length_singleton, Nat.add_zero, e] at this
  simp [storeVar, size_run hs, hc, this]

theorem og_st (kk : Nat) (hop : o.op = .store t x y) (hx : oper L x = some (.pointer (some ⟨b, off, none⟩))) (hy : oper L y = some v) (hk : own[kk]? = some ⟨some b, cs, T⟩) (hs : (P.info? t).map (·.size) = some 1) (h1 : v.oneCell' = true) (hoff : off < cs.length) :
    Og ds P o n L (St ok w0 own fs) (fun _ : Unit => undef) (fun _ => St ok w0 (own.set kk ⟨some b, cs.set off v, T⟩) fs) :=
  og_run fun a hF w hS => ⟨(), _, .inr ⟨by simp [execOp, hop, hF.eval hx, hF.eval hy, Instr.storeAt, Instr.sureAddr, run_st1 (P := P) (hS.block hk) hs h1 hoff], rfl⟩, hS.setRow hk _⟩

theorem run_sta {w : World} (hb : w.heap[b]? = some (.cells cs.toArray T (0, 0))) (hs : (P.info? t).map (·.size) = some xs.length) (h1 : ∀ v ∈ xs, v.oneCell' = true) (hoff : off + xs.length ≤ cs.length) : (storeVar t ⟨b, off, none⟩ (.agg xs.toArray)).run P w = .ok () (w.setRow b (cs.take off ++ xs ++ cs.drop (off + xs.length)).toArray) := by
  have := run_storeCells_at P b off T xs 0 cs.toArray w hb (by simpa using hoff) h1
  simp only [Nat.add_zero] at this
  simp [storeVar, size_run hs, Value.cells, this]

theorem og_sta (kk : Nat) (hop : o.op = .store t x y) (hx : oper L x = some (.pointer (some ⟨b, 0, none⟩))) (hy : oper L y = some (.agg xs.toArray)) (hk : own[kk]? = some ⟨some b, cs, T⟩) (hs : (P.info? t).map (·.size) = some xs.length) (h1 : ∀ v ∈ xs, v.oneCell' = true) (hl : xs.length = cs.length) :
    Og ds P o n L (St ok w0 own fs) (fun _ : Unit => undef) (fun _ => St ok w0 (own.set kk ⟨some b, xs, T⟩) fs) :=
  og_run fun a hF w hS => by
    have := run_sta (P := P) (off := 0) (hS.block hk) hs h1 (by omega)
    simp only [List.take_zero, List.nil_append, Nat.zero_add, hl, List.drop_length, List.append_nil] at this
    exact ⟨(), _, .inr ⟨by simp [execOp, hop, hF.eval hx, hF.eval hy, Instr.storeAt, Instr.sureAddr, this], rfl⟩, hS.setRow hk _⟩

theorem og_stp (kk : Nat) {ys : List Value} (hop : o.op = .store t x y) (hx : oper L x = some (.pointer (some ⟨b, off, none⟩))) (hy : oper L y = some (.agg xs.toArray)) (hk : own[kk]? = some ⟨some b, cs, T⟩) (hs : (P.info? t).map (·.size) = some xs.length) (h1 : ∀ v ∈ xs, v.oneCell' = true) (hl : off + xs.length ≤ cs.length) (hys : cs.take off ++ xs ++ cs.drop (off + xs.length) = ys) :
    Og ds P o n L (St ok w0 own fs) (fun _ : Unit => undef) (fun _ => St ok w0 (own.set kk ⟨some b, ys, T⟩) fs) :=
  og_run fun a hF w hS => by
    subst hys
    have := run_sta (P := P) (off := off) (hS.block hk) hs h1 hl
    exact ⟨(), _, .inr ⟨by simp [execOp, hop, hF.eval hx, hF.eval hy, Instr.storeAt, Instr.sureAddr, this], rfl⟩, hS.setRow hk _⟩

/-! make -/
theorem madeCells_one (z : Value) (m : Nat) : (madeCells #[z] m).toList = List.replicate m z := toList_madeCells_one z m

theorem og_mk {k1 k2 : IntKind} {l c' : Int} {zv : Value} (hop : o.op = .makeSlice t x y) (hx : oper L x = some (.int k1 l)) (hy : oper L y = some (.int k2 c')) (hu : P.underlying t = some (.slice e)) (hi : (P.info? e).map (fun i => (i.zero, i.size, i.bytes)) = some (some zv, 1, sz)) (h1 : zv.cells = #[zv])
    (hb : 0 ≤ l ∧ l ≤ c' ∧ (sz : Int) * c' ≤ 281474976710656 ∧ c' ≤ 9223372036854775807) {q1 q2 : Nat} (hq1 : l.toNat = q1) (hq2 : c'.toNat = q2) :
    Og ds P o n L (St ok w0 own fs) (fun b : Nat => .slice (some ⟨b, 0, none⟩) q1 q2) (fun b => St ok w0 (⟨some b, List.replicate q2 zv, e⟩ :: own) fs) :=
  og_run fun a hF w hS => by
    subst hq1 hq2
    obtain ⟨i', hi', hz, hs, hbb⟩ := info_parts hi
    have hrun := run_make (P := P) w t e i' zv hu hi' hz k1 k2 l c' hb.1 hb.2.1 (by rw [hbb]; exact hb.2.2.1) hb.2.2.2
    refine ⟨w.heap.size, w.alloc (.cells (madeCells zv.cells (c'.toNat * i'.size)) e), .inl ?_, ?_⟩
    · simp [execOp, hop, hF.eval hx, hF.eval hy, hrun]
    · have := hS.alloc (List.replicate c'.toNat zv) e
      rw [h1, hs, Nat.mul_one]
      have e1 : (madeCells #[zv] c'.toNat) = (List.replicate c'.toNat zv).toArray := by rw [← madeCells_one]
      rw [e1]; exact this

/-! append -/
/-- where the source's cells are -/
def Src (w : World) (v : Value) (m : Nat) (news : List Value) : Prop := ∃ ad c, v = .slice ad m c ∧ (ad = none → m = 0 ∧ c = 0) ∧ ∀ a, ad = some a → ∀ q u, news[q]? = some u → w.cell? (a.add q) = some u

theorem zero_one (zv : Value) (m : Nat) : (Builtin.zeroCells #[zv] m).toList = List.replicate m zv := by
  simp [Builtin.zeroCells]
  apply List.ext_getElem? ; intro q
  simp [List.getElem?_replicate]
  by_cases h : q < m
  · simp [h, List.getElem?_range, Nat.mod_one]
  · simp [h, List.getElem?_range]

/-- what an append leaves: the block, the new capacity, what lies in the spare room -/
structure App where
  b : Nat
  cap : Nat
  spare : List Value

theorem run_app {w : World} {own : List Ent} {kk : Nat} {ob : Option Nat} {len cap : Nat} {news : List Value} {zv : Value} {src : Value} {m : Nat} {ty : TypeId} (hS : St ok w0 own fs w) (hk : own[kk]? = some ⟨ob, cs, e⟩)
    (hu : P.underlying t = some (.slice e)) (hi : (P.info? e).map (fun i => (i.zero, i.size, i.bytes)) = some (some zv, 1, sz)) (h1 : zv.cells = #[zv])
    (hlen : len ≤ cap) (hcap : cap = cs.length) (hsrc : Src w src m news) (hm : news.length = m) (h1c : ∀ u ∈ news, u.oneCell' = true) (hpos : 0 < m)
    (h63 : len + m ≤ 9223372036854775807) (hb : (len + m) * sz ≤ 140737488355328) :
    ∃ (g : App) (w' : World), (Builtin.append_ #[t, t] ty #[.slice (ob.map fun b => ⟨b, 0, none⟩) len cap, src]).run P w = .ok (.slice (some ⟨g.b, 0, none⟩) (len + m) g.cap) w' ∧ (len + m ≤ g.cap ∧ g.cap = (cs.take len ++ news ++ g.spare).length) ∧ St ok w0 (own.set kk ⟨some g.b, cs.take len ++ news ++ g.spare, e⟩) fs w' := by
  obtain ⟨i', hi', hz, hs, hbb⟩ := info_parts hi
  obtain ⟨ad, c', rfl, hnone, hcell⟩ := hsrc
  cases ad with
  | none => have := (hnone rfl).1; omega
  | some a =>
  have hnews := hcell a rfl
  have hl : news.length = m * i'.size := by rw [hs, Nat.mul_one]; exact hm
  have zlen : ∀ q, (Builtin.zeroCells zv.cells q).toList = List.replicate q zv := fun q => by rw [h1]; exact zero_one zv q
  cases ob with
  | none =>
    have hcs : cs = [] := hS.own_ _ (List.mem_of_getElem? hk)
    subst hcs
    have hc0 : cap = 0 := by simpa using hcap
    subst hc0
    have hl0 : len = 0 := by omega
    subst hl0
    have hrun := run_append_nil (P := P) w t ty e i' zv hu hi' hz a m c' news hl hnews hpos (by omega) (by rw [hbb]; rw [Nat.zero_add] at hb; omega)
    refine ⟨⟨w.heap.size, grownCap w m 0 e, List.replicate (grownCap w m 0 e - m) zv⟩, _, by simpa using hrun, ⟨?_, ?_⟩, ?_⟩
    · simpa using grownCap_ge w m 0 e
    · have := grownCap_ge w m 0 e; simp; omega
    · have := (hS.draw.alloc (news ++ List.replicate (grownCap w m 0 e - m) zv) e).replace kk
      have e1 : (news.toArray ++ Builtin.zeroCells zv.cells (grownCap w m 0 e - m)) = (news ++ List.replicate (grownCap w m 0 e - m) zv).toArray := by
        apply Array.ext'; simp [zlen]
      simp only [List.take_nil, List.nil_append]
      rw [e1]; exact this
  | some b' =>
    have hbk := hS.block hk
    have hlc : len ≤ cs.length := by omega
    by_cases hroom : len + m ≤ cap
    · have hrun := run_append_room (P := P) w t ty e i' hu hi' b' len cap cs.toArray hbk a m c' news hl hnews h1c hroom (by rw [hs]; simp; omega)
      refine ⟨⟨b', cap, cs.drop (len + m)⟩, _, hrun, ⟨hroom, ?_⟩, ?_⟩
      · simp; omega
      · have := hS.setRow hk (cs.take len ++ news ++ cs.drop (len + m))
        rw [hs]; simp only [Nat.mul_one, hm]; exact this
    · have hrun := run_append_grow (P := P) w t ty e i' zv hu hi' hz ⟨b', 0, none⟩ len cap (cs.take len) (by rw [hs]; simp; omega) (fun q u hq => by
          rw [Addr.add_lit, Nat.zero_add, block_cell hbk]
          rw [List.getElem?_take] at hq; split at hq
          · exact hq
          · cases hq) a m c' news hl hnews (by omega) (by omega) (by rw [hbb]; exact growslice_fits (by omega) hb)
      refine ⟨⟨w.heap.size, grownCap w (len + m) cap e, List.replicate (grownCap w (len + m) cap e - (len + m)) zv⟩, _, hrun, ⟨grownCap_ge _ _ _ _, ?_⟩, ?_⟩
      · have := grownCap_ge w (len + m) cap e; simp; omega
      · have := (hS.draw.alloc (cs.take len ++ news ++ List.replicate (grownCap w (len + m) cap e - (len + m)) zv) e).replace kk
        have e1 : ((cs.take len).toArray ++ news.toArray ++ Builtin.zeroCells zv.cells (grownCap w (len + m) cap e - (len + m))) = (cs.take len ++ news ++ List.replicate (grownCap w (len + m) cap e - (len + m)) zv).toArray := by
          apply Array.ext'; simp [zlen]
        rw [e1]; exact this
end
end Go.Proofs.YtbcnnkcddilfjaaGreat

