/-
  Own framework: a range over a function. The loop's record and the block for deferred calls stand as facts; a round is walked in its own frame; the iterator is walked once, its yields by what the rounds do.
-/
import Derived.Test.YtbcnnkcddilfjaaGreatNew
import Derived.RangeFuncLeaves
import Derived.RangeFuncRecord
import Derived.Scope
namespace Go.Proofs.YtbcnnkcddilfjaaGreat
set_option linter.unusedSimpArgs false
set_option linter.unusedVariables false
open Go.RowKit

def Fact.lp (l : Nat) (r : Loop) : Fact where
  holds ok w := ok l ∧ w.heap[l]? = some (.loop r)
  mono h := fun hh => ⟨h _ hh.1, hh.2⟩
  stable := fun hh _ hk => ⟨hh.1, by rw [hk l (Array.getElem?_eq_some_iff.1 hh.2).1 hh.1]; exact hh.2⟩
  here := fun hh => ⟨⟨hh.1, (Array.getElem?_eq_some_iff.1 hh.2).1⟩, hh.2⟩
def Fact.dfr (D : Nat) : Fact where
  holds ok w := ok D ∧ w.heap[D]? = some (.deferred (some []))
  mono h := fun hh => ⟨h _ hh.1, hh.2⟩
  stable := fun hh _ hk => ⟨hh.1, by rw [hk D (Array.getElem?_eq_some_iff.1 hh.2).1 hh.1]; exact hh.2⟩
  here := fun hh => ⟨⟨hh.1, (Array.getElem?_eq_some_iff.1 hh.2).1⟩, hh.2⟩

/-- what a change of a loop's record, of a block of deferred calls, leaves alone -/
class FL (f : Fact) : Prop where
  h : ∀ {ok : Nat → Prop} {w : World} {l : Nat} {r : Loop} (r' : Loop), f.holds ok w → w.heap[l]? = some (.loop r) → f.holds ok (w.putObj l (.loop r'))
class FD (f : Fact) : Prop where
  h : ∀ {ok : Nat → Prop} {w : World} {D : Nat} {ds : Option (List Deferred)} (ds' : Option (List Deferred)), f.holds ok w → w.heap[D]? = some (.deferred ds) → f.holds ok (w.putObj D (.deferred ds'))
theorem sl_other {a : Option Addr} {xs : List Value} {ok : Nat → Prop} {w : World} {k : Nat} {o : Obj} (o' : Obj) (h : (Fact.sl a xs).holds ok w) (hk : w.heap[k]? = some o) (hn : ∀ cs T fz, o ≠ .cells cs T fz) : (Fact.sl a xs).holds ok (w.putObj k o') := by
  rcases h with h | ⟨b, off, cs, T, fz, h1, h2, h3, h4⟩
  · exact .inl h
  · refine .inr ⟨b, off, cs, T, fz, h1, h2, ?_, h4⟩
    rw [World.putObj_heap_other]
    · exact h3
    · intro e; subst e; rw [h3] at hk; cases hk; exact hn _ _ _ rfl
instance (a : Option Addr) (xs : List Value) : FL (Fact.sl a xs) := ⟨fun _ h hl => sl_other _ h hl (fun _ _ _ e => by cases e)⟩
instance (a : Option Addr) (xs : List Value) : FD (Fact.sl a xs) := ⟨fun _ h hl => sl_other _ h hl (fun _ _ _ e => by cases e)⟩
instance (D : Nat) : FL (Fact.dfr D) := ⟨fun {ok w l r} r' h hl => ⟨h.1, by rw [World.putObj_heap_other (by intro e; subst e; rw [h.2] at hl; cases hl)]; exact h.2⟩⟩
instance (l : Nat) (r : Loop) : FD (Fact.lp l r) := ⟨fun {ok w D ds} ds' h hl => ⟨h.1, by rw [World.putObj_heap_other (by intro e; subst e; rw [h.2] at hl; cases hl)]; exact h.2⟩⟩
class FLs (fs : List Fact) : Prop where
  h : ∀ f ∈ fs, FL f
class FDs (fs : List Fact) : Prop where
  h : ∀ f ∈ fs, FD f
instance : FLs [] := ⟨fun _ h => by cases h⟩
instance : FDs [] := ⟨fun _ h => by cases h⟩
instance (f : Fact) (fs : List Fact) [h1 : FL f] [h2 : FLs fs] : FLs (f :: fs) := ⟨fun g hg => (List.mem_cons.1 hg).elim (fun e => e ▸ h1) (h2.h g)⟩
instance (f : Fact) (fs : List Fact) [h1 : FD f] [h2 : FDs fs] : FDs (f :: fs) := ⟨fun g hg => (List.mem_cons.1 hg).elim (fun e => e ▸ h1) (h2.h g)⟩

section
variable {ok : Nat → Prop} {w0 w : World} {own : List Ent} {fs : List Fact}
theorem below_put {l : Nat} {o : Obj} (h : Below w0.heap.size w0 w) (hl : w0.heap.size ≤ l) : Below w0.heap.size w0 (w.putObj l o) :=
  ⟨h.os, h.tape, h.output, by simpa using h.size, fun b hb => by rw [World.putObj_heap_other (by omega)]; exact h.block b hb⟩
theorem own_put {l : Nat} {o o' : Obj} (h : St ok w0 own fs w) (hk : w.heap[l]? = some o) (hn : ∀ cs T fz, o ≠ .cells cs T fz) : ∀ x ∈ own, x.holds w0.heap.size (w.putObj l o') := fun x hx =>
  Ent.holds_same (h.own_ x hx) fun b hb => World.putObj_heap_other (fun e => by
    have := h.own_ x hx
    unfold Ent.holds at this
    rw [hb] at this
    subst e
    rw [this.2] at hk; cases hk; exact hn _ _ _ rfl)
theorem St.fact_head {f : Fact} (h : St ok w0 own (f :: fs) w) : f.holds (fun b => ok b ∧ b ∉ ids own) w := h.fact f (by simp)
theorem St.setLoop {l : Nat} {r : Loop} (r' : Loop) [hf : FLs fs] (hl : w0.heap.size ≤ l) (h : St ok w0 own (Fact.lp l r :: fs) w) : St ok w0 own (Fact.lp l r' :: fs) (w.putObj l (.loop r')) := by
  have h0 := h.fact_head
  refine ⟨h.okn, below_put h.below hl, own_put h h0.2 (fun _ _ _ e => by cases e), h.nd, fun f hfm => ?_⟩
  rcases List.mem_cons.1 hfm with rfl | hfm
  · exact ⟨h0.1, World.putObj_heap_same (Array.getElem?_eq_some_iff.1 h0.2).1⟩
  · exact (hf.h f hfm).h r' (h.fact f (by simp [hfm])) h0.2
theorem St.shutD {D : Nat} [hf : FDs fs] (hl : w0.heap.size ≤ D) (h : St ok w0 own (Fact.dfr D :: fs) w) : St ok w0 own fs (w.putObj D (.deferred none)) := by
  have h0 := h.fact_head
  exact ⟨h.okn, below_put h.below hl, own_put h h0.2 (fun _ _ _ e => by cases e), h.nd, fun f hfm => (hf.h f hfm).h none (h.fact f (by simp [hfm])) h0.2⟩
theorem St.allocObj (h : St ok w0 own fs w) (o : Obj) : St ok w0 own fs (w.alloc o) := by
  refine ⟨h.okn, h.below.alloc h.below.size _, fun x hx => Ent.holds_same (h.own_ x hx) fun b hxb => heap_push_old w _ b (h.lt (mem_ids hx hxb)).2, h.nd, fun f hf => ?_⟩
  exact f.stable (h.fact f hf) (by simp) fun b hlt _ => heap_push_old w _ b hlt
theorem St.enterLoop (h : St ok w0 own fs w) (r : Loop) : St ok w0 own (Fact.lp (w.heap.size + 1) r :: Fact.dfr w.heap.size :: fs) ((w.alloc (.deferred (some []))).alloc (.loop r)) := by
  have h1 := (h.allocObj (.deferred (some []))).allocObj (.loop r)
  have hlt : ∀ b, w.heap.size ≤ b → ok b ∧ b ∉ ids own := fun b hb => h.fresh b hb
  refine (h1.addF (f := Fact.dfr w.heap.size) ⟨hlt _ (Nat.le_refl _), ?_⟩).addF ⟨hlt _ (Nat.le_succ _), ?_⟩
  · exact (Below.heap_alloc _ _ _ (by simp)).trans (World.alloc_heap_new w _)
  · have := World.alloc_heap_new (w.alloc (.deferred (some []))) (.loop r); rwa [World.size_alloc] at this
end

/-! ### a round -/
/-- the record of a loop: ready, or left by a jump -/
abbrev rcd (r : Loop) (c : Option Code) : Loop := { r with state := if c.isNone then .ready else .done, pending := c }
section
variable {P : Program} {ok : Nat → Prop} {w0 : World} {own : List Ent} {fs : List Fact} {n l : Nat} {L : Slots} {r : Loop} {R : Ending → World → Prop} {body : Code}
def AfterA (P : Program) (l : Nat) (body : Code) (R : Ending → World → Prop) (a : Act) (w : World) : Prop := ∃ w2, (Instr.beginRound l).run P w = .ok () w2 ∧ cdX (some l) P body (roundPost P l R) a w2
theorem WX.begin [FLs fs] (hl : w0.heap.size ≤ l) (k : WC [] (some l) P body (roundPost P l R) n L (St ok w0 own (Fact.lp l { rcd r none with state := .busy } :: fs))) :
    WX [] (Exit.then (AfterA P l body R) (fun _ _ _ => False)) .normal n L (St ok w0 own (Fact.lp l (rcd r none) :: fs)) := fun a w hF hS =>
  ⟨_, run_beginRound hS.fact_head.2 rfl, k a _ hF (hS.setLoop _ hl)⟩
theorem WX.rnext [FLs fs] {ds : List Deferred} (hl : w0.heap.size ≤ l) (h : ∀ w, St ok w0 own (Fact.lp l (rcd r none) :: fs) w → R (.returned (.bool true)) w) : WX ds (roundPost P l R) .normal n L (St ok w0 own (Fact.lp l { rcd r none with state := .busy } :: fs)) := fun a w hF hS =>
  ⟨_, _, run_endRound none hS.fact_head.2, h _ (hS.setLoop _ hl)⟩
theorem WX.rret [FLs fs] {ds : List Deferred} (hl : w0.heap.size ≤ l) (h : ∀ w, St ok w0 own (Fact.lp l (rcd r (some .ret)) :: fs) w → R (.returned (.bool false)) w) : WX ds (roundPost P l R) .ret n L (St ok w0 own (Fact.lp l { rcd r none with state := .busy } :: fs)) := fun a w hF hS =>
  ⟨_, _, run_endRound (some .ret) hS.fact_head.2, h _ (hS.setLoop _ hl)⟩
theorem WX.rexit [FLs fs] {ds : List Deferred} {id : Nat} (hl : w0.heap.size ≤ l) (h : ∀ w, St ok w0 own (Fact.lp l (rcd r (some (.exit id))) :: fs) w → R (.returned (.bool false)) w) : WX ds (roundPost P l R) (.exit id) n L (St ok w0 own (Fact.lp l { rcd r none with state := .busy } :: fs)) := fun a w hF hS =>
  ⟨_, _, run_endRound (some (.exit id)) hS.fact_head.2, h _ (hS.setLoop _ hl)⟩
theorem round_of {f : FuncId} {assign : Code} {tmps : Array Value} {w : World} (hF : Fr [] { tmps := tmps, defers := [] } n L) (hS : St ok w0 own fs w) (k : WC [] (some l) P assign (Exit.then (AfterA P l body R) (fun _ _ _ => False)) n L (St ok w0 own fs)) :
    RoundIn Fence.wide 0 P l f tmps assign body w R := roundIn_of_wpIn (F := Fence.wide) trivial (k _ w hF hS)
end

/-! ### the iterator's side -/
/-- What a call of yield does: σ: the caller's state; 'after' what a round makes of it; 'stop': the jump by which a round leaves. -/
def YOk {σ γ α : Type} (P : Program) (l : Nat) (r : Loop) (ok : Nat → Prop) (w0 : World) (fs : List Fact) (CO : σ → γ → List Ent) (pg : σ → γ → Prop) (inv : σ → α → Prop) (after : σ → α → σ) (stop : σ → α → Option Code) (enc : α → Array Value) : Prop :=
  ∀ (s : σ) (g : γ) (x : α) (ext : List Ent) (w : World), inv s x → pg s g → St ok w0 (ext ++ CO s g) (Fact.lp l (rcd r none) :: fs) w → ∃ f tmps assign body, (Instr.yield l (enc x)).run P w = .ok (.round l f tmps assign body) w ∧
    RoundIn Fence.wide 0 P l f tmps assign body w (fun e w' => e = .returned (.bool (stop s x).isNone) ∧ ∃ g', (stop s x = none → pg (after s x) g') ∧ St ok w0 (ext ++ CO (after s x) g') (Fact.lp l (rcd r (stop s x)) :: fs) w')
section
variable {ds : List Deferred} {P : Program} {o : Oper} {n : Nat} {L : Slots} {ok : Nat → Prop} {w0 : World} {fs : List Fact} {σ γ α : Type} {l : Nat} {r : Loop} {CO : σ → γ → List Ent} {pg : σ → γ → Prop} {inv : σ → α → Prop} {after : σ → α → σ} {stop : σ → α → Option Code} {enc : α → Array Value}
theorem og_yield {c : Operand} {as : List Operand} {tys : Array TypeId} {args : List Value} {s : σ} {g : γ} (hY : YOk P l r ok w0 fs CO pg inv after stop enc) (ext : List Ent) (x : α) (hop : o.op = .call { callee := .value c, args := as.toArray, argTypes := tys }) (hc : oper L c = some (.func (.yield l) #[] #[])) (hargs : argsOf L as = some args) (hx : args.toArray = enc x) (hi : inv s x) (hg : pg s g) :
    Og ds P o n L (St ok w0 (ext ++ CO s g) (Fact.lp l (rcd r none) :: fs)) (fun _ : γ => .bool (stop s x).isNone) (fun g' w => (stop s x = none → pg (after s x) g') ∧ St ok w0 (ext ++ CO (after s x) g') (Fact.lp l (rcd r (stop s x)) :: fs) w) := by
  intro a w hF hS
  obtain ⟨f, tmps, assign, body, hy, hr⟩ := hY s g x ext w hi hg hS
  unfold opX
  have e1 : (execOp a.eval o).run P w = .ok (.round l f tmps assign body) w := by
    have ha := argsOf_eval hF hargs
    simp only [execOp, hop, resolve, hF.eval hc, Deferred.ofValue, invoke]
    simp [ha, hx, hy]
  rw [e1]
  refine ⟨fun h => absurd h (by decide), RoundIn.mono hr fun e w' hh => ?_⟩
  obtain ⟨rfl, g', hg', hS'⟩ := hh
  exact ⟨_, rfl, g', rfl, hg', hS'⟩
end

/-! ### the statement -/
abbrev mark (D : Nat) : Deferred := { target := .collected D, args := #[] }
section
variable {P : Program} {ok : Nat → Prop} {w0 : World} {own : List Ent} {fs : List Fact} {n : Nat} {L : Slots} {Q : Exit → Act → World → Prop} {σ γ α : Type} {CO : σ → γ → List Ent} {pg : σ → γ → Prop} {inv : σ → α → Prop} {after : σ → α → σ} {stop : σ → α → Option Code} {enc : α → Array Value}
theorem WC.range [hfl : FLs fs] {g : Operand} {gf : FuncId} {lb : Array Value} {ps : Array Tmp} {assign body : Code} (s0 : σ) (g0 : γ) (sf : σ) (cf : Option Code) (hg0 : pg s0 g0) (hg : oper L g = some (.func (.func gf) #[] lb)) (hgo : goes P gf = true) (hps : ∀ x, (enc x).size = ps.size)
    (hS : ∀ w, St ok w0 own fs w → St ok w0 (CO s0 g0) fs w)
    (round : ∀ (l : Nat) (r : Loop) (D : Nat) (f : FuncId) (a : Act) (s : σ) (g : γ) (x : α) (ext : List Ent) (w : World), w0.heap.size ≤ l → inv s x → pg s g → Fr [] a n L → St ok w0 (ext ++ CO s g) (Fact.lp l (rcd r none) :: Fact.dfr D :: fs) w →
      RoundIn Fence.wide 0 P l f ((ps.zip (enc x)).foldl (fun tmps (t, a) => tmps.setIfInBounds t a) a.tmps) assign body w (fun e w' => e = .returned (.bool (stop s x).isNone) ∧ ∃ g', (stop s x = none → pg (after s x) g') ∧ St ok w0 (ext ++ CO (after s x) g') (Fact.lp l (rcd r (stop s x)) :: Fact.dfr D :: fs) w'))
    (iter : ∀ (l : Nat) (r : Loop) (D : Nat) (w : World), w0.heap.size ≤ l → YOk P l r ok w0 (Fact.dfr D :: fs) CO pg inv after stop enc → St ok w0 (CO s0 g0) (Fact.lp l (rcd r none) :: Fact.dfr D :: fs) w →
      Calls P gf (#[.func (.yield l) #[] #[]] ++ lb) w (fun e w' => (∃ v, e = .returned v) ∧ ∃ g', (cf = none → pg sf g') ∧ St ok w0 (CO sf g') (Fact.lp l (rcd r cf) :: Fact.dfr D :: fs) w'))
    (done : ∀ D g', w0.heap.size ≤ D → pg sf g' → cf = none → WX [mark D] Q .normal n L (St ok w0 (CO sf g') (Fact.dfr D :: fs)))
    (left : ∀ D g' c, w0.heap.size ≤ D → cf = some c → WC [mark D] none P c Q n L (St ok w0 (CO sf g') (Fact.dfr D :: fs))) :
    WC [] none P (.rangeFunc g ps assign body) Q n L (St ok w0 own fs) := by
  intro a w hF hSt
  refine wpIn_rangeFunc (F := wd none) fun fn _ => ?_
  have hst := hS w hSt
  let r : Loop := { state := .ready, pending := none, fn, tmps := a.tmps, params := ps, assign, body, defers := w.heap.size }
  have hr : rcd r none = r := rfl
  have h1 := hst.enterLoop r
  have hsz : w0.heap.size ≤ w.heap.size := hst.below.size
  have hY : YOk P (w.heap.size + 1) r ok w0 (Fact.dfr w.heap.size :: fs) CO pg inv after stop enc := by
    intro s g x ext w' hi hpg hS'
    exact ⟨_, _, _, _, run_yield hS'.fact_head.2 (hps x), round (w.heap.size + 1) r w.heap.size fn a s g x ext w' (by omega) hi hpg hF hS'⟩
  obtain ⟨W1, hW1⟩ : ∃ W1, W1 = (w.alloc (.deferred (some []))).alloc (.loop r) := ⟨_, rfl⟩
  rw [← hW1] at h1
  refine ⟨w.heap.size + 1, [mark w.heap.size], W1, { target := .fn (.func gf) lb, args := #[.func (.yield (w.heap.size + 1)) #[] #[]] }, W1, gf, #[.func (.yield (w.heap.size + 1)) #[] #[]] ++ lb, W1, by rw [hW1]; exact run_enterLoop_outer _ _ _ _ _, ?_, fun _ _ => trivial, ?_, fun h => absurd h (by decide), ?_⟩
  · simp only [resolve, hF.eval hg]
    simp [go_sem, r, Deferred.ofValue, Act.eval]
  · simp [invoke, run_callFunc hgo]
  · refine callsIn_wide.2 ((iter (w.heap.size + 1) r w.heap.size _ (by omega) hY h1).mono fun e w' hh => ?_)
    obtain ⟨⟨v, rfl⟩, g', hg', hS'⟩ := hh
    have hF' : Fr [mark w.heap.size] { a with defers := [mark w.heap.size] ++ a.defers } n L := ⟨hF.size, by simp [hF.defers], hF.at_⟩
    refine ⟨cf, _, run_endLoop hS'.fact_head.2 (by cases cf <;> simp [rcd]), ?_⟩
    have hS'' := (hS'.setLoop { rcd r cf with state := .exhausted } (by omega)).dropF
    cases cf with
    | none => exact done w.heap.size g' hsz (hg' rfl) rfl _ _ hF' hS''
    | some c => exact left w.heap.size g' c hsz rfl _ _ hF' hS''
end

/-! ### functions that hold such a statement -/
theorem Fr.tm {ds : List Deferred} {a : Act} {n : Nat} {L : Slots} (h : Fr ds a n L) : Fr [] { tmps := a.tmps, defers := [] } n L := ⟨h.size, rfl, h.at_⟩
theorem fold1 (p : Tmp) (v : Value) (t : Array Value) : (#[p].zip #[v]).foldl (fun tmps (t, a) => tmps.setIfInBounds t a) t = t.setIfInBounds p v := by simp
theorem fold2 (p q : Tmp) (v u : Value) (t : Array Value) : (#[p, q].zip #[v, u]).foldl (fun tmps (t, a) => tmps.setIfInBounds t a) t = (t.setIfInBounds p v).setIfInBounds q u := by simp
class HasD (fs : List Fact) (D : Nat) : Prop where
  h : Fact.dfr D ∈ fs
instance (priority := high) (D : Nat) (fs : List Fact) : HasD (Fact.dfr D :: fs) D := ⟨by simp⟩
instance (D : Nat) (f : Fact) (fs : List Fact) [h : HasD fs D] : HasD (f :: fs) D := ⟨by simp [h.h]⟩
section
variable {P : Program} {fn : Func} {f : FuncId} {c : Code} {R : Ending → World → Prop} {n : Nat} {L : Slots} {S : World → Prop} {ok : Nat → Prop} {w0 : World} {own : List Ent} {fs : List Fact}
theorem enterM {args : Array Value} {w : World} (hf : P.funcs[f]? = some fn) (hb : fn.body = some c) (hn : fn.ntmps = n) (ha : Nat.ble args.size n = true) (hL : ∀ k v, slot L k = some v → args[k]? = some v) (hS : S w) (k : WC [] none P c (bodyPostM Fence.wide 0 P fn R) n L S) : Calls P f args w R := by
  refine callsIn_wide.1 (callsIn_of_wp_marks (F := Fence.wide) (n := 0) hf hb trivial (k _ w (Fr.enter ?_ hL) hS))
  have := Nat.le_of_ble_eq_true ha
  omega
theorem retM_run {ds : List Deferred} {a : Act} {w : World} {rs : List ResultVar} {vs : List Value} (hr : fn.results = rs.toArray) (hv : RetV P L own rs vs) (hF : Fr ds a n L) (hS : St ok w0 own fs w) : (results fn a.tmps).run P w = .ok (tup vs) w := by
  have hm := retV_run hF.tm hS hv
  rw [results_eq, hr, List.mapM_toArray]
  simp only [Sem.run_bind, map_eq_pure_bind, hm, Result.andThen, Sem.run_pure]
  match vs with
  | [] => rfl
  | [v] => rfl
  | v :: u :: r => simp [tup]
theorem WX.retM0 {rs : List ResultVar} {vs : List Value} (hr : fn.results = rs.toArray) (hv : RetV P L own rs vs) (h : ∀ w, St ok w0 own fs w → R (.returned (tup vs)) w) : WX [] (bodyPostM Fence.wide 0 P fn R) .ret n L (St ok w0 own fs) := fun a w hF hS => by
  show LeavesInM Fence.wide 0 P fn a.tmps R a.defers .returning w
  rw [hF.defers]
  exact ⟨tup vs, retM_run hr hv hF hS, h w hS⟩
theorem WX.retM1 {D : Nat} [hd : HasD fs D] {rs : List ResultVar} {vs : List Value} (hD : w0.heap.size ≤ D) (hr : fn.results = rs.toArray) (hv : RetV P L own rs vs) (h : ∀ w, St ok w0 own [] w → R (.returned (tup vs)) w) : WX [mark D] (bodyPostM Fence.wide 0 P fn R) .ret n L (St ok w0 own fs) := fun a w hF hS => by
  show LeavesInM Fence.wide 0 P fn a.tmps R a.defers .returning w
  rw [hF.defers]
  have hS1 : St ok w0 own [Fact.dfr D] w := hS.sub (List.Sublist.refl _) (fun f hf => by simp at hf; subst hf; exact hd.h)
  have hS2 := hS1.shutD hD
  exact ⟨by simp, .inl ⟨D, _, rfl, run_takeDeferred hS1.fact_head.2, tup vs, retM_run hr hv hF hS2, h _ hS2⟩⟩
end

/-! ### labels -/
section
variable {ds : List Deferred} {ρ : Option Nat} {P : Program} {c : Code} {Q : Exit → Act → World → Prop} {n : Nat} {L : Slots} {S : World → Prop}
theorem WC.scope (k : WC ds none P c (Exit.noGoto Q) n L S) : WC ds none P (.scope c) Q n L S := fun a w hF hS => wpIn_wide.2 (wp_scope_straight (wpIn_wide.1 (k a w hF hS)))
theorem WC.label {l : Nat} (k : WX ds Q .normal n L S) : WC ds ρ P (.label l) Q n L S := fun a w hF hS => wpIn_label (k a w hF hS)
theorem WX.scope_normal (k : WX ds Q .normal n L S) : WX ds (Exit.noGoto Q) .normal n L S := k
theorem WX.scope_ret (k : WX ds Q .ret n L S) : WX ds (Exit.noGoto Q) .ret n L S := k
theorem WX.scope_exit {id : Nat} (k : WX ds Q (.exit id) n L S) : WX ds (Exit.noGoto Q) (.exit id) n L S := k
end
section
variable {ds : List Deferred} {P : Program} {ops : List Oper} {Q : Exit → Act → World → Prop} {n : Nat} {l : List Oper} {L : Slots} {ok : Nat → Prop} {w0 : World} {own : List Ent} {fs : List Fact} {e : Ent}
theorem WL.app1 (k : WL ds P ops Q n l L (St ok w0 (e :: own) fs)) : WL ds P ops Q n l L (St ok w0 ([e] ++ own) fs) := k
theorem WL.app0 (k : WL ds P ops Q n l L (St ok w0 own fs)) : WL ds P ops Q n l L (St ok w0 ([] ++ own) fs) := k
end
end Go.Proofs.YtbcnnkcddilfjaaGreat
