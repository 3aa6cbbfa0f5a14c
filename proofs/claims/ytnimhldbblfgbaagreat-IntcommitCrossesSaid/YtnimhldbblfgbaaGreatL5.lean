/-
  Parts of the walk: Rng Str Num Lib1 Plus App Ntl1.
-/
import Derived.Test.YtnimhldbblfgbaaGreatL4
import Derived.RangeFuncLeaves
import Derived.RangeFuncRecord
import Derived.Scope
namespace Go.Proofs.YtnimhldbblfgbaaGreat
set_option linter.unusedSimpArgs false
set_option linter.unusedVariables false
open Go.RowKit
def Fact.lp (l : Nat) (r : Loop) : Fact where
 holds ok w := ok l ∧ w.heap[l]? = some (.loop r)
 mono h := fun hh => ⟨h _ hh.1, hh.2⟩
 stable := fun hh _ hk => ⟨hh.1, by rw [hk l (Array.getElem?_eq_some_iff.1 hh.2).1 hh.1]; exact hh.2⟩
 here := fun hh => ⟨⟨hh.1, (Array.getElem?_eq_some_iff.1 hh.2).1⟩, hh.2⟩
def Fact.dfr (D : Nat) : Fact where
 holds ok w := ok D ∧ w.heap[D]? = some (.deferred (some []))
 mono h := fun hh => ⟨h _ hh.1, hh.2⟩
 stable := fun hh _ hk => ⟨hh.1, by rw [hk D (Array.getElem?_eq_some_iff.1 hh.2).1 hh.1]; exact hh.2⟩
 here := fun hh => ⟨⟨hh.1, (Array.getElem?_eq_some_iff.1 hh.2).1⟩, hh.2⟩
/-- what a change of a loop's record, of a block of deferred calls, leaves alone -/
class FL (f : Fact) : Prop where
 h : ∀ {ok : Nat → Prop} {w : World} {l : Nat} {r : Loop} (r' : Loop), f.holds ok w → w.heap[l]? = some (.loop r) → f.holds ok (w.putObj l (.loop r'))
class FD (f : Fact) : Prop where
 h : ∀ {ok : Nat → Prop} {w : World} {D : Nat} {ds : Option (List Deferred)} (ds' : Option (List Deferred)), f.holds ok w → w.heap[D]? = some (.deferred ds) → f.holds ok (w.putObj D (.deferred ds'))
theorem sl_other {a : Option Addr} {xs : List Value} {ok : Nat → Prop} {w : World} {k : Nat} {o : Obj} (o' : Obj) (h : (Fact.sl a xs).holds ok w) (hk : w.heap[k]? = some o) (hn : ∀ cs T fz, o ≠ .cells cs T fz) : (Fact.sl a xs).holds ok (w.putObj k o') := by
 rcases h with h | ⟨b, off, cs, T, fz, h1, h2, h3, h4⟩
 ·exact .inl h
 ·refine .inr ⟨b, off, cs, T, fz, h1, h2, ?_, h4⟩
  rw [World.putObj_heap_other]
  ·exact h3
  ·intro e; subst e; rw [h3] at hk; cases hk; exact hn _ _ _ rfl
instance (a : Option Addr) (xs : List Value) : FL (Fact.sl a xs) := ⟨fun _ h hl => sl_other _ h hl (fun _ _ _ e => by cases e)⟩
instance (a : Option Addr) (xs : List Value) : FD (Fact.sl a xs) := ⟨fun _ h hl => sl_other _ h hl (fun _ _ _ e => by cases e)⟩
instance (D : Nat) : FL (Fact.dfr D) := ⟨fun {ok w l r} r' h hl => ⟨h.1, by rw [World.putObj_heap_other (by intro e; subst e; rw [h.2] at hl; cases hl)]; exact h.2⟩⟩
instance (l : Nat) (r : Loop) : FD (Fact.lp l r) := ⟨fun {ok w D ds} ds' h hl => ⟨h.1, by rw [World.putObj_heap_other (by intro e; subst e; rw [h.2] at hl; cases hl)]; exact h.2⟩⟩
class FLs (fs : List Fact) : Prop where
 h : ∀ f ∈ fs, FL f
class FDs (fs : List Fact) : Prop where
 h : ∀ f ∈ fs, FD f
instance : FLs [] := ⟨fun _ h => by cases h⟩
instance : FDs [] := ⟨fun _ h => by cases h⟩
instance (f : Fact) (fs : List Fact) [h1 : FL f] [h2 : FLs fs] : FLs (f :: fs) := ⟨fun g hg => (List.mem_cons.1 hg).elim (fun e => e ▸ h1) (h2.h g)⟩
instance (f : Fact) (fs : List Fact) [h1 : FD f] [h2 : FDs fs] : FDs (f :: fs) := ⟨fun g hg => (List.mem_cons.1 hg).elim (fun e => e ▸ h1) (h2.h g)⟩
section
variable {ok : Nat → Prop} {w0 w : World} {own : List Ent} {fs : List Fact}
theorem below_put {l : Nat} {o : Obj} (h : Below w0.heap.size w0 w) (hl : w0.heap.size ≤ l) : Below w0.heap.size w0 (w.putObj l o) :=
 ⟨h.os, h.tape, h.output, by simpa using h.size, fun b hb => by rw [World.putObj_heap_other (by omega)]; exact h.block b hb⟩
theorem own_put {l : Nat} {o o' : Obj} (h : St ok w0 own fs w) (hk : w.heap[l]? = some o) (hn : ∀ cs T fz, o ≠ .cells cs T fz) : ∀ x ∈ own, x.holds w0.heap.size (w.putObj l o') := fun x hx =>
 Ent.holds_same (h.own_ x hx) fun b hb => World.putObj_heap_other (fun e => by
  have := h.own_ x hx
  unfold Ent.holds at this
  rw [hb] at this
  subst e
  rw [this.2] at hk; cases hk; exact hn _ _ _ rfl)
theorem St.fact_head {f : Fact} (h : St ok w0 own (f :: fs) w) : f.holds (fun b => ok b ∧ b ∉ ids own) w := h.fact f (by simp)
theorem St.setLoop {l : Nat} {r : Loop} (r' : Loop) [hf : FLs fs] (hl : w0.heap.size ≤ l) (h : St ok w0 own (Fact.lp l r :: fs) w) : St ok w0 own (Fact.lp l r' :: fs) (w.putObj l (.loop r')) := by
 have h0 := h.fact_head
 refine ⟨h.okn, below_put h.below hl, own_put h h0.2 (fun _ _ _ e => by cases e), h.nd, fun f hfm => ?_⟩
 rcases List.mem_cons.1 hfm with rfl | hfm
 ·exact ⟨h0.1, World.putObj_heap_same (Array.getElem?_eq_some_iff.1 h0.2).1⟩
 ·exact (hf.h f hfm).h r' (h.fact f (by simp [hfm])) h0.2
theorem St.shutD {D : Nat} [hf : FDs fs] (hl : w0.heap.size ≤ D) (h : St ok w0 own (Fact.dfr D :: fs) w) : St ok w0 own fs (w.putObj D (.deferred none)) := by
 have h0 := h.fact_head
 exact ⟨h.okn, below_put h.below hl, own_put h h0.2 (fun _ _ _ e => by cases e), h.nd, fun f hfm => (hf.h f hfm).h none (h.fact f (by simp [hfm])) h0.2⟩
theorem St.allocObj (h : St ok w0 own fs w) (o : Obj) : St ok w0 own fs (w.alloc o) := by
 refine ⟨h.okn, h.below.alloc h.below.size _, fun x hx => Ent.holds_same (h.own_ x hx) fun b hxb => heap_push_old w _ b (h.lt (mem_ids hx hxb)).2, h.nd, fun f hf => ?_⟩
 exact f.stable (h.fact f hf) (by simp) fun b hlt _ => heap_push_old w _ b hlt
theorem St.enterLoop (h : St ok w0 own fs w) (r : Loop) : St ok w0 own (Fact.lp (w.heap.size + 1) r :: Fact.dfr w.heap.size :: fs) ((w.alloc (.deferred (some []))).alloc (.loop r)) := by
 have h1 := (h.allocObj (.deferred (some []))).allocObj (.loop r)
 have hlt : ∀ b, w.heap.size ≤ b → ok b ∧ b ∉ ids own := fun b hb => h.fresh b hb
 refine (h1.addF (f := Fact.dfr w.heap.size) ⟨hlt _ (Nat.le_refl _), ?_⟩).addF ⟨hlt _ (Nat.le_succ _), ?_⟩
 ·exact (Below.heap_alloc _ _ _ (by simp)).trans (World.alloc_heap_new w _)
 ·have := World.alloc_heap_new (w.alloc (.deferred (some []))) (.loop r); rwa [World.size_alloc] at this
end
/-! ### a round -/
/-- the record of a loop: ready, or left by a jump -/
abbrev rcd (r : Loop) (c : Option Code) : Loop := { r with state := if c.isNone then .ready else .done, pending := c }
section
variable {P : Program} {ok : Nat → Prop} {w0 : World} {own : List Ent} {fs : List Fact} {n l : Nat} {L : Slots} {r : Loop} {R : Ending → World → Prop} {body : Code}
def AfterA (P : Program) (l : Nat) (body : Code) (R : Ending → World → Prop) (a : Act) (w : World) : Prop := ∃ w2, (Instr.beginRound l).run P w = .ok () w2 ∧ cdX (some l) P body (roundPost P l R) a w2
theorem WX.begin [FLs fs] (hl : w0.heap.size ≤ l) (k : WC [] (some l) P body (roundPost P l R) n L (St ok w0 own (Fact.lp l { rcd r none with state := .busy } :: fs))) :
  WX [] (Exit.then (AfterA P l body R) (fun _ _ _ => False)) .normal n L (St ok w0 own (Fact.lp l (rcd r none) :: fs)) := fun a w hF hS =>
 ⟨_, run_beginRound hS.fact_head.2 rfl, k a _ hF (hS.setLoop _ hl)⟩
theorem WX.rnext [FLs fs] {ds : List Deferred} (hl : w0.heap.size ≤ l) (h : ∀ w, St ok w0 own (Fact.lp l (rcd r none) :: fs) w → R (.returned (.bool true)) w) : WX ds (roundPost P l R) .normal n L (St ok w0 own (Fact.lp l { rcd r none with state := .busy } :: fs)) := fun a w hF hS =>
 ⟨_, _, run_endRound none hS.fact_head.2, h _ (hS.setLoop _ hl)⟩
theorem WX.rret [FLs fs] {ds : List Deferred} (hl : w0.heap.size ≤ l) (h : ∀ w, St ok w0 own (Fact.lp l (rcd r (some .ret)) :: fs) w → R (.returned (.bool false)) w) : WX ds (roundPost P l R) .ret n L (St ok w0 own (Fact.lp l { rcd r none with state := .busy } :: fs)) := fun a w hF hS =>
 ⟨_, _, run_endRound (some .ret) hS.fact_head.2, h _ (hS.setLoop _ hl)⟩
theorem WX.rexit [FLs fs] {ds : List Deferred} {id : Nat} (hl : w0.heap.size ≤ l) (h : ∀ w, St ok w0 own (Fact.lp l (rcd r (some (.exit id))) :: fs) w → R (.returned (.bool false)) w) : WX ds (roundPost P l R) (.exit id) n L (St ok w0 own (Fact.lp l { rcd r none with state := .busy } :: fs)) := fun a w hF hS =>
 ⟨_, _, run_endRound (some (.exit id)) hS.fact_head.2, h _ (hS.setLoop _ hl)⟩
theorem round_of {f : FuncId} {assign : Code} {tmps : Array Value} {w : World} (hF : Fr [] { tmps := tmps, defers := [] } n L) (hS : St ok w0 own fs w) (k : WC [] (some l) P assign (Exit.then (AfterA P l body R) (fun _ _ _ => False)) n L (St ok w0 own fs)) :
  RoundIn Fence.wide 0 P l f tmps assign body w R := roundIn_of_wpIn (F := Fence.wide) trivial (k _ w hF hS)
end
/-! ### the iterator's side -/
/-- What a call of yield does: σ: the caller's state; 'after' what a round makes of it; 'stop': the jump by which a round leaves. -/
def YOk {σ γ α : Type} (P : Program) (l : Nat) (r : Loop) (ok : Nat → Prop) (w0 : World) (fs : List Fact) (CO : σ → γ → List Ent) (pg : σ → γ → Prop) (inv : σ → α → Prop) (after : σ → α → σ) (stop : σ → α → Option Code) (enc : α → Array Value) : Prop :=
 ∀ (s : σ) (g : γ) (x : α) (ext : List Ent) (w : World), inv s x → pg s g → St ok w0 (ext ++ CO s g) (Fact.lp l (rcd r none) :: fs) w → ∃ f tmps assign body, (Instr.yield l (enc x)).run P w = .ok (.round l f tmps assign body) w ∧
  RoundIn Fence.wide 0 P l f tmps assign body w (fun e w' => e = .returned (.bool (stop s x).isNone) ∧ ∃ g', (stop s x = none → pg (after s x) g') ∧ St ok w0 (ext ++ CO (after s x) g') (Fact.lp l (rcd r (stop s x)) :: fs) w')
section
variable {ds : List Deferred} {P : Program} {o : Oper} {n : Nat} {L : Slots} {ok : Nat → Prop} {w0 : World} {fs : List Fact} {σ γ α : Type} {l : Nat} {r : Loop} {CO : σ → γ → List Ent} {pg : σ → γ → Prop} {inv : σ → α → Prop} {after : σ → α → σ} {stop : σ → α → Option Code} {enc : α → Array Value}
theorem og_yield {c : Operand} {as0 : List Operand} {tys : Array TypeId} {args : List Value} {s : σ} {g : γ} (hY : YOk P l r ok w0 fs CO pg inv after stop enc) (ext : List Ent) (x : α) (hop : o.op = .call { callee := .value c, args := as0.toArray, argTypes := tys }) (hc : oper L c = some (.func (.yield l) #[] #[])) (hargs : argsOf L as0 = some args) (hx : args.toArray = enc x) (hi : inv s x) (hg : pg s g) :
  Og ds P o n L (St ok w0 (ext ++ CO s g) (Fact.lp l (rcd r none) :: fs)) (fun _ : γ => .bool (stop s x).isNone) (fun g' w => (stop s x = none → pg (after s x) g') ∧ St ok w0 (ext ++ CO (after s x) g') (Fact.lp l (rcd r (stop s x)) :: fs) w) := by
 intro a w hF hS
 obtain ⟨f, tmps, assign, body, hy, hr⟩ := hY s g x ext w hi hg hS
 unfold opX
 have e1 : (execOp a.eval o).run P w = .ok (.round l f tmps assign body) w := by
  have ha := argsOf_eval hF hargs
  simp only [execOp, hop, resolve, hF.eval hc, Deferred.ofValue, invoke]
  simp [ha, hx, hy]
 rw [e1]
 refine ⟨fun h => absurd h (by decide), RoundIn.mono hr fun e w' hh => ?_⟩
 obtain ⟨rfl, g', hg', hS'⟩ := hh
 exact ⟨_, rfl, g', rfl, hg', hS'⟩
end
/-! ### the statement -/
abbrev mark (D : Nat) : Deferred := { target := .collected D, args := #[] }
section
variable {P : Program} {ok : Nat → Prop} {w0 : World} {own : List Ent} {fs : List Fact} {n : Nat} {L : Slots} {Q : Exit → Act → World → Prop} {σ γ α : Type} {CO : σ → γ → List Ent} {pg : σ → γ → Prop} {inv : σ → α → Prop} {after : σ → α → σ} {stop : σ → α → Option Code} {enc : α → Array Value}
theorem WC.range [hfl : FLs fs] {g : Operand} {gf : FuncId} {lb : Array Value} {ps : Array Tmp} {assign body : Code} (s0 : σ) (g0 : γ) (sf : σ) (cf : Option Code) (hg0 : pg s0 g0) (hg : oper L g = some (.func (.func gf) #[] lb)) (hgo : goes P gf = true) (hps : ∀ x, (enc x).size = ps.size)
  (hS : ∀ w, St ok w0 own fs w → St ok w0 (CO s0 g0) fs w)
  (round : ∀ (l : Nat) (r : Loop) (D : Nat) (f : FuncId) (a : Act) (s : σ) (g : γ) (x : α) (ext : List Ent) (w : World), w0.heap.size ≤ l → inv s x → pg s g → Fr [] a n L → St ok w0 (ext ++ CO s g) (Fact.lp l (rcd r none) :: Fact.dfr D :: fs) w →
   RoundIn Fence.wide 0 P l f ((ps.zip (enc x)).foldl (fun tmps (t, a) => tmps.setIfInBounds t a) a.tmps) assign body w (fun e w' => e = .returned (.bool (stop s x).isNone) ∧ ∃ g', (stop s x = none → pg (after s x) g') ∧ St ok w0 (ext ++ CO (after s x) g') (Fact.lp l (rcd r (stop s x)) :: Fact.dfr D :: fs) w'))
  (iter : ∀ (l : Nat) (r : Loop) (D : Nat) (w : World), w0.heap.size ≤ l → YOk P l r ok w0 (Fact.dfr D :: fs) CO pg inv after stop enc → St ok w0 (CO s0 g0) (Fact.lp l (rcd r none) :: Fact.dfr D :: fs) w →
   Calls P gf (#[.func (.yield l) #[] #[]] ++ lb) w (fun e w' => (∃ v, e = .returned v) ∧ ∃ g', (cf = none → pg sf g') ∧ St ok w0 (CO sf g') (Fact.lp l (rcd r cf) :: Fact.dfr D :: fs) w'))
  (done : ∀ D g', w0.heap.size ≤ D → pg sf g' → cf = none → WX [mark D] Q .normal n L (St ok w0 (CO sf g') (Fact.dfr D :: fs)))
  (left : ∀ D g' c, w0.heap.size ≤ D → cf = some c → WC [mark D] none P c Q n L (St ok w0 (CO sf g') (Fact.dfr D :: fs))) :
  WC [] none P (.rangeFunc g ps assign body) Q n L (St ok w0 own fs) := by
 intro a w hF hSt
 refine wpIn_rangeFunc (F := wd none) fun fn _ => ?_
 have hst := hS w hSt
 let r : Loop := { state := .ready, pending := none, fn, tmps := a.tmps, params := ps, assign, body, defers := w.heap.size }
 have hr : rcd r none = r := rfl
 have h1 := hst.enterLoop r
 have hsz : w0.heap.size ≤ w.heap.size := hst.below.size
 have hY : YOk P (w.heap.size + 1) r ok w0 (Fact.dfr w.heap.size :: fs) CO pg inv after stop enc := by
  intro s g x ext w' hi hpg hS'
  exact ⟨_, _, _, _, run_yield hS'.fact_head.2 (hps x), round (w.heap.size + 1) r w.heap.size fn a s g x ext w' (by omega) hi hpg hF hS'⟩
 obtain ⟨W1, hW1⟩ : ∃ W1, W1 = (w.alloc (.deferred (some []))).alloc (.loop r) := ⟨_, rfl⟩
 rw [← hW1] at h1
 refine ⟨w.heap.size + 1, [mark w.heap.size], W1, { target := .fn (.func gf) lb, args := #[.func (.yield (w.heap.size + 1)) #[] #[]] }, W1, gf, #[.func (.yield (w.heap.size + 1)) #[] #[]] ++ lb, W1, by rw [hW1]; exact run_enterLoop_outer _ _ _ _ _, ?_, fun _ _ => trivial, ?_, fun h => absurd h (by decide), ?_⟩
 ·simp only [resolve, hF.eval hg]
  simp [go_sem, r, Deferred.ofValue, Act.eval]
 ·simp [invoke, run_callFunc hgo]
 ·refine callsIn_wide.2 ((iter (w.heap.size + 1) r w.heap.size _ (by omega) hY h1).mono fun e w' hh => ?_)
  obtain ⟨⟨v, rfl⟩, g', hg', hS'⟩ := hh
  have hF' : Fr [mark w.heap.size] { a with defers := [mark w.heap.size] ++ a.defers } n L := ⟨hF.size, by simp [hF.defers], hF.at_⟩
  refine ⟨cf, _, run_endLoop hS'.fact_head.2 (by cases cf <;> simp [rcd]), ?_⟩
  have hS'' := (hS'.setLoop { rcd r cf with state := .exhausted } (by omega)).dropF
  cases cf with
  | none => exact done w.heap.size g' hsz (hg' rfl) rfl _ _ hF' hS''
  | some c => exact left w.heap.size g' c hsz rfl _ _ hF' hS''
end
/-! ### functions that hold such a statement -/
theorem Fr.tm {ds : List Deferred} {a : Act} {n : Nat} {L : Slots} (h : Fr ds a n L) : Fr [] { tmps := a.tmps, defers := [] } n L := ⟨h.size, rfl, h.at_⟩
theorem fold1 (p : Tmp) (v : Value) (t : Array Value) : (#[p].zip #[v]).foldl (fun tmps (t, a) => tmps.setIfInBounds t a) t = t.setIfInBounds p v := by simp
theorem fold2 (p q : Tmp) (v u : Value) (t : Array Value) : (#[p, q].zip #[v, u]).foldl (fun tmps (t, a) => tmps.setIfInBounds t a) t = (t.setIfInBounds p v).setIfInBounds q u := by simp
class HasD (fs : List Fact) (D : Nat) : Prop where
 h : Fact.dfr D ∈ fs
instance (priority := high) (D : Nat) (fs : List Fact) : HasD (Fact.dfr D :: fs) D := ⟨by simp⟩
instance (D : Nat) (f : Fact) (fs : List Fact) [h : HasD fs D] : HasD (f :: fs) D := ⟨by simp [h.h]⟩
section
variable {P : Program} {fn : Func} {f : FuncId} {c : Code} {R : Ending → World → Prop} {n : Nat} {L : Slots} {S : World → Prop} {ok : Nat → Prop} {w0 : World} {own : List Ent} {fs : List Fact}
theorem enterM {args : Array Value} {w : World} (hf : P.funcs[f]? = some fn) (hb : fn.body = some c) (hn : fn.ntmps = n) (ha : Nat.ble args.size n = true) (hL : ∀ k v, slot L k = some v → args[k]? = some v) (hS : S w) (k : WC [] none P c (bodyPostM Fence.wide 0 P fn R) n L S) : Calls P f args w R := by
 refine callsIn_wide.1 (callsIn_of_wp_marks (F := Fence.wide) (n := 0) hf hb trivial (k _ w (Fr.enter ?_ hL) hS))
 have := Nat.le_of_ble_eq_true ha
 omega
theorem retM_run {ds : List Deferred} {a : Act} {w : World} {rs : List ResultVar} {vs : List Value} (hr : fn.results = rs.toArray) (hv : RetV P L own rs vs) (hF : Fr ds a n L) (hS : St ok w0 own fs w) : (results fn a.tmps).run P w = .ok (tup vs) w := by
 have hm := retV_run hF.tm hS hv
 rw [results_eq, hr, List.mapM_toArray]
 simp only [Sem.run_bind, map_eq_pure_bind, hm, Result.andThen, Sem.run_pure]
 match vs with
 | [] => rfl
 | [v] => rfl
 | v :: u :: r => simp [tup]
theorem WX.retM0 {rs : List ResultVar} {vs : List Value} (hr : fn.results = rs.toArray) (hv : RetV P L own rs vs) (h : ∀ w, St ok w0 own fs w → R (.returned (tup vs)) w) : WX [] (bodyPostM Fence.wide 0 P fn R) .ret n L (St ok w0 own fs) := fun a w hF hS => by
 show LeavesInM Fence.wide 0 P fn a.tmps R a.defers .returning w
 rw [hF.defers]
 exact ⟨tup vs, retM_run hr hv hF hS, h w hS⟩
theorem WX.retM1 {D : Nat} [hd : HasD fs D] {rs : List ResultVar} {vs : List Value} (hD : w0.heap.size ≤ D) (hr : fn.results = rs.toArray) (hv : RetV P L own rs vs) (h : ∀ w, St ok w0 own [] w → R (.returned (tup vs)) w) : WX [mark D] (bodyPostM Fence.wide 0 P fn R) .ret n L (St ok w0 own fs) := fun a w hF hS => by
 show LeavesInM Fence.wide 0 P fn a.tmps R a.defers .returning w
 rw [hF.defers]
 have hS1 : St ok w0 own [Fact.dfr D] w := hS.sub (List.Sublist.refl _) (fun f hf => by simp at hf; subst hf; exact hd.h)
 have hS2 := hS1.shutD hD
 exact ⟨by simp, .inl ⟨D, _, rfl, run_takeDeferred hS1.fact_head.2, tup vs, retM_run hr hv hF hS2, h _ hS2⟩⟩
end
/-! ### labels -/
section
variable {ds : List Deferred} {ρ : Option Nat} {P : Program} {c : Code} {Q : Exit → Act → World → Prop} {n : Nat} {L : Slots} {S : World → Prop}
theorem WC.scope (k : WC ds none P c (Exit.noGoto Q) n L S) : WC ds none P (.scope c) Q n L S := fun a w hF hS => wpIn_wide.2 (wp_scope_straight (wpIn_wide.1 (k a w hF hS)))
theorem WC.label {l : Nat} (k : WX ds Q .normal n L S) : WC ds ρ P (.label l) Q n L S := fun a w hF hS => wpIn_label (k a w hF hS)
theorem WX.scope_normal (k : WX ds Q .normal n L S) : WX ds (Exit.noGoto Q) .normal n L S := k
theorem WX.scope_ret (k : WX ds Q .ret n L S) : WX ds (Exit.noGoto Q) .ret n L S := k
theorem WX.scope_exit {id : Nat} (k : WX ds Q (.exit id) n L S) : WX ds (Exit.noGoto Q) (.exit id) n L S := k
end
section
variable {ds : List Deferred} {P : Program} {ops : List Oper} {Q : Exit → Act → World → Prop} {n : Nat} {l : List Oper} {L : Slots} {ok : Nat → Prop} {w0 : World} {own : List Ent} {fs : List Fact} {e : Ent}
theorem WL.app1 (k : WL ds P ops Q n l L (St ok w0 (e :: own) fs)) : WL ds P ops Q n l L (St ok w0 ([e] ++ own) fs) := k
theorem WL.app0 (k : WL ds P ops Q n l L (St ok w0 own fs)) : WL ds P ops Q n l L (St ok w0 ([] ++ own) fs) := k
end
end Go.Proofs.YtnimhldbblfgbaaGreat
namespace Go.Proofs.YtnimhldbblfgbaaGreat
set_option linter.unusedSimpArgs false
set_option linter.unusedVariables false
set_option maxRecDepth 20000
open Go.RowKit
abbrev Bs := List UInt8
abbrev strs (l : List Bs) : List Value := l.map fun s => .string (S s)
theorem strs_len (l : List Bs) : (strs l).length = l.length := by simp [strs]
theorem strs_take (l : List Bs) (k : Nat) : (strs l).take k = strs (l.take k) := by simp [strs, List.map_take]
theorem strs_drop (l : List Bs) (k : Nat) : (strs l).drop k = strs (l.drop k) := by simp [strs, List.map_drop]
theorem strs_get (l : List Bs) (k : Nat) (s : Bs) (h : l[k]? = some s) : (strs l)[k]? = some (.string (S s)) := by simp [strs, List.getElem?_map, h]
theorem isNone_nil {a : Option Addr} {xs : List Value} {ok : Nat → Prop} {w : World} (h : (Fact.sl a xs).holds ok w) (ha : a.isNone = true) : xs = [] := by
 rcases h with h | ⟨b, off, cs, T, fz, h1, _⟩
 ·exact h
 ·subst h1; simp at ha
/-! bytes and numbers in int -/
theorem wrap64n (n : Nat) (h : n < 9223372036854775808) : IntKind.i64.wrap (n : Int) = (n : Int) := by
 rw [IntKind.wrap_i64]; omega
theorem or64 (x y : Nat) (hx : x < 9223372036854775808) (hy : y < 9223372036854775808) : bits .or .i64 (x : Int) (y : Int) = ((x ||| y : Nat) : Int) := by
 unfold bits
 show IntKind.i64.wrap ((BitVec.ofInt 64 (x : Int) ||| BitVec.ofInt 64 (y : Int)).toNat : Int) = _
 have h1 : BitVec.ofInt 64 (x : Int) = BitVec.ofNat 64 x := by simp
 have h2 : BitVec.ofInt 64 (y : Int) = BitVec.ofNat 64 y := by simp
 have h3 : x ||| y < 2 ^ 63 := Nat.or_lt_two_pow (by omega) (by omega)
 rw [h1, h2, BitVec.toNat_or, BitVec.toNat_ofNat, BitVec.toNat_ofNat, Nat.mod_eq_of_lt (by omega), Nat.mod_eq_of_lt (by omega), wrap64n _ (by omega)]
theorem num_or (a b c d : Nat) (hb : b < 256) (hc : c < 256) (hd : d < 256) : ((a * 2 ^ 24 ||| b * 2 ^ 16) ||| c * 2 ^ 8) ||| d = a * 16777216 + b * 65536 + c * 256 + d := by
 have e1 := Nat.two_pow_add_eq_or_of_lt (i := 24) (b := b * 2 ^ 16) (by omega) a
 have e2 := Nat.two_pow_add_eq_or_of_lt (i := 16) (b := c * 2 ^ 8) (by omega) (a * 2 ^ 8 + b)
 have e3 := Nat.two_pow_add_eq_or_of_lt (i := 8) (b := d) (by omega) (a * 2 ^ 16 + b * 2 ^ 8 + c)
 rw [Nat.mul_comm a, ← e1, show 2 ^ 24 * a + b * 2 ^ 16 = 2 ^ 16 * (a * 2 ^ 8 + b) by omega, ← e2, show 2 ^ 16 * (a * 2 ^ 8 + b) + c * 2 ^ 8 = 2 ^ 8 * (a * 2 ^ 16 + b * 2 ^ 8 + c) by omega, ← e3]
 first | done | omega
theorem num_bits (c0 c1 c2 c3 : UInt8) : bits .or .i64 (bits .or .i64 (bits .or .i64 (IntKind.i64.wrap (IntKind.i64.wrap (c0.toNat : Int) * 2 ^ (min (Int.toNat 24) IntKind.i64.bits))) (IntKind.i64.wrap (IntKind.i64.wrap (c1.toNat : Int) * 2 ^ (min (Int.toNat 16) IntKind.i64.bits)))) (IntKind.i64.wrap (IntKind.i64.wrap (c2.toNat : Int) * 2 ^ (min (Int.toNat 8) IntKind.i64.bits)))) (IntKind.i64.wrap (c3.toNat : Int)) = ((c0.toNat * 16777216 + c1.toNat * 65536 + c2.toNat * 256 + c3.toNat : Nat) : Int) := by
 have m1 : min (Int.toNat 24) IntKind.i64.bits = 24 := by decide
 have m2 : min (Int.toNat 16) IntKind.i64.bits = 16 := by decide
 have m3 : min (Int.toNat 8) IntKind.i64.bits = 8 := by decide
 have l0 := c0.toNat_lt; have l1 := c1.toNat_lt; have l2 := c2.toNat_lt; have l3 := c3.toNat_lt
 have q : ∀ (c : UInt8) (j : Nat), j ≤ 24 → IntKind.i64.wrap ((c.toNat : Int) * 2 ^ j) = ((c.toNat * 2 ^ j : Nat) : Int) := fun c j hj => by
  have h1 := c.toNat_lt
  have h2 : 2 ^ j ≤ 2 ^ 24 := Nat.pow_le_pow_right (by omega) hj
  have h3 : c.toNat * 2 ^ j ≤ 256 * 2 ^ 24 := Nat.mul_le_mul (by omega) h2
  rw [show (c.toNat : Int) * 2 ^ j = ((c.toNat * 2 ^ j : Nat) : Int) by simp, wrap64n _ (by omega)]
 rw [m1, m2, m3, wrap64n _ (by omega), wrap64n _ (by omega), wrap64n _ (by omega), wrap64n _ (by omega), q _ _ (by omega), q _ _ (by omega), q _ _ (by omega)]
 have o1 : c0.toNat * 2 ^ 24 ||| c1.toNat * 2 ^ 16 < 2 ^ 62 := Nat.or_lt_two_pow (by omega) (by omega)
 have o2 : c0.toNat * 2 ^ 24 ||| c1.toNat * 2 ^ 16 ||| c2.toNat * 2 ^ 8 < 2 ^ 62 := Nat.or_lt_two_pow o1 (by omega)
 rw [or64 _ _ (by omega) (by omega), or64 _ _ (by omega) (by omega), or64 _ _ (by omega) (by omega), num_or _ _ _ _ (by omega) (by omega) (by omega)]
theorem byte_shrI (k j : Nat) (h : j ≤ 64) : IntKind.u8.wrap ((k : Int).fdiv (2 ^ (min (Int.toNat (j : Int)) IntKind.i64.bits))) = ((UInt8.ofNat (k / 2 ^ j)).toNat : Int) := by
 have m1 : min (Int.toNat (j : Int)) IntKind.i64.bits = j := by
  have : IntKind.i64.bits = 64 := by decide
  omega
 have e2 : ((2 : Int) ^ j) = ((2 ^ j : Nat) : Int) := by simp
 rw [m1, e2, IntKind.wrap_u8, Int.fdiv_eq_ediv_of_nonneg _ (Int.natCast_nonneg _), UInt8.toNat_ofNat']
 norm_cast
theorem byte_of (k : Nat) : IntKind.u8.wrap (k : Int) = ((UInt8.ofNat k).toNat : Int) := by
 rw [IntKind.wrap_u8, UInt8.toNat_ofNat']; norm_cast
section
variable {ds : List Deferred} {P : Program} {o : Oper} {n : Nat} {L : Slots} {Z : World → Prop} {x y : Operand} {t : TypeId} {k : IntKind} {i : Int}
theorem bs_getD (l : Bs) (i : Nat) (h : i < l.length) : l[i]? = some (l.getD i default) := by
 rw [List.getD_eq_getElem?_getD, List.getElem?_eq_getElem h]; rfl
theorem rd_sidxD {a : List UInt8} (hop : o.op = .index t x y) (hx : oper L x = some (.string (S a))) (hy : oper L y = some (.int k i)) (h1 : P.underlying t = some .string) (h0 : 0 ≤ i ∧ i.toNat < a.length) : Rd ds P o n L Z (.int .u8 ((a.getD i.toNat default).toNat : Int)) :=
 rd_sidx hop hx hy h1 h0.1 (bs_getD _ _ h0.2)
end
end Go.Proofs.YtnimhldbblfgbaaGreat
namespace Go.Proofs.YtnimhldbblfgbaaGreat
set_option linter.unusedSimpArgs false
set_option linter.unusedVariables false
set_option maxRecDepth 20000
/-- the number of a byte string, the first byte the greatest -/
def val : Bs → Nat
 | [] => 0
 | c :: s => c.toNat * 256 ^ s.length + val s
/-- k bytes of a number -/
def be : Nat → Nat → Bs
 | 0, _ => []
 | k + 1, x => UInt8.ofNat (x / 256 ^ k) :: be k x
def trimB : Bs → Bs
 | [] => []
 | c :: s => if c = 0 then trimB s else c :: s
/-- no zero byte leads -/
def Can (s : Bs) : Prop := s.head? ≠ some 0
instance (s : Bs) : Decidable (Can s) := inferInstanceAs (Decidable (¬ _))
theorem be_len : ∀ k x, (be k x).length = k
 | 0, x => rfl
 | k + 1, x => by simp [be, be_len k x]
theorem p256 (k : Nat) : 0 < 256 ^ k := Nat.pow_pos (by decide)
theorem val_lt : ∀ s : Bs, val s < 256 ^ s.length
 | [] => by simp [val]
 | c :: s => by
  have h1 := val_lt s
  have h2 := c.toNat_lt
  simp only [val, List.length_cons, Nat.pow_succ]
  have : (c.toNat + 1) * 256 ^ s.length ≤ 256 * 256 ^ s.length := Nat.mul_le_mul_right _ (by omega)
  rw [Nat.add_mul, Nat.one_mul] at this
  rw [Nat.mul_comm (256 ^ s.length) 256]; omega
theorem val_append : ∀ a b : Bs, val (a ++ b) = val a * 256 ^ b.length + val b
 | [], b => by simp [val]
 | c :: a, b => by
  simp only [List.cons_append, val, List.length_append, val_append a b, Nat.pow_add]
  rw [Nat.add_mul, Nat.mul_assoc]; omega
theorem val_be : ∀ k x, val (be k x) = x % 256 ^ k
 | 0, x => by simp [be, val, Nat.mod_one]
 | k + 1, x => by
  have e : x % 256 ^ (k + 1) = x % 256 ^ k + 256 ^ k * (x / 256 ^ k % 256) := by rw [Nat.pow_succ, Nat.mod_mul]
  simp only [be, val, be_len, val_be k x, UInt8.toNat_ofNat']
  rw [e, Nat.mul_comm (256 ^ k), Nat.add_comm]
theorem val_trim : ∀ s : Bs, val (trimB s) = val s
 | [] => rfl
 | c :: s => by
  unfold trimB; split
  ·rename_i h; subst h; rw [val_trim s, val]; simp
  ·rfl
theorem can_trim : ∀ s : Bs, Can (trimB s)
 | [] => by simp [trimB, Can]
 | c :: s => by
  unfold trimB; split
  ·exact can_trim s
  ·rename_i h; simpa [Can] using h
theorem trim_can : ∀ {s : Bs}, Can s → trimB s = s
 | [], _ => rfl
 | c :: s, h => by
  unfold trimB; rw [if_neg]; simpa [Can] using h
theorem trim_len : ∀ s : Bs, (trimB s).length ≤ s.length
 | [] => Nat.le_refl _
 | c :: s => by
  unfold trimB; split
  ·have := trim_len s; simp; omega
  ·exact Nat.le_refl _
/-- a string that is not empty and canonical is not less than its first byte's weight -/
theorem can_ge {s : Bs} (h : Can s) (h0 : s ≠ []) : 256 ^ (s.length - 1) ≤ val s := by
 cases s with
 | nil => exact absurd rfl h0
 | cons c s =>
  have hc : 1 ≤ c.toNat := by
   rcases Nat.eq_zero_or_pos c.toNat with h1 | h1
   ·exfalso; apply h; rw [List.head?_cons]; congr 1; exact UInt8.toNat_inj.1 h1
   ·exact h1
  simp only [val, List.length_cons, Nat.add_sub_cancel]
  have := Nat.mul_le_mul_right (256 ^ s.length) hc
  rw [Nat.one_mul] at this; omega
theorem can_len {a b : Bs} (ha : Can a) (hb : Can b) (h : val a ≤ val b) : a.length ≤ b.length := by
 rcases Nat.lt_or_ge b.length a.length with q | q
 ·exfalso
  have h0 : a ≠ [] := by intro h; rw [h] at q; simp at q
  have h1 := can_ge ha h0
  have h2 := val_lt b
  have h3 : 256 ^ b.length ≤ 256 ^ (a.length - 1) := Nat.pow_le_pow_right (by decide) (by omega)
  omega
 ·exact q
theorem be_val : ∀ s : Bs, be s.length (val s) = s
 | [] => rfl
 | c :: s => by
  have h1 := val_lt s
  have hd : (c.toNat * 256 ^ s.length + val s) / 256 ^ s.length = c.toNat := by
   rw [Nat.mul_comm, Nat.mul_add_div (p256 _), Nat.div_eq_of_lt h1, Nat.add_zero]
  have hm : be s.length (c.toNat * 256 ^ s.length + val s) = be s.length (val s) := by
   have key : ∀ k x y, k ≤ s.length → be k (y * 256 ^ s.length + x) = be k x := by
    intro k
    induction k with
    | zero => intro x y _; rfl
    | succ k ih =>
     intro x y hk
     simp only [be, ih x y (by omega)]
     congr 1
     apply UInt8.toNat_inj.1
     rw [UInt8.toNat_ofNat', UInt8.toNat_ofNat']
     have e : 256 ^ s.length = 256 ^ k * 256 * 256 ^ (s.length - (k + 1)) := by rw [← Nat.pow_succ, ← Nat.pow_add]; congr 1; omega
     rw [e, show y * (256 ^ k * 256 * 256 ^ (s.length - (k + 1))) = 256 ^ k * (256 * (y * 256 ^ (s.length - (k + 1)))) by ac_rfl, Nat.mul_add_div (p256 _)]
     omega
   exact key s.length (val s) c.toNat (Nat.le_refl _)
  simp only [List.length_cons, be, val, hd, hm, be_val s]
  congr 1
  apply UInt8.toNat_inj.1; rw [UInt8.toNat_ofNat']; have := c.toNat_lt; omega
theorem val_inj {a b : Bs} (hl : a.length = b.length) (h : val a = val b) : a = b := by
 rw [← be_val a, ← be_val b, hl, h]
theorem can_inj {a b : Bs} (ha : Can a) (hb : Can b) (h : val a = val b) : a = b :=
 val_inj (Nat.le_antisymm (can_len ha hb (by omega)) (can_len hb ha (by omega))) h
/-- the canonical string of a number -/
def canon (n : Nat) : Bs := trimB (be (Nat.log2 n / 8 + 1) n)
theorem lt_log (n : Nat) : n < 256 ^ (Nat.log2 n / 8 + 1) := by
 have h1 : n < 2 ^ (Nat.log2 n + 1) := Nat.lt_log2_self
 have h2 : 256 ^ (Nat.log2 n / 8 + 1) = 2 ^ (8 * (Nat.log2 n / 8 + 1)) := by rw [show (256 : Nat) = 2 ^ 8 from rfl, ← Nat.pow_mul]
 rw [h2]
 exact Nat.lt_of_lt_of_le h1 (Nat.pow_le_pow_right (by decide) (by omega))
theorem val_canon (n : Nat) : val (canon n) = n := by rw [canon, val_trim, val_be, Nat.mod_eq_of_lt (lt_log n)]
theorem can_canon (n : Nat) : Can (canon n) := can_trim _
theorem canon_val {s : Bs} (h : Can s) : canon (val s) = s := can_inj (can_canon _) h (val_canon _)
theorem trim_canon (s : Bs) : trimB s = canon (val s) := can_inj (can_trim _) (can_canon _) (by rw [val_trim, val_canon])
theorem trim_be {k n : Nat} (h : n < 256 ^ k) : trimB (be k n) = canon n := by rw [trim_canon, val_be, Nat.mod_eq_of_lt h]
theorem canon_zero : canon 0 = [] := can_inj (can_canon _) (by simp [Can]) (by rw [val_canon]; rfl)
theorem can_nil : Can [] := by simp [Can]
theorem val_eq_zero {s : Bs} (h : Can s) : val s = 0 ↔ s = [] := ⟨fun h0 => can_inj h can_nil (by rw [h0]; rfl), fun h0 => by rw [h0]; rfl⟩
theorem canon_len_le {n k : Nat} : (canon n).length ≤ k ↔ n < 256 ^ k := by
 constructor
 ·intro h
  have h1 := val_lt (canon n)
  rw [val_canon] at h1
  exact Nat.lt_of_lt_of_le h1 (Nat.pow_le_pow_right (by decide) h)
 ·intro h
  rcases Nat.lt_or_ge k (canon n).length with q | q
  ·exfalso
   have h0 : canon n ≠ [] := by intro h; rw [h] at q; simp at q
   have h1 := can_ge (can_canon n) h0
   rw [val_canon] at h1
   have h3 : 256 ^ k ≤ 256 ^ ((canon n).length - 1) := Nat.pow_le_pow_right (by decide) (by omega)
   omega
  ·exact q
/-- the digit of weight 256^i -/
theorem val_digit (s : Bs) (i : Nat) (h : i < s.length) : val s / 256 ^ i % 256 = (s.getD (s.length - 1 - i) default).toNat := by
 induction s with
 | nil => simp at h
 | cons c s ih =>
  simp only [val, List.length_cons, Nat.add_sub_cancel] at h ⊢
  by_cases hi : i = s.length
  ·subst hi
   rw [Nat.sub_self, List.getD_cons_zero, Nat.mul_comm, Nat.mul_add_div (p256 _), Nat.div_eq_of_lt (val_lt s), Nat.add_zero, Nat.mod_eq_of_lt c.toNat_lt]
  ·have e : 256 ^ s.length = 256 ^ i * (256 * 256 ^ (s.length - 1 - i)) := by
    rw [← Nat.mul_assoc, ← Nat.pow_succ, ← Nat.pow_add]; congr 1; omega
   rw [e, show c.toNat * (256 ^ i * (256 * 256 ^ (s.length - 1 - i))) = 256 ^ i * (256 * (c.toNat * 256 ^ (s.length - 1 - i))) by ac_rfl, Nat.mul_add_div (p256 _), Nat.mul_add_mod, ih (by omega)]
   rw [show s.length - i = (s.length - 1 - i) + 1 by omega, List.getD_cons_succ]
theorem val_digit0 (s : Bs) (i : Nat) (h : s.length ≤ i) : val s / 256 ^ i % 256 = 0 := by
 rw [Nat.div_eq_of_lt (Nat.lt_of_lt_of_le (val_lt s) (Nat.pow_le_pow_right (by decide) h))]
/-- order -/
theorem val_lex : ∀ (a b : Bs), a.length = b.length → (val a < val b ↔ a < b)
 | [], [], _ => by simp [val]
 | [], _ :: _, h => by simp at h
 | _ :: _, [], h => by simp at h
 | x :: a, y :: b, h => by
  have hl : a.length = b.length := by simpa using h
  have ih := val_lex a b hl
  have ha := val_lt a; have hb := val_lt b
  simp only [val]
  rw [hl] at ha ⊢
  rw [List.cons_lt_cons_iff]
  rcases Nat.lt_trichotomy x.toNat y.toNat with q | q | q
  ·have h1 : (x.toNat + 1) * 256 ^ b.length ≤ y.toNat * 256 ^ b.length := Nat.mul_le_mul_right _ q
   rw [Nat.add_mul, Nat.one_mul] at h1
   exact ⟨fun _ => .inl q, fun _ => by omega⟩
  ·have hxy : x = y := UInt8.toNat_inj.1 q
   subst hxy
   constructor
   ·intro h; exact .inr ⟨rfl, ih.1 (by omega)⟩
   ·rintro (h | ⟨_, h⟩)
    ·exact absurd h (by exact Nat.lt_irrefl _)
    ·have := ih.2 h; omega
  ·have h1 : (y.toNat + 1) * 256 ^ b.length ≤ x.toNat * 256 ^ b.length := Nat.mul_le_mul_right _ q
   rw [Nat.add_mul, Nat.one_mul] at h1
   constructor
   ·intro h; omega
   ·rintro (h | ⟨h, _⟩)
    ·exact absurd (show x.toNat < y.toNat from h) (by omega)
    ·subst h; omega
/-- sums and differences, digit by digit -/
def carryA (a b i : Nat) : Nat := (a % 256 ^ i + b % 256 ^ i) / 256 ^ i
theorem carryA_zero (a b : Nat) : carryA a b 0 = 0 := by simp [carryA, Nat.mod_one]
theorem carryA_le (a b i : Nat) : carryA a b i ≤ 1 := by
 have h1 := Nat.mod_lt a (p256 i); have h2 := Nat.mod_lt b (p256 i)
 unfold carryA
 have : a % 256 ^ i + b % 256 ^ i < 2 * 256 ^ i := by omega
 have := (Nat.div_lt_iff_lt_mul (p256 i)).2 this
 omega
theorem carryA_div (a b i : Nat) : (a + b) / 256 ^ i = carryA a b i + a / 256 ^ i + b / 256 ^ i := by
 have h1 := Nat.div_add_mod a (256 ^ i); have h2 := Nat.div_add_mod b (256 ^ i)
 have e : a + b = 256 ^ i * (a / 256 ^ i + b / 256 ^ i) + (a % 256 ^ i + b % 256 ^ i) := by rw [Nat.mul_add]; omega
 rw [e, Nat.mul_add_div (p256 i), carryA]; omega
theorem carryA_succ (a b i : Nat) : carryA a b (i + 1) = (carryA a b i + a / 256 ^ i % 256 + b / 256 ^ i % 256) / 256 := by
 have h1 := carryA_div a b i
 have h2 := carryA_div a b (i + 1)
 rw [Nat.pow_succ, ← Nat.div_div_eq_div_mul, ← Nat.div_div_eq_div_mul, ← Nat.div_div_eq_div_mul, h1] at h2
 omega
theorem sum_digit (a b i : Nat) : UInt8.ofNat ((a + b) / 256 ^ i) = UInt8.ofNat (carryA a b i + a / 256 ^ i % 256 + b / 256 ^ i % 256) := by
 apply UInt8.toNat_inj.1
 rw [UInt8.toNat_ofNat', UInt8.toNat_ofNat', carryA_div]; omega
def borrowB (a b i : Nat) : Nat := if a % 256 ^ i < b % 256 ^ i then 1 else 0
theorem borrowB_zero (a b : Nat) : borrowB a b 0 = 0 := by simp [borrowB, Nat.mod_one]
theorem borrow_div {a b : Nat} (h : b ≤ a) (i : Nat) : (a - b) / 256 ^ i = a / 256 ^ i - b / 256 ^ i - borrowB a b i ∧ b / 256 ^ i + borrowB a b i ≤ a / 256 ^ i := by
 have h1 := Nat.div_add_mod a (256 ^ i); have h2 := Nat.div_add_mod b (256 ^ i)
 have m1 := Nat.mod_lt a (p256 i); have m2 := Nat.mod_lt b (p256 i)
 have hq : b / 256 ^ i ≤ a / 256 ^ i := Nat.div_le_div_right h
 unfold borrowB
 generalize 256 ^ i = P at *
 generalize hA : a / P = A at *
 generalize hB : b / P = B' at *
 split
 ·rename_i hlt
  have hne : B' < A := by
   rcases Nat.lt_or_ge B' A with q | q
   ·exact q
   ·exfalso
    have : A = B' := by omega
    subst this; omega
  obtain ⟨D, rfl⟩ : ∃ D, A = B' + 1 + D := ⟨A - B' - 1, by omega⟩
  refine ⟨?_, by omega⟩
  have e : a - b = P * D + (P + a % P - b % P) := by
   have : P * (B' + 1 + D) = P * B' + P + P * D := by rw [Nat.mul_add, Nat.mul_add, Nat.mul_one]
   omega
  rw [e, Nat.mul_add_div (by omega), Nat.div_eq_of_lt (by omega)]; omega
 ·rename_i hge
  obtain ⟨D, rfl⟩ : ∃ D, A = B' + D := ⟨A - B', by omega⟩
  refine ⟨?_, by omega⟩
  have e : a - b = P * D + (a % P - b % P) := by
   have : P * (B' + D) = P * B' + P * D := Nat.mul_add _ _ _
   omega
  rw [e, Nat.mul_add_div (by omega), Nat.div_eq_of_lt (by omega)]; omega
end Go.Proofs.YtnimhldbblfgbaaGreat
namespace Go.Proofs.YtnimhldbblfgbaaGreat
set_option linter.unusedSimpArgs false
set_option linter.unusedVariables false
set_option maxRecDepth 20000
set_option maxHeartbeats 600000
open Go.RowKit
set_option maxRecDepth 20000
theorem below_self {w : World} : Below w.heap.size w w := ⟨rfl, rfl, rfl, Nat.le_refl _, fun _ _ => rfl⟩
section
variable {ds : List Deferred} {P : Program} {o : Oper} {n : Nat} {L : Slots} {Z : World → Prop} {x y : Operand} {t t2 : TypeId} {k : IntKind} {i j : Int}
theorem rd_max2 (hop : o.op = .call { callee := .builtin .max, args := #[x, y], argTypes := #[t, t2] }) (hx : oper L x = some (.int k i)) (hy : oper L y = some (.int k j)) : Rd ds P o n L Z (.int k (max i j)) :=
  rd_run fun a hF w _ => by
    have e : max i j = if j > i then j else i := by split <;> omega
    rw [e]
    simp [execOp, hop, resolve, invoke, builtin, hF.eval hx, hF.eval hy, Builtin.max_, Builtin.max2]
theorem rd_min2 (hop : o.op = .call { callee := .builtin .min, args := #[x, y], argTypes := #[t, t2] }) (hx : oper L x = some (.int k i)) (hy : oper L y = some (.int k j)) : Rd ds P o n L Z (.int k (min i j)) :=
  rd_run fun a hF w _ => by
    have e : min i j = if j < i then j else i := by split <;> omega
    rw [e]
    simp [execOp, hop, resolve, invoke, builtin, hF.eval hx, hF.eval hy, Builtin.min_, Builtin.min2]
end
theorem shr8 (x : Nat) : (x : Int).fdiv (2 ^ (min (Int.toNat 8) IntKind.i64.bits)) = ((x / 256 : Nat) : Int) := by
  have m1 : min (Int.toNat 8) IntKind.i64.bits = 8 := by decide
  rw [m1, Int.fdiv_eq_ediv_of_nonneg _ (by decide)]; norm_cast
theorem scmp_c {a b : Bs} {w : World} :
    Calls Tryz.prog 144 #[.string (S a), .string (S b)] w fun e w' => e = .returned (.int .i64 (Lib.compareBytes a b)) ∧ Below w.heap.size w w' :=
  (compare_ok (S a) (S b) w).mono fun _ _ ⟨h1, h2⟩ => ⟨by simpa [S] using h1, by rw [h2]; exact below_self⟩
theorem len8_c {x : Nat} {w : World} (hx : x < 256) :
    Calls Tryz.prog 137 #[.int .u8 (x : Int)] w fun e w' => e = .returned (.int .i64 (Lib.bitLen x)) ∧ Below w.heap.size w w' :=
  (len8_ok x w (by omega) (by omega)).mono fun _ _ ⟨h1, h2⟩ => ⟨by simpa using h1, by rw [h2]; exact below_self⟩
theorem nan_c {x : Int} {w : World} :
    Calls Tryz.prog 169 #[.int .i64 x] w fun e w' => e = .returned (.bool false) ∧ Below w.heap.size w w' := by
  refine enter (S := St (fun _ => True) w [] ([])) (L := [(0, .int .i64 x)]) Tryz.func169 rfl Tryz.ntmps169 rfl (args_cons rfl (args_nil _)) (St.start (fun _ _ => trivial) facts_nil) ?_
  refine WC.sr ?_
  refine WL.r rfl rfl rfl (rd_assign rfl rfl) ?_
  refine WL.nt ?_
  refine WC.sr ?_
  refine WL.r rfl rfl rfl (rd_move rfl rfl) ?_
  refine WL.r rfl rfl rfl (rd_move rfl rfl) ?_
  refine WL.r rfl rfl rfl (rd_neq rfl rfl rfl) ?_
  refine WL.r rfl rfl rfl (rd_assign rfl rfl) ?_
  refine WL.nt ?_
  refine WC.ret ?_
  exact WX.retN rfl (.tmp rfl .nil) fun w' hS => ⟨by (simp [tup]; done), hS.below⟩
def cmpI (a b : Int) : Int := if a < b then -1 else if b < a then 1 else 0
theorem cmp_c {a b : Int} {w : World} :
    Calls Tryz.prog 143 #[.int .i64 a, .int .i64 b] w fun e w' => e = .returned (.int .i64 (cmpI a b)) ∧ Below w.heap.size w w' := by
  refine enter (S := St (fun _ => True) w [] ([])) (L := [(0, .int .i64 a), (1, .int .i64 b)]) Tryz.func143 rfl Tryz.ntmps143 rfl (args_cons rfl (args_cons rfl (args_nil _))) (St.start (fun _ _ => trivial) facts_nil) ?_
  refine WC.sr ?_
  refine WL.r rfl rfl rfl (rd_assign rfl rfl) ?_
  refine WL.nt ?_
  refine WC.sr ?_
  refine WL.r rfl rfl rfl (rd_move rfl rfl) ?_
  refine WL.g rfl rfl rfl (og_call rfl rfl (by kernel_rfl) (keep_val fun w hS => nan_c)) ?_
  intro _
  refine WL.r rfl rfl rfl (rd_assign rfl rfl) ?_
  refine WL.nt ?_
  refine WC.sr ?_
  refine WL.r rfl rfl rfl (rd_move rfl rfl) ?_
  refine WL.g rfl rfl rfl (og_call rfl rfl (by kernel_rfl) (keep_val fun w hS => nan_c)) ?_
  intro _
  refine WL.r rfl rfl rfl (rd_assign rfl rfl) ?_
  refine WL.nt ?_
  refine WC.seq ?_
  refine WC.sr ?_
  refine WL.r rfl rfl rfl (rd_move rfl rfl) ?_
  refine WL.nt ?_
  refine WC.cond rfl (fun hc11 => by exfalso; (try simp only [sB] at hc11); cases hc11) (fun hc11 => ?_)
  (try simp only [sB] at hc11)
  refine WC.skip ?_
  refine WX.then_normal ?_
  refine WC.seq ?_
  refine WC.sr ?_
  refine WL.r rfl rfl rfl (rd_move rfl rfl) ?_
  refine WL.nt ?_
  refine WC.cond rfl (fun hc13 => by exfalso; (try simp only [sB] at hc13); cases hc13) (fun hc13 => ?_)
  (try simp only [sB] at hc13)
  refine WC.skip ?_
  refine WX.then_normal ?_
  refine WC.seq ?_
  refine WC.sr ?_
  refine WL.r rfl rfl rfl (rd_move rfl rfl) ?_
  refine WL.r rfl rfl rfl (rd_move rfl rfl) ?_
  refine WL.r rfl rfl rfl (rd_lss rfl rfl rfl) ?_
  refine WL.nt ?_
  refine WC.cond rfl (fun hc16 => ?_) (fun hc16 => ?_)
  · (try simp only [sB] at hc16)
    refine WC.sr ?_
    refine WL.r rfl rfl rfl (rd_assign rfl rfl) ?_
    refine WL.nt ?_
    refine WC.ret ?_
    refine WX.then_ret ?_
    exact WX.retN rfl (.tmp rfl .nil) fun w' hS => ⟨by simp [cmpI, hc16, tup], hS.below⟩
  · (try simp only [sB] at hc16)
    refine WC.skip ?_
    refine WX.then_normal ?_
    refine WC.seq ?_
    refine WC.sr ?_
    refine WL.r rfl rfl rfl (rd_move rfl rfl) ?_
    refine WL.r rfl rfl rfl (rd_move rfl rfl) ?_
    refine WL.r rfl rfl rfl (rd_gtr rfl rfl rfl) ?_
    refine WL.nt ?_
    refine WC.cond rfl (fun hc19 => ?_) (fun hc19 => ?_)
    · (try simp only [sB] at hc19)
      refine WC.sr ?_
      refine WL.r rfl rfl rfl (rd_assign rfl rfl) ?_
      refine WL.nt ?_
      refine WC.ret ?_
      refine WX.then_ret ?_
      exact WX.retN rfl (.tmp rfl .nil) fun w' hS => ⟨by simp [cmpI, tup]; omega, hS.below⟩
    · (try simp only [sB] at hc19)
      refine WC.skip ?_
      refine WX.then_normal ?_
      refine WC.sr ?_
      refine WL.r rfl rfl rfl (rd_assign rfl rfl) ?_
      refine WL.nt ?_
      refine WC.ret ?_
      exact WX.retN rfl (.tmp rfl .nil) fun w' hS => ⟨by simp [cmpI, tup]; omega, hS.below⟩
end Go.Proofs.YtnimhldbblfgbaaGreat
namespace Go.Proofs.YtnimhldbblfgbaaGreat
set_option linter.unusedSimpArgs false
set_option linter.unusedVariables false
open Go.RowKit
theorem cells_agg (l : List Value) : (Value.agg l.toArray).cells.toList = l := by simp [Value.cells]
section
variable {ds : List Deferred} {P : Program} {o : Oper} {n : Nat} {L : Slots} {Z : World → Prop} {x y : Operand} {t t2 : TypeId} {k : IntKind} {i : Int}
theorem rd_convN {k' : IntKind} (hop : o.op = .convert t t2 x) (hx : oper L x = some (.int k' i)) {d : TypeDesc} (h1 : P.underlying t = some d) (h2 : P.underlying t2 = some (.int k)) (h : k.wrap i = i) : Rd ds P o n L Z (.int k i) := by
 have := rd_conv (ds := ds) (n := n) (St := Z) hop hx h1 h2
 rw [h] at this; exact this
theorem wrap8_64 (c : UInt8) : IntKind.i64.wrap (c.toNat : Int) = (c.toNat : Int) := wrap64n _ (by have := c.toNat_lt; omega)
end
section
variable {ds : List Deferred} {P : Program} {o : Oper} {n : Nat} {L : Slots} {ok : Nat → Prop} {w0 : World} {own : List Ent} {fs : List Fact} {x y : Operand} {t T : TypeId} {b off : Nat} {cs xs ys : List Value} {C : Ent → List Ent}
theorem staJ (hop : o.op = .store t x y) (hx : oper L x = some (.pointer (some ⟨b, 0, none⟩))) (hy : oper L y = some (.agg xs.toArray)) [hk : HasC own (some b) cs T C] (hs : (P.info? t).map (·.size) = some xs.length) (h1 : ∀ v ∈ xs, v.oneCell' = true) (hl : xs.length = cs.length) :
  ∀ ext, Og ds P o n L (St ok w0 (ext ++ own) fs) (fun _ : Unit => undef) (fun _ => St ok w0 (ext ++ C ⟨some b, xs, T⟩) fs) := fun ext => sta hop hx hy (Ctx.right hk.h ext) hs h1 hl
theorem stpJ (hop : o.op = .store t x y) (hx : oper L x = some (.pointer (some ⟨b, off, none⟩))) (hy : oper L y = some (.agg xs.toArray)) [hk : HasC own (some b) cs T C] (hs : (P.info? t).map (·.size) = some xs.length) (h1 : ∀ v ∈ xs, v.oneCell' = true) (hl : off + xs.length ≤ cs.length) (hys : cs.take off ++ xs ++ cs.drop (off + xs.length) = ys) :
  ∀ ext, Og ds P o n L (St ok w0 (ext ++ own) fs) (fun _ : Unit => undef) (fun _ => St ok w0 (ext ++ C ⟨some b, ys, T⟩) fs) := fun ext => stp hop hx hy (Ctx.right hk.h ext) hs h1 hl hys
end
end Go.Proofs.YtnimhldbblfgbaaGreat
namespace Go.Proofs.YtnimhldbblfgbaaGreat
set_option linter.unusedSimpArgs false
set_option linter.unusedVariables false
open Go.RowKit
/-- further facts, a list of them -/
class HasM (fs more : List Fact) : Prop where
 h : ∀ f ∈ more, f ∈ fs
instance hasM_here {fs : List Fact} : HasM fs fs := ⟨fun _ h => h⟩
instance hasM_there {f : Fact} {fs more : List Fact} [h : HasM fs more] : HasM (f :: fs) more := ⟨fun g hg => List.mem_cons_of_mem _ (h.h g hg)⟩
theorem St.more {ok : Nat → Prop} {w0 w : World} {own : List Ent} {fs more : List Fact} (hS : St ok w0 own fs w) [h : HasM fs more] : ∀ f ∈ more, f.holds (fun _ => True) w := fun f hf => fact_any (hS.fact f (h.h f hf))
theorem facts_more {more : List Fact} {ok : Nat → Prop} {w : World} (h : ∀ f ∈ more, f.holds ok w) : ∀ f ∈ more, f.holds (fun _ => True) w := fun f hf => fact_any (h f hf)
/-- an own slice is not changed any more -/
theorem st_fz {ok : Nat → Prop} {w0 w : World} {ob : Option Nat} {xs sp : List Value} {T : TypeId} {r : List Ent} {fs : List Fact} (h : St ok w0 (⟨ob, xs ++ sp, T⟩ :: r) fs w) : St ok w0 r (Fact.sl (ob.map fun b => ⟨b, 0, none⟩) xs :: fs) w := by
 cases ob with
 | some b => exact st_freeze h
 | none =>
  have h0 : xs ++ sp = [] := h.own_ _ (List.mem_cons_self)
  have h1 : xs = [] := (List.append_eq_nil_iff.1 h0).1
  subst h1
  exact St.add (h.sub (List.sublist_cons_self _ _) (fun _ h => h)) (.inl rfl)
theorem zero_len (z : Array Value) (m : Nat) : (Builtin.zeroCells z m).toList.length = m * z.size := by simp [Builtin.zeroCells]
section
variable {P : Program} {ok : Nat → Prop} {w0 : World} {fs : List Fact} {t e : TypeId} {sz z : Nat} {cs : List Value}
theorem run_appN {w : World} {own : List Ent} {kk : Nat} {ob : Option Nat} {len cap : Nat} {news : List Value} {zv : Value} {src : Value} {m : Nat} {ty : TypeId} (hS : St ok w0 own fs w) (hk : own[kk]? = some ⟨ob, cs, e⟩)
  (hu : P.underlying t = some (.slice e)) (hi : (P.info? e).map (fun i => (i.zero, i.size, i.bytes)) = some (some zv, z, sz)) (h1 : zv.cells.size = z) (hz0 : 0 < z)
  (hlen : len ≤ cap) (hcap : cap * z = cs.length) (hsrc : Src w src m news) (hm : news.length = m * z) (h1c : ∀ u ∈ news, u.oneCell' = true) (hpos : 0 < m)
  (h63 : len + m ≤ 9223372036854775807) (hb : (len + m) * sz ≤ 140737488355328) :
  ∃ (g : App) (w' : World), (Builtin.append_ #[t, t] ty #[.slice (ob.map fun b => ⟨b, 0, none⟩) len cap, src]).run P w = .ok (.slice (some ⟨g.b, 0, none⟩) (len + m) g.cap) w' ∧ (len + m ≤ g.cap ∧ g.cap * z = (len + m) * z + g.spare.length) ∧ St ok w0 (own.set kk ⟨some g.b, cs.take (len * z) ++ news ++ g.spare, e⟩) fs w' := by
 obtain ⟨i', hi', hz, hs, hbb⟩ := info_parts hi
 obtain ⟨ad, c', rfl, hnone, hcell⟩ := hsrc
 cases ad with
 | none => have := (hnone rfl).1; omega
 | some a =>
 have hnews := hcell a rfl
 have hl : news.length = m * i'.size := by rw [hs]; exact hm
 have zlen : ∀ q, (Builtin.zeroCells zv.cells q).toList.length = q * z := fun q => by rw [zero_len, h1]
 have hge : ∀ g q : Nat, q ≤ g → g * z = q * z + (g - q) * z := fun g q h => by rw [← Nat.add_mul]; congr 1; omega
 cases ob with
 | none =>
  have hcs : cs = [] := hS.own_ _ (List.mem_of_getElem? hk)
  subst hcs
  have hc0 : cap = 0 := by
   rcases Nat.eq_zero_or_pos cap with h | h
   ·exact h
   ·have := Nat.mul_pos h hz0; simp at hcap; omega
  subst hc0
  have hl0 : len = 0 := by omega
  subst hl0
  have hrun := run_append_nil (P := P) w t ty e i' zv hu hi' hz a m c' news hl hnews hpos (by omega) (by rw [hbb]; rw [Nat.zero_add] at hb; omega)
  have hg := grownCap_ge w m 0 e
  refine ⟨⟨w.heap.size, grownCap w m 0 e, (Builtin.zeroCells zv.cells (grownCap w m 0 e - m)).toList⟩, _, by simpa using hrun, ⟨?_, ?_⟩, ?_⟩
  ·simpa using hg
  ·simp only [zlen, Nat.zero_add]; exact hge _ _ hg
  ·have := (hS.draw.alloc (news ++ (Builtin.zeroCells zv.cells (grownCap w m 0 e - m)).toList) e).replace kk
   have e1 : (news.toArray ++ Builtin.zeroCells zv.cells (grownCap w m 0 e - m)) = (news ++ (Builtin.zeroCells zv.cells (grownCap w m 0 e - m)).toList).toArray := by
    apply Array.ext'; simp
   simp only [List.take_nil, List.nil_append]
   rw [e1]; exact this
 | some b' =>
  have hbk := hS.block hk
  have hlc : len * z ≤ cs.length := by rw [← hcap]; exact Nat.mul_le_mul_right _ hlen
  by_cases hroom : len + m ≤ cap
  ·have hlm : (len + m) * z ≤ cs.length := by rw [← hcap]; exact Nat.mul_le_mul_right _ hroom
   have hrun := run_append_room (P := P) w t ty e i' hu hi' b' len cap cs.toArray hbk a m c' news hl hnews h1c hroom (by rw [hs]; simp; rw [Nat.add_mul] at hlm; omega)
   refine ⟨⟨b', cap, cs.drop (len * z + m * z)⟩, _, hrun, ⟨hroom, ?_⟩, ?_⟩
   ·simp only [List.length_drop]; rw [hcap, ← Nat.add_mul]; omega
   ·have := hS.setRow hk (cs.take (len * z) ++ news ++ cs.drop (len * z + m * z))
    rw [hs]; simp only [hm]; exact this
  ·have hrun := run_append_grow (P := P) w t ty e i' zv hu hi' hz ⟨b', 0, none⟩ len cap (cs.take (len * z)) (by rw [hs]; simp; omega) (fun q u hq => by
     rw [Addr.add_lit, Nat.zero_add, block_cell hbk]
     rw [List.getElem?_take] at hq; split at hq
     ·exact hq
     ·cases hq) a m c' news hl hnews (by omega) (by omega) (by rw [hbb]; exact growslice_fits (by omega) hb)
   have hg := grownCap_ge w (len + m) cap e
   refine ⟨⟨w.heap.size, grownCap w (len + m) cap e, (Builtin.zeroCells zv.cells (grownCap w (len + m) cap e - (len + m))).toList⟩, _, hrun, ⟨hg, ?_⟩, ?_⟩
   ·simp only [zlen]; exact hge _ _ hg
   ·have := (hS.draw.alloc (cs.take (len * z) ++ news ++ (Builtin.zeroCells zv.cells (grownCap w (len + m) cap e - (len + m))).toList) e).replace kk
    have e1 : ((cs.take (len * z)).toArray ++ news.toArray ++ Builtin.zeroCells zv.cells (grownCap w (len + m) cap e - (len + m))) = (cs.take (len * z) ++ news ++ (Builtin.zeroCells zv.cells (grownCap w (len + m) cap e - (len + m))).toList).toArray := by
     apply Array.ext'; simp
    rw [e1]; exact this
end
section
variable {ds : List Deferred} {P : Program} {o : Oper} {n : Nat} {L : Slots} {ok : Nat → Prop} {w0 : World} {own : List Ent} {C : Ent → List Ent} {fs : List Fact} {x y : Operand} {t e : TypeId} {sz z : Nat} {xs : List Value}
theorem appgN {len cap : Nat} {ob : Option Nat} {news sp : List Value} {zv : Value} {m c : Nat} {ad : Option Addr} (hop : o.op = .call { callee := .builtin .append, args := #[x, y], argTypes := #[t, t] }) (hu : P.underlying t = some (.slice e)) (hi : (P.info? e).map (fun i => (i.zero, i.size, i.bytes)) = some (some zv, z, sz)) (h1 : zv.cells.size = z) (hz0 : 0 < z)
  (hk : Ctx own ⟨ob, xs ++ sp, e⟩ C) (hx : oper L x = some (.slice (ob.map fun b => ⟨b, 0, none⟩) len cap)) (hy : oper L y = some (.slice ad m c)) (hsrc : ∀ w, St ok w0 own fs w → (Fact.sl ad news).holds (fun _ => True) w) (hm : news.length = m * z)
  (hb : xs.length = len * z ∧ cap * z = len * z + sp.length ∧ len + m ≤ 9223372036854775807 ∧ (len + m) * sz ≤ 140737488355328) (h1c : ∀ u ∈ news, u.oneCell' = true) :
  Og ds P o n L (St ok w0 own fs) (fun g : Gr => .slice (g.ob.map fun b => ⟨b, 0, none⟩) (len + m) g.cap) (fun g w => (g.cap * z = (len + m) * z + g.sp.length) ∧ St ok w0 (C ⟨g.ob, (xs ++ news) ++ g.sp, e⟩) fs w) :=
 og_run fun a hF w hS => by
  obtain ⟨kk, hkk, hC⟩ := hk.get
  obtain ⟨hxl, hcap, h63, hbb⟩ := hb
  have hlc : len ≤ cap := by
   rcases Nat.lt_or_ge cap len with h | h
   ·have := Nat.mul_lt_mul_of_pos_right h hz0; omega
   ·exact h
  by_cases hpos : 0 < m
  ·have htake : (xs ++ sp).take (len * z) = xs := by rw [← hxl]; simp
   have hs : Src w (.slice ad m c) m news := by
    rcases hsrc w hS with h0 | ⟨b', off', cells, T', fz, e1, _, e3, e4⟩
    ·subst h0; have := Nat.mul_pos hpos hz0; simp at hm; omega
    ·subst e1
     refine ⟨_, _, rfl, (fun h => by cases h), fun a ha q u hq => ?_⟩
     obtain rfl := Option.some.inj ha
     have hlt : q < news.length := (List.getElem?_eq_some_iff.1 hq).1
     rw [Addr.add_lit]; simp [World.cell?, e3, e4 q hlt, hq]
   obtain ⟨g, w', hrun, hp, hS'⟩ := run_appN (P := P) (ty := o.type) hS hkk hu hi h1 hz0 hlc (by simp; omega) hs hm h1c hpos h63 hbb
   rw [htake] at hS'
   refine ⟨⟨some g.b, g.cap, g.spare⟩, w', .inl ?_, ?_, ?_⟩
   ·simp [execOp, hop, resolve, invoke, builtin, hF.eval hx, hF.eval hy, hrun]
   ·exact hp.2
   ·rw [hC]; exact hS'
  ·have hm0 : m = 0 := by omega
   subst hm0
   have hn0 : news = [] := List.eq_nil_of_length_eq_zero (by omega)
   subst hn0
   obtain ⟨i', hi', hz, hs, hbb'⟩ := info_parts hi
   have hrun := run_app0 (P := P) (w := w) (ob := ob) (len := len) (cap := cap) (c := c) (ad := ad) (ty := o.type) (sz := z) hu (by rw [hi']; simp [hs]) hlc
   refine ⟨⟨ob, cap, sp⟩, w, .inl ?_, ?_, ?_⟩
   ·simp [execOp, hop, resolve, invoke, builtin, hF.eval hx, hF.eval hy, hrun]
   ·exact hcap
   ·rw [List.append_nil]
    rw [hC]
    have : own.set kk ⟨ob, xs ++ sp, e⟩ = own := by
     apply List.ext_getElem?; intro q
     by_cases hq : kk = q
     ·subst hq; rw [List.getElem?_set_self (List.getElem?_eq_some_iff.1 hkk).1, hkk]
     ·rw [List.getElem?_set_ne hq]
    rw [this]; exact hS
/-- append to a block that is full -/
theorem appfN {len cap b : Nat} {news : List Value} {zv : Value} {m c : Nat} {ad : Option Addr} (hop : o.op = .call { callee := .builtin .append, args := #[x, y], argTypes := #[t, t] }) (hu : P.underlying t = some (.slice e)) (hi : (P.info? e).map (fun i => (i.zero, i.size, i.bytes)) = some (some zv, z, sz)) (h1 : zv.cells.size = z) (hz0 : 0 < z)
  (hk : Ctx own ⟨some b, xs, e⟩ C) (hx : oper L x = some (.slice (some ⟨b, 0, none⟩) len cap)) (hy : oper L y = some (.slice ad m c)) (hsrc : ∀ w, St ok w0 own fs w → (Fact.sl ad news).holds (fun _ => True) w) (hm : news.length = m * z)
  (hb : xs.length = len * z ∧ cap = len ∧ len + m ≤ 9223372036854775807 ∧ (len + m) * sz ≤ 140737488355328) (h1c : ∀ u ∈ news, u.oneCell' = true) :
  Og ds P o n L (St ok w0 own fs) (fun g : Gr => .slice (g.ob.map fun b => ⟨b, 0, none⟩) (len + m) g.cap) (fun g w => (g.cap * z = (len + m) * z + g.sp.length) ∧ St ok w0 (C ⟨g.ob, (xs ++ news) ++ g.sp, e⟩) fs w) :=
 appgN (ob := some b) (sp := []) hop hu hi h1 hz0 (by rw [List.append_nil]; exact hk) hx hy hsrc hm ⟨hb.1, by rw [hb.2.1]; simp, hb.2.2⟩ h1c
theorem appgNJ {len cap : Nat} {ob : Option Nat} {news sp : List Value} {zv : Value} {m c : Nat} {ad : Option Addr} (hop : o.op = .call { callee := .builtin .append, args := #[x, y], argTypes := #[t, t] }) (hu : P.underlying t = some (.slice e)) (hi : (P.info? e).map (fun i => (i.zero, i.size, i.bytes)) = some (some zv, z, sz)) (h1 : zv.cells.size = z) (hz0 : 0 < z)
  (hk : Ctx own ⟨ob, xs ++ sp, e⟩ C) (hx : oper L x = some (.slice (ob.map fun b => ⟨b, 0, none⟩) len cap)) (hy : oper L y = some (.slice ad m c)) (hsrc : ∀ ext w, St ok w0 (ext ++ own) fs w → (Fact.sl ad news).holds (fun _ => True) w) (hm : news.length = m * z)
  (hb : xs.length = len * z ∧ cap * z = len * z + sp.length ∧ len + m ≤ 9223372036854775807 ∧ (len + m) * sz ≤ 140737488355328) (h1c : ∀ u ∈ news, u.oneCell' = true) (ext : List Ent) :
  Og ds P o n L (St ok w0 (ext ++ own) fs) (fun g : Gr => .slice (g.ob.map fun b => ⟨b, 0, none⟩) (len + m) g.cap) (fun g w => (g.cap * z = (len + m) * z + g.sp.length) ∧ St ok w0 (ext ++ C ⟨g.ob, (xs ++ news) ++ g.sp, e⟩) fs w) :=
 appgN hop hu hi h1 hz0 (Ctx.right hk ext) hx hy (hsrc ext) hm hb h1c
theorem appfNJ {len cap b : Nat} {news : List Value} {zv : Value} {m c : Nat} {ad : Option Addr} (hop : o.op = .call { callee := .builtin .append, args := #[x, y], argTypes := #[t, t] }) (hu : P.underlying t = some (.slice e)) (hi : (P.info? e).map (fun i => (i.zero, i.size, i.bytes)) = some (some zv, z, sz)) (h1 : zv.cells.size = z) (hz0 : 0 < z)
  (hk : Ctx own ⟨some b, xs, e⟩ C) (hx : oper L x = some (.slice (some ⟨b, 0, none⟩) len cap)) (hy : oper L y = some (.slice ad m c)) (hsrc : ∀ ext w, St ok w0 (ext ++ own) fs w → (Fact.sl ad news).holds (fun _ => True) w) (hm : news.length = m * z)
  (hb : xs.length = len * z ∧ cap = len ∧ len + m ≤ 9223372036854775807 ∧ (len + m) * sz ≤ 140737488355328) (h1c : ∀ u ∈ news, u.oneCell' = true) (ext : List Ent) :
  Og ds P o n L (St ok w0 (ext ++ own) fs) (fun g : Gr => .slice (g.ob.map fun b => ⟨b, 0, none⟩) (len + m) g.cap) (fun g w => (g.cap * z = (len + m) * z + g.sp.length) ∧ St ok w0 (ext ++ C ⟨g.ob, (xs ++ news) ++ g.sp, e⟩) fs w) :=
 appfN hop hu hi h1 hz0 (Ctx.right hk ext) hx hy (hsrc ext) hm hb h1c
end
/-! literals of wide elements -/
theorem cells_one {k : Nat} (c : List Value) : (([(k, Value.agg c.toArray)] : List (Nat × Value)).map Prod.snd).flatMap (fun v => v.cells.toList) = c := by simp [Value.cells]
theorem set_row (off : Nat) (tl : List Value) : ∀ (c : List Value) (k : Nat) (done mid : List Value), mid.length = c.length → done.length = off + k →
  (c.zipIdx k).foldl (fun (cs : Array Value) (x : Value × Nat) => cs.setIfInBounds (off + x.2) x.1) (done ++ (mid ++ tl)).toArray = (done ++ (c ++ tl)).toArray
 | [], k, done, mid, h, _ => by
  have : mid = [] := List.eq_nil_of_length_eq_zero h
  subst this; simp
 | x :: c, k, done, [], h, _ => by simp at h
 | x :: c, k, done, m :: mid, h, hd => by
  rw [List.zipIdx_cons, List.foldl_cons]
  have e1 : (done ++ (m :: mid ++ tl)).toArray.setIfInBounds (off + k) x = ((done ++ [x]) ++ (mid ++ tl)).toArray := by
   rw [← hd]; apply Array.ext'; simp
  simp only
  rw [e1, set_row off tl c (k + 1) (done ++ [x]) mid (by simpa using h) (by simp; omega)]
  simp
theorem fill_n (z : Nat) : ∀ (vs done zs : List Value) (k : Nat), zs.length = vs.length * z → (∀ v ∈ vs, v.cells.size = z) → done.length = k * z →
  Instr.fill (fun i => some (i * z, z)) (done ++ zs).toArray ((List.range' k vs.length).zip vs) = some (done ++ vs.flatMap fun v => v.cells.toList).toArray
 | [], done, zs, k, hl, _, _ => by have : zs = [] := List.eq_nil_of_length_eq_zero (by simpa using hl); subst this; simp [Instr.fill]
 | v :: vs, done, zs, k, hl, h1, hd => by
  have hv := h1 v (by simp)
  rw [List.length_cons, Nat.add_mul, Nat.one_mul] at hl
  have hz : zs = zs.take z ++ zs.drop z := (List.take_append_drop z zs).symm
  have hzl : (zs.take z).length = z := by rw [List.length_take]; omega
  have hdl : (zs.drop z).length = vs.length * z := by rw [List.length_drop]; omega
  have e1 := set_row (k * z) (zs.drop z) v.cells.toList 0 done (zs.take z) (by rw [hzl]; simpa using hv.symm) (by omega)
  rw [← hz] at e1
  have ih := fill_n z vs (done ++ v.cells.toList) (zs.drop z) (k + 1) hdl (fun u hu => h1 u (by simp [hu])) (by rw [List.length_append, hd, Nat.add_mul]; simp [hv])
  simp only [List.length_cons, List.range'_succ, List.zip_cons_cons, Instr.fill]
  rw [if_neg (by simp [hv, hd]; omega)]
  have e2 : (v.cells.zipIdx.foldl (fun (cs : Array Value) (x : Value × Nat) => cs.setIfInBounds (k * z + x.2) x.1) (done ++ zs).toArray) = (done ++ (v.cells.toList ++ zs.drop z)).toArray := by
   rw [← e1, ← Array.foldl_toList, Array.toList_zipIdx]
  have e3 : (v.cells.zipIdx.foldl (fun cs x => match x with | (c, j) => cs.setIfInBounds (k * z + j) c) (done ++ zs).toArray) = (done ++ (v.cells.toList ++ zs.drop z)).toArray := e2
  rw [e3, ← List.append_assoc, ih]
  simp
section
variable {ds : List Deferred} {P : Program} {o : Oper} {n : Nat} {L : Slots} {ok : Nat → Prop} {w0 : World} {own : List Ent} {fs : List Fact} {t e : TypeId} {sz z : Nat} {cs : List Value}
theorem run_bsN {len : Nat} {vs : List (Nat × Value)} {zv : Value} (hu : P.underlying t = some (.slice e))
  (hi : (P.info? e).map (fun i => (i.zero, i.size, i.bytes)) = some (some zv, z, sz)) (hzs : zv.cells.size = z) (hz0 : 0 < z) (hnum : vs = (List.range' 0 len).zip (vs.map Prod.snd)) (hlen : (vs.map Prod.snd).length = len) (h1 : ∀ v ∈ vs.map Prod.snd, v.cells.size = z) (hcs : (vs.map Prod.snd).flatMap (fun v => v.cells.toList) = cs) (hsm : len * z ≤ 16777216) (w : World) :
  (Instr.buildSlice t len vs.toArray).run P w = .ok (.slice (some ⟨w.heap.size, 0, none⟩) len len) (w.alloc (.cells cs.toArray e)) := by
 obtain ⟨i', hi', hz', hs, hbb⟩ := info_parts hi
 have hfill : ∀ zs : List Value, zs.length = len * z → Instr.fill (fun i => some (i * z, z)) zs.toArray vs = some cs.toArray := fun zs hzl => by
  have := fill_n z (vs.map Prod.snd) [] zs 0 (by rw [hlen]; exact hzl) h1 (by simp)
  rw [hlen, ← hnum, hcs] at this; simpa using this
 simp only [Instr.buildSlice, Sem.run_bind, run_underlying hu, Result.andThen, sizeOf, typeInfo, run_program, hi', Sem.run_pure, hs]
 rw [if_neg (by omega)]
 by_cases h0 : len * z = 0
 ·have hzero : ((Array.range (len * z)).map fun x => (#[] : Array Value)[x % (#[] : Array Value).size]!) = (((Array.range (len * z)).map fun x => (#[] : Array Value)[x % (#[] : Array Value).size]!).toList).toArray := (Array.toArray_toList).symm
  rw [if_pos h0]
  simp only [Sem.run_pure, Sem.run_bind, Result.andThen]
  rw [hzero, hfill _ (by simp)]
  rfl
 ·have hzero : ((Array.range (len * z)).map fun x => zv.cells[x % zv.cells.size]!) = (((Array.range (len * z)).map fun x => zv.cells[x % zv.cells.size]!).toList).toArray := (Array.toArray_toList).symm
  rw [if_neg h0]
  simp only [Sem.run_bind, zeroValue, typeInfo, run_program, Result.andThen, hi', Sem.run_pure, hz']
  rw [hzero, hfill _ (by simp)]
  rfl
theorem og_bsN {len : Nat} {parts : List (Nat × Operand)} {vs : List (Nat × Value)} {zv : Value} (hop : o.op = .buildSlice t len parts.toArray) (hp : partsOf L parts = some vs) (hu : P.underlying t = some (.slice e))
  (hi : (P.info? e).map (fun i => (i.zero, i.size, i.bytes)) = some (some zv, z, sz)) (hzs : zv.cells.size = z) (hz0 : 0 < z) (hnum : vs = (List.range' 0 len).zip (vs.map Prod.snd)) (hlen : (vs.map Prod.snd).length = len) (h1 : ∀ v ∈ vs.map Prod.snd, v.cells.size = z) (hcs : (vs.map Prod.snd).flatMap (fun v => v.cells.toList) = cs) (hsm : len * z ≤ 16777216) :
  Og ds P o n L (St ok w0 own fs) (fun b : Nat => .slice (some ⟨b, 0, none⟩) len len) (fun b => St ok w0 (⟨some b, cs, e⟩ :: own) fs) := og_bs hop hp hu (run_bsN hu hi hzs hz0 hnum hlen h1 hcs hsm)
theorem fr_bsN {len : Nat} {parts : List (Nat × Operand)} {vs : List (Nat × Value)} {zv : Value} (hop : o.op = .buildSlice t len parts.toArray) (hp : partsOf L parts = some vs) (hu : P.underlying t = some (.slice e))
  (hi : (P.info? e).map (fun i => (i.zero, i.size, i.bytes)) = some (some zv, z, sz)) (hzs : zv.cells.size = z) (hz0 : 0 < z) (hnum : vs = (List.range' 0 len).zip (vs.map Prod.snd)) (hlen : (vs.map Prod.snd).length = len) (h1 : ∀ v ∈ vs.map Prod.snd, v.cells.size = z) (hcs : (vs.map Prod.snd).flatMap (fun v => v.cells.toList) = cs) (hsm : len * z ≤ 16777216) :
  Fre ds P o n L (fun b : Nat => .slice (some ⟨b, 0, none⟩) len len) cs e := fr_bs hop hp hu (run_bsN hu hi hzs hz0 hnum hlen h1 hcs hsm)
end
theorem St.addN {ok : Nat → Prop} {w0 w : World} {own : List Ent} {fs : List Fact} (h : St ok w0 own fs w) : St ok w0 own (Fact.sl none [] :: fs) w := h.add (f := Fact.sl none []) (Or.inl rfl)
end Go.Proofs.YtnimhldbblfgbaaGreat
namespace Go.Proofs.YtnimhldbblfgbaaGreat
set_option linter.unusedSimpArgs false
set_option linter.unusedVariables false
set_option maxRecDepth 20000
set_option maxHeartbeats 600000
open Go.RowKit
/-- a valid number -/
def okN (a : Bs) : Prop := a.length ≤ 128 ∧ Can a
instance (a : Bs) : Decidable (okN a) := inferInstanceAs (Decidable (_ ∧ _))
theorem can_iff (a : Bs) : Can a ↔ a.length = 0 ∨ (a.getD 0 default).toNat ≠ 0 := by
 cases a with
 | nil => simp [Can]
 | cons c s =>
  simp only [Can, List.head?_cons, List.length_cons, List.getD_cons_zero]
  constructor
  ·intro h; right; intro h0; exact h (by rw [show c = 0 from UInt8.toNat_inj.1 h0])
  ·rintro (h | h)
   ·omega
   ·intro h0; injection h0 with h0; subst h0; exact h rfl
theorem valid_c {a : Bs} {w : World} :
  Calls Tryz.prog 89 #[.string (S a)] w fun e w' => e = .returned (.bool (decide (okN a))) ∧ Below w.heap.size w w' := by
 have hci := can_iff a
 refine enter (S := St (fun _ => True) w [] ([])) (L := [(0, .string (S a))]) Tryz.func89 rfl Tryz.ntmps89 rfl (args_cons rfl (args_nil _)) (St.start (fun _ _ => trivial) facts_nil) ?_
 refine WC.sr (Ka rfl (WL.nt (WC.sr (Km rfl (Kq rfl (rd_slen rfl rfl Tryz.underlying22) (Kq rfl (rd_leq rfl rfl rfl) (Km rfl ?_)))))))
 refine WL.bool 6 rfl (fun hg6 => ?_) (fun hg6 => ?_)
 ·(try simp only [sB] at hg6)
  refine Km rfl (Kq rfl (rd_slen rfl rfl Tryz.underlying22) (Kq rfl (rd_eql rfl rfl rfl) (Km rfl ?_)))
  refine WL.bool 10 rfl (fun hg10 => ?_) (fun hg10 => ?_)
  ·(try simp only [sB] at hg10)
   refine Kt rfl (Kt rfl (Kt rfl (Kq rfl (rd_pickt rfl rfl rfl) (Kq rfl (rd_pickt rfl rfl rfl) (Ka rfl (WL.nt (WC.ret ?_)))))))
   exact WX.retN rfl (.tmp rfl .nil) fun w' hS => ⟨congrArg (fun b => Ending.returned (.bool b)) (by
    first
     | (symm; rw [decide_eq_true_eq]; exact ⟨by omega, hci.2 (.inl (by omega))⟩)
     | (symm; rw [decide_eq_false_iff_not]; rintro ⟨h, _⟩; omega)
     | (show (!decide ((((a.getD 0 default).toNat : Nat) : Int) = 0)) = _
        rw [Bool.eq_iff_iff]; simp only [Bool.not_eq_true', decide_eq_false_iff_not, decide_eq_true_eq]
        exact ⟨fun h => ⟨by omega, hci.2 (.inr (by omega))⟩, fun h => by have := (hci.1 h.2).resolve_left (by omega); omega⟩)), hS.below⟩
  ·(try simp only [sB] at hg10)
   refine Km rfl ?_
   refine Kq rfl (rd_sidxD rfl rfl rfl Tryz.underlying22 ?_) ?_
   ·omega
   refine Kq rfl (rd_neq rfl rfl rfl) (Kq rfl (rd_pickf rfl rfl rfl) (Kq rfl (rd_pickt rfl rfl rfl) (Ka rfl (WL.nt (WC.ret ?_)))))
   exact WX.retN rfl (.tmp rfl .nil) fun w' hS => ⟨congrArg (fun b => Ending.returned (.bool b)) (by
    first
     | (symm; rw [decide_eq_true_eq]; exact ⟨by omega, hci.2 (.inl (by omega))⟩)
     | (symm; rw [decide_eq_false_iff_not]; rintro ⟨h, _⟩; omega)
     | (show (!decide ((((a.getD 0 default).toNat : Nat) : Int) = 0)) = _
        rw [Bool.eq_iff_iff]; simp only [Bool.not_eq_true', decide_eq_false_iff_not, decide_eq_true_eq]
        exact ⟨fun h => ⟨by omega, hci.2 (.inr (by omega))⟩, fun h => by have := (hci.1 h.2).resolve_left (by omega); omega⟩)), hS.below⟩
 ·(try simp only [sB] at hg6)
  refine Kt rfl (Kt rfl (Kt rfl (Kt rfl (Kt rfl (Kt rfl (Kt rfl (Kt rfl (Kq rfl (rd_pickf rfl rfl rfl) (Ka rfl (WL.nt (WC.ret ?_)))))))))))
  exact WX.retN rfl (.tmp rfl .nil) fun w' hS => ⟨congrArg (fun b => Ending.returned (.bool b)) (by
   first
    | (symm; rw [decide_eq_true_eq]; exact ⟨by omega, hci.2 (.inl (by omega))⟩)
    | (symm; rw [decide_eq_false_iff_not]; rintro ⟨h, _⟩; omega)
    | (show (!decide ((((a.getD 0 default).toNat : Nat) : Int) = 0)) = _
       rw [Bool.eq_iff_iff]; simp only [Bool.not_eq_true', decide_eq_false_iff_not, decide_eq_true_eq]
       exact ⟨fun h => ⟨by omega, hci.2 (.inr (by omega))⟩, fun h => by have := (hci.1 h.2).resolve_left (by omega); omega⟩)), hS.below⟩
theorem digit_c {a : Bs} {i : Nat} {w : World} (ha : a.length ≤ 1000000000) (hi : i ≤ 1000000000) :
  Calls Tryz.prog 90 #[.string (S a), .int .i64 (i : Int)] w fun e w' => e = .returned (.int .i64 ((val a / 256 ^ i % 256 : Nat) : Int)) ∧ Below w.heap.size w w' := by
 refine enter (S := St (fun _ => True) w [] ([])) (L := [(0, .string (S a)), (1, .int .i64 (i : Int))]) Tryz.func90 rfl Tryz.ntmps90 rfl (args_cons rfl (args_cons rfl (args_nil _))) (St.start (fun _ _ => trivial) facts_nil) ?_
 refine WC.sr (Ka rfl (WL.nt (WC.seq (WC.sr (Km rfl (Km rfl (Kq rfl (rd_slen rfl rfl Tryz.underlying22) (Kq rfl (rd_geq rfl rfl rfl) (WL.nt ?_)))))))))
 refine WC.cond rfl (fun hc8 => ?_) (fun hc8 => ?_)
 ·(try simp only [sB] at hc8)
  refine WC.sr (Ka rfl (WL.nt (WC.ret (WX.then_ret ?_))))
  exact WX.retN rfl (.tmp rfl .nil) fun w' hS => ⟨by rw [val_digit0 a i (by omega)]; rfl, hS.below⟩
 ·(try simp only [sB] at hc8)
  refine WC.skip (WX.then_normal (WC.sr (Km rfl (Km rfl (Kq rfl (rd_slen rfl rfl Tryz.underlying22) ?_)))))
  (refine Kq rfl (rd_sub64nl rfl rfl rfl ?_) ?_; (focus (omega)))
  refine Km rfl ?_
  (refine Kq rfl (rd_sub64n rfl rfl rfl ?_) ?_; (focus (omega)))
  refine Kq rfl (rd_sidxD rfl rfl rfl Tryz.underlying22 ?_) ?_
  ·omega
  refine Kq rfl (rd_convN rfl rfl Tryz.underlying5 Tryz.underlying3 ?_) ?_
  ·(exact wrap8_64 _)
  refine Ka rfl (WL.nt (WC.ret ?_))
  exact WX.retN rfl (.tmp rfl .nil) fun w' hS => ⟨by rw [val_digit a i (by omega)]; simp only [tup]; congr 3, hS.below⟩
theorem trimB_zero {t : Bs} (h0 : 0 < t.length) (h : (t.getD 0 default).toNat = 0) : trimB t = trimB (t.drop 1) := by
 cases t with
 | nil => simp at h0
 | cons c s =>
  have : c = 0 := UInt8.toNat_inj.1 h
  subst this; simp [trimB]
theorem trimB_stop {t : Bs} (h : t.length = 0 ∨ (t.getD 0 default).toNat ≠ 0) : trimB t = t := trim_can ((can_iff t).2 h)
theorem trimmed_n {b : Bs} {ad : Option Addr} {cap : Nat} {w : World} {ok : Nat → Prop} (hF1 : (Fact.sl ad (b.map B)).holds ok w) (hcap : b.length ≤ cap) (hb : b.length ≤ 1000000000) :
  Calls Tryz.prog 88 #[.slice ad b.length cap] w fun e w' => e = .returned (.string (S (canon (val b)))) ∧ Below w.heap.size w w' := by
 refine enter (S := St (fun _ => True) w [] ([Fact.sl ad (b.map B)])) (L := [(0, .slice ad b.length cap)]) Tryz.func88 rfl Tryz.ntmps88 rfl (args_cons rfl (args_nil _)) (St.start (fun _ _ => trivial) (facts_cons (fact_any hF1) facts_nil)) ?_
 refine WC.sr (Ka rfl (WL.nt (WC.seq (WC.block ?_))))
 refine WC.loopO (σ := Bs × (Option Addr) × Nat) [] (fun gq => [(0, .slice gq.2.1 gq.1.length gq.2.2)]) (fun gq => trimB gq.1 = trimB b ∧ gq.1.length ≤ gq.2.2 ∧ gq.1.length ≤ b.length) (fun gq => gq.1.length) (fun gq => []) (fun gq => [Fact.sl gq.2.1 (gq.1.map B)]) (b, ad, cap) (sub_nil _) (sub_cons rfl (sub_nil _)) (by (try dsimp only); exact ⟨rfl, hcap, Nat.le_refl _⟩) (by (exact fun _ h => h)) ?_
 rintro ⟨t, a', c⟩ hinv1; (try dsimp only at hinv1 ⊢)
 obtain ⟨ht, htc, htb⟩ := hinv1
 refine WC.seq (WC.sr (Km rfl (Kq rfl (rd_len rfl rfl Tryz.underlying128) (Kq rfl (rd_gtr rfl rfl rfl) (Km rfl ?_)))))
 refine WL.bool 6 rfl (fun hg6 => ?_) (fun hg6 => ?_)
 ·(try simp only [sB] at hg6)
  refine Km rfl ?_
  (refine Kq rfl (iaf rfl rfl rfl Tryz.underlying128 (by kernel_rfl : _ = some 1) ?_ ?_ (by (try simp only [sN, Int.reduceToNat, Nat.reduceAdd, Nat.reduceMul, Nat.reduceSub]); rfl)) ?_; (focus (omega)); (focus ((rw [List.length_map]; omega))))
  (refine Kq rfl (ldm rfl rfl Tryz.underlying5 rfl ?_) ?_; (focus (omega)))
  refine Kq rfl (rd_eql rfl rfl rfl) (Kq rfl (rd_pickt rfl rfl rfl) (WL.nt ?_))
  refine WC.cond rfl (fun hc11 => ?_) (fun hc11 => ?_)
  ·(try simp only [sB] at hc11)
   have hz : (t.getD 0 default).toNat = 0 := by (simp at hc11; exact hc11)
   refine WC.skip (WX.then_normal (WC.block (WC.region (Km rfl ?_))))
   (refine Kq rfl (rd_slf rfl rfl rfl Tryz.underlying128 (by kernel_rfl : _ = some 1) ?_ (by (try simp only [sN, Int.reduceToNat, Nat.reduceAdd, Nat.reduceMul, Nat.reduceSub]); rfl) (by (try simp only [sN, Int.reduceToNat, Nat.reduceAdd, Nat.reduceMul, Nat.reduceSub]); rfl) (by (try simp only [sN, Int.reduceToNat, Nat.reduceAdd, Nat.reduceMul, Nat.reduceSub]); rfl)) ?_; (focus (omega)))
   refine WL.set 13 rfl (v' := .slice (cut a' 1 c 1) (t.drop 1).length (c - 1)) (by rw [List.length_drop]) ?_
   refine Ka rfl (WL.nil (WX.block_normal ?_))
   refine WX.loopO ((t.drop 1, cut a' 1 c 1, c - 1)) (by simp only [List.length_drop]; omega) (sub_nil _) (by refine (sub_cons ?_ (sub_nil _)) <;> (rfl)) ?_ (by exact fun w h => (h.add (f := Fact.sl (cut a' 1 c 1) ((t.drop 1).map B)) (sl_cutM 1 htc (h.fact (Fact.sl a' (t.map B)) (by simp)))).sub (List.Sublist.refl _) (fun f hf => List.mem_cons.2 (.inl (List.mem_singleton.1 hf))))
   (try dsimp only)
   exact ⟨by rw [← trimB_zero (by omega) hz]; exact ht, by simp; omega, by simp; omega⟩
  ·(try simp only [sB] at hc11)
   refine WC.exit (WX.then_exit (WX.then_exit (WX.block_exit (WX.then_normal (WC.sr (Km rfl ?_))))))
   refine Kq rfl (b2sf rfl rfl .tc Tryz.underlying128 Tryz.underlying5 Tryz.underlying22 ?_) ?_
   ·rfl
   refine Ka rfl (WL.nt (WC.ret ?_))
   exact WX.retN rfl (.tmp rfl .nil) fun w' hS => ⟨by rw [show canon (val b) = t from by rw [← trim_canon, ← ht, trimB_stop (by omega)]]; rfl, hS.below⟩
 ·(try simp only [sB] at hg6)
  refine Kt rfl (Kt rfl (Kt rfl (Kt rfl (Kq rfl (rd_pickf rfl rfl rfl) (WL.nt ?_)))))
  refine WC.cond rfl (fun h => by cases h) (fun _ => ?_)
  refine WC.exit (WX.then_exit (WX.then_exit (WX.block_exit (WX.then_normal (WC.sr (Km rfl ?_))))))
  refine Kq rfl (b2sf rfl rfl .tc Tryz.underlying128 Tryz.underlying5 Tryz.underlying22 ?_) ?_
  ·rfl
  refine Ka rfl (WL.nt (WC.ret ?_))
  exact WX.retN rfl (.tmp rfl .nil) fun w' hS => ⟨by rw [show canon (val b) = t from by rw [← trim_canon, ← ht, trimB_stop (by omega)]]; rfl, hS.below⟩
theorem trimmed_c {b : Bs} {ad : Option Addr} {m cap : Nat} {w : World} {ok : Nat → Prop} (hF1 : (Fact.sl ad (b.map B)).holds ok w) (hm : m = b.length) (hcap : b.length ≤ cap) (hb : b.length ≤ 1000000000) :
  Calls Tryz.prog 88 #[.slice ad m cap] w fun e w' => e = .returned (.string (S (canon (val b)))) ∧ Below w.heap.size w w' :=
 by subst hm; exact trimmed_n hF1 hcap hb
/-- the last k bytes of an m-byte block -/
def lowB (m k n : Nat) : List Value := (List.replicate (m - k) (0 : UInt8) ++ be k n).map B
theorem lowB_zero (m n : Nat) : lowB m 0 n = List.replicate m (B 0) := by simp [lowB, be]
theorem lowB_full (m n : Nat) : lowB m m n = (be m n).map B := by simp [lowB]
theorem lowB_len (m k n : Nat) (h : k ≤ m) : (lowB m k n).length = m := by simp [lowB, be_len]; omega
theorem lowB_set (m k n : Nat) (h : k < m) : (lowB m k n).set (m - 1 - k) (B (UInt8.ofNat (n / 256 ^ k))) = lowB m (k + 1) n := by
 unfold lowB
 rw [← List.map_set]
 congr 1
 rw [show m - k = (m - (k + 1)) + 1 by omega, List.replicate_succ', List.append_assoc, List.set_append_right _ _ (by simp; omega), List.length_replicate, show m - 1 - k - (m - (k + 1)) = 0 by omega]
 rfl
theorem byte_shr64 (n k : Nat) (h : k ≤ 8) : IntKind.u8.wrap ((n : Int).fdiv (2 ^ (min (Int.toNat ((8 * k : Nat) : Int)) IntKind.u64.bits))) = ((UInt8.ofNat (n / 256 ^ k)).toNat : Int) := by
 have m1 : min (Int.toNat ((8 * k : Nat) : Int)) IntKind.u64.bits = 8 * k := by
  have : IntKind.u64.bits = 64 := by decide
  omega
 have e2 : ((2 : Int) ^ (8 * k)) = ((256 ^ k : Nat) : Int) := by rw [Int.pow_mul]; norm_cast
 rw [m1, e2, IntKind.wrap_u8, Int.fdiv_eq_ediv_of_nonneg _ (Int.natCast_nonneg _), UInt8.toNat_ofNat']
 norm_cast
theorem of_c {n : Nat} {w : World} (hn : n < 18446744073709551616) :
  Calls Tryz.prog 33 #[.int .u64 (n : Int)] w fun e w' => e = .returned (.string (S (canon n))) ∧ Below w.heap.size w w' := by
 refine enter (S := St (fun _ => True) w [] ([])) (L := [(0, .int .u64 (n : Int))]) Tryz.func33 rfl Tryz.ntmps33 rfl (args_cons rfl (args_nil _)) (St.start (fun _ _ => trivial) facts_nil) ?_
 refine WC.sr (Ka rfl (WL.nt (WC.sr ?_)))
 refine Kh rfl (og_alloc rfl (v := (.agg #[.int .u8 0, .int .u8 0, .int .u8 0, .int .u8 0, .int .u8 0, .int .u8 0, .int .u8 0, .int .u8 0])) (cs := [.int .u8 0, .int .u8 0, .int .u8 0, .int .u8 0, .int .u8 0, .int .u8 0, .int .u8 0, .int .u8 0]) (by kernel_rfl) rfl) ?_
 intro b3
 refine WL.nt (WC.seq (WC.sr (Km rfl (WL.nt (WC.block ?_)))))
 refine WC.loopO (σ := Nat) [(0, _), (3, _)] (fun gq => [(5, .int .i64 (gq : Int))]) (fun gq => gq ≤ 8) (fun gq => 8 - gq) (fun gq => [⟨some b3, lowB 8 gq n, 126⟩]) (fun gq => []) (0) (sub_cons rfl (sub_cons rfl (sub_nil _))) (sub_cons rfl (sub_nil _)) (by (try dsimp only); exact Nat.zero_le _) (by exact fun w h => h) ?_
 rintro k hinv1; (try dsimp only at hinv1 ⊢)
 obtain hk := hinv1
 refine WC.sr (Kq rfl (rd_lss rfl rfl rfl) (WL.nt (WC.seq ?_)))
 refine WC.cond rfl (fun hc6 => ?_) (fun hc6 => ?_)
 ·(try simp only [sB] at hc6)
  refine WC.skip (WX.then_normal (WC.seq (WC.block (WC.sr (Km rfl (Ka rfl (WL.nt (WC.region (Km rfl ?_)))))))))
  (refine Kq rfl (rd_sub64ln rfl rfl rfl ?_) ?_; (focus (omega)))
  refine WL.set 9 rfl (v' := .int .i64 (((7 - k : Nat) : Int))) (congrArg (Value.int .i64) (by omega)) ?_
  refine Km rfl (Km rfl ?_)
  (refine Kq rfl (rd_mul64ln rfl rfl rfl ?_) ?_; (focus (omega)))
  refine Kq rfl (rd_shr rfl rfl rfl ?_) ?_
  ·omega
  refine Kq rfl (rd_conv rfl rfl Tryz.underlying81 Tryz.underlying5) ?_
  refine WL.set 14 rfl (v' := B (UInt8.ofNat (n / 256 ^ k))) (by exact congrArg (Value.int .u8) (byte_shr64 n k (by omega))) ?_
  refine Kq rfl (rd_iaa rfl rfl rfl Tryz.underlying126 (by kernel_rfl : _ = some 1) ?_ (by (try simp only [sN, Int.reduceToNat, Nat.reduceAdd, Nat.reduceMul, Nat.reduceSub]); rfl)) ?_
  ·omega
  refine WL.g0 rfl rfl (st rfl rfl rfl .tc (by kernel_rfl) rfl ?_ (by rfl)) ?_
  ·rw [lowB_len _ _ _ (by omega)]; omega
  intro _
  refine WL.nil (WX.block_normal (WX.then_normal (WC.region ?_)))
  (refine Kq rfl (rd_add64nl rfl rfl rfl ?_) ?_; (focus (omega)))
  refine Km rfl (WL.nil ?_)
  refine WX.loopO (k + 1) (by (try dsimp only); omega) (sub_cons rfl (sub_cons rfl (sub_nil _))) (by refine (sub_cons ?_ (sub_nil _)) <;> (rfl)) ?_ (by exact fun w h => by rw [← lowB_set 8 k n (by omega)]; exact h)
  (try dsimp only)
  omega
 ·(try simp only [sB] at hc6)
  refine WC.exit (WX.then_exit (WX.then_exit (WX.block_exit ?_)))
  obtain rfl : k = 8 := by omega
  rw [lowB_full]
  refine WX.then_normal (WC.sr ?_)
  refine Kq rfl (rd_sla rfl rfl Tryz.underlying126 (by kernel_rfl : _ = some 1)) ?_
  refine Kh rfl (og_call rfl rfl (by kernel_rfl) (keep_val fun w hS => trimmed_c (b := be 8 n) (by (exact hS.os)) (by rw [be_len]) (by rw [be_len]; decide) (by rw [be_len]; decide))) ?_
  intro _
  refine Ka rfl (WL.nt (WC.ret ?_))
  exact WX.retN rfl (.tmp rfl .nil) fun w' hS => ⟨by rw [val_be, Nat.mod_eq_of_lt (by omega)]; rfl, hS.below⟩
theorem cmpB_lex : ∀ (a b : Bs), a.length = b.length → Lib.compareBytes a b = cmpI (val a) (val b)
 | [], [], _ => by simp [Lib.compareBytes, cmpI, val]
 | [], _ :: _, h => by simp at h
 | _ :: _, [], h => by simp at h
 | x :: a, y :: b, h => by
  have hl : a.length = b.length := by simpa using h
  have ih := cmpB_lex a b hl
  have ha := val_lt a; have hb := val_lt b
  rw [hl] at ha
  simp only [Lib.compareBytes, val, hl]
  rcases Nat.lt_trichotomy x.toNat y.toNat with q | q | q
  ·have h1 : (x.toNat + 1) * 256 ^ b.length ≤ y.toNat * 256 ^ b.length := Nat.mul_le_mul_right _ q
   rw [Nat.add_mul, Nat.one_mul] at h1
   rw [if_pos (show x < y from q), cmpI, if_pos (by omega)]
  ·have hxy : x = y := UInt8.toNat_inj.1 q
   subst hxy
   rw [if_neg (show ¬ x < x from Nat.lt_irrefl _), if_neg (show ¬ x < x from Nat.lt_irrefl _), ih]
   unfold cmpI
   split <;> split <;> (try split) <;> (try split) <;> omega
  ·have h1 : (y.toNat + 1) * 256 ^ b.length ≤ x.toNat * 256 ^ b.length := Nat.mul_le_mul_right _ q
   rw [Nat.add_mul, Nat.one_mul] at h1
   rw [if_neg (show ¬ x < y from Nat.not_lt.2 (Nat.le_of_lt q)), if_pos (show y < x from q), cmpI, if_neg (by omega), if_pos (by omega)]
theorem cmp_len {a b : Bs} (ha : Can a) (hb : Can b) (h : a.length ≠ b.length) : cmpI (a.length : Int) (b.length : Int) = cmpI (val a) (val b) := by
 unfold cmpI
 rcases Nat.lt_or_gt_of_ne h with q | q
 ·have : val a < val b := Nat.lt_of_not_le fun h' => by have := can_len hb ha h'; omega
  rw [if_pos (by omega), if_pos (by omega)]
 ·have : val b < val a := Nat.lt_of_not_le fun h' => by have := can_len ha hb h'; omega
  rw [if_neg (by omega), if_pos (by omega), if_neg (by omega), if_pos (by omega)]
theorem compare_c {a b : Bs} {w : World} (ha : Can a) (hb : Can b) :
  Calls Tryz.prog 119 #[.string (S a), .string (S b)] w fun e w' => e = .returned (.int .i64 (cmpI (val a) (val b))) ∧ Below w.heap.size w w' := by
 refine enter (S := St (fun _ => True) w [] ([])) (L := [(0, .string (S a)), (1, .string (S b))]) Tryz.func119 rfl Tryz.ntmps119 rfl (args_cons rfl (args_cons rfl (args_nil _))) (St.start (fun _ _ => trivial) facts_nil) ?_
 refine WC.sr (Ka rfl (WL.nt (WC.seq (WC.sr (Km rfl (Kq rfl (rd_slen rfl rfl Tryz.underlying22) (Km rfl (Kq rfl (rd_slen rfl rfl Tryz.underlying22) ?_))))))))
 refine Kh rfl (og_call rfl rfl (by kernel_rfl) (keep_val fun w hS => cmp_c (a := (a.length : Int)) (b := (b.length : Int)))) ?_
 intro _
 refine Ka rfl (WL.nt (WC.sr (Km rfl (Kq rfl (rd_neq rfl rfl rfl) (WL.nt ?_)))))
 refine WC.cond rfl (fun hc12 => ?_) (fun hc12 => ?_)
 ·(try simp only [sB] at hc12)
  have hne : a.length ≠ b.length := fun h => by rw [cmpI, if_neg (by omega), if_neg (by omega)] at hc12; exact hc12 rfl
  refine WC.sr (Km rfl (Ka rfl (WL.nt (WC.ret (WX.then_ret ?_)))))
  exact WX.retN rfl (.tmp rfl .nil) fun w' hS => ⟨by rw [← cmp_len ha hb hne]; rfl, hS.below⟩
 ·(try simp only [sB] at hc12)
  have heq : a.length = b.length := by unfold cmpI at hc12; split at hc12 <;> (try split at hc12) <;> omega
  refine WC.skip (WX.then_normal (WC.sr (Km rfl (Km rfl ?_))))
  refine Kh rfl (og_call rfl rfl (by kernel_rfl) (keep_val fun w hS => scmp_c)) ?_
  intro _
  refine Ka rfl (WL.nt (WC.ret ?_))
  exact WX.retN rfl (.tmp rfl .nil) fun w' hS => ⟨by rw [← cmpB_lex a b heq]; rfl, hS.below⟩
def cmpN (a b : Bs) : Int := if okN a ∧ okN b then cmpI (val a) (val b) else 0
theorem Cmp_c {a b : Bs} {w : World} :
  Calls Tryz.prog 76 #[.string (S a), .string (S b)] w fun e w' => e = .returned (.int .i64 (cmpN a b)) ∧ Below w.heap.size w w' := by
 refine enter (S := St (fun _ => True) w [] ([])) (L := [(0, .string (S a)), (1, .string (S b))]) Tryz.func76 rfl Tryz.ntmps76 rfl (args_cons rfl (args_cons rfl (args_nil _))) (St.start (fun _ _ => trivial) facts_nil) ?_
 refine WC.sr (Ka rfl (WL.nt (WC.seq (WC.sr (Km rfl ?_)))))
 refine Kh rfl (og_call rfl rfl (by kernel_rfl) (keep_val fun w hS => valid_c)) ?_
 intro _
 refine Kq rfl (rd_not rfl rfl) (Km rfl ?_)
 refine WL.bool 8 rfl (fun hg8 => ?_) (fun hg8 => ?_)
 ·(try simp only [sB] at hg8)
  refine Kt rfl (Kt rfl (Kt rfl (Kq rfl (rd_pickt rfl rfl rfl) (WL.nt ?_))))
  refine WC.cond rfl (fun _ => ?_) (fun h => by cases h)
  refine WC.sr (Ka rfl (WL.nt (WC.ret (WX.then_ret ?_))))
  exact WX.retN rfl (.tmp rfl .nil) fun w' hS => ⟨by rw [cmpN, if_neg (by simp_all)]; rfl, hS.below⟩
 ·(try simp only [sB] at hg8)
  refine Km rfl ?_
  refine Kh rfl (og_call rfl rfl (by kernel_rfl) (keep_val fun w hS => valid_c)) ?_
  intro _
  refine Kq rfl (rd_not rfl rfl) (Kq rfl (rd_pickf rfl rfl rfl) (WL.nt ?_))
  refine WC.cond rfl (fun hc12 => ?_) (fun hc12 => ?_)
  ·(try simp only [sB] at hc12)
   refine WC.sr (Ka rfl (WL.nt (WC.ret (WX.then_ret ?_))))
   exact WX.retN rfl (.tmp rfl .nil) fun w' hS => ⟨by rw [cmpN, if_neg (by simp_all)]; rfl, hS.below⟩
  ·(try simp only [sB] at hc12)
   have hab : okN a ∧ okN b := by simp_all
   refine WC.skip (WX.then_normal (WC.sr (Km rfl (Km rfl ?_))))
   refine Kh rfl (og_call rfl rfl (by kernel_rfl) (keep_val fun w hS => compare_c (a := a) (b := b) (by exact hab.1.2) (by exact hab.2.2))) ?_
   intro _
   refine Ka rfl (WL.nt (WC.ret ?_))
   exact WX.retN rfl (.tmp rfl .nil) fun w' hS => ⟨by rw [cmpN, if_pos hab]; rfl, hS.below⟩
theorem fitting_c {a : Bs} {w : World} :
  Calls Tryz.prog 91 #[.string (S a)] w fun e w' => e = .returned (.tuple #[.string (S (if 128 < a.length then [] else a)), .int .i64 (if 128 < a.length then 5 else 0)]) ∧ Below w.heap.size w w' := by
 refine enter (S := St (fun _ => True) w [] ([])) (L := [(0, .string (S a))]) Tryz.func91 rfl Tryz.ntmps91 rfl (args_cons rfl (args_nil _)) (St.start (fun _ _ => trivial) facts_nil) ?_
 refine WC.sr (Ka rfl (Ka rfl (WL.nt (WC.seq (WC.sr (Km rfl (Kq rfl (rd_slen rfl rfl Tryz.underlying22) (Kq rfl (rd_gtr rfl rfl rfl) (WL.nt ?_)))))))))
 refine WC.cond rfl (fun hc6 => ?_) (fun hc6 => ?_)
 ·(try simp only [sB] at hc6)
  refine WC.sr (Ka rfl (Ka rfl (WL.nt (WC.ret (WX.then_ret ?_)))))
  exact WX.retN rfl (.tmp rfl (.tmp rfl .nil)) fun w' hS => ⟨by rw [if_pos (by omega), if_pos (by omega)]; rfl, hS.below⟩
 ·(try simp only [sB] at hc6)
  refine WC.skip (WX.then_normal (WC.sr (Km rfl (Ka rfl (Ka rfl (WL.nt (WC.ret ?_)))))))
  exact WX.retN rfl (.tmp rfl (.tmp rfl .nil)) fun w' hS => ⟨by rw [if_neg (by omega), if_neg (by omega)]; rfl, hS.below⟩
/-- the limit of the numbers -/
def Big : Nat := 256 ^ 128
theorem canon_big {n : Nat} : (canon n).length ≤ 128 ↔ n < Big := canon_len_le
def addN (a b : Bs) : Bs × Int := if okN a ∧ okN b then (if val a + val b < Big then (canon (val a + val b), 0) else ([], 5)) else ([], 3)
def NE (r : Bs × Int) : Value := .tuple #[.string (S r.1), .int .i64 r.2]
theorem add_c {a b : Bs} {w : World} :
  Calls Tryz.prog 34 #[.string (S a), .string (S b)] w fun e w' => e = .returned (NE (addN a b)) ∧ Below w.heap.size w w' := by
 refine enter (S := St (fun _ => True) w [] ([])) (L := [(0, .string (S a)), (1, .string (S b))]) Tryz.func34 rfl Tryz.ntmps34 rfl (args_cons rfl (args_cons rfl (args_nil _))) (St.start (fun _ _ => trivial) facts_nil) ?_
 refine WC.sr (Ka rfl (Ka rfl (WL.nt (WC.seq (WC.sr (Km rfl ?_))))))
 refine Kh rfl (og_call rfl rfl (by kernel_rfl) (keep_val fun w hS => valid_c)) ?_
 intro _
 refine Kq rfl (rd_not rfl rfl) (Km rfl ?_)
 refine WL.bool 13 rfl (fun hg13 => ?_) (fun hg13 => ?_)
 ·(try simp only [sB] at hg13)
  refine Kt rfl (Kt rfl (Kt rfl (Kq rfl (rd_pickt rfl rfl rfl) (WL.nt ?_))))
  refine WC.cond rfl (fun _ => ?_) (fun h => by cases h)
  refine WC.sr (Ka rfl (Ka rfl (WL.nt (WC.ret (WX.then_ret ?_)))))
  exact WX.retN rfl (.tmp rfl (.tmp rfl .nil)) fun w' hS => ⟨by rw [addN, if_neg (by simp_all)]; rfl, hS.below⟩
 ·(try simp only [sB] at hg13)
  refine Km rfl ?_
  refine Kh rfl (og_call rfl rfl (by kernel_rfl) (keep_val fun w hS => valid_c)) ?_
  intro _
  refine Kq rfl (rd_not rfl rfl) (Kq rfl (rd_pickf rfl rfl rfl) (WL.nt ?_))
  refine WC.cond rfl (fun hc17 => ?_) (fun hc17 => ?_)
  ·(try simp only [sB] at hc17)
   refine WC.sr (Ka rfl (Ka rfl (WL.nt (WC.ret (WX.then_ret ?_)))))
   exact WX.retN rfl (.tmp rfl (.tmp rfl .nil)) fun w' hS => ⟨by rw [addN, if_neg (by simp_all)]; rfl, hS.below⟩
  ·(try simp only [sB] at hc17)
   have hab : okN a ∧ okN b := by simp_all
   have hal := hab.1.1; have hbl := hab.2.1
   refine WC.skip (WX.then_normal (WC.sr (Km rfl (Kq rfl (rd_slen rfl rfl Tryz.underlying22) (Km rfl (Kq rfl (rd_slen rfl rfl Tryz.underlying22) ?_))))))
   refine Kq rfl (rd_max2 rfl rfl rfl) ?_
   refine WL.set 22 rfl (v' := .int .i64 ((max a.length b.length : Nat) : Int)) (congrArg (Value.int .i64) (by omega)) ?_
   (refine Kq rfl (rd_add64nl rfl rfl rfl ?_) ?_; (focus (omega)))
   obtain ⟨N, hN⟩ : ∃ N : Nat, N = max a.length b.length + 1 := ⟨_, rfl⟩
   refine WL.set 23 rfl (v' := .int .i64 (N : Int)) (by rw [hN]) ?_
   have hNl : N ≤ 129 := by omega
   have hS256 : val a + val b < 256 ^ N := by
    have h1 := val_lt a; have h2 := val_lt b
    have h3 : 256 ^ a.length ≤ 256 ^ (N - 1) := Nat.pow_le_pow_right (by decide) (by omega)
    have h4 : 256 ^ b.length ≤ 256 ^ (N - 1) := Nat.pow_le_pow_right (by decide) (by omega)
    have h5 : 256 ^ N = 256 ^ (N - 1) * 256 := by rw [← Nat.pow_succ]; congr 1; omega
    omega
   have hcl : (if 128 < (canon (val a + val b)).length then ([] : Bs) else canon (val a + val b)) = (addN a b).1 ∧ (if 128 < (canon (val a + val b)).length then (5 : Int) else 0) = (addN a b).2 := by
    rw [addN, if_pos hab]
    by_cases h : val a + val b < Big
    ·have hl := canon_big.2 h
     rw [if_neg (show ¬ 128 < (canon (val a + val b)).length by omega), if_neg (show ¬ 128 < (canon (val a + val b)).length by omega), if_pos h]; exact ⟨rfl, rfl⟩
    ·have hl : ¬ (canon (val a + val b)).length ≤ 128 := fun h' => h (canon_big.1 h')
     rw [if_pos (show 128 < (canon (val a + val b)).length by omega), if_pos (show 128 < (canon (val a + val b)).length by omega), if_neg h]; exact ⟨rfl, rfl⟩
   refine Ka rfl (WL.nt (WC.sr (Km rfl ?_)))
   refine Kh rfl (og_mk rfl rfl rfl Tryz.underlying128 (by kernel_rfl : _ = some (some (.int .u8 0), 1, 1)) rfl ?_ (by (try simp only [sN, Int.reduceToNat, Nat.reduceAdd, Nat.reduceMul, Nat.reduceSub]); rfl) (by (try simp only [sN, Int.reduceToNat, Nat.reduceAdd, Nat.reduceMul, Nat.reduceSub]); rfl)) ?_
   ·omega
   intro b25
   refine Ka rfl (WL.nt (WC.sr (Ka rfl ?_)))
   refine WL.set 8 rfl (v' := .int .i64 ((carryA (val a) (val b) 0 : Nat) : Int)) (congrArg (Value.int .i64) (by rw [carryA_zero]; rfl)) ?_
   refine WL.nt (WC.seq (WC.sr (Km rfl (Km rfl (WL.nt (WC.block ?_))))))
   refine WC.loopO (σ := Nat) [(0, _), (1, _), (6, _), (7, _), (26, _)] (fun gq => [(8, .int .i64 (carryA (val a) (val b) gq : Int)), (27, .int .i64 (gq : Int))]) (fun gq => gq ≤ N) (fun gq => N - gq) (fun gq => [⟨some b25, lowB N gq (val a + val b), 5⟩]) (fun gq => []) (0) (sub_cons rfl (sub_cons rfl (sub_cons rfl (sub_cons rfl (sub_cons rfl (sub_nil _)))))) (sub_cons rfl (sub_cons rfl (sub_nil _))) (by (try dsimp only); exact Nat.zero_le _) (by exact fun w h => by rw [lowB_zero]; exact h) ?_
   rintro k hinv1; (try dsimp only at hinv1 ⊢)
   obtain hk := hinv1
   refine WC.sr (Kq rfl (rd_lss rfl rfl rfl) (WL.nt (WC.seq ?_)))
   refine WC.cond rfl (fun hc28 => ?_) (fun hc28 => ?_)
   ·(try simp only [sB] at hc28)
    have hc1 := carryA_le (val a) (val b) k
    have hd1 := Nat.mod_lt (val a / 256 ^ k) (show 0 < 256 by decide); have hd2 := Nat.mod_lt (val b / 256 ^ k) (show 0 < 256 by decide)
    refine WC.skip (WX.then_normal (WC.seq (WC.block (WC.sr (Km rfl (Ka rfl (WL.nt (WC.sr (Km rfl (Km rfl (Km rfl ?_)))))))))))
    refine Kh rfl (og_call rfl rfl (by kernel_rfl) (keep_val fun w hS => digit_c (a := a) (i := k) (by omega) (by omega))) ?_
    intro _
    refine Km rfl (Km rfl ?_)
    refine Kh rfl (og_call rfl rfl (by kernel_rfl) (keep_val fun w hS => digit_c (a := b) (i := k) (by omega) (by omega))) ?_
    intro _
    (refine Kq rfl (rd_add64n rfl rfl rfl ?_) ?_; (focus (omega)))
    (refine Kq rfl (rd_add64n rfl rfl rfl ?_) ?_; (focus (omega)))
    refine Ka rfl (WL.nt (WC.sr (Km rfl (Km rfl ?_))))
    (refine Kq rfl (rd_sub64nl rfl rfl rfl ?_) ?_; (focus (omega)))
    refine Km rfl ?_
    (refine Kq rfl (rd_sub64n rfl rfl rfl ?_) ?_; (focus (omega)))
    refine WL.set 43 rfl (v' := .int .i64 ((N - 1 - k : Nat) : Int)) (congrArg (Value.int .i64) (by omega)) ?_
    refine Km rfl ?_
    refine Kq rfl (rd_conv rfl rfl Tryz.underlying3 Tryz.underlying5) ?_
    refine WL.set 45 rfl (v' := B (UInt8.ofNat ((val a + val b) / 256 ^ k))) (by exact congrArg (Value.int .u8) (by rw [byte_of, sum_digit, Nat.add_assoc])) ?_
    (refine Kq rfl (rd_ia rfl rfl rfl Tryz.underlying128 (by kernel_rfl : _ = some 1) ?_ (by (try simp only [sN, Int.reduceToNat, Nat.reduceAdd, Nat.reduceMul, Nat.reduceSub]); rfl)) ?_; (focus (omega)))
    refine WL.g0 rfl rfl (st rfl rfl rfl .tc (by kernel_rfl) rfl ?_ (by rfl)) ?_
    ·rw [lowB_len _ _ _ (by omega)]; omega
    intro _
    refine WL.nt (WC.region (Km rfl ?_))
    refine Kq rfl (rd_shr rfl rfl rfl ?_) ?_
    ·decide
    refine WL.set 48 rfl (v' := .int .i64 ((carryA (val a) (val b) (k + 1) : Nat) : Int)) (congrArg (Value.int .i64) (by rw [shr8, carryA_succ, Nat.add_assoc])) ?_
    refine Ka rfl (WL.nil (WX.block_normal (WX.then_normal (WC.region ?_))))
    (refine Kq rfl (rd_add64nl rfl rfl rfl ?_) ?_; (focus (omega)))
    refine Km rfl (WL.nil ?_)
    refine WX.loopO (k + 1) (by (try dsimp only); omega) (sub_cons rfl (sub_cons rfl (sub_cons rfl (sub_cons rfl (sub_cons rfl (sub_nil _)))))) (by refine (sub_cons ?_ (sub_cons ?_ (sub_nil _))) <;> (rfl)) ?_ (by exact fun w h => by rw [← lowB_set N k _ (by omega)]; exact h)
    (try dsimp only)
    omega
   ·(try simp only [sB] at hc28)
    refine WC.exit (WX.then_exit (WX.then_exit (WX.block_exit ?_)))
    obtain rfl : k = N := by omega
    rw [lowB_full]
    refine WX.then_normal (WC.sr (Km rfl ?_))
    refine Kh rfl (og_call rfl rfl (by kernel_rfl) (keep_val fun w hS => trimmed_c (b := be k (val a + val b)) (by (exact hS.os)) (by rw [be_len]) (by rw [be_len]; exact Nat.le_refl _) (by rw [be_len]; omega))) ?_
    intro _
    refine WL.set 51 rfl (v' := .string (S (canon (val a + val b)))) (congrArg (fun l => Value.string (S l)) (by rw [val_be, Nat.mod_eq_of_lt hS256])) ?_
    refine Kh rfl (og_call rfl rfl (by kernel_rfl) (keep_val fun w hS => fitting_c)) ?_
    intro _
    refine Kq rfl (rd_extL rfl rfl rfl) (Kq rfl (rd_extL rfl rfl rfl) (Ka rfl (Ka rfl (WL.nt (WC.ret ?_)))))
    exact WX.retN rfl (.tmp rfl (.tmp rfl .nil)) fun w' hS => ⟨by simp only [tup, NE]; rw [← hcl.1, ← hcl.2], hS.below⟩
end Go.Proofs.YtnimhldbblfgbaaGreat
