/-
  Own framework: further laws on the state of memory.
-/
import Derived.Test.YtbcnnkcddilfjaaGreatRul
import Derived.Test.YtbcnnkcddilfjaaGreatOrd
namespace Go.Proofs.YtbcnnkcddilfjaaGreat
set_option linter.unusedSimpArgs false
set_option linter.unusedVariables false
open Go.RowKit
section
variable {ds : List Deferred} {ρ : Option Nat} {P : Program} {ok : Nat → Prop} {w0 : World} {own : List Ent} {fs : List Fact}
theorem st_swap {w : World} {p q : Ent} {r : List Ent} (hS : St ok w0 (p :: q :: r) fs w) : St ok w0 (q :: p :: r) fs w := by
  have hperm : ∀ c, c ∈ ids (q :: p :: r) ↔ c ∈ ids (p :: q :: r) := fun c => by
    simp only [ids, List.mem_filterMap, List.mem_cons]
    constructor
    · rintro ⟨x, h, hx⟩; exact ⟨x, by rcases h with h | h | h <;> simp [h], hx⟩
    · rintro ⟨x, h, hx⟩; exact ⟨x, by rcases h with h | h | h <;> simp [h], hx⟩
  refine ⟨hS.okn, hS.below, fun z hz => hS.own_ z (by simp at hz ⊢; rcases hz with h | h | h <;> simp [h]), ?_, fun f hf => f.mono (fun c hc => ⟨hc.1, fun hm => hc.2 ((hperm c).1 hm)⟩) (hS.fact f hf)⟩
  have := hS.nd
  have hp : (ids (q :: p :: r)).Perm (ids (p :: q :: r)) := List.Perm.filterMap _ (List.Perm.swap p q r)
  exact hp.nodup_iff.2 this

/-! parts of a standing slice -/
theorem sl_take {a : Option Addr} {xs : List Value} {w : World} (k : Nat) (h : (Fact.sl a xs).holds ok w) : (Fact.sl a (xs.take k)).holds ok w := by
  rcases h with rfl | ⟨b, off, cs, T, fz, h1, h2, h3, h4⟩
  · exact .inl (by simp)
  · exact .inr ⟨b, off, cs, T, fz, h1, h2, h3, fun i hi => by
      rw [List.length_take] at hi
      rw [h4 i (by omega), List.getElem?_take_of_lt (by omega)]⟩
theorem sl_drop {b off : Nat} {xs : List Value} {w : World} (k : Nat) (h : (Fact.sl (some ⟨b, off, none⟩) xs).holds ok w) : (Fact.sl (some ⟨b, off + k, none⟩) (xs.drop k)).holds ok w := by
  rcases h with rfl | ⟨b', off', cs, T, fz, h1, h2, h3, h4⟩
  · exact .inl (by simp)
  · cases h1
    exact .inr ⟨b, off + k, cs, T, fz, rfl, h2, h3, fun i hi => by
      rw [List.length_drop] at hi
      rw [List.getElem?_drop, ← h4 (k + i) (by omega), Nat.add_assoc]⟩
theorem sl_addr {a : Option Addr} {xs : List Value} {w : World} (h : (Fact.sl a xs).holds ok w) (hx : 0 < xs.length) : ∃ b off, a = some ⟨b, off, none⟩ := by
  rcases h with rfl | ⟨b, off, cs, T, fz, h1, h2, h3, h4⟩
  · simp at hx
  · exact ⟨b, off, h1⟩
theorem sl_any {a : Option Addr} {xs : List Value} {w : World} (h : (Fact.sl a xs).holds ok w) : (Fact.sl a xs).holds (fun _ => True) w := (Fact.sl a xs).mono (fun _ _ => trivial) h

/-- What a call made for itself is taken over. -/
theorem St.adopt {ok' : Nat → Prop} {w w' : World} {own' : List Ent} {fs' : List Fact} (h : St ok w0 own fs w) (h' : St ok' w own' fs' w') : St ok w0 (own' ++ own) fs w' := by
  have hk := h.keep h'.below
  have hids : ids (own' ++ own) = ids own' ++ ids own := by simp [ids, List.filterMap_append]
  refine ⟨h.okn, hk.below, fun x hx => ?_, ?_, fun f hf => ?_⟩
  · rcases List.mem_append.1 hx with hx | hx
    · have := h'.own_ x hx
      unfold Ent.holds at *
      split
      · rename_i h1; simpa [h1] using this
      · rename_i b h1; simp only [h1] at this; exact ⟨Nat.le_trans h.below.size this.1, this.2⟩
    · exact hk.own_ x hx
  · rw [hids]
    refine List.nodup_append.2 ⟨h'.nd, h.nd, fun b hb c hc hbc => ?_⟩
    subst hbc
    have := (h'.lt hb).1
    have := (h.lt hc).2
    omega
  · have h1 := f.here (h.fact f hf)
    have h2 := f.stable h1 h'.below.size fun b hlt _ => h'.below.block b hlt
    refine f.mono (fun b hb => ⟨hb.1.1, fun hm => ?_⟩) h2
    rw [hids] at hm
    rcases List.mem_append.1 hm with hm | hm
    · have := (h'.lt hm).1
      have := hb.2
      omega
    · exact hb.1.2 hm

/-- an own block read as a standing slice -/
theorem own_fact {w : World} {b : Nat} {xs : List Value} {T : TypeId} (h : St ok w0 own fs w) (hx : InE own ⟨some b, xs, T⟩) : (Fact.sl (some ⟨b, 0, none⟩) xs).holds (fun _ => True) w := by
  obtain ⟨k, hk⟩ := hx.get
  have := h.own_ _ (List.mem_of_getElem? hk)
  exact .inr ⟨b, 0, xs.toArray, T, (0, 0), rfl, trivial, this.2, fun i hi => by rw [Nat.zero_add]; simp⟩
theorem ent_fact {w : World} {ob : Option Nat} {xs sp : List Value} {T : TypeId} (h : St ok w0 own fs w) (hx : InE own ⟨ob, xs ++ sp, T⟩) : (Fact.sl (ob.map fun b => ⟨b, 0, none⟩) xs).holds (fun _ => True) w := by
  obtain ⟨k, hk⟩ := hx.get
  have := h.own_ _ (List.mem_of_getElem? hk)
  cases ob with
  | none => exact .inl (by have h1 : xs ++ sp = [] := this; simp at h1; exact h1.1)
  | some b => exact .inr ⟨b, 0, (xs ++ sp).toArray, T, (0, 0), rfl, trivial, this.2, fun i hi => by rw [Nat.zero_add, List.getElem?_toArray, List.getElem?_append_left hi]⟩
/-- what a call handed over, read as a standing slice -/
theorem new_fact {ok' : Nat → Prop} {w w' : World} {ob : Option Nat} {xs sp : List Value} {T : TypeId} (h : St ok' w [⟨ob, xs ++ sp, T⟩] [] w') (hok : ∀ b, w.heap.size ≤ b → ok b) : Below w.heap.size w w' ∧ ∀ x ∈ [Fact.sl (ob.map fun b => ⟨b, 0, none⟩) xs], x.holds ok w' := by
  refine ⟨h.below, fun x hx => ?_⟩
  rw [List.mem_singleton] at hx
  subst hx
  have := h.own_ _ (List.mem_singleton.2 rfl)
  cases ob with
  | none => exact .inl (by have h1 : xs ++ sp = [] := this; simp at h1; exact h1.1)
  | some b => exact .inr ⟨b, 0, (xs ++ sp).toArray, T, (0, 0), rfl, hok b this.1, this.2, fun i hi => by rw [Nat.zero_add, List.getElem?_toArray, List.getElem?_append_left hi]⟩

/-- a call that hands over a block of its own -/
theorem keep_own {γ : Type} {f : FuncId} {args : Array Value} {val : γ → Value} {p : γ → Prop} {x : γ → Ent} {ok' : Nat → Prop} (h : ∀ w, St ok w0 own fs w → Calls P f args w (fun e w' => ∃ g, e = .returned (val g) ∧ p g ∧ St ok' w [x g] [] w')) :
    ∀ w, St ok w0 own fs w → Calls P f args w (fun e w' => ∃ g, e = .returned (val g) ∧ p g ∧ St ok w0 (x g :: own) fs w') :=
  fun w hS => (h w hS).mono fun _ _ ⟨g, he, hp, hb⟩ => ⟨g, he, hp, hS.adopt hb⟩
theorem St.addF {w : World} {f : Fact} (h : St ok w0 own fs w) (hf : f.holds (fun b => ok b ∧ b ∉ ids own) w) : St ok w0 own (f :: fs) w :=
  ⟨h.okn, h.below, h.own_, h.nd, fun x hx => (List.mem_cons.1 hx).elim (fun e => e ▸ hf) (h.fact x)⟩
theorem St.dropF {w : World} {f : Fact} (h : St ok w0 own (f :: fs) w) : St ok w0 own fs w := ⟨h.okn, h.below, h.own_, h.nd, fun x hx => h.fact x (by simp [hx])⟩
theorem St.perm {w : World} {own' : List Ent} (h : St ok w0 own fs w) (hp : own'.Perm own) : St ok w0 own' fs w := by
  have hi : (ids own').Perm (ids own) := List.Perm.filterMap _ hp
  exact ⟨h.okn, h.below, fun x hx => h.own_ x (hp.mem_iff.1 hx), hi.nodup_iff.2 h.nd, fun f hf => f.mono (fun b hb => ⟨hb.1, fun hm => hb.2 (hi.mem_iff.1 hm)⟩) (h.fact f hf)⟩
theorem st_rot {w : World} {p q s : Ent} {r : List Ent} (h : St ok w0 (p :: q :: s :: r) fs w) : St ok w0 (s :: p :: q :: r) fs w :=
  h.perm ((List.Perm.swap p s (q :: r)).trans ((List.Perm.swap q s r).cons p))
end
/-! append of anything, also of nothing -/
/-- what an append leaves: its block (none: nil), its capacity, what lies behind its elements -/
structure Gr where
  ob : Option Nat
  cap : Nat
  sp : List Value
section
variable {ds : List Deferred} {ρ : Option Nat} {P : Program} {o : Oper} {n : Nat} {L : Slots} {ok : Nat → Prop} {w0 : World} {own : List Ent} {C : Ent → List Ent} {fs : List Fact} {x y : Operand} {t e : TypeId} {sz : Nat} {xs : List Value}
theorem run_app0 {w : World} {ob : Option Nat} {len cap c : Nat} {ad : Option Addr} {ty : TypeId} (hu : P.underlying t = some (.slice e)) (hs : (P.info? e).map (·.size) = some sz) (hlc : len ≤ cap) :
    (Builtin.append_ #[t, t] ty #[.slice (ob.map fun b => ⟨b, 0, none⟩) len cap, .slice ad 0 c]).run P w = .ok (.slice (ob.map fun b => ⟨b, 0, none⟩) len cap) w := by
  cases ob <;> cases ad <;> simp [Builtin.append_, run_underlying hu, size_run hs, Builtin.lenOf, hlc, Builtin.firstCells, loadCells, loadCellsFrom, storeCells]
theorem appg {len cap : Nat} {ob : Option Nat} {news sp : List Value} {zv : Value} {m c : Nat} {ad : Option Addr} (hop : o.op = .call { callee := .builtin .append, args := #[x, y], argTypes := #[t, t] }) (hu : P.underlying t = some (.slice e)) (hi : (P.info? e).map (fun i => (i.zero, i.size, i.bytes)) = some (some zv, 1, sz)) (h1 : zv.cells = #[zv])
    (hk : Ctx own ⟨ob, xs ++ sp, e⟩ C) (hx : oper L x = some (.slice (ob.map fun b => ⟨b, 0, none⟩) len cap)) (hy : oper L y = some (.slice ad m c)) (hsrc : ∀ w, St ok w0 own fs w → (Fact.sl ad news).holds (fun _ => True) w) (hm : news.length = m)
    (hb : xs.length = len ∧ cap = len + sp.length ∧ len + m ≤ 9223372036854775807 ∧ (len + m) * sz ≤ 140737488355328) (h1c : ∀ u ∈ news, u.oneCell' = true) :
    Og ds P o n L (St ok w0 own fs) (fun g : Gr => .slice (g.ob.map fun b => ⟨b, 0, none⟩) (len + m) g.cap) (fun g w => (g.cap = len + m + g.sp.length) ∧ St ok w0 (C ⟨g.ob, (xs ++ news) ++ g.sp, e⟩) fs w) :=
  og_run fun a hF w hS => by
    obtain ⟨kk, hkk, hC⟩ := hk.get
    obtain ⟨hxl, hcap, h63, hbb⟩ := hb
    by_cases hpos : 0 < m
    · have htake : (xs ++ sp).take len = xs := by rw [← hxl]; simp
      have hs : Src w (.slice ad m c) m news := by
        rcases hsrc w hS with h0 | ⟨b', off', cells, T', fz, e1, _, e3, e4⟩
        · subst h0; simp at hm; omega
        · subst e1
          refine ⟨_, _, rfl, (fun h => by cases h), fun a ha q u hq => ?_⟩
          obtain rfl := Option.some.inj ha
          have hlt : q < news.length := (List.getElem?_eq_some_iff.1 hq).1
          rw [Addr.add_lit]; simp [World.cell?, e3, e4 q hlt, hq]
      obtain ⟨g, w', hrun, hp, hS'⟩ := run_app (P := P) (ty := o.type) hS hkk hu hi h1 (by omega : len ≤ cap) (by simp; omega) hs hm h1c hpos h63 hbb
      rw [htake] at hp hS'
      refine ⟨⟨some g.b, g.cap, g.spare⟩, w', .inl ?_, ?_, ?_⟩
      · simp [execOp, hop, resolve, invoke, builtin, hF.eval hx, hF.eval hy, hrun]
      · rw [hp.2]; simp [hxl, hm]; omega
      · rw [hC]; exact hS'
    · have hm0 : m = 0 := by omega
      subst hm0
      have hn0 : news = [] := List.eq_nil_of_length_eq_zero hm
      subst hn0
      obtain ⟨i', hi', hz, hs, hbb'⟩ := info_parts hi
      have hrun := run_app0 (P := P) (w := w) (ob := ob) (len := len) (cap := cap) (c := c) (ad := ad) (ty := o.type) (sz := 1) hu (by rw [hi']; simp [hs]) (by omega)
      refine ⟨⟨ob, cap, sp⟩, w, .inl ?_, ?_, ?_⟩
      · simp [execOp, hop, resolve, invoke, builtin, hF.eval hx, hF.eval hy, hrun]
      · show cap = _; omega
      · rw [List.append_nil]
        rw [hC]
        have : own.set kk ⟨ob, xs ++ sp, e⟩ = own := by
          apply List.ext_getElem?; intro q
          by_cases hq : kk = q
          · subst hq; rw [List.getElem?_set_self (List.getElem?_eq_some_iff.1 hkk).1, hkk]
          · rw [List.getElem?_set_ne hq]
        rw [this]; exact hS
end
section
variable {ds : List Deferred} {ρ : Option Nat} {P : Program} {Q : Exit → Act → World → Prop} {n : Nat} {L : Slots} {Z : World → Prop}
/-- a drawn region, with a class of worlds that says less than the state at its start -/
theorem WC.mixC {id : Nat} {l : List Oper} {C : World → Prop} (marks : List Nat) (hm : P.follows .mixedOrders = true) (hB : mixOk l marks = true) (hS : ∀ w, Z w → Z { w with drawn := w.drawn + 1 }) (hC : ∀ w, Z w → C w) (k : WM ds P l C Q n marks l L Z) :
    WC ds none P (.region id l.toArray true) Q n L Z := fun a w hF h => wp_region_mix marks (.inl rfl) hm hB (hC _ (hS w h)) (k a _ hF (hS w h))
theorem Rd.ex {o : Oper} {v : Value} {α : Type} {C : α → World → Prop} (h : ∀ x, Rd ds P o n L (C x) v) : Rd ds P o n L (fun w => ∃ x, C x w) v := fun a hF w ⟨x, hx⟩ => h x a hF w hx
end
end Go.Proofs.YtbcnnkcddilfjaaGreat
