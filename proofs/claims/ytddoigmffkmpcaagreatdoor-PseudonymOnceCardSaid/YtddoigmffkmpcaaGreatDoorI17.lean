/-
  Parts of the walk: Lsm Pwl Map Laid LaiE.
-/
import Derived.Test.YtddoigmffkmpcaaGreatDoorI16
import Derived.MapKept
import Derived.Lib.LaidTab
namespace Go.Proofs.YtddoigmffkmpcaaGreatDoor
open Go.RowKit
set_option linter.unusedSimpArgs false
set_option linter.unusedVariables false
set_option maxHeartbeats 600000
set_option maxRecDepth 20000
instance : DecidableEq Tm := inferInstanceAs (DecidableEq (Bs × Int × Bool × Bs))
instance : DecidableEq Qn := inferInstanceAs (DecidableEq (Int × Bs × List Tm))
instance : DecidableEq Sm := inferInstanceAs (DecidableEq (List (Bs × Bs) × List Bs × List Qn))
theorem infRp : ∀ {a b : List Fact} {x : Fact}, InF b x → InF (a ++ b) x
 | [], _, _, h => h
 | _ :: a, _, _, h => .there (infRp h)
instance (priority := low) SubL.appp {α : Type} (x y z : List α) [h : SubL x z] : SubL x (y ++ z) := ⟨h.h.trans (List.sublist_append_right _ _)⟩
instance (priority := low) hasF_appp {a b : List Fact} {x : Option Addr} {xs : List Value} [h : HasF b x xs] : HasF (a ++ b) x xs := ⟨infRp h.h⟩
abbrev mpE (l : List (Bs × Value)) : List (Value × Value) := l.map fun p => (Value.string (S p.1), p.2)
def Fact.mp (b : Nat) (l : List (Bs × Value)) : Fact where
 holds ok w := ok b ∧ ∃ es c, w.heap[b]? = some (.map es c) ∧ es.toList.map (fun e => (e.key, e.val)) = mpE l
 mono h := fun hh => ⟨h _ hh.1, hh.2⟩
 stable := fun hh _ hk => by
  obtain ⟨h0, es, c, h1, h2⟩ := hh
  exact ⟨h0, es, c, by rw [hk b (Array.getElem?_eq_some_iff.1 h1).1 h0]; exact h1, h2⟩
 here := fun hh => by
  obtain ⟨h0, es, c, h1, h2⟩ := hh
  exact ⟨⟨h0, (Array.getElem?_eq_some_iff.1 h1).1⟩, es, c, h1, h2⟩
class FM (f : Fact) : Prop where
 h : ∀ {ok : Nat → Prop} {w : World} {b : Nat} {es es' : Array MapEntry} {c c' : Nat}, f.holds ok w → w.heap[b]? = some (.map es c) → f.holds ok (w.putObj b (.map es' c'))
instance (a : Option Addr) (xs : List Value) : FM (Fact.sl a xs) := ⟨fun h hl => sl_other _ h hl (fun _ _ _ e => by cases e)⟩
class FMs (fs : List Fact) : Prop where
 h : ∀ f ∈ fs, FM f
instance : FMs [] := ⟨fun _ h => by cases h⟩
instance (f : Fact) (fs : List Fact) [h1 : FM f] [h2 : FMs fs] : FMs (f :: fs) := ⟨fun g hg => (List.mem_cons.1 hg).elim (fun e => e ▸ h1) (h2.h g)⟩
section
variable {ok : Nat → Prop} {w0 w : World} {own : List Ent} {fs : List Fact}
theorem St.setMap {b : Nat} {l l' : List (Bs × Value)} {es' : Array MapEntry} {c' : Nat} [hf : FMs fs] (hb : w0.heap.size ≤ b) (h : St ok w0 own (Fact.mp b l :: fs) w) (he : es'.toList.map (fun e => (e.key, e.val)) = mpE l') :
  St ok w0 own (Fact.mp b l' :: fs) (w.putObj b (.map es' c')) := by
 obtain ⟨h0, es, c, h1, h2⟩ := h.fact_head
 refine ⟨h.okn, below_put h.below hb, own_put h h1 (fun _ _ _ e => by cases e), h.nd, fun f hfm => ?_⟩
 rcases List.mem_cons.1 hfm with rfl | hfm
 ·exact ⟨h0, es', c', World.putObj_heap_same (Array.getElem?_eq_some_iff.1 h1).1, he⟩
 ·exact (hf.h f hfm).h (h.fact f (by simp [hfm])) h1
theorem St.newMap (h : St ok w0 own fs w) : St ok w0 own (Fact.mp w.heap.size [] :: fs) (w.alloc (.map #[] 0)) := by
 refine (h.allocObj (.map #[] 0)).addF (f := Fact.mp w.heap.size []) ⟨h.fresh _ (Nat.le_refl _), #[], 0, World.alloc_heap_new w _, rfl⟩
end
theorem find_no {k : Bs} {l : List (Bs × Value)} (hk : ∀ p ∈ l, p.1 ≠ k) {es : List MapEntry} (he : es.map (fun e => (e.key, e.val)) = mpE l) (i : Nat) : Instr.findNow .string (.string (S k)) es i = some none := by
 induction es generalizing l i with
 | nil => rfl
 | cons e es ih =>
  cases l with
  | nil => simp at he
  | cons p l =>
   simp only [List.map_cons, List.cons.injEq, Prod.mk.injEq] at he
   obtain ⟨⟨e1, e2⟩, e3⟩ := he
   have hn : (S k == S p.1) = false := by
    have h1 : p.1 ≠ k := hk p (by simp)
    have h2 : S k ≠ S p.1 := fun h => h1 (by have := congrArg (fun x : ByteArray => x.data.toList) h; simpa [S] using this.symm)
    cases hb : (S k == S p.1)
    ·rfl
    ·exact absurd ((MapKept.bytes_beq _ _).1 hb) h2
   rw [Instr.findNow, e1]
   simp only [Instr.sameNow, hn]
   exact ih (fun q hq => hk q (by simp [hq])) e3 (i + 1)
section
variable {ds : List Deferred} {P : Program} {o : Oper} {n : Nat} {L : Slots} {ok : Nat → Prop} {w0 : World} {own : List Ent} {fs : List Fact} {t t1 t2 kt et : TypeId} {x y z : Operand} {b : Nat} {l : List (Bs × Value)} {k : Bs} {v zv : Value}
theorem og_mkmap (hop : o.op = .makeMap t none) : Og ds P o n L (St ok w0 own fs) (fun b : Nat => .map (some b)) (fun b w => w0.heap.size ≤ b ∧ St ok w0 own (Fact.mp b [] :: fs) w) :=
 og_run fun a hF w hS => ⟨w.heap.size, w.alloc (.map #[] 0), .inl (by simp [execOp, hop, Instr.makeMap]), hS.below.size, hS.newMap⟩
theorem rd_lookN (hop : o.op = .lookup t x y false) (hx : oper L x = some (.map (some b))) (hy : oper L y = some (.string (S k))) (hu : P.underlying t = some (.map kt et)) (hk : P.underlying kt = some .string) (hz : (P.info? et).bind (·.zero) = some zv) (hn : ∀ p ∈ l, p.1 ≠ k) :
  Rd ds P o n L (St ok w0 own (Fact.mp b l :: fs)) zv :=
 rd_run fun a hF w hS => by
  obtain ⟨h0, es, c, h1, h2⟩ := hS.fact_head
  have hc : (Instr.checkKey es.isEmpty 10000 kt (.string (S k))).run P w = .ok () w := MapKept.run_checkKey (k := .string (S k)) hk (by simp [MapKept.IsKey]) _ 9999
  simp [execOp, hop, hF.eval hx, hF.eval hy, Instr.lookup, run_underlying hu, MapKept.run_getObj_map h1, hc, MapKept.run_findKey hk (find_no hn h2 0), run_zero hz, Result.andThen]
theorem og_mapN [FMs fs] (hop : o.op = .mapUpdate t x y z) (hb : w0.heap.size ≤ b) (hx : oper L x = some (.map (some b))) (hy : oper L y = some (.string (S k))) (hz : oper L z = some v) (hu : P.underlying t = some (.map kt et)) (hk : P.underlying kt = some .string) (hn : ∀ p ∈ l, p.1 ≠ k) :
  Og ds P o n L (St ok w0 own (Fact.mp b l :: fs)) (fun _ : Unit => undef) (fun _ => St ok w0 own (Fact.mp b (l ++ [(k, v)]) :: fs)) :=
 og_run fun a hF w hS => by
  obtain ⟨h0, es, c, h1, h2⟩ := hS.fact_head
  have hc : (Instr.checkKey false 10000 kt (.string (S k))).run P w = .ok () w := MapKept.run_checkKey (k := .string (S k)) hk (by simp [MapKept.IsKey]) _ 9999
  refine ⟨(), w.putObj b (.map (es.push { key := .string (S k), val := v, born := c }) (c + 1)), .inr ⟨?_, rfl⟩, hS.setMap hb (by simp [h2])⟩
  simp [execOp, hop, hF.eval hx, hF.eval hy, hF.eval hz, Instr.mapUpdate, run_underlying hu, MapKept.run_getObj_map h1, hc, MapKept.run_findKey hk (find_no hn h2 0), MapKept.run_setObj_map _ h1, Result.andThen, World.putObj]
theorem rd_lenm (hop : o.op = .call { callee := .builtin .len, args := #[x], argTypes := #[t] }) (hx : oper L x = some (.map (some b))) (hu : P.underlying t = some (.map kt et)) : Rd ds P o n L (St ok w0 own (Fact.mp b l :: fs)) (.int .i64 (l.length : Int)) :=
 rd_run fun a hF w hS => by
  obtain ⟨h0, es, c, h1, h2⟩ := hS.fact_head
  have hl : es.size = l.length := by have := congrArg List.length h2; simpa using this
  have hlen : (Builtin.len_ #[t] o.type #[.map (some b)]).run P w = .ok (.int .i64 (l.length : Int)) w := by simp [Builtin.len_, run_underlying hu, MapKept.run_getObj_map h1, goInt, hl, Result.andThen]
  simp [execOp, hop, resolve, invoke, builtin, hF.eval hx, hlen]
end
theorem laidVars_tail {P : Program} {w : World} {x : String × DataW Unit} {r : List (String × DataW Unit)} {ps : List MemPlace} (h : DataW.LaidVars P w (x :: r) ps) : ∃ q, DataW.LaidVars P w r q := by
 obtain ⟨n, d⟩ := x
 obtain ⟨g, t, cs, fuel, p, q, _, _, _, _, h, _⟩ := h
 exact ⟨q, h⟩
theorem tab_of_vars {P : Program} {W : World} {name : String} {k : IntKind} {zs : List Int} {rest : List (String × DataW Unit)} {ps : List MemPlace} {t e : TypeId} {n : Nat}
  (hty : ((P.globalNamed name).bind fun g => (P.globals[g]?).map (·.type)) = some t) (ht : P.underlying t = some (.array n e)) (he : P.underlying e = some (.int k)) (hce : P.cellsOf e = 1) (hct : P.cellsOf t = n)
  (h : DataW.LaidVars P W ((name, Lib.tabData k zs) :: rest) ps) : Lib.TabIs P W name k zs := by
 obtain ⟨g', t', cs, fuel, p, q, hg', ht', hvar, hd, _, _⟩ := h
 rw [hg', Option.bind_some] at hty
 obtain rfl := Option.some.inj (hty.symm.trans ht')
 unfold Lib.TabIs
 rw [hvar, ← Lib.cells_of_tab ht he hce hct hd]
theorem tabd_of_is {W : World} (h : Lib.TabIs Tryz.prog W "math/bits.deBruijn64tab" .u8 (Lib.deBruijn64tab.map fun n : Nat => (n : Int))) : TabD W := by
 intro j hj
 have h1 : W.var? Tryz.prog "math/bits.deBruijn64tab" = some ((Lib.deBruijn64tab.map fun n : Nat => (n : Int)).map fun z => Value.int .u8 z).toArray := h
 have hg : Tryz.prog.globalNamed "math/bits.deBruijn64tab" = some (renTz.g 1) := by kernel_rfl
 unfold World.var? at h1
 rw [hg, Option.bind_some] at h1
 unfold World.cell?
 show (match W.heap[renTz.g 1]? with | some (.cells c _ _) => if (none : Option _).isSome = true then none else c[j]? | _ => none) = _
 cases hh : W.heap[renTz.g 1]? with
 | none => rw [hh] at h1; cases h1
 | some o =>
  rw [hh] at h1
  cases o with
  | cells c t k =>
   simp only [Option.some.injEq] at h1
   subst h1
   rw [List.map_map]
   simp only [Option.isSome_none, Bool.false_eq_true, if_false, List.getElem?_toArray, List.getElem?_map]
   rw [List.getD_eq_getElem?_getD, List.getElem?_eq_getElem hj]; rfl
  | _ => cases h1
end Go.Proofs.YtddoigmffkmpcaaGreatDoor
