/-
  Parts of the walk: Lsm Pwl Laid LaiE.
-/
import Derived.Test.YtddoigmffkmpcaaGreatDoorJ16
import Derived.Lib.LaidTab
namespace Go.Proofs.YtddoigmffkmpcaaGreatDoor
open Go.RowKit
set_option linter.unusedSimpArgs false
set_option linter.unusedVariables false
set_option maxHeartbeats 600000
set_option maxRecDepth 20000
instance : DecidableEq Tm := inferInstanceAs (DecidableEq (Bs × Int × Bool × Bs))
instance : DecidableEq Qn := inferInstanceAs (DecidableEq (Int × Bs × List Tm))
instance : DecidableEq Sm := inferInstanceAs (DecidableEq (List (Bs × Bs) × List Bs × List Qn))
theorem saL_ps {s : SA} {k : PK} {sc n b : Bs} (hm8 : k.1.1.length ≤ 8) (h : s.core = (psS k sc n b).1) : saL s := by
 have hc : s.gs.length ≤ 100000 ∧ s.vs.length ≤ 100000 ∧ s.core.2.2.length ≤ 100000 ∧ (∀ q ∈ s.core.2.2, q.2.2.length ≤ 100000) ∧ ∀ g ∈ s.gs, g.1.length ≤ 8 := by
  have e1 : s.gs = (psS k sc n b).1.1 := congrArg (·.1) h
  have e2 : s.vs = (psS k sc n b).1.2.1 := congrArg (·.2.1) h
  rw [e1, e2, h, psS]; split
  ·exact ⟨Nat.zero_le _, Nat.zero_le _, Nat.zero_le _, by simp, by simp⟩
  ·exact ⟨by simp [psQ], by simp [psQ], by simp [psQ], by simp [psQ], by simpa [psQ] using hm8⟩
 exact ⟨hc.1, hc.2.1, by have := hc.2.2.1; simpa using this, forall_qa.1 hc.2.2.2.1, hc.2.2.2.2⟩
theorem infRp : ∀ {a b : List Fact} {x : Fact}, InF b x → InF (a ++ b) x
 | [], _, _, h => h
 | _ :: a, _, _, h => .there (infRp h)
instance (priority := low) SubL.appp {α : Type} (x y z : List α) [h : SubL x z] : SubL x (y ++ z) := ⟨h.h.trans (List.sublist_append_right _ _)⟩
instance (priority := low) hasF_appp {a b : List Fact} {x : Option Addr} {xs : List Value} [h : HasF b x xs] : HasF (a ++ b) x xs := ⟨infRp h.h⟩
theorem laidVars_tail {P : Program} {w : World} {x : String × DataW Unit} {r : List (String × DataW Unit)} {ps : List MemPlace} (h : DataW.LaidVars P w (x :: r) ps) : ∃ q, DataW.LaidVars P w r q := by
 obtain ⟨n, d⟩ := x
 obtain ⟨g, t, cs, fuel, p, q, _, _, _, _, h, _⟩ := h
 exact ⟨q, h⟩
theorem tab_of_vars {P : Program} {W : World} {name : String} {k : IntKind} {zs : List Int} {rest : List (String × DataW Unit)} {ps : List MemPlace} {t e : TypeId} {n : Nat}
  (hty : ((P.globalNamed name).bind fun g => (P.globals[g]?).map (·.type)) = some t) (ht : P.underlying t = some (.array n e)) (he : P.underlying e = some (.int k)) (hce : P.cellsOf e = 1) (hct : P.cellsOf t = n)
  (h : DataW.LaidVars P W ((name, Lib.tabData k zs) :: rest) ps) : Lib.TabIs P W name k zs := by
 obtain ⟨g', t', cs, fuel, p, q, hg', ht', hvar, hd, _, _⟩ := h
 rw [hg', Option.bind_some] at hty
 obtain rfl := Option.some.inj (hty.symm.trans ht')
 unfold Lib.TabIs
 rw [hvar, ← Lib.cells_of_tab ht he hce hct hd]
theorem wf_u8 {n : Int} (h : (Lit.int .u8 n).wf = true) : 0 ≤ n ∧ n ≤ 255 := by
 have e1 : IntKind.u8.min = 0 := by decide
 have e2 : IntKind.u8.max = 255 := by decide
 simp [Lit.wf, e1, e2] at h; omega
theorem wf_i64 {n : Int} (h : (Lit.int .i64 n).wf = true) : -9223372036854775808 ≤ n ∧ n ≤ 9223372036854775807 := by
 have e1 : IntKind.i64.min = -9223372036854775808 := by decide
 have e2 : IntKind.i64.max = 9223372036854775807 := by decide
 simp [Lit.wf, e1, e2] at h; omega
theorem tabd_of_is {W : World} (h : Lib.TabIs Tryz.prog W "math/bits.deBruijn64tab" .u8 (Lib.deBruijn64tab.map fun n : Nat => (n : Int))) : TabD W := by
 intro j hj
 have h1 : W.var? Tryz.prog "math/bits.deBruijn64tab" = some ((Lib.deBruijn64tab.map fun n : Nat => (n : Int)).map fun z => Value.int .u8 z).toArray := h
 have hg : Tryz.prog.globalNamed "math/bits.deBruijn64tab" = some (renTz.g 1) := by kernel_rfl
 unfold World.var? at h1
 rw [hg, Option.bind_some] at h1
 unfold World.cell?
 show (match W.heap[renTz.g 1]? with | some (.cells c _ _) => if (none : Option _).isSome = true then none else c[j]? | _ => none) = _
 cases hh : W.heap[renTz.g 1]? with
 | none => rw [hh] at h1; cases h1
 | some o =>
  rw [hh] at h1
  cases o with
  | cells c t k =>
   simp only [Option.some.injEq] at h1
   subst h1
   rw [List.map_map]
   simp only [Option.isSome_none, Bool.false_eq_true, if_false, List.getElem?_toArray, List.getElem?_map]
   rw [List.getD_eq_getElem?_getD, List.getElem?_eq_getElem hj]; rfl
  | _ => cases h1
end Go.Proofs.YtddoigmffkmpcaaGreatDoor
