/-
  Parts of the walk: Nlw Pwe Acm Laid LaiE.
-/
import Derived.Test.YthkmpjobfdeoaaaGreatDoorH21
import Derived.Lib.LaidTab
namespace Go.Proofs.YthkmpjobfdeoaaaGreatDoor
open Go.RowKit
set_option linter.unusedSimpArgs false
set_option linter.unusedVariables false
set_option maxHeartbeats 600000
set_option maxRecDepth 20000
structure NC where
 p : PR
 k : IK
 acc : Bs
 w : Bs
 u : Bs
 r : Bs
abbrev ncV (q : NC) (rv : Value) : Value := .agg #[.string (S q.p.ch), .string (S q.p.sl), .string (S q.p.mn.1.1), .string (S q.p.mn.1.2), .string (S q.p.mn.2.1), .string (S q.p.mn.2.2), .string (S q.p.wh.1.1), .string (S q.p.wh.1.2), .string (S q.p.wh.2.1), .string (S q.p.wh.2.2), .string (S q.p.sec), .string (S q.p.attr), .string (S q.p.han), .string (S q.p.lo), .string (S q.p.sz), .string (S q.p.bl), .string (S q.p.msk), .string (S q.k.name), .string (S q.k.g.1), .string (S q.k.g.2), .string (S q.k.z), .string (S q.k.s), rv, .string (S q.k.u), .string (S q.k.h), .string (S q.acc), .string (S q.w), .string (S q.u), .string (S q.r)]
def fewN (q : NC) : Prop := fewR q.p ∧ fewK q.k ∧ (q.acc.length : Int) ≤ 9 ∧ (q.w.length : Int) ≤ 9 ∧ (q.u.length : Int) ≤ 16 ∧ (q.r.length : Int) ≤ 16
instance (q : NC) : Decidable (fewN q) := inferInstanceAs (Decidable (_ ∧ _))
theorem fewN_b {q : NC} (h : fewN q) : q.p.mn.1.1.length ≤ 8 ∧ q.k.g.1.length ≤ 8 ∧ q.k.r.length ≤ 100000 ∧ q.k.name.length ≤ 140737488351232 := by
 have h1 := h.1.1 q.p.mn (by simp) q.p.mn.1.1 (by simp [pk4])
 have h2 := h.2.1.1 q.k.g.1 (by simp)
 have h3 := h.2.1.2.2.1
 have h4 := h.2.1.2.2.2.2
 omega
theorem infR2 : ∀ {a b : List Fact} {x : Fact}, InF b x → InF (a ++ b) x
 | [], _, _, h => h
 | _ :: a, _, _, h => .there (infR2 h)
instance (priority := low) SubL.app2 {α : Type} (x y z : List α) [h : SubL x z] : SubL x (y ++ z) := ⟨h.h.trans (List.sublist_append_right _ _)⟩
instance (priority := low) hasF_app2 {a b : List Fact} {x : Option Addr} {xs : List Value} [h : HasF b x xs] : HasF (a ++ b) x xs := ⟨infR2 h.h⟩
theorem few38_c {q : NC} {a : Option Addr} {c : Nat} {w : World} {ok : Nat → Prop} (hF1 : (Fact.sl a (strs q.k.r)).holds ok w) (hl : q.k.r.length ≤ 140737488351232) :
  Cw 9 #[ncV q (.slice a q.k.r.length c)] w (.bool (decide (fewN q))) := by
 refine En [Fact.sl a (strs q.k.r)] [(0, ncV q (.slice a q.k.r.length c))] Tryz.func9 rfl Tryz.ntmps9 rfl (Ac rfl (An _)) (Fc (fact_any hF1) Fn) ?_
 refine Cs ?_
 refine Kh rfl (Oy rfl rfl) ?_
 intro b1
 refine Ka rfl (Nt (Cs (Kq rfl (Fa (q := 0) rfl rfl u35 rfl rfl) ?_)))
 refine Kq rfl (ldp rfl rfl .tc u30 rfl (by kernel_rfl : _ = some 17) (by rfl) (by rfl)) ?_
 refine Ku rfl (Oc rfl rfl (Kv fun w hS => fewpar_c (p := q.p))) ?_
 refine Km rfl ?_
 refine Nb 6 rfl (fun hg6 => ?_) (fun hg6 => ?_)
 ·(try simp only [sB] at hg6)
  refine Kq rfl (Fa (q := 17) rfl rfl u35 rfl rfl) ?_
  refine Kq rfl (ldp rfl rfl .tc u33 rfl (by kernel_rfl : _ = some 8) (by rfl) (by rfl)) ?_
  refine Ku rfl (Oc rfl rfl (Kv fun w hS => fewkey_c (k := q.k) (by (exact hS.sl)) (by assumption))) ?_
  refine Kq rfl (Rp rfl rfl rfl) (Km rfl ?_)
  refine Nb 11 rfl (fun hg11 => ?_) (fun hg11 => ?_)
  ·(try simp only [sB] at hg11)
   refine Kq rfl (Fa (q := 25) rfl rfl u35 rfl rfl) (Kq rfl (Ld rfl rfl .tc u22) ?_)
   refine Kq rfl (rd_slen rfl rfl u22) (Kq rfl (rd_leq rfl rfl rfl) (Kq rfl (Rp rfl rfl rfl) (Km rfl ?_)))
   refine Nb 17 rfl (fun hg17 => ?_) (fun hg17 => ?_)
   ·(try simp only [sB] at hg17)
    refine Kq rfl (Fa (q := 26) rfl rfl u35 rfl rfl) (Kq rfl (Ld rfl rfl .tc u22) ?_)
    refine Kq rfl (rd_slen rfl rfl u22) (Kq rfl (rd_leq rfl rfl rfl) (Kq rfl (Rp rfl rfl rfl) (Km rfl ?_)))
    refine Nb 23 rfl (fun hg23 => ?_) (fun hg23 => ?_)
    ·(try simp only [sB] at hg23)
     refine Kq rfl (Fa (q := 27) rfl rfl u35 rfl rfl) (Kq rfl (Ld rfl rfl .tc u22) ?_)
     refine Kq rfl (rd_slen rfl rfl u22) (Kq rfl (rd_leq rfl rfl rfl) (Kq rfl (Rp rfl rfl rfl) (Km rfl ?_)))
     refine Nb 29 rfl (fun hg29 => ?_) (fun hg29 => ?_)
     ·(try simp only [sB] at hg29)
      refine Kq rfl (Fa (q := 28) rfl rfl u35 rfl rfl) (Kq rfl (Ld rfl rfl .tc u22) ?_)
      refine Kq rfl (rd_slen rfl rfl u22) (Kq rfl (rd_leq rfl rfl rfl) (Kq rfl (Rp rfl rfl rfl) (Ka rfl (Nt (Ce ?_)))))
      exact R1 rfl rfl (by (simp [*, tup, fewN]; done))
     ·(try simp only [sB] at hg29)
      refine Kt rfl (Kt rfl (Kt rfl (Kt rfl (Kq rfl (Rq rfl rfl rfl) (Ka rfl (Nt (Ce ?_)))))))
      exact R1 rfl rfl (by (simp [*, tup, fewN]; intros; omega))
    ·(try simp only [sB] at hg23)
     refine Kt rfl (Kt rfl (Kt rfl (Kt rfl (Kq rfl (Rq rfl rfl rfl) (Km rfl (Kt rfl (Kt rfl (Kt rfl (Kt rfl (Kq rfl (Rq rfl rfl rfl) (Ka rfl (Nt (Ce ?_)))))))))))))
     exact R1 rfl rfl (by (simp [*, tup, fewN]; intros; omega))
   ·(try simp only [sB] at hg17)
    refine Kt rfl (Kt rfl (Kt rfl (Kt rfl (Kq rfl (Rq rfl rfl rfl) (Km rfl (Kt rfl (Kt rfl (Kt rfl (Kt rfl (Kq rfl (Rq rfl rfl rfl) (Km rfl (Kt rfl (Kt rfl (Kt rfl (Kt rfl (Kq rfl (Rq rfl rfl rfl) (Ka rfl (Nt (Ce ?_)))))))))))))))))))
    exact R1 rfl rfl (by (simp [*, tup, fewN]; intros; omega))
  ·(try simp only [sB] at hg11)
   refine Kt rfl (Kt rfl (Kt rfl (Kt rfl (Kq rfl (Rq rfl rfl rfl) (Km rfl (Kt rfl (Kt rfl (Kt rfl (Kt rfl (Kq rfl (Rq rfl rfl rfl) (Km rfl (Kt rfl (Kt rfl (Kt rfl (Kt rfl (Kq rfl (Rq rfl rfl rfl) (Km rfl (Kt rfl (Kt rfl (Kt rfl (Kt rfl (Kq rfl (Rq rfl rfl rfl) (Ka rfl (Nt (Ce ?_)))))))))))))))))))))))))
   exact R1 rfl rfl (by (simp [*, tup, fewN]; done))
 ·(try simp only [sB] at hg6)
  refine Kt rfl (Kt rfl (Kt rfl (Kq rfl (Rq rfl rfl rfl) (Km rfl (Kt rfl (Kt rfl (Kt rfl (Kt rfl (Kq rfl (Rq rfl rfl rfl) (Km rfl (Kt rfl (Kt rfl (Kt rfl (Kt rfl (Kq rfl (Rq rfl rfl rfl) (Km rfl (Kt rfl (Kt rfl (Kt rfl (Kt rfl (Kq rfl (Rq rfl rfl rfl) (Km rfl (Kt rfl (Kt rfl (Kt rfl (Kt rfl (Kq rfl (Rq rfl rfl rfl) (Ka rfl (Nt (Ce ?_))))))))))))))))))))))))))))))
  exact R1 rfl rfl (by (simp [*, tup, fewN]; done))
theorem pexp_c {g : Gp} {x : Bs} {z : Zs} {w : World} (hm8 : g.1.length ≤ 8) :
  Cw 28 #[gV g, .string (S x), zV z] w (NE (prodS g [x] [z])) := by
 refine En [] [(0, gV g), (1, .string (S x)), (2, zV z)] Tryz.func28 rfl Tryz.ntmps28 rfl (Ac rfl (Ac rfl (Ac rfl (An _)))) Fn ?_
 refine Cs ?_
 refine Kh rfl (Oy rfl rfl) ?_
 intro b3
 refine Kh rfl (Oy rfl rfl) ?_
 intro b5
 refine Ka rfl (Ka rfl (Nt (Cs ?_)))
 refine Kq rfl (lda rfl rfl .tc u26 rfl ?_) ?_
 ·kernel_rfl
 refine Km rfl ?_
 refine Kh rfl (og_bs1 rfl rfl u31 (by kernel_rfl : _ = some (some (.string (S [])), 1, 16)) rfl (by simp only [List.map]; rfl) rfl rfl ?_ (by decide)) ?_
 ·simp [Value.cells]
 intro b10
 refine Kq rfl (lda rfl rfl .tc u50 rfl ?_) ?_
 ·kernel_rfl
 refine Kh rfl (og_bsN rfl rfl u54 (by kernel_rfl : _ = some (some (.agg #[.bool false, .string (S [])]), 2, 24)) (by kernel_rfl) (by decide) rfl rfl (by (simp [Value.cells]; done)) (by (exact cells_one _)) (by decide)) ?_
 intro b12
 refine Ku rfl (Oc rfl rfl (Kv fun w hS => pproduct_c (g := g) (l := [x]) (es := [z]) (by (exact hS.os)) (by (exact hS.os)) (by (simp <;> omega)) (by (simp <;> omega)) (by assumption))) ?_
 refine Kq rfl (Re rfl rfl rfl) (Kq rfl (Re rfl rfl rfl) (Ka rfl (Ka rfl (Nt (Ce ?_)))))
 exact R2 rfl rfl rfl (by rfl)
def Fact.fr (B : Nat) (f : Fact) : Fact where
 holds ok w := f.holds (fun b => ok b ∧ B ≤ b) w
 mono h := fun hh => f.mono (fun b hb => ⟨h b hb.1, hb.2⟩) hh
 stable := fun hh hs hk => f.stable hh hs (fun b hlt hb => hk b hlt hb.1)
 here := fun hh => f.mono (fun b hb => ⟨⟨hb.1.1, hb.2⟩, hb.1.2⟩) (f.here hh)
theorem laidVars_tail {P : Program} {w : World} {x : String × DataW Unit} {r : List (String × DataW Unit)} {ps : List MemPlace} (h : DataW.LaidVars P w (x :: r) ps) : ∃ q, DataW.LaidVars P w r q := by
 obtain ⟨n, d⟩ := x
 obtain ⟨g, t, cs, fuel, p, q, _, _, _, _, h, _⟩ := h
 exact ⟨q, h⟩
theorem tab_of_vars {P : Program} {W : World} {name : String} {k : IntKind} {zs : List Int} {rest : List (String × DataW Unit)} {ps : List MemPlace} {t e : TypeId} {n : Nat}
  (hty : ((P.globalNamed name).bind fun g => (P.globals[g]?).map (·.type)) = some t) (ht : P.underlying t = some (.array n e)) (he : P.underlying e = some (.int k)) (hce : P.cellsOf e = 1) (hct : P.cellsOf t = n)
  (h : DataW.LaidVars P W ((name, Lib.tabData k zs) :: rest) ps) : Lib.TabIs P W name k zs := by
 obtain ⟨g', t', cs, fuel, p, q, hg', ht', hvar, hd, _, _⟩ := h
 rw [hg', Option.bind_some] at hty
 obtain rfl := Option.some.inj (hty.symm.trans ht')
 unfold Lib.TabIs
 rw [hvar, ← Lib.cells_of_tab ht he hce hct hd]
theorem wf_u8 {n : Int} (h : (Lit.int .u8 n).wf = true) : 0 ≤ n ∧ n ≤ 255 := by
 have e1 : IntKind.u8.min = 0 := by decide
 have e2 : IntKind.u8.max = 255 := by decide
 simp [Lit.wf, e1, e2] at h; omega
theorem wf_i64 {n : Int} (h : (Lit.int .i64 n).wf = true) : -9223372036854775808 ≤ n ∧ n ≤ 9223372036854775807 := by
 have e1 : IntKind.i64.min = -9223372036854775808 := by decide
 have e2 : IntKind.i64.max = 9223372036854775807 := by decide
 simp [Lit.wf, e1, e2] at h; omega
theorem tabd_of_is {W : World} (h : Lib.TabIs Tryz.prog W "math/bits.deBruijn64tab" .u8 (Lib.deBruijn64tab.map fun n : Nat => (n : Int))) : TabD W := by
 intro j hj
 have h1 : W.var? Tryz.prog "math/bits.deBruijn64tab" = some ((Lib.deBruijn64tab.map fun n : Nat => (n : Int)).map fun z => Value.int .u8 z).toArray := h
 have hg : Tryz.prog.globalNamed "math/bits.deBruijn64tab" = some (renTz.g 1) := by kernel_rfl
 unfold World.var? at h1
 rw [hg, Option.bind_some] at h1
 unfold World.cell?
 show (match W.heap[renTz.g 1]? with | some (.cells c _ _) => if (none : Option _).isSome = true then none else c[j]? | _ => none) = _
 cases hh : W.heap[renTz.g 1]? with
 | none => rw [hh] at h1; cases h1
 | some o =>
  rw [hh] at h1
  cases o with
  | cells c t k =>
   simp only [Option.some.injEq] at h1
   subst h1
   rw [List.map_map]
   simp only [Option.isSome_none, Bool.false_eq_true, if_false, List.getElem?_toArray, List.getElem?_map]
   rw [List.getD_eq_getElem?_getD, List.getElem?_eq_getElem hj]; rfl
  | _ => cases h1
end Go.Proofs.YthkmpjobfdeoaaaGreatDoor
