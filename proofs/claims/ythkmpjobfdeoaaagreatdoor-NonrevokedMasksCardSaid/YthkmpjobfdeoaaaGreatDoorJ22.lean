/-
  Parts of the walk: Nlw Laid LaiE.
-/
import Derived.Test.YthkmpjobfdeoaaaGreatDoorJ21
import Derived.Lib.LaidTab
namespace Go.Proofs.YthkmpjobfdeoaaaGreatDoor
open Go.RowKit
set_option linter.unusedSimpArgs false
set_option linter.unusedVariables false
set_option maxHeartbeats 600000
set_option maxRecDepth 20000
structure NC where
 p : PR
 k : IK
 acc : Bs
 w : Bs
 u : Bs
 r : Bs
abbrev ncV (q : NC) (rv : Value) : Value := .agg #[.string (S q.p.ch), .string (S q.p.sl), .string (S q.p.mn.1.1), .string (S q.p.mn.1.2), .string (S q.p.mn.2.1), .string (S q.p.mn.2.2), .string (S q.p.wh.1.1), .string (S q.p.wh.1.2), .string (S q.p.wh.2.1), .string (S q.p.wh.2.2), .string (S q.p.sec), .string (S q.p.attr), .string (S q.p.han), .string (S q.p.lo), .string (S q.p.sz), .string (S q.p.bl), .string (S q.p.msk), .string (S q.k.name), .string (S q.k.g.1), .string (S q.k.g.2), .string (S q.k.z), .string (S q.k.s), rv, .string (S q.k.u), .string (S q.k.h), .string (S q.acc), .string (S q.w), .string (S q.u), .string (S q.r)]
def fewN (q : NC) : Prop := fewR q.p ∧ fewK q.k ∧ (q.acc.length : Int) ≤ 9 ∧ (q.w.length : Int) ≤ 9 ∧ (q.u.length : Int) ≤ 16 ∧ (q.r.length : Int) ≤ 16
instance (q : NC) : Decidable (fewN q) := inferInstanceAs (Decidable (_ ∧ _))
theorem fewN_b {q : NC} (h : fewN q) : q.p.mn.1.1.length ≤ 8 ∧ q.k.g.1.length ≤ 8 ∧ q.k.r.length ≤ 100000 ∧ q.k.name.length ≤ 140737488351232 := by
 have h1 := h.1.1 q.p.mn (by simp) q.p.mn.1.1 (by simp [pk4])
 have h2 := h.2.1.1 q.k.g.1 (by simp)
 have h3 := h.2.1.2.2.1
 have h4 := h.2.1.2.2.2.2
 omega
theorem infR2 : ∀ {a b : List Fact} {x : Fact}, InF b x → InF (a ++ b) x
 | [], _, _, h => h
 | _ :: a, _, _, h => .there (infR2 h)
instance (priority := low) SubL.app2 {α : Type} (x y z : List α) [h : SubL x z] : SubL x (y ++ z) := ⟨h.h.trans (List.sublist_append_right _ _)⟩
instance (priority := low) hasF_app2 {a b : List Fact} {x : Option Addr} {xs : List Value} [h : HasF b x xs] : HasF (a ++ b) x xs := ⟨infR2 h.h⟩
theorem msk_vals (p : PR) (k : IK) (x : Bs) (t : Tp) : (mskS p k x t).1.2.2.vals.length ≤ t.vals.length := by
 unfold mskS
 split
 ·simp [zeroT]
 ·split
  ·simp [zeroT]
  ·split
   ·simp [zeroT]
   ·split
    ·simp [zeroT]
    ·exact below_valsE t p.msk
theorem few38_c {q : NC} {a : Option Addr} {c : Nat} {w : World} {ok : Nat → Prop} (hF1 : (Fact.sl a (strs q.k.r)).holds ok w) (hl : q.k.r.length ≤ 140737488351232) :
  Cw 9 #[ncV q (.slice a q.k.r.length c)] w (.bool (decide (fewN q))) := by
 refine En [Fact.sl a (strs q.k.r)] [(0, ncV q (.slice a q.k.r.length c))] Tryz.func9 rfl Tryz.ntmps9 rfl (Ac rfl (An _)) (Fc (fact_any hF1) Fn) ?_
 refine Cs ?_
 refine Kh rfl (Oy rfl rfl) ?_
 intro b1
 refine Ka rfl (Nt (Cs (Kq rfl (Fa (q := 0) rfl rfl u35 rfl rfl) ?_)))
 refine Kq rfl (ldp rfl rfl .tc u30 rfl (by kernel_rfl : _ = some 17) (by rfl) (by rfl)) ?_
 refine Ku rfl (Oc rfl rfl (Kv fun w hS => fewpar_c (p := q.p))) ?_
 refine Km rfl ?_
 refine Nb 6 rfl (fun hg6 => ?_) (fun hg6 => ?_)
 ·(try simp only [sB] at hg6)
  refine Kq rfl (Fa (q := 17) rfl rfl u35 rfl rfl) ?_
  refine Kq rfl (ldp rfl rfl .tc u33 rfl (by kernel_rfl : _ = some 8) (by rfl) (by rfl)) ?_
  refine Ku rfl (Oc rfl rfl (Kv fun w hS => fewkey_c (k := q.k) (by (exact hS.sl)) (by assumption))) ?_
  refine Kq rfl (Rp rfl rfl rfl) (Km rfl ?_)
  refine Nb 11 rfl (fun hg11 => ?_) (fun hg11 => ?_)
  ·(try simp only [sB] at hg11)
   refine Kq rfl (Fa (q := 25) rfl rfl u35 rfl rfl) (Kq rfl (Ld rfl rfl .tc u22) ?_)
   refine Kq rfl (rd_slen rfl rfl u22) (Kq rfl (rd_leq rfl rfl rfl) (Kq rfl (Rp rfl rfl rfl) (Km rfl ?_)))
   refine Nb 17 rfl (fun hg17 => ?_) (fun hg17 => ?_)
   ·(try simp only [sB] at hg17)
    refine Kq rfl (Fa (q := 26) rfl rfl u35 rfl rfl) (Kq rfl (Ld rfl rfl .tc u22) ?_)
    refine Kq rfl (rd_slen rfl rfl u22) (Kq rfl (rd_leq rfl rfl rfl) (Kq rfl (Rp rfl rfl rfl) (Km rfl ?_)))
    refine Nb 23 rfl (fun hg23 => ?_) (fun hg23 => ?_)
    ·(try simp only [sB] at hg23)
     refine Kq rfl (Fa (q := 27) rfl rfl u35 rfl rfl) (Kq rfl (Ld rfl rfl .tc u22) ?_)
     refine Kq rfl (rd_slen rfl rfl u22) (Kq rfl (rd_leq rfl rfl rfl) (Kq rfl (Rp rfl rfl rfl) (Km rfl ?_)))
     refine Nb 29 rfl (fun hg29 => ?_) (fun hg29 => ?_)
     ·(try simp only [sB] at hg29)
      refine Kq rfl (Fa (q := 28) rfl rfl u35 rfl rfl) (Kq rfl (Ld rfl rfl .tc u22) ?_)
      refine Kq rfl (rd_slen rfl rfl u22) (Kq rfl (rd_leq rfl rfl rfl) (Kq rfl (Rp rfl rfl rfl) (Ka rfl (Nt (Ce ?_)))))
      exact R1 rfl rfl (by (simp [*, tup, fewN]; done))
     ·(try simp only [sB] at hg29)
      refine Kt rfl (Kt rfl (Kt rfl (Kt rfl (Kq rfl (Rq rfl rfl rfl) (Ka rfl (Nt (Ce ?_)))))))
      exact R1 rfl rfl (by (simp [*, tup, fewN]; intros; omega))
    ·(try simp only [sB] at hg23)
     refine Kt rfl (Kt rfl (Kt rfl (Kt rfl (Kq rfl (Rq rfl rfl rfl) (Km rfl (Kt rfl (Kt rfl (Kt rfl (Kt rfl (Kq rfl (Rq rfl rfl rfl) (Ka rfl (Nt (Ce ?_)))))))))))))
     exact R1 rfl rfl (by (simp [*, tup, fewN]; intros; omega))
   ·(try simp only [sB] at hg17)
    refine Kt rfl (Kt rfl (Kt rfl (Kt rfl (Kq rfl (Rq rfl rfl rfl) (Km rfl (Kt rfl (Kt rfl (Kt rfl (Kt rfl (Kq rfl (Rq rfl rfl rfl) (Km rfl (Kt rfl (Kt rfl (Kt rfl (Kt rfl (Kq rfl (Rq rfl rfl rfl) (Ka rfl (Nt (Ce ?_)))))))))))))))))))
    exact R1 rfl rfl (by (simp [*, tup, fewN]; intros; omega))
  ·(try simp only [sB] at hg11)
   refine Kt rfl (Kt rfl (Kt rfl (Kt rfl (Kq rfl (Rq rfl rfl rfl) (Km rfl (Kt rfl (Kt rfl (Kt rfl (Kt rfl (Kq rfl (Rq rfl rfl rfl) (Km rfl (Kt rfl (Kt rfl (Kt rfl (Kt rfl (Kq rfl (Rq rfl rfl rfl) (Km rfl (Kt rfl (Kt rfl (Kt rfl (Kt rfl (Kq rfl (Rq rfl rfl rfl) (Ka rfl (Nt (Ce ?_)))))))))))))))))))))))))
   exact R1 rfl rfl (by (simp [*, tup, fewN]; done))
 ·(try simp only [sB] at hg6)
  refine Kt rfl (Kt rfl (Kt rfl (Kq rfl (Rq rfl rfl rfl) (Km rfl (Kt rfl (Kt rfl (Kt rfl (Kt rfl (Kq rfl (Rq rfl rfl rfl) (Km rfl (Kt rfl (Kt rfl (Kt rfl (Kt rfl (Kq rfl (Rq rfl rfl rfl) (Km rfl (Kt rfl (Kt rfl (Kt rfl (Kt rfl (Kq rfl (Rq rfl rfl rfl) (Km rfl (Kt rfl (Kt rfl (Kt rfl (Kt rfl (Kq rfl (Rq rfl rfl rfl) (Ka rfl (Nt (Ce ?_))))))))))))))))))))))))))))))
  exact R1 rfl rfl (by (simp [*, tup, fewN]; done))
theorem nmasks_l {q : NC} {t : Tp} {a b : Option Addr} {c d : Nat} {w : World} {ok : Nat → Prop} (hF1 : (Fact.sl a (strs q.k.r)).holds ok w) (hF2 : (Fact.sl b (strs t.vals)).holds ok w) (hl : q.k.r.length ≤ 140737488351232) (htl : t.vals.length ≤ 140737488351232) (hT : Tab w) (hD : TabD w) :
  Cw 6 #[ncV q (.slice a q.k.r.length c), t.v (.slice b t.vals.length d)] w (.bool true) := by
 refine En [Fact.sl a (strs q.k.r), Fact.sl b (strs t.vals)] [(0, ncV q (.slice a q.k.r.length c)), (1, t.v (.slice b t.vals.length d))] Tryz.func6 rfl Tryz.ntmps6 rfl (Ac rfl (Ac rfl (An _))) (Fc (fact_any hF1) (Fc (fact_any hF2) Fn)) ?_
 refine Cs ?_
 refine Kh rfl (Oy rfl rfl) ?_
 intro b2
 refine Kh rfl (Oy rfl rfl) ?_
 intro b3
 refine Ka rfl (Nt (Cq ?_))
 refine WC.joinP (σ := Unit) [(2, _), (3, _)] (fun gq => [(20, .bool (decide (¬ (fewN q ∧ fewT t))))]) (fun gq => True) (S2 rfl rfl) ?_ ?_
 ·skip
  refine Cg ?_
  refine Kq rfl (lda rfl rfl .tc u35 rfl ?_) ?_
  ·kernel_rfl
  refine Ku rfl (Oc rfl rfl (Kv fun w hS => few38_c (q := q) (by (exact hS.sl)) (by assumption))) ?_
  refine Kq rfl (Rt rfl rfl) (Km rfl ?_)
  refine Nb 16 rfl (fun hg16 => ?_) (fun hg16 => ?_)
  ·(try simp only [sB] at hg16)
   refine Kt rfl (Kt rfl (Kt rfl (Kq rfl (Rp rfl rfl rfl) (Nn ?_))))
   refine WX.joinP (()) (S2 rfl rfl) (by refine (Sc ?_ (S0 _)) <;> ((refine slot_b rfl ?_; (try dsimp only); (simp [*]; done)))) ?_ (by (exact fun _ h => h))
   (try dsimp only)
   done
  ·(try simp only [sB] at hg16)
   refine Kq rfl (lda rfl rfl .tc u66 rfl ?_) ?_
   ·kernel_rfl
   refine Ku rfl (Oc rfl rfl (Kv fun w hS => fewT_c (t := t) (by (exact hS.sl)) (by omega))) ?_
   refine Kq rfl (Rt rfl rfl) (Kq rfl (Rq rfl rfl rfl) (Nn ?_))
   refine WX.joinP (()) (S2 rfl rfl) (by refine (Sc ?_ (S0 _)) <;> ((refine slot_b rfl ?_; (try dsimp only); (simp [*]; done)))) ?_ (by (exact fun _ h => h))
   (try dsimp only)
   done
 ·rintro _ hmeet; (try dsimp only at hmeet ⊢)
  refine Cd rfl (fun hc20 => ?_) (fun hc20 => ?_)
  ·(try simp only [sB] at hc20)
   refine Cs ?_
   refine Ku rfl (Oc rfl rfl (Kv fun w hS => awake38_c)) ?_
   refine Ka rfl (Nt (Ce (Xb ?_)))
   exact R1 rfl rfl (by rfl)
  ·(try simp only [sB] at hc20)
   obtain ⟨hfw, hft⟩ := Decidable.not_not.1 hc20
   obtain ⟨hm8, hk8, hkl, hnl⟩ := fewN_b hfw
   have hv := hft.1; have hse := hft.2.1
   obtain ⟨r, hr⟩ : ∃ r, r = mskS q.p q.k q.w t := ⟨_, rfl⟩
   have hrv : r.1.2.2.vals.length ≤ t.vals.length := by rw [hr]; exact msk_vals q.p q.k q.w t
   refine Ck (Xa (Cs (Kq rfl (Fa (q := 0) rfl rfl u35 rfl rfl) ?_)))
   refine Kq rfl (ldp rfl rfl .tc u30 rfl (by kernel_rfl : _ = some 17) (by rfl) (by rfl)) ?_
   refine Kq rfl (Fa (q := 17) rfl rfl u35 rfl rfl) ?_
   refine Kq rfl (ldp rfl rfl .tc u33 rfl (by kernel_rfl : _ = some 8) (by rfl) (by rfl)) ?_
   refine Kq rfl (Fa (q := 26) rfl rfl u35 rfl rfl) (Kq rfl (Ld rfl rfl .tc u22) ?_)
   refine Kq rfl (lda rfl rfl .tc u66 rfl ?_) ?_
   ·kernel_rfl
   refine Kh rfl (Oc rfl rfl (keep_f1 (val := fun g => .tuple #[.string (S r.1.1), .string (S r.1.2.1), r.1.2.2.v (g.val r.1.2.2.vals.length), .int .i64 r.2]) (p := fun g => g.cap = r.1.2.2.vals.length + g.sp.length) (xs := strs r.1.2.2.vals) (T := 22) fun w hS => (by have := nmask_c (w := w) (p := q.p) (k := q.k) (x := q.w) (t := t) (a := a) (b := b) (c := c) (d := d) hS.sl hS.sl hm8 hk8 hkl hnl (by omega) (by omega) (tab_st hT hS) (tabd_st hD hS); rw [← hr] at this; exact this))) ?_
   intro g22; refine WL.pu ?_; intro hg22; (try dsimp only at hg22 ⊢)
   refine Km rfl (Kq rfl (Re rfl rfl rfl) (Kq rfl (Re rfl rfl rfl) (Kq rfl (Re rfl rfl rfl) (Kq rfl (Re rfl rfl rfl) ?_))))
   refine Kh rfl (Oz [.slice none 0 0, .string (S []), .int .i64 0] rfl) ?_
   intro b7
   refine Ka rfl (Ka rfl ?_)
   refine Nu rfl rfl (Sa rfl rfl rfl .tc) ?_
   refine Ka rfl (Nt (Cs (Kq rfl (Fa (q := 0) rfl rfl u35 rfl rfl) ?_)))
   refine Kq rfl (ldp rfl rfl .tc u30 rfl (by kernel_rfl : _ = some 17) (by rfl) (by rfl)) ?_
   refine Kq rfl (Fa (q := 17) rfl rfl u35 rfl rfl) ?_
   refine Kq rfl (ldp rfl rfl .tc u33 rfl (by kernel_rfl : _ = some 8) (by rfl) (by rfl)) ?_
   refine Kq rfl (Fa (q := 26) rfl rfl u35 rfl rfl) (Kq rfl (Ld rfl rfl .tc u22) ?_)
   refine Kq rfl (lda rfl rfl .tc u66 rfl ?_) ?_
   ·kernel_rfl
   refine Kh rfl (Oc rfl rfl (keep_f1 (val := fun g => .tuple #[.string (S r.1.1), .string (S r.1.2.1), r.1.2.2.v (g.val r.1.2.2.vals.length), .int .i64 r.2]) (p := fun g => g.cap = r.1.2.2.vals.length + g.sp.length) (xs := strs r.1.2.2.vals) (T := 22) fun w hS => (by have := rnmask_c (w := w) (p := q.p) (k := q.k) (x := q.w) (t := t) (a := a) (b := b) (c := c) (d := d) hS.sl hS.sl hm8 hk8 hkl hnl (by omega) (by omega); rw [← hr] at this; exact this))) ?_
   intro g35; refine WL.pu ?_; intro hg35; (try dsimp only at hg35 ⊢)
   refine Km rfl (Kq rfl (Re rfl rfl rfl) (Kq rfl (Re rfl rfl rfl) (Kq rfl (Re rfl rfl rfl) (Kq rfl (Re rfl rfl rfl) ?_))))
   refine Kh rfl (Oz [.slice none 0 0, .string (S []), .int .i64 0] rfl) ?_
   intro b11
   refine Ka rfl (Ka rfl ?_)
   refine Nu rfl rfl (Sa rfl rfl rfl .tc) ?_
   refine Ka rfl (Nt (Cs ?_))
   refine Ku rfl (Oc rfl rfl (Kv fun w hS => awake38_c)) ?_
   refine Km rfl ?_
   refine Ns 49 rfl (v' := .bool true) (by rfl) ?_
   refine Km rfl (Km rfl (Kq rfl (rd_seq rfl rfl rfl) (Kq rfl (Rp rfl rfl rfl) (Km rfl ?_))))
   refine Ns 54 rfl (v' := .bool true) (by (exact congrArg Value.bool (by simp [*]; done))) ?_
   refine Km rfl (Km rfl (Kq rfl (rd_seq rfl rfl rfl) (Kq rfl (Rp rfl rfl rfl) (Km rfl ?_))))
   refine Ns 59 rfl (v' := .bool true) (by (exact congrArg Value.bool (by simp [*]; done))) ?_
   refine Kq rfl (lda rfl rfl .tc u66 rfl ?_) ?_
   ·kernel_rfl
   refine Kq rfl (lda rfl rfl .tc u66 rfl ?_) ?_
   ·kernel_rfl
   refine Ku rfl (Oc rfl rfl (Kv fun w hS => sameT_c (t := r.1.2.2) (u := r.1.2.2) (by (exact hS.sl)) (by (exact hS.sl)) (by omega) (by omega))) ?_
   refine Kq rfl (Rp rfl rfl rfl) (Km rfl ?_)
   refine Ns 64 rfl (v' := .bool true) (by (exact congrArg Value.bool (by simp [*]; done))) ?_
   refine Km rfl (Km rfl (Kq rfl (rd_eql rfl rfl rfl) (Kq rfl (Rp rfl rfl rfl) (Ka rfl (Nt (Ce ?_))))))
   exact R1 rfl rfl (by (simp [tup]; done))
theorem laidVars_tail {P : Program} {w : World} {x : String × DataW Unit} {r : List (String × DataW Unit)} {ps : List MemPlace} (h : DataW.LaidVars P w (x :: r) ps) : ∃ q, DataW.LaidVars P w r q := by
 obtain ⟨n, d⟩ := x
 obtain ⟨g, t, cs, fuel, p, q, _, _, _, _, h, _⟩ := h
 exact ⟨q, h⟩
theorem tab_of_vars {P : Program} {W : World} {name : String} {k : IntKind} {zs : List Int} {rest : List (String × DataW Unit)} {ps : List MemPlace} {t e : TypeId} {n : Nat}
  (hty : ((P.globalNamed name).bind fun g => (P.globals[g]?).map (·.type)) = some t) (ht : P.underlying t = some (.array n e)) (he : P.underlying e = some (.int k)) (hce : P.cellsOf e = 1) (hct : P.cellsOf t = n)
  (h : DataW.LaidVars P W ((name, Lib.tabData k zs) :: rest) ps) : Lib.TabIs P W name k zs := by
 obtain ⟨g', t', cs, fuel, p, q, hg', ht', hvar, hd, _, _⟩ := h
 rw [hg', Option.bind_some] at hty
 obtain rfl := Option.some.inj (hty.symm.trans ht')
 unfold Lib.TabIs
 rw [hvar, ← Lib.cells_of_tab ht he hce hct hd]
theorem wf_u8 {n : Int} (h : (Lit.int .u8 n).wf = true) : 0 ≤ n ∧ n ≤ 255 := by
 have e1 : IntKind.u8.min = 0 := by decide
 have e2 : IntKind.u8.max = 255 := by decide
 simp [Lit.wf, e1, e2] at h; omega
theorem wf_i64 {n : Int} (h : (Lit.int .i64 n).wf = true) : -9223372036854775808 ≤ n ∧ n ≤ 9223372036854775807 := by
 have e1 : IntKind.i64.min = -9223372036854775808 := by decide
 have e2 : IntKind.i64.max = 9223372036854775807 := by decide
 simp [Lit.wf, e1, e2] at h; omega
theorem tabd_of_is {W : World} (h : Lib.TabIs Tryz.prog W "math/bits.deBruijn64tab" .u8 (Lib.deBruijn64tab.map fun n : Nat => (n : Int))) : TabD W := by
 intro j hj
 have h1 : W.var? Tryz.prog "math/bits.deBruijn64tab" = some ((Lib.deBruijn64tab.map fun n : Nat => (n : Int)).map fun z => Value.int .u8 z).toArray := h
 have hg : Tryz.prog.globalNamed "math/bits.deBruijn64tab" = some (renTz.g 1) := by kernel_rfl
 unfold World.var? at h1
 rw [hg, Option.bind_some] at h1
 unfold World.cell?
 show (match W.heap[renTz.g 1]? with | some (.cells c _ _) => if (none : Option _).isSome = true then none else c[j]? | _ => none) = _
 cases hh : W.heap[renTz.g 1]? with
 | none => rw [hh] at h1; cases h1
 | some o =>
  rw [hh] at h1
  cases o with
  | cells c t k =>
   simp only [Option.some.injEq] at h1
   subst h1
   rw [List.map_map]
   simp only [Option.isSome_none, Bool.false_eq_true, if_false, List.getElem?_toArray, List.getElem?_map]
   rw [List.getD_eq_getElem?_getD, List.getElem?_eq_getElem hj]; rfl
  | _ => cases h1
end Go.Proofs.YthkmpjobfdeoaaaGreatDoor
