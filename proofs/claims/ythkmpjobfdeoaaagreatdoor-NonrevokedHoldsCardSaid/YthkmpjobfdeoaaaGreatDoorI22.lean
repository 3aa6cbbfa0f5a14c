/-
  Parts of the walk: Nlw Pwe Acm Laid LaiE.
-/
import Derived.Test.YthkmpjobfdeoaaaGreatDoorI21
import Derived.Lib.LaidTab
namespace Go.Proofs.YthkmpjobfdeoaaaGreatDoor
open Go.RowKit
set_option linter.unusedSimpArgs false
set_option linter.unusedVariables false
set_option maxHeartbeats 600000
set_option maxRecDepth 20000
structure NC where
 p : PR
 k : IK
 acc : Bs
 w : Bs
 u : Bs
 r : Bs
abbrev ncV (q : NC) (rv : Value) : Value := .agg #[.string (S q.p.ch), .string (S q.p.sl), .string (S q.p.mn.1.1), .string (S q.p.mn.1.2), .string (S q.p.mn.2.1), .string (S q.p.mn.2.2), .string (S q.p.wh.1.1), .string (S q.p.wh.1.2), .string (S q.p.wh.2.1), .string (S q.p.wh.2.2), .string (S q.p.sec), .string (S q.p.attr), .string (S q.p.han), .string (S q.p.lo), .string (S q.p.sz), .string (S q.p.bl), .string (S q.p.msk), .string (S q.k.name), .string (S q.k.g.1), .string (S q.k.g.2), .string (S q.k.z), .string (S q.k.s), rv, .string (S q.k.u), .string (S q.k.h), .string (S q.acc), .string (S q.w), .string (S q.u), .string (S q.r)]
def fewN (q : NC) : Prop := fewR q.p ∧ fewK q.k ∧ (q.acc.length : Int) ≤ 9 ∧ (q.w.length : Int) ≤ 9 ∧ (q.u.length : Int) ≤ 16 ∧ (q.r.length : Int) ≤ 16
instance (q : NC) : Decidable (fewN q) := inferInstanceAs (Decidable (_ ∧ _))
theorem fewN_b {q : NC} (h : fewN q) : q.p.mn.1.1.length ≤ 8 ∧ q.k.g.1.length ≤ 8 ∧ q.k.r.length ≤ 100000 ∧ q.k.name.length ≤ 140737488351232 := by
 have h1 := h.1.1 q.p.mn (by simp) q.p.mn.1.1 (by simp [pk4])
 have h2 := h.2.1.1 q.k.g.1 (by simp)
 have h3 := h.2.1.2.2.1
 have h4 := h.2.1.2.2.2.2
 omega
theorem infR2 : ∀ {a b : List Fact} {x : Fact}, InF b x → InF (a ++ b) x
 | [], _, _, h => h
 | _ :: a, _, _, h => .there (infR2 h)
instance (priority := low) SubL.app2 {α : Type} (x y z : List α) [h : SubL x z] : SubL x (y ++ z) := ⟨h.h.trans (List.sublist_append_right _ _)⟩
instance (priority := low) hasF_app2 {a b : List Fact} {x : Option Addr} {xs : List Value} [h : HasF b x xs] : HasF (a ++ b) x xs := ⟨infR2 h.h⟩
theorem saL_nr {s : SA} {p : PR} {k : IK} {acc x : Bs} (hm8 : k.g.1.length ≤ 8) (h : s.core = (nrS p k acc x).1) : saL s := by
 have hc : s.gs.length ≤ 100000 ∧ s.vs.length ≤ 100000 ∧ s.core.2.2.length ≤ 100000 ∧ (∀ q ∈ s.core.2.2, q.2.2.length ≤ 100000) ∧ ∀ g ∈ s.gs, g.1.length ≤ 8 := by
  have e1 : s.gs = (nrS p k acc x).1.1 := congrArg (·.1) h
  have e2 : s.vs = (nrS p k acc x).1.2.1 := congrArg (·.2.1) h
  rw [e1, e2, h, nrS]; split
  ·exact ⟨Nat.zero_le _, Nat.zero_le _, Nat.zero_le _, by simp, by simp⟩
  ·exact ⟨by simp [nrT, nrQ], by simp [nrT, nrQ], by simp [nrT, nrQ], by simp [nrT, nrQ], by simpa [nrT, nrQ] using hm8⟩
 exact ⟨hc.1, hc.2.1, by have := hc.2.2.1; simpa using this, forall_qa.1 hc.2.2.2.1, hc.2.2.2.2⟩
theorem msk_vals (p : PR) (k : IK) (x : Bs) (t : Tp) : (mskS p k x t).1.2.2.vals.length ≤ t.vals.length := by
 unfold mskS
 split
 ·simp [zeroT]
 ·split
  ·simp [zeroT]
  ·split
   ·simp [zeroT]
   ·split
    ·simp [zeroT]
    ·exact below_valsE t p.msk
theorem few38_c {q : NC} {a : Option Addr} {c : Nat} {w : World} {ok : Nat → Prop} (hF1 : (Fact.sl a (strs q.k.r)).holds ok w) (hl : q.k.r.length ≤ 140737488351232) :
  Cw 9 #[ncV q (.slice a q.k.r.length c)] w (.bool (decide (fewN q))) := by
 refine En [Fact.sl a (strs q.k.r)] [(0, ncV q (.slice a q.k.r.length c))] Tryz.func9 rfl Tryz.ntmps9 rfl (Ac rfl (An _)) (Fc (fact_any hF1) Fn) ?_
 refine Cs ?_
 refine Kh rfl (Oy rfl rfl) ?_
 intro b1
 refine Ka rfl (Nt (Cs (Kq rfl (Fa (q := 0) rfl rfl u35 rfl rfl) ?_)))
 refine Kq rfl (ldp rfl rfl .tc u30 rfl (by kernel_rfl : _ = some 17) (by rfl) (by rfl)) ?_
 refine Ku rfl (Oc rfl rfl (Kv fun w hS => fewpar_c (p := q.p))) ?_
 refine Km rfl ?_
 refine Nb 6 rfl (fun hg6 => ?_) (fun hg6 => ?_)
 ·(try simp only [sB] at hg6)
  refine Kq rfl (Fa (q := 17) rfl rfl u35 rfl rfl) ?_
  refine Kq rfl (ldp rfl rfl .tc u33 rfl (by kernel_rfl : _ = some 8) (by rfl) (by rfl)) ?_
  refine Ku rfl (Oc rfl rfl (Kv fun w hS => fewkey_c (k := q.k) (by (exact hS.sl)) (by assumption))) ?_
  refine Kq rfl (Rp rfl rfl rfl) (Km rfl ?_)
  refine Nb 11 rfl (fun hg11 => ?_) (fun hg11 => ?_)
  ·(try simp only [sB] at hg11)
   refine Kq rfl (Fa (q := 25) rfl rfl u35 rfl rfl) (Kq rfl (Ld rfl rfl .tc u22) ?_)
   refine Kq rfl (rd_slen rfl rfl u22) (Kq rfl (rd_leq rfl rfl rfl) (Kq rfl (Rp rfl rfl rfl) (Km rfl ?_)))
   refine Nb 17 rfl (fun hg17 => ?_) (fun hg17 => ?_)
   ·(try simp only [sB] at hg17)
    refine Kq rfl (Fa (q := 26) rfl rfl u35 rfl rfl) (Kq rfl (Ld rfl rfl .tc u22) ?_)
    refine Kq rfl (rd_slen rfl rfl u22) (Kq rfl (rd_leq rfl rfl rfl) (Kq rfl (Rp rfl rfl rfl) (Km rfl ?_)))
    refine Nb 23 rfl (fun hg23 => ?_) (fun hg23 => ?_)
    ·(try simp only [sB] at hg23)
     refine Kq rfl (Fa (q := 27) rfl rfl u35 rfl rfl) (Kq rfl (Ld rfl rfl .tc u22) ?_)
     refine Kq rfl (rd_slen rfl rfl u22) (Kq rfl (rd_leq rfl rfl rfl) (Kq rfl (Rp rfl rfl rfl) (Km rfl ?_)))
     refine Nb 29 rfl (fun hg29 => ?_) (fun hg29 => ?_)
     ·(try simp only [sB] at hg29)
      refine Kq rfl (Fa (q := 28) rfl rfl u35 rfl rfl) (Kq rfl (Ld rfl rfl .tc u22) ?_)
      refine Kq rfl (rd_slen rfl rfl u22) (Kq rfl (rd_leq rfl rfl rfl) (Kq rfl (Rp rfl rfl rfl) (Ka rfl (Nt (Ce ?_)))))
      exact R1 rfl rfl (by (simp [*, tup, fewN]; done))
     ·(try simp only [sB] at hg29)
      refine Kt rfl (Kt rfl (Kt rfl (Kt rfl (Kq rfl (Rq rfl rfl rfl) (Ka rfl (Nt (Ce ?_)))))))
      exact R1 rfl rfl (by (simp [*, tup, fewN]; intros; omega))
    ·(try simp only [sB] at hg23)
     refine Kt rfl (Kt rfl (Kt rfl (Kt rfl (Kq rfl (Rq rfl rfl rfl) (Km rfl (Kt rfl (Kt rfl (Kt rfl (Kt rfl (Kq rfl (Rq rfl rfl rfl) (Ka rfl (Nt (Ce ?_)))))))))))))
     exact R1 rfl rfl (by (simp [*, tup, fewN]; intros; omega))
   ·(try simp only [sB] at hg17)
    refine Kt rfl (Kt rfl (Kt rfl (Kt rfl (Kq rfl (Rq rfl rfl rfl) (Km rfl (Kt rfl (Kt rfl (Kt rfl (Kt rfl (Kq rfl (Rq rfl rfl rfl) (Km rfl (Kt rfl (Kt rfl (Kt rfl (Kt rfl (Kq rfl (Rq rfl rfl rfl) (Ka rfl (Nt (Ce ?_)))))))))))))))))))
    exact R1 rfl rfl (by (simp [*, tup, fewN]; intros; omega))
  ·(try simp only [sB] at hg11)
   refine Kt rfl (Kt rfl (Kt rfl (Kt rfl (Kq rfl (Rq rfl rfl rfl) (Km rfl (Kt rfl (Kt rfl (Kt rfl (Kt rfl (Kq rfl (Rq rfl rfl rfl) (Km rfl (Kt rfl (Kt rfl (Kt rfl (Kt rfl (Kq rfl (Rq rfl rfl rfl) (Km rfl (Kt rfl (Kt rfl (Kt rfl (Kt rfl (Kq rfl (Rq rfl rfl rfl) (Ka rfl (Nt (Ce ?_)))))))))))))))))))))))))
   exact R1 rfl rfl (by (simp [*, tup, fewN]; done))
 ·(try simp only [sB] at hg6)
  refine Kt rfl (Kt rfl (Kt rfl (Kq rfl (Rq rfl rfl rfl) (Km rfl (Kt rfl (Kt rfl (Kt rfl (Kt rfl (Kq rfl (Rq rfl rfl rfl) (Km rfl (Kt rfl (Kt rfl (Kt rfl (Kt rfl (Kq rfl (Rq rfl rfl rfl) (Km rfl (Kt rfl (Kt rfl (Kt rfl (Kt rfl (Kq rfl (Rq rfl rfl rfl) (Km rfl (Kt rfl (Kt rfl (Kt rfl (Kt rfl (Kq rfl (Rq rfl rfl rfl) (Ka rfl (Nt (Ce ?_))))))))))))))))))))))))))))))
  exact R1 rfl rfl (by (simp [*, tup, fewN]; done))
theorem pexp_c {g : Gp} {x : Bs} {z : Zs} {w : World} (hm8 : g.1.length ≤ 8) :
  Cw 28 #[gV g, .string (S x), zV z] w (NE (prodS g [x] [z])) := by
 refine En [] [(0, gV g), (1, .string (S x)), (2, zV z)] Tryz.func28 rfl Tryz.ntmps28 rfl (Ac rfl (Ac rfl (Ac rfl (An _)))) Fn ?_
 refine Cs ?_
 refine Kh rfl (Oy rfl rfl) ?_
 intro b3
 refine Kh rfl (Oy rfl rfl) ?_
 intro b5
 refine Ka rfl (Ka rfl (Nt (Cs ?_)))
 refine Kq rfl (lda rfl rfl .tc u26 rfl ?_) ?_
 ·kernel_rfl
 refine Km rfl ?_
 refine Kh rfl (og_bs1 rfl rfl u31 (by kernel_rfl : _ = some (some (.string (S [])), 1, 16)) rfl (by simp only [List.map]; rfl) rfl rfl ?_ (by decide)) ?_
 ·simp [Value.cells]
 intro b10
 refine Kq rfl (lda rfl rfl .tc u50 rfl ?_) ?_
 ·kernel_rfl
 refine Kh rfl (og_bsN rfl rfl u54 (by kernel_rfl : _ = some (some (.agg #[.bool false, .string (S [])]), 2, 24)) (by kernel_rfl) (by decide) rfl rfl (by (simp [Value.cells]; done)) (by (exact cells_one _)) (by decide)) ?_
 intro b12
 refine Ku rfl (Oc rfl rfl (Kv fun w hS => pproduct_c (g := g) (l := [x]) (es := [z]) (by (exact hS.os)) (by (exact hS.os)) (by (simp <;> omega)) (by (simp <;> omega)) (by assumption))) ?_
 refine Kq rfl (Re rfl rfl rfl) (Kq rfl (Re rfl rfl rfl) (Ka rfl (Ka rfl (Nt (Ce ?_)))))
 exact R2 rfl rfl rfl (by rfl)
def rdyA (g : Gp) (l us : List Bs) : Int :=
 if ¬ (vldL l ∧ vldL us ∧ okN g.1 ∧ okN g.2) then 3 else if chkG g ≠ 0 then chkG g else if ¬ ∀ x ∈ l, elG g x then 13 else if ¬ ∀ x ∈ us, x ≠ [] then 11 else 0
theorem aready_c {g : Gp} {l us : List Bs} {a b : Option Addr} {c d : Nat} {w : World} {ok : Nat → Prop} (hF1 : (Fact.sl a (strs l)).holds ok w) (hF2 : (Fact.sl b (strs us)).holds ok w) (hm8 : g.1.length ≤ 8) (hl : l.length ≤ 100000) (hu : us.length ≤ 100000) :
  Cw 63 #[gV g, .slice a l.length c, .slice b us.length d] w (.int .i64 (rdyA g l us)) := by
 refine En [Fact.sl a (strs l), Fact.sl b (strs us)] [(0, gV g), (1, .slice a l.length c), (2, .slice b us.length d)] Tryz.func63 rfl Tryz.ntmps63 rfl (Ac rfl (Ac rfl (Ac rfl (An _)))) (Fc (fact_any hF1) (Fc (fact_any hF2) Fn)) ?_
 refine Cs ?_
 refine Kh rfl (Oy rfl rfl) ?_
 intro b3
 refine Ka rfl (Nt (Cq ?_))
 refine WC.joinP (σ := Unit) [(1, _), (2, _), (3, _)] (fun gq => [(28, .bool (decide (¬ (vldL l ∧ vldL us ∧ okN g.1 ∧ okN g.2))))]) (fun gq => True) (S3 rfl rfl rfl) ?_ ?_
 ·skip
  refine Cg (Km rfl ?_)
  refine Ku rfl (Oc rfl rfl (Kv fun w hS => avalid_c (l := l) (by (exact hS.sl)) (by omega))) ?_
  refine Kq rfl (Rt rfl rfl) (Km rfl ?_)
  refine Nb 15 rfl (fun hg15 => ?_) (fun hg15 => ?_)
  ·(try simp only [sB] at hg15)
   refine Kt rfl (Kt rfl (Kt rfl (Kq rfl (Rp rfl rfl rfl) (Km rfl (Kt rfl (Kt rfl (Kt rfl (Kt rfl (Kt rfl (Kt rfl (Kt rfl (Kq rfl (Rp rfl rfl rfl) (Nn ?_)))))))))))))
   refine WX.joinP (()) (S3 rfl rfl rfl) (by refine (Sc ?_ (S0 _)) <;> ((refine slot_b rfl ?_; (try dsimp only); (simp [*]; done)))) ?_ (by (exact fun _ h => h))
   (try dsimp only)
   done
  ·(try simp only [sB] at hg15)
   refine Km rfl ?_
   refine Ku rfl (Oc rfl rfl (Kv fun w hS => avalid_c (l := us) (by (exact hS.sl)) (by omega))) ?_
   refine Kq rfl (Rt rfl rfl) (Kq rfl (Rq rfl rfl rfl) (Km rfl ?_))
   refine Nb 20 rfl (fun hg20 => ?_) (fun hg20 => ?_)
   ·(try simp only [sB] at hg20)
    refine Kt rfl (Kt rfl (Kt rfl (Kt rfl (Kt rfl (Kt rfl (Kt rfl (Kq rfl (Rp rfl rfl rfl) (Nn ?_))))))))
    refine WX.joinP (()) (S3 rfl rfl rfl) (by refine (Sc ?_ (S0 _)) <;> ((refine slot_b rfl ?_; (try dsimp only); (simp [*]; done)))) ?_ (by (exact fun _ h => h))
    (try dsimp only)
    done
   ·(try simp only [sB] at hg20)
    refine Kq rfl (Fa (q := 0) rfl rfl u26 rfl rfl) (Kq rfl (Ld rfl rfl .tc u22) ?_)
    refine Kq rfl (Fa (q := 1) rfl rfl u26 rfl rfl) (Kq rfl (Ld rfl rfl .tc u22) ?_)
    refine Kh rfl (og_bs1 rfl rfl u31 (by kernel_rfl : _ = some (some (.string (S [])), 1, 16)) rfl (by simp only [List.map]; rfl) rfl rfl ?_ (by decide)) ?_
    ·simp [Value.cells]
    intro b25
    refine Ku rfl (Oc rfl rfl (Kv fun w hS => avalid_c (l := [g.1, g.2]) (by (exact hS.os)) (by (simp <;> omega)))) ?_
    refine Ns 26 rfl (v' := .bool (decide (okN g.1 ∧ okN g.2))) (congrArg Value.bool (by exact decide_eq_decide.2 (by simp [vldL]))) ?_
    refine Kq rfl (Rt rfl rfl) (Kq rfl (Rq rfl rfl rfl) (Nn ?_))
    refine WX.joinP (()) (S3 rfl rfl rfl) (by refine (Sc ?_ (S0 _)) <;> ((refine slot_b rfl ?_; (try dsimp only); (simp [*]; done)))) ?_ (by (exact st_sub))
    (try dsimp only)
    done
 ·rintro _ hmeet; (try dsimp only at hmeet ⊢)
  refine Cd rfl (fun hc28 => ?_) (fun hc28 => ?_)
  ·(try simp only [sB] at hc28)
   refine Cs (Ka rfl (Nt (Ce (Xb ?_))))
   exact R1 rfl rfl (by rw [rdyA, if_pos hc28]; rfl)
  ·(try simp only [sB] at hc28)
   have hok := Decidable.not_not.1 hc28
   refine Ck (Xa (Cq (Cs ?_)))
   refine Kq rfl (lda rfl rfl .tc u26 rfl ?_) ?_
   ·kernel_rfl
   refine Ku rfl (Oc rfl rfl (Kv fun w hS => pcheck_c (g := g))) ?_
   refine Ka rfl (Nt (Cs (Km rfl (Kq rfl (rd_neq rfl rfl rfl) (Nt ?_)))))
   refine Cd rfl (fun hc32 => ?_) (fun hc32 => ?_)
   ·(try simp only [sB] at hc32)
    refine Cs (Km rfl (Ka rfl (Nt (Ce (Xb ?_)))))
    exact R1 rfl rfl (by rw [rdyA, if_neg (fun h => h hok), if_pos (by simpa using hc32)]; rfl)
   ·(try simp only [sB] at hc32)
    have hg : chkG g = 0 := by simpa using hc32
    refine Ck (Xa (Cq (Cs (Km rfl (Kq rfl (rd_len rfl rfl u31) (Km rfl (Nt (Cb ?_))))))))
    refine Lp (σ := Nat) [(2, _), (3, _), (34, _), (35, _)] (fun gq => [(36, .int .i64 (gq : Int))]) (fun gq => gq ≤ l.length ∧ ∀ x ∈ l.take gq, elG g x) (fun gq => l.length - gq) (0) (S4 rfl rfl rfl rfl) (S1 rfl) (by (try dsimp only); exact ⟨Nat.zero_le _, by simp⟩) ?_
    rintro i hinv1; (try dsimp only at hinv1 ⊢)
    obtain ⟨hi, hel⟩ := hinv1
    refine Cs (Kq rfl (rd_lss rfl rfl rfl) (Nt (Cq ?_)))
    refine Cd rfl (fun hc37 => ?_) (fun hc37 => ?_)
    ·(try simp only [sB] at hc37)
     have hil : i < l.length := by omega
     refine Ck (Xa (Cq (Cb (Cs ?_))))
     refine Kq rfl (Ib rfl rfl rfl u31 (by omega) (by (rw [List.length_map]; omega))) ?_
     refine Kq rfl (ldm rfl rfl u22 rfl (by assumption)) ?_
     refine Ka rfl (Nt (Cs ?_))
     refine Kq rfl (lda rfl rfl .tc u26 rfl ?_) ?_
     ·kernel_rfl
     refine Km rfl ?_
     refine Ku rfl (Oc rfl rfl (Kv fun w hS => pwhas_c (g := g) (x := l.getD i default) (by assumption))) ?_
     refine Ns 42 rfl (v' := .bool (decide (elG g (l.getD i default)))) (congrArg Value.bool (by simp [hg])) ?_
     refine Kq rfl (Rt rfl rfl) (Nt ?_)
     refine Cd rfl (fun hc43 => ?_) (fun hc43 => ?_)
     ·(try simp only [sB] at hc43)
      have hn : ¬ ∀ x ∈ l, elG g x := fun h => (by simpa using hc43 : ¬ elG g (l.getD i default)) (h _ (getD_mem l i hil))
      refine Cs (Ka rfl (Nt (Ce (Xf (Xb (Xb (Xf (Xb ?_))))))))
      exact R1 rfl rfl (by rw [rdyA, if_neg (fun h => h hok), if_neg (fun h => h hg), if_pos hn]; rfl)
     ·(try simp only [sB] at hc43)
      have hy : elG g (l.getD i default) := by simpa using hc43
      refine Ck (Xd (Xa (Cg (Kq rfl (Rz rfl rfl rfl (by omega)) (Km rfl (Nn ?_))))))
      refine Ly (i + 1) (by (try dsimp only); omega) (S4 rfl rfl rfl rfl) (by refine (Sc ?_ (S0 _)) <;> (rfl)) ?_ (by (exact fun _ h => h))
      (try dsimp only)
      exact ⟨hil, all_take hil hel hy⟩
    ·(try simp only [sB] at hc37)
     refine Cx (Xc (Xc (Xe ?_)))
     obtain rfl : i = l.length := by omega
     rw [List.take_length] at hel
     refine Xa (Cq (Cs (Km rfl (Kq rfl (rd_len rfl rfl u31) (Km rfl (Nt (Cb ?_)))))))
     refine Lp (σ := Nat) [(45, _), (46, _)] (fun gq => [(47, .int .i64 (gq : Int))]) (fun gq => gq ≤ us.length ∧ ∀ x ∈ us.take gq, x ≠ []) (fun gq => us.length - gq) (0) (S2 rfl rfl) (S1 rfl) (by (try dsimp only); exact ⟨Nat.zero_le _, by simp⟩) ?_
     rintro j hinv2; (try dsimp only at hinv2 ⊢)
     obtain ⟨hj, hne⟩ := hinv2
     refine Cs (Kq rfl (rd_lss rfl rfl rfl) (Nt (Cq ?_)))
     refine Cd rfl (fun hc48 => ?_) (fun hc48 => ?_)
     ·(try simp only [sB] at hc48)
      have hjl : j < us.length := by omega
      refine Ck (Xa (Cq (Cb (Cs ?_))))
      refine Kq rfl (Ib rfl rfl rfl u31 (by omega) (by (rw [List.length_map]; omega))) ?_
      refine Kq rfl (ldm rfl rfl u22 rfl (by assumption)) ?_
      refine Ka rfl (Nt (Cs (Km rfl (Kq rfl (rd_seq rfl rfl rfl) (Nt ?_)))))
      refine Cd rfl (fun hc52 => ?_) (fun hc52 => ?_)
      ·(try simp only [sB] at hc52)
       have hn : ¬ ∀ x ∈ us, x ≠ [] := fun h => h _ (getD_mem us j hjl) (by simpa using hc52)
       refine Cs (Ka rfl (Nt (Ce (Xf (Xb (Xb (Xf (Xb ?_))))))))
       exact R1 rfl rfl (by rw [rdyA, if_neg (fun h => h hok), if_neg (fun h => h hg), if_neg (fun h => h hel), if_pos hn]; rfl)
      ·(try simp only [sB] at hc52)
       have hy : us.getD j default ≠ [] := by simpa using hc52
       refine Ck (Xd (Xa (Cg (Kq rfl (Rz rfl rfl rfl (by omega)) (Km rfl (Nn ?_))))))
       refine Ly (j + 1) (by (try dsimp only); omega) (S2 rfl rfl) (by refine (Sc ?_ (S0 _)) <;> (rfl)) ?_ (by (exact fun _ h => h))
       (try dsimp only)
       exact ⟨hjl, all_take hjl hne hy⟩
     ·(try simp only [sB] at hc48)
      refine Cx (Xc (Xc (Xe ?_)))
      obtain rfl : j = us.length := by omega
      rw [List.take_length] at hne
      refine Xa (Cs (Ka rfl (Nt (Ce ?_))))
      exact R1 rfl rfl (by rw [rdyA, if_neg (fun h => h hok), if_neg (fun h => h hg), if_neg (fun h => h hel), if_neg (fun h => h hne)]; rfl)
theorem araised_c {g : Gp} {x u : Bs} {b : Option Addr} {d : Nat} {w : World} {ok : Nat → Prop} (hF1 : (Fact.sl b (strs [u])).holds ok w) (hm8 : g.1.length ≤ 8) :
  Cw 64 #[gV g, .string (S x), .slice b 1 d] w (.tuple #[.string (S (prodS g [x] [fromZ u]).1), .int .i64 (prodS g [x] [fromZ u]).2]) := by
 have hpe : (prodS g [x] [fromZ u]).2 ≠ 0 → (prodS g [x] [fromZ u]).1 = [] := fun h => by
  unfold prodS at h ⊢; split at h
  ·exact absurd rfl h
  ·rename_i h1; rw [if_neg h1]
 refine En [Fact.sl b (strs [u])] [(0, gV g), (1, .string (S x)), (2, .slice b 1 d)] Tryz.func64 rfl Tryz.ntmps64 rfl (Ac rfl (Ac rfl (Ac rfl (An _)))) (Fc (fact_any hF1) Fn) ?_
 refine Cs ?_
 refine Kh rfl (Oy rfl rfl) ?_
 intro b3
 refine Ka rfl (Ka rfl (Nt (Cq (Cs (Km rfl (Kq rfl (rd_len rfl rfl u31) (Km rfl (Nt (Cb ?_)))))))))
 refine Lp (σ := Nat × Bs) [(3, _), (12, _), (13, _)] (fun gq => [(14, .int .i64 (gq.1 : Int)), (1, .string (S gq.2))]) (fun gq => gq.2 = (if gq.1 = 0 then x else (prodS g [x] [fromZ u]).1) ∧ gq.1 ≤ 1 ∧ (gq.1 = 1 → (prodS g [x] [fromZ u]).2 = 0)) (fun gq => 1 - gq.1) (0, x) (S3 rfl rfl rfl) (S2 rfl rfl) (by (try dsimp only); exact ⟨rfl, by omega, fun h => absurd h (by decide)⟩) ?_
 rintro ⟨i, y⟩ hinv1; (try dsimp only at hinv1 ⊢)
 obtain ⟨hy, hi, h0⟩ := hinv1
 refine Cs (Kq rfl (rd_lss rfl rfl rfl) (Nt (Cq ?_)))
 refine Cd rfl (fun hc15 => ?_) (fun hc15 => ?_)
 ·(try simp only [sB] at hc15)
  obtain rfl : i = 0 := by omega
  obtain rfl : y = x := hy
  refine Ck (Xa (Cq (Cb (Cs ?_))))
  refine Kq rfl (Ib rfl rfl rfl u31 (by omega) (by (simp <;> omega))) ?_
  refine Kq rfl (ldm rfl rfl u22 rfl (by (simp <;> omega))) ?_
  refine Ka rfl (Nt (Cq ?_))
  refine Cf [2, 3, 0, 1, 4, 5, 6, 7, 8, 9] [] [0, 0, 0, 1, 1, 0, 0, 0, 0, 0] (by kernel_rfl) (by kernel_rfl) rfl ?_
  refine Kj rfl (Rm rfl rfl) ?_
  refine Jv rfl rfl rfl rfl rfl (fun ext => Oc rfl rfl (Kv fun w hS => zfrom_c (a := u))) ?_
  refine Kj rfl (lda rfl rfl .tc u26 rfl ?_) ?_
  ·kernel_rfl
  refine Kj rfl (Rm rfl rfl) ?_
  refine Jv rfl rfl rfl rfl rfl (fun ext => Oc rfl rfl (Kv fun w hS => pexp_c (g := g) (x := y) (z := fromZ u) (by assumption))) ?_
  refine Kj rfl (Rm rfl rfl) (Kj rfl (Re rfl rfl rfl) (Kj rfl (Re rfl rfl rfl) (Kj rfl (Ra rfl rfl) (Kj rfl (Ra rfl rfl) ?_))))
  refine WJ.nil ?_
  refine Nt (Cq (Cs (Km rfl (Kq rfl (rd_neq rfl rfl rfl) (Nt ?_)))))
  refine Cd rfl (fun hc27 => ?_) (fun hc27 => ?_)
  ·(try simp only [sB] at hc27)
   refine Cs (Km rfl (Ka rfl (Ka rfl (Nt (Ce (Xb (Xf (Xb (Xb (Xf (Xb ?_)))))))))))
   exact R2 rfl rfl rfl (by rw [hpe (by simpa using hc27)]; rfl)
  ·(try simp only [sB] at hc27)
   refine Ck (Xa (Cg (Km rfl (Ka rfl (Nn (Xd (Xa (Cg (Kq rfl (Rz rfl rfl rfl (by omega)) (Km rfl (Nn ?_)))))))))))
   refine Ly ((1, (prodS g [y] [fromZ u]).1)) (by (try dsimp only); omega) (S3 rfl rfl rfl) (by refine (Sc ?_ (Sc ?_ (S0 _))) <;> (rfl)) ?_ (by (exact fun _ h => h))
   (try dsimp only)
   exact ⟨rfl, by omega, fun _ => by simpa using hc27⟩
 ·(try simp only [sB] at hc15)
  refine Cx (Xc (Xc (Xe ?_)))
  obtain rfl : i = 1 := by omega
  replace h0 := h0 rfl
  replace hy : y = (prodS g [x] [fromZ u]).1 := hy
  refine Xa (Cs (Km rfl (Ka rfl (Ka rfl (Nt (Ce ?_))))))
  exact R2 rfl rfl rfl (by rw [hy, h0]; rfl)
theorem accS_eq (k : IK) (acc u w : Bs) : accS k acc u w = if rdyA k.g [acc, w] [u] ≠ 0 then rdyA k.g [acc, w] [u] else if (prodS k.g [w] [fromZ u]).2 ≠ 0 then (prodS k.g [w] [fromZ u]).2 else if (prodS k.g [w] [fromZ u]).1 ≠ acc then 20 else 0 := by
 have e1 : (vldL [acc, w] ∧ vldL [u] ∧ okN k.g.1 ∧ okN k.g.2) ↔ ((okN acc ∧ okN w) ∧ okN u ∧ okN k.g.1 ∧ okN k.g.2) := by simp [vldL]
 have e2 : (∀ x ∈ [acc, w], elG k.g x) ↔ (elG k.g acc ∧ elG k.g w) := by simp
 have e3 : (∀ x ∈ [u], x ≠ []) ↔ u ≠ [] := by simp
 by_cases h1 : (okN acc ∧ okN w) ∧ okN u ∧ okN k.g.1 ∧ okN k.g.2
 ·by_cases h2 : chkG k.g = 0
  ·by_cases h3 : elG k.g acc ∧ elG k.g w
   ·by_cases h4 : u = []
    ·have hr : rdyA k.g [acc, w] [u] = 11 := by rw [rdyA, if_neg (fun h => h (e1.2 h1)), if_neg (fun h => h h2), if_neg (fun h => h (e2.2 h3)), if_pos (fun h => e3.1 h h4)]
     rw [accS, if_neg (fun h => h h1), if_neg (fun h => h h2), if_neg (fun h => h h3), if_pos h4, hr]; rfl
    ·have hr : rdyA k.g [acc, w] [u] = 0 := by rw [rdyA, if_neg (fun h => h (e1.2 h1)), if_neg (fun h => h h2), if_neg (fun h => h (e2.2 h3)), if_neg (fun h => h (e3.2 h4))]
     rw [accS, if_neg (fun h => h h1), if_neg (fun h => h h2), if_neg (fun h => h h3), if_neg h4, hr, if_neg (show ¬ ((0 : Int) ≠ 0) from fun h => h rfl)]
   ·have hr : rdyA k.g [acc, w] [u] = 13 := by rw [rdyA, if_neg (fun h => h (e1.2 h1)), if_neg (fun h => h h2), if_pos (fun h => h3 (e2.1 h))]
    rw [accS, if_neg (fun h => h h1), if_neg (fun h => h h2), if_pos h3, hr]; rfl
  ·have hr : rdyA k.g [acc, w] [u] = chkG k.g := by rw [rdyA, if_neg (fun h => h (e1.2 h1)), if_pos h2]
   rw [accS, if_neg (fun h => h h1), if_pos h2, hr, if_pos h2]
 ·have hr : rdyA k.g [acc, w] [u] = 3 := by rw [rdyA, if_pos (fun h => h1 (e1.1 h))]
  rw [accS, if_pos h1, hr]; rfl
theorem acheck_c {k : IK} {acc u wt : Bs} {a : Option Addr} {c : Nat} {w : World} (hm8 : k.g.1.length ≤ 8) :
  Cw 20 #[ikV k (.slice a k.r.length c), .string (S acc), .string (S u), .string (S wt)] w (.int .i64 (accS k acc u wt)) := by
 refine En [] [(0, ikV k (.slice a k.r.length c)), (1, .string (S acc)), (2, .string (S u)), (3, .string (S wt))] Tryz.func20 rfl Tryz.ntmps20 rfl (Ac rfl (Ac rfl (Ac rfl (Ac rfl (An _))))) Fn ?_
 refine Cs ?_
 refine Kh rfl (Oy rfl rfl) ?_
 intro b4
 refine Ka rfl (Nt (Cq (Cs (Kq rfl (Fa (q := 1) rfl rfl u33 rfl rfl) ?_))))
 refine Kq rfl (ldp rfl rfl .tc u26 rfl (by kernel_rfl : _ = some 2) (by rfl) (by rfl)) ?_
 refine Km rfl (Km rfl ?_)
 refine Kh rfl (og_bs1 rfl rfl u31 (by kernel_rfl : _ = some (some (.string (S [])), 1, 16)) rfl (by simp only [List.map]; rfl) rfl rfl ?_ (by decide)) ?_
 ·simp [Value.cells]
 intro b16
 refine Km rfl ?_
 refine Kh rfl (og_bs1 rfl rfl u31 (by kernel_rfl : _ = some (some (.string (S [])), 1, 16)) rfl (by simp only [List.map]; rfl) rfl rfl ?_ (by decide)) ?_
 ·simp [Value.cells]
 intro b18
 refine Ku rfl (Oc rfl rfl (Kv fun w hS => aready_c (g := k.g) (l := [acc, wt]) (us := [u]) (by (exact hS.os)) (by (exact hS.os)) (by assumption) (by (simp <;> omega)) (by (simp <;> omega)))) ?_
 refine Ka rfl (Nt (Cs (Km rfl (Kq rfl (rd_neq rfl rfl rfl) (Nt ?_)))))
 refine Cd rfl (fun hc21 => ?_) (fun hc21 => ?_)
 ·(try simp only [sB] at hc21)
  refine Cs (Km rfl (Ka rfl (Nt (Ce (Xb ?_)))))
  exact R1 rfl rfl (by rw [accS_eq, if_pos (by simpa using hc21)]; rfl)
 ·(try simp only [sB] at hc21)
  refine Ck (Xa (Cs (Kq rfl (Fa (q := 1) rfl rfl u33 rfl rfl) ?_)))
  refine Kq rfl (ldp rfl rfl .tc u26 rfl (by kernel_rfl : _ = some 2) (by rfl) (by rfl)) ?_
  refine Km rfl (Km rfl ?_)
  refine Kh rfl (og_bs1 rfl rfl u31 (by kernel_rfl : _ = some (some (.string (S [])), 1, 16)) rfl (by simp only [List.map]; rfl) rfl rfl ?_ (by decide)) ?_
  ·simp [Value.cells]
  intro b28
  refine Ku rfl (Oc rfl rfl (Kv fun w hS => araised_c (g := k.g) (x := wt) (u := u) (by (exact hS.os)) (by assumption))) ?_
  refine Km rfl (Kq rfl (Re rfl rfl rfl) (Kq rfl (Re rfl rfl rfl) (Ka rfl (Ka rfl (Nt (Cq (Cs (Km rfl (Kq rfl (rd_neq rfl rfl rfl) (Nt ?_))))))))))
  refine Cd rfl (fun hc33 => ?_) (fun hc33 => ?_)
  ·(try simp only [sB] at hc33)
   refine Cs (Km rfl (Ka rfl (Nt (Ce (Xb ?_)))))
   exact R1 rfl rfl (by rw [accS_eq, if_neg (by simpa using hc21), if_pos (by simpa using hc33)]; rfl)
  ·(try simp only [sB] at hc33)
   refine Ck (Xa (Cq (Cs (Km rfl (Km rfl (Kq rfl (rd_sne rfl rfl rfl) (Nt ?_)))))))
   refine Cd rfl (fun hc37 => ?_) (fun hc37 => ?_)
   ·(try simp only [sB] at hc37)
    refine Cs (Ka rfl (Nt (Ce (Xb ?_))))
    exact R1 rfl rfl (by rw [accS_eq, if_neg (by simpa using hc21), if_neg (by simpa using hc33), if_pos (by simpa using hc37)]; rfl)
   ·(try simp only [sB] at hc37)
    refine Ck (Xa (Cs (Ka rfl (Nt (Ce ?_)))))
    exact R1 rfl rfl (by rw [accS_eq, if_neg (by simpa using hc21), if_neg (by simpa using hc33), if_neg (by simpa using hc37)]; rfl)
def Fact.fr (B : Nat) (f : Fact) : Fact where
 holds ok w := f.holds (fun b => ok b ∧ B ≤ b) w
 mono h := fun hh => f.mono (fun b hb => ⟨h b hb.1, hb.2⟩) hh
 stable := fun hh hs hk => f.stable hh hs (fun b hlt hb => hk b hlt hb.1)
 here := fun hh => f.mono (fun b hb => ⟨⟨hb.1.1, hb.2⟩, hb.1.2⟩) (f.here hh)
theorem laidVars_tail {P : Program} {w : World} {x : String × DataW Unit} {r : List (String × DataW Unit)} {ps : List MemPlace} (h : DataW.LaidVars P w (x :: r) ps) : ∃ q, DataW.LaidVars P w r q := by
 obtain ⟨n, d⟩ := x
 obtain ⟨g, t, cs, fuel, p, q, _, _, _, _, h, _⟩ := h
 exact ⟨q, h⟩
theorem tab_of_vars {P : Program} {W : World} {name : String} {k : IntKind} {zs : List Int} {rest : List (String × DataW Unit)} {ps : List MemPlace} {t e : TypeId} {n : Nat}
  (hty : ((P.globalNamed name).bind fun g => (P.globals[g]?).map (·.type)) = some t) (ht : P.underlying t = some (.array n e)) (he : P.underlying e = some (.int k)) (hce : P.cellsOf e = 1) (hct : P.cellsOf t = n)
  (h : DataW.LaidVars P W ((name, Lib.tabData k zs) :: rest) ps) : Lib.TabIs P W name k zs := by
 obtain ⟨g', t', cs, fuel, p, q, hg', ht', hvar, hd, _, _⟩ := h
 rw [hg', Option.bind_some] at hty
 obtain rfl := Option.some.inj (hty.symm.trans ht')
 unfold Lib.TabIs
 rw [hvar, ← Lib.cells_of_tab ht he hce hct hd]
theorem wf_u8 {n : Int} (h : (Lit.int .u8 n).wf = true) : 0 ≤ n ∧ n ≤ 255 := by
 have e1 : IntKind.u8.min = 0 := by decide
 have e2 : IntKind.u8.max = 255 := by decide
 simp [Lit.wf, e1, e2] at h; omega
theorem wf_i64 {n : Int} (h : (Lit.int .i64 n).wf = true) : -9223372036854775808 ≤ n ∧ n ≤ 9223372036854775807 := by
 have e1 : IntKind.i64.min = -9223372036854775808 := by decide
 have e2 : IntKind.i64.max = 9223372036854775807 := by decide
 simp [Lit.wf, e1, e2] at h; omega
theorem tabd_of_is {W : World} (h : Lib.TabIs Tryz.prog W "math/bits.deBruijn64tab" .u8 (Lib.deBruijn64tab.map fun n : Nat => (n : Int))) : TabD W := by
 intro j hj
 have h1 : W.var? Tryz.prog "math/bits.deBruijn64tab" = some ((Lib.deBruijn64tab.map fun n : Nat => (n : Int)).map fun z => Value.int .u8 z).toArray := h
 have hg : Tryz.prog.globalNamed "math/bits.deBruijn64tab" = some (renTz.g 1) := by kernel_rfl
 unfold World.var? at h1
 rw [hg, Option.bind_some] at h1
 unfold World.cell?
 show (match W.heap[renTz.g 1]? with | some (.cells c _ _) => if (none : Option _).isSome = true then none else c[j]? | _ => none) = _
 cases hh : W.heap[renTz.g 1]? with
 | none => rw [hh] at h1; cases h1
 | some o =>
  rw [hh] at h1
  cases o with
  | cells c t k =>
   simp only [Option.some.injEq] at h1
   subst h1
   rw [List.map_map]
   simp only [Option.isSome_none, Bool.false_eq_true, if_false, List.getElem?_toArray, List.getElem?_map]
   rw [List.getD_eq_getElem?_getD, List.getElem?_eq_getElem hj]; rfl
  | _ => cases h1
end Go.Proofs.YthkmpjobfdeoaaaGreatDoor
