/-
  Parts of the walk: Nlv.
-/
import Derived.Test.YthkmpjobfdeoaaaGreatDoorK22
namespace Go.Proofs.YthkmpjobfdeoaaaGreatDoor
open Go.RowKit
set_option linter.unusedSimpArgs false
set_option linter.unusedVariables false
set_option maxHeartbeats 600000
set_option maxRecDepth 20000
theorem unmS_tri {k : IK} {x acc : Bs} {p : PR} {w : List Zs} (h : ((unmS k x w).2 = 0 ∧ (unmS k x w).1.2 = (w.getD 0 default).2 ∧ accS k acc (unmS k x w).1.2 (unmS k x w).1.1 = 0) ∨ (unmS k x w).2 = 2 ∨ (unmS k x w).2 = 17) (h0 : (unmS k x w).2 ≠ 0) : (unmS k x w).2 = 2 ∨ (unmS k x w).2 = 17 :=
 h.resolve_left fun hh => h0 hh.1
theorem nsound_l {q : NC} {ws : List Zs} {a b : Option Addr} {c d : Nat} {w : World} {ok : Nat → Prop} (hF1 : (Fact.sl a (strs q.k.r)).holds ok w) (hF2 : (Fact.sl b (ints ws)).holds ok w) (hl : q.k.r.length ≤ 140737488351232) (hD : TabD w) :
  Cw 5 #[ncV q (.slice a q.k.r.length c), .slice b ws.length d] w (.bool true) := by
 refine En [Fact.sl a (strs q.k.r), Fact.sl b (ints ws)] [(0, ncV q (.slice a q.k.r.length c)), (1, .slice b ws.length d)] Tryz.func5 rfl Tryz.ntmps5 rfl (Ac rfl (Ac rfl (An _))) (Fc (fact_any hF1) (Fc (fact_any hF2) Fn)) ?_
 refine Cs ?_
 refine Kh rfl (Oy rfl rfl) ?_
 intro b2
 refine Ka rfl (Nt (Cq ?_))
 refine WC.joinP (σ := Unit) [(1, _), (2, _)] (fun gq => [(35, .bool (decide (¬ (fewN q ∧ (ws.length : Int) = 2 ∧ ((ws.getD 0 default).2.length : Int) ≤ 16 ∧ ((ws.getD 1 default).2.length : Int) ≤ 16))))]) (fun gq => True) (S2 rfl rfl) ?_ ?_
 ·skip
  refine Cg ?_
  refine Kq rfl (lda rfl rfl .tc u35 rfl ?_) ?_
  ·kernel_rfl
  refine Ku rfl (Oc rfl rfl (Kv fun w hS => few38_c (q := q) (by (exact hS.sl)) (by assumption))) ?_
  refine Kq rfl (Rt rfl rfl) (Km rfl ?_)
  refine Nb 15 rfl (fun hg15 => ?_) (fun hg15 => ?_)
  ·(try simp only [sB] at hg15)
   refine Kt rfl (Kt rfl (Kt rfl (Kq rfl (Rp rfl rfl rfl) (Km rfl (Kt rfl (Kt rfl (Kt rfl (Kt rfl (Kt rfl (Kt rfl (Kq rfl (Rp rfl rfl rfl) (Km rfl (Kt rfl (Kt rfl (Kt rfl (Kt rfl (Kt rfl (Kt rfl (Kq rfl (Rp rfl rfl rfl) (Nn ?_))))))))))))))))))))
   refine WX.joinP (()) (S2 rfl rfl) (by refine (Sc ?_ (S0 _)) <;> ((refine slot_b rfl ?_; (try dsimp only); (simp [*]; done)))) ?_ (by (exact fun _ h => h))
   (try dsimp only)
   done
  ·(try simp only [sB] at hg15)
   refine Km rfl (Kq rfl (rd_len rfl rfl u54) (Kq rfl (rd_neq rfl rfl rfl) (Kq rfl (Rq rfl rfl rfl) (Km rfl ?_))))
   refine Nb 20 rfl (fun hg20 => ?_) (fun hg20 => ?_)
   ·(try simp only [sB] at hg20)
    refine Kt rfl (Kt rfl (Kt rfl (Kt rfl (Kt rfl (Kt rfl (Kq rfl (Rp rfl rfl rfl) (Km rfl (Kt rfl (Kt rfl (Kt rfl (Kt rfl (Kt rfl (Kt rfl (Kq rfl (Rp rfl rfl rfl) (Nn ?_)))))))))))))))
    refine WX.joinP (()) (S2 rfl rfl) (by refine (Sc ?_ (S0 _)) <;> ((refine slot_b rfl ?_; (try dsimp only); (simp [*]; done)))) ?_ (by (exact fun _ h => h))
    (try dsimp only)
    done
   ·(try simp only [sB] at hg20)
    refine Km rfl ?_
    refine Kq rfl (Ia rfl rfl rfl u54 (by kernel_rfl : _ = some 2) (by omega) (by (rw [flatMap_len _ _ 2 (fun _ => rfl)]; omega))) ?_
    (refine Kq rfl (faf rfl rfl u50 rfl (by kernel_rfl) (by (try simp only [sN, Int.reduceToNat, Nat.reduceAdd, Nat.reduceMul, Nat.reduceSub]); rfl)) ?_)
    refine Kq rfl (ldmf (l := ws) (f := zc) (sz := 2) 0 1 rfl rfl u22 rfl (fun _ => rfl) rfl (by omega) (by decide) rfl) ?_
    refine Kq rfl (rd_slen rfl rfl u22) (Kq rfl (rd_gtr rfl rfl rfl) (Kq rfl (Rq rfl rfl rfl) (Km rfl ?_)))
    refine Nb 28 rfl (fun hg28 => ?_) (fun hg28 => ?_)
    ·(try simp only [sB] at hg28)
     refine Kt rfl (Kt rfl (Kt rfl (Kt rfl (Kt rfl (Kt rfl (Kq rfl (Rp rfl rfl rfl) (Nn ?_)))))))
     refine WX.joinP (()) (S2 rfl rfl) (by refine (Sc ?_ (S0 _)) <;> ((exact congrArg (fun b => some (Value.bool b)) (by symm; apply decide_eq_true; omega)))) ?_ (by (exact fun _ h => h))
     (try dsimp only)
     done
    ·(try simp only [sB] at hg28)
     refine Km rfl ?_
     refine Kq rfl (Ia rfl rfl rfl u54 (by kernel_rfl : _ = some 2) (by omega) (by (rw [flatMap_len _ _ 2 (fun _ => rfl)]; omega))) ?_
     (refine Kq rfl (rd_fa rfl rfl u50 rfl (by kernel_rfl) (by (try simp only [sN, Int.reduceToNat, Nat.reduceAdd, Nat.reduceMul, Nat.reduceSub]); rfl)) ?_)
     refine Kq rfl (ldmf (l := ws) (f := zc) (sz := 2) 1 1 rfl rfl u22 rfl (fun _ => rfl) rfl (by omega) (by decide) rfl) ?_
     refine Kq rfl (rd_slen rfl rfl u22) (Kq rfl (rd_gtr rfl rfl rfl) (Kq rfl (Rq rfl rfl rfl) (Nn ?_)))
     refine WX.joinP (()) (S2 rfl rfl) (by refine (Sc ?_ (S0 _)) <;> ((refine congrArg (fun b => some (Value.bool b)) ?_; simp [*, -List.getD_eq_getElem?_getD]; done))) ?_ (by (exact fun _ h => h))
     (try dsimp only)
     done
 ·rintro _ hmeet; (try dsimp only at hmeet ⊢)
  refine Cd rfl (fun hc35 => ?_) (fun hc35 => ?_)
  ·(try simp only [sB] at hc35)
   refine Cs ?_
   refine Ku rfl (Oc rfl rfl (Kv fun w hS => awake38_c)) ?_
   refine Ka rfl (Nt (Ce (Xb ?_)))
   exact R1 rfl rfl (by rfl)
  ·(try simp only [sB] at hc35)
   obtain ⟨hfw, hw2, hz0, hz1⟩ := Decidable.not_not.1 hc35
   have hw0 : 0 < ws.length := by omega
   obtain ⟨hm8, hk8, hkl, hnl⟩ := fewN_b hfw
   refine Ck (Xa (Cs (Kq rfl (Fa (q := 0) rfl rfl u35 rfl rfl) ?_)))
   refine Kq rfl (ldp rfl rfl .tc u30 rfl (by kernel_rfl : _ = some 17) (by rfl) (by rfl)) ?_
   refine Kq rfl (Fa (q := 17) rfl rfl u35 rfl rfl) ?_
   refine Kq rfl (ldp rfl rfl .tc u33 rfl (by kernel_rfl : _ = some 8) (by rfl) (by rfl)) ?_
   refine Kq rfl (Fa (q := 25) rfl rfl u35 rfl rfl) (Kq rfl (Ld rfl rfl .tc u22) ?_)
   refine Kq rfl (Fa (q := 26) rfl rfl u35 rfl rfl) (Kq rfl (Ld rfl rfl .tc u22) ?_)
   refine Kh rfl (Oc rfl rfl (keep_ff fun w hS => nstate_c (p := q.p) (k := q.k) (acc := q.acc) (x := q.w) (by (exact hS.slo)) (by assumption) (by assumption) (by assumption) (by assumption) (by (exact tabd_st hD hS)))) ?_
   rintro s1
   refine WL.pu ?_
   intro hg46; (try dsimp only [List.cons_append, List.nil_append] at hg46 ⊢)
   refine Km rfl (Kq rfl (Re rfl rfl rfl) (Kq rfl (Re rfl rfl rfl) ?_))
   refine Kh rfl (Oz [.slice none 0 0, .slice none 0 0, .slice none 0 0] rfl) ?_
   intro b5
   refine Nu rfl rfl (Sa rfl rfl rfl .tc) ?_
   refine Ka rfl (Nt (Cq (Cs (Km rfl (Kq rfl (rd_neq rfl rfl rfl) (Nt ?_))))))
   refine Cd rfl (fun hc50 => ?_) (fun hc50 => ?_)
   ·(try simp only [sB] at hc50)
    refine Cs ?_
    refine Ku rfl (Oc rfl rfl (Kv fun w hS => awake38_c)) ?_
    refine Ka rfl (Nt (Ce (Xb ?_)))
    exact R1 rfl rfl (by rfl)
   ·(try simp only [sB] at hc50)
    have h1 : (nrS q.p q.k q.acc q.w).2 = 0 := by simpa using hc50
    obtain ⟨r, hr⟩ : ∃ r, Keep (r = imgS (nrS q.p q.k q.acc q.w).1 ws) := ⟨_, rfl⟩
    refine Ck (Xa (Cs ?_))
    refine Kq rfl (lda rfl rfl .tc u42 rfl ?_) ?_
    ·kernel_rfl
    refine Km rfl ?_
    refine Kh rfl (Oc rfl rfl (keep_fr fun w hS => (by have := limg_c (w := w) (s := s1) (ws := ws) (a := b) (c := d) hS.sl hS.sl hS.sl hS.sl hS.more (saL_nr hk8 hg46) (by omega); rw [hg46, ← show r = _ from hr] at this; exact this))) ?_
    rintro g53; refine WL.pu ?_; intro hg53; (try dsimp only [List.cons_append, List.nil_append] at hg53 ⊢)
    refine Km rfl (Kq rfl (Re rfl rfl rfl) (Kq rfl (Re rfl rfl rfl) (Ka rfl (Ka rfl (Nt (Cq ?_))))))
    refine WC.joinP (σ := Unit) [(1, _), (2, _)] (fun gq => [(72, .bool (decide (¬ (r.2 = 0 ∧ r.1.length = 1 ∧ r.1.getD 0 default = q.acc))))]) (fun gq => True) (S2 rfl rfl) ?_ ?_
    ·skip
     refine Cf [0, 1, 2, 3, 4, 5, 6, 7, 8, 9, 10, 11, 12, 13, 14] [] [0, 0, 0, 0, 0, 0, 0, 0, 0, 0, 0, 0, 0, 0, 0] (by kernel_rfl) (by kernel_rfl) rfl ?_
     refine Kj rfl (Rm rfl rfl) (Kj rfl (rd_neq rfl rfl rfl) (Kj rfl (Rm rfl rfl) ?_))
     refine WJ.bool 60 rfl (fun hg60 => ?_) (fun hg60 => ?_)
     ·(try simp only [sB] at hg60)
      refine Js rfl rfl rfl rfl (Js rfl rfl rfl rfl (Js rfl rfl rfl rfl (Kj rfl (Rp rfl rfl rfl) (Kj rfl (Rm rfl rfl) (Js rfl rfl rfl rfl (Js rfl rfl rfl rfl (Js rfl rfl rfl rfl (Js rfl rfl rfl rfl (Js rfl rfl rfl rfl (Js rfl rfl rfl rfl (Kj rfl (Rp rfl rfl rfl) ?_)))))))))))
      refine WJ.nil ?_
      refine Nn ?_
      refine WX.joinP (()) (S2 rfl rfl) (by refine (Sc ?_ (S0 _)) <;> ((refine slot_b rfl ?_; (try dsimp only); (simp [*]; done)))) ?_ (by (exact fun _ h => h))
      (try dsimp only)
      done
     ·(try simp only [sB] at hg60)
      refine Kj rfl (Rm rfl rfl) (Kj rfl (rd_len rfl rfl u31) (Kj rfl (rd_neq rfl rfl rfl) (Kj rfl (Rq rfl rfl rfl) (Kj rfl (Rm rfl rfl) ?_))))
      refine WJ.bool 65 rfl (fun hg65 => ?_) (fun hg65 => ?_)
      ·(try simp only [sB] at hg65)
       refine Js rfl rfl rfl rfl (Js rfl rfl rfl rfl (Js rfl rfl rfl rfl (Js rfl rfl rfl rfl (Js rfl rfl rfl rfl (Js rfl rfl rfl rfl (Kj rfl (Rp rfl rfl rfl) ?_))))))
       refine WJ.nil ?_
       refine Nn ?_
       refine WX.joinP (()) (S2 rfl rfl) (by refine (Sc ?_ (S0 _)) <;> ((exact congrArg (fun b => some (Value.bool b)) (by symm; apply decide_eq_true; omega)))) ?_ (by (exact fun _ h => h))
       (try dsimp only)
       done
      ·(try simp only [sB] at hg65)
       refine Kj rfl (Rm rfl rfl) ?_
       refine Kj rfl (Ib rfl rfl rfl u31 (by omega) (by (rw [List.length_map]; omega))) ?_
       refine Kj rfl (ldm rfl rfl u22 rfl (by omega)) ?_
       refine Kj rfl (Fa (q := 25) rfl rfl u35 rfl rfl) (Kj rfl (Ld rfl rfl .tc u22) ?_)
       refine Kj rfl (rd_sne rfl rfl rfl) (Kj rfl (Rq rfl rfl rfl) ?_)
       refine WJ.nil ?_
       refine Nn ?_
       refine WX.joinP (()) (S2 rfl rfl) (by refine (Sc ?_ (S0 _)) <;> ((refine congrArg (fun b => some (Value.bool b)) ?_; simp [*]; omega))) ?_ (by (exact fun _ h => h))
       (try dsimp only)
       done
    ·rintro _ hmeet; (try dsimp only at hmeet ⊢)
     refine Cd rfl (fun hc72 => ?_) (fun hc72 => ?_)
     ·(try simp only [sB] at hc72)
      refine Cs ?_
      refine Ku rfl (Oc rfl rfl (Kv fun w hS => awake38_c)) ?_
      refine Ka rfl (Nt (Ce (Xb ?_)))
      exact R1 rfl rfl (by rfl)
     ·(try simp only [sB] at hc72)
      obtain ⟨hr2, hr1, hr0⟩ := Decidable.not_not.1 hc72
      have hra : r.1 = [q.acc] := by
       match hq : r.1, hr1 with
       | [y], _ => rw [hq] at hr0; exact congrArg (fun z => [z]) hr0
      have hsd := nr_sound h1 (by rw [← show r = _ from hr]; exact hr2) (by rw [← show r = _ from hr]; exact hra)
      refine Ck (Xa (Cs (Kq rfl (Fa (q := 17) rfl rfl u35 rfl rfl) ?_)))
      refine Kq rfl (ldp rfl rfl .tc u33 rfl (by kernel_rfl : _ = some 8) (by rfl) (by rfl)) ?_
      refine Kq rfl (Fa (q := 26) rfl rfl u35 rfl rfl) (Kq rfl (Ld rfl rfl .tc u22) ?_)
      refine Km rfl ?_
      refine Ku rfl (Oc rfl rfl (Kv fun w hS => unm_c (k := q.k) (rv := .slice a q.k.r.length c) (x := q.w) (ws := ws) (a := b) (c := d) (by (exact hS.sl)) (by omega) (by exact hk8))) ?_
      refine Km rfl (Kq rfl (Re rfl rfl rfl) (Kq rfl (Re rfl rfl rfl) (Kq rfl (Re rfl rfl rfl) (Ka rfl (Ka rfl (Ka rfl (Nt (Cq (Cs (Km rfl (Kq rfl (rd_neq rfl rfl rfl) (Nt ?_))))))))))))
      refine Cd rfl (fun hc85 => ?_) (fun hc85 => ?_)
      ·(try simp only [sB] at hc85)
       have htr := unmS_tri (p := q.p) hsd (by simpa using hc85)
       refine Cs ?_
       refine Ku rfl (Oc rfl rfl (Kv fun w hS => awake38_c)) ?_
       refine Km rfl ?_
       refine Nb 87 rfl (fun hg87 => ?_) (fun hg87 => ?_)
       ·(try simp only [sB] at hg87)
        refine Km rfl (Kq rfl (rd_eql rfl rfl rfl) (Km rfl ?_))
        refine Nb 90 rfl (fun hg90 => ?_) (fun hg90 => ?_)
        ·(try simp only [sB] at hg90)
         refine Kt rfl (Kt rfl (Kq rfl (Rp rfl rfl rfl) (Kq rfl (Rp rfl rfl rfl) (Ka rfl (Nt (Ce (Xb ?_)))))))
         exact R1 rfl rfl (by rfl)
        ·(try simp only [sB] at hg90)
         refine Km rfl (Kq rfl (rd_eql rfl rfl rfl) (Kq rfl (Rq rfl rfl rfl) (Kq rfl (Rp rfl rfl rfl) (Ka rfl (Nt (Ce (Xb ?_)))))))
         exact R1 rfl rfl (by (simp [tup]; omega))
       ·(try simp only [sB] at hg87)
        refine Kt rfl (Kt rfl (Kt rfl (Kt rfl (Kt rfl (Kt rfl (Kq rfl (Rq rfl rfl rfl) (Ka rfl (Nt (Ce (Xb ?_))))))))))
        exact R1 rfl rfl (by (simp [*, tup]; done))
      ·(try simp only [sB] at hc85)
       have hu := (hsd.resolve_right fun h => by have : (unmS q.k q.w ws).2 = 0 := by simpa using hc85
                                                 omega)
       obtain ⟨z0, hz⟩ : ∃ z, Keep (z = ws.getD 0 default) := ⟨_, rfl⟩
       obtain ⟨hu0, hu1, hu2⟩ := hu
       rw [← show z0 = _ from hz] at hu1
       rw [hu1] at hu2
       refine Ck (Xa (Cs ?_))
       refine Ku rfl (Oc rfl rfl (Kv fun w hS => awake38_c)) ?_
       refine Km rfl ?_
       refine Ns 96 rfl (v' := .bool true) (by rfl) ?_
       refine Km rfl (Km rfl ?_)
       refine Kq rfl (Ia rfl rfl rfl u54 (by kernel_rfl : _ = some 2) (by omega) (by (rw [flatMap_len _ _ 2 (fun _ => rfl)]; omega))) ?_
       (refine Kq rfl (faf rfl rfl u50 rfl (by kernel_rfl) (by (try simp only [sN, Int.reduceToNat, Nat.reduceAdd, Nat.reduceMul, Nat.reduceSub]); rfl)) ?_)
       refine Kq rfl (ldmf (l := ws) (f := zc) (sz := 2) 0 1 rfl rfl u22 rfl (fun _ => rfl) rfl (by omega) (by decide) rfl) ?_
       refine Ns 101 rfl (v' := .string (S (z0.2))) (congrArg (fun l => Value.string (S l)) (by rw [show z0 = _ from hz])) ?_
       refine Kq rfl (rd_seq rfl rfl rfl) (Kq rfl (Rp rfl rfl rfl) (Km rfl ?_))
       refine Ns 104 rfl (v' := .bool true) (by (exact congrArg Value.bool (by simp [*]; done))) ?_
       refine Kq rfl (Fa (q := 17) rfl rfl u35 rfl rfl) ?_
       refine Kq rfl (ldp rfl rfl .tc u33 rfl (by kernel_rfl : _ = some 8) (by rfl) (by rfl)) ?_
       refine Kq rfl (Fa (q := 25) rfl rfl u35 rfl rfl) (Kq rfl (Ld rfl rfl .tc u22) ?_)
       refine Km rfl (Km rfl ?_)
       refine Ku rfl (Oc rfl rfl (Kv fun w hS => acheck_c (k := q.k) (acc := q.acc) (u := (unmS q.k q.w ws).1.2) (wt := (unmS q.k q.w ws).1.1) (a := a) (c := c) (by assumption))) ?_
       refine Kq rfl (rd_eql rfl rfl rfl) (Kq rfl (Rp rfl rfl rfl) (Ka rfl (Nt (Ce ?_))))
       exact R1 rfl rfl (by (simp [*, tup]; done))
abbrev zFn (w : World) (x : Zs) : Prop := x.2.length ≤ 140737488351232
end Go.Proofs.YthkmpjobfdeoaaaGreatDoor
