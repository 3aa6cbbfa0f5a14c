/-
  Parts of the walk: Nlm.
-/
import Derived.Test.YthkmpjobfdeoaaaGreatDoorK22
namespace Go.Proofs.YthkmpjobfdeoaaaGreatDoor
open Go.RowKit
set_option linter.unusedSimpArgs false
set_option linter.unusedVariables false
set_option maxHeartbeats 600000
set_option maxRecDepth 20000
theorem nmoves_l {q : NC} {w0 w1 : Zs} {n : Nat} {a : Option Addr} {c : Nat} {w : World} {ok : Nat → Prop} (hF1 : (Fact.sl a (strs q.k.r)).holds ok w) (hl : q.k.r.length ≤ 140737488351232) (hn : n < 256) (hD : TabD w) :
  Cw 4 #[ncV q (.slice a q.k.r.length c), .agg #[.bool w0.1, .string (S w0.2), .bool w1.1, .string (S w1.2)], .int .u8 (n : Int)] w (.bool true) := by
 refine En [Fact.sl a (strs q.k.r)] [(0, ncV q (.slice a q.k.r.length c)), (1, .agg #[.bool w0.1, .string (S w0.2), .bool w1.1, .string (S w1.2)]), (2, .int .u8 (n : Int))] Tryz.func4 rfl Tryz.ntmps4 rfl (Ac rfl (Ac rfl (Ac rfl (An _)))) (Fc (fact_any hF1) Fn) ?_
 refine Cs ?_
 refine Kh rfl (Oy rfl rfl) ?_
 intro b3
 refine Kh rfl (Oy rfl rfl) ?_
 intro b4
 refine Ka rfl (Nt (Cq ?_))
 refine WC.joinP (σ := Unit) [(2, _), (3, _), (4, _)] (fun gq => [(38, .bool (decide (¬ (fewN q ∧ (w0.2.length : Int) ≤ 16 ∧ (w1.2.length : Int) ≤ 16))))]) (fun gq => True) (S3 rfl rfl rfl) ?_ ?_
 ·skip
  refine Cg ?_
  refine Kq rfl (lda rfl rfl .tc u35 rfl ?_) ?_
  ·kernel_rfl
  refine Ku rfl (Oc rfl rfl (Kv fun w hS => few38_c (q := q) (by (exact hS.sl)) (by assumption))) ?_
  refine Kq rfl (Rt rfl rfl) (Km rfl ?_)
  refine Nb 25 rfl (fun hg25 => ?_) (fun hg25 => ?_)
  ·(try simp only [sB] at hg25)
   refine Kt rfl (Kt rfl (Kt rfl (Kt rfl (Kt rfl (Kq rfl (Rp rfl rfl rfl) (Km rfl (Kt rfl (Kt rfl (Kt rfl (Kt rfl (Kt rfl (Kq rfl (Rp rfl rfl rfl) (Nn ?_)))))))))))))
   refine WX.joinP (()) (S3 rfl rfl rfl) (by refine (Sc ?_ (S0 _)) <;> ((refine slot_b rfl ?_; (try dsimp only); (simp [*]; done)))) ?_ (by (exact fun _ h => h))
   (try dsimp only)
   done
  ·(try simp only [sB] at hg25)
   refine Kq rfl (Jb rfl rfl rfl u51 (by kernel_rfl : _ = some 2) ?_) ?_
   ·omega
   (refine Kq rfl (rd_fa rfl rfl u50 rfl (by kernel_rfl) (by (try simp only [sN, Int.reduceToNat, Nat.reduceAdd, Nat.reduceMul, Nat.reduceSub]); rfl)) ?_)
   refine Kq rfl (Ld rfl rfl .tc u22) ?_
   refine Kq rfl (rd_slen rfl rfl u22) (Kq rfl (rd_gtr rfl rfl rfl) (Kq rfl (Rq rfl rfl rfl) (Km rfl ?_)))
   refine Nb 32 rfl (fun hg32 => ?_) (fun hg32 => ?_)
   ·(try simp only [sB] at hg32)
    refine Kt rfl (Kt rfl (Kt rfl (Kt rfl (Kt rfl (Kq rfl (Rp rfl rfl rfl) (Nn ?_))))))
    refine WX.joinP (()) (S3 rfl rfl rfl) (by refine (Sc ?_ (S0 _)) <;> ((refine slot_b rfl ?_; (try dsimp only); (simp [*]; done)))) ?_ (by (exact fun _ h => h))
    (try dsimp only)
    done
   ·(try simp only [sB] at hg32)
    refine Kq rfl (Jb rfl rfl rfl u51 (by kernel_rfl : _ = some 2) ?_) ?_
    ·omega
    (refine Kq rfl (rd_fa rfl rfl u50 rfl (by kernel_rfl) (by (try simp only [sN, Int.reduceToNat, Nat.reduceAdd, Nat.reduceMul, Nat.reduceSub]); rfl)) ?_)
    refine Kq rfl (Ld rfl rfl .tc u22) ?_
    refine Kq rfl (rd_slen rfl rfl u22) (Kq rfl (rd_gtr rfl rfl rfl) (Kq rfl (Rq rfl rfl rfl) (Nn ?_)))
    refine WX.joinP (()) (S3 rfl rfl rfl) (by refine (Sc ?_ (S0 _)) <;> ((refine slot_b rfl ?_; (try dsimp only); (simp [*]; done)))) ?_ (by (exact fun _ h => h))
    (try dsimp only)
    done
 ·rintro _ hmeet; (try dsimp only at hmeet ⊢)
  refine Cd rfl (fun hc38 => ?_) (fun hc38 => ?_)
  ·(try simp only [sB] at hc38)
   refine Cs ?_
   refine Ku rfl (Oc rfl rfl (Kv fun w hS => awake38_c)) ?_
   refine Ka rfl (Nt (Ce (Xb ?_)))
   exact R1 rfl rfl (by rfl)
  ·(try simp only [sB] at hc38)
   obtain ⟨hfw, hz0, hz1⟩ := Decidable.not_not.1 hc38
   obtain ⟨hm8, hk8, hkl, hnl⟩ := fewN_b hfw
   refine Ck (Xa (Cs (Kq rfl (Fa (q := 0) rfl rfl u35 rfl rfl) ?_)))
   refine Kq rfl (ldp rfl rfl .tc u30 rfl (by kernel_rfl : _ = some 17) (by rfl) (by rfl)) ?_
   refine Kq rfl (Fa (q := 17) rfl rfl u35 rfl rfl) ?_
   refine Kq rfl (ldp rfl rfl .tc u33 rfl (by kernel_rfl : _ = some 8) (by rfl) (by rfl)) ?_
   refine Kq rfl (Fa (q := 25) rfl rfl u35 rfl rfl) (Kq rfl (Ld rfl rfl .tc u22) ?_)
   refine Kq rfl (Fa (q := 26) rfl rfl u35 rfl rfl) (Kq rfl (Ld rfl rfl .tc u22) ?_)
   refine Kh rfl (Oc rfl rfl (keep_ff fun w hS => nstate_c (p := q.p) (k := q.k) (acc := q.acc) (x := q.w) (by (exact hS.slo)) (by assumption) (by assumption) (by assumption) (by assumption) (by (exact tabd_st hD hS)))) ?_
   rintro s1
   refine WL.pu ?_
   intro hg49; (try dsimp only [List.cons_append, List.nil_append] at hg49 ⊢)
   refine Km rfl (Kq rfl (Re rfl rfl rfl) (Kq rfl (Re rfl rfl rfl) ?_))
   refine Kh rfl (Oz [.slice none 0 0, .slice none 0 0, .slice none 0 0] rfl) ?_
   intro b7
   refine Nu rfl rfl (Sa rfl rfl rfl .tc) ?_
   refine Ka rfl (Nt (Cq (Cs (Km rfl (Kq rfl (rd_neq rfl rfl rfl) (Nt ?_))))))
   refine Cd rfl (fun hc53 => ?_) (fun hc53 => ?_)
   ·(try simp only [sB] at hc53)
    refine Cs ?_
    refine Ku rfl (Oc rfl rfl (Kv fun w hS => awake38_c)) ?_
    refine Ka rfl (Nt (Ce (Xb ?_)))
    exact R1 rfl rfl (by rfl)
   ·(try simp only [sB] at hc53)
    have h1 : (nrS q.p q.k q.acc q.w).2 = 0 := by simpa using hc53
    obtain ⟨r, hr⟩ : ∃ r, Keep (r = imgS (nrS q.p q.k q.acc q.w).1 [w0, w1]) := ⟨_, rfl⟩
    refine Ck (Xa (Cq ?_))
    refine Cf [0, 1, 2, 3, 4, 5, 6, 7] [] [0, 0, 1, 0, 0, 0, 0, 0] (by kernel_rfl) (by kernel_rfl) rfl ?_
    refine Kj rfl (lda rfl rfl .tc u42 rfl ?_) ?_
    ·kernel_rfl
    refine Kj rfl (rd_sla rfl rfl u51 (by kernel_rfl : _ = some 2)) ?_
    refine Jg rfl rfl rfl rfl rfl (fun ext => Oc rfl rfl (keep_fr fun w hS => (by have := limg_c (w := w) (s := s1) (ws := [w0, w1]) (a := some ⟨b4, 0, none⟩) (c := 2) hS.sl hS.sl hS.sl hS.os hS.more (saL_nr hk8 hg49) (by simp); rw [hg49, ← show r = _ from hr] at this; exact this))) ?_
    rintro g58 hg58; (try dsimp only [List.cons_append, List.nil_append] at hg58 ⊢)
    refine Kj rfl (Rm rfl rfl) (Kj rfl (Re rfl rfl rfl) (Kj rfl (Re rfl rfl rfl) (Kj rfl (Ra rfl rfl) (Kj rfl (Ra rfl rfl) ?_))))
    refine WJ.nil ?_
    refine Nt (Cs (Km rfl (Kq rfl (rd_convW rfl rfl u5 u2 (by omega)) ?_)))
    refine Ku rfl (Oc rfl rfl (Kv fun w hS => zof_c (n := (n : Int)) (by omega) (by omega))) ?_
    refine Kh rfl (Oz [.bool false, .string (S [])] rfl) ?_
    intro b11
    refine Nu rfl rfl (Sa rfl rfl rfl .tc) ?_
    refine Nt (Cq ?_)
    refine Cf [9, 0, 1, 2, 3, 4, 5, 6, 7, 8, 10, 11, 12, 13, 14, 15, 16, 17] [] [0, 0, 0, 0, 0, 0, 0, 0, 3, 1, 0, 3, 1, 0, 0, 0, 0, 0] (by kernel_rfl) (by kernel_rfl) rfl ?_
    refine Jv rfl rfl rfl rfl rfl (fun ext => Oc rfl rfl (Kv fun w hS => zof_c (n := 1) (by omega) (by omega))) ?_
    refine Kj rfl (Fa (q := 17) rfl rfl u35 rfl rfl) (Kj rfl (Fa (q := 18) rfl rfl u33 rfl rfl) ?_)
    refine Kj rfl (ldp rfl rfl .tc u26 rfl (by kernel_rfl : _ = some 2) (by rfl) (by rfl)) ?_
    refine Kj rfl (Fa (q := 26) rfl rfl u35 rfl rfl) (Kj rfl (Ld rfl rfl .tc u22) ?_)
    refine Kj rfl (Fa (q := 17) rfl rfl u35 rfl rfl) (Kj rfl (Fa (q := 24) rfl rfl u33 rfl rfl) (Kj rfl (Ld rfl rfl .tc u22) ?_))
    refine Jf rfl rfl rfl rfl rfl (fr_bs1 rfl rfl u31 (by kernel_rfl : _ = some (some (.string (S [])), 1, 16)) rfl (by simp only [List.map]; rfl) rfl rfl ?_ (by decide)) ?_
    ·simp [Value.cells]
    intro b73
    refine Kj rfl (lda rfl rfl .tc u50 rfl ?_) ?_
    ·kernel_rfl
    refine Jf rfl rfl rfl rfl rfl (fr_bsN rfl rfl u54 (by kernel_rfl : _ = some (some (.agg #[.bool false, .string (S [])]), 2, 24)) (by kernel_rfl) (by decide) rfl rfl (by (simp [Value.cells]; done)) (by (simp only [List.map, Value.cells, List.flatMap_cons, List.flatMap_nil, List.append_nil, List.toList_toArray]; rfl)) (by decide)) ?_
    intro b76
    refine Jv rfl rfl rfl rfl rfl (fun ext => Oc rfl rfl (Kv fun w hS => pproduct_c (g := q.k.g) (l := [q.w, q.k.h]) (es := [ofZ 1, ofZ n]) (by (exact hS.os)) (by (exact hS.os)) (by (simp <;> omega)) (by (simp <;> omega)) (by assumption))) ?_
    refine Kj rfl (Rm rfl rfl) (Kj rfl (Re rfl rfl rfl) (Kj rfl (Re rfl rfl rfl) (Kj rfl (Ra rfl rfl) (Kj rfl (Ra rfl rfl) ?_))))
    refine WJ.nil ?_
    refine Nt (Cs (Kq rfl (Fa (q := 0) rfl rfl u35 rfl rfl) ?_))
    refine Kq rfl (ldp rfl rfl .tc u30 rfl (by kernel_rfl : _ = some 17) (by rfl) (by rfl)) ?_
    refine Kq rfl (Fa (q := 17) rfl rfl u35 rfl rfl) ?_
    refine Kq rfl (ldp rfl rfl .tc u33 rfl (by kernel_rfl : _ = some 8) (by rfl) (by rfl)) ?_
    refine Kq rfl (Fa (q := 25) rfl rfl u35 rfl rfl) (Kq rfl (Ld rfl rfl .tc u22) ?_)
    refine Km rfl ?_
    refine Kh rfl (Oc rfl rfl (keep_ff fun w hS => nstate_c (p := q.p) (k := q.k) (acc := q.acc) (x := (prodS q.k.g [q.w, q.k.h] [ofZ 1, ofZ n]).1) (by (exact hS.slo)) (by assumption) (by assumption) (by assumption) (by assumption) (by (exact tabd_st hD hS)))) ?_
    rintro s2
    refine WL.pu ?_
    intro hg88; (try dsimp only [List.cons_append, List.nil_append] at hg88 ⊢)
    refine Km rfl (Kq rfl (Re rfl rfl rfl) (Kq rfl (Re rfl rfl rfl) ?_))
    refine Kh rfl (Oz [.slice none 0 0, .slice none 0 0, .slice none 0 0] rfl) ?_
    intro b14
    refine Nu rfl rfl (Sa rfl rfl rfl .tc) ?_
    refine Ka rfl (Nt (Cs ?_))
    refine Kq rfl (Jb rfl rfl rfl u51 (by kernel_rfl : _ = some 2) ?_) ?_
    ·omega
    refine Kq rfl (ldp rfl rfl .tc u50 rfl (by kernel_rfl : _ = some 2) (by rfl) (by rfl)) ?_
    refine Kq rfl (lda rfl rfl .tc u50 rfl ?_) ?_
    ·kernel_rfl
    refine Ku rfl (Oc rfl rfl (Kv fun w hS => zmul_c (x := w0) (y := ofZ n))) ?_
    refine Km rfl (Kq rfl (Re rfl rfl rfl) (Kq rfl (Re rfl rfl rfl) ?_))
    refine Kh rfl (Oz [.bool false, .string (S [])] rfl) ?_
    intro b16
    refine Nu rfl rfl (Sa rfl rfl rfl .tc) ?_
    refine Ka rfl (Nt (Cs ?_))
    refine Kq rfl (Jb rfl rfl rfl u51 (by kernel_rfl : _ = some 2) ?_) ?_
    ·omega
    refine Kq rfl (ldp rfl rfl .tc u50 rfl (by kernel_rfl : _ = some 2) (by rfl) (by rfl)) ?_
    refine Kq rfl (lda rfl rfl .tc u50 rfl ?_) ?_
    ·kernel_rfl
    refine Ku rfl (Oc rfl rfl (Kv fun w hS => zadd_c (x := w1) (y := (mulZ w0 (ofZ n)).1))) ?_
    refine Km rfl (Kq rfl (Re rfl rfl rfl) (Kq rfl (Re rfl rfl rfl) ?_))
    refine Kh rfl (Oz [.bool false, .string (S [])] rfl) ?_
    intro b18
    refine Nu rfl rfl (Sa rfl rfl rfl .tc) ?_
    refine Ka rfl (Nt (Cq (Cs (Km rfl (Kq rfl (rd_neq rfl rfl rfl) (Nt ?_))))))
    refine Cd rfl (fun hc106 => ?_) (fun hc106 => ?_)
    ·(try simp only [sB] at hc106)
     refine Cs ?_
     refine Ku rfl (Oc rfl rfl (Kv fun w hS => awake38_c)) ?_
     refine Ka rfl (Nt (Ce (Xb ?_)))
     exact R1 rfl rfl (by rfl)
    ·(try simp only [sB] at hc106)
     have hr2 : r.2 = 0 := by simpa using hc106
     obtain ⟨a1, a2, a3, a4, a5, a6⟩ := nr_moves hn h1 (by rw [← show r = _ from hr]; exact hr2) (by omega) (by omega)
     rw [← show r = _ from hr] at a5 a6
     refine Ck (Xa (Cq ?_))
     refine WC.joinP (σ := Unit) [(4, _), (9, _), (14, _), (18, _)] (fun gq => [(121, .bool (decide (¬ ((prodS q.k.g [q.w, q.k.h] [ofZ 1, ofZ n]).2 = 0 ∧ (nrS q.p q.k q.acc (prodS q.k.g [q.w, q.k.h] [ofZ 1, ofZ n]).1).2 = 0 ∧ (mulZ w0 (ofZ n)).2 = 0 ∧ (addZ w1 (mulZ w0 (ofZ n)).1).2 = 0))))]) (fun gq => True) (S4 rfl rfl rfl rfl) ?_ ?_
     ·skip
      refine Cg (Km rfl (Kq rfl (rd_neq rfl rfl rfl) (Km rfl ?_)))
      refine Nb 110 rfl (fun hg110 => ?_) (fun hg110 => ?_)
      ·(try simp only [sB] at hg110)
       refine Kt rfl (Kt rfl (Kq rfl (Rp rfl rfl rfl) (Km rfl (Kt rfl (Kt rfl (Kq rfl (Rp rfl rfl rfl) (Km rfl (Kt rfl (Kt rfl (Kq rfl (Rp rfl rfl rfl) (Nn ?_)))))))))))
       refine WX.joinP (()) (S4 rfl rfl rfl rfl) (by refine (Sc ?_ (S0 _)) <;> ((exact congrArg (fun b => some (Value.bool b)) (by symm; apply decide_eq_true; omega)))) ?_ (by (exact fun _ h => h))
       (try dsimp only)
       done
      ·(try simp only [sB] at hg110)
       refine Km rfl (Kq rfl (rd_neq rfl rfl rfl) (Kq rfl (Rq rfl rfl rfl) (Km rfl ?_)))
       refine Nb 114 rfl (fun hg114 => ?_) (fun hg114 => ?_)
       ·(try simp only [sB] at hg114)
        refine Kt rfl (Kt rfl (Kq rfl (Rp rfl rfl rfl) (Km rfl (Kt rfl (Kt rfl (Kq rfl (Rp rfl rfl rfl) (Nn ?_)))))))
        refine WX.joinP (()) (S4 rfl rfl rfl rfl) (by refine (Sc ?_ (S0 _)) <;> ((exact congrArg (fun b => some (Value.bool b)) (by symm; apply decide_eq_true; omega)))) ?_ (by (exact fun _ h => h))
        (try dsimp only)
        done
       ·(try simp only [sB] at hg114)
        refine Km rfl (Kq rfl (rd_neq rfl rfl rfl) (Kq rfl (Rq rfl rfl rfl) (Km rfl ?_)))
        refine Nb 118 rfl (fun hg118 => ?_) (fun hg118 => ?_)
        ·(try simp only [sB] at hg118)
         refine Kt rfl (Kt rfl (Kq rfl (Rp rfl rfl rfl) (Nn ?_)))
         refine WX.joinP (()) (S4 rfl rfl rfl rfl) (by refine (Sc ?_ (S0 _)) <;> ((exact congrArg (fun b => some (Value.bool b)) (by symm; apply decide_eq_true; omega)))) ?_ (by (exact fun _ h => h))
         (try dsimp only)
         done
        ·(try simp only [sB] at hg118)
         refine Km rfl (Kq rfl (rd_neq rfl rfl rfl) (Kq rfl (Rq rfl rfl rfl) (Nn ?_)))
         refine WX.joinP (()) (S4 rfl rfl rfl rfl) (by refine (Sc ?_ (S0 _)) <;> ((refine slot_b rfl ?_; (try dsimp only); (simp [*]; done)))) ?_ (by (exact fun _ h => h))
         (try dsimp only)
         done
     ·rintro _ hmeet; (try dsimp only at hmeet ⊢)
      refine Cd rfl (fun hc121 => by exfalso; (try simp only [sB] at hc121); exact hc121 ⟨a1, a2, a3, a4⟩) (fun hc121 => ?_)
      (try simp only [sB] at hc121)
      refine Ck (Xa (Cs ?_))
      refine Kq rfl (lda rfl rfl .tc u42 rfl ?_) ?_
      ·kernel_rfl
      refine Kq rfl (Jb rfl rfl rfl u51 (by kernel_rfl : _ = some 2) ?_) ?_
      ·omega
      refine Kq rfl (ldp rfl rfl .tc u50 rfl (by kernel_rfl : _ = some 2) (by rfl) (by rfl)) ?_
      refine Kq rfl (lda rfl rfl .tc u50 rfl ?_) ?_
      ·kernel_rfl
      refine Kh rfl (og_bsN rfl rfl u54 (by kernel_rfl : _ = some (some (.agg #[.bool false, .string (S [])]), 2, 24)) (by kernel_rfl) (by decide) rfl rfl (by (simp [Value.cells]; done)) (by (simp only [List.map, Value.cells, List.flatMap_cons, List.flatMap_nil, List.append_nil, List.toList_toArray]; rfl)) (by decide)) ?_
      intro b127
      refine Kh rfl (Oc rfl rfl (keep_fr fun w hS => (by have := limg_c (w := w) (s := s2) (ws := [w0, (addZ w1 (mulZ w0 (ofZ n)).1).1]) (a := some ⟨b127, 0, none⟩) (c := 2) hS.sl hS.sl hS.sl hS.os hS.more (saL_nr hk8 hg88) (by simp); rw [hg88, a6] at this; exact this))) ?_
      rintro g128; refine WL.pu ?_; intro hg128; (try dsimp only [List.cons_append, List.nil_append] at hg128 ⊢)
      refine Km rfl (Kq rfl (Re rfl rfl rfl) (Kq rfl (Re rfl rfl rfl) (Ka rfl (Ka rfl (Nt (Cq ?_))))))
      refine Cf [0, 1, 2, 3, 4, 5, 6, 7, 8, 9, 10, 11, 12, 13, 14, 15, 16, 17, 18, 19, 20, 21, 22, 23, 24] [] [1, 0, 0, 0, 0, 0, 0, 0, 0, 0, 0, 0, 0, 0, 0, 0, 0, 0, 0, 0, 0, 0, 0, 0, 0] (by kernel_rfl) (by kernel_rfl) rfl ?_
      refine Jv rfl rfl rfl rfl rfl (fun ext => Oc rfl rfl (Kv fun w hS => awake38_c)) ?_
      refine Kj rfl (Rm rfl rfl) ?_
      refine WJ.set 132 rfl (v' := .bool true) (by rfl) ?_
      refine Kj rfl (Rm rfl rfl) (Kj rfl (rd_eql rfl rfl rfl) (Kj rfl (Rp rfl rfl rfl) (Kj rfl (Rm rfl rfl) ?_)))
      refine WJ.set 136 rfl (v' := .bool true) (by (exact congrArg Value.bool (by simp [*]; done))) ?_
      refine Kj rfl (Rm rfl rfl) (Kj rfl (rd_len rfl rfl u31) (Kj rfl (rd_eql rfl rfl rfl) (Kj rfl (Rp rfl rfl rfl) (Kj rfl (Rm rfl rfl) ?_))))
      refine WJ.set 141 rfl (v' := .bool true) (by (exact congrArg Value.bool (by simp [*]; done))) ?_
      refine Kj rfl (Rm rfl rfl) (Kj rfl (rd_len rfl rfl u31) (Kj rfl (rd_eql rfl rfl rfl) (Kj rfl (Rp rfl rfl rfl) (Kj rfl (Rm rfl rfl) ?_))))
      refine WJ.set 146 rfl (v' := .bool true) (by (exact congrArg Value.bool (by simp [*]; done))) ?_
      refine Kj rfl (Rm rfl rfl) ?_
      refine Kj rfl (Ib rfl rfl rfl u31 (by omega) (by (rw [List.length_map]; omega))) ?_
      refine Kj rfl (ldm rfl rfl u22 rfl (by omega)) ?_
      refine Kj rfl (Rm rfl rfl) ?_
      refine Kj rfl (Ib rfl rfl rfl u31 (by omega) (by (rw [List.length_map]; omega))) ?_
      refine Kj rfl (ldm rfl rfl u22 rfl (by omega)) ?_
      refine Kj rfl (rd_seq rfl rfl rfl) (Kj rfl (Rp rfl rfl rfl) (Kj rfl (Ra rfl rfl) ?_))
      refine WJ.nil ?_
      refine Nt (Ce ?_)
      exact R1 rfl rfl (by (simp [tup]; done))
theorem nmoves_i {q : NC} {w0 w1 : Zs} {z : Int} {a : Option Addr} {c : Nat} {w : World} {ok : Nat → Prop} (hF1 : (Fact.sl a (strs q.k.r)).holds ok w) (hl : q.k.r.length ≤ 140737488351232) (hz : (Lit.int .u8 z).wf = true) (hD : TabD w) :
  Cw 4 #[ncV q (.slice a q.k.r.length c), .agg #[.bool w0.1, .string (S w0.2), .bool w1.1, .string (S w1.2)], .int .u8 z] w (.bool true) :=
 by obtain ⟨h0, h1⟩ := wf_u8 hz; obtain ⟨n, rfl⟩ := Int.eq_ofNat_of_zero_le h0; exact nmoves_l hF1 hl (by omega) hD
end Go.Proofs.YthkmpjobfdeoaaaGreatDoor
