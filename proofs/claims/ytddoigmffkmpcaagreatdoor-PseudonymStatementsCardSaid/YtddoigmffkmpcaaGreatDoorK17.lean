/-
  Parts of the walk: Lsm Pwl Laid LaiE.
-/
import Derived.Test.YtddoigmffkmpcaaGreatDoorK16
import Derived.Lib.LaidTab
namespace Go.Proofs.YtddoigmffkmpcaaGreatDoor
open Go.RowKit
set_option linter.unusedSimpArgs false
set_option linter.unusedVariables false
set_option maxHeartbeats 600000
set_option maxRecDepth 20000
theorem ext_getD {α : Type} [Inhabited α] {x y : List α} (hl : x.length = y.length) {i : Nat} (hi : i < x.length) (ht : x.take i = y.take i) (he : x.getD i default = y.getD i default) : x.take (i + 1) = y.take (i + 1) := by
 rw [take_succ_getD hi, take_succ_getD (by omega), ht, he]
theorem ext_take {α : Type} {x y : List α} (hl : x.length = y.length) (ht : x.take x.length = y.take x.length) : x = y := by
 rw [List.take_length, hl, List.take_length] at ht; exact ht
theorem core_es {s t : SA} (h : s.core = t.core) : s.es.map (·.1) = t.es.map (·.1) := congrArg (·.2.2) h
theorem core_len {s t : SA} (h : s.core = t.core) : (s.gs.length : Int) = t.gs.length ∧ (s.vs.length : Int) = t.vs.length ∧ (s.es.length : Int) = t.es.length := by
 have h1 : s.gs = t.gs := congrArg (·.1) h
 have h2 : s.vs = t.vs := congrArg (·.2.1) h
 have h4 : s.es.length = t.es.length := by simpa using congrArg List.length (core_es h)
 exact ⟨by rw [h1], by rw [h2], by rw [h4]⟩
theorem core_q {s t : SA} (h : s.core = t.core) (k : Nat) : (s.es.getD k default).1 = (t.es.getD k default).1 := by
 rw [← qa_getD, ← qa_getD, core_es h]
instance : DecidableEq Tm := inferInstanceAs (DecidableEq (Bs × Int × Bool × Bs))
instance : DecidableEq Qn := inferInstanceAs (DecidableEq (Int × Bs × List Tm))
instance : DecidableEq Sm := inferInstanceAs (DecidableEq (List (Bs × Bs) × List Bs × List Qn))
theorem ssame_c {s t : SA} {w : World} {ok : Nat → Prop} (hF1 : (Fact.sl s.ga (gps s.gs)).holds ok w) (hF2 : (Fact.sl s.va (vrs s.vs)).holds ok w) (hF3 : (Fact.sl s.ea (qas s.es)).holds ok w) (hF4 : (Fact.sl t.ga (gps t.gs)).holds ok w) (hF5 : (Fact.sl t.va (vrs t.vs)).holds ok w) (hF6 : (Fact.sl t.ea (qas t.es)).holds ok w) (hM : ∀ f ∈ (s.es.map qaF ++ t.es.map qaF), f.holds ok w) (hs : saL s) (ht : saL t) :
  Cw 13 #[saV s, saV t] w (.bool (decide (s.core = t.core))) := by
 obtain ⟨hlg, hlv, hle, hlt, hlm⟩ := hs
 obtain ⟨hkg, hkv, hke, hkt, hkm⟩ := ht
 refine En (Fact.sl s.ga (gps s.gs) :: Fact.sl s.va (vrs s.vs) :: Fact.sl s.ea (qas s.es) :: Fact.sl t.ga (gps t.gs) :: Fact.sl t.va (vrs t.vs) :: Fact.sl t.ea (qas t.es) :: (s.es.map qaF ++ t.es.map qaF)) [(0, saV s), (1, saV t)] Tryz.func13 rfl Tryz.ntmps13 rfl (Ac rfl (Ac rfl (An _))) (Fc (fact_any hF1) (Fc (fact_any hF2) (Fc (fact_any hF3) (Fc (fact_any hF4) (Fc (fact_any hF5) (Fc (fact_any hF6) (facts_more hM))))))) ?_
 refine Cs ?_
 refine Kh rfl (Oy rfl rfl) ?_
 intro b2
 refine Kh rfl (Oy rfl rfl) ?_
 intro b3
 refine Ka rfl (Nt (Cq ?_))
 refine WC.joinP (σ := Unit) [(2, _), (3, _)] (fun gq => [(35, .bool (decide (¬ ((s.gs.length : Int) = t.gs.length ∧ (s.vs.length : Int) = t.vs.length ∧ (s.es.length : Int) = t.es.length))))]) (fun gq => True) (S2 rfl rfl) ?_ ?_
 ·skip
  refine Cg (Kq rfl (Fa (q := 0) rfl rfl u41 rfl rfl) (Kq rfl (Ld rfl rfl .tc u37) ?_))
  refine Kq rfl (rd_len rfl rfl u37) (Kq rfl (Fa (q := 0) rfl rfl u41 rfl rfl) (Kq rfl (Ld rfl rfl .tc u37) ?_))
  refine Kq rfl (rd_len rfl rfl u37) (Kq rfl (rd_neq rfl rfl rfl) (Km rfl ?_))
  refine Nb 18 rfl (fun hg18 => ?_) (fun hg18 => ?_)
  ·(try simp only [sB] at hg18)
   refine Kt rfl (Kt rfl (Kt rfl (Kt rfl (Kt rfl (Kt rfl (Kt rfl (Kq rfl (Rp rfl rfl rfl) (Km rfl (Kt rfl (Kt rfl (Kt rfl (Kt rfl (Kt rfl (Kt rfl (Kt rfl (Kq rfl (Rp rfl rfl rfl) (Nn ?_)))))))))))))))))
   refine WX.joinP (()) (S2 rfl rfl) (by refine (Sc ?_ (S0 _)) <;> ((refine slot_b rfl ?_; (try dsimp only); (simp [*]; done)))) ?_ (by (exact fun _ h => h))
   (try dsimp only)
   done
  ·(try simp only [sB] at hg18)
   refine Kq rfl (Fa (q := 1) rfl rfl u41 rfl rfl) (Kq rfl (Ld rfl rfl .tc u38) ?_)
   refine Kq rfl (rd_len rfl rfl u38) (Kq rfl (Fa (q := 1) rfl rfl u41 rfl rfl) (Kq rfl (Ld rfl rfl .tc u38) ?_))
   refine Kq rfl (rd_len rfl rfl u38) (Kq rfl (rd_neq rfl rfl rfl) (Kq rfl (Rq rfl rfl rfl) (Km rfl ?_)))
   refine Nb 27 rfl (fun hg27 => ?_) (fun hg27 => ?_)
   ·(try simp only [sB] at hg27)
    refine Kt rfl (Kt rfl (Kt rfl (Kt rfl (Kt rfl (Kt rfl (Kt rfl (Kq rfl (Rp rfl rfl rfl) (Nn ?_))))))))
    refine WX.joinP (()) (S2 rfl rfl) (by refine (Sc ?_ (S0 _)) <;> ((refine slot_b rfl ?_; (try dsimp only); (simp [*]; done)))) ?_ (by (exact fun _ h => h))
    (try dsimp only)
    done
   ·(try simp only [sB] at hg27)
    refine Kq rfl (Fa (q := 2) rfl rfl u41 rfl rfl) (Kq rfl (Ld rfl rfl .tc u39) ?_)
    refine Kq rfl (rd_len rfl rfl u39) (Kq rfl (Fa (q := 2) rfl rfl u41 rfl rfl) (Kq rfl (Ld rfl rfl .tc u39) ?_))
    refine Kq rfl (rd_len rfl rfl u39) (Kq rfl (rd_neq rfl rfl rfl) (Kq rfl (Rq rfl rfl rfl) (Nn ?_)))
    refine WX.joinP (()) (S2 rfl rfl) (by refine (Sc ?_ (S0 _)) <;> ((refine slot_b rfl ?_; (try dsimp only); (simp [*]; done)))) ?_ (by (exact fun _ h => h))
    (try dsimp only)
    done
 ·rintro _ hmeet; (try dsimp only at hmeet ⊢)
  refine Cd rfl (fun hc35 => ?_) (fun hc35 => ?_)
  ·(try simp only [sB] at hc35)
   refine Cs (Ka rfl (Nt (Ce (Xb ?_))))
   exact R1 rfl rfl (by rw [decide_eq_false (fun h => hc35 (core_len h))]; rfl)
  ·(try simp only [sB] at hc35)
   obtain ⟨hgl0, hvl0, hel0⟩ := Decidable.not_not.1 hc35
   have hgl : s.gs.length = t.gs.length := by omega
   have hvl : s.vs.length = t.vs.length := by omega
   have hel : s.es.length = t.es.length := by omega
   refine Ck (Xa (Cq (Cs (Ka rfl (Nt (Cb ?_))))))
   refine Lp (σ := Nat) [(2, _), (3, _)] (fun gq => [(5, .int .i64 (gq : Int))]) (fun gq => gq ≤ s.gs.length ∧ s.gs.take gq = t.gs.take gq) (fun gq => s.gs.length - gq) (0) (S2 rfl rfl) (S1 rfl) (by (try dsimp only); exact ⟨Nat.zero_le _, by simp⟩) ?_
   rintro i hinv1; (try dsimp only at hinv1 ⊢)
   obtain ⟨hi, hti⟩ := hinv1
   refine Cq (Cs (Km rfl (Kq rfl (Fa (q := 0) rfl rfl u41 rfl rfl) (Kq rfl (Ld rfl rfl .tc u37) ?_))))
   refine Kq rfl (rd_len rfl rfl u37) (Kq rfl (rd_lss rfl rfl rfl) (Nt ?_))
   refine Cd rfl (fun hc40 => ?_) (fun hc40 => ?_)
   ·(try simp only [sB] at hc40)
    have hil : i < s.gs.length := by omega
    have hil2 : i < t.gs.length := by omega
    refine Ck (Xa (Cq (Cb (Cq ?_))))
    refine Cf [0, 1, 2, 3, 4, 5, 6, 7, 8, 9, 10] [] [0, 0, 0, 0, 0, 0, 0, 0, 0, 0, 0] (by kernel_rfl) (by kernel_rfl) rfl ?_
    refine Kj rfl (Fa (q := 0) rfl rfl u41 rfl rfl) (Kj rfl (Ld rfl rfl .tc u37) ?_)
    refine Kj rfl (Rm rfl rfl) ?_
    refine Kj rfl (Ia rfl rfl rfl u37 (by kernel_rfl : _ = some 2) (by omega) (by (rw [flatMap_len _ _ 2 (fun _ => rfl)]; omega))) ?_
    refine Kj rfl (ldma _ rfl rfl u24 rfl (by kernel_rfl : _ = some 2) (fun _ => rfl) (by decide) rfl (by assumption)) ?_
    refine Kj rfl (Fa (q := 0) rfl rfl u41 rfl rfl) (Kj rfl (Ld rfl rfl .tc u37) ?_)
    refine Kj rfl (Rm rfl rfl) ?_
    refine Kj rfl (Ia rfl rfl rfl u37 (by kernel_rfl : _ = some 2) (by omega) (by (rw [flatMap_len _ _ 2 (fun _ => rfl)]; omega))) ?_
    refine Kj rfl (ldma _ rfl rfl u24 rfl (by kernel_rfl : _ = some 2) (fun _ => rfl) (by decide) rfl (by assumption)) ?_
    refine Kj rfl (rd_neA rfl rfl rfl (by kernel_rfl) (fun w => eql_api_Group _ _ _ _ w)) ?_
    refine WJ.nil ?_
    refine Nt ?_
    refine Cd rfl (fun hc53 => ?_) (fun hc53 => ?_)
    ·(try simp only [sB] at hc53)
     refine Cs (Ka rfl (Nt (Ce (Xf (Xb (Xb (Xf (Xb ?_))))))))
     exact R1 rfl rfl (by rw [decide_eq_false (fun h => by have h1 : s.gs = t.gs := congrArg (·.1) h; rw [h1] at hc53; simp at hc53)]; rfl)
    ·(try simp only [sB] at hc53)
     refine Ck (Xd (Xa (Cg (Km rfl (Kq rfl (Rz rfl rfl rfl (by omega)) (Ka rfl (Nn ?_)))))))
     refine Ly (i + 1) (by (try dsimp only); omega) (S2 rfl rfl) (by refine (Sc ?_ (S0 _)) <;> (rfl)) ?_ (by (exact fun _ h => h))
     (try dsimp only)
     exact ⟨hil, ext_getD hgl hil hti (Prod.ext_iff.2 (by simpa using hc53))⟩
   ·(try simp only [sB] at hc40)
    refine Cx (Xc (Xc (Xe ?_)))
    obtain rfl : i = s.gs.length := by omega
    have heg := ext_take hgl hti
    refine Xa (Cq (Cs (Ka rfl (Nt (Cb ?_)))))
    refine Lp (σ := Nat) [(2, _), (3, _)] (fun gq => [(6, .int .i64 (gq : Int))]) (fun gq => gq ≤ s.vs.length ∧ s.vs.take gq = t.vs.take gq) (fun gq => s.vs.length - gq) (0) (S2 rfl rfl) (S1 rfl) (by (try dsimp only); exact ⟨Nat.zero_le _, by simp⟩) ?_
    rintro j hinv2; (try dsimp only at hinv2 ⊢)
    obtain ⟨hj, htj⟩ := hinv2
    refine Cq (Cs (Km rfl (Kq rfl (Fa (q := 1) rfl rfl u41 rfl rfl) (Kq rfl (Ld rfl rfl .tc u38) ?_))))
    refine Kq rfl (rd_len rfl rfl u38) (Kq rfl (rd_lss rfl rfl rfl) (Nt ?_))
    refine Cd rfl (fun hc58 => ?_) (fun hc58 => ?_)
    ·(try simp only [sB] at hc58)
     have hjl : j < s.vs.length := by omega
     have hjl2 : j < t.vs.length := by omega
     refine Ck (Xa (Cq (Cb (Cq ?_))))
     refine Cf [0, 1, 2, 3, 4, 5, 6, 7, 8, 9, 10] [] [0, 0, 0, 0, 0, 0, 0, 0, 0, 0, 0] (by kernel_rfl) (by kernel_rfl) rfl ?_
     refine Kj rfl (Fa (q := 1) rfl rfl u41 rfl rfl) (Kj rfl (Ld rfl rfl .tc u38) ?_)
     refine Kj rfl (Rm rfl rfl) ?_
     refine Kj rfl (Ib rfl rfl rfl u38 (by omega) (by (rw [flatMap_len _ _ 1 (fun _ => rfl)]; omega))) ?_
     refine Kj rfl (ldma _ rfl rfl u74 rfl (by kernel_rfl : _ = some 1) (fun _ => rfl) (by decide) (Nat.mul_one _).symm (by assumption)) ?_
     refine Kj rfl (Fa (q := 1) rfl rfl u41 rfl rfl) (Kj rfl (Ld rfl rfl .tc u38) ?_)
     refine Kj rfl (Rm rfl rfl) ?_
     refine Kj rfl (Ib rfl rfl rfl u38 (by omega) (by (rw [flatMap_len _ _ 1 (fun _ => rfl)]; omega))) ?_
     refine Kj rfl (ldma _ rfl rfl u74 rfl (by kernel_rfl : _ = some 1) (fun _ => rfl) (by decide) (Nat.mul_one _).symm (by assumption)) ?_
     refine Kj rfl (rd_neA rfl rfl rfl (by kernel_rfl) (fun w => eql_api_Variable _ _ w)) ?_
     refine WJ.nil ?_
     refine Nt ?_
     refine Cd rfl (fun hc71 => ?_) (fun hc71 => ?_)
     ·(try simp only [sB] at hc71)
      refine Cs (Ka rfl (Nt (Ce (Xf (Xb (Xb (Xf (Xb ?_))))))))
      exact R1 rfl rfl (by rw [decide_eq_false (fun h => by have h1 : s.vs = t.vs := congrArg (·.2.1) h; rw [h1] at hc71; simp at hc71)]; rfl)
     ·(try simp only [sB] at hc71)
      refine Ck (Xd (Xa (Cg (Km rfl (Kq rfl (Rz rfl rfl rfl (by omega)) (Ka rfl (Nn ?_)))))))
      refine Ly (j + 1) (by (try dsimp only); omega) (S2 rfl rfl) (by refine (Sc ?_ (S0 _)) <;> (rfl)) ?_ (by (exact fun _ h => h))
      (try dsimp only)
      exact ⟨hjl, ext_getD hvl hjl htj (by simpa using hc71)⟩
    ·(try simp only [sB] at hc58)
     refine Cx (Xc (Xc (Xe ?_)))
     obtain rfl : j = s.vs.length := by omega
     have hev := ext_take hvl htj
     refine Xa (Cq (Cs (Ka rfl (Nt (Cb ?_)))))
     refine Lp (σ := Nat) [(2, _), (3, _)] (fun gq => [(7, .int .i64 (gq : Int))]) (fun gq => gq ≤ s.es.length ∧ (s.es.map (·.1)).take gq = (t.es.map (·.1)).take gq) (fun gq => s.es.length - gq) (0) (S2 rfl rfl) (S1 rfl) (by (try dsimp only); exact ⟨Nat.zero_le _, by simp⟩) ?_
     rintro k hinv3; (try dsimp only at hinv3 ⊢)
     obtain ⟨hk, htk⟩ := hinv3
     refine Cq (Cs (Km rfl (Kq rfl (Fa (q := 2) rfl rfl u41 rfl rfl) (Kq rfl (Ld rfl rfl .tc u39) ?_))))
     refine Kq rfl (rd_len rfl rfl u39) (Kq rfl (rd_lss rfl rfl rfl) (Nt ?_))
     refine Cd rfl (fun hc76 => ?_) (fun hc76 => ?_)
     ·(try simp only [sB] at hc76)
      have hkl : k < s.es.length := by omega
      have hkl2 : k < t.es.length := by omega
      have hm1 := getD_mem s.es k hkl
      have hm2 := getD_mem t.es k hkl2
      have hlt1 := hlt _ hm1
      have hlt2 := hkt _ hm2
      refine Ck (Xa (Cq (Cb (Cq ?_))))
      refine Cf [0, 1, 2, 3, 4, 10, 11, 12, 5, 6, 7, 8, 9, 13] [] [0, 0, 0, 0, 0, 0, 0, 0, 0, 0, 3, 3, 1, 1] (by kernel_rfl) (by kernel_rfl) rfl ?_
      refine Kj rfl (Fa (q := 2) rfl rfl u41 rfl rfl) (Kj rfl (Ld rfl rfl .tc u39) ?_)
      refine Kj rfl (Rm rfl rfl) ?_
      refine Kj rfl (Ia rfl rfl rfl u39 (by kernel_rfl : _ = some 3) (by omega) (by (rw [flatMap_len _ _ 3 (fun _ => rfl)]; omega))) ?_
      refine Kj rfl (ldma _ rfl rfl u77 rfl (by kernel_rfl : _ = some 3) (fun _ => rfl) (by decide) rfl (by assumption)) ?_
      refine Jf rfl rfl rfl rfl rfl (fr_alloc rfl (v := (.agg #[.int .i64 0, .string (S []), .slice none 0 0])) (cs := [.int .i64 0, .string (S []), .slice none 0 0]) (by kernel_rfl) rfl) ?_
      intro b8
      refine Jf rfl rfl rfl rfl rfl (fr_alloc rfl (v := (.agg #[.int .i64 0, .string (S []), .slice none 0 0])) (cs := [.int .i64 0, .string (S []), .slice none 0 0]) (by kernel_rfl) rfl) ?_
      intro b9
      refine WJ.st rfl rfl rfl rfl (staJ rfl rfl rfl ?_ ?_ ?_) ?_
      ·kernel_rfl
      ·simp [Value.oneCell']
      ·rfl
      refine Kj rfl (Fa (q := 2) rfl rfl u41 rfl rfl) (Kj rfl (Ld rfl rfl .tc u39) ?_)
      refine Kj rfl (Rm rfl rfl) ?_
      refine Kj rfl (Ia rfl rfl rfl u39 (by kernel_rfl : _ = some 3) (by omega) (by (rw [flatMap_len _ _ 3 (fun _ => rfl)]; omega))) ?_
      refine Kj rfl (ldma _ rfl rfl u77 rfl (by kernel_rfl : _ = some 3) (fun _ => rfl) (by decide) rfl (by assumption)) ?_
      refine WJ.st rfl rfl rfl rfl (staJ rfl rfl rfl ?_ ?_ ?_) ?_
      ·kernel_rfl
      ·simp [Value.oneCell']
      ·rfl
      refine WJ.nil ?_
      refine Nt (Cq ?_)
      refine WC.joinP (σ := Unit) [(2, _), (3, _), (7, _), (8, _), (9, _)] (fun gq => [(109, .bool (decide (¬ ((s.es.getD k default).1.1 = (t.es.getD k default).1.1 ∧ (s.es.getD k default).1.2.1 = (t.es.getD k default).1.2.1 ∧ ((s.es.getD k default).1.2.2.length : Int) = (t.es.getD k default).1.2.2.length))))]) (fun gq => True) (S5 rfl rfl rfl rfl rfl) ?_ ?_
      ·skip
       refine Cg (Kq rfl (Fa (q := 0) rfl rfl u77 rfl rfl) (Kq rfl (Ld rfl rfl .tc u3) ?_))
       refine Kq rfl (Fa (q := 0) rfl rfl u77 rfl rfl) (Kq rfl (Ld rfl rfl .tc u3) ?_)
       refine Kq rfl (rd_neq rfl rfl rfl) (Km rfl ?_)
       refine Nb 94 rfl (fun hg94 => ?_) (fun hg94 => ?_)
       ·(try simp only [sB] at hg94)
        refine Kt rfl (Kt rfl (Kt rfl (Kt rfl (Kt rfl (Kq rfl (Rp rfl rfl rfl) (Km rfl (Kt rfl (Kt rfl (Kt rfl (Kt rfl (Kt rfl (Kt rfl (Kt rfl (Kq rfl (Rp rfl rfl rfl) (Nn ?_)))))))))))))))
        refine WX.joinP (()) (S5 rfl rfl rfl rfl rfl) (by refine (Sc ?_ (S0 _)) <;> ((exact congrArg (fun b => some (Value.bool b)) (by symm; apply decide_eq_true; omega)))) ?_ (by (exact fun _ h => h))
        (try dsimp only)
        done
       ·(try simp only [sB] at hg94)
        refine Kq rfl (Fa (q := 1) rfl rfl u77 rfl rfl) (Kq rfl (Ld rfl rfl .tc u22) ?_)
        refine Kq rfl (Fa (q := 1) rfl rfl u77 rfl rfl) (Kq rfl (Ld rfl rfl .tc u22) ?_)
        refine Kq rfl (rd_sne rfl rfl rfl) (Kq rfl (Rq rfl rfl rfl) (Km rfl ?_))
        refine Nb 101 rfl (fun hg101 => ?_) (fun hg101 => ?_)
        ·(try simp only [sB] at hg101)
         refine Kt rfl (Kt rfl (Kt rfl (Kt rfl (Kt rfl (Kt rfl (Kt rfl (Kq rfl (Rp rfl rfl rfl) (Nn ?_))))))))
         refine WX.joinP (()) (S5 rfl rfl rfl rfl rfl) (by refine (Sc ?_ (S0 _)) <;> ((refine congrArg (fun b => some (Value.bool b)) ?_; simp [*, -List.getD_eq_getElem?_getD]; done))) ?_ (by (exact fun _ h => h))
         (try dsimp only)
         done
        ·(try simp only [sB] at hg101)
         refine Kq rfl (Fa (q := 2) rfl rfl u77 rfl rfl) (Kq rfl (Ld rfl rfl .tc u75) ?_)
         refine Kq rfl (rd_len rfl rfl u75) (Kq rfl (Fa (q := 2) rfl rfl u77 rfl rfl) (Kq rfl (Ld rfl rfl .tc u75) ?_))
         refine Kq rfl (rd_len rfl rfl u75) (Kq rfl (rd_neq rfl rfl rfl) (Kq rfl (Rq rfl rfl rfl) (Nn ?_)))
         refine WX.joinP (()) (S5 rfl rfl rfl rfl rfl) (by refine (Sc ?_ (S0 _)) <;> ((refine congrArg (fun b => some (Value.bool b)) ?_; simp [*, -List.getD_eq_getElem?_getD]; done))) ?_ (by (exact fun _ h => h))
         (try dsimp only)
         done
      ·rintro _ hmeet; (try dsimp only at hmeet ⊢)
       refine Cd rfl (fun hc109 => ?_) (fun hc109 => ?_)
       ·(try simp only [sB] at hc109)
        refine Cs (Ka rfl (Nt (Ce (Xb (Xf (Xb (Xb (Xf (Xb ?_)))))))))
        exact R1 rfl rfl (by rw [decide_eq_false (fun h => hc109 (by rw [core_q h]; exact ⟨rfl, rfl, rfl⟩))]; rfl)
       ·(try simp only [sB] at hc109)
        obtain ⟨hq1, hq2, hq30⟩ := Decidable.not_not.1 hc109
        have hq3 : (s.es.getD k default).1.2.2.length = (t.es.getD k default).1.2.2.length := by omega
        refine Ck (Xa (Cs ?_))
        refine WL.st (fun w h => st_addm (more := s.es.map qaF ++ t.es.map qaF) (f := qaF (t.es.getD k default)) (st_addm (more := s.es.map qaF ++ t.es.map qaF) (f := qaF (s.es.getD k default)) h (List.mem_append_left _ (List.mem_map_of_mem hm1))) (List.mem_append_right _ (List.mem_map_of_mem hm2))) ?_
        refine Ka rfl (Nt (Cb ?_))
        refine Lp (σ := Nat) [(2, _), (3, _), (7, _), (8, _), (9, _)] (fun gq => [(10, .int .i64 (gq : Int))]) (fun gq => gq ≤ (s.es.getD k default).1.2.2.length ∧ (s.es.getD k default).1.2.2.take gq = (t.es.getD k default).1.2.2.take gq) (fun gq => (s.es.getD k default).1.2.2.length - gq) (0) (S5 rfl rfl rfl rfl rfl) (S1 rfl) (by (try dsimp only); exact ⟨Nat.zero_le _, by simp⟩) ?_
        rintro m hinv4; (try dsimp only at hinv4 ⊢)
        obtain ⟨hm, htm⟩ := hinv4
        refine Cq (Cs (Km rfl (Kq rfl (Fa (q := 2) rfl rfl u77 rfl rfl) (Kq rfl (Ld rfl rfl .tc u75) ?_))))
        refine Kq rfl (rd_len rfl rfl u75) (Kq rfl (rd_lss rfl rfl rfl) (Nt ?_))
        refine Cd rfl (fun hc114 => ?_) (fun hc114 => ?_)
        ·(try simp only [sB] at hc114)
         have hml : m < (s.es.getD k default).1.2.2.length := by omega
         have hml2 : m < (t.es.getD k default).1.2.2.length := by omega
         refine Ck (Xa (Cq (Cb (Cq ?_))))
         refine Cf [0, 1, 2, 3, 4, 5, 6, 7, 8, 9, 10] [] [0, 0, 0, 0, 0, 0, 0, 0, 0, 0, 0] (by kernel_rfl) (by kernel_rfl) rfl ?_
         refine Kj rfl (Fa (q := 2) rfl rfl u77 rfl rfl) (Kj rfl (Ld rfl rfl .tc u75) ?_)
         refine Kj rfl (Rm rfl rfl) ?_
         refine Kj rfl (Ia rfl rfl rfl u75 (by kernel_rfl : _ = some 4) (by omega) (by (rw [flatMap_len _ _ 4 (fun _ => rfl)]; omega))) ?_
         refine Kj rfl (ldma _ rfl rfl u72 rfl (by kernel_rfl : _ = some 4) (fun _ => rfl) (by decide) rfl (by assumption)) ?_
         refine Kj rfl (Fa (q := 2) rfl rfl u77 rfl rfl) (Kj rfl (Ld rfl rfl .tc u75) ?_)
         refine Kj rfl (Rm rfl rfl) ?_
         refine Kj rfl (Ia rfl rfl rfl u75 (by kernel_rfl : _ = some 4) (by omega) (by (rw [flatMap_len _ _ 4 (fun _ => rfl)]; omega))) ?_
         refine Kj rfl (ldma _ rfl rfl u72 rfl (by kernel_rfl : _ = some 4) (fun _ => rfl) (by decide) rfl (by assumption)) ?_
         refine Kj rfl (rd_neA rfl rfl rfl (by kernel_rfl) (fun w => eql_api_Term _ _ _ _ _ _ _ _ w)) ?_
         refine WJ.nil ?_
         refine Nt ?_
         refine Cd rfl (fun hc127 => ?_) (fun hc127 => ?_)
         ·(try simp only [sB] at hc127)
          refine Cs (Ka rfl (Nt (Ce (Xf (Xb (Xb (Xf (Xf (Xb (Xb (Xf (Xb ?_))))))))))))
          exact R1 rfl rfl (by rw [decide_eq_false (fun h => by rw [core_q h] at hc127; simp at hc127)]; rfl)
         ·(try simp only [sB] at hc127)
          refine Ck (Xd (Xa (Cg (Km rfl (Kq rfl (Rz rfl rfl rfl (by omega)) (Ka rfl (Nn ?_)))))))
          refine Ly (m + 1) (by (try dsimp only); omega) (S5 rfl rfl rfl rfl rfl) (by refine (Sc ?_ (S0 _)) <;> (rfl)) ?_ (by (exact fun _ h => h))
          (try dsimp only)
          exact ⟨hml, ext_getD hq3 hml htm (by simpa [Prod.ext_iff] using hc127)⟩
        ·(try simp only [sB] at hc114)
         refine Cx (Xc (Xc (Xe ?_)))
         obtain rfl : m = (s.es.getD k default).1.2.2.length := by omega
         have het := ext_take hq3 htm
         refine Xd (Xa (Cg (Km rfl (Kq rfl (Rz rfl rfl rfl (by omega)) (Ka rfl (Nn ?_))))))
         refine Ly (k + 1) (by (try dsimp only); omega) (S2 rfl rfl) (by refine (Sc ?_ (S0 _)) <;> (rfl)) ?_ (by (exact st_sub))
         (try dsimp only)
         exact ⟨hkl, ext_getD (by simpa using hel) (by simpa using hkl) htk (by rw [qa_getD, qa_getD]; exact Prod.ext hq1 (Prod.ext hq2 het))⟩
     ·(try simp only [sB] at hc76)
      refine Cx (Xc (Xc (Xe ?_)))
      obtain rfl : k = s.es.length := by omega
      have hee : s.es.map (·.1) = t.es.map (·.1) := by
       have := htk; rw [List.take_of_length_le (by simp), List.take_of_length_le (by simp [hel])] at this; exact this
      refine Xa (Cs (Ka rfl (Nt (Ce ?_))))
      exact R1 rfl rfl (by rw [decide_eq_true (show s.core = t.core by simp only [SA.core, heg, hev, hee])]; rfl)
theorem saL_ps {s : SA} {k : PK} {sc n b : Bs} (hm8 : k.1.1.length ≤ 8) (h : s.core = (psS k sc n b).1) : saL s := by
 have hc : s.gs.length ≤ 100000 ∧ s.vs.length ≤ 100000 ∧ s.core.2.2.length ≤ 100000 ∧ (∀ q ∈ s.core.2.2, q.2.2.length ≤ 100000) ∧ ∀ g ∈ s.gs, g.1.length ≤ 8 := by
  have e1 : s.gs = (psS k sc n b).1.1 := congrArg (·.1) h
  have e2 : s.vs = (psS k sc n b).1.2.1 := congrArg (·.2.1) h
  rw [e1, e2, h, psS]; split
  ·exact ⟨Nat.zero_le _, Nat.zero_le _, Nat.zero_le _, by simp, by simp⟩
  ·exact ⟨by simp [psQ], by simp [psQ], by simp [psQ], by simp [psQ], by simpa [psQ] using hm8⟩
 exact ⟨hc.1, hc.2.1, by have := hc.2.2.1; simpa using this, forall_qa.1 hc.2.2.2.1, hc.2.2.2.2⟩
theorem infRp : ∀ {a b : List Fact} {x : Fact}, InF b x → InF (a ++ b) x
 | [], _, _, h => h
 | _ :: a, _, _, h => .there (infRp h)
instance (priority := low) SubL.appp {α : Type} (x y z : List α) [h : SubL x z] : SubL x (y ++ z) := ⟨h.h.trans (List.sublist_append_right _ _)⟩
instance (priority := low) hasF_appp {a b : List Fact} {x : Option Addr} {xs : List Value} [h : HasF b x xs] : HasF (a ++ b) x xs := ⟨infRp h.h⟩
theorem psbases_l {k : PK} {s : Bs} {w : World} (hT : Tab w) :
  Cw 3 #[pkV k, .string (S s)] w (.bool true) := by
 refine En [] [(0, pkV k), (1, .string (S s))] Tryz.func3 rfl Tryz.ntmps3 rfl (Ac rfl (Ac rfl (An _))) Fn ?_
 refine Cs ?_
 refine Kh rfl (Oy rfl rfl) ?_
 intro b2
 refine Ka rfl (Nt (Cq (Cs ?_)))
 refine Kq rfl (lda rfl rfl .tc u26 rfl ?_) ?_
 ·kernel_rfl
 refine Km rfl ?_
 refine Ku rfl (Oc rfl rfl (Kv fun w hS => small48n_c (k := k) (s := s))) ?_
 refine Kq rfl (Rt rfl rfl) (Nt ?_)
 refine Cd rfl (fun hc12 => ?_) (fun hc12 => ?_)
 ·(try simp only [sB] at hc12)
  refine Cs ?_
  refine Ku rfl (Oc rfl rfl (Kv fun w hS => awake48_c (by (exact tab_st hT hS)))) ?_
  refine Ka rfl (Nt (Ce (Xb ?_)))
  exact R1 rfl rfl (by rfl)
 ·(try simp only [sB] at hc12)
  have hsm : sml k s [] := by simpa using hc12
  obtain ⟨hm8, hs2⟩ := sml_b hsm
  refine Ck (Xa (Cs ?_))
  refine Kq rfl (lda rfl rfl .tc u26 rfl ?_) ?_
  ·kernel_rfl
  refine Km rfl ?_
  refine Ku rfl (Oc rfl rfl (Kv fun w hS => psBase_c (k := k) (s := s) (by exact hm8) (by omega) (by exact tab_st hT hS))) ?_
  refine Km rfl (Kq rfl (Re rfl rfl rfl) (Kq rfl (Re rfl rfl rfl) (Ka rfl (Ka rfl (Nt (Cs ?_))))))
  refine Kq rfl (lda rfl rfl .tc u26 rfl ?_) ?_
  ·kernel_rfl
  refine Km rfl ?_
  refine Ku rfl (Oc rfl rfl (Kv fun w hS => rpsbase_c (k := k) (s := s) (by exact hm8) (by omega))) ?_
  refine Km rfl (Kq rfl (Re rfl rfl rfl) (Kq rfl (Re rfl rfl rfl) (Ka rfl (Ka rfl (Nt (Cs (Km rfl (Km rfl (Kq rfl (rd_seq rfl rfl rfl) (Km rfl ?_))))))))))
  refine Ns 29 rfl (v' := .bool true) (by (exact congrArg Value.bool (by simp [*]; done))) ?_
  refine Km rfl (Km rfl (Kq rfl (rd_eql rfl rfl rfl) (Kq rfl (Rp rfl rfl rfl) (Km rfl ?_))))
  refine Ns 34 rfl (v' := .bool true) (by (exact congrArg Value.bool (by simp [*]; done))) ?_
  refine Ku rfl (Oc rfl rfl (Kv fun w hS => awake48_c (by (exact tab_st hT hS)))) ?_
  refine Kq rfl (Rp rfl rfl rfl) (Ka rfl (Nt (Ce ?_)))
  exact R1 rfl rfl (by rfl)
theorem psstates_l {k : PK} {s n b : Bs} {w : World} (hT : Tab w) :
  Cw 4 #[pkV k, .string (S s), .agg #[.string (S n), .string (S b)]] w (.bool true) := by
 refine En [] [(0, pkV k), (1, .string (S s)), (2, .agg #[.string (S n), .string (S b)])] Tryz.func4 rfl Tryz.ntmps4 rfl (Ac rfl (Ac rfl (Ac rfl (An _)))) Fn ?_
 refine Cs ?_
 refine Kh rfl (Oy rfl rfl) ?_
 intro b3
 refine Kh rfl (Oy rfl rfl) ?_
 intro b5
 refine Ka rfl (Nt (Cq (Cs ?_)))
 refine Kq rfl (lda rfl rfl .tc u26 rfl ?_) ?_
 ·kernel_rfl
 refine Km rfl (Kq rfl (Fa (q := 0) rfl rfl u36 rfl rfl) (Kq rfl (Ld rfl rfl .tc u22) ?_))
 refine Kq rfl (Fa (q := 1) rfl rfl u36 rfl rfl) (Kq rfl (Ld rfl rfl .tc u22) ?_)
 refine Kh rfl (og_bs1 rfl rfl u64 (by kernel_rfl : _ = some (some (.string (S [])), 1, 16)) rfl (by simp only [List.map]; rfl) rfl rfl ?_ (by decide)) ?_
 ·simp [Value.cells]
 intro b17
 refine Ku rfl (Oc rfl rfl (Kv fun w hS => small48_c (k := k) (s := s) (l := [n, b]) (by (exact hS.os)) (by simp) (by simp))) ?_
 refine Kq rfl (Rt rfl rfl) (Nt ?_)
 refine Cd rfl (fun hc19 => ?_) (fun hc19 => ?_)
 ·(try simp only [sB] at hc19)
  refine Cs ?_
  refine Ku rfl (Oc rfl rfl (Kv fun w hS => awake48_c (by (exact tab_st hT hS)))) ?_
  refine Ka rfl (Nt (Ce (Xb ?_)))
  exact R1 rfl rfl (by rfl)
 ·(try simp only [sB] at hc19)
  have hsm : sml k s [n, b] := by simpa using hc19
  obtain ⟨hm8, hs2⟩ := sml_b hsm
  refine Ck (Xa (Cs ?_))
  refine Kq rfl (lda rfl rfl .tc u26 rfl ?_) ?_
  ·kernel_rfl
  refine Km rfl (Kq rfl (Fa (q := 0) rfl rfl u36 rfl rfl) (Kq rfl (Ld rfl rfl .tc u22) ?_))
  refine Kq rfl (Fa (q := 1) rfl rfl u36 rfl rfl) (Kq rfl (Ld rfl rfl .tc u22) ?_)
  refine Kh rfl (Oc rfl rfl (keep_ff fun w hS => psstate_c (k := k) (s := s) (n := n) (b := b) (by exact hm8) (by omega) (by exact tab_st hT hS))) ?_
  rintro s1
  refine WL.pu ?_
  intro hg28; (try dsimp only [List.cons_append, List.nil_append] at hg28 ⊢)
  refine Km rfl (Kq rfl (Re rfl rfl rfl) (Kq rfl (Re rfl rfl rfl) ?_))
  refine Kh rfl (Oz [.slice none 0 0, .slice none 0 0, .slice none 0 0] rfl) ?_
  intro b7
  refine Nu rfl rfl (Sa rfl rfl rfl .tc) ?_
  refine Ka rfl (Nt (Cs ?_))
  refine Kq rfl (lda rfl rfl .tc u26 rfl ?_) ?_
  ·kernel_rfl
  refine Km rfl (Kq rfl (Fa (q := 0) rfl rfl u36 rfl rfl) (Kq rfl (Ld rfl rfl .tc u22) ?_))
  refine Kq rfl (Fa (q := 1) rfl rfl u36 rfl rfl) (Kq rfl (Ld rfl rfl .tc u22) ?_)
  refine Kh rfl (Oc rfl rfl (keep_ff fun w hS => rpsstate_c (k := k) (s := s) (n := n) (b := b) (by exact hm8) (by omega))) ?_
  rintro s2
  refine WL.pu ?_
  intro hg38; (try dsimp only [List.cons_append, List.nil_append] at hg38 ⊢)
  refine Km rfl (Kq rfl (Re rfl rfl rfl) (Kq rfl (Re rfl rfl rfl) ?_))
  refine Kh rfl (Oz [.slice none 0 0, .slice none 0 0, .slice none 0 0] rfl) ?_
  intro b9
  refine Nu rfl rfl (Sa rfl rfl rfl .tc) ?_
  refine Ka rfl (Nt (Cs ?_))
  refine Kq rfl (lda rfl rfl .tc u41 rfl ?_) ?_
  ·kernel_rfl
  refine Kq rfl (lda rfl rfl .tc u41 rfl ?_) ?_
  ·kernel_rfl
  refine Ku rfl (Oc rfl rfl (Kv fun w hS => (by have := ssame_c (s := s1) (t := s2) hS.sl hS.sl hS.sl hS.sl hS.sl hS.sl (fun f hf => (List.mem_append.1 hf).elim (hS.more f) (hS.more f)) (saL_ps hm8 hg28) (saL_ps hm8 hg38); rw [decide_eq_true (hg28.trans hg38.symm)] at this; exact this))) ?_
  refine Km rfl ?_
  refine Ns 44 rfl (v' := .bool true) (by rfl) ?_
  refine Km rfl (Km rfl (Kq rfl (rd_eql rfl rfl rfl) (Kq rfl (Rp rfl rfl rfl) (Km rfl ?_))))
  refine Ns 49 rfl (v' := .bool true) (by (exact congrArg Value.bool (by simp [*]; done))) ?_
  refine Ku rfl (Oc rfl rfl (Kv fun w hS => awake48_c (by (exact tab_st hT hS)))) ?_
  refine Kq rfl (Rp rfl rfl rfl) (Ka rfl (Nt (Ce ?_)))
  exact R1 rfl rfl (by rfl)
theorem laidVars_tail {P : Program} {w : World} {x : String × DataW Unit} {r : List (String × DataW Unit)} {ps : List MemPlace} (h : DataW.LaidVars P w (x :: r) ps) : ∃ q, DataW.LaidVars P w r q := by
 obtain ⟨n, d⟩ := x
 obtain ⟨g, t, cs, fuel, p, q, _, _, _, _, h, _⟩ := h
 exact ⟨q, h⟩
theorem tab_of_vars {P : Program} {W : World} {name : String} {k : IntKind} {zs : List Int} {rest : List (String × DataW Unit)} {ps : List MemPlace} {t e : TypeId} {n : Nat}
  (hty : ((P.globalNamed name).bind fun g => (P.globals[g]?).map (·.type)) = some t) (ht : P.underlying t = some (.array n e)) (he : P.underlying e = some (.int k)) (hce : P.cellsOf e = 1) (hct : P.cellsOf t = n)
  (h : DataW.LaidVars P W ((name, Lib.tabData k zs) :: rest) ps) : Lib.TabIs P W name k zs := by
 obtain ⟨g', t', cs, fuel, p, q, hg', ht', hvar, hd, _, _⟩ := h
 rw [hg', Option.bind_some] at hty
 obtain rfl := Option.some.inj (hty.symm.trans ht')
 unfold Lib.TabIs
 rw [hvar, ← Lib.cells_of_tab ht he hce hct hd]
end Go.Proofs.YtddoigmffkmpcaaGreatDoor
