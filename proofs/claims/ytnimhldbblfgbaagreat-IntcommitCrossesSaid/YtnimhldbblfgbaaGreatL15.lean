/-
  Parts of the walk: Lsm Sin Ila Ilb Open Opn Opz.
-/
import Derived.Test.YtnimhldbblfgbaaGreatL14
import Derived.ProofKit
import Derived.OpenShut
import Derived.SliceStrings
import Derived.Carry
import Derived.SizedLaws
namespace Go.Proofs.YtnimhldbblfgbaaGreat
set_option linter.unusedSimpArgs false
set_option linter.unusedVariables false
set_option maxRecDepth 20000
set_option maxHeartbeats 600000
open Go.RowKit
theorem ext_getD {α : Type} [Inhabited α] {x y : List α} (hl : x.length = y.length) {i : Nat} (hi : i < x.length) (ht : x.take i = y.take i) (he : x.getD i default = y.getD i default) : x.take (i + 1) = y.take (i + 1) := by
 rw [take_succ_getD hi, take_succ_getD (by omega), ht, he]
theorem ext_take {α : Type} {x y : List α} (hl : x.length = y.length) (ht : x.take x.length = y.take x.length) : x = y := by
 rw [List.take_length, hl, List.take_length] at ht; exact ht
theorem ne_getD {α : Type} [Inhabited α] {x y : List α} (i : Nat) (h : x.getD i default ≠ y.getD i default) : x ≠ y := fun e => h (by rw [e])
theorem core_es {s t : SA} (h : s.core = t.core) : s.es.map (·.1) = t.es.map (·.1) := congrArg (·.2.2) h
theorem core_len {s t : SA} (h : s.core = t.core) : (s.gs.length : Int) = t.gs.length ∧ (s.vs.length : Int) = t.vs.length ∧ (s.es.length : Int) = t.es.length := by
 have h1 : s.gs = t.gs := congrArg (·.1) h
 have h2 : s.vs = t.vs := congrArg (·.2.1) h
 have h4 : s.es.length = t.es.length := by simpa using congrArg List.length (core_es h)
 exact ⟨by rw [h1], by rw [h2], by rw [h4]⟩
theorem core_q {s t : SA} (h : s.core = t.core) (k : Nat) : (s.es.getD k default).1 = (t.es.getD k default).1 := by
 rw [← qa_getD, ← qa_getD, core_es h]
instance : DecidableEq Tm := inferInstanceAs (DecidableEq (Bs × Int × Bool × Bs))
instance : DecidableEq Qn := inferInstanceAs (DecidableEq (Int × Bs × List Tm))
instance : DecidableEq Sm := inferInstanceAs (DecidableEq (List (Bs × Bs) × List Bs × List Qn))
theorem ssame_c {s t : SA} {w : World} {ok : Nat → Prop} (hF1 : (Fact.sl s.ga (gps s.gs)).holds ok w) (hF2 : (Fact.sl s.va (vrs s.vs)).holds ok w) (hF3 : (Fact.sl s.ea (qas s.es)).holds ok w) (hF4 : (Fact.sl t.ga (gps t.gs)).holds ok w) (hF5 : (Fact.sl t.va (vrs t.vs)).holds ok w) (hF6 : (Fact.sl t.ea (qas t.es)).holds ok w) (hM : ∀ f ∈ (s.es.map qaF ++ t.es.map qaF), f.holds ok w) (hs : saL s) (ht : saL t) :
  Calls Tryz.prog 16 #[saV s, saV t] w fun e w' => e = .returned (.bool (decide (s.core = t.core))) ∧ Below w.heap.size w w' := by
 obtain ⟨hlg, hlv, hle, hlt, hlm⟩ := hs
 obtain ⟨hkg, hkv, hke, hkt, hkm⟩ := ht
 refine enter (S := St (fun _ => True) w [] (Fact.sl s.ga (gps s.gs) :: Fact.sl s.va (vrs s.vs) :: Fact.sl s.ea (qas s.es) :: Fact.sl t.ga (gps t.gs) :: Fact.sl t.va (vrs t.vs) :: Fact.sl t.ea (qas t.es) :: (s.es.map qaF ++ t.es.map qaF))) (L := [(0, saV s), (1, saV t)]) Tryz.func16 rfl Tryz.ntmps16 rfl (args_cons rfl (args_cons rfl (args_nil _))) (St.start (fun _ _ => trivial) (facts_cons (fact_any hF1) (facts_cons (fact_any hF2) (facts_cons (fact_any hF3) (facts_cons (fact_any hF4) (facts_cons (fact_any hF5) (facts_cons (fact_any hF6) (facts_more hM)))))))) ?_
 refine WC.sr ?_
 refine Kh rfl (og_box rfl rfl (by (exact cells_agg _))) ?_
 intro b2
 refine Kh rfl (og_box rfl rfl (by (exact cells_agg _))) ?_
 intro b3
 refine Ka rfl (WL.nt (WC.seq ?_))
 refine WC.joinP (σ := Unit) [(2, _), (3, _)] (fun gq => [(35, .bool (decide (¬ ((s.gs.length : Int) = t.gs.length ∧ (s.vs.length : Int) = t.vs.length ∧ (s.es.length : Int) = t.es.length))))]) (fun gq => True) (sub_cons rfl (sub_cons rfl (sub_nil _))) ?_ ?_
 ·skip
  refine WC.region ?_
  refine Kq rfl (rd_fa (q := 0) rfl rfl Tryz.underlying35 rfl (by kernel_rfl) rfl) ?_
  refine Kq rfl (ld rfl rfl .tc Tryz.underlying31 rfl (by rfl)) ?_
  refine Kq rfl (rd_len rfl rfl Tryz.underlying31) ?_
  refine Kq rfl (rd_fa (q := 0) rfl rfl Tryz.underlying35 rfl (by kernel_rfl) rfl) ?_
  refine Kq rfl (ld rfl rfl .tc Tryz.underlying31 rfl (by rfl)) ?_
  refine Kq rfl (rd_len rfl rfl Tryz.underlying31) (Kq rfl (rd_neq rfl rfl rfl) (Km rfl ?_))
  refine WL.bool 18 rfl (fun hg18 => ?_) (fun hg18 => ?_)
  ·(try simp only [sB] at hg18)
   refine Kt rfl (Kt rfl (Kt rfl (Kt rfl (Kt rfl (Kt rfl (Kt rfl (Kq rfl (rd_pickt rfl rfl rfl) (Km rfl (Kt rfl (Kt rfl (Kt rfl ?_)))))))))))
   refine Kt rfl (Kt rfl (Kt rfl (Kt rfl (Kq rfl (rd_pickt rfl rfl rfl) (WL.nil ?_)))))
   refine WX.joinP (()) (sub_cons rfl (sub_cons rfl (sub_nil _))) (by refine (sub_cons ?_ (sub_nil _)) <;> ((refine slot_b rfl ?_; (try dsimp only); (simp [*]; done)))) ?_ (by (exact fun _ h => h))
   (try dsimp only)
   done
  ·(try simp only [sB] at hg18)
   refine Kq rfl (rd_fa (q := 1) rfl rfl Tryz.underlying35 rfl (by kernel_rfl) rfl) ?_
   refine Kq rfl (ld rfl rfl .tc Tryz.underlying32 rfl (by rfl)) ?_
   refine Kq rfl (rd_len rfl rfl Tryz.underlying32) ?_
   refine Kq rfl (rd_fa (q := 1) rfl rfl Tryz.underlying35 rfl (by kernel_rfl) rfl) ?_
   refine Kq rfl (ld rfl rfl .tc Tryz.underlying32 rfl (by rfl)) ?_
   refine Kq rfl (rd_len rfl rfl Tryz.underlying32) (Kq rfl (rd_neq rfl rfl rfl) (Kq rfl (rd_pickf rfl rfl rfl) (Km rfl ?_)))
   refine WL.bool 27 rfl (fun hg27 => ?_) (fun hg27 => ?_)
   ·(try simp only [sB] at hg27)
    refine Kt rfl (Kt rfl (Kt rfl (Kt rfl (Kt rfl (Kt rfl (Kt rfl (Kq rfl (rd_pickt rfl rfl rfl) (WL.nil ?_))))))))
    refine WX.joinP (()) (sub_cons rfl (sub_cons rfl (sub_nil _))) (by refine (sub_cons ?_ (sub_nil _)) <;> ((refine slot_b rfl ?_; (try dsimp only); (simp [*]; done)))) ?_ (by (exact fun _ h => h))
    (try dsimp only)
    done
   ·(try simp only [sB] at hg27)
    refine Kq rfl (rd_fa (q := 2) rfl rfl Tryz.underlying35 rfl (by kernel_rfl) rfl) ?_
    refine Kq rfl (ld rfl rfl .tc Tryz.underlying33 rfl (by rfl)) ?_
    refine Kq rfl (rd_len rfl rfl Tryz.underlying33) ?_
    refine Kq rfl (rd_fa (q := 2) rfl rfl Tryz.underlying35 rfl (by kernel_rfl) rfl) ?_
    refine Kq rfl (ld rfl rfl .tc Tryz.underlying33 rfl (by rfl)) ?_
    refine Kq rfl (rd_len rfl rfl Tryz.underlying33) (Kq rfl (rd_neq rfl rfl rfl) (Kq rfl (rd_pickf rfl rfl rfl) (WL.nil ?_)))
    refine WX.joinP (()) (sub_cons rfl (sub_cons rfl (sub_nil _))) (by refine (sub_cons ?_ (sub_nil _)) <;> ((refine slot_b rfl ?_; (try dsimp only); (simp [*]; done)))) ?_ (by (exact fun _ h => h))
    (try dsimp only)
    done
 ·rintro _ hmeet; (try dsimp only at hmeet ⊢)
  refine WC.cond rfl (fun hc35 => ?_) (fun hc35 => ?_)
  ·(try simp only [sB] at hc35)
   refine WC.sr (Ka rfl (WL.nt (WC.ret (WX.then_ret ?_))))
   exact WX.retN rfl (.tmp rfl .nil) fun w' hS => ⟨by rw [decide_eq_false (fun h => hc35 (core_len h))]; rfl, hS.below⟩
  ·(try simp only [sB] at hc35)
   obtain ⟨hgl0, hvl0, hel0⟩ := Decidable.not_not.1 hc35
   have hgl : s.gs.length = t.gs.length := by omega
   have hvl : s.vs.length = t.vs.length := by omega
   have hel : s.es.length = t.es.length := by omega
   refine WC.skip (WX.then_normal (WC.seq (WC.sr (Ka rfl (WL.nt (WC.block ?_))))))
   refine WC.loopP (σ := Nat) [(2, _), (3, _)] (fun gq => [(5, .int .i64 (gq : Int))]) (fun gq => gq ≤ s.gs.length ∧ s.gs.take gq = t.gs.take gq) (fun gq => s.gs.length - gq) (0) (sub_cons rfl (sub_cons rfl (sub_nil _))) (sub_cons rfl (sub_nil _)) (by (try dsimp only); exact ⟨Nat.zero_le _, by simp⟩) ?_
   rintro i hinv1; (try dsimp only at hinv1 ⊢)
   obtain ⟨hi, hti⟩ := hinv1
   refine WC.seq (WC.sr (Km rfl ?_))
   refine Kq rfl (rd_fa (q := 0) rfl rfl Tryz.underlying35 rfl (by kernel_rfl) rfl) ?_
   refine Kq rfl (ld rfl rfl .tc Tryz.underlying31 rfl (by rfl)) ?_
   refine Kq rfl (rd_len rfl rfl Tryz.underlying31) (Kq rfl (rd_lss rfl rfl rfl) (WL.nt ?_))
   refine WC.cond rfl (fun hc40 => ?_) (fun hc40 => ?_)
   ·(try simp only [sB] at hc40)
    have hil : i < s.gs.length := by omega
    have hil2 : i < t.gs.length := by omega
    refine WC.skip (WX.then_normal (WC.seq (WC.block (WC.seq ?_))))
    refine WC.free0 [0, 1, 2, 3, 4, 5, 6, 7, 8, 9, 10] [] [0, 0, 0, 0, 0, 0, 0, 0, 0, 0, 0] (by kernel_rfl) (by kernel_rfl) rfl ?_
    refine Kj rfl (rd_fa (q := 0) rfl rfl Tryz.underlying35 rfl (by kernel_rfl) rfl) ?_
    refine Kj rfl (ld rfl rfl .tc Tryz.underlying31 rfl (by rfl)) ?_
    refine Kj rfl (rd_move rfl rfl) ?_
    (refine Kj rfl (iaf rfl rfl rfl Tryz.underlying31 (by kernel_rfl : _ = some 2) ?_ ?_ (by (try simp only [sN, Int.reduceToNat, Nat.reduceAdd, Nat.reduceMul, Nat.reduceSub]); rfl)) ?_; (focus (omega)); (focus ((rw [flatMap_len _ _ 2 (fun _ => rfl)]; omega))))
    (refine Kj rfl (ldma _ rfl rfl Tryz.underlying24 rfl (by kernel_rfl : _ = some 2) (fun _ => rfl) (by decide) rfl ?_) ?_; (focus (assumption)))
    refine Kj rfl (rd_fa (q := 0) rfl rfl Tryz.underlying35 rfl (by kernel_rfl) rfl) ?_
    refine Kj rfl (ld rfl rfl .tc Tryz.underlying31 rfl (by rfl)) ?_
    refine Kj rfl (rd_move rfl rfl) ?_
    (refine Kj rfl (iaf rfl rfl rfl Tryz.underlying31 (by kernel_rfl : _ = some 2) ?_ ?_ (by (try simp only [sN, Int.reduceToNat, Nat.reduceAdd, Nat.reduceMul, Nat.reduceSub]); rfl)) ?_; (focus (omega)); (focus ((rw [flatMap_len _ _ 2 (fun _ => rfl)]; omega))))
    (refine Kj rfl (ldma _ rfl rfl Tryz.underlying24 rfl (by kernel_rfl : _ = some 2) (fun _ => rfl) (by decide) rfl ?_) ?_; (focus (assumption)))
    refine Kj rfl (rd_neA rfl rfl rfl (by kernel_rfl) (fun w => eql_api_Group _ _ _ _ w)) ?_
    refine WJ.nil ?_
    refine WL.nt ?_
    refine WC.cond rfl (fun hc53 => ?_) (fun hc53 => ?_)
    ·(try simp only [sB] at hc53)
     refine WC.sr (Ka rfl (WL.nt (WC.ret (WX.block_ret (WX.then_ret (WX.then_ret (WX.block_ret (WX.then_ret ?_))))))))
     exact WX.retN rfl (.tmp rfl .nil) fun w' hS => ⟨by rw [decide_eq_false (fun h => by have h1 : s.gs = t.gs := congrArg (·.1) h; rw [h1] at hc53; simp at hc53)]; rfl, hS.below⟩
    ·(try simp only [sB] at hc53)
     refine WC.skip (WX.block_normal (WX.then_normal (WC.region (Km rfl ?_))))
     (refine Kq rfl (rd_add64nl rfl rfl rfl ?_) ?_; (focus (omega)))
     refine Ka rfl (WL.nil ?_)
     refine WX.loopP (i + 1) (by (try dsimp only); omega) (sub_cons rfl (sub_cons rfl (sub_nil _))) (by refine (sub_cons ?_ (sub_nil _)) <;> (rfl)) ?_ (by (exact fun _ h => h))
     (try dsimp only)
     exact ⟨hil, ext_getD hgl hil hti (Prod.ext_iff.2 (by simpa using hc53))⟩
   ·(try simp only [sB] at hc40)
    refine WC.exit (WX.then_exit (WX.then_exit (WX.block_exit ?_)))
    obtain rfl : i = s.gs.length := by omega
    have heg := ext_take hgl hti
    refine WX.then_normal (WC.seq (WC.sr (Ka rfl (WL.nt (WC.block ?_)))))
    refine WC.loopP (σ := Nat) [(2, _), (3, _)] (fun gq => [(6, .int .i64 (gq : Int))]) (fun gq => gq ≤ s.vs.length ∧ s.vs.take gq = t.vs.take gq) (fun gq => s.vs.length - gq) (0) (sub_cons rfl (sub_cons rfl (sub_nil _))) (sub_cons rfl (sub_nil _)) (by (try dsimp only); exact ⟨Nat.zero_le _, by simp⟩) ?_
    rintro j hinv2; (try dsimp only at hinv2 ⊢)
    obtain ⟨hj, htj⟩ := hinv2
    refine WC.seq (WC.sr (Km rfl ?_))
    refine Kq rfl (rd_fa (q := 1) rfl rfl Tryz.underlying35 rfl (by kernel_rfl) rfl) ?_
    refine Kq rfl (ld rfl rfl .tc Tryz.underlying32 rfl (by rfl)) ?_
    refine Kq rfl (rd_len rfl rfl Tryz.underlying32) (Kq rfl (rd_lss rfl rfl rfl) (WL.nt ?_))
    refine WC.cond rfl (fun hc58 => ?_) (fun hc58 => ?_)
    ·(try simp only [sB] at hc58)
     have hjl : j < s.vs.length := by omega
     have hjl2 : j < t.vs.length := by omega
     refine WC.skip (WX.then_normal (WC.seq (WC.block (WC.seq ?_))))
     refine WC.free0 [0, 1, 2, 3, 4, 5, 6, 7, 8, 9, 10] [] [0, 0, 0, 0, 0, 0, 0, 0, 0, 0, 0] (by kernel_rfl) (by kernel_rfl) rfl ?_
     refine Kj rfl (rd_fa (q := 1) rfl rfl Tryz.underlying35 rfl (by kernel_rfl) rfl) ?_
     refine Kj rfl (ld rfl rfl .tc Tryz.underlying32 rfl (by rfl)) ?_
     refine Kj rfl (rd_move rfl rfl) ?_
     (refine Kj rfl (iaf rfl rfl rfl Tryz.underlying32 (by kernel_rfl : _ = some 1) ?_ ?_ (by (try simp only [sN, Int.reduceToNat, Nat.reduceAdd, Nat.reduceMul, Nat.reduceSub]); rfl)) ?_; (focus (omega)); (focus ((rw [flatMap_len _ _ 1 (fun _ => rfl)]; omega))))
     (refine Kj rfl (ldma _ rfl rfl Tryz.underlying91 rfl (by kernel_rfl : _ = some 1) (fun _ => rfl) (by decide) (Nat.mul_one _).symm ?_) ?_; (focus (assumption)))
     refine Kj rfl (rd_fa (q := 1) rfl rfl Tryz.underlying35 rfl (by kernel_rfl) rfl) ?_
     refine Kj rfl (ld rfl rfl .tc Tryz.underlying32 rfl (by rfl)) ?_
     refine Kj rfl (rd_move rfl rfl) ?_
     (refine Kj rfl (iaf rfl rfl rfl Tryz.underlying32 (by kernel_rfl : _ = some 1) ?_ ?_ (by (try simp only [sN, Int.reduceToNat, Nat.reduceAdd, Nat.reduceMul, Nat.reduceSub]); rfl)) ?_; (focus (omega)); (focus ((rw [flatMap_len _ _ 1 (fun _ => rfl)]; omega))))
     (refine Kj rfl (ldma _ rfl rfl Tryz.underlying91 rfl (by kernel_rfl : _ = some 1) (fun _ => rfl) (by decide) (Nat.mul_one _).symm ?_) ?_; (focus (assumption)))
     refine Kj rfl (rd_neA rfl rfl rfl (by kernel_rfl) (fun w => eql_api_Variable _ _ w)) ?_
     refine WJ.nil ?_
     refine WL.nt ?_
     refine WC.cond rfl (fun hc71 => ?_) (fun hc71 => ?_)
     ·(try simp only [sB] at hc71)
      refine WC.sr (Ka rfl (WL.nt (WC.ret (WX.block_ret (WX.then_ret (WX.then_ret (WX.block_ret (WX.then_ret ?_))))))))
      exact WX.retN rfl (.tmp rfl .nil) fun w' hS => ⟨by rw [decide_eq_false (fun h => by have h1 : s.vs = t.vs := congrArg (·.2.1) h; rw [h1] at hc71; simp at hc71)]; rfl, hS.below⟩
     ·(try simp only [sB] at hc71)
      refine WC.skip (WX.block_normal (WX.then_normal (WC.region (Km rfl ?_))))
      (refine Kq rfl (rd_add64nl rfl rfl rfl ?_) ?_; (focus (omega)))
      refine Ka rfl (WL.nil ?_)
      refine WX.loopP (j + 1) (by (try dsimp only); omega) (sub_cons rfl (sub_cons rfl (sub_nil _))) (by refine (sub_cons ?_ (sub_nil _)) <;> (rfl)) ?_ (by (exact fun _ h => h))
      (try dsimp only)
      exact ⟨hjl, ext_getD hvl hjl htj (by simpa using hc71)⟩
    ·(try simp only [sB] at hc58)
     refine WC.exit (WX.then_exit (WX.then_exit (WX.block_exit ?_)))
     obtain rfl : j = s.vs.length := by omega
     have hev := ext_take hvl htj
     refine WX.then_normal (WC.seq (WC.sr (Ka rfl (WL.nt (WC.block ?_)))))
     refine WC.loopP (σ := Nat) [(2, _), (3, _)] (fun gq => [(7, .int .i64 (gq : Int))]) (fun gq => gq ≤ s.es.length ∧ (s.es.map (·.1)).take gq = (t.es.map (·.1)).take gq) (fun gq => s.es.length - gq) (0) (sub_cons rfl (sub_cons rfl (sub_nil _))) (sub_cons rfl (sub_nil _)) (by (try dsimp only); exact ⟨Nat.zero_le _, by simp⟩) ?_
     rintro k hinv3; (try dsimp only at hinv3 ⊢)
     obtain ⟨hk, htk⟩ := hinv3
     refine WC.seq (WC.sr (Km rfl ?_))
     refine Kq rfl (rd_fa (q := 2) rfl rfl Tryz.underlying35 rfl (by kernel_rfl) rfl) ?_
     refine Kq rfl (ld rfl rfl .tc Tryz.underlying33 rfl (by rfl)) ?_
     refine Kq rfl (rd_len rfl rfl Tryz.underlying33) (Kq rfl (rd_lss rfl rfl rfl) (WL.nt ?_))
     refine WC.cond rfl (fun hc76 => ?_) (fun hc76 => ?_)
     ·(try simp only [sB] at hc76)
      have hkl : k < s.es.length := by omega
      have hkl2 : k < t.es.length := by omega
      have hm1 := getD_mem s.es k hkl
      have hm2 := getD_mem t.es k hkl2
      have hlt1 := hlt _ hm1
      have hlt2 := hkt _ hm2
      refine WC.skip (WX.then_normal (WC.seq (WC.block (WC.seq ?_))))
      refine WC.free0 [0, 1, 2, 3, 4, 10, 11, 12, 5, 6, 7, 8, 9, 13] [] [0, 0, 0, 0, 0, 0, 0, 0, 0, 0, 3, 3, 1, 1] (by kernel_rfl) (by kernel_rfl) rfl ?_
      refine Kj rfl (rd_fa (q := 2) rfl rfl Tryz.underlying35 rfl (by kernel_rfl) rfl) ?_
      refine Kj rfl (ld rfl rfl .tc Tryz.underlying33 rfl (by rfl)) ?_
      refine Kj rfl (rd_move rfl rfl) ?_
      (refine Kj rfl (iaf rfl rfl rfl Tryz.underlying33 (by kernel_rfl : _ = some 3) ?_ ?_ (by (try simp only [sN, Int.reduceToNat, Nat.reduceAdd, Nat.reduceMul, Nat.reduceSub]); rfl)) ?_; (focus (omega)); (focus ((rw [flatMap_len _ _ 3 (fun _ => rfl)]; omega))))
      (refine Kj rfl (ldma _ rfl rfl Tryz.underlying102 rfl (by kernel_rfl : _ = some 3) (fun _ => rfl) (by decide) rfl ?_) ?_; (focus (assumption)))
      refine WJ.f rfl rfl rfl rfl rfl (fr_alloc rfl (v := (.agg #[.int .i64 0, .string (S []), .slice none 0 0])) (cs := [.int .i64 0, .string (S []), .slice none 0 0]) (by kernel_rfl) rfl) ?_
      intro b8
      refine WJ.f rfl rfl rfl rfl rfl (fr_alloc rfl (v := (.agg #[.int .i64 0, .string (S []), .slice none 0 0])) (cs := [.int .i64 0, .string (S []), .slice none 0 0]) (by kernel_rfl) rfl) ?_
      intro b9
      refine WJ.st rfl rfl rfl rfl (staJ rfl rfl rfl ?_ ?_ ?_) ?_
      ·kernel_rfl
      ·simp [Value.oneCell']
      ·rfl
      refine Kj rfl (rd_fa (q := 2) rfl rfl Tryz.underlying35 rfl (by kernel_rfl) rfl) ?_
      refine Kj rfl (ld rfl rfl .tc Tryz.underlying33 rfl (by rfl)) ?_
      refine Kj rfl (rd_move rfl rfl) ?_
      (refine Kj rfl (iaf rfl rfl rfl Tryz.underlying33 (by kernel_rfl : _ = some 3) ?_ ?_ (by (try simp only [sN, Int.reduceToNat, Nat.reduceAdd, Nat.reduceMul, Nat.reduceSub]); rfl)) ?_; (focus (omega)); (focus ((rw [flatMap_len _ _ 3 (fun _ => rfl)]; omega))))
      (refine Kj rfl (ldma _ rfl rfl Tryz.underlying102 rfl (by kernel_rfl : _ = some 3) (fun _ => rfl) (by decide) rfl ?_) ?_; (focus (assumption)))
      refine WJ.st rfl rfl rfl rfl (staJ rfl rfl rfl ?_ ?_ ?_) ?_
      ·kernel_rfl
      ·simp [Value.oneCell']
      ·rfl
      refine WJ.nil ?_
      refine WL.nt (WC.seq ?_)
      refine WC.joinP (σ := Unit) [(2, _), (3, _), (7, _), (8, _), (9, _)] (fun gq => [(109, .bool (decide (¬ ((s.es.getD k default).1.1 = (t.es.getD k default).1.1 ∧ (s.es.getD k default).1.2.1 = (t.es.getD k default).1.2.1 ∧ ((s.es.getD k default).1.2.2.length : Int) = (t.es.getD k default).1.2.2.length))))]) (fun gq => True) (sub_cons rfl (sub_cons rfl (sub_cons rfl (sub_cons rfl (sub_cons rfl (sub_nil _)))))) ?_ ?_
      ·skip
       refine WC.region ?_
       refine Kq rfl (rd_fa (q := 0) rfl rfl Tryz.underlying102 rfl (by kernel_rfl) rfl) ?_
       refine Kq rfl (ld rfl rfl .tc Tryz.underlying3 rfl (by rfl)) ?_
       refine Kq rfl (rd_fa (q := 0) rfl rfl Tryz.underlying102 rfl (by kernel_rfl) rfl) ?_
       refine Kq rfl (ld rfl rfl .tc Tryz.underlying3 rfl (by rfl)) ?_
       refine Kq rfl (rd_neq rfl rfl rfl) (Km rfl ?_)
       refine WL.bool 94 rfl (fun hg94 => ?_) (fun hg94 => ?_)
       ·(try simp only [sB] at hg94)
        refine Kt rfl (Kt rfl (Kt rfl (Kt rfl (Kt rfl (Kq rfl (rd_pickt rfl rfl rfl) (Km rfl (Kt rfl (Kt rfl (Kt rfl (Kt rfl (Kt rfl ?_)))))))))))
        refine Kt rfl (Kt rfl (Kq rfl (rd_pickt rfl rfl rfl) (WL.nil ?_)))
        refine WX.joinP (()) (sub_cons rfl (sub_cons rfl (sub_cons rfl (sub_cons rfl (sub_cons rfl (sub_nil _)))))) (by refine (sub_cons ?_ (sub_nil _)) <;> ((exact congrArg (fun b => some (Value.bool b)) (by symm; apply decide_eq_true; omega)))) ?_ (by (exact fun _ h => h))
        (try dsimp only)
        done
       ·(try simp only [sB] at hg94)
        refine Kq rfl (rd_fa (q := 1) rfl rfl Tryz.underlying102 rfl (by kernel_rfl) rfl) ?_
        refine Kq rfl (ld rfl rfl .tc Tryz.underlying22 rfl (by rfl)) ?_
        refine Kq rfl (rd_fa (q := 1) rfl rfl Tryz.underlying102 rfl (by kernel_rfl) rfl) ?_
        refine Kq rfl (ld rfl rfl .tc Tryz.underlying22 rfl (by rfl)) ?_
        refine Kq rfl (rd_sne rfl rfl rfl) (Kq rfl (rd_pickf rfl rfl rfl) (Km rfl ?_))
        refine WL.bool 101 rfl (fun hg101 => ?_) (fun hg101 => ?_)
        ·(try simp only [sB] at hg101)
         refine Kt rfl (Kt rfl (Kt rfl (Kt rfl (Kt rfl (Kt rfl (Kt rfl (Kq rfl (rd_pickt rfl rfl rfl) (WL.nil ?_))))))))
         refine WX.joinP (()) (sub_cons rfl (sub_cons rfl (sub_cons rfl (sub_cons rfl (sub_cons rfl (sub_nil _)))))) (by refine (sub_cons ?_ (sub_nil _)) <;> ((refine congrArg (fun b => some (Value.bool b)) ?_; simp [*, -List.getD_eq_getElem?_getD]; done))) ?_ (by (exact fun _ h => h))
         (try dsimp only)
         done
        ·(try simp only [sB] at hg101)
         refine Kq rfl (rd_fa (q := 2) rfl rfl Tryz.underlying102 rfl (by kernel_rfl) rfl) ?_
         refine Kq rfl (ld rfl rfl .tc Tryz.underlying100 rfl (by rfl)) ?_
         refine Kq rfl (rd_len rfl rfl Tryz.underlying100) ?_
         refine Kq rfl (rd_fa (q := 2) rfl rfl Tryz.underlying102 rfl (by kernel_rfl) rfl) ?_
         refine Kq rfl (ld rfl rfl .tc Tryz.underlying100 rfl (by rfl)) ?_
         refine Kq rfl (rd_len rfl rfl Tryz.underlying100) (Kq rfl (rd_neq rfl rfl rfl) (Kq rfl (rd_pickf rfl rfl rfl) (WL.nil ?_)))
         refine WX.joinP (()) (sub_cons rfl (sub_cons rfl (sub_cons rfl (sub_cons rfl (sub_cons rfl (sub_nil _)))))) (by refine (sub_cons ?_ (sub_nil _)) <;> ((refine congrArg (fun b => some (Value.bool b)) ?_; simp [*, -List.getD_eq_getElem?_getD]; done))) ?_ (by (exact fun _ h => h))
         (try dsimp only)
         done
      ·rintro _ hmeet; (try dsimp only at hmeet ⊢)
       refine WC.cond rfl (fun hc109 => ?_) (fun hc109 => ?_)
       ·(try simp only [sB] at hc109)
        refine WC.sr (Ka rfl (WL.nt (WC.ret (WX.then_ret (WX.block_ret (WX.then_ret (WX.then_ret (WX.block_ret (WX.then_ret ?_)))))))))
        exact WX.retN rfl (.tmp rfl .nil) fun w' hS => ⟨by rw [decide_eq_false (fun h => hc109 (by rw [core_q h]; exact ⟨rfl, rfl, rfl⟩))]; rfl, hS.below⟩
       ·(try simp only [sB] at hc109)
        obtain ⟨hq1, hq2, hq30⟩ := Decidable.not_not.1 hc109
        have hq3 : (s.es.getD k default).1.2.2.length = (t.es.getD k default).1.2.2.length := by omega
        refine WC.skip (WX.then_normal (WC.sr ?_))
        refine WL.st (fun w h => st_addm (more := s.es.map qaF ++ t.es.map qaF) (f := qaF (t.es.getD k default)) (st_addm (more := s.es.map qaF ++ t.es.map qaF) (f := qaF (s.es.getD k default)) h (List.mem_append_left _ (List.mem_map_of_mem hm1))) (List.mem_append_right _ (List.mem_map_of_mem hm2))) ?_
        refine Ka rfl (WL.nt (WC.block ?_))
        refine WC.loopP (σ := Nat) [(2, _), (3, _), (7, _), (8, _), (9, _)] (fun gq => [(10, .int .i64 (gq : Int))]) (fun gq => gq ≤ (s.es.getD k default).1.2.2.length ∧ (s.es.getD k default).1.2.2.take gq = (t.es.getD k default).1.2.2.take gq) (fun gq => (s.es.getD k default).1.2.2.length - gq) (0) (sub_cons rfl (sub_cons rfl (sub_cons rfl (sub_cons rfl (sub_cons rfl (sub_nil _)))))) (sub_cons rfl (sub_nil _)) (by (try dsimp only); exact ⟨Nat.zero_le _, by simp⟩) ?_
        rintro m hinv4; (try dsimp only at hinv4 ⊢)
        obtain ⟨hm, htm⟩ := hinv4
        refine WC.seq (WC.sr (Km rfl ?_))
        refine Kq rfl (rd_fa (q := 2) rfl rfl Tryz.underlying102 rfl (by kernel_rfl) rfl) ?_
        refine Kq rfl (ld rfl rfl .tc Tryz.underlying100 rfl (by rfl)) ?_
        refine Kq rfl (rd_len rfl rfl Tryz.underlying100) (Kq rfl (rd_lss rfl rfl rfl) (WL.nt ?_))
        refine WC.cond rfl (fun hc114 => ?_) (fun hc114 => ?_)
        ·(try simp only [sB] at hc114)
         have hml : m < (s.es.getD k default).1.2.2.length := by omega
         have hml2 : m < (t.es.getD k default).1.2.2.length := by omega
         refine WC.skip (WX.then_normal (WC.seq (WC.block (WC.seq ?_))))
         refine WC.free0 [0, 1, 2, 3, 4, 5, 6, 7, 8, 9, 10] [] [0, 0, 0, 0, 0, 0, 0, 0, 0, 0, 0] (by kernel_rfl) (by kernel_rfl) rfl ?_
         refine Kj rfl (rd_fa (q := 2) rfl rfl Tryz.underlying102 rfl (by kernel_rfl) rfl) ?_
         refine Kj rfl (ld rfl rfl .tc Tryz.underlying100 rfl (by rfl)) ?_
         refine Kj rfl (rd_move rfl rfl) ?_
         (refine Kj rfl (iaf rfl rfl rfl Tryz.underlying100 (by kernel_rfl : _ = some 4) ?_ ?_ (by (try simp only [sN, Int.reduceToNat, Nat.reduceAdd, Nat.reduceMul, Nat.reduceSub]); rfl)) ?_; (focus (omega)); (focus ((rw [flatMap_len _ _ 4 (fun _ => rfl)]; omega))))
         (refine Kj rfl (ldma _ rfl rfl Tryz.underlying110 rfl (by kernel_rfl : _ = some 4) (fun _ => rfl) (by decide) rfl ?_) ?_; (focus (assumption)))
         refine Kj rfl (rd_fa (q := 2) rfl rfl Tryz.underlying102 rfl (by kernel_rfl) rfl) ?_
         refine Kj rfl (ld rfl rfl .tc Tryz.underlying100 rfl (by rfl)) ?_
         refine Kj rfl (rd_move rfl rfl) ?_
         (refine Kj rfl (iaf rfl rfl rfl Tryz.underlying100 (by kernel_rfl : _ = some 4) ?_ ?_ (by (try simp only [sN, Int.reduceToNat, Nat.reduceAdd, Nat.reduceMul, Nat.reduceSub]); rfl)) ?_; (focus (omega)); (focus ((rw [flatMap_len _ _ 4 (fun _ => rfl)]; omega))))
         (refine Kj rfl (ldma _ rfl rfl Tryz.underlying110 rfl (by kernel_rfl : _ = some 4) (fun _ => rfl) (by decide) rfl ?_) ?_; (focus (assumption)))
         refine Kj rfl (rd_neA rfl rfl rfl (by kernel_rfl) (fun w => eql_api_Term _ _ _ _ _ _ _ _ w)) ?_
         refine WJ.nil ?_
         refine WL.nt ?_
         refine WC.cond rfl (fun hc127 => ?_) (fun hc127 => ?_)
         ·(try simp only [sB] at hc127)
          refine WC.sr (Ka rfl (WL.nt (WC.ret (WX.block_ret (WX.then_ret (WX.then_ret (WX.block_ret (WX.block_ret (WX.then_ret (WX.then_ret (WX.block_ret ?_)))))))))))
          refine WX.then_ret ?_
          exact WX.retN rfl (.tmp rfl .nil) fun w' hS => ⟨by rw [decide_eq_false (fun h => by rw [core_q h] at hc127; simp at hc127)]; rfl, hS.below⟩
         ·(try simp only [sB] at hc127)
          refine WC.skip (WX.block_normal (WX.then_normal (WC.region (Km rfl ?_))))
          (refine Kq rfl (rd_add64nl rfl rfl rfl ?_) ?_; (focus (omega)))
          refine Ka rfl (WL.nil ?_)
          refine WX.loopP (m + 1) (by (try dsimp only); omega) (sub_cons rfl (sub_cons rfl (sub_cons rfl (sub_cons rfl (sub_cons rfl (sub_nil _)))))) (by refine (sub_cons ?_ (sub_nil _)) <;> (rfl)) ?_ (by (exact fun _ h => h))
          (try dsimp only)
          exact ⟨hml, ext_getD hq3 hml htm (by simpa [Prod.ext_iff] using hc127)⟩
        ·(try simp only [sB] at hc114)
         refine WC.exit (WX.then_exit (WX.then_exit (WX.block_exit ?_)))
         obtain rfl : m = (s.es.getD k default).1.2.2.length := by omega
         have het := ext_take hq3 htm
         refine WX.block_normal (WX.then_normal (WC.region (Km rfl ?_)))
         (refine Kq rfl (rd_add64nl rfl rfl rfl ?_) ?_; (focus (omega)))
         refine Ka rfl (WL.nil ?_)
         refine WX.loopP (k + 1) (by (try dsimp only); omega) (sub_cons rfl (sub_cons rfl (sub_nil _))) (by refine (sub_cons ?_ (sub_nil _)) <;> (rfl)) ?_ (by (exact st_sub))
         (try dsimp only)
         exact ⟨hkl, ext_getD (by simpa using hel) (by simpa using hkl) htk (by rw [qa_getD, qa_getD]; exact Prod.ext hq1 (Prod.ext hq2 het))⟩
     ·(try simp only [sB] at hc76)
      refine WC.exit (WX.then_exit (WX.then_exit (WX.block_exit ?_)))
      obtain rfl : k = s.es.length := by omega
      have hee : s.es.map (·.1) = t.es.map (·.1) := by
       have := htk; rw [List.take_of_length_le (by simp), List.take_of_length_le (by simp [hel])] at this; exact this
      refine WX.then_normal (WC.sr (Ka rfl (WL.nt (WC.ret ?_))))
      exact WX.retN rfl (.tmp rfl .nil) fun w' hS => ⟨by rw [decide_eq_true (show s.core = t.core by simp only [SA.core, heg, hev, hee])]; rfl, hS.below⟩
end Go.Proofs.YtnimhldbblfgbaaGreat
namespace Go.Proofs.YtnimhldbblfgbaaGreat
set_option linter.unusedSimpArgs false
set_option linter.unusedVariables false
set_option maxRecDepth 20000
set_option maxHeartbeats 600000
open Go.RowKit
theorem same_c {x y : List Zs} {a b : Option Addr} {c d : Nat} {w : World} {ok : Nat → Prop} (hF1 : (Fact.sl a (ints x)).holds ok w) (hF2 : (Fact.sl b (ints y)).holds ok w) (hx : x.length ≤ 100000) :
  Calls Tryz.prog 19 #[.slice a x.length c, .slice b y.length d] w fun e w' => e = .returned (.bool (decide (x = y))) ∧ Below w.heap.size w w' := by
 refine enter (S := St (fun _ => True) w [] ([Fact.sl a (ints x), Fact.sl b (ints y)])) (L := [(0, .slice a x.length c), (1, .slice b y.length d)]) Tryz.func19 rfl Tryz.ntmps19 rfl (args_cons rfl (args_cons rfl (args_nil _))) (St.start (fun _ _ => trivial) (facts_cons (fact_any hF1) (facts_cons (fact_any hF2) facts_nil))) ?_
 refine WC.sr (Ka rfl (WL.nt (WC.seq (WC.sr (Km rfl (Kq rfl (rd_len rfl rfl Tryz.underlying49) (Km rfl (Kq rfl (rd_len rfl rfl Tryz.underlying49) (Kq rfl (rd_neq rfl rfl rfl) (WL.nt ?_))))))))))
 refine WC.cond rfl (fun hc10 => ?_) (fun hc10 => ?_)
 ·(try simp only [sB] at hc10)
  have hne : ¬ x = y := fun h => by rw [h] at hc10; omega
  refine WC.sr (Ka rfl (WL.nt (WC.ret (WX.then_ret ?_))))
  exact WX.retN rfl (.tmp rfl .nil) fun w' hS => ⟨by rw [decide_eq_false hne]; rfl, hS.below⟩
 ·(try simp only [sB] at hc10)
  have hle : x.length = y.length := by omega
  refine WC.skip (WX.then_normal (WC.seq (WC.sr (Ka rfl (WL.nt (WC.block ?_))))))
  refine WC.loopP (σ := Nat) [(0, _), (1, _)] (fun gq => [(5, .int .i64 (gq : Int))]) (fun gq => gq ≤ x.length ∧ x.take gq = y.take gq) (fun gq => x.length - gq) (0) (sub_cons rfl (sub_cons rfl (sub_nil _))) (sub_cons rfl (sub_nil _)) (by (try dsimp only); exact ⟨Nat.zero_le _, by simp⟩) ?_
  rintro i hinv1; (try dsimp only at hinv1 ⊢)
  obtain ⟨hi, ht⟩ := hinv1
  refine WC.seq (WC.sr (Km rfl (Km rfl (Kq rfl (rd_len rfl rfl Tryz.underlying49) (Kq rfl (rd_lss rfl rfl rfl) (WL.nt ?_))))))
  refine WC.cond rfl (fun hc14 => ?_) (fun hc14 => ?_)
  ·(try simp only [sB] at hc14)
   have hil : i < x.length := by omega
   have hiy : i < y.length := by omega
   have hyt : ∀ l : List Zs, i < l.length → l.take (i + 1) = l.take i ++ [l.getD i default] := fun l h => by
    rw [List.take_add_one, List.getElem?_eq_getElem h, List.getD_eq_getElem?_getD, List.getElem?_eq_getElem h]; rfl
   refine WC.skip (WX.then_normal (WC.seq (WC.block (WC.seq ?_))))
   refine WC.free0 [0, 1, 2, 3, 4, 5, 6, 7, 8] [] [0, 0, 0, 0, 0, 0, 0, 0, 0] (by kernel_rfl) (by kernel_rfl) rfl ?_
   refine Kj rfl (rd_move rfl rfl) ?_
   refine Kj rfl (rd_move rfl rfl) ?_
   (refine Kj rfl (iaf rfl rfl rfl Tryz.underlying49 (by kernel_rfl : _ = some 2) ?_ ?_ (by (try simp only [sN, Int.reduceToNat, Nat.reduceAdd, Nat.reduceMul, Nat.reduceSub]); rfl)) ?_; (focus (omega)); (focus ((rw [flatMap_len _ _ 2 (fun _ => rfl)]; omega))))
   (refine Kj rfl (ldma _ rfl rfl Tryz.underlying45 rfl (by kernel_rfl : _ = some 2) (fun _ => rfl) (by decide) rfl ?_) ?_; (focus (assumption)))
   refine Kj rfl (rd_move rfl rfl) ?_
   refine Kj rfl (rd_move rfl rfl) ?_
   (refine Kj rfl (iaf rfl rfl rfl Tryz.underlying49 (by kernel_rfl : _ = some 2) ?_ ?_ (by (try simp only [sN, Int.reduceToNat, Nat.reduceAdd, Nat.reduceMul, Nat.reduceSub]); rfl)) ?_; (focus (omega)); (focus ((rw [flatMap_len _ _ 2 (fun _ => rfl)]; omega))))
   (refine Kj rfl (ldma _ rfl rfl Tryz.underlying45 rfl (by kernel_rfl : _ = some 2) (fun _ => rfl) (by decide) rfl ?_) ?_; (focus (assumption)))
   refine Kj rfl (rd_neA rfl rfl rfl (by kernel_rfl) (fun w => eql_api_Int _ _ _ _ w)) ?_
   refine WJ.nil ?_
   refine WL.nt ?_
   refine WC.cond rfl (fun hc25 => ?_) (fun hc25 => ?_)
   ·(try simp only [sB] at hc25)
    have hne : ¬ x = y := fun h => by rw [h] at hc25; simp at hc25
    refine WC.sr (Ka rfl (WL.nt (WC.ret (WX.block_ret (WX.then_ret (WX.then_ret (WX.block_ret (WX.then_ret ?_))))))))
    exact WX.retN rfl (.tmp rfl .nil) fun w' hS => ⟨by rw [decide_eq_false hne]; rfl, hS.below⟩
   ·(try simp only [sB] at hc25)
    refine WC.skip (WX.block_normal (WX.then_normal (WC.region (Km rfl ?_))))
    (refine Kq rfl (rd_add64nl rfl rfl rfl ?_) ?_; (focus (omega)))
    refine Ka rfl (WL.nil ?_)
    refine WX.loopP (i + 1) (by (try dsimp only); omega) (sub_cons rfl (sub_cons rfl (sub_nil _))) (by refine (sub_cons ?_ (sub_nil _)) <;> (rfl)) ?_ (by (exact fun _ h => h))
    (try dsimp only)
    exact ⟨hil, by
     rw [hyt x hil, hyt y hiy, ht]; congr 2; exact Prod.ext_iff.2 (by simpa using hc25)⟩
  ·(try simp only [sB] at hc14)
   refine WC.exit (WX.then_exit (WX.then_exit (WX.block_exit ?_)))
   obtain rfl : i = x.length := by omega
   have heq : x = y := by rw [List.take_length, hle, List.take_length] at ht; exact ht
   refine WX.then_normal (WC.sr (Ka rfl (WL.nt (WC.ret ?_))))
   exact WX.retN rfl (.tmp rfl .nil) fun w' hS => ⟨by rw [decide_eq_true heq]; rfl, hS.below⟩
end Go.Proofs.YtnimhldbblfgbaaGreat
namespace Go.Proofs.YtnimhldbblfgbaaGreat
set_option linter.unusedSimpArgs false
set_option linter.unusedVariables false
set_option maxRecDepth 20000
set_option maxHeartbeats 600000
open Go.RowKit
def few14 (k : PK) : Prop := k.1.1.length ≤ 8 ∧ k.1.2.length ≤ 8 ∧ k.2.1.length ≤ 9 ∧ k.2.2.length ≤ 9
instance (k : PK) : Decidable (few14 k) := inferInstanceAs (Decidable (_ ∧ _))
theorem few14_c {k : PK} {w : World} :
  Calls Tryz.prog 20 #[pkV k] w fun e w' => e = .returned (.bool (decide (few14 k))) ∧ Below w.heap.size w w' := by
 refine enter (S := St (fun _ => True) w [] ([])) (L := [(0, pkV k)]) Tryz.func20 rfl Tryz.ntmps20 rfl (args_cons rfl (args_nil _)) (St.start (fun _ _ => trivial) facts_nil) ?_
 refine WC.sr ?_
 refine Kh rfl (og_box rfl rfl (by (exact cells_agg _))) ?_
 intro b1
 refine Ka rfl (WL.nt (WC.sr ?_))
 refine Kq rfl (rd_fa (q := 0) rfl rfl Tryz.underlying26 rfl (by kernel_rfl) rfl) ?_
 refine Kq rfl (rd_fa (q := 0) rfl rfl Tryz.underlying24 rfl (by kernel_rfl) rfl) ?_
 refine Kq rfl (ld rfl rfl .tc Tryz.underlying22 rfl (by rfl)) ?_
 refine Kq rfl (rd_slen rfl rfl Tryz.underlying22) (Kq rfl (rd_leq rfl rfl rfl) (Km rfl ?_))
 refine WL.bool 8 rfl (fun hg8 => ?_) (fun hg8 => ?_)
 ·(try simp only [sB] at hg8)
  refine Kq rfl (rd_fa (q := 0) rfl rfl Tryz.underlying26 rfl (by kernel_rfl) rfl) ?_
  refine Kq rfl (rd_fa (q := 1) rfl rfl Tryz.underlying24 rfl (by kernel_rfl) rfl) ?_
  refine Kq rfl (ld rfl rfl .tc Tryz.underlying22 rfl (by rfl)) ?_
  refine Kq rfl (rd_slen rfl rfl Tryz.underlying22) (Kq rfl (rd_leq rfl rfl rfl) (Kq rfl (rd_pickt rfl rfl rfl) (Km rfl ?_)))
  refine WL.bool 15 rfl (fun hg15 => ?_) (fun hg15 => ?_)
  ·(try simp only [sB] at hg15)
   refine Kq rfl (rd_fa (q := 2) rfl rfl Tryz.underlying26 rfl (by kernel_rfl) rfl) ?_
   refine Kq rfl (ld rfl rfl .tc Tryz.underlying22 rfl (by rfl)) ?_
   refine Kq rfl (rd_slen rfl rfl Tryz.underlying22) (Kq rfl (rd_leq rfl rfl rfl) (Kq rfl (rd_pickt rfl rfl rfl) (Km rfl ?_)))
   refine WL.bool 21 rfl (fun hg21 => ?_) (fun hg21 => ?_)
   ·(try simp only [sB] at hg21)
    refine Kq rfl (rd_fa (q := 3) rfl rfl Tryz.underlying26 rfl (by kernel_rfl) rfl) ?_
    refine Kq rfl (ld rfl rfl .tc Tryz.underlying22 rfl (by rfl)) ?_
    refine Kq rfl (rd_slen rfl rfl Tryz.underlying22) (Kq rfl (rd_leq rfl rfl rfl) (Kq rfl (rd_pickt rfl rfl rfl) (Ka rfl (WL.nt (WC.ret ?_)))))
    exact WX.retN rfl (.tmp rfl .nil) fun w' hS => ⟨by (simp only [tup, few14]; (refine congrArg (fun b => Ending.returned (Value.bool b)) (decide_eq_decide.2 ?_); omega)), hS.below⟩
   ·(try simp only [sB] at hg21)
    refine Kt rfl (Kt rfl (Kt rfl (Kt rfl (Kq rfl (rd_pickf rfl rfl rfl) (Ka rfl (WL.nt (WC.ret ?_)))))))
    exact WX.retN rfl (.tmp rfl .nil) fun w' hS => ⟨by (simp only [tup, few14]; (refine congrArg (fun b => Ending.returned (Value.bool b)) (decide_eq_false ?_).symm; omega)), hS.below⟩
  ·(try simp only [sB] at hg15)
   refine Kt rfl (Kt rfl (Kt rfl (Kt rfl (Kq rfl (rd_pickf rfl rfl rfl) (Km rfl (Kt rfl (Kt rfl (Kt rfl (Kt rfl (Kq rfl (rd_pickf rfl rfl rfl) (Ka rfl ?_)))))))))))
   refine WL.nt (WC.ret ?_)
   exact WX.retN rfl (.tmp rfl .nil) fun w' hS => ⟨by (simp only [tup, few14]; (refine congrArg (fun b => Ending.returned (Value.bool b)) (decide_eq_false ?_).symm; omega)), hS.below⟩
 ·(try simp only [sB] at hg8)
  refine Kt rfl (Kt rfl (Kt rfl (Kt rfl (Kt rfl (Kq rfl (rd_pickf rfl rfl rfl) (Km rfl (Kt rfl (Kt rfl (Kt rfl (Kt rfl (Kq rfl (rd_pickf rfl rfl rfl) ?_)))))))))))
  refine Km rfl (Kt rfl (Kt rfl (Kt rfl (Kt rfl (Kq rfl (rd_pickf rfl rfl rfl) (Ka rfl (WL.nt (WC.ret ?_))))))))
  exact WX.retN rfl (.tmp rfl .nil) fun w' hS => ⟨by (simp only [tup, few14]; (refine congrArg (fun b => Ending.returned (Value.bool b)) (decide_eq_false ?_).symm; omega)), hS.below⟩
def shP (l : List Bs) : Prop := ∀ x ∈ l, x.length ≤ 16
instance (l : List Bs) : Decidable (shP l) := inferInstanceAs (Decidable (∀ x ∈ l, _))
theorem short26_c {l : List Bs} {a : Option Addr} {c : Nat} {w : World} {ok : Nat → Prop} (hF1 : (Fact.sl a (strs l)).holds ok w) (hl : l.length ≤ 140737488351232) :
  Calls Tryz.prog 22 #[.slice a l.length c] w fun e w' => e = .returned (.bool (decide (shP l))) ∧ Below w.heap.size w w' := by
 refine enter (S := St (fun _ => True) w [] ([Fact.sl a (strs l)])) (L := [(0, .slice a l.length c)]) Tryz.func22 rfl Tryz.ntmps22 rfl (args_cons rfl (args_nil _)) (St.start (fun _ _ => trivial) (facts_cons (fact_any hF1) facts_nil)) ?_
 refine WC.sr (Ka rfl (WL.nt (WC.seq (WC.sr (Ka rfl (WL.nt (WC.block ?_)))))))
 refine WC.loopP (σ := Nat) [(0, _)] (fun gq => [(3, .int .i64 (gq : Int))]) (fun gq => gq ≤ l.length ∧ ∀ x ∈ l.take gq, x.length ≤ 16) (fun gq => l.length - gq) (0) (sub_cons rfl (sub_nil _)) (sub_cons rfl (sub_nil _)) (by (try dsimp only); exact ⟨Nat.zero_le _, by simp⟩) ?_
 rintro i hinv1; (try dsimp only at hinv1 ⊢)
 obtain ⟨hi, hok⟩ := hinv1
 refine WC.seq (WC.sr (Km rfl (Km rfl (Kq rfl (rd_len rfl rfl Tryz.underlying60) (Kq rfl (rd_lss rfl rfl rfl) (WL.nt ?_))))))
 refine WC.cond rfl (fun hc7 => ?_) (fun hc7 => ?_)
 ·(try simp only [sB] at hc7)
  have hil : i < l.length := by omega
  obtain ⟨y, hy⟩ : ∃ y, Keep (y = l.getD i default) := ⟨_, rfl⟩
  refine WC.skip (WX.then_normal (WC.seq (WC.block (WC.sr (Km rfl (Km rfl ?_))))))
  (refine Kq rfl (iaf rfl rfl rfl Tryz.underlying60 (by kernel_rfl : _ = some 1) ?_ ?_ (by (try simp only [sN, Int.reduceToNat, Nat.reduceAdd, Nat.reduceMul, Nat.reduceSub]); rfl)) ?_; (focus (omega)); (focus ((rw [List.length_map]; omega))))
  (refine Kq rfl (ldm rfl rfl Tryz.underlying22 rfl ?_) ?_; (focus (assumption)))
  refine WL.set 13 rfl (v' := .string (S (y))) (congrArg (fun l => Value.string (S l)) (by rw [show y = _ from hy])) ?_
  refine Kq rfl (rd_slen rfl rfl Tryz.underlying22) (Kq rfl (rd_gtr rfl rfl rfl) (WL.nt ?_))
  refine WC.cond rfl (fun hc15 => ?_) (fun hc15 => ?_)
  ·(try simp only [sB] at hc15)
   have hn : ¬ shP l := fun h => by have := h _ (getD_mem l i hil); rw [← show y = _ from hy] at this; omega
   refine WC.sr (Ka rfl (WL.nt (WC.ret (WX.block_ret (WX.then_ret (WX.then_ret (WX.block_ret (WX.then_ret ?_))))))))
   exact WX.retN rfl (.tmp rfl .nil) fun w' hS => ⟨by rw [decide_eq_false hn]; rfl, hS.below⟩
  ·(try simp only [sB] at hc15)
   refine WC.skip (WX.block_normal (WX.then_normal (WC.region (Km rfl ?_))))
   (refine Kq rfl (rd_add64nl rfl rfl rfl ?_) ?_; (focus (omega)))
   refine Ka rfl (WL.nil ?_)
   refine WX.loopP (i + 1) (by (try dsimp only); omega) (sub_cons rfl (sub_nil _)) (by refine (sub_cons ?_ (sub_nil _)) <;> (rfl)) ?_ (by (exact fun _ h => h))
   (try dsimp only)
   exact ⟨hil, all_take hil hok (by rw [← show y = _ from hy]; omega)⟩
 ·(try simp only [sB] at hc7)
  refine WC.exit (WX.then_exit (WX.then_exit (WX.block_exit ?_)))
  obtain rfl : i = l.length := by omega
  rw [List.take_length] at hok
  refine WX.then_normal (WC.sr (Ka rfl (WL.nt (WC.ret ?_))))
  exact WX.retN rfl (.tmp rfl .nil) fun w' hS => ⟨by rw [decide_eq_true (show shP l from hok)]; rfl, hS.below⟩
/-- the arguments of a case -/
structure IC where
 k : PK
 a : Bs
 b : Bs
 c : Bs
 v : Bs
 r : Bs
abbrev icV (c : IC) : Value := .agg #[.string (S c.k.1.1), .string (S c.k.1.2), .string (S c.k.2.1), .string (S c.k.2.2), .string (S c.a), .string (S c.b), .string (S c.c), .string (S c.v), .string (S c.r)]
def fewC (c : IC) : Prop := few14 c.k ∧ shP [c.a, c.b, c.c] ∧ c.v.length ≤ 140 ∧ c.r.length ≤ 140
instance (c : IC) : Decidable (fewC c) := inferInstanceAs (Decidable (_ ∧ _))
theorem few26_c {q : IC} {w : World} :
  Calls Tryz.prog 10 #[icV q] w fun e w' => e = .returned (.bool (decide (fewC q))) ∧ Below w.heap.size w w' := by
 refine enter (S := St (fun _ => True) w [] ([])) (L := [(0, icV q)]) Tryz.func10 rfl Tryz.ntmps10 rfl (args_cons rfl (args_nil _)) (St.start (fun _ _ => trivial) facts_nil) ?_
 refine WC.sr ?_
 refine Kh rfl (og_box rfl rfl (by (exact cells_agg _))) ?_
 intro b1
 refine Ka rfl (WL.nt (WC.sr ?_))
 refine Kq rfl (rd_fa (q := 0) rfl rfl Tryz.underlying28 rfl (by kernel_rfl) rfl) ?_
 refine Kq rfl (ldp rfl rfl .tc Tryz.underlying26 rfl (by kernel_rfl : _ = some 4) (by rfl) (by rfl)) ?_
 refine Kh rfl (og_call rfl rfl (by kernel_rfl) (keep_val fun w hS => few14_c (k := q.k))) ?_
 intro _
 refine Km rfl ?_
 refine WL.bool 6 rfl (fun hg6 => ?_) (fun hg6 => ?_)
 ·(try simp only [sB] at hg6)
  refine Kq rfl (rd_fa (q := 4) rfl rfl Tryz.underlying28 rfl (by kernel_rfl) rfl) ?_
  refine Kq rfl (ld rfl rfl .tc Tryz.underlying22 rfl (by rfl)) ?_
  refine Kq rfl (rd_fa (q := 5) rfl rfl Tryz.underlying28 rfl (by kernel_rfl) rfl) ?_
  refine Kq rfl (ld rfl rfl .tc Tryz.underlying22 rfl (by rfl)) ?_
  refine Kq rfl (rd_fa (q := 6) rfl rfl Tryz.underlying28 rfl (by kernel_rfl) rfl) ?_
  refine Kq rfl (ld rfl rfl .tc Tryz.underlying22 rfl (by rfl)) ?_
  refine Kh rfl (og_bs1 rfl rfl Tryz.underlying60 (by kernel_rfl : _ = some (some (.string (S [])), 1, 16)) rfl (by simp only [List.map]; rfl) rfl rfl ?_ (by decide)) ?_
  ·simp [Value.cells]
  intro b13
  refine Kh rfl (og_call rfl rfl (by kernel_rfl) (keep_val fun w hS => short26_c (l := [q.a, q.b, q.c]) (by (exact hS.os)) (by (simp <;> omega)))) ?_
  intro _
  refine Kq rfl (rd_pickt rfl rfl rfl) (Km rfl ?_)
  refine WL.bool 16 rfl (fun hg16 => ?_) (fun hg16 => ?_)
  ·(try simp only [sB] at hg16)
   refine Kq rfl (rd_fa (q := 7) rfl rfl Tryz.underlying28 rfl (by kernel_rfl) rfl) ?_
   refine Kq rfl (ld rfl rfl .tc Tryz.underlying22 rfl (by rfl)) ?_
   refine Kq rfl (rd_slen rfl rfl Tryz.underlying22) (Kq rfl (rd_leq rfl rfl rfl) (Kq rfl (rd_pickt rfl rfl rfl) (Km rfl ?_)))
   refine WL.bool 22 rfl (fun hg22 => ?_) (fun hg22 => ?_)
   ·(try simp only [sB] at hg22)
    refine Kq rfl (rd_fa (q := 8) rfl rfl Tryz.underlying28 rfl (by kernel_rfl) rfl) ?_
    refine Kq rfl (ld rfl rfl .tc Tryz.underlying22 rfl (by rfl)) ?_
    refine Kq rfl (rd_slen rfl rfl Tryz.underlying22) (Kq rfl (rd_leq rfl rfl rfl) (Kq rfl (rd_pickt rfl rfl rfl) (Ka rfl (WL.nt (WC.ret ?_)))))
    exact WX.retN rfl (.tmp rfl .nil) fun w' hS => ⟨by (refine congrArg (fun b => Ending.returned (Value.bool b)) (decide_eq_decide.2 ⟨fun h => ⟨by assumption, by assumption, by omega, by omega⟩, fun h => ?_⟩); have := h.2.2.2; omega), hS.below⟩
   ·(try simp only [sB] at hg22)
    refine Kt rfl (Kt rfl (Kt rfl (Kt rfl (Kq rfl (rd_pickf rfl rfl rfl) (Ka rfl (WL.nt (WC.ret ?_)))))))
    exact WX.retN rfl (.tmp rfl .nil) fun w' hS => ⟨by (refine congrArg (fun b => Ending.returned (Value.bool b)) (decide_eq_false fun h => ?_).symm; have := h.2.2.1; omega), hS.below⟩
  ·(try simp only [sB] at hg16)
   refine Kt rfl (Kt rfl (Kt rfl (Kt rfl (Kq rfl (rd_pickf rfl rfl rfl) (Km rfl (Kt rfl (Kt rfl (Kt rfl (Kt rfl (Kq rfl (rd_pickf rfl rfl rfl) (Ka rfl ?_)))))))))))
   refine WL.nt (WC.ret ?_)
   exact WX.retN rfl (.tmp rfl .nil) fun w' hS => ⟨by (simp [*, tup, fewC]; done), hS.below⟩
 ·(try simp only [sB] at hg6)
  refine Kt rfl (Kt rfl (Kt rfl (Kt rfl (Kt rfl (Kt rfl (Kt rfl (Kt rfl (Kq rfl (rd_pickf rfl rfl rfl) (Km rfl (Kt rfl (Kt rfl ?_)))))))))))
  refine Kt rfl (Kt rfl (Kq rfl (rd_pickf rfl rfl rfl) (Km rfl (Kt rfl (Kt rfl (Kt rfl (Kt rfl (Kq rfl (rd_pickf rfl rfl rfl) (Ka rfl (WL.nt (WC.ret ?_)))))))))))
  exact WX.retN rfl (.tmp rfl .nil) fun w' hS => ⟨by (simp [*, tup, fewC]; done), hS.below⟩
def kS : PK := ((canon 77, []), canon 4, canon 9)
theorem example26_c {w : World} :
  Calls Tryz.prog 38 #[] w fun e w' => e = .returned (pkV kS) ∧ Below w.heap.size w w' := by
 refine enter (S := St (fun _ => True) w [] ([])) (L := []) Tryz.func38 rfl Tryz.ntmps38 rfl (args_nil _) (St.start (fun _ _ => trivial) facts_nil) ?_
 refine WC.sr ?_
 refine Kh rfl (og_alloc rfl (v := (.agg #[.string (S []), .string (S []), .string (S []), .string (S [])])) (cs := [.string (S []), .string (S []), .string (S []), .string (S [])]) (by kernel_rfl) rfl) ?_
 intro b0
 refine WL.nt (WC.sr ?_)
 refine Kh rfl (og_call rfl rfl (by kernel_rfl) (keep_val fun w hS => of_c (n := 77) (by omega))) ?_
 intro _
 refine Kq rfl (rd_bld [[.string (S [])], [.string (S [])]] rfl rfl (by simp only [bld, fldv, Nat.beq, Value.cells, cond_true, cond_false, List.nil_append, List.cons_append, List.append_nil]; rfl) (fun w => by kernel_rfl)) ?_
 refine Kh rfl (og_call rfl rfl (by kernel_rfl) (keep_val fun w hS => of_c (n := 4) (by omega))) ?_
 intro _
 refine Kh rfl (og_call rfl rfl (by kernel_rfl) (keep_val fun w hS => of_c (n := 9) (by omega))) ?_
 intro _
 refine Kq rfl (rd_bld [[.string (S []), .string (S [])], [.string (S [])], [.string (S [])]] rfl rfl (by simp only [bld, fldv, Nat.beq, Value.cells, cond_true, cond_false, List.nil_append, List.cons_append, List.append_nil]; rfl) (fun w => by kernel_rfl)) ?_
 refine WL.g0 rfl rfl (sta rfl rfl rfl .tc ?_ ?_ ?_) ?_
 ·kernel_rfl
 ·simp [Value.oneCell']
 ·rfl
 intro _
 refine WL.nt (WC.ret ?_)
 exact WX.retN rfl (.agg rfl .tc Tryz.underlying26 rfl (by kernel_rfl) .nil) fun w' hS => ⟨by rfl, hS.below⟩
theorem open26_c {m r : Int} {w : World} (h1 : -9223372036854775808 ≤ m ∧ m ≤ 9223372036854775807) (h2 : -9223372036854775808 ≤ r ∧ r ≤ 9223372036854775807) :
  Calls Tryz.prog 40 #[.int .i64 m, .int .i64 r] w fun e w' => e = .returned (opV (ofZ m, ofZ r)) ∧ Below w.heap.size w w' := by
 refine enter (S := St (fun _ => True) w [] ([])) (L := [(0, .int .i64 m), (1, .int .i64 r)]) Tryz.func40 rfl Tryz.ntmps40 rfl (args_cons rfl (args_cons rfl (args_nil _))) (St.start (fun _ _ => trivial) facts_nil) ?_
 refine WC.sr ?_
 refine Kh rfl (og_alloc rfl (v := (.agg #[.bool false, .string (S []), .bool false, .string (S [])])) (cs := [.bool false, .string (S []), .bool false, .string (S [])]) (by kernel_rfl) rfl) ?_
 intro b4
 refine WL.nt (WC.sr (Km rfl ?_))
 refine Kh rfl (og_call rfl rfl (by kernel_rfl) (keep_val fun w hS => zof_c (n := m) (by exact h1.1) (by exact h1.2))) ?_
 intro _
 refine Km rfl ?_
 refine Kh rfl (og_call rfl rfl (by kernel_rfl) (keep_val fun w hS => zof_c (n := r) (by exact h2.1) (by exact h2.2))) ?_
 intro _
 refine Kq rfl (rd_bld [[.bool false, .string (S [])], [.bool false, .string (S [])]] rfl rfl (by simp only [bld, fldv, Nat.beq, Value.cells, cond_true, cond_false, List.nil_append, List.cons_append, List.append_nil]; rfl) (fun w => by kernel_rfl)) ?_
 refine WL.g0 rfl rfl (sta rfl rfl rfl .tc ?_ ?_ ?_) ?_
 ·kernel_rfl
 ·simp [Value.oneCell']
 ·rfl
 intro _
 refine WL.nt (WC.ret ?_)
 exact WX.retN rfl (.agg rfl .tc Tryz.underlying47 rfl (by kernel_rfl) .nil) fun w' hS => ⟨by rfl, hS.below⟩
/-- few elements, few bytes -/
def saC (m : Sm) : Prop := m.1.length ≤ 100000 ∧ m.2.1.length ≤ 100000 ∧ m.2.2.length ≤ 100000 ∧ (∀ q ∈ m.2.2, q.2.2.length ≤ 100000) ∧ ∀ g ∈ m.1, g.1.length ≤ 8
instance (m : Sm) : Decidable (saC m) := inferInstanceAs (Decidable (_ ∧ _))
theorem saL_core {s : SA} (h : saC s.core) : saL s := ⟨h.1, h.2.1, by have := h.2.2.1; simpa using this, forall_qa.1 h.2.2.2.1, h.2.2.2.2⟩
theorem saL_kn {s : SA} {k : PK} {c v r : Bs} (hm8 : k.1.1.length ≤ 8) (h : s.core = (knS k c v r).1) : saL s := by
 refine saL_core ?_
 rw [h, knS]; split
 ·exact ⟨Nat.zero_le _, Nat.zero_le _, Nat.zero_le _, by simp, by simp⟩
 ·exact ⟨by simp [knQ], by simp [knQ], by simp [knQ], by simp [knQ], by simpa [knQ] using hm8⟩
theorem saL_pr {s : SA} {k : PK} {a b c v r : Bs} (hm8 : k.1.1.length ≤ 8) (h : s.core = (prS k a b c v r).1) : saL s := by
 refine saL_core ?_
 rw [h, prS]; split
 ·exact ⟨Nat.zero_le _, Nat.zero_le _, Nat.zero_le _, by simp, by simp⟩
 ·exact ⟨by simp [prQ], by simp [prQ], by simp [prQ], by simp [prQ], by simpa [prQ] using hm8⟩
theorem saL_eq {s : SA} {m k : PK} {a b v r : Bs} (hm8 : m.1.1.length ≤ 8) (hk8 : k.1.1.length ≤ 8) (h : s.core = (eqS m k a b v r).1) : saL s := by
 refine saL_core ?_
 rw [h, eqS]; split
 ·exact ⟨Nat.zero_le _, Nat.zero_le _, Nat.zero_le _, by simp, by simp⟩
 ·exact ⟨by simp [eqQ], by simp [eqQ], by simp [eqQ], by simp [eqQ], by simpa [eqQ] using ⟨hm8, hk8⟩⟩
theorem aw1 : knS kS (canon 67) (canon 5) (canon 3) = (knQ kS (canon 67) (canon 5) (canon 3), 0) := by decide +kernel
theorem aw2 : hldS (knQ kS (canon 67) (canon 5) (canon 3)) [ofZ 2, ofZ 1] = (true, 0) := by decide +kernel
theorem aw3 : pwS (ofZ 2, ofZ 1) (ofZ 3, ofZ 2) (ofZ 6, ofZ 5) = ([ofZ 3, ofZ 2, ofZ 2], 0) := by decide +kernel
theorem aw4 : prS kS (canon 67) (canon 1) (canon 4) (canon 5) (canon 3) = (prQ kS (canon 67) (canon 1) (canon 4) (canon 5) (canon 3) (canon 18), 0) := by decide +kernel
end Go.Proofs.YtnimhldbblfgbaaGreat
namespace Go.Proofs.YtnimhldbblfgbaaGreat
set_option linter.unusedSimpArgs false
set_option linter.unusedVariables false
set_option maxRecDepth 20000
set_option maxHeartbeats 600000
open Go.RowKit
theorem infR : ∀ {a b : List Fact} {x : Fact}, InF b x → InF (a ++ b) x
 | [], _, _, h => h
 | _ :: a, _, _, h => .there (infR h)
instance (priority := low) hasF_app {a b : List Fact} {x : Option Addr} {xs : List Value} [h : HasF b x xs] : HasF (a ++ b) x xs := ⟨infR h.h⟩
theorem awake26_c {w : World} :
  Calls Tryz.prog 11 #[] w fun e w' => e = .returned (.bool true) ∧ Below w.heap.size w w' := by
 refine enter (S := St (fun _ => True) w [] ([])) (L := []) Tryz.func11 rfl Tryz.ntmps11 rfl (args_nil _) (St.start (fun _ _ => trivial) facts_nil) ?_
 refine WC.sr (Ka rfl (WL.nt (WC.sr ?_)))
 refine Kh rfl (og_call rfl rfl (by kernel_rfl) (keep_val fun w hS => example26_c)) ?_
 intro _
 refine Kh rfl (og_call rfl rfl (by kernel_rfl) (keep_val fun w hS => of_c (n := 67) (by omega))) ?_
 intro _
 refine Kh rfl (og_call rfl rfl (by kernel_rfl) (keep_val fun w hS => of_c (n := 5) (by omega))) ?_
 intro _
 refine Kh rfl (og_call rfl rfl (by kernel_rfl) (keep_val fun w hS => of_c (n := 3) (by omega))) ?_
 intro _
 refine Kh rfl (og_call rfl rfl (by kernel_rfl) (keep_ff fun w hS => icknows_c (k := kS) (c := canon 67) (v := canon 5) (r := canon 3) (by decide +kernel))) ?_
 rintro s14
 refine WL.pu ?_
 intro hg14; (try dsimp only [List.cons_append, List.nil_append] at hg14 ⊢)
 refine Km rfl (Kq rfl (rd_extL rfl rfl rfl) (Kq rfl (rd_extL rfl rfl rfl) ?_))
 refine Kh rfl (og_alloc rfl (v := (.agg #[.slice none 0 0, .slice none 0 0, .slice none 0 0])) (cs := [.slice none 0 0, .slice none 0 0, .slice none 0 0]) (by kernel_rfl) rfl) ?_
 intro b1
 refine WL.g0 rfl rfl (sta rfl rfl rfl .tc ?_ ?_ ?_) ?_
 ·kernel_rfl
 ·simp [Value.oneCell']
 ·rfl
 intro _
 refine Ka rfl (WL.nt (WC.seq ?_))
 refine WC.free0 [1, 2, 0, 3, 4, 5, 6, 7, 8, 9] [] [0, 1, 1, 3, 1, 0, 0, 0, 0, 0] (by kernel_rfl) (by kernel_rfl) rfl ?_
 refine WJ.gv rfl rfl rfl rfl rfl (fun ext => og_call rfl rfl (by kernel_rfl) (keep_val fun w hS => zof_c (n := 2) (by omega) (by omega))) ?_
 refine WJ.gv rfl rfl rfl rfl rfl (fun ext => og_call rfl rfl (by kernel_rfl) (keep_val fun w hS => zof_c (n := 1) (by omega) (by omega))) ?_
 have hc9 : s14.core = knQ kS (canon 67) (canon 5) (canon 3) := hg14.trans (congrArg (·.1) aw1)
 refine Kj rfl (lda rfl rfl .tc Tryz.underlying35 rfl ?_) ?_
 ·kernel_rfl
 refine WJ.f rfl rfl rfl rfl rfl (fr_bsN rfl rfl Tryz.underlying49 (by kernel_rfl : _ = some (some (.agg #[.bool false, .string (S [])]), 2, 24)) (by kernel_rfl) (by decide) rfl rfl (by (simp [Value.cells]; done)) (by (simp only [List.map, Value.cells, List.flatMap_cons, List.flatMap_nil, List.append_nil, List.toList_toArray]; rfl)) (by decide)) ?_
 intro b21
 refine WJ.gv rfl rfl rfl rfl rfl (fun ext => og_call rfl rfl (by kernel_rfl) (keep_val fun w hS => (by have := holds_c (w := w) (s := s14) (ws := [ofZ 2, ofZ 1]) (a := some ⟨b21, 0, none⟩) (c := 2) hS.sl hS.sl hS.sl hS.os hS.more (saL_core (by rw [hc9]; decide +kernel)) (by decide); rw [hc9, aw2] at this; exact this))) ?_
 refine Kj rfl (rd_move rfl rfl) ?_
 refine Kj rfl (rd_extL rfl rfl rfl) ?_
 refine Kj rfl (rd_extL rfl rfl rfl) ?_
 refine Kj rfl (rd_assign rfl rfl) ?_
 refine Kj rfl (rd_assign rfl rfl) ?_
 refine WJ.nil ?_
 refine WL.nt (WC.sr ?_)
 refine Kh rfl (og_call rfl rfl (by kernel_rfl) (keep_val fun w hS => open26_c (m := 2) (r := 1) (by omega) (by omega))) ?_
 intro _
 refine Kh rfl (og_call rfl rfl (by kernel_rfl) (keep_val fun w hS => open26_c (m := 3) (r := 2) (by omega) (by omega))) ?_
 intro _
 refine Kh rfl (og_call rfl rfl (by kernel_rfl) (keep_val fun w hS => open26_c (m := 6) (r := 5) (by omega) (by omega))) ?_
 intro _
 refine Kh rfl (og_call rfl rfl (by kernel_rfl) (keep_f1 (val := fun g => .tuple #[g.val 3, .int .i64 0]) (p := fun g => g.cap = 3 + g.sp.length) (xs := ints [ofZ 3, ofZ 2, ofZ 2]) (T := 45) fun w hS => (by have := icpw_c (w := w) (a := (ofZ 2, ofZ 1)) (b := (ofZ 3, ofZ 2)) (c := (ofZ 6, ofZ 5)); rw [aw3] at this; exact this))) ?_
 intro g25; refine WL.pu ?_; intro hg25
 refine Km rfl (Kq rfl (rd_extL rfl rfl rfl) (Kq rfl (rd_extL rfl rfl rfl) (Ka rfl (Ka rfl (WL.nt (WC.sr ?_))))))
 refine Kh rfl (og_call rfl rfl (by kernel_rfl) (keep_val fun w hS => example26_c)) ?_
 intro _
 refine Kh rfl (og_call rfl rfl (by kernel_rfl) (keep_val fun w hS => of_c (n := 67) (by omega))) ?_
 intro _
 refine Kh rfl (og_call rfl rfl (by kernel_rfl) (keep_val fun w hS => of_c (n := 1) (by omega))) ?_
 intro _
 refine Kh rfl (og_call rfl rfl (by kernel_rfl) (keep_val fun w hS => of_c (n := 4) (by omega))) ?_
 intro _
 refine Kh rfl (og_call rfl rfl (by kernel_rfl) (keep_val fun w hS => of_c (n := 5) (by omega))) ?_
 intro _
 refine Kh rfl (og_call rfl rfl (by kernel_rfl) (keep_val fun w hS => of_c (n := 3) (by omega))) ?_
 intro _
 refine Kh rfl (og_call rfl rfl (by kernel_rfl) (keep_ff fun w hS => icprod_c (k := kS) (a := canon 67) (b := canon 1) (c := canon 4) (v := canon 5) (r := canon 3) (by decide +kernel))) ?_
 rintro s39
 refine WL.pu ?_
 intro hg39; (try dsimp only [List.cons_append, List.nil_append] at hg39 ⊢)
 refine Km rfl (Kq rfl (rd_extL rfl rfl rfl) (Kq rfl (rd_extL rfl rfl rfl) ?_))
 refine Kh rfl (og_alloc rfl (v := (.agg #[.slice none 0 0, .slice none 0 0, .slice none 0 0])) (cs := [.slice none 0 0, .slice none 0 0, .slice none 0 0]) (by kernel_rfl) rfl) ?_
 intro b7
 refine WL.g0 rfl rfl (sta rfl rfl rfl .tc ?_ ?_ ?_) ?_
 ·kernel_rfl
 ·simp [Value.oneCell']
 ·rfl
 intro _
 refine Ka rfl (WL.nt (WC.seq ?_))
 refine WC.free0 [0, 1, 2, 3, 4, 5, 6, 7, 8, 9, 10, 11, 12, 13, 15, 16, 17, 14, 18, 19, 20, 21, 22, 23, 24, 25, 26, 27, 28, 29, 30, 31, 37, 32, 33, 34, 35, 36, 38, 39, 40] [] [0, 0, 0, 0, 0, 0, 0, 0, 0, 0, 0, 0, 0, 0, 0, 1, 1, 1, 3, 1, 0, 0, 0, 0, 0, 0, 0, 0, 0, 0, 0, 0, 0, 0, 0, 0, 0, 1, 0, 0, 0] (by kernel_rfl) (by kernel_rfl) rfl ?_
 have hc32 : s39.core = prQ kS (canon 67) (canon 1) (canon 4) (canon 5) (canon 3) (canon 18) := hg39.trans (congrArg (·.1) aw4)
 obtain ⟨gs, vs, es, ga, gc, va, vc, ea, ec⟩ := s39
 obtain rfl : vs = [canon 5, canon 3, canon 18] := congrArg (·.2.1) hc32
 refine Kj rfl (rd_move rfl rfl) ?_
 refine Kj rfl (rd_eql rfl rfl rfl) ?_
 refine WJ.set 43 rfl (v' := .bool true) (by rw [aw1]; rfl) ?_
 refine Kj rfl (rd_move rfl rfl) ?_
 refine Kj rfl (rd_move rfl rfl) ?_
 refine Kj rfl (rd_eql rfl rfl rfl) ?_
 refine Kj rfl (rd_pickt rfl rfl rfl) ?_
 refine Kj rfl (rd_move rfl rfl) ?_
 refine WJ.set 48 rfl (v' := .bool true) (by rfl) ?_
 refine Kj rfl (rd_move rfl rfl) ?_
 refine Kj rfl (rd_pickt rfl rfl rfl) ?_
 refine Kj rfl (rd_move rfl rfl) ?_
 refine WJ.set 51 rfl (v' := .bool true) (by rfl) ?_
 refine Kj rfl (rd_move rfl rfl) ?_
 refine Kj rfl (rd_eql rfl rfl rfl) ?_
 refine Kj rfl (rd_pickt rfl rfl rfl) ?_
 refine Kj rfl (rd_move rfl rfl) ?_
 refine WJ.set 55 rfl (v' := .bool true) (by rfl) ?_
 refine WJ.gv rfl rfl rfl rfl rfl (fun ext => og_call rfl rfl (by kernel_rfl) (keep_val fun w hS => zof_c (n := 3) (by omega) (by omega))) ?_
 refine WJ.gv rfl rfl rfl rfl rfl (fun ext => og_call rfl rfl (by kernel_rfl) (keep_val fun w hS => zof_c (n := 2) (by omega) (by omega))) ?_
 refine WJ.gv rfl rfl rfl rfl rfl (fun ext => og_call rfl rfl (by kernel_rfl) (keep_val fun w hS => zof_c (n := 2) (by omega) (by omega))) ?_
 refine Kj rfl (rd_move rfl rfl) ?_
 refine WJ.f rfl rfl rfl rfl rfl (fr_bsN rfl rfl Tryz.underlying49 (by kernel_rfl : _ = some (some (.agg #[.bool false, .string (S [])]), 2, 24)) (by kernel_rfl) (by decide) rfl rfl (by (simp [Value.cells]; done)) (by (simp only [List.map, Value.cells, List.flatMap_cons, List.flatMap_nil, List.append_nil, List.toList_toArray]; rfl)) (by decide)) ?_
 intro b60
 refine WJ.gv rfl rfl rfl rfl rfl (fun ext => og_call rfl rfl (by kernel_rfl) (keep_val fun w hS => same_c (x := [ofZ 3, ofZ 2, ofZ 2]) (y := [ofZ 3, ofZ 2, ofZ 2]) (by (exact hS.sl)) (by (exact hS.os)) (by (simp <;> omega)))) ?_
 refine Kj rfl (rd_pickt rfl rfl rfl) ?_
 refine Kj rfl (rd_move rfl rfl) ?_
 refine WJ.set 63 rfl (v' := .bool true) (by rfl) ?_
 refine Kj rfl (rd_move rfl rfl) ?_
 refine Kj rfl (rd_eql rfl rfl rfl) ?_
 refine WJ.set 65 rfl (v' := .bool true) (by rw [aw4]; rfl) ?_
 refine Kj rfl (rd_pickt rfl rfl rfl) ?_
 refine Kj rfl (rd_move rfl rfl) ?_
 refine Kj rfl (rd_fa (q := 1) rfl rfl Tryz.underlying35 rfl (by kernel_rfl) rfl) ?_
 refine Kj rfl (ld rfl rfl .tc Tryz.underlying32 rfl (by rfl)) ?_
 refine Kj rfl (rd_len rfl rfl Tryz.underlying32) ?_
 refine Kj rfl (rd_eql rfl rfl rfl) ?_
 refine Kj rfl (rd_pickt rfl rfl rfl) ?_
 refine Kj rfl (rd_move rfl rfl) ?_
 refine WJ.set 73 rfl (v' := .bool true) (by rfl) ?_
 refine WJ.gv rfl rfl rfl rfl rfl (fun ext => og_call rfl rfl (by kernel_rfl) (keep_val fun w hS => of_c (n := 18) (by omega))) ?_
 refine Kj rfl (rd_fa (q := 1) rfl rfl Tryz.underlying35 rfl (by kernel_rfl) rfl) ?_
 refine Kj rfl (ld rfl rfl .tc Tryz.underlying32 rfl (by rfl)) ?_
 (refine Kj rfl (iaf rfl rfl rfl Tryz.underlying32 (by kernel_rfl : _ = some 1) ?_ ?_ (by (try simp only [sN, Int.reduceToNat, Nat.reduceAdd, Nat.reduceMul, Nat.reduceSub]); rfl)) ?_; (focus ((simp <;> omega))); (focus ((simp <;> omega))))
 (refine Kj rfl (rd_fa rfl rfl Tryz.underlying91 rfl (by kernel_rfl) (by (try simp only [sN, Int.reduceToNat, Nat.reduceAdd, Nat.reduceMul, Nat.reduceSub]); rfl)) ?_)
 refine Kj rfl (ldmf (l := [canon 5, canon 3, canon 18]) (f := vrC) (sz := 1) 2 0 rfl rfl Tryz.underlying22 rfl (fun _ => rfl) rfl (by decide) (by decide) rfl) ?_
 refine Kj rfl (rd_seq rfl rfl rfl) ?_
 refine Kj rfl (rd_pickt rfl rfl rfl) ?_
 refine Kj rfl (rd_assign rfl rfl) ?_
 refine WJ.nil ?_
 refine WL.nt (WC.ret ?_)
 exact WX.retN rfl (.tmp rfl .nil) fun w' hS => ⟨by rfl, hS.below⟩
end Go.Proofs.YtnimhldbblfgbaaGreat
namespace Go.Proofs.YtnimhldbblfgbaaGreat
set_option linter.unusedSimpArgs false
set_option linter.unusedVariables false
open Go.ChangeShapes Go.WideShapes Go.ChangeAt Go.RowKit
section
variable {H : Type} {enc : TypeId × Value → H} {P : Program} {w : World} {spare : Nat → Bool} {held : Bool}
theorem cell_block {b i : Nat} {v : Value} (h : w.cell? ⟨b, i, none⟩ = some v) : ∃ cs T fz, w.heap[b]? = some (.cells cs T fz) ∧ cs[i]? = some v := by
 unfold World.cell? at h
 split at h
 ·rename_i cs T fz hb
  refine ⟨cs, T, fz, hb, ?_⟩
  simpa using h
 ·simp at h
theorem slfact_of {a : Addr} {xs : List Value} (h : ∀ i v, xs[i]? = some v → w.cell? (a.add i) = some v) : (Fact.sl (some a) xs).holds (fun _ => True) w := by
 cases xs with
 | nil => exact .inl rfl
 | cons x xs =>
  right
  obtain ⟨b, off, spot⟩ := a
  have hspot : spot = none := by simpa [Addr.add] using World.cell?_spot (h 0 x rfl)
  subst hspot
  have h0 := h 0 x rfl
  rw [Addr.add_lit] at h0
  obtain ⟨cs, T, fz, hb, _⟩ := cell_block h0
  refine ⟨b, off, cs, T, fz, rfl, trivial, hb, fun i hi => ?_⟩
  have h1 := h i _ (List.getElem?_eq_getElem hi)
  rw [Addr.add_lit] at h1
  obtain ⟨cs', T', fz', hb', h2⟩ := cell_block h1
  rw [hb] at hb'; cases hb'
  rw [h2, List.getElem?_eq_getElem hi]
/-- a slice of strings -/
theorem op_strs {t e : TypeId} {v : Value} {d : DataW H} {ps : List MemPlace} {fuel : Nat} (ht : P.underlying t = some (.slice e)) (he : P.underlying e = some .string) (hc : P.cellsOf e = 1) (h : DataW.trod enc P w 0 spare held fuel t [v] = some (d, ps)) :
  ∃ (a : Option Addr) (l : List (List UInt8)) (cap : Nat), v = .slice a l.length cap ∧ l.length ≤ cap ∧ cap ≤ maxLen ∧ (∀ s ∈ l, s.length ≤ maxLen) ∧ (Fact.sl a (l.map fun s => .string (S s))).holds (fun _ => True) w := by
 rcases open_strings ht he hc h with ⟨hcs, hx⟩ | ⟨a, len', cap', ss, hcs, _, hl, hm, hz, hx, hcell, hsz⟩
 ·obtain rfl : v = .slice none 0 0 := by simpa using hcs
  exact ⟨none, [], 0, rfl, Nat.le_refl _, by decide, by simp, .inl rfl⟩
 ·obtain rfl : v = .slice (some a) len' cap' := by simpa using hcs
  have hlen : len' ≤ ss.length := by rw [hz]; split <;> omega
  refine ⟨some a, (ss.take len').map (·.data.toList), cap', by simp; omega, by simp; omega, hm, ?_, slfact_of fun i v hv => ?_⟩
  ·intro s hs
   obtain ⟨x, hx, rfl⟩ := List.mem_map.1 hs
   have := hsz x (List.mem_of_mem_take hx)
   show x.data.toList.length ≤ maxLen
   rw [Array.length_toList]; exact this
  ·simp only [List.map_map, List.getElem?_map, Option.map_eq_some_iff, Function.comp] at hv
   obtain ⟨x, hx, rfl⟩ := hv
   have hi : i < ss.length := by have := (List.getElem?_eq_some_iff.1 hx).1; simp at this; omega
   rw [hcell i hi, S_data]
   have : ss[i]? = some x := by rw [List.getElem?_take] at hx; split at hx; exact hx; cases hx
   simp [List.getD, this]
end
end Go.Proofs.YtnimhldbblfgbaaGreat
namespace Go.Proofs.YtnimhldbblfgbaaGreat
set_option linter.unusedSimpArgs false
set_option linter.unusedVariables false
open Go.ChangeShapes Go.WideShapes Go.ChangeAt Go.RowKit
/-- A slice as0 the caller laid it. -/
structure Sl (α : Type) where
 a : Option Addr
 l : List α
 cap : Nat
abbrev Sl.val {α : Type} (s : Sl α) : Value := .slice s.a s.l.length s.cap
section
variable {H : Type} {enc : TypeId × Value → H} {P : Program} {w : World} {spare : Nat → Bool} {held : Bool} {fuel : Nat} {t e : TypeId} {cs : List Value} {x : DataW H × List MemPlace}
theorem op_str (ht : P.underlying t = some .string) (h : DataW.trod enc P w 0 spare held fuel t cs = some x) : ∃ s : List UInt8, cs = [.string (S s)] ∧ s.length ≤ maxLen := by
 cases fuel with
 | zero => simp [DataW.trod] at h
 | succ n =>
  simp only [DataW.trod, ht] at h
  split at h <;> simp_all
  rename_i s
  exact ⟨s.data.toList, (S_data s).symm, by simpa using h.1⟩
theorem op_int {k : IntKind} (ht : P.underlying t = some (.int k)) (h : DataW.trod enc P w 0 spare held fuel t cs = some x) : ∃ n : Int, cs = [.int k n] ∧ (Lit.int k n).wf = true := by
 cases fuel with
 | zero => simp [DataW.trod] at h
 | succ n =>
  simp only [DataW.trod, ht] at h
  split at h <;> simp_all
theorem op_bool (ht : P.underlying t = some .bool) (h : DataW.trod enc P w 0 spare held fuel t cs = some x) : ∃ b : Bool, cs = [.bool b] := by
 cases fuel with
 | zero => simp [DataW.trod] at h
 | succ n =>
  simp only [DataW.trod, ht] at h
  split at h <;> simp_all
theorem mapM_all {α β : Type} {f : α → Option β} : ∀ {l : List α} {r : List β}, l.mapM f = some r → ∀ y ∈ l, ∃ z, f y = some z
 | [], _, _, y, hy => by cases hy
 | a :: l, r, h, y, hy => by
  rw [List.mapM_cons] at h
  cases hf : f a with
  | none => simp [hf] at h
  | some z =>
   cases hr : l.mapM f with
   | none => simp [hf, hr] at h
   | some r' =>
    rcases List.mem_cons.1 hy with rfl | hy
    ·exact ⟨z, hf⟩
    ·exact mapM_all hr y hy
theorem op_struct {fs : Array Field} (ht : P.underlying t = some (.struct fs)) (h : DataW.trod enc P w 0 spare held fuel t cs = some x) :
  cs.length = P.cellsOf t ∧ ∃ m, ∀ f ∈ fs.toList, ∃ y, DataW.trod enc P w 0 spare held m f.type ((cs.drop f.offset).take (P.cellsOf f.type)) = some y := by
 cases fuel with
 | zero => simp [DataW.trod] at h
 | succ n =>
  simp only [DataW.trod, ht] at h
  split at h
  ·rename_i hl
   refine ⟨hl, n, fun f hf => ?_⟩
   obtain ⟨xs, hxs, _⟩ := Option.map_eq_some_iff.1 h
   exact mapM_all hxs f hf
  ·cases h
theorem op_array {n : Nat} (ht : P.underlying t = some (.array n e)) (h : DataW.trod enc P w 0 spare held fuel t cs = some x) :
  cs.length = P.cellsOf t ∧ ∃ m, ∀ i, i < n → ∃ y, DataW.trod enc P w 0 spare held m e ((cs.drop (i * P.cellsOf e)).take (P.cellsOf e)) = some y := by
 cases fuel with
 | zero => simp [DataW.trod] at h
 | succ q =>
  simp only [DataW.trod, ht] at h
  split at h
  ·rename_i hl
   refine ⟨hl, q, fun i hi => ?_⟩
   obtain ⟨xs, hxs, _⟩ := Option.map_eq_some_iff.1 h
   exact mapM_all hxs i (List.mem_range.2 hi)
  ·cases h
theorem cells?_get {a : Addr} {n : Nat} {ys : List Value} (h : w.cells? 0 a n = some ys) : ys.length = n ∧ ∀ i v, ys[i]? = some v → w.cell? (a.add i) = some v := by
 unfold World.cells? at h
 simp only [Nat.zero_le, if_true] at h
 have key : ∀ (l : List Nat) (ys : List Value), (l.mapM fun i => w.cell? (a.add i)) = some ys → ys.length = l.length ∧ ∀ (i : Nat) (v : Value), ys[i]? = some v → ∃ j : Nat, l[i]? = some j ∧ w.cell? (a.add j) = some v := by
  intro l
  induction l with
  | nil => intro ys h; simp at h; subst h; simp
  | cons j l ih =>
   intro ys h
   rw [List.mapM_cons] at h
   cases hf : w.cell? (a.add j) with
   | none => simp [hf] at h
   | some z =>
    cases hr : l.mapM fun i => w.cell? (a.add i) with
    | none => simp [hf, hr] at h
    | some r' =>
     simp [hf, hr] at h
     subst h
     obtain ⟨h1, h2⟩ := ih r' hr
     refine ⟨by simp [h1], fun i v hi => ?_⟩
     cases i with
     | zero => simp at hi; subst hi; exact ⟨j, rfl, hf⟩
     | succ i => simp at hi; simpa using h2 i v hi
 obtain ⟨h1, h2⟩ := key _ _ h
 refine ⟨by simpa using h1, fun i v hi => ?_⟩
 obtain ⟨j, hj, hc⟩ := h2 i v hi
 have : i < n := by
  have := (List.getElem?_eq_some_iff.1 hj).1
  simpa using this
 rw [List.getElem?_range this] at hj
 cases hj
 exact hc
/-- a slice, its elements opened in their turn -/
theorem op_slice {α : Type} [Inhabited α] {cells : α → List Value} {F : α → Prop} (sz : Nat) (ht : P.underlying t = some (.slice e)) (hc : P.cellsOf e = sz) (hsz : ∀ a, (cells a).length = sz)
  (hel : ∀ m cs (y : DataW H × List MemPlace), DataW.trod enc P w 0 spare held m e cs = some y → ∃ a : α, cs = cells a ∧ F a) (h : DataW.trod enc P w 0 spare held fuel t cs = some x) :
  ∃ s : Sl α, cs = [s.val] ∧ s.l.length ≤ s.cap ∧ s.cap ≤ maxLen ∧ (Fact.sl s.a (s.l.flatMap cells)).holds (fun _ => True) w ∧ ∀ y ∈ s.l, F y := by
 cases fuel with
 | zero => simp [DataW.trod] at h
 | succ n =>
  simp only [DataW.trod, ht] at h
  split at h
  all_goals (try (rename_i hq; cases hq; done))
  all_goals (try (cases h; done))
  all_goals (try (rename_i hq _; cases hq; done))
  ·exact ⟨⟨none, [], 0⟩, rfl, Nat.le_refl _, Nat.zero_le _, .inl rfl, by simp⟩
  ·rename_i e' a len cap he
   cases he
   split at h <;> try cases h
   rename_i hb
   obtain ⟨elems, hm, _⟩ := Option.bind_eq_some_iff.1 h
   have hall : ∀ i, i < len → ∃ ys : List Value, w.cells? 0 (a.add (i * sz)) sz = some ys ∧ ∃ q : α, ys = cells q ∧ F q := fun i hi => by
    obtain ⟨z, hz⟩ := mapM_all hm i (List.mem_range.2 hi)
    obtain ⟨ys, h1, h2⟩ := Option.bind_eq_some_iff.1 hz
    rw [hc] at h1
    obtain ⟨q, hq, hF⟩ := hel _ _ _ h2
    exact ⟨ys, h1, q, hq, hF⟩
   have hlist : ∀ k, k ≤ len → ∃ l : List α, l.length = k ∧ (∀ y ∈ l, F y) ∧ ∀ i, i < k → w.cells? 0 (a.add (i * sz)) sz = some (cells (l.getD i default)) := by
    intro k
    induction k with
    | zero => intro _; exact ⟨[], rfl, by simp, fun i hi => by omega⟩
    | succ k ih =>
     intro hk
     obtain ⟨l, h1, h2, h3⟩ := ih (by omega)
     obtain ⟨ys, hy, q, rfl, hF⟩ := hall k (by omega)
     refine ⟨l ++ [q], by simp [h1], fun y hy' => ?_, fun i hi => ?_⟩
     ·rcases List.mem_append.1 hy' with h | h
      ·exact h2 y h
      ·simp at h; subst h; exact hF
     ·by_cases hik : i = k
      ·subst hik; rw [hy]; simp [List.getD, ← h1]
      ·rw [h3 i (by omega)]; simp only [List.getD]; rw [List.getElem?_append_left (by omega)]
   obtain ⟨l, h1, h2, h3⟩ := hlist len (Nat.le_refl _)
   refine ⟨⟨some a, l, cap⟩, by simp [h1], by simp [h1]; exact hb.2.1, hb.2.2, slfact_of fun i v hv => ?_, h2⟩
   have hlen := flatMap_len l cells sz hsz
   have hi : i < l.length * sz := by rw [← hlen]; exact (List.getElem?_eq_some_iff.1 hv).1
   have hs0 : 0 < sz := by rcases Nat.eq_zero_or_pos sz with h0 | h0; · subst h0; omega
                           ·exact h0
   have hj : i / sz < l.length := Nat.div_lt_of_lt_mul (by rw [Nat.mul_comm]; exact hi)
   obtain ⟨_, h5⟩ := cells?_get (h3 (i / sz) (by omega))
   have h6 := h5 (i % sz) v (by
    rw [← flatMap_at l cells sz hsz (i / sz) hj, List.getElem?_take, if_pos (Nat.mod_lt _ hs0), List.getElem?_drop, Nat.mul_comm, Nat.div_add_mod]; exact hv)
   have e1 : (a.add (i / sz * sz)).add (i % sz) = a.add i := by
    have h7 : i / sz * sz + i % sz = i := by rw [Nat.mul_comm]; exact Nat.div_add_mod i sz
    have h8 : ∀ p q : Nat, (a.add p).add q = a.add (p + q) := fun p q => by by_cases hp : p = 0 <;> by_cases hq : q = 0 <;> simp [Addr.add, hp, hq, Nat.add_assoc]
    rw [h8, h7]
   rw [e1] at h6; exact h6
theorem fm_one {α : Type} (f : α → Value) (l : List α) : l.flatMap (fun x => [f x]) = l.map f := by induction l with | nil => rfl | cons x l ih => simp [ih]
theorem sl_map {α : Type} {a : Option Addr} {l : List α} {f : α → Value} {ok : Nat → Prop} (h : (Fact.sl a (l.flatMap fun x => [f x])).holds ok w) : (Fact.sl a (l.map f)).holds ok w := by rw [fm_one] at h; exact h
end
end Go.Proofs.YtnimhldbblfgbaaGreat
namespace Go.Proofs.YtnimhldbblfgbaaGreat
set_option linter.unusedSimpArgs false
set_option linter.unusedVariables false
open Go.ChangeShapes Go.WideShapes Go.ChangeAt Go.RowKit
/-- what is met is of the form's reach -/
def Wt {H : Type} (P : Program) (t : TypeId) (d : DataW H) : Prop := ∀ n ∈ d.weights P t, n ≤ 140737488351232
theorem wt_all {H : Type} {P : Program} {ts : List TypeId} {ds : List (DataW H)} (h : (DataW.weightsEach P ts ds).all (· ≤ reachBytes) = true) {j : Nat} {t : TypeId} {d : DataW H} (ht : ts[j]? = some t) (hd : ds[j]? = some d) : Wt P t d := fun n hn => by
 have := List.all_eq_true.1 h n (DataW.weights_mem_each ht hd n hn)
 exact of_decide_eq_true this
theorem weightsAll_mem {H : Type} {P : Program} {e : TypeId} {d : DataW H} {n : Nat} : ∀ {l : List (DataW H)}, d ∈ l → n ∈ d.weights P e → n ∈ DataW.weightsAll P e l
 | [], h, _ => by cases h
 | x :: l, h, hn => by
  simp only [DataW.weightsAll, List.mem_append]
  rcases List.mem_cons.1 h with rfl | h
  ·exact .inl hn
  ·exact .inr (weightsAll_mem h hn)
theorem mapM_get {α β : Type} {f : α → Option β} : ∀ {l : List α} {r : List β}, l.mapM f = some r → ∀ (i : Nat) y, l[i]? = some y → ∃ z, f y = some z ∧ r[i]? = some z
 | [], _, _, i, y, hy => by simp at hy
 | a :: l, r, h, i, y, hy => by
  rw [List.mapM_cons] at h
  cases hf : f a with
  | none => simp [hf] at h
  | some z =>
   cases hr : l.mapM f with
   | none => simp [hf, hr] at h
   | some r' =>
    simp [hf, hr] at h
    subst h
    cases i with
    | zero => simp at hy; subst hy; exact ⟨z, hf, rfl⟩
    | succ i => simp at hy; simpa using mapM_get hr i y hy
theorem mapM_len {α β : Type} {f : α → Option β} : ∀ {l : List α} {r : List β}, l.mapM f = some r → r.length = l.length
 | [], r, h => by simp at h; subst h; rfl
 | a :: l, r, h => by
  rw [List.mapM_cons] at h
  cases hf : f a with
  | none => simp [hf] at h
  | some z =>
   cases hr : l.mapM f with
   | none => simp [hf, hr] at h
   | some r' => simp [hf, hr] at h; subst h; simp [mapM_len hr]
section
variable {H : Type} {enc : TypeId × Value → H} {P : Program} {w : World} {spare : Nat → Bool} {held : Bool} {fuel : Nat} {t e : TypeId} {cs : List Value} {x : DataW H × List MemPlace}
theorem opz_str (ht : P.underlying t = some .string) (h : DataW.trod enc P w 0 spare held fuel t cs = some x) (hz : Wt P t x.1) : ∃ s : List UInt8, cs = [.string (S s)] ∧ s.length ≤ 140737488351232 := by
 cases fuel with
 | zero => simp [DataW.trod] at h
 | succ n =>
  simp only [DataW.trod, ht] at h
  split at h <;> simp_all
  rename_i s
  obtain ⟨h1, rfl⟩ := h
  refine ⟨s.data.toList, (S_data s).symm, hz _ ?_⟩
  simp [DataW.weights]
theorem opz_struct {fs : Array Field} (ht : P.underlying t = some (.struct fs)) (h : DataW.trod enc P w 0 spare held fuel t cs = some x) (hz : Wt P t x.1) :
  cs.length = P.cellsOf t ∧ ∃ m, ∀ (j : Nat) f, fs.toList[j]? = some f → ∃ y, DataW.trod enc P w 0 spare held m f.type ((cs.drop f.offset).take (P.cellsOf f.type)) = some y ∧ Wt P f.type y.1 := by
 cases fuel with
 | zero => simp [DataW.trod] at h
 | succ n =>
  simp only [DataW.trod, ht] at h
  split at h
  ·rename_i hl
   refine ⟨hl, n, fun j f hf => ?_⟩
   obtain ⟨xs, hxs, rfl⟩ := Option.map_eq_some_iff.1 h
   obtain ⟨z, h1, h2⟩ := mapM_get hxs j f hf
   refine ⟨z, h1, fun n hn => hz n ?_⟩
   simp only [DataW.weights, ht]
   exact DataW.weights_mem_each (j := j) (by rw [List.getElem?_map, hf]; rfl) (by rw [List.getElem?_map, h2]; rfl) n hn
  ·cases h
theorem opz_array {n : Nat} (ht : P.underlying t = some (.array n e)) (h : DataW.trod enc P w 0 spare held fuel t cs = some x) (hz : Wt P t x.1) :
  cs.length = P.cellsOf t ∧ ∃ m, ∀ i, i < n → ∃ y, DataW.trod enc P w 0 spare held m e ((cs.drop (i * P.cellsOf e)).take (P.cellsOf e)) = some y ∧ Wt P e y.1 := by
 cases fuel with
 | zero => simp [DataW.trod] at h
 | succ q =>
  simp only [DataW.trod, ht] at h
  split at h
  ·rename_i hl
   refine ⟨hl, q, fun i hi => ?_⟩
   obtain ⟨xs, hxs, rfl⟩ := Option.map_eq_some_iff.1 h
   obtain ⟨z, h1, h2⟩ := mapM_get hxs i i (List.getElem?_range hi)
   refine ⟨z, h1, fun n hn => hz n ?_⟩
   simp only [DataW.weights, ht]
   exact weightsAll_mem (List.mem_map.2 ⟨z, List.mem_of_getElem? h2, rfl⟩) hn
  ·cases h
/-- a slice, its elements opened in their turn -/
theorem opz_slice {α : Type} [Inhabited α] {cells : α → List Value} {F : α → Prop} (sz bz : Nat) (hbz : P.bytesOf e = bz) (ht : P.underlying t = some (.slice e)) (hc : P.cellsOf e = sz) (hsz : ∀ a, (cells a).length = sz)
  (hel : ∀ m cs (y : DataW H × List MemPlace), DataW.trod enc P w 0 (fun _ => true) held m e cs = some y → Wt P e y.1 → ∃ a : α, cs = cells a ∧ F a) (h : DataW.trod enc P w 0 (fun _ => true) held fuel t cs = some x) (hz : Wt P t x.1) :
  ∃ s : Sl α, cs = [s.val] ∧ s.l.length ≤ s.cap ∧ s.cap * bz ≤ 140737488351232 ∧ (Fact.sl s.a (s.l.flatMap cells)).holds (fun _ => True) w ∧ ∀ y ∈ s.l, F y := by
 cases fuel with
 | zero => simp [DataW.trod] at h
 | succ n =>
  simp only [DataW.trod, ht] at h
  split at h
  all_goals (try (rename_i hq; cases hq; done))
  all_goals (try (cases h; done))
  all_goals (try (rename_i hq _; cases hq; done))
  ·exact ⟨⟨none, [], 0⟩, rfl, Nat.le_refl _, by simp, .inl rfl, by simp⟩
  ·rename_i e' a len cap he
   cases he
   split at h <;> try cases h
   rename_i hb
   obtain ⟨elems, hm, h'⟩ := Option.bind_eq_some_iff.1 h
   simp only [if_true] at h'
   obtain ⟨rest, hr, rfl⟩ := Option.map_eq_some_iff.1 h'
   have hzl : ∀ n ∈ (DataW.slice (elems.map (·.1)) (rest.map (·.1))).weights P t, n ≤ 140737488351232 := hz
   simp only [DataW.weights, ht] at hzl
   have hcb : cap * bz ≤ 140737488351232 := by
    have h1 := hzl _ (List.mem_cons_self)
    have h2 := mapM_len hm
    have h3 := mapM_len hr
    simp only [List.length_map, List.length_range] at h1 h2 h3
    rw [hbz, h2, h3, show len + (cap - len) = cap by omega] at h1
    exact h1
   have hall : ∀ i, i < len → ∃ ys : List Value, w.cells? 0 (a.add (i * sz)) sz = some ys ∧ ∃ q : α, ys = cells q ∧ F q := fun i hi => by
    obtain ⟨z, hz1, hz2⟩ := mapM_get hm i i (List.getElem?_range hi)
    obtain ⟨ys, h1, h2⟩ := Option.bind_eq_some_iff.1 hz1
    rw [hc] at h1
    obtain ⟨q, hq, hF⟩ := hel _ _ _ h2 (fun n hn => hzl n (List.mem_cons_of_mem _ (List.mem_append_left _ (weightsAll_mem (List.mem_map.2 ⟨z, List.mem_of_getElem? hz2, rfl⟩) hn))))
    exact ⟨ys, h1, q, hq, hF⟩
   have hlist : ∀ k, k ≤ len → ∃ l : List α, l.length = k ∧ (∀ y ∈ l, F y) ∧ ∀ i, i < k → w.cells? 0 (a.add (i * sz)) sz = some (cells (l.getD i default)) := by
    intro k
    induction k with
    | zero => intro _; exact ⟨[], rfl, by simp, fun i hi => by omega⟩
    | succ k ih =>
     intro hk
     obtain ⟨l, h1, h2, h3⟩ := ih (by omega)
     obtain ⟨ys, hy, q, rfl, hF⟩ := hall k (by omega)
     refine ⟨l ++ [q], by simp [h1], fun y hy' => ?_, fun i hi => ?_⟩
     ·rcases List.mem_append.1 hy' with h | h
      ·exact h2 y h
      ·simp at h; subst h; exact hF
     ·by_cases hik : i = k
      ·subst hik; rw [hy]; simp [List.getD, ← h1]
      ·rw [h3 i (by omega)]; simp only [List.getD]; rw [List.getElem?_append_left (by omega)]
   obtain ⟨l, h1, h2, h3⟩ := hlist len (Nat.le_refl _)
   refine ⟨⟨some a, l, cap⟩, by simp [h1], by simp [h1]; exact hb.2.1, hcb, slfact_of fun i v hv => ?_, h2⟩
   have hlen := flatMap_len l cells sz hsz
   have hi : i < l.length * sz := by rw [← hlen]; exact (List.getElem?_eq_some_iff.1 hv).1
   have hs0 : 0 < sz := by rcases Nat.eq_zero_or_pos sz with h0 | h0; · subst h0; omega
                           ·exact h0
   have hj : i / sz < l.length := Nat.div_lt_of_lt_mul (by rw [Nat.mul_comm]; exact hi)
   obtain ⟨_, h5⟩ := cells?_get (h3 (i / sz) (by omega))
   have h6 := h5 (i % sz) v (by
    rw [← flatMap_at l cells sz hsz (i / sz) hj, List.getElem?_take, if_pos (Nat.mod_lt _ hs0), List.getElem?_drop, Nat.mul_comm, Nat.div_add_mod]; exact hv)
   have e1 : (a.add (i / sz * sz)).add (i % sz) = a.add i := by
    have h7 : i / sz * sz + i % sz = i := by rw [Nat.mul_comm]; exact Nat.div_add_mod i sz
    have h8 : ∀ p q : Nat, (a.add p).add q = a.add (p + q) := fun p q => by by_cases hp : p = 0 <;> by_cases hq : q = 0 <;> simp [Addr.add, hp, hq, Nat.add_assoc]
    rw [h8, h7]
   rw [e1] at h6; exact h6
end
end Go.Proofs.YtnimhldbblfgbaaGreat
