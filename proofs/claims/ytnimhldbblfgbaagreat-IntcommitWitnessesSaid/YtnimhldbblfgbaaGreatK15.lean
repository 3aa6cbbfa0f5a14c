/-
  Parts of the walk: Ric Lin5 Lin6 Eqt.
-/
import Derived.Test.YtnimhldbblfgbaaGreatK14
namespace Go.Proofs.YtnimhldbblfgbaaGreat
set_option linter.unusedSimpArgs false
set_option linter.unusedVariables false
set_option maxRecDepth 20000
set_option maxHeartbeats 600000
open Go.RowKit
theorem icform_c {k : PK} {w : World} :
  Calls Tryz.prog 52 #[pkV k] w fun e w' => e = .returned (.bool (decide (okK k))) ∧ Below w.heap.size w w' := by
 refine enter (S := St (fun _ => True) w [] ([])) (L := [(0, pkV k)]) Tryz.func52 rfl Tryz.ntmps52 rfl (args_cons rfl (args_nil _)) (St.start (fun _ _ => trivial) facts_nil) ?_
 refine WC.sr ?_
 refine Kh rfl (og_box rfl rfl (by (exact cells_agg _))) ?_
 intro b1
 refine Ka rfl (WL.nt (WC.sr ?_))
 refine Kq rfl (rd_fa (q := 0) rfl rfl Tryz.underlying26 rfl (by kernel_rfl) rfl) ?_
 refine Kq rfl (rd_fa (q := 0) rfl rfl Tryz.underlying24 rfl (by kernel_rfl) rfl) ?_
 refine Kq rfl (ld rfl rfl .tc Tryz.underlying22 rfl (by rfl)) ?_
 refine Kh rfl (og_call rfl rfl (by kernel_rfl) (keep_val fun w hS => rvalid_c (a := k.1.1))) ?_
 intro _
 refine Km rfl ?_
 refine WL.bool 7 rfl (fun hg7 => ?_) (fun hg7 => ?_)
 ·(try simp only [sB] at hg7)
  refine Kq rfl (rd_fa (q := 0) rfl rfl Tryz.underlying26 rfl (by kernel_rfl) rfl) ?_
  refine Kq rfl (rd_fa (q := 1) rfl rfl Tryz.underlying24 rfl (by kernel_rfl) rfl) ?_
  refine Kq rfl (ld rfl rfl .tc Tryz.underlying22 rfl (by rfl)) ?_
  refine Kh rfl (og_call rfl rfl (by kernel_rfl) (keep_val fun w hS => rvalid_c (a := k.1.2))) ?_
  intro _
  refine Kq rfl (rd_pickt rfl rfl rfl) (Km rfl ?_)
  refine WL.bool 13 rfl (fun hg13 => ?_) (fun hg13 => ?_)
  ·(try simp only [sB] at hg13)
   refine Kq rfl (rd_fa (q := 2) rfl rfl Tryz.underlying26 rfl (by kernel_rfl) rfl) ?_
   refine Kq rfl (ld rfl rfl .tc Tryz.underlying22 rfl (by rfl)) ?_
   refine Kh rfl (og_call rfl rfl (by kernel_rfl) (keep_val fun w hS => rvalid_c (a := k.2.1))) ?_
   intro _
   refine Kq rfl (rd_pickt rfl rfl rfl) (Km rfl ?_)
   refine WL.bool 18 rfl (fun hg18 => ?_) (fun hg18 => ?_)
   ·(try simp only [sB] at hg18)
    refine Kq rfl (rd_fa (q := 3) rfl rfl Tryz.underlying26 rfl (by kernel_rfl) rfl) ?_
    refine Kq rfl (ld rfl rfl .tc Tryz.underlying22 rfl (by rfl)) ?_
    refine Kh rfl (og_call rfl rfl (by kernel_rfl) (keep_val fun w hS => rvalid_c (a := k.2.2))) ?_
    intro _
    refine Kq rfl (rd_pickt rfl rfl rfl) (Ka rfl (WL.nt (WC.ret ?_)))
    exact WX.retN rfl (.tmp rfl .nil) fun w' hS => ⟨by simp [*, tup, okK], hS.below⟩
   ·(try simp only [sB] at hg18)
    refine Kt rfl (Kt rfl (Kt rfl (Kq rfl (rd_pickf rfl rfl rfl) (Ka rfl (WL.nt (WC.ret ?_))))))
    exact WX.retN rfl (.tmp rfl .nil) fun w' hS => ⟨by simp [*, tup, okK], hS.below⟩
  ·(try simp only [sB] at hg13)
   refine Kt rfl (Kt rfl (Kt rfl (Kq rfl (rd_pickf rfl rfl rfl) (Km rfl (Kt rfl (Kt rfl (Kt rfl (Kq rfl (rd_pickf rfl rfl rfl) (Ka rfl (WL.nt (WC.ret ?_)))))))))))
   exact WX.retN rfl (.tmp rfl .nil) fun w' hS => ⟨by simp [*, tup, okK], hS.below⟩
 ·(try simp only [sB] at hg7)
  refine Kt rfl (Kt rfl (Kt rfl (Kt rfl (Kq rfl (rd_pickf rfl rfl rfl) (Km rfl (Kt rfl (Kt rfl (Kt rfl (Kq rfl (rd_pickf rfl rfl rfl) (Km rfl (Kt rfl ?_)))))))))))
  refine Kt rfl (Kt rfl (Kq rfl (rd_pickf rfl rfl rfl) (Ka rfl (WL.nt (WC.ret ?_)))))
  exact WX.retN rfl (.tmp rfl .nil) fun w' hS => ⟨by simp [*, tup, okK], hS.below⟩
theorem icbounds_c {v r : Bs} {w : World} :
  Calls Tryz.prog 56 #[.string (S v), .string (S r)] w fun e w' => e = .returned (.int .i64 (bndE v r)) ∧ Below w.heap.size w w' := by
 refine enter (S := St (fun _ => True) w [] ([])) (L := [(0, .string (S v)), (1, .string (S r))]) Tryz.func56 rfl Tryz.ntmps56 rfl (args_cons rfl (args_cons rfl (args_nil _))) (St.start (fun _ _ => trivial) facts_nil) ?_
 refine WC.sr (Ka rfl (WL.nt (WC.seq ?_)))
 refine WC.joinP (σ := Unit) [] (fun gq => [(10, .bool (decide (v = [] ∨ r = [])))]) (fun gq => True) (sub_nil _) ?_ ?_
 ·skip
  refine WC.region (Km rfl (Kq rfl (rd_seq rfl rfl rfl) (Km rfl ?_)))
  refine WL.bool 7 rfl (fun hg7 => ?_) (fun hg7 => ?_)
  ·(try simp only [sB] at hg7)
   refine Kt rfl (Kt rfl (Kq rfl (rd_pickt rfl rfl rfl) (WL.nil ?_)))
   refine WX.joinP (()) (sub_nil _) (by refine (sub_cons ?_ (sub_nil _)) <;> ((refine slot_b rfl ?_; (try dsimp only); (simp [*]; done)))) ?_ (by (exact fun _ h => h))
   (try dsimp only)
   done
  ·(try simp only [sB] at hg7)
   refine Km rfl (Kq rfl (rd_seq rfl rfl rfl) (Kq rfl (rd_pickf rfl rfl rfl) (WL.nil ?_)))
   refine WX.joinP (()) (sub_nil _) (by refine (sub_cons ?_ (sub_nil _)) <;> ((refine slot_b rfl ?_; (try dsimp only); (simp [*]; done)))) ?_ (by (exact fun _ h => h))
   (try dsimp only)
   done
 ·rintro _ hmeet; (try dsimp only at hmeet ⊢)
  refine WC.cond rfl (fun hc10 => ?_) (fun hc10 => ?_)
  ·(try simp only [sB] at hc10)
   refine WC.sr (Ka rfl (WL.nt (WC.ret (WX.then_ret ?_))))
   exact WX.retN rfl (.tmp rfl .nil) fun w' hS => ⟨by rw [bndE, if_pos hc10]; rfl, hS.below⟩
  ·(try simp only [sB] at hc10)
   refine WC.skip (WX.then_normal (WC.sr (Ka rfl (WL.nt (WC.ret ?_)))))
   exact WX.retN rfl (.tmp rfl .nil) fun w' hS => ⟨by rw [bndE, if_neg hc10]; rfl, hS.below⟩
theorem icterm_c {b : Bs} {v : Int} {w : World} :
  Calls Tryz.prog 57 #[.string (S b), .int .i64 v] w fun e w' => e = .returned (.agg #[.string (S b), .int .i64 v, .bool (ofZ 1).1, .string (S (ofZ 1).2)]) ∧ Below w.heap.size w w' := by
 refine enter (S := St (fun _ => True) w [] ([])) (L := [(0, .string (S b)), (1, .int .i64 v)]) Tryz.func57 rfl Tryz.ntmps57 rfl (args_cons rfl (args_cons rfl (args_nil _))) (St.start (fun _ _ => trivial) facts_nil) ?_
 refine WC.sr ?_
 refine Kh rfl (og_alloc rfl (v := (.agg #[.string (S []), .int .i64 0, .bool false, .string (S [])])) (cs := [.string (S []), .int .i64 0, .bool false, .string (S [])]) (by kernel_rfl) rfl) ?_
 intro b4
 refine WL.nt (WC.sr (Km rfl (Km rfl ?_)))
 refine Kh rfl (og_call rfl rfl (by kernel_rfl) (keep_val fun w hS => rzof_c (n := 1) (by omega) (by omega))) ?_
 intro _
 refine Kq rfl (rd_bld [[.string (S [])], [.int .i64 0], [.bool false, .string (S [])]] rfl rfl (by simp only [bld, fldv, Nat.beq, Value.cells, cond_true, cond_false, List.nil_append, List.cons_append, List.append_nil]; rfl) (fun w => by kernel_rfl)) ?_
 refine WL.g0 rfl rfl (sta rfl rfl rfl .tc ?_ ?_ ?_) ?_
 ·kernel_rfl
 ·simp [Value.oneCell']
 ·rfl
 intro _
 refine WL.nt (WC.ret ?_)
 exact WX.retN rfl (.agg rfl .tc Tryz.underlying110 rfl (by kernel_rfl) .nil) fun w' hS => ⟨by rfl, hS.below⟩
theorem iccross_c {v r : Bs} {w : World} :
  Calls Tryz.prog 64 #[.string (S v), .string (S r)] w fun e w' => e = .returned (NE (crossS v r)) ∧ Below w.heap.size w w' := by
 refine enter (S := St (fun _ => True) w [] ([])) (L := [(0, .string (S v)), (1, .string (S r))]) Tryz.func64 rfl Tryz.ntmps64 rfl (args_cons rfl (args_cons rfl (args_nil _))) (St.start (fun _ _ => trivial) facts_nil) ?_
 refine WC.sr (Ka rfl (Ka rfl (WL.nt (WC.sr (Km rfl (Km rfl ?_))))))
 refine Kh rfl (og_call rfl rfl (by kernel_rfl) (keep_val fun w hS => rmul_c (a := v) (b := r))) ?_
 intro _
 refine Km rfl (Kq rfl (rd_extL rfl rfl rfl) (Kq rfl (rd_extL rfl rfl rfl) (Ka rfl (Ka rfl (WL.nt (WC.seq (WC.sr (Km rfl (Kq rfl (rd_neq rfl rfl rfl) (WL.nt ?_))))))))))
 refine WC.cond rfl (fun hc15 => ?_) (fun hc15 => ?_)
 ·(try simp only [sB] at hc15)
  refine WC.sr (Km rfl (Ka rfl (Ka rfl (WL.nt (WC.ret (WX.then_ret ?_))))))
  exact WX.retN rfl (.tmp rfl (.tmp rfl .nil)) fun w' hS => ⟨by rw [crossS, if_pos (by simpa using hc15)]; rfl, hS.below⟩
 ·(try simp only [sB] at hc15)
  refine WC.skip (WX.then_normal (WC.sr (Km rfl (Km rfl ?_))))
  refine Kh rfl (og_call rfl rfl (by kernel_rfl) (keep_val fun w hS => radd_c (a := (mulN v r).1) (b := r))) ?_
  intro _
  refine Kq rfl (rd_extL rfl rfl rfl) (Kq rfl (rd_extL rfl rfl rfl) (Ka rfl (Ka rfl (WL.nt (WC.ret ?_)))))
  exact WX.retN rfl (.tmp rfl (.tmp rfl .nil)) fun w' hS => ⟨by rw [crossS, if_neg (by simpa using hc15)]; rfl, hS.below⟩
theorem ricknows_c {k : PK} {c v r : Bs} {w : World} {ok : Nat → Prop} (hm8 : k.1.1.length ≤ 8) :
  Calls Tryz.prog 13 #[pkV k, .string (S c), .string (S v), .string (S r)] w fun e w' => ∃ gx : SA, e = .returned (SME gx (knS k c v r).2) ∧ (gx.core = (knS k c v r).1) ∧ Below w.heap.size w w' ∧ ∀ x ∈ (saF gx : List Fact), x.holds (fun b => ok b ∨ w.heap.size ≤ b) w' := by
 refine enter (S := St (fun b => ok b ∨ w.heap.size ≤ b) w [] ([])) (L := [(0, pkV k), (1, .string (S c)), (2, .string (S v)), (3, .string (S r))]) Tryz.func13 rfl Tryz.ntmps13 rfl (args_cons rfl (args_cons rfl (args_cons rfl (args_cons rfl (args_nil _))))) (St.start (fun _ h => Or.inr h) (facts_or facts_nil)) ?_
 refine WC.sr ?_
 refine Kh rfl (og_box rfl rfl (by (exact cells_agg _))) ?_
 intro b4
 refine Kh rfl (og_alloc rfl (v := (.agg #[.slice none 0 0, .slice none 0 0, .slice none 0 0])) (cs := [.slice none 0 0, .slice none 0 0, .slice none 0 0]) (by kernel_rfl) rfl) ?_
 intro b8
 refine Ka rfl (WL.nt (WC.seq ?_))
 refine WC.joinP (σ := Unit) [(1, _), (2, _), (3, _), (4, _), (8, _)] (fun gq => [(29, .bool (decide (¬ (okK k ∧ okN c ∧ okN v ∧ okN r))))]) (fun gq => True) (sub_cons rfl (sub_cons rfl (sub_cons rfl (sub_cons rfl (sub_cons rfl (sub_nil _)))))) ?_ ?_
 ·skip
  refine WC.region ?_
  refine Kq rfl (lda rfl rfl .tc Tryz.underlying26 rfl ?_) ?_
  ·kernel_rfl
  refine Kh rfl (og_call rfl rfl (by kernel_rfl) (keep_val fun w hS => icform_c (k := k))) ?_
  intro _
  refine Kq rfl (rd_not rfl rfl) (Km rfl ?_)
  refine WL.bool 15 rfl (fun hg15 => ?_) (fun hg15 => ?_)
  ·(try simp only [sB] at hg15)
   refine Kt rfl (Kt rfl (Kt rfl (Kq rfl (rd_pickt rfl rfl rfl) (Km rfl (Kt rfl (Kt rfl (Kt rfl (Kq rfl (rd_pickt rfl rfl rfl) (Km rfl (Kt rfl (Kt rfl ?_)))))))))))
   refine Kt rfl (Kq rfl (rd_pickt rfl rfl rfl) (WL.nil ?_))
   refine WX.joinP (()) (sub_cons rfl (sub_cons rfl (sub_cons rfl (sub_cons rfl (sub_cons rfl (sub_nil _)))))) (by refine (sub_cons ?_ (sub_nil _)) <;> ((refine slot_b rfl ?_; (try dsimp only); (simp [*]; done)))) ?_ (by (exact fun _ h => h))
   (try dsimp only)
   done
  ·(try simp only [sB] at hg15)
   refine Km rfl ?_
   refine Kh rfl (og_call rfl rfl (by kernel_rfl) (keep_val fun w hS => rvalid_c (a := c))) ?_
   intro _
   refine Kq rfl (rd_not rfl rfl) (Kq rfl (rd_pickf rfl rfl rfl) (Km rfl ?_))
   refine WL.bool 20 rfl (fun hg20 => ?_) (fun hg20 => ?_)
   ·(try simp only [sB] at hg20)
    refine Kt rfl (Kt rfl (Kt rfl (Kq rfl (rd_pickt rfl rfl rfl) (Km rfl (Kt rfl (Kt rfl (Kt rfl (Kq rfl (rd_pickt rfl rfl rfl) (WL.nil ?_)))))))))
    refine WX.joinP (()) (sub_cons rfl (sub_cons rfl (sub_cons rfl (sub_cons rfl (sub_cons rfl (sub_nil _)))))) (by refine (sub_cons ?_ (sub_nil _)) <;> ((refine slot_b rfl ?_; (try dsimp only); (simp [*]; done)))) ?_ (by (exact fun _ h => h))
    (try dsimp only)
    done
   ·(try simp only [sB] at hg20)
    refine Km rfl ?_
    refine Kh rfl (og_call rfl rfl (by kernel_rfl) (keep_val fun w hS => rvalid_c (a := v))) ?_
    intro _
    refine Kq rfl (rd_not rfl rfl) (Kq rfl (rd_pickf rfl rfl rfl) (Km rfl ?_))
    refine WL.bool 25 rfl (fun hg25 => ?_) (fun hg25 => ?_)
    ·(try simp only [sB] at hg25)
     refine Kt rfl (Kt rfl (Kt rfl (Kq rfl (rd_pickt rfl rfl rfl) (WL.nil ?_))))
     refine WX.joinP (()) (sub_cons rfl (sub_cons rfl (sub_cons rfl (sub_cons rfl (sub_cons rfl (sub_nil _)))))) (by refine (sub_cons ?_ (sub_nil _)) <;> ((refine slot_b rfl ?_; (try dsimp only); (simp [*]; done)))) ?_ (by (exact fun _ h => h))
     (try dsimp only)
     done
    ·(try simp only [sB] at hg25)
     refine Km rfl ?_
     refine Kh rfl (og_call rfl rfl (by kernel_rfl) (keep_val fun w hS => rvalid_c (a := r))) ?_
     intro _
     refine Kq rfl (rd_not rfl rfl) (Kq rfl (rd_pickf rfl rfl rfl) (WL.nil ?_))
     refine WX.joinP (()) (sub_cons rfl (sub_cons rfl (sub_cons rfl (sub_cons rfl (sub_cons rfl (sub_nil _)))))) (by refine (sub_cons ?_ (sub_nil _)) <;> ((refine slot_b rfl ?_; (try dsimp only); (simp [*]; done)))) ?_ (by (exact fun _ h => h))
     (try dsimp only)
     done
 ·rintro _ hmeet; (try dsimp only at hmeet ⊢)
  refine WC.cond rfl (fun hc29 => ?_) (fun hc29 => ?_)
  ·(try simp only [sB] at hc29)
   have hr : knS k c v r = (([], [], []), 3) := by
    have h : knE k c v r = 3 := by rw [knE, if_pos hc29]
    rw [knS, h, if_pos (by decide)]
   refine WC.sr ?_
   refine Kq rfl (rd_bld [[.slice none 0 0], [.slice none 0 0], [.slice none 0 0]] rfl rfl (by simp only [bld, fldv, Nat.beq, Value.cells, cond_true, cond_false, List.nil_append, List.cons_append, List.append_nil]; rfl) (fun w => by kernel_rfl)) ?_
   refine WL.g0 rfl rfl (sta rfl rfl rfl .tc ?_ ?_ ?_) ?_
   ·kernel_rfl
   ·simp [Value.oneCell']
   ·rfl
   intro _
   refine Ka rfl (WL.nt (WC.ret (WX.then_ret ?_)))
   exact WX.retN rfl (.agg rfl .tc Tryz.underlying35 rfl (by kernel_rfl) (.tmp rfl .nil)) fun w' hS => sm_err hr hS
  ·(try simp only [sB] at hc29)
   have hok := Decidable.not_not.1 hc29
   refine WC.skip (WX.then_normal (WC.seq (WC.sr ?_)))
   refine Kq rfl (lda rfl rfl .tc Tryz.underlying26 rfl ?_) ?_
   ·kernel_rfl
   refine Kh rfl (og_call rfl rfl (by kernel_rfl) (keep_val fun w hS => richeck_c (k := k) (by assumption))) ?_
   intro _
   refine Ka rfl (WL.nt (WC.sr (Km rfl (Kq rfl (rd_neq rfl rfl rfl) (WL.nt ?_)))))
   refine WC.cond rfl (fun hc34 => ?_) (fun hc34 => ?_)
   ·(try simp only [sB] at hc34)
    have hr : knS k c v r = (([], [], []), chkI k) := by
     have h : knE k c v r = chkI k := by rw [knE, if_neg (fun h => h hok), if_pos (by simpa using hc34)]
     rw [knS, h, if_pos (by simpa using hc34)]
    refine WC.sr ?_
    refine Kq rfl (rd_bld [[.slice none 0 0], [.slice none 0 0], [.slice none 0 0]] rfl rfl (by simp only [bld, fldv, Nat.beq, Value.cells, cond_true, cond_false, List.nil_append, List.cons_append, List.append_nil]; rfl) (fun w => by kernel_rfl)) ?_
    refine Km rfl ?_
    refine WL.g0 rfl rfl (sta rfl rfl rfl .tc ?_ ?_ ?_) ?_
    ·kernel_rfl
    ·simp [Value.oneCell']
    ·rfl
    intro _
    refine Ka rfl (WL.nt (WC.ret (WX.then_ret ?_)))
    exact WX.retN rfl (.agg rfl .tc Tryz.underlying35 rfl (by kernel_rfl) (.tmp rfl .nil)) fun w' hS => sm_err hr hS
   ·(try simp only [sB] at hc34)
    have hk : chkI k = 0 := by simpa using hc34
    have hg := (chkI_ok hk).2.1
    refine WC.skip (WX.then_normal (WC.seq (WC.sr ?_)))
    refine Kq rfl (rd_fa (q := 0) rfl rfl Tryz.underlying26 rfl (by kernel_rfl) rfl) ?_
    refine Kq rfl (ldp rfl rfl .tc Tryz.underlying24 rfl (by kernel_rfl : _ = some 2) (by rfl) (by rfl)) ?_
    refine Km rfl ?_
    refine Kh rfl (og_call rfl rfl (by kernel_rfl) (keep_val fun w hS => rghas_c (g := k.1) (x := c) (by assumption))) ?_
    intro _
    refine WL.set 40 rfl (v' := .bool (decide (elG k.1 c))) (congrArg Value.bool (by simp [hg])) ?_
    refine Kq rfl (rd_not rfl rfl) (WL.nt ?_)
    refine WC.cond rfl (fun hc41 => ?_) (fun hc41 => ?_)
    ·(try simp only [sB] at hc41)
     have hr : knS k c v r = (([], [], []), 13) := by
      have h : knE k c v r = 13 := by rw [knE, if_neg (fun h => h hok), if_neg (fun h => h hk), if_pos (by simpa using hc41)]
      rw [knS, h, if_pos (by decide)]
     refine WC.sr ?_
     refine Kq rfl (rd_bld [[.slice none 0 0], [.slice none 0 0], [.slice none 0 0]] rfl rfl (by simp only [bld, fldv, Nat.beq, Value.cells, cond_true, cond_false, List.nil_append, List.cons_append, List.append_nil]; rfl) (fun w => by kernel_rfl)) ?_
     refine WL.g0 rfl rfl (sta rfl rfl rfl .tc ?_ ?_ ?_) ?_
     ·kernel_rfl
     ·simp [Value.oneCell']
     ·rfl
     intro _
     refine Ka rfl (WL.nt (WC.ret (WX.then_ret ?_)))
     exact WX.retN rfl (.agg rfl .tc Tryz.underlying35 rfl (by kernel_rfl) (.tmp rfl .nil)) fun w' hS => sm_err hr hS
    ·(try simp only [sB] at hc41)
     have hel : elG k.1 c := by simpa using hc41
     have h : knE k c v r = bndE v r := by rw [knE, if_neg (fun h => h hok), if_neg (fun h => h hk), if_neg (fun h => h hel)]
     refine WC.skip (WX.then_normal (WC.seq (WC.sr (Km rfl (Km rfl ?_)))))
     refine Kh rfl (og_call rfl rfl (by kernel_rfl) (keep_val fun w hS => icbounds_c (v := v) (r := r))) ?_
     intro _
     refine Ka rfl (WL.nt (WC.sr (Km rfl (Kq rfl (rd_neq rfl rfl rfl) (WL.nt ?_)))))
     refine WC.cond rfl (fun hc47 => ?_) (fun hc47 => ?_)
     ·(try simp only [sB] at hc47)
      have hr : knS k c v r = (([], [], []), bndE v r) := by rw [knS, h, if_pos (by simpa using hc47)]
      refine WC.sr ?_
      refine Kq rfl (rd_bld [[.slice none 0 0], [.slice none 0 0], [.slice none 0 0]] rfl rfl (by simp only [bld, fldv, Nat.beq, Value.cells, cond_true, cond_false, List.nil_append, List.cons_append, List.append_nil]; rfl) (fun w => by kernel_rfl)) ?_
      refine Km rfl ?_
      refine WL.g0 rfl rfl (sta rfl rfl rfl .tc ?_ ?_ ?_) ?_
      ·kernel_rfl
      ·simp [Value.oneCell']
      ·rfl
      intro _
      refine Ka rfl (WL.nt (WC.ret (WX.then_ret ?_)))
      exact WX.retN rfl (.agg rfl .tc Tryz.underlying35 rfl (by kernel_rfl) (.tmp rfl .nil)) fun w' hS => sm_err hr hS
     ·(try simp only [sB] at hc47)
      have hr : knS k c v r = (knQ k c v r, 0) := by rw [knS, h, if_neg (by simpa using hc47)]
      refine WC.skip (WX.then_normal (WC.seq ?_))
      refine WC.free0 [9, 10, 11, 12, 13, 14, 0, 1, 2, 3, 4, 5, 6, 7, 8, 15, 16, 17, 18] [19, 20] [0, 0, 3, 0, 0, 0, 0, 3, 0, 0, 0, 1, 0, 0, 1, 3, 0, 3, 0, 2, 2] (by kernel_rfl) (by kernel_rfl) rfl ?_
      refine Kj rfl (rd_fa (q := 2) rfl rfl Tryz.underlying26 rfl (by kernel_rfl) rfl) ?_
      refine Kj rfl (ld rfl rfl .tc Tryz.underlying22 rfl (by rfl)) ?_
      refine WJ.gv rfl rfl rfl rfl rfl (fun ext => og_call rfl rfl (by kernel_rfl) (keep_val fun w hS => icterm_c (b := k.2.1) (v := 0))) ?_
      refine Kj rfl (rd_fa (q := 3) rfl rfl Tryz.underlying26 rfl (by kernel_rfl) rfl) ?_
      refine Kj rfl (ld rfl rfl .tc Tryz.underlying22 rfl (by rfl)) ?_
      refine WJ.gv rfl rfl rfl rfl rfl (fun ext => og_call rfl rfl (by kernel_rfl) (keep_val fun w hS => icterm_c (b := k.2.2) (v := 1))) ?_
      refine Kj rfl (rd_fa (q := 0) rfl rfl Tryz.underlying26 rfl (by kernel_rfl) rfl) ?_
      refine Kj rfl (ldp rfl rfl .tc Tryz.underlying24 rfl (by kernel_rfl : _ = some 2) (by rfl) (by rfl)) ?_
      refine WJ.f rfl rfl rfl rfl rfl (fr_bsN rfl rfl Tryz.underlying31 (by kernel_rfl : _ = some (some (.agg #[.string (S []), .string (S [])]), 2, 32)) (by kernel_rfl) (by decide) rfl rfl (by (simp [Value.cells]; done)) (by (exact cells_one _)) (by decide)) ?_
      intro b52
      refine Kj rfl (rd_move rfl rfl) ?_
      refine Kj rfl (rd_bld [[.string (S [])]] rfl rfl (by simp only [bld, fldv, Nat.beq, Value.cells, cond_true, cond_false, List.nil_append, List.cons_append, List.append_nil]; rfl) (fun w => by kernel_rfl)) ?_
      refine Kj rfl (rd_move rfl rfl) ?_
      refine Kj rfl (rd_bld [[.string (S [])]] rfl rfl (by simp only [bld, fldv, Nat.beq, Value.cells, cond_true, cond_false, List.nil_append, List.cons_append, List.append_nil]; rfl) (fun w => by kernel_rfl)) ?_
      refine WJ.f rfl rfl rfl rfl rfl (fr_bsN rfl rfl Tryz.underlying32 (by kernel_rfl : _ = some (some (.agg #[.string (S [])]), 1, 16)) (by kernel_rfl) (by decide) rfl rfl (by (simp [Value.cells]; done)) (by (simp only [List.map, Value.cells, List.flatMap_cons, List.flatMap_nil, List.append_nil, List.toList_toArray]; rfl)) (by decide)) ?_
      intro b57
      refine Kj rfl (rd_move rfl rfl) ?_
      refine WJ.f rfl rfl rfl rfl rfl (fr_bsN rfl rfl Tryz.underlying100 (by kernel_rfl : _ = some (some (.agg #[.string (S []), .int .i64 0, .bool false, .string (S [])]), 4, 48)) (by kernel_rfl) (by decide) rfl rfl (by (simp [Value.cells]; done)) (by (simp only [List.map, Value.cells, List.flatMap_cons, List.flatMap_nil, List.append_nil, List.toList_toArray]; rfl)) (by decide)) ?_
      intro b65
      refine Kj rfl (rd_bld [[.int .i64 0], [.string (S [])], [.slice none 0 0]] rfl rfl (by simp only [bld, fldv, Nat.beq, Value.cells, cond_true, cond_false, List.nil_append, List.cons_append, List.append_nil]; rfl) (fun w => by kernel_rfl)) ?_
      refine WJ.f rfl rfl rfl rfl rfl (fr_bsN rfl rfl Tryz.underlying33 (by kernel_rfl : _ = some (some (.agg #[.int .i64 0, .string (S []), .slice none 0 0]), 3, 48)) (by kernel_rfl) (by decide) rfl rfl (by (simp [Value.cells]; done)) (by (exact cells_one _)) (by decide)) ?_
      intro b67
      refine Kj rfl (rd_bld [[.slice none 0 0], [.slice none 0 0], [.slice none 0 0]] rfl rfl (by simp only [bld, fldv, Nat.beq, Value.cells, cond_true, cond_false, List.nil_append, List.cons_append, List.append_nil]; rfl) (fun w => by kernel_rfl)) ?_
      refine WJ.nil ?_
      refine WL.g0 rfl rfl (sta rfl rfl rfl .tc ?_ ?_ ?_) ?_
      ·kernel_rfl
      ·simp [Value.oneCell']
      ·rfl
      intro _
      refine Ka rfl (WL.nt (WC.ret ?_))
      exact WX.retN rfl (.agg rfl .tc Tryz.underlying35 rfl (by kernel_rfl) (.tmp rfl .nil)) fun w' hS => ⟨⟨[k.1], [v, r], [((0, c, [trm k.2.1 0, trm k.2.2 1]), some ⟨b65, 0, none⟩, 2)], some ⟨b52, 0, none⟩, 1, some ⟨b57, 0, none⟩, 2, some ⟨b67, 0, none⟩, 1⟩, by rw [hr]; rfl, by rw [hr]; rfl, hS.below, facts_cons hS.osk (facts_cons hS.osk (facts_cons hS.osk (facts_cons hS.osk facts_nil)))⟩
theorem ricprod_c {k : PK} {a b c v r : Bs} {w : World} {ok : Nat → Prop} (hm8 : k.1.1.length ≤ 8) :
  Calls Tryz.prog 15 #[pkV k, .string (S a), .string (S b), .string (S c), .string (S v), .string (S r)] w fun e w' => ∃ gx : SA, e = .returned (SME gx (prS k a b c v r).2) ∧ (gx.core = (prS k a b c v r).1) ∧ Below w.heap.size w w' ∧ ∀ x ∈ (saF gx : List Fact), x.holds (fun b => ok b ∨ w.heap.size ≤ b) w' := by
 refine enter (S := St (fun b => ok b ∨ w.heap.size ≤ b) w [] ([])) (L := [(0, pkV k), (1, .string (S a)), (2, .string (S b)), (3, .string (S c)), (4, .string (S v)), (5, .string (S r))]) Tryz.func15 rfl Tryz.ntmps15 rfl (args_cons rfl (args_cons rfl (args_cons rfl (args_cons rfl (args_cons rfl (args_cons rfl (args_nil _))))))) (St.start (fun _ h => Or.inr h) (facts_or facts_nil)) ?_
 refine WC.sr ?_
 refine Kh rfl (og_box rfl rfl (by (exact cells_agg _))) ?_
 intro b6
 refine Kh rfl (og_alloc rfl (v := (.agg #[.slice none 0 0, .slice none 0 0, .slice none 0 0])) (cs := [.slice none 0 0, .slice none 0 0, .slice none 0 0]) (by kernel_rfl) rfl) ?_
 intro b12
 refine Ka rfl (WL.nt (WC.seq ?_))
 refine WC.joinP (σ := Unit) [(1, _), (2, _), (3, _), (4, _), (5, _), (6, _), (12, _)] (fun gq => [(45, .bool (decide (¬ (okK k ∧ okN a ∧ okN b ∧ okN c ∧ okN v ∧ okN r))))]) (fun gq => True) (sub_cons rfl (sub_cons rfl (sub_cons rfl (sub_cons rfl (sub_cons rfl (sub_cons rfl (sub_cons rfl (sub_nil _)))))))) ?_ ?_
 ·skip
  refine WC.region ?_
  refine Kq rfl (lda rfl rfl .tc Tryz.underlying26 rfl ?_) ?_
  ·kernel_rfl
  refine Kh rfl (og_call rfl rfl (by kernel_rfl) (keep_val fun w hS => icform_c (k := k))) ?_
  intro _
  refine Kq rfl (rd_not rfl rfl) (Km rfl ?_)
  refine WL.bool 21 rfl (fun hg21 => ?_) (fun hg21 => ?_)
  ·(try simp only [sB] at hg21)
   refine Kt rfl (Kt rfl (Kt rfl (Kq rfl (rd_pickt rfl rfl rfl) (Km rfl (Kt rfl (Kt rfl (Kt rfl (Kq rfl (rd_pickt rfl rfl rfl) (Km rfl (Kt rfl (Kt rfl ?_)))))))))))
   refine Kt rfl (Kq rfl (rd_pickt rfl rfl rfl) (Km rfl (Kt rfl (Kt rfl (Kt rfl (Kq rfl (rd_pickt rfl rfl rfl) (Km rfl (Kt rfl (Kt rfl (Kt rfl (Kq rfl (rd_pickt rfl rfl rfl) ?_)))))))))))
   refine WL.nil ?_
   refine WX.joinP (()) (sub_cons rfl (sub_cons rfl (sub_cons rfl (sub_cons rfl (sub_cons rfl (sub_cons rfl (sub_cons rfl (sub_nil _)))))))) (by refine (sub_cons ?_ (sub_nil _)) <;> ((refine slot_b rfl ?_; (try dsimp only); (simp [*]; done)))) ?_ (by (exact fun _ h => h))
   (try dsimp only)
   done
  ·(try simp only [sB] at hg21)
   refine Km rfl ?_
   refine Kh rfl (og_call rfl rfl (by kernel_rfl) (keep_val fun w hS => rvalid_c (a := a))) ?_
   intro _
   refine Kq rfl (rd_not rfl rfl) (Kq rfl (rd_pickf rfl rfl rfl) (Km rfl ?_))
   refine WL.bool 26 rfl (fun hg26 => ?_) (fun hg26 => ?_)
   ·(try simp only [sB] at hg26)
    refine Kt rfl (Kt rfl (Kt rfl (Kq rfl (rd_pickt rfl rfl rfl) (Km rfl (Kt rfl (Kt rfl (Kt rfl (Kq rfl (rd_pickt rfl rfl rfl) (Km rfl (Kt rfl (Kt rfl ?_)))))))))))
    refine Kt rfl (Kq rfl (rd_pickt rfl rfl rfl) (Km rfl (Kt rfl (Kt rfl (Kt rfl (Kq rfl (rd_pickt rfl rfl rfl) (WL.nil ?_)))))))
    refine WX.joinP (()) (sub_cons rfl (sub_cons rfl (sub_cons rfl (sub_cons rfl (sub_cons rfl (sub_cons rfl (sub_cons rfl (sub_nil _)))))))) (by refine (sub_cons ?_ (sub_nil _)) <;> ((refine slot_b rfl ?_; (try dsimp only); (simp [*]; done)))) ?_ (by (exact fun _ h => h))
    (try dsimp only)
    done
   ·(try simp only [sB] at hg26)
    refine Km rfl ?_
    refine Kh rfl (og_call rfl rfl (by kernel_rfl) (keep_val fun w hS => rvalid_c (a := b))) ?_
    intro _
    refine Kq rfl (rd_not rfl rfl) (Kq rfl (rd_pickf rfl rfl rfl) (Km rfl ?_))
    refine WL.bool 31 rfl (fun hg31 => ?_) (fun hg31 => ?_)
    ·(try simp only [sB] at hg31)
     refine Kt rfl (Kt rfl (Kt rfl (Kq rfl (rd_pickt rfl rfl rfl) (Km rfl (Kt rfl (Kt rfl (Kt rfl (Kq rfl (rd_pickt rfl rfl rfl) (Km rfl (Kt rfl (Kt rfl ?_)))))))))))
     refine Kt rfl (Kq rfl (rd_pickt rfl rfl rfl) (WL.nil ?_))
     refine WX.joinP (()) (sub_cons rfl (sub_cons rfl (sub_cons rfl (sub_cons rfl (sub_cons rfl (sub_cons rfl (sub_cons rfl (sub_nil _)))))))) (by refine (sub_cons ?_ (sub_nil _)) <;> ((refine slot_b rfl ?_; (try dsimp only); (simp [*]; done)))) ?_ (by (exact fun _ h => h))
     (try dsimp only)
     done
    ·(try simp only [sB] at hg31)
     refine Km rfl ?_
     refine Kh rfl (og_call rfl rfl (by kernel_rfl) (keep_val fun w hS => rvalid_c (a := c))) ?_
     intro _
     refine Kq rfl (rd_not rfl rfl) (Kq rfl (rd_pickf rfl rfl rfl) (Km rfl ?_))
     refine WL.bool 36 rfl (fun hg36 => ?_) (fun hg36 => ?_)
     ·(try simp only [sB] at hg36)
      refine Kt rfl (Kt rfl (Kt rfl (Kq rfl (rd_pickt rfl rfl rfl) (Km rfl (Kt rfl (Kt rfl (Kt rfl (Kq rfl (rd_pickt rfl rfl rfl) (WL.nil ?_)))))))))
      refine WX.joinP (()) (sub_cons rfl (sub_cons rfl (sub_cons rfl (sub_cons rfl (sub_cons rfl (sub_cons rfl (sub_cons rfl (sub_nil _)))))))) (by refine (sub_cons ?_ (sub_nil _)) <;> ((refine slot_b rfl ?_; (try dsimp only); (simp [*]; done)))) ?_ (by (exact fun _ h => h))
      (try dsimp only)
      done
     ·(try simp only [sB] at hg36)
      refine Km rfl ?_
      refine Kh rfl (og_call rfl rfl (by kernel_rfl) (keep_val fun w hS => rvalid_c (a := v))) ?_
      intro _
      refine Kq rfl (rd_not rfl rfl) (Kq rfl (rd_pickf rfl rfl rfl) (Km rfl ?_))
      refine WL.bool 41 rfl (fun hg41 => ?_) (fun hg41 => ?_)
      ·(try simp only [sB] at hg41)
       refine Kt rfl (Kt rfl (Kt rfl (Kq rfl (rd_pickt rfl rfl rfl) (WL.nil ?_))))
       refine WX.joinP (()) (sub_cons rfl (sub_cons rfl (sub_cons rfl (sub_cons rfl (sub_cons rfl (sub_cons rfl (sub_cons rfl (sub_nil _)))))))) (by refine (sub_cons ?_ (sub_nil _)) <;> ((refine slot_b rfl ?_; (try dsimp only); (simp [*]; done)))) ?_ (by (exact fun _ h => h))
       (try dsimp only)
       done
      ·(try simp only [sB] at hg41)
       refine Km rfl ?_
       refine Kh rfl (og_call rfl rfl (by kernel_rfl) (keep_val fun w hS => rvalid_c (a := r))) ?_
       intro _
       refine Kq rfl (rd_not rfl rfl) (Kq rfl (rd_pickf rfl rfl rfl) (WL.nil ?_))
       refine WX.joinP (()) (sub_cons rfl (sub_cons rfl (sub_cons rfl (sub_cons rfl (sub_cons rfl (sub_cons rfl (sub_cons rfl (sub_nil _)))))))) (by refine (sub_cons ?_ (sub_nil _)) <;> ((refine slot_b rfl ?_; (try dsimp only); (simp [*]; done)))) ?_ (by (exact fun _ h => h))
       (try dsimp only)
       done
 ·rintro _ hmeet; (try dsimp only at hmeet ⊢)
  refine WC.cond rfl (fun hc45 => ?_) (fun hc45 => ?_)
  ·(try simp only [sB] at hc45)
   have hr : prS k a b c v r = (([], [], []), 3) := by
    have h : prE k a b c v r = 3 := by rw [prE, if_pos hc45]
    rw [prS, h, if_pos (by decide)]
   refine WC.sr ?_
   refine Kq rfl (rd_bld [[.slice none 0 0], [.slice none 0 0], [.slice none 0 0]] rfl rfl (by simp only [bld, fldv, Nat.beq, Value.cells, cond_true, cond_false, List.nil_append, List.cons_append, List.append_nil]; rfl) (fun w => by kernel_rfl)) ?_
   refine WL.g0 rfl rfl (sta rfl rfl rfl .tc ?_ ?_ ?_) ?_
   ·kernel_rfl
   ·simp [Value.oneCell']
   ·rfl
   intro _
   refine Ka rfl (WL.nt (WC.ret (WX.then_ret ?_)))
   exact WX.retN rfl (.agg rfl .tc Tryz.underlying35 rfl (by kernel_rfl) (.tmp rfl .nil)) fun w' hS => sm_err hr hS
  ·(try simp only [sB] at hc45)
   have hok := Decidable.not_not.1 hc45
   refine WC.skip (WX.then_normal (WC.seq (WC.sr ?_)))
   refine Kq rfl (lda rfl rfl .tc Tryz.underlying26 rfl ?_) ?_
   ·kernel_rfl
   refine Kh rfl (og_call rfl rfl (by kernel_rfl) (keep_val fun w hS => richeck_c (k := k) (by assumption))) ?_
   intro _
   refine Ka rfl (WL.nt (WC.sr (Km rfl (Kq rfl (rd_neq rfl rfl rfl) (WL.nt ?_)))))
   refine WC.cond rfl (fun hc50 => ?_) (fun hc50 => ?_)
   ·(try simp only [sB] at hc50)
    have hr : prS k a b c v r = (([], [], []), chkI k) := by
     have h : prE k a b c v r = chkI k := by rw [prE, if_neg (fun h => h hok), if_pos (by simpa using hc50)]
     rw [prS, h, if_pos (by simpa using hc50)]
    refine WC.sr ?_
    refine Kq rfl (rd_bld [[.slice none 0 0], [.slice none 0 0], [.slice none 0 0]] rfl rfl (by simp only [bld, fldv, Nat.beq, Value.cells, cond_true, cond_false, List.nil_append, List.cons_append, List.append_nil]; rfl) (fun w => by kernel_rfl)) ?_
    refine Km rfl ?_
    refine WL.g0 rfl rfl (sta rfl rfl rfl .tc ?_ ?_ ?_) ?_
    ·kernel_rfl
    ·simp [Value.oneCell']
    ·rfl
    intro _
    refine Ka rfl (WL.nt (WC.ret (WX.then_ret ?_)))
    exact WX.retN rfl (.agg rfl .tc Tryz.underlying35 rfl (by kernel_rfl) (.tmp rfl .nil)) fun w' hS => sm_err hr hS
   ·(try simp only [sB] at hc50)
    have hk : chkI k = 0 := by simpa using hc50
    have hg := (chkI_ok hk).2.1
    refine WC.skip (WX.then_normal (WC.seq ?_))
    refine WC.joinP (σ := Unit) [(1, _), (2, _), (3, _), (4, _), (5, _), (6, _), (12, _)] (fun gq => [(71, .bool (decide (¬ (elG k.1 a ∧ elG k.1 b ∧ elG k.1 c))))]) (fun gq => True) (sub_cons rfl (sub_cons rfl (sub_cons rfl (sub_cons rfl (sub_cons rfl (sub_cons rfl (sub_cons rfl (sub_nil _)))))))) ?_ ?_
    ·skip
     refine WC.region ?_
     refine Kq rfl (rd_fa (q := 0) rfl rfl Tryz.underlying26 rfl (by kernel_rfl) rfl) ?_
     refine Kq rfl (ldp rfl rfl .tc Tryz.underlying24 rfl (by kernel_rfl : _ = some 2) (by rfl) (by rfl)) ?_
     refine Km rfl ?_
     refine Kh rfl (og_call rfl rfl (by kernel_rfl) (keep_val fun w hS => rghas_c (g := k.1) (x := a) (by assumption))) ?_
     intro _
     refine WL.set 56 rfl (v' := .bool (decide (elG k.1 a))) (congrArg Value.bool (by simp [hg])) ?_
     refine Kq rfl (rd_not rfl rfl) (Km rfl ?_)
     refine WL.bool 58 rfl (fun hg58 => ?_) (fun hg58 => ?_)
     ·(try simp only [sB] at hg58)
      refine Kt rfl (Kt rfl (Kt rfl (Kt rfl (Kt rfl (Kq rfl (rd_pickt rfl rfl rfl) (Km rfl (Kt rfl (Kt rfl (Kt rfl (Kt rfl (Kt rfl ?_)))))))))))
      refine Kq rfl (rd_pickt rfl rfl rfl) (WL.nil ?_)
      refine WX.joinP (()) (sub_cons rfl (sub_cons rfl (sub_cons rfl (sub_cons rfl (sub_cons rfl (sub_cons rfl (sub_cons rfl (sub_nil _)))))))) (by refine (sub_cons ?_ (sub_nil _)) <;> ((refine slot_b rfl ?_; (try dsimp only); (simp [*]; done)))) ?_ (by (exact fun _ h => h))
      (try dsimp only)
      done
     ·(try simp only [sB] at hg58)
      refine Kq rfl (rd_fa (q := 0) rfl rfl Tryz.underlying26 rfl (by kernel_rfl) rfl) ?_
      refine Kq rfl (ldp rfl rfl .tc Tryz.underlying24 rfl (by kernel_rfl : _ = some 2) (by rfl) (by rfl)) ?_
      refine Km rfl ?_
      refine Kh rfl (og_call rfl rfl (by kernel_rfl) (keep_val fun w hS => rghas_c (g := k.1) (x := b) (by assumption))) ?_
      intro _
      refine WL.set 62 rfl (v' := .bool (decide (elG k.1 b))) (congrArg Value.bool (by simp [hg])) ?_
      refine Kq rfl (rd_not rfl rfl) (Kq rfl (rd_pickf rfl rfl rfl) (Km rfl ?_))
      refine WL.bool 65 rfl (fun hg65 => ?_) (fun hg65 => ?_)
      ·(try simp only [sB] at hg65)
       refine Kt rfl (Kt rfl (Kt rfl (Kt rfl (Kt rfl (Kq rfl (rd_pickt rfl rfl rfl) (WL.nil ?_))))))
       refine WX.joinP (()) (sub_cons rfl (sub_cons rfl (sub_cons rfl (sub_cons rfl (sub_cons rfl (sub_cons rfl (sub_cons rfl (sub_nil _)))))))) (by refine (sub_cons ?_ (sub_nil _)) <;> ((refine slot_b rfl ?_; (try dsimp only); (simp [*]; done)))) ?_ (by (exact fun _ h => h))
       (try dsimp only)
       done
      ·(try simp only [sB] at hg65)
       refine Kq rfl (rd_fa (q := 0) rfl rfl Tryz.underlying26 rfl (by kernel_rfl) rfl) ?_
       refine Kq rfl (ldp rfl rfl .tc Tryz.underlying24 rfl (by kernel_rfl : _ = some 2) (by rfl) (by rfl)) ?_
       refine Km rfl ?_
       refine Kh rfl (og_call rfl rfl (by kernel_rfl) (keep_val fun w hS => rghas_c (g := k.1) (x := c) (by assumption))) ?_
       intro _
       refine WL.set 69 rfl (v' := .bool (decide (elG k.1 c))) (congrArg Value.bool (by simp [hg])) ?_
       refine Kq rfl (rd_not rfl rfl) (Kq rfl (rd_pickf rfl rfl rfl) (WL.nil ?_))
       refine WX.joinP (()) (sub_cons rfl (sub_cons rfl (sub_cons rfl (sub_cons rfl (sub_cons rfl (sub_cons rfl (sub_cons rfl (sub_nil _)))))))) (by refine (sub_cons ?_ (sub_nil _)) <;> ((refine slot_b rfl ?_; (try dsimp only); (simp [*]; done)))) ?_ (by (exact fun _ h => h))
       (try dsimp only)
       done
    ·rintro _ hmeet; (try dsimp only at hmeet ⊢)
     refine WC.cond rfl (fun hc71 => ?_) (fun hc71 => ?_)
     ·(try simp only [sB] at hc71)
      have hr : prS k a b c v r = (([], [], []), 13) := by
       have h : prE k a b c v r = 13 := by rw [prE, if_neg (fun h => h hok), if_neg (fun h => h hk), if_pos hc71]
       rw [prS, h, if_pos (by decide)]
      refine WC.sr ?_
      refine Kq rfl (rd_bld [[.slice none 0 0], [.slice none 0 0], [.slice none 0 0]] rfl rfl (by simp only [bld, fldv, Nat.beq, Value.cells, cond_true, cond_false, List.nil_append, List.cons_append, List.append_nil]; rfl) (fun w => by kernel_rfl)) ?_
      refine WL.g0 rfl rfl (sta rfl rfl rfl .tc ?_ ?_ ?_) ?_
      ·kernel_rfl
      ·simp [Value.oneCell']
      ·rfl
      intro _
      refine Ka rfl (WL.nt (WC.ret (WX.then_ret ?_)))
      exact WX.retN rfl (.agg rfl .tc Tryz.underlying35 rfl (by kernel_rfl) (.tmp rfl .nil)) fun w' hS => sm_err hr hS
     ·(try simp only [sB] at hc71)
      have hel := Decidable.not_not.1 hc71
      refine WC.skip (WX.then_normal (WC.seq (WC.sr (Km rfl (Km rfl ?_)))))
      refine Kh rfl (og_call rfl rfl (by kernel_rfl) (keep_val fun w hS => icbounds_c (v := v) (r := r))) ?_
      intro _
      refine Ka rfl (WL.nt (WC.sr (Km rfl (Kq rfl (rd_neq rfl rfl rfl) (WL.nt ?_)))))
      refine WC.cond rfl (fun hc77 => ?_) (fun hc77 => ?_)
      ·(try simp only [sB] at hc77)
       have hr : prS k a b c v r = (([], [], []), bndE v r) := by
        have h : prE k a b c v r = bndE v r := by rw [prE, if_neg (fun h => h hok), if_neg (fun h => h hk), if_neg (fun h => h hel), if_pos hc77]
        rw [prS, h, if_pos hc77]
       refine WC.sr ?_
       refine Kq rfl (rd_bld [[.slice none 0 0], [.slice none 0 0], [.slice none 0 0]] rfl rfl (by simp only [bld, fldv, Nat.beq, Value.cells, cond_true, cond_false, List.nil_append, List.cons_append, List.append_nil]; rfl) (fun w => by kernel_rfl)) ?_
       refine Km rfl ?_
       refine WL.g0 rfl rfl (sta rfl rfl rfl .tc ?_ ?_ ?_) ?_
       ·kernel_rfl
       ·simp [Value.oneCell']
       ·rfl
       intro _
       refine Ka rfl (WL.nt (WC.ret (WX.then_ret ?_)))
       exact WX.retN rfl (.agg rfl .tc Tryz.underlying35 rfl (by kernel_rfl) (.tmp rfl .nil)) fun w' hS => sm_err hr hS
      ·(try simp only [sB] at hc77)
       have h : prE k a b c v r = (crossS v r).2 := by rw [prE, if_neg (fun h => h hok), if_neg (fun h => h hk), if_neg (fun h => h hel), if_neg (fun h => h hc77)]
       refine WC.skip (WX.then_normal (WC.sr (Km rfl (Km rfl ?_))))
       refine Kh rfl (og_call rfl rfl (by kernel_rfl) (keep_val fun w hS => iccross_c (v := v) (r := r))) ?_
       intro _
       refine Km rfl (Kq rfl (rd_extL rfl rfl rfl) (Kq rfl (rd_extL rfl rfl rfl) (Ka rfl (Ka rfl (WL.nt (WC.seq (WC.sr (Km rfl (Kq rfl (rd_neq rfl rfl rfl) (WL.nt ?_))))))))))
       refine WC.cond rfl (fun hc87 => ?_) (fun hc87 => ?_)
       ·(try simp only [sB] at hc87)
        have hr : prS k a b c v r = (([], [], []), (crossS v r).2) := by rw [prS, h, if_pos hc87]
        refine WC.sr ?_
        refine Kq rfl (rd_bld [[.slice none 0 0], [.slice none 0 0], [.slice none 0 0]] rfl rfl (by simp only [bld, fldv, Nat.beq, Value.cells, cond_true, cond_false, List.nil_append, List.cons_append, List.append_nil]; rfl) (fun w => by kernel_rfl)) ?_
        refine Km rfl ?_
        refine WL.g0 rfl rfl (sta rfl rfl rfl .tc ?_ ?_ ?_) ?_
        ·kernel_rfl
        ·simp [Value.oneCell']
        ·rfl
        intro _
        refine Ka rfl (WL.nt (WC.ret (WX.then_ret ?_)))
        exact WX.retN rfl (.agg rfl .tc Tryz.underlying35 rfl (by kernel_rfl) (.tmp rfl .nil)) fun w' hS => sm_err hr hS
       ·(try simp only [sB] at hc87)
        have hr : prS k a b c v r = (prQ k a b c v r (crossS v r).1, 0) := by rw [prS, h, if_neg (fun h => h hc87)]
        refine WC.skip (WX.then_normal (WC.seq ?_))
        refine WC.free0 [11, 12, 13, 14, 15, 16, 20, 21, 22, 23, 24, 0, 1, 2, 3, 4, 5, 6, 7, 8, 9, 10, 17, 18, 19, 25, 26, 27, 28] [29, 30] [0, 0, 3, 0, 0, 0, 0, 0, 0, 3, 0, 0, 0, 1, 0, 0, 1, 3, 0, 0, 0, 1, 0, 0, 1, 3, 0, 3, 0, 2, 2] (by kernel_rfl) (by kernel_rfl) rfl ?_
        refine Kj rfl (rd_fa (q := 2) rfl rfl Tryz.underlying26 rfl (by kernel_rfl) rfl) ?_
        refine Kj rfl (ld rfl rfl .tc Tryz.underlying22 rfl (by rfl)) ?_
        refine WJ.gv rfl rfl rfl rfl rfl (fun ext => og_call rfl rfl (by kernel_rfl) (keep_val fun w hS => icterm_c (b := k.2.1) (v := 0))) ?_
        refine Kj rfl (rd_fa (q := 3) rfl rfl Tryz.underlying26 rfl (by kernel_rfl) rfl) ?_
        refine Kj rfl (ld rfl rfl .tc Tryz.underlying22 rfl (by rfl)) ?_
        refine WJ.gv rfl rfl rfl rfl rfl (fun ext => og_call rfl rfl (by kernel_rfl) (keep_val fun w hS => icterm_c (b := k.2.2) (v := 1))) ?_
        refine Kj rfl (rd_move rfl rfl) ?_
        refine WJ.gv rfl rfl rfl rfl rfl (fun ext => og_call rfl rfl (by kernel_rfl) (keep_val fun w hS => icterm_c (b := a) (v := 0))) ?_
        refine Kj rfl (rd_fa (q := 3) rfl rfl Tryz.underlying26 rfl (by kernel_rfl) rfl) ?_
        refine Kj rfl (ld rfl rfl .tc Tryz.underlying22 rfl (by rfl)) ?_
        refine WJ.gv rfl rfl rfl rfl rfl (fun ext => og_call rfl rfl (by kernel_rfl) (keep_val fun w hS => icterm_c (b := k.2.2) (v := 2))) ?_
        refine Kj rfl (rd_fa (q := 0) rfl rfl Tryz.underlying26 rfl (by kernel_rfl) rfl) ?_
        refine Kj rfl (ldp rfl rfl .tc Tryz.underlying24 rfl (by kernel_rfl : _ = some 2) (by rfl) (by rfl)) ?_
        refine WJ.f rfl rfl rfl rfl rfl (fr_bsN rfl rfl Tryz.underlying31 (by kernel_rfl : _ = some (some (.agg #[.string (S []), .string (S [])]), 2, 32)) (by kernel_rfl) (by decide) rfl rfl (by (simp [Value.cells]; done)) (by (exact cells_one _)) (by decide)) ?_
        intro b92
        refine Kj rfl (rd_move rfl rfl) ?_
        refine Kj rfl (rd_bld [[.string (S [])]] rfl rfl (by simp only [bld, fldv, Nat.beq, Value.cells, cond_true, cond_false, List.nil_append, List.cons_append, List.append_nil]; rfl) (fun w => by kernel_rfl)) ?_
        refine Kj rfl (rd_move rfl rfl) ?_
        refine Kj rfl (rd_bld [[.string (S [])]] rfl rfl (by simp only [bld, fldv, Nat.beq, Value.cells, cond_true, cond_false, List.nil_append, List.cons_append, List.append_nil]; rfl) (fun w => by kernel_rfl)) ?_
        refine Kj rfl (rd_move rfl rfl) ?_
        refine Kj rfl (rd_bld [[.string (S [])]] rfl rfl (by simp only [bld, fldv, Nat.beq, Value.cells, cond_true, cond_false, List.nil_append, List.cons_append, List.append_nil]; rfl) (fun w => by kernel_rfl)) ?_
        refine WJ.f rfl rfl rfl rfl rfl (fr_bsN rfl rfl Tryz.underlying32 (by kernel_rfl : _ = some (some (.agg #[.string (S [])]), 1, 16)) (by kernel_rfl) (by decide) rfl rfl (by (simp [Value.cells]; done)) (by (simp only [List.map, Value.cells, List.flatMap_cons, List.flatMap_nil, List.append_nil, List.toList_toArray]; rfl)) (by decide)) ?_
        intro b99
        refine Kj rfl (rd_move rfl rfl) ?_
        refine WJ.f rfl rfl rfl rfl rfl (fr_bsN rfl rfl Tryz.underlying100 (by kernel_rfl : _ = some (some (.agg #[.string (S []), .int .i64 0, .bool false, .string (S [])]), 4, 48)) (by kernel_rfl) (by decide) rfl rfl (by (simp [Value.cells]; done)) (by (simp only [List.map, Value.cells, List.flatMap_cons, List.flatMap_nil, List.append_nil, List.toList_toArray]; rfl)) (by decide)) ?_
        intro b107
        refine Kj rfl (rd_bld [[.int .i64 0], [.string (S [])], [.slice none 0 0]] rfl rfl (by simp only [bld, fldv, Nat.beq, Value.cells, cond_true, cond_false, List.nil_append, List.cons_append, List.append_nil]; rfl) (fun w => by kernel_rfl)) ?_
        refine Kj rfl (rd_move rfl rfl) ?_
        refine WJ.f rfl rfl rfl rfl rfl (fr_bsN rfl rfl Tryz.underlying100 (by kernel_rfl : _ = some (some (.agg #[.string (S []), .int .i64 0, .bool false, .string (S [])]), 4, 48)) (by kernel_rfl) (by decide) rfl rfl (by (simp [Value.cells]; done)) (by (simp only [List.map, Value.cells, List.flatMap_cons, List.flatMap_nil, List.append_nil, List.toList_toArray]; rfl)) (by decide)) ?_
        intro b115
        refine Kj rfl (rd_bld [[.int .i64 0], [.string (S [])], [.slice none 0 0]] rfl rfl (by simp only [bld, fldv, Nat.beq, Value.cells, cond_true, cond_false, List.nil_append, List.cons_append, List.append_nil]; rfl) (fun w => by kernel_rfl)) ?_
        refine WJ.f rfl rfl rfl rfl rfl (fr_bsN rfl rfl Tryz.underlying33 (by kernel_rfl : _ = some (some (.agg #[.int .i64 0, .string (S []), .slice none 0 0]), 3, 48)) (by kernel_rfl) (by decide) rfl rfl (by (simp [Value.cells]; done)) (by (simp only [List.map, Value.cells, List.flatMap_cons, List.flatMap_nil, List.append_nil, List.toList_toArray]; rfl)) (by decide)) ?_
        intro b117
        refine Kj rfl (rd_bld [[.slice none 0 0], [.slice none 0 0], [.slice none 0 0]] rfl rfl (by simp only [bld, fldv, Nat.beq, Value.cells, cond_true, cond_false, List.nil_append, List.cons_append, List.append_nil]; rfl) (fun w => by kernel_rfl)) ?_
        refine WJ.nil ?_
        refine WL.g0 rfl rfl (sta rfl rfl rfl .tc ?_ ?_ ?_) ?_
        ·kernel_rfl
        ·simp [Value.oneCell']
        ·rfl
        intro _
        refine Ka rfl (WL.nt (WC.ret ?_))
        exact WX.retN rfl (.agg rfl .tc Tryz.underlying35 rfl (by kernel_rfl) (.tmp rfl .nil)) fun w' hS => ⟨⟨[k.1], [v, r, (crossS v r).1], [((0, b, [trm k.2.1 0, trm k.2.2 1]), some ⟨b107, 0, none⟩, 2), ((0, c, [trm a 0, trm k.2.2 2]), some ⟨b115, 0, none⟩, 2)], some ⟨b92, 0, none⟩, 1, some ⟨b99, 0, none⟩, 3, some ⟨b117, 0, none⟩, 2⟩, by rw [hr]; rfl, by rw [hr]; rfl, hS.below, facts_cons hS.osk (facts_cons hS.osk (facts_cons hS.osk (facts_cons hS.osk (facts_cons hS.osk facts_nil))))⟩
theorem riceq_c {m k : PK} {a b v r : Bs} {w : World} {ok : Nat → Prop} (hm8 : m.1.1.length ≤ 8) (hk8 : k.1.1.length ≤ 8) :
  Calls Tryz.prog 31 #[pkV m, pkV k, .string (S a), .string (S b), .string (S v), .string (S r)] w fun e w' => ∃ gx : SA, e = .returned (SME gx (eqS m k a b v r).2) ∧ (gx.core = (eqS m k a b v r).1) ∧ Below w.heap.size w w' ∧ ∀ x ∈ (saF gx : List Fact), x.holds (fun b => ok b ∨ w.heap.size ≤ b) w' := by
 refine enter (S := St (fun b => ok b ∨ w.heap.size ≤ b) w [] ([])) (L := [(0, pkV m), (1, pkV k), (2, .string (S a)), (3, .string (S b)), (4, .string (S v)), (5, .string (S r))]) Tryz.func31 rfl Tryz.ntmps31 rfl (args_cons rfl (args_cons rfl (args_cons rfl (args_cons rfl (args_cons rfl (args_cons rfl (args_nil _))))))) (St.start (fun _ h => Or.inr h) (facts_or facts_nil)) ?_
 refine WC.sr ?_
 refine Kh rfl (og_box rfl rfl (by (exact cells_agg _))) ?_
 intro b6
 refine Kh rfl (og_box rfl rfl (by (exact cells_agg _))) ?_
 intro b7
 refine Kh rfl (og_alloc rfl (v := (.agg #[.slice none 0 0, .slice none 0 0, .slice none 0 0])) (cs := [.slice none 0 0, .slice none 0 0, .slice none 0 0]) (by kernel_rfl) rfl) ?_
 intro b12
 refine Ka rfl (WL.nt (WC.seq ?_))
 refine WC.joinP (σ := Unit) [(2, _), (3, _), (4, _), (5, _), (6, _), (7, _), (12, _)] (fun gq => [(44, .bool (decide (¬ (okK m ∧ okK k ∧ okN a ∧ okN b ∧ okN v ∧ okN r))))]) (fun gq => True) (sub_cons rfl (sub_cons rfl (sub_cons rfl (sub_cons rfl (sub_cons rfl (sub_cons rfl (sub_cons rfl (sub_nil _)))))))) ?_ ?_
 ·skip
  refine WC.region ?_
  refine Kq rfl (lda rfl rfl .tc Tryz.underlying26 rfl ?_) ?_
  ·kernel_rfl
  refine Kh rfl (og_call rfl rfl (by kernel_rfl) (keep_val fun w hS => icform_c (k := m))) ?_
  intro _
  refine Kq rfl (rd_not rfl rfl) (Km rfl ?_)
  refine WL.bool 20 rfl (fun hg20 => ?_) (fun hg20 => ?_)
  ·(try simp only [sB] at hg20)
   refine Kt rfl (Kt rfl (Kt rfl (Kq rfl (rd_pickt rfl rfl rfl) (Km rfl (Kt rfl (Kt rfl (Kt rfl (Kq rfl (rd_pickt rfl rfl rfl) (Km rfl (Kt rfl (Kt rfl ?_)))))))))))
   refine Kt rfl (Kq rfl (rd_pickt rfl rfl rfl) (Km rfl (Kt rfl (Kt rfl (Kt rfl (Kq rfl (rd_pickt rfl rfl rfl) (Km rfl (Kt rfl (Kt rfl (Kt rfl (Kq rfl (rd_pickt rfl rfl rfl) ?_)))))))))))
   refine WL.nil ?_
   refine WX.joinP (()) (sub_cons rfl (sub_cons rfl (sub_cons rfl (sub_cons rfl (sub_cons rfl (sub_cons rfl (sub_cons rfl (sub_nil _)))))))) (by refine (sub_cons ?_ (sub_nil _)) <;> ((refine slot_b rfl ?_; (try dsimp only); (simp [*]; done)))) ?_ (by (exact fun _ h => h))
   (try dsimp only)
   done
  ·(try simp only [sB] at hg20)
   refine Kq rfl (lda rfl rfl .tc Tryz.underlying26 rfl ?_) ?_
   ·kernel_rfl
   refine Kh rfl (og_call rfl rfl (by kernel_rfl) (keep_val fun w hS => icform_c (k := k))) ?_
   intro _
   refine Kq rfl (rd_not rfl rfl) (Kq rfl (rd_pickf rfl rfl rfl) (Km rfl ?_))
   refine WL.bool 25 rfl (fun hg25 => ?_) (fun hg25 => ?_)
   ·(try simp only [sB] at hg25)
    refine Kt rfl (Kt rfl (Kt rfl (Kq rfl (rd_pickt rfl rfl rfl) (Km rfl (Kt rfl (Kt rfl (Kt rfl (Kq rfl (rd_pickt rfl rfl rfl) (Km rfl (Kt rfl (Kt rfl ?_)))))))))))
    refine Kt rfl (Kq rfl (rd_pickt rfl rfl rfl) (Km rfl (Kt rfl (Kt rfl (Kt rfl (Kq rfl (rd_pickt rfl rfl rfl) (WL.nil ?_)))))))
    refine WX.joinP (()) (sub_cons rfl (sub_cons rfl (sub_cons rfl (sub_cons rfl (sub_cons rfl (sub_cons rfl (sub_cons rfl (sub_nil _)))))))) (by refine (sub_cons ?_ (sub_nil _)) <;> ((refine slot_b rfl ?_; (try dsimp only); (simp [*]; done)))) ?_ (by (exact fun _ h => h))
    (try dsimp only)
    done
   ·(try simp only [sB] at hg25)
    refine Km rfl ?_
    refine Kh rfl (og_call rfl rfl (by kernel_rfl) (keep_val fun w hS => rvalid_c (a := a))) ?_
    intro _
    refine Kq rfl (rd_not rfl rfl) (Kq rfl (rd_pickf rfl rfl rfl) (Km rfl ?_))
    refine WL.bool 30 rfl (fun hg30 => ?_) (fun hg30 => ?_)
    ·(try simp only [sB] at hg30)
     refine Kt rfl (Kt rfl (Kt rfl (Kq rfl (rd_pickt rfl rfl rfl) (Km rfl (Kt rfl (Kt rfl (Kt rfl (Kq rfl (rd_pickt rfl rfl rfl) (Km rfl (Kt rfl (Kt rfl ?_)))))))))))
     refine Kt rfl (Kq rfl (rd_pickt rfl rfl rfl) (WL.nil ?_))
     refine WX.joinP (()) (sub_cons rfl (sub_cons rfl (sub_cons rfl (sub_cons rfl (sub_cons rfl (sub_cons rfl (sub_cons rfl (sub_nil _)))))))) (by refine (sub_cons ?_ (sub_nil _)) <;> ((refine slot_b rfl ?_; (try dsimp only); (simp [*]; done)))) ?_ (by (exact fun _ h => h))
     (try dsimp only)
     done
    ·(try simp only [sB] at hg30)
     refine Km rfl ?_
     refine Kh rfl (og_call rfl rfl (by kernel_rfl) (keep_val fun w hS => rvalid_c (a := b))) ?_
     intro _
     refine Kq rfl (rd_not rfl rfl) (Kq rfl (rd_pickf rfl rfl rfl) (Km rfl ?_))
     refine WL.bool 35 rfl (fun hg35 => ?_) (fun hg35 => ?_)
     ·(try simp only [sB] at hg35)
      refine Kt rfl (Kt rfl (Kt rfl (Kq rfl (rd_pickt rfl rfl rfl) (Km rfl (Kt rfl (Kt rfl (Kt rfl (Kq rfl (rd_pickt rfl rfl rfl) (WL.nil ?_)))))))))
      refine WX.joinP (()) (sub_cons rfl (sub_cons rfl (sub_cons rfl (sub_cons rfl (sub_cons rfl (sub_cons rfl (sub_cons rfl (sub_nil _)))))))) (by refine (sub_cons ?_ (sub_nil _)) <;> ((refine slot_b rfl ?_; (try dsimp only); (simp [*]; done)))) ?_ (by (exact fun _ h => h))
      (try dsimp only)
      done
     ·(try simp only [sB] at hg35)
      refine Km rfl ?_
      refine Kh rfl (og_call rfl rfl (by kernel_rfl) (keep_val fun w hS => rvalid_c (a := v))) ?_
      intro _
      refine Kq rfl (rd_not rfl rfl) (Kq rfl (rd_pickf rfl rfl rfl) (Km rfl ?_))
      refine WL.bool 40 rfl (fun hg40 => ?_) (fun hg40 => ?_)
      ·(try simp only [sB] at hg40)
       refine Kt rfl (Kt rfl (Kt rfl (Kq rfl (rd_pickt rfl rfl rfl) (WL.nil ?_))))
       refine WX.joinP (()) (sub_cons rfl (sub_cons rfl (sub_cons rfl (sub_cons rfl (sub_cons rfl (sub_cons rfl (sub_cons rfl (sub_nil _)))))))) (by refine (sub_cons ?_ (sub_nil _)) <;> ((refine slot_b rfl ?_; (try dsimp only); (simp [*]; done)))) ?_ (by (exact fun _ h => h))
       (try dsimp only)
       done
      ·(try simp only [sB] at hg40)
       refine Km rfl ?_
       refine Kh rfl (og_call rfl rfl (by kernel_rfl) (keep_val fun w hS => rvalid_c (a := r))) ?_
       intro _
       refine Kq rfl (rd_not rfl rfl) (Kq rfl (rd_pickf rfl rfl rfl) (WL.nil ?_))
       refine WX.joinP (()) (sub_cons rfl (sub_cons rfl (sub_cons rfl (sub_cons rfl (sub_cons rfl (sub_cons rfl (sub_cons rfl (sub_nil _)))))))) (by refine (sub_cons ?_ (sub_nil _)) <;> ((refine slot_b rfl ?_; (try dsimp only); (simp [*]; done)))) ?_ (by (exact fun _ h => h))
       (try dsimp only)
       done
 ·rintro _ hmeet; (try dsimp only at hmeet ⊢)
  refine WC.cond rfl (fun hc44 => ?_) (fun hc44 => ?_)
  ·(try simp only [sB] at hc44)
   have hr : eqS m k a b v r = (([], [], []), 3) := by
    have h : eqE m k a b v r = 3 := by rw [eqE, if_pos hc44]
    rw [eqS, h, if_pos (by decide)]
   refine WC.sr ?_
   refine Kq rfl (rd_bld [[.slice none 0 0], [.slice none 0 0], [.slice none 0 0]] rfl rfl (by simp only [bld, fldv, Nat.beq, Value.cells, cond_true, cond_false, List.nil_append, List.cons_append, List.append_nil]; rfl) (fun w => by kernel_rfl)) ?_
   refine WL.g0 rfl rfl (sta rfl rfl rfl .tc ?_ ?_ ?_) ?_
   ·kernel_rfl
   ·simp [Value.oneCell']
   ·rfl
   intro _
   refine Ka rfl (WL.nt (WC.ret (WX.then_ret ?_)))
   exact WX.retN rfl (.agg rfl .tc Tryz.underlying35 rfl (by kernel_rfl) (.tmp rfl .nil)) fun w' hS => sm_err hr hS
  ·(try simp only [sB] at hc44)
   have hok := Decidable.not_not.1 hc44
   refine WC.skip (WX.then_normal (WC.seq (WC.sr ?_)))
   refine Kq rfl (lda rfl rfl .tc Tryz.underlying26 rfl ?_) ?_
   ·kernel_rfl
   refine Kh rfl (og_call rfl rfl (by kernel_rfl) (keep_val fun w hS => rpdcheck_c (k := m) (by assumption))) ?_
   intro _
   refine Ka rfl (WL.nt (WC.sr (Km rfl (Kq rfl (rd_neq rfl rfl rfl) (WL.nt ?_)))))
   refine WC.cond rfl (fun hc49 => ?_) (fun hc49 => ?_)
   ·(try simp only [sB] at hc49)
    have hr : eqS m k a b v r = (([], [], []), chkK m) := by
     have h : eqE m k a b v r = chkK m := by rw [eqE, if_neg (fun h => h hok), if_pos (by simpa using hc49)]
     rw [eqS, h, if_pos (by simpa using hc49)]
    refine WC.sr ?_
    refine Kq rfl (rd_bld [[.slice none 0 0], [.slice none 0 0], [.slice none 0 0]] rfl rfl (by simp only [bld, fldv, Nat.beq, Value.cells, cond_true, cond_false, List.nil_append, List.cons_append, List.append_nil]; rfl) (fun w => by kernel_rfl)) ?_
    refine Km rfl ?_
    refine WL.g0 rfl rfl (sta rfl rfl rfl .tc ?_ ?_ ?_) ?_
    ·kernel_rfl
    ·simp [Value.oneCell']
    ·rfl
    intro _
    refine Ka rfl (WL.nt (WC.ret (WX.then_ret ?_)))
    exact WX.retN rfl (.agg rfl .tc Tryz.underlying35 rfl (by kernel_rfl) (.tmp rfl .nil)) fun w' hS => sm_err hr hS
   ·(try simp only [sB] at hc49)
    have hkm : chkK m = 0 := by simpa using hc49
    have hgm := (chkK_ok hkm).2.1
    refine WC.skip (WX.then_normal (WC.seq (WC.sr ?_)))
    refine Kq rfl (rd_fa (q := 0) rfl rfl Tryz.underlying26 rfl (by kernel_rfl) rfl) ?_
    refine Kq rfl (rd_fa (q := 1) rfl rfl Tryz.underlying24 rfl (by kernel_rfl) rfl) ?_
    refine Kq rfl (ld rfl rfl .tc Tryz.underlying22 rfl (by rfl)) ?_
    refine Kq rfl (rd_seq rfl rfl rfl) (WL.nt ?_)
    refine WC.cond rfl (fun hc55 => ?_) (fun hc55 => ?_)
    ·(try simp only [sB] at hc55)
     have hr : eqS m k a b v r = (([], [], []), 10) := by
      have h : eqE m k a b v r = 10 := by rw [eqE, if_neg (fun h => h hok), if_neg (fun h => h hkm), if_pos (by simpa using hc55)]
      rw [eqS, h, if_pos (by decide)]
     refine WC.sr ?_
     refine Kq rfl (rd_bld [[.slice none 0 0], [.slice none 0 0], [.slice none 0 0]] rfl rfl (by simp only [bld, fldv, Nat.beq, Value.cells, cond_true, cond_false, List.nil_append, List.cons_append, List.append_nil]; rfl) (fun w => by kernel_rfl)) ?_
     refine WL.g0 rfl rfl (sta rfl rfl rfl .tc ?_ ?_ ?_) ?_
     ·kernel_rfl
     ·simp [Value.oneCell']
     ·rfl
     intro _
     refine Ka rfl (WL.nt (WC.ret (WX.then_ret ?_)))
     exact WX.retN rfl (.agg rfl .tc Tryz.underlying35 rfl (by kernel_rfl) (.tmp rfl .nil)) fun w' hS => sm_err hr hS
    ·(try simp only [sB] at hc55)
     have hmo : ¬ m.1.2 = [] := by simpa using hc55
     refine WC.skip (WX.then_normal (WC.seq (WC.sr ?_)))
     refine Kq rfl (lda rfl rfl .tc Tryz.underlying26 rfl ?_) ?_
     ·kernel_rfl
     refine Kh rfl (og_call rfl rfl (by kernel_rfl) (keep_val fun w hS => richeck_c (k := k) (by assumption))) ?_
     intro _
     refine Ka rfl (WL.nt (WC.sr (Km rfl (Kq rfl (rd_neq rfl rfl rfl) (WL.nt ?_)))))
     refine WC.cond rfl (fun hc60 => ?_) (fun hc60 => ?_)
     ·(try simp only [sB] at hc60)
      have hr : eqS m k a b v r = (([], [], []), chkI k) := by
       have h : eqE m k a b v r = chkI k := by rw [eqE, if_neg (fun h => h hok), if_neg (fun h => h hkm), if_neg hmo, if_pos (by simpa using hc60)]
       rw [eqS, h, if_pos (by simpa using hc60)]
      refine WC.sr ?_
      refine Kq rfl (rd_bld [[.slice none 0 0], [.slice none 0 0], [.slice none 0 0]] rfl rfl (by simp only [bld, fldv, Nat.beq, Value.cells, cond_true, cond_false, List.nil_append, List.cons_append, List.append_nil]; rfl) (fun w => by kernel_rfl)) ?_
      refine Km rfl ?_
      refine WL.g0 rfl rfl (sta rfl rfl rfl .tc ?_ ?_ ?_) ?_
      ·kernel_rfl
      ·simp [Value.oneCell']
      ·rfl
      intro _
      refine Ka rfl (WL.nt (WC.ret (WX.then_ret ?_)))
      exact WX.retN rfl (.agg rfl .tc Tryz.underlying35 rfl (by kernel_rfl) (.tmp rfl .nil)) fun w' hS => sm_err hr hS
     ·(try simp only [sB] at hc60)
      have hk : chkI k = 0 := by simpa using hc60
      have hg := (chkI_ok hk).2.1
      refine WC.skip (WX.then_normal (WC.seq ?_))
      refine WC.joinP (σ := Unit) [(2, _), (3, _), (4, _), (5, _), (6, _), (7, _), (12, _)] (fun gq => [(74, .bool (decide (¬ (elG m.1 a ∧ elG k.1 b))))]) (fun gq => True) (sub_cons rfl (sub_cons rfl (sub_cons rfl (sub_cons rfl (sub_cons rfl (sub_cons rfl (sub_cons rfl (sub_nil _)))))))) ?_ ?_
      ·skip
       refine WC.region ?_
       refine Kq rfl (rd_fa (q := 0) rfl rfl Tryz.underlying26 rfl (by kernel_rfl) rfl) ?_
       refine Kq rfl (ldp rfl rfl .tc Tryz.underlying24 rfl (by kernel_rfl : _ = some 2) (by rfl) (by rfl)) ?_
       refine Km rfl ?_
       refine Kh rfl (og_call rfl rfl (by kernel_rfl) (keep_val fun w hS => rghas_c (g := m.1) (x := a) (by assumption))) ?_
       intro _
       refine WL.set 66 rfl (v' := .bool (decide (elG m.1 a))) (congrArg Value.bool (by simp [hgm])) ?_
       refine Kq rfl (rd_not rfl rfl) (Km rfl ?_)
       refine WL.bool 68 rfl (fun hg68 => ?_) (fun hg68 => ?_)
       ·(try simp only [sB] at hg68)
        refine Kt rfl (Kt rfl (Kt rfl (Kt rfl (Kt rfl (Kq rfl (rd_pickt rfl rfl rfl) (WL.nil ?_))))))
        refine WX.joinP (()) (sub_cons rfl (sub_cons rfl (sub_cons rfl (sub_cons rfl (sub_cons rfl (sub_cons rfl (sub_cons rfl (sub_nil _)))))))) (by refine (sub_cons ?_ (sub_nil _)) <;> ((refine slot_b rfl ?_; (try dsimp only); (simp [*]; done)))) ?_ (by (exact fun _ h => h))
        (try dsimp only)
        done
       ·(try simp only [sB] at hg68)
        refine Kq rfl (rd_fa (q := 0) rfl rfl Tryz.underlying26 rfl (by kernel_rfl) rfl) ?_
        refine Kq rfl (ldp rfl rfl .tc Tryz.underlying24 rfl (by kernel_rfl : _ = some 2) (by rfl) (by rfl)) ?_
        refine Km rfl ?_
        refine Kh rfl (og_call rfl rfl (by kernel_rfl) (keep_val fun w hS => rghas_c (g := k.1) (x := b) (by assumption))) ?_
        intro _
        refine WL.set 72 rfl (v' := .bool (decide (elG k.1 b))) (congrArg Value.bool (by simp [hg])) ?_
        refine Kq rfl (rd_not rfl rfl) (Kq rfl (rd_pickf rfl rfl rfl) (WL.nil ?_))
        refine WX.joinP (()) (sub_cons rfl (sub_cons rfl (sub_cons rfl (sub_cons rfl (sub_cons rfl (sub_cons rfl (sub_cons rfl (sub_nil _)))))))) (by refine (sub_cons ?_ (sub_nil _)) <;> ((refine slot_b rfl ?_; (try dsimp only); (simp [*]; done)))) ?_ (by (exact fun _ h => h))
        (try dsimp only)
        done
      ·rintro _ hmeet; (try dsimp only at hmeet ⊢)
       refine WC.cond rfl (fun hc74 => ?_) (fun hc74 => ?_)
       ·(try simp only [sB] at hc74)
        have hr : eqS m k a b v r = (([], [], []), 13) := by
         have h : eqE m k a b v r = 13 := by rw [eqE, if_neg (fun h => h hok), if_neg (fun h => h hkm), if_neg hmo, if_neg (fun h => h hk), if_pos hc74]
         rw [eqS, h, if_pos (by decide)]
        refine WC.sr ?_
        refine Kq rfl (rd_bld [[.slice none 0 0], [.slice none 0 0], [.slice none 0 0]] rfl rfl (by simp only [bld, fldv, Nat.beq, Value.cells, cond_true, cond_false, List.nil_append, List.cons_append, List.append_nil]; rfl) (fun w => by kernel_rfl)) ?_
        refine WL.g0 rfl rfl (sta rfl rfl rfl .tc ?_ ?_ ?_) ?_
        ·kernel_rfl
        ·simp [Value.oneCell']
        ·rfl
        intro _
        refine Ka rfl (WL.nt (WC.ret (WX.then_ret ?_)))
        exact WX.retN rfl (.agg rfl .tc Tryz.underlying35 rfl (by kernel_rfl) (.tmp rfl .nil)) fun w' hS => sm_err hr hS
       ·(try simp only [sB] at hc74)
        have hel := Decidable.not_not.1 hc74
        have h : eqE m k a b v r = bndE v r := by rw [eqE, if_neg (fun h => h hok), if_neg (fun h => h hkm), if_neg hmo, if_neg (fun h => h hk), if_neg (fun h => h hel)]
        refine WC.skip (WX.then_normal (WC.seq (WC.sr (Km rfl (Km rfl ?_)))))
        refine Kh rfl (og_call rfl rfl (by kernel_rfl) (keep_val fun w hS => icbounds_c (v := v) (r := r))) ?_
        intro _
        refine Ka rfl (WL.nt (WC.sr (Km rfl (Kq rfl (rd_neq rfl rfl rfl) (WL.nt ?_)))))
        refine WC.cond rfl (fun hc80 => ?_) (fun hc80 => ?_)
        ·(try simp only [sB] at hc80)
         have hr : eqS m k a b v r = (([], [], []), bndE v r) := by rw [eqS, h, if_pos hc80]
         refine WC.sr ?_
         refine Kq rfl (rd_bld [[.slice none 0 0], [.slice none 0 0], [.slice none 0 0]] rfl rfl (by simp only [bld, fldv, Nat.beq, Value.cells, cond_true, cond_false, List.nil_append, List.cons_append, List.append_nil]; rfl) (fun w => by kernel_rfl)) ?_
         refine Km rfl ?_
         refine WL.g0 rfl rfl (sta rfl rfl rfl .tc ?_ ?_ ?_) ?_
         ·kernel_rfl
         ·simp [Value.oneCell']
         ·rfl
         intro _
         refine Ka rfl (WL.nt (WC.ret (WX.then_ret ?_)))
         exact WX.retN rfl (.agg rfl .tc Tryz.underlying35 rfl (by kernel_rfl) (.tmp rfl .nil)) fun w' hS => sm_err hr hS
        ·(try simp only [sB] at hc80)
         have hr : eqS m k a b v r = (eqQ m k a b v r, 0) := by rw [eqS, h, if_neg (fun h => h hc80)]
         refine WC.skip (WX.then_normal (WC.seq ?_))
         refine WC.free0 [12, 13, 14, 15, 16, 17, 21, 22, 23, 24, 25, 26, 0, 1, 2, 3, 4, 5, 6, 7, 8, 9, 10, 11, 18, 19, 20, 27, 28, 29, 30] [31, 32] [0, 0, 0, 0, 3, 0, 0, 0, 0, 0, 3, 0, 0, 0, 1, 0, 0, 1, 3, 0, 0, 0, 0, 1, 0, 0, 1, 3, 0, 3, 0, 2, 2] (by kernel_rfl) (by kernel_rfl) rfl ?_
         refine Kj rfl (rd_fa (q := 2) rfl rfl Tryz.underlying26 rfl (by kernel_rfl) rfl) ?_
         refine Kj rfl (ld rfl rfl .tc Tryz.underlying22 rfl (by rfl)) ?_
         refine WJ.gv rfl rfl rfl rfl rfl (fun ext => og_call rfl rfl (by kernel_rfl) (keep_val fun w hS => icterm_c (b := m.2.1) (v := 0))) ?_
         refine Kj rfl (rd_fa (q := 3) rfl rfl Tryz.underlying26 rfl (by kernel_rfl) rfl) ?_
         refine Kj rfl (ld rfl rfl .tc Tryz.underlying22 rfl (by rfl)) ?_
         refine WJ.gv rfl rfl rfl rfl rfl (fun ext => og_call rfl rfl (by kernel_rfl) (keep_val fun w hS => icterm_c (b := m.2.2) (v := 1))) ?_
         refine Kj rfl (rd_fa (q := 2) rfl rfl Tryz.underlying26 rfl (by kernel_rfl) rfl) ?_
         refine Kj rfl (ld rfl rfl .tc Tryz.underlying22 rfl (by rfl)) ?_
         refine WJ.gv rfl rfl rfl rfl rfl (fun ext => og_call rfl rfl (by kernel_rfl) (keep_val fun w hS => icterm_c (b := k.2.1) (v := 0))) ?_
         refine Kj rfl (rd_fa (q := 3) rfl rfl Tryz.underlying26 rfl (by kernel_rfl) rfl) ?_
         refine Kj rfl (ld rfl rfl .tc Tryz.underlying22 rfl (by rfl)) ?_
         refine WJ.gv rfl rfl rfl rfl rfl (fun ext => og_call rfl rfl (by kernel_rfl) (keep_val fun w hS => icterm_c (b := k.2.2) (v := 2))) ?_
         refine Kj rfl (rd_fa (q := 0) rfl rfl Tryz.underlying26 rfl (by kernel_rfl) rfl) ?_
         refine Kj rfl (ldp rfl rfl .tc Tryz.underlying24 rfl (by kernel_rfl : _ = some 2) (by rfl) (by rfl)) ?_
         refine Kj rfl (rd_fa (q := 0) rfl rfl Tryz.underlying26 rfl (by kernel_rfl) rfl) ?_
         refine Kj rfl (ldp rfl rfl .tc Tryz.underlying24 rfl (by kernel_rfl : _ = some 2) (by rfl) (by rfl)) ?_
         refine WJ.f rfl rfl rfl rfl rfl (fr_bsN rfl rfl Tryz.underlying31 (by kernel_rfl : _ = some (some (.agg #[.string (S []), .string (S [])]), 2, 32)) (by kernel_rfl) (by decide) rfl rfl (by (simp [Value.cells]; done)) (by (simp only [List.map, Value.cells, List.flatMap_cons, List.flatMap_nil, List.append_nil, List.toList_toArray]; rfl)) (by decide)) ?_
         intro b87
         refine Kj rfl (rd_move rfl rfl) ?_
         refine Kj rfl (rd_bld [[.string (S [])]] rfl rfl (by simp only [bld, fldv, Nat.beq, Value.cells, cond_true, cond_false, List.nil_append, List.cons_append, List.append_nil]; rfl) (fun w => by kernel_rfl)) ?_
         refine Kj rfl (rd_bld [[.string (S [])]] rfl rfl (by simp only [bld, fldv, Nat.beq, Value.cells, cond_true, cond_false, List.nil_append, List.cons_append, List.append_nil]; rfl) (fun w => by kernel_rfl)) ?_
         refine Kj rfl (rd_move rfl rfl) ?_
         refine Kj rfl (rd_bld [[.string (S [])]] rfl rfl (by simp only [bld, fldv, Nat.beq, Value.cells, cond_true, cond_false, List.nil_append, List.cons_append, List.append_nil]; rfl) (fun w => by kernel_rfl)) ?_
         refine WJ.f rfl rfl rfl rfl rfl (fr_bsN rfl rfl Tryz.underlying32 (by kernel_rfl : _ = some (some (.agg #[.string (S [])]), 1, 16)) (by kernel_rfl) (by decide) rfl rfl (by (simp [Value.cells]; done)) (by (simp only [List.map, Value.cells, List.flatMap_cons, List.flatMap_nil, List.append_nil, List.toList_toArray]; rfl)) (by decide)) ?_
         intro b93
         refine Kj rfl (rd_move rfl rfl) ?_
         refine WJ.f rfl rfl rfl rfl rfl (fr_bsN rfl rfl Tryz.underlying100 (by kernel_rfl : _ = some (some (.agg #[.string (S []), .int .i64 0, .bool false, .string (S [])]), 4, 48)) (by kernel_rfl) (by decide) rfl rfl (by (simp [Value.cells]; done)) (by (simp only [List.map, Value.cells, List.flatMap_cons, List.flatMap_nil, List.append_nil, List.toList_toArray]; rfl)) (by decide)) ?_
         intro b101
         refine Kj rfl (rd_bld [[.int .i64 0], [.string (S [])], [.slice none 0 0]] rfl rfl (by simp only [bld, fldv, Nat.beq, Value.cells, cond_true, cond_false, List.nil_append, List.cons_append, List.append_nil]; rfl) (fun w => by kernel_rfl)) ?_
         refine Kj rfl (rd_move rfl rfl) ?_
         refine WJ.f rfl rfl rfl rfl rfl (fr_bsN rfl rfl Tryz.underlying100 (by kernel_rfl : _ = some (some (.agg #[.string (S []), .int .i64 0, .bool false, .string (S [])]), 4, 48)) (by kernel_rfl) (by decide) rfl rfl (by (simp [Value.cells]; done)) (by (simp only [List.map, Value.cells, List.flatMap_cons, List.flatMap_nil, List.append_nil, List.toList_toArray]; rfl)) (by decide)) ?_
         intro b110
         refine Kj rfl (rd_bld [[.int .i64 0], [.string (S [])], [.slice none 0 0]] rfl rfl (by simp only [bld, fldv, Nat.beq, Value.cells, cond_true, cond_false, List.nil_append, List.cons_append, List.append_nil]; rfl) (fun w => by kernel_rfl)) ?_
         refine WJ.f rfl rfl rfl rfl rfl (fr_bsN rfl rfl Tryz.underlying33 (by kernel_rfl : _ = some (some (.agg #[.int .i64 0, .string (S []), .slice none 0 0]), 3, 48)) (by kernel_rfl) (by decide) rfl rfl (by (simp [Value.cells]; done)) (by (simp only [List.map, Value.cells, List.flatMap_cons, List.flatMap_nil, List.append_nil, List.toList_toArray]; rfl)) (by decide)) ?_
         intro b112
         refine Kj rfl (rd_bld [[.slice none 0 0], [.slice none 0 0], [.slice none 0 0]] rfl rfl (by simp only [bld, fldv, Nat.beq, Value.cells, cond_true, cond_false, List.nil_append, List.cons_append, List.append_nil]; rfl) (fun w => by kernel_rfl)) ?_
         refine WJ.nil ?_
         refine WL.g0 rfl rfl (sta rfl rfl rfl .tc ?_ ?_ ?_) ?_
         ·kernel_rfl
         ·simp [Value.oneCell']
         ·rfl
         intro _
         refine Ka rfl (WL.nt (WC.ret ?_))
         exact WX.retN rfl (.agg rfl .tc Tryz.underlying35 rfl (by kernel_rfl) (.tmp rfl .nil)) fun w' hS => ⟨⟨[m.1, k.1], [v, [], r], [((0, a, [trm m.2.1 0, trm m.2.2 1]), some ⟨b101, 0, none⟩, 2), ((1, b, [trm k.2.1 0, trm k.2.2 2]), some ⟨b110, 0, none⟩, 2)], some ⟨b87, 0, none⟩, 2, some ⟨b93, 0, none⟩, 3, some ⟨b112, 0, none⟩, 2⟩, by rw [hr]; rfl, by rw [hr]; rfl, hS.below, facts_cons hS.osk (facts_cons hS.osk (facts_cons hS.osk (facts_cons hS.osk (facts_cons hS.osk facts_nil))))⟩
end Go.Proofs.YtnimhldbblfgbaaGreat
namespace Go.Proofs.YtnimhldbblfgbaaGreat
set_option linter.unusedSimpArgs false
set_option linter.unusedVariables false
set_option maxRecDepth 20000
set_option maxHeartbeats 600000
open Go.RowKit
theorem imS_at {s : SA} {ws : List Zs} {i : Nat} (h : i < s.es.length) (h0 : ∀ q ∈ s.es.take i, (imQ s.gs ws q.1).2 = 0) (h1 : (imQ s.gs ws (s.es.getD i default).1).2 ≠ 0) : imS s.core ws = ([], (imQ s.gs ws (s.es.getD i default).1).2) := by
 have e : errL (s.core.2.2.map fun q => (imQ s.core.1 ws q).2) = (imQ s.gs ws (s.es.getD i default).1).2 := by
  rw [← errL_at (f := fun q : QA => (imQ s.gs ws q.1).2) h h0 h1, List.map_map]; rfl
 rw [imS, e, if_pos h1]
theorem imS_ok {s : SA} {ws : List Zs} (h0 : ∀ q ∈ s.es, (imQ s.gs ws q.1).2 = 0) : imS s.core ws = (s.es.map fun q => (imQ s.gs ws q.1).1, 0) := by
 have e : errL (s.core.2.2.map fun q => (imQ s.core.1 ws q).2) = 0 := errL_map fun q hq => by
  obtain ⟨x, hx, rfl⟩ := List.mem_map.1 hq; exact h0 x hx
 rw [imS, e, if_neg (fun h => h rfl), List.map_map]; rfl
theorem imQ_err {gs : List Gp} {ws : List Zs} {q : Qn} (h : (exQ ws q).2 ≠ 0) : imQ gs ws q = ([], (exQ ws q).2) := by rw [imQ, if_pos h]
theorem imQ_ok {gs : List Gp} {ws : List Zs} {q : Qn} (h : (exQ ws q).2 = 0) : imQ gs ws q = prodS (gs.getD q.1.toNat default) (bsQ ws q) (exQ ws q).1 := by rw [imQ, bsQ, if_neg (fun h2 => h2 h), if_neg (fun h2 => h2 h)]
theorem qs_strs {l : List QA} (f : QA → Bs) {i : Nat} (h : i < l.length) : strs ((l.take (i + 1)).map f) = strs ((l.take i).map f) ++ [.string (S (f (l.getD i default)))] := by
 rw [take_succ_getD h, List.map_append]; simp [strs]
theorem bsQ_len {ws : List Zs} {q : Qn} : (bsQ ws q).length ≤ q.2.2.length := by rw [bsQ]; split <;> simp
theorem exQ_len {ws : List Zs} {q : Qn} : (exQ ws q).1.length ≤ q.2.2.length := by rw [exQ]; split <;> simp
theorem images_c {s : SA} {ws : List Zs} {a : Option Addr} {c : Nat} {w : World} {ok : Nat → Prop} (hF1 : (Fact.sl s.ga (gps s.gs)).holds ok w) (hF2 : (Fact.sl s.ea (qas s.es)).holds ok w) (hF3 : (Fact.sl a (ints ws)).holds ok w) (hM : ∀ f ∈ (s.es.map qaF), f.holds ok w) (hs : saL s) (hw : ws.length = s.vs.length) (hfo : formS s.core) :
  Calls Tryz.prog 75 #[saV s, .slice a ws.length c] w fun e w' => ∃ gx : Rs, e = .returned (.tuple #[gx.val (imS s.core ws).1.length, .int .i64 (imS s.core ws).2]) ∧ (True) ∧ Below w.heap.size w w' ∧ ∀ x ∈ ([Fact.sl gx.a (strs (imS s.core ws).1)] : List Fact), x.holds (fun b => w.heap.size ≤ b) w' := by
 obtain ⟨hlg, hlv, hle, hlt, hlm⟩ := hs
 refine enter (S := St (fun _ => True) w [] (Fact.sl s.ga (gps s.gs) :: Fact.sl s.ea (qas s.es) :: Fact.sl a (ints ws) :: (s.es.map qaF))) (L := [(0, saV s), (1, .slice a ws.length c)]) Tryz.func75 rfl Tryz.ntmps75 rfl (args_cons rfl (args_cons rfl (args_nil _))) (St.start (fun _ _ => trivial) (facts_cons (fact_any hF1) (facts_cons (fact_any hF2) (facts_cons (fact_any hF3) (facts_more hM))))) ?_
 refine WC.sr ?_
 refine Kh rfl (og_box rfl rfl (by (exact cells_agg _))) ?_
 intro b2
 refine Kh rfl (og_box rfl rfl (by (exact cells_agg _))) ?_
 intro b3
 refine Ka rfl (Ka rfl (WL.nt (WC.sr ?_)))
 refine Kq rfl (rd_mkf rfl rfl rfl) ?_
 refine Ka rfl (WL.nt (WC.sr (Ka rfl (WL.nt (WC.seq (WC.sr ?_))))))
 refine Kq rfl (rd_fa (q := 2) rfl rfl Tryz.underlying35 rfl (by kernel_rfl) rfl) ?_
 refine Kq rfl (ld rfl rfl .tc Tryz.underlying33 rfl (by rfl)) ?_
 refine Kq rfl (rd_len rfl rfl Tryz.underlying33) (Km rfl (WL.nt (WC.block ?_)))
 refine WC.loopO (σ := Nat × (Option Nat) × Nat × (List Value)) [(2, _), (6, _), (16, _), (17, _)] (fun gq => [(7, .slice (gq.2.1.map fun b => ⟨b, 0, none⟩) gq.1 gq.2.2.1), (18, .int .i64 (gq.1 : Int))]) (fun gq => (gq.1 ≤ s.es.length ∧ gq.2.2.1 = gq.1 + gq.2.2.2.length) ∧ ∀ q ∈ s.es.take gq.1, (imQ s.gs ws q.1).2 = 0) (fun gq => s.es.length - gq.1) (fun gq => [⟨gq.2.1, strs ((s.es.take gq.1).map fun q => (imQ s.gs ws q.1).1) ++ gq.2.2.2, 22⟩, ⟨some b3, [.slice a ws.length c], 49⟩, ⟨some b2, [.slice s.ga s.gs.length s.gc, .slice s.va s.vs.length s.vc, .slice s.ea s.es.length s.ec], 35⟩]) (fun gq => (Fact.sl s.ga (gps s.gs) :: Fact.sl s.ea (qas s.es) :: Fact.sl a (ints ws) :: s.es.map qaF)) (0, none, 0, []) (sub_cons rfl (sub_cons rfl (sub_cons rfl (sub_cons rfl (sub_nil _))))) (sub_cons rfl (sub_cons rfl (sub_nil _))) (by (try dsimp only); exact ⟨⟨Nat.zero_le _, rfl⟩, by simp⟩) (by exact fun w h => h.nil _) ?_
 rintro ⟨i, o, cp, sp⟩ hinv1; (try dsimp only at hinv1 ⊢)
 obtain ⟨⟨hi, hcp⟩, hok⟩ := hinv1
 refine WC.sr (Kq rfl (rd_lss rfl rfl rfl) (WL.nt (WC.seq ?_)))
 refine WC.cond rfl (fun hc19 => ?_) (fun hc19 => ?_)
 ·(try simp only [sB] at hc19)
  have hil : i < s.es.length := by omega
  have him := getD_mem s.es i hil
  have hlt1 := hlt _ him
  have hfq := hfo.2.2 _ (List.mem_map_of_mem him)
  have hgl : (s.es.getD i default).1.1.toNat < s.gs.length := by have := hfq.1.1.1; have := hfq.1.1.2; simp only [SA.core] at this; omega
  have hg8 := hlm _ (getD_mem _ _ hgl)
  have hq0 := hfq.1.1.1
  refine WC.skip (WX.then_normal (WC.seq (WC.block (WC.sr ?_))))
  (refine Kq rfl (iaf rfl rfl rfl Tryz.underlying33 (by kernel_rfl : _ = some 3) ?_ ?_ (by (try simp only [sN, Int.reduceToNat, Nat.reduceAdd, Nat.reduceMul, Nat.reduceSub]); rfl)) ?_; (focus (omega)); (focus ((rw [flatMap_len _ _ 3 (fun _ => rfl)]; omega))))
  (refine Kq rfl (ldma _ rfl rfl Tryz.underlying102 rfl (by kernel_rfl : _ = some 3) (fun _ => rfl) (by decide) rfl ?_) ?_; (focus (assumption)))
  refine Kh rfl (og_alloc rfl (v := (.agg #[.int .i64 0, .string (S []), .slice none 0 0])) (cs := [.int .i64 0, .string (S []), .slice none 0 0]) (by kernel_rfl) rfl) ?_
  intro b9
  refine WL.g0 rfl rfl (sta rfl rfl rfl .tc ?_ ?_ ?_) ?_
  ·kernel_rfl
  ·simp [Value.oneCell']
  ·rfl
  intro _
  refine WL.nt (WC.sr (Km rfl ?_))
  refine Kq rfl (lda rfl rfl .tc Tryz.underlying102 rfl ?_) ?_
  ·kernel_rfl
  refine Kh rfl (og_callv rfl rfl rfl (by kernel_rfl) rfl (keep_fr fun w hS => collect_c (q := s.es.getD i default) (ws := ws) (p := b3) (a := a) (c := c) hS.os hS.sl (hS.more (more := s.es.map qaF) _ (List.mem_map_of_mem him)) (by omega) (by exact hlt1) (by exact fun t ht => by have h1 := (hfq.2 t ht).1; refine ⟨h1.1, ?_⟩; rw [hw]; exact h1.2))) ?_
  rintro ⟨gb25, ge25⟩
  refine WL.pu ?_
  intro hg25; (try dsimp only at hg25 ⊢)
  refine WL.fa2 ?_
  refine Km rfl (Kq rfl (rd_extL rfl rfl rfl) (Kq rfl (rd_extL rfl rfl rfl) (Kq rfl (rd_extL rfl rfl rfl) (Ka rfl (Ka rfl (Ka rfl (WL.nt (WC.seq (WC.sr (Km rfl (Kq rfl (rd_neq rfl rfl rfl) ?_)))))))))))
  refine WL.nt ?_
  refine WC.cond rfl (fun hc30 => ?_) (fun hc30 => ?_)
  ·(try simp only [sB] at hc30)
   have hr : imQ s.gs ws (s.es.getD i default).1 = ([], (exQ ws (s.es.getD i default).1).2) := imQ_err hc30
   refine WC.sr (Km rfl (Ka rfl (Ka rfl (WL.nt (WC.ret (WX.then_ret (WX.block_ret (WX.then_ret (WX.then_ret (WX.block_ret (WX.then_ret ?_)))))))))))
   exact WX.retN rfl (.tmp rfl (.tmp rfl .nil)) fun w' hS => ⟨⟨none, 0, []⟩, by rw [imS_at hil hok (by rw [hr]; exact hc30), hr]; rfl, trivial, hS.below, by rw [imS_at hil hok (by rw [hr]; exact hc30)]; exact facts_cons sl_nilk facts_nil⟩
  ·(try simp only [sB] at hc30)
   have hr : imQ s.gs ws (s.es.getD i default).1 = prodS (s.gs.getD (s.es.getD i default).1.1.toNat default) (bsQ ws (s.es.getD i default).1) (exQ ws (s.es.getD i default).1).1 := imQ_ok hc30
   refine WC.skip (WX.then_normal (WC.sr ?_))
   refine Kq rfl (rd_fa (q := 0) rfl rfl Tryz.underlying35 rfl (by kernel_rfl) rfl) ?_
   refine Kq rfl (ld rfl rfl .tc Tryz.underlying31 rfl (by rfl)) ?_
   refine Kq rfl (rd_fa (q := 0) rfl rfl Tryz.underlying102 rfl (by kernel_rfl) rfl) ?_
   refine Kq rfl (ld rfl rfl .tc Tryz.underlying3 rfl (by rfl)) ?_
   (refine Kq rfl (iaf rfl rfl rfl Tryz.underlying31 (by kernel_rfl : _ = some 2) ?_ ?_ (by (try simp only [sN, Int.reduceToNat, Nat.reduceAdd, Nat.reduceMul, Nat.reduceSub]); rfl)) ?_; (focus (omega)); (focus ((rw [flatMap_len _ _ 2 (fun _ => rfl)]; omega))))
   (refine Kq rfl (ldma _ rfl rfl Tryz.underlying24 rfl (by kernel_rfl : _ = some 2) (fun _ => rfl) (by decide) rfl ?_) ?_; (focus (assumption)))
   refine Km rfl (Km rfl ?_)
   refine Kh rfl (og_call rfl rfl (by kernel_rfl) (keep_val fun w hS => pproduct_c (g := s.gs.getD (s.es.getD i default).1.1.toNat default) (l := bsQ ws (s.es.getD i default).1) (es := (exQ ws (s.es.getD i default).1).1) (by (exact hS.sl)) (by (exact hS.sl)) (by exact Nat.le_trans bsQ_len hlt1) (by exact Nat.le_trans exQ_len hlt1) (by exact hg8))) ?_
   intro _
   refine Km rfl (Kq rfl (rd_extL rfl rfl rfl) (Kq rfl (rd_extL rfl rfl rfl) (Ka rfl (Ka rfl (WL.nt (WC.seq (WC.sr (Km rfl (Kq rfl (rd_neq rfl rfl rfl) (WL.nt ?_))))))))))
   refine WC.cond rfl (fun hc45 => ?_) (fun hc45 => ?_)
   ·(try simp only [sB] at hc45)
    refine WC.sr (Km rfl (Ka rfl (Ka rfl (WL.nt (WC.ret (WX.then_ret (WX.block_ret (WX.then_ret (WX.then_ret (WX.block_ret (WX.then_ret ?_)))))))))))
    exact WX.retN rfl (.tmp rfl (.tmp rfl .nil)) fun w' hS => ⟨⟨none, 0, []⟩, by rw [imS_at hil hok (by rw [hr]; exact hc45), hr]; rfl, trivial, hS.below, by rw [imS_at hil hok (by rw [hr]; exact hc45)]; exact facts_cons sl_nilk facts_nil⟩
   ·(try simp only [sB] at hc45)
    have hx0 : (imQ s.gs ws (s.es.getD i default).1).2 = 0 := by rw [hr]; simpa using hc45
    have hls : (strs ((s.es.take i).map fun q => (imQ s.gs ws q.1).1)).length = i := by simp [strs]; omega
    refine WC.skip (WX.then_normal (WC.region (Km rfl (Km rfl ?_))))
    refine Kh rfl (og_bs1 rfl rfl Tryz.underlying60 (by kernel_rfl : _ = some (some (.string (S [])), 1, 16)) rfl (by simp only [List.map]; rfl) rfl rfl ?_ (by decide)) ?_
    ·simp [Value.cells]
    intro b49
    (refine Kh rfl (appg rfl Tryz.underlying60 (by kernel_rfl : _ = some (some (.string (S [])), 1, 16)) rfl .tc rfl rfl (fun w hS => by (exact hS.os)) (by rfl) ?_ ?_) ?_; (focus (refine ⟨?_, ?_, ?_, ?_⟩ <;> first | exact hls | (try simp) <;> omega)); (focus ((simp [Value.oneCell']; done))))
    rintro ⟨o50, c50, s50⟩
    refine WL.pu ?_
    intro hg50; (try dsimp only at hg50 ⊢)
    refine Ka rfl (WL.nil (WX.block_normal (WX.then_normal (WC.region ?_))))
    (refine Kq rfl (rd_add64nl rfl rfl rfl ?_) ?_; (focus (omega)))
    refine Km rfl (WL.nil ?_)
    refine WX.loopO ((i + 1, o50, c50, s50)) (by (try dsimp only); omega) (sub_cons rfl (sub_cons rfl (sub_cons rfl (sub_cons rfl (sub_nil _))))) (by refine (sub_cons ?_ (sub_cons ?_ (sub_nil _))) <;> (rfl)) ?_ (by exact fun w h => by rw [qs_strs _ hil, hr]; exact st_sub _ h)
    (try dsimp only)
    exact ⟨⟨hil, by omega⟩, all_take hil hok hx0⟩
 ·(try simp only [sB] at hc19)
  refine WC.exit (WX.then_exit (WX.then_exit (WX.block_exit ?_)))
  obtain rfl : i = s.es.length := by omega
  rw [List.take_length] at hok
  rw [List.take_length]
  refine WX.then_normal (WC.sr (Km rfl (Ka rfl (Ka rfl (WL.nt (WC.ret ?_))))))
  exact WX.retN rfl (.tmp rfl (.tmp rfl .nil)) fun w' hS => ⟨⟨o, cp, sp⟩, by rw [imS_ok hok, List.length_map]; rfl, trivial, hS.below, by rw [imS_ok hok]; exact facts_cons hS.ocf facts_nil⟩
end Go.Proofs.YtnimhldbblfgbaaGreat
namespace Go.Proofs.YtnimhldbblfgbaaGreat
set_option linter.unusedSimpArgs false
set_option linter.unusedVariables false
set_option maxRecDepth 20000
set_option maxHeartbeats 600000
open Go.RowKit
theorem rdy_ok {s : Sm} {ws : List Zs} (h : rdyS s ws = 0) : formS s ∧ (∀ x ∈ ws, okZ x) ∧ chkS s = 0 ∧ ws.length = s.2.1.length := by
 unfold rdyS at h
 split at h
 ·simp at h
 ·rename_i h1; split at h
  ·simp at h
  ·rename_i h2; split at h
   ·rename_i h3; exact absurd h h3
   ·rename_i h3; split at h
    ·simp at h
    ·rename_i h4; exact ⟨Decidable.not_not.1 h1, Decidable.not_not.1 h2, Decidable.not_not.1 h3, Decidable.not_not.1 h4⟩
theorem imS_len {s : Sm} {ws : List Zs} (h : (imS s ws).2 = 0) : (imS s ws).1.length = s.2.2.length := by
 unfold imS at h ⊢; split at h
 ·rename_i h1; exact absurd h h1
 ·rename_i h1; rw [if_neg h1]; simp
theorem ext_all {α : Type} [Inhabited α] {x y : List α} (hl : x.length = y.length) (h : ∀ i, i < x.length → x.getD i default = y.getD i default) : x = y := by
 refine List.ext_getElem hl fun i h1 h2 => ?_
 have := h i h1
 rw [List.getD_eq_getElem?_getD, List.getD_eq_getElem?_getD, List.getElem?_eq_getElem h1, List.getElem?_eq_getElem h2] at this; exact this
theorem tgt_getD (l : List QA) (i : Nat) (h : i < l.length) : ((l.map (·.1)).map (·.2.1)).getD i default = (l.getD i default).1.2.1 := by
 rw [List.getD_eq_getElem?_getD, List.getD_eq_getElem?_getD, List.getElem?_map, List.getElem?_map, List.getElem?_eq_getElem h]; rfl
theorem holds_c {s : SA} {ws : List Zs} {a : Option Addr} {c : Nat} {w : World} {ok : Nat → Prop} (hF1 : (Fact.sl s.ga (gps s.gs)).holds ok w) (hF2 : (Fact.sl s.va (vrs s.vs)).holds ok w) (hF3 : (Fact.sl s.ea (qas s.es)).holds ok w) (hF4 : (Fact.sl a (ints ws)).holds ok w) (hM : ∀ f ∈ (s.es.map qaF), f.holds ok w) (hs : saL s) (hw : ws.length ≤ 100000) :
  Calls Tryz.prog 25 #[saV s, .slice a ws.length c] w fun e w' => e = .returned (.tuple #[.bool (hldS s.core ws).1, .int .i64 (hldS s.core ws).2]) ∧ Below w.heap.size w w' := by
 have hs' := hs
 obtain ⟨hlg, hlv, hle, hlt, hlm⟩ := hs
 refine enter (S := St (fun _ => True) w [] (Fact.sl s.ga (gps s.gs) :: Fact.sl s.va (vrs s.vs) :: Fact.sl s.ea (qas s.es) :: Fact.sl a (ints ws) :: (s.es.map qaF))) (L := [(0, saV s), (1, .slice a ws.length c)]) Tryz.func25 rfl Tryz.ntmps25 rfl (args_cons rfl (args_cons rfl (args_nil _))) (St.start (fun _ _ => trivial) (facts_cons (fact_any hF1) (facts_cons (fact_any hF2) (facts_cons (fact_any hF3) (facts_cons (fact_any hF4) (facts_more hM)))))) ?_
 refine WC.sr ?_
 refine Kh rfl (og_box rfl rfl (by (exact cells_agg _))) ?_
 intro b2
 refine Ka rfl (Ka rfl (WL.nt (WC.seq (WC.sr ?_))))
 refine Kq rfl (lda rfl rfl .tc Tryz.underlying35 rfl ?_) ?_
 ·kernel_rfl
 refine Km rfl ?_
 refine Kh rfl (og_call rfl rfl (by kernel_rfl) (keep_val fun w hS => ready_c (s := s) (ws := ws) (by (exact hS.sl)) (by (exact hS.sl)) (by (exact hS.sl)) (by (exact hS.sl)) (by (exact hS.more)) (by exact hs') (by exact hw))) ?_
 intro _
 refine Ka rfl (WL.nt (WC.sr (Km rfl (Kq rfl (rd_neq rfl rfl rfl) (WL.nt ?_)))))
 refine WC.cond rfl (fun hc15 => ?_) (fun hc15 => ?_)
 ·(try simp only [sB] at hc15)
  have hr : hldS s.core ws = (false, rdyS s.core ws) := by rw [hldS, if_pos hc15]
  refine WC.sr (Km rfl (Ka rfl (Ka rfl (WL.nt (WC.ret (WX.then_ret ?_))))))
  exact WX.retN rfl (.tmp rfl (.tmp rfl .nil)) fun w' hS => ⟨by rw [hr]; rfl, hS.below⟩
 ·(try simp only [sB] at hc15)
  have h0 : rdyS s.core ws = 0 := by simpa using hc15
  obtain ⟨hfo, hz, hk, hwl⟩ := rdy_ok h0
  refine WC.skip (WX.then_normal (WC.seq (WC.sr ?_)))
  refine Kq rfl (lda rfl rfl .tc Tryz.underlying35 rfl ?_) ?_
  ·kernel_rfl
  refine Km rfl ?_
  refine Kh rfl (og_call rfl rfl (by kernel_rfl) (keep_val fun w hS => inrange_c (s := s) (ws := ws) (by (exact hS.sl)) (by (exact hS.sl)) (by (exact hS.sl)) (by exact hs') (by exact hwl) (by exact hfo) (by exact hz))) ?_
  intro _
  refine Kq rfl (rd_not rfl rfl) (WL.nt ?_)
  refine WC.cond rfl (fun hc20 => ?_) (fun hc20 => ?_)
  ·(try simp only [sB] at hc20)
   have hr : hldS s.core ws = (false, 0) := by rw [hldS, if_neg (fun h => h h0), if_pos (by simpa using hc20)]
   refine WC.sr (Ka rfl (Ka rfl (WL.nt (WC.ret (WX.then_ret ?_)))))
   exact WX.retN rfl (.tmp rfl (.tmp rfl .nil)) fun w' hS => ⟨by rw [hr]; rfl, hS.below⟩
  ·(try simp only [sB] at hc20)
   have hin : inR s.core ws := by simpa using hc20
   refine WC.skip (WX.then_normal (WC.sr ?_))
   refine Kq rfl (lda rfl rfl .tc Tryz.underlying35 rfl ?_) ?_
   ·kernel_rfl
   refine Km rfl ?_
   refine Kh rfl (og_call rfl rfl (by kernel_rfl) (keep_fr fun w hS => images_c (s := s) (ws := ws) (by (exact hS.sl)) (by (exact hS.sl)) (by (exact hS.sl)) (by (exact hS.more)) (by exact hs') (by exact hwl) (by exact hfo))) ?_
   rintro g24
   refine WL.pu ?_
   intro hg24; (try dsimp only [List.cons_append, List.nil_append] at hg24 ⊢)
   refine Km rfl (Kq rfl (rd_extL rfl rfl rfl) (Kq rfl (rd_extL rfl rfl rfl) (Ka rfl (Ka rfl (WL.nt (WC.seq (WC.sr (Km rfl (Kq rfl (rd_neq rfl rfl rfl) (WL.nt ?_))))))))))
   refine WC.cond rfl (fun hc28 => ?_) (fun hc28 => ?_)
   ·(try simp only [sB] at hc28)
    have hr : hldS s.core ws = (false, (imS s.core ws).2) := by rw [hldS, if_neg (fun h => h h0), if_neg (fun h => h hin), if_pos hc28]
    refine WC.sr (Km rfl (Ka rfl (Ka rfl (WL.nt (WC.ret (WX.then_ret ?_))))))
    exact WX.retN rfl (.tmp rfl (.tmp rfl .nil)) fun w' hS => ⟨by rw [hr]; rfl, hS.below⟩
   ·(try simp only [sB] at hc28)
    have hi0 : (imS s.core ws).2 = 0 := by simpa using hc28
    have hlI : (imS s.core ws).1.length = s.es.length := by rw [imS_len hi0]; simp
    have hr : hldS s.core ws = (decide ((imS s.core ws).1 = s.core.2.2.map (·.2.1)), 0) := by rw [hldS, if_neg (fun h => h h0), if_neg (fun h => h hin), if_neg (fun h => h hi0)]
    refine WC.skip (WX.then_normal (WC.seq (WC.sr ?_)))
    refine Kq rfl (rd_fa (q := 2) rfl rfl Tryz.underlying35 rfl (by kernel_rfl) rfl) ?_
    refine Kq rfl (ld rfl rfl .tc Tryz.underlying33 rfl (by rfl)) ?_
    refine Kq rfl (rd_len rfl rfl Tryz.underlying33) (Km rfl (WL.nt (WC.block ?_)))
    refine WC.loopP (σ := Nat) [(7, _), (31, _), (32, _)] (fun gq => [(33, .int .i64 (gq : Int))]) (fun gq => gq ≤ s.es.length ∧ ∀ j, j < gq → (imS s.core ws).1.getD j default = (s.es.getD j default).1.2.1) (fun gq => s.es.length - gq) (0) (sub_cons rfl (sub_cons rfl (sub_cons rfl (sub_nil _)))) (sub_cons rfl (sub_nil _)) (by (try dsimp only); exact ⟨Nat.zero_le _, fun _ h => absurd h (Nat.not_lt_zero _)⟩) ?_
    rintro i hinv1; (try dsimp only at hinv1 ⊢)
    obtain ⟨hi, hok⟩ := hinv1
    refine WC.sr (Kq rfl (rd_lss rfl rfl rfl) (WL.nt (WC.seq ?_)))
    refine WC.cond rfl (fun hc34 => ?_) (fun hc34 => ?_)
    ·(try simp only [sB] at hc34)
     have hil : i < s.es.length := by omega
     have hil2 : i < (imS s.core ws).1.length := by omega
     refine WC.skip (WX.then_normal (WC.seq (WC.block (WC.sr (Km rfl ?_)))))
     (refine Kq rfl (iaf rfl rfl rfl Tryz.underlying33 (by kernel_rfl : _ = some 3) ?_ ?_ (by (try simp only [sN, Int.reduceToNat, Nat.reduceAdd, Nat.reduceMul, Nat.reduceSub]); rfl)) ?_; (focus (omega)); (focus ((rw [flatMap_len _ _ 3 (fun _ => rfl)]; omega))))
     (refine Kq rfl (ldma _ rfl rfl Tryz.underlying102 rfl (by kernel_rfl : _ = some 3) (fun _ => rfl) (by decide) rfl ?_) ?_; (focus (assumption)))
     refine Kh rfl (og_alloc rfl (v := (.agg #[.int .i64 0, .string (S []), .slice none 0 0])) (cs := [.int .i64 0, .string (S []), .slice none 0 0]) (by kernel_rfl) rfl) ?_
     intro b10
     refine Ka rfl ?_
     refine WL.g0 rfl rfl (sta rfl rfl rfl .tc ?_ ?_ ?_) ?_
     ·kernel_rfl
     ·simp [Value.oneCell']
     ·rfl
     intro _
     refine WL.nt (WC.seq ?_)
     refine WC.free0 [0, 1, 2, 3, 4, 5, 6] [] [0, 0, 0, 0, 0, 0, 0] (by kernel_rfl) (by kernel_rfl) rfl ?_
     refine Kj rfl (rd_move rfl rfl) ?_
     refine Kj rfl (rd_move rfl rfl) ?_
     (refine Kj rfl (iaf rfl rfl rfl Tryz.underlying60 (by kernel_rfl : _ = some 1) ?_ ?_ (by (try simp only [sN, Int.reduceToNat, Nat.reduceAdd, Nat.reduceMul, Nat.reduceSub]); rfl)) ?_; (focus (omega)); (focus ((rw [List.length_map]; omega))))
     (refine Kj rfl (ldm rfl rfl Tryz.underlying22 rfl ?_) ?_; (focus (assumption)))
     refine Kj rfl (rd_fa (q := 1) rfl rfl Tryz.underlying102 rfl (by kernel_rfl) rfl) ?_
     refine Kj rfl (ld rfl rfl .tc Tryz.underlying22 rfl (by rfl)) ?_
     refine Kj rfl (rd_sne rfl rfl rfl) ?_
     refine WJ.nil ?_
     refine WL.nt ?_
     refine WC.cond rfl (fun hc44 => ?_) (fun hc44 => ?_)
     ·(try simp only [sB] at hc44)
      have hne : ¬ (imS s.core ws).1 = s.core.2.2.map (·.2.1) := fun h => by
       have h1 := tgt_getD s.es i hil
       exact absurd ((congrArg (fun l : List Bs => l.getD i default) h).trans h1) (by simpa using hc44)
      refine WC.sr (Ka rfl (Ka rfl (WL.nt (WC.ret (WX.block_ret (WX.then_ret (WX.then_ret (WX.block_ret (WX.then_ret ?_)))))))))
      exact WX.retN rfl (.tmp rfl (.tmp rfl .nil)) fun w' hS => ⟨by rw [hr, decide_eq_false hne]; rfl, hS.below⟩
     ·(try simp only [sB] at hc44)
      refine WC.skip (WX.block_normal (WX.then_normal (WC.region ?_)))
      (refine Kq rfl (rd_add64nl rfl rfl rfl ?_) ?_; (focus (omega)))
      refine Km rfl (WL.nil ?_)
      refine WX.loopP (i + 1) (by (try dsimp only); omega) (sub_cons rfl (sub_cons rfl (sub_cons rfl (sub_nil _)))) (by refine (sub_cons ?_ (sub_nil _)) <;> (rfl)) ?_ (by (exact st_sub))
      (try dsimp only)
      exact ⟨hil, fun j hj => by rcases Nat.lt_succ_iff_lt_or_eq.1 hj with h | h; exact hok j h; subst h; simpa using hc44⟩
    ·(try simp only [sB] at hc34)
     refine WC.exit (WX.then_exit (WX.then_exit (WX.block_exit ?_)))
     obtain rfl : i = s.es.length := by omega
     have heq : (imS s.core ws).1 = s.core.2.2.map (·.2.1) := ext_all (by rw [hlI]; simp) fun j hj => by
      have h1 := tgt_getD s.es j (by omega)
      rw [hok j (by omega)]; exact h1.symm
     refine WX.then_normal (WC.sr (Ka rfl (Ka rfl (WL.nt (WC.ret ?_)))))
     exact WX.retN rfl (.tmp rfl (.tmp rfl .nil)) fun w' hS => ⟨by rw [hr, decide_eq_true heq]; rfl, hS.below⟩
end Go.Proofs.YtnimhldbblfgbaaGreat
namespace Go.Proofs.YtnimhldbblfgbaaGreat
open Go.RowKit
theorem und_string : Tryz.prog.underlying 22 = some .string := by kernel_rfl
theorem part_nat (cs : Array Value) (k : Nat) (v : Value) (w : World) (h : cs[k]? = some v) : (part 22 cs k).run Tryz.prog w = .ok v w := run_part_plain w (by kernel_rfl) h
theorem pn1 (u : Value) (w : World) : (part 22 #[u] 0).run Tryz.prog w = .ok u w := part_nat _ _ _ w rfl
theorem pn20 (u v : Value) (w : World) : (part 22 #[u, v] 0).run Tryz.prog w = .ok u w := part_nat _ _ _ w rfl
theorem pn21 (u v : Value) (w : World) : (part 22 #[u, v] 1).run Tryz.prog w = .ok v w := part_nat _ _ _ w rfl
theorem pn40 (u v x y : Value) (w : World) : (part 22 #[u, v, x, y] 0).run Tryz.prog w = .ok u w := part_nat _ _ _ w rfl
theorem eq_nat (d : Nat) (a b : Bs) (w : World) : (Op.equalIn (d + 1) 22 (.string (S a)) (.string (S b))).run Tryz.prog w = .ok (decide (a = b)) w := by
 rw [run_equalIn_string w d _ _ _ und_string, str_eq]
theorem eql_api_Group (a b c d : Bs) (w : World) : (binOp .eql 24 (.agg #[.string (S a), .string (S b)]) (.agg #[.string (S c), .string (S d)])).run Tryz.prog w = .ok (.bool (decide (a = c ∧ b = d))) w := by
 rw [run_eql_struct, run_equalIn_agg w _ _ _ _ (by kernel_rfl) (by kernel_rfl)]
 have hf : (Tryz.prog.fieldsOf 24).toList = [⟨"Modulus", 22, 0, false, "", "", 0⟩, ⟨"Order", 22, 1, false, "", "", 16⟩] := by kernel_rfl
 rw [hf]
 simp only [Op.eqFields, Sem.run_bind, pn20, pn21, eq_nat, Result.andThen_ok, Sem.run_ite, Sem.run_pure]
 by_cases h1 : a = c <;> by_cases h2 : b = d <;> simp [h1, h2]
theorem eql_api_Variable (a b : Bs) (w : World) : (binOp .eql 91 (.agg #[.string (S a)]) (.agg #[.string (S b)])).run Tryz.prog w = .ok (.bool (decide (a = b))) w := by
 rw [run_eql_struct, run_equalIn_agg w _ _ _ _ (by kernel_rfl) (by kernel_rfl)]
 have hf : (Tryz.prog.fieldsOf 91).toList = [⟨"Bound", 22, 0, false, "", "", 0⟩] := by kernel_rfl
 rw [hf]
 simp only [Op.eqFields, Sem.run_bind, pn1, eq_nat, Result.andThen_ok, Sem.run_ite, Sem.run_pure]
 by_cases h1 : a = b <;> simp [h1]
theorem eq_int (d : Nat) (p q : Bool) (a b : Bs) (w : World) : (Op.equalIn (d + 2) 45 (.agg #[.bool p, .string (S a)]) (.agg #[.bool q, .string (S b)])).run Tryz.prog w = .ok (decide (p = q ∧ a = b)) w := by
 rw [run_equalIn_agg w _ _ _ _ (by kernel_rfl) (by kernel_rfl)]
 have h1 : Tryz.prog.underlying 4 = some .bool := by kernel_rfl
 have hf : (Tryz.prog.fieldsOf 45).toList = [⟨"Neg", 4, 0, false, "", "", 0⟩, ⟨"Abs", 22, 1, false, "", "", 8⟩] := by kernel_rfl
 have e1 : ∀ (u v : Value) (w : World), (part 4 #[u, v] 0).run Tryz.prog w = .ok u w := fun u v w => run_part_plain w (by kernel_rfl) rfl
 have hb : ∀ (w : World), (Op.equalIn (d + 1) 4 (.bool p) (.bool q)).run Tryz.prog w = .ok (p == q) w := fun w => run_equalIn_bool' w d _ p q h1
 rw [hf]
 simp only [Op.eqFields, Sem.run_bind, e1, pn21, hb, eq_nat, Result.andThen_ok, Sem.run_ite, Sem.run_pure]
 cases p <;> cases q <;> by_cases h : a = b <;> simp [h]
theorem eql_api_Term (a : Bs) (m : Int) (p : Bool) (c : Bs) (a' : Bs) (m' : Int) (p' : Bool) (c' : Bs) (w : World) : (binOp .eql 110 (.agg #[.string (S a), .int .i64 m, .bool p, .string (S c)]) (.agg #[.string (S a'), .int .i64 m', .bool p', .string (S c')])).run Tryz.prog w = .ok (.bool (decide (a = a' ∧ m = m' ∧ p = p' ∧ c = c'))) w := by
 rw [run_eql_struct, run_equalIn_agg w _ _ _ _ (by kernel_rfl) (by kernel_rfl)]
 have hf : (Tryz.prog.fieldsOf 110).toList = [⟨"Base", 22, 0, false, "", "", 0⟩, ⟨"Var", 3, 1, false, "", "", 16⟩, ⟨"Coef", 45, 2, false, "", "", 24⟩] := by kernel_rfl
 have hi : Tryz.prog.underlying 3 = some (.int .i64) := by kernel_rfl
 have e1 : ∀ (u v x y : Value) (w : World), (part 3 #[u, v, x, y] 1).run Tryz.prog w = .ok v w := fun u v x y w => run_part_plain w (by kernel_rfl) rfl
 have hz : ∃ d, Tryz.prog.underlying 45 = some d ∧ isAggD d = true := ⟨_, Tryz.underlying45, rfl⟩
 have hs : (Tryz.prog.info? 45).map (·.size) = some 2 := by kernel_rfl
 have e2 : ∀ (u v x y : Value) (w : World), (part 45 #[u, v, x, y] 2).run Tryz.prog w = .ok (.agg #[x, y]) w := fun u v x y w => by
  obtain ⟨i, hi1, hi2⟩ := Option.map_eq_some_iff.1 hs
  simp [part, isAgg, run_underlying Tryz.underlying45, run_sizeOf w hi1, hi2]
 have hm : ∀ (w : World), (Op.equalIn 9999 3 (.int .i64 m) (.int .i64 m')).run Tryz.prog w = .ok (m == m') w := fun w => run_equalIn_int w 9998 _ .i64 .i64 m m' hi
 rw [hf]
 simp only [Op.eqFields, Sem.run_bind, e1, e2, hm, pn40, eq_int, eq_nat, Result.andThen_ok, Sem.run_ite, Sem.run_pure]
 by_cases h1 : a = a' <;> by_cases h2 : m = m' <;> by_cases h3 : p = p' ∧ c = c' <;> simp [h1, h2, h3]
end Go.Proofs.YtnimhldbblfgbaaGreat
