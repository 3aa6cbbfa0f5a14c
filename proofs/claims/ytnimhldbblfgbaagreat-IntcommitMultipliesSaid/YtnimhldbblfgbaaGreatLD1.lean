/-
  Parts of the walk: Ild.
-/
import Derived.Test.YtnimhldbblfgbaaGreatL15
namespace Go.Proofs.YtnimhldbblfgbaaGreat
set_option linter.unusedSimpArgs false
set_option linter.unusedVariables false
set_option maxRecDepth 20000
set_option maxHeartbeats 600000
open Go.RowKit
theorem flatMap_cell {α : Type} [Inhabited α] (l : List α) (f : α → List Value) (sz : Nat) (hf : ∀ x, (f x).length = sz) (q : Nat) (h : q < l.length) (off : Nat) (hm : off < sz) : (l.flatMap f)[q * sz + off]? = (f (l.getD q default))[off]? := by
 have := congrArg (fun x : List Value => x[0]?) (flatMap_part l f sz hf q h off 1 (by omega))
 simpa [List.getElem?_take, List.getElem?_drop] using this
abbrev op3 (a b c : Opn) : Value := .agg #[.bool a.1.1, .string (S a.1.2), .bool a.2.1, .string (S a.2.2), .bool b.1.1, .string (S b.1.2), .bool b.2.1, .string (S b.2.2), .bool c.1.1, .string (S c.1.2), .bool c.2.1, .string (S c.2.2)]
theorem pw_len {a b c : Opn} : (pwS a b c).1.length ≤ 100000 := by
 unfold pwS; repeat' split
 all_goals simp
theorem icwits_c {a b c : Opn} {w : World} :
  Calls Tryz.prog 4 #[op3 a b c] w fun e w' => e = .returned (.bool true) ∧ Below w.heap.size w w' := by
 refine enter (S := St (fun _ => True) w [] ([])) (L := [(0, op3 a b c)]) Tryz.func4 rfl Tryz.ntmps4 rfl (args_cons rfl (args_nil _)) (St.start (fun _ _ => trivial) facts_nil) ?_
 refine WC.sr ?_
 refine Kh rfl (og_box rfl rfl (by (exact cells_agg _))) ?_
 intro b1
 refine Ka rfl (WL.nt (WC.seq (WC.sr (Ka rfl (WL.nt (WC.block ?_))))))
 refine WC.loopP (σ := Nat) [(1, _)] (fun gq => [(3, .int .i64 (gq : Int))]) (fun gq => gq ≤ 3) (fun gq => 3 - gq) (0) (sub_cons rfl (sub_nil _)) (sub_cons rfl (sub_nil _)) (by (try dsimp only); exact Nat.zero_le _) ?_
 rintro i hinv1; (try dsimp only at hinv1 ⊢)
 obtain hi := hinv1
 refine WC.seq (WC.sr (Km rfl (Kq rfl (rd_lss rfl rfl rfl) (WL.nt ?_))))
 refine WC.cond rfl (fun hc9 => ?_) (fun hc9 => ?_)
 ·(try simp only [sB] at hc9)
  have hil : i < [a, b, c].length := by show i < 3; omega
  refine WC.skip (WX.then_normal (WC.seq (WC.block ?_)))
  refine WC.joinP (σ := Unit) [(1, _), (3, _)] (fun gq => [(27, .bool (decide ((([a, b, c].getD i default).1.2.length : Int) > 140 ∨ (([a, b, c].getD i default).2.2.length : Int) > 140)))]) (fun gq => True) (sub_cons rfl (sub_cons rfl (sub_nil _))) ?_ ?_
  ·skip
   refine WC.region (Km rfl ?_)
   refine Kq rfl (rd_iaa rfl rfl rfl Tryz.underlying48 (by kernel_rfl : _ = some 4) ?_ (by (try simp only [sN, Int.reduceToNat, Nat.reduceAdd, Nat.reduceMul, Nat.reduceSub]); rfl)) ?_
   ·omega
   (refine Kq rfl (rd_fa rfl rfl Tryz.underlying47 rfl (by kernel_rfl) (by (try simp only [sN, Int.reduceToNat, Nat.reduceAdd, Nat.reduceMul, Nat.reduceSub]); rfl)) ?_)
   (refine Kq rfl (rd_fa rfl rfl Tryz.underlying45 rfl (by kernel_rfl) (by (try simp only [sN, Int.reduceToNat, Nat.reduceAdd, Nat.reduceMul, Nat.reduceSub]); rfl)) ?_)
   refine Kq rfl (ld rfl rfl .tc Tryz.underlying22 rfl (flatMap_cell [a, b, c] opC 4 (fun _ => rfl) i hil 1 (by decide))) ?_
   refine Kq rfl (rd_slen rfl rfl Tryz.underlying22) (Kq rfl (rd_gtr rfl rfl rfl) (Km rfl ?_))
   refine WL.bool 19 rfl (fun hg19 => ?_) (fun hg19 => ?_)
   ·(try simp only [sB] at hg19)
    refine Kt rfl (Kt rfl (Kt rfl (Kt rfl (Kt rfl (Kt rfl (Kt rfl (Kq rfl (rd_pickt rfl rfl rfl) (WL.nil ?_))))))))
    refine WX.joinP (()) (sub_cons rfl (sub_cons rfl (sub_nil _))) (by refine (sub_cons ?_ (sub_nil _)) <;> ((exact congrArg (fun b => some (Value.bool b)) (by symm; apply decide_eq_true; omega)))) ?_ (by (exact fun _ h => h))
    (try dsimp only)
    done
   ·(try simp only [sB] at hg19)
    refine Km rfl ?_
    refine Kq rfl (rd_iaa rfl rfl rfl Tryz.underlying48 (by kernel_rfl : _ = some 4) ?_ (by (try simp only [sN, Int.reduceToNat, Nat.reduceAdd, Nat.reduceMul, Nat.reduceSub]); rfl)) ?_
    ·omega
    (refine Kq rfl (rd_fa rfl rfl Tryz.underlying47 rfl (by kernel_rfl) (by (try simp only [sN, Int.reduceToNat, Nat.reduceAdd, Nat.reduceMul, Nat.reduceSub]); rfl)) ?_)
    (refine Kq rfl (rd_fa rfl rfl Tryz.underlying45 rfl (by kernel_rfl) (by (try simp only [sN, Int.reduceToNat, Nat.reduceAdd, Nat.reduceMul, Nat.reduceSub]); rfl)) ?_)
    refine Kq rfl (ld rfl rfl .tc Tryz.underlying22 rfl (flatMap_cell [a, b, c] opC 4 (fun _ => rfl) i hil 3 (by decide))) ?_
    refine Kq rfl (rd_slen rfl rfl Tryz.underlying22) (Kq rfl (rd_gtr rfl rfl rfl) (Kq rfl (rd_pickf rfl rfl rfl) (WL.nil ?_)))
    refine WX.joinP (()) (sub_cons rfl (sub_cons rfl (sub_nil _))) (by refine (sub_cons ?_ (sub_nil _)) <;> ((refine slot_b rfl ?_; (try dsimp only); (exact decide_eq_decide.2 (by omega))))) ?_ (by (exact fun _ h => h))
    (try dsimp only)
    done
  ·rintro _ hmeet; (try dsimp only at hmeet ⊢)
   refine WC.cond rfl (fun hc27 => ?_) (fun hc27 => ?_)
   ·(try simp only [sB] at hc27)
    refine WC.sr ?_
    refine Kh rfl (og_call rfl rfl (by kernel_rfl) (keep_val fun w hS => awake26_c)) ?_
    intro _
    refine Ka rfl (WL.nt (WC.ret (WX.block_ret (WX.then_ret (WX.then_ret (WX.block_ret (WX.then_ret ?_)))))))
    exact WX.retN rfl (.tmp rfl .nil) fun w' hS => ⟨by rfl, hS.below⟩
   ·(try simp only [sB] at hc27)
    refine WC.skip (WX.block_normal (WX.then_normal (WC.region (Km rfl ?_))))
    (refine Kq rfl (rd_add64nl rfl rfl rfl ?_) ?_; (focus (omega)))
    refine Ka rfl (WL.nil ?_)
    refine WX.loopP (i + 1) (by (try dsimp only); omega) (sub_cons rfl (sub_nil _)) (by refine (sub_cons ?_ (sub_nil _)) <;> (rfl)) ?_ (by (exact fun _ h => h))
    (try dsimp only)
    exact hil
 ·(try simp only [sB] at hc9)
  refine WC.exit (WX.then_exit (WX.then_exit (WX.block_exit (WX.then_normal (WC.sr ?_)))))
  refine Kq rfl (rd_iaa rfl rfl rfl Tryz.underlying48 (by kernel_rfl : _ = some 4) ?_ (by (try simp only [sN, Int.reduceToNat, Nat.reduceAdd, Nat.reduceMul, Nat.reduceSub]); rfl)) ?_
  ·omega
  refine Kq rfl (ldp rfl rfl .tc Tryz.underlying47 rfl (by kernel_rfl : _ = some 4) (by rfl) (by rfl)) ?_
  refine Kq rfl (rd_iaa rfl rfl rfl Tryz.underlying48 (by kernel_rfl : _ = some 4) ?_ (by (try simp only [sN, Int.reduceToNat, Nat.reduceAdd, Nat.reduceMul, Nat.reduceSub]); rfl)) ?_
  ·omega
  refine Kq rfl (ldp rfl rfl .tc Tryz.underlying47 rfl (by kernel_rfl : _ = some 4) (by rfl) (by rfl)) ?_
  refine Kq rfl (rd_iaa rfl rfl rfl Tryz.underlying48 (by kernel_rfl : _ = some 4) ?_ (by (try simp only [sN, Int.reduceToNat, Nat.reduceAdd, Nat.reduceMul, Nat.reduceSub]); rfl)) ?_
  ·omega
  refine Kq rfl (ldp rfl rfl .tc Tryz.underlying47 rfl (by kernel_rfl : _ = some 4) (by rfl) (by rfl)) ?_
  refine Kh rfl (og_call rfl rfl (by kernel_rfl) (keep_f1 fun w hS => icpw_c (a := a) (b := b) (c := c))) ?_
  intro g36
  refine WL.pu ?_
  intro hg36; (try dsimp only at hg36 ⊢)
  refine Km rfl (Kq rfl (rd_extL rfl rfl rfl) (Kq rfl (rd_extL rfl rfl rfl) (Ka rfl (Ka rfl (WL.nt (WC.sr ?_))))))
  refine Kq rfl (rd_iaa rfl rfl rfl Tryz.underlying48 (by kernel_rfl : _ = some 4) ?_ (by (try simp only [sN, Int.reduceToNat, Nat.reduceAdd, Nat.reduceMul, Nat.reduceSub]); rfl)) ?_
  ·omega
  refine Kq rfl (ldp rfl rfl .tc Tryz.underlying47 rfl (by kernel_rfl : _ = some 4) (by rfl) (by rfl)) ?_
  refine Kq rfl (rd_iaa rfl rfl rfl Tryz.underlying48 (by kernel_rfl : _ = some 4) ?_ (by (try simp only [sN, Int.reduceToNat, Nat.reduceAdd, Nat.reduceMul, Nat.reduceSub]); rfl)) ?_
  ·omega
  refine Kq rfl (ldp rfl rfl .tc Tryz.underlying47 rfl (by kernel_rfl : _ = some 4) (by rfl) (by rfl)) ?_
  refine Kq rfl (rd_iaa rfl rfl rfl Tryz.underlying48 (by kernel_rfl : _ = some 4) ?_ (by (try simp only [sN, Int.reduceToNat, Nat.reduceAdd, Nat.reduceMul, Nat.reduceSub]); rfl)) ?_
  ·omega
  refine Kq rfl (ldp rfl rfl .tc Tryz.underlying47 rfl (by kernel_rfl : _ = some 4) (by rfl) (by rfl)) ?_
  refine Kh rfl (og_call rfl rfl (by kernel_rfl) (keep_f1 fun w hS => ricpw_c (a := a) (b := b) (c := c))) ?_
  intro g46
  refine WL.pu ?_
  intro hg46; (try dsimp only at hg46 ⊢)
  refine Km rfl (Kq rfl (rd_extL rfl rfl rfl) (Kq rfl (rd_extL rfl rfl rfl) (Ka rfl (Ka rfl (WL.nt (WC.sr ?_))))))
  refine Kh rfl (og_call rfl rfl (by kernel_rfl) (keep_val fun w hS => awake26_c)) ?_
  intro _
  refine Km rfl ?_
  refine WL.set 50 rfl (v' := .bool true) (by rfl) ?_
  refine Km rfl (Km rfl ?_)
  refine Kh rfl (og_call rfl rfl (by kernel_rfl) (keep_val fun w hS => same_c (x := (pwS a b c).1) (y := (pwS a b c).1) (by (exact hS.sl)) (by (exact hS.sl)) (by exact pw_len))) ?_
  intro _
  refine Kq rfl (rd_pickt rfl rfl rfl) (Km rfl ?_)
  refine WL.set 55 rfl (v' := .bool true) (by (exact congrArg Value.bool (by simp [*]; done))) ?_
  refine Km rfl (Km rfl (Kq rfl (rd_eql rfl rfl rfl) (Kq rfl (rd_pickt rfl rfl rfl) (Ka rfl (WL.nt (WC.ret ?_))))))
  exact WX.retN rfl (.tmp rfl .nil) fun w' hS => ⟨by (simp [tup]; done), hS.below⟩
end Go.Proofs.YtnimhldbblfgbaaGreat
