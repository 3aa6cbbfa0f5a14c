/-
  nonrevoked and its reference: Witness, Unmask; lists of integers.
-/
import Derived.Test.YtbcnnkcddilfjaaGreatPw3
import Derived.Test.YtbcnnkcddilfjaaGreatEqs
import Derived.Test.YtbcnnkcddilfjaaGreatOpz
namespace Go.Proofs.YtbcnnkcddilfjaaGreat
set_option linter.unusedSimpArgs false
set_option linter.unusedVariables false
set_option maxRecDepth 20000
set_option maxHeartbeats 600000
open Go.RowKit

def witS (u m : Bs) : List Zs × Int := if okN u ∧ okN m then (if (mulN u m).2 = 0 then ([fromZ u, fromZ (mulN u m).1], 0) else ([], (mulN u m).2)) else ([], 3)
theorem new_nil {w w' : World} {T : TypeId} {fs : List Fact} {ok : Nat → Prop} (h : St ok w [] fs w') : St ok w [⟨none, [] ++ [], T⟩] [] w' := (h.nil T).sub (List.Sublist.refl _) (fun _ h => by cases h)
theorem wit_c {u m : Bs} {w : World} :
    Calls Tryz.prog 6 #[.string (S u), .string (S m)] w fun e w' => ∃ g : Rs, e = .returned (.tuple #[g.val (witS u m).1.length, .int .i64 (witS u m).2]) ∧ g.cap = (witS u m).1.length + g.sp.length ∧ St (fun _ => True) w [g.ent (ints (witS u m).1) 41] [] w' := by
  refine enter (S := St (fun _ => True) w [] ([])) (L := [(0, .string (S u)), (1, .string (S m))]) Tryz.func6 rfl Tryz.ntmps6 rfl (args_cons rfl (args_cons rfl (args_nil _))) (St.start (fun _ _ => trivial) facts_nil) ?_
  refine WC.sr ?_
  refine WL.r rfl rfl rfl (rd_assign rfl rfl) ?_
  refine WL.r rfl rfl rfl (rd_assign rfl rfl) ?_
  refine WL.nt ?_
  refine WC.seq ?_
  refine WC.joinP (σ := Unit) [(0, _), (1, _)] (fun gq => [(15, .bool (decide (¬ (okN u ∧ okN m))))]) (fun gq => True) (sub_cons rfl (sub_cons rfl (sub_nil _))) ?_ ?_
  · skip
    refine WC.region ?_
    refine WL.r rfl rfl rfl (rd_move rfl rfl) ?_
    refine WL.g rfl rfl rfl (og_call rfl rfl (by kernel_rfl) (keep_val fun w hS => valid_c (a := u))) ?_
    intro _
    refine WL.r rfl rfl rfl (rd_not rfl rfl) ?_
    refine WL.r rfl rfl rfl (rd_move rfl rfl) ?_
    refine WL.bool 11 rfl (fun hg11 => ?_) (fun hg11 => ?_)
    · (try simp only [sB] at hg11)
      refine WL.s rfl rfl rfl ?_
      refine WL.s rfl rfl rfl ?_
      refine WL.s rfl rfl rfl ?_
      refine WL.r rfl rfl rfl (rd_pickt rfl rfl rfl) ?_
      refine WL.nil ?_
      refine WX.joinP (()) (sub_cons rfl (sub_cons rfl (sub_nil _))) (by refine (sub_cons ?_ (sub_nil _)) <;> ((refine slot_b rfl ?_; (try dsimp only); (simp [*]; done)))) ?_ (by (exact fun _ h => h))
      (try dsimp only)
      done
    · (try simp only [sB] at hg11)
      refine WL.r rfl rfl rfl (rd_move rfl rfl) ?_
      refine WL.g rfl rfl rfl (og_call rfl rfl (by kernel_rfl) (keep_val fun w hS => valid_c (a := m))) ?_
      intro _
      refine WL.r rfl rfl rfl (rd_not rfl rfl) ?_
      refine WL.r rfl rfl rfl (rd_pickf rfl rfl rfl) ?_
      refine WL.nil ?_
      refine WX.joinP (()) (sub_cons rfl (sub_cons rfl (sub_nil _))) (by refine (sub_cons ?_ (sub_nil _)) <;> ((refine slot_b rfl ?_; (try dsimp only); (simp [*]; done)))) ?_ (by (exact fun _ h => h))
      (try dsimp only)
      done
  · rintro _ hmeet; (try dsimp only at hmeet ⊢)
    refine WC.cond rfl (fun hc15 => ?_) (fun hc15 => ?_)
    · (try simp only [sB] at hc15)
      have hr : witS u m = ([], 3) := by rw [witS, if_neg hc15]
      refine WC.sr ?_
      refine WL.r rfl rfl rfl (rd_assign rfl rfl) ?_
      refine WL.r rfl rfl rfl (rd_assign rfl rfl) ?_
      refine WL.nt ?_
      refine WC.ret ?_
      refine WX.then_ret ?_
      exact WX.retN rfl (.tmp rfl (.tmp rfl .nil)) fun w' hS => ⟨⟨none, 0, []⟩, by rw [hr]; rfl, by rw [hr]; rfl, by rw [hr]; exact new_nil hS⟩
    · (try simp only [sB] at hc15)
      have hok : okN u ∧ okN m := by simpa using hc15
      refine WC.skip ?_
      refine WX.then_normal ?_
      refine WC.sr ?_
      refine WL.r rfl rfl rfl (rd_move rfl rfl) ?_
      refine WL.r rfl rfl rfl (rd_move rfl rfl) ?_
      refine WL.g rfl rfl rfl (og_call rfl rfl (by kernel_rfl) (keep_val fun w hS => mul_c (a := u) (b := m))) ?_
      intro _
      refine WL.r rfl rfl rfl (rd_move rfl rfl) ?_
      refine WL.r rfl rfl rfl (rd_extL rfl rfl rfl) ?_
      refine WL.r rfl rfl rfl (rd_extL rfl rfl rfl) ?_
      refine WL.r rfl rfl rfl (rd_assign rfl rfl) ?_
      refine WL.r rfl rfl rfl (rd_assign rfl rfl) ?_
      refine WL.nt ?_
      refine WC.seq ?_
      refine WC.sr ?_
      refine WL.r rfl rfl rfl (rd_move rfl rfl) ?_
      refine WL.r rfl rfl rfl (rd_neq rfl rfl rfl) ?_
      refine WL.nt ?_
      refine WC.cond rfl (fun hc23 => ?_) (fun hc23 => ?_)
      · (try simp only [sB] at hc23)
        have hr : witS u m = ([], (mulN u m).2) := by rw [witS, if_pos hok, if_neg (by simpa using hc23)]
        refine WC.sr ?_
        refine WL.r rfl rfl rfl (rd_move rfl rfl) ?_
        refine WL.r rfl rfl rfl (rd_assign rfl rfl) ?_
        refine WL.r rfl rfl rfl (rd_assign rfl rfl) ?_
        refine WL.nt ?_
        refine WC.ret ?_
        refine WX.then_ret ?_
        exact WX.retN rfl (.tmp rfl (.tmp rfl .nil)) fun w' hS => ⟨⟨none, 0, []⟩, by rw [hr]; rfl, by rw [hr]; rfl, by rw [hr]; exact new_nil hS⟩
      · (try simp only [sB] at hc23)
        have h0 : (mulN u m).2 = 0 := by simpa using hc23
        have hr : witS u m = ([fromZ u, fromZ (mulN u m).1], 0) := by rw [witS, if_pos hok, if_pos h0]
        refine WC.skip ?_
        refine WX.then_normal ?_
        refine WC.sr ?_
        refine WL.r rfl rfl rfl (rd_move rfl rfl) ?_
        refine WL.g rfl rfl rfl (og_call rfl rfl (by kernel_rfl) (keep_val fun w hS => zfrom_c (a := u))) ?_
        intro _
        refine WL.r rfl rfl rfl (rd_move rfl rfl) ?_
        refine WL.g rfl rfl rfl (og_call rfl rfl (by kernel_rfl) (keep_val fun w hS => zfrom_c (a := (mulN u m).1))) ?_
        intro _
        refine WL.g rfl rfl rfl (og_bsN rfl rfl Tryz.underlying36 (by kernel_rfl : _ = some (some (.agg #[.bool false, .string (S [])]), 2, 24)) (by kernel_rfl) (by decide) rfl rfl (by (simp [Value.cells]; done)) (by (simp only [List.map, Value.cells, List.flatMap_cons, List.flatMap_nil, List.append_nil, List.toList_toArray]; rfl)) (by decide)) ?_
        intro b29
        refine WL.r rfl rfl rfl (rd_assign rfl rfl) ?_
        refine WL.r rfl rfl rfl (rd_assign rfl rfl) ?_
        refine WL.nt ?_
        refine WC.ret ?_
        exact WX.retN rfl (.tmp rfl (.tmp rfl .nil)) fun w' hS => ⟨⟨some b29, 2, []⟩, by rw [hr]; rfl, by rw [hr]; rfl, by rw [hr]; exact hS⟩
theorem rwit_c {u m : Bs} {w : World} :
    Calls Tryz.prog 7 #[.string (S u), .string (S m)] w fun e w' => ∃ g : Rs, e = .returned (.tuple #[g.val (witS u m).1.length, .int .i64 (witS u m).2]) ∧ g.cap = (witS u m).1.length + g.sp.length ∧ St (fun _ => True) w [g.ent (ints (witS u m).1) 41] [] w' := by
  refine enter (S := St (fun _ => True) w [] ([])) (L := [(0, .string (S u)), (1, .string (S m))]) Tryz.func7 rfl Tryz.ntmps7 rfl (args_cons rfl (args_cons rfl (args_nil _))) (St.start (fun _ _ => trivial) facts_nil) ?_
  refine WC.sr ?_
  refine WL.r rfl rfl rfl (rd_assign rfl rfl) ?_
  refine WL.r rfl rfl rfl (rd_assign rfl rfl) ?_
  refine WL.nt ?_
  refine WC.seq ?_
  refine WC.joinP (σ := Unit) [(0, _), (1, _)] (fun gq => [(15, .bool (decide (¬ (okN u ∧ okN m))))]) (fun gq => True) (sub_cons rfl (sub_cons rfl (sub_nil _))) ?_ ?_
  · skip
    refine WC.region ?_
    refine WL.r rfl rfl rfl (rd_move rfl rfl) ?_
    refine WL.g rfl rfl rfl (og_call rfl rfl (by kernel_rfl) (keep_val fun w hS => rvalid_c (a := u))) ?_
    intro _
    refine WL.r rfl rfl rfl (rd_not rfl rfl) ?_
    refine WL.r rfl rfl rfl (rd_move rfl rfl) ?_
    refine WL.bool 11 rfl (fun hg11 => ?_) (fun hg11 => ?_)
    · (try simp only [sB] at hg11)
      refine WL.s rfl rfl rfl ?_
      refine WL.s rfl rfl rfl ?_
      refine WL.s rfl rfl rfl ?_
      refine WL.r rfl rfl rfl (rd_pickt rfl rfl rfl) ?_
      refine WL.nil ?_
      refine WX.joinP (()) (sub_cons rfl (sub_cons rfl (sub_nil _))) (by refine (sub_cons ?_ (sub_nil _)) <;> ((refine slot_b rfl ?_; (try dsimp only); (simp [*]; done)))) ?_ (by (exact fun _ h => h))
      (try dsimp only)
      done
    · (try simp only [sB] at hg11)
      refine WL.r rfl rfl rfl (rd_move rfl rfl) ?_
      refine WL.g rfl rfl rfl (og_call rfl rfl (by kernel_rfl) (keep_val fun w hS => rvalid_c (a := m))) ?_
      intro _
      refine WL.r rfl rfl rfl (rd_not rfl rfl) ?_
      refine WL.r rfl rfl rfl (rd_pickf rfl rfl rfl) ?_
      refine WL.nil ?_
      refine WX.joinP (()) (sub_cons rfl (sub_cons rfl (sub_nil _))) (by refine (sub_cons ?_ (sub_nil _)) <;> ((refine slot_b rfl ?_; (try dsimp only); (simp [*]; done)))) ?_ (by (exact fun _ h => h))
      (try dsimp only)
      done
  · rintro _ hmeet; (try dsimp only at hmeet ⊢)
    refine WC.cond rfl (fun hc15 => ?_) (fun hc15 => ?_)
    · (try simp only [sB] at hc15)
      have hr : witS u m = ([], 3) := by rw [witS, if_neg hc15]
      refine WC.sr ?_
      refine WL.r rfl rfl rfl (rd_assign rfl rfl) ?_
      refine WL.r rfl rfl rfl (rd_assign rfl rfl) ?_
      refine WL.nt ?_
      refine WC.ret ?_
      refine WX.then_ret ?_
      exact WX.retN rfl (.tmp rfl (.tmp rfl .nil)) fun w' hS => ⟨⟨none, 0, []⟩, by rw [hr]; rfl, by rw [hr]; rfl, by rw [hr]; exact new_nil hS⟩
    · (try simp only [sB] at hc15)
      have hok : okN u ∧ okN m := by simpa using hc15
      refine WC.skip ?_
      refine WX.then_normal ?_
      refine WC.sr ?_
      refine WL.r rfl rfl rfl (rd_move rfl rfl) ?_
      refine WL.r rfl rfl rfl (rd_move rfl rfl) ?_
      refine WL.g rfl rfl rfl (og_call rfl rfl (by kernel_rfl) (keep_val fun w hS => rmul_c (a := u) (b := m))) ?_
      intro _
      refine WL.r rfl rfl rfl (rd_move rfl rfl) ?_
      refine WL.r rfl rfl rfl (rd_extL rfl rfl rfl) ?_
      refine WL.r rfl rfl rfl (rd_extL rfl rfl rfl) ?_
      refine WL.r rfl rfl rfl (rd_assign rfl rfl) ?_
      refine WL.r rfl rfl rfl (rd_assign rfl rfl) ?_
      refine WL.nt ?_
      refine WC.seq ?_
      refine WC.sr ?_
      refine WL.r rfl rfl rfl (rd_move rfl rfl) ?_
      refine WL.r rfl rfl rfl (rd_neq rfl rfl rfl) ?_
      refine WL.nt ?_
      refine WC.cond rfl (fun hc23 => ?_) (fun hc23 => ?_)
      · (try simp only [sB] at hc23)
        have hr : witS u m = ([], (mulN u m).2) := by rw [witS, if_pos hok, if_neg (by simpa using hc23)]
        refine WC.sr ?_
        refine WL.r rfl rfl rfl (rd_move rfl rfl) ?_
        refine WL.r rfl rfl rfl (rd_assign rfl rfl) ?_
        refine WL.r rfl rfl rfl (rd_assign rfl rfl) ?_
        refine WL.nt ?_
        refine WC.ret ?_
        refine WX.then_ret ?_
        exact WX.retN rfl (.tmp rfl (.tmp rfl .nil)) fun w' hS => ⟨⟨none, 0, []⟩, by rw [hr]; rfl, by rw [hr]; rfl, by rw [hr]; exact new_nil hS⟩
      · (try simp only [sB] at hc23)
        have h0 : (mulN u m).2 = 0 := by simpa using hc23
        have hr : witS u m = ([fromZ u, fromZ (mulN u m).1], 0) := by rw [witS, if_pos hok, if_pos h0]
        refine WC.skip ?_
        refine WX.then_normal ?_
        refine WC.sr ?_
        refine WL.r rfl rfl rfl (rd_move rfl rfl) ?_
        refine WL.g rfl rfl rfl (og_call rfl rfl (by kernel_rfl) (keep_val fun w hS => rfrom_c (a := u))) ?_
        intro _
        refine WL.r rfl rfl rfl (rd_move rfl rfl) ?_
        refine WL.g rfl rfl rfl (og_call rfl rfl (by kernel_rfl) (keep_val fun w hS => rfrom_c (a := (mulN u m).1))) ?_
        intro _
        refine WL.g rfl rfl rfl (og_bsN rfl rfl Tryz.underlying36 (by kernel_rfl : _ = some (some (.agg #[.bool false, .string (S [])]), 2, 24)) (by kernel_rfl) (by decide) rfl rfl (by (simp [Value.cells]; done)) (by (simp only [List.map, Value.cells, List.flatMap_cons, List.flatMap_nil, List.append_nil, List.toList_toArray]; rfl)) (by decide)) ?_
        intro b29
        refine WL.r rfl rfl rfl (rd_assign rfl rfl) ?_
        refine WL.r rfl rfl rfl (rd_assign rfl rfl) ?_
        refine WL.nt ?_
        refine WC.ret ?_
        exact WX.retN rfl (.tmp rfl (.tmp rfl .nil)) fun w' hS => ⟨⟨some b29, 2, []⟩, by rw [hr]; rfl, by rw [hr]; rfl, by rw [hr]; exact hS⟩
/-- the key of an issuer -/
structure IK where
  name : Bs
  g : Gp
  z : Bs
  s : Bs
  r : List Bs
  u : Bs
  h : Bs
abbrev ikV (k : IK) (r : Value) : Value := .agg #[.string (S k.name), .string (S k.g.1), .string (S k.g.2), .string (S k.z), .string (S k.s), r, .string (S k.u), .string (S k.h)]
def unmS (k : IK) (x : Bs) (w : List Zs) : (Bs × Bs) × Int :=
  if ¬ (okN k.g.1 ∧ okN k.g.2 ∧ okN k.h ∧ okN x) then (([], []), 3)
  else if ¬ (∀ z ∈ w, okZ z) then (([], []), 3)
  else if chkG k.g ≠ 0 then (([], []), chkG k.g)
  else if ¬ (elG k.g k.h ∧ elG k.g x) then (([], []), 13)
  else if w.length ≠ 2 then (([], []), 6)
  else if (w.getD 0 default).1 = true ∨ (w.getD 0 default).2 = [] then (([], []), 2)
  else if (divZ (w.getD 1 default) (w.getD 0 default)).2 ≠ 0 then (([], []), 17)
  else (((prodS k.g [x, k.h] [ofZ 1, negZ (divZ (w.getD 1 default) (w.getD 0 default)).1]).1, (w.getD 0 default).2), 0)
theorem unm_c {k : IK} {rv : Value} {x : Bs} {ws : List Zs} {a : Option Addr} {c : Nat} {w : World} {ok : Nat → Prop} (hF1 : (Fact.sl a (ints ws)).holds ok w) (hw : ws.length ≤ 100000) (hm8 : k.g.1.length ≤ 8) :
    Calls Tryz.prog 8 #[ikV k rv, .string (S x), .slice a ws.length c] w fun e w' => e = .returned (DE (unmS k x ws)) ∧ Below w.heap.size w w' := by
  have h4 : (okN k.g.1 ∧ okN k.g.2 ∧ okN k.h ∧ okN x) ↔ ∀ y ∈ [k.g.1, k.g.2, k.h, x], okN y := by simp
  refine enter (S := St (fun _ => True) w [] ([Fact.sl a (ints ws)])) (L := [(0, ikV k rv), (1, .string (S x)), (2, .slice a ws.length c)]) Tryz.func8 rfl Tryz.ntmps8 rfl (args_cons rfl (args_cons rfl (args_cons rfl (args_nil _)))) (St.start (fun _ _ => trivial) (facts_cons (fact_any hF1) facts_nil)) ?_
  refine WC.sr ?_
  refine WL.g rfl rfl rfl (og_box rfl rfl (by (exact cells_agg _))) ?_
  intro b3
  refine WL.r rfl rfl rfl (rd_assign rfl rfl) ?_
  refine WL.r rfl rfl rfl (rd_assign rfl rfl) ?_
  refine WL.r rfl rfl rfl (rd_assign rfl rfl) ?_
  refine WL.nt ?_
  refine WC.seq ?_
  refine WC.sr ?_
  (refine WL.r rfl rfl rfl (rd_fa (q := 1) rfl rfl Tryz.underlying33 rfl (by kernel_rfl) rfl) ?_)
  (refine WL.r rfl rfl rfl (rd_fa (q := 1) rfl rfl Tryz.underlying26 rfl (by kernel_rfl) rfl) ?_)
  (refine WL.r rfl rfl rfl (ld rfl rfl .tc Tryz.underlying22 rfl (by rfl)) ?_)
  (refine WL.r rfl rfl rfl (rd_fa (q := 1) rfl rfl Tryz.underlying33 rfl (by kernel_rfl) rfl) ?_)
  (refine WL.r rfl rfl rfl (rd_fa (q := 2) rfl rfl Tryz.underlying26 rfl (by kernel_rfl) rfl) ?_)
  (refine WL.r rfl rfl rfl (ld rfl rfl .tc Tryz.underlying22 rfl (by rfl)) ?_)
  (refine WL.r rfl rfl rfl (rd_fa (q := 7) rfl rfl Tryz.underlying33 rfl (by kernel_rfl) rfl) ?_)
  (refine WL.r rfl rfl rfl (ld rfl rfl .tc Tryz.underlying22 rfl (by rfl)) ?_)
  refine WL.r rfl rfl rfl (rd_move rfl rfl) ?_
  refine WL.r rfl rfl rfl (rd_bld [[.string (S [])], [.string (S [])], [.string (S [])], [.string (S [])]] rfl rfl (by simp only [bld, fldv, Nat.beq, Value.cells, cond_true, cond_false, List.nil_append, List.cons_append, List.append_nil]; rfl) (fun w => by kernel_rfl)) ?_
  refine WL.r rfl rfl rfl (rd_move rfl rfl) ?_
  refine WL.nt ?_
  refine WC.block ?_
  refine WC.loopP (σ := Nat) [(1, _), (2, _), (3, _), (27, _)] (fun gq => [(28, .int .i64 (gq : Int))]) (fun gq => gq ≤ 4 ∧ ∀ y ∈ [k.g.1, k.g.2, k.h, x].take gq, okN y) (fun gq => 4 - gq) (0) (sub_cons rfl (sub_cons rfl (sub_cons rfl (sub_cons rfl (sub_nil _))))) (sub_cons rfl (sub_nil _)) (by (try dsimp only); exact ⟨Nat.zero_le _, by simp⟩) ?_
  rintro i hinv1; (try dsimp only at hinv1 ⊢)
  obtain ⟨hi, hok⟩ := hinv1
  refine WC.sr ?_
  refine WL.r rfl rfl rfl (rd_lss rfl rfl rfl) ?_
  refine WL.nt ?_
  refine WC.seq ?_
  refine WC.cond rfl (fun hc29 => ?_) (fun hc29 => ?_)
  · (try simp only [sB] at hc29)
    have hil : i < [k.g.1, k.g.2, k.h, x].length := by show i < 4; omega
    refine WC.skip ?_
    refine WX.then_normal ?_
    refine WC.seq ?_
    refine WC.block ?_
    refine WC.sr ?_
    refine WL.r rfl rfl rfl (rd_aidx rfl rfl rfl Tryz.underlying64 Tryz.underlying22 rfl (by kernel_rfl) ?_ (by rw [Int.toNat_natCast]; exact map_getD [k.g.1, k.g.2, k.h, x] (fun s : Bs => Value.string (S s)) i hil)) ?_
    · omega
    refine WL.r rfl rfl rfl (rd_assign rfl rfl) ?_
    refine WL.nt ?_
    refine WC.sr ?_
    refine WL.r rfl rfl rfl (rd_move rfl rfl) ?_
    refine WL.g rfl rfl rfl (og_call rfl rfl (by kernel_rfl) (keep_val fun w hS => valid_c (a := [k.g.1, k.g.2, k.h, x].getD i default))) ?_
    intro _
    refine WL.r rfl rfl rfl (rd_not rfl rfl) ?_
    refine WL.nt ?_
    refine WC.cond rfl (fun hc33 => ?_) (fun hc33 => ?_)
    · (try simp only [sB] at hc33)
      refine WC.sr ?_
      refine WL.r rfl rfl rfl (rd_assign rfl rfl) ?_
      refine WL.r rfl rfl rfl (rd_assign rfl rfl) ?_
      refine WL.r rfl rfl rfl (rd_assign rfl rfl) ?_
      refine WL.nt ?_
      refine WC.ret ?_
      refine WX.block_ret ?_
      refine WX.then_ret ?_
      refine WX.then_ret ?_
      refine WX.block_ret ?_
      refine WX.then_ret ?_
      exact WX.retN rfl (.tmp rfl (.tmp rfl (.tmp rfl .nil))) fun w' hS => ⟨by rw [unmS, if_pos (fun h => absurd (h4.1 h _ (getD_mem _ _ hil)) (by simpa using hc33))]; rfl, hS.below⟩
    · (try simp only [sB] at hc33)
      refine WC.skip ?_
      refine WX.block_normal ?_
      refine WX.then_normal ?_
      refine WC.region ?_
      (refine WL.r rfl rfl rfl (rd_add64nl rfl rfl rfl ?_) ?_; (focus (omega)))
      refine WL.r rfl rfl rfl (rd_move rfl rfl) ?_
      refine WL.nil ?_
      refine WX.loopP (i + 1) (by (try dsimp only); omega) (sub_cons rfl (sub_cons rfl (sub_cons rfl (sub_cons rfl (sub_nil _))))) (by refine (sub_cons ?_ (sub_nil _)) <;> (rfl)) ?_ (by (exact fun _ h => h))
      (try dsimp only)
      exact ⟨hil, all_take hil hok (by simpa using hc33)⟩
  · (try simp only [sB] at hc29)
    refine WC.exit ?_
    refine WX.then_exit ?_
    refine WX.then_exit ?_
    refine WX.block_exit ?_
    obtain rfl : i = 4 := by omega
    have hk4 := h4.2 hok
    clear hok
    refine WX.then_normal ?_
    refine WC.seq ?_
    refine WC.sr ?_
    refine WL.r rfl rfl rfl (rd_move rfl rfl) ?_
    refine WL.r rfl rfl rfl (rd_len rfl rfl Tryz.underlying36) ?_
    refine WL.r rfl rfl rfl (rd_move rfl rfl) ?_
    refine WL.nt ?_
    refine WC.block ?_
    refine WC.loopO (σ := Nat) [(1, _), (2, _), (3, _), (35, _), (36, _)] (fun gq => [(37, .int .i64 (gq : Int))]) (fun gq => gq ≤ ws.length ∧ ∀ z ∈ ws.take gq, okZ z) (fun gq => ws.length - gq) (fun gq => [⟨some b3, [.string (S k.name), .string (S k.g.1), .string (S k.g.2), .string (S k.z), .string (S k.s), rv, .string (S k.u), .string (S k.h)], 33⟩]) (fun gq => [Fact.sl a (ints ws)]) (0) (sub_cons rfl (sub_cons rfl (sub_cons rfl (sub_cons rfl (sub_cons rfl (sub_nil _)))))) (sub_cons rfl (sub_nil _)) (by (try dsimp only); exact ⟨Nat.zero_le _, by simp⟩) (by (exact fun _ h => h)) ?_
    rintro n hinv2; (try dsimp only at hinv2 ⊢)
    obtain ⟨hn, hokz⟩ := hinv2
    refine WC.sr ?_
    refine WL.r rfl rfl rfl (rd_lss rfl rfl rfl) ?_
    refine WL.nt ?_
    refine WC.seq ?_
    refine WC.cond rfl (fun hc38 => ?_) (fun hc38 => ?_)
    · (try simp only [sB] at hc38)
      have hnl : n < ws.length := by omega
      refine WC.skip ?_
      refine WX.then_normal ?_
      refine WC.seq ?_
      refine WC.block ?_
      refine WC.sr ?_
      (refine WL.r rfl rfl rfl (iaf rfl rfl rfl Tryz.underlying36 (by kernel_rfl : _ = some 2) ?_ ?_ (by (try simp only [sN, Int.reduceToNat, Nat.reduceAdd, Nat.reduceMul, Nat.reduceSub]); rfl)) ?_; (focus (omega)); (focus ((rw [flatMap_len _ _ 2 (fun _ => rfl)]; omega))))
      (refine WL.r rfl rfl rfl (ldma _ rfl rfl Tryz.underlying41 rfl (by kernel_rfl : _ = some 2) (fun _ => rfl) (by decide) rfl ?_) ?_; (focus (assumption)))
      refine WL.g rfl rfl rfl (og_alloc rfl (v := (.agg #[.bool false, .string (S [])])) (cs := [.bool false, .string (S [])]) (by kernel_rfl) rfl) ?_
      intro b12
      refine WL.g0 rfl rfl (sta rfl rfl rfl .tc ?_ ?_ ?_) ?_
      · kernel_rfl
      · simp [Value.oneCell']
      · rfl
      intro _
      refine WL.nt ?_
      refine WC.sr ?_
      refine WL.r rfl rfl rfl (lda rfl rfl .tc Tryz.underlying41 rfl ?_) ?_
      · kernel_rfl
      refine WL.g rfl rfl rfl (og_call rfl rfl (by kernel_rfl) (keep_val fun w hS => zvalid_c (x := ws.getD n default))) ?_
      intro _
      refine WL.r rfl rfl rfl (rd_not rfl rfl) ?_
      refine WL.nt ?_
      refine WC.cond rfl (fun hc43 => ?_) (fun hc43 => ?_)
      · (try simp only [sB] at hc43)
        refine WC.sr ?_
        refine WL.r rfl rfl rfl (rd_assign rfl rfl) ?_
        refine WL.r rfl rfl rfl (rd_assign rfl rfl) ?_
        refine WL.r rfl rfl rfl (rd_assign rfl rfl) ?_
        refine WL.nt ?_
        refine WC.ret ?_
        refine WX.block_ret ?_
        refine WX.then_ret ?_
        refine WX.then_ret ?_
        refine WX.block_ret ?_
        refine WX.then_ret ?_
        exact WX.retN rfl (.tmp rfl (.tmp rfl (.tmp rfl .nil))) fun w' hS => ⟨by rw [unmS, if_neg (fun h => h hk4), if_pos (fun h => absurd (h _ (getD_mem _ _ hnl)) (by simpa using hc43))]; rfl, hS.below⟩
      · (try simp only [sB] at hc43)
        refine WC.skip ?_
        refine WX.block_normal ?_
        refine WX.then_normal ?_
        refine WC.region ?_
        (refine WL.r rfl rfl rfl (rd_add64nl rfl rfl rfl ?_) ?_; (focus (omega)))
        refine WL.r rfl rfl rfl (rd_move rfl rfl) ?_
        refine WL.nil ?_
        refine WX.loopO (n + 1) (by (try dsimp only); omega) (sub_cons rfl (sub_cons rfl (sub_cons rfl (sub_cons rfl (sub_cons rfl (sub_nil _)))))) (by refine (sub_cons ?_ (sub_nil _)) <;> (rfl)) ?_ (by (exact st_sub))
        (try dsimp only)
        exact ⟨hnl, all_take hnl hokz (by simpa using hc43)⟩
    · (try simp only [sB] at hc38)
      refine WC.exit ?_
      refine WX.then_exit ?_
      refine WX.then_exit ?_
      refine WX.block_exit ?_
      obtain rfl : n = ws.length := by omega
      rw [List.take_length] at hokz
      refine WX.then_normal ?_
      refine WC.seq ?_
      refine WC.sr ?_
      (refine WL.r rfl rfl rfl (rd_fa (q := 1) rfl rfl Tryz.underlying33 rfl (by kernel_rfl) rfl) ?_)
      (refine WL.r rfl rfl rfl (ldp rfl rfl .tc Tryz.underlying26 rfl (by kernel_rfl : _ = some 2) (by rfl) (by rfl)) ?_)
      refine WL.g rfl rfl rfl (og_call rfl rfl (by kernel_rfl) (keep_val fun w hS => pcheck_c (g := k.g))) ?_
      intro _
      refine WL.r rfl rfl rfl (rd_assign rfl rfl) ?_
      refine WL.nt ?_
      refine WC.sr ?_
      refine WL.r rfl rfl rfl (rd_move rfl rfl) ?_
      refine WL.r rfl rfl rfl (rd_neq rfl rfl rfl) ?_
      refine WL.nt ?_
      refine WC.cond rfl (fun hc49 => ?_) (fun hc49 => ?_)
      · (try simp only [sB] at hc49)
        refine WC.sr ?_
        refine WL.r rfl rfl rfl (rd_move rfl rfl) ?_
        refine WL.r rfl rfl rfl (rd_assign rfl rfl) ?_
        refine WL.r rfl rfl rfl (rd_assign rfl rfl) ?_
        refine WL.r rfl rfl rfl (rd_assign rfl rfl) ?_
        refine WL.nt ?_
        refine WC.ret ?_
        refine WX.then_ret ?_
        exact WX.retN rfl (.tmp rfl (.tmp rfl (.tmp rfl .nil))) fun w' hS => ⟨by rw [unmS, if_neg (fun h => h hk4), if_neg (fun h => h hokz), if_pos (by simpa using hc49)]; rfl, hS.below⟩
      · (try simp only [sB] at hc49)
        have hg : chkG k.g = 0 := by simpa using hc49
        refine WC.skip ?_
        refine WX.then_normal ?_
        refine WC.seq ?_
        refine WC.block ?_
        refine WC.joinP (σ := Unit) [(1, _), (2, _), (3, _)] (fun gq => [(51, .bool (decide (¬ (elG k.g k.h ∧ elG k.g x))))]) (fun gq => True) (sub_cons rfl (sub_cons rfl (sub_cons rfl (sub_nil _)))) ?_ ?_
        · skip
          refine WC.region ?_
          (refine WL.r rfl rfl rfl (rd_fa (q := 1) rfl rfl Tryz.underlying33 rfl (by kernel_rfl) rfl) ?_)
          (refine WL.r rfl rfl rfl (ldp rfl rfl .tc Tryz.underlying26 rfl (by kernel_rfl : _ = some 2) (by rfl) (by rfl)) ?_)
          (refine WL.r rfl rfl rfl (rd_fa (q := 7) rfl rfl Tryz.underlying33 rfl (by kernel_rfl) rfl) ?_)
          (refine WL.r rfl rfl rfl (ld rfl rfl .tc Tryz.underlying22 rfl (by rfl)) ?_)
          refine WL.g rfl rfl rfl (og_call rfl rfl (by kernel_rfl) (keep_val fun w hS => pwhas_c (g := k.g) (x := k.h) (by assumption))) ?_
          intro _
          refine WL.set 56 rfl (v' := .bool (decide (elG k.g k.h))) (congrArg Value.bool (by simp [hg])) ?_
          refine WL.r rfl rfl rfl (rd_not rfl rfl) ?_
          refine WL.r rfl rfl rfl (rd_move rfl rfl) ?_
          refine WL.bool 58 rfl (fun hg58 => ?_) (fun hg58 => ?_)
          · (try simp only [sB] at hg58)
            refine WL.s rfl rfl rfl ?_
            refine WL.s rfl rfl rfl ?_
            refine WL.s rfl rfl rfl ?_
            refine WL.s rfl rfl rfl ?_
            refine WL.s rfl rfl rfl ?_
            refine WL.r rfl rfl rfl (rd_pickt rfl rfl rfl) ?_
            refine WL.r rfl rfl rfl (rd_assign rfl rfl) ?_
            refine WL.nil ?_
            refine WX.joinP (()) (sub_cons rfl (sub_cons rfl (sub_cons rfl (sub_nil _)))) (by refine (sub_cons ?_ (sub_nil _)) <;> ((refine slot_b rfl ?_; (try dsimp only); (simp [*]; done)))) ?_ (by (exact fun _ h => h))
            (try dsimp only)
            done
          · (try simp only [sB] at hg58)
            (refine WL.r rfl rfl rfl (rd_fa (q := 1) rfl rfl Tryz.underlying33 rfl (by kernel_rfl) rfl) ?_)
            (refine WL.r rfl rfl rfl (ldp rfl rfl .tc Tryz.underlying26 rfl (by kernel_rfl : _ = some 2) (by rfl) (by rfl)) ?_)
            refine WL.r rfl rfl rfl (rd_move rfl rfl) ?_
            refine WL.g rfl rfl rfl (og_call rfl rfl (by kernel_rfl) (keep_val fun w hS => pwhas_c (g := k.g) (x := x) (by assumption))) ?_
            intro _
            refine WL.set 62 rfl (v' := .bool (decide (elG k.g x))) (congrArg Value.bool (by simp [hg])) ?_
            refine WL.r rfl rfl rfl (rd_not rfl rfl) ?_
            refine WL.r rfl rfl rfl (rd_pickf rfl rfl rfl) ?_
            refine WL.r rfl rfl rfl (rd_assign rfl rfl) ?_
            refine WL.nil ?_
            refine WX.joinP (()) (sub_cons rfl (sub_cons rfl (sub_cons rfl (sub_nil _)))) (by refine (sub_cons ?_ (sub_nil _)) <;> ((refine slot_b rfl ?_; (try dsimp only); (simp [*]; done)))) ?_ (by (exact fun _ h => h))
            (try dsimp only)
            done
        · rintro _ hmeet; (try dsimp only at hmeet ⊢)
          refine WC.cond rfl (fun hc51 => ?_) (fun hc51 => ?_)
          · (try simp only [sB] at hc51)
            refine WC.sr ?_
            refine WL.r rfl rfl rfl (rd_assign rfl rfl) ?_
            refine WL.r rfl rfl rfl (rd_assign rfl rfl) ?_
            refine WL.r rfl rfl rfl (rd_assign rfl rfl) ?_
            refine WL.nt ?_
            refine WC.ret ?_
            refine WX.block_ret ?_
            refine WX.then_ret ?_
            exact WX.retN rfl (.tmp rfl (.tmp rfl (.tmp rfl .nil))) fun w' hS => ⟨by rw [unmS, if_neg (fun h => h hk4), if_neg (fun h => h hokz), if_neg (fun h => h hg), if_pos hc51]; rfl, hS.below⟩
          · (try simp only [sB] at hc51)
            have hel : elG k.g k.h ∧ elG k.g x := Decidable.not_not.1 hc51
            refine WC.sr ?_
            refine WL.r rfl rfl rfl (rd_move rfl rfl) ?_
            refine WL.r rfl rfl rfl (rd_len rfl rfl Tryz.underlying36) ?_
            refine WL.r rfl rfl rfl (rd_neq rfl rfl rfl) ?_
            refine WL.r rfl rfl rfl (rd_assign rfl rfl) ?_
            refine WL.nt ?_
            refine WC.cond rfl (fun hc65 => ?_) (fun hc65 => ?_)
            · (try simp only [sB] at hc65)
              refine WC.sr ?_
              refine WL.r rfl rfl rfl (rd_assign rfl rfl) ?_
              refine WL.r rfl rfl rfl (rd_assign rfl rfl) ?_
              refine WL.r rfl rfl rfl (rd_assign rfl rfl) ?_
              refine WL.nt ?_
              refine WC.ret ?_
              refine WX.block_ret ?_
              refine WX.then_ret ?_
              exact WX.retN rfl (.tmp rfl (.tmp rfl (.tmp rfl .nil))) fun w' hS => ⟨by rw [unmS, if_neg (fun h => h hk4), if_neg (fun h => h hokz), if_neg (fun h => h hg), if_neg (fun h => h hel), if_pos (by omega)]; rfl, hS.below⟩
            · (try simp only [sB] at hc65)
              have hw2 : ws.length = 2 := by omega
              have hw0 : 0 < ws.length := by omega
              have hw1 : 1 < ws.length := by omega
              obtain ⟨z0, hz0⟩ : ∃ z, Keep (z = ws.getD 0 default) := ⟨_, rfl⟩
              refine WC.joinP (σ := Unit) [(1, _), (2, _), (3, _)] (fun gq => [(69, .bool (decide (z0.1 = true ∨ z0.2 = [])))]) (fun gq => True) (sub_cons rfl (sub_cons rfl (sub_cons rfl (sub_nil _)))) ?_ ?_
              · skip
                refine WC.region ?_
                refine WL.r rfl rfl rfl (rd_move rfl rfl) ?_
                (refine WL.r rfl rfl rfl (iaf rfl rfl rfl Tryz.underlying36 (by kernel_rfl : _ = some 2) ?_ ?_ (by (try simp only [sN, Int.reduceToNat, Nat.reduceAdd, Nat.reduceMul, Nat.reduceSub]); rfl)) ?_; (focus (omega)); (focus ((rw [flatMap_len _ _ 2 (fun _ => rfl)]; omega))))
                (refine WL.r rfl rfl rfl (faf rfl rfl Tryz.underlying41 rfl (by kernel_rfl) (by (try simp only [sN, Int.reduceToNat, Nat.reduceAdd, Nat.reduceMul, Nat.reduceSub]); rfl)) ?_)
                refine WL.r rfl rfl rfl (ldmf (l := ws) (f := zc) (sz := 2) 0 0 rfl rfl Tryz.underlying4 rfl (fun _ => rfl) rfl hw0 (by decide) rfl) ?_
                refine WL.set 73 rfl (v' := .bool (z0.1)) (congrArg Value.bool (by rw [show z0 = _ from hz0])) ?_
                refine WL.r rfl rfl rfl (rd_move rfl rfl) ?_
                refine WL.bool 74 rfl (fun hg74 => ?_) (fun hg74 => ?_)
                · (try simp only [sB] at hg74)
                  refine WL.s rfl rfl rfl ?_
                  refine WL.s rfl rfl rfl ?_
                  refine WL.s rfl rfl rfl ?_
                  refine WL.s rfl rfl rfl ?_
                  refine WL.s rfl rfl rfl ?_
                  refine WL.r rfl rfl rfl (rd_pickt rfl rfl rfl) ?_
                  refine WL.r rfl rfl rfl (rd_assign rfl rfl) ?_
                  refine WL.nil ?_
                  refine WX.joinP (()) (sub_cons rfl (sub_cons rfl (sub_cons rfl (sub_nil _)))) (by refine (sub_cons ?_ (sub_nil _)) <;> ((refine slot_b rfl ?_; (try dsimp only); (simp [*]; done)))) ?_ (by (exact fun _ h => h))
                  (try dsimp only)
                  done
                · (try simp only [sB] at hg74)
                  refine WL.r rfl rfl rfl (rd_move rfl rfl) ?_
                  (refine WL.r rfl rfl rfl (iaf rfl rfl rfl Tryz.underlying36 (by kernel_rfl : _ = some 2) ?_ ?_ (by (try simp only [sN, Int.reduceToNat, Nat.reduceAdd, Nat.reduceMul, Nat.reduceSub]); rfl)) ?_; (focus (omega)); (focus ((rw [flatMap_len _ _ 2 (fun _ => rfl)]; omega))))
                  (refine WL.r rfl rfl rfl (faf rfl rfl Tryz.underlying41 rfl (by kernel_rfl) (by (try simp only [sN, Int.reduceToNat, Nat.reduceAdd, Nat.reduceMul, Nat.reduceSub]); rfl)) ?_)
                  refine WL.r rfl rfl rfl (ldmf (l := ws) (f := zc) (sz := 2) 0 1 rfl rfl Tryz.underlying22 rfl (fun _ => rfl) rfl hw0 (by decide) rfl) ?_
                  refine WL.set 78 rfl (v' := .string (S (z0.2))) (congrArg (fun l => Value.string (S l)) (by rw [show z0 = _ from hz0])) ?_
                  refine WL.r rfl rfl rfl (rd_seq rfl rfl rfl) ?_
                  refine WL.r rfl rfl rfl (rd_pickf rfl rfl rfl) ?_
                  refine WL.r rfl rfl rfl (rd_assign rfl rfl) ?_
                  refine WL.nil ?_
                  refine WX.joinP (()) (sub_cons rfl (sub_cons rfl (sub_cons rfl (sub_nil _)))) (by refine (sub_cons ?_ (sub_nil _)) <;> ((refine slot_b rfl ?_; (try dsimp only); (simp [*]; done)))) ?_ (by (exact fun _ h => h))
                  (try dsimp only)
                  done
              · rintro _ hmeet; (try dsimp only at hmeet ⊢)
                refine WC.cond rfl (fun hc69 => ?_) (fun hc69 => ?_)
                · (try simp only [sB] at hc69)
                  rw [show z0 = _ from hz0] at hc69
                  refine WC.sr ?_
                  refine WL.r rfl rfl rfl (rd_assign rfl rfl) ?_
                  refine WL.r rfl rfl rfl (rd_assign rfl rfl) ?_
                  refine WL.r rfl rfl rfl (rd_assign rfl rfl) ?_
                  refine WL.nt ?_
                  refine WC.ret ?_
                  refine WX.block_ret ?_
                  refine WX.then_ret ?_
                  exact WX.retN rfl (.tmp rfl (.tmp rfl (.tmp rfl .nil))) fun w' hS => ⟨by rw [unmS, if_neg (fun h => h hk4), if_neg (fun h => h hokz), if_neg (fun h => h hg), if_neg (fun h => h hel), if_neg (fun h => h hw2), if_pos hc69]; rfl, hS.below⟩
                · (try simp only [sB] at hc69)
                  rw [show z0 = _ from hz0] at hc69
                  refine WC.skip ?_
                  refine WX.block_normal ?_
                  refine WX.then_normal ?_
                  refine WC.seq ?_
                  refine WC.free0 [0, 1, 2, 3, 4, 5, 6, 7, 8, 10, 11, 9, 12] [] [0, 0, 0, 0, 0, 0, 1, 0, 0, 0, 3, 1, 0] (by kernel_rfl) (by kernel_rfl) rfl ?_
                  refine WJ.r rfl rfl rfl rfl rfl (rd_move rfl rfl) ?_
                  (refine WJ.r rfl rfl rfl rfl rfl (iaf rfl rfl rfl Tryz.underlying36 (by kernel_rfl : _ = some 2) ?_ ?_ (by (try simp only [sN, Int.reduceToNat, Nat.reduceAdd, Nat.reduceMul, Nat.reduceSub]); rfl)) ?_; (focus (omega)); (focus ((rw [flatMap_len _ _ 2 (fun _ => rfl)]; omega))))
                  refine WJ.r rfl rfl rfl rfl rfl (ldma (l := ws) (f := zc) (sz := 2) 1 rfl rfl Tryz.underlying41 rfl (by kernel_rfl : _ = some 2) (fun _ => rfl) (by decide) rfl hw1) ?_
                  refine WJ.r rfl rfl rfl rfl rfl (rd_move rfl rfl) ?_
                  (refine WJ.r rfl rfl rfl rfl rfl (iaf rfl rfl rfl Tryz.underlying36 (by kernel_rfl : _ = some 2) ?_ ?_ (by (try simp only [sN, Int.reduceToNat, Nat.reduceAdd, Nat.reduceMul, Nat.reduceSub]); rfl)) ?_; (focus (omega)); (focus ((rw [flatMap_len _ _ 2 (fun _ => rfl)]; omega))))
                  refine WJ.r rfl rfl rfl rfl rfl (ldma (l := ws) (f := zc) (sz := 2) 0 rfl rfl Tryz.underlying41 rfl (by kernel_rfl : _ = some 2) (fun _ => rfl) (by decide) rfl hw0) ?_
                  refine WJ.gv rfl rfl rfl rfl rfl (fun ext => og_call rfl rfl (by kernel_rfl) (keep_val fun w hS => zdivide_c (x := ws.getD 1 default) (y := ws.getD 0 default))) ?_
                  refine WJ.r rfl rfl rfl rfl rfl (rd_move rfl rfl) ?_
                  refine WJ.r rfl rfl rfl rfl rfl (rd_extL rfl rfl rfl) ?_
                  refine WJ.f rfl rfl rfl rfl rfl (fr_alloc rfl (v := (.agg #[.bool false, .string (S [])])) (cs := [.bool false, .string (S [])]) (by kernel_rfl) rfl) ?_
                  intro b14
                  refine WJ.st rfl rfl rfl rfl (staJ rfl rfl rfl ?_ ?_ ?_) ?_
                  · kernel_rfl
                  · simp [Value.oneCell']
                  · rfl
                  refine WJ.r rfl rfl rfl rfl rfl (rd_extL rfl rfl rfl) ?_
                  refine WJ.r rfl rfl rfl rfl rfl (rd_assign rfl rfl) ?_
                  refine WJ.nil ?_
                  refine WL.nt ?_
                  refine WC.seq ?_
                  refine WC.sr ?_
                  refine WL.r rfl rfl rfl (rd_move rfl rfl) ?_
                  refine WL.r rfl rfl rfl (rd_neq rfl rfl rfl) ?_
                  refine WL.nt ?_
                  refine WC.cond rfl (fun hc92 => ?_) (fun hc92 => ?_)
                  · (try simp only [sB] at hc92)
                    have hr : unmS k x ws = (([], []), 17) := by rw [unmS, if_neg (fun h => h hk4), if_neg (fun h => h hokz), if_neg (fun h => h hg), if_neg (fun h => h hel), if_neg (fun h => h hw2), if_neg hc69, if_pos (by simpa using hc92)]
                    refine WC.sr ?_
                    refine WL.r rfl rfl rfl (rd_assign rfl rfl) ?_
                    refine WL.r rfl rfl rfl (rd_assign rfl rfl) ?_
                    refine WL.r rfl rfl rfl (rd_assign rfl rfl) ?_
                    refine WL.nt ?_
                    refine WC.ret ?_
                    refine WX.then_ret ?_
                    exact WX.retN rfl (.tmp rfl (.tmp rfl (.tmp rfl .nil))) fun w' hS => ⟨by rw [hr]; rfl, hS.below⟩
                  · (try simp only [sB] at hc92)
                    have hr : unmS k x ws = (((prodS k.g [x, k.h] [ofZ 1, negZ (divZ (ws.getD 1 default) (ws.getD 0 default)).1]).1, (ws.getD 0 default).2), 0) := by rw [unmS, if_neg (fun h => h hk4), if_neg (fun h => h hokz), if_neg (fun h => h hg), if_neg (fun h => h hel), if_neg (fun h => h hw2), if_neg hc69, if_neg (by simpa using hc92)]
                    refine WC.skip ?_
                    refine WX.then_normal ?_
                    refine WC.seq ?_
                    refine WC.free0 [6, 7, 8, 0, 1, 2, 3, 4, 5, 9, 10, 11, 12, 13, 14, 15] [] [0, 0, 0, 0, 0, 3, 1, 0, 1, 3, 1, 0, 0, 0, 0, 0] (by kernel_rfl) (by kernel_rfl) rfl ?_
                    refine WJ.gv rfl rfl rfl rfl rfl (fun ext => og_call rfl rfl (by kernel_rfl) (keep_val fun w hS => zof_c (n := 1) (by omega) (by omega))) ?_
                    refine WJ.r rfl rfl rfl rfl rfl (lda rfl rfl .tc Tryz.underlying41 rfl ?_) ?_
                    · kernel_rfl
                    refine WJ.gv rfl rfl rfl rfl rfl (fun ext => og_call rfl rfl (by kernel_rfl) (keep_val fun w hS => zneg_c (x := (divZ (ws.getD 1 default) (ws.getD 0 default)).1))) ?_
                    (refine WJ.r rfl rfl rfl rfl rfl (rd_fa (q := 1) rfl rfl Tryz.underlying33 rfl (by kernel_rfl) rfl) ?_)
                    (refine WJ.r rfl rfl rfl rfl rfl (ldp rfl rfl .tc Tryz.underlying26 rfl (by kernel_rfl : _ = some 2) (by rfl) (by rfl)) ?_)
                    refine WJ.r rfl rfl rfl rfl rfl (rd_move rfl rfl) ?_
                    (refine WJ.r rfl rfl rfl rfl rfl (rd_fa (q := 7) rfl rfl Tryz.underlying33 rfl (by kernel_rfl) rfl) ?_)
                    (refine WJ.r rfl rfl rfl rfl rfl (ld rfl rfl .tc Tryz.underlying22 rfl (by rfl)) ?_)
                    refine WJ.f rfl rfl rfl rfl rfl (fr_bs1 rfl rfl Tryz.underlying31 (by kernel_rfl : _ = some (some (.string (S [])), 1, 16)) rfl (by simp only [List.map]; rfl) rfl rfl ?_ (by decide)) ?_
                    · simp [Value.cells]
                    intro b99
                    refine WJ.f rfl rfl rfl rfl rfl (fr_bsN rfl rfl Tryz.underlying36 (by kernel_rfl : _ = some (some (.agg #[.bool false, .string (S [])]), 2, 24)) (by kernel_rfl) (by decide) rfl rfl (by (simp [Value.cells]; done)) (by (simp only [List.map, Value.cells, List.flatMap_cons, List.flatMap_nil, List.append_nil, List.toList_toArray]; rfl)) (by decide)) ?_
                    intro b103
                    refine WJ.gv rfl rfl rfl rfl rfl (fun ext => og_call rfl rfl (by kernel_rfl) (keep_val fun w hS => pproduct_c (g := k.g) (l := [x, k.h]) (es := [ofZ 1, negZ (divZ (ws.getD 1 default) (ws.getD 0 default)).1]) (by (exact hS.os)) (by (exact hS.os)) (by (simp <;> omega)) (by (simp <;> omega)) (by assumption))) ?_
                    refine WJ.r rfl rfl rfl rfl rfl (rd_move rfl rfl) ?_
                    refine WJ.r rfl rfl rfl rfl rfl (rd_extL rfl rfl rfl) ?_
                    refine WJ.r rfl rfl rfl rfl rfl (rd_extL rfl rfl rfl) ?_
                    refine WJ.r rfl rfl rfl rfl rfl (rd_assign rfl rfl) ?_
                    refine WJ.r rfl rfl rfl rfl rfl (rd_assign rfl rfl) ?_
                    refine WJ.nil ?_
                    refine WL.nt ?_
                    refine WC.seq ?_
                    refine WC.free0 [0, 1, 2, 3, 4, 5, 6, 7] [] [0, 0, 0, 0, 0, 0, 0, 0] (by kernel_rfl) (by kernel_rfl) rfl ?_
                    refine WJ.r rfl rfl rfl rfl rfl (rd_move rfl rfl) ?_
                    refine WJ.r rfl rfl rfl rfl rfl (rd_move rfl rfl) ?_
                    (refine WJ.r rfl rfl rfl rfl rfl (iaf rfl rfl rfl Tryz.underlying36 (by kernel_rfl : _ = some 2) ?_ ?_ (by (try simp only [sN, Int.reduceToNat, Nat.reduceAdd, Nat.reduceMul, Nat.reduceSub]); rfl)) ?_; (focus (omega)); (focus ((rw [flatMap_len _ _ 2 (fun _ => rfl)]; omega))))
                    (refine WJ.r rfl rfl rfl rfl rfl (faf rfl rfl Tryz.underlying41 rfl (by kernel_rfl) (by (try simp only [sN, Int.reduceToNat, Nat.reduceAdd, Nat.reduceMul, Nat.reduceSub]); rfl)) ?_)
                    refine WJ.r rfl rfl rfl rfl rfl (ldmf (l := ws) (f := zc) (sz := 2) 0 1 rfl rfl Tryz.underlying22 rfl (fun _ => rfl) rfl hw0 (by decide) rfl) ?_
                    refine WJ.r rfl rfl rfl rfl rfl (rd_assign rfl rfl) ?_
                    refine WJ.r rfl rfl rfl rfl rfl (rd_assign rfl rfl) ?_
                    refine WJ.r rfl rfl rfl rfl rfl (rd_assign rfl rfl) ?_
                    refine WJ.nil ?_
                    refine WL.nt ?_
                    refine WC.ret ?_
                    exact WX.retN rfl (.tmp rfl (.tmp rfl (.tmp rfl .nil))) fun w' hS => ⟨by rw [hr]; rfl, hS.below⟩
end Go.Proofs.YtbcnnkcddilfjaaGreat

/-
  The reference's Unmask; lists of integers.
-/
namespace Go.Proofs.YtbcnnkcddilfjaaGreat
set_option linter.unusedSimpArgs false
set_option linter.unusedVariables false
set_option maxRecDepth 20000
set_option maxHeartbeats 600000
open Go.RowKit

def unmOk (k : IK) (x : Bs) (ws : List Zs) (n : Nat) : Prop := (okN k.g.1 ∧ okN k.g.2 ∧ okN k.h ∧ okN x) ∧ ∀ z ∈ ws.take n, okZ z
instance (k : IK) (x : Bs) (ws : List Zs) (n : Nat) : Decidable (unmOk k x ws n) := inferInstanceAs (Decidable (_ ∧ _))
theorem unmOk_succ {k : IK} {x : Bs} {ws : List Zs} {n : Nat} (h : n < ws.length) : unmOk k x ws (n + 1) ↔ unmOk k x ws n ∧ okZ (ws.getD n default) := by
  constructor
  · intro ⟨h1, h2⟩
    refine ⟨⟨h1, fun z hz => h2 z ?_⟩, h2 _ ?_⟩
    · rw [List.take_add_one]; exact List.mem_append_left _ hz
    · have e : ws.take (n + 1) = ws.take n ++ [ws.getD n default] := by
        rw [List.take_add_one, List.getElem?_eq_getElem h, List.getD_eq_getElem?_getD, List.getElem?_eq_getElem h]; rfl
      rw [e]; exact List.mem_append_right _ (List.mem_singleton.2 rfl)
  · intro ⟨⟨h1, h2⟩, h3⟩; exact ⟨h1, all_take h h2 h3⟩
theorem runm_c {k : IK} {rv : Value} {x : Bs} {ws : List Zs} {a : Option Addr} {c : Nat} {w : World} {ok : Nat → Prop} (hF1 : (Fact.sl a (ints ws)).holds ok w) (hw : ws.length ≤ 100000) (hm8 : k.g.1.length ≤ 8) :
    Calls Tryz.prog 9 #[ikV k rv, .string (S x), .slice a ws.length c] w fun e w' => e = .returned (DE (unmS k x ws)) ∧ Below w.heap.size w w' := by
  refine enter (S := St (fun _ => True) w [] ([Fact.sl a (ints ws)])) (L := [(0, ikV k rv), (1, .string (S x)), (2, .slice a ws.length c)]) Tryz.func9 rfl Tryz.ntmps9 rfl (args_cons rfl (args_cons rfl (args_cons rfl (args_nil _)))) (St.start (fun _ _ => trivial) (facts_cons (fact_any hF1) facts_nil)) ?_
  refine WC.sr ?_
  refine WL.g rfl rfl rfl (og_box rfl rfl (by (exact cells_agg _))) ?_
  intro b3
  refine WL.r rfl rfl rfl (rd_assign rfl rfl) ?_
  refine WL.r rfl rfl rfl (rd_assign rfl rfl) ?_
  refine WL.r rfl rfl rfl (rd_assign rfl rfl) ?_
  refine WL.nt ?_
  refine WC.joinP (σ := Unit) [(1, _), (2, _), (3, _)] (fun gq => [(9, .bool (decide (okN k.g.1 ∧ okN k.g.2 ∧ okN k.h ∧ okN x)))]) (fun gq => True) (sub_cons rfl (sub_cons rfl (sub_cons rfl (sub_nil _)))) ?_ ?_
  · skip
    refine WC.region ?_
    (refine WL.r rfl rfl rfl (rd_fa (q := 1) rfl rfl Tryz.underlying33 rfl (by kernel_rfl) rfl) ?_)
    (refine WL.r rfl rfl rfl (rd_fa (q := 1) rfl rfl Tryz.underlying26 rfl (by kernel_rfl) rfl) ?_)
    (refine WL.r rfl rfl rfl (ld rfl rfl .tc Tryz.underlying22 rfl (by rfl)) ?_)
    refine WL.g rfl rfl rfl (og_call rfl rfl (by kernel_rfl) (keep_val fun w hS => rvalid_c (a := k.g.1))) ?_
    intro _
    refine WL.r rfl rfl rfl (rd_move rfl rfl) ?_
    refine WL.bool 20 rfl (fun hg20 => ?_) (fun hg20 => ?_)
    · (try simp only [sB] at hg20)
      (refine WL.r rfl rfl rfl (rd_fa (q := 1) rfl rfl Tryz.underlying33 rfl (by kernel_rfl) rfl) ?_)
      (refine WL.r rfl rfl rfl (rd_fa (q := 2) rfl rfl Tryz.underlying26 rfl (by kernel_rfl) rfl) ?_)
      (refine WL.r rfl rfl rfl (ld rfl rfl .tc Tryz.underlying22 rfl (by rfl)) ?_)
      refine WL.g rfl rfl rfl (og_call rfl rfl (by kernel_rfl) (keep_val fun w hS => rvalid_c (a := k.g.2))) ?_
      intro _
      refine WL.r rfl rfl rfl (rd_pickt rfl rfl rfl) ?_
      refine WL.r rfl rfl rfl (rd_move rfl rfl) ?_
      refine WL.bool 26 rfl (fun hg26 => ?_) (fun hg26 => ?_)
      · (try simp only [sB] at hg26)
        (refine WL.r rfl rfl rfl (rd_fa (q := 7) rfl rfl Tryz.underlying33 rfl (by kernel_rfl) rfl) ?_)
        (refine WL.r rfl rfl rfl (ld rfl rfl .tc Tryz.underlying22 rfl (by rfl)) ?_)
        refine WL.g rfl rfl rfl (og_call rfl rfl (by kernel_rfl) (keep_val fun w hS => rvalid_c (a := k.h))) ?_
        intro _
        refine WL.r rfl rfl rfl (rd_pickt rfl rfl rfl) ?_
        refine WL.r rfl rfl rfl (rd_move rfl rfl) ?_
        refine WL.bool 31 rfl (fun hg31 => ?_) (fun hg31 => ?_)
        · (try simp only [sB] at hg31)
          refine WL.r rfl rfl rfl (rd_move rfl rfl) ?_
          refine WL.g rfl rfl rfl (og_call rfl rfl (by kernel_rfl) (keep_val fun w hS => rvalid_c (a := x))) ?_
          intro _
          refine WL.r rfl rfl rfl (rd_pickt rfl rfl rfl) ?_
          refine WL.r rfl rfl rfl (rd_assign rfl rfl) ?_
          refine WL.nil ?_
          refine WX.joinP (()) (sub_cons rfl (sub_cons rfl (sub_cons rfl (sub_nil _)))) (by refine (sub_cons ?_ (sub_nil _)) <;> ((refine slot_b rfl ?_; (try dsimp only); (simp [*]; done)))) ?_ (by (exact fun _ h => h))
          (try dsimp only)
          done
        · (try simp only [sB] at hg31)
          refine WL.s rfl rfl rfl ?_
          refine WL.s rfl rfl rfl ?_
          refine WL.r rfl rfl rfl (rd_pickf rfl rfl rfl) ?_
          refine WL.r rfl rfl rfl (rd_assign rfl rfl) ?_
          refine WL.nil ?_
          refine WX.joinP (()) (sub_cons rfl (sub_cons rfl (sub_cons rfl (sub_nil _)))) (by refine (sub_cons ?_ (sub_nil _)) <;> ((refine slot_b rfl ?_; (try dsimp only); (simp [*]; done)))) ?_ (by (exact fun _ h => h))
          (try dsimp only)
          done
      · (try simp only [sB] at hg26)
        refine WL.s rfl rfl rfl ?_
        refine WL.s rfl rfl rfl ?_
        refine WL.s rfl rfl rfl ?_
        refine WL.r rfl rfl rfl (rd_pickf rfl rfl rfl) ?_
        refine WL.r rfl rfl rfl (rd_move rfl rfl) ?_
        refine WL.s rfl rfl rfl ?_
        refine WL.s rfl rfl rfl ?_
        refine WL.r rfl rfl rfl (rd_pickf rfl rfl rfl) ?_
        refine WL.r rfl rfl rfl (rd_assign rfl rfl) ?_
        refine WL.nil ?_
        refine WX.joinP (()) (sub_cons rfl (sub_cons rfl (sub_cons rfl (sub_nil _)))) (by refine (sub_cons ?_ (sub_nil _)) <;> ((refine slot_b rfl ?_; (try dsimp only); (simp [*]; done)))) ?_ (by (exact fun _ h => h))
        (try dsimp only)
        done
    · (try simp only [sB] at hg20)
      refine WL.s rfl rfl rfl ?_
      refine WL.s rfl rfl rfl ?_
      refine WL.s rfl rfl rfl ?_
      refine WL.s rfl rfl rfl ?_
      refine WL.r rfl rfl rfl (rd_pickf rfl rfl rfl) ?_
      refine WL.r rfl rfl rfl (rd_move rfl rfl) ?_
      refine WL.s rfl rfl rfl ?_
      refine WL.s rfl rfl rfl ?_
      refine WL.s rfl rfl rfl ?_
      refine WL.r rfl rfl rfl (rd_pickf rfl rfl rfl) ?_
      refine WL.r rfl rfl rfl (rd_move rfl rfl) ?_
      refine WL.s rfl rfl rfl ?_
      refine WL.s rfl rfl rfl ?_
      refine WL.r rfl rfl rfl (rd_pickf rfl rfl rfl) ?_
      refine WL.r rfl rfl rfl (rd_assign rfl rfl) ?_
      refine WL.nil ?_
      refine WX.joinP (()) (sub_cons rfl (sub_cons rfl (sub_cons rfl (sub_nil _)))) (by refine (sub_cons ?_ (sub_nil _)) <;> ((refine slot_b rfl ?_; (try dsimp only); (simp [*]; done)))) ?_ (by (exact fun _ h => h))
      (try dsimp only)
      done
  · rintro _ hmeet; (try dsimp only at hmeet ⊢)
    rw [show decide (okN k.g.1 ∧ okN k.g.2 ∧ okN k.h ∧ okN x) = decide (unmOk k x ws 0) from decide_eq_decide.2 ⟨fun h => ⟨h, by simp⟩, fun h => h.1⟩]
    refine WC.seq ?_
    refine WC.sr ?_
    refine WL.r rfl rfl rfl (rd_assign rfl rfl) ?_
    refine WL.nt ?_
    refine WC.block ?_
    refine WC.loopP (σ := Nat) [(1, _), (2, _), (3, _)] (fun gq => [(9, .bool (decide (unmOk k x ws gq))), (10, .int .i64 (gq : Int))]) (fun gq => gq ≤ ws.length) (fun gq => ws.length - gq) (0) (sub_cons rfl (sub_cons rfl (sub_cons rfl (sub_nil _)))) (sub_cons rfl (sub_cons rfl (sub_nil _))) (by (try dsimp only); omega) ?_
    rintro n hinv1; (try dsimp only at hinv1 ⊢)
    obtain hn := hinv1
    refine WC.seq ?_
    refine WC.sr ?_
    refine WL.r rfl rfl rfl (rd_move rfl rfl) ?_
    refine WL.r rfl rfl rfl (rd_move rfl rfl) ?_
    refine WL.r rfl rfl rfl (rd_len rfl rfl Tryz.underlying36) ?_
    refine WL.r rfl rfl rfl (rd_lss rfl rfl rfl) ?_
    refine WL.nt ?_
    refine WC.cond rfl (fun hc38 => ?_) (fun hc38 => ?_)
    · (try simp only [sB] at hc38)
      have hnl : n < ws.length := by omega
      have hsu := unmOk_succ (k := k) (x := x) hnl
      refine WC.skip ?_
      refine WX.then_normal ?_
      refine WC.seq ?_
      refine WC.block ?_
      refine WC.region ?_
      refine WL.r rfl rfl rfl (rd_move rfl rfl) ?_
      refine WL.r rfl rfl rfl (rd_move rfl rfl) ?_
      refine WL.bool 42 rfl (fun hg42 => ?_) (fun hg42 => ?_)
      · (try simp only [sB] at hg42)
        refine WL.r rfl rfl rfl (rd_move rfl rfl) ?_
        refine WL.r rfl rfl rfl (rd_move rfl rfl) ?_
        (refine WL.r rfl rfl rfl (iaf rfl rfl rfl Tryz.underlying36 (by kernel_rfl : _ = some 2) ?_ ?_ (by (try simp only [sN, Int.reduceToNat, Nat.reduceAdd, Nat.reduceMul, Nat.reduceSub]); rfl)) ?_; (focus (omega)); (focus ((rw [flatMap_len _ _ 2 (fun _ => rfl)]; omega))))
        (refine WL.r rfl rfl rfl (ldma _ rfl rfl Tryz.underlying41 rfl (by kernel_rfl : _ = some 2) (fun _ => rfl) (by decide) rfl ?_) ?_; (focus (assumption)))
        refine WL.g rfl rfl rfl (og_call rfl rfl (by kernel_rfl) (keep_val fun w hS => rzvalid_c (x := ws.getD n default))) ?_
        intro _
        refine WL.r rfl rfl rfl (rd_pickt rfl rfl rfl) ?_
        refine WL.set 48 rfl (v' := .bool (decide (unmOk k x ws (n + 1)))) (congrArg Value.bool (by (exact decide_eq_decide.2 ⟨fun h => hsu.2 ⟨by assumption, h⟩, fun h => (hsu.1 h).2⟩))) ?_
        refine WL.r rfl rfl rfl (rd_assign rfl rfl) ?_
        refine WL.nil ?_
        refine WX.block_normal ?_
        refine WX.then_normal ?_
        refine WC.region ?_
        refine WL.r rfl rfl rfl (rd_move rfl rfl) ?_
        (refine WL.r rfl rfl rfl (rd_add64nl rfl rfl rfl ?_) ?_; (focus (omega)))
        refine WL.r rfl rfl rfl (rd_assign rfl rfl) ?_
        refine WL.nil ?_
        refine WX.loopP (n + 1) (by (try dsimp only); omega) (sub_cons rfl (sub_cons rfl (sub_cons rfl (sub_nil _)))) (by refine (sub_cons ?_ (sub_cons ?_ (sub_nil _))) <;> (rfl)) ?_ (by (exact fun _ h => h))
        (try dsimp only)
        omega
      · (try simp only [sB] at hg42)
        refine WL.s rfl rfl rfl ?_
        refine WL.s rfl rfl rfl ?_
        refine WL.s rfl rfl rfl ?_
        refine WL.s rfl rfl rfl ?_
        refine WL.s rfl rfl rfl ?_
        refine WL.r rfl rfl rfl (rd_pickf rfl rfl rfl) ?_
        refine WL.set 48 rfl (v' := .bool (decide (unmOk k x ws (n + 1)))) (congrArg Value.bool (by (exact (decide_eq_false fun h => absurd (hsu.1 h).1 (by assumption)).symm))) ?_
        refine WL.r rfl rfl rfl (rd_assign rfl rfl) ?_
        refine WL.nil ?_
        refine WX.block_normal ?_
        refine WX.then_normal ?_
        refine WC.region ?_
        refine WL.r rfl rfl rfl (rd_move rfl rfl) ?_
        (refine WL.r rfl rfl rfl (rd_add64nl rfl rfl rfl ?_) ?_; (focus (omega)))
        refine WL.r rfl rfl rfl (rd_assign rfl rfl) ?_
        refine WL.nil ?_
        refine WX.loopP (n + 1) (by (try dsimp only); omega) (sub_cons rfl (sub_cons rfl (sub_cons rfl (sub_nil _)))) (by refine (sub_cons ?_ (sub_cons ?_ (sub_nil _))) <;> (rfl)) ?_ (by (exact fun _ h => h))
        (try dsimp only)
        omega
    · (try simp only [sB] at hc38)
      refine WC.exit ?_
      refine WX.then_exit ?_
      refine WX.then_exit ?_
      refine WX.block_exit ?_
      obtain rfl : n = ws.length := by omega
      refine WX.then_normal ?_
      refine WC.seq ?_
      refine WC.sr ?_
      refine WL.r rfl rfl rfl (rd_move rfl rfl) ?_
      refine WL.r rfl rfl rfl (rd_not rfl rfl) ?_
      refine WL.nt ?_
      refine WC.cond rfl (fun hc50 => ?_) (fun hc50 => ?_)
      · (try simp only [sB] at hc50)
        have hr : unmS k x ws = (([], []), 3) := by
          have hn : ¬ ((okN k.g.1 ∧ okN k.g.2 ∧ okN k.h ∧ okN x) ∧ ∀ z ∈ ws, okZ z) := by
            have := hc50; rw [unmOk, List.take_length] at this; exact this
          rw [unmS]
          by_cases h1 : okN k.g.1 ∧ okN k.g.2 ∧ okN k.h ∧ okN x
          · rw [if_neg (fun h => h h1), if_pos (fun h => hn ⟨h1, h⟩)]
          · rw [if_pos h1]
        refine WC.sr ?_
        refine WL.r rfl rfl rfl (rd_assign rfl rfl) ?_
        refine WL.r rfl rfl rfl (rd_assign rfl rfl) ?_
        refine WL.r rfl rfl rfl (rd_assign rfl rfl) ?_
        refine WL.nt ?_
        refine WC.ret ?_
        refine WX.then_ret ?_
        exact WX.retN rfl (.tmp rfl (.tmp rfl (.tmp rfl .nil))) fun w' hS => ⟨by rw [hr]; rfl, hS.below⟩
      · (try simp only [sB] at hc50)
        have hk0 : (okN k.g.1 ∧ okN k.g.2 ∧ okN k.h ∧ okN x) ∧ ∀ z ∈ ws, okZ z := by
          have := hc50; rw [unmOk, List.take_length] at this; exact this
        obtain ⟨hk4, hokz⟩ := hk0
        refine WC.skip ?_
        refine WX.then_normal ?_
        refine WC.seq ?_
        refine WC.sr ?_
        (refine WL.r rfl rfl rfl (rd_fa (q := 1) rfl rfl Tryz.underlying33 rfl (by kernel_rfl) rfl) ?_)
        (refine WL.r rfl rfl rfl (ldp rfl rfl .tc Tryz.underlying26 rfl (by kernel_rfl : _ = some 2) (by rfl) (by rfl)) ?_)
        refine WL.g rfl rfl rfl (og_call rfl rfl (by kernel_rfl) (keep_val fun w hS => rgcheck_c (g := k.g))) ?_
        intro _
        refine WL.r rfl rfl rfl (rd_assign rfl rfl) ?_
        refine WL.nt ?_
        refine WC.sr ?_
        refine WL.r rfl rfl rfl (rd_move rfl rfl) ?_
        refine WL.r rfl rfl rfl (rd_neq rfl rfl rfl) ?_
        refine WL.nt ?_
        refine WC.cond rfl (fun hc55 => ?_) (fun hc55 => ?_)
        · (try simp only [sB] at hc55)
          refine WC.sr ?_
          refine WL.r rfl rfl rfl (rd_move rfl rfl) ?_
          refine WL.r rfl rfl rfl (rd_assign rfl rfl) ?_
          refine WL.r rfl rfl rfl (rd_assign rfl rfl) ?_
          refine WL.r rfl rfl rfl (rd_assign rfl rfl) ?_
          refine WL.nt ?_
          refine WC.ret ?_
          refine WX.then_ret ?_
          exact WX.retN rfl (.tmp rfl (.tmp rfl (.tmp rfl .nil))) fun w' hS => ⟨by rw [unmS, if_neg (fun h => h hk4), if_neg (fun h => h hokz), if_pos (by simpa using hc55)]; rfl, hS.below⟩
        · (try simp only [sB] at hc55)
          have hg : chkG k.g = 0 := by simpa using hc55
          refine WC.skip ?_
          refine WX.then_normal ?_
          refine WC.seq ?_
          refine WC.joinP (σ := Unit) [(1, _), (2, _), (3, _)] (fun gq => [(69, .bool (decide (¬ (elG k.g k.h ∧ elG k.g x))))]) (fun gq => True) (sub_cons rfl (sub_cons rfl (sub_cons rfl (sub_nil _)))) ?_ ?_
          · skip
            refine WC.region ?_
            (refine WL.r rfl rfl rfl (rd_fa (q := 1) rfl rfl Tryz.underlying33 rfl (by kernel_rfl) rfl) ?_)
            (refine WL.r rfl rfl rfl (ldp rfl rfl .tc Tryz.underlying26 rfl (by kernel_rfl : _ = some 2) (by rfl) (by rfl)) ?_)
            (refine WL.r rfl rfl rfl (rd_fa (q := 7) rfl rfl Tryz.underlying33 rfl (by kernel_rfl) rfl) ?_)
            (refine WL.r rfl rfl rfl (ld rfl rfl .tc Tryz.underlying22 rfl (by rfl)) ?_)
            refine WL.g rfl rfl rfl (og_call rfl rfl (by kernel_rfl) (keep_val fun w hS => rghas_c (g := k.g) (x := k.h) (by assumption))) ?_
            intro _
            refine WL.set 61 rfl (v' := .bool (decide (elG k.g k.h))) (congrArg Value.bool (by simp [hg])) ?_
            refine WL.r rfl rfl rfl (rd_not rfl rfl) ?_
            refine WL.r rfl rfl rfl (rd_move rfl rfl) ?_
            refine WL.bool 63 rfl (fun hg63 => ?_) (fun hg63 => ?_)
            · (try simp only [sB] at hg63)
              refine WL.s rfl rfl rfl ?_
              refine WL.s rfl rfl rfl ?_
              refine WL.s rfl rfl rfl ?_
              refine WL.s rfl rfl rfl ?_
              refine WL.s rfl rfl rfl ?_
              refine WL.r rfl rfl rfl (rd_pickt rfl rfl rfl) ?_
              refine WL.nil ?_
              refine WX.joinP (()) (sub_cons rfl (sub_cons rfl (sub_cons rfl (sub_nil _)))) (by refine (sub_cons ?_ (sub_nil _)) <;> ((refine slot_b rfl ?_; (try dsimp only); (simp [*]; done)))) ?_ (by (exact fun _ h => h))
              (try dsimp only)
              done
            · (try simp only [sB] at hg63)
              (refine WL.r rfl rfl rfl (rd_fa (q := 1) rfl rfl Tryz.underlying33 rfl (by kernel_rfl) rfl) ?_)
              (refine WL.r rfl rfl rfl (ldp rfl rfl .tc Tryz.underlying26 rfl (by kernel_rfl : _ = some 2) (by rfl) (by rfl)) ?_)
              refine WL.r rfl rfl rfl (rd_move rfl rfl) ?_
              refine WL.g rfl rfl rfl (og_call rfl rfl (by kernel_rfl) (keep_val fun w hS => rghas_c (g := k.g) (x := x) (by assumption))) ?_
              intro _
              refine WL.set 67 rfl (v' := .bool (decide (elG k.g x))) (congrArg Value.bool (by simp [hg])) ?_
              refine WL.r rfl rfl rfl (rd_not rfl rfl) ?_
              refine WL.r rfl rfl rfl (rd_pickf rfl rfl rfl) ?_
              refine WL.nil ?_
              refine WX.joinP (()) (sub_cons rfl (sub_cons rfl (sub_cons rfl (sub_nil _)))) (by refine (sub_cons ?_ (sub_nil _)) <;> ((refine slot_b rfl ?_; (try dsimp only); (simp [*]; done)))) ?_ (by (exact fun _ h => h))
              (try dsimp only)
              done
          · rintro _ hmeet; (try dsimp only at hmeet ⊢)
            refine WC.cond rfl (fun hc69 => ?_) (fun hc69 => ?_)
            · (try simp only [sB] at hc69)
              refine WC.sr ?_
              refine WL.r rfl rfl rfl (rd_assign rfl rfl) ?_
              refine WL.r rfl rfl rfl (rd_assign rfl rfl) ?_
              refine WL.r rfl rfl rfl (rd_assign rfl rfl) ?_
              refine WL.nt ?_
              refine WC.ret ?_
              refine WX.then_ret ?_
              exact WX.retN rfl (.tmp rfl (.tmp rfl (.tmp rfl .nil))) fun w' hS => ⟨by rw [unmS, if_neg (fun h => h hk4), if_neg (fun h => h hokz), if_neg (fun h => h hg), if_pos hc69]; rfl, hS.below⟩
            · (try simp only [sB] at hc69)
              have hel : elG k.g k.h ∧ elG k.g x := Decidable.not_not.1 hc69
              refine WC.skip ?_
              refine WX.then_normal ?_
              refine WC.seq ?_
              refine WC.sr ?_
              refine WL.r rfl rfl rfl (rd_move rfl rfl) ?_
              refine WL.r rfl rfl rfl (rd_len rfl rfl Tryz.underlying36) ?_
              refine WL.r rfl rfl rfl (rd_neq rfl rfl rfl) ?_
              refine WL.nt ?_
              refine WC.cond rfl (fun hc72 => ?_) (fun hc72 => ?_)
              · (try simp only [sB] at hc72)
                refine WC.sr ?_
                refine WL.r rfl rfl rfl (rd_assign rfl rfl) ?_
                refine WL.r rfl rfl rfl (rd_assign rfl rfl) ?_
                refine WL.r rfl rfl rfl (rd_assign rfl rfl) ?_
                refine WL.nt ?_
                refine WC.ret ?_
                refine WX.then_ret ?_
                exact WX.retN rfl (.tmp rfl (.tmp rfl (.tmp rfl .nil))) fun w' hS => ⟨by rw [unmS, if_neg (fun h => h hk4), if_neg (fun h => h hokz), if_neg (fun h => h hg), if_neg (fun h => h hel), if_pos (by omega)]; rfl, hS.below⟩
              · (try simp only [sB] at hc72)
                have hw2 : ws.length = 2 := by omega
                have hw0 : 0 < ws.length := by omega
                have hw1 : 1 < ws.length := by omega
                obtain ⟨z0, hz0⟩ : ∃ z, Keep (z = ws.getD 0 default) := ⟨_, rfl⟩
                refine WC.skip ?_
                refine WX.then_normal ?_
                refine WC.seq ?_
                refine WC.joinP (σ := Unit) [(1, _), (2, _), (3, _)] (fun gq => [(83, .bool (decide (z0.1 = true ∨ z0.2 = [])))]) (fun gq => True) (sub_cons rfl (sub_cons rfl (sub_cons rfl (sub_nil _)))) ?_ ?_
                · skip
                  refine WC.region ?_
                  refine WL.r rfl rfl rfl (rd_move rfl rfl) ?_
                  (refine WL.r rfl rfl rfl (iaf rfl rfl rfl Tryz.underlying36 (by kernel_rfl : _ = some 2) ?_ ?_ (by (try simp only [sN, Int.reduceToNat, Nat.reduceAdd, Nat.reduceMul, Nat.reduceSub]); rfl)) ?_; (focus (omega)); (focus ((rw [flatMap_len _ _ 2 (fun _ => rfl)]; omega))))
                  (refine WL.r rfl rfl rfl (faf rfl rfl Tryz.underlying41 rfl (by kernel_rfl) (by (try simp only [sN, Int.reduceToNat, Nat.reduceAdd, Nat.reduceMul, Nat.reduceSub]); rfl)) ?_)
                  refine WL.r rfl rfl rfl (ldmf (l := ws) (f := zc) (sz := 2) 0 0 rfl rfl Tryz.underlying4 rfl (fun _ => rfl) rfl hw0 (by decide) rfl) ?_
                  refine WL.set 76 rfl (v' := .bool (z0.1)) (congrArg Value.bool (by rw [show z0 = _ from hz0])) ?_
                  refine WL.r rfl rfl rfl (rd_move rfl rfl) ?_
                  refine WL.bool 77 rfl (fun hg77 => ?_) (fun hg77 => ?_)
                  · (try simp only [sB] at hg77)
                    refine WL.s rfl rfl rfl ?_
                    refine WL.s rfl rfl rfl ?_
                    refine WL.s rfl rfl rfl ?_
                    refine WL.s rfl rfl rfl ?_
                    refine WL.s rfl rfl rfl ?_
                    refine WL.r rfl rfl rfl (rd_pickt rfl rfl rfl) ?_
                    refine WL.nil ?_
                    refine WX.joinP (()) (sub_cons rfl (sub_cons rfl (sub_cons rfl (sub_nil _)))) (by refine (sub_cons ?_ (sub_nil _)) <;> ((refine slot_b rfl ?_; (try dsimp only); (simp [*]; done)))) ?_ (by (exact fun _ h => h))
                    (try dsimp only)
                    done
                  · (try simp only [sB] at hg77)
                    refine WL.r rfl rfl rfl (rd_move rfl rfl) ?_
                    (refine WL.r rfl rfl rfl (iaf rfl rfl rfl Tryz.underlying36 (by kernel_rfl : _ = some 2) ?_ ?_ (by (try simp only [sN, Int.reduceToNat, Nat.reduceAdd, Nat.reduceMul, Nat.reduceSub]); rfl)) ?_; (focus (omega)); (focus ((rw [flatMap_len _ _ 2 (fun _ => rfl)]; omega))))
                    (refine WL.r rfl rfl rfl (faf rfl rfl Tryz.underlying41 rfl (by kernel_rfl) (by (try simp only [sN, Int.reduceToNat, Nat.reduceAdd, Nat.reduceMul, Nat.reduceSub]); rfl)) ?_)
                    refine WL.r rfl rfl rfl (ldmf (l := ws) (f := zc) (sz := 2) 0 1 rfl rfl Tryz.underlying22 rfl (fun _ => rfl) rfl hw0 (by decide) rfl) ?_
                    refine WL.set 81 rfl (v' := .string (S (z0.2))) (congrArg (fun l => Value.string (S l)) (by rw [show z0 = _ from hz0])) ?_
                    refine WL.r rfl rfl rfl (rd_seq rfl rfl rfl) ?_
                    refine WL.r rfl rfl rfl (rd_pickf rfl rfl rfl) ?_
                    refine WL.nil ?_
                    refine WX.joinP (()) (sub_cons rfl (sub_cons rfl (sub_cons rfl (sub_nil _)))) (by refine (sub_cons ?_ (sub_nil _)) <;> ((refine slot_b rfl ?_; (try dsimp only); (simp [*]; done)))) ?_ (by (exact fun _ h => h))
                    (try dsimp only)
                    done
                · rintro _ hmeet; (try dsimp only at hmeet ⊢)
                  refine WC.cond rfl (fun hc83 => ?_) (fun hc83 => ?_)
                  · (try simp only [sB] at hc83)
                    rw [show z0 = _ from hz0] at hc83
                    refine WC.sr ?_
                    refine WL.r rfl rfl rfl (rd_assign rfl rfl) ?_
                    refine WL.r rfl rfl rfl (rd_assign rfl rfl) ?_
                    refine WL.r rfl rfl rfl (rd_assign rfl rfl) ?_
                    refine WL.nt ?_
                    refine WC.ret ?_
                    refine WX.then_ret ?_
                    exact WX.retN rfl (.tmp rfl (.tmp rfl (.tmp rfl .nil))) fun w' hS => ⟨by rw [unmS, if_neg (fun h => h hk4), if_neg (fun h => h hokz), if_neg (fun h => h hg), if_neg (fun h => h hel), if_neg (fun h => h hw2), if_pos hc83]; rfl, hS.below⟩
                  · (try simp only [sB] at hc83)
                    rw [show z0 = _ from hz0] at hc83
                    refine WC.skip ?_
                    refine WX.then_normal ?_
                    refine WC.seq ?_
                    refine WC.free0 [0, 1, 2, 3, 4, 5, 6, 7, 8, 10, 11, 9, 12] [] [0, 0, 0, 0, 0, 0, 1, 0, 0, 0, 3, 1, 0] (by kernel_rfl) (by kernel_rfl) rfl ?_
                    refine WJ.r rfl rfl rfl rfl rfl (rd_move rfl rfl) ?_
                    (refine WJ.r rfl rfl rfl rfl rfl (iaf rfl rfl rfl Tryz.underlying36 (by kernel_rfl : _ = some 2) ?_ ?_ (by (try simp only [sN, Int.reduceToNat, Nat.reduceAdd, Nat.reduceMul, Nat.reduceSub]); rfl)) ?_; (focus (omega)); (focus ((rw [flatMap_len _ _ 2 (fun _ => rfl)]; omega))))
                    refine WJ.r rfl rfl rfl rfl rfl (ldma (l := ws) (f := zc) (sz := 2) 1 rfl rfl Tryz.underlying41 rfl (by kernel_rfl : _ = some 2) (fun _ => rfl) (by decide) rfl hw1) ?_
                    refine WJ.r rfl rfl rfl rfl rfl (rd_move rfl rfl) ?_
                    (refine WJ.r rfl rfl rfl rfl rfl (iaf rfl rfl rfl Tryz.underlying36 (by kernel_rfl : _ = some 2) ?_ ?_ (by (try simp only [sN, Int.reduceToNat, Nat.reduceAdd, Nat.reduceMul, Nat.reduceSub]); rfl)) ?_; (focus (omega)); (focus ((rw [flatMap_len _ _ 2 (fun _ => rfl)]; omega))))
                    refine WJ.r rfl rfl rfl rfl rfl (ldma (l := ws) (f := zc) (sz := 2) 0 rfl rfl Tryz.underlying41 rfl (by kernel_rfl : _ = some 2) (fun _ => rfl) (by decide) rfl hw0) ?_
                    refine WJ.gv rfl rfl rfl rfl rfl (fun ext => og_call rfl rfl (by kernel_rfl) (keep_val fun w hS => rzdivide_c (x := ws.getD 1 default) (y := ws.getD 0 default))) ?_
                    refine WJ.r rfl rfl rfl rfl rfl (rd_move rfl rfl) ?_
                    refine WJ.r rfl rfl rfl rfl rfl (rd_extL rfl rfl rfl) ?_
                    refine WJ.f rfl rfl rfl rfl rfl (fr_alloc rfl (v := (.agg #[.bool false, .string (S [])])) (cs := [.bool false, .string (S [])]) (by kernel_rfl) rfl) ?_
                    intro b12
                    refine WJ.st rfl rfl rfl rfl (staJ rfl rfl rfl ?_ ?_ ?_) ?_
                    · kernel_rfl
                    · simp [Value.oneCell']
                    · rfl
                    refine WJ.r rfl rfl rfl rfl rfl (rd_extL rfl rfl rfl) ?_
                    refine WJ.r rfl rfl rfl rfl rfl (rd_assign rfl rfl) ?_
                    refine WJ.nil ?_
                    refine WL.nt ?_
                    refine WC.seq ?_
                    refine WC.sr ?_
                    refine WL.r rfl rfl rfl (rd_move rfl rfl) ?_
                    refine WL.r rfl rfl rfl (rd_neq rfl rfl rfl) ?_
                    refine WL.nt ?_
                    refine WC.cond rfl (fun hc95 => ?_) (fun hc95 => ?_)
                    · (try simp only [sB] at hc95)
                      have hr : unmS k x ws = (([], []), 17) := by rw [unmS, if_neg (fun h => h hk4), if_neg (fun h => h hokz), if_neg (fun h => h hg), if_neg (fun h => h hel), if_neg (fun h => h hw2), if_neg hc83, if_pos (by simpa using hc95)]
                      refine WC.sr ?_
                      refine WL.r rfl rfl rfl (rd_assign rfl rfl) ?_
                      refine WL.r rfl rfl rfl (rd_assign rfl rfl) ?_
                      refine WL.r rfl rfl rfl (rd_assign rfl rfl) ?_
                      refine WL.nt ?_
                      refine WC.ret ?_
                      refine WX.then_ret ?_
                      exact WX.retN rfl (.tmp rfl (.tmp rfl (.tmp rfl .nil))) fun w' hS => ⟨by rw [hr]; rfl, hS.below⟩
                    · (try simp only [sB] at hc95)
                      have hr : unmS k x ws = (((prodS k.g [x, k.h] [ofZ 1, negZ (divZ (ws.getD 1 default) (ws.getD 0 default)).1]).1, (ws.getD 0 default).2), 0) := by rw [unmS, if_neg (fun h => h hk4), if_neg (fun h => h hokz), if_neg (fun h => h hg), if_neg (fun h => h hel), if_neg (fun h => h hw2), if_neg hc83, if_neg (by simpa using hc95)]
                      refine WC.skip ?_
                      refine WX.then_normal ?_
                      refine WC.seq ?_
                      refine WC.free0 [6, 7, 8, 0, 1, 2, 3, 4, 5, 9, 10, 11, 12, 13, 14, 15] [] [0, 0, 0, 0, 0, 3, 1, 0, 1, 3, 1, 0, 0, 0, 0, 0] (by kernel_rfl) (by kernel_rfl) rfl ?_
                      refine WJ.gv rfl rfl rfl rfl rfl (fun ext => og_call rfl rfl (by kernel_rfl) (keep_val fun w hS => rzof_c (n := 1) (by omega) (by omega))) ?_
                      refine WJ.r rfl rfl rfl rfl rfl (lda rfl rfl .tc Tryz.underlying41 rfl ?_) ?_
                      · kernel_rfl
                      refine WJ.gv rfl rfl rfl rfl rfl (fun ext => og_call rfl rfl (by kernel_rfl) (keep_val fun w hS => rzneg_c (x := (divZ (ws.getD 1 default) (ws.getD 0 default)).1))) ?_
                      (refine WJ.r rfl rfl rfl rfl rfl (rd_fa (q := 1) rfl rfl Tryz.underlying33 rfl (by kernel_rfl) rfl) ?_)
                      (refine WJ.r rfl rfl rfl rfl rfl (ldp rfl rfl .tc Tryz.underlying26 rfl (by kernel_rfl : _ = some 2) (by rfl) (by rfl)) ?_)
                      refine WJ.r rfl rfl rfl rfl rfl (rd_move rfl rfl) ?_
                      (refine WJ.r rfl rfl rfl rfl rfl (rd_fa (q := 7) rfl rfl Tryz.underlying33 rfl (by kernel_rfl) rfl) ?_)
                      (refine WJ.r rfl rfl rfl rfl rfl (ld rfl rfl .tc Tryz.underlying22 rfl (by rfl)) ?_)
                      refine WJ.f rfl rfl rfl rfl rfl (fr_bs1 rfl rfl Tryz.underlying31 (by kernel_rfl : _ = some (some (.string (S [])), 1, 16)) rfl (by simp only [List.map]; rfl) rfl rfl ?_ (by decide)) ?_
                      · simp [Value.cells]
                      intro b102
                      refine WJ.f rfl rfl rfl rfl rfl (fr_bsN rfl rfl Tryz.underlying36 (by kernel_rfl : _ = some (some (.agg #[.bool false, .string (S [])]), 2, 24)) (by kernel_rfl) (by decide) rfl rfl (by (simp [Value.cells]; done)) (by (simp only [List.map, Value.cells, List.flatMap_cons, List.flatMap_nil, List.append_nil, List.toList_toArray]; rfl)) (by decide)) ?_
                      intro b106
                      refine WJ.gv rfl rfl rfl rfl rfl (fun ext => og_call rfl rfl (by kernel_rfl) (keep_val fun w hS => rproduct_c (g := k.g) (l := [x, k.h]) (es := [ofZ 1, negZ (divZ (ws.getD 1 default) (ws.getD 0 default)).1]) (by (exact hS.os)) (by (exact hS.os)) (by (simp <;> omega)) (by (simp <;> omega)) (by assumption))) ?_
                      refine WJ.r rfl rfl rfl rfl rfl (rd_move rfl rfl) ?_
                      refine WJ.r rfl rfl rfl rfl rfl (rd_extL rfl rfl rfl) ?_
                      refine WJ.r rfl rfl rfl rfl rfl (rd_extL rfl rfl rfl) ?_
                      refine WJ.r rfl rfl rfl rfl rfl (rd_assign rfl rfl) ?_
                      refine WJ.r rfl rfl rfl rfl rfl (rd_assign rfl rfl) ?_
                      refine WJ.nil ?_
                      refine WL.nt ?_
                      refine WC.seq ?_
                      refine WC.free0 [0, 1, 2, 3, 4, 5, 6, 7] [] [0, 0, 0, 0, 0, 0, 0, 0] (by kernel_rfl) (by kernel_rfl) rfl ?_
                      refine WJ.r rfl rfl rfl rfl rfl (rd_move rfl rfl) ?_
                      refine WJ.r rfl rfl rfl rfl rfl (rd_move rfl rfl) ?_
                      (refine WJ.r rfl rfl rfl rfl rfl (iaf rfl rfl rfl Tryz.underlying36 (by kernel_rfl : _ = some 2) ?_ ?_ (by (try simp only [sN, Int.reduceToNat, Nat.reduceAdd, Nat.reduceMul, Nat.reduceSub]); rfl)) ?_; (focus (omega)); (focus ((rw [flatMap_len _ _ 2 (fun _ => rfl)]; omega))))
                      (refine WJ.r rfl rfl rfl rfl rfl (faf rfl rfl Tryz.underlying41 rfl (by kernel_rfl) (by (try simp only [sN, Int.reduceToNat, Nat.reduceAdd, Nat.reduceMul, Nat.reduceSub]); rfl)) ?_)
                      refine WJ.r rfl rfl rfl rfl rfl (ldmf (l := ws) (f := zc) (sz := 2) 0 1 rfl rfl Tryz.underlying22 rfl (fun _ => rfl) rfl hw0 (by decide) rfl) ?_
                      refine WJ.r rfl rfl rfl rfl rfl (rd_assign rfl rfl) ?_
                      refine WJ.r rfl rfl rfl rfl rfl (rd_assign rfl rfl) ?_
                      refine WJ.r rfl rfl rfl rfl rfl (rd_assign rfl rfl) ?_
                      refine WJ.nil ?_
                      refine WL.nt ?_
                      refine WC.ret ?_
                      exact WX.retN rfl (.tmp rfl (.tmp rfl (.tmp rfl .nil))) fun w' hS => ⟨by rw [hr]; rfl, hS.below⟩
theorem same_c {x y : List Zs} {a b : Option Addr} {c d : Nat} {w : World} {ok : Nat → Prop} (hF1 : (Fact.sl a (ints x)).holds ok w) (hF2 : (Fact.sl b (ints y)).holds ok w) (hx : x.length ≤ 100000) :
    Calls Tryz.prog 10 #[.slice a x.length c, .slice b y.length d] w fun e w' => e = .returned (.bool (decide (x = y))) ∧ Below w.heap.size w w' := by
  refine enter (S := St (fun _ => True) w [] ([Fact.sl a (ints x), Fact.sl b (ints y)])) (L := [(0, .slice a x.length c), (1, .slice b y.length d)]) Tryz.func10 rfl Tryz.ntmps10 rfl (args_cons rfl (args_cons rfl (args_nil _))) (St.start (fun _ _ => trivial) (facts_cons (fact_any hF1) (facts_cons (fact_any hF2) facts_nil))) ?_
  refine WC.sr ?_
  refine WL.r rfl rfl rfl (rd_assign rfl rfl) ?_
  refine WL.nt ?_
  refine WC.seq ?_
  refine WC.sr ?_
  refine WL.r rfl rfl rfl (rd_move rfl rfl) ?_
  refine WL.r rfl rfl rfl (rd_len rfl rfl Tryz.underlying36) ?_
  refine WL.r rfl rfl rfl (rd_move rfl rfl) ?_
  refine WL.r rfl rfl rfl (rd_len rfl rfl Tryz.underlying36) ?_
  refine WL.r rfl rfl rfl (rd_neq rfl rfl rfl) ?_
  refine WL.nt ?_
  refine WC.cond rfl (fun hc10 => ?_) (fun hc10 => ?_)
  · (try simp only [sB] at hc10)
    have hne : ¬ x = y := fun h => by rw [h] at hc10; omega
    refine WC.sr ?_
    refine WL.r rfl rfl rfl (rd_assign rfl rfl) ?_
    refine WL.nt ?_
    refine WC.ret ?_
    refine WX.then_ret ?_
    exact WX.retN rfl (.tmp rfl .nil) fun w' hS => ⟨by rw [decide_eq_false hne]; rfl, hS.below⟩
  · (try simp only [sB] at hc10)
    have hle : x.length = y.length := by omega
    refine WC.skip ?_
    refine WX.then_normal ?_
    refine WC.seq ?_
    refine WC.sr ?_
    refine WL.r rfl rfl rfl (rd_assign rfl rfl) ?_
    refine WL.nt ?_
    refine WC.block ?_
    refine WC.loopP (σ := Nat) [(0, _), (1, _)] (fun gq => [(5, .int .i64 (gq : Int))]) (fun gq => gq ≤ x.length ∧ x.take gq = y.take gq) (fun gq => x.length - gq) (0) (sub_cons rfl (sub_cons rfl (sub_nil _))) (sub_cons rfl (sub_nil _)) (by (try dsimp only); exact ⟨Nat.zero_le _, by simp⟩) ?_
    rintro i hinv1; (try dsimp only at hinv1 ⊢)
    obtain ⟨hi, ht⟩ := hinv1
    refine WC.seq ?_
    refine WC.sr ?_
    refine WL.r rfl rfl rfl (rd_move rfl rfl) ?_
    refine WL.r rfl rfl rfl (rd_move rfl rfl) ?_
    refine WL.r rfl rfl rfl (rd_len rfl rfl Tryz.underlying36) ?_
    refine WL.r rfl rfl rfl (rd_lss rfl rfl rfl) ?_
    refine WL.nt ?_
    refine WC.cond rfl (fun hc14 => ?_) (fun hc14 => ?_)
    · (try simp only [sB] at hc14)
      have hil : i < x.length := by omega
      have hiy : i < y.length := by omega
      have hyt : ∀ l : List Zs, i < l.length → l.take (i + 1) = l.take i ++ [l.getD i default] := fun l h => by
        rw [List.take_add_one, List.getElem?_eq_getElem h, List.getD_eq_getElem?_getD, List.getElem?_eq_getElem h]; rfl
      refine WC.skip ?_
      refine WX.then_normal ?_
      refine WC.seq ?_
      refine WC.block ?_
      refine WC.seq ?_
      refine WC.free0 [0, 1, 2, 3, 4, 5, 6, 7, 8] [] [0, 0, 0, 0, 0, 0, 0, 0, 0] (by kernel_rfl) (by kernel_rfl) rfl ?_
      refine WJ.r rfl rfl rfl rfl rfl (rd_move rfl rfl) ?_
      refine WJ.r rfl rfl rfl rfl rfl (rd_move rfl rfl) ?_
      (refine WJ.r rfl rfl rfl rfl rfl (iaf rfl rfl rfl Tryz.underlying36 (by kernel_rfl : _ = some 2) ?_ ?_ (by (try simp only [sN, Int.reduceToNat, Nat.reduceAdd, Nat.reduceMul, Nat.reduceSub]); rfl)) ?_; (focus (omega)); (focus ((rw [flatMap_len _ _ 2 (fun _ => rfl)]; omega))))
      (refine WJ.r rfl rfl rfl rfl rfl (ldma _ rfl rfl Tryz.underlying41 rfl (by kernel_rfl : _ = some 2) (fun _ => rfl) (by decide) rfl ?_) ?_; (focus (assumption)))
      refine WJ.r rfl rfl rfl rfl rfl (rd_move rfl rfl) ?_
      refine WJ.r rfl rfl rfl rfl rfl (rd_move rfl rfl) ?_
      (refine WJ.r rfl rfl rfl rfl rfl (iaf rfl rfl rfl Tryz.underlying36 (by kernel_rfl : _ = some 2) ?_ ?_ (by (try simp only [sN, Int.reduceToNat, Nat.reduceAdd, Nat.reduceMul, Nat.reduceSub]); rfl)) ?_; (focus (omega)); (focus ((rw [flatMap_len _ _ 2 (fun _ => rfl)]; omega))))
      (refine WJ.r rfl rfl rfl rfl rfl (ldma _ rfl rfl Tryz.underlying41 rfl (by kernel_rfl : _ = some 2) (fun _ => rfl) (by decide) rfl ?_) ?_; (focus (assumption)))
      refine WJ.r rfl rfl rfl rfl rfl (rd_neA rfl rfl rfl (by kernel_rfl) (fun w => eql_api_Int _ _ _ _ w)) ?_
      refine WJ.nil ?_
      refine WL.nt ?_
      refine WC.cond rfl (fun hc25 => ?_) (fun hc25 => ?_)
      · (try simp only [sB] at hc25)
        have hne : ¬ x = y := fun h => by rw [h] at hc25; simp at hc25
        refine WC.sr ?_
        refine WL.r rfl rfl rfl (rd_assign rfl rfl) ?_
        refine WL.nt ?_
        refine WC.ret ?_
        refine WX.block_ret ?_
        refine WX.then_ret ?_
        refine WX.then_ret ?_
        refine WX.block_ret ?_
        refine WX.then_ret ?_
        exact WX.retN rfl (.tmp rfl .nil) fun w' hS => ⟨by rw [decide_eq_false hne]; rfl, hS.below⟩
      · (try simp only [sB] at hc25)
        refine WC.skip ?_
        refine WX.block_normal ?_
        refine WX.then_normal ?_
        refine WC.region ?_
        refine WL.r rfl rfl rfl (rd_move rfl rfl) ?_
        (refine WL.r rfl rfl rfl (rd_add64nl rfl rfl rfl ?_) ?_; (focus (omega)))
        refine WL.r rfl rfl rfl (rd_assign rfl rfl) ?_
        refine WL.nil ?_
        refine WX.loopP (i + 1) (by (try dsimp only); omega) (sub_cons rfl (sub_cons rfl (sub_nil _))) (by refine (sub_cons ?_ (sub_nil _)) <;> (rfl)) ?_ (by (exact fun _ h => h))
        (try dsimp only)
        exact ⟨hil, by
          rw [hyt x hil, hyt y hiy, ht]; congr 2; exact Prod.ext_iff.2 (by simpa using hc25)⟩
    · (try simp only [sB] at hc14)
      refine WC.exit ?_
      refine WX.then_exit ?_
      refine WX.then_exit ?_
      refine WX.block_exit ?_
      obtain rfl : i = x.length := by omega
      have heq : x = y := by rw [List.take_length, hle, List.take_length] at ht; exact ht
      refine WX.then_normal ?_
      refine WC.sr ?_
      refine WL.r rfl rfl rfl (rd_assign rfl rfl) ?_
      refine WL.nt ?_
      refine WC.ret ?_
      exact WX.retN rfl (.tmp rfl .nil) fun w' hS => ⟨by rw [decide_eq_true heq]; rfl, hS.below⟩
end Go.Proofs.YtbcnnkcddilfjaaGreat

/-
  The law of Witness and Unmask.
-/
namespace Go.Proofs.YtbcnnkcddilfjaaGreat
set_option linter.unusedSimpArgs false
set_option linter.unusedVariables false
set_option maxRecDepth 20000
set_option maxHeartbeats 600000
open Go.RowKit

def shortP (n : Int) (l : List Bs) : Prop := ∀ x ∈ l, (x.length : Int) ≤ n
instance (n : Int) (l : List Bs) : Decidable (shortP n l) := inferInstanceAs (Decidable (∀ x ∈ l, _))
theorem short30_c {n : Int} {l : List Bs} {a : Option Addr} {c : Nat} {w : World} {ok : Nat → Prop} (hF1 : (Fact.sl a (strs l)).holds ok w) (hl : l.length ≤ 140737488351232) :
    Calls Tryz.prog 11 #[.int .i64 n, .slice a l.length c] w fun e w' => e = .returned (.bool (decide (shortP n l))) ∧ Below w.heap.size w w' := by
  refine enter (S := St (fun _ => True) w [] ([Fact.sl a (strs l)])) (L := [(0, .int .i64 n), (1, .slice a l.length c)]) Tryz.func11 rfl Tryz.ntmps11 rfl (args_cons rfl (args_cons rfl (args_nil _))) (St.start (fun _ _ => trivial) (facts_cons (fact_any hF1) facts_nil)) ?_
  refine WC.sr ?_
  refine WL.r rfl rfl rfl (rd_assign rfl rfl) ?_
  refine WL.nt ?_
  refine WC.seq ?_
  refine WC.sr ?_
  refine WL.r rfl rfl rfl (rd_assign rfl rfl) ?_
  refine WL.nt ?_
  refine WC.block ?_
  refine WC.loopP (σ := Nat) [(0, _), (1, _)] (fun gq => [(5, .int .i64 (gq : Int))]) (fun gq => gq ≤ l.length ∧ ∀ x ∈ l.take gq, (x.length : Int) ≤ n) (fun gq => l.length - gq) (0) (sub_cons rfl (sub_cons rfl (sub_nil _))) (sub_cons rfl (sub_nil _)) (by (try dsimp only); exact ⟨Nat.zero_le _, by simp⟩) ?_
  rintro i hinv1; (try dsimp only at hinv1 ⊢)
  obtain ⟨hi, hok⟩ := hinv1
  refine WC.seq ?_
  refine WC.sr ?_
  refine WL.r rfl rfl rfl (rd_move rfl rfl) ?_
  refine WL.r rfl rfl rfl (rd_move rfl rfl) ?_
  refine WL.r rfl rfl rfl (rd_len rfl rfl Tryz.underlying31) ?_
  refine WL.r rfl rfl rfl (rd_lss rfl rfl rfl) ?_
  refine WL.nt ?_
  refine WC.cond rfl (fun hc9 => ?_) (fun hc9 => ?_)
  · (try simp only [sB] at hc9)
    have hil : i < l.length := by omega
    obtain ⟨y, hy⟩ : ∃ y, Keep (y = l.getD i default) := ⟨_, rfl⟩
    refine WC.skip ?_
    refine WX.then_normal ?_
    refine WC.seq ?_
    refine WC.block ?_
    refine WC.sr ?_
    refine WL.r rfl rfl rfl (rd_move rfl rfl) ?_
    refine WL.r rfl rfl rfl (rd_move rfl rfl) ?_
    (refine WL.r rfl rfl rfl (iaf rfl rfl rfl Tryz.underlying31 (by kernel_rfl : _ = some 1) ?_ ?_ (by (try simp only [sN, Int.reduceToNat, Nat.reduceAdd, Nat.reduceMul, Nat.reduceSub]); rfl)) ?_; (focus (omega)); (focus ((rw [List.length_map]; omega))))
    (refine WL.r rfl rfl rfl (ldm rfl rfl Tryz.underlying22 rfl ?_) ?_; (focus (assumption)))
    refine WL.set 15 rfl (v' := .string (S (y))) (congrArg (fun l => Value.string (S l)) (by rw [show y = _ from hy])) ?_
    refine WL.r rfl rfl rfl (rd_slen rfl rfl Tryz.underlying22) ?_
    refine WL.r rfl rfl rfl (rd_move rfl rfl) ?_
    refine WL.r rfl rfl rfl (rd_gtr rfl rfl rfl) ?_
    refine WL.nt ?_
    refine WC.cond rfl (fun hc18 => ?_) (fun hc18 => ?_)
    · (try simp only [sB] at hc18)
      have hn : ¬ shortP n l := fun h => by have := h _ (getD_mem l i hil); rw [← show y = _ from hy] at this; omega
      refine WC.sr ?_
      refine WL.r rfl rfl rfl (rd_assign rfl rfl) ?_
      refine WL.nt ?_
      refine WC.ret ?_
      refine WX.block_ret ?_
      refine WX.then_ret ?_
      refine WX.then_ret ?_
      refine WX.block_ret ?_
      refine WX.then_ret ?_
      exact WX.retN rfl (.tmp rfl .nil) fun w' hS => ⟨by rw [decide_eq_false hn]; rfl, hS.below⟩
    · (try simp only [sB] at hc18)
      refine WC.skip ?_
      refine WX.block_normal ?_
      refine WX.then_normal ?_
      refine WC.region ?_
      refine WL.r rfl rfl rfl (rd_move rfl rfl) ?_
      (refine WL.r rfl rfl rfl (rd_add64nl rfl rfl rfl ?_) ?_; (focus (omega)))
      refine WL.r rfl rfl rfl (rd_assign rfl rfl) ?_
      refine WL.nil ?_
      refine WX.loopP (i + 1) (by (try dsimp only); omega) (sub_cons rfl (sub_cons rfl (sub_nil _))) (by refine (sub_cons ?_ (sub_nil _)) <;> (rfl)) ?_ (by (exact fun _ h => h))
      (try dsimp only)
      exact ⟨hil, all_take hil hok (by rw [← show y = _ from hy]; omega)⟩
  · (try simp only [sB] at hc9)
    refine WC.exit ?_
    refine WX.then_exit ?_
    refine WX.then_exit ?_
    refine WX.block_exit ?_
    obtain rfl : i = l.length := by omega
    rw [List.take_length] at hok
    refine WX.then_normal ?_
    refine WC.sr ?_
    refine WL.r rfl rfl rfl (rd_assign rfl rfl) ?_
    refine WL.nt ?_
    refine WC.ret ?_
    exact WX.retN rfl (.tmp rfl .nil) fun w' hS => ⟨by rw [decide_eq_true (show shortP n l from hok)]; rfl, hS.below⟩
def fewK (k : IK) : Prop := shortP 8 [k.g.1, k.g.2] ∧ shortP 9 [k.z, k.s, k.u, k.h] ∧ (k.r.length : Int) ≤ 6 ∧ shortP 9 k.r ∧ (k.name.length : Int) ≤ 60
instance (k : IK) : Decidable (fewK k) := inferInstanceAs (Decidable (_ ∧ _))
theorem fewkey_c {k : IK} {a : Option Addr} {c : Nat} {w : World} {ok : Nat → Prop} (hF1 : (Fact.sl a (strs k.r)).holds ok w) (hl : k.r.length ≤ 140737488351232) :
    Calls Tryz.prog 4 #[ikV k (.slice a k.r.length c)] w fun e w' => e = .returned (.bool (decide (fewK k))) ∧ Below w.heap.size w w' := by
  refine enter (S := St (fun _ => True) w [] ([Fact.sl a (strs k.r)])) (L := [(0, ikV k (.slice a k.r.length c))]) Tryz.func4 rfl Tryz.ntmps4 rfl (args_cons rfl (args_nil _)) (St.start (fun _ _ => trivial) (facts_cons (fact_any hF1) facts_nil)) ?_
  refine WC.sr ?_
  refine WL.g rfl rfl rfl (og_box rfl rfl (by (exact cells_agg _))) ?_
  intro b1
  refine WL.r rfl rfl rfl (rd_assign rfl rfl) ?_
  refine WL.nt ?_
  refine WC.sr ?_
  (refine WL.r rfl rfl rfl (rd_fa (q := 1) rfl rfl Tryz.underlying33 rfl (by kernel_rfl) rfl) ?_)
  (refine WL.r rfl rfl rfl (rd_fa (q := 1) rfl rfl Tryz.underlying26 rfl (by kernel_rfl) rfl) ?_)
  (refine WL.r rfl rfl rfl (ld rfl rfl .tc Tryz.underlying22 rfl (by rfl)) ?_)
  (refine WL.r rfl rfl rfl (rd_fa (q := 1) rfl rfl Tryz.underlying33 rfl (by kernel_rfl) rfl) ?_)
  (refine WL.r rfl rfl rfl (rd_fa (q := 2) rfl rfl Tryz.underlying26 rfl (by kernel_rfl) rfl) ?_)
  (refine WL.r rfl rfl rfl (ld rfl rfl .tc Tryz.underlying22 rfl (by rfl)) ?_)
  refine WL.g rfl rfl rfl (og_bs1 rfl rfl Tryz.underlying31 (by kernel_rfl : _ = some (some (.string (S [])), 1, 16)) rfl (by simp only [List.map]; rfl) rfl rfl ?_ (by decide)) ?_
  · simp [Value.cells]
  intro b9
  refine WL.g rfl rfl rfl (og_call rfl rfl (by kernel_rfl) (keep_val fun w hS => short30_c (n := 8) (l := [k.g.1, k.g.2]) (by (exact hS.os)) (by (simp <;> omega)))) ?_
  intro _
  refine WL.r rfl rfl rfl (rd_move rfl rfl) ?_
  refine WL.bool 11 rfl (fun hg11 => ?_) (fun hg11 => ?_)
  · (try simp only [sB] at hg11)
    (refine WL.r rfl rfl rfl (rd_fa (q := 3) rfl rfl Tryz.underlying33 rfl (by kernel_rfl) rfl) ?_)
    (refine WL.r rfl rfl rfl (ld rfl rfl .tc Tryz.underlying22 rfl (by rfl)) ?_)
    (refine WL.r rfl rfl rfl (rd_fa (q := 4) rfl rfl Tryz.underlying33 rfl (by kernel_rfl) rfl) ?_)
    (refine WL.r rfl rfl rfl (ld rfl rfl .tc Tryz.underlying22 rfl (by rfl)) ?_)
    (refine WL.r rfl rfl rfl (rd_fa (q := 6) rfl rfl Tryz.underlying33 rfl (by kernel_rfl) rfl) ?_)
    (refine WL.r rfl rfl rfl (ld rfl rfl .tc Tryz.underlying22 rfl (by rfl)) ?_)
    (refine WL.r rfl rfl rfl (rd_fa (q := 7) rfl rfl Tryz.underlying33 rfl (by kernel_rfl) rfl) ?_)
    (refine WL.r rfl rfl rfl (ld rfl rfl .tc Tryz.underlying22 rfl (by rfl)) ?_)
    refine WL.g rfl rfl rfl (og_bs1 rfl rfl Tryz.underlying31 (by kernel_rfl : _ = some (some (.string (S [])), 1, 16)) rfl (by simp only [List.map]; rfl) rfl rfl ?_ (by decide)) ?_
    · simp [Value.cells]
    intro b20
    refine WL.g rfl rfl rfl (og_call rfl rfl (by kernel_rfl) (keep_val fun w hS => short30_c (n := 9) (l := [k.z, k.s, k.u, k.h]) (by (exact hS.os)) (by (simp <;> omega)))) ?_
    intro _
    refine WL.r rfl rfl rfl (rd_pickt rfl rfl rfl) ?_
    refine WL.r rfl rfl rfl (rd_move rfl rfl) ?_
    refine WL.bool 23 rfl (fun hg23 => ?_) (fun hg23 => ?_)
    · (try simp only [sB] at hg23)
      (refine WL.r rfl rfl rfl (rd_fa (q := 5) rfl rfl Tryz.underlying33 rfl (by kernel_rfl) rfl) ?_)
      (refine WL.r rfl rfl rfl (ld rfl rfl .tc Tryz.underlying31 rfl (by rfl)) ?_)
      refine WL.r rfl rfl rfl (rd_len rfl rfl Tryz.underlying31) ?_
      refine WL.r rfl rfl rfl (rd_leq rfl rfl rfl) ?_
      refine WL.r rfl rfl rfl (rd_pickt rfl rfl rfl) ?_
      refine WL.r rfl rfl rfl (rd_move rfl rfl) ?_
      refine WL.bool 29 rfl (fun hg29 => ?_) (fun hg29 => ?_)
      · (try simp only [sB] at hg29)
        (refine WL.r rfl rfl rfl (rd_fa (q := 5) rfl rfl Tryz.underlying33 rfl (by kernel_rfl) rfl) ?_)
        (refine WL.r rfl rfl rfl (ld rfl rfl .tc Tryz.underlying31 rfl (by rfl)) ?_)
        refine WL.g rfl rfl rfl (og_call rfl rfl (by kernel_rfl) (keep_val fun w hS => short30_c (n := 9) (l := k.r) (by (exact hS.sl)) (by assumption))) ?_
        intro _
        refine WL.r rfl rfl rfl (rd_pickt rfl rfl rfl) ?_
        refine WL.r rfl rfl rfl (rd_move rfl rfl) ?_
        refine WL.bool 34 rfl (fun hg34 => ?_) (fun hg34 => ?_)
        · (try simp only [sB] at hg34)
          (refine WL.r rfl rfl rfl (rd_fa (q := 0) rfl rfl Tryz.underlying33 rfl (by kernel_rfl) rfl) ?_)
          (refine WL.r rfl rfl rfl (ld rfl rfl .tc Tryz.underlying9 rfl (by rfl)) ?_)
          refine WL.r rfl rfl rfl (rd_slen rfl rfl Tryz.underlying9) ?_
          refine WL.r rfl rfl rfl (rd_leq rfl rfl rfl) ?_
          refine WL.r rfl rfl rfl (rd_pickt rfl rfl rfl) ?_
          refine WL.r rfl rfl rfl (rd_assign rfl rfl) ?_
          refine WL.nt ?_
          refine WC.ret ?_
          exact WX.retN rfl (.tmp rfl .nil) fun w' hS => ⟨by (simp [*, tup, fewK]; done), hS.below⟩
        · (try simp only [sB] at hg34)
          refine WL.s rfl rfl rfl ?_
          refine WL.s rfl rfl rfl ?_
          refine WL.s rfl rfl rfl ?_
          refine WL.s rfl rfl rfl ?_
          refine WL.r rfl rfl rfl (rd_pickf rfl rfl rfl) ?_
          refine WL.r rfl rfl rfl (rd_assign rfl rfl) ?_
          refine WL.nt ?_
          refine WC.ret ?_
          exact WX.retN rfl (.tmp rfl .nil) fun w' hS => ⟨by (simp [*, tup, fewK]; done), hS.below⟩
      · (try simp only [sB] at hg29)
        refine WL.s rfl rfl rfl ?_
        refine WL.s rfl rfl rfl ?_
        refine WL.s rfl rfl rfl ?_
        refine WL.r rfl rfl rfl (rd_pickf rfl rfl rfl) ?_
        refine WL.r rfl rfl rfl (rd_move rfl rfl) ?_
        refine WL.s rfl rfl rfl ?_
        refine WL.s rfl rfl rfl ?_
        refine WL.s rfl rfl rfl ?_
        refine WL.s rfl rfl rfl ?_
        refine WL.r rfl rfl rfl (rd_pickf rfl rfl rfl) ?_
        refine WL.r rfl rfl rfl (rd_assign rfl rfl) ?_
        refine WL.nt ?_
        refine WC.ret ?_
        exact WX.retN rfl (.tmp rfl .nil) fun w' hS => ⟨by (simp [*, tup, fewK]; intros; omega), hS.below⟩
    · (try simp only [sB] at hg23)
      refine WL.s rfl rfl rfl ?_
      refine WL.s rfl rfl rfl ?_
      refine WL.s rfl rfl rfl ?_
      refine WL.s rfl rfl rfl ?_
      refine WL.r rfl rfl rfl (rd_pickf rfl rfl rfl) ?_
      refine WL.r rfl rfl rfl (rd_move rfl rfl) ?_
      refine WL.s rfl rfl rfl ?_
      refine WL.s rfl rfl rfl ?_
      refine WL.s rfl rfl rfl ?_
      refine WL.r rfl rfl rfl (rd_pickf rfl rfl rfl) ?_
      refine WL.r rfl rfl rfl (rd_move rfl rfl) ?_
      refine WL.s rfl rfl rfl ?_
      refine WL.s rfl rfl rfl ?_
      refine WL.s rfl rfl rfl ?_
      refine WL.s rfl rfl rfl ?_
      refine WL.r rfl rfl rfl (rd_pickf rfl rfl rfl) ?_
      refine WL.r rfl rfl rfl (rd_assign rfl rfl) ?_
      refine WL.nt ?_
      refine WC.ret ?_
      exact WX.retN rfl (.tmp rfl .nil) fun w' hS => ⟨by (simp [*, tup, fewK]; done), hS.below⟩
  · (try simp only [sB] at hg11)
    refine WL.s rfl rfl rfl ?_
    refine WL.s rfl rfl rfl ?_
    refine WL.s rfl rfl rfl ?_
    refine WL.s rfl rfl rfl ?_
    refine WL.s rfl rfl rfl ?_
    refine WL.s rfl rfl rfl ?_
    refine WL.s rfl rfl rfl ?_
    refine WL.s rfl rfl rfl ?_
    refine WL.s rfl rfl rfl ?_
    refine WL.s rfl rfl rfl ?_
    refine WL.r rfl rfl rfl (rd_pickf rfl rfl rfl) ?_
    refine WL.r rfl rfl rfl (rd_move rfl rfl) ?_
    refine WL.s rfl rfl rfl ?_
    refine WL.s rfl rfl rfl ?_
    refine WL.s rfl rfl rfl ?_
    refine WL.s rfl rfl rfl ?_
    refine WL.r rfl rfl rfl (rd_pickf rfl rfl rfl) ?_
    refine WL.r rfl rfl rfl (rd_move rfl rfl) ?_
    refine WL.s rfl rfl rfl ?_
    refine WL.s rfl rfl rfl ?_
    refine WL.s rfl rfl rfl ?_
    refine WL.r rfl rfl rfl (rd_pickf rfl rfl rfl) ?_
    refine WL.r rfl rfl rfl (rd_move rfl rfl) ?_
    refine WL.s rfl rfl rfl ?_
    refine WL.s rfl rfl rfl ?_
    refine WL.s rfl rfl rfl ?_
    refine WL.s rfl rfl rfl ?_
    refine WL.r rfl rfl rfl (rd_pickf rfl rfl rfl) ?_
    refine WL.r rfl rfl rfl (rd_assign rfl rfl) ?_
    refine WL.nt ?_
    refine WC.ret ?_
    exact WX.retN rfl (.tmp rfl .nil) fun w' hS => ⟨by (simp [*, tup, fewK]; done), hS.below⟩
theorem ints_c {l : List Int} {a : Option Addr} {c : Nat} {w : World} {ok : Nat → Prop} (hF1 : (Fact.sl a (l.map fun n => .int .i64 n)).holds ok w) (hl : l.length ≤ 1000) (hr : ∀ n ∈ l, -9223372036854775808 ≤ n ∧ n ≤ 9223372036854775807) :
    Calls Tryz.prog 14 #[.slice a l.length c] w fun e w' => ∃ gx : Rs, e = .returned (gx.val l.length) ∧ (True) ∧ Below w.heap.size w w' ∧ ∀ x ∈ ([Fact.sl gx.a (ints (l.map ofZ))] : List Fact), x.holds (fun b => ok b ∨ w.heap.size ≤ b) w' := by
  refine enter (S := St (fun b => ok b ∨ w.heap.size ≤ b) w [] ([Fact.sl a (l.map fun n => .int .i64 n)])) (L := [(0, .slice a l.length c)]) Tryz.func14 rfl Tryz.ntmps14 rfl (args_cons rfl (args_nil _)) (St.start (fun _ h => Or.inr h) (facts_or (facts_cons hF1 facts_nil))) ?_
  refine WC.sr ?_
  refine WL.r rfl rfl rfl (rd_assign rfl rfl) ?_
  refine WL.nt ?_
  refine WC.sr ?_
  refine WL.r rfl rfl rfl (rd_assign rfl rfl) ?_
  refine WL.nt ?_
  refine WC.seq ?_
  refine WC.sr ?_
  refine WL.r rfl rfl rfl (rd_assign rfl rfl) ?_
  refine WL.nt ?_
  refine WC.block ?_
  refine WC.loopO (σ := Nat × (Option Nat) × Nat × (List Value)) [(0, _)] (fun gq => [(3, .slice (gq.2.1.map fun b => ⟨b, 0, none⟩) gq.1 gq.2.2.1), (4, .int .i64 (gq.1 : Int))]) (fun gq => gq.1 ≤ l.length ∧ gq.2.2.1 * 2 = gq.1 * 2 + gq.2.2.2.length) (fun gq => l.length - gq.1) (fun gq => [⟨gq.2.1, ints ((l.take gq.1).map ofZ) ++ gq.2.2.2, 41⟩]) (fun gq => [Fact.sl a (l.map fun n => .int .i64 n)]) (0, none, 0, []) (sub_cons rfl (sub_nil _)) (sub_cons rfl (sub_cons rfl (sub_nil _))) (by (try dsimp only); exact ⟨Nat.zero_le _, rfl⟩) (by exact fun w h => h.nil _) ?_
  rintro ⟨i, o, cp, sp⟩ hinv1; (try dsimp only at hinv1 ⊢)
  obtain ⟨hi, hcp⟩ := hinv1
  refine WC.seq ?_
  refine WC.sr ?_
  refine WL.r rfl rfl rfl (rd_move rfl rfl) ?_
  refine WL.r rfl rfl rfl (rd_move rfl rfl) ?_
  refine WL.r rfl rfl rfl (rd_len rfl rfl Tryz.underlying80) ?_
  refine WL.r rfl rfl rfl (rd_lss rfl rfl rfl) ?_
  refine WL.nt ?_
  refine WC.cond rfl (fun hc8 => ?_) (fun hc8 => ?_)
  · (try simp only [sB] at hc8)
    have hil : i < l.length := by omega
    have hrr := hr _ (getD_mem l i hil)
    have htk : l.take (i + 1) = l.take i ++ [l.getD i default] := by
      rw [List.take_add_one, List.getElem?_eq_getElem hil, List.getD_eq_getElem?_getD, List.getElem?_eq_getElem hil]; rfl
    have hln : (ints ((l.take i).map ofZ)).length = i * 2 := by rw [flatMap_len _ _ 2 (fun _ => rfl), List.length_map, List.length_take]; omega
    refine WC.skip ?_
    refine WX.then_normal ?_
    refine WC.seq ?_
    refine WC.block ?_
    refine WC.region ?_
    refine WL.r rfl rfl rfl (rd_move rfl rfl) ?_
    refine WL.r rfl rfl rfl (rd_move rfl rfl) ?_
    refine WL.r rfl rfl rfl (rd_move rfl rfl) ?_
    (refine WL.r rfl rfl rfl (iaf rfl rfl rfl Tryz.underlying80 (by kernel_rfl : _ = some 1) ?_ ?_ (by (try simp only [sN, Int.reduceToNat, Nat.reduceAdd, Nat.reduceMul, Nat.reduceSub]); rfl)) ?_; (focus (omega)); (focus ((rw [List.length_map]; omega))))
    (refine WL.r rfl rfl rfl (ldm rfl rfl Tryz.underlying2 rfl ?_) ?_; (focus (assumption)))
    refine WL.g rfl rfl rfl (og_call rfl rfl (by kernel_rfl) (keep_val fun w hS => zof_c (n := l.getD i default) (by exact hrr.1) (by exact hrr.2))) ?_
    intro _
    refine WL.g rfl rfl rfl (og_bsN rfl rfl Tryz.underlying36 (by kernel_rfl : _ = some (some (.agg #[.bool false, .string (S [])]), 2, 24)) (by kernel_rfl) (by decide) rfl rfl (by (simp [Value.cells]; done)) (by (exact cells_one _)) (by decide)) ?_
    intro b17
    (refine WL.g rfl rfl rfl (appgN rfl Tryz.underlying36 (by kernel_rfl : _ = some (some (.agg #[.bool false, .string (S [])]), 2, 24)) (by kernel_rfl) (by decide) .tc rfl rfl (fun w hS => by (exact hS.os)) (by rfl) ?_ ?_) ?_; (focus (refine ⟨?_, ?_, ?_, ?_⟩ <;> first | exact hln | omega)); (focus ((simp [Value.oneCell']; done))))
    rintro ⟨o18, c18, s18⟩
    refine WL.pu ?_
    intro hg18; (try dsimp only at hg18 ⊢)
    refine WL.r rfl rfl rfl (rd_assign rfl rfl) ?_
    refine WL.nil ?_
    refine WX.block_normal ?_
    refine WX.then_normal ?_
    refine WC.region ?_
    refine WL.r rfl rfl rfl (rd_move rfl rfl) ?_
    (refine WL.r rfl rfl rfl (rd_add64nl rfl rfl rfl ?_) ?_; (focus (omega)))
    refine WL.r rfl rfl rfl (rd_assign rfl rfl) ?_
    refine WL.nil ?_
    refine WX.loopO ((i + 1, o18, c18, s18)) (by (try dsimp only); omega) (sub_cons rfl (sub_nil _)) (by refine (sub_cons ?_ (sub_cons ?_ (sub_nil _))) <;> (rfl)) ?_ (by exact fun w h => by rw [htk, List.map_append, show ints ((l.take i).map ofZ ++ [l.getD i default].map ofZ) = ints ((l.take i).map ofZ) ++ zc (ofZ (l.getD i default)) by simp]; exact st_sub _ h)
    (try dsimp only)
    exact ⟨hil, by omega⟩
  · (try simp only [sB] at hc8)
    refine WC.exit ?_
    refine WX.then_exit ?_
    refine WX.then_exit ?_
    refine WX.block_exit ?_
    obtain rfl : i = l.length := by omega
    rw [List.take_length]
    refine WX.then_normal ?_
    refine WC.sr ?_
    refine WL.r rfl rfl rfl (rd_move rfl rfl) ?_
    refine WL.r rfl rfl rfl (rd_assign rfl rfl) ?_
    refine WL.nt ?_
    refine WC.ret ?_
    exact WX.retN rfl (.tmp rfl .nil) fun w' hS => ⟨⟨o, cp, sp⟩, rfl, trivial, hS.below, facts_cons hS.ock facts_nil⟩
def keyS : IK := ⟨[], (canon 77, []), [], [], [], [], canon 16⟩
theorem key38_c {w : World} :
    Calls Tryz.prog 13 #[] w fun e w' => e = .returned (ikV keyS (.slice none 0 0)) ∧ Below w.heap.size w w' := by
  refine enter (S := St (fun _ => True) w [] ([])) (L := []) Tryz.func13 rfl Tryz.ntmps13 rfl (args_nil _) (St.start (fun _ _ => trivial) facts_nil) ?_
  refine WC.sr ?_
  refine WL.g rfl rfl rfl (og_alloc rfl (v := (.agg #[.string (S []), .string (S []), .string (S []), .string (S []), .string (S []), .slice none 0 0, .string (S []), .string (S [])])) (cs := [.string (S []), .string (S []), .string (S []), .string (S []), .string (S []), .slice none 0 0, .string (S []), .string (S [])]) (by kernel_rfl) rfl) ?_
  intro b0
  refine WL.nt ?_
  refine WC.sr ?_
  refine WL.g rfl rfl rfl (og_call rfl rfl (by kernel_rfl) (keep_val fun w hS => of_c (n := 77) (by omega))) ?_
  intro _
  refine WL.r rfl rfl rfl (rd_bld [[.string (S [])], [.string (S [])]] rfl rfl (by simp only [bld, fldv, Nat.beq, Value.cells, cond_true, cond_false, List.nil_append, List.cons_append, List.append_nil]; rfl) (fun w => by kernel_rfl)) ?_
  refine WL.g rfl rfl rfl (og_call rfl rfl (by kernel_rfl) (keep_val fun w hS => of_c (n := 16) (by omega))) ?_
  intro _
  refine WL.r rfl rfl rfl (rd_bld [[.string (S [])], [.string (S []), .string (S [])], [.string (S [])], [.string (S [])], [.slice none 0 0], [.string (S [])], [.string (S [])]] rfl rfl (by simp only [bld, fldv, Nat.beq, Value.cells, cond_true, cond_false, List.nil_append, List.cons_append, List.append_nil]; rfl) (fun w => by kernel_rfl)) ?_
  refine WL.g0 rfl rfl (sta rfl rfl rfl .tc ?_ ?_ ?_) ?_
  · kernel_rfl
  · simp [Value.oneCell']
  · rfl
  intro _
  refine WL.nt ?_
  refine WC.ret ?_
  exact WX.retN rfl (.agg rfl .tc Tryz.underlying33 rfl (by kernel_rfl) .nil) fun w' hS => ⟨by rfl, hS.below⟩
theorem aw_w : witS (canon 7) (canon 3) = ([ofZ 7, ofZ 21], 0) := by decide +kernel
theorem aw_u : unmS keyS (canon 16) [ofZ 7, ofZ 21] = ((canon 37, canon 7), 0) := by decide +kernel
theorem aw_v : unmS keyS (canon 16) [ofZ 7, ofZ 20] = (([], []), 17) := by decide +kernel
theorem awake38_c {w : World} :
    Calls Tryz.prog 5 #[] w fun e w' => e = .returned (.bool true) ∧ Below w.heap.size w w' := by
  refine enter (S := St (fun _ => True) w [] ([])) (L := []) Tryz.func5 rfl Tryz.ntmps5 rfl (args_nil _) (St.start (fun _ _ => trivial) facts_nil) ?_
  refine WC.sr ?_
  refine WL.r rfl rfl rfl (rd_assign rfl rfl) ?_
  refine WL.nt ?_
  refine WC.sr ?_
  refine WL.g rfl rfl rfl (og_call rfl rfl (by kernel_rfl) (keep_val fun w hS => of_c (n := 7) (by omega))) ?_
  intro _
  refine WL.g rfl rfl rfl (og_call rfl rfl (by kernel_rfl) (keep_val fun w hS => of_c (n := 3) (by omega))) ?_
  intro _
  refine WL.g rfl rfl rfl (og_call rfl rfl (by kernel_rfl) (keep_f1 (val := fun g => .tuple #[g.val 2, .int .i64 0]) (p := fun g => g.cap = 2 + g.sp.length) (xs := ints [ofZ 7, ofZ 21]) (T := 41) fun w hS => (by have := wit_c (w := w) (u := canon 7) (m := canon 3); rw [aw_w] at this; exact this))) ?_
  intro g12; refine WL.pu ?_; intro hg12
  refine WL.r rfl rfl rfl (rd_move rfl rfl) ?_
  refine WL.r rfl rfl rfl (rd_extL rfl rfl rfl) ?_
  refine WL.r rfl rfl rfl (rd_extL rfl rfl rfl) ?_
  refine WL.r rfl rfl rfl (rd_assign rfl rfl) ?_
  refine WL.r rfl rfl rfl (rd_assign rfl rfl) ?_
  refine WL.nt ?_
  refine WC.sr ?_
  refine WL.g rfl rfl rfl (og_call rfl rfl (by kernel_rfl) (keep_val fun w hS => key38_c)) ?_
  intro _
  refine WL.g rfl rfl rfl (og_call rfl rfl (by kernel_rfl) (keep_val fun w hS => of_c (n := 16) (by omega))) ?_
  intro _
  refine WL.g rfl rfl rfl (og_bs1 rfl rfl Tryz.underlying80 (by kernel_rfl : _ = some (some (.int .i64 0), 1, 8)) rfl (by simp only [List.map]; rfl) rfl rfl ?_ (by decide)) ?_
  · simp [Value.cells]
  intro b18
  refine WL.st (fun w h => h.freeze (off := 0) (xs := [.int .i64 7, .int .i64 21]) (fun i hi => by rw [Nat.zero_add])) ?_
  refine WL.g rfl rfl rfl (og_call rfl rfl (by kernel_rfl) (keep_ff fun w hS => ints_c (l := [7, 21]) (by (exact hS.slo)) (by (simp <;> omega)) (by (simp <;> omega)))) ?_
  rintro g19
  refine WL.pu ?_
  intro hg19; (try dsimp only [List.cons_append, List.nil_append] at hg19 ⊢)
  refine WL.g rfl rfl rfl (og_call rfl rfl (by kernel_rfl) (keep_val fun w hS => (by have := unm_c (w := w) (k := keyS) (rv := .slice none 0 0) (x := canon 16) (ws := [ofZ 7, ofZ 21]) (a := g19.a) (c := g19.cap) hS.sl (by decide) (by decide +kernel); rw [aw_u] at this; exact this))) ?_
  intro _
  refine WL.r rfl rfl rfl (rd_move rfl rfl) ?_
  refine WL.r rfl rfl rfl (rd_extL rfl rfl rfl) ?_
  refine WL.r rfl rfl rfl (rd_extL rfl rfl rfl) ?_
  refine WL.r rfl rfl rfl (rd_extL rfl rfl rfl) ?_
  refine WL.r rfl rfl rfl (rd_assign rfl rfl) ?_
  refine WL.r rfl rfl rfl (rd_assign rfl rfl) ?_
  refine WL.r rfl rfl rfl (rd_assign rfl rfl) ?_
  refine WL.nt ?_
  refine WC.sr ?_
  refine WL.g rfl rfl rfl (og_call rfl rfl (by kernel_rfl) (keep_val fun w hS => key38_c)) ?_
  intro _
  refine WL.g rfl rfl rfl (og_call rfl rfl (by kernel_rfl) (keep_val fun w hS => of_c (n := 16) (by omega))) ?_
  intro _
  refine WL.g rfl rfl rfl (og_bs1 rfl rfl Tryz.underlying80 (by kernel_rfl : _ = some (some (.int .i64 0), 1, 8)) rfl (by simp only [List.map]; rfl) rfl rfl ?_ (by decide)) ?_
  · simp [Value.cells]
  intro b27
  refine WL.st (fun w h => h.freeze (off := 0) (xs := [.int .i64 7, .int .i64 20]) (fun i hi => by rw [Nat.zero_add])) ?_
  refine WL.g rfl rfl rfl (og_call rfl rfl (by kernel_rfl) (keep_ff fun w hS => ints_c (l := [7, 20]) (by (exact hS.slo)) (by (simp <;> omega)) (by (simp <;> omega)))) ?_
  rintro g28
  refine WL.pu ?_
  intro hg28; (try dsimp only [List.cons_append, List.nil_append] at hg28 ⊢)
  refine WL.g rfl rfl rfl (og_call rfl rfl (by kernel_rfl) (keep_val fun w hS => (by have := unm_c (w := w) (k := keyS) (rv := .slice none 0 0) (x := canon 16) (ws := [ofZ 7, ofZ 20]) (a := g28.a) (c := g28.cap) hS.sl (by decide) (by decide +kernel); rw [aw_v] at this; exact this))) ?_
  intro _
  refine WL.r rfl rfl rfl (rd_move rfl rfl) ?_
  refine WL.r rfl rfl rfl (rd_extL rfl rfl rfl) ?_
  refine WL.r rfl rfl rfl (rd_extL rfl rfl rfl) ?_
  refine WL.r rfl rfl rfl (rd_extL rfl rfl rfl) ?_
  refine WL.r rfl rfl rfl (rd_assign rfl rfl) ?_
  refine WL.r rfl rfl rfl (rd_assign rfl rfl) ?_
  refine WL.r rfl rfl rfl (rd_assign rfl rfl) ?_
  refine WL.nt ?_
  refine WC.sr ?_
  refine WL.r rfl rfl rfl (rd_move rfl rfl) ?_
  refine WL.r rfl rfl rfl (rd_eql rfl rfl rfl) ?_
  refine WL.r rfl rfl rfl (rd_move rfl rfl) ?_
  refine WL.set 35 rfl (v' := .bool true) (by rfl) ?_
  refine WL.r rfl rfl rfl (rd_move rfl rfl) ?_
  refine WL.g rfl rfl rfl (og_bs1 rfl rfl Tryz.underlying80 (by kernel_rfl : _ = some (some (.int .i64 0), 1, 8)) rfl (by simp only [List.map]; rfl) rfl rfl ?_ (by decide)) ?_
  · simp [Value.cells]
  intro b37
  refine WL.st (fun w h => h.freeze (off := 0) (xs := [.int .i64 7, .int .i64 21]) (fun i hi => by rw [Nat.zero_add])) ?_
  refine WL.g rfl rfl rfl (og_call rfl rfl (by kernel_rfl) (keep_ff fun w hS => ints_c (l := [7, 21]) (by (exact hS.slo)) (by (simp <;> omega)) (by (simp <;> omega)))) ?_
  rintro g38
  refine WL.pu ?_
  intro hg38; (try dsimp only [List.cons_append, List.nil_append] at hg38 ⊢)
  refine WL.g rfl rfl rfl (og_call rfl rfl (by kernel_rfl) (keep_val fun w hS => same_c (x := [ofZ 7, ofZ 21]) (y := [ofZ 7, ofZ 21]) (by (exact hS.sl)) (by (exact hS.sl)) (by (simp <;> omega)))) ?_
  intro _
  refine WL.r rfl rfl rfl (rd_pickt rfl rfl rfl) ?_
  refine WL.r rfl rfl rfl (rd_move rfl rfl) ?_
  refine WL.set 41 rfl (v' := .bool true) (by rfl) ?_
  refine WL.r rfl rfl rfl (rd_move rfl rfl) ?_
  refine WL.r rfl rfl rfl (rd_eql rfl rfl rfl) ?_
  refine WL.r rfl rfl rfl (rd_pickt rfl rfl rfl) ?_
  refine WL.r rfl rfl rfl (rd_move rfl rfl) ?_
  refine WL.set 45 rfl (v' := .bool true) (by rfl) ?_
  refine WL.r rfl rfl rfl (rd_move rfl rfl) ?_
  refine WL.g rfl rfl rfl (og_call rfl rfl (by kernel_rfl) (keep_val fun w hS => of_c (n := 37) (by omega))) ?_
  intro _
  refine WL.r rfl rfl rfl (rd_seq rfl rfl rfl) ?_
  refine WL.r rfl rfl rfl (rd_pickt rfl rfl rfl) ?_
  refine WL.r rfl rfl rfl (rd_move rfl rfl) ?_
  refine WL.set 50 rfl (v' := .bool true) (by rfl) ?_
  refine WL.r rfl rfl rfl (rd_move rfl rfl) ?_
  refine WL.g rfl rfl rfl (og_call rfl rfl (by kernel_rfl) (keep_val fun w hS => of_c (n := 7) (by omega))) ?_
  intro _
  refine WL.r rfl rfl rfl (rd_seq rfl rfl rfl) ?_
  refine WL.r rfl rfl rfl (rd_pickt rfl rfl rfl) ?_
  refine WL.r rfl rfl rfl (rd_move rfl rfl) ?_
  refine WL.set 55 rfl (v' := .bool true) (by rfl) ?_
  refine WL.r rfl rfl rfl (rd_move rfl rfl) ?_
  refine WL.r rfl rfl rfl (rd_eql rfl rfl rfl) ?_
  refine WL.r rfl rfl rfl (rd_pickt rfl rfl rfl) ?_
  refine WL.r rfl rfl rfl (rd_assign rfl rfl) ?_
  refine WL.nt ?_
  refine WC.ret ?_
  exact WX.retN rfl (.tmp rfl .nil) fun w' hS => ⟨by rfl, hS.below⟩
end Go.Proofs.YtbcnnkcddilfjaaGreat

/-
  The law NonrevokedUnmasks.
-/
namespace Go.Proofs.YtbcnnkcddilfjaaGreat
set_option linter.unusedSimpArgs false
set_option linter.unusedVariables false
set_option maxRecDepth 20000
set_option maxHeartbeats 600000
open Go.RowKit

theorem witS_len (u m : Bs) : (witS u m).1.length ≤ 2 := by
  unfold witS; split
  · split <;> simp
  · simp
theorem unmasks_c {p0 p1 p2 p3 p4 p5 p6 p7 p8 p9 p10 p11 p12 p13 p14 p15 p16 : Value} {k : IK} {acc wt u r t0 t1 : Bs} {ws : List Zs} {ra wa : Option Addr} {rc wc : Nat} {w : World} {ok : Nat → Prop} (hF1 : (Fact.sl ra (strs k.r)).holds ok w) (hF2 : (Fact.sl wa (ints ws)).holds ok w) (hr : k.r.length ≤ 140737488351232) :
    Calls Tryz.prog 3 #[.agg #[p0, p1, p2, p3, p4, p5, p6, p7, p8, p9, p10, p11, p12, p13, p14, p15, p16, .string (S k.name), .string (S k.g.1), .string (S k.g.2), .string (S k.z), .string (S k.s), .slice ra k.r.length rc, .string (S k.u), .string (S k.h), .string (S acc), .string (S wt), .string (S u), .string (S r)], .slice wa ws.length wc, .agg #[.string (S t0), .string (S t1)]] w fun e w' => e = .returned (.bool true) ∧ Below w.heap.size w w' := by
  refine enter (S := St (fun _ => True) w [] ([Fact.sl ra (strs k.r), Fact.sl wa (ints ws)])) (L := [(0, .agg #[p0, p1, p2, p3, p4, p5, p6, p7, p8, p9, p10, p11, p12, p13, p14, p15, p16, .string (S k.name), .string (S k.g.1), .string (S k.g.2), .string (S k.z), .string (S k.s), .slice ra k.r.length rc, .string (S k.u), .string (S k.h), .string (S acc), .string (S wt), .string (S u), .string (S r)]), (1, .slice wa ws.length wc), (2, .agg #[.string (S t0), .string (S t1)])]) Tryz.func3 rfl Tryz.ntmps3 rfl (args_cons rfl (args_cons rfl (args_cons rfl (args_nil _)))) (St.start (fun _ _ => trivial) (facts_cons (fact_any hF1) (facts_cons (fact_any hF2) facts_nil))) ?_
  refine WC.sr ?_
  refine WL.g rfl rfl rfl (og_box rfl rfl (by (exact cells_agg _))) ?_
  intro b3
  refine WL.g rfl rfl rfl (og_box rfl rfl (by (exact cells_agg _))) ?_
  intro b5
  refine WL.r rfl rfl rfl (rd_assign rfl rfl) ?_
  refine WL.nt ?_
  refine WC.seq ?_
  refine WC.joinP (σ := Unit) [(1, _), (3, _), (5, _)] (fun gq => [(44, .bool (decide (¬ (fewK k ∧ (wt.length : Int) ≤ 9 ∧ (ws.length : Int) ≤ 5 ∧ (t0.length : Int) ≤ 140 ∧ (t1.length : Int) ≤ 140))))]) (fun gq => True) (sub_cons rfl (sub_cons rfl (sub_cons rfl (sub_nil _)))) ?_ ?_
  · skip
    refine WC.region ?_
    (refine WL.r rfl rfl rfl (rd_fa (q := 17) rfl rfl Tryz.underlying35 rfl (by kernel_rfl) rfl) ?_)
    (refine WL.r rfl rfl rfl (ldp rfl rfl .tc Tryz.underlying33 rfl (by kernel_rfl : _ = some 8) (by rfl) (by rfl)) ?_)
    refine WL.g rfl rfl rfl (og_call rfl rfl (by kernel_rfl) (keep_val fun w hS => fewkey_c (k := k) (a := ra) (c := rc) (by (exact hS.sl)) (by assumption))) ?_
    intro _
    refine WL.r rfl rfl rfl (rd_not rfl rfl) ?_
    refine WL.r rfl rfl rfl (rd_move rfl rfl) ?_
    refine WL.bool 22 rfl (fun hg22 => ?_) (fun hg22 => ?_)
    · (try simp only [sB] at hg22)
      refine WL.s rfl rfl rfl ?_
      refine WL.s rfl rfl rfl ?_
      refine WL.s rfl rfl rfl ?_
      refine WL.s rfl rfl rfl ?_
      refine WL.r rfl rfl rfl (rd_pickt rfl rfl rfl) ?_
      refine WL.r rfl rfl rfl (rd_move rfl rfl) ?_
      refine WL.s rfl rfl rfl ?_
      refine WL.s rfl rfl rfl ?_
      refine WL.s rfl rfl rfl ?_
      refine WL.r rfl rfl rfl (rd_pickt rfl rfl rfl) ?_
      refine WL.r rfl rfl rfl (rd_move rfl rfl) ?_
      refine WL.s rfl rfl rfl ?_
      refine WL.s rfl rfl rfl ?_
      refine WL.s rfl rfl rfl ?_
      refine WL.s rfl rfl rfl ?_
      refine WL.r rfl rfl rfl (rd_pickt rfl rfl rfl) ?_
      refine WL.r rfl rfl rfl (rd_move rfl rfl) ?_
      refine WL.s rfl rfl rfl ?_
      refine WL.s rfl rfl rfl ?_
      refine WL.s rfl rfl rfl ?_
      refine WL.s rfl rfl rfl ?_
      refine WL.r rfl rfl rfl (rd_pickt rfl rfl rfl) ?_
      refine WL.nil ?_
      refine WX.joinP (()) (sub_cons rfl (sub_cons rfl (sub_cons rfl (sub_nil _)))) (by refine (sub_cons ?_ (sub_nil _)) <;> ((refine slot_b rfl ?_; (try dsimp only); (simp [*]; done)))) ?_ (by (exact fun _ h => h))
      (try dsimp only)
      done
    · (try simp only [sB] at hg22)
      (refine WL.r rfl rfl rfl (rd_fa (q := 26) rfl rfl Tryz.underlying35 rfl (by kernel_rfl) rfl) ?_)
      (refine WL.r rfl rfl rfl (ld rfl rfl .tc Tryz.underlying22 rfl (by rfl)) ?_)
      refine WL.r rfl rfl rfl (rd_slen rfl rfl Tryz.underlying22) ?_
      refine WL.r rfl rfl rfl (rd_gtr rfl rfl rfl) ?_
      refine WL.r rfl rfl rfl (rd_pickf rfl rfl rfl) ?_
      refine WL.r rfl rfl rfl (rd_move rfl rfl) ?_
      refine WL.bool 28 rfl (fun hg28 => ?_) (fun hg28 => ?_)
      · (try simp only [sB] at hg28)
        refine WL.s rfl rfl rfl ?_
        refine WL.s rfl rfl rfl ?_
        refine WL.s rfl rfl rfl ?_
        refine WL.r rfl rfl rfl (rd_pickt rfl rfl rfl) ?_
        refine WL.r rfl rfl rfl (rd_move rfl rfl) ?_
        refine WL.s rfl rfl rfl ?_
        refine WL.s rfl rfl rfl ?_
        refine WL.s rfl rfl rfl ?_
        refine WL.s rfl rfl rfl ?_
        refine WL.r rfl rfl rfl (rd_pickt rfl rfl rfl) ?_
        refine WL.r rfl rfl rfl (rd_move rfl rfl) ?_
        refine WL.s rfl rfl rfl ?_
        refine WL.s rfl rfl rfl ?_
        refine WL.s rfl rfl rfl ?_
        refine WL.s rfl rfl rfl ?_
        refine WL.r rfl rfl rfl (rd_pickt rfl rfl rfl) ?_
        refine WL.nil ?_
        refine WX.joinP (()) (sub_cons rfl (sub_cons rfl (sub_cons rfl (sub_nil _)))) (by refine (sub_cons ?_ (sub_nil _)) <;> ((refine slot_b rfl ?_; (try dsimp only); (simp [*]; done)))) ?_ (by (exact fun _ h => h))
        (try dsimp only)
        done
      · (try simp only [sB] at hg28)
        refine WL.r rfl rfl rfl (rd_move rfl rfl) ?_
        refine WL.r rfl rfl rfl (rd_len rfl rfl Tryz.underlying36) ?_
        refine WL.r rfl rfl rfl (rd_gtr rfl rfl rfl) ?_
        refine WL.r rfl rfl rfl (rd_pickf rfl rfl rfl) ?_
        refine WL.r rfl rfl rfl (rd_move rfl rfl) ?_
        refine WL.bool 33 rfl (fun hg33 => ?_) (fun hg33 => ?_)
        · (try simp only [sB] at hg33)
          refine WL.s rfl rfl rfl ?_
          refine WL.s rfl rfl rfl ?_
          refine WL.s rfl rfl rfl ?_
          refine WL.s rfl rfl rfl ?_
          refine WL.r rfl rfl rfl (rd_pickt rfl rfl rfl) ?_
          refine WL.r rfl rfl rfl (rd_move rfl rfl) ?_
          refine WL.s rfl rfl rfl ?_
          refine WL.s rfl rfl rfl ?_
          refine WL.s rfl rfl rfl ?_
          refine WL.s rfl rfl rfl ?_
          refine WL.r rfl rfl rfl (rd_pickt rfl rfl rfl) ?_
          refine WL.nil ?_
          refine WX.joinP (()) (sub_cons rfl (sub_cons rfl (sub_cons rfl (sub_nil _)))) (by refine (sub_cons ?_ (sub_nil _)) <;> ((refine slot_b rfl ?_; (try dsimp only); (simp [*]; done)))) ?_ (by (exact fun _ h => h))
          (try dsimp only)
          done
        · (try simp only [sB] at hg33)
          refine WL.r rfl rfl rfl (rd_iaa rfl rfl rfl Tryz.underlying37 (by kernel_rfl : _ = some 1) ?_ (by (try simp only [sN, Int.reduceToNat, Nat.reduceAdd, Nat.reduceMul, Nat.reduceSub]); rfl)) ?_
          · omega
          (refine WL.r rfl rfl rfl (ld rfl rfl .tc Tryz.underlying22 rfl (by rfl)) ?_)
          refine WL.r rfl rfl rfl (rd_slen rfl rfl Tryz.underlying22) ?_
          refine WL.r rfl rfl rfl (rd_gtr rfl rfl rfl) ?_
          refine WL.r rfl rfl rfl (rd_pickf rfl rfl rfl) ?_
          refine WL.r rfl rfl rfl (rd_move rfl rfl) ?_
          refine WL.bool 39 rfl (fun hg39 => ?_) (fun hg39 => ?_)
          · (try simp only [sB] at hg39)
            refine WL.s rfl rfl rfl ?_
            refine WL.s rfl rfl rfl ?_
            refine WL.s rfl rfl rfl ?_
            refine WL.s rfl rfl rfl ?_
            refine WL.r rfl rfl rfl (rd_pickt rfl rfl rfl) ?_
            refine WL.nil ?_
            refine WX.joinP (()) (sub_cons rfl (sub_cons rfl (sub_cons rfl (sub_nil _)))) (by refine (sub_cons ?_ (sub_nil _)) <;> ((refine slot_b rfl ?_; (try dsimp only); (simp [*]; done)))) ?_ (by (exact fun _ h => h))
            (try dsimp only)
            done
          · (try simp only [sB] at hg39)
            refine WL.r rfl rfl rfl (rd_iaa rfl rfl rfl Tryz.underlying37 (by kernel_rfl : _ = some 1) ?_ (by (try simp only [sN, Int.reduceToNat, Nat.reduceAdd, Nat.reduceMul, Nat.reduceSub]); rfl)) ?_
            · omega
            (refine WL.r rfl rfl rfl (ld rfl rfl .tc Tryz.underlying22 rfl (by rfl)) ?_)
            refine WL.r rfl rfl rfl (rd_slen rfl rfl Tryz.underlying22) ?_
            refine WL.r rfl rfl rfl (rd_gtr rfl rfl rfl) ?_
            refine WL.r rfl rfl rfl (rd_pickf rfl rfl rfl) ?_
            refine WL.nil ?_
            refine WX.joinP (()) (sub_cons rfl (sub_cons rfl (sub_cons rfl (sub_nil _)))) (by refine (sub_cons ?_ (sub_nil _)) <;> ((refine slot_b rfl ?_; (try dsimp only); (simp [*]; done)))) ?_ (by (exact fun _ h => h))
            (try dsimp only)
            done
  · rintro _ hmeet; (try dsimp only at hmeet ⊢)
    refine WC.cond rfl (fun hc44 => ?_) (fun hc44 => ?_)
    · (try simp only [sB] at hc44)
      refine WC.sr ?_
      refine WL.g rfl rfl rfl (og_call rfl rfl (by kernel_rfl) (keep_val fun w hS => awake38_c)) ?_
      intro _
      refine WL.r rfl rfl rfl (rd_assign rfl rfl) ?_
      refine WL.nt ?_
      refine WC.ret ?_
      refine WX.then_ret ?_
      exact WX.retN rfl (.tmp rfl .nil) fun w' hS => ⟨by rfl, hS.below⟩
    · (try simp only [sB] at hc44)
      have hok : fewK k ∧ (wt.length : Int) ≤ 9 ∧ (ws.length : Int) ≤ 5 ∧ (t0.length : Int) ≤ 140 ∧ (t1.length : Int) ≤ 140 := Decidable.not_not.1 hc44
      have hm8 : k.g.1.length ≤ 8 := by have := hok.1.1 k.g.1 (by simp); omega
      have hws := hok.2.2.1
      have hwl := witS_len t0 t1
      refine WC.skip ?_
      refine WX.then_normal ?_
      refine WC.seq ?_
      refine WC.sr ?_
      refine WL.r rfl rfl rfl (rd_assign rfl rfl) ?_
      refine WL.nt ?_
      refine WC.block ?_
      refine WC.loopP (σ := Nat) [(1, _), (3, _), (5, _)] (fun gq => [(7, .int .i64 (gq : Int))]) (fun gq => gq ≤ ws.length) (fun gq => ws.length - gq) (0) (sub_cons rfl (sub_cons rfl (sub_cons rfl (sub_nil _)))) (sub_cons rfl (sub_nil _)) (by (try dsimp only); omega) ?_
      rintro i hinv1; (try dsimp only at hinv1 ⊢)
      obtain hi := hinv1
      refine WC.seq ?_
      refine WC.sr ?_
      refine WL.r rfl rfl rfl (rd_move rfl rfl) ?_
      refine WL.r rfl rfl rfl (rd_move rfl rfl) ?_
      refine WL.r rfl rfl rfl (rd_len rfl rfl Tryz.underlying36) ?_
      refine WL.r rfl rfl rfl (rd_lss rfl rfl rfl) ?_
      refine WL.nt ?_
      refine WC.cond rfl (fun hc49 => ?_) (fun hc49 => ?_)
      · (try simp only [sB] at hc49)
        have hil : i < ws.length := by omega
        refine WC.skip ?_
        refine WX.then_normal ?_
        refine WC.seq ?_
        refine WC.block ?_
        refine WC.sr ?_
        refine WL.r rfl rfl rfl (rd_move rfl rfl) ?_
        refine WL.r rfl rfl rfl (rd_move rfl rfl) ?_
        (refine WL.r rfl rfl rfl (iaf rfl rfl rfl Tryz.underlying36 (by kernel_rfl : _ = some 2) ?_ ?_ (by (try simp only [sN, Int.reduceToNat, Nat.reduceAdd, Nat.reduceMul, Nat.reduceSub]); rfl)) ?_; (focus (omega)); (focus ((rw [flatMap_len _ _ 2 (fun _ => rfl)]; omega))))
        (refine WL.r rfl rfl rfl (faf rfl rfl Tryz.underlying41 rfl (by kernel_rfl) (by (try simp only [sN, Int.reduceToNat, Nat.reduceAdd, Nat.reduceMul, Nat.reduceSub]); rfl)) ?_)
        (refine WL.r rfl rfl rfl (ldmf (sz := 2) _ 1 rfl rfl Tryz.underlying22 rfl (fun _ => rfl) rfl ?_ (by decide) rfl) ?_; (focus (assumption)))
        refine WL.r rfl rfl rfl (rd_slen rfl rfl Tryz.underlying22) ?_
        refine WL.r rfl rfl rfl (rd_gtr rfl rfl rfl) ?_
        refine WL.nt ?_
        refine WC.cond rfl (fun hc58 => ?_) (fun hc58 => ?_)
        · (try simp only [sB] at hc58)
          refine WC.sr ?_
          refine WL.g rfl rfl rfl (og_call rfl rfl (by kernel_rfl) (keep_val fun w hS => awake38_c)) ?_
          intro _
          refine WL.r rfl rfl rfl (rd_assign rfl rfl) ?_
          refine WL.nt ?_
          refine WC.ret ?_
          refine WX.block_ret ?_
          refine WX.then_ret ?_
          refine WX.then_ret ?_
          refine WX.block_ret ?_
          refine WX.then_ret ?_
          exact WX.retN rfl (.tmp rfl .nil) fun w' hS => ⟨by rfl, hS.below⟩
        · (try simp only [sB] at hc58)
          refine WC.skip ?_
          refine WX.block_normal ?_
          refine WX.then_normal ?_
          refine WC.region ?_
          refine WL.r rfl rfl rfl (rd_move rfl rfl) ?_
          (refine WL.r rfl rfl rfl (rd_add64nl rfl rfl rfl ?_) ?_; (focus (omega)))
          refine WL.r rfl rfl rfl (rd_assign rfl rfl) ?_
          refine WL.nil ?_
          refine WX.loopP (i + 1) (by (try dsimp only); omega) (sub_cons rfl (sub_cons rfl (sub_cons rfl (sub_nil _)))) (by refine (sub_cons ?_ (sub_nil _)) <;> (rfl)) ?_ (by (exact fun _ h => h))
          (try dsimp only)
          omega
      · (try simp only [sB] at hc49)
        refine WC.exit ?_
        refine WX.then_exit ?_
        refine WX.then_exit ?_
        refine WX.block_exit ?_
        refine WX.then_normal ?_
        refine WC.sr ?_
        refine WL.r rfl rfl rfl (rd_iaa rfl rfl rfl Tryz.underlying37 (by kernel_rfl : _ = some 1) ?_ (by (try simp only [sN, Int.reduceToNat, Nat.reduceAdd, Nat.reduceMul, Nat.reduceSub]); rfl)) ?_
        · omega
        (refine WL.r rfl rfl rfl (ld rfl rfl .tc Tryz.underlying22 rfl (by rfl)) ?_)
        refine WL.r rfl rfl rfl (rd_iaa rfl rfl rfl Tryz.underlying37 (by kernel_rfl : _ = some 1) ?_ (by (try simp only [sN, Int.reduceToNat, Nat.reduceAdd, Nat.reduceMul, Nat.reduceSub]); rfl)) ?_
        · omega
        (refine WL.r rfl rfl rfl (ld rfl rfl .tc Tryz.underlying22 rfl (by rfl)) ?_)
        refine WL.g rfl rfl rfl (og_call rfl rfl (by kernel_rfl) (keep_f1 fun w hS => wit_c (u := t0) (m := t1))) ?_
        intro g65
        refine WL.pu ?_
        intro hg65; (try dsimp only at hg65 ⊢)
        refine WL.r rfl rfl rfl (rd_move rfl rfl) ?_
        refine WL.r rfl rfl rfl (rd_extL rfl rfl rfl) ?_
        refine WL.r rfl rfl rfl (rd_extL rfl rfl rfl) ?_
        refine WL.r rfl rfl rfl (rd_assign rfl rfl) ?_
        refine WL.r rfl rfl rfl (rd_assign rfl rfl) ?_
        refine WL.nt ?_
        refine WC.sr ?_
        refine WL.r rfl rfl rfl (rd_iaa rfl rfl rfl Tryz.underlying37 (by kernel_rfl : _ = some 1) ?_ (by (try simp only [sN, Int.reduceToNat, Nat.reduceAdd, Nat.reduceMul, Nat.reduceSub]); rfl)) ?_
        · omega
        (refine WL.r rfl rfl rfl (ld rfl rfl .tc Tryz.underlying22 rfl (by rfl)) ?_)
        refine WL.r rfl rfl rfl (rd_iaa rfl rfl rfl Tryz.underlying37 (by kernel_rfl : _ = some 1) ?_ (by (try simp only [sN, Int.reduceToNat, Nat.reduceAdd, Nat.reduceMul, Nat.reduceSub]); rfl)) ?_
        · omega
        (refine WL.r rfl rfl rfl (ld rfl rfl .tc Tryz.underlying22 rfl (by rfl)) ?_)
        refine WL.g rfl rfl rfl (og_call rfl rfl (by kernel_rfl) (keep_f1 fun w hS => rwit_c (u := t0) (m := t1))) ?_
        intro g73
        refine WL.pu ?_
        intro hg73; (try dsimp only at hg73 ⊢)
        refine WL.r rfl rfl rfl (rd_move rfl rfl) ?_
        refine WL.r rfl rfl rfl (rd_extL rfl rfl rfl) ?_
        refine WL.r rfl rfl rfl (rd_extL rfl rfl rfl) ?_
        refine WL.r rfl rfl rfl (rd_assign rfl rfl) ?_
        refine WL.r rfl rfl rfl (rd_assign rfl rfl) ?_
        refine WL.nt ?_
        refine WC.sr ?_
        (refine WL.r rfl rfl rfl (rd_fa (q := 17) rfl rfl Tryz.underlying35 rfl (by kernel_rfl) rfl) ?_)
        (refine WL.r rfl rfl rfl (ldp rfl rfl .tc Tryz.underlying33 rfl (by kernel_rfl : _ = some 8) (by rfl) (by rfl)) ?_)
        (refine WL.r rfl rfl rfl (rd_fa (q := 26) rfl rfl Tryz.underlying35 rfl (by kernel_rfl) rfl) ?_)
        (refine WL.r rfl rfl rfl (ld rfl rfl .tc Tryz.underlying22 rfl (by rfl)) ?_)
        refine WL.r rfl rfl rfl (rd_move rfl rfl) ?_
        refine WL.g rfl rfl rfl (og_call rfl rfl (by kernel_rfl) (keep_val fun w hS => unm_c (k := k) (rv := .slice ra k.r.length rc) (x := wt) (ws := ws) (a := wa) (c := wc) (by (exact hS.sl)) (by omega) (by exact hm8))) ?_
        intro _
        refine WL.r rfl rfl rfl (rd_move rfl rfl) ?_
        refine WL.r rfl rfl rfl (rd_extL rfl rfl rfl) ?_
        refine WL.r rfl rfl rfl (rd_extL rfl rfl rfl) ?_
        refine WL.r rfl rfl rfl (rd_extL rfl rfl rfl) ?_
        refine WL.r rfl rfl rfl (rd_assign rfl rfl) ?_
        refine WL.r rfl rfl rfl (rd_assign rfl rfl) ?_
        refine WL.r rfl rfl rfl (rd_assign rfl rfl) ?_
        refine WL.nt ?_
        refine WC.sr ?_
        (refine WL.r rfl rfl rfl (rd_fa (q := 17) rfl rfl Tryz.underlying35 rfl (by kernel_rfl) rfl) ?_)
        (refine WL.r rfl rfl rfl (ldp rfl rfl .tc Tryz.underlying33 rfl (by kernel_rfl : _ = some 8) (by rfl) (by rfl)) ?_)
        (refine WL.r rfl rfl rfl (rd_fa (q := 26) rfl rfl Tryz.underlying35 rfl (by kernel_rfl) rfl) ?_)
        (refine WL.r rfl rfl rfl (ld rfl rfl .tc Tryz.underlying22 rfl (by rfl)) ?_)
        refine WL.r rfl rfl rfl (rd_move rfl rfl) ?_
        refine WL.g rfl rfl rfl (og_call rfl rfl (by kernel_rfl) (keep_val fun w hS => runm_c (k := k) (rv := .slice ra k.r.length rc) (x := wt) (ws := ws) (a := wa) (c := wc) (by (exact hS.sl)) (by omega) (by exact hm8))) ?_
        intro _
        refine WL.r rfl rfl rfl (rd_move rfl rfl) ?_
        refine WL.r rfl rfl rfl (rd_extL rfl rfl rfl) ?_
        refine WL.r rfl rfl rfl (rd_extL rfl rfl rfl) ?_
        refine WL.r rfl rfl rfl (rd_extL rfl rfl rfl) ?_
        refine WL.r rfl rfl rfl (rd_assign rfl rfl) ?_
        refine WL.r rfl rfl rfl (rd_assign rfl rfl) ?_
        refine WL.r rfl rfl rfl (rd_assign rfl rfl) ?_
        refine WL.nt ?_
        refine WC.sr ?_
        refine WL.g rfl rfl rfl (og_call rfl rfl (by kernel_rfl) (keep_val fun w hS => awake38_c)) ?_
        intro _
        refine WL.r rfl rfl rfl (rd_move rfl rfl) ?_
        refine WL.set 97 rfl (v' := .bool true) (by rfl) ?_
        refine WL.r rfl rfl rfl (rd_move rfl rfl) ?_
        refine WL.r rfl rfl rfl (rd_move rfl rfl) ?_
        refine WL.g rfl rfl rfl (og_call rfl rfl (by kernel_rfl) (keep_val fun w hS => same_c (x := (witS t0 t1).1) (y := (witS t0 t1).1) (by (exact hS.sl)) (by (exact hS.sl)) (by omega))) ?_
        intro _
        refine WL.r rfl rfl rfl (rd_pickt rfl rfl rfl) ?_
        refine WL.r rfl rfl rfl (rd_move rfl rfl) ?_
        refine WL.set 102 rfl (v' := .bool true) (by (exact congrArg Value.bool (by simp [*]; done))) ?_
        refine WL.r rfl rfl rfl (rd_move rfl rfl) ?_
        refine WL.r rfl rfl rfl (rd_move rfl rfl) ?_
        refine WL.r rfl rfl rfl (rd_eql rfl rfl rfl) ?_
        refine WL.r rfl rfl rfl (rd_pickt rfl rfl rfl) ?_
        refine WL.r rfl rfl rfl (rd_move rfl rfl) ?_
        refine WL.set 107 rfl (v' := .bool true) (by (exact congrArg Value.bool (by simp [*]; done))) ?_
        refine WL.r rfl rfl rfl (rd_move rfl rfl) ?_
        refine WL.r rfl rfl rfl (rd_move rfl rfl) ?_
        refine WL.r rfl rfl rfl (rd_seq rfl rfl rfl) ?_
        refine WL.r rfl rfl rfl (rd_pickt rfl rfl rfl) ?_
        refine WL.r rfl rfl rfl (rd_move rfl rfl) ?_
        refine WL.set 112 rfl (v' := .bool true) (by (exact congrArg Value.bool (by simp [*]; done))) ?_
        refine WL.r rfl rfl rfl (rd_move rfl rfl) ?_
        refine WL.r rfl rfl rfl (rd_move rfl rfl) ?_
        refine WL.r rfl rfl rfl (rd_seq rfl rfl rfl) ?_
        refine WL.r rfl rfl rfl (rd_pickt rfl rfl rfl) ?_
        refine WL.r rfl rfl rfl (rd_move rfl rfl) ?_
        refine WL.set 117 rfl (v' := .bool true) (by (exact congrArg Value.bool (by simp [*]; done))) ?_
        refine WL.r rfl rfl rfl (rd_move rfl rfl) ?_
        refine WL.r rfl rfl rfl (rd_move rfl rfl) ?_
        refine WL.r rfl rfl rfl (rd_eql rfl rfl rfl) ?_
        refine WL.r rfl rfl rfl (rd_pickt rfl rfl rfl) ?_
        refine WL.r rfl rfl rfl (rd_assign rfl rfl) ?_
        refine WL.nt ?_
        refine WC.ret ?_
        exact WX.retN rfl (.tmp rfl .nil) fun w' hS => ⟨by (simp [tup]; done), hS.below⟩
/-- an integer of an argument -/
abbrev zF (w : World) (x : Zs) : Prop := x.2.length ≤ 140737488351232
end Go.Proofs.YtbcnnkcddilfjaaGreat

