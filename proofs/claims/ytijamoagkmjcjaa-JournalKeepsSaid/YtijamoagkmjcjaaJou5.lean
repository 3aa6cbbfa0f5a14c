/-
  A list of entries, read.
-/
import Derived.Test.YtijamoagkmjcjaaJou4
namespace Go.Proofs.Ytijamoagkmjcjaa
set_option linter.unusedSimpArgs false
set_option linter.unusedVariables false
set_option maxRecDepth 20000
open Go.RowKit

theorem unlF_stop (s : Bs) (acc : List Bs) : unlF (([] : Bs).length + 1) [] acc = (acc, true) := by simp [unlF]
theorem unlF_bad {s : Bs} {acc : List Bs} (h : s ≠ []) (h1 : s.length < 4 ∨ 65536 < num4 s ∨ s.length < 4 + num4 s ∨ acc.length = 4096) : unlF (s.length + 1) s acc = (acc, false) := by
  rw [unlF, if_neg h, if_pos h1]
theorem unlF_next {s : Bs} {acc : List Bs} (h : s ≠ []) (h1 : ¬ (s.length < 4 ∨ 65536 < num4 s ∨ s.length < 4 + num4 s ∨ acc.length = 4096)) :
    unlF (s.length + 1) s acc = unlF ((s.drop (4 + num4 s)).length + 1) (s.drop (4 + num4 s)) (acc ++ [(s.drop 4).take (num4 s)]) := by
  rw [unlF, if_neg h, if_neg h1]
  exact unlF_fuel _ _ _ _ (by simp; omega) (by omega)

theorem list_ret {r : List Bs × Bool} {acc : List Bs} {f : Bool} {q : Rs} {ok : Nat → Prop} {w0 w : World} {own : List Ent} {fs : List Fact} {T : TypeId} (hr : r = (acc, f)) (hq : q.cap = acc.length + q.sp.length) (hS : St ok w0 (q.ent (strs acc) T :: own) fs w) :
    ∃ g : Rs, Ending.returned (tup [q.val acc.length, .bool f]) = Ending.returned (.tuple #[g.val r.1.length, .bool r.2]) ∧ g.cap = r.1.length + g.sp.length ∧ St ok w0 [g.ent (strs r.1) T] [] w := by
  subst hr
  exact ⟨q, rfl, hq, hS.sub (List.singleton_sublist.2 (by simp)) (fun _ h => by cases h)⟩
theorem list_c {s : Bs} {w : World} (hs : s.length ≤ 1000000) :
    Calls Try.prog 28 #[.string (S s)] w fun e w' => ∃ g : Rs, e = .returned (.tuple #[g.val (unl s).1.length, .bool (unl s).2]) ∧ g.cap = (unl s).1.length + g.sp.length ∧ St (fun _ => True) w [g.ent (strs (unl s).1) 9] [] w' := by
  refine enter (S := St (fun _ => True) w [] []) (L := [(0, .string (S s))]) Try.func28 rfl Try.ntmps28 rfl (args_cons rfl (args_nil _)) (St.start (fun _ _ => trivial) facts_nil) ?_
  refine WC.sr ?_
  refine WL.r rfl rfl rfl (rd_assign rfl rfl) ?_
  refine WL.r rfl rfl rfl (rd_assign rfl rfl) ?_
  refine WL.nt ?_
  refine WC.scope ?_
  refine WC.sr ?_
  refine WL.r rfl rfl rfl (rd_assign rfl rfl) ?_
  refine WL.nt ?_
  refine WC.sr ?_
  refine WL.r rfl rfl rfl (rd_assign rfl rfl) ?_
  refine WL.nt ?_
  refine WC.seq ?_
  refine WC.label ?_
  refine WX.then_normal ?_
  refine WC.seq ?_
  refine WC.block ?_
  refine WC.loopO (σ := Bs × (List Bs) × Rs) [(2, _), (3, _)] (fun g => [(0, .string (S g.1)), (4, g.2.2.val g.2.1.length), (5, .bool true)]) (fun g => unlF (g.1.length + 1) g.1 g.2.1 = unl s ∧ g.2.1.length ≤ 4096 ∧ g.2.2.cap = g.2.1.length + g.2.2.sp.length ∧ g.1.length ≤ s.length) (fun g => g.1.length) (fun g => [g.2.2.ent (strs g.2.1) 9]) (fun g => []) (s, [], ⟨none, 0, []⟩) (sub_cons rfl (sub_cons rfl (sub_nil _))) (sub_cons rfl (sub_cons rfl (sub_cons rfl (sub_nil _)))) (by (try dsimp only); exact ⟨rfl, Nat.zero_le _, rfl, Nat.le_refl _⟩) (by exact fun w h => h.nil _) ?_
  rintro ⟨t, acc, q⟩ hinv1; (try dsimp only at hinv1 ⊢)
  obtain ⟨hu, ha, hq, ht⟩ := hinv1
  refine WC.seq ?_
  refine WC.sr ?_
  refine WL.r rfl rfl rfl (rd_move rfl rfl) ?_
  refine WL.r rfl rfl rfl (rd_sne rfl rfl rfl) ?_
  refine WL.nt ?_
  refine WC.cond rfl (fun hc8 => ?_) (fun hc8 => ?_)
  · (try simp only [decide_eq_true_eq, decide_eq_false_iff_not, Bool.not_eq_true', Bool.not_eq_false', Bool.not_not, Int.not_lt, Int.not_le] at hc8)
    have hne : t ≠ [] := by simpa using hc8
    refine WC.skip ?_
    refine WX.then_normal ?_
    refine WC.block ?_
    refine WC.seq ?_
    refine WC.sr ?_
    refine WL.r rfl rfl rfl (rd_move rfl rfl) ?_
    refine WL.r rfl rfl rfl (rd_slen rfl rfl Try.underlying9) ?_
    refine WL.r rfl rfl rfl (rd_lss rfl rfl rfl) ?_
    refine WL.r rfl rfl rfl (rd_move rfl rfl) ?_
    refine WL.bool 12 rfl (fun hg12 => ?_) (fun hg12 => ?_)
    · (try simp only [decide_eq_true_eq, decide_eq_false_iff_not, Bool.not_eq_true', Bool.not_eq_false', Bool.not_not, Int.not_lt, Int.not_le] at hg12)
      refine WL.s rfl rfl rfl ?_
      refine WL.s rfl rfl rfl ?_
      refine WL.s rfl rfl rfl ?_
      refine WL.r rfl rfl rfl (rd_pickt rfl rfl rfl) ?_
      refine WL.r rfl rfl rfl (rd_move rfl rfl) ?_
      refine WL.s rfl rfl rfl ?_
      refine WL.s rfl rfl rfl ?_
      refine WL.s rfl rfl rfl ?_
      refine WL.s rfl rfl rfl ?_
      refine WL.s rfl rfl rfl ?_
      refine WL.s rfl rfl rfl ?_
      refine WL.r rfl rfl rfl (rd_pickt rfl rfl rfl) ?_
      refine WL.r rfl rfl rfl (rd_move rfl rfl) ?_
      refine WL.s rfl rfl rfl ?_
      refine WL.s rfl rfl rfl ?_
      refine WL.s rfl rfl rfl ?_
      refine WL.r rfl rfl rfl (rd_pickt rfl rfl rfl) ?_
      refine WL.nt ?_
      refine WC.cond rfl (fun _ => ?_) (fun h => by cases h)
      refine WC.sr ?_
      refine WL.r rfl rfl rfl (rd_assign rfl rfl) ?_
      refine WL.nt ?_
      refine WC.exit ?_
      refine WX.then_exit ?_
      refine WX.block_other rfl ?_
      refine WX.then_exit ?_
      refine WX.block_exit ?_
      refine WX.then_normal ?_
      refine WC.sr ?_
      refine WL.r rfl rfl rfl (rd_move rfl rfl) ?_
      refine WL.r rfl rfl rfl (rd_move rfl rfl) ?_
      refine WL.r rfl rfl rfl (rd_assign rfl rfl) ?_
      refine WL.r rfl rfl rfl (rd_assign rfl rfl) ?_
      refine WL.nt ?_
      refine WC.ret ?_
      refine WX.scope_ret ?_
      exact WX.retN rfl (.tmp rfl (.tmp rfl .nil)) fun w' hS => list_ret (by rw [← hu]; exact unlF_bad hne (by omega)) hq hS
    · (try simp only [decide_eq_true_eq, decide_eq_false_iff_not, Bool.not_eq_true', Bool.not_eq_false', Bool.not_not, Int.not_lt, Int.not_le] at hg12)
      refine WL.r rfl rfl rfl (rd_move rfl rfl) ?_
      refine WL.g rfl rfl rfl (og_call rfl rfl (by kernel_rfl) (keep_val fun w hS => num_c (by first | assumption | omega | (simp <;> omega) | (simp; done)))) ?_
      intro _
      refine WL.r rfl rfl rfl (rd_gtr rfl rfl rfl) ?_
      refine WL.r rfl rfl rfl (rd_pickf rfl rfl rfl) ?_
      refine WL.r rfl rfl rfl (rd_move rfl rfl) ?_
      refine WL.bool 17 rfl (fun hg17 => ?_) (fun hg17 => ?_)
      · (try simp only [decide_eq_true_eq, decide_eq_false_iff_not, Bool.not_eq_true', Bool.not_eq_false', Bool.not_not, Int.not_lt, Int.not_le] at hg17)
        refine WL.s rfl rfl rfl ?_
        refine WL.s rfl rfl rfl ?_
        refine WL.s rfl rfl rfl ?_
        refine WL.s rfl rfl rfl ?_
        refine WL.s rfl rfl rfl ?_
        refine WL.s rfl rfl rfl ?_
        refine WL.r rfl rfl rfl (rd_pickt rfl rfl rfl) ?_
        refine WL.r rfl rfl rfl (rd_move rfl rfl) ?_
        refine WL.s rfl rfl rfl ?_
        refine WL.s rfl rfl rfl ?_
        refine WL.s rfl rfl rfl ?_
        refine WL.r rfl rfl rfl (rd_pickt rfl rfl rfl) ?_
        refine WL.nt ?_
        refine WC.cond rfl (fun _ => ?_) (fun h => by cases h)
        refine WC.sr ?_
        refine WL.r rfl rfl rfl (rd_assign rfl rfl) ?_
        refine WL.nt ?_
        refine WC.exit ?_
        refine WX.then_exit ?_
        refine WX.block_other rfl ?_
        refine WX.then_exit ?_
        refine WX.block_exit ?_
        refine WX.then_normal ?_
        refine WC.sr ?_
        refine WL.r rfl rfl rfl (rd_move rfl rfl) ?_
        refine WL.r rfl rfl rfl (rd_move rfl rfl) ?_
        refine WL.r rfl rfl rfl (rd_assign rfl rfl) ?_
        refine WL.r rfl rfl rfl (rd_assign rfl rfl) ?_
        refine WL.nt ?_
        refine WC.ret ?_
        refine WX.scope_ret ?_
        exact WX.retN rfl (.tmp rfl (.tmp rfl .nil)) fun w' hS => list_ret (by rw [← hu]; exact unlF_bad hne (by omega)) hq hS
      · (try simp only [decide_eq_true_eq, decide_eq_false_iff_not, Bool.not_eq_true', Bool.not_eq_false', Bool.not_not, Int.not_lt, Int.not_le] at hg17)
        refine WL.r rfl rfl rfl (rd_move rfl rfl) ?_
        refine WL.g rfl rfl rfl (og_call rfl rfl (by kernel_rfl) (keep_val fun w hS => num_c (by first | assumption | omega | (simp <;> omega) | (simp; done)))) ?_
        intro _
        refine WL.r rfl rfl rfl (rd_move rfl rfl) ?_
        refine WL.r rfl rfl rfl (rd_slen rfl rfl Try.underlying9) ?_
        first
          | (refine WL.r rfl rfl rfl (rd_sub64nl rfl rfl rfl ?_) ?_; (focus (first | assumption | omega | (simp <;> omega) | (simp; done))))
          | (refine WL.r rfl rfl rfl (rd_sub64 rfl rfl rfl ?_) ?_; (focus (first | assumption | omega | (simp <;> omega) | (simp; done))))
        refine WL.r rfl rfl rfl (rd_gtr rfl rfl rfl) ?_
        refine WL.r rfl rfl rfl (rd_pickf rfl rfl rfl) ?_
        refine WL.r rfl rfl rfl (rd_move rfl rfl) ?_
        refine WL.bool 25 rfl (fun hg25 => ?_) (fun hg25 => ?_)
        · (try simp only [decide_eq_true_eq, decide_eq_false_iff_not, Bool.not_eq_true', Bool.not_eq_false', Bool.not_not, Int.not_lt, Int.not_le] at hg25)
          refine WL.s rfl rfl rfl ?_
          refine WL.s rfl rfl rfl ?_
          refine WL.s rfl rfl rfl ?_
          refine WL.r rfl rfl rfl (rd_pickt rfl rfl rfl) ?_
          refine WL.nt ?_
          refine WC.cond rfl (fun _ => ?_) (fun h => by cases h)
          refine WC.sr ?_
          refine WL.r rfl rfl rfl (rd_assign rfl rfl) ?_
          refine WL.nt ?_
          refine WC.exit ?_
          refine WX.then_exit ?_
          refine WX.block_other rfl ?_
          refine WX.then_exit ?_
          refine WX.block_exit ?_
          refine WX.then_normal ?_
          refine WC.sr ?_
          refine WL.r rfl rfl rfl (rd_move rfl rfl) ?_
          refine WL.r rfl rfl rfl (rd_move rfl rfl) ?_
          refine WL.r rfl rfl rfl (rd_assign rfl rfl) ?_
          refine WL.r rfl rfl rfl (rd_assign rfl rfl) ?_
          refine WL.nt ?_
          refine WC.ret ?_
          refine WX.scope_ret ?_
          exact WX.retN rfl (.tmp rfl (.tmp rfl .nil)) fun w' hS => list_ret (by rw [← hu]; exact unlF_bad hne (by omega)) hq hS
        · (try simp only [decide_eq_true_eq, decide_eq_false_iff_not, Bool.not_eq_true', Bool.not_eq_false', Bool.not_not, Int.not_lt, Int.not_le] at hg25)
          refine WL.r rfl rfl rfl (rd_move rfl rfl) ?_
          refine WL.r rfl rfl rfl (rd_len rfl rfl Try.underlying22) ?_
          refine WL.r rfl rfl rfl (rd_eql rfl rfl rfl) ?_
          refine WL.r rfl rfl rfl (rd_pickf rfl rfl rfl) ?_
          refine WL.nt ?_
          refine WC.cond rfl (fun hc29 => ?_) (fun hc29 => ?_)
          · (try simp only [decide_eq_true_eq, decide_eq_false_iff_not, Bool.not_eq_true', Bool.not_eq_false', Bool.not_not, Int.not_lt, Int.not_le] at hc29)
            refine WC.sr ?_
            refine WL.r rfl rfl rfl (rd_assign rfl rfl) ?_
            refine WL.nt ?_
            refine WC.exit ?_
            refine WX.then_exit ?_
            refine WX.block_other rfl ?_
            refine WX.then_exit ?_
            refine WX.block_exit ?_
            refine WX.then_normal ?_
            refine WC.sr ?_
            refine WL.r rfl rfl rfl (rd_move rfl rfl) ?_
            refine WL.r rfl rfl rfl (rd_move rfl rfl) ?_
            refine WL.r rfl rfl rfl (rd_assign rfl rfl) ?_
            refine WL.r rfl rfl rfl (rd_assign rfl rfl) ?_
            refine WL.nt ?_
            refine WC.ret ?_
            refine WX.scope_ret ?_
            exact WX.retN rfl (.tmp rfl (.tmp rfl .nil)) fun w' hS => list_ret (by rw [← hu]; exact unlF_bad hne (by omega)) hq hS
          · (try simp only [decide_eq_true_eq, decide_eq_false_iff_not, Bool.not_eq_true', Bool.not_eq_false', Bool.not_not, Int.not_lt, Int.not_le] at hc29)
            have hn := unlF_next hne (acc := acc) (by omega)
            refine WC.skip ?_
            refine WX.then_normal ?_
            refine WC.sr ?_
            refine WL.r rfl rfl rfl (rd_move rfl rfl) ?_
            refine WL.g rfl rfl rfl (og_call rfl rfl (by kernel_rfl) (keep_val fun w hS => num_c (by first | assumption | omega | (simp <;> omega) | (simp; done)))) ?_
            intro _
            first
              | (refine WL.r rfl rfl rfl (rd_add64ln rfl rfl rfl ?_) ?_; (focus (first | assumption | omega | (simp <;> omega) | (simp; done))))
              | (refine WL.r rfl rfl rfl (rd_add64 rfl rfl rfl ?_) ?_; (focus (first | assumption | omega | (simp <;> omega) | (simp; done))))
            refine WL.r rfl rfl rfl (rd_assign rfl rfl) ?_
            refine WL.nt ?_
            refine WC.sr ?_
            refine WL.r rfl rfl rfl (rd_move rfl rfl) ?_
            refine WL.r rfl rfl rfl (rd_move rfl rfl) ?_
            refine WL.r rfl rfl rfl (rd_move rfl rfl) ?_
            refine WL.r rfl rfl rfl (rd_ss rfl rfl rfl rfl Try.underlying9 ?_) ?_
            · (try simp only [List.length_append, List.length_cons, List.length_nil]); omega
            refine WL.set 36 rfl (v' := .string (S ((t.drop 4).take (num4 t)))) (congrArg (fun l => Value.string (S l)) (by rw [Int.toNat_natCast]; show List.take (4 + num4 t - 4) (List.drop 4 t) = _; rw [Nat.add_sub_cancel_left])) ?_
            refine WL.g rfl rfl rfl (og_bs1 rfl rfl Try.underlying22 (by kernel_rfl : _ = some (some (.string (S [])), 1, 16)) rfl (by simp only [List.map]; rfl) rfl rfl ?_ (by decide)) ?_
            · simp [Value.cells]
            intro b37
            first
              | (refine WL.g rfl rfl rfl (appg rfl Try.underlying22 (by kernel_rfl : _ = some (some (.string (S [])), 1, 16)) rfl .tc rfl rfl (fun w hS => by first | exact hS.os | exact hS.sl | exact hS.oc) (by first | rfl | simp) ?_ ?_) ?_; (focus ((refine ⟨?_, ?_, ?_, ?_⟩ <;> (try simp) <;> omega))); (focus (first | (simp [Value.oneCell']; done) | (intro u hu; obtain ⟨_, _, rfl⟩ := List.mem_map.1 hu; rfl))))
              | (refine WL.g rfl rfl rfl (appf rfl Try.underlying22 (by kernel_rfl : _ = some (some (.string (S [])), 1, 16)) rfl .tc rfl rfl (fun w hS => by first | exact hS.os | exact hS.sl | exact hS.oc) (by first | rfl | simp) ?_ ?_) ?_; (focus ((refine ⟨?_, ?_, ?_, ?_⟩ <;> (try simp) <;> omega))); (focus (first | (simp [Value.oneCell']; done) | (intro u hu; obtain ⟨_, _, rfl⟩ := List.mem_map.1 hu; rfl))))
            rintro ⟨o38, c38, s38⟩
            refine WL.pu ?_
            intro hg38; (try dsimp only at hg38 ⊢)
            refine WL.r rfl rfl rfl (rd_assign rfl rfl) ?_
            refine WL.nt ?_
            refine WC.region ?_
            refine WL.r rfl rfl rfl (rd_move rfl rfl) ?_
            refine WL.r rfl rfl rfl (rd_move rfl rfl) ?_
            refine WL.r rfl rfl rfl (rd_sfrom rfl rfl rfl Try.underlying9 ?_) ?_
            · (try simp only [List.length_append, List.length_cons, List.length_nil]); omega
            refine WL.set 41 rfl (v' := .string (S (t.drop (4 + num4 t)))) (congrArg (fun l => Value.string (S l)) (by rw [Int.toNat_natCast])) ?_
            refine WL.r rfl rfl rfl (rd_assign rfl rfl) ?_
            refine WL.nil ?_
            refine WX.block_normal ?_
            refine WX.loopO ((t.drop (4 + num4 t), acc ++ [(t.drop 4).take (num4 t)], ⟨o38, c38, s38⟩)) (by simp; omega) (sub_cons rfl (sub_cons rfl (sub_nil _))) (by refine (sub_cons ?_ (sub_cons ?_ (sub_cons ?_ (sub_nil _)))) <;> (first | rfl | (simp only [List.length_append, List.length_cons, List.length_nil, Nat.zero_add]; rfl) | (dsimp only; first | rfl | (congr 2; omega) | (congr 3; omega)))) ?_ (by exact fun w h => by rw [strs_one]; exact st_sub _ h)
            (try dsimp only)
            exact ⟨hn.symm.trans hu, by simp; omega, by simpa using hg38, by simp; omega⟩
  · (try simp only [decide_eq_true_eq, decide_eq_false_iff_not, Bool.not_eq_true', Bool.not_eq_false', Bool.not_not, Int.not_lt, Int.not_le] at hc8)
    have h0 : t = [] := by simpa using hc8
    refine WC.exit ?_
    refine WX.then_exit ?_
    refine WX.then_exit ?_
    refine WX.block_exit ?_
    refine WX.then_normal ?_
    refine WC.sr ?_
    refine WL.r rfl rfl rfl (rd_move rfl rfl) ?_
    refine WL.r rfl rfl rfl (rd_move rfl rfl) ?_
    refine WL.r rfl rfl rfl (rd_assign rfl rfl) ?_
    refine WL.r rfl rfl rfl (rd_assign rfl rfl) ?_
    refine WL.nt ?_
    refine WC.ret ?_
    refine WX.scope_ret ?_
    exact WX.retN rfl (.tmp rfl (.tmp rfl .nil)) fun w' hS => list_ret (by rw [← hu, h0]; exact unlF_stop t acc) hq hS
end Go.Proofs.Ytijamoagkmjcjaa
