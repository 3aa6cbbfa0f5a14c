/-
  The statements about the journal: Append, Compact, Sync; repairs.
-/
import Derived.Test.YtijamoagkmjcjaaJouL
namespace Go.Proofs.Ytijamoagkmjcjaa
set_option linter.unusedSimpArgs false
set_option linter.unusedVariables false
set_option maxRecDepth 20000
set_option maxHeartbeats 600000
open Go.RowKit

theorem listJ_len (l : List Bs) : (listJ l).length = l.flatten.length + 4 * l.length := by
  induction l with
  | nil => rfl
  | cons s l ih =>
    have hj : listJ (s :: l) = four s.length ++ (s ++ listJ l) := by simp [listJ, List.flatMap_cons, List.append_assoc]
    rw [hj, List.length_append, List.length_append, four_len, ih, List.flatten_cons, List.length_append, List.length_cons]; omega
theorem opn_fail {d : Dk} (h : (opn d).2.2 ≠ 0) : (opn d).1 = [] ∧ (opn d).2.1 = .zero := by
  unfold opn at h ⊢; split
  · exact ⟨rfl, rfl⟩
  · split
    · exact ⟨rfl, rfl⟩
    · rename_i h1 h2; rw [if_neg h1, if_neg h2] at h; exact absurd rfl h
theorem writes_c {sf : Bs} {p : Sl Bs} {cr : Bool} {q : Sl Bs} {w : World} {ok : Nat → Prop} (hF1 : (Fact.sl p.a (strs p.l)).holds ok w) (hF2 : (Fact.sl q.a (strs q.l)).holds ok w) (hcap : p.l.length ≤ p.cap) (hcb : p.cap * 16 ≤ 140737488351232) (hqap : q.l.length ≤ q.cap) (hqb : q.cap * 16 ≤ 140737488351232) (hsf : sf.length ≤ 140737488351232) (hs : ∀ s ∈ p.l, s.length ≤ 140737488351232) (hq : ∀ s ∈ q.l, s.length ≤ 140737488351232) :
    Calls Try.prog 6 #[.agg #[.string (S sf), p.val, .bool cr], q.val] w fun e w' => e = .returned (.bool true) ∧ Below w.heap.size w w' := by
  have hl63 : p.l.length ≤ 9223372036854775807 := by omega
  have hq63 : q.l.length ≤ 9223372036854775807 := by omega
  refine enter (S := St (fun _ => True) w [] [Fact.sl p.a (strs p.l), Fact.sl q.a (strs q.l)]) (L := [(0, .agg #[.string (S sf), p.val, .bool cr]), (1, q.val)]) Try.func6 rfl Try.ntmps6 rfl (args_cons rfl (args_cons rfl (args_nil _))) (St.start (fun _ _ => trivial) (facts_cons (fact_any hF1) (facts_cons (fact_any hF2) facts_nil))) ?_
  refine WC.sr ?_
  refine WL.g rfl rfl rfl (og_box rfl rfl (by first | exact cells_agg _ | rfl)) ?_
  intro b2
  refine WL.r rfl rfl rfl (rd_assign rfl rfl) ?_
  refine WL.nt ?_
  refine WC.seq ?_
  refine WC.sr ?_
  refine WL.r rfl rfl rfl (lda rfl rfl .tc Try.underlying24 rfl ?_) ?_
  · kernel_rfl
  refine WL.g rfl rfl rfl (og_call rfl rfl (by kernel_rfl) (keep_val fun w hS => small_c (d := ⟨sf, p.l, cr⟩) (by first | exact hS.sl | exact hS.os | exact hS.oc | exact sl_takeM _ hS.sl | exact sl_dropM _ hS.sl | exact sl_cutM _ (by omega) hS.sl | exact sl_nil) (by first | assumption | omega | (dsimp only; first | assumption | omega) | (simp <;> omega) | (simp; done)) (by first | assumption | omega | (dsimp only; first | assumption | omega) | (simp <;> omega) | (simp; done)))) ?_
  intro _
  refine WL.r rfl rfl rfl (rd_not rfl rfl) ?_
  refine WL.r rfl rfl rfl (rd_move rfl rfl) ?_
  refine WL.bool 21 rfl (fun hg21 => ?_) (fun hg21 => ?_)
  · (try simp only [decide_eq_true_eq, decide_eq_false_iff_not, Bool.not_eq_true', Bool.not_eq_false', Bool.not_not, Int.not_lt, Int.not_le] at hg21)
    refine WL.s rfl rfl rfl ?_
    refine WL.s rfl rfl rfl ?_
    refine WL.s rfl rfl rfl ?_
    refine WL.r rfl rfl rfl (rd_pickt rfl rfl rfl) ?_
    refine WL.nt ?_
    refine WC.cond rfl (fun _ => ?_) (fun h => by cases h)
    refine WC.sr ?_
    refine WL.g rfl rfl rfl (og_call rfl rfl (by kernel_rfl) (keep_val fun w hS => awake_c)) ?_
    intro _
    refine WL.r rfl rfl rfl (rd_assign rfl rfl) ?_
    refine WL.nt ?_
    refine WC.ret ?_
    refine WX.then_ret ?_
    exact WX.retN rfl (.tmp rfl .nil) fun w' hS => ⟨by first | rfl | (simp [tup]; done) | (simp [*, tup]; done), hS.below⟩
  · (try simp only [decide_eq_true_eq, decide_eq_false_iff_not, Bool.not_eq_true', Bool.not_eq_false', Bool.not_not, Int.not_lt, Int.not_le] at hg21)
    refine WL.r rfl rfl rfl (rd_move rfl rfl) ?_
    refine WL.g rfl rfl rfl (og_call rfl rfl (by kernel_rfl) (keep_val fun w hS => few_c (l := q.l) (by first | exact hS.sl | exact hS.os | exact hS.oc | exact sl_takeM _ hS.sl | exact sl_dropM _ hS.sl | exact sl_cutM _ (by omega) hS.sl | exact sl_nil) (by first | assumption | omega | (dsimp only; first | assumption | omega) | (simp <;> omega) | (simp; done)) (by first | assumption | omega | (dsimp only; first | assumption | omega) | (simp <;> omega) | (simp; done)))) ?_
    intro _
    refine WL.r rfl rfl rfl (rd_not rfl rfl) ?_
    refine WL.r rfl rfl rfl (rd_pickf rfl rfl rfl) ?_
    refine WL.nt ?_
    refine WC.cond rfl (fun hc25 => ?_) (fun hc25 => ?_)
    · (try simp only [decide_eq_true_eq, decide_eq_false_iff_not, Bool.not_eq_true', Bool.not_eq_false', Bool.not_not, Int.not_lt, Int.not_le] at hc25)
      refine WC.sr ?_
      refine WL.g rfl rfl rfl (og_call rfl rfl (by kernel_rfl) (keep_val fun w hS => awake_c)) ?_
      intro _
      refine WL.r rfl rfl rfl (rd_assign rfl rfl) ?_
      refine WL.nt ?_
      refine WC.ret ?_
      refine WX.then_ret ?_
      exact WX.retN rfl (.tmp rfl .nil) fun w' hS => ⟨by first | rfl | (simp [tup]; done) | (simp [*, tup]; done), hS.below⟩
    · (try simp only [decide_eq_true_eq, decide_eq_false_iff_not, Bool.not_eq_true', Bool.not_eq_false', Bool.not_not, Int.not_lt, Int.not_le] at hc25)
      have hsm : sf.length ≤ 3000 ∧ fewP p.l := by simp_all
      have hsq : fewP q.l := by simp_all
      obtain ⟨hsm1, hsm2, hsm3⟩ := hsm
      obtain ⟨hsq1, hsq2⟩ := hsq
      have hjl := listJ_len q.l
      refine WC.skip ?_
      refine WX.then_normal ?_
      refine WC.sr ?_
      refine WL.r rfl rfl rfl (rd_assign rfl rfl) ?_
      refine WL.nt ?_
      refine WC.seq ?_
      refine WC.sr ?_
      refine WL.r rfl rfl rfl (rd_move rfl rfl) ?_
      refine WL.r rfl rfl rfl (rd_len rfl rfl Try.underlying22) ?_
      refine WL.r rfl rfl rfl (rd_gtr rfl rfl rfl) ?_
      refine WL.nt ?_
      refine WC.cond rfl (fun hc29 => ?_) (fun hc29 => ?_)
      · (try simp only [decide_eq_true_eq, decide_eq_false_iff_not, Bool.not_eq_true', Bool.not_eq_false', Bool.not_not, Int.not_lt, Int.not_le] at hc29)
        refine WC.region ?_
        refine WL.r rfl rfl rfl (rd_move rfl rfl) ?_
        first
          | (refine WL.r rfl rfl rfl (rd_ia rfl rfl rfl Try.underlying22 (by kernel_rfl : _ = some 1) ?_ (by (try simp only [Int.toNat_natCast, Nat.mul_one, Nat.zero_add, Nat.add_zero, Nat.zero_mul, Int.reduceToNat, Nat.reduceAdd, Nat.reduceMul, Nat.reduceSub, Nat.sub_zero]); rfl)) ?_; (focus (first | assumption | omega | (dsimp only; first | assumption | omega) | (simp <;> omega) | (simp; done))))
          | (refine WL.r rfl rfl rfl (iaf rfl rfl rfl Try.underlying22 (by kernel_rfl : _ = some 1) ?_ ?_ (by (try simp only [Int.toNat_natCast, Nat.mul_one, Nat.zero_add, Nat.add_zero, Nat.zero_mul, Int.reduceToNat, Nat.reduceAdd, Nat.reduceMul, Nat.reduceSub, Nat.sub_zero]); rfl)) ?_; (focus (first | assumption | omega | (dsimp only; first | assumption | omega) | (simp <;> omega) | (simp; done))); (focus (first | (rw [List.length_map]; omega) | (rw [flatMap_len _ _ _ (fun _ => rfl)]; omega) | (simp <;> omega))))
          | (refine WL.r rfl rfl rfl (iao rfl rfl rfl Try.underlying22 (by kernel_rfl : _ = some 1) ?_ ?_ (by (try simp only [Int.toNat_natCast, Nat.mul_one, Nat.zero_add, Nat.add_zero, Nat.zero_mul, Int.reduceToNat, Nat.reduceAdd, Nat.reduceMul, Nat.reduceSub, Nat.sub_zero]); rfl)) ?_; (focus (first | assumption | omega | (dsimp only; first | assumption | omega) | (simp <;> omega) | (simp; done))); (focus (first | (simp <;> omega) | (rw [List.length_append, List.length_map]; omega))))
        first
          | (refine WL.r rfl rfl rfl (ld rfl rfl .tc Try.underlying9 rfl (by rfl)) ?_)
          | (refine WL.r rfl rfl rfl (ldm rfl rfl Try.underlying9 rfl ?_) ?_; (focus (first | assumption | omega | (dsimp only; first | assumption | omega) | (simp <;> omega) | (simp; done))))
          | (refine WL.r rfl rfl rfl (ldom rfl rfl Try.underlying9 rfl ?_) ?_; (focus (first | assumption | omega | (dsimp only; first | assumption | omega) | (simp <;> omega) | (simp; done))))
        refine WL.r rfl rfl rfl (rd_assign rfl rfl) ?_
        refine WL.nt ?_
        refine WC.sr ?_
        refine WL.r rfl rfl rfl (lda rfl rfl .tc Try.underlying24 rfl ?_) ?_
        · kernel_rfl
        refine WL.r rfl rfl rfl (rd_move rfl rfl) ?_
        refine WL.g rfl rfl rfl (og_call rfl rfl (by kernel_rfl) (keep_f1 fun w hS => append_c (d := ⟨sf, p.l, cr⟩) (by first | exact hS.sl | exact hS.os | exact hS.oc | exact sl_takeM _ hS.sl | exact sl_dropM _ hS.sl | exact sl_cutM _ (by omega) hS.sl | exact sl_nil) (by first | assumption | omega | (dsimp only; first | assumption | omega) | (simp <;> omega) | (simp; done)))) ?_
        intro g36
        refine WL.pu ?_
        intro hg36; (try dsimp only at hg36 ⊢)
        refine WL.r rfl rfl rfl (rd_move rfl rfl) ?_
        refine WL.r rfl rfl rfl (rd_extL rfl rfl rfl) ?_
        refine WL.r rfl rfl rfl (rd_extL rfl rfl rfl) ?_
        refine WL.g rfl rfl rfl (og_alloc rfl (v := (.agg #[.string (S []), .slice none 0 0, .bool false])) (cs := [.string (S []), .slice none 0 0, .bool false]) (by kernel_rfl) rfl) ?_
        intro b6
        refine WL.g0 rfl rfl (sta rfl rfl rfl .tc ?_ ?_ ?_) ?_
        · kernel_rfl
        · simp [Value.oneCell']
        · first | rfl | simp
        intro _
        refine WL.r rfl rfl rfl (rd_assign rfl rfl) ?_
        refine WL.nt ?_
        refine WC.sr ?_
        refine WL.r rfl rfl rfl (lda rfl rfl .tc Try.underlying24 rfl ?_) ?_
        · kernel_rfl
        refine WL.r rfl rfl rfl (rd_move rfl rfl) ?_
        refine WL.g rfl rfl rfl (og_call rfl rfl (by kernel_rfl) (keep_f1 fun w hS => rappend_c (d := ⟨sf, p.l, cr⟩) (by first | exact hS.sl | exact hS.os | exact hS.oc | exact sl_takeM _ hS.sl | exact sl_dropM _ hS.sl | exact sl_cutM _ (by omega) hS.sl | exact sl_nil) (by first | assumption | omega | (dsimp only; first | assumption | omega) | (simp <;> omega) | (simp; done)))) ?_
        intro g42
        refine WL.pu ?_
        intro hg42; (try dsimp only at hg42 ⊢)
        refine WL.r rfl rfl rfl (rd_move rfl rfl) ?_
        refine WL.r rfl rfl rfl (rd_extL rfl rfl rfl) ?_
        refine WL.r rfl rfl rfl (rd_extL rfl rfl rfl) ?_
        refine WL.g rfl rfl rfl (og_alloc rfl (v := (.agg #[.string (S []), .slice none 0 0, .bool false])) (cs := [.string (S []), .slice none 0 0, .bool false]) (by kernel_rfl) rfl) ?_
        intro b8
        refine WL.g0 rfl rfl (sta rfl rfl rfl .tc ?_ ?_ ?_) ?_
        · kernel_rfl
        · simp [Value.oneCell']
        · first | rfl | simp
        intro _
        refine WL.r rfl rfl rfl (rd_assign rfl rfl) ?_
        refine WL.nt ?_
        refine WC.sr ?_
        refine WL.r rfl rfl rfl (lda rfl rfl .tc Try.underlying24 rfl ?_) ?_
        · kernel_rfl
        refine WL.r rfl rfl rfl (rd_move rfl rfl) ?_
        refine WL.g rfl rfl rfl (og_call rfl rfl (by kernel_rfl) (keep_f1 fun w hS => compact_c (d := ⟨sf, p.l, cr⟩) (l := q.l) (by first | exact hS.sl | exact hS.os | exact hS.oc | exact sl_takeM _ hS.sl | exact sl_dropM _ hS.sl | exact sl_cutM _ (by omega) hS.sl | exact sl_nil) (by first | exact hS.sl | exact hS.os | exact hS.oc | exact sl_takeM _ hS.sl | exact sl_dropM _ hS.sl | exact sl_cutM _ (by omega) hS.sl | exact sl_nil) (by first | assumption | omega | (dsimp only; first | assumption | omega) | (simp <;> omega) | (simp; done)) (by first | assumption | omega | (dsimp only; first | assumption | omega) | (simp <;> omega) | (simp; done)) (by first | assumption | omega | (dsimp only; first | assumption | omega) | (simp <;> omega) | (simp; done)))) ?_
        intro g48
        refine WL.pu ?_
        intro hg48; (try dsimp only at hg48 ⊢)
        refine WL.r rfl rfl rfl (rd_move rfl rfl) ?_
        refine WL.r rfl rfl rfl (rd_extL rfl rfl rfl) ?_
        refine WL.r rfl rfl rfl (rd_extL rfl rfl rfl) ?_
        refine WL.g rfl rfl rfl (og_alloc rfl (v := (.agg #[.string (S []), .slice none 0 0, .bool false])) (cs := [.string (S []), .slice none 0 0, .bool false]) (by kernel_rfl) rfl) ?_
        intro b10
        refine WL.g0 rfl rfl (sta rfl rfl rfl .tc ?_ ?_ ?_) ?_
        · kernel_rfl
        · simp [Value.oneCell']
        · first | rfl | simp
        intro _
        refine WL.r rfl rfl rfl (rd_assign rfl rfl) ?_
        refine WL.nt ?_
        refine WC.sr ?_
        refine WL.r rfl rfl rfl (lda rfl rfl .tc Try.underlying24 rfl ?_) ?_
        · kernel_rfl
        refine WL.r rfl rfl rfl (rd_move rfl rfl) ?_
        refine WL.g rfl rfl rfl (og_call rfl rfl (by kernel_rfl) (keep_f1 fun w hS => rcompact_c (d := ⟨sf, p.l, cr⟩) (l := q.l) (by first | exact hS.sl | exact hS.os | exact hS.oc | exact sl_takeM _ hS.sl | exact sl_dropM _ hS.sl | exact sl_cutM _ (by omega) hS.sl | exact sl_nil) (by first | exact hS.sl | exact hS.os | exact hS.oc | exact sl_takeM _ hS.sl | exact sl_dropM _ hS.sl | exact sl_cutM _ (by omega) hS.sl | exact sl_nil) (by first | assumption | omega | (dsimp only; first | assumption | omega) | (simp <;> omega) | (simp; done)) (by first | assumption | omega | (dsimp only; first | assumption | omega) | (simp <;> omega) | (simp; done)) (by first | assumption | omega | (dsimp only; first | assumption | omega) | (simp <;> omega) | (simp; done)))) ?_
        intro g54
        refine WL.pu ?_
        intro hg54; (try dsimp only at hg54 ⊢)
        refine WL.r rfl rfl rfl (rd_move rfl rfl) ?_
        refine WL.r rfl rfl rfl (rd_extL rfl rfl rfl) ?_
        refine WL.r rfl rfl rfl (rd_extL rfl rfl rfl) ?_
        refine WL.g rfl rfl rfl (og_alloc rfl (v := (.agg #[.string (S []), .slice none 0 0, .bool false])) (cs := [.string (S []), .slice none 0 0, .bool false]) (by kernel_rfl) rfl) ?_
        intro b12
        refine WL.g0 rfl rfl (sta rfl rfl rfl .tc ?_ ?_ ?_) ?_
        · kernel_rfl
        · simp [Value.oneCell']
        · first | rfl | simp
        intro _
        refine WL.r rfl rfl rfl (rd_assign rfl rfl) ?_
        refine WL.nt ?_
        refine WC.sr ?_
        refine WL.r rfl rfl rfl (lda rfl rfl .tc Try.underlying24 rfl ?_) ?_
        · kernel_rfl
        refine WL.g rfl rfl rfl (og_call rfl rfl (by kernel_rfl) (keep_f1 fun w hS => sync_c (d := ⟨sf, p.l, cr⟩) (by first | exact hS.sl | exact hS.os | exact hS.oc | exact sl_takeM _ hS.sl | exact sl_dropM _ hS.sl | exact sl_cutM _ (by omega) hS.sl | exact sl_nil) (by first | assumption | omega | (dsimp only; first | assumption | omega) | (simp <;> omega) | (simp; done)) (by first | assumption | omega | (dsimp only; first | assumption | omega) | (simp <;> omega) | (simp; done)) (by first | assumption | omega | (dsimp only; first | assumption | omega) | (simp <;> omega) | (simp; done)) (by first | assumption | omega | (dsimp only; first | assumption | omega) | (simp <;> omega) | (simp; done)))) ?_
        intro g59
        refine WL.pu ?_
        intro hg59; (try dsimp only at hg59 ⊢)
        refine WL.r rfl rfl rfl (rd_move rfl rfl) ?_
        refine WL.r rfl rfl rfl (rd_extL rfl rfl rfl) ?_
        refine WL.r rfl rfl rfl (rd_extL rfl rfl rfl) ?_
        refine WL.g rfl rfl rfl (og_alloc rfl (v := (.agg #[.string (S []), .slice none 0 0, .bool false])) (cs := [.string (S []), .slice none 0 0, .bool false]) (by kernel_rfl) rfl) ?_
        intro b14
        refine WL.g0 rfl rfl (sta rfl rfl rfl .tc ?_ ?_ ?_) ?_
        · kernel_rfl
        · simp [Value.oneCell']
        · first | rfl | simp
        intro _
        refine WL.r rfl rfl rfl (rd_assign rfl rfl) ?_
        refine WL.nt ?_
        refine WC.sr ?_
        refine WL.r rfl rfl rfl (lda rfl rfl .tc Try.underlying24 rfl ?_) ?_
        · kernel_rfl
        refine WL.g rfl rfl rfl (og_call rfl rfl (by kernel_rfl) (keep_f1 fun w hS => rsync_c (d := ⟨sf, p.l, cr⟩) (by first | exact hS.sl | exact hS.os | exact hS.oc | exact sl_takeM _ hS.sl | exact sl_dropM _ hS.sl | exact sl_cutM _ (by omega) hS.sl | exact sl_nil) (by first | assumption | omega | (dsimp only; first | assumption | omega) | (simp <;> omega) | (simp; done)) (by first | assumption | omega | (dsimp only; first | assumption | omega) | (simp <;> omega) | (simp; done)) (by first | assumption | omega | (dsimp only; first | assumption | omega) | (simp <;> omega) | (simp; done)) (by first | assumption | omega | (dsimp only; first | assumption | omega) | (simp <;> omega) | (simp; done)))) ?_
        intro g64
        refine WL.pu ?_
        intro hg64; (try dsimp only at hg64 ⊢)
        refine WL.r rfl rfl rfl (rd_move rfl rfl) ?_
        refine WL.r rfl rfl rfl (rd_extL rfl rfl rfl) ?_
        refine WL.r rfl rfl rfl (rd_extL rfl rfl rfl) ?_
        refine WL.g rfl rfl rfl (og_alloc rfl (v := (.agg #[.string (S []), .slice none 0 0, .bool false])) (cs := [.string (S []), .slice none 0 0, .bool false]) (by kernel_rfl) rfl) ?_
        intro b16
        refine WL.g0 rfl rfl (sta rfl rfl rfl .tc ?_ ?_ ?_) ?_
        · kernel_rfl
        · simp [Value.oneCell']
        · first | rfl | simp
        intro _
        refine WL.r rfl rfl rfl (rd_assign rfl rfl) ?_
        refine WL.nt ?_
        refine WC.sr ?_
        refine WL.g rfl rfl rfl (og_call rfl rfl (by kernel_rfl) (keep_val fun w hS => awake_c)) ?_
        intro _
        refine WL.r rfl rfl rfl (rd_move rfl rfl) ?_
        refine WL.set 68 rfl (v' := .bool true) (by first | rfl | exact congrArg Value.bool (by simp [*]; done) | exact congrArg Value.bool (by simp; omega)) ?_
        refine WL.r rfl rfl rfl (lda rfl rfl .tc Try.underlying24 rfl ?_) ?_
        · kernel_rfl
        refine WL.r rfl rfl rfl (lda rfl rfl .tc Try.underlying24 rfl ?_) ?_
        · kernel_rfl
        refine WL.g rfl rfl rfl (og_call rfl rfl (by kernel_rfl) (keep_val fun w hS => Same_c (by first | exact hS.sl | exact hS.os | exact hS.oc | exact sl_takeM _ hS.sl | exact sl_dropM _ hS.sl | exact sl_cutM _ (by omega) hS.sl | exact sl_nil) (by first | exact hS.sl | exact hS.os | exact hS.oc | exact sl_takeM _ hS.sl | exact sl_dropM _ hS.sl | exact sl_cutM _ (by omega) hS.sl | exact sl_nil) (by exact Nat.le_trans (appendD_pend _ _) (by dsimp only; omega)) (by exact Nat.le_trans (appendD_pend _ _) (by dsimp only; omega)))) ?_
        intro _
        refine WL.r rfl rfl rfl (rd_pickt rfl rfl rfl) ?_
        refine WL.r rfl rfl rfl (rd_move rfl rfl) ?_
        refine WL.set 73 rfl (v' := .bool true) (by first | rfl | exact congrArg Value.bool (by simp [*]; done) | exact congrArg Value.bool (by simp; omega)) ?_
        refine WL.r rfl rfl rfl (rd_move rfl rfl) ?_
        refine WL.r rfl rfl rfl (rd_move rfl rfl) ?_
        refine WL.r rfl rfl rfl (rd_eql rfl rfl rfl) ?_
        refine WL.r rfl rfl rfl (rd_pickt rfl rfl rfl) ?_
        refine WL.r rfl rfl rfl (rd_move rfl rfl) ?_
        refine WL.set 78 rfl (v' := .bool true) (by first | rfl | exact congrArg Value.bool (by simp [*]; done) | exact congrArg Value.bool (by simp; omega)) ?_
        refine WL.r rfl rfl rfl (lda rfl rfl .tc Try.underlying24 rfl ?_) ?_
        · kernel_rfl
        refine WL.r rfl rfl rfl (lda rfl rfl .tc Try.underlying24 rfl ?_) ?_
        · kernel_rfl
        refine WL.g rfl rfl rfl (og_call rfl rfl (by kernel_rfl) (keep_val fun w hS => Same_c (by first | exact hS.sl | exact hS.os | exact hS.oc | exact sl_takeM _ hS.sl | exact sl_dropM _ hS.sl | exact sl_cutM _ (by omega) hS.sl | exact sl_nil) (by first | exact hS.sl | exact hS.os | exact hS.oc | exact sl_takeM _ hS.sl | exact sl_dropM _ hS.sl | exact sl_cutM _ (by omega) hS.sl | exact sl_nil) (by exact Nat.le_trans (compactD_pend _ _) (by dsimp only; omega)) (by exact Nat.le_trans (compactD_pend _ _) (by dsimp only; omega)))) ?_
        intro _
        refine WL.r rfl rfl rfl (rd_pickt rfl rfl rfl) ?_
        refine WL.r rfl rfl rfl (rd_move rfl rfl) ?_
        refine WL.set 83 rfl (v' := .bool true) (by first | rfl | exact congrArg Value.bool (by simp [*]; done) | exact congrArg Value.bool (by simp; omega)) ?_
        refine WL.r rfl rfl rfl (rd_move rfl rfl) ?_
        refine WL.r rfl rfl rfl (rd_move rfl rfl) ?_
        refine WL.r rfl rfl rfl (rd_eql rfl rfl rfl) ?_
        refine WL.r rfl rfl rfl (rd_pickt rfl rfl rfl) ?_
        refine WL.r rfl rfl rfl (rd_move rfl rfl) ?_
        refine WL.set 88 rfl (v' := .bool true) (by first | rfl | exact congrArg Value.bool (by simp [*]; done) | exact congrArg Value.bool (by simp; omega)) ?_
        refine WL.r rfl rfl rfl (lda rfl rfl .tc Try.underlying24 rfl ?_) ?_
        · kernel_rfl
        refine WL.r rfl rfl rfl (lda rfl rfl .tc Try.underlying24 rfl ?_) ?_
        · kernel_rfl
        refine WL.g rfl rfl rfl (og_call rfl rfl (by kernel_rfl) (keep_val fun w hS => Same_c (by first | exact hS.sl | exact hS.os | exact hS.oc | exact sl_takeM _ hS.sl | exact sl_dropM _ hS.sl | exact sl_cutM _ (by omega) hS.sl | exact sl_nil) (by first | exact hS.sl | exact hS.os | exact hS.oc | exact sl_takeM _ hS.sl | exact sl_dropM _ hS.sl | exact sl_cutM _ (by omega) hS.sl | exact sl_nil) (by rw [syncD_pend]; simp) (by rw [syncD_pend]; simp))) ?_
        intro _
        refine WL.r rfl rfl rfl (rd_pickt rfl rfl rfl) ?_
        refine WL.r rfl rfl rfl (rd_move rfl rfl) ?_
        refine WL.set 93 rfl (v' := .bool true) (by first | rfl | exact congrArg Value.bool (by simp [*]; done) | exact congrArg Value.bool (by simp; omega)) ?_
        refine WL.r rfl rfl rfl (rd_move rfl rfl) ?_
        refine WL.r rfl rfl rfl (rd_move rfl rfl) ?_
        refine WL.r rfl rfl rfl (rd_eql rfl rfl rfl) ?_
        refine WL.r rfl rfl rfl (rd_pickt rfl rfl rfl) ?_
        refine WL.r rfl rfl rfl (rd_assign rfl rfl) ?_
        refine WL.nt ?_
        refine WC.ret ?_
        exact WX.retN rfl (.tmp rfl .nil) fun w' hS => ⟨by first | rfl | (simp [tup]; done) | (simp [*, tup]; done), hS.below⟩
      · (try simp only [decide_eq_true_eq, decide_eq_false_iff_not, Bool.not_eq_true', Bool.not_eq_false', Bool.not_not, Int.not_lt, Int.not_le] at hc29)
        refine WC.skip ?_
        refine WX.then_normal ?_
        refine WC.sr ?_
        refine WL.r rfl rfl rfl (lda rfl rfl .tc Try.underlying24 rfl ?_) ?_
        · kernel_rfl
        refine WL.r rfl rfl rfl (rd_move rfl rfl) ?_
        refine WL.g rfl rfl rfl (og_call rfl rfl (by kernel_rfl) (keep_f1 fun w hS => append_c (d := ⟨sf, p.l, cr⟩) (by first | exact hS.sl | exact hS.os | exact hS.oc | exact sl_takeM _ hS.sl | exact sl_dropM _ hS.sl | exact sl_cutM _ (by omega) hS.sl | exact sl_nil) (by first | assumption | omega | (dsimp only; first | assumption | omega) | (simp <;> omega) | (simp; done)))) ?_
        intro g36
        refine WL.pu ?_
        intro hg36; (try dsimp only at hg36 ⊢)
        refine WL.r rfl rfl rfl (rd_move rfl rfl) ?_
        refine WL.r rfl rfl rfl (rd_extL rfl rfl rfl) ?_
        refine WL.r rfl rfl rfl (rd_extL rfl rfl rfl) ?_
        refine WL.g rfl rfl rfl (og_alloc rfl (v := (.agg #[.string (S []), .slice none 0 0, .bool false])) (cs := [.string (S []), .slice none 0 0, .bool false]) (by kernel_rfl) rfl) ?_
        intro b6
        refine WL.g0 rfl rfl (sta rfl rfl rfl .tc ?_ ?_ ?_) ?_
        · kernel_rfl
        · simp [Value.oneCell']
        · first | rfl | simp
        intro _
        refine WL.r rfl rfl rfl (rd_assign rfl rfl) ?_
        refine WL.nt ?_
        refine WC.sr ?_
        refine WL.r rfl rfl rfl (lda rfl rfl .tc Try.underlying24 rfl ?_) ?_
        · kernel_rfl
        refine WL.r rfl rfl rfl (rd_move rfl rfl) ?_
        refine WL.g rfl rfl rfl (og_call rfl rfl (by kernel_rfl) (keep_f1 fun w hS => rappend_c (d := ⟨sf, p.l, cr⟩) (by first | exact hS.sl | exact hS.os | exact hS.oc | exact sl_takeM _ hS.sl | exact sl_dropM _ hS.sl | exact sl_cutM _ (by omega) hS.sl | exact sl_nil) (by first | assumption | omega | (dsimp only; first | assumption | omega) | (simp <;> omega) | (simp; done)))) ?_
        intro g42
        refine WL.pu ?_
        intro hg42; (try dsimp only at hg42 ⊢)
        refine WL.r rfl rfl rfl (rd_move rfl rfl) ?_
        refine WL.r rfl rfl rfl (rd_extL rfl rfl rfl) ?_
        refine WL.r rfl rfl rfl (rd_extL rfl rfl rfl) ?_
        refine WL.g rfl rfl rfl (og_alloc rfl (v := (.agg #[.string (S []), .slice none 0 0, .bool false])) (cs := [.string (S []), .slice none 0 0, .bool false]) (by kernel_rfl) rfl) ?_
        intro b8
        refine WL.g0 rfl rfl (sta rfl rfl rfl .tc ?_ ?_ ?_) ?_
        · kernel_rfl
        · simp [Value.oneCell']
        · first | rfl | simp
        intro _
        refine WL.r rfl rfl rfl (rd_assign rfl rfl) ?_
        refine WL.nt ?_
        refine WC.sr ?_
        refine WL.r rfl rfl rfl (lda rfl rfl .tc Try.underlying24 rfl ?_) ?_
        · kernel_rfl
        refine WL.r rfl rfl rfl (rd_move rfl rfl) ?_
        refine WL.g rfl rfl rfl (og_call rfl rfl (by kernel_rfl) (keep_f1 fun w hS => compact_c (d := ⟨sf, p.l, cr⟩) (l := q.l) (by first | exact hS.sl | exact hS.os | exact hS.oc | exact sl_takeM _ hS.sl | exact sl_dropM _ hS.sl | exact sl_cutM _ (by omega) hS.sl | exact sl_nil) (by first | exact hS.sl | exact hS.os | exact hS.oc | exact sl_takeM _ hS.sl | exact sl_dropM _ hS.sl | exact sl_cutM _ (by omega) hS.sl | exact sl_nil) (by first | assumption | omega | (dsimp only; first | assumption | omega) | (simp <;> omega) | (simp; done)) (by first | assumption | omega | (dsimp only; first | assumption | omega) | (simp <;> omega) | (simp; done)) (by first | assumption | omega | (dsimp only; first | assumption | omega) | (simp <;> omega) | (simp; done)))) ?_
        intro g48
        refine WL.pu ?_
        intro hg48; (try dsimp only at hg48 ⊢)
        refine WL.r rfl rfl rfl (rd_move rfl rfl) ?_
        refine WL.r rfl rfl rfl (rd_extL rfl rfl rfl) ?_
        refine WL.r rfl rfl rfl (rd_extL rfl rfl rfl) ?_
        refine WL.g rfl rfl rfl (og_alloc rfl (v := (.agg #[.string (S []), .slice none 0 0, .bool false])) (cs := [.string (S []), .slice none 0 0, .bool false]) (by kernel_rfl) rfl) ?_
        intro b10
        refine WL.g0 rfl rfl (sta rfl rfl rfl .tc ?_ ?_ ?_) ?_
        · kernel_rfl
        · simp [Value.oneCell']
        · first | rfl | simp
        intro _
        refine WL.r rfl rfl rfl (rd_assign rfl rfl) ?_
        refine WL.nt ?_
        refine WC.sr ?_
        refine WL.r rfl rfl rfl (lda rfl rfl .tc Try.underlying24 rfl ?_) ?_
        · kernel_rfl
        refine WL.r rfl rfl rfl (rd_move rfl rfl) ?_
        refine WL.g rfl rfl rfl (og_call rfl rfl (by kernel_rfl) (keep_f1 fun w hS => rcompact_c (d := ⟨sf, p.l, cr⟩) (l := q.l) (by first | exact hS.sl | exact hS.os | exact hS.oc | exact sl_takeM _ hS.sl | exact sl_dropM _ hS.sl | exact sl_cutM _ (by omega) hS.sl | exact sl_nil) (by first | exact hS.sl | exact hS.os | exact hS.oc | exact sl_takeM _ hS.sl | exact sl_dropM _ hS.sl | exact sl_cutM _ (by omega) hS.sl | exact sl_nil) (by first | assumption | omega | (dsimp only; first | assumption | omega) | (simp <;> omega) | (simp; done)) (by first | assumption | omega | (dsimp only; first | assumption | omega) | (simp <;> omega) | (simp; done)) (by first | assumption | omega | (dsimp only; first | assumption | omega) | (simp <;> omega) | (simp; done)))) ?_
        intro g54
        refine WL.pu ?_
        intro hg54; (try dsimp only at hg54 ⊢)
        refine WL.r rfl rfl rfl (rd_move rfl rfl) ?_
        refine WL.r rfl rfl rfl (rd_extL rfl rfl rfl) ?_
        refine WL.r rfl rfl rfl (rd_extL rfl rfl rfl) ?_
        refine WL.g rfl rfl rfl (og_alloc rfl (v := (.agg #[.string (S []), .slice none 0 0, .bool false])) (cs := [.string (S []), .slice none 0 0, .bool false]) (by kernel_rfl) rfl) ?_
        intro b12
        refine WL.g0 rfl rfl (sta rfl rfl rfl .tc ?_ ?_ ?_) ?_
        · kernel_rfl
        · simp [Value.oneCell']
        · first | rfl | simp
        intro _
        refine WL.r rfl rfl rfl (rd_assign rfl rfl) ?_
        refine WL.nt ?_
        refine WC.sr ?_
        refine WL.r rfl rfl rfl (lda rfl rfl .tc Try.underlying24 rfl ?_) ?_
        · kernel_rfl
        refine WL.g rfl rfl rfl (og_call rfl rfl (by kernel_rfl) (keep_f1 fun w hS => sync_c (d := ⟨sf, p.l, cr⟩) (by first | exact hS.sl | exact hS.os | exact hS.oc | exact sl_takeM _ hS.sl | exact sl_dropM _ hS.sl | exact sl_cutM _ (by omega) hS.sl | exact sl_nil) (by first | assumption | omega | (dsimp only; first | assumption | omega) | (simp <;> omega) | (simp; done)) (by first | assumption | omega | (dsimp only; first | assumption | omega) | (simp <;> omega) | (simp; done)) (by first | assumption | omega | (dsimp only; first | assumption | omega) | (simp <;> omega) | (simp; done)) (by first | assumption | omega | (dsimp only; first | assumption | omega) | (simp <;> omega) | (simp; done)))) ?_
        intro g59
        refine WL.pu ?_
        intro hg59; (try dsimp only at hg59 ⊢)
        refine WL.r rfl rfl rfl (rd_move rfl rfl) ?_
        refine WL.r rfl rfl rfl (rd_extL rfl rfl rfl) ?_
        refine WL.r rfl rfl rfl (rd_extL rfl rfl rfl) ?_
        refine WL.g rfl rfl rfl (og_alloc rfl (v := (.agg #[.string (S []), .slice none 0 0, .bool false])) (cs := [.string (S []), .slice none 0 0, .bool false]) (by kernel_rfl) rfl) ?_
        intro b14
        refine WL.g0 rfl rfl (sta rfl rfl rfl .tc ?_ ?_ ?_) ?_
        · kernel_rfl
        · simp [Value.oneCell']
        · first | rfl | simp
        intro _
        refine WL.r rfl rfl rfl (rd_assign rfl rfl) ?_
        refine WL.nt ?_
        refine WC.sr ?_
        refine WL.r rfl rfl rfl (lda rfl rfl .tc Try.underlying24 rfl ?_) ?_
        · kernel_rfl
        refine WL.g rfl rfl rfl (og_call rfl rfl (by kernel_rfl) (keep_f1 fun w hS => rsync_c (d := ⟨sf, p.l, cr⟩) (by first | exact hS.sl | exact hS.os | exact hS.oc | exact sl_takeM _ hS.sl | exact sl_dropM _ hS.sl | exact sl_cutM _ (by omega) hS.sl | exact sl_nil) (by first | assumption | omega | (dsimp only; first | assumption | omega) | (simp <;> omega) | (simp; done)) (by first | assumption | omega | (dsimp only; first | assumption | omega) | (simp <;> omega) | (simp; done)) (by first | assumption | omega | (dsimp only; first | assumption | omega) | (simp <;> omega) | (simp; done)) (by first | assumption | omega | (dsimp only; first | assumption | omega) | (simp <;> omega) | (simp; done)))) ?_
        intro g64
        refine WL.pu ?_
        intro hg64; (try dsimp only at hg64 ⊢)
        refine WL.r rfl rfl rfl (rd_move rfl rfl) ?_
        refine WL.r rfl rfl rfl (rd_extL rfl rfl rfl) ?_
        refine WL.r rfl rfl rfl (rd_extL rfl rfl rfl) ?_
        refine WL.g rfl rfl rfl (og_alloc rfl (v := (.agg #[.string (S []), .slice none 0 0, .bool false])) (cs := [.string (S []), .slice none 0 0, .bool false]) (by kernel_rfl) rfl) ?_
        intro b16
        refine WL.g0 rfl rfl (sta rfl rfl rfl .tc ?_ ?_ ?_) ?_
        · kernel_rfl
        · simp [Value.oneCell']
        · first | rfl | simp
        intro _
        refine WL.r rfl rfl rfl (rd_assign rfl rfl) ?_
        refine WL.nt ?_
        refine WC.sr ?_
        refine WL.g rfl rfl rfl (og_call rfl rfl (by kernel_rfl) (keep_val fun w hS => awake_c)) ?_
        intro _
        refine WL.r rfl rfl rfl (rd_move rfl rfl) ?_
        refine WL.set 68 rfl (v' := .bool true) (by first | rfl | exact congrArg Value.bool (by simp [*]; done) | exact congrArg Value.bool (by simp; omega)) ?_
        refine WL.r rfl rfl rfl (lda rfl rfl .tc Try.underlying24 rfl ?_) ?_
        · kernel_rfl
        refine WL.r rfl rfl rfl (lda rfl rfl .tc Try.underlying24 rfl ?_) ?_
        · kernel_rfl
        refine WL.g rfl rfl rfl (og_call rfl rfl (by kernel_rfl) (keep_val fun w hS => Same_c (by first | exact hS.sl | exact hS.os | exact hS.oc | exact sl_takeM _ hS.sl | exact sl_dropM _ hS.sl | exact sl_cutM _ (by omega) hS.sl | exact sl_nil) (by first | exact hS.sl | exact hS.os | exact hS.oc | exact sl_takeM _ hS.sl | exact sl_dropM _ hS.sl | exact sl_cutM _ (by omega) hS.sl | exact sl_nil) (by exact Nat.le_trans (appendD_pend _ _) (by dsimp only; omega)) (by exact Nat.le_trans (appendD_pend _ _) (by dsimp only; omega)))) ?_
        intro _
        refine WL.r rfl rfl rfl (rd_pickt rfl rfl rfl) ?_
        refine WL.r rfl rfl rfl (rd_move rfl rfl) ?_
        refine WL.set 73 rfl (v' := .bool true) (by first | rfl | exact congrArg Value.bool (by simp [*]; done) | exact congrArg Value.bool (by simp; omega)) ?_
        refine WL.r rfl rfl rfl (rd_move rfl rfl) ?_
        refine WL.r rfl rfl rfl (rd_move rfl rfl) ?_
        refine WL.r rfl rfl rfl (rd_eql rfl rfl rfl) ?_
        refine WL.r rfl rfl rfl (rd_pickt rfl rfl rfl) ?_
        refine WL.r rfl rfl rfl (rd_move rfl rfl) ?_
        refine WL.set 78 rfl (v' := .bool true) (by first | rfl | exact congrArg Value.bool (by simp [*]; done) | exact congrArg Value.bool (by simp; omega)) ?_
        refine WL.r rfl rfl rfl (lda rfl rfl .tc Try.underlying24 rfl ?_) ?_
        · kernel_rfl
        refine WL.r rfl rfl rfl (lda rfl rfl .tc Try.underlying24 rfl ?_) ?_
        · kernel_rfl
        refine WL.g rfl rfl rfl (og_call rfl rfl (by kernel_rfl) (keep_val fun w hS => Same_c (by first | exact hS.sl | exact hS.os | exact hS.oc | exact sl_takeM _ hS.sl | exact sl_dropM _ hS.sl | exact sl_cutM _ (by omega) hS.sl | exact sl_nil) (by first | exact hS.sl | exact hS.os | exact hS.oc | exact sl_takeM _ hS.sl | exact sl_dropM _ hS.sl | exact sl_cutM _ (by omega) hS.sl | exact sl_nil) (by exact Nat.le_trans (compactD_pend _ _) (by dsimp only; omega)) (by exact Nat.le_trans (compactD_pend _ _) (by dsimp only; omega)))) ?_
        intro _
        refine WL.r rfl rfl rfl (rd_pickt rfl rfl rfl) ?_
        refine WL.r rfl rfl rfl (rd_move rfl rfl) ?_
        refine WL.set 83 rfl (v' := .bool true) (by first | rfl | exact congrArg Value.bool (by simp [*]; done) | exact congrArg Value.bool (by simp; omega)) ?_
        refine WL.r rfl rfl rfl (rd_move rfl rfl) ?_
        refine WL.r rfl rfl rfl (rd_move rfl rfl) ?_
        refine WL.r rfl rfl rfl (rd_eql rfl rfl rfl) ?_
        refine WL.r rfl rfl rfl (rd_pickt rfl rfl rfl) ?_
        refine WL.r rfl rfl rfl (rd_move rfl rfl) ?_
        refine WL.set 88 rfl (v' := .bool true) (by first | rfl | exact congrArg Value.bool (by simp [*]; done) | exact congrArg Value.bool (by simp; omega)) ?_
        refine WL.r rfl rfl rfl (lda rfl rfl .tc Try.underlying24 rfl ?_) ?_
        · kernel_rfl
        refine WL.r rfl rfl rfl (lda rfl rfl .tc Try.underlying24 rfl ?_) ?_
        · kernel_rfl
        refine WL.g rfl rfl rfl (og_call rfl rfl (by kernel_rfl) (keep_val fun w hS => Same_c (by first | exact hS.sl | exact hS.os | exact hS.oc | exact sl_takeM _ hS.sl | exact sl_dropM _ hS.sl | exact sl_cutM _ (by omega) hS.sl | exact sl_nil) (by first | exact hS.sl | exact hS.os | exact hS.oc | exact sl_takeM _ hS.sl | exact sl_dropM _ hS.sl | exact sl_cutM _ (by omega) hS.sl | exact sl_nil) (by rw [syncD_pend]; simp) (by rw [syncD_pend]; simp))) ?_
        intro _
        refine WL.r rfl rfl rfl (rd_pickt rfl rfl rfl) ?_
        refine WL.r rfl rfl rfl (rd_move rfl rfl) ?_
        refine WL.set 93 rfl (v' := .bool true) (by first | rfl | exact congrArg Value.bool (by simp [*]; done) | exact congrArg Value.bool (by simp; omega)) ?_
        refine WL.r rfl rfl rfl (rd_move rfl rfl) ?_
        refine WL.r rfl rfl rfl (rd_move rfl rfl) ?_
        refine WL.r rfl rfl rfl (rd_eql rfl rfl rfl) ?_
        refine WL.r rfl rfl rfl (rd_pickt rfl rfl rfl) ?_
        refine WL.r rfl rfl rfl (rd_assign rfl rfl) ?_
        refine WL.nt ?_
        refine WC.ret ?_
        exact WX.retN rfl (.tmp rfl .nil) fun w' hS => ⟨by first | rfl | (simp [tup]; done) | (simp [*, tup]; done), hS.below⟩
theorem repairs_c {sf : Bs} {p : Sl Bs} {cr : Bool} {en : Bs} {w : World} {ok : Nat → Prop} (hF1 : (Fact.sl p.a (strs p.l)).holds ok w) (hcap : p.l.length ≤ p.cap) (hcb : p.cap * 16 ≤ 140737488351232) (hsf : sf.length ≤ 140737488351232) (hs : ∀ s ∈ p.l, s.length ≤ 140737488351232) (hen : en.length ≤ 140737488351232) :
    Calls Try.prog 5 #[.agg #[.string (S sf), p.val, .bool cr], .string (S en)] w fun e w' => e = .returned (.bool true) ∧ Below w.heap.size w w' := by
  have hl63 : p.l.length ≤ 9223372036854775807 := by omega
  refine enter (S := St (fun _ => True) w [] [Fact.sl p.a (strs p.l)]) (L := [(0, .agg #[.string (S sf), p.val, .bool cr]), (1, .string (S en))]) Try.func5 rfl Try.ntmps5 rfl (args_cons rfl (args_cons rfl (args_nil _))) (St.start (fun _ _ => trivial) (facts_cons (fact_any hF1) facts_nil)) ?_
  refine WC.sr ?_
  refine WL.g rfl rfl rfl (og_box rfl rfl (by first | exact cells_agg _ | rfl)) ?_
  intro b2
  refine WL.r rfl rfl rfl (rd_assign rfl rfl) ?_
  refine WL.nt ?_
  refine WC.seq ?_
  refine WC.sr ?_
  refine WL.r rfl rfl rfl (lda rfl rfl .tc Try.underlying24 rfl ?_) ?_
  · kernel_rfl
  refine WL.g rfl rfl rfl (og_call rfl rfl (by kernel_rfl) (keep_val fun w hS => small_c (d := ⟨sf, p.l, cr⟩) (by first | exact hS.sl | exact hS.os | exact hS.oc | exact sl_takeM _ hS.sl | exact sl_dropM _ hS.sl | exact sl_cutM _ (by omega) hS.sl | exact sl_nil) (by first | assumption | omega | (dsimp only; first | assumption | omega) | (simp <;> omega) | (simp; done)) (by first | assumption | omega | (dsimp only; first | assumption | omega) | (simp <;> omega) | (simp; done)))) ?_
  intro _
  refine WL.r rfl rfl rfl (rd_not rfl rfl) ?_
  refine WL.r rfl rfl rfl (rd_move rfl rfl) ?_
  refine WL.bool 20 rfl (fun hg20 => ?_) (fun hg20 => ?_)
  · (try simp only [decide_eq_true_eq, decide_eq_false_iff_not, Bool.not_eq_true', Bool.not_eq_false', Bool.not_not, Int.not_lt, Int.not_le] at hg20)
    refine WL.s rfl rfl rfl ?_
    refine WL.s rfl rfl rfl ?_
    refine WL.s rfl rfl rfl ?_
    refine WL.r rfl rfl rfl (rd_pickt rfl rfl rfl) ?_
    refine WL.nt ?_
    refine WC.cond rfl (fun _ => ?_) (fun h => by cases h)
    refine WC.sr ?_
    refine WL.g rfl rfl rfl (og_call rfl rfl (by kernel_rfl) (keep_val fun w hS => awake_c)) ?_
    intro _
    refine WL.r rfl rfl rfl (rd_assign rfl rfl) ?_
    refine WL.nt ?_
    refine WC.ret ?_
    refine WX.then_ret ?_
    exact WX.retN rfl (.tmp rfl .nil) fun w' hS => ⟨by first | rfl | (simp [tup]; done) | (simp [*, tup]; done), hS.below⟩
  · (try simp only [decide_eq_true_eq, decide_eq_false_iff_not, Bool.not_eq_true', Bool.not_eq_false', Bool.not_not, Int.not_lt, Int.not_le] at hg20)
    refine WL.r rfl rfl rfl (rd_move rfl rfl) ?_
    refine WL.r rfl rfl rfl (rd_slen rfl rfl Try.underlying9) ?_
    refine WL.r rfl rfl rfl (rd_gtr rfl rfl rfl) ?_
    refine WL.r rfl rfl rfl (rd_pickf rfl rfl rfl) ?_
    refine WL.nt ?_
    refine WC.cond rfl (fun hc24 => ?_) (fun hc24 => ?_)
    · (try simp only [decide_eq_true_eq, decide_eq_false_iff_not, Bool.not_eq_true', Bool.not_eq_false', Bool.not_not, Int.not_lt, Int.not_le] at hc24)
      refine WC.sr ?_
      refine WL.g rfl rfl rfl (og_call rfl rfl (by kernel_rfl) (keep_val fun w hS => awake_c)) ?_
      intro _
      refine WL.r rfl rfl rfl (rd_assign rfl rfl) ?_
      refine WL.nt ?_
      refine WC.ret ?_
      refine WX.then_ret ?_
      exact WX.retN rfl (.tmp rfl .nil) fun w' hS => ⟨by first | rfl | (simp [tup]; done) | (simp [*, tup]; done), hS.below⟩
    · (try simp only [decide_eq_true_eq, decide_eq_false_iff_not, Bool.not_eq_true', Bool.not_eq_false', Bool.not_not, Int.not_lt, Int.not_le] at hc24)
      have hsm : sf.length ≤ 3000 ∧ fewP p.l := by simp_all
      obtain ⟨hsm1, hsm2, hsm3⟩ := hsm
      refine WC.skip ?_
      refine WX.then_normal ?_
      refine WC.sr ?_
      refine WL.r rfl rfl rfl (lda rfl rfl .tc Try.underlying24 rfl ?_) ?_
      · kernel_rfl
      refine WL.g rfl rfl rfl (og_call rfl rfl (by kernel_rfl) (keep_f1 fun w hS => open_c (d := ⟨sf, p.l, cr⟩) (by first | exact hS.sl | exact hS.os | exact hS.oc | exact sl_takeM _ hS.sl | exact sl_dropM _ hS.sl | exact sl_cutM _ (by omega) hS.sl | exact sl_nil) (by first | assumption | omega | (dsimp only; first | assumption | omega) | (simp <;> omega) | (simp; done)) (by first | assumption | omega | (dsimp only; first | assumption | omega) | (simp <;> omega) | (simp; done)))) ?_
      intro g28
      refine WL.pu ?_
      intro hg28; (try dsimp only at hg28 ⊢)
      refine WL.r rfl rfl rfl (rd_move rfl rfl) ?_
      refine WL.r rfl rfl rfl (rd_extL rfl rfl rfl) ?_
      refine WL.r rfl rfl rfl (rd_extL rfl rfl rfl) ?_
      refine WL.r rfl rfl rfl (rd_extL rfl rfl rfl) ?_
      refine WL.g rfl rfl rfl (og_alloc rfl (v := (.agg #[.string (S []), .slice none 0 0, .bool false])) (cs := [.string (S []), .slice none 0 0, .bool false]) (by kernel_rfl) rfl) ?_
      intro b6
      refine WL.r rfl rfl rfl (rd_assign rfl rfl) ?_
      refine WL.g0 rfl rfl (sta rfl rfl rfl .tc ?_ ?_ ?_) ?_
      · kernel_rfl
      · simp [Value.oneCell']
      · first | rfl | simp
      intro _
      refine WL.r rfl rfl rfl (rd_assign rfl rfl) ?_
      refine WL.nt ?_
      refine WC.seq ?_
      refine WC.sr ?_
      refine WL.r rfl rfl rfl (rd_move rfl rfl) ?_
      refine WL.r rfl rfl rfl (rd_neq rfl rfl rfl) ?_
      refine WL.nt ?_
      refine WC.cond rfl (fun hc33 => ?_) (fun hc33 => ?_)
      · (try simp only [decide_eq_true_eq, decide_eq_false_iff_not, Bool.not_eq_true', Bool.not_eq_false', Bool.not_not, Int.not_lt, Int.not_le] at hc33)
        have hfl := opn_fail (d := ⟨sf, p.l, cr⟩) (by simpa using hc33)
        refine WC.sr ?_
        refine WL.g rfl rfl rfl (og_call rfl rfl (by kernel_rfl) (keep_val fun w hS => awake_c)) ?_
        intro _
        refine WL.r rfl rfl rfl (rd_move rfl rfl) ?_
        refine WL.set 35 rfl (v' := .bool true) (by first | rfl | exact congrArg Value.bool (by simp [*]; done) | exact congrArg Value.bool (by simp; omega)) ?_
        refine WL.r rfl rfl rfl (rd_move rfl rfl) ?_
        refine WL.r rfl rfl rfl (rd_len rfl rfl Try.underlying22) ?_
        refine WL.r rfl rfl rfl (rd_eql rfl rfl rfl) ?_
        refine WL.r rfl rfl rfl (rd_pickt rfl rfl rfl) ?_
        refine WL.r rfl rfl rfl (rd_move rfl rfl) ?_
        refine WL.set 40 rfl (v' := .bool true) (by first | rfl | exact congrArg Value.bool (by simp [*]; done) | exact congrArg Value.bool (by simp; omega)) ?_
        refine WL.r rfl rfl rfl (lda rfl rfl .tc Try.underlying24 rfl ?_) ?_
        · kernel_rfl
        refine WL.r rfl rfl rfl (rd_bld [[.string (S [])], [.slice none 0 0], [.bool false]] rfl rfl (by simp only [bld, fldv, Nat.beq, Value.cells, cond_true, cond_false, List.nil_append, List.cons_append, List.append_nil]; rfl) (fun w => by kernel_rfl)) ?_
        refine WL.g rfl rfl rfl (og_call rfl rfl (by kernel_rfl) (keep_val fun w hS => Same_c (d := ⟨(opn ⟨sf, p.l, cr⟩).2.1.safe, [], false⟩) (d' := ⟨[], [], false⟩) (by first | exact hS.sl | exact hS.os | exact hS.oc | exact sl_takeM _ hS.sl | exact sl_dropM _ hS.sl | exact sl_cutM _ (by omega) hS.sl | exact sl_nil) (by first | exact hS.sl | exact hS.os | exact hS.oc | exact sl_takeM _ hS.sl | exact sl_dropM _ hS.sl | exact sl_cutM _ (by omega) hS.sl | exact sl_nil) (by first | assumption | omega | (dsimp only; first | assumption | omega) | (simp <;> omega) | (simp; done)) (by first | assumption | omega | (dsimp only; first | assumption | omega) | (simp <;> omega) | (simp; done)))) ?_
        intro _
        refine WL.r rfl rfl rfl (rd_pickt rfl rfl rfl) ?_
        refine WL.r rfl rfl rfl (rd_assign rfl rfl) ?_
        refine WL.nt ?_
        refine WC.ret ?_
        refine WX.then_ret ?_
        exact WX.retN rfl (.tmp rfl .nil) fun w' hS => ⟨congrArg (fun b => Ending.returned (.bool b)) (by rw [decide_eq_true_eq, hfl.2]; rfl), hS.below⟩
      · (try simp only [decide_eq_true_eq, decide_eq_false_iff_not, Bool.not_eq_true', Bool.not_eq_false', Bool.not_not, Int.not_lt, Int.not_le] at hc33)
        have hok : (opn ⟨sf, p.l, cr⟩).2.2 = 0 := by simpa using hc33
        obtain ⟨r1, r2, r3, r4, r5⟩ := opn_run (d := ⟨sf, p.l, cr⟩) (by dsimp only; omega) hok
        generalize (opn ⟨sf, p.l, cr⟩).2.1.safe = b at *
        generalize (opn ⟨sf, p.l, cr⟩).1 = out at *
        dsimp only at r4 r5
        have o2 : opn ⟨b, [], false⟩ = (out, ⟨b, [], false⟩, 0) := by have := run_opn (t := []) (cr := false) r1 (by rw [List.append_nil]; exact nextJ_end _); simpa using this
        have o3 : appendD ⟨b, [], false⟩ en = (⟨b, [recJ 69 en], false⟩, 0) := by rw [appendD, if_neg (by simp), if_neg (by omega)]; rfl
        have o4 : syncD ⟨b, [recJ 69 en], false⟩ = (⟨b ++ recJ 69 en, [], false⟩, 0) := by rw [syncD, if_neg (by simp)]; simp
        have o5 : opn ⟨b ++ recJ 69 en, [], false⟩ = (out ++ [en], ⟨b ++ recJ 69 en, [], false⟩, 0) := by
          have := run_opn (t := []) (cr := false) (run_E en r1 (by omega) (by omega) (by omega)) (by rw [List.append_nil]; exact nextJ_end _)
          simpa using this
        have o6 := recJ_len 69 en
        generalize recJ 69 en = R at *
        refine WC.skip ?_
        refine WX.then_normal ?_
        refine WC.sr ?_
        refine WL.r rfl rfl rfl (lda rfl rfl .tc Try.underlying24 rfl ?_) ?_
        · kernel_rfl
        refine WL.g rfl rfl rfl (og_call rfl rfl (by kernel_rfl) (keep_f1 (val := fun g => .tuple #[g.val out.length, .agg #[.string (S b), .slice none 0 0, .bool false], .int .i64 0]) (p := fun g => g.cap = out.length + g.sp.length) (xs := strs out) (T := 9) fun w hS => (by have := open_c (d := ⟨b, [], false⟩) (a := none) (cap := 0) (w := w) sl_nil (by dsimp only; omega) (by simp); rw [o2] at this; exact this))) ?_
        intro g45; refine WL.pu ?_; intro hg45
        refine WL.r rfl rfl rfl (rd_move rfl rfl) ?_
        refine WL.r rfl rfl rfl (rd_extL rfl rfl rfl) ?_
        refine WL.r rfl rfl rfl (rd_extL rfl rfl rfl) ?_
        refine WL.r rfl rfl rfl (rd_extL rfl rfl rfl) ?_
        refine WL.g rfl rfl rfl (og_alloc rfl (v := (.agg #[.string (S []), .slice none 0 0, .bool false])) (cs := [.string (S []), .slice none 0 0, .bool false]) (by kernel_rfl) rfl) ?_
        intro b9
        refine WL.r rfl rfl rfl (rd_assign rfl rfl) ?_
        refine WL.g0 rfl rfl (sta rfl rfl rfl .tc ?_ ?_ ?_) ?_
        · kernel_rfl
        · simp [Value.oneCell']
        · first | rfl | simp
        intro _
        refine WL.r rfl rfl rfl (rd_assign rfl rfl) ?_
        refine WL.nt ?_
        refine WC.sr ?_
        refine WL.r rfl rfl rfl (lda rfl rfl .tc Try.underlying24 rfl ?_) ?_
        · kernel_rfl
        refine WL.r rfl rfl rfl (rd_move rfl rfl) ?_
        refine WL.g rfl rfl rfl (og_call rfl rfl (by kernel_rfl) (keep_f1 (val := fun g => DE (⟨b, [R], false⟩, 0) (g.val 1)) (p := fun g => g.cap = 1 + g.sp.length) (xs := strs [R]) (T := 9) fun w hS => (by have := append_c (d := ⟨b, [], false⟩) (t := en) (a := none) (cap := 0) (w := w) sl_nil (by simp); rw [o3] at this; exact this))) ?_
        intro g51; refine WL.pu ?_; intro hg51
        refine WL.r rfl rfl rfl (rd_move rfl rfl) ?_
        refine WL.r rfl rfl rfl (rd_extL rfl rfl rfl) ?_
        refine WL.r rfl rfl rfl (rd_extL rfl rfl rfl) ?_
        refine WL.g rfl rfl rfl (og_alloc rfl (v := (.agg #[.string (S []), .slice none 0 0, .bool false])) (cs := [.string (S []), .slice none 0 0, .bool false]) (by kernel_rfl) rfl) ?_
        intro b11
        refine WL.g0 rfl rfl (sta rfl rfl rfl .tc ?_ ?_ ?_) ?_
        · kernel_rfl
        · simp [Value.oneCell']
        · first | rfl | simp
        intro _
        refine WL.r rfl rfl rfl (rd_assign rfl rfl) ?_
        refine WL.nt ?_
        refine WC.sr ?_
        refine WL.r rfl rfl rfl (lda rfl rfl .tc Try.underlying24 rfl ?_) ?_
        · kernel_rfl
        refine WL.g rfl rfl rfl (og_call rfl rfl (by kernel_rfl) (keep_f1 (val := fun g => DE (⟨b ++ R, [], false⟩, 0) (g.val 0)) (p := fun g => g.cap = 0 + g.sp.length) (xs := []) (T := 9) fun w hS => (by have := sync_c (d := ⟨b, [R], false⟩) (a := g51.a) (cap := g51.cap) (w := w) hS.sl (by simp) (by simp; omega) (by simp; omega) (by dsimp only; omega); rw [o4] at this; exact this))) ?_
        intro g57; refine WL.pu ?_; intro hg57
        refine WL.r rfl rfl rfl (rd_move rfl rfl) ?_
        refine WL.r rfl rfl rfl (rd_extL rfl rfl rfl) ?_
        refine WL.r rfl rfl rfl (rd_extL rfl rfl rfl) ?_
        refine WL.g0 rfl rfl (sta rfl rfl rfl .tc ?_ ?_ ?_) ?_
        · kernel_rfl
        · simp [Value.oneCell']
        · first | rfl | simp
        intro _
        refine WL.r rfl rfl rfl (rd_assign rfl rfl) ?_
        refine WL.nt ?_
        refine WC.sr ?_
        refine WL.r rfl rfl rfl (lda rfl rfl .tc Try.underlying24 rfl ?_) ?_
        · kernel_rfl
        refine WL.g rfl rfl rfl (og_call rfl rfl (by kernel_rfl) (keep_f1 (val := fun g => .tuple #[g.val (out ++ [en]).length, .agg #[.string (S (b ++ R)), .slice none 0 0, .bool false], .int .i64 0]) (p := fun g => g.cap = (out ++ [en]).length + g.sp.length) (xs := strs (out ++ [en])) (T := 9) fun w hS => (by have := open_c (d := ⟨b ++ R, [], false⟩) (a := g57.a) (cap := g57.cap) (w := w) sl_nil (by simp; omega) (by simp); rw [o5] at this; exact this))) ?_
        intro g62; refine WL.pu ?_; intro hg62
        refine WL.r rfl rfl rfl (rd_move rfl rfl) ?_
        refine WL.r rfl rfl rfl (rd_extL rfl rfl rfl) ?_
        refine WL.r rfl rfl rfl (rd_extL rfl rfl rfl) ?_
        refine WL.r rfl rfl rfl (rd_extL rfl rfl rfl) ?_
        refine WL.g rfl rfl rfl (og_alloc rfl (v := (.agg #[.string (S []), .slice none 0 0, .bool false])) (cs := [.string (S []), .slice none 0 0, .bool false]) (by kernel_rfl) rfl) ?_
        intro b15
        refine WL.r rfl rfl rfl (rd_assign rfl rfl) ?_
        refine WL.g0 rfl rfl (sta rfl rfl rfl .tc ?_ ?_ ?_) ?_
        · kernel_rfl
        · simp [Value.oneCell']
        · first | rfl | simp
        intro _
        refine WL.r rfl rfl rfl (rd_assign rfl rfl) ?_
        refine WL.nt ?_
        refine WC.sr ?_
        refine WL.g rfl rfl rfl (og_call rfl rfl (by kernel_rfl) (keep_val fun w hS => awake_c)) ?_
        intro _
        refine WL.r rfl rfl rfl (rd_move rfl rfl) ?_
        refine WL.set 69 rfl (v' := .bool true) (by first | rfl | exact congrArg Value.bool (by simp [*]; done) | exact congrArg Value.bool (by simp; omega)) ?_
        refine WL.r rfl rfl rfl (rd_move rfl rfl) ?_
        refine WL.r rfl rfl rfl (rd_eql rfl rfl rfl) ?_
        refine WL.r rfl rfl rfl (rd_pickt rfl rfl rfl) ?_
        refine WL.r rfl rfl rfl (rd_move rfl rfl) ?_
        refine WL.set 73 rfl (v' := .bool true) (by first | rfl | exact congrArg Value.bool (by simp [*]; done) | exact congrArg Value.bool (by simp; omega)) ?_
        refine WL.r rfl rfl rfl (rd_move rfl rfl) ?_
        refine WL.r rfl rfl rfl (rd_move rfl rfl) ?_
        refine WL.g rfl rfl rfl (og_call rfl rfl (by kernel_rfl) (keep_val fun w hS => same_c (by first | exact hS.sl | exact hS.os | exact hS.oc | exact sl_takeM _ hS.sl | exact sl_dropM _ hS.sl | exact sl_cutM _ (by omega) hS.sl | exact sl_nil) (by first | exact hS.sl | exact hS.os | exact hS.oc | exact sl_takeM _ hS.sl | exact sl_dropM _ hS.sl | exact sl_cutM _ (by omega) hS.sl | exact sl_nil) (by first | assumption | omega | (dsimp only; first | assumption | omega) | (simp <;> omega) | (simp; done)) (by first | assumption | omega | (dsimp only; first | assumption | omega) | (simp <;> omega) | (simp; done)))) ?_
        intro _
        refine WL.r rfl rfl rfl (rd_pickt rfl rfl rfl) ?_
        refine WL.r rfl rfl rfl (rd_move rfl rfl) ?_
        refine WL.set 78 rfl (v' := .bool true) (by first | rfl | exact congrArg Value.bool (by simp [*]; done) | exact congrArg Value.bool (by simp; omega)) ?_
        refine WL.r rfl rfl rfl (lda rfl rfl .tc Try.underlying24 rfl ?_) ?_
        · kernel_rfl
        refine WL.r rfl rfl rfl (lda rfl rfl .tc Try.underlying24 rfl ?_) ?_
        · kernel_rfl
        refine WL.g rfl rfl rfl (og_call rfl rfl (by kernel_rfl) (keep_val fun w hS => Same_c (d := ⟨b, [], false⟩) (d' := ⟨b, [], false⟩) (by first | exact hS.sl | exact hS.os | exact hS.oc | exact sl_takeM _ hS.sl | exact sl_dropM _ hS.sl | exact sl_cutM _ (by omega) hS.sl | exact sl_nil) (by first | exact hS.sl | exact hS.os | exact hS.oc | exact sl_takeM _ hS.sl | exact sl_dropM _ hS.sl | exact sl_cutM _ (by omega) hS.sl | exact sl_nil) (by first | assumption | omega | (dsimp only; first | assumption | omega) | (simp <;> omega) | (simp; done)) (by first | assumption | omega | (dsimp only; first | assumption | omega) | (simp <;> omega) | (simp; done)))) ?_
        intro _
        refine WL.r rfl rfl rfl (rd_pickt rfl rfl rfl) ?_
        refine WL.r rfl rfl rfl (rd_move rfl rfl) ?_
        refine WL.set 83 rfl (v' := .bool true) (by first | rfl | exact congrArg Value.bool (by simp [*]; done) | exact congrArg Value.bool (by simp; omega)) ?_
        refine WL.r rfl rfl rfl (rd_move rfl rfl) ?_
        refine WL.r rfl rfl rfl (rd_eql rfl rfl rfl) ?_
        refine WL.r rfl rfl rfl (rd_pickt rfl rfl rfl) ?_
        refine WL.r rfl rfl rfl (rd_move rfl rfl) ?_
        refine WL.set 87 rfl (v' := .bool true) (by first | rfl | exact congrArg Value.bool (by simp [*]; done) | exact congrArg Value.bool (by simp; omega)) ?_
        refine WL.r rfl rfl rfl (rd_move rfl rfl) ?_
        refine WL.r rfl rfl rfl (rd_eql rfl rfl rfl) ?_
        refine WL.r rfl rfl rfl (rd_pickt rfl rfl rfl) ?_
        refine WL.r rfl rfl rfl (rd_move rfl rfl) ?_
        refine WL.set 91 rfl (v' := .bool true) (by first | rfl | exact congrArg Value.bool (by simp [*]; done) | exact congrArg Value.bool (by simp; omega)) ?_
        refine WL.r rfl rfl rfl (rd_move rfl rfl) ?_
        refine WL.r rfl rfl rfl (rd_eql rfl rfl rfl) ?_
        refine WL.r rfl rfl rfl (rd_pickt rfl rfl rfl) ?_
        refine WL.r rfl rfl rfl (rd_move rfl rfl) ?_
        refine WL.set 95 rfl (v' := .bool true) (by first | rfl | exact congrArg Value.bool (by simp [*]; done) | exact congrArg Value.bool (by simp; omega)) ?_
        refine WL.r rfl rfl rfl (rd_move rfl rfl) ?_
        refine WL.g rfl rfl rfl (og_bs1 rfl rfl Try.underlying22 (by kernel_rfl : _ = some (some (.string (S [])), 1, 16)) rfl (by simp only [List.map]; rfl) rfl rfl ?_ (by decide)) ?_
        · simp [Value.cells]
        intro b97
        refine WL.r rfl rfl rfl (rd_move rfl rfl) ?_
        first
          | (refine WL.g rfl rfl rfl (appg rfl Try.underlying22 (by kernel_rfl : _ = some (some (.string (S [])), 1, 16)) rfl .tc rfl rfl (fun w hS => by first | exact hS.os | exact hS.sl | exact hS.oc) (by first | rfl | simp) ?_ ?_) ?_; (focus ((refine ⟨?_, ?_, ?_, ?_⟩ <;> (try simp) <;> omega))); (focus (first | (simp [Value.oneCell']; done) | (intro u hu; obtain ⟨_, _, rfl⟩ := List.mem_map.1 hu; rfl))))
          | (refine WL.g rfl rfl rfl (appf rfl Try.underlying22 (by kernel_rfl : _ = some (some (.string (S [])), 1, 16)) rfl .tc rfl rfl (fun w hS => by first | exact hS.os | exact hS.sl | exact hS.oc) (by first | rfl | simp) ?_ ?_) ?_; (focus ((refine ⟨?_, ?_, ?_, ?_⟩ <;> (try simp) <;> omega))); (focus (first | (simp [Value.oneCell']; done) | (intro u hu; obtain ⟨_, _, rfl⟩ := List.mem_map.1 hu; rfl))))
          | (refine WL.st (fun w h => h.nil 9) ?_; refine WL.g rfl rfl rfl (appg (ob := none) (xs := []) (sp := []) rfl Try.underlying22 (by kernel_rfl : _ = some (some (.string (S [])), 1, 16)) rfl .tc rfl rfl (fun w hS => by first | exact hS.os | exact hS.sl | exact hS.oc) (by first | rfl | simp) ?_ ?_) ?_; (focus ((refine ⟨?_, ?_, ?_, ?_⟩ <;> (try simp) <;> omega))); (focus (first | (simp [Value.oneCell']; done) | (intro u hu; obtain ⟨_, _, rfl⟩ := List.mem_map.1 hu; rfl))))
        rintro ⟨o99, c99, s99⟩
        refine WL.pu ?_
        intro hg99; (try dsimp only at hg99 ⊢)
        refine WL.r rfl rfl rfl (rd_move rfl rfl) ?_
        refine WL.g rfl rfl rfl (og_bs1 rfl rfl Try.underlying22 (by kernel_rfl : _ = some (some (.string (S [])), 1, 16)) rfl (by simp only [List.map]; rfl) rfl rfl ?_ (by decide)) ?_
        · simp [Value.cells]
        intro b101
        first
          | (refine WL.g rfl rfl rfl (appg rfl Try.underlying22 (by kernel_rfl : _ = some (some (.string (S [])), 1, 16)) rfl .tc rfl rfl (fun w hS => by first | exact hS.os | exact hS.sl | exact hS.oc) (by first | rfl | simp) ?_ ?_) ?_; (focus ((refine ⟨?_, ?_, ?_, ?_⟩ <;> (try simp) <;> omega))); (focus (first | (simp [Value.oneCell']; done) | (intro u hu; obtain ⟨_, _, rfl⟩ := List.mem_map.1 hu; rfl))))
          | (refine WL.g rfl rfl rfl (appf rfl Try.underlying22 (by kernel_rfl : _ = some (some (.string (S [])), 1, 16)) rfl .tc rfl rfl (fun w hS => by first | exact hS.os | exact hS.sl | exact hS.oc) (by first | rfl | simp) ?_ ?_) ?_; (focus ((refine ⟨?_, ?_, ?_, ?_⟩ <;> (try simp) <;> omega))); (focus (first | (simp [Value.oneCell']; done) | (intro u hu; obtain ⟨_, _, rfl⟩ := List.mem_map.1 hu; rfl))))
          | (refine WL.st (fun w h => h.nil 9) ?_; refine WL.g rfl rfl rfl (appg (ob := none) (xs := []) (sp := []) rfl Try.underlying22 (by kernel_rfl : _ = some (some (.string (S [])), 1, 16)) rfl .tc rfl rfl (fun w hS => by first | exact hS.os | exact hS.sl | exact hS.oc) (by first | rfl | simp) ?_ ?_) ?_; (focus ((refine ⟨?_, ?_, ?_, ?_⟩ <;> (try simp) <;> omega))); (focus (first | (simp [Value.oneCell']; done) | (intro u hu; obtain ⟨_, _, rfl⟩ := List.mem_map.1 hu; rfl))))
        rintro ⟨o102, c102, s102⟩
        refine WL.pu ?_
        intro hg102; (try dsimp only at hg102 ⊢)
        refine WL.set 102 rfl (v' := .slice (o102.map fun b => ⟨b, 0, none⟩) (out ++ [en]).length c102) (by rw [List.length_append]; simp) ?_
        have hout1 : (out ++ [en]).length ≤ 1000000 := by rw [List.length_append]; show out.length + 1 ≤ 1000000; omega
        refine WL.g rfl rfl rfl (og_call rfl rfl (by kernel_rfl) (keep_val fun w hS => same_c (l := out ++ [en]) (m := out ++ [en]) hS.sl (by rw [strs_one]; exact hS.oc (ob := o102) (xs := [] ++ strs out ++ [.string (S en)]) (sp := s102)) (by exact hout1) (by exact hout1))) ?_
        intro _
        refine WL.r rfl rfl rfl (rd_pickt rfl rfl rfl) ?_
        refine WL.r rfl rfl rfl (rd_assign rfl rfl) ?_
        refine WL.nt ?_
        refine WC.ret ?_
        exact WX.retN rfl (.tmp rfl .nil) fun w' hS => ⟨by first | rfl | (simp [tup]; done) | (simp [*, tup]; done), hS.below⟩
end Go.Proofs.Ytijamoagkmjcjaa
