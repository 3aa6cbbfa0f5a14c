/-
  The statements about the journal: an interrupted Compact.
-/
import Derived.Test.YtijamoagkmjcjaaJouM
namespace Go.Proofs.Ytijamoagkmjcjaa
set_option linter.unusedSimpArgs false
set_option linter.unusedVariables false
set_option maxRecDepth 20000
set_option maxHeartbeats 600000
open Go.RowKit

theorem wf_u16 {n : Int} (h : (Lit.int .u16 n).wf = true) : 0 ≤ n ∧ n < 65536 := by
  have e1 : IntKind.u16.min = 0 := by decide
  have e2 : IntKind.u16.max = 65535 := by decide
  simp [Lit.wf, e1, e2] at h; omega
theorem mem_len {l : List Bs} {s : Bs} (h : s ∈ l) : s.length ≤ l.flatten.length := by
  induction l with
  | nil => cases h
  | cons a l ih =>
    rw [List.flatten_cons, List.length_append]
    rcases List.mem_cons.1 h with rfl | h
    · omega
    · have := ih h; omega
def recE (l : List Bs) (k : Nat) : List Bs := (l.take k).map (recJ 69)
theorem recE_succ (l : List Bs) (k : Nat) (h : k < l.length) : recE l (k + 1) = recE l k ++ [recJ 69 (l.getD k default)] := by
  rw [recE, recE, List.take_add_one, List.getElem?_eq_getElem h, List.getD_eq_getElem?_getD, List.getElem?_eq_getElem h, List.map_append]; rfl
theorem recE_len (l : List Bs) (k : Nat) (h : k ≤ l.length) : (recE l k).length = k := by simp [recE]; omega
theorem recE_flat (l : List Bs) : ∀ k, k ≤ l.length → (recE l k).flatten.length = (l.take k).flatten.length + 37 * k
  | 0, _ => by simp [recE]
  | k + 1, h => by
    rw [recE_succ l k (by omega), List.flatten_append, List.length_append, recE_flat l k (by omega), take_flat l k (by omega), List.length_append]
    simp only [List.flatten_cons, List.flatten_nil, List.append_nil, recJ_len]; omega
theorem run_recE (l : List Bs) (hl : fewP l) : ∀ k, k ≤ l.length → RunG (recE l k).flatten (l.take k) 0
  | 0, _ => by simpa [recE] using run_nil
  | k + 1, h => by
    have h1 := hl.1; have h2 := hl.2
    have h3 := run_recE l hl k (by omega)
    have h4 := recE_flat l k (by omega)
    have h5 := flat_take_le l k
    have h6 := getD_flat_le l k
    have h7 := run_E (l.getD k default) h3 (by omega) (by rw [List.length_take]; omega) (by omega)
    rw [recE_succ l k (by omega), List.flatten_append]
    simp only [List.flatten_cons, List.flatten_nil, List.append_nil]
    have e : l.take (k + 1) = l.take k ++ [l.getD k default] := by
      rw [List.take_add_one, List.getElem?_eq_getElem (by omega), List.getD_eq_getElem?_getD, List.getElem?_eq_getElem (by omega)]; rfl
    rw [e]; exact h7
theorem unl_few {l : List Bs} (hl : fewP l) : unl (listJ l) = (l, true) :=
  unl_list l (fun s hs => by have := mem_len hs; have := hl.2; omega) (by have := hl.1; omega)
theorem cut_opn {B : Bs} {out l : List Bs} {fr n : Nat} (hB : RunG B out fr) (hBl : B.length ≤ 1000000) (hl : fewP l) (hn : n ≤ (recJ 82 (listJ l)).length) :
    ∃ o sf, opn ⟨B ++ (recJ 82 (listJ l)).take n, [], true⟩ = (o, ⟨sf, [], false⟩, 0) ∧ (n = (recJ 82 (listJ l)).length → o = l) ∧ (n ≠ (recJ 82 (listJ l)).length → o = out) := by
  have hj := listJ_len l; have h1 := hl.1; have h2 := hl.2
  have hu := unl_few hl
  by_cases h : n = (recJ 82 (listJ l)).length
  · have h3 := run_R (listJ l) hB (by omega) (by rw [hu]) (by omega)
    have h4 := run_opn (t := []) (cr := true) h3 (by rw [List.append_nil]; exact nextJ_end _)
    rw [List.append_nil] at h4
    refine ⟨_, _, (by rw [h, List.take_of_length_le (Nat.le_refl _)]; exact h4), fun _ => by rw [hu], fun h' => absurd h h'⟩
  · have h4 := run_opn (t := (recJ 82 (listJ l)).take n) (cr := true) hB (nextJ_part B 82 (listJ l) n (.inr rfl) (by omega) (by omega))
    exact ⟨_, _, h4, fun h' => absurd h' h, fun _ => rfl⟩
theorem atomic_n {bef beh : Sl Bs} {m : Nat} {w : World} {ok : Nat → Prop} (hF1 : (Fact.sl bef.a (strs bef.l)).holds ok w) (hF2 : (Fact.sl beh.a (strs beh.l)).holds ok w) (hcap : bef.l.length ≤ bef.cap) (hcb : bef.cap * 16 ≤ 140737488351232) (hqap : beh.l.length ≤ beh.cap) (hqb : beh.cap * 16 ≤ 140737488351232) (hs : ∀ s ∈ bef.l, s.length ≤ 140737488351232) (hq : ∀ s ∈ beh.l, s.length ≤ 140737488351232) (hm : m < 65536) :
    Calls Try.prog 8 #[bef.val, beh.val, .int .u16 (m : Int)] w fun e w' => e = .returned (.bool true) ∧ Below w.heap.size w w' := by
  have hl63 : bef.l.length ≤ 9223372036854775807 := by omega
  have hq63 : beh.l.length ≤ 9223372036854775807 := by omega
  refine enter (S := St (fun _ => True) w [] [Fact.sl bef.a (strs bef.l), Fact.sl beh.a (strs beh.l)]) (L := [(0, bef.val), (1, beh.val), (2, .int .u16 (m : Int))]) Try.func8 rfl Try.ntmps8 rfl (args_cons rfl (args_cons rfl (args_cons rfl (args_nil _)))) (St.start (fun _ _ => trivial) (facts_cons (fact_any hF1) (facts_cons (fact_any hF2) facts_nil))) ?_
  refine WC.sr ?_
  refine WL.r rfl rfl rfl (rd_assign rfl rfl) ?_
  refine WL.nt ?_
  refine WC.seq ?_
  refine WC.sr ?_
  refine WL.r rfl rfl rfl (rd_move rfl rfl) ?_
  refine WL.g rfl rfl rfl (og_call rfl rfl (by kernel_rfl) (keep_val fun w hS => few_c (l := bef.l) (by first | exact hS.sl | exact hS.os | exact hS.oc | exact sl_takeM _ hS.sl | exact sl_dropM _ hS.sl | exact sl_cutM _ (by omega) hS.sl | exact sl_nil) (by first | assumption | omega | (dsimp only; first | assumption | omega) | (simp <;> omega) | (simp; done)) (by first | assumption | omega | (dsimp only; first | assumption | omega) | (simp <;> omega) | (simp; done)))) ?_
  intro _
  refine WL.r rfl rfl rfl (rd_not rfl rfl) ?_
  refine WL.r rfl rfl rfl (rd_move rfl rfl) ?_
  refine WL.bool 20 rfl (fun hg20 => ?_) (fun hg20 => ?_)
  · (try simp only [decide_eq_true_eq, decide_eq_false_iff_not, Bool.not_eq_true', Bool.not_eq_false', Bool.not_not, Int.not_lt, Int.not_le] at hg20)
    refine WL.s rfl rfl rfl ?_
    refine WL.s rfl rfl rfl ?_
    refine WL.s rfl rfl rfl ?_
    refine WL.r rfl rfl rfl (rd_pickt rfl rfl rfl) ?_
    refine WL.nt ?_
    refine WC.cond rfl (fun _ => ?_) (fun h => by cases h)
    refine WC.sr ?_
    refine WL.g rfl rfl rfl (og_call rfl rfl (by kernel_rfl) (keep_val fun w hS => awake_c)) ?_
    intro _
    refine WL.r rfl rfl rfl (rd_assign rfl rfl) ?_
    refine WL.nt ?_
    refine WC.ret ?_
    refine WX.then_ret ?_
    exact WX.retN rfl (.tmp rfl .nil) fun w' hS => ⟨by first | rfl | (simp [tup]; done) | (simp [*, tup]; done), hS.below⟩
  · (try simp only [decide_eq_true_eq, decide_eq_false_iff_not, Bool.not_eq_true', Bool.not_eq_false', Bool.not_not, Int.not_lt, Int.not_le] at hg20)
    refine WL.r rfl rfl rfl (rd_move rfl rfl) ?_
    refine WL.g rfl rfl rfl (og_call rfl rfl (by kernel_rfl) (keep_val fun w hS => few_c (l := beh.l) (by first | exact hS.sl | exact hS.os | exact hS.oc | exact sl_takeM _ hS.sl | exact sl_dropM _ hS.sl | exact sl_cutM _ (by omega) hS.sl | exact sl_nil) (by first | assumption | omega | (dsimp only; first | assumption | omega) | (simp <;> omega) | (simp; done)) (by first | assumption | omega | (dsimp only; first | assumption | omega) | (simp <;> omega) | (simp; done)))) ?_
    intro _
    refine WL.r rfl rfl rfl (rd_not rfl rfl) ?_
    refine WL.r rfl rfl rfl (rd_pickf rfl rfl rfl) ?_
    refine WL.nt ?_
    refine WC.cond rfl (fun hc24 => ?_) (fun hc24 => ?_)
    · (try simp only [decide_eq_true_eq, decide_eq_false_iff_not, Bool.not_eq_true', Bool.not_eq_false', Bool.not_not, Int.not_lt, Int.not_le] at hc24)
      refine WC.sr ?_
      refine WL.g rfl rfl rfl (og_call rfl rfl (by kernel_rfl) (keep_val fun w hS => awake_c)) ?_
      intro _
      refine WL.r rfl rfl rfl (rd_assign rfl rfl) ?_
      refine WL.nt ?_
      refine WC.ret ?_
      refine WX.then_ret ?_
      exact WX.retN rfl (.tmp rfl .nil) fun w' hS => ⟨by first | rfl | (simp [tup]; done) | (simp [*, tup]; done), hS.below⟩
    · (try simp only [decide_eq_true_eq, decide_eq_false_iff_not, Bool.not_eq_true', Bool.not_eq_false', Bool.not_not, Int.not_lt, Int.not_le] at hc24)
      have hb1 : fewP bef.l := by simp_all
      have hb2 : fewP beh.l := by simp_all
      obtain ⟨hb1l, hb1s⟩ := id hb1
      obtain ⟨hb2l, hb2s⟩ := id hb2
      refine WC.skip ?_
      refine WX.then_normal ?_
      refine WC.sr ?_
      refine WL.r rfl rfl rfl (rd_bld [[.string (S [])], [.slice none 0 0], [.bool false]] rfl rfl (by simp only [bld, fldv, Nat.beq, Value.cells, cond_true, cond_false, List.nil_append, List.cons_append, List.append_nil]; rfl) (fun w => by kernel_rfl)) ?_
      refine WL.g rfl rfl rfl (og_alloc rfl (v := (.agg #[.string (S []), .slice none 0 0, .bool false])) (cs := [.string (S []), .slice none 0 0, .bool false]) (by kernel_rfl) rfl) ?_
      intro b7
      refine WL.g0 rfl rfl (sta rfl rfl rfl .tc ?_ ?_ ?_) ?_
      · kernel_rfl
      · simp [Value.oneCell']
      · first | rfl | simp
      intro _
      refine WL.nt ?_
      refine WC.seq ?_
      refine WC.sr ?_
      refine WL.r rfl rfl rfl (rd_assign rfl rfl) ?_
      refine WL.nt ?_
      refine WC.block ?_
      refine WC.loopO (σ := Nat × Rs) [(0, _), (1, _), (2, _), (6, _), (7, _)] (fun g => [(8, .int .i64 (g.1 : Int))]) (fun g => g.1 ≤ bef.l.length ∧ g.2.cap = (recE bef.l g.1).length + g.2.sp.length) (fun g => bef.l.length - g.1) (fun g => [⟨some b7, [.string (S []), g.2.val (recE bef.l g.1).length, .bool false], 24⟩]) (fun g => [Fact.sl g.2.a (strs (recE bef.l g.1)), Fact.sl bef.a (strs bef.l), Fact.sl beh.a (strs beh.l)]) (0, ⟨none, 0, []⟩) (sub_cons rfl (sub_cons rfl (sub_cons rfl (sub_cons rfl (sub_cons rfl (sub_nil _)))))) (sub_cons rfl (sub_nil _)) (by (try dsimp only); exact ⟨Nat.zero_le _, rfl⟩) (by exact fun w h => St.add h (.inl rfl)) ?_
      rintro ⟨k, q⟩ hinv1; (try dsimp only at hinv1 ⊢)
      obtain ⟨hk, hqc⟩ := hinv1
      refine WC.seq ?_
      refine WC.sr ?_
      refine WL.r rfl rfl rfl (rd_move rfl rfl) ?_
      refine WL.r rfl rfl rfl (rd_move rfl rfl) ?_
      refine WL.r rfl rfl rfl (rd_len rfl rfl Try.underlying22) ?_
      refine WL.r rfl rfl rfl (rd_lss rfl rfl rfl) ?_
      refine WL.nt ?_
      refine WC.cond rfl (fun hc30 => ?_) (fun hc30 => ?_)
      · (try simp only [decide_eq_true_eq, decide_eq_false_iff_not, Bool.not_eq_true', Bool.not_eq_false', Bool.not_not, Int.not_lt, Int.not_le] at hc30)
        have hk0 := recE_succ bef.l k (by omega)
        have hk1 := recE_len bef.l k hk
        have hk2 := getD_flat_le bef.l k
        have hr : appendD ⟨[], recE bef.l k, false⟩ (bef.l.getD k default) = (⟨[], recE bef.l (k + 1), false⟩, 0) := by rw [appendD, if_neg (by simp), if_neg (by omega), hk0]
        refine WC.skip ?_
        refine WX.then_normal ?_
        refine WC.seq ?_
        refine WC.block ?_
        refine WC.free (K := []) (fs0 := [Fact.sl bef.a (strs bef.l)]) [0, 1, 2, 3, 4, 5, 6, 7, 9, 8] [] [1, 0, 0, 0, 0, 1, 0, 0, 0, 1] (by kernel_rfl) (by kernel_rfl) rfl ?_
        refine WJ.gv rfl rfl rfl rfl rfl (fun ext => og_rd (lda rfl rfl .tc Try.underlying24 rfl ?_)) ?_
        · kernel_rfl
        refine WJ.r rfl rfl rfl rfl rfl (rd_move rfl rfl) ?_
        refine WJ.r rfl rfl rfl rfl rfl (rd_move rfl rfl) ?_
        first
          | (refine WJ.r rfl rfl rfl rfl rfl (rd_ia rfl rfl rfl Try.underlying22 (by kernel_rfl : _ = some 1) ?_ (by (try simp only [Int.toNat_natCast, Nat.mul_one, Nat.zero_add, Nat.add_zero, Nat.zero_mul, Int.reduceToNat, Nat.reduceAdd, Nat.reduceMul, Nat.reduceSub, Nat.sub_zero]); rfl)) ?_; (focus (first | assumption | omega | (dsimp only; first | assumption | omega) | (simp <;> omega) | (simp; done))))
          | (refine WJ.r rfl rfl rfl rfl rfl (iaf rfl rfl rfl Try.underlying22 (by kernel_rfl : _ = some 1) ?_ ?_ (by (try simp only [Int.toNat_natCast, Nat.mul_one, Nat.zero_add, Nat.add_zero, Nat.zero_mul, Int.reduceToNat, Nat.reduceAdd, Nat.reduceMul, Nat.reduceSub, Nat.sub_zero]); rfl)) ?_; (focus (first | assumption | omega | (dsimp only; first | assumption | omega) | (simp <;> omega) | (simp; done))); (focus (first | (rw [List.length_map]; omega) | (rw [flatMap_len _ _ _ (fun _ => rfl)]; omega) | (simp <;> omega))))
          | (refine WJ.r rfl rfl rfl rfl rfl (iao rfl rfl rfl Try.underlying22 (by kernel_rfl : _ = some 1) ?_ ?_ (by (try simp only [Int.toNat_natCast, Nat.mul_one, Nat.zero_add, Nat.add_zero, Nat.zero_mul, Int.reduceToNat, Nat.reduceAdd, Nat.reduceMul, Nat.reduceSub, Nat.sub_zero]); rfl)) ?_; (focus (first | assumption | omega | (dsimp only; first | assumption | omega) | (simp <;> omega) | (simp; done))); (focus (first | (simp <;> omega) | (rw [List.length_append, List.length_map]; omega))))
        first
          | (refine WJ.r rfl rfl rfl rfl rfl (ld rfl rfl .tc Try.underlying9 rfl (by rfl)) ?_)
          | (refine WJ.r rfl rfl rfl rfl rfl (ldm rfl rfl Try.underlying9 rfl ?_) ?_; (focus (first | assumption | omega | (dsimp only; first | assumption | omega) | (simp <;> omega) | (simp; done))))
          | (refine WJ.r rfl rfl rfl rfl rfl (ldom rfl rfl Try.underlying9 rfl ?_) ?_; (focus (first | assumption | omega | (dsimp only; first | assumption | omega) | (simp <;> omega) | (simp; done))))
        refine WJ.g rfl rfl rfl rfl rfl (fun ext => og_call rfl rfl (by kernel_rfl) (keep_f1 (val := fun g => DE (⟨[], recE bef.l (k + 1), false⟩, 0) (g.val (recE bef.l (k + 1)).length)) (p := fun g => g.cap = (recE bef.l (k + 1)).length + g.sp.length) (xs := strs (recE bef.l (k + 1))) (T := 9) fun w hS => (by have := append_c (d := ⟨[], recE bef.l k, false⟩) (t := bef.l.getD k default) (a := q.a) (cap := q.cap) (w := w) hS.sl (by dsimp only; omega); rw [hr] at this; exact this))) ?_
        intro g33 hg33
        refine WJ.r rfl rfl rfl rfl rfl (rd_move rfl rfl) ?_
        refine WJ.r rfl rfl rfl rfl rfl (rd_extL rfl rfl rfl) ?_
        refine WJ.st rfl rfl rfl rfl (staJ rfl rfl rfl ?_ ?_ ?_) ?_
        · kernel_rfl
        · simp [Value.oneCell']
        · first | rfl | simp
        refine WJ.r rfl rfl rfl rfl rfl (rd_extL rfl rfl rfl) ?_
        refine WJ.nil ?_
        refine WL.nil ?_
        refine WX.block_normal ?_
        refine WX.then_normal ?_
        refine WC.region ?_
        refine WL.r rfl rfl rfl (rd_move rfl rfl) ?_
        first
          | (refine WL.r rfl rfl rfl (rd_add64nl rfl rfl rfl ?_) ?_; (focus (first | assumption | omega | (dsimp only; first | assumption | omega) | (simp <;> omega) | (simp; done))))
          | (refine WL.r rfl rfl rfl (rd_add64 rfl rfl rfl ?_) ?_; (focus (first | assumption | omega | (dsimp only; first | assumption | omega) | (simp <;> omega) | (simp; done))))
        refine WL.r rfl rfl rfl (rd_assign rfl rfl) ?_
        refine WL.nil ?_
        refine WX.loopO ((k + 1, g33)) (by (try dsimp only); omega) (sub_cons rfl (sub_cons rfl (sub_cons rfl (sub_cons rfl (sub_cons rfl (sub_nil _)))))) (by refine (sub_cons ?_ (sub_nil _)) <;> (first | rfl | (simp only [List.length_append, List.length_cons, List.length_nil, Nat.zero_add]; rfl) | (dsimp only; first | rfl | (congr 2; omega) | (congr 3; omega)))) ?_ (by first | exact fun _ h => h | exact st_sub)
        (try dsimp only)
        exact ⟨by omega, hg33⟩
      · (try simp only [decide_eq_true_eq, decide_eq_false_iff_not, Bool.not_eq_true', Bool.not_eq_false', Bool.not_not, Int.not_lt, Int.not_le] at hc30)
        refine WC.exit ?_
        refine WX.then_exit ?_
        refine WX.then_exit ?_
        refine WX.block_exit ?_
        obtain rfl : k = bef.l.length := by omega
        have hB := run_recE bef.l hb1 bef.l.length (Nat.le_refl _)
        have hBl := recE_flat bef.l bef.l.length (Nat.le_refl _)
        have hPl := recE_len bef.l bef.l.length (Nat.le_refl _)
        rw [List.take_of_length_le (Nat.le_refl _)] at hB hBl
        have hj := listJ_len beh.l
        generalize recE bef.l bef.l.length = P at *
        have o1 : syncD ⟨[], P, false⟩ = (⟨P.flatten, [], false⟩, 0) := by rw [syncD, if_neg (by simp)]; simp
        have o2 : compactD ⟨P.flatten, [], false⟩ beh.l = (⟨P.flatten, [recJ 82 (listJ beh.l)], false⟩, 0) := by
          rw [compactD, if_neg (by simp), if_neg (by omega), if_neg (by simp; intro s hs; have := mem_len hs; omega), if_neg (by omega)]; rfl
        have o3 : ∀ n : Nat, n ≤ (recJ 82 (listJ beh.l)).length → crashD ⟨P.flatten, [recJ 82 (listJ beh.l)], false⟩ 0 (n : Int) = (⟨P.flatten ++ (recJ 82 (listJ beh.l)).take n, [], true⟩, 0) := fun n hn => by
          have h : (([recJ 82 (listJ beh.l)] : List Bs).getD (Int.toNat 0) default) = recJ 82 (listJ beh.l) := rfl
          rw [crashD, if_neg (by simp), if_neg (by simp), h, if_neg (by omega)]; simp
        have o4 := fun (n : Nat) (hn : n ≤ (recJ 82 (listJ beh.l)).length) => cut_opn hB (by omega) hb2 hn
        have o5 := recJ_len 82 (listJ beh.l)
        generalize recJ 82 (listJ beh.l) = R at *
        generalize hBe : P.flatten = B at *
        refine WX.then_normal ?_
        refine WC.sr ?_
        refine WL.r rfl rfl rfl (lda rfl rfl .tc Try.underlying24 rfl ?_) ?_
        · kernel_rfl
        refine WL.g rfl rfl rfl (og_call rfl rfl (by kernel_rfl) (keep_f1 (val := fun g => DE (⟨B, [], false⟩, 0) (g.val 0)) (p := fun g => g.cap = 0 + g.sp.length) (xs := []) (T := 9) fun w hS => (by have := sync_c (d := ⟨[], P, false⟩) (a := q.a) (cap := q.cap) (w := w) hS.sl (by dsimp only; omega) (by dsimp only; omega) (by dsimp only; rw [hBe]; omega) (by simp); rw [o1] at this; exact this))) ?_
        intro g42; refine WL.pu ?_; intro hg42
        refine WL.r rfl rfl rfl (rd_move rfl rfl) ?_
        refine WL.r rfl rfl rfl (rd_extL rfl rfl rfl) ?_
        refine WL.r rfl rfl rfl (rd_extL rfl rfl rfl) ?_
        refine WL.g0 rfl rfl (sta rfl rfl rfl .tc ?_ ?_ ?_) ?_
        · kernel_rfl
        · simp [Value.oneCell']
        · first | rfl | simp
        intro _
        refine WL.nt ?_
        refine WC.sr ?_
        refine WL.r rfl rfl rfl (lda rfl rfl .tc Try.underlying24 rfl ?_) ?_
        · kernel_rfl
        refine WL.r rfl rfl rfl (rd_move rfl rfl) ?_
        refine WL.g rfl rfl rfl (og_call rfl rfl (by kernel_rfl) (keep_f1 (val := fun g => DE (⟨B, [R], false⟩, 0) (g.val 1)) (p := fun g => g.cap = 1 + g.sp.length) (xs := strs [R]) (T := 9) fun w hS => (by have := compact_c (d := ⟨B, [], false⟩) (l := beh.l) (a := g42.a) (b := beh.a) (cap := g42.cap) (capl := beh.cap) (w := w) sl_nil hS.sl (by simp) (by omega) (by omega); rw [o2] at this; exact this))) ?_
        intro g47; refine WL.pu ?_; intro hg47
        refine WL.r rfl rfl rfl (rd_move rfl rfl) ?_
        refine WL.r rfl rfl rfl (rd_extL rfl rfl rfl) ?_
        refine WL.r rfl rfl rfl (rd_extL rfl rfl rfl) ?_
        refine WL.g0 rfl rfl (sta rfl rfl rfl .tc ?_ ?_ ?_) ?_
        · kernel_rfl
        · simp [Value.oneCell']
        · first | rfl | simp
        intro _
        refine WL.r rfl rfl rfl (rd_assign rfl rfl) ?_
        refine WL.nt ?_
        refine WC.seq ?_
        refine WC.sr ?_
        refine WL.r rfl rfl rfl (rd_move rfl rfl) ?_
        refine WL.r rfl rfl rfl (rd_neq rfl rfl rfl) ?_
        refine WL.set 54 rfl (v' := .bool false) (by rfl) ?_
        refine WL.r rfl rfl rfl (rd_move rfl rfl) ?_
        first
          | (refine WL.r rfl rfl rfl (rd_fa (q := 1) rfl rfl Try.underlying24 rfl (by kernel_rfl) rfl) ?_)
          | (refine WL.r rfl rfl rfl (faf (q' := 1) rfl rfl Try.underlying24 rfl (by kernel_rfl) rfl) ?_)
        first
          | (refine WL.r rfl rfl rfl (ld rfl rfl .tc Try.underlying22 rfl (by rfl)) ?_)
          | (refine WL.r rfl rfl rfl (ldm rfl rfl Try.underlying22 rfl ?_) ?_; (focus (first | assumption | omega | (dsimp only; first | assumption | omega) | (simp <;> omega) | (simp; done))))
          | (refine WL.r rfl rfl rfl (ldom rfl rfl Try.underlying22 rfl ?_) ?_; (focus (first | assumption | omega | (dsimp only; first | assumption | omega) | (simp <;> omega) | (simp; done))))
        refine WL.r rfl rfl rfl (rd_len rfl rfl Try.underlying22) ?_
        refine WL.r rfl rfl rfl (rd_neq rfl rfl rfl) ?_
        refine WL.set 59 rfl (v' := .bool false) (by rfl) ?_
        refine WL.r rfl rfl rfl (rd_pickf rfl rfl rfl) ?_
        refine WL.nt ?_
        refine WC.cond rfl (fun h => by cases h) (fun _ => ?_)
        refine WC.skip ?_
        refine WX.then_normal ?_
        refine WC.sr ?_
        refine WL.r rfl rfl rfl (rd_move rfl rfl) ?_
        refine WL.r rfl rfl rfl (rd_convN rfl rfl Try.underlying49 Try.underlying3 ?_) ?_
        · first | exact wrap8_64 _ | (rw [IntKind.wrap_i64]; omega)
        first
          | (refine WL.r rfl rfl rfl (rd_fa (q := 1) rfl rfl Try.underlying24 rfl (by kernel_rfl) rfl) ?_)
          | (refine WL.r rfl rfl rfl (faf (q' := 1) rfl rfl Try.underlying24 rfl (by kernel_rfl) rfl) ?_)
        first
          | (refine WL.r rfl rfl rfl (ld rfl rfl .tc Try.underlying22 rfl (by rfl)) ?_)
          | (refine WL.r rfl rfl rfl (ldm rfl rfl Try.underlying22 rfl ?_) ?_; (focus (first | assumption | omega | (dsimp only; first | assumption | omega) | (simp <;> omega) | (simp; done))))
          | (refine WL.r rfl rfl rfl (ldom rfl rfl Try.underlying22 rfl ?_) ?_; (focus (first | assumption | omega | (dsimp only; first | assumption | omega) | (simp <;> omega) | (simp; done))))
        first
          | (refine WL.r rfl rfl rfl (rd_ia rfl rfl rfl Try.underlying22 (by kernel_rfl : _ = some 1) ?_ (by (try simp only [Int.toNat_natCast, Nat.mul_one, Nat.zero_add, Nat.add_zero, Nat.zero_mul, Int.reduceToNat, Nat.reduceAdd, Nat.reduceMul, Nat.reduceSub, Nat.sub_zero]); rfl)) ?_; (focus (first | assumption | omega | (dsimp only; first | assumption | omega) | (simp <;> omega) | (simp; done))))
          | (refine WL.r rfl rfl rfl (iaf rfl rfl rfl Try.underlying22 (by kernel_rfl : _ = some 1) ?_ ?_ (by (try simp only [Int.toNat_natCast, Nat.mul_one, Nat.zero_add, Nat.add_zero, Nat.zero_mul, Int.reduceToNat, Nat.reduceAdd, Nat.reduceMul, Nat.reduceSub, Nat.sub_zero]); rfl)) ?_; (focus (first | assumption | omega | (dsimp only; first | assumption | omega) | (simp <;> omega) | (simp; done))); (focus (first | (rw [List.length_map]; omega) | (rw [flatMap_len _ _ _ (fun _ => rfl)]; omega) | (simp <;> omega))))
          | (refine WL.r rfl rfl rfl (iao rfl rfl rfl Try.underlying22 (by kernel_rfl : _ = some 1) ?_ ?_ (by (try simp only [Int.toNat_natCast, Nat.mul_one, Nat.zero_add, Nat.add_zero, Nat.zero_mul, Int.reduceToNat, Nat.reduceAdd, Nat.reduceMul, Nat.reduceSub, Nat.sub_zero]); rfl)) ?_; (focus (first | assumption | omega | (dsimp only; first | assumption | omega) | (simp <;> omega) | (simp; done))); (focus (first | (simp <;> omega) | (rw [List.length_append, List.length_map]; omega))))
        first
          | (refine WL.r rfl rfl rfl (ld rfl rfl .tc Try.underlying9 rfl (by rfl)) ?_)
          | (refine WL.r rfl rfl rfl (ldm rfl rfl Try.underlying9 rfl ?_) ?_; (focus (first | assumption | omega | (dsimp only; first | assumption | omega) | (simp <;> omega) | (simp; done))))
          | (refine WL.r rfl rfl rfl (ldom rfl rfl Try.underlying9 rfl ?_) ?_; (focus (first | assumption | omega | (dsimp only; first | assumption | omega) | (simp <;> omega) | (simp; done))))
        refine WL.r rfl rfl rfl (rd_slen rfl rfl Try.underlying9) ?_
        refine WL.set 67 rfl (v' := .int .i64 (R.length : Int)) (by rfl) ?_
        first
          | (refine WL.r rfl rfl rfl (rd_add64nl rfl rfl rfl ?_) ?_; (focus (first | assumption | omega | (dsimp only; first | assumption | omega) | (simp <;> omega) | (simp; done))))
          | (refine WL.r rfl rfl rfl (rd_add64 rfl rfl rfl ?_) ?_; (focus (first | assumption | omega | (dsimp only; first | assumption | omega) | (simp <;> omega) | (simp; done))))
        first
          | (refine WL.r rfl rfl rfl (rd_rem64n rfl rfl rfl ?_) ?_; (focus (first | assumption | omega | (dsimp only; first | assumption | omega) | (simp <;> omega) | (simp; done))))
          | (refine WL.r rfl rfl rfl (rd_rem64 rfl rfl rfl ?_) ?_; (focus (first | assumption | omega | (dsimp only; first | assumption | omega) | (simp <;> omega) | (simp; done))))
        refine WL.r rfl rfl rfl (rd_assign rfl rfl) ?_
        refine WL.nil ?_
        have hn : m % (R.length + 1) ≤ R.length := by have := Nat.mod_lt m (show 0 < R.length + 1 by omega); omega
        obtain ⟨out, sf2, hO, ho1, ho2⟩ := o4 _ hn
        have o6 := o3 _ hn
        generalize m % (R.length + 1) = n at *
        have ht : (R.take n).length ≤ R.length := by rw [List.length_take]; exact Nat.min_le_right _ _
        refine WX.then_normal ?_
        refine WC.sr ?_
        refine WL.r rfl rfl rfl (lda rfl rfl .tc Try.underlying24 rfl ?_) ?_
        · kernel_rfl
        refine WL.r rfl rfl rfl (rd_move rfl rfl) ?_
        refine WL.g rfl rfl rfl (og_call rfl rfl (by kernel_rfl) (keep_f1 (val := fun g => DE (⟨B ++ R.take n, [], true⟩, 0) (g.val 0)) (p := fun g => g.cap = 0 + g.sp.length) (xs := []) (T := 9) fun w hS => (by have := crash_c (d := ⟨B, [R], false⟩) (kept := 0) (bytes := (n : Int)) (a := g47.a) (cap := g47.cap) (w := w) hS.sl (by simp) (by simp; omega) (by simp; omega) (by dsimp only; omega); rw [o6] at this; exact this))) ?_
        intro g70; refine WL.pu ?_; intro hg70
        refine WL.r rfl rfl rfl (rd_move rfl rfl) ?_
        refine WL.r rfl rfl rfl (rd_extL rfl rfl rfl) ?_
        refine WL.r rfl rfl rfl (rd_extL rfl rfl rfl) ?_
        refine WL.g rfl rfl rfl (og_alloc rfl (v := (.agg #[.string (S []), .slice none 0 0, .bool false])) (cs := [.string (S []), .slice none 0 0, .bool false]) (by kernel_rfl) rfl) ?_
        intro b11
        refine WL.g0 rfl rfl (sta rfl rfl rfl .tc ?_ ?_ ?_) ?_
        · kernel_rfl
        · simp [Value.oneCell']
        · first | rfl | simp
        intro _
        refine WL.r rfl rfl rfl (rd_assign rfl rfl) ?_
        refine WL.nt ?_
        refine WC.sr ?_
        refine WL.r rfl rfl rfl (lda rfl rfl .tc Try.underlying24 rfl ?_) ?_
        · kernel_rfl
        refine WL.g rfl rfl rfl (og_call rfl rfl (by kernel_rfl) (keep_f1 (val := fun g => .tuple #[g.val out.length, .agg #[.string (S sf2), .slice none 0 0, .bool false], .int .i64 0]) (p := fun g => g.cap = out.length + g.sp.length) (xs := strs out) (T := 9) fun w hS => (by have := open_c (d := ⟨B ++ R.take n, [], true⟩) (a := g70.a) (cap := g70.cap) (w := w) sl_nil (by dsimp only; rw [List.length_append]; omega) (by simp); rw [hO] at this; exact this))) ?_
        intro g76; refine WL.pu ?_; intro hg76
        refine WL.r rfl rfl rfl (rd_move rfl rfl) ?_
        refine WL.r rfl rfl rfl (rd_extL rfl rfl rfl) ?_
        refine WL.r rfl rfl rfl (rd_extL rfl rfl rfl) ?_
        refine WL.r rfl rfl rfl (rd_extL rfl rfl rfl) ?_
        refine WL.g rfl rfl rfl (og_alloc rfl (v := (.agg #[.string (S []), .slice none 0 0, .bool false])) (cs := [.string (S []), .slice none 0 0, .bool false]) (by kernel_rfl) rfl) ?_
        intro b14
        refine WL.r rfl rfl rfl (rd_assign rfl rfl) ?_
        refine WL.g0 rfl rfl (sta rfl rfl rfl .tc ?_ ?_ ?_) ?_
        · kernel_rfl
        · simp [Value.oneCell']
        · first | rfl | simp
        intro _
        refine WL.r rfl rfl rfl (rd_assign rfl rfl) ?_
        refine WL.nt ?_
        refine WC.sr ?_
        refine WL.r rfl rfl rfl (rd_move rfl rfl) ?_
        refine WL.r rfl rfl rfl (rd_assign rfl rfl) ?_
        refine WL.nt ?_
        refine WC.seq ?_
        refine WC.sr ?_
        refine WL.r rfl rfl rfl (rd_move rfl rfl) ?_
        first
          | (refine WL.r rfl rfl rfl (rd_fa (q := 1) rfl rfl Try.underlying24 rfl (by kernel_rfl) rfl) ?_)
          | (refine WL.r rfl rfl rfl (faf (q' := 1) rfl rfl Try.underlying24 rfl (by kernel_rfl) rfl) ?_)
        first
          | (refine WL.r rfl rfl rfl (ld rfl rfl .tc Try.underlying22 rfl (by rfl)) ?_)
          | (refine WL.r rfl rfl rfl (ldm rfl rfl Try.underlying22 rfl ?_) ?_; (focus (first | assumption | omega | (dsimp only; first | assumption | omega) | (simp <;> omega) | (simp; done))))
          | (refine WL.r rfl rfl rfl (ldom rfl rfl Try.underlying22 rfl ?_) ?_; (focus (first | assumption | omega | (dsimp only; first | assumption | omega) | (simp <;> omega) | (simp; done))))
        first
          | (refine WL.r rfl rfl rfl (rd_ia rfl rfl rfl Try.underlying22 (by kernel_rfl : _ = some 1) ?_ (by (try simp only [Int.toNat_natCast, Nat.mul_one, Nat.zero_add, Nat.add_zero, Nat.zero_mul, Int.reduceToNat, Nat.reduceAdd, Nat.reduceMul, Nat.reduceSub, Nat.sub_zero]); rfl)) ?_; (focus (first | assumption | omega | (dsimp only; first | assumption | omega) | (simp <;> omega) | (simp; done))))
          | (refine WL.r rfl rfl rfl (iaf rfl rfl rfl Try.underlying22 (by kernel_rfl : _ = some 1) ?_ ?_ (by (try simp only [Int.toNat_natCast, Nat.mul_one, Nat.zero_add, Nat.add_zero, Nat.zero_mul, Int.reduceToNat, Nat.reduceAdd, Nat.reduceMul, Nat.reduceSub, Nat.sub_zero]); rfl)) ?_; (focus (first | assumption | omega | (dsimp only; first | assumption | omega) | (simp <;> omega) | (simp; done))); (focus (first | (rw [List.length_map]; omega) | (rw [flatMap_len _ _ _ (fun _ => rfl)]; omega) | (simp <;> omega))))
          | (refine WL.r rfl rfl rfl (iao rfl rfl rfl Try.underlying22 (by kernel_rfl : _ = some 1) ?_ ?_ (by (try simp only [Int.toNat_natCast, Nat.mul_one, Nat.zero_add, Nat.add_zero, Nat.zero_mul, Int.reduceToNat, Nat.reduceAdd, Nat.reduceMul, Nat.reduceSub, Nat.sub_zero]); rfl)) ?_; (focus (first | assumption | omega | (dsimp only; first | assumption | omega) | (simp <;> omega) | (simp; done))); (focus (first | (simp <;> omega) | (rw [List.length_append, List.length_map]; omega))))
        first
          | (refine WL.r rfl rfl rfl (ld rfl rfl .tc Try.underlying9 rfl (by rfl)) ?_)
          | (refine WL.r rfl rfl rfl (ldm rfl rfl Try.underlying9 rfl ?_) ?_; (focus (first | assumption | omega | (dsimp only; first | assumption | omega) | (simp <;> omega) | (simp; done))))
          | (refine WL.r rfl rfl rfl (ldom rfl rfl Try.underlying9 rfl ?_) ?_; (focus (first | assumption | omega | (dsimp only; first | assumption | omega) | (simp <;> omega) | (simp; done))))
        refine WL.r rfl rfl rfl (rd_slen rfl rfl Try.underlying9) ?_
        refine WL.r rfl rfl rfl (rd_eql rfl rfl rfl) ?_
        refine WL.nt ?_
        refine WC.cond rfl (fun hc89 => ?_) (fun hc89 => ?_)
        · (try simp only [decide_eq_true_eq, decide_eq_false_iff_not, Bool.not_eq_true', Bool.not_eq_false', Bool.not_not, Int.not_lt, Int.not_le] at hc89)
          have ho := ho1 (by first | (simp at hc89; omega) | simpa using hc89)
          subst ho
          refine WC.region ?_
          refine WL.r rfl rfl rfl (rd_move rfl rfl) ?_
          refine WL.r rfl rfl rfl (rd_assign rfl rfl) ?_
          refine WL.nt ?_
          refine WC.sr ?_
          refine WL.g rfl rfl rfl (og_call rfl rfl (by kernel_rfl) (keep_val fun w hS => awake_c)) ?_
          intro _
          refine WL.r rfl rfl rfl (rd_move rfl rfl) ?_
          refine WL.set 92 rfl (v' := .bool true) (by first | rfl | exact congrArg Value.bool (by simp [*]; done) | exact congrArg Value.bool (by simp; omega)) ?_
          refine WL.r rfl rfl rfl (rd_move rfl rfl) ?_
          refine WL.r rfl rfl rfl (rd_eql rfl rfl rfl) ?_
          refine WL.r rfl rfl rfl (rd_pickt rfl rfl rfl) ?_
          refine WL.r rfl rfl rfl (rd_move rfl rfl) ?_
          refine WL.set 96 rfl (v' := .bool true) (by first | rfl | exact congrArg Value.bool (by simp [*]; done) | exact congrArg Value.bool (by simp; omega)) ?_
          refine WL.r rfl rfl rfl (rd_move rfl rfl) ?_
          refine WL.r rfl rfl rfl (rd_eql rfl rfl rfl) ?_
          refine WL.r rfl rfl rfl (rd_pickt rfl rfl rfl) ?_
          refine WL.r rfl rfl rfl (rd_move rfl rfl) ?_
          refine WL.set 100 rfl (v' := .bool true) (by first | rfl | exact congrArg Value.bool (by simp [*]; done) | exact congrArg Value.bool (by simp; omega)) ?_
          refine WL.r rfl rfl rfl (rd_move rfl rfl) ?_
          refine WL.r rfl rfl rfl (rd_move rfl rfl) ?_
          refine WL.g rfl rfl rfl (og_call rfl rfl (by kernel_rfl) (keep_val fun w hS => same_c (by first | exact hS.sl | exact hS.os | exact hS.oc | exact sl_takeM _ hS.sl | exact sl_dropM _ hS.sl | exact sl_cutM _ (by omega) hS.sl | exact sl_nil) (by first | exact hS.sl | exact hS.os | exact hS.oc | exact sl_takeM _ hS.sl | exact sl_dropM _ hS.sl | exact sl_cutM _ (by omega) hS.sl | exact sl_nil) (by first | assumption | omega | (dsimp only; first | assumption | omega) | (simp <;> omega) | (simp; done)) (by first | assumption | omega | (dsimp only; first | assumption | omega) | (simp <;> omega) | (simp; done)))) ?_
          intro _
          refine WL.r rfl rfl rfl (rd_pickt rfl rfl rfl) ?_
          refine WL.r rfl rfl rfl (rd_assign rfl rfl) ?_
          refine WL.nt ?_
          refine WC.ret ?_
          exact WX.retN rfl (.tmp rfl .nil) fun w' hS => ⟨by first | rfl | (simp [tup]; done) | (simp [*, tup]; done), hS.below⟩
        · (try simp only [decide_eq_true_eq, decide_eq_false_iff_not, Bool.not_eq_true', Bool.not_eq_false', Bool.not_not, Int.not_lt, Int.not_le] at hc89)
          have ho := ho2 (by first | (simp at hc89; omega) | simpa using hc89)
          subst ho
          refine WC.skip ?_
          refine WX.then_normal ?_
          refine WC.sr ?_
          refine WL.g rfl rfl rfl (og_call rfl rfl (by kernel_rfl) (keep_val fun w hS => awake_c)) ?_
          intro _
          refine WL.r rfl rfl rfl (rd_move rfl rfl) ?_
          refine WL.set 92 rfl (v' := .bool true) (by first | rfl | exact congrArg Value.bool (by simp [*]; done) | exact congrArg Value.bool (by simp; omega)) ?_
          refine WL.r rfl rfl rfl (rd_move rfl rfl) ?_
          refine WL.r rfl rfl rfl (rd_eql rfl rfl rfl) ?_
          refine WL.r rfl rfl rfl (rd_pickt rfl rfl rfl) ?_
          refine WL.r rfl rfl rfl (rd_move rfl rfl) ?_
          refine WL.set 96 rfl (v' := .bool true) (by first | rfl | exact congrArg Value.bool (by simp [*]; done) | exact congrArg Value.bool (by simp; omega)) ?_
          refine WL.r rfl rfl rfl (rd_move rfl rfl) ?_
          refine WL.r rfl rfl rfl (rd_eql rfl rfl rfl) ?_
          refine WL.r rfl rfl rfl (rd_pickt rfl rfl rfl) ?_
          refine WL.r rfl rfl rfl (rd_move rfl rfl) ?_
          refine WL.set 100 rfl (v' := .bool true) (by first | rfl | exact congrArg Value.bool (by simp [*]; done) | exact congrArg Value.bool (by simp; omega)) ?_
          refine WL.r rfl rfl rfl (rd_move rfl rfl) ?_
          refine WL.r rfl rfl rfl (rd_move rfl rfl) ?_
          refine WL.g rfl rfl rfl (og_call rfl rfl (by kernel_rfl) (keep_val fun w hS => same_c (by first | exact hS.sl | exact hS.os | exact hS.oc | exact sl_takeM _ hS.sl | exact sl_dropM _ hS.sl | exact sl_cutM _ (by omega) hS.sl | exact sl_nil) (by first | exact hS.sl | exact hS.os | exact hS.oc | exact sl_takeM _ hS.sl | exact sl_dropM _ hS.sl | exact sl_cutM _ (by omega) hS.sl | exact sl_nil) (by first | assumption | omega | (dsimp only; first | assumption | omega) | (simp <;> omega) | (simp; done)) (by first | assumption | omega | (dsimp only; first | assumption | omega) | (simp <;> omega) | (simp; done)))) ?_
          intro _
          refine WL.r rfl rfl rfl (rd_pickt rfl rfl rfl) ?_
          refine WL.r rfl rfl rfl (rd_assign rfl rfl) ?_
          refine WL.nt ?_
          refine WC.ret ?_
          exact WX.retN rfl (.tmp rfl .nil) fun w' hS => ⟨by first | rfl | (simp [tup]; done) | (simp [*, tup]; done), hS.below⟩
theorem atomic_c {bef beh : Sl Bs} {bt : Int} {w : World} {ok : Nat → Prop} (hF1 : (Fact.sl bef.a (strs bef.l)).holds ok w) (hF2 : (Fact.sl beh.a (strs beh.l)).holds ok w) (hcap : bef.l.length ≤ bef.cap) (hcb : bef.cap * 16 ≤ 140737488351232) (hqap : beh.l.length ≤ beh.cap) (hqb : beh.cap * 16 ≤ 140737488351232) (hs : ∀ s ∈ bef.l, s.length ≤ 140737488351232) (hq : ∀ s ∈ beh.l, s.length ≤ 140737488351232) (hbt : (Lit.int .u16 bt).wf = true) :
    Calls Try.prog 8 #[bef.val, beh.val, .int .u16 bt] w fun e w' => e = .returned (.bool true) ∧ Below w.heap.size w w' :=
  by
    obtain ⟨m, rfl⟩ : ∃ m : Nat, bt = m := ⟨bt.toNat, by have := wf_u16 hbt; omega⟩
    exact atomic_n hF1 hF2 hcap hcb hqap hqb hs hq (by have := wf_u16 hbt; omega)
end Go.Proofs.Ytijamoagkmjcjaa
