/-
  Compact.
-/
import Derived.Test.YtijamoagkmjcjaaJou3
namespace Go.Proofs.Ytijamoagkmjcjaa
set_option linter.unusedSimpArgs false
set_option linter.unusedVariables false
set_option maxRecDepth 20000
open Go.RowKit

theorem str_cJ {ok : Nat → Prop} {w0 : World} {fs : List Fact} {bb : Nat} {p : Option Addr} {ob : Option Nat} {m : List UInt8} {sp : List Value} {cap : Nat} {r ext : List Ent} {w : World} (hS : St ok w0 (ext ++ BD bb p ob m sp cap r) fs w) (hB : BOk bb p ob m sp cap) (hml : m.length ≤ 1000000000) :
    Calls Try.prog 38 #[.pointer (some ⟨bb, 0, none⟩)] w fun e w' => ∃ _g : Unit, e = .returned (.string (S m)) ∧ True ∧ St ok w0 (ext ++ r) fs w' :=
  (str_c (r := ext ++ r) (hS.perm (List.Perm.symm (List.perm_middle.trans (List.Perm.cons _ List.perm_middle)))) hB hml).mono fun _ _ ⟨g, h1, h2⟩ => ⟨g, h1, trivial, h2⟩
theorem listJ_take (l : List Bs) (k : Nat) (h : k < l.length) : listJ (l.take (k + 1)) = listJ (l.take k) ++ (four (l.getD k default).length ++ l.getD k default) := by
  rw [List.take_add_one, List.getElem?_eq_getElem h, List.getD_eq_getElem?_getD, List.getElem?_eq_getElem h]
  simp only [listJ, List.flatMap_append, Option.toList, List.flatMap_cons, List.flatMap_nil, List.append_nil, Option.getD]
theorem listJ_take_le (l : List Bs) (k : Nat) : (listJ (l.take k)).length ≤ (listJ l).length := by
  have := congrArg (fun l : List Bs => (listJ l).length) (List.take_append_drop k l)
  simp only [listJ, List.flatMap_append, List.length_append] at this ⊢; omega
theorem any_of_get (l : List Bs) (k : Nat) (h : k < l.length) (hk : 65536 < (l.getD k default).length) : l.any (fun s => decide (65536 < s.length)) = true := by
  rw [List.any_eq_true]
  refine ⟨l.getD k default, ?_, by simpa using hk⟩
  rw [List.getD_eq_getElem?_getD, List.getElem?_eq_getElem h]; exact List.getElem_mem h
theorem all_take {l : List Bs} {k : Nat} {p : Bs → Prop} (h : k < l.length) (h1 : ∀ s ∈ l.take k, p s) (h2 : p (l.getD k default)) : ∀ s ∈ l.take (k + 1), p s := by
  intro s hs
  rw [List.take_add_one, List.getElem?_eq_getElem h] at hs
  rw [List.getD_eq_getElem?_getD, List.getElem?_eq_getElem h] at h2
  rcases List.mem_append.1 hs with hs | hs
  · exact h1 s hs
  · simp at hs; subst hs; exact h2

theorem compact_c {d : Dk} {l : List Bs} {a b : Option Addr} {cap capl : Nat} {w : World} {ok : Nat → Prop} (hF1 : (Fact.sl a (strs d.pend)).holds ok w) (hF2 : (Fact.sl b (strs l)).holds ok w) (hl : d.pend.length ≤ 100000) (hll : l.length ≤ 100000) (hj : (listJ l).length ≤ 900000) :
    Calls Try.prog 21 #[.agg #[.string (S d.safe), .slice a d.pend.length cap, .bool d.crash], .slice b l.length capl] w fun e w' => ∃ g : Rs, e = .returned (DE (compactD d l) (g.val (compactD d l).1.pend.length)) ∧ g.cap = (compactD d l).1.pend.length + g.sp.length ∧ St (fun _ => True) w [g.ent (strs (compactD d l).1.pend) 9] [] w' := by
  refine enter (S := St (fun _ => True) w [] [Fact.sl a (strs d.pend), Fact.sl b (strs l)]) (L := [(0, .agg #[.string (S d.safe), .slice a d.pend.length cap, .bool d.crash]), (1, .slice b l.length capl)]) Try.func21 rfl Try.ntmps21 rfl (args_cons rfl (args_cons rfl (args_nil _))) (St.start (fun _ _ => trivial) (facts_cons (fact_any hF1) (facts_cons (fact_any hF2) facts_nil))) ?_
  refine WC.sr ?_
  refine WL.g rfl rfl rfl (og_box rfl rfl rfl) ?_
  intro b2
  refine WL.g rfl rfl rfl (og_alloc rfl (v := (.agg #[.string (S []), .slice none 0 0, .bool false])) (cs := [.string (S []), .slice none 0 0, .bool false]) (by kernel_rfl) rfl) ?_
  intro b4
  refine WL.r rfl rfl rfl (rd_assign rfl rfl) ?_
  refine WL.nt ?_
  refine WC.seq ?_
  refine WC.block ?_
  refine WC.sr ?_
  first
    | (refine WL.r rfl rfl rfl (rd_fa rfl rfl Try.underlying24 rfl (by kernel_rfl) (by (try simp only [Int.toNat_natCast, Nat.mul_one, Nat.zero_add, Nat.add_zero, Nat.zero_mul, Int.reduceToNat, Nat.reduceAdd, Nat.reduceMul, Nat.reduceSub, Nat.sub_zero]); rfl)) ?_)
    | (refine WL.r rfl rfl rfl (faf rfl rfl Try.underlying24 rfl (by kernel_rfl) (by (try simp only [Int.toNat_natCast, Nat.mul_one, Nat.zero_add, Nat.add_zero, Nat.zero_mul, Int.reduceToNat, Nat.reduceAdd, Nat.reduceMul, Nat.reduceSub, Nat.sub_zero]); rfl)) ?_)
  first
    | (refine WL.r rfl rfl rfl (ld rfl rfl .tc Try.underlying4 rfl (by rfl)) ?_)
    | (refine WL.r rfl rfl rfl (ldm rfl rfl Try.underlying4 rfl ?_) ?_; (focus (first | assumption | omega | (simp <;> omega) | (simp; done))))
    | (refine WL.r rfl rfl rfl (ldom rfl rfl Try.underlying4 rfl ?_) ?_; (focus (first | assumption | omega | (simp <;> omega) | (simp; done))))
  refine WL.r rfl rfl rfl (rd_assign rfl rfl) ?_
  refine WL.nt ?_
  refine WC.cond rfl (fun hc12 => ?_) (fun hc12 => ?_)
  · (try simp only [decide_eq_true_eq, decide_eq_false_iff_not, Bool.not_eq_true', Bool.not_eq_false', Bool.not_not, Int.not_lt, Int.not_le] at hc12)
    refine WC.sr ?_
    refine WL.r rfl rfl rfl (rd_bld [[.string (S [])], [.slice none 0 0], [.bool false]] rfl rfl (by simp only [bld, fldv, Nat.beq, Value.cells, cond_true, cond_false, List.nil_append, List.cons_append, List.append_nil]; rfl) (fun w => by kernel_rfl)) ?_
    refine WL.g0 rfl rfl (sta rfl rfl rfl .tc ?_ ?_ ?_) ?_
    · kernel_rfl
    · simp [Value.oneCell']
    · first | rfl | simp
    intro _
    refine WL.r rfl rfl rfl (rd_assign rfl rfl) ?_
    refine WL.nt ?_
    refine WC.ret ?_
    refine WX.block_ret ?_
    refine WX.then_ret ?_
    exact WX.retN rfl (.agg rfl .tc Try.underlying24 rfl (by kernel_rfl) (.tmp rfl .nil)) fun w' hS => zero_ret (by rw [compactD, if_pos hc12]) hS
  · (try simp only [decide_eq_true_eq, decide_eq_false_iff_not, Bool.not_eq_true', Bool.not_eq_false', Bool.not_not, Int.not_lt, Int.not_le] at hc12)
    refine WC.sr ?_
    refine WL.r rfl rfl rfl (rd_move rfl rfl) ?_
    refine WL.r rfl rfl rfl (rd_len rfl rfl Try.underlying22) ?_
    refine WL.r rfl rfl rfl (rd_gtr rfl rfl rfl) ?_
    refine WL.r rfl rfl rfl (rd_assign rfl rfl) ?_
    refine WL.nt ?_
    refine WC.cond rfl (fun hc16 => ?_) (fun hc16 => ?_)
    · (try simp only [decide_eq_true_eq, decide_eq_false_iff_not, Bool.not_eq_true', Bool.not_eq_false', Bool.not_not, Int.not_lt, Int.not_le] at hc16)
      refine WC.sr ?_
      refine WL.r rfl rfl rfl (rd_bld [[.string (S [])], [.slice none 0 0], [.bool false]] rfl rfl (by simp only [bld, fldv, Nat.beq, Value.cells, cond_true, cond_false, List.nil_append, List.cons_append, List.append_nil]; rfl) (fun w => by kernel_rfl)) ?_
      refine WL.g0 rfl rfl (sta rfl rfl rfl .tc ?_ ?_ ?_) ?_
      · kernel_rfl
      · simp [Value.oneCell']
      · first | rfl | simp
      intro _
      refine WL.r rfl rfl rfl (rd_assign rfl rfl) ?_
      refine WL.nt ?_
      refine WC.ret ?_
      refine WX.block_ret ?_
      refine WX.then_ret ?_
      exact WX.retN rfl (.agg rfl .tc Try.underlying24 rfl (by kernel_rfl) (.tmp rfl .nil)) fun w' hS => zero_ret (by rw [compactD, if_neg (by simp [hc12]), if_pos (by omega)]) hS
    · (try simp only [decide_eq_true_eq, decide_eq_false_iff_not, Bool.not_eq_true', Bool.not_eq_false', Bool.not_not, Int.not_lt, Int.not_le] at hc16)
      refine WC.skip ?_
      refine WX.block_normal ?_
      refine WX.then_normal ?_
      refine WC.sr ?_
      refine WL.r rfl rfl rfl (rd_assign rfl rfl) ?_
      refine WL.nt ?_
      refine WC.seq ?_
      refine WC.sr ?_
      refine WL.r rfl rfl rfl (rd_move rfl rfl) ?_
      refine WL.r rfl rfl rfl (rd_len rfl rfl Try.underlying22) ?_
      refine WL.r rfl rfl rfl (rd_move rfl rfl) ?_
      refine WL.nt ?_
      refine WC.block ?_
      refine WC.loopP (σ := Nat) [(1, _), (2, _), (4, _), (21, _), (22, _)] (fun g => [(6, .int .i64 ((listJ (l.take g)).length : Int)), (23, .int .i64 (g : Int))]) (fun g => g ≤ l.length ∧ ∀ s ∈ l.take g, s.length ≤ 65536) (fun g => l.length - g) (0) (sub_cons rfl (sub_cons rfl (sub_cons rfl (sub_cons rfl (sub_cons rfl (sub_nil _)))))) (sub_cons rfl (sub_cons rfl (sub_nil _))) (by (try dsimp only); exact ⟨Nat.zero_le _, fun s h => by simp at h⟩) ?_
      rintro k hinv1; (try dsimp only at hinv1 ⊢)
      obtain ⟨hk, hks⟩ := hinv1
      refine WC.sr ?_
      refine WL.r rfl rfl rfl (rd_lss rfl rfl rfl) ?_
      refine WL.nt ?_
      refine WC.seq ?_
      refine WC.cond rfl (fun hc24 => ?_) (fun hc24 => ?_)
      · (try simp only [decide_eq_true_eq, decide_eq_false_iff_not, Bool.not_eq_true', Bool.not_eq_false', Bool.not_not, Int.not_lt, Int.not_le] at hc24)
        have hk1 := congrArg List.length (listJ_take l k (by omega))
        have hk3 := listJ_take_le l (k + 1)
        rw [List.length_append, List.length_append, four_len] at hk1
        refine WC.skip ?_
        refine WX.then_normal ?_
        refine WC.seq ?_
        refine WC.block ?_
        refine WC.sr ?_
        first
          | (refine WL.r rfl rfl rfl (rd_ia rfl rfl rfl Try.underlying22 (by kernel_rfl : _ = some 1) ?_ (by (try simp only [Int.toNat_natCast, Nat.mul_one, Nat.zero_add, Nat.add_zero, Nat.zero_mul, Int.reduceToNat, Nat.reduceAdd, Nat.reduceMul, Nat.reduceSub, Nat.sub_zero]); rfl)) ?_; (focus (first | assumption | omega | (simp <;> omega) | (simp; done))))
          | (refine WL.r rfl rfl rfl (iaf rfl rfl rfl Try.underlying22 (by kernel_rfl : _ = some 1) ?_ ?_ (by (try simp only [Int.toNat_natCast, Nat.mul_one, Nat.zero_add, Nat.add_zero, Nat.zero_mul, Int.reduceToNat, Nat.reduceAdd, Nat.reduceMul, Nat.reduceSub, Nat.sub_zero]); rfl)) ?_; (focus (first | assumption | omega | (simp <;> omega) | (simp; done))); (focus (first | (rw [List.length_map]; omega) | (rw [flatMap_len _ _ _ (fun _ => rfl)]; omega) | (simp <;> omega))))
          | (refine WL.r rfl rfl rfl (iao rfl rfl rfl Try.underlying22 (by kernel_rfl : _ = some 1) ?_ ?_ (by (try simp only [Int.toNat_natCast, Nat.mul_one, Nat.zero_add, Nat.add_zero, Nat.zero_mul, Int.reduceToNat, Nat.reduceAdd, Nat.reduceMul, Nat.reduceSub, Nat.sub_zero]); rfl)) ?_; (focus (first | assumption | omega | (simp <;> omega) | (simp; done))); (focus (first | (simp <;> omega) | (rw [List.length_append, List.length_map]; omega))))
        first
          | (refine WL.r rfl rfl rfl (ld rfl rfl .tc Try.underlying9 rfl (by rfl)) ?_)
          | (refine WL.r rfl rfl rfl (ldm rfl rfl Try.underlying9 rfl ?_) ?_; (focus (first | assumption | omega | (simp <;> omega) | (simp; done))))
          | (refine WL.r rfl rfl rfl (ldom rfl rfl Try.underlying9 rfl ?_) ?_; (focus (first | assumption | omega | (simp <;> omega) | (simp; done))))
        refine WL.r rfl rfl rfl (rd_assign rfl rfl) ?_
        refine WL.nt ?_
        refine WC.seq ?_
        refine WC.sr ?_
        refine WL.r rfl rfl rfl (rd_move rfl rfl) ?_
        refine WL.r rfl rfl rfl (rd_slen rfl rfl Try.underlying9) ?_
        refine WL.r rfl rfl rfl (rd_gtr rfl rfl rfl) ?_
        refine WL.nt ?_
        refine WC.cond rfl (fun hc29 => ?_) (fun hc29 => ?_)
        · (try simp only [decide_eq_true_eq, decide_eq_false_iff_not, Bool.not_eq_true', Bool.not_eq_false', Bool.not_not, Int.not_lt, Int.not_le] at hc29)
          refine WC.sr ?_
          refine WL.r rfl rfl rfl (rd_bld [[.string (S [])], [.slice none 0 0], [.bool false]] rfl rfl (by simp only [bld, fldv, Nat.beq, Value.cells, cond_true, cond_false, List.nil_append, List.cons_append, List.append_nil]; rfl) (fun w => by kernel_rfl)) ?_
          refine WL.g0 rfl rfl (sta rfl rfl rfl .tc ?_ ?_ ?_) ?_
          · kernel_rfl
          · simp [Value.oneCell']
          · first | rfl | simp
          intro _
          refine WL.r rfl rfl rfl (rd_assign rfl rfl) ?_
          refine WL.nt ?_
          refine WC.ret ?_
          refine WX.then_ret ?_
          refine WX.block_ret ?_
          refine WX.then_ret ?_
          refine WX.then_ret ?_
          refine WX.block_ret ?_
          refine WX.then_ret ?_
          exact WX.retN rfl (.agg rfl .tc Try.underlying24 rfl (by kernel_rfl) (.tmp rfl .nil)) fun w' hS => zero_ret (by rw [compactD, if_neg (by simp [hc12]), if_neg (by omega), if_pos (any_of_get l k (by omega) (by omega))]) hS
        · (try simp only [decide_eq_true_eq, decide_eq_false_iff_not, Bool.not_eq_true', Bool.not_eq_false', Bool.not_not, Int.not_lt, Int.not_le] at hc29)
          refine WC.skip ?_
          refine WX.then_normal ?_
          refine WC.region ?_
          refine WL.r rfl rfl rfl (rd_move rfl rfl) ?_
          refine WL.r rfl rfl rfl (rd_move rfl rfl) ?_
          refine WL.r rfl rfl rfl (rd_slen rfl rfl Try.underlying9) ?_
          first
            | (refine WL.r rfl rfl rfl (rd_add64ln rfl rfl rfl ?_) ?_; (focus (first | assumption | omega | (simp <;> omega) | (simp; done))))
            | (refine WL.r rfl rfl rfl (rd_add64 rfl rfl rfl ?_) ?_; (focus (first | assumption | omega | (simp <;> omega) | (simp; done))))
          first
            | (refine WL.r rfl rfl rfl (rd_add64n rfl rfl rfl ?_) ?_; (focus (first | assumption | omega | (simp <;> omega) | (simp; done))))
            | (refine WL.r rfl rfl rfl (rd_add64 rfl rfl rfl ?_) ?_; (focus (first | assumption | omega | (simp <;> omega) | (simp; done))))
          refine WL.r rfl rfl rfl (rd_assign rfl rfl) ?_
          refine WL.set 6 rfl (v' := .int .i64 ((listJ (l.take (k + 1))).length : Int)) (congrArg (Value.int .i64) (by omega)) ?_
          refine WL.nil ?_
          refine WX.block_normal ?_
          refine WX.then_normal ?_
          refine WC.region ?_
          first
            | (refine WL.r rfl rfl rfl (rd_add64nl rfl rfl rfl ?_) ?_; (focus (first | assumption | omega | (simp <;> omega) | (simp; done))))
            | (refine WL.r rfl rfl rfl (rd_add64 rfl rfl rfl ?_) ?_; (focus (first | assumption | omega | (simp <;> omega) | (simp; done))))
          refine WL.r rfl rfl rfl (rd_move rfl rfl) ?_
          refine WL.nil ?_
          refine WX.loopP (k + 1) (by (try dsimp only); omega) (sub_cons rfl (sub_cons rfl (sub_cons rfl (sub_cons rfl (sub_cons rfl (sub_nil _)))))) (by refine (sub_cons ?_ (sub_cons ?_ (sub_nil _))) <;> (first | rfl | (simp only [List.length_append, List.length_cons, List.length_nil, Nat.zero_add]; rfl) | (dsimp only; first | rfl | (congr 2; omega) | (congr 3; omega)))) ?_ (by first | exact fun _ h => h | exact st_sub)
          (try dsimp only)
          exact ⟨by omega, all_take (by omega) hks (by omega)⟩
      · (try simp only [decide_eq_true_eq, decide_eq_false_iff_not, Bool.not_eq_true', Bool.not_eq_false', Bool.not_not, Int.not_lt, Int.not_le] at hc24)
        refine WC.exit ?_
        refine WX.then_exit ?_
        refine WX.then_exit ?_
        refine WX.block_exit ?_
        obtain rfl : k = l.length := by omega
        rw [List.take_of_length_le (Nat.le_refl _)] at hks ⊢
        have hany : l.any (fun s => decide (65536 < s.length)) = false := by rw [List.any_eq_false]; intro s hs; have := hks s hs; simp; omega
        refine WX.then_normal ?_
        refine WC.seq ?_
        refine WC.sr ?_
        refine WL.r rfl rfl rfl (rd_move rfl rfl) ?_
        refine WL.r rfl rfl rfl (rd_gtr rfl rfl rfl) ?_
        refine WL.nt ?_
        refine WC.cond rfl (fun hc38 => by exfalso; (try simp only [decide_eq_true_eq, decide_eq_false_iff_not, Bool.not_eq_true', Bool.not_eq_false', Bool.not_not, Int.not_lt, Int.not_le] at hc38); omega) (fun hc38 => ?_)
        (try simp only [decide_eq_true_eq, decide_eq_false_iff_not, Bool.not_eq_true', Bool.not_eq_false', Bool.not_not, Int.not_lt, Int.not_le] at hc38)
        refine WC.skip ?_
        refine WX.then_normal ?_
        refine WC.sr ?_
        refine WL.g rfl rfl rfl (og_alloc rfl (v := (.agg #[.pointer none, .slice none 0 0])) (cs := [.pointer none, .slice none 0 0]) (by kernel_rfl) rfl) ?_
        intro b9
        refine WL.nt ?_
        refine WC.seq ?_
        refine WC.sr ?_
        refine WL.r rfl rfl rfl (rd_move rfl rfl) ?_
        refine WL.r rfl rfl rfl (rd_len rfl rfl Try.underlying22) ?_
        refine WL.r rfl rfl rfl (rd_move rfl rfl) ?_
        refine WL.nt ?_
        refine WC.block ?_
        refine WC.loopO (σ := Nat × (Option Addr) × Gr) [(2, _), (4, _), (9, _), (40, _), (41, _)] (fun g => [(42, .int .i64 (g.1 : Int))]) (fun g => g.1 ≤ l.length ∧ BOk b9 g.2.1 g.2.2.ob (listJ (l.take g.1)) g.2.2.sp g.2.2.cap) (fun g => l.length - g.1) (fun g => BD b9 g.2.1 g.2.2.ob (listJ (l.take g.1)) g.2.2.sp g.2.2.cap [⟨some b4, [.string (S []), .slice none 0 0, .bool false], 24⟩, ⟨some b2, [.string (S d.safe), .slice a d.pend.length cap, .bool d.crash], 24⟩]) (fun g => [Fact.sl a (strs d.pend), Fact.sl b (strs l)]) (0, none, ⟨none, 0, []⟩) (sub_cons rfl (sub_cons rfl (sub_cons rfl (sub_cons rfl (sub_cons rfl (sub_nil _)))))) (sub_cons rfl (sub_nil _)) (by (try dsimp only); exact ⟨Nat.zero_le _, .inl rfl, rfl, .inl rfl⟩) (by exact fun w h => st_swap (h.nil _)) ?_
        rintro ⟨k, p, q⟩ hinv2; (try dsimp only at hinv2 ⊢)
        obtain ⟨hk, hB⟩ := hinv2
        refine WC.sr ?_
        refine WL.r rfl rfl rfl (rd_lss rfl rfl rfl) ?_
        refine WL.nt ?_
        refine WC.seq ?_
        refine WC.cond rfl (fun hc43 => ?_) (fun hc43 => ?_)
        · (try simp only [decide_eq_true_eq, decide_eq_false_iff_not, Bool.not_eq_true', Bool.not_eq_false', Bool.not_not, Int.not_lt, Int.not_le] at hc43)
          have hk0 := listJ_take l k (by omega)
          have hk1 := congrArg List.length hk0
          have hk3 := listJ_take_le l (k + 1)
          rw [List.length_append, List.length_append, four_len] at hk1
          have hfl := four_len (l.getD k default).length
          refine WC.skip ?_
          refine WX.then_normal ?_
          refine WC.seq ?_
          refine WC.block ?_
          refine WC.sr ?_
          first
            | (refine WL.r rfl rfl rfl (rd_ia rfl rfl rfl Try.underlying22 (by kernel_rfl : _ = some 1) ?_ (by (try simp only [Int.toNat_natCast, Nat.mul_one, Nat.zero_add, Nat.add_zero, Nat.zero_mul, Int.reduceToNat, Nat.reduceAdd, Nat.reduceMul, Nat.reduceSub, Nat.sub_zero]); rfl)) ?_; (focus (first | assumption | omega | (simp <;> omega) | (simp; done))))
            | (refine WL.r rfl rfl rfl (iaf rfl rfl rfl Try.underlying22 (by kernel_rfl : _ = some 1) ?_ ?_ (by (try simp only [Int.toNat_natCast, Nat.mul_one, Nat.zero_add, Nat.add_zero, Nat.zero_mul, Int.reduceToNat, Nat.reduceAdd, Nat.reduceMul, Nat.reduceSub, Nat.sub_zero]); rfl)) ?_; (focus (first | assumption | omega | (simp <;> omega) | (simp; done))); (focus (first | (rw [List.length_map]; omega) | (rw [flatMap_len _ _ _ (fun _ => rfl)]; omega) | (simp <;> omega))))
            | (refine WL.r rfl rfl rfl (iao rfl rfl rfl Try.underlying22 (by kernel_rfl : _ = some 1) ?_ ?_ (by (try simp only [Int.toNat_natCast, Nat.mul_one, Nat.zero_add, Nat.add_zero, Nat.zero_mul, Int.reduceToNat, Nat.reduceAdd, Nat.reduceMul, Nat.reduceSub, Nat.sub_zero]); rfl)) ?_; (focus (first | assumption | omega | (simp <;> omega) | (simp; done))); (focus (first | (simp <;> omega) | (rw [List.length_append, List.length_map]; omega))))
          first
            | (refine WL.r rfl rfl rfl (ld rfl rfl .tc Try.underlying9 rfl (by rfl)) ?_)
            | (refine WL.r rfl rfl rfl (ldm rfl rfl Try.underlying9 rfl ?_) ?_; (focus (first | assumption | omega | (simp <;> omega) | (simp; done))))
            | (refine WL.r rfl rfl rfl (ldom rfl rfl Try.underlying9 rfl ?_) ?_; (focus (first | assumption | omega | (simp <;> omega) | (simp; done))))
          refine WL.r rfl rfl rfl (rd_assign rfl rfl) ?_
          refine WL.nt ?_
          refine WC.sr ?_
          refine WL.r rfl rfl rfl (rd_move rfl rfl) ?_
          refine WL.r rfl rfl rfl (rd_slen rfl rfl Try.underlying9) ?_
          refine WL.g rfl rfl rfl (og_call rfl rfl (by kernel_rfl) (keep_val fun w hS => four_c (k := (l.getD k default).length) (by first | assumption | omega | (simp <;> omega) | (simp; done)))) ?_
          intro _
          refine WL.g rfl rfl rfl (og_call rfl rfl (by kernel_rfl) (fun w hS => wstr_c hS hB (by omega))) ?_
          rintro ⟨ob2, cap2, sp2⟩; refine WL.pu ?_; intro hB2; (try dsimp only at hB2 ⊢)
          refine WL.nt ?_
          refine WC.region ?_
          refine WL.r rfl rfl rfl (rd_move rfl rfl) ?_
          refine WL.g rfl rfl rfl (og_call rfl rfl (by kernel_rfl) (fun w hS => wstr_c hS hB2 (by rw [List.length_append]; omega))) ?_
          rintro ⟨ob3, cap3, sp3⟩; refine WL.pu ?_; intro hB3; (try dsimp only at hB3 ⊢); rw [List.append_assoc, ← hk0] at hB3 ⊢
          refine WL.nil ?_
          refine WX.block_normal ?_
          refine WX.then_normal ?_
          refine WC.region ?_
          first
            | (refine WL.r rfl rfl rfl (rd_add64nl rfl rfl rfl ?_) ?_; (focus (first | assumption | omega | (simp <;> omega) | (simp; done))))
            | (refine WL.r rfl rfl rfl (rd_add64 rfl rfl rfl ?_) ?_; (focus (first | assumption | omega | (simp <;> omega) | (simp; done))))
          refine WL.r rfl rfl rfl (rd_move rfl rfl) ?_
          refine WL.nil ?_
          refine WX.loopO ((k + 1, some ⟨b9, 0, none⟩, ⟨ob3, cap3, sp3⟩)) (by (try dsimp only); omega) (sub_cons rfl (sub_cons rfl (sub_cons rfl (sub_cons rfl (sub_cons rfl (sub_nil _)))))) (by refine (sub_cons ?_ (sub_nil _)) <;> (first | rfl | (simp only [List.length_append, List.length_cons, List.length_nil, Nat.zero_add]; rfl) | (dsimp only; first | rfl | (congr 2; omega) | (congr 3; omega)))) ?_ (by first | exact fun _ h => h | exact st_sub)
          (try dsimp only)
          exact ⟨by omega, hB3⟩
        · (try simp only [decide_eq_true_eq, decide_eq_false_iff_not, Bool.not_eq_true', Bool.not_eq_false', Bool.not_not, Int.not_lt, Int.not_le] at hc43)
          refine WC.exit ?_
          refine WX.then_exit ?_
          refine WX.then_exit ?_
          refine WX.block_exit ?_
          obtain rfl : k = l.length := by omega
          rw [List.take_of_length_le (Nat.le_refl _)] at hB ⊢
          have hr : compactD d l = (⟨d.safe, d.pend ++ [recJ 82 (listJ l)], false⟩, 0) := by rw [compactD, if_neg (by simp [hc12]), if_neg (by omega), if_neg (by simp [hany]), if_neg (by omega)]
          refine WX.then_normal ?_
          refine WC.seq ?_
          refine WC.free (K := [⟨some b4, [.string (S []), .slice none 0 0, .bool false], 24⟩, ⟨some b2, [.string (S d.safe), .slice a d.pend.length cap, .bool d.crash], 24⟩]) (fs0 := [Fact.sl a (strs d.pend), Fact.sl b (strs l)]) [1, 2, 0, 3] [4, 5] [0, 1, 1, 1, 2, 2] (by kernel_rfl) (by kernel_rfl) rfl ?_
          refine WJ.g rfl rfl rfl rfl rfl (fun ext => og_call rfl rfl (by kernel_rfl) (fun w hS => str_cJ hS hB (by omega))) ?_
          intro _ _
          refine WJ.gv rfl rfl rfl rfl rfl (fun ext => og_call rfl rfl (by kernel_rfl) (keep_val fun w hS => rec_c (k := 82) (c := listJ l) (by first | assumption | omega | (simp <;> omega) | (simp; done)))) ?_
          refine WJ.r rfl rfl rfl rfl rfl (lda rfl rfl .tc Try.underlying24 rfl ?_) ?_
          · kernel_rfl
          refine WJ.g rfl rfl rfl rfl rfl (fun ext => og_call rfl rfl (by kernel_rfl) (keep_o1J fun w hS => written_c (by first | exact hS.sl | exact hS.os | exact hS.oc | exact sl_takeM _ hS.sl | exact sl_dropM _ hS.sl | exact sl_cutM _ (by omega) hS.sl | exact sl_nil) (by first | assumption | omega | (simp <;> omega) | (simp; done)))) ?_
          intro g56 hg56; (try dsimp only at hg56 ⊢)
          refine WJ.nil ?_
          refine WL.g0 rfl rfl (sta rfl rfl rfl .tc ?_ ?_ ?_) ?_
          · kernel_rfl
          · simp [Value.oneCell']
          · first | rfl | simp
          intro _
          refine WL.r rfl rfl rfl (rd_assign rfl rfl) ?_
          refine WL.nt ?_
          refine WC.ret ?_
          exact WX.retN rfl (.agg rfl .tc Try.underlying24 rfl (by kernel_rfl) (.tmp rfl .nil)) fun w' hS => ⟨g56, by rw [hr]; simp [DE, Dk.v, tup], by rw [hr]; simpa using hg56, by rw [hr]; exact st_sub _ hS⟩
end Go.Proofs.Ytijamoagkmjcjaa
