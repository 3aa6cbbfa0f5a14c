/-
  The journal's scripts.
-/
import Derived.Test.YtijamoagkmjcjaaJouN
import Derived.Test.YtijamoagkmjcjaaApp
namespace Go.Proofs.Ytijamoagkmjcjaa
set_option linter.unusedSimpArgs false
set_option linter.unusedVariables false
set_option maxRecDepth 20000
set_option maxHeartbeats 600000
open Go.RowKit

/-- an operation of a script -/
structure OpR where
  kind : Int
  text : Bs
  texts : Sl Bs
instance : Inhabited OpR := ⟨⟨0, [], ⟨none, [], 0⟩⟩⟩
abbrev opC (o : OpR) : List Value := [.int .i64 o.kind, .string (S o.text), o.texts.val]
abbrev opF (o : OpR) : Fact := Fact.sl o.texts.a (strs o.texts.l)
def sumO (l : List OpR) : Nat := (l.map fun o => o.text.length + o.texts.l.length).sum
def scriptP (l : List OpR) : Prop := l.length ≤ 14 ∧ sumO l ≤ 400 ∧ ∀ o ∈ l, fewP o.texts.l
instance (l : List OpR) : Decidable (scriptP l) := inferInstanceAs (Decidable (_ ∧ _ ∧ _))
theorem sumO_take (l : List OpR) (k : Nat) (h : k < l.length) : sumO (l.take (k + 1)) = sumO (l.take k) + ((l.getD k default).text.length + (l.getD k default).texts.l.length) := by
  rw [List.take_add_one, List.getElem?_eq_getElem h, List.getD_eq_getElem?_getD, List.getElem?_eq_getElem h, sumO, List.map_append, List.sum_append]; simp [sumO]
theorem getD_mem {α : Type} [Inhabited α] (l : List α) (k : Nat) (h : k < l.length) : l.getD k default ∈ l := by
  rw [List.getD_eq_getElem?_getD, List.getElem?_eq_getElem h]; exact List.getElem_mem h
theorem sumO_le (l : List OpR) (hb : ∀ o ∈ l, o.text.length ≤ 140737488351232 ∧ o.texts.l.length ≤ 140737488351232) : ∀ k, sumO (l.take k) ≤ k * 281474976702464
  | 0 => by simp [sumO]
  | k + 1 => by
    have ih := sumO_le l hb k
    by_cases h : k < l.length
    · have := hb _ (getD_mem l k h)
      rw [sumO_take l k h]; omega
    · rw [List.take_of_length_le (by omega)] at ih ⊢; exact Nat.le_trans ih (Nat.mul_le_mul_right _ (Nat.le_succ k))
theorem take_all {α : Type} [Inhabited α] {l : List α} {k : Nat} {p : α → Prop} (h : k < l.length) (h1 : ∀ s ∈ l.take k, p s) (h2 : p (l.getD k default)) : ∀ s ∈ l.take (k + 1), p s := by
  intro s hs
  rw [List.take_add_one, List.getElem?_eq_getElem h] at hs
  rw [List.getD_eq_getElem?_getD, List.getElem?_eq_getElem h] at h2
  rcases List.mem_append.1 hs with hs | hs
  · exact h1 s hs
  · simp at hs; subst hs; exact h2
theorem script_end {l : List OpR} {k : Nat} (h1 : k ≤ l.length) (h3 : l.length ≤ k ∨ 20 ≤ k) (hf : ∀ o ∈ l.take k, fewP o.texts.l) : (decide (l.length ≤ 14) && decide (sumO (l.take k) ≤ 400)) = decide (scriptP l) := by
  rw [← Bool.decide_and, decide_eq_decide]
  unfold scriptP
  by_cases h : l.length ≤ 14
  · rw [List.take_of_length_le (by omega)] at hf ⊢
    exact ⟨fun q => ⟨q.1, q.2, hf⟩, fun q => ⟨q.1, q.2.1⟩⟩
  · simp [h]
structure OpB (o : OpR) : Prop where
  t : o.text.length ≤ 140737488351232
  c : o.texts.l.length ≤ o.texts.cap
  b : o.texts.cap * 16 ≤ 140737488351232
  s : ∀ s ∈ o.texts.l, s.length ≤ 140737488351232
theorem OpB.l {o : OpR} (h : OpB o) : o.texts.l.length ≤ 8796093021952 := by have := h.c; have := h.b; omega
theorem script_c {l : List OpR} {a : Option Addr} {cap : Nat} {w : World} {ok : Nat → Prop} (hF1 : (Fact.sl a (l.flatMap opC)).holds ok w) (hM : ∀ f ∈ (l.map opF), f.holds ok w) (hl : l.length ≤ 1000000000000000) (hb : ∀ o ∈ l, OpB o) :
    Calls Try.prog 24 #[.slice a l.length cap] w fun e w' => e = .returned (.bool (decide (scriptP l))) ∧ Below w.heap.size w w' := by
  refine enter (S := St (fun _ => True) w [] (Fact.sl a (l.flatMap opC) :: (l.map opF))) (L := [(0, .slice a l.length cap)]) Try.func24 rfl Try.ntmps24 rfl (args_cons rfl (args_nil _)) (St.start (fun _ _ => trivial) (facts_cons (fact_any hF1) (facts_more hM))) ?_
  refine WC.sr ?_
  refine WL.r rfl rfl rfl (rd_assign rfl rfl) ?_
  refine WL.nt ?_
  refine WC.sr ?_
  refine WL.r rfl rfl rfl (rd_assign rfl rfl) ?_
  refine WL.nt ?_
  refine WC.seq ?_
  refine WC.sr ?_
  refine WL.r rfl rfl rfl (rd_assign rfl rfl) ?_
  refine WL.nt ?_
  refine WC.block ?_
  refine WC.loopP (σ := Nat) [(0, _)] (fun g => [(3, .int .i64 (sumO (l.take g) : Int)), (4, .int .i64 (g : Int))]) (fun g => g ≤ l.length ∧ g ≤ 20 ∧ ∀ o ∈ l.take g, fewP o.texts.l) (fun g => l.length - g) (0) (sub_cons rfl (sub_nil _)) (sub_cons rfl (sub_cons rfl (sub_nil _))) (by (try dsimp only); exact ⟨Nat.zero_le _, by omega, fun o h => by simp at h⟩) ?_
  rintro k hinv1; (try dsimp only at hinv1 ⊢)
  obtain ⟨hk, hk4, hkf⟩ := hinv1
  refine WC.seq ?_
  refine WC.sr ?_
  refine WL.r rfl rfl rfl (rd_move rfl rfl) ?_
  refine WL.r rfl rfl rfl (rd_move rfl rfl) ?_
  refine WL.r rfl rfl rfl (rd_len rfl rfl Try.underlying48) ?_
  refine WL.r rfl rfl rfl (rd_lss rfl rfl rfl) ?_
  refine WL.r rfl rfl rfl (rd_move rfl rfl) ?_
  refine WL.bool 9 rfl (fun hg9 => ?_) (fun hg9 => ?_)
  · (try simp only [decide_eq_true_eq, decide_eq_false_iff_not, Bool.not_eq_true', Bool.not_eq_false', Bool.not_not, Int.not_lt, Int.not_le] at hg9)
    refine WL.r rfl rfl rfl (rd_move rfl rfl) ?_
    refine WL.r rfl rfl rfl (rd_lss rfl rfl rfl) ?_
    refine WL.r rfl rfl rfl (rd_pickt rfl rfl rfl) ?_
    refine WL.nt ?_
    refine WC.cond rfl (fun hc12 => ?_) (fun hc12 => ?_)
    · (try simp only [decide_eq_true_eq, decide_eq_false_iff_not, Bool.not_eq_true', Bool.not_eq_false', Bool.not_not, Int.not_lt, Int.not_le] at hc12)
      have hk0 := sumO_take l k (by omega)
      have hk1 : sumO (l.take (k + 1)) ≤ 6000000000000000 := by have := sumO_le l (fun o ho => ⟨(hb o ho).t, by have := (hb o ho).l; omega⟩) (k + 1); omega
      have hkm := getD_mem l k (by omega)
      have hkb := hb _ hkm
      have hkl := hkb.l
      refine WC.skip ?_
      refine WX.then_normal ?_
      refine WC.seq ?_
      refine WC.block ?_
      refine WC.seq ?_
      refine WC.sr ?_
      refine WL.r rfl rfl rfl (rd_move rfl rfl) ?_
      refine WL.r rfl rfl rfl (rd_move rfl rfl) ?_
      refine WL.r rfl rfl rfl (iaf rfl rfl rfl Try.underlying48 (by kernel_rfl : _ = some 3) ?_ ?_ (by (try simp only [Int.toNat_natCast, Nat.mul_one, Nat.zero_add, Nat.add_zero, Nat.zero_mul, Int.reduceToNat, Nat.reduceAdd, Nat.reduceMul, Nat.reduceSub, Nat.sub_zero]); rfl)) ?_
      · first | assumption | omega | (dsimp only; first | assumption | omega) | (simp <;> omega) | (simp; done)
      · first | (rw [List.length_map]; omega) | (rw [flatMap_len _ _ 3 (fun _ => rfl)]; omega) | (simp <;> omega)
      first
        | (refine WL.r rfl rfl rfl (rd_fa rfl rfl Try.underlying52 rfl (by kernel_rfl) (by (try simp only [Int.toNat_natCast, Nat.mul_one, Nat.zero_add, Nat.add_zero, Nat.zero_mul, Int.reduceToNat, Nat.reduceAdd, Nat.reduceMul, Nat.reduceSub, Nat.sub_zero]); rfl)) ?_)
        | (refine WL.r rfl rfl rfl (faf rfl rfl Try.underlying52 rfl (by kernel_rfl) (by (try simp only [Int.toNat_natCast, Nat.mul_one, Nat.zero_add, Nat.add_zero, Nat.zero_mul, Int.reduceToNat, Nat.reduceAdd, Nat.reduceMul, Nat.reduceSub, Nat.sub_zero]); rfl)) ?_)
      first
        | (refine WL.r rfl rfl rfl (ld rfl rfl .tc Try.underlying22 rfl (by rfl)) ?_)
        | (refine WL.r rfl rfl rfl (ldm rfl rfl Try.underlying22 rfl ?_) ?_; (focus (first | assumption | omega | (dsimp only; first | assumption | omega) | (simp <;> omega) | (simp; done))))
        | (refine WL.r rfl rfl rfl (ldom rfl rfl Try.underlying22 rfl ?_) ?_; (focus (first | assumption | omega | (dsimp only; first | assumption | omega) | (simp <;> omega) | (simp; done))))
        | (refine WL.r rfl rfl rfl (ldmf (sz := 3) _ 2 rfl rfl Try.underlying22 rfl (fun _ => rfl) rfl ?_ (by decide) rfl) ?_; (focus (first | assumption | omega | (dsimp only; first | assumption | omega) | (simp <;> omega) | (simp; done))))
      refine WL.g rfl rfl rfl (og_call rfl rfl (by kernel_rfl) (keep_val fun w hS => few_c (l := (l.getD k default).texts.l) (hS.more (more := l.map opF) (opF (l.getD k default)) (List.mem_map_of_mem hkm)) (by omega) (by exact hkb.s))) ?_
      intro _
      refine WL.r rfl rfl rfl (rd_not rfl rfl) ?_
      refine WL.nt ?_
      refine WC.cond rfl (fun hc21 => ?_) (fun hc21 => ?_)
      · (try simp only [decide_eq_true_eq, decide_eq_false_iff_not, Bool.not_eq_true', Bool.not_eq_false', Bool.not_not, Int.not_lt, Int.not_le] at hc21)
        refine WC.sr ?_
        refine WL.r rfl rfl rfl (rd_assign rfl rfl) ?_
        refine WL.nt ?_
        refine WC.ret ?_
        refine WX.then_ret ?_
        refine WX.block_ret ?_
        refine WX.then_ret ?_
        refine WX.then_ret ?_
        refine WX.block_ret ?_
        refine WX.then_ret ?_
        exact WX.retN rfl (.tmp rfl .nil) fun w' hS => ⟨congrArg (fun b => Ending.returned (.bool b)) (by symm; rw [decide_eq_false_iff_not]; intro h; have := h.2.2 _ hkm; simp_all), hS.below⟩
      · (try simp only [decide_eq_true_eq, decide_eq_false_iff_not, Bool.not_eq_true', Bool.not_eq_false', Bool.not_not, Int.not_lt, Int.not_le] at hc21)
        refine WC.skip ?_
        refine WX.then_normal ?_
        refine WC.free0 [0, 1, 2, 3, 4, 5, 6, 7, 8, 9, 10, 11, 12, 13, 14, 15] [] [0, 0, 0, 0, 0, 0, 0, 0, 0, 0, 0, 0, 0, 0, 0, 0] (by kernel_rfl) (by kernel_rfl) rfl ?_
        refine WJ.r rfl rfl rfl rfl rfl (rd_move rfl rfl) ?_
        refine WJ.r rfl rfl rfl rfl rfl (rd_move rfl rfl) ?_
        refine WJ.r rfl rfl rfl rfl rfl (rd_move rfl rfl) ?_
        refine WJ.r rfl rfl rfl rfl rfl (iaf rfl rfl rfl Try.underlying48 (by kernel_rfl : _ = some 3) ?_ ?_ (by (try simp only [Int.toNat_natCast, Nat.mul_one, Nat.zero_add, Nat.add_zero, Nat.zero_mul, Int.reduceToNat, Nat.reduceAdd, Nat.reduceMul, Nat.reduceSub, Nat.sub_zero]); rfl)) ?_
        · first | assumption | omega | (dsimp only; first | assumption | omega) | (simp <;> omega) | (simp; done)
        · first | (rw [List.length_map]; omega) | (rw [flatMap_len _ _ 3 (fun _ => rfl)]; omega) | (simp <;> omega)
        first
          | (refine WJ.r rfl rfl rfl rfl rfl (rd_fa rfl rfl Try.underlying52 rfl (by kernel_rfl) (by (try simp only [Int.toNat_natCast, Nat.mul_one, Nat.zero_add, Nat.add_zero, Nat.zero_mul, Int.reduceToNat, Nat.reduceAdd, Nat.reduceMul, Nat.reduceSub, Nat.sub_zero]); rfl)) ?_)
          | (refine WJ.r rfl rfl rfl rfl rfl (faf rfl rfl Try.underlying52 rfl (by kernel_rfl) (by (try simp only [Int.toNat_natCast, Nat.mul_one, Nat.zero_add, Nat.add_zero, Nat.zero_mul, Int.reduceToNat, Nat.reduceAdd, Nat.reduceMul, Nat.reduceSub, Nat.sub_zero]); rfl)) ?_)
        first
          | (refine WJ.r rfl rfl rfl rfl rfl (ld rfl rfl .tc Try.underlying9 rfl (by rfl)) ?_)
          | (refine WJ.r rfl rfl rfl rfl rfl (ldm rfl rfl Try.underlying9 rfl ?_) ?_; (focus (first | assumption | omega | (dsimp only; first | assumption | omega) | (simp <;> omega) | (simp; done))))
          | (refine WJ.r rfl rfl rfl rfl rfl (ldom rfl rfl Try.underlying9 rfl ?_) ?_; (focus (first | assumption | omega | (dsimp only; first | assumption | omega) | (simp <;> omega) | (simp; done))))
          | (refine WJ.r rfl rfl rfl rfl rfl (ldmf (sz := 3) _ 1 rfl rfl Try.underlying9 rfl (fun _ => rfl) rfl ?_ (by decide) rfl) ?_; (focus (first | assumption | omega | (dsimp only; first | assumption | omega) | (simp <;> omega) | (simp; done))))
        refine WJ.r rfl rfl rfl rfl rfl (rd_slen rfl rfl Try.underlying9) ?_
        first
          | (refine WJ.r rfl rfl rfl rfl rfl (rd_add64n rfl rfl rfl ?_) ?_; (focus (first | assumption | omega | (dsimp only; first | assumption | omega) | (simp <;> omega) | (simp; done))))
          | (refine WJ.r rfl rfl rfl rfl rfl (rd_add64 rfl rfl rfl ?_) ?_; (focus (first | assumption | omega | (dsimp only; first | assumption | omega) | (simp <;> omega) | (simp; done))))
        refine WJ.r rfl rfl rfl rfl rfl (rd_move rfl rfl) ?_
        refine WJ.r rfl rfl rfl rfl rfl (rd_move rfl rfl) ?_
        refine WJ.r rfl rfl rfl rfl rfl (iaf rfl rfl rfl Try.underlying48 (by kernel_rfl : _ = some 3) ?_ ?_ (by (try simp only [Int.toNat_natCast, Nat.mul_one, Nat.zero_add, Nat.add_zero, Nat.zero_mul, Int.reduceToNat, Nat.reduceAdd, Nat.reduceMul, Nat.reduceSub, Nat.sub_zero]); rfl)) ?_
        · first | assumption | omega | (dsimp only; first | assumption | omega) | (simp <;> omega) | (simp; done)
        · first | (rw [List.length_map]; omega) | (rw [flatMap_len _ _ 3 (fun _ => rfl)]; omega) | (simp <;> omega)
        first
          | (refine WJ.r rfl rfl rfl rfl rfl (rd_fa rfl rfl Try.underlying52 rfl (by kernel_rfl) (by (try simp only [Int.toNat_natCast, Nat.mul_one, Nat.zero_add, Nat.add_zero, Nat.zero_mul, Int.reduceToNat, Nat.reduceAdd, Nat.reduceMul, Nat.reduceSub, Nat.sub_zero]); rfl)) ?_)
          | (refine WJ.r rfl rfl rfl rfl rfl (faf rfl rfl Try.underlying52 rfl (by kernel_rfl) (by (try simp only [Int.toNat_natCast, Nat.mul_one, Nat.zero_add, Nat.add_zero, Nat.zero_mul, Int.reduceToNat, Nat.reduceAdd, Nat.reduceMul, Nat.reduceSub, Nat.sub_zero]); rfl)) ?_)
        first
          | (refine WJ.r rfl rfl rfl rfl rfl (ld rfl rfl .tc Try.underlying22 rfl (by rfl)) ?_)
          | (refine WJ.r rfl rfl rfl rfl rfl (ldm rfl rfl Try.underlying22 rfl ?_) ?_; (focus (first | assumption | omega | (dsimp only; first | assumption | omega) | (simp <;> omega) | (simp; done))))
          | (refine WJ.r rfl rfl rfl rfl rfl (ldom rfl rfl Try.underlying22 rfl ?_) ?_; (focus (first | assumption | omega | (dsimp only; first | assumption | omega) | (simp <;> omega) | (simp; done))))
          | (refine WJ.r rfl rfl rfl rfl rfl (ldmf (sz := 3) _ 2 rfl rfl Try.underlying22 rfl (fun _ => rfl) rfl ?_ (by decide) rfl) ?_; (focus (first | assumption | omega | (dsimp only; first | assumption | omega) | (simp <;> omega) | (simp; done))))
        refine WJ.r rfl rfl rfl rfl rfl (rd_len rfl rfl Try.underlying22) ?_
        first
          | (refine WJ.r rfl rfl rfl rfl rfl (rd_add64n rfl rfl rfl ?_) ?_; (focus (first | assumption | omega | (dsimp only; first | assumption | omega) | (simp <;> omega) | (simp; done))))
          | (refine WJ.r rfl rfl rfl rfl rfl (rd_add64 rfl rfl rfl ?_) ?_; (focus (first | assumption | omega | (dsimp only; first | assumption | omega) | (simp <;> omega) | (simp; done))))
        refine WJ.set 36 rfl (v' := .int .i64 ((sumO (l.take (k + 1)) : Nat) : Int)) (congrArg (Value.int .i64) (by first | omega | rfl | simp)) ?_
        refine WJ.r rfl rfl rfl rfl rfl (rd_assign rfl rfl) ?_
        refine WJ.nil ?_
        refine WL.nil ?_
        refine WX.block_normal ?_
        refine WX.then_normal ?_
        refine WC.region ?_
        refine WL.r rfl rfl rfl (rd_move rfl rfl) ?_
        first
          | (refine WL.r rfl rfl rfl (rd_add64nl rfl rfl rfl ?_) ?_; (focus (first | assumption | omega | (dsimp only; first | assumption | omega) | (simp <;> omega) | (simp; done))))
          | (refine WL.r rfl rfl rfl (rd_add64 rfl rfl rfl ?_) ?_; (focus (first | assumption | omega | (dsimp only; first | assumption | omega) | (simp <;> omega) | (simp; done))))
        refine WL.r rfl rfl rfl (rd_assign rfl rfl) ?_
        refine WL.nil ?_
        refine WX.loopP (k + 1) (by (try dsimp only); omega) (sub_cons rfl (sub_nil _)) (by refine (sub_cons ?_ (sub_cons ?_ (sub_nil _))) <;> (first | rfl | (simp only [List.length_append, List.length_cons, List.length_nil, Nat.zero_add]; rfl) | (dsimp only; first | rfl | (congr 2; omega) | (congr 3; omega)))) ?_ (by first | exact fun _ h => h | exact st_sub)
        (try dsimp only)
        exact ⟨by omega, by omega, take_all (by omega) hkf (by simpa using hc21)⟩
    · (try simp only [decide_eq_true_eq, decide_eq_false_iff_not, Bool.not_eq_true', Bool.not_eq_false', Bool.not_not, Int.not_lt, Int.not_le] at hc12)
      refine WC.exit ?_
      refine WX.then_exit ?_
      refine WX.then_exit ?_
      refine WX.block_exit ?_
      refine WX.then_normal ?_
      refine WC.sr ?_
      refine WL.r rfl rfl rfl (rd_move rfl rfl) ?_
      refine WL.r rfl rfl rfl (rd_len rfl rfl Try.underlying48) ?_
      refine WL.r rfl rfl rfl (rd_leq rfl rfl rfl) ?_
      refine WL.r rfl rfl rfl (rd_move rfl rfl) ?_
      refine WL.bool 40 rfl (fun hg40 => ?_) (fun hg40 => ?_)
      · (try simp only [decide_eq_true_eq, decide_eq_false_iff_not, Bool.not_eq_true', Bool.not_eq_false', Bool.not_not, Int.not_lt, Int.not_le] at hg40)
        refine WL.r rfl rfl rfl (rd_move rfl rfl) ?_
        refine WL.r rfl rfl rfl (rd_leq rfl rfl rfl) ?_
        refine WL.r rfl rfl rfl (rd_pickt rfl rfl rfl) ?_
        refine WL.r rfl rfl rfl (rd_assign rfl rfl) ?_
        refine WL.nt ?_
        refine WC.ret ?_
        exact WX.retN rfl (.tmp rfl .nil) fun w' hS => ⟨congrArg (fun b => Ending.returned (.bool b)) (by rw [← script_end hk (by omega) hkf, Bool.eq_iff_iff]; simp only [Bool.and_eq_true, decide_eq_true_eq, Bool.false_eq_true]; first | omega | exact ⟨fun h => h.elim, fun h => by omega⟩), hS.below⟩
      · (try simp only [decide_eq_true_eq, decide_eq_false_iff_not, Bool.not_eq_true', Bool.not_eq_false', Bool.not_not, Int.not_lt, Int.not_le] at hg40)
        refine WL.s rfl rfl rfl ?_
        refine WL.s rfl rfl rfl ?_
        refine WL.r rfl rfl rfl (rd_pickf rfl rfl rfl) ?_
        refine WL.r rfl rfl rfl (rd_assign rfl rfl) ?_
        refine WL.nt ?_
        refine WC.ret ?_
        exact WX.retN rfl (.tmp rfl .nil) fun w' hS => ⟨congrArg (fun b => Ending.returned (.bool b)) (by rw [← script_end hk (by omega) hkf, Bool.eq_iff_iff]; simp only [Bool.and_eq_true, decide_eq_true_eq, Bool.false_eq_true]; first | omega | exact ⟨fun h => h.elim, fun h => by omega⟩), hS.below⟩
  · (try simp only [decide_eq_true_eq, decide_eq_false_iff_not, Bool.not_eq_true', Bool.not_eq_false', Bool.not_not, Int.not_lt, Int.not_le] at hg9)
    refine WL.s rfl rfl rfl ?_
    refine WL.s rfl rfl rfl ?_
    refine WL.r rfl rfl rfl (rd_pickf rfl rfl rfl) ?_
    refine WL.nt ?_
    refine WC.cond rfl (fun h => by cases h) (fun _ => ?_)
    refine WC.exit ?_
    refine WX.then_exit ?_
    refine WX.then_exit ?_
    refine WX.block_exit ?_
    refine WX.then_normal ?_
    refine WC.sr ?_
    refine WL.r rfl rfl rfl (rd_move rfl rfl) ?_
    refine WL.r rfl rfl rfl (rd_len rfl rfl Try.underlying48) ?_
    refine WL.r rfl rfl rfl (rd_leq rfl rfl rfl) ?_
    refine WL.r rfl rfl rfl (rd_move rfl rfl) ?_
    refine WL.bool 40 rfl (fun hg40 => ?_) (fun hg40 => ?_)
    · (try simp only [decide_eq_true_eq, decide_eq_false_iff_not, Bool.not_eq_true', Bool.not_eq_false', Bool.not_not, Int.not_lt, Int.not_le] at hg40)
      refine WL.r rfl rfl rfl (rd_move rfl rfl) ?_
      refine WL.r rfl rfl rfl (rd_leq rfl rfl rfl) ?_
      refine WL.r rfl rfl rfl (rd_pickt rfl rfl rfl) ?_
      refine WL.r rfl rfl rfl (rd_assign rfl rfl) ?_
      refine WL.nt ?_
      refine WC.ret ?_
      exact WX.retN rfl (.tmp rfl .nil) fun w' hS => ⟨congrArg (fun b => Ending.returned (.bool b)) (by rw [← script_end hk (by omega) hkf, Bool.eq_iff_iff]; simp only [Bool.and_eq_true, decide_eq_true_eq, Bool.false_eq_true]; first | omega | exact ⟨fun h => h.elim, fun h => by omega⟩), hS.below⟩
    · (try simp only [decide_eq_true_eq, decide_eq_false_iff_not, Bool.not_eq_true', Bool.not_eq_false', Bool.not_not, Int.not_lt, Int.not_le] at hg40)
      refine WL.s rfl rfl rfl ?_
      refine WL.s rfl rfl rfl ?_
      refine WL.r rfl rfl rfl (rd_pickf rfl rfl rfl) ?_
      refine WL.r rfl rfl rfl (rd_assign rfl rfl) ?_
      refine WL.nt ?_
      refine WC.ret ?_
      exact WX.retN rfl (.tmp rfl .nil) fun w' hS => ⟨congrArg (fun b => Ending.returned (.bool b)) (by rw [← script_end hk (by omega) hkf, Bool.eq_iff_iff]; simp only [Bool.and_eq_true, decide_eq_true_eq, Bool.false_eq_true]; first | omega | exact ⟨fun h => h.elim, fun h => by omega⟩), hS.below⟩
def afterE (l : List Bs) (o : OpR) : List Bs := if o.kind.tmod 3 = 1 then o.texts.l else l ++ [o.text]
theorem after_c {l : List Bs} {o : OpR} {a : Option Addr} {cap : Nat} {w : World} {ok : Nat → Prop} (hF1 : (Fact.sl a (strs l)).holds ok w) (hF2 : (opF o).holds ok w) (hl : l.length ≤ 1000000) (ho : o.texts.l.length ≤ 1000000) :
    Calls Try.prog 25 #[.slice a l.length cap, .agg (opC o).toArray] w fun e w' => ∃ g : Rs, e = .returned (g.val (afterE l o).length) ∧ g.cap = (afterE l o).length + g.sp.length ∧ St (fun _ => True) w [g.ent (strs (afterE l o)) 9] [] w' := by
  refine enter (S := St (fun _ => True) w [] ([Fact.sl a (strs l), opF o])) (L := [(0, .slice a l.length cap), (1, .agg (opC o).toArray)]) Try.func25 rfl Try.ntmps25 rfl (args_cons rfl (args_cons rfl (args_nil _))) (St.start (fun _ _ => trivial) (facts_cons (fact_any hF1) (facts_cons (fact_any hF2) facts_nil))) ?_
  refine WC.sr ?_
  refine WL.g rfl rfl rfl (og_box rfl rfl (by first | exact cells_agg _ | rfl)) ?_
  intro b3
  refine WL.r rfl rfl rfl (rd_assign rfl rfl) ?_
  refine WL.nt ?_
  refine WC.seq ?_
  refine WC.sr ?_
  first
    | (refine WL.r rfl rfl rfl (rd_fa (q := 0) rfl rfl Try.underlying52 rfl (by kernel_rfl) rfl) ?_)
    | (refine WL.r rfl rfl rfl (faf (q' := 0) rfl rfl Try.underlying52 rfl (by kernel_rfl) rfl) ?_)
  first
    | (refine WL.r rfl rfl rfl (ld rfl rfl .tc Try.underlying3 rfl (by rfl)) ?_)
    | (refine WL.r rfl rfl rfl (ldm rfl rfl Try.underlying3 rfl ?_) ?_; (focus (first | assumption | omega | (dsimp only; first | assumption | omega) | (simp <;> omega) | (simp; done))))
    | (refine WL.r rfl rfl rfl (ldom rfl rfl Try.underlying3 rfl ?_) ?_; (focus (first | assumption | omega | (dsimp only; first | assumption | omega) | (simp <;> omega) | (simp; done))))
  refine WL.r rfl rfl rfl (rd_rem rfl rfl rfl ?_) ?_
  · decide
  refine WL.r rfl rfl rfl (rd_eql rfl rfl rfl) ?_
  refine WL.nt ?_
  refine WC.cond rfl (fun hc8 => ?_) (fun hc8 => ?_)
  · (try simp only [decide_eq_true_eq, decide_eq_false_iff_not, Bool.not_eq_true', Bool.not_eq_false', Bool.not_not, Int.not_lt, Int.not_le] at hc8)
    have hr : afterE l o = o.texts.l := by rw [afterE, if_pos hc8]
    refine WC.sr ?_
    refine WL.g rfl rfl rfl (og_bs1 rfl rfl Try.underlying22 (by kernel_rfl : _ = some (some (.string (S [])), 1, 16)) rfl (by simp only [List.map]; rfl) rfl rfl ?_ (by decide)) ?_
    · simp [Value.cells]
    intro b9
    first
      | (refine WL.r rfl rfl rfl (rd_fa (q := 2) rfl rfl Try.underlying52 rfl (by kernel_rfl) rfl) ?_)
      | (refine WL.r rfl rfl rfl (faf (q' := 2) rfl rfl Try.underlying52 rfl (by kernel_rfl) rfl) ?_)
    first
      | (refine WL.r rfl rfl rfl (ld rfl rfl .tc Try.underlying22 rfl (by rfl)) ?_)
      | (refine WL.r rfl rfl rfl (ldm rfl rfl Try.underlying22 rfl ?_) ?_; (focus (first | assumption | omega | (dsimp only; first | assumption | omega) | (simp <;> omega) | (simp; done))))
      | (refine WL.r rfl rfl rfl (ldom rfl rfl Try.underlying22 rfl ?_) ?_; (focus (first | assumption | omega | (dsimp only; first | assumption | omega) | (simp <;> omega) | (simp; done))))
    first
      | (refine WL.g rfl rfl rfl (appg rfl Try.underlying22 (by kernel_rfl : _ = some (some (.string (S [])), 1, 16)) rfl .tc rfl rfl (fun w hS => by first | exact hS.os | exact hS.sl | exact hS.oc) (by first | rfl | simp) ?_ ?_) ?_; (focus ((refine ⟨?_, ?_, ?_, ?_⟩ <;> (try simp) <;> omega))); (focus (first | (simp [Value.oneCell']; done) | (intro u hu; obtain ⟨_, _, rfl⟩ := List.mem_map.1 hu; rfl))))
      | (refine WL.g rfl rfl rfl (appf rfl Try.underlying22 (by kernel_rfl : _ = some (some (.string (S [])), 1, 16)) rfl .tc rfl rfl (fun w hS => by first | exact hS.os | exact hS.sl | exact hS.oc) (by first | rfl | simp) ?_ ?_) ?_; (focus ((refine ⟨?_, ?_, ?_, ?_⟩ <;> (try simp) <;> omega))); (focus (first | (simp [Value.oneCell']; done) | (intro u hu; obtain ⟨_, _, rfl⟩ := List.mem_map.1 hu; rfl))))
      | (refine WL.st (fun w h => h.nil 9) ?_; refine WL.g rfl rfl rfl (appg (ob := none) (xs := []) (sp := []) rfl Try.underlying22 (by kernel_rfl : _ = some (some (.string (S [])), 1, 16)) rfl .tc rfl rfl (fun w hS => by first | exact hS.os | exact hS.sl | exact hS.oc) (by first | rfl | simp) ?_ ?_) ?_; (focus ((refine ⟨?_, ?_, ?_, ?_⟩ <;> (try simp) <;> omega))); (focus (first | (simp [Value.oneCell']; done) | (intro u hu; obtain ⟨_, _, rfl⟩ := List.mem_map.1 hu; rfl))))
    rintro ⟨o12, c12, s12⟩
    refine WL.pu ?_
    intro hg12; (try dsimp only at hg12 ⊢)
    refine WL.r rfl rfl rfl (rd_assign rfl rfl) ?_
    refine WL.nt ?_
    refine WC.ret ?_
    refine WX.then_ret ?_
    exact WX.retN rfl (.tmp rfl .nil) fun w' hS => ⟨⟨o12, c12, s12⟩, by rw [hr]; simp [Rs.val, tup], by rw [hr]; simpa using hg12, by rw [hr]; rw [List.nil_append] at hS; show St _ _ [⟨o12, strs o.texts.l ++ s12, _⟩] _ _; exact st_sub _ hS⟩
  · (try simp only [decide_eq_true_eq, decide_eq_false_iff_not, Bool.not_eq_true', Bool.not_eq_false', Bool.not_not, Int.not_lt, Int.not_le] at hc8)
    have hr : afterE l o = l ++ [o.text] := by rw [afterE, if_neg hc8]
    refine WC.skip ?_
    refine WX.then_normal ?_
    refine WC.seq ?_
    refine WC.free0 [0, 1, 2, 3, 4, 5, 6, 7] [] [3, 0, 1, 0, 0, 3, 1, 0] (by kernel_rfl) (by kernel_rfl) rfl ?_
    refine WJ.f rfl rfl rfl rfl rfl (fr_bs1 rfl rfl Try.underlying22 (by kernel_rfl : _ = some (some (.string (S [])), 1, 16)) rfl (by simp only [List.map]; rfl) rfl rfl ?_ (by decide)) ?_
    · simp [Value.cells]
    intro b13
    refine WJ.r rfl rfl rfl rfl rfl (rd_move rfl rfl) ?_
    first
      | (refine WJ.g rfl rfl rfl rfl rfl (appgJ rfl Try.underlying22 (by kernel_rfl : _ = some (some (.string (S [])), 1, 16)) rfl .tc rfl rfl (fun ext w hS => by first | exact hS.os | exact hS.sl | exact hS.oc) (by first | rfl | simp) ?_ ?_) ?_; (focus ((refine ⟨?_, ?_, ?_, ?_⟩ <;> (try simp) <;> omega))); (focus (first | (simp [Value.oneCell']; done) | (intro u hu; obtain ⟨_, _, rfl⟩ := List.mem_map.1 hu; rfl))))
      | (refine WJ.g rfl rfl rfl rfl rfl (appfJ rfl Try.underlying22 (by kernel_rfl : _ = some (some (.string (S [])), 1, 16)) rfl .tc rfl rfl (fun ext w hS => by first | exact hS.os | exact hS.sl | exact hS.oc) (by first | rfl | simp) ?_ ?_) ?_; (focus ((refine ⟨?_, ?_, ?_, ?_⟩ <;> (try simp) <;> omega))); (focus (first | (simp [Value.oneCell']; done) | (intro u hu; obtain ⟨_, _, rfl⟩ := List.mem_map.1 hu; rfl))))
    rintro ⟨o15, c15, s15⟩ hg15; (try dsimp only at hg15 ⊢)
    first
      | (refine WJ.r rfl rfl rfl rfl rfl (rd_fa (q := 1) rfl rfl Try.underlying52 rfl (by kernel_rfl) rfl) ?_)
      | (refine WJ.r rfl rfl rfl rfl rfl (faf (q' := 1) rfl rfl Try.underlying52 rfl (by kernel_rfl) rfl) ?_)
    first
      | (refine WJ.r rfl rfl rfl rfl rfl (ld rfl rfl .tc Try.underlying9 rfl (by rfl)) ?_)
      | (refine WJ.r rfl rfl rfl rfl rfl (ldm rfl rfl Try.underlying9 rfl ?_) ?_; (focus (first | assumption | omega | (dsimp only; first | assumption | omega) | (simp <;> omega) | (simp; done))))
      | (refine WJ.r rfl rfl rfl rfl rfl (ldom rfl rfl Try.underlying9 rfl ?_) ?_; (focus (first | assumption | omega | (dsimp only; first | assumption | omega) | (simp <;> omega) | (simp; done))))
    refine WJ.f rfl rfl rfl rfl rfl (fr_bs1 rfl rfl Try.underlying22 (by kernel_rfl : _ = some (some (.string (S [])), 1, 16)) rfl (by simp only [List.map]; rfl) rfl rfl ?_ (by decide)) ?_
    · simp [Value.cells]
    intro b18
    first
      | (refine WJ.g rfl rfl rfl rfl rfl (appgJ rfl Try.underlying22 (by kernel_rfl : _ = some (some (.string (S [])), 1, 16)) rfl .tc rfl rfl (fun ext w hS => by first | exact hS.os | exact hS.sl | exact hS.oc) (by first | rfl | simp) ?_ ?_) ?_; (focus ((refine ⟨?_, ?_, ?_, ?_⟩ <;> (try simp) <;> omega))); (focus (first | (simp [Value.oneCell']; done) | (intro u hu; obtain ⟨_, _, rfl⟩ := List.mem_map.1 hu; rfl))))
      | (refine WJ.g rfl rfl rfl rfl rfl (appfJ rfl Try.underlying22 (by kernel_rfl : _ = some (some (.string (S [])), 1, 16)) rfl .tc rfl rfl (fun ext w hS => by first | exact hS.os | exact hS.sl | exact hS.oc) (by first | rfl | simp) ?_ ?_) ?_; (focus ((refine ⟨?_, ?_, ?_, ?_⟩ <;> (try simp) <;> omega))); (focus (first | (simp [Value.oneCell']; done) | (intro u hu; obtain ⟨_, _, rfl⟩ := List.mem_map.1 hu; rfl))))
    rintro ⟨o19, c19, s19⟩ hg19; (try dsimp only at hg19 ⊢)
    refine WJ.r rfl rfl rfl rfl rfl (rd_assign rfl rfl) ?_
    refine WJ.nil ?_
    refine WL.nt ?_
    refine WC.ret ?_
    exact WX.retN rfl (.tmp rfl .nil) fun w' hS => ⟨⟨o19, c19, s19⟩, by rw [hr]; simp [Rs.val, tup], by rw [hr]; simpa using hg19, by rw [hr, strs_one]; rw [List.nil_append] at hS; show St _ _ [⟨o19, strs l ++ [.string (S o.text)] ++ s19, _⟩] _ _; exact st_sub _ hS⟩
/-- the record of an operation -/
def recO (o : OpR) : Bs := if o.kind.tmod 3 = 1 then recJ 82 (listJ o.texts.l) else recJ 69 o.text
structure OpS (o : OpR) : Prop where
  f : fewP o.texts.l
  t : o.text.length ≤ 400
theorem recO_len {o : OpR} (h : OpS o) : (recO o).length ≤ 4000 ∧ 37 ≤ (recO o).length := by
  have h1 := h.f.1; have h2 := h.f.2; have h3 := h.t; have h4 := listJ_len o.texts.l
  unfold recO; split <;> rw [recJ_len] <;> omega
theorem afterE_len {o : OpR} (h : OpS o) (l : List Bs) : (afterE l o).length ≤ l.length + 30 := by
  have h1 := h.f.1
  unfold afterE; split
  · omega
  · simp
theorem run_op {B : Bs} {sf : List Bs} {fr : Nat} (o : OpR) (ho : OpS o) (h : RunG B sf fr) (hB : B.length ≤ 1000000) (hs : sf.length ≤ 4000) : ∃ fr', RunG (B ++ recO o) (afterE sf o) fr' := by
  have h1 := h.1; have h2 := ho.f.1; have h3 := ho.f.2; have h4 := listJ_len o.texts.l; have h5 := ho.t
  unfold recO afterE
  split
  · have hu := unl_few ho.f
    have := run_R (listJ o.texts.l) h (by omega) (by rw [hu]) (by omega)
    rw [hu] at this
    exact ⟨_, this⟩
  · exact ⟨_, run_E o.text h (by omega) (by omega) (by omega)⟩
theorem recs_len : ∀ (pd : List OpR), (∀ o ∈ pd, OpS o) → (pd.map recO).flatten.length ≤ 4000 * pd.length
  | [], _ => by simp
  | o :: pd, h => by
    have h1 := (recO_len (h o (List.mem_cons_self))).1
    have h2 := recs_len pd (fun x hx => h x (List.mem_cons_of_mem _ hx))
    rw [List.map_cons, List.flatten_cons, List.length_append, List.length_cons]; omega
theorem fold_len : ∀ (pd : List OpR) (sf : List Bs), (∀ o ∈ pd, OpS o) → (pd.foldl afterE sf).length ≤ sf.length + 30 * pd.length
  | [], sf, _ => by simp
  | o :: pd, sf, h => by
    have h1 := afterE_len (h o (List.mem_cons_self)) sf
    have h2 := fold_len pd (afterE sf o) (fun x hx => h x (List.mem_cons_of_mem _ hx))
    rw [List.foldl_cons, List.length_cons]; omega
theorem run_ops : ∀ (pd : List OpR) {B : Bs} {sf : List Bs} {fr : Nat}, (∀ o ∈ pd, OpS o) → RunG B sf fr → B.length + 4000 * pd.length ≤ 1000000 → sf.length + 30 * pd.length ≤ 4000 → ∃ fr', RunG (B ++ (pd.map recO).flatten) (pd.foldl afterE sf) fr'
  | [], B, sf, fr, _, h, _, _ => ⟨fr, by simpa using h⟩
  | o :: pd, B, sf, fr, ho, h, h1, h2 => by
    have ho0 := ho o (List.mem_cons_self)
    rw [List.length_cons] at h1 h2
    obtain ⟨fr', h'⟩ := run_op o ho0 h (by omega) (by omega)
    have h3 := recO_len ho0
    have h4 := afterE_len ho0 sf
    obtain ⟨f2, h5⟩ := run_ops pd (fun x hx => ho x (List.mem_cons_of_mem _ hx)) h' (by rw [List.length_append]; omega) (by omega)
    refine ⟨f2, ?_⟩
    rw [List.map_cons, List.flatten_cons, ← List.append_assoc, List.foldl_cons]; exact h5
theorem recO_part (o : OpR) (ho : OpS o) (b : Bs) (m : Nat) (hm : m < (recO o).length) : nextJ (b ++ (recO o).take m) b.length = none := by
  have h2 := ho.f.1; have h3 := ho.f.2; have h4 := listJ_len o.texts.l; have h5 := ho.t
  unfold recO at hm ⊢
  split at hm
  · rename_i h; rw [if_pos h]; exact nextJ_part b 82 _ m (.inr rfl) (by omega) hm
  · rename_i h; rw [if_neg h]; exact nextJ_part b 69 _ m (.inl rfl) (by omega) hm
/-- what is found behind a crash -/
theorem crash_ops {pd : List OpR} {B : Bs} {sf : List Bs} {fr n m : Nat} (ho : ∀ o ∈ pd, OpS o) (h : RunG B sf fr) (h1 : B.length + 4000 * pd.length ≤ 1000000) (h2 : sf.length + 30 * pd.length ≤ 4000) (hn : n ≤ pd.length) (hm : m ≤ ((pd.map recO).getD n default).length) :
    ∃ s2, opn ⟨B ++ ((pd.map recO).take n).flatten ++ ((pd.map recO).getD n default).take m, [], true⟩ = (((if n < pd.length ∧ m = ((pd.map recO).getD n default).length then pd.take (n + 1) else pd.take n).foldl afterE sf), ⟨s2, [], false⟩, 0) := by
  have hl : ∀ k, k ≤ pd.length → (pd.take k).length = k := fun k hk => by rw [List.length_take]; exact Nat.min_eq_left hk
  have hrun : ∀ k, k ≤ pd.length → ∃ f2, RunG (B ++ ((pd.map recO).take k).flatten) ((pd.take k).foldl afterE sf) f2 := fun k hk => by
    have := run_ops (pd.take k) (fun o hx => ho o (List.mem_of_mem_take hx)) h (by rw [hl k hk]; omega) (by rw [hl k hk]; omega)
    rw [List.map_take] at this; exact this
  by_cases hc : n < pd.length ∧ m = ((pd.map recO).getD n default).length
  · obtain ⟨f2, hr⟩ := hrun (n + 1) (by omega)
    have e := take_flat (pd.map recO) n (by simp; omega)
    have h4 := run_opn (t := []) (cr := true) hr (by rw [List.append_nil]; exact nextJ_end _)
    rw [List.append_nil, e, ← List.append_assoc] at h4
    rw [if_pos hc, hc.2, List.take_of_length_le (Nat.le_refl _)]
    exact ⟨_, h4⟩
  · obtain ⟨f2, hr⟩ := hrun n hn
    rw [if_neg hc]
    by_cases hnl : n < pd.length
    · have hg : (pd.map recO).getD n default = recO (pd.getD n default) := by
        rw [List.getD_eq_getElem?_getD, List.getD_eq_getElem?_getD, List.getElem?_map, List.getElem?_eq_getElem hnl]; rfl
      rw [hg] at hm hc ⊢
      have h4 := run_opn (t := (recO (pd.getD n default)).take m) (cr := true) hr (recO_part _ (ho _ (getD_mem pd n hnl)) _ m (by
        rcases Nat.lt_or_ge m (recO (pd.getD n default)).length with q | q
        · exact q
        · exact absurd ⟨hnl, by omega⟩ hc))
      exact ⟨_, h4⟩
    · have hg : (pd.map recO).getD n default = [] := by rw [List.getD_eq_getElem?_getD, List.getElem?_eq_none (by simp; omega)]; rfl
      rw [hg, List.take_nil]
      have h4 := run_opn (t := []) (cr := true) hr (by rw [List.append_nil]; exact nextJ_end _)
      exact ⟨_, h4⟩
end Go.Proofs.Ytijamoagkmjcjaa
