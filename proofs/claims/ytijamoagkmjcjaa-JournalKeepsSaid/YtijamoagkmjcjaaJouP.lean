/-
  The statement about the journal: what is kept behind a crash.
-/
import Derived.Test.YtijamoagkmjcjaaJouK
namespace Go.Proofs.Ytijamoagkmjcjaa
set_option linter.unusedSimpArgs false
set_option linter.unusedVariables false
set_option maxRecDepth 20000
set_option maxHeartbeats 600000
open Go.RowKit

theorem st_subF {ok : Nat → Prop} {w0 w : World} {own own' : List Ent} {fs fs' : List Fact} (hf : ∀ f ∈ fs, f ∈ fs') [h1 : SubL own own'] (h : St ok w0 own' fs' w) : St ok w0 own fs w := h.sub h1.h hf
theorem sumO_mem {l : List OpR} {o : OpR} (h : o ∈ l) : o.text.length ≤ sumO l := by
  induction l with
  | nil => cases h
  | cons a l ih =>
    simp only [sumO, List.map_cons, List.sum_cons] at ih ⊢
    rcases List.mem_cons.1 h with rfl | h
    · omega
    · have := ih h; omega
theorem flat_one {α : Type} (l : List α) (x : α) (f : α → List Value) : (l ++ [x]).flatMap f = l.flatMap f ++ f x := by simp
theorem fold_take (pd : List OpR) (sf : List Bs) (k : Nat) (h : k < pd.length) : (pd.take (k + 1)).foldl afterE sf = afterE ((pd.take k).foldl afterE sf) (pd.getD k default) := by
  rw [List.take_add_one, List.getElem?_eq_getElem h, List.getD_eq_getElem?_getD, List.getElem?_eq_getElem h, List.foldl_append]; rfl
theorem compact_one {B : Bs} {P : List Bs} {o : OpR} (ho : OpS o) (hk : o.kind.tmod 3 = 1) : compactD ⟨B, P, false⟩ o.texts.l = (⟨B, P ++ [recO o], false⟩, 0) := by
  have h1 := ho.f.1; have h2 := ho.f.2; have h3 := listJ_len o.texts.l
  rw [compactD, if_neg (by simp), if_neg (by omega), if_neg (by simp; intro s hs; have := mem_len hs; omega), if_neg (by omega), recO, if_pos hk]
theorem append_one {B : Bs} {P : List Bs} {o : OpR} (ho : OpS o) (hk : ¬ o.kind.tmod 3 = 1) : appendD ⟨B, P, false⟩ o.text = (⟨B, P ++ [recO o], false⟩, 0) := by
  have h3 := ho.t
  rw [appendD, if_neg (by simp), if_neg (by omega), recO, if_neg hk]
theorem map_one (pd : List OpR) (o : OpR) : (pd ++ [o]).map recO = pd.map recO ++ [recO o] := by simp
theorem keeps_n {p : Sl OpR} {kk bb : Nat} {w : World} {ok : Nat → Prop} (hF1 : (Fact.sl p.a (p.l.flatMap opC)).holds ok w) (hM : ∀ f ∈ (p.l.map opF), f.holds ok w) (hcap : p.l.length ≤ p.cap) (hcb : p.cap * 48 ≤ 140737488351232) (hb : ∀ o ∈ p.l, OpB o) (hkk : kk < 65536) (hbb : bb < 65536) :
    Calls Try.prog 7 #[p.val, .int .u16 (kk : Int), .int .u16 (bb : Int)] w fun e w' => e = .returned (.bool true) ∧ Below w.heap.size w w' := by
  refine enter (S := St (fun _ => True) w [] (Fact.sl p.a (p.l.flatMap opC) :: (p.l.map opF))) (L := [(0, p.val), (1, .int .u16 (kk : Int)), (2, .int .u16 (bb : Int))]) Try.func7 rfl Try.ntmps7 rfl (args_cons rfl (args_cons rfl (args_cons rfl (args_nil _)))) (St.start (fun _ _ => trivial) (facts_cons (fact_any hF1) (facts_more hM))) ?_
  refine WC.sr ?_
  refine WL.r rfl rfl rfl (rd_assign rfl rfl) ?_
  refine WL.nt ?_
  refine WC.seq ?_
  refine WC.sr ?_
  refine WL.r rfl rfl rfl (rd_move rfl rfl) ?_
  refine WL.g rfl rfl rfl (og_call rfl rfl (by kernel_rfl) (keep_val fun w hS => script_c (l := p.l) (by first | exact hS.sl | exact hS.os | exact hS.oc | exact sl_takeM _ hS.sl | exact sl_dropM _ hS.sl | exact sl_cutM _ (by omega) hS.sl | exact sl_nil) (by first | exact hS.more) (by omega) (by exact hb))) ?_
  intro _
  refine WL.r rfl rfl rfl (rd_not rfl rfl) ?_
  refine WL.nt ?_
  refine WC.cond rfl (fun hc25 => ?_) (fun hc25 => ?_)
  · (try simp only [decide_eq_true_eq, decide_eq_false_iff_not, Bool.not_eq_true', Bool.not_eq_false', Bool.not_not, Int.not_lt, Int.not_le] at hc25)
    refine WC.sr ?_
    refine WL.g rfl rfl rfl (og_call rfl rfl (by kernel_rfl) (keep_val fun w hS => awake_c)) ?_
    intro _
    refine WL.r rfl rfl rfl (rd_assign rfl rfl) ?_
    refine WL.nt ?_
    refine WC.ret ?_
    refine WX.then_ret ?_
    exact WX.retN rfl (.tmp rfl .nil) fun w' hS => ⟨by first | rfl | (simp [tup]; done) | (simp [*, tup]; done), hS.below⟩
  · (try simp only [decide_eq_true_eq, decide_eq_false_iff_not, Bool.not_eq_true', Bool.not_eq_false', Bool.not_not, Int.not_lt, Int.not_le] at hc25)
    have hsc : scriptP p.l := by simpa using hc25
    have hO : ∀ o ∈ p.l, OpS o := fun o ho => ⟨hsc.2.2 o ho, Nat.le_trans (sumO_mem ho) hsc.2.1⟩
    have hl14 := hsc.1
    refine WC.skip ?_
    refine WX.then_normal ?_
    refine WC.sr ?_
    refine WL.r rfl rfl rfl (rd_bld [[.string (S [])], [.slice none 0 0], [.bool false]] rfl rfl (by simp only [bld, fldv, Nat.beq, Value.cells, cond_true, cond_false, List.nil_append, List.cons_append, List.append_nil]; rfl) (fun w => by kernel_rfl)) ?_
    refine WL.g rfl rfl rfl (og_alloc rfl (v := (.agg #[.string (S []), .slice none 0 0, .bool false])) (cs := [.string (S []), .slice none 0 0, .bool false]) (by kernel_rfl) rfl) ?_
    intro b7
    refine WL.g0 rfl rfl (sta rfl rfl rfl .tc ?_ ?_ ?_) ?_
    · kernel_rfl
    · simp [Value.oneCell']
    · first | rfl | simp
    intro _
    refine WL.nt ?_
    refine WC.sr ?_
    refine WL.r rfl rfl rfl (rd_assign rfl rfl) ?_
    refine WL.nt ?_
    refine WC.sr ?_
    refine WL.r rfl rfl rfl (rd_assign rfl rfl) ?_
    refine WL.nt ?_
    refine WC.seq ?_
    refine WC.sr ?_
    refine WL.r rfl rfl rfl (rd_assign rfl rfl) ?_
    refine WL.nt ?_
    refine WC.block ?_
    refine WC.loopO (σ := Nat × Bs × (List Bs) × (List OpR) × Rs × Rs × Rs) [(0, _), (1, _), (2, _), (7, _)] (fun g => [(10, .int .i64 (g.1 : Int)), (8, g.2.2.2.2.1.val g.2.2.1.length), (9, g.2.2.2.2.2.1.val g.2.2.2.1.length)]) (fun g => g.1 ≤ p.l.length ∧ (∀ o ∈ g.2.2.2.1, o ∈ p.l) ∧ (∃ fr, RunG g.2.1 g.2.2.1 fr) ∧ g.2.1.length + 4000 * g.2.2.2.1.length ≤ 4000 * g.1 ∧ g.2.2.1.length + 30 * g.2.2.2.1.length ≤ 30 * g.1 ∧ g.2.2.2.2.2.1.cap * 3 = g.2.2.2.1.length * 3 + g.2.2.2.2.2.1.sp.length ∧ g.2.2.2.1.length ≤ g.2.2.2.2.2.2.cap) (fun g => p.l.length - g.1) (fun g => [g.2.2.2.2.2.1.ent (g.2.2.2.1.flatMap opC) 52, ⟨some b7, [.string (S g.2.1), g.2.2.2.2.2.2.val (g.2.2.2.1.map recO).length, .bool false], 24⟩]) (fun g => Fact.sl g.2.2.2.2.1.a (strs g.2.2.1) :: Fact.sl g.2.2.2.2.2.2.a (strs (g.2.2.2.1.map recO)) :: Fact.sl p.a (p.l.flatMap opC) :: p.l.map opF) (0, [], [], [], ⟨none, 0, []⟩, ⟨none, 0, []⟩, ⟨none, 0, []⟩) (sub_cons rfl (sub_cons rfl (sub_cons rfl (sub_cons rfl (sub_nil _))))) (sub_cons rfl (sub_cons rfl (sub_cons rfl (sub_nil _)))) (by (try dsimp only); exact ⟨Nat.zero_le _, fun o h => (by cases h), ⟨0, run_nil⟩, by simp, by simp, rfl, Nat.le_refl _⟩) (by exact fun w h => St.nil (St.addN (St.addN h)) _) ?_
    rintro ⟨i, B, sf, pd, q8, q9, qd⟩ hinv1; (try dsimp only at hinv1 ⊢)
    obtain ⟨hi, hpd, ⟨fr, hR⟩, hB4, hs4, hq9, hqd⟩ := hinv1
    refine WC.seq ?_
    refine WC.sr ?_
    refine WL.r rfl rfl rfl (rd_move rfl rfl) ?_
    refine WL.r rfl rfl rfl (rd_move rfl rfl) ?_
    refine WL.r rfl rfl rfl (rd_len rfl rfl Try.underlying48) ?_
    refine WL.r rfl rfl rfl (rd_lss rfl rfl rfl) ?_
    refine WL.nt ?_
    refine WC.cond rfl (fun hc31 => ?_) (fun hc31 => ?_)
    · (try simp only [decide_eq_true_eq, decide_eq_false_iff_not, Bool.not_eq_true', Bool.not_eq_false', Bool.not_not, Int.not_lt, Int.not_le] at hc31)
      have hom := getD_mem p.l i (by omega)
      have hos := hO _ hom
      have hob := hb _ hom
      have hosf := hos.f.1
      have hpl : (pd.map recO).length = pd.length := by simp
      have hfl := recs_len pd (fun o h => hO o (hpd o h))
      have hil : pd.length ≤ i := by omega
      refine WC.skip ?_
      refine WX.then_normal ?_
      refine WC.seq ?_
      refine WC.block ?_
      refine WC.sr ?_
      refine WL.r rfl rfl rfl (rd_assign rfl rfl) ?_
      refine WL.nt ?_
      refine WC.seq ?_
      refine WC.sr ?_
      refine WL.r rfl rfl rfl (rd_move rfl rfl) ?_
      refine WL.r rfl rfl rfl (rd_move rfl rfl) ?_
      refine WL.r rfl rfl rfl (iaf rfl rfl rfl Try.underlying48 (by kernel_rfl : _ = some 3) ?_ ?_ (by (try simp only [Int.toNat_natCast, Nat.mul_one, Nat.zero_add, Nat.add_zero, Nat.zero_mul, Int.reduceToNat, Nat.reduceAdd, Nat.reduceMul, Nat.reduceSub, Nat.sub_zero]); rfl)) ?_
      · first | assumption | omega | (dsimp only; first | assumption | omega) | (simp <;> omega) | (simp; done)
      · first | (rw [List.length_map]; omega) | (rw [flatMap_len _ _ 3 (fun _ => rfl)]; omega) | (simp <;> omega)
      first
        | (refine WL.r rfl rfl rfl (rd_fa rfl rfl Try.underlying52 rfl (by kernel_rfl) (by (try simp only [Int.toNat_natCast, Nat.mul_one, Nat.zero_add, Nat.add_zero, Nat.zero_mul, Int.reduceToNat, Nat.reduceAdd, Nat.reduceMul, Nat.reduceSub, Nat.sub_zero]); rfl)) ?_)
        | (refine WL.r rfl rfl rfl (faf rfl rfl Try.underlying52 rfl (by kernel_rfl) (by (try simp only [Int.toNat_natCast, Nat.mul_one, Nat.zero_add, Nat.add_zero, Nat.zero_mul, Int.reduceToNat, Nat.reduceAdd, Nat.reduceMul, Nat.reduceSub, Nat.sub_zero]); rfl)) ?_)
      first
        | (refine WL.r rfl rfl rfl (ld rfl rfl .tc Try.underlying3 rfl (by rfl)) ?_)
        | (refine WL.r rfl rfl rfl (ldm rfl rfl Try.underlying3 rfl ?_) ?_; (focus (first | assumption | omega | (dsimp only; first | assumption | omega) | (simp <;> omega) | (simp; done))))
        | (refine WL.r rfl rfl rfl (ldom rfl rfl Try.underlying3 rfl ?_) ?_; (focus (first | assumption | omega | (dsimp only; first | assumption | omega) | (simp <;> omega) | (simp; done))))
        | (refine WL.r rfl rfl rfl (ldmf (sz := 3) _ 0 rfl rfl Try.underlying3 rfl (fun _ => rfl) rfl ?_ (by decide) rfl) ?_; (focus (first | assumption | omega | (dsimp only; first | assumption | omega) | (simp <;> omega) | (simp; done))))
      refine WL.r rfl rfl rfl (rd_rem rfl rfl rfl ?_) ?_
      · decide
      refine WL.nt ?_
      refine WC.block ?_
      refine WC.sr ?_
      refine WL.r rfl rfl rfl (rd_eql rfl rfl rfl) ?_
      refine WL.r rfl rfl rfl (rd_assign rfl rfl) ?_
      refine WL.nt ?_
      refine WC.cond rfl (fun hc57 => ?_) (fun hc57 => ?_)
      · (try simp only [decide_eq_true_eq, decide_eq_false_iff_not, Bool.not_eq_true', Bool.not_eq_false', Bool.not_not, Int.not_lt, Int.not_le] at hc57)
        refine WC.seq ?_
        refine WC.free (K := []) (fs0 := [Fact.sl p.a (p.l.flatMap opC)]) [0, 1, 2, 3, 4, 5, 6, 7, 8, 10, 9, 11] [] [1, 0, 0, 0, 0, 0, 1, 0, 0, 0, 1, 0] (by kernel_rfl) (by kernel_rfl) rfl ?_
        refine WJ.gv rfl rfl rfl rfl rfl (fun ext => og_rd (lda rfl rfl .tc Try.underlying24 rfl ?_)) ?_
        · kernel_rfl
        refine WJ.r rfl rfl rfl rfl rfl (rd_move rfl rfl) ?_
        refine WJ.r rfl rfl rfl rfl rfl (rd_move rfl rfl) ?_
        refine WJ.r rfl rfl rfl rfl rfl (iaf rfl rfl rfl Try.underlying48 (by kernel_rfl : _ = some 3) ?_ ?_ (by (try simp only [Int.toNat_natCast, Nat.mul_one, Nat.zero_add, Nat.add_zero, Nat.zero_mul, Int.reduceToNat, Nat.reduceAdd, Nat.reduceMul, Nat.reduceSub, Nat.sub_zero]); rfl)) ?_
        · first | assumption | omega | (dsimp only; first | assumption | omega) | (simp <;> omega) | (simp; done)
        · first | (rw [List.length_map]; omega) | (rw [flatMap_len _ _ 3 (fun _ => rfl)]; omega) | (simp <;> omega)
        first
          | (refine WJ.r rfl rfl rfl rfl rfl (rd_fa rfl rfl Try.underlying52 rfl (by kernel_rfl) (by (try simp only [Int.toNat_natCast, Nat.mul_one, Nat.zero_add, Nat.add_zero, Nat.zero_mul, Int.reduceToNat, Nat.reduceAdd, Nat.reduceMul, Nat.reduceSub, Nat.sub_zero]); rfl)) ?_)
          | (refine WJ.r rfl rfl rfl rfl rfl (faf rfl rfl Try.underlying52 rfl (by kernel_rfl) (by (try simp only [Int.toNat_natCast, Nat.mul_one, Nat.zero_add, Nat.add_zero, Nat.zero_mul, Int.reduceToNat, Nat.reduceAdd, Nat.reduceMul, Nat.reduceSub, Nat.sub_zero]); rfl)) ?_)
        first
          | (refine WJ.r rfl rfl rfl rfl rfl (ld rfl rfl .tc Try.underlying22 rfl (by rfl)) ?_)
          | (refine WJ.r rfl rfl rfl rfl rfl (ldm rfl rfl Try.underlying22 rfl ?_) ?_; (focus (first | assumption | omega | (dsimp only; first | assumption | omega) | (simp <;> omega) | (simp; done))))
          | (refine WJ.r rfl rfl rfl rfl rfl (ldom rfl rfl Try.underlying22 rfl ?_) ?_; (focus (first | assumption | omega | (dsimp only; first | assumption | omega) | (simp <;> omega) | (simp; done))))
          | (refine WJ.r rfl rfl rfl rfl rfl (ldmf (sz := 3) _ 2 rfl rfl Try.underlying22 rfl (fun _ => rfl) rfl ?_ (by decide) rfl) ?_; (focus (first | assumption | omega | (dsimp only; first | assumption | omega) | (simp <;> omega) | (simp; done))))
        refine WJ.g rfl rfl rfl rfl rfl (fun ext => og_call rfl rfl (by kernel_rfl) (keep_f1 (val := fun g => DE (⟨B, (pd ++ [p.l.getD i default]).map recO, false⟩, 0) (g.val ((pd ++ [p.l.getD i default]).map recO).length)) (p := fun g => g.cap = ((pd ++ [p.l.getD i default]).map recO).length + g.sp.length) (xs := strs ((pd ++ [p.l.getD i default]).map recO)) (T := 9) fun w hS => (by have := compact_c (d := ⟨B, pd.map recO, false⟩) (l := (p.l.getD i default).texts.l) (a := qd.a) (b := (p.l.getD i default).texts.a) (cap := qd.cap) (capl := (p.l.getD i default).texts.cap) (w := w) hS.sl (hS.more (more := p.l.map opF) (opF (p.l.getD i default)) (List.mem_map_of_mem hom)) (by dsimp only; omega) (by omega) (by have := listJ_len (p.l.getD i default).texts.l; have := hos.f.2; omega); rw [compact_one hos hc57, ← map_one] at this; exact this))) ?_
        intro g59 hg59
        refine WJ.r rfl rfl rfl rfl rfl (rd_move rfl rfl) ?_
        refine WJ.r rfl rfl rfl rfl rfl (rd_extL rfl rfl rfl) ?_
        refine WJ.st rfl rfl rfl rfl (staJ rfl rfl rfl ?_ ?_ ?_) ?_
        · kernel_rfl
        · simp [Value.oneCell']
        · first | rfl | simp
        refine WJ.r rfl rfl rfl rfl rfl (rd_extL rfl rfl rfl) ?_
        refine WJ.r rfl rfl rfl rfl rfl (rd_assign rfl rfl) ?_
        refine WJ.nil ?_
        refine WL.nt ?_
        refine WC.region ?_
        refine WL.r rfl rfl rfl (rd_move rfl rfl) ?_
        refine WL.r rfl rfl rfl (rd_move rfl rfl) ?_
        refine WL.r rfl rfl rfl (rd_move rfl rfl) ?_
        refine WL.r rfl rfl rfl (iaf rfl rfl rfl Try.underlying48 (by kernel_rfl : _ = some 3) ?_ ?_ (by (try simp only [Int.toNat_natCast, Nat.mul_one, Nat.zero_add, Nat.add_zero, Nat.zero_mul, Int.reduceToNat, Nat.reduceAdd, Nat.reduceMul, Nat.reduceSub, Nat.sub_zero]); rfl)) ?_
        · first | assumption | omega | (dsimp only; first | assumption | omega) | (simp <;> omega) | (simp; done)
        · first | (rw [List.length_map]; omega) | (rw [flatMap_len _ _ 3 (fun _ => rfl)]; omega) | (simp <;> omega)
        first
          | (refine WL.r rfl rfl rfl (ldp rfl rfl .tc Try.underlying52 rfl (by kernel_rfl : _ = some 3) (by rfl) (by first | rfl | simp)) ?_)
          | (refine WL.r rfl rfl rfl (ldma _ rfl rfl Try.underlying52 rfl (by kernel_rfl : _ = some 3) (fun _ => rfl) (by decide) rfl ?_) ?_; (focus (first | assumption | omega | (dsimp only; first | assumption | omega) | (simp <;> omega) | (simp; done))))
        refine WL.g rfl rfl rfl (og_bsN rfl rfl Try.underlying48 (by kernel_rfl : _ = some (some (.agg #[.int .i64 0, .string (S []), .slice none 0 0]), 3, 48)) (by kernel_rfl) (by decide) rfl rfl (by first | (simp [Value.cells]; done) | (simp only [List.map, List.mem_cons, List.not_mem_nil, or_false, forall_eq]; rfl)) (by first | (exact cells_one _) | (simp only [List.map, Value.cells, List.flatMap_cons, List.flatMap_nil, List.append_nil, List.toList_toArray]; rfl)) (by decide)) ?_
        intro b74
        first
          | (refine WL.g rfl rfl rfl (appgN rfl Try.underlying48 (by kernel_rfl : _ = some (some (.agg #[.int .i64 0, .string (S []), .slice none 0 0]), 3, 48)) (by kernel_rfl) (by decide) .tc rfl rfl (fun w hS => by first | exact hS.os | exact hS.sl | exact hS.oc) (by first | rfl | (rw [flatMap_len _ _ 3 (fun _ => rfl)]; done) | simp) ?_ ?_) ?_; (focus ((refine ⟨?_, ?_, ?_, ?_⟩ <;> first | omega | (rw [flatMap_len _ _ 3 (fun _ => rfl)]; done) | ((try simp only [flatMap_len _ _ 3 (fun _ => rfl), List.length_nil, Nat.zero_mul, Nat.zero_add, Nat.add_zero]); omega) | ((try simp) <;> omega)))); (focus (first | (simp [Value.oneCell']; done) | (intro u hu; obtain ⟨_, _, rfl⟩ := List.mem_map.1 hu; rfl))))
          | (refine WL.g rfl rfl rfl (appfN rfl Try.underlying48 (by kernel_rfl : _ = some (some (.agg #[.int .i64 0, .string (S []), .slice none 0 0]), 3, 48)) (by kernel_rfl) (by decide) .tc rfl rfl (fun w hS => by first | exact hS.os | exact hS.sl | exact hS.oc) (by first | rfl | (rw [flatMap_len _ _ 3 (fun _ => rfl)]; done) | simp) ?_ ?_) ?_; (focus ((refine ⟨?_, ?_, ?_, ?_⟩ <;> first | omega | (rw [flatMap_len _ _ 3 (fun _ => rfl)]; done) | ((try simp only [flatMap_len _ _ 3 (fun _ => rfl), List.length_nil, Nat.zero_mul, Nat.zero_add, Nat.add_zero]); omega) | ((try simp) <;> omega)))); (focus (first | (simp [Value.oneCell']; done) | (intro u hu; obtain ⟨_, _, rfl⟩ := List.mem_map.1 hu; rfl))))
          | (refine WL.st (fun w h => h.nil 52) ?_; refine WL.g rfl rfl rfl (appgN (ob := none) (xs := []) (sp := []) rfl Try.underlying48 (by kernel_rfl : _ = some (some (.agg #[.int .i64 0, .string (S []), .slice none 0 0]), 3, 48)) (by kernel_rfl) (by decide) .tc rfl rfl (fun w hS => by first | exact hS.os | exact hS.sl | exact hS.oc) (by first | rfl | (rw [flatMap_len _ _ 3 (fun _ => rfl)]; done) | simp) ?_ ?_) ?_; (focus ((refine ⟨?_, ?_, ?_, ?_⟩ <;> first | omega | (rw [flatMap_len _ _ 3 (fun _ => rfl)]; done) | ((try simp only [flatMap_len _ _ 3 (fun _ => rfl), List.length_nil, Nat.zero_mul, Nat.zero_add, Nat.add_zero]); omega) | ((try simp) <;> omega)))); (focus (first | (simp [Value.oneCell']; done) | (intro u hu; obtain ⟨_, _, rfl⟩ := List.mem_map.1 hu; rfl))))
        rintro ⟨o75, c75, s75⟩
        refine WL.pu ?_
        intro hg75; (try dsimp only at hg75 ⊢)
        refine WL.r rfl rfl rfl (rd_assign rfl rfl) ?_
        refine WL.nil ?_
        refine WX.block_normal ?_
        refine WX.then_normal ?_
        refine WC.sr ?_
        refine WL.r rfl rfl rfl (rd_move rfl rfl) ?_
        refine WL.r rfl rfl rfl (rd_neq rfl rfl rfl) ?_
        refine WL.set 96 rfl (v' := .bool false) (by rfl) ?_
        refine WL.nt ?_
        refine WC.cond rfl (fun h => by cases h) (fun _ => ?_)
        refine WC.skip ?_
        refine WX.block_normal ?_
        refine WX.then_normal ?_
        refine WC.region ?_
        refine WL.r rfl rfl rfl (rd_move rfl rfl) ?_
        first
          | (refine WL.r rfl rfl rfl (rd_add64nl rfl rfl rfl ?_) ?_; (focus (first | assumption | omega | (dsimp only; first | assumption | omega) | (simp <;> omega) | (simp; done))))
          | (refine WL.r rfl rfl rfl (rd_add64 rfl rfl rfl ?_) ?_; (focus (first | assumption | omega | (dsimp only; first | assumption | omega) | (simp <;> omega) | (simp; done))))
        refine WL.r rfl rfl rfl (rd_assign rfl rfl) ?_
        refine WL.nil ?_
        refine WX.loopO ((i + 1, B, sf, pd ++ [p.l.getD i default], q8, ⟨o75, c75, s75⟩, g59)) (by (try dsimp only); omega) (sub_cons rfl (sub_cons rfl (sub_cons rfl (sub_cons rfl (sub_nil _))))) (by refine (sub_cons ?_ (sub_cons ?_ (sub_cons ?_ (sub_nil _)))) <;> (first | rfl | (simp only [List.length_append, List.length_cons, List.length_nil, Nat.zero_add]; rfl) | (dsimp only; first | rfl | (congr 2; omega) | (congr 3; omega)))) ?_ (by exact fun w h => by dsimp only; rw [flat_one]; exact st_subF (fun f hf => by simp only [List.mem_cons] at hf ⊢; rcases hf with h | h | h | h <;> simp [h]) h)
        (try dsimp only)
        exact ⟨by omega, fun o h => (List.mem_append.1 h).elim (hpd o) (fun h => by rw [List.mem_singleton.1 h]; exact hom), ⟨fr, hR⟩, by rw [List.length_append, List.length_singleton]; omega, by rw [List.length_append, List.length_singleton]; omega, by rw [List.length_append, List.length_singleton]; exact hg75, by rw [hg59]; simp⟩
      · (try simp only [decide_eq_true_eq, decide_eq_false_iff_not, Bool.not_eq_true', Bool.not_eq_false', Bool.not_not, Int.not_lt, Int.not_le] at hc57)
        refine WC.sr ?_
        refine WL.r rfl rfl rfl (rd_eql rfl rfl rfl) ?_
        refine WL.r rfl rfl rfl (rd_assign rfl rfl) ?_
        refine WL.nt ?_
        refine WC.cond rfl (fun hc76 => ?_) (fun hc76 => ?_)
        · (try simp only [decide_eq_true_eq, decide_eq_false_iff_not, Bool.not_eq_true', Bool.not_eq_false', Bool.not_not, Int.not_lt, Int.not_le] at hc76)
          refine WC.sr ?_
          refine WL.r rfl rfl rfl (lda rfl rfl .tc Try.underlying24 rfl ?_) ?_
          · kernel_rfl
          refine WL.g rfl rfl rfl (og_call rfl rfl (by kernel_rfl) (keep_f1 (val := fun g => DE (⟨B ++ (pd.map recO).flatten, [], false⟩, 0) (g.val 0)) (p := fun g => g.cap = 0 + g.sp.length) (xs := []) (T := 9) fun w hS => (by have := sync_c (d := ⟨B, pd.map recO, false⟩) (a := qd.a) (cap := qd.cap) (w := w) hS.sl (by dsimp only; omega) (by dsimp only; omega) (by dsimp only; omega) (by dsimp only; omega); rw [syncD, if_neg (by simp)] at this; exact this))) ?_
          intro g78; refine WL.pu ?_; intro hg78
          refine WL.r rfl rfl rfl (rd_move rfl rfl) ?_
          refine WL.r rfl rfl rfl (rd_extL rfl rfl rfl) ?_
          refine WL.r rfl rfl rfl (rd_extL rfl rfl rfl) ?_
          refine WL.g0 rfl rfl (sta rfl rfl rfl .tc ?_ ?_ ?_) ?_
          · kernel_rfl
          · simp [Value.oneCell']
          · first | rfl | simp
          intro _
          refine WL.r rfl rfl rfl (rd_assign rfl rfl) ?_
          refine WL.nt ?_
          refine WC.seq ?_
          refine WC.sr ?_
          refine WL.r rfl rfl rfl (rd_assign rfl rfl) ?_
          refine WL.nt ?_
          refine WC.block ?_
          refine WC.loopO (σ := Nat × Rs) [(0, _), (1, _), (2, _), (7, _), (9, _), (10, _), (11, _), (28, _), (29, _), (30, _), (31, _), (34, _), (35, _), (36, _), (37, _), (38, _), (39, _), (57, _), (58, _), (76, _), (77, _), (78, _), (79, _), (80, _), (81, _), (82, _)] (fun g => [(8, g.2.val ((pd.take g.1).foldl afterE sf).length), (12, .int .i64 (g.1 : Int))]) (fun g => g.1 ≤ pd.length) (fun g => pd.length - g.1) (fun g => [⟨some b7, [.string (S (B ++ (pd.map recO).flatten)), g78.val 0, .bool false], 24⟩]) (fun g => Fact.sl g.2.a (strs ((pd.take g.1).foldl afterE sf)) :: Fact.sl q9.a (pd.flatMap opC) :: Fact.sl g78.a [] :: Fact.sl p.a (p.l.flatMap opC) :: p.l.map opF) (0, q8) (sub_cons rfl (sub_cons rfl (sub_cons rfl (sub_cons rfl (sub_cons rfl (sub_cons rfl (sub_cons rfl (sub_cons rfl (sub_cons rfl (sub_cons rfl (sub_cons rfl (sub_cons rfl (sub_cons rfl (sub_cons rfl (sub_cons rfl (sub_cons rfl (sub_cons rfl (sub_cons rfl (sub_cons rfl (sub_cons rfl (sub_cons rfl (sub_cons rfl (sub_cons rfl (sub_cons rfl (sub_cons rfl (sub_cons rfl (sub_nil _))))))))))))))))))))))))))) (sub_cons rfl (sub_cons rfl (sub_nil _))) (by (try dsimp only); exact Nat.zero_le _) (by exact fun w h => (st_fz h).sub (List.Sublist.refl _) (fun f hf => by simp only [List.take_zero, List.foldl_nil, List.mem_cons] at hf ⊢; rcases hf with h | h | h | h | h <;> simp [h])) ?_
          rintro ⟨k, qs⟩ hinv2; (try dsimp only at hinv2 ⊢)
          obtain hk := hinv2
          refine WC.seq ?_
          refine WC.sr ?_
          refine WL.r rfl rfl rfl (rd_move rfl rfl) ?_
          refine WL.r rfl rfl rfl (rd_move rfl rfl) ?_
          refine WL.r rfl rfl rfl (rd_len rfl rfl Try.underlying48) ?_
          refine WL.r rfl rfl rfl (rd_lss rfl rfl rfl) ?_
          refine WL.nt ?_
          refine WC.cond rfl (fun hc86 => ?_) (fun hc86 => ?_)
          · (try simp only [decide_eq_true_eq, decide_eq_false_iff_not, Bool.not_eq_true', Bool.not_eq_false', Bool.not_not, Int.not_lt, Int.not_le] at hc86)
            have hk0 := fold_take pd sf k (by omega)
            have hk1 := getD_mem pd k (by omega)
            have hk2 := fold_len (pd.take k) sf (fun o h => hO o (hpd o (List.mem_of_mem_take h)))
            have hk3 : (pd.take k).length ≤ k := by rw [List.length_take]; exact Nat.min_le_left _ _
            have hk4 := (hO _ (hpd _ hk1)).f.1
            refine WC.skip ?_
            refine WX.then_normal ?_
            refine WC.seq ?_
            refine WC.block ?_
            refine WC.region ?_
            refine WL.r rfl rfl rfl (rd_move rfl rfl) ?_
            refine WL.r rfl rfl rfl (rd_move rfl rfl) ?_
            refine WL.r rfl rfl rfl (rd_move rfl rfl) ?_
            refine WL.r rfl rfl rfl (iaf rfl rfl rfl Try.underlying48 (by kernel_rfl : _ = some 3) ?_ ?_ (by (try simp only [Int.toNat_natCast, Nat.mul_one, Nat.zero_add, Nat.add_zero, Nat.zero_mul, Int.reduceToNat, Nat.reduceAdd, Nat.reduceMul, Nat.reduceSub, Nat.sub_zero]); rfl)) ?_
            · first | assumption | omega | (dsimp only; first | assumption | omega) | (simp <;> omega) | (simp; done)
            · first | (rw [List.length_map]; omega) | (rw [flatMap_len _ _ 3 (fun _ => rfl)]; omega) | (simp <;> omega)
            first
              | (refine WL.r rfl rfl rfl (ldp rfl rfl .tc Try.underlying52 rfl (by kernel_rfl : _ = some 3) (by rfl) (by first | rfl | simp)) ?_)
              | (refine WL.r rfl rfl rfl (ldma _ rfl rfl Try.underlying52 rfl (by kernel_rfl : _ = some 3) (fun _ => rfl) (by decide) rfl ?_) ?_; (focus (first | assumption | omega | (dsimp only; first | assumption | omega) | (simp <;> omega) | (simp; done))))
            refine WL.g rfl rfl rfl (og_call rfl rfl (by kernel_rfl) (keep_f1 fun w hS => after_c (l := (pd.take k).foldl afterE sf) (o := pd.getD k default) hS.sl (hS.more (more := p.l.map opF) (opF (pd.getD k default)) (List.mem_map_of_mem (hpd _ hk1))) (by omega) (by omega))) ?_
            intro g94
            refine WL.pu ?_
            intro hg94; (try dsimp only at hg94 ⊢)
            refine WL.r rfl rfl rfl (rd_assign rfl rfl) ?_
            refine WL.nil ?_
            refine WX.block_normal ?_
            refine WX.then_normal ?_
            refine WC.region ?_
            refine WL.r rfl rfl rfl (rd_move rfl rfl) ?_
            first
              | (refine WL.r rfl rfl rfl (rd_add64nl rfl rfl rfl ?_) ?_; (focus (first | assumption | omega | (dsimp only; first | assumption | omega) | (simp <;> omega) | (simp; done))))
              | (refine WL.r rfl rfl rfl (rd_add64 rfl rfl rfl ?_) ?_; (focus (first | assumption | omega | (dsimp only; first | assumption | omega) | (simp <;> omega) | (simp; done))))
            refine WL.r rfl rfl rfl (rd_assign rfl rfl) ?_
            refine WL.nil ?_
            rw [← hk0]
            refine WX.loopO ((k + 1, g94)) (by (try dsimp only); omega) (sub_cons rfl (sub_cons rfl (sub_cons rfl (sub_cons rfl (sub_cons rfl (sub_cons rfl (sub_cons rfl (sub_cons rfl (sub_cons rfl (sub_cons rfl (sub_cons rfl (sub_cons rfl (sub_cons rfl (sub_cons rfl (sub_cons rfl (sub_cons rfl (sub_cons rfl (sub_cons rfl (sub_cons rfl (sub_cons rfl (sub_cons rfl (sub_cons rfl (sub_cons rfl (sub_cons rfl (sub_cons rfl (sub_cons rfl (sub_nil _))))))))))))))))))))))))))) (by refine (sub_cons ?_ (sub_cons ?_ (sub_nil _))) <;> (first | rfl | (simp only [List.length_append, List.length_cons, List.length_nil, Nat.zero_add]; rfl) | (dsimp only; first | rfl | (congr 2; omega) | (congr 3; omega)))) ?_ (by first | exact fun _ h => h | exact st_sub)
            (try dsimp only)
            first | assumption | omega | (dsimp only; first | assumption | omega) | (simp <;> omega) | (simp; done)
          · (try simp only [decide_eq_true_eq, decide_eq_false_iff_not, Bool.not_eq_true', Bool.not_eq_false', Bool.not_not, Int.not_lt, Int.not_le] at hc86)
            refine WC.exit ?_
            refine WX.then_exit ?_
            refine WX.then_exit ?_
            refine WX.block_exit ?_
            obtain rfl : k = pd.length := by omega
            rw [List.take_of_length_le (Nat.le_refl _)]
            refine WX.then_normal ?_
            refine WC.region ?_
            refine WL.r rfl rfl rfl (rd_assign rfl rfl) ?_
            refine WL.nil ?_
            refine WX.block_normal ?_
            refine WX.then_normal ?_
            refine WC.sr ?_
            refine WL.r rfl rfl rfl (rd_move rfl rfl) ?_
            refine WL.r rfl rfl rfl (rd_neq rfl rfl rfl) ?_
            refine WL.set 96 rfl (v' := .bool false) (by rfl) ?_
            refine WL.nt ?_
            refine WC.cond rfl (fun h => by cases h) (fun _ => ?_)
            refine WC.skip ?_
            refine WX.block_normal ?_
            refine WX.then_normal ?_
            refine WC.region ?_
            refine WL.r rfl rfl rfl (rd_move rfl rfl) ?_
            first
              | (refine WL.r rfl rfl rfl (rd_add64nl rfl rfl rfl ?_) ?_; (focus (first | assumption | omega | (dsimp only; first | assumption | omega) | (simp <;> omega) | (simp; done))))
              | (refine WL.r rfl rfl rfl (rd_add64 rfl rfl rfl ?_) ?_; (focus (first | assumption | omega | (dsimp only; first | assumption | omega) | (simp <;> omega) | (simp; done))))
            refine WL.r rfl rfl rfl (rd_assign rfl rfl) ?_
            refine WL.nil ?_
            refine WX.loopO ((i + 1, B ++ (pd.map recO).flatten, pd.foldl afterE sf, [], qs, ⟨none, 0, []⟩, g78)) (by (try dsimp only); omega) (sub_cons rfl (sub_cons rfl (sub_cons rfl (sub_cons rfl (sub_nil _))))) (by refine (sub_cons ?_ (sub_cons ?_ (sub_cons ?_ (sub_nil _)))) <;> (first | rfl | (simp only [List.length_append, List.length_cons, List.length_nil, Nat.zero_add]; rfl) | (dsimp only; first | rfl | (congr 2; omega) | (congr 3; omega)))) ?_ (by exact fun w h => St.nil (h.sub (List.Sublist.refl _) (fun f hf => by simp only [List.map_nil, List.mem_cons] at hf ⊢; rcases hf with h | h | h | h <;> simp [h])) _)
            (try dsimp only)
            exact ⟨by omega, fun o h => (by cases h), run_ops pd (fun o h => hO o (hpd o h)) hR (by omega) (by omega), by rw [List.length_append]; simp only [List.length_nil]; omega, by have := fold_len pd sf (fun o h => hO o (hpd o h)); simp only [List.length_nil]; omega, rfl, by simp⟩
        · (try simp only [decide_eq_true_eq, decide_eq_false_iff_not, Bool.not_eq_true', Bool.not_eq_false', Bool.not_not, Int.not_lt, Int.not_le] at hc76)
          refine WC.seq ?_
          refine WC.free (K := []) (fs0 := [Fact.sl p.a (p.l.flatMap opC)]) [0, 1, 2, 3, 4, 5, 6, 7, 8, 10, 9, 11] [] [1, 0, 0, 0, 0, 0, 1, 0, 0, 0, 1, 0] (by kernel_rfl) (by kernel_rfl) rfl ?_
          refine WJ.gv rfl rfl rfl rfl rfl (fun ext => og_rd (lda rfl rfl .tc Try.underlying24 rfl ?_)) ?_
          · kernel_rfl
          refine WJ.r rfl rfl rfl rfl rfl (rd_move rfl rfl) ?_
          refine WJ.r rfl rfl rfl rfl rfl (rd_move rfl rfl) ?_
          refine WJ.r rfl rfl rfl rfl rfl (iaf rfl rfl rfl Try.underlying48 (by kernel_rfl : _ = some 3) ?_ ?_ (by (try simp only [Int.toNat_natCast, Nat.mul_one, Nat.zero_add, Nat.add_zero, Nat.zero_mul, Int.reduceToNat, Nat.reduceAdd, Nat.reduceMul, Nat.reduceSub, Nat.sub_zero]); rfl)) ?_
          · first | assumption | omega | (dsimp only; first | assumption | omega) | (simp <;> omega) | (simp; done)
          · first | (rw [List.length_map]; omega) | (rw [flatMap_len _ _ 3 (fun _ => rfl)]; omega) | (simp <;> omega)
          first
            | (refine WJ.r rfl rfl rfl rfl rfl (rd_fa rfl rfl Try.underlying52 rfl (by kernel_rfl) (by (try simp only [Int.toNat_natCast, Nat.mul_one, Nat.zero_add, Nat.add_zero, Nat.zero_mul, Int.reduceToNat, Nat.reduceAdd, Nat.reduceMul, Nat.reduceSub, Nat.sub_zero]); rfl)) ?_)
            | (refine WJ.r rfl rfl rfl rfl rfl (faf rfl rfl Try.underlying52 rfl (by kernel_rfl) (by (try simp only [Int.toNat_natCast, Nat.mul_one, Nat.zero_add, Nat.add_zero, Nat.zero_mul, Int.reduceToNat, Nat.reduceAdd, Nat.reduceMul, Nat.reduceSub, Nat.sub_zero]); rfl)) ?_)
          first
            | (refine WJ.r rfl rfl rfl rfl rfl (ld rfl rfl .tc Try.underlying9 rfl (by rfl)) ?_)
            | (refine WJ.r rfl rfl rfl rfl rfl (ldm rfl rfl Try.underlying9 rfl ?_) ?_; (focus (first | assumption | omega | (dsimp only; first | assumption | omega) | (simp <;> omega) | (simp; done))))
            | (refine WJ.r rfl rfl rfl rfl rfl (ldom rfl rfl Try.underlying9 rfl ?_) ?_; (focus (first | assumption | omega | (dsimp only; first | assumption | omega) | (simp <;> omega) | (simp; done))))
            | (refine WJ.r rfl rfl rfl rfl rfl (ldmf (sz := 3) _ 1 rfl rfl Try.underlying9 rfl (fun _ => rfl) rfl ?_ (by decide) rfl) ?_; (focus (first | assumption | omega | (dsimp only; first | assumption | omega) | (simp <;> omega) | (simp; done))))
          refine WJ.g rfl rfl rfl rfl rfl (fun ext => og_call rfl rfl (by kernel_rfl) (keep_f1 (val := fun g => DE (⟨B, (pd ++ [p.l.getD i default]).map recO, false⟩, 0) (g.val ((pd ++ [p.l.getD i default]).map recO).length)) (p := fun g => g.cap = ((pd ++ [p.l.getD i default]).map recO).length + g.sp.length) (xs := strs ((pd ++ [p.l.getD i default]).map recO)) (T := 9) fun w hS => (by have := append_c (d := ⟨B, pd.map recO, false⟩) (t := (p.l.getD i default).text) (a := qd.a) (cap := qd.cap) (w := w) hS.sl (by dsimp only; omega); rw [append_one hos hc57, ← map_one] at this; exact this))) ?_
          intro g40 hg40
          refine WJ.r rfl rfl rfl rfl rfl (rd_move rfl rfl) ?_
          refine WJ.r rfl rfl rfl rfl rfl (rd_extL rfl rfl rfl) ?_
          refine WJ.st rfl rfl rfl rfl (staJ rfl rfl rfl ?_ ?_ ?_) ?_
          · kernel_rfl
          · simp [Value.oneCell']
          · first | rfl | simp
          refine WJ.r rfl rfl rfl rfl rfl (rd_extL rfl rfl rfl) ?_
          refine WJ.r rfl rfl rfl rfl rfl (rd_assign rfl rfl) ?_
          refine WJ.nil ?_
          refine WL.nt ?_
          refine WC.region ?_
          refine WL.r rfl rfl rfl (rd_move rfl rfl) ?_
          refine WL.r rfl rfl rfl (rd_move rfl rfl) ?_
          refine WL.r rfl rfl rfl (rd_move rfl rfl) ?_
          refine WL.r rfl rfl rfl (iaf rfl rfl rfl Try.underlying48 (by kernel_rfl : _ = some 3) ?_ ?_ (by (try simp only [Int.toNat_natCast, Nat.mul_one, Nat.zero_add, Nat.add_zero, Nat.zero_mul, Int.reduceToNat, Nat.reduceAdd, Nat.reduceMul, Nat.reduceSub, Nat.sub_zero]); rfl)) ?_
          · first | assumption | omega | (dsimp only; first | assumption | omega) | (simp <;> omega) | (simp; done)
          · first | (rw [List.length_map]; omega) | (rw [flatMap_len _ _ 3 (fun _ => rfl)]; omega) | (simp <;> omega)
          first
            | (refine WL.r rfl rfl rfl (ldp rfl rfl .tc Try.underlying52 rfl (by kernel_rfl : _ = some 3) (by rfl) (by first | rfl | simp)) ?_)
            | (refine WL.r rfl rfl rfl (ldma _ rfl rfl Try.underlying52 rfl (by kernel_rfl : _ = some 3) (fun _ => rfl) (by decide) rfl ?_) ?_; (focus (first | assumption | omega | (dsimp only; first | assumption | omega) | (simp <;> omega) | (simp; done))))
          refine WL.g rfl rfl rfl (og_bsN rfl rfl Try.underlying48 (by kernel_rfl : _ = some (some (.agg #[.int .i64 0, .string (S []), .slice none 0 0]), 3, 48)) (by kernel_rfl) (by decide) rfl rfl (by first | (simp [Value.cells]; done) | (simp only [List.map, List.mem_cons, List.not_mem_nil, or_false, forall_eq]; rfl)) (by first | (exact cells_one _) | (simp only [List.map, Value.cells, List.flatMap_cons, List.flatMap_nil, List.append_nil, List.toList_toArray]; rfl)) (by decide)) ?_
          intro b55
          first
            | (refine WL.g rfl rfl rfl (appgN rfl Try.underlying48 (by kernel_rfl : _ = some (some (.agg #[.int .i64 0, .string (S []), .slice none 0 0]), 3, 48)) (by kernel_rfl) (by decide) .tc rfl rfl (fun w hS => by first | exact hS.os | exact hS.sl | exact hS.oc) (by first | rfl | (rw [flatMap_len _ _ 3 (fun _ => rfl)]; done) | simp) ?_ ?_) ?_; (focus ((refine ⟨?_, ?_, ?_, ?_⟩ <;> first | omega | (rw [flatMap_len _ _ 3 (fun _ => rfl)]; done) | ((try simp only [flatMap_len _ _ 3 (fun _ => rfl), List.length_nil, Nat.zero_mul, Nat.zero_add, Nat.add_zero]); omega) | ((try simp) <;> omega)))); (focus (first | (simp [Value.oneCell']; done) | (intro u hu; obtain ⟨_, _, rfl⟩ := List.mem_map.1 hu; rfl))))
            | (refine WL.g rfl rfl rfl (appfN rfl Try.underlying48 (by kernel_rfl : _ = some (some (.agg #[.int .i64 0, .string (S []), .slice none 0 0]), 3, 48)) (by kernel_rfl) (by decide) .tc rfl rfl (fun w hS => by first | exact hS.os | exact hS.sl | exact hS.oc) (by first | rfl | (rw [flatMap_len _ _ 3 (fun _ => rfl)]; done) | simp) ?_ ?_) ?_; (focus ((refine ⟨?_, ?_, ?_, ?_⟩ <;> first | omega | (rw [flatMap_len _ _ 3 (fun _ => rfl)]; done) | ((try simp only [flatMap_len _ _ 3 (fun _ => rfl), List.length_nil, Nat.zero_mul, Nat.zero_add, Nat.add_zero]); omega) | ((try simp) <;> omega)))); (focus (first | (simp [Value.oneCell']; done) | (intro u hu; obtain ⟨_, _, rfl⟩ := List.mem_map.1 hu; rfl))))
            | (refine WL.st (fun w h => h.nil 52) ?_; refine WL.g rfl rfl rfl (appgN (ob := none) (xs := []) (sp := []) rfl Try.underlying48 (by kernel_rfl : _ = some (some (.agg #[.int .i64 0, .string (S []), .slice none 0 0]), 3, 48)) (by kernel_rfl) (by decide) .tc rfl rfl (fun w hS => by first | exact hS.os | exact hS.sl | exact hS.oc) (by first | rfl | (rw [flatMap_len _ _ 3 (fun _ => rfl)]; done) | simp) ?_ ?_) ?_; (focus ((refine ⟨?_, ?_, ?_, ?_⟩ <;> first | omega | (rw [flatMap_len _ _ 3 (fun _ => rfl)]; done) | ((try simp only [flatMap_len _ _ 3 (fun _ => rfl), List.length_nil, Nat.zero_mul, Nat.zero_add, Nat.add_zero]); omega) | ((try simp) <;> omega)))); (focus (first | (simp [Value.oneCell']; done) | (intro u hu; obtain ⟨_, _, rfl⟩ := List.mem_map.1 hu; rfl))))
          rintro ⟨o56, c56, s56⟩
          refine WL.pu ?_
          intro hg56; (try dsimp only at hg56 ⊢)
          refine WL.r rfl rfl rfl (rd_assign rfl rfl) ?_
          refine WL.nil ?_
          refine WX.block_normal ?_
          refine WX.then_normal ?_
          refine WC.sr ?_
          refine WL.r rfl rfl rfl (rd_move rfl rfl) ?_
          refine WL.r rfl rfl rfl (rd_neq rfl rfl rfl) ?_
          refine WL.set 96 rfl (v' := .bool false) (by rfl) ?_
          refine WL.nt ?_
          refine WC.cond rfl (fun h => by cases h) (fun _ => ?_)
          refine WC.skip ?_
          refine WX.block_normal ?_
          refine WX.then_normal ?_
          refine WC.region ?_
          refine WL.r rfl rfl rfl (rd_move rfl rfl) ?_
          first
            | (refine WL.r rfl rfl rfl (rd_add64nl rfl rfl rfl ?_) ?_; (focus (first | assumption | omega | (dsimp only; first | assumption | omega) | (simp <;> omega) | (simp; done))))
            | (refine WL.r rfl rfl rfl (rd_add64 rfl rfl rfl ?_) ?_; (focus (first | assumption | omega | (dsimp only; first | assumption | omega) | (simp <;> omega) | (simp; done))))
          refine WL.r rfl rfl rfl (rd_assign rfl rfl) ?_
          refine WL.nil ?_
          refine WX.loopO ((i + 1, B, sf, pd ++ [p.l.getD i default], q8, ⟨o56, c56, s56⟩, g40)) (by (try dsimp only); omega) (sub_cons rfl (sub_cons rfl (sub_cons rfl (sub_cons rfl (sub_nil _))))) (by refine (sub_cons ?_ (sub_cons ?_ (sub_cons ?_ (sub_nil _)))) <;> (first | rfl | (simp only [List.length_append, List.length_cons, List.length_nil, Nat.zero_add]; rfl) | (dsimp only; first | rfl | (congr 2; omega) | (congr 3; omega)))) ?_ (by exact fun w h => by dsimp only; rw [flat_one]; exact st_subF (fun f hf => by simp only [List.mem_cons] at hf ⊢; rcases hf with h | h | h | h <;> simp [h]) h)
          (try dsimp only)
          exact ⟨by omega, fun o h => (List.mem_append.1 h).elim (hpd o) (fun h => by rw [List.mem_singleton.1 h]; exact hom), ⟨fr, hR⟩, by rw [List.length_append, List.length_singleton]; omega, by rw [List.length_append, List.length_singleton]; omega, by rw [List.length_append, List.length_singleton]; exact hg56, by rw [hg40]; simp⟩
    · (try simp only [decide_eq_true_eq, decide_eq_false_iff_not, Bool.not_eq_true', Bool.not_eq_false', Bool.not_not, Int.not_lt, Int.not_le] at hc31)
      refine WC.exit ?_
      refine WX.then_exit ?_
      refine WX.then_exit ?_
      refine WX.block_exit ?_
      have hil : pd.length ≤ 14 := by omega
      have hpl : (pd.map recO).length = pd.length := by simp
      have hOp : ∀ o ∈ pd, OpS o := fun o h => hO o (hpd o h)
      have hfl := recs_len pd hOp
      refine WX.then_normal ?_
      refine WC.seq ?_
      refine WC.sr ?_
      refine WL.st (fun w h => st_fz h) ?_
      first
        | (refine WL.r rfl rfl rfl (rd_fa (q := 1) rfl rfl Try.underlying24 rfl (by kernel_rfl) rfl) ?_)
        | (refine WL.r rfl rfl rfl (faf (q' := 1) rfl rfl Try.underlying24 rfl (by kernel_rfl) rfl) ?_)
      first
        | (refine WL.r rfl rfl rfl (ld rfl rfl .tc Try.underlying22 rfl (by rfl)) ?_)
        | (refine WL.r rfl rfl rfl (ldm rfl rfl Try.underlying22 rfl ?_) ?_; (focus (first | assumption | omega | (dsimp only; first | assumption | omega) | (simp <;> omega) | (simp; done))))
        | (refine WL.r rfl rfl rfl (ldom rfl rfl Try.underlying22 rfl ?_) ?_; (focus (first | assumption | omega | (dsimp only; first | assumption | omega) | (simp <;> omega) | (simp; done))))
      refine WL.r rfl rfl rfl (rd_len rfl rfl Try.underlying22) ?_
      refine WL.r rfl rfl rfl (rd_move rfl rfl) ?_
      refine WL.r rfl rfl rfl (rd_len rfl rfl Try.underlying48) ?_
      refine WL.r rfl rfl rfl (rd_neq rfl rfl rfl) ?_
      refine WL.nt ?_
      refine WC.cond rfl (fun hc102 => by exfalso; (try simp only [decide_eq_true_eq, decide_eq_false_iff_not, Bool.not_eq_true', Bool.not_eq_false', Bool.not_not, Int.not_lt, Int.not_le] at hc102); (simp at hc102)) (fun hc102 => ?_)
      (try simp only [decide_eq_true_eq, decide_eq_false_iff_not, Bool.not_eq_true', Bool.not_eq_false', Bool.not_not, Int.not_lt, Int.not_le] at hc102)
      refine WC.skip ?_
      refine WX.then_normal ?_
      refine WC.sr ?_
      refine WL.r rfl rfl rfl (rd_move rfl rfl) ?_
      refine WL.r rfl rfl rfl (rd_convN rfl rfl Try.underlying49 Try.underlying3 ?_) ?_
      · first | exact wrap8_64 _ | (rw [IntKind.wrap_i64]; omega)
      refine WL.r rfl rfl rfl (rd_move rfl rfl) ?_
      refine WL.r rfl rfl rfl (rd_len rfl rfl Try.underlying48) ?_
      first
        | (refine WL.r rfl rfl rfl (rd_add64nl rfl rfl rfl ?_) ?_; (focus (first | assumption | omega | (dsimp only; first | assumption | omega) | (simp <;> omega) | (simp; done))))
        | (refine WL.r rfl rfl rfl (rd_add64 rfl rfl rfl ?_) ?_; (focus (first | assumption | omega | (dsimp only; first | assumption | omega) | (simp <;> omega) | (simp; done))))
      first
        | (refine WL.r rfl rfl rfl (rd_rem64n rfl rfl rfl ?_) ?_; (focus (first | assumption | omega | (dsimp only; first | assumption | omega) | (simp <;> omega) | (simp; done))))
        | (refine WL.r rfl rfl rfl (rd_rem64 rfl rfl rfl ?_) ?_; (focus (first | assumption | omega | (dsimp only; first | assumption | omega) | (simp <;> omega) | (simp; done))))
      obtain ⟨n, hn⟩ : ∃ n : Nat, n = kk % (pd.length + 1) := ⟨_, rfl⟩
      refine WL.set 108 rfl (v' := .int .i64 (n : Int)) (by rw [hn]) ?_
      have hnl : n ≤ pd.length := by have := Nat.mod_lt kk (show 0 < pd.length + 1 by omega); omega
      have hgl : ((pd.map recO).getD n default).length ≤ 1000000 := Nat.le_trans (getD_flat_le _ _) (by omega)
      refine WL.r rfl rfl rfl (rd_assign rfl rfl) ?_
      refine WL.nt ?_
      refine WC.sr ?_
      refine WL.r rfl rfl rfl (rd_assign rfl rfl) ?_
      refine WL.nt ?_
      refine WC.seq ?_
      refine WC.sr ?_
      refine WL.r rfl rfl rfl (rd_move rfl rfl) ?_
      refine WL.r rfl rfl rfl (rd_move rfl rfl) ?_
      refine WL.r rfl rfl rfl (rd_len rfl rfl Try.underlying48) ?_
      refine WL.r rfl rfl rfl (rd_lss rfl rfl rfl) ?_
      refine WL.nt ?_
      refine WC.cond rfl (fun hc112 => ?_) (fun hc112 => ?_)
      · (try simp only [decide_eq_true_eq, decide_eq_false_iff_not, Bool.not_eq_true', Bool.not_eq_false', Bool.not_not, Int.not_lt, Int.not_le] at hc112)
        refine WC.sr ?_
        refine WL.r rfl rfl rfl (rd_move rfl rfl) ?_
        refine WL.r rfl rfl rfl (rd_convN rfl rfl Try.underlying49 Try.underlying3 ?_) ?_
        · first | exact wrap8_64 _ | (rw [IntKind.wrap_i64]; omega)
        first
          | (refine WL.r rfl rfl rfl (rd_fa (q := 1) rfl rfl Try.underlying24 rfl (by kernel_rfl) rfl) ?_)
          | (refine WL.r rfl rfl rfl (faf (q' := 1) rfl rfl Try.underlying24 rfl (by kernel_rfl) rfl) ?_)
        first
          | (refine WL.r rfl rfl rfl (ld rfl rfl .tc Try.underlying22 rfl (by rfl)) ?_)
          | (refine WL.r rfl rfl rfl (ldm rfl rfl Try.underlying22 rfl ?_) ?_; (focus (first | assumption | omega | (dsimp only; first | assumption | omega) | (simp <;> omega) | (simp; done))))
          | (refine WL.r rfl rfl rfl (ldom rfl rfl Try.underlying22 rfl ?_) ?_; (focus (first | assumption | omega | (dsimp only; first | assumption | omega) | (simp <;> omega) | (simp; done))))
        refine WL.r rfl rfl rfl (rd_move rfl rfl) ?_
        first
          | (refine WL.r rfl rfl rfl (rd_ia rfl rfl rfl Try.underlying22 (by kernel_rfl : _ = some 1) ?_ (by (try simp only [Int.toNat_natCast, Nat.mul_one, Nat.zero_add, Nat.add_zero, Nat.zero_mul, Int.reduceToNat, Nat.reduceAdd, Nat.reduceMul, Nat.reduceSub, Nat.sub_zero]); rfl)) ?_; (focus (first | assumption | omega | (dsimp only; first | assumption | omega) | (simp <;> omega) | (simp; done))))
          | (refine WL.r rfl rfl rfl (iaf rfl rfl rfl Try.underlying22 (by kernel_rfl : _ = some 1) ?_ ?_ (by (try simp only [Int.toNat_natCast, Nat.mul_one, Nat.zero_add, Nat.add_zero, Nat.zero_mul, Int.reduceToNat, Nat.reduceAdd, Nat.reduceMul, Nat.reduceSub, Nat.sub_zero]); rfl)) ?_; (focus (first | assumption | omega | (dsimp only; first | assumption | omega) | (simp <;> omega) | (simp; done))); (focus (first | (rw [List.length_map]; omega) | (rw [flatMap_len _ _ 1 (fun _ => rfl)]; omega) | (simp <;> omega))))
          | (refine WL.r rfl rfl rfl (iao rfl rfl rfl Try.underlying22 (by kernel_rfl : _ = some 1) ?_ ?_ (by (try simp only [Int.toNat_natCast, Nat.mul_one, Nat.zero_add, Nat.add_zero, Nat.zero_mul, Int.reduceToNat, Nat.reduceAdd, Nat.reduceMul, Nat.reduceSub, Nat.sub_zero]); rfl)) ?_; (focus (first | assumption | omega | (dsimp only; first | assumption | omega) | (simp <;> omega) | (simp; done))); (focus (first | (simp <;> omega) | (rw [List.length_append, List.length_map]; omega))))
        first
          | (refine WL.r rfl rfl rfl (ld rfl rfl .tc Try.underlying9 rfl (by rfl)) ?_)
          | (refine WL.r rfl rfl rfl (ldm rfl rfl Try.underlying9 rfl ?_) ?_; (focus (first | assumption | omega | (dsimp only; first | assumption | omega) | (simp <;> omega) | (simp; done))))
          | (refine WL.r rfl rfl rfl (ldom rfl rfl Try.underlying9 rfl ?_) ?_; (focus (first | assumption | omega | (dsimp only; first | assumption | omega) | (simp <;> omega) | (simp; done))))
          | (refine WL.r rfl rfl rfl (ldmf (sz := 1) _ 0 rfl rfl Try.underlying9 rfl (fun _ => rfl) rfl ?_ (by decide) rfl) ?_; (focus (first | assumption | omega | (dsimp only; first | assumption | omega) | (simp <;> omega) | (simp; done))))
        refine WL.r rfl rfl rfl (rd_slen rfl rfl Try.underlying9) ?_
        first
          | (refine WL.r rfl rfl rfl (rd_add64nl rfl rfl rfl ?_) ?_; (focus (first | assumption | omega | (dsimp only; first | assumption | omega) | (simp <;> omega) | (simp; done))))
          | (refine WL.r rfl rfl rfl (rd_add64 rfl rfl rfl ?_) ?_; (focus (first | assumption | omega | (dsimp only; first | assumption | omega) | (simp <;> omega) | (simp; done))))
        first
          | (refine WL.r rfl rfl rfl (rd_rem64n rfl rfl rfl ?_) ?_; (focus (first | assumption | omega | (dsimp only; first | assumption | omega) | (simp <;> omega) | (simp; done))))
          | (refine WL.r rfl rfl rfl (rd_rem64 rfl rfl rfl ?_) ?_; (focus (first | assumption | omega | (dsimp only; first | assumption | omega) | (simp <;> omega) | (simp; done))))
        obtain ⟨m, hm⟩ : ∃ m : Nat, m = bb % (((pd.map recO).getD n default).length + 1) := ⟨_, rfl⟩
        refine WL.set 122 rfl (v' := .int .i64 (m : Int)) (by rw [hm]) ?_
        have hml : m ≤ ((pd.map recO).getD n default).length := by have := Nat.mod_lt bb (show 0 < ((pd.map recO).getD n default).length + 1 by omega); omega
        refine WL.r rfl rfl rfl (rd_assign rfl rfl) ?_
        refine WL.nt ?_
        refine WC.sr ?_
        refine WL.r rfl rfl rfl (rd_move rfl rfl) ?_
        first
          | (refine WL.r rfl rfl rfl (rd_fa (q := 1) rfl rfl Try.underlying24 rfl (by kernel_rfl) rfl) ?_)
          | (refine WL.r rfl rfl rfl (faf (q' := 1) rfl rfl Try.underlying24 rfl (by kernel_rfl) rfl) ?_)
        first
          | (refine WL.r rfl rfl rfl (ld rfl rfl .tc Try.underlying22 rfl (by rfl)) ?_)
          | (refine WL.r rfl rfl rfl (ldm rfl rfl Try.underlying22 rfl ?_) ?_; (focus (first | assumption | omega | (dsimp only; first | assumption | omega) | (simp <;> omega) | (simp; done))))
          | (refine WL.r rfl rfl rfl (ldom rfl rfl Try.underlying22 rfl ?_) ?_; (focus (first | assumption | omega | (dsimp only; first | assumption | omega) | (simp <;> omega) | (simp; done))))
        refine WL.r rfl rfl rfl (rd_move rfl rfl) ?_
        first
          | (refine WL.r rfl rfl rfl (rd_ia rfl rfl rfl Try.underlying22 (by kernel_rfl : _ = some 1) ?_ (by (try simp only [Int.toNat_natCast, Nat.mul_one, Nat.zero_add, Nat.add_zero, Nat.zero_mul, Int.reduceToNat, Nat.reduceAdd, Nat.reduceMul, Nat.reduceSub, Nat.sub_zero]); rfl)) ?_; (focus (first | assumption | omega | (dsimp only; first | assumption | omega) | (simp <;> omega) | (simp; done))))
          | (refine WL.r rfl rfl rfl (iaf rfl rfl rfl Try.underlying22 (by kernel_rfl : _ = some 1) ?_ ?_ (by (try simp only [Int.toNat_natCast, Nat.mul_one, Nat.zero_add, Nat.add_zero, Nat.zero_mul, Int.reduceToNat, Nat.reduceAdd, Nat.reduceMul, Nat.reduceSub, Nat.sub_zero]); rfl)) ?_; (focus (first | assumption | omega | (dsimp only; first | assumption | omega) | (simp <;> omega) | (simp; done))); (focus (first | (rw [List.length_map]; omega) | (rw [flatMap_len _ _ 1 (fun _ => rfl)]; omega) | (simp <;> omega))))
          | (refine WL.r rfl rfl rfl (iao rfl rfl rfl Try.underlying22 (by kernel_rfl : _ = some 1) ?_ ?_ (by (try simp only [Int.toNat_natCast, Nat.mul_one, Nat.zero_add, Nat.add_zero, Nat.zero_mul, Int.reduceToNat, Nat.reduceAdd, Nat.reduceMul, Nat.reduceSub, Nat.sub_zero]); rfl)) ?_; (focus (first | assumption | omega | (dsimp only; first | assumption | omega) | (simp <;> omega) | (simp; done))); (focus (first | (simp <;> omega) | (rw [List.length_append, List.length_map]; omega))))
        first
          | (refine WL.r rfl rfl rfl (ld rfl rfl .tc Try.underlying9 rfl (by rfl)) ?_)
          | (refine WL.r rfl rfl rfl (ldm rfl rfl Try.underlying9 rfl ?_) ?_; (focus (first | assumption | omega | (dsimp only; first | assumption | omega) | (simp <;> omega) | (simp; done))))
          | (refine WL.r rfl rfl rfl (ldom rfl rfl Try.underlying9 rfl ?_) ?_; (focus (first | assumption | omega | (dsimp only; first | assumption | omega) | (simp <;> omega) | (simp; done))))
          | (refine WL.r rfl rfl rfl (ldmf (sz := 1) _ 0 rfl rfl Try.underlying9 rfl (fun _ => rfl) rfl ?_ (by decide) rfl) ?_; (focus (first | assumption | omega | (dsimp only; first | assumption | omega) | (simp <;> omega) | (simp; done))))
        refine WL.r rfl rfl rfl (rd_slen rfl rfl Try.underlying9) ?_
        refine WL.r rfl rfl rfl (rd_eql rfl rfl rfl) ?_
        refine WL.nt ?_
        refine WC.cond rfl (fun hc130 => ?_) (fun hc130 => ?_)
        · (try simp only [decide_eq_true_eq, decide_eq_false_iff_not, Bool.not_eq_true', Bool.not_eq_false', Bool.not_not, Int.not_lt, Int.not_le] at hc130)
          obtain ⟨L, hL⟩ : ∃ L : Nat, L = n + 1 := ⟨_, rfl⟩
          have hif : (if n < pd.length ∧ m = ((pd.map recO).getD n default).length then pd.take (n + 1) else pd.take n) = pd.take L := by rw [if_pos ⟨by omega, by omega⟩, hL]
          refine WC.region ?_
          refine WL.r rfl rfl rfl (rd_move rfl rfl) ?_
          refine WL.r rfl rfl rfl (rd_move rfl rfl) ?_
          first
            | (refine WL.r rfl rfl rfl (rd_add64nl rfl rfl rfl ?_) ?_; (focus (first | assumption | omega | (dsimp only; first | assumption | omega) | (simp <;> omega) | (simp; done))))
            | (refine WL.r rfl rfl rfl (rd_add64 rfl rfl rfl ?_) ?_; (focus (first | assumption | omega | (dsimp only; first | assumption | omega) | (simp <;> omega) | (simp; done))))
          refine WL.r rfl rfl rfl (rd_slt rfl rfl rfl Try.underlying48 (by kernel_rfl : _ = some 3) ?_ (by (try simp only [Int.toNat_natCast, Nat.mul_one, Nat.zero_add, Nat.add_zero, Nat.zero_mul, Int.reduceToNat, Nat.reduceAdd, Nat.reduceMul, Nat.reduceSub, Nat.sub_zero]); rfl)) ?_
          · first | assumption | omega | (dsimp only; first | assumption | omega) | (simp <;> omega) | (simp; done)
          refine WL.r rfl rfl rfl (rd_assign rfl rfl) ?_
          refine WL.nt ?_
          refine WC.seq ?_
          refine WC.sr ?_
          refine WL.r rfl rfl rfl (rd_assign rfl rfl) ?_
          refine WL.nt ?_
          refine WC.block ?_
          refine WC.loopO (σ := Nat × Rs) [(7, _), (9, _), (13, _), (14, _)] (fun g => [(8, g.2.val ((pd.take g.1).foldl afterE sf).length), (15, .int .i64 (g.1 : Int))]) (fun g => g.1 ≤ L) (fun g => L - g.1) (fun g => [⟨some b7, [.string (S B), qd.val (pd.map recO).length, .bool false], 24⟩]) (fun g => Fact.sl g.2.a (strs ((pd.take g.1).foldl afterE sf)) :: Fact.sl q9.a (pd.flatMap opC) :: Fact.sl qd.a (strs (pd.map recO)) :: Fact.sl p.a (p.l.flatMap opC) :: p.l.map opF) (0, q8) (sub_cons rfl (sub_cons rfl (sub_cons rfl (sub_cons rfl (sub_nil _))))) (sub_cons rfl (sub_cons rfl (sub_nil _))) (by (try dsimp only); exact Nat.zero_le _) (by exact fun w h => h.sub (List.Sublist.refl _) (fun f hf => by simp only [List.take_zero, List.foldl_nil, List.mem_cons] at hf ⊢; rcases hf with h | h | h | h | h <;> simp [h])) ?_
          rintro ⟨k, qs⟩ hinv3; (try dsimp only at hinv3 ⊢)
          obtain hk := hinv3
          refine WC.seq ?_
          refine WC.sr ?_
          refine WL.r rfl rfl rfl (rd_move rfl rfl) ?_
          refine WL.r rfl rfl rfl (rd_move rfl rfl) ?_
          refine WL.r rfl rfl rfl (rd_len rfl rfl Try.underlying48) ?_
          refine WL.r rfl rfl rfl (rd_lss rfl rfl rfl) ?_
          refine WL.nt ?_
          refine WC.cond rfl (fun hc141 => ?_) (fun hc141 => ?_)
          · (try simp only [decide_eq_true_eq, decide_eq_false_iff_not, Bool.not_eq_true', Bool.not_eq_false', Bool.not_not, Int.not_lt, Int.not_le] at hc141)
            have hk0 := fold_take pd sf k (by omega)
            have hk1 := getD_mem pd k (by omega)
            have hk2 := fold_len (pd.take k) sf (fun o h => hOp o (List.mem_of_mem_take h))
            have hk3 : (pd.take k).length ≤ k := by rw [List.length_take]; exact Nat.min_le_left _ _
            have hk4 := (hOp _ hk1).f.1
            refine WC.skip ?_
            refine WX.then_normal ?_
            refine WC.seq ?_
            refine WC.block ?_
            refine WC.region ?_
            refine WL.r rfl rfl rfl (rd_move rfl rfl) ?_
            refine WL.r rfl rfl rfl (rd_move rfl rfl) ?_
            refine WL.r rfl rfl rfl (rd_move rfl rfl) ?_
            refine WL.r rfl rfl rfl (iaf rfl rfl rfl Try.underlying48 (by kernel_rfl : _ = some 3) ?_ ?_ (by (try simp only [Int.toNat_natCast, Nat.mul_one, Nat.zero_add, Nat.add_zero, Nat.zero_mul, Int.reduceToNat, Nat.reduceAdd, Nat.reduceMul, Nat.reduceSub, Nat.sub_zero]); rfl)) ?_
            · first | assumption | omega | (dsimp only; first | assumption | omega) | (simp <;> omega) | (simp; done)
            · first | (rw [List.length_map]; omega) | (rw [flatMap_len _ _ 3 (fun _ => rfl)]; omega) | (simp <;> omega)
            first
              | (refine WL.r rfl rfl rfl (ldp rfl rfl .tc Try.underlying52 rfl (by kernel_rfl : _ = some 3) (by rfl) (by first | rfl | simp)) ?_)
              | (refine WL.r rfl rfl rfl (ldma _ rfl rfl Try.underlying52 rfl (by kernel_rfl : _ = some 3) (fun _ => rfl) (by decide) rfl ?_) ?_; (focus (first | assumption | omega | (dsimp only; first | assumption | omega) | (simp <;> omega) | (simp; done))))
            refine WL.g rfl rfl rfl (og_call rfl rfl (by kernel_rfl) (keep_f1 fun w hS => after_c (l := (pd.take k).foldl afterE sf) (o := pd.getD k default) hS.sl (hS.more (more := p.l.map opF) (opF (pd.getD k default)) (List.mem_map_of_mem (hpd _ hk1))) (by omega) (by omega))) ?_
            intro g149
            refine WL.pu ?_
            intro hg149; (try dsimp only at hg149 ⊢)
            refine WL.r rfl rfl rfl (rd_assign rfl rfl) ?_
            refine WL.nil ?_
            refine WX.block_normal ?_
            refine WX.then_normal ?_
            refine WC.region ?_
            refine WL.r rfl rfl rfl (rd_move rfl rfl) ?_
            first
              | (refine WL.r rfl rfl rfl (rd_add64nl rfl rfl rfl ?_) ?_; (focus (first | assumption | omega | (dsimp only; first | assumption | omega) | (simp <;> omega) | (simp; done))))
              | (refine WL.r rfl rfl rfl (rd_add64 rfl rfl rfl ?_) ?_; (focus (first | assumption | omega | (dsimp only; first | assumption | omega) | (simp <;> omega) | (simp; done))))
            refine WL.r rfl rfl rfl (rd_assign rfl rfl) ?_
            refine WL.nil ?_
            rw [← hk0]
            refine WX.loopO ((k + 1, g149)) (by (try dsimp only); omega) (sub_cons rfl (sub_cons rfl (sub_cons rfl (sub_cons rfl (sub_nil _))))) (by refine (sub_cons ?_ (sub_cons ?_ (sub_nil _))) <;> (first | rfl | (simp only [List.length_append, List.length_cons, List.length_nil, Nat.zero_add]; rfl) | (dsimp only; first | rfl | (congr 2; omega) | (congr 3; omega)))) ?_ (by first | exact fun _ h => h | exact st_sub)
            (try dsimp only)
            first | assumption | omega | (dsimp only; first | assumption | omega) | (simp <;> omega) | (simp; done)
          · (try simp only [decide_eq_true_eq, decide_eq_false_iff_not, Bool.not_eq_true', Bool.not_eq_false', Bool.not_not, Int.not_lt, Int.not_le] at hc141)
            refine WC.exit ?_
            refine WX.then_exit ?_
            refine WX.then_exit ?_
            refine WX.block_exit ?_
            obtain rfl : k = L := by omega
            obtain ⟨s2, hopn⟩ := crash_ops (n := n) (m := m) hOp hR (by omega) (by omega) hnl hml
            rw [hif] at hopn
            have hff := fold_len (pd.take k) sf (fun o h => hOp o (List.mem_of_mem_take h))
            have hfk : (pd.take k).length ≤ 14 := by rw [List.length_take]; exact Nat.le_trans (Nat.min_le_right _ _) hil
            have hcr : crashD ⟨B, pd.map recO, false⟩ (n : Int) (m : Int) = (⟨B ++ ((pd.map recO).take n).flatten ++ ((pd.map recO).getD n default).take m, [], true⟩, 0) := by
              rw [crashD, if_neg (by simp), if_neg (by simp only [hpl]; omega), Int.toNat_natCast, Int.toNat_natCast, if_neg (by simp only; omega)]
            have hxl : (B ++ ((pd.map recO).take n).flatten ++ ((pd.map recO).getD n default).take m).length ≤ 1000000 := by
              rw [List.length_append, List.length_append]
              have h1 := flat_take_le (pd.map recO) n
              have h2 : (((pd.map recO).getD n default).take m).length ≤ ((pd.map recO).getD n default).length := by rw [List.length_take]; exact Nat.min_le_right _ _
              have h3 := getD_flat_le (pd.map recO) n
              omega
            generalize (B ++ ((pd.map recO).take n).flatten ++ ((pd.map recO).getD n default).take m) = X at *
            generalize (pd.take k).foldl afterE sf = Y at *
            refine WX.then_normal ?_
            refine WC.sr ?_
            refine WL.r rfl rfl rfl (lda rfl rfl .tc Try.underlying24 rfl ?_) ?_
            · kernel_rfl
            refine WL.r rfl rfl rfl (rd_move rfl rfl) ?_
            refine WL.r rfl rfl rfl (rd_move rfl rfl) ?_
            refine WL.g rfl rfl rfl (og_call rfl rfl (by kernel_rfl) (keep_f1 (val := fun g => DE (⟨X, [], true⟩, 0) (g.val 0)) (p := fun g => g.cap = 0 + g.sp.length) (xs := []) (T := 9) fun w hS => (by have := crash_c (d := ⟨B, pd.map recO, false⟩) (kept := (n : Int)) (bytes := (m : Int)) (a := qd.a) (cap := qd.cap) (w := w) hS.sl (by dsimp only; omega) (by dsimp only; omega) (by dsimp only; omega) (by dsimp only; omega); rw [hcr] at this; exact this))) ?_
            intro g150; refine WL.pu ?_; intro hg150
            refine WL.r rfl rfl rfl (rd_move rfl rfl) ?_
            refine WL.r rfl rfl rfl (rd_extL rfl rfl rfl) ?_
            refine WL.r rfl rfl rfl (rd_extL rfl rfl rfl) ?_
            refine WL.g rfl rfl rfl (og_alloc rfl (v := (.agg #[.string (S []), .slice none 0 0, .bool false])) (cs := [.string (S []), .slice none 0 0, .bool false]) (by kernel_rfl) rfl) ?_
            intro b16
            refine WL.g0 rfl rfl (sta rfl rfl rfl .tc ?_ ?_ ?_) ?_
            · kernel_rfl
            · simp [Value.oneCell']
            · first | rfl | simp
            intro _
            refine WL.r rfl rfl rfl (rd_assign rfl rfl) ?_
            refine WL.nt ?_
            refine WC.sr ?_
            refine WL.r rfl rfl rfl (lda rfl rfl .tc Try.underlying24 rfl ?_) ?_
            · kernel_rfl
            refine WL.g rfl rfl rfl (og_call rfl rfl (by kernel_rfl) (keep_f1 (val := fun g => .tuple #[g.val Y.length, .agg #[.string (S s2), .slice none 0 0, .bool false], .int .i64 0]) (p := fun g => g.cap = Y.length + g.sp.length) (xs := strs Y) (T := 9) fun w hS => (by have := open_c (d := ⟨X, [], true⟩) (a := g150.a) (cap := g150.cap) (w := w) sl_nil (by dsimp only; omega) (by simp); rw [hopn] at this; exact this))) ?_
            intro g157; refine WL.pu ?_; intro hg157
            refine WL.r rfl rfl rfl (rd_move rfl rfl) ?_
            refine WL.r rfl rfl rfl (rd_extL rfl rfl rfl) ?_
            refine WL.r rfl rfl rfl (rd_extL rfl rfl rfl) ?_
            refine WL.r rfl rfl rfl (rd_extL rfl rfl rfl) ?_
            refine WL.g rfl rfl rfl (og_alloc rfl (v := (.agg #[.string (S []), .slice none 0 0, .bool false])) (cs := [.string (S []), .slice none 0 0, .bool false]) (by kernel_rfl) rfl) ?_
            intro b19
            refine WL.r rfl rfl rfl (rd_assign rfl rfl) ?_
            refine WL.g0 rfl rfl (sta rfl rfl rfl .tc ?_ ?_ ?_) ?_
            · kernel_rfl
            · simp [Value.oneCell']
            · first | rfl | simp
            intro _
            refine WL.r rfl rfl rfl (rd_assign rfl rfl) ?_
            refine WL.nt ?_
            refine WC.sr ?_
            refine WL.r rfl rfl rfl (lda rfl rfl .tc Try.underlying24 rfl ?_) ?_
            · kernel_rfl
            refine WL.g rfl rfl rfl (og_call rfl rfl (by kernel_rfl) (keep_f1 (val := fun g => DE (.zero, 27) (g.val 0)) (p := fun g => g.cap = 0 + g.sp.length) (xs := []) (T := 9) fun w hS => (by have := append_c (d := ⟨X, [], true⟩) (t := []) (a := g150.a) (cap := g150.cap) (w := w) sl_nil (by simp); rw [appendD, if_pos rfl] at this; exact this))) ?_
            intro g163; refine WL.pu ?_; intro hg163
            refine WL.r rfl rfl rfl (rd_move rfl rfl) ?_
            refine WL.r rfl rfl rfl (rd_extL rfl rfl rfl) ?_
            refine WL.r rfl rfl rfl (rd_extL rfl rfl rfl) ?_
            refine WL.g rfl rfl rfl (og_alloc rfl (v := (.agg #[.string (S []), .slice none 0 0, .bool false])) (cs := [.string (S []), .slice none 0 0, .bool false]) (by kernel_rfl) rfl) ?_
            intro b21
            refine WL.g0 rfl rfl (sta rfl rfl rfl .tc ?_ ?_ ?_) ?_
            · kernel_rfl
            · simp [Value.oneCell']
            · first | rfl | simp
            intro _
            refine WL.r rfl rfl rfl (rd_assign rfl rfl) ?_
            refine WL.nt ?_
            refine WC.sr ?_
            refine WL.g rfl rfl rfl (og_call rfl rfl (by kernel_rfl) (keep_val fun w hS => awake_c)) ?_
            intro _
            refine WL.r rfl rfl rfl (rd_move rfl rfl) ?_
            refine WL.set 169 rfl (v' := .bool true) (by first | rfl | exact congrArg Value.bool (by simp [*]; done) | exact congrArg Value.bool (by simp; omega)) ?_
            refine WL.r rfl rfl rfl (rd_move rfl rfl) ?_
            refine WL.r rfl rfl rfl (rd_eql rfl rfl rfl) ?_
            refine WL.r rfl rfl rfl (rd_pickt rfl rfl rfl) ?_
            refine WL.r rfl rfl rfl (rd_move rfl rfl) ?_
            refine WL.set 173 rfl (v' := .bool true) (by first | rfl | exact congrArg Value.bool (by simp [*]; done) | exact congrArg Value.bool (by simp; omega)) ?_
            refine WL.r rfl rfl rfl (rd_move rfl rfl) ?_
            refine WL.r rfl rfl rfl (rd_eql rfl rfl rfl) ?_
            refine WL.r rfl rfl rfl (rd_pickt rfl rfl rfl) ?_
            refine WL.r rfl rfl rfl (rd_move rfl rfl) ?_
            refine WL.set 177 rfl (v' := .bool true) (by first | rfl | exact congrArg Value.bool (by simp [*]; done) | exact congrArg Value.bool (by simp; omega)) ?_
            refine WL.r rfl rfl rfl (rd_move rfl rfl) ?_
            refine WL.r rfl rfl rfl (rd_move rfl rfl) ?_
            refine WL.g rfl rfl rfl (og_call rfl rfl (by kernel_rfl) (keep_val fun w hS => same_c (l := Y) (m := Y) (by first | exact hS.sl | exact hS.os | exact hS.oc | exact sl_takeM _ hS.sl | exact sl_dropM _ hS.sl | exact sl_cutM _ (by omega) hS.sl | exact sl_nil) (by first | exact hS.sl | exact hS.os | exact hS.oc | exact sl_takeM _ hS.sl | exact sl_dropM _ hS.sl | exact sl_cutM _ (by omega) hS.sl | exact sl_nil) (by omega) (by omega))) ?_
            intro _
            refine WL.r rfl rfl rfl (rd_pickt rfl rfl rfl) ?_
            refine WL.r rfl rfl rfl (rd_move rfl rfl) ?_
            refine WL.set 182 rfl (v' := .bool true) (by first | rfl | exact congrArg Value.bool (by simp [*]; done) | exact congrArg Value.bool (by simp; omega)) ?_
            first
              | (refine WL.r rfl rfl rfl (rd_fa (q := 2) rfl rfl Try.underlying24 rfl (by kernel_rfl) rfl) ?_)
              | (refine WL.r rfl rfl rfl (faf (q' := 2) rfl rfl Try.underlying24 rfl (by kernel_rfl) rfl) ?_)
            first
              | (refine WL.r rfl rfl rfl (ld rfl rfl .tc Try.underlying4 rfl (by rfl)) ?_)
              | (refine WL.r rfl rfl rfl (ldm rfl rfl Try.underlying4 rfl ?_) ?_; (focus (first | assumption | omega | (dsimp only; first | assumption | omega) | (simp <;> omega) | (simp; done))))
              | (refine WL.r rfl rfl rfl (ldom rfl rfl Try.underlying4 rfl ?_) ?_; (focus (first | assumption | omega | (dsimp only; first | assumption | omega) | (simp <;> omega) | (simp; done))))
            refine WL.r rfl rfl rfl (rd_pickt rfl rfl rfl) ?_
            refine WL.r rfl rfl rfl (rd_move rfl rfl) ?_
            refine WL.set 186 rfl (v' := .bool true) (by first | rfl | exact congrArg Value.bool (by simp [*]; done) | exact congrArg Value.bool (by simp; omega)) ?_
            refine WL.r rfl rfl rfl (rd_move rfl rfl) ?_
            refine WL.r rfl rfl rfl (rd_eql rfl rfl rfl) ?_
            refine WL.r rfl rfl rfl (rd_pickt rfl rfl rfl) ?_
            refine WL.r rfl rfl rfl (rd_assign rfl rfl) ?_
            refine WL.nt ?_
            refine WC.ret ?_
            exact WX.retN rfl (.tmp rfl .nil) fun w' hS => ⟨by first | rfl | (simp [tup]; done) | (simp [*, tup]; done), hS.below⟩
        · (try simp only [decide_eq_true_eq, decide_eq_false_iff_not, Bool.not_eq_true', Bool.not_eq_false', Bool.not_not, Int.not_lt, Int.not_le] at hc130)
          obtain ⟨L, hL⟩ : ∃ L : Nat, L = n := ⟨_, rfl⟩
          have hif : (if n < pd.length ∧ m = ((pd.map recO).getD n default).length then pd.take (n + 1) else pd.take n) = pd.take L := by rw [if_neg (fun h => hc130 (by rw [h.2])), hL]
          refine WC.region ?_
          refine WL.r rfl rfl rfl (rd_move rfl rfl) ?_
          refine WL.r rfl rfl rfl (rd_move rfl rfl) ?_
          refine WL.r rfl rfl rfl (rd_slt rfl rfl rfl Try.underlying48 (by kernel_rfl : _ = some 3) ?_ (by (try simp only [Int.toNat_natCast, Nat.mul_one, Nat.zero_add, Nat.add_zero, Nat.zero_mul, Int.reduceToNat, Nat.reduceAdd, Nat.reduceMul, Nat.reduceSub, Nat.sub_zero]); rfl)) ?_
          · first | assumption | omega | (dsimp only; first | assumption | omega) | (simp <;> omega) | (simp; done)
          refine WL.r rfl rfl rfl (rd_assign rfl rfl) ?_
          refine WL.nt ?_
          refine WC.seq ?_
          refine WC.sr ?_
          refine WL.r rfl rfl rfl (rd_assign rfl rfl) ?_
          refine WL.nt ?_
          refine WC.block ?_
          refine WC.loopO (σ := Nat × Rs) [(7, _), (9, _), (13, _), (14, _)] (fun g => [(8, g.2.val ((pd.take g.1).foldl afterE sf).length), (15, .int .i64 (g.1 : Int))]) (fun g => g.1 ≤ L) (fun g => L - g.1) (fun g => [⟨some b7, [.string (S B), qd.val (pd.map recO).length, .bool false], 24⟩]) (fun g => Fact.sl g.2.a (strs ((pd.take g.1).foldl afterE sf)) :: Fact.sl q9.a (pd.flatMap opC) :: Fact.sl qd.a (strs (pd.map recO)) :: Fact.sl p.a (p.l.flatMap opC) :: p.l.map opF) (0, q8) (sub_cons rfl (sub_cons rfl (sub_cons rfl (sub_cons rfl (sub_nil _))))) (sub_cons rfl (sub_cons rfl (sub_nil _))) (by (try dsimp only); exact Nat.zero_le _) (by exact fun w h => h.sub (List.Sublist.refl _) (fun f hf => by simp only [List.take_zero, List.foldl_nil, List.mem_cons] at hf ⊢; rcases hf with h | h | h | h | h <;> simp [h])) ?_
          rintro ⟨k, qs⟩ hinv3; (try dsimp only at hinv3 ⊢)
          obtain hk := hinv3
          refine WC.seq ?_
          refine WC.sr ?_
          refine WL.r rfl rfl rfl (rd_move rfl rfl) ?_
          refine WL.r rfl rfl rfl (rd_move rfl rfl) ?_
          refine WL.r rfl rfl rfl (rd_len rfl rfl Try.underlying48) ?_
          refine WL.r rfl rfl rfl (rd_lss rfl rfl rfl) ?_
          refine WL.nt ?_
          refine WC.cond rfl (fun hc141 => ?_) (fun hc141 => ?_)
          · (try simp only [decide_eq_true_eq, decide_eq_false_iff_not, Bool.not_eq_true', Bool.not_eq_false', Bool.not_not, Int.not_lt, Int.not_le] at hc141)
            have hk0 := fold_take pd sf k (by omega)
            have hk1 := getD_mem pd k (by omega)
            have hk2 := fold_len (pd.take k) sf (fun o h => hOp o (List.mem_of_mem_take h))
            have hk3 : (pd.take k).length ≤ k := by rw [List.length_take]; exact Nat.min_le_left _ _
            have hk4 := (hOp _ hk1).f.1
            refine WC.skip ?_
            refine WX.then_normal ?_
            refine WC.seq ?_
            refine WC.block ?_
            refine WC.region ?_
            refine WL.r rfl rfl rfl (rd_move rfl rfl) ?_
            refine WL.r rfl rfl rfl (rd_move rfl rfl) ?_
            refine WL.r rfl rfl rfl (rd_move rfl rfl) ?_
            refine WL.r rfl rfl rfl (iaf rfl rfl rfl Try.underlying48 (by kernel_rfl : _ = some 3) ?_ ?_ (by (try simp only [Int.toNat_natCast, Nat.mul_one, Nat.zero_add, Nat.add_zero, Nat.zero_mul, Int.reduceToNat, Nat.reduceAdd, Nat.reduceMul, Nat.reduceSub, Nat.sub_zero]); rfl)) ?_
            · first | assumption | omega | (dsimp only; first | assumption | omega) | (simp <;> omega) | (simp; done)
            · first | (rw [List.length_map]; omega) | (rw [flatMap_len _ _ 3 (fun _ => rfl)]; omega) | (simp <;> omega)
            first
              | (refine WL.r rfl rfl rfl (ldp rfl rfl .tc Try.underlying52 rfl (by kernel_rfl : _ = some 3) (by rfl) (by first | rfl | simp)) ?_)
              | (refine WL.r rfl rfl rfl (ldma _ rfl rfl Try.underlying52 rfl (by kernel_rfl : _ = some 3) (fun _ => rfl) (by decide) rfl ?_) ?_; (focus (first | assumption | omega | (dsimp only; first | assumption | omega) | (simp <;> omega) | (simp; done))))
            refine WL.g rfl rfl rfl (og_call rfl rfl (by kernel_rfl) (keep_f1 fun w hS => after_c (l := (pd.take k).foldl afterE sf) (o := pd.getD k default) hS.sl (hS.more (more := p.l.map opF) (opF (pd.getD k default)) (List.mem_map_of_mem (hpd _ hk1))) (by omega) (by omega))) ?_
            intro g149
            refine WL.pu ?_
            intro hg149; (try dsimp only at hg149 ⊢)
            refine WL.r rfl rfl rfl (rd_assign rfl rfl) ?_
            refine WL.nil ?_
            refine WX.block_normal ?_
            refine WX.then_normal ?_
            refine WC.region ?_
            refine WL.r rfl rfl rfl (rd_move rfl rfl) ?_
            first
              | (refine WL.r rfl rfl rfl (rd_add64nl rfl rfl rfl ?_) ?_; (focus (first | assumption | omega | (dsimp only; first | assumption | omega) | (simp <;> omega) | (simp; done))))
              | (refine WL.r rfl rfl rfl (rd_add64 rfl rfl rfl ?_) ?_; (focus (first | assumption | omega | (dsimp only; first | assumption | omega) | (simp <;> omega) | (simp; done))))
            refine WL.r rfl rfl rfl (rd_assign rfl rfl) ?_
            refine WL.nil ?_
            rw [← hk0]
            refine WX.loopO ((k + 1, g149)) (by (try dsimp only); omega) (sub_cons rfl (sub_cons rfl (sub_cons rfl (sub_cons rfl (sub_nil _))))) (by refine (sub_cons ?_ (sub_cons ?_ (sub_nil _))) <;> (first | rfl | (simp only [List.length_append, List.length_cons, List.length_nil, Nat.zero_add]; rfl) | (dsimp only; first | rfl | (congr 2; omega) | (congr 3; omega)))) ?_ (by first | exact fun _ h => h | exact st_sub)
            (try dsimp only)
            first | assumption | omega | (dsimp only; first | assumption | omega) | (simp <;> omega) | (simp; done)
          · (try simp only [decide_eq_true_eq, decide_eq_false_iff_not, Bool.not_eq_true', Bool.not_eq_false', Bool.not_not, Int.not_lt, Int.not_le] at hc141)
            refine WC.exit ?_
            refine WX.then_exit ?_
            refine WX.then_exit ?_
            refine WX.block_exit ?_
            obtain rfl : k = L := by omega
            obtain ⟨s2, hopn⟩ := crash_ops (n := n) (m := m) hOp hR (by omega) (by omega) hnl hml
            rw [hif] at hopn
            have hff := fold_len (pd.take k) sf (fun o h => hOp o (List.mem_of_mem_take h))
            have hfk : (pd.take k).length ≤ 14 := by rw [List.length_take]; exact Nat.le_trans (Nat.min_le_right _ _) hil
            have hcr : crashD ⟨B, pd.map recO, false⟩ (n : Int) (m : Int) = (⟨B ++ ((pd.map recO).take n).flatten ++ ((pd.map recO).getD n default).take m, [], true⟩, 0) := by
              rw [crashD, if_neg (by simp), if_neg (by simp only [hpl]; omega), Int.toNat_natCast, Int.toNat_natCast, if_neg (by simp only; omega)]
            have hxl : (B ++ ((pd.map recO).take n).flatten ++ ((pd.map recO).getD n default).take m).length ≤ 1000000 := by
              rw [List.length_append, List.length_append]
              have h1 := flat_take_le (pd.map recO) n
              have h2 : (((pd.map recO).getD n default).take m).length ≤ ((pd.map recO).getD n default).length := by rw [List.length_take]; exact Nat.min_le_right _ _
              have h3 := getD_flat_le (pd.map recO) n
              omega
            generalize (B ++ ((pd.map recO).take n).flatten ++ ((pd.map recO).getD n default).take m) = X at *
            generalize (pd.take k).foldl afterE sf = Y at *
            refine WX.then_normal ?_
            refine WC.sr ?_
            refine WL.r rfl rfl rfl (lda rfl rfl .tc Try.underlying24 rfl ?_) ?_
            · kernel_rfl
            refine WL.r rfl rfl rfl (rd_move rfl rfl) ?_
            refine WL.r rfl rfl rfl (rd_move rfl rfl) ?_
            refine WL.g rfl rfl rfl (og_call rfl rfl (by kernel_rfl) (keep_f1 (val := fun g => DE (⟨X, [], true⟩, 0) (g.val 0)) (p := fun g => g.cap = 0 + g.sp.length) (xs := []) (T := 9) fun w hS => (by have := crash_c (d := ⟨B, pd.map recO, false⟩) (kept := (n : Int)) (bytes := (m : Int)) (a := qd.a) (cap := qd.cap) (w := w) hS.sl (by dsimp only; omega) (by dsimp only; omega) (by dsimp only; omega) (by dsimp only; omega); rw [hcr] at this; exact this))) ?_
            intro g150; refine WL.pu ?_; intro hg150
            refine WL.r rfl rfl rfl (rd_move rfl rfl) ?_
            refine WL.r rfl rfl rfl (rd_extL rfl rfl rfl) ?_
            refine WL.r rfl rfl rfl (rd_extL rfl rfl rfl) ?_
            refine WL.g rfl rfl rfl (og_alloc rfl (v := (.agg #[.string (S []), .slice none 0 0, .bool false])) (cs := [.string (S []), .slice none 0 0, .bool false]) (by kernel_rfl) rfl) ?_
            intro b16
            refine WL.g0 rfl rfl (sta rfl rfl rfl .tc ?_ ?_ ?_) ?_
            · kernel_rfl
            · simp [Value.oneCell']
            · first | rfl | simp
            intro _
            refine WL.r rfl rfl rfl (rd_assign rfl rfl) ?_
            refine WL.nt ?_
            refine WC.sr ?_
            refine WL.r rfl rfl rfl (lda rfl rfl .tc Try.underlying24 rfl ?_) ?_
            · kernel_rfl
            refine WL.g rfl rfl rfl (og_call rfl rfl (by kernel_rfl) (keep_f1 (val := fun g => .tuple #[g.val Y.length, .agg #[.string (S s2), .slice none 0 0, .bool false], .int .i64 0]) (p := fun g => g.cap = Y.length + g.sp.length) (xs := strs Y) (T := 9) fun w hS => (by have := open_c (d := ⟨X, [], true⟩) (a := g150.a) (cap := g150.cap) (w := w) sl_nil (by dsimp only; omega) (by simp); rw [hopn] at this; exact this))) ?_
            intro g157; refine WL.pu ?_; intro hg157
            refine WL.r rfl rfl rfl (rd_move rfl rfl) ?_
            refine WL.r rfl rfl rfl (rd_extL rfl rfl rfl) ?_
            refine WL.r rfl rfl rfl (rd_extL rfl rfl rfl) ?_
            refine WL.r rfl rfl rfl (rd_extL rfl rfl rfl) ?_
            refine WL.g rfl rfl rfl (og_alloc rfl (v := (.agg #[.string (S []), .slice none 0 0, .bool false])) (cs := [.string (S []), .slice none 0 0, .bool false]) (by kernel_rfl) rfl) ?_
            intro b19
            refine WL.r rfl rfl rfl (rd_assign rfl rfl) ?_
            refine WL.g0 rfl rfl (sta rfl rfl rfl .tc ?_ ?_ ?_) ?_
            · kernel_rfl
            · simp [Value.oneCell']
            · first | rfl | simp
            intro _
            refine WL.r rfl rfl rfl (rd_assign rfl rfl) ?_
            refine WL.nt ?_
            refine WC.sr ?_
            refine WL.r rfl rfl rfl (lda rfl rfl .tc Try.underlying24 rfl ?_) ?_
            · kernel_rfl
            refine WL.g rfl rfl rfl (og_call rfl rfl (by kernel_rfl) (keep_f1 (val := fun g => DE (.zero, 27) (g.val 0)) (p := fun g => g.cap = 0 + g.sp.length) (xs := []) (T := 9) fun w hS => (by have := append_c (d := ⟨X, [], true⟩) (t := []) (a := g150.a) (cap := g150.cap) (w := w) sl_nil (by simp); rw [appendD, if_pos rfl] at this; exact this))) ?_
            intro g163; refine WL.pu ?_; intro hg163
            refine WL.r rfl rfl rfl (rd_move rfl rfl) ?_
            refine WL.r rfl rfl rfl (rd_extL rfl rfl rfl) ?_
            refine WL.r rfl rfl rfl (rd_extL rfl rfl rfl) ?_
            refine WL.g rfl rfl rfl (og_alloc rfl (v := (.agg #[.string (S []), .slice none 0 0, .bool false])) (cs := [.string (S []), .slice none 0 0, .bool false]) (by kernel_rfl) rfl) ?_
            intro b21
            refine WL.g0 rfl rfl (sta rfl rfl rfl .tc ?_ ?_ ?_) ?_
            · kernel_rfl
            · simp [Value.oneCell']
            · first | rfl | simp
            intro _
            refine WL.r rfl rfl rfl (rd_assign rfl rfl) ?_
            refine WL.nt ?_
            refine WC.sr ?_
            refine WL.g rfl rfl rfl (og_call rfl rfl (by kernel_rfl) (keep_val fun w hS => awake_c)) ?_
            intro _
            refine WL.r rfl rfl rfl (rd_move rfl rfl) ?_
            refine WL.set 169 rfl (v' := .bool true) (by first | rfl | exact congrArg Value.bool (by simp [*]; done) | exact congrArg Value.bool (by simp; omega)) ?_
            refine WL.r rfl rfl rfl (rd_move rfl rfl) ?_
            refine WL.r rfl rfl rfl (rd_eql rfl rfl rfl) ?_
            refine WL.r rfl rfl rfl (rd_pickt rfl rfl rfl) ?_
            refine WL.r rfl rfl rfl (rd_move rfl rfl) ?_
            refine WL.set 173 rfl (v' := .bool true) (by first | rfl | exact congrArg Value.bool (by simp [*]; done) | exact congrArg Value.bool (by simp; omega)) ?_
            refine WL.r rfl rfl rfl (rd_move rfl rfl) ?_
            refine WL.r rfl rfl rfl (rd_eql rfl rfl rfl) ?_
            refine WL.r rfl rfl rfl (rd_pickt rfl rfl rfl) ?_
            refine WL.r rfl rfl rfl (rd_move rfl rfl) ?_
            refine WL.set 177 rfl (v' := .bool true) (by first | rfl | exact congrArg Value.bool (by simp [*]; done) | exact congrArg Value.bool (by simp; omega)) ?_
            refine WL.r rfl rfl rfl (rd_move rfl rfl) ?_
            refine WL.r rfl rfl rfl (rd_move rfl rfl) ?_
            refine WL.g rfl rfl rfl (og_call rfl rfl (by kernel_rfl) (keep_val fun w hS => same_c (l := Y) (m := Y) (by first | exact hS.sl | exact hS.os | exact hS.oc | exact sl_takeM _ hS.sl | exact sl_dropM _ hS.sl | exact sl_cutM _ (by omega) hS.sl | exact sl_nil) (by first | exact hS.sl | exact hS.os | exact hS.oc | exact sl_takeM _ hS.sl | exact sl_dropM _ hS.sl | exact sl_cutM _ (by omega) hS.sl | exact sl_nil) (by omega) (by omega))) ?_
            intro _
            refine WL.r rfl rfl rfl (rd_pickt rfl rfl rfl) ?_
            refine WL.r rfl rfl rfl (rd_move rfl rfl) ?_
            refine WL.set 182 rfl (v' := .bool true) (by first | rfl | exact congrArg Value.bool (by simp [*]; done) | exact congrArg Value.bool (by simp; omega)) ?_
            first
              | (refine WL.r rfl rfl rfl (rd_fa (q := 2) rfl rfl Try.underlying24 rfl (by kernel_rfl) rfl) ?_)
              | (refine WL.r rfl rfl rfl (faf (q' := 2) rfl rfl Try.underlying24 rfl (by kernel_rfl) rfl) ?_)
            first
              | (refine WL.r rfl rfl rfl (ld rfl rfl .tc Try.underlying4 rfl (by rfl)) ?_)
              | (refine WL.r rfl rfl rfl (ldm rfl rfl Try.underlying4 rfl ?_) ?_; (focus (first | assumption | omega | (dsimp only; first | assumption | omega) | (simp <;> omega) | (simp; done))))
              | (refine WL.r rfl rfl rfl (ldom rfl rfl Try.underlying4 rfl ?_) ?_; (focus (first | assumption | omega | (dsimp only; first | assumption | omega) | (simp <;> omega) | (simp; done))))
            refine WL.r rfl rfl rfl (rd_pickt rfl rfl rfl) ?_
            refine WL.r rfl rfl rfl (rd_move rfl rfl) ?_
            refine WL.set 186 rfl (v' := .bool true) (by first | rfl | exact congrArg Value.bool (by simp [*]; done) | exact congrArg Value.bool (by simp; omega)) ?_
            refine WL.r rfl rfl rfl (rd_move rfl rfl) ?_
            refine WL.r rfl rfl rfl (rd_eql rfl rfl rfl) ?_
            refine WL.r rfl rfl rfl (rd_pickt rfl rfl rfl) ?_
            refine WL.r rfl rfl rfl (rd_assign rfl rfl) ?_
            refine WL.nt ?_
            refine WC.ret ?_
            exact WX.retN rfl (.tmp rfl .nil) fun w' hS => ⟨by first | rfl | (simp [tup]; done) | (simp [*, tup]; done), hS.below⟩
      · (try simp only [decide_eq_true_eq, decide_eq_false_iff_not, Bool.not_eq_true', Bool.not_eq_false', Bool.not_not, Int.not_lt, Int.not_le] at hc112)
        obtain ⟨m, hm⟩ : ∃ m : Nat, m = 0 := ⟨_, rfl⟩
        refine WC.set 14 rfl (v' := .int .i64 (m : Int)) (by rw [hm]; rfl) ?_
        have hml : m ≤ ((pd.map recO).getD n default).length := by omega
        obtain ⟨L, hL⟩ : ∃ L : Nat, L = n := ⟨_, rfl⟩
        have hif : (if n < pd.length ∧ m = ((pd.map recO).getD n default).length then pd.take (n + 1) else pd.take n) = pd.take L := by rw [if_neg (fun h => by omega), hL]
        refine WC.skip ?_
        refine WX.then_normal ?_
        refine WC.seq ?_
        refine WC.sr ?_
        refine WL.r rfl rfl rfl (rd_assign rfl rfl) ?_
        refine WL.nt ?_
        refine WC.block ?_
        refine WC.loopO (σ := Nat × Rs) [(7, _), (9, _), (13, _), (14, _)] (fun g => [(8, g.2.val ((pd.take g.1).foldl afterE sf).length), (15, .int .i64 (g.1 : Int))]) (fun g => g.1 ≤ L) (fun g => L - g.1) (fun g => [⟨some b7, [.string (S B), qd.val (pd.map recO).length, .bool false], 24⟩]) (fun g => Fact.sl g.2.a (strs ((pd.take g.1).foldl afterE sf)) :: Fact.sl q9.a (pd.flatMap opC) :: Fact.sl qd.a (strs (pd.map recO)) :: Fact.sl p.a (p.l.flatMap opC) :: p.l.map opF) (0, q8) (sub_cons rfl (sub_cons rfl (sub_cons rfl (sub_cons rfl (sub_nil _))))) (sub_cons rfl (sub_cons rfl (sub_nil _))) (by (try dsimp only); exact Nat.zero_le _) (by exact fun w h => h.sub (List.Sublist.refl _) (fun f hf => by simp only [List.take_zero, List.foldl_nil, List.mem_cons] at hf ⊢; rcases hf with h | h | h | h | h <;> simp [h])) ?_
        rintro ⟨k, qs⟩ hinv3; (try dsimp only at hinv3 ⊢)
        obtain hk := hinv3
        refine WC.seq ?_
        refine WC.sr ?_
        refine WL.r rfl rfl rfl (rd_move rfl rfl) ?_
        refine WL.r rfl rfl rfl (rd_move rfl rfl) ?_
        refine WL.r rfl rfl rfl (rd_len rfl rfl Try.underlying48) ?_
        refine WL.r rfl rfl rfl (rd_lss rfl rfl rfl) ?_
        refine WL.nt ?_
        refine WC.cond rfl (fun hc141 => ?_) (fun hc141 => ?_)
        · (try simp only [decide_eq_true_eq, decide_eq_false_iff_not, Bool.not_eq_true', Bool.not_eq_false', Bool.not_not, Int.not_lt, Int.not_le] at hc141)
          have hk0 := fold_take pd sf k (by omega)
          have hk1 := getD_mem pd k (by omega)
          have hk2 := fold_len (pd.take k) sf (fun o h => hOp o (List.mem_of_mem_take h))
          have hk3 : (pd.take k).length ≤ k := by rw [List.length_take]; exact Nat.min_le_left _ _
          have hk4 := (hOp _ hk1).f.1
          refine WC.skip ?_
          refine WX.then_normal ?_
          refine WC.seq ?_
          refine WC.block ?_
          refine WC.region ?_
          refine WL.r rfl rfl rfl (rd_move rfl rfl) ?_
          refine WL.r rfl rfl rfl (rd_move rfl rfl) ?_
          refine WL.r rfl rfl rfl (rd_move rfl rfl) ?_
          refine WL.r rfl rfl rfl (iaf rfl rfl rfl Try.underlying48 (by kernel_rfl : _ = some 3) ?_ ?_ (by (try simp only [Int.toNat_natCast, Nat.mul_one, Nat.zero_add, Nat.add_zero, Nat.zero_mul, Int.reduceToNat, Nat.reduceAdd, Nat.reduceMul, Nat.reduceSub, Nat.sub_zero]); rfl)) ?_
          · first | assumption | omega | (dsimp only; first | assumption | omega) | (simp <;> omega) | (simp; done)
          · first | (rw [List.length_map]; omega) | (rw [flatMap_len _ _ 3 (fun _ => rfl)]; omega) | (simp <;> omega)
          first
            | (refine WL.r rfl rfl rfl (ldp rfl rfl .tc Try.underlying52 rfl (by kernel_rfl : _ = some 3) (by rfl) (by first | rfl | simp)) ?_)
            | (refine WL.r rfl rfl rfl (ldma _ rfl rfl Try.underlying52 rfl (by kernel_rfl : _ = some 3) (fun _ => rfl) (by decide) rfl ?_) ?_; (focus (first | assumption | omega | (dsimp only; first | assumption | omega) | (simp <;> omega) | (simp; done))))
          refine WL.g rfl rfl rfl (og_call rfl rfl (by kernel_rfl) (keep_f1 fun w hS => after_c (l := (pd.take k).foldl afterE sf) (o := pd.getD k default) hS.sl (hS.more (more := p.l.map opF) (opF (pd.getD k default)) (List.mem_map_of_mem (hpd _ hk1))) (by omega) (by omega))) ?_
          intro g149
          refine WL.pu ?_
          intro hg149; (try dsimp only at hg149 ⊢)
          refine WL.r rfl rfl rfl (rd_assign rfl rfl) ?_
          refine WL.nil ?_
          refine WX.block_normal ?_
          refine WX.then_normal ?_
          refine WC.region ?_
          refine WL.r rfl rfl rfl (rd_move rfl rfl) ?_
          first
            | (refine WL.r rfl rfl rfl (rd_add64nl rfl rfl rfl ?_) ?_; (focus (first | assumption | omega | (dsimp only; first | assumption | omega) | (simp <;> omega) | (simp; done))))
            | (refine WL.r rfl rfl rfl (rd_add64 rfl rfl rfl ?_) ?_; (focus (first | assumption | omega | (dsimp only; first | assumption | omega) | (simp <;> omega) | (simp; done))))
          refine WL.r rfl rfl rfl (rd_assign rfl rfl) ?_
          refine WL.nil ?_
          rw [← hk0]
          refine WX.loopO ((k + 1, g149)) (by (try dsimp only); omega) (sub_cons rfl (sub_cons rfl (sub_cons rfl (sub_cons rfl (sub_nil _))))) (by refine (sub_cons ?_ (sub_cons ?_ (sub_nil _))) <;> (first | rfl | (simp only [List.length_append, List.length_cons, List.length_nil, Nat.zero_add]; rfl) | (dsimp only; first | rfl | (congr 2; omega) | (congr 3; omega)))) ?_ (by first | exact fun _ h => h | exact st_sub)
          (try dsimp only)
          first | assumption | omega | (dsimp only; first | assumption | omega) | (simp <;> omega) | (simp; done)
        · (try simp only [decide_eq_true_eq, decide_eq_false_iff_not, Bool.not_eq_true', Bool.not_eq_false', Bool.not_not, Int.not_lt, Int.not_le] at hc141)
          refine WC.exit ?_
          refine WX.then_exit ?_
          refine WX.then_exit ?_
          refine WX.block_exit ?_
          obtain rfl : k = L := by omega
          obtain ⟨s2, hopn⟩ := crash_ops (n := n) (m := m) hOp hR (by omega) (by omega) hnl hml
          rw [hif] at hopn
          have hff := fold_len (pd.take k) sf (fun o h => hOp o (List.mem_of_mem_take h))
          have hfk : (pd.take k).length ≤ 14 := by rw [List.length_take]; exact Nat.le_trans (Nat.min_le_right _ _) hil
          have hcr : crashD ⟨B, pd.map recO, false⟩ (n : Int) (m : Int) = (⟨B ++ ((pd.map recO).take n).flatten ++ ((pd.map recO).getD n default).take m, [], true⟩, 0) := by
            rw [crashD, if_neg (by simp), if_neg (by simp only [hpl]; omega), Int.toNat_natCast, Int.toNat_natCast, if_neg (by simp only; omega)]
          have hxl : (B ++ ((pd.map recO).take n).flatten ++ ((pd.map recO).getD n default).take m).length ≤ 1000000 := by
            rw [List.length_append, List.length_append]
            have h1 := flat_take_le (pd.map recO) n
            have h2 : (((pd.map recO).getD n default).take m).length ≤ ((pd.map recO).getD n default).length := by rw [List.length_take]; exact Nat.min_le_right _ _
            have h3 := getD_flat_le (pd.map recO) n
            omega
          generalize (B ++ ((pd.map recO).take n).flatten ++ ((pd.map recO).getD n default).take m) = X at *
          generalize (pd.take k).foldl afterE sf = Y at *
          refine WX.then_normal ?_
          refine WC.sr ?_
          refine WL.r rfl rfl rfl (lda rfl rfl .tc Try.underlying24 rfl ?_) ?_
          · kernel_rfl
          refine WL.r rfl rfl rfl (rd_move rfl rfl) ?_
          refine WL.r rfl rfl rfl (rd_move rfl rfl) ?_
          refine WL.g rfl rfl rfl (og_call rfl rfl (by kernel_rfl) (keep_f1 (val := fun g => DE (⟨X, [], true⟩, 0) (g.val 0)) (p := fun g => g.cap = 0 + g.sp.length) (xs := []) (T := 9) fun w hS => (by have := crash_c (d := ⟨B, pd.map recO, false⟩) (kept := (n : Int)) (bytes := (m : Int)) (a := qd.a) (cap := qd.cap) (w := w) hS.sl (by dsimp only; omega) (by dsimp only; omega) (by dsimp only; omega) (by dsimp only; omega); rw [hcr] at this; exact this))) ?_
          intro g150; refine WL.pu ?_; intro hg150
          refine WL.r rfl rfl rfl (rd_move rfl rfl) ?_
          refine WL.r rfl rfl rfl (rd_extL rfl rfl rfl) ?_
          refine WL.r rfl rfl rfl (rd_extL rfl rfl rfl) ?_
          refine WL.g rfl rfl rfl (og_alloc rfl (v := (.agg #[.string (S []), .slice none 0 0, .bool false])) (cs := [.string (S []), .slice none 0 0, .bool false]) (by kernel_rfl) rfl) ?_
          intro b16
          refine WL.g0 rfl rfl (sta rfl rfl rfl .tc ?_ ?_ ?_) ?_
          · kernel_rfl
          · simp [Value.oneCell']
          · first | rfl | simp
          intro _
          refine WL.r rfl rfl rfl (rd_assign rfl rfl) ?_
          refine WL.nt ?_
          refine WC.sr ?_
          refine WL.r rfl rfl rfl (lda rfl rfl .tc Try.underlying24 rfl ?_) ?_
          · kernel_rfl
          refine WL.g rfl rfl rfl (og_call rfl rfl (by kernel_rfl) (keep_f1 (val := fun g => .tuple #[g.val Y.length, .agg #[.string (S s2), .slice none 0 0, .bool false], .int .i64 0]) (p := fun g => g.cap = Y.length + g.sp.length) (xs := strs Y) (T := 9) fun w hS => (by have := open_c (d := ⟨X, [], true⟩) (a := g150.a) (cap := g150.cap) (w := w) sl_nil (by dsimp only; omega) (by simp); rw [hopn] at this; exact this))) ?_
          intro g157; refine WL.pu ?_; intro hg157
          refine WL.r rfl rfl rfl (rd_move rfl rfl) ?_
          refine WL.r rfl rfl rfl (rd_extL rfl rfl rfl) ?_
          refine WL.r rfl rfl rfl (rd_extL rfl rfl rfl) ?_
          refine WL.r rfl rfl rfl (rd_extL rfl rfl rfl) ?_
          refine WL.g rfl rfl rfl (og_alloc rfl (v := (.agg #[.string (S []), .slice none 0 0, .bool false])) (cs := [.string (S []), .slice none 0 0, .bool false]) (by kernel_rfl) rfl) ?_
          intro b19
          refine WL.r rfl rfl rfl (rd_assign rfl rfl) ?_
          refine WL.g0 rfl rfl (sta rfl rfl rfl .tc ?_ ?_ ?_) ?_
          · kernel_rfl
          · simp [Value.oneCell']
          · first | rfl | simp
          intro _
          refine WL.r rfl rfl rfl (rd_assign rfl rfl) ?_
          refine WL.nt ?_
          refine WC.sr ?_
          refine WL.r rfl rfl rfl (lda rfl rfl .tc Try.underlying24 rfl ?_) ?_
          · kernel_rfl
          refine WL.g rfl rfl rfl (og_call rfl rfl (by kernel_rfl) (keep_f1 (val := fun g => DE (.zero, 27) (g.val 0)) (p := fun g => g.cap = 0 + g.sp.length) (xs := []) (T := 9) fun w hS => (by have := append_c (d := ⟨X, [], true⟩) (t := []) (a := g150.a) (cap := g150.cap) (w := w) sl_nil (by simp); rw [appendD, if_pos rfl] at this; exact this))) ?_
          intro g163; refine WL.pu ?_; intro hg163
          refine WL.r rfl rfl rfl (rd_move rfl rfl) ?_
          refine WL.r rfl rfl rfl (rd_extL rfl rfl rfl) ?_
          refine WL.r rfl rfl rfl (rd_extL rfl rfl rfl) ?_
          refine WL.g rfl rfl rfl (og_alloc rfl (v := (.agg #[.string (S []), .slice none 0 0, .bool false])) (cs := [.string (S []), .slice none 0 0, .bool false]) (by kernel_rfl) rfl) ?_
          intro b21
          refine WL.g0 rfl rfl (sta rfl rfl rfl .tc ?_ ?_ ?_) ?_
          · kernel_rfl
          · simp [Value.oneCell']
          · first | rfl | simp
          intro _
          refine WL.r rfl rfl rfl (rd_assign rfl rfl) ?_
          refine WL.nt ?_
          refine WC.sr ?_
          refine WL.g rfl rfl rfl (og_call rfl rfl (by kernel_rfl) (keep_val fun w hS => awake_c)) ?_
          intro _
          refine WL.r rfl rfl rfl (rd_move rfl rfl) ?_
          refine WL.set 169 rfl (v' := .bool true) (by first | rfl | exact congrArg Value.bool (by simp [*]; done) | exact congrArg Value.bool (by simp; omega)) ?_
          refine WL.r rfl rfl rfl (rd_move rfl rfl) ?_
          refine WL.r rfl rfl rfl (rd_eql rfl rfl rfl) ?_
          refine WL.r rfl rfl rfl (rd_pickt rfl rfl rfl) ?_
          refine WL.r rfl rfl rfl (rd_move rfl rfl) ?_
          refine WL.set 173 rfl (v' := .bool true) (by first | rfl | exact congrArg Value.bool (by simp [*]; done) | exact congrArg Value.bool (by simp; omega)) ?_
          refine WL.r rfl rfl rfl (rd_move rfl rfl) ?_
          refine WL.r rfl rfl rfl (rd_eql rfl rfl rfl) ?_
          refine WL.r rfl rfl rfl (rd_pickt rfl rfl rfl) ?_
          refine WL.r rfl rfl rfl (rd_move rfl rfl) ?_
          refine WL.set 177 rfl (v' := .bool true) (by first | rfl | exact congrArg Value.bool (by simp [*]; done) | exact congrArg Value.bool (by simp; omega)) ?_
          refine WL.r rfl rfl rfl (rd_move rfl rfl) ?_
          refine WL.r rfl rfl rfl (rd_move rfl rfl) ?_
          refine WL.g rfl rfl rfl (og_call rfl rfl (by kernel_rfl) (keep_val fun w hS => same_c (l := Y) (m := Y) (by first | exact hS.sl | exact hS.os | exact hS.oc | exact sl_takeM _ hS.sl | exact sl_dropM _ hS.sl | exact sl_cutM _ (by omega) hS.sl | exact sl_nil) (by first | exact hS.sl | exact hS.os | exact hS.oc | exact sl_takeM _ hS.sl | exact sl_dropM _ hS.sl | exact sl_cutM _ (by omega) hS.sl | exact sl_nil) (by omega) (by omega))) ?_
          intro _
          refine WL.r rfl rfl rfl (rd_pickt rfl rfl rfl) ?_
          refine WL.r rfl rfl rfl (rd_move rfl rfl) ?_
          refine WL.set 182 rfl (v' := .bool true) (by first | rfl | exact congrArg Value.bool (by simp [*]; done) | exact congrArg Value.bool (by simp; omega)) ?_
          first
            | (refine WL.r rfl rfl rfl (rd_fa (q := 2) rfl rfl Try.underlying24 rfl (by kernel_rfl) rfl) ?_)
            | (refine WL.r rfl rfl rfl (faf (q' := 2) rfl rfl Try.underlying24 rfl (by kernel_rfl) rfl) ?_)
          first
            | (refine WL.r rfl rfl rfl (ld rfl rfl .tc Try.underlying4 rfl (by rfl)) ?_)
            | (refine WL.r rfl rfl rfl (ldm rfl rfl Try.underlying4 rfl ?_) ?_; (focus (first | assumption | omega | (dsimp only; first | assumption | omega) | (simp <;> omega) | (simp; done))))
            | (refine WL.r rfl rfl rfl (ldom rfl rfl Try.underlying4 rfl ?_) ?_; (focus (first | assumption | omega | (dsimp only; first | assumption | omega) | (simp <;> omega) | (simp; done))))
          refine WL.r rfl rfl rfl (rd_pickt rfl rfl rfl) ?_
          refine WL.r rfl rfl rfl (rd_move rfl rfl) ?_
          refine WL.set 186 rfl (v' := .bool true) (by first | rfl | exact congrArg Value.bool (by simp [*]; done) | exact congrArg Value.bool (by simp; omega)) ?_
          refine WL.r rfl rfl rfl (rd_move rfl rfl) ?_
          refine WL.r rfl rfl rfl (rd_eql rfl rfl rfl) ?_
          refine WL.r rfl rfl rfl (rd_pickt rfl rfl rfl) ?_
          refine WL.r rfl rfl rfl (rd_assign rfl rfl) ?_
          refine WL.nt ?_
          refine WC.ret ?_
          exact WX.retN rfl (.tmp rfl .nil) fun w' hS => ⟨by first | rfl | (simp [tup]; done) | (simp [*, tup]; done), hS.below⟩
def OpFx (w : World) (o : OpR) : Prop := (Lit.int .i64 o.kind).wf = true ∧ o.text.length ≤ 140737488351232 ∧ o.texts.l.length ≤ o.texts.cap ∧ o.texts.cap * 16 ≤ 140737488351232 ∧ (Fact.sl o.texts.a (o.texts.l.map fun x => .string (S x))).holds (fun _ => True) w ∧ ∀ y ∈ o.texts.l, y.length ≤ 140737488351232
theorem keeps_c {p : Sl OpR} {k b : Int} {w : World} {ok : Nat → Prop} (hF1 : (Fact.sl p.a (p.l.flatMap opC)).holds ok w) (hcap : p.l.length ≤ p.cap) (hcb : p.cap * 48 ≤ 140737488351232) (hb : ∀ o ∈ p.l, OpFx w o) (hk : (Lit.int .u16 k).wf = true) (hbt : (Lit.int .u16 b).wf = true) :
    Calls Try.prog 7 #[p.val, .int .u16 k, .int .u16 b] w fun e w' => e = .returned (.bool true) ∧ Below w.heap.size w w' :=
  by
    obtain ⟨kk, rfl⟩ : ∃ m : Nat, k = m := ⟨k.toNat, by have := wf_u16 hk; omega⟩
    obtain ⟨bb, rfl⟩ : ∃ m : Nat, b = m := ⟨b.toNat, by have := wf_u16 hbt; omega⟩
    refine keeps_n (ok := fun _ => True) (fact_any hF1) (fun f hf => ?_) hcap hcb (fun o ho => ?_) (by have := wf_u16 hk; omega) (by have := wf_u16 hbt; omega)
    · obtain ⟨o, ho, rfl⟩ := List.mem_map.1 hf
      exact (hb o ho).2.2.2.2.1
    · obtain ⟨_, h1, h2, h3, _, h4⟩ := hb o ho
      exact ⟨h1, h2, h3, h4⟩
end Go.Proofs.Ytijamoagkmjcjaa
