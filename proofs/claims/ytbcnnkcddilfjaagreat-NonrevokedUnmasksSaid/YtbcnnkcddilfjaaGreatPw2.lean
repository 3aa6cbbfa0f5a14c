/-
  Products of powers: power.Product.
-/
import Derived.Test.YtbcnnkcddilfjaaGreatPw1
namespace Go.Proofs.YtbcnnkcddilfjaaGreat
set_option linter.unusedSimpArgs false
set_option linter.unusedVariables false
set_option maxRecDepth 20000
set_option maxHeartbeats 600000
open Go.RowKit

theorem mulM_ok {a b m : Bs} (ha : okN a) (hb : okN b) (hm : okN m) (hm0 : m ≠ []) : mulM a b m = (canon (val a * val b % val m), 0) := by
  rw [mulM, if_pos (chk_zero (by intro y hy; simp at hy; rcases hy with rfl | rfl | rfl <;> assumption) (by simpa using fun h => hm0 h))]
theorem ptimes_c {p q : Nat} {out x : Bs} {g : Gp} {en : Ent} {rr : List Ent} {ok : Nat → Prop} {w0 : World} {fs : List Fact} {w : World} (hS0 : St ok w0 (⟨some p, [.string (S out)], 22⟩ :: en :: ⟨some q, [.string (S g.1), .string (S g.2)], 26⟩ :: rr) (fs) w) (ho : okN out) (ho8 : out.length ≤ 8) (hx : okN x) (hx8 : x.length ≤ 8) (hm : okN g.1) (hm0 : g.1 ≠ []) (hm8 : g.1.length ≤ 8) :
    Calls Tryz.prog 53 #[.string (S x), .pointer (some ⟨p, 0, none⟩), .pointer (some ⟨q, 0, none⟩)] w fun e w' => e = .returned (.tuple #[]) ∧ St ok w0 (⟨some p, [.string (S (canon (val out * val x % val g.1)))], 22⟩ :: en :: ⟨some q, [.string (S g.1), .string (S g.2)], 26⟩ :: rr) (fs) w' := by
  refine enter (S := St ok w0 (⟨some p, [.string (S out)], 22⟩ :: en :: ⟨some q, [.string (S g.1), .string (S g.2)], 26⟩ :: rr) (fs)) (L := [(0, .string (S x)), (1, .pointer (some ⟨p, 0, none⟩)), (2, .pointer (some ⟨q, 0, none⟩))]) Tryz.func53 rfl Tryz.ntmps53 rfl (args_cons rfl (args_cons rfl (args_cons rfl (args_nil _)))) hS0 ?_
  refine WC.region ?_
  refine WL.r rfl rfl rfl (ld rfl rfl .tc Tryz.underlying22 rfl (by rfl)) ?_
  refine WL.r rfl rfl rfl (rd_move rfl rfl) ?_
  (refine WL.r rfl rfl rfl (rd_fa rfl rfl Tryz.underlying26 rfl (by kernel_rfl) (by (try simp only [sN, Int.reduceToNat, Nat.reduceAdd, Nat.reduceMul, Nat.reduceSub]); rfl)) ?_)
  (refine WL.r rfl rfl rfl (ld rfl rfl .tc Tryz.underlying22 rfl (by rfl)) ?_)
  refine WL.g rfl rfl rfl (og_call rfl rfl (by kernel_rfl) (keep_val fun w hS => (by have := mmul_c (w := w) (a := out) (b := x) (m := g.1) ho8 hx8 hm8; rw [mulM_ok ho hx hm hm0] at this; exact this))) ?_
  intro _
  refine WL.r rfl rfl rfl (rd_move rfl rfl) ?_
  refine WL.r rfl rfl rfl (rd_extL rfl rfl rfl) ?_
  refine WL.r rfl rfl rfl (rd_extL rfl rfl rfl) ?_
  refine WL.g0 rfl rfl (st rfl rfl rfl .tc (by kernel_rfl) rfl ?_ (by (simp only [List.set_cons_zero, List.set_cons_succ]; rfl))) ?_
  · (simp; done)
  intro _
  refine WL.nil ?_
  refine WX.ret_normal ?_
  exact WX.retN rfl .nil fun w' hS => ⟨by rfl, by (exact hS)⟩
theorem elG_gcd {g : Gp} {x : Bs} (hg : chkG g = 0) (h : elG g x) : Nat.gcd (val x) (val g.1) = 1 := by
  obtain ⟨h1, h2, h3, h4, h5⟩ := chkG_ok hg
  obtain ⟨_, _, _, h6⟩ := h
  split at h6
  · exact h6
  · rename_i hq
    obtain ⟨h7, _⟩ := h5 hq
    refine unit_gcd (x := val x ^ (val g.2 - 1)) ?_
    rw [Nat.mul_comm, ← Nat.pow_succ, show (val g.2 - 1).succ = val g.2 by omega, h6, Nat.mod_eq_of_lt (by omega)]
theorem elG_len {g : Gp} {x : Bs} (h : elG g x) (hm8 : g.1.length ≤ 8) : x.length ≤ 8 := by
  rw [← ok_canon h.1]; exact canon_len_le.2 (Nat.lt_trans h.2.2.1 (val_8 hm8))
/-- a base, or its inverse -/
def bsB (m : Nat) (p : Bs × Zs) : Bs := if p.2.1 = true then canon (invN (val p.1) m) else p.1
def prodS (g : Gp) (l : List Bs) (es : List Zs) : Bs × Int :=
  if chkP g l es (decide (l.length = es.length)) = 0 then (canon (prodL (fun p => powI (val g.1) (val p.1) (zv p.2)) (l.zip es) % val g.1), 0) else ([], chkP g l es (decide (l.length = es.length)))
theorem chkP_ok {g : Gp} {l : List Bs} {es : List Zs} {s : Bool} (h : chkP g l es s = 0) : (∀ x ∈ l, okN x) ∧ (∀ x ∈ es, okZ x) ∧ chkG g = 0 ∧ s = true ∧ (∀ x ∈ l, elG g x) := by
  unfold chkP at h
  split at h
  · simp at h
  · rename_i h1
    split at h
    · simp at h
    · rename_i h2
      split at h
      · rename_i h3; exact absurd h h3
      · rename_i h3
        split at h
        · simp at h
        · rename_i h4
          split at h
          · simp at h
          · rename_i h5; exact ⟨Decidable.not_not.1 h1, Decidable.not_not.1 h2, Decidable.not_not.1 h3, by simpa using h4, Decidable.not_not.1 h5⟩
theorem okZ_neg {x : Zs} (h : okZ x) : zv x < 0 ↔ x.1 = true := by
  obtain ⟨s, a⟩ := x
  cases s with
  | false => simp [zv]
  | true =>
    have h0 : val a ≠ 0 := fun h0 => h.2 ⟨rfl, (val_eq_zero h.1.2).1 h0⟩
    simp [zv]; omega
theorem zv_abs (x : Zs) : (zv x).natAbs = val x.2 := by
  obtain ⟨s, a⟩ := x; cases s <;> simp [zv]
/-- the power of an element, with the base replaced -/
theorem powI_bs {m : Nat} {p : Bs × Zs} (h : okZ p.2) : powI m (val p.1) (zv p.2) = val (bsB m p) ^ val p.2.2 % m := by
  rw [powI, bsB, zv_abs]
  by_cases h1 : p.2.1 = true
  · rw [if_pos ((okZ_neg h).2 h1), if_pos h1, val_canon]
  · rw [if_neg (fun h2 => h1 ((okZ_neg h).1 h2)), if_neg h1]
theorem prodL_map {α β : Type} (f : β → Nat) (k : α → β) : ∀ l : List α, prodL f (l.map k) = prodL (fun x => f (k x)) l
  | [] => rfl
  | x :: l => by rw [List.map_cons, prodL, prodL, prodL_map f k l]
def prsP (m : Nat) (l : List (Bs × Zs)) : List (Nat × Nat) := l.map fun p => (val (bsB m p), val p.2.2)
theorem prs_end {m : Nat} {l : List (Bs × Zs)} (h : ∀ p ∈ l, okZ p.2) : prodL (atBit 0) (prsP m l) % m = prodL (fun p => powI m (val p.1) (zv p.2)) l % m := by
  rw [prsP, prodL_map]
  apply prodL_mod
  intro p hp
  rw [powI_bs (h p hp), atBit, Nat.pow_zero, Nat.div_one, Nat.mod_mod]
theorem prs_start {m n : Nat} {l : List (Bs × Zs)} (h : ∀ p ∈ l, bitsN p.2.2 ≤ n) : prodL (atBit n) (prsP m l) = 1 := by
  apply prodL_one
  intro p hp
  obtain ⟨q, hq, rfl⟩ := List.mem_map.1 hp
  rw [atBit, Nat.div_eq_of_lt (Nat.lt_of_lt_of_le (val_bits _) (Nat.pow_le_pow_right (by decide) (h q hq))), Nat.pow_zero]
theorem getD_zip {l : List Bs} {es : List Zs} {i : Nat} (h1 : i < l.length) (h2 : i < es.length) : (l.zip es).getD i default = (l.getD i default, es.getD i default) := by
  simp only [List.getD_eq_getElem?_getD, List.getElem?_zip_eq_some, List.getElem?_eq_getElem h1, List.getElem?_eq_getElem h2, List.getElem?_eq_getElem (show i < (l.zip es).length by simp; omega), List.getElem_zip, Option.getD_some]
theorem map_getD2 {α β : Type} [Inhabited α] [Inhabited β] (f : α → β) (l : List α) (i : Nat) (h : i < l.length) : (l.map f).getD i default = f (l.getD i default) := by
  simp [List.getD_eq_getElem?_getD, List.getElem?_eq_getElem h]
theorem strs_fill (l : List Bs) (i n : Nat) (h : i < l.length) (hn : i < n) : (strs (l.take i) ++ List.replicate (n - i) (Value.string (S []))).set i (Value.string (S (l.getD i default))) = strs (l.take (i + 1)) ++ List.replicate (n - (i + 1)) (Value.string (S [])) := by
  have hl : (strs (l.take i)).length = i := by simp [strs]; omega
  rw [List.set_append_right _ _ (by omega), hl, Nat.sub_self, show n - i = (n - (i + 1)) + 1 by omega, List.replicate_succ, List.set_cons_zero]
  have e : l.take (i + 1) = l.take i ++ [l.getD i default] := by
    rw [List.take_add_one, List.getElem?_eq_getElem h, List.getD_eq_getElem?_getD, List.getElem?_eq_getElem h]; rfl
  rw [e]; simp [strs]
theorem lt_len {k : Nat} {m : Bs} (h : k < val m) (hm8 : m.length ≤ 8) : okN (canon k) ∧ (canon k).length ≤ 8 := by
  have h8 : (canon k).length ≤ 8 := canon_len_le.2 (Nat.lt_trans h (val_8 hm8))
  exact ⟨⟨by omega, can_canon _⟩, h8⟩
theorem prodL_succ {α : Type} [Inhabited α] (f : α → Nat) (l : List α) (k : Nat) (h : k < l.length) : prodL f (l.take (k + 1)) = prodL f (l.take k) * f (l.getD k default) := by
  rw [List.take_add_one, List.getElem?_eq_getElem h, prodL_append, List.getD_eq_getElem?_getD, List.getElem?_eq_getElem h]
  simp [prodL]
def selB (n : Nat) (p : Nat × Nat) : Nat := if p.2 / 2 ^ n % 2 = 1 then p.1 else 1
theorem pproduct_c {g : Gp} {l : List Bs} {es : List Zs} {a b : Option Addr} {c d : Nat} {w : World} {ok : Nat → Prop} (hF1 : (Fact.sl a (strs l)).holds ok w) (hF2 : (Fact.sl b (ints es)).holds ok w) (hl : l.length ≤ 100000) (hes : es.length ≤ 100000) (hm8 : g.1.length ≤ 8) :
    Calls Tryz.prog 25 #[gV g, .slice a l.length c, .slice b es.length d] w fun e w' => e = .returned (NE (prodS g l es)) ∧ Below w.heap.size w w' := by
  refine enter (S := St (fun _ => True) w [] ([Fact.sl a (strs l), Fact.sl b (ints es)])) (L := [(0, gV g), (1, .slice a l.length c), (2, .slice b es.length d)]) Tryz.func25 rfl Tryz.ntmps25 rfl (args_cons rfl (args_cons rfl (args_cons rfl (args_nil _)))) (St.start (fun _ _ => trivial) (facts_cons (fact_any hF1) (facts_cons (fact_any hF2) facts_nil))) ?_
  refine WC.sr ?_
  refine WL.g rfl rfl rfl (og_box rfl rfl (by (exact cells_agg _))) ?_
  intro b3
  refine WL.r rfl rfl rfl (rd_assign rfl rfl) ?_
  refine WL.r rfl rfl rfl (rd_assign rfl rfl) ?_
  refine WL.nt ?_
  refine WC.seq ?_
  refine WC.sr ?_
  refine WL.r rfl rfl rfl (lda rfl rfl .tc Tryz.underlying26 rfl ?_) ?_
  · kernel_rfl
  refine WL.r rfl rfl rfl (rd_move rfl rfl) ?_
  refine WL.r rfl rfl rfl (rd_move rfl rfl) ?_
  refine WL.r rfl rfl rfl (rd_move rfl rfl) ?_
  refine WL.r rfl rfl rfl (rd_len rfl rfl Tryz.underlying31) ?_
  refine WL.r rfl rfl rfl (rd_move rfl rfl) ?_
  refine WL.r rfl rfl rfl (rd_len rfl rfl Tryz.underlying36) ?_
  refine WL.r rfl rfl rfl (rd_eql rfl rfl rfl) ?_
  refine WL.set 27 rfl (v' := .bool (decide (l.length = es.length))) (congrArg Value.bool (by exact decide_eq_decide.2 (by omega))) ?_
  refine WL.g rfl rfl rfl (og_call rfl rfl (by kernel_rfl) (keep_val fun w hS => checked_c (g := g) (l := l) (es := es) (same := decide (l.length = es.length)) (by (exact hS.sl)) (by (exact hS.sl)) (by omega) (by omega) (by assumption))) ?_
  intro _
  refine WL.r rfl rfl rfl (rd_assign rfl rfl) ?_
  refine WL.nt ?_
  refine WC.sr ?_
  refine WL.r rfl rfl rfl (rd_move rfl rfl) ?_
  refine WL.r rfl rfl rfl (rd_neq rfl rfl rfl) ?_
  refine WL.nt ?_
  refine WC.cond rfl (fun hc30 => ?_) (fun hc30 => ?_)
  · (try simp only [sB] at hc30)
    have hr : prodS g l es = ([], chkP g l es (decide (l.length = es.length))) := by rw [prodS, if_neg (by simpa using hc30)]
    refine WC.sr ?_
    refine WL.r rfl rfl rfl (rd_move rfl rfl) ?_
    refine WL.r rfl rfl rfl (rd_assign rfl rfl) ?_
    refine WL.r rfl rfl rfl (rd_assign rfl rfl) ?_
    refine WL.nt ?_
    refine WC.ret ?_
    refine WX.then_ret ?_
    exact WX.retN rfl (.tmp rfl (.tmp rfl .nil)) fun w' hS => ⟨by rw [hr]; rfl, hS.below⟩
  · (try simp only [sB] at hc30)
    have h0 : chkP g l es (decide (l.length = es.length)) = 0 := by simpa using hc30
    obtain ⟨hok, hokz, hg, hsame, hel⟩ := chkP_ok h0
    have hlen : l.length = es.length := by simpa using hsame
    obtain ⟨hm, hq, hm2, _⟩ := chkG_ok hg
    have hm0 : g.1 ≠ [] := fun h => by rw [h] at hm2; exact absurd hm2 (by decide)
    have hp := vpos hm hm0
    have hm64 := val_8 hm8
    obtain ⟨Z, hZ⟩ : ∃ Z, Z = l.zip es := ⟨_, rfl⟩
    have hZl : Z.length = l.length := by rw [hZ]; simp; omega
    have hr : prodS g l es = (canon (prodL (fun p => powI (val g.1) (val p.1) (zv p.2)) Z % val g.1), 0) := by rw [prodS, if_pos h0, hZ]
    obtain ⟨B', hB'⟩ : ∃ B', B' = Z.map (bsB (val g.1)) := ⟨_, rfl⟩
    have hBl : B'.length = l.length := by rw [hB', List.length_map, hZl]
    refine WC.skip ?_
    refine WX.then_normal ?_
    refine WC.sr ?_
    refine WL.r rfl rfl rfl (rd_move rfl rfl) ?_
    refine WL.r rfl rfl rfl (rd_len rfl rfl Tryz.underlying31) ?_
    refine WL.g rfl rfl rfl (og_mk rfl rfl rfl Tryz.underlying31 (by kernel_rfl : _ = some (some (.string (S [])), 1, 16)) rfl ?_ (by (try simp only [sN, Int.reduceToNat, Nat.reduceAdd, Nat.reduceMul, Nat.reduceSub]); rfl) (by (try simp only [sN, Int.reduceToNat, Nat.reduceAdd, Nat.reduceMul, Nat.reduceSub]); rfl)) ?_
    · omega
    intro b34
    refine WL.r rfl rfl rfl (rd_assign rfl rfl) ?_
    refine WL.nt ?_
    refine WC.sr ?_
    refine WL.r rfl rfl rfl (rd_assign rfl rfl) ?_
    refine WL.nt ?_
    refine WC.seq ?_
    refine WC.sr ?_
    refine WL.r rfl rfl rfl (rd_move rfl rfl) ?_
    refine WL.r rfl rfl rfl (rd_len rfl rfl Tryz.underlying31) ?_
    refine WL.r rfl rfl rfl (rd_move rfl rfl) ?_
    refine WL.nt ?_
    refine WC.block ?_
    refine WC.loopO (σ := Nat × Nat) [(2, _), (3, _), (9, _), (35, _), (36, _)] (fun gq => [(10, .int .i64 (gq.2 : Int)), (37, .int .i64 (gq.1 : Int))]) (fun gq => gq.1 ≤ l.length ∧ gq.2 ≤ 2000 ∧ ∀ p ∈ Z.take gq.1, bitsN p.2.2 ≤ gq.2) (fun gq => l.length - gq.1) (fun gq => [⟨some b34, strs (B'.take gq.1) ++ List.replicate (l.length - gq.1) (.string (S [])), 22⟩, ⟨some b3, [.string (S g.1), .string (S g.2)], 26⟩]) (fun gq => [Fact.sl a (strs l), Fact.sl b (ints es)]) (0, 0) (sub_cons rfl (sub_cons rfl (sub_cons rfl (sub_cons rfl (sub_cons rfl (sub_nil _)))))) (sub_cons rfl (sub_cons rfl (sub_nil _))) (by (try dsimp only); exact ⟨Nat.zero_le _, Nat.zero_le _, by simp⟩) (by (exact fun _ h => h)) ?_
    rintro ⟨i, most⟩ hinv1; (try dsimp only at hinv1 ⊢)
    obtain ⟨hi, hmo, hbt⟩ := hinv1
    refine WC.sr ?_
    refine WL.r rfl rfl rfl (rd_lss rfl rfl rfl) ?_
    refine WL.nt ?_
    refine WC.seq ?_
    refine WC.cond rfl (fun hc38 => ?_) (fun hc38 => ?_)
    · (try simp only [sB] at hc38)
      have hil : i < l.length := by omega
      have hie : i < es.length := by omega
      have hx := hel _ (getD_mem l i hil)
      have hz := hokz _ (getD_mem es i hie)
      have hiZ : i < Z.length := by omega
      have hZi : Z.getD i default = (l.getD i default, es.getD i default) := by rw [hZ]; exact getD_zip hil hie
      have hBi : B'.getD i default = bsB (val g.1) (l.getD i default, es.getD i default) := by rw [hB', map_getD2 _ _ _ hiZ, hZi]
      have hgc := elG_gcd hg hx
      have hiv := invM_ok hx.1 hm hm0
      rw [if_pos hgc] at hiv
      have hbl := bitsN_le hz.1.1
      refine WC.skip ?_
      refine WX.then_normal ?_
      refine WC.seq ?_
      refine WC.block ?_
      refine WC.sr ?_
      refine WL.r rfl rfl rfl (rd_move rfl rfl) ?_
      (refine WL.r rfl rfl rfl (iaf rfl rfl rfl Tryz.underlying31 (by kernel_rfl : _ = some 1) ?_ ?_ (by (try simp only [sN, Int.reduceToNat, Nat.reduceAdd, Nat.reduceMul, Nat.reduceSub]); rfl)) ?_; (focus (omega)); (focus ((rw [List.length_map]; omega))))
      (refine WL.r rfl rfl rfl (ldm rfl rfl Tryz.underlying22 rfl ?_) ?_; (focus (assumption)))
      refine WL.r rfl rfl rfl (rd_assign rfl rfl) ?_
      refine WL.r rfl rfl rfl (rd_assign rfl rfl) ?_
      refine WL.nt ?_
      refine WC.sr ?_
      refine WL.r rfl rfl rfl (rd_move rfl rfl) ?_
      refine WL.r rfl rfl rfl (rd_move rfl rfl) ?_
      refine WL.r rfl rfl rfl (rd_move rfl rfl) ?_
      (refine WL.r rfl rfl rfl (rd_ia rfl rfl rfl Tryz.underlying31 (by kernel_rfl : _ = some 1) ?_ (by (try simp only [sN, Int.reduceToNat, Nat.reduceAdd, Nat.reduceMul, Nat.reduceSub]); rfl)) ?_; (focus (omega)))
      refine WL.g0 rfl rfl (st rfl rfl rfl .tc (by kernel_rfl) rfl ?_ (by rfl)) ?_
      · (simp <;> omega)
      intro _
      refine WL.nt ?_
      refine WC.seq ?_
      refine WC.sr ?_
      refine WL.r rfl rfl rfl (rd_move rfl rfl) ?_
      refine WL.r rfl rfl rfl (rd_move rfl rfl) ?_
      (refine WL.r rfl rfl rfl (iaf rfl rfl rfl Tryz.underlying36 (by kernel_rfl : _ = some 2) ?_ ?_ (by (try simp only [sN, Int.reduceToNat, Nat.reduceAdd, Nat.reduceMul, Nat.reduceSub]); rfl)) ?_; (focus (omega)); (focus ((rw [flatMap_len _ _ 2 (fun _ => rfl)]; omega))))
      (refine WL.r rfl rfl rfl (faf rfl rfl Tryz.underlying41 rfl (by kernel_rfl) (by (try simp only [sN, Int.reduceToNat, Nat.reduceAdd, Nat.reduceMul, Nat.reduceSub]); rfl)) ?_)
      (refine WL.r rfl rfl rfl (ldmf (sz := 2) _ 0 rfl rfl Tryz.underlying4 rfl (fun _ => rfl) rfl ?_ (by decide) rfl) ?_; (focus (assumption)))
      refine WL.nt ?_
      refine WC.cond rfl (fun hc50 => ?_) (fun hc50 => ?_)
      · (try simp only [sB] at hc50)
        have hB2 : B'.getD i default = canon (invN (val (l.getD i default)) (val g.1)) := by rw [hBi]; exact if_pos (by simpa using hc50)
        refine WC.sr ?_
        refine WL.r rfl rfl rfl (rd_move rfl rfl) ?_
        (refine WL.r rfl rfl rfl (rd_fa (q := 0) rfl rfl Tryz.underlying26 rfl (by kernel_rfl) rfl) ?_)
        (refine WL.r rfl rfl rfl (ld rfl rfl .tc Tryz.underlying22 rfl (by rfl)) ?_)
        refine WL.g rfl rfl rfl (og_call rfl rfl (by kernel_rfl) (keep_val fun w hS => (by have := minv_c (w := w) (a := l.getD i default) (m := g.1); rw [hiv] at this; exact this))) ?_
        intro _
        refine WL.r rfl rfl rfl (rd_move rfl rfl) ?_
        refine WL.r rfl rfl rfl (rd_extL rfl rfl rfl) ?_
        refine WL.r rfl rfl rfl (rd_extL rfl rfl rfl) ?_
        refine WL.r rfl rfl rfl (rd_assign rfl rfl) ?_
        refine WL.r rfl rfl rfl (rd_assign rfl rfl) ?_
        refine WL.nt ?_
        refine WC.seq ?_
        refine WC.sr ?_
        refine WL.r rfl rfl rfl (rd_move rfl rfl) ?_
        refine WL.r rfl rfl rfl (rd_neq rfl rfl rfl) ?_
        refine WL.nt ?_
        refine WC.cond rfl (fun hc59 => by exfalso; (try simp only [sB] at hc59); exact hc59 trivial) (fun hc59 => ?_)
        (try simp only [sB] at hc59)
        refine WC.skip ?_
        refine WX.then_normal ?_
        refine WC.region ?_
        refine WL.r rfl rfl rfl (rd_move rfl rfl) ?_
        refine WL.r rfl rfl rfl (rd_move rfl rfl) ?_
        refine WL.r rfl rfl rfl (rd_move rfl rfl) ?_
        (refine WL.r rfl rfl rfl (rd_ia rfl rfl rfl Tryz.underlying31 (by kernel_rfl : _ = some 1) ?_ (by (try simp only [sN, Int.reduceToNat, Nat.reduceAdd, Nat.reduceMul, Nat.reduceSub]); rfl)) ?_; (focus (omega)))
        refine WL.g0 rfl rfl (st rfl rfl rfl .tc (by kernel_rfl) rfl ?_ (by (simp only [List.set_cons_zero, List.set_cons_succ]; rfl))) ?_
        · (simp <;> omega)
        intro _
        refine WL.nt ?_
        refine WC.region ?_
        refine WL.r rfl rfl rfl (rd_move rfl rfl) ?_
        refine WL.r rfl rfl rfl (rd_move rfl rfl) ?_
        refine WL.r rfl rfl rfl (rd_move rfl rfl) ?_
        (refine WL.r rfl rfl rfl (iaf rfl rfl rfl Tryz.underlying36 (by kernel_rfl : _ = some 2) ?_ ?_ (by (try simp only [sN, Int.reduceToNat, Nat.reduceAdd, Nat.reduceMul, Nat.reduceSub]); rfl)) ?_; (focus (omega)); (focus ((rw [flatMap_len _ _ 2 (fun _ => rfl)]; omega))))
        (refine WL.r rfl rfl rfl (faf rfl rfl Tryz.underlying41 rfl (by kernel_rfl) (by (try simp only [sN, Int.reduceToNat, Nat.reduceAdd, Nat.reduceMul, Nat.reduceSub]); rfl)) ?_)
        (refine WL.r rfl rfl rfl (ldmf (sz := 2) _ 1 rfl rfl Tryz.underlying22 rfl (fun _ => rfl) rfl ?_ (by decide) rfl) ?_; (focus (assumption)))
        refine WL.g rfl rfl rfl (og_call rfl rfl (by kernel_rfl) (keep_val fun w hS => bits_c (a := (es.getD i default).2))) ?_
        intro _
        refine WL.set 71 rfl (v' := .int .i64 ((bitsN (es.getD i default).2 : Nat) : Int)) (congrArg (Value.int .i64) (by rw [if_pos hz.1])) ?_
        refine WL.r rfl rfl rfl (rd_max2 rfl rfl rfl) ?_
        refine WL.set 72 rfl (v' := .int .i64 ((max most (bitsN (es.getD i default).2) : Nat) : Int)) (congrArg (Value.int .i64) (by omega)) ?_
        refine WL.r rfl rfl rfl (rd_assign rfl rfl) ?_
        refine WL.nil ?_
        refine WX.block_normal ?_
        refine WX.then_normal ?_
        refine WC.region ?_
        (refine WL.r rfl rfl rfl (rd_add64nl rfl rfl rfl ?_) ?_; (focus (omega)))
        refine WL.r rfl rfl rfl (rd_move rfl rfl) ?_
        refine WL.nil ?_
        refine WX.loopO ((i + 1, max most (bitsN (es.getD i default).2))) (by (try dsimp only); omega) (sub_cons rfl (sub_cons rfl (sub_cons rfl (sub_cons rfl (sub_cons rfl (sub_nil _)))))) (by refine (sub_cons ?_ (sub_cons ?_ (sub_nil _))) <;> (rfl)) ?_ (by exact fun w h => by rw [← strs_fill B' i l.length (by omega) hil, hB2]; (try rw [List.set_set] at h); exact h)
        (try dsimp only)
        exact ⟨hil, by omega, all_take hiZ (fun p hp => Nat.le_trans (hbt p hp) (Nat.le_max_left _ _)) (by rw [hZi]; exact Nat.le_max_right _ _)⟩
      · (try simp only [sB] at hc50)
        have hB2 : B'.getD i default = l.getD i default := by rw [hBi]; exact if_neg (by simpa using hc50)
        refine WC.skip ?_
        refine WX.then_normal ?_
        refine WC.region ?_
        refine WL.r rfl rfl rfl (rd_move rfl rfl) ?_
        refine WL.r rfl rfl rfl (rd_move rfl rfl) ?_
        refine WL.r rfl rfl rfl (rd_move rfl rfl) ?_
        (refine WL.r rfl rfl rfl (iaf rfl rfl rfl Tryz.underlying36 (by kernel_rfl : _ = some 2) ?_ ?_ (by (try simp only [sN, Int.reduceToNat, Nat.reduceAdd, Nat.reduceMul, Nat.reduceSub]); rfl)) ?_; (focus (omega)); (focus ((rw [flatMap_len _ _ 2 (fun _ => rfl)]; omega))))
        (refine WL.r rfl rfl rfl (faf rfl rfl Tryz.underlying41 rfl (by kernel_rfl) (by (try simp only [sN, Int.reduceToNat, Nat.reduceAdd, Nat.reduceMul, Nat.reduceSub]); rfl)) ?_)
        (refine WL.r rfl rfl rfl (ldmf (sz := 2) _ 1 rfl rfl Tryz.underlying22 rfl (fun _ => rfl) rfl ?_ (by decide) rfl) ?_; (focus (assumption)))
        refine WL.g rfl rfl rfl (og_call rfl rfl (by kernel_rfl) (keep_val fun w hS => bits_c (a := (es.getD i default).2))) ?_
        intro _
        refine WL.set 71 rfl (v' := .int .i64 ((bitsN (es.getD i default).2 : Nat) : Int)) (congrArg (Value.int .i64) (by rw [if_pos hz.1])) ?_
        refine WL.r rfl rfl rfl (rd_max2 rfl rfl rfl) ?_
        refine WL.set 72 rfl (v' := .int .i64 ((max most (bitsN (es.getD i default).2) : Nat) : Int)) (congrArg (Value.int .i64) (by omega)) ?_
        refine WL.r rfl rfl rfl (rd_assign rfl rfl) ?_
        refine WL.nil ?_
        refine WX.block_normal ?_
        refine WX.then_normal ?_
        refine WC.region ?_
        (refine WL.r rfl rfl rfl (rd_add64nl rfl rfl rfl ?_) ?_; (focus (omega)))
        refine WL.r rfl rfl rfl (rd_move rfl rfl) ?_
        refine WL.nil ?_
        refine WX.loopO ((i + 1, max most (bitsN (es.getD i default).2))) (by (try dsimp only); omega) (sub_cons rfl (sub_cons rfl (sub_cons rfl (sub_cons rfl (sub_cons rfl (sub_nil _)))))) (by refine (sub_cons ?_ (sub_cons ?_ (sub_nil _))) <;> (rfl)) ?_ (by exact fun w h => by rw [← strs_fill B' i l.length (by omega) hil, hB2]; (try rw [List.set_set] at h); exact h)
        (try dsimp only)
        exact ⟨hil, by omega, all_take hiZ (fun p hp => Nat.le_trans (hbt p hp) (Nat.le_max_left _ _)) (by rw [hZi]; exact Nat.le_max_right _ _)⟩
    · (try simp only [sB] at hc38)
      refine WC.exit ?_
      refine WX.then_exit ?_
      refine WX.then_exit ?_
      refine WX.block_exit ?_
      obtain rfl : i = l.length := by omega
      rw [Nat.sub_self, List.replicate_zero, List.append_nil, List.take_of_length_le (Nat.le_of_eq hBl)]
      rw [List.take_of_length_le (Nat.le_of_eq hZl)] at hbt
      have hBk : ∀ k, k < l.length → okN (B'.getD k default) ∧ (B'.getD k default).length ≤ 8 := fun k hk => by
        have hx := hel _ (getD_mem l k hk)
        rw [hB', map_getD2 _ _ _ (by omega), hZ, getD_zip hk (by omega), bsB]
        split
        · exact lt_len (invN_lt _ hp) hm8
        · exact ⟨hx.1, elG_len hx hm8⟩
      obtain ⟨PP, hPP⟩ : ∃ PP, PP = prsP (val g.1) Z := ⟨_, rfl⟩
      have hPl : PP.length = l.length := by rw [hPP, prsP, List.length_map, hZl]
      have hPk : ∀ k, k < l.length → PP.getD k default = (val (B'.getD k default), val (es.getD k default).2) := fun k hk => by
        rw [hPP, hB', map_getD2 _ _ _ (by omega), prsP, map_getD2 _ _ _ (by omega), hZ, getD_zip hk (by omega)]
      have hst := prs_start (m := val g.1) hbt
      rw [← hPP] at hst
      have hend := prs_end (m := val g.1) (l := Z) (fun q hq => by rw [hZ] at hq; exact hokz _ (List.of_mem_zip hq).2)
      rw [← hPP] at hend
      have hmk : ∀ k, okN (canon (k % val g.1)) ∧ (canon (k % val g.1)).length ≤ 8 := fun k => lt_len (Nat.mod_lt _ hp) hm8
      refine WX.then_normal ?_
      refine WC.sr ?_
      refine WL.g rfl rfl rfl (og_call rfl rfl (by kernel_rfl) (keep_val fun w hS => of_c (n := 1) (by omega))) ?_
      intro _
      refine WL.g rfl rfl rfl (og_alloc rfl (v := (.string (S []))) (cs := [.string (S [])]) (by kernel_rfl) rfl) ?_
      intro b15
      refine WL.g0 rfl rfl (st rfl rfl rfl .tc (by kernel_rfl) rfl ?_ (by (simp only [List.set_cons_zero, List.set_cons_succ]; rfl))) ?_
      · decide
      intro _
      refine WL.nt ?_
      refine WC.sr ?_
      refine WL.r rfl rfl rfl (rd_mkf rfl rfl rfl) ?_
      refine WL.r rfl rfl rfl (rd_assign rfl rfl) ?_
      refine WL.nt ?_
      refine WC.seq ?_
      refine WC.sr ?_
      refine WL.r rfl rfl rfl (rd_move rfl rfl) ?_
      (refine WL.r rfl rfl rfl (rd_sub64 rfl rfl rfl ?_) ?_; (focus (omega)))
      refine WL.r rfl rfl rfl (rd_assign rfl rfl) ?_
      refine WL.nt ?_
      refine WC.block ?_
      refine WC.loopO (σ := Nat × Int × Bs) [(2, _), (9, _), (15, _), (16, _)] (fun gq => [(17, .int .i64 gq.2.1)]) (fun gq => gq.1 ≤ most ∧ gq.2.1 = (gq.1 : Int) - 1 ∧ gq.2.2 = canon (prodL (atBit gq.1) PP % val g.1)) (fun gq => gq.1) (fun gq => [⟨some b15, [.string (S gq.2.2)], 22⟩, ⟨some b34, strs B', 22⟩, ⟨some b3, [.string (S g.1), .string (S g.2)], 26⟩]) (fun gq => [Fact.sl b (ints es)]) (most, (most : Int) - 1, canon 1) (sub_cons rfl (sub_cons rfl (sub_cons rfl (sub_cons rfl (sub_nil _))))) (sub_cons rfl (sub_nil _)) (by (try dsimp only); exact ⟨Nat.le_refl _, rfl, by rw [hst, Nat.mod_eq_of_lt (by omega)]⟩) (by (exact st_sub)) ?_
      rintro ⟨n, j, out⟩ hinv2; (try dsimp only at hinv2 ⊢)
      obtain ⟨hn, hj, hout⟩ := hinv2
      refine WC.seq ?_
      refine WC.sr ?_
      refine WL.r rfl rfl rfl (rd_move rfl rfl) ?_
      refine WL.r rfl rfl rfl (rd_geq rfl rfl rfl) ?_
      refine WL.nt ?_
      refine WC.cond rfl (fun hc79 => ?_) (fun hc79 => ?_)
      · (try simp only [sB] at hc79)
        obtain ⟨n', rfl⟩ : ∃ n', n = n' + 1 := ⟨n - 1, by omega⟩
        refine WC.set 17 rfl (v' := .int .i64 ((n' : Nat) : Int)) (by rw [hj]; congr 1; omega) ?_
        subst hout
        obtain ⟨Q, hQ⟩ : ∃ Q, Q = prodL (atBit (n' + 1)) PP % val g.1 * (prodL (atBit (n' + 1)) PP % val g.1) % val g.1 := ⟨_, rfl⟩
        have hQ0 : val (canon (prodL (atBit (n' + 1)) PP % val g.1)) * val (canon (prodL (atBit (n' + 1)) PP % val g.1)) % val g.1 = Q := by rw [val_canon, hQ]
        refine WC.skip ?_
        refine WX.then_normal ?_
        refine WC.seq ?_
        refine WC.block ?_
        refine WC.sr ?_
        refine WL.r rfl rfl rfl (rd_move rfl rfl) ?_
        refine WL.r rfl rfl rfl (ld rfl rfl .tc Tryz.underlying22 rfl (by rfl)) ?_
        refine WL.g rfl rfl rfl (og_callv rfl rfl rfl (by kernel_rfl) rfl (keep_st fun w hS => ptimes_c (p := b15) (q := b3) (out := canon (prodL (atBit (n' + 1)) PP % val g.1)) (x := canon (prodL (atBit (n' + 1)) PP % val g.1)) (g := g) hS (by exact (hmk _).1) (by exact (hmk _).2) (by exact (hmk _).1) (by exact (hmk _).2) (by exact hm) (by exact hm0) (by exact hm8))) ?_
        intro _
        refine WL.nt ?_
        refine WC.sr ?_
        refine WL.r rfl rfl rfl (rd_move rfl rfl) ?_
        refine WL.r rfl rfl rfl (rd_len rfl rfl Tryz.underlying31) ?_
        refine WL.r rfl rfl rfl (rd_move rfl rfl) ?_
        refine WL.nt ?_
        refine WC.block ?_
        refine WC.loopO (σ := Nat × Bs) [(2, _), (9, _), (15, _), (16, _), (17, _), (85, _), (86, _)] (fun gq => [(87, .int .i64 (gq.1 : Int))]) (fun gq => gq.1 ≤ l.length ∧ gq.2 = canon (Q * prodL (selB n') (PP.take gq.1) % val g.1)) (fun gq => l.length - gq.1) (fun gq => [⟨some b15, [.string (S gq.2)], 22⟩, ⟨some b34, strs B', 22⟩, ⟨some b3, [.string (S g.1), .string (S g.2)], 26⟩]) (fun gq => [Fact.sl b (ints es)]) (0, canon Q) (sub_cons rfl (sub_cons rfl (sub_cons rfl (sub_cons rfl (sub_cons rfl (sub_cons rfl (sub_cons rfl (sub_nil _)))))))) (sub_cons rfl (sub_nil _)) (by (try dsimp only); exact ⟨Nat.zero_le _, by rw [List.take_zero, prodL, Nat.mul_one, hQ, Nat.mod_mod]⟩) (by exact fun w h => by rw [hQ0] at h; exact h) ?_
        rintro ⟨k, o⟩ hinv3; (try dsimp only at hinv3 ⊢)
        obtain ⟨hk, ho⟩ := hinv3
        refine WC.sr ?_
        refine WL.r rfl rfl rfl (rd_lss rfl rfl rfl) ?_
        refine WL.nt ?_
        refine WC.seq ?_
        refine WC.cond rfl (fun hc88 => ?_) (fun hc88 => ?_)
        · (try simp only [sB] at hc88)
          have hkl : k < l.length := by omega
          have hz := hokz _ (getD_mem es k (by omega))
          subst ho
          have hsu := prodL_succ (selB n') PP k (by omega)
          rw [hPk k hkl, selB] at hsu
          refine WC.skip ?_
          refine WX.then_normal ?_
          refine WC.seq ?_
          refine WC.block ?_
          refine WC.sr ?_
          refine WL.r rfl rfl rfl (rd_move rfl rfl) ?_
          (refine WL.r rfl rfl rfl (rd_ia rfl rfl rfl Tryz.underlying31 (by kernel_rfl : _ = some 1) ?_ (by (try simp only [sN, Int.reduceToNat, Nat.reduceAdd, Nat.reduceMul, Nat.reduceSub]); rfl)) ?_; (focus (omega)))
          refine WL.r rfl rfl rfl (ld rfl rfl .tc Tryz.underlying22 rfl (map_getD B' _ k (by omega))) ?_
          refine WL.r rfl rfl rfl (rd_assign rfl rfl) ?_
          refine WL.r rfl rfl rfl (rd_assign rfl rfl) ?_
          refine WL.nt ?_
          refine WC.sr ?_
          refine WL.r rfl rfl rfl (rd_move rfl rfl) ?_
          refine WL.r rfl rfl rfl (rd_move rfl rfl) ?_
          (refine WL.r rfl rfl rfl (iaf rfl rfl rfl Tryz.underlying36 (by kernel_rfl : _ = some 2) ?_ ?_ (by (try simp only [sN, Int.reduceToNat, Nat.reduceAdd, Nat.reduceMul, Nat.reduceSub]); rfl)) ?_; (focus (omega)); (focus ((rw [flatMap_len _ _ 2 (fun _ => rfl)]; omega))))
          (refine WL.r rfl rfl rfl (faf rfl rfl Tryz.underlying41 rfl (by kernel_rfl) (by (try simp only [sN, Int.reduceToNat, Nat.reduceAdd, Nat.reduceMul, Nat.reduceSub]); rfl)) ?_)
          (refine WL.r rfl rfl rfl (ldmf (sz := 2) _ 1 rfl rfl Tryz.underlying22 rfl (fun _ => rfl) rfl ?_ (by decide) rfl) ?_; (focus (omega)))
          refine WL.r rfl rfl rfl (rd_move rfl rfl) ?_
          refine WL.g rfl rfl rfl (og_call rfl rfl (by kernel_rfl) (keep_val fun w hS => bitn_c (a := (es.getD k default).2) (i := n') (by omega))) ?_
          intro _
          refine WL.nt ?_
          refine WC.cond rfl (fun hc98 => ?_) (fun hc98 => ?_)
          · (try simp only [sB] at hc98)
            have hd : val (es.getD k default).2 / 2 ^ n' % 2 = 1 := by rw [bitA_nat hz.1, bitN] at hc98; simpa using hc98
            rw [if_pos hd] at hsu
            refine WC.region ?_
            refine WL.r rfl rfl rfl (rd_move rfl rfl) ?_
            refine WL.r rfl rfl rfl (rd_move rfl rfl) ?_
            refine WL.g rfl rfl rfl (og_callv rfl rfl rfl (by kernel_rfl) rfl (keep_st fun w hS => ptimes_c (p := b15) (q := b3) (out := canon (Q * prodL (selB n') (PP.take k) % val g.1)) (x := B'.getD k default) (g := g) hS (by exact (hmk _).1) (by exact (hmk _).2) (by exact (hBk _ hkl).1) (by exact (hBk _ hkl).2) (by exact hm) (by exact hm0) (by exact hm8))) ?_
            intro _
            refine WL.nil ?_
            refine WX.block_normal ?_
            refine WX.then_normal ?_
            refine WC.region ?_
            (refine WL.r rfl rfl rfl (rd_add64nl rfl rfl rfl ?_) ?_; (focus (omega)))
            refine WL.r rfl rfl rfl (rd_move rfl rfl) ?_
            refine WL.nil ?_
            refine WX.loopO ((k + 1, canon (Q * prodL (selB n') (PP.take (k + 1)) % val g.1))) (by (try dsimp only); omega) (sub_cons rfl (sub_cons rfl (sub_cons rfl (sub_cons rfl (sub_cons rfl (sub_cons rfl (sub_cons rfl (sub_nil _)))))))) (by refine (sub_cons ?_ (sub_nil _)) <;> (rfl)) ?_ (by exact fun w h => by rw [hsu, ← Nat.mul_assoc, ← mml (Q * _)]; rw [val_canon] at h; exact h)
            (try dsimp only)
            exact ⟨hkl, rfl⟩
          · (try simp only [sB] at hc98)
            have hd : ¬ val (es.getD k default).2 / 2 ^ n' % 2 = 1 := by rw [bitA_nat hz.1, bitN] at hc98; simpa using hc98
            rw [if_neg hd, Nat.mul_one] at hsu
            refine WC.skip ?_
            refine WX.block_normal ?_
            refine WX.then_normal ?_
            refine WC.region ?_
            (refine WL.r rfl rfl rfl (rd_add64nl rfl rfl rfl ?_) ?_; (focus (omega)))
            refine WL.r rfl rfl rfl (rd_move rfl rfl) ?_
            refine WL.nil ?_
            refine WX.loopO ((k + 1, canon (Q * prodL (selB n') (PP.take (k + 1)) % val g.1))) (by (try dsimp only); omega) (sub_cons rfl (sub_cons rfl (sub_cons rfl (sub_cons rfl (sub_cons rfl (sub_cons rfl (sub_cons rfl (sub_nil _)))))))) (by refine (sub_cons ?_ (sub_nil _)) <;> (rfl)) ?_ (by exact fun w h => by rw [hsu]; exact h)
            (try dsimp only)
            exact ⟨hkl, rfl⟩
        · (try simp only [sB] at hc88)
          refine WC.exit ?_
          refine WX.then_exit ?_
          refine WX.then_exit ?_
          refine WX.block_exit ?_
          obtain rfl : k = l.length := by omega
          rw [List.take_of_length_le (Nat.le_of_eq hPl)] at ho
          refine WX.block_normal ?_
          refine WX.then_normal ?_
          refine WC.region ?_
          refine WL.r rfl rfl rfl (rd_move rfl rfl) ?_
          (refine WL.r rfl rfl rfl (rd_sub64 rfl rfl rfl ?_) ?_; (focus (omega)))
          refine WL.r rfl rfl rfl (rd_assign rfl rfl) ?_
          refine WL.nil ?_
          refine WX.loopO ((n', (n' : Int) - 1, o)) (by (try dsimp only); omega) (sub_cons rfl (sub_cons rfl (sub_cons rfl (sub_cons rfl (sub_nil _))))) (by refine (sub_cons ?_ (sub_nil _)) <;> (rfl)) ?_ (by (exact fun _ h => h))
          (try dsimp only)
          exact ⟨by omega, rfl, by rw [ho, hQ]; exact congrArg canon (prod_bit _ _ _)⟩
      · (try simp only [sB] at hc79)
        refine WC.exit ?_
        refine WX.then_exit ?_
        refine WX.then_exit ?_
        refine WX.block_exit ?_
        obtain rfl : n = 0 := by omega
        rw [hend] at hout
        refine WX.then_normal ?_
        refine WC.sr ?_
        refine WL.r rfl rfl rfl (ld rfl rfl .tc Tryz.underlying22 rfl (by rfl)) ?_
        refine WL.r rfl rfl rfl (rd_assign rfl rfl) ?_
        refine WL.r rfl rfl rfl (rd_assign rfl rfl) ?_
        refine WL.nt ?_
        refine WC.ret ?_
        exact WX.retN rfl (.tmp rfl (.tmp rfl .nil)) fun w' hS => ⟨by rw [hr, ← hout]; rfl, hS.below⟩
end Go.Proofs.YtbcnnkcddilfjaaGreat
