/-
  integer: the reference's extended algorithm of Euclid.
-/
import Derived.Test.YtbcnnkcddilfjaaGreatInt2
import Derived.Test.YtbcnnkcddilfjaaGreatMod
namespace Go.Proofs.YtbcnnkcddilfjaaGreat
set_option linter.unusedSimpArgs false
set_option linter.unusedVariables false
set_option maxRecDepth 20000
set_option maxHeartbeats 600000
open Go.RowKit

theorem fromZ_of {n : Nat} (h : n < Big) : fromZ (canon n) = ofZ n := by rw [fromZ_ok (okN_can h), ofZ_nat]
theorem mulN_of {a b : Nat} (ha : a < Big) (hb : b < Big) : mulN (canon a) (canon b) = if a * b < Big then (canon (a * b), 0) else ([], 5) := by rw [mulN, if_pos ⟨okN_can ha, okN_can hb⟩, val_canon, val_canon]
theorem mulZ_of {a b : Int} (ha : a.natAbs < Big) (hb : b.natAbs < Big) (h : (a * b).natAbs < Big) : mulZ (ofZ a) (ofZ b) = (ofZ (a * b), 0) := by
  rw [mulZ, if_pos ⟨okZ_ofZ.2 ha, okZ_ofZ.2 hb⟩]
  rw [ofZ_eq a, ofZ_eq b]
  simp only
  rw [mulN_of ha hb, ← Int.natAbs_mul, if_pos h]
  show (mkZ _ (canon (a * b).natAbs), (0 : Int)) = _
  rw [mkZ_of]
  congr 2
  rw [Int.natAbs_mul]
  by_cases h1 : a < 0 <;> by_cases h2 : b < 0
  · rw [decide_eq_true h1, decide_eq_true h2]
    obtain ⟨m, rfl⟩ : ∃ m : Nat, a = -(m : Int) := ⟨a.natAbs, by omega⟩
    obtain ⟨n, rfl⟩ : ∃ n : Nat, b = -(n : Int) := ⟨b.natAbs, by omega⟩
    simp [Int.neg_mul, Int.mul_neg]
  · rw [decide_eq_true h1, decide_eq_false h2]
    obtain ⟨m, rfl⟩ : ∃ m : Nat, a = -(m : Int) := ⟨a.natAbs, by omega⟩
    obtain ⟨n, rfl⟩ : ∃ n : Nat, b = (n : Int) := ⟨b.natAbs, by omega⟩
    simp [Int.neg_mul, Int.mul_neg]
  · rw [decide_eq_false h1, decide_eq_true h2]
    obtain ⟨m, rfl⟩ : ∃ m : Nat, a = (m : Int) := ⟨a.natAbs, by omega⟩
    obtain ⟨n, rfl⟩ : ∃ n : Nat, b = -(n : Int) := ⟨b.natAbs, by omega⟩
    simp [Int.neg_mul, Int.mul_neg]
  · rw [decide_eq_false h1, decide_eq_false h2]
    obtain ⟨m, rfl⟩ : ∃ m : Nat, a = (m : Int) := ⟨a.natAbs, by omega⟩
    obtain ⟨n, rfl⟩ : ∃ n : Nat, b = (n : Int) := ⟨b.natAbs, by omega⟩
    simp [Int.neg_mul, Int.mul_neg]
theorem subZ_ok {a b : Int} (ha : a.natAbs < Big) (hb : b.natAbs < Big) (h : (a - b).natAbs < Big) : subZ (ofZ a) (ofZ b) = (ofZ (a - b), 0) := by rw [subZ_of ha hb, if_pos h]
theorem divN_of {a b : Nat} (ha : a < Big) (hb : b < Big) (h0 : 0 < b) : divN (canon a) (canon b) = ((canon (a / b), canon (a % b)), 0) := by
  rw [divN_ok (okN_can ha) (okN_can hb) (by rw [ne_eq, canon_nil]; omega), val_canon, val_canon]
/-- the rest of a division -/
theorem dm_rest {n : Int} {m : Nat} (hn : n.natAbs < Big) (hm : m < Big) (h0 : 0 < m) : (dmZ (ofZ n) (false, canon m)).1.2 = canon (n % m).toNat ∧ (dmZ (ofZ n) (false, canon m)).2 = 0 := by
  have hok : okZ (ofZ n) ∧ okZ (false, canon m) := ⟨okZ_ofZ.2 hn, okN_can hm, by simp⟩
  have h1 : ¬ (canon m = []) := by rw [canon_nil]; omega
  have hr := Nat.mod_lt n.natAbs h0
  have hd := Nat.div_add_mod n.natAbs m
  rw [dmZ, if_pos hok, if_neg h1]
  rw [ofZ_eq]
  simp only [val_canon, decide_eq_true_eq]
  by_cases h2 : n < 0
  · by_cases h3 : n.natAbs % m = 0
    · rw [if_neg (fun h => h.2 h3)]
      refine ⟨?_, rfl⟩
      show canon (n.natAbs % m) = _
      rw [h3]; congr 1
      have : n % m = 0 := Int.emod_eq_zero_of_dvd (by
        obtain ⟨q, hq⟩ := Nat.dvd_of_mod_eq_zero h3
        exact ⟨-(q : Int), by rw [Int.mul_neg, ← Int.natCast_mul, ← hq]; omega⟩)
      rw [this]; rfl
    · rw [if_pos ⟨h2, h3⟩]
      refine ⟨?_, rfl⟩
      show canon (m - n.natAbs % m) = _
      congr 1
      have e : n = (m - n.natAbs % m : Nat) + m * (-((n.natAbs / m : Nat) : Int) - 1) := by
        have e1 : (m : Int) * (-((n.natAbs / m : Nat) : Int) - 1) = -((m * (n.natAbs / m) : Nat) : Int) - m := by rw [Int.mul_sub, Int.mul_neg, Int.natCast_mul]; omega
        rw [e1]; omega
      rw [e, Int.add_mul_emod_self_left, Int.emod_eq_of_lt (by omega) (by omega), ← e]; rfl
  · rw [if_neg (fun h => h2 h.1)]
    refine ⟨?_, rfl⟩
    show canon (n.natAbs % m) = _
    congr 1
    obtain ⟨k, rfl⟩ : ∃ k : Nat, n = k := ⟨n.natAbs, by omega⟩
    rw [Int.natAbs_natCast, ← Int.natCast_emod, Int.toNat_natCast]
/-- coefficients of the greatest common divisor -/
def bezI (a b : Nat) : Int × Int := if h : b = 0 then (1, 0) else ((bezI b (a % b)).2, (bezI b (a % b)).1 - (a / b : Nat) * (bezI b (a % b)).2)
termination_by b
decreasing_by all_goals exact Nat.mod_lt a (Nat.pos_of_ne_zero h)
theorem bez_zero (a : Nat) : bezI a 0 = (1, 0) := by rw [bezI, dif_pos rfl]
theorem bez_step {a b : Nat} (h : 0 < b) : bezI a b = ((bezI b (a % b)).2, (bezI b (a % b)).1 - (a / b : Nat) * (bezI b (a % b)).2) := by rw [bezI, dif_neg (by omega)]
theorem bez_eq (b : Nat) : ∀ a : Nat, (a : Int) * (bezI a b).1 + b * (bezI a b).2 = Nat.gcd a b := by
  induction b using Nat.strongRecOn with
  | _ b ih =>
    intro a
    rcases Nat.eq_zero_or_pos b with h | h
    · subst h; rw [bez_zero]; simp
    · have h1 := ih (a % b) (Nat.mod_lt _ h) b
      rw [bez_step h, ← gcd_rec', ← h1]
      generalize bezI b (a % b) = p
      have e : (a : Int) = b * (a / b : Nat) + (a % b : Nat) := by rw [← Int.natCast_mul, ← Int.natCast_add, Nat.div_add_mod]
      generalize ((a / b : Nat) : Int) = q at *
      generalize ((a % b : Nat) : Int) = r at *
      simp only
      rw [e, Int.mul_sub, Int.add_mul, Int.mul_assoc]; omega
theorem bez_bd (b : Nat) : ∀ a : Nat, 0 < b → (bezI a b).1.natAbs ≤ b ∧ (bezI a b).2.natAbs ≤ max a 1 ∧ a / b * (bezI b (a % b)).2.natAbs ≤ a ∧ (bezI b (a % b)).1.natAbs ≤ b ∧ (bezI b (a % b)).2.natAbs ≤ b := by
  induction b using Nat.strongRecOn with
  | _ b ih =>
    intro a h
    have hd := Nat.div_add_mod a b
    rcases Nat.eq_zero_or_pos (a % b) with h0 | h0
    · rw [bez_step h, h0, bez_zero]
      simp; omega
    · obtain ⟨h1, h2, _⟩ := ih (a % b) (Nat.mod_lt _ h) b h0
      have hlt := Nat.mod_lt a h
      rw [bez_step h]
      generalize bezI b (a % b) = p at *
      have h3 : p.2.natAbs ≤ b := by omega
      have h4 : a / b * p.2.natAbs ≤ a / b * b := Nat.mul_le_mul_left _ h3
      have h5 : ((a / b : Nat) * p.2).natAbs = a / b * p.2.natAbs := by rw [Int.natAbs_mul, Int.natAbs_natCast]
      rw [Nat.mul_comm b] at hd
      refine ⟨h3, ?_, by omega, by omega, h3⟩
      simp only
      have := Int.natAbs_sub_le p.1 ((a / b : Nat) * p.2)
      omega
abbrev BE (a b : Bs) : Value := .tuple #[.string (S (canon (Nat.gcd (val a) (val b)))), zV (ofZ (bezI (val a) (val b)).1), zV (ofZ (bezI (val a) (val b)).2)]
theorem rbez_step {a b : Bs} {w : World} (ha : okN a) (hb : okN b) (hih : ∀ b' : Bs, val b' < val b → okN b' → ∀ (a' : Bs) (w : World), okN a' → Calls Tryz.prog 127 #[.string (S a'), .string (S b')] w fun e w' => e = .returned (BE a' b') ∧ Below w.heap.size w w') :
    Calls Tryz.prog 127 #[.string (S a), .string (S b)] w fun e w' => e = .returned (BE a b) ∧ Below w.heap.size w w' := by
  refine enter (S := St (fun _ => True) w [] ([])) (L := [(0, .string (S a)), (1, .string (S b))]) Tryz.func127 rfl Tryz.ntmps127 rfl (args_cons rfl (args_cons rfl (args_nil _))) (St.start (fun _ _ => trivial) facts_nil) ?_
  refine WC.sr ?_
  refine WL.r rfl rfl rfl (rd_assign rfl rfl) ?_
  refine WL.g rfl rfl rfl (og_alloc rfl (v := (.agg #[.bool false, .string (S [])])) (cs := [.bool false, .string (S [])]) (by kernel_rfl) rfl) ?_
  intro b5
  refine WL.g rfl rfl rfl (og_alloc rfl (v := (.agg #[.bool false, .string (S [])])) (cs := [.bool false, .string (S [])]) (by kernel_rfl) rfl) ?_
  intro b6
  refine WL.nt ?_
  refine WC.seq ?_
  refine WC.sr ?_
  refine WL.r rfl rfl rfl (rd_move rfl rfl) ?_
  refine WL.r rfl rfl rfl (rd_seq rfl rfl rfl) ?_
  refine WL.nt ?_
  refine WC.cond rfl (fun hc18 => ?_) (fun hc18 => ?_)
  · (try simp only [sB] at hc18)
    obtain rfl : b = [] := by simpa using hc18
    have hg0 : canon (Nat.gcd (val a) (val [])) = a := by rw [show val [] = 0 from rfl, Nat.gcd_zero_right, ok_canon ha]
    refine WC.sr ?_
    refine WL.r rfl rfl rfl (rd_move rfl rfl) ?_
    refine WL.g rfl rfl rfl (og_call rfl rfl (by kernel_rfl) (keep_val fun w hS => rzof_c (n := 1) (by omega) (by omega))) ?_
    intro _
    refine WL.g rfl rfl rfl (og_call rfl rfl (by kernel_rfl) (keep_val fun w hS => rzof_c (n := 0) (by omega) (by omega))) ?_
    intro _
    refine WL.r rfl rfl rfl (rd_assign rfl rfl) ?_
    refine WL.g0 rfl rfl (sta rfl rfl rfl .tc ?_ ?_ ?_) ?_
    · kernel_rfl
    · simp [Value.oneCell']
    · rfl
    intro _
    refine WL.g0 rfl rfl (sta rfl rfl rfl .tc ?_ ?_ ?_) ?_
    · kernel_rfl
    · simp [Value.oneCell']
    · rfl
    intro _
    refine WL.nt ?_
    refine WC.ret ?_
    refine WX.then_ret ?_
    exact WX.retN rfl (.tmp rfl (.agg rfl .tc Tryz.underlying41 rfl (by kernel_rfl) (.agg rfl .tc Tryz.underlying41 rfl (by kernel_rfl) .nil))) fun w' hS => ⟨by rw [BE, hg0, show val [] = 0 from rfl, bez_zero]; rfl, hS.below⟩
  · (try simp only [sB] at hc18)
    have hb0 : b ≠ [] := by simpa using hc18
    have hvb : 0 < val b := Nat.pos_of_ne_zero fun e => hb0 ((val_eq_zero hb.2).1 e)
    have hdv := divN_ok ha hb hb0
    have hmd := Nat.mod_lt (val a) hvb
    have hbB := okN_val hb; have haB := okN_val ha
    have hdl := Nat.div_le_self (val a) (val b)
    have hor : okN (canon (val a % val b)) := okN_can (by omega)
    have hbst := bez_step (a := val a) hvb
    obtain ⟨hd1, hd2, hd3, hd4, hd5⟩ := bez_bd (val b) (val a) hvb
    have hB1 : 1 < Big := Nat.lt_of_lt_of_le (by decide) big64
    have hq3 : (((val a / val b : Nat) : Int) * (bezI (val b) (val a % val b)).2).natAbs ≤ val a := by rw [Int.natAbs_mul, Int.natAbs_natCast]; exact hd3
    have hmz : mulZ (fromZ (canon (val a / val b))) (ofZ (bezI (val b) (val a % val b)).2) = (ofZ ((val a / val b : Nat) * (bezI (val b) (val a % val b)).2), 0) := by
      rw [fromZ_of (by omega)]
      exact mulZ_of (by rw [Int.natAbs_natCast]; omega) (by omega) (by omega)
    have hsz : subZ (ofZ (bezI (val b) (val a % val b)).1) (ofZ ((val a / val b : Nat) * (bezI (val b) (val a % val b)).2)) = (ofZ (bezI (val a) (val b)).2, 0) := by
      rw [hbst] at hd2
      have e := subZ_ok (a := (bezI (val b) (val a % val b)).1) (b := (val a / val b : Nat) * (bezI (val b) (val a % val b)).2) (by omega) (by omega) (by simp only at hd2; omega)
      rw [e, hbst]
    have hx1 : (bezI (val b) (val a % val b)).2 = (bezI (val a) (val b)).1 := by rw [hbst]
    have hgg := gcd_rec' (val a) (val b)
    refine WC.skip ?_
    refine WX.then_normal ?_
    refine WC.sr ?_
    refine WL.r rfl rfl rfl (rd_move rfl rfl) ?_
    refine WL.r rfl rfl rfl (rd_move rfl rfl) ?_
    refine WL.g rfl rfl rfl (og_call rfl rfl (by kernel_rfl) (keep_val fun w hS => (by have := rdivmod_c (w := w) (a := a) (b := b); rw [hdv] at this; exact this))) ?_
    intro _
    refine WL.r rfl rfl rfl (rd_move rfl rfl) ?_
    refine WL.r rfl rfl rfl (rd_extL rfl rfl rfl) ?_
    refine WL.r rfl rfl rfl (rd_extL rfl rfl rfl) ?_
    refine WL.r rfl rfl rfl (rd_extL rfl rfl rfl) ?_
    refine WL.r rfl rfl rfl (rd_assign rfl rfl) ?_
    refine WL.r rfl rfl rfl (rd_assign rfl rfl) ?_
    refine WL.r rfl rfl rfl (rd_assign rfl rfl) ?_
    refine WL.nt ?_
    refine WC.sr ?_
    refine WL.r rfl rfl rfl (rd_move rfl rfl) ?_
    refine WL.r rfl rfl rfl (rd_move rfl rfl) ?_
    refine WL.g rfl rfl rfl (og_call rfl rfl (by kernel_rfl) (keep_val fun w hS => (by have := hih (canon (val a % val b)) (by rw [val_canon]; exact hmd) hor b w hb; rw [BE, val_canon, hgg] at this; exact this))) ?_
    intro _
    refine WL.r rfl rfl rfl (rd_move rfl rfl) ?_
    refine WL.r rfl rfl rfl (rd_extL rfl rfl rfl) ?_
    refine WL.r rfl rfl rfl (rd_extL rfl rfl rfl) ?_
    refine WL.r rfl rfl rfl (rd_extL rfl rfl rfl) ?_
    refine WL.g rfl rfl rfl (og_alloc rfl (v := (.agg #[.bool false, .string (S [])])) (cs := [.bool false, .string (S [])]) (by kernel_rfl) rfl) ?_
    intro b11
    refine WL.g rfl rfl rfl (og_alloc rfl (v := (.agg #[.bool false, .string (S [])])) (cs := [.bool false, .string (S [])]) (by kernel_rfl) rfl) ?_
    intro b12
    refine WL.r rfl rfl rfl (rd_assign rfl rfl) ?_
    refine WL.g0 rfl rfl (sta rfl rfl rfl .tc ?_ ?_ ?_) ?_
    · kernel_rfl
    · simp [Value.oneCell']
    · rfl
    intro _
    refine WL.g0 rfl rfl (sta rfl rfl rfl .tc ?_ ?_ ?_) ?_
    · kernel_rfl
    · simp [Value.oneCell']
    · rfl
    intro _
    refine WL.nt ?_
    refine WC.seq ?_
    refine WC.free0 [0, 1, 2, 3, 4, 5, 7, 8, 6, 9] [] [0, 1, 0, 1, 0, 0, 0, 3, 1, 0] (by kernel_rfl) (by kernel_rfl) rfl ?_
    refine WJ.r rfl rfl rfl rfl rfl (rd_move rfl rfl) ?_
    refine WJ.gv rfl rfl rfl rfl rfl (fun ext => og_call rfl rfl (by kernel_rfl) (keep_val fun w hS => rfrom_c (a := canon (val a / val b)))) ?_
    refine WJ.r rfl rfl rfl rfl rfl (lda rfl rfl .tc Tryz.underlying41 rfl ?_) ?_
    · kernel_rfl
    refine WJ.gv rfl rfl rfl rfl rfl (fun ext => og_call rfl rfl (by kernel_rfl) (keep_val fun w hS => (by have := rzmul_c (w := w) (x := fromZ (canon (val a / val b))) (y := ofZ (bezI (val b) (val a % val b)).2); rw [hmz] at this; exact this))) ?_
    refine WJ.r rfl rfl rfl rfl rfl (rd_move rfl rfl) ?_
    refine WJ.r rfl rfl rfl rfl rfl (rd_extL rfl rfl rfl) ?_
    refine WJ.f rfl rfl rfl rfl rfl (fr_alloc rfl (v := (.agg #[.bool false, .string (S [])])) (cs := [.bool false, .string (S [])]) (by kernel_rfl) rfl) ?_
    intro b13
    refine WJ.st rfl rfl rfl rfl (staJ rfl rfl rfl ?_ ?_ ?_) ?_
    · kernel_rfl
    · simp [Value.oneCell']
    · rfl
    refine WJ.r rfl rfl rfl rfl rfl (rd_extL rfl rfl rfl) ?_
    refine WJ.r rfl rfl rfl rfl rfl (rd_assign rfl rfl) ?_
    refine WJ.nil ?_
    refine WL.nt ?_
    refine WC.sr ?_
    refine WL.r rfl rfl rfl (lda rfl rfl .tc Tryz.underlying41 rfl ?_) ?_
    · kernel_rfl
    refine WL.r rfl rfl rfl (lda rfl rfl .tc Tryz.underlying41 rfl ?_) ?_
    · kernel_rfl
    refine WL.g rfl rfl rfl (og_call rfl rfl (by kernel_rfl) (keep_val fun w hS => (by have := rzsub_c (w := w) (x := ofZ (bezI (val b) (val a % val b)).1) (y := ofZ ((val a / val b : Nat) * (bezI (val b) (val a % val b)).2)); rw [hsz] at this; exact this))) ?_
    intro _
    refine WL.r rfl rfl rfl (rd_move rfl rfl) ?_
    refine WL.r rfl rfl rfl (rd_extL rfl rfl rfl) ?_
    refine WL.r rfl rfl rfl (rd_extL rfl rfl rfl) ?_
    refine WL.g rfl rfl rfl (og_alloc rfl (v := (.agg #[.bool false, .string (S [])])) (cs := [.bool false, .string (S [])]) (by kernel_rfl) rfl) ?_
    intro b15
    refine WL.g0 rfl rfl (sta rfl rfl rfl .tc ?_ ?_ ?_) ?_
    · kernel_rfl
    · simp [Value.oneCell']
    · rfl
    intro _
    refine WL.r rfl rfl rfl (rd_assign rfl rfl) ?_
    refine WL.nt ?_
    refine WC.seq ?_
    refine WC.free (K := [⟨some b15, [.bool (ofZ (bezI (val a) (val b)).2).1, .string (S (ofZ (bezI (val a) (val b)).2).2)], 41⟩, ⟨some b12, [.bool (ofZ (bezI (val b) (val a % val b)).2).1, .string (S (ofZ (bezI (val b) (val a % val b)).2).2)], 41⟩]) (fs0 := []) [0, 1, 3, 4, 2] [5] [0, 0, 0, 0, 1, 2] (by kernel_rfl) (by kernel_rfl) rfl ?_
    refine WJ.r rfl rfl rfl rfl rfl (rd_move rfl rfl) ?_
    refine WJ.r rfl rfl rfl rfl rfl (lda rfl rfl .tc Tryz.underlying41 rfl ?_) ?_
    · kernel_rfl
    refine WJ.r rfl rfl rfl rfl rfl (rd_assign rfl rfl) ?_
    refine WJ.st rfl rfl rfl rfl (staJ rfl rfl rfl ?_ ?_ ?_) ?_
    · kernel_rfl
    · simp [Value.oneCell']
    · rfl
    refine WJ.r rfl rfl rfl rfl rfl (lda rfl rfl .tc Tryz.underlying41 rfl ?_) ?_
    · kernel_rfl
    refine WJ.nil ?_
    refine WL.g0 rfl rfl (sta rfl rfl rfl .tc ?_ ?_ ?_) ?_
    · kernel_rfl
    · simp [Value.oneCell']
    · rfl
    intro _
    refine WL.nt ?_
    refine WC.ret ?_
    exact WX.retN rfl (.tmp rfl (.agg rfl .tc Tryz.underlying41 rfl (by kernel_rfl) (.agg rfl .tc Tryz.underlying41 rfl (by kernel_rfl) .nil))) fun w' hS => ⟨by rw [hx1]; rfl, hS.below⟩
theorem rbez_c {a b : Bs} {w : World} (ha : okN a) (hb : okN b) :
    Calls Tryz.prog 127 #[.string (S a), .string (S b)] w fun e w' => e = .returned (BE a b) ∧ Below w.heap.size w w' :=
  (by
have key : ∀ n (b : Bs), val b = n → okN b → ∀ (a : Bs) (w : World), okN a → Calls Tryz.prog 127 #[.string (S a), .string (S b)] w fun e w' => e = .returned (BE a b) ∧ Below w.heap.size w w' := by
  intro n
  induction n using Nat.strongRecOn with
  | _ n ih => intro b hbn hb a w ha; exact rbez_step ha hb fun b' hlt hb' a' w' ha' => ih (val b') (by omega) b' rfl hb' a' w' ha'
exact key _ b rfl hb a w ha)
theorem rext_c {a b : Bs} {w : World} {ok : Nat → Prop} (ha : okN a) (hb : okN b) (hb0 : b ≠ []) :
    Calls Tryz.prog 119 #[.string (S a), .string (S b)] w fun e w' => ∃ gx : Zs, e = .returned (.tuple #[.string (S (canon (Nat.gcd (val a) (val b)))), zV (ofZ (((bezI (val a) (val b)).1 % ((val b / Nat.gcd (val a) (val b) : Nat) : Int)).toNat : Int)), zV gx, .int .i64 0]) ∧ (True) ∧ Below w.heap.size w w' ∧ ∀ x ∈ ([] : List Fact), x.holds (fun b => ok b ∨ w.heap.size ≤ b) w' := by
  have hvb : 0 < val b := Nat.pos_of_ne_zero fun e => hb0 ((val_eq_zero hb.2).1 e)
  have hbB := okN_val hb; have haB := okN_val ha
  obtain ⟨g, hg⟩ : ∃ g, g = Nat.gcd (val a) (val b) := ⟨_, rfl⟩
  have hg0 : 0 < g := by rw [hg]; exact Nat.gcd_pos_of_pos_right _ hvb
  have hgl : g ≤ val b := by rw [hg]; exact Nat.le_of_dvd hvb (Nat.gcd_dvd_right _ _)
  have hbg : 0 < val b / g := Nat.div_pos hgl hg0
  have hbl := Nat.div_le_self (val b) g; have hal := Nat.div_le_self (val a) g
  rw [← hg]
  obtain ⟨hd1, hd2, _⟩ := bez_bd (val b) (val a) hvb
  obtain ⟨X, hX⟩ : ∃ X, X = (bezI (val a) (val b)).1 := ⟨_, rfl⟩
  obtain ⟨Z, hZ⟩ : ∃ X, X = (bezI (val a) (val b)).2 := ⟨_, rfl⟩
  rw [← hX] at hd1 ⊢
  have hdm := dm_rest (n := X) (m := val b / g) (by omega) (by omega) hbg
  have hXr : (X % ((val b / g : Nat) : Int)).toNat < Big := by
    have h1 := Int.emod_lt_of_pos X (b := ((val b / g : Nat) : Int)) (by omega)
    have h2 := Int.emod_nonneg X (b := ((val b / g : Nat) : Int)) (by omega)
    generalize X % ((val b / g : Nat) : Int) = q at *
    omega
  have hdvb : divN b (canon g) = ((canon (val b / g), canon (val b % g)), 0) := by rw [divN_ok hb (okN_can (by omega)) (by rw [ne_eq, canon_nil]; omega), val_canon]
  have hdva : divN a (canon g) = ((canon (val a / g), canon (val a % g)), 0) := by rw [divN_ok ha (okN_can (by omega)) (by rw [ne_eq, canon_nil]; omega), val_canon]
  obtain ⟨dq, hdq⟩ : ∃ q, q = (dmZ (ofZ X) (false, canon (val b / g))).1.1 := ⟨_, rfl⟩
  have hdm2 : dmZ (ofZ X) (fromZ (canon (val b / g))) = ((dq, canon (X % ((val b / g : Nat) : Int)).toNat), 0) := by
    rw [fromZ_ok (okN_can (by omega)), hdq, ← hdm.1]
    conv => rhs; rw [← hdm.2]
  refine enter (S := St (fun b => ok b ∨ w.heap.size ≤ b) w [] ([])) (L := [(0, .string (S a)), (1, .string (S b))]) Tryz.func119 rfl Tryz.ntmps119 rfl (args_cons rfl (args_cons rfl (args_nil _))) (St.start (fun _ h => Or.inr h) (facts_or facts_nil)) ?_
  refine WC.sr ?_
  refine WL.r rfl rfl rfl (rd_assign rfl rfl) ?_
  refine WL.g rfl rfl rfl (og_alloc rfl (v := (.agg #[.bool false, .string (S [])])) (cs := [.bool false, .string (S [])]) (by kernel_rfl) rfl) ?_
  intro b5
  refine WL.g rfl rfl rfl (og_alloc rfl (v := (.agg #[.bool false, .string (S [])])) (cs := [.bool false, .string (S [])]) (by kernel_rfl) rfl) ?_
  intro b6
  refine WL.r rfl rfl rfl (rd_assign rfl rfl) ?_
  refine WL.nt ?_
  refine WC.seq ?_
  refine WC.sr ?_
  refine WL.r rfl rfl rfl (rd_move rfl rfl) ?_
  refine WL.g rfl rfl rfl (og_call rfl rfl (by kernel_rfl) (keep_val fun w hS => rvalid_c)) ?_
  intro _
  refine WL.set 23 rfl (v' := .bool true) (by rw [decide_eq_true ha]) ?_
  refine WL.r rfl rfl rfl (rd_not rfl rfl) ?_
  refine WL.r rfl rfl rfl (rd_move rfl rfl) ?_
  refine WL.r rfl rfl rfl (rd_move rfl rfl) ?_
  refine WL.g rfl rfl rfl (og_call rfl rfl (by kernel_rfl) (keep_val fun w hS => rvalid_c)) ?_
  intro _
  refine WL.set 27 rfl (v' := .bool true) (by rw [decide_eq_true hb]) ?_
  refine WL.r rfl rfl rfl (rd_not rfl rfl) ?_
  refine WL.r rfl rfl rfl (rd_pickf rfl rfl rfl) ?_
  refine WL.nt ?_
  refine WC.cond rfl (fun h => by cases h) (fun _ => ?_)
  refine WC.skip ?_
  refine WX.then_normal ?_
  refine WC.seq ?_
  refine WC.sr ?_
  refine WL.r rfl rfl rfl (rd_move rfl rfl) ?_
  refine WL.r rfl rfl rfl (rd_seq rfl rfl rfl) ?_
  refine WL.nt ?_
  refine WC.cond rfl (fun hc33 => by exfalso; (try simp only [sB] at hc33); simp_all) (fun hc33 => ?_)
  (try simp only [sB] at hc33)
  refine WC.skip ?_
  refine WX.then_normal ?_
  refine WC.sr ?_
  refine WL.r rfl rfl rfl (rd_move rfl rfl) ?_
  refine WL.r rfl rfl rfl (rd_move rfl rfl) ?_
  refine WL.g rfl rfl rfl (og_call rfl rfl (by kernel_rfl) (keep_val fun w hS => (by have := rbez_c (w := w) ha hb; rw [BE, ← hg, ← hX, ← hZ] at this; exact this))) ?_
  intro _
  refine WL.r rfl rfl rfl (rd_move rfl rfl) ?_
  refine WL.r rfl rfl rfl (rd_extL rfl rfl rfl) ?_
  refine WL.r rfl rfl rfl (rd_extL rfl rfl rfl) ?_
  refine WL.r rfl rfl rfl (rd_extL rfl rfl rfl) ?_
  refine WL.g rfl rfl rfl (og_alloc rfl (v := (.agg #[.bool false, .string (S [])])) (cs := [.bool false, .string (S [])]) (by kernel_rfl) rfl) ?_
  intro b9
  refine WL.g rfl rfl rfl (og_alloc rfl (v := (.agg #[.bool false, .string (S [])])) (cs := [.bool false, .string (S [])]) (by kernel_rfl) rfl) ?_
  intro b10
  refine WL.r rfl rfl rfl (rd_assign rfl rfl) ?_
  refine WL.g0 rfl rfl (sta rfl rfl rfl .tc ?_ ?_ ?_) ?_
  · kernel_rfl
  · simp [Value.oneCell']
  · rfl
  intro _
  refine WL.g0 rfl rfl (sta rfl rfl rfl .tc ?_ ?_ ?_) ?_
  · kernel_rfl
  · simp [Value.oneCell']
  · rfl
  intro _
  refine WL.nt ?_
  refine WC.sr ?_
  refine WL.r rfl rfl rfl (rd_move rfl rfl) ?_
  refine WL.r rfl rfl rfl (rd_move rfl rfl) ?_
  refine WL.g rfl rfl rfl (og_call rfl rfl (by kernel_rfl) (keep_val fun w hS => (by have := rdivmod_c (w := w) (a := b) (b := canon g); rw [hdvb] at this; exact this))) ?_
  intro _
  refine WL.r rfl rfl rfl (rd_move rfl rfl) ?_
  refine WL.r rfl rfl rfl (rd_extL rfl rfl rfl) ?_
  refine WL.r rfl rfl rfl (rd_extL rfl rfl rfl) ?_
  refine WL.r rfl rfl rfl (rd_extL rfl rfl rfl) ?_
  refine WL.r rfl rfl rfl (rd_assign rfl rfl) ?_
  refine WL.r rfl rfl rfl (rd_assign rfl rfl) ?_
  refine WL.r rfl rfl rfl (rd_assign rfl rfl) ?_
  refine WL.nt ?_
  refine WC.sr ?_
  refine WL.r rfl rfl rfl (rd_move rfl rfl) ?_
  refine WL.r rfl rfl rfl (rd_move rfl rfl) ?_
  refine WL.g rfl rfl rfl (og_call rfl rfl (by kernel_rfl) (keep_val fun w hS => (by have := rdivmod_c (w := w) (a := a) (b := canon g); rw [hdva] at this; exact this))) ?_
  intro _
  refine WL.r rfl rfl rfl (rd_move rfl rfl) ?_
  refine WL.r rfl rfl rfl (rd_extL rfl rfl rfl) ?_
  refine WL.r rfl rfl rfl (rd_extL rfl rfl rfl) ?_
  refine WL.r rfl rfl rfl (rd_extL rfl rfl rfl) ?_
  refine WL.r rfl rfl rfl (rd_assign rfl rfl) ?_
  refine WL.r rfl rfl rfl (rd_assign rfl rfl) ?_
  refine WL.r rfl rfl rfl (rd_assign rfl rfl) ?_
  refine WL.nt ?_
  refine WC.seq ?_
  refine WC.free0 [1, 2, 0, 3, 4, 5, 8, 9, 6, 7, 10, 11] [] [0, 0, 1, 1, 0, 0, 0, 0, 3, 1, 0, 0] (by kernel_rfl) (by kernel_rfl) rfl ?_
  refine WJ.r rfl rfl rfl rfl rfl (rd_move rfl rfl) ?_
  refine WJ.gv rfl rfl rfl rfl rfl (fun ext => og_call rfl rfl (by kernel_rfl) (keep_val fun w hS => rfrom_c (a := canon (val b / g)))) ?_
  refine WJ.r rfl rfl rfl rfl rfl (lda rfl rfl .tc Tryz.underlying41 rfl ?_) ?_
  · kernel_rfl
  refine WJ.gv rfl rfl rfl rfl rfl (fun ext => og_call rfl rfl (by kernel_rfl) (keep_val fun w hS => (by have := rzdm_c (w := w) (x := ofZ X) (y := fromZ (canon (val b / g))); rw [hdm2] at this; exact this))) ?_
  refine WJ.r rfl rfl rfl rfl rfl (rd_move rfl rfl) ?_
  refine WJ.r rfl rfl rfl rfl rfl (rd_extL rfl rfl rfl) ?_
  refine WJ.f rfl rfl rfl rfl rfl (fr_alloc rfl (v := (.agg #[.bool false, .string (S [])])) (cs := [.bool false, .string (S [])]) (by kernel_rfl) rfl) ?_
  intro b17
  refine WJ.st rfl rfl rfl rfl (staJ rfl rfl rfl ?_ ?_ ?_) ?_
  · kernel_rfl
  · simp [Value.oneCell']
  · rfl
  refine WJ.r rfl rfl rfl rfl rfl (rd_extL rfl rfl rfl) ?_
  refine WJ.r rfl rfl rfl rfl rfl (rd_extL rfl rfl rfl) ?_
  refine WJ.r rfl rfl rfl rfl rfl (rd_assign rfl rfl) ?_
  refine WJ.r rfl rfl rfl rfl rfl (rd_assign rfl rfl) ?_
  refine WJ.nil ?_
  refine WL.nt ?_
  refine WC.seq ?_
  refine WC.free0 [1, 2, 0, 3, 4, 5, 7, 8, 6, 9] [] [0, 0, 1, 1, 0, 0, 0, 3, 1, 0] (by kernel_rfl) (by kernel_rfl) rfl ?_
  refine WJ.r rfl rfl rfl rfl rfl (rd_move rfl rfl) ?_
  refine WJ.gv rfl rfl rfl rfl rfl (fun ext => og_call rfl rfl (by kernel_rfl) (keep_val fun w hS => rfrom_c (a := canon (val a / g)))) ?_
  refine WJ.r rfl rfl rfl rfl rfl (lda rfl rfl .tc Tryz.underlying41 rfl ?_) ?_
  · kernel_rfl
  refine WJ.gv rfl rfl rfl rfl rfl (fun ext => og_call rfl rfl (by kernel_rfl) (keep_val fun w hS => rzmul_c (x := dq) (y := fromZ (canon (val a / g))))) ?_
  refine WJ.r rfl rfl rfl rfl rfl (rd_move rfl rfl) ?_
  refine WJ.r rfl rfl rfl rfl rfl (rd_extL rfl rfl rfl) ?_
  refine WJ.f rfl rfl rfl rfl rfl (fr_alloc rfl (v := (.agg #[.bool false, .string (S [])])) (cs := [.bool false, .string (S [])]) (by kernel_rfl) rfl) ?_
  intro b20
  refine WJ.st rfl rfl rfl rfl (staJ rfl rfl rfl ?_ ?_ ?_) ?_
  · kernel_rfl
  · simp [Value.oneCell']
  · rfl
  refine WJ.r rfl rfl rfl rfl rfl (rd_extL rfl rfl rfl) ?_
  refine WJ.r rfl rfl rfl rfl rfl (rd_assign rfl rfl) ?_
  refine WJ.nil ?_
  refine WL.nt ?_
  refine WC.sr ?_
  refine WL.r rfl rfl rfl (lda rfl rfl .tc Tryz.underlying41 rfl ?_) ?_
  · kernel_rfl
  refine WL.r rfl rfl rfl (lda rfl rfl .tc Tryz.underlying41 rfl ?_) ?_
  · kernel_rfl
  refine WL.g rfl rfl rfl (og_call rfl rfl (by kernel_rfl) (keep_val fun w hS => rzadd_c (x := ofZ Z) (y := (mulZ dq (fromZ (canon (val a / g)))).1))) ?_
  intro _
  refine WL.r rfl rfl rfl (rd_move rfl rfl) ?_
  refine WL.r rfl rfl rfl (rd_extL rfl rfl rfl) ?_
  refine WL.r rfl rfl rfl (rd_extL rfl rfl rfl) ?_
  refine WL.g0 rfl rfl (sta rfl rfl rfl .tc ?_ ?_ ?_) ?_
  · kernel_rfl
  · simp [Value.oneCell']
  · rfl
  intro _
  refine WL.nt ?_
  refine WC.seq ?_
  refine WC.free (K := [⟨some b10, [.bool (addZ (ofZ Z) (mulZ dq (fromZ (canon (val a / g)))).1).1.1, .string (S (addZ (ofZ Z) (mulZ dq (fromZ (canon (val a / g)))).1).1.2)], 41⟩]) (fs0 := []) [1, 2, 0, 4, 5, 3] [6, 7] [0, 0, 1, 0, 0, 1, 2, 2] (by kernel_rfl) (by kernel_rfl) rfl ?_
  refine WJ.r rfl rfl rfl rfl rfl (rd_move rfl rfl) ?_
  refine WJ.gv rfl rfl rfl rfl rfl (fun ext => og_call rfl rfl (by kernel_rfl) (keep_val fun w hS => (by have := rfrom_c (w := w) (a := canon (X % ((val b / g : Nat) : Int)).toNat); rw [show (if okN (canon (X % ((val b / g : Nat) : Int)).toNat) then (false, canon (X % ((val b / g : Nat) : Int)).toNat) else (false, [])) = ofZ (((X % ((val b / g : Nat) : Int)).toNat : Nat) : Int) from fromZ_of hXr] at this; exact this))) ?_
  refine WJ.r rfl rfl rfl rfl rfl (rd_move rfl rfl) ?_
  refine WJ.r rfl rfl rfl rfl rfl (rd_assign rfl rfl) ?_
  refine WJ.st rfl rfl rfl rfl (staJ rfl rfl rfl ?_ ?_ ?_) ?_
  · kernel_rfl
  · simp [Value.oneCell']
  · rfl
  refine WJ.r rfl rfl rfl rfl rfl (lda rfl rfl .tc Tryz.underlying41 rfl ?_) ?_
  · kernel_rfl
  refine WJ.nil ?_
  refine WL.g0 rfl rfl (sta rfl rfl rfl .tc ?_ ?_ ?_) ?_
  · kernel_rfl
  · simp [Value.oneCell']
  · rfl
  intro _
  refine WL.r rfl rfl rfl (rd_assign rfl rfl) ?_
  refine WL.nt ?_
  refine WC.ret ?_
  exact WX.retN rfl (.tmp rfl (.agg rfl .tc Tryz.underlying41 rfl (by kernel_rfl) (.agg rfl .tc Tryz.underlying41 rfl (by kernel_rfl) (.tmp rfl .nil)))) fun w' hS => ⟨(addZ (ofZ Z) (mulZ dq (fromZ (canon (val a / g)))).1).1, rfl, trivial, hS.below, fun _ h => by cases h⟩
end Go.Proofs.YtbcnnkcddilfjaaGreat
