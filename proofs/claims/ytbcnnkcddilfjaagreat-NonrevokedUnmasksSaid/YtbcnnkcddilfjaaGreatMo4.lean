/-
  Inverses modulo a number.
-/
import Derived.Test.YtbcnnkcddilfjaaGreatMo3
import Derived.Test.YtbcnnkcddilfjaaGreatInt4
namespace Go.Proofs.YtbcnnkcddilfjaaGreat
set_option linter.unusedSimpArgs false
set_option linter.unusedVariables false
set_option maxRecDepth 20000
set_option maxHeartbeats 600000
open Go.RowKit

def invM (a m : Bs) : Bs × Int := if chkM [a] [m] = 0 then (if Nat.gcd (val a) (val m) = 1 then (canon (invN (val a) (val m)), 0) else ([], 9)) else ([], chkM [a] [m])
theorem chk1 {a m : Bs} (h : chkM [a] [m] = 0) : okN a ∧ okN m ∧ m ≠ [] := by
  obtain ⟨h1, h2⟩ := chk_ok h
  exact ⟨h1 a (by simp), h1 m (by simp), fun e => h2 (by simp [e])⟩
theorem gcd_mod (a m : Nat) : Nat.gcd (a % m) m = Nat.gcd a m := by rw [Nat.gcd_comm, gcd_rec']
/-- a coefficient of 1 is an inverse -/
theorem inv_of_coef {a m : Nat} {X : Int} (hm : 0 < m) (h : ((a : Int) * X) % m = (1 : Int) % m) (h0 : 0 ≤ X) : invN a m = X.natAbs % m := by
  obtain ⟨x, rfl⟩ : ∃ x : Nat, X = x := ⟨X.toNat, by omega⟩
  rw [Int.natAbs_natCast]
  apply invN_eq (Nat.mod_lt _ hm)
  rw [mmr]
  exact_mod_cast h
theorem minv_c {a m : Bs} {w : World} :
    Calls Tryz.prog 51 #[.string (S a), .string (S m)] w fun e w' => e = .returned (NE (invM a m)) ∧ Below w.heap.size w w' := by
  refine enter (S := St (fun _ => True) w [] ([])) (L := [(0, .string (S a)), (1, .string (S m))]) Tryz.func51 rfl Tryz.ntmps51 rfl (args_cons rfl (args_cons rfl (args_nil _))) (St.start (fun _ _ => trivial) facts_nil) ?_
  refine WC.sr ?_
  refine WL.r rfl rfl rfl (rd_assign rfl rfl) ?_
  refine WL.r rfl rfl rfl (rd_assign rfl rfl) ?_
  refine WL.nt ?_
  refine WC.seq ?_
  refine WC.sr ?_
  refine WL.r rfl rfl rfl (rd_move rfl rfl) ?_
  refine WL.g rfl rfl rfl (og_bs1 rfl rfl Tryz.underlying31 (by kernel_rfl : _ = some (some (.string (S [])), 1, 16)) rfl (by simp only [List.map]; rfl) rfl rfl ?_ (by decide)) ?_
  · simp [Value.cells]
  intro b12
  refine WL.r rfl rfl rfl (rd_move rfl rfl) ?_
  refine WL.g rfl rfl rfl (og_bs1 rfl rfl Tryz.underlying31 (by kernel_rfl : _ = some (some (.string (S [])), 1, 16)) rfl (by simp only [List.map]; rfl) rfl rfl ?_ (by decide)) ?_
  · simp [Value.cells]
  intro b14
  refine WL.g rfl rfl rfl (og_call rfl rfl (by kernel_rfl) (keep_val fun w hS => check_c (l := [a]) (ms := [m]) (by (exact hS.os)) (by (exact hS.os)) (by (simp <;> omega)) (by (simp <;> omega)) (by (simp <;> omega)) (by (simp <;> omega)))) ?_
  intro _
  refine WL.r rfl rfl rfl (rd_assign rfl rfl) ?_
  refine WL.nt ?_
  refine WC.sr ?_
  refine WL.r rfl rfl rfl (rd_move rfl rfl) ?_
  refine WL.r rfl rfl rfl (rd_neq rfl rfl rfl) ?_
  refine WL.nt ?_
  refine WC.cond rfl (fun hc17 => ?_) (fun hc17 => ?_)
  · (try simp only [sB] at hc17)
    have hr : invM a m = ([], chkM [a] [m]) := by rw [invM, if_neg (by simpa using hc17)]
    refine WC.sr ?_
    refine WL.r rfl rfl rfl (rd_move rfl rfl) ?_
    refine WL.r rfl rfl rfl (rd_assign rfl rfl) ?_
    refine WL.r rfl rfl rfl (rd_assign rfl rfl) ?_
    refine WL.nt ?_
    refine WC.ret ?_
    refine WX.then_ret ?_
    exact WX.retN rfl (.tmp rfl (.tmp rfl .nil)) fun w' hS => ⟨by rw [hr]; rfl, hS.below⟩
  · (try simp only [sB] at hc17)
    have h0 : chkM [a] [m] = 0 := by simpa using hc17
    obtain ⟨ha, hm, hm0⟩ := chk1 h0
    have hp := vpos hm hm0
    have hmB := okN_val hm
    have hak : okN (canon (val a % val m)) := okN_can (by have := Nat.mod_lt (val a) hp; omega)
    have hvk : val (canon (val a % val m)) = val a % val m := val_canon _
    refine WC.skip ?_
    refine WX.then_normal ?_
    refine WC.sr ?_
    refine WL.r rfl rfl rfl (rd_move rfl rfl) ?_
    refine WL.r rfl rfl rfl (rd_move rfl rfl) ?_
    refine WL.g rfl rfl rfl (og_call rfl rfl (by kernel_rfl) (keep_val fun w hS => reduced_c (a := a) (m := m) (by exact ha) (by exact hm) (by exact hm0))) ?_
    intro _
    refine WL.r rfl rfl rfl (rd_move rfl rfl) ?_
    refine WL.g rfl rfl rfl (og_call rfl rfl (by kernel_rfl) (keep_ff fun w hS => zext_c (a := canon (val a % val m)) (b := m) (by exact hak) (by exact hm) (by exact hm0))) ?_
    rintro ⟨X24, Y24⟩
    refine WL.pu ?_
    intro hg24; (try dsimp only [List.cons_append, List.nil_append] at hg24 ⊢)
    refine WL.r rfl rfl rfl (rd_move rfl rfl) ?_
    refine WL.r rfl rfl rfl (rd_extL rfl rfl rfl) ?_
    refine WL.r rfl rfl rfl (rd_extL rfl rfl rfl) ?_
    refine WL.r rfl rfl rfl (rd_extL rfl rfl rfl) ?_
    refine WL.r rfl rfl rfl (rd_extL rfl rfl rfl) ?_
    refine WL.g rfl rfl rfl (og_alloc rfl (v := (.agg #[.bool false, .string (S [])])) (cs := [.bool false, .string (S [])]) (by kernel_rfl) rfl) ?_
    intro b8
    refine WL.g rfl rfl rfl (og_alloc rfl (v := (.agg #[.bool false, .string (S [])])) (cs := [.bool false, .string (S [])]) (by kernel_rfl) rfl) ?_
    intro b9
    refine WL.r rfl rfl rfl (rd_assign rfl rfl) ?_
    refine WL.g0 rfl rfl (sta rfl rfl rfl .tc ?_ ?_ ?_) ?_
    · kernel_rfl
    · simp [Value.oneCell']
    · rfl
    intro _
    refine WL.g0 rfl rfl (sta rfl rfl rfl .tc ?_ ?_ ?_) ?_
    · kernel_rfl
    · simp [Value.oneCell']
    · rfl
    intro _
    refine WL.r rfl rfl rfl (rd_assign rfl rfl) ?_
    refine WL.nt ?_
    refine WC.seq ?_
    refine WC.sr ?_
    refine WL.r rfl rfl rfl (rd_move rfl rfl) ?_
    refine WL.r rfl rfl rfl (rd_neq rfl rfl rfl) ?_
    refine WL.nt ?_
    refine WC.cond rfl (fun hc30 => by exfalso; (try simp only [sB] at hc30); exact hc30 trivial) (fun hc30 => ?_)
    (try simp only [sB] at hc30)
    refine WC.skip ?_
    refine WX.then_normal ?_
    refine WC.seq ?_
    refine WC.sr ?_
    refine WL.r rfl rfl rfl (rd_move rfl rfl) ?_
    refine WL.r rfl rfl rfl (rd_sne rfl rfl rfl) ?_
    refine WL.nt ?_
    refine WC.cond rfl (fun hc33 => ?_) (fun hc33 => ?_)
    · (try simp only [sB] at hc33)
      have hr : invM a m = ([], 9) := by
        have h1 : ¬ Nat.gcd (val a) (val m) = 1 := fun h => by
          rw [hvk, gcd_mod, h, one_canon] at hc33; exact hc33 rfl
        rw [invM, if_pos h0, if_neg h1]
      refine WC.sr ?_
      refine WL.r rfl rfl rfl (rd_assign rfl rfl) ?_
      refine WL.r rfl rfl rfl (rd_assign rfl rfl) ?_
      refine WL.nt ?_
      refine WC.ret ?_
      refine WX.then_ret ?_
      exact WX.retN rfl (.tmp rfl (.tmp rfl .nil)) fun w' hS => ⟨by rw [hr]; rfl, hS.below⟩
    · (try simp only [sB] at hc33)
      have hg1 : Nat.gcd (val a) (val m) = 1 := by
        rw [hvk, gcd_mod] at hc33; exact canon_one.1 (by simpa using hc33)
      obtain ⟨hq1, hq2, hq3⟩ := hg24
      rw [hvk, gcd_mod, hg1] at hq1
      rw [hvk, gcd_mod] at hq2
      have hiv := inv_of_coef hp hq1 (hq2 hg1)
      rw [invN_mod] at hiv
      have hr : invM a m = (canon (invN (val a) (val m)), 0) := by rw [invM, if_pos h0, if_pos hg1]
      have hXa : (ofZ X24).2 = canon X24.natAbs := by rw [ofZ_eq]
      refine WC.skip ?_
      refine WX.then_normal ?_
      refine WC.sr ?_
      (refine WL.r rfl rfl rfl (rd_fa (q := 1) rfl rfl Tryz.underlying41 rfl (by kernel_rfl) rfl) ?_)
      (refine WL.r rfl rfl rfl (ld rfl rfl .tc Tryz.underlying22 rfl (by rfl)) ?_)
      refine WL.r rfl rfl rfl (rd_move rfl rfl) ?_
      refine WL.g rfl rfl rfl (og_call rfl rfl (by kernel_rfl) (keep_val fun w hS => reduced_c (a := (ofZ X24).2) (m := m) (by rw [hXa]; exact okN_can hq3) (by exact hm) (by exact hm0))) ?_
      intro _
      refine WL.r rfl rfl rfl (rd_assign rfl rfl) ?_
      refine WL.r rfl rfl rfl (rd_assign rfl rfl) ?_
      refine WL.nt ?_
      refine WC.ret ?_
      exact WX.retN rfl (.tmp rfl (.tmp rfl .nil)) fun w' hS => ⟨by rw [hr, hiv, hXa, val_canon]; rfl, hS.below⟩
theorem rinv_c {a m : Bs} {w : World} :
    Calls Tryz.prog 109 #[.string (S a), .string (S m)] w fun e w' => e = .returned (NE (invM a m)) ∧ Below w.heap.size w w' := by
  refine enter (S := St (fun _ => True) w [] ([])) (L := [(0, .string (S a)), (1, .string (S m))]) Tryz.func109 rfl Tryz.ntmps109 rfl (args_cons rfl (args_cons rfl (args_nil _))) (St.start (fun _ _ => trivial) facts_nil) ?_
  refine WC.sr ?_
  refine WL.r rfl rfl rfl (rd_assign rfl rfl) ?_
  refine WL.r rfl rfl rfl (rd_assign rfl rfl) ?_
  refine WL.nt ?_
  refine WC.seq ?_
  refine WC.sr ?_
  refine WL.r rfl rfl rfl (rd_move rfl rfl) ?_
  refine WL.r rfl rfl rfl (rd_move rfl rfl) ?_
  refine WL.g rfl rfl rfl (og_bs1 rfl rfl Tryz.underlying31 (by kernel_rfl : _ = some (some (.string (S [])), 1, 16)) rfl (by simp only [List.map]; rfl) rfl rfl ?_ (by decide)) ?_
  · simp [Value.cells]
  intro b15
  refine WL.g rfl rfl rfl (og_call rfl rfl (by kernel_rfl) (keep_val fun w hS => rcheck_c (l := [a]) (m := m) (by (exact hS.os)) (by (simp <;> omega)))) ?_
  intro _
  refine WL.r rfl rfl rfl (rd_assign rfl rfl) ?_
  refine WL.nt ?_
  refine WC.sr ?_
  refine WL.r rfl rfl rfl (rd_move rfl rfl) ?_
  refine WL.r rfl rfl rfl (rd_neq rfl rfl rfl) ?_
  refine WL.nt ?_
  refine WC.cond rfl (fun hc18 => ?_) (fun hc18 => ?_)
  · (try simp only [sB] at hc18)
    have hr : invM a m = ([], chkM [a] [m]) := by rw [invM, if_neg (by simpa using hc18)]
    refine WC.sr ?_
    refine WL.r rfl rfl rfl (rd_move rfl rfl) ?_
    refine WL.r rfl rfl rfl (rd_assign rfl rfl) ?_
    refine WL.r rfl rfl rfl (rd_assign rfl rfl) ?_
    refine WL.nt ?_
    refine WC.ret ?_
    refine WX.then_ret ?_
    exact WX.retN rfl (.tmp rfl (.tmp rfl .nil)) fun w' hS => ⟨by rw [hr]; rfl, hS.below⟩
  · (try simp only [sB] at hc18)
    have h0 : chkM [a] [m] = 0 := by simpa using hc18
    obtain ⟨ha, hm, hm0⟩ := chk1 h0
    have hp := vpos hm hm0
    have hmB := okN_val hm
    have hB1 : 1 < Big := Nat.lt_of_lt_of_le (by decide) big64
    have hak : okN (canon (val a % val m)) := okN_can (by have := Nat.mod_lt (val a) hp; omega)
    have hvk : val (canon (val a % val m)) = val a % val m := val_canon _
    obtain ⟨X, hX⟩ : ∃ X : Int, X = (bezI (val a % val m) (val m)).1 := ⟨_, rfl⟩
    have hbz := bez_eq (val m) (val a % val m)
    rw [gcd_mod, ← hX] at hbz
    refine WC.skip ?_
    refine WX.then_normal ?_
    refine WC.sr ?_
    refine WL.r rfl rfl rfl (rd_move rfl rfl) ?_
    refine WL.r rfl rfl rfl (rd_move rfl rfl) ?_
    refine WL.g rfl rfl rfl (og_call rfl rfl (by kernel_rfl) (keep_val fun w hS => rmod_c (a := a) (m := m) (by exact ha) (by exact hm) (by exact hm0))) ?_
    intro _
    refine WL.r rfl rfl rfl (rd_move rfl rfl) ?_
    refine WL.g rfl rfl rfl (og_call rfl rfl (by kernel_rfl) (keep_ff fun w hS => rext_c (a := canon (val a % val m)) (b := m) (by exact hak) (by exact hm) (by exact hm0))) ?_
    rintro Y25
    refine WL.pu ?_
    intro hg25; (try dsimp only [List.cons_append, List.nil_append] at hg25 ⊢)
    refine WL.r rfl rfl rfl (rd_move rfl rfl) ?_
    refine WL.r rfl rfl rfl (rd_extL rfl rfl rfl) ?_
    refine WL.r rfl rfl rfl (rd_extL rfl rfl rfl) ?_
    refine WL.r rfl rfl rfl (rd_extL rfl rfl rfl) ?_
    refine WL.r rfl rfl rfl (rd_extL rfl rfl rfl) ?_
    refine WL.g rfl rfl rfl (og_alloc rfl (v := (.agg #[.bool false, .string (S [])])) (cs := [.bool false, .string (S [])]) (by kernel_rfl) rfl) ?_
    intro b8
    refine WL.g rfl rfl rfl (og_alloc rfl (v := (.agg #[.bool false, .string (S [])])) (cs := [.bool false, .string (S [])]) (by kernel_rfl) rfl) ?_
    intro b9
    refine WL.r rfl rfl rfl (rd_assign rfl rfl) ?_
    refine WL.g0 rfl rfl (sta rfl rfl rfl .tc ?_ ?_ ?_) ?_
    · kernel_rfl
    · simp [Value.oneCell']
    · rfl
    intro _
    refine WL.g0 rfl rfl (sta rfl rfl rfl .tc ?_ ?_ ?_) ?_
    · kernel_rfl
    · simp [Value.oneCell']
    · rfl
    intro _
    refine WL.r rfl rfl rfl (rd_assign rfl rfl) ?_
    refine WL.nt ?_
    refine WC.seq ?_
    refine WC.sr ?_
    refine WL.r rfl rfl rfl (rd_move rfl rfl) ?_
    refine WL.g rfl rfl rfl (og_call rfl rfl (by kernel_rfl) (keep_val fun w hS => rof_c (n := 1) (by omega))) ?_
    intro _
    refine WL.r rfl rfl rfl (rd_sne rfl rfl rfl) ?_
    refine WL.nt ?_
    refine WC.cond rfl (fun hc32 => ?_) (fun hc32 => ?_)
    · (try simp only [sB] at hc32)
      have hr : invM a m = ([], 9) := by
        have h1 : ¬ Nat.gcd (val a) (val m) = 1 := fun h => by
          rw [hvk, gcd_mod, h] at hc32; exact hc32 rfl
        rw [invM, if_pos h0, if_neg h1]
      refine WC.sr ?_
      refine WL.r rfl rfl rfl (rd_assign rfl rfl) ?_
      refine WL.r rfl rfl rfl (rd_assign rfl rfl) ?_
      refine WL.nt ?_
      refine WC.ret ?_
      refine WX.then_ret ?_
      exact WX.retN rfl (.tmp rfl (.tmp rfl .nil)) fun w' hS => ⟨by rw [hr]; rfl, hS.below⟩
    · (try simp only [sB] at hc32)
      have hg1 : Nat.gcd (val a) (val m) = 1 := by
        rw [hvk, gcd_mod] at hc32; exact canon_inj.1 (by simpa using hc32)
      have hiv : invN (val a) (val m) = (X % (val m : Int)).toNat := by
        have h1 := Int.emod_nonneg X (b := (val m : Int)) (by omega)
        have h2 := Int.emod_lt_of_pos X (b := (val m : Int)) (by omega)
        have h3 := inv_of_coef (a := val a % val m) (X := X % (val m : Int)) hp (by
          rw [hg1] at hbz
          rw [Int.mul_emod, Int.emod_emod_of_dvd _ (Int.dvd_refl _), ← Int.mul_emod]
          have e : ((val a % val m : Nat) : Int) * X = 1 + val m * (-(bezI (val a % val m) (val m)).2) := by rw [Int.mul_neg]; omega
          rw [e, Int.add_mul_emod_self_left]) h1
        rw [invN_mod] at h3
        rw [h3, Nat.mod_eq_of_lt (by omega)]; omega
      have hr : invM a m = (canon (X % (val m : Int)).toNat, 0) := by rw [invM, if_pos h0, if_pos hg1, hiv]
      have hXl : (X % (val m : Int)).toNat < val m := by have h2 := Int.emod_lt_of_pos X (b := (val m : Int)) (by omega); omega
      have hmz : modZ (ofZ (((X % (val m : Int)).toNat : Nat) : Int)) m = (canon (X % (val m : Int)).toNat, 0) := by
        have hd := dm_rest (n := (((X % (val m : Int)).toNat : Nat) : Int)) (m := val m) (by omega) hmB hp
        rw [modZ, if_pos ⟨okZ_ofZ.2 (by omega), hm⟩, fromZ_ok hm]
        rw [ok_canon hm] at hd
        rw [hd.1, hd.2, Int.emod_eq_of_lt (by omega) (by omega), Int.toNat_natCast]
      refine WC.skip ?_
      refine WX.then_normal ?_
      refine WC.sr ?_
      refine WL.r rfl rfl rfl (lda rfl rfl .tc Tryz.underlying41 rfl ?_) ?_
      · kernel_rfl
      refine WL.r rfl rfl rfl (rd_move rfl rfl) ?_
      refine WL.g rfl rfl rfl (og_call rfl rfl (by kernel_rfl) (keep_val fun w hS => (by have := rzmod_c (w := w) (x := ofZ (((X % (val m : Int)).toNat : Nat) : Int)) (m := m); rw [hmz] at this; rw [hvk, gcd_mod, hg1, Nat.div_one, ← hX]; exact this))) ?_
      intro _
      refine WL.r rfl rfl rfl (rd_move rfl rfl) ?_
      refine WL.r rfl rfl rfl (rd_extL rfl rfl rfl) ?_
      refine WL.r rfl rfl rfl (rd_extL rfl rfl rfl) ?_
      refine WL.r rfl rfl rfl (rd_assign rfl rfl) ?_
      refine WL.r rfl rfl rfl (rd_assign rfl rfl) ?_
      refine WL.nt ?_
      refine WC.sr ?_
      refine WL.r rfl rfl rfl (rd_move rfl rfl) ?_
      refine WL.r rfl rfl rfl (rd_assign rfl rfl) ?_
      refine WL.r rfl rfl rfl (rd_assign rfl rfl) ?_
      refine WL.nt ?_
      refine WC.ret ?_
      exact WX.retN rfl (.tmp rfl (.tmp rfl .nil)) fun w' hS => ⟨by rw [hr]; rfl, hS.below⟩
/-- a power with an exponent that may be negative -/
def powM (a : Bs) (x : Zs) (m : Bs) : Bs × Int :=
  if okN a ∧ okZ x ∧ okN m then (if m = [] then ([], 11) else if x.1 = true then (if Nat.gcd (val a) (val m) = 1 then (canon (invN (val a) (val m) ^ val x.2 % val m), 0) else ([], 9)) else (canon (val a ^ val x.2 % val m), 0)) else ([], 3)
theorem invM_ok {a m : Bs} (ha : okN a) (hm : okN m) (hm0 : m ≠ []) : invM a m = if Nat.gcd (val a) (val m) = 1 then (canon (invN (val a) (val m)), 0) else ([], 9) := by
  rw [invM, if_pos (chk_zero (by intro x hx; simp at hx; rcases hx with rfl | rfl <;> assumption) (by simpa using fun h => hm0 h))]
theorem rpower_c {a : Bs} {x : Zs} {m : Bs} {w : World} (hm8 : m.length ≤ 8) :
    Calls Tryz.prog 87 #[.string (S a), zV x, .string (S m)] w fun e w' => e = .returned (NE (powM a x m)) ∧ Below w.heap.size w w' := by
  refine enter (S := St (fun _ => True) w [] ([])) (L := [(0, .string (S a)), (1, zV x), (2, .string (S m))]) Tryz.func87 rfl Tryz.ntmps87 rfl (args_cons rfl (args_cons rfl (args_cons rfl (args_nil _)))) (St.start (fun _ _ => trivial) facts_nil) ?_
  refine WC.sr ?_
  refine WL.g rfl rfl rfl (og_box rfl rfl (by (exact cells_agg _))) ?_
  intro b4
  refine WL.r rfl rfl rfl (rd_assign rfl rfl) ?_
  refine WL.r rfl rfl rfl (rd_assign rfl rfl) ?_
  refine WL.nt ?_
  refine WC.seq ?_
  refine WC.joinP (σ := Unit) [(0, _), (2, _), (4, _)] (fun gq => [(22, .bool (decide (¬ (okN a ∧ okZ x ∧ okN m))))]) (fun gq => True) (sub_cons rfl (sub_cons rfl (sub_cons rfl (sub_nil _)))) ?_ ?_
  · skip
    refine WC.region ?_
    refine WL.r rfl rfl rfl (rd_move rfl rfl) ?_
    refine WL.g rfl rfl rfl (og_call rfl rfl (by kernel_rfl) (keep_val fun w hS => rvalid_c (a := a))) ?_
    intro _
    refine WL.r rfl rfl rfl (rd_not rfl rfl) ?_
    refine WL.r rfl rfl rfl (rd_move rfl rfl) ?_
    refine WL.bool 13 rfl (fun hg13 => ?_) (fun hg13 => ?_)
    · (try simp only [sB] at hg13)
      refine WL.s rfl rfl rfl ?_
      refine WL.s rfl rfl rfl ?_
      refine WL.s rfl rfl rfl ?_
      refine WL.r rfl rfl rfl (rd_pickt rfl rfl rfl) ?_
      refine WL.r rfl rfl rfl (rd_move rfl rfl) ?_
      refine WL.s rfl rfl rfl ?_
      refine WL.s rfl rfl rfl ?_
      refine WL.s rfl rfl rfl ?_
      refine WL.r rfl rfl rfl (rd_pickt rfl rfl rfl) ?_
      refine WL.nil ?_
      refine WX.joinP (()) (sub_cons rfl (sub_cons rfl (sub_cons rfl (sub_nil _)))) (by refine (sub_cons ?_ (sub_nil _)) <;> ((refine slot_b rfl ?_; (try dsimp only); (simp [*]; done)))) ?_ (by (exact fun _ h => h))
      (try dsimp only)
      done
    · (try simp only [sB] at hg13)
      refine WL.r rfl rfl rfl (lda rfl rfl .tc Tryz.underlying41 rfl ?_) ?_
      · kernel_rfl
      refine WL.g rfl rfl rfl (og_call rfl rfl (by kernel_rfl) (keep_val fun w hS => rzvalid_c (x := x))) ?_
      intro _
      refine WL.r rfl rfl rfl (rd_not rfl rfl) ?_
      refine WL.r rfl rfl rfl (rd_pickf rfl rfl rfl) ?_
      refine WL.r rfl rfl rfl (rd_move rfl rfl) ?_
      refine WL.bool 18 rfl (fun hg18 => ?_) (fun hg18 => ?_)
      · (try simp only [sB] at hg18)
        refine WL.s rfl rfl rfl ?_
        refine WL.s rfl rfl rfl ?_
        refine WL.s rfl rfl rfl ?_
        refine WL.r rfl rfl rfl (rd_pickt rfl rfl rfl) ?_
        refine WL.nil ?_
        refine WX.joinP (()) (sub_cons rfl (sub_cons rfl (sub_cons rfl (sub_nil _)))) (by refine (sub_cons ?_ (sub_nil _)) <;> ((refine slot_b rfl ?_; (try dsimp only); (simp [*]; done)))) ?_ (by (exact fun _ h => h))
        (try dsimp only)
        done
      · (try simp only [sB] at hg18)
        refine WL.r rfl rfl rfl (rd_move rfl rfl) ?_
        refine WL.g rfl rfl rfl (og_call rfl rfl (by kernel_rfl) (keep_val fun w hS => rvalid_c (a := m))) ?_
        intro _
        refine WL.r rfl rfl rfl (rd_not rfl rfl) ?_
        refine WL.r rfl rfl rfl (rd_pickf rfl rfl rfl) ?_
        refine WL.nil ?_
        refine WX.joinP (()) (sub_cons rfl (sub_cons rfl (sub_cons rfl (sub_nil _)))) (by refine (sub_cons ?_ (sub_nil _)) <;> ((refine slot_b rfl ?_; (try dsimp only); (simp [*]; done)))) ?_ (by (exact fun _ h => h))
        (try dsimp only)
        done
  · rintro _ hmeet; (try dsimp only at hmeet ⊢)
    refine WC.cond rfl (fun hc22 => ?_) (fun hc22 => ?_)
    · (try simp only [sB] at hc22)
      have hr : powM a x m = ([], 3) := by rw [powM, if_neg hc22]
      refine WC.sr ?_
      refine WL.r rfl rfl rfl (rd_assign rfl rfl) ?_
      refine WL.r rfl rfl rfl (rd_assign rfl rfl) ?_
      refine WL.nt ?_
      refine WC.ret ?_
      refine WX.then_ret ?_
      exact WX.retN rfl (.tmp rfl (.tmp rfl .nil)) fun w' hS => ⟨by rw [hr]; rfl, hS.below⟩
    · (try simp only [sB] at hc22)
      have hok : okN a ∧ okZ x ∧ okN m := by simpa using hc22
      refine WC.skip ?_
      refine WX.then_normal ?_
      refine WC.seq ?_
      refine WC.sr ?_
      refine WL.r rfl rfl rfl (rd_move rfl rfl) ?_
      refine WL.r rfl rfl rfl (rd_seq rfl rfl rfl) ?_
      refine WL.nt ?_
      refine WC.cond rfl (fun hc24 => ?_) (fun hc24 => ?_)
      · (try simp only [sB] at hc24)
        have hr : powM a x m = ([], 11) := by rw [powM, if_pos hok, if_pos (by simpa using hc24)]
        refine WC.sr ?_
        refine WL.r rfl rfl rfl (rd_assign rfl rfl) ?_
        refine WL.r rfl rfl rfl (rd_assign rfl rfl) ?_
        refine WL.nt ?_
        refine WC.ret ?_
        refine WX.then_ret ?_
        exact WX.retN rfl (.tmp rfl (.tmp rfl .nil)) fun w' hS => ⟨by rw [hr]; rfl, hS.below⟩
      · (try simp only [sB] at hc24)
        have hm0 : m ≠ [] := by simpa using hc24
        have hp := vpos hok.2.2 hm0
        have hin := invM_ok hok.1 hok.2.2 hm0
        have hmB := okN_val hok.2.2
        have hik : okN (canon (invN (val a) (val m))) := okN_can (by have := invN_lt (val a) hp; omega)
        refine WC.skip ?_
        refine WX.then_normal ?_
        refine WC.seq ?_
        refine WC.sr ?_
        (refine WL.r rfl rfl rfl (rd_fa (q := 0) rfl rfl Tryz.underlying41 rfl (by kernel_rfl) rfl) ?_)
        (refine WL.r rfl rfl rfl (ld rfl rfl .tc Tryz.underlying4 rfl (by rfl)) ?_)
        refine WL.nt ?_
        refine WC.cond rfl (fun hc26 => ?_) (fun hc26 => ?_)
        · (try simp only [sB] at hc26)
          have hneg : x.1 = true := by simpa using hc26
          refine WC.sr ?_
          refine WL.r rfl rfl rfl (rd_move rfl rfl) ?_
          refine WL.r rfl rfl rfl (rd_move rfl rfl) ?_
          refine WL.g rfl rfl rfl (og_call rfl rfl (by kernel_rfl) (keep_val fun w hS => rinv_c (a := a) (m := m))) ?_
          intro _
          refine WL.r rfl rfl rfl (rd_move rfl rfl) ?_
          refine WL.r rfl rfl rfl (rd_extL rfl rfl rfl) ?_
          refine WL.r rfl rfl rfl (rd_extL rfl rfl rfl) ?_
          refine WL.r rfl rfl rfl (rd_assign rfl rfl) ?_
          refine WL.r rfl rfl rfl (rd_assign rfl rfl) ?_
          refine WL.nt ?_
          refine WC.seq ?_
          refine WC.sr ?_
          refine WL.r rfl rfl rfl (rd_move rfl rfl) ?_
          refine WL.r rfl rfl rfl (rd_neq rfl rfl rfl) ?_
          refine WL.nt ?_
          refine WC.cond rfl (fun hc34 => ?_) (fun hc34 => ?_)
          · (try simp only [sB] at hc34)
            have hg : ¬ Nat.gcd (val a) (val m) = 1 := fun h => hc34 (by rw [hin, if_pos h])
            have hr : powM a x m = ([], 9) := by rw [powM, if_pos hok, if_neg hm0, if_pos hneg, if_neg hg]
            refine WC.sr ?_
            refine WL.r rfl rfl rfl (rd_move rfl rfl) ?_
            refine WL.r rfl rfl rfl (rd_assign rfl rfl) ?_
            refine WL.r rfl rfl rfl (rd_assign rfl rfl) ?_
            refine WL.nt ?_
            refine WC.ret ?_
            refine WX.then_ret ?_
            refine WX.then_ret ?_
            exact WX.retN rfl (.tmp rfl (.tmp rfl .nil)) fun w' hS => ⟨by rw [hr, hin, if_neg hg]; rfl, hS.below⟩
          · (try simp only [sB] at hc34)
            have hg : Nat.gcd (val a) (val m) = 1 := Decidable.byContradiction fun h => by rw [hin, if_neg h] at hc34; simp at hc34
            have hr : powM a x m = (canon (invN (val a) (val m) ^ val x.2 % val m), 0) := by rw [powM, if_pos hok, if_neg hm0, if_pos hneg, if_pos hg]
            have hi1 : (invM a m).1 = canon (invN (val a) (val m)) := by rw [hin, if_pos hg]
            rw [hi1]
            refine WC.skip ?_
            refine WX.then_normal ?_
            refine WC.region ?_
            refine WL.r rfl rfl rfl (rd_move rfl rfl) ?_
            refine WL.r rfl rfl rfl (rd_assign rfl rfl) ?_
            refine WL.nt ?_
            refine WC.sr ?_
            refine WL.r rfl rfl rfl (rd_move rfl rfl) ?_
            (refine WL.r rfl rfl rfl (rd_fa (q := 1) rfl rfl Tryz.underlying41 rfl (by kernel_rfl) rfl) ?_)
            (refine WL.r rfl rfl rfl (ld rfl rfl .tc Tryz.underlying22 rfl (by rfl)) ?_)
            refine WL.r rfl rfl rfl (rd_move rfl rfl) ?_
            refine WL.g rfl rfl rfl (og_call rfl rfl (by kernel_rfl) (keep_val fun w hS => rraise_c (by (exact hik)) (by exact hok.2.1.1) (by exact hok.2.2) (by exact hm0) (by exact hm8))) ?_
            intro _
            refine WL.r rfl rfl rfl (rd_assign rfl rfl) ?_
            refine WL.r rfl rfl rfl (rd_assign rfl rfl) ?_
            refine WL.nt ?_
            refine WC.ret ?_
            exact WX.retN rfl (.tmp rfl (.tmp rfl .nil)) fun w' hS => ⟨by rw [hr]; (try rw [val_canon]); rfl, hS.below⟩
        · (try simp only [sB] at hc26)
          have hnn : ¬ x.1 = true := by simpa using hc26
          have hr : powM a x m = (canon (val a ^ val x.2 % val m), 0) := by rw [powM, if_pos hok, if_neg hm0, if_neg hnn]
          refine WC.skip ?_
          refine WX.then_normal ?_
          refine WC.sr ?_
          refine WL.r rfl rfl rfl (rd_move rfl rfl) ?_
          (refine WL.r rfl rfl rfl (rd_fa (q := 1) rfl rfl Tryz.underlying41 rfl (by kernel_rfl) rfl) ?_)
          (refine WL.r rfl rfl rfl (ld rfl rfl .tc Tryz.underlying22 rfl (by rfl)) ?_)
          refine WL.r rfl rfl rfl (rd_move rfl rfl) ?_
          refine WL.g rfl rfl rfl (og_call rfl rfl (by kernel_rfl) (keep_val fun w hS => rraise_c (by (exact hok.1)) (by exact hok.2.1.1) (by exact hok.2.2) (by exact hm0) (by exact hm8))) ?_
          intro _
          refine WL.r rfl rfl rfl (rd_assign rfl rfl) ?_
          refine WL.r rfl rfl rfl (rd_assign rfl rfl) ?_
          refine WL.nt ?_
          refine WC.ret ?_
          exact WX.retN rfl (.tmp rfl (.tmp rfl .nil)) fun w' hS => ⟨by rw [hr]; (try rw [val_canon]); rfl, hS.below⟩
end Go.Proofs.YtbcnnkcddilfjaaGreat
