/-
  modular: powers.
-/
import Derived.Test.YtbcnnkcddilfjaaGreatMo1
import Derived.Test.YtbcnnkcddilfjaaGreatNtl5
import Derived.Test.YtbcnnkcddilfjaaGreatRng
namespace Go.Proofs.YtbcnnkcddilfjaaGreat
set_option linter.unusedSimpArgs false
set_option linter.unusedVariables false
set_option maxRecDepth 20000
set_option maxHeartbeats 600000
open Go.RowKit

/-- the digits of a number, handed on from the highest to the lowest -/
def itD {σ : Type} (x : Bs) (after : σ → Bool → σ) : Nat → σ → σ
  | 0, s => s
  | n + 1, s => itD x after n (after s (bitA x n))
theorem digits_c {x : Bs} {own0 : List Ent} {ok : Nat → Prop} {w0 : World} {fs : List Fact} {w : World} (hS0 : St ok w0 (own0) (fs) w) :
    Calls Tryz.prog 113 #[.string (S x)] w fun e w' => ∃ g : Nat, e = .returned (.func (.func 124) #[] #[.pointer (some ⟨g, 0, none⟩)]) ∧ St ok w0 (⟨some g, [.string (S x)], 22⟩ :: own0) fs w' := by
  refine enter (S := St ok w0 (own0) (fs)) (L := [(0, .string (S x))]) Tryz.func113 rfl Tryz.ntmps113 rfl (args_cons rfl (args_nil _)) hS0 ?_
  refine WC.sr ?_
  refine WL.g rfl rfl rfl (og_box rfl rfl (by (exact cells_agg _))) ?_
  intro b1
  refine WL.r rfl rfl rfl (rd_assign rfl rfl) ?_
  refine WL.nt ?_
  refine WC.sr ?_
  refine WL.r rfl rfl rfl (rd_mkf rfl rfl rfl) ?_
  refine WL.r rfl rfl rfl (rd_assign rfl rfl) ?_
  refine WL.nt ?_
  refine WC.ret ?_
  exact WX.retN rfl (.tmp rfl .nil) fun w' hS => ⟨b1, rfl, hS⟩
theorem dig_i {σ γ : Type} {CO : σ → γ → List Ent} {pg : σ → γ → Prop} {inv : σ → Bool → Prop} {after : σ → Bool → σ} {stop : σ → Bool → Option Code} {l : Nat} {r : Loop} {ok : Nat → Prop} {w0 : World} {fs : List Fact} {w : World} {x : Bs} {b1 : Nat} {s0 : σ} [∀ s g, HasE (CO s g) b1 [.string (S x)] 22] {g0 : γ} (hY : YOk Tryz.prog l r ok w0 fs CO pg inv after stop (fun y : Bool => #[Value.bool y])) (hS0 : St ok w0 (CO s0 g0) (Fact.lp l (rcd r none) :: fs) w) (hg0 : pg s0 g0) (hx : okN x) (hinv : ∀ s y, inv s y) (hst : ∀ s y, stop s y = none) :
    Calls Tryz.prog 124 #[.func (.yield l) #[] #[], .pointer (some ⟨b1, 0, none⟩)] w fun e w' => (∃ v, e = .returned v) ∧ ∃ g', ((none : Option Code) = none → pg (itD x after (bitsN x) s0) g') ∧ St ok w0 (CO (itD x after (bitsN x) s0) g') (Fact.lp l (rcd r ((none : Option Code))) :: fs) w' := by
  have hbl := bitsN_le hx.1
  refine enter (S := St ok w0 (CO s0 g0) (Fact.lp l (rcd r none) :: fs)) (L := [(0, .func (.yield l) #[] #[]), (1, .pointer (some ⟨b1, 0, none⟩))]) Tryz.func124 rfl Tryz.ntmps124 rfl (args_cons rfl (args_cons rfl (args_nil _))) hS0 ?_
  refine WC.sr ?_
  refine WL.r rfl rfl rfl (ld rfl rfl .tc Tryz.underlying22 rfl (by rfl)) ?_
  refine WL.g rfl rfl rfl (og_call rfl rfl (by kernel_rfl) (keep_val fun w hS => bits_c (a := x))) ?_
  intro _
  refine WL.set 5 rfl (v' := .int .i64 ((bitsN x : Nat) : Int)) (congrArg (Value.int .i64) (by rw [if_pos hx])) ?_
  (refine WL.r rfl rfl rfl (rd_sub64 rfl rfl rfl ?_) ?_; (focus (omega)))
  refine WL.r rfl rfl rfl (rd_assign rfl rfl) ?_
  refine WL.nt ?_
  refine WC.block ?_
  refine WC.loopO (σ := Nat × Int × σ × γ) [(0, _), (1, _)] (fun g => [(3, .int .i64 g.2.1)]) (fun g => g.1 ≤ bitsN x ∧ g.2.1 = (g.1 : Int) - 1 ∧ pg g.2.2.1 g.2.2.2 ∧ itD x after g.1 g.2.2.1 = itD x after (bitsN x) s0) (fun g => g.1) (fun g => CO g.2.2.1 g.2.2.2) (fun g => Fact.lp l (rcd r none) :: fs) (bitsN x, (bitsN x : Int) - 1, s0, g0) (sub_cons rfl (sub_cons rfl (sub_nil _))) (sub_cons rfl (sub_nil _)) (by (try dsimp only); exact ⟨Nat.le_refl _, rfl, hg0, rfl⟩) (by (exact fun _ h => h)) ?_
  rintro ⟨n, j, s, g⟩ hinv1; (try dsimp only at hinv1 ⊢)
  obtain ⟨hn, hj, hgs, hi⟩ := hinv1
  refine WC.seq ?_
  refine WC.sr ?_
  refine WL.r rfl rfl rfl (rd_move rfl rfl) ?_
  refine WL.r rfl rfl rfl (rd_geq rfl rfl rfl) ?_
  refine WL.nt ?_
  refine WC.cond rfl (fun hc8 => ?_) (fun hc8 => ?_)
  · (try simp only [sB] at hc8)
    obtain ⟨m, rfl⟩ : ∃ m, n = m + 1 := ⟨n - 1, by omega⟩
    refine WC.set 3 rfl (v' := .int .i64 ((m : Nat) : Int)) (by rw [hj]; congr 1; omega) ?_
    refine WC.skip ?_
    refine WX.then_normal ?_
    refine WC.seq ?_
    refine WC.block ?_
    refine WC.sr ?_
    refine WL.r rfl rfl rfl (rd_move rfl rfl) ?_
    refine WL.r rfl rfl rfl (ld rfl rfl .tc Tryz.underlying22 rfl (by rfl)) ?_
    refine WL.r rfl rfl rfl (rd_move rfl rfl) ?_
    refine WL.g rfl rfl rfl (og_call rfl rfl (by kernel_rfl) (keep_val fun w hS => bitn_c (a := x) (i := m) (by omega))) ?_
    intro _
    refine WL.g rfl rfl rfl (og_yield hY [] (bitA x m) rfl rfl rfl rfl (hinv _ _) (hgs)) ?_
    intro gy; refine WL.pu ?_; intro hgy; (refine WL.app0 ?_)
    refine WL.r rfl rfl rfl (rd_not rfl rfl) ?_
    refine WL.nt ?_
    refine WC.cond rfl (fun hc16 => by exfalso; (try simp only [sB] at hc16); simp [hst] at hc16) (fun hc16 => ?_)
    (try simp only [sB] at hc16)
    refine WC.skip ?_
    refine WX.block_normal ?_
    refine WX.then_normal ?_
    refine WC.region ?_
    refine WL.r rfl rfl rfl (rd_move rfl rfl) ?_
    (refine WL.r rfl rfl rfl (rd_sub64 rfl rfl rfl ?_) ?_; (focus (omega)))
    refine WL.r rfl rfl rfl (rd_assign rfl rfl) ?_
    refine WL.nil ?_
    rw [hst]
    refine WX.loopO ((m, (m : Int) - 1, after s (bitA x m), gy)) (by (try dsimp only); omega) (sub_cons rfl (sub_cons rfl (sub_nil _))) (by refine (sub_cons ?_ (sub_nil _)) <;> (rfl)) ?_ (by (exact fun _ h => h))
    (try dsimp only)
    exact ⟨by omega, rfl, hgy (hst _ _), hi⟩
  · (try simp only [sB] at hc8)
    refine WC.exit ?_
    refine WX.then_exit ?_
    refine WX.then_exit ?_
    refine WX.block_exit ?_
    obtain rfl : n = 0 := by omega
    have hfin : s = itD x after (bitsN x) s0 := hi
    refine WX.ret_normal ?_
    exact WX.retN rfl .nil fun w' hS => ⟨⟨_, rfl⟩, g, fun _ => hfin ▸ hgs, by rw [← hfin]; exact st_sub _ hS⟩
/-- square, and multiply by a if the digit is 1 -/
def expA (m a : Nat) (s : Bs) (y : Bool) : Bs := if y then canon (val (canon (val s * val s % m)) * a % m) else canon (val s * val s % m)
theorem itD_exp {x : Bs} (hx : okN x) (m a : Nat) : ∀ n : Nat, itD x (expA m a) n (canon (a ^ (val x / 2 ^ n) % m)) = canon (a ^ val x % m)
  | 0 => by rw [itD, Nat.pow_zero, Nat.div_one]
  | n + 1 => by
    rw [itD, show expA m a (canon (a ^ (val x / 2 ^ (n + 1)) % m)) (bitA x n) = canon (a ^ (val x / 2 ^ n) % m) from ?_, itD_exp hx m a n]
    rw [bitA_nat hx, bitN, expA, val_canon, val_canon]
    by_cases h : val x / 2 ^ n % 2 = 1
    · rw [decide_eq_true h, if_pos rfl, exp_step1 h]
    · rw [decide_eq_false h, if_neg (by simp), exp_step0 (by omega)]
theorem itD_all {x : Bs} (hx : okN x) (m a : Nat) : itD x (expA m a) (bitsN x) (canon (1 % m)) = canon (a ^ val x % m) := by
  have := itD_exp hx m a (bitsN x)
  rwa [Nat.div_eq_of_lt (val_bits x), Nat.pow_zero] at this
theorem expA_bd {m a : Nat} (hm : 0 < m) (hm8 : m ≤ 18446744073709551616) (s : Bs) (y : Bool) : val (expA m a s y) < m ∧ okN (expA m a s y) ∧ (expA m a s y).length ≤ 8 := by
  have key : ∀ k, k < m → val (canon k) < m ∧ okN (canon k) ∧ (canon k).length ≤ 8 := fun k hk => by
    have h8 : (canon k).length ≤ 8 := canon_len_le.2 (by show k < 18446744073709551616; omega)
    exact ⟨by rw [val_canon]; exact hk, ⟨by omega, can_canon _⟩, h8⟩
  rw [expA]; split <;> exact key _ (Nat.mod_lt _ hm)
def mexpM (a x m : Bs) : Bs × Int := if chkM [a, x] [m] = 0 then (canon (val a ^ val x % val m), 0) else ([], chkM [a, x] [m])
abbrev XCO (b9 g b5 b3 : Nat) (x m a : Bs) (s : Bs) (_ : Unit) : List Ent := [⟨some g, [.string (S x)], 22⟩, ⟨some b9, [.string (S s)], 22⟩, ⟨some b5, [.string (S m)], 22⟩, ⟨some b3, [.string (S a)], 22⟩]
theorem mexp_c {a x m : Bs} {w : World} (hm8 : m.length ≤ 8) :
    Calls Tryz.prog 92 #[.string (S a), .string (S x), .string (S m)] w fun e w' => e = .returned (NE (mexpM a x m)) ∧ Below w.heap.size w w' := by
  refine enterM (S := St (fun _ => True) w [] ([])) (L := [(0, .string (S a)), (1, .string (S x)), (2, .string (S m))]) Tryz.func92 rfl Tryz.ntmps92 rfl (args_cons rfl (args_cons rfl (args_cons rfl (args_nil _)))) (St.start (fun _ _ => trivial) facts_nil) ?_
  refine WC.sr ?_
  refine WL.g rfl rfl rfl (og_box rfl rfl (by (exact cells_agg _))) ?_
  intro b3
  refine WL.g rfl rfl rfl (og_box rfl rfl (by (exact cells_agg _))) ?_
  intro b5
  refine WL.r rfl rfl rfl (rd_assign rfl rfl) ?_
  refine WL.r rfl rfl rfl (rd_assign rfl rfl) ?_
  refine WL.nt ?_
  refine WC.seq ?_
  refine WC.sr ?_
  refine WL.r rfl rfl rfl (ld rfl rfl .tc Tryz.underlying22 rfl (by rfl)) ?_
  refine WL.r rfl rfl rfl (rd_move rfl rfl) ?_
  refine WL.g rfl rfl rfl (og_bs1 rfl rfl Tryz.underlying31 (by kernel_rfl : _ = some (some (.string (S [])), 1, 16)) rfl (by simp only [List.map]; rfl) rfl rfl ?_ (by decide)) ?_
  · simp [Value.cells]
  intro b13
  refine WL.r rfl rfl rfl (ld rfl rfl .tc Tryz.underlying22 rfl (by rfl)) ?_
  refine WL.g rfl rfl rfl (og_bs1 rfl rfl Tryz.underlying31 (by kernel_rfl : _ = some (some (.string (S [])), 1, 16)) rfl (by simp only [List.map]; rfl) rfl rfl ?_ (by decide)) ?_
  · simp [Value.cells]
  intro b15
  refine WL.g rfl rfl rfl (og_call rfl rfl (by kernel_rfl) (keep_val fun w hS => check_c (l := [a, x]) (ms := [m]) (by (exact hS.os)) (by (exact hS.os)) (by (simp <;> omega)) (by (simp <;> omega)) (by (simp <;> omega)) (by (simp <;> omega)))) ?_
  intro _
  refine WL.r rfl rfl rfl (rd_assign rfl rfl) ?_
  refine WL.nt ?_
  refine WC.sr ?_
  refine WL.r rfl rfl rfl (rd_move rfl rfl) ?_
  refine WL.r rfl rfl rfl (rd_neq rfl rfl rfl) ?_
  refine WL.nt ?_
  refine WC.cond rfl (fun hc18 => ?_) (fun hc18 => ?_)
  · (try simp only [sB] at hc18)
    have hr : mexpM a x m = ([], chkM [a, x] [m]) := by rw [mexpM, if_neg (by simpa using hc18)]
    refine WC.sr ?_
    refine WL.r rfl rfl rfl (rd_move rfl rfl) ?_
    refine WL.r rfl rfl rfl (rd_assign rfl rfl) ?_
    refine WL.r rfl rfl rfl (rd_assign rfl rfl) ?_
    refine WL.nt ?_
    refine WC.ret ?_
    refine WX.then_ret ?_
    exact WX.retM0 rfl (.tmp rfl (.tmp rfl .nil)) fun w' hS => ⟨by rw [hr]; rfl, hS.below⟩
  · (try simp only [sB] at hc18)
    have h0 : chkM [a, x] [m] = 0 := by simpa using hc18
    have hr : mexpM a x m = (canon (val a ^ val x % val m), 0) := by rw [mexpM, if_pos h0]
    obtain ⟨ha, hx, hm, hm0⟩ := chk2 h0
    have hp := vpos hm hm0
    have hm64 := val_8 hm8
    obtain ⟨A, hA⟩ : ∃ A, A = canon (val a % val m) := ⟨_, rfl⟩
    have hAv : val A = val a % val m := by rw [hA, val_canon]
    have hA8 : A.length ≤ 8 := by rw [hA]; exact canon_len_le.2 (by have := Nat.mod_lt (val a) hp; show _ < 18446744073709551616; omega)
    have hAk : okN A := by rw [hA]; exact ⟨by rw [← hA]; omega, can_canon _⟩
    have hone : okN [1] := ⟨by decide, by decide⟩
    have hit := itD_all hx (val m) (val A)
    rw [hAv, pow_mod2, ← hAv] at hit
    have h1k : okN (canon (1 % val m)) ∧ (canon (1 % val m)).length ≤ 8 := by
      have h8 : (canon (1 % val m)).length ≤ 8 := canon_len_le.2 (by have := Nat.mod_lt 1 hp; show _ < 18446744073709551616; omega)
      exact ⟨⟨by omega, can_canon _⟩, h8⟩
    refine WC.skip ?_
    refine WX.then_normal ?_
    refine WC.sr ?_
    refine WL.r rfl rfl rfl (ld rfl rfl .tc Tryz.underlying22 rfl (by rfl)) ?_
    refine WL.r rfl rfl rfl (ld rfl rfl .tc Tryz.underlying22 rfl (by rfl)) ?_
    refine WL.g rfl rfl rfl (og_call rfl rfl (by kernel_rfl) (keep_val fun w hS => reduced_c (a := a) (m := m) (by exact ha) (by exact hm) (by exact hm0))) ?_
    intro _
    refine WL.set 22 rfl (v' := .string (S (A))) (congrArg (fun l => Value.string (S l)) (by rw [hA])) ?_
    refine WL.g0 rfl rfl (st rfl rfl rfl .tc (by kernel_rfl) rfl ?_ (by (simp only [List.set_cons_zero, List.set_cons_succ]; rfl))) ?_
    · (simp; done)
    intro _
    refine WL.nt ?_
    refine WC.sr ?_
    refine WL.r rfl rfl rfl (ld rfl rfl .tc Tryz.underlying22 rfl (by rfl)) ?_
    refine WL.g rfl rfl rfl (og_call rfl rfl (by kernel_rfl) (keep_val fun w hS => reduced_c (a := [1]) (m := m) (by exact hone) (by exact hm) (by exact hm0))) ?_
    intro _
    refine WL.set 24 rfl (v' := .string (S (canon (1 % val m)))) (congrArg (fun l => Value.string (S l)) (by rfl)) ?_
    refine WL.g rfl rfl rfl (og_alloc rfl (v := (.string (S []))) (cs := [.string (S [])]) (by kernel_rfl) rfl) ?_
    intro b9
    refine WL.g0 rfl rfl (st rfl rfl rfl .tc (by kernel_rfl) rfl ?_ (by (simp only [List.set_cons_zero, List.set_cons_succ]; rfl))) ?_
    · decide
    intro _
    refine WL.nt ?_
    refine WC.seq ?_
    refine WC.sr ?_
    refine WL.r rfl rfl rfl (rd_move rfl rfl) ?_
    refine WL.g rfl rfl rfl (og_call rfl rfl (by kernel_rfl) (fun w hS => digits_c (x := x) hS)) ?_
    intro g26
    refine WL.nt ?_
    refine WC.block ?_
    refine WC.range (CO := XCO b9 g26 b5 b3 x m A) (pg := fun s _ => okN s ∧ s.length ≤ 8) (inv := fun s y => True) (after := expA (val m) (val A)) (stop := fun _ _ => none) (enc := fun y : Bool => #[Value.bool y]) (canon (1 % val m)) (()) (itD x (expA (val m) (val A)) (bitsN x) (canon (1 % val m))) ((none : Option Code)) (h1k) rfl (by kernel_rfl) (fun _ => rfl) (by exact st_sub) ?_ (fun l r D w hl hY hS => dig_i (x := x) hY hS h1k hx (fun s y => trivial) (fun s y => rfl)) ?_ ?_
    · intro l r D f a s g x ext wr hl hi hpg hF hS
      rw [fold1]
      refine round_of (Fr.tm (hF.put (d := 27) rfl _)) hS ?_
      refine WR.region (by kernel_rfl) ?_
      refine WL.r rfl rfl rfl (rd_assign rfl rfl) ?_
      refine WL.nil ?_
      refine WX.begin hl ?_
      have hbd := expA_bd (a := val A) hp (by omega) s
      have hsq : okN (canon (val s * val s % val m)) ∧ (canon (val s * val s % val m)).length ≤ 8 := (hbd false).2
      refine WC.block ?_
      refine WR.sr (by kernel_rfl) ?_
      refine WL.r rfl rfl rfl (ld rfl rfl .tc Tryz.underlying22 rfl (by rfl)) ?_
      refine WL.r rfl rfl rfl (ld rfl rfl .tc Tryz.underlying22 rfl (by rfl)) ?_
      refine WL.r rfl rfl rfl (ld rfl rfl .tc Tryz.underlying22 rfl (by rfl)) ?_
      refine WL.g rfl rfl rfl (og_call rfl rfl (by kernel_rfl) (keep_val fun w hS => times_c (a := s) (b := s) (m := m) (by exact hpg.1) (by exact hpg.1) (by exact hm) (by exact hm0) (by exact hpg.2) (by exact hpg.2) (by exact hm8))) ?_
      intro _
      refine WL.g0 rfl rfl (st rfl rfl rfl .tc (by kernel_rfl) rfl ?_ (by (simp only [List.set_cons_zero, List.set_cons_succ]; rfl))) ?_
      · (simp; done)
      intro _
      refine WL.nt ?_
      refine WR.sr (by kernel_rfl) ?_
      refine WL.r rfl rfl rfl (rd_move rfl rfl) ?_
      refine WL.nt ?_
      refine WC.cond rfl (fun hc32 => ?_) (fun hc32 => ?_)
      · (try simp only [sB] at hc32)
        refine WR.region (by kernel_rfl) ?_
        refine WL.r rfl rfl rfl (ld rfl rfl .tc Tryz.underlying22 rfl (by rfl)) ?_
        refine WL.r rfl rfl rfl (ld rfl rfl .tc Tryz.underlying22 rfl (by rfl)) ?_
        refine WL.r rfl rfl rfl (ld rfl rfl .tc Tryz.underlying22 rfl (by rfl)) ?_
        refine WL.g rfl rfl rfl (og_call rfl rfl (by kernel_rfl) (keep_val fun w hS => times_c (a := canon (val s * val s % val m)) (b := A) (m := m) (by exact hsq.1) (by exact hAk) (by exact hm) (by exact hm0) (by exact hsq.2) (by exact hA8) (by exact hm8))) ?_
        intro _
        refine WL.g0 rfl rfl (st rfl rfl rfl .tc (by kernel_rfl) rfl ?_ (by (simp only [List.set_cons_zero, List.set_cons_succ]; rfl))) ?_
        · (simp; done)
        intro _
        refine WL.nil ?_
        refine WX.block_normal ?_
        exact WX.rnext hl fun w' hS => by
          obtain rfl : x = true := by simpa using hc32
          exact ⟨rfl, (), fun _ => (hbd true).2, hS⟩
      · (try simp only [sB] at hc32)
        refine WC.skip ?_
        refine WX.block_normal ?_
        exact WX.rnext hl fun w' hS => by
          obtain rfl : x = false := by simpa using hc32
          exact ⟨rfl, (), fun _ => (hbd false).2, hS⟩
    · intro D1 g1 hD1 hg1 hcf
      refine WX.block_normal ?_
      refine WX.then_normal ?_
      refine WC.sr ?_
      refine WL.r rfl rfl rfl (ld rfl rfl .tc Tryz.underlying22 rfl (by rfl)) ?_
      refine WL.r rfl rfl rfl (rd_assign rfl rfl) ?_
      refine WL.r rfl rfl rfl (rd_assign rfl rfl) ?_
      refine WL.nt ?_
      refine WC.ret ?_
      exact WX.retM1 hD1 rfl (.tmp rfl (.tmp rfl .nil)) fun w' hS => ⟨by rw [hr, ← hit]; rfl, hS.below⟩
    · intro D1 g1 c hD1 hcf
      cases hcf
end Go.Proofs.YtbcnnkcddilfjaaGreat
