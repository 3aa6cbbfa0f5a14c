/-
  natural: divided.
-/
import Derived.Test.YtbcnnkcddilfjaaGreatNtl5
import Derived.Test.YtbcnnkcddilfjaaGreatDiv
namespace Go.Proofs.YtbcnnkcddilfjaaGreat
set_option linter.unusedSimpArgs false
set_option linter.unusedVariables false
set_option maxRecDepth 20000
set_option maxHeartbeats 600000
open Go.RowKit

theorem bitLen8 : ∀ x, x < 256 → Lib.bitLen x ≤ 8 := by decide +kernel
theorem bitLen_up : ∀ x, x < 256 → (x + 1) * 2 ^ (8 - Lib.bitLen x) ≤ 256 := by decide +kernel
theorem bitLen_lz : ∀ x, x < 256 → x * 2 ^ (8 - Lib.bitLen x) < 256 := by decide +kernel
theorem bitLen_pos {x : Nat} (h : 0 < x) (h2 : x < 256) : 1 ≤ Lib.bitLen x := by rw [bitLen_step h (by omega)]; omega
theorem lz8_c {c : UInt8} {w : World} :
    Calls Tryz.prog 90 #[.int .u8 (c.toNat : Int)] w fun e w' => e = .returned (.int .i64 ((8 - Lib.bitLen c.toNat : Nat) : Int)) ∧ Below w.heap.size w w' := by
  have hc := c.toNat_lt
  have hb := bitLen8 c.toNat (by omega)
  refine enter (S := St (fun _ => True) w [] ([])) (L := [(0, .int .u8 (c.toNat : Int))]) Tryz.func90 rfl Tryz.ntmps90 rfl (args_cons rfl (args_nil _)) (St.start (fun _ _ => trivial) facts_nil) ?_
  refine WC.sr ?_
  refine WL.r rfl rfl rfl (rd_assign rfl rfl) ?_
  refine WL.nt ?_
  refine WC.sr ?_
  refine WL.r rfl rfl rfl (rd_move rfl rfl) ?_
  refine WL.g rfl rfl rfl (og_call rfl rfl (by kernel_rfl) (keep_val fun w hS => len8_c (x := c.toNat) (by assumption))) ?_
  intro _
  (refine WL.r rfl rfl rfl (rd_sub64ln rfl rfl rfl ?_) ?_; (focus (omega)))
  refine WL.r rfl rfl rfl (rd_assign rfl rfl) ?_
  refine WL.nt ?_
  refine WC.ret ?_
  exact WX.retN rfl (.tmp rfl .nil) fun w' hS => ⟨by rfl, hS.below⟩
/-- the scaled divisor fits -/
theorem sc_fits {b : Bs} (h : Can b) (h0 : b ≠ []) : val b * 2 ^ (8 - Lib.bitLen (b.getD 0 default).toNat) < 256 ^ b.length := by
  cases b with
  | nil => exact absurd rfl h0
  | cons c s =>
    show (c.toNat * 256 ^ s.length + val s) * 2 ^ (8 - Lib.bitLen c.toNat) < 256 ^ (s.length + 1)
    have h1 := bitLen_lz c.toNat c.toNat_lt
    have h2 := val_lt s
    have h3 : (c.toNat * 256 ^ s.length + val s) * 2 ^ (8 - Lib.bitLen c.toNat) < (c.toNat + 1) * 256 ^ s.length * 2 ^ (8 - Lib.bitLen c.toNat) :=
      Nat.mul_lt_mul_of_pos_right (by rw [Nat.add_mul, Nat.one_mul]; omega) (Nat.two_pow_pos _)
    have h4 : (c.toNat + 1) * 2 ^ (8 - Lib.bitLen c.toNat) ≤ 256 := bitLen_up c.toNat c.toNat_lt
    have h5 : (c.toNat + 1) * 256 ^ s.length * 2 ^ (8 - Lib.bitLen c.toNat) = (c.toNat + 1) * 2 ^ (8 - Lib.bitLen c.toNat) * 256 ^ s.length := by
      rw [Nat.mul_assoc, Nat.mul_comm (256 ^ s.length), ← Nat.mul_assoc]
    have h6 : (c.toNat + 1) * 2 ^ (8 - Lib.bitLen c.toNat) * 256 ^ s.length ≤ 256 * 256 ^ s.length := Nat.mul_le_mul_right _ h4
    rw [Nat.pow_succ, Nat.mul_comm (256 ^ s.length)]; omega
theorem be_zero (n : Nat) : (be n 0).map B = List.replicate n (.int .u8 0) := by
  have h : be n 0 = List.replicate n 0 := by
    induction n with
    | zero => rfl
    | succ n ih => rw [be, ih]; simp [List.replicate_succ]
  rw [h, List.map_replicate]; rfl
theorem divided_c {a b : Bs} {w : World} (ha : okN a) (hb : okN b) (hb0 : b ≠ []) :
    Calls Tryz.prog 69 #[.string (S a), .string (S b)] w fun e w' => e = .returned (.tuple #[.string (S (canon (val a / val b))), .string (S (canon (val a % val b)))]) ∧ Below w.heap.size w w' := by
  have hal := ha.1; have hbl := hb.1
  have hvb : 0 < val b := Nat.pos_of_ne_zero fun h => hb0 ((val_eq_zero hb.2).1 h)
  refine enter (S := St (fun _ => True) w [] ([])) (L := [(0, .string (S a)), (1, .string (S b))]) Tryz.func69 rfl Tryz.ntmps69 rfl (args_cons rfl (args_cons rfl (args_nil _))) (St.start (fun _ _ => trivial) facts_nil) ?_
  refine WC.sr ?_
  refine WL.r rfl rfl rfl (rd_assign rfl rfl) ?_
  refine WL.r rfl rfl rfl (rd_assign rfl rfl) ?_
  refine WL.nt ?_
  refine WC.seq ?_
  refine WC.sr ?_
  refine WL.r rfl rfl rfl (rd_move rfl rfl) ?_
  refine WL.r rfl rfl rfl (rd_move rfl rfl) ?_
  refine WL.g rfl rfl rfl (og_call rfl rfl (by kernel_rfl) (keep_val fun w hS => compare_c (a := a) (b := b) (by exact ha.2) (by exact hb.2))) ?_
  intro _
  refine WL.r rfl rfl rfl (rd_lss rfl rfl rfl) ?_
  refine WL.nt ?_
  refine WC.cond rfl (fun hc32 => ?_) (fun hc32 => ?_)
  · (try simp only [sB] at hc32)
    have hlt : val a < val b := (cmpI_neg _ _).1 hc32
    refine WC.sr ?_
    refine WL.r rfl rfl rfl (rd_move rfl rfl) ?_
    refine WL.r rfl rfl rfl (rd_assign rfl rfl) ?_
    refine WL.r rfl rfl rfl (rd_assign rfl rfl) ?_
    refine WL.nt ?_
    refine WC.ret ?_
    refine WX.then_ret ?_
    exact WX.retN rfl (.tmp rfl (.tmp rfl .nil)) fun w' hS => ⟨by rw [Nat.div_eq_of_lt hlt, Nat.mod_eq_of_lt hlt, canon_zero, ok_canon ha]; rfl, hS.below⟩
  · (try simp only [sB] at hc32)
    have hge : val b ≤ val a := Nat.not_lt.1 fun h => absurd ((cmpI_neg _ _).2 h) (by omega)
    have hlen : b.length ≤ a.length := can_len hb.2 ha.2 hge
    refine WC.skip ?_
    refine WX.then_normal ?_
    refine WC.seq ?_
    refine WC.sr ?_
    refine WL.r rfl rfl rfl (rd_move rfl rfl) ?_
    refine WL.r rfl rfl rfl (rd_slen rfl rfl Tryz.underlying22) ?_
    refine WL.r rfl rfl rfl (rd_leq rfl rfl rfl) ?_
    refine WL.nt ?_
    refine WC.cond rfl (fun hc36 => ?_) (fun hc36 => ?_)
    · (try simp only [sB] at hc36)
      have hsa : smallN a = (val a, true) := by rw [smallN, if_pos ⟨ha, by omega⟩]
      have hsb : smallN b = (val b, true) := by rw [smallN, if_pos ⟨hb, by omega⟩]
      have hva8 : val a < 18446744073709551616 := val_8 (by omega)
      have hdv := Nat.div_le_self (val a) (val b)
      have hmd := Nat.mod_lt (val a) hvb
      refine WC.sr ?_
      refine WL.r rfl rfl rfl (rd_move rfl rfl) ?_
      refine WL.g rfl rfl rfl (og_call rfl rfl (by kernel_rfl) (keep_val fun w hS => (by have := small_c (w := w) (a := a) (by omega); rw [hsa] at this; exact this))) ?_
      intro _
      refine WL.r rfl rfl rfl (rd_move rfl rfl) ?_
      refine WL.r rfl rfl rfl (rd_extL rfl rfl rfl) ?_
      refine WL.r rfl rfl rfl (rd_extL rfl rfl rfl) ?_
      refine WL.r rfl rfl rfl (rd_assign rfl rfl) ?_
      refine WL.r rfl rfl rfl (rd_assign rfl rfl) ?_
      refine WL.nt ?_
      refine WC.sr ?_
      refine WL.r rfl rfl rfl (rd_move rfl rfl) ?_
      refine WL.g rfl rfl rfl (og_call rfl rfl (by kernel_rfl) (keep_val fun w hS => (by have := small_c (w := w) (a := b) (by omega); rw [hsb] at this; exact this))) ?_
      intro _
      refine WL.r rfl rfl rfl (rd_move rfl rfl) ?_
      refine WL.r rfl rfl rfl (rd_extL rfl rfl rfl) ?_
      refine WL.r rfl rfl rfl (rd_extL rfl rfl rfl) ?_
      refine WL.r rfl rfl rfl (rd_assign rfl rfl) ?_
      refine WL.r rfl rfl rfl (rd_assign rfl rfl) ?_
      refine WL.nt ?_
      refine WC.seq ?_
      refine WC.free0 [0, 1, 2, 3, 4, 5, 6, 7, 8, 9] [] [0, 0, 0, 1, 0, 0, 0, 1, 0, 0] (by kernel_rfl) (by kernel_rfl) rfl ?_
      refine WJ.r rfl rfl rfl rfl rfl (rd_move rfl rfl) ?_
      refine WJ.r rfl rfl rfl rfl rfl (rd_move rfl rfl) ?_
      refine WJ.r rfl rfl rfl rfl rfl (rd_quoW rfl rfl rfl ?_) ?_
      · omega
      refine WJ.gv rfl rfl rfl rfl rfl (fun ext => og_call rfl rfl (by kernel_rfl) (keep_val fun w hS => of_c (n := val a / val b) (by omega))) ?_
      refine WJ.r rfl rfl rfl rfl rfl (rd_move rfl rfl) ?_
      refine WJ.r rfl rfl rfl rfl rfl (rd_move rfl rfl) ?_
      refine WJ.r rfl rfl rfl rfl rfl (rd_remW rfl rfl rfl ?_) ?_
      · assumption
      refine WJ.gv rfl rfl rfl rfl rfl (fun ext => og_call rfl rfl (by kernel_rfl) (keep_val fun w hS => of_c (n := val a % val b) (by omega))) ?_
      refine WJ.r rfl rfl rfl rfl rfl (rd_assign rfl rfl) ?_
      refine WJ.r rfl rfl rfl rfl rfl (rd_assign rfl rfl) ?_
      refine WJ.nil ?_
      refine WL.nt ?_
      refine WC.ret ?_
      refine WX.then_ret ?_
      exact WX.retN rfl (.tmp rfl (.tmp rfl .nil)) fun w' hS => ⟨by rfl, hS.below⟩
    · (try simp only [sB] at hc36)
      obtain ⟨s, hs⟩ : ∃ s, s = 8 - Lib.bitLen (b.getD 0 default).toNat := ⟨_, rfl⟩
      have hcb := (can_iff b).1 hb.2
      have hbp : 0 < b.length := List.length_pos_iff.2 hb0
      have hs8 : s < 8 := by have := bitLen_pos (x := (b.getD 0 default).toNat) (by omega) (b.getD 0 default).toNat_lt; omega
      have hfit := sc_fits hb.2 hb0
      rw [← hs] at hfit
      obtain ⟨D, hD⟩ : ∃ D, D = val b * 2 ^ s := ⟨_, rfl⟩
      rw [← hD] at hfit
      have hdg : ∀ (x k : Nat), x / 256 ^ k % 256 * 2 ^ s < 65536 := fun x k => by
        have h1 : x / 256 ^ k % 256 < 256 := Nat.mod_lt _ (by decide)
        generalize x / 256 ^ k % 256 = y at *
        rcases sh_cases hs8 with rfl | rfl | rfl | rfl | rfl | rfl | rfl | rfl <;> omega
      have hdg2 : ∀ (x k : Nat), x / 256 ^ k % 256 < 256 := fun x k => Nat.mod_lt _ (by decide)
      refine WC.skip ?_
      refine WX.then_normal ?_
      refine WC.sr ?_
      refine WL.r rfl rfl rfl (rd_move rfl rfl) ?_
      (refine WL.r rfl rfl rfl (rd_sidxN rfl rfl rfl Tryz.underlying22 ?_) ?_; (focus (assumption)))
      refine WL.g rfl rfl rfl (og_call rfl rfl (by kernel_rfl) (keep_val fun w hS => lz8_c (c := b.getD 0 default))) ?_
      intro _
      refine WL.set 57 rfl (v' := .int .i64 ((s : Nat) : Int)) (congrArg (Value.int .i64) (by rw [hs])) ?_
      refine WL.r rfl rfl rfl (rd_assign rfl rfl) ?_
      refine WL.nt ?_
      refine WC.sr ?_
      refine WL.r rfl rfl rfl (rd_move rfl rfl) ?_
      refine WL.r rfl rfl rfl (rd_slen rfl rfl Tryz.underlying22) ?_
      refine WL.r rfl rfl rfl (rd_assign rfl rfl) ?_
      refine WL.nt ?_
      refine WC.sr ?_
      refine WL.r rfl rfl rfl (rd_move rfl rfl) ?_
      refine WL.g rfl rfl rfl (og_mk rfl rfl rfl Tryz.underlying107 (by kernel_rfl : _ = some (some (.int .i64 0), 1, 8)) rfl ?_ (by (try simp only [sN, Int.reduceToNat, Nat.reduceAdd, Nat.reduceMul, Nat.reduceSub]); rfl) (by (try simp only [sN, Int.reduceToNat, Nat.reduceAdd, Nat.reduceMul, Nat.reduceSub]); rfl)) ?_
      · omega
      intro b61
      refine WL.r rfl rfl rfl (rd_assign rfl rfl) ?_
      refine WL.nt ?_
      refine WC.seq ?_
      refine WC.sr ?_
      refine WL.r rfl rfl rfl (rd_move rfl rfl) ?_
      refine WL.r rfl rfl rfl (rd_move rfl rfl) ?_
      refine WL.nt ?_
      refine WC.block ?_
      refine WC.loopO (σ := Nat) [(0, _), (1, _), (10, _), (11, _), (12, _), (62, _)] (fun g => [(63, .int .i64 (g : Int))]) (fun g => g ≤ b.length) (fun g => b.length - g) (fun g => [⟨some b61, cols (digs D g ++ List.replicate (b.length - g) 0), 3⟩]) (fun g => []) (0) (sub_cons rfl (sub_cons rfl (sub_cons rfl (sub_cons rfl (sub_cons rfl (sub_cons rfl (sub_nil _))))))) (sub_cons rfl (sub_nil _)) (by (try dsimp only); omega) (by exact fun w h => by rw [show digs D 0 ++ List.replicate (b.length - 0) 0 = List.replicate b.length 0 from rfl, cols_rep]; exact h) ?_
      rintro k hinv1; (try dsimp only at hinv1 ⊢)
      obtain hk := hinv1
      refine WC.sr ?_
      refine WL.r rfl rfl rfl (rd_lss rfl rfl rfl) ?_
      refine WL.nt ?_
      refine WC.seq ?_
      refine WC.cond rfl (fun hc64 => ?_) (fun hc64 => ?_)
      · (try simp only [sB] at hc64)
        have hd1 := hdg (val b) k
        have hd2 := hdg2 (val b) k
        have hll : (digs D k ++ List.replicate (b.length - k) 0).length = b.length := by rw [List.length_append, digs_len, List.length_replicate]; omega
        refine WC.skip ?_
        refine WX.then_normal ?_
        refine WC.joinO (σ := Unit) [(0, _), (1, _), (10, _), (11, _), (12, _), (62, _), (63, _)] (fun g => []) (fun g => True) (fun g => [⟨some b61, cols (digs D (k + 1) ++ List.replicate (b.length - (k + 1)) 0), 3⟩]) (fun g => []) (sub_cons rfl (sub_cons rfl (sub_cons rfl (sub_cons rfl (sub_cons rfl (sub_cons rfl (sub_cons rfl (sub_nil _)))))))) ?_ ?_
        · skip
          refine WC.block ?_
          refine WC.sr ?_
          refine WL.r rfl rfl rfl (rd_move rfl rfl) ?_
          refine WL.r rfl rfl rfl (rd_assign rfl rfl) ?_
          refine WL.nt ?_
          refine WC.sr ?_
          refine WL.r rfl rfl rfl (rd_move rfl rfl) ?_
          refine WL.r rfl rfl rfl (rd_move rfl rfl) ?_
          refine WL.r rfl rfl rfl (rd_move rfl rfl) ?_
          refine WL.r rfl rfl rfl (rd_move rfl rfl) ?_
          refine WL.g rfl rfl rfl (og_call rfl rfl (by kernel_rfl) (keep_val fun w hS => digit_c (a := b) (i := k) (by omega) (by omega))) ?_
          intro _
          refine WL.r rfl rfl rfl (rd_move rfl rfl) ?_
          (refine WL.r rfl rfl rfl (rd_shlW rfl rfl rfl ?_ ?_) ?_; (focus ((show _ ≤ 64; omega))); (focus (omega)))
          refine WL.r rfl rfl rfl (rd_andW 8 rfl rfl rfl (by decide) ?_) ?_
          · omega
          (refine WL.r rfl rfl rfl (rd_ia rfl rfl rfl Tryz.underlying107 (by kernel_rfl : _ = some 1) ?_ (by (try simp only [sN, Int.reduceToNat, Nat.reduceAdd, Nat.reduceMul, Nat.reduceSub]); rfl)) ?_; (focus (omega)))
          refine WL.g0 rfl rfl (st rfl rfl rfl .tc (by kernel_rfl) rfl ?_ (by rfl)) ?_
          · rw [cols_len, hll]; omega
          intro _
          rw [cols_set]
          refine WL.nt ?_
          refine WC.sr ?_
          refine WL.r rfl rfl rfl (rd_move rfl rfl) ?_
          refine WL.r rfl rfl rfl (rd_gtr rfl rfl rfl) ?_
          refine WL.nt ?_
          refine WC.cond rfl (fun hc76 => ?_) (fun hc76 => ?_)
          · (try simp only [sB] at hc76)
            have hk1 : k - 1 + 1 = k := by omega
            have hsc := sc_digit (val b) s (k - 1) hs8
            have hsp := sc_parts (val b) s (k - 1) hs8
            rw [hk1] at hsc hsp
            rw [← hD] at hsc
            have hd3 := hdg2 (val b) (k - 1)
            refine WC.free0 [4, 5, 6, 7, 0, 1, 2, 3, 8, 9, 10, 11, 12] [13] [0, 0, 0, 0, 0, 0, 0, 1, 0, 0, 0, 0, 0, 2] (by kernel_rfl) (by kernel_rfl) rfl ?_
            refine WJ.r rfl rfl rfl rfl rfl (rd_move rfl rfl) ?_
            refine WJ.r rfl rfl rfl rfl rfl (rd_move rfl rfl) ?_
            (refine WJ.r rfl rfl rfl rfl rfl (rd_sub64nl rfl rfl rfl ?_) ?_; (focus (omega)))
            refine WJ.gv rfl rfl rfl rfl rfl (fun ext => og_call rfl rfl (by kernel_rfl) (keep_val fun w hS => digit_c (a := b) (i := k - 1) (by omega) (by omega))) ?_
            refine WJ.r rfl rfl rfl rfl rfl (rd_move rfl rfl) ?_
            refine WJ.r rfl rfl rfl rfl rfl (rd_move rfl rfl) ?_
            (refine WJ.r rfl rfl rfl rfl rfl (rd_ia rfl rfl rfl Tryz.underlying107 (by kernel_rfl : _ = some 1) ?_ (by (try simp only [sN, Int.reduceToNat, Nat.reduceAdd, Nat.reduceMul, Nat.reduceSub]); rfl)) ?_; (focus (omega)))
            refine WJ.r rfl rfl rfl rfl rfl (ld rfl rfl .tc Tryz.underlying3 rfl (cols_get _ _ (by rw [List.length_set, hll]; omega))) ?_
            refine WJ.set 80 rfl (v' := .int .i64 ((val b / 256 ^ k % 256 * 2 ^ s % 2 ^ 8 : Nat) : Int)) (congrArg (Value.int .i64) (by rw [getD_set_eq _ _ _ (by rw [hll]; omega)])) ?_
            refine WJ.r rfl rfl rfl rfl rfl (rd_move rfl rfl) ?_
            (refine WJ.r rfl rfl rfl rfl rfl (rd_sub64ln rfl rfl rfl ?_) ?_; (focus (omega)))
            (refine WJ.r rfl rfl rfl rfl rfl (rd_shrW rfl rfl rfl ?_) ?_; (focus ((show _ ≤ 64; omega))))
            refine WJ.r rfl rfl rfl rfl rfl (rd_orW s rfl rfl rfl ?_) ?_
            · exact ⟨hsp.2.1, by omega, hsp.1, by omega⟩
            (refine WJ.r rfl rfl rfl rfl rfl (rd_ia rfl rfl rfl Tryz.underlying107 (by kernel_rfl : _ = some 1) ?_ (by (try simp only [sN, Int.reduceToNat, Nat.reduceAdd, Nat.reduceMul, Nat.reduceSub]); rfl)) ?_; (focus (omega)))
            refine WJ.nil ?_
            refine WL.g0 rfl rfl (st rfl rfl rfl .tc (by kernel_rfl) rfl ?_ (by rfl)) ?_
            · rw [cols_len, List.length_set, hll]; omega
            intro _
            rw [cols_set, List.set_set]
            refine WL.nil ?_
            refine WX.block_normal ?_
            refine WX.joinO (()) (sub_cons rfl (sub_cons rfl (sub_cons rfl (sub_cons rfl (sub_cons rfl (sub_cons rfl (sub_cons rfl (sub_nil _)))))))) (sub_nil _) ?_ (by exact fun w h => by rw [← digs_set D b.length k (by omega), hsc]; exact h)
            (try dsimp only)
            done
          · (try simp only [sB] at hc76)
            obtain rfl : k = 0 := by omega
            have hsc := sc_digit0 (val b) s
            rw [← hD] at hsc
            refine WC.skip ?_
            refine WX.block_normal ?_
            refine WX.joinO (()) (sub_cons rfl (sub_cons rfl (sub_cons rfl (sub_cons rfl (sub_cons rfl (sub_cons rfl (sub_cons rfl (sub_nil _)))))))) (sub_nil _) ?_ (by exact fun w h => by rw [← digs_set D b.length 0 (by omega), hsc]; exact h)
            (try dsimp only)
            done
        · rintro _ hmeet; (try dsimp only at hmeet ⊢)
          refine WC.region ?_
          (refine WL.r rfl rfl rfl (rd_add64nl rfl rfl rfl ?_) ?_; (focus (omega)))
          refine WL.r rfl rfl rfl (rd_move rfl rfl) ?_
          refine WL.nil ?_
          refine WX.loopO (k + 1) (by (try dsimp only); omega) (sub_cons rfl (sub_cons rfl (sub_cons rfl (sub_cons rfl (sub_cons rfl (sub_cons rfl (sub_nil _))))))) (by refine (sub_cons ?_ (sub_nil _)) <;> (rfl)) ?_ (by (exact fun _ h => h))
          (try dsimp only)
          omega
      · (try simp only [sB] at hc64)
        refine WC.exit ?_
        refine WX.then_exit ?_
        refine WX.then_exit ?_
        refine WX.block_exit ?_
        obtain rfl : k = b.length := by omega
        rw [show List.replicate (b.length - b.length) 0 = ([] : List Nat) by rw [Nat.sub_self]; rfl, List.append_nil]
        obtain ⟨X, hX⟩ : ∃ X, X = val a * 2 ^ s := ⟨_, rfl⟩
        refine WX.then_normal ?_
        refine WC.sr ?_
        refine WL.r rfl rfl rfl (rd_move rfl rfl) ?_
        refine WL.r rfl rfl rfl (rd_slen rfl rfl Tryz.underlying22) ?_
        (refine WL.r rfl rfl rfl (rd_add64nl rfl rfl rfl ?_) ?_; (focus (omega)))
        refine WL.g rfl rfl rfl (og_mk rfl rfl rfl Tryz.underlying107 (by kernel_rfl : _ = some (some (.int .i64 0), 1, 8)) rfl ?_ (by (try simp only [sN, Int.reduceToNat, Nat.reduceAdd, Nat.reduceMul, Nat.reduceSub]); rfl) (by (try simp only [sN, Int.reduceToNat, Nat.reduceAdd, Nat.reduceMul, Nat.reduceSub]); rfl)) ?_
        · omega
        intro b94
        refine WL.r rfl rfl rfl (rd_assign rfl rfl) ?_
        refine WL.nt ?_
        refine WC.seq ?_
        refine WC.sr ?_
        refine WL.r rfl rfl rfl (rd_move rfl rfl) ?_
        refine WL.r rfl rfl rfl (rd_len rfl rfl Tryz.underlying107) ?_
        refine WL.r rfl rfl rfl (rd_move rfl rfl) ?_
        refine WL.nt ?_
        refine WC.block ?_
        refine WC.loopO (σ := Nat) [(0, _), (10, _), (11, _), (12, _), (14, _), (96, _)] (fun g => [(97, .int .i64 (g : Int))]) (fun g => g ≤ a.length + 1) (fun g => a.length + 1 - g) (fun g => [⟨some b94, cols (digs X g ++ List.replicate (a.length + 1 - g) 0), 3⟩, ⟨some b61, cols (digs D b.length), 3⟩]) (fun g => []) (0) (sub_cons rfl (sub_cons rfl (sub_cons rfl (sub_cons rfl (sub_cons rfl (sub_cons rfl (sub_nil _))))))) (sub_cons rfl (sub_nil _)) (by (try dsimp only); omega) (by exact fun w h => by rw [show digs X 0 ++ List.replicate (a.length + 1 - 0) 0 = List.replicate (a.length + 1) 0 from rfl, cols_rep]; exact h) ?_
        rintro k hinv2; (try dsimp only at hinv2 ⊢)
        obtain hk := hinv2
        refine WC.sr ?_
        refine WL.r rfl rfl rfl (rd_lss rfl rfl rfl) ?_
        refine WL.nt ?_
        refine WC.seq ?_
        refine WC.cond rfl (fun hc98 => ?_) (fun hc98 => ?_)
        · (try simp only [sB] at hc98)
          have hd1 := hdg (val a) k
          have hd2 := hdg2 (val a) k
          have hll : (digs X k ++ List.replicate (a.length + 1 - k) 0).length = a.length + 1 := by rw [List.length_append, digs_len, List.length_replicate]; omega
          refine WC.skip ?_
          refine WX.then_normal ?_
          refine WC.joinO (σ := Unit) [(0, _), (10, _), (11, _), (12, _), (14, _), (96, _), (97, _)] (fun g => []) (fun g => True) (fun g => [⟨some b94, cols (digs X (k + 1) ++ List.replicate (a.length + 1 - (k + 1)) 0), 3⟩, ⟨some b61, cols (digs D b.length), 3⟩]) (fun g => []) (sub_cons rfl (sub_cons rfl (sub_cons rfl (sub_cons rfl (sub_cons rfl (sub_cons rfl (sub_cons rfl (sub_nil _)))))))) ?_ ?_
          · skip
            refine WC.block ?_
            refine WC.sr ?_
            refine WL.r rfl rfl rfl (rd_move rfl rfl) ?_
            refine WL.r rfl rfl rfl (rd_assign rfl rfl) ?_
            refine WL.nt ?_
            refine WC.sr ?_
            refine WL.r rfl rfl rfl (rd_move rfl rfl) ?_
            refine WL.r rfl rfl rfl (rd_move rfl rfl) ?_
            refine WL.r rfl rfl rfl (rd_move rfl rfl) ?_
            refine WL.r rfl rfl rfl (rd_move rfl rfl) ?_
            refine WL.g rfl rfl rfl (og_call rfl rfl (by kernel_rfl) (keep_val fun w hS => digit_c (a := a) (i := k) (by omega) (by omega))) ?_
            intro _
            refine WL.r rfl rfl rfl (rd_move rfl rfl) ?_
            (refine WL.r rfl rfl rfl (rd_shlW rfl rfl rfl ?_ ?_) ?_; (focus ((show _ ≤ 64; omega))); (focus (omega)))
            refine WL.r rfl rfl rfl (rd_andW 8 rfl rfl rfl (by decide) ?_) ?_
            · omega
            (refine WL.r rfl rfl rfl (rd_ia rfl rfl rfl Tryz.underlying107 (by kernel_rfl : _ = some 1) ?_ (by (try simp only [sN, Int.reduceToNat, Nat.reduceAdd, Nat.reduceMul, Nat.reduceSub]); rfl)) ?_; (focus (omega)))
            refine WL.g0 rfl rfl (st rfl rfl rfl .tc (by kernel_rfl) rfl ?_ (by rfl)) ?_
            · rw [cols_len, hll]; omega
            intro _
            rw [cols_set]
            refine WL.nt ?_
            refine WC.sr ?_
            refine WL.r rfl rfl rfl (rd_move rfl rfl) ?_
            refine WL.r rfl rfl rfl (rd_gtr rfl rfl rfl) ?_
            refine WL.nt ?_
            refine WC.cond rfl (fun hc110 => ?_) (fun hc110 => ?_)
            · (try simp only [sB] at hc110)
              have hk1 : k - 1 + 1 = k := by omega
              have hsc := sc_digit (val a) s (k - 1) hs8
              have hsp := sc_parts (val a) s (k - 1) hs8
              rw [hk1] at hsc hsp
              rw [← hX] at hsc
              have hd3 := hdg2 (val a) (k - 1)
              refine WC.free0 [4, 5, 6, 7, 0, 1, 2, 3, 8, 9, 10, 11, 12] [13] [0, 0, 0, 0, 0, 0, 0, 1, 0, 0, 0, 0, 0, 2] (by kernel_rfl) (by kernel_rfl) rfl ?_
              refine WJ.r rfl rfl rfl rfl rfl (rd_move rfl rfl) ?_
              refine WJ.r rfl rfl rfl rfl rfl (rd_move rfl rfl) ?_
              (refine WJ.r rfl rfl rfl rfl rfl (rd_sub64nl rfl rfl rfl ?_) ?_; (focus (omega)))
              refine WJ.gv rfl rfl rfl rfl rfl (fun ext => og_call rfl rfl (by kernel_rfl) (keep_val fun w hS => digit_c (a := a) (i := k - 1) (by omega) (by omega))) ?_
              refine WJ.r rfl rfl rfl rfl rfl (rd_move rfl rfl) ?_
              refine WJ.r rfl rfl rfl rfl rfl (rd_move rfl rfl) ?_
              (refine WJ.r rfl rfl rfl rfl rfl (rd_ia rfl rfl rfl Tryz.underlying107 (by kernel_rfl : _ = some 1) ?_ (by (try simp only [sN, Int.reduceToNat, Nat.reduceAdd, Nat.reduceMul, Nat.reduceSub]); rfl)) ?_; (focus (omega)))
              refine WJ.r rfl rfl rfl rfl rfl (ld rfl rfl .tc Tryz.underlying3 rfl (cols_get _ _ (by rw [List.length_set, hll]; omega))) ?_
              refine WJ.set 114 rfl (v' := .int .i64 ((val a / 256 ^ k % 256 * 2 ^ s % 2 ^ 8 : Nat) : Int)) (congrArg (Value.int .i64) (by rw [getD_set_eq _ _ _ (by rw [hll]; omega)])) ?_
              refine WJ.r rfl rfl rfl rfl rfl (rd_move rfl rfl) ?_
              (refine WJ.r rfl rfl rfl rfl rfl (rd_sub64ln rfl rfl rfl ?_) ?_; (focus (omega)))
              (refine WJ.r rfl rfl rfl rfl rfl (rd_shrW rfl rfl rfl ?_) ?_; (focus ((show _ ≤ 64; omega))))
              refine WJ.r rfl rfl rfl rfl rfl (rd_orW s rfl rfl rfl ?_) ?_
              · exact ⟨hsp.2.1, by omega, hsp.1, by omega⟩
              (refine WJ.r rfl rfl rfl rfl rfl (rd_ia rfl rfl rfl Tryz.underlying107 (by kernel_rfl : _ = some 1) ?_ (by (try simp only [sN, Int.reduceToNat, Nat.reduceAdd, Nat.reduceMul, Nat.reduceSub]); rfl)) ?_; (focus (omega)))
              refine WJ.nil ?_
              refine WL.g0 rfl rfl (st rfl rfl rfl .tc (by kernel_rfl) rfl ?_ (by rfl)) ?_
              · rw [cols_len, List.length_set, hll]; omega
              intro _
              rw [cols_set, List.set_set]
              refine WL.nil ?_
              refine WX.block_normal ?_
              refine WX.joinO (()) (sub_cons rfl (sub_cons rfl (sub_cons rfl (sub_cons rfl (sub_cons rfl (sub_cons rfl (sub_cons rfl (sub_nil _)))))))) (sub_nil _) ?_ (by exact fun w h => by rw [← digs_set X (a.length + 1) k (by omega), hsc]; exact h)
              (try dsimp only)
              done
            · (try simp only [sB] at hc110)
              obtain rfl : k = 0 := by omega
              have hsc := sc_digit0 (val a) s
              rw [← hX] at hsc
              refine WC.skip ?_
              refine WX.block_normal ?_
              refine WX.joinO (()) (sub_cons rfl (sub_cons rfl (sub_cons rfl (sub_cons rfl (sub_cons rfl (sub_cons rfl (sub_cons rfl (sub_nil _)))))))) (sub_nil _) ?_ (by exact fun w h => by rw [← digs_set X (a.length + 1) 0 (by omega), hsc]; exact h)
              (try dsimp only)
              done
          · rintro _ hmeet; (try dsimp only at hmeet ⊢)
            refine WC.region ?_
            (refine WL.r rfl rfl rfl (rd_add64nl rfl rfl rfl ?_) ?_; (focus (omega)))
            refine WL.r rfl rfl rfl (rd_move rfl rfl) ?_
            refine WL.nil ?_
            refine WX.loopO (k + 1) (by (try dsimp only); omega) (sub_cons rfl (sub_cons rfl (sub_cons rfl (sub_cons rfl (sub_cons rfl (sub_cons rfl (sub_nil _))))))) (by refine (sub_cons ?_ (sub_nil _)) <;> (rfl)) ?_ (by (exact fun _ h => h))
            (try dsimp only)
            omega
        · (try simp only [sB] at hc98)
          refine WC.exit ?_
          refine WX.then_exit ?_
          refine WX.then_exit ?_
          refine WX.block_exit ?_
          obtain rfl : k = a.length + 1 := by omega
          rw [show List.replicate (a.length + 1 - (a.length + 1)) 0 = ([] : List Nat) by rw [Nat.sub_self]; rfl, List.append_nil]
          have hXl : X < 256 ^ (a.length - b.length + 1) * D := by
            have h1 := val_lt a
            have h2 := can_ge hb.2 hb0
            rw [hX, hD, ← Nat.mul_assoc]
            refine Nat.mul_lt_mul_of_pos_right ?_ (Nat.two_pow_pos s)
            refine Nat.lt_of_lt_of_le h1 (Nat.le_trans ?_ (Nat.mul_le_mul_left _ h2))
            rw [← Nat.pow_add]; exact Nat.pow_le_pow_right (by decide) (by omega)
          have hXL : X < 256 ^ (a.length + 1) := by
            have h1 := val_lt a
            rw [hX, Nat.pow_succ]
            exact Nat.mul_lt_mul'' h1 (by rcases sh_cases hs8 with h | h | h | h | h | h | h | h <;> rw [h] <;> decide)
          have hdi0 := div_start (L := a.length + 1) (X := X) (D := D) (n := b.length) (t := a.length - b.length + 1) (by omega) hXl hXL
          have hDev : ev 256 (digs D b.length) = D := by rw [ev_digs, Nat.mod_eq_of_lt hfit]
          have hDt : 0 < (digs D b.length).getD (b.length - 1) 0 := by
            have h2 := can_ge hb.2 hb0
            have h3 : val b * 1 ≤ val b * 2 ^ s := Nat.mul_le_mul_left _ (Nat.two_pow_pos s)
            rw [digs_get _ _ _ (by omega), Nat.mod_eq_of_lt (by
              rw [Nat.div_lt_iff_lt_mul (Nat.pow_pos (by decide)), ← Nat.pow_succ', show (b.length - 1).succ = b.length by omega]; exact hfit)]
            exact Nat.div_pos (by omega) (Nat.pow_pos (by decide))
          have hDl := getD_lt 256 (by decide) _ (digs_lt D b.length) (b.length - 1)
          have hDp : 0 < D := by rw [hD]; exact Nat.mul_pos hvb (Nat.two_pow_pos s)
          refine WX.then_normal ?_
          refine WC.sr ?_
          refine WL.r rfl rfl rfl (rd_move rfl rfl) ?_
          refine WL.r rfl rfl rfl (rd_slen rfl rfl Tryz.underlying22) ?_
          refine WL.r rfl rfl rfl (rd_move rfl rfl) ?_
          (refine WL.r rfl rfl rfl (rd_sub64n rfl rfl rfl ?_) ?_; (focus (omega)))
          (refine WL.r rfl rfl rfl (rd_add64nl rfl rfl rfl ?_) ?_; (focus (omega)))
          refine WL.g rfl rfl rfl (og_mk rfl rfl rfl Tryz.underlying79 (by kernel_rfl : _ = some (some (.int .u8 0), 1, 1)) rfl ?_ (by (try simp only [sN, Int.reduceToNat, Nat.reduceAdd, Nat.reduceMul, Nat.reduceSub]); rfl) (by (try simp only [sN, Int.reduceToNat, Nat.reduceAdd, Nat.reduceMul, Nat.reduceSub]); rfl)) ?_
          · omega
          intro b130
          refine WL.r rfl rfl rfl (rd_assign rfl rfl) ?_
          refine WL.nt ?_
          refine WC.seq ?_
          refine WC.sr ?_
          refine WL.r rfl rfl rfl (rd_move rfl rfl) ?_
          refine WL.r rfl rfl rfl (rd_slen rfl rfl Tryz.underlying22) ?_
          refine WL.r rfl rfl rfl (rd_move rfl rfl) ?_
          (refine WL.r rfl rfl rfl (rd_sub64n rfl rfl rfl ?_) ?_; (focus (omega)))
          refine WL.r rfl rfl rfl (rd_assign rfl rfl) ?_
          refine WL.nt ?_
          refine WC.block ?_
          refine WC.loopO (σ := Nat × (List Nat) × Nat × Int) [(10, _), (11, _), (12, _), (14, _), (16, _)] (fun g => [(17, .int .i64 g.2.2.2)]) (fun g => g.1 ≤ a.length - b.length + 1 ∧ DivInv (a.length + 1) X D b.length g.1 g.2.1 g.2.2.1 ∧ g.2.2.1 < 256 ^ (a.length - b.length + 1) ∧ g.2.2.2 = (g.1 : Int) - 1 ∧ (g.1 < a.length - b.length + 1 → g.2.1.getD (g.1 + b.length) 0 = 0)) (fun g => g.1) (fun g => [⟨some b130, (be (a.length - b.length + 1) g.2.2.1).map B, 5⟩, ⟨some b94, cols g.2.1, 3⟩, ⟨some b61, cols (digs D b.length), 3⟩]) (fun g => []) (a.length - b.length + 1, digs X (a.length + 1), 0, ((a.length - b.length : Nat) : Int)) (sub_cons rfl (sub_cons rfl (sub_cons rfl (sub_cons rfl (sub_cons rfl (sub_nil _)))))) (sub_cons rfl (sub_nil _)) (by (try dsimp only); exact ⟨by omega, hdi0, Nat.pow_pos (by decide), by omega, fun h => absurd h (by omega)⟩) (by exact fun w h => by rw [show (be (a.length - b.length + 1) 0).map B = List.replicate (a.length - b.length + 1) (.int .u8 0) from be_zero _]; exact h) ?_
          rintro ⟨t, r, Q, j⟩ hinv3; (try dsimp only at hinv3 ⊢)
          obtain ⟨ht, hdi, hQ, hj, hz⟩ := hinv3
          refine WC.seq ?_
          refine WC.sr ?_
          refine WL.r rfl rfl rfl (rd_move rfl rfl) ?_
          refine WL.r rfl rfl rfl (rd_geq rfl rfl rfl) ?_
          refine WL.nt ?_
          refine WC.cond rfl (fun hc136 => ?_) (fun hc136 => ?_)
          · (try simp only [sB] at hc136)
            obtain ⟨m, rfl⟩ : ∃ m, t = m + 1 := ⟨t - 1, by omega⟩
            refine WC.set 17 rfl (v' := .int .i64 ((m : Nat) : Int)) (by rw [hj]; congr 1; omega) ?_
            have hrl := hdi.len
            have hr1 := getD_lt 256 (by decide) _ hdi.dig (m + b.length)
            have hr0 := getD_lt 256 (by decide) _ hdi.dig (m + b.length - 1)
            obtain ⟨gu, hg⟩ : ∃ g, g = min ((r.getD (m + b.length) 0 * 2 ^ 8 + r.getD (m + b.length - 1) 0) / (digs D b.length).getD (b.length - 1) 0) 255 := ⟨_, rfl⟩
            have hgl : gu < 256 := by omega
            have hgg := guess_ge (β := 256) (j := m) (n := b.length) (q := ev 256 (r.take (m + 1 + b.length)) / (256 ^ m * D)) (d := digs D b.length) (by decide) hbp (digs_len D _) (by omega) hdi.dig (show ev 256 (r.take (m + 1 + b.length)) = _ by rw [show m + 1 + b.length = m + b.length + 1 by omega]) hDev.symm hDt (Nat.div_mul_le_self _ _) hdi.lt
            obtain ⟨qq, hqq⟩ : ∃ qq, qq = ev 256 (r.take (m + 1 + b.length)) / (256 ^ m * D) := ⟨_, rfl⟩
            rw [← hqq] at hgg
            have hgq : qq ≤ gu := by rw [hg]; exact Nat.le_min.2 ⟨hgg.1, Nat.le_of_lt_succ hgg.2⟩
            have hVp : 0 < 256 ^ m * D := Nat.mul_pos (Nat.pow_pos (by decide)) hDp
            refine WC.skip ?_
            refine WX.then_normal ?_
            refine WC.seq ?_
            refine WC.block ?_
            refine WC.seq ?_
            refine WC.free0 [0, 1, 2, 3, 4, 5, 6, 7, 8, 9, 10, 11, 12, 13, 14, 15, 16, 17, 18, 19, 20, 21, 22] [] [0, 0, 0, 0, 0, 0, 0, 0, 0, 0, 0, 0, 0, 0, 0, 0, 0, 0, 0, 0, 0, 0, 0] (by kernel_rfl) (by kernel_rfl) rfl ?_
            refine WJ.r rfl rfl rfl rfl rfl (rd_move rfl rfl) ?_
            refine WJ.r rfl rfl rfl rfl rfl (rd_move rfl rfl) ?_
            refine WJ.r rfl rfl rfl rfl rfl (rd_move rfl rfl) ?_
            (refine WJ.r rfl rfl rfl rfl rfl (rd_add64n rfl rfl rfl ?_) ?_; (focus (omega)))
            (refine WJ.r rfl rfl rfl rfl rfl (rd_ia rfl rfl rfl Tryz.underlying107 (by kernel_rfl : _ = some 1) ?_ (by (try simp only [sN, Int.reduceToNat, Nat.reduceAdd, Nat.reduceMul, Nat.reduceSub]); rfl)) ?_; (focus (omega)))
            refine WJ.r rfl rfl rfl rfl rfl (ld rfl rfl .tc Tryz.underlying3 rfl (cols_get r _ (by omega))) ?_
            (refine WJ.r rfl rfl rfl rfl rfl (rd_shlW (c := 8) rfl rfl rfl ?_ ?_) ?_; (focus (decide)); (focus (omega)))
            refine WJ.r rfl rfl rfl rfl rfl (rd_move rfl rfl) ?_
            refine WJ.r rfl rfl rfl rfl rfl (rd_move rfl rfl) ?_
            refine WJ.r rfl rfl rfl rfl rfl (rd_move rfl rfl) ?_
            (refine WJ.r rfl rfl rfl rfl rfl (rd_add64n rfl rfl rfl ?_) ?_; (focus (omega)))
            (refine WJ.r rfl rfl rfl rfl rfl (rd_sub64nl rfl rfl rfl ?_) ?_; (focus (omega)))
            (refine WJ.r rfl rfl rfl rfl rfl (rd_ia rfl rfl rfl Tryz.underlying107 (by kernel_rfl : _ = some 1) ?_ (by (try simp only [sN, Int.reduceToNat, Nat.reduceAdd, Nat.reduceMul, Nat.reduceSub]); rfl)) ?_; (focus (omega)))
            refine WJ.r rfl rfl rfl rfl rfl (ld rfl rfl .tc Tryz.underlying3 rfl (cols_get r _ (by omega))) ?_
            refine WJ.r rfl rfl rfl rfl rfl (rd_orW 8 rfl rfl rfl ?_) ?_
            · omega
            refine WJ.r rfl rfl rfl rfl rfl (rd_move rfl rfl) ?_
            refine WJ.r rfl rfl rfl rfl rfl (rd_move rfl rfl) ?_
            (refine WJ.r rfl rfl rfl rfl rfl (rd_sub64nl rfl rfl rfl ?_) ?_; (focus (omega)))
            (refine WJ.r rfl rfl rfl rfl rfl (rd_ia rfl rfl rfl Tryz.underlying107 (by kernel_rfl : _ = some 1) ?_ (by (try simp only [sN, Int.reduceToNat, Nat.reduceAdd, Nat.reduceMul, Nat.reduceSub]); rfl)) ?_; (focus (omega)))
            refine WJ.r rfl rfl rfl rfl rfl (ld rfl rfl .tc Tryz.underlying3 rfl (cols_get (digs D b.length) _ (by rw [digs_len]; omega))) ?_
            (refine WJ.r rfl rfl rfl rfl rfl (rd_quo64n rfl rfl rfl ?_) ?_; (focus (omega)))
            refine WJ.r rfl rfl rfl rfl rfl (rd_min2 rfl rfl rfl) ?_
            refine WJ.set 160 rfl (v' := .int .i64 ((gu : Nat) : Int)) (congrArg (Value.int .i64) (by rw [hg]; omega)) ?_
            refine WJ.r rfl rfl rfl rfl rfl (rd_assign rfl rfl) ?_
            refine WJ.nil ?_
            refine WL.nt ?_
            refine WC.sr ?_
            refine WL.r rfl rfl rfl (rd_assign rfl rfl) ?_
            refine WL.r rfl rfl rfl (rd_assign rfl rfl) ?_
            refine WL.nt ?_
            refine WC.seq ?_
            refine WC.sr ?_
            refine WL.r rfl rfl rfl (rd_move rfl rfl) ?_
            refine WL.r rfl rfl rfl (rd_move rfl rfl) ?_
            refine WL.nt ?_
            refine WC.block ?_
            refine WC.loopO (σ := Nat × (List Nat) × Nat × Nat) [(10, _), (11, _), (12, _), (14, _), (16, _), (17, _), (18, _), (161, _)] (fun g => [(19, .int .i64 (g.2.2.1 : Int)), (20, .int .i64 (g.2.2.2 : Int)), (162, .int .i64 (g.1 : Int))]) (fun g => g.1 ≤ b.length ∧ SubInv 256 m gu r (digs D b.length) g.1 g.2.1 g.2.2.1 g.2.2.2) (fun g => b.length - g.1) (fun g => [⟨some b130, (be (a.length - b.length + 1) Q).map B, 5⟩, ⟨some b94, cols g.2.1, 3⟩, ⟨some b61, cols (digs D b.length), 3⟩]) (fun g => []) (0, r, 0, 0) (sub_cons rfl (sub_cons rfl (sub_cons rfl (sub_cons rfl (sub_cons rfl (sub_cons rfl (sub_cons rfl (sub_cons rfl (sub_nil _))))))))) (sub_cons rfl (sub_cons rfl (sub_cons rfl (sub_nil _)))) (by (try dsimp only); exact ⟨Nat.zero_le _, sub_start (by decide) hdi.dig⟩) (by (exact fun _ h => h)) ?_
            rintro ⟨i, r2, cy, bw⟩ hinv4; (try dsimp only at hinv4 ⊢)
            obtain ⟨hi, hsi⟩ := hinv4
            refine WC.sr ?_
            refine WL.r rfl rfl rfl (rd_lss rfl rfl rfl) ?_
            refine WL.nt ?_
            refine WC.seq ?_
            refine WC.cond rfl (fun hc163 => ?_) (fun hc163 => ?_)
            · (try simp only [sB] at hc163)
              have hr2l := hsi.len
              have hcyl := hsi.cyl; have hbwl := hsi.bwl
              have hdil := getD_lt 256 (by decide) _ (digs_lt D b.length) i
              have hr2d := getD_lt 256 (by decide) _ hsi.dig (m + i)
              have hgd : gu * (digs D b.length).getD i 0 ≤ 65025 := Nat.mul_le_mul (by omega : gu ≤ 255) (by omega : (digs D b.length).getD i 0 ≤ 255)
              rw [Nat.add_comm m i] at hr2d
              refine WC.skip ?_
              refine WX.then_normal ?_
              refine WC.seq ?_
              refine WC.block ?_
              refine WC.sr ?_
              refine WL.r rfl rfl rfl (rd_move rfl rfl) ?_
              refine WL.r rfl rfl rfl (rd_assign rfl rfl) ?_
              refine WL.nt ?_
              refine WC.sr ?_
              refine WL.r rfl rfl rfl (rd_move rfl rfl) ?_
              refine WL.r rfl rfl rfl (rd_move rfl rfl) ?_
              refine WL.r rfl rfl rfl (rd_move rfl rfl) ?_
              refine WL.r rfl rfl rfl (rd_move rfl rfl) ?_
              (refine WL.r rfl rfl rfl (rd_ia rfl rfl rfl Tryz.underlying107 (by kernel_rfl : _ = some 1) ?_ (by (try simp only [sN, Int.reduceToNat, Nat.reduceAdd, Nat.reduceMul, Nat.reduceSub]); rfl)) ?_; (focus (omega)))
              refine WL.r rfl rfl rfl (ld rfl rfl .tc Tryz.underlying3 rfl (cols_get (digs D b.length) _ (by rw [digs_len]; omega))) ?_
              (refine WL.r rfl rfl rfl (rd_mul64n rfl rfl rfl ?_) ?_; (focus (omega)))
              (refine WL.r rfl rfl rfl (rd_add64n rfl rfl rfl ?_) ?_; (focus (omega)))
              refine WL.r rfl rfl rfl (rd_assign rfl rfl) ?_
              refine WL.nt ?_
              refine WC.sr ?_
              refine WL.r rfl rfl rfl (rd_move rfl rfl) ?_
              refine WL.r rfl rfl rfl (rd_move rfl rfl) ?_
              refine WL.r rfl rfl rfl (rd_move rfl rfl) ?_
              (refine WL.r rfl rfl rfl (rd_add64n rfl rfl rfl ?_) ?_; (focus (omega)))
              (refine WL.r rfl rfl rfl (rd_ia rfl rfl rfl Tryz.underlying107 (by kernel_rfl : _ = some 1) ?_ (by (try simp only [sN, Int.reduceToNat, Nat.reduceAdd, Nat.reduceMul, Nat.reduceSub]); rfl)) ?_; (focus (omega)))
              refine WL.r rfl rfl rfl (ld rfl rfl .tc Tryz.underlying3 rfl (cols_get r2 _ (by omega))) ?_
              refine WL.r rfl rfl rfl (rd_move rfl rfl) ?_
              refine WL.r rfl rfl rfl (rd_andW 8 rfl rfl rfl (by decide) ?_) ?_
              · omega
              (refine WL.r rfl rfl rfl (rd_sub64 rfl rfl rfl ?_) ?_; (focus (omega)))
              refine WL.r rfl rfl rfl (rd_move rfl rfl) ?_
              (refine WL.r rfl rfl rfl (rd_sub64 rfl rfl rfl ?_) ?_; (focus (omega)))
              refine WL.r rfl rfl rfl (rd_assign rfl rfl) ?_
              refine WL.nt ?_
              refine WC.sr ?_
              refine WL.r rfl rfl rfl (rd_move rfl rfl) ?_
              (refine WL.r rfl rfl rfl (rd_shrW (c := 8) rfl rfl rfl ?_) ?_; (focus (decide)))
              refine WL.r rfl rfl rfl (rd_assign rfl rfl) ?_
              refine WL.nt ?_
              refine WC.sr ?_
              refine WL.r rfl rfl rfl (rd_assign rfl rfl) ?_
              refine WL.nt ?_
              refine WC.joinP (σ := Nat × Nat) [(10, _), (11, _), (12, _), (14, _), (16, _), (17, _), (18, _), (19, _), (21, _), (161, _), (162, _)] (fun g => [(22, .int .i64 (g.1 : Int)), (20, .int .i64 (g.2 : Int)), (19, .int .i64 ((cy + gu * (digs D b.length).getD i 0) / 256 : Nat))]) (fun g => g.1 + (cy + gu * (digs D b.length).getD i 0) % 256 + bw = r2.getD (i + m) 0 + 256 * g.2 ∧ g.1 < 256 ∧ g.2 ≤ 1) (sub_cons rfl (sub_cons rfl (sub_cons rfl (sub_cons rfl (sub_cons rfl (sub_cons rfl (sub_cons rfl (sub_cons rfl (sub_cons rfl (sub_cons rfl (sub_cons rfl (sub_nil _)))))))))))) ?_ ?_
              · skip
                refine WC.sr ?_
                refine WL.r rfl rfl rfl (rd_move rfl rfl) ?_
                refine WL.r rfl rfl rfl (rd_lss rfl rfl rfl) ?_
                refine WL.nt ?_
                refine WC.cond rfl (fun hc187 => ?_) (fun hc187 => ?_)
                · (try simp only [sB] at hc187)
                  refine WC.sr ?_
                  refine WL.r rfl rfl rfl (rd_move rfl rfl) ?_
                  (refine WL.r rfl rfl rfl (rd_add64 rfl rfl rfl ?_) ?_; (focus (omega)))
                  refine WL.r rfl rfl rfl (rd_assign rfl rfl) ?_
                  refine WL.nt ?_
                  refine WC.region ?_
                  refine WL.r rfl rfl rfl (rd_assign rfl rfl) ?_
                  refine WL.nil ?_
                  refine WX.joinP (((((r2.getD (i + m) 0 : Nat) : Int) - ((cy + gu * (digs D b.length).getD i 0) % 256 : Nat) - bw + 256).toNat, 1)) (sub_cons rfl (sub_cons rfl (sub_cons rfl (sub_cons rfl (sub_cons rfl (sub_cons rfl (sub_cons rfl (sub_cons rfl (sub_cons rfl (sub_cons rfl (sub_cons rfl (sub_nil _)))))))))))) (by refine (sub_cons ?_ (sub_cons ?_ (sub_cons ?_ (sub_nil _)))) <;> (first | rfl | (refine slot_i rfl ?_; (try dsimp only); omega))) ?_ (by (exact fun _ h => h))
                  (try dsimp only)
                  omega
                · (try simp only [sB] at hc187)
                  refine WC.skip ?_
                  refine WX.joinP (((((r2.getD (i + m) 0 : Nat) : Int) - ((cy + gu * (digs D b.length).getD i 0) % 256 : Nat) - bw).toNat, 0)) (sub_cons rfl (sub_cons rfl (sub_cons rfl (sub_cons rfl (sub_cons rfl (sub_cons rfl (sub_cons rfl (sub_cons rfl (sub_cons rfl (sub_cons rfl (sub_cons rfl (sub_nil _)))))))))))) (by refine (sub_cons ?_ (sub_cons ?_ (sub_cons ?_ (sub_nil _)))) <;> (first | rfl | (refine slot_i rfl ?_; (try dsimp only); omega))) ?_ (by (exact fun _ h => h))
                  (try dsimp only)
                  omega
              · rintro ⟨y, bw'⟩ hmeet; (try dsimp only at hmeet ⊢)
                obtain ⟨hy1, hy2, hy3⟩ := hmeet
                refine WC.region ?_
                refine WL.r rfl rfl rfl (rd_move rfl rfl) ?_
                refine WL.r rfl rfl rfl (rd_move rfl rfl) ?_
                refine WL.r rfl rfl rfl (rd_move rfl rfl) ?_
                (refine WL.r rfl rfl rfl (rd_add64n rfl rfl rfl ?_) ?_; (focus (omega)))
                refine WL.r rfl rfl rfl (rd_move rfl rfl) ?_
                (refine WL.r rfl rfl rfl (rd_ia rfl rfl rfl Tryz.underlying107 (by kernel_rfl : _ = some 1) ?_ (by (try simp only [sN, Int.reduceToNat, Nat.reduceAdd, Nat.reduceMul, Nat.reduceSub]); rfl)) ?_; (focus (omega)))
                refine WL.g0 rfl rfl (st rfl rfl rfl .tc (by kernel_rfl) rfl ?_ (by rfl)) ?_
                · rw [cols_len]; omega
                intro _
                rw [cols_set]
                refine WL.nil ?_
                refine WX.block_normal ?_
                refine WX.then_normal ?_
                refine WC.region ?_
                (refine WL.r rfl rfl rfl (rd_add64nl rfl rfl rfl ?_) ?_; (focus (omega)))
                refine WL.r rfl rfl rfl (rd_move rfl rfl) ?_
                refine WL.nil ?_
                refine WX.loopO ((i + 1, r2.set (i + m) y, (cy + gu * (digs D b.length).getD i 0) / 256, bw')) (by (try dsimp only); omega) (sub_cons rfl (sub_cons rfl (sub_cons rfl (sub_cons rfl (sub_cons rfl (sub_cons rfl (sub_cons rfl (sub_cons rfl (sub_nil _))))))))) (by refine (sub_cons ?_ (sub_cons ?_ (sub_cons ?_ (sub_nil _)))) <;> (rfl)) ?_ (by (exact fun _ h => h))
                (try dsimp only)
                exact ⟨by omega, by rw [Nat.add_comm i m]; exact sub_step hsi (by decide) hgl (by rw [digs_len]; omega) (digs_lt D b.length) (by omega) (by rw [Nat.add_comm m i]; exact hy1) hy2 hy3⟩
            · (try simp only [sB] at hc163)
              refine WC.exit ?_
              refine WX.then_exit ?_
              refine WX.then_exit ?_
              refine WX.block_exit ?_
              obtain rfl : i = b.length := by omega
              have hr2l := hsi.len
              have hcyl := hsi.cyl; have hbwl := hsi.bwl
              have hr2d := getD_lt 256 (by decide) _ hsi.dig (m + b.length)
              have hs0 := div_sub (D := D) hsi (by rw [List.take_of_length_le (by rw [digs_len]; exact Nat.le_refl _)]; exact hDev) (by omega)
              refine WX.then_normal ?_
              refine WC.sr ?_
              refine WL.r rfl rfl rfl (rd_move rfl rfl) ?_
              refine WL.r rfl rfl rfl (rd_move rfl rfl) ?_
              refine WL.r rfl rfl rfl (rd_move rfl rfl) ?_
              (refine WL.r rfl rfl rfl (rd_add64n rfl rfl rfl ?_) ?_; (focus (omega)))
              (refine WL.r rfl rfl rfl (rd_ia rfl rfl rfl Tryz.underlying107 (by kernel_rfl : _ = some 1) ?_ (by (try simp only [sN, Int.reduceToNat, Nat.reduceAdd, Nat.reduceMul, Nat.reduceSub]); rfl)) ?_; (focus (omega)))
              refine WL.r rfl rfl rfl (ld rfl rfl .tc Tryz.underlying3 rfl (cols_get r2 _ (by omega))) ?_
              refine WL.r rfl rfl rfl (rd_move rfl rfl) ?_
              (refine WL.r rfl rfl rfl (rd_sub64 rfl rfl rfl ?_) ?_; (focus (omega)))
              refine WL.r rfl rfl rfl (rd_move rfl rfl) ?_
              (refine WL.r rfl rfl rfl (rd_sub64 rfl rfl rfl ?_) ?_; (focus (omega)))
              refine WL.r rfl rfl rfl (rd_assign rfl rfl) ?_
              refine WL.nt ?_
              refine WC.seq ?_
              refine WC.block ?_
              refine WC.loopO (σ := Nat × (List Nat) × Int) [(10, _), (11, _), (12, _), (14, _), (16, _), (17, _)] (fun g => [(18, .int .i64 (g.1 : Int)), (23, .int .i64 g.2.2)]) (fun g => g.2.1.length = a.length + 1 ∧ (∀ x ∈ g.2.1, x < 256) ∧ ((ev 256 (g.2.1.take (m + b.length)) : Nat) : Int) + ((256 ^ (m + b.length) : Nat) : Int) * g.2.2 + ((256 ^ m * g.1 * D : Nat) : Int) = (ev 256 (r.take (m + 1 + b.length)) : Nat) ∧ qq ≤ g.1 ∧ g.1 ≤ 255 ∧ -256 ≤ g.2.2 ∧ g.2.2 ≤ 255) (fun g => g.1) (fun g => [⟨some b130, (be (a.length - b.length + 1) Q).map B, 5⟩, ⟨some b94, cols g.2.1, 3⟩, ⟨some b61, cols (digs D b.length), 3⟩]) (fun g => []) (gu, r2, ((r2.getD (m + b.length) 0 : Nat) : Int) - cy - bw) (sub_cons rfl (sub_cons rfl (sub_cons rfl (sub_cons rfl (sub_cons rfl (sub_cons rfl (sub_nil _))))))) (sub_cons rfl (sub_cons rfl (sub_nil _))) (by (try dsimp only); exact ⟨by omega, hsi.dig, hs0, hgq, by omega, by omega, by omega⟩) (by (exact fun _ h => h)) ?_
              rintro ⟨g, r3, top⟩ hinv5; (try dsimp only at hinv5 ⊢)
              obtain ⟨hl3, hd3, hs3, hq3, hg3, ht1, ht2⟩ := hinv5
              refine WC.seq ?_
              refine WC.sr ?_
              refine WL.r rfl rfl rfl (rd_move rfl rfl) ?_
              refine WL.r rfl rfl rfl (rd_lss rfl rfl rfl) ?_
              refine WL.nt ?_
              refine WC.cond rfl (fun hc208 => ?_) (fun hc208 => ?_)
              · (try simp only [sB] at hc208)
                have hWl := div_less hs3 (ev_take_lt 256 r3 _ (by omega) hd3) (by omega)
                have hg1 : qq < g := by rw [hqq]; exact (Nat.div_lt_iff_lt_mul hVp).2 hWl
                refine WC.skip ?_
                refine WX.then_normal ?_
                refine WC.block ?_
                refine WC.sr ?_
                refine WL.r rfl rfl rfl (rd_move rfl rfl) ?_
                (refine WL.r rfl rfl rfl (rd_sub64nl rfl rfl rfl ?_) ?_; (focus (omega)))
                refine WL.set 210 rfl (v' := .int .i64 ((g - 1 : Nat) : Int)) (congrArg (Value.int .i64) (by omega)) ?_
                refine WL.r rfl rfl rfl (rd_assign rfl rfl) ?_
                refine WL.nt ?_
                refine WC.sr ?_
                refine WL.r rfl rfl rfl (rd_assign rfl rfl) ?_
                refine WL.nt ?_
                refine WC.seq ?_
                refine WC.sr ?_
                refine WL.r rfl rfl rfl (rd_move rfl rfl) ?_
                refine WL.r rfl rfl rfl (rd_move rfl rfl) ?_
                refine WL.nt ?_
                refine WC.block ?_
                refine WC.loopO (σ := Nat × (List Nat) × Nat) [(10, _), (11, _), (12, _), (14, _), (16, _), (17, _), (18, _), (23, _), (211, _)] (fun g => [(24, .int .i64 (g.2.2 : Int)), (212, .int .i64 (g.1 : Int))]) (fun g => g.1 ≤ b.length ∧ AddInv 256 m r3 (digs D b.length) g.1 g.2.1 g.2.2) (fun g => b.length - g.1) (fun g => [⟨some b130, (be (a.length - b.length + 1) Q).map B, 5⟩, ⟨some b94, cols g.2.1, 3⟩, ⟨some b61, cols (digs D b.length), 3⟩]) (fun g => []) (0, r3, 0) (sub_cons rfl (sub_cons rfl (sub_cons rfl (sub_cons rfl (sub_cons rfl (sub_cons rfl (sub_cons rfl (sub_cons rfl (sub_cons rfl (sub_nil _)))))))))) (sub_cons rfl (sub_cons rfl (sub_nil _))) (by (try dsimp only); exact ⟨Nat.zero_le _, add_start hd3⟩) (by (exact fun _ h => h)) ?_
                rintro ⟨k, r4, c⟩ hinv6; (try dsimp only at hinv6 ⊢)
                obtain ⟨hk, hai⟩ := hinv6
                refine WC.sr ?_
                refine WL.r rfl rfl rfl (rd_lss rfl rfl rfl) ?_
                refine WL.nt ?_
                refine WC.seq ?_
                refine WC.cond rfl (fun hc213 => ?_) (fun hc213 => ?_)
                · (try simp only [sB] at hc213)
                  have hr4l := hai.len; have hcl := hai.cl
                  have hdk := getD_lt 256 (by decide) _ (digs_lt D b.length) k
                  have hrk := getD_lt 256 (by decide) _ hai.dig (m + k)
                  rw [Nat.add_comm m k] at hrk
                  refine WC.skip ?_
                  refine WX.then_normal ?_
                  refine WC.seq ?_
                  refine WC.block ?_
                  refine WC.sr ?_
                  refine WL.r rfl rfl rfl (rd_move rfl rfl) ?_
                  refine WL.r rfl rfl rfl (rd_assign rfl rfl) ?_
                  refine WL.nt ?_
                  refine WC.seq ?_
                  refine WC.free0 [0, 1, 2, 3, 4, 5, 6, 7, 8, 9, 10, 11, 12, 13] [] [0, 0, 0, 0, 0, 0, 0, 0, 0, 0, 0, 0, 0, 0] (by kernel_rfl) (by kernel_rfl) rfl ?_
                  refine WJ.r rfl rfl rfl rfl rfl (rd_move rfl rfl) ?_
                  refine WJ.r rfl rfl rfl rfl rfl (rd_move rfl rfl) ?_
                  refine WJ.r rfl rfl rfl rfl rfl (rd_move rfl rfl) ?_
                  refine WJ.r rfl rfl rfl rfl rfl (rd_move rfl rfl) ?_
                  (refine WJ.r rfl rfl rfl rfl rfl (rd_add64n rfl rfl rfl ?_) ?_; (focus (omega)))
                  (refine WJ.r rfl rfl rfl rfl rfl (rd_ia rfl rfl rfl Tryz.underlying107 (by kernel_rfl : _ = some 1) ?_ (by (try simp only [sN, Int.reduceToNat, Nat.reduceAdd, Nat.reduceMul, Nat.reduceSub]); rfl)) ?_; (focus (omega)))
                  refine WJ.r rfl rfl rfl rfl rfl (ld rfl rfl .tc Tryz.underlying3 rfl (cols_get r4 _ (by omega))) ?_
                  refine WJ.r rfl rfl rfl rfl rfl (rd_move rfl rfl) ?_
                  refine WJ.r rfl rfl rfl rfl rfl (rd_move rfl rfl) ?_
                  (refine WJ.r rfl rfl rfl rfl rfl (rd_ia rfl rfl rfl Tryz.underlying107 (by kernel_rfl : _ = some 1) ?_ (by (try simp only [sN, Int.reduceToNat, Nat.reduceAdd, Nat.reduceMul, Nat.reduceSub]); rfl)) ?_; (focus (omega)))
                  refine WJ.r rfl rfl rfl rfl rfl (ld rfl rfl .tc Tryz.underlying3 rfl (cols_get (digs D b.length) _ (by rw [digs_len]; omega))) ?_
                  (refine WJ.r rfl rfl rfl rfl rfl (rd_add64n rfl rfl rfl ?_) ?_; (focus (omega)))
                  (refine WJ.r rfl rfl rfl rfl rfl (rd_add64n rfl rfl rfl ?_) ?_; (focus (omega)))
                  refine WJ.r rfl rfl rfl rfl rfl (rd_assign rfl rfl) ?_
                  refine WJ.nil ?_
                  refine WL.nt ?_
                  refine WC.sr ?_
                  refine WL.r rfl rfl rfl (rd_move rfl rfl) ?_
                  refine WL.r rfl rfl rfl (rd_move rfl rfl) ?_
                  refine WL.r rfl rfl rfl (rd_move rfl rfl) ?_
                  (refine WL.r rfl rfl rfl (rd_add64n rfl rfl rfl ?_) ?_; (focus (omega)))
                  refine WL.r rfl rfl rfl (rd_move rfl rfl) ?_
                  refine WL.r rfl rfl rfl (rd_andW 8 rfl rfl rfl (by decide) ?_) ?_
                  · omega
                  (refine WL.r rfl rfl rfl (rd_ia rfl rfl rfl Tryz.underlying107 (by kernel_rfl : _ = some 1) ?_ (by (try simp only [sN, Int.reduceToNat, Nat.reduceAdd, Nat.reduceMul, Nat.reduceSub]); rfl)) ?_; (focus (omega)))
                  refine WL.g0 rfl rfl (st rfl rfl rfl .tc (by kernel_rfl) rfl ?_ (by rfl)) ?_
                  · rw [cols_len]; omega
                  intro _
                  rw [cols_set]
                  refine WL.nt ?_
                  refine WC.region ?_
                  refine WL.r rfl rfl rfl (rd_move rfl rfl) ?_
                  (refine WL.r rfl rfl rfl (rd_shrW (c := 8) rfl rfl rfl ?_) ?_; (focus (decide)))
                  refine WL.r rfl rfl rfl (rd_assign rfl rfl) ?_
                  refine WL.nil ?_
                  refine WX.block_normal ?_
                  refine WX.then_normal ?_
                  refine WC.region ?_
                  (refine WL.r rfl rfl rfl (rd_add64nl rfl rfl rfl ?_) ?_; (focus (omega)))
                  refine WL.r rfl rfl rfl (rd_move rfl rfl) ?_
                  refine WL.nil ?_
                  refine WX.loopO ((k + 1, r4.set (k + m) ((c + (r4.getD (k + m) 0 + (digs D b.length).getD k 0)) % 256), (c + (r4.getD (k + m) 0 + (digs D b.length).getD k 0)) / 256)) (by (try dsimp only); omega) (sub_cons rfl (sub_cons rfl (sub_cons rfl (sub_cons rfl (sub_cons rfl (sub_cons rfl (sub_cons rfl (sub_cons rfl (sub_cons rfl (sub_nil _)))))))))) (by refine (sub_cons ?_ (sub_cons ?_ (sub_nil _))) <;> (rfl)) ?_ (by (exact fun _ h => h))
                  (try dsimp only)
                  exact ⟨by omega, by rw [← Nat.add_assoc, Nat.add_comm k m]; exact add_step hai (by decide) (by rw [digs_len]; omega) (digs_lt D b.length) (by omega)⟩
                · (try simp only [sB] at hc213)
                  refine WC.exit ?_
                  refine WX.then_exit ?_
                  refine WX.then_exit ?_
                  refine WX.block_exit ?_
                  obtain rfl : k = b.length := by omega
                  have hcl := hai.cl
                  have hr4l := hai.len
                  have hb4 := div_back (D := D) hai (by rw [List.take_of_length_le (by rw [digs_len]; exact Nat.le_refl _)]; exact hDev) (by omega) hs3
                  refine WX.then_normal ?_
                  refine WC.region ?_
                  refine WL.r rfl rfl rfl (rd_move rfl rfl) ?_
                  refine WL.r rfl rfl rfl (rd_move rfl rfl) ?_
                  (refine WL.r rfl rfl rfl (rd_add64 rfl rfl rfl ?_) ?_; (focus (omega)))
                  refine WL.r rfl rfl rfl (rd_assign rfl rfl) ?_
                  refine WL.nil ?_
                  refine WX.block_normal ?_
                  refine WX.loopO ((g - 1, r4, top + c)) (by (try dsimp only); omega) (sub_cons rfl (sub_cons rfl (sub_cons rfl (sub_cons rfl (sub_cons rfl (sub_cons rfl (sub_nil _))))))) (by refine (sub_cons ?_ (sub_cons ?_ (sub_nil _))) <;> (rfl)) ?_ (by (exact fun _ h => h))
                  (try dsimp only)
                  exact ⟨by omega, hai.dig, hb4, by omega, by omega, by omega, by omega⟩
              · (try simp only [sB] at hc208)
                refine WC.exit ?_
                refine WX.then_exit ?_
                refine WX.then_exit ?_
                refine WX.block_exit ?_
                obtain ⟨ht0, hdi2⟩ := div_step hdi hfit (by omega) hl3 hd3 hs3 (by omega) (by rw [← hqq]; exact hq3)
                subst ht0
                have hQ2 : Q + g * 256 ^ m < 256 ^ (a.length - b.length + 1) := by
                  have h1 := hdi2.sum
                  have h2 : (Q + g * 256 ^ m) * D < 256 ^ (a.length - b.length + 1) * D := by omega
                  exact Nat.lt_of_mul_lt_mul_right h2
                refine WX.then_normal ?_
                refine WC.sr ?_
                refine WL.r rfl rfl rfl (rd_move rfl rfl) ?_
                refine WL.r rfl rfl rfl (rd_move rfl rfl) ?_
                refine WL.r rfl rfl rfl (rd_move rfl rfl) ?_
                (refine WL.r rfl rfl rfl (rd_add64n rfl rfl rfl ?_) ?_; (focus (omega)))
                refine WL.r rfl rfl rfl (rd_move rfl rfl) ?_
                (refine WL.r rfl rfl rfl (rd_ia rfl rfl rfl Tryz.underlying107 (by kernel_rfl : _ = some 1) ?_ (by (try simp only [sN, Int.reduceToNat, Nat.reduceAdd, Nat.reduceMul, Nat.reduceSub]); rfl)) ?_; (focus (omega)))
                refine WL.g0 rfl rfl (st rfl rfl rfl .tc (by kernel_rfl) rfl ?_ (by rfl)) ?_
                · rw [cols_len]; omega
                intro _
                rw [show (cols r3).set (m + b.length) (.int .i64 0) = cols (r3.set (m + b.length) 0) from cols_set r3 _ 0]
                refine WL.nt ?_
                refine WC.region ?_
                refine WL.r rfl rfl rfl (rd_move rfl rfl) ?_
                refine WL.r rfl rfl rfl (rd_move rfl rfl) ?_
                refine WL.r rfl rfl rfl (rd_len rfl rfl Tryz.underlying79) ?_
                (refine WL.r rfl rfl rfl (rd_sub64nl rfl rfl rfl ?_) ?_; (focus (omega)))
                refine WL.r rfl rfl rfl (rd_move rfl rfl) ?_
                (refine WL.r rfl rfl rfl (rd_sub64n rfl rfl rfl ?_) ?_; (focus (omega)))
                refine WL.r rfl rfl rfl (rd_move rfl rfl) ?_
                (refine WL.r rfl rfl rfl (rd_convB rfl rfl Tryz.underlying3 Tryz.underlying5) ?_)
                (refine WL.r rfl rfl rfl (rd_ia rfl rfl rfl Tryz.underlying79 (by kernel_rfl : _ = some 1) ?_ (by (try simp only [sN, Int.reduceToNat, Nat.reduceAdd, Nat.reduceMul, Nat.reduceSub]); rfl)) ?_; (focus (omega)))
                refine WL.g0 rfl rfl (st rfl rfl rfl .tc (by kernel_rfl) rfl ?_ (by rfl)) ?_
                · rw [List.length_map, be_len]; omega
                intro _
                refine WL.nil ?_
                refine WX.block_normal ?_
                refine WX.then_normal ?_
                refine WC.region ?_
                refine WL.r rfl rfl rfl (rd_move rfl rfl) ?_
                (refine WL.r rfl rfl rfl (rd_sub64 rfl rfl rfl ?_) ?_; (focus (omega)))
                refine WL.r rfl rfl rfl (rd_assign rfl rfl) ?_
                refine WL.nil ?_
                refine WX.loopO ((m, r3.set (m + b.length) 0, Q + g * 256 ^ m, (m : Int) - 1)) (by (try dsimp only); omega) (sub_cons rfl (sub_cons rfl (sub_cons rfl (sub_cons rfl (sub_cons rfl (sub_nil _)))))) (by refine (sub_cons ?_ (sub_nil _)) <;> (rfl)) ?_ (by exact fun w h => by rw [← be_set (a.length - b.length + 1) m Q g (by omega) (by omega) hdi.dvd, List.map_set]; exact h)
                (try dsimp only)
                exact ⟨by omega, hdi2, hQ2, rfl, fun _ => getD_set_eq r3 _ 0 (by omega)⟩
          · (try simp only [sB] at hc136)
            refine WC.exit ?_
            refine WX.then_exit ?_
            refine WX.then_exit ?_
            refine WX.block_exit ?_
            obtain rfl : t = 0 := by omega
            obtain ⟨hq1, hq2⟩ := div_end hdi
            have hrl := hdi.len
            obtain ⟨R, hR⟩ : ∃ R, R = val a % val b := ⟨_, rfl⟩
            have hqe : Q = val a / val b := by rw [hq1, hX, hD, Nat.mul_div_mul_right _ _ (Nat.two_pow_pos s)]
            have hre : ev 256 (r.take b.length) = R * 2 ^ s := by rw [hq2, hX, hD, Nat.mul_mod_mul_right, hR]
            have hRl : R < 256 ^ b.length := by rw [hR]; exact Nat.lt_trans (Nat.mod_lt _ hvb) (val_lt b)
            have hdg3 : ∀ i, i ≤ b.length → r.getD i 0 = R * 2 ^ s / 256 ^ i % 256 := fun i hi => by
              rw [← hre]
              rcases Nat.lt_or_ge i b.length with h | h
              · rw [ev_digit 256 (by decide) (r.take b.length) i (by rw [List.length_take]; omega) (fun x hx => hdi.dig x (List.mem_of_mem_take hx)), List.getD_eq_getElem?_getD, List.getD_eq_getElem?_getD, List.getElem?_take, if_pos h]
              · obtain rfl : i = b.length := by omega
                have h1 := hz (by omega)
                rw [Nat.zero_add] at h1
                rw [h1, Nat.div_eq_of_lt (ev_take_lt 256 r _ (by omega) hdi.dig)]
            refine WX.then_normal ?_
            refine WC.sr ?_
            refine WL.r rfl rfl rfl (rd_move rfl rfl) ?_
            refine WL.g rfl rfl rfl (og_mk rfl rfl rfl Tryz.underlying79 (by kernel_rfl : _ = some (some (.int .u8 0), 1, 1)) rfl ?_ (by (try simp only [sN, Int.reduceToNat, Nat.reduceAdd, Nat.reduceMul, Nat.reduceSub]); rfl) (by (try simp only [sN, Int.reduceToNat, Nat.reduceAdd, Nat.reduceMul, Nat.reduceSub]); rfl)) ?_
            · omega
            intro b257
            refine WL.r rfl rfl rfl (rd_assign rfl rfl) ?_
            refine WL.nt ?_
            refine WC.seq ?_
            refine WC.sr ?_
            refine WL.r rfl rfl rfl (rd_move rfl rfl) ?_
            refine WL.r rfl rfl rfl (rd_move rfl rfl) ?_
            refine WL.nt ?_
            refine WC.block ?_
            refine WC.loopO (σ := Nat) [(10, _), (11, _), (14, _), (16, _), (26, _), (258, _)] (fun g => [(259, .int .i64 (g : Int))]) (fun g => g ≤ b.length) (fun g => b.length - g) (fun g => [⟨some b257, lowB b.length g R, 5⟩, ⟨some b130, (be (a.length - b.length + 1) Q).map B, 5⟩, ⟨some b94, cols r, 3⟩]) (fun g => []) (0) (sub_cons rfl (sub_cons rfl (sub_cons rfl (sub_cons rfl (sub_cons rfl (sub_cons rfl (sub_nil _))))))) (sub_cons rfl (sub_nil _)) (by (try dsimp only); omega) (by exact fun w h => by rw [show lowB b.length 0 R = List.replicate b.length (.int .u8 0) from lowB_zero _ _]; exact st_sub _ h) ?_
            rintro k hinv7; (try dsimp only at hinv7 ⊢)
            obtain hk := hinv7
            refine WC.sr ?_
            refine WL.r rfl rfl rfl (rd_lss rfl rfl rfl) ?_
            refine WL.nt ?_
            refine WC.seq ?_
            refine WC.cond rfl (fun hc260 => ?_) (fun hc260 => ?_)
            · (try simp only [sB] at hc260)
              have hrk := getD_lt 256 (by decide) _ hdi.dig k
              have hrk1 := getD_lt 256 (by decide) _ hdi.dig (k + 1)
              have hrd := rest_digit R s k hs8
              rw [← hdg3 k (by omega), ← hdg3 (k + 1) (by omega)] at hrd
              refine WC.skip ?_
              refine WX.then_normal ?_
              refine WC.seq ?_
              refine WC.block ?_
              refine WC.sr ?_
              refine WL.r rfl rfl rfl (rd_move rfl rfl) ?_
              refine WL.r rfl rfl rfl (rd_assign rfl rfl) ?_
              refine WL.nt ?_
              refine WC.sr ?_
              refine WL.r rfl rfl rfl (rd_move rfl rfl) ?_
              refine WL.r rfl rfl rfl (rd_move rfl rfl) ?_
              (refine WL.r rfl rfl rfl (rd_ia rfl rfl rfl Tryz.underlying107 (by kernel_rfl : _ = some 1) ?_ (by (try simp only [sN, Int.reduceToNat, Nat.reduceAdd, Nat.reduceMul, Nat.reduceSub]); rfl)) ?_; (focus (omega)))
              refine WL.r rfl rfl rfl (ld rfl rfl .tc Tryz.underlying3 rfl (cols_get r _ (by omega))) ?_
              refine WL.r rfl rfl rfl (rd_assign rfl rfl) ?_
              refine WL.nt ?_
              refine WC.seq ?_
              refine WC.sr ?_
              refine WL.r rfl rfl rfl (rd_move rfl rfl) ?_
              (refine WL.r rfl rfl rfl (rd_add64nl rfl rfl rfl ?_) ?_; (focus (omega)))
              refine WL.r rfl rfl rfl (rd_move rfl rfl) ?_
              refine WL.r rfl rfl rfl (rd_len rfl rfl Tryz.underlying107) ?_
              refine WL.r rfl rfl rfl (rd_lss rfl rfl rfl) ?_
              refine WL.nt ?_
              refine WC.cond rfl (fun hc270 => ?_) (fun hc270 => by exfalso; (try simp only [sB] at hc270); omega)
              (try simp only [sB] at hc270)
              refine WC.region ?_
              refine WL.r rfl rfl rfl (rd_move rfl rfl) ?_
              refine WL.r rfl rfl rfl (rd_move rfl rfl) ?_
              refine WL.r rfl rfl rfl (rd_move rfl rfl) ?_
              (refine WL.r rfl rfl rfl (rd_add64nl rfl rfl rfl ?_) ?_; (focus (omega)))
              (refine WL.r rfl rfl rfl (rd_ia rfl rfl rfl Tryz.underlying107 (by kernel_rfl : _ = some 1) ?_ (by (try simp only [sN, Int.reduceToNat, Nat.reduceAdd, Nat.reduceMul, Nat.reduceSub]); rfl)) ?_; (focus (omega)))
              refine WL.r rfl rfl rfl (ld rfl rfl .tc Tryz.underlying3 rfl (cols_get r _ (by omega))) ?_
              (refine WL.r rfl rfl rfl (rd_shlW (c := 8) rfl rfl rfl ?_ ?_) ?_; (focus (decide)); (focus (omega)))
              refine WL.r rfl rfl rfl (rd_orV 8 rfl rfl rfl ?_) ?_
              · omega
              refine WL.r rfl rfl rfl (rd_assign rfl rfl) ?_
              refine WL.nt ?_
              refine WC.region ?_
              refine WL.r rfl rfl rfl (rd_move rfl rfl) ?_
              refine WL.r rfl rfl rfl (rd_move rfl rfl) ?_
              (refine WL.r rfl rfl rfl (rd_sub64nl rfl rfl rfl ?_) ?_; (focus (omega)))
              refine WL.r rfl rfl rfl (rd_move rfl rfl) ?_
              (refine WL.r rfl rfl rfl (rd_sub64n rfl rfl rfl ?_) ?_; (focus (omega)))
              refine WL.r rfl rfl rfl (rd_move rfl rfl) ?_
              refine WL.r rfl rfl rfl (rd_move rfl rfl) ?_
              (refine WL.r rfl rfl rfl (rd_shrW rfl rfl rfl ?_) ?_; (focus ((show _ ≤ 64; omega))))
              (refine WL.r rfl rfl rfl (rd_convB rfl rfl Tryz.underlying3 Tryz.underlying5) ?_)
              refine WL.set 287 rfl (v' := B (UInt8.ofNat (R / 256 ^ k))) (by exact congrArg (fun b : UInt8 => B b) (u8_mod hrd.symm)) ?_
              (refine WL.r rfl rfl rfl (rd_ia rfl rfl rfl Tryz.underlying79 (by kernel_rfl : _ = some 1) ?_ (by (try simp only [sN, Int.reduceToNat, Nat.reduceAdd, Nat.reduceMul, Nat.reduceSub]); rfl)) ?_; (focus (omega)))
              refine WL.g0 rfl rfl (st rfl rfl rfl .tc (by kernel_rfl) rfl ?_ (by rfl)) ?_
              · rw [lowB_len _ _ _ (by omega)]; omega
              intro _
              refine WL.nil ?_
              refine WX.block_normal ?_
              refine WX.then_normal ?_
              refine WC.region ?_
              (refine WL.r rfl rfl rfl (rd_add64nl rfl rfl rfl ?_) ?_; (focus (omega)))
              refine WL.r rfl rfl rfl (rd_move rfl rfl) ?_
              refine WL.nil ?_
              refine WX.loopO (k + 1) (by (try dsimp only); omega) (sub_cons rfl (sub_cons rfl (sub_cons rfl (sub_cons rfl (sub_cons rfl (sub_cons rfl (sub_nil _))))))) (by refine (sub_cons ?_ (sub_nil _)) <;> (rfl)) ?_ (by exact fun w h => by rw [← lowB_set b.length k R (by omega)]; exact h)
              (try dsimp only)
              omega
            · (try simp only [sB] at hc260)
              refine WC.exit ?_
              refine WX.then_exit ?_
              refine WX.then_exit ?_
              refine WX.block_exit ?_
              obtain rfl : k = b.length := by omega
              rw [lowB_full]
              have hbl1 := be_len (a.length - b.length + 1) Q
              have hbl2 := be_len b.length R
              refine WX.then_normal ?_
              refine WC.sr ?_
              refine WL.r rfl rfl rfl (rd_move rfl rfl) ?_
              refine WL.g rfl rfl rfl (og_call rfl rfl (by kernel_rfl) (keep_val fun w hS => trimmed_c (b := be (a.length - b.length + 1) Q) (by (exact hS.os)) (by omega) (by omega) (by omega))) ?_
              intro _
              refine WL.r rfl rfl rfl (rd_move rfl rfl) ?_
              refine WL.g rfl rfl rfl (og_call rfl rfl (by kernel_rfl) (keep_val fun w hS => trimmed_c (b := be b.length R) (by (exact hS.os)) (by omega) (by omega) (by omega))) ?_
              intro _
              refine WL.r rfl rfl rfl (rd_assign rfl rfl) ?_
              refine WL.r rfl rfl rfl (rd_assign rfl rfl) ?_
              refine WL.nt ?_
              refine WC.ret ?_
              exact WX.retN rfl (.tmp rfl (.tmp rfl .nil)) fun w' hS => ⟨by rw [val_be, val_be, Nat.mod_eq_of_lt hQ, Nat.mod_eq_of_lt hRl, hqe, hR]; rfl, hS.below⟩
end Go.Proofs.YtbcnnkcddilfjaaGreat
