/-
  The number of binary digits: the reference's, and plain facts.
-/
import Derived.Test.YtbcnnkcddilfjaaGreatNtl2
namespace Go.Proofs.YtbcnnkcddilfjaaGreat
set_option linter.unusedSimpArgs false
set_option linter.unusedVariables false
set_option maxRecDepth 20000
set_option maxHeartbeats 600000
open Go.RowKit

theorem bitLen_eq (f x : Nat) : Lib.bitLenAux (f + 1) x = if x = 0 then 0 else 1 + Lib.bitLenAux f (x / 2) := rfl
theorem bitAux_fuel : ∀ (f g x : Nat), x < 2 ^ f → x < 2 ^ g → Lib.bitLenAux f x = Lib.bitLenAux g x
  | 0, 0, x, _, _ => rfl
  | 0, g + 1, x, h, _ => by have : x = 0 := by simpa using h
                            subst this; rfl
  | f + 1, 0, x, _, h => by have : x = 0 := by simpa using h
                            subst this; rfl
  | f + 1, g + 1, x, h1, h2 => by
    rw [bitLen_eq, bitLen_eq]
    split
    · rfl
    · rw [bitAux_fuel f g (x / 2) (by rw [Nat.pow_succ] at h1; omega) (by rw [Nat.pow_succ] at h2; omega)]
theorem bitLen_step {x : Nat} (h : 0 < x) (hx : x < 2 ^ 63) : Lib.bitLen x = 1 + Lib.bitLen (x / 2) := by
  unfold Lib.bitLen
  rw [bitLen_eq 63 x, if_neg (by omega), bitAux_fuel 63 64 (x / 2) (by omega) (by omega)]
theorem rbits0_c {a : Bs} {w : World} (ha : a.length ≤ 1000000) :
    Calls Tryz.prog 77 #[.string (S a)] w fun e w' => e = .returned (.int .i64 (bitsN a : Int)) ∧ Below w.heap.size w w' := by
  refine enter (S := St (fun _ => True) w [] ([])) (L := [(0, .string (S a))]) Tryz.func77 rfl Tryz.ntmps77 rfl (args_cons rfl (args_nil _)) (St.start (fun _ _ => trivial) facts_nil) ?_
  refine WC.sr ?_
  refine WL.r rfl rfl rfl (rd_assign rfl rfl) ?_
  refine WL.nt ?_
  refine WC.seq ?_
  refine WC.sr ?_
  refine WL.r rfl rfl rfl (rd_move rfl rfl) ?_
  refine WL.r rfl rfl rfl (rd_seq rfl rfl rfl) ?_
  refine WL.nt ?_
  refine WC.cond rfl (fun hc6 => ?_) (fun hc6 => ?_)
  · (try simp only [sB] at hc6)
    have h0 : a = [] := by simpa using hc6
    refine WC.sr ?_
    refine WL.r rfl rfl rfl (rd_assign rfl rfl) ?_
    refine WL.nt ?_
    refine WC.ret ?_
    refine WX.then_ret ?_
    exact WX.retN rfl (.tmp rfl .nil) fun w' hS => ⟨by rw [h0]; rfl, hS.below⟩
  · (try simp only [sB] at hc6)
    have hne : a ≠ [] := by simpa using hc6
    have hl0 : 0 < a.length := List.length_pos_iff.2 hne
    have hc0 := (a.getD 0 default).toNat_lt
    have hbN : bitsN a ≤ 8000064 := by rw [bitsN, if_neg hne]; have := bitLen_le (a.getD 0 default).toNat; omega
    refine WC.skip ?_
    refine WX.then_normal ?_
    refine WC.sr ?_
    refine WL.r rfl rfl rfl (rd_move rfl rfl) ?_
    refine WL.r rfl rfl rfl (rd_slen rfl rfl Tryz.underlying22) ?_
    (refine WL.r rfl rfl rfl (rd_sub64nl rfl rfl rfl ?_) ?_; (focus (omega)))
    (refine WL.r rfl rfl rfl (rd_mul64ln rfl rfl rfl ?_) ?_; (focus (omega)))
    refine WL.r rfl rfl rfl (rd_assign rfl rfl) ?_
    refine WL.nt ?_
    refine WC.seq ?_
    refine WC.sr ?_
    refine WL.r rfl rfl rfl (rd_move rfl rfl) ?_
    refine WL.r rfl rfl rfl (rd_sidxD rfl rfl rfl Tryz.underlying22 ?_) ?_
    · omega
    refine WL.r rfl rfl rfl (rd_convN rfl rfl Tryz.underlying5 Tryz.underlying3 ?_) ?_
    · (exact wrap8_64 _)
    refine WL.r rfl rfl rfl (rd_assign rfl rfl) ?_
    refine WL.nt ?_
    refine WC.block ?_
    refine WC.loopP (σ := Nat × Nat) [] (fun g => [(3, .int .i64 (g.2 : Int)), (4, .int .i64 (g.1 : Int))]) (fun g => g.2 + Lib.bitLen g.1 = bitsN a ∧ g.1 < 256) (fun g => g.1) ((a.getD 0 default).toNat, 8 * (a.length - 1)) (sub_nil _) (sub_cons rfl (sub_cons rfl (sub_nil _))) (by (try dsimp only); exact ⟨by rw [bitsN, if_neg hne], hc0⟩) ?_
    rintro ⟨x, k⟩ hinv1; (try dsimp only at hinv1 ⊢)
    obtain ⟨hb, hx⟩ := hinv1
    refine WC.seq ?_
    refine WC.sr ?_
    refine WL.r rfl rfl rfl (rd_move rfl rfl) ?_
    refine WL.r rfl rfl rfl (rd_gtr rfl rfl rfl) ?_
    refine WL.nt ?_
    refine WC.cond rfl (fun hc15 => ?_) (fun hc15 => ?_)
    · (try simp only [sB] at hc15)
      have hst := bitLen_step (x := x) (by omega) (by omega)
      refine WC.skip ?_
      refine WX.then_normal ?_
      refine WC.seq ?_
      refine WC.block ?_
      refine WC.region ?_
      refine WL.r rfl rfl rfl (rd_move rfl rfl) ?_
      (refine WL.r rfl rfl rfl (rd_add64nl rfl rfl rfl ?_) ?_; (focus (omega)))
      refine WL.r rfl rfl rfl (rd_assign rfl rfl) ?_
      refine WL.nil ?_
      refine WX.block_normal ?_
      refine WX.then_normal ?_
      refine WC.region ?_
      refine WL.r rfl rfl rfl (rd_move rfl rfl) ?_
      (refine WL.r rfl rfl rfl (rd_quo64nl rfl rfl rfl ?_) ?_; (focus (omega)))
      refine WL.r rfl rfl rfl (rd_assign rfl rfl) ?_
      refine WL.nil ?_
      refine WX.loopP ((x / 2, k + 1)) (by (try dsimp only); omega) (sub_nil _) (by refine (sub_cons ?_ (sub_cons ?_ (sub_nil _))) <;> (rfl)) ?_ (by (exact fun _ h => h))
      (try dsimp only)
      exact ⟨by omega, by omega⟩
    · (try simp only [sB] at hc15)
      refine WC.exit ?_
      refine WX.then_exit ?_
      refine WX.then_exit ?_
      refine WX.block_exit ?_
      obtain rfl : x = 0 := by omega
      have hb0 : Lib.bitLen 0 = 0 := rfl
      refine WX.then_normal ?_
      refine WC.sr ?_
      refine WL.r rfl rfl rfl (rd_move rfl rfl) ?_
      refine WL.r rfl rfl rfl (rd_assign rfl rfl) ?_
      refine WL.nt ?_
      refine WC.ret ?_
      exact WX.retN rfl (.tmp rfl .nil) fun w' hS => ⟨by rw [← hb]; rfl, hS.below⟩
theorem rbits_c {a : Bs} {w : World} :
    Calls Tryz.prog 121 #[.string (S a)] w fun e w' => e = .returned (.int .i64 ((if okN a then bitsN a else 0 : Nat) : Int)) ∧ Below w.heap.size w w' := by
  refine enter (S := St (fun _ => True) w [] ([])) (L := [(0, .string (S a))]) Tryz.func121 rfl Tryz.ntmps121 rfl (args_cons rfl (args_nil _)) (St.start (fun _ _ => trivial) facts_nil) ?_
  refine WC.sr ?_
  refine WL.r rfl rfl rfl (rd_assign rfl rfl) ?_
  refine WL.nt ?_
  refine WC.seq ?_
  refine WC.sr ?_
  refine WL.r rfl rfl rfl (rd_move rfl rfl) ?_
  refine WL.g rfl rfl rfl (og_call rfl rfl (by kernel_rfl) (keep_val fun w hS => rvalid_c)) ?_
  intro _
  refine WL.r rfl rfl rfl (rd_not rfl rfl) ?_
  refine WL.nt ?_
  refine WC.cond rfl (fun hc5 => ?_) (fun hc5 => ?_)
  · (try simp only [sB] at hc5)
    refine WC.sr ?_
    refine WL.r rfl rfl rfl (rd_assign rfl rfl) ?_
    refine WL.nt ?_
    refine WC.ret ?_
    refine WX.then_ret ?_
    exact WX.retN rfl (.tmp rfl .nil) fun w' hS => ⟨by rw [if_neg (by simpa using hc5)]; rfl, hS.below⟩
  · (try simp only [sB] at hc5)
    have hok : okN a := by simpa using hc5
    have hal := hok.1
    refine WC.skip ?_
    refine WX.then_normal ?_
    refine WC.sr ?_
    refine WL.r rfl rfl rfl (rd_move rfl rfl) ?_
    refine WL.g rfl rfl rfl (og_call rfl rfl (by kernel_rfl) (keep_val fun w hS => rbits0_c (by omega))) ?_
    intro _
    refine WL.r rfl rfl rfl (rd_assign rfl rfl) ?_
    refine WL.nt ?_
    refine WC.ret ?_
    exact WX.retN rfl (.tmp rfl .nil) fun w' hS => ⟨by rw [if_pos hok]; rfl, hS.below⟩
theorem bitsN_pos {n : Bs} (h : okN n) (h0 : n ≠ []) : 1 ≤ bitsN n := by
  have hc := (can_iff n).1 h.2
  have hl : 0 < n.length := List.length_pos_iff.2 h0
  rw [bitsN, if_neg h0, bitLen_step (by omega) (by have := (n.getD 0 default).toNat_lt; omega)]; omega
theorem bitsN_le {n : Bs} (h : n.length ≤ 128) : bitsN n ≤ 2000 := by
  rw [bitsN]; split
  · omega
  · have := bitLen_le (n.getD 0 default).toNat; omega
theorem bitLen_8 : ∀ x, x < 256 → Lib.bitLen x ≤ 8 := by decide +kernel
theorem bitsN_le8 (a : Bs) : bitsN a ≤ 8 * a.length := by
  rw [bitsN]; split
  · omega
  · rename_i h
    have h1 := bitLen_8 (a.getD 0 default).toNat (a.getD 0 default).toNat_lt
    have h2 := List.length_pos_iff.2 h
    omega
theorem lt_bitLen : ∀ x, x < 256 → x < 2 ^ Lib.bitLen x := by decide +kernel
theorem val_bits (a : Bs) : val a < 2 ^ bitsN a := by
  cases a with
  | nil => decide
  | cons c s =>
    have h1 := lt_bitLen c.toNat c.toNat_lt
    have h2 := val_lt s
    have h3 : val (c :: s) = c.toNat * 256 ^ s.length + val s := rfl
    rw [bitsN, if_neg (by simp), h3]
    show c.toNat * 256 ^ s.length + val s < 2 ^ (8 * s.length + Lib.bitLen c.toNat)
    rw [Nat.pow_add, Nat.pow_mul, show (2 : Nat) ^ 8 = 256 from rfl]
    have h4 : (c.toNat + 1) * 256 ^ s.length ≤ 2 ^ Lib.bitLen c.toNat * 256 ^ s.length := Nat.mul_le_mul_right _ h1
    rw [Nat.add_mul, Nat.one_mul] at h4
    rw [Nat.mul_comm (256 ^ s.length)]; omega
end Go.Proofs.YtbcnnkcddilfjaaGreat
