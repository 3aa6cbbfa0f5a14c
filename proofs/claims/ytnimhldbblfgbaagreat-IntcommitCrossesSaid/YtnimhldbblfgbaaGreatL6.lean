/-
  Parts of the walk: Ntl2 Int1 Zed Keep.
-/
import Derived.Test.YtnimhldbblfgbaaGreatL5
namespace Go.Proofs.YtnimhldbblfgbaaGreat
set_option linter.unusedSimpArgs false
set_option linter.unusedVariables false
set_option maxRecDepth 20000
set_option maxHeartbeats 600000
open Go.RowKit
theorem borrow_le (a b i : Nat) : borrowB a b i ≤ 1 := by unfold borrowB; split <;> omega
theorem borrow_succ (a b i : Nat) : borrowB a b (i + 1) = if a / 256 ^ i % 256 < b / 256 ^ i % 256 + borrowB a b i then 1 else 0 := by
 have e1 : a % 256 ^ (i + 1) = a % 256 ^ i + 256 ^ i * (a / 256 ^ i % 256) := by rw [Nat.pow_succ, Nat.mod_mul]
 have e2 : b % 256 ^ (i + 1) = b % 256 ^ i + 256 ^ i * (b / 256 ^ i % 256) := by rw [Nat.pow_succ, Nat.mod_mul]
 have m1 := Nat.mod_lt a (p256 i); have m2 := Nat.mod_lt b (p256 i)
 unfold borrowB
 rw [e1, e2]
 generalize 256 ^ i = P at *
 generalize a / P % 256 = x at *
 generalize b / P % 256 = y at *
 rcases Nat.lt_trichotomy x y with q | q | q
 ·have h1 : P * (x + 1) ≤ P * y := Nat.mul_le_mul_left _ q
  rw [Nat.mul_add, Nat.mul_one] at h1
  rw [if_pos (by omega)]
  split <;> rw [if_pos (by omega)]
 ·subst q
  by_cases h : a % P < b % P
  ·rw [if_pos (by omega), if_pos h, if_pos (by omega)]
  ·rw [if_neg (by omega), if_neg h, if_neg (by omega)]
 ·have h1 : P * (y + 1) ≤ P * x := Nat.mul_le_mul_left _ q
  rw [Nat.mul_add, Nat.mul_one] at h1
  rw [if_neg (by omega)]
  split <;> rw [if_neg (by omega)]
theorem sub_byte {a b : Nat} (h : b ≤ a) (i : Nat) (x : Int) (hx : x = (a / 256 ^ i % 256 : Nat) - (b / 256 ^ i % 256 : Nat) - (borrowB a b i : Nat) ∨ x = (a / 256 ^ i % 256 : Nat) - (b / 256 ^ i % 256 : Nat) - (borrowB a b i : Nat) + 256) :
  IntKind.u8.wrap x = ((UInt8.ofNat ((a - b) / 256 ^ i)).toNat : Int) := by
 obtain ⟨h1, h2⟩ := borrow_div h i
 have h3 := borrow_le a b i
 rw [IntKind.wrap_u8, UInt8.toNat_ofNat', h1]
 omega
theorem less_c {a b : Bs} {w : World} (hle : val b ≤ val a) (ha : a.length ≤ 1000000) (hb : b.length ≤ 1000000) :
  Calls Tryz.prog 120 #[.string (S a), .string (S b)] w fun e w' => e = .returned (.string (S (canon (val a - val b)))) ∧ Below w.heap.size w w' := by
 have hS256 : val a - val b < 256 ^ a.length := Nat.lt_of_le_of_lt (Nat.sub_le _ _) (val_lt a)
 refine enter (S := St (fun _ => True) w [] ([])) (L := [(0, .string (S a)), (1, .string (S b))]) Tryz.func120 rfl Tryz.ntmps120 rfl (args_cons rfl (args_cons rfl (args_nil _))) (St.start (fun _ _ => trivial) facts_nil) ?_
 refine WC.sr (Ka rfl (WL.nt (WC.sr (Km rfl (Kq rfl (rd_slen rfl rfl Tryz.underlying22) (Ka rfl (WL.nt (WC.sr (Km rfl ?_)))))))))
 refine Kh rfl (og_mk rfl rfl rfl Tryz.underlying128 (by kernel_rfl : _ = some (some (.int .u8 0), 1, 1)) rfl ?_ (by (try simp only [sN, Int.reduceToNat, Nat.reduceAdd, Nat.reduceMul, Nat.reduceSub]); rfl) (by (try simp only [sN, Int.reduceToNat, Nat.reduceAdd, Nat.reduceMul, Nat.reduceSub]); rfl)) ?_
 ·omega
 intro b13
 refine Ka rfl (WL.nt (WC.sr (Ka rfl ?_)))
 refine WL.set 7 rfl (v' := .int .i64 ((borrowB (val a) (val b) 0 : Nat) : Int)) (congrArg (Value.int .i64) (by rw [borrowB_zero]; rfl)) ?_
 refine WL.nt (WC.seq (WC.sr (Km rfl (Km rfl (WL.nt (WC.block ?_))))))
 refine WC.loopO (σ := Nat) [(0, _), (1, _), (5, _), (6, _), (14, _)] (fun gq => [(7, .int .i64 (borrowB (val a) (val b) gq : Int)), (15, .int .i64 (gq : Int))]) (fun gq => gq ≤ a.length) (fun gq => a.length - gq) (fun gq => [⟨some b13, lowB a.length gq (val a - val b), 5⟩]) (fun gq => []) (0) (sub_cons rfl (sub_cons rfl (sub_cons rfl (sub_cons rfl (sub_cons rfl (sub_nil _)))))) (sub_cons rfl (sub_cons rfl (sub_nil _))) (by (try dsimp only); exact Nat.zero_le _) (by exact fun w h => by rw [lowB_zero]; exact h) ?_
 rintro k hinv1; (try dsimp only at hinv1 ⊢)
 obtain hk := hinv1
 refine WC.sr (Kq rfl (rd_lss rfl rfl rfl) (WL.nt (WC.seq ?_)))
 refine WC.cond rfl (fun hc16 => ?_) (fun hc16 => ?_)
 ·(try simp only [sB] at hc16)
  have hc1 := borrow_le (val a) (val b) k
  have hd1 := Nat.mod_lt (val a / 256 ^ k) (show 0 < 256 by decide); have hd2 := Nat.mod_lt (val b / 256 ^ k) (show 0 < 256 by decide)
  refine WC.skip (WX.then_normal (WC.seq (WC.block (WC.sr (Km rfl (Ka rfl (WL.nt (WC.sr (Km rfl (Km rfl ?_))))))))))
  refine Kh rfl (og_call rfl rfl (by kernel_rfl) (keep_val fun w hS => digit_c (a := a) (i := k) (by omega) (by omega))) ?_
  intro _
  refine Km rfl (Km rfl ?_)
  refine Kh rfl (og_call rfl rfl (by kernel_rfl) (keep_val fun w hS => digit_c (a := b) (i := k) (by omega) (by omega))) ?_
  intro _
  (refine Kq rfl (rd_sub64 rfl rfl rfl ?_) ?_; (focus (omega)))
  refine WL.set 24 rfl (v' := .int .i64 ((((val a / 256 ^ k % 256 : Nat) : Int) - ((val b / 256 ^ k % 256 : Nat) : Int)))) (congrArg (Value.int .i64) (by omega)) ?_
  refine Km rfl ?_
  (refine Kq rfl (rd_sub64 rfl rfl rfl ?_) ?_; (focus (omega)))
  refine Ka rfl (WL.nt (WC.sr (Ka rfl (WL.nt (WC.seq (WC.sr (Km rfl (Kq rfl (rd_lss rfl rfl rfl) (WL.nt ?_)))))))))
  refine WC.cond rfl (fun hc28 => ?_) (fun hc28 => ?_)
  ·(try simp only [sB] at hc28)
   refine WC.sr (Km rfl ?_)
   (refine Kq rfl (rd_add64 rfl rfl rfl ?_) ?_; (focus (omega)))
   refine Ka rfl (WL.nt (WC.region (Ka rfl (WL.nt (WC.region ?_)))))
   refine WL.set 7 rfl (v' := .int .i64 (borrowB (val a) (val b) (k + 1) : Int)) (congrArg (Value.int .i64) (by rw [borrow_succ]; (rw [if_pos (by omega)]; rfl))) ?_
   refine Km rfl (Km rfl ?_)
   (refine Kq rfl (rd_sub64nl rfl rfl rfl ?_) ?_; (focus (omega)))
   refine Km rfl ?_
   (refine Kq rfl (rd_sub64n rfl rfl rfl ?_) ?_; (focus (omega)))
   refine WL.set 35 rfl (v' := .int .i64 ((a.length - 1 - k : Nat) : Int)) (congrArg (Value.int .i64) (by omega)) ?_
   refine Km rfl ?_
   refine Kq rfl (rd_conv rfl rfl Tryz.underlying3 Tryz.underlying5) ?_
   refine WL.set 37 rfl (v' := B (UInt8.ofNat ((val a - val b) / 256 ^ k))) (by exact congrArg (Value.int .u8) (sub_byte hle k _ (by omega))) ?_
   (refine Kq rfl (rd_ia rfl rfl rfl Tryz.underlying128 (by kernel_rfl : _ = some 1) ?_ (by (try simp only [sN, Int.reduceToNat, Nat.reduceAdd, Nat.reduceMul, Nat.reduceSub]); rfl)) ?_; (focus (omega)))
   refine WL.g0 rfl rfl (st rfl rfl rfl .tc (by kernel_rfl) rfl ?_ (by rfl)) ?_
   ·rw [lowB_len _ _ _ (by omega)]; omega
   intro _
   refine WL.nil (WX.block_normal (WX.then_normal (WC.region ?_)))
   (refine Kq rfl (rd_add64nl rfl rfl rfl ?_) ?_; (focus (omega)))
   refine Km rfl (WL.nil ?_)
   refine WX.loopO (k + 1) (by (try dsimp only); omega) (sub_cons rfl (sub_cons rfl (sub_cons rfl (sub_cons rfl (sub_cons rfl (sub_nil _)))))) (by refine (sub_cons ?_ (sub_cons ?_ (sub_nil _))) <;> (rfl)) ?_ (by exact fun w h => by rw [← lowB_set a.length k _ (by omega)]; exact h)
   (try dsimp only)
   omega
  ·(try simp only [sB] at hc28)
   refine WC.skip (WX.then_normal (WC.region ?_))
   refine WL.set 7 rfl (v' := .int .i64 (borrowB (val a) (val b) (k + 1) : Int)) (congrArg (Value.int .i64) (by rw [borrow_succ]; (rw [if_neg (by omega)]; rfl))) ?_
   refine Km rfl (Km rfl ?_)
   (refine Kq rfl (rd_sub64nl rfl rfl rfl ?_) ?_; (focus (omega)))
   refine Km rfl ?_
   (refine Kq rfl (rd_sub64n rfl rfl rfl ?_) ?_; (focus (omega)))
   refine WL.set 35 rfl (v' := .int .i64 ((a.length - 1 - k : Nat) : Int)) (congrArg (Value.int .i64) (by omega)) ?_
   refine Km rfl ?_
   refine Kq rfl (rd_conv rfl rfl Tryz.underlying3 Tryz.underlying5) ?_
   refine WL.set 37 rfl (v' := B (UInt8.ofNat ((val a - val b) / 256 ^ k))) (by exact congrArg (Value.int .u8) (sub_byte hle k _ (by omega))) ?_
   (refine Kq rfl (rd_ia rfl rfl rfl Tryz.underlying128 (by kernel_rfl : _ = some 1) ?_ (by (try simp only [sN, Int.reduceToNat, Nat.reduceAdd, Nat.reduceMul, Nat.reduceSub]); rfl)) ?_; (focus (omega)))
   refine WL.g0 rfl rfl (st rfl rfl rfl .tc (by kernel_rfl) rfl ?_ (by rfl)) ?_
   ·rw [lowB_len _ _ _ (by omega)]; omega
   intro _
   refine WL.nil (WX.block_normal (WX.then_normal (WC.region ?_)))
   (refine Kq rfl (rd_add64nl rfl rfl rfl ?_) ?_; (focus (omega)))
   refine Km rfl (WL.nil ?_)
   refine WX.loopO (k + 1) (by (try dsimp only); omega) (sub_cons rfl (sub_cons rfl (sub_cons rfl (sub_cons rfl (sub_cons rfl (sub_nil _)))))) (by refine (sub_cons ?_ (sub_cons ?_ (sub_nil _))) <;> (rfl)) ?_ (by exact fun w h => by rw [← lowB_set a.length k _ (by omega)]; exact h)
   (try dsimp only)
   omega
 ·(try simp only [sB] at hc16)
  refine WC.exit (WX.then_exit (WX.then_exit (WX.block_exit ?_)))
  obtain rfl : k = a.length := by omega
  rw [lowB_full]
  refine WX.then_normal (WC.sr (Km rfl ?_))
  refine Kh rfl (og_call rfl rfl (by kernel_rfl) (keep_val fun w hS => trimmed_c (b := be a.length (val a - val b)) (by (exact hS.os)) (by rw [be_len]) (by rw [be_len]; exact Nat.le_refl _) (by rw [be_len]; omega))) ?_
  intro _
  refine Ka rfl (WL.nt (WC.ret ?_))
  exact WX.retN rfl (.tmp rfl .nil) fun w' hS => ⟨by rw [val_be, Nat.mod_eq_of_lt hS256]; rfl, hS.below⟩
def subN (a b : Bs) : Bs × Int := if okN a ∧ okN b then (if val a < val b then ([], 2) else (canon (val a - val b), 0)) else ([], 3)
theorem cmpI_neg (a b : Nat) : cmpI a b < 0 ↔ a < b := by
 unfold cmpI
 constructor
 ·intro h; split at h <;> (try split at h) <;> omega
 ·intro h; rw [if_pos (by omega)]; decide
theorem sub_c {a b : Bs} {w : World} :
  Calls Tryz.prog 79 #[.string (S a), .string (S b)] w fun e w' => e = .returned (NE (subN a b)) ∧ Below w.heap.size w w' := by
 refine enter (S := St (fun _ => True) w [] ([])) (L := [(0, .string (S a)), (1, .string (S b))]) Tryz.func79 rfl Tryz.ntmps79 rfl (args_cons rfl (args_cons rfl (args_nil _))) (St.start (fun _ _ => trivial) facts_nil) ?_
 refine WC.sr (Ka rfl (Ka rfl (WL.nt (WC.seq (WC.sr (Km rfl ?_))))))
 refine Kh rfl (og_call rfl rfl (by kernel_rfl) (keep_val fun w hS => valid_c)) ?_
 intro _
 refine Kq rfl (rd_not rfl rfl) (Km rfl ?_)
 refine WL.bool 9 rfl (fun hg9 => ?_) (fun hg9 => ?_)
 ·(try simp only [sB] at hg9)
  refine Kt rfl (Kt rfl (Kt rfl (Kq rfl (rd_pickt rfl rfl rfl) (WL.nt ?_))))
  refine WC.cond rfl (fun _ => ?_) (fun h => by cases h)
  refine WC.sr (Ka rfl (Ka rfl (WL.nt (WC.ret (WX.then_ret ?_)))))
  exact WX.retN rfl (.tmp rfl (.tmp rfl .nil)) fun w' hS => ⟨by rw [subN, if_neg (by simp_all)]; rfl, hS.below⟩
 ·(try simp only [sB] at hg9)
  refine Km rfl ?_
  refine Kh rfl (og_call rfl rfl (by kernel_rfl) (keep_val fun w hS => valid_c)) ?_
  intro _
  refine Kq rfl (rd_not rfl rfl) (Kq rfl (rd_pickf rfl rfl rfl) (WL.nt ?_))
  refine WC.cond rfl (fun hc13 => ?_) (fun hc13 => ?_)
  ·(try simp only [sB] at hc13)
   refine WC.sr (Ka rfl (Ka rfl (WL.nt (WC.ret (WX.then_ret ?_)))))
   exact WX.retN rfl (.tmp rfl (.tmp rfl .nil)) fun w' hS => ⟨by rw [subN, if_neg (by simp_all)]; rfl, hS.below⟩
  ·(try simp only [sB] at hc13)
   have hab : okN a ∧ okN b := by simp_all
   have hal := hab.1.1; have hbl := hab.2.1
   refine WC.skip (WX.then_normal (WC.seq (WC.sr (Km rfl (Km rfl ?_)))))
   refine Kh rfl (og_call rfl rfl (by kernel_rfl) (keep_val fun w hS => compare_c (a := a) (b := b) (by exact hab.1.2) (by exact hab.2.2))) ?_
   intro _
   refine Kq rfl (rd_lss rfl rfl rfl) (WL.nt ?_)
   refine WC.cond rfl (fun hc17 => ?_) (fun hc17 => ?_)
   ·(try simp only [sB] at hc17)
    rw [cmpI_neg] at hc17
    refine WC.sr (Ka rfl (Ka rfl (WL.nt (WC.ret (WX.then_ret ?_)))))
    exact WX.retN rfl (.tmp rfl (.tmp rfl .nil)) fun w' hS => ⟨by rw [subN, if_pos hab, if_pos hc17]; rfl, hS.below⟩
   ·(try simp only [sB] at hc17)
    have hle : val b ≤ val a := Nat.not_lt.1 fun h => by have := (cmpI_neg _ _).2 h; omega
    refine WC.skip (WX.then_normal (WC.sr (Km rfl (Km rfl ?_))))
    refine Kh rfl (og_call rfl rfl (by kernel_rfl) (keep_val fun w hS => less_c (a := a) (b := b) (by assumption) (by omega) (by omega))) ?_
    intro _
    refine Ka rfl (Ka rfl (WL.nt (WC.ret ?_)))
    exact WX.retN rfl (.tmp rfl (.tmp rfl .nil)) fun w' hS => ⟨by rw [subN, if_pos hab, if_neg (by omega)]; rfl, hS.below⟩
def bitsN (a : Bs) : Nat := if a = [] then 0 else 8 * (a.length - 1) + Lib.bitLen (a.getD 0 default).toNat
theorem bitLenAux_le : ∀ f x, Lib.bitLenAux f x ≤ f
 | 0, x => by simp [Lib.bitLenAux]
 | f + 1, x => by unfold Lib.bitLenAux; split; omega; have := bitLenAux_le f (x / 2); omega
theorem bitLen_le (x : Nat) : Lib.bitLen x ≤ 64 := bitLenAux_le 64 x
theorem bits_c {a : Bs} {w : World} :
  Calls Tryz.prog 109 #[.string (S a)] w fun e w' => e = .returned (.int .i64 ((if okN a then bitsN a else 0 : Nat) : Int)) ∧ Below w.heap.size w w' := by
 refine enter (S := St (fun _ => True) w [] ([])) (L := [(0, .string (S a))]) Tryz.func109 rfl Tryz.ntmps109 rfl (args_cons rfl (args_nil _)) (St.start (fun _ _ => trivial) facts_nil) ?_
 refine WC.sr (Ka rfl (WL.nt (WC.seq (WC.sr (Km rfl ?_)))))
 refine Kh rfl (og_call rfl rfl (by kernel_rfl) (keep_val fun w hS => valid_c)) ?_
 intro _
 refine Kq rfl (rd_not rfl rfl) (Km rfl ?_)
 refine WL.bool 6 rfl (fun hg6 => ?_) (fun hg6 => ?_)
 ·(try simp only [sB] at hg6)
  refine Kt rfl (Kt rfl (Kq rfl (rd_pickt rfl rfl rfl) (WL.nt ?_)))
  refine WC.cond rfl (fun _ => ?_) (fun h => by cases h)
  refine WC.sr (Ka rfl (WL.nt (WC.ret (WX.then_ret ?_))))
  exact WX.retN rfl (.tmp rfl .nil) fun w' hS => ⟨by (rw [if_neg hg6]; rfl), hS.below⟩
 ·(try simp only [sB] at hg6)
  refine Km rfl (Kq rfl (rd_seq rfl rfl rfl) (Kq rfl (rd_pickf rfl rfl rfl) (WL.nt ?_)))
  refine WC.cond rfl (fun hc9 => ?_) (fun hc9 => ?_)
  ·(try simp only [sB] at hc9)
   refine WC.sr (Ka rfl (WL.nt (WC.ret (WX.then_ret ?_))))
   exact WX.retN rfl (.tmp rfl .nil) fun w' hS => ⟨by (rw [hc9]; simp [bitsN, tup]), hS.below⟩
  ·(try simp only [sB] at hc9)
   have hok : okN a := by simp_all
   have hne : a ≠ [] := by simp_all
   have hl0 : 0 < a.length := List.length_pos_iff.2 hne
   have hal := hok.1
   have hbl := bitLen_le (a.getD 0 default).toNat
   refine WC.skip (WX.then_normal (WC.sr (Km rfl (Kq rfl (rd_slen rfl rfl Tryz.underlying22) ?_))))
   (refine Kq rfl (rd_sub64nl rfl rfl rfl ?_) ?_; (focus (omega)))
   (refine Kq rfl (rd_mul64ln rfl rfl rfl ?_) ?_; (focus (omega)))
   refine Km rfl ?_
   refine Kq rfl (rd_sidxD rfl rfl rfl Tryz.underlying22 ?_) ?_
   ·omega
   refine Kh rfl (og_call rfl rfl (by kernel_rfl) (keep_val fun w hS => len8_c (x := (a.getD 0 default).toNat) (by exact (a.getD 0 default).toNat_lt))) ?_
   intro _
   (refine Kq rfl (rd_add64n rfl rfl rfl ?_) ?_; (focus (omega)))
   refine Ka rfl (WL.nt (WC.ret ?_))
   exact WX.retN rfl (.tmp rfl .nil) fun w' hS => ⟨by rw [if_pos hok, bitsN, if_neg hne]; rfl, hS.below⟩
theorem rcan (a : Bs) : okN a ↔ a.length ≤ 128 ∧ (a = [] ∨ (a.getD 0 default).toNat ≠ 0) := by
 rw [okN, can_iff]; cases a <;> simp
theorem rvalid_c {a : Bs} {w : World} :
  Calls Tryz.prog 53 #[.string (S a)] w fun e w' => e = .returned (.bool (decide (okN a))) ∧ Below w.heap.size w w' := by
 have hci := rcan a
 refine enter (S := St (fun _ => True) w [] ([])) (L := [(0, .string (S a))]) Tryz.func53 rfl Tryz.ntmps53 rfl (args_cons rfl (args_nil _)) (St.start (fun _ _ => trivial) facts_nil) ?_
 refine WC.sr (Ka rfl (WL.nt (WC.sr (Km rfl (Kq rfl (rd_slen rfl rfl Tryz.underlying22) (Kq rfl (rd_leq rfl rfl rfl) (Km rfl ?_)))))))
 refine WL.bool 6 rfl (fun hg6 => ?_) (fun hg6 => ?_)
 ·(try simp only [sB] at hg6)
  refine Km rfl (Kq rfl (rd_seq rfl rfl rfl) (Km rfl ?_))
  refine WL.bool 9 rfl (fun hg9 => ?_) (fun hg9 => ?_)
  ·(try simp only [sB] at hg9)
   refine Kt rfl (Kt rfl (Kt rfl (Kq rfl (rd_pickt rfl rfl rfl) (Kq rfl (rd_pickt rfl rfl rfl) (Ka rfl (WL.nt (WC.ret ?_)))))))
   exact WX.retN rfl (.tmp rfl .nil) fun w' hS => ⟨congrArg (fun b => Ending.returned (.bool b)) (by
    first
     | (symm; rw [decide_eq_true_eq, hci]; exact ⟨by omega, .inl (by simp_all)⟩)
     | (symm; rw [decide_eq_false_iff_not, hci]; rintro ⟨h, _⟩; omega)
     | (show (!decide ((((a.getD 0 default).toNat : Nat) : Int) = 0)) = _
        rw [Bool.eq_iff_iff]; simp only [Bool.not_eq_true', decide_eq_false_iff_not, decide_eq_true_eq, hci]
        exact ⟨fun h => ⟨by omega, .inr (by omega)⟩, fun h => by have := h.2.resolve_left (by simp_all); omega⟩)), hS.below⟩
  ·(try simp only [sB] at hg9)
   refine Km rfl ?_
   refine Kq rfl (rd_sidxD rfl rfl rfl Tryz.underlying22 ?_) ?_
   ·(exact ⟨by decide, List.length_pos_iff.2 (by simp_all)⟩)
   refine Kq rfl (rd_neq rfl rfl rfl) (Kq rfl (rd_pickf rfl rfl rfl) (Kq rfl (rd_pickt rfl rfl rfl) (Ka rfl (WL.nt (WC.ret ?_)))))
   exact WX.retN rfl (.tmp rfl .nil) fun w' hS => ⟨congrArg (fun b => Ending.returned (.bool b)) (by
    first
     | (symm; rw [decide_eq_true_eq, hci]; exact ⟨by omega, .inl (by simp_all)⟩)
     | (symm; rw [decide_eq_false_iff_not, hci]; rintro ⟨h, _⟩; omega)
     | (show (!decide ((((a.getD 0 default).toNat : Nat) : Int) = 0)) = _
        rw [Bool.eq_iff_iff]; simp only [Bool.not_eq_true', decide_eq_false_iff_not, decide_eq_true_eq, hci]
        exact ⟨fun h => ⟨by omega, .inr (by omega)⟩, fun h => by have := h.2.resolve_left (by simp_all); omega⟩)), hS.below⟩
 ·(try simp only [sB] at hg6)
  refine Kt rfl (Kt rfl (Kt rfl (Kt rfl (Kt rfl (Kt rfl (Kt rfl (Kq rfl (rd_pickf rfl rfl rfl) (Ka rfl (WL.nt (WC.ret ?_))))))))))
  exact WX.retN rfl (.tmp rfl .nil) fun w' hS => ⟨congrArg (fun b => Ending.returned (.bool b)) (by
   first
    | (symm; rw [decide_eq_true_eq, hci]; exact ⟨by omega, .inl (by simp_all)⟩)
    | (symm; rw [decide_eq_false_iff_not, hci]; rintro ⟨h, _⟩; omega)
    | (show (!decide ((((a.getD 0 default).toNat : Nat) : Int) = 0)) = _
       rw [Bool.eq_iff_iff]; simp only [Bool.not_eq_true', decide_eq_false_iff_not, decide_eq_true_eq, hci]
       exact ⟨fun h => ⟨by omega, .inr (by omega)⟩, fun h => by have := h.2.resolve_left (by simp_all); omega⟩)), hS.below⟩
theorem rat_c {a : Bs} {i : Nat} {w : World} (ha : a.length ≤ 1000000000) (hi : i ≤ 1000000000) :
  Calls Tryz.prog 151 #[.string (S a), .int .i64 (i : Int)] w fun e w' => e = .returned (.int .i64 ((val a / 256 ^ i % 256 : Nat) : Int)) ∧ Below w.heap.size w w' := by
 refine enter (S := St (fun _ => True) w [] ([])) (L := [(0, .string (S a)), (1, .int .i64 (i : Int))]) Tryz.func151 rfl Tryz.ntmps151 rfl (args_cons rfl (args_cons rfl (args_nil _))) (St.start (fun _ _ => trivial) facts_nil) ?_
 refine WC.sr (Ka rfl (WL.nt (WC.seq (WC.sr (Km rfl (Km rfl (Kq rfl (rd_slen rfl rfl Tryz.underlying22) (Kq rfl (rd_geq rfl rfl rfl) (WL.nt ?_)))))))))
 refine WC.cond rfl (fun hc8 => ?_) (fun hc8 => ?_)
 ·(try simp only [sB] at hc8)
  refine WC.sr (Ka rfl (WL.nt (WC.ret (WX.then_ret ?_))))
  exact WX.retN rfl (.tmp rfl .nil) fun w' hS => ⟨by rw [val_digit0 a i (by omega)]; rfl, hS.below⟩
 ·(try simp only [sB] at hc8)
  refine WC.skip (WX.then_normal (WC.sr (Km rfl (Km rfl (Kq rfl (rd_slen rfl rfl Tryz.underlying22) ?_)))))
  (refine Kq rfl (rd_sub64nl rfl rfl rfl ?_) ?_; (focus (omega)))
  refine Km rfl ?_
  (refine Kq rfl (rd_sub64n rfl rfl rfl ?_) ?_; (focus (omega)))
  refine Kq rfl (rd_sidxD rfl rfl rfl Tryz.underlying22 ?_) ?_
  ·omega
  refine Kq rfl (rd_convN rfl rfl Tryz.underlying5 Tryz.underlying3 ?_) ?_
  ·(exact wrap8_64 _)
  refine Ka rfl (WL.nt (WC.ret ?_))
  exact WX.retN rfl (.tmp rfl .nil) fun w' hS => ⟨by rw [val_digit a i (by omega)]; simp only [tup]; congr 3, hS.below⟩
theorem trimB_take : ∀ (b : Bs) (i : Nat), (∀ j, j < i → (b.getD j default).toNat = 0) → i ≤ b.length → trimB b = trimB (b.drop i)
 | b, 0, _, _ => by simp
 | [], i + 1, _, h => by simp at h
 | c :: s, i + 1, h, hl => by
  have h0 := h 0 (by omega)
  have : c = 0 := UInt8.toNat_inj.1 h0
  subst this
  rw [List.drop_succ_cons, ← trimB_take s i (fun j hj => h (j + 1) (by omega)) (by simpa using hl)]
  simp [trimB]
theorem rtrim_n {b : Bs} {ad : Option Addr} {cap : Nat} {w : World} {ok : Nat → Prop} (hF1 : (Fact.sl ad (b.map B)).holds ok w) (hcap : b.length ≤ cap) (hb : b.length ≤ 1000000000) :
  Calls Tryz.prog 126 #[.slice ad b.length cap] w fun e w' => e = .returned (.string (S (canon (val b)))) ∧ Below w.heap.size w w' := by
 refine enter (S := St (fun _ => True) w [] ([Fact.sl ad (b.map B)])) (L := [(0, .slice ad b.length cap)]) Tryz.func126 rfl Tryz.ntmps126 rfl (args_cons rfl (args_nil _)) (St.start (fun _ _ => trivial) (facts_cons (fact_any hF1) facts_nil)) ?_
 refine WC.sr (Ka rfl (WL.nt (WC.sr (Ka rfl (WL.nt (WC.seq (WC.block ?_)))))))
 refine WC.loopP (σ := Nat) [(0, _)] (fun gq => [(3, .int .i64 (gq : Int))]) (fun gq => gq ≤ b.length ∧ ∀ j, j < gq → (b.getD j default).toNat = 0) (fun gq => b.length - gq) (0) (sub_cons rfl (sub_nil _)) (sub_cons rfl (sub_nil _)) (by (try dsimp only); exact ⟨Nat.zero_le _, fun j h => by omega⟩) ?_
 rintro i hinv1; (try dsimp only at hinv1 ⊢)
 obtain ⟨hi, hz⟩ := hinv1
 refine WC.seq (WC.sr (Km rfl (Km rfl (Kq rfl (rd_len rfl rfl Tryz.underlying128) (Kq rfl (rd_lss rfl rfl rfl) (Km rfl ?_))))))
 refine WL.bool 8 rfl (fun hg8 => ?_) (fun hg8 => ?_)
 ·(try simp only [sB] at hg8)
  refine Km rfl (Km rfl ?_)
  (refine Kq rfl (iaf rfl rfl rfl Tryz.underlying128 (by kernel_rfl : _ = some 1) ?_ ?_ (by (try simp only [sN, Int.reduceToNat, Nat.reduceAdd, Nat.reduceMul, Nat.reduceSub]); rfl)) ?_; (focus (omega)); (focus ((rw [List.length_map]; omega))))
  (refine Kq rfl (ldm rfl rfl Tryz.underlying5 rfl ?_) ?_; (focus (omega)))
  refine Kq rfl (rd_eql rfl rfl rfl) (Kq rfl (rd_pickt rfl rfl rfl) (WL.nt ?_))
  refine WC.cond rfl (fun hc14 => ?_) (fun hc14 => ?_)
  ·(try simp only [sB] at hc14)
   have hzi : (b.getD i default).toNat = 0 := by (simp at hc14; exact hc14)
   refine WC.skip (WX.then_normal (WC.block (WC.region (Km rfl ?_))))
   (refine Kq rfl (rd_add64nl rfl rfl rfl ?_) ?_; (focus (omega)))
   refine Ka rfl (WL.nil (WX.block_normal ?_))
   refine WX.loopP (i + 1) (by (try dsimp only); omega) (sub_cons rfl (sub_nil _)) (by refine (sub_cons ?_ (sub_nil _)) <;> (rfl)) ?_ (by (exact fun _ h => h))
   (try dsimp only)
   exact ⟨by omega, fun j hj => by rcases Nat.lt_succ_iff_lt_or_eq.1 hj with h | rfl; exact hz j h; exact hzi⟩
  ·(try simp only [sB] at hc14)
   refine WC.exit (WX.then_exit (WX.then_exit (WX.block_exit (WX.then_normal (WC.sr (Km rfl (Km rfl ?_)))))))
   (refine Kq rfl (rd_slfo rfl rfl rfl Tryz.underlying128 (by kernel_rfl : _ = some 1) ?_ (by (try simp only [sN, Int.reduceToNat, Nat.reduceAdd, Nat.reduceMul, Nat.reduceSub]); rfl) (by (try simp only [sN, Int.reduceToNat, Nat.reduceAdd, Nat.reduceMul, Nat.reduceSub]); rfl) (by (try simp only [sN, Int.reduceToNat, Nat.reduceAdd, Nat.reduceMul, Nat.reduceSub]); rfl)) ?_; (focus (omega)))
   refine WL.st (fun w h => (h.add (f := Fact.sl (sh ad i) ((b.drop i).map B)) (sl_dropM i (h.fact (Fact.sl ad (b.map B)) (by simp))))) ?_
   refine WL.st (fun w h => (h.add (f := Fact.sl (cut ad i cap 1) ((b.drop i).map B)) (sl_cutM i hcap (h.fact (Fact.sl ad (b.map B)) (by simp))))) ?_
   refine Kq rfl (b2sf rfl rfl .tc Tryz.underlying128 Tryz.underlying5 Tryz.underlying22 ?_) ?_
   ·simp
   refine Ka rfl (WL.nt (WC.ret ?_))
   exact WX.retN rfl (.tmp rfl .nil) fun w' hS => ⟨by rw [show canon (val b) = b.drop i from by rw [← trim_canon, trimB_take b i hz hi, trimB_stop (by rw [List.length_drop]; (exact .inr (by rw [show (b.drop i).getD 0 default = b.getD i default from by simp [List.getD]]; omega)))]]; rfl, hS.below⟩
 ·(try simp only [sB] at hg8)
  refine Kt rfl (Kt rfl (Kt rfl (Kt rfl (Kt rfl (Kq rfl (rd_pickf rfl rfl rfl) (WL.nt ?_))))))
  refine WC.cond rfl (fun h => by cases h) (fun _ => ?_)
  refine WC.exit (WX.then_exit (WX.then_exit (WX.block_exit (WX.then_normal (WC.sr (Km rfl (Km rfl ?_)))))))
  (refine Kq rfl (rd_slf rfl rfl rfl Tryz.underlying128 (by kernel_rfl : _ = some 1) ?_ (by (try simp only [sN, Int.reduceToNat, Nat.reduceAdd, Nat.reduceMul, Nat.reduceSub]); rfl) (by (try simp only [sN, Int.reduceToNat, Nat.reduceAdd, Nat.reduceMul, Nat.reduceSub]); rfl) (by (try simp only [sN, Int.reduceToNat, Nat.reduceAdd, Nat.reduceMul, Nat.reduceSub]); rfl)) ?_; (focus (omega)))
  refine WL.st (fun w h => (h.add (f := Fact.sl (sh ad i) ((b.drop i).map B)) (sl_dropM i (h.fact (Fact.sl ad (b.map B)) (by simp))))) ?_
  refine WL.st (fun w h => (h.add (f := Fact.sl (cut ad i cap 1) ((b.drop i).map B)) (sl_cutM i hcap (h.fact (Fact.sl ad (b.map B)) (by simp))))) ?_
  refine Kq rfl (b2sf rfl rfl .tc Tryz.underlying128 Tryz.underlying5 Tryz.underlying22 ?_) ?_
  ·simp
  refine Ka rfl (WL.nt (WC.ret ?_))
  exact WX.retN rfl (.tmp rfl .nil) fun w' hS => ⟨by rw [show canon (val b) = b.drop i from by rw [← trim_canon, trimB_take b i hz hi, trimB_stop (by rw [List.length_drop]; (exact .inl (by omega)))]]; rfl, hS.below⟩
theorem rtrim_c {b : Bs} {ad : Option Addr} {m cap : Nat} {w : World} {ok : Nat → Prop} (hF1 : (Fact.sl ad (b.map B)).holds ok w) (hm : m = b.length) (hcap : b.length ≤ cap) (hb : b.length ≤ 1000000000) :
  Calls Tryz.prog 126 #[.slice ad m cap] w fun e w' => e = .returned (.string (S (canon (val b)))) ∧ Below w.heap.size w w' :=
 by subst hm; exact rtrim_n hF1 hcap hb
theorem byte_mod8 (x : Nat) : IntKind.u8.wrap ((x % 256 : Nat) : Int) = ((UInt8.ofNat x).toNat : Int) := by
 rw [IntKind.wrap_u8, UInt8.toNat_ofNat']; omega
theorem rof_c {n : Nat} {w : World} (hn : n < 18446744073709551616) :
  Calls Tryz.prog 95 #[.int .u64 (n : Int)] w fun e w' => e = .returned (.string (S (canon n))) ∧ Below w.heap.size w w' := by
 refine enter (S := St (fun _ => True) w [] ([])) (L := [(0, .int .u64 (n : Int))]) Tryz.func95 rfl Tryz.ntmps95 rfl (args_cons rfl (args_nil _)) (St.start (fun _ _ => trivial) facts_nil) ?_
 refine WC.sr (Ka rfl (WL.nt (WC.sr ?_)))
 refine Kh rfl (og_mk rfl rfl rfl Tryz.underlying128 (by kernel_rfl : _ = some (some (.int .u8 0), 1, 1)) rfl ?_ (by (try simp only [sN, Int.reduceToNat, Nat.reduceAdd, Nat.reduceMul, Nat.reduceSub]); rfl) (by (try simp only [sN, Int.reduceToNat, Nat.reduceAdd, Nat.reduceMul, Nat.reduceSub]); rfl)) ?_
 ·omega
 intro b5
 refine Ka rfl (WL.nt (WC.seq (WC.sr (Ka rfl ?_))))
 refine WL.set 0 rfl (v' := .int .u64 ((n / 256 ^ 0 : Nat) : Int)) (by simp) ?_
 refine WL.set 4 rfl (v' := .int .i64 (7 - ((0 : Nat) : Int))) (by simp) ?_
 refine WL.nt (WC.block ?_)
 refine WC.loopO (σ := Nat) [(3, _)] (fun gq => [(0, .int .u64 ((n / 256 ^ gq : Nat) : Int)), (4, .int .i64 (7 - (gq : Int)))]) (fun gq => gq ≤ 8) (fun gq => 8 - gq) (fun gq => [⟨some b5, lowB 8 gq n, 5⟩]) (fun gq => []) (0) (sub_cons rfl (sub_nil _)) (sub_cons rfl (sub_cons rfl (sub_nil _))) (by (try dsimp only); exact Nat.zero_le _) (by exact fun w h => by rw [lowB_zero]; exact h) ?_
 rintro k hinv1; (try dsimp only at hinv1 ⊢)
 obtain hk := hinv1
 refine WC.seq (WC.sr (Km rfl (Kq rfl (rd_geq rfl rfl rfl) (WL.nt ?_))))
 refine WC.cond rfl (fun hc7 => ?_) (fun hc7 => ?_)
 ·(try simp only [sB] at hc7)
  have hdv : n / 256 ^ k ≤ n := Nat.div_le_self _ _
  refine WC.skip (WX.then_normal (WC.seq (WC.block (WC.sr (Km rfl (Km rfl ?_))))))
  refine WL.set 11 rfl (v' := .int .i64 (((7 - k : Nat) : Int))) (congrArg (Value.int .i64) (by omega)) ?_
  refine Km rfl ?_
  refine Kq rfl (rd_remN rfl rfl rfl (by decide)) ?_
  refine Kq rfl (rd_conv rfl rfl Tryz.underlying81 Tryz.underlying5) ?_
  refine WL.set 14 rfl (v' := B (UInt8.ofNat (n / 256 ^ k))) (by exact congrArg (Value.int .u8) (byte_mod8 _)) ?_
  (refine Kq rfl (rd_ia rfl rfl rfl Tryz.underlying128 (by kernel_rfl : _ = some 1) ?_ (by (try simp only [sN, Int.reduceToNat, Nat.reduceAdd, Nat.reduceMul, Nat.reduceSub]); rfl)) ?_; (focus (omega)))
  refine WL.g0 rfl rfl (st rfl rfl rfl .tc (by kernel_rfl) rfl ?_ (by rfl)) ?_
  ·rw [lowB_len _ _ _ (by omega)]; omega
  intro _
  refine WL.nt (WC.region (Km rfl ?_))
  refine Kq rfl (rd_quoN rfl rfl rfl (by decide) ?_) ?_
  ·(generalize n / 256 ^ k = z at *; exact IntWalk.u64_in _ ⟨by omega, by omega⟩)
  refine WL.set 17 rfl (v' := .int .u64 ((n / 256 ^ (k + 1) : Nat) : Int)) (congrArg (Value.int .u64) (by rw [Nat.pow_succ, ← Nat.div_div_eq_div_mul])) ?_
  refine Ka rfl (WL.nil (WX.block_normal (WX.then_normal (WC.region (Km rfl ?_)))))
  (refine Kq rfl (rd_sub64 rfl rfl rfl ?_) ?_; (focus (omega)))
  refine WL.set 9 rfl (v' := .int .i64 (7 - ((k + 1 : Nat) : Int))) (congrArg (Value.int .i64) (by omega)) ?_
  refine Ka rfl (WL.nil ?_)
  refine WX.loopO (k + 1) (by (try dsimp only); omega) (sub_cons rfl (sub_nil _)) (by refine (sub_cons ?_ (sub_cons ?_ (sub_nil _))) <;> (rfl)) ?_ (by exact fun w h => by rw [← lowB_set 8 k n (by omega)]; exact h)
  (try dsimp only)
  omega
 ·(try simp only [sB] at hc7)
  refine WC.exit (WX.then_exit (WX.then_exit (WX.block_exit ?_)))
  obtain rfl : k = 8 := by omega
  rw [lowB_full]
  refine WX.then_normal (WC.sr (Km rfl ?_))
  refine Kh rfl (og_call rfl rfl (by kernel_rfl) (keep_val fun w hS => rtrim_c (b := be 8 n) (by (exact hS.os)) (by rw [be_len]) (by rw [be_len]; decide) (by rw [be_len]; decide))) ?_
  intro _
  refine Ka rfl (WL.nt (WC.ret ?_))
  exact WX.retN rfl (.tmp rfl .nil) fun w' hS => ⟨by rw [val_be, Nat.mod_eq_of_lt (by omega)]; rfl, hS.below⟩
theorem order_end {a b : Bs} (h : a.length = b.length) {i : Nat} (hi : i < a.length) (hp : a.take i = b.take i) (hne : (a.getD i default).toNat ≠ (b.getD i default).toNat) : cmpI (val a) (val b) = if (a.getD i default).toNat < (b.getD i default).toNat then -1 else 1 := by
 have ea : a = a.take i ++ (a.getD i default :: a.drop (i + 1)) := by
  conv => lhs; rw [← List.take_append_drop i a, List.drop_eq_getElem_cons hi]
  rw [List.getD_eq_getElem?_getD, List.getElem?_eq_getElem hi]; rfl
 have eb : b = b.take i ++ (b.getD i default :: b.drop (i + 1)) := by
  conv => lhs; rw [← List.take_append_drop i b, List.drop_eq_getElem_cons (by omega : i < b.length)]
  rw [List.getD_eq_getElem?_getD, List.getElem?_eq_getElem (by omega : i < b.length)]; rfl
 have la := val_lt (a.drop (i + 1)); have lb := val_lt (b.drop (i + 1))
 have hl : (a.drop (i + 1)).length = (b.drop (i + 1)).length := by simp [h]
 have va : val a = val (a.take i) * 256 ^ ((b.drop (i + 1)).length + 1) + ((a.getD i default).toNat * 256 ^ (b.drop (i + 1)).length + val (a.drop (i + 1))) := by
  conv => lhs; rw [ea]
  rw [val_append, val, List.length_cons, hl]
 have vb : val b = val (a.take i) * 256 ^ ((b.drop (i + 1)).length + 1) + ((b.getD i default).toNat * 256 ^ (b.drop (i + 1)).length + val (b.drop (i + 1))) := by
  conv => lhs; rw [eb]
  rw [val_append, val, List.length_cons, hp]
 rw [hl] at la
 rw [va, vb]
 generalize (a.getD i default).toNat = x at *
 generalize (b.getD i default).toNat = y at *
 generalize 256 ^ (b.drop (i + 1)).length = P at *
 generalize val (a.take i) * 256 ^ ((b.drop (i + 1)).length + 1) = Q at *
 unfold cmpI
 rcases Nat.lt_or_gt_of_ne hne with q | q
 ·have h1 : (x + 1) * P ≤ y * P := Nat.mul_le_mul_right _ q
  rw [Nat.add_mul, Nat.one_mul] at h1
  rw [if_pos (by omega), if_pos q]
 ·have h1 : (y + 1) * P ≤ x * P := Nat.mul_le_mul_right _ q
  rw [Nat.add_mul, Nat.one_mul] at h1
  rw [if_neg (by omega), if_pos (by omega), if_neg (by omega)]
theorem take_sameB {l m : Bs} {k : Nat} (h1 : k < l.length) (h2 : k < m.length) (h : l.take k = m.take k) (h3 : (l.getD k default).toNat = (m.getD k default).toNat) : l.take (k + 1) = m.take (k + 1) := by
 have h4 := UInt8.toNat_inj.1 h3
 rw [List.getD_eq_getElem?_getD, List.getD_eq_getElem?_getD, List.getElem?_eq_getElem h1, List.getElem?_eq_getElem h2] at h4
 rw [List.take_add_one, List.take_add_one, h, List.getElem?_eq_getElem h1, List.getElem?_eq_getElem h2]
 rw [Option.toList, Option.toList]; simp only [Option.getD] at h4; rw [h4]
theorem order_c {a b : Bs} {w : World} (ha : Can a) (hb : Can b) (hal : a.length ≤ 1000000) :
  Calls Tryz.prog 123 #[.string (S a), .string (S b)] w fun e w' => e = .returned (.int .i64 (cmpI (val a) (val b))) ∧ Below w.heap.size w w' := by
 refine enter (S := St (fun _ => True) w [] ([])) (L := [(0, .string (S a)), (1, .string (S b))]) Tryz.func123 rfl Tryz.ntmps123 rfl (args_cons rfl (args_cons rfl (args_nil _))) (St.start (fun _ _ => trivial) facts_nil) ?_
 refine WC.sr (Ka rfl (WL.nt (WC.seq (WC.sr (Km rfl (Kq rfl (rd_slen rfl rfl Tryz.underlying22) (Km rfl (Kq rfl (rd_slen rfl rfl Tryz.underlying22) (Kq rfl (rd_neq rfl rfl rfl) (WL.nt ?_))))))))))
 refine WC.cond rfl (fun hc10 => ?_) (fun hc10 => ?_)
 ·(try simp only [sB] at hc10)
  have hne : a.length ≠ b.length := by omega
  have hcl := cmp_len ha hb hne
  refine WC.seq (WC.sr (Km rfl (Kq rfl (rd_slen rfl rfl Tryz.underlying22) (Km rfl (Kq rfl (rd_slen rfl rfl Tryz.underlying22) (Kq rfl (rd_lss rfl rfl rfl) (WL.nt ?_)))))))
  refine WC.cond rfl (fun hc15 => ?_) (fun hc15 => ?_)
  ·(try simp only [sB] at hc15)
   refine WC.sr (Ka rfl (WL.nt (WC.ret (WX.then_ret (WX.then_ret ?_)))))
   exact WX.retN rfl (.tmp rfl .nil) fun w' hS => ⟨by rw [← hcl, cmpI, if_pos (by omega)]; rfl, hS.below⟩
  ·(try simp only [sB] at hc15)
   refine WC.skip (WX.then_normal (WC.sr (Ka rfl (WL.nt (WC.ret (WX.then_ret ?_))))))
   exact WX.retN rfl (.tmp rfl .nil) fun w' hS => ⟨by rw [← hcl, cmpI, if_neg (by omega), if_pos (by omega)]; rfl, hS.below⟩
 ·(try simp only [sB] at hc10)
  have heq : a.length = b.length := by omega
  refine WC.skip (WX.then_normal (WC.seq (WC.sr (Ka rfl (WL.nt (WC.block ?_))))))
  refine WC.loopP (σ := Nat) [(0, _), (1, _)] (fun gq => [(5, .int .i64 (gq : Int))]) (fun gq => gq ≤ a.length ∧ a.take gq = b.take gq) (fun gq => a.length - gq) (0) (sub_cons rfl (sub_cons rfl (sub_nil _))) (sub_cons rfl (sub_nil _)) (by (try dsimp only); exact ⟨Nat.zero_le _, by simp⟩) ?_
  rintro i hinv1; (try dsimp only at hinv1 ⊢)
  obtain ⟨hi, ht⟩ := hinv1
  refine WC.seq (WC.sr (Km rfl (Km rfl (Kq rfl (rd_slen rfl rfl Tryz.underlying22) (Kq rfl (rd_lss rfl rfl rfl) (WL.nt ?_))))))
  refine WC.cond rfl (fun hc19 => ?_) (fun hc19 => ?_)
  ·(try simp only [sB] at hc19)
   refine WC.skip (WX.then_normal (WC.seq (WC.block (WC.seq ?_))))
   refine WC.free0 [0, 1, 2, 3, 4, 5, 6] [] [0, 0, 0, 0, 0, 0, 0] (by kernel_rfl) (by kernel_rfl) rfl ?_
   refine Kj rfl (rd_move rfl rfl) ?_
   refine Kj rfl (rd_move rfl rfl) ?_
   refine Kj rfl (rd_sidxD rfl rfl rfl Tryz.underlying22 ?_) ?_
   ·omega
   refine Kj rfl (rd_move rfl rfl) ?_
   refine Kj rfl (rd_move rfl rfl) ?_
   refine Kj rfl (rd_sidxD rfl rfl rfl Tryz.underlying22 ?_) ?_
   ·omega
   refine Kj rfl (rd_neq rfl rfl rfl) ?_
   refine WJ.nil ?_
   refine WL.nt ?_
   refine WC.cond rfl (fun hc28 => ?_) (fun hc28 => ?_)
   ·(try simp only [sB] at hc28)
    simp only [Int.toNat_natCast] at hc28
    have hoe := order_end heq (i := i) (by omega) ht (by omega)
    refine WC.seq (WC.seq ?_)
    refine WC.free0 [0, 1, 2, 3, 4, 5, 6] [] [0, 0, 0, 0, 0, 0, 0] (by kernel_rfl) (by kernel_rfl) rfl ?_
    refine Kj rfl (rd_move rfl rfl) ?_
    refine Kj rfl (rd_move rfl rfl) ?_
    refine Kj rfl (rd_sidxD rfl rfl rfl Tryz.underlying22 ?_) ?_
    ·omega
    refine Kj rfl (rd_move rfl rfl) ?_
    refine Kj rfl (rd_move rfl rfl) ?_
    refine Kj rfl (rd_sidxD rfl rfl rfl Tryz.underlying22 ?_) ?_
    ·omega
    refine Kj rfl (rd_lss rfl rfl rfl) ?_
    refine WJ.nil ?_
    refine WL.nt ?_
    refine WC.cond rfl (fun hc35 => ?_) (fun hc35 => ?_)
    ·(try simp only [sB] at hc35)
     simp only [Int.toNat_natCast] at hc35
     refine WC.sr (Ka rfl (WL.nt (WC.ret (WX.then_ret (WX.block_ret (WX.then_ret (WX.then_ret (WX.block_ret (WX.then_ret ?_)))))))))
     exact WX.retN rfl (.tmp rfl .nil) fun w' hS => ⟨by rw [hoe, if_pos (by omega)]; rfl, hS.below⟩
    ·(try simp only [sB] at hc35)
     simp only [Int.toNat_natCast] at hc35
     refine WC.skip (WX.then_normal (WC.sr (Ka rfl (WL.nt (WC.ret (WX.block_ret (WX.then_ret (WX.then_ret (WX.block_ret (WX.then_ret ?_))))))))))
     exact WX.retN rfl (.tmp rfl .nil) fun w' hS => ⟨by rw [hoe, if_neg (by omega)]; rfl, hS.below⟩
   ·(try simp only [sB] at hc28)
    simp only [Int.toNat_natCast] at hc28
    refine WC.skip (WX.block_normal (WX.then_normal (WC.region (Km rfl ?_))))
    (refine Kq rfl (rd_add64nl rfl rfl rfl ?_) ?_; (focus (omega)))
    refine Ka rfl (WL.nil ?_)
    refine WX.loopP (i + 1) (by (try dsimp only); omega) (sub_cons rfl (sub_cons rfl (sub_nil _))) (by refine (sub_cons ?_ (sub_nil _)) <;> (rfl)) ?_ (by (exact fun _ h => h))
    (try dsimp only)
    exact ⟨by omega, take_sameB (by omega) (by omega) ht (by omega)⟩
  ·(try simp only [sB] at hc19)
   refine WC.exit (WX.then_exit (WX.then_exit (WX.block_exit ?_)))
   obtain rfl : i = a.length := by omega
   have hab : a = b := by rw [List.take_of_length_le (Nat.le_refl _), List.take_of_length_le (by omega)] at ht; exact ht
   refine WX.then_normal (WC.sr (Ka rfl (WL.nt (WC.ret ?_))))
   exact WX.retN rfl (.tmp rfl .nil) fun w' hS => ⟨by rw [hab]; simp [cmpI, tup], hS.below⟩
theorem rCmp_c {a b : Bs} {w : World} :
  Calls Tryz.prog 132 #[.string (S a), .string (S b)] w fun e w' => e = .returned (.int .i64 (cmpN a b)) ∧ Below w.heap.size w w' := by
 refine enter (S := St (fun _ => True) w [] ([])) (L := [(0, .string (S a)), (1, .string (S b))]) Tryz.func132 rfl Tryz.ntmps132 rfl (args_cons rfl (args_cons rfl (args_nil _))) (St.start (fun _ _ => trivial) facts_nil) ?_
 refine WC.sr (Ka rfl (WL.nt (WC.seq (WC.sr (Km rfl ?_)))))
 refine Kh rfl (og_call rfl rfl (by kernel_rfl) (keep_val fun w hS => rvalid_c)) ?_
 intro _
 refine Kq rfl (rd_not rfl rfl) (Km rfl ?_)
 refine WL.bool 8 rfl (fun hg8 => ?_) (fun hg8 => ?_)
 ·(try simp only [sB] at hg8)
  refine Kt rfl (Kt rfl (Kt rfl (Kq rfl (rd_pickt rfl rfl rfl) (WL.nt ?_))))
  refine WC.cond rfl (fun _ => ?_) (fun h => by cases h)
  refine WC.sr (Ka rfl (WL.nt (WC.ret (WX.then_ret ?_))))
  exact WX.retN rfl (.tmp rfl .nil) fun w' hS => ⟨by rw [cmpN, if_neg (by simp_all)]; rfl, hS.below⟩
 ·(try simp only [sB] at hg8)
  refine Km rfl ?_
  refine Kh rfl (og_call rfl rfl (by kernel_rfl) (keep_val fun w hS => rvalid_c)) ?_
  intro _
  refine Kq rfl (rd_not rfl rfl) (Kq rfl (rd_pickf rfl rfl rfl) (WL.nt ?_))
  refine WC.cond rfl (fun hc12 => ?_) (fun hc12 => ?_)
  ·(try simp only [sB] at hc12)
   refine WC.sr (Ka rfl (WL.nt (WC.ret (WX.then_ret ?_))))
   exact WX.retN rfl (.tmp rfl .nil) fun w' hS => ⟨by rw [cmpN, if_neg (by simp_all)]; rfl, hS.below⟩
  ·(try simp only [sB] at hc12)
   have hab : okN a ∧ okN b := by simp_all
   have hal := hab.1.1
   refine WC.skip (WX.then_normal (WC.sr (Km rfl (Km rfl ?_))))
   refine Kh rfl (og_call rfl rfl (by kernel_rfl) (keep_val fun w hS => order_c (a := a) (b := b) (by exact hab.1.2) (by exact hab.2.2) (by omega))) ?_
   intro _
   refine Ka rfl (WL.nt (WC.ret ?_))
   exact WX.retN rfl (.tmp rfl .nil) fun w' hS => ⟨by rw [cmpN, if_pos hab]; rfl, hS.below⟩
theorem plus_c {a b : Bs} {w : World} (hal : a.length ≤ 1000000) (hbl : b.length ≤ 1000000) :
  Calls Tryz.prog 131 #[.string (S a), .string (S b)] w fun e w' => e = .returned (.string (S (canon (val a + val b)))) ∧ Below w.heap.size w w' := by
 refine enter (S := St (fun _ => True) w [] ([])) (L := [(0, .string (S a)), (1, .string (S b))]) Tryz.func131 rfl Tryz.ntmps131 rfl (args_cons rfl (args_cons rfl (args_nil _))) (St.start (fun _ _ => trivial) facts_nil) ?_
 refine WC.sr (Ka rfl (WL.nt (WC.sr (Km rfl (Kq rfl (rd_slen rfl rfl Tryz.underlying22) (Km rfl (Kq rfl (rd_slen rfl rfl Tryz.underlying22) ?_)))))))
 refine Kq rfl (rd_max2 rfl rfl rfl) ?_
 refine WL.set 14 rfl (v' := .int .i64 ((max a.length b.length : Nat) : Int)) (congrArg (Value.int .i64) (by omega)) ?_
 (refine Kq rfl (rd_add64nl rfl rfl rfl ?_) ?_; (focus (omega)))
 obtain ⟨N, hN⟩ : ∃ N : Nat, N = max a.length b.length + 1 := ⟨_, rfl⟩
 refine WL.set 15 rfl (v' := .int .i64 (N : Int)) (by rw [hN]) ?_
 have hNl : N ≤ 1000001 := by omega
 have hS256 : val a + val b < 256 ^ N := by
  have h1 := val_lt a; have h2 := val_lt b
  have h3 : 256 ^ a.length ≤ 256 ^ (N - 1) := Nat.pow_le_pow_right (by decide) (by omega)
  have h4 : 256 ^ b.length ≤ 256 ^ (N - 1) := Nat.pow_le_pow_right (by decide) (by omega)
  have h5 : 256 ^ N = 256 ^ (N - 1) * 256 := by rw [← Nat.pow_succ]; congr 1; omega
  omega
 refine Ka rfl (WL.nt (WC.sr (Km rfl ?_)))
 refine Kh rfl (og_mk rfl rfl rfl Tryz.underlying128 (by kernel_rfl : _ = some (some (.int .u8 0), 1, 1)) rfl ?_ (by (try simp only [sN, Int.reduceToNat, Nat.reduceAdd, Nat.reduceMul, Nat.reduceSub]); rfl) (by (try simp only [sN, Int.reduceToNat, Nat.reduceAdd, Nat.reduceMul, Nat.reduceSub]); rfl)) ?_
 ·omega
 intro b17
 refine Ka rfl (WL.nt (WC.sr (Ka rfl ?_)))
 refine WL.set 7 rfl (v' := .int .i64 ((carryA (val a) (val b) 0 : Nat) : Int)) (congrArg (Value.int .i64) (by rw [carryA_zero]; rfl)) ?_
 refine WL.nt (WC.seq (WC.sr (Ka rfl (WL.nt (WC.block ?_)))))
 refine WC.loopO (σ := Nat) [(0, _), (1, _), (5, _), (6, _)] (fun gq => [(7, .int .i64 (carryA (val a) (val b) gq : Int)), (8, .int .i64 (gq : Int))]) (fun gq => gq ≤ N) (fun gq => N - gq) (fun gq => [⟨some b17, lowB N gq (val a + val b), 5⟩]) (fun gq => []) (0) (sub_cons rfl (sub_cons rfl (sub_cons rfl (sub_cons rfl (sub_nil _))))) (sub_cons rfl (sub_cons rfl (sub_nil _))) (by (try dsimp only); exact Nat.zero_le _) (by exact fun w h => by rw [lowB_zero]; exact h) ?_
 rintro k hinv1; (try dsimp only at hinv1 ⊢)
 obtain hk := hinv1
 refine WC.seq (WC.sr (Km rfl (Km rfl (Kq rfl (rd_lss rfl rfl rfl) (WL.nt ?_)))))
 refine WC.cond rfl (fun hc20 => ?_) (fun hc20 => ?_)
 ·(try simp only [sB] at hc20)
  have hc1 := carryA_le (val a) (val b) k
  have hd1 := Nat.mod_lt (val a / 256 ^ k) (show 0 < 256 by decide); have hd2 := Nat.mod_lt (val b / 256 ^ k) (show 0 < 256 by decide)
  refine WC.skip (WX.then_normal (WC.seq (WC.block (WC.sr (Km rfl (Km rfl ?_))))))
  refine Kh rfl (og_call rfl rfl (by kernel_rfl) (keep_val fun w hS => rat_c (a := a) (i := k) (by omega) (by omega))) ?_
  intro _
  refine Km rfl (Km rfl ?_)
  refine Kh rfl (og_call rfl rfl (by kernel_rfl) (keep_val fun w hS => rat_c (a := b) (i := k) (by omega) (by omega))) ?_
  intro _
  (refine Kq rfl (rd_add64n rfl rfl rfl ?_) ?_; (focus (omega)))
  refine Km rfl ?_
  (refine Kq rfl (rd_add64n rfl rfl rfl ?_) ?_; (focus (omega)))
  refine WL.set 31 rfl (v' := .int .i64 ((carryA (val a) (val b) k + val a / 256 ^ k % 256 + val b / 256 ^ k % 256 : Nat) : Int)) (congrArg (Value.int .i64) (by omega)) ?_
  refine Ka rfl (WL.nt (WC.sr (Km rfl (Km rfl ?_))))
  (refine Kq rfl (rd_sub64nl rfl rfl rfl ?_) ?_; (focus (omega)))
  refine Km rfl ?_
  (refine Kq rfl (rd_sub64n rfl rfl rfl ?_) ?_; (focus (omega)))
  refine WL.set 36 rfl (v' := .int .i64 ((N - 1 - k : Nat) : Int)) (congrArg (Value.int .i64) (by omega)) ?_
  refine Km rfl ?_
  (refine Kq rfl (rd_rem64nl rfl rfl rfl ?_) ?_; (focus (omega)))
  refine Kq rfl (rd_conv rfl rfl Tryz.underlying3 Tryz.underlying5) ?_
  refine WL.set 39 rfl (v' := B (UInt8.ofNat ((val a + val b) / 256 ^ k))) (by exact congrArg (Value.int .u8) (by rw [byte_mod8, sum_digit])) ?_
  (refine Kq rfl (rd_ia rfl rfl rfl Tryz.underlying128 (by kernel_rfl : _ = some 1) ?_ (by (try simp only [sN, Int.reduceToNat, Nat.reduceAdd, Nat.reduceMul, Nat.reduceSub]); rfl)) ?_; (focus (omega)))
  refine WL.g0 rfl rfl (st rfl rfl rfl .tc (by kernel_rfl) rfl ?_ (by rfl)) ?_
  ·rw [lowB_len _ _ _ (by omega)]; omega
  intro _
  refine WL.nt (WC.region (Km rfl ?_))
  (refine Kq rfl (rd_quo64nl rfl rfl rfl ?_) ?_; (focus (omega)))
  refine WL.set 42 rfl (v' := .int .i64 ((carryA (val a) (val b) (k + 1) : Nat) : Int)) (congrArg (Value.int .i64) (by rw [carryA_succ])) ?_
  refine Ka rfl (WL.nil (WX.block_normal (WX.then_normal (WC.region (Km rfl ?_)))))
  (refine Kq rfl (rd_add64nl rfl rfl rfl ?_) ?_; (focus (omega)))
  refine Ka rfl (WL.nil ?_)
  refine WX.loopO (k + 1) (by (try dsimp only); omega) (sub_cons rfl (sub_cons rfl (sub_cons rfl (sub_cons rfl (sub_nil _))))) (by refine (sub_cons ?_ (sub_cons ?_ (sub_nil _))) <;> (rfl)) ?_ (by exact fun w h => by rw [← lowB_set N k _ (by omega)]; exact h)
  (try dsimp only)
  omega
 ·(try simp only [sB] at hc20)
  refine WC.exit (WX.then_exit (WX.then_exit (WX.block_exit ?_)))
  obtain rfl : k = N := by omega
  rw [lowB_full]
  refine WX.then_normal (WC.sr (Km rfl ?_))
  refine Kh rfl (og_call rfl rfl (by kernel_rfl) (keep_val fun w hS => rtrim_c (b := be k (val a + val b)) (by (exact hS.os)) (by rw [be_len]) (by rw [be_len]; exact Nat.le_refl _) (by rw [be_len]; omega))) ?_
  intro _
  refine Ka rfl (WL.nt (WC.ret ?_))
  exact WX.retN rfl (.tmp rfl .nil) fun w' hS => ⟨by rw [val_be, Nat.mod_eq_of_lt hS256]; rfl, hS.below⟩
theorem minus_c {a b : Bs} {w : World} (hle : val b ≤ val a) (ha : a.length ≤ 1000000) (hb : b.length ≤ 1000000) :
  Calls Tryz.prog 125 #[.string (S a), .string (S b)] w fun e w' => e = .returned (.string (S (canon (val a - val b)))) ∧ Below w.heap.size w w' := by
 have hS256 : val a - val b < 256 ^ a.length := Nat.lt_of_le_of_lt (Nat.sub_le _ _) (val_lt a)
 refine enter (S := St (fun _ => True) w [] ([])) (L := [(0, .string (S a)), (1, .string (S b))]) Tryz.func125 rfl Tryz.ntmps125 rfl (args_cons rfl (args_cons rfl (args_nil _))) (St.start (fun _ _ => trivial) facts_nil) ?_
 refine WC.sr (Ka rfl (WL.nt (WC.sr (Km rfl (Kq rfl (rd_slen rfl rfl Tryz.underlying22) (Ka rfl (WL.nt (WC.sr (Km rfl ?_)))))))))
 refine Kh rfl (og_mk rfl rfl rfl Tryz.underlying128 (by kernel_rfl : _ = some (some (.int .u8 0), 1, 1)) rfl ?_ (by (try simp only [sN, Int.reduceToNat, Nat.reduceAdd, Nat.reduceMul, Nat.reduceSub]); rfl) (by (try simp only [sN, Int.reduceToNat, Nat.reduceAdd, Nat.reduceMul, Nat.reduceSub]); rfl)) ?_
 ·omega
 intro b13
 refine Ka rfl (WL.nt (WC.sr (Ka rfl ?_)))
 refine WL.set 7 rfl (v' := .int .i64 ((borrowB (val a) (val b) 0 : Nat) : Int)) (congrArg (Value.int .i64) (by rw [borrowB_zero]; rfl)) ?_
 refine WL.nt (WC.seq (WC.sr (Ka rfl (WL.nt (WC.block ?_)))))
 refine WC.loopO (σ := Nat) [(0, _), (1, _), (5, _), (6, _)] (fun gq => [(7, .int .i64 (borrowB (val a) (val b) gq : Int)), (8, .int .i64 (gq : Int))]) (fun gq => gq ≤ a.length) (fun gq => a.length - gq) (fun gq => [⟨some b13, lowB a.length gq (val a - val b), 5⟩]) (fun gq => []) (0) (sub_cons rfl (sub_cons rfl (sub_cons rfl (sub_cons rfl (sub_nil _))))) (sub_cons rfl (sub_cons rfl (sub_nil _))) (by (try dsimp only); exact Nat.zero_le _) (by exact fun w h => by rw [lowB_zero]; exact h) ?_
 rintro k hinv1; (try dsimp only at hinv1 ⊢)
 obtain hk := hinv1
 refine WC.seq (WC.sr (Km rfl (Km rfl (Kq rfl (rd_lss rfl rfl rfl) (WL.nt ?_)))))
 refine WC.cond rfl (fun hc16 => ?_) (fun hc16 => ?_)
 ·(try simp only [sB] at hc16)
  have hc1 := borrow_le (val a) (val b) k
  have hd1 := Nat.mod_lt (val a / 256 ^ k) (show 0 < 256 by decide); have hd2 := Nat.mod_lt (val b / 256 ^ k) (show 0 < 256 by decide)
  refine WC.skip (WX.then_normal (WC.seq (WC.block (WC.sr (Km rfl (Km rfl ?_))))))
  refine Kh rfl (og_call rfl rfl (by kernel_rfl) (keep_val fun w hS => rat_c (a := a) (i := k) (by omega) (by omega))) ?_
  intro _
  refine Km rfl (Km rfl ?_)
  refine Kh rfl (og_call rfl rfl (by kernel_rfl) (keep_val fun w hS => rat_c (a := b) (i := k) (by omega) (by omega))) ?_
  intro _
  (refine Kq rfl (rd_sub64 rfl rfl rfl ?_) ?_; (focus (omega)))
  refine WL.set 25 rfl (v' := .int .i64 ((((val a / 256 ^ k % 256 : Nat) : Int) - ((val b / 256 ^ k % 256 : Nat) : Int)))) (congrArg (Value.int .i64) (by omega)) ?_
  refine Km rfl ?_
  (refine Kq rfl (rd_sub64 rfl rfl rfl ?_) ?_; (focus (omega)))
  refine Ka rfl (WL.nt (WC.sr (Ka rfl (WL.nt (WC.seq (WC.sr (Km rfl (Kq rfl (rd_lss rfl rfl rfl) (WL.nt ?_)))))))))
  refine WC.cond rfl (fun hc29 => ?_) (fun hc29 => ?_)
  ·(try simp only [sB] at hc29)
   refine WC.sr (Km rfl ?_)
   (refine Kq rfl (rd_add64 rfl rfl rfl ?_) ?_; (focus (omega)))
   refine Ka rfl (WL.nt (WC.region (Ka rfl (WL.nt (WC.region ?_)))))
   refine WL.set 7 rfl (v' := .int .i64 (borrowB (val a) (val b) (k + 1) : Int)) (congrArg (Value.int .i64) (by rw [borrow_succ]; (rw [if_pos (by omega)]; rfl))) ?_
   refine Km rfl (Km rfl ?_)
   (refine Kq rfl (rd_sub64nl rfl rfl rfl ?_) ?_; (focus (omega)))
   refine Km rfl ?_
   (refine Kq rfl (rd_sub64n rfl rfl rfl ?_) ?_; (focus (omega)))
   refine WL.set 36 rfl (v' := .int .i64 ((a.length - 1 - k : Nat) : Int)) (congrArg (Value.int .i64) (by omega)) ?_
   refine Km rfl ?_
   refine Kq rfl (rd_conv rfl rfl Tryz.underlying3 Tryz.underlying5) ?_
   refine WL.set 38 rfl (v' := B (UInt8.ofNat ((val a - val b) / 256 ^ k))) (by exact congrArg (Value.int .u8) (sub_byte hle k _ (by omega))) ?_
   (refine Kq rfl (rd_ia rfl rfl rfl Tryz.underlying128 (by kernel_rfl : _ = some 1) ?_ (by (try simp only [sN, Int.reduceToNat, Nat.reduceAdd, Nat.reduceMul, Nat.reduceSub]); rfl)) ?_; (focus (omega)))
   refine WL.g0 rfl rfl (st rfl rfl rfl .tc (by kernel_rfl) rfl ?_ (by rfl)) ?_
   ·rw [lowB_len _ _ _ (by omega)]; omega
   intro _
   refine WL.nil (WX.block_normal (WX.then_normal (WC.region (Km rfl ?_))))
   (refine Kq rfl (rd_add64nl rfl rfl rfl ?_) ?_; (focus (omega)))
   refine Ka rfl (WL.nil ?_)
   refine WX.loopO (k + 1) (by (try dsimp only); omega) (sub_cons rfl (sub_cons rfl (sub_cons rfl (sub_cons rfl (sub_nil _))))) (by refine (sub_cons ?_ (sub_cons ?_ (sub_nil _))) <;> (rfl)) ?_ (by exact fun w h => by rw [← lowB_set a.length k _ (by omega)]; exact h)
   (try dsimp only)
   omega
  ·(try simp only [sB] at hc29)
   refine WC.skip (WX.then_normal (WC.region ?_))
   refine WL.set 7 rfl (v' := .int .i64 (borrowB (val a) (val b) (k + 1) : Int)) (congrArg (Value.int .i64) (by rw [borrow_succ]; (rw [if_neg (by omega)]; rfl))) ?_
   refine Km rfl (Km rfl ?_)
   (refine Kq rfl (rd_sub64nl rfl rfl rfl ?_) ?_; (focus (omega)))
   refine Km rfl ?_
   (refine Kq rfl (rd_sub64n rfl rfl rfl ?_) ?_; (focus (omega)))
   refine WL.set 36 rfl (v' := .int .i64 ((a.length - 1 - k : Nat) : Int)) (congrArg (Value.int .i64) (by omega)) ?_
   refine Km rfl ?_
   refine Kq rfl (rd_conv rfl rfl Tryz.underlying3 Tryz.underlying5) ?_
   refine WL.set 38 rfl (v' := B (UInt8.ofNat ((val a - val b) / 256 ^ k))) (by exact congrArg (Value.int .u8) (sub_byte hle k _ (by omega))) ?_
   (refine Kq rfl (rd_ia rfl rfl rfl Tryz.underlying128 (by kernel_rfl : _ = some 1) ?_ (by (try simp only [sN, Int.reduceToNat, Nat.reduceAdd, Nat.reduceMul, Nat.reduceSub]); rfl)) ?_; (focus (omega)))
   refine WL.g0 rfl rfl (st rfl rfl rfl .tc (by kernel_rfl) rfl ?_ (by rfl)) ?_
   ·rw [lowB_len _ _ _ (by omega)]; omega
   intro _
   refine WL.nil (WX.block_normal (WX.then_normal (WC.region (Km rfl ?_))))
   (refine Kq rfl (rd_add64nl rfl rfl rfl ?_) ?_; (focus (omega)))
   refine Ka rfl (WL.nil ?_)
   refine WX.loopO (k + 1) (by (try dsimp only); omega) (sub_cons rfl (sub_cons rfl (sub_cons rfl (sub_cons rfl (sub_nil _))))) (by refine (sub_cons ?_ (sub_cons ?_ (sub_nil _))) <;> (rfl)) ?_ (by exact fun w h => by rw [← lowB_set a.length k _ (by omega)]; exact h)
   (try dsimp only)
   omega
 ·(try simp only [sB] at hc16)
  refine WC.exit (WX.then_exit (WX.then_exit (WX.block_exit ?_)))
  obtain rfl : k = a.length := by omega
  rw [lowB_full]
  refine WX.then_normal (WC.sr (Km rfl ?_))
  refine Kh rfl (og_call rfl rfl (by kernel_rfl) (keep_val fun w hS => rtrim_c (b := be a.length (val a - val b)) (by (exact hS.os)) (by rw [be_len]) (by rw [be_len]; exact Nat.le_refl _) (by rw [be_len]; omega))) ?_
  intro _
  refine Ka rfl (WL.nt (WC.ret ?_))
  exact WX.retN rfl (.tmp rfl .nil) fun w' hS => ⟨by rw [val_be, Nat.mod_eq_of_lt hS256]; rfl, hS.below⟩
theorem fit_c {a : Bs} {w : World} :
  Calls Tryz.prog 129 #[.string (S a)] w fun e w' => e = .returned (.tuple #[.string (S (if 128 < a.length then [] else a)), .int .i64 (if 128 < a.length then 5 else 0)]) ∧ Below w.heap.size w w' := by
 refine enter (S := St (fun _ => True) w [] ([])) (L := [(0, .string (S a))]) Tryz.func129 rfl Tryz.ntmps129 rfl (args_cons rfl (args_nil _)) (St.start (fun _ _ => trivial) facts_nil) ?_
 refine WC.sr (Ka rfl (Ka rfl (WL.nt (WC.seq (WC.sr (Km rfl (Kq rfl (rd_slen rfl rfl Tryz.underlying22) (Kq rfl (rd_gtr rfl rfl rfl) (WL.nt ?_)))))))))
 refine WC.cond rfl (fun hc6 => ?_) (fun hc6 => ?_)
 ·(try simp only [sB] at hc6)
  refine WC.sr (Ka rfl (Ka rfl (WL.nt (WC.ret (WX.then_ret ?_)))))
  exact WX.retN rfl (.tmp rfl (.tmp rfl .nil)) fun w' hS => ⟨by rw [if_pos (by omega), if_pos (by omega)]; rfl, hS.below⟩
 ·(try simp only [sB] at hc6)
  refine WC.skip (WX.then_normal (WC.sr (Km rfl (Ka rfl (Ka rfl (WL.nt (WC.ret ?_)))))))
  exact WX.retN rfl (.tmp rfl (.tmp rfl .nil)) fun w' hS => ⟨by rw [if_neg (by omega), if_neg (by omega)]; rfl, hS.below⟩
theorem fit_add {a b : Bs} (hab : okN a ∧ okN b) : (if 128 < (canon (val a + val b)).length then ([] : Bs) else canon (val a + val b)) = (addN a b).1 ∧ (if 128 < (canon (val a + val b)).length then (5 : Int) else 0) = (addN a b).2 := by
 rw [addN, if_pos hab]
 by_cases h : val a + val b < Big
 ·have hl := canon_big.2 h
  rw [if_neg (show ¬ 128 < (canon (val a + val b)).length by omega), if_neg (show ¬ 128 < (canon (val a + val b)).length by omega), if_pos h]; exact ⟨rfl, rfl⟩
 ·have hl : ¬ (canon (val a + val b)).length ≤ 128 := fun h' => h (canon_big.1 h')
  rw [if_pos (show 128 < (canon (val a + val b)).length by omega), if_pos (show 128 < (canon (val a + val b)).length by omega), if_neg h]; exact ⟨rfl, rfl⟩
theorem radd_c {a b : Bs} {w : World} :
  Calls Tryz.prog 102 #[.string (S a), .string (S b)] w fun e w' => e = .returned (NE (addN a b)) ∧ Below w.heap.size w w' := by
 refine enter (S := St (fun _ => True) w [] ([])) (L := [(0, .string (S a)), (1, .string (S b))]) Tryz.func102 rfl Tryz.ntmps102 rfl (args_cons rfl (args_cons rfl (args_nil _))) (St.start (fun _ _ => trivial) facts_nil) ?_
 refine WC.sr (Ka rfl (Ka rfl (WL.nt (WC.seq (WC.sr (Km rfl ?_))))))
 refine Kh rfl (og_call rfl rfl (by kernel_rfl) (keep_val fun w hS => rvalid_c)) ?_
 intro _
 refine Kq rfl (rd_not rfl rfl) (Km rfl ?_)
 refine WL.bool 9 rfl (fun hg9 => ?_) (fun hg9 => ?_)
 ·(try simp only [sB] at hg9)
  refine Kt rfl (Kt rfl (Kt rfl (Kq rfl (rd_pickt rfl rfl rfl) (WL.nt ?_))))
  refine WC.cond rfl (fun _ => ?_) (fun h => by cases h)
  refine WC.sr (Ka rfl (Ka rfl (WL.nt (WC.ret (WX.then_ret ?_)))))
  exact WX.retN rfl (.tmp rfl (.tmp rfl .nil)) fun w' hS => ⟨by rw [addN, if_neg (by simp_all)]; rfl, hS.below⟩
 ·(try simp only [sB] at hg9)
  refine Km rfl ?_
  refine Kh rfl (og_call rfl rfl (by kernel_rfl) (keep_val fun w hS => rvalid_c)) ?_
  intro _
  refine Kq rfl (rd_not rfl rfl) (Kq rfl (rd_pickf rfl rfl rfl) (WL.nt ?_))
  refine WC.cond rfl (fun hc13 => ?_) (fun hc13 => ?_)
  ·(try simp only [sB] at hc13)
   refine WC.sr (Ka rfl (Ka rfl (WL.nt (WC.ret (WX.then_ret ?_)))))
   exact WX.retN rfl (.tmp rfl (.tmp rfl .nil)) fun w' hS => ⟨by rw [addN, if_neg (by simp_all)]; rfl, hS.below⟩
  ·(try simp only [sB] at hc13)
   have hab : okN a ∧ okN b := by simp_all
   have hal := hab.1.1; have hbl := hab.2.1
   have hcl := fit_add hab
   refine WC.skip (WX.then_normal (WC.sr (Km rfl (Km rfl ?_))))
   refine Kh rfl (og_call rfl rfl (by kernel_rfl) (keep_val fun w hS => plus_c (a := a) (b := b) (by omega) (by omega))) ?_
   intro _
   refine Kh rfl (og_call rfl rfl (by kernel_rfl) (keep_val fun w hS => fit_c)) ?_
   intro _
   refine Kq rfl (rd_extL rfl rfl rfl) (Kq rfl (rd_extL rfl rfl rfl) (Ka rfl (Ka rfl (WL.nt (WC.ret ?_)))))
   exact WX.retN rfl (.tmp rfl (.tmp rfl .nil)) fun w' hS => ⟨by simp only [tup, NE]; rw [← hcl.1, ← hcl.2], hS.below⟩
theorem rsub_c {a b : Bs} {w : World} :
  Calls Tryz.prog 133 #[.string (S a), .string (S b)] w fun e w' => e = .returned (NE (subN a b)) ∧ Below w.heap.size w w' := by
 refine enter (S := St (fun _ => True) w [] ([])) (L := [(0, .string (S a)), (1, .string (S b))]) Tryz.func133 rfl Tryz.ntmps133 rfl (args_cons rfl (args_cons rfl (args_nil _))) (St.start (fun _ _ => trivial) facts_nil) ?_
 refine WC.sr (Ka rfl (Ka rfl (WL.nt (WC.seq (WC.sr (Km rfl ?_))))))
 refine Kh rfl (og_call rfl rfl (by kernel_rfl) (keep_val fun w hS => rvalid_c)) ?_
 intro _
 refine Kq rfl (rd_not rfl rfl) (Km rfl ?_)
 refine WL.bool 9 rfl (fun hg9 => ?_) (fun hg9 => ?_)
 ·(try simp only [sB] at hg9)
  refine Kt rfl (Kt rfl (Kt rfl (Kq rfl (rd_pickt rfl rfl rfl) (WL.nt ?_))))
  refine WC.cond rfl (fun _ => ?_) (fun h => by cases h)
  refine WC.sr (Ka rfl (Ka rfl (WL.nt (WC.ret (WX.then_ret ?_)))))
  exact WX.retN rfl (.tmp rfl (.tmp rfl .nil)) fun w' hS => ⟨by rw [subN, if_neg (by simp_all)]; rfl, hS.below⟩
 ·(try simp only [sB] at hg9)
  refine Km rfl ?_
  refine Kh rfl (og_call rfl rfl (by kernel_rfl) (keep_val fun w hS => rvalid_c)) ?_
  intro _
  refine Kq rfl (rd_not rfl rfl) (Kq rfl (rd_pickf rfl rfl rfl) (WL.nt ?_))
  refine WC.cond rfl (fun hc13 => ?_) (fun hc13 => ?_)
  ·(try simp only [sB] at hc13)
   refine WC.sr (Ka rfl (Ka rfl (WL.nt (WC.ret (WX.then_ret ?_)))))
   exact WX.retN rfl (.tmp rfl (.tmp rfl .nil)) fun w' hS => ⟨by rw [subN, if_neg (by simp_all)]; rfl, hS.below⟩
  ·(try simp only [sB] at hc13)
   have hab : okN a ∧ okN b := by simp_all
   have hal := hab.1.1; have hbl := hab.2.1
   refine WC.skip (WX.then_normal (WC.seq (WC.sr (Km rfl (Km rfl ?_)))))
   refine Kh rfl (og_call rfl rfl (by kernel_rfl) (keep_val fun w hS => order_c (a := a) (b := b) (by exact hab.1.2) (by exact hab.2.2) (by omega))) ?_
   intro _
   refine Kq rfl (rd_lss rfl rfl rfl) (WL.nt ?_)
   refine WC.cond rfl (fun hc17 => ?_) (fun hc17 => ?_)
   ·(try simp only [sB] at hc17)
    rw [cmpI_neg] at hc17
    refine WC.sr (Ka rfl (Ka rfl (WL.nt (WC.ret (WX.then_ret ?_)))))
    exact WX.retN rfl (.tmp rfl (.tmp rfl .nil)) fun w' hS => ⟨by rw [subN, if_pos hab, if_pos hc17]; rfl, hS.below⟩
   ·(try simp only [sB] at hc17)
    have hle : val b ≤ val a := Nat.not_lt.1 fun h => by have := (cmpI_neg _ _).2 h; omega
    refine WC.skip (WX.then_normal (WC.sr (Km rfl (Km rfl ?_))))
    refine Kh rfl (og_call rfl rfl (by kernel_rfl) (keep_val fun w hS => minus_c (a := a) (b := b) (by assumption) (by omega) (by omega))) ?_
    intro _
    refine Ka rfl (Ka rfl (WL.nt (WC.ret ?_)))
    exact WX.retN rfl (.tmp rfl (.tmp rfl .nil)) fun w' hS => ⟨by rw [subN, if_pos hab, if_neg (by omega)]; rfl, hS.below⟩
end Go.Proofs.YtnimhldbblfgbaaGreat
namespace Go.Proofs.YtnimhldbblfgbaaGreat
set_option linter.unusedSimpArgs false
set_option linter.unusedVariables false
set_option maxRecDepth 20000
set_option maxHeartbeats 600000
open Go.RowKit
/-- an integer: its sign and its magnitude -/
abbrev Zs := Bool × Bs
abbrev zV (x : Zs) : Value := .agg #[.bool x.1, .string (S x.2)]
def okZ (x : Zs) : Prop := okN x.2 ∧ ¬ (x.1 = true ∧ x.2 = [])
instance (x : Zs) : Decidable (okZ x) := inferInstanceAs (Decidable (_ ∧ _))
def mkZ (n : Bool) (a : Bs) : Zs := (n && !decide (a = []), a)
def negZ (x : Zs) : Zs := if okZ x then mkZ (!x.1) x.2 else (false, [])
def addZ (x y : Zs) : Zs × Int :=
 if okZ x ∧ okZ y then
  (if x.1 = y.1 then (mkZ x.1 (addN x.2 y.2).1, (addN x.2 y.2).2)
   else if val x.2 < val y.2 then (mkZ y.1 (canon (val y.2 - val x.2)), 0) else (mkZ x.1 (canon (val x.2 - val y.2)), 0))
 else ((false, []), 3)
def subZ (x y : Zs) : Zs × Int := if okZ x ∧ okZ y then addZ x (negZ y) else ((false, []), 3)
abbrev ZE (r : Zs × Int) : Value := .tuple #[zV r.1, .int .i64 r.2]
theorem made_c {n : Bool} {a : Bs} {w : World} :
  Calls Tryz.prog 78 #[.bool n, .string (S a)] w fun e w' => e = .returned (zV (mkZ n a)) ∧ Below w.heap.size w w' := by
 refine enter (S := St (fun _ => True) w [] ([])) (L := [(0, .bool n), (1, .string (S a))]) Tryz.func78 rfl Tryz.ntmps78 rfl (args_cons rfl (args_cons rfl (args_nil _))) (St.start (fun _ _ => trivial) facts_nil) ?_
 refine WC.sr ?_
 refine Kh rfl (og_alloc rfl (v := (.agg #[.bool false, .string (S [])])) (cs := [.bool false, .string (S [])]) (by kernel_rfl) rfl) ?_
 intro b4
 refine WL.nt (WC.sr (Km rfl (Km rfl ?_)))
 refine WL.bool 6 rfl (fun hg6 => ?_) (fun hg6 => ?_)
 ·(try simp only [sB] at hg6)
  refine Km rfl (Kq rfl (rd_sne rfl rfl rfl) (Kq rfl (rd_pickt rfl rfl rfl) (Km rfl ?_)))
  refine Kq rfl (rd_bld [[.bool false], [.string (S [])]] rfl rfl (by simp only [bld, fldv, Nat.beq, Value.cells, cond_true, cond_false, List.nil_append, List.cons_append, List.append_nil]; rfl) (fun w => by kernel_rfl)) ?_
  refine WL.g0 rfl rfl (sta rfl rfl rfl .tc ?_ ?_ ?_) ?_
  ·kernel_rfl
  ·simp [Value.oneCell']
  ·rfl
  intro _
  refine WL.nt (WC.ret ?_)
  exact WX.retN rfl (.agg rfl .tc Tryz.underlying45 rfl (by kernel_rfl) .nil) fun w' hS => ⟨by (simp [*, tup, mkZ]; done), hS.below⟩
 ·(try simp only [sB] at hg6)
  refine Kt rfl (Kt rfl (Kq rfl (rd_pickf rfl rfl rfl) (Km rfl ?_)))
  refine Kq rfl (rd_bld [[.bool false], [.string (S [])]] rfl rfl (by simp only [bld, fldv, Nat.beq, Value.cells, cond_true, cond_false, List.nil_append, List.cons_append, List.append_nil]; rfl) (fun w => by kernel_rfl)) ?_
  refine WL.g0 rfl rfl (sta rfl rfl rfl .tc ?_ ?_ ?_) ?_
  ·kernel_rfl
  ·simp [Value.oneCell']
  ·rfl
  intro _
  refine WL.nt (WC.ret ?_)
  exact WX.retN rfl (.agg rfl .tc Tryz.underlying45 rfl (by kernel_rfl) .nil) fun w' hS => ⟨by (simp [*, tup, mkZ]; done), hS.below⟩
theorem rmake_c {n : Bool} {a : Bs} {w : World} :
  Calls Tryz.prog 104 #[.bool n, .string (S a)] w fun e w' => e = .returned (zV (mkZ n a)) ∧ Below w.heap.size w w' := by
 refine enter (S := St (fun _ => True) w [] ([])) (L := [(0, .bool n), (1, .string (S a))]) Tryz.func104 rfl Tryz.ntmps104 rfl (args_cons rfl (args_cons rfl (args_nil _))) (St.start (fun _ _ => trivial) facts_nil) ?_
 refine WC.sr ?_
 refine Kh rfl (og_alloc rfl (v := (.agg #[.bool false, .string (S [])])) (cs := [.bool false, .string (S [])]) (by kernel_rfl) rfl) ?_
 intro b4
 refine WL.nt (WC.sr (Km rfl (Km rfl ?_)))
 refine WL.bool 6 rfl (fun hg6 => ?_) (fun hg6 => ?_)
 ·(try simp only [sB] at hg6)
  refine Km rfl (Kq rfl (rd_sne rfl rfl rfl) (Kq rfl (rd_pickt rfl rfl rfl) (Km rfl ?_)))
  refine Kq rfl (rd_bld [[.bool false], [.string (S [])]] rfl rfl (by simp only [bld, fldv, Nat.beq, Value.cells, cond_true, cond_false, List.nil_append, List.cons_append, List.append_nil]; rfl) (fun w => by kernel_rfl)) ?_
  refine WL.g0 rfl rfl (sta rfl rfl rfl .tc ?_ ?_ ?_) ?_
  ·kernel_rfl
  ·simp [Value.oneCell']
  ·rfl
  intro _
  refine WL.nt (WC.ret ?_)
  exact WX.retN rfl (.agg rfl .tc Tryz.underlying45 rfl (by kernel_rfl) .nil) fun w' hS => ⟨by (simp [*, tup, mkZ]; done), hS.below⟩
 ·(try simp only [sB] at hg6)
  refine Kt rfl (Kt rfl (Kq rfl (rd_pickf rfl rfl rfl) (Km rfl ?_)))
  refine Kq rfl (rd_bld [[.bool false], [.string (S [])]] rfl rfl (by simp only [bld, fldv, Nat.beq, Value.cells, cond_true, cond_false, List.nil_append, List.cons_append, List.append_nil]; rfl) (fun w => by kernel_rfl)) ?_
  refine WL.g0 rfl rfl (sta rfl rfl rfl .tc ?_ ?_ ?_) ?_
  ·kernel_rfl
  ·simp [Value.oneCell']
  ·rfl
  intro _
  refine WL.nt (WC.ret ?_)
  exact WX.retN rfl (.agg rfl .tc Tryz.underlying45 rfl (by kernel_rfl) .nil) fun w' hS => ⟨by (simp [*, tup, mkZ]; done), hS.below⟩
theorem zvalid_c {x : Zs} {w : World} :
  Calls Tryz.prog 65 #[zV x] w fun e w' => e = .returned (.bool (decide (okZ x))) ∧ Below w.heap.size w w' := by
 refine enter (S := St (fun _ => True) w [] ([])) (L := [(0, zV x)]) Tryz.func65 rfl Tryz.ntmps65 rfl (args_cons rfl (args_nil _)) (St.start (fun _ _ => trivial) facts_nil) ?_
 refine WC.sr ?_
 refine Kh rfl (og_box rfl rfl (by (exact cells_agg _))) ?_
 intro b1
 refine Ka rfl (WL.nt (WC.sr ?_))
 refine Kq rfl (rd_fa (q := 1) rfl rfl Tryz.underlying45 rfl (by kernel_rfl) rfl) ?_
 refine Kq rfl (ld rfl rfl .tc Tryz.underlying22 rfl (by rfl)) ?_
 refine Kh rfl (og_call rfl rfl (by kernel_rfl) (keep_val fun w hS => valid_c (a := x.2))) ?_
 intro _
 refine Km rfl ?_
 refine WL.bool 6 rfl (fun hg6 => ?_) (fun hg6 => ?_)
 ·(try simp only [sB] at hg6)
  refine Kq rfl (rd_fa (q := 0) rfl rfl Tryz.underlying45 rfl (by kernel_rfl) rfl) ?_
  refine Kq rfl (ld rfl rfl .tc Tryz.underlying4 rfl (by rfl)) ?_
  refine Km rfl ?_
  refine WL.bool 9 rfl (fun hg9 => ?_) (fun hg9 => ?_)
  ·(try simp only [sB] at hg9)
   refine Kq rfl (rd_fa (q := 1) rfl rfl Tryz.underlying45 rfl (by kernel_rfl) rfl) ?_
   refine Kq rfl (ld rfl rfl .tc Tryz.underlying22 rfl (by rfl)) ?_
   refine Kq rfl (rd_seq rfl rfl rfl) (Kq rfl (rd_pickt rfl rfl rfl) (Kq rfl (rd_not rfl rfl) (Kq rfl (rd_pickt rfl rfl rfl) (Ka rfl (WL.nt (WC.ret ?_))))))
   exact WX.retN rfl (.tmp rfl .nil) fun w' hS => ⟨by (simp [*, tup, okZ]; done), hS.below⟩
  ·(try simp only [sB] at hg9)
   refine Kt rfl (Kt rfl (Kt rfl (Kq rfl (rd_pickf rfl rfl rfl) (Kq rfl (rd_not rfl rfl) (Kq rfl (rd_pickt rfl rfl rfl) (Ka rfl (WL.nt (WC.ret ?_))))))))
   exact WX.retN rfl (.tmp rfl .nil) fun w' hS => ⟨by (simp [*, tup, okZ]; done), hS.below⟩
 ·(try simp only [sB] at hg6)
  refine Kt rfl (Kt rfl (Kt rfl (Kt rfl (Kt rfl (Kt rfl (Kt rfl (Kt rfl (Kq rfl (rd_pickf rfl rfl rfl) (Ka rfl (WL.nt (WC.ret ?_)))))))))))
  exact WX.retN rfl (.tmp rfl .nil) fun w' hS => ⟨by (simp [*, tup, okZ]; done), hS.below⟩
theorem rzvalid_c {x : Zs} {w : World} :
  Calls Tryz.prog 67 #[zV x] w fun e w' => e = .returned (.bool (decide (okZ x))) ∧ Below w.heap.size w w' := by
 refine enter (S := St (fun _ => True) w [] ([])) (L := [(0, zV x)]) Tryz.func67 rfl Tryz.ntmps67 rfl (args_cons rfl (args_nil _)) (St.start (fun _ _ => trivial) facts_nil) ?_
 refine WC.sr ?_
 refine Kh rfl (og_box rfl rfl (by (exact cells_agg _))) ?_
 intro b1
 refine Ka rfl (WL.nt (WC.sr ?_))
 refine Kq rfl (rd_fa (q := 1) rfl rfl Tryz.underlying45 rfl (by kernel_rfl) rfl) ?_
 refine Kq rfl (ld rfl rfl .tc Tryz.underlying22 rfl (by rfl)) ?_
 refine Kh rfl (og_call rfl rfl (by kernel_rfl) (keep_val fun w hS => rvalid_c (a := x.2))) ?_
 intro _
 refine Km rfl ?_
 refine WL.bool 6 rfl (fun hg6 => ?_) (fun hg6 => ?_)
 ·(try simp only [sB] at hg6)
  refine Kq rfl (rd_fa (q := 0) rfl rfl Tryz.underlying45 rfl (by kernel_rfl) rfl) ?_
  refine Kq rfl (ld rfl rfl .tc Tryz.underlying4 rfl (by rfl)) ?_
  refine Km rfl ?_
  refine WL.bool 9 rfl (fun hg9 => ?_) (fun hg9 => ?_)
  ·(try simp only [sB] at hg9)
   refine Kq rfl (rd_fa (q := 1) rfl rfl Tryz.underlying45 rfl (by kernel_rfl) rfl) ?_
   refine Kq rfl (ld rfl rfl .tc Tryz.underlying22 rfl (by rfl)) ?_
   refine Kq rfl (rd_seq rfl rfl rfl) (Kq rfl (rd_pickt rfl rfl rfl) (Kq rfl (rd_not rfl rfl) (Kq rfl (rd_pickt rfl rfl rfl) (Ka rfl (WL.nt (WC.ret ?_))))))
   exact WX.retN rfl (.tmp rfl .nil) fun w' hS => ⟨by (simp [*, tup, okZ]; done), hS.below⟩
  ·(try simp only [sB] at hg9)
   refine Kt rfl (Kt rfl (Kt rfl (Kq rfl (rd_pickf rfl rfl rfl) (Kq rfl (rd_not rfl rfl) (Kq rfl (rd_pickt rfl rfl rfl) (Ka rfl (WL.nt (WC.ret ?_))))))))
   exact WX.retN rfl (.tmp rfl .nil) fun w' hS => ⟨by (simp [*, tup, okZ]; done), hS.below⟩
 ·(try simp only [sB] at hg6)
  refine Kt rfl (Kt rfl (Kt rfl (Kt rfl (Kt rfl (Kt rfl (Kt rfl (Kt rfl (Kq rfl (rd_pickf rfl rfl rfl) (Ka rfl (WL.nt (WC.ret ?_)))))))))))
  exact WX.retN rfl (.tmp rfl .nil) fun w' hS => ⟨by (simp [*, tup, okZ]; done), hS.below⟩
theorem both_c {x y : Zs} {w : World} :
  Calls Tryz.prog 77 #[zV x, zV y] w fun e w' => e = .returned (.bool (decide (okZ x ∧ okZ y))) ∧ Below w.heap.size w w' := by
 refine enter (S := St (fun _ => True) w [] ([])) (L := [(0, zV x), (1, zV y)]) Tryz.func77 rfl Tryz.ntmps77 rfl (args_cons rfl (args_cons rfl (args_nil _))) (St.start (fun _ _ => trivial) facts_nil) ?_
 refine WC.sr ?_
 refine Kh rfl (og_box rfl rfl (by (exact cells_agg _))) ?_
 intro b2
 refine Kh rfl (og_box rfl rfl (by (exact cells_agg _))) ?_
 intro b3
 refine Ka rfl (WL.nt (WC.sr ?_))
 refine Kq rfl (lda rfl rfl .tc Tryz.underlying45 rfl ?_) ?_
 ·kernel_rfl
 refine Kh rfl (og_call rfl rfl (by kernel_rfl) (keep_val fun w hS => zvalid_c (x := x))) ?_
 intro _
 refine Km rfl ?_
 refine WL.bool 7 rfl (fun hg7 => ?_) (fun hg7 => ?_)
 ·(try simp only [sB] at hg7)
  refine Kq rfl (lda rfl rfl .tc Tryz.underlying45 rfl ?_) ?_
  ·kernel_rfl
  refine Kh rfl (og_call rfl rfl (by kernel_rfl) (keep_val fun w hS => zvalid_c (x := y))) ?_
  intro _
  refine Kq rfl (rd_pickt rfl rfl rfl) (Ka rfl (WL.nt (WC.ret ?_)))
  exact WX.retN rfl (.tmp rfl .nil) fun w' hS => ⟨by (simp [*, tup]; done), hS.below⟩
 ·(try simp only [sB] at hg7)
  refine Kt rfl (Kt rfl (Kq rfl (rd_pickf rfl rfl rfl) (Ka rfl (WL.nt (WC.ret ?_)))))
  exact WX.retN rfl (.tmp rfl .nil) fun w' hS => ⟨by (simp [*, tup]; done), hS.below⟩
theorem zneg_c {x : Zs} {w : World} :
  Calls Tryz.prog 103 #[zV x] w fun e w' => e = .returned (zV (negZ x)) ∧ Below w.heap.size w w' := by
 refine enter (S := St (fun _ => True) w [] ([])) (L := [(0, zV x)]) Tryz.func103 rfl Tryz.ntmps103 rfl (args_cons rfl (args_nil _)) (St.start (fun _ _ => trivial) facts_nil) ?_
 refine WC.sr ?_
 refine Kh rfl (og_box rfl rfl (by (exact cells_agg _))) ?_
 intro b1
 refine Kh rfl (og_alloc rfl (v := (.agg #[.bool false, .string (S [])])) (cs := [.bool false, .string (S [])]) (by kernel_rfl) rfl) ?_
 intro b2
 refine WL.nt (WC.seq (WC.sr ?_))
 refine Kq rfl (lda rfl rfl .tc Tryz.underlying45 rfl ?_) ?_
 ·kernel_rfl
 refine Kh rfl (og_call rfl rfl (by kernel_rfl) (keep_val fun w hS => zvalid_c (x := x))) ?_
 intro _
 refine Kq rfl (rd_not rfl rfl) (WL.nt ?_)
 refine WC.cond rfl (fun hc5 => ?_) (fun hc5 => ?_)
 ·(try simp only [sB] at hc5)
  have hr : negZ x = (false, []) := by rw [negZ, if_neg (by simpa using hc5)]
  refine WC.sr ?_
  refine Kq rfl (rd_bld [[.bool false], [.string (S [])]] rfl rfl (by simp only [bld, fldv, Nat.beq, Value.cells, cond_true, cond_false, List.nil_append, List.cons_append, List.append_nil]; rfl) (fun w => by kernel_rfl)) ?_
  refine WL.g0 rfl rfl (sta rfl rfl rfl .tc ?_ ?_ ?_) ?_
  ·kernel_rfl
  ·simp [Value.oneCell']
  ·rfl
  intro _
  refine WL.nt (WC.ret (WX.then_ret ?_))
  exact WX.retN rfl (.agg rfl .tc Tryz.underlying45 rfl (by kernel_rfl) .nil) fun w' hS => ⟨by rw [hr]; rfl, hS.below⟩
 ·(try simp only [sB] at hc5)
  have hr : negZ x = mkZ (!x.1) x.2 := by rw [negZ, if_pos (by simpa using hc5)]
  refine WC.skip (WX.then_normal (WC.sr ?_))
  refine Kq rfl (rd_fa (q := 0) rfl rfl Tryz.underlying45 rfl (by kernel_rfl) rfl) ?_
  refine Kq rfl (ld rfl rfl .tc Tryz.underlying4 rfl (by rfl)) ?_
  refine Kq rfl (rd_not rfl rfl) ?_
  refine Kq rfl (rd_fa (q := 1) rfl rfl Tryz.underlying45 rfl (by kernel_rfl) rfl) ?_
  refine Kq rfl (ld rfl rfl .tc Tryz.underlying22 rfl (by rfl)) ?_
  refine Kh rfl (og_call rfl rfl (by kernel_rfl) (keep_val fun w hS => made_c (n := !x.1) (a := x.2))) ?_
  intro _
  refine WL.g0 rfl rfl (sta rfl rfl rfl .tc ?_ ?_ ?_) ?_
  ·kernel_rfl
  ·simp [Value.oneCell']
  ·rfl
  intro _
  refine WL.nt (WC.ret ?_)
  exact WX.retN rfl (.agg rfl .tc Tryz.underlying45 rfl (by kernel_rfl) .nil) fun w' hS => ⟨by rw [hr]; rfl, hS.below⟩
theorem rzneg_c {x : Zs} {w : World} :
  Calls Tryz.prog 106 #[zV x] w fun e w' => e = .returned (zV (negZ x)) ∧ Below w.heap.size w w' := by
 refine enter (S := St (fun _ => True) w [] ([])) (L := [(0, zV x)]) Tryz.func106 rfl Tryz.ntmps106 rfl (args_cons rfl (args_nil _)) (St.start (fun _ _ => trivial) facts_nil) ?_
 refine WC.sr ?_
 refine Kh rfl (og_box rfl rfl (by (exact cells_agg _))) ?_
 intro b1
 refine Kh rfl (og_alloc rfl (v := (.agg #[.bool false, .string (S [])])) (cs := [.bool false, .string (S [])]) (by kernel_rfl) rfl) ?_
 intro b2
 refine WL.nt (WC.seq (WC.sr ?_))
 refine Kq rfl (lda rfl rfl .tc Tryz.underlying45 rfl ?_) ?_
 ·kernel_rfl
 refine Kh rfl (og_call rfl rfl (by kernel_rfl) (keep_val fun w hS => rzvalid_c (x := x))) ?_
 intro _
 refine Kq rfl (rd_not rfl rfl) (WL.nt ?_)
 refine WC.cond rfl (fun hc5 => ?_) (fun hc5 => ?_)
 ·(try simp only [sB] at hc5)
  have hr : negZ x = (false, []) := by rw [negZ, if_neg (by simpa using hc5)]
  refine WC.sr ?_
  refine Kq rfl (rd_bld [[.bool false], [.string (S [])]] rfl rfl (by simp only [bld, fldv, Nat.beq, Value.cells, cond_true, cond_false, List.nil_append, List.cons_append, List.append_nil]; rfl) (fun w => by kernel_rfl)) ?_
  refine WL.g0 rfl rfl (sta rfl rfl rfl .tc ?_ ?_ ?_) ?_
  ·kernel_rfl
  ·simp [Value.oneCell']
  ·rfl
  intro _
  refine WL.nt (WC.ret (WX.then_ret ?_))
  exact WX.retN rfl (.agg rfl .tc Tryz.underlying45 rfl (by kernel_rfl) .nil) fun w' hS => ⟨by rw [hr]; rfl, hS.below⟩
 ·(try simp only [sB] at hc5)
  have hr : negZ x = mkZ (!x.1) x.2 := by rw [negZ, if_pos (by simpa using hc5)]
  refine WC.skip (WX.then_normal (WC.sr ?_))
  refine Kq rfl (rd_fa (q := 0) rfl rfl Tryz.underlying45 rfl (by kernel_rfl) rfl) ?_
  refine Kq rfl (ld rfl rfl .tc Tryz.underlying4 rfl (by rfl)) ?_
  refine Kq rfl (rd_not rfl rfl) ?_
  refine Kq rfl (rd_fa (q := 1) rfl rfl Tryz.underlying45 rfl (by kernel_rfl) rfl) ?_
  refine Kq rfl (ld rfl rfl .tc Tryz.underlying22 rfl (by rfl)) ?_
  refine Kh rfl (og_call rfl rfl (by kernel_rfl) (keep_val fun w hS => rmake_c (n := !x.1) (a := x.2))) ?_
  intro _
  refine WL.g0 rfl rfl (sta rfl rfl rfl .tc ?_ ?_ ?_) ?_
  ·kernel_rfl
  ·simp [Value.oneCell']
  ·rfl
  intro _
  refine WL.nt (WC.ret ?_)
  exact WX.retN rfl (.agg rfl .tc Tryz.underlying45 rfl (by kernel_rfl) .nil) fun w' hS => ⟨by rw [hr]; rfl, hS.below⟩
theorem subN_ok {a b : Bs} (ha : okN a) (hb : okN b) (h : val b ≤ val a) : subN a b = (canon (val a - val b), 0) := by rw [subN, if_pos ⟨ha, hb⟩, if_neg (by omega)]
theorem cmpN_ok {a b : Bs} (ha : okN a) (hb : okN b) : cmpN a b = cmpI (val a) (val b) := by rw [cmpN, if_pos ⟨ha, hb⟩]
theorem zadd_c {x y : Zs} {w : World} :
  Calls Tryz.prog 29 #[zV x, zV y] w fun e w' => e = .returned (ZE (addZ x y)) ∧ Below w.heap.size w w' := by
 refine enter (S := St (fun _ => True) w [] ([])) (L := [(0, zV x), (1, zV y)]) Tryz.func29 rfl Tryz.ntmps29 rfl (args_cons rfl (args_cons rfl (args_nil _))) (St.start (fun _ _ => trivial) facts_nil) ?_
 refine WC.sr ?_
 refine Kh rfl (og_box rfl rfl (by (exact cells_agg _))) ?_
 intro b2
 refine Kh rfl (og_box rfl rfl (by (exact cells_agg _))) ?_
 intro b3
 refine Kh rfl (og_alloc rfl (v := (.agg #[.bool false, .string (S [])])) (cs := [.bool false, .string (S [])]) (by kernel_rfl) rfl) ?_
 intro b4
 refine Ka rfl (WL.nt (WC.seq (WC.sr ?_)))
 refine Kq rfl (lda rfl rfl .tc Tryz.underlying45 rfl ?_) ?_
 ·kernel_rfl
 refine Kq rfl (lda rfl rfl .tc Tryz.underlying45 rfl ?_) ?_
 ·kernel_rfl
 refine Kh rfl (og_call rfl rfl (by kernel_rfl) (keep_val fun w hS => both_c (x := x) (y := y))) ?_
 intro _
 refine Kq rfl (rd_not rfl rfl) (WL.nt ?_)
 refine WC.cond rfl (fun hc13 => ?_) (fun hc13 => ?_)
 ·(try simp only [sB] at hc13)
  have hr : addZ x y = ((false, []), 3) := by rw [addZ, if_neg (by simpa using hc13)]
  refine WC.sr ?_
  refine Kq rfl (rd_bld [[.bool false], [.string (S [])]] rfl rfl (by simp only [bld, fldv, Nat.beq, Value.cells, cond_true, cond_false, List.nil_append, List.cons_append, List.append_nil]; rfl) (fun w => by kernel_rfl)) ?_
  refine WL.g0 rfl rfl (sta rfl rfl rfl .tc ?_ ?_ ?_) ?_
  ·kernel_rfl
  ·simp [Value.oneCell']
  ·rfl
  intro _
  refine Ka rfl (WL.nt (WC.ret (WX.then_ret ?_)))
  exact WX.retN rfl (.agg rfl .tc Tryz.underlying45 rfl (by kernel_rfl) (.tmp rfl .nil)) fun w' hS => ⟨by rw [hr]; rfl, hS.below⟩
 ·(try simp only [sB] at hc13)
  have hok : okZ x ∧ okZ y := by simpa using hc13
  have ho1 := hok.1.1; have ho2 := hok.2.1
  refine WC.skip (WX.then_normal (WC.seq (WC.sr ?_)))
  refine Kq rfl (rd_fa (q := 0) rfl rfl Tryz.underlying45 rfl (by kernel_rfl) rfl) ?_
  refine Kq rfl (ld rfl rfl .tc Tryz.underlying4 rfl (by rfl)) ?_
  refine Kq rfl (rd_fa (q := 0) rfl rfl Tryz.underlying45 rfl (by kernel_rfl) rfl) ?_
  refine Kq rfl (ld rfl rfl .tc Tryz.underlying4 rfl (by rfl)) ?_
  refine Kq rfl (rd_beq rfl rfl rfl Tryz.underlying4) ?_
  refine WL.nt ?_
  refine WC.cond rfl (fun hc19 => ?_) (fun hc19 => ?_)
  ·(try simp only [sB] at hc19)
   have hs : x.1 = y.1 := by simpa using hc19
   have hr : addZ x y = (mkZ x.1 (addN x.2 y.2).1, (addN x.2 y.2).2) := by rw [addZ, if_pos hok, if_pos hs]
   refine WC.sr ?_
   refine Kq rfl (rd_fa (q := 1) rfl rfl Tryz.underlying45 rfl (by kernel_rfl) rfl) ?_
   refine Kq rfl (ld rfl rfl .tc Tryz.underlying22 rfl (by rfl)) ?_
   refine Kq rfl (rd_fa (q := 1) rfl rfl Tryz.underlying45 rfl (by kernel_rfl) rfl) ?_
   refine Kq rfl (ld rfl rfl .tc Tryz.underlying22 rfl (by rfl)) ?_
   refine Kh rfl (og_call rfl rfl (by kernel_rfl) (keep_val fun w hS => add_c (a := x.2) (b := y.2))) ?_
   intro _
   refine Km rfl (Kq rfl (rd_extL rfl rfl rfl) (Kq rfl (rd_extL rfl rfl rfl) (Ka rfl (Ka rfl (WL.nt (WC.sr ?_))))))
   refine Kq rfl (rd_fa (q := 0) rfl rfl Tryz.underlying45 rfl (by kernel_rfl) rfl) ?_
   refine Kq rfl (ld rfl rfl .tc Tryz.underlying4 rfl (by rfl)) ?_
   refine Km rfl ?_
   refine Kh rfl (og_call rfl rfl (by kernel_rfl) (keep_val fun w hS => made_c (n := x.1) (a := (addN x.2 y.2).1))) ?_
   intro _
   refine Km rfl ?_
   refine WL.g0 rfl rfl (sta rfl rfl rfl .tc ?_ ?_ ?_) ?_
   ·kernel_rfl
   ·simp [Value.oneCell']
   ·rfl
   intro _
   refine Ka rfl (WL.nt (WC.ret (WX.then_ret ?_)))
   exact WX.retN rfl (.agg rfl .tc Tryz.underlying45 rfl (by kernel_rfl) (.tmp rfl .nil)) fun w' hS => ⟨by rw [hr]; rfl, hS.below⟩
  ·(try simp only [sB] at hc19)
   have hs : ¬ x.1 = y.1 := by simpa using hc19
   refine WC.skip (WX.then_normal (WC.seq (WC.sr ?_)))
   refine Kq rfl (rd_fa (q := 1) rfl rfl Tryz.underlying45 rfl (by kernel_rfl) rfl) ?_
   refine Kq rfl (ld rfl rfl .tc Tryz.underlying22 rfl (by rfl)) ?_
   refine Kq rfl (rd_fa (q := 1) rfl rfl Tryz.underlying45 rfl (by kernel_rfl) rfl) ?_
   refine Kq rfl (ld rfl rfl .tc Tryz.underlying22 rfl (by rfl)) ?_
   refine Kh rfl (og_call rfl rfl (by kernel_rfl) (keep_val fun w hS => Cmp_c (a := x.2) (b := y.2))) ?_
   intro _
   refine Kq rfl (rd_lss rfl rfl rfl) (WL.nt ?_)
   refine WC.cond rfl (fun hc38 => ?_) (fun hc38 => ?_)
   ·(try simp only [sB] at hc38)
    rw [cmpN_ok ho1 ho2, cmpI_neg] at hc38
    have hr : addZ x y = (mkZ y.1 (canon (val y.2 - val x.2)), 0) := by rw [addZ, if_pos hok, if_neg hs, if_pos hc38]
    refine WC.region ?_
    refine Kq rfl (lda rfl rfl .tc Tryz.underlying45 rfl ?_) ?_
    ·kernel_rfl
    refine Kq rfl (lda rfl rfl .tc Tryz.underlying45 rfl ?_) ?_
    ·kernel_rfl
    refine WL.g0 rfl rfl (sta rfl rfl rfl .tc ?_ ?_ ?_) ?_
    ·kernel_rfl
    ·simp [Value.oneCell']
    ·rfl
    intro _
    refine WL.g0 rfl rfl (sta rfl rfl rfl .tc ?_ ?_ ?_) ?_
    ·kernel_rfl
    ·simp [Value.oneCell']
    ·rfl
    intro _
    refine WL.nt (WC.sr ?_)
    refine Kq rfl (rd_fa (q := 1) rfl rfl Tryz.underlying45 rfl (by kernel_rfl) rfl) ?_
    refine Kq rfl (ld rfl rfl .tc Tryz.underlying22 rfl (by rfl)) ?_
    refine Kq rfl (rd_fa (q := 1) rfl rfl Tryz.underlying45 rfl (by kernel_rfl) rfl) ?_
    refine Kq rfl (ld rfl rfl .tc Tryz.underlying22 rfl (by rfl)) ?_
    refine Kh rfl (og_call rfl rfl (by kernel_rfl) (keep_val fun w hS => sub_c)) ?_
    intro _
    refine Km rfl (Kq rfl (rd_extL rfl rfl rfl) (Kq rfl (rd_extL rfl rfl rfl) (Ka rfl (Ka rfl (WL.nt (WC.sr ?_))))))
    refine Kq rfl (rd_fa (q := 0) rfl rfl Tryz.underlying45 rfl (by kernel_rfl) rfl) ?_
    refine Kq rfl (ld rfl rfl .tc Tryz.underlying4 rfl (by rfl)) ?_
    refine Km rfl ?_
    refine Kh rfl (og_call rfl rfl (by kernel_rfl) (keep_val fun w hS => made_c)) ?_
    intro _
    refine Km rfl ?_
    refine WL.g0 rfl rfl (sta rfl rfl rfl .tc ?_ ?_ ?_) ?_
    ·kernel_rfl
    ·simp [Value.oneCell']
    ·rfl
    intro _
    refine Ka rfl (WL.nt (WC.ret ?_))
    exact WX.retN rfl (.agg rfl .tc Tryz.underlying45 rfl (by kernel_rfl) (.tmp rfl .nil)) fun w' hS => ⟨by rw [hr]; (rw [subN_ok ho2 ho1 (by omega)]; rfl), hS.below⟩
   ·(try simp only [sB] at hc38)
    have hge : val y.2 ≤ val x.2 := Nat.not_lt.1 fun h => by rw [cmpN_ok ho1 ho2] at hc38; have := (cmpI_neg _ _).2 h; omega
    have hr : addZ x y = (mkZ x.1 (canon (val x.2 - val y.2)), 0) := by rw [addZ, if_pos hok, if_neg hs, if_neg (by omega)]
    refine WC.skip (WX.then_normal (WC.sr ?_))
    refine Kq rfl (rd_fa (q := 1) rfl rfl Tryz.underlying45 rfl (by kernel_rfl) rfl) ?_
    refine Kq rfl (ld rfl rfl .tc Tryz.underlying22 rfl (by rfl)) ?_
    refine Kq rfl (rd_fa (q := 1) rfl rfl Tryz.underlying45 rfl (by kernel_rfl) rfl) ?_
    refine Kq rfl (ld rfl rfl .tc Tryz.underlying22 rfl (by rfl)) ?_
    refine Kh rfl (og_call rfl rfl (by kernel_rfl) (keep_val fun w hS => sub_c)) ?_
    intro _
    refine Km rfl (Kq rfl (rd_extL rfl rfl rfl) (Kq rfl (rd_extL rfl rfl rfl) (Ka rfl (Ka rfl (WL.nt (WC.sr ?_))))))
    refine Kq rfl (rd_fa (q := 0) rfl rfl Tryz.underlying45 rfl (by kernel_rfl) rfl) ?_
    refine Kq rfl (ld rfl rfl .tc Tryz.underlying4 rfl (by rfl)) ?_
    refine Km rfl ?_
    refine Kh rfl (og_call rfl rfl (by kernel_rfl) (keep_val fun w hS => made_c)) ?_
    intro _
    refine Km rfl ?_
    refine WL.g0 rfl rfl (sta rfl rfl rfl .tc ?_ ?_ ?_) ?_
    ·kernel_rfl
    ·simp [Value.oneCell']
    ·rfl
    intro _
    refine Ka rfl (WL.nt (WC.ret ?_))
    exact WX.retN rfl (.agg rfl .tc Tryz.underlying45 rfl (by kernel_rfl) (.tmp rfl .nil)) fun w' hS => ⟨by rw [hr]; (rw [subN_ok ho1 ho2 hge]; rfl), hS.below⟩
theorem zsub_c {x y : Zs} {w : World} :
  Calls Tryz.prog 66 #[zV x, zV y] w fun e w' => e = .returned (ZE (subZ x y)) ∧ Below w.heap.size w w' := by
 refine enter (S := St (fun _ => True) w [] ([])) (L := [(0, zV x), (1, zV y)]) Tryz.func66 rfl Tryz.ntmps66 rfl (args_cons rfl (args_cons rfl (args_nil _))) (St.start (fun _ _ => trivial) facts_nil) ?_
 refine WC.sr ?_
 refine Kh rfl (og_box rfl rfl (by (exact cells_agg _))) ?_
 intro b2
 refine Kh rfl (og_box rfl rfl (by (exact cells_agg _))) ?_
 intro b3
 refine Kh rfl (og_alloc rfl (v := (.agg #[.bool false, .string (S [])])) (cs := [.bool false, .string (S [])]) (by kernel_rfl) rfl) ?_
 intro b4
 refine Ka rfl (WL.nt (WC.seq (WC.sr ?_)))
 refine Kq rfl (lda rfl rfl .tc Tryz.underlying45 rfl ?_) ?_
 ·kernel_rfl
 refine Kq rfl (lda rfl rfl .tc Tryz.underlying45 rfl ?_) ?_
 ·kernel_rfl
 refine Kh rfl (og_call rfl rfl (by kernel_rfl) (keep_val fun w hS => both_c (x := x) (y := y))) ?_
 intro _
 refine Kq rfl (rd_not rfl rfl) (WL.nt ?_)
 refine WC.cond rfl (fun hc9 => ?_) (fun hc9 => ?_)
 ·(try simp only [sB] at hc9)
  have hr : subZ x y = ((false, []), 3) := by rw [subZ, if_neg (by simpa using hc9)]
  refine WC.sr ?_
  refine Kq rfl (rd_bld [[.bool false], [.string (S [])]] rfl rfl (by simp only [bld, fldv, Nat.beq, Value.cells, cond_true, cond_false, List.nil_append, List.cons_append, List.append_nil]; rfl) (fun w => by kernel_rfl)) ?_
  refine WL.g0 rfl rfl (sta rfl rfl rfl .tc ?_ ?_ ?_) ?_
  ·kernel_rfl
  ·simp [Value.oneCell']
  ·rfl
  intro _
  refine Ka rfl (WL.nt (WC.ret (WX.then_ret ?_)))
  exact WX.retN rfl (.agg rfl .tc Tryz.underlying45 rfl (by kernel_rfl) (.tmp rfl .nil)) fun w' hS => ⟨by rw [hr]; rfl, hS.below⟩
 ·(try simp only [sB] at hc9)
  have hr : subZ x y = addZ x (negZ y) := by rw [subZ, if_pos (by simpa using hc9)]
  refine WC.skip (WX.then_normal (WC.seq ?_))
  refine WC.free0 [1, 2, 0, 3, 4, 5] [6, 7] [0, 0, 1, 1, 0, 0, 2, 2] (by kernel_rfl) (by kernel_rfl) rfl ?_
  refine Kj rfl (lda rfl rfl .tc Tryz.underlying45 rfl ?_) ?_
  ·kernel_rfl
  refine WJ.gv rfl rfl rfl rfl rfl (fun ext => og_call rfl rfl (by kernel_rfl) (keep_val fun w hS => zneg_c (x := y))) ?_
  refine Kj rfl (lda rfl rfl .tc Tryz.underlying45 rfl ?_) ?_
  ·kernel_rfl
  refine WJ.gv rfl rfl rfl rfl rfl (fun ext => og_call rfl rfl (by kernel_rfl) (keep_val fun w hS => zadd_c (x := x) (y := negZ y))) ?_
  refine Kj rfl (rd_extL rfl rfl rfl) ?_
  refine Kj rfl (rd_extL rfl rfl rfl) ?_
  refine WJ.nil ?_
  refine WL.g0 rfl rfl (sta rfl rfl rfl .tc ?_ ?_ ?_) ?_
  ·kernel_rfl
  ·simp [Value.oneCell']
  ·rfl
  intro _
  refine Ka rfl (WL.nt (WC.ret ?_))
  exact WX.retN rfl (.agg rfl .tc Tryz.underlying45 rfl (by kernel_rfl) (.tmp rfl .nil)) fun w' hS => ⟨by rw [hr]; rfl, hS.below⟩
theorem rzadd_c {x y : Zs} {w : World} :
  Calls Tryz.prog 105 #[zV x, zV y] w fun e w' => e = .returned (ZE (addZ x y)) ∧ Below w.heap.size w w' := by
 refine enter (S := St (fun _ => True) w [] ([])) (L := [(0, zV x), (1, zV y)]) Tryz.func105 rfl Tryz.ntmps105 rfl (args_cons rfl (args_cons rfl (args_nil _))) (St.start (fun _ _ => trivial) facts_nil) ?_
 refine WC.sr ?_
 refine Kh rfl (og_box rfl rfl (by (exact cells_agg _))) ?_
 intro b2
 refine Kh rfl (og_box rfl rfl (by (exact cells_agg _))) ?_
 intro b3
 refine Kh rfl (og_alloc rfl (v := (.agg #[.bool false, .string (S [])])) (cs := [.bool false, .string (S [])]) (by kernel_rfl) rfl) ?_
 intro b4
 refine Ka rfl (WL.nt (WC.seq (WC.sr ?_)))
 refine Kq rfl (lda rfl rfl .tc Tryz.underlying45 rfl ?_) ?_
 ·kernel_rfl
 refine Kh rfl (og_call rfl rfl (by kernel_rfl) (keep_val fun w hS => rzvalid_c (x := x))) ?_
 intro _
 refine Kq rfl (rd_not rfl rfl) (Km rfl ?_)
 refine WL.bool 15 rfl (fun hg15 => ?_) (fun hg15 => ?_)
 ·(try simp only [sB] at hg15)
  refine Kt rfl (Kt rfl (Kt rfl (Kq rfl (rd_pickt rfl rfl rfl) (WL.nt ?_))))
  refine WC.cond rfl (fun _ => ?_) (fun h => by cases h)
  refine WC.sr ?_
  refine Kq rfl (rd_bld [[.bool false], [.string (S [])]] rfl rfl (by simp only [bld, fldv, Nat.beq, Value.cells, cond_true, cond_false, List.nil_append, List.cons_append, List.append_nil]; rfl) (fun w => by kernel_rfl)) ?_
  refine WL.g0 rfl rfl (sta rfl rfl rfl .tc ?_ ?_ ?_) ?_
  ·kernel_rfl
  ·simp [Value.oneCell']
  ·rfl
  intro _
  refine Ka rfl (WL.nt (WC.ret (WX.then_ret ?_)))
  exact WX.retN rfl (.agg rfl .tc Tryz.underlying45 rfl (by kernel_rfl) (.tmp rfl .nil)) fun w' hS => ⟨by rw [show addZ x y = ((false, []), 3) from by rw [addZ, if_neg (by simp_all)]]; rfl, hS.below⟩
 ·(try simp only [sB] at hg15)
  refine Kq rfl (lda rfl rfl .tc Tryz.underlying45 rfl ?_) ?_
  ·kernel_rfl
  refine Kh rfl (og_call rfl rfl (by kernel_rfl) (keep_val fun w hS => rzvalid_c (x := y))) ?_
  intro _
  refine Kq rfl (rd_not rfl rfl) (Kq rfl (rd_pickf rfl rfl rfl) (WL.nt ?_))
  refine WC.cond rfl (fun hc19 => ?_) (fun hc19 => ?_)
  ·(try simp only [sB] at hc19)
   refine WC.sr ?_
   refine Kq rfl (rd_bld [[.bool false], [.string (S [])]] rfl rfl (by simp only [bld, fldv, Nat.beq, Value.cells, cond_true, cond_false, List.nil_append, List.cons_append, List.append_nil]; rfl) (fun w => by kernel_rfl)) ?_
   refine WL.g0 rfl rfl (sta rfl rfl rfl .tc ?_ ?_ ?_) ?_
   ·kernel_rfl
   ·simp [Value.oneCell']
   ·rfl
   intro _
   refine Ka rfl (WL.nt (WC.ret (WX.then_ret ?_)))
   exact WX.retN rfl (.agg rfl .tc Tryz.underlying45 rfl (by kernel_rfl) (.tmp rfl .nil)) fun w' hS => ⟨by rw [show addZ x y = ((false, []), 3) from by rw [addZ, if_neg (by simp_all)]]; rfl, hS.below⟩
  ·(try simp only [sB] at hc19)
   have hok : okZ x ∧ okZ y := by simp_all
   have ho1 := hok.1.1; have ho2 := hok.2.1
   refine WC.skip (WX.then_normal (WC.seq (WC.sr ?_)))
   refine Kq rfl (rd_fa (q := 0) rfl rfl Tryz.underlying45 rfl (by kernel_rfl) rfl) ?_
   refine Kq rfl (ld rfl rfl .tc Tryz.underlying4 rfl (by rfl)) ?_
   refine Kq rfl (rd_fa (q := 0) rfl rfl Tryz.underlying45 rfl (by kernel_rfl) rfl) ?_
   refine Kq rfl (ld rfl rfl .tc Tryz.underlying4 rfl (by rfl)) ?_
   refine Kq rfl (rd_beq rfl rfl rfl Tryz.underlying4) ?_
   refine WL.nt ?_
   refine WC.cond rfl (fun hc25 => ?_) (fun hc25 => ?_)
   ·(try simp only [sB] at hc25)
    have hs : x.1 = y.1 := by simpa using hc25
    have hr : addZ x y = (mkZ x.1 (addN x.2 y.2).1, (addN x.2 y.2).2) := by rw [addZ, if_pos hok, if_pos hs]
    refine WC.sr ?_
    refine Kq rfl (rd_fa (q := 1) rfl rfl Tryz.underlying45 rfl (by kernel_rfl) rfl) ?_
    refine Kq rfl (ld rfl rfl .tc Tryz.underlying22 rfl (by rfl)) ?_
    refine Kq rfl (rd_fa (q := 1) rfl rfl Tryz.underlying45 rfl (by kernel_rfl) rfl) ?_
    refine Kq rfl (ld rfl rfl .tc Tryz.underlying22 rfl (by rfl)) ?_
    refine Kh rfl (og_call rfl rfl (by kernel_rfl) (keep_val fun w hS => radd_c (a := x.2) (b := y.2))) ?_
    intro _
    refine Km rfl (Kq rfl (rd_extL rfl rfl rfl) (Kq rfl (rd_extL rfl rfl rfl) (Ka rfl (Ka rfl (WL.nt (WC.sr ?_))))))
    refine Kq rfl (rd_fa (q := 0) rfl rfl Tryz.underlying45 rfl (by kernel_rfl) rfl) ?_
    refine Kq rfl (ld rfl rfl .tc Tryz.underlying4 rfl (by rfl)) ?_
    refine Km rfl ?_
    refine Kh rfl (og_call rfl rfl (by kernel_rfl) (keep_val fun w hS => rmake_c (n := x.1) (a := (addN x.2 y.2).1))) ?_
    intro _
    refine Km rfl ?_
    refine WL.g0 rfl rfl (sta rfl rfl rfl .tc ?_ ?_ ?_) ?_
    ·kernel_rfl
    ·simp [Value.oneCell']
    ·rfl
    intro _
    refine Ka rfl (WL.nt (WC.ret (WX.then_ret ?_)))
    exact WX.retN rfl (.agg rfl .tc Tryz.underlying45 rfl (by kernel_rfl) (.tmp rfl .nil)) fun w' hS => ⟨by rw [hr]; rfl, hS.below⟩
   ·(try simp only [sB] at hc25)
    have hs : ¬ x.1 = y.1 := by simpa using hc25
    refine WC.skip (WX.then_normal (WC.seq (WC.sr ?_)))
    refine Kq rfl (rd_fa (q := 1) rfl rfl Tryz.underlying45 rfl (by kernel_rfl) rfl) ?_
    refine Kq rfl (ld rfl rfl .tc Tryz.underlying22 rfl (by rfl)) ?_
    refine Kq rfl (rd_fa (q := 1) rfl rfl Tryz.underlying45 rfl (by kernel_rfl) rfl) ?_
    refine Kq rfl (ld rfl rfl .tc Tryz.underlying22 rfl (by rfl)) ?_
    refine Kh rfl (og_call rfl rfl (by kernel_rfl) (keep_val fun w hS => rCmp_c (a := x.2) (b := y.2))) ?_
    intro _
    refine Kq rfl (rd_geq rfl rfl rfl) (WL.nt ?_)
    refine WC.cond rfl (fun hc44 => ?_) (fun hc44 => ?_)
    ·(try simp only [sB] at hc44)
     have hge : val y.2 ≤ val x.2 := Nat.not_lt.1 fun h => by rw [cmpN_ok ho1 ho2] at hc44; have := (cmpI_neg _ _).2 h; omega
     have hr : addZ x y = (mkZ x.1 (canon (val x.2 - val y.2)), 0) := by rw [addZ, if_pos hok, if_neg hs, if_neg (by omega)]
     refine WC.sr ?_
     refine Kq rfl (rd_fa (q := 1) rfl rfl Tryz.underlying45 rfl (by kernel_rfl) rfl) ?_
     refine Kq rfl (ld rfl rfl .tc Tryz.underlying22 rfl (by rfl)) ?_
     refine Kq rfl (rd_fa (q := 1) rfl rfl Tryz.underlying45 rfl (by kernel_rfl) rfl) ?_
     refine Kq rfl (ld rfl rfl .tc Tryz.underlying22 rfl (by rfl)) ?_
     refine Kh rfl (og_call rfl rfl (by kernel_rfl) (keep_val fun w hS => rsub_c (a := x.2) (b := y.2))) ?_
     intro _
     refine Km rfl (Kq rfl (rd_extL rfl rfl rfl) (Kq rfl (rd_extL rfl rfl rfl) (Ka rfl (Ka rfl (WL.nt (WC.sr ?_))))))
     refine Kq rfl (rd_fa (q := 0) rfl rfl Tryz.underlying45 rfl (by kernel_rfl) rfl) ?_
     refine Kq rfl (ld rfl rfl .tc Tryz.underlying4 rfl (by rfl)) ?_
     refine Km rfl ?_
     refine Kh rfl (og_call rfl rfl (by kernel_rfl) (keep_val fun w hS => rmake_c (n := x.1) (a := (subN x.2 y.2).1))) ?_
     intro _
     refine WL.g0 rfl rfl (sta rfl rfl rfl .tc ?_ ?_ ?_) ?_
     ·kernel_rfl
     ·simp [Value.oneCell']
     ·rfl
     intro _
     refine Ka rfl (WL.nt (WC.ret (WX.then_ret ?_)))
     exact WX.retN rfl (.agg rfl .tc Tryz.underlying45 rfl (by kernel_rfl) (.tmp rfl .nil)) fun w' hS => ⟨by rw [hr, subN_ok ho1 ho2 hge]; rfl, hS.below⟩
    ·(try simp only [sB] at hc44)
     rw [cmpN_ok ho1 ho2, cmpI_neg] at hc44
     have hr : addZ x y = (mkZ y.1 (canon (val y.2 - val x.2)), 0) := by rw [addZ, if_pos hok, if_neg hs, if_pos hc44]
     refine WC.skip (WX.then_normal (WC.sr ?_))
     refine Kq rfl (rd_fa (q := 1) rfl rfl Tryz.underlying45 rfl (by kernel_rfl) rfl) ?_
     refine Kq rfl (ld rfl rfl .tc Tryz.underlying22 rfl (by rfl)) ?_
     refine Kq rfl (rd_fa (q := 1) rfl rfl Tryz.underlying45 rfl (by kernel_rfl) rfl) ?_
     refine Kq rfl (ld rfl rfl .tc Tryz.underlying22 rfl (by rfl)) ?_
     refine Kh rfl (og_call rfl rfl (by kernel_rfl) (keep_val fun w hS => rsub_c (a := y.2) (b := x.2))) ?_
     intro _
     refine Km rfl (Kq rfl (rd_extL rfl rfl rfl) (Kq rfl (rd_extL rfl rfl rfl) (Ka rfl (Ka rfl (WL.nt (WC.sr ?_))))))
     refine Kq rfl (rd_fa (q := 0) rfl rfl Tryz.underlying45 rfl (by kernel_rfl) rfl) ?_
     refine Kq rfl (ld rfl rfl .tc Tryz.underlying4 rfl (by rfl)) ?_
     refine Km rfl ?_
     refine Kh rfl (og_call rfl rfl (by kernel_rfl) (keep_val fun w hS => rmake_c (n := y.1) (a := (subN y.2 x.2).1))) ?_
     intro _
     refine WL.g0 rfl rfl (sta rfl rfl rfl .tc ?_ ?_ ?_) ?_
     ·kernel_rfl
     ·simp [Value.oneCell']
     ·rfl
     intro _
     refine Ka rfl (WL.nt (WC.ret ?_))
     exact WX.retN rfl (.agg rfl .tc Tryz.underlying45 rfl (by kernel_rfl) (.tmp rfl .nil)) fun w' hS => ⟨by rw [hr, subN_ok ho2 ho1 (by omega)]; rfl, hS.below⟩
theorem rzsub_c {x y : Zs} {w : World} :
  Calls Tryz.prog 69 #[zV x, zV y] w fun e w' => e = .returned (ZE (subZ x y)) ∧ Below w.heap.size w w' := by
 refine enter (S := St (fun _ => True) w [] ([])) (L := [(0, zV x), (1, zV y)]) Tryz.func69 rfl Tryz.ntmps69 rfl (args_cons rfl (args_cons rfl (args_nil _))) (St.start (fun _ _ => trivial) facts_nil) ?_
 refine WC.sr ?_
 refine Kh rfl (og_box rfl rfl (by (exact cells_agg _))) ?_
 intro b2
 refine Kh rfl (og_box rfl rfl (by (exact cells_agg _))) ?_
 intro b3
 refine Kh rfl (og_alloc rfl (v := (.agg #[.bool false, .string (S [])])) (cs := [.bool false, .string (S [])]) (by kernel_rfl) rfl) ?_
 intro b4
 refine Ka rfl (WL.nt (WC.seq (WC.sr ?_)))
 refine Kq rfl (lda rfl rfl .tc Tryz.underlying45 rfl ?_) ?_
 ·kernel_rfl
 refine Kh rfl (og_call rfl rfl (by kernel_rfl) (keep_val fun w hS => rzvalid_c (x := x))) ?_
 intro _
 refine Kq rfl (rd_not rfl rfl) (Km rfl ?_)
 refine WL.bool 9 rfl (fun hg9 => ?_) (fun hg9 => ?_)
 ·(try simp only [sB] at hg9)
  refine Kt rfl (Kt rfl (Kt rfl (Kq rfl (rd_pickt rfl rfl rfl) (WL.nt ?_))))
  refine WC.cond rfl (fun _ => ?_) (fun h => by cases h)
  refine WC.sr ?_
  refine Kq rfl (rd_bld [[.bool false], [.string (S [])]] rfl rfl (by simp only [bld, fldv, Nat.beq, Value.cells, cond_true, cond_false, List.nil_append, List.cons_append, List.append_nil]; rfl) (fun w => by kernel_rfl)) ?_
  refine WL.g0 rfl rfl (sta rfl rfl rfl .tc ?_ ?_ ?_) ?_
  ·kernel_rfl
  ·simp [Value.oneCell']
  ·rfl
  intro _
  refine Ka rfl (WL.nt (WC.ret (WX.then_ret ?_)))
  exact WX.retN rfl (.agg rfl .tc Tryz.underlying45 rfl (by kernel_rfl) (.tmp rfl .nil)) fun w' hS => ⟨by rw [show subZ x y = ((false, []), 3) from by rw [subZ, if_neg (by simp_all)]]; rfl, hS.below⟩
 ·(try simp only [sB] at hg9)
  refine Kq rfl (lda rfl rfl .tc Tryz.underlying45 rfl ?_) ?_
  ·kernel_rfl
  refine Kh rfl (og_call rfl rfl (by kernel_rfl) (keep_val fun w hS => rzvalid_c (x := y))) ?_
  intro _
  refine Kq rfl (rd_not rfl rfl) (Kq rfl (rd_pickf rfl rfl rfl) (WL.nt ?_))
  refine WC.cond rfl (fun hc13 => ?_) (fun hc13 => ?_)
  ·(try simp only [sB] at hc13)
   refine WC.sr ?_
   refine Kq rfl (rd_bld [[.bool false], [.string (S [])]] rfl rfl (by simp only [bld, fldv, Nat.beq, Value.cells, cond_true, cond_false, List.nil_append, List.cons_append, List.append_nil]; rfl) (fun w => by kernel_rfl)) ?_
   refine WL.g0 rfl rfl (sta rfl rfl rfl .tc ?_ ?_ ?_) ?_
   ·kernel_rfl
   ·simp [Value.oneCell']
   ·rfl
   intro _
   refine Ka rfl (WL.nt (WC.ret (WX.then_ret ?_)))
   exact WX.retN rfl (.agg rfl .tc Tryz.underlying45 rfl (by kernel_rfl) (.tmp rfl .nil)) fun w' hS => ⟨by rw [show subZ x y = ((false, []), 3) from by rw [subZ, if_neg (by simp_all)]]; rfl, hS.below⟩
  ·(try simp only [sB] at hc13)
   have hr : subZ x y = addZ x (negZ y) := by rw [subZ, if_pos (by simp_all)]
   refine WC.skip (WX.then_normal (WC.seq ?_))
   refine WC.free0 [1, 2, 0, 3, 4, 5] [6, 7] [0, 0, 1, 1, 0, 0, 2, 2] (by kernel_rfl) (by kernel_rfl) rfl ?_
   refine Kj rfl (lda rfl rfl .tc Tryz.underlying45 rfl ?_) ?_
   ·kernel_rfl
   refine WJ.gv rfl rfl rfl rfl rfl (fun ext => og_call rfl rfl (by kernel_rfl) (keep_val fun w hS => rzneg_c (x := y))) ?_
   refine Kj rfl (lda rfl rfl .tc Tryz.underlying45 rfl ?_) ?_
   ·kernel_rfl
   refine WJ.gv rfl rfl rfl rfl rfl (fun ext => og_call rfl rfl (by kernel_rfl) (keep_val fun w hS => rzadd_c (x := x) (y := negZ y))) ?_
   refine Kj rfl (rd_extL rfl rfl rfl) ?_
   refine Kj rfl (rd_extL rfl rfl rfl) ?_
   refine WJ.nil ?_
   refine WL.g0 rfl rfl (sta rfl rfl rfl .tc ?_ ?_ ?_) ?_
   ·kernel_rfl
   ·simp [Value.oneCell']
   ·rfl
   intro _
   refine Ka rfl (WL.nt (WC.ret ?_))
   exact WX.retN rfl (.agg rfl .tc Tryz.underlying45 rfl (by kernel_rfl) (.tmp rfl .nil)) fun w' hS => ⟨by rw [hr]; rfl, hS.below⟩
def ofZ (n : Int) : Zs := mkZ (decide (n < 0)) (canon n.natAbs)
theorem zof_c {n : Int} {w : World} (h0 : -9223372036854775808 ≤ n) (h1 : n ≤ 9223372036854775807) :
  Calls Tryz.prog 39 #[.int .i64 n] w fun e w' => e = .returned (zV (ofZ n)) ∧ Below w.heap.size w w' := by
 refine enter (S := St (fun _ => True) w [] ([])) (L := [(0, .int .i64 n)]) Tryz.func39 rfl Tryz.ntmps39 rfl (args_cons rfl (args_nil _)) (St.start (fun _ _ => trivial) facts_nil) ?_
 refine WC.sr ?_
 refine Kh rfl (og_alloc rfl (v := (.agg #[.bool false, .string (S [])])) (cs := [.bool false, .string (S [])]) (by kernel_rfl) rfl) ?_
 intro b2
 refine WL.nt (WC.seq (WC.sr (Km rfl (Kq rfl (rd_lss rfl rfl rfl) (WL.nt ?_)))))
 refine WC.cond rfl (fun hc4 => ?_) (fun hc4 => ?_)
 ·(try simp only [sB] at hc4)
  have hr : ofZ n = mkZ true (canon n.natAbs) := by rw [ofZ, decide_eq_true hc4]
  refine WC.sr (Km rfl ?_)
  refine Kq rfl (rd_conv rfl rfl Tryz.underlying2 Tryz.underlying81) ?_
  refine Kq rfl (rd_neg rfl rfl) ?_
  refine WL.set 7 rfl (v' := .int .u64 ((n.natAbs : Nat) : Int)) (by exact congrArg (Value.int .u64) (by rw [IntKind.wrap_u64, IntKind.wrap_u64]; omega)) ?_
  refine Kh rfl (og_call rfl rfl (by kernel_rfl) (keep_val fun w hS => of_c (n := n.natAbs) (by omega))) ?_
  intro _
  refine Kh rfl (og_call rfl rfl (by kernel_rfl) (keep_val fun w hS => made_c (n := true) (a := canon n.natAbs))) ?_
  intro _
  refine WL.g0 rfl rfl (sta rfl rfl rfl .tc ?_ ?_ ?_) ?_
  ·kernel_rfl
  ·simp [Value.oneCell']
  ·rfl
  intro _
  refine WL.nt (WC.ret (WX.then_ret ?_))
  exact WX.retN rfl (.agg rfl .tc Tryz.underlying45 rfl (by kernel_rfl) .nil) fun w' hS => ⟨by rw [hr]; rfl, hS.below⟩
 ·(try simp only [sB] at hc4)
  have hr : ofZ n = mkZ false (canon n.natAbs) := by rw [ofZ, decide_eq_false (by omega)]
  refine WC.skip (WX.then_normal (WC.sr (Km rfl ?_)))
  refine Kq rfl (rd_conv rfl rfl Tryz.underlying2 Tryz.underlying81) ?_
  refine WL.set 11 rfl (v' := .int .u64 ((n.natAbs : Nat) : Int)) (by exact congrArg (Value.int .u64) (by rw [IntKind.wrap_u64]; omega)) ?_
  refine Kh rfl (og_call rfl rfl (by kernel_rfl) (keep_val fun w hS => of_c (n := n.natAbs) (by omega))) ?_
  intro _
  refine Kh rfl (og_call rfl rfl (by kernel_rfl) (keep_val fun w hS => made_c (n := false) (a := canon n.natAbs))) ?_
  intro _
  refine WL.g0 rfl rfl (sta rfl rfl rfl .tc ?_ ?_ ?_) ?_
  ·kernel_rfl
  ·simp [Value.oneCell']
  ·rfl
  intro _
  refine WL.nt (WC.ret ?_)
  exact WX.retN rfl (.agg rfl .tc Tryz.underlying45 rfl (by kernel_rfl) .nil) fun w' hS => ⟨by rw [hr]; rfl, hS.below⟩
end Go.Proofs.YtnimhldbblfgbaaGreat
namespace Go.Proofs.YtnimhldbblfgbaaGreat
set_option linter.unusedSimpArgs false
set_option linter.unusedVariables false
set_option maxRecDepth 20000
open Go.RowKit
theorem big_pos : 0 < Big := Nat.pow_pos (by decide)
theorem okN_can {n : Nat} (h : n < Big) : okN (canon n) := ⟨canon_big.2 h, can_canon n⟩
theorem okN_val {s : Bs} (h : okN s) : val s < Big := Nat.lt_of_lt_of_le (val_lt s) (Nat.pow_le_pow_right (by decide) h.1)
theorem canon_nil {n : Nat} : canon n = [] ↔ n = 0 := ⟨fun h => by rw [← val_canon n, h]; rfl, fun h => by rw [h]; exact canon_zero⟩
theorem canon_inj {a b : Nat} : canon a = canon b ↔ a = b := ⟨fun h => by rw [← val_canon a, h, val_canon], fun h => by rw [h]⟩
theorem ok_canon {s : Bs} (h : okN s) : canon (val s) = s := canon_val h.2
/-- a valid number is the canonical string of a small number -/
theorem okN_iff {s : Bs} : okN s ↔ ∃ n, n < Big ∧ s = canon n := ⟨fun h => ⟨val s, okN_val h, (ok_canon h).symm⟩, fun ⟨n, h, e⟩ => e ▸ okN_can h⟩
def zv (x : Zs) : Int := if x.1 then -(val x.2 : Int) else val x.2
theorem ofZ_eq (n : Int) : ofZ n = (decide (n < 0), canon n.natAbs) := by
 unfold ofZ mkZ
 by_cases h : n < 0
 ·rw [decide_eq_true h, Bool.true_and, decide_eq_false (by rw [canon_nil]; omega)]; rfl
 ·rw [decide_eq_false h, Bool.false_and]
theorem zv_ofZ (n : Int) : zv (ofZ n) = n := by
 rw [ofZ_eq, zv]
 by_cases h : n < 0
 ·rw [if_pos (by simpa using h), val_canon]; omega
 ·rw [if_neg (by simpa using h), val_canon]; omega
theorem ofZ_zv {x : Zs} (h : okZ x) : ofZ (zv x) = x := by
 obtain ⟨s, a⟩ := x
 have ha : okN a := h.1
 have h2 : ¬ (s = true ∧ a = []) := h.2
 have hc := ok_canon ha
 rw [ofZ_eq, zv]
 cases s with
 | false =>
  rw [if_neg (by simp)]
  show (decide ((val a : Int) < 0), canon (val a : Int).natAbs) = (false, a)
  rw [decide_eq_false (by omega), Int.natAbs_natCast, hc]
 | true =>
  rw [if_pos rfl]
  have h0 : val a ≠ 0 := fun h0 => h2 ⟨rfl, (val_eq_zero ha.2).1 h0⟩
  show (decide (-(val a : Int) < 0), canon (-(val a : Int)).natAbs) = (true, a)
  rw [decide_eq_true (by omega), Int.natAbs_neg, Int.natAbs_natCast, hc]
theorem okZ_ofZ {n : Int} : okZ (ofZ n) ↔ n.natAbs < Big := by
 rw [ofZ_eq]
 constructor
 ·intro h; have := okN_val h.1; rwa [show val (canon n.natAbs) = n.natAbs from val_canon _] at this
 ·intro h
  refine ⟨okN_can h, ?_⟩
  rintro ⟨h1, h2⟩
  have h1' : n < 0 := by simpa using h1
  have h2' : n.natAbs = 0 := canon_nil.1 h2
  omega
theorem okZ_zv {x : Zs} (h : okZ x) : (zv x).natAbs < Big := by rw [← ofZ_zv h] at h; exact okZ_ofZ.1 h
/-- a valid integer is that of a small number -/
theorem okZ_iff {x : Zs} : okZ x ↔ ∃ n : Int, n.natAbs < Big ∧ x = ofZ n := ⟨fun h => ⟨zv x, okZ_zv h, (ofZ_zv h).symm⟩, fun ⟨n, h, e⟩ => e ▸ okZ_ofZ.2 h⟩
theorem ofZ_inj {a b : Int} : ofZ a = ofZ b ↔ a = b := ⟨fun h => by rw [← zv_ofZ a, h, zv_ofZ], fun h => by rw [h]⟩
theorem ofZ_nat (n : Nat) : ofZ n = (false, canon n) := by rw [ofZ_eq, decide_eq_false (by omega), Int.natAbs_natCast]
theorem ofZ_zero : ofZ 0 = (false, []) := by rw [ofZ_eq]; exact congrArg (Prod.mk false) canon_zero
theorem mkZ_of (s : Bool) (n : Nat) : mkZ s (canon n) = ofZ (if s then -(n : Int) else n) := by
 cases s with
 | false => rw [if_neg (by simp), ofZ_nat]; rfl
 | true =>
  rw [if_pos rfl, ofZ_eq, Int.natAbs_neg, Int.natAbs_natCast, mkZ, Bool.true_and]
  congr 1
  by_cases h : n = 0
  ·subst h; rw [canon_zero]; rfl
  ·rw [decide_eq_false (by rw [canon_nil]; exact h), decide_eq_true (by omega)]; rfl
theorem negZ_of {n : Int} (h : n.natAbs < Big) : negZ (ofZ n) = ofZ (-n) := by
 rw [negZ, if_pos (okZ_ofZ.2 h), ofZ_eq, mkZ_of]
 by_cases h1 : n < 0
 ·rw [decide_eq_true h1]; simp only [Bool.not_true, Bool.false_eq_true, if_false]; congr 1; omega
 ·rw [decide_eq_false h1]; simp only [Bool.not_false, if_true]; congr 1; omega
theorem addZ_of {a b : Int} (ha : a.natAbs < Big) (hb : b.natAbs < Big) : addZ (ofZ a) (ofZ b) = if (a + b).natAbs < Big then (ofZ (a + b), 0) else ((false, []), 5) := by
 obtain ⟨G, hG⟩ : ∃ G, G = Big := ⟨_, rfl⟩
 rw [addZ, if_pos ⟨okZ_ofZ.2 ha, okZ_ofZ.2 hb⟩]
 rw [ofZ_eq a, ofZ_eq b]
 simp only [val_canon]
 rw [← hG] at ha hb ⊢
 by_cases hs : decide (a < 0) = decide (b < 0)
 ·rw [if_pos hs]
  have hs' : (a < 0) ↔ (b < 0) := by simpa using hs
  have hn : (a + b).natAbs = a.natAbs + b.natAbs := by by_cases h1 : a < 0 <;> have := hs'.1 <;> have := hs'.2 <;> omega
  rw [addN, if_pos ⟨okN_can (by rw [← hG]; exact ha), okN_can (by rw [← hG]; exact hb)⟩, val_canon, val_canon, ← hG, hn]
  by_cases hl : a.natAbs + b.natAbs < G
  ·rw [if_pos hl, if_pos hl]
   show (mkZ (decide (a < 0)) (canon (a.natAbs + b.natAbs)), (0 : Int)) = _
   rw [mkZ_of]
   congr 2
   by_cases h1 : a < 0
   ·rw [if_pos (by simpa using h1)]; omega
   ·rw [if_neg (by simpa using h1)]; have := hs'.2; omega
  ·rw [if_neg hl, if_neg hl]
   show (mkZ (decide (a < 0)) [], (5 : Int)) = _
   rw [mkZ]; simp
 ·rw [if_neg hs]
  have hs' : ¬ ((a < 0) ↔ (b < 0)) := by simpa using hs
  have hl : (a + b).natAbs < G := by omega
  rw [if_pos hl]
  by_cases h1 : a.natAbs < b.natAbs
  ·rw [if_pos h1, mkZ_of]
   congr 2
   by_cases h2 : b < 0
   ·rw [if_pos (by simpa using h2)]; omega
   ·rw [if_neg (by simpa using h2)]; omega
  ·rw [if_neg h1, mkZ_of]
   congr 2
   by_cases h2 : a < 0
   ·rw [if_pos (by simpa using h2)]; omega
   ·rw [if_neg (by simpa using h2)]; omega
theorem subZ_of {a b : Int} (ha : a.natAbs < Big) (hb : b.natAbs < Big) : subZ (ofZ a) (ofZ b) = if (a - b).natAbs < Big then (ofZ (a - b), 0) else ((false, []), 5) := by
 rw [subZ, if_pos ⟨okZ_ofZ.2 ha, okZ_ofZ.2 hb⟩, negZ_of hb, addZ_of ha (by omega), Int.sub_eq_add_neg]
theorem cmpN_of {a b : Nat} (ha : a < Big) (hb : b < Big) : cmpN (canon a) (canon b) = cmpI a b := by rw [cmpN_ok (okN_can ha) (okN_can hb), val_canon, val_canon]
theorem addN_of {a b : Nat} (ha : a < Big) (hb : b < Big) : addN (canon a) (canon b) = if a + b < Big then (canon (a + b), 0) else ([], 5) := by rw [addN, if_pos ⟨okN_can ha, okN_can hb⟩, val_canon, val_canon]
theorem subN_of {a b : Nat} (ha : a < Big) (hb : b < Big) : subN (canon a) (canon b) = if a < b then ([], 2) else (canon (a - b), 0) := by rw [subN, if_pos ⟨okN_can ha, okN_can hb⟩, val_canon, val_canon]
end Go.Proofs.YtnimhldbblfgbaaGreat
namespace Go.Proofs.YtnimhldbblfgbaaGreat
set_option linter.unusedVariables false
set_option linter.unusedSimpArgs false
open Go.RowKit
section
variable {ds : List Deferred} {ρ : Option Nat} {P : Program} {ok : Nat → Prop} {w0 w : World} {own ext : List Ent} {fs : List Fact} {γ : Type} {f : FuncId} {args : Array Value} {val : γ → Value} {p : γ → Prop} {F : γ → List Fact} {a : Option Addr} {xs : List Value}
theorem keep_ff (h : ∀ w, St ok w0 own fs w → Calls P f args w (fun e w' => ∃ g, e = .returned (val g) ∧ p g ∧ Below w.heap.size w w' ∧ ∀ x ∈ F g, x.holds (fun b => (ok b ∧ b ∉ ids own) ∨ w.heap.size ≤ b) w')) :
  ∀ w, St ok w0 own fs w → Calls P f args w (fun e w' => ∃ g, e = .returned (val g) ∧ p g ∧ St ok w0 own (F g ++ fs) w') :=
 fun w hS => (h w hS).mono fun _ w' ⟨g, he, hp, hb, hF⟩ => ⟨g, he, hp, by
  have h1 := hS.keep hb
  refine ⟨h1.okn, h1.below, h1.own_, h1.nd, fun x hx => (List.mem_append.1 hx).elim (fun hx => ?_) (h1.fact x)⟩
  exact x.mono (fun b hb => hb.elim id (hS.fresh b)) (hF x hx)⟩
theorem St.slo (h : St ok w0 own fs w) [hf : HasF fs a xs] : (Fact.sl a xs).holds (fun b => ok b ∧ b ∉ ids own) w := by
 obtain ⟨k, hk⟩ := hf.h.get; exact h.fact _ (List.mem_of_getElem? hk)
theorem St.slk (h : St ok w0 own fs w) [hf : HasF fs a xs] : (Fact.sl a xs).holds ok w := (Fact.sl a xs).mono (fun _ h => h.1) h.slo
theorem St.moreo {more : List Fact} (hS : St ok w0 own fs w) [h : HasM fs more] : ∀ f ∈ more, f.holds (fun b => ok b ∧ b ∉ ids own) w := fun f hf => hS.fact f (h.h f hf)
theorem St.morek {more : List Fact} (hS : St ok w0 own fs w) [h : HasM fs more] : ∀ f ∈ more, f.holds ok w := fun f hf => f.mono (fun _ h => h.1) (hS.fact f (h.h f hf))
theorem St.ock (h : St ok w0 own fs w) {ob : Option Nat} {sp : List Value} {T : TypeId} {C : Ent → List Ent} [hf : HasC own ob (xs ++ sp) T C] : (Fact.sl (ob.map fun b => ⟨b, 0, none⟩) xs).holds ok w := by
 obtain ⟨k, hk, _⟩ := hf.h.get
 have := h.own_ _ (List.mem_of_getElem? hk)
 cases ob with
 | none => exact .inl (by have h1 : xs ++ sp = [] := this; simp at h1; exact h1.1)
 | some b =>
  refine .inr ⟨b, 0, (xs ++ sp).toArray, T, (0, 0), rfl, h.okn b this.1, this.2, fun i hi => ?_⟩
  rw [Nat.zero_add, List.getElem?_toArray, List.getElem?_append_left hi]
theorem st_mem {own' : List Ent} {fs' : List Fact} (hf : ∀ f ∈ fs, f ∈ fs') [h1 : SubL own own'] : ∀ w, St ok w0 own' fs' w → St ok w0 own fs w := fun w h => h.sub h1.h hf
theorem sl_nilk : (Fact.sl a []).holds ok w := .inl rfl
theorem facts_or {fs : List Fact} {ok' : Nat → Prop} (h : ∀ f ∈ fs, f.holds ok w) : ∀ f ∈ fs, f.holds (fun b => ok b ∨ ok' b) w := fun f hf => f.mono (fun _ h => .inl h) (h f hf)
end
end Go.Proofs.YtnimhldbblfgbaaGreat
