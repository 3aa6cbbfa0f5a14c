/-
  natural: differences, bits; the reference's numbers.
-/
import Derived.Test.YtbcnnkcddilfjaaGreatNtl1
namespace Go.Proofs.YtbcnnkcddilfjaaGreat
set_option linter.unusedSimpArgs false
set_option linter.unusedVariables false
set_option maxRecDepth 20000
set_option maxHeartbeats 600000
open Go.RowKit

theorem borrow_le (a b i : Nat) : borrowB a b i ≤ 1 := by unfold borrowB; split <;> omega
theorem borrow_succ (a b i : Nat) : borrowB a b (i + 1) = if a / 256 ^ i % 256 < b / 256 ^ i % 256 + borrowB a b i then 1 else 0 := by
  have e1 : a % 256 ^ (i + 1) = a % 256 ^ i + 256 ^ i * (a / 256 ^ i % 256) := by rw [Nat.pow_succ, Nat.mod_mul]
  have e2 : b % 256 ^ (i + 1) = b % 256 ^ i + 256 ^ i * (b / 256 ^ i % 256) := by rw [Nat.pow_succ, Nat.mod_mul]
  have m1 := Nat.mod_lt a (p256 i); have m2 := Nat.mod_lt b (p256 i)
  unfold borrowB
  rw [e1, e2]
  generalize 256 ^ i = P at *
  generalize a / P % 256 = x at *
  generalize b / P % 256 = y at *
  rcases Nat.lt_trichotomy x y with q | q | q
  · have h1 : P * (x + 1) ≤ P * y := Nat.mul_le_mul_left _ q
    rw [Nat.mul_add, Nat.mul_one] at h1
    rw [if_pos (by omega)]
    split <;> rw [if_pos (by omega)]
  · subst q
    by_cases h : a % P < b % P
    · rw [if_pos (by omega), if_pos h, if_pos (by omega)]
    · rw [if_neg (by omega), if_neg h, if_neg (by omega)]
  · have h1 : P * (y + 1) ≤ P * x := Nat.mul_le_mul_left _ q
    rw [Nat.mul_add, Nat.mul_one] at h1
    rw [if_neg (by omega)]
    split <;> rw [if_neg (by omega)]
theorem sub_byte {a b : Nat} (h : b ≤ a) (i : Nat) (x : Int) (hx : x = (a / 256 ^ i % 256 : Nat) - (b / 256 ^ i % 256 : Nat) - (borrowB a b i : Nat) ∨ x = (a / 256 ^ i % 256 : Nat) - (b / 256 ^ i % 256 : Nat) - (borrowB a b i : Nat) + 256) :
    IntKind.u8.wrap x = ((UInt8.ofNat ((a - b) / 256 ^ i)).toNat : Int) := by
  obtain ⟨h1, h2⟩ := borrow_div h i
  have h3 := borrow_le a b i
  rw [IntKind.wrap_u8, UInt8.toNat_ofNat', h1]
  omega
theorem less_c {a b : Bs} {w : World} (hle : val b ≤ val a) (ha : a.length ≤ 1000000) (hb : b.length ≤ 1000000) :
    Calls Tryz.prog 68 #[.string (S a), .string (S b)] w fun e w' => e = .returned (.string (S (canon (val a - val b)))) ∧ Below w.heap.size w w' := by
  have hS256 : val a - val b < 256 ^ a.length := Nat.lt_of_le_of_lt (Nat.sub_le _ _) (val_lt a)
  refine enter (S := St (fun _ => True) w [] ([])) (L := [(0, .string (S a)), (1, .string (S b))]) Tryz.func68 rfl Tryz.ntmps68 rfl (args_cons rfl (args_cons rfl (args_nil _))) (St.start (fun _ _ => trivial) facts_nil) ?_
  refine WC.sr ?_
  refine WL.r rfl rfl rfl (rd_assign rfl rfl) ?_
  refine WL.nt ?_
  refine WC.sr ?_
  refine WL.r rfl rfl rfl (rd_move rfl rfl) ?_
  refine WL.r rfl rfl rfl (rd_slen rfl rfl Tryz.underlying22) ?_
  refine WL.r rfl rfl rfl (rd_assign rfl rfl) ?_
  refine WL.nt ?_
  refine WC.sr ?_
  refine WL.r rfl rfl rfl (rd_move rfl rfl) ?_
  refine WL.g rfl rfl rfl (og_mk rfl rfl rfl Tryz.underlying79 (by kernel_rfl : _ = some (some (.int .u8 0), 1, 1)) rfl ?_ (by (try simp only [sN, Int.reduceToNat, Nat.reduceAdd, Nat.reduceMul, Nat.reduceSub]); rfl) (by (try simp only [sN, Int.reduceToNat, Nat.reduceAdd, Nat.reduceMul, Nat.reduceSub]); rfl)) ?_
  · omega
  intro b13
  refine WL.r rfl rfl rfl (rd_assign rfl rfl) ?_
  refine WL.nt ?_
  refine WC.sr ?_
  refine WL.r rfl rfl rfl (rd_assign rfl rfl) ?_
  refine WL.set 7 rfl (v' := .int .i64 ((borrowB (val a) (val b) 0 : Nat) : Int)) (congrArg (Value.int .i64) (by rw [borrowB_zero]; rfl)) ?_
  refine WL.nt ?_
  refine WC.seq ?_
  refine WC.sr ?_
  refine WL.r rfl rfl rfl (rd_move rfl rfl) ?_
  refine WL.r rfl rfl rfl (rd_move rfl rfl) ?_
  refine WL.nt ?_
  refine WC.block ?_
  refine WC.loopO (σ := Nat) [(0, _), (1, _), (4, _), (5, _), (6, _), (14, _)] (fun g => [(7, .int .i64 (borrowB (val a) (val b) g : Int)), (15, .int .i64 (g : Int))]) (fun g => g ≤ a.length) (fun g => a.length - g) (fun g => [⟨some b13, lowB a.length g (val a - val b), 5⟩]) (fun g => []) (0) (sub_cons rfl (sub_cons rfl (sub_cons rfl (sub_cons rfl (sub_cons rfl (sub_cons rfl (sub_nil _))))))) (sub_cons rfl (sub_cons rfl (sub_nil _))) (by (try dsimp only); exact Nat.zero_le _) (by exact fun w h => by rw [lowB_zero]; exact h) ?_
  rintro k hinv1; (try dsimp only at hinv1 ⊢)
  obtain hk := hinv1
  refine WC.sr ?_
  refine WL.r rfl rfl rfl (rd_lss rfl rfl rfl) ?_
  refine WL.nt ?_
  refine WC.seq ?_
  refine WC.cond rfl (fun hc16 => ?_) (fun hc16 => ?_)
  · (try simp only [sB] at hc16)
    have hc1 := borrow_le (val a) (val b) k
    have hd1 := Nat.mod_lt (val a / 256 ^ k) (show 0 < 256 by decide); have hd2 := Nat.mod_lt (val b / 256 ^ k) (show 0 < 256 by decide)
    refine WC.skip ?_
    refine WX.then_normal ?_
    refine WC.seq ?_
    refine WC.block ?_
    refine WC.sr ?_
    refine WL.r rfl rfl rfl (rd_move rfl rfl) ?_
    refine WL.r rfl rfl rfl (rd_assign rfl rfl) ?_
    refine WL.nt ?_
    refine WC.sr ?_
    refine WL.r rfl rfl rfl (rd_move rfl rfl) ?_
    refine WL.r rfl rfl rfl (rd_move rfl rfl) ?_
    refine WL.g rfl rfl rfl (og_call rfl rfl (by kernel_rfl) (keep_val fun w hS => digit_c (a := a) (i := k) (by omega) (by omega))) ?_
    intro _
    refine WL.r rfl rfl rfl (rd_move rfl rfl) ?_
    refine WL.r rfl rfl rfl (rd_move rfl rfl) ?_
    refine WL.g rfl rfl rfl (og_call rfl rfl (by kernel_rfl) (keep_val fun w hS => digit_c (a := b) (i := k) (by omega) (by omega))) ?_
    intro _
    (refine WL.r rfl rfl rfl (rd_sub64 rfl rfl rfl ?_) ?_; (focus (omega)))
    refine WL.set 24 rfl (v' := .int .i64 ((((val a / 256 ^ k % 256 : Nat) : Int) - ((val b / 256 ^ k % 256 : Nat) : Int)))) (congrArg (Value.int .i64) (by omega)) ?_
    refine WL.r rfl rfl rfl (rd_move rfl rfl) ?_
    (refine WL.r rfl rfl rfl (rd_sub64 rfl rfl rfl ?_) ?_; (focus (omega)))
    refine WL.r rfl rfl rfl (rd_assign rfl rfl) ?_
    refine WL.nt ?_
    refine WC.sr ?_
    refine WL.r rfl rfl rfl (rd_assign rfl rfl) ?_
    refine WL.nt ?_
    refine WC.seq ?_
    refine WC.sr ?_
    refine WL.r rfl rfl rfl (rd_move rfl rfl) ?_
    refine WL.r rfl rfl rfl (rd_lss rfl rfl rfl) ?_
    refine WL.nt ?_
    refine WC.cond rfl (fun hc28 => ?_) (fun hc28 => ?_)
    · (try simp only [sB] at hc28)
      refine WC.sr ?_
      refine WL.r rfl rfl rfl (rd_move rfl rfl) ?_
      (refine WL.r rfl rfl rfl (rd_add64 rfl rfl rfl ?_) ?_; (focus (omega)))
      refine WL.r rfl rfl rfl (rd_assign rfl rfl) ?_
      refine WL.nt ?_
      refine WC.region ?_
      refine WL.r rfl rfl rfl (rd_assign rfl rfl) ?_
      refine WL.nt ?_
      refine WC.region ?_
      refine WL.set 7 rfl (v' := .int .i64 (borrowB (val a) (val b) (k + 1) : Int)) (congrArg (Value.int .i64) (by rw [borrow_succ]; (rw [if_pos (by omega)]; rfl))) ?_
      refine WL.r rfl rfl rfl (rd_move rfl rfl) ?_
      refine WL.r rfl rfl rfl (rd_move rfl rfl) ?_
      (refine WL.r rfl rfl rfl (rd_sub64nl rfl rfl rfl ?_) ?_; (focus (omega)))
      refine WL.r rfl rfl rfl (rd_move rfl rfl) ?_
      (refine WL.r rfl rfl rfl (rd_sub64n rfl rfl rfl ?_) ?_; (focus (omega)))
      refine WL.set 35 rfl (v' := .int .i64 ((a.length - 1 - k : Nat) : Int)) (congrArg (Value.int .i64) (by omega)) ?_
      refine WL.r rfl rfl rfl (rd_move rfl rfl) ?_
      refine WL.r rfl rfl rfl (rd_conv rfl rfl Tryz.underlying3 Tryz.underlying5) ?_
      refine WL.set 37 rfl (v' := B (UInt8.ofNat ((val a - val b) / 256 ^ k))) (by exact congrArg (Value.int .u8) (sub_byte hle k _ (by omega))) ?_
      (refine WL.r rfl rfl rfl (rd_ia rfl rfl rfl Tryz.underlying79 (by kernel_rfl : _ = some 1) ?_ (by (try simp only [sN, Int.reduceToNat, Nat.reduceAdd, Nat.reduceMul, Nat.reduceSub]); rfl)) ?_; (focus (omega)))
      refine WL.g0 rfl rfl (st rfl rfl rfl .tc (by kernel_rfl) rfl ?_ (by rfl)) ?_
      · rw [lowB_len _ _ _ (by omega)]; omega
      intro _
      refine WL.nil ?_
      refine WX.block_normal ?_
      refine WX.then_normal ?_
      refine WC.region ?_
      (refine WL.r rfl rfl rfl (rd_add64nl rfl rfl rfl ?_) ?_; (focus (omega)))
      refine WL.r rfl rfl rfl (rd_move rfl rfl) ?_
      refine WL.nil ?_
      refine WX.loopO (k + 1) (by (try dsimp only); omega) (sub_cons rfl (sub_cons rfl (sub_cons rfl (sub_cons rfl (sub_cons rfl (sub_cons rfl (sub_nil _))))))) (by refine (sub_cons ?_ (sub_cons ?_ (sub_nil _))) <;> (rfl)) ?_ (by exact fun w h => by rw [← lowB_set a.length k _ (by omega)]; exact h)
      (try dsimp only)
      omega
    · (try simp only [sB] at hc28)
      refine WC.skip ?_
      refine WX.then_normal ?_
      refine WC.region ?_
      refine WL.set 7 rfl (v' := .int .i64 (borrowB (val a) (val b) (k + 1) : Int)) (congrArg (Value.int .i64) (by rw [borrow_succ]; (rw [if_neg (by omega)]; rfl))) ?_
      refine WL.r rfl rfl rfl (rd_move rfl rfl) ?_
      refine WL.r rfl rfl rfl (rd_move rfl rfl) ?_
      (refine WL.r rfl rfl rfl (rd_sub64nl rfl rfl rfl ?_) ?_; (focus (omega)))
      refine WL.r rfl rfl rfl (rd_move rfl rfl) ?_
      (refine WL.r rfl rfl rfl (rd_sub64n rfl rfl rfl ?_) ?_; (focus (omega)))
      refine WL.set 35 rfl (v' := .int .i64 ((a.length - 1 - k : Nat) : Int)) (congrArg (Value.int .i64) (by omega)) ?_
      refine WL.r rfl rfl rfl (rd_move rfl rfl) ?_
      refine WL.r rfl rfl rfl (rd_conv rfl rfl Tryz.underlying3 Tryz.underlying5) ?_
      refine WL.set 37 rfl (v' := B (UInt8.ofNat ((val a - val b) / 256 ^ k))) (by exact congrArg (Value.int .u8) (sub_byte hle k _ (by omega))) ?_
      (refine WL.r rfl rfl rfl (rd_ia rfl rfl rfl Tryz.underlying79 (by kernel_rfl : _ = some 1) ?_ (by (try simp only [sN, Int.reduceToNat, Nat.reduceAdd, Nat.reduceMul, Nat.reduceSub]); rfl)) ?_; (focus (omega)))
      refine WL.g0 rfl rfl (st rfl rfl rfl .tc (by kernel_rfl) rfl ?_ (by rfl)) ?_
      · rw [lowB_len _ _ _ (by omega)]; omega
      intro _
      refine WL.nil ?_
      refine WX.block_normal ?_
      refine WX.then_normal ?_
      refine WC.region ?_
      (refine WL.r rfl rfl rfl (rd_add64nl rfl rfl rfl ?_) ?_; (focus (omega)))
      refine WL.r rfl rfl rfl (rd_move rfl rfl) ?_
      refine WL.nil ?_
      refine WX.loopO (k + 1) (by (try dsimp only); omega) (sub_cons rfl (sub_cons rfl (sub_cons rfl (sub_cons rfl (sub_cons rfl (sub_cons rfl (sub_nil _))))))) (by refine (sub_cons ?_ (sub_cons ?_ (sub_nil _))) <;> (rfl)) ?_ (by exact fun w h => by rw [← lowB_set a.length k _ (by omega)]; exact h)
      (try dsimp only)
      omega
  · (try simp only [sB] at hc16)
    refine WC.exit ?_
    refine WX.then_exit ?_
    refine WX.then_exit ?_
    refine WX.block_exit ?_
    obtain rfl : k = a.length := by omega
    rw [lowB_full]
    refine WX.then_normal ?_
    refine WC.sr ?_
    refine WL.r rfl rfl rfl (rd_move rfl rfl) ?_
    refine WL.g rfl rfl rfl (og_call rfl rfl (by kernel_rfl) (keep_val fun w hS => trimmed_c (b := be a.length (val a - val b)) (by (exact hS.os)) (by rw [be_len]) (by rw [be_len]; exact Nat.le_refl _) (by rw [be_len]; omega))) ?_
    intro _
    refine WL.r rfl rfl rfl (rd_assign rfl rfl) ?_
    refine WL.nt ?_
    refine WC.ret ?_
    exact WX.retN rfl (.tmp rfl .nil) fun w' hS => ⟨by rw [val_be, Nat.mod_eq_of_lt hS256]; rfl, hS.below⟩
def subN (a b : Bs) : Bs × Int := if okN a ∧ okN b then (if val a < val b then ([], 2) else (canon (val a - val b), 0)) else ([], 3)
theorem cmpI_neg (a b : Nat) : cmpI a b < 0 ↔ a < b := by
  unfold cmpI
  constructor
  · intro h; split at h <;> (try split at h) <;> omega
  · intro h; rw [if_pos (by omega)]; decide
theorem sub_c {a b : Bs} {w : World} :
    Calls Tryz.prog 46 #[.string (S a), .string (S b)] w fun e w' => e = .returned (NE (subN a b)) ∧ Below w.heap.size w w' := by
  refine enter (S := St (fun _ => True) w [] ([])) (L := [(0, .string (S a)), (1, .string (S b))]) Tryz.func46 rfl Tryz.ntmps46 rfl (args_cons rfl (args_cons rfl (args_nil _))) (St.start (fun _ _ => trivial) facts_nil) ?_
  refine WC.sr ?_
  refine WL.r rfl rfl rfl (rd_assign rfl rfl) ?_
  refine WL.r rfl rfl rfl (rd_assign rfl rfl) ?_
  refine WL.nt ?_
  refine WC.seq ?_
  refine WC.sr ?_
  refine WL.r rfl rfl rfl (rd_move rfl rfl) ?_
  refine WL.g rfl rfl rfl (og_call rfl rfl (by kernel_rfl) (keep_val fun w hS => valid_c)) ?_
  intro _
  refine WL.r rfl rfl rfl (rd_not rfl rfl) ?_
  refine WL.r rfl rfl rfl (rd_move rfl rfl) ?_
  refine WL.bool 9 rfl (fun hg9 => ?_) (fun hg9 => ?_)
  · (try simp only [sB] at hg9)
    refine WL.s rfl rfl rfl ?_
    refine WL.s rfl rfl rfl ?_
    refine WL.s rfl rfl rfl ?_
    refine WL.r rfl rfl rfl (rd_pickt rfl rfl rfl) ?_
    refine WL.nt ?_
    refine WC.cond rfl (fun _ => ?_) (fun h => by cases h)
    refine WC.sr ?_
    refine WL.r rfl rfl rfl (rd_assign rfl rfl) ?_
    refine WL.r rfl rfl rfl (rd_assign rfl rfl) ?_
    refine WL.nt ?_
    refine WC.ret ?_
    refine WX.then_ret ?_
    exact WX.retN rfl (.tmp rfl (.tmp rfl .nil)) fun w' hS => ⟨by rw [subN, if_neg (by simp_all)]; rfl, hS.below⟩
  · (try simp only [sB] at hg9)
    refine WL.r rfl rfl rfl (rd_move rfl rfl) ?_
    refine WL.g rfl rfl rfl (og_call rfl rfl (by kernel_rfl) (keep_val fun w hS => valid_c)) ?_
    intro _
    refine WL.r rfl rfl rfl (rd_not rfl rfl) ?_
    refine WL.r rfl rfl rfl (rd_pickf rfl rfl rfl) ?_
    refine WL.nt ?_
    refine WC.cond rfl (fun hc13 => ?_) (fun hc13 => ?_)
    · (try simp only [sB] at hc13)
      refine WC.sr ?_
      refine WL.r rfl rfl rfl (rd_assign rfl rfl) ?_
      refine WL.r rfl rfl rfl (rd_assign rfl rfl) ?_
      refine WL.nt ?_
      refine WC.ret ?_
      refine WX.then_ret ?_
      exact WX.retN rfl (.tmp rfl (.tmp rfl .nil)) fun w' hS => ⟨by rw [subN, if_neg (by simp_all)]; rfl, hS.below⟩
    · (try simp only [sB] at hc13)
      have hab : okN a ∧ okN b := by simp_all
      have hal := hab.1.1; have hbl := hab.2.1
      refine WC.skip ?_
      refine WX.then_normal ?_
      refine WC.seq ?_
      refine WC.sr ?_
      refine WL.r rfl rfl rfl (rd_move rfl rfl) ?_
      refine WL.r rfl rfl rfl (rd_move rfl rfl) ?_
      refine WL.g rfl rfl rfl (og_call rfl rfl (by kernel_rfl) (keep_val fun w hS => compare_c (a := a) (b := b) (by exact hab.1.2) (by exact hab.2.2))) ?_
      intro _
      refine WL.r rfl rfl rfl (rd_lss rfl rfl rfl) ?_
      refine WL.nt ?_
      refine WC.cond rfl (fun hc17 => ?_) (fun hc17 => ?_)
      · (try simp only [sB] at hc17)
        rw [cmpI_neg] at hc17
        refine WC.sr ?_
        refine WL.r rfl rfl rfl (rd_assign rfl rfl) ?_
        refine WL.r rfl rfl rfl (rd_assign rfl rfl) ?_
        refine WL.nt ?_
        refine WC.ret ?_
        refine WX.then_ret ?_
        exact WX.retN rfl (.tmp rfl (.tmp rfl .nil)) fun w' hS => ⟨by rw [subN, if_pos hab, if_pos hc17]; rfl, hS.below⟩
      · (try simp only [sB] at hc17)
        have hle : val b ≤ val a := Nat.not_lt.1 fun h => by have := (cmpI_neg _ _).2 h; omega
        refine WC.skip ?_
        refine WX.then_normal ?_
        refine WC.sr ?_
        refine WL.r rfl rfl rfl (rd_move rfl rfl) ?_
        refine WL.r rfl rfl rfl (rd_move rfl rfl) ?_
        refine WL.g rfl rfl rfl (og_call rfl rfl (by kernel_rfl) (keep_val fun w hS => less_c (a := a) (b := b) (by assumption) (by omega) (by omega))) ?_
        intro _
        refine WL.r rfl rfl rfl (rd_assign rfl rfl) ?_
        refine WL.r rfl rfl rfl (rd_assign rfl rfl) ?_
        refine WL.nt ?_
        refine WC.ret ?_
        exact WX.retN rfl (.tmp rfl (.tmp rfl .nil)) fun w' hS => ⟨by rw [subN, if_pos hab, if_neg (by omega)]; rfl, hS.below⟩
def bitsN (a : Bs) : Nat := if a = [] then 0 else 8 * (a.length - 1) + Lib.bitLen (a.getD 0 default).toNat
theorem bitLenAux_le : ∀ f x, Lib.bitLenAux f x ≤ f
  | 0, x => by simp [Lib.bitLenAux]
  | f + 1, x => by unfold Lib.bitLenAux; split; omega; have := bitLenAux_le f (x / 2); omega
theorem bitLen_le (x : Nat) : Lib.bitLen x ≤ 64 := bitLenAux_le 64 x
theorem bits_c {a : Bs} {w : World} :
    Calls Tryz.prog 52 #[.string (S a)] w fun e w' => e = .returned (.int .i64 ((if okN a then bitsN a else 0 : Nat) : Int)) ∧ Below w.heap.size w w' := by
  refine enter (S := St (fun _ => True) w [] ([])) (L := [(0, .string (S a))]) Tryz.func52 rfl Tryz.ntmps52 rfl (args_cons rfl (args_nil _)) (St.start (fun _ _ => trivial) facts_nil) ?_
  refine WC.sr ?_
  refine WL.r rfl rfl rfl (rd_assign rfl rfl) ?_
  refine WL.nt ?_
  refine WC.seq ?_
  refine WC.sr ?_
  refine WL.r rfl rfl rfl (rd_move rfl rfl) ?_
  refine WL.g rfl rfl rfl (og_call rfl rfl (by kernel_rfl) (keep_val fun w hS => valid_c)) ?_
  intro _
  refine WL.r rfl rfl rfl (rd_not rfl rfl) ?_
  refine WL.r rfl rfl rfl (rd_move rfl rfl) ?_
  refine WL.bool 6 rfl (fun hg6 => ?_) (fun hg6 => ?_)
  · (try simp only [sB] at hg6)
    refine WL.s rfl rfl rfl ?_
    refine WL.s rfl rfl rfl ?_
    refine WL.r rfl rfl rfl (rd_pickt rfl rfl rfl) ?_
    refine WL.nt ?_
    refine WC.cond rfl (fun _ => ?_) (fun h => by cases h)
    refine WC.sr ?_
    refine WL.r rfl rfl rfl (rd_assign rfl rfl) ?_
    refine WL.nt ?_
    refine WC.ret ?_
    refine WX.then_ret ?_
    exact WX.retN rfl (.tmp rfl .nil) fun w' hS => ⟨by (rw [if_neg hg6]; rfl), hS.below⟩
  · (try simp only [sB] at hg6)
    refine WL.r rfl rfl rfl (rd_move rfl rfl) ?_
    refine WL.r rfl rfl rfl (rd_seq rfl rfl rfl) ?_
    refine WL.r rfl rfl rfl (rd_pickf rfl rfl rfl) ?_
    refine WL.nt ?_
    refine WC.cond rfl (fun hc9 => ?_) (fun hc9 => ?_)
    · (try simp only [sB] at hc9)
      refine WC.sr ?_
      refine WL.r rfl rfl rfl (rd_assign rfl rfl) ?_
      refine WL.nt ?_
      refine WC.ret ?_
      refine WX.then_ret ?_
      exact WX.retN rfl (.tmp rfl .nil) fun w' hS => ⟨by (rw [hc9]; simp [bitsN, tup]), hS.below⟩
    · (try simp only [sB] at hc9)
      have hok : okN a := by simp_all
      have hne : a ≠ [] := by simp_all
      have hl0 : 0 < a.length := List.length_pos_iff.2 hne
      have hal := hok.1
      have hbl := bitLen_le (a.getD 0 default).toNat
      refine WC.skip ?_
      refine WX.then_normal ?_
      refine WC.sr ?_
      refine WL.r rfl rfl rfl (rd_move rfl rfl) ?_
      refine WL.r rfl rfl rfl (rd_slen rfl rfl Tryz.underlying22) ?_
      (refine WL.r rfl rfl rfl (rd_sub64nl rfl rfl rfl ?_) ?_; (focus (omega)))
      (refine WL.r rfl rfl rfl (rd_mul64ln rfl rfl rfl ?_) ?_; (focus (omega)))
      refine WL.r rfl rfl rfl (rd_move rfl rfl) ?_
      refine WL.r rfl rfl rfl (rd_sidxD rfl rfl rfl Tryz.underlying22 ?_) ?_
      · omega
      refine WL.g rfl rfl rfl (og_call rfl rfl (by kernel_rfl) (keep_val fun w hS => len8_c (x := (a.getD 0 default).toNat) (by exact (a.getD 0 default).toNat_lt))) ?_
      intro _
      (refine WL.r rfl rfl rfl (rd_add64n rfl rfl rfl ?_) ?_; (focus (omega)))
      refine WL.r rfl rfl rfl (rd_assign rfl rfl) ?_
      refine WL.nt ?_
      refine WC.ret ?_
      exact WX.retN rfl (.tmp rfl .nil) fun w' hS => ⟨by rw [if_pos hok, bitsN, if_neg hne]; rfl, hS.below⟩
theorem rcan (a : Bs) : okN a ↔ a.length ≤ 128 ∧ (a = [] ∨ (a.getD 0 default).toNat ≠ 0) := by
  rw [okN, can_iff]; cases a <;> simp
theorem rvalid_c {a : Bs} {w : World} :
    Calls Tryz.prog 18 #[.string (S a)] w fun e w' => e = .returned (.bool (decide (okN a))) ∧ Below w.heap.size w w' := by
  have hci := rcan a
  refine enter (S := St (fun _ => True) w [] ([])) (L := [(0, .string (S a))]) Tryz.func18 rfl Tryz.ntmps18 rfl (args_cons rfl (args_nil _)) (St.start (fun _ _ => trivial) facts_nil) ?_
  refine WC.sr ?_
  refine WL.r rfl rfl rfl (rd_assign rfl rfl) ?_
  refine WL.nt ?_
  refine WC.sr ?_
  refine WL.r rfl rfl rfl (rd_move rfl rfl) ?_
  refine WL.r rfl rfl rfl (rd_slen rfl rfl Tryz.underlying22) ?_
  refine WL.r rfl rfl rfl (rd_leq rfl rfl rfl) ?_
  refine WL.r rfl rfl rfl (rd_move rfl rfl) ?_
  refine WL.bool 6 rfl (fun hg6 => ?_) (fun hg6 => ?_)
  · (try simp only [sB] at hg6)
    refine WL.r rfl rfl rfl (rd_move rfl rfl) ?_
    refine WL.r rfl rfl rfl (rd_seq rfl rfl rfl) ?_
    refine WL.r rfl rfl rfl (rd_move rfl rfl) ?_
    refine WL.bool 9 rfl (fun hg9 => ?_) (fun hg9 => ?_)
    · (try simp only [sB] at hg9)
      refine WL.s rfl rfl rfl ?_
      refine WL.s rfl rfl rfl ?_
      refine WL.s rfl rfl rfl ?_
      refine WL.r rfl rfl rfl (rd_pickt rfl rfl rfl) ?_
      refine WL.r rfl rfl rfl (rd_pickt rfl rfl rfl) ?_
      refine WL.r rfl rfl rfl (rd_assign rfl rfl) ?_
      refine WL.nt ?_
      refine WC.ret ?_
      exact WX.retN rfl (.tmp rfl .nil) fun w' hS => ⟨congrArg (fun b => Ending.returned (.bool b)) (by
        first
          | (symm; rw [decide_eq_true_eq, hci]; exact ⟨by omega, .inl (by simp_all)⟩)
          | (symm; rw [decide_eq_false_iff_not, hci]; rintro ⟨h, _⟩; omega)
          | (show (!decide ((((a.getD 0 default).toNat : Nat) : Int) = 0)) = _
             rw [Bool.eq_iff_iff]; simp only [Bool.not_eq_true', decide_eq_false_iff_not, decide_eq_true_eq, hci]
             exact ⟨fun h => ⟨by omega, .inr (by omega)⟩, fun h => by have := h.2.resolve_left (by simp_all); omega⟩)), hS.below⟩
    · (try simp only [sB] at hg9)
      refine WL.r rfl rfl rfl (rd_move rfl rfl) ?_
      refine WL.r rfl rfl rfl (rd_sidxD rfl rfl rfl Tryz.underlying22 ?_) ?_
      · (exact ⟨by decide, List.length_pos_iff.2 (by simp_all)⟩)
      refine WL.r rfl rfl rfl (rd_neq rfl rfl rfl) ?_
      refine WL.r rfl rfl rfl (rd_pickf rfl rfl rfl) ?_
      refine WL.r rfl rfl rfl (rd_pickt rfl rfl rfl) ?_
      refine WL.r rfl rfl rfl (rd_assign rfl rfl) ?_
      refine WL.nt ?_
      refine WC.ret ?_
      exact WX.retN rfl (.tmp rfl .nil) fun w' hS => ⟨congrArg (fun b => Ending.returned (.bool b)) (by
        first
          | (symm; rw [decide_eq_true_eq, hci]; exact ⟨by omega, .inl (by simp_all)⟩)
          | (symm; rw [decide_eq_false_iff_not, hci]; rintro ⟨h, _⟩; omega)
          | (show (!decide ((((a.getD 0 default).toNat : Nat) : Int) = 0)) = _
             rw [Bool.eq_iff_iff]; simp only [Bool.not_eq_true', decide_eq_false_iff_not, decide_eq_true_eq, hci]
             exact ⟨fun h => ⟨by omega, .inr (by omega)⟩, fun h => by have := h.2.resolve_left (by simp_all); omega⟩)), hS.below⟩
  · (try simp only [sB] at hg6)
    refine WL.s rfl rfl rfl ?_
    refine WL.s rfl rfl rfl ?_
    refine WL.s rfl rfl rfl ?_
    refine WL.s rfl rfl rfl ?_
    refine WL.s rfl rfl rfl ?_
    refine WL.s rfl rfl rfl ?_
    refine WL.s rfl rfl rfl ?_
    refine WL.r rfl rfl rfl (rd_pickf rfl rfl rfl) ?_
    refine WL.r rfl rfl rfl (rd_assign rfl rfl) ?_
    refine WL.nt ?_
    refine WC.ret ?_
    exact WX.retN rfl (.tmp rfl .nil) fun w' hS => ⟨congrArg (fun b => Ending.returned (.bool b)) (by
      first
        | (symm; rw [decide_eq_true_eq, hci]; exact ⟨by omega, .inl (by simp_all)⟩)
        | (symm; rw [decide_eq_false_iff_not, hci]; rintro ⟨h, _⟩; omega)
        | (show (!decide ((((a.getD 0 default).toNat : Nat) : Int) = 0)) = _
           rw [Bool.eq_iff_iff]; simp only [Bool.not_eq_true', decide_eq_false_iff_not, decide_eq_true_eq, hci]
           exact ⟨fun h => ⟨by omega, .inr (by omega)⟩, fun h => by have := h.2.resolve_left (by simp_all); omega⟩)), hS.below⟩
theorem rat_c {a : Bs} {i : Nat} {w : World} (ha : a.length ≤ 1000000000) (hi : i ≤ 1000000000) :
    Calls Tryz.prog 65 #[.string (S a), .int .i64 (i : Int)] w fun e w' => e = .returned (.int .i64 ((val a / 256 ^ i % 256 : Nat) : Int)) ∧ Below w.heap.size w w' := by
  refine enter (S := St (fun _ => True) w [] ([])) (L := [(0, .string (S a)), (1, .int .i64 (i : Int))]) Tryz.func65 rfl Tryz.ntmps65 rfl (args_cons rfl (args_cons rfl (args_nil _))) (St.start (fun _ _ => trivial) facts_nil) ?_
  refine WC.sr ?_
  refine WL.r rfl rfl rfl (rd_assign rfl rfl) ?_
  refine WL.nt ?_
  refine WC.seq ?_
  refine WC.sr ?_
  refine WL.r rfl rfl rfl (rd_move rfl rfl) ?_
  refine WL.r rfl rfl rfl (rd_move rfl rfl) ?_
  refine WL.r rfl rfl rfl (rd_slen rfl rfl Tryz.underlying22) ?_
  refine WL.r rfl rfl rfl (rd_geq rfl rfl rfl) ?_
  refine WL.nt ?_
  refine WC.cond rfl (fun hc8 => ?_) (fun hc8 => ?_)
  · (try simp only [sB] at hc8)
    refine WC.sr ?_
    refine WL.r rfl rfl rfl (rd_assign rfl rfl) ?_
    refine WL.nt ?_
    refine WC.ret ?_
    refine WX.then_ret ?_
    exact WX.retN rfl (.tmp rfl .nil) fun w' hS => ⟨by rw [val_digit0 a i (by omega)]; rfl, hS.below⟩
  · (try simp only [sB] at hc8)
    refine WC.skip ?_
    refine WX.then_normal ?_
    refine WC.sr ?_
    refine WL.r rfl rfl rfl (rd_move rfl rfl) ?_
    refine WL.r rfl rfl rfl (rd_move rfl rfl) ?_
    refine WL.r rfl rfl rfl (rd_slen rfl rfl Tryz.underlying22) ?_
    (refine WL.r rfl rfl rfl (rd_sub64nl rfl rfl rfl ?_) ?_; (focus (omega)))
    refine WL.r rfl rfl rfl (rd_move rfl rfl) ?_
    (refine WL.r rfl rfl rfl (rd_sub64n rfl rfl rfl ?_) ?_; (focus (omega)))
    refine WL.r rfl rfl rfl (rd_sidxD rfl rfl rfl Tryz.underlying22 ?_) ?_
    · omega
    refine WL.r rfl rfl rfl (rd_convN rfl rfl Tryz.underlying5 Tryz.underlying3 ?_) ?_
    · (exact wrap8_64 _)
    refine WL.r rfl rfl rfl (rd_assign rfl rfl) ?_
    refine WL.nt ?_
    refine WC.ret ?_
    exact WX.retN rfl (.tmp rfl .nil) fun w' hS => ⟨by rw [val_digit a i (by omega)]; simp only [tup]; congr 3, hS.below⟩
theorem trimB_take : ∀ (b : Bs) (i : Nat), (∀ j, j < i → (b.getD j default).toNat = 0) → i ≤ b.length → trimB b = trimB (b.drop i)
  | b, 0, _, _ => by simp
  | [], i + 1, _, h => by simp at h
  | c :: s, i + 1, h, hl => by
    have h0 := h 0 (by omega)
    have : c = 0 := UInt8.toNat_inj.1 h0
    subst this
    rw [List.drop_succ_cons, ← trimB_take s i (fun j hj => h (j + 1) (by omega)) (by simpa using hl)]
    simp [trimB]
theorem rtrim_n {b : Bs} {ad : Option Addr} {cap : Nat} {w : World} {ok : Nat → Prop} (hF1 : (Fact.sl ad (b.map B)).holds ok w) (hcap : b.length ≤ cap) (hb : b.length ≤ 1000000000) :
    Calls Tryz.prog 66 #[.slice ad b.length cap] w fun e w' => e = .returned (.string (S (canon (val b)))) ∧ Below w.heap.size w w' := by
  refine enter (S := St (fun _ => True) w [] ([Fact.sl ad (b.map B)])) (L := [(0, .slice ad b.length cap)]) Tryz.func66 rfl Tryz.ntmps66 rfl (args_cons rfl (args_nil _)) (St.start (fun _ _ => trivial) (facts_cons (fact_any hF1) facts_nil)) ?_
  refine WC.sr ?_
  refine WL.r rfl rfl rfl (rd_assign rfl rfl) ?_
  refine WL.nt ?_
  refine WC.sr ?_
  refine WL.r rfl rfl rfl (rd_assign rfl rfl) ?_
  refine WL.nt ?_
  refine WC.seq ?_
  refine WC.block ?_
  refine WC.loopP (σ := Nat) [(0, _), (2, _)] (fun g => [(3, .int .i64 (g : Int))]) (fun g => g ≤ b.length ∧ ∀ j, j < g → (b.getD j default).toNat = 0) (fun g => b.length - g) (0) (sub_cons rfl (sub_cons rfl (sub_nil _))) (sub_cons rfl (sub_nil _)) (by (try dsimp only); exact ⟨Nat.zero_le _, fun j h => by omega⟩) ?_
  rintro i hinv1; (try dsimp only at hinv1 ⊢)
  obtain ⟨hi, hz⟩ := hinv1
  refine WC.seq ?_
  refine WC.sr ?_
  refine WL.r rfl rfl rfl (rd_move rfl rfl) ?_
  refine WL.r rfl rfl rfl (rd_move rfl rfl) ?_
  refine WL.r rfl rfl rfl (rd_len rfl rfl Tryz.underlying79) ?_
  refine WL.r rfl rfl rfl (rd_lss rfl rfl rfl) ?_
  refine WL.r rfl rfl rfl (rd_move rfl rfl) ?_
  refine WL.bool 8 rfl (fun hg8 => ?_) (fun hg8 => ?_)
  · (try simp only [sB] at hg8)
    refine WL.r rfl rfl rfl (rd_move rfl rfl) ?_
    refine WL.r rfl rfl rfl (rd_move rfl rfl) ?_
    (refine WL.r rfl rfl rfl (iaf rfl rfl rfl Tryz.underlying79 (by kernel_rfl : _ = some 1) ?_ ?_ (by (try simp only [sN, Int.reduceToNat, Nat.reduceAdd, Nat.reduceMul, Nat.reduceSub]); rfl)) ?_; (focus (omega)); (focus ((rw [List.length_map]; omega))))
    (refine WL.r rfl rfl rfl (ldm rfl rfl Tryz.underlying5 rfl ?_) ?_; (focus (omega)))
    refine WL.r rfl rfl rfl (rd_eql rfl rfl rfl) ?_
    refine WL.r rfl rfl rfl (rd_pickt rfl rfl rfl) ?_
    refine WL.nt ?_
    refine WC.cond rfl (fun hc14 => ?_) (fun hc14 => ?_)
    · (try simp only [sB] at hc14)
      have hzi : (b.getD i default).toNat = 0 := by (simp at hc14; exact hc14)
      refine WC.skip ?_
      refine WX.then_normal ?_
      refine WC.block ?_
      refine WC.region ?_
      refine WL.r rfl rfl rfl (rd_move rfl rfl) ?_
      (refine WL.r rfl rfl rfl (rd_add64nl rfl rfl rfl ?_) ?_; (focus (omega)))
      refine WL.r rfl rfl rfl (rd_assign rfl rfl) ?_
      refine WL.nil ?_
      refine WX.block_normal ?_
      refine WX.loopP (i + 1) (by (try dsimp only); omega) (sub_cons rfl (sub_cons rfl (sub_nil _))) (by refine (sub_cons ?_ (sub_nil _)) <;> (rfl)) ?_ (by (exact fun _ h => h))
      (try dsimp only)
      exact ⟨by omega, fun j hj => by rcases Nat.lt_succ_iff_lt_or_eq.1 hj with h | rfl; exact hz j h; exact hzi⟩
    · (try simp only [sB] at hc14)
      refine WC.exit ?_
      refine WX.then_exit ?_
      refine WX.then_exit ?_
      refine WX.block_exit ?_
      refine WX.then_normal ?_
      refine WC.sr ?_
      refine WL.r rfl rfl rfl (rd_move rfl rfl) ?_
      refine WL.r rfl rfl rfl (rd_move rfl rfl) ?_
      (refine WL.r rfl rfl rfl (rd_slfo rfl rfl rfl Tryz.underlying79 (by kernel_rfl : _ = some 1) ?_ (by (try simp only [sN, Int.reduceToNat, Nat.reduceAdd, Nat.reduceMul, Nat.reduceSub]); rfl) (by (try simp only [sN, Int.reduceToNat, Nat.reduceAdd, Nat.reduceMul, Nat.reduceSub]); rfl) (by (try simp only [sN, Int.reduceToNat, Nat.reduceAdd, Nat.reduceMul, Nat.reduceSub]); rfl)) ?_; (focus (omega)))
      refine WL.st (fun w h => (h.add (f := Fact.sl (sh ad i) ((b.drop i).map B)) (sl_dropM i (h.fact (Fact.sl ad (b.map B)) (by simp))))) ?_
      refine WL.st (fun w h => (h.add (f := Fact.sl (cut ad i cap 1) ((b.drop i).map B)) (sl_cutM i hcap (h.fact (Fact.sl ad (b.map B)) (by simp))))) ?_
      refine WL.r rfl rfl rfl (b2sf rfl rfl .tc Tryz.underlying79 Tryz.underlying5 Tryz.underlying22 ?_) ?_
      · simp
      refine WL.r rfl rfl rfl (rd_assign rfl rfl) ?_
      refine WL.nt ?_
      refine WC.ret ?_
      exact WX.retN rfl (.tmp rfl .nil) fun w' hS => ⟨by rw [show canon (val b) = b.drop i from by rw [← trim_canon, trimB_take b i hz hi, trimB_stop (by rw [List.length_drop]; (exact .inr (by rw [show (b.drop i).getD 0 default = b.getD i default from by simp [List.getD]]; omega)))]]; rfl, hS.below⟩
  · (try simp only [sB] at hg8)
    refine WL.s rfl rfl rfl ?_
    refine WL.s rfl rfl rfl ?_
    refine WL.s rfl rfl rfl ?_
    refine WL.s rfl rfl rfl ?_
    refine WL.s rfl rfl rfl ?_
    refine WL.r rfl rfl rfl (rd_pickf rfl rfl rfl) ?_
    refine WL.nt ?_
    refine WC.cond rfl (fun h => by cases h) (fun _ => ?_)
    refine WC.exit ?_
    refine WX.then_exit ?_
    refine WX.then_exit ?_
    refine WX.block_exit ?_
    refine WX.then_normal ?_
    refine WC.sr ?_
    refine WL.r rfl rfl rfl (rd_move rfl rfl) ?_
    refine WL.r rfl rfl rfl (rd_move rfl rfl) ?_
    (refine WL.r rfl rfl rfl (rd_slf rfl rfl rfl Tryz.underlying79 (by kernel_rfl : _ = some 1) ?_ (by (try simp only [sN, Int.reduceToNat, Nat.reduceAdd, Nat.reduceMul, Nat.reduceSub]); rfl) (by (try simp only [sN, Int.reduceToNat, Nat.reduceAdd, Nat.reduceMul, Nat.reduceSub]); rfl) (by (try simp only [sN, Int.reduceToNat, Nat.reduceAdd, Nat.reduceMul, Nat.reduceSub]); rfl)) ?_; (focus (omega)))
    refine WL.st (fun w h => (h.add (f := Fact.sl (sh ad i) ((b.drop i).map B)) (sl_dropM i (h.fact (Fact.sl ad (b.map B)) (by simp))))) ?_
    refine WL.st (fun w h => (h.add (f := Fact.sl (cut ad i cap 1) ((b.drop i).map B)) (sl_cutM i hcap (h.fact (Fact.sl ad (b.map B)) (by simp))))) ?_
    refine WL.r rfl rfl rfl (b2sf rfl rfl .tc Tryz.underlying79 Tryz.underlying5 Tryz.underlying22 ?_) ?_
    · simp
    refine WL.r rfl rfl rfl (rd_assign rfl rfl) ?_
    refine WL.nt ?_
    refine WC.ret ?_
    exact WX.retN rfl (.tmp rfl .nil) fun w' hS => ⟨by rw [show canon (val b) = b.drop i from by rw [← trim_canon, trimB_take b i hz hi, trimB_stop (by rw [List.length_drop]; (exact .inl (by omega)))]]; rfl, hS.below⟩
theorem rtrim_c {b : Bs} {ad : Option Addr} {m cap : Nat} {w : World} {ok : Nat → Prop} (hF1 : (Fact.sl ad (b.map B)).holds ok w) (hm : m = b.length) (hcap : b.length ≤ cap) (hb : b.length ≤ 1000000000) :
    Calls Tryz.prog 66 #[.slice ad m cap] w fun e w' => e = .returned (.string (S (canon (val b)))) ∧ Below w.heap.size w w' :=
  by subst hm; exact rtrim_n hF1 hcap hb
theorem byte_mod8 (x : Nat) : IntKind.u8.wrap ((x % 256 : Nat) : Int) = ((UInt8.ofNat x).toNat : Int) := by
  rw [IntKind.wrap_u8, UInt8.toNat_ofNat']; omega
theorem rof_c {n : Nat} {w : World} (hn : n < 18446744073709551616) :
    Calls Tryz.prog 62 #[.int .u64 (n : Int)] w fun e w' => e = .returned (.string (S (canon n))) ∧ Below w.heap.size w w' := by
  refine enter (S := St (fun _ => True) w [] ([])) (L := [(0, .int .u64 (n : Int))]) Tryz.func62 rfl Tryz.ntmps62 rfl (args_cons rfl (args_nil _)) (St.start (fun _ _ => trivial) facts_nil) ?_
  refine WC.sr ?_
  refine WL.r rfl rfl rfl (rd_assign rfl rfl) ?_
  refine WL.nt ?_
  refine WC.sr ?_
  refine WL.g rfl rfl rfl (og_mk rfl rfl rfl Tryz.underlying79 (by kernel_rfl : _ = some (some (.int .u8 0), 1, 1)) rfl ?_ (by (try simp only [sN, Int.reduceToNat, Nat.reduceAdd, Nat.reduceMul, Nat.reduceSub]); rfl) (by (try simp only [sN, Int.reduceToNat, Nat.reduceAdd, Nat.reduceMul, Nat.reduceSub]); rfl)) ?_
  · omega
  intro b5
  refine WL.r rfl rfl rfl (rd_assign rfl rfl) ?_
  refine WL.nt ?_
  refine WC.seq ?_
  refine WC.sr ?_
  refine WL.r rfl rfl rfl (rd_assign rfl rfl) ?_
  refine WL.set 0 rfl (v' := .int .u64 ((n / 256 ^ 0 : Nat) : Int)) (by simp) ?_
  refine WL.set 4 rfl (v' := .int .i64 (7 - ((0 : Nat) : Int))) (by simp) ?_
  refine WL.nt ?_
  refine WC.block ?_
  refine WC.loopO (σ := Nat) [(2, _), (3, _)] (fun g => [(0, .int .u64 ((n / 256 ^ g : Nat) : Int)), (4, .int .i64 (7 - (g : Int)))]) (fun g => g ≤ 8) (fun g => 8 - g) (fun g => [⟨some b5, lowB 8 g n, 5⟩]) (fun g => []) (0) (sub_cons rfl (sub_cons rfl (sub_nil _))) (sub_cons rfl (sub_cons rfl (sub_nil _))) (by (try dsimp only); exact Nat.zero_le _) (by exact fun w h => by rw [lowB_zero]; exact h) ?_
  rintro k hinv1; (try dsimp only at hinv1 ⊢)
  obtain hk := hinv1
  refine WC.seq ?_
  refine WC.sr ?_
  refine WL.r rfl rfl rfl (rd_move rfl rfl) ?_
  refine WL.r rfl rfl rfl (rd_geq rfl rfl rfl) ?_
  refine WL.nt ?_
  refine WC.cond rfl (fun hc7 => ?_) (fun hc7 => ?_)
  · (try simp only [sB] at hc7)
    have hdv : n / 256 ^ k ≤ n := Nat.div_le_self _ _
    refine WC.skip ?_
    refine WX.then_normal ?_
    refine WC.seq ?_
    refine WC.block ?_
    refine WC.sr ?_
    refine WL.r rfl rfl rfl (rd_move rfl rfl) ?_
    refine WL.r rfl rfl rfl (rd_move rfl rfl) ?_
    refine WL.set 11 rfl (v' := .int .i64 (((7 - k : Nat) : Int))) (congrArg (Value.int .i64) (by omega)) ?_
    refine WL.r rfl rfl rfl (rd_move rfl rfl) ?_
    refine WL.r rfl rfl rfl (rd_remN rfl rfl rfl (by decide)) ?_
    refine WL.r rfl rfl rfl (rd_conv rfl rfl Tryz.underlying55 Tryz.underlying5) ?_
    refine WL.set 14 rfl (v' := B (UInt8.ofNat (n / 256 ^ k))) (by exact congrArg (Value.int .u8) (byte_mod8 _)) ?_
    (refine WL.r rfl rfl rfl (rd_ia rfl rfl rfl Tryz.underlying79 (by kernel_rfl : _ = some 1) ?_ (by (try simp only [sN, Int.reduceToNat, Nat.reduceAdd, Nat.reduceMul, Nat.reduceSub]); rfl)) ?_; (focus (omega)))
    refine WL.g0 rfl rfl (st rfl rfl rfl .tc (by kernel_rfl) rfl ?_ (by rfl)) ?_
    · rw [lowB_len _ _ _ (by omega)]; omega
    intro _
    refine WL.nt ?_
    refine WC.region ?_
    refine WL.r rfl rfl rfl (rd_move rfl rfl) ?_
    refine WL.r rfl rfl rfl (rd_quoN rfl rfl rfl (by decide) ?_) ?_
    · (generalize n / 256 ^ k = z at *; exact IntWalk.u64_in _ ⟨by omega, by omega⟩)
    refine WL.set 17 rfl (v' := .int .u64 ((n / 256 ^ (k + 1) : Nat) : Int)) (congrArg (Value.int .u64) (by rw [Nat.pow_succ, ← Nat.div_div_eq_div_mul])) ?_
    refine WL.r rfl rfl rfl (rd_assign rfl rfl) ?_
    refine WL.nil ?_
    refine WX.block_normal ?_
    refine WX.then_normal ?_
    refine WC.region ?_
    refine WL.r rfl rfl rfl (rd_move rfl rfl) ?_
    (refine WL.r rfl rfl rfl (rd_sub64 rfl rfl rfl ?_) ?_; (focus (omega)))
    refine WL.set 9 rfl (v' := .int .i64 (7 - ((k + 1 : Nat) : Int))) (congrArg (Value.int .i64) (by omega)) ?_
    refine WL.r rfl rfl rfl (rd_assign rfl rfl) ?_
    refine WL.nil ?_
    refine WX.loopO (k + 1) (by (try dsimp only); omega) (sub_cons rfl (sub_cons rfl (sub_nil _))) (by refine (sub_cons ?_ (sub_cons ?_ (sub_nil _))) <;> (rfl)) ?_ (by exact fun w h => by rw [← lowB_set 8 k n (by omega)]; exact h)
    (try dsimp only)
    omega
  · (try simp only [sB] at hc7)
    refine WC.exit ?_
    refine WX.then_exit ?_
    refine WX.then_exit ?_
    refine WX.block_exit ?_
    obtain rfl : k = 8 := by omega
    rw [lowB_full]
    refine WX.then_normal ?_
    refine WC.sr ?_
    refine WL.r rfl rfl rfl (rd_move rfl rfl) ?_
    refine WL.g rfl rfl rfl (og_call rfl rfl (by kernel_rfl) (keep_val fun w hS => rtrim_c (b := be 8 n) (by (exact hS.os)) (by rw [be_len]) (by rw [be_len]; decide) (by rw [be_len]; decide))) ?_
    intro _
    refine WL.r rfl rfl rfl (rd_assign rfl rfl) ?_
    refine WL.nt ?_
    refine WC.ret ?_
    exact WX.retN rfl (.tmp rfl .nil) fun w' hS => ⟨by rw [val_be, Nat.mod_eq_of_lt (by omega)]; rfl, hS.below⟩
theorem order_end {a b : Bs} (h : a.length = b.length) {i : Nat} (hi : i < a.length) (hp : a.take i = b.take i) (hne : (a.getD i default).toNat ≠ (b.getD i default).toNat) : cmpI (val a) (val b) = if (a.getD i default).toNat < (b.getD i default).toNat then -1 else 1 := by
  have ea : a = a.take i ++ (a.getD i default :: a.drop (i + 1)) := by
    conv => lhs; rw [← List.take_append_drop i a, List.drop_eq_getElem_cons hi]
    rw [List.getD_eq_getElem?_getD, List.getElem?_eq_getElem hi]; rfl
  have eb : b = b.take i ++ (b.getD i default :: b.drop (i + 1)) := by
    conv => lhs; rw [← List.take_append_drop i b, List.drop_eq_getElem_cons (by omega : i < b.length)]
    rw [List.getD_eq_getElem?_getD, List.getElem?_eq_getElem (by omega : i < b.length)]; rfl
  have la := val_lt (a.drop (i + 1)); have lb := val_lt (b.drop (i + 1))
  have hl : (a.drop (i + 1)).length = (b.drop (i + 1)).length := by simp [h]
  have va : val a = val (a.take i) * 256 ^ ((b.drop (i + 1)).length + 1) + ((a.getD i default).toNat * 256 ^ (b.drop (i + 1)).length + val (a.drop (i + 1))) := by
    conv => lhs; rw [ea]
    rw [val_append, val, List.length_cons, hl]
  have vb : val b = val (a.take i) * 256 ^ ((b.drop (i + 1)).length + 1) + ((b.getD i default).toNat * 256 ^ (b.drop (i + 1)).length + val (b.drop (i + 1))) := by
    conv => lhs; rw [eb]
    rw [val_append, val, List.length_cons, hp]
  rw [hl] at la
  rw [va, vb]
  generalize (a.getD i default).toNat = x at *
  generalize (b.getD i default).toNat = y at *
  generalize 256 ^ (b.drop (i + 1)).length = P at *
  generalize val (a.take i) * 256 ^ ((b.drop (i + 1)).length + 1) = Q at *
  unfold cmpI
  rcases Nat.lt_or_gt_of_ne hne with q | q
  · have h1 : (x + 1) * P ≤ y * P := Nat.mul_le_mul_right _ q
    rw [Nat.add_mul, Nat.one_mul] at h1
    rw [if_pos (by omega), if_pos q]
  · have h1 : (y + 1) * P ≤ x * P := Nat.mul_le_mul_right _ q
    rw [Nat.add_mul, Nat.one_mul] at h1
    rw [if_neg (by omega), if_pos (by omega), if_neg (by omega)]
theorem take_sameB {l m : Bs} {k : Nat} (h1 : k < l.length) (h2 : k < m.length) (h : l.take k = m.take k) (h3 : (l.getD k default).toNat = (m.getD k default).toNat) : l.take (k + 1) = m.take (k + 1) := by
  have h4 := UInt8.toNat_inj.1 h3
  rw [List.getD_eq_getElem?_getD, List.getD_eq_getElem?_getD, List.getElem?_eq_getElem h1, List.getElem?_eq_getElem h2] at h4
  rw [List.take_add_one, List.take_add_one, h, List.getElem?_eq_getElem h1, List.getElem?_eq_getElem h2]
  rw [Option.toList, Option.toList]; simp only [Option.getD] at h4; rw [h4]
theorem order_c {a b : Bs} {w : World} (ha : Can a) (hb : Can b) (hal : a.length ≤ 1000000) :
    Calls Tryz.prog 55 #[.string (S a), .string (S b)] w fun e w' => e = .returned (.int .i64 (cmpI (val a) (val b))) ∧ Below w.heap.size w w' := by
  refine enter (S := St (fun _ => True) w [] ([])) (L := [(0, .string (S a)), (1, .string (S b))]) Tryz.func55 rfl Tryz.ntmps55 rfl (args_cons rfl (args_cons rfl (args_nil _))) (St.start (fun _ _ => trivial) facts_nil) ?_
  refine WC.sr ?_
  refine WL.r rfl rfl rfl (rd_assign rfl rfl) ?_
  refine WL.nt ?_
  refine WC.seq ?_
  refine WC.sr ?_
  refine WL.r rfl rfl rfl (rd_move rfl rfl) ?_
  refine WL.r rfl rfl rfl (rd_slen rfl rfl Tryz.underlying22) ?_
  refine WL.r rfl rfl rfl (rd_move rfl rfl) ?_
  refine WL.r rfl rfl rfl (rd_slen rfl rfl Tryz.underlying22) ?_
  refine WL.r rfl rfl rfl (rd_neq rfl rfl rfl) ?_
  refine WL.nt ?_
  refine WC.cond rfl (fun hc10 => ?_) (fun hc10 => ?_)
  · (try simp only [sB] at hc10)
    have hne : a.length ≠ b.length := by omega
    have hcl := cmp_len ha hb hne
    refine WC.seq ?_
    refine WC.sr ?_
    refine WL.r rfl rfl rfl (rd_move rfl rfl) ?_
    refine WL.r rfl rfl rfl (rd_slen rfl rfl Tryz.underlying22) ?_
    refine WL.r rfl rfl rfl (rd_move rfl rfl) ?_
    refine WL.r rfl rfl rfl (rd_slen rfl rfl Tryz.underlying22) ?_
    refine WL.r rfl rfl rfl (rd_lss rfl rfl rfl) ?_
    refine WL.nt ?_
    refine WC.cond rfl (fun hc15 => ?_) (fun hc15 => ?_)
    · (try simp only [sB] at hc15)
      refine WC.sr ?_
      refine WL.r rfl rfl rfl (rd_assign rfl rfl) ?_
      refine WL.nt ?_
      refine WC.ret ?_
      refine WX.then_ret ?_
      refine WX.then_ret ?_
      exact WX.retN rfl (.tmp rfl .nil) fun w' hS => ⟨by rw [← hcl, cmpI, if_pos (by omega)]; rfl, hS.below⟩
    · (try simp only [sB] at hc15)
      refine WC.skip ?_
      refine WX.then_normal ?_
      refine WC.sr ?_
      refine WL.r rfl rfl rfl (rd_assign rfl rfl) ?_
      refine WL.nt ?_
      refine WC.ret ?_
      refine WX.then_ret ?_
      exact WX.retN rfl (.tmp rfl .nil) fun w' hS => ⟨by rw [← hcl, cmpI, if_neg (by omega), if_pos (by omega)]; rfl, hS.below⟩
  · (try simp only [sB] at hc10)
    have heq : a.length = b.length := by omega
    refine WC.skip ?_
    refine WX.then_normal ?_
    refine WC.seq ?_
    refine WC.sr ?_
    refine WL.r rfl rfl rfl (rd_assign rfl rfl) ?_
    refine WL.nt ?_
    refine WC.block ?_
    refine WC.loopP (σ := Nat) [(0, _), (1, _)] (fun g => [(5, .int .i64 (g : Int))]) (fun g => g ≤ a.length ∧ a.take g = b.take g) (fun g => a.length - g) (0) (sub_cons rfl (sub_cons rfl (sub_nil _))) (sub_cons rfl (sub_nil _)) (by (try dsimp only); exact ⟨Nat.zero_le _, by simp⟩) ?_
    rintro i hinv1; (try dsimp only at hinv1 ⊢)
    obtain ⟨hi, ht⟩ := hinv1
    refine WC.seq ?_
    refine WC.sr ?_
    refine WL.r rfl rfl rfl (rd_move rfl rfl) ?_
    refine WL.r rfl rfl rfl (rd_move rfl rfl) ?_
    refine WL.r rfl rfl rfl (rd_slen rfl rfl Tryz.underlying22) ?_
    refine WL.r rfl rfl rfl (rd_lss rfl rfl rfl) ?_
    refine WL.nt ?_
    refine WC.cond rfl (fun hc19 => ?_) (fun hc19 => ?_)
    · (try simp only [sB] at hc19)
      refine WC.skip ?_
      refine WX.then_normal ?_
      refine WC.seq ?_
      refine WC.block ?_
      refine WC.seq ?_
      refine WC.free0 [0, 1, 2, 3, 4, 5, 6] [] [0, 0, 0, 0, 0, 0, 0] (by kernel_rfl) (by kernel_rfl) rfl ?_
      refine WJ.r rfl rfl rfl rfl rfl (rd_move rfl rfl) ?_
      refine WJ.r rfl rfl rfl rfl rfl (rd_move rfl rfl) ?_
      refine WJ.r rfl rfl rfl rfl rfl (rd_sidxD rfl rfl rfl Tryz.underlying22 ?_) ?_
      · omega
      refine WJ.r rfl rfl rfl rfl rfl (rd_move rfl rfl) ?_
      refine WJ.r rfl rfl rfl rfl rfl (rd_move rfl rfl) ?_
      refine WJ.r rfl rfl rfl rfl rfl (rd_sidxD rfl rfl rfl Tryz.underlying22 ?_) ?_
      · omega
      refine WJ.r rfl rfl rfl rfl rfl (rd_neq rfl rfl rfl) ?_
      refine WJ.nil ?_
      refine WL.nt ?_
      refine WC.cond rfl (fun hc28 => ?_) (fun hc28 => ?_)
      · (try simp only [sB] at hc28)
        simp only [Int.toNat_natCast] at hc28
        have hoe := order_end heq (i := i) (by omega) ht (by omega)
        refine WC.seq ?_
        refine WC.seq ?_
        refine WC.free0 [0, 1, 2, 3, 4, 5, 6] [] [0, 0, 0, 0, 0, 0, 0] (by kernel_rfl) (by kernel_rfl) rfl ?_
        refine WJ.r rfl rfl rfl rfl rfl (rd_move rfl rfl) ?_
        refine WJ.r rfl rfl rfl rfl rfl (rd_move rfl rfl) ?_
        refine WJ.r rfl rfl rfl rfl rfl (rd_sidxD rfl rfl rfl Tryz.underlying22 ?_) ?_
        · omega
        refine WJ.r rfl rfl rfl rfl rfl (rd_move rfl rfl) ?_
        refine WJ.r rfl rfl rfl rfl rfl (rd_move rfl rfl) ?_
        refine WJ.r rfl rfl rfl rfl rfl (rd_sidxD rfl rfl rfl Tryz.underlying22 ?_) ?_
        · omega
        refine WJ.r rfl rfl rfl rfl rfl (rd_lss rfl rfl rfl) ?_
        refine WJ.nil ?_
        refine WL.nt ?_
        refine WC.cond rfl (fun hc35 => ?_) (fun hc35 => ?_)
        · (try simp only [sB] at hc35)
          simp only [Int.toNat_natCast] at hc35
          refine WC.sr ?_
          refine WL.r rfl rfl rfl (rd_assign rfl rfl) ?_
          refine WL.nt ?_
          refine WC.ret ?_
          refine WX.then_ret ?_
          refine WX.block_ret ?_
          refine WX.then_ret ?_
          refine WX.then_ret ?_
          refine WX.block_ret ?_
          refine WX.then_ret ?_
          exact WX.retN rfl (.tmp rfl .nil) fun w' hS => ⟨by rw [hoe, if_pos (by omega)]; rfl, hS.below⟩
        · (try simp only [sB] at hc35)
          simp only [Int.toNat_natCast] at hc35
          refine WC.skip ?_
          refine WX.then_normal ?_
          refine WC.sr ?_
          refine WL.r rfl rfl rfl (rd_assign rfl rfl) ?_
          refine WL.nt ?_
          refine WC.ret ?_
          refine WX.block_ret ?_
          refine WX.then_ret ?_
          refine WX.then_ret ?_
          refine WX.block_ret ?_
          refine WX.then_ret ?_
          exact WX.retN rfl (.tmp rfl .nil) fun w' hS => ⟨by rw [hoe, if_neg (by omega)]; rfl, hS.below⟩
      · (try simp only [sB] at hc28)
        simp only [Int.toNat_natCast] at hc28
        refine WC.skip ?_
        refine WX.block_normal ?_
        refine WX.then_normal ?_
        refine WC.region ?_
        refine WL.r rfl rfl rfl (rd_move rfl rfl) ?_
        (refine WL.r rfl rfl rfl (rd_add64nl rfl rfl rfl ?_) ?_; (focus (omega)))
        refine WL.r rfl rfl rfl (rd_assign rfl rfl) ?_
        refine WL.nil ?_
        refine WX.loopP (i + 1) (by (try dsimp only); omega) (sub_cons rfl (sub_cons rfl (sub_nil _))) (by refine (sub_cons ?_ (sub_nil _)) <;> (rfl)) ?_ (by (exact fun _ h => h))
        (try dsimp only)
        exact ⟨by omega, take_sameB (by omega) (by omega) ht (by omega)⟩
    · (try simp only [sB] at hc19)
      refine WC.exit ?_
      refine WX.then_exit ?_
      refine WX.then_exit ?_
      refine WX.block_exit ?_
      obtain rfl : i = a.length := by omega
      have hab : a = b := by rw [List.take_of_length_le (Nat.le_refl _), List.take_of_length_le (by omega)] at ht; exact ht
      refine WX.then_normal ?_
      refine WC.sr ?_
      refine WL.r rfl rfl rfl (rd_assign rfl rfl) ?_
      refine WL.nt ?_
      refine WC.ret ?_
      exact WX.retN rfl (.tmp rfl .nil) fun w' hS => ⟨by rw [hab]; simp [cmpI, tup], hS.below⟩
theorem rCmp_c {a b : Bs} {w : World} :
    Calls Tryz.prog 132 #[.string (S a), .string (S b)] w fun e w' => e = .returned (.int .i64 (cmpN a b)) ∧ Below w.heap.size w w' := by
  refine enter (S := St (fun _ => True) w [] ([])) (L := [(0, .string (S a)), (1, .string (S b))]) Tryz.func132 rfl Tryz.ntmps132 rfl (args_cons rfl (args_cons rfl (args_nil _))) (St.start (fun _ _ => trivial) facts_nil) ?_
  refine WC.sr ?_
  refine WL.r rfl rfl rfl (rd_assign rfl rfl) ?_
  refine WL.nt ?_
  refine WC.seq ?_
  refine WC.sr ?_
  refine WL.r rfl rfl rfl (rd_move rfl rfl) ?_
  refine WL.g rfl rfl rfl (og_call rfl rfl (by kernel_rfl) (keep_val fun w hS => rvalid_c)) ?_
  intro _
  refine WL.r rfl rfl rfl (rd_not rfl rfl) ?_
  refine WL.r rfl rfl rfl (rd_move rfl rfl) ?_
  refine WL.bool 8 rfl (fun hg8 => ?_) (fun hg8 => ?_)
  · (try simp only [sB] at hg8)
    refine WL.s rfl rfl rfl ?_
    refine WL.s rfl rfl rfl ?_
    refine WL.s rfl rfl rfl ?_
    refine WL.r rfl rfl rfl (rd_pickt rfl rfl rfl) ?_
    refine WL.nt ?_
    refine WC.cond rfl (fun _ => ?_) (fun h => by cases h)
    refine WC.sr ?_
    refine WL.r rfl rfl rfl (rd_assign rfl rfl) ?_
    refine WL.nt ?_
    refine WC.ret ?_
    refine WX.then_ret ?_
    exact WX.retN rfl (.tmp rfl .nil) fun w' hS => ⟨by rw [cmpN, if_neg (by simp_all)]; rfl, hS.below⟩
  · (try simp only [sB] at hg8)
    refine WL.r rfl rfl rfl (rd_move rfl rfl) ?_
    refine WL.g rfl rfl rfl (og_call rfl rfl (by kernel_rfl) (keep_val fun w hS => rvalid_c)) ?_
    intro _
    refine WL.r rfl rfl rfl (rd_not rfl rfl) ?_
    refine WL.r rfl rfl rfl (rd_pickf rfl rfl rfl) ?_
    refine WL.nt ?_
    refine WC.cond rfl (fun hc12 => ?_) (fun hc12 => ?_)
    · (try simp only [sB] at hc12)
      refine WC.sr ?_
      refine WL.r rfl rfl rfl (rd_assign rfl rfl) ?_
      refine WL.nt ?_
      refine WC.ret ?_
      refine WX.then_ret ?_
      exact WX.retN rfl (.tmp rfl .nil) fun w' hS => ⟨by rw [cmpN, if_neg (by simp_all)]; rfl, hS.below⟩
    · (try simp only [sB] at hc12)
      have hab : okN a ∧ okN b := by simp_all
      have hal := hab.1.1
      refine WC.skip ?_
      refine WX.then_normal ?_
      refine WC.sr ?_
      refine WL.r rfl rfl rfl (rd_move rfl rfl) ?_
      refine WL.r rfl rfl rfl (rd_move rfl rfl) ?_
      refine WL.g rfl rfl rfl (og_call rfl rfl (by kernel_rfl) (keep_val fun w hS => order_c (a := a) (b := b) (by exact hab.1.2) (by exact hab.2.2) (by omega))) ?_
      intro _
      refine WL.r rfl rfl rfl (rd_assign rfl rfl) ?_
      refine WL.nt ?_
      refine WC.ret ?_
      exact WX.retN rfl (.tmp rfl .nil) fun w' hS => ⟨by rw [cmpN, if_pos hab]; rfl, hS.below⟩
theorem plus_c {a b : Bs} {w : World} (hal : a.length ≤ 1000000) (hbl : b.length ≤ 1000000) :
    Calls Tryz.prog 78 #[.string (S a), .string (S b)] w fun e w' => e = .returned (.string (S (canon (val a + val b)))) ∧ Below w.heap.size w w' := by
  refine enter (S := St (fun _ => True) w [] ([])) (L := [(0, .string (S a)), (1, .string (S b))]) Tryz.func78 rfl Tryz.ntmps78 rfl (args_cons rfl (args_cons rfl (args_nil _))) (St.start (fun _ _ => trivial) facts_nil) ?_
  refine WC.sr ?_
  refine WL.r rfl rfl rfl (rd_assign rfl rfl) ?_
  refine WL.nt ?_
  refine WC.sr ?_
  refine WL.r rfl rfl rfl (rd_move rfl rfl) ?_
  refine WL.r rfl rfl rfl (rd_slen rfl rfl Tryz.underlying22) ?_
  refine WL.r rfl rfl rfl (rd_move rfl rfl) ?_
  refine WL.r rfl rfl rfl (rd_slen rfl rfl Tryz.underlying22) ?_
  refine WL.r rfl rfl rfl (rd_max2 rfl rfl rfl) ?_
  refine WL.set 14 rfl (v' := .int .i64 ((max a.length b.length : Nat) : Int)) (congrArg (Value.int .i64) (by omega)) ?_
  (refine WL.r rfl rfl rfl (rd_add64nl rfl rfl rfl ?_) ?_; (focus (omega)))
  obtain ⟨N, hN⟩ : ∃ N : Nat, N = max a.length b.length + 1 := ⟨_, rfl⟩
  refine WL.set 15 rfl (v' := .int .i64 (N : Int)) (by rw [hN]) ?_
  have hNl : N ≤ 1000001 := by omega
  have hS256 : val a + val b < 256 ^ N := by
    have h1 := val_lt a; have h2 := val_lt b
    have h3 : 256 ^ a.length ≤ 256 ^ (N - 1) := Nat.pow_le_pow_right (by decide) (by omega)
    have h4 : 256 ^ b.length ≤ 256 ^ (N - 1) := Nat.pow_le_pow_right (by decide) (by omega)
    have h5 : 256 ^ N = 256 ^ (N - 1) * 256 := by rw [← Nat.pow_succ]; congr 1; omega
    omega
  refine WL.r rfl rfl rfl (rd_assign rfl rfl) ?_
  refine WL.nt ?_
  refine WC.sr ?_
  refine WL.r rfl rfl rfl (rd_move rfl rfl) ?_
  refine WL.g rfl rfl rfl (og_mk rfl rfl rfl Tryz.underlying79 (by kernel_rfl : _ = some (some (.int .u8 0), 1, 1)) rfl ?_ (by (try simp only [sN, Int.reduceToNat, Nat.reduceAdd, Nat.reduceMul, Nat.reduceSub]); rfl) (by (try simp only [sN, Int.reduceToNat, Nat.reduceAdd, Nat.reduceMul, Nat.reduceSub]); rfl)) ?_
  · omega
  intro b17
  refine WL.r rfl rfl rfl (rd_assign rfl rfl) ?_
  refine WL.nt ?_
  refine WC.sr ?_
  refine WL.r rfl rfl rfl (rd_assign rfl rfl) ?_
  refine WL.set 7 rfl (v' := .int .i64 ((carryA (val a) (val b) 0 : Nat) : Int)) (congrArg (Value.int .i64) (by rw [carryA_zero]; rfl)) ?_
  refine WL.nt ?_
  refine WC.seq ?_
  refine WC.sr ?_
  refine WL.r rfl rfl rfl (rd_assign rfl rfl) ?_
  refine WL.nt ?_
  refine WC.block ?_
  refine WC.loopO (σ := Nat) [(0, _), (1, _), (4, _), (5, _), (6, _)] (fun g => [(7, .int .i64 (carryA (val a) (val b) g : Int)), (8, .int .i64 (g : Int))]) (fun g => g ≤ N) (fun g => N - g) (fun g => [⟨some b17, lowB N g (val a + val b), 5⟩]) (fun g => []) (0) (sub_cons rfl (sub_cons rfl (sub_cons rfl (sub_cons rfl (sub_cons rfl (sub_nil _)))))) (sub_cons rfl (sub_cons rfl (sub_nil _))) (by (try dsimp only); exact Nat.zero_le _) (by exact fun w h => by rw [lowB_zero]; exact h) ?_
  rintro k hinv1; (try dsimp only at hinv1 ⊢)
  obtain hk := hinv1
  refine WC.seq ?_
  refine WC.sr ?_
  refine WL.r rfl rfl rfl (rd_move rfl rfl) ?_
  refine WL.r rfl rfl rfl (rd_move rfl rfl) ?_
  refine WL.r rfl rfl rfl (rd_lss rfl rfl rfl) ?_
  refine WL.nt ?_
  refine WC.cond rfl (fun hc20 => ?_) (fun hc20 => ?_)
  · (try simp only [sB] at hc20)
    have hc1 := carryA_le (val a) (val b) k
    have hd1 := Nat.mod_lt (val a / 256 ^ k) (show 0 < 256 by decide); have hd2 := Nat.mod_lt (val b / 256 ^ k) (show 0 < 256 by decide)
    refine WC.skip ?_
    refine WX.then_normal ?_
    refine WC.seq ?_
    refine WC.block ?_
    refine WC.sr ?_
    refine WL.r rfl rfl rfl (rd_move rfl rfl) ?_
    refine WL.r rfl rfl rfl (rd_move rfl rfl) ?_
    refine WL.g rfl rfl rfl (og_call rfl rfl (by kernel_rfl) (keep_val fun w hS => rat_c (a := a) (i := k) (by omega) (by omega))) ?_
    intro _
    refine WL.r rfl rfl rfl (rd_move rfl rfl) ?_
    refine WL.r rfl rfl rfl (rd_move rfl rfl) ?_
    refine WL.g rfl rfl rfl (og_call rfl rfl (by kernel_rfl) (keep_val fun w hS => rat_c (a := b) (i := k) (by omega) (by omega))) ?_
    intro _
    (refine WL.r rfl rfl rfl (rd_add64n rfl rfl rfl ?_) ?_; (focus (omega)))
    refine WL.r rfl rfl rfl (rd_move rfl rfl) ?_
    (refine WL.r rfl rfl rfl (rd_add64n rfl rfl rfl ?_) ?_; (focus (omega)))
    refine WL.set 31 rfl (v' := .int .i64 ((carryA (val a) (val b) k + val a / 256 ^ k % 256 + val b / 256 ^ k % 256 : Nat) : Int)) (congrArg (Value.int .i64) (by omega)) ?_
    refine WL.r rfl rfl rfl (rd_assign rfl rfl) ?_
    refine WL.nt ?_
    refine WC.sr ?_
    refine WL.r rfl rfl rfl (rd_move rfl rfl) ?_
    refine WL.r rfl rfl rfl (rd_move rfl rfl) ?_
    (refine WL.r rfl rfl rfl (rd_sub64nl rfl rfl rfl ?_) ?_; (focus (omega)))
    refine WL.r rfl rfl rfl (rd_move rfl rfl) ?_
    (refine WL.r rfl rfl rfl (rd_sub64n rfl rfl rfl ?_) ?_; (focus (omega)))
    refine WL.set 36 rfl (v' := .int .i64 ((N - 1 - k : Nat) : Int)) (congrArg (Value.int .i64) (by omega)) ?_
    refine WL.r rfl rfl rfl (rd_move rfl rfl) ?_
    (refine WL.r rfl rfl rfl (rd_rem64nl rfl rfl rfl ?_) ?_; (focus (omega)))
    refine WL.r rfl rfl rfl (rd_conv rfl rfl Tryz.underlying3 Tryz.underlying5) ?_
    refine WL.set 39 rfl (v' := B (UInt8.ofNat ((val a + val b) / 256 ^ k))) (by exact congrArg (Value.int .u8) (by rw [byte_mod8, sum_digit])) ?_
    (refine WL.r rfl rfl rfl (rd_ia rfl rfl rfl Tryz.underlying79 (by kernel_rfl : _ = some 1) ?_ (by (try simp only [sN, Int.reduceToNat, Nat.reduceAdd, Nat.reduceMul, Nat.reduceSub]); rfl)) ?_; (focus (omega)))
    refine WL.g0 rfl rfl (st rfl rfl rfl .tc (by kernel_rfl) rfl ?_ (by rfl)) ?_
    · rw [lowB_len _ _ _ (by omega)]; omega
    intro _
    refine WL.nt ?_
    refine WC.region ?_
    refine WL.r rfl rfl rfl (rd_move rfl rfl) ?_
    (refine WL.r rfl rfl rfl (rd_quo64nl rfl rfl rfl ?_) ?_; (focus (omega)))
    refine WL.set 42 rfl (v' := .int .i64 ((carryA (val a) (val b) (k + 1) : Nat) : Int)) (congrArg (Value.int .i64) (by rw [carryA_succ])) ?_
    refine WL.r rfl rfl rfl (rd_assign rfl rfl) ?_
    refine WL.nil ?_
    refine WX.block_normal ?_
    refine WX.then_normal ?_
    refine WC.region ?_
    refine WL.r rfl rfl rfl (rd_move rfl rfl) ?_
    (refine WL.r rfl rfl rfl (rd_add64nl rfl rfl rfl ?_) ?_; (focus (omega)))
    refine WL.r rfl rfl rfl (rd_assign rfl rfl) ?_
    refine WL.nil ?_
    refine WX.loopO (k + 1) (by (try dsimp only); omega) (sub_cons rfl (sub_cons rfl (sub_cons rfl (sub_cons rfl (sub_cons rfl (sub_nil _)))))) (by refine (sub_cons ?_ (sub_cons ?_ (sub_nil _))) <;> (rfl)) ?_ (by exact fun w h => by rw [← lowB_set N k _ (by omega)]; exact h)
    (try dsimp only)
    omega
  · (try simp only [sB] at hc20)
    refine WC.exit ?_
    refine WX.then_exit ?_
    refine WX.then_exit ?_
    refine WX.block_exit ?_
    obtain rfl : k = N := by omega
    rw [lowB_full]
    refine WX.then_normal ?_
    refine WC.sr ?_
    refine WL.r rfl rfl rfl (rd_move rfl rfl) ?_
    refine WL.g rfl rfl rfl (og_call rfl rfl (by kernel_rfl) (keep_val fun w hS => rtrim_c (b := be k (val a + val b)) (by (exact hS.os)) (by rw [be_len]) (by rw [be_len]; exact Nat.le_refl _) (by rw [be_len]; omega))) ?_
    intro _
    refine WL.r rfl rfl rfl (rd_assign rfl rfl) ?_
    refine WL.nt ?_
    refine WC.ret ?_
    exact WX.retN rfl (.tmp rfl .nil) fun w' hS => ⟨by rw [val_be, Nat.mod_eq_of_lt hS256]; rfl, hS.below⟩
theorem minus_c {a b : Bs} {w : World} (hle : val b ≤ val a) (ha : a.length ≤ 1000000) (hb : b.length ≤ 1000000) :
    Calls Tryz.prog 57 #[.string (S a), .string (S b)] w fun e w' => e = .returned (.string (S (canon (val a - val b)))) ∧ Below w.heap.size w w' := by
  have hS256 : val a - val b < 256 ^ a.length := Nat.lt_of_le_of_lt (Nat.sub_le _ _) (val_lt a)
  refine enter (S := St (fun _ => True) w [] ([])) (L := [(0, .string (S a)), (1, .string (S b))]) Tryz.func57 rfl Tryz.ntmps57 rfl (args_cons rfl (args_cons rfl (args_nil _))) (St.start (fun _ _ => trivial) facts_nil) ?_
  refine WC.sr ?_
  refine WL.r rfl rfl rfl (rd_assign rfl rfl) ?_
  refine WL.nt ?_
  refine WC.sr ?_
  refine WL.r rfl rfl rfl (rd_move rfl rfl) ?_
  refine WL.r rfl rfl rfl (rd_slen rfl rfl Tryz.underlying22) ?_
  refine WL.r rfl rfl rfl (rd_assign rfl rfl) ?_
  refine WL.nt ?_
  refine WC.sr ?_
  refine WL.r rfl rfl rfl (rd_move rfl rfl) ?_
  refine WL.g rfl rfl rfl (og_mk rfl rfl rfl Tryz.underlying79 (by kernel_rfl : _ = some (some (.int .u8 0), 1, 1)) rfl ?_ (by (try simp only [sN, Int.reduceToNat, Nat.reduceAdd, Nat.reduceMul, Nat.reduceSub]); rfl) (by (try simp only [sN, Int.reduceToNat, Nat.reduceAdd, Nat.reduceMul, Nat.reduceSub]); rfl)) ?_
  · omega
  intro b13
  refine WL.r rfl rfl rfl (rd_assign rfl rfl) ?_
  refine WL.nt ?_
  refine WC.sr ?_
  refine WL.r rfl rfl rfl (rd_assign rfl rfl) ?_
  refine WL.set 7 rfl (v' := .int .i64 ((borrowB (val a) (val b) 0 : Nat) : Int)) (congrArg (Value.int .i64) (by rw [borrowB_zero]; rfl)) ?_
  refine WL.nt ?_
  refine WC.seq ?_
  refine WC.sr ?_
  refine WL.r rfl rfl rfl (rd_assign rfl rfl) ?_
  refine WL.nt ?_
  refine WC.block ?_
  refine WC.loopO (σ := Nat) [(0, _), (1, _), (4, _), (5, _), (6, _)] (fun g => [(7, .int .i64 (borrowB (val a) (val b) g : Int)), (8, .int .i64 (g : Int))]) (fun g => g ≤ a.length) (fun g => a.length - g) (fun g => [⟨some b13, lowB a.length g (val a - val b), 5⟩]) (fun g => []) (0) (sub_cons rfl (sub_cons rfl (sub_cons rfl (sub_cons rfl (sub_cons rfl (sub_nil _)))))) (sub_cons rfl (sub_cons rfl (sub_nil _))) (by (try dsimp only); exact Nat.zero_le _) (by exact fun w h => by rw [lowB_zero]; exact h) ?_
  rintro k hinv1; (try dsimp only at hinv1 ⊢)
  obtain hk := hinv1
  refine WC.seq ?_
  refine WC.sr ?_
  refine WL.r rfl rfl rfl (rd_move rfl rfl) ?_
  refine WL.r rfl rfl rfl (rd_move rfl rfl) ?_
  refine WL.r rfl rfl rfl (rd_lss rfl rfl rfl) ?_
  refine WL.nt ?_
  refine WC.cond rfl (fun hc16 => ?_) (fun hc16 => ?_)
  · (try simp only [sB] at hc16)
    have hc1 := borrow_le (val a) (val b) k
    have hd1 := Nat.mod_lt (val a / 256 ^ k) (show 0 < 256 by decide); have hd2 := Nat.mod_lt (val b / 256 ^ k) (show 0 < 256 by decide)
    refine WC.skip ?_
    refine WX.then_normal ?_
    refine WC.seq ?_
    refine WC.block ?_
    refine WC.sr ?_
    refine WL.r rfl rfl rfl (rd_move rfl rfl) ?_
    refine WL.r rfl rfl rfl (rd_move rfl rfl) ?_
    refine WL.g rfl rfl rfl (og_call rfl rfl (by kernel_rfl) (keep_val fun w hS => rat_c (a := a) (i := k) (by omega) (by omega))) ?_
    intro _
    refine WL.r rfl rfl rfl (rd_move rfl rfl) ?_
    refine WL.r rfl rfl rfl (rd_move rfl rfl) ?_
    refine WL.g rfl rfl rfl (og_call rfl rfl (by kernel_rfl) (keep_val fun w hS => rat_c (a := b) (i := k) (by omega) (by omega))) ?_
    intro _
    (refine WL.r rfl rfl rfl (rd_sub64 rfl rfl rfl ?_) ?_; (focus (omega)))
    refine WL.set 25 rfl (v' := .int .i64 ((((val a / 256 ^ k % 256 : Nat) : Int) - ((val b / 256 ^ k % 256 : Nat) : Int)))) (congrArg (Value.int .i64) (by omega)) ?_
    refine WL.r rfl rfl rfl (rd_move rfl rfl) ?_
    (refine WL.r rfl rfl rfl (rd_sub64 rfl rfl rfl ?_) ?_; (focus (omega)))
    refine WL.r rfl rfl rfl (rd_assign rfl rfl) ?_
    refine WL.nt ?_
    refine WC.sr ?_
    refine WL.r rfl rfl rfl (rd_assign rfl rfl) ?_
    refine WL.nt ?_
    refine WC.seq ?_
    refine WC.sr ?_
    refine WL.r rfl rfl rfl (rd_move rfl rfl) ?_
    refine WL.r rfl rfl rfl (rd_lss rfl rfl rfl) ?_
    refine WL.nt ?_
    refine WC.cond rfl (fun hc29 => ?_) (fun hc29 => ?_)
    · (try simp only [sB] at hc29)
      refine WC.sr ?_
      refine WL.r rfl rfl rfl (rd_move rfl rfl) ?_
      (refine WL.r rfl rfl rfl (rd_add64 rfl rfl rfl ?_) ?_; (focus (omega)))
      refine WL.r rfl rfl rfl (rd_assign rfl rfl) ?_
      refine WL.nt ?_
      refine WC.region ?_
      refine WL.r rfl rfl rfl (rd_assign rfl rfl) ?_
      refine WL.nt ?_
      refine WC.region ?_
      refine WL.set 7 rfl (v' := .int .i64 (borrowB (val a) (val b) (k + 1) : Int)) (congrArg (Value.int .i64) (by rw [borrow_succ]; (rw [if_pos (by omega)]; rfl))) ?_
      refine WL.r rfl rfl rfl (rd_move rfl rfl) ?_
      refine WL.r rfl rfl rfl (rd_move rfl rfl) ?_
      (refine WL.r rfl rfl rfl (rd_sub64nl rfl rfl rfl ?_) ?_; (focus (omega)))
      refine WL.r rfl rfl rfl (rd_move rfl rfl) ?_
      (refine WL.r rfl rfl rfl (rd_sub64n rfl rfl rfl ?_) ?_; (focus (omega)))
      refine WL.set 36 rfl (v' := .int .i64 ((a.length - 1 - k : Nat) : Int)) (congrArg (Value.int .i64) (by omega)) ?_
      refine WL.r rfl rfl rfl (rd_move rfl rfl) ?_
      refine WL.r rfl rfl rfl (rd_conv rfl rfl Tryz.underlying3 Tryz.underlying5) ?_
      refine WL.set 38 rfl (v' := B (UInt8.ofNat ((val a - val b) / 256 ^ k))) (by exact congrArg (Value.int .u8) (sub_byte hle k _ (by omega))) ?_
      (refine WL.r rfl rfl rfl (rd_ia rfl rfl rfl Tryz.underlying79 (by kernel_rfl : _ = some 1) ?_ (by (try simp only [sN, Int.reduceToNat, Nat.reduceAdd, Nat.reduceMul, Nat.reduceSub]); rfl)) ?_; (focus (omega)))
      refine WL.g0 rfl rfl (st rfl rfl rfl .tc (by kernel_rfl) rfl ?_ (by rfl)) ?_
      · rw [lowB_len _ _ _ (by omega)]; omega
      intro _
      refine WL.nil ?_
      refine WX.block_normal ?_
      refine WX.then_normal ?_
      refine WC.region ?_
      refine WL.r rfl rfl rfl (rd_move rfl rfl) ?_
      (refine WL.r rfl rfl rfl (rd_add64nl rfl rfl rfl ?_) ?_; (focus (omega)))
      refine WL.r rfl rfl rfl (rd_assign rfl rfl) ?_
      refine WL.nil ?_
      refine WX.loopO (k + 1) (by (try dsimp only); omega) (sub_cons rfl (sub_cons rfl (sub_cons rfl (sub_cons rfl (sub_cons rfl (sub_nil _)))))) (by refine (sub_cons ?_ (sub_cons ?_ (sub_nil _))) <;> (rfl)) ?_ (by exact fun w h => by rw [← lowB_set a.length k _ (by omega)]; exact h)
      (try dsimp only)
      omega
    · (try simp only [sB] at hc29)
      refine WC.skip ?_
      refine WX.then_normal ?_
      refine WC.region ?_
      refine WL.set 7 rfl (v' := .int .i64 (borrowB (val a) (val b) (k + 1) : Int)) (congrArg (Value.int .i64) (by rw [borrow_succ]; (rw [if_neg (by omega)]; rfl))) ?_
      refine WL.r rfl rfl rfl (rd_move rfl rfl) ?_
      refine WL.r rfl rfl rfl (rd_move rfl rfl) ?_
      (refine WL.r rfl rfl rfl (rd_sub64nl rfl rfl rfl ?_) ?_; (focus (omega)))
      refine WL.r rfl rfl rfl (rd_move rfl rfl) ?_
      (refine WL.r rfl rfl rfl (rd_sub64n rfl rfl rfl ?_) ?_; (focus (omega)))
      refine WL.set 36 rfl (v' := .int .i64 ((a.length - 1 - k : Nat) : Int)) (congrArg (Value.int .i64) (by omega)) ?_
      refine WL.r rfl rfl rfl (rd_move rfl rfl) ?_
      refine WL.r rfl rfl rfl (rd_conv rfl rfl Tryz.underlying3 Tryz.underlying5) ?_
      refine WL.set 38 rfl (v' := B (UInt8.ofNat ((val a - val b) / 256 ^ k))) (by exact congrArg (Value.int .u8) (sub_byte hle k _ (by omega))) ?_
      (refine WL.r rfl rfl rfl (rd_ia rfl rfl rfl Tryz.underlying79 (by kernel_rfl : _ = some 1) ?_ (by (try simp only [sN, Int.reduceToNat, Nat.reduceAdd, Nat.reduceMul, Nat.reduceSub]); rfl)) ?_; (focus (omega)))
      refine WL.g0 rfl rfl (st rfl rfl rfl .tc (by kernel_rfl) rfl ?_ (by rfl)) ?_
      · rw [lowB_len _ _ _ (by omega)]; omega
      intro _
      refine WL.nil ?_
      refine WX.block_normal ?_
      refine WX.then_normal ?_
      refine WC.region ?_
      refine WL.r rfl rfl rfl (rd_move rfl rfl) ?_
      (refine WL.r rfl rfl rfl (rd_add64nl rfl rfl rfl ?_) ?_; (focus (omega)))
      refine WL.r rfl rfl rfl (rd_assign rfl rfl) ?_
      refine WL.nil ?_
      refine WX.loopO (k + 1) (by (try dsimp only); omega) (sub_cons rfl (sub_cons rfl (sub_cons rfl (sub_cons rfl (sub_cons rfl (sub_nil _)))))) (by refine (sub_cons ?_ (sub_cons ?_ (sub_nil _))) <;> (rfl)) ?_ (by exact fun w h => by rw [← lowB_set a.length k _ (by omega)]; exact h)
      (try dsimp only)
      omega
  · (try simp only [sB] at hc16)
    refine WC.exit ?_
    refine WX.then_exit ?_
    refine WX.then_exit ?_
    refine WX.block_exit ?_
    obtain rfl : k = a.length := by omega
    rw [lowB_full]
    refine WX.then_normal ?_
    refine WC.sr ?_
    refine WL.r rfl rfl rfl (rd_move rfl rfl) ?_
    refine WL.g rfl rfl rfl (og_call rfl rfl (by kernel_rfl) (keep_val fun w hS => rtrim_c (b := be a.length (val a - val b)) (by (exact hS.os)) (by rw [be_len]) (by rw [be_len]; exact Nat.le_refl _) (by rw [be_len]; omega))) ?_
    intro _
    refine WL.r rfl rfl rfl (rd_assign rfl rfl) ?_
    refine WL.nt ?_
    refine WC.ret ?_
    exact WX.retN rfl (.tmp rfl .nil) fun w' hS => ⟨by rw [val_be, Nat.mod_eq_of_lt hS256]; rfl, hS.below⟩
theorem fit_c {a : Bs} {w : World} :
    Calls Tryz.prog 41 #[.string (S a)] w fun e w' => e = .returned (.tuple #[.string (S (if 128 < a.length then [] else a)), .int .i64 (if 128 < a.length then 5 else 0)]) ∧ Below w.heap.size w w' := by
  refine enter (S := St (fun _ => True) w [] ([])) (L := [(0, .string (S a))]) Tryz.func41 rfl Tryz.ntmps41 rfl (args_cons rfl (args_nil _)) (St.start (fun _ _ => trivial) facts_nil) ?_
  refine WC.sr ?_
  refine WL.r rfl rfl rfl (rd_assign rfl rfl) ?_
  refine WL.r rfl rfl rfl (rd_assign rfl rfl) ?_
  refine WL.nt ?_
  refine WC.seq ?_
  refine WC.sr ?_
  refine WL.r rfl rfl rfl (rd_move rfl rfl) ?_
  refine WL.r rfl rfl rfl (rd_slen rfl rfl Tryz.underlying22) ?_
  refine WL.r rfl rfl rfl (rd_gtr rfl rfl rfl) ?_
  refine WL.nt ?_
  refine WC.cond rfl (fun hc6 => ?_) (fun hc6 => ?_)
  · (try simp only [sB] at hc6)
    refine WC.sr ?_
    refine WL.r rfl rfl rfl (rd_assign rfl rfl) ?_
    refine WL.r rfl rfl rfl (rd_assign rfl rfl) ?_
    refine WL.nt ?_
    refine WC.ret ?_
    refine WX.then_ret ?_
    exact WX.retN rfl (.tmp rfl (.tmp rfl .nil)) fun w' hS => ⟨by rw [if_pos (by omega), if_pos (by omega)]; rfl, hS.below⟩
  · (try simp only [sB] at hc6)
    refine WC.skip ?_
    refine WX.then_normal ?_
    refine WC.sr ?_
    refine WL.r rfl rfl rfl (rd_move rfl rfl) ?_
    refine WL.r rfl rfl rfl (rd_assign rfl rfl) ?_
    refine WL.r rfl rfl rfl (rd_assign rfl rfl) ?_
    refine WL.nt ?_
    refine WC.ret ?_
    exact WX.retN rfl (.tmp rfl (.tmp rfl .nil)) fun w' hS => ⟨by rw [if_neg (by omega), if_neg (by omega)]; rfl, hS.below⟩
theorem fit_add {a b : Bs} (hab : okN a ∧ okN b) : (if 128 < (canon (val a + val b)).length then ([] : Bs) else canon (val a + val b)) = (addN a b).1 ∧ (if 128 < (canon (val a + val b)).length then (5 : Int) else 0) = (addN a b).2 := by
  rw [addN, if_pos hab]
  by_cases h : val a + val b < Big
  · have hl := canon_big.2 h
    rw [if_neg (show ¬ 128 < (canon (val a + val b)).length by omega), if_neg (show ¬ 128 < (canon (val a + val b)).length by omega), if_pos h]; exact ⟨rfl, rfl⟩
  · have hl : ¬ (canon (val a + val b)).length ≤ 128 := fun h' => h (canon_big.1 h')
    rw [if_pos (show 128 < (canon (val a + val b)).length by omega), if_pos (show 128 < (canon (val a + val b)).length by omega), if_neg h]; exact ⟨rfl, rfl⟩
theorem radd_c {a b : Bs} {w : World} :
    Calls Tryz.prog 83 #[.string (S a), .string (S b)] w fun e w' => e = .returned (NE (addN a b)) ∧ Below w.heap.size w w' := by
  refine enter (S := St (fun _ => True) w [] ([])) (L := [(0, .string (S a)), (1, .string (S b))]) Tryz.func83 rfl Tryz.ntmps83 rfl (args_cons rfl (args_cons rfl (args_nil _))) (St.start (fun _ _ => trivial) facts_nil) ?_
  refine WC.sr ?_
  refine WL.r rfl rfl rfl (rd_assign rfl rfl) ?_
  refine WL.r rfl rfl rfl (rd_assign rfl rfl) ?_
  refine WL.nt ?_
  refine WC.seq ?_
  refine WC.sr ?_
  refine WL.r rfl rfl rfl (rd_move rfl rfl) ?_
  refine WL.g rfl rfl rfl (og_call rfl rfl (by kernel_rfl) (keep_val fun w hS => rvalid_c)) ?_
  intro _
  refine WL.r rfl rfl rfl (rd_not rfl rfl) ?_
  refine WL.r rfl rfl rfl (rd_move rfl rfl) ?_
  refine WL.bool 9 rfl (fun hg9 => ?_) (fun hg9 => ?_)
  · (try simp only [sB] at hg9)
    refine WL.s rfl rfl rfl ?_
    refine WL.s rfl rfl rfl ?_
    refine WL.s rfl rfl rfl ?_
    refine WL.r rfl rfl rfl (rd_pickt rfl rfl rfl) ?_
    refine WL.nt ?_
    refine WC.cond rfl (fun _ => ?_) (fun h => by cases h)
    refine WC.sr ?_
    refine WL.r rfl rfl rfl (rd_assign rfl rfl) ?_
    refine WL.r rfl rfl rfl (rd_assign rfl rfl) ?_
    refine WL.nt ?_
    refine WC.ret ?_
    refine WX.then_ret ?_
    exact WX.retN rfl (.tmp rfl (.tmp rfl .nil)) fun w' hS => ⟨by rw [addN, if_neg (by simp_all)]; rfl, hS.below⟩
  · (try simp only [sB] at hg9)
    refine WL.r rfl rfl rfl (rd_move rfl rfl) ?_
    refine WL.g rfl rfl rfl (og_call rfl rfl (by kernel_rfl) (keep_val fun w hS => rvalid_c)) ?_
    intro _
    refine WL.r rfl rfl rfl (rd_not rfl rfl) ?_
    refine WL.r rfl rfl rfl (rd_pickf rfl rfl rfl) ?_
    refine WL.nt ?_
    refine WC.cond rfl (fun hc13 => ?_) (fun hc13 => ?_)
    · (try simp only [sB] at hc13)
      refine WC.sr ?_
      refine WL.r rfl rfl rfl (rd_assign rfl rfl) ?_
      refine WL.r rfl rfl rfl (rd_assign rfl rfl) ?_
      refine WL.nt ?_
      refine WC.ret ?_
      refine WX.then_ret ?_
      exact WX.retN rfl (.tmp rfl (.tmp rfl .nil)) fun w' hS => ⟨by rw [addN, if_neg (by simp_all)]; rfl, hS.below⟩
    · (try simp only [sB] at hc13)
      have hab : okN a ∧ okN b := by simp_all
      have hal := hab.1.1; have hbl := hab.2.1
      have hcl := fit_add hab
      refine WC.skip ?_
      refine WX.then_normal ?_
      refine WC.sr ?_
      refine WL.r rfl rfl rfl (rd_move rfl rfl) ?_
      refine WL.r rfl rfl rfl (rd_move rfl rfl) ?_
      refine WL.g rfl rfl rfl (og_call rfl rfl (by kernel_rfl) (keep_val fun w hS => plus_c (a := a) (b := b) (by omega) (by omega))) ?_
      intro _
      refine WL.g rfl rfl rfl (og_call rfl rfl (by kernel_rfl) (keep_val fun w hS => fit_c)) ?_
      intro _
      refine WL.r rfl rfl rfl (rd_extL rfl rfl rfl) ?_
      refine WL.r rfl rfl rfl (rd_extL rfl rfl rfl) ?_
      refine WL.r rfl rfl rfl (rd_assign rfl rfl) ?_
      refine WL.r rfl rfl rfl (rd_assign rfl rfl) ?_
      refine WL.nt ?_
      refine WC.ret ?_
      exact WX.retN rfl (.tmp rfl (.tmp rfl .nil)) fun w' hS => ⟨by simp only [tup, NE]; rw [← hcl.1, ← hcl.2], hS.below⟩
theorem rsub_c {a b : Bs} {w : World} :
    Calls Tryz.prog 84 #[.string (S a), .string (S b)] w fun e w' => e = .returned (NE (subN a b)) ∧ Below w.heap.size w w' := by
  refine enter (S := St (fun _ => True) w [] ([])) (L := [(0, .string (S a)), (1, .string (S b))]) Tryz.func84 rfl Tryz.ntmps84 rfl (args_cons rfl (args_cons rfl (args_nil _))) (St.start (fun _ _ => trivial) facts_nil) ?_
  refine WC.sr ?_
  refine WL.r rfl rfl rfl (rd_assign rfl rfl) ?_
  refine WL.r rfl rfl rfl (rd_assign rfl rfl) ?_
  refine WL.nt ?_
  refine WC.seq ?_
  refine WC.sr ?_
  refine WL.r rfl rfl rfl (rd_move rfl rfl) ?_
  refine WL.g rfl rfl rfl (og_call rfl rfl (by kernel_rfl) (keep_val fun w hS => rvalid_c)) ?_
  intro _
  refine WL.r rfl rfl rfl (rd_not rfl rfl) ?_
  refine WL.r rfl rfl rfl (rd_move rfl rfl) ?_
  refine WL.bool 9 rfl (fun hg9 => ?_) (fun hg9 => ?_)
  · (try simp only [sB] at hg9)
    refine WL.s rfl rfl rfl ?_
    refine WL.s rfl rfl rfl ?_
    refine WL.s rfl rfl rfl ?_
    refine WL.r rfl rfl rfl (rd_pickt rfl rfl rfl) ?_
    refine WL.nt ?_
    refine WC.cond rfl (fun _ => ?_) (fun h => by cases h)
    refine WC.sr ?_
    refine WL.r rfl rfl rfl (rd_assign rfl rfl) ?_
    refine WL.r rfl rfl rfl (rd_assign rfl rfl) ?_
    refine WL.nt ?_
    refine WC.ret ?_
    refine WX.then_ret ?_
    exact WX.retN rfl (.tmp rfl (.tmp rfl .nil)) fun w' hS => ⟨by rw [subN, if_neg (by simp_all)]; rfl, hS.below⟩
  · (try simp only [sB] at hg9)
    refine WL.r rfl rfl rfl (rd_move rfl rfl) ?_
    refine WL.g rfl rfl rfl (og_call rfl rfl (by kernel_rfl) (keep_val fun w hS => rvalid_c)) ?_
    intro _
    refine WL.r rfl rfl rfl (rd_not rfl rfl) ?_
    refine WL.r rfl rfl rfl (rd_pickf rfl rfl rfl) ?_
    refine WL.nt ?_
    refine WC.cond rfl (fun hc13 => ?_) (fun hc13 => ?_)
    · (try simp only [sB] at hc13)
      refine WC.sr ?_
      refine WL.r rfl rfl rfl (rd_assign rfl rfl) ?_
      refine WL.r rfl rfl rfl (rd_assign rfl rfl) ?_
      refine WL.nt ?_
      refine WC.ret ?_
      refine WX.then_ret ?_
      exact WX.retN rfl (.tmp rfl (.tmp rfl .nil)) fun w' hS => ⟨by rw [subN, if_neg (by simp_all)]; rfl, hS.below⟩
    · (try simp only [sB] at hc13)
      have hab : okN a ∧ okN b := by simp_all
      have hal := hab.1.1; have hbl := hab.2.1
      refine WC.skip ?_
      refine WX.then_normal ?_
      refine WC.seq ?_
      refine WC.sr ?_
      refine WL.r rfl rfl rfl (rd_move rfl rfl) ?_
      refine WL.r rfl rfl rfl (rd_move rfl rfl) ?_
      refine WL.g rfl rfl rfl (og_call rfl rfl (by kernel_rfl) (keep_val fun w hS => order_c (a := a) (b := b) (by exact hab.1.2) (by exact hab.2.2) (by omega))) ?_
      intro _
      refine WL.r rfl rfl rfl (rd_lss rfl rfl rfl) ?_
      refine WL.nt ?_
      refine WC.cond rfl (fun hc17 => ?_) (fun hc17 => ?_)
      · (try simp only [sB] at hc17)
        rw [cmpI_neg] at hc17
        refine WC.sr ?_
        refine WL.r rfl rfl rfl (rd_assign rfl rfl) ?_
        refine WL.r rfl rfl rfl (rd_assign rfl rfl) ?_
        refine WL.nt ?_
        refine WC.ret ?_
        refine WX.then_ret ?_
        exact WX.retN rfl (.tmp rfl (.tmp rfl .nil)) fun w' hS => ⟨by rw [subN, if_pos hab, if_pos hc17]; rfl, hS.below⟩
      · (try simp only [sB] at hc17)
        have hle : val b ≤ val a := Nat.not_lt.1 fun h => by have := (cmpI_neg _ _).2 h; omega
        refine WC.skip ?_
        refine WX.then_normal ?_
        refine WC.sr ?_
        refine WL.r rfl rfl rfl (rd_move rfl rfl) ?_
        refine WL.r rfl rfl rfl (rd_move rfl rfl) ?_
        refine WL.g rfl rfl rfl (og_call rfl rfl (by kernel_rfl) (keep_val fun w hS => minus_c (a := a) (b := b) (by assumption) (by omega) (by omega))) ?_
        intro _
        refine WL.r rfl rfl rfl (rd_assign rfl rfl) ?_
        refine WL.r rfl rfl rfl (rd_assign rfl rfl) ?_
        refine WL.nt ?_
        refine WC.ret ?_
        exact WX.retN rfl (.tmp rfl (.tmp rfl .nil)) fun w' hS => ⟨by rw [subN, if_pos hab, if_neg (by omega)]; rfl, hS.below⟩
end Go.Proofs.YtbcnnkcddilfjaaGreat
