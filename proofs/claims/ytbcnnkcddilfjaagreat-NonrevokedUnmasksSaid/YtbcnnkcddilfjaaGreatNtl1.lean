/-
  natural: the small functions, sums and differences.
-/
import Derived.Test.YtbcnnkcddilfjaaGreatNum
import Derived.Test.YtbcnnkcddilfjaaGreatLib1
import Derived.Test.YtbcnnkcddilfjaaGreatApp
namespace Go.Proofs.YtbcnnkcddilfjaaGreat
set_option linter.unusedSimpArgs false
set_option linter.unusedVariables false
set_option maxRecDepth 20000
set_option maxHeartbeats 600000
open Go.RowKit

/-- a valid number -/
def okN (a : Bs) : Prop := a.length ≤ 128 ∧ Can a
instance (a : Bs) : Decidable (okN a) := inferInstanceAs (Decidable (_ ∧ _))
theorem can_iff (a : Bs) : Can a ↔ a.length = 0 ∨ (a.getD 0 default).toNat ≠ 0 := by
  cases a with
  | nil => simp [Can]
  | cons c s =>
    simp only [Can, List.head?_cons, List.length_cons, List.getD_cons_zero]
    constructor
    · intro h; right; intro h0; exact h (by rw [show c = 0 from UInt8.toNat_inj.1 h0])
    · rintro (h | h)
      · omega
      · intro h0; injection h0 with h0; subst h0; exact h rfl
theorem valid_c {a : Bs} {w : World} :
    Calls Tryz.prog 15 #[.string (S a)] w fun e w' => e = .returned (.bool (decide (okN a))) ∧ Below w.heap.size w w' := by
  have hci := can_iff a
  refine enter (S := St (fun _ => True) w [] ([])) (L := [(0, .string (S a))]) Tryz.func15 rfl Tryz.ntmps15 rfl (args_cons rfl (args_nil _)) (St.start (fun _ _ => trivial) facts_nil) ?_
  refine WC.sr ?_
  refine WL.r rfl rfl rfl (rd_assign rfl rfl) ?_
  refine WL.nt ?_
  refine WC.sr ?_
  refine WL.r rfl rfl rfl (rd_move rfl rfl) ?_
  refine WL.r rfl rfl rfl (rd_slen rfl rfl Tryz.underlying22) ?_
  refine WL.r rfl rfl rfl (rd_leq rfl rfl rfl) ?_
  refine WL.r rfl rfl rfl (rd_move rfl rfl) ?_
  refine WL.bool 6 rfl (fun hg6 => ?_) (fun hg6 => ?_)
  · (try simp only [sB] at hg6)
    refine WL.r rfl rfl rfl (rd_move rfl rfl) ?_
    refine WL.r rfl rfl rfl (rd_slen rfl rfl Tryz.underlying22) ?_
    refine WL.r rfl rfl rfl (rd_eql rfl rfl rfl) ?_
    refine WL.r rfl rfl rfl (rd_move rfl rfl) ?_
    refine WL.bool 10 rfl (fun hg10 => ?_) (fun hg10 => ?_)
    · (try simp only [sB] at hg10)
      refine WL.s rfl rfl rfl ?_
      refine WL.s rfl rfl rfl ?_
      refine WL.s rfl rfl rfl ?_
      refine WL.r rfl rfl rfl (rd_pickt rfl rfl rfl) ?_
      refine WL.r rfl rfl rfl (rd_pickt rfl rfl rfl) ?_
      refine WL.r rfl rfl rfl (rd_assign rfl rfl) ?_
      refine WL.nt ?_
      refine WC.ret ?_
      exact WX.retN rfl (.tmp rfl .nil) fun w' hS => ⟨congrArg (fun b => Ending.returned (.bool b)) (by
        first
          | (symm; rw [decide_eq_true_eq]; exact ⟨by omega, hci.2 (.inl (by omega))⟩)
          | (symm; rw [decide_eq_false_iff_not]; rintro ⟨h, _⟩; omega)
          | (show (!decide ((((a.getD 0 default).toNat : Nat) : Int) = 0)) = _
             rw [Bool.eq_iff_iff]; simp only [Bool.not_eq_true', decide_eq_false_iff_not, decide_eq_true_eq]
             exact ⟨fun h => ⟨by omega, hci.2 (.inr (by omega))⟩, fun h => by have := (hci.1 h.2).resolve_left (by omega); omega⟩)), hS.below⟩
    · (try simp only [sB] at hg10)
      refine WL.r rfl rfl rfl (rd_move rfl rfl) ?_
      refine WL.r rfl rfl rfl (rd_sidxD rfl rfl rfl Tryz.underlying22 ?_) ?_
      · omega
      refine WL.r rfl rfl rfl (rd_neq rfl rfl rfl) ?_
      refine WL.r rfl rfl rfl (rd_pickf rfl rfl rfl) ?_
      refine WL.r rfl rfl rfl (rd_pickt rfl rfl rfl) ?_
      refine WL.r rfl rfl rfl (rd_assign rfl rfl) ?_
      refine WL.nt ?_
      refine WC.ret ?_
      exact WX.retN rfl (.tmp rfl .nil) fun w' hS => ⟨congrArg (fun b => Ending.returned (.bool b)) (by
        first
          | (symm; rw [decide_eq_true_eq]; exact ⟨by omega, hci.2 (.inl (by omega))⟩)
          | (symm; rw [decide_eq_false_iff_not]; rintro ⟨h, _⟩; omega)
          | (show (!decide ((((a.getD 0 default).toNat : Nat) : Int) = 0)) = _
             rw [Bool.eq_iff_iff]; simp only [Bool.not_eq_true', decide_eq_false_iff_not, decide_eq_true_eq]
             exact ⟨fun h => ⟨by omega, hci.2 (.inr (by omega))⟩, fun h => by have := (hci.1 h.2).resolve_left (by omega); omega⟩)), hS.below⟩
  · (try simp only [sB] at hg6)
    refine WL.s rfl rfl rfl ?_
    refine WL.s rfl rfl rfl ?_
    refine WL.s rfl rfl rfl ?_
    refine WL.s rfl rfl rfl ?_
    refine WL.s rfl rfl rfl ?_
    refine WL.s rfl rfl rfl ?_
    refine WL.s rfl rfl rfl ?_
    refine WL.s rfl rfl rfl ?_
    refine WL.r rfl rfl rfl (rd_pickf rfl rfl rfl) ?_
    refine WL.r rfl rfl rfl (rd_assign rfl rfl) ?_
    refine WL.nt ?_
    refine WC.ret ?_
    exact WX.retN rfl (.tmp rfl .nil) fun w' hS => ⟨congrArg (fun b => Ending.returned (.bool b)) (by
      first
        | (symm; rw [decide_eq_true_eq]; exact ⟨by omega, hci.2 (.inl (by omega))⟩)
        | (symm; rw [decide_eq_false_iff_not]; rintro ⟨h, _⟩; omega)
        | (show (!decide ((((a.getD 0 default).toNat : Nat) : Int) = 0)) = _
           rw [Bool.eq_iff_iff]; simp only [Bool.not_eq_true', decide_eq_false_iff_not, decide_eq_true_eq]
           exact ⟨fun h => ⟨by omega, hci.2 (.inr (by omega))⟩, fun h => by have := (hci.1 h.2).resolve_left (by omega); omega⟩)), hS.below⟩
theorem digit_c {a : Bs} {i : Nat} {w : World} (ha : a.length ≤ 1000000000) (hi : i ≤ 1000000000) :
    Calls Tryz.prog 63 #[.string (S a), .int .i64 (i : Int)] w fun e w' => e = .returned (.int .i64 ((val a / 256 ^ i % 256 : Nat) : Int)) ∧ Below w.heap.size w w' := by
  refine enter (S := St (fun _ => True) w [] ([])) (L := [(0, .string (S a)), (1, .int .i64 (i : Int))]) Tryz.func63 rfl Tryz.ntmps63 rfl (args_cons rfl (args_cons rfl (args_nil _))) (St.start (fun _ _ => trivial) facts_nil) ?_
  refine WC.sr ?_
  refine WL.r rfl rfl rfl (rd_assign rfl rfl) ?_
  refine WL.nt ?_
  refine WC.seq ?_
  refine WC.sr ?_
  refine WL.r rfl rfl rfl (rd_move rfl rfl) ?_
  refine WL.r rfl rfl rfl (rd_move rfl rfl) ?_
  refine WL.r rfl rfl rfl (rd_slen rfl rfl Tryz.underlying22) ?_
  refine WL.r rfl rfl rfl (rd_geq rfl rfl rfl) ?_
  refine WL.nt ?_
  refine WC.cond rfl (fun hc8 => ?_) (fun hc8 => ?_)
  · (try simp only [sB] at hc8)
    refine WC.sr ?_
    refine WL.r rfl rfl rfl (rd_assign rfl rfl) ?_
    refine WL.nt ?_
    refine WC.ret ?_
    refine WX.then_ret ?_
    exact WX.retN rfl (.tmp rfl .nil) fun w' hS => ⟨by rw [val_digit0 a i (by omega)]; rfl, hS.below⟩
  · (try simp only [sB] at hc8)
    refine WC.skip ?_
    refine WX.then_normal ?_
    refine WC.sr ?_
    refine WL.r rfl rfl rfl (rd_move rfl rfl) ?_
    refine WL.r rfl rfl rfl (rd_move rfl rfl) ?_
    refine WL.r rfl rfl rfl (rd_slen rfl rfl Tryz.underlying22) ?_
    (refine WL.r rfl rfl rfl (rd_sub64nl rfl rfl rfl ?_) ?_; (focus (omega)))
    refine WL.r rfl rfl rfl (rd_move rfl rfl) ?_
    (refine WL.r rfl rfl rfl (rd_sub64n rfl rfl rfl ?_) ?_; (focus (omega)))
    refine WL.r rfl rfl rfl (rd_sidxD rfl rfl rfl Tryz.underlying22 ?_) ?_
    · omega
    refine WL.r rfl rfl rfl (rd_convN rfl rfl Tryz.underlying5 Tryz.underlying3 ?_) ?_
    · (exact wrap8_64 _)
    refine WL.r rfl rfl rfl (rd_assign rfl rfl) ?_
    refine WL.nt ?_
    refine WC.ret ?_
    exact WX.retN rfl (.tmp rfl .nil) fun w' hS => ⟨by rw [val_digit a i (by omega)]; simp only [tup]; congr 3, hS.below⟩
theorem trimB_zero {t : Bs} (h0 : 0 < t.length) (h : (t.getD 0 default).toNat = 0) : trimB t = trimB (t.drop 1) := by
  cases t with
  | nil => simp at h0
  | cons c s =>
    have : c = 0 := UInt8.toNat_inj.1 h
    subst this; simp [trimB]
theorem trimB_stop {t : Bs} (h : t.length = 0 ∨ (t.getD 0 default).toNat ≠ 0) : trimB t = t := trim_can ((can_iff t).2 h)
theorem trimmed_n {b : Bs} {ad : Option Addr} {cap : Nat} {w : World} {ok : Nat → Prop} (hF1 : (Fact.sl ad (b.map B)).holds ok w) (hcap : b.length ≤ cap) (hb : b.length ≤ 1000000000) :
    Calls Tryz.prog 35 #[.slice ad b.length cap] w fun e w' => e = .returned (.string (S (canon (val b)))) ∧ Below w.heap.size w w' := by
  refine enter (S := St (fun _ => True) w [] ([Fact.sl ad (b.map B)])) (L := [(0, .slice ad b.length cap)]) Tryz.func35 rfl Tryz.ntmps35 rfl (args_cons rfl (args_nil _)) (St.start (fun _ _ => trivial) (facts_cons (fact_any hF1) facts_nil)) ?_
  refine WC.sr ?_
  refine WL.r rfl rfl rfl (rd_assign rfl rfl) ?_
  refine WL.nt ?_
  refine WC.seq ?_
  refine WC.block ?_
  refine WC.loopO (σ := Bs × (Option Addr) × Nat) [(2, _)] (fun g => [(0, .slice g.2.1 g.1.length g.2.2)]) (fun g => trimB g.1 = trimB b ∧ g.1.length ≤ g.2.2 ∧ g.1.length ≤ b.length) (fun g => g.1.length) (fun g => []) (fun g => [Fact.sl g.2.1 (g.1.map B)]) (b, ad, cap) (sub_cons rfl (sub_nil _)) (sub_cons rfl (sub_nil _)) (by (try dsimp only); exact ⟨rfl, hcap, Nat.le_refl _⟩) (by (exact fun _ h => h)) ?_
  rintro ⟨t, a', c⟩ hinv1; (try dsimp only at hinv1 ⊢)
  obtain ⟨ht, htc, htb⟩ := hinv1
  refine WC.seq ?_
  refine WC.sr ?_
  refine WL.r rfl rfl rfl (rd_move rfl rfl) ?_
  refine WL.r rfl rfl rfl (rd_len rfl rfl Tryz.underlying79) ?_
  refine WL.r rfl rfl rfl (rd_gtr rfl rfl rfl) ?_
  refine WL.r rfl rfl rfl (rd_move rfl rfl) ?_
  refine WL.bool 6 rfl (fun hg6 => ?_) (fun hg6 => ?_)
  · (try simp only [sB] at hg6)
    refine WL.r rfl rfl rfl (rd_move rfl rfl) ?_
    (refine WL.r rfl rfl rfl (iaf rfl rfl rfl Tryz.underlying79 (by kernel_rfl : _ = some 1) ?_ ?_ (by (try simp only [sN, Int.reduceToNat, Nat.reduceAdd, Nat.reduceMul, Nat.reduceSub]); rfl)) ?_; (focus (omega)); (focus ((rw [List.length_map]; omega))))
    (refine WL.r rfl rfl rfl (ldm rfl rfl Tryz.underlying5 rfl ?_) ?_; (focus (omega)))
    refine WL.r rfl rfl rfl (rd_eql rfl rfl rfl) ?_
    refine WL.r rfl rfl rfl (rd_pickt rfl rfl rfl) ?_
    refine WL.nt ?_
    refine WC.cond rfl (fun hc11 => ?_) (fun hc11 => ?_)
    · (try simp only [sB] at hc11)
      have hz : (t.getD 0 default).toNat = 0 := by (simp at hc11; exact hc11)
      refine WC.skip ?_
      refine WX.then_normal ?_
      refine WC.block ?_
      refine WC.region ?_
      refine WL.r rfl rfl rfl (rd_move rfl rfl) ?_
      (refine WL.r rfl rfl rfl (rd_slf rfl rfl rfl Tryz.underlying79 (by kernel_rfl : _ = some 1) ?_ (by (try simp only [sN, Int.reduceToNat, Nat.reduceAdd, Nat.reduceMul, Nat.reduceSub]); rfl) (by (try simp only [sN, Int.reduceToNat, Nat.reduceAdd, Nat.reduceMul, Nat.reduceSub]); rfl) (by (try simp only [sN, Int.reduceToNat, Nat.reduceAdd, Nat.reduceMul, Nat.reduceSub]); rfl)) ?_; (focus (omega)))
      refine WL.set 13 rfl (v' := .slice (cut a' 1 c 1) (t.drop 1).length (c - 1)) (by rw [List.length_drop]) ?_
      refine WL.r rfl rfl rfl (rd_assign rfl rfl) ?_
      refine WL.nil ?_
      refine WX.block_normal ?_
      refine WX.loopO ((t.drop 1, cut a' 1 c 1, c - 1)) (by simp only [List.length_drop]; omega) (sub_cons rfl (sub_nil _)) (by refine (sub_cons ?_ (sub_nil _)) <;> (rfl)) ?_ (by exact fun w h => (h.add (f := Fact.sl (cut a' 1 c 1) ((t.drop 1).map B)) (sl_cutM 1 htc (h.fact (Fact.sl a' (t.map B)) (by simp)))).sub (List.Sublist.refl _) (fun f hf => List.mem_cons.2 (.inl (List.mem_singleton.1 hf))))
      (try dsimp only)
      exact ⟨by rw [← trimB_zero (by omega) hz]; exact ht, by simp; omega, by simp; omega⟩
    · (try simp only [sB] at hc11)
      refine WC.exit ?_
      refine WX.then_exit ?_
      refine WX.then_exit ?_
      refine WX.block_exit ?_
      refine WX.then_normal ?_
      refine WC.sr ?_
      refine WL.r rfl rfl rfl (rd_move rfl rfl) ?_
      refine WL.r rfl rfl rfl (b2sf rfl rfl .tc Tryz.underlying79 Tryz.underlying5 Tryz.underlying22 ?_) ?_
      · rfl
      refine WL.r rfl rfl rfl (rd_assign rfl rfl) ?_
      refine WL.nt ?_
      refine WC.ret ?_
      exact WX.retN rfl (.tmp rfl .nil) fun w' hS => ⟨by rw [show canon (val b) = t from by rw [← trim_canon, ← ht, trimB_stop (by omega)]]; rfl, hS.below⟩
  · (try simp only [sB] at hg6)
    refine WL.s rfl rfl rfl ?_
    refine WL.s rfl rfl rfl ?_
    refine WL.s rfl rfl rfl ?_
    refine WL.s rfl rfl rfl ?_
    refine WL.r rfl rfl rfl (rd_pickf rfl rfl rfl) ?_
    refine WL.nt ?_
    refine WC.cond rfl (fun h => by cases h) (fun _ => ?_)
    refine WC.exit ?_
    refine WX.then_exit ?_
    refine WX.then_exit ?_
    refine WX.block_exit ?_
    refine WX.then_normal ?_
    refine WC.sr ?_
    refine WL.r rfl rfl rfl (rd_move rfl rfl) ?_
    refine WL.r rfl rfl rfl (b2sf rfl rfl .tc Tryz.underlying79 Tryz.underlying5 Tryz.underlying22 ?_) ?_
    · rfl
    refine WL.r rfl rfl rfl (rd_assign rfl rfl) ?_
    refine WL.nt ?_
    refine WC.ret ?_
    exact WX.retN rfl (.tmp rfl .nil) fun w' hS => ⟨by rw [show canon (val b) = t from by rw [← trim_canon, ← ht, trimB_stop (by omega)]]; rfl, hS.below⟩
theorem trimmed_c {b : Bs} {ad : Option Addr} {m cap : Nat} {w : World} {ok : Nat → Prop} (hF1 : (Fact.sl ad (b.map B)).holds ok w) (hm : m = b.length) (hcap : b.length ≤ cap) (hb : b.length ≤ 1000000000) :
    Calls Tryz.prog 35 #[.slice ad m cap] w fun e w' => e = .returned (.string (S (canon (val b)))) ∧ Below w.heap.size w w' :=
  by subst hm; exact trimmed_n hF1 hcap hb
/-- the last k bytes of an m-byte block -/
def lowB (m k n : Nat) : List Value := (List.replicate (m - k) (0 : UInt8) ++ be k n).map B
theorem lowB_zero (m n : Nat) : lowB m 0 n = List.replicate m (B 0) := by simp [lowB, be]
theorem lowB_full (m n : Nat) : lowB m m n = (be m n).map B := by simp [lowB]
theorem lowB_len (m k n : Nat) (h : k ≤ m) : (lowB m k n).length = m := by simp [lowB, be_len]; omega
theorem lowB_set (m k n : Nat) (h : k < m) : (lowB m k n).set (m - 1 - k) (B (UInt8.ofNat (n / 256 ^ k))) = lowB m (k + 1) n := by
  unfold lowB
  rw [← List.map_set]
  congr 1
  rw [show m - k = (m - (k + 1)) + 1 by omega, List.replicate_succ', List.append_assoc, List.set_append_right _ _ (by simp; omega), List.length_replicate, show m - 1 - k - (m - (k + 1)) = 0 by omega]
  rfl
theorem byte_shr64 (n k : Nat) (h : k ≤ 8) : IntKind.u8.wrap ((n : Int).fdiv (2 ^ (min (Int.toNat ((8 * k : Nat) : Int)) IntKind.u64.bits))) = ((UInt8.ofNat (n / 256 ^ k)).toNat : Int) := by
  have m1 : min (Int.toNat ((8 * k : Nat) : Int)) IntKind.u64.bits = 8 * k := by
    have : IntKind.u64.bits = 64 := by decide
    omega
  have e2 : ((2 : Int) ^ (8 * k)) = ((256 ^ k : Nat) : Int) := by rw [Int.pow_mul]; norm_cast
  rw [m1, e2, IntKind.wrap_u8, Int.fdiv_eq_ediv_of_nonneg _ (Int.natCast_nonneg _), UInt8.toNat_ofNat']
  norm_cast
theorem of_c {n : Nat} {w : World} (hn : n < 18446744073709551616) :
    Calls Tryz.prog 12 #[.int .u64 (n : Int)] w fun e w' => e = .returned (.string (S (canon n))) ∧ Below w.heap.size w w' := by
  refine enter (S := St (fun _ => True) w [] ([])) (L := [(0, .int .u64 (n : Int))]) Tryz.func12 rfl Tryz.ntmps12 rfl (args_cons rfl (args_nil _)) (St.start (fun _ _ => trivial) facts_nil) ?_
  refine WC.sr ?_
  refine WL.r rfl rfl rfl (rd_assign rfl rfl) ?_
  refine WL.nt ?_
  refine WC.sr ?_
  refine WL.g rfl rfl rfl (og_alloc rfl (v := (.agg #[.int .u8 0, .int .u8 0, .int .u8 0, .int .u8 0, .int .u8 0, .int .u8 0, .int .u8 0, .int .u8 0])) (cs := [.int .u8 0, .int .u8 0, .int .u8 0, .int .u8 0, .int .u8 0, .int .u8 0, .int .u8 0, .int .u8 0]) (by kernel_rfl) rfl) ?_
  intro b3
  refine WL.nt ?_
  refine WC.seq ?_
  refine WC.sr ?_
  refine WL.r rfl rfl rfl (rd_move rfl rfl) ?_
  refine WL.nt ?_
  refine WC.block ?_
  refine WC.loopO (σ := Nat) [(0, _), (2, _), (3, _)] (fun g => [(5, .int .i64 (g : Int))]) (fun g => g ≤ 8) (fun g => 8 - g) (fun g => [⟨some b3, lowB 8 g n, 77⟩]) (fun g => []) (0) (sub_cons rfl (sub_cons rfl (sub_cons rfl (sub_nil _)))) (sub_cons rfl (sub_nil _)) (by (try dsimp only); exact Nat.zero_le _) (by exact fun w h => h) ?_
  rintro k hinv1; (try dsimp only at hinv1 ⊢)
  obtain hk := hinv1
  refine WC.sr ?_
  refine WL.r rfl rfl rfl (rd_lss rfl rfl rfl) ?_
  refine WL.nt ?_
  refine WC.seq ?_
  refine WC.cond rfl (fun hc6 => ?_) (fun hc6 => ?_)
  · (try simp only [sB] at hc6)
    refine WC.skip ?_
    refine WX.then_normal ?_
    refine WC.seq ?_
    refine WC.block ?_
    refine WC.sr ?_
    refine WL.r rfl rfl rfl (rd_move rfl rfl) ?_
    refine WL.r rfl rfl rfl (rd_assign rfl rfl) ?_
    refine WL.nt ?_
    refine WC.region ?_
    refine WL.r rfl rfl rfl (rd_move rfl rfl) ?_
    (refine WL.r rfl rfl rfl (rd_sub64ln rfl rfl rfl ?_) ?_; (focus (omega)))
    refine WL.set 9 rfl (v' := .int .i64 (((7 - k : Nat) : Int))) (congrArg (Value.int .i64) (by omega)) ?_
    refine WL.r rfl rfl rfl (rd_move rfl rfl) ?_
    refine WL.r rfl rfl rfl (rd_move rfl rfl) ?_
    (refine WL.r rfl rfl rfl (rd_mul64ln rfl rfl rfl ?_) ?_; (focus (omega)))
    refine WL.r rfl rfl rfl (rd_shr rfl rfl rfl ?_) ?_
    · omega
    refine WL.r rfl rfl rfl (rd_conv rfl rfl Tryz.underlying55 Tryz.underlying5) ?_
    refine WL.set 14 rfl (v' := B (UInt8.ofNat (n / 256 ^ k))) (by exact congrArg (Value.int .u8) (byte_shr64 n k (by omega))) ?_
    refine WL.r rfl rfl rfl (rd_iaa rfl rfl rfl Tryz.underlying77 (by kernel_rfl : _ = some 1) ?_ (by (try simp only [sN, Int.reduceToNat, Nat.reduceAdd, Nat.reduceMul, Nat.reduceSub]); rfl)) ?_
    · omega
    refine WL.g0 rfl rfl (st rfl rfl rfl .tc (by kernel_rfl) rfl ?_ (by rfl)) ?_
    · rw [lowB_len _ _ _ (by omega)]; omega
    intro _
    refine WL.nil ?_
    refine WX.block_normal ?_
    refine WX.then_normal ?_
    refine WC.region ?_
    (refine WL.r rfl rfl rfl (rd_add64nl rfl rfl rfl ?_) ?_; (focus (omega)))
    refine WL.r rfl rfl rfl (rd_move rfl rfl) ?_
    refine WL.nil ?_
    refine WX.loopO (k + 1) (by (try dsimp only); omega) (sub_cons rfl (sub_cons rfl (sub_cons rfl (sub_nil _)))) (by refine (sub_cons ?_ (sub_nil _)) <;> (rfl)) ?_ (by exact fun w h => by rw [← lowB_set 8 k n (by omega)]; exact h)
    (try dsimp only)
    omega
  · (try simp only [sB] at hc6)
    refine WC.exit ?_
    refine WX.then_exit ?_
    refine WX.then_exit ?_
    refine WX.block_exit ?_
    obtain rfl : k = 8 := by omega
    rw [lowB_full]
    refine WX.then_normal ?_
    refine WC.sr ?_
    refine WL.r rfl rfl rfl (rd_sla rfl rfl Tryz.underlying77 (by kernel_rfl : _ = some 1)) ?_
    refine WL.g rfl rfl rfl (og_call rfl rfl (by kernel_rfl) (keep_val fun w hS => trimmed_c (b := be 8 n) (by (exact hS.os)) (by rw [be_len]) (by rw [be_len]; decide) (by rw [be_len]; decide))) ?_
    intro _
    refine WL.r rfl rfl rfl (rd_assign rfl rfl) ?_
    refine WL.nt ?_
    refine WC.ret ?_
    exact WX.retN rfl (.tmp rfl .nil) fun w' hS => ⟨by rw [val_be, Nat.mod_eq_of_lt (by omega)]; rfl, hS.below⟩
theorem cmpB_lex : ∀ (a b : Bs), a.length = b.length → Lib.compareBytes a b = cmpI (val a) (val b)
  | [], [], _ => by simp [Lib.compareBytes, cmpI, val]
  | [], _ :: _, h => by simp at h
  | _ :: _, [], h => by simp at h
  | x :: a, y :: b, h => by
    have hl : a.length = b.length := by simpa using h
    have ih := cmpB_lex a b hl
    have ha := val_lt a; have hb := val_lt b
    rw [hl] at ha
    simp only [Lib.compareBytes, val, hl]
    rcases Nat.lt_trichotomy x.toNat y.toNat with q | q | q
    · have h1 : (x.toNat + 1) * 256 ^ b.length ≤ y.toNat * 256 ^ b.length := Nat.mul_le_mul_right _ q
      rw [Nat.add_mul, Nat.one_mul] at h1
      rw [if_pos (show x < y from q), cmpI, if_pos (by omega)]
    · have hxy : x = y := UInt8.toNat_inj.1 q
      subst hxy
      rw [if_neg (show ¬ x < x from Nat.lt_irrefl _), if_neg (show ¬ x < x from Nat.lt_irrefl _), ih]
      unfold cmpI
      split <;> split <;> (try split) <;> (try split) <;> omega
    · have h1 : (y.toNat + 1) * 256 ^ b.length ≤ x.toNat * 256 ^ b.length := Nat.mul_le_mul_right _ q
      rw [Nat.add_mul, Nat.one_mul] at h1
      rw [if_neg (show ¬ x < y from Nat.not_lt.2 (Nat.le_of_lt q)), if_pos (show y < x from q), cmpI, if_neg (by omega), if_pos (by omega)]
theorem cmp_len {a b : Bs} (ha : Can a) (hb : Can b) (h : a.length ≠ b.length) : cmpI (a.length : Int) (b.length : Int) = cmpI (val a) (val b) := by
  unfold cmpI
  rcases Nat.lt_or_gt_of_ne h with q | q
  · have : val a < val b := Nat.lt_of_not_le fun h' => by have := can_len hb ha h'; omega
    rw [if_pos (by omega), if_pos (by omega)]
  · have : val b < val a := Nat.lt_of_not_le fun h' => by have := can_len ha hb h'; omega
    rw [if_neg (by omega), if_pos (by omega), if_neg (by omega), if_pos (by omega)]
theorem compare_c {a b : Bs} {w : World} (ha : Can a) (hb : Can b) :
    Calls Tryz.prog 67 #[.string (S a), .string (S b)] w fun e w' => e = .returned (.int .i64 (cmpI (val a) (val b))) ∧ Below w.heap.size w w' := by
  refine enter (S := St (fun _ => True) w [] ([])) (L := [(0, .string (S a)), (1, .string (S b))]) Tryz.func67 rfl Tryz.ntmps67 rfl (args_cons rfl (args_cons rfl (args_nil _))) (St.start (fun _ _ => trivial) facts_nil) ?_
  refine WC.sr ?_
  refine WL.r rfl rfl rfl (rd_assign rfl rfl) ?_
  refine WL.nt ?_
  refine WC.seq ?_
  refine WC.sr ?_
  refine WL.r rfl rfl rfl (rd_move rfl rfl) ?_
  refine WL.r rfl rfl rfl (rd_slen rfl rfl Tryz.underlying22) ?_
  refine WL.r rfl rfl rfl (rd_move rfl rfl) ?_
  refine WL.r rfl rfl rfl (rd_slen rfl rfl Tryz.underlying22) ?_
  refine WL.g rfl rfl rfl (og_call rfl rfl (by kernel_rfl) (keep_val fun w hS => cmp_c (a := (a.length : Int)) (b := (b.length : Int)))) ?_
  intro _
  refine WL.r rfl rfl rfl (rd_assign rfl rfl) ?_
  refine WL.nt ?_
  refine WC.sr ?_
  refine WL.r rfl rfl rfl (rd_move rfl rfl) ?_
  refine WL.r rfl rfl rfl (rd_neq rfl rfl rfl) ?_
  refine WL.nt ?_
  refine WC.cond rfl (fun hc12 => ?_) (fun hc12 => ?_)
  · (try simp only [sB] at hc12)
    have hne : a.length ≠ b.length := fun h => by rw [cmpI, if_neg (by omega), if_neg (by omega)] at hc12; exact hc12 rfl
    refine WC.sr ?_
    refine WL.r rfl rfl rfl (rd_move rfl rfl) ?_
    refine WL.r rfl rfl rfl (rd_assign rfl rfl) ?_
    refine WL.nt ?_
    refine WC.ret ?_
    refine WX.then_ret ?_
    exact WX.retN rfl (.tmp rfl .nil) fun w' hS => ⟨by rw [← cmp_len ha hb hne]; rfl, hS.below⟩
  · (try simp only [sB] at hc12)
    have heq : a.length = b.length := by unfold cmpI at hc12; split at hc12 <;> (try split at hc12) <;> omega
    refine WC.skip ?_
    refine WX.then_normal ?_
    refine WC.sr ?_
    refine WL.r rfl rfl rfl (rd_move rfl rfl) ?_
    refine WL.r rfl rfl rfl (rd_move rfl rfl) ?_
    refine WL.g rfl rfl rfl (og_call rfl rfl (by kernel_rfl) (keep_val fun w hS => scmp_c)) ?_
    intro _
    refine WL.r rfl rfl rfl (rd_assign rfl rfl) ?_
    refine WL.nt ?_
    refine WC.ret ?_
    exact WX.retN rfl (.tmp rfl .nil) fun w' hS => ⟨by rw [← cmpB_lex a b heq]; rfl, hS.below⟩
def cmpN (a b : Bs) : Int := if okN a ∧ okN b then cmpI (val a) (val b) else 0
theorem Cmp_c {a b : Bs} {w : World} :
    Calls Tryz.prog 45 #[.string (S a), .string (S b)] w fun e w' => e = .returned (.int .i64 (cmpN a b)) ∧ Below w.heap.size w w' := by
  refine enter (S := St (fun _ => True) w [] ([])) (L := [(0, .string (S a)), (1, .string (S b))]) Tryz.func45 rfl Tryz.ntmps45 rfl (args_cons rfl (args_cons rfl (args_nil _))) (St.start (fun _ _ => trivial) facts_nil) ?_
  refine WC.sr ?_
  refine WL.r rfl rfl rfl (rd_assign rfl rfl) ?_
  refine WL.nt ?_
  refine WC.seq ?_
  refine WC.sr ?_
  refine WL.r rfl rfl rfl (rd_move rfl rfl) ?_
  refine WL.g rfl rfl rfl (og_call rfl rfl (by kernel_rfl) (keep_val fun w hS => valid_c)) ?_
  intro _
  refine WL.r rfl rfl rfl (rd_not rfl rfl) ?_
  refine WL.r rfl rfl rfl (rd_move rfl rfl) ?_
  refine WL.bool 8 rfl (fun hg8 => ?_) (fun hg8 => ?_)
  · (try simp only [sB] at hg8)
    refine WL.s rfl rfl rfl ?_
    refine WL.s rfl rfl rfl ?_
    refine WL.s rfl rfl rfl ?_
    refine WL.r rfl rfl rfl (rd_pickt rfl rfl rfl) ?_
    refine WL.nt ?_
    refine WC.cond rfl (fun _ => ?_) (fun h => by cases h)
    refine WC.sr ?_
    refine WL.r rfl rfl rfl (rd_assign rfl rfl) ?_
    refine WL.nt ?_
    refine WC.ret ?_
    refine WX.then_ret ?_
    exact WX.retN rfl (.tmp rfl .nil) fun w' hS => ⟨by rw [cmpN, if_neg (by simp_all)]; rfl, hS.below⟩
  · (try simp only [sB] at hg8)
    refine WL.r rfl rfl rfl (rd_move rfl rfl) ?_
    refine WL.g rfl rfl rfl (og_call rfl rfl (by kernel_rfl) (keep_val fun w hS => valid_c)) ?_
    intro _
    refine WL.r rfl rfl rfl (rd_not rfl rfl) ?_
    refine WL.r rfl rfl rfl (rd_pickf rfl rfl rfl) ?_
    refine WL.nt ?_
    refine WC.cond rfl (fun hc12 => ?_) (fun hc12 => ?_)
    · (try simp only [sB] at hc12)
      refine WC.sr ?_
      refine WL.r rfl rfl rfl (rd_assign rfl rfl) ?_
      refine WL.nt ?_
      refine WC.ret ?_
      refine WX.then_ret ?_
      exact WX.retN rfl (.tmp rfl .nil) fun w' hS => ⟨by rw [cmpN, if_neg (by simp_all)]; rfl, hS.below⟩
    · (try simp only [sB] at hc12)
      have hab : okN a ∧ okN b := by simp_all
      refine WC.skip ?_
      refine WX.then_normal ?_
      refine WC.sr ?_
      refine WL.r rfl rfl rfl (rd_move rfl rfl) ?_
      refine WL.r rfl rfl rfl (rd_move rfl rfl) ?_
      refine WL.g rfl rfl rfl (og_call rfl rfl (by kernel_rfl) (keep_val fun w hS => compare_c (a := a) (b := b) (by exact hab.1.2) (by exact hab.2.2))) ?_
      intro _
      refine WL.r rfl rfl rfl (rd_assign rfl rfl) ?_
      refine WL.nt ?_
      refine WC.ret ?_
      exact WX.retN rfl (.tmp rfl .nil) fun w' hS => ⟨by rw [cmpN, if_pos hab]; rfl, hS.below⟩
theorem fitting_c {a : Bs} {w : World} :
    Calls Tryz.prog 38 #[.string (S a)] w fun e w' => e = .returned (.tuple #[.string (S (if 128 < a.length then [] else a)), .int .i64 (if 128 < a.length then 5 else 0)]) ∧ Below w.heap.size w w' := by
  refine enter (S := St (fun _ => True) w [] ([])) (L := [(0, .string (S a))]) Tryz.func38 rfl Tryz.ntmps38 rfl (args_cons rfl (args_nil _)) (St.start (fun _ _ => trivial) facts_nil) ?_
  refine WC.sr ?_
  refine WL.r rfl rfl rfl (rd_assign rfl rfl) ?_
  refine WL.r rfl rfl rfl (rd_assign rfl rfl) ?_
  refine WL.nt ?_
  refine WC.seq ?_
  refine WC.sr ?_
  refine WL.r rfl rfl rfl (rd_move rfl rfl) ?_
  refine WL.r rfl rfl rfl (rd_slen rfl rfl Tryz.underlying22) ?_
  refine WL.r rfl rfl rfl (rd_gtr rfl rfl rfl) ?_
  refine WL.nt ?_
  refine WC.cond rfl (fun hc6 => ?_) (fun hc6 => ?_)
  · (try simp only [sB] at hc6)
    refine WC.sr ?_
    refine WL.r rfl rfl rfl (rd_assign rfl rfl) ?_
    refine WL.r rfl rfl rfl (rd_assign rfl rfl) ?_
    refine WL.nt ?_
    refine WC.ret ?_
    refine WX.then_ret ?_
    exact WX.retN rfl (.tmp rfl (.tmp rfl .nil)) fun w' hS => ⟨by rw [if_pos (by omega), if_pos (by omega)]; rfl, hS.below⟩
  · (try simp only [sB] at hc6)
    refine WC.skip ?_
    refine WX.then_normal ?_
    refine WC.sr ?_
    refine WL.r rfl rfl rfl (rd_move rfl rfl) ?_
    refine WL.r rfl rfl rfl (rd_assign rfl rfl) ?_
    refine WL.r rfl rfl rfl (rd_assign rfl rfl) ?_
    refine WL.nt ?_
    refine WC.ret ?_
    exact WX.retN rfl (.tmp rfl (.tmp rfl .nil)) fun w' hS => ⟨by rw [if_neg (by omega), if_neg (by omega)]; rfl, hS.below⟩
/-- the limit of the numbers -/
def Big : Nat := 256 ^ 128
theorem canon_big {n : Nat} : (canon n).length ≤ 128 ↔ n < Big := canon_len_le
def addN (a b : Bs) : Bs × Int := if okN a ∧ okN b then (if val a + val b < Big then (canon (val a + val b), 0) else ([], 5)) else ([], 3)
def NE (r : Bs × Int) : Value := .tuple #[.string (S r.1), .int .i64 r.2]
theorem add_c {a b : Bs} {w : World} :
    Calls Tryz.prog 114 #[.string (S a), .string (S b)] w fun e w' => e = .returned (NE (addN a b)) ∧ Below w.heap.size w w' := by
  refine enter (S := St (fun _ => True) w [] ([])) (L := [(0, .string (S a)), (1, .string (S b))]) Tryz.func114 rfl Tryz.ntmps114 rfl (args_cons rfl (args_cons rfl (args_nil _))) (St.start (fun _ _ => trivial) facts_nil) ?_
  refine WC.sr ?_
  refine WL.r rfl rfl rfl (rd_assign rfl rfl) ?_
  refine WL.r rfl rfl rfl (rd_assign rfl rfl) ?_
  refine WL.nt ?_
  refine WC.seq ?_
  refine WC.sr ?_
  refine WL.r rfl rfl rfl (rd_move rfl rfl) ?_
  refine WL.g rfl rfl rfl (og_call rfl rfl (by kernel_rfl) (keep_val fun w hS => valid_c)) ?_
  intro _
  refine WL.r rfl rfl rfl (rd_not rfl rfl) ?_
  refine WL.r rfl rfl rfl (rd_move rfl rfl) ?_
  refine WL.bool 13 rfl (fun hg13 => ?_) (fun hg13 => ?_)
  · (try simp only [sB] at hg13)
    refine WL.s rfl rfl rfl ?_
    refine WL.s rfl rfl rfl ?_
    refine WL.s rfl rfl rfl ?_
    refine WL.r rfl rfl rfl (rd_pickt rfl rfl rfl) ?_
    refine WL.nt ?_
    refine WC.cond rfl (fun _ => ?_) (fun h => by cases h)
    refine WC.sr ?_
    refine WL.r rfl rfl rfl (rd_assign rfl rfl) ?_
    refine WL.r rfl rfl rfl (rd_assign rfl rfl) ?_
    refine WL.nt ?_
    refine WC.ret ?_
    refine WX.then_ret ?_
    exact WX.retN rfl (.tmp rfl (.tmp rfl .nil)) fun w' hS => ⟨by rw [addN, if_neg (by simp_all)]; rfl, hS.below⟩
  · (try simp only [sB] at hg13)
    refine WL.r rfl rfl rfl (rd_move rfl rfl) ?_
    refine WL.g rfl rfl rfl (og_call rfl rfl (by kernel_rfl) (keep_val fun w hS => valid_c)) ?_
    intro _
    refine WL.r rfl rfl rfl (rd_not rfl rfl) ?_
    refine WL.r rfl rfl rfl (rd_pickf rfl rfl rfl) ?_
    refine WL.nt ?_
    refine WC.cond rfl (fun hc17 => ?_) (fun hc17 => ?_)
    · (try simp only [sB] at hc17)
      refine WC.sr ?_
      refine WL.r rfl rfl rfl (rd_assign rfl rfl) ?_
      refine WL.r rfl rfl rfl (rd_assign rfl rfl) ?_
      refine WL.nt ?_
      refine WC.ret ?_
      refine WX.then_ret ?_
      exact WX.retN rfl (.tmp rfl (.tmp rfl .nil)) fun w' hS => ⟨by rw [addN, if_neg (by simp_all)]; rfl, hS.below⟩
    · (try simp only [sB] at hc17)
      have hab : okN a ∧ okN b := by simp_all
      have hal := hab.1.1; have hbl := hab.2.1
      refine WC.skip ?_
      refine WX.then_normal ?_
      refine WC.sr ?_
      refine WL.r rfl rfl rfl (rd_move rfl rfl) ?_
      refine WL.r rfl rfl rfl (rd_slen rfl rfl Tryz.underlying22) ?_
      refine WL.r rfl rfl rfl (rd_move rfl rfl) ?_
      refine WL.r rfl rfl rfl (rd_slen rfl rfl Tryz.underlying22) ?_
      refine WL.r rfl rfl rfl (rd_max2 rfl rfl rfl) ?_
      refine WL.set 22 rfl (v' := .int .i64 ((max a.length b.length : Nat) : Int)) (congrArg (Value.int .i64) (by omega)) ?_
      (refine WL.r rfl rfl rfl (rd_add64nl rfl rfl rfl ?_) ?_; (focus (omega)))
      obtain ⟨N, hN⟩ : ∃ N : Nat, N = max a.length b.length + 1 := ⟨_, rfl⟩
      refine WL.set 23 rfl (v' := .int .i64 (N : Int)) (by rw [hN]) ?_
      have hNl : N ≤ 129 := by omega
      have hS256 : val a + val b < 256 ^ N := by
        have h1 := val_lt a; have h2 := val_lt b
        have h3 : 256 ^ a.length ≤ 256 ^ (N - 1) := Nat.pow_le_pow_right (by decide) (by omega)
        have h4 : 256 ^ b.length ≤ 256 ^ (N - 1) := Nat.pow_le_pow_right (by decide) (by omega)
        have h5 : 256 ^ N = 256 ^ (N - 1) * 256 := by rw [← Nat.pow_succ]; congr 1; omega
        omega
      have hcl : (if 128 < (canon (val a + val b)).length then ([] : Bs) else canon (val a + val b)) = (addN a b).1 ∧ (if 128 < (canon (val a + val b)).length then (5 : Int) else 0) = (addN a b).2 := by
        rw [addN, if_pos hab]
        by_cases h : val a + val b < Big
        · have hl := canon_big.2 h
          rw [if_neg (show ¬ 128 < (canon (val a + val b)).length by omega), if_neg (show ¬ 128 < (canon (val a + val b)).length by omega), if_pos h]; exact ⟨rfl, rfl⟩
        · have hl : ¬ (canon (val a + val b)).length ≤ 128 := fun h' => h (canon_big.1 h')
          rw [if_pos (show 128 < (canon (val a + val b)).length by omega), if_pos (show 128 < (canon (val a + val b)).length by omega), if_neg h]; exact ⟨rfl, rfl⟩
      refine WL.r rfl rfl rfl (rd_assign rfl rfl) ?_
      refine WL.nt ?_
      refine WC.sr ?_
      refine WL.r rfl rfl rfl (rd_move rfl rfl) ?_
      refine WL.g rfl rfl rfl (og_mk rfl rfl rfl Tryz.underlying79 (by kernel_rfl : _ = some (some (.int .u8 0), 1, 1)) rfl ?_ (by (try simp only [sN, Int.reduceToNat, Nat.reduceAdd, Nat.reduceMul, Nat.reduceSub]); rfl) (by (try simp only [sN, Int.reduceToNat, Nat.reduceAdd, Nat.reduceMul, Nat.reduceSub]); rfl)) ?_
      · omega
      intro b25
      refine WL.r rfl rfl rfl (rd_assign rfl rfl) ?_
      refine WL.nt ?_
      refine WC.sr ?_
      refine WL.r rfl rfl rfl (rd_assign rfl rfl) ?_
      refine WL.set 8 rfl (v' := .int .i64 ((carryA (val a) (val b) 0 : Nat) : Int)) (congrArg (Value.int .i64) (by rw [carryA_zero]; rfl)) ?_
      refine WL.nt ?_
      refine WC.seq ?_
      refine WC.sr ?_
      refine WL.r rfl rfl rfl (rd_move rfl rfl) ?_
      refine WL.r rfl rfl rfl (rd_move rfl rfl) ?_
      refine WL.nt ?_
      refine WC.block ?_
      refine WC.loopO (σ := Nat) [(0, _), (1, _), (4, _), (5, _), (6, _), (7, _), (26, _)] (fun g => [(8, .int .i64 (carryA (val a) (val b) g : Int)), (27, .int .i64 (g : Int))]) (fun g => g ≤ N) (fun g => N - g) (fun g => [⟨some b25, lowB N g (val a + val b), 5⟩]) (fun g => []) (0) (sub_cons rfl (sub_cons rfl (sub_cons rfl (sub_cons rfl (sub_cons rfl (sub_cons rfl (sub_cons rfl (sub_nil _)))))))) (sub_cons rfl (sub_cons rfl (sub_nil _))) (by (try dsimp only); exact Nat.zero_le _) (by exact fun w h => by rw [lowB_zero]; exact h) ?_
      rintro k hinv1; (try dsimp only at hinv1 ⊢)
      obtain hk := hinv1
      refine WC.sr ?_
      refine WL.r rfl rfl rfl (rd_lss rfl rfl rfl) ?_
      refine WL.nt ?_
      refine WC.seq ?_
      refine WC.cond rfl (fun hc28 => ?_) (fun hc28 => ?_)
      · (try simp only [sB] at hc28)
        have hc1 := carryA_le (val a) (val b) k
        have hd1 := Nat.mod_lt (val a / 256 ^ k) (show 0 < 256 by decide); have hd2 := Nat.mod_lt (val b / 256 ^ k) (show 0 < 256 by decide)
        refine WC.skip ?_
        refine WX.then_normal ?_
        refine WC.seq ?_
        refine WC.block ?_
        refine WC.sr ?_
        refine WL.r rfl rfl rfl (rd_move rfl rfl) ?_
        refine WL.r rfl rfl rfl (rd_assign rfl rfl) ?_
        refine WL.nt ?_
        refine WC.sr ?_
        refine WL.r rfl rfl rfl (rd_move rfl rfl) ?_
        refine WL.r rfl rfl rfl (rd_move rfl rfl) ?_
        refine WL.r rfl rfl rfl (rd_move rfl rfl) ?_
        refine WL.g rfl rfl rfl (og_call rfl rfl (by kernel_rfl) (keep_val fun w hS => digit_c (a := a) (i := k) (by omega) (by omega))) ?_
        intro _
        refine WL.r rfl rfl rfl (rd_move rfl rfl) ?_
        refine WL.r rfl rfl rfl (rd_move rfl rfl) ?_
        refine WL.g rfl rfl rfl (og_call rfl rfl (by kernel_rfl) (keep_val fun w hS => digit_c (a := b) (i := k) (by omega) (by omega))) ?_
        intro _
        (refine WL.r rfl rfl rfl (rd_add64n rfl rfl rfl ?_) ?_; (focus (omega)))
        (refine WL.r rfl rfl rfl (rd_add64n rfl rfl rfl ?_) ?_; (focus (omega)))
        refine WL.r rfl rfl rfl (rd_assign rfl rfl) ?_
        refine WL.nt ?_
        refine WC.sr ?_
        refine WL.r rfl rfl rfl (rd_move rfl rfl) ?_
        refine WL.r rfl rfl rfl (rd_move rfl rfl) ?_
        (refine WL.r rfl rfl rfl (rd_sub64nl rfl rfl rfl ?_) ?_; (focus (omega)))
        refine WL.r rfl rfl rfl (rd_move rfl rfl) ?_
        (refine WL.r rfl rfl rfl (rd_sub64n rfl rfl rfl ?_) ?_; (focus (omega)))
        refine WL.set 43 rfl (v' := .int .i64 ((N - 1 - k : Nat) : Int)) (congrArg (Value.int .i64) (by omega)) ?_
        refine WL.r rfl rfl rfl (rd_move rfl rfl) ?_
        refine WL.r rfl rfl rfl (rd_conv rfl rfl Tryz.underlying3 Tryz.underlying5) ?_
        refine WL.set 45 rfl (v' := B (UInt8.ofNat ((val a + val b) / 256 ^ k))) (by exact congrArg (Value.int .u8) (by rw [byte_of, sum_digit, Nat.add_assoc])) ?_
        (refine WL.r rfl rfl rfl (rd_ia rfl rfl rfl Tryz.underlying79 (by kernel_rfl : _ = some 1) ?_ (by (try simp only [sN, Int.reduceToNat, Nat.reduceAdd, Nat.reduceMul, Nat.reduceSub]); rfl)) ?_; (focus (omega)))
        refine WL.g0 rfl rfl (st rfl rfl rfl .tc (by kernel_rfl) rfl ?_ (by rfl)) ?_
        · rw [lowB_len _ _ _ (by omega)]; omega
        intro _
        refine WL.nt ?_
        refine WC.region ?_
        refine WL.r rfl rfl rfl (rd_move rfl rfl) ?_
        refine WL.r rfl rfl rfl (rd_shr rfl rfl rfl ?_) ?_
        · decide
        refine WL.set 48 rfl (v' := .int .i64 ((carryA (val a) (val b) (k + 1) : Nat) : Int)) (congrArg (Value.int .i64) (by rw [shr8, carryA_succ, Nat.add_assoc])) ?_
        refine WL.r rfl rfl rfl (rd_assign rfl rfl) ?_
        refine WL.nil ?_
        refine WX.block_normal ?_
        refine WX.then_normal ?_
        refine WC.region ?_
        (refine WL.r rfl rfl rfl (rd_add64nl rfl rfl rfl ?_) ?_; (focus (omega)))
        refine WL.r rfl rfl rfl (rd_move rfl rfl) ?_
        refine WL.nil ?_
        refine WX.loopO (k + 1) (by (try dsimp only); omega) (sub_cons rfl (sub_cons rfl (sub_cons rfl (sub_cons rfl (sub_cons rfl (sub_cons rfl (sub_cons rfl (sub_nil _)))))))) (by refine (sub_cons ?_ (sub_cons ?_ (sub_nil _))) <;> (rfl)) ?_ (by exact fun w h => by rw [← lowB_set N k _ (by omega)]; exact h)
        (try dsimp only)
        omega
      · (try simp only [sB] at hc28)
        refine WC.exit ?_
        refine WX.then_exit ?_
        refine WX.then_exit ?_
        refine WX.block_exit ?_
        obtain rfl : k = N := by omega
        rw [lowB_full]
        refine WX.then_normal ?_
        refine WC.sr ?_
        refine WL.r rfl rfl rfl (rd_move rfl rfl) ?_
        refine WL.g rfl rfl rfl (og_call rfl rfl (by kernel_rfl) (keep_val fun w hS => trimmed_c (b := be k (val a + val b)) (by (exact hS.os)) (by rw [be_len]) (by rw [be_len]; exact Nat.le_refl _) (by rw [be_len]; omega))) ?_
        intro _
        refine WL.set 51 rfl (v' := .string (S (canon (val a + val b)))) (congrArg (fun l => Value.string (S l)) (by rw [val_be, Nat.mod_eq_of_lt hS256])) ?_
        refine WL.g rfl rfl rfl (og_call rfl rfl (by kernel_rfl) (keep_val fun w hS => fitting_c)) ?_
        intro _
        refine WL.r rfl rfl rfl (rd_extL rfl rfl rfl) ?_
        refine WL.r rfl rfl rfl (rd_extL rfl rfl rfl) ?_
        refine WL.r rfl rfl rfl (rd_assign rfl rfl) ?_
        refine WL.r rfl rfl rfl (rd_assign rfl rfl) ?_
        refine WL.nt ?_
        refine WC.ret ?_
        exact WX.retN rfl (.tmp rfl (.tmp rfl .nil)) fun w' hS => ⟨by simp only [tup, NE]; rw [← hcl.1, ← hcl.2], hS.below⟩
end Go.Proofs.YtbcnnkcddilfjaaGreat
