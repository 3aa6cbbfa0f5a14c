/-
  The walk of the reference's Included.
-/
import Derived.Test.YtenjafedpcpoaaaMer5
namespace Go.Proofs.Ytenjafedpcpoaaa
set_option linter.unusedSimpArgs false
set_option linter.unusedVariables false
open Go.RowKit

def fromR (h : Bs) : Nat → Nat → List Bs → Bs × Bool
  | n, _, [] => if n = 1 then (h, true) else ([], false)
  | n, i, x :: r => if n = 1 then (h, false) else
    if i < half n then (nodeH (fromR h (half n) i r).1 x, (fromR h (half n) i r).2) else (nodeH x (fromR h (n - half n) (i - half n) r).1, (fromR h (n - half n) (i - half n) r).2)
theorem from_climb (h : Bs) : ∀ (r : List Bs) (n i : Nat), (fromR h n i r).2 = (climb h n i r).2 ∧ ((climb h n i r).2 = true → (fromR h n i r).1 = (climb h n i r).1) := by
  intro r
  induction r with
  | nil => intro n i; simp only [fromR, climb]; split <;> simp_all
  | cons x r ih =>
    intro n i
    simp only [fromR, climb]
    split
    · simp
    · split
      · have := ih (half n) i
        exact ⟨this.1, fun h => by rw [this.2 h]⟩
      · have := ih (n - half n) (i - half n)
        exact ⟨this.1, fun h => by rw [this.2 h]⟩
theorem from_len (s : Bs) : ∀ (r : List Bs) (n i : Nat), (fromR (leafH s) n i r).1.length ≤ 32 := by
  intro r
  induction r with
  | nil => intro n i; simp only [fromR]; split <;> simp [leafH, sha_len]
  | cons x r ih =>
    intro n i
    simp only [fromR]
    split
    · simp [leafH, sha_len]
    · split <;> simp [nodeH, sha_len]
theorem from_one (h : Bs) (i : Nat) (p : List Bs) : fromR h 1 i p.reverse = (h, decide (p.length = 0)) := by
  cases hr : p.reverse with
  | nil => have : p = [] := by simpa using hr
           subst this; simp [fromR]
  | cons x r => have hl : p.length ≠ 0 := fun e => by have := List.eq_nil_of_length_eq_zero e; subst this; simp at hr
                simp [fromR, hl]

def FromOk (p : List Bs) : Prop :=
  ∀ (n i : Nat), 0 < n → i < n → n ≤ 2305843009213693952 → (∀ s ∈ p, s.length ≤ 300000) → p.length ≤ 4611686018427387904 → ∀ (a : Option Addr) (m cap : Nat), m = p.length → m ≤ cap → ∀ (ok : Nat → Prop) (leaf : Bs) (w : World), (Fact.sl a (strs p)).holds ok w →
    Calls Try.prog 36 #[.int .i64 (n : Int), .int .i64 (i : Int), .string (S (leafH leaf)), .slice a m cap] w fun e w' => e = .returned (.tuple #[.string (S (fromR (leafH leaf) n i p.reverse).1), .bool (fromR (leafH leaf) n i p.reverse).2]) ∧ Below w.heap.size w w'

theorem from_step (p : List Bs) (ih : ∀ q : List Bs, q.length < p.length → FromOk q) : FromOk p := by
  intro n i hn0 hi hn hs hpl a m cap hm hcap ok leaf w hF
  subst hm
  refine enter (S := St (fun _ => True) w [] [Fact.sl a (strs p)]) (L := [(0, .int .i64 (n : Int)), (1, .int .i64 (i : Int)), (2, .string (S (leafH leaf))), (3, .slice a p.length cap)]) Try.func36 rfl Try.ntmps36 rfl (args_cons rfl (args_cons rfl (args_cons rfl (args_cons rfl (args_nil _))))) (St.start (fun _ _ => trivial) (by simpa using sl_any hF)) ?_
  refine WC.seq ?_
  refine WC.region ?_
  refine WL.r rfl rfl rfl (rd_assign rfl rfl) ?_
  refine WL.r rfl rfl rfl (rd_assign rfl rfl) ?_
  refine WL.nil ?_
  refine WX.then_normal ?_
  refine WC.seq ?_
  refine WC.seq ?_
  refine WC.region ?_
  refine WL.r rfl rfl rfl (rd_move rfl rfl) ?_
  refine WL.r rfl rfl rfl (rd_eql rfl rfl rfl) ?_
  refine WL.nil ?_
  refine WX.then_normal ?_
  refine WC.cond rfl (fun hc17 => ?_) (fun hc17 => ?_)
  · (try simp only [decide_eq_true_eq, decide_eq_false_iff_not, Bool.not_eq_true', Bool.not_eq_false', Bool.not_not, Int.not_lt, Int.not_le] at hc17)
    obtain rfl : n = 1 := by omega
    refine WC.seq ?_
    refine WC.region ?_
    refine WL.r rfl rfl rfl (rd_move rfl rfl) ?_
    refine WL.r rfl rfl rfl (rd_move rfl rfl) ?_
    refine WL.r rfl rfl rfl (rd_len rfl rfl Try.underlying22) ?_
    refine WL.r rfl rfl rfl (rd_eql rfl rfl rfl) ?_
    refine WL.r rfl rfl rfl (rd_assign rfl rfl) ?_
    refine WL.r rfl rfl rfl (rd_assign rfl rfl) ?_
    refine WL.nil ?_
    refine WX.then_normal ?_
    refine WC.ret ?_
    refine WX.then_ret ?_
    exact WX.ret2 rfl rfl rfl fun w' hS => ⟨by rw [from_one]; simp, hS.below⟩
  · (try simp only [decide_eq_true_eq, decide_eq_false_iff_not, Bool.not_eq_true', Bool.not_eq_false', Bool.not_not, Int.not_lt, Int.not_le] at hc17)
    refine WC.skip ?_
    refine WX.then_normal ?_
    refine WC.seq ?_
    refine WC.seq ?_
    refine WC.region ?_
    refine WL.r rfl rfl rfl (rd_move rfl rfl) ?_
    refine WL.r rfl rfl rfl (rd_len rfl rfl Try.underlying22) ?_
    refine WL.r rfl rfl rfl (rd_eql rfl rfl rfl) ?_
    refine WL.nil ?_
    refine WX.then_normal ?_
    refine WC.cond rfl (fun hc24 => ?_) (fun hc24 => ?_)
    · (try simp only [decide_eq_true_eq, decide_eq_false_iff_not, Bool.not_eq_true', Bool.not_eq_false', Bool.not_not, Int.not_lt, Int.not_le] at hc24)
      obtain rfl : p = [] := List.eq_nil_of_length_eq_zero (by omega)
      refine WC.seq ?_
      refine WC.region ?_
      refine WL.r rfl rfl rfl (rd_assign rfl rfl) ?_
      refine WL.r rfl rfl rfl (rd_assign rfl rfl) ?_
      refine WL.nil ?_
      refine WX.then_normal ?_
      refine WC.ret ?_
      refine WX.then_ret ?_
      exact WX.ret2 rfl rfl rfl fun w' hS => ⟨by simp only [List.reverse_nil, fromR]; rw [if_neg (by omega)]; rfl, hS.below⟩
    · (try simp only [decide_eq_true_eq, decide_eq_false_iff_not, Bool.not_eq_true', Bool.not_eq_false', Bool.not_not, Int.not_lt, Int.not_le] at hc24)
      obtain ⟨q, x, rfl⟩ := snoc_of p (by omega)
      obtain ⟨b, off, rfl⟩ := sl_addr hF (by rw [strs_len]; simp)
      have hh := half_spec n (by omega) (by omega)
      have hq : (q ++ [x]).length = q.length + 1 := by simp
      have hx := hs x (by simp)
      have hxg : (strs (q ++ [x]))[q.length]? = some (.string (S x)) := strs_get _ _ _ (by simp)
      have hst : (strs (q ++ [x])).take q.length = strs q := by rw [strs_take]; simp
      have hcl : fromR (leafH leaf) n i (q ++ [x]).reverse = if i < half n then (nodeH (fromR (leafH leaf) (half n) i q.reverse).1 x, (fromR (leafH leaf) (half n) i q.reverse).2) else (nodeH x (fromR (leafH leaf) (n - half n) (i - half n) q.reverse).1, (fromR (leafH leaf) (n - half n) (i - half n) q.reverse).2) := by
        rw [List.reverse_append]; simp only [List.reverse_cons, List.reverse_nil, List.nil_append, List.singleton_append, fromR]; rw [if_neg (by omega)]
      refine WC.skip ?_
      refine WX.then_normal ?_
      refine WC.seq ?_
      refine WC.region ?_
      refine WL.r rfl rfl rfl (rd_move rfl rfl) ?_
      refine WL.r rfl rfl rfl (rd_len rfl rfl Try.underlying22) ?_
      first
        | (refine WL.r rfl rfl rfl (rd_sub64nl rfl rfl rfl ?_) ?_; focus (omega))
        | (refine WL.r rfl rfl rfl (rd_sub64 rfl rfl rfl ?_) ?_; focus (omega))
      refine WL.set 27 rfl (v' := .int .i64 (q.length : Int)) (by rw [hq]; rfl) ?_
      refine WL.r rfl rfl rfl (rd_assign rfl rfl) ?_
      refine WL.nil ?_
      refine WX.then_normal ?_
      refine WC.seq ?_
      refine WC.region ?_
      refine WL.r rfl rfl rfl (rd_move rfl rfl) ?_
      refine WL.g rfl rfl rfl (og_call rfl rfl (by kernel_rfl) (keep_val fun w _ => rhalf_ok n (by omega) (by omega) w)) ?_
      intro _
      refine WL.r rfl rfl rfl (rd_assign rfl rfl) ?_
      refine WL.nil ?_
      refine WX.then_normal ?_
      refine WC.seq ?_
      refine WC.seq ?_
      refine WC.region ?_
      refine WL.r rfl rfl rfl (rd_move rfl rfl) ?_
      refine WL.r rfl rfl rfl (rd_move rfl rfl) ?_
      refine WL.r rfl rfl rfl (rd_lss rfl rfl rfl) ?_
      refine WL.nil ?_
      refine WX.then_normal ?_
      refine WC.cond rfl (fun hc32 => ?_) (fun hc32 => ?_)
      · (try simp only [decide_eq_true_eq, decide_eq_false_iff_not, Bool.not_eq_true', Bool.not_eq_false', Bool.not_not, Int.not_lt, Int.not_le] at hc32)
        rw [if_pos (by omega)] at hcl
        refine WC.seq ?_
        refine WC.region ?_
        refine WL.r rfl rfl rfl (rd_move rfl rfl) ?_
        refine WL.r rfl rfl rfl (rd_move rfl rfl) ?_
        refine WL.r rfl rfl rfl (rd_move rfl rfl) ?_
        refine WL.r rfl rfl rfl (rd_move rfl rfl) ?_
        refine WL.r rfl rfl rfl (rd_move rfl rfl) ?_
        refine WL.r rfl rfl rfl (rd_slt rfl rfl rfl Try.underlying22 (by kernel_rfl : _ = some 1) ?_ (by (try simp only [Int.toNat_natCast, Nat.mul_one, Nat.zero_add, Nat.add_zero, Nat.zero_mul, Int.reduceToNat, Nat.reduceAdd, Nat.reduceMul, Nat.reduceSub, Nat.sub_zero]); rfl)) ?_
        · omega
        refine WL.g rfl rfl rfl (og_call rfl rfl (by kernel_rfl) (keep_val fun w hS => ih q (by omega) (half n) i (by omega) (by omega) (by omega) (fun s h => hs s (by simp [h])) (by omega) _ _ _ rfl (by omega) _ leaf w (hst ▸ sl_take _ (hS.fact _ (by simp))))) ?_
        intro _
        refine WL.r rfl rfl rfl (rd_move rfl rfl) ?_
        first
          | (refine WL.r rfl rfl rfl (rd_x20 rfl rfl) ?_)
          | (refine WL.r rfl rfl rfl (rd_x30 rfl rfl) ?_)
          | (refine WL.r rfl rfl rfl (rd_ext rfl rfl rfl) ?_)
        first
          | (refine WL.r rfl rfl rfl (rd_x21 rfl rfl) ?_)
          | (refine WL.r rfl rfl rfl (rd_x31 rfl rfl) ?_)
          | (refine WL.r rfl rfl rfl (rd_ext rfl rfl rfl) ?_)
        refine WL.r rfl rfl rfl (rd_assign rfl rfl) ?_
        refine WL.r rfl rfl rfl (rd_assign rfl rfl) ?_
        refine WL.nil ?_
        refine WX.then_normal ?_
        refine WC.seq ?_
        refine WC.region ?_
        refine WL.r rfl rfl rfl (rd_move rfl rfl) ?_
        refine WL.r rfl rfl rfl (rd_move rfl rfl) ?_
        refine WL.r rfl rfl rfl (rd_move rfl rfl) ?_
        refine WL.r rfl rfl rfl (rd_ia rfl rfl rfl Try.underlying22 (by kernel_rfl : _ = some 1) ?_ (by (try simp only [Int.toNat_natCast, Nat.mul_one, Nat.zero_add, Nat.add_zero, Nat.zero_mul, Int.reduceToNat, Nat.reduceAdd, Nat.reduceMul, Nat.reduceSub, Nat.sub_zero]); rfl)) ?_
        · omega
        refine WL.r rfl rfl rfl (ldf rfl rfl (by first | exact .here | exact .t1 | exact .t2 | exact .t3 | exact .t4 | exact .t5 | exact .t6 | exact .t7) Try.underlying9 rfl (m := q.length) rfl hxg) ?_
        refine WL.g rfl rfl rfl (og_call rfl rfl (by kernel_rfl) (keep_val fun w _ => rnh_ok _ _ (by have := from_len leaf q.reverse (half n) i; omega) (by omega) w)) ?_
        intro _
        refine WL.r rfl rfl rfl (rd_move rfl rfl) ?_
        refine WL.r rfl rfl rfl (rd_assign rfl rfl) ?_
        refine WL.r rfl rfl rfl (rd_assign rfl rfl) ?_
        refine WL.nil ?_
        refine WX.then_normal ?_
        refine WC.ret ?_
        refine WX.then_ret ?_
        exact WX.ret2 rfl rfl rfl fun w' hS => ⟨by rw [hcl], hS.below⟩
      · (try simp only [decide_eq_true_eq, decide_eq_false_iff_not, Bool.not_eq_true', Bool.not_eq_false', Bool.not_not, Int.not_lt, Int.not_le] at hc32)
        rw [if_neg (by omega)] at hcl
        refine WC.skip ?_
        refine WX.then_normal ?_
        refine WC.seq ?_
        refine WC.region ?_
        refine WL.r rfl rfl rfl (rd_move rfl rfl) ?_
        refine WL.r rfl rfl rfl (rd_move rfl rfl) ?_
        first
          | (refine WL.r rfl rfl rfl (rd_sub64n rfl rfl rfl ?_) ?_; focus (omega))
          | (refine WL.r rfl rfl rfl (rd_sub64 rfl rfl rfl ?_) ?_; focus (omega))
        refine WL.r rfl rfl rfl (rd_move rfl rfl) ?_
        refine WL.r rfl rfl rfl (rd_move rfl rfl) ?_
        first
          | (refine WL.r rfl rfl rfl (rd_sub64n rfl rfl rfl ?_) ?_; focus (omega))
          | (refine WL.r rfl rfl rfl (rd_sub64 rfl rfl rfl ?_) ?_; focus (omega))
        refine WL.r rfl rfl rfl (rd_move rfl rfl) ?_
        refine WL.r rfl rfl rfl (rd_move rfl rfl) ?_
        refine WL.r rfl rfl rfl (rd_move rfl rfl) ?_
        refine WL.r rfl rfl rfl (rd_slt rfl rfl rfl Try.underlying22 (by kernel_rfl : _ = some 1) ?_ (by (try simp only [Int.toNat_natCast, Nat.mul_one, Nat.zero_add, Nat.add_zero, Nat.zero_mul, Int.reduceToNat, Nat.reduceAdd, Nat.reduceMul, Nat.reduceSub, Nat.sub_zero]); rfl)) ?_
        · omega
        refine WL.g rfl rfl rfl (og_call rfl rfl (by kernel_rfl) (keep_val fun w hS => ih q (by omega) (n - half n) (i - half n) (by omega) (by omega) (by omega) (fun s h => hs s (by simp [h])) (by omega) _ _ _ rfl (by omega) _ leaf w (hst ▸ sl_take _ (hS.fact _ (by simp))))) ?_
        intro _
        refine WL.r rfl rfl rfl (rd_move rfl rfl) ?_
        first
          | (refine WL.r rfl rfl rfl (rd_x20 rfl rfl) ?_)
          | (refine WL.r rfl rfl rfl (rd_x30 rfl rfl) ?_)
          | (refine WL.r rfl rfl rfl (rd_ext rfl rfl rfl) ?_)
        first
          | (refine WL.r rfl rfl rfl (rd_x21 rfl rfl) ?_)
          | (refine WL.r rfl rfl rfl (rd_x31 rfl rfl) ?_)
          | (refine WL.r rfl rfl rfl (rd_ext rfl rfl rfl) ?_)
        refine WL.r rfl rfl rfl (rd_assign rfl rfl) ?_
        refine WL.r rfl rfl rfl (rd_assign rfl rfl) ?_
        refine WL.nil ?_
        refine WX.then_normal ?_
        refine WC.seq ?_
        refine WC.region ?_
        refine WL.r rfl rfl rfl (rd_move rfl rfl) ?_
        refine WL.r rfl rfl rfl (rd_move rfl rfl) ?_
        refine WL.r rfl rfl rfl (rd_ia rfl rfl rfl Try.underlying22 (by kernel_rfl : _ = some 1) ?_ (by (try simp only [Int.toNat_natCast, Nat.mul_one, Nat.zero_add, Nat.add_zero, Nat.zero_mul, Int.reduceToNat, Nat.reduceAdd, Nat.reduceMul, Nat.reduceSub, Nat.sub_zero]); rfl)) ?_
        · omega
        refine WL.r rfl rfl rfl (ldf rfl rfl (by first | exact .here | exact .t1 | exact .t2 | exact .t3 | exact .t4 | exact .t5 | exact .t6 | exact .t7) Try.underlying9 rfl (m := q.length) rfl hxg) ?_
        refine WL.r rfl rfl rfl (rd_move rfl rfl) ?_
        refine WL.g rfl rfl rfl (og_call rfl rfl (by kernel_rfl) (keep_val fun w _ => rnh_ok _ _ (by omega) (by have := from_len leaf q.reverse (n - half n) (i - half n); omega) w)) ?_
        intro _
        refine WL.r rfl rfl rfl (rd_move rfl rfl) ?_
        refine WL.r rfl rfl rfl (rd_assign rfl rfl) ?_
        refine WL.r rfl rfl rfl (rd_assign rfl rfl) ?_
        refine WL.nil ?_
        refine WX.then_normal ?_
        refine WC.ret ?_
        exact WX.ret2 rfl rfl rfl fun w' hS => ⟨by rw [hcl], hS.below⟩
theorem from_ok (p : List Bs) : FromOk p := by
  have key : ∀ n (p : List Bs), p.length = n → FromOk p := by
    intro n
    induction n using Nat.strongRecOn with
    | _ n ih => intro p hp; exact from_step p fun q h => ih q.length (by omega) q rfl
  exact key _ p rfl

theorem rIncluded_ok (rt : Bs) (n i : Int) (leaf : Bs) (p : List Bs) (hn : n ≤ 2305843009213693952) (hle : leaf.length ≤ 900000) (hs : ∀ s ∈ p, s.length ≤ 300000) (hp : p.length ≤ 62) (a : Option Addr) (m cap : Nat) (hm : m = p.length) (hcap : m ≤ cap) (ok : Nat → Prop) (w : World) (hF : (Fact.sl a (strs p)).holds ok w) :
    Calls Try.prog 20 #[.string (S rt), .int .i64 n, .int .i64 i, .string (S leaf), .slice a m cap] w fun e w' => e = .returned (.bool (inclB rt n i leaf p)) ∧ Below w.heap.size w w' := by
  subst hm
  refine enter (S := St (fun _ => True) w [] [Fact.sl a (strs p)]) (L := [(0, .string (S rt)), (1, .int .i64 n), (2, .int .i64 i), (3, .string (S leaf)), (4, .slice a p.length cap)]) Try.func20 rfl Try.ntmps20 rfl (args_cons rfl (args_cons rfl (args_cons rfl (args_cons rfl (args_cons rfl (args_nil _)))))) (St.start (fun _ _ => trivial) (by simpa using sl_any hF)) ?_
  refine WC.seq ?_
  refine WC.region ?_
  refine WL.r rfl rfl rfl (rd_assign rfl rfl) ?_
  refine WL.nil ?_
  refine WX.then_normal ?_
  refine WC.seq ?_
  refine WC.seq ?_
  refine WC.region ?_
  refine WL.r rfl rfl rfl (rd_move rfl rfl) ?_
  refine WL.r rfl rfl rfl (rd_lss rfl rfl rfl) ?_
  refine WL.r rfl rfl rfl (rd_move rfl rfl) ?_
  refine WL.bool 15 rfl (fun hg15 => ?_) (fun hg15 => ?_)
  · (try simp only [decide_eq_true_eq, decide_eq_false_iff_not, Bool.not_eq_true', Bool.not_eq_false', Bool.not_not, Int.not_lt, Int.not_le] at hg15)
    refine WL.s rfl rfl rfl ?_
    refine WL.s rfl rfl rfl ?_
    refine WL.s rfl rfl rfl ?_
    refine WL.r rfl rfl rfl (rd_pickt rfl rfl rfl) ?_
    refine WL.r rfl rfl rfl (rd_move rfl rfl) ?_
    refine WL.s rfl rfl rfl ?_
    refine WL.s rfl rfl rfl ?_
    refine WL.s rfl rfl rfl ?_
    refine WL.r rfl rfl rfl (rd_pickt rfl rfl rfl) ?_
    refine WL.nil ?_
    skip
    refine WX.then_normal ?_
    refine WC.cond rfl (fun _ => ?_) (fun h => by cases h)
    refine WC.seq ?_
    refine WC.region ?_
    refine WL.r rfl rfl rfl (rd_assign rfl rfl) ?_
    refine WL.nil ?_
    refine WX.then_normal ?_
    refine WC.ret ?_
    refine WX.then_ret ?_
    exact WX.ret1 rfl rfl fun w' hS => ⟨by rw [inclB, decide_eq_false (by omega), Bool.false_and], hS.below⟩
  · (try simp only [decide_eq_true_eq, decide_eq_false_iff_not, Bool.not_eq_true', Bool.not_eq_false', Bool.not_not, Int.not_lt, Int.not_le] at hg15)
    refine WL.r rfl rfl rfl (rd_move rfl rfl) ?_
    refine WL.r rfl rfl rfl (rd_move rfl rfl) ?_
    refine WL.r rfl rfl rfl (rd_geq rfl rfl rfl) ?_
    refine WL.r rfl rfl rfl (rd_pickf rfl rfl rfl) ?_
    refine WL.r rfl rfl rfl (rd_move rfl rfl) ?_
    refine WL.bool 20 rfl (fun hg20 => ?_) (fun hg20 => ?_)
    · (try simp only [decide_eq_true_eq, decide_eq_false_iff_not, Bool.not_eq_true', Bool.not_eq_false', Bool.not_not, Int.not_lt, Int.not_le] at hg20)
      refine WL.s rfl rfl rfl ?_
      refine WL.s rfl rfl rfl ?_
      refine WL.s rfl rfl rfl ?_
      refine WL.r rfl rfl rfl (rd_pickt rfl rfl rfl) ?_
      refine WL.nil ?_
      skip
      refine WX.then_normal ?_
      refine WC.cond rfl (fun _ => ?_) (fun h => by cases h)
      refine WC.seq ?_
      refine WC.region ?_
      refine WL.r rfl rfl rfl (rd_assign rfl rfl) ?_
      refine WL.nil ?_
      refine WX.then_normal ?_
      refine WC.ret ?_
      refine WX.then_ret ?_
      exact WX.ret1 rfl rfl fun w' hS => ⟨by rw [inclB, decide_eq_false (by omega), Bool.false_and], hS.below⟩
    · (try simp only [decide_eq_true_eq, decide_eq_false_iff_not, Bool.not_eq_true', Bool.not_eq_false', Bool.not_not, Int.not_lt, Int.not_le] at hg20)
      refine WL.r rfl rfl rfl (rd_move rfl rfl) ?_
      refine WL.r rfl rfl rfl (rd_len rfl rfl Try.underlying22) ?_
      refine WL.r rfl rfl rfl (rd_gtr rfl rfl rfl) ?_
      refine WL.r rfl rfl rfl (rd_pickf rfl rfl rfl) ?_
      refine WL.nil ?_
      skip
      refine WX.then_normal ?_
      refine WC.cond rfl (fun hc24 => by exfalso; (try simp only [decide_eq_true_eq, decide_eq_false_iff_not, Bool.not_eq_true', Bool.not_eq_false', Bool.not_not, Int.not_lt, Int.not_le] at hc24); omega) (fun hc24 => ?_)
      (try simp only [decide_eq_true_eq, decide_eq_false_iff_not, Bool.not_eq_true', Bool.not_eq_false', Bool.not_not, Int.not_lt, Int.not_le] at hc24)
      refine WC.skip ?_
      refine WX.then_normal ?_
      refine WC.seq ?_
      refine WC.region ?_
      obtain ⟨j, rfl⟩ : ∃ j : Nat, i = j := ⟨i.toNat, by omega⟩
      obtain ⟨k, rfl⟩ : ∃ k : Nat, n = k := ⟨n.toNat, by omega⟩
      have hinc : inclB rt k j leaf p = ((climb (leafH leaf) k j p.reverse).2 && decide ((climb (leafH leaf) k j p.reverse).1 = rt)) := by rw [inclB, decide_eq_true (by omega), Bool.true_and, Int.toNat_natCast, Int.toNat_natCast]
      have hfc := from_climb (leafH leaf) p.reverse k j
      refine WL.r rfl rfl rfl (rd_move rfl rfl) ?_
      refine WL.r rfl rfl rfl (rd_move rfl rfl) ?_
      refine WL.r rfl rfl rfl (rd_move rfl rfl) ?_
      refine WL.g rfl rfl rfl (og_call rfl rfl (by kernel_rfl) (keep_val fun w _ => rlh_ok leaf hle w)) ?_
      intro _
      refine WL.r rfl rfl rfl (rd_move rfl rfl) ?_
      refine WL.g rfl rfl rfl (og_call rfl rfl (by kernel_rfl) (keep_val fun w hS => from_ok p k j (by omega) (by omega) (by omega) hs (by omega) _ _ _ rfl hcap _ leaf w (hS.fact _ (by simp)))) ?_
      intro _
      refine WL.r rfl rfl rfl (rd_move rfl rfl) ?_
      first
        | (refine WL.r rfl rfl rfl (rd_x20 rfl rfl) ?_)
        | (refine WL.r rfl rfl rfl (rd_x30 rfl rfl) ?_)
        | (refine WL.r rfl rfl rfl (rd_ext rfl rfl rfl) ?_)
      first
        | (refine WL.r rfl rfl rfl (rd_x21 rfl rfl) ?_)
        | (refine WL.r rfl rfl rfl (rd_x31 rfl rfl) ?_)
        | (refine WL.r rfl rfl rfl (rd_ext rfl rfl rfl) ?_)
      refine WL.r rfl rfl rfl (rd_assign rfl rfl) ?_
      refine WL.r rfl rfl rfl (rd_assign rfl rfl) ?_
      refine WL.nil ?_
      refine WX.then_normal ?_
      refine WC.seq ?_
      refine WC.region ?_
      refine WL.r rfl rfl rfl (rd_move rfl rfl) ?_
      refine WL.r rfl rfl rfl (rd_move rfl rfl) ?_
      refine WL.bool 35 rfl (fun hg35 => ?_) (fun hg35 => ?_)
      · (try simp only [decide_eq_true_eq, decide_eq_false_iff_not, Bool.not_eq_true', Bool.not_eq_false', Bool.not_not, Int.not_lt, Int.not_le] at hg35)
        refine WL.r rfl rfl rfl (rd_move rfl rfl) ?_
        refine WL.r rfl rfl rfl (rd_move rfl rfl) ?_
        refine WL.r rfl rfl rfl (rd_seq rfl rfl rfl) ?_
        refine WL.r rfl rfl rfl (rd_pickt rfl rfl rfl) ?_
        refine WL.r rfl rfl rfl (rd_assign rfl rfl) ?_
        refine WL.nil ?_
        refine WX.then_normal ?_
        refine WC.ret ?_
        exact WX.ret1 rfl rfl fun w' hS => ⟨by rw [hinc, ← hfc.1, hg35]; first | rfl | rw [← hfc.2 (hfc.1 ▸ hg35), Bool.true_and], hS.below⟩
      · (try simp only [decide_eq_true_eq, decide_eq_false_iff_not, Bool.not_eq_true', Bool.not_eq_false', Bool.not_not, Int.not_lt, Int.not_le] at hg35)
        refine WL.s rfl rfl rfl ?_
        refine WL.s rfl rfl rfl ?_
        refine WL.s rfl rfl rfl ?_
        refine WL.r rfl rfl rfl (rd_pickf rfl rfl rfl) ?_
        refine WL.r rfl rfl rfl (rd_assign rfl rfl) ?_
        refine WL.nil ?_
        refine WX.then_normal ?_
        refine WC.ret ?_
        exact WX.ret1 rfl rfl fun w' hS => ⟨by rw [hinc, ← hfc.1, hg35]; first | rfl | rw [← hfc.2 (hfc.1 ▸ hg35), Bool.true_and], hS.below⟩
end Go.Proofs.Ytenjafedpcpoaaa
