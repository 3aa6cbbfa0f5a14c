/-
  The walk of the program's Included.
-/
import Derived.Test.YtenjafedpcpoaaaMer4
namespace Go.Proofs.Ytenjafedpcpoaaa
set_option linter.unusedSimpArgs false
set_option linter.unusedVariables false
open Go.RowKit

/-- what a path leads to (the path with its last element first), and whether it has the right length -/
def climb (h : Bs) : Nat → Nat → List Bs → Bs × Bool
  | n, _, [] => (h, decide (n = 1))
  | n, i, x :: r => if n = 1 then (h, false) else
    if i < half n then (nodeH (climb h (half n) i r).1 x, (climb h (half n) i r).2) else (nodeH x (climb h (n - half n) (i - half n) r).1, (climb h (n - half n) (i - half n) r).2)
theorem climb_end (h : Bs) (n i : Nat) (p : List Bs) (hp : n = 1 ∨ p.length = 0) : climb h n i p.reverse = (h, decide (n = 1 ∧ p.length = 0)) := by
  cases hr : p.reverse with
  | nil =>
    have : p = [] := by simpa using hr
    subst this
    simp [climb]
  | cons x r =>
    have hl : p.length ≠ 0 := fun e => by have := List.eq_nil_of_length_eq_zero e; subst this; simp at hr
    have hn : n = 1 := by omega
    simp only [climb, if_pos hn]
    simp [hl]
theorem snoc_of (p : List Bs) (h : p.length ≠ 0) : ∃ q x, p = q ++ [x] := by
  rcases List.eq_nil_or_concat p with rfl | ⟨q, x, rfl⟩
  · simp at h
  · exact ⟨q, x, by simp⟩
theorem climb_len (s : Bs) : ∀ (r : List Bs) (n i : Nat), (climb (leafH s) n i r).1.length = 32 := by
  intro r
  induction r with
  | nil => intro n i; simp only [climb, leafH]; exact sha_len _
  | cons x r ih =>
    intro n i
    simp only [climb]
    split
    · exact sha_len _
    · split <;> exact sha_len _

/-- what the closure of Included owns: its own variable, ok, the leaf -/
def CL (bc bo bl : Nat) (leaf : Bs) (v : Bool) : List Ent :=
  [⟨some bc, [.func (.func 35) #[] #[.pointer (some ⟨bo, 0, none⟩), .pointer (some ⟨bl, 0, none⟩), .pointer (some ⟨bc, 0, none⟩)]], 49⟩, ⟨some bo, [.bool v], 4⟩, ⟨some bl, [.string (S leaf)], 9⟩]

def ClimbOk (p : List Bs) : Prop :=
  ∀ (n i : Nat), 0 < n → i < n → n ≤ 2305843009213693952 → (∀ s ∈ p, s.length ≤ 300000) → p.length ≤ 4611686018427387904 → ∀ (a : Option Addr) (m cap : Nat), m = p.length → m ≤ cap → ∀ (ok : Nat → Prop) (w0 : World) (bc bo bl : Nat) (leaf : Bs) (v : Bool) (fs : List Fact) (w : World),
    leaf.length ≤ 900000 → St ok w0 (CL bc bo bl leaf v) (Fact.sl a (strs p) :: fs) w →
    Calls Try.prog 35 #[.int .i64 (n : Int), .int .i64 (i : Int), .slice a m cap, .pointer (some ⟨bo, 0, none⟩), .pointer (some ⟨bl, 0, none⟩), .pointer (some ⟨bc, 0, none⟩)] w fun e w' =>
      ∃ _u : Unit, e = .returned (.string (S (climb (leafH leaf) n i p.reverse).1)) ∧ St ok w0 (CL bc bo bl leaf (v && (climb (leafH leaf) n i p.reverse).2)) (Fact.sl a (strs p) :: fs) w'

theorem climb_use {p : List Bs} (h : ClimbOk p) {n i : Nat} (h0 : 0 < n) (hi : i < n) (hn : n ≤ 2305843009213693952) (hs : ∀ s ∈ p, s.length ≤ 300000) (hp : p.length ≤ 4611686018427387904) {a : Option Addr} {m cap : Nat} (hm : m = p.length) (hcap : m ≤ cap) {ok : Nat → Prop} {w0 : World} {bc bo bl : Nat} {leaf : Bs} {v : Bool} {fs : List Fact}
    (hle : leaf.length ≤ 900000) (hsub : ∀ w, St ok w0 (CL bc bo bl leaf v) fs w → (Fact.sl a (strs p)).holds (fun b => ok b ∧ b ∉ ids (CL bc bo bl leaf v)) w) :
    ∀ w, St ok w0 (CL bc bo bl leaf v) fs w → Calls Try.prog 35 #[.int .i64 (n : Int), .int .i64 (i : Int), .slice a m cap, .pointer (some ⟨bo, 0, none⟩), .pointer (some ⟨bl, 0, none⟩), .pointer (some ⟨bc, 0, none⟩)] w fun e w' =>
      ∃ _u : Unit, e = .returned (.string (S (climb (leafH leaf) n i p.reverse).1)) ∧ St ok w0 (CL bc bo bl leaf (v && (climb (leafH leaf) n i p.reverse).2)) fs w' :=
  fun w hS => (h n i h0 hi hn hs hp a m cap hm hcap ok w0 bc bo bl leaf v fs w hle (hS.addF (hsub w hS))).mono fun _ _ ⟨g', h1, h3⟩ => ⟨g', h1, h3.dropF⟩

theorem climb_step (p : List Bs) (ih : ∀ q : List Bs, q.length < p.length → ClimbOk q) : ClimbOk p := by
  intro n i hn0 hi hn hs hpl a m cap hm hcap ok w0 bc bo bl leaf v fs w hle hS0
  subst hm
  dsimp only [CL] at hS0
  refine enter (S := St ok w0 _ (Fact.sl a (strs p) :: fs)) (L := [(0, .int .i64 (n : Int)), (1, .int .i64 (i : Int)), (2, .slice a p.length cap), (3, .pointer (some ⟨bo, 0, none⟩)), (4, .pointer (some ⟨bl, 0, none⟩)), (5, .pointer (some ⟨bc, 0, none⟩))]) Try.func35 rfl Try.ntmps35 rfl (args_cons rfl (args_cons rfl (args_cons rfl (args_cons rfl (args_cons rfl (args_cons rfl (args_nil _))))))) hS0 ?_
  refine WC.seq ?_
  refine WC.region ?_
  refine WL.r rfl rfl rfl (rd_assign rfl rfl) ?_
  refine WL.nil ?_
  refine WX.then_normal ?_
  refine WC.seq ?_
  refine WC.seq ?_
  refine WC.region ?_
  refine WL.r rfl rfl rfl (rd_move rfl rfl) ?_
  refine WL.r rfl rfl rfl (rd_eql rfl rfl rfl) ?_
  refine WL.r rfl rfl rfl (rd_move rfl rfl) ?_
  refine WL.bool 14 rfl (fun hg14 => ?_) (fun hg14 => ?_)
  · (try simp only [decide_eq_true_eq, decide_eq_false_iff_not, Bool.not_eq_true', Bool.not_eq_false', Bool.not_not, Int.not_lt, Int.not_le] at hg14)
    refine WL.s rfl rfl rfl ?_
    refine WL.s rfl rfl rfl ?_
    refine WL.s rfl rfl rfl ?_
    refine WL.r rfl rfl rfl (rd_pickt rfl rfl rfl) ?_
    refine WL.nil ?_
    refine WX.then_normal ?_
    refine WC.cond rfl (fun _ => ?_) (fun h => by cases h)
    refine WC.seq ?_
    refine WC.region ?_
    refine WL.r rfl rfl rfl (ld rfl rfl (by first | exact .here | exact .t1 | exact .t2 | exact .t3 | exact .t4 | exact .t5 | exact .t6 | exact .t7) Try.underlying4 rfl (by rfl)) ?_
    refine WL.r rfl rfl rfl (rd_move rfl rfl) ?_
    refine WL.bool 20 rfl (fun hg20 => ?_) (fun hg20 => ?_)
    · (try simp only [decide_eq_true_eq, decide_eq_false_iff_not, Bool.not_eq_true', Bool.not_eq_false', Bool.not_not, Int.not_lt, Int.not_le] at hg20)
      refine WL.r rfl rfl rfl (rd_move rfl rfl) ?_
      refine WL.r rfl rfl rfl (rd_eql rfl rfl rfl) ?_
      refine WL.r rfl rfl rfl (rd_pickt rfl rfl rfl) ?_
      refine WL.r rfl rfl rfl (rd_move rfl rfl) ?_
      refine WL.bool 24 rfl (fun hg24 => ?_) (fun hg24 => ?_)
      · (try simp only [decide_eq_true_eq, decide_eq_false_iff_not, Bool.not_eq_true', Bool.not_eq_false', Bool.not_not, Int.not_lt, Int.not_le] at hg24)
        refine WL.r rfl rfl rfl (rd_move rfl rfl) ?_
        refine WL.r rfl rfl rfl (rd_len rfl rfl Try.underlying22) ?_
        refine WL.r rfl rfl rfl (rd_eql rfl rfl rfl) ?_
        refine WL.r rfl rfl rfl (rd_pickt rfl rfl rfl) ?_
        refine WL.set 28 rfl (v' := .bool (v && decide (n = 1 ∧ p.length = 0))) (congrArg Value.bool (by first | (rw [hg20]; rfl) | (rw [hg20, Bool.true_and]; symm; apply decide_eq_false; omega) | (rw [hg20, Bool.true_and]; exact decide_eq_decide.2 (by omega)))) ?_
        refine WL.g0 rfl rfl (st rfl rfl rfl (by first | exact .here | exact .t1 | exact .t2 | exact .t3 | exact .t4 | exact .t5 | exact .t6 | exact .t7) (by kernel_rfl) rfl ?_ rfl) ?_
        · first | decide | (simp; done) | (simp; omega)
        intro _
        refine WL.nil ?_
        refine WX.then_normal ?_
        refine WC.seq ?_
        refine WC.region ?_
        refine WL.r rfl rfl rfl (ld rfl rfl (by first | exact .here | exact .t1 | exact .t2 | exact .t3 | exact .t4 | exact .t5 | exact .t6 | exact .t7) Try.underlying9 rfl (by rfl)) ?_
        refine WL.g rfl rfl rfl (og_call rfl rfl (by kernel_rfl) (keep_val fun w _ => lh_ok leaf hle w)) ?_
        intro _
        refine WL.r rfl rfl rfl (rd_assign rfl rfl) ?_
        refine WL.nil ?_
        refine WX.then_normal ?_
        refine WC.ret ?_
        refine WX.then_ret ?_
        have hcl := climb_end (leafH leaf) n i p (by omega)
        exact WX.ret1 rfl rfl fun w' hS => ⟨(), by rw [hcl], by rw [hcl]; exact hS⟩
      · (try simp only [decide_eq_true_eq, decide_eq_false_iff_not, Bool.not_eq_true', Bool.not_eq_false', Bool.not_not, Int.not_lt, Int.not_le] at hg24)
        refine WL.s rfl rfl rfl ?_
        refine WL.s rfl rfl rfl ?_
        refine WL.s rfl rfl rfl ?_
        refine WL.r rfl rfl rfl (rd_pickf rfl rfl rfl) ?_
        refine WL.set 28 rfl (v' := .bool (v && decide (n = 1 ∧ p.length = 0))) (congrArg Value.bool (by first | (rw [hg20]; rfl) | (rw [hg20, Bool.true_and]; symm; apply decide_eq_false; omega) | (rw [hg20, Bool.true_and]; exact decide_eq_decide.2 (by omega)))) ?_
        refine WL.g0 rfl rfl (st rfl rfl rfl (by first | exact .here | exact .t1 | exact .t2 | exact .t3 | exact .t4 | exact .t5 | exact .t6 | exact .t7) (by kernel_rfl) rfl ?_ rfl) ?_
        · first | decide | (simp; done) | (simp; omega)
        intro _
        refine WL.nil ?_
        refine WX.then_normal ?_
        refine WC.seq ?_
        refine WC.region ?_
        refine WL.r rfl rfl rfl (ld rfl rfl (by first | exact .here | exact .t1 | exact .t2 | exact .t3 | exact .t4 | exact .t5 | exact .t6 | exact .t7) Try.underlying9 rfl (by rfl)) ?_
        refine WL.g rfl rfl rfl (og_call rfl rfl (by kernel_rfl) (keep_val fun w _ => lh_ok leaf hle w)) ?_
        intro _
        refine WL.r rfl rfl rfl (rd_assign rfl rfl) ?_
        refine WL.nil ?_
        refine WX.then_normal ?_
        refine WC.ret ?_
        refine WX.then_ret ?_
        have hcl := climb_end (leafH leaf) n i p (by omega)
        exact WX.ret1 rfl rfl fun w' hS => ⟨(), by rw [hcl], by rw [hcl]; exact hS⟩
    · (try simp only [decide_eq_true_eq, decide_eq_false_iff_not, Bool.not_eq_true', Bool.not_eq_false', Bool.not_not, Int.not_lt, Int.not_le] at hg20)
      refine WL.s rfl rfl rfl ?_
      refine WL.s rfl rfl rfl ?_
      refine WL.r rfl rfl rfl (rd_pickf rfl rfl rfl) ?_
      refine WL.r rfl rfl rfl (rd_move rfl rfl) ?_
      refine WL.s rfl rfl rfl ?_
      refine WL.s rfl rfl rfl ?_
      refine WL.s rfl rfl rfl ?_
      refine WL.r rfl rfl rfl (rd_pickf rfl rfl rfl) ?_
      refine WL.set 28 rfl (v' := .bool (v && decide (n = 1 ∧ p.length = 0))) (congrArg Value.bool (by first | (rw [hg20]; rfl) | (rw [hg20, Bool.true_and]; symm; apply decide_eq_false; omega) | (rw [hg20, Bool.true_and]; exact decide_eq_decide.2 (by omega)))) ?_
      refine WL.g0 rfl rfl (st rfl rfl rfl (by first | exact .here | exact .t1 | exact .t2 | exact .t3 | exact .t4 | exact .t5 | exact .t6 | exact .t7) (by kernel_rfl) rfl ?_ rfl) ?_
      · first | decide | (simp; done) | (simp; omega)
      intro _
      refine WL.nil ?_
      refine WX.then_normal ?_
      refine WC.seq ?_
      refine WC.region ?_
      refine WL.r rfl rfl rfl (ld rfl rfl (by first | exact .here | exact .t1 | exact .t2 | exact .t3 | exact .t4 | exact .t5 | exact .t6 | exact .t7) Try.underlying9 rfl (by rfl)) ?_
      refine WL.g rfl rfl rfl (og_call rfl rfl (by kernel_rfl) (keep_val fun w _ => lh_ok leaf hle w)) ?_
      intro _
      refine WL.r rfl rfl rfl (rd_assign rfl rfl) ?_
      refine WL.nil ?_
      refine WX.then_normal ?_
      refine WC.ret ?_
      refine WX.then_ret ?_
      have hcl := climb_end (leafH leaf) n i p (by omega)
      exact WX.ret1 rfl rfl fun w' hS => ⟨(), by rw [hcl], by rw [hcl]; exact hS⟩
  · (try simp only [decide_eq_true_eq, decide_eq_false_iff_not, Bool.not_eq_true', Bool.not_eq_false', Bool.not_not, Int.not_lt, Int.not_le] at hg14)
    refine WL.r rfl rfl rfl (rd_move rfl rfl) ?_
    refine WL.r rfl rfl rfl (rd_len rfl rfl Try.underlying22) ?_
    refine WL.r rfl rfl rfl (rd_eql rfl rfl rfl) ?_
    refine WL.r rfl rfl rfl (rd_pickf rfl rfl rfl) ?_
    refine WL.nil ?_
    refine WX.then_normal ?_
    refine WC.cond rfl (fun hc18 => ?_) (fun hc18 => ?_)
    · (try simp only [decide_eq_true_eq, decide_eq_false_iff_not, Bool.not_eq_true', Bool.not_eq_false', Bool.not_not, Int.not_lt, Int.not_le] at hc18)
      refine WC.seq ?_
      refine WC.region ?_
      refine WL.r rfl rfl rfl (ld rfl rfl (by first | exact .here | exact .t1 | exact .t2 | exact .t3 | exact .t4 | exact .t5 | exact .t6 | exact .t7) Try.underlying4 rfl (by rfl)) ?_
      refine WL.r rfl rfl rfl (rd_move rfl rfl) ?_
      refine WL.bool 20 rfl (fun hg20 => ?_) (fun hg20 => ?_)
      · (try simp only [decide_eq_true_eq, decide_eq_false_iff_not, Bool.not_eq_true', Bool.not_eq_false', Bool.not_not, Int.not_lt, Int.not_le] at hg20)
        refine WL.r rfl rfl rfl (rd_move rfl rfl) ?_
        refine WL.r rfl rfl rfl (rd_eql rfl rfl rfl) ?_
        refine WL.r rfl rfl rfl (rd_pickt rfl rfl rfl) ?_
        refine WL.r rfl rfl rfl (rd_move rfl rfl) ?_
        refine WL.bool 24 rfl (fun hg24 => ?_) (fun hg24 => ?_)
        · (try simp only [decide_eq_true_eq, decide_eq_false_iff_not, Bool.not_eq_true', Bool.not_eq_false', Bool.not_not, Int.not_lt, Int.not_le] at hg24)
          refine WL.r rfl rfl rfl (rd_move rfl rfl) ?_
          refine WL.r rfl rfl rfl (rd_len rfl rfl Try.underlying22) ?_
          refine WL.r rfl rfl rfl (rd_eql rfl rfl rfl) ?_
          refine WL.r rfl rfl rfl (rd_pickt rfl rfl rfl) ?_
          refine WL.set 28 rfl (v' := .bool (v && decide (n = 1 ∧ p.length = 0))) (congrArg Value.bool (by first | (rw [hg20]; rfl) | (rw [hg20, Bool.true_and]; symm; apply decide_eq_false; omega) | (rw [hg20, Bool.true_and]; exact decide_eq_decide.2 (by omega)))) ?_
          refine WL.g0 rfl rfl (st rfl rfl rfl (by first | exact .here | exact .t1 | exact .t2 | exact .t3 | exact .t4 | exact .t5 | exact .t6 | exact .t7) (by kernel_rfl) rfl ?_ rfl) ?_
          · first | decide | (simp; done) | (simp; omega)
          intro _
          refine WL.nil ?_
          refine WX.then_normal ?_
          refine WC.seq ?_
          refine WC.region ?_
          refine WL.r rfl rfl rfl (ld rfl rfl (by first | exact .here | exact .t1 | exact .t2 | exact .t3 | exact .t4 | exact .t5 | exact .t6 | exact .t7) Try.underlying9 rfl (by rfl)) ?_
          refine WL.g rfl rfl rfl (og_call rfl rfl (by kernel_rfl) (keep_val fun w _ => lh_ok leaf hle w)) ?_
          intro _
          refine WL.r rfl rfl rfl (rd_assign rfl rfl) ?_
          refine WL.nil ?_
          refine WX.then_normal ?_
          refine WC.ret ?_
          refine WX.then_ret ?_
          have hcl := climb_end (leafH leaf) n i p (by omega)
          exact WX.ret1 rfl rfl fun w' hS => ⟨(), by rw [hcl], by rw [hcl]; exact hS⟩
        · (try simp only [decide_eq_true_eq, decide_eq_false_iff_not, Bool.not_eq_true', Bool.not_eq_false', Bool.not_not, Int.not_lt, Int.not_le] at hg24)
          refine WL.s rfl rfl rfl ?_
          refine WL.s rfl rfl rfl ?_
          refine WL.s rfl rfl rfl ?_
          refine WL.r rfl rfl rfl (rd_pickf rfl rfl rfl) ?_
          refine WL.set 28 rfl (v' := .bool (v && decide (n = 1 ∧ p.length = 0))) (congrArg Value.bool (by first | (rw [hg20]; rfl) | (rw [hg20, Bool.true_and]; symm; apply decide_eq_false; omega) | (rw [hg20, Bool.true_and]; exact decide_eq_decide.2 (by omega)))) ?_
          refine WL.g0 rfl rfl (st rfl rfl rfl (by first | exact .here | exact .t1 | exact .t2 | exact .t3 | exact .t4 | exact .t5 | exact .t6 | exact .t7) (by kernel_rfl) rfl ?_ rfl) ?_
          · first | decide | (simp; done) | (simp; omega)
          intro _
          refine WL.nil ?_
          refine WX.then_normal ?_
          refine WC.seq ?_
          refine WC.region ?_
          refine WL.r rfl rfl rfl (ld rfl rfl (by first | exact .here | exact .t1 | exact .t2 | exact .t3 | exact .t4 | exact .t5 | exact .t6 | exact .t7) Try.underlying9 rfl (by rfl)) ?_
          refine WL.g rfl rfl rfl (og_call rfl rfl (by kernel_rfl) (keep_val fun w _ => lh_ok leaf hle w)) ?_
          intro _
          refine WL.r rfl rfl rfl (rd_assign rfl rfl) ?_
          refine WL.nil ?_
          refine WX.then_normal ?_
          refine WC.ret ?_
          refine WX.then_ret ?_
          have hcl := climb_end (leafH leaf) n i p (by omega)
          exact WX.ret1 rfl rfl fun w' hS => ⟨(), by rw [hcl], by rw [hcl]; exact hS⟩
      · (try simp only [decide_eq_true_eq, decide_eq_false_iff_not, Bool.not_eq_true', Bool.not_eq_false', Bool.not_not, Int.not_lt, Int.not_le] at hg20)
        refine WL.s rfl rfl rfl ?_
        refine WL.s rfl rfl rfl ?_
        refine WL.r rfl rfl rfl (rd_pickf rfl rfl rfl) ?_
        refine WL.r rfl rfl rfl (rd_move rfl rfl) ?_
        refine WL.s rfl rfl rfl ?_
        refine WL.s rfl rfl rfl ?_
        refine WL.s rfl rfl rfl ?_
        refine WL.r rfl rfl rfl (rd_pickf rfl rfl rfl) ?_
        refine WL.set 28 rfl (v' := .bool (v && decide (n = 1 ∧ p.length = 0))) (congrArg Value.bool (by first | (rw [hg20]; rfl) | (rw [hg20, Bool.true_and]; symm; apply decide_eq_false; omega) | (rw [hg20, Bool.true_and]; exact decide_eq_decide.2 (by omega)))) ?_
        refine WL.g0 rfl rfl (st rfl rfl rfl (by first | exact .here | exact .t1 | exact .t2 | exact .t3 | exact .t4 | exact .t5 | exact .t6 | exact .t7) (by kernel_rfl) rfl ?_ rfl) ?_
        · first | decide | (simp; done) | (simp; omega)
        intro _
        refine WL.nil ?_
        refine WX.then_normal ?_
        refine WC.seq ?_
        refine WC.region ?_
        refine WL.r rfl rfl rfl (ld rfl rfl (by first | exact .here | exact .t1 | exact .t2 | exact .t3 | exact .t4 | exact .t5 | exact .t6 | exact .t7) Try.underlying9 rfl (by rfl)) ?_
        refine WL.g rfl rfl rfl (og_call rfl rfl (by kernel_rfl) (keep_val fun w _ => lh_ok leaf hle w)) ?_
        intro _
        refine WL.r rfl rfl rfl (rd_assign rfl rfl) ?_
        refine WL.nil ?_
        refine WX.then_normal ?_
        refine WC.ret ?_
        refine WX.then_ret ?_
        have hcl := climb_end (leafH leaf) n i p (by omega)
        exact WX.ret1 rfl rfl fun w' hS => ⟨(), by rw [hcl], by rw [hcl]; exact hS⟩
    · (try simp only [decide_eq_true_eq, decide_eq_false_iff_not, Bool.not_eq_true', Bool.not_eq_false', Bool.not_not, Int.not_lt, Int.not_le] at hc18)
      obtain ⟨q, x, rfl⟩ := snoc_of p (by omega)
      obtain ⟨b, off, rfl⟩ := sl_addr (hS0.fact (Fact.sl a (strs (q ++ [x]))) (by simp)) (by rw [strs_len]; simp)
      have hh := half_spec n (by omega) (by omega)
      have hq : (q ++ [x]).length = q.length + 1 := by simp
      have hx := hs x (by simp)
      have hxg : (strs (q ++ [x]))[q.length]? = some (.string (S x)) := strs_get _ _ _ (by simp)
      have hst : (strs (q ++ [x])).take q.length = strs q := by rw [strs_take]; simp
      have hcl : climb (leafH leaf) n i (q ++ [x]).reverse = if i < half n then (nodeH (climb (leafH leaf) (half n) i q.reverse).1 x, (climb (leafH leaf) (half n) i q.reverse).2) else (nodeH x (climb (leafH leaf) (n - half n) (i - half n) q.reverse).1, (climb (leafH leaf) (n - half n) (i - half n) q.reverse).2) := by
        rw [List.reverse_append]; simp only [List.reverse_cons, List.reverse_nil, List.nil_append, List.singleton_append, climb]; rw [if_neg (by omega)]
      refine WC.skip ?_
      refine WX.then_normal ?_
      refine WC.seq ?_
      refine WC.region ?_
      refine WL.r rfl rfl rfl (rd_move rfl rfl) ?_
      refine WL.r rfl rfl rfl (rd_len rfl rfl Try.underlying22) ?_
      first
        | (refine WL.r rfl rfl rfl (rd_sub64nl rfl rfl rfl ?_) ?_; focus (omega))
        | (refine WL.r rfl rfl rfl (rd_sub64 rfl rfl rfl ?_) ?_; focus (omega))
      refine WL.set 33 rfl (v' := .int .i64 (q.length : Int)) (by rw [hq]; rfl) ?_
      refine WL.r rfl rfl rfl (rd_assign rfl rfl) ?_
      refine WL.nil ?_
      refine WX.then_normal ?_
      refine WC.seq ?_
      refine WC.region ?_
      refine WL.r rfl rfl rfl (rd_move rfl rfl) ?_
      refine WL.g rfl rfl rfl (og_call rfl rfl (by kernel_rfl) (keep_val fun w _ => half_ok n (by omega) (by omega) w)) ?_
      intro _
      refine WL.r rfl rfl rfl (rd_assign rfl rfl) ?_
      refine WL.nil ?_
      refine WX.then_normal ?_
      refine WC.seq ?_
      refine WC.seq ?_
      refine WC.region ?_
      refine WL.r rfl rfl rfl (rd_move rfl rfl) ?_
      refine WL.r rfl rfl rfl (rd_move rfl rfl) ?_
      refine WL.r rfl rfl rfl (rd_lss rfl rfl rfl) ?_
      refine WL.nil ?_
      refine WX.then_normal ?_
      refine WC.cond rfl (fun hc38 => ?_) (fun hc38 => ?_)
      · (try simp only [decide_eq_true_eq, decide_eq_false_iff_not, Bool.not_eq_true', Bool.not_eq_false', Bool.not_not, Int.not_lt, Int.not_le] at hc38)
        rw [if_pos (by omega)] at hcl
        refine WC.seq ?_
        refine WC.mixC (C := fun w => ∃ v, St ok w0 (CL bc bo bl leaf v) (Fact.sl (some ⟨b, off, none⟩) (strs (q ++ [x])) :: fs) w) [0, 0, 0, 0, 0, 0, 1, 0, 0, 0, 0, 1, 0] (by kernel_rfl) (by kernel_rfl) (fun w h => h.draw) (fun w h => ⟨_, h⟩) ?_
        refine WM.r rfl rfl rfl (Rd.ex fun v => ld rfl rfl (by first | exact .here | exact .t1 | exact .t2 | exact .t3 | exact .t4 | exact .t5 | exact .t6 | exact .t7) Try.underlying49 rfl (by rfl)) ?_
        refine WM.r rfl rfl rfl (Rd.ex fun v => rd_move rfl rfl) ?_
        refine WM.r rfl rfl rfl (Rd.ex fun v => rd_move rfl rfl) ?_
        refine WM.r rfl rfl rfl (Rd.ex fun v => rd_move rfl rfl) ?_
        refine WM.r rfl rfl rfl (Rd.ex fun v => rd_move rfl rfl) ?_
        refine WM.r rfl rfl rfl (Rd.ex fun v => rd_slt rfl rfl rfl Try.underlying22 (by kernel_rfl : _ = some 1) ?_ (by (try simp only [Int.toNat_natCast, Nat.mul_one, Nat.zero_add, Nat.add_zero, Nat.zero_mul, Int.reduceToNat, Nat.reduceAdd, Nat.reduceMul, Nat.reduceSub, Nat.sub_zero]); rfl)) ?_
        · omega
        refine WM.g rfl rfl rfl (og_callv rfl rfl rfl (by kernel_rfl) rfl (climb_use (ih q (by omega)) (by omega) (by omega) (by omega) (fun s h => hs s (by simp [h])) (by omega) rfl (by omega) hle (fun w hS => hst ▸ sl_take _ (hS.fact _ (by simp))))) (fun _ _ h => by first | exact h | exact ⟨_, h⟩ | exact ⟨_, h.2⟩ | exact h.2 | exact h.sub (by repeat (first | exact List.Sublist.refl _ | apply List.Sublist.cons)) (fun _ h => by simp [*]) | exact h.2.sub (by repeat (first | exact List.Sublist.refl _ | apply List.Sublist.cons)) (fun _ h => by simp [*])) ?_
        intro _
        refine WM.r rfl rfl rfl (Rd.ex fun v => rd_move rfl rfl) ?_
        refine WM.r rfl rfl rfl (Rd.ex fun v => rd_move rfl rfl) ?_
        refine WM.r rfl rfl rfl (Rd.ex fun v => rd_ia rfl rfl rfl Try.underlying22 (by kernel_rfl : _ = some 1) ?_ (by (try simp only [Int.toNat_natCast, Nat.mul_one, Nat.zero_add, Nat.add_zero, Nat.zero_mul, Int.reduceToNat, Nat.reduceAdd, Nat.reduceMul, Nat.reduceSub, Nat.sub_zero]); rfl)) ?_
        · omega
        refine WM.r rfl rfl rfl (Rd.ex fun v => ldf rfl rfl (by first | exact .here | exact .t1 | exact .t2 | exact .t3 | exact .t4 | exact .t5 | exact .t6 | exact .t7) Try.underlying9 rfl (m := q.length) rfl hxg) ?_
        refine WM.g rfl rfl rfl (og_call rfl rfl (by kernel_rfl) (keep_val fun w _ => nh_ok _ _ (by rw [climb_len]; omega) (by omega) w)) (fun _ _ h => by first | exact h | exact ⟨_, h⟩ | exact ⟨_, h.2⟩ | exact h.2 | exact h.sub (by repeat (first | exact List.Sublist.refl _ | apply List.Sublist.cons)) (fun _ h => by simp [*]) | exact h.2.sub (by repeat (first | exact List.Sublist.refl _ | apply List.Sublist.cons)) (fun _ h => by simp [*])) ?_
        intro _
        refine WM.r rfl rfl rfl (Rd.ex fun v => rd_assign rfl rfl) ?_
        refine WM.nil ?_
        refine WX.then_normal ?_
        refine WC.ret ?_
        refine WX.then_ret ?_
        exact WX.ret1 rfl rfl fun w' hS => ⟨(), by rw [hcl], by rw [hcl]; exact hS⟩
      · (try simp only [decide_eq_true_eq, decide_eq_false_iff_not, Bool.not_eq_true', Bool.not_eq_false', Bool.not_not, Int.not_lt, Int.not_le] at hc38)
        rw [if_neg (by omega)] at hcl
        refine WC.skip ?_
        refine WX.then_normal ?_
        refine WC.seq ?_
        refine WC.mixC (C := fun w => ∃ v, St ok w0 (CL bc bo bl leaf v) (Fact.sl (some ⟨b, off, none⟩) (strs (q ++ [x])) :: fs) w) [0, 0, 0, 0, 0, 0, 0, 0, 0, 0, 0, 0, 0, 0, 1, 1, 0] (by kernel_rfl) (by kernel_rfl) (fun w h => h.draw) (fun w h => ⟨_, h⟩) ?_
        refine WM.r rfl rfl rfl (Rd.ex fun v => rd_move rfl rfl) ?_
        refine WM.r rfl rfl rfl (Rd.ex fun v => rd_move rfl rfl) ?_
        refine WM.r rfl rfl rfl (Rd.ex fun v => rd_ia rfl rfl rfl Try.underlying22 (by kernel_rfl : _ = some 1) ?_ (by (try simp only [Int.toNat_natCast, Nat.mul_one, Nat.zero_add, Nat.add_zero, Nat.zero_mul, Int.reduceToNat, Nat.reduceAdd, Nat.reduceMul, Nat.reduceSub, Nat.sub_zero]); rfl)) ?_
        · omega
        refine WM.r rfl rfl rfl (Rd.ex fun v => ldf rfl rfl (by first | exact .here | exact .t1 | exact .t2 | exact .t3 | exact .t4 | exact .t5 | exact .t6 | exact .t7) Try.underlying9 rfl (m := q.length) rfl hxg) ?_
        refine WM.r rfl rfl rfl (Rd.ex fun v => ld rfl rfl (by first | exact .here | exact .t1 | exact .t2 | exact .t3 | exact .t4 | exact .t5 | exact .t6 | exact .t7) Try.underlying49 rfl (by rfl)) ?_
        refine WM.r rfl rfl rfl (Rd.ex fun v => rd_move rfl rfl) ?_
        refine WM.r rfl rfl rfl (Rd.ex fun v => rd_move rfl rfl) ?_
        first
          | (refine WM.r rfl rfl rfl (Rd.ex fun v => rd_sub64n rfl rfl rfl ?_) ?_; focus (omega))
          | (refine WM.r rfl rfl rfl (Rd.ex fun v => rd_sub64 rfl rfl rfl ?_) ?_; focus (omega))
        refine WM.r rfl rfl rfl (Rd.ex fun v => rd_move rfl rfl) ?_
        refine WM.r rfl rfl rfl (Rd.ex fun v => rd_move rfl rfl) ?_
        first
          | (refine WM.r rfl rfl rfl (Rd.ex fun v => rd_sub64n rfl rfl rfl ?_) ?_; focus (omega))
          | (refine WM.r rfl rfl rfl (Rd.ex fun v => rd_sub64 rfl rfl rfl ?_) ?_; focus (omega))
        refine WM.r rfl rfl rfl (Rd.ex fun v => rd_move rfl rfl) ?_
        refine WM.r rfl rfl rfl (Rd.ex fun v => rd_move rfl rfl) ?_
        refine WM.r rfl rfl rfl (Rd.ex fun v => rd_slt rfl rfl rfl Try.underlying22 (by kernel_rfl : _ = some 1) ?_ (by (try simp only [Int.toNat_natCast, Nat.mul_one, Nat.zero_add, Nat.add_zero, Nat.zero_mul, Int.reduceToNat, Nat.reduceAdd, Nat.reduceMul, Nat.reduceSub, Nat.sub_zero]); rfl)) ?_
        · omega
        refine WM.g rfl rfl rfl (og_callv rfl rfl rfl (by kernel_rfl) rfl (climb_use (ih q (by omega)) (by omega) (by omega) (by omega) (fun s h => hs s (by simp [h])) (by omega) rfl (by omega) hle (fun w hS => hst ▸ sl_take _ (hS.fact _ (by simp))))) (fun _ _ h => by first | exact h | exact ⟨_, h⟩ | exact ⟨_, h.2⟩ | exact h.2 | exact h.sub (by repeat (first | exact List.Sublist.refl _ | apply List.Sublist.cons)) (fun _ h => by simp [*]) | exact h.2.sub (by repeat (first | exact List.Sublist.refl _ | apply List.Sublist.cons)) (fun _ h => by simp [*])) ?_
        intro _
        refine WM.g rfl rfl rfl (og_call rfl rfl (by kernel_rfl) (keep_val fun w _ => nh_ok _ _ (by omega) (by rw [climb_len]; omega) w)) (fun _ _ h => by first | exact h | exact ⟨_, h⟩ | exact ⟨_, h.2⟩ | exact h.2 | exact h.sub (by repeat (first | exact List.Sublist.refl _ | apply List.Sublist.cons)) (fun _ h => by simp [*]) | exact h.2.sub (by repeat (first | exact List.Sublist.refl _ | apply List.Sublist.cons)) (fun _ h => by simp [*])) ?_
        intro _
        refine WM.r rfl rfl rfl (Rd.ex fun v => rd_assign rfl rfl) ?_
        refine WM.nil ?_
        refine WX.then_normal ?_
        refine WC.ret ?_
        exact WX.ret1 rfl rfl fun w' hS => ⟨(), by rw [hcl], by rw [hcl]; exact hS⟩
theorem climb_ok (p : List Bs) : ClimbOk p := by
  have key : ∀ n (p : List Bs), p.length = n → ClimbOk p := by
    intro n
    induction n using Nat.strongRecOn with
    | _ n ih => intro p hp; exact climb_step p fun q h => ih q.length (by omega) q rfl
  exact key _ p rfl

def inclB (rt : Bs) (n i : Int) (leaf : Bs) (p : List Bs) : Bool :=
  decide (0 ≤ i ∧ i < n) && ((climb (leafH leaf) n.toNat i.toNat p.reverse).2 && decide ((climb (leafH leaf) n.toNat i.toNat p.reverse).1 = rt))

theorem Included_ok (rt : Bs) (n i : Int) (leaf : Bs) (p : List Bs) (hn : n ≤ 2305843009213693952) (hle : leaf.length ≤ 900000) (hs : ∀ s ∈ p, s.length ≤ 300000) (hp : p.length ≤ 4611686018427387904) (a : Option Addr) (m cap : Nat) (hm : m = p.length) (hcap : m ≤ cap) (ok : Nat → Prop) (w : World) (hF : (Fact.sl a (strs p)).holds ok w) :
    Calls Try.prog 19 #[.string (S rt), .int .i64 n, .int .i64 i, .string (S leaf), .slice a m cap] w fun e w' => e = .returned (.bool (inclB rt n i leaf p)) ∧ Below w.heap.size w w' := by
  subst hm
  refine enter (S := St (fun _ => True) w [] [Fact.sl a (strs p)]) (L := [(0, .string (S rt)), (1, .int .i64 n), (2, .int .i64 i), (3, .string (S leaf)), (4, .slice a p.length cap)]) Try.func19 rfl Try.ntmps19 rfl (args_cons rfl (args_cons rfl (args_cons rfl (args_cons rfl (args_cons rfl (args_nil _)))))) (St.start (fun _ _ => trivial) (by simpa using sl_any hF)) ?_
  refine WC.seq ?_
  refine WC.region ?_
  refine WL.g rfl rfl rfl (og_box rfl rfl rfl) ?_
  intro b8
  refine WL.r rfl rfl rfl (rd_assign rfl rfl) ?_
  refine WL.nil ?_
  refine WX.then_normal ?_
  refine WC.seq ?_
  refine WC.seq ?_
  refine WC.region ?_
  refine WL.r rfl rfl rfl (rd_move rfl rfl) ?_
  refine WL.r rfl rfl rfl (rd_lss rfl rfl rfl) ?_
  refine WL.r rfl rfl rfl (rd_move rfl rfl) ?_
  refine WL.bool 16 rfl (fun hg16 => ?_) (fun hg16 => ?_)
  · (try simp only [decide_eq_true_eq, decide_eq_false_iff_not, Bool.not_eq_true', Bool.not_eq_false', Bool.not_not, Int.not_lt, Int.not_le] at hg16)
    refine WL.s rfl rfl rfl ?_
    refine WL.s rfl rfl rfl ?_
    refine WL.s rfl rfl rfl ?_
    refine WL.r rfl rfl rfl (rd_pickt rfl rfl rfl) ?_
    refine WL.nil ?_
    refine WX.then_normal ?_
    refine WC.cond rfl (fun _ => ?_) (fun h => by cases h)
    refine WC.seq ?_
    refine WC.region ?_
    refine WL.r rfl rfl rfl (rd_assign rfl rfl) ?_
    refine WL.nil ?_
    refine WX.then_normal ?_
    refine WC.ret ?_
    refine WX.then_ret ?_
    exact WX.ret1 rfl rfl fun w' hS => ⟨by rw [inclB, decide_eq_false (by omega), Bool.false_and], hS.below⟩
  · (try simp only [decide_eq_true_eq, decide_eq_false_iff_not, Bool.not_eq_true', Bool.not_eq_false', Bool.not_not, Int.not_lt, Int.not_le] at hg16)
    refine WL.r rfl rfl rfl (rd_move rfl rfl) ?_
    refine WL.r rfl rfl rfl (rd_move rfl rfl) ?_
    refine WL.r rfl rfl rfl (rd_geq rfl rfl rfl) ?_
    refine WL.r rfl rfl rfl (rd_pickf rfl rfl rfl) ?_
    refine WL.nil ?_
    refine WX.then_normal ?_
    refine WC.cond rfl (fun hc20 => ?_) (fun hc20 => ?_)
    · (try simp only [decide_eq_true_eq, decide_eq_false_iff_not, Bool.not_eq_true', Bool.not_eq_false', Bool.not_not, Int.not_lt, Int.not_le] at hc20)
      refine WC.seq ?_
      refine WC.region ?_
      refine WL.r rfl rfl rfl (rd_assign rfl rfl) ?_
      refine WL.nil ?_
      refine WX.then_normal ?_
      refine WC.ret ?_
      refine WX.then_ret ?_
      exact WX.ret1 rfl rfl fun w' hS => ⟨by rw [inclB, decide_eq_false (by omega), Bool.false_and], hS.below⟩
    · (try simp only [decide_eq_true_eq, decide_eq_false_iff_not, Bool.not_eq_true', Bool.not_eq_false', Bool.not_not, Int.not_lt, Int.not_le] at hc20)
      obtain ⟨j, rfl⟩ : ∃ j : Nat, i = j := ⟨i.toNat, by omega⟩
      obtain ⟨k, rfl⟩ : ∃ k : Nat, n = k := ⟨n.toNat, by omega⟩
      have hinc : inclB rt k j leaf p = ((climb (leafH leaf) k j p.reverse).2 && decide ((climb (leafH leaf) k j p.reverse).1 = rt)) := by rw [inclB, decide_eq_true (by omega), Bool.true_and, Int.toNat_natCast, Int.toNat_natCast]
      refine WC.skip ?_
      refine WX.then_normal ?_
      refine WC.seq ?_
      refine WC.region ?_
      refine WL.g rfl rfl rfl (og_alloc rfl (v := (.bool false)) (cs := [.bool false]) (by kernel_rfl) rfl) ?_
      intro b11
      refine WL.g0 rfl rfl (st rfl rfl rfl (by first | exact .here | exact .t1 | exact .t2 | exact .t3 | exact .t4 | exact .t5 | exact .t6 | exact .t7) (by kernel_rfl) rfl ?_ rfl) ?_
      · first | decide | (simp; done) | (simp; omega)
      intro _
      refine WL.nil ?_
      refine WX.then_normal ?_
      refine WC.seq ?_
      refine WC.region ?_
      refine WL.g rfl rfl rfl (og_alloc rfl (v := .nilFunc) (cs := [.nilFunc]) (by kernel_rfl) rfl) ?_
      intro b12
      refine WL.nil ?_
      refine WX.then_normal ?_
      refine WC.seq ?_
      refine WC.region ?_
      refine WL.r rfl rfl rfl (rd_mkf rfl rfl rfl) ?_
      refine WL.g0 rfl rfl (st rfl rfl rfl (by first | exact .here | exact .t1 | exact .t2 | exact .t3 | exact .t4 | exact .t5 | exact .t6 | exact .t7) (by kernel_rfl) rfl ?_ rfl) ?_
      · first | decide | (simp; done) | (simp; omega)
      intro _
      refine WL.nil ?_
      refine WX.then_normal ?_
      refine WC.seq ?_
      refine WC.region ?_
      refine WL.r rfl rfl rfl (ld rfl rfl (by first | exact .here | exact .t1 | exact .t2 | exact .t3 | exact .t4 | exact .t5 | exact .t6 | exact .t7) Try.underlying49 rfl (by rfl)) ?_
      refine WL.r rfl rfl rfl (rd_move rfl rfl) ?_
      refine WL.r rfl rfl rfl (rd_move rfl rfl) ?_
      refine WL.r rfl rfl rfl (rd_move rfl rfl) ?_
      refine WL.g rfl rfl rfl (og_callv rfl rfl rfl (by kernel_rfl) rfl (fun w hS => climb_ok p k j (by omega) (by omega) (by omega) hs hp _ _ _ rfl hcap _ _ b12 b11 b8 leaf true [] w hle hS)) ?_
      intro _; dsimp only [CL]; rw [Bool.true_and]
      refine WL.r rfl rfl rfl (rd_assign rfl rfl) ?_
      refine WL.nil ?_
      refine WX.then_normal ?_
      refine WC.seq ?_
      refine WC.region ?_
      refine WL.r rfl rfl rfl (ld rfl rfl (by first | exact .here | exact .t1 | exact .t2 | exact .t3 | exact .t4 | exact .t5 | exact .t6 | exact .t7) Try.underlying4 rfl (by rfl)) ?_
      refine WL.r rfl rfl rfl (rd_move rfl rfl) ?_
      refine WL.bool 28 rfl (fun hg28 => ?_) (fun hg28 => ?_)
      · (try simp only [decide_eq_true_eq, decide_eq_false_iff_not, Bool.not_eq_true', Bool.not_eq_false', Bool.not_not, Int.not_lt, Int.not_le] at hg28)
        refine WL.r rfl rfl rfl (rd_move rfl rfl) ?_
        refine WL.r rfl rfl rfl (rd_move rfl rfl) ?_
        refine WL.r rfl rfl rfl (rd_seq rfl rfl rfl) ?_
        refine WL.r rfl rfl rfl (rd_pickt rfl rfl rfl) ?_
        refine WL.r rfl rfl rfl (rd_assign rfl rfl) ?_
        refine WL.nil ?_
        refine WX.then_normal ?_
        refine WC.ret ?_
        exact WX.ret1 rfl rfl fun w' hS => ⟨by rw [hinc, hg28]; rfl, hS.below⟩
      · (try simp only [decide_eq_true_eq, decide_eq_false_iff_not, Bool.not_eq_true', Bool.not_eq_false', Bool.not_not, Int.not_lt, Int.not_le] at hg28)
        refine WL.s rfl rfl rfl ?_
        refine WL.s rfl rfl rfl ?_
        refine WL.s rfl rfl rfl ?_
        refine WL.r rfl rfl rfl (rd_pickf rfl rfl rfl) ?_
        refine WL.r rfl rfl rfl (rd_assign rfl rfl) ?_
        refine WL.nil ?_
        refine WX.then_normal ?_
        refine WC.ret ?_
        exact WX.ret1 rfl rfl fun w' hS => ⟨by rw [hinc, hg28]; rfl, hS.below⟩
end Go.Proofs.Ytenjafedpcpoaaa
