/-
  The contracts of the hash trees in the form that later walks use; MerkleIncludes, MerkleAccepts, MerkleSplits.
-/
import Derived.Test.YtenjafedpcpoaaaMer7
import Derived.Test.YtenjafedpcpoaaaMer8
import Derived.Test.YtenjafedpcpoaaaNew
namespace Go.Proofs.Ytenjafedpcpoaaa
set_option linter.unusedSimpArgs false
set_option linter.unusedVariables false
open Go.RowKit

theorem path_small (l : List Bs) (i : Nat) (hl : l.length ≤ 1000000) : ∀ s ∈ path l i, s.length ≤ 300000 := by
  have key : ∀ n (l : List Bs) i, l.length = n → l.length ≤ 1000000 → ∀ s ∈ path l i, s.length ≤ 300000 := by
    intro n
    induction n using Nat.strongRecOn with
    | _ n ih =>
      intro l i hn hl s hs
      by_cases h1 : l.length ≤ 1
      · rw [path_one l i h1] at hs; simp at hs
      have hh := half_spec l.length (by omega) (by omega)
      by_cases hi : i < half l.length
      · rw [path_lt l i (by omega) hl hi] at hs
        rcases List.mem_append.1 hs with hs | hs
        · exact ih (l.take (half l.length)).length (by simp; omega) (l.take (half l.length)) i rfl (by simp; omega) s hs
        · simp only [List.mem_singleton] at hs; subst hs; rw [root_len _ (by simp; omega)]; omega
      · rw [path_ge l i (by omega) hl (by omega)] at hs
        rcases List.mem_append.1 hs with hs | hs
        · exact ih (l.drop (half l.length)).length (by simp; omega) (l.drop (half l.length)) _ rfl (by simp; omega) s hs
        · simp only [List.mem_singleton] at hs; subst hs; rw [root_len _ (by simp; omega)]; omega
  exact key _ l i rfl hl
theorem few_le {l : List Bs} (h : few l) : l.length ≤ 40 ∧ (∀ s ∈ l, s.length ≤ 900000) ∧ ∀ s ∈ l, s.length ≤ 300000 := ⟨h.1, fun s hs => Nat.le_trans (h.2 s hs) (by decide), fun s hs => Nat.le_trans (h.2 s hs) (by decide)⟩
theorem rs_of {P : Program} {f : FuncId} {args : Array Value} {w : World} {val : GS → Value} {val' : Rs → Value} {n : Nat} {l : List Bs} (hv : ∀ g : GS, val g = val' ⟨g.ob, g.cap, g.sp⟩) (h : Calls P f args w fun e w' => ∃ g : GS, e = .returned (val g) ∧ g.cap = n + g.sp.length ∧ St (fun _ => True) w [g.ent l] [] w') :
    Calls P f args w fun e w' => ∃ g : Rs, e = .returned (val' g) ∧ g.cap = n + g.sp.length ∧ St (fun _ => True) w [g.ent (strs l) 9] [] w' :=
  h.mono fun _ _ ⟨g, h1, h2, h3⟩ => ⟨⟨g.ob, g.cap, g.sp⟩, by rw [h1, hv], h2, h3⟩
theorem strs_one (l : List Bs) : ∀ u ∈ strs l, u.oneCell' = true := fun u hu => by obtain ⟨s, _, rfl⟩ := List.mem_map.1 hu; rfl

theorem sum_c {s : Bs} {w : World} (hs : s.length ≤ 1000000) :
    Calls Try.prog 22 #[.string (S s)] w fun e w' => e = .returned (.string (S (sha s))) ∧ Below w.heap.size w w' :=
  sum_ok s hs w
theorem awake34_c {w : World} :
    Calls Try.prog 11 #[] w fun e w' => e = .returned (.bool true) ∧ Below w.heap.size w w' :=
  awake_ok w
theorem root_c {l : List Bs} {a : Option Addr} {m cap : Nat} {w : World} {ok : Nat → Prop} (hF1 : (Fact.sl a (strs l)).holds ok w) (hl : l.length ≤ 1000000) (hs : ∀ s ∈ l, s.length ≤ 900000) (hm : m = l.length) (hcap : m ≤ cap) :
    Calls Try.prog 12 #[.slice a m cap] w fun e w' => e = .returned (.string (S (root l))) ∧ Below w.heap.size w w' :=
  root_ok l hl hs a m cap hm hcap ok w hF1
theorem path_c {l : List Bs} {i : Int} {a : Option Addr} {m cap : Nat} {w : World} {ok : Nat → Prop} (hF1 : (Fact.sl a (strs l)).holds ok w) (hl : l.length ≤ 1000000) (hs : ∀ s ∈ l, s.length ≤ 900000) (hm : m = l.length) (hcap : m ≤ cap) :
    Calls Try.prog 14 #[.slice a m cap, .int .i64 i] w fun e w' => ∃ g : Rs, e = .returned (.tuple #[g.val (pathR l i).1.length, .int .i64 (pathR l i).2]) ∧ g.cap = (pathR l i).1.length + g.sp.length ∧ St (fun _ => True) w [g.ent (strs (pathR l i).1) 9] [] w' :=
  rs_of (val := fun g => .tuple #[g.val (pathR l i).1.length, .int .i64 (pathR l i).2]) (fun _ => rfl) (Path_ok l i hl hs a m cap hm hcap ok w hF1)
theorem betw_c {l : List Bs} {i : Int} {a : Option Addr} {m cap : Nat} {w : World} {ok : Nat → Prop} (hF1 : (Fact.sl a (strs l)).holds ok w) (hl : l.length ≤ 1000000) (hs : ∀ s ∈ l, s.length ≤ 900000) (hm : m = l.length) (hcap : m ≤ cap) :
    Calls Try.prog 16 #[.slice a m cap, .int .i64 i] w fun e w' => ∃ g : Rs, e = .returned (.tuple #[g.val (betwR l i).1.length, .int .i64 (betwR l i).2]) ∧ g.cap = (betwR l i).1.length + g.sp.length ∧ St (fun _ => True) w [g.ent (strs (betwR l i).1) 9] [] w' :=
  rs_of (val := fun g => .tuple #[g.val (betwR l i).1.length, .int .i64 (betwR l i).2]) (fun _ => rfl) (Between_ok l i hl hs a m cap hm hcap ok w hF1)
theorem few34_c {l : List Bs} {a : Option Addr} {m cap : Nat} {w : World} {ok : Nat → Prop} (hF1 : (Fact.sl a (strs l)).holds ok w) (hm : m = l.length) :
    Calls Try.prog 10 #[.slice a m cap] w fun e w' => e = .returned (.bool (decide (few l))) ∧ Below w.heap.size w w' :=
  by subst hm; exact few_ok l a cap ok w hF1
theorem incl_c {rt : Bs} {n i : Int} {leaf : Bs} {p : List Bs} {a : Option Addr} {m cap : Nat} {w : World} {ok : Nat → Prop} (hF1 : (Fact.sl a (strs p)).holds ok w) (hn : n ≤ 2305843009213693952) (hle : leaf.length ≤ 900000) (hs : ∀ s ∈ p, s.length ≤ 300000) (hp : p.length ≤ 4611686018427387904) (hm : m = p.length) (hcap : m ≤ cap) :
    Calls Try.prog 19 #[.string (S rt), .int .i64 n, .int .i64 i, .string (S leaf), .slice a m cap] w fun e w' => e = .returned (.bool (inclB rt n i leaf p)) ∧ Below w.heap.size w w' :=
  Included_ok rt n i leaf p hn hle hs hp a m cap hm hcap ok w hF1
theorem rincl_c {rt : Bs} {n i : Int} {leaf : Bs} {p : List Bs} {a : Option Addr} {m cap : Nat} {w : World} {ok : Nat → Prop} (hF1 : (Fact.sl a (strs p)).holds ok w) (hn : n ≤ 2305843009213693952) (hle : leaf.length ≤ 900000) (hs : ∀ s ∈ p, s.length ≤ 300000) (hp : p.length ≤ 62) (hm : m = p.length) (hcap : m ≤ cap) :
    Calls Try.prog 20 #[.string (S rt), .int .i64 n, .int .i64 i, .string (S leaf), .slice a m cap] w fun e w' => e = .returned (.bool (inclB rt n i leaf p)) ∧ Below w.heap.size w w' :=
  rIncluded_ok rt n i leaf p hn hle hs hp a m cap hm hcap ok w hF1

theorem includes_c {rt leaf : Bs} {n i : Int} {p : List Bs} {a : Option Addr} {cap : Nat} {w : World} {ok : Nat → Prop} (hF1 : (Fact.sl a (strs p)).holds ok w) (hcap : p.length ≤ cap) :
    Calls Try.prog 5 #[.agg #[.string (S rt), .int .i64 n, .int .i64 i, .string (S leaf), .slice a p.length cap]] w fun e w' => e = .returned (.bool true) ∧ Below w.heap.size w w' := by
  refine enter (S := St (fun _ => True) w [] [Fact.sl a (strs p)]) (L := [(0, .agg #[.string (S rt), .int .i64 n, .int .i64 i, .string (S leaf), .slice a p.length cap])]) Try.func5 rfl Try.ntmps5 rfl (args_cons rfl (args_nil _)) (St.start (fun _ _ => trivial) (facts_cons (fact_any hF1) facts_nil)) ?_
  refine WC.sr ?_
  refine WL.g rfl rfl rfl (og_box rfl rfl rfl) ?_
  intro b1
  refine WL.r rfl rfl rfl (rd_assign rfl rfl) ?_
  refine WL.nt ?_
  refine WC.seq ?_
  refine WC.sr ?_
  first
    | (refine WL.r rfl rfl rfl (rd_fa rfl rfl Try.underlying34 rfl (by kernel_rfl) (by (try simp only [Int.toNat_natCast, Nat.mul_one, Nat.zero_add, Nat.add_zero, Nat.zero_mul, Int.reduceToNat, Nat.reduceAdd, Nat.reduceMul, Nat.reduceSub, Nat.sub_zero]); rfl)) ?_)
    | (refine WL.r rfl rfl rfl (faf rfl rfl Try.underlying34 rfl (by kernel_rfl) (by (try simp only [Int.toNat_natCast, Nat.mul_one, Nat.zero_add, Nat.add_zero, Nat.zero_mul, Int.reduceToNat, Nat.reduceAdd, Nat.reduceMul, Nat.reduceSub, Nat.sub_zero]); rfl)) ?_)
  first
    | (refine WL.r rfl rfl rfl (ld rfl rfl .tc Try.underlying22 rfl (by rfl)) ?_)
    | (refine WL.r rfl rfl rfl (ldm rfl rfl Try.underlying22 rfl ?_) ?_; (focus (first | assumption | omega | (simp <;> omega) | (simp; done))))
    | (refine WL.r rfl rfl rfl (ldom rfl rfl Try.underlying22 rfl ?_) ?_; (focus (first | assumption | omega | (simp <;> omega) | (simp; done))))
  refine WL.g rfl rfl rfl (og_call rfl rfl (by kernel_rfl) (keep_val fun w hS => few34_c (by first | exact hS.sl | exact hS.os | exact hS.oc | exact sl_takeM _ hS.sl | exact sl_dropM _ hS.sl | exact sl_cutM _ (by omega) hS.sl | exact sl_nil) (by first | assumption | omega | (simp <;> omega) | (simp; done)))) ?_
  intro _
  refine WL.r rfl rfl rfl (rd_not rfl rfl) ?_
  refine WL.r rfl rfl rfl (rd_move rfl rfl) ?_
  refine WL.bool 7 rfl (fun hg7 => ?_) (fun hg7 => ?_)
  · (try simp only [decide_eq_true_eq, decide_eq_false_iff_not, Bool.not_eq_true', Bool.not_eq_false', Bool.not_not, Int.not_lt, Int.not_le] at hg7)
    refine WL.s rfl rfl rfl ?_
    refine WL.s rfl rfl rfl ?_
    refine WL.s rfl rfl rfl ?_
    refine WL.s rfl rfl rfl ?_
    refine WL.r rfl rfl rfl (rd_pickt rfl rfl rfl) ?_
    refine WL.r rfl rfl rfl (rd_move rfl rfl) ?_
    refine WL.s rfl rfl rfl ?_
    refine WL.s rfl rfl rfl ?_
    refine WL.s rfl rfl rfl ?_
    refine WL.r rfl rfl rfl (rd_pickt rfl rfl rfl) ?_
    refine WL.nt ?_
    refine WC.cond rfl (fun _ => ?_) (fun h => by cases h)
    refine WC.sr ?_
    refine WL.g rfl rfl rfl (og_call rfl rfl (by kernel_rfl) (keep_val fun w hS => awake34_c)) ?_
    intro _
    refine WL.r rfl rfl rfl (rd_assign rfl rfl) ?_
    refine WL.nt ?_
    refine WC.ret ?_
    refine WX.then_ret ?_
    exact WX.retN rfl (.tmp rfl .nil) fun w' hS => ⟨by first | rfl | (simp [*]; done), hS.below⟩
  · (try simp only [decide_eq_true_eq, decide_eq_false_iff_not, Bool.not_eq_true', Bool.not_eq_false', Bool.not_not, Int.not_lt, Int.not_le] at hg7)
    first
      | (refine WL.r rfl rfl rfl (rd_fa rfl rfl Try.underlying34 rfl (by kernel_rfl) (by (try simp only [Int.toNat_natCast, Nat.mul_one, Nat.zero_add, Nat.add_zero, Nat.zero_mul, Int.reduceToNat, Nat.reduceAdd, Nat.reduceMul, Nat.reduceSub, Nat.sub_zero]); rfl)) ?_)
      | (refine WL.r rfl rfl rfl (faf rfl rfl Try.underlying34 rfl (by kernel_rfl) (by (try simp only [Int.toNat_natCast, Nat.mul_one, Nat.zero_add, Nat.add_zero, Nat.zero_mul, Int.reduceToNat, Nat.reduceAdd, Nat.reduceMul, Nat.reduceSub, Nat.sub_zero]); rfl)) ?_)
    first
      | (refine WL.r rfl rfl rfl (ld rfl rfl .tc Try.underlying9 rfl (by rfl)) ?_)
      | (refine WL.r rfl rfl rfl (ldm rfl rfl Try.underlying9 rfl ?_) ?_; (focus (first | assumption | omega | (simp <;> omega) | (simp; done))))
      | (refine WL.r rfl rfl rfl (ldom rfl rfl Try.underlying9 rfl ?_) ?_; (focus (first | assumption | omega | (simp <;> omega) | (simp; done))))
    refine WL.r rfl rfl rfl (rd_slen rfl rfl Try.underlying9) ?_
    refine WL.r rfl rfl rfl (rd_gtr rfl rfl rfl) ?_
    refine WL.r rfl rfl rfl (rd_pickf rfl rfl rfl) ?_
    refine WL.r rfl rfl rfl (rd_move rfl rfl) ?_
    refine WL.bool 13 rfl (fun hg13 => ?_) (fun hg13 => ?_)
    · (try simp only [decide_eq_true_eq, decide_eq_false_iff_not, Bool.not_eq_true', Bool.not_eq_false', Bool.not_not, Int.not_lt, Int.not_le] at hg13)
      refine WL.s rfl rfl rfl ?_
      refine WL.s rfl rfl rfl ?_
      refine WL.s rfl rfl rfl ?_
      refine WL.r rfl rfl rfl (rd_pickt rfl rfl rfl) ?_
      refine WL.nt ?_
      refine WC.cond rfl (fun _ => ?_) (fun h => by cases h)
      refine WC.sr ?_
      refine WL.g rfl rfl rfl (og_call rfl rfl (by kernel_rfl) (keep_val fun w hS => awake34_c)) ?_
      intro _
      refine WL.r rfl rfl rfl (rd_assign rfl rfl) ?_
      refine WL.nt ?_
      refine WC.ret ?_
      refine WX.then_ret ?_
      exact WX.retN rfl (.tmp rfl .nil) fun w' hS => ⟨by first | rfl | (simp [*]; done), hS.below⟩
    · (try simp only [decide_eq_true_eq, decide_eq_false_iff_not, Bool.not_eq_true', Bool.not_eq_false', Bool.not_not, Int.not_lt, Int.not_le] at hg13)
      first
        | (refine WL.r rfl rfl rfl (rd_fa rfl rfl Try.underlying34 rfl (by kernel_rfl) (by (try simp only [Int.toNat_natCast, Nat.mul_one, Nat.zero_add, Nat.add_zero, Nat.zero_mul, Int.reduceToNat, Nat.reduceAdd, Nat.reduceMul, Nat.reduceSub, Nat.sub_zero]); rfl)) ?_)
        | (refine WL.r rfl rfl rfl (faf rfl rfl Try.underlying34 rfl (by kernel_rfl) (by (try simp only [Int.toNat_natCast, Nat.mul_one, Nat.zero_add, Nat.add_zero, Nat.zero_mul, Int.reduceToNat, Nat.reduceAdd, Nat.reduceMul, Nat.reduceSub, Nat.sub_zero]); rfl)) ?_)
      first
        | (refine WL.r rfl rfl rfl (ld rfl rfl .tc Try.underlying3 rfl (by rfl)) ?_)
        | (refine WL.r rfl rfl rfl (ldm rfl rfl Try.underlying3 rfl ?_) ?_; (focus (first | assumption | omega | (simp <;> omega) | (simp; done))))
        | (refine WL.r rfl rfl rfl (ldom rfl rfl Try.underlying3 rfl ?_) ?_; (focus (first | assumption | omega | (simp <;> omega) | (simp; done))))
      refine WL.r rfl rfl rfl (rd_gtr rfl rfl rfl) ?_
      refine WL.r rfl rfl rfl (rd_pickf rfl rfl rfl) ?_
      refine WL.nt ?_
      refine WC.cond rfl (fun hc17 => ?_) (fun hc17 => ?_)
      · (try simp only [decide_eq_true_eq, decide_eq_false_iff_not, Bool.not_eq_true', Bool.not_eq_false', Bool.not_not, Int.not_lt, Int.not_le] at hc17)
        refine WC.sr ?_
        refine WL.g rfl rfl rfl (og_call rfl rfl (by kernel_rfl) (keep_val fun w hS => awake34_c)) ?_
        intro _
        refine WL.r rfl rfl rfl (rd_assign rfl rfl) ?_
        refine WL.nt ?_
        refine WC.ret ?_
        refine WX.then_ret ?_
        exact WX.retN rfl (.tmp rfl .nil) fun w' hS => ⟨by first | rfl | (simp [*]; done), hS.below⟩
      · (try simp only [decide_eq_true_eq, decide_eq_false_iff_not, Bool.not_eq_true', Bool.not_eq_false', Bool.not_not, Int.not_lt, Int.not_le] at hc17)
        obtain ⟨hl, -, hs⟩ := few_le (l := p) (by simpa using hg7)
        refine WC.skip ?_
        refine WX.then_normal ?_
        refine WC.seq ?_
        refine WC.free0 [0, 1, 2, 3, 4, 5, 6, 7, 8, 9, 10, 11, 12, 13, 14, 15, 16, 17, 18, 19, 20, 21, 22, 23, 24, 25, 26] [] [1, 0, 0, 0, 0, 0, 0, 0, 0, 0, 0, 0, 1, 0, 0, 0, 0, 0, 0, 0, 0, 0, 0, 1, 0, 0, 0] (by kernel_rfl) (by kernel_rfl) rfl ?_
        refine WJ.gv rfl rfl rfl rfl rfl (fun ext => og_call rfl rfl (by kernel_rfl) (keep_val fun w hS => awake34_c)) ?_
        refine WJ.set 19 rfl (v' := .bool true) (by rfl) ?_
        refine WJ.r rfl rfl rfl rfl rfl (rd_move rfl rfl) ?_
        first
          | (refine WJ.r rfl rfl rfl rfl rfl (rd_fa rfl rfl Try.underlying34 rfl (by kernel_rfl) (by (try simp only [Int.toNat_natCast, Nat.mul_one, Nat.zero_add, Nat.add_zero, Nat.zero_mul, Int.reduceToNat, Nat.reduceAdd, Nat.reduceMul, Nat.reduceSub, Nat.sub_zero]); rfl)) ?_)
          | (refine WJ.r rfl rfl rfl rfl rfl (faf rfl rfl Try.underlying34 rfl (by kernel_rfl) (by (try simp only [Int.toNat_natCast, Nat.mul_one, Nat.zero_add, Nat.add_zero, Nat.zero_mul, Int.reduceToNat, Nat.reduceAdd, Nat.reduceMul, Nat.reduceSub, Nat.sub_zero]); rfl)) ?_)
        first
          | (refine WJ.r rfl rfl rfl rfl rfl (ld rfl rfl .tc Try.underlying9 rfl (by rfl)) ?_)
          | (refine WJ.r rfl rfl rfl rfl rfl (ldm rfl rfl Try.underlying9 rfl ?_) ?_; (focus (first | assumption | omega | (simp <;> omega) | (simp; done))))
          | (refine WJ.r rfl rfl rfl rfl rfl (ldom rfl rfl Try.underlying9 rfl ?_) ?_; (focus (first | assumption | omega | (simp <;> omega) | (simp; done))))
        first
          | (refine WJ.r rfl rfl rfl rfl rfl (rd_fa rfl rfl Try.underlying34 rfl (by kernel_rfl) (by (try simp only [Int.toNat_natCast, Nat.mul_one, Nat.zero_add, Nat.add_zero, Nat.zero_mul, Int.reduceToNat, Nat.reduceAdd, Nat.reduceMul, Nat.reduceSub, Nat.sub_zero]); rfl)) ?_)
          | (refine WJ.r rfl rfl rfl rfl rfl (faf rfl rfl Try.underlying34 rfl (by kernel_rfl) (by (try simp only [Int.toNat_natCast, Nat.mul_one, Nat.zero_add, Nat.add_zero, Nat.zero_mul, Int.reduceToNat, Nat.reduceAdd, Nat.reduceMul, Nat.reduceSub, Nat.sub_zero]); rfl)) ?_)
        first
          | (refine WJ.r rfl rfl rfl rfl rfl (ld rfl rfl .tc Try.underlying3 rfl (by rfl)) ?_)
          | (refine WJ.r rfl rfl rfl rfl rfl (ldm rfl rfl Try.underlying3 rfl ?_) ?_; (focus (first | assumption | omega | (simp <;> omega) | (simp; done))))
          | (refine WJ.r rfl rfl rfl rfl rfl (ldom rfl rfl Try.underlying3 rfl ?_) ?_; (focus (first | assumption | omega | (simp <;> omega) | (simp; done))))
        first
          | (refine WJ.r rfl rfl rfl rfl rfl (rd_fa rfl rfl Try.underlying34 rfl (by kernel_rfl) (by (try simp only [Int.toNat_natCast, Nat.mul_one, Nat.zero_add, Nat.add_zero, Nat.zero_mul, Int.reduceToNat, Nat.reduceAdd, Nat.reduceMul, Nat.reduceSub, Nat.sub_zero]); rfl)) ?_)
          | (refine WJ.r rfl rfl rfl rfl rfl (faf rfl rfl Try.underlying34 rfl (by kernel_rfl) (by (try simp only [Int.toNat_natCast, Nat.mul_one, Nat.zero_add, Nat.add_zero, Nat.zero_mul, Int.reduceToNat, Nat.reduceAdd, Nat.reduceMul, Nat.reduceSub, Nat.sub_zero]); rfl)) ?_)
        first
          | (refine WJ.r rfl rfl rfl rfl rfl (ld rfl rfl .tc Try.underlying3 rfl (by rfl)) ?_)
          | (refine WJ.r rfl rfl rfl rfl rfl (ldm rfl rfl Try.underlying3 rfl ?_) ?_; (focus (first | assumption | omega | (simp <;> omega) | (simp; done))))
          | (refine WJ.r rfl rfl rfl rfl rfl (ldom rfl rfl Try.underlying3 rfl ?_) ?_; (focus (first | assumption | omega | (simp <;> omega) | (simp; done))))
        first
          | (refine WJ.r rfl rfl rfl rfl rfl (rd_fa rfl rfl Try.underlying34 rfl (by kernel_rfl) (by (try simp only [Int.toNat_natCast, Nat.mul_one, Nat.zero_add, Nat.add_zero, Nat.zero_mul, Int.reduceToNat, Nat.reduceAdd, Nat.reduceMul, Nat.reduceSub, Nat.sub_zero]); rfl)) ?_)
          | (refine WJ.r rfl rfl rfl rfl rfl (faf rfl rfl Try.underlying34 rfl (by kernel_rfl) (by (try simp only [Int.toNat_natCast, Nat.mul_one, Nat.zero_add, Nat.add_zero, Nat.zero_mul, Int.reduceToNat, Nat.reduceAdd, Nat.reduceMul, Nat.reduceSub, Nat.sub_zero]); rfl)) ?_)
        first
          | (refine WJ.r rfl rfl rfl rfl rfl (ld rfl rfl .tc Try.underlying9 rfl (by rfl)) ?_)
          | (refine WJ.r rfl rfl rfl rfl rfl (ldm rfl rfl Try.underlying9 rfl ?_) ?_; (focus (first | assumption | omega | (simp <;> omega) | (simp; done))))
          | (refine WJ.r rfl rfl rfl rfl rfl (ldom rfl rfl Try.underlying9 rfl ?_) ?_; (focus (first | assumption | omega | (simp <;> omega) | (simp; done))))
        first
          | (refine WJ.r rfl rfl rfl rfl rfl (rd_fa rfl rfl Try.underlying34 rfl (by kernel_rfl) (by (try simp only [Int.toNat_natCast, Nat.mul_one, Nat.zero_add, Nat.add_zero, Nat.zero_mul, Int.reduceToNat, Nat.reduceAdd, Nat.reduceMul, Nat.reduceSub, Nat.sub_zero]); rfl)) ?_)
          | (refine WJ.r rfl rfl rfl rfl rfl (faf rfl rfl Try.underlying34 rfl (by kernel_rfl) (by (try simp only [Int.toNat_natCast, Nat.mul_one, Nat.zero_add, Nat.add_zero, Nat.zero_mul, Int.reduceToNat, Nat.reduceAdd, Nat.reduceMul, Nat.reduceSub, Nat.sub_zero]); rfl)) ?_)
        first
          | (refine WJ.r rfl rfl rfl rfl rfl (ld rfl rfl .tc Try.underlying22 rfl (by rfl)) ?_)
          | (refine WJ.r rfl rfl rfl rfl rfl (ldm rfl rfl Try.underlying22 rfl ?_) ?_; (focus (first | assumption | omega | (simp <;> omega) | (simp; done))))
          | (refine WJ.r rfl rfl rfl rfl rfl (ldom rfl rfl Try.underlying22 rfl ?_) ?_; (focus (first | assumption | omega | (simp <;> omega) | (simp; done))))
        refine WJ.gv rfl rfl rfl rfl rfl (fun ext => og_call rfl rfl (by kernel_rfl) (keep_val fun w hS => incl_c (by first | exact hS.sl | exact hS.os | exact hS.oc | exact sl_takeM _ hS.sl | exact sl_dropM _ hS.sl | exact sl_cutM _ (by omega) hS.sl | exact sl_nil) (by first | assumption | omega | (simp <;> omega) | (simp; done)) (by first | assumption | omega | (simp <;> omega) | (simp; done)) (by first | assumption | omega | (simp <;> omega) | (simp; done)) (by first | assumption | omega | (simp <;> omega) | (simp; done)) (by first | assumption | omega | (simp <;> omega) | (simp; done)) (by first | assumption | omega | (simp <;> omega) | (simp; done)))) ?_
        first
          | (refine WJ.r rfl rfl rfl rfl rfl (rd_fa rfl rfl Try.underlying34 rfl (by kernel_rfl) (by (try simp only [Int.toNat_natCast, Nat.mul_one, Nat.zero_add, Nat.add_zero, Nat.zero_mul, Int.reduceToNat, Nat.reduceAdd, Nat.reduceMul, Nat.reduceSub, Nat.sub_zero]); rfl)) ?_)
          | (refine WJ.r rfl rfl rfl rfl rfl (faf rfl rfl Try.underlying34 rfl (by kernel_rfl) (by (try simp only [Int.toNat_natCast, Nat.mul_one, Nat.zero_add, Nat.add_zero, Nat.zero_mul, Int.reduceToNat, Nat.reduceAdd, Nat.reduceMul, Nat.reduceSub, Nat.sub_zero]); rfl)) ?_)
        first
          | (refine WJ.r rfl rfl rfl rfl rfl (ld rfl rfl .tc Try.underlying9 rfl (by rfl)) ?_)
          | (refine WJ.r rfl rfl rfl rfl rfl (ldm rfl rfl Try.underlying9 rfl ?_) ?_; (focus (first | assumption | omega | (simp <;> omega) | (simp; done))))
          | (refine WJ.r rfl rfl rfl rfl rfl (ldom rfl rfl Try.underlying9 rfl ?_) ?_; (focus (first | assumption | omega | (simp <;> omega) | (simp; done))))
        first
          | (refine WJ.r rfl rfl rfl rfl rfl (rd_fa rfl rfl Try.underlying34 rfl (by kernel_rfl) (by (try simp only [Int.toNat_natCast, Nat.mul_one, Nat.zero_add, Nat.add_zero, Nat.zero_mul, Int.reduceToNat, Nat.reduceAdd, Nat.reduceMul, Nat.reduceSub, Nat.sub_zero]); rfl)) ?_)
          | (refine WJ.r rfl rfl rfl rfl rfl (faf rfl rfl Try.underlying34 rfl (by kernel_rfl) (by (try simp only [Int.toNat_natCast, Nat.mul_one, Nat.zero_add, Nat.add_zero, Nat.zero_mul, Int.reduceToNat, Nat.reduceAdd, Nat.reduceMul, Nat.reduceSub, Nat.sub_zero]); rfl)) ?_)
        first
          | (refine WJ.r rfl rfl rfl rfl rfl (ld rfl rfl .tc Try.underlying3 rfl (by rfl)) ?_)
          | (refine WJ.r rfl rfl rfl rfl rfl (ldm rfl rfl Try.underlying3 rfl ?_) ?_; (focus (first | assumption | omega | (simp <;> omega) | (simp; done))))
          | (refine WJ.r rfl rfl rfl rfl rfl (ldom rfl rfl Try.underlying3 rfl ?_) ?_; (focus (first | assumption | omega | (simp <;> omega) | (simp; done))))
        first
          | (refine WJ.r rfl rfl rfl rfl rfl (rd_fa rfl rfl Try.underlying34 rfl (by kernel_rfl) (by (try simp only [Int.toNat_natCast, Nat.mul_one, Nat.zero_add, Nat.add_zero, Nat.zero_mul, Int.reduceToNat, Nat.reduceAdd, Nat.reduceMul, Nat.reduceSub, Nat.sub_zero]); rfl)) ?_)
          | (refine WJ.r rfl rfl rfl rfl rfl (faf rfl rfl Try.underlying34 rfl (by kernel_rfl) (by (try simp only [Int.toNat_natCast, Nat.mul_one, Nat.zero_add, Nat.add_zero, Nat.zero_mul, Int.reduceToNat, Nat.reduceAdd, Nat.reduceMul, Nat.reduceSub, Nat.sub_zero]); rfl)) ?_)
        first
          | (refine WJ.r rfl rfl rfl rfl rfl (ld rfl rfl .tc Try.underlying3 rfl (by rfl)) ?_)
          | (refine WJ.r rfl rfl rfl rfl rfl (ldm rfl rfl Try.underlying3 rfl ?_) ?_; (focus (first | assumption | omega | (simp <;> omega) | (simp; done))))
          | (refine WJ.r rfl rfl rfl rfl rfl (ldom rfl rfl Try.underlying3 rfl ?_) ?_; (focus (first | assumption | omega | (simp <;> omega) | (simp; done))))
        first
          | (refine WJ.r rfl rfl rfl rfl rfl (rd_fa rfl rfl Try.underlying34 rfl (by kernel_rfl) (by (try simp only [Int.toNat_natCast, Nat.mul_one, Nat.zero_add, Nat.add_zero, Nat.zero_mul, Int.reduceToNat, Nat.reduceAdd, Nat.reduceMul, Nat.reduceSub, Nat.sub_zero]); rfl)) ?_)
          | (refine WJ.r rfl rfl rfl rfl rfl (faf rfl rfl Try.underlying34 rfl (by kernel_rfl) (by (try simp only [Int.toNat_natCast, Nat.mul_one, Nat.zero_add, Nat.add_zero, Nat.zero_mul, Int.reduceToNat, Nat.reduceAdd, Nat.reduceMul, Nat.reduceSub, Nat.sub_zero]); rfl)) ?_)
        first
          | (refine WJ.r rfl rfl rfl rfl rfl (ld rfl rfl .tc Try.underlying9 rfl (by rfl)) ?_)
          | (refine WJ.r rfl rfl rfl rfl rfl (ldm rfl rfl Try.underlying9 rfl ?_) ?_; (focus (first | assumption | omega | (simp <;> omega) | (simp; done))))
          | (refine WJ.r rfl rfl rfl rfl rfl (ldom rfl rfl Try.underlying9 rfl ?_) ?_; (focus (first | assumption | omega | (simp <;> omega) | (simp; done))))
        first
          | (refine WJ.r rfl rfl rfl rfl rfl (rd_fa rfl rfl Try.underlying34 rfl (by kernel_rfl) (by (try simp only [Int.toNat_natCast, Nat.mul_one, Nat.zero_add, Nat.add_zero, Nat.zero_mul, Int.reduceToNat, Nat.reduceAdd, Nat.reduceMul, Nat.reduceSub, Nat.sub_zero]); rfl)) ?_)
          | (refine WJ.r rfl rfl rfl rfl rfl (faf rfl rfl Try.underlying34 rfl (by kernel_rfl) (by (try simp only [Int.toNat_natCast, Nat.mul_one, Nat.zero_add, Nat.add_zero, Nat.zero_mul, Int.reduceToNat, Nat.reduceAdd, Nat.reduceMul, Nat.reduceSub, Nat.sub_zero]); rfl)) ?_)
        first
          | (refine WJ.r rfl rfl rfl rfl rfl (ld rfl rfl .tc Try.underlying22 rfl (by rfl)) ?_)
          | (refine WJ.r rfl rfl rfl rfl rfl (ldm rfl rfl Try.underlying22 rfl ?_) ?_; (focus (first | assumption | omega | (simp <;> omega) | (simp; done))))
          | (refine WJ.r rfl rfl rfl rfl rfl (ldom rfl rfl Try.underlying22 rfl ?_) ?_; (focus (first | assumption | omega | (simp <;> omega) | (simp; done))))
        refine WJ.gv rfl rfl rfl rfl rfl (fun ext => og_call rfl rfl (by kernel_rfl) (keep_val fun w hS => rincl_c (by first | exact hS.sl | exact hS.os | exact hS.oc | exact sl_takeM _ hS.sl | exact sl_dropM _ hS.sl | exact sl_cutM _ (by omega) hS.sl | exact sl_nil) (by first | assumption | omega | (simp <;> omega) | (simp; done)) (by first | assumption | omega | (simp <;> omega) | (simp; done)) (by first | assumption | omega | (simp <;> omega) | (simp; done)) (by first | assumption | omega | (simp <;> omega) | (simp; done)) (by first | assumption | omega | (simp <;> omega) | (simp; done)) (by first | assumption | omega | (simp <;> omega) | (simp; done)))) ?_
        refine WJ.r rfl rfl rfl rfl rfl (rd_beq rfl rfl rfl Try.underlying4) ?_
        refine WJ.set 43 rfl (v' := .bool true) (by exact congrArg Value.bool (by simp)) ?_
        refine WJ.r rfl rfl rfl rfl rfl (rd_pickt rfl rfl rfl) ?_
        refine WJ.r rfl rfl rfl rfl rfl (rd_assign rfl rfl) ?_
        refine WJ.nil ?_
        refine WL.nt ?_
        refine WC.ret ?_
        exact WX.retN rfl (.tmp rfl .nil) fun w' hS => ⟨by first | rfl | (simp [*]; done), hS.below⟩

theorem accepts_c {l : List Bs} {a : Option Addr} {cap : Nat} {w : World} {ok : Nat → Prop} (hF1 : (Fact.sl a (strs l)).holds ok w) (hcap : l.length ≤ cap) :
    Calls Try.prog 6 #[.slice a l.length cap] w fun e w' => e = .returned (.bool true) ∧ Below w.heap.size w w' := by
  refine enter (S := St (fun _ => True) w [] [Fact.sl a (strs l)]) (L := [(0, .slice a l.length cap)]) Try.func6 rfl Try.ntmps6 rfl (args_cons rfl (args_nil _)) (St.start (fun _ _ => trivial) (facts_cons (fact_any hF1) facts_nil)) ?_
  refine WC.sr ?_
  refine WL.r rfl rfl rfl (rd_assign rfl rfl) ?_
  refine WL.nt ?_
  refine WC.seq ?_
  refine WC.sr ?_
  refine WL.r rfl rfl rfl (rd_move rfl rfl) ?_
  refine WL.g rfl rfl rfl (og_call rfl rfl (by kernel_rfl) (keep_val fun w hS => few34_c (by first | exact hS.sl | exact hS.os | exact hS.oc | exact sl_takeM _ hS.sl | exact sl_dropM _ hS.sl | exact sl_cutM _ (by omega) hS.sl | exact sl_nil) (by first | assumption | omega | (simp <;> omega) | (simp; done)))) ?_
  intro _
  refine WL.r rfl rfl rfl (rd_not rfl rfl) ?_
  refine WL.nt ?_
  refine WC.cond rfl (fun hc11 => ?_) (fun hc11 => ?_)
  · (try simp only [decide_eq_true_eq, decide_eq_false_iff_not, Bool.not_eq_true', Bool.not_eq_false', Bool.not_not, Int.not_lt, Int.not_le] at hc11)
    refine WC.sr ?_
    refine WL.g rfl rfl rfl (og_call rfl rfl (by kernel_rfl) (keep_val fun w hS => awake34_c)) ?_
    intro _
    refine WL.r rfl rfl rfl (rd_assign rfl rfl) ?_
    refine WL.nt ?_
    refine WC.ret ?_
    refine WX.then_ret ?_
    exact WX.retN rfl (.tmp rfl .nil) fun w' hS => ⟨by first | rfl | (simp [*]; done), hS.below⟩
  · (try simp only [decide_eq_true_eq, decide_eq_false_iff_not, Bool.not_eq_true', Bool.not_eq_false', Bool.not_not, Int.not_lt, Int.not_le] at hc11)
    obtain ⟨hl, hs, -⟩ := few_le hc11
    have hrl := root_len l (by omega)
    refine WC.skip ?_
    refine WX.then_normal ?_
    refine WC.sr ?_
    refine WL.r rfl rfl rfl (rd_move rfl rfl) ?_
    refine WL.g rfl rfl rfl (og_call rfl rfl (by kernel_rfl) (keep_val fun w hS => root_c (by first | exact hS.sl | exact hS.os | exact hS.oc | exact sl_takeM _ hS.sl | exact sl_dropM _ hS.sl | exact sl_cutM _ (by omega) hS.sl | exact sl_nil) (by first | assumption | omega | (simp <;> omega) | (simp; done)) (by first | assumption | omega | (simp <;> omega) | (simp; done)) (by first | assumption | omega | (simp <;> omega) | (simp; done)) (by first | assumption | omega | (simp <;> omega) | (simp; done)))) ?_
    intro _
    refine WL.r rfl rfl rfl (rd_assign rfl rfl) ?_
    refine WL.nt ?_
    refine WC.seq ?_
    refine WC.sr ?_
    refine WL.r rfl rfl rfl (rd_assign rfl rfl) ?_
    refine WL.nt ?_
    refine WC.block ?_
    refine WC.loopP (σ := Nat) [(0, _), (3, _)] (fun g => [(4, .int .i64 (g : Int))]) (fun g => g ≤ l.length) (fun g => l.length - g) (0) (sub_cons rfl (sub_cons rfl (sub_nil _))) (sub_cons rfl (sub_nil _)) (by (try dsimp only); first | assumption | omega | (simp <;> omega) | (simp; done)) ?_
    rintro k hinv1; (try dsimp only at hinv1 ⊢)
    obtain hk := hinv1
    refine WC.seq ?_
    refine WC.sr ?_
    refine WL.r rfl rfl rfl (rd_move rfl rfl) ?_
    refine WL.r rfl rfl rfl (rd_move rfl rfl) ?_
    refine WL.r rfl rfl rfl (rd_len rfl rfl Try.underlying22) ?_
    refine WL.r rfl rfl rfl (rd_lss rfl rfl rfl) ?_
    refine WL.nt ?_
    refine WC.cond rfl (fun hc18 => ?_) (fun hc18 => ?_)
    · (try simp only [decide_eq_true_eq, decide_eq_false_iff_not, Bool.not_eq_true', Bool.not_eq_false', Bool.not_not, Int.not_lt, Int.not_le] at hc18)
      have hc : l[k]? = some (l.getD k default) := by rw [List.getElem?_eq_getElem (by omega)]; simp [List.getD, show k < l.length by omega]
      have hp : pathR l (k : Int) = (path l k, 0) := by rw [pathR, if_neg (by omega), Int.toNat_natCast]
      have hpl := path_len l k (by omega)
      have hcl := hs _ (List.mem_of_getElem? hc)
      have hps := path_small l k (by omega)
      refine WC.skip ?_
      refine WX.then_normal ?_
      refine WC.seq ?_
      refine WC.block ?_
      refine WC.sr ?_
      refine WL.r rfl rfl rfl (rd_move rfl rfl) ?_
      refine WL.r rfl rfl rfl (rd_move rfl rfl) ?_
      refine WL.g rfl rfl rfl (og_call rfl rfl (by kernel_rfl) (keep_f1 fun w hS => path_c (by first | exact hS.sl | exact hS.os | exact hS.oc | exact sl_takeM _ hS.sl | exact sl_dropM _ hS.sl | exact sl_cutM _ (by omega) hS.sl | exact sl_nil) (by first | assumption | omega | (simp <;> omega) | (simp; done)) (by first | assumption | omega | (simp <;> omega) | (simp; done)) (by first | assumption | omega | (simp <;> omega) | (simp; done)) (by first | assumption | omega | (simp <;> omega) | (simp; done)))) ?_
      intro g24
      refine WL.pu ?_
      intro hg24; (try dsimp only at hg24 ⊢)
      simp only [hp] at hg24 ⊢
      refine WL.r rfl rfl rfl (rd_move rfl rfl) ?_
      refine WL.r rfl rfl rfl (rd_extL rfl rfl rfl) ?_
      refine WL.r rfl rfl rfl (rd_extL rfl rfl rfl) ?_
      refine WL.r rfl rfl rfl (rd_assign rfl rfl) ?_
      refine WL.r rfl rfl rfl (rd_assign rfl rfl) ?_
      refine WL.nt ?_
      refine WC.seq ?_
      refine WC.seq ?_
      refine WC.free0 [0, 1, 2, 3, 4, 5, 6, 7, 8, 9, 10, 11, 12, 13, 14, 15, 24, 25, 26, 27, 28, 29, 16, 17, 18, 19, 20, 21, 22, 23, 30, 31] [] [0, 0, 0, 0, 0, 0, 0, 0, 0, 0, 0, 0, 1, 0, 0, 0, 0, 0, 0, 0, 0, 0, 0, 0, 3, 0, 1, 0, 3, 1, 1, 0] (by kernel_rfl) (by kernel_rfl) rfl ?_
      refine WJ.r rfl rfl rfl rfl rfl (rd_move rfl rfl) ?_
      refine WJ.r rfl rfl rfl rfl rfl (rd_neq rfl rfl rfl) ?_
      refine WJ.set 28 rfl (v' := .bool false) (by rfl) ?_
      refine WJ.r rfl rfl rfl rfl rfl (rd_move rfl rfl) ?_
      refine WJ.r rfl rfl rfl rfl rfl (rd_move rfl rfl) ?_
      refine WJ.r rfl rfl rfl rfl rfl (rd_move rfl rfl) ?_
      refine WJ.r rfl rfl rfl rfl rfl (rd_len rfl rfl Try.underlying22) ?_
      refine WJ.r rfl rfl rfl rfl rfl (rd_move rfl rfl) ?_
      refine WJ.r rfl rfl rfl rfl rfl (rd_move rfl rfl) ?_
      refine WJ.r rfl rfl rfl rfl rfl (rd_move rfl rfl) ?_
      first
        | (refine WJ.r rfl rfl rfl rfl rfl (rd_ia rfl rfl rfl Try.underlying22 (by kernel_rfl : _ = some 1) ?_ (by (try simp only [Int.toNat_natCast, Nat.mul_one, Nat.zero_add, Nat.add_zero, Nat.zero_mul, Int.reduceToNat, Nat.reduceAdd, Nat.reduceMul, Nat.reduceSub, Nat.sub_zero]); rfl)) ?_; (focus (first | assumption | omega | (simp <;> omega) | (simp; done))))
        | (refine WJ.r rfl rfl rfl rfl rfl (iaf rfl rfl rfl Try.underlying22 (by kernel_rfl : _ = some 1) ?_ ?_ (by (try simp only [Int.toNat_natCast, Nat.mul_one, Nat.zero_add, Nat.add_zero, Nat.zero_mul, Int.reduceToNat, Nat.reduceAdd, Nat.reduceMul, Nat.reduceSub, Nat.sub_zero]); rfl)) ?_; (focus (first | assumption | omega | (simp <;> omega) | (simp; done))); (focus (first | (rw [List.length_map]; omega) | (rw [flatMap_len _ _ _ (fun _ => rfl)]; omega) | (simp <;> omega))))
        | (refine WJ.r rfl rfl rfl rfl rfl (iao rfl rfl rfl Try.underlying22 (by kernel_rfl : _ = some 1) ?_ ?_ (by (try simp only [Int.toNat_natCast, Nat.mul_one, Nat.zero_add, Nat.add_zero, Nat.zero_mul, Int.reduceToNat, Nat.reduceAdd, Nat.reduceMul, Nat.reduceSub, Nat.sub_zero]); rfl)) ?_; (focus (first | assumption | omega | (simp <;> omega) | (simp; done))); (focus (first | (simp <;> omega) | (rw [List.length_append, List.length_map]; omega))))
      first
        | (refine WJ.r rfl rfl rfl rfl rfl (ld rfl rfl .tc Try.underlying9 rfl (by rfl)) ?_)
        | (refine WJ.r rfl rfl rfl rfl rfl (ldm rfl rfl Try.underlying9 rfl ?_) ?_; (focus (first | assumption | omega | (simp <;> omega) | (simp; done))))
        | (refine WJ.r rfl rfl rfl rfl rfl (ldom rfl rfl Try.underlying9 rfl ?_) ?_; (focus (first | assumption | omega | (simp <;> omega) | (simp; done))))
      refine WJ.r rfl rfl rfl rfl rfl (rd_move rfl rfl) ?_
      refine WJ.gv rfl rfl rfl rfl rfl (fun ext => og_call rfl rfl (by kernel_rfl) (keep_val fun w hS => incl_c (by first | exact hS.sl | exact hS.os | exact hS.oc | exact sl_takeM _ hS.sl | exact sl_dropM _ hS.sl | exact sl_cutM _ (by omega) hS.sl | exact sl_nil) (by first | assumption | omega | (simp <;> omega) | (simp; done)) (by first | assumption | omega | (simp <;> omega) | (simp; done)) (by first | assumption | omega | (simp <;> omega) | (simp; done)) (by first | assumption | omega | (simp <;> omega) | (simp; done)) (by first | assumption | omega | (simp <;> omega) | (simp; done)) (by first | assumption | omega | (simp <;> omega) | (simp; done)))) ?_
      refine WJ.set 39 rfl (v' := .bool true) (by exact congrArg Value.bool (incl_path l k _ (by omega) hc)) ?_
      refine WJ.r rfl rfl rfl rfl rfl (rd_not rfl rfl) ?_
      refine WJ.r rfl rfl rfl rfl rfl (rd_pickf rfl rfl rfl) ?_
      refine WJ.r rfl rfl rfl rfl rfl (rd_move rfl rfl) ?_
      refine WJ.f rfl rfl rfl rfl rfl (fr_bs1 rfl rfl Try.underlying22 (by kernel_rfl : _ = some (some (.string (S [])), 1, 16)) rfl (by simp only [List.map]; rfl) rfl rfl ?_ (by decide)) ?_
      · simp [Value.cells]
      intro b51
      refine WJ.r rfl rfl rfl rfl rfl (rd_move rfl rfl) ?_
      first
        | (refine WJ.g rfl rfl rfl rfl rfl (appgJ rfl Try.underlying22 (by kernel_rfl : _ = some (some (.string (S [])), 1, 16)) rfl .tc rfl rfl (fun ext w hS => by first | exact hS.os | exact hS.sl | exact hS.oc) (by first | rfl | simp) ?_ ?_) ?_; (focus ((refine ⟨?_, ?_, ?_, ?_⟩ <;> (try simp) <;> omega))); (focus (first | (simp [Value.oneCell']; done) | (intro u hu; obtain ⟨_, _, rfl⟩ := List.mem_map.1 hu; rfl))))
        | (refine WJ.g rfl rfl rfl rfl rfl (appfJ rfl Try.underlying22 (by kernel_rfl : _ = some (some (.string (S [])), 1, 16)) rfl .tc rfl rfl (fun ext w hS => by first | exact hS.os | exact hS.sl | exact hS.oc) (by first | rfl | simp) ?_ ?_) ?_; (focus ((refine ⟨?_, ?_, ?_, ?_⟩ <;> (try simp) <;> omega))); (focus (first | (simp [Value.oneCell']; done) | (intro u hu; obtain ⟨_, _, rfl⟩ := List.mem_map.1 hu; rfl))))
      rintro ⟨o53, c53, s53⟩ hg53; (try dsimp only at hg53 ⊢)
      refine WJ.r rfl rfl rfl rfl rfl (rd_move rfl rfl) ?_
      refine WJ.f rfl rfl rfl rfl rfl (fr_bs1 rfl rfl Try.underlying22 (by kernel_rfl : _ = some (some (.string (S [])), 1, 16)) rfl (by simp only [List.map]; rfl) rfl rfl ?_ (by decide)) ?_
      · simp [Value.cells]
      intro b55
      first
        | (refine WJ.g rfl rfl rfl rfl rfl (appgJ rfl Try.underlying22 (by kernel_rfl : _ = some (some (.string (S [])), 1, 16)) rfl .tc rfl rfl (fun ext w hS => by first | exact hS.os | exact hS.sl | exact hS.oc) (by first | rfl | simp) ?_ ?_) ?_; (focus ((refine ⟨?_, ?_, ?_, ?_⟩ <;> (try simp) <;> omega))); (focus (first | (simp [Value.oneCell']; done) | (intro u hu; obtain ⟨_, _, rfl⟩ := List.mem_map.1 hu; rfl))))
        | (refine WJ.g rfl rfl rfl rfl rfl (appfJ rfl Try.underlying22 (by kernel_rfl : _ = some (some (.string (S [])), 1, 16)) rfl .tc rfl rfl (fun ext w hS => by first | exact hS.os | exact hS.sl | exact hS.oc) (by first | rfl | simp) ?_ ?_) ?_; (focus ((refine ⟨?_, ?_, ?_, ?_⟩ <;> (try simp) <;> omega))); (focus (first | (simp [Value.oneCell']; done) | (intro u hu; obtain ⟨_, _, rfl⟩ := List.mem_map.1 hu; rfl))))
      rintro ⟨o56, c56, s56⟩ hg56; (try dsimp only at hg56 ⊢)
      refine WJ.r rfl rfl rfl rfl rfl (rd_move rfl rfl) ?_
      refine WJ.r rfl rfl rfl rfl rfl (rd_move rfl rfl) ?_
      refine WJ.r rfl rfl rfl rfl rfl (rd_len rfl rfl Try.underlying22) ?_
      refine WJ.r rfl rfl rfl rfl rfl (rd_move rfl rfl) ?_
      refine WJ.r rfl rfl rfl rfl rfl (rd_move rfl rfl) ?_
      refine WJ.r rfl rfl rfl rfl rfl (rd_move rfl rfl) ?_
      first
        | (refine WJ.r rfl rfl rfl rfl rfl (rd_ia rfl rfl rfl Try.underlying22 (by kernel_rfl : _ = some 1) ?_ (by (try simp only [Int.toNat_natCast, Nat.mul_one, Nat.zero_add, Nat.add_zero, Nat.zero_mul, Int.reduceToNat, Nat.reduceAdd, Nat.reduceMul, Nat.reduceSub, Nat.sub_zero]); rfl)) ?_; (focus (first | assumption | omega | (simp <;> omega) | (simp; done))))
        | (refine WJ.r rfl rfl rfl rfl rfl (iaf rfl rfl rfl Try.underlying22 (by kernel_rfl : _ = some 1) ?_ ?_ (by (try simp only [Int.toNat_natCast, Nat.mul_one, Nat.zero_add, Nat.add_zero, Nat.zero_mul, Int.reduceToNat, Nat.reduceAdd, Nat.reduceMul, Nat.reduceSub, Nat.sub_zero]); rfl)) ?_; (focus (first | assumption | omega | (simp <;> omega) | (simp; done))); (focus (first | (rw [List.length_map]; omega) | (rw [flatMap_len _ _ _ (fun _ => rfl)]; omega) | (simp <;> omega))))
        | (refine WJ.r rfl rfl rfl rfl rfl (iao rfl rfl rfl Try.underlying22 (by kernel_rfl : _ = some 1) ?_ ?_ (by (try simp only [Int.toNat_natCast, Nat.mul_one, Nat.zero_add, Nat.add_zero, Nat.zero_mul, Int.reduceToNat, Nat.reduceAdd, Nat.reduceMul, Nat.reduceSub, Nat.sub_zero]); rfl)) ?_; (focus (first | assumption | omega | (simp <;> omega) | (simp; done))); (focus (first | (simp <;> omega) | (rw [List.length_append, List.length_map]; omega))))
      first
        | (refine WJ.r rfl rfl rfl rfl rfl (ld rfl rfl .tc Try.underlying9 rfl (by rfl)) ?_)
        | (refine WJ.r rfl rfl rfl rfl rfl (ldm rfl rfl Try.underlying9 rfl ?_) ?_; (focus (first | assumption | omega | (simp <;> omega) | (simp; done))))
        | (refine WJ.r rfl rfl rfl rfl rfl (ldom rfl rfl Try.underlying9 rfl ?_) ?_; (focus (first | assumption | omega | (simp <;> omega) | (simp; done))))
      refine WJ.gv rfl rfl rfl rfl rfl (fun ext => og_call rfl rfl (by kernel_rfl) (keep_val fun w hS => incl_c (p := path l k ++ [root l]) (by have := hS.oc (ob := o56); simpa [strs] using this) (by first | assumption | omega | (simp <;> omega) | (simp; done)) (by first | assumption | omega | (simp <;> omega) | (simp; done)) (by (intro s h; rcases List.mem_append.1 h with h | h; exact hps s h; simp at h; subst h; omega)) (by first | assumption | omega | (simp <;> omega) | (simp; done)) (by first | assumption | omega | (simp <;> omega) | (simp; done)) (by first | assumption | omega | (simp <;> omega) | (simp; done)))) ?_
      refine WJ.set 57 rfl (v' := .bool false) (by exact congrArg Value.bool (incl_other l k _ _ (by omega) hc (by simp))) ?_
      refine WJ.r rfl rfl rfl rfl rfl (rd_pickf rfl rfl rfl) ?_
      refine WJ.nil ?_
      refine WL.nt ?_
      refine WC.cond rfl (fun h => by cases h) (fun _ => ?_)
      refine WC.skip ?_
      refine WX.then_normal ?_
      refine WC.seq ?_
      refine WC.free0 [0, 1, 2, 3, 4, 5, 6, 7, 8, 9, 10, 11, 12, 13, 14, 15] [] [0, 0, 0, 0, 0, 0, 0, 0, 0, 0, 0, 0, 0, 0, 1, 0] (by kernel_rfl) (by kernel_rfl) rfl ?_
      refine WJ.r rfl rfl rfl rfl rfl (rd_move rfl rfl) ?_
      refine WJ.r rfl rfl rfl rfl rfl (rd_len rfl rfl Try.underlying22) ?_
      refine WJ.r rfl rfl rfl rfl rfl (rd_gtr rfl rfl rfl) ?_
      refine WJ.r rfl rfl rfl rfl rfl (rd_move rfl rfl) ?_
      refine WJ.bool 62 rfl (fun hg62 => ?_) (fun hg62 => ?_)
      · (try simp only [decide_eq_true_eq, decide_eq_false_iff_not, Bool.not_eq_true', Bool.not_eq_false', Bool.not_not, Int.not_lt, Int.not_le] at hg62)
        refine WJ.r rfl rfl rfl rfl rfl (rd_move rfl rfl) ?_
        refine WJ.r rfl rfl rfl rfl rfl (rd_move rfl rfl) ?_
        refine WJ.r rfl rfl rfl rfl rfl (rd_len rfl rfl Try.underlying22) ?_
        refine WJ.r rfl rfl rfl rfl rfl (rd_move rfl rfl) ?_
        refine WJ.r rfl rfl rfl rfl rfl (rd_move rfl rfl) ?_
        refine WJ.r rfl rfl rfl rfl rfl (rd_move rfl rfl) ?_
        first
          | (refine WJ.r rfl rfl rfl rfl rfl (rd_ia rfl rfl rfl Try.underlying22 (by kernel_rfl : _ = some 1) ?_ (by (try simp only [Int.toNat_natCast, Nat.mul_one, Nat.zero_add, Nat.add_zero, Nat.zero_mul, Int.reduceToNat, Nat.reduceAdd, Nat.reduceMul, Nat.reduceSub, Nat.sub_zero]); rfl)) ?_; (focus (first | assumption | omega | (simp <;> omega) | (simp; done))))
          | (refine WJ.r rfl rfl rfl rfl rfl (iaf rfl rfl rfl Try.underlying22 (by kernel_rfl : _ = some 1) ?_ ?_ (by (try simp only [Int.toNat_natCast, Nat.mul_one, Nat.zero_add, Nat.add_zero, Nat.zero_mul, Int.reduceToNat, Nat.reduceAdd, Nat.reduceMul, Nat.reduceSub, Nat.sub_zero]); rfl)) ?_; (focus (first | assumption | omega | (simp <;> omega) | (simp; done))); (focus (first | (rw [List.length_map]; omega) | (rw [flatMap_len _ _ _ (fun _ => rfl)]; omega) | (simp <;> omega))))
          | (refine WJ.r rfl rfl rfl rfl rfl (iao rfl rfl rfl Try.underlying22 (by kernel_rfl : _ = some 1) ?_ ?_ (by (try simp only [Int.toNat_natCast, Nat.mul_one, Nat.zero_add, Nat.add_zero, Nat.zero_mul, Int.reduceToNat, Nat.reduceAdd, Nat.reduceMul, Nat.reduceSub, Nat.sub_zero]); rfl)) ?_; (focus (first | assumption | omega | (simp <;> omega) | (simp; done))); (focus (first | (simp <;> omega) | (rw [List.length_append, List.length_map]; omega))))
        first
          | (refine WJ.r rfl rfl rfl rfl rfl (ld rfl rfl .tc Try.underlying9 rfl (by rfl)) ?_)
          | (refine WJ.r rfl rfl rfl rfl rfl (ldm rfl rfl Try.underlying9 rfl ?_) ?_; (focus (first | assumption | omega | (simp <;> omega) | (simp; done))))
          | (refine WJ.r rfl rfl rfl rfl rfl (ldom rfl rfl Try.underlying9 rfl ?_) ?_; (focus (first | assumption | omega | (simp <;> omega) | (simp; done))))
        refine WJ.r rfl rfl rfl rfl rfl (rd_move rfl rfl) ?_
        first
          | (refine WJ.r rfl rfl rfl rfl rfl (rd_slfn rfl rfl rfl Try.underlying22 (by kernel_rfl : _ = some 1) ?_ (by (try simp only [Int.toNat_natCast, Nat.mul_one, Nat.zero_add, Nat.add_zero, Nat.zero_mul, Int.reduceToNat, Nat.reduceAdd, Nat.reduceMul, Nat.reduceSub, Nat.sub_zero]); rfl) (by (try simp only [Int.toNat_natCast, Nat.mul_one, Nat.zero_add, Nat.add_zero, Nat.zero_mul, Int.reduceToNat, Nat.reduceAdd, Nat.reduceMul, Nat.reduceSub, Nat.sub_zero]); rfl) (by (try simp only [Int.toNat_natCast, Nat.mul_one, Nat.zero_add, Nat.add_zero, Nat.zero_mul, Int.reduceToNat, Nat.reduceAdd, Nat.reduceMul, Nat.reduceSub, Nat.sub_zero]); rfl)) ?_; (focus (first | assumption | omega | (simp <;> omega) | (simp; done))))
          | (refine WJ.r rfl rfl rfl rfl rfl (rd_slfo rfl rfl rfl Try.underlying22 (by kernel_rfl : _ = some 1) ?_ (by (try simp only [Int.toNat_natCast, Nat.mul_one, Nat.zero_add, Nat.add_zero, Nat.zero_mul, Int.reduceToNat, Nat.reduceAdd, Nat.reduceMul, Nat.reduceSub, Nat.sub_zero]); rfl) (by (try simp only [Int.toNat_natCast, Nat.mul_one, Nat.zero_add, Nat.add_zero, Nat.zero_mul, Int.reduceToNat, Nat.reduceAdd, Nat.reduceMul, Nat.reduceSub, Nat.sub_zero]); rfl) (by (try simp only [Int.toNat_natCast, Nat.mul_one, Nat.zero_add, Nat.add_zero, Nat.zero_mul, Int.reduceToNat, Nat.reduceAdd, Nat.reduceMul, Nat.reduceSub, Nat.sub_zero]); rfl)) ?_; (focus (first | assumption | omega | (simp <;> omega) | (simp; done))))
          | (refine WJ.r rfl rfl rfl rfl rfl (rd_slf rfl rfl rfl Try.underlying22 (by kernel_rfl : _ = some 1) ?_ (by (try simp only [Int.toNat_natCast, Nat.mul_one, Nat.zero_add, Nat.add_zero, Nat.zero_mul, Int.reduceToNat, Nat.reduceAdd, Nat.reduceMul, Nat.reduceSub, Nat.sub_zero]); rfl) (by (try simp only [Int.toNat_natCast, Nat.mul_one, Nat.zero_add, Nat.add_zero, Nat.zero_mul, Int.reduceToNat, Nat.reduceAdd, Nat.reduceMul, Nat.reduceSub, Nat.sub_zero]); rfl) (by (try simp only [Int.toNat_natCast, Nat.mul_one, Nat.zero_add, Nat.add_zero, Nat.zero_mul, Int.reduceToNat, Nat.reduceAdd, Nat.reduceMul, Nat.reduceSub, Nat.sub_zero]); rfl)) ?_; (focus (first | assumption | omega | (simp <;> omega) | (simp; done))))
        refine WJ.gv rfl rfl rfl rfl rfl (fun ext => og_call rfl rfl (by kernel_rfl) (keep_val fun w hS => incl_c (p := (path l k).drop 1) (by first | exact hS.sl | exact hS.os | exact hS.oc | exact sl_takeM _ hS.sl | exact sl_dropM _ hS.sl | exact sl_cutM _ (by omega) hS.sl | exact sl_nil) (by first | assumption | omega | (simp <;> omega) | (simp; done)) (by first | assumption | omega | (simp <;> omega) | (simp; done)) (by (intro s h; exact hps s (List.mem_of_mem_drop h))) (by first | assumption | omega | (simp <;> omega) | (simp; done)) (by first | assumption | omega | (simp <;> omega) | (simp; done)) (by first | assumption | omega | (simp <;> omega) | (simp; done)))) ?_
        refine WJ.set 73 rfl (v' := .bool false) (by exact congrArg Value.bool (incl_other l k _ _ (by omega) hc (by simp; omega))) ?_
        refine WJ.r rfl rfl rfl rfl rfl (rd_pickt rfl rfl rfl) ?_
        refine WJ.nil ?_
        refine WL.nt ?_
        refine WC.cond rfl (fun h => by cases h) (fun _ => ?_)
        refine WC.skip ?_
        refine WX.block_normal ?_
        refine WX.then_normal ?_
        refine WC.region ?_
        refine WL.r rfl rfl rfl (rd_move rfl rfl) ?_
        first
          | (refine WL.r rfl rfl rfl (rd_add64nl rfl rfl rfl ?_) ?_; (focus (first | assumption | omega | (simp <;> omega) | (simp; done))))
          | (refine WL.r rfl rfl rfl (rd_add64 rfl rfl rfl ?_) ?_; (focus (first | assumption | omega | (simp <;> omega) | (simp; done))))
        refine WL.r rfl rfl rfl (rd_assign rfl rfl) ?_
        refine WL.nil ?_
        refine WX.loopP (k + 1) (by (try dsimp only); omega) (sub_cons rfl (sub_cons rfl (sub_nil _))) (by refine (sub_cons ?_ (sub_nil _)) <;> (first | rfl | (simp only [List.length_append, List.length_cons, List.length_nil, Nat.zero_add]; rfl) | (dsimp only; first | rfl | (congr 2; omega) | (congr 3; omega)))) ?_ (by first | exact fun _ h => h | exact st_sub)
        (try dsimp only)
        first | assumption | omega | (simp <;> omega) | (simp; done)
      · (try simp only [decide_eq_true_eq, decide_eq_false_iff_not, Bool.not_eq_true', Bool.not_eq_false', Bool.not_not, Int.not_lt, Int.not_le] at hg62)
        refine WJ.s rfl rfl rfl rfl ?_
        refine WJ.s rfl rfl rfl rfl ?_
        refine WJ.s rfl rfl rfl rfl ?_
        refine WJ.s rfl rfl rfl rfl ?_
        refine WJ.s rfl rfl rfl rfl ?_
        refine WJ.s rfl rfl rfl rfl ?_
        refine WJ.s rfl rfl rfl rfl ?_
        refine WJ.s rfl rfl rfl rfl ?_
        refine WJ.s rfl rfl rfl rfl ?_
        refine WJ.s rfl rfl rfl rfl ?_
        refine WJ.s rfl rfl rfl rfl ?_
        refine WJ.r rfl rfl rfl rfl rfl (rd_pickf rfl rfl rfl) ?_
        refine WJ.nil ?_
        refine WL.nt ?_
        refine WC.cond rfl (fun h => by cases h) (fun _ => ?_)
        refine WC.skip ?_
        refine WX.block_normal ?_
        refine WX.then_normal ?_
        refine WC.region ?_
        refine WL.r rfl rfl rfl (rd_move rfl rfl) ?_
        first
          | (refine WL.r rfl rfl rfl (rd_add64nl rfl rfl rfl ?_) ?_; (focus (first | assumption | omega | (simp <;> omega) | (simp; done))))
          | (refine WL.r rfl rfl rfl (rd_add64 rfl rfl rfl ?_) ?_; (focus (first | assumption | omega | (simp <;> omega) | (simp; done))))
        refine WL.r rfl rfl rfl (rd_assign rfl rfl) ?_
        refine WL.nil ?_
        refine WX.loopP (k + 1) (by (try dsimp only); omega) (sub_cons rfl (sub_cons rfl (sub_nil _))) (by refine (sub_cons ?_ (sub_nil _)) <;> (first | rfl | (simp only [List.length_append, List.length_cons, List.length_nil, Nat.zero_add]; rfl) | (dsimp only; first | rfl | (congr 2; omega) | (congr 3; omega)))) ?_ (by first | exact fun _ h => h | exact st_sub)
        (try dsimp only)
        first | assumption | omega | (simp <;> omega) | (simp; done)
    · (try simp only [decide_eq_true_eq, decide_eq_false_iff_not, Bool.not_eq_true', Bool.not_eq_false', Bool.not_not, Int.not_lt, Int.not_le] at hc18)
      refine WC.exit ?_
      refine WX.then_exit ?_
      refine WX.then_exit ?_
      refine WX.block_exit ?_
      refine WX.then_normal ?_
      refine WC.sr ?_
      refine WL.r rfl rfl rfl (rd_move rfl rfl) ?_
      refine WL.r rfl rfl rfl (rd_move rfl rfl) ?_
      refine WL.r rfl rfl rfl (rd_len rfl rfl Try.underlying22) ?_
      refine WL.g rfl rfl rfl (og_call rfl rfl (by kernel_rfl) (keep_f1 fun w hS => path_c (by first | exact hS.sl | exact hS.os | exact hS.oc | exact sl_takeM _ hS.sl | exact sl_dropM _ hS.sl | exact sl_cutM _ (by omega) hS.sl | exact sl_nil) (by first | assumption | omega | (simp <;> omega) | (simp; done)) (by first | assumption | omega | (simp <;> omega) | (simp; done)) (by first | assumption | omega | (simp <;> omega) | (simp; done)) (by first | assumption | omega | (simp <;> omega) | (simp; done)))) ?_
      intro g79
      refine WL.pu ?_
      intro hg79; (try dsimp only at hg79 ⊢)
      simp only [show pathR l l.length = ([], 2) from if_pos (by omega)] at hg79 ⊢
      refine WL.r rfl rfl rfl (rd_move rfl rfl) ?_
      refine WL.r rfl rfl rfl (rd_extL rfl rfl rfl) ?_
      refine WL.r rfl rfl rfl (rd_extL rfl rfl rfl) ?_
      refine WL.r rfl rfl rfl (rd_assign rfl rfl) ?_
      refine WL.r rfl rfl rfl (rd_assign rfl rfl) ?_
      refine WL.nt ?_
      refine WC.sr ?_
      refine WL.g rfl rfl rfl (og_call rfl rfl (by kernel_rfl) (keep_val fun w hS => awake34_c)) ?_
      intro _
      refine WL.set 82 rfl (v' := .bool true) (by rfl) ?_
      refine WL.r rfl rfl rfl (rd_move rfl rfl) ?_
      refine WL.r rfl rfl rfl (rd_move rfl rfl) ?_
      refine WL.r rfl rfl rfl (rd_eql rfl rfl rfl) ?_
      refine WL.set 85 rfl (v' := .bool true) (by rfl) ?_
      refine WL.r rfl rfl rfl (rd_pickt rfl rfl rfl) ?_
      refine WL.r rfl rfl rfl (rd_assign rfl rfl) ?_
      refine WL.nt ?_
      refine WC.ret ?_
      exact WX.retN rfl (.tmp rfl .nil) fun w' hS => ⟨by first | rfl | (simp [*]; done), hS.below⟩

theorem root_8 (A B : List Bs) (hA : A.length = 4) (hB : B.length = 4) : root (A ++ B) = sha (1 :: (root A ++ root B)) := by
  have hl : (A ++ B).length = 8 := by simp [hA, hB]
  have hh : half 8 = 4 := by decide
  rw [root_two _ (by omega) (by omega), hl, hh, show (A ++ B).take 4 = A by rw [← hA]; simp, show (A ++ B).drop 4 = B by rw [← hA]; simp]; rfl
theorem root_5 (A : List Bs) (x : Bs) (hA : A.length = 4) : root (A ++ [x]) = sha (1 :: (root A ++ sha (0 :: x))) := by
  have hl : (A ++ [x]).length = 5 := by simp [hA]
  have hh : half 5 = 4 := by decide
  rw [root_two _ (by omega) (by omega), hl, hh, show (A ++ [x]).take 4 = A by rw [← hA]; simp, show (A ++ [x]).drop 4 = [x] by rw [← hA]; simp]; rfl
theorem splits_c {A B : List Bs} {one : Bs} {w : World} (hA : A.length = 4) (hB : B.length = 4) :
    Calls Try.prog 8 #[.agg (strs A).toArray, .agg (strs B).toArray, .string (S one)] w fun e w' => e = .returned (.bool true) ∧ Below w.heap.size w w' := by
  refine enter (S := St (fun _ => True) w [] []) (L := [(0, .agg (strs A).toArray), (1, .agg (strs B).toArray), (2, .string (S one))]) Try.func8 rfl Try.ntmps8 rfl (args_cons rfl (args_cons rfl (args_cons rfl (args_nil _)))) (St.start (fun _ _ => trivial) facts_nil) ?_
  refine WC.sr ?_
  refine WL.g rfl rfl rfl (og_box rfl rfl (show _ = strs A from rfl)) ?_
  intro b3
  refine WL.g rfl rfl rfl (og_box rfl rfl (show _ = strs B from rfl)) ?_
  intro b4
  refine WL.r rfl rfl rfl (rd_assign rfl rfl) ?_
  refine WL.nt ?_
  refine WC.seq ?_
  refine WC.sr ?_
  refine WL.r rfl rfl rfl (rd_sla rfl rfl Try.underlying40 (by kernel_rfl : _ = some 1)) ?_
  refine WL.g rfl rfl rfl (og_call rfl rfl (by kernel_rfl) (keep_val fun w hS => few34_c (by first | exact hS.sl | exact hS.os | exact hS.oc | exact sl_takeM _ hS.sl | exact sl_dropM _ hS.sl | exact sl_cutM _ (by omega) hS.sl | exact sl_nil) (by first | assumption | omega | (simp <;> omega) | (simp; done)))) ?_
  intro _
  refine WL.r rfl rfl rfl (rd_not rfl rfl) ?_
  refine WL.r rfl rfl rfl (rd_move rfl rfl) ?_
  refine WL.bool 13 rfl (fun hg13 => ?_) (fun hg13 => ?_)
  · (try simp only [decide_eq_true_eq, decide_eq_false_iff_not, Bool.not_eq_true', Bool.not_eq_false', Bool.not_not, Int.not_lt, Int.not_le] at hg13)
    refine WL.s rfl rfl rfl ?_
    refine WL.s rfl rfl rfl ?_
    refine WL.s rfl rfl rfl ?_
    refine WL.r rfl rfl rfl (rd_pickt rfl rfl rfl) ?_
    refine WL.r rfl rfl rfl (rd_move rfl rfl) ?_
    refine WL.s rfl rfl rfl ?_
    refine WL.s rfl rfl rfl ?_
    refine WL.s rfl rfl rfl ?_
    refine WL.r rfl rfl rfl (rd_pickt rfl rfl rfl) ?_
    refine WL.nt ?_
    refine WC.cond rfl (fun _ => ?_) (fun h => by cases h)
    refine WC.sr ?_
    refine WL.g rfl rfl rfl (og_call rfl rfl (by kernel_rfl) (keep_val fun w hS => awake34_c)) ?_
    intro _
    refine WL.r rfl rfl rfl (rd_assign rfl rfl) ?_
    refine WL.nt ?_
    refine WC.ret ?_
    refine WX.then_ret ?_
    exact WX.retN rfl (.tmp rfl .nil) fun w' hS => ⟨by first | rfl | (simp [*]; done), hS.below⟩
  · (try simp only [decide_eq_true_eq, decide_eq_false_iff_not, Bool.not_eq_true', Bool.not_eq_false', Bool.not_not, Int.not_lt, Int.not_le] at hg13)
    refine WL.r rfl rfl rfl (rd_sla rfl rfl Try.underlying40 (by kernel_rfl : _ = some 1)) ?_
    refine WL.g rfl rfl rfl (og_call rfl rfl (by kernel_rfl) (keep_val fun w hS => few34_c (by first | exact hS.sl | exact hS.os | exact hS.oc | exact sl_takeM _ hS.sl | exact sl_dropM _ hS.sl | exact sl_cutM _ (by omega) hS.sl | exact sl_nil) (by first | assumption | omega | (simp <;> omega) | (simp; done)))) ?_
    intro _
    refine WL.r rfl rfl rfl (rd_not rfl rfl) ?_
    refine WL.r rfl rfl rfl (rd_pickf rfl rfl rfl) ?_
    refine WL.r rfl rfl rfl (rd_move rfl rfl) ?_
    refine WL.bool 18 rfl (fun hg18 => ?_) (fun hg18 => ?_)
    · (try simp only [decide_eq_true_eq, decide_eq_false_iff_not, Bool.not_eq_true', Bool.not_eq_false', Bool.not_not, Int.not_lt, Int.not_le] at hg18)
      refine WL.s rfl rfl rfl ?_
      refine WL.s rfl rfl rfl ?_
      refine WL.s rfl rfl rfl ?_
      refine WL.r rfl rfl rfl (rd_pickt rfl rfl rfl) ?_
      refine WL.nt ?_
      refine WC.cond rfl (fun _ => ?_) (fun h => by cases h)
      refine WC.sr ?_
      refine WL.g rfl rfl rfl (og_call rfl rfl (by kernel_rfl) (keep_val fun w hS => awake34_c)) ?_
      intro _
      refine WL.r rfl rfl rfl (rd_assign rfl rfl) ?_
      refine WL.nt ?_
      refine WC.ret ?_
      refine WX.then_ret ?_
      exact WX.retN rfl (.tmp rfl .nil) fun w' hS => ⟨by first | rfl | (simp [*]; done), hS.below⟩
    · (try simp only [decide_eq_true_eq, decide_eq_false_iff_not, Bool.not_eq_true', Bool.not_eq_false', Bool.not_not, Int.not_lt, Int.not_le] at hg18)
      refine WL.r rfl rfl rfl (rd_move rfl rfl) ?_
      refine WL.r rfl rfl rfl (rd_slen rfl rfl Try.underlying9) ?_
      refine WL.r rfl rfl rfl (rd_gtr rfl rfl rfl) ?_
      refine WL.r rfl rfl rfl (rd_pickf rfl rfl rfl) ?_
      refine WL.nt ?_
      refine WC.cond rfl (fun hc22 => ?_) (fun hc22 => ?_)
      · (try simp only [decide_eq_true_eq, decide_eq_false_iff_not, Bool.not_eq_true', Bool.not_eq_false', Bool.not_not, Int.not_lt, Int.not_le] at hc22)
        refine WC.sr ?_
        refine WL.g rfl rfl rfl (og_call rfl rfl (by kernel_rfl) (keep_val fun w hS => awake34_c)) ?_
        intro _
        refine WL.r rfl rfl rfl (rd_assign rfl rfl) ?_
        refine WL.nt ?_
        refine WC.ret ?_
        refine WX.then_ret ?_
        exact WX.retN rfl (.tmp rfl .nil) fun w' hS => ⟨by first | rfl | (simp [*]; done), hS.below⟩
      · (try simp only [decide_eq_true_eq, decide_eq_false_iff_not, Bool.not_eq_true', Bool.not_eq_false', Bool.not_not, Int.not_lt, Int.not_le] at hc22)
        obtain ⟨-, hsA, -⟩ := few_le (l := A) (by simpa using hg13)
        obtain ⟨-, hsB, -⟩ := few_le (l := B) (by simpa using hg18)
        have hrA := root_len A (by omega)
        have hrB := root_len B (by omega)
        have hsx := sha_len (0 :: one)
        refine WC.skip ?_
        refine WX.then_normal ?_
        refine WC.seq ?_
        refine WC.free0 [0, 1, 2, 3, 4, 5] [] [3, 0, 1, 0, 1, 0] (by kernel_rfl) (by kernel_rfl) rfl ?_
        refine WJ.f rfl rfl rfl rfl rfl (fr_bs1 rfl rfl Try.underlying22 (by kernel_rfl : _ = some (some (.string (S [])), 1, 16)) rfl (by simp only [List.map]; rfl) rfl rfl ?_ (by decide)) ?_
        · simp [Value.cells]
        intro b24
        refine WJ.r rfl rfl rfl rfl rfl (rd_sla rfl rfl Try.underlying40 (by kernel_rfl : _ = some 1)) ?_
        first
          | (refine WJ.g rfl rfl rfl rfl rfl (appgJ rfl Try.underlying22 (by kernel_rfl : _ = some (some (.string (S [])), 1, 16)) rfl .tc rfl rfl (fun ext w hS => by first | exact hS.os | exact hS.sl | exact hS.oc) (by simp [hA]) ?_ ?_) ?_; (focus ((refine ⟨?_, ?_, ?_, ?_⟩ <;> (try simp) <;> omega))); (focus (first | (simp [Value.oneCell']; done) | (intro u hu; obtain ⟨_, _, rfl⟩ := List.mem_map.1 hu; rfl))))
          | (refine WJ.g rfl rfl rfl rfl rfl (appfJ rfl Try.underlying22 (by kernel_rfl : _ = some (some (.string (S [])), 1, 16)) rfl .tc rfl rfl (fun ext w hS => by first | exact hS.os | exact hS.sl | exact hS.oc) (by simp [hA]) ?_ ?_) ?_; (focus ((refine ⟨?_, ?_, ?_, ?_⟩ <;> (try simp) <;> omega))); (focus (first | (simp [Value.oneCell']; done) | (intro u hu; obtain ⟨_, _, rfl⟩ := List.mem_map.1 hu; rfl))))
        rintro ⟨o26, c26, s26⟩ hg26; (try dsimp only at hg26 ⊢)
        refine WJ.r rfl rfl rfl rfl rfl (rd_sla rfl rfl Try.underlying40 (by kernel_rfl : _ = some 1)) ?_
        first
          | (refine WJ.g rfl rfl rfl rfl rfl (appgJ rfl Try.underlying22 (by kernel_rfl : _ = some (some (.string (S [])), 1, 16)) rfl .tc rfl rfl (fun ext w hS => by first | exact hS.os | exact hS.sl | exact hS.oc) (by simp [hB]) ?_ ?_) ?_; (focus ((refine ⟨?_, ?_, ?_, ?_⟩ <;> (try simp [hA]) <;> omega))); (focus (first | (simp [Value.oneCell']; done) | (intro u hu; obtain ⟨_, _, rfl⟩ := List.mem_map.1 hu; rfl))))
          | (refine WJ.g rfl rfl rfl rfl rfl (appfJ rfl Try.underlying22 (by kernel_rfl : _ = some (some (.string (S [])), 1, 16)) rfl .tc rfl rfl (fun ext w hS => by first | exact hS.os | exact hS.sl | exact hS.oc) (by simp [hB]) ?_ ?_) ?_; (focus ((refine ⟨?_, ?_, ?_, ?_⟩ <;> (try simp [hA]) <;> omega))); (focus (first | (simp [Value.oneCell']; done) | (intro u hu; obtain ⟨_, _, rfl⟩ := List.mem_map.1 hu; rfl))))
        rintro ⟨o28, c28, s28⟩ hg28; (try dsimp only at hg28 ⊢)
        refine WJ.r rfl rfl rfl rfl rfl (rd_assign rfl rfl) ?_
        refine WJ.nil ?_
        refine WL.nt ?_
        refine WC.seq ?_
        refine WC.free0 [0, 1, 2, 3, 4, 5] [] [0, 1, 0, 1, 0, 0] (by kernel_rfl) (by kernel_rfl) rfl ?_
        refine WJ.r rfl rfl rfl rfl rfl (rd_sla rfl rfl Try.underlying40 (by kernel_rfl : _ = some 1)) ?_
        refine WJ.gv rfl rfl rfl rfl rfl (fun ext => og_call rfl rfl (by kernel_rfl) (keep_val fun w hS => root_c (by first | exact hS.sl | exact hS.os | exact hS.oc | exact sl_takeM _ hS.sl | exact sl_dropM _ hS.sl | exact sl_cutM _ (by omega) hS.sl | exact sl_nil) (by first | assumption | omega | (simp <;> omega) | (simp; done)) (by first | assumption | omega | (simp <;> omega) | (simp; done)) (by first | assumption | omega | (simp <;> omega) | (simp; done)) (by first | assumption | omega | (simp <;> omega) | (simp; done)))) ?_
        refine WJ.r rfl rfl rfl rfl rfl (rd_sla rfl rfl Try.underlying40 (by kernel_rfl : _ = some 1)) ?_
        refine WJ.gv rfl rfl rfl rfl rfl (fun ext => og_call rfl rfl (by kernel_rfl) (keep_val fun w hS => root_c (by first | exact hS.sl | exact hS.os | exact hS.oc | exact sl_takeM _ hS.sl | exact sl_dropM _ hS.sl | exact sl_cutM _ (by omega) hS.sl | exact sl_nil) (by first | assumption | omega | (simp <;> omega) | (simp; done)) (by first | assumption | omega | (simp <;> omega) | (simp; done)) (by first | assumption | omega | (simp <;> omega) | (simp; done)) (by first | assumption | omega | (simp <;> omega) | (simp; done)))) ?_
        refine WJ.r rfl rfl rfl rfl rfl (rd_assign rfl rfl) ?_
        refine WJ.r rfl rfl rfl rfl rfl (rd_assign rfl rfl) ?_
        refine WJ.nil ?_
        refine WL.nt ?_
        refine WC.sr ?_
        refine WL.g rfl rfl rfl (og_call rfl rfl (by kernel_rfl) (keep_val fun w hS => awake34_c)) ?_
        intro _
        refine WL.set 33 rfl (v' := .bool true) (by rfl) ?_
        refine WL.r rfl rfl rfl (rd_move rfl rfl) ?_
        refine WL.r rfl rfl rfl (rd_move rfl rfl) ?_
        refine WL.g rfl rfl rfl (og_call rfl rfl (by kernel_rfl) (keep_val fun w hS => root_c (l := A ++ B) (by have := hS.oc (ob := o28); simpa [strs] using this) (by simp [hA, hB]) (by intro s h; rcases List.mem_append.1 h with h | h; exact hsA s h; exact hsB s h) (by simp [hA, hB]) (by first | assumption | omega | (simp <;> omega) | (simp; done)))) ?_
        intro _
        refine WL.r rfl rfl rfl (rd_move rfl rfl) ?_
        refine WL.r rfl rfl rfl (rd_cat rfl rfl rfl ?_) ?_
        · first | ((try simp only [List.length_append, List.length_cons, List.length_nil]); omega) | (simp <;> omega)
        refine WL.r rfl rfl rfl (rd_move rfl rfl) ?_
        refine WL.r rfl rfl rfl (rd_cat rfl rfl rfl ?_) ?_
        · first | ((try simp only [List.length_append, List.length_cons, List.length_nil]); omega) | (simp <;> omega)
        refine WL.g rfl rfl rfl (og_call rfl rfl (by kernel_rfl) (keep_val fun w hS => sum_c (by first | assumption | omega | (simp <;> omega) | (simp; done)))) ?_
        intro _
        refine WL.r rfl rfl rfl (rd_seq rfl rfl rfl) ?_
        refine WL.set 42 rfl (v' := .bool true) (by exact congrArg Value.bool (decide_eq_true (root_8 A B hA hB))) ?_
        refine WL.r rfl rfl rfl (rd_pickt rfl rfl rfl) ?_
        refine WL.r rfl rfl rfl (rd_move rfl rfl) ?_
        refine WL.g rfl rfl rfl (og_bs1 rfl rfl Try.underlying22 (by kernel_rfl : _ = some (some (.string (S [])), 1, 16)) rfl (by simp only [List.map]; rfl) rfl rfl ?_ (by decide)) ?_
        · simp [Value.cells]
        intro b45
        refine WL.r rfl rfl rfl (rd_sla rfl rfl Try.underlying40 (by kernel_rfl : _ = some 1)) ?_
        first
          | (refine WL.g rfl rfl rfl (appg rfl Try.underlying22 (by kernel_rfl : _ = some (some (.string (S [])), 1, 16)) rfl .tc rfl rfl (fun w hS => by first | exact hS.os | exact hS.sl | exact hS.oc) (by simp [hA]) ?_ ?_) ?_; (focus ((refine ⟨?_, ?_, ?_, ?_⟩ <;> (try simp) <;> omega))); (focus (first | (simp [Value.oneCell']; done) | (intro u hu; obtain ⟨_, _, rfl⟩ := List.mem_map.1 hu; rfl))))
          | (refine WL.g rfl rfl rfl (appf rfl Try.underlying22 (by kernel_rfl : _ = some (some (.string (S [])), 1, 16)) rfl .tc rfl rfl (fun w hS => by first | exact hS.os | exact hS.sl | exact hS.oc) (by simp [hA]) ?_ ?_) ?_; (focus ((refine ⟨?_, ?_, ?_, ?_⟩ <;> (try simp) <;> omega))); (focus (first | (simp [Value.oneCell']; done) | (intro u hu; obtain ⟨_, _, rfl⟩ := List.mem_map.1 hu; rfl))))
        rintro ⟨o47, c47, s47⟩
        refine WL.pu ?_
        intro hg47; (try dsimp only at hg47 ⊢)
        refine WL.r rfl rfl rfl (rd_move rfl rfl) ?_
        refine WL.g rfl rfl rfl (og_bs1 rfl rfl Try.underlying22 (by kernel_rfl : _ = some (some (.string (S [])), 1, 16)) rfl (by simp only [List.map]; rfl) rfl rfl ?_ (by decide)) ?_
        · simp [Value.cells]
        intro b49
        first
          | (refine WL.g rfl rfl rfl (appg rfl Try.underlying22 (by kernel_rfl : _ = some (some (.string (S [])), 1, 16)) rfl .tc rfl rfl (fun w hS => by first | exact hS.os | exact hS.sl | exact hS.oc) (by first | rfl | simp) ?_ ?_) ?_; (focus ((refine ⟨?_, ?_, ?_, ?_⟩ <;> (try simp [hA]) <;> omega))); (focus (first | (simp [Value.oneCell']; done) | (intro u hu; obtain ⟨_, _, rfl⟩ := List.mem_map.1 hu; rfl))))
          | (refine WL.g rfl rfl rfl (appf rfl Try.underlying22 (by kernel_rfl : _ = some (some (.string (S [])), 1, 16)) rfl .tc rfl rfl (fun w hS => by first | exact hS.os | exact hS.sl | exact hS.oc) (by first | rfl | simp) ?_ ?_) ?_; (focus ((refine ⟨?_, ?_, ?_, ?_⟩ <;> (try simp [hA]) <;> omega))); (focus (first | (simp [Value.oneCell']; done) | (intro u hu; obtain ⟨_, _, rfl⟩ := List.mem_map.1 hu; rfl))))
        rintro ⟨o50, c50, s50⟩
        refine WL.pu ?_
        intro hg50; (try dsimp only at hg50 ⊢)
        refine WL.g rfl rfl rfl (og_call rfl rfl (by kernel_rfl) (keep_val fun w hS => root_c (l := A ++ [one]) (by have := hS.oc (ob := o50); simpa [strs] using this) (by simp [hA]) (by intro s h; rcases List.mem_append.1 h with h | h; exact hsA s h; simp at h; subst h; omega) (by simp [hA]) (by first | assumption | omega | (simp <;> omega) | (simp; done)))) ?_
        intro _
        refine WL.r rfl rfl rfl (rd_move rfl rfl) ?_
        refine WL.r rfl rfl rfl (rd_cat rfl rfl rfl ?_) ?_
        · first | ((try simp only [List.length_append, List.length_cons, List.length_nil]); omega) | (simp <;> omega)
        refine WL.r rfl rfl rfl (rd_move rfl rfl) ?_
        refine WL.r rfl rfl rfl (rd_cat rfl rfl rfl ?_) ?_
        · first | ((try simp only [List.length_append, List.length_cons, List.length_nil]); omega) | (simp <;> omega)
        refine WL.g rfl rfl rfl (og_call rfl rfl (by kernel_rfl) (keep_val fun w hS => sum_c (by first | assumption | omega | (simp <;> omega) | (simp; done)))) ?_
        intro _
        refine WL.r rfl rfl rfl (rd_cat rfl rfl rfl ?_) ?_
        · first | ((try simp only [List.length_append, List.length_cons, List.length_nil]); omega) | (simp <;> omega)
        refine WL.g rfl rfl rfl (og_call rfl rfl (by kernel_rfl) (keep_val fun w hS => sum_c (by (rw [List.length_append, List.length_append, sha_len]; simp; omega)))) ?_
        intro _
        refine WL.r rfl rfl rfl (rd_seq rfl rfl rfl) ?_
        refine WL.set 59 rfl (v' := .bool true) (by exact congrArg Value.bool (decide_eq_true (root_5 A one hA))) ?_
        refine WL.r rfl rfl rfl (rd_pickt rfl rfl rfl) ?_
        refine WL.r rfl rfl rfl (rd_move rfl rfl) ?_
        refine WL.g rfl rfl rfl (og_call rfl rfl (by kernel_rfl) (keep_val fun w hS => root_c (l := []) (by first | exact hS.sl | exact hS.os | exact hS.oc | exact sl_takeM _ hS.sl | exact sl_dropM _ hS.sl | exact sl_cutM _ (by omega) hS.sl | exact sl_nil) (by decide) (by intro s h; cases h) (by first | assumption | omega | (simp <;> omega) | (simp; done)) (by first | assumption | omega | (simp <;> omega) | (simp; done)))) ?_
        intro _
        refine WL.g rfl rfl rfl (og_call rfl rfl (by kernel_rfl) (keep_val fun w hS => sum_c (by first | assumption | omega | (simp <;> omega) | (simp; done)))) ?_
        intro _
        refine WL.r rfl rfl rfl (rd_seq rfl rfl rfl) ?_
        refine WL.set 64 rfl (v' := .bool true) (by exact congrArg Value.bool (decide_eq_true rfl)) ?_
        refine WL.r rfl rfl rfl (rd_pickt rfl rfl rfl) ?_
        refine WL.r rfl rfl rfl (rd_assign rfl rfl) ?_
        refine WL.nt ?_
        refine WC.ret ?_
        exact WX.retN rfl (.tmp rfl .nil) fun w' hS => ⟨by first | rfl | (simp [*]; done), hS.below⟩
end Go.Proofs.Ytenjafedpcpoaaa
