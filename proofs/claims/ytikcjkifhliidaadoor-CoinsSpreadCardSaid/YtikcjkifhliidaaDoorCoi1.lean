/-
  coins: tapes, their form, their small functions; the reference's.
-/
import Derived.Test.YtikcjkifhliidaaDoorInt1
import Derived.Test.YtikcjkifhliidaaDoorMac
namespace Go.Proofs.YtikcjkifhliidaaDoor
set_option linter.unusedSimpArgs false
set_option linter.unusedVariables false
set_option maxRecDepth 20000
set_option maxHeartbeats 600000
open Go.RowKit

/-- a tape -/
structure Tp where
  vals : List Bs
  seed : Bs
  at_ : Int
deriving DecidableEq
abbrev Tp.v (t : Tp) (x : Value) : Value := .agg #[x, .string (S t.seed), .int .i64 t.at_]
def goodT (t : Tp) : Prop := 0 ≤ t.at_ ∧ t.at_ ≤ 2147483647 ∧ ∀ s ∈ t.vals, okN s
instance (t : Tp) : Decidable (goodT t) := inferInstanceAs (Decidable (_ ∧ _ ∧ _))
theorem getD_memB (l : List Bs) (k : Nat) (h : k < l.length) : l.getD k default ∈ l := by
  rw [List.getD_eq_getElem?_getD, List.getElem?_eq_getElem h]; exact List.getElem_mem h
theorem all_takeB {l : List Bs} {k : Nat} {p : Bs → Prop} (h : k < l.length) (h1 : ∀ s ∈ l.take k, p s) (h2 : p (l.getD k default)) : ∀ s ∈ l.take (k + 1), p s := by
  intro s hs
  rw [List.take_add_one, List.getElem?_eq_getElem h] at hs
  rw [List.getD_eq_getElem?_getD, List.getElem?_eq_getElem h] at h2
  rcases List.mem_append.1 hs with hs | hs
  · exact h1 s hs
  · simp at hs; subst hs; exact h2
theorem bad_c {a : Bs} {w : World} :
    Calls Tryd.prog 50 #[.string (S a)] w fun e w' => e = .returned (.bool (!decide (okN a))) ∧ Below w.heap.size w w' := by
  refine enter (S := St (fun _ => True) w [] ([])) (L := [(0, .string (S a))]) Tryd.func50 rfl Tryd.ntmps50 rfl (args_cons rfl (args_nil _)) (St.start (fun _ _ => trivial) facts_nil) ?_
  refine WC.sr ?_
  refine WL.r rfl rfl rfl (rd_assign rfl rfl) ?_
  refine WL.nt ?_
  refine WC.sr ?_
  refine WL.r rfl rfl rfl (rd_move rfl rfl) ?_
  refine WL.g rfl rfl rfl (og_call rfl rfl (by kernel_rfl) (keep_val fun w hS => valid_c)) ?_
  intro _
  refine WL.r rfl rfl rfl (rd_not rfl rfl) ?_
  refine WL.r rfl rfl rfl (rd_assign rfl rfl) ?_
  refine WL.nt ?_
  refine WC.ret ?_
  exact WX.retN rfl (.tmp rfl .nil) fun w' hS => ⟨by rfl, hS.below⟩
def firstBad (l : List Bs) : Int := if ∀ s ∈ l, okN s then -1 else 0
theorem idxf_c {l : List Bs} {a : Option Addr} {cap : Nat} {w : World} {ok : Nat → Prop} (hF1 : (Fact.sl a (strs l)).holds ok w) (hl : l.length ≤ 9223372036854775807) :
    Calls Tryd.prog 73 #[.slice a l.length cap, .func (.func 50) #[] #[]] w fun e w' => ∃ r : Int, e = .returned (.int .i64 r) ∧ (0 ≤ r ↔ ¬ ∀ s ∈ l, okN s) ∧ Below w.heap.size w w' := by
  refine enter (S := St (fun _ => True) w [] ([Fact.sl a (strs l)])) (L := [(0, .slice a l.length cap), (1, .func (.func 50) #[] #[])]) Tryd.func73 rfl Tryd.ntmps73 rfl (args_cons rfl (args_cons rfl (args_nil _))) (St.start (fun _ _ => trivial) (facts_cons (fact_any hF1) facts_nil)) ?_
  refine WC.sr ?_
  refine WL.r rfl rfl rfl (rd_assign rfl rfl) ?_
  refine WL.nt ?_
  refine WC.seq ?_
  refine WC.sr ?_
  refine WL.r rfl rfl rfl (rd_move rfl rfl) ?_
  refine WL.r rfl rfl rfl (rd_len rfl rfl Tryd.underlying22) ?_
  refine WL.r rfl rfl rfl (rd_move rfl rfl) ?_
  refine WL.nt ?_
  refine WC.block ?_
  refine WC.loopP (σ := Nat) [(0, _), (1, _), (7, _)] (fun g => [(8, .int .i64 (g : Int))]) (fun g => g ≤ l.length ∧ ∀ s ∈ l.take g, okN s) (fun g => l.length - g) (0) (sub_cons rfl (sub_cons rfl (sub_cons rfl (sub_nil _)))) (sub_cons rfl (sub_nil _)) (by (try dsimp only); exact ⟨Nat.zero_le _, fun s h => by simp at h⟩) ?_
  rintro k hinv1; (try dsimp only at hinv1 ⊢)
  obtain ⟨hk, hks⟩ := hinv1
  refine WC.sr ?_
  refine WL.r rfl rfl rfl (rd_lss rfl rfl rfl) ?_
  refine WL.nt ?_
  refine WC.seq ?_
  refine WC.cond rfl (fun hc9 => ?_) (fun hc9 => ?_)
  · (try simp only [sB] at hc9)
    refine WC.skip ?_
    refine WX.then_normal ?_
    refine WC.seq ?_
    refine WC.block ?_
    refine WC.sr ?_
    refine WL.r rfl rfl rfl (rd_move rfl rfl) ?_
    refine WL.r rfl rfl rfl (rd_assign rfl rfl) ?_
    refine WL.nt ?_
    refine WC.sr ?_
    refine WL.r rfl rfl rfl (rd_move rfl rfl) ?_
    refine WL.r rfl rfl rfl (rd_move rfl rfl) ?_
    refine WL.r rfl rfl rfl (rd_move rfl rfl) ?_
    (refine WL.r rfl rfl rfl (iaf rfl rfl rfl Tryd.underlying22 (by kernel_rfl : _ = some 1) ?_ ?_ (by (try simp only [sN, Int.reduceToNat, Nat.reduceAdd, Nat.reduceMul, Nat.reduceSub]); rfl)) ?_; (focus (omega)); (focus ((rw [List.length_map]; omega))))
    (refine WL.r rfl rfl rfl (ldm rfl rfl Tryd.underlying33 rfl ?_) ?_; (focus (omega)))
    refine WL.g rfl rfl rfl (og_callv rfl rfl rfl (by kernel_rfl) rfl (keep_val fun w hS => bad_c (a := l.getD k default))) ?_
    intro _
    refine WL.nt ?_
    refine WC.cond rfl (fun hc16 => ?_) (fun hc16 => ?_)
    · (try simp only [sB] at hc16)
      refine WC.sr ?_
      refine WL.r rfl rfl rfl (rd_move rfl rfl) ?_
      refine WL.r rfl rfl rfl (rd_assign rfl rfl) ?_
      refine WL.nt ?_
      refine WC.ret ?_
      refine WX.block_ret ?_
      refine WX.then_ret ?_
      refine WX.then_ret ?_
      refine WX.block_ret ?_
      refine WX.then_ret ?_
      exact WX.retN rfl (.tmp rfl .nil) fun w' hS => ⟨_, rfl, ⟨fun _ h => by have := h _ (getD_memB l k (by omega)); simp_all, fun _ => by omega⟩, hS.below⟩
    · (try simp only [sB] at hc16)
      refine WC.skip ?_
      refine WX.block_normal ?_
      refine WX.then_normal ?_
      refine WC.region ?_
      (refine WL.r rfl rfl rfl (rd_add64nl rfl rfl rfl ?_) ?_; (focus (omega)))
      refine WL.r rfl rfl rfl (rd_move rfl rfl) ?_
      refine WL.nil ?_
      refine WX.loopP (k + 1) (by (try dsimp only); omega) (sub_cons rfl (sub_cons rfl (sub_cons rfl (sub_nil _)))) (by refine (sub_cons ?_ (sub_nil _)) <;> (rfl)) ?_ (by (exact fun _ h => h))
      (try dsimp only)
      exact ⟨by omega, all_takeB (by omega) hks (by simpa using hc16)⟩
  · (try simp only [sB] at hc9)
    refine WC.exit ?_
    refine WX.then_exit ?_
    refine WX.then_exit ?_
    refine WX.block_exit ?_
    obtain rfl : k = l.length := by omega
    rw [List.take_of_length_le (Nat.le_refl _)] at hks
    refine WX.then_normal ?_
    refine WC.sr ?_
    refine WL.r rfl rfl rfl (rd_assign rfl rfl) ?_
    refine WL.nt ?_
    refine WC.ret ?_
    exact WX.retN rfl (.tmp rfl .nil) fun w' hS => ⟨-1, rfl, ⟨fun h => by omega, fun h => absurd hks h⟩, hS.below⟩
theorem keep_ex {P : Program} {f : FuncId} {args : Array Value} {ok : Nat → Prop} {w0 : World} {own : List Ent} {fs : List Fact} {γ : Type} {val : γ → Value} {p : γ → Prop} (h : ∀ w, St ok w0 own fs w → Calls P f args w (fun e w' => ∃ r : γ, e = .returned (val r) ∧ p r ∧ Below w.heap.size w w')) :
    ∀ w, St ok w0 own fs w → Calls P f args w (fun e w' => ∃ g, e = .returned (val g) ∧ (p g ∧ St ok w0 own fs w')) :=
  fun w hS => (h w hS).mono fun e w' ⟨r, h1, h2, h3⟩ => ⟨r, h1, h2, hS.keep h3⟩
theorem contf_c {l : List Bs} {a : Option Addr} {cap : Nat} {w : World} {ok : Nat → Prop} (hF1 : (Fact.sl a (strs l)).holds ok w) (hl : l.length ≤ 9223372036854775807) :
    Calls Tryd.prog 49 #[.slice a l.length cap, .func (.func 50) #[] #[]] w fun e w' => e = .returned (.bool (decide (¬ ∀ s ∈ l, okN s))) ∧ Below w.heap.size w w' := by
  refine enter (S := St (fun _ => True) w [] ([Fact.sl a (strs l)])) (L := [(0, .slice a l.length cap), (1, .func (.func 50) #[] #[])]) Tryd.func49 rfl Tryd.ntmps49 rfl (args_cons rfl (args_cons rfl (args_nil _))) (St.start (fun _ _ => trivial) (facts_cons (fact_any hF1) facts_nil)) ?_
  refine WC.sr ?_
  refine WL.r rfl rfl rfl (rd_assign rfl rfl) ?_
  refine WL.nt ?_
  refine WC.sr ?_
  refine WL.r rfl rfl rfl (rd_move rfl rfl) ?_
  refine WL.r rfl rfl rfl (rd_move rfl rfl) ?_
  refine WL.g rfl rfl rfl (og_call rfl rfl (by kernel_rfl) (keep_ex fun w hS => idxf_c (l := l) (a := a) (cap := cap) (w := w) hS.sl hl)) ?_
  intro r; refine WL.pu ?_; intro hr
  refine WL.r rfl rfl rfl (rd_geq rfl rfl rfl) ?_
  refine WL.r rfl rfl rfl (rd_assign rfl rfl) ?_
  refine WL.nt ?_
  refine WC.ret ?_
  exact WX.retN rfl (.tmp rfl .nil) fun w' hS => ⟨congrArg (fun b => Ending.returned (.bool b)) (decide_eq_decide.2 hr), hS.below⟩
theorem good_c {t : Tp} {a : Option Addr} {cap : Nat} {w : World} {ok : Nat → Prop} (hF1 : (Fact.sl a (strs t.vals)).holds ok w) (hl : t.vals.length ≤ 9223372036854775807) :
    Calls Tryd.prog 32 #[t.v (.slice a t.vals.length cap)] w fun e w' => e = .returned (.bool (decide (goodT t))) ∧ Below w.heap.size w w' := by
  refine enter (S := St (fun _ => True) w [] ([Fact.sl a (strs t.vals)])) (L := [(0, t.v (.slice a t.vals.length cap))]) Tryd.func32 rfl Tryd.ntmps32 rfl (args_cons rfl (args_nil _)) (St.start (fun _ _ => trivial) (facts_cons (fact_any hF1) facts_nil)) ?_
  refine WC.sr ?_
  refine WL.g rfl rfl rfl (og_box rfl rfl (by (exact cells_agg _))) ?_
  intro b1
  refine WL.r rfl rfl rfl (rd_assign rfl rfl) ?_
  refine WL.nt ?_
  refine WC.sr ?_
  (refine WL.r rfl rfl rfl (rd_fa (q := 2) rfl rfl Tryd.underlying24 rfl (by kernel_rfl) rfl) ?_)
  (refine WL.r rfl rfl rfl (ld rfl rfl .tc Tryd.underlying3 rfl (by rfl)) ?_)
  refine WL.r rfl rfl rfl (rd_geq rfl rfl rfl) ?_
  refine WL.r rfl rfl rfl (rd_move rfl rfl) ?_
  refine WL.bool 6 rfl (fun hg6 => ?_) (fun hg6 => ?_)
  · (try simp only [sB] at hg6)
    (refine WL.r rfl rfl rfl (rd_fa (q := 2) rfl rfl Tryd.underlying24 rfl (by kernel_rfl) rfl) ?_)
    (refine WL.r rfl rfl rfl (ld rfl rfl .tc Tryd.underlying3 rfl (by rfl)) ?_)
    refine WL.r rfl rfl rfl (rd_leq rfl rfl rfl) ?_
    refine WL.r rfl rfl rfl (rd_pickt rfl rfl rfl) ?_
    refine WL.r rfl rfl rfl (rd_move rfl rfl) ?_
    refine WL.bool 11 rfl (fun hg11 => ?_) (fun hg11 => ?_)
    · (try simp only [sB] at hg11)
      (refine WL.r rfl rfl rfl (rd_fa (q := 0) rfl rfl Tryd.underlying24 rfl (by kernel_rfl) rfl) ?_)
      (refine WL.r rfl rfl rfl (ld rfl rfl .tc Tryd.underlying22 rfl (by rfl)) ?_)
      refine WL.g rfl rfl rfl (og_call rfl rfl (by kernel_rfl) (keep_val fun w hS => contf_c (l := t.vals) (by (exact hS.sl)) (by assumption))) ?_
      intro _
      refine WL.r rfl rfl rfl (rd_not rfl rfl) ?_
      refine WL.r rfl rfl rfl (rd_pickt rfl rfl rfl) ?_
      refine WL.r rfl rfl rfl (rd_assign rfl rfl) ?_
      refine WL.nt ?_
      refine WC.ret ?_
      exact WX.retN rfl (.tmp rfl .nil) fun w' hS => ⟨congrArg (fun b => Ending.returned (.bool b)) (by rw [Bool.eq_iff_iff]; simp only [Bool.not_eq_true', decide_eq_false_iff_not, decide_eq_true_eq, Classical.not_not, Bool.false_eq_true]; unfold goodT; (exact ⟨fun h => ⟨by omega, by omega, h⟩, fun h => h.2.2⟩)), hS.below⟩
    · (try simp only [sB] at hg11)
      refine WL.s rfl rfl rfl ?_
      refine WL.s rfl rfl rfl ?_
      refine WL.s rfl rfl rfl ?_
      refine WL.s rfl rfl rfl ?_
      refine WL.r rfl rfl rfl (rd_pickf rfl rfl rfl) ?_
      refine WL.r rfl rfl rfl (rd_assign rfl rfl) ?_
      refine WL.nt ?_
      refine WC.ret ?_
      exact WX.retN rfl (.tmp rfl .nil) fun w' hS => ⟨congrArg (fun b => Ending.returned (.bool b)) (by rw [Bool.eq_iff_iff]; simp only [Bool.not_eq_true', decide_eq_false_iff_not, decide_eq_true_eq, Classical.not_not, Bool.false_eq_true]; unfold goodT; (exact ⟨fun h => h.elim, fun h => by omega⟩)), hS.below⟩
  · (try simp only [sB] at hg6)
    refine WL.s rfl rfl rfl ?_
    refine WL.s rfl rfl rfl ?_
    refine WL.s rfl rfl rfl ?_
    refine WL.r rfl rfl rfl (rd_pickf rfl rfl rfl) ?_
    refine WL.r rfl rfl rfl (rd_move rfl rfl) ?_
    refine WL.s rfl rfl rfl ?_
    refine WL.s rfl rfl rfl ?_
    refine WL.s rfl rfl rfl ?_
    refine WL.s rfl rfl rfl ?_
    refine WL.r rfl rfl rfl (rd_pickf rfl rfl rfl) ?_
    refine WL.r rfl rfl rfl (rd_assign rfl rfl) ?_
    refine WL.nt ?_
    refine WC.ret ?_
    exact WX.retN rfl (.tmp rfl .nil) fun w' hS => ⟨congrArg (fun b => Ending.returned (.bool b)) (by rw [Bool.eq_iff_iff]; simp only [Bool.not_eq_true', decide_eq_false_iff_not, decide_eq_true_eq, Classical.not_not, Bool.false_eq_true]; unfold goodT; (exact ⟨fun h => h.elim, fun h => by omega⟩)), hS.below⟩
theorem rgood_c {t : Tp} {a : Option Addr} {cap : Nat} {w : World} {ok : Nat → Prop} (hF1 : (Fact.sl a (strs t.vals)).holds ok w) (hl : t.vals.length ≤ 9223372036854775807) :
    Calls Tryd.prog 33 #[t.v (.slice a t.vals.length cap)] w fun e w' => e = .returned (.bool (decide (goodT t))) ∧ Below w.heap.size w w' := by
  refine enter (S := St (fun _ => True) w [] ([Fact.sl a (strs t.vals)])) (L := [(0, t.v (.slice a t.vals.length cap))]) Tryd.func33 rfl Tryd.ntmps33 rfl (args_cons rfl (args_nil _)) (St.start (fun _ _ => trivial) (facts_cons (fact_any hF1) facts_nil)) ?_
  refine WC.sr ?_
  refine WL.g rfl rfl rfl (og_box rfl rfl (by (exact cells_agg _))) ?_
  intro b1
  refine WL.r rfl rfl rfl (rd_assign rfl rfl) ?_
  refine WL.nt ?_
  refine WC.seq ?_
  refine WC.sr ?_
  refine WL.r rfl rfl rfl (rd_assign rfl rfl) ?_
  refine WL.nt ?_
  refine WC.block ?_
  refine WC.loopP (σ := Nat) [(1, _)] (fun g => [(3, .int .i64 (g : Int))]) (fun g => g ≤ t.vals.length ∧ ∀ s ∈ t.vals.take g, okN s) (fun g => t.vals.length - g) (0) (sub_cons rfl (sub_nil _)) (sub_cons rfl (sub_nil _)) (by (try dsimp only); exact ⟨Nat.zero_le _, fun s h => by simp at h⟩) ?_
  rintro k hinv1; (try dsimp only at hinv1 ⊢)
  obtain ⟨hk, hks⟩ := hinv1
  refine WC.seq ?_
  refine WC.sr ?_
  refine WL.r rfl rfl rfl (rd_move rfl rfl) ?_
  (refine WL.r rfl rfl rfl (rd_fa (q := 0) rfl rfl Tryd.underlying24 rfl (by kernel_rfl) rfl) ?_)
  (refine WL.r rfl rfl rfl (ld rfl rfl .tc Tryd.underlying22 rfl (by rfl)) ?_)
  refine WL.r rfl rfl rfl (rd_len rfl rfl Tryd.underlying22) ?_
  refine WL.r rfl rfl rfl (rd_lss rfl rfl rfl) ?_
  refine WL.nt ?_
  refine WC.cond rfl (fun hc8 => ?_) (fun hc8 => ?_)
  · (try simp only [sB] at hc8)
    refine WC.skip ?_
    refine WX.then_normal ?_
    refine WC.seq ?_
    refine WC.block ?_
    refine WC.sr ?_
    (refine WL.r rfl rfl rfl (rd_fa (q := 0) rfl rfl Tryd.underlying24 rfl (by kernel_rfl) rfl) ?_)
    (refine WL.r rfl rfl rfl (ld rfl rfl .tc Tryd.underlying22 rfl (by rfl)) ?_)
    refine WL.r rfl rfl rfl (rd_move rfl rfl) ?_
    (refine WL.r rfl rfl rfl (iaf rfl rfl rfl Tryd.underlying22 (by kernel_rfl : _ = some 1) ?_ ?_ (by (try simp only [sN, Int.reduceToNat, Nat.reduceAdd, Nat.reduceMul, Nat.reduceSub]); rfl)) ?_; (focus (omega)); (focus ((rw [List.length_map]; omega))))
    (refine WL.r rfl rfl rfl (ldm rfl rfl Tryd.underlying33 rfl ?_) ?_; (focus (omega)))
    refine WL.g rfl rfl rfl (og_call rfl rfl (by kernel_rfl) (keep_val fun w hS => rvalid_c (a := t.vals.getD k default))) ?_
    intro _
    refine WL.r rfl rfl rfl (rd_not rfl rfl) ?_
    refine WL.nt ?_
    refine WC.cond rfl (fun hc17 => ?_) (fun hc17 => ?_)
    · (try simp only [sB] at hc17)
      refine WC.sr ?_
      refine WL.r rfl rfl rfl (rd_assign rfl rfl) ?_
      refine WL.nt ?_
      refine WC.ret ?_
      refine WX.block_ret ?_
      refine WX.then_ret ?_
      refine WX.then_ret ?_
      refine WX.block_ret ?_
      refine WX.then_ret ?_
      exact WX.retN rfl (.tmp rfl .nil) fun w' hS => ⟨congrArg (fun b => Ending.returned (.bool b)) (by symm; rw [decide_eq_false_iff_not]; intro h; have := h.2.2 _ (getD_memB t.vals k (by omega)); simp_all), hS.below⟩
    · (try simp only [sB] at hc17)
      refine WC.skip ?_
      refine WX.block_normal ?_
      refine WX.then_normal ?_
      refine WC.region ?_
      refine WL.r rfl rfl rfl (rd_move rfl rfl) ?_
      (refine WL.r rfl rfl rfl (rd_add64nl rfl rfl rfl ?_) ?_; (focus (omega)))
      refine WL.r rfl rfl rfl (rd_assign rfl rfl) ?_
      refine WL.nil ?_
      refine WX.loopP (k + 1) (by (try dsimp only); omega) (sub_cons rfl (sub_nil _)) (by refine (sub_cons ?_ (sub_nil _)) <;> (rfl)) ?_ (by (exact fun _ h => h))
      (try dsimp only)
      exact ⟨by omega, all_takeB (by omega) hks (by simpa using hc17)⟩
  · (try simp only [sB] at hc8)
    refine WC.exit ?_
    refine WX.then_exit ?_
    refine WX.then_exit ?_
    refine WX.block_exit ?_
    obtain rfl : k = t.vals.length := by omega
    rw [List.take_of_length_le (Nat.le_refl _)] at hks
    refine WX.then_normal ?_
    refine WC.sr ?_
    (refine WL.r rfl rfl rfl (rd_fa (q := 2) rfl rfl Tryd.underlying24 rfl (by kernel_rfl) rfl) ?_)
    (refine WL.r rfl rfl rfl (ld rfl rfl .tc Tryd.underlying3 rfl (by rfl)) ?_)
    refine WL.r rfl rfl rfl (rd_geq rfl rfl rfl) ?_
    refine WL.r rfl rfl rfl (rd_move rfl rfl) ?_
    refine WL.bool 21 rfl (fun hg21 => ?_) (fun hg21 => ?_)
    · (try simp only [sB] at hg21)
      (refine WL.r rfl rfl rfl (rd_fa (q := 2) rfl rfl Tryd.underlying24 rfl (by kernel_rfl) rfl) ?_)
      (refine WL.r rfl rfl rfl (ld rfl rfl .tc Tryd.underlying3 rfl (by rfl)) ?_)
      refine WL.r rfl rfl rfl (rd_leq rfl rfl rfl) ?_
      refine WL.r rfl rfl rfl (rd_pickt rfl rfl rfl) ?_
      refine WL.r rfl rfl rfl (rd_assign rfl rfl) ?_
      refine WL.nt ?_
      refine WC.ret ?_
      exact WX.retN rfl (.tmp rfl .nil) fun w' hS => ⟨congrArg (fun b => Ending.returned (.bool b)) (by rw [Bool.eq_iff_iff]; simp only [decide_eq_true_eq, Bool.false_eq_true]; unfold goodT; (exact ⟨fun h => ⟨by omega, by omega, hks⟩, fun h => by omega⟩)), hS.below⟩
    · (try simp only [sB] at hg21)
      refine WL.s rfl rfl rfl ?_
      refine WL.s rfl rfl rfl ?_
      refine WL.s rfl rfl rfl ?_
      refine WL.r rfl rfl rfl (rd_pickf rfl rfl rfl) ?_
      refine WL.r rfl rfl rfl (rd_assign rfl rfl) ?_
      refine WL.nt ?_
      refine WC.ret ?_
      exact WX.retN rfl (.tmp rfl .nil) fun w' hS => ⟨congrArg (fun b => Ending.returned (.bool b)) (by rw [Bool.eq_iff_iff]; simp only [decide_eq_true_eq, Bool.false_eq_true]; unfold goodT; (exact ⟨fun h => h.elim, fun h => by omega⟩)), hS.below⟩
theorem nclone_c {l : List Bs} {a : Option Addr} {m cap : Nat} {w : World} {ok : Nat → Prop} (hF1 : (Fact.sl a (strs l)).holds ok w) (hl : l.length ≤ 1000000) (hm : m = l.length) :
    Calls Tryd.prog 31 #[.slice a m cap] w fun e w' => ∃ g : Rs, e = .returned (g.val l.length) ∧ g.cap = l.length + g.sp.length ∧ St (fun _ => True) w [g.ent (strs l) 33] [] w' := by
  refine enter (S := St (fun _ => True) w [] ([Fact.sl a (strs l)])) (L := [(0, .slice a m cap)]) Tryd.func31 rfl Tryd.ntmps31 rfl (args_cons rfl (args_nil _)) (St.start (fun _ _ => trivial) (facts_cons (fact_any hF1) facts_nil)) ?_
  refine WC.sr ?_
  refine WL.r rfl rfl rfl (rd_assign rfl rfl) ?_
  refine WL.nt ?_
  refine WC.seq ?_
  refine WC.sr ?_
  refine WL.r rfl rfl rfl (rd_move rfl rfl) ?_
  refine WL.r rfl rfl rfl (rd_sleq rfl rfl rfl Tryd.underlying22) ?_
  refine WL.nt ?_
  refine WC.cond rfl (fun hc4 => ?_) (fun hc4 => ?_)
  · (try simp only [sB] at hc4)
    have hl0 : l = [] := by simpa using isNone_nil hF1 hc4
    subst hl0
    refine WC.sr ?_
    refine WL.r rfl rfl rfl (rd_assign rfl rfl) ?_
    refine WL.nt ?_
    refine WC.ret ?_
    refine WX.then_ret ?_
    exact WX.retN rfl (.tmp rfl .nil) fun w' hS => ⟨⟨none, 0, []⟩, rfl, rfl, (hS.nil _).sub (List.Sublist.refl _) (fun _ h => by cases h)⟩
  · (try simp only [sB] at hc4)
    refine WC.skip ?_
    refine WX.then_normal ?_
    refine WC.sr ?_
    refine WL.g rfl rfl rfl (og_bs1 rfl rfl Tryd.underlying22 (by kernel_rfl : _ = some (some (.string (S [])), 1, 16)) rfl (by simp only [List.map]; rfl) rfl rfl ?_ (by decide)) ?_
    · simp [Value.cells]
    intro b5
    refine WL.r rfl rfl rfl (rd_move rfl rfl) ?_
    (refine WL.g rfl rfl rfl (appf rfl Tryd.underlying22 (by kernel_rfl : _ = some (some (.string (S [])), 1, 16)) rfl .tc rfl rfl (fun w hS => by (exact hS.sl)) (by simp [hm]) ?_ ?_) ?_; (focus ((refine ⟨?_, ?_, ?_, ?_⟩ <;> (try simp) <;> omega))); (focus ((simp [Value.oneCell']; done))))
    rintro ⟨o7, c7, s7⟩
    refine WL.pu ?_
    intro hg7; (try dsimp only at hg7 ⊢)
    refine WL.r rfl rfl rfl (rd_assign rfl rfl) ?_
    refine WL.nt ?_
    refine WC.ret ?_
    exact WX.retN rfl (.tmp rfl .nil) fun w' hS => ⟨⟨o7, c7, s7⟩, by simp [Rs.val, hm, tup], by simpa [hm] using hg7, by simpa using hS.sub (List.Sublist.refl _) (fun _ h => by cases h)⟩
theorem values_c {l : List Bs} {a : Option Addr} {m cap : Nat} {w : World} {ok : Nat → Prop} (hF1 : (Fact.sl a (strs l)).holds ok w) (hl : l.length ≤ 1000000) (hm : m = l.length) :
    Calls Tryd.prog 14 #[.slice a m cap] w fun e w' => ∃ g : Rs, e = .returned (.agg #[g.val l.length, .string (S []), .int .i64 0]) ∧ g.cap = l.length + g.sp.length ∧ St (fun _ => True) w [g.ent (strs l) 33] [] w' := by
  refine enter (S := St (fun _ => True) w [] ([Fact.sl a (strs l)])) (L := [(0, .slice a m cap)]) Tryd.func14 rfl Tryd.ntmps14 rfl (args_cons rfl (args_nil _)) (St.start (fun _ _ => trivial) (facts_cons (fact_any hF1) facts_nil)) ?_
  refine WC.sr ?_
  refine WL.g rfl rfl rfl (og_alloc rfl (v := (.agg #[.slice none 0 0, .string (S []), .int .i64 0])) (cs := [.slice none 0 0, .string (S []), .int .i64 0]) (by kernel_rfl) rfl) ?_
  intro b2
  refine WL.nt ?_
  refine WC.sr ?_
  refine WL.r rfl rfl rfl (rd_move rfl rfl) ?_
  refine WL.g rfl rfl rfl (og_call rfl rfl (by kernel_rfl) (keep_o1 fun w hS => nclone_c (l := l) (by (exact hS.sl)) (by assumption) (by assumption))) ?_
  intro g4
  refine WL.pu ?_
  intro hg4; (try dsimp only at hg4 ⊢)
  refine WL.r rfl rfl rfl (rd_bld [[.slice none 0 0], [.string (S [])], [.int .i64 0]] rfl rfl (by simp only [bld, fldv, Nat.beq, Value.cells, cond_true, cond_false, List.nil_append, List.cons_append, List.append_nil]; rfl) (fun w => by kernel_rfl)) ?_
  refine WL.g0 rfl rfl (sta rfl rfl rfl .tc ?_ ?_ ?_) ?_
  · kernel_rfl
  · simp [Value.oneCell']
  · rfl
  intro _
  refine WL.nt ?_
  refine WC.ret ?_
  exact WX.retN rfl (.agg rfl .tc Tryd.underlying24 rfl (by kernel_rfl) .nil) fun w' hS => ⟨g4, rfl, hg4, st_sub _ hS⟩
theorem rvalues_c {l : List Bs} {a : Option Addr} {m cap : Nat} {w : World} {ok : Nat → Prop} (hF1 : (Fact.sl a (strs l)).holds ok w) (hl : l.length ≤ 1000000) (hm : m = l.length) :
    Calls Tryd.prog 15 #[.slice a m cap] w fun e w' => ∃ g : Rs, e = .returned (.agg #[g.val l.length, .string (S []), .int .i64 0]) ∧ g.cap = l.length + g.sp.length ∧ St (fun _ => True) w [g.ent (strs l) 33] [] w' := by
  refine enter (S := St (fun _ => True) w [] ([Fact.sl a (strs l)])) (L := [(0, .slice a m cap)]) Tryd.func15 rfl Tryd.ntmps15 rfl (args_cons rfl (args_nil _)) (St.start (fun _ _ => trivial) (facts_cons (fact_any hF1) facts_nil)) ?_
  refine WC.sr ?_
  refine WL.g rfl rfl rfl (og_alloc rfl (v := (.agg #[.slice none 0 0, .string (S []), .int .i64 0])) (cs := [.slice none 0 0, .string (S []), .int .i64 0]) (by kernel_rfl) rfl) ?_
  intro b2
  refine WL.nt ?_
  refine WC.sr ?_
  refine WL.r rfl rfl rfl (rd_bld [[.slice none 0 0], [.string (S [])], [.int .i64 0]] rfl rfl (by simp only [bld, fldv, Nat.beq, Value.cells, cond_true, cond_false, List.nil_append, List.cons_append, List.append_nil]; rfl) (fun w => by kernel_rfl)) ?_
  refine WL.g rfl rfl rfl (og_alloc rfl (v := (.agg #[.slice none 0 0, .string (S []), .int .i64 0])) (cs := [.slice none 0 0, .string (S []), .int .i64 0]) (by kernel_rfl) rfl) ?_
  intro b3
  refine WL.g0 rfl rfl (sta rfl rfl rfl .tc ?_ ?_ ?_) ?_
  · kernel_rfl
  · simp [Value.oneCell']
  · rfl
  intro _
  refine WL.nt ?_
  refine WC.sr ?_
  (refine WL.r rfl rfl rfl (rd_fa (q := 0) rfl rfl Tryd.underlying24 rfl (by kernel_rfl) rfl) ?_)
  (refine WL.r rfl rfl rfl (ld rfl rfl .tc Tryd.underlying22 rfl (by rfl)) ?_)
  refine WL.r rfl rfl rfl (rd_move rfl rfl) ?_
  (refine WL.st (fun w h => h.nil 33) ?_; refine WL.g rfl rfl rfl (appg (ob := none) (xs := []) (sp := []) rfl Tryd.underlying22 (by kernel_rfl : _ = some (some (.string (S [])), 1, 16)) rfl .tc rfl rfl (fun w hS => by (exact hS.sl)) (by simp [hm]) ?_ ?_) ?_; (focus ((refine ⟨?_, ?_, ?_, ?_⟩ <;> (try simp) <;> omega))); (focus ((simp [Value.oneCell']; done))))
  rintro ⟨o8, c8, s8⟩
  refine WL.pu ?_
  intro hg8; (try dsimp only at hg8 ⊢)
  (refine WL.r rfl rfl rfl (rd_fa (q := 0) rfl rfl Tryd.underlying24 rfl (by kernel_rfl) rfl) ?_)
  refine WL.g0 rfl rfl (st rfl rfl rfl .tc (by kernel_rfl) rfl ?_ (by (simp only [List.set_cons_zero, List.set_cons_succ]; rfl))) ?_
  · decide
  intro _
  refine WL.nt ?_
  refine WC.sr ?_
  refine WL.r rfl rfl rfl (lda rfl rfl .tc Tryd.underlying24 rfl ?_) ?_
  · kernel_rfl
  refine WL.g0 rfl rfl (sta rfl rfl rfl .tc ?_ ?_ ?_) ?_
  · kernel_rfl
  · simp [Value.oneCell']
  · rfl
  intro _
  refine WL.nt ?_
  refine WC.ret ?_
  exact WX.retN rfl (.agg rfl .tc Tryd.underlying24 rfl (by kernel_rfl) .nil) fun w' hS => ⟨⟨o8, c8, s8⟩, by simp [Rs.val, hm, tup], by simpa [hm] using hg8, by rw [List.nil_append] at hS; show St _ _ [⟨o8, strs l ++ s8, _⟩] _ _; exact st_sub _ hS⟩
theorem seed_c {s : Bs} {w : World} :
    Calls Tryd.prog 16 #[.string (S s)] w fun e w' => e = .returned (.agg #[.slice none 0 0, .string (S s), .int .i64 0]) ∧ Below w.heap.size w w' := by
  refine enter (S := St (fun _ => True) w [] ([])) (L := [(0, .string (S s))]) Tryd.func16 rfl Tryd.ntmps16 rfl (args_cons rfl (args_nil _)) (St.start (fun _ _ => trivial) facts_nil) ?_
  refine WC.sr ?_
  refine WL.g rfl rfl rfl (og_alloc rfl (v := (.agg #[.slice none 0 0, .string (S []), .int .i64 0])) (cs := [.slice none 0 0, .string (S []), .int .i64 0]) (by kernel_rfl) rfl) ?_
  intro b2
  refine WL.nt ?_
  refine WC.sr ?_
  refine WL.r rfl rfl rfl (rd_move rfl rfl) ?_
  refine WL.r rfl rfl rfl (rd_bld [[.slice none 0 0], [.string (S [])], [.int .i64 0]] rfl rfl (by simp only [bld, fldv, Nat.beq, Value.cells, cond_true, cond_false, List.nil_append, List.cons_append, List.append_nil]; rfl) (fun w => by kernel_rfl)) ?_
  refine WL.g0 rfl rfl (sta rfl rfl rfl .tc ?_ ?_ ?_) ?_
  · kernel_rfl
  · simp [Value.oneCell']
  · rfl
  intro _
  refine WL.nt ?_
  refine WC.ret ?_
  exact WX.retN rfl (.agg rfl .tc Tryd.underlying24 rfl (by kernel_rfl) .nil) fun w' hS => ⟨by rfl, hS.below⟩
theorem rseed_c {s : Bs} {w : World} :
    Calls Tryd.prog 17 #[.string (S s)] w fun e w' => e = .returned (.agg #[.slice none 0 0, .string (S s), .int .i64 0]) ∧ Below w.heap.size w w' := by
  refine enter (S := St (fun _ => True) w [] ([])) (L := [(0, .string (S s))]) Tryd.func17 rfl Tryd.ntmps17 rfl (args_cons rfl (args_nil _)) (St.start (fun _ _ => trivial) facts_nil) ?_
  refine WC.sr ?_
  refine WL.g rfl rfl rfl (og_alloc rfl (v := (.agg #[.slice none 0 0, .string (S []), .int .i64 0])) (cs := [.slice none 0 0, .string (S []), .int .i64 0]) (by kernel_rfl) rfl) ?_
  intro b2
  refine WL.nt ?_
  refine WC.sr ?_
  refine WL.r rfl rfl rfl (rd_move rfl rfl) ?_
  refine WL.r rfl rfl rfl (rd_bld [[.slice none 0 0], [.string (S [])], [.int .i64 0]] rfl rfl (by simp only [bld, fldv, Nat.beq, Value.cells, cond_true, cond_false, List.nil_append, List.cons_append, List.append_nil]; rfl) (fun w => by kernel_rfl)) ?_
  refine WL.g0 rfl rfl (sta rfl rfl rfl .tc ?_ ?_ ?_) ?_
  · kernel_rfl
  · simp [Value.oneCell']
  · rfl
  intro _
  refine WL.nt ?_
  refine WC.ret ?_
  exact WX.retN rfl (.agg rfl .tc Tryd.underlying24 rfl (by kernel_rfl) .nil) fun w' hS => ⟨by rfl, hS.below⟩
def leftT (t : Tp) : Int := if goodT t then max 0 ((t.vals.length : Int) - t.at_) else 0
theorem left_c {t : Tp} {a : Option Addr} {cap : Nat} {w : World} {ok : Nat → Prop} (hF1 : (Fact.sl a (strs t.vals)).holds ok w) (hl : t.vals.length ≤ 1000000000) :
    Calls Tryd.prog 18 #[t.v (.slice a t.vals.length cap)] w fun e w' => e = .returned (.int .i64 (leftT t)) ∧ Below w.heap.size w w' := by
  refine enter (S := St (fun _ => True) w [] ([Fact.sl a (strs t.vals)])) (L := [(0, t.v (.slice a t.vals.length cap))]) Tryd.func18 rfl Tryd.ntmps18 rfl (args_cons rfl (args_nil _)) (St.start (fun _ _ => trivial) (facts_cons (fact_any hF1) facts_nil)) ?_
  refine WC.sr ?_
  refine WL.g rfl rfl rfl (og_box rfl rfl (by (exact cells_agg _))) ?_
  intro b1
  refine WL.r rfl rfl rfl (rd_assign rfl rfl) ?_
  refine WL.nt ?_
  refine WC.seq ?_
  refine WC.sr ?_
  refine WL.r rfl rfl rfl (lda rfl rfl .tc Tryd.underlying24 rfl ?_) ?_
  · kernel_rfl
  refine WL.g rfl rfl rfl (og_call rfl rfl (by kernel_rfl) (keep_val fun w hS => good_c (t := t) (by (exact hS.sl)) (by omega))) ?_
  intro _
  refine WL.r rfl rfl rfl (rd_not rfl rfl) ?_
  refine WL.nt ?_
  refine WC.cond rfl (fun hc5 => ?_) (fun hc5 => ?_)
  · (try simp only [sB] at hc5)
    refine WC.sr ?_
    refine WL.r rfl rfl rfl (rd_assign rfl rfl) ?_
    refine WL.nt ?_
    refine WC.ret ?_
    refine WX.then_ret ?_
    exact WX.retN rfl (.tmp rfl .nil) fun w' hS => ⟨by rw [leftT, if_neg (by simpa using hc5)]; rfl, hS.below⟩
  · (try simp only [sB] at hc5)
    have hg : goodT t := by simpa using hc5
    have hg1 := hg.1; have hg2 := hg.2.1
    refine WC.skip ?_
    refine WX.then_normal ?_
    refine WC.sr ?_
    (refine WL.r rfl rfl rfl (rd_fa (q := 0) rfl rfl Tryd.underlying24 rfl (by kernel_rfl) rfl) ?_)
    (refine WL.r rfl rfl rfl (ld rfl rfl .tc Tryd.underlying22 rfl (by rfl)) ?_)
    refine WL.r rfl rfl rfl (rd_len rfl rfl Tryd.underlying22) ?_
    (refine WL.r rfl rfl rfl (rd_fa (q := 2) rfl rfl Tryd.underlying24 rfl (by kernel_rfl) rfl) ?_)
    (refine WL.r rfl rfl rfl (ld rfl rfl .tc Tryd.underlying3 rfl (by rfl)) ?_)
    (refine WL.r rfl rfl rfl (rd_sub64 rfl rfl rfl ?_) ?_; (focus (omega)))
    refine WL.r rfl rfl rfl (rd_max2 rfl rfl rfl) ?_
    refine WL.r rfl rfl rfl (rd_assign rfl rfl) ?_
    refine WL.nt ?_
    refine WC.ret ?_
    exact WX.retN rfl (.tmp rfl .nil) fun w' hS => ⟨by rw [leftT, if_pos hg]; rfl, hS.below⟩
theorem rleft_c {t : Tp} {a : Option Addr} {cap : Nat} {w : World} {ok : Nat → Prop} (hF1 : (Fact.sl a (strs t.vals)).holds ok w) (hl : t.vals.length ≤ 1000000000) :
    Calls Tryd.prog 19 #[t.v (.slice a t.vals.length cap)] w fun e w' => e = .returned (.int .i64 (leftT t)) ∧ Below w.heap.size w w' := by
  refine enter (S := St (fun _ => True) w [] ([Fact.sl a (strs t.vals)])) (L := [(0, t.v (.slice a t.vals.length cap))]) Tryd.func19 rfl Tryd.ntmps19 rfl (args_cons rfl (args_nil _)) (St.start (fun _ _ => trivial) (facts_cons (fact_any hF1) facts_nil)) ?_
  refine WC.sr ?_
  refine WL.g rfl rfl rfl (og_box rfl rfl (by (exact cells_agg _))) ?_
  intro b1
  refine WL.r rfl rfl rfl (rd_assign rfl rfl) ?_
  refine WL.nt ?_
  refine WC.seq ?_
  refine WC.sr ?_
  refine WL.r rfl rfl rfl (lda rfl rfl .tc Tryd.underlying24 rfl ?_) ?_
  · kernel_rfl
  refine WL.g rfl rfl rfl (og_call rfl rfl (by kernel_rfl) (keep_val fun w hS => rgood_c (t := t) (by (exact hS.sl)) (by omega))) ?_
  intro _
  refine WL.r rfl rfl rfl (rd_not rfl rfl) ?_
  refine WL.r rfl rfl rfl (rd_move rfl rfl) ?_
  refine WL.bool 6 rfl (fun hg6 => ?_) (fun hg6 => ?_)
  · (try simp only [sB] at hg6)
    refine WL.s rfl rfl rfl ?_
    refine WL.s rfl rfl rfl ?_
    refine WL.s rfl rfl rfl ?_
    refine WL.s rfl rfl rfl ?_
    refine WL.s rfl rfl rfl ?_
    refine WL.s rfl rfl rfl ?_
    refine WL.r rfl rfl rfl (rd_pickt rfl rfl rfl) ?_
    refine WL.nt ?_
    refine WC.cond rfl (fun _ => ?_) (fun h => by cases h)
    refine WC.sr ?_
    refine WL.r rfl rfl rfl (rd_assign rfl rfl) ?_
    refine WL.nt ?_
    refine WC.ret ?_
    refine WX.then_ret ?_
    exact WX.retN rfl (.tmp rfl .nil) fun w' hS => ⟨by (rw [leftT, if_neg hg6]; rfl), hS.below⟩
  · (try simp only [sB] at hg6)
    (refine WL.r rfl rfl rfl (rd_fa (q := 2) rfl rfl Tryd.underlying24 rfl (by kernel_rfl) rfl) ?_)
    (refine WL.r rfl rfl rfl (ld rfl rfl .tc Tryd.underlying3 rfl (by rfl)) ?_)
    (refine WL.r rfl rfl rfl (rd_fa (q := 0) rfl rfl Tryd.underlying24 rfl (by kernel_rfl) rfl) ?_)
    (refine WL.r rfl rfl rfl (ld rfl rfl .tc Tryd.underlying22 rfl (by rfl)) ?_)
    refine WL.r rfl rfl rfl (rd_len rfl rfl Tryd.underlying22) ?_
    refine WL.r rfl rfl rfl (rd_geq rfl rfl rfl) ?_
    refine WL.r rfl rfl rfl (rd_pickf rfl rfl rfl) ?_
    refine WL.nt ?_
    refine WC.cond rfl (fun hc13 => ?_) (fun hc13 => ?_)
    · (try simp only [sB] at hc13)
      refine WC.sr ?_
      refine WL.r rfl rfl rfl (rd_assign rfl rfl) ?_
      refine WL.nt ?_
      refine WC.ret ?_
      refine WX.then_ret ?_
      exact WX.retN rfl (.tmp rfl .nil) fun w' hS => ⟨by (rw [leftT, if_pos hg6]; simp only [tup]; congr 2; omega), hS.below⟩
    · (try simp only [sB] at hc13)
      have hg : goodT t := by simp_all
      have hg1 := hg.1; have hg2 := hg.2.1
      refine WC.skip ?_
      refine WX.then_normal ?_
      refine WC.sr ?_
      (refine WL.r rfl rfl rfl (rd_fa (q := 0) rfl rfl Tryd.underlying24 rfl (by kernel_rfl) rfl) ?_)
      (refine WL.r rfl rfl rfl (ld rfl rfl .tc Tryd.underlying22 rfl (by rfl)) ?_)
      refine WL.r rfl rfl rfl (rd_len rfl rfl Tryd.underlying22) ?_
      (refine WL.r rfl rfl rfl (rd_fa (q := 2) rfl rfl Tryd.underlying24 rfl (by kernel_rfl) rfl) ?_)
      (refine WL.r rfl rfl rfl (ld rfl rfl .tc Tryd.underlying3 rfl (by rfl)) ?_)
      (refine WL.r rfl rfl rfl (rd_sub64 rfl rfl rfl ?_) ?_; (focus (omega)))
      refine WL.r rfl rfl rfl (rd_assign rfl rfl) ?_
      refine WL.nt ?_
      refine WC.ret ?_
      exact WX.retN rfl (.tmp rfl .nil) fun w' hS => ⟨by rw [leftT, if_pos hg]; simp only [tup]; congr 2; omega, hS.below⟩
theorem take_sameL {l m : List Bs} {k : Nat} (h1 : k < l.length) (h2 : k < m.length) (h : l.take k = m.take k) (h3 : l.getD k default = m.getD k default) : l.take (k + 1) = m.take (k + 1) := by
  rw [List.getD_eq_getElem?_getD, List.getD_eq_getElem?_getD, List.getElem?_eq_getElem h1, List.getElem?_eq_getElem h2] at h3
  rw [List.take_add_one, List.take_add_one, h, List.getElem?_eq_getElem h1, List.getElem?_eq_getElem h2]
  rw [Option.toList, Option.toList]; simp only [Option.getD] at h3; rw [h3]
theorem Tp.eq_iff (a b : Tp) : a = b ↔ a.seed = b.seed ∧ a.at_ = b.at_ ∧ a.vals = b.vals := by
  cases a; cases b; simp only [Tp.mk.injEq]; constructor
  · rintro ⟨h1, h2, h3⟩; exact ⟨h2, h3, h1⟩
  · rintro ⟨h1, h2, h3⟩; exact ⟨h3, h1, h2⟩
theorem sameN_c {l m : List Bs} {a b : Option Addr} {ca cb : Nat} {w : World} {ok : Nat → Prop} (hF1 : (Fact.sl a (strs l)).holds ok w) (hF2 : (Fact.sl b (strs m)).holds ok w) (hl : l.length ≤ 1000000) (hm : m.length ≤ 1000000) :
    Calls Tryd.prog 26 #[.slice a l.length ca, .slice b m.length cb] w fun e w' => e = .returned (.bool (decide (l = m))) ∧ Below w.heap.size w w' := by
  refine enter (S := St (fun _ => True) w [] ([Fact.sl a (strs l), Fact.sl b (strs m)])) (L := [(0, .slice a l.length ca), (1, .slice b m.length cb)]) Tryd.func26 rfl Tryd.ntmps26 rfl (args_cons rfl (args_cons rfl (args_nil _))) (St.start (fun _ _ => trivial) (facts_cons (fact_any hF1) (facts_cons (fact_any hF2) facts_nil))) ?_
  refine WC.sr ?_
  refine WL.r rfl rfl rfl (rd_assign rfl rfl) ?_
  refine WL.nt ?_
  refine WC.seq ?_
  refine WC.sr ?_
  refine WL.r rfl rfl rfl (rd_move rfl rfl) ?_
  refine WL.r rfl rfl rfl (rd_len rfl rfl Tryd.underlying22) ?_
  refine WL.r rfl rfl rfl (rd_move rfl rfl) ?_
  refine WL.r rfl rfl rfl (rd_len rfl rfl Tryd.underlying22) ?_
  refine WL.r rfl rfl rfl (rd_neq rfl rfl rfl) ?_
  refine WL.nt ?_
  refine WC.cond rfl (fun hc10 => ?_) (fun hc10 => ?_)
  · (try simp only [sB] at hc10)
    refine WC.sr ?_
    refine WL.r rfl rfl rfl (rd_assign rfl rfl) ?_
    refine WL.nt ?_
    refine WC.ret ?_
    refine WX.then_ret ?_
    exact WX.retN rfl (.tmp rfl .nil) fun w' hS => ⟨congrArg (fun b => Ending.returned (.bool b)) (by symm; rw [decide_eq_false_iff_not]; intro h; rw [h] at hc10; exact hc10 rfl), hS.below⟩
  · (try simp only [sB] at hc10)
    refine WC.skip ?_
    refine WX.then_normal ?_
    refine WC.seq ?_
    refine WC.sr ?_
    refine WL.r rfl rfl rfl (rd_assign rfl rfl) ?_
    refine WL.nt ?_
    refine WC.block ?_
    refine WC.loopP (σ := Nat) [(0, _), (1, _)] (fun g => [(5, .int .i64 (g : Int))]) (fun g => g ≤ l.length ∧ l.take g = m.take g) (fun g => l.length - g) (0) (sub_cons rfl (sub_cons rfl (sub_nil _))) (sub_cons rfl (sub_nil _)) (by (try dsimp only); exact ⟨Nat.zero_le _, by simp⟩) ?_
    rintro k hinv1; (try dsimp only at hinv1 ⊢)
    obtain ⟨hk, hkk⟩ := hinv1
    refine WC.seq ?_
    refine WC.sr ?_
    refine WL.r rfl rfl rfl (rd_move rfl rfl) ?_
    refine WL.r rfl rfl rfl (rd_move rfl rfl) ?_
    refine WL.r rfl rfl rfl (rd_len rfl rfl Tryd.underlying22) ?_
    refine WL.r rfl rfl rfl (rd_lss rfl rfl rfl) ?_
    refine WL.nt ?_
    refine WC.cond rfl (fun hc14 => ?_) (fun hc14 => ?_)
    · (try simp only [sB] at hc14)
      refine WC.skip ?_
      refine WX.then_normal ?_
      refine WC.seq ?_
      refine WC.block ?_
      refine WC.seq ?_
      refine WC.free0 [0, 1, 2, 3, 4, 5, 6, 7, 8] [] [0, 0, 0, 0, 0, 0, 0, 0, 0] (by kernel_rfl) (by kernel_rfl) rfl ?_
      refine WJ.r rfl rfl rfl rfl rfl (rd_move rfl rfl) ?_
      refine WJ.r rfl rfl rfl rfl rfl (rd_move rfl rfl) ?_
      (refine WJ.r rfl rfl rfl rfl rfl (iaf rfl rfl rfl Tryd.underlying22 (by kernel_rfl : _ = some 1) ?_ ?_ (by (try simp only [sN, Int.reduceToNat, Nat.reduceAdd, Nat.reduceMul, Nat.reduceSub]); rfl)) ?_; (focus (omega)); (focus ((rw [List.length_map]; omega))))
      (refine WJ.r rfl rfl rfl rfl rfl (ldm rfl rfl Tryd.underlying33 rfl ?_) ?_; (focus (omega)))
      refine WJ.r rfl rfl rfl rfl rfl (rd_move rfl rfl) ?_
      refine WJ.r rfl rfl rfl rfl rfl (rd_move rfl rfl) ?_
      (refine WJ.r rfl rfl rfl rfl rfl (iaf rfl rfl rfl Tryd.underlying22 (by kernel_rfl : _ = some 1) ?_ ?_ (by (try simp only [sN, Int.reduceToNat, Nat.reduceAdd, Nat.reduceMul, Nat.reduceSub]); rfl)) ?_; (focus (omega)); (focus ((rw [List.length_map]; omega))))
      (refine WJ.r rfl rfl rfl rfl rfl (ldm rfl rfl Tryd.underlying33 rfl ?_) ?_; (focus (omega)))
      refine WJ.r rfl rfl rfl rfl rfl (rd_sne rfl rfl rfl) ?_
      refine WJ.nil ?_
      refine WL.nt ?_
      refine WC.cond rfl (fun hc25 => ?_) (fun hc25 => ?_)
      · (try simp only [sB] at hc25)
        refine WC.sr ?_
        refine WL.r rfl rfl rfl (rd_assign rfl rfl) ?_
        refine WL.nt ?_
        refine WC.ret ?_
        refine WX.block_ret ?_
        refine WX.then_ret ?_
        refine WX.then_ret ?_
        refine WX.block_ret ?_
        refine WX.then_ret ?_
        exact WX.retN rfl (.tmp rfl .nil) fun w' hS => ⟨congrArg (fun b => Ending.returned (.bool b)) (by symm; rw [decide_eq_false_iff_not]; intro h; rw [h] at hc25; simp at hc25), hS.below⟩
      · (try simp only [sB] at hc25)
        refine WC.skip ?_
        refine WX.block_normal ?_
        refine WX.then_normal ?_
        refine WC.region ?_
        refine WL.r rfl rfl rfl (rd_move rfl rfl) ?_
        (refine WL.r rfl rfl rfl (rd_add64nl rfl rfl rfl ?_) ?_; (focus (omega)))
        refine WL.r rfl rfl rfl (rd_assign rfl rfl) ?_
        refine WL.nil ?_
        refine WX.loopP (k + 1) (by (try dsimp only); omega) (sub_cons rfl (sub_cons rfl (sub_nil _))) (by refine (sub_cons ?_ (sub_nil _)) <;> (rfl)) ?_ (by (exact fun _ h => h))
        (try dsimp only)
        exact ⟨by omega, take_sameL (by omega) (by omega) hkk (by simpa using hc25)⟩
    · (try simp only [sB] at hc14)
      refine WC.exit ?_
      refine WX.then_exit ?_
      refine WX.then_exit ?_
      refine WX.block_exit ?_
      obtain rfl : k = l.length := by omega
      rw [List.take_of_length_le (Nat.le_refl _), List.take_of_length_le (by omega)] at hkk
      refine WX.then_normal ?_
      refine WC.sr ?_
      refine WL.r rfl rfl rfl (rd_assign rfl rfl) ?_
      refine WL.nt ?_
      refine WC.ret ?_
      exact WX.retN rfl (.tmp rfl .nil) fun w' hS => ⟨by rw [hkk]; simp [tup], hS.below⟩
theorem sameT_c {t u : Tp} {a b : Option Addr} {ca cb : Nat} {w : World} {ok : Nat → Prop} (hF1 : (Fact.sl a (strs t.vals)).holds ok w) (hF2 : (Fact.sl b (strs u.vals)).holds ok w) (hl : t.vals.length ≤ 1000000) (hm : u.vals.length ≤ 1000000) :
    Calls Tryd.prog 13 #[t.v (.slice a t.vals.length ca), u.v (.slice b u.vals.length cb)] w fun e w' => e = .returned (.bool (decide (t = u))) ∧ Below w.heap.size w w' := by
  refine enter (S := St (fun _ => True) w [] ([Fact.sl a (strs t.vals), Fact.sl b (strs u.vals)])) (L := [(0, t.v (.slice a t.vals.length ca)), (1, u.v (.slice b u.vals.length cb))]) Tryd.func13 rfl Tryd.ntmps13 rfl (args_cons rfl (args_cons rfl (args_nil _))) (St.start (fun _ _ => trivial) (facts_cons (fact_any hF1) (facts_cons (fact_any hF2) facts_nil))) ?_
  refine WC.sr ?_
  refine WL.g rfl rfl rfl (og_box rfl rfl (by (exact cells_agg _))) ?_
  intro b2
  refine WL.g rfl rfl rfl (og_box rfl rfl (by (exact cells_agg _))) ?_
  intro b3
  refine WL.r rfl rfl rfl (rd_assign rfl rfl) ?_
  refine WL.nt ?_
  refine WC.seq ?_
  refine WC.sr ?_
  (refine WL.r rfl rfl rfl (rd_fa (q := 1) rfl rfl Tryd.underlying24 rfl (by kernel_rfl) rfl) ?_)
  (refine WL.r rfl rfl rfl (ld rfl rfl .tc Tryd.underlying9 rfl (by rfl)) ?_)
  (refine WL.r rfl rfl rfl (rd_fa (q := 1) rfl rfl Tryd.underlying24 rfl (by kernel_rfl) rfl) ?_)
  (refine WL.r rfl rfl rfl (ld rfl rfl .tc Tryd.underlying9 rfl (by rfl)) ?_)
  refine WL.r rfl rfl rfl (rd_sne rfl rfl rfl) ?_
  refine WL.r rfl rfl rfl (rd_move rfl rfl) ?_
  refine WL.bool 11 rfl (fun hg11 => ?_) (fun hg11 => ?_)
  · (try simp only [sB] at hg11)
    refine WL.s rfl rfl rfl ?_
    refine WL.s rfl rfl rfl ?_
    refine WL.s rfl rfl rfl ?_
    refine WL.s rfl rfl rfl ?_
    refine WL.s rfl rfl rfl ?_
    refine WL.r rfl rfl rfl (rd_pickt rfl rfl rfl) ?_
    refine WL.r rfl rfl rfl (rd_move rfl rfl) ?_
    refine WL.s rfl rfl rfl ?_
    refine WL.s rfl rfl rfl ?_
    refine WL.s rfl rfl rfl ?_
    refine WL.s rfl rfl rfl ?_
    refine WL.s rfl rfl rfl ?_
    refine WL.s rfl rfl rfl ?_
    refine WL.s rfl rfl rfl ?_
    refine WL.r rfl rfl rfl (rd_pickt rfl rfl rfl) ?_
    refine WL.nt ?_
    refine WC.cond rfl (fun _ => ?_) (fun h => by cases h)
    refine WC.sr ?_
    refine WL.r rfl rfl rfl (rd_assign rfl rfl) ?_
    refine WL.nt ?_
    refine WC.ret ?_
    refine WX.then_ret ?_
    exact WX.retN rfl (.tmp rfl .nil) fun w' hS => ⟨congrArg (fun b => Ending.returned (.bool b)) (by symm; rw [decide_eq_false_iff_not]; rintro rfl; simp_all), hS.below⟩
  · (try simp only [sB] at hg11)
    (refine WL.r rfl rfl rfl (rd_fa (q := 2) rfl rfl Tryd.underlying24 rfl (by kernel_rfl) rfl) ?_)
    (refine WL.r rfl rfl rfl (ld rfl rfl .tc Tryd.underlying3 rfl (by rfl)) ?_)
    (refine WL.r rfl rfl rfl (rd_fa (q := 2) rfl rfl Tryd.underlying24 rfl (by kernel_rfl) rfl) ?_)
    (refine WL.r rfl rfl rfl (ld rfl rfl .tc Tryd.underlying3 rfl (by rfl)) ?_)
    refine WL.r rfl rfl rfl (rd_neq rfl rfl rfl) ?_
    refine WL.r rfl rfl rfl (rd_pickf rfl rfl rfl) ?_
    refine WL.r rfl rfl rfl (rd_move rfl rfl) ?_
    refine WL.bool 18 rfl (fun hg18 => ?_) (fun hg18 => ?_)
    · (try simp only [sB] at hg18)
      refine WL.s rfl rfl rfl ?_
      refine WL.s rfl rfl rfl ?_
      refine WL.s rfl rfl rfl ?_
      refine WL.s rfl rfl rfl ?_
      refine WL.s rfl rfl rfl ?_
      refine WL.s rfl rfl rfl ?_
      refine WL.s rfl rfl rfl ?_
      refine WL.r rfl rfl rfl (rd_pickt rfl rfl rfl) ?_
      refine WL.nt ?_
      refine WC.cond rfl (fun _ => ?_) (fun h => by cases h)
      refine WC.sr ?_
      refine WL.r rfl rfl rfl (rd_assign rfl rfl) ?_
      refine WL.nt ?_
      refine WC.ret ?_
      refine WX.then_ret ?_
      exact WX.retN rfl (.tmp rfl .nil) fun w' hS => ⟨congrArg (fun b => Ending.returned (.bool b)) (by symm; rw [decide_eq_false_iff_not]; rintro rfl; simp_all), hS.below⟩
    · (try simp only [sB] at hg18)
      (refine WL.r rfl rfl rfl (rd_fa (q := 0) rfl rfl Tryd.underlying24 rfl (by kernel_rfl) rfl) ?_)
      (refine WL.r rfl rfl rfl (ld rfl rfl .tc Tryd.underlying22 rfl (by rfl)) ?_)
      refine WL.r rfl rfl rfl (rd_len rfl rfl Tryd.underlying22) ?_
      (refine WL.r rfl rfl rfl (rd_fa (q := 0) rfl rfl Tryd.underlying24 rfl (by kernel_rfl) rfl) ?_)
      (refine WL.r rfl rfl rfl (ld rfl rfl .tc Tryd.underlying22 rfl (by rfl)) ?_)
      refine WL.r rfl rfl rfl (rd_len rfl rfl Tryd.underlying22) ?_
      refine WL.r rfl rfl rfl (rd_neq rfl rfl rfl) ?_
      refine WL.r rfl rfl rfl (rd_pickf rfl rfl rfl) ?_
      refine WL.nt ?_
      refine WC.cond rfl (fun hc26 => ?_) (fun hc26 => ?_)
      · (try simp only [sB] at hc26)
        refine WC.sr ?_
        refine WL.r rfl rfl rfl (rd_assign rfl rfl) ?_
        refine WL.nt ?_
        refine WC.ret ?_
        refine WX.then_ret ?_
        exact WX.retN rfl (.tmp rfl .nil) fun w' hS => ⟨congrArg (fun b => Ending.returned (.bool b)) (by symm; rw [decide_eq_false_iff_not]; rintro rfl; simp_all), hS.below⟩
      · (try simp only [sB] at hc26)
        have hsd : t.seed = u.seed := by simp_all
        have hat : t.at_ = u.at_ := by simp_all
        have hln : t.vals.length = u.vals.length := by omega
        refine WC.skip ?_
        refine WX.then_normal ?_
        refine WC.seq ?_
        refine WC.sr ?_
        refine WL.r rfl rfl rfl (rd_assign rfl rfl) ?_
        refine WL.nt ?_
        refine WC.block ?_
        refine WC.loopP (σ := Nat) [(2, _), (3, _)] (fun g => [(5, .int .i64 (g : Int))]) (fun g => g ≤ t.vals.length ∧ t.vals.take g = u.vals.take g) (fun g => t.vals.length - g) (0) (sub_cons rfl (sub_cons rfl (sub_nil _))) (sub_cons rfl (sub_nil _)) (by (try dsimp only); exact ⟨Nat.zero_le _, by simp⟩) ?_
        rintro k hinv1; (try dsimp only at hinv1 ⊢)
        obtain ⟨hk, hkk⟩ := hinv1
        refine WC.seq ?_
        refine WC.sr ?_
        refine WL.r rfl rfl rfl (rd_move rfl rfl) ?_
        (refine WL.r rfl rfl rfl (rd_fa (q := 0) rfl rfl Tryd.underlying24 rfl (by kernel_rfl) rfl) ?_)
        (refine WL.r rfl rfl rfl (ld rfl rfl .tc Tryd.underlying22 rfl (by rfl)) ?_)
        refine WL.r rfl rfl rfl (rd_len rfl rfl Tryd.underlying22) ?_
        refine WL.r rfl rfl rfl (rd_lss rfl rfl rfl) ?_
        refine WL.nt ?_
        refine WC.cond rfl (fun hc31 => ?_) (fun hc31 => ?_)
        · (try simp only [sB] at hc31)
          refine WC.skip ?_
          refine WX.then_normal ?_
          refine WC.seq ?_
          refine WC.block ?_
          refine WC.seq ?_
          refine WC.free0 [0, 1, 2, 3, 4, 5, 6, 7, 8, 9, 10] [] [0, 0, 0, 0, 0, 0, 0, 0, 0, 0, 0] (by kernel_rfl) (by kernel_rfl) rfl ?_
          (refine WJ.r rfl rfl rfl rfl rfl (rd_fa (q := 0) rfl rfl Tryd.underlying24 rfl (by kernel_rfl) rfl) ?_)
          (refine WJ.r rfl rfl rfl rfl rfl (ld rfl rfl .tc Tryd.underlying22 rfl (by rfl)) ?_)
          refine WJ.r rfl rfl rfl rfl rfl (rd_move rfl rfl) ?_
          (refine WJ.r rfl rfl rfl rfl rfl (iaf rfl rfl rfl Tryd.underlying22 (by kernel_rfl : _ = some 1) ?_ ?_ (by (try simp only [sN, Int.reduceToNat, Nat.reduceAdd, Nat.reduceMul, Nat.reduceSub]); rfl)) ?_; (focus (omega)); (focus ((rw [List.length_map]; omega))))
          (refine WJ.r rfl rfl rfl rfl rfl (ldm rfl rfl Tryd.underlying33 rfl ?_) ?_; (focus (omega)))
          (refine WJ.r rfl rfl rfl rfl rfl (rd_fa (q := 0) rfl rfl Tryd.underlying24 rfl (by kernel_rfl) rfl) ?_)
          (refine WJ.r rfl rfl rfl rfl rfl (ld rfl rfl .tc Tryd.underlying22 rfl (by rfl)) ?_)
          refine WJ.r rfl rfl rfl rfl rfl (rd_move rfl rfl) ?_
          (refine WJ.r rfl rfl rfl rfl rfl (iaf rfl rfl rfl Tryd.underlying22 (by kernel_rfl : _ = some 1) ?_ ?_ (by (try simp only [sN, Int.reduceToNat, Nat.reduceAdd, Nat.reduceMul, Nat.reduceSub]); rfl)) ?_; (focus (omega)); (focus ((rw [List.length_map]; omega))))
          (refine WJ.r rfl rfl rfl rfl rfl (ldm rfl rfl Tryd.underlying33 rfl ?_) ?_; (focus (omega)))
          refine WJ.r rfl rfl rfl rfl rfl (rd_sne rfl rfl rfl) ?_
          refine WJ.nil ?_
          refine WL.nt ?_
          refine WC.cond rfl (fun hc44 => ?_) (fun hc44 => ?_)
          · (try simp only [sB] at hc44)
            refine WC.sr ?_
            refine WL.r rfl rfl rfl (rd_assign rfl rfl) ?_
            refine WL.nt ?_
            refine WC.ret ?_
            refine WX.block_ret ?_
            refine WX.then_ret ?_
            refine WX.then_ret ?_
            refine WX.block_ret ?_
            refine WX.then_ret ?_
            exact WX.retN rfl (.tmp rfl .nil) fun w' hS => ⟨congrArg (fun b => Ending.returned (.bool b)) (by symm; rw [decide_eq_false_iff_not]; intro h; rw [h] at hc44; simp at hc44), hS.below⟩
          · (try simp only [sB] at hc44)
            refine WC.skip ?_
            refine WX.block_normal ?_
            refine WX.then_normal ?_
            refine WC.region ?_
            refine WL.r rfl rfl rfl (rd_move rfl rfl) ?_
            (refine WL.r rfl rfl rfl (rd_add64nl rfl rfl rfl ?_) ?_; (focus (omega)))
            refine WL.r rfl rfl rfl (rd_assign rfl rfl) ?_
            refine WL.nil ?_
            refine WX.loopP (k + 1) (by (try dsimp only); omega) (sub_cons rfl (sub_cons rfl (sub_nil _))) (by refine (sub_cons ?_ (sub_nil _)) <;> (rfl)) ?_ (by (exact fun _ h => h))
            (try dsimp only)
            exact ⟨by omega, take_sameL (by omega) (by omega) hkk (by simpa using hc44)⟩
        · (try simp only [sB] at hc31)
          refine WC.exit ?_
          refine WX.then_exit ?_
          refine WX.then_exit ?_
          refine WX.block_exit ?_
          obtain rfl : k = t.vals.length := by omega
          rw [List.take_of_length_le (Nat.le_refl _), List.take_of_length_le (by omega)] at hkk
          refine WX.then_normal ?_
          refine WC.sr ?_
          refine WL.r rfl rfl rfl (rd_assign rfl rfl) ?_
          refine WL.nt ?_
          refine WC.ret ?_
          exact WX.retN rfl (.tmp rfl .nil) fun w' hS => ⟨congrArg (fun b => Ending.returned (.bool b)) (by symm; rw [decide_eq_true_eq, Tp.eq_iff]; exact ⟨hsd, hat, hkk⟩), hS.below⟩
def fewT (t : Tp) : Prop := t.vals.length ≤ 40 ∧ t.seed.length ≤ 100 ∧ ∀ s ∈ t.vals, s.length ≤ 140
instance (t : Tp) : Decidable (fewT t) := inferInstanceAs (Decidable (_ ∧ _ ∧ _))
theorem fewT_c {t : Tp} {a : Option Addr} {cap : Nat} {w : World} {ok : Nat → Prop} (hF1 : (Fact.sl a (strs t.vals)).holds ok w) (hl : t.vals.length ≤ 9223372036854775807) :
    Calls Tryd.prog 11 #[t.v (.slice a t.vals.length cap)] w fun e w' => e = .returned (.bool (decide (fewT t))) ∧ Below w.heap.size w w' := by
  refine enter (S := St (fun _ => True) w [] ([Fact.sl a (strs t.vals)])) (L := [(0, t.v (.slice a t.vals.length cap))]) Tryd.func11 rfl Tryd.ntmps11 rfl (args_cons rfl (args_nil _)) (St.start (fun _ _ => trivial) (facts_cons (fact_any hF1) facts_nil)) ?_
  refine WC.sr ?_
  refine WL.g rfl rfl rfl (og_box rfl rfl (by (exact cells_agg _))) ?_
  intro b1
  refine WL.r rfl rfl rfl (rd_assign rfl rfl) ?_
  refine WL.nt ?_
  refine WC.seq ?_
  refine WC.sr ?_
  refine WL.r rfl rfl rfl (rd_assign rfl rfl) ?_
  refine WL.nt ?_
  refine WC.block ?_
  refine WC.loopP (σ := Nat) [(1, _)] (fun g => [(3, .int .i64 (g : Int))]) (fun g => g ≤ t.vals.length ∧ g ≤ 40 ∧ ∀ s ∈ t.vals.take g, s.length ≤ 140) (fun g => t.vals.length - g) (0) (sub_cons rfl (sub_nil _)) (sub_cons rfl (sub_nil _)) (by (try dsimp only); exact ⟨Nat.zero_le _, by omega, fun s h => by simp at h⟩) ?_
  rintro k hinv1; (try dsimp only at hinv1 ⊢)
  obtain ⟨hk, hk4, hks⟩ := hinv1
  refine WC.seq ?_
  refine WC.sr ?_
  refine WL.r rfl rfl rfl (rd_move rfl rfl) ?_
  (refine WL.r rfl rfl rfl (rd_fa (q := 0) rfl rfl Tryd.underlying24 rfl (by kernel_rfl) rfl) ?_)
  (refine WL.r rfl rfl rfl (ld rfl rfl .tc Tryd.underlying22 rfl (by rfl)) ?_)
  refine WL.r rfl rfl rfl (rd_len rfl rfl Tryd.underlying22) ?_
  refine WL.r rfl rfl rfl (rd_lss rfl rfl rfl) ?_
  refine WL.r rfl rfl rfl (rd_move rfl rfl) ?_
  refine WL.bool 9 rfl (fun hg9 => ?_) (fun hg9 => ?_)
  · (try simp only [sB] at hg9)
    refine WL.r rfl rfl rfl (rd_move rfl rfl) ?_
    refine WL.r rfl rfl rfl (rd_lss rfl rfl rfl) ?_
    refine WL.r rfl rfl rfl (rd_pickt rfl rfl rfl) ?_
    refine WL.nt ?_
    refine WC.cond rfl (fun hc12 => ?_) (fun hc12 => ?_)
    · (try simp only [sB] at hc12)
      refine WC.skip ?_
      refine WX.then_normal ?_
      refine WC.seq ?_
      refine WC.block ?_
      refine WC.sr ?_
      (refine WL.r rfl rfl rfl (rd_fa (q := 0) rfl rfl Tryd.underlying24 rfl (by kernel_rfl) rfl) ?_)
      (refine WL.r rfl rfl rfl (ld rfl rfl .tc Tryd.underlying22 rfl (by rfl)) ?_)
      refine WL.r rfl rfl rfl (rd_move rfl rfl) ?_
      (refine WL.r rfl rfl rfl (iaf rfl rfl rfl Tryd.underlying22 (by kernel_rfl : _ = some 1) ?_ ?_ (by (try simp only [sN, Int.reduceToNat, Nat.reduceAdd, Nat.reduceMul, Nat.reduceSub]); rfl)) ?_; (focus (omega)); (focus ((rw [List.length_map]; omega))))
      (refine WL.r rfl rfl rfl (ldm rfl rfl Tryd.underlying33 rfl ?_) ?_; (focus (omega)))
      refine WL.r rfl rfl rfl (rd_slen rfl rfl Tryd.underlying33) ?_
      refine WL.r rfl rfl rfl (rd_gtr rfl rfl rfl) ?_
      refine WL.nt ?_
      refine WC.cond rfl (fun hc21 => ?_) (fun hc21 => ?_)
      · (try simp only [sB] at hc21)
        refine WC.sr ?_
        refine WL.r rfl rfl rfl (rd_assign rfl rfl) ?_
        refine WL.nt ?_
        refine WC.ret ?_
        refine WX.block_ret ?_
        refine WX.then_ret ?_
        refine WX.then_ret ?_
        refine WX.block_ret ?_
        refine WX.then_ret ?_
        exact WX.retN rfl (.tmp rfl .nil) fun w' hS => ⟨congrArg (fun b => Ending.returned (.bool b)) (by symm; rw [decide_eq_false_iff_not]; intro h; have := h.2.2 _ (getD_memB t.vals k (by omega)); omega), hS.below⟩
      · (try simp only [sB] at hc21)
        refine WC.skip ?_
        refine WX.block_normal ?_
        refine WX.then_normal ?_
        refine WC.region ?_
        refine WL.r rfl rfl rfl (rd_move rfl rfl) ?_
        (refine WL.r rfl rfl rfl (rd_add64nl rfl rfl rfl ?_) ?_; (focus (omega)))
        refine WL.r rfl rfl rfl (rd_assign rfl rfl) ?_
        refine WL.nil ?_
        refine WX.loopP (k + 1) (by (try dsimp only); omega) (sub_cons rfl (sub_nil _)) (by refine (sub_cons ?_ (sub_nil _)) <;> (rfl)) ?_ (by (exact fun _ h => h))
        (try dsimp only)
        exact ⟨by omega, by omega, all_takeB (by omega) hks (by omega)⟩
    · (try simp only [sB] at hc12)
      refine WC.exit ?_
      refine WX.then_exit ?_
      refine WX.then_exit ?_
      refine WX.block_exit ?_
      refine WX.then_normal ?_
      refine WC.sr ?_
      (refine WL.r rfl rfl rfl (rd_fa (q := 0) rfl rfl Tryd.underlying24 rfl (by kernel_rfl) rfl) ?_)
      (refine WL.r rfl rfl rfl (ld rfl rfl .tc Tryd.underlying22 rfl (by rfl)) ?_)
      refine WL.r rfl rfl rfl (rd_len rfl rfl Tryd.underlying22) ?_
      refine WL.r rfl rfl rfl (rd_leq rfl rfl rfl) ?_
      refine WL.r rfl rfl rfl (rd_move rfl rfl) ?_
      refine WL.bool 26 rfl (fun hg26 => ?_) (fun hg26 => ?_)
      · (try simp only [sB] at hg26)
        (refine WL.r rfl rfl rfl (rd_fa (q := 1) rfl rfl Tryd.underlying24 rfl (by kernel_rfl) rfl) ?_)
        (refine WL.r rfl rfl rfl (ld rfl rfl .tc Tryd.underlying9 rfl (by rfl)) ?_)
        refine WL.r rfl rfl rfl (rd_slen rfl rfl Tryd.underlying9) ?_
        refine WL.r rfl rfl rfl (rd_leq rfl rfl rfl) ?_
        refine WL.r rfl rfl rfl (rd_pickt rfl rfl rfl) ?_
        refine WL.r rfl rfl rfl (rd_assign rfl rfl) ?_
        refine WL.nt ?_
        refine WC.ret ?_
        exact WX.retN rfl (.tmp rfl .nil) fun w' hS => ⟨congrArg (fun b => Ending.returned (.bool b)) (by rw [Bool.eq_iff_iff]; simp only [decide_eq_true_eq, Bool.false_eq_true]; unfold fewT; (exact ⟨fun h => ⟨by omega, by omega, by rw [List.take_of_length_le (by omega)] at hks; exact hks⟩, fun h => by omega⟩)), hS.below⟩
      · (try simp only [sB] at hg26)
        refine WL.s rfl rfl rfl ?_
        refine WL.s rfl rfl rfl ?_
        refine WL.s rfl rfl rfl ?_
        refine WL.s rfl rfl rfl ?_
        refine WL.r rfl rfl rfl (rd_pickf rfl rfl rfl) ?_
        refine WL.r rfl rfl rfl (rd_assign rfl rfl) ?_
        refine WL.nt ?_
        refine WC.ret ?_
        exact WX.retN rfl (.tmp rfl .nil) fun w' hS => ⟨congrArg (fun b => Ending.returned (.bool b)) (by rw [Bool.eq_iff_iff]; simp only [decide_eq_true_eq, Bool.false_eq_true]; unfold fewT; (exact ⟨fun h => h.elim, fun h => by omega⟩)), hS.below⟩
  · (try simp only [sB] at hg9)
    refine WL.s rfl rfl rfl ?_
    refine WL.s rfl rfl rfl ?_
    refine WL.r rfl rfl rfl (rd_pickf rfl rfl rfl) ?_
    refine WL.nt ?_
    refine WC.cond rfl (fun h => by cases h) (fun _ => ?_)
    refine WC.exit ?_
    refine WX.then_exit ?_
    refine WX.then_exit ?_
    refine WX.block_exit ?_
    refine WX.then_normal ?_
    refine WC.sr ?_
    (refine WL.r rfl rfl rfl (rd_fa (q := 0) rfl rfl Tryd.underlying24 rfl (by kernel_rfl) rfl) ?_)
    (refine WL.r rfl rfl rfl (ld rfl rfl .tc Tryd.underlying22 rfl (by rfl)) ?_)
    refine WL.r rfl rfl rfl (rd_len rfl rfl Tryd.underlying22) ?_
    refine WL.r rfl rfl rfl (rd_leq rfl rfl rfl) ?_
    refine WL.r rfl rfl rfl (rd_move rfl rfl) ?_
    refine WL.bool 26 rfl (fun hg26 => ?_) (fun hg26 => ?_)
    · (try simp only [sB] at hg26)
      (refine WL.r rfl rfl rfl (rd_fa (q := 1) rfl rfl Tryd.underlying24 rfl (by kernel_rfl) rfl) ?_)
      (refine WL.r rfl rfl rfl (ld rfl rfl .tc Tryd.underlying9 rfl (by rfl)) ?_)
      refine WL.r rfl rfl rfl (rd_slen rfl rfl Tryd.underlying9) ?_
      refine WL.r rfl rfl rfl (rd_leq rfl rfl rfl) ?_
      refine WL.r rfl rfl rfl (rd_pickt rfl rfl rfl) ?_
      refine WL.r rfl rfl rfl (rd_assign rfl rfl) ?_
      refine WL.nt ?_
      refine WC.ret ?_
      exact WX.retN rfl (.tmp rfl .nil) fun w' hS => ⟨congrArg (fun b => Ending.returned (.bool b)) (by rw [Bool.eq_iff_iff]; simp only [decide_eq_true_eq, Bool.false_eq_true]; unfold fewT; (exact ⟨fun h => ⟨by omega, by omega, by rw [List.take_of_length_le (by omega)] at hks; exact hks⟩, fun h => by omega⟩)), hS.below⟩
    · (try simp only [sB] at hg26)
      refine WL.s rfl rfl rfl ?_
      refine WL.s rfl rfl rfl ?_
      refine WL.s rfl rfl rfl ?_
      refine WL.s rfl rfl rfl ?_
      refine WL.r rfl rfl rfl (rd_pickf rfl rfl rfl) ?_
      refine WL.r rfl rfl rfl (rd_assign rfl rfl) ?_
      refine WL.nt ?_
      refine WC.ret ?_
      exact WX.retN rfl (.tmp rfl .nil) fun w' hS => ⟨congrArg (fun b => Ending.returned (.bool b)) (by rw [Bool.eq_iff_iff]; simp only [decide_eq_true_eq, Bool.false_eq_true]; unfold fewT; (exact ⟨fun h => h.elim, fun h => by omega⟩)), hS.below⟩
end Go.Proofs.YtikcjkifhliidaaDoor
