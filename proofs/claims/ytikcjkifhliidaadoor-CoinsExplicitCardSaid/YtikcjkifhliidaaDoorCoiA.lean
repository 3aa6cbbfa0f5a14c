/-
  The statements about coins: CoinsDraws, CoinsSigned, CoinsMakes.
-/
import Derived.Test.YtikcjkifhliidaaDoorCoi9
namespace Go.Proofs.YtikcjkifhliidaaDoor
set_option linter.unusedSimpArgs false
set_option linter.unusedVariables false
set_option maxRecDepth 20000
set_option maxHeartbeats 600000
open Go.RowKit

theorem draw_vals (t : Tp) (n : Bs) : (drawS t n).2.1.vals.length ≤ t.vals.length := by
  unfold drawS; repeat' split
  all_goals simp [zeroT]
theorem below_vals (t : Tp) (n : Bs) : (belowS t n).2.1.vals.length ≤ t.vals.length := by
  unfold belowS; split
  · simp [zeroT]
  · exact draw_vals t n
theorem signed_vals (t : Tp) (n : Bs) : (signedS t n).2.1.vals.length ≤ t.vals.length := by
  unfold signedS; repeat' split
  all_goals first | (simp [zeroT]; done) | exact draw_vals _ _
theorem coinsDraws_c {t : Tp} {n : Bs} {a : Option Addr} {cap : Nat} {w : World} {ok : Nat → Prop} (hF1 : (Fact.sl a (strs t.vals)).holds ok w) (hl : t.vals.length ≤ 9223372036854775807) (hT : Tab w) :
    Calls Tryd.prog 4 #[t.v (.slice a t.vals.length cap), .string (S n)] w fun e w' => e = .returned (.bool true) ∧ Below w.heap.size w w' := by
  refine enter (S := St (fun _ => True) w [] ([Fact.sl a (strs t.vals)])) (L := [(0, t.v (.slice a t.vals.length cap)), (1, .string (S n))]) Tryd.func4 rfl Tryd.ntmps4 rfl (args_cons rfl (args_cons rfl (args_nil _))) (St.start (fun _ _ => trivial) (facts_cons (fact_any hF1) facts_nil)) ?_
  refine WC.sr ?_
  refine WL.g rfl rfl rfl (og_box rfl rfl (by (exact cells_agg _))) ?_
  intro b2
  refine WL.r rfl rfl rfl (rd_assign rfl rfl) ?_
  refine WL.nt ?_
  refine WC.seq ?_
  refine WC.sr ?_
  refine WL.r rfl rfl rfl (lda rfl rfl .tc Tryd.underlying24 rfl ?_) ?_
  · kernel_rfl
  refine WL.g rfl rfl rfl (og_call rfl rfl (by kernel_rfl) (keep_val fun w hS => fewT_c (t := t) (by (exact hS.sl)) (by assumption))) ?_
  intro _
  refine WL.r rfl rfl rfl (rd_not rfl rfl) ?_
  refine WL.r rfl rfl rfl (rd_move rfl rfl) ?_
  refine WL.bool 14 rfl (fun hg14 => ?_) (fun hg14 => ?_)
  · (try simp only [sB] at hg14)
    refine WL.s rfl rfl rfl ?_
    refine WL.s rfl rfl rfl ?_
    refine WL.s rfl rfl rfl ?_
    refine WL.r rfl rfl rfl (rd_pickt rfl rfl rfl) ?_
    refine WL.nt ?_
    refine WC.cond rfl (fun _ => ?_) (fun h => by cases h)
    refine WC.sr ?_
    refine WL.g rfl rfl rfl (og_call rfl rfl (by kernel_rfl) (keep_val fun w hS => awake_c (by (exact tab_st hT hS)))) ?_
    intro _
    refine WL.r rfl rfl rfl (rd_assign rfl rfl) ?_
    refine WL.nt ?_
    refine WC.ret ?_
    refine WX.then_ret ?_
    exact WX.retN rfl (.tmp rfl .nil) fun w' hS => ⟨by rfl, hS.below⟩
  · (try simp only [sB] at hg14)
    refine WL.r rfl rfl rfl (rd_move rfl rfl) ?_
    refine WL.r rfl rfl rfl (rd_slen rfl rfl Tryd.underlying33) ?_
    refine WL.r rfl rfl rfl (rd_gtr rfl rfl rfl) ?_
    refine WL.r rfl rfl rfl (rd_pickf rfl rfl rfl) ?_
    refine WL.nt ?_
    refine WC.cond rfl (fun hc18 => ?_) (fun hc18 => ?_)
    · (try simp only [sB] at hc18)
      refine WC.sr ?_
      refine WL.g rfl rfl rfl (og_call rfl rfl (by kernel_rfl) (keep_val fun w hS => awake_c (by (exact tab_st hT hS)))) ?_
      intro _
      refine WL.r rfl rfl rfl (rd_assign rfl rfl) ?_
      refine WL.nt ?_
      refine WC.ret ?_
      refine WX.then_ret ?_
      exact WX.retN rfl (.tmp rfl .nil) fun w' hS => ⟨by rfl, hS.below⟩
    · (try simp only [sB] at hc18)
      have hf : fewT t := by simp_all
      have hv := hf.1; have hse := hf.2.1
      obtain ⟨r, hr⟩ : ∃ r, r = belowS t n := ⟨_, rfl⟩
      have hrv := below_vals t n
      rw [← hr] at hrv
      refine WC.skip ?_
      refine WX.then_normal ?_
      refine WC.sr ?_
      refine WL.r rfl rfl rfl (lda rfl rfl .tc Tryd.underlying24 rfl ?_) ?_
      · kernel_rfl
      refine WL.r rfl rfl rfl (rd_move rfl rfl) ?_
      refine WL.g rfl rfl rfl (og_call rfl rfl (by kernel_rfl) (keep_f1 (val := fun g => .tuple #[.string (S r.1), r.2.1.v (g.val r.2.1.vals.length), .int .i64 r.2.2]) (p := fun g => g.cap = r.2.1.vals.length + g.sp.length) (xs := strs r.2.1.vals) (T := 33) fun w hS => (by have := below_c (t := t) (n := n) (a := a) (cap := cap) (w := w) hS.sl (by omega) (by omega) (tab_st hT hS); rw [← hr] at this; exact this))) ?_
      intro g23; refine WL.pu ?_; intro hg23
      refine WL.r rfl rfl rfl (rd_move rfl rfl) ?_
      refine WL.r rfl rfl rfl (rd_extL rfl rfl rfl) ?_
      refine WL.r rfl rfl rfl (rd_extL rfl rfl rfl) ?_
      refine WL.r rfl rfl rfl (rd_extL rfl rfl rfl) ?_
      refine WL.g rfl rfl rfl (og_alloc rfl (v := (.agg #[.slice none 0 0, .string (S []), .int .i64 0])) (cs := [.slice none 0 0, .string (S []), .int .i64 0]) (by kernel_rfl) rfl) ?_
      intro b6
      refine WL.r rfl rfl rfl (rd_assign rfl rfl) ?_
      refine WL.g0 rfl rfl (sta rfl rfl rfl .tc ?_ ?_ ?_) ?_
      · kernel_rfl
      · simp [Value.oneCell']
      · rfl
      intro _
      refine WL.r rfl rfl rfl (rd_assign rfl rfl) ?_
      refine WL.nt ?_
      refine WC.sr ?_
      refine WL.r rfl rfl rfl (lda rfl rfl .tc Tryd.underlying24 rfl ?_) ?_
      · kernel_rfl
      refine WL.r rfl rfl rfl (rd_move rfl rfl) ?_
      refine WL.g rfl rfl rfl (og_call rfl rfl (by kernel_rfl) (keep_f1 (val := fun g => .tuple #[.string (S r.1), r.2.1.v (g.val r.2.1.vals.length), .int .i64 r.2.2]) (p := fun g => g.cap = r.2.1.vals.length + g.sp.length) (xs := strs r.2.1.vals) (T := 33) fun w hS => (by have := rbelow_c (t := t) (n := n) (a := a) (cap := cap) (w := w) hS.sl (by omega) (by omega); rw [← hr] at this; exact this))) ?_
      intro g30; refine WL.pu ?_; intro hg30
      refine WL.r rfl rfl rfl (rd_move rfl rfl) ?_
      refine WL.r rfl rfl rfl (rd_extL rfl rfl rfl) ?_
      refine WL.r rfl rfl rfl (rd_extL rfl rfl rfl) ?_
      refine WL.r rfl rfl rfl (rd_extL rfl rfl rfl) ?_
      refine WL.g rfl rfl rfl (og_alloc rfl (v := (.agg #[.slice none 0 0, .string (S []), .int .i64 0])) (cs := [.slice none 0 0, .string (S []), .int .i64 0]) (by kernel_rfl) rfl) ?_
      intro b9
      refine WL.r rfl rfl rfl (rd_assign rfl rfl) ?_
      refine WL.g0 rfl rfl (sta rfl rfl rfl .tc ?_ ?_ ?_) ?_
      · kernel_rfl
      · simp [Value.oneCell']
      · rfl
      intro _
      refine WL.r rfl rfl rfl (rd_assign rfl rfl) ?_
      refine WL.nt ?_
      refine WC.sr ?_
      refine WL.g rfl rfl rfl (og_call rfl rfl (by kernel_rfl) (keep_val fun w hS => awake_c (by (exact tab_st hT hS)))) ?_
      intro _
      refine WL.r rfl rfl rfl (rd_move rfl rfl) ?_
      refine WL.set 35 rfl (v' := .bool true) (by rfl) ?_
      refine WL.r rfl rfl rfl (rd_move rfl rfl) ?_
      refine WL.r rfl rfl rfl (rd_move rfl rfl) ?_
      refine WL.r rfl rfl rfl (rd_seq rfl rfl rfl) ?_
      refine WL.r rfl rfl rfl (rd_pickt rfl rfl rfl) ?_
      refine WL.r rfl rfl rfl (rd_move rfl rfl) ?_
      refine WL.set 40 rfl (v' := .bool true) (by (exact congrArg Value.bool (by simp [*]; done))) ?_
      refine WL.r rfl rfl rfl (lda rfl rfl .tc Tryd.underlying24 rfl ?_) ?_
      · kernel_rfl
      refine WL.r rfl rfl rfl (lda rfl rfl .tc Tryd.underlying24 rfl ?_) ?_
      · kernel_rfl
      refine WL.g rfl rfl rfl (og_call rfl rfl (by kernel_rfl) (keep_val fun w hS => sameT_c (t := r.2.1) (u := r.2.1) (by (exact hS.sl)) (by (exact hS.sl)) (by omega) (by omega))) ?_
      intro _
      refine WL.r rfl rfl rfl (rd_pickt rfl rfl rfl) ?_
      refine WL.r rfl rfl rfl (rd_move rfl rfl) ?_
      refine WL.set 45 rfl (v' := .bool true) (by (exact congrArg Value.bool (by simp [*]; done))) ?_
      refine WL.r rfl rfl rfl (rd_move rfl rfl) ?_
      refine WL.r rfl rfl rfl (rd_move rfl rfl) ?_
      refine WL.r rfl rfl rfl (rd_eql rfl rfl rfl) ?_
      refine WL.r rfl rfl rfl (rd_pickt rfl rfl rfl) ?_
      refine WL.r rfl rfl rfl (rd_assign rfl rfl) ?_
      refine WL.nt ?_
      refine WC.ret ?_
      exact WX.retN rfl (.tmp rfl .nil) fun w' hS => ⟨by (simp [tup]; done), hS.below⟩
theorem coinsSigned_c {t : Tp} {n : Bs} {a : Option Addr} {cap : Nat} {w : World} {ok : Nat → Prop} (hF1 : (Fact.sl a (strs t.vals)).holds ok w) (hl : t.vals.length ≤ 9223372036854775807) (hT : Tab w) :
    Calls Tryd.prog 5 #[t.v (.slice a t.vals.length cap), .string (S n)] w fun e w' => e = .returned (.bool true) ∧ Below w.heap.size w w' := by
  refine enter (S := St (fun _ => True) w [] ([Fact.sl a (strs t.vals)])) (L := [(0, t.v (.slice a t.vals.length cap)), (1, .string (S n))]) Tryd.func5 rfl Tryd.ntmps5 rfl (args_cons rfl (args_cons rfl (args_nil _))) (St.start (fun _ _ => trivial) (facts_cons (fact_any hF1) facts_nil)) ?_
  refine WC.sr ?_
  refine WL.g rfl rfl rfl (og_box rfl rfl (by (exact cells_agg _))) ?_
  intro b2
  refine WL.r rfl rfl rfl (rd_assign rfl rfl) ?_
  refine WL.nt ?_
  refine WC.seq ?_
  refine WC.sr ?_
  refine WL.r rfl rfl rfl (lda rfl rfl .tc Tryd.underlying24 rfl ?_) ?_
  · kernel_rfl
  refine WL.g rfl rfl rfl (og_call rfl rfl (by kernel_rfl) (keep_val fun w hS => fewT_c (t := t) (by (exact hS.sl)) (by assumption))) ?_
  intro _
  refine WL.r rfl rfl rfl (rd_not rfl rfl) ?_
  refine WL.r rfl rfl rfl (rd_move rfl rfl) ?_
  refine WL.bool 14 rfl (fun hg14 => ?_) (fun hg14 => ?_)
  · (try simp only [sB] at hg14)
    refine WL.s rfl rfl rfl ?_
    refine WL.s rfl rfl rfl ?_
    refine WL.s rfl rfl rfl ?_
    refine WL.r rfl rfl rfl (rd_pickt rfl rfl rfl) ?_
    refine WL.nt ?_
    refine WC.cond rfl (fun _ => ?_) (fun h => by cases h)
    refine WC.sr ?_
    refine WL.g rfl rfl rfl (og_call rfl rfl (by kernel_rfl) (keep_val fun w hS => awake_c (by (exact tab_st hT hS)))) ?_
    intro _
    refine WL.r rfl rfl rfl (rd_assign rfl rfl) ?_
    refine WL.nt ?_
    refine WC.ret ?_
    refine WX.then_ret ?_
    exact WX.retN rfl (.tmp rfl .nil) fun w' hS => ⟨by rfl, hS.below⟩
  · (try simp only [sB] at hg14)
    refine WL.r rfl rfl rfl (rd_move rfl rfl) ?_
    refine WL.r rfl rfl rfl (rd_slen rfl rfl Tryd.underlying33) ?_
    refine WL.r rfl rfl rfl (rd_gtr rfl rfl rfl) ?_
    refine WL.r rfl rfl rfl (rd_pickf rfl rfl rfl) ?_
    refine WL.nt ?_
    refine WC.cond rfl (fun hc18 => ?_) (fun hc18 => ?_)
    · (try simp only [sB] at hc18)
      refine WC.sr ?_
      refine WL.g rfl rfl rfl (og_call rfl rfl (by kernel_rfl) (keep_val fun w hS => awake_c (by (exact tab_st hT hS)))) ?_
      intro _
      refine WL.r rfl rfl rfl (rd_assign rfl rfl) ?_
      refine WL.nt ?_
      refine WC.ret ?_
      refine WX.then_ret ?_
      exact WX.retN rfl (.tmp rfl .nil) fun w' hS => ⟨by rfl, hS.below⟩
    · (try simp only [sB] at hc18)
      have hf : fewT t := by simp_all
      have hv := hf.1; have hse := hf.2.1
      obtain ⟨r, hr⟩ : ∃ r, r = signedS t n := ⟨_, rfl⟩
      have hrv := signed_vals t n
      rw [← hr] at hrv
      refine WC.skip ?_
      refine WX.then_normal ?_
      refine WC.sr ?_
      refine WL.r rfl rfl rfl (lda rfl rfl .tc Tryd.underlying24 rfl ?_) ?_
      · kernel_rfl
      refine WL.r rfl rfl rfl (rd_move rfl rfl) ?_
      refine WL.g rfl rfl rfl (og_call rfl rfl (by kernel_rfl) (keep_f1 (val := fun g => .tuple #[zV r.1, r.2.1.v (g.val r.2.1.vals.length), .int .i64 r.2.2]) (p := fun g => g.cap = r.2.1.vals.length + g.sp.length) (xs := strs r.2.1.vals) (T := 33) fun w hS => (by have := signed_c (t := t) (n := n) (a := a) (cap := cap) (w := w) hS.sl (by omega) (by omega) (tab_st hT hS); rw [← hr] at this; exact this))) ?_
      intro g23; refine WL.pu ?_; intro hg23
      refine WL.r rfl rfl rfl (rd_move rfl rfl) ?_
      refine WL.r rfl rfl rfl (rd_extL rfl rfl rfl) ?_
      refine WL.r rfl rfl rfl (rd_extL rfl rfl rfl) ?_
      refine WL.r rfl rfl rfl (rd_extL rfl rfl rfl) ?_
      refine WL.g rfl rfl rfl (og_alloc rfl (v := (.agg #[.bool false, .string (S [])])) (cs := [.bool false, .string (S [])]) (by kernel_rfl) rfl) ?_
      intro b5
      refine WL.g rfl rfl rfl (og_alloc rfl (v := (.agg #[.slice none 0 0, .string (S []), .int .i64 0])) (cs := [.slice none 0 0, .string (S []), .int .i64 0]) (by kernel_rfl) rfl) ?_
      intro b6
      refine WL.g0 rfl rfl (sta rfl rfl rfl .tc ?_ ?_ ?_) ?_
      · kernel_rfl
      · simp [Value.oneCell']
      · rfl
      intro _
      refine WL.g0 rfl rfl (sta rfl rfl rfl .tc ?_ ?_ ?_) ?_
      · kernel_rfl
      · simp [Value.oneCell']
      · rfl
      intro _
      refine WL.r rfl rfl rfl (rd_assign rfl rfl) ?_
      refine WL.nt ?_
      refine WC.sr ?_
      refine WL.r rfl rfl rfl (lda rfl rfl .tc Tryd.underlying24 rfl ?_) ?_
      · kernel_rfl
      refine WL.r rfl rfl rfl (rd_move rfl rfl) ?_
      refine WL.g rfl rfl rfl (og_call rfl rfl (by kernel_rfl) (keep_f1 (val := fun g => .tuple #[zV r.1, r.2.1.v (g.val r.2.1.vals.length), .int .i64 r.2.2]) (p := fun g => g.cap = r.2.1.vals.length + g.sp.length) (xs := strs r.2.1.vals) (T := 33) fun w hS => (by have := rsigned_c (t := t) (n := n) (a := a) (cap := cap) (w := w) hS.sl (by omega) (by omega); rw [← hr] at this; exact this))) ?_
      intro g30; refine WL.pu ?_; intro hg30
      refine WL.r rfl rfl rfl (rd_move rfl rfl) ?_
      refine WL.r rfl rfl rfl (rd_extL rfl rfl rfl) ?_
      refine WL.r rfl rfl rfl (rd_extL rfl rfl rfl) ?_
      refine WL.r rfl rfl rfl (rd_extL rfl rfl rfl) ?_
      refine WL.g rfl rfl rfl (og_alloc rfl (v := (.agg #[.bool false, .string (S [])])) (cs := [.bool false, .string (S [])]) (by kernel_rfl) rfl) ?_
      intro b8
      refine WL.g rfl rfl rfl (og_alloc rfl (v := (.agg #[.slice none 0 0, .string (S []), .int .i64 0])) (cs := [.slice none 0 0, .string (S []), .int .i64 0]) (by kernel_rfl) rfl) ?_
      intro b9
      refine WL.g0 rfl rfl (sta rfl rfl rfl .tc ?_ ?_ ?_) ?_
      · kernel_rfl
      · simp [Value.oneCell']
      · rfl
      intro _
      refine WL.g0 rfl rfl (sta rfl rfl rfl .tc ?_ ?_ ?_) ?_
      · kernel_rfl
      · simp [Value.oneCell']
      · rfl
      intro _
      refine WL.r rfl rfl rfl (rd_assign rfl rfl) ?_
      refine WL.nt ?_
      refine WC.sr ?_
      refine WL.g rfl rfl rfl (og_call rfl rfl (by kernel_rfl) (keep_val fun w hS => awake_c (by (exact tab_st hT hS)))) ?_
      intro _
      refine WL.r rfl rfl rfl (rd_move rfl rfl) ?_
      refine WL.set 35 rfl (v' := .bool true) (by rfl) ?_
      refine WL.r rfl rfl rfl (lda rfl rfl .tc Tryd.underlying41 rfl ?_) ?_
      · kernel_rfl
      refine WL.r rfl rfl rfl (lda rfl rfl .tc Tryd.underlying41 rfl ?_) ?_
      · kernel_rfl
      refine WL.r rfl rfl rfl (rd_eqA rfl rfl rfl (by kernel_rfl) (fun w => eql_api_Int _ _ _ _ w)) ?_
      refine WL.r rfl rfl rfl (rd_pickt rfl rfl rfl) ?_
      refine WL.r rfl rfl rfl (rd_move rfl rfl) ?_
      refine WL.set 40 rfl (v' := .bool true) (by (exact congrArg Value.bool (by simp [*]; done))) ?_
      refine WL.r rfl rfl rfl (lda rfl rfl .tc Tryd.underlying24 rfl ?_) ?_
      · kernel_rfl
      refine WL.r rfl rfl rfl (lda rfl rfl .tc Tryd.underlying24 rfl ?_) ?_
      · kernel_rfl
      refine WL.g rfl rfl rfl (og_call rfl rfl (by kernel_rfl) (keep_val fun w hS => sameT_c (t := r.2.1) (u := r.2.1) (by (exact hS.sl)) (by (exact hS.sl)) (by omega) (by omega))) ?_
      intro _
      refine WL.r rfl rfl rfl (rd_pickt rfl rfl rfl) ?_
      refine WL.r rfl rfl rfl (rd_move rfl rfl) ?_
      refine WL.set 45 rfl (v' := .bool true) (by (exact congrArg Value.bool (by simp [*]; done))) ?_
      refine WL.r rfl rfl rfl (rd_move rfl rfl) ?_
      refine WL.r rfl rfl rfl (rd_move rfl rfl) ?_
      refine WL.r rfl rfl rfl (rd_eql rfl rfl rfl) ?_
      refine WL.r rfl rfl rfl (rd_pickt rfl rfl rfl) ?_
      refine WL.r rfl rfl rfl (rd_assign rfl rfl) ?_
      refine WL.nt ?_
      refine WC.ret ?_
      exact WX.retN rfl (.tmp rfl .nil) fun w' hS => ⟨by (simp [tup]; done), hS.below⟩
theorem coinsMakes_c {l : List Bs} {s : Bs} {t : Tp} {b a : Option Addr} {cb cap : Nat} {w : World} {ok : Nat → Prop} (hF1 : (Fact.sl b (strs l)).holds ok w) (hF2 : (Fact.sl a (strs t.vals)).holds ok w) (hm : l.length ≤ 9223372036854775807) (hl : t.vals.length ≤ 9223372036854775807) (hT : Tab w) :
    Calls Tryd.prog 3 #[.slice b l.length cb, .string (S s), t.v (.slice a t.vals.length cap)] w fun e w' => e = .returned (.bool true) ∧ Below w.heap.size w w' := by
  refine enter (S := St (fun _ => True) w [] ([Fact.sl b (strs l), Fact.sl a (strs t.vals)])) (L := [(0, .slice b l.length cb), (1, .string (S s)), (2, t.v (.slice a t.vals.length cap))]) Tryd.func3 rfl Tryd.ntmps3 rfl (args_cons rfl (args_cons rfl (args_cons rfl (args_nil _)))) (St.start (fun _ _ => trivial) (facts_cons (fact_any hF1) (facts_cons (fact_any hF2) facts_nil))) ?_
  refine WC.sr ?_
  refine WL.g rfl rfl rfl (og_box rfl rfl (by (exact cells_agg _))) ?_
  intro b5
  refine WL.r rfl rfl rfl (rd_assign rfl rfl) ?_
  refine WL.nt ?_
  refine WC.seq ?_
  refine WC.sr ?_
  refine WL.r rfl rfl rfl (rd_move rfl rfl) ?_
  refine WL.r rfl rfl rfl (rd_move rfl rfl) ?_
  refine WL.r rfl rfl rfl (rd_bld [[.slice none 0 0], [.string (S [])], [.int .i64 0]] rfl rfl (by simp only [bld, fldv, Nat.beq, Value.cells, cond_true, cond_false, List.nil_append, List.cons_append, List.append_nil]; rfl) (fun w => by kernel_rfl)) ?_
  refine WL.g rfl rfl rfl (og_call rfl rfl (by kernel_rfl) (keep_val fun w hS => fewT_c (t := ⟨l, s, 0⟩) (by (exact hS.sl)) (by assumption))) ?_
  intro _
  refine WL.r rfl rfl rfl (rd_not rfl rfl) ?_
  refine WL.r rfl rfl rfl (rd_move rfl rfl) ?_
  refine WL.bool 12 rfl (fun hg12 => ?_) (fun hg12 => ?_)
  · (try simp only [sB] at hg12)
    refine WL.s rfl rfl rfl ?_
    refine WL.s rfl rfl rfl ?_
    refine WL.s rfl rfl rfl ?_
    refine WL.r rfl rfl rfl (rd_pickt rfl rfl rfl) ?_
    refine WL.nt ?_
    refine WC.cond rfl (fun _ => ?_) (fun h => by cases h)
    refine WC.sr ?_
    refine WL.g rfl rfl rfl (og_call rfl rfl (by kernel_rfl) (keep_val fun w hS => awake_c (by (exact tab_st hT hS)))) ?_
    intro _
    refine WL.r rfl rfl rfl (rd_assign rfl rfl) ?_
    refine WL.nt ?_
    refine WC.ret ?_
    refine WX.then_ret ?_
    exact WX.retN rfl (.tmp rfl .nil) fun w' hS => ⟨by rfl, hS.below⟩
  · (try simp only [sB] at hg12)
    refine WL.r rfl rfl rfl (lda rfl rfl .tc Tryd.underlying24 rfl ?_) ?_
    · kernel_rfl
    refine WL.g rfl rfl rfl (og_call rfl rfl (by kernel_rfl) (keep_val fun w hS => fewT_c (t := t) (by (exact hS.sl)) (by assumption))) ?_
    intro _
    refine WL.r rfl rfl rfl (rd_not rfl rfl) ?_
    refine WL.r rfl rfl rfl (rd_pickf rfl rfl rfl) ?_
    refine WL.nt ?_
    refine WC.cond rfl (fun hc16 => ?_) (fun hc16 => ?_)
    · (try simp only [sB] at hc16)
      refine WC.sr ?_
      refine WL.g rfl rfl rfl (og_call rfl rfl (by kernel_rfl) (keep_val fun w hS => awake_c (by (exact tab_st hT hS)))) ?_
      intro _
      refine WL.r rfl rfl rfl (rd_assign rfl rfl) ?_
      refine WL.nt ?_
      refine WC.ret ?_
      refine WX.then_ret ?_
      exact WX.retN rfl (.tmp rfl .nil) fun w' hS => ⟨by rfl, hS.below⟩
    · (try simp only [sB] at hc16)
      have hf1 : fewT ⟨l, s, 0⟩ := by simp_all
      have hf2 : fewT t := by simp_all
      have hv1 : l.length ≤ 40 := hf1.1
      have hv2 := hf2.1
      refine WC.skip ?_
      refine WX.then_normal ?_
      refine WC.seq ?_
      refine WC.free0 [0, 1, 2, 3, 4, 5, 6, 7, 8, 9, 10, 11, 12, 13, 14, 15, 16, 17, 18, 19, 20, 21, 22] [] [1, 0, 0, 1, 0, 1, 1, 0, 0, 0, 1, 0, 1, 1, 0, 0, 0, 1, 0, 1, 0, 0, 0] (by kernel_rfl) (by kernel_rfl) rfl ?_
      refine WJ.gv rfl rfl rfl rfl rfl (fun ext => og_call rfl rfl (by kernel_rfl) (keep_val fun w hS => awake_c (by (exact tab_st hT hS)))) ?_
      refine WJ.r rfl rfl rfl rfl rfl (rd_move rfl rfl) ?_
      refine WJ.set 19 rfl (v' := .bool true) (by rfl) ?_
      refine WJ.r rfl rfl rfl rfl rfl (rd_move rfl rfl) ?_
      refine WJ.g rfl rfl rfl rfl rfl (fun ext => og_call rfl rfl (by kernel_rfl) (keep_f1 fun w hS => values_c (l := l) (by (exact hS.sl)) (by omega) (by omega))) ?_
      intro g21 hg21; (try dsimp only at hg21 ⊢)
      refine WJ.r rfl rfl rfl rfl rfl (rd_move rfl rfl) ?_
      refine WJ.g rfl rfl rfl rfl rfl (fun ext => og_call rfl rfl (by kernel_rfl) (keep_f1 fun w hS => rvalues_c (l := l) (by (exact hS.sl)) (by omega) (by omega))) ?_
      intro g23 hg23; (try dsimp only at hg23 ⊢)
      refine WJ.gv rfl rfl rfl rfl rfl (fun ext => og_call rfl rfl (by kernel_rfl) (keep_val fun w hS => sameT_c (t := ⟨l, [], 0⟩) (u := ⟨l, [], 0⟩) (by (exact hS.sl)) (by (exact hS.sl)) (by (dsimp only; omega)) (by (dsimp only; omega)))) ?_
      refine WJ.r rfl rfl rfl rfl rfl (rd_pickt rfl rfl rfl) ?_
      refine WJ.r rfl rfl rfl rfl rfl (rd_move rfl rfl) ?_
      refine WJ.set 26 rfl (v' := .bool true) (by (exact congrArg Value.bool (by simp [*]; done))) ?_
      refine WJ.r rfl rfl rfl rfl rfl (rd_move rfl rfl) ?_
      refine WJ.gv rfl rfl rfl rfl rfl (fun ext => og_call rfl rfl (by kernel_rfl) (keep_val fun w hS => seed_c)) ?_
      refine WJ.r rfl rfl rfl rfl rfl (rd_move rfl rfl) ?_
      refine WJ.gv rfl rfl rfl rfl rfl (fun ext => og_call rfl rfl (by kernel_rfl) (keep_val fun w hS => rseed_c)) ?_
      refine WJ.gv rfl rfl rfl rfl rfl (fun ext => og_call rfl rfl (by kernel_rfl) (keep_val fun w hS => sameT_c (t := ⟨[], s, 0⟩) (u := ⟨[], s, 0⟩) (by (exact sl_nil)) (by (exact sl_nil)) (by (simp <;> omega)) (by (simp <;> omega)))) ?_
      refine WJ.r rfl rfl rfl rfl rfl (rd_pickt rfl rfl rfl) ?_
      refine WJ.r rfl rfl rfl rfl rfl (rd_move rfl rfl) ?_
      refine WJ.set 33 rfl (v' := .bool true) (by (exact congrArg Value.bool (by simp [*]; done))) ?_
      refine WJ.r rfl rfl rfl rfl rfl (lda rfl rfl .tc Tryd.underlying24 rfl ?_) ?_
      · kernel_rfl
      refine WJ.gv rfl rfl rfl rfl rfl (fun ext => og_call rfl rfl (by kernel_rfl) (keep_val fun w hS => left_c (t := t) (by (exact hS.sl)) (by omega))) ?_
      refine WJ.r rfl rfl rfl rfl rfl (lda rfl rfl .tc Tryd.underlying24 rfl ?_) ?_
      · kernel_rfl
      refine WJ.gv rfl rfl rfl rfl rfl (fun ext => og_call rfl rfl (by kernel_rfl) (keep_val fun w hS => rleft_c (t := t) (by (exact hS.sl)) (by omega))) ?_
      refine WJ.r rfl rfl rfl rfl rfl (rd_eql rfl rfl rfl) ?_
      refine WJ.r rfl rfl rfl rfl rfl (rd_pickt rfl rfl rfl) ?_
      refine WJ.r rfl rfl rfl rfl rfl (rd_assign rfl rfl) ?_
      refine WJ.nil ?_
      refine WL.nt ?_
      refine WC.ret ?_
      exact WX.retN rfl (.tmp rfl .nil) fun w' hS => ⟨by (simp [tup]; done), hS.below⟩
end Go.Proofs.YtikcjkifhliidaaDoor
