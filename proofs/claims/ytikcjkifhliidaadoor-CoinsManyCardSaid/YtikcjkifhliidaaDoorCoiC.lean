/-
  The statements about coins: CoinsMany, CoinsExplicit.
-/
import Derived.Test.YtikcjkifhliidaaDoorCoiB
namespace Go.Proofs.YtikcjkifhliidaaDoor
set_option linter.unusedSimpArgs false
set_option linter.unusedVariables false
set_option maxRecDepth 20000
set_option maxHeartbeats 600000
open Go.RowKit

theorem coinsMany_c {t : Tp} {n : Bs} {c : Int} {a : Option Addr} {cap : Nat} {w : World} {ok : Nat → Prop} (hF1 : (Fact.sl a (strs t.vals)).holds ok w) (hl : t.vals.length ≤ 9223372036854775807) (hT : Tab w) :
    Calls Tryd.prog 9 #[t.v (.slice a t.vals.length cap), .string (S n), .int .i64 c] w fun e w' => e = .returned (.bool true) ∧ Below w.heap.size w w' := by
  refine enter (S := St (fun _ => True) w [] ([Fact.sl a (strs t.vals)])) (L := [(0, t.v (.slice a t.vals.length cap)), (1, .string (S n)), (2, .int .i64 c)]) Tryd.func9 rfl Tryd.ntmps9 rfl (args_cons rfl (args_cons rfl (args_cons rfl (args_nil _)))) (St.start (fun _ _ => trivial) (facts_cons (fact_any hF1) facts_nil)) ?_
  refine WC.sr ?_
  refine WL.g rfl rfl rfl (og_box rfl rfl (by (exact cells_agg _))) ?_
  intro b3
  refine WL.r rfl rfl rfl (rd_assign rfl rfl) ?_
  refine WL.nt ?_
  refine WC.seq ?_
  refine WC.sr ?_
  refine WL.r rfl rfl rfl (lda rfl rfl .tc Tryd.underlying24 rfl ?_) ?_
  · kernel_rfl
  refine WL.g rfl rfl rfl (og_call rfl rfl (by kernel_rfl) (keep_val fun w hS => fewT_c (t := t) (by (exact hS.sl)) (by assumption))) ?_
  intro _
  refine WL.r rfl rfl rfl (rd_not rfl rfl) ?_
  refine WL.r rfl rfl rfl (rd_move rfl rfl) ?_
  refine WL.bool 16 rfl (fun hg16 => ?_) (fun hg16 => ?_)
  · (try simp only [sB] at hg16)
    refine WL.s rfl rfl rfl ?_
    refine WL.s rfl rfl rfl ?_
    refine WL.s rfl rfl rfl ?_
    refine WL.r rfl rfl rfl (rd_pickt rfl rfl rfl) ?_
    refine WL.r rfl rfl rfl (rd_move rfl rfl) ?_
    refine WL.s rfl rfl rfl ?_
    refine WL.s rfl rfl rfl ?_
    refine WL.s rfl rfl rfl ?_
    refine WL.s rfl rfl rfl ?_
    refine WL.s rfl rfl rfl ?_
    refine WL.s rfl rfl rfl ?_
    refine WL.s rfl rfl rfl ?_
    refine WL.s rfl rfl rfl ?_
    refine WL.s rfl rfl rfl ?_
    refine WL.s rfl rfl rfl ?_
    refine WL.s rfl rfl rfl ?_
    refine WL.r rfl rfl rfl (rd_pickt rfl rfl rfl) ?_
    refine WL.nt ?_
    refine WC.cond rfl (fun _ => ?_) (fun h => by cases h)
    refine WC.sr ?_
    refine WL.g rfl rfl rfl (og_call rfl rfl (by kernel_rfl) (keep_val fun w hS => awake_c (by (exact tab_st hT hS)))) ?_
    intro _
    refine WL.r rfl rfl rfl (rd_assign rfl rfl) ?_
    refine WL.nt ?_
    refine WC.ret ?_
    refine WX.then_ret ?_
    exact WX.retN rfl (.tmp rfl .nil) fun w' hS => ⟨by rfl, hS.below⟩
  · (try simp only [sB] at hg16)
    refine WL.r rfl rfl rfl (rd_move rfl rfl) ?_
    refine WL.r rfl rfl rfl (rd_slen rfl rfl Tryd.underlying33) ?_
    refine WL.r rfl rfl rfl (rd_gtr rfl rfl rfl) ?_
    refine WL.r rfl rfl rfl (rd_pickf rfl rfl rfl) ?_
    refine WL.r rfl rfl rfl (rd_move rfl rfl) ?_
    refine WL.bool 21 rfl (fun hg21 => ?_) (fun hg21 => ?_)
    · (try simp only [sB] at hg21)
      refine WL.s rfl rfl rfl ?_
      refine WL.s rfl rfl rfl ?_
      refine WL.s rfl rfl rfl ?_
      refine WL.s rfl rfl rfl ?_
      refine WL.s rfl rfl rfl ?_
      refine WL.s rfl rfl rfl ?_
      refine WL.s rfl rfl rfl ?_
      refine WL.s rfl rfl rfl ?_
      refine WL.s rfl rfl rfl ?_
      refine WL.s rfl rfl rfl ?_
      refine WL.s rfl rfl rfl ?_
      refine WL.r rfl rfl rfl (rd_pickt rfl rfl rfl) ?_
      refine WL.nt ?_
      refine WC.cond rfl (fun _ => ?_) (fun h => by cases h)
      refine WC.sr ?_
      refine WL.g rfl rfl rfl (og_call rfl rfl (by kernel_rfl) (keep_val fun w hS => awake_c (by (exact tab_st hT hS)))) ?_
      intro _
      refine WL.r rfl rfl rfl (rd_assign rfl rfl) ?_
      refine WL.nt ?_
      refine WC.ret ?_
      refine WX.then_ret ?_
      exact WX.retN rfl (.tmp rfl .nil) fun w' hS => ⟨by rfl, hS.below⟩
    · (try simp only [sB] at hg21)
      refine WL.r rfl rfl rfl (rd_move rfl rfl) ?_
      refine WL.r rfl rfl rfl (rd_gtr rfl rfl rfl) ?_
      refine WL.r rfl rfl rfl (rd_move rfl rfl) ?_
      refine WL.bool 24 rfl (fun hg24 => ?_) (fun hg24 => ?_)
      · (try simp only [sB] at hg24)
        refine WL.r rfl rfl rfl (rd_move rfl rfl) ?_
        refine WL.r rfl rfl rfl (rd_leq rfl rfl rfl) ?_
        refine WL.r rfl rfl rfl (rd_pickt rfl rfl rfl) ?_
        refine WL.r rfl rfl rfl (rd_move rfl rfl) ?_
        refine WL.bool 28 rfl (fun hg28 => ?_) (fun hg28 => ?_)
        · (try simp only [sB] at hg28)
          (refine WL.r rfl rfl rfl (rd_fa (q := 1) rfl rfl Tryd.underlying24 rfl (by kernel_rfl) rfl) ?_)
          (refine WL.r rfl rfl rfl (ld rfl rfl .tc Tryd.underlying9 rfl (by rfl)) ?_)
          refine WL.r rfl rfl rfl (rd_sne rfl rfl rfl) ?_
          refine WL.r rfl rfl rfl (rd_pickt rfl rfl rfl) ?_
          refine WL.r rfl rfl rfl (rd_pickf rfl rfl rfl) ?_
          refine WL.nt ?_
          refine WC.cond rfl (fun hc33 => ?_) (fun hc33 => ?_)
          · (try simp only [sB] at hc33)
            refine WC.sr ?_
            refine WL.g rfl rfl rfl (og_call rfl rfl (by kernel_rfl) (keep_val fun w hS => awake_c (by (exact tab_st hT hS)))) ?_
            intro _
            refine WL.r rfl rfl rfl (rd_assign rfl rfl) ?_
            refine WL.nt ?_
            refine WC.ret ?_
            refine WX.then_ret ?_
            exact WX.retN rfl (.tmp rfl .nil) fun w' hS => ⟨by rfl, hS.below⟩
          · (try simp only [sB] at hc33)
            have hf : fewT t := by simp_all
            have hv := hf.1; have hse := hf.2.1
            have hm1 := many_len t n c
            have hm2 := many_vals t n c
            refine WC.skip ?_
            refine WX.then_normal ?_
            refine WC.sr ?_
            refine WL.r rfl rfl rfl (lda rfl rfl .tc Tryd.underlying24 rfl ?_) ?_
            · kernel_rfl
            refine WL.r rfl rfl rfl (rd_move rfl rfl) ?_
            refine WL.r rfl rfl rfl (rd_move rfl rfl) ?_
            refine WL.g rfl rfl rfl (og_call rfl rfl (by kernel_rfl) (keep_ff fun w hS => many_c (t := t) (n := n) (c := c) (by (exact hS.slo)) (by omega) (by omega) (by (exact tab_st hT hS)))) ?_
            rintro ⟨g39, a39, c39⟩
            refine WL.pu ?_
            intro hg39; (try dsimp only [List.cons_append, List.nil_append] at hg39 ⊢)
            refine WL.r rfl rfl rfl (rd_move rfl rfl) ?_
            refine WL.r rfl rfl rfl (rd_extL rfl rfl rfl) ?_
            refine WL.r rfl rfl rfl (rd_extL rfl rfl rfl) ?_
            refine WL.r rfl rfl rfl (rd_extL rfl rfl rfl) ?_
            refine WL.g rfl rfl rfl (og_alloc rfl (v := (.agg #[.slice none 0 0, .string (S []), .int .i64 0])) (cs := [.slice none 0 0, .string (S []), .int .i64 0]) (by kernel_rfl) rfl) ?_
            intro b8
            refine WL.r rfl rfl rfl (rd_assign rfl rfl) ?_
            refine WL.g0 rfl rfl (sta rfl rfl rfl .tc ?_ ?_ ?_) ?_
            · kernel_rfl
            · simp [Value.oneCell']
            · rfl
            intro _
            refine WL.r rfl rfl rfl (rd_assign rfl rfl) ?_
            refine WL.nt ?_
            refine WC.sr ?_
            refine WL.r rfl rfl rfl (lda rfl rfl .tc Tryd.underlying24 rfl ?_) ?_
            · kernel_rfl
            refine WL.r rfl rfl rfl (rd_move rfl rfl) ?_
            refine WL.r rfl rfl rfl (rd_move rfl rfl) ?_
            refine WL.g rfl rfl rfl (og_call rfl rfl (by kernel_rfl) (keep_ff fun w hS => rmany_c (t := t) (n := n) (c := c) (by (exact hS.slo)) (by omega) (by omega))) ?_
            rintro ⟨g47, a47, c47⟩
            refine WL.pu ?_
            intro hg47; (try dsimp only [List.cons_append, List.nil_append] at hg47 ⊢)
            refine WL.r rfl rfl rfl (rd_move rfl rfl) ?_
            refine WL.r rfl rfl rfl (rd_extL rfl rfl rfl) ?_
            refine WL.r rfl rfl rfl (rd_extL rfl rfl rfl) ?_
            refine WL.r rfl rfl rfl (rd_extL rfl rfl rfl) ?_
            refine WL.g rfl rfl rfl (og_alloc rfl (v := (.agg #[.slice none 0 0, .string (S []), .int .i64 0])) (cs := [.slice none 0 0, .string (S []), .int .i64 0]) (by kernel_rfl) rfl) ?_
            intro b11
            refine WL.r rfl rfl rfl (rd_assign rfl rfl) ?_
            refine WL.g0 rfl rfl (sta rfl rfl rfl .tc ?_ ?_ ?_) ?_
            · kernel_rfl
            · simp [Value.oneCell']
            · rfl
            intro _
            refine WL.r rfl rfl rfl (rd_assign rfl rfl) ?_
            refine WL.nt ?_
            refine WC.sr ?_
            refine WL.g rfl rfl rfl (og_call rfl rfl (by kernel_rfl) (keep_val fun w hS => awake_c (by (exact tab_st hT hS)))) ?_
            intro _
            refine WL.r rfl rfl rfl (rd_move rfl rfl) ?_
            refine WL.set 52 rfl (v' := .bool true) (by rfl) ?_
            refine WL.r rfl rfl rfl (rd_move rfl rfl) ?_
            refine WL.r rfl rfl rfl (rd_move rfl rfl) ?_
            refine WL.g rfl rfl rfl (og_call rfl rfl (by kernel_rfl) (keep_val fun w hS => sameN_c (l := (manyS t n c).1) (m := (manyS t n c).1) (by (exact hS.sl)) (by (exact hS.sl)) (by omega) (by omega))) ?_
            intro _
            refine WL.r rfl rfl rfl (rd_pickt rfl rfl rfl) ?_
            refine WL.r rfl rfl rfl (rd_move rfl rfl) ?_
            refine WL.set 57 rfl (v' := .bool true) (by (exact congrArg Value.bool (by simp [*]; done))) ?_
            refine WL.r rfl rfl rfl (lda rfl rfl .tc Tryd.underlying24 rfl ?_) ?_
            · kernel_rfl
            refine WL.r rfl rfl rfl (lda rfl rfl .tc Tryd.underlying24 rfl ?_) ?_
            · kernel_rfl
            refine WL.g rfl rfl rfl (og_call rfl rfl (by kernel_rfl) (keep_val fun w hS => sameT_c (t := (manyS t n c).2.1) (u := (manyS t n c).2.1) (by (exact hS.sl)) (by (exact hS.sl)) (by omega) (by omega))) ?_
            intro _
            refine WL.r rfl rfl rfl (rd_pickt rfl rfl rfl) ?_
            refine WL.r rfl rfl rfl (rd_move rfl rfl) ?_
            refine WL.set 62 rfl (v' := .bool true) (by (exact congrArg Value.bool (by simp [*]; done))) ?_
            refine WL.r rfl rfl rfl (rd_move rfl rfl) ?_
            refine WL.r rfl rfl rfl (rd_move rfl rfl) ?_
            refine WL.r rfl rfl rfl (rd_eql rfl rfl rfl) ?_
            refine WL.r rfl rfl rfl (rd_pickt rfl rfl rfl) ?_
            refine WL.r rfl rfl rfl (rd_assign rfl rfl) ?_
            refine WL.nt ?_
            refine WC.ret ?_
            exact WX.retN rfl (.tmp rfl .nil) fun w' hS => ⟨by (simp [tup]; done), hS.below⟩
        · (try simp only [sB] at hg28)
          refine WL.s rfl rfl rfl ?_
          refine WL.s rfl rfl rfl ?_
          refine WL.s rfl rfl rfl ?_
          refine WL.r rfl rfl rfl (rd_pickf rfl rfl rfl) ?_
          refine WL.r rfl rfl rfl (rd_pickf rfl rfl rfl) ?_
          refine WL.nt ?_
          refine WC.cond rfl (fun h => by cases h) (fun _ => ?_)
          have hf : fewT t := by simp_all
          have hv := hf.1; have hse := hf.2.1
          have hm1 := many_len t n c
          have hm2 := many_vals t n c
          refine WC.skip ?_
          refine WX.then_normal ?_
          refine WC.sr ?_
          refine WL.r rfl rfl rfl (lda rfl rfl .tc Tryd.underlying24 rfl ?_) ?_
          · kernel_rfl
          refine WL.r rfl rfl rfl (rd_move rfl rfl) ?_
          refine WL.r rfl rfl rfl (rd_move rfl rfl) ?_
          refine WL.g rfl rfl rfl (og_call rfl rfl (by kernel_rfl) (keep_ff fun w hS => many_c (t := t) (n := n) (c := c) (by (exact hS.slo)) (by omega) (by omega) (by (exact tab_st hT hS)))) ?_
          rintro ⟨g39, a39, c39⟩
          refine WL.pu ?_
          intro hg39; (try dsimp only [List.cons_append, List.nil_append] at hg39 ⊢)
          refine WL.r rfl rfl rfl (rd_move rfl rfl) ?_
          refine WL.r rfl rfl rfl (rd_extL rfl rfl rfl) ?_
          refine WL.r rfl rfl rfl (rd_extL rfl rfl rfl) ?_
          refine WL.r rfl rfl rfl (rd_extL rfl rfl rfl) ?_
          refine WL.g rfl rfl rfl (og_alloc rfl (v := (.agg #[.slice none 0 0, .string (S []), .int .i64 0])) (cs := [.slice none 0 0, .string (S []), .int .i64 0]) (by kernel_rfl) rfl) ?_
          intro b8
          refine WL.r rfl rfl rfl (rd_assign rfl rfl) ?_
          refine WL.g0 rfl rfl (sta rfl rfl rfl .tc ?_ ?_ ?_) ?_
          · kernel_rfl
          · simp [Value.oneCell']
          · rfl
          intro _
          refine WL.r rfl rfl rfl (rd_assign rfl rfl) ?_
          refine WL.nt ?_
          refine WC.sr ?_
          refine WL.r rfl rfl rfl (lda rfl rfl .tc Tryd.underlying24 rfl ?_) ?_
          · kernel_rfl
          refine WL.r rfl rfl rfl (rd_move rfl rfl) ?_
          refine WL.r rfl rfl rfl (rd_move rfl rfl) ?_
          refine WL.g rfl rfl rfl (og_call rfl rfl (by kernel_rfl) (keep_ff fun w hS => rmany_c (t := t) (n := n) (c := c) (by (exact hS.slo)) (by omega) (by omega))) ?_
          rintro ⟨g47, a47, c47⟩
          refine WL.pu ?_
          intro hg47; (try dsimp only [List.cons_append, List.nil_append] at hg47 ⊢)
          refine WL.r rfl rfl rfl (rd_move rfl rfl) ?_
          refine WL.r rfl rfl rfl (rd_extL rfl rfl rfl) ?_
          refine WL.r rfl rfl rfl (rd_extL rfl rfl rfl) ?_
          refine WL.r rfl rfl rfl (rd_extL rfl rfl rfl) ?_
          refine WL.g rfl rfl rfl (og_alloc rfl (v := (.agg #[.slice none 0 0, .string (S []), .int .i64 0])) (cs := [.slice none 0 0, .string (S []), .int .i64 0]) (by kernel_rfl) rfl) ?_
          intro b11
          refine WL.r rfl rfl rfl (rd_assign rfl rfl) ?_
          refine WL.g0 rfl rfl (sta rfl rfl rfl .tc ?_ ?_ ?_) ?_
          · kernel_rfl
          · simp [Value.oneCell']
          · rfl
          intro _
          refine WL.r rfl rfl rfl (rd_assign rfl rfl) ?_
          refine WL.nt ?_
          refine WC.sr ?_
          refine WL.g rfl rfl rfl (og_call rfl rfl (by kernel_rfl) (keep_val fun w hS => awake_c (by (exact tab_st hT hS)))) ?_
          intro _
          refine WL.r rfl rfl rfl (rd_move rfl rfl) ?_
          refine WL.set 52 rfl (v' := .bool true) (by rfl) ?_
          refine WL.r rfl rfl rfl (rd_move rfl rfl) ?_
          refine WL.r rfl rfl rfl (rd_move rfl rfl) ?_
          refine WL.g rfl rfl rfl (og_call rfl rfl (by kernel_rfl) (keep_val fun w hS => sameN_c (l := (manyS t n c).1) (m := (manyS t n c).1) (by (exact hS.sl)) (by (exact hS.sl)) (by omega) (by omega))) ?_
          intro _
          refine WL.r rfl rfl rfl (rd_pickt rfl rfl rfl) ?_
          refine WL.r rfl rfl rfl (rd_move rfl rfl) ?_
          refine WL.set 57 rfl (v' := .bool true) (by (exact congrArg Value.bool (by simp [*]; done))) ?_
          refine WL.r rfl rfl rfl (lda rfl rfl .tc Tryd.underlying24 rfl ?_) ?_
          · kernel_rfl
          refine WL.r rfl rfl rfl (lda rfl rfl .tc Tryd.underlying24 rfl ?_) ?_
          · kernel_rfl
          refine WL.g rfl rfl rfl (og_call rfl rfl (by kernel_rfl) (keep_val fun w hS => sameT_c (t := (manyS t n c).2.1) (u := (manyS t n c).2.1) (by (exact hS.sl)) (by (exact hS.sl)) (by omega) (by omega))) ?_
          intro _
          refine WL.r rfl rfl rfl (rd_pickt rfl rfl rfl) ?_
          refine WL.r rfl rfl rfl (rd_move rfl rfl) ?_
          refine WL.set 62 rfl (v' := .bool true) (by (exact congrArg Value.bool (by simp [*]; done))) ?_
          refine WL.r rfl rfl rfl (rd_move rfl rfl) ?_
          refine WL.r rfl rfl rfl (rd_move rfl rfl) ?_
          refine WL.r rfl rfl rfl (rd_eql rfl rfl rfl) ?_
          refine WL.r rfl rfl rfl (rd_pickt rfl rfl rfl) ?_
          refine WL.r rfl rfl rfl (rd_assign rfl rfl) ?_
          refine WL.nt ?_
          refine WC.ret ?_
          exact WX.retN rfl (.tmp rfl .nil) fun w' hS => ⟨by (simp [tup]; done), hS.below⟩
      · (try simp only [sB] at hg24)
        refine WL.s rfl rfl rfl ?_
        refine WL.s rfl rfl rfl ?_
        refine WL.r rfl rfl rfl (rd_pickf rfl rfl rfl) ?_
        refine WL.r rfl rfl rfl (rd_move rfl rfl) ?_
        refine WL.s rfl rfl rfl ?_
        refine WL.s rfl rfl rfl ?_
        refine WL.s rfl rfl rfl ?_
        refine WL.r rfl rfl rfl (rd_pickf rfl rfl rfl) ?_
        refine WL.r rfl rfl rfl (rd_pickf rfl rfl rfl) ?_
        refine WL.nt ?_
        refine WC.cond rfl (fun h => by cases h) (fun _ => ?_)
        have hf : fewT t := by simp_all
        have hv := hf.1; have hse := hf.2.1
        have hm1 := many_len t n c
        have hm2 := many_vals t n c
        refine WC.skip ?_
        refine WX.then_normal ?_
        refine WC.sr ?_
        refine WL.r rfl rfl rfl (lda rfl rfl .tc Tryd.underlying24 rfl ?_) ?_
        · kernel_rfl
        refine WL.r rfl rfl rfl (rd_move rfl rfl) ?_
        refine WL.r rfl rfl rfl (rd_move rfl rfl) ?_
        refine WL.g rfl rfl rfl (og_call rfl rfl (by kernel_rfl) (keep_ff fun w hS => many_c (t := t) (n := n) (c := c) (by (exact hS.slo)) (by omega) (by omega) (by (exact tab_st hT hS)))) ?_
        rintro ⟨g39, a39, c39⟩
        refine WL.pu ?_
        intro hg39; (try dsimp only [List.cons_append, List.nil_append] at hg39 ⊢)
        refine WL.r rfl rfl rfl (rd_move rfl rfl) ?_
        refine WL.r rfl rfl rfl (rd_extL rfl rfl rfl) ?_
        refine WL.r rfl rfl rfl (rd_extL rfl rfl rfl) ?_
        refine WL.r rfl rfl rfl (rd_extL rfl rfl rfl) ?_
        refine WL.g rfl rfl rfl (og_alloc rfl (v := (.agg #[.slice none 0 0, .string (S []), .int .i64 0])) (cs := [.slice none 0 0, .string (S []), .int .i64 0]) (by kernel_rfl) rfl) ?_
        intro b8
        refine WL.r rfl rfl rfl (rd_assign rfl rfl) ?_
        refine WL.g0 rfl rfl (sta rfl rfl rfl .tc ?_ ?_ ?_) ?_
        · kernel_rfl
        · simp [Value.oneCell']
        · rfl
        intro _
        refine WL.r rfl rfl rfl (rd_assign rfl rfl) ?_
        refine WL.nt ?_
        refine WC.sr ?_
        refine WL.r rfl rfl rfl (lda rfl rfl .tc Tryd.underlying24 rfl ?_) ?_
        · kernel_rfl
        refine WL.r rfl rfl rfl (rd_move rfl rfl) ?_
        refine WL.r rfl rfl rfl (rd_move rfl rfl) ?_
        refine WL.g rfl rfl rfl (og_call rfl rfl (by kernel_rfl) (keep_ff fun w hS => rmany_c (t := t) (n := n) (c := c) (by (exact hS.slo)) (by omega) (by omega))) ?_
        rintro ⟨g47, a47, c47⟩
        refine WL.pu ?_
        intro hg47; (try dsimp only [List.cons_append, List.nil_append] at hg47 ⊢)
        refine WL.r rfl rfl rfl (rd_move rfl rfl) ?_
        refine WL.r rfl rfl rfl (rd_extL rfl rfl rfl) ?_
        refine WL.r rfl rfl rfl (rd_extL rfl rfl rfl) ?_
        refine WL.r rfl rfl rfl (rd_extL rfl rfl rfl) ?_
        refine WL.g rfl rfl rfl (og_alloc rfl (v := (.agg #[.slice none 0 0, .string (S []), .int .i64 0])) (cs := [.slice none 0 0, .string (S []), .int .i64 0]) (by kernel_rfl) rfl) ?_
        intro b11
        refine WL.r rfl rfl rfl (rd_assign rfl rfl) ?_
        refine WL.g0 rfl rfl (sta rfl rfl rfl .tc ?_ ?_ ?_) ?_
        · kernel_rfl
        · simp [Value.oneCell']
        · rfl
        intro _
        refine WL.r rfl rfl rfl (rd_assign rfl rfl) ?_
        refine WL.nt ?_
        refine WC.sr ?_
        refine WL.g rfl rfl rfl (og_call rfl rfl (by kernel_rfl) (keep_val fun w hS => awake_c (by (exact tab_st hT hS)))) ?_
        intro _
        refine WL.r rfl rfl rfl (rd_move rfl rfl) ?_
        refine WL.set 52 rfl (v' := .bool true) (by rfl) ?_
        refine WL.r rfl rfl rfl (rd_move rfl rfl) ?_
        refine WL.r rfl rfl rfl (rd_move rfl rfl) ?_
        refine WL.g rfl rfl rfl (og_call rfl rfl (by kernel_rfl) (keep_val fun w hS => sameN_c (l := (manyS t n c).1) (m := (manyS t n c).1) (by (exact hS.sl)) (by (exact hS.sl)) (by omega) (by omega))) ?_
        intro _
        refine WL.r rfl rfl rfl (rd_pickt rfl rfl rfl) ?_
        refine WL.r rfl rfl rfl (rd_move rfl rfl) ?_
        refine WL.set 57 rfl (v' := .bool true) (by (exact congrArg Value.bool (by simp [*]; done))) ?_
        refine WL.r rfl rfl rfl (lda rfl rfl .tc Tryd.underlying24 rfl ?_) ?_
        · kernel_rfl
        refine WL.r rfl rfl rfl (lda rfl rfl .tc Tryd.underlying24 rfl ?_) ?_
        · kernel_rfl
        refine WL.g rfl rfl rfl (og_call rfl rfl (by kernel_rfl) (keep_val fun w hS => sameT_c (t := (manyS t n c).2.1) (u := (manyS t n c).2.1) (by (exact hS.sl)) (by (exact hS.sl)) (by omega) (by omega))) ?_
        intro _
        refine WL.r rfl rfl rfl (rd_pickt rfl rfl rfl) ?_
        refine WL.r rfl rfl rfl (rd_move rfl rfl) ?_
        refine WL.set 62 rfl (v' := .bool true) (by (exact congrArg Value.bool (by simp [*]; done))) ?_
        refine WL.r rfl rfl rfl (rd_move rfl rfl) ?_
        refine WL.r rfl rfl rfl (rd_move rfl rfl) ?_
        refine WL.r rfl rfl rfl (rd_eql rfl rfl rfl) ?_
        refine WL.r rfl rfl rfl (rd_pickt rfl rfl rfl) ?_
        refine WL.r rfl rfl rfl (rd_assign rfl rfl) ?_
        refine WL.nt ?_
        refine WC.ret ?_
        exact WX.retN rfl (.tmp rfl .nil) fun w' hS => ⟨by (simp [tup]; done), hS.below⟩
theorem below_at {t : Tp} {n : Bs} (h1 : t.at_ < t.vals.length) (h2 : goodT t) (h3 : okN n) (h4 : n ≠ []) :
    belowS t n = if 0 ≤ cmpN (t.vals.getD t.at_.toNat default) n then ([], zeroT, 2) else (t.vals.getD t.at_.toNat default, ⟨t.vals, t.seed, t.at_ + 1⟩, 0) := by
  rw [belowS, if_neg (by rw [readyS, if_pos ⟨h2, h3⟩, if_neg h4]; simp), drawS, if_pos h1]
theorem left_good {t : Tp} (h : leftT t ≠ 0) : goodT t := by
  unfold leftT at h; split at h
  · assumption
  · exact absurd rfl h
theorem left_bd (t : Tp) : 0 ≤ leftT t ∧ leftT t ≤ t.vals.length := by
  unfold leftT; split
  · rename_i h; have := h.1; omega
  · omega
theorem left_next {t : Tp} (h2 : goodT t) (h1 : t.at_ < t.vals.length) (h3 : t.vals.length ≤ 1000) : leftT ⟨t.vals, t.seed, t.at_ + 1⟩ = leftT t - 1 := by
  rw [leftT, leftT, if_pos h2, if_pos ⟨by have := h2.1; show 0 ≤ t.at_ + 1; omega, by show t.at_ + 1 ≤ _; omega, h2.2.2⟩]
  show max 0 ((t.vals.length : Int) - (t.at_ + 1)) = _
  omega
theorem coinsExplicit_c {t : Tp} {n : Bs} {a : Option Addr} {cap : Nat} {w : World} {ok : Nat → Prop} (hF1 : (Fact.sl a (strs t.vals)).holds ok w) (hl : t.vals.length ≤ 9223372036854775807) (hT : Tab w) :
    Calls Tryd.prog 6 #[t.v (.slice a t.vals.length cap), .string (S n)] w fun e w' => e = .returned (.bool true) ∧ Below w.heap.size w w' := by
  refine enter (S := St (fun _ => True) w [] ([Fact.sl a (strs t.vals)])) (L := [(0, t.v (.slice a t.vals.length cap)), (1, .string (S n))]) Tryd.func6 rfl Tryd.ntmps6 rfl (args_cons rfl (args_cons rfl (args_nil _))) (St.start (fun _ _ => trivial) (facts_cons (fact_any hF1) facts_nil)) ?_
  refine WC.sr ?_
  refine WL.g rfl rfl rfl (og_box rfl rfl (by (exact cells_agg _))) ?_
  intro b2
  refine WL.r rfl rfl rfl (rd_assign rfl rfl) ?_
  refine WL.nt ?_
  refine WC.seq ?_
  refine WC.sr ?_
  refine WL.r rfl rfl rfl (lda rfl rfl .tc Tryd.underlying24 rfl ?_) ?_
  · kernel_rfl
  refine WL.g rfl rfl rfl (og_call rfl rfl (by kernel_rfl) (keep_val fun w hS => fewT_c (t := t) (by (exact hS.sl)) (by assumption))) ?_
  intro _
  refine WL.r rfl rfl rfl (rd_not rfl rfl) ?_
  refine WL.r rfl rfl rfl (rd_move rfl rfl) ?_
  refine WL.bool 11 rfl (fun hg11 => ?_) (fun hg11 => ?_)
  · (try simp only [sB] at hg11)
    refine WL.s rfl rfl rfl ?_
    refine WL.s rfl rfl rfl ?_
    refine WL.s rfl rfl rfl ?_
    refine WL.r rfl rfl rfl (rd_pickt rfl rfl rfl) ?_
    refine WL.r rfl rfl rfl (rd_move rfl rfl) ?_
    refine WL.s rfl rfl rfl ?_
    refine WL.s rfl rfl rfl ?_
    refine WL.s rfl rfl rfl ?_
    refine WL.r rfl rfl rfl (rd_pickt rfl rfl rfl) ?_
    refine WL.r rfl rfl rfl (rd_move rfl rfl) ?_
    refine WL.s rfl rfl rfl ?_
    refine WL.s rfl rfl rfl ?_
    refine WL.s rfl rfl rfl ?_
    refine WL.s rfl rfl rfl ?_
    refine WL.s rfl rfl rfl ?_
    refine WL.s rfl rfl rfl ?_
    refine WL.r rfl rfl rfl (rd_pickt rfl rfl rfl) ?_
    refine WL.r rfl rfl rfl (rd_move rfl rfl) ?_
    refine WL.s rfl rfl rfl ?_
    refine WL.s rfl rfl rfl ?_
    refine WL.s rfl rfl rfl ?_
    refine WL.r rfl rfl rfl (rd_pickt rfl rfl rfl) ?_
    refine WL.r rfl rfl rfl (rd_move rfl rfl) ?_
    refine WL.s rfl rfl rfl ?_
    refine WL.s rfl rfl rfl ?_
    refine WL.s rfl rfl rfl ?_
    refine WL.r rfl rfl rfl (rd_pickt rfl rfl rfl) ?_
    refine WL.r rfl rfl rfl (rd_move rfl rfl) ?_
    refine WL.s rfl rfl rfl ?_
    refine WL.s rfl rfl rfl ?_
    refine WL.r rfl rfl rfl (rd_pickt rfl rfl rfl) ?_
    refine WL.nt ?_
    refine WC.cond rfl (fun _ => ?_) (fun h => by cases h)
    refine WC.sr ?_
    refine WL.g rfl rfl rfl (og_call rfl rfl (by kernel_rfl) (keep_val fun w hS => awake_c (by (exact tab_st hT hS)))) ?_
    intro _
    refine WL.r rfl rfl rfl (rd_assign rfl rfl) ?_
    refine WL.nt ?_
    refine WC.ret ?_
    refine WX.then_ret ?_
    exact WX.retN rfl (.tmp rfl .nil) fun w' hS => ⟨by rfl, hS.below⟩
  · (try simp only [sB] at hg11)
    refine WL.r rfl rfl rfl (rd_move rfl rfl) ?_
    refine WL.r rfl rfl rfl (rd_slen rfl rfl Tryd.underlying33) ?_
    refine WL.r rfl rfl rfl (rd_gtr rfl rfl rfl) ?_
    refine WL.r rfl rfl rfl (rd_pickf rfl rfl rfl) ?_
    refine WL.r rfl rfl rfl (rd_move rfl rfl) ?_
    refine WL.bool 16 rfl (fun hg16 => ?_) (fun hg16 => ?_)
    · (try simp only [sB] at hg16)
      refine WL.s rfl rfl rfl ?_
      refine WL.s rfl rfl rfl ?_
      refine WL.s rfl rfl rfl ?_
      refine WL.r rfl rfl rfl (rd_pickt rfl rfl rfl) ?_
      refine WL.r rfl rfl rfl (rd_move rfl rfl) ?_
      refine WL.s rfl rfl rfl ?_
      refine WL.s rfl rfl rfl ?_
      refine WL.s rfl rfl rfl ?_
      refine WL.s rfl rfl rfl ?_
      refine WL.s rfl rfl rfl ?_
      refine WL.s rfl rfl rfl ?_
      refine WL.r rfl rfl rfl (rd_pickt rfl rfl rfl) ?_
      refine WL.r rfl rfl rfl (rd_move rfl rfl) ?_
      refine WL.s rfl rfl rfl ?_
      refine WL.s rfl rfl rfl ?_
      refine WL.s rfl rfl rfl ?_
      refine WL.r rfl rfl rfl (rd_pickt rfl rfl rfl) ?_
      refine WL.r rfl rfl rfl (rd_move rfl rfl) ?_
      refine WL.s rfl rfl rfl ?_
      refine WL.s rfl rfl rfl ?_
      refine WL.s rfl rfl rfl ?_
      refine WL.r rfl rfl rfl (rd_pickt rfl rfl rfl) ?_
      refine WL.r rfl rfl rfl (rd_move rfl rfl) ?_
      refine WL.s rfl rfl rfl ?_
      refine WL.s rfl rfl rfl ?_
      refine WL.r rfl rfl rfl (rd_pickt rfl rfl rfl) ?_
      refine WL.nt ?_
      refine WC.cond rfl (fun _ => ?_) (fun h => by cases h)
      refine WC.sr ?_
      refine WL.g rfl rfl rfl (og_call rfl rfl (by kernel_rfl) (keep_val fun w hS => awake_c (by (exact tab_st hT hS)))) ?_
      intro _
      refine WL.r rfl rfl rfl (rd_assign rfl rfl) ?_
      refine WL.nt ?_
      refine WC.ret ?_
      refine WX.then_ret ?_
      exact WX.retN rfl (.tmp rfl .nil) fun w' hS => ⟨by rfl, hS.below⟩
    · (try simp only [sB] at hg16)
      (refine WL.r rfl rfl rfl (rd_fa (q := 2) rfl rfl Tryd.underlying24 rfl (by kernel_rfl) rfl) ?_)
      (refine WL.r rfl rfl rfl (ld rfl rfl .tc Tryd.underlying3 rfl (by rfl)) ?_)
      refine WL.r rfl rfl rfl (rd_lss rfl rfl rfl) ?_
      refine WL.r rfl rfl rfl (rd_pickf rfl rfl rfl) ?_
      refine WL.r rfl rfl rfl (rd_move rfl rfl) ?_
      refine WL.bool 21 rfl (fun hg21 => ?_) (fun hg21 => ?_)
      · (try simp only [sB] at hg21)
        refine WL.s rfl rfl rfl ?_
        refine WL.s rfl rfl rfl ?_
        refine WL.s rfl rfl rfl ?_
        refine WL.s rfl rfl rfl ?_
        refine WL.s rfl rfl rfl ?_
        refine WL.s rfl rfl rfl ?_
        refine WL.r rfl rfl rfl (rd_pickt rfl rfl rfl) ?_
        refine WL.r rfl rfl rfl (rd_move rfl rfl) ?_
        refine WL.s rfl rfl rfl ?_
        refine WL.s rfl rfl rfl ?_
        refine WL.s rfl rfl rfl ?_
        refine WL.r rfl rfl rfl (rd_pickt rfl rfl rfl) ?_
        refine WL.r rfl rfl rfl (rd_move rfl rfl) ?_
        refine WL.s rfl rfl rfl ?_
        refine WL.s rfl rfl rfl ?_
        refine WL.s rfl rfl rfl ?_
        refine WL.r rfl rfl rfl (rd_pickt rfl rfl rfl) ?_
        refine WL.r rfl rfl rfl (rd_move rfl rfl) ?_
        refine WL.s rfl rfl rfl ?_
        refine WL.s rfl rfl rfl ?_
        refine WL.r rfl rfl rfl (rd_pickt rfl rfl rfl) ?_
        refine WL.nt ?_
        refine WC.cond rfl (fun _ => ?_) (fun h => by cases h)
        refine WC.sr ?_
        refine WL.g rfl rfl rfl (og_call rfl rfl (by kernel_rfl) (keep_val fun w hS => awake_c (by (exact tab_st hT hS)))) ?_
        intro _
        refine WL.r rfl rfl rfl (rd_assign rfl rfl) ?_
        refine WL.nt ?_
        refine WC.ret ?_
        refine WX.then_ret ?_
        exact WX.retN rfl (.tmp rfl .nil) fun w' hS => ⟨by rfl, hS.below⟩
      · (try simp only [sB] at hg21)
        (refine WL.r rfl rfl rfl (rd_fa (q := 2) rfl rfl Tryd.underlying24 rfl (by kernel_rfl) rfl) ?_)
        (refine WL.r rfl rfl rfl (ld rfl rfl .tc Tryd.underlying3 rfl (by rfl)) ?_)
        (refine WL.r rfl rfl rfl (rd_fa (q := 0) rfl rfl Tryd.underlying24 rfl (by kernel_rfl) rfl) ?_)
        (refine WL.r rfl rfl rfl (ld rfl rfl .tc Tryd.underlying22 rfl (by rfl)) ?_)
        refine WL.r rfl rfl rfl (rd_len rfl rfl Tryd.underlying22) ?_
        refine WL.r rfl rfl rfl (rd_geq rfl rfl rfl) ?_
        refine WL.r rfl rfl rfl (rd_pickf rfl rfl rfl) ?_
        refine WL.r rfl rfl rfl (rd_move rfl rfl) ?_
        refine WL.bool 29 rfl (fun hg29 => ?_) (fun hg29 => ?_)
        · (try simp only [sB] at hg29)
          refine WL.s rfl rfl rfl ?_
          refine WL.s rfl rfl rfl ?_
          refine WL.s rfl rfl rfl ?_
          refine WL.r rfl rfl rfl (rd_pickt rfl rfl rfl) ?_
          refine WL.r rfl rfl rfl (rd_move rfl rfl) ?_
          refine WL.s rfl rfl rfl ?_
          refine WL.s rfl rfl rfl ?_
          refine WL.s rfl rfl rfl ?_
          refine WL.r rfl rfl rfl (rd_pickt rfl rfl rfl) ?_
          refine WL.r rfl rfl rfl (rd_move rfl rfl) ?_
          refine WL.s rfl rfl rfl ?_
          refine WL.s rfl rfl rfl ?_
          refine WL.r rfl rfl rfl (rd_pickt rfl rfl rfl) ?_
          refine WL.nt ?_
          refine WC.cond rfl (fun _ => ?_) (fun h => by cases h)
          refine WC.sr ?_
          refine WL.g rfl rfl rfl (og_call rfl rfl (by kernel_rfl) (keep_val fun w hS => awake_c (by (exact tab_st hT hS)))) ?_
          intro _
          refine WL.r rfl rfl rfl (rd_assign rfl rfl) ?_
          refine WL.nt ?_
          refine WC.ret ?_
          refine WX.then_ret ?_
          exact WX.retN rfl (.tmp rfl .nil) fun w' hS => ⟨by rfl, hS.below⟩
        · (try simp only [sB] at hg29)
          refine WL.r rfl rfl rfl (lda rfl rfl .tc Tryd.underlying24 rfl ?_) ?_
          · kernel_rfl
          refine WL.g rfl rfl rfl (og_call rfl rfl (by kernel_rfl) (keep_val fun w hS => left_c (t := t) (by (exact hS.sl)) (by have hf : fewT t := (by assumption); have := hf.1; omega))) ?_
          intro _
          refine WL.r rfl rfl rfl (rd_eql rfl rfl rfl) ?_
          refine WL.r rfl rfl rfl (rd_pickf rfl rfl rfl) ?_
          refine WL.r rfl rfl rfl (rd_move rfl rfl) ?_
          refine WL.bool 34 rfl (fun hg34 => ?_) (fun hg34 => ?_)
          · (try simp only [sB] at hg34)
            refine WL.s rfl rfl rfl ?_
            refine WL.s rfl rfl rfl ?_
            refine WL.s rfl rfl rfl ?_
            refine WL.r rfl rfl rfl (rd_pickt rfl rfl rfl) ?_
            refine WL.r rfl rfl rfl (rd_move rfl rfl) ?_
            refine WL.s rfl rfl rfl ?_
            refine WL.s rfl rfl rfl ?_
            refine WL.r rfl rfl rfl (rd_pickt rfl rfl rfl) ?_
            refine WL.nt ?_
            refine WC.cond rfl (fun _ => ?_) (fun h => by cases h)
            refine WC.sr ?_
            refine WL.g rfl rfl rfl (og_call rfl rfl (by kernel_rfl) (keep_val fun w hS => awake_c (by (exact tab_st hT hS)))) ?_
            intro _
            refine WL.r rfl rfl rfl (rd_assign rfl rfl) ?_
            refine WL.nt ?_
            refine WC.ret ?_
            refine WX.then_ret ?_
            exact WX.retN rfl (.tmp rfl .nil) fun w' hS => ⟨by rfl, hS.below⟩
          · (try simp only [sB] at hg34)
            refine WL.r rfl rfl rfl (rd_move rfl rfl) ?_
            refine WL.g rfl rfl rfl (og_call rfl rfl (by kernel_rfl) (keep_val fun w hS => valid_c)) ?_
            intro _
            refine WL.r rfl rfl rfl (rd_not rfl rfl) ?_
            refine WL.r rfl rfl rfl (rd_pickf rfl rfl rfl) ?_
            refine WL.r rfl rfl rfl (rd_move rfl rfl) ?_
            refine WL.bool 39 rfl (fun hg39 => ?_) (fun hg39 => ?_)
            · (try simp only [sB] at hg39)
              refine WL.s rfl rfl rfl ?_
              refine WL.s rfl rfl rfl ?_
              refine WL.r rfl rfl rfl (rd_pickt rfl rfl rfl) ?_
              refine WL.nt ?_
              refine WC.cond rfl (fun _ => ?_) (fun h => by cases h)
              refine WC.sr ?_
              refine WL.g rfl rfl rfl (og_call rfl rfl (by kernel_rfl) (keep_val fun w hS => awake_c (by (exact tab_st hT hS)))) ?_
              intro _
              refine WL.r rfl rfl rfl (rd_assign rfl rfl) ?_
              refine WL.nt ?_
              refine WC.ret ?_
              refine WX.then_ret ?_
              exact WX.retN rfl (.tmp rfl .nil) fun w' hS => ⟨by rfl, hS.below⟩
            · (try simp only [sB] at hg39)
              refine WL.r rfl rfl rfl (rd_move rfl rfl) ?_
              refine WL.r rfl rfl rfl (rd_seq rfl rfl rfl) ?_
              refine WL.r rfl rfl rfl (rd_pickf rfl rfl rfl) ?_
              refine WL.nt ?_
              refine WC.cond rfl (fun hc42 => ?_) (fun hc42 => ?_)
              · (try simp only [sB] at hc42)
                refine WC.sr ?_
                refine WL.g rfl rfl rfl (og_call rfl rfl (by kernel_rfl) (keep_val fun w hS => awake_c (by (exact tab_st hT hS)))) ?_
                intro _
                refine WL.r rfl rfl rfl (rd_assign rfl rfl) ?_
                refine WL.nt ?_
                refine WC.ret ?_
                refine WX.then_ret ?_
                exact WX.retN rfl (.tmp rfl .nil) fun w' hS => ⟨by rfl, hS.below⟩
              · (try simp only [sB] at hc42)
                have hf : fewT t := by simp_all
                have hv := hf.1; have hse := hf.2.1
                have hat0 : 0 ≤ t.at_ := by omega
                have hat1 : t.at_ < t.vals.length := by omega
                have hgd : goodT t := left_good (by simp_all)
                have hokn : okN n := by simp_all
                have hnn : n ≠ [] := by simp_all
                have hbl := below_at hat1 hgd hokn hnn
                have hlb := left_bd t
                have hln := left_next hgd hat1 (by omega)
                obtain ⟨r, hr⟩ : ∃ r, r = belowS t n := ⟨_, rfl⟩
                have hrv := below_vals t n
                rw [← hr] at hrv hbl
                refine WC.skip ?_
                refine WX.then_normal ?_
                refine WC.sr ?_
                refine WL.r rfl rfl rfl (lda rfl rfl .tc Tryd.underlying24 rfl ?_) ?_
                · kernel_rfl
                refine WL.r rfl rfl rfl (rd_move rfl rfl) ?_
                refine WL.g rfl rfl rfl (og_call rfl rfl (by kernel_rfl) (keep_f1 (val := fun g => .tuple #[.string (S r.1), r.2.1.v (g.val r.2.1.vals.length), .int .i64 r.2.2]) (p := fun g => g.cap = r.2.1.vals.length + g.sp.length) (xs := strs r.2.1.vals) (T := 33) fun w hS => (by have := below_c (t := t) (n := n) (a := a) (cap := cap) (w := w) hS.sl (by omega) (by omega) (tab_st hT hS); rw [← hr] at this; exact this))) ?_
                intro g44; refine WL.pu ?_; intro hg44
                refine WL.r rfl rfl rfl (rd_move rfl rfl) ?_
                refine WL.r rfl rfl rfl (rd_extL rfl rfl rfl) ?_
                refine WL.r rfl rfl rfl (rd_extL rfl rfl rfl) ?_
                refine WL.r rfl rfl rfl (rd_extL rfl rfl rfl) ?_
                refine WL.g rfl rfl rfl (og_alloc rfl (v := (.agg #[.slice none 0 0, .string (S []), .int .i64 0])) (cs := [.slice none 0 0, .string (S []), .int .i64 0]) (by kernel_rfl) rfl) ?_
                intro b6
                refine WL.r rfl rfl rfl (rd_assign rfl rfl) ?_
                refine WL.g0 rfl rfl (sta rfl rfl rfl .tc ?_ ?_ ?_) ?_
                · kernel_rfl
                · simp [Value.oneCell']
                · rfl
                intro _
                refine WL.r rfl rfl rfl (rd_assign rfl rfl) ?_
                refine WL.nt ?_
                refine WC.seq ?_
                refine WC.sr ?_
                (refine WL.r rfl rfl rfl (rd_fa (q := 0) rfl rfl Tryd.underlying24 rfl (by kernel_rfl) rfl) ?_)
                (refine WL.r rfl rfl rfl (ld rfl rfl .tc Tryd.underlying22 rfl (by rfl)) ?_)
                (refine WL.r rfl rfl rfl (rd_fa (q := 2) rfl rfl Tryd.underlying24 rfl (by kernel_rfl) rfl) ?_)
                (refine WL.r rfl rfl rfl (ld rfl rfl .tc Tryd.underlying3 rfl (by rfl)) ?_)
                (refine WL.r rfl rfl rfl (iaf rfl rfl rfl Tryd.underlying22 (by kernel_rfl : _ = some 1) ?_ ?_ (by (try simp only [sN, Int.reduceToNat, Nat.reduceAdd, Nat.reduceMul, Nat.reduceSub]); rfl)) ?_; (focus (omega)); (focus ((rw [List.length_map]; omega))))
                (refine WL.r rfl rfl rfl (ldm rfl rfl Tryd.underlying33 rfl ?_) ?_; (focus (omega)))
                refine WL.r rfl rfl rfl (rd_move rfl rfl) ?_
                refine WL.g rfl rfl rfl (og_call rfl rfl (by kernel_rfl) (keep_val fun w hS => Cmp_c (a := t.vals.getD t.at_.toNat default) (b := n))) ?_
                intro _
                refine WL.r rfl rfl rfl (rd_geq rfl rfl rfl) ?_
                refine WL.nt ?_
                refine WC.cond rfl (fun hc59 => ?_) (fun hc59 => ?_)
                · (try simp only [sB] at hc59)
                  rw [if_pos hc59] at hbl
                  subst hbl
                  refine WC.sr ?_
                  refine WL.g rfl rfl rfl (og_call rfl rfl (by kernel_rfl) (keep_val fun w hS => awake_c (by (exact tab_st hT hS)))) ?_
                  intro _
                  refine WL.r rfl rfl rfl (rd_move rfl rfl) ?_
                  refine WL.set 61 rfl (v' := .bool true) (by rfl) ?_
                  refine WL.r rfl rfl rfl (rd_move rfl rfl) ?_
                  refine WL.r rfl rfl rfl (rd_eql rfl rfl rfl) ?_
                  refine WL.r rfl rfl rfl (rd_pickt rfl rfl rfl) ?_
                  refine WL.r rfl rfl rfl (rd_move rfl rfl) ?_
                  refine WL.set 65 rfl (v' := .bool true) (by rfl) ?_
                  refine WL.r rfl rfl rfl (rd_move rfl rfl) ?_
                  refine WL.r rfl rfl rfl (rd_seq rfl rfl rfl) ?_
                  refine WL.r rfl rfl rfl (rd_pickt rfl rfl rfl) ?_
                  refine WL.r rfl rfl rfl (rd_move rfl rfl) ?_
                  refine WL.set 69 rfl (v' := .bool true) (by rfl) ?_
                  refine WL.r rfl rfl rfl (lda rfl rfl .tc Tryd.underlying24 rfl ?_) ?_
                  · kernel_rfl
                  refine WL.r rfl rfl rfl (rd_bld [[.slice none 0 0], [.string (S [])], [.int .i64 0]] rfl rfl (by simp only [bld, fldv, Nat.beq, Value.cells, cond_true, cond_false, List.nil_append, List.cons_append, List.append_nil]; rfl) (fun w => by kernel_rfl)) ?_
                  refine WL.g rfl rfl rfl (og_call rfl rfl (by kernel_rfl) (keep_val fun w hS => sameT_c (t := zeroT) (u := zeroT) (by (exact hS.sl)) (by (exact sl_nil)) (by decide) (by decide))) ?_
                  intro _
                  refine WL.r rfl rfl rfl (rd_pickt rfl rfl rfl) ?_
                  refine WL.r rfl rfl rfl (rd_assign rfl rfl) ?_
                  refine WL.nt ?_
                  refine WC.ret ?_
                  refine WX.then_ret ?_
                  exact WX.retN rfl (.tmp rfl .nil) fun w' hS => ⟨by rfl, hS.below⟩
                · (try simp only [sB] at hc59)
                  rw [if_neg (by omega)] at hbl
                  subst hbl
                  refine WC.skip ?_
                  refine WX.then_normal ?_
                  refine WC.seq ?_
                  refine WC.free0 [0, 1, 2, 3, 4, 5, 6, 7, 8, 9, 10, 11, 12, 13, 14, 15, 16, 17, 18, 19, 20, 21, 22, 23, 24, 25, 26, 27, 28, 29, 30, 31, 32, 33, 34, 35, 36, 37, 38, 39, 40, 41, 42, 43, 44, 45] [] [1, 0, 0, 0, 0, 0, 0, 0, 0, 0, 0, 0, 0, 0, 0, 0, 0, 0, 0, 0, 0, 0, 0, 0, 0, 0, 0, 0, 0, 0, 0, 0, 0, 0, 0, 1, 0, 0, 0, 1, 0, 1, 0, 0, 0, 0] (by kernel_rfl) (by kernel_rfl) rfl ?_
                  refine WJ.gv rfl rfl rfl rfl rfl (fun ext => og_call rfl rfl (by kernel_rfl) (keep_val fun w hS => awake_c (by (exact tab_st hT hS)))) ?_
                  refine WJ.r rfl rfl rfl rfl rfl (rd_move rfl rfl) ?_
                  refine WJ.set 75 rfl (v' := .bool true) (by rfl) ?_
                  refine WJ.r rfl rfl rfl rfl rfl (rd_move rfl rfl) ?_
                  refine WJ.r rfl rfl rfl rfl rfl (rd_eql rfl rfl rfl) ?_
                  refine WJ.r rfl rfl rfl rfl rfl (rd_pickt rfl rfl rfl) ?_
                  refine WJ.r rfl rfl rfl rfl rfl (rd_move rfl rfl) ?_
                  refine WJ.set 79 rfl (v' := .bool true) (by rfl) ?_
                  refine WJ.r rfl rfl rfl rfl rfl (rd_move rfl rfl) ?_
                  (refine WJ.r rfl rfl rfl rfl rfl (rd_fa (q := 0) rfl rfl Tryd.underlying24 rfl (by kernel_rfl) rfl) ?_)
                  (refine WJ.r rfl rfl rfl rfl rfl (ld rfl rfl .tc Tryd.underlying22 rfl (by rfl)) ?_)
                  (refine WJ.r rfl rfl rfl rfl rfl (rd_fa (q := 2) rfl rfl Tryd.underlying24 rfl (by kernel_rfl) rfl) ?_)
                  (refine WJ.r rfl rfl rfl rfl rfl (ld rfl rfl .tc Tryd.underlying3 rfl (by rfl)) ?_)
                  (refine WJ.r rfl rfl rfl rfl rfl (iaf rfl rfl rfl Tryd.underlying22 (by kernel_rfl : _ = some 1) ?_ ?_ (by (try simp only [sN, Int.reduceToNat, Nat.reduceAdd, Nat.reduceMul, Nat.reduceSub]); rfl)) ?_; (focus (omega)); (focus ((rw [List.length_map]; omega))))
                  (refine WJ.r rfl rfl rfl rfl rfl (ldm rfl rfl Tryd.underlying33 rfl ?_) ?_; (focus (omega)))
                  refine WJ.r rfl rfl rfl rfl rfl (rd_seq rfl rfl rfl) ?_
                  refine WJ.r rfl rfl rfl rfl rfl (rd_pickt rfl rfl rfl) ?_
                  refine WJ.r rfl rfl rfl rfl rfl (rd_move rfl rfl) ?_
                  refine WJ.set 89 rfl (v' := .bool true) (by (exact congrArg Value.bool (by simp [*]; done))) ?_
                  (refine WJ.r rfl rfl rfl rfl rfl (rd_fa (q := 2) rfl rfl Tryd.underlying24 rfl (by kernel_rfl) rfl) ?_)
                  (refine WJ.r rfl rfl rfl rfl rfl (ld rfl rfl .tc Tryd.underlying3 rfl (by rfl)) ?_)
                  (refine WJ.r rfl rfl rfl rfl rfl (rd_fa (q := 2) rfl rfl Tryd.underlying24 rfl (by kernel_rfl) rfl) ?_)
                  (refine WJ.r rfl rfl rfl rfl rfl (ld rfl rfl .tc Tryd.underlying3 rfl (by rfl)) ?_)
                  (refine WJ.r rfl rfl rfl rfl rfl (rd_add64 rfl rfl rfl ?_) ?_; (focus (omega)))
                  refine WJ.r rfl rfl rfl rfl rfl (rd_eql rfl rfl rfl) ?_
                  refine WJ.r rfl rfl rfl rfl rfl (rd_pickt rfl rfl rfl) ?_
                  refine WJ.r rfl rfl rfl rfl rfl (rd_move rfl rfl) ?_
                  refine WJ.set 97 rfl (v' := .bool true) (by (exact congrArg Value.bool (by simp [*]; done))) ?_
                  (refine WJ.r rfl rfl rfl rfl rfl (rd_fa (q := 1) rfl rfl Tryd.underlying24 rfl (by kernel_rfl) rfl) ?_)
                  (refine WJ.r rfl rfl rfl rfl rfl (ld rfl rfl .tc Tryd.underlying9 rfl (by rfl)) ?_)
                  (refine WJ.r rfl rfl rfl rfl rfl (rd_fa (q := 1) rfl rfl Tryd.underlying24 rfl (by kernel_rfl) rfl) ?_)
                  (refine WJ.r rfl rfl rfl rfl rfl (ld rfl rfl .tc Tryd.underlying9 rfl (by rfl)) ?_)
                  refine WJ.r rfl rfl rfl rfl rfl (rd_seq rfl rfl rfl) ?_
                  refine WJ.r rfl rfl rfl rfl rfl (rd_pickt rfl rfl rfl) ?_
                  refine WJ.r rfl rfl rfl rfl rfl (rd_move rfl rfl) ?_
                  refine WJ.set 104 rfl (v' := .bool true) (by (exact congrArg Value.bool (by simp [*]; done))) ?_
                  (refine WJ.r rfl rfl rfl rfl rfl (rd_fa (q := 0) rfl rfl Tryd.underlying24 rfl (by kernel_rfl) rfl) ?_)
                  (refine WJ.r rfl rfl rfl rfl rfl (ld rfl rfl .tc Tryd.underlying22 rfl (by rfl)) ?_)
                  (refine WJ.r rfl rfl rfl rfl rfl (rd_fa (q := 0) rfl rfl Tryd.underlying24 rfl (by kernel_rfl) rfl) ?_)
                  (refine WJ.r rfl rfl rfl rfl rfl (ld rfl rfl .tc Tryd.underlying22 rfl (by rfl)) ?_)
                  refine WJ.gv rfl rfl rfl rfl rfl (fun ext => og_call rfl rfl (by kernel_rfl) (keep_val fun w hS => sameN_c (l := t.vals) (m := t.vals) (by (exact hS.sl)) (by (exact hS.sl)) (by omega) (by omega))) ?_
                  refine WJ.r rfl rfl rfl rfl rfl (rd_pickt rfl rfl rfl) ?_
                  refine WJ.r rfl rfl rfl rfl rfl (rd_move rfl rfl) ?_
                  refine WJ.set 111 rfl (v' := .bool true) (by (exact congrArg Value.bool (by simp [*]; done))) ?_
                  refine WJ.r rfl rfl rfl rfl rfl (lda rfl rfl .tc Tryd.underlying24 rfl ?_) ?_
                  · kernel_rfl
                  refine WJ.gv rfl rfl rfl rfl rfl (fun ext => og_call rfl rfl (by kernel_rfl) (keep_val fun w hS => left_c (t := ⟨t.vals, t.seed, t.at_ + 1⟩) (by (exact hS.sl)) (by (dsimp only; omega)))) ?_
                  refine WJ.r rfl rfl rfl rfl rfl (lda rfl rfl .tc Tryd.underlying24 rfl ?_) ?_
                  · kernel_rfl
                  refine WJ.gv rfl rfl rfl rfl rfl (fun ext => og_call rfl rfl (by kernel_rfl) (keep_val fun w hS => left_c (t := t) (by (exact hS.sl)) (by omega))) ?_
                  (refine WJ.r rfl rfl rfl rfl rfl (rd_sub64 rfl rfl rfl ?_) ?_; (focus (omega)))
                  refine WJ.r rfl rfl rfl rfl rfl (rd_eql rfl rfl rfl) ?_
                  refine WJ.r rfl rfl rfl rfl rfl (rd_pickt rfl rfl rfl) ?_
                  refine WJ.r rfl rfl rfl rfl rfl (rd_assign rfl rfl) ?_
                  refine WJ.nil ?_
                  refine WL.nt ?_
                  refine WC.ret ?_
                  exact WX.retN rfl (.tmp rfl .nil) fun w' hS => ⟨by (simp [*, tup]; done), hS.below⟩
end Go.Proofs.YtikcjkifhliidaaDoor
