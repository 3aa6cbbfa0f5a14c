/-
  Parts of the walk: Ick Icw Lin5 Lin6 Eqt.
-/
import Derived.Test.YtnimhldbblfgbaaGreatL13
namespace Go.Proofs.YtnimhldbblfgbaaGreat
set_option linter.unusedSimpArgs false
set_option linter.unusedVariables false
set_option maxRecDepth 20000
set_option maxHeartbeats 600000
open Go.RowKit
theorem keepC {P : Program} {f : FuncId} {args : Array Value} {v : Value} {ok : Nat → Prop} {w0 w : World} {own : List Ent} {fs : List Fact} (h : Calls P f args w (fun e w' => e = .returned v ∧ Below w.heap.size w w')) (hS : St ok w0 own fs w) : Calls P f args w (fun e w' => e = .returned v ∧ St ok w0 own fs w') := h.mono fun _ _ ⟨h, hb⟩ => ⟨h, hS.keep hb⟩
theorem kn_err (k : PK) (c v r : Bs) : errL [if okK k ∧ okN c ∧ okN v ∧ okN r then 0 else 3, chkI k, if elG k.1 c then 0 else 13, bndE v r] = knE k c v r := by
 by_cases h1 : okK k ∧ okN c ∧ okN v ∧ okN r
 ·by_cases h2 : chkI k = 0
  ·by_cases h3 : elG k.1 c
   ·by_cases h4 : bndE v r = 0 <;> simp [errL, knE, h1, h2, h3, h4]
   ·simp [errL, knE, h1, h2, h3]
  ·simp [errL, knE, h1, h2]
 ·simp [errL, knE, h1]
theorem pr_err (k : PK) (a b c v r : Bs) : errL [if okK k ∧ okN a ∧ okN b ∧ okN c ∧ okN v ∧ okN r then 0 else 3, chkI k, if elG k.1 a ∧ elG k.1 b ∧ elG k.1 c then 0 else 13, bndE v r, (crossS v r).2] = prE k a b c v r := by
 by_cases h1 : okK k ∧ okN a ∧ okN b ∧ okN c ∧ okN v ∧ okN r
 ·by_cases h2 : chkI k = 0
  ·by_cases h3 : elG k.1 a ∧ elG k.1 b ∧ elG k.1 c
   ·by_cases h4 : bndE v r = 0
    ·by_cases h5 : (crossS v r).2 = 0 <;> simp [errL, prE, h1, h2, h3, h4, h5]
    ·simp [errL, prE, h1, h2, h3, h4]
   ·simp [errL, prE, h1, h2, h3]
  ·simp [errL, prE, h1, h2]
 ·simp [errL, prE, h1]
theorem eq_err (m k : PK) (a b v r : Bs) : errL [if okK m ∧ okK k ∧ okN a ∧ okN b ∧ okN v ∧ okN r then 0 else 3, chkK m, if m.1.2 = [] then 10 else chkI k, if elG m.1 a then 0 else 13, if elG k.1 b then 0 else 13, bndE v r] = eqE m k a b v r := by
 by_cases h1 : okK m ∧ okK k ∧ okN a ∧ okN b ∧ okN v ∧ okN r
 ·by_cases h2 : chkK m = 0
  ·by_cases h3 : m.1.2 = []
   ·simp [errL, eqE, h1, h2, h3]
   ·by_cases h4 : chkI k = 0
    ·by_cases h5 : elG m.1 a
     ·by_cases h6 : elG k.1 b
      ·by_cases h7 : bndE v r = 0 <;> simp [errL, eqE, h1, h2, h3, h4, h5, h6, h7]
      ·simp [errL, eqE, h1, h2, h3, h4, h5, h6]
     ·simp [errL, eqE, h1, h2, h3, h4, h5]
    ·simp [errL, eqE, h1, h2, h3, h4]
  ·simp [errL, eqE, h1, h2]
 ·simp [errL, eqE, h1]
def knL (p0 p1 p2 p3 : Nat) : List (Nat × Array Value) := [(42, #[.pointer (some ⟨p0, 0, none⟩), .pointer (some ⟨p1, 0, none⟩), .pointer (some ⟨p2, 0, none⟩), .pointer (some ⟨p3, 0, none⟩)]), (45, #[.pointer (some ⟨p0, 0, none⟩)]), (46, #[.pointer (some ⟨p0, 0, none⟩), .pointer (some ⟨p1, 0, none⟩)]), (48, #[.pointer (some ⟨p2, 0, none⟩), .pointer (some ⟨p3, 0, none⟩)])]
theorem icknows_c {k : PK} {c v r : Bs} {w : World} {ok : Nat → Prop} (hm8 : k.1.1.length ≤ 8) :
  Calls Tryz.prog 12 #[pkV k, .string (S c), .string (S v), .string (S r)] w fun e w' => ∃ gx : SA, e = .returned (SME gx (knS k c v r).2) ∧ (gx.core = (knS k c v r).1) ∧ Below w.heap.size w w' ∧ ∀ x ∈ (saF gx : List Fact), x.holds (fun b => ok b ∨ w.heap.size ≤ b) w' := by
 refine enter (S := St (fun b => ok b ∨ w.heap.size ≤ b) w [] ([])) (L := [(0, pkV k), (1, .string (S c)), (2, .string (S v)), (3, .string (S r))]) Tryz.func12 rfl Tryz.ntmps12 rfl (args_cons rfl (args_cons rfl (args_cons rfl (args_cons rfl (args_nil _))))) (St.start (fun _ h => Or.inr h) (facts_or facts_nil)) ?_
 refine WC.sr ?_
 refine Kh rfl (og_box rfl rfl (by (exact cells_agg _))) ?_
 intro b4
 refine Kh rfl (og_box rfl rfl (by (exact cells_agg _))) ?_
 intro b5
 refine Kh rfl (og_box rfl rfl (by (exact cells_agg _))) ?_
 intro b6
 refine Kh rfl (og_box rfl rfl (by (exact cells_agg _))) ?_
 intro b7
 refine Kh rfl (og_alloc rfl (v := (.agg #[.slice none 0 0, .slice none 0 0, .slice none 0 0])) (cs := [.slice none 0 0, .slice none 0 0, .slice none 0 0]) (by kernel_rfl) rfl) ?_
 intro b8
 refine Ka rfl (WL.nt (WC.sr ?_))
 refine Kq rfl (rd_mkf rfl rfl rfl) ?_
 refine Kq rfl (rd_mkf rfl rfl rfl) ?_
 refine Kq rfl (rd_mkf rfl rfl rfl) ?_
 refine Kq rfl (rd_mkf rfl rfl rfl) ?_
 refine Kh rfl (og_bs1 rfl rfl Tryz.underlying135 (by kernel_rfl : _ = some (some .nilFunc, 1, 8)) rfl (by simp only [List.map]; rfl) rfl rfl ?_ (by decide)) ?_
 ·simp [Value.cells]
 intro b15
 refine WL.st (fun w h => h.freeze (off := 0) (xs := (knL b4 b5 b6 b7).map fnV) (fun i hi => by rw [Nat.zero_add]; rfl)) ?_
 refine Kh rfl (og_call rfl rfl (by kernel_rfl) (keep_st fun w hS => (first_c (l := (knL b4 b5 b6 b7)) (rs := [if okK k ∧ okN c ∧ okN v ∧ okN r then 0 else 3, chkI k, if elG k.1 c then 0 else 13, bndE v r]) (a := some ⟨b15, 0, none⟩) (c := 4) (ow := fun _ => _) hS (show (4 : Nat) ≤ 1000 by decide) rfl (fun i hi => by rcases i with _ | _ | _ | _ | i; kernel_rfl; kernel_rfl; kernel_rfl; kernel_rfl; exact absurd hi (by simp [knL])) (fun i hi h0 w' hS => by rcases i with _ | _ | _ | _ | i; exact keepC (kn1_c hS.os hS.os hS.os hS.os) hS; exact keepC (kn2_c hS.os hm8) hS; exact keepC (kn3_c hS.os hS.os (chkI_ok (h0 1 (by decide))).2.1 hm8) hS; exact keepC (kn4_c hS.os hS.os) hS; exact absurd hi (by simp [knL]))).mono fun _ _ ⟨h, _, _, hS⟩ => ⟨by rw [h, kn_err], hS⟩)) ?_
 intro g16
 refine Ka rfl (WL.nt (WC.seq (WC.sr (Km rfl (Kq rfl (rd_neq rfl rfl rfl) (WL.nt ?_))))))
 refine WC.cond rfl (fun hc18 => ?_) (fun hc18 => ?_)
 ·(try simp only [sB] at hc18)
  have hr : knS k c v r = (([], [], []), knE k c v r) := by rw [knS, if_pos hc18]
  refine WC.sr ?_
  refine Kq rfl (rd_bld [[.slice none 0 0], [.slice none 0 0], [.slice none 0 0]] rfl rfl (by simp only [bld, fldv, Nat.beq, Value.cells, cond_true, cond_false, List.nil_append, List.cons_append, List.append_nil]; rfl) (fun w => by kernel_rfl)) ?_
  refine Km rfl ?_
  refine WL.g0 rfl rfl (sta rfl rfl rfl .tc ?_ ?_ ?_) ?_
  ·kernel_rfl
  ·simp [Value.oneCell']
  ·rfl
  intro _
  refine Ka rfl (WL.nt (WC.ret (WX.then_ret ?_)))
  exact WX.retN rfl (.agg rfl .tc Tryz.underlying35 rfl (by kernel_rfl) (.tmp rfl .nil)) fun w' hS => sm_err hr hS
 ·(try simp only [sB] at hc18)
  have hr : knS k c v r = (knQ k c v r, 0) := by rw [knS, if_neg (fun h => h hc18)]
  refine WC.skip (WX.then_normal (WC.seq ?_))
  refine WC.free0 [3, 4, 5, 6, 7, 8, 9, 10, 11, 12, 13, 14, 15, 0, 1, 2, 16, 17] [18, 19] [0, 0, 3, 0, 0, 0, 1, 0, 0, 0, 0, 0, 0, 0, 3, 1, 3, 0, 2, 2] (by kernel_rfl) (by kernel_rfl) rfl ?_
  refine Kj rfl (ld rfl rfl .tc Tryz.underlying22 rfl (by rfl)) ?_
  refine Kj rfl (ld rfl rfl .tc Tryz.underlying22 rfl (by rfl)) ?_
  refine Kj rfl (rd_bld [[.string (S [])], [.string (S [])], [.string (S [])]] rfl rfl (by simp only [bld, fldv, Nat.beq, Value.cells, cond_true, cond_false, List.nil_append, List.cons_append, List.append_nil]; rfl) (fun w => by kernel_rfl)) ?_
  refine WJ.g rfl rfl rfl rfl rfl (fun ext => og_call rfl rfl (by kernel_rfl) (keep_f1 fun w hS => icvars_c (x := v) (y := r) (z := []) (n := 2) (by omega))) ?_
  intro g27 hg27; (try dsimp only at hg27 ⊢)
  refine Kj rfl (ld rfl rfl .tc Tryz.underlying22 rfl (by rfl)) ?_
  refine Kj rfl (rd_fa (q := 2) rfl rfl Tryz.underlying26 rfl (by kernel_rfl) rfl) ?_
  refine Kj rfl (ld rfl rfl .tc Tryz.underlying22 rfl (by rfl)) ?_
  refine Kj rfl (rd_bld [[.string (S [])], [.int .i64 0]] rfl rfl (by simp only [bld, fldv, Nat.beq, Value.cells, cond_true, cond_false, List.nil_append, List.cons_append, List.append_nil]; rfl) (fun w => by kernel_rfl)) ?_
  refine Kj rfl (rd_fa (q := 3) rfl rfl Tryz.underlying26 rfl (by kernel_rfl) rfl) ?_
  refine Kj rfl (ld rfl rfl .tc Tryz.underlying22 rfl (by rfl)) ?_
  refine Kj rfl (rd_bld [[.string (S [])], [.int .i64 0]] rfl rfl (by simp only [bld, fldv, Nat.beq, Value.cells, cond_true, cond_false, List.nil_append, List.cons_append, List.append_nil]; rfl) (fun w => by kernel_rfl)) ?_
  refine WJ.f rfl rfl rfl rfl rfl (fr_bsN rfl rfl Tryz.underlying136 (by kernel_rfl : _ = some (some (.agg #[.string (S []), .int .i64 0]), 2, 24)) (by kernel_rfl) (by decide) rfl rfl (by (simp [Value.cells]; done)) (by (simp only [List.map, Value.cells, List.flatMap_cons, List.flatMap_nil, List.append_nil, List.toList_toArray]; rfl)) (by decide)) ?_
  intro b35
  refine WJ.g rfl rfl rfl rfl rfl (fun ext => og_call rfl rfl (by kernel_rfl) (keep_fr fun w hS => iceq_c (gr := 0) (t := c) (l := [(k.2.1, 0), (k.2.2, 1)]) (by (exact hS.os)) (by (simp <;> omega)))) ?_
  rintro q36 hg36; (try dsimp only [List.cons_append, List.nil_append] at hg36 ⊢)
  refine Kj rfl (rd_fa (q := 0) rfl rfl Tryz.underlying26 rfl (by kernel_rfl) rfl) ?_
  refine Kj rfl (ldp rfl rfl .tc Tryz.underlying24 rfl (by kernel_rfl : _ = some 2) (by rfl) (by rfl)) ?_
  refine WJ.f rfl rfl rfl rfl rfl (fr_bsN rfl rfl Tryz.underlying31 (by kernel_rfl : _ = some (some (.agg #[.string (S []), .string (S [])]), 2, 32)) (by kernel_rfl) (by decide) rfl rfl (by (simp [Value.cells]; done)) (by (exact cells_one _)) (by decide)) ?_
  intro b23
  refine WJ.f rfl rfl rfl rfl rfl (fr_bsN rfl rfl Tryz.underlying33 (by kernel_rfl : _ = some (some (.agg #[.int .i64 0, .string (S []), .slice none 0 0]), 3, 48)) (by kernel_rfl) (by decide) rfl rfl (by (simp [Value.cells]; done)) (by (exact cells_one _)) (by decide)) ?_
  intro b37
  refine Kj rfl (rd_bld [[.slice none 0 0], [.slice none 0 0], [.slice none 0 0]] rfl rfl (by simp only [bld, fldv, Nat.beq, Value.cells, cond_true, cond_false, List.nil_append, List.cons_append, List.append_nil]; rfl) (fun w => by kernel_rfl)) ?_
  refine WJ.nil ?_
  refine WL.g0 rfl rfl (sta rfl rfl rfl .tc ?_ ?_ ?_) ?_
  ·kernel_rfl
  ·simp [Value.oneCell']
  ·rfl
  intro _
  refine Ka rfl (WL.nt (WC.ret ?_))
  exact WX.retN rfl (.agg rfl .tc Tryz.underlying35 rfl (by kernel_rfl) (.tmp rfl .nil)) fun w' hS => ⟨⟨[k.1], [v, r], [q36], some ⟨b23, 0, none⟩, 1, g27.a, g27.cap, some ⟨b37, 0, none⟩, 1⟩, by rw [hr]; rfl, by rw [hr]; simp [knQ, hg36], hS.below, facts_cons hS.osk (facts_cons hS.slk (facts_cons hS.osk (facts_cons hS.slk facts_nil)))⟩
def prL (p0 p1 p2 p3 p4 p5 p6 : Nat) : List (Nat × Array Value) := [(58, #[.pointer (some ⟨p0, 0, none⟩), .pointer (some ⟨p1, 0, none⟩), .pointer (some ⟨p2, 0, none⟩), .pointer (some ⟨p3, 0, none⟩), .pointer (some ⟨p4, 0, none⟩), .pointer (some ⟨p5, 0, none⟩)]), (59, #[.pointer (some ⟨p0, 0, none⟩)]), (60, #[.pointer (some ⟨p0, 0, none⟩), .pointer (some ⟨p1, 0, none⟩), .pointer (some ⟨p2, 0, none⟩), .pointer (some ⟨p3, 0, none⟩)]), (61, #[.pointer (some ⟨p4, 0, none⟩), .pointer (some ⟨p5, 0, none⟩)]), (62, #[.pointer (some ⟨p4, 0, none⟩), .pointer (some ⟨p5, 0, none⟩), .pointer (some ⟨p6, 0, none⟩)])]
/-- the cross bound, as0 the functions write it -/
def crN (v r : Bs) : Nat → Bs
 | 5 => crossX v r
 | _ => []
theorem keep_n {P : Program} {ok : Nat → Prop} {w0 : World} {own : List Ent} {fs : List Fact} {f : FuncId} {args : Array Value} {val : Value} {p : Nat → Prop} {ow : Nat → List Ent} (h : ∀ w, St ok w0 own fs w → Calls P f args w (fun e w' => e = .returned val ∧ ∃ n, p n ∧ St ok w0 (ow n) fs w')) :
  ∀ w, St ok w0 own fs w → Calls P f args w (fun e w' => ∃ n : Nat, e = .returned val ∧ p n ∧ St ok w0 (ow n) fs w') := fun w hS => (h w hS).mono fun _ _ ⟨he, n, hp, hS⟩ => ⟨n, he, hp, hS⟩
theorem prE_ok {k : PK} {a b c v r : Bs} (h : prE k a b c v r = 0) : (crossS v r).2 = 0 := by
 unfold prE at h; split at h
 ·simp at h
 ·split at h
  ·rename_i h1; exact absurd h h1
  ·split at h
   ·simp at h
   ·split at h
    ·rename_i h1; exact absurd h h1
    ·exact h
theorem crN_ok {v r : Bs} (h : (crossS v r).2 = 0) : crN v r 5 = (crossS v r).1 := by
 show crossX v r = _
 rw [crossX, if_neg]
 intro h1; unfold crossS at h; rw [if_pos h1] at h; exact h1 h
theorem icprod_c {k : PK} {a b c v r : Bs} {w : World} {ok : Nat → Prop} (hm8 : k.1.1.length ≤ 8) :
  Calls Tryz.prog 14 #[pkV k, .string (S a), .string (S b), .string (S c), .string (S v), .string (S r)] w fun e w' => ∃ gx : SA, e = .returned (SME gx (prS k a b c v r).2) ∧ (gx.core = (prS k a b c v r).1) ∧ Below w.heap.size w w' ∧ ∀ x ∈ (saF gx : List Fact), x.holds (fun b => ok b ∨ w.heap.size ≤ b) w' := by
 refine enter (S := St (fun b => ok b ∨ w.heap.size ≤ b) w [] ([])) (L := [(0, pkV k), (1, .string (S a)), (2, .string (S b)), (3, .string (S c)), (4, .string (S v)), (5, .string (S r))]) Tryz.func14 rfl Tryz.ntmps14 rfl (args_cons rfl (args_cons rfl (args_cons rfl (args_cons rfl (args_cons rfl (args_cons rfl (args_nil _))))))) (St.start (fun _ h => Or.inr h) (facts_or facts_nil)) ?_
 refine WC.sr ?_
 refine Kh rfl (og_box rfl rfl (by (exact cells_agg _))) ?_
 intro b6
 refine Kh rfl (og_box rfl rfl (by (exact cells_agg _))) ?_
 intro b7
 refine Kh rfl (og_box rfl rfl (by (exact cells_agg _))) ?_
 intro b8
 refine Kh rfl (og_box rfl rfl (by (exact cells_agg _))) ?_
 intro b9
 refine Kh rfl (og_box rfl rfl (by (exact cells_agg _))) ?_
 intro b10
 refine Kh rfl (og_box rfl rfl (by (exact cells_agg _))) ?_
 intro b11
 refine Kh rfl (og_alloc rfl (v := (.agg #[.slice none 0 0, .slice none 0 0, .slice none 0 0])) (cs := [.slice none 0 0, .slice none 0 0, .slice none 0 0]) (by kernel_rfl) rfl) ?_
 intro b12
 refine Ka rfl (WL.nt (WC.sr ?_))
 refine Kh rfl (og_alloc rfl (v := (.string (S []))) (cs := [.string (S [])]) (by kernel_rfl) rfl) ?_
 intro b14
 refine WL.nt (WC.sr ?_)
 refine Kq rfl (rd_mkf rfl rfl rfl) ?_
 refine Kq rfl (rd_mkf rfl rfl rfl) ?_
 refine Kq rfl (rd_mkf rfl rfl rfl) ?_
 refine Kq rfl (rd_mkf rfl rfl rfl) ?_
 refine Kq rfl (rd_mkf rfl rfl rfl) ?_
 refine Kh rfl (og_bs1 rfl rfl Tryz.underlying135 (by kernel_rfl : _ = some (some .nilFunc, 1, 8)) rfl (by simp only [List.map]; rfl) rfl rfl ?_ (by decide)) ?_
 ·simp [Value.cells]
 intro b21
 refine WL.st (fun w h => h.freeze (off := 0) (xs := (prL b6 b7 b8 b9 b10 b11 b14).map fnV) (fun i hi => by rw [Nat.zero_add]; rfl)) ?_
 refine Kh rfl (og_call rfl rfl (by kernel_rfl) (keep_n (p := fun n => prE k a b c v r = 0 → n = 5) (ow := fun n => ⟨some b14, [.string (S (crN v r n))], 22⟩ :: _) fun w hS => (first_c (l := (prL b6 b7 b8 b9 b10 b11 b14)) (rs := [if okK k ∧ okN a ∧ okN b ∧ okN c ∧ okN v ∧ okN r then 0 else 3, chkI k, if elG k.1 a ∧ elG k.1 b ∧ elG k.1 c then 0 else 13, bndE v r, (crossS v r).2]) (a := some ⟨b21, 0, none⟩) (c := 5) (ow := fun n => ⟨some b14, [.string (S (crN v r n))], 22⟩ :: _) hS (show (5 : Nat) ≤ 1000 by decide) rfl (fun i hi => by rcases i with _ | _ | _ | _ | _ | i; kernel_rfl; kernel_rfl; kernel_rfl; kernel_rfl; kernel_rfl; exact absurd hi (by simp [prL])) (fun i hi h0 w' hS => by rcases i with _ | _ | _ | _ | _ | i; exact keepC (pr1_c hS.os hS.os hS.os hS.os hS.os hS.os) hS; exact keepC (pr2_c hS.os hm8) hS; exact keepC (pr3_c hS.os hS.os hS.os hS.os (chkI_ok (h0 1 (by decide))).2.1 hm8) hS; exact keepC (pr4_c hS.os hS.os) hS; exact pr5_c hS; exact absurd hi (by simp [prL]))).mono fun _ _ ⟨h, n, hn, hS⟩ => ⟨by rw [h, pr_err], n, fun h0 => hn (by rw [pr_err]; exact h0), hS⟩)) ?_
 intro n22; refine WL.pu ?_; intro hn22
 refine Ka rfl (WL.nt (WC.seq (WC.sr (Km rfl (Kq rfl (rd_neq rfl rfl rfl) (WL.nt ?_))))))
 refine WC.cond rfl (fun hc24 => ?_) (fun hc24 => ?_)
 ·(try simp only [sB] at hc24)
  have hr : prS k a b c v r = (([], [], []), prE k a b c v r) := by rw [prS, if_pos hc24]
  refine WC.sr ?_
  refine Kq rfl (rd_bld [[.slice none 0 0], [.slice none 0 0], [.slice none 0 0]] rfl rfl (by simp only [bld, fldv, Nat.beq, Value.cells, cond_true, cond_false, List.nil_append, List.cons_append, List.append_nil]; rfl) (fun w => by kernel_rfl)) ?_
  refine Km rfl ?_
  refine WL.g0 rfl rfl (sta rfl rfl rfl .tc ?_ ?_ ?_) ?_
  ·kernel_rfl
  ·simp [Value.oneCell']
  ·rfl
  intro _
  refine Ka rfl (WL.nt (WC.ret (WX.then_ret ?_)))
  exact WX.retN rfl (.agg rfl .tc Tryz.underlying35 rfl (by kernel_rfl) (.tmp rfl .nil)) fun w' hS => sm_err hr hS
 ·(try simp only [sB] at hc24)
  have hr : prS k a b c v r = (prQ k a b c v r (crossS v r).1, 0) := by rw [prS, if_neg (fun h => h hc24)]
  obtain rfl := hn22 hc24
  rw [crN_ok (prE_ok hc24)]
  refine WC.skip (WX.then_normal (WC.seq ?_))
  refine WC.free0 [3, 4, 5, 6, 7, 8, 9, 10, 11, 12, 13, 14, 15, 16, 17, 18, 19, 20, 21, 22, 23, 24, 0, 1, 2, 25, 26] [27, 28] [0, 0, 3, 0, 0, 0, 0, 1, 0, 0, 0, 0, 0, 0, 0, 3, 1, 0, 0, 0, 0, 0, 0, 3, 1, 3, 0, 2, 2] (by kernel_rfl) (by kernel_rfl) rfl ?_
  refine Kj rfl (ld rfl rfl .tc Tryz.underlying22 rfl (by rfl)) ?_
  refine Kj rfl (ld rfl rfl .tc Tryz.underlying22 rfl (by rfl)) ?_
  refine Kj rfl (ld rfl rfl .tc Tryz.underlying22 rfl (by rfl)) ?_
  refine Kj rfl (rd_bld [[.string (S [])], [.string (S [])], [.string (S [])]] rfl rfl (by simp only [bld, fldv, Nat.beq, Value.cells, cond_true, cond_false, List.nil_append, List.cons_append, List.append_nil]; rfl) (fun w => by kernel_rfl)) ?_
  refine WJ.g rfl rfl rfl rfl rfl (fun ext => og_call rfl rfl (by kernel_rfl) (keep_f1 fun w hS => icvars_c (x := v) (y := r) (z := (crossS v r).1) (n := 3) (by omega))) ?_
  intro g34 hg34; (try dsimp only at hg34 ⊢)
  refine Kj rfl (ld rfl rfl .tc Tryz.underlying22 rfl (by rfl)) ?_
  refine Kj rfl (rd_fa (q := 2) rfl rfl Tryz.underlying26 rfl (by kernel_rfl) rfl) ?_
  refine Kj rfl (ld rfl rfl .tc Tryz.underlying22 rfl (by rfl)) ?_
  refine Kj rfl (rd_bld [[.string (S [])], [.int .i64 0]] rfl rfl (by simp only [bld, fldv, Nat.beq, Value.cells, cond_true, cond_false, List.nil_append, List.cons_append, List.append_nil]; rfl) (fun w => by kernel_rfl)) ?_
  refine Kj rfl (rd_fa (q := 3) rfl rfl Tryz.underlying26 rfl (by kernel_rfl) rfl) ?_
  refine Kj rfl (ld rfl rfl .tc Tryz.underlying22 rfl (by rfl)) ?_
  refine Kj rfl (rd_bld [[.string (S [])], [.int .i64 0]] rfl rfl (by simp only [bld, fldv, Nat.beq, Value.cells, cond_true, cond_false, List.nil_append, List.cons_append, List.append_nil]; rfl) (fun w => by kernel_rfl)) ?_
  refine WJ.f rfl rfl rfl rfl rfl (fr_bsN rfl rfl Tryz.underlying136 (by kernel_rfl : _ = some (some (.agg #[.string (S []), .int .i64 0]), 2, 24)) (by kernel_rfl) (by decide) rfl rfl (by (simp [Value.cells]; done)) (by (simp only [List.map, Value.cells, List.flatMap_cons, List.flatMap_nil, List.append_nil, List.toList_toArray]; rfl)) (by decide)) ?_
  intro b42
  refine WJ.g rfl rfl rfl rfl rfl (fun ext => og_call rfl rfl (by kernel_rfl) (keep_fr fun w hS => iceq_c (gr := 0) (t := b) (l := [(k.2.1, 0), (k.2.2, 1)]) (by (exact hS.os)) (by (simp <;> omega)))) ?_
  rintro q43 hg43; (try dsimp only [List.cons_append, List.nil_append] at hg43 ⊢)
  refine Kj rfl (ld rfl rfl .tc Tryz.underlying22 rfl (by rfl)) ?_
  refine Kj rfl (ld rfl rfl .tc Tryz.underlying22 rfl (by rfl)) ?_
  refine Kj rfl (rd_bld [[.string (S [])], [.int .i64 0]] rfl rfl (by simp only [bld, fldv, Nat.beq, Value.cells, cond_true, cond_false, List.nil_append, List.cons_append, List.append_nil]; rfl) (fun w => by kernel_rfl)) ?_
  refine Kj rfl (rd_fa (q := 3) rfl rfl Tryz.underlying26 rfl (by kernel_rfl) rfl) ?_
  refine Kj rfl (ld rfl rfl .tc Tryz.underlying22 rfl (by rfl)) ?_
  refine Kj rfl (rd_bld [[.string (S [])], [.int .i64 0]] rfl rfl (by simp only [bld, fldv, Nat.beq, Value.cells, cond_true, cond_false, List.nil_append, List.cons_append, List.append_nil]; rfl) (fun w => by kernel_rfl)) ?_
  refine WJ.f rfl rfl rfl rfl rfl (fr_bsN rfl rfl Tryz.underlying136 (by kernel_rfl : _ = some (some (.agg #[.string (S []), .int .i64 0]), 2, 24)) (by kernel_rfl) (by decide) rfl rfl (by (simp [Value.cells]; done)) (by (simp only [List.map, Value.cells, List.flatMap_cons, List.flatMap_nil, List.append_nil, List.toList_toArray]; rfl)) (by decide)) ?_
  intro b50
  refine WJ.g rfl rfl rfl rfl rfl (fun ext => og_call rfl rfl (by kernel_rfl) (keep_fr fun w hS => iceq_c (gr := 0) (t := c) (l := [(a, 0), (k.2.2, 2)]) (by (exact hS.os)) (by (simp <;> omega)))) ?_
  rintro q51 hg51; (try dsimp only [List.cons_append, List.nil_append] at hg51 ⊢)
  refine Kj rfl (rd_fa (q := 0) rfl rfl Tryz.underlying26 rfl (by kernel_rfl) rfl) ?_
  refine Kj rfl (ldp rfl rfl .tc Tryz.underlying24 rfl (by kernel_rfl : _ = some 2) (by rfl) (by rfl)) ?_
  refine WJ.f rfl rfl rfl rfl rfl (fr_bsN rfl rfl Tryz.underlying31 (by kernel_rfl : _ = some (some (.agg #[.string (S []), .string (S [])]), 2, 32)) (by kernel_rfl) (by decide) rfl rfl (by (simp [Value.cells]; done)) (by (exact cells_one _)) (by decide)) ?_
  intro b29
  refine WJ.f rfl rfl rfl rfl rfl (fr_bsN rfl rfl Tryz.underlying33 (by kernel_rfl : _ = some (some (.agg #[.int .i64 0, .string (S []), .slice none 0 0]), 3, 48)) (by kernel_rfl) (by decide) rfl rfl (by (simp [Value.cells]; done)) (by (simp only [List.map, Value.cells, List.flatMap_cons, List.flatMap_nil, List.append_nil, List.toList_toArray]; rfl)) (by decide)) ?_
  intro b52
  refine Kj rfl (rd_bld [[.slice none 0 0], [.slice none 0 0], [.slice none 0 0]] rfl rfl (by simp only [bld, fldv, Nat.beq, Value.cells, cond_true, cond_false, List.nil_append, List.cons_append, List.append_nil]; rfl) (fun w => by kernel_rfl)) ?_
  refine WJ.nil ?_
  refine WL.g0 rfl rfl (sta rfl rfl rfl .tc ?_ ?_ ?_) ?_
  ·kernel_rfl
  ·simp [Value.oneCell']
  ·rfl
  intro _
  refine Ka rfl (WL.nt (WC.ret ?_))
  exact WX.retN rfl (.agg rfl .tc Tryz.underlying35 rfl (by kernel_rfl) (.tmp rfl .nil)) fun w' hS => ⟨⟨[k.1], [v, r, (crossS v r).1], [q43, q51], some ⟨b29, 0, none⟩, 1, g34.a, g34.cap, some ⟨b52, 0, none⟩, 2⟩, by rw [hr]; rfl, by rw [hr]; simp [prQ, hg43, hg51], hS.below, facts_cons hS.osk (facts_cons hS.slk (facts_cons hS.osk (facts_cons hS.slk (facts_cons hS.slk facts_nil))))⟩
def eqL (p0 p1 p2 p3 p4 p5 : Nat) : List (Nat × Array Value) := [(80, #[.pointer (some ⟨p0, 0, none⟩), .pointer (some ⟨p1, 0, none⟩), .pointer (some ⟨p2, 0, none⟩), .pointer (some ⟨p3, 0, none⟩), .pointer (some ⟨p4, 0, none⟩), .pointer (some ⟨p5, 0, none⟩)]), (81, #[.pointer (some ⟨p0, 0, none⟩)]), (82, #[.pointer (some ⟨p0, 0, none⟩), .pointer (some ⟨p1, 0, none⟩)]), (83, #[.pointer (some ⟨p0, 0, none⟩), .pointer (some ⟨p2, 0, none⟩)]), (84, #[.pointer (some ⟨p1, 0, none⟩), .pointer (some ⟨p3, 0, none⟩)]), (85, #[.pointer (some ⟨p4, 0, none⟩), .pointer (some ⟨p5, 0, none⟩)])]
theorem eq_hk {m k : PK} (h : (if m.1.2 = [] then (10 : Int) else chkI k) = 0) : chkG k.1 = 0 := by
 split at h
 ·simp at h
 ·exact (chkI_ok h).2.1
theorem iceql_c {m k : PK} {a b v r : Bs} {w : World} {ok : Nat → Prop} (hm8 : m.1.1.length ≤ 8) (hk8 : k.1.1.length ≤ 8) :
  Calls Tryz.prog 30 #[pkV m, pkV k, .string (S a), .string (S b), .string (S v), .string (S r)] w fun e w' => ∃ gx : SA, e = .returned (SME gx (eqS m k a b v r).2) ∧ (gx.core = (eqS m k a b v r).1) ∧ Below w.heap.size w w' ∧ ∀ x ∈ (saF gx : List Fact), x.holds (fun b => ok b ∨ w.heap.size ≤ b) w' := by
 refine enter (S := St (fun b => ok b ∨ w.heap.size ≤ b) w [] ([])) (L := [(0, pkV m), (1, pkV k), (2, .string (S a)), (3, .string (S b)), (4, .string (S v)), (5, .string (S r))]) Tryz.func30 rfl Tryz.ntmps30 rfl (args_cons rfl (args_cons rfl (args_cons rfl (args_cons rfl (args_cons rfl (args_cons rfl (args_nil _))))))) (St.start (fun _ h => Or.inr h) (facts_or facts_nil)) ?_
 refine WC.sr ?_
 refine Kh rfl (og_box rfl rfl (by (exact cells_agg _))) ?_
 intro b6
 refine Kh rfl (og_box rfl rfl (by (exact cells_agg _))) ?_
 intro b7
 refine Kh rfl (og_box rfl rfl (by (exact cells_agg _))) ?_
 intro b8
 refine Kh rfl (og_box rfl rfl (by (exact cells_agg _))) ?_
 intro b9
 refine Kh rfl (og_box rfl rfl (by (exact cells_agg _))) ?_
 intro b10
 refine Kh rfl (og_box rfl rfl (by (exact cells_agg _))) ?_
 intro b11
 refine Kh rfl (og_alloc rfl (v := (.agg #[.slice none 0 0, .slice none 0 0, .slice none 0 0])) (cs := [.slice none 0 0, .slice none 0 0, .slice none 0 0]) (by kernel_rfl) rfl) ?_
 intro b12
 refine Ka rfl (WL.nt (WC.sr ?_))
 refine Kq rfl (rd_mkf rfl rfl rfl) ?_
 refine Kq rfl (rd_mkf rfl rfl rfl) ?_
 refine Kq rfl (rd_mkf rfl rfl rfl) ?_
 refine Kq rfl (rd_mkf rfl rfl rfl) ?_
 refine Kq rfl (rd_mkf rfl rfl rfl) ?_
 refine Kq rfl (rd_mkf rfl rfl rfl) ?_
 refine Kh rfl (og_bs1 rfl rfl Tryz.underlying135 (by kernel_rfl : _ = some (some .nilFunc, 1, 8)) rfl (by simp only [List.map]; rfl) rfl rfl ?_ (by decide)) ?_
 ·simp [Value.cells]
 intro b21
 refine WL.st (fun w h => h.freeze (off := 0) (xs := (eqL b6 b7 b8 b9 b10 b11).map fnV) (fun i hi => by rw [Nat.zero_add]; rfl)) ?_
 refine Kh rfl (og_call rfl rfl (by kernel_rfl) (keep_st fun w hS => (first_c (l := (eqL b6 b7 b8 b9 b10 b11)) (rs := [if okK m ∧ okK k ∧ okN a ∧ okN b ∧ okN v ∧ okN r then 0 else 3, chkK m, if m.1.2 = [] then 10 else chkI k, if elG m.1 a then 0 else 13, if elG k.1 b then 0 else 13, bndE v r]) (a := some ⟨b21, 0, none⟩) (c := 6) (ow := fun _ => _) hS (show (6 : Nat) ≤ 1000 by decide) rfl (fun i hi => by rcases i with _ | _ | _ | _ | _ | _ | i; kernel_rfl; kernel_rfl; kernel_rfl; kernel_rfl; kernel_rfl; kernel_rfl; exact absurd hi (by simp [eqL])) (fun i hi h0 w' hS => by rcases i with _ | _ | _ | _ | _ | _ | i; exact keepC (eq1_c hS.os hS.os hS.os hS.os hS.os hS.os) hS; exact keepC (eq2_c hS.os hm8) hS; exact keepC (eq3_c hS.os hS.os hk8) hS; exact keepC (eq4_c hS.os hS.os (chkK_ok (h0 1 (by decide))).2.1 hm8) hS; exact keepC (eq5_c hS.os hS.os (eq_hk (h0 2 (by decide))) hk8) hS; exact keepC (eq6_c hS.os hS.os) hS; exact absurd hi (by simp [eqL]))).mono fun _ _ ⟨h, _, _, hS⟩ => ⟨by rw [h, eq_err], hS⟩)) ?_
 intro g22
 refine Ka rfl (WL.nt (WC.seq (WC.sr (Km rfl (Kq rfl (rd_neq rfl rfl rfl) (WL.nt ?_))))))
 refine WC.cond rfl (fun hc24 => ?_) (fun hc24 => ?_)
 ·(try simp only [sB] at hc24)
  have hr : eqS m k a b v r = (([], [], []), eqE m k a b v r) := by rw [eqS, if_pos hc24]
  refine WC.sr ?_
  refine Kq rfl (rd_bld [[.slice none 0 0], [.slice none 0 0], [.slice none 0 0]] rfl rfl (by simp only [bld, fldv, Nat.beq, Value.cells, cond_true, cond_false, List.nil_append, List.cons_append, List.append_nil]; rfl) (fun w => by kernel_rfl)) ?_
  refine Km rfl ?_
  refine WL.g0 rfl rfl (sta rfl rfl rfl .tc ?_ ?_ ?_) ?_
  ·kernel_rfl
  ·simp [Value.oneCell']
  ·rfl
  intro _
  refine Ka rfl (WL.nt (WC.ret (WX.then_ret ?_)))
  exact WX.retN rfl (.agg rfl .tc Tryz.underlying35 rfl (by kernel_rfl) (.tmp rfl .nil)) fun w' hS => sm_err hr hS
 ·(try simp only [sB] at hc24)
  have hr : eqS m k a b v r = (eqQ m k a b v r, 0) := by rw [eqS, if_neg (fun h => h hc24)]
  refine WC.skip (WX.then_normal (WC.seq ?_))
  refine WC.free0 [5, 6, 7, 8, 9, 10, 11, 12, 13, 14, 15, 16, 17, 18, 19, 20, 21, 22, 23, 24, 25, 26, 0, 1, 2, 3, 4, 27, 28] [29, 30] [0, 0, 0, 0, 3, 0, 0, 0, 1, 0, 0, 0, 0, 0, 0, 0, 3, 1, 0, 0, 0, 0, 0, 0, 0, 3, 1, 3, 0, 2, 2] (by kernel_rfl) (by kernel_rfl) rfl ?_
  refine Kj rfl (ld rfl rfl .tc Tryz.underlying22 rfl (by rfl)) ?_
  refine Kj rfl (ld rfl rfl .tc Tryz.underlying22 rfl (by rfl)) ?_
  refine Kj rfl (rd_bld [[.string (S [])], [.string (S [])], [.string (S [])]] rfl rfl (by simp only [bld, fldv, Nat.beq, Value.cells, cond_true, cond_false, List.nil_append, List.cons_append, List.append_nil]; rfl) (fun w => by kernel_rfl)) ?_
  refine WJ.g rfl rfl rfl rfl rfl (fun ext => og_call rfl rfl (by kernel_rfl) (keep_f1 fun w hS => icvars_c (x := v) (y := []) (z := r) (n := 3) (by omega))) ?_
  intro g35 hg35; (try dsimp only at hg35 ⊢)
  refine Kj rfl (ld rfl rfl .tc Tryz.underlying22 rfl (by rfl)) ?_
  refine Kj rfl (rd_fa (q := 2) rfl rfl Tryz.underlying26 rfl (by kernel_rfl) rfl) ?_
  refine Kj rfl (ld rfl rfl .tc Tryz.underlying22 rfl (by rfl)) ?_
  refine Kj rfl (rd_bld [[.string (S [])], [.int .i64 0]] rfl rfl (by simp only [bld, fldv, Nat.beq, Value.cells, cond_true, cond_false, List.nil_append, List.cons_append, List.append_nil]; rfl) (fun w => by kernel_rfl)) ?_
  refine Kj rfl (rd_fa (q := 3) rfl rfl Tryz.underlying26 rfl (by kernel_rfl) rfl) ?_
  refine Kj rfl (ld rfl rfl .tc Tryz.underlying22 rfl (by rfl)) ?_
  refine Kj rfl (rd_bld [[.string (S [])], [.int .i64 0]] rfl rfl (by simp only [bld, fldv, Nat.beq, Value.cells, cond_true, cond_false, List.nil_append, List.cons_append, List.append_nil]; rfl) (fun w => by kernel_rfl)) ?_
  refine WJ.f rfl rfl rfl rfl rfl (fr_bsN rfl rfl Tryz.underlying136 (by kernel_rfl : _ = some (some (.agg #[.string (S []), .int .i64 0]), 2, 24)) (by kernel_rfl) (by decide) rfl rfl (by (simp [Value.cells]; done)) (by (simp only [List.map, Value.cells, List.flatMap_cons, List.flatMap_nil, List.append_nil, List.toList_toArray]; rfl)) (by decide)) ?_
  intro b43
  refine WJ.g rfl rfl rfl rfl rfl (fun ext => og_call rfl rfl (by kernel_rfl) (keep_fr fun w hS => iceq_c (gr := 0) (t := a) (l := [(m.2.1, 0), (m.2.2, 1)]) (by (exact hS.os)) (by (simp <;> omega)))) ?_
  rintro q44 hg44; (try dsimp only [List.cons_append, List.nil_append] at hg44 ⊢)
  refine Kj rfl (ld rfl rfl .tc Tryz.underlying22 rfl (by rfl)) ?_
  refine Kj rfl (rd_fa (q := 2) rfl rfl Tryz.underlying26 rfl (by kernel_rfl) rfl) ?_
  refine Kj rfl (ld rfl rfl .tc Tryz.underlying22 rfl (by rfl)) ?_
  refine Kj rfl (rd_bld [[.string (S [])], [.int .i64 0]] rfl rfl (by simp only [bld, fldv, Nat.beq, Value.cells, cond_true, cond_false, List.nil_append, List.cons_append, List.append_nil]; rfl) (fun w => by kernel_rfl)) ?_
  refine Kj rfl (rd_fa (q := 3) rfl rfl Tryz.underlying26 rfl (by kernel_rfl) rfl) ?_
  refine Kj rfl (ld rfl rfl .tc Tryz.underlying22 rfl (by rfl)) ?_
  refine Kj rfl (rd_bld [[.string (S [])], [.int .i64 0]] rfl rfl (by simp only [bld, fldv, Nat.beq, Value.cells, cond_true, cond_false, List.nil_append, List.cons_append, List.append_nil]; rfl) (fun w => by kernel_rfl)) ?_
  refine WJ.f rfl rfl rfl rfl rfl (fr_bsN rfl rfl Tryz.underlying136 (by kernel_rfl : _ = some (some (.agg #[.string (S []), .int .i64 0]), 2, 24)) (by kernel_rfl) (by decide) rfl rfl (by (simp [Value.cells]; done)) (by (simp only [List.map, Value.cells, List.flatMap_cons, List.flatMap_nil, List.append_nil, List.toList_toArray]; rfl)) (by decide)) ?_
  intro b52
  refine WJ.g rfl rfl rfl rfl rfl (fun ext => og_call rfl rfl (by kernel_rfl) (keep_fr fun w hS => iceq_c (gr := 1) (t := b) (l := [(k.2.1, 0), (k.2.2, 2)]) (by (exact hS.os)) (by (simp <;> omega)))) ?_
  rintro q53 hg53; (try dsimp only [List.cons_append, List.nil_append] at hg53 ⊢)
  refine Kj rfl (rd_fa (q := 0) rfl rfl Tryz.underlying26 rfl (by kernel_rfl) rfl) ?_
  refine Kj rfl (ldp rfl rfl .tc Tryz.underlying24 rfl (by kernel_rfl : _ = some 2) (by rfl) (by rfl)) ?_
  refine Kj rfl (rd_fa (q := 0) rfl rfl Tryz.underlying26 rfl (by kernel_rfl) rfl) ?_
  refine Kj rfl (ldp rfl rfl .tc Tryz.underlying24 rfl (by kernel_rfl : _ = some 2) (by rfl) (by rfl)) ?_
  refine WJ.f rfl rfl rfl rfl rfl (fr_bsN rfl rfl Tryz.underlying31 (by kernel_rfl : _ = some (some (.agg #[.string (S []), .string (S [])]), 2, 32)) (by kernel_rfl) (by decide) rfl rfl (by (simp [Value.cells]; done)) (by (simp only [List.map, Value.cells, List.flatMap_cons, List.flatMap_nil, List.append_nil, List.toList_toArray]; rfl)) (by decide)) ?_
  intro b31
  refine WJ.f rfl rfl rfl rfl rfl (fr_bsN rfl rfl Tryz.underlying33 (by kernel_rfl : _ = some (some (.agg #[.int .i64 0, .string (S []), .slice none 0 0]), 3, 48)) (by kernel_rfl) (by decide) rfl rfl (by (simp [Value.cells]; done)) (by (simp only [List.map, Value.cells, List.flatMap_cons, List.flatMap_nil, List.append_nil, List.toList_toArray]; rfl)) (by decide)) ?_
  intro b54
  refine Kj rfl (rd_bld [[.slice none 0 0], [.slice none 0 0], [.slice none 0 0]] rfl rfl (by simp only [bld, fldv, Nat.beq, Value.cells, cond_true, cond_false, List.nil_append, List.cons_append, List.append_nil]; rfl) (fun w => by kernel_rfl)) ?_
  refine WJ.nil ?_
  refine WL.g0 rfl rfl (sta rfl rfl rfl .tc ?_ ?_ ?_) ?_
  ·kernel_rfl
  ·simp [Value.oneCell']
  ·rfl
  intro _
  refine Ka rfl (WL.nt (WC.ret ?_))
  exact WX.retN rfl (.agg rfl .tc Tryz.underlying35 rfl (by kernel_rfl) (.tmp rfl .nil)) fun w' hS => ⟨⟨[m.1, k.1], [v, [], r], [q44, q53], some ⟨b31, 0, none⟩, 2, g35.a, g35.cap, some ⟨b54, 0, none⟩, 2⟩, by rw [hr]; rfl, by rw [hr]; simp [eqQ, hg44, hg53], hS.below, facts_cons hS.osk (facts_cons hS.slk (facts_cons hS.osk (facts_cons hS.slk (facts_cons hS.slk facts_nil))))⟩
end Go.Proofs.YtnimhldbblfgbaaGreat
namespace Go.Proofs.YtnimhldbblfgbaaGreat
set_option linter.unusedSimpArgs false
set_option linter.unusedVariables false
set_option maxRecDepth 20000
set_option maxHeartbeats 600000
open Go.RowKit
theorem rd_aidN {ds : List Deferred} {P : Program} {o : Oper} {n : Nat} {L : Slots} {ok : Nat → Prop} {w0 : World} {own : List Ent} {fs : List Fact} {x y : Operand} {t e : TypeId} {k : IntKind} {i : Int} {len sz : Nat} {cs ys : List Value} {d : TypeDesc} (hop : o.op = .index t x y) (hx : oper L x = some (.agg cs.toArray)) (hy : oper L y = some (.int k i)) (hu : P.underlying t = some (.array len e)) (hd : P.underlying e = some d) (ha : isAggD d = true) (hs : (P.info? e).map (·.size) = some sz) (hb : 0 ≤ i ∧ i < (len : Int)) (hv : (cs.drop (i.toNat * sz)).take sz = ys) : Rd ds P o n L (St ok w0 own fs) (.agg ys.toArray) :=
 rd_run fun a hF w hS => by
  have e1 : cs.toArray.extract (i.toNat * sz) (i.toNat * sz + sz) = ys.toArray := by
   apply Array.ext'; rw [← hv]; simp [Array.toList_extract, List.extract_eq_take_drop]
  have e2 : cs.toArray.extract (sz * i.toNat) (sz * i.toNat + sz) = ys.toArray := by rw [Nat.mul_comm]; exact e1
  simp [execOp, hop, hF.eval hx, hF.eval hy, Instr.index, asIntOf, run_underlying hu, hb, size_run hs, part, run_isAgg hd, ha, e1, e2, -List.extract_toArray]
abbrev opC (o : Opn) : List Value := [.bool o.1.1, .string (S o.1.2), .bool o.2.1, .string (S o.2.2)]
theorem pw_bad {a b c : Opn} {i : Nat} (hi : i < [a, b, c].length) (h : ¬ (okZ ([a, b, c].getD i default).1 ∧ okZ ([a, b, c].getD i default).2)) : pwS a b c = ([], 3) := by
 rw [pwS, if_pos (fun h2 => h (h2 _ (getD_mem _ _ hi)))]
theorem new_nilS {w w' : World} {own : List Ent} {T : TypeId} {fs : List Fact} {ok : Nat → Prop} (h : St ok w own fs w') : St ok w [⟨none, [] ++ [], T⟩] [] w' := (h.nil T).sub (List.Sublist.cons_cons _ (List.nil_sublist _)) (fun _ h => by cases h)
theorem pw_err {a b c : Opn} {n : Int} {w w' : World} {own : List Ent} {fs : List Fact} (hr : pwS a b c = ([], n)) (hS : St (fun _ => True) w own fs w') :
  ∃ g : Rs, Ending.returned (tup [.slice none 0 0, .int .i64 n]) = Ending.returned (.tuple #[g.val (pwS a b c).1.length, .int .i64 (pwS a b c).2]) ∧ g.cap = (pwS a b c).1.length + g.sp.length ∧ St (fun _ => True) w [g.ent (ints (pwS a b c).1) 45] [] w' := by
 rw [hr]; exact ⟨⟨none, 0, []⟩, rfl, rfl, new_nilS hS⟩
theorem pw_all {a b c : Opn} (h : ∀ o ∈ [a, b, c], okZ o.1 ∧ okZ o.2) : pwS a b c = if (mulZ a.1 b.1).2 ≠ 0 ∨ (mulZ a.1 b.1).1 ≠ c.1 then ([], 1)
 else if (mulZ b.1 a.2).2 ≠ 0 then ([], (mulZ b.1 a.2).2)
 else if (subZ c.2 (mulZ b.1 a.2).1).2 ≠ 0 then ([], (subZ c.2 (mulZ b.1 a.2).1).2)
 else ([b.1, b.2, (subZ c.2 (mulZ b.1 a.2).1).1], 0) := by rw [pwS, if_neg (fun h2 => h2 h)]
theorem icpw_c {a b c : Opn} {w : World} :
  Calls Tryz.prog 17 #[opV a, opV b, opV c] w fun e w' => ∃ g : Rs, e = .returned (.tuple #[g.val (pwS a b c).1.length, .int .i64 (pwS a b c).2]) ∧ g.cap = (pwS a b c).1.length + g.sp.length ∧ St (fun _ => True) w [g.ent (ints (pwS a b c).1) 45] [] w' := by
 refine enter (S := St (fun _ => True) w [] ([])) (L := [(0, opV a), (1, opV b), (2, opV c)]) Tryz.func17 rfl Tryz.ntmps17 rfl (args_cons rfl (args_cons rfl (args_cons rfl (args_nil _)))) (St.start (fun _ _ => trivial) facts_nil) ?_
 refine WC.sr ?_
 refine Kh rfl (og_box rfl rfl (by (exact cells_agg _))) ?_
 intro b3
 refine Kh rfl (og_box rfl rfl (by (exact cells_agg _))) ?_
 intro b4
 refine Kh rfl (og_box rfl rfl (by (exact cells_agg _))) ?_
 intro b5
 refine Ka rfl (Ka rfl (WL.nt (WC.seq (WC.sr ?_))))
 refine Kq rfl (lda rfl rfl .tc Tryz.underlying47 rfl ?_) ?_
 ·kernel_rfl
 refine Kq rfl (lda rfl rfl .tc Tryz.underlying47 rfl ?_) ?_
 ·kernel_rfl
 refine Kq rfl (lda rfl rfl .tc Tryz.underlying47 rfl ?_) ?_
 ·kernel_rfl
 refine Kq rfl (rd_bld [[.bool false, .string (S []), .bool false, .string (S [])], [.bool false, .string (S []), .bool false, .string (S [])], [.bool false, .string (S []), .bool false, .string (S [])]] rfl rfl (by simp only [bld, fldv, Nat.beq, Value.cells, cond_true, cond_false, List.nil_append, List.cons_append, List.append_nil]; rfl) (fun w => by kernel_rfl)) ?_
 refine Km rfl (WL.nt (WC.block ?_))
 refine WC.loopP (σ := Nat) [(3, _), (4, _), (5, _), (17, _)] (fun gq => [(18, .int .i64 (gq : Int))]) (fun gq => gq ≤ 3 ∧ ∀ o ∈ [a, b, c].take gq, okZ o.1 ∧ okZ o.2) (fun gq => 3 - gq) (0) (sub_cons rfl (sub_cons rfl (sub_cons rfl (sub_cons rfl (sub_nil _))))) (sub_cons rfl (sub_nil _)) (by (try dsimp only); exact ⟨Nat.zero_le _, by simp⟩) ?_
 rintro i hinv1; (try dsimp only at hinv1 ⊢)
 obtain ⟨hi, hok⟩ := hinv1
 refine WC.sr (Kq rfl (rd_lss rfl rfl rfl) (WL.nt (WC.seq ?_)))
 refine WC.cond rfl (fun hc19 => ?_) (fun hc19 => ?_)
 ·(try simp only [sB] at hc19)
  have hil : i < [a, b, c].length := by show i < 3; omega
  refine WC.skip (WX.then_normal (WC.seq (WC.block (WC.sr ?_))))
  refine Kq rfl (rd_aidN (sz := 4) (ys := opC ([a, b, c].getD i default)) rfl rfl rfl Tryz.underlying48 Tryz.underlying47 rfl (by kernel_rfl) (by omega) (by rw [Int.toNat_natCast]; exact flatMap_at [a, b, c] opC 4 (fun _ => rfl) i hil)) ?_
  refine Kh rfl (og_alloc rfl (v := (.agg #[.bool false, .string (S []), .bool false, .string (S [])])) (cs := [.bool false, .string (S []), .bool false, .string (S [])]) (by kernel_rfl) rfl) ?_
  intro b9
  refine WL.g0 rfl rfl (sta rfl rfl rfl .tc ?_ ?_ ?_) ?_
  ·kernel_rfl
  ·simp [Value.oneCell']
  ·rfl
  intro _
  refine WL.nt ?_
  refine WC.joinP (σ := Unit) [(3, _), (4, _), (5, _), (17, _), (18, _)] (fun gq => [(30, .bool (decide (¬ (okZ ([a, b, c].getD i default).1 ∧ okZ ([a, b, c].getD i default).2))))]) (fun gq => True) (sub_cons rfl (sub_cons rfl (sub_cons rfl (sub_cons rfl (sub_cons rfl (sub_nil _)))))) ?_ ?_
  ·skip
   refine WC.region ?_
   refine Kq rfl (rd_fa (q := 0) rfl rfl Tryz.underlying47 rfl (by kernel_rfl) rfl) ?_
   refine Kq rfl (ldp rfl rfl .tc Tryz.underlying45 rfl (by kernel_rfl : _ = some 2) (by rfl) (by rfl)) ?_
   refine Kh rfl (og_call rfl rfl (by kernel_rfl) (keep_val fun w hS => zvalid_c (x := ([a, b, c].getD i default).1))) ?_
   intro _
   refine Kq rfl (rd_not rfl rfl) (Km rfl ?_)
   refine WL.bool 25 rfl (fun hg25 => ?_) (fun hg25 => ?_)
   ·(try simp only [sB] at hg25)
    refine Kt rfl (Kt rfl (Kt rfl (Kt rfl (Kq rfl (rd_pickt rfl rfl rfl) (WL.nil ?_)))))
    refine WX.joinP (()) (sub_cons rfl (sub_cons rfl (sub_cons rfl (sub_cons rfl (sub_cons rfl (sub_nil _)))))) (by refine (sub_cons ?_ (sub_nil _)) <;> ((refine congrArg (fun b => some (Value.bool b)) ?_; simp [*, -List.getD_eq_getElem?_getD]; done))) ?_ (by (exact fun _ h => h))
    (try dsimp only)
    done
   ·(try simp only [sB] at hg25)
    refine Kq rfl (rd_fa (q := 2) rfl rfl Tryz.underlying47 rfl (by kernel_rfl) rfl) ?_
    refine Kq rfl (ldp rfl rfl .tc Tryz.underlying45 rfl (by kernel_rfl : _ = some 2) (by rfl) (by rfl)) ?_
    refine Kh rfl (og_call rfl rfl (by kernel_rfl) (keep_val fun w hS => zvalid_c (x := ([a, b, c].getD i default).2))) ?_
    intro _
    refine Kq rfl (rd_not rfl rfl) (Kq rfl (rd_pickf rfl rfl rfl) (WL.nil ?_))
    refine WX.joinP (()) (sub_cons rfl (sub_cons rfl (sub_cons rfl (sub_cons rfl (sub_cons rfl (sub_nil _)))))) (by refine (sub_cons ?_ (sub_nil _)) <;> ((refine congrArg (fun b => some (Value.bool b)) ?_; simp [*, -List.getD_eq_getElem?_getD]; done))) ?_ (by (exact fun _ h => h))
    (try dsimp only)
    done
  ·rintro _ hmeet; (try dsimp only at hmeet ⊢)
   refine WC.cond rfl (fun hc30 => ?_) (fun hc30 => ?_)
   ·(try simp only [sB] at hc30)
    refine WC.sr (Ka rfl (Ka rfl (WL.nt (WC.ret (WX.block_ret (WX.then_ret (WX.then_ret (WX.block_ret (WX.then_ret ?_)))))))))
    exact WX.retN rfl (.tmp rfl (.tmp rfl .nil)) fun w' hS => pw_err (pw_bad hil hc30) hS
   ·(try simp only [sB] at hc30)
    refine WC.skip (WX.block_normal (WX.then_normal (WC.region ?_)))
    (refine Kq rfl (rd_add64nl rfl rfl rfl ?_) ?_; (focus (omega)))
    refine Km rfl (WL.nil ?_)
    refine WX.loopP (i + 1) (by (try dsimp only); omega) (sub_cons rfl (sub_cons rfl (sub_cons rfl (sub_cons rfl (sub_nil _))))) (by refine (sub_cons ?_ (sub_nil _)) <;> (rfl)) ?_ (by (exact st_sub))
    (try dsimp only)
    exact ⟨hil, all_take hil hok (Decidable.not_not.1 hc30)⟩
 ·(try simp only [sB] at hc19)
  refine WC.exit (WX.then_exit (WX.then_exit (WX.block_exit ?_)))
  obtain rfl : i = 3 := by omega
  have hr0 := pw_all hok
  refine WX.then_normal (WC.seq (WC.sr ?_))
  refine Kq rfl (rd_fa (q := 0) rfl rfl Tryz.underlying47 rfl (by kernel_rfl) rfl) ?_
  refine Kq rfl (ldp rfl rfl .tc Tryz.underlying45 rfl (by kernel_rfl : _ = some 2) (by rfl) (by rfl)) ?_
  refine Kq rfl (rd_fa (q := 0) rfl rfl Tryz.underlying47 rfl (by kernel_rfl) rfl) ?_
  refine Kq rfl (ldp rfl rfl .tc Tryz.underlying45 rfl (by kernel_rfl : _ = some 2) (by rfl) (by rfl)) ?_
  refine Kh rfl (og_call rfl rfl (by kernel_rfl) (keep_val fun w hS => zmul_c (x := a.1) (y := b.1))) ?_
  intro _
  refine Km rfl (Kq rfl (rd_extL rfl rfl rfl) (Kq rfl (rd_extL rfl rfl rfl) ?_))
  refine Kh rfl (og_alloc rfl (v := (.agg #[.bool false, .string (S [])])) (cs := [.bool false, .string (S [])]) (by kernel_rfl) rfl) ?_
  intro b10
  refine WL.g0 rfl rfl (sta rfl rfl rfl .tc ?_ ?_ ?_) ?_
  ·kernel_rfl
  ·simp [Value.oneCell']
  ·rfl
  intro _
  refine Ka rfl (WL.nt ?_)
  refine WC.joinP (σ := Unit) [(3, _), (4, _), (5, _)] (fun gq => [(47, .bool (decide ((mulZ a.1 b.1).2 ≠ 0 ∨ ¬ ((mulZ a.1 b.1).1.1 = c.1.1 ∧ (mulZ a.1 b.1).1.2 = c.1.2))))]) (fun gq => True) (sub_cons rfl (sub_cons rfl (sub_cons rfl (sub_nil _)))) ?_ ?_
  ·skip
   refine WC.region (Km rfl (Kq rfl (rd_neq rfl rfl rfl) (Km rfl ?_)))
   refine WL.bool 42 rfl (fun hg42 => ?_) (fun hg42 => ?_)
   ·(try simp only [sB] at hg42)
    refine Kt rfl (Kt rfl (Kt rfl (Kt rfl (Kq rfl (rd_pickt rfl rfl rfl) (WL.nil ?_)))))
    refine WX.joinP (()) (sub_cons rfl (sub_cons rfl (sub_cons rfl (sub_nil _)))) (by refine (sub_cons ?_ (sub_nil _)) <;> ((refine slot_b rfl ?_; (try dsimp only); (simp [*]; done)))) ?_ (by (exact fun _ h => h))
    (try dsimp only)
    done
   ·(try simp only [sB] at hg42)
    refine Kq rfl (lda rfl rfl .tc Tryz.underlying45 rfl ?_) ?_
    ·kernel_rfl
    refine Kq rfl (rd_fa (q := 0) rfl rfl Tryz.underlying47 rfl (by kernel_rfl) rfl) ?_
    refine Kq rfl (ldp rfl rfl .tc Tryz.underlying45 rfl (by kernel_rfl : _ = some 2) (by rfl) (by rfl)) ?_
    refine Kq rfl (rd_neA rfl rfl rfl (by kernel_rfl) (fun w => eql_api_Int _ _ _ _ w)) ?_
    refine Kq rfl (rd_pickf rfl rfl rfl) (WL.nil ?_)
    refine WX.joinP (()) (sub_cons rfl (sub_cons rfl (sub_cons rfl (sub_nil _)))) (by refine (sub_cons ?_ (sub_nil _)) <;> ((refine slot_b rfl ?_; (try dsimp only); (simp [*]; done)))) ?_ (by (exact fun _ h => h))
    (try dsimp only)
    done
  ·rintro _ hmeet; (try dsimp only at hmeet ⊢)
   refine WC.cond rfl (fun hc47 => ?_) (fun hc47 => ?_)
   ·(try simp only [sB] at hc47)
    have hr : pwS a b c = ([], 1) := by
     rw [hr0, if_pos (hc47.imp id fun h h2 => h (by rw [h2]; exact ⟨rfl, rfl⟩))]
    refine WC.sr (Ka rfl (Ka rfl (WL.nt (WC.ret (WX.then_ret ?_)))))
    exact WX.retN rfl (.tmp rfl (.tmp rfl .nil)) fun w' hS => pw_err hr hS
   ·(try simp only [sB] at hc47)
    have hne : ¬ ((mulZ a.1 b.1).2 ≠ 0 ∨ (mulZ a.1 b.1).1 ≠ c.1) := fun h => hc47 (h.imp id fun h h2 => h (Prod.ext h2.1 h2.2))
    rw [if_neg hne] at hr0
    refine WC.skip (WX.then_normal (WC.sr ?_))
    refine Kq rfl (rd_fa (q := 0) rfl rfl Tryz.underlying47 rfl (by kernel_rfl) rfl) ?_
    refine Kq rfl (ldp rfl rfl .tc Tryz.underlying45 rfl (by kernel_rfl : _ = some 2) (by rfl) (by rfl)) ?_
    refine Kq rfl (rd_fa (q := 2) rfl rfl Tryz.underlying47 rfl (by kernel_rfl) rfl) ?_
    refine Kq rfl (ldp rfl rfl .tc Tryz.underlying45 rfl (by kernel_rfl : _ = some 2) (by rfl) (by rfl)) ?_
    refine Kh rfl (og_call rfl rfl (by kernel_rfl) (keep_val fun w hS => zmul_c (x := b.1) (y := a.2))) ?_
    intro _
    refine Km rfl (Kq rfl (rd_extL rfl rfl rfl) (Kq rfl (rd_extL rfl rfl rfl) ?_))
    refine Kh rfl (og_alloc rfl (v := (.agg #[.bool false, .string (S [])])) (cs := [.bool false, .string (S [])]) (by kernel_rfl) rfl) ?_
    intro b12
    refine WL.g0 rfl rfl (sta rfl rfl rfl .tc ?_ ?_ ?_) ?_
    ·kernel_rfl
    ·simp [Value.oneCell']
    ·rfl
    intro _
    refine Ka rfl (WL.nt (WC.seq (WC.sr (Km rfl (Kq rfl (rd_neq rfl rfl rfl) (WL.nt ?_))))))
    refine WC.cond rfl (fun hc57 => ?_) (fun hc57 => ?_)
    ·(try simp only [sB] at hc57)
     rw [if_pos hc57] at hr0
     refine WC.sr (Km rfl (Ka rfl (Ka rfl (WL.nt (WC.ret (WX.then_ret ?_))))))
     exact WX.retN rfl (.tmp rfl (.tmp rfl .nil)) fun w' hS => pw_err hr0 hS
    ·(try simp only [sB] at hc57)
     rw [if_neg (fun h => h hc57)] at hr0
     refine WC.skip (WX.then_normal (WC.seq (WC.sr ?_)))
     refine Kq rfl (rd_fa (q := 2) rfl rfl Tryz.underlying47 rfl (by kernel_rfl) rfl) ?_
     refine Kq rfl (ldp rfl rfl .tc Tryz.underlying45 rfl (by kernel_rfl : _ = some 2) (by rfl) (by rfl)) ?_
     refine Kq rfl (lda rfl rfl .tc Tryz.underlying45 rfl ?_) ?_
     ·kernel_rfl
     refine Kh rfl (og_call rfl rfl (by kernel_rfl) (keep_val fun w hS => zsub_c (x := c.2) (y := (mulZ b.1 a.2).1))) ?_
     intro _
     refine Km rfl (Kq rfl (rd_extL rfl rfl rfl) (Kq rfl (rd_extL rfl rfl rfl) ?_))
     refine WL.g0 rfl rfl (sta rfl rfl rfl .tc ?_ ?_ ?_) ?_
     ·kernel_rfl
     ·simp [Value.oneCell']
     ·rfl
     intro _
     refine Ka rfl (WL.nt (WC.sr (Km rfl (Kq rfl (rd_neq rfl rfl rfl) (WL.nt ?_)))))
     refine WC.cond rfl (fun hc67 => ?_) (fun hc67 => ?_)
     ·(try simp only [sB] at hc67)
      rw [if_pos hc67] at hr0
      refine WC.sr (Km rfl (Ka rfl (Ka rfl (WL.nt (WC.ret (WX.then_ret ?_))))))
      exact WX.retN rfl (.tmp rfl (.tmp rfl .nil)) fun w' hS => pw_err hr0 hS
     ·(try simp only [sB] at hc67)
      rw [if_neg (fun h => h hc67)] at hr0
      refine WC.skip (WX.then_normal (WC.sr ?_))
      refine Kq rfl (rd_fa (q := 0) rfl rfl Tryz.underlying47 rfl (by kernel_rfl) rfl) ?_
      refine Kq rfl (ldp rfl rfl .tc Tryz.underlying45 rfl (by kernel_rfl : _ = some 2) (by rfl) (by rfl)) ?_
      refine Kq rfl (rd_fa (q := 2) rfl rfl Tryz.underlying47 rfl (by kernel_rfl) rfl) ?_
      refine Kq rfl (ldp rfl rfl .tc Tryz.underlying45 rfl (by kernel_rfl : _ = some 2) (by rfl) (by rfl)) ?_
      refine Kq rfl (lda rfl rfl .tc Tryz.underlying45 rfl ?_) ?_
      ·kernel_rfl
      refine Kh rfl (og_bsN rfl rfl Tryz.underlying49 (by kernel_rfl : _ = some (some (.agg #[.bool false, .string (S [])]), 2, 24)) (by kernel_rfl) (by decide) rfl rfl (by (simp [Value.cells]; done)) (by (simp only [List.map, Value.cells, List.flatMap_cons, List.flatMap_nil, List.append_nil, List.toList_toArray]; rfl)) (by decide)) ?_
      intro b74
      refine Ka rfl (Ka rfl (WL.nt (WC.ret ?_)))
      exact WX.retN rfl (.tmp rfl (.tmp rfl .nil)) fun w' hS => ⟨⟨some b74, 3, []⟩, by rw [hr0]; rfl, by rw [hr0]; rfl, by rw [hr0]; exact hS.sub (List.Sublist.cons_cons _ (List.nil_sublist _)) (fun _ h => h)⟩
theorem flatMap_part {α : Type} [Inhabited α] (l : List α) (f : α → List Value) (sz : Nat) (hf : ∀ x, (f x).length = sz) (q : Nat) (h : q < l.length) (off m : Nat) (hm : off + m ≤ sz) : ((l.flatMap f).drop (q * sz + off)).take m = ((f (l.getD q default)).drop off).take m := by
 rw [← flatMap_at l f sz hf q h, List.drop_take, List.take_take, List.drop_drop, Nat.min_eq_left (by omega)]
theorem ricpw_c {a b c : Opn} {w : World} :
  Calls Tryz.prog 18 #[opV a, opV b, opV c] w fun e w' => ∃ g : Rs, e = .returned (.tuple #[g.val (pwS a b c).1.length, .int .i64 (pwS a b c).2]) ∧ g.cap = (pwS a b c).1.length + g.sp.length ∧ St (fun _ => True) w [g.ent (ints (pwS a b c).1) 45] [] w' := by
 refine enter (S := St (fun _ => True) w [] ([])) (L := [(0, opV a), (1, opV b), (2, opV c)]) Tryz.func18 rfl Tryz.ntmps18 rfl (args_cons rfl (args_cons rfl (args_cons rfl (args_nil _)))) (St.start (fun _ _ => trivial) facts_nil) ?_
 refine WC.sr ?_
 refine Kh rfl (og_box rfl rfl (by (exact cells_agg _))) ?_
 intro b3
 refine Kh rfl (og_box rfl rfl (by (exact cells_agg _))) ?_
 intro b4
 refine Kh rfl (og_box rfl rfl (by (exact cells_agg _))) ?_
 intro b5
 refine Ka rfl (Ka rfl (WL.nt (WC.sr ?_)))
 refine Kq rfl (lda rfl rfl .tc Tryz.underlying47 rfl ?_) ?_
 ·kernel_rfl
 refine Kq rfl (lda rfl rfl .tc Tryz.underlying47 rfl ?_) ?_
 ·kernel_rfl
 refine Kq rfl (lda rfl rfl .tc Tryz.underlying47 rfl ?_) ?_
 ·kernel_rfl
 refine Kh rfl (og_bsN rfl rfl Tryz.underlying68 (by kernel_rfl : _ = some (some (.agg #[.bool false, .string (S []), .bool false, .string (S [])]), 4, 48)) (by kernel_rfl) (by decide) rfl rfl (by (simp [Value.cells]; done)) (by (simp only [List.map, Value.cells, List.flatMap_cons, List.flatMap_nil, List.append_nil, List.toList_toArray]; rfl)) (by decide)) ?_
 intro b17
 refine Ka rfl (WL.nt (WC.seq (WC.sr ?_)))
 refine WL.st (fun w h => h.freeze (off := 0) (xs := [a, b, c].flatMap opC) (fun i hi => by rw [Nat.zero_add]; rfl)) ?_
 refine Ka rfl (WL.nt (WC.block ?_))
 refine WC.loopP (σ := Nat) [(3, _), (4, _), (5, _), (8, _)] (fun gq => [(9, .int .i64 (gq : Int))]) (fun gq => gq ≤ 3 ∧ ∀ o ∈ [a, b, c].take gq, okZ o.1 ∧ okZ o.2) (fun gq => 3 - gq) (0) (sub_cons rfl (sub_cons rfl (sub_cons rfl (sub_cons rfl (sub_nil _))))) (sub_cons rfl (sub_nil _)) (by (try dsimp only); exact ⟨Nat.zero_le _, by simp⟩) ?_
 rintro i hinv1; (try dsimp only at hinv1 ⊢)
 obtain ⟨hi, hok⟩ := hinv1
 refine WC.seq (WC.sr (Km rfl (Km rfl (Kq rfl (rd_len rfl rfl Tryz.underlying68) (Kq rfl (rd_lss rfl rfl rfl) (WL.nt ?_))))))
 refine WC.cond rfl (fun hc21 => ?_) (fun hc21 => ?_)
 ·(try simp only [sB] at hc21)
  have hil : i < [a, b, c].length := by show i < 3; omega
  refine WC.skip (WX.then_normal (WC.seq (WC.block ?_)))
  refine WC.joinP (σ := Unit) [(3, _), (4, _), (5, _), (8, _), (9, _)] (fun gq => [(39, .bool (decide (¬ (okZ ([a, b, c].getD i default).1 ∧ okZ ([a, b, c].getD i default).2))))]) (fun gq => True) (sub_cons rfl (sub_cons rfl (sub_cons rfl (sub_cons rfl (sub_cons rfl (sub_nil _)))))) ?_ ?_
  ·skip
   refine WC.region (Km rfl (Km rfl ?_))
   (refine Kq rfl (rd_ia rfl rfl rfl Tryz.underlying68 (by kernel_rfl : _ = some 4) ?_ (by (try simp only [sN, Int.reduceToNat, Nat.reduceAdd, Nat.reduceMul, Nat.reduceSub]); rfl)) ?_; (focus (omega)))
   (refine Kq rfl (rd_fa rfl rfl Tryz.underlying47 rfl (by kernel_rfl) (by (try simp only [sN, Int.reduceToNat, Nat.reduceAdd, Nat.reduceMul, Nat.reduceSub]); rfl)) ?_)
   refine Kq rfl (ldfa (off0 := 0) (m := i * 4 + 0) rfl rfl .tc Tryz.underlying45 rfl (by kernel_rfl : _ = some 2) (Nat.zero_add _).symm (flatMap_part [a, b, c] opC 4 (fun _ => rfl) i hil 0 2 (by decide)) rfl (by decide)) ?_
   refine Kh rfl (og_call rfl rfl (by kernel_rfl) (keep_val fun w hS => rzvalid_c (x := ([a, b, c].getD i default).1))) ?_
   intro _
   refine Kq rfl (rd_not rfl rfl) (Km rfl ?_)
   refine WL.bool 31 rfl (fun hg31 => ?_) (fun hg31 => ?_)
   ·(try simp only [sB] at hg31)
    refine Kt rfl (Kt rfl (Kt rfl (Kt rfl (Kt rfl (Kt rfl (Kt rfl (Kq rfl (rd_pickt rfl rfl rfl) (WL.nil ?_))))))))
    refine WX.joinP (()) (sub_cons rfl (sub_cons rfl (sub_cons rfl (sub_cons rfl (sub_cons rfl (sub_nil _)))))) (by refine (sub_cons ?_ (sub_nil _)) <;> ((refine congrArg (fun b => some (Value.bool b)) ?_; simp [*, -List.getD_eq_getElem?_getD]; done))) ?_ (by (exact fun _ h => h))
    (try dsimp only)
    done
   ·(try simp only [sB] at hg31)
    refine Km rfl (Km rfl ?_)
    (refine Kq rfl (rd_ia rfl rfl rfl Tryz.underlying68 (by kernel_rfl : _ = some 4) ?_ (by (try simp only [sN, Int.reduceToNat, Nat.reduceAdd, Nat.reduceMul, Nat.reduceSub]); rfl)) ?_; (focus (omega)))
    (refine Kq rfl (rd_fa rfl rfl Tryz.underlying47 rfl (by kernel_rfl) (by (try simp only [sN, Int.reduceToNat, Nat.reduceAdd, Nat.reduceMul, Nat.reduceSub]); rfl)) ?_)
    refine Kq rfl (ldfa (off0 := 0) (m := i * 4 + 2) rfl rfl .tc Tryz.underlying45 rfl (by kernel_rfl : _ = some 2) (Nat.zero_add _).symm (flatMap_part [a, b, c] opC 4 (fun _ => rfl) i hil 2 2 (by decide)) rfl (by decide)) ?_
    refine Kh rfl (og_call rfl rfl (by kernel_rfl) (keep_val fun w hS => rzvalid_c (x := ([a, b, c].getD i default).2))) ?_
    intro _
    refine Kq rfl (rd_not rfl rfl) (Kq rfl (rd_pickf rfl rfl rfl) (WL.nil ?_))
    refine WX.joinP (()) (sub_cons rfl (sub_cons rfl (sub_cons rfl (sub_cons rfl (sub_cons rfl (sub_nil _)))))) (by refine (sub_cons ?_ (sub_nil _)) <;> ((refine congrArg (fun b => some (Value.bool b)) ?_; simp [*, -List.getD_eq_getElem?_getD]; done))) ?_ (by (exact fun _ h => h))
    (try dsimp only)
    done
  ·rintro _ hmeet; (try dsimp only at hmeet ⊢)
   refine WC.cond rfl (fun hc39 => ?_) (fun hc39 => ?_)
   ·(try simp only [sB] at hc39)
    refine WC.sr (Ka rfl (Ka rfl (WL.nt (WC.ret (WX.block_ret (WX.then_ret (WX.then_ret (WX.block_ret (WX.then_ret ?_)))))))))
    exact WX.retN rfl (.tmp rfl (.tmp rfl .nil)) fun w' hS => pw_err (pw_bad hil hc39) hS
   ·(try simp only [sB] at hc39)
    refine WC.skip (WX.block_normal (WX.then_normal (WC.region (Km rfl ?_))))
    (refine Kq rfl (rd_add64nl rfl rfl rfl ?_) ?_; (focus (omega)))
    refine Ka rfl (WL.nil ?_)
    refine WX.loopP (i + 1) (by (try dsimp only); omega) (sub_cons rfl (sub_cons rfl (sub_cons rfl (sub_cons rfl (sub_nil _))))) (by refine (sub_cons ?_ (sub_nil _)) <;> (rfl)) ?_ (by (exact fun _ h => h))
    (try dsimp only)
    exact ⟨hil, all_take hil hok (Decidable.not_not.1 hc39)⟩
 ·(try simp only [sB] at hc21)
  refine WC.exit (WX.then_exit (WX.then_exit (WX.block_exit ?_)))
  obtain rfl : i = 3 := by omega
  have hr0 := pw_all hok
  refine WX.then_normal (WC.sr ?_)
  refine Kq rfl (rd_fa (q := 0) rfl rfl Tryz.underlying47 rfl (by kernel_rfl) rfl) ?_
  refine Kq rfl (ldp rfl rfl .tc Tryz.underlying45 rfl (by kernel_rfl : _ = some 2) (by rfl) (by rfl)) ?_
  refine Kq rfl (rd_fa (q := 0) rfl rfl Tryz.underlying47 rfl (by kernel_rfl) rfl) ?_
  refine Kq rfl (ldp rfl rfl .tc Tryz.underlying45 rfl (by kernel_rfl : _ = some 2) (by rfl) (by rfl)) ?_
  refine Kh rfl (og_call rfl rfl (by kernel_rfl) (keep_val fun w hS => rzmul_c (x := a.1) (y := b.1))) ?_
  intro _
  refine Km rfl (Kq rfl (rd_extL rfl rfl rfl) (Kq rfl (rd_extL rfl rfl rfl) ?_))
  refine Kh rfl (og_alloc rfl (v := (.agg #[.bool false, .string (S [])])) (cs := [.bool false, .string (S [])]) (by kernel_rfl) rfl) ?_
  intro b10
  refine WL.g0 rfl rfl (sta rfl rfl rfl .tc ?_ ?_ ?_) ?_
  ·kernel_rfl
  ·simp [Value.oneCell']
  ·rfl
  intro _
  refine Ka rfl (WL.nt (WC.seq ?_))
  refine WC.joinP (σ := Unit) [(3, _), (4, _), (5, _)] (fun gq => [(55, .bool (decide ((mulZ a.1 b.1).2 ≠ 0 ∨ ¬ ((mulZ a.1 b.1).1.1 = c.1.1 ∧ (mulZ a.1 b.1).1.2 = c.1.2))))]) (fun gq => True) (sub_cons rfl (sub_cons rfl (sub_cons rfl (sub_nil _)))) ?_ ?_
  ·skip
   refine WC.region (Km rfl (Kq rfl (rd_neq rfl rfl rfl) (Km rfl ?_)))
   refine WL.bool 50 rfl (fun hg50 => ?_) (fun hg50 => ?_)
   ·(try simp only [sB] at hg50)
    refine Kt rfl (Kt rfl (Kt rfl (Kt rfl (Kq rfl (rd_pickt rfl rfl rfl) (WL.nil ?_)))))
    refine WX.joinP (()) (sub_cons rfl (sub_cons rfl (sub_cons rfl (sub_nil _)))) (by refine (sub_cons ?_ (sub_nil _)) <;> ((refine slot_b rfl ?_; (try dsimp only); (simp [*]; done)))) ?_ (by (exact fun _ h => h))
    (try dsimp only)
    done
   ·(try simp only [sB] at hg50)
    refine Kq rfl (lda rfl rfl .tc Tryz.underlying45 rfl ?_) ?_
    ·kernel_rfl
    refine Kq rfl (rd_fa (q := 0) rfl rfl Tryz.underlying47 rfl (by kernel_rfl) rfl) ?_
    refine Kq rfl (ldp rfl rfl .tc Tryz.underlying45 rfl (by kernel_rfl : _ = some 2) (by rfl) (by rfl)) ?_
    refine Kq rfl (rd_neA rfl rfl rfl (by kernel_rfl) (fun w => eql_api_Int _ _ _ _ w)) ?_
    refine Kq rfl (rd_pickf rfl rfl rfl) (WL.nil ?_)
    refine WX.joinP (()) (sub_cons rfl (sub_cons rfl (sub_cons rfl (sub_nil _)))) (by refine (sub_cons ?_ (sub_nil _)) <;> ((refine slot_b rfl ?_; (try dsimp only); (simp [*]; done)))) ?_ (by (exact fun _ h => h))
    (try dsimp only)
    done
  ·rintro _ hmeet; (try dsimp only at hmeet ⊢)
   refine WC.cond rfl (fun hc55 => ?_) (fun hc55 => ?_)
   ·(try simp only [sB] at hc55)
    have hr : pwS a b c = ([], 1) := by
     rw [hr0, if_pos (hc55.imp id fun h h2 => h (by rw [h2]; exact ⟨rfl, rfl⟩))]
    refine WC.sr (Ka rfl (Ka rfl (WL.nt (WC.ret (WX.then_ret ?_)))))
    exact WX.retN rfl (.tmp rfl (.tmp rfl .nil)) fun w' hS => pw_err hr hS
   ·(try simp only [sB] at hc55)
    have hne : ¬ ((mulZ a.1 b.1).2 ≠ 0 ∨ (mulZ a.1 b.1).1 ≠ c.1) := fun h => hc55 (h.imp id fun h h2 => h (Prod.ext h2.1 h2.2))
    rw [if_neg hne] at hr0
    refine WC.skip (WX.then_normal (WC.sr ?_))
    refine Kq rfl (rd_fa (q := 0) rfl rfl Tryz.underlying47 rfl (by kernel_rfl) rfl) ?_
    refine Kq rfl (ldp rfl rfl .tc Tryz.underlying45 rfl (by kernel_rfl : _ = some 2) (by rfl) (by rfl)) ?_
    refine Kq rfl (rd_fa (q := 2) rfl rfl Tryz.underlying47 rfl (by kernel_rfl) rfl) ?_
    refine Kq rfl (ldp rfl rfl .tc Tryz.underlying45 rfl (by kernel_rfl : _ = some 2) (by rfl) (by rfl)) ?_
    refine Kh rfl (og_call rfl rfl (by kernel_rfl) (keep_val fun w hS => rzmul_c (x := b.1) (y := a.2))) ?_
    intro _
    refine Km rfl (Kq rfl (rd_extL rfl rfl rfl) (Kq rfl (rd_extL rfl rfl rfl) ?_))
    refine Kh rfl (og_alloc rfl (v := (.agg #[.bool false, .string (S [])])) (cs := [.bool false, .string (S [])]) (by kernel_rfl) rfl) ?_
    intro b12
    refine WL.g0 rfl rfl (sta rfl rfl rfl .tc ?_ ?_ ?_) ?_
    ·kernel_rfl
    ·simp [Value.oneCell']
    ·rfl
    intro _
    refine Ka rfl (WL.nt (WC.seq (WC.sr (Km rfl (Kq rfl (rd_neq rfl rfl rfl) (WL.nt ?_))))))
    refine WC.cond rfl (fun hc65 => ?_) (fun hc65 => ?_)
    ·(try simp only [sB] at hc65)
     rw [if_pos hc65] at hr0
     refine WC.sr (Km rfl (Ka rfl (Ka rfl (WL.nt (WC.ret (WX.then_ret ?_))))))
     exact WX.retN rfl (.tmp rfl (.tmp rfl .nil)) fun w' hS => pw_err hr0 hS
    ·(try simp only [sB] at hc65)
     rw [if_neg (fun h => h hc65)] at hr0
     refine WC.skip (WX.then_normal (WC.sr ?_))
     refine Kq rfl (rd_fa (q := 2) rfl rfl Tryz.underlying47 rfl (by kernel_rfl) rfl) ?_
     refine Kq rfl (ldp rfl rfl .tc Tryz.underlying45 rfl (by kernel_rfl : _ = some 2) (by rfl) (by rfl)) ?_
     refine Kq rfl (lda rfl rfl .tc Tryz.underlying45 rfl ?_) ?_
     ·kernel_rfl
     refine Kh rfl (og_call rfl rfl (by kernel_rfl) (keep_val fun w hS => rzsub_c (x := c.2) (y := (mulZ b.1 a.2).1))) ?_
     intro _
     refine Km rfl (Kq rfl (rd_extL rfl rfl rfl) (Kq rfl (rd_extL rfl rfl rfl) ?_))
     refine Kh rfl (og_alloc rfl (v := (.agg #[.bool false, .string (S [])])) (cs := [.bool false, .string (S [])]) (by kernel_rfl) rfl) ?_
     intro b13
     refine WL.g0 rfl rfl (sta rfl rfl rfl .tc ?_ ?_ ?_) ?_
     ·kernel_rfl
     ·simp [Value.oneCell']
     ·rfl
     intro _
     refine Ka rfl (WL.nt (WC.seq (WC.sr (Km rfl (Kq rfl (rd_neq rfl rfl rfl) (WL.nt ?_))))))
     refine WC.cond rfl (fun hc75 => ?_) (fun hc75 => ?_)
     ·(try simp only [sB] at hc75)
      rw [if_pos hc75] at hr0
      refine WC.sr (Km rfl (Ka rfl (Ka rfl (WL.nt (WC.ret (WX.then_ret ?_))))))
      exact WX.retN rfl (.tmp rfl (.tmp rfl .nil)) fun w' hS => pw_err hr0 hS
     ·(try simp only [sB] at hc75)
      rw [if_neg (fun h => h hc75)] at hr0
      refine WC.skip (WX.then_normal (WC.sr ?_))
      refine Kq rfl (rd_fa (q := 0) rfl rfl Tryz.underlying47 rfl (by kernel_rfl) rfl) ?_
      refine Kq rfl (ldp rfl rfl .tc Tryz.underlying45 rfl (by kernel_rfl : _ = some 2) (by rfl) (by rfl)) ?_
      refine Kq rfl (rd_fa (q := 2) rfl rfl Tryz.underlying47 rfl (by kernel_rfl) rfl) ?_
      refine Kq rfl (ldp rfl rfl .tc Tryz.underlying45 rfl (by kernel_rfl : _ = some 2) (by rfl) (by rfl)) ?_
      refine Kq rfl (lda rfl rfl .tc Tryz.underlying45 rfl ?_) ?_
      ·kernel_rfl
      refine Kh rfl (og_bsN rfl rfl Tryz.underlying49 (by kernel_rfl : _ = some (some (.agg #[.bool false, .string (S [])]), 2, 24)) (by kernel_rfl) (by decide) rfl rfl (by (simp [Value.cells]; done)) (by (simp only [List.map, Value.cells, List.flatMap_cons, List.flatMap_nil, List.append_nil, List.toList_toArray]; rfl)) (by decide)) ?_
      intro b82
      refine Ka rfl (Ka rfl (WL.nt (WC.ret ?_)))
      exact WX.retN rfl (.tmp rfl (.tmp rfl .nil)) fun w' hS => ⟨⟨some b82, 3, []⟩, by rw [hr0]; rfl, by rw [hr0]; rfl, by rw [hr0]; exact hS.sub (List.Sublist.cons_cons _ (List.nil_sublist _)) (fun _ h => by cases h)⟩
end Go.Proofs.YtnimhldbblfgbaaGreat
namespace Go.Proofs.YtnimhldbblfgbaaGreat
set_option linter.unusedSimpArgs false
set_option linter.unusedVariables false
set_option maxRecDepth 20000
set_option maxHeartbeats 600000
open Go.RowKit
theorem imS_at {s : SA} {ws : List Zs} {i : Nat} (h : i < s.es.length) (h0 : ∀ q ∈ s.es.take i, (imQ s.gs ws q.1).2 = 0) (h1 : (imQ s.gs ws (s.es.getD i default).1).2 ≠ 0) : imS s.core ws = ([], (imQ s.gs ws (s.es.getD i default).1).2) := by
 have e : errL (s.core.2.2.map fun q => (imQ s.core.1 ws q).2) = (imQ s.gs ws (s.es.getD i default).1).2 := by
  rw [← errL_at (f := fun q : QA => (imQ s.gs ws q.1).2) h h0 h1, List.map_map]; rfl
 rw [imS, e, if_pos h1]
theorem imS_ok {s : SA} {ws : List Zs} (h0 : ∀ q ∈ s.es, (imQ s.gs ws q.1).2 = 0) : imS s.core ws = (s.es.map fun q => (imQ s.gs ws q.1).1, 0) := by
 have e : errL (s.core.2.2.map fun q => (imQ s.core.1 ws q).2) = 0 := errL_map fun q hq => by
  obtain ⟨x, hx, rfl⟩ := List.mem_map.1 hq; exact h0 x hx
 rw [imS, e, if_neg (fun h => h rfl), List.map_map]; rfl
theorem imQ_err {gs : List Gp} {ws : List Zs} {q : Qn} (h : (exQ ws q).2 ≠ 0) : imQ gs ws q = ([], (exQ ws q).2) := by rw [imQ, if_pos h]
theorem imQ_ok {gs : List Gp} {ws : List Zs} {q : Qn} (h : (exQ ws q).2 = 0) : imQ gs ws q = prodS (gs.getD q.1.toNat default) (bsQ ws q) (exQ ws q).1 := by rw [imQ, bsQ, if_neg (fun h2 => h2 h), if_neg (fun h2 => h2 h)]
theorem qs_strs {l : List QA} (f : QA → Bs) {i : Nat} (h : i < l.length) : strs ((l.take (i + 1)).map f) = strs ((l.take i).map f) ++ [.string (S (f (l.getD i default)))] := by
 rw [take_succ_getD h, List.map_append]; simp [strs]
theorem bsQ_len {ws : List Zs} {q : Qn} : (bsQ ws q).length ≤ q.2.2.length := by rw [bsQ]; split <;> simp
theorem exQ_len {ws : List Zs} {q : Qn} : (exQ ws q).1.length ≤ q.2.2.length := by rw [exQ]; split <;> simp
theorem images_c {s : SA} {ws : List Zs} {a : Option Addr} {c : Nat} {w : World} {ok : Nat → Prop} (hF1 : (Fact.sl s.ga (gps s.gs)).holds ok w) (hF2 : (Fact.sl s.ea (qas s.es)).holds ok w) (hF3 : (Fact.sl a (ints ws)).holds ok w) (hM : ∀ f ∈ (s.es.map qaF), f.holds ok w) (hs : saL s) (hw : ws.length = s.vs.length) (hfo : formS s.core) :
  Calls Tryz.prog 75 #[saV s, .slice a ws.length c] w fun e w' => ∃ gx : Rs, e = .returned (.tuple #[gx.val (imS s.core ws).1.length, .int .i64 (imS s.core ws).2]) ∧ (True) ∧ Below w.heap.size w w' ∧ ∀ x ∈ ([Fact.sl gx.a (strs (imS s.core ws).1)] : List Fact), x.holds (fun b => w.heap.size ≤ b) w' := by
 obtain ⟨hlg, hlv, hle, hlt, hlm⟩ := hs
 refine enter (S := St (fun _ => True) w [] (Fact.sl s.ga (gps s.gs) :: Fact.sl s.ea (qas s.es) :: Fact.sl a (ints ws) :: (s.es.map qaF))) (L := [(0, saV s), (1, .slice a ws.length c)]) Tryz.func75 rfl Tryz.ntmps75 rfl (args_cons rfl (args_cons rfl (args_nil _))) (St.start (fun _ _ => trivial) (facts_cons (fact_any hF1) (facts_cons (fact_any hF2) (facts_cons (fact_any hF3) (facts_more hM))))) ?_
 refine WC.sr ?_
 refine Kh rfl (og_box rfl rfl (by (exact cells_agg _))) ?_
 intro b2
 refine Kh rfl (og_box rfl rfl (by (exact cells_agg _))) ?_
 intro b3
 refine Ka rfl (Ka rfl (WL.nt (WC.sr ?_)))
 refine Kq rfl (rd_mkf rfl rfl rfl) ?_
 refine Ka rfl (WL.nt (WC.sr (Ka rfl (WL.nt (WC.seq (WC.sr ?_))))))
 refine Kq rfl (rd_fa (q := 2) rfl rfl Tryz.underlying35 rfl (by kernel_rfl) rfl) ?_
 refine Kq rfl (ld rfl rfl .tc Tryz.underlying33 rfl (by rfl)) ?_
 refine Kq rfl (rd_len rfl rfl Tryz.underlying33) (Km rfl (WL.nt (WC.block ?_)))
 refine WC.loopO (σ := Nat × (Option Nat) × Nat × (List Value)) [(2, _), (6, _), (16, _), (17, _)] (fun gq => [(7, .slice (gq.2.1.map fun b => ⟨b, 0, none⟩) gq.1 gq.2.2.1), (18, .int .i64 (gq.1 : Int))]) (fun gq => (gq.1 ≤ s.es.length ∧ gq.2.2.1 = gq.1 + gq.2.2.2.length) ∧ ∀ q ∈ s.es.take gq.1, (imQ s.gs ws q.1).2 = 0) (fun gq => s.es.length - gq.1) (fun gq => [⟨gq.2.1, strs ((s.es.take gq.1).map fun q => (imQ s.gs ws q.1).1) ++ gq.2.2.2, 22⟩, ⟨some b3, [.slice a ws.length c], 49⟩, ⟨some b2, [.slice s.ga s.gs.length s.gc, .slice s.va s.vs.length s.vc, .slice s.ea s.es.length s.ec], 35⟩]) (fun gq => (Fact.sl s.ga (gps s.gs) :: Fact.sl s.ea (qas s.es) :: Fact.sl a (ints ws) :: s.es.map qaF)) (0, none, 0, []) (sub_cons rfl (sub_cons rfl (sub_cons rfl (sub_cons rfl (sub_nil _))))) (sub_cons rfl (sub_cons rfl (sub_nil _))) (by (try dsimp only); exact ⟨⟨Nat.zero_le _, rfl⟩, by simp⟩) (by exact fun w h => h.nil _) ?_
 rintro ⟨i, o, cp, sp⟩ hinv1; (try dsimp only at hinv1 ⊢)
 obtain ⟨⟨hi, hcp⟩, hok⟩ := hinv1
 refine WC.sr (Kq rfl (rd_lss rfl rfl rfl) (WL.nt (WC.seq ?_)))
 refine WC.cond rfl (fun hc19 => ?_) (fun hc19 => ?_)
 ·(try simp only [sB] at hc19)
  have hil : i < s.es.length := by omega
  have him := getD_mem s.es i hil
  have hlt1 := hlt _ him
  have hfq := hfo.2.2 _ (List.mem_map_of_mem him)
  have hgl : (s.es.getD i default).1.1.toNat < s.gs.length := by have := hfq.1.1.1; have := hfq.1.1.2; simp only [SA.core] at this; omega
  have hg8 := hlm _ (getD_mem _ _ hgl)
  have hq0 := hfq.1.1.1
  refine WC.skip (WX.then_normal (WC.seq (WC.block (WC.sr ?_))))
  (refine Kq rfl (iaf rfl rfl rfl Tryz.underlying33 (by kernel_rfl : _ = some 3) ?_ ?_ (by (try simp only [sN, Int.reduceToNat, Nat.reduceAdd, Nat.reduceMul, Nat.reduceSub]); rfl)) ?_; (focus (omega)); (focus ((rw [flatMap_len _ _ 3 (fun _ => rfl)]; omega))))
  (refine Kq rfl (ldma _ rfl rfl Tryz.underlying102 rfl (by kernel_rfl : _ = some 3) (fun _ => rfl) (by decide) rfl ?_) ?_; (focus (assumption)))
  refine Kh rfl (og_alloc rfl (v := (.agg #[.int .i64 0, .string (S []), .slice none 0 0])) (cs := [.int .i64 0, .string (S []), .slice none 0 0]) (by kernel_rfl) rfl) ?_
  intro b9
  refine WL.g0 rfl rfl (sta rfl rfl rfl .tc ?_ ?_ ?_) ?_
  ·kernel_rfl
  ·simp [Value.oneCell']
  ·rfl
  intro _
  refine WL.nt (WC.sr (Km rfl ?_))
  refine Kq rfl (lda rfl rfl .tc Tryz.underlying102 rfl ?_) ?_
  ·kernel_rfl
  refine Kh rfl (og_callv rfl rfl rfl (by kernel_rfl) rfl (keep_fr fun w hS => collect_c (q := s.es.getD i default) (ws := ws) (p := b3) (a := a) (c := c) hS.os hS.sl (hS.more (more := s.es.map qaF) _ (List.mem_map_of_mem him)) (by omega) (by exact hlt1) (by exact fun t ht => by have h1 := (hfq.2 t ht).1; refine ⟨h1.1, ?_⟩; rw [hw]; exact h1.2))) ?_
  rintro ⟨gb25, ge25⟩
  refine WL.pu ?_
  intro hg25; (try dsimp only at hg25 ⊢)
  refine WL.fa2 ?_
  refine Km rfl (Kq rfl (rd_extL rfl rfl rfl) (Kq rfl (rd_extL rfl rfl rfl) (Kq rfl (rd_extL rfl rfl rfl) (Ka rfl (Ka rfl (Ka rfl (WL.nt (WC.seq (WC.sr (Km rfl (Kq rfl (rd_neq rfl rfl rfl) ?_)))))))))))
  refine WL.nt ?_
  refine WC.cond rfl (fun hc30 => ?_) (fun hc30 => ?_)
  ·(try simp only [sB] at hc30)
   have hr : imQ s.gs ws (s.es.getD i default).1 = ([], (exQ ws (s.es.getD i default).1).2) := imQ_err hc30
   refine WC.sr (Km rfl (Ka rfl (Ka rfl (WL.nt (WC.ret (WX.then_ret (WX.block_ret (WX.then_ret (WX.then_ret (WX.block_ret (WX.then_ret ?_)))))))))))
   exact WX.retN rfl (.tmp rfl (.tmp rfl .nil)) fun w' hS => ⟨⟨none, 0, []⟩, by rw [imS_at hil hok (by rw [hr]; exact hc30), hr]; rfl, trivial, hS.below, by rw [imS_at hil hok (by rw [hr]; exact hc30)]; exact facts_cons sl_nilk facts_nil⟩
  ·(try simp only [sB] at hc30)
   have hr : imQ s.gs ws (s.es.getD i default).1 = prodS (s.gs.getD (s.es.getD i default).1.1.toNat default) (bsQ ws (s.es.getD i default).1) (exQ ws (s.es.getD i default).1).1 := imQ_ok hc30
   refine WC.skip (WX.then_normal (WC.sr ?_))
   refine Kq rfl (rd_fa (q := 0) rfl rfl Tryz.underlying35 rfl (by kernel_rfl) rfl) ?_
   refine Kq rfl (ld rfl rfl .tc Tryz.underlying31 rfl (by rfl)) ?_
   refine Kq rfl (rd_fa (q := 0) rfl rfl Tryz.underlying102 rfl (by kernel_rfl) rfl) ?_
   refine Kq rfl (ld rfl rfl .tc Tryz.underlying3 rfl (by rfl)) ?_
   (refine Kq rfl (iaf rfl rfl rfl Tryz.underlying31 (by kernel_rfl : _ = some 2) ?_ ?_ (by (try simp only [sN, Int.reduceToNat, Nat.reduceAdd, Nat.reduceMul, Nat.reduceSub]); rfl)) ?_; (focus (omega)); (focus ((rw [flatMap_len _ _ 2 (fun _ => rfl)]; omega))))
   (refine Kq rfl (ldma _ rfl rfl Tryz.underlying24 rfl (by kernel_rfl : _ = some 2) (fun _ => rfl) (by decide) rfl ?_) ?_; (focus (assumption)))
   refine Km rfl (Km rfl ?_)
   refine Kh rfl (og_call rfl rfl (by kernel_rfl) (keep_val fun w hS => pproduct_c (g := s.gs.getD (s.es.getD i default).1.1.toNat default) (l := bsQ ws (s.es.getD i default).1) (es := (exQ ws (s.es.getD i default).1).1) (by (exact hS.sl)) (by (exact hS.sl)) (by exact Nat.le_trans bsQ_len hlt1) (by exact Nat.le_trans exQ_len hlt1) (by exact hg8))) ?_
   intro _
   refine Km rfl (Kq rfl (rd_extL rfl rfl rfl) (Kq rfl (rd_extL rfl rfl rfl) (Ka rfl (Ka rfl (WL.nt (WC.seq (WC.sr (Km rfl (Kq rfl (rd_neq rfl rfl rfl) (WL.nt ?_))))))))))
   refine WC.cond rfl (fun hc45 => ?_) (fun hc45 => ?_)
   ·(try simp only [sB] at hc45)
    refine WC.sr (Km rfl (Ka rfl (Ka rfl (WL.nt (WC.ret (WX.then_ret (WX.block_ret (WX.then_ret (WX.then_ret (WX.block_ret (WX.then_ret ?_)))))))))))
    exact WX.retN rfl (.tmp rfl (.tmp rfl .nil)) fun w' hS => ⟨⟨none, 0, []⟩, by rw [imS_at hil hok (by rw [hr]; exact hc45), hr]; rfl, trivial, hS.below, by rw [imS_at hil hok (by rw [hr]; exact hc45)]; exact facts_cons sl_nilk facts_nil⟩
   ·(try simp only [sB] at hc45)
    have hx0 : (imQ s.gs ws (s.es.getD i default).1).2 = 0 := by rw [hr]; simpa using hc45
    have hls : (strs ((s.es.take i).map fun q => (imQ s.gs ws q.1).1)).length = i := by simp [strs]; omega
    refine WC.skip (WX.then_normal (WC.region (Km rfl (Km rfl ?_))))
    refine Kh rfl (og_bs1 rfl rfl Tryz.underlying60 (by kernel_rfl : _ = some (some (.string (S [])), 1, 16)) rfl (by simp only [List.map]; rfl) rfl rfl ?_ (by decide)) ?_
    ·simp [Value.cells]
    intro b49
    (refine Kh rfl (appg rfl Tryz.underlying60 (by kernel_rfl : _ = some (some (.string (S [])), 1, 16)) rfl .tc rfl rfl (fun w hS => by (exact hS.os)) (by rfl) ?_ ?_) ?_; (focus (refine ⟨?_, ?_, ?_, ?_⟩ <;> first | exact hls | (try simp) <;> omega)); (focus ((simp [Value.oneCell']; done))))
    rintro ⟨o50, c50, s50⟩
    refine WL.pu ?_
    intro hg50; (try dsimp only at hg50 ⊢)
    refine Ka rfl (WL.nil (WX.block_normal (WX.then_normal (WC.region ?_))))
    (refine Kq rfl (rd_add64nl rfl rfl rfl ?_) ?_; (focus (omega)))
    refine Km rfl (WL.nil ?_)
    refine WX.loopO ((i + 1, o50, c50, s50)) (by (try dsimp only); omega) (sub_cons rfl (sub_cons rfl (sub_cons rfl (sub_cons rfl (sub_nil _))))) (by refine (sub_cons ?_ (sub_cons ?_ (sub_nil _))) <;> (rfl)) ?_ (by exact fun w h => by rw [qs_strs _ hil, hr]; exact st_sub _ h)
    (try dsimp only)
    exact ⟨⟨hil, by omega⟩, all_take hil hok hx0⟩
 ·(try simp only [sB] at hc19)
  refine WC.exit (WX.then_exit (WX.then_exit (WX.block_exit ?_)))
  obtain rfl : i = s.es.length := by omega
  rw [List.take_length] at hok
  rw [List.take_length]
  refine WX.then_normal (WC.sr (Km rfl (Ka rfl (Ka rfl (WL.nt (WC.ret ?_))))))
  exact WX.retN rfl (.tmp rfl (.tmp rfl .nil)) fun w' hS => ⟨⟨o, cp, sp⟩, by rw [imS_ok hok, List.length_map]; rfl, trivial, hS.below, by rw [imS_ok hok]; exact facts_cons hS.ocf facts_nil⟩
end Go.Proofs.YtnimhldbblfgbaaGreat
namespace Go.Proofs.YtnimhldbblfgbaaGreat
set_option linter.unusedSimpArgs false
set_option linter.unusedVariables false
set_option maxRecDepth 20000
set_option maxHeartbeats 600000
open Go.RowKit
theorem rdy_ok {s : Sm} {ws : List Zs} (h : rdyS s ws = 0) : formS s ∧ (∀ x ∈ ws, okZ x) ∧ chkS s = 0 ∧ ws.length = s.2.1.length := by
 unfold rdyS at h
 split at h
 ·simp at h
 ·rename_i h1; split at h
  ·simp at h
  ·rename_i h2; split at h
   ·rename_i h3; exact absurd h h3
   ·rename_i h3; split at h
    ·simp at h
    ·rename_i h4; exact ⟨Decidable.not_not.1 h1, Decidable.not_not.1 h2, Decidable.not_not.1 h3, Decidable.not_not.1 h4⟩
theorem imS_len {s : Sm} {ws : List Zs} (h : (imS s ws).2 = 0) : (imS s ws).1.length = s.2.2.length := by
 unfold imS at h ⊢; split at h
 ·rename_i h1; exact absurd h h1
 ·rename_i h1; rw [if_neg h1]; simp
theorem ext_all {α : Type} [Inhabited α] {x y : List α} (hl : x.length = y.length) (h : ∀ i, i < x.length → x.getD i default = y.getD i default) : x = y := by
 refine List.ext_getElem hl fun i h1 h2 => ?_
 have := h i h1
 rw [List.getD_eq_getElem?_getD, List.getD_eq_getElem?_getD, List.getElem?_eq_getElem h1, List.getElem?_eq_getElem h2] at this; exact this
theorem tgt_getD (l : List QA) (i : Nat) (h : i < l.length) : ((l.map (·.1)).map (·.2.1)).getD i default = (l.getD i default).1.2.1 := by
 rw [List.getD_eq_getElem?_getD, List.getD_eq_getElem?_getD, List.getElem?_map, List.getElem?_map, List.getElem?_eq_getElem h]; rfl
theorem holds_c {s : SA} {ws : List Zs} {a : Option Addr} {c : Nat} {w : World} {ok : Nat → Prop} (hF1 : (Fact.sl s.ga (gps s.gs)).holds ok w) (hF2 : (Fact.sl s.va (vrs s.vs)).holds ok w) (hF3 : (Fact.sl s.ea (qas s.es)).holds ok w) (hF4 : (Fact.sl a (ints ws)).holds ok w) (hM : ∀ f ∈ (s.es.map qaF), f.holds ok w) (hs : saL s) (hw : ws.length ≤ 100000) :
  Calls Tryz.prog 25 #[saV s, .slice a ws.length c] w fun e w' => e = .returned (.tuple #[.bool (hldS s.core ws).1, .int .i64 (hldS s.core ws).2]) ∧ Below w.heap.size w w' := by
 have hs' := hs
 obtain ⟨hlg, hlv, hle, hlt, hlm⟩ := hs
 refine enter (S := St (fun _ => True) w [] (Fact.sl s.ga (gps s.gs) :: Fact.sl s.va (vrs s.vs) :: Fact.sl s.ea (qas s.es) :: Fact.sl a (ints ws) :: (s.es.map qaF))) (L := [(0, saV s), (1, .slice a ws.length c)]) Tryz.func25 rfl Tryz.ntmps25 rfl (args_cons rfl (args_cons rfl (args_nil _))) (St.start (fun _ _ => trivial) (facts_cons (fact_any hF1) (facts_cons (fact_any hF2) (facts_cons (fact_any hF3) (facts_cons (fact_any hF4) (facts_more hM)))))) ?_
 refine WC.sr ?_
 refine Kh rfl (og_box rfl rfl (by (exact cells_agg _))) ?_
 intro b2
 refine Ka rfl (Ka rfl (WL.nt (WC.seq (WC.sr ?_))))
 refine Kq rfl (lda rfl rfl .tc Tryz.underlying35 rfl ?_) ?_
 ·kernel_rfl
 refine Km rfl ?_
 refine Kh rfl (og_call rfl rfl (by kernel_rfl) (keep_val fun w hS => ready_c (s := s) (ws := ws) (by (exact hS.sl)) (by (exact hS.sl)) (by (exact hS.sl)) (by (exact hS.sl)) (by (exact hS.more)) (by exact hs') (by exact hw))) ?_
 intro _
 refine Ka rfl (WL.nt (WC.sr (Km rfl (Kq rfl (rd_neq rfl rfl rfl) (WL.nt ?_)))))
 refine WC.cond rfl (fun hc15 => ?_) (fun hc15 => ?_)
 ·(try simp only [sB] at hc15)
  have hr : hldS s.core ws = (false, rdyS s.core ws) := by rw [hldS, if_pos hc15]
  refine WC.sr (Km rfl (Ka rfl (Ka rfl (WL.nt (WC.ret (WX.then_ret ?_))))))
  exact WX.retN rfl (.tmp rfl (.tmp rfl .nil)) fun w' hS => ⟨by rw [hr]; rfl, hS.below⟩
 ·(try simp only [sB] at hc15)
  have h0 : rdyS s.core ws = 0 := by simpa using hc15
  obtain ⟨hfo, hz, hk, hwl⟩ := rdy_ok h0
  refine WC.skip (WX.then_normal (WC.seq (WC.sr ?_)))
  refine Kq rfl (lda rfl rfl .tc Tryz.underlying35 rfl ?_) ?_
  ·kernel_rfl
  refine Km rfl ?_
  refine Kh rfl (og_call rfl rfl (by kernel_rfl) (keep_val fun w hS => inrange_c (s := s) (ws := ws) (by (exact hS.sl)) (by (exact hS.sl)) (by (exact hS.sl)) (by exact hs') (by exact hwl) (by exact hfo) (by exact hz))) ?_
  intro _
  refine Kq rfl (rd_not rfl rfl) (WL.nt ?_)
  refine WC.cond rfl (fun hc20 => ?_) (fun hc20 => ?_)
  ·(try simp only [sB] at hc20)
   have hr : hldS s.core ws = (false, 0) := by rw [hldS, if_neg (fun h => h h0), if_pos (by simpa using hc20)]
   refine WC.sr (Ka rfl (Ka rfl (WL.nt (WC.ret (WX.then_ret ?_)))))
   exact WX.retN rfl (.tmp rfl (.tmp rfl .nil)) fun w' hS => ⟨by rw [hr]; rfl, hS.below⟩
  ·(try simp only [sB] at hc20)
   have hin : inR s.core ws := by simpa using hc20
   refine WC.skip (WX.then_normal (WC.sr ?_))
   refine Kq rfl (lda rfl rfl .tc Tryz.underlying35 rfl ?_) ?_
   ·kernel_rfl
   refine Km rfl ?_
   refine Kh rfl (og_call rfl rfl (by kernel_rfl) (keep_fr fun w hS => images_c (s := s) (ws := ws) (by (exact hS.sl)) (by (exact hS.sl)) (by (exact hS.sl)) (by (exact hS.more)) (by exact hs') (by exact hwl) (by exact hfo))) ?_
   rintro g24
   refine WL.pu ?_
   intro hg24; (try dsimp only [List.cons_append, List.nil_append] at hg24 ⊢)
   refine Km rfl (Kq rfl (rd_extL rfl rfl rfl) (Kq rfl (rd_extL rfl rfl rfl) (Ka rfl (Ka rfl (WL.nt (WC.seq (WC.sr (Km rfl (Kq rfl (rd_neq rfl rfl rfl) (WL.nt ?_))))))))))
   refine WC.cond rfl (fun hc28 => ?_) (fun hc28 => ?_)
   ·(try simp only [sB] at hc28)
    have hr : hldS s.core ws = (false, (imS s.core ws).2) := by rw [hldS, if_neg (fun h => h h0), if_neg (fun h => h hin), if_pos hc28]
    refine WC.sr (Km rfl (Ka rfl (Ka rfl (WL.nt (WC.ret (WX.then_ret ?_))))))
    exact WX.retN rfl (.tmp rfl (.tmp rfl .nil)) fun w' hS => ⟨by rw [hr]; rfl, hS.below⟩
   ·(try simp only [sB] at hc28)
    have hi0 : (imS s.core ws).2 = 0 := by simpa using hc28
    have hlI : (imS s.core ws).1.length = s.es.length := by rw [imS_len hi0]; simp
    have hr : hldS s.core ws = (decide ((imS s.core ws).1 = s.core.2.2.map (·.2.1)), 0) := by rw [hldS, if_neg (fun h => h h0), if_neg (fun h => h hin), if_neg (fun h => h hi0)]
    refine WC.skip (WX.then_normal (WC.seq (WC.sr ?_)))
    refine Kq rfl (rd_fa (q := 2) rfl rfl Tryz.underlying35 rfl (by kernel_rfl) rfl) ?_
    refine Kq rfl (ld rfl rfl .tc Tryz.underlying33 rfl (by rfl)) ?_
    refine Kq rfl (rd_len rfl rfl Tryz.underlying33) (Km rfl (WL.nt (WC.block ?_)))
    refine WC.loopP (σ := Nat) [(7, _), (31, _), (32, _)] (fun gq => [(33, .int .i64 (gq : Int))]) (fun gq => gq ≤ s.es.length ∧ ∀ j, j < gq → (imS s.core ws).1.getD j default = (s.es.getD j default).1.2.1) (fun gq => s.es.length - gq) (0) (sub_cons rfl (sub_cons rfl (sub_cons rfl (sub_nil _)))) (sub_cons rfl (sub_nil _)) (by (try dsimp only); exact ⟨Nat.zero_le _, fun _ h => absurd h (Nat.not_lt_zero _)⟩) ?_
    rintro i hinv1; (try dsimp only at hinv1 ⊢)
    obtain ⟨hi, hok⟩ := hinv1
    refine WC.sr (Kq rfl (rd_lss rfl rfl rfl) (WL.nt (WC.seq ?_)))
    refine WC.cond rfl (fun hc34 => ?_) (fun hc34 => ?_)
    ·(try simp only [sB] at hc34)
     have hil : i < s.es.length := by omega
     have hil2 : i < (imS s.core ws).1.length := by omega
     refine WC.skip (WX.then_normal (WC.seq (WC.block (WC.sr (Km rfl ?_)))))
     (refine Kq rfl (iaf rfl rfl rfl Tryz.underlying33 (by kernel_rfl : _ = some 3) ?_ ?_ (by (try simp only [sN, Int.reduceToNat, Nat.reduceAdd, Nat.reduceMul, Nat.reduceSub]); rfl)) ?_; (focus (omega)); (focus ((rw [flatMap_len _ _ 3 (fun _ => rfl)]; omega))))
     (refine Kq rfl (ldma _ rfl rfl Tryz.underlying102 rfl (by kernel_rfl : _ = some 3) (fun _ => rfl) (by decide) rfl ?_) ?_; (focus (assumption)))
     refine Kh rfl (og_alloc rfl (v := (.agg #[.int .i64 0, .string (S []), .slice none 0 0])) (cs := [.int .i64 0, .string (S []), .slice none 0 0]) (by kernel_rfl) rfl) ?_
     intro b10
     refine Ka rfl ?_
     refine WL.g0 rfl rfl (sta rfl rfl rfl .tc ?_ ?_ ?_) ?_
     ·kernel_rfl
     ·simp [Value.oneCell']
     ·rfl
     intro _
     refine WL.nt (WC.seq ?_)
     refine WC.free0 [0, 1, 2, 3, 4, 5, 6] [] [0, 0, 0, 0, 0, 0, 0] (by kernel_rfl) (by kernel_rfl) rfl ?_
     refine Kj rfl (rd_move rfl rfl) ?_
     refine Kj rfl (rd_move rfl rfl) ?_
     (refine Kj rfl (iaf rfl rfl rfl Tryz.underlying60 (by kernel_rfl : _ = some 1) ?_ ?_ (by (try simp only [sN, Int.reduceToNat, Nat.reduceAdd, Nat.reduceMul, Nat.reduceSub]); rfl)) ?_; (focus (omega)); (focus ((rw [List.length_map]; omega))))
     (refine Kj rfl (ldm rfl rfl Tryz.underlying22 rfl ?_) ?_; (focus (assumption)))
     refine Kj rfl (rd_fa (q := 1) rfl rfl Tryz.underlying102 rfl (by kernel_rfl) rfl) ?_
     refine Kj rfl (ld rfl rfl .tc Tryz.underlying22 rfl (by rfl)) ?_
     refine Kj rfl (rd_sne rfl rfl rfl) ?_
     refine WJ.nil ?_
     refine WL.nt ?_
     refine WC.cond rfl (fun hc44 => ?_) (fun hc44 => ?_)
     ·(try simp only [sB] at hc44)
      have hne : ¬ (imS s.core ws).1 = s.core.2.2.map (·.2.1) := fun h => by
       have h1 := tgt_getD s.es i hil
       exact absurd ((congrArg (fun l : List Bs => l.getD i default) h).trans h1) (by simpa using hc44)
      refine WC.sr (Ka rfl (Ka rfl (WL.nt (WC.ret (WX.block_ret (WX.then_ret (WX.then_ret (WX.block_ret (WX.then_ret ?_)))))))))
      exact WX.retN rfl (.tmp rfl (.tmp rfl .nil)) fun w' hS => ⟨by rw [hr, decide_eq_false hne]; rfl, hS.below⟩
     ·(try simp only [sB] at hc44)
      refine WC.skip (WX.block_normal (WX.then_normal (WC.region ?_)))
      (refine Kq rfl (rd_add64nl rfl rfl rfl ?_) ?_; (focus (omega)))
      refine Km rfl (WL.nil ?_)
      refine WX.loopP (i + 1) (by (try dsimp only); omega) (sub_cons rfl (sub_cons rfl (sub_cons rfl (sub_nil _)))) (by refine (sub_cons ?_ (sub_nil _)) <;> (rfl)) ?_ (by (exact st_sub))
      (try dsimp only)
      exact ⟨hil, fun j hj => by rcases Nat.lt_succ_iff_lt_or_eq.1 hj with h | h; exact hok j h; subst h; simpa using hc44⟩
    ·(try simp only [sB] at hc34)
     refine WC.exit (WX.then_exit (WX.then_exit (WX.block_exit ?_)))
     obtain rfl : i = s.es.length := by omega
     have heq : (imS s.core ws).1 = s.core.2.2.map (·.2.1) := ext_all (by rw [hlI]; simp) fun j hj => by
      have h1 := tgt_getD s.es j (by omega)
      rw [hok j (by omega)]; exact h1.symm
     refine WX.then_normal (WC.sr (Ka rfl (Ka rfl (WL.nt (WC.ret ?_)))))
     exact WX.retN rfl (.tmp rfl (.tmp rfl .nil)) fun w' hS => ⟨by rw [hr, decide_eq_true heq]; rfl, hS.below⟩
end Go.Proofs.YtnimhldbblfgbaaGreat
namespace Go.Proofs.YtnimhldbblfgbaaGreat
set_option linter.unusedVariables false
set_option linter.unusedSimpArgs false
open Go.RowKit
theorem und_string : Tryz.prog.underlying 22 = some .string := by kernel_rfl
theorem part_nat (cs : Array Value) (k : Nat) (v : Value) (w : World) (h : cs[k]? = some v) : (part 22 cs k).run Tryz.prog w = .ok v w := run_part_plain w (by kernel_rfl) h
theorem pn1 (u : Value) (w : World) : (part 22 #[u] 0).run Tryz.prog w = .ok u w := part_nat _ _ _ w rfl
theorem pn20 (u v : Value) (w : World) : (part 22 #[u, v] 0).run Tryz.prog w = .ok u w := part_nat _ _ _ w rfl
theorem pn21 (u v : Value) (w : World) : (part 22 #[u, v] 1).run Tryz.prog w = .ok v w := part_nat _ _ _ w rfl
theorem pn40 (u v x y : Value) (w : World) : (part 22 #[u, v, x, y] 0).run Tryz.prog w = .ok u w := part_nat _ _ _ w rfl
theorem eq_nat (d : Nat) (a b : Bs) (w : World) : (Op.equalIn (d + 1) 22 (.string (S a)) (.string (S b))).run Tryz.prog w = .ok (decide (a = b)) w := by
 rw [run_equalIn_string w d _ _ _ und_string, str_eq]
theorem eql_api_Group (a b c d : Bs) (w : World) : (binOp .eql 24 (.agg #[.string (S a), .string (S b)]) (.agg #[.string (S c), .string (S d)])).run Tryz.prog w = .ok (.bool (decide (a = c ∧ b = d))) w := by
 rw [run_eql_struct, run_equalIn_agg w _ _ _ _ (by kernel_rfl) (by kernel_rfl)]
 have hf : (Tryz.prog.fieldsOf 24).toList = [⟨"Modulus", 22, 0, false, "", "", 0⟩, ⟨"Order", 22, 1, false, "", "", 16⟩] := by kernel_rfl
 rw [hf]
 simp only [Op.eqFields, Sem.run_bind, pn20, pn21, eq_nat, Result.andThen_ok, Sem.run_ite, Sem.run_pure]
 by_cases h1 : a = c <;> by_cases h2 : b = d <;> simp [h1, h2]
theorem eql_api_Variable (a b : Bs) (w : World) : (binOp .eql 91 (.agg #[.string (S a)]) (.agg #[.string (S b)])).run Tryz.prog w = .ok (.bool (decide (a = b))) w := by
 rw [run_eql_struct, run_equalIn_agg w _ _ _ _ (by kernel_rfl) (by kernel_rfl)]
 have hf : (Tryz.prog.fieldsOf 91).toList = [⟨"Bound", 22, 0, false, "", "", 0⟩] := by kernel_rfl
 rw [hf]
 simp only [Op.eqFields, Sem.run_bind, pn1, eq_nat, Result.andThen_ok, Sem.run_ite, Sem.run_pure]
 by_cases h1 : a = b <;> simp [h1]
theorem eq_int (d : Nat) (p q : Bool) (a b : Bs) (w : World) : (Op.equalIn (d + 2) 45 (.agg #[.bool p, .string (S a)]) (.agg #[.bool q, .string (S b)])).run Tryz.prog w = .ok (decide (p = q ∧ a = b)) w := by
 rw [run_equalIn_agg w _ _ _ _ (by kernel_rfl) (by kernel_rfl)]
 have h1 : Tryz.prog.underlying 4 = some .bool := by kernel_rfl
 have hf : (Tryz.prog.fieldsOf 45).toList = [⟨"Neg", 4, 0, false, "", "", 0⟩, ⟨"Abs", 22, 1, false, "", "", 8⟩] := by kernel_rfl
 have e1 : ∀ (u v : Value) (w : World), (part 4 #[u, v] 0).run Tryz.prog w = .ok u w := fun u v w => run_part_plain w (by kernel_rfl) rfl
 have hb : ∀ (w : World), (Op.equalIn (d + 1) 4 (.bool p) (.bool q)).run Tryz.prog w = .ok (p == q) w := fun w => run_equalIn_bool' w d _ p q h1
 rw [hf]
 simp only [Op.eqFields, Sem.run_bind, e1, pn21, hb, eq_nat, Result.andThen_ok, Sem.run_ite, Sem.run_pure]
 cases p <;> cases q <;> by_cases h : a = b <;> simp [h]
theorem eql_api_Term (a : Bs) (m : Int) (p : Bool) (c : Bs) (a' : Bs) (m' : Int) (p' : Bool) (c' : Bs) (w : World) : (binOp .eql 110 (.agg #[.string (S a), .int .i64 m, .bool p, .string (S c)]) (.agg #[.string (S a'), .int .i64 m', .bool p', .string (S c')])).run Tryz.prog w = .ok (.bool (decide (a = a' ∧ m = m' ∧ p = p' ∧ c = c'))) w := by
 rw [run_eql_struct, run_equalIn_agg w _ _ _ _ (by kernel_rfl) (by kernel_rfl)]
 have hf : (Tryz.prog.fieldsOf 110).toList = [⟨"Base", 22, 0, false, "", "", 0⟩, ⟨"Var", 3, 1, false, "", "", 16⟩, ⟨"Coef", 45, 2, false, "", "", 24⟩] := by kernel_rfl
 have hi : Tryz.prog.underlying 3 = some (.int .i64) := by kernel_rfl
 have e1 : ∀ (u v x y : Value) (w : World), (part 3 #[u, v, x, y] 1).run Tryz.prog w = .ok v w := fun u v x y w => run_part_plain w (by kernel_rfl) rfl
 have hz : ∃ d, Tryz.prog.underlying 45 = some d ∧ isAggD d = true := ⟨_, Tryz.underlying45, rfl⟩
 have hs : (Tryz.prog.info? 45).map (·.size) = some 2 := by kernel_rfl
 have e2 : ∀ (u v x y : Value) (w : World), (part 45 #[u, v, x, y] 2).run Tryz.prog w = .ok (.agg #[x, y]) w := fun u v x y w => by
  obtain ⟨i, hi1, hi2⟩ := Option.map_eq_some_iff.1 hs
  simp [part, isAgg, run_underlying Tryz.underlying45, run_sizeOf w hi1, hi2]
 have hm : ∀ (w : World), (Op.equalIn 9999 3 (.int .i64 m) (.int .i64 m')).run Tryz.prog w = .ok (m == m') w := fun w => run_equalIn_int w 9998 _ .i64 .i64 m m' hi
 rw [hf]
 simp only [Op.eqFields, Sem.run_bind, e1, e2, hm, pn40, eq_int, eq_nat, Result.andThen_ok, Sem.run_ite, Sem.run_pure]
 by_cases h1 : a = a' <;> by_cases h2 : m = m' <;> by_cases h3 : p = p' ∧ c = c' <;> simp [h1, h2, h3]
end Go.Proofs.YtnimhldbblfgbaaGreat
