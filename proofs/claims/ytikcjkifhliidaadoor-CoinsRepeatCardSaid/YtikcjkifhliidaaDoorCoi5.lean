/-
  Draws.
-/
import Derived.Test.YtikcjkifhliidaaDoorCoi4
namespace Go.Proofs.YtikcjkifhliidaaDoor
set_option linter.unusedSimpArgs false
set_option linter.unusedVariables false
set_option maxRecDepth 20000
set_option maxHeartbeats 600000
open Go.RowKit

theorem bitLen_eq (f x : Nat) : Lib.bitLenAux (f + 1) x = if x = 0 then 0 else 1 + Lib.bitLenAux f (x / 2) := rfl
theorem bitAux_fuel : ∀ (f g x : Nat), x < 2 ^ f → x < 2 ^ g → Lib.bitLenAux f x = Lib.bitLenAux g x
  | 0, 0, x, _, _ => rfl
  | 0, g + 1, x, h, _ => by have : x = 0 := by simpa using h
                            subst this; rfl
  | f + 1, 0, x, _, h => by have : x = 0 := by simpa using h
                            subst this; rfl
  | f + 1, g + 1, x, h1, h2 => by
    rw [bitLen_eq, bitLen_eq]
    split
    · rfl
    · rw [bitAux_fuel f g (x / 2) (by rw [Nat.pow_succ] at h1; omega) (by rw [Nat.pow_succ] at h2; omega)]
theorem bitLen_step {x : Nat} (h : 0 < x) (hx : x < 2 ^ 63) : Lib.bitLen x = 1 + Lib.bitLen (x / 2) := by
  unfold Lib.bitLen
  rw [bitLen_eq 63 x, if_neg (by omega), bitAux_fuel 63 64 (x / 2) (by omega) (by omega)]
theorem rbits0_c {a : Bs} {w : World} (ha : a.length ≤ 1000000) :
    Calls Tryd.prog 79 #[.string (S a)] w fun e w' => e = .returned (.int .i64 (bitsN a : Int)) ∧ Below w.heap.size w w' := by
  refine enter (S := St (fun _ => True) w [] ([])) (L := [(0, .string (S a))]) Tryd.func79 rfl Tryd.ntmps79 rfl (args_cons rfl (args_nil _)) (St.start (fun _ _ => trivial) facts_nil) ?_
  refine WC.sr ?_
  refine WL.r rfl rfl rfl (rd_assign rfl rfl) ?_
  refine WL.nt ?_
  refine WC.seq ?_
  refine WC.sr ?_
  refine WL.r rfl rfl rfl (rd_move rfl rfl) ?_
  refine WL.r rfl rfl rfl (rd_seq rfl rfl rfl) ?_
  refine WL.nt ?_
  refine WC.cond rfl (fun hc6 => ?_) (fun hc6 => ?_)
  · (try simp only [sB] at hc6)
    have h0 : a = [] := by simpa using hc6
    refine WC.sr ?_
    refine WL.r rfl rfl rfl (rd_assign rfl rfl) ?_
    refine WL.nt ?_
    refine WC.ret ?_
    refine WX.then_ret ?_
    exact WX.retN rfl (.tmp rfl .nil) fun w' hS => ⟨by rw [h0]; rfl, hS.below⟩
  · (try simp only [sB] at hc6)
    have hne : a ≠ [] := by simpa using hc6
    have hl0 : 0 < a.length := List.length_pos_iff.2 hne
    have hc0 := (a.getD 0 default).toNat_lt
    have hbN : bitsN a ≤ 8000064 := by rw [bitsN, if_neg hne]; have := bitLen_le (a.getD 0 default).toNat; omega
    refine WC.skip ?_
    refine WX.then_normal ?_
    refine WC.sr ?_
    refine WL.r rfl rfl rfl (rd_move rfl rfl) ?_
    refine WL.r rfl rfl rfl (rd_slen rfl rfl Tryd.underlying33) ?_
    (refine WL.r rfl rfl rfl (rd_sub64nl rfl rfl rfl ?_) ?_; (focus (omega)))
    (refine WL.r rfl rfl rfl (rd_mul64ln rfl rfl rfl ?_) ?_; (focus (omega)))
    refine WL.r rfl rfl rfl (rd_assign rfl rfl) ?_
    refine WL.nt ?_
    refine WC.seq ?_
    refine WC.sr ?_
    refine WL.r rfl rfl rfl (rd_move rfl rfl) ?_
    refine WL.r rfl rfl rfl (rd_sidxD rfl rfl rfl Tryd.underlying33 ?_) ?_
    · omega
    refine WL.r rfl rfl rfl (rd_convN rfl rfl Tryd.underlying5 Tryd.underlying3 ?_) ?_
    · (exact wrap8_64 _)
    refine WL.r rfl rfl rfl (rd_assign rfl rfl) ?_
    refine WL.nt ?_
    refine WC.block ?_
    refine WC.loopP (σ := Nat × Nat) [(2, _)] (fun g => [(3, .int .i64 (g.2 : Int)), (4, .int .i64 (g.1 : Int))]) (fun g => g.2 + Lib.bitLen g.1 = bitsN a ∧ g.1 < 256) (fun g => g.1) ((a.getD 0 default).toNat, 8 * (a.length - 1)) (sub_cons rfl (sub_nil _)) (sub_cons rfl (sub_cons rfl (sub_nil _))) (by (try dsimp only); exact ⟨by rw [bitsN, if_neg hne], hc0⟩) ?_
    rintro ⟨x, k⟩ hinv1; (try dsimp only at hinv1 ⊢)
    obtain ⟨hb, hx⟩ := hinv1
    refine WC.seq ?_
    refine WC.sr ?_
    refine WL.r rfl rfl rfl (rd_move rfl rfl) ?_
    refine WL.r rfl rfl rfl (rd_gtr rfl rfl rfl) ?_
    refine WL.nt ?_
    refine WC.cond rfl (fun hc15 => ?_) (fun hc15 => ?_)
    · (try simp only [sB] at hc15)
      have hst := bitLen_step (x := x) (by omega) (by omega)
      refine WC.skip ?_
      refine WX.then_normal ?_
      refine WC.seq ?_
      refine WC.block ?_
      refine WC.region ?_
      refine WL.r rfl rfl rfl (rd_move rfl rfl) ?_
      (refine WL.r rfl rfl rfl (rd_add64nl rfl rfl rfl ?_) ?_; (focus (omega)))
      refine WL.r rfl rfl rfl (rd_assign rfl rfl) ?_
      refine WL.nil ?_
      refine WX.block_normal ?_
      refine WX.then_normal ?_
      refine WC.region ?_
      refine WL.r rfl rfl rfl (rd_move rfl rfl) ?_
      (refine WL.r rfl rfl rfl (rd_quo64nl rfl rfl rfl ?_) ?_; (focus (omega)))
      refine WL.r rfl rfl rfl (rd_assign rfl rfl) ?_
      refine WL.nil ?_
      refine WX.loopP ((x / 2, k + 1)) (by (try dsimp only); omega) (sub_cons rfl (sub_nil _)) (by refine (sub_cons ?_ (sub_cons ?_ (sub_nil _))) <;> (rfl)) ?_ (by (exact fun _ h => h))
      (try dsimp only)
      exact ⟨by omega, by omega⟩
    · (try simp only [sB] at hc15)
      refine WC.exit ?_
      refine WX.then_exit ?_
      refine WX.then_exit ?_
      refine WX.block_exit ?_
      obtain rfl : x = 0 := by omega
      have hb0 : Lib.bitLen 0 = 0 := rfl
      refine WX.then_normal ?_
      refine WC.sr ?_
      refine WL.r rfl rfl rfl (rd_move rfl rfl) ?_
      refine WL.r rfl rfl rfl (rd_assign rfl rfl) ?_
      refine WL.nt ?_
      refine WC.ret ?_
      exact WX.retN rfl (.tmp rfl .nil) fun w' hS => ⟨by rw [← hb]; rfl, hS.below⟩
theorem rbits_c {a : Bs} {w : World} :
    Calls Tryd.prog 55 #[.string (S a)] w fun e w' => e = .returned (.int .i64 ((if okN a then bitsN a else 0 : Nat) : Int)) ∧ Below w.heap.size w w' := by
  refine enter (S := St (fun _ => True) w [] ([])) (L := [(0, .string (S a))]) Tryd.func55 rfl Tryd.ntmps55 rfl (args_cons rfl (args_nil _)) (St.start (fun _ _ => trivial) facts_nil) ?_
  refine WC.sr ?_
  refine WL.r rfl rfl rfl (rd_assign rfl rfl) ?_
  refine WL.nt ?_
  refine WC.seq ?_
  refine WC.sr ?_
  refine WL.r rfl rfl rfl (rd_move rfl rfl) ?_
  refine WL.g rfl rfl rfl (og_call rfl rfl (by kernel_rfl) (keep_val fun w hS => rvalid_c)) ?_
  intro _
  refine WL.r rfl rfl rfl (rd_not rfl rfl) ?_
  refine WL.nt ?_
  refine WC.cond rfl (fun hc5 => ?_) (fun hc5 => ?_)
  · (try simp only [sB] at hc5)
    refine WC.sr ?_
    refine WL.r rfl rfl rfl (rd_assign rfl rfl) ?_
    refine WL.nt ?_
    refine WC.ret ?_
    refine WX.then_ret ?_
    exact WX.retN rfl (.tmp rfl .nil) fun w' hS => ⟨by rw [if_neg (by simpa using hc5)]; rfl, hS.below⟩
  · (try simp only [sB] at hc5)
    have hok : okN a := by simpa using hc5
    have hal := hok.1
    refine WC.skip ?_
    refine WX.then_normal ?_
    refine WC.sr ?_
    refine WL.r rfl rfl rfl (rd_move rfl rfl) ?_
    refine WL.g rfl rfl rfl (og_call rfl rfl (by kernel_rfl) (keep_val fun w hS => rbits0_c (by omega))) ?_
    intro _
    refine WL.r rfl rfl rfl (rd_assign rfl rfl) ?_
    refine WL.nt ?_
    refine WC.ret ?_
    exact WX.retN rfl (.tmp rfl .nil) fun w' hS => ⟨by rw [if_pos hok]; rfl, hS.below⟩
def zeroT : Tp := ⟨[], [], 0⟩
/-- the first attempt below a bound -/
def findA (t : Tp) (n : Bs) : Nat → Nat → Option Bs
  | 0, _ => none
  | f + 1, a => if cmpN (attS t.seed t.at_.toNat a (bitsN n)) n < 0 then some (attS t.seed t.at_.toNat a (bitsN n)) else findA t n f (a + 1)
def drawS (t : Tp) (n : Bs) : Bs × Tp × Int :=
  if t.at_ < t.vals.length then (if 0 ≤ cmpN (t.vals.getD t.at_.toNat default) n then ([], zeroT, 2) else (t.vals.getD t.at_.toNat default, ⟨t.vals, t.seed, t.at_ + 1⟩, 0))
  else if t.seed = [] ∨ t.at_ = 2147483647 then ([], zeroT, 14)
  else match findA t n 256 0 with
    | some x => (x, ⟨t.vals, t.seed, t.at_ + 1⟩, 0)
    | none => ([], zeroT, 14)
theorem bitsN_pos {n : Bs} (h : okN n) (h0 : n ≠ []) : 1 ≤ bitsN n := by
  have hc := (can_iff n).1 h.2
  have hl : 0 < n.length := List.length_pos_iff.2 h0
  rw [bitsN, if_neg h0, bitLen_step (by omega) (by have := (n.getD 0 default).toNat_lt; omega)]; omega
theorem bitsN_le {n : Bs} (h : n.length ≤ 128) : bitsN n ≤ 2000 := by
  rw [bitsN]; split
  · omega
  · have := bitLen_le (n.getD 0 default).toNat; omega
theorem draw0 {r : Bs × Tp × Int} {n : Int} {ok : Nat → Prop} {w0 w : World} {own : List Ent} {fs : List Fact} {T : TypeId} (hr : r = ([], zeroT, n)) (hS : St ok w0 own fs w) :
    ∃ g : Rs, Ending.returned (tup [.string (S []), .agg #[.slice none 0 0, .string (S []), .int .i64 0], .int .i64 n]) = Ending.returned (.tuple #[.string (S r.1), r.2.1.v (g.val r.2.1.vals.length), .int .i64 r.2.2]) ∧ g.cap = r.2.1.vals.length + g.sp.length ∧ St ok w0 [g.ent (strs r.2.1.vals) T] [] w := by
  subst hr
  exact ⟨⟨none, 0, []⟩, rfl, rfl, (hS.nil T).sub (List.singleton_sublist.2 (by simp [Rs.ent, zeroT])) (fun _ h => by cases h)⟩
theorem drawN {r : Bs × Tp × Int} {t : Tp} {x : Bs} {q : Rs} {ok : Nat → Prop} {w0 w : World} {own : List Ent} {fs : List Fact} {T : TypeId} (hr : r = (x, ⟨t.vals, t.seed, t.at_ + 1⟩, 0)) (hq : q.cap = t.vals.length + q.sp.length) (hS : St ok w0 own fs w) (hm : q.ent (strs t.vals) T ∈ own) :
    ∃ g : Rs, Ending.returned (tup [.string (S x), .agg #[q.val t.vals.length, .string (S t.seed), .int .i64 (t.at_ + 1)], .int .i64 0]) = Ending.returned (.tuple #[.string (S r.1), r.2.1.v (g.val r.2.1.vals.length), .int .i64 r.2.2]) ∧ g.cap = r.2.1.vals.length + g.sp.length ∧ St ok w0 [g.ent (strs r.2.1.vals) T] [] w := by
  subst hr
  exact ⟨q, rfl, hq, hS.sub (List.singleton_sublist.2 hm) (fun _ h => by cases h)⟩
theorem findA_hit {t : Tp} {n : Bs} {a : Nat} (h : a < 256) (hc : cmpN (attS t.seed t.at_.toNat a (bitsN n)) n < 0) : findA t n (256 - a) a = some (attS t.seed t.at_.toNat a (bitsN n)) := by
  rw [show 256 - a = (255 - a) + 1 by omega, findA, if_pos hc]
theorem findA_miss {t : Tp} {n : Bs} {a : Nat} (h : a < 256) (hc : ¬ cmpN (attS t.seed t.at_.toNat a (bitsN n)) n < 0) : findA t n (256 - a) a = findA t n (256 - (a + 1)) (a + 1) := by
  rw [show 256 - a = (256 - (a + 1)) + 1 by omega, findA, if_neg hc]
theorem rdraw_c {t : Tp} {n : Bs} {a : Option Addr} {cap : Nat} {w : World} {ok : Nat → Prop} (hF1 : (Fact.sl a (strs t.vals)).holds ok w) (hl : t.vals.length ≤ 100000) (hg : goodT t) (hn : okN n) (hn0 : n ≠ []) (hsd : t.seed.length ≤ 400000) :
    Calls Tryd.prog 37 #[t.v (.slice a t.vals.length cap), .string (S n)] w fun e w' => ∃ g : Rs, e = .returned (.tuple #[.string (S (drawS t n).1), (drawS t n).2.1.v (g.val (drawS t n).2.1.vals.length), .int .i64 (drawS t n).2.2]) ∧ g.cap = (drawS t n).2.1.vals.length + g.sp.length ∧ St (fun _ => True) w [g.ent (strs (drawS t n).2.1.vals) 33] [] w' := by
  have hg1 := hg.1; have hg2 := hg.2.1
  have hbp := bitsN_pos hn hn0
  have hbl := bitsN_le hn.1
  obtain ⟨p, hp⟩ : ∃ p : Nat, t.at_ = (p : Int) := ⟨t.at_.toNat, by omega⟩
  refine enter (S := St (fun _ => True) w [] ([Fact.sl a (strs t.vals)])) (L := [(0, t.v (.slice a t.vals.length cap)), (1, .string (S n))]) Tryd.func37 rfl Tryd.ntmps37 rfl (args_cons rfl (args_cons rfl (args_nil _))) (St.start (fun _ _ => trivial) (facts_cons (fact_any hF1) facts_nil)) ?_
  refine WC.sr ?_
  refine WL.g rfl rfl rfl (og_box rfl rfl (by (exact cells_agg _))) ?_
  intro b2
  refine WL.r rfl rfl rfl (rd_assign rfl rfl) ?_
  refine WL.g rfl rfl rfl (og_alloc rfl (v := (.agg #[.slice none 0 0, .string (S []), .int .i64 0])) (cs := [.slice none 0 0, .string (S []), .int .i64 0]) (by kernel_rfl) rfl) ?_
  intro b5
  refine WL.r rfl rfl rfl (rd_assign rfl rfl) ?_
  refine WL.nt ?_
  refine WC.sr ?_
  (refine WL.r rfl rfl rfl (rd_fa (q := 1) rfl rfl Tryd.underlying24 rfl (by kernel_rfl) rfl) ?_)
  (refine WL.r rfl rfl rfl (ld rfl rfl .tc Tryd.underlying9 rfl (by rfl)) ?_)
  (refine WL.r rfl rfl rfl (rd_fa (q := 2) rfl rfl Tryd.underlying24 rfl (by kernel_rfl) rfl) ?_)
  (refine WL.r rfl rfl rfl (ld rfl rfl .tc Tryd.underlying3 rfl (by rfl)) ?_)
  (refine WL.r rfl rfl rfl (rd_add64 rfl rfl rfl ?_) ?_; (focus (omega)))
  refine WL.r rfl rfl rfl (rd_bld [[.slice none 0 0], [.string (S [])], [.int .i64 0]] rfl rfl (by simp only [bld, fldv, Nat.beq, Value.cells, cond_true, cond_false, List.nil_append, List.cons_append, List.append_nil]; rfl) (fun w => by kernel_rfl)) ?_
  refine WL.g rfl rfl rfl (og_alloc rfl (v := (.agg #[.slice none 0 0, .string (S []), .int .i64 0])) (cs := [.slice none 0 0, .string (S []), .int .i64 0]) (by kernel_rfl) rfl) ?_
  intro b7
  refine WL.g0 rfl rfl (sta rfl rfl rfl .tc ?_ ?_ ?_) ?_
  · kernel_rfl
  · simp [Value.oneCell']
  · rfl
  intro _
  refine WL.nt ?_
  refine WC.sr ?_
  (refine WL.r rfl rfl rfl (rd_fa (q := 0) rfl rfl Tryd.underlying24 rfl (by kernel_rfl) rfl) ?_)
  (refine WL.r rfl rfl rfl (ld rfl rfl .tc Tryd.underlying22 rfl (by rfl)) ?_)
  (refine WL.r rfl rfl rfl (rd_fa (q := 0) rfl rfl Tryd.underlying24 rfl (by kernel_rfl) rfl) ?_)
  (refine WL.r rfl rfl rfl (ld rfl rfl .tc Tryd.underlying22 rfl (by rfl)) ?_)
  (refine WL.st (fun w h => h.nil 33) ?_; refine WL.g rfl rfl rfl (appg (ob := none) (xs := []) (sp := []) rfl Tryd.underlying22 (by kernel_rfl : _ = some (some (.string (S [])), 1, 16)) rfl .tc rfl rfl (fun w hS => by (exact hS.sl)) (by simp) ?_ ?_) ?_; (focus ((refine ⟨?_, ?_, ?_, ?_⟩ <;> (try simp) <;> omega))); (focus ((simp [Value.oneCell']; done))))
  rintro ⟨o20, c20, s20⟩
  refine WL.pu ?_
  intro hg20; (try dsimp only at hg20 ⊢)
  refine WL.set 20 rfl (v' := .slice (o20.map fun b => ⟨b, 0, none⟩) t.vals.length c20) (by rw [Nat.zero_add]) ?_
  simp only [List.nil_append]
  have hq : (⟨o20, c20, s20⟩ : Rs).cap = t.vals.length + (⟨o20, c20, s20⟩ : Rs).sp.length := by show c20 = t.vals.length + s20.length; omega
  (refine WL.r rfl rfl rfl (rd_fa (q := 0) rfl rfl Tryd.underlying24 rfl (by kernel_rfl) rfl) ?_)
  refine WL.g0 rfl rfl (st rfl rfl rfl .tc (by kernel_rfl) rfl ?_ (by (simp only [List.set_cons_zero, List.set_cons_succ]; rfl))) ?_
  · (simp; done)
  intro _
  refine WL.nt ?_
  refine WC.seq ?_
  refine WC.sr ?_
  (refine WL.r rfl rfl rfl (rd_fa (q := 2) rfl rfl Tryd.underlying24 rfl (by kernel_rfl) rfl) ?_)
  (refine WL.r rfl rfl rfl (ld rfl rfl .tc Tryd.underlying3 rfl (by rfl)) ?_)
  (refine WL.r rfl rfl rfl (rd_fa (q := 0) rfl rfl Tryd.underlying24 rfl (by kernel_rfl) rfl) ?_)
  (refine WL.r rfl rfl rfl (ld rfl rfl .tc Tryd.underlying22 rfl (by rfl)) ?_)
  refine WL.r rfl rfl rfl (rd_len rfl rfl Tryd.underlying22) ?_
  refine WL.r rfl rfl rfl (rd_lss rfl rfl rfl) ?_
  refine WL.nt ?_
  refine WC.cond rfl (fun hc27 => ?_) (fun hc27 => ?_)
  · (try simp only [sB] at hc27)
    have h27 : t.at_ < t.vals.length := hc27
    refine WC.seq ?_
    refine WC.sr ?_
    (refine WL.r rfl rfl rfl (rd_fa (q := 0) rfl rfl Tryd.underlying24 rfl (by kernel_rfl) rfl) ?_)
    (refine WL.r rfl rfl rfl (ld rfl rfl .tc Tryd.underlying22 rfl (by rfl)) ?_)
    (refine WL.r rfl rfl rfl (rd_fa (q := 2) rfl rfl Tryd.underlying24 rfl (by kernel_rfl) rfl) ?_)
    (refine WL.r rfl rfl rfl (ld rfl rfl .tc Tryd.underlying3 rfl (by rfl)) ?_)
    (refine WL.r rfl rfl rfl (iaf rfl rfl rfl Tryd.underlying22 (by kernel_rfl : _ = some 1) ?_ ?_ (by (try simp only [sN, Int.reduceToNat, Nat.reduceAdd, Nat.reduceMul, Nat.reduceSub]); rfl)) ?_; (focus (omega)); (focus ((rw [List.length_map]; omega))))
    (refine WL.r rfl rfl rfl (ldm rfl rfl Tryd.underlying33 rfl ?_) ?_; (focus (omega)))
    refine WL.r rfl rfl rfl (rd_move rfl rfl) ?_
    refine WL.g rfl rfl rfl (og_call rfl rfl (by kernel_rfl) (keep_val fun w hS => rCmp_c (a := t.vals.getD t.at_.toNat default) (b := n))) ?_
    intro _
    refine WL.r rfl rfl rfl (rd_geq rfl rfl rfl) ?_
    refine WL.nt ?_
    refine WC.cond rfl (fun hc36 => ?_) (fun hc36 => ?_)
    · (try simp only [sB] at hc36)
      refine WC.sr ?_
      refine WL.r rfl rfl rfl (rd_bld [[.slice none 0 0], [.string (S [])], [.int .i64 0]] rfl rfl (by simp only [bld, fldv, Nat.beq, Value.cells, cond_true, cond_false, List.nil_append, List.cons_append, List.append_nil]; rfl) (fun w => by kernel_rfl)) ?_
      refine WL.r rfl rfl rfl (rd_assign rfl rfl) ?_
      refine WL.g0 rfl rfl (sta rfl rfl rfl .tc ?_ ?_ ?_) ?_
      · kernel_rfl
      · simp [Value.oneCell']
      · rfl
      intro _
      refine WL.r rfl rfl rfl (rd_assign rfl rfl) ?_
      refine WL.nt ?_
      refine WC.ret ?_
      refine WX.then_ret ?_
      refine WX.then_ret ?_
      exact WX.retN rfl (.tmp rfl (.agg rfl .tc Tryd.underlying24 rfl (by kernel_rfl) (.tmp rfl .nil))) fun w' hS => draw0 (by rw [drawS, if_pos h27, if_pos hc36]) hS
    · (try simp only [sB] at hc36)
      refine WC.skip ?_
      refine WX.then_normal ?_
      refine WC.seq ?_
      refine WC.free0 [0, 1, 2, 3, 4, 5, 6, 7] [8, 9] [0, 0, 0, 0, 0, 0, 0, 0, 2, 2] (by kernel_rfl) (by kernel_rfl) rfl ?_
      (refine WJ.r rfl rfl rfl rfl rfl (rd_fa (q := 0) rfl rfl Tryd.underlying24 rfl (by kernel_rfl) rfl) ?_)
      (refine WJ.r rfl rfl rfl rfl rfl (ld rfl rfl .tc Tryd.underlying22 rfl (by rfl)) ?_)
      (refine WJ.r rfl rfl rfl rfl rfl (rd_fa (q := 2) rfl rfl Tryd.underlying24 rfl (by kernel_rfl) rfl) ?_)
      (refine WJ.r rfl rfl rfl rfl rfl (ld rfl rfl .tc Tryd.underlying3 rfl (by rfl)) ?_)
      (refine WJ.r rfl rfl rfl rfl rfl (iaf rfl rfl rfl Tryd.underlying22 (by kernel_rfl : _ = some 1) ?_ ?_ (by (try simp only [sN, Int.reduceToNat, Nat.reduceAdd, Nat.reduceMul, Nat.reduceSub]); rfl)) ?_; (focus (omega)); (focus ((rw [List.length_map]; omega))))
      (refine WJ.r rfl rfl rfl rfl rfl (ldm rfl rfl Tryd.underlying33 rfl ?_) ?_; (focus (omega)))
      refine WJ.r rfl rfl rfl rfl rfl (lda rfl rfl .tc Tryd.underlying24 rfl ?_) ?_
      · kernel_rfl
      refine WJ.r rfl rfl rfl rfl rfl (rd_assign rfl rfl) ?_
      refine WJ.nil ?_
      refine WL.g0 rfl rfl (sta rfl rfl rfl .tc ?_ ?_ ?_) ?_
      · kernel_rfl
      · simp [Value.oneCell']
      · rfl
      intro _
      refine WL.r rfl rfl rfl (rd_assign rfl rfl) ?_
      refine WL.nt ?_
      refine WC.ret ?_
      refine WX.then_ret ?_
      exact WX.retN rfl (.tmp rfl (.agg rfl .tc Tryd.underlying24 rfl (by kernel_rfl) (.tmp rfl .nil))) fun w' hS => drawN (q := ⟨o20, c20, s20⟩) (by rw [drawS, if_pos h27, if_neg (by omega)]) hq hS (by simp [Rs.ent])
  · (try simp only [sB] at hc27)
    have h27 : ¬ t.at_ < t.vals.length := by omega
    refine WC.skip ?_
    refine WX.then_normal ?_
    refine WC.seq ?_
    refine WC.sr ?_
    (refine WL.r rfl rfl rfl (rd_fa (q := 1) rfl rfl Tryd.underlying24 rfl (by kernel_rfl) rfl) ?_)
    (refine WL.r rfl rfl rfl (ld rfl rfl .tc Tryd.underlying9 rfl (by rfl)) ?_)
    refine WL.r rfl rfl rfl (rd_seq rfl rfl rfl) ?_
    refine WL.r rfl rfl rfl (rd_move rfl rfl) ?_
    refine WL.bool 48 rfl (fun hg48 => ?_) (fun hg48 => ?_)
    · (try simp only [sB] at hg48)
      refine WL.s rfl rfl rfl ?_
      refine WL.s rfl rfl rfl ?_
      refine WL.s rfl rfl rfl ?_
      refine WL.r rfl rfl rfl (rd_pickt rfl rfl rfl) ?_
      refine WL.nt ?_
      refine WC.cond rfl (fun _ => ?_) (fun h => by cases h)
      refine WC.sr ?_
      refine WL.r rfl rfl rfl (rd_bld [[.slice none 0 0], [.string (S [])], [.int .i64 0]] rfl rfl (by simp only [bld, fldv, Nat.beq, Value.cells, cond_true, cond_false, List.nil_append, List.cons_append, List.append_nil]; rfl) (fun w => by kernel_rfl)) ?_
      refine WL.r rfl rfl rfl (rd_assign rfl rfl) ?_
      refine WL.g0 rfl rfl (sta rfl rfl rfl .tc ?_ ?_ ?_) ?_
      · kernel_rfl
      · simp [Value.oneCell']
      · rfl
      intro _
      refine WL.r rfl rfl rfl (rd_assign rfl rfl) ?_
      refine WL.nt ?_
      refine WC.ret ?_
      refine WX.then_ret ?_
      exact WX.retN rfl (.tmp rfl (.agg rfl .tc Tryd.underlying24 rfl (by kernel_rfl) (.tmp rfl .nil))) fun w' hS => draw0 (by rw [drawS, if_neg h27, if_pos (by simp_all)]) hS
    · (try simp only [sB] at hg48)
      (refine WL.r rfl rfl rfl (rd_fa (q := 2) rfl rfl Tryd.underlying24 rfl (by kernel_rfl) rfl) ?_)
      (refine WL.r rfl rfl rfl (ld rfl rfl .tc Tryd.underlying3 rfl (by rfl)) ?_)
      refine WL.r rfl rfl rfl (rd_eql rfl rfl rfl) ?_
      refine WL.r rfl rfl rfl (rd_pickf rfl rfl rfl) ?_
      refine WL.nt ?_
      refine WC.cond rfl (fun hc52 => ?_) (fun hc52 => ?_)
      · (try simp only [sB] at hc52)
        refine WC.sr ?_
        refine WL.r rfl rfl rfl (rd_bld [[.slice none 0 0], [.string (S [])], [.int .i64 0]] rfl rfl (by simp only [bld, fldv, Nat.beq, Value.cells, cond_true, cond_false, List.nil_append, List.cons_append, List.append_nil]; rfl) (fun w => by kernel_rfl)) ?_
        refine WL.r rfl rfl rfl (rd_assign rfl rfl) ?_
        refine WL.g0 rfl rfl (sta rfl rfl rfl .tc ?_ ?_ ?_) ?_
        · kernel_rfl
        · simp [Value.oneCell']
        · rfl
        intro _
        refine WL.r rfl rfl rfl (rd_assign rfl rfl) ?_
        refine WL.nt ?_
        refine WC.ret ?_
        refine WX.then_ret ?_
        exact WX.retN rfl (.tmp rfl (.agg rfl .tc Tryd.underlying24 rfl (by kernel_rfl) (.tmp rfl .nil))) fun w' hS => draw0 (by rw [drawS, if_neg h27, if_pos (by simp_all)]) hS
      · (try simp only [sB] at hc52)
        have h52 : ¬ (t.seed = [] ∨ t.at_ = 2147483647) := by simp_all
        refine WC.skip ?_
        refine WX.then_normal ?_
        refine WC.seq ?_
        refine WC.sr ?_
        refine WL.r rfl rfl rfl (rd_assign rfl rfl) ?_
        refine WL.nt ?_
        refine WC.block ?_
        refine WC.loopP (σ := Nat) [(1, _), (2, _), (5, _), (7, _)] (fun g => [(8, .int .i64 (g : Int))]) (fun g => g ≤ 256 ∧ findA t n (256 - g) g = findA t n 256 0) (fun g => 256 - g) (0) (sub_cons rfl (sub_cons rfl (sub_cons rfl (sub_cons rfl (sub_nil _))))) (sub_cons rfl (sub_nil _)) (by (try dsimp only); exact ⟨by omega, rfl⟩) ?_
        rintro k hinv1; (try dsimp only at hinv1 ⊢)
        obtain ⟨hk, hfi⟩ := hinv1
        refine WC.seq ?_
        refine WC.sr ?_
        refine WL.r rfl rfl rfl (rd_move rfl rfl) ?_
        refine WL.r rfl rfl rfl (rd_lss rfl rfl rfl) ?_
        refine WL.nt ?_
        refine WC.cond rfl (fun hc55 => ?_) (fun hc55 => ?_)
        · (try simp only [sB] at hc55)
          refine WC.skip ?_
          refine WX.then_normal ?_
          refine WC.seq ?_
          refine WC.block ?_
          refine WC.seq ?_
          refine WC.free0 [5, 6, 0, 1, 2, 3, 4, 7, 8] [] [0, 0, 0, 0, 0, 0, 1, 1, 0] (by kernel_rfl) (by kernel_rfl) rfl ?_
          refine WJ.r rfl rfl rfl rfl rfl (rd_move rfl rfl) ?_
          refine WJ.gv rfl rfl rfl rfl rfl (fun ext => og_call rfl rfl (by kernel_rfl) (keep_val fun w hS => rbits_c (a := n))) ?_
          refine WJ.set 64 rfl (v' := .int .i64 ((bitsN n : Nat) : Int)) (congrArg (Value.int .i64) (by rw [if_pos hn])) ?_
          (refine WJ.r rfl rfl rfl rfl rfl (rd_fa (q := 1) rfl rfl Tryd.underlying24 rfl (by kernel_rfl) rfl) ?_)
          (refine WJ.r rfl rfl rfl rfl rfl (ld rfl rfl .tc Tryd.underlying9 rfl (by rfl)) ?_)
          (refine WJ.r rfl rfl rfl rfl rfl (rd_fa (q := 2) rfl rfl Tryd.underlying24 rfl (by kernel_rfl) rfl) ?_)
          (refine WJ.r rfl rfl rfl rfl rfl (ld rfl rfl .tc Tryd.underlying3 rfl (by rfl)) ?_)
          refine WJ.set 61 rfl (v' := .int .i64 (((t.at_.toNat : Nat) : Int))) (congrArg (Value.int .i64) (by omega)) ?_
          refine WJ.r rfl rfl rfl rfl rfl (rd_move rfl rfl) ?_
          refine WJ.gv rfl rfl rfl rfl rfl (fun ext => og_call rfl rfl (by kernel_rfl) (keep_val fun w hS => rattempt_c (sd := t.seed) (at_ := t.at_.toNat) (a := k) (nb := bitsN n) (by assumption) (by omega) (by omega) (by assumption) (by omega))) ?_
          refine WJ.r rfl rfl rfl rfl rfl (rd_assign rfl rfl) ?_
          refine WJ.nil ?_
          refine WL.nt ?_
          refine WC.sr ?_
          refine WL.r rfl rfl rfl (rd_move rfl rfl) ?_
          refine WL.r rfl rfl rfl (rd_move rfl rfl) ?_
          refine WL.g rfl rfl rfl (og_call rfl rfl (by kernel_rfl) (keep_val fun w hS => rCmp_c (a := attS t.seed t.at_.toNat k (bitsN n)) (b := n))) ?_
          intro _
          refine WL.r rfl rfl rfl (rd_lss rfl rfl rfl) ?_
          refine WL.nt ?_
          refine WC.cond rfl (fun hc69 => ?_) (fun hc69 => ?_)
          · (try simp only [sB] at hc69)
            refine WC.seq ?_
            refine WC.free0 [0, 1, 2] [3, 4] [0, 0, 0, 2, 2] (by kernel_rfl) (by kernel_rfl) rfl ?_
            refine WJ.r rfl rfl rfl rfl rfl (rd_move rfl rfl) ?_
            refine WJ.r rfl rfl rfl rfl rfl (lda rfl rfl .tc Tryd.underlying24 rfl ?_) ?_
            · kernel_rfl
            refine WJ.r rfl rfl rfl rfl rfl (rd_assign rfl rfl) ?_
            refine WJ.nil ?_
            refine WL.g0 rfl rfl (sta rfl rfl rfl .tc ?_ ?_ ?_) ?_
            · kernel_rfl
            · simp [Value.oneCell']
            · rfl
            intro _
            refine WL.r rfl rfl rfl (rd_assign rfl rfl) ?_
            refine WL.nt ?_
            refine WC.ret ?_
            refine WX.block_ret ?_
            refine WX.then_ret ?_
            refine WX.then_ret ?_
            refine WX.block_ret ?_
            refine WX.then_ret ?_
            exact WX.retN rfl (.tmp rfl (.agg rfl .tc Tryd.underlying24 rfl (by kernel_rfl) (.tmp rfl .nil))) fun w' hS => drawN (q := ⟨o20, c20, s20⟩) (by rw [drawS, if_neg h27, if_neg h52, ← hfi, findA_hit (by omega) hc69]) hq hS (by simp [Rs.ent])
          · (try simp only [sB] at hc69)
            refine WC.skip ?_
            refine WX.block_normal ?_
            refine WX.then_normal ?_
            refine WC.region ?_
            refine WL.r rfl rfl rfl (rd_move rfl rfl) ?_
            (refine WL.r rfl rfl rfl (rd_add64nl rfl rfl rfl ?_) ?_; (focus (omega)))
            refine WL.r rfl rfl rfl (rd_assign rfl rfl) ?_
            refine WL.nil ?_
            refine WX.loopP (k + 1) (by (try dsimp only); omega) (sub_cons rfl (sub_cons rfl (sub_cons rfl (sub_cons rfl (sub_nil _))))) (by refine (sub_cons ?_ (sub_nil _)) <;> (rfl)) ?_ (by (exact fun _ h => h))
            (try dsimp only)
            exact ⟨by omega, by rw [← findA_miss (by omega) (by omega)]; exact hfi⟩
        · (try simp only [sB] at hc55)
          refine WC.exit ?_
          refine WX.then_exit ?_
          refine WX.then_exit ?_
          refine WX.block_exit ?_
          obtain rfl : k = 256 := by omega
          refine WX.then_normal ?_
          refine WC.sr ?_
          refine WL.r rfl rfl rfl (rd_bld [[.slice none 0 0], [.string (S [])], [.int .i64 0]] rfl rfl (by simp only [bld, fldv, Nat.beq, Value.cells, cond_true, cond_false, List.nil_append, List.cons_append, List.append_nil]; rfl) (fun w => by kernel_rfl)) ?_
          refine WL.r rfl rfl rfl (rd_assign rfl rfl) ?_
          refine WL.g0 rfl rfl (sta rfl rfl rfl .tc ?_ ?_ ?_) ?_
          · kernel_rfl
          · simp [Value.oneCell']
          · rfl
          intro _
          refine WL.r rfl rfl rfl (rd_assign rfl rfl) ?_
          refine WL.nt ?_
          refine WC.ret ?_
          exact WX.retN rfl (.tmp rfl (.agg rfl .tc Tryd.underlying24 rfl (by kernel_rfl) (.tmp rfl .nil))) fun w' hS => draw0 (by rw [drawS, if_neg h27, if_neg h52, ← hfi]; rfl) hS
theorem draw_c {t : Tp} {n : Bs} {a : Option Addr} {cap : Nat} {w : World} {ok : Nat → Prop} (hF1 : (Fact.sl a (strs t.vals)).holds ok w) (hl : t.vals.length ≤ 100000) (hg : goodT t) (hn : okN n) (hn0 : n ≠ []) (hsd : t.seed.length ≤ 400000) (hT : Tab w) :
    Calls Tryd.prog 35 #[t.v (.slice a t.vals.length cap), .string (S n)] w fun e w' => ∃ g : Rs, e = .returned (.tuple #[.string (S (drawS t n).1), (drawS t n).2.1.v (g.val (drawS t n).2.1.vals.length), .int .i64 (drawS t n).2.2]) ∧ g.cap = (drawS t n).2.1.vals.length + g.sp.length ∧ St (fun _ => True) w [g.ent (strs (drawS t n).2.1.vals) 33] [] w' := by
  have hg1 := hg.1; have hg2 := hg.2.1
  have hbp := bitsN_pos hn hn0
  have hbl := bitsN_le hn.1
  have hq : (⟨some 0, t.vals.length, []⟩ : Rs).cap = t.vals.length + (⟨some 0, t.vals.length, []⟩ : Rs).sp.length := rfl
  refine enter (S := St (fun _ => True) w [] ([Fact.sl a (strs t.vals)])) (L := [(0, t.v (.slice a t.vals.length cap)), (1, .string (S n))]) Tryd.func35 rfl Tryd.ntmps35 rfl (args_cons rfl (args_cons rfl (args_nil _))) (St.start (fun _ _ => trivial) (facts_cons (fact_any hF1) facts_nil)) ?_
  refine WC.sr ?_
  refine WL.g rfl rfl rfl (og_box rfl rfl (by (exact cells_agg _))) ?_
  intro b2
  refine WL.r rfl rfl rfl (rd_assign rfl rfl) ?_
  refine WL.g rfl rfl rfl (og_alloc rfl (v := (.agg #[.slice none 0 0, .string (S []), .int .i64 0])) (cs := [.slice none 0 0, .string (S []), .int .i64 0]) (by kernel_rfl) rfl) ?_
  intro b5
  refine WL.r rfl rfl rfl (rd_assign rfl rfl) ?_
  refine WL.nt ?_
  refine WC.seq ?_
  refine WC.sr ?_
  (refine WL.r rfl rfl rfl (rd_fa (q := 2) rfl rfl Tryd.underlying24 rfl (by kernel_rfl) rfl) ?_)
  (refine WL.r rfl rfl rfl (ld rfl rfl .tc Tryd.underlying3 rfl (by rfl)) ?_)
  (refine WL.r rfl rfl rfl (rd_fa (q := 0) rfl rfl Tryd.underlying24 rfl (by kernel_rfl) rfl) ?_)
  (refine WL.r rfl rfl rfl (ld rfl rfl .tc Tryd.underlying22 rfl (by rfl)) ?_)
  refine WL.r rfl rfl rfl (rd_len rfl rfl Tryd.underlying22) ?_
  refine WL.r rfl rfl rfl (rd_lss rfl rfl rfl) ?_
  refine WL.r rfl rfl rfl (rd_move rfl rfl) ?_
  refine WL.bool 16 rfl (fun hg16 => ?_) (fun hg16 => ?_)
  · (try simp only [sB] at hg16)
    (refine WL.r rfl rfl rfl (rd_fa (q := 0) rfl rfl Tryd.underlying24 rfl (by kernel_rfl) rfl) ?_)
    (refine WL.r rfl rfl rfl (ld rfl rfl .tc Tryd.underlying22 rfl (by rfl)) ?_)
    (refine WL.r rfl rfl rfl (rd_fa (q := 2) rfl rfl Tryd.underlying24 rfl (by kernel_rfl) rfl) ?_)
    (refine WL.r rfl rfl rfl (ld rfl rfl .tc Tryd.underlying3 rfl (by rfl)) ?_)
    (refine WL.r rfl rfl rfl (iaf rfl rfl rfl Tryd.underlying22 (by kernel_rfl : _ = some 1) ?_ ?_ (by (try simp only [sN, Int.reduceToNat, Nat.reduceAdd, Nat.reduceMul, Nat.reduceSub]); rfl)) ?_; (focus (omega)); (focus ((rw [List.length_map]; omega))))
    (refine WL.r rfl rfl rfl (ldm rfl rfl Tryd.underlying33 rfl ?_) ?_; (focus (omega)))
    refine WL.r rfl rfl rfl (rd_move rfl rfl) ?_
    refine WL.g rfl rfl rfl (og_call rfl rfl (by kernel_rfl) (keep_val fun w hS => Cmp_c (a := t.vals.getD t.at_.toNat default) (b := n))) ?_
    intro _
    refine WL.r rfl rfl rfl (rd_geq rfl rfl rfl) ?_
    refine WL.r rfl rfl rfl (rd_pickt rfl rfl rfl) ?_
    refine WL.nt ?_
    refine WC.cond rfl (fun hc26 => ?_) (fun hc26 => ?_)
    · (try simp only [sB] at hc26)
      refine WC.sr ?_
      refine WL.r rfl rfl rfl (rd_bld [[.slice none 0 0], [.string (S [])], [.int .i64 0]] rfl rfl (by simp only [bld, fldv, Nat.beq, Value.cells, cond_true, cond_false, List.nil_append, List.cons_append, List.append_nil]; rfl) (fun w => by kernel_rfl)) ?_
      refine WL.r rfl rfl rfl (rd_assign rfl rfl) ?_
      refine WL.g0 rfl rfl (sta rfl rfl rfl .tc ?_ ?_ ?_) ?_
      · kernel_rfl
      · simp [Value.oneCell']
      · rfl
      intro _
      refine WL.r rfl rfl rfl (rd_assign rfl rfl) ?_
      refine WL.nt ?_
      refine WC.ret ?_
      refine WX.then_ret ?_
      exact WX.retN rfl (.tmp rfl (.agg rfl .tc Tryd.underlying24 rfl (by kernel_rfl) (.tmp rfl .nil))) fun w' hS => draw0 (by rw [drawS, if_pos (by omega), if_pos hc26]) hS
    · (try simp only [sB] at hc26)
      refine WC.skip ?_
      refine WX.then_normal ?_
      refine WC.seq ?_
      refine WC.sr ?_
      (refine WL.r rfl rfl rfl (rd_fa (q := 2) rfl rfl Tryd.underlying24 rfl (by kernel_rfl) rfl) ?_)
      (refine WL.r rfl rfl rfl (ld rfl rfl .tc Tryd.underlying3 rfl (by rfl)) ?_)
      (refine WL.r rfl rfl rfl (rd_fa (q := 0) rfl rfl Tryd.underlying24 rfl (by kernel_rfl) rfl) ?_)
      (refine WL.r rfl rfl rfl (ld rfl rfl .tc Tryd.underlying22 rfl (by rfl)) ?_)
      refine WL.r rfl rfl rfl (rd_len rfl rfl Tryd.underlying22) ?_
      refine WL.r rfl rfl rfl (rd_geq rfl rfl rfl) ?_
      refine WL.r rfl rfl rfl (rd_move rfl rfl) ?_
      refine WL.bool 34 rfl (fun hg34 => ?_) (fun hg34 => ?_)
      · (try simp only [sB] at hg34)
        (refine WL.r rfl rfl rfl (rd_fa (q := 1) rfl rfl Tryd.underlying24 rfl (by kernel_rfl) rfl) ?_)
        (refine WL.r rfl rfl rfl (ld rfl rfl .tc Tryd.underlying9 rfl (by rfl)) ?_)
        refine WL.r rfl rfl rfl (rd_seq rfl rfl rfl) ?_
        refine WL.r rfl rfl rfl (rd_pickt rfl rfl rfl) ?_
        refine WL.r rfl rfl rfl (rd_move rfl rfl) ?_
        refine WL.bool 39 rfl (fun hg39 => ?_) (fun hg39 => ?_)
        · (try simp only [sB] at hg39)
          refine WL.s rfl rfl rfl ?_
          refine WL.s rfl rfl rfl ?_
          refine WL.s rfl rfl rfl ?_
          refine WL.r rfl rfl rfl (rd_pickt rfl rfl rfl) ?_
          refine WL.nt ?_
          refine WC.cond rfl (fun _ => ?_) (fun h => by cases h)
          refine WC.sr ?_
          refine WL.r rfl rfl rfl (rd_bld [[.slice none 0 0], [.string (S [])], [.int .i64 0]] rfl rfl (by simp only [bld, fldv, Nat.beq, Value.cells, cond_true, cond_false, List.nil_append, List.cons_append, List.append_nil]; rfl) (fun w => by kernel_rfl)) ?_
          refine WL.r rfl rfl rfl (rd_assign rfl rfl) ?_
          refine WL.g0 rfl rfl (sta rfl rfl rfl .tc ?_ ?_ ?_) ?_
          · kernel_rfl
          · simp [Value.oneCell']
          · rfl
          intro _
          refine WL.r rfl rfl rfl (rd_assign rfl rfl) ?_
          refine WL.nt ?_
          refine WC.ret ?_
          refine WX.then_ret ?_
          (exfalso; omega)
        · (try simp only [sB] at hg39)
          (refine WL.r rfl rfl rfl (rd_fa (q := 2) rfl rfl Tryd.underlying24 rfl (by kernel_rfl) rfl) ?_)
          (refine WL.r rfl rfl rfl (ld rfl rfl .tc Tryd.underlying3 rfl (by rfl)) ?_)
          refine WL.r rfl rfl rfl (rd_eql rfl rfl rfl) ?_
          refine WL.r rfl rfl rfl (rd_pickf rfl rfl rfl) ?_
          refine WL.nt ?_
          refine WC.cond rfl (fun hc43 => ?_) (fun hc43 => ?_)
          · (try simp only [sB] at hc43)
            refine WC.sr ?_
            refine WL.r rfl rfl rfl (rd_bld [[.slice none 0 0], [.string (S [])], [.int .i64 0]] rfl rfl (by simp only [bld, fldv, Nat.beq, Value.cells, cond_true, cond_false, List.nil_append, List.cons_append, List.append_nil]; rfl) (fun w => by kernel_rfl)) ?_
            refine WL.r rfl rfl rfl (rd_assign rfl rfl) ?_
            refine WL.g0 rfl rfl (sta rfl rfl rfl .tc ?_ ?_ ?_) ?_
            · kernel_rfl
            · simp [Value.oneCell']
            · rfl
            intro _
            refine WL.r rfl rfl rfl (rd_assign rfl rfl) ?_
            refine WL.nt ?_
            refine WC.ret ?_
            refine WX.then_ret ?_
            (exfalso; omega)
          · (try simp only [sB] at hc43)
            refine WC.skip ?_
            refine WX.then_normal ?_
            refine WC.seq ?_
            refine WC.free0 [0, 1, 2, 3, 4, 5, 6, 7, 8, 9, 10] [11] [0, 0, 0, 3, 0, 0, 0, 0, 0, 0, 3, 2] (by kernel_rfl) (by kernel_rfl) rfl ?_
            (refine WJ.r rfl rfl rfl rfl rfl (rd_fa (q := 0) rfl rfl Tryd.underlying24 rfl (by kernel_rfl) rfl) ?_)
            (refine WJ.r rfl rfl rfl rfl rfl (ld rfl rfl .tc Tryd.underlying22 rfl (by rfl)) ?_)
            refine WJ.r rfl rfl rfl rfl rfl (rd_len rfl rfl Tryd.underlying22) ?_
            refine WJ.f rfl rfl rfl rfl rfl (fr_mk rfl rfl rfl Tryd.underlying22 (by kernel_rfl : _ = some (some (.string (S [])), 1, 16)) rfl ?_ (by (try simp only [sN, Int.reduceToNat, Nat.reduceAdd, Nat.reduceMul, Nat.reduceSub]); rfl) (by (try simp only [sN, Int.reduceToNat, Nat.reduceAdd, Nat.reduceMul, Nat.reduceSub]); rfl)) ?_
            · omega
            intro b48
            (refine WJ.r rfl rfl rfl rfl rfl (rd_fa (q := 1) rfl rfl Tryd.underlying24 rfl (by kernel_rfl) rfl) ?_)
            (refine WJ.r rfl rfl rfl rfl rfl (ld rfl rfl .tc Tryd.underlying9 rfl (by rfl)) ?_)
            (refine WJ.r rfl rfl rfl rfl rfl (rd_fa (q := 2) rfl rfl Tryd.underlying24 rfl (by kernel_rfl) rfl) ?_)
            (refine WJ.r rfl rfl rfl rfl rfl (ld rfl rfl .tc Tryd.underlying3 rfl (by rfl)) ?_)
            (refine WJ.r rfl rfl rfl rfl rfl (rd_add64 rfl rfl rfl ?_) ?_; (focus (omega)))
            refine WJ.r rfl rfl rfl rfl rfl (rd_bld [[.slice none 0 0], [.string (S [])], [.int .i64 0]] rfl rfl (by simp only [bld, fldv, Nat.beq, Value.cells, cond_true, cond_false, List.nil_append, List.cons_append, List.append_nil]; rfl) (fun w => by kernel_rfl)) ?_
            refine WJ.f rfl rfl rfl rfl rfl (fr_alloc rfl (v := (.agg #[.slice none 0 0, .string (S []), .int .i64 0])) (cs := [.slice none 0 0, .string (S []), .int .i64 0]) (by kernel_rfl) rfl) ?_
            intro b7
            refine WJ.nil ?_
            refine WL.g0 rfl rfl (sta rfl rfl rfl .tc ?_ ?_ ?_) ?_
            · kernel_rfl
            · simp [Value.oneCell']
            · rfl
            intro _
            refine WL.nt ?_
            refine WC.sr ?_
            (refine WL.r rfl rfl rfl (rd_fa (q := 0) rfl rfl Tryd.underlying24 rfl (by kernel_rfl) rfl) ?_)
            (refine WL.r rfl rfl rfl (ld rfl rfl .tc Tryd.underlying22 rfl (by rfl)) ?_)
            (refine WL.r rfl rfl rfl (rd_fa (q := 0) rfl rfl Tryd.underlying24 rfl (by kernel_rfl) rfl) ?_)
            (refine WL.r rfl rfl rfl (ld rfl rfl .tc Tryd.underlying22 rfl (by rfl)) ?_)
            refine WL.g rfl rfl rfl (cpyl rfl rfl rfl .tc Tryd.underlying22 (by kernel_rfl) (m := t.vals.length) (by simp) (by simp) (fun w hS => hS.sl) (by intro u hu; obtain ⟨_, _, rfl⟩ := List.mem_map.1 hu; rfl) (by simp) (ys := strs t.vals) (by simp)) ?_
            intro _
            refine WL.nt ?_
            refine WC.seq ?_
            refine WC.sr ?_
            (refine WL.r rfl rfl rfl (rd_fa (q := 2) rfl rfl Tryd.underlying24 rfl (by kernel_rfl) rfl) ?_)
            (refine WL.r rfl rfl rfl (ld rfl rfl .tc Tryd.underlying3 rfl (by rfl)) ?_)
            (refine WL.r rfl rfl rfl (rd_fa (q := 0) rfl rfl Tryd.underlying24 rfl (by kernel_rfl) rfl) ?_)
            (refine WL.r rfl rfl rfl (ld rfl rfl .tc Tryd.underlying22 rfl (by rfl)) ?_)
            refine WL.r rfl rfl rfl (rd_len rfl rfl Tryd.underlying22) ?_
            refine WL.r rfl rfl rfl (rd_lss rfl rfl rfl) ?_
            refine WL.nt ?_
            refine WC.cond rfl (fun hc65 => ?_) (fun hc65 => ?_)
            · (try simp only [sB] at hc65)
              refine WC.seq ?_
              refine WC.free0 [0, 1, 2, 3, 4, 5, 6, 7] [8, 9] [0, 0, 0, 0, 0, 0, 0, 0, 2, 2] (by kernel_rfl) (by kernel_rfl) rfl ?_
              (refine WJ.r rfl rfl rfl rfl rfl (rd_fa (q := 0) rfl rfl Tryd.underlying24 rfl (by kernel_rfl) rfl) ?_)
              (refine WJ.r rfl rfl rfl rfl rfl (ld rfl rfl .tc Tryd.underlying22 rfl (by rfl)) ?_)
              (refine WJ.r rfl rfl rfl rfl rfl (rd_fa (q := 2) rfl rfl Tryd.underlying24 rfl (by kernel_rfl) rfl) ?_)
              (refine WJ.r rfl rfl rfl rfl rfl (ld rfl rfl .tc Tryd.underlying3 rfl (by rfl)) ?_)
              (refine WJ.r rfl rfl rfl rfl rfl (iaf rfl rfl rfl Tryd.underlying22 (by kernel_rfl : _ = some 1) ?_ ?_ (by (try simp only [sN, Int.reduceToNat, Nat.reduceAdd, Nat.reduceMul, Nat.reduceSub]); rfl)) ?_; (focus (omega)); (focus ((rw [List.length_map]; omega))))
              (refine WJ.r rfl rfl rfl rfl rfl (ldm rfl rfl Tryd.underlying33 rfl ?_) ?_; (focus (omega)))
              refine WJ.r rfl rfl rfl rfl rfl (lda rfl rfl .tc Tryd.underlying24 rfl ?_) ?_
              · kernel_rfl
              refine WJ.r rfl rfl rfl rfl rfl (rd_assign rfl rfl) ?_
              refine WJ.nil ?_
              refine WL.g0 rfl rfl (sta rfl rfl rfl .tc ?_ ?_ ?_) ?_
              · kernel_rfl
              · simp [Value.oneCell']
              · rfl
              intro _
              refine WL.r rfl rfl rfl (rd_assign rfl rfl) ?_
              refine WL.nt ?_
              refine WC.ret ?_
              refine WX.then_ret ?_
              (exfalso; omega)
            · (try simp only [sB] at hc65)
              have h27 : ¬ t.at_ < t.vals.length := by omega
              have h52 : ¬ (t.seed = [] ∨ t.at_ = 2147483647) := by (exfalso; omega)
              refine WC.skip ?_
              refine WX.then_normal ?_
              refine WC.seq ?_
              refine WC.sr ?_
              refine WL.r rfl rfl rfl (rd_move rfl rfl) ?_
              refine WL.nt ?_
              refine WC.block ?_
              refine WC.loopP (σ := Nat) [(1, _), (2, _), (5, _), (7, _)] (fun g => [(73, .int .i64 (g : Int))]) (fun g => g ≤ 256 ∧ findA t n (256 - g) g = findA t n 256 0) (fun g => 256 - g) (0) (sub_cons rfl (sub_cons rfl (sub_cons rfl (sub_cons rfl (sub_nil _))))) (sub_cons rfl (sub_nil _)) (by (try dsimp only); exact ⟨by omega, rfl⟩) ?_
              rintro k hinv1; (try dsimp only at hinv1 ⊢)
              obtain ⟨hk, hfi⟩ := hinv1
              refine WC.sr ?_
              refine WL.r rfl rfl rfl (rd_lss rfl rfl rfl) ?_
              refine WL.nt ?_
              refine WC.seq ?_
              refine WC.cond rfl (fun hc74 => ?_) (fun hc74 => ?_)
              · (try simp only [sB] at hc74)
                refine WC.skip ?_
                refine WX.then_normal ?_
                refine WC.seq ?_
                refine WC.block ?_
                refine WC.sr ?_
                refine WL.r rfl rfl rfl (rd_move rfl rfl) ?_
                refine WL.r rfl rfl rfl (rd_assign rfl rfl) ?_
                refine WL.nt ?_
                refine WC.seq ?_
                refine WC.free0 [2, 3, 0, 1, 4, 5] [] [0, 0, 0, 1, 1, 0] (by kernel_rfl) (by kernel_rfl) rfl ?_
                refine WJ.r rfl rfl rfl rfl rfl (rd_move rfl rfl) ?_
                refine WJ.gv rfl rfl rfl rfl rfl (fun ext => og_call rfl rfl (by kernel_rfl) (keep_val fun w hS => bits_c (a := n))) ?_
                refine WJ.set 79 rfl (v' := .int .i64 ((bitsN n : Nat) : Int)) (congrArg (Value.int .i64) (by rw [if_pos hn])) ?_
                refine WJ.r rfl rfl rfl rfl rfl (lda rfl rfl .tc Tryd.underlying24 rfl ?_) ?_
                · kernel_rfl
                refine WJ.set 76 rfl (v' := .agg #[.slice a t.vals.length cap, .string (S t.seed), .int .i64 ((t.at_.toNat : Nat) : Int)]) (by rw [Int.toNat_of_nonneg hg1]) ?_
                refine WJ.r rfl rfl rfl rfl rfl (rd_move rfl rfl) ?_
                refine WJ.gv rfl rfl rfl rfl rfl (fun ext => og_call rfl rfl (by kernel_rfl) (keep_val fun w hS => attempt_c (sd := t.seed) (at_ := t.at_.toNat) (aa := k) (nb := bitsN n) (by assumption) (by omega) (by omega) (by assumption) (by omega) (by (exact tab_st hT hS)))) ?_
                refine WJ.r rfl rfl rfl rfl rfl (rd_assign rfl rfl) ?_
                refine WJ.nil ?_
                refine WL.nt ?_
                refine WC.sr ?_
                refine WL.r rfl rfl rfl (rd_move rfl rfl) ?_
                refine WL.r rfl rfl rfl (rd_move rfl rfl) ?_
                refine WL.g rfl rfl rfl (og_call rfl rfl (by kernel_rfl) (keep_val fun w hS => Cmp_c (a := attS t.seed t.at_.toNat k (bitsN n)) (b := n))) ?_
                intro _
                refine WL.r rfl rfl rfl (rd_lss rfl rfl rfl) ?_
                refine WL.nt ?_
                refine WC.cond rfl (fun hc84 => ?_) (fun hc84 => ?_)
                · (try simp only [sB] at hc84)
                  refine WC.seq ?_
                  refine WC.free0 [0, 1, 2] [3, 4] [0, 0, 0, 2, 2] (by kernel_rfl) (by kernel_rfl) rfl ?_
                  refine WJ.r rfl rfl rfl rfl rfl (rd_move rfl rfl) ?_
                  refine WJ.r rfl rfl rfl rfl rfl (lda rfl rfl .tc Tryd.underlying24 rfl ?_) ?_
                  · kernel_rfl
                  refine WJ.r rfl rfl rfl rfl rfl (rd_assign rfl rfl) ?_
                  refine WJ.nil ?_
                  refine WL.g0 rfl rfl (sta rfl rfl rfl .tc ?_ ?_ ?_) ?_
                  · kernel_rfl
                  · simp [Value.oneCell']
                  · rfl
                  intro _
                  refine WL.r rfl rfl rfl (rd_assign rfl rfl) ?_
                  refine WL.nt ?_
                  refine WC.ret ?_
                  refine WX.block_ret ?_
                  refine WX.then_ret ?_
                  refine WX.then_ret ?_
                  refine WX.block_ret ?_
                  refine WX.then_ret ?_
                  exact WX.retN rfl (.tmp rfl (.agg rfl .tc Tryd.underlying24 rfl (by kernel_rfl) (.tmp rfl .nil))) fun w' hS => drawN (q := ⟨some b48, t.vals.length, []⟩) (by rw [drawS, if_neg h27, if_neg h52, ← hfi, findA_hit (by omega) hc84]) rfl hS (by simp [Rs.ent])
                · (try simp only [sB] at hc84)
                  refine WC.skip ?_
                  refine WX.block_normal ?_
                  refine WX.then_normal ?_
                  refine WC.region ?_
                  (refine WL.r rfl rfl rfl (rd_add64nl rfl rfl rfl ?_) ?_; (focus (omega)))
                  refine WL.r rfl rfl rfl (rd_move rfl rfl) ?_
                  refine WL.nil ?_
                  refine WX.loopP (k + 1) (by (try dsimp only); omega) (sub_cons rfl (sub_cons rfl (sub_cons rfl (sub_cons rfl (sub_nil _))))) (by refine (sub_cons ?_ (sub_nil _)) <;> (rfl)) ?_ (by (exact fun _ h => h))
                  (try dsimp only)
                  exact ⟨by omega, by rw [← findA_miss (by omega) (by omega)]; exact hfi⟩
              · (try simp only [sB] at hc74)
                refine WC.exit ?_
                refine WX.then_exit ?_
                refine WX.then_exit ?_
                refine WX.block_exit ?_
                obtain rfl : k = 256 := by omega
                refine WX.then_normal ?_
                refine WC.sr ?_
                refine WL.r rfl rfl rfl (rd_bld [[.slice none 0 0], [.string (S [])], [.int .i64 0]] rfl rfl (by simp only [bld, fldv, Nat.beq, Value.cells, cond_true, cond_false, List.nil_append, List.cons_append, List.append_nil]; rfl) (fun w => by kernel_rfl)) ?_
                refine WL.r rfl rfl rfl (rd_assign rfl rfl) ?_
                refine WL.g0 rfl rfl (sta rfl rfl rfl .tc ?_ ?_ ?_) ?_
                · kernel_rfl
                · simp [Value.oneCell']
                · rfl
                intro _
                refine WL.r rfl rfl rfl (rd_assign rfl rfl) ?_
                refine WL.nt ?_
                refine WC.ret ?_
                exact WX.retN rfl (.tmp rfl (.agg rfl .tc Tryd.underlying24 rfl (by kernel_rfl) (.tmp rfl .nil))) fun w' hS => draw0 (by rw [drawS, if_neg h27, if_neg h52, ← hfi]; rfl) hS
      · (try simp only [sB] at hg34)
        refine WL.s rfl rfl rfl ?_
        refine WL.s rfl rfl rfl ?_
        refine WL.s rfl rfl rfl ?_
        refine WL.r rfl rfl rfl (rd_pickf rfl rfl rfl) ?_
        refine WL.r rfl rfl rfl (rd_move rfl rfl) ?_
        (refine WL.r rfl rfl rfl (rd_fa (q := 2) rfl rfl Tryd.underlying24 rfl (by kernel_rfl) rfl) ?_)
        (refine WL.r rfl rfl rfl (ld rfl rfl .tc Tryd.underlying3 rfl (by rfl)) ?_)
        refine WL.r rfl rfl rfl (rd_eql rfl rfl rfl) ?_
        refine WL.r rfl rfl rfl (rd_pickf rfl rfl rfl) ?_
        refine WL.nt ?_
        refine WC.cond rfl (fun hc43 => ?_) (fun hc43 => ?_)
        · (try simp only [sB] at hc43)
          refine WC.sr ?_
          refine WL.r rfl rfl rfl (rd_bld [[.slice none 0 0], [.string (S [])], [.int .i64 0]] rfl rfl (by simp only [bld, fldv, Nat.beq, Value.cells, cond_true, cond_false, List.nil_append, List.cons_append, List.append_nil]; rfl) (fun w => by kernel_rfl)) ?_
          refine WL.r rfl rfl rfl (rd_assign rfl rfl) ?_
          refine WL.g0 rfl rfl (sta rfl rfl rfl .tc ?_ ?_ ?_) ?_
          · kernel_rfl
          · simp [Value.oneCell']
          · rfl
          intro _
          refine WL.r rfl rfl rfl (rd_assign rfl rfl) ?_
          refine WL.nt ?_
          refine WC.ret ?_
          refine WX.then_ret ?_
          (exfalso; omega)
        · (try simp only [sB] at hc43)
          refine WC.skip ?_
          refine WX.then_normal ?_
          refine WC.seq ?_
          refine WC.free0 [0, 1, 2, 3, 4, 5, 6, 7, 8, 9, 10] [11] [0, 0, 0, 3, 0, 0, 0, 0, 0, 0, 3, 2] (by kernel_rfl) (by kernel_rfl) rfl ?_
          (refine WJ.r rfl rfl rfl rfl rfl (rd_fa (q := 0) rfl rfl Tryd.underlying24 rfl (by kernel_rfl) rfl) ?_)
          (refine WJ.r rfl rfl rfl rfl rfl (ld rfl rfl .tc Tryd.underlying22 rfl (by rfl)) ?_)
          refine WJ.r rfl rfl rfl rfl rfl (rd_len rfl rfl Tryd.underlying22) ?_
          refine WJ.f rfl rfl rfl rfl rfl (fr_mk rfl rfl rfl Tryd.underlying22 (by kernel_rfl : _ = some (some (.string (S [])), 1, 16)) rfl ?_ (by (try simp only [sN, Int.reduceToNat, Nat.reduceAdd, Nat.reduceMul, Nat.reduceSub]); rfl) (by (try simp only [sN, Int.reduceToNat, Nat.reduceAdd, Nat.reduceMul, Nat.reduceSub]); rfl)) ?_
          · omega
          intro b48
          (refine WJ.r rfl rfl rfl rfl rfl (rd_fa (q := 1) rfl rfl Tryd.underlying24 rfl (by kernel_rfl) rfl) ?_)
          (refine WJ.r rfl rfl rfl rfl rfl (ld rfl rfl .tc Tryd.underlying9 rfl (by rfl)) ?_)
          (refine WJ.r rfl rfl rfl rfl rfl (rd_fa (q := 2) rfl rfl Tryd.underlying24 rfl (by kernel_rfl) rfl) ?_)
          (refine WJ.r rfl rfl rfl rfl rfl (ld rfl rfl .tc Tryd.underlying3 rfl (by rfl)) ?_)
          (refine WJ.r rfl rfl rfl rfl rfl (rd_add64 rfl rfl rfl ?_) ?_; (focus (omega)))
          refine WJ.r rfl rfl rfl rfl rfl (rd_bld [[.slice none 0 0], [.string (S [])], [.int .i64 0]] rfl rfl (by simp only [bld, fldv, Nat.beq, Value.cells, cond_true, cond_false, List.nil_append, List.cons_append, List.append_nil]; rfl) (fun w => by kernel_rfl)) ?_
          refine WJ.f rfl rfl rfl rfl rfl (fr_alloc rfl (v := (.agg #[.slice none 0 0, .string (S []), .int .i64 0])) (cs := [.slice none 0 0, .string (S []), .int .i64 0]) (by kernel_rfl) rfl) ?_
          intro b7
          refine WJ.nil ?_
          refine WL.g0 rfl rfl (sta rfl rfl rfl .tc ?_ ?_ ?_) ?_
          · kernel_rfl
          · simp [Value.oneCell']
          · rfl
          intro _
          refine WL.nt ?_
          refine WC.sr ?_
          (refine WL.r rfl rfl rfl (rd_fa (q := 0) rfl rfl Tryd.underlying24 rfl (by kernel_rfl) rfl) ?_)
          (refine WL.r rfl rfl rfl (ld rfl rfl .tc Tryd.underlying22 rfl (by rfl)) ?_)
          (refine WL.r rfl rfl rfl (rd_fa (q := 0) rfl rfl Tryd.underlying24 rfl (by kernel_rfl) rfl) ?_)
          (refine WL.r rfl rfl rfl (ld rfl rfl .tc Tryd.underlying22 rfl (by rfl)) ?_)
          refine WL.g rfl rfl rfl (cpyl rfl rfl rfl .tc Tryd.underlying22 (by kernel_rfl) (m := t.vals.length) (by simp) (by simp) (fun w hS => hS.sl) (by intro u hu; obtain ⟨_, _, rfl⟩ := List.mem_map.1 hu; rfl) (by simp) (ys := strs t.vals) (by simp)) ?_
          intro _
          refine WL.nt ?_
          refine WC.seq ?_
          refine WC.sr ?_
          (refine WL.r rfl rfl rfl (rd_fa (q := 2) rfl rfl Tryd.underlying24 rfl (by kernel_rfl) rfl) ?_)
          (refine WL.r rfl rfl rfl (ld rfl rfl .tc Tryd.underlying3 rfl (by rfl)) ?_)
          (refine WL.r rfl rfl rfl (rd_fa (q := 0) rfl rfl Tryd.underlying24 rfl (by kernel_rfl) rfl) ?_)
          (refine WL.r rfl rfl rfl (ld rfl rfl .tc Tryd.underlying22 rfl (by rfl)) ?_)
          refine WL.r rfl rfl rfl (rd_len rfl rfl Tryd.underlying22) ?_
          refine WL.r rfl rfl rfl (rd_lss rfl rfl rfl) ?_
          refine WL.nt ?_
          refine WC.cond rfl (fun hc65 => ?_) (fun hc65 => ?_)
          · (try simp only [sB] at hc65)
            refine WC.seq ?_
            refine WC.free0 [0, 1, 2, 3, 4, 5, 6, 7] [8, 9] [0, 0, 0, 0, 0, 0, 0, 0, 2, 2] (by kernel_rfl) (by kernel_rfl) rfl ?_
            (refine WJ.r rfl rfl rfl rfl rfl (rd_fa (q := 0) rfl rfl Tryd.underlying24 rfl (by kernel_rfl) rfl) ?_)
            (refine WJ.r rfl rfl rfl rfl rfl (ld rfl rfl .tc Tryd.underlying22 rfl (by rfl)) ?_)
            (refine WJ.r rfl rfl rfl rfl rfl (rd_fa (q := 2) rfl rfl Tryd.underlying24 rfl (by kernel_rfl) rfl) ?_)
            (refine WJ.r rfl rfl rfl rfl rfl (ld rfl rfl .tc Tryd.underlying3 rfl (by rfl)) ?_)
            (refine WJ.r rfl rfl rfl rfl rfl (iaf rfl rfl rfl Tryd.underlying22 (by kernel_rfl : _ = some 1) ?_ ?_ (by (try simp only [sN, Int.reduceToNat, Nat.reduceAdd, Nat.reduceMul, Nat.reduceSub]); rfl)) ?_; (focus (omega)); (focus ((rw [List.length_map]; omega))))
            (refine WJ.r rfl rfl rfl rfl rfl (ldm rfl rfl Tryd.underlying33 rfl ?_) ?_; (focus (omega)))
            refine WJ.r rfl rfl rfl rfl rfl (lda rfl rfl .tc Tryd.underlying24 rfl ?_) ?_
            · kernel_rfl
            refine WJ.r rfl rfl rfl rfl rfl (rd_assign rfl rfl) ?_
            refine WJ.nil ?_
            refine WL.g0 rfl rfl (sta rfl rfl rfl .tc ?_ ?_ ?_) ?_
            · kernel_rfl
            · simp [Value.oneCell']
            · rfl
            intro _
            refine WL.r rfl rfl rfl (rd_assign rfl rfl) ?_
            refine WL.nt ?_
            refine WC.ret ?_
            refine WX.then_ret ?_
            (exact WX.retN rfl (.tmp rfl (.agg rfl .tc Tryd.underlying24 rfl (by kernel_rfl) (.tmp rfl .nil))) fun w' hS => drawN (q := ⟨some b48, t.vals.length, []⟩) (by rw [drawS, if_pos (by omega), if_neg (by omega)]) rfl hS (by simp [Rs.ent]))
          · (try simp only [sB] at hc65)
            have h27 : ¬ t.at_ < t.vals.length := by omega
            have h52 : ¬ (t.seed = [] ∨ t.at_ = 2147483647) := by (exfalso; omega)
            refine WC.skip ?_
            refine WX.then_normal ?_
            refine WC.seq ?_
            refine WC.sr ?_
            refine WL.r rfl rfl rfl (rd_move rfl rfl) ?_
            refine WL.nt ?_
            refine WC.block ?_
            refine WC.loopP (σ := Nat) [(1, _), (2, _), (5, _), (7, _)] (fun g => [(73, .int .i64 (g : Int))]) (fun g => g ≤ 256 ∧ findA t n (256 - g) g = findA t n 256 0) (fun g => 256 - g) (0) (sub_cons rfl (sub_cons rfl (sub_cons rfl (sub_cons rfl (sub_nil _))))) (sub_cons rfl (sub_nil _)) (by (try dsimp only); exact ⟨by omega, rfl⟩) ?_
            rintro k hinv1; (try dsimp only at hinv1 ⊢)
            obtain ⟨hk, hfi⟩ := hinv1
            refine WC.sr ?_
            refine WL.r rfl rfl rfl (rd_lss rfl rfl rfl) ?_
            refine WL.nt ?_
            refine WC.seq ?_
            refine WC.cond rfl (fun hc74 => ?_) (fun hc74 => ?_)
            · (try simp only [sB] at hc74)
              refine WC.skip ?_
              refine WX.then_normal ?_
              refine WC.seq ?_
              refine WC.block ?_
              refine WC.sr ?_
              refine WL.r rfl rfl rfl (rd_move rfl rfl) ?_
              refine WL.r rfl rfl rfl (rd_assign rfl rfl) ?_
              refine WL.nt ?_
              refine WC.seq ?_
              refine WC.free0 [2, 3, 0, 1, 4, 5] [] [0, 0, 0, 1, 1, 0] (by kernel_rfl) (by kernel_rfl) rfl ?_
              refine WJ.r rfl rfl rfl rfl rfl (rd_move rfl rfl) ?_
              refine WJ.gv rfl rfl rfl rfl rfl (fun ext => og_call rfl rfl (by kernel_rfl) (keep_val fun w hS => bits_c (a := n))) ?_
              refine WJ.set 79 rfl (v' := .int .i64 ((bitsN n : Nat) : Int)) (congrArg (Value.int .i64) (by rw [if_pos hn])) ?_
              refine WJ.r rfl rfl rfl rfl rfl (lda rfl rfl .tc Tryd.underlying24 rfl ?_) ?_
              · kernel_rfl
              refine WJ.set 76 rfl (v' := .agg #[.slice a t.vals.length cap, .string (S t.seed), .int .i64 ((t.at_.toNat : Nat) : Int)]) (by rw [Int.toNat_of_nonneg hg1]) ?_
              refine WJ.r rfl rfl rfl rfl rfl (rd_move rfl rfl) ?_
              refine WJ.gv rfl rfl rfl rfl rfl (fun ext => og_call rfl rfl (by kernel_rfl) (keep_val fun w hS => attempt_c (sd := t.seed) (at_ := t.at_.toNat) (aa := k) (nb := bitsN n) (by assumption) (by omega) (by omega) (by assumption) (by omega) (by (exact tab_st hT hS)))) ?_
              refine WJ.r rfl rfl rfl rfl rfl (rd_assign rfl rfl) ?_
              refine WJ.nil ?_
              refine WL.nt ?_
              refine WC.sr ?_
              refine WL.r rfl rfl rfl (rd_move rfl rfl) ?_
              refine WL.r rfl rfl rfl (rd_move rfl rfl) ?_
              refine WL.g rfl rfl rfl (og_call rfl rfl (by kernel_rfl) (keep_val fun w hS => Cmp_c (a := attS t.seed t.at_.toNat k (bitsN n)) (b := n))) ?_
              intro _
              refine WL.r rfl rfl rfl (rd_lss rfl rfl rfl) ?_
              refine WL.nt ?_
              refine WC.cond rfl (fun hc84 => ?_) (fun hc84 => ?_)
              · (try simp only [sB] at hc84)
                refine WC.seq ?_
                refine WC.free0 [0, 1, 2] [3, 4] [0, 0, 0, 2, 2] (by kernel_rfl) (by kernel_rfl) rfl ?_
                refine WJ.r rfl rfl rfl rfl rfl (rd_move rfl rfl) ?_
                refine WJ.r rfl rfl rfl rfl rfl (lda rfl rfl .tc Tryd.underlying24 rfl ?_) ?_
                · kernel_rfl
                refine WJ.r rfl rfl rfl rfl rfl (rd_assign rfl rfl) ?_
                refine WJ.nil ?_
                refine WL.g0 rfl rfl (sta rfl rfl rfl .tc ?_ ?_ ?_) ?_
                · kernel_rfl
                · simp [Value.oneCell']
                · rfl
                intro _
                refine WL.r rfl rfl rfl (rd_assign rfl rfl) ?_
                refine WL.nt ?_
                refine WC.ret ?_
                refine WX.block_ret ?_
                refine WX.then_ret ?_
                refine WX.then_ret ?_
                refine WX.block_ret ?_
                refine WX.then_ret ?_
                exact WX.retN rfl (.tmp rfl (.agg rfl .tc Tryd.underlying24 rfl (by kernel_rfl) (.tmp rfl .nil))) fun w' hS => drawN (q := ⟨some b48, t.vals.length, []⟩) (by rw [drawS, if_neg h27, if_neg h52, ← hfi, findA_hit (by omega) hc84]) rfl hS (by simp [Rs.ent])
              · (try simp only [sB] at hc84)
                refine WC.skip ?_
                refine WX.block_normal ?_
                refine WX.then_normal ?_
                refine WC.region ?_
                (refine WL.r rfl rfl rfl (rd_add64nl rfl rfl rfl ?_) ?_; (focus (omega)))
                refine WL.r rfl rfl rfl (rd_move rfl rfl) ?_
                refine WL.nil ?_
                refine WX.loopP (k + 1) (by (try dsimp only); omega) (sub_cons rfl (sub_cons rfl (sub_cons rfl (sub_cons rfl (sub_nil _))))) (by refine (sub_cons ?_ (sub_nil _)) <;> (rfl)) ?_ (by (exact fun _ h => h))
                (try dsimp only)
                exact ⟨by omega, by rw [← findA_miss (by omega) (by omega)]; exact hfi⟩
            · (try simp only [sB] at hc74)
              refine WC.exit ?_
              refine WX.then_exit ?_
              refine WX.then_exit ?_
              refine WX.block_exit ?_
              obtain rfl : k = 256 := by omega
              refine WX.then_normal ?_
              refine WC.sr ?_
              refine WL.r rfl rfl rfl (rd_bld [[.slice none 0 0], [.string (S [])], [.int .i64 0]] rfl rfl (by simp only [bld, fldv, Nat.beq, Value.cells, cond_true, cond_false, List.nil_append, List.cons_append, List.append_nil]; rfl) (fun w => by kernel_rfl)) ?_
              refine WL.r rfl rfl rfl (rd_assign rfl rfl) ?_
              refine WL.g0 rfl rfl (sta rfl rfl rfl .tc ?_ ?_ ?_) ?_
              · kernel_rfl
              · simp [Value.oneCell']
              · rfl
              intro _
              refine WL.r rfl rfl rfl (rd_assign rfl rfl) ?_
              refine WL.nt ?_
              refine WC.ret ?_
              exact WX.retN rfl (.tmp rfl (.agg rfl .tc Tryd.underlying24 rfl (by kernel_rfl) (.tmp rfl .nil))) fun w' hS => draw0 (by rw [drawS, if_neg h27, if_neg h52, ← hfi]; rfl) hS
  · (try simp only [sB] at hg16)
    refine WL.s rfl rfl rfl ?_
    refine WL.s rfl rfl rfl ?_
    refine WL.s rfl rfl rfl ?_
    refine WL.s rfl rfl rfl ?_
    refine WL.s rfl rfl rfl ?_
    refine WL.s rfl rfl rfl ?_
    refine WL.s rfl rfl rfl ?_
    refine WL.s rfl rfl rfl ?_
    refine WL.s rfl rfl rfl ?_
    refine WL.r rfl rfl rfl (rd_pickf rfl rfl rfl) ?_
    refine WL.nt ?_
    refine WC.cond rfl (fun h => by cases h) (fun _ => ?_)
    refine WC.skip ?_
    refine WX.then_normal ?_
    refine WC.seq ?_
    refine WC.sr ?_
    (refine WL.r rfl rfl rfl (rd_fa (q := 2) rfl rfl Tryd.underlying24 rfl (by kernel_rfl) rfl) ?_)
    (refine WL.r rfl rfl rfl (ld rfl rfl .tc Tryd.underlying3 rfl (by rfl)) ?_)
    (refine WL.r rfl rfl rfl (rd_fa (q := 0) rfl rfl Tryd.underlying24 rfl (by kernel_rfl) rfl) ?_)
    (refine WL.r rfl rfl rfl (ld rfl rfl .tc Tryd.underlying22 rfl (by rfl)) ?_)
    refine WL.r rfl rfl rfl (rd_len rfl rfl Tryd.underlying22) ?_
    refine WL.r rfl rfl rfl (rd_geq rfl rfl rfl) ?_
    refine WL.r rfl rfl rfl (rd_move rfl rfl) ?_
    refine WL.bool 34 rfl (fun hg34 => ?_) (fun hg34 => ?_)
    · (try simp only [sB] at hg34)
      (refine WL.r rfl rfl rfl (rd_fa (q := 1) rfl rfl Tryd.underlying24 rfl (by kernel_rfl) rfl) ?_)
      (refine WL.r rfl rfl rfl (ld rfl rfl .tc Tryd.underlying9 rfl (by rfl)) ?_)
      refine WL.r rfl rfl rfl (rd_seq rfl rfl rfl) ?_
      refine WL.r rfl rfl rfl (rd_pickt rfl rfl rfl) ?_
      refine WL.r rfl rfl rfl (rd_move rfl rfl) ?_
      refine WL.bool 39 rfl (fun hg39 => ?_) (fun hg39 => ?_)
      · (try simp only [sB] at hg39)
        refine WL.s rfl rfl rfl ?_
        refine WL.s rfl rfl rfl ?_
        refine WL.s rfl rfl rfl ?_
        refine WL.r rfl rfl rfl (rd_pickt rfl rfl rfl) ?_
        refine WL.nt ?_
        refine WC.cond rfl (fun _ => ?_) (fun h => by cases h)
        refine WC.sr ?_
        refine WL.r rfl rfl rfl (rd_bld [[.slice none 0 0], [.string (S [])], [.int .i64 0]] rfl rfl (by simp only [bld, fldv, Nat.beq, Value.cells, cond_true, cond_false, List.nil_append, List.cons_append, List.append_nil]; rfl) (fun w => by kernel_rfl)) ?_
        refine WL.r rfl rfl rfl (rd_assign rfl rfl) ?_
        refine WL.g0 rfl rfl (sta rfl rfl rfl .tc ?_ ?_ ?_) ?_
        · kernel_rfl
        · simp [Value.oneCell']
        · rfl
        intro _
        refine WL.r rfl rfl rfl (rd_assign rfl rfl) ?_
        refine WL.nt ?_
        refine WC.ret ?_
        refine WX.then_ret ?_
        (exact WX.retN rfl (.tmp rfl (.agg rfl .tc Tryd.underlying24 rfl (by kernel_rfl) (.tmp rfl .nil))) fun w' hS => draw0 (by rw [drawS, if_neg (by omega), if_pos (by (left; assumption))]) hS)
      · (try simp only [sB] at hg39)
        (refine WL.r rfl rfl rfl (rd_fa (q := 2) rfl rfl Tryd.underlying24 rfl (by kernel_rfl) rfl) ?_)
        (refine WL.r rfl rfl rfl (ld rfl rfl .tc Tryd.underlying3 rfl (by rfl)) ?_)
        refine WL.r rfl rfl rfl (rd_eql rfl rfl rfl) ?_
        refine WL.r rfl rfl rfl (rd_pickf rfl rfl rfl) ?_
        refine WL.nt ?_
        refine WC.cond rfl (fun hc43 => ?_) (fun hc43 => ?_)
        · (try simp only [sB] at hc43)
          refine WC.sr ?_
          refine WL.r rfl rfl rfl (rd_bld [[.slice none 0 0], [.string (S [])], [.int .i64 0]] rfl rfl (by simp only [bld, fldv, Nat.beq, Value.cells, cond_true, cond_false, List.nil_append, List.cons_append, List.append_nil]; rfl) (fun w => by kernel_rfl)) ?_
          refine WL.r rfl rfl rfl (rd_assign rfl rfl) ?_
          refine WL.g0 rfl rfl (sta rfl rfl rfl .tc ?_ ?_ ?_) ?_
          · kernel_rfl
          · simp [Value.oneCell']
          · rfl
          intro _
          refine WL.r rfl rfl rfl (rd_assign rfl rfl) ?_
          refine WL.nt ?_
          refine WC.ret ?_
          refine WX.then_ret ?_
          (exact WX.retN rfl (.tmp rfl (.agg rfl .tc Tryd.underlying24 rfl (by kernel_rfl) (.tmp rfl .nil))) fun w' hS => draw0 (by rw [drawS, if_neg (by omega), if_pos (by (right; omega))]) hS)
        · (try simp only [sB] at hc43)
          refine WC.skip ?_
          refine WX.then_normal ?_
          refine WC.seq ?_
          refine WC.free0 [0, 1, 2, 3, 4, 5, 6, 7, 8, 9, 10] [11] [0, 0, 0, 3, 0, 0, 0, 0, 0, 0, 3, 2] (by kernel_rfl) (by kernel_rfl) rfl ?_
          (refine WJ.r rfl rfl rfl rfl rfl (rd_fa (q := 0) rfl rfl Tryd.underlying24 rfl (by kernel_rfl) rfl) ?_)
          (refine WJ.r rfl rfl rfl rfl rfl (ld rfl rfl .tc Tryd.underlying22 rfl (by rfl)) ?_)
          refine WJ.r rfl rfl rfl rfl rfl (rd_len rfl rfl Tryd.underlying22) ?_
          refine WJ.f rfl rfl rfl rfl rfl (fr_mk rfl rfl rfl Tryd.underlying22 (by kernel_rfl : _ = some (some (.string (S [])), 1, 16)) rfl ?_ (by (try simp only [sN, Int.reduceToNat, Nat.reduceAdd, Nat.reduceMul, Nat.reduceSub]); rfl) (by (try simp only [sN, Int.reduceToNat, Nat.reduceAdd, Nat.reduceMul, Nat.reduceSub]); rfl)) ?_
          · omega
          intro b48
          (refine WJ.r rfl rfl rfl rfl rfl (rd_fa (q := 1) rfl rfl Tryd.underlying24 rfl (by kernel_rfl) rfl) ?_)
          (refine WJ.r rfl rfl rfl rfl rfl (ld rfl rfl .tc Tryd.underlying9 rfl (by rfl)) ?_)
          (refine WJ.r rfl rfl rfl rfl rfl (rd_fa (q := 2) rfl rfl Tryd.underlying24 rfl (by kernel_rfl) rfl) ?_)
          (refine WJ.r rfl rfl rfl rfl rfl (ld rfl rfl .tc Tryd.underlying3 rfl (by rfl)) ?_)
          (refine WJ.r rfl rfl rfl rfl rfl (rd_add64 rfl rfl rfl ?_) ?_; (focus (omega)))
          refine WJ.r rfl rfl rfl rfl rfl (rd_bld [[.slice none 0 0], [.string (S [])], [.int .i64 0]] rfl rfl (by simp only [bld, fldv, Nat.beq, Value.cells, cond_true, cond_false, List.nil_append, List.cons_append, List.append_nil]; rfl) (fun w => by kernel_rfl)) ?_
          refine WJ.f rfl rfl rfl rfl rfl (fr_alloc rfl (v := (.agg #[.slice none 0 0, .string (S []), .int .i64 0])) (cs := [.slice none 0 0, .string (S []), .int .i64 0]) (by kernel_rfl) rfl) ?_
          intro b7
          refine WJ.nil ?_
          refine WL.g0 rfl rfl (sta rfl rfl rfl .tc ?_ ?_ ?_) ?_
          · kernel_rfl
          · simp [Value.oneCell']
          · rfl
          intro _
          refine WL.nt ?_
          refine WC.sr ?_
          (refine WL.r rfl rfl rfl (rd_fa (q := 0) rfl rfl Tryd.underlying24 rfl (by kernel_rfl) rfl) ?_)
          (refine WL.r rfl rfl rfl (ld rfl rfl .tc Tryd.underlying22 rfl (by rfl)) ?_)
          (refine WL.r rfl rfl rfl (rd_fa (q := 0) rfl rfl Tryd.underlying24 rfl (by kernel_rfl) rfl) ?_)
          (refine WL.r rfl rfl rfl (ld rfl rfl .tc Tryd.underlying22 rfl (by rfl)) ?_)
          refine WL.g rfl rfl rfl (cpyl rfl rfl rfl .tc Tryd.underlying22 (by kernel_rfl) (m := t.vals.length) (by simp) (by simp) (fun w hS => hS.sl) (by intro u hu; obtain ⟨_, _, rfl⟩ := List.mem_map.1 hu; rfl) (by simp) (ys := strs t.vals) (by simp)) ?_
          intro _
          refine WL.nt ?_
          refine WC.seq ?_
          refine WC.sr ?_
          (refine WL.r rfl rfl rfl (rd_fa (q := 2) rfl rfl Tryd.underlying24 rfl (by kernel_rfl) rfl) ?_)
          (refine WL.r rfl rfl rfl (ld rfl rfl .tc Tryd.underlying3 rfl (by rfl)) ?_)
          (refine WL.r rfl rfl rfl (rd_fa (q := 0) rfl rfl Tryd.underlying24 rfl (by kernel_rfl) rfl) ?_)
          (refine WL.r rfl rfl rfl (ld rfl rfl .tc Tryd.underlying22 rfl (by rfl)) ?_)
          refine WL.r rfl rfl rfl (rd_len rfl rfl Tryd.underlying22) ?_
          refine WL.r rfl rfl rfl (rd_lss rfl rfl rfl) ?_
          refine WL.nt ?_
          refine WC.cond rfl (fun hc65 => ?_) (fun hc65 => ?_)
          · (try simp only [sB] at hc65)
            refine WC.seq ?_
            refine WC.free0 [0, 1, 2, 3, 4, 5, 6, 7] [8, 9] [0, 0, 0, 0, 0, 0, 0, 0, 2, 2] (by kernel_rfl) (by kernel_rfl) rfl ?_
            (refine WJ.r rfl rfl rfl rfl rfl (rd_fa (q := 0) rfl rfl Tryd.underlying24 rfl (by kernel_rfl) rfl) ?_)
            (refine WJ.r rfl rfl rfl rfl rfl (ld rfl rfl .tc Tryd.underlying22 rfl (by rfl)) ?_)
            (refine WJ.r rfl rfl rfl rfl rfl (rd_fa (q := 2) rfl rfl Tryd.underlying24 rfl (by kernel_rfl) rfl) ?_)
            (refine WJ.r rfl rfl rfl rfl rfl (ld rfl rfl .tc Tryd.underlying3 rfl (by rfl)) ?_)
            (refine WJ.r rfl rfl rfl rfl rfl (iaf rfl rfl rfl Tryd.underlying22 (by kernel_rfl : _ = some 1) ?_ ?_ (by (try simp only [sN, Int.reduceToNat, Nat.reduceAdd, Nat.reduceMul, Nat.reduceSub]); rfl)) ?_; (focus (omega)); (focus ((rw [List.length_map]; omega))))
            (refine WJ.r rfl rfl rfl rfl rfl (ldm rfl rfl Tryd.underlying33 rfl ?_) ?_; (focus (omega)))
            refine WJ.r rfl rfl rfl rfl rfl (lda rfl rfl .tc Tryd.underlying24 rfl ?_) ?_
            · kernel_rfl
            refine WJ.r rfl rfl rfl rfl rfl (rd_assign rfl rfl) ?_
            refine WJ.nil ?_
            refine WL.g0 rfl rfl (sta rfl rfl rfl .tc ?_ ?_ ?_) ?_
            · kernel_rfl
            · simp [Value.oneCell']
            · rfl
            intro _
            refine WL.r rfl rfl rfl (rd_assign rfl rfl) ?_
            refine WL.nt ?_
            refine WC.ret ?_
            refine WX.then_ret ?_
            (exfalso; omega)
          · (try simp only [sB] at hc65)
            have h27 : ¬ t.at_ < t.vals.length := by omega
            have h52 : ¬ (t.seed = [] ∨ t.at_ = 2147483647) := by (rintro (h | h) <;> contradiction)
            refine WC.skip ?_
            refine WX.then_normal ?_
            refine WC.seq ?_
            refine WC.sr ?_
            refine WL.r rfl rfl rfl (rd_move rfl rfl) ?_
            refine WL.nt ?_
            refine WC.block ?_
            refine WC.loopP (σ := Nat) [(1, _), (2, _), (5, _), (7, _)] (fun g => [(73, .int .i64 (g : Int))]) (fun g => g ≤ 256 ∧ findA t n (256 - g) g = findA t n 256 0) (fun g => 256 - g) (0) (sub_cons rfl (sub_cons rfl (sub_cons rfl (sub_cons rfl (sub_nil _))))) (sub_cons rfl (sub_nil _)) (by (try dsimp only); exact ⟨by omega, rfl⟩) ?_
            rintro k hinv1; (try dsimp only at hinv1 ⊢)
            obtain ⟨hk, hfi⟩ := hinv1
            refine WC.sr ?_
            refine WL.r rfl rfl rfl (rd_lss rfl rfl rfl) ?_
            refine WL.nt ?_
            refine WC.seq ?_
            refine WC.cond rfl (fun hc74 => ?_) (fun hc74 => ?_)
            · (try simp only [sB] at hc74)
              refine WC.skip ?_
              refine WX.then_normal ?_
              refine WC.seq ?_
              refine WC.block ?_
              refine WC.sr ?_
              refine WL.r rfl rfl rfl (rd_move rfl rfl) ?_
              refine WL.r rfl rfl rfl (rd_assign rfl rfl) ?_
              refine WL.nt ?_
              refine WC.seq ?_
              refine WC.free0 [2, 3, 0, 1, 4, 5] [] [0, 0, 0, 1, 1, 0] (by kernel_rfl) (by kernel_rfl) rfl ?_
              refine WJ.r rfl rfl rfl rfl rfl (rd_move rfl rfl) ?_
              refine WJ.gv rfl rfl rfl rfl rfl (fun ext => og_call rfl rfl (by kernel_rfl) (keep_val fun w hS => bits_c (a := n))) ?_
              refine WJ.set 79 rfl (v' := .int .i64 ((bitsN n : Nat) : Int)) (congrArg (Value.int .i64) (by rw [if_pos hn])) ?_
              refine WJ.r rfl rfl rfl rfl rfl (lda rfl rfl .tc Tryd.underlying24 rfl ?_) ?_
              · kernel_rfl
              refine WJ.set 76 rfl (v' := .agg #[.slice a t.vals.length cap, .string (S t.seed), .int .i64 ((t.at_.toNat : Nat) : Int)]) (by rw [Int.toNat_of_nonneg hg1]) ?_
              refine WJ.r rfl rfl rfl rfl rfl (rd_move rfl rfl) ?_
              refine WJ.gv rfl rfl rfl rfl rfl (fun ext => og_call rfl rfl (by kernel_rfl) (keep_val fun w hS => attempt_c (sd := t.seed) (at_ := t.at_.toNat) (aa := k) (nb := bitsN n) (by assumption) (by omega) (by omega) (by assumption) (by omega) (by (exact tab_st hT hS)))) ?_
              refine WJ.r rfl rfl rfl rfl rfl (rd_assign rfl rfl) ?_
              refine WJ.nil ?_
              refine WL.nt ?_
              refine WC.sr ?_
              refine WL.r rfl rfl rfl (rd_move rfl rfl) ?_
              refine WL.r rfl rfl rfl (rd_move rfl rfl) ?_
              refine WL.g rfl rfl rfl (og_call rfl rfl (by kernel_rfl) (keep_val fun w hS => Cmp_c (a := attS t.seed t.at_.toNat k (bitsN n)) (b := n))) ?_
              intro _
              refine WL.r rfl rfl rfl (rd_lss rfl rfl rfl) ?_
              refine WL.nt ?_
              refine WC.cond rfl (fun hc84 => ?_) (fun hc84 => ?_)
              · (try simp only [sB] at hc84)
                refine WC.seq ?_
                refine WC.free0 [0, 1, 2] [3, 4] [0, 0, 0, 2, 2] (by kernel_rfl) (by kernel_rfl) rfl ?_
                refine WJ.r rfl rfl rfl rfl rfl (rd_move rfl rfl) ?_
                refine WJ.r rfl rfl rfl rfl rfl (lda rfl rfl .tc Tryd.underlying24 rfl ?_) ?_
                · kernel_rfl
                refine WJ.r rfl rfl rfl rfl rfl (rd_assign rfl rfl) ?_
                refine WJ.nil ?_
                refine WL.g0 rfl rfl (sta rfl rfl rfl .tc ?_ ?_ ?_) ?_
                · kernel_rfl
                · simp [Value.oneCell']
                · rfl
                intro _
                refine WL.r rfl rfl rfl (rd_assign rfl rfl) ?_
                refine WL.nt ?_
                refine WC.ret ?_
                refine WX.block_ret ?_
                refine WX.then_ret ?_
                refine WX.then_ret ?_
                refine WX.block_ret ?_
                refine WX.then_ret ?_
                exact WX.retN rfl (.tmp rfl (.agg rfl .tc Tryd.underlying24 rfl (by kernel_rfl) (.tmp rfl .nil))) fun w' hS => drawN (q := ⟨some b48, t.vals.length, []⟩) (by rw [drawS, if_neg h27, if_neg h52, ← hfi, findA_hit (by omega) hc84]) rfl hS (by simp [Rs.ent])
              · (try simp only [sB] at hc84)
                refine WC.skip ?_
                refine WX.block_normal ?_
                refine WX.then_normal ?_
                refine WC.region ?_
                (refine WL.r rfl rfl rfl (rd_add64nl rfl rfl rfl ?_) ?_; (focus (omega)))
                refine WL.r rfl rfl rfl (rd_move rfl rfl) ?_
                refine WL.nil ?_
                refine WX.loopP (k + 1) (by (try dsimp only); omega) (sub_cons rfl (sub_cons rfl (sub_cons rfl (sub_cons rfl (sub_nil _))))) (by refine (sub_cons ?_ (sub_nil _)) <;> (rfl)) ?_ (by (exact fun _ h => h))
                (try dsimp only)
                exact ⟨by omega, by rw [← findA_miss (by omega) (by omega)]; exact hfi⟩
            · (try simp only [sB] at hc74)
              refine WC.exit ?_
              refine WX.then_exit ?_
              refine WX.then_exit ?_
              refine WX.block_exit ?_
              obtain rfl : k = 256 := by omega
              refine WX.then_normal ?_
              refine WC.sr ?_
              refine WL.r rfl rfl rfl (rd_bld [[.slice none 0 0], [.string (S [])], [.int .i64 0]] rfl rfl (by simp only [bld, fldv, Nat.beq, Value.cells, cond_true, cond_false, List.nil_append, List.cons_append, List.append_nil]; rfl) (fun w => by kernel_rfl)) ?_
              refine WL.r rfl rfl rfl (rd_assign rfl rfl) ?_
              refine WL.g0 rfl rfl (sta rfl rfl rfl .tc ?_ ?_ ?_) ?_
              · kernel_rfl
              · simp [Value.oneCell']
              · rfl
              intro _
              refine WL.r rfl rfl rfl (rd_assign rfl rfl) ?_
              refine WL.nt ?_
              refine WC.ret ?_
              exact WX.retN rfl (.tmp rfl (.agg rfl .tc Tryd.underlying24 rfl (by kernel_rfl) (.tmp rfl .nil))) fun w' hS => draw0 (by rw [drawS, if_neg h27, if_neg h52, ← hfi]; rfl) hS
    · (try simp only [sB] at hg34)
      refine WL.s rfl rfl rfl ?_
      refine WL.s rfl rfl rfl ?_
      refine WL.s rfl rfl rfl ?_
      refine WL.r rfl rfl rfl (rd_pickf rfl rfl rfl) ?_
      refine WL.r rfl rfl rfl (rd_move rfl rfl) ?_
      (refine WL.r rfl rfl rfl (rd_fa (q := 2) rfl rfl Tryd.underlying24 rfl (by kernel_rfl) rfl) ?_)
      (refine WL.r rfl rfl rfl (ld rfl rfl .tc Tryd.underlying3 rfl (by rfl)) ?_)
      refine WL.r rfl rfl rfl (rd_eql rfl rfl rfl) ?_
      refine WL.r rfl rfl rfl (rd_pickf rfl rfl rfl) ?_
      refine WL.nt ?_
      refine WC.cond rfl (fun hc43 => ?_) (fun hc43 => ?_)
      · (try simp only [sB] at hc43)
        refine WC.sr ?_
        refine WL.r rfl rfl rfl (rd_bld [[.slice none 0 0], [.string (S [])], [.int .i64 0]] rfl rfl (by simp only [bld, fldv, Nat.beq, Value.cells, cond_true, cond_false, List.nil_append, List.cons_append, List.append_nil]; rfl) (fun w => by kernel_rfl)) ?_
        refine WL.r rfl rfl rfl (rd_assign rfl rfl) ?_
        refine WL.g0 rfl rfl (sta rfl rfl rfl .tc ?_ ?_ ?_) ?_
        · kernel_rfl
        · simp [Value.oneCell']
        · rfl
        intro _
        refine WL.r rfl rfl rfl (rd_assign rfl rfl) ?_
        refine WL.nt ?_
        refine WC.ret ?_
        refine WX.then_ret ?_
        (exfalso; omega)
      · (try simp only [sB] at hc43)
        refine WC.skip ?_
        refine WX.then_normal ?_
        refine WC.seq ?_
        refine WC.free0 [0, 1, 2, 3, 4, 5, 6, 7, 8, 9, 10] [11] [0, 0, 0, 3, 0, 0, 0, 0, 0, 0, 3, 2] (by kernel_rfl) (by kernel_rfl) rfl ?_
        (refine WJ.r rfl rfl rfl rfl rfl (rd_fa (q := 0) rfl rfl Tryd.underlying24 rfl (by kernel_rfl) rfl) ?_)
        (refine WJ.r rfl rfl rfl rfl rfl (ld rfl rfl .tc Tryd.underlying22 rfl (by rfl)) ?_)
        refine WJ.r rfl rfl rfl rfl rfl (rd_len rfl rfl Tryd.underlying22) ?_
        refine WJ.f rfl rfl rfl rfl rfl (fr_mk rfl rfl rfl Tryd.underlying22 (by kernel_rfl : _ = some (some (.string (S [])), 1, 16)) rfl ?_ (by (try simp only [sN, Int.reduceToNat, Nat.reduceAdd, Nat.reduceMul, Nat.reduceSub]); rfl) (by (try simp only [sN, Int.reduceToNat, Nat.reduceAdd, Nat.reduceMul, Nat.reduceSub]); rfl)) ?_
        · omega
        intro b48
        (refine WJ.r rfl rfl rfl rfl rfl (rd_fa (q := 1) rfl rfl Tryd.underlying24 rfl (by kernel_rfl) rfl) ?_)
        (refine WJ.r rfl rfl rfl rfl rfl (ld rfl rfl .tc Tryd.underlying9 rfl (by rfl)) ?_)
        (refine WJ.r rfl rfl rfl rfl rfl (rd_fa (q := 2) rfl rfl Tryd.underlying24 rfl (by kernel_rfl) rfl) ?_)
        (refine WJ.r rfl rfl rfl rfl rfl (ld rfl rfl .tc Tryd.underlying3 rfl (by rfl)) ?_)
        (refine WJ.r rfl rfl rfl rfl rfl (rd_add64 rfl rfl rfl ?_) ?_; (focus (omega)))
        refine WJ.r rfl rfl rfl rfl rfl (rd_bld [[.slice none 0 0], [.string (S [])], [.int .i64 0]] rfl rfl (by simp only [bld, fldv, Nat.beq, Value.cells, cond_true, cond_false, List.nil_append, List.cons_append, List.append_nil]; rfl) (fun w => by kernel_rfl)) ?_
        refine WJ.f rfl rfl rfl rfl rfl (fr_alloc rfl (v := (.agg #[.slice none 0 0, .string (S []), .int .i64 0])) (cs := [.slice none 0 0, .string (S []), .int .i64 0]) (by kernel_rfl) rfl) ?_
        intro b7
        refine WJ.nil ?_
        refine WL.g0 rfl rfl (sta rfl rfl rfl .tc ?_ ?_ ?_) ?_
        · kernel_rfl
        · simp [Value.oneCell']
        · rfl
        intro _
        refine WL.nt ?_
        refine WC.sr ?_
        (refine WL.r rfl rfl rfl (rd_fa (q := 0) rfl rfl Tryd.underlying24 rfl (by kernel_rfl) rfl) ?_)
        (refine WL.r rfl rfl rfl (ld rfl rfl .tc Tryd.underlying22 rfl (by rfl)) ?_)
        (refine WL.r rfl rfl rfl (rd_fa (q := 0) rfl rfl Tryd.underlying24 rfl (by kernel_rfl) rfl) ?_)
        (refine WL.r rfl rfl rfl (ld rfl rfl .tc Tryd.underlying22 rfl (by rfl)) ?_)
        refine WL.g rfl rfl rfl (cpyl rfl rfl rfl .tc Tryd.underlying22 (by kernel_rfl) (m := t.vals.length) (by simp) (by simp) (fun w hS => hS.sl) (by intro u hu; obtain ⟨_, _, rfl⟩ := List.mem_map.1 hu; rfl) (by simp) (ys := strs t.vals) (by simp)) ?_
        intro _
        refine WL.nt ?_
        refine WC.seq ?_
        refine WC.sr ?_
        (refine WL.r rfl rfl rfl (rd_fa (q := 2) rfl rfl Tryd.underlying24 rfl (by kernel_rfl) rfl) ?_)
        (refine WL.r rfl rfl rfl (ld rfl rfl .tc Tryd.underlying3 rfl (by rfl)) ?_)
        (refine WL.r rfl rfl rfl (rd_fa (q := 0) rfl rfl Tryd.underlying24 rfl (by kernel_rfl) rfl) ?_)
        (refine WL.r rfl rfl rfl (ld rfl rfl .tc Tryd.underlying22 rfl (by rfl)) ?_)
        refine WL.r rfl rfl rfl (rd_len rfl rfl Tryd.underlying22) ?_
        refine WL.r rfl rfl rfl (rd_lss rfl rfl rfl) ?_
        refine WL.nt ?_
        refine WC.cond rfl (fun hc65 => ?_) (fun hc65 => ?_)
        · (try simp only [sB] at hc65)
          refine WC.seq ?_
          refine WC.free0 [0, 1, 2, 3, 4, 5, 6, 7] [8, 9] [0, 0, 0, 0, 0, 0, 0, 0, 2, 2] (by kernel_rfl) (by kernel_rfl) rfl ?_
          (refine WJ.r rfl rfl rfl rfl rfl (rd_fa (q := 0) rfl rfl Tryd.underlying24 rfl (by kernel_rfl) rfl) ?_)
          (refine WJ.r rfl rfl rfl rfl rfl (ld rfl rfl .tc Tryd.underlying22 rfl (by rfl)) ?_)
          (refine WJ.r rfl rfl rfl rfl rfl (rd_fa (q := 2) rfl rfl Tryd.underlying24 rfl (by kernel_rfl) rfl) ?_)
          (refine WJ.r rfl rfl rfl rfl rfl (ld rfl rfl .tc Tryd.underlying3 rfl (by rfl)) ?_)
          (refine WJ.r rfl rfl rfl rfl rfl (iaf rfl rfl rfl Tryd.underlying22 (by kernel_rfl : _ = some 1) ?_ ?_ (by (try simp only [sN, Int.reduceToNat, Nat.reduceAdd, Nat.reduceMul, Nat.reduceSub]); rfl)) ?_; (focus (omega)); (focus ((rw [List.length_map]; omega))))
          (refine WJ.r rfl rfl rfl rfl rfl (ldm rfl rfl Tryd.underlying33 rfl ?_) ?_; (focus (omega)))
          refine WJ.r rfl rfl rfl rfl rfl (lda rfl rfl .tc Tryd.underlying24 rfl ?_) ?_
          · kernel_rfl
          refine WJ.r rfl rfl rfl rfl rfl (rd_assign rfl rfl) ?_
          refine WJ.nil ?_
          refine WL.g0 rfl rfl (sta rfl rfl rfl .tc ?_ ?_ ?_) ?_
          · kernel_rfl
          · simp [Value.oneCell']
          · rfl
          intro _
          refine WL.r rfl rfl rfl (rd_assign rfl rfl) ?_
          refine WL.nt ?_
          refine WC.ret ?_
          refine WX.then_ret ?_
          (exfalso; omega)
        · (try simp only [sB] at hc65)
          have h27 : ¬ t.at_ < t.vals.length := by omega
          have h52 : ¬ (t.seed = [] ∨ t.at_ = 2147483647) := by (exfalso; omega)
          refine WC.skip ?_
          refine WX.then_normal ?_
          refine WC.seq ?_
          refine WC.sr ?_
          refine WL.r rfl rfl rfl (rd_move rfl rfl) ?_
          refine WL.nt ?_
          refine WC.block ?_
          refine WC.loopP (σ := Nat) [(1, _), (2, _), (5, _), (7, _)] (fun g => [(73, .int .i64 (g : Int))]) (fun g => g ≤ 256 ∧ findA t n (256 - g) g = findA t n 256 0) (fun g => 256 - g) (0) (sub_cons rfl (sub_cons rfl (sub_cons rfl (sub_cons rfl (sub_nil _))))) (sub_cons rfl (sub_nil _)) (by (try dsimp only); exact ⟨by omega, rfl⟩) ?_
          rintro k hinv1; (try dsimp only at hinv1 ⊢)
          obtain ⟨hk, hfi⟩ := hinv1
          refine WC.sr ?_
          refine WL.r rfl rfl rfl (rd_lss rfl rfl rfl) ?_
          refine WL.nt ?_
          refine WC.seq ?_
          refine WC.cond rfl (fun hc74 => ?_) (fun hc74 => ?_)
          · (try simp only [sB] at hc74)
            refine WC.skip ?_
            refine WX.then_normal ?_
            refine WC.seq ?_
            refine WC.block ?_
            refine WC.sr ?_
            refine WL.r rfl rfl rfl (rd_move rfl rfl) ?_
            refine WL.r rfl rfl rfl (rd_assign rfl rfl) ?_
            refine WL.nt ?_
            refine WC.seq ?_
            refine WC.free0 [2, 3, 0, 1, 4, 5] [] [0, 0, 0, 1, 1, 0] (by kernel_rfl) (by kernel_rfl) rfl ?_
            refine WJ.r rfl rfl rfl rfl rfl (rd_move rfl rfl) ?_
            refine WJ.gv rfl rfl rfl rfl rfl (fun ext => og_call rfl rfl (by kernel_rfl) (keep_val fun w hS => bits_c (a := n))) ?_
            refine WJ.set 79 rfl (v' := .int .i64 ((bitsN n : Nat) : Int)) (congrArg (Value.int .i64) (by rw [if_pos hn])) ?_
            refine WJ.r rfl rfl rfl rfl rfl (lda rfl rfl .tc Tryd.underlying24 rfl ?_) ?_
            · kernel_rfl
            refine WJ.set 76 rfl (v' := .agg #[.slice a t.vals.length cap, .string (S t.seed), .int .i64 ((t.at_.toNat : Nat) : Int)]) (by rw [Int.toNat_of_nonneg hg1]) ?_
            refine WJ.r rfl rfl rfl rfl rfl (rd_move rfl rfl) ?_
            refine WJ.gv rfl rfl rfl rfl rfl (fun ext => og_call rfl rfl (by kernel_rfl) (keep_val fun w hS => attempt_c (sd := t.seed) (at_ := t.at_.toNat) (aa := k) (nb := bitsN n) (by assumption) (by omega) (by omega) (by assumption) (by omega) (by (exact tab_st hT hS)))) ?_
            refine WJ.r rfl rfl rfl rfl rfl (rd_assign rfl rfl) ?_
            refine WJ.nil ?_
            refine WL.nt ?_
            refine WC.sr ?_
            refine WL.r rfl rfl rfl (rd_move rfl rfl) ?_
            refine WL.r rfl rfl rfl (rd_move rfl rfl) ?_
            refine WL.g rfl rfl rfl (og_call rfl rfl (by kernel_rfl) (keep_val fun w hS => Cmp_c (a := attS t.seed t.at_.toNat k (bitsN n)) (b := n))) ?_
            intro _
            refine WL.r rfl rfl rfl (rd_lss rfl rfl rfl) ?_
            refine WL.nt ?_
            refine WC.cond rfl (fun hc84 => ?_) (fun hc84 => ?_)
            · (try simp only [sB] at hc84)
              refine WC.seq ?_
              refine WC.free0 [0, 1, 2] [3, 4] [0, 0, 0, 2, 2] (by kernel_rfl) (by kernel_rfl) rfl ?_
              refine WJ.r rfl rfl rfl rfl rfl (rd_move rfl rfl) ?_
              refine WJ.r rfl rfl rfl rfl rfl (lda rfl rfl .tc Tryd.underlying24 rfl ?_) ?_
              · kernel_rfl
              refine WJ.r rfl rfl rfl rfl rfl (rd_assign rfl rfl) ?_
              refine WJ.nil ?_
              refine WL.g0 rfl rfl (sta rfl rfl rfl .tc ?_ ?_ ?_) ?_
              · kernel_rfl
              · simp [Value.oneCell']
              · rfl
              intro _
              refine WL.r rfl rfl rfl (rd_assign rfl rfl) ?_
              refine WL.nt ?_
              refine WC.ret ?_
              refine WX.block_ret ?_
              refine WX.then_ret ?_
              refine WX.then_ret ?_
              refine WX.block_ret ?_
              refine WX.then_ret ?_
              exact WX.retN rfl (.tmp rfl (.agg rfl .tc Tryd.underlying24 rfl (by kernel_rfl) (.tmp rfl .nil))) fun w' hS => drawN (q := ⟨some b48, t.vals.length, []⟩) (by rw [drawS, if_neg h27, if_neg h52, ← hfi, findA_hit (by omega) hc84]) rfl hS (by simp [Rs.ent])
            · (try simp only [sB] at hc84)
              refine WC.skip ?_
              refine WX.block_normal ?_
              refine WX.then_normal ?_
              refine WC.region ?_
              (refine WL.r rfl rfl rfl (rd_add64nl rfl rfl rfl ?_) ?_; (focus (omega)))
              refine WL.r rfl rfl rfl (rd_move rfl rfl) ?_
              refine WL.nil ?_
              refine WX.loopP (k + 1) (by (try dsimp only); omega) (sub_cons rfl (sub_cons rfl (sub_cons rfl (sub_cons rfl (sub_nil _))))) (by refine (sub_cons ?_ (sub_nil _)) <;> (rfl)) ?_ (by (exact fun _ h => h))
              (try dsimp only)
              exact ⟨by omega, by rw [← findA_miss (by omega) (by omega)]; exact hfi⟩
          · (try simp only [sB] at hc74)
            refine WC.exit ?_
            refine WX.then_exit ?_
            refine WX.then_exit ?_
            refine WX.block_exit ?_
            obtain rfl : k = 256 := by omega
            refine WX.then_normal ?_
            refine WC.sr ?_
            refine WL.r rfl rfl rfl (rd_bld [[.slice none 0 0], [.string (S [])], [.int .i64 0]] rfl rfl (by simp only [bld, fldv, Nat.beq, Value.cells, cond_true, cond_false, List.nil_append, List.cons_append, List.append_nil]; rfl) (fun w => by kernel_rfl)) ?_
            refine WL.r rfl rfl rfl (rd_assign rfl rfl) ?_
            refine WL.g0 rfl rfl (sta rfl rfl rfl .tc ?_ ?_ ?_) ?_
            · kernel_rfl
            · simp [Value.oneCell']
            · rfl
            intro _
            refine WL.r rfl rfl rfl (rd_assign rfl rfl) ?_
            refine WL.nt ?_
            refine WC.ret ?_
            exact WX.retN rfl (.tmp rfl (.agg rfl .tc Tryd.underlying24 rfl (by kernel_rfl) (.tmp rfl .nil))) fun w' hS => draw0 (by rw [drawS, if_neg h27, if_neg h52, ← hfi]; rfl) hS
end Go.Proofs.YtikcjkifhliidaaDoor
