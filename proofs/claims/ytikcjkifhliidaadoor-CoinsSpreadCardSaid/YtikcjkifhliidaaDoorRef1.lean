/-
  The walks of the reference's hash: right, constants, padded, schedule.
-/
import Derived.Test.YtikcjkifhliidaaDoorHash3
import Derived.Laws.BitsAllLaws
namespace Go.Proofs.YtikcjkifhliidaaDoor
set_option linter.unusedSimpArgs false
set_option linter.unusedVariables false
set_option maxRecDepth 20000
open Go.RowKit

theorem right_ok (x : W) (n : Nat) (h0 : 0 < n) (h : n < 32) (w : World) : Calls Tryd.prog 99 #[u32 x, .int .i64 (n : Int)] w fun e w' => e = .returned (u32 (rr x n)) ∧ Below w.heap.size w w' := by
  refine enter (S := St (fun _ => True) w [] []) (L := [(0, u32 x), (1, .int .i64 (n : Int))]) Tryd.func99 rfl Tryd.ntmps99 rfl (args_cons rfl (args_cons rfl (args_nil _))) (St.start (fun _ _ => trivial) (by simp)) ?_
  refine WC.seq ?_
  refine WC.region ?_
  refine WL.r rfl rfl rfl (rd_assign rfl rfl) ?_
  refine WL.nil ?_
  refine WX.then_normal ?_
  refine WC.seq ?_
  refine WC.mix [0, 0, 0, 0, 0, 0, 0, 0, 0] (by kernel_rfl) (by kernel_rfl) (fun w h => h.draw) ?_
  refine WM.r rfl rfl rfl (rd_move rfl rfl) ?_
  refine WM.r rfl rfl rfl (rd_move rfl rfl) ?_
  refine WM.r rfl rfl rfl (rd_shr rfl rfl rfl ?_) ?_
  · first | decide | omega
  refine WM.set 7 rfl (v' := u32 (x >>> n)) (congrArg (Value.int .u32) (by rw [Int.toNat_natCast, show min n IntKind.u32.bits = n by simp [IntKind.bits]; omega, shr_W])) ?_
  refine WM.r rfl rfl rfl (rd_move rfl rfl) ?_
  refine WM.r rfl rfl rfl (rd_move rfl rfl) ?_
  first
    | (refine WM.r rfl rfl rfl (rd_sub64ln rfl rfl rfl ?_) ?_; focus (omega))
    | (refine WM.r rfl rfl rfl (rd_sub64 rfl rfl rfl ?_) ?_; focus (omega))
  refine WM.r rfl rfl rfl (rd_shl rfl rfl rfl ?_) ?_
  · first | decide | omega
  refine WM.set 11 rfl (v' := u32 (x <<< (32 - n))) (congrArg (Value.int .u32) (by rw [Int.toNat_natCast, show min (32 - n) IntKind.u32.bits = 32 - n by simp [IntKind.bits], shl_W _ _ (by omega)])) ?_
  refine WM.r rfl rfl rfl (rdW_or rfl rfl rfl) ?_
  refine WM.r rfl rfl rfl (rd_assign rfl rfl) ?_
  refine WM.nil ?_
  refine WX.then_normal ?_
  refine WC.ret ?_
  exact WX.ret1 rfl rfl fun w' hS => ⟨rfl, hS.below⟩
theorem right_lit (x : W) (n : Nat) (h0 : 0 < n) (h : n < 32) (w : World) : Calls Tryd.prog 99 #[u32 x, .int .i64 (@OfNat.ofNat Int n instOfNat)] w fun e w' => e = .returned (u32 (rr x n)) ∧ Below w.heap.size w w' := right_ok x n h0 h w

theorem rconst_ok (ok : Nat → Prop) (w : World) (hok : ∀ b, w.heap.size ≤ b → ok b) : Calls Tryd.prog 98 #[] w fun e w' => ∃ b : Nat, e = .returned (.slice (some ⟨b, 0, none⟩) 64 64) ∧ Below w.heap.size w w' ∧ ∀ x ∈ [Fact.sl (some ⟨b, 0, none⟩) (KK.map u32)], x.holds ok w' := by
  refine enter (S := St ok w [] []) (L := []) Tryd.func98 rfl Tryd.ntmps98 rfl (args_nil _) (St.start hok (by simp)) ?_
  refine WC.seq ?_
  refine WC.region ?_
  refine WL.r rfl rfl rfl (rd_assign rfl rfl) ?_
  refine WL.nil ?_
  refine WX.then_normal ?_
  refine WC.seq ?_
  refine WC.region ?_
  refine WL.g rfl rfl rfl (og_bs rfl rfl Tryd.underlying103 (cs := KK.map u32) (fun w => by kernel_rfl)) ?_
  intro b1
  refine WL.r rfl rfl rfl (rd_assign rfl rfl) ?_
  refine WL.nil ?_
  refine WX.then_normal ?_
  refine WC.ret ?_
  refine WX.ret1 rfl rfl fun w' hS => ⟨b1, rfl, hS.below, ?_⟩
  have h2 := (st_freeze (sp := []) (by rw [List.append_nil]; exact hS) : St ok w [] [Fact.sl (some ⟨b1, 0, none⟩) (KK.map u32)] w')
  intro x hx; simp only [List.mem_singleton] at hx; subst hx; exact Fact.mono _ (fun _ hb => hb.1) (h2.holds (k := 0) rfl)

theorem len8_drop (M q : Nat) (hq : q ≤ 7) : (len8 M).drop (7 - q) = byteAt M q :: (len8 M).drop (8 - q) := by
  have : q = 0 ∨ q = 1 ∨ q = 2 ∨ q = 3 ∨ q = 4 ∨ q = 5 ∨ q = 6 ∨ q = 7 := by omega
  rcases this with rfl | rfl | rfl | rfl | rfl | rfl | rfl | rfl <;> rfl
theorem len8_set (M q : Nat) (hq : q ≤ 7) : ((List.replicate (8 - q) 0 ++ (len8 M).drop (8 - q)).map B).set (7 - q) (B (byteAt M q)) = (List.replicate (8 - (q + 1)) 0 ++ (len8 M).drop (8 - (q + 1))).map B := by
  rw [← List.map_set]
  congr 1
  rw [show 8 - (q + 1) = 7 - q by omega, len8_drop M q hq, show 8 - q = (7 - q) + 1 by omega, List.replicate_succ', List.append_assoc, List.set_append_right _ _ (by simp)]
  simp
theorem byte_mod (M q : Nat) : ((M / 256 ^ q % 256 : Nat) : Int) = ((byteAt M q).toNat : Int) := by
  rw [byteAt, UInt8.toNat_ofNat', show (2 : Nat) ^ (8 * q) = 256 ^ q by rw [Nat.pow_mul]]
  omega

theorem padded_ok (l : List UInt8) (hl : l.length ≤ 1000000) (w : World) :
    Calls Tryd.prog 92 #[.string (S l)] w fun e w' => e = .returned (.string (S (pad l))) ∧ Below w.heap.size w w' := by
  have hz : zeros l.length = (119 - l.length % 64) % 64 := rfl
  refine enter (S := St (fun _ => True) w [] []) (L := [(0, .string (S l))]) Tryd.func92 rfl Tryd.ntmps92 rfl (args_cons rfl (args_nil _)) (St.start (fun _ _ => trivial) (by simp)) ?_
  refine WC.seq ?_
  refine WC.region ?_
  refine WL.r rfl rfl rfl (rd_assign rfl rfl) ?_
  refine WL.nil ?_
  refine WX.then_normal ?_
  refine WC.seq ?_
  refine WC.region ?_
  refine WL.r rfl rfl rfl (rd_move rfl rfl) ?_
  refine WL.r rfl rfl rfl (rd_slen rfl rfl Tryd.underlying9) ?_
  refine WL.r rfl rfl rfl (rd_assign rfl rfl) ?_
  refine WL.nil ?_
  refine WX.then_normal ?_
  refine WC.seq ?_
  refine WC.region ?_
  refine WL.r rfl rfl rfl (rd_move rfl rfl) ?_
  refine WL.r rfl rfl rfl (rd_cat (b := [128]) rfl rfl rfl (by simp; omega)) ?_
  refine WL.r rfl rfl rfl (rd_assign rfl rfl) ?_
  refine WL.nil ?_
  refine WX.then_normal ?_
  refine WC.seq ?_
  refine WC.block ?_
  refine WC.loop (σ := Nat) (fun j => [(0, .string (S (l ++ [128] ++ List.replicate j 0))), (3, .int .i64 (l.length : Int))]) (fun j w' => j ≤ zeros l.length ∧ St (fun _ => True) w [] [] w') (fun j => zeros l.length - j) 0 (by repeat (first | exact sub_nil _ | refine sub_cons (by simp; rfl) ?_ | refine sub_cons rfl ?_)) (fun w' h => ⟨by omega, h⟩) ?_
  intro j; refine WC.pu ?_; intro hj
  have hlen : (l ++ [128] ++ List.replicate j 0).length = l.length + 1 + j := by simp; omega
  refine WC.seq ?_
  refine WC.seq ?_
  refine WC.region ?_
  refine WL.r rfl rfl rfl (rd_move rfl rfl) ?_
  refine WL.r rfl rfl rfl (rd_slen rfl rfl Tryd.underlying9) ?_
  first
    | (refine WL.r rfl rfl rfl (rd_rem64nl rfl rfl rfl ?_) ?_; focus (omega))
    | (refine WL.r rfl rfl rfl (rd_rem64 rfl rfl rfl ?_) ?_; focus (omega))
  refine WL.r rfl rfl rfl (rd_neq rfl rfl rfl) ?_
  refine WL.nil ?_
  refine WX.then_normal ?_
  refine WC.cond rfl (fun hc14 => ?_) (fun hc14 => ?_)
  · (try simp only [decide_eq_true_eq, decide_eq_false_iff_not, Bool.not_eq_true', Bool.not_eq_false', Bool.not_not, Int.not_lt, Int.not_le] at hc14)
    refine WC.skip ?_
    refine WX.then_normal ?_
    refine WC.block ?_
    refine WC.region ?_
    refine WL.r rfl rfl rfl (rd_move rfl rfl) ?_
    refine WL.r rfl rfl rfl (rd_cat (b := [0]) rfl rfl rfl (by rw [hlen]; simp; omega)) ?_
    refine WL.r rfl rfl rfl (rd_assign rfl rfl) ?_
    refine WL.nil ?_
    refine WX.block_normal ?_
    exact WX.loop (j + 1) (by omega) (by repeat (first | exact sub_nil _ | refine sub_cons rfl ?_ | refine sub_cons (by rw [List.replicate_succ', ← List.append_assoc]; rfl) ?_)) (fun w' h => ⟨by omega, h⟩)
  · (try simp only [decide_eq_true_eq, decide_eq_false_iff_not, Bool.not_eq_true', Bool.not_eq_false', Bool.not_not, Int.not_lt, Int.not_le] at hc14)
    refine WC.exit ?_
    refine WX.then_exit ?_
    refine WX.then_exit ?_
    refine WX.block_exit ?_
    obtain rfl : j = zeros l.length := by omega
    refine WX.then_normal ?_
    refine WC.seq ?_
    refine WC.region ?_
    refine WL.g rfl rfl rfl (og_mk rfl rfl rfl Tryd.underlying73 (by kernel_rfl : _ = some (some (.int .u8 0), 1, 1)) rfl ?_ (by (try simp only [Int.toNat_natCast, Nat.mul_one, Nat.zero_add, Nat.add_zero, Nat.zero_mul, Int.reduceToNat, Nat.reduceAdd, Nat.reduceMul, Nat.reduceSub, Nat.sub_zero]); rfl) (by (try simp only [Int.toNat_natCast, Nat.mul_one, Nat.zero_add, Nat.add_zero, Nat.zero_mul, Int.reduceToNat, Nat.reduceAdd, Nat.reduceMul, Nat.reduceSub, Nat.sub_zero]); rfl)) ?_
    · decide
    intro b17
    refine WL.r rfl rfl rfl (rd_assign rfl rfl) ?_
    refine WL.nil ?_
    refine WX.then_normal ?_
    refine WC.seq ?_
    refine WC.region ?_
    refine WL.r rfl rfl rfl (rd_move rfl rfl) ?_
    refine WL.r rfl rfl rfl (rd_conv rfl rfl Tryd.underlying3 Tryd.underlying50) ?_
    refine WL.r rfl rfl rfl (rd_mul rfl rfl rfl) ?_
    refine WL.set 20 rfl (v' := .int .u64 ((8 * l.length / 256 ^ 0 : Nat) : Int)) (congrArg (Value.int .u64) (by rw [IntKind.wrap_u64, IntKind.wrap_u64, Nat.pow_zero, Nat.div_one]; omega)) ?_
    refine WL.r rfl rfl rfl (rd_assign rfl rfl) ?_
    refine WL.nil ?_
    refine WX.then_normal ?_
    refine WC.seq ?_
    refine WC.seq ?_
    refine WC.region ?_
    refine WL.r rfl rfl rfl (rd_assign rfl rfl) ?_
    refine WL.nil ?_
    refine WX.then_normal ?_
    refine WC.block ?_
    refine WC.loop (σ := Nat) (fun q => [(0, .string (S (l ++ [128] ++ List.replicate (zeros l.length) 0))), (4, .slice (some ⟨b17, 0, none⟩) 8 8), (5, .int .u64 ((8 * l.length / 256 ^ q : Nat) : Int)), (6, .int .i64 (7 - (q : Int)))]) (fun q w' => q ≤ 8 ∧ St (fun _ => True) w [⟨some b17, (List.replicate (8 - q) 0 ++ (len8 (8 * l.length)).drop (8 - q)).map B, 5⟩] [] w') (fun q => 8 - q) 0 (by repeat (first | exact sub_nil _ | refine sub_cons rfl ?_)) (fun w' h => ⟨by omega, h⟩) ?_
    intro q; refine WC.pu ?_; intro hq
    have hdv : 8 * l.length / 256 ^ q ≤ 8 * l.length := Nat.div_le_self _ _
    refine WC.seq ?_
    refine WC.seq ?_
    refine WC.region ?_
    refine WL.r rfl rfl rfl (rd_move rfl rfl) ?_
    refine WL.r rfl rfl rfl (rd_geq rfl rfl rfl) ?_
    refine WL.nil ?_
    refine WX.then_normal ?_
    refine WC.cond rfl (fun hc22 => ?_) (fun hc22 => ?_)
    · (try simp only [decide_eq_true_eq, decide_eq_false_iff_not, Bool.not_eq_true', Bool.not_eq_false', Bool.not_not, Int.not_lt, Int.not_le] at hc22)
      refine WC.skip ?_
      refine WX.then_normal ?_
      refine WC.seq ?_
      refine WC.block ?_
      refine WC.seq ?_
      refine WC.region ?_
      refine WL.r rfl rfl rfl (rd_move rfl rfl) ?_
      refine WL.r rfl rfl rfl (rd_move rfl rfl) ?_
      refine WL.r rfl rfl rfl (rd_move rfl rfl) ?_
      refine WL.r rfl rfl rfl (rd_remN rfl rfl rfl (by decide)) ?_
      refine WL.r rfl rfl rfl (rd_conv rfl rfl Tryd.underlying50 Tryd.underlying5) ?_
      refine WL.set 29 rfl (v' := B (byteAt (8 * l.length) q)) (congrArg (Value.int .u8) (by rw [byte_mod, IntWalk.u8_in _ (by have := (byteAt (8 * l.length) q).toNat_lt; omega)])) ?_
      refine WL.r rfl rfl rfl (rd_ia rfl rfl rfl Tryd.underlying73 (by kernel_rfl : _ = some 1) (by omega) (q := 7 - q) (by omega)) ?_
      refine WL.g0 rfl rfl (st rfl rfl rfl (by first | exact .here | exact .t1 | exact .t2 | exact .t3 | exact .t4 | exact .t5 | exact .t6 | exact .t7) (by kernel_rfl) rfl ?_ rfl) ?_
      · simp [len8]; omega
      intro _
      refine WL.nil ?_
      refine WX.then_normal ?_
      refine WC.region ?_
      refine WL.r rfl rfl rfl (rd_move rfl rfl) ?_
      refine WL.r rfl rfl rfl (rd_quoN rfl rfl rfl (by decide) ?_) ?_
      · (have h9 := hdv; generalize 8 * l.length / 256 ^ q = z at h9 ⊢; exact IntWalk.u64_in _ ⟨by omega, by omega⟩)
      refine WL.set 32 rfl (v' := .int .u64 ((8 * l.length / 256 ^ (q + 1) : Nat) : Int)) (by rw [Nat.pow_succ, ← Nat.div_div_eq_div_mul]) ?_
      refine WL.r rfl rfl rfl (rd_assign rfl rfl) ?_
      refine WL.nil ?_
      refine WX.block_normal ?_
      refine WX.then_normal ?_
      refine WC.region ?_
      refine WL.r rfl rfl rfl (rd_move rfl rfl) ?_
      first
        | (refine WL.r rfl rfl rfl (rd_sub64nl rfl rfl rfl ?_) ?_; focus (omega))
        | (refine WL.r rfl rfl rfl (rd_sub64 rfl rfl rfl ?_) ?_; focus (omega))
      refine WL.r rfl rfl rfl (rd_assign rfl rfl) ?_
      refine WL.nil ?_
      exact WX.loop (q + 1) (by omega) (by repeat (first | exact sub_nil _ | refine sub_cons rfl ?_ | refine sub_cons (by show some (Value.int _ _) = some (Value.int _ _); congr 2; omega) ?_)) (fun w' h => ⟨by omega, by rw [len8_set (8 * l.length) q (by omega)] at h; exact h⟩)
    · (try simp only [decide_eq_true_eq, decide_eq_false_iff_not, Bool.not_eq_true', Bool.not_eq_false', Bool.not_not, Int.not_lt, Int.not_le] at hc22)
      refine WC.exit ?_
      refine WX.then_exit ?_
      refine WX.then_exit ?_
      refine WX.block_exit ?_
      obtain rfl : q = 8 := by omega
      refine WX.then_normal ?_
      refine WC.seq ?_
      refine WC.region ?_
      refine WL.r rfl rfl rfl (rd_move rfl rfl) ?_
      refine WL.r rfl rfl rfl (rd_move rfl rfl) ?_
      refine WL.r rfl rfl rfl (b2s (l := len8 (8 * l.length)) rfl rfl (by first | exact .here | exact .t1 | exact .t2 | exact .t3 | exact .t4 | exact .t5 | exact .t6 | exact .t7) Tryd.underlying73 Tryd.underlying5 Tryd.underlying9 ?_ ?_) ?_
      · rfl
      · rfl
      refine WL.r rfl rfl rfl (rd_cat rfl rfl rfl ?_) ?_
      · simp [len8]; omega
      refine WL.r rfl rfl rfl (rd_assign rfl rfl) ?_
      refine WL.nil ?_
      refine WX.then_normal ?_
      refine WC.ret ?_
      exact WX.ret1 rfl rfl fun w' hS => ⟨rfl, hS.below⟩

theorem rsched_ok (bs : List UInt8) (hbs : bs.length = 64) (ok : Nat → Prop) (w : World) (hok : ∀ b, w.heap.size ≤ b → ok b) :
    Calls Tryd.prog 97 #[.string (S bs)] w fun e w' => ∃ b : Nat, e = .returned (.slice (some ⟨b, 0, none⟩) 64 64) ∧ Below w.heap.size w w' ∧ ∀ x ∈ [Fact.sl (some ⟨b, 0, none⟩) ((sched 48 (words bs)).map u32)], x.holds ok w' := by
  have hwl := words_len 16 bs hbs
  refine enter (S := St ok w [] []) (L := [(0, .string (S bs))]) Tryd.func97 rfl Tryd.ntmps97 rfl (args_cons rfl (args_nil _)) (St.start hok (by simp)) ?_
  refine WC.seq ?_
  refine WC.region ?_
  refine WL.r rfl rfl rfl (rd_assign rfl rfl) ?_
  refine WL.nil ?_
  refine WX.then_normal ?_
  refine WC.seq ?_
  refine WC.region ?_
  refine WL.g rfl rfl rfl (og_mk rfl rfl rfl Tryd.underlying103 (by kernel_rfl : _ = some (some (.int .u32 0), 1, 4)) rfl ?_ (by (try simp only [Int.toNat_natCast, Nat.mul_one, Nat.zero_add, Nat.add_zero, Nat.zero_mul, Int.reduceToNat, Nat.reduceAdd, Nat.reduceMul, Nat.reduceSub, Nat.sub_zero]); rfl) (by (try simp only [Int.toNat_natCast, Nat.mul_one, Nat.zero_add, Nat.add_zero, Nat.zero_mul, Int.reduceToNat, Nat.reduceAdd, Nat.reduceMul, Nat.reduceSub, Nat.sub_zero]); rfl)) ?_
  · decide
  intro b11
  refine WL.r rfl rfl rfl (rd_assign rfl rfl) ?_
  refine WL.nil ?_
  refine WX.then_normal ?_
  refine WC.seq ?_
  refine WC.seq ?_
  refine WC.region ?_
  refine WL.r rfl rfl rfl (rd_assign rfl rfl) ?_
  refine WL.nil ?_
  refine WX.then_normal ?_
  refine WC.block ?_
  refine WC.loop (σ := Nat) (fun k => [(0, .string (S bs)), (3, .slice (some ⟨b11, 0, none⟩) 64 64), (4, .int .i64 (k : Int))]) (fun k w' => k ≤ 16 ∧ St ok w [⟨some b11, ((words bs).take k).map u32 ++ List.replicate (64 - k) (u32 0), 102⟩] [] w') (fun k => 16 - k) 0 (by repeat (first | exact sub_nil _ | refine sub_cons rfl ?_)) (fun w' h => ⟨by omega, h⟩) ?_
  intro k; refine WC.pu ?_; intro hk
  refine WC.seq ?_
  refine WC.seq ?_
  refine WC.region ?_
  refine WL.r rfl rfl rfl (rd_move rfl rfl) ?_
  refine WL.r rfl rfl rfl (rd_lss rfl rfl rfl) ?_
  refine WL.nil ?_
  refine WX.then_normal ?_
  refine WC.cond rfl (fun hc13 => ?_) (fun hc13 => ?_)
  · (try simp only [decide_eq_true_eq, decide_eq_false_iff_not, Bool.not_eq_true', Bool.not_eq_false', Bool.not_not, Int.not_lt, Int.not_le] at hc13)
    obtain ⟨c0, hc0⟩ : ∃ c, bs[4 * k]? = some c := ⟨_, List.getElem?_eq_getElem (by omega)⟩
    obtain ⟨c1, hc1⟩ : ∃ c, bs[4 * k + 1]? = some c := ⟨_, List.getElem?_eq_getElem (by omega)⟩
    obtain ⟨c2, hc2⟩ : ∃ c, bs[4 * k + 2]? = some c := ⟨_, List.getElem?_eq_getElem (by omega)⟩
    obtain ⟨c3, hc3⟩ : ∃ c, bs[4 * k + 3]? = some c := ⟨_, List.getElem?_eq_getElem (by omega)⟩
    have hwk := words_get k bs c0 c1 c2 c3 hc0 hc1 hc2 hc3
    refine WC.skip ?_
    refine WX.then_normal ?_
    refine WC.seq ?_
    refine WC.block ?_
    refine WC.seq ?_
    refine WC.region ?_
    refine WL.r rfl rfl rfl (rd_assign rfl rfl) ?_
    refine WL.nil ?_
    refine WX.then_normal ?_
    refine WC.block ?_
    refine WC.loop (σ := Nat) (fun j => [(0, .string (S bs)), (3, .slice (some ⟨b11, 0, none⟩) 64 64), (4, .int .i64 (k : Int)), (5, .int .i64 (j : Int))]) (fun j w' => j ≤ 4 ∧ St ok w [⟨some b11, (((words bs).take k).map u32 ++ List.replicate (64 - k) (u32 0)).set k (u32 (part4 c0 c1 c2 c3 j)), 102⟩] [] w') (fun j => 4 - j) 0 (by repeat (first | exact sub_nil _ | refine sub_cons rfl ?_)) (fun w' h => ⟨by omega, by rw [show part4 c0 c1 c2 c3 0 = 0 from rfl, set_zero4 (words bs) hwl k (by omega)]; exact h⟩) ?_
    intro j; refine WC.pu ?_; intro hj
    refine WC.seq ?_
    refine WC.seq ?_
    refine WC.region ?_
    refine WL.r rfl rfl rfl (rd_move rfl rfl) ?_
    refine WL.r rfl rfl rfl (rd_lss rfl rfl rfl) ?_
    refine WL.nil ?_
    refine WX.then_normal ?_
    refine WC.cond rfl (fun hc17 => ?_) (fun hc17 => ?_)
    · (try simp only [decide_eq_true_eq, decide_eq_false_iff_not, Bool.not_eq_true', Bool.not_eq_false', Bool.not_not, Int.not_lt, Int.not_le] at hc17)
      have hcj : bs[4 * k + j]? = some (pick4 c0 c1 c2 c3 j) := by
        have : j = 0 ∨ j = 1 ∨ j = 2 ∨ j = 3 := by omega
        rcases this with rfl | rfl | rfl | rfl
        · exact hc0
        · exact hc1
        · exact hc2
        · exact hc3
      refine WC.skip ?_
      refine WX.then_normal ?_
      refine WC.seq ?_
      refine WC.block ?_
      refine WC.mix [0, 0, 0, 0, 0, 0, 0, 0, 0, 0, 0, 0, 0, 0, 0, 0, 2] (by kernel_rfl) (by kernel_rfl) (fun w h => h.draw) ?_
      refine WM.r rfl rfl rfl (rd_move rfl rfl) ?_
      refine WM.r rfl rfl rfl (rd_move rfl rfl) ?_
      refine WM.r rfl rfl rfl (rd_move rfl rfl) ?_
      refine WM.r rfl rfl rfl (rd_move rfl rfl) ?_
      refine WM.r rfl rfl rfl (rd_ia rfl rfl rfl Tryd.underlying103 (by kernel_rfl : _ = some 1) ?_ (by (try simp only [Int.toNat_natCast, Nat.mul_one, Nat.zero_add, Nat.add_zero, Nat.zero_mul, Int.reduceToNat, Nat.reduceAdd, Nat.reduceMul, Nat.reduceSub, Nat.sub_zero]); rfl)) ?_
      · omega
      refine WM.r rfl rfl rfl (ld rfl rfl (by first | exact .here | exact .t1 | exact .t2 | exact .t3 | exact .t4 | exact .t5 | exact .t6 | exact .t7) Tryd.underlying102 rfl (by rw [List.getElem?_set_self (by simp; omega)])) ?_
      refine WM.r rfl rfl rfl (rd_mul rfl rfl rfl) ?_
      refine WM.set 26 rfl (v' := u32 (part4 c0 c1 c2 c3 j * 256)) (congrArg (Value.int .u32) (mul_W _ 256)) ?_
      refine WM.r rfl rfl rfl (rd_move rfl rfl) ?_
      refine WM.r rfl rfl rfl (rd_move rfl rfl) ?_
      first
        | (refine WM.r rfl rfl rfl (rd_mul64ln rfl rfl rfl ?_) ?_; focus (omega))
        | (refine WM.r rfl rfl rfl (rd_mul64 rfl rfl rfl ?_) ?_; focus (omega))
      refine WM.r rfl rfl rfl (rd_move rfl rfl) ?_
      first
        | (refine WM.r rfl rfl rfl (rd_add64n rfl rfl rfl ?_) ?_; focus (omega))
        | (refine WM.r rfl rfl rfl (rd_add64 rfl rfl rfl ?_) ?_; focus (omega))
      refine WM.r rfl rfl rfl (rd_sidx rfl rfl rfl Tryd.underlying9 ?_ (by rw [Int.toNat_natCast]; exact hcj)) ?_
      · omega
      refine WM.r rfl rfl rfl (rd_conv rfl rfl Tryd.underlying5 Tryd.underlying102) ?_
      refine WM.set 33 rfl (v' := u32 (BitVec.ofNat 32 (pick4 c0 c1 c2 c3 j).toNat)) (congrArg (Value.int .u32) (u8_W _)) ?_
      refine WM.r rfl rfl rfl (rdW_add rfl rfl rfl) ?_
      refine WM.r rfl rfl rfl (rd_ia rfl rfl rfl Tryd.underlying103 (by kernel_rfl : _ = some 1) ?_ (by (try simp only [Int.toNat_natCast, Nat.mul_one, Nat.zero_add, Nat.add_zero, Nat.zero_mul, Int.reduceToNat, Nat.reduceAdd, Nat.reduceMul, Nat.reduceSub, Nat.sub_zero]); rfl)) ?_
      · omega
      refine WM.h0 rfl rfl (st rfl rfl rfl (by first | exact .here | exact .t1 | exact .t2 | exact .t3 | exact .t4 | exact .t5 | exact .t6 | exact .t7) (by kernel_rfl) rfl ?_ rfl) ?_
      · simp; omega
      intro _
      refine WM.nil ?_
      refine WX.block_normal ?_
      refine WX.then_normal ?_
      refine WC.region ?_
      refine WL.r rfl rfl rfl (rd_move rfl rfl) ?_
      first
        | (refine WL.r rfl rfl rfl (rd_add64nl rfl rfl rfl ?_) ?_; focus (omega))
        | (refine WL.r rfl rfl rfl (rd_add64 rfl rfl rfl ?_) ?_; focus (omega))
      refine WL.r rfl rfl rfl (rd_assign rfl rfl) ?_
      refine WL.nil ?_
      exact WX.loop (j + 1) (by omega) (by repeat (first | exact sub_nil _ | refine sub_cons rfl ?_)) (fun w' h => ⟨by omega, by rw [List.set_set] at h; rw [part4_succ c0 c1 c2 c3 j (by omega)]; exact h⟩)
    · (try simp only [decide_eq_true_eq, decide_eq_false_iff_not, Bool.not_eq_true', Bool.not_eq_false', Bool.not_not, Int.not_lt, Int.not_le] at hc17)
      refine WC.exit ?_
      refine WX.then_exit ?_
      refine WX.then_exit ?_
      refine WX.block_exit ?_
      obtain rfl : j = 4 := by omega
      refine WX.block_normal ?_
      refine WX.then_normal ?_
      refine WC.region ?_
      refine WL.r rfl rfl rfl (rd_move rfl rfl) ?_
      first
        | (refine WL.r rfl rfl rfl (rd_add64nl rfl rfl rfl ?_) ?_; focus (omega))
        | (refine WL.r rfl rfl rfl (rd_add64 rfl rfl rfl ?_) ?_; focus (omega))
      refine WL.r rfl rfl rfl (rd_assign rfl rfl) ?_
      refine WL.nil ?_
      exact WX.loop (k + 1) (by omega) (by repeat (first | exact sub_nil _ | refine sub_cons rfl ?_)) (fun w' h => ⟨by omega, by rw [part4_word, fill_set (words bs) u32 (u32 0) 64 k _ (by omega) hwk] at h; exact h⟩)
  · (try simp only [decide_eq_true_eq, decide_eq_false_iff_not, Bool.not_eq_true', Bool.not_eq_false', Bool.not_not, Int.not_lt, Int.not_le] at hc13)
    refine WC.exit ?_
    refine WX.then_exit ?_
    refine WX.then_exit ?_
    refine WX.block_exit ?_
    obtain rfl : k = 16 := by omega
    refine WX.then_normal ?_
    refine WC.seq ?_
    refine WC.seq ?_
    refine WC.region ?_
    refine WL.r rfl rfl rfl (rd_assign rfl rfl) ?_
    refine WL.nil ?_
    refine WX.then_normal ?_
    refine WC.block ?_
    refine WC.loop (σ := Nat) (fun j => [(3, .slice (some ⟨b11, 0, none⟩) 64 64), (6, .int .i64 ((16 + j : Nat) : Int))]) (fun j w' => j ≤ 48 ∧ St ok w [⟨some b11, (sched j (words bs)).map u32 ++ List.replicate (48 - j) (u32 0), 102⟩] [] w') (fun j => 48 - j) 0 (by repeat (first | exact sub_nil _ | refine sub_cons rfl ?_)) (fun w' h => ⟨by omega, by rw [List.take_of_length_le (by omega)] at h; exact h⟩) ?_
    intro j; refine WC.pu ?_; intro hj
    refine WC.seq ?_
    refine WC.seq ?_
    refine WC.region ?_
    refine WL.r rfl rfl rfl (rd_move rfl rfl) ?_
    refine WL.r rfl rfl rfl (rd_lss rfl rfl rfl) ?_
    refine WL.nil ?_
    refine WX.then_normal ?_
    refine WC.cond rfl (fun hc37 => ?_) (fun hc37 => ?_)
    · (try simp only [decide_eq_true_eq, decide_eq_false_iff_not, Bool.not_eq_true', Bool.not_eq_false', Bool.not_not, Int.not_lt, Int.not_le] at hc37)
      have hsl := sched_len j (words bs)
      rw [hwl] at hsl
      refine WC.skip ?_
      refine WX.then_normal ?_
      refine WC.seq ?_
      refine WC.block ?_
      refine WC.seq ?_
      refine WC.mix [0, 0, 0, 0, 0, 0, 0, 0, 0, 0, 0, 0] (by kernel_rfl) (by kernel_rfl) (fun w h => h.draw) ?_
      refine WM.r rfl rfl rfl (rd_move rfl rfl) ?_
      refine WM.r rfl rfl rfl (rd_move rfl rfl) ?_
      first
        | (refine WM.r rfl rfl rfl (rd_sub64nl rfl rfl rfl ?_) ?_; focus (omega))
        | (refine WM.r rfl rfl rfl (rd_sub64 rfl rfl rfl ?_) ?_; focus (omega))
      refine WM.r rfl rfl rfl (rd_ia rfl rfl rfl Tryd.underlying103 (by kernel_rfl : _ = some 1) ?_ (by (try simp only [Int.toNat_natCast, Nat.mul_one, Nat.zero_add, Nat.add_zero, Nat.zero_mul, Int.reduceToNat, Nat.reduceAdd, Nat.reduceMul, Nat.reduceSub, Nat.sub_zero]); rfl)) ?_
      · omega
      refine WM.r rfl rfl rfl (ld rfl rfl (by first | exact .here | exact .t1 | exact .t2 | exact .t3 | exact .t4 | exact .t5 | exact .t6 | exact .t7) Tryd.underlying102 rfl (by exact map_cell _ u32 _ _ _ (get_getD (sched j (words bs)) _ 0 (by omega)))) ?_
      refine WM.r rfl rfl rfl (rd_move rfl rfl) ?_
      refine WM.r rfl rfl rfl (rd_move rfl rfl) ?_
      first
        | (refine WM.r rfl rfl rfl (rd_sub64nl rfl rfl rfl ?_) ?_; focus (omega))
        | (refine WM.r rfl rfl rfl (rd_sub64 rfl rfl rfl ?_) ?_; focus (omega))
      refine WM.r rfl rfl rfl (rd_ia rfl rfl rfl Tryd.underlying103 (by kernel_rfl : _ = some 1) ?_ (by (try simp only [Int.toNat_natCast, Nat.mul_one, Nat.zero_add, Nat.add_zero, Nat.zero_mul, Int.reduceToNat, Nat.reduceAdd, Nat.reduceMul, Nat.reduceSub, Nat.sub_zero]); rfl)) ?_
      · omega
      refine WM.r rfl rfl rfl (ld rfl rfl (by first | exact .here | exact .t1 | exact .t2 | exact .t3 | exact .t4 | exact .t5 | exact .t6 | exact .t7) Tryd.underlying102 rfl (by exact map_cell _ u32 _ _ _ (get_getD (sched j (words bs)) _ 0 (by omega)))) ?_
      refine WM.r rfl rfl rfl (rd_assign rfl rfl) ?_
      refine WM.r rfl rfl rfl (rd_assign rfl rfl) ?_
      refine WM.nil ?_
      refine WX.then_normal ?_
      refine WC.seq ?_
      refine WC.region ?_
      refine WL.r rfl rfl rfl (rd_move rfl rfl) ?_
      refine WL.g rfl rfl rfl (og_call rfl rfl (by kernel_rfl) (keep_val fun w _ => right_lit _ _ (by decide) (by decide) w)) ?_
      intro _
      refine WL.r rfl rfl rfl (rd_move rfl rfl) ?_
      refine WL.g rfl rfl rfl (og_call rfl rfl (by kernel_rfl) (keep_val fun w _ => right_lit _ _ (by decide) (by decide) w)) ?_
      intro _
      refine WL.r rfl rfl rfl (rdW_xor rfl rfl rfl) ?_
      refine WL.r rfl rfl rfl (rd_move rfl rfl) ?_
      refine WL.r rfl rfl rfl (rdW_shr rfl rfl rfl (by decide)) ?_
      refine WL.r rfl rfl rfl (rdW_xor rfl rfl rfl) ?_
      refine WL.r rfl rfl rfl (rd_assign rfl rfl) ?_
      refine WL.nil ?_
      refine WX.then_normal ?_
      refine WC.seq ?_
      refine WC.region ?_
      refine WL.r rfl rfl rfl (rd_move rfl rfl) ?_
      refine WL.g rfl rfl rfl (og_call rfl rfl (by kernel_rfl) (keep_val fun w _ => right_lit _ _ (by decide) (by decide) w)) ?_
      intro _
      refine WL.r rfl rfl rfl (rd_move rfl rfl) ?_
      refine WL.g rfl rfl rfl (og_call rfl rfl (by kernel_rfl) (keep_val fun w _ => right_lit _ _ (by decide) (by decide) w)) ?_
      intro _
      refine WL.r rfl rfl rfl (rdW_xor rfl rfl rfl) ?_
      refine WL.r rfl rfl rfl (rd_move rfl rfl) ?_
      refine WL.r rfl rfl rfl (rdW_shr rfl rfl rfl (by decide)) ?_
      refine WL.r rfl rfl rfl (rdW_xor rfl rfl rfl) ?_
      refine WL.r rfl rfl rfl (rd_assign rfl rfl) ?_
      refine WL.nil ?_
      refine WX.then_normal ?_
      refine WC.mix [0, 0, 0, 0, 0, 0, 0, 0, 0, 0, 0, 0, 0, 0, 0, 0, 0, 0, 2] (by kernel_rfl) (by kernel_rfl) (fun w h => h.draw) ?_
      refine WM.r rfl rfl rfl (rd_move rfl rfl) ?_
      refine WM.r rfl rfl rfl (rd_move rfl rfl) ?_
      refine WM.r rfl rfl rfl (rd_move rfl rfl) ?_
      refine WM.r rfl rfl rfl (rd_move rfl rfl) ?_
      first
        | (refine WM.r rfl rfl rfl (rd_sub64nl rfl rfl rfl ?_) ?_; focus (omega))
        | (refine WM.r rfl rfl rfl (rd_sub64 rfl rfl rfl ?_) ?_; focus (omega))
      refine WM.r rfl rfl rfl (rd_ia rfl rfl rfl Tryd.underlying103 (by kernel_rfl : _ = some 1) ?_ (by (try simp only [Int.toNat_natCast, Nat.mul_one, Nat.zero_add, Nat.add_zero, Nat.zero_mul, Int.reduceToNat, Nat.reduceAdd, Nat.reduceMul, Nat.reduceSub, Nat.sub_zero]); rfl)) ?_
      · omega
      refine WM.r rfl rfl rfl (ld rfl rfl (by first | exact .here | exact .t1 | exact .t2 | exact .t3 | exact .t4 | exact .t5 | exact .t6 | exact .t7) Tryd.underlying102 rfl (by exact map_cell _ u32 _ _ _ (get_getD (sched j (words bs)) _ 0 (by omega)))) ?_
      refine WM.r rfl rfl rfl (rd_move rfl rfl) ?_
      refine WM.r rfl rfl rfl (rdW_add rfl rfl rfl) ?_
      refine WM.r rfl rfl rfl (rd_move rfl rfl) ?_
      refine WM.r rfl rfl rfl (rd_move rfl rfl) ?_
      first
        | (refine WM.r rfl rfl rfl (rd_sub64nl rfl rfl rfl ?_) ?_; focus (omega))
        | (refine WM.r rfl rfl rfl (rd_sub64 rfl rfl rfl ?_) ?_; focus (omega))
      refine WM.r rfl rfl rfl (rd_ia rfl rfl rfl Tryd.underlying103 (by kernel_rfl : _ = some 1) ?_ (by (try simp only [Int.toNat_natCast, Nat.mul_one, Nat.zero_add, Nat.add_zero, Nat.zero_mul, Int.reduceToNat, Nat.reduceAdd, Nat.reduceMul, Nat.reduceSub, Nat.sub_zero]); rfl)) ?_
      · omega
      refine WM.r rfl rfl rfl (ld rfl rfl (by first | exact .here | exact .t1 | exact .t2 | exact .t3 | exact .t4 | exact .t5 | exact .t6 | exact .t7) Tryd.underlying102 rfl (by exact map_cell _ u32 _ _ _ (get_getD (sched j (words bs)) _ 0 (by omega)))) ?_
      refine WM.r rfl rfl rfl (rdW_add rfl rfl rfl) ?_
      refine WM.r rfl rfl rfl (rd_move rfl rfl) ?_
      refine WM.r rfl rfl rfl (rdW_add rfl rfl rfl) ?_
      refine WM.set 82 rfl (v' := u32 (nextW (sched j (words bs)))) (by unfold nextW; rw [hsl]; rfl) ?_
      refine WM.r rfl rfl rfl (rd_ia rfl rfl rfl Tryd.underlying103 (by kernel_rfl : _ = some 1) ?_ (by (try simp only [Int.toNat_natCast, Nat.mul_one, Nat.zero_add, Nat.add_zero, Nat.zero_mul, Int.reduceToNat, Nat.reduceAdd, Nat.reduceMul, Nat.reduceSub, Nat.sub_zero]); rfl)) ?_
      · omega
      refine WM.h0 rfl rfl (st rfl rfl rfl (by first | exact .here | exact .t1 | exact .t2 | exact .t3 | exact .t4 | exact .t5 | exact .t6 | exact .t7) (by kernel_rfl) rfl ?_ rfl) ?_
      · simp [hsl]; omega
      intro _
      refine WM.nil ?_
      refine WX.block_normal ?_
      refine WX.then_normal ?_
      refine WC.region ?_
      refine WL.r rfl rfl rfl (rd_move rfl rfl) ?_
      first
        | (refine WL.r rfl rfl rfl (rd_add64nl rfl rfl rfl ?_) ?_; focus (omega))
        | (refine WL.r rfl rfl rfl (rd_add64 rfl rfl rfl ?_) ?_; focus (omega))
      refine WL.r rfl rfl rfl (rd_assign rfl rfl) ?_
      refine WL.nil ?_
      exact WX.loop (j + 1) (by omega) (by repeat (first | exact sub_nil _ | refine sub_cons rfl ?_)) (fun w' h => ⟨by omega, by rw [sched_set j (words bs) hwl (by omega)] at h; exact h⟩)
    · (try simp only [decide_eq_true_eq, decide_eq_false_iff_not, Bool.not_eq_true', Bool.not_eq_false', Bool.not_not, Int.not_lt, Int.not_le] at hc37)
      refine WC.exit ?_
      refine WX.then_exit ?_
      refine WX.then_exit ?_
      refine WX.block_exit ?_
      obtain rfl : j = 48 := by omega
      rw [Nat.sub_self, List.replicate_zero]
      refine WX.then_normal ?_
      refine WC.seq ?_
      refine WC.region ?_
      refine WL.r rfl rfl rfl (rd_move rfl rfl) ?_
      refine WL.r rfl rfl rfl (rd_assign rfl rfl) ?_
      refine WL.nil ?_
      refine WX.then_normal ?_
      refine WC.ret ?_
      refine WX.ret1 rfl rfl fun w' hS => ⟨b11, rfl, hS.below, ?_⟩
      have h2 := st_freeze hS
      intro x hx; simp only [List.mem_singleton] at hx; subst hx; exact Fact.mono _ (fun _ hb => hb.1) (h2.holds (k := 0) rfl)
end Go.Proofs.YtikcjkifhliidaaDoor
