/-
  The walks of the statements on hashes: HashKeys, HashPads, HashReads.
-/
import Derived.Test.YtnhlgpkdbcnocaaLaw05a
import Derived.Test.YtnhlgpkdbcnocaaOrd
namespace Go.Proofs.Ytnhlgpkdbcnocaa
set_option linter.unusedSimpArgs false
set_option linter.unusedVariables false
open Go.RowKit

theorem keyOf_keyOf (key : List UInt8) : keyOf (keyOf key) = keyOf key := by
  have := keyOf_len key
  rw [keyOf.eq_def (keyOf key), if_neg (by omega)]
theorem mac_keyOf (key s : List UInt8) : mac (keyOf key) s = mac key s := by rw [mac, mac, keyOf_keyOf]
theorem mac_pad (key s : List UInt8) (k : Nat) (h : key.length + k ≤ 64) : mac (key ++ List.replicate k 0) s = mac key s := by
  have e1 : keyOf (key ++ List.replicate k 0) = key ++ List.replicate k 0 := by rw [keyOf, if_neg (by simp; omega)]
  have e2 : keyOf key = key := by rw [keyOf, if_neg (by omega)]
  have e3 (x : UInt8) : xorKey (key ++ List.replicate k 0) x = xorKey key x := by
    have : 64 - (key ++ List.replicate k (0 : UInt8)).length = 64 - key.length - k := by simp; omega
    rw [xorKey, xorKey, this, List.append_assoc, List.replicate_append_replicate, show k + (64 - key.length - k) = 64 - key.length by omega]
  rw [mac, mac, e1, e2, e3, e3]

theorem keys_ok (key s : List UInt8) (w : World) : Calls Try.prog 6 #[.string (S key), .string (S s)] w fun e w' => e = .returned (.bool true) ∧ Below w.heap.size w w' := by
  have hkl := keyOf_len key
  obtain ⟨K, hK⟩ : ∃ K, keyOf key ++ List.replicate (64 - (keyOf key).length) 0 = K := ⟨_, rfl⟩
  have hKl : K.length = 64 := by rw [← hK]; simp; omega
  have hx1 : xorKey (keyOf key) 92 = K.map (· ^^^ 92) := by rw [xorKey, hK]
  have hx2 : xorKey (keyOf key) 54 = K.map (· ^^^ 54) := by rw [xorKey, hK]
  refine enter (S := St (fun _ => True) w [] []) (L := [(0, .string (S key)), (1, .string (S s))]) Try.func6 rfl Try.ntmps6 rfl (args_cons rfl (args_cons rfl (args_nil _))) (St.start (fun _ _ => trivial) (by simp)) ?_
  refine WC.seq ?_
  refine WC.region ?_
  refine WL.r rfl rfl rfl (rd_assign rfl rfl) ?_
  refine WL.nil ?_
  refine WX.then_normal ?_
  refine WC.seq ?_
  refine WC.seq ?_
  refine WC.region ?_
  refine WL.r rfl rfl rfl (rd_move rfl rfl) ?_
  refine WL.r rfl rfl rfl (rd_slen rfl rfl Try.underlying9) ?_
  refine WL.r rfl rfl rfl (rd_gtr rfl rfl rfl) ?_
  refine WL.r rfl rfl rfl (rd_move rfl rfl) ?_
  refine WL.bool 12 rfl (fun hg12 => ?_) (fun hg12 => ?_)
  · (try simp only [decide_eq_true_eq, decide_eq_false_iff_not, Bool.not_eq_true', Bool.not_eq_false', Bool.not_not, Int.not_lt, Int.not_le] at hg12)
    refine WL.s rfl rfl rfl ?_
    refine WL.s rfl rfl rfl ?_
    refine WL.s rfl rfl rfl ?_
    refine WL.r rfl rfl rfl (rd_pickt rfl rfl rfl) ?_
    refine WL.nil ?_
    refine WX.then_normal ?_
    refine WC.cond rfl (fun _ => ?_) (fun h => by cases h)
    refine WC.seq ?_
    refine WC.region ?_
    refine WL.g rfl rfl rfl (og_call rfl rfl (by kernel_rfl) (keep_val fun w _ => awake_ok w)) ?_
    intro _
    refine WL.r rfl rfl rfl (rd_assign rfl rfl) ?_
    refine WL.nil ?_
    refine WX.then_normal ?_
    refine WC.ret ?_
    refine WX.then_ret ?_
    exact WX.ret1 rfl rfl fun w' hS => ⟨rfl, hS.below⟩
  · (try simp only [decide_eq_true_eq, decide_eq_false_iff_not, Bool.not_eq_true', Bool.not_eq_false', Bool.not_not, Int.not_lt, Int.not_le] at hg12)
    refine WL.r rfl rfl rfl (rd_move rfl rfl) ?_
    refine WL.r rfl rfl rfl (rd_slen rfl rfl Try.underlying9) ?_
    refine WL.r rfl rfl rfl (rd_gtr rfl rfl rfl) ?_
    refine WL.r rfl rfl rfl (rd_pickf rfl rfl rfl) ?_
    refine WL.nil ?_
    refine WX.then_normal ?_
    refine WC.cond rfl (fun hc16 => ?_) (fun hc16 => ?_)
    · (try simp only [decide_eq_true_eq, decide_eq_false_iff_not, Bool.not_eq_true', Bool.not_eq_false', Bool.not_not, Int.not_lt, Int.not_le] at hc16)
      refine WC.seq ?_
      refine WC.region ?_
      refine WL.g rfl rfl rfl (og_call rfl rfl (by kernel_rfl) (keep_val fun w _ => awake_ok w)) ?_
      intro _
      refine WL.r rfl rfl rfl (rd_assign rfl rfl) ?_
      refine WL.nil ?_
      refine WX.then_normal ?_
      refine WC.ret ?_
      refine WX.then_ret ?_
      exact WX.ret1 rfl rfl fun w' hS => ⟨rfl, hS.below⟩
    · (try simp only [decide_eq_true_eq, decide_eq_false_iff_not, Bool.not_eq_true', Bool.not_eq_false', Bool.not_not, Int.not_lt, Int.not_le] at hc16)
      refine WC.skip ?_
      refine WX.then_normal ?_
      refine WC.seq ?_
      refine WC.region ?_
      refine WL.r rfl rfl rfl (rd_move rfl rfl) ?_
      refine WL.r rfl rfl rfl (rd_assign rfl rfl) ?_
      refine WL.nil ?_
      refine WX.then_normal ?_
      refine WC.seq ?_
      refine WC.seq ?_
      refine WC.region ?_
      refine WL.r rfl rfl rfl (rd_move rfl rfl) ?_
      refine WL.r rfl rfl rfl (rd_slen rfl rfl Try.underlying9) ?_
      refine WL.r rfl rfl rfl (rd_gtr rfl rfl rfl) ?_
      refine WL.nil ?_
      refine WX.then_normal ?_
      refine WC.cond rfl (fun hc21 => ?_) (fun hc21 => ?_)
      · (try simp only [decide_eq_true_eq, decide_eq_false_iff_not, Bool.not_eq_true', Bool.not_eq_false', Bool.not_not, Int.not_lt, Int.not_le] at hc21)
        refine WC.region ?_
        refine WL.r rfl rfl rfl (rd_move rfl rfl) ?_
        refine WL.g rfl rfl rfl (og_call rfl rfl (by kernel_rfl) (keep_val fun w _ => sum_ok _ (by omega) w)) ?_
        intro _
        refine WL.r rfl rfl rfl (rd_assign rfl rfl) ?_
        refine WL.set 5 rfl (v' := .string (S (keyOf key))) (by rw [keyOf, if_pos (by omega)]) ?_
        refine WL.nil ?_
        refine WX.then_normal ?_
        refine WC.seq ?_
        refine WC.seq ?_
        refine WC.region ?_
        refine WL.r rfl rfl rfl (rd_move rfl rfl) ?_
        refine WL.r rfl rfl rfl (rd_slen rfl rfl Try.underlying9) ?_
        refine WL.r rfl rfl rfl (rd_gtr rfl rfl rfl) ?_
        refine WL.nil ?_
        refine WX.then_normal ?_
        refine WC.cond rfl (fun hc26 => by exfalso; (try simp only [decide_eq_true_eq, decide_eq_false_iff_not, Bool.not_eq_true', Bool.not_eq_false', Bool.not_not, Int.not_lt, Int.not_le] at hc26); omega) (fun hc26 => ?_)
        (try simp only [decide_eq_true_eq, decide_eq_false_iff_not, Bool.not_eq_true', Bool.not_eq_false', Bool.not_not, Int.not_lt, Int.not_le] at hc26)
        refine WC.skip ?_
        refine WX.then_normal ?_
        refine WC.seq ?_
        refine WC.orders (γ := Nat × Nat) (fun g => [(0, .string (S key)), (1, .string (S s)), (5, .string (S (keyOf key))), (6, .slice (some ⟨g.1, 0, none⟩) 64 64), (7, .slice (some ⟨g.2, 0, none⟩) 64 64)]) (fun g w' => St (fun _ => True) w [⟨some g.2, List.replicate 64 (B 0), 5⟩, ⟨some g.1, List.replicate 64 (B 0), 5⟩] [] w') [[0, 1, 2, 3], [0, 2, 1, 3], [1, 0, 2, 3]] (by kernel_rfl) (by kernel_rfl) (by simp only [pickOps, List.map, List.getElem?_cons_zero, List.getElem?_cons_succ]; rfl) (fun w h => h.draw) ?_ ?_
        · refine AllL.cons ?_ ?_
          · skip
            refine WL.g rfl rfl rfl (og_mk rfl rfl rfl Try.underlying27 (by kernel_rfl : _ = some (some (.int .u8 0), 1, 1)) rfl ?_ (by (try simp only [Int.toNat_natCast, Nat.mul_one, Nat.zero_add, Nat.add_zero, Nat.zero_mul, Int.reduceToNat, Nat.reduceAdd, Nat.reduceMul, Nat.reduceSub, Nat.sub_zero]); rfl) (by (try simp only [Int.toNat_natCast, Nat.mul_one, Nat.zero_add, Nat.add_zero, Nat.zero_mul, Int.reduceToNat, Nat.reduceAdd, Nat.reduceMul, Nat.reduceSub, Nat.sub_zero]); rfl)) ?_
            · decide
            intro b27
            refine WL.g rfl rfl rfl (og_mk rfl rfl rfl Try.underlying27 (by kernel_rfl : _ = some (some (.int .u8 0), 1, 1)) rfl ?_ (by (try simp only [Int.toNat_natCast, Nat.mul_one, Nat.zero_add, Nat.add_zero, Nat.zero_mul, Int.reduceToNat, Nat.reduceAdd, Nat.reduceMul, Nat.reduceSub, Nat.sub_zero]); rfl) (by (try simp only [Int.toNat_natCast, Nat.mul_one, Nat.zero_add, Nat.add_zero, Nat.zero_mul, Int.reduceToNat, Nat.reduceAdd, Nat.reduceMul, Nat.reduceSub, Nat.sub_zero]); rfl)) ?_
            · decide
            intro b28
            refine WL.r rfl rfl rfl (rd_assign rfl rfl) ?_
            refine WL.r rfl rfl rfl (rd_assign rfl rfl) ?_
            refine WL.nil ?_
            exact WX.mid (b27, b28) (by repeat (first | exact sub_nil _ | refine sub_cons rfl ?_)) (fun w' h => by first | exact h | exact st_swap h)
          refine AllL.cons ?_ ?_
          · skip
            refine WL.g rfl rfl rfl (og_mk rfl rfl rfl Try.underlying27 (by kernel_rfl : _ = some (some (.int .u8 0), 1, 1)) rfl ?_ (by (try simp only [Int.toNat_natCast, Nat.mul_one, Nat.zero_add, Nat.add_zero, Nat.zero_mul, Int.reduceToNat, Nat.reduceAdd, Nat.reduceMul, Nat.reduceSub, Nat.sub_zero]); rfl) (by (try simp only [Int.toNat_natCast, Nat.mul_one, Nat.zero_add, Nat.add_zero, Nat.zero_mul, Int.reduceToNat, Nat.reduceAdd, Nat.reduceMul, Nat.reduceSub, Nat.sub_zero]); rfl)) ?_
            · decide
            intro b27
            refine WL.r rfl rfl rfl (rd_assign rfl rfl) ?_
            refine WL.g rfl rfl rfl (og_mk rfl rfl rfl Try.underlying27 (by kernel_rfl : _ = some (some (.int .u8 0), 1, 1)) rfl ?_ (by (try simp only [Int.toNat_natCast, Nat.mul_one, Nat.zero_add, Nat.add_zero, Nat.zero_mul, Int.reduceToNat, Nat.reduceAdd, Nat.reduceMul, Nat.reduceSub, Nat.sub_zero]); rfl) (by (try simp only [Int.toNat_natCast, Nat.mul_one, Nat.zero_add, Nat.add_zero, Nat.zero_mul, Int.reduceToNat, Nat.reduceAdd, Nat.reduceMul, Nat.reduceSub, Nat.sub_zero]); rfl)) ?_
            · decide
            intro b28
            refine WL.r rfl rfl rfl (rd_assign rfl rfl) ?_
            refine WL.nil ?_
            exact WX.mid (b27, b28) (by repeat (first | exact sub_nil _ | refine sub_cons rfl ?_)) (fun w' h => by first | exact h | exact st_swap h)
          refine AllL.cons ?_ ?_
          · skip
            refine WL.g rfl rfl rfl (og_mk rfl rfl rfl Try.underlying27 (by kernel_rfl : _ = some (some (.int .u8 0), 1, 1)) rfl ?_ (by (try simp only [Int.toNat_natCast, Nat.mul_one, Nat.zero_add, Nat.add_zero, Nat.zero_mul, Int.reduceToNat, Nat.reduceAdd, Nat.reduceMul, Nat.reduceSub, Nat.sub_zero]); rfl) (by (try simp only [Int.toNat_natCast, Nat.mul_one, Nat.zero_add, Nat.add_zero, Nat.zero_mul, Int.reduceToNat, Nat.reduceAdd, Nat.reduceMul, Nat.reduceSub, Nat.sub_zero]); rfl)) ?_
            · decide
            intro b28
            refine WL.g rfl rfl rfl (og_mk rfl rfl rfl Try.underlying27 (by kernel_rfl : _ = some (some (.int .u8 0), 1, 1)) rfl ?_ (by (try simp only [Int.toNat_natCast, Nat.mul_one, Nat.zero_add, Nat.add_zero, Nat.zero_mul, Int.reduceToNat, Nat.reduceAdd, Nat.reduceMul, Nat.reduceSub, Nat.sub_zero]); rfl) (by (try simp only [Int.toNat_natCast, Nat.mul_one, Nat.zero_add, Nat.add_zero, Nat.zero_mul, Int.reduceToNat, Nat.reduceAdd, Nat.reduceMul, Nat.reduceSub, Nat.sub_zero]); rfl)) ?_
            · decide
            intro b27
            refine WL.r rfl rfl rfl (rd_assign rfl rfl) ?_
            refine WL.r rfl rfl rfl (rd_assign rfl rfl) ?_
            refine WL.nil ?_
            exact WX.mid (b27, b28) (by repeat (first | exact sub_nil _ | refine sub_cons rfl ?_)) (fun w' h => by first | exact h | exact st_swap h)
          exact AllL.nil
        rintro ⟨b27, b28⟩; dsimp only
        refine WX.then_normal ?_
        refine WC.seq ?_
        refine WC.region ?_
        refine WL.r rfl rfl rfl (rd_move rfl rfl) ?_
        refine WL.r rfl rfl rfl (rd_move rfl rfl) ?_
        refine WL.g rfl rfl rfl (cpys rfl rfl rfl (by first | exact .here | exact .t1 | exact .t2 | exact .t3 | exact .t4 | exact .t5 | exact .t6 | exact .t7) Try.underlying27 (by kernel_rfl) (m := (keyOf key).length) (by omega) (by simp; omega) (ys := K.map B) (by rw [← hK, List.take_zero, List.nil_append, Nat.zero_add, List.take_length, List.drop_replicate, List.map_append, List.map_replicate])) ?_
        intro _
        refine WL.nil ?_
        refine WX.then_normal ?_
        refine WC.seq ?_
        refine WC.region ?_
        refine WL.r rfl rfl rfl (rd_move rfl rfl) ?_
        refine WL.r rfl rfl rfl (rd_move rfl rfl) ?_
        refine WL.g rfl rfl rfl (cpys rfl rfl rfl (by first | exact .here | exact .t1 | exact .t2 | exact .t3 | exact .t4 | exact .t5 | exact .t6 | exact .t7) Try.underlying27 (by kernel_rfl) (m := (keyOf key).length) (by omega) (by simp; omega) (ys := K.map B) (by rw [← hK, List.take_zero, List.nil_append, Nat.zero_add, List.take_length, List.drop_replicate, List.map_append, List.map_replicate])) ?_
        intro _
        refine WL.nil ?_
        refine WX.then_normal ?_
        refine WC.seq ?_
        refine WC.seq ?_
        refine WC.region ?_
        refine WL.r rfl rfl rfl (rd_assign rfl rfl) ?_
        refine WL.nil ?_
        refine WX.then_normal ?_
        refine WC.block ?_
        refine WC.loop (σ := Nat) (fun k => [(0, .string (S key)), (1, .string (S s)), (5, .string (S (keyOf key))), (6, .slice (some ⟨b27, 0, none⟩) 64 64), (7, .slice (some ⟨b28, 0, none⟩) 64 64), (8, .int .i64 (k : Int))]) (fun k w' => k ≤ 64 ∧ St (fun _ => True) w [⟨some b28, ((K.take k).map (· ^^^ 92) ++ K.drop k).map B, 5⟩, ⟨some b27, ((K.take k).map (· ^^^ 54) ++ K.drop k).map B, 5⟩] [] w') (fun k => 64 - k) 0 (by repeat (first | exact sub_nil _ | refine sub_cons rfl ?_)) (fun w' h => ⟨by omega, h⟩) ?_
        intro k; refine WC.pu ?_; intro hk
        refine WC.seq ?_
        refine WC.seq ?_
        refine WC.region ?_
        refine WL.r rfl rfl rfl (rd_move rfl rfl) ?_
        refine WL.r rfl rfl rfl (rd_lss rfl rfl rfl) ?_
        refine WL.nil ?_
        refine WX.then_normal ?_
        refine WC.cond rfl (fun hc36 => ?_) (fun hc36 => ?_)
        · (try simp only [decide_eq_true_eq, decide_eq_false_iff_not, Bool.not_eq_true', Bool.not_eq_false', Bool.not_not, Int.not_lt, Int.not_le] at hc36)
          obtain ⟨c, hc⟩ : ∃ c, K[k]? = some c := ⟨_, List.getElem?_eq_getElem (by omega)⟩
          refine WC.skip ?_
          refine WX.then_normal ?_
          refine WC.seq ?_
          refine WC.block ?_
          refine WC.seq ?_
          refine WC.region ?_
          refine WL.r rfl rfl rfl (rd_move rfl rfl) ?_
          refine WL.r rfl rfl rfl (rd_move rfl rfl) ?_
          refine WL.r rfl rfl rfl (rd_ia rfl rfl rfl Try.underlying27 (by kernel_rfl : _ = some 1) ?_ (by (try simp only [Int.toNat_natCast, Nat.mul_one, Nat.zero_add, Nat.add_zero, Nat.zero_mul, Int.reduceToNat, Nat.reduceAdd, Nat.reduceMul, Nat.reduceSub, Nat.sub_zero]); rfl)) ?_
          · omega
          refine WL.r rfl rfl rfl (ld rfl rfl (by first | exact .here | exact .t1 | exact .t2 | exact .t3 | exact .t4 | exact .t5 | exact .t6 | exact .t7) Try.underlying5 rfl (by exact map_here K (· ^^^ 54) k c hc)) ?_
          refine WL.r rfl rfl rfl (rd_xor rfl rfl rfl) ?_
          refine WL.set 43 rfl (v' := B (c ^^^ 54)) (congrArg (Value.int .u8) (xor_u8 c 54)) ?_
          refine WL.r rfl rfl rfl (rd_ia rfl rfl rfl Try.underlying27 (by kernel_rfl : _ = some 1) ?_ (by (try simp only [Int.toNat_natCast, Nat.mul_one, Nat.zero_add, Nat.add_zero, Nat.zero_mul, Int.reduceToNat, Nat.reduceAdd, Nat.reduceMul, Nat.reduceSub, Nat.sub_zero]); rfl)) ?_
          · omega
          refine WL.g0 rfl rfl (st rfl rfl rfl (by first | exact .here | exact .t1 | exact .t2 | exact .t3 | exact .t4 | exact .t5 | exact .t6 | exact .t7) (by kernel_rfl) rfl ?_ rfl) ?_
          · simp; omega
          intro _
          refine WL.nil ?_
          refine WX.then_normal ?_
          refine WC.region ?_
          refine WL.r rfl rfl rfl (rd_move rfl rfl) ?_
          refine WL.r rfl rfl rfl (rd_move rfl rfl) ?_
          refine WL.r rfl rfl rfl (rd_ia rfl rfl rfl Try.underlying27 (by kernel_rfl : _ = some 1) ?_ (by (try simp only [Int.toNat_natCast, Nat.mul_one, Nat.zero_add, Nat.add_zero, Nat.zero_mul, Int.reduceToNat, Nat.reduceAdd, Nat.reduceMul, Nat.reduceSub, Nat.sub_zero]); rfl)) ?_
          · omega
          refine WL.r rfl rfl rfl (ld rfl rfl (by first | exact .here | exact .t1 | exact .t2 | exact .t3 | exact .t4 | exact .t5 | exact .t6 | exact .t7) Try.underlying5 rfl (by exact map_here K (· ^^^ 92) k c hc)) ?_
          refine WL.r rfl rfl rfl (rd_xor rfl rfl rfl) ?_
          refine WL.set 49 rfl (v' := B (c ^^^ 92)) (congrArg (Value.int .u8) (xor_u8 c 92)) ?_
          refine WL.r rfl rfl rfl (rd_ia rfl rfl rfl Try.underlying27 (by kernel_rfl : _ = some 1) ?_ (by (try simp only [Int.toNat_natCast, Nat.mul_one, Nat.zero_add, Nat.add_zero, Nat.zero_mul, Int.reduceToNat, Nat.reduceAdd, Nat.reduceMul, Nat.reduceSub, Nat.sub_zero]); rfl)) ?_
          · omega
          refine WL.g0 rfl rfl (st rfl rfl rfl (by first | exact .here | exact .t1 | exact .t2 | exact .t3 | exact .t4 | exact .t5 | exact .t6 | exact .t7) (by kernel_rfl) rfl ?_ rfl) ?_
          · simp; omega
          intro _
          refine WL.nil ?_
          refine WX.block_normal ?_
          refine WX.then_normal ?_
          refine WC.region ?_
          refine WL.r rfl rfl rfl (rd_move rfl rfl) ?_
          first
            | (refine WL.r rfl rfl rfl (rd_add64nl rfl rfl rfl ?_) ?_; focus (omega))
            | (refine WL.r rfl rfl rfl (rd_add64 rfl rfl rfl ?_) ?_; focus (omega))
          refine WL.r rfl rfl rfl (rd_assign rfl rfl) ?_
          refine WL.nil ?_
          exact WX.loop (k + 1) (by omega) (by repeat (first | exact sub_nil _ | refine sub_cons rfl ?_)) (fun w' h => ⟨by omega, by rw [map_step K (· ^^^ 54) k c hc, map_step K (· ^^^ 92) k c hc] at h; exact h⟩)
        · (try simp only [decide_eq_true_eq, decide_eq_false_iff_not, Bool.not_eq_true', Bool.not_eq_false', Bool.not_not, Int.not_lt, Int.not_le] at hc36)
          refine WC.exit ?_
          refine WX.then_exit ?_
          refine WX.then_exit ?_
          refine WX.block_exit ?_
          obtain rfl : k = 64 := by omega
          rw [List.take_of_length_le (by omega), List.drop_eq_nil_of_le (by omega), List.append_nil, List.append_nil]
          refine WX.then_normal ?_
          refine WC.seq ?_
          refine WC.mix [0, 0, 1, 0, 0, 0, 0, 0, 0, 1, 0, 1, 0, 0, 0, 0, 1, 0, 0, 1, 0, 0, 0, 1, 0, 0] (by kernel_rfl) (by kernel_rfl) (fun w h => h.draw) ?_
          refine WM.r rfl rfl rfl (rd_move rfl rfl) ?_
          refine WM.r rfl rfl rfl (rd_move rfl rfl) ?_
          refine WM.g rfl rfl rfl (og_call rfl rfl (by kernel_rfl) (keep_val fun w _ => mac_ok key s (by omega) (by omega) w)) (fun _ _ h => by first | exact h | exact h.2 | exact h.sub (by repeat (first | exact List.Sublist.refl _ | apply List.Sublist.cons)) (fun _ h => by simp [*]) | exact h.2.sub (by repeat (first | exact List.Sublist.refl _ | apply List.Sublist.cons)) (fun _ h => by simp [*])) ?_
          intro _
          refine WM.r rfl rfl rfl (rd_move rfl rfl) ?_
          refine WM.r rfl rfl rfl (b2s (l := K.map (· ^^^ 92)) rfl rfl (by first | exact .here | exact .t1 | exact .t2 | exact .t3 | exact .t4 | exact .t5 | exact .t6 | exact .t7) Try.underlying27 Try.underlying5 Try.underlying9 ?_ ?_) ?_
          · rw [List.drop_zero, List.take_of_length_le (by simp [hKl])]
          · simp [hKl]
          refine WM.r rfl rfl rfl (rd_move rfl rfl) ?_
          refine WM.r rfl rfl rfl (b2s (l := K.map (· ^^^ 54)) rfl rfl (by first | exact .here | exact .t1 | exact .t2 | exact .t3 | exact .t4 | exact .t5 | exact .t6 | exact .t7) Try.underlying27 Try.underlying5 Try.underlying9 ?_ ?_) ?_
          · rw [List.drop_zero, List.take_of_length_le (by simp [hKl])]
          · simp [hKl]
          refine WM.r rfl rfl rfl (rd_move rfl rfl) ?_
          refine WM.r rfl rfl rfl (rd_cat rfl rfl rfl ?_) ?_
          · simp [hKl]; omega
          refine WM.g rfl rfl rfl (og_call rfl rfl (by kernel_rfl) (keep_val fun w _ => sum_ok _ (by simp [hKl]; omega) w)) (fun _ _ h => by first | exact h | exact h.2 | exact h.sub (by repeat (first | exact List.Sublist.refl _ | apply List.Sublist.cons)) (fun _ h => by simp [*]) | exact h.2.sub (by repeat (first | exact List.Sublist.refl _ | apply List.Sublist.cons)) (fun _ h => by simp [*])) ?_
          intro _
          refine WM.r rfl rfl rfl (rd_cat rfl rfl rfl ?_) ?_
          · simp [hKl, sha_len]
          refine WM.g rfl rfl rfl (og_call rfl rfl (by kernel_rfl) (keep_val fun w _ => sum_ok _ (by simp [hKl, sha_len]) w)) (fun _ _ h => by first | exact h | exact h.2 | exact h.sub (by repeat (first | exact List.Sublist.refl _ | apply List.Sublist.cons)) (fun _ h => by simp [*]) | exact h.2.sub (by repeat (first | exact List.Sublist.refl _ | apply List.Sublist.cons)) (fun _ h => by simp [*])) ?_
          intro _
          refine WM.r rfl rfl rfl (rd_seq rfl rfl rfl) ?_
          refine WM.set 63 rfl (v' := .bool true) (by exact congrArg Value.bool (decide_eq_true (by rw [mac, hx1, hx2]))) ?_
          refine WM.r rfl rfl rfl (rd_move rfl rfl) ?_
          refine WM.r rfl rfl rfl (rd_move rfl rfl) ?_
          refine WM.r rfl rfl rfl (rd_move rfl rfl) ?_
          refine WM.g rfl rfl rfl (og_call rfl rfl (by kernel_rfl) (keep_val fun w _ => mac_ok key s (by omega) (by omega) w)) (fun _ _ h => by first | exact h | exact h.2 | exact h.sub (by repeat (first | exact List.Sublist.refl _ | apply List.Sublist.cons)) (fun _ h => by simp [*]) | exact h.2.sub (by repeat (first | exact List.Sublist.refl _ | apply List.Sublist.cons)) (fun _ h => by simp [*])) ?_
          intro _
          refine WM.r rfl rfl rfl (rd_move rfl rfl) ?_
          refine WM.r rfl rfl rfl (rd_move rfl rfl) ?_
          refine WM.g rfl rfl rfl (og_call rfl rfl (by kernel_rfl) (keep_val fun w _ => mac_ok (keyOf key) s (by omega) (by omega) w)) (fun _ _ h => by first | exact h | exact h.2 | exact h.sub (by repeat (first | exact List.Sublist.refl _ | apply List.Sublist.cons)) (fun _ h => by simp [*]) | exact h.2.sub (by repeat (first | exact List.Sublist.refl _ | apply List.Sublist.cons)) (fun _ h => by simp [*])) ?_
          intro _
          refine WM.r rfl rfl rfl (rd_seq rfl rfl rfl) ?_
          refine WM.set 71 rfl (v' := .bool true) (by exact congrArg Value.bool (decide_eq_true (mac_keyOf key s).symm)) ?_
          refine WM.r rfl rfl rfl (rd_pickt rfl rfl rfl) ?_
          refine WM.r rfl rfl rfl (rd_move rfl rfl) ?_
          refine WM.g rfl rfl rfl (og_call rfl rfl (by kernel_rfl) (keep_val fun w _ => awake_ok w)) (fun _ _ h => by first | exact h | exact h.2 | exact h.sub (by repeat (first | exact List.Sublist.refl _ | apply List.Sublist.cons)) (fun _ h => by simp [*]) | exact h.2.sub (by repeat (first | exact List.Sublist.refl _ | apply List.Sublist.cons)) (fun _ h => by simp [*])) ?_
          intro _
          refine WM.r rfl rfl rfl (rd_pickt rfl rfl rfl) ?_
          refine WM.r rfl rfl rfl (rd_assign rfl rfl) ?_
          refine WM.nil ?_
          refine WX.then_normal ?_
          refine WC.ret ?_
          exact WX.ret1 rfl rfl fun w' hS => ⟨rfl, hS.below⟩
      · (try simp only [decide_eq_true_eq, decide_eq_false_iff_not, Bool.not_eq_true', Bool.not_eq_false', Bool.not_not, Int.not_lt, Int.not_le] at hc21)
        refine WC.set 5 rfl (v' := .string (S (keyOf key))) (by rw [keyOf, if_neg (by omega)]) ?_
        refine WC.skip ?_
        refine WX.then_normal ?_
        refine WC.seq ?_
        refine WC.seq ?_
        refine WC.region ?_
        refine WL.r rfl rfl rfl (rd_move rfl rfl) ?_
        refine WL.r rfl rfl rfl (rd_slen rfl rfl Try.underlying9) ?_
        refine WL.r rfl rfl rfl (rd_gtr rfl rfl rfl) ?_
        refine WL.nil ?_
        refine WX.then_normal ?_
        refine WC.cond rfl (fun hc26 => by exfalso; (try simp only [decide_eq_true_eq, decide_eq_false_iff_not, Bool.not_eq_true', Bool.not_eq_false', Bool.not_not, Int.not_lt, Int.not_le] at hc26); omega) (fun hc26 => ?_)
        (try simp only [decide_eq_true_eq, decide_eq_false_iff_not, Bool.not_eq_true', Bool.not_eq_false', Bool.not_not, Int.not_lt, Int.not_le] at hc26)
        refine WC.skip ?_
        refine WX.then_normal ?_
        refine WC.seq ?_
        refine WC.orders (γ := Nat × Nat) (fun g => [(0, .string (S key)), (1, .string (S s)), (5, .string (S (keyOf key))), (6, .slice (some ⟨g.1, 0, none⟩) 64 64), (7, .slice (some ⟨g.2, 0, none⟩) 64 64)]) (fun g w' => St (fun _ => True) w [⟨some g.2, List.replicate 64 (B 0), 5⟩, ⟨some g.1, List.replicate 64 (B 0), 5⟩] [] w') [[0, 1, 2, 3], [0, 2, 1, 3], [1, 0, 2, 3]] (by kernel_rfl) (by kernel_rfl) (by simp only [pickOps, List.map, List.getElem?_cons_zero, List.getElem?_cons_succ]; rfl) (fun w h => h.draw) ?_ ?_
        · refine AllL.cons ?_ ?_
          · skip
            refine WL.g rfl rfl rfl (og_mk rfl rfl rfl Try.underlying27 (by kernel_rfl : _ = some (some (.int .u8 0), 1, 1)) rfl ?_ (by (try simp only [Int.toNat_natCast, Nat.mul_one, Nat.zero_add, Nat.add_zero, Nat.zero_mul, Int.reduceToNat, Nat.reduceAdd, Nat.reduceMul, Nat.reduceSub, Nat.sub_zero]); rfl) (by (try simp only [Int.toNat_natCast, Nat.mul_one, Nat.zero_add, Nat.add_zero, Nat.zero_mul, Int.reduceToNat, Nat.reduceAdd, Nat.reduceMul, Nat.reduceSub, Nat.sub_zero]); rfl)) ?_
            · decide
            intro b27
            refine WL.g rfl rfl rfl (og_mk rfl rfl rfl Try.underlying27 (by kernel_rfl : _ = some (some (.int .u8 0), 1, 1)) rfl ?_ (by (try simp only [Int.toNat_natCast, Nat.mul_one, Nat.zero_add, Nat.add_zero, Nat.zero_mul, Int.reduceToNat, Nat.reduceAdd, Nat.reduceMul, Nat.reduceSub, Nat.sub_zero]); rfl) (by (try simp only [Int.toNat_natCast, Nat.mul_one, Nat.zero_add, Nat.add_zero, Nat.zero_mul, Int.reduceToNat, Nat.reduceAdd, Nat.reduceMul, Nat.reduceSub, Nat.sub_zero]); rfl)) ?_
            · decide
            intro b28
            refine WL.r rfl rfl rfl (rd_assign rfl rfl) ?_
            refine WL.r rfl rfl rfl (rd_assign rfl rfl) ?_
            refine WL.nil ?_
            exact WX.mid (b27, b28) (by repeat (first | exact sub_nil _ | refine sub_cons rfl ?_)) (fun w' h => by first | exact h | exact st_swap h)
          refine AllL.cons ?_ ?_
          · skip
            refine WL.g rfl rfl rfl (og_mk rfl rfl rfl Try.underlying27 (by kernel_rfl : _ = some (some (.int .u8 0), 1, 1)) rfl ?_ (by (try simp only [Int.toNat_natCast, Nat.mul_one, Nat.zero_add, Nat.add_zero, Nat.zero_mul, Int.reduceToNat, Nat.reduceAdd, Nat.reduceMul, Nat.reduceSub, Nat.sub_zero]); rfl) (by (try simp only [Int.toNat_natCast, Nat.mul_one, Nat.zero_add, Nat.add_zero, Nat.zero_mul, Int.reduceToNat, Nat.reduceAdd, Nat.reduceMul, Nat.reduceSub, Nat.sub_zero]); rfl)) ?_
            · decide
            intro b27
            refine WL.r rfl rfl rfl (rd_assign rfl rfl) ?_
            refine WL.g rfl rfl rfl (og_mk rfl rfl rfl Try.underlying27 (by kernel_rfl : _ = some (some (.int .u8 0), 1, 1)) rfl ?_ (by (try simp only [Int.toNat_natCast, Nat.mul_one, Nat.zero_add, Nat.add_zero, Nat.zero_mul, Int.reduceToNat, Nat.reduceAdd, Nat.reduceMul, Nat.reduceSub, Nat.sub_zero]); rfl) (by (try simp only [Int.toNat_natCast, Nat.mul_one, Nat.zero_add, Nat.add_zero, Nat.zero_mul, Int.reduceToNat, Nat.reduceAdd, Nat.reduceMul, Nat.reduceSub, Nat.sub_zero]); rfl)) ?_
            · decide
            intro b28
            refine WL.r rfl rfl rfl (rd_assign rfl rfl) ?_
            refine WL.nil ?_
            exact WX.mid (b27, b28) (by repeat (first | exact sub_nil _ | refine sub_cons rfl ?_)) (fun w' h => by first | exact h | exact st_swap h)
          refine AllL.cons ?_ ?_
          · skip
            refine WL.g rfl rfl rfl (og_mk rfl rfl rfl Try.underlying27 (by kernel_rfl : _ = some (some (.int .u8 0), 1, 1)) rfl ?_ (by (try simp only [Int.toNat_natCast, Nat.mul_one, Nat.zero_add, Nat.add_zero, Nat.zero_mul, Int.reduceToNat, Nat.reduceAdd, Nat.reduceMul, Nat.reduceSub, Nat.sub_zero]); rfl) (by (try simp only [Int.toNat_natCast, Nat.mul_one, Nat.zero_add, Nat.add_zero, Nat.zero_mul, Int.reduceToNat, Nat.reduceAdd, Nat.reduceMul, Nat.reduceSub, Nat.sub_zero]); rfl)) ?_
            · decide
            intro b28
            refine WL.g rfl rfl rfl (og_mk rfl rfl rfl Try.underlying27 (by kernel_rfl : _ = some (some (.int .u8 0), 1, 1)) rfl ?_ (by (try simp only [Int.toNat_natCast, Nat.mul_one, Nat.zero_add, Nat.add_zero, Nat.zero_mul, Int.reduceToNat, Nat.reduceAdd, Nat.reduceMul, Nat.reduceSub, Nat.sub_zero]); rfl) (by (try simp only [Int.toNat_natCast, Nat.mul_one, Nat.zero_add, Nat.add_zero, Nat.zero_mul, Int.reduceToNat, Nat.reduceAdd, Nat.reduceMul, Nat.reduceSub, Nat.sub_zero]); rfl)) ?_
            · decide
            intro b27
            refine WL.r rfl rfl rfl (rd_assign rfl rfl) ?_
            refine WL.r rfl rfl rfl (rd_assign rfl rfl) ?_
            refine WL.nil ?_
            exact WX.mid (b27, b28) (by repeat (first | exact sub_nil _ | refine sub_cons rfl ?_)) (fun w' h => by first | exact h | exact st_swap h)
          exact AllL.nil
        rintro ⟨b27, b28⟩; dsimp only
        refine WX.then_normal ?_
        refine WC.seq ?_
        refine WC.region ?_
        refine WL.r rfl rfl rfl (rd_move rfl rfl) ?_
        refine WL.r rfl rfl rfl (rd_move rfl rfl) ?_
        refine WL.g rfl rfl rfl (cpys rfl rfl rfl (by first | exact .here | exact .t1 | exact .t2 | exact .t3 | exact .t4 | exact .t5 | exact .t6 | exact .t7) Try.underlying27 (by kernel_rfl) (m := (keyOf key).length) (by omega) (by simp; omega) (ys := K.map B) (by rw [← hK, List.take_zero, List.nil_append, Nat.zero_add, List.take_length, List.drop_replicate, List.map_append, List.map_replicate])) ?_
        intro _
        refine WL.nil ?_
        refine WX.then_normal ?_
        refine WC.seq ?_
        refine WC.region ?_
        refine WL.r rfl rfl rfl (rd_move rfl rfl) ?_
        refine WL.r rfl rfl rfl (rd_move rfl rfl) ?_
        refine WL.g rfl rfl rfl (cpys rfl rfl rfl (by first | exact .here | exact .t1 | exact .t2 | exact .t3 | exact .t4 | exact .t5 | exact .t6 | exact .t7) Try.underlying27 (by kernel_rfl) (m := (keyOf key).length) (by omega) (by simp; omega) (ys := K.map B) (by rw [← hK, List.take_zero, List.nil_append, Nat.zero_add, List.take_length, List.drop_replicate, List.map_append, List.map_replicate])) ?_
        intro _
        refine WL.nil ?_
        refine WX.then_normal ?_
        refine WC.seq ?_
        refine WC.seq ?_
        refine WC.region ?_
        refine WL.r rfl rfl rfl (rd_assign rfl rfl) ?_
        refine WL.nil ?_
        refine WX.then_normal ?_
        refine WC.block ?_
        refine WC.loop (σ := Nat) (fun k => [(0, .string (S key)), (1, .string (S s)), (5, .string (S (keyOf key))), (6, .slice (some ⟨b27, 0, none⟩) 64 64), (7, .slice (some ⟨b28, 0, none⟩) 64 64), (8, .int .i64 (k : Int))]) (fun k w' => k ≤ 64 ∧ St (fun _ => True) w [⟨some b28, ((K.take k).map (· ^^^ 92) ++ K.drop k).map B, 5⟩, ⟨some b27, ((K.take k).map (· ^^^ 54) ++ K.drop k).map B, 5⟩] [] w') (fun k => 64 - k) 0 (by repeat (first | exact sub_nil _ | refine sub_cons rfl ?_)) (fun w' h => ⟨by omega, h⟩) ?_
        intro k; refine WC.pu ?_; intro hk
        refine WC.seq ?_
        refine WC.seq ?_
        refine WC.region ?_
        refine WL.r rfl rfl rfl (rd_move rfl rfl) ?_
        refine WL.r rfl rfl rfl (rd_lss rfl rfl rfl) ?_
        refine WL.nil ?_
        refine WX.then_normal ?_
        refine WC.cond rfl (fun hc36 => ?_) (fun hc36 => ?_)
        · (try simp only [decide_eq_true_eq, decide_eq_false_iff_not, Bool.not_eq_true', Bool.not_eq_false', Bool.not_not, Int.not_lt, Int.not_le] at hc36)
          obtain ⟨c, hc⟩ : ∃ c, K[k]? = some c := ⟨_, List.getElem?_eq_getElem (by omega)⟩
          refine WC.skip ?_
          refine WX.then_normal ?_
          refine WC.seq ?_
          refine WC.block ?_
          refine WC.seq ?_
          refine WC.region ?_
          refine WL.r rfl rfl rfl (rd_move rfl rfl) ?_
          refine WL.r rfl rfl rfl (rd_move rfl rfl) ?_
          refine WL.r rfl rfl rfl (rd_ia rfl rfl rfl Try.underlying27 (by kernel_rfl : _ = some 1) ?_ (by (try simp only [Int.toNat_natCast, Nat.mul_one, Nat.zero_add, Nat.add_zero, Nat.zero_mul, Int.reduceToNat, Nat.reduceAdd, Nat.reduceMul, Nat.reduceSub, Nat.sub_zero]); rfl)) ?_
          · omega
          refine WL.r rfl rfl rfl (ld rfl rfl (by first | exact .here | exact .t1 | exact .t2 | exact .t3 | exact .t4 | exact .t5 | exact .t6 | exact .t7) Try.underlying5 rfl (by exact map_here K (· ^^^ 54) k c hc)) ?_
          refine WL.r rfl rfl rfl (rd_xor rfl rfl rfl) ?_
          refine WL.set 43 rfl (v' := B (c ^^^ 54)) (congrArg (Value.int .u8) (xor_u8 c 54)) ?_
          refine WL.r rfl rfl rfl (rd_ia rfl rfl rfl Try.underlying27 (by kernel_rfl : _ = some 1) ?_ (by (try simp only [Int.toNat_natCast, Nat.mul_one, Nat.zero_add, Nat.add_zero, Nat.zero_mul, Int.reduceToNat, Nat.reduceAdd, Nat.reduceMul, Nat.reduceSub, Nat.sub_zero]); rfl)) ?_
          · omega
          refine WL.g0 rfl rfl (st rfl rfl rfl (by first | exact .here | exact .t1 | exact .t2 | exact .t3 | exact .t4 | exact .t5 | exact .t6 | exact .t7) (by kernel_rfl) rfl ?_ rfl) ?_
          · simp; omega
          intro _
          refine WL.nil ?_
          refine WX.then_normal ?_
          refine WC.region ?_
          refine WL.r rfl rfl rfl (rd_move rfl rfl) ?_
          refine WL.r rfl rfl rfl (rd_move rfl rfl) ?_
          refine WL.r rfl rfl rfl (rd_ia rfl rfl rfl Try.underlying27 (by kernel_rfl : _ = some 1) ?_ (by (try simp only [Int.toNat_natCast, Nat.mul_one, Nat.zero_add, Nat.add_zero, Nat.zero_mul, Int.reduceToNat, Nat.reduceAdd, Nat.reduceMul, Nat.reduceSub, Nat.sub_zero]); rfl)) ?_
          · omega
          refine WL.r rfl rfl rfl (ld rfl rfl (by first | exact .here | exact .t1 | exact .t2 | exact .t3 | exact .t4 | exact .t5 | exact .t6 | exact .t7) Try.underlying5 rfl (by exact map_here K (· ^^^ 92) k c hc)) ?_
          refine WL.r rfl rfl rfl (rd_xor rfl rfl rfl) ?_
          refine WL.set 49 rfl (v' := B (c ^^^ 92)) (congrArg (Value.int .u8) (xor_u8 c 92)) ?_
          refine WL.r rfl rfl rfl (rd_ia rfl rfl rfl Try.underlying27 (by kernel_rfl : _ = some 1) ?_ (by (try simp only [Int.toNat_natCast, Nat.mul_one, Nat.zero_add, Nat.add_zero, Nat.zero_mul, Int.reduceToNat, Nat.reduceAdd, Nat.reduceMul, Nat.reduceSub, Nat.sub_zero]); rfl)) ?_
          · omega
          refine WL.g0 rfl rfl (st rfl rfl rfl (by first | exact .here | exact .t1 | exact .t2 | exact .t3 | exact .t4 | exact .t5 | exact .t6 | exact .t7) (by kernel_rfl) rfl ?_ rfl) ?_
          · simp; omega
          intro _
          refine WL.nil ?_
          refine WX.block_normal ?_
          refine WX.then_normal ?_
          refine WC.region ?_
          refine WL.r rfl rfl rfl (rd_move rfl rfl) ?_
          first
            | (refine WL.r rfl rfl rfl (rd_add64nl rfl rfl rfl ?_) ?_; focus (omega))
            | (refine WL.r rfl rfl rfl (rd_add64 rfl rfl rfl ?_) ?_; focus (omega))
          refine WL.r rfl rfl rfl (rd_assign rfl rfl) ?_
          refine WL.nil ?_
          exact WX.loop (k + 1) (by omega) (by repeat (first | exact sub_nil _ | refine sub_cons rfl ?_)) (fun w' h => ⟨by omega, by rw [map_step K (· ^^^ 54) k c hc, map_step K (· ^^^ 92) k c hc] at h; exact h⟩)
        · (try simp only [decide_eq_true_eq, decide_eq_false_iff_not, Bool.not_eq_true', Bool.not_eq_false', Bool.not_not, Int.not_lt, Int.not_le] at hc36)
          refine WC.exit ?_
          refine WX.then_exit ?_
          refine WX.then_exit ?_
          refine WX.block_exit ?_
          obtain rfl : k = 64 := by omega
          rw [List.take_of_length_le (by omega), List.drop_eq_nil_of_le (by omega), List.append_nil, List.append_nil]
          refine WX.then_normal ?_
          refine WC.seq ?_
          refine WC.mix [0, 0, 1, 0, 0, 0, 0, 0, 0, 1, 0, 1, 0, 0, 0, 0, 1, 0, 0, 1, 0, 0, 0, 1, 0, 0] (by kernel_rfl) (by kernel_rfl) (fun w h => h.draw) ?_
          refine WM.r rfl rfl rfl (rd_move rfl rfl) ?_
          refine WM.r rfl rfl rfl (rd_move rfl rfl) ?_
          refine WM.g rfl rfl rfl (og_call rfl rfl (by kernel_rfl) (keep_val fun w _ => mac_ok key s (by omega) (by omega) w)) (fun _ _ h => by first | exact h | exact h.2 | exact h.sub (by repeat (first | exact List.Sublist.refl _ | apply List.Sublist.cons)) (fun _ h => by simp [*]) | exact h.2.sub (by repeat (first | exact List.Sublist.refl _ | apply List.Sublist.cons)) (fun _ h => by simp [*])) ?_
          intro _
          refine WM.r rfl rfl rfl (rd_move rfl rfl) ?_
          refine WM.r rfl rfl rfl (b2s (l := K.map (· ^^^ 92)) rfl rfl (by first | exact .here | exact .t1 | exact .t2 | exact .t3 | exact .t4 | exact .t5 | exact .t6 | exact .t7) Try.underlying27 Try.underlying5 Try.underlying9 ?_ ?_) ?_
          · rw [List.drop_zero, List.take_of_length_le (by simp [hKl])]
          · simp [hKl]
          refine WM.r rfl rfl rfl (rd_move rfl rfl) ?_
          refine WM.r rfl rfl rfl (b2s (l := K.map (· ^^^ 54)) rfl rfl (by first | exact .here | exact .t1 | exact .t2 | exact .t3 | exact .t4 | exact .t5 | exact .t6 | exact .t7) Try.underlying27 Try.underlying5 Try.underlying9 ?_ ?_) ?_
          · rw [List.drop_zero, List.take_of_length_le (by simp [hKl])]
          · simp [hKl]
          refine WM.r rfl rfl rfl (rd_move rfl rfl) ?_
          refine WM.r rfl rfl rfl (rd_cat rfl rfl rfl ?_) ?_
          · simp [hKl]; omega
          refine WM.g rfl rfl rfl (og_call rfl rfl (by kernel_rfl) (keep_val fun w _ => sum_ok _ (by simp [hKl]; omega) w)) (fun _ _ h => by first | exact h | exact h.2 | exact h.sub (by repeat (first | exact List.Sublist.refl _ | apply List.Sublist.cons)) (fun _ h => by simp [*]) | exact h.2.sub (by repeat (first | exact List.Sublist.refl _ | apply List.Sublist.cons)) (fun _ h => by simp [*])) ?_
          intro _
          refine WM.r rfl rfl rfl (rd_cat rfl rfl rfl ?_) ?_
          · simp [hKl, sha_len]
          refine WM.g rfl rfl rfl (og_call rfl rfl (by kernel_rfl) (keep_val fun w _ => sum_ok _ (by simp [hKl, sha_len]) w)) (fun _ _ h => by first | exact h | exact h.2 | exact h.sub (by repeat (first | exact List.Sublist.refl _ | apply List.Sublist.cons)) (fun _ h => by simp [*]) | exact h.2.sub (by repeat (first | exact List.Sublist.refl _ | apply List.Sublist.cons)) (fun _ h => by simp [*])) ?_
          intro _
          refine WM.r rfl rfl rfl (rd_seq rfl rfl rfl) ?_
          refine WM.set 63 rfl (v' := .bool true) (by exact congrArg Value.bool (decide_eq_true (by rw [mac, hx1, hx2]))) ?_
          refine WM.r rfl rfl rfl (rd_move rfl rfl) ?_
          refine WM.r rfl rfl rfl (rd_move rfl rfl) ?_
          refine WM.r rfl rfl rfl (rd_move rfl rfl) ?_
          refine WM.g rfl rfl rfl (og_call rfl rfl (by kernel_rfl) (keep_val fun w _ => mac_ok key s (by omega) (by omega) w)) (fun _ _ h => by first | exact h | exact h.2 | exact h.sub (by repeat (first | exact List.Sublist.refl _ | apply List.Sublist.cons)) (fun _ h => by simp [*]) | exact h.2.sub (by repeat (first | exact List.Sublist.refl _ | apply List.Sublist.cons)) (fun _ h => by simp [*])) ?_
          intro _
          refine WM.r rfl rfl rfl (rd_move rfl rfl) ?_
          refine WM.r rfl rfl rfl (rd_move rfl rfl) ?_
          refine WM.g rfl rfl rfl (og_call rfl rfl (by kernel_rfl) (keep_val fun w _ => mac_ok (keyOf key) s (by omega) (by omega) w)) (fun _ _ h => by first | exact h | exact h.2 | exact h.sub (by repeat (first | exact List.Sublist.refl _ | apply List.Sublist.cons)) (fun _ h => by simp [*]) | exact h.2.sub (by repeat (first | exact List.Sublist.refl _ | apply List.Sublist.cons)) (fun _ h => by simp [*])) ?_
          intro _
          refine WM.r rfl rfl rfl (rd_seq rfl rfl rfl) ?_
          refine WM.set 71 rfl (v' := .bool true) (by exact congrArg Value.bool (decide_eq_true (mac_keyOf key s).symm)) ?_
          refine WM.r rfl rfl rfl (rd_pickt rfl rfl rfl) ?_
          refine WM.r rfl rfl rfl (rd_move rfl rfl) ?_
          refine WM.g rfl rfl rfl (og_call rfl rfl (by kernel_rfl) (keep_val fun w _ => awake_ok w)) (fun _ _ h => by first | exact h | exact h.2 | exact h.sub (by repeat (first | exact List.Sublist.refl _ | apply List.Sublist.cons)) (fun _ h => by simp [*]) | exact h.2.sub (by repeat (first | exact List.Sublist.refl _ | apply List.Sublist.cons)) (fun _ h => by simp [*])) ?_
          intro _
          refine WM.r rfl rfl rfl (rd_pickt rfl rfl rfl) ?_
          refine WM.r rfl rfl rfl (rd_assign rfl rfl) ?_
          refine WM.nil ?_
          refine WX.then_normal ?_
          refine WC.ret ?_
          exact WX.ret1 rfl rfl fun w' hS => ⟨rfl, hS.below⟩

theorem pads_ok (key s : List UInt8) (n : Int) (w : World) : Calls Try.prog 7 #[.string (S key), .string (S s), .int .u8 n] w fun e w' => e = .returned (.bool true) ∧ Below w.heap.size w w' := by
  refine enter (S := St (fun _ => True) w [] []) (L := [(0, .string (S key)), (1, .string (S s)), (2, .int .u8 n)]) Try.func7 rfl Try.ntmps7 rfl (args_cons rfl (args_cons rfl (args_cons rfl (args_nil _)))) (St.start (fun _ _ => trivial) (by simp)) ?_
  refine WC.seq ?_
  refine WC.region ?_
  refine WL.r rfl rfl rfl (rd_assign rfl rfl) ?_
  refine WL.nil ?_
  refine WX.then_normal ?_
  refine WC.seq ?_
  refine WC.seq ?_
  refine WC.region ?_
  refine WL.r rfl rfl rfl (rd_move rfl rfl) ?_
  refine WL.r rfl rfl rfl (rd_slen rfl rfl Try.underlying9) ?_
  refine WL.r rfl rfl rfl (rd_gtr rfl rfl rfl) ?_
  refine WL.r rfl rfl rfl (rd_move rfl rfl) ?_
  refine WL.bool 12 rfl (fun hg12 => ?_) (fun hg12 => ?_)
  · (try simp only [decide_eq_true_eq, decide_eq_false_iff_not, Bool.not_eq_true', Bool.not_eq_false', Bool.not_not, Int.not_lt, Int.not_le] at hg12)
    refine WL.s rfl rfl rfl ?_
    refine WL.s rfl rfl rfl ?_
    refine WL.s rfl rfl rfl ?_
    refine WL.r rfl rfl rfl (rd_pickt rfl rfl rfl) ?_
    refine WL.nil ?_
    refine WX.then_normal ?_
    refine WC.cond rfl (fun _ => ?_) (fun h => by cases h)
    refine WC.seq ?_
    refine WC.region ?_
    refine WL.g rfl rfl rfl (og_call rfl rfl (by kernel_rfl) (keep_val fun w _ => awake_ok w)) ?_
    intro _
    refine WL.r rfl rfl rfl (rd_assign rfl rfl) ?_
    refine WL.nil ?_
    refine WX.then_normal ?_
    refine WC.ret ?_
    refine WX.then_ret ?_
    exact WX.ret1 rfl rfl fun w' hS => ⟨rfl, hS.below⟩
  · (try simp only [decide_eq_true_eq, decide_eq_false_iff_not, Bool.not_eq_true', Bool.not_eq_false', Bool.not_not, Int.not_lt, Int.not_le] at hg12)
    refine WL.r rfl rfl rfl (rd_move rfl rfl) ?_
    refine WL.r rfl rfl rfl (rd_slen rfl rfl Try.underlying9) ?_
    refine WL.r rfl rfl rfl (rd_gtr rfl rfl rfl) ?_
    refine WL.r rfl rfl rfl (rd_pickf rfl rfl rfl) ?_
    refine WL.nil ?_
    refine WX.then_normal ?_
    refine WC.cond rfl (fun hc16 => ?_) (fun hc16 => ?_)
    · (try simp only [decide_eq_true_eq, decide_eq_false_iff_not, Bool.not_eq_true', Bool.not_eq_false', Bool.not_not, Int.not_lt, Int.not_le] at hc16)
      refine WC.seq ?_
      refine WC.region ?_
      refine WL.g rfl rfl rfl (og_call rfl rfl (by kernel_rfl) (keep_val fun w _ => awake_ok w)) ?_
      intro _
      refine WL.r rfl rfl rfl (rd_assign rfl rfl) ?_
      refine WL.nil ?_
      refine WX.then_normal ?_
      refine WC.ret ?_
      refine WX.then_ret ?_
      exact WX.ret1 rfl rfl fun w' hS => ⟨rfl, hS.below⟩
    · (try simp only [decide_eq_true_eq, decide_eq_false_iff_not, Bool.not_eq_true', Bool.not_eq_false', Bool.not_not, Int.not_lt, Int.not_le] at hc16)
      refine WC.skip ?_
      refine WX.then_normal ?_
      refine WC.seq ?_
      refine WC.region ?_
      refine WL.r rfl rfl rfl (rd_move rfl rfl) ?_
      refine WL.r rfl rfl rfl (rd_assign rfl rfl) ?_
      refine WL.nil ?_
      refine WX.then_normal ?_
      refine WC.seq ?_
      refine WC.seq ?_
      refine WC.region ?_
      refine WL.r rfl rfl rfl (rd_assign rfl rfl) ?_
      refine WL.nil ?_
      refine WX.then_normal ?_
      refine WC.block ?_
      refine WC.loop (σ := Nat) (fun k => [(0, .string (S key)), (1, .string (S s)), (2, .int .u8 n), (7, .string (S (key ++ List.replicate k 0))), (8, .int .i64 (k : Int))]) (fun k w' => key.length + k ≤ 64 ∧ St (fun _ => True) w [] [] w') (fun k => 64 - k) 0 (by rw [List.replicate_zero, List.append_nil]; repeat (first | exact sub_nil _ | refine sub_cons rfl ?_)) (fun w' h => ⟨by omega, h⟩) ?_
      intro k; refine WC.pu ?_; intro hk
      refine WC.seq ?_
      refine WC.seq ?_
      refine WC.region ?_
      refine WL.r rfl rfl rfl (rd_move rfl rfl) ?_
      refine WL.r rfl rfl rfl (rd_move rfl rfl) ?_
      refine WL.r rfl rfl rfl (rd_conv rfl rfl Try.underlying5 Try.underlying3) ?_
      refine WL.r rfl rfl rfl (rd_lss rfl rfl rfl) ?_
      refine WL.r rfl rfl rfl (rd_move rfl rfl) ?_
      refine WL.bool 23 rfl (fun hg23 => ?_) (fun hg23 => ?_)
      · (try simp only [decide_eq_true_eq, decide_eq_false_iff_not, Bool.not_eq_true', Bool.not_eq_false', Bool.not_not, Int.not_lt, Int.not_le] at hg23)
        refine WL.r rfl rfl rfl (rd_move rfl rfl) ?_
        refine WL.r rfl rfl rfl (rd_slen rfl rfl Try.underlying9) ?_
        refine WL.r rfl rfl rfl (rd_lss rfl rfl rfl) ?_
        refine WL.r rfl rfl rfl (rd_pickt rfl rfl rfl) ?_
        refine WL.nil ?_
        refine WX.then_normal ?_
        refine WC.cond rfl (fun hc27 => ?_) (fun hc27 => ?_)
        · (try simp only [decide_eq_true_eq, decide_eq_false_iff_not, Bool.not_eq_true', Bool.not_eq_false', Bool.not_not, Int.not_lt, Int.not_le] at hc27)
          rw [List.length_append, List.length_replicate] at hc27
          refine WC.skip ?_
          refine WX.then_normal ?_
          refine WC.seq ?_
          refine WC.block ?_
          refine WC.region ?_
          refine WL.r rfl rfl rfl (rd_move rfl rfl) ?_
          refine WL.r rfl rfl rfl (rd_cat rfl rfl rfl ?_) ?_
          · simp; omega
          refine WL.r rfl rfl rfl (rd_assign rfl rfl) ?_
          refine WL.nil ?_
          refine WX.block_normal ?_
          refine WX.then_normal ?_
          refine WC.region ?_
          refine WL.r rfl rfl rfl (rd_move rfl rfl) ?_
          first
            | (refine WL.r rfl rfl rfl (rd_add64nl rfl rfl rfl ?_) ?_; focus (omega))
            | (refine WL.r rfl rfl rfl (rd_add64 rfl rfl rfl ?_) ?_; focus (omega))
          refine WL.r rfl rfl rfl (rd_assign rfl rfl) ?_
          refine WL.nil ?_
          exact WX.loop (k + 1) (by omega) (by rw [List.replicate_succ', ← List.append_assoc]; repeat (first | exact sub_nil _ | refine sub_cons rfl ?_)) (fun w' h => ⟨by omega, h⟩)
        · (try simp only [decide_eq_true_eq, decide_eq_false_iff_not, Bool.not_eq_true', Bool.not_eq_false', Bool.not_not, Int.not_lt, Int.not_le] at hc27)
          refine WC.exit ?_
          refine WX.then_exit ?_
          refine WX.then_exit ?_
          refine WX.block_exit ?_
          refine WX.then_normal ?_
          refine WC.seq ?_
          refine WC.region ?_
          refine WL.r rfl rfl rfl (rd_move rfl rfl) ?_
          refine WL.r rfl rfl rfl (rd_move rfl rfl) ?_
          refine WL.g rfl rfl rfl (og_call rfl rfl (by kernel_rfl) (keep_val fun w _ => mac_ok (key ++ List.replicate k 0) s (by simp; omega) (by omega) w)) ?_
          intro _
          refine WL.r rfl rfl rfl (rd_move rfl rfl) ?_
          refine WL.r rfl rfl rfl (rd_move rfl rfl) ?_
          refine WL.g rfl rfl rfl (og_call rfl rfl (by kernel_rfl) (keep_val fun w _ => mac_ok key s (by omega) (by omega) w)) ?_
          intro _
          refine WL.r rfl rfl rfl (rd_seq rfl rfl rfl) ?_
          refine WL.set 38 rfl (v' := .bool true) (by exact congrArg Value.bool (decide_eq_true (mac_pad key s k hk))) ?_
          refine WL.r rfl rfl rfl (rd_move rfl rfl) ?_
          refine WL.g rfl rfl rfl (og_call rfl rfl (by kernel_rfl) (keep_val fun w _ => awake_ok w)) ?_
          intro _
          refine WL.r rfl rfl rfl (rd_pickt rfl rfl rfl) ?_
          refine WL.r rfl rfl rfl (rd_assign rfl rfl) ?_
          refine WL.nil ?_
          refine WX.then_normal ?_
          refine WC.ret ?_
          exact WX.ret1 rfl rfl fun w' hS => ⟨rfl, hS.below⟩
      · (try simp only [decide_eq_true_eq, decide_eq_false_iff_not, Bool.not_eq_true', Bool.not_eq_false', Bool.not_not, Int.not_lt, Int.not_le] at hg23)
        refine WL.s rfl rfl rfl ?_
        refine WL.s rfl rfl rfl ?_
        refine WL.s rfl rfl rfl ?_
        refine WL.r rfl rfl rfl (rd_pickf rfl rfl rfl) ?_
        refine WL.nil ?_
        refine WX.then_normal ?_
        refine WC.cond rfl (fun h => by cases h) (fun _ => ?_)
        refine WC.exit ?_
        refine WX.then_exit ?_
        refine WX.then_exit ?_
        refine WX.block_exit ?_
        refine WX.then_normal ?_
        refine WC.seq ?_
        refine WC.region ?_
        refine WL.r rfl rfl rfl (rd_move rfl rfl) ?_
        refine WL.r rfl rfl rfl (rd_move rfl rfl) ?_
        refine WL.g rfl rfl rfl (og_call rfl rfl (by kernel_rfl) (keep_val fun w _ => mac_ok (key ++ List.replicate k 0) s (by simp; omega) (by omega) w)) ?_
        intro _
        refine WL.r rfl rfl rfl (rd_move rfl rfl) ?_
        refine WL.r rfl rfl rfl (rd_move rfl rfl) ?_
        refine WL.g rfl rfl rfl (og_call rfl rfl (by kernel_rfl) (keep_val fun w _ => mac_ok key s (by omega) (by omega) w)) ?_
        intro _
        refine WL.r rfl rfl rfl (rd_seq rfl rfl rfl) ?_
        refine WL.set 38 rfl (v' := .bool true) (by exact congrArg Value.bool (decide_eq_true (mac_pad key s k hk))) ?_
        refine WL.r rfl rfl rfl (rd_move rfl rfl) ?_
        refine WL.g rfl rfl rfl (og_call rfl rfl (by kernel_rfl) (keep_val fun w _ => awake_ok w)) ?_
        intro _
        refine WL.r rfl rfl rfl (rd_pickt rfl rfl rfl) ?_
        refine WL.r rfl rfl rfl (rd_assign rfl rfl) ?_
        refine WL.nil ?_
        refine WX.then_normal ?_
        refine WC.ret ?_
        exact WX.ret1 rfl rfl fun w' hS => ⟨rfl, hS.below⟩

theorem dig_ok (m n : Nat) (h : m = 48 + n ∧ n < 10 ∨ m = 87 + n ∧ 10 ≤ n ∧ n < 16) (w : World) : Calls Try.prog 16 #[.int .u8 (m : Int)] w fun e w' => e = .returned (.int .u8 (n : Int)) ∧ Below w.heap.size w w' := by
  refine enter (S := St (fun _ => True) w [] []) (L := [(0, .int .u8 (m : Int))]) Try.func16 rfl Try.ntmps16 rfl (args_cons rfl (args_nil _)) (St.start (fun _ _ => trivial) (by simp)) ?_
  refine WC.seq ?_
  refine WC.region ?_
  refine WL.r rfl rfl rfl (rd_assign rfl rfl) ?_
  refine WL.nil ?_
  refine WX.then_normal ?_
  refine WC.seq ?_
  refine WC.block ?_
  refine WC.seq ?_
  refine WC.region ?_
  refine WL.r rfl rfl rfl (rd_move rfl rfl) ?_
  refine WL.r rfl rfl rfl (rd_geq rfl rfl rfl) ?_
  refine WL.r rfl rfl rfl (rd_move rfl rfl) ?_
  refine WL.bool 6 rfl (fun hg6 => ?_) (fun hg6 => ?_)
  · (try simp only [decide_eq_true_eq, decide_eq_false_iff_not, Bool.not_eq_true', Bool.not_eq_false', Bool.not_not, Int.not_lt, Int.not_le] at hg6)
    refine WL.r rfl rfl rfl (rd_move rfl rfl) ?_
    refine WL.r rfl rfl rfl (rd_leq rfl rfl rfl) ?_
    refine WL.r rfl rfl rfl (rd_pickt rfl rfl rfl) ?_
    refine WL.r rfl rfl rfl (rd_assign rfl rfl) ?_
    refine WL.nil ?_
    refine WX.then_normal ?_
    refine WC.cond rfl (fun hc3 => ?_) (fun hc3 => ?_)
    · (try simp only [decide_eq_true_eq, decide_eq_false_iff_not, Bool.not_eq_true', Bool.not_eq_false', Bool.not_not, Int.not_lt, Int.not_le] at hc3)
      refine WC.seq ?_
      refine WC.region ?_
      refine WL.r rfl rfl rfl (rd_move rfl rfl) ?_
      refine WL.r rfl rfl rfl (rd_sub rfl rfl rfl) ?_
      refine WL.set 11 rfl (v' := .int .u8 (n : Int)) (congrArg (Value.int .u8) (by rw [IntWalk.u8_in _ ⟨by omega, by omega⟩]; omega)) ?_
      refine WL.r rfl rfl rfl (rd_assign rfl rfl) ?_
      refine WL.nil ?_
      refine WX.then_normal ?_
      refine WC.ret ?_
      refine WX.block_ret ?_
      refine WX.then_ret ?_
      exact WX.ret1 rfl rfl fun w' hS => ⟨rfl, hS.below⟩
    · (try simp only [decide_eq_true_eq, decide_eq_false_iff_not, Bool.not_eq_true', Bool.not_eq_false', Bool.not_not, Int.not_lt, Int.not_le] at hc3)
      refine WC.seq ?_
      refine WC.region ?_
      refine WL.r rfl rfl rfl (rd_move rfl rfl) ?_
      refine WL.r rfl rfl rfl (rd_geq rfl rfl rfl) ?_
      refine WL.r rfl rfl rfl (rd_move rfl rfl) ?_
      refine WL.bool 15 rfl (fun hg15 => ?_) (fun hg15 => ?_)
      · (try simp only [decide_eq_true_eq, decide_eq_false_iff_not, Bool.not_eq_true', Bool.not_eq_false', Bool.not_not, Int.not_lt, Int.not_le] at hg15)
        refine WL.r rfl rfl rfl (rd_move rfl rfl) ?_
        refine WL.r rfl rfl rfl (rd_leq rfl rfl rfl) ?_
        refine WL.r rfl rfl rfl (rd_pickt rfl rfl rfl) ?_
        refine WL.r rfl rfl rfl (rd_assign rfl rfl) ?_
        refine WL.nil ?_
        refine WX.then_normal ?_
        refine WC.cond rfl (fun hc12 => ?_) (fun hc12 => ?_)
        · (try simp only [decide_eq_true_eq, decide_eq_false_iff_not, Bool.not_eq_true', Bool.not_eq_false', Bool.not_not, Int.not_lt, Int.not_le] at hc12)
          refine WC.seq ?_
          refine WC.region ?_
          refine WL.r rfl rfl rfl (rd_move rfl rfl) ?_
          refine WL.r rfl rfl rfl (rd_sub rfl rfl rfl) ?_
          refine WL.set 20 rfl (v' := .int .u8 ((m - 97 : Nat) : Int)) (congrArg (Value.int .u8) (by rw [IntWalk.u8_in _ ⟨by omega, by omega⟩]; omega)) ?_
          refine WL.r rfl rfl rfl (rd_add rfl rfl rfl) ?_
          refine WL.set 21 rfl (v' := .int .u8 (n : Int)) (congrArg (Value.int .u8) (by rw [IntWalk.u8_in _ ⟨by omega, by omega⟩]; omega)) ?_
          refine WL.r rfl rfl rfl (rd_assign rfl rfl) ?_
          refine WL.nil ?_
          refine WX.then_normal ?_
          refine WC.ret ?_
          refine WX.block_ret ?_
          refine WX.then_ret ?_
          exact WX.ret1 rfl rfl fun w' hS => ⟨rfl, hS.below⟩
        · (try simp only [decide_eq_true_eq, decide_eq_false_iff_not, Bool.not_eq_true', Bool.not_eq_false', Bool.not_not, Int.not_lt, Int.not_le] at hc12)
          exfalso; omega -- done
      · (try simp only [decide_eq_true_eq, decide_eq_false_iff_not, Bool.not_eq_true', Bool.not_eq_false', Bool.not_not, Int.not_lt, Int.not_le] at hg15)
        exfalso; omega -- done
  · (try simp only [decide_eq_true_eq, decide_eq_false_iff_not, Bool.not_eq_true', Bool.not_eq_false', Bool.not_not, Int.not_lt, Int.not_le] at hg6)
    exfalso; omega -- done
theorem hexDigit_nat (n : Nat) (h : n < 16) : (hexDigit n).toNat = 48 + n ∧ n < 10 ∨ (hexDigit n).toNat = 87 + n ∧ 10 ≤ n ∧ n < 16 := by
  have : ∀ k : Fin 16, (hexDigit k.val).toNat = 48 + k.val ∧ k.val < 10 ∨ (hexDigit k.val).toNat = 87 + k.val ∧ 10 ≤ k.val ∧ k.val < 16 := by decide
  exact this ⟨n, h⟩
theorem hexs_get (l : List UInt8) : ∀ (k : Nat) (c : UInt8), l[k]? = some c → (hexs l)[2 * k]? = some (hexDigit (c.toNat / 16)) ∧ (hexs l)[2 * k + 1]? = some (hexDigit (c.toNat % 16)) := by
  induction l with
  | nil => intro k c h; simp at h
  | cons d l ih =>
    intro k c h
    have e : hexs (d :: l) = hexDigit (d.toNat / 16) :: hexDigit (d.toNat % 16) :: hexs l := rfl
    rw [e]
    cases k with
    | zero => simp at h; subst h; simp
    | succ k =>
      simp only [List.getElem?_cons_succ] at h
      have := ih k c h
      rw [show 2 * (k + 1) = 2 * k + 1 + 1 by omega, List.getElem?_cons_succ, List.getElem?_cons_succ, List.getElem?_cons_succ, List.getElem?_cons_succ]
      exact this

theorem reads_ok (l : List UInt8) (w : World) : Calls Try.prog 8 #[.string (S l)] w fun e w' => e = .returned (.bool true) ∧ Below w.heap.size w w' := by
  refine enter (S := St (fun _ => True) w [] []) (L := [(0, .string (S l))]) Try.func8 rfl Try.ntmps8 rfl (args_cons rfl (args_nil _)) (St.start (fun _ _ => trivial) (by simp)) ?_
  refine WC.seq ?_
  refine WC.region ?_
  refine WL.r rfl rfl rfl (rd_assign rfl rfl) ?_
  refine WL.nil ?_
  refine WX.then_normal ?_
  refine WC.seq ?_
  refine WC.seq ?_
  refine WC.region ?_
  refine WL.r rfl rfl rfl (rd_move rfl rfl) ?_
  refine WL.r rfl rfl rfl (rd_slen rfl rfl Try.underlying9) ?_
  refine WL.r rfl rfl rfl (rd_gtr rfl rfl rfl) ?_
  refine WL.nil ?_
  refine WX.then_normal ?_
  refine WC.cond rfl (fun hc9 => ?_) (fun hc9 => ?_)
  · (try simp only [decide_eq_true_eq, decide_eq_false_iff_not, Bool.not_eq_true', Bool.not_eq_false', Bool.not_not, Int.not_lt, Int.not_le] at hc9)
    refine WC.seq ?_
    refine WC.region ?_
    refine WL.g rfl rfl rfl (og_call rfl rfl (by kernel_rfl) (keep_val fun w _ => awake_ok w)) ?_
    intro _
    refine WL.r rfl rfl rfl (rd_assign rfl rfl) ?_
    refine WL.nil ?_
    refine WX.then_normal ?_
    refine WC.ret ?_
    refine WX.then_ret ?_
    exact WX.ret1 rfl rfl fun w' hS => ⟨rfl, hS.below⟩
  · (try simp only [decide_eq_true_eq, decide_eq_false_iff_not, Bool.not_eq_true', Bool.not_eq_false', Bool.not_not, Int.not_lt, Int.not_le] at hc9)
    refine WC.skip ?_
    refine WX.then_normal ?_
    refine WC.seq ?_
    refine WC.region ?_
    refine WL.r rfl rfl rfl (rd_move rfl rfl) ?_
    refine WL.g rfl rfl rfl (og_call rfl rfl (by kernel_rfl) (keep_val fun w _ => hex_ok l (by omega) w)) ?_
    intro _
    refine WL.r rfl rfl rfl (rd_assign rfl rfl) ?_
    refine WL.nil ?_
    refine WX.then_normal ?_
    refine WC.seq ?_
    refine WC.seq ?_
    refine WC.region ?_
    refine WL.r rfl rfl rfl (rd_move rfl rfl) ?_
    refine WL.r rfl rfl rfl (rd_slen rfl rfl Try.underlying9) ?_
    refine WL.r rfl rfl rfl (rd_move rfl rfl) ?_
    refine WL.r rfl rfl rfl (rd_slen rfl rfl Try.underlying9) ?_
    first
      | (refine WL.r rfl rfl rfl (rd_mul64ln rfl rfl rfl ?_) ?_; focus (omega))
      | (refine WL.r rfl rfl rfl (rd_mul64 rfl rfl rfl ?_) ?_; focus (omega))
    refine WL.r rfl rfl rfl (rd_neq rfl rfl rfl) ?_
    refine WL.set 18 rfl (v' := .bool false) (by exact congrArg Value.bool (by rw [hexs_len]; simp)) ?_
    refine WL.nil ?_
    refine WX.then_normal ?_
    refine WC.cond rfl (fun h => by cases h) (fun _ => ?_)
    refine WC.skip ?_
    refine WX.then_normal ?_
    refine WC.seq ?_
    refine WC.seq ?_
    refine WC.region ?_
    refine WL.r rfl rfl rfl (rd_assign rfl rfl) ?_
    refine WL.nil ?_
    refine WX.then_normal ?_
    refine WC.block ?_
    refine WC.loop (σ := Nat) (fun k => [(0, .string (S l)), (3, .string (S (hexs l))), (4, .int .i64 (k : Int))]) (fun k w' => k ≤ l.length ∧ St (fun _ => True) w [] [] w') (fun k => l.length - k) 0 (by repeat (first | exact sub_nil _ | refine sub_cons rfl ?_)) (fun w' h => ⟨by omega, h⟩) ?_
    intro k; refine WC.pu ?_; intro hk
    refine WC.seq ?_
    refine WC.seq ?_
    refine WC.region ?_
    refine WL.r rfl rfl rfl (rd_move rfl rfl) ?_
    refine WL.r rfl rfl rfl (rd_move rfl rfl) ?_
    refine WL.r rfl rfl rfl (rd_slen rfl rfl Try.underlying9) ?_
    refine WL.r rfl rfl rfl (rd_lss rfl rfl rfl) ?_
    refine WL.nil ?_
    refine WX.then_normal ?_
    refine WC.cond rfl (fun hc22 => ?_) (fun hc22 => ?_)
    · (try simp only [decide_eq_true_eq, decide_eq_false_iff_not, Bool.not_eq_true', Bool.not_eq_false', Bool.not_not, Int.not_lt, Int.not_le] at hc22)
      obtain ⟨c, hc⟩ : ∃ c, l[k]? = some c := ⟨_, List.getElem?_eq_getElem (by omega)⟩
      have hcl := c.toNat_lt
      have hh := hexs_get l k c hc
      refine WC.skip ?_
      refine WX.then_normal ?_
      refine WC.seq ?_
      refine WC.block ?_
      refine WC.seq ?_
      refine WC.mix [0, 0, 0, 0, 1, 0, 0, 0, 0, 0, 1, 0, 0] (by kernel_rfl) (by kernel_rfl) (fun w h => h.draw) ?_
      refine WM.r rfl rfl rfl (rd_move rfl rfl) ?_
      refine WM.r rfl rfl rfl (rd_move rfl rfl) ?_
      first
        | (refine WM.r rfl rfl rfl (rd_mul64ln rfl rfl rfl ?_) ?_; focus (omega))
        | (refine WM.r rfl rfl rfl (rd_mul64 rfl rfl rfl ?_) ?_; focus (omega))
      refine WM.r rfl rfl rfl (rd_sidx rfl rfl rfl Try.underlying9 ?_ (by rw [Int.toNat_natCast]; exact hh.1)) ?_
      · omega
      refine WM.g rfl rfl rfl (og_call rfl rfl (by kernel_rfl) (keep_val fun w _ => dig_ok _ (c.toNat / 16) (hexDigit_nat _ (by omega)) w)) (fun _ _ h => by first | exact h | exact h.2 | exact h.sub (by repeat (first | exact List.Sublist.refl _ | apply List.Sublist.cons)) (fun _ h => by simp [*]) | exact h.2.sub (by repeat (first | exact List.Sublist.refl _ | apply List.Sublist.cons)) (fun _ h => by simp [*])) ?_
      intro _
      refine WM.r rfl rfl rfl (rd_move rfl rfl) ?_
      refine WM.r rfl rfl rfl (rd_move rfl rfl) ?_
      first
        | (refine WM.r rfl rfl rfl (rd_mul64ln rfl rfl rfl ?_) ?_; focus (omega))
        | (refine WM.r rfl rfl rfl (rd_mul64 rfl rfl rfl ?_) ?_; focus (omega))
      first
        | (refine WM.r rfl rfl rfl (rd_add64nl rfl rfl rfl ?_) ?_; focus (omega))
        | (refine WM.r rfl rfl rfl (rd_add64 rfl rfl rfl ?_) ?_; focus (omega))
      refine WM.r rfl rfl rfl (rd_sidx rfl rfl rfl Try.underlying9 ?_ (by rw [Int.toNat_natCast]; exact hh.2)) ?_
      · omega
      refine WM.g rfl rfl rfl (og_call rfl rfl (by kernel_rfl) (keep_val fun w _ => dig_ok _ (c.toNat % 16) (hexDigit_nat _ (by omega)) w)) (fun _ _ h => by first | exact h | exact h.2 | exact h.sub (by repeat (first | exact List.Sublist.refl _ | apply List.Sublist.cons)) (fun _ h => by simp [*]) | exact h.2.sub (by repeat (first | exact List.Sublist.refl _ | apply List.Sublist.cons)) (fun _ h => by simp [*])) ?_
      intro _
      refine WM.r rfl rfl rfl (rd_assign rfl rfl) ?_
      refine WM.r rfl rfl rfl (rd_assign rfl rfl) ?_
      refine WM.nil ?_
      refine WX.then_normal ?_
      refine WC.seq ?_
      refine WC.region ?_
      refine WL.r rfl rfl rfl (rd_move rfl rfl) ?_
      refine WL.r rfl rfl rfl (rd_gtr rfl rfl rfl) ?_
      refine WL.set 37 rfl (v' := .bool false) (by exact congrArg Value.bool (decide_eq_false (by omega))) ?_
      refine WL.r rfl rfl rfl (rd_move rfl rfl) ?_
      refine WL.r rfl rfl rfl (rd_move rfl rfl) ?_
      refine WL.r rfl rfl rfl (rd_gtr rfl rfl rfl) ?_
      refine WL.set 40 rfl (v' := .bool false) (by exact congrArg Value.bool (decide_eq_false (by omega))) ?_
      refine WL.r rfl rfl rfl (rd_pickf rfl rfl rfl) ?_
      refine WL.r rfl rfl rfl (rd_move rfl rfl) ?_
      refine WL.r rfl rfl rfl (rd_move rfl rfl) ?_
      refine WL.r rfl rfl rfl (rd_mul rfl rfl rfl) ?_
      refine WL.set 44 rfl (v' := .int .u8 ((16 * (c.toNat / 16) : Nat) : Int)) (congrArg (Value.int .u8) (by rw [IntWalk.u8_in _ ⟨by omega, by omega⟩]; omega)) ?_
      refine WL.r rfl rfl rfl (rd_move rfl rfl) ?_
      refine WL.r rfl rfl rfl (rd_add rfl rfl rfl) ?_
      refine WL.set 46 rfl (v' := .int .u8 (c.toNat : Int)) (congrArg (Value.int .u8) (by rw [IntWalk.u8_in _ ⟨by omega, by omega⟩]; omega)) ?_
      refine WL.r rfl rfl rfl (rd_move rfl rfl) ?_
      refine WL.r rfl rfl rfl (rd_move rfl rfl) ?_
      refine WL.r rfl rfl rfl (rd_sidx rfl rfl rfl Try.underlying9 ?_ (by rw [Int.toNat_natCast]; exact hc)) ?_
      · omega
      refine WL.r rfl rfl rfl (rd_neq rfl rfl rfl) ?_
      refine WL.set 50 rfl (v' := .bool false) (by exact congrArg Value.bool (by simp)) ?_
      refine WL.r rfl rfl rfl (rd_pickf rfl rfl rfl) ?_
      refine WL.nil ?_
      refine WX.then_normal ?_
      refine WC.cond rfl (fun h => by cases h) (fun _ => ?_)
      refine WC.skip ?_
      refine WX.block_normal ?_
      refine WX.then_normal ?_
      refine WC.region ?_
      refine WL.r rfl rfl rfl (rd_move rfl rfl) ?_
      first
        | (refine WL.r rfl rfl rfl (rd_add64nl rfl rfl rfl ?_) ?_; focus (omega))
        | (refine WL.r rfl rfl rfl (rd_add64 rfl rfl rfl ?_) ?_; focus (omega))
      refine WL.r rfl rfl rfl (rd_assign rfl rfl) ?_
      refine WL.nil ?_
      exact WX.loop (k + 1) (by omega) (by repeat (first | exact sub_nil _ | refine sub_cons rfl ?_)) (fun w' h => ⟨by omega, h⟩)
    · (try simp only [decide_eq_true_eq, decide_eq_false_iff_not, Bool.not_eq_true', Bool.not_eq_false', Bool.not_not, Int.not_lt, Int.not_le] at hc22)
      refine WC.exit ?_
      refine WX.then_exit ?_
      refine WX.then_exit ?_
      refine WX.block_exit ?_
      refine WX.then_normal ?_
      refine WC.seq ?_
      refine WC.region ?_
      refine WL.r rfl rfl rfl (rd_move rfl rfl) ?_
      refine WL.g rfl rfl rfl (og_call rfl rfl (by kernel_rfl) (keep_val fun w _ => sum_ok l (by omega) w)) ?_
      intro _
      refine WL.r rfl rfl rfl (rd_slen rfl rfl Try.underlying9) ?_
      refine WL.r rfl rfl rfl (rd_eql rfl rfl rfl) ?_
      refine WL.set 55 rfl (v' := .bool true) (by exact congrArg Value.bool (decide_eq_true (by rw [sha_len]; rfl))) ?_
      refine WL.r rfl rfl rfl (rd_move rfl rfl) ?_
      refine WL.r rfl rfl rfl (rd_move rfl rfl) ?_
      refine WL.r rfl rfl rfl (rd_move rfl rfl) ?_
      refine WL.g rfl rfl rfl (og_call rfl rfl (by kernel_rfl) (keep_val fun w _ => mac_ok l l (by omega) (by omega) w)) ?_
      intro _
      refine WL.r rfl rfl rfl (rd_slen rfl rfl Try.underlying9) ?_
      refine WL.r rfl rfl rfl (rd_eql rfl rfl rfl) ?_
      refine WL.set 61 rfl (v' := .bool true) (by exact congrArg Value.bool (decide_eq_true (by rw [mac, sha_len]; rfl))) ?_
      refine WL.r rfl rfl rfl (rd_pickt rfl rfl rfl) ?_
      refine WL.r rfl rfl rfl (rd_move rfl rfl) ?_
      refine WL.g rfl rfl rfl (og_call rfl rfl (by kernel_rfl) (keep_val fun w _ => awake_ok w)) ?_
      intro _
      refine WL.r rfl rfl rfl (rd_pickt rfl rfl rfl) ?_
      refine WL.r rfl rfl rfl (rd_assign rfl rfl) ?_
      refine WL.nil ?_
      refine WX.then_normal ?_
      refine WC.ret ?_
      exact WX.ret1 rfl rfl fun w' hS => ⟨rfl, hS.below⟩
end Go.Proofs.Ytnhlgpkdbcnocaa
