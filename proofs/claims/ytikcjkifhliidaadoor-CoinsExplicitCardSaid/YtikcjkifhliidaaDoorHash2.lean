/-
  The walks of package hash: the state after a block.
-/
import Derived.Test.YtikcjkifhliidaaDoorHash1
namespace Go.Proofs.YtikcjkifhliidaaDoor
set_option linter.unusedSimpArgs false
set_option linter.unusedVariables false
set_option maxRecDepth 20000
open Go.RowKit

theorem St.sl_of {ok : Nat → Prop} {w0 w : World} {own : List Ent} {fs : List Fact} {b off : Nat} {cs xs : List Value} {T : TypeId} (hk : InE own ⟨some b, cs, T⟩) (hx : (cs.drop off).take xs.length = xs) (h : St ok w0 own fs w) : (Fact.sl (some ⟨b, off, none⟩) xs).holds (fun _ => True) w := by
  obtain ⟨kk, hk⟩ := hk.get
  exact h.own_sl hk (fun i hi => by rw [← hx, List.getElem?_take, if_pos hi, List.getElem?_drop])

theorem after_ok (x0 : List W) (hx0 : x0.length = 8) (bs : List UInt8) (hbs : bs.length = 64) (b off cap : Nat) (hcap : 64 ≤ cap) (w : World) (hf : (Fact.sl (some ⟨b, off, none⟩) (bs.map B)).holds (fun _ => True) w) :
    Calls Tryd.prog 96 #[.agg (x0.map u32).toArray, .slice (some ⟨b, off, none⟩) 64 cap] w fun e w' => e = .returned (.agg ((compress x0 bs).map u32).toArray) ∧ Below w.heap.size w w' := by
  have hwl := words_len 16 bs hbs
  have hsl := sched_len 48 (words bs)
  rw [hwl] at hsl
  obtain ⟨ws, hws⟩ : ∃ ws, sched 48 (words bs) = ws := ⟨_, rfl⟩
  have hsch := schedule_ok bs hbs b off cap hcap
  rw [hws] at hsl hsch
  show Calls _ _ _ _ fun e w' => e = .returned (.agg ((addW (rounds KK (sched 48 (words bs)) 64 x0) x0).map u32).toArray) ∧ _
  rw [hws]
  refine enter (S := St (fun _ => True) w [] [Fact.sl (some ⟨b, off, none⟩) (bs.map B)]) (L := [(0, .agg (x0.map u32).toArray), (1, .slice (some ⟨b, off, none⟩) 64 cap)]) Tryd.func96 rfl Tryd.ntmps96 rfl (args_cons rfl (args_cons rfl (args_nil _))) (St.start (fun _ _ => trivial) (by simpa using hf)) ?_
  refine WC.seq ?_
  refine WC.region ?_
  refine WL.g rfl rfl rfl (og_box rfl rfl (cs := x0.map u32) rfl) ?_
  intro b2
  refine WL.g rfl rfl rfl (og_alloc rfl (v := (.agg #[.int .u32 0, .int .u32 0, .int .u32 0, .int .u32 0, .int .u32 0, .int .u32 0, .int .u32 0, .int .u32 0])) (cs := [.int .u32 0, .int .u32 0, .int .u32 0, .int .u32 0, .int .u32 0, .int .u32 0, .int .u32 0, .int .u32 0]) (by kernel_rfl) rfl) ?_
  intro b4
  refine WL.nil ?_
  refine WX.then_normal ?_
  refine WC.seq ?_
  refine WC.region ?_
  refine WL.g rfl rfl rfl (og_call rfl rfl (by kernel_rfl) (keep_val fun w _ => constants_ok w)) ?_
  intro _
  refine WL.r rfl rfl rfl (rd_move rfl rfl) ?_
  refine WL.g rfl rfl rfl (og_call rfl rfl (by kernel_rfl) (keep_val fun w hS => hsch w (hS.holds_any (k := 0) rfl))) ?_
  intro _
  refine WL.g rfl rfl rfl (og_alloc rfl (v := (.agg (List.replicate 64 (.int .u32 0)).toArray)) (cs := (List.replicate 64 (.int .u32 0))) (by kernel_rfl) rfl) ?_
  intro b5
  refine WL.g rfl rfl rfl (og_alloc rfl (v := (.agg (List.replicate 64 (.int .u32 0)).toArray)) (cs := (List.replicate 64 (.int .u32 0))) (by kernel_rfl) rfl) ?_
  intro b6
  refine WL.g0 rfl rfl (sta rfl rfl rfl (by first | exact .here | exact .t1 | exact .t2 | exact .t3 | exact .t4 | exact .t5 | exact .t6 | exact .t7) ?_ ?_ ?_) ?_
  · kernel_rfl
  · exact u32_one _
  · first | rfl | simp
  intro _
  refine WL.g0 rfl rfl (sta rfl rfl rfl (by first | exact .here | exact .t1 | exact .t2 | exact .t3 | exact .t4 | exact .t5 | exact .t6 | exact .t7) ?_ ?_ ?_) ?_
  · rw [List.length_map, hsl]; kernel_rfl
  · exact u32_one _
  · simp [hsl]
  intro _
  refine WL.nil ?_
  refine WX.then_normal ?_
  refine WC.seq ?_
  refine WC.region ?_
  refine WL.r rfl rfl rfl (lda rfl rfl (by first | exact .here | exact .t1 | exact .t2 | exact .t3 | exact .t4 | exact .t5 | exact .t6 | exact .t7) Tryd.underlying107 rfl ?_) ?_
  · rw [List.length_map, hx0]; kernel_rfl
  refine WL.g rfl rfl rfl (og_alloc rfl (v := (.agg #[.int .u32 0, .int .u32 0, .int .u32 0, .int .u32 0, .int .u32 0, .int .u32 0, .int .u32 0, .int .u32 0])) (cs := [.int .u32 0, .int .u32 0, .int .u32 0, .int .u32 0, .int .u32 0, .int .u32 0, .int .u32 0, .int .u32 0]) (by kernel_rfl) rfl) ?_
  intro b7
  refine WL.g0 rfl rfl (sta rfl rfl rfl (by first | exact .here | exact .t1 | exact .t2 | exact .t3 | exact .t4 | exact .t5 | exact .t6 | exact .t7) ?_ ?_ ?_) ?_
  · rw [List.length_map, hx0]; kernel_rfl
  · exact u32_one _
  · simp [hx0]
  intro _
  refine WL.nil ?_
  refine WX.then_normal ?_
  refine WC.seq ?_
  refine WC.seq ?_
  refine WC.region ?_
  refine WL.r rfl rfl rfl (rd_move rfl rfl) ?_
  refine WL.nil ?_
  refine WX.then_normal ?_
  refine WC.block ?_
  refine WC.loop (σ := Nat) (fun k => [(2, .pointer (some ⟨b2, 0, none⟩)), (4, .pointer (some ⟨b4, 0, none⟩)), (5, .pointer (some ⟨b5, 0, none⟩)), (6, .pointer (some ⟨b6, 0, none⟩)), (7, .pointer (some ⟨b7, 0, none⟩)), (22, .int .i64 (k : Int))]) (fun k w' => k ≤ 64 ∧ St (fun _ => True) w [⟨some b7, (rounds KK ws k x0).map u32, 107⟩, ⟨some b6, ws.map u32, 118⟩, ⟨some b5, KK.map u32, 118⟩, ⟨some b4, List.replicate 8 (u32 0), 107⟩, ⟨some b2, x0.map u32, 107⟩] [] w') (fun k => 64 - k) 0 (by repeat (first | exact sub_nil _ | refine sub_cons rfl ?_)) (fun w' h => ⟨by omega, h.sub (List.Sublist.refl _) (by simp)⟩) ?_
  intro k; refine WC.pu ?_; intro hk
  refine WC.seq ?_
  refine WC.region ?_
  refine WL.r rfl rfl rfl (rd_lss rfl rfl rfl) ?_
  refine WL.nil ?_
  refine WX.then_normal ?_
  refine WC.seq ?_
  refine WC.cond rfl (fun hc23 => ?_) (fun hc23 => ?_)
  · (try simp only [decide_eq_true_eq, decide_eq_false_iff_not, Bool.not_eq_true', Bool.not_eq_false', Bool.not_not, Int.not_lt, Int.not_le] at hc23)
    obtain ⟨xa, xb, xc, xd, xe, xf, xg, xh, hX⟩ := eight (rounds KK ws k x0) (rounds_len _ _ _ _ hx0)
    rw [hX]
    have hkk : KK.length = 64 := rfl
    refine WC.skip ?_
    refine WX.then_normal ?_
    refine WC.seq ?_
    refine WC.block ?_
    refine WC.seq ?_
    refine WC.region ?_
    refine WL.r rfl rfl rfl (rd_move rfl rfl) ?_
    refine WL.r rfl rfl rfl (rd_assign rfl rfl) ?_
    refine WL.nil ?_
    refine WX.then_normal ?_
    refine WC.seq ?_
    refine WC.mix [0, 0, 0, 0, 0, 0, 0, 0, 0, 0, 0, 0, 0, 0, 0, 0, 0, 0] (by kernel_rfl) (by kernel_rfl) (fun w h => h.draw) ?_
    refine WM.r rfl rfl rfl (rd_iaa rfl rfl rfl Tryd.underlying107 (by kernel_rfl : _ = some 1) ?_ (by (try simp only [Int.toNat_natCast, Nat.mul_one, Nat.zero_add, Nat.add_zero, Nat.zero_mul, Int.reduceToNat, Nat.reduceAdd, Nat.reduceMul, Nat.reduceSub, Nat.sub_zero]); rfl)) ?_
    · omega
    refine WM.r rfl rfl rfl (ld rfl rfl (by first | exact .here | exact .t1 | exact .t2 | exact .t3 | exact .t4 | exact .t5 | exact .t6 | exact .t7) Tryd.underlying102 rfl (by rfl)) ?_
    refine WM.r rfl rfl rfl (rd_iaa rfl rfl rfl Tryd.underlying107 (by kernel_rfl : _ = some 1) ?_ (by (try simp only [Int.toNat_natCast, Nat.mul_one, Nat.zero_add, Nat.add_zero, Nat.zero_mul, Int.reduceToNat, Nat.reduceAdd, Nat.reduceMul, Nat.reduceSub, Nat.sub_zero]); rfl)) ?_
    · omega
    refine WM.r rfl rfl rfl (ld rfl rfl (by first | exact .here | exact .t1 | exact .t2 | exact .t3 | exact .t4 | exact .t5 | exact .t6 | exact .t7) Tryd.underlying102 rfl (by rfl)) ?_
    refine WM.r rfl rfl rfl (rd_iaa rfl rfl rfl Tryd.underlying107 (by kernel_rfl : _ = some 1) ?_ (by (try simp only [Int.toNat_natCast, Nat.mul_one, Nat.zero_add, Nat.add_zero, Nat.zero_mul, Int.reduceToNat, Nat.reduceAdd, Nat.reduceMul, Nat.reduceSub, Nat.sub_zero]); rfl)) ?_
    · omega
    refine WM.r rfl rfl rfl (ld rfl rfl (by first | exact .here | exact .t1 | exact .t2 | exact .t3 | exact .t4 | exact .t5 | exact .t6 | exact .t7) Tryd.underlying102 rfl (by rfl)) ?_
    refine WM.r rfl rfl rfl (rd_iaa rfl rfl rfl Tryd.underlying107 (by kernel_rfl : _ = some 1) ?_ (by (try simp only [Int.toNat_natCast, Nat.mul_one, Nat.zero_add, Nat.add_zero, Nat.zero_mul, Int.reduceToNat, Nat.reduceAdd, Nat.reduceMul, Nat.reduceSub, Nat.sub_zero]); rfl)) ?_
    · omega
    refine WM.r rfl rfl rfl (ld rfl rfl (by first | exact .here | exact .t1 | exact .t2 | exact .t3 | exact .t4 | exact .t5 | exact .t6 | exact .t7) Tryd.underlying102 rfl (by rfl)) ?_
    refine WM.r rfl rfl rfl (rd_iaa rfl rfl rfl Tryd.underlying107 (by kernel_rfl : _ = some 1) ?_ (by (try simp only [Int.toNat_natCast, Nat.mul_one, Nat.zero_add, Nat.add_zero, Nat.zero_mul, Int.reduceToNat, Nat.reduceAdd, Nat.reduceMul, Nat.reduceSub, Nat.sub_zero]); rfl)) ?_
    · omega
    refine WM.r rfl rfl rfl (ld rfl rfl (by first | exact .here | exact .t1 | exact .t2 | exact .t3 | exact .t4 | exact .t5 | exact .t6 | exact .t7) Tryd.underlying102 rfl (by rfl)) ?_
    refine WM.r rfl rfl rfl (rd_iaa rfl rfl rfl Tryd.underlying107 (by kernel_rfl : _ = some 1) ?_ (by (try simp only [Int.toNat_natCast, Nat.mul_one, Nat.zero_add, Nat.add_zero, Nat.zero_mul, Int.reduceToNat, Nat.reduceAdd, Nat.reduceMul, Nat.reduceSub, Nat.sub_zero]); rfl)) ?_
    · omega
    refine WM.r rfl rfl rfl (ld rfl rfl (by first | exact .here | exact .t1 | exact .t2 | exact .t3 | exact .t4 | exact .t5 | exact .t6 | exact .t7) Tryd.underlying102 rfl (by rfl)) ?_
    refine WM.r rfl rfl rfl (rd_assign rfl rfl) ?_
    refine WM.r rfl rfl rfl (rd_assign rfl rfl) ?_
    refine WM.r rfl rfl rfl (rd_assign rfl rfl) ?_
    refine WM.r rfl rfl rfl (rd_assign rfl rfl) ?_
    refine WM.r rfl rfl rfl (rd_assign rfl rfl) ?_
    refine WM.r rfl rfl rfl (rd_assign rfl rfl) ?_
    refine WM.nil ?_
    refine WX.then_normal ?_
    refine WC.seq ?_
    refine WC.mix [0, 0, 0, 1, 0, 1, 0, 0, 1, 0, 0, 0, 0, 0, 0, 0, 0, 0, 0, 0, 0, 0, 0, 0, 0, 0, 0, 0, 0] (by kernel_rfl) (by kernel_rfl) (fun w h => h.draw) ?_
    refine WM.r rfl rfl rfl (rd_iaa rfl rfl rfl Tryd.underlying107 (by kernel_rfl : _ = some 1) ?_ (by (try simp only [Int.toNat_natCast, Nat.mul_one, Nat.zero_add, Nat.add_zero, Nat.zero_mul, Int.reduceToNat, Nat.reduceAdd, Nat.reduceMul, Nat.reduceSub, Nat.sub_zero]); rfl)) ?_
    · omega
    refine WM.r rfl rfl rfl (ld rfl rfl (by first | exact .here | exact .t1 | exact .t2 | exact .t3 | exact .t4 | exact .t5 | exact .t6 | exact .t7) Tryd.underlying102 rfl (by rfl)) ?_
    refine WM.r rfl rfl rfl (rd_move rfl rfl) ?_
    refine WM.g rfl rfl rfl (og_call rfl rfl (by kernel_rfl) (keep_val fun w _ => turn_lit _ _ (by decide) (by decide) w)) (fun _ _ h => by first | exact h | exact ⟨_, h⟩ | exact ⟨_, h.2⟩ | exact h.2 | exact h.sub (by repeat (first | exact List.Sublist.refl _ | apply List.Sublist.cons)) (fun _ h => by simp [*]) | exact h.2.sub (by repeat (first | exact List.Sublist.refl _ | apply List.Sublist.cons)) (fun _ h => by simp [*])) ?_
    intro _
    refine WM.r rfl rfl rfl (rd_move rfl rfl) ?_
    refine WM.g rfl rfl rfl (og_call rfl rfl (by kernel_rfl) (keep_val fun w _ => turn_lit _ _ (by decide) (by decide) w)) (fun _ _ h => by first | exact h | exact ⟨_, h⟩ | exact ⟨_, h.2⟩ | exact h.2 | exact h.sub (by repeat (first | exact List.Sublist.refl _ | apply List.Sublist.cons)) (fun _ h => by simp [*]) | exact h.2.sub (by repeat (first | exact List.Sublist.refl _ | apply List.Sublist.cons)) (fun _ h => by simp [*])) ?_
    intro _
    refine WM.r rfl rfl rfl (rdW_xor rfl rfl rfl) ?_
    refine WM.r rfl rfl rfl (rd_move rfl rfl) ?_
    refine WM.g rfl rfl rfl (og_call rfl rfl (by kernel_rfl) (keep_val fun w _ => turn_lit _ _ (by decide) (by decide) w)) (fun _ _ h => by first | exact h | exact ⟨_, h⟩ | exact ⟨_, h.2⟩ | exact h.2 | exact h.sub (by repeat (first | exact List.Sublist.refl _ | apply List.Sublist.cons)) (fun _ h => by simp [*]) | exact h.2.sub (by repeat (first | exact List.Sublist.refl _ | apply List.Sublist.cons)) (fun _ h => by simp [*])) ?_
    intro _
    refine WM.r rfl rfl rfl (rdW_xor rfl rfl rfl) ?_
    refine WM.r rfl rfl rfl (rdW_add rfl rfl rfl) ?_
    refine WM.r rfl rfl rfl (rd_move rfl rfl) ?_
    refine WM.r rfl rfl rfl (rd_move rfl rfl) ?_
    refine WM.r rfl rfl rfl (rdW_and rfl rfl rfl) ?_
    refine WM.r rfl rfl rfl (rd_move rfl rfl) ?_
    refine WM.r rfl rfl rfl (rdW_com rfl rfl) ?_
    refine WM.r rfl rfl rfl (rd_move rfl rfl) ?_
    refine WM.r rfl rfl rfl (rdW_and rfl rfl rfl) ?_
    refine WM.r rfl rfl rfl (rdW_xor rfl rfl rfl) ?_
    refine WM.r rfl rfl rfl (rdW_add rfl rfl rfl) ?_
    refine WM.r rfl rfl rfl (rd_move rfl rfl) ?_
    refine WM.r rfl rfl rfl (rd_iaa rfl rfl rfl Tryd.underlying118 (by kernel_rfl : _ = some 1) ?_ (by (try simp only [Int.toNat_natCast, Nat.mul_one, Nat.zero_add, Nat.add_zero, Nat.zero_mul, Int.reduceToNat, Nat.reduceAdd, Nat.reduceMul, Nat.reduceSub, Nat.sub_zero]); rfl)) ?_
    · omega
    refine WM.r rfl rfl rfl (ld rfl rfl (by first | exact .here | exact .t1 | exact .t2 | exact .t3 | exact .t4 | exact .t5 | exact .t6 | exact .t7) Tryd.underlying102 rfl (by rw [List.getElem?_map, get_getD KK k 0 (by omega)]; rfl)) ?_
    refine WM.r rfl rfl rfl (rdW_add rfl rfl rfl) ?_
    refine WM.r rfl rfl rfl (rd_move rfl rfl) ?_
    refine WM.r rfl rfl rfl (rd_iaa rfl rfl rfl Tryd.underlying118 (by kernel_rfl : _ = some 1) ?_ (by (try simp only [Int.toNat_natCast, Nat.mul_one, Nat.zero_add, Nat.add_zero, Nat.zero_mul, Int.reduceToNat, Nat.reduceAdd, Nat.reduceMul, Nat.reduceSub, Nat.sub_zero]); rfl)) ?_
    · omega
    refine WM.r rfl rfl rfl (ld rfl rfl (by first | exact .here | exact .t1 | exact .t2 | exact .t3 | exact .t4 | exact .t5 | exact .t6 | exact .t7) Tryd.underlying102 rfl (by rw [List.getElem?_map, get_getD ws k 0 (by omega)]; rfl)) ?_
    refine WM.r rfl rfl rfl (rdW_add rfl rfl rfl) ?_
    refine WM.r rfl rfl rfl (rd_assign rfl rfl) ?_
    refine WM.nil ?_
    refine WX.then_normal ?_
    refine WC.seq ?_
    refine WC.region ?_
    refine WL.r rfl rfl rfl (rd_move rfl rfl) ?_
    refine WL.g rfl rfl rfl (og_call rfl rfl (by kernel_rfl) (keep_val fun w _ => turn_lit _ _ (by decide) (by decide) w)) ?_
    intro _
    refine WL.r rfl rfl rfl (rd_move rfl rfl) ?_
    refine WL.g rfl rfl rfl (og_call rfl rfl (by kernel_rfl) (keep_val fun w _ => turn_lit _ _ (by decide) (by decide) w)) ?_
    intro _
    refine WL.r rfl rfl rfl (rdW_xor rfl rfl rfl) ?_
    refine WL.r rfl rfl rfl (rd_move rfl rfl) ?_
    refine WL.g rfl rfl rfl (og_call rfl rfl (by kernel_rfl) (keep_val fun w _ => turn_lit _ _ (by decide) (by decide) w)) ?_
    intro _
    refine WL.r rfl rfl rfl (rdW_xor rfl rfl rfl) ?_
    refine WL.r rfl rfl rfl (rd_move rfl rfl) ?_
    refine WL.r rfl rfl rfl (rd_move rfl rfl) ?_
    refine WL.r rfl rfl rfl (rdW_and rfl rfl rfl) ?_
    refine WL.r rfl rfl rfl (rd_move rfl rfl) ?_
    refine WL.r rfl rfl rfl (rd_move rfl rfl) ?_
    refine WL.r rfl rfl rfl (rdW_and rfl rfl rfl) ?_
    refine WL.r rfl rfl rfl (rdW_xor rfl rfl rfl) ?_
    refine WL.r rfl rfl rfl (rd_move rfl rfl) ?_
    refine WL.r rfl rfl rfl (rd_move rfl rfl) ?_
    refine WL.r rfl rfl rfl (rdW_and rfl rfl rfl) ?_
    refine WL.r rfl rfl rfl (rdW_xor rfl rfl rfl) ?_
    refine WL.r rfl rfl rfl (rdW_add rfl rfl rfl) ?_
    refine WL.r rfl rfl rfl (rd_assign rfl rfl) ?_
    refine WL.nil ?_
    refine WX.then_normal ?_
    refine WC.seq ?_
    refine WC.mix [0, 0, 2] (by kernel_rfl) (by kernel_rfl) (fun w h => h.draw) ?_
    refine WM.r rfl rfl rfl (rd_slaf rfl rfl rfl Tryd.underlying107 (by kernel_rfl : _ = some 1) ?_ (by (try simp only [Int.toNat_natCast, Nat.mul_one, Nat.zero_add, Nat.add_zero, Nat.zero_mul, Int.reduceToNat, Nat.reduceAdd, Nat.reduceMul, Nat.reduceSub, Nat.sub_zero]); rfl) (by (try simp only [Int.toNat_natCast, Nat.mul_one, Nat.zero_add, Nat.add_zero, Nat.zero_mul, Int.reduceToNat, Nat.reduceAdd, Nat.reduceMul, Nat.reduceSub, Nat.sub_zero]); rfl) (by (try simp only [Int.toNat_natCast, Nat.mul_one, Nat.zero_add, Nat.add_zero, Nat.zero_mul, Int.reduceToNat, Nat.reduceAdd, Nat.reduceMul, Nat.reduceSub, Nat.sub_zero]); rfl)) ?_
    · omega
    refine WM.r rfl rfl rfl (rd_slat rfl rfl rfl Tryd.underlying107 (by kernel_rfl : _ = some 1) ?_ (by (try simp only [Int.toNat_natCast, Nat.mul_one, Nat.zero_add, Nat.add_zero, Nat.zero_mul, Int.reduceToNat, Nat.reduceAdd, Nat.reduceMul, Nat.reduceSub, Nat.sub_zero]); rfl)) ?_
    · omega
    refine WM.h rfl rfl rfl (cpyl rfl rfl rfl (by first | exact .here | exact .t1 | exact .t2 | exact .t3 | exact .t4 | exact .t5 | exact .t6 | exact .t7) Tryd.underlying103 (by kernel_rfl) (by rfl) (by rfl) (fun w' h => h.sl_of (xs := [u32 xa, u32 xb, u32 xc, u32 xd, u32 xe, u32 xf, u32 xg]) (by first | exact .here | exact .t1 | exact .t2 | exact .t3) rfl) (by simp [u32, Value.oneCell']) (by simp) (ys := [u32 xa, u32 xa, u32 xb, u32 xc, u32 xd, u32 xe, u32 xf, u32 xg]) rfl) ?_
    intro _
    refine WM.nil ?_
    refine WX.then_normal ?_
    refine WC.seq ?_
    refine WC.region ?_
    refine WL.r rfl rfl rfl (rd_iaa rfl rfl rfl Tryd.underlying107 (by kernel_rfl : _ = some 1) ?_ (by (try simp only [Int.toNat_natCast, Nat.mul_one, Nat.zero_add, Nat.add_zero, Nat.zero_mul, Int.reduceToNat, Nat.reduceAdd, Nat.reduceMul, Nat.reduceSub, Nat.sub_zero]); rfl)) ?_
    · omega
    refine WL.r rfl rfl rfl (ld rfl rfl (by first | exact .here | exact .t1 | exact .t2 | exact .t3 | exact .t4 | exact .t5 | exact .t6 | exact .t7) Tryd.underlying102 rfl (by rfl)) ?_
    refine WL.r rfl rfl rfl (rd_move rfl rfl) ?_
    refine WL.r rfl rfl rfl (rdW_add rfl rfl rfl) ?_
    refine WL.r rfl rfl rfl (rd_iaa rfl rfl rfl Tryd.underlying107 (by kernel_rfl : _ = some 1) ?_ (by (try simp only [Int.toNat_natCast, Nat.mul_one, Nat.zero_add, Nat.add_zero, Nat.zero_mul, Int.reduceToNat, Nat.reduceAdd, Nat.reduceMul, Nat.reduceSub, Nat.sub_zero]); rfl)) ?_
    · omega
    refine WL.g0 rfl rfl (st rfl rfl rfl (by first | exact .here | exact .t1 | exact .t2 | exact .t3 | exact .t4 | exact .t5 | exact .t6 | exact .t7) (by kernel_rfl) rfl ?_ rfl) ?_
    · first | decide | (simp; done) | (simp; omega)
    intro _
    refine WL.nil ?_
    refine WX.then_normal ?_
    refine WC.region ?_
    refine WL.r rfl rfl rfl (rd_move rfl rfl) ?_
    refine WL.r rfl rfl rfl (rd_move rfl rfl) ?_
    refine WL.r rfl rfl rfl (rdW_add rfl rfl rfl) ?_
    refine WL.r rfl rfl rfl (rd_iaa rfl rfl rfl Tryd.underlying107 (by kernel_rfl : _ = some 1) ?_ (by (try simp only [Int.toNat_natCast, Nat.mul_one, Nat.zero_add, Nat.add_zero, Nat.zero_mul, Int.reduceToNat, Nat.reduceAdd, Nat.reduceMul, Nat.reduceSub, Nat.sub_zero]); rfl)) ?_
    · omega
    refine WL.g0 rfl rfl (st rfl rfl rfl (by first | exact .here | exact .t1 | exact .t2 | exact .t3 | exact .t4 | exact .t5 | exact .t6 | exact .t7) (by kernel_rfl) rfl ?_ rfl) ?_
    · first | decide | (simp; done) | (simp; omega)
    intro _
    refine WL.nil ?_
    refine WX.block_normal ?_
    refine WX.then_normal ?_
    refine WC.region ?_
    first
      | (refine WL.r rfl rfl rfl (rd_add64nl rfl rfl rfl ?_) ?_; focus (omega))
      | (refine WL.r rfl rfl rfl (rd_add64 rfl rfl rfl ?_) ?_; focus (omega))
    refine WL.r rfl rfl rfl (rd_move rfl rfl) ?_
    refine WL.nil ?_
    exact WX.loop (k + 1) (by omega) (by repeat (first | exact sub_nil _ | refine sub_cons rfl ?_)) (fun w' h => ⟨by omega, by rw [show rounds KK ws (k + 1) x0 = rnd (KK.getD k 0) (ws.getD k 0) (rounds KK ws k x0) from rfl, hX]; exact h⟩)
  · (try simp only [decide_eq_true_eq, decide_eq_false_iff_not, Bool.not_eq_true', Bool.not_eq_false', Bool.not_not, Int.not_lt, Int.not_le] at hc23)
    refine WC.exit ?_
    refine WX.then_exit ?_
    refine WX.then_exit ?_
    refine WX.block_exit ?_
    obtain rfl : k = 64 := by omega
    have hrl := rounds_len KK ws 64 x0 hx0
    obtain ⟨X, hX⟩ : ∃ X, rounds KK ws 64 x0 = X := ⟨_, rfl⟩
    rw [hX] at hrl ⊢
    have hadl := addW_len X x0 (by omega)
    refine WX.then_normal ?_
    refine WC.seq ?_
    refine WC.seq ?_
    refine WC.region ?_
    refine WL.r rfl rfl rfl (rd_move rfl rfl) ?_
    refine WL.nil ?_
    refine WX.then_normal ?_
    refine WC.block ?_
    refine WC.loop (σ := Nat) (fun k => [(2, .pointer (some ⟨b2, 0, none⟩)), (4, .pointer (some ⟨b4, 0, none⟩)), (7, .pointer (some ⟨b7, 0, none⟩)), (98, .int .i64 (k : Int))]) (fun k w' => k ≤ 8 ∧ St (fun _ => True) w [⟨some b7, ((addW X x0).take k ++ X.drop k).map u32, 107⟩, ⟨some b4, List.replicate 8 (u32 0), 107⟩, ⟨some b2, x0.map u32, 107⟩] [] w') (fun k => 8 - k) 0 (by repeat (first | exact sub_nil _ | refine sub_cons rfl ?_)) (fun w' h => ⟨by omega, h.sub (by repeat first | exact List.Sublist.refl _ | apply List.Sublist.cons_cons | apply List.Sublist.cons) (by simp)⟩) ?_
    intro q; refine WC.pu ?_; intro hq
    refine WC.seq ?_
    refine WC.region ?_
    refine WL.r rfl rfl rfl (rd_lss rfl rfl rfl) ?_
    refine WL.nil ?_
    refine WX.then_normal ?_
    refine WC.seq ?_
    refine WC.cond rfl (fun hc99 => ?_) (fun hc99 => ?_)
    · (try simp only [decide_eq_true_eq, decide_eq_false_iff_not, Bool.not_eq_true', Bool.not_eq_false', Bool.not_not, Int.not_lt, Int.not_le] at hc99)
      have hXq := get_getD X q 0 (by omega)
      have hxq := get_getD x0 q 0 (by omega)
      refine WC.skip ?_
      refine WX.then_normal ?_
      refine WC.seq ?_
      refine WC.block ?_
      refine WC.seq ?_
      refine WC.region ?_
      refine WL.r rfl rfl rfl (rd_move rfl rfl) ?_
      refine WL.r rfl rfl rfl (rd_assign rfl rfl) ?_
      refine WL.nil ?_
      refine WX.then_normal ?_
      refine WC.mix [0, 0, 0, 0, 0, 0, 0, 0, 2] (by kernel_rfl) (by kernel_rfl) (fun w h => h.draw) ?_
      refine WM.r rfl rfl rfl (rd_move rfl rfl) ?_
      refine WM.r rfl rfl rfl (rd_iaa rfl rfl rfl Tryd.underlying107 (by kernel_rfl : _ = some 1) ?_ (by (try simp only [Int.toNat_natCast, Nat.mul_one, Nat.zero_add, Nat.add_zero, Nat.zero_mul, Int.reduceToNat, Nat.reduceAdd, Nat.reduceMul, Nat.reduceSub, Nat.sub_zero]); rfl)) ?_
      · omega
      refine WM.r rfl rfl rfl (ld rfl rfl (by first | exact .here | exact .t1 | exact .t2 | exact .t3 | exact .t4 | exact .t5 | exact .t6 | exact .t7) Tryd.underlying102 rfl (by rw [List.getElem?_map, List.getElem?_append_right (by simp; omega), List.getElem?_drop, List.length_take, hadl, show q + (q - min q X.length) = q by omega, hXq]; rfl)) ?_
      refine WM.r rfl rfl rfl (rd_move rfl rfl) ?_
      refine WM.r rfl rfl rfl (rd_iaa rfl rfl rfl Tryd.underlying107 (by kernel_rfl : _ = some 1) ?_ (by (try simp only [Int.toNat_natCast, Nat.mul_one, Nat.zero_add, Nat.add_zero, Nat.zero_mul, Int.reduceToNat, Nat.reduceAdd, Nat.reduceMul, Nat.reduceSub, Nat.sub_zero]); rfl)) ?_
      · omega
      refine WM.r rfl rfl rfl (ld rfl rfl (by first | exact .here | exact .t1 | exact .t2 | exact .t3 | exact .t4 | exact .t5 | exact .t6 | exact .t7) Tryd.underlying102 rfl (by rw [List.getElem?_map, hxq]; rfl)) ?_
      refine WM.r rfl rfl rfl (rdW_add rfl rfl rfl) ?_
      refine WM.r rfl rfl rfl (rd_iaa rfl rfl rfl Tryd.underlying107 (by kernel_rfl : _ = some 1) ?_ (by (try simp only [Int.toNat_natCast, Nat.mul_one, Nat.zero_add, Nat.add_zero, Nat.zero_mul, Int.reduceToNat, Nat.reduceAdd, Nat.reduceMul, Nat.reduceSub, Nat.sub_zero]); rfl)) ?_
      · omega
      refine WM.h0 rfl rfl (st rfl rfl rfl (by first | exact .here | exact .t1 | exact .t2 | exact .t3 | exact .t4 | exact .t5 | exact .t6 | exact .t7) (by kernel_rfl) rfl ?_ rfl) ?_
      · simp; omega
      intro _
      refine WM.nil ?_
      refine WX.block_normal ?_
      refine WX.then_normal ?_
      refine WC.region ?_
      first
        | (refine WL.r rfl rfl rfl (rd_add64nl rfl rfl rfl ?_) ?_; focus (omega))
        | (refine WL.r rfl rfl rfl (rd_add64 rfl rfl rfl ?_) ?_; focus (omega))
      refine WL.r rfl rfl rfl (rd_move rfl rfl) ?_
      refine WL.nil ?_
      exact WX.loop (q + 1) (by omega) (by repeat (first | exact sub_nil _ | refine sub_cons rfl ?_)) (fun w' h => ⟨by omega, by rw [addW_set X x0 q _ _ (by omega) hXq hxq] at h; exact h⟩)
    · (try simp only [decide_eq_true_eq, decide_eq_false_iff_not, Bool.not_eq_true', Bool.not_eq_false', Bool.not_not, Int.not_lt, Int.not_le] at hc99)
      refine WC.exit ?_
      refine WX.then_exit ?_
      refine WX.then_exit ?_
      refine WX.block_exit ?_
      obtain rfl : q = 8 := by omega
      have hfin : (addW X x0).take 8 ++ X.drop 8 = addW X x0 := by rw [List.take_of_length_le (by omega), List.drop_eq_nil_of_le (by omega), List.append_nil]
      rw [hfin]
      have hal : (addW X x0).length = 8 := by omega
      refine WX.then_normal ?_
      refine WC.seq ?_
      refine WC.region ?_
      refine WL.r rfl rfl rfl (lda rfl rfl (by first | exact .here | exact .t1 | exact .t2 | exact .t3 | exact .t4 | exact .t5 | exact .t6 | exact .t7) Tryd.underlying107 rfl ?_) ?_
      · rw [List.length_map, hal]; kernel_rfl
      refine WL.g0 rfl rfl (sta rfl rfl rfl (by first | exact .here | exact .t1 | exact .t2 | exact .t3 | exact .t4 | exact .t5 | exact .t6 | exact .t7) ?_ ?_ ?_) ?_
      · rw [List.length_map, hal]; kernel_rfl
      · exact u32_one _
      · rw [List.length_map, hal]; rfl
      intro _
      refine WL.nil ?_
      refine WX.then_normal ?_
      refine WC.ret ?_
      exact WX.ret1c rfl rfl (by first | exact .here | exact .t1 | exact .t2 | exact .t3) Tryd.underlying107 rfl (by rw [List.length_map, hal]; kernel_rfl) fun w' hS => ⟨rfl, hS.below⟩
end Go.Proofs.YtikcjkifhliidaaDoor
