/-
  The walks of the reference's hash: compress, Sum, Hex, xored, Mac.
-/
import Derived.Test.YtikcjkifhliidaaDoorRef1
namespace Go.Proofs.YtikcjkifhliidaaDoor
set_option linter.unusedSimpArgs false
set_option linter.unusedVariables false
set_option maxRecDepth 20000
open Go.RowKit

structure GC where
  k : Nat
  b : Nat
  cap : Nat
  sp : List Value

theorem rcompress_ok (x0 : List W) (hx0 : x0.length = 8) (bs : List UInt8) (hbs : bs.length = 64) (ad : Option Addr) (cap0 : Nat) (ok : Nat → Prop) (w : World) (hok : ∀ b, w.heap.size ≤ b → ok b) (hf : (Fact.sl ad (x0.map u32)).holds (fun _ => True) w) :
    Calls Tryd.prog 93 #[.slice ad 8 cap0, .string (S bs)] w fun e w' => ∃ g : GC, e = .returned (.slice (some ⟨g.b, 0, none⟩) 8 g.cap) ∧ Below w.heap.size w w' ∧ ∀ x ∈ [Fact.sl (some ⟨g.b, 0, none⟩) ((compress x0 bs).map u32)], x.holds ok w' := by
  obtain ⟨ad, rfl⟩ : ∃ a, ad = some a := by
    rcases hf with h | ⟨b, off, cs, T, fz, h, _⟩
    · simp at h; subst h; simp at hx0
    · exact ⟨_, h⟩
  obtain ⟨b0, off0, rfl⟩ : ∃ b0 off0, ad = ⟨b0, off0, none⟩ := by
    rcases hf with h | ⟨b, off, cs, T, fz, h, _⟩
    · simp at h; subst h; simp at hx0
    · exact ⟨b, off, Option.some.inj h⟩
  have hwl := words_len 16 bs hbs
  have hsl := sched_len 48 (words bs)
  rw [hwl] at hsl
  have hsch := rsched_ok bs hbs
  obtain ⟨ws, hws⟩ : ∃ ws, sched 48 (words bs) = ws := ⟨_, rfl⟩
  have hcomp : compress x0 bs = addW (rounds KK ws 64 x0) x0 := by rw [← hws]; rfl
  rw [hws] at hsl hsch
  rw [hcomp]
  have hkk : KK.length = 64 := rfl
  refine Calls.mono (R := fun e w' => ∃ g : GC, e = .returned (.slice (some ⟨g.b, 0, none⟩) 8 g.cap) ∧ St (fun b => ok b ∨ b < w.heap.size) w [] [Fact.sl (some ⟨g.b, 0, none⟩) ((addW (rounds KK ws 64 x0) x0).map u32)] w' ∧ (Fact.sl (some ⟨g.b, 0, none⟩) ((addW (rounds KK ws 64 x0) x0).map u32)).holds (fun b => w.heap.size ≤ b) w') ?_ (fun e w' ⟨g, he, hS, hh⟩ => ⟨g, he, hS.below, fun x hx => by simp only [List.mem_singleton] at hx; subst hx; exact Fact.mono _ (fun b hb => hok b hb) hh⟩)
  refine enter (S := St (fun b => ok b ∨ b < w.heap.size) w [] [Fact.sl (some ⟨b0, off0, none⟩) (x0.map u32)]) (L := [(0, .slice (some ⟨b0, off0, none⟩) 8 cap0), (1, .string (S bs))]) Tryd.func93 rfl Tryd.ntmps93 rfl (args_cons rfl (args_cons rfl (args_nil _))) (St.start (fun b hb => .inl (hok b hb)) (by intro f hf'; simp only [List.mem_singleton] at hf'; subst hf'; exact Fact.mono _ (fun b hb => .inr hb.2) (Fact.here _ hf))) ?_
  refine WC.seq ?_
  refine WC.region ?_
  refine WL.r rfl rfl rfl (rd_assign rfl rfl) ?_
  refine WL.nil ?_
  refine WX.then_normal ?_
  refine WC.seq ?_
  refine WC.region ?_
  refine WL.r rfl rfl rfl (rd_move rfl rfl) ?_
  refine WL.g rfl rfl rfl (og_call rfl rfl (by kernel_rfl) (keep_fact (F := fun b : Nat => [Fact.sl (some ⟨b, 0, none⟩) (ws.map u32)]) fun w hS => hsch _ w hS.fresh)) ?_
  intro bw
  refine WL.g rfl rfl rfl (og_call rfl rfl (by kernel_rfl) (keep_fact (F := fun b : Nat => [Fact.sl (some ⟨b, 0, none⟩) (KK.map u32)]) fun w hS => rconst_ok _ w hS.fresh)) ?_
  intro bk
  refine WL.r rfl rfl rfl (rd_assign rfl rfl) ?_
  refine WL.r rfl rfl rfl (rd_assign rfl rfl) ?_
  refine WL.nil ?_
  refine WX.then_normal ?_
  refine WC.seq ?_
  refine WC.region ?_
  refine WL.g rfl rfl rfl (og_bs1 rfl rfl Tryd.underlying103 (by kernel_rfl : _ = some (some (.int .u32 0), 1, 4)) rfl (by simp only [List.map]; rfl) rfl rfl ?_ (by decide)) ?_
  · simp
  intro b21
  refine WL.r rfl rfl rfl (rd_move rfl rfl) ?_
  refine WL.st (S' := St (fun b => ok b ∨ b < w.heap.size) w [⟨some b21, [] ++ [], 102⟩] [Fact.sl (some ⟨bk, 0, none⟩) (KK.map u32), Fact.sl (some ⟨bw, 0, none⟩) (ws.map u32), Fact.sl (some ⟨b0, off0, none⟩) (x0.map u32)]) (fun _ h => h) ?_
  refine WL.g rfl rfl rfl (appx rfl Tryd.underlying103 (by kernel_rfl : _ = some (some (.int .u32 0), 1, 4)) rfl (ob := some b21) .here (by rfl) (by rfl) (fun w hS => hS.holds_any (k := 2) rfl) (by simp [hx0]) (by simp) (u32_one _)) ?_
  intro g23
  refine WL.pu ?_
  intro hg23
  refine WL.r rfl rfl rfl (rd_assign rfl rfl) ?_
  refine WL.nil ?_
  refine WX.then_normal ?_
  refine WC.seq ?_
  refine WC.seq ?_
  refine WC.region ?_
  refine WL.r rfl rfl rfl (rd_assign rfl rfl) ?_
  refine WL.nil ?_
  refine WX.then_normal ?_
  refine WC.block ?_
  refine WC.loop (σ := GC) (fun g => [(0, .slice (some ⟨b0, off0, none⟩) 8 cap0), (5, .slice (some ⟨bw, 0, none⟩) 64 64), (6, .slice (some ⟨bk, 0, none⟩) 64 64), (7, .slice (some ⟨g.b, 0, none⟩) 8 g.cap), (8, .int .i64 (g.k : Int))]) (fun g w' => (g.k ≤ 64 ∧ g.cap = 8 + g.sp.length) ∧ St (fun b => ok b ∨ b < w.heap.size) w [⟨some g.b, (rounds KK ws g.k x0).map u32 ++ g.sp, 102⟩] [Fact.sl (some ⟨bk, 0, none⟩) (KK.map u32), Fact.sl (some ⟨bw, 0, none⟩) (ws.map u32), Fact.sl (some ⟨b0, off0, none⟩) (x0.map u32)] w') (fun g => 64 - g.k) ⟨0, g23.b, g23.cap, g23.spare⟩ (by repeat (first | exact sub_nil _ | refine sub_cons rfl ?_)) (fun w' h => ⟨⟨by simp, by have := hg23.2; show g23.cap = 8 + g23.spare.length; omega⟩, h⟩) ?_
  rintro ⟨k, bv, capv, sp⟩; dsimp only; refine WC.pu ?_; rintro ⟨hk, hcapv⟩
  refine WC.seq ?_
  refine WC.seq ?_
  refine WC.region ?_
  refine WL.r rfl rfl rfl (rd_move rfl rfl) ?_
  refine WL.r rfl rfl rfl (rd_lss rfl rfl rfl) ?_
  refine WL.nil ?_
  refine WX.then_normal ?_
  refine WC.cond rfl (fun hc25 => ?_) (fun hc25 => ?_)
  · (try simp only [decide_eq_true_eq, decide_eq_false_iff_not, Bool.not_eq_true', Bool.not_eq_false', Bool.not_not, Int.not_lt, Int.not_le] at hc25)
    obtain ⟨xa, xb, xc, xd, xe, xf, xg, xh, hX⟩ := eight (rounds KK ws k x0) (rounds_len _ _ _ _ hx0)
    rw [hX]
    refine WC.skip ?_
    refine WX.then_normal ?_
    refine WC.seq ?_
    refine WC.block ?_
    refine WC.seq ?_
    refine WC.mix [0, 0, 0, 0, 0, 0, 0, 0, 0, 0, 0, 0, 0, 0, 0, 0, 0, 0, 0, 0, 0, 0, 0, 0] (by kernel_rfl) (by kernel_rfl) (fun w h => h.draw) ?_
    refine WM.r rfl rfl rfl (rd_move rfl rfl) ?_
    refine WM.r rfl rfl rfl (rd_ia rfl rfl rfl Tryd.underlying103 (by kernel_rfl : _ = some 1) ?_ (by (try simp only [Int.toNat_natCast, Nat.mul_one, Nat.zero_add, Nat.add_zero, Nat.zero_mul, Int.reduceToNat, Nat.reduceAdd, Nat.reduceMul, Nat.reduceSub, Nat.sub_zero]); rfl)) ?_
    · omega
    refine WM.r rfl rfl rfl (ld rfl rfl (by first | exact .here | exact .t1 | exact .t2 | exact .t3 | exact .t4 | exact .t5 | exact .t6 | exact .t7) Tryd.underlying102 rfl (by rfl)) ?_
    refine WM.r rfl rfl rfl (rd_move rfl rfl) ?_
    refine WM.r rfl rfl rfl (rd_ia rfl rfl rfl Tryd.underlying103 (by kernel_rfl : _ = some 1) ?_ (by (try simp only [Int.toNat_natCast, Nat.mul_one, Nat.zero_add, Nat.add_zero, Nat.zero_mul, Int.reduceToNat, Nat.reduceAdd, Nat.reduceMul, Nat.reduceSub, Nat.sub_zero]); rfl)) ?_
    · omega
    refine WM.r rfl rfl rfl (ld rfl rfl (by first | exact .here | exact .t1 | exact .t2 | exact .t3 | exact .t4 | exact .t5 | exact .t6 | exact .t7) Tryd.underlying102 rfl (by rfl)) ?_
    refine WM.r rfl rfl rfl (rd_move rfl rfl) ?_
    refine WM.r rfl rfl rfl (rd_ia rfl rfl rfl Tryd.underlying103 (by kernel_rfl : _ = some 1) ?_ (by (try simp only [Int.toNat_natCast, Nat.mul_one, Nat.zero_add, Nat.add_zero, Nat.zero_mul, Int.reduceToNat, Nat.reduceAdd, Nat.reduceMul, Nat.reduceSub, Nat.sub_zero]); rfl)) ?_
    · omega
    refine WM.r rfl rfl rfl (ld rfl rfl (by first | exact .here | exact .t1 | exact .t2 | exact .t3 | exact .t4 | exact .t5 | exact .t6 | exact .t7) Tryd.underlying102 rfl (by rfl)) ?_
    refine WM.r rfl rfl rfl (rd_move rfl rfl) ?_
    refine WM.r rfl rfl rfl (rd_ia rfl rfl rfl Tryd.underlying103 (by kernel_rfl : _ = some 1) ?_ (by (try simp only [Int.toNat_natCast, Nat.mul_one, Nat.zero_add, Nat.add_zero, Nat.zero_mul, Int.reduceToNat, Nat.reduceAdd, Nat.reduceMul, Nat.reduceSub, Nat.sub_zero]); rfl)) ?_
    · omega
    refine WM.r rfl rfl rfl (ld rfl rfl (by first | exact .here | exact .t1 | exact .t2 | exact .t3 | exact .t4 | exact .t5 | exact .t6 | exact .t7) Tryd.underlying102 rfl (by rfl)) ?_
    refine WM.r rfl rfl rfl (rd_move rfl rfl) ?_
    refine WM.r rfl rfl rfl (rd_ia rfl rfl rfl Tryd.underlying103 (by kernel_rfl : _ = some 1) ?_ (by (try simp only [Int.toNat_natCast, Nat.mul_one, Nat.zero_add, Nat.add_zero, Nat.zero_mul, Int.reduceToNat, Nat.reduceAdd, Nat.reduceMul, Nat.reduceSub, Nat.sub_zero]); rfl)) ?_
    · omega
    refine WM.r rfl rfl rfl (ld rfl rfl (by first | exact .here | exact .t1 | exact .t2 | exact .t3 | exact .t4 | exact .t5 | exact .t6 | exact .t7) Tryd.underlying102 rfl (by rfl)) ?_
    refine WM.r rfl rfl rfl (rd_move rfl rfl) ?_
    refine WM.r rfl rfl rfl (rd_ia rfl rfl rfl Tryd.underlying103 (by kernel_rfl : _ = some 1) ?_ (by (try simp only [Int.toNat_natCast, Nat.mul_one, Nat.zero_add, Nat.add_zero, Nat.zero_mul, Int.reduceToNat, Nat.reduceAdd, Nat.reduceMul, Nat.reduceSub, Nat.sub_zero]); rfl)) ?_
    · omega
    refine WM.r rfl rfl rfl (ld rfl rfl (by first | exact .here | exact .t1 | exact .t2 | exact .t3 | exact .t4 | exact .t5 | exact .t6 | exact .t7) Tryd.underlying102 rfl (by rfl)) ?_
    refine WM.r rfl rfl rfl (rd_assign rfl rfl) ?_
    refine WM.r rfl rfl rfl (rd_assign rfl rfl) ?_
    refine WM.r rfl rfl rfl (rd_assign rfl rfl) ?_
    refine WM.r rfl rfl rfl (rd_assign rfl rfl) ?_
    refine WM.r rfl rfl rfl (rd_assign rfl rfl) ?_
    refine WM.r rfl rfl rfl (rd_assign rfl rfl) ?_
    refine WM.nil ?_
    refine WX.then_normal ?_
    refine WC.seq ?_
    refine WC.mix [0, 0, 0, 0, 1, 0, 1, 0, 0, 1, 0, 0, 0, 0, 0, 0, 0, 0, 0, 0, 0, 0, 0, 0, 0, 0, 0, 0, 0, 0, 0, 0] (by kernel_rfl) (by kernel_rfl) (fun w h => h.draw) ?_
    refine WM.r rfl rfl rfl (rd_move rfl rfl) ?_
    refine WM.r rfl rfl rfl (rd_ia rfl rfl rfl Tryd.underlying103 (by kernel_rfl : _ = some 1) ?_ (by (try simp only [Int.toNat_natCast, Nat.mul_one, Nat.zero_add, Nat.add_zero, Nat.zero_mul, Int.reduceToNat, Nat.reduceAdd, Nat.reduceMul, Nat.reduceSub, Nat.sub_zero]); rfl)) ?_
    · omega
    refine WM.r rfl rfl rfl (ld rfl rfl (by first | exact .here | exact .t1 | exact .t2 | exact .t3 | exact .t4 | exact .t5 | exact .t6 | exact .t7) Tryd.underlying102 rfl (by rfl)) ?_
    refine WM.r rfl rfl rfl (rd_move rfl rfl) ?_
    refine WM.g rfl rfl rfl (og_call rfl rfl (by kernel_rfl) (keep_val fun w _ => right_lit _ _ (by decide) (by decide) w)) (fun _ _ h => by first | exact h | exact ⟨_, h⟩ | exact ⟨_, h.2⟩ | exact h.2 | exact h.sub (by repeat (first | exact List.Sublist.refl _ | apply List.Sublist.cons)) (fun _ h => by simp [*]) | exact h.2.sub (by repeat (first | exact List.Sublist.refl _ | apply List.Sublist.cons)) (fun _ h => by simp [*])) ?_
    intro _
    refine WM.r rfl rfl rfl (rd_move rfl rfl) ?_
    refine WM.g rfl rfl rfl (og_call rfl rfl (by kernel_rfl) (keep_val fun w _ => right_lit _ _ (by decide) (by decide) w)) (fun _ _ h => by first | exact h | exact ⟨_, h⟩ | exact ⟨_, h.2⟩ | exact h.2 | exact h.sub (by repeat (first | exact List.Sublist.refl _ | apply List.Sublist.cons)) (fun _ h => by simp [*]) | exact h.2.sub (by repeat (first | exact List.Sublist.refl _ | apply List.Sublist.cons)) (fun _ h => by simp [*])) ?_
    intro _
    refine WM.r rfl rfl rfl (rdW_xor rfl rfl rfl) ?_
    refine WM.r rfl rfl rfl (rd_move rfl rfl) ?_
    refine WM.g rfl rfl rfl (og_call rfl rfl (by kernel_rfl) (keep_val fun w _ => right_lit _ _ (by decide) (by decide) w)) (fun _ _ h => by first | exact h | exact ⟨_, h⟩ | exact ⟨_, h.2⟩ | exact h.2 | exact h.sub (by repeat (first | exact List.Sublist.refl _ | apply List.Sublist.cons)) (fun _ h => by simp [*]) | exact h.2.sub (by repeat (first | exact List.Sublist.refl _ | apply List.Sublist.cons)) (fun _ h => by simp [*])) ?_
    intro _
    refine WM.r rfl rfl rfl (rdW_xor rfl rfl rfl) ?_
    refine WM.r rfl rfl rfl (rdW_add rfl rfl rfl) ?_
    refine WM.r rfl rfl rfl (rd_move rfl rfl) ?_
    refine WM.r rfl rfl rfl (rd_move rfl rfl) ?_
    refine WM.r rfl rfl rfl (rdW_and rfl rfl rfl) ?_
    refine WM.r rfl rfl rfl (rd_move rfl rfl) ?_
    refine WM.r rfl rfl rfl (rdW_com rfl rfl) ?_
    refine WM.r rfl rfl rfl (rd_move rfl rfl) ?_
    refine WM.r rfl rfl rfl (rdW_and rfl rfl rfl) ?_
    refine WM.r rfl rfl rfl (rdW_xor rfl rfl rfl) ?_
    refine WM.r rfl rfl rfl (rdW_add rfl rfl rfl) ?_
    refine WM.r rfl rfl rfl (rd_move rfl rfl) ?_
    refine WM.r rfl rfl rfl (rd_move rfl rfl) ?_
    refine WM.r rfl rfl rfl (rd_ia rfl rfl rfl Tryd.underlying103 (by kernel_rfl : _ = some 1) ?_ (by (try simp only [Int.toNat_natCast, Nat.mul_one, Nat.zero_add, Nat.add_zero, Nat.zero_mul, Int.reduceToNat, Nat.reduceAdd, Nat.reduceMul, Nat.reduceSub, Nat.sub_zero]); rfl)) ?_
    · omega
    refine WM.r rfl rfl rfl (ldf rfl rfl (by first | exact .here | exact .t1 | exact .t2 | exact .t3 | exact .t4 | exact .t5 | exact .t6 | exact .t7) Tryd.underlying102 rfl (m := k) (by omega) (by rw [List.getElem?_map, get_getD KK k 0 (by omega)]; rfl)) ?_
    refine WM.r rfl rfl rfl (rdW_add rfl rfl rfl) ?_
    refine WM.r rfl rfl rfl (rd_move rfl rfl) ?_
    refine WM.r rfl rfl rfl (rd_move rfl rfl) ?_
    refine WM.r rfl rfl rfl (rd_ia rfl rfl rfl Tryd.underlying103 (by kernel_rfl : _ = some 1) ?_ (by (try simp only [Int.toNat_natCast, Nat.mul_one, Nat.zero_add, Nat.add_zero, Nat.zero_mul, Int.reduceToNat, Nat.reduceAdd, Nat.reduceMul, Nat.reduceSub, Nat.sub_zero]); rfl)) ?_
    · omega
    refine WM.r rfl rfl rfl (ldf rfl rfl (by first | exact .here | exact .t1 | exact .t2 | exact .t3 | exact .t4 | exact .t5 | exact .t6 | exact .t7) Tryd.underlying102 rfl (m := k) (by omega) (by rw [List.getElem?_map, get_getD ws k 0 (by omega)]; rfl)) ?_
    refine WM.r rfl rfl rfl (rdW_add rfl rfl rfl) ?_
    refine WM.r rfl rfl rfl (rd_assign rfl rfl) ?_
    refine WM.nil ?_
    refine WX.then_normal ?_
    refine WC.seq ?_
    refine WC.region ?_
    refine WL.r rfl rfl rfl (rd_move rfl rfl) ?_
    refine WL.g rfl rfl rfl (og_call rfl rfl (by kernel_rfl) (keep_val fun w _ => right_lit _ _ (by decide) (by decide) w)) ?_
    intro _
    refine WL.r rfl rfl rfl (rd_move rfl rfl) ?_
    refine WL.g rfl rfl rfl (og_call rfl rfl (by kernel_rfl) (keep_val fun w _ => right_lit _ _ (by decide) (by decide) w)) ?_
    intro _
    refine WL.r rfl rfl rfl (rdW_xor rfl rfl rfl) ?_
    refine WL.r rfl rfl rfl (rd_move rfl rfl) ?_
    refine WL.g rfl rfl rfl (og_call rfl rfl (by kernel_rfl) (keep_val fun w _ => right_lit _ _ (by decide) (by decide) w)) ?_
    intro _
    refine WL.r rfl rfl rfl (rdW_xor rfl rfl rfl) ?_
    refine WL.r rfl rfl rfl (rd_move rfl rfl) ?_
    refine WL.r rfl rfl rfl (rd_move rfl rfl) ?_
    refine WL.r rfl rfl rfl (rdW_and rfl rfl rfl) ?_
    refine WL.r rfl rfl rfl (rd_move rfl rfl) ?_
    refine WL.r rfl rfl rfl (rd_move rfl rfl) ?_
    refine WL.r rfl rfl rfl (rdW_and rfl rfl rfl) ?_
    refine WL.r rfl rfl rfl (rdW_xor rfl rfl rfl) ?_
    refine WL.r rfl rfl rfl (rd_move rfl rfl) ?_
    refine WL.r rfl rfl rfl (rd_move rfl rfl) ?_
    refine WL.r rfl rfl rfl (rdW_and rfl rfl rfl) ?_
    refine WL.r rfl rfl rfl (rdW_xor rfl rfl rfl) ?_
    refine WL.r rfl rfl rfl (rdW_add rfl rfl rfl) ?_
    refine WL.r rfl rfl rfl (rd_assign rfl rfl) ?_
    refine WL.nil ?_
    refine WX.then_normal ?_
    refine WC.region ?_
    refine WL.r rfl rfl rfl (rd_move rfl rfl) ?_
    refine WL.r rfl rfl rfl (rd_move rfl rfl) ?_
    refine WL.r rfl rfl rfl (rdW_add rfl rfl rfl) ?_
    refine WL.r rfl rfl rfl (rd_move rfl rfl) ?_
    refine WL.r rfl rfl rfl (rd_move rfl rfl) ?_
    refine WL.r rfl rfl rfl (rd_move rfl rfl) ?_
    refine WL.r rfl rfl rfl (rd_move rfl rfl) ?_
    refine WL.r rfl rfl rfl (rd_ia rfl rfl rfl Tryd.underlying103 (by kernel_rfl : _ = some 1) ?_ (by (try simp only [Int.toNat_natCast, Nat.mul_one, Nat.zero_add, Nat.add_zero, Nat.zero_mul, Int.reduceToNat, Nat.reduceAdd, Nat.reduceMul, Nat.reduceSub, Nat.sub_zero]); rfl)) ?_
    · omega
    refine WL.r rfl rfl rfl (ld rfl rfl (by first | exact .here | exact .t1 | exact .t2 | exact .t3 | exact .t4 | exact .t5 | exact .t6 | exact .t7) Tryd.underlying102 rfl (by rfl)) ?_
    refine WL.r rfl rfl rfl (rd_move rfl rfl) ?_
    refine WL.r rfl rfl rfl (rdW_add rfl rfl rfl) ?_
    refine WL.r rfl rfl rfl (rd_move rfl rfl) ?_
    refine WL.r rfl rfl rfl (rd_move rfl rfl) ?_
    refine WL.r rfl rfl rfl (rd_move rfl rfl) ?_
    refine WL.g rfl rfl rfl (og_bs1 rfl rfl Tryd.underlying103 (by kernel_rfl : _ = some (some (.int .u32 0), 1, 4)) rfl (by simp only [List.map]; rfl) rfl rfl ?_ (by decide)) ?_
    · simp [u32, Value.cells]
    intro b111
    refine WL.r rfl rfl rfl (rd_assign rfl rfl) ?_
    refine WL.nil ?_
    refine WX.block_normal ?_
    refine WX.then_normal ?_
    refine WC.region ?_
    refine WL.r rfl rfl rfl (rd_move rfl rfl) ?_
    first
      | (refine WL.r rfl rfl rfl (rd_add64nl rfl rfl rfl ?_) ?_; focus (omega))
      | (refine WL.r rfl rfl rfl (rd_add64 rfl rfl rfl ?_) ?_; focus (omega))
    refine WL.r rfl rfl rfl (rd_assign rfl rfl) ?_
    refine WL.nil ?_
    exact WX.loop ⟨k + 1, b111, 8, []⟩ (by show 64 - (k + 1) < 64 - k; omega) (by repeat (first | exact sub_nil _ | refine sub_cons rfl ?_)) (fun w' h => ⟨⟨by show k + 1 ≤ 64; omega, rfl⟩, by rw [show rounds KK ws (k + 1) x0 = rnd (KK.getD k 0) (ws.getD k 0) (rounds KK ws k x0) from rfl, hX]; exact h.sub (List.Sublist.cons_cons _ (List.nil_sublist _)) (fun _ h => h)⟩)
  · (try simp only [decide_eq_true_eq, decide_eq_false_iff_not, Bool.not_eq_true', Bool.not_eq_false', Bool.not_not, Int.not_lt, Int.not_le] at hc25)
    refine WC.exit ?_
    refine WX.then_exit ?_
    refine WX.then_exit ?_
    refine WX.block_exit ?_
    obtain rfl : k = 64 := by omega
    have hrl := rounds_len KK ws 64 x0 hx0
    obtain ⟨X, hX⟩ : ∃ X, rounds KK ws 64 x0 = X := ⟨_, rfl⟩
    rw [hX] at hrl ⊢
    have hadl := addW_len X x0 (by omega)
    refine WX.then_normal ?_
    refine WC.seq ?_
    refine WC.seq ?_
    refine WC.region ?_
    refine WL.r rfl rfl rfl (rd_assign rfl rfl) ?_
    refine WL.nil ?_
    refine WX.then_normal ?_
    refine WC.block ?_
    refine WC.loop (σ := Nat) (fun k => [(0, .slice (some ⟨b0, off0, none⟩) 8 cap0), (7, .slice (some ⟨bv, 0, none⟩) 8 capv), (17, .int .i64 (k : Int))]) (fun k w' => k ≤ 8 ∧ St (fun b => ok b ∨ b < w.heap.size) w [⟨some bv, ((addW X x0).take k ++ X.drop k).map u32 ++ sp, 102⟩] [Fact.sl (some ⟨b0, off0, none⟩) (x0.map u32)] w') (fun k => 8 - k) 0 (by repeat (first | exact sub_nil _ | refine sub_cons rfl ?_)) (fun w' h => ⟨by omega, h.sub (List.Sublist.refl _) (by simp)⟩) ?_
    intro q; refine WC.pu ?_; intro hq
    refine WC.seq ?_
    refine WC.seq ?_
    refine WC.region ?_
    refine WL.r rfl rfl rfl (rd_move rfl rfl) ?_
    refine WL.r rfl rfl rfl (rd_lss rfl rfl rfl) ?_
    refine WL.nil ?_
    refine WX.then_normal ?_
    refine WC.cond rfl (fun hc113 => ?_) (fun hc113 => ?_)
    · (try simp only [decide_eq_true_eq, decide_eq_false_iff_not, Bool.not_eq_true', Bool.not_eq_false', Bool.not_not, Int.not_lt, Int.not_le] at hc113)
      have hXq := get_getD X q 0 (by omega)
      have hxq := get_getD x0 q 0 (by omega)
      have hcell : (((addW X x0).take q ++ X.drop q).map u32 ++ sp)[q]? = some (u32 (X.getD q 0)) := map_cell _ u32 _ _ _ (by rw [List.getElem?_append_right (by simp; omega), List.getElem?_drop, List.length_take, hadl, show q + (q - min q X.length) = q by omega, hXq])
      refine WC.skip ?_
      refine WX.then_normal ?_
      refine WC.seq ?_
      refine WC.block ?_
      refine WC.mix [0, 0, 0, 0, 0, 0, 0, 0, 0, 0, 2] (by kernel_rfl) (by kernel_rfl) (fun w h => h.draw) ?_
      refine WM.r rfl rfl rfl (rd_move rfl rfl) ?_
      refine WM.r rfl rfl rfl (rd_move rfl rfl) ?_
      refine WM.r rfl rfl rfl (rd_ia rfl rfl rfl Tryd.underlying103 (by kernel_rfl : _ = some 1) ?_ (by (try simp only [Int.toNat_natCast, Nat.mul_one, Nat.zero_add, Nat.add_zero, Nat.zero_mul, Int.reduceToNat, Nat.reduceAdd, Nat.reduceMul, Nat.reduceSub, Nat.sub_zero]); rfl)) ?_
      · omega
      refine WM.r rfl rfl rfl (ld rfl rfl (by first | exact .here | exact .t1 | exact .t2 | exact .t3 | exact .t4 | exact .t5 | exact .t6 | exact .t7) Tryd.underlying102 rfl (by exact hcell)) ?_
      refine WM.r rfl rfl rfl (rd_move rfl rfl) ?_
      refine WM.r rfl rfl rfl (rd_move rfl rfl) ?_
      refine WM.r rfl rfl rfl (rd_ia rfl rfl rfl Tryd.underlying103 (by kernel_rfl : _ = some 1) ?_ (by (try simp only [Int.toNat_natCast, Nat.mul_one, Nat.zero_add, Nat.add_zero, Nat.zero_mul, Int.reduceToNat, Nat.reduceAdd, Nat.reduceMul, Nat.reduceSub, Nat.sub_zero]); rfl)) ?_
      · omega
      refine WM.r rfl rfl rfl (ldf rfl rfl (by first | exact .here | exact .t1 | exact .t2 | exact .t3 | exact .t4 | exact .t5 | exact .t6 | exact .t7) Tryd.underlying102 rfl (m := q) (by omega) (by rw [List.getElem?_map, hxq]; rfl)) ?_
      refine WM.r rfl rfl rfl (rdW_add rfl rfl rfl) ?_
      refine WM.r rfl rfl rfl (rd_ia rfl rfl rfl Tryd.underlying103 (by kernel_rfl : _ = some 1) ?_ (by (try simp only [Int.toNat_natCast, Nat.mul_one, Nat.zero_add, Nat.add_zero, Nat.zero_mul, Int.reduceToNat, Nat.reduceAdd, Nat.reduceMul, Nat.reduceSub, Nat.sub_zero]); rfl)) ?_
      · omega
      refine WM.h0 rfl rfl (st rfl rfl rfl (by first | exact .here | exact .t1 | exact .t2 | exact .t3 | exact .t4 | exact .t5 | exact .t6 | exact .t7) (by kernel_rfl) rfl ?_ rfl) ?_
      · simp; omega
      intro _
      refine WM.nil ?_
      refine WX.block_normal ?_
      refine WX.then_normal ?_
      refine WC.region ?_
      refine WL.r rfl rfl rfl (rd_move rfl rfl) ?_
      first
        | (refine WL.r rfl rfl rfl (rd_add64nl rfl rfl rfl ?_) ?_; focus (omega))
        | (refine WL.r rfl rfl rfl (rd_add64 rfl rfl rfl ?_) ?_; focus (omega))
      refine WL.r rfl rfl rfl (rd_assign rfl rfl) ?_
      refine WL.nil ?_
      exact WX.loop (q + 1) (by omega) (by repeat (first | exact sub_nil _ | refine sub_cons rfl ?_)) (fun w' h => ⟨by omega, by rw [List.set_append_left _ _ (by simp; omega), addW_set X x0 q _ _ (by omega) hXq hxq] at h; exact h⟩)
    · (try simp only [decide_eq_true_eq, decide_eq_false_iff_not, Bool.not_eq_true', Bool.not_eq_false', Bool.not_not, Int.not_lt, Int.not_le] at hc113)
      refine WC.exit ?_
      refine WX.then_exit ?_
      refine WX.then_exit ?_
      refine WX.block_exit ?_
      obtain rfl : q = 8 := by omega
      have hfin : (addW X x0).take 8 ++ X.drop 8 = addW X x0 := by rw [List.take_of_length_le (by omega), List.drop_eq_nil_of_le (by omega), List.append_nil]
      rw [hfin]
      refine WX.then_normal ?_
      refine WC.seq ?_
      refine WC.region ?_
      refine WL.r rfl rfl rfl (rd_move rfl rfl) ?_
      refine WL.r rfl rfl rfl (rd_assign rfl rfl) ?_
      refine WL.nil ?_
      refine WX.then_normal ?_
      refine WC.ret ?_
      refine WX.ret1 rfl rfl fun w' hS => ⟨⟨0, bv, capv, []⟩, rfl, ?_, ?_⟩
      · exact (st_freeze hS).sub (List.Sublist.refl _) (by simp)
      · exact .inr ⟨bv, 0, _, _, (0, 0), rfl, (hS.own_ ⟨some bv, (addW X x0).map u32 ++ sp, 102⟩ (by simp)).1, (hS.own_ ⟨some bv, (addW X x0).map u32 ++ sp, 102⟩ (by simp)).2, fun i hi => by rw [Nat.zero_add, List.getElem?_toArray, List.getElem?_append_left hi]⟩

structure G3r where
  q : Nat
  b : Nat
  cap : Nat
  x : List W

theorem rsum_ok (l : List UInt8) (hl : l.length ≤ 1000000) (w : World) :
    Calls Tryd.prog 87 #[.string (S l)] w fun e w' => e = .returned (.string (S (sha l))) ∧ Below w.heap.size w w' := by
  have hz : zeros l.length = (119 - l.length % 64) % 64 := rfl
  have hpl : (pad l).length = l.length + 1 + zeros l.length + 8 := by simp [pad, len8]; omega
  obtain ⟨nb, hnb⟩ := pad_len l
  obtain ⟨m, hm⟩ : ∃ m, pad l = m := ⟨_, rfl⟩
  have hpad := padded_ok l hl
  rw [hm] at hnb hpl hpad
  refine enter (S := St (fun _ => True) w [] []) (L := [(0, .string (S l))]) Tryd.func87 rfl Tryd.ntmps87 rfl (args_cons rfl (args_nil _)) (St.start (fun _ _ => trivial) (by simp)) ?_
  refine WC.seq ?_
  refine WC.region ?_
  refine WL.r rfl rfl rfl (rd_assign rfl rfl) ?_
  refine WL.nil ?_
  refine WX.then_normal ?_
  refine WC.seq ?_
  refine WC.region ?_
  refine WL.g rfl rfl rfl (og_bs rfl rfl Tryd.underlying103 (cs := H0.map u32) (fun w => by kernel_rfl)) ?_
  intro b9
  refine WL.st (S' := St (fun _ => True) w [] [Fact.sl (some ⟨b9, 0, none⟩) (H0.map u32)]) (fun _ h => st_freeze (sp := []) (by rw [List.append_nil]; exact h)) ?_
  refine WL.r rfl rfl rfl (rd_assign rfl rfl) ?_
  refine WL.nil ?_
  refine WX.then_normal ?_
  refine WC.seq ?_
  refine WC.region ?_
  refine WL.r rfl rfl rfl (rd_move rfl rfl) ?_
  refine WL.g rfl rfl rfl (og_call rfl rfl (by kernel_rfl) (keep_val fun w _ => hpad w)) ?_
  intro _
  refine WL.r rfl rfl rfl (rd_assign rfl rfl) ?_
  refine WL.nil ?_
  refine WX.then_normal ?_
  refine WC.seq ?_
  refine WC.seq ?_
  refine WC.region ?_
  refine WL.r rfl rfl rfl (rd_assign rfl rfl) ?_
  refine WL.nil ?_
  refine WX.then_normal ?_
  refine WC.block ?_
  refine WC.loop (σ := G3r) (fun p => [(3, .slice (some ⟨p.b, 0, none⟩) 8 p.cap), (4, .string (S m)), (5, .int .i64 ((64 * p.q : Nat) : Int))]) (fun p w' => ((p.q ≤ nb ∧ p.x.length = 8) ∧ chunks nb H0 m = chunks (nb - p.q) p.x (m.drop (64 * p.q))) ∧ St (fun _ => True) w [] [Fact.sl (some ⟨p.b, 0, none⟩) (p.x.map u32)] w') (fun p => nb - p.q) ⟨0, b9, 8, H0⟩ (by repeat (first | exact sub_nil _ | refine sub_cons rfl ?_)) (fun w' h => ⟨⟨⟨by simp, rfl⟩, by simp⟩, h⟩) ?_
  rintro ⟨q, bv, capv, x⟩; dsimp only; refine WC.pu ?_; rintro ⟨⟨hq, hx⟩, hch⟩
  refine WC.seq ?_
  refine WC.seq ?_
  refine WC.region ?_
  refine WL.r rfl rfl rfl (rd_move rfl rfl) ?_
  refine WL.r rfl rfl rfl (rd_move rfl rfl) ?_
  refine WL.r rfl rfl rfl (rd_slen rfl rfl Tryd.underlying9) ?_
  refine WL.r rfl rfl rfl (rd_lss rfl rfl rfl) ?_
  refine WL.nil ?_
  refine WX.then_normal ?_
  refine WC.cond rfl (fun hc15 => ?_) (fun hc15 => ?_)
  · (try simp only [decide_eq_true_eq, decide_eq_false_iff_not, Bool.not_eq_true', Bool.not_eq_false', Bool.not_not, Int.not_lt, Int.not_le] at hc15)
    have hqn : q < nb := by omega
    refine WC.skip ?_
    refine WX.then_normal ?_
    refine WC.seq ?_
    refine WC.block ?_
    refine WC.region ?_
    refine WL.r rfl rfl rfl (rd_move rfl rfl) ?_
    refine WL.r rfl rfl rfl (rd_move rfl rfl) ?_
    refine WL.r rfl rfl rfl (rd_move rfl rfl) ?_
    refine WL.r rfl rfl rfl (rd_move rfl rfl) ?_
    first
      | (refine WL.r rfl rfl rfl (rd_add64nl rfl rfl rfl ?_) ?_; focus (omega))
      | (refine WL.r rfl rfl rfl (rd_add64 rfl rfl rfl ?_) ?_; focus (omega))
    refine WL.r rfl rfl rfl (rd_ss rfl rfl rfl rfl Tryd.underlying9 ?_) ?_
    · (try simp only [List.length_append, List.length_cons, List.length_nil]); omega
    refine WL.set 23 rfl (v' := .string (S ((m.drop (64 * q)).take 64))) (by rw [Int.toNat_natCast, Int.toNat_natCast, show 64 * q + 64 - 64 * q = 64 by omega]) ?_
    refine WL.g rfl rfl rfl (og_call rfl rfl (by kernel_rfl) (keep_fact (F := fun g : GC => [Fact.sl (some ⟨g.b, 0, none⟩) ((compress x ((m.drop (64 * q)).take 64)).map u32)]) fun w hS => rcompress_ok x hx ((m.drop (64 * q)).take 64) (by simp; omega) _ _ _ w hS.fresh (hS.holds_any (k := 0) rfl))) ?_
    intro gc
    refine WL.r rfl rfl rfl (rd_assign rfl rfl) ?_
    refine WL.nil ?_
    refine WX.block_normal ?_
    refine WX.then_normal ?_
    refine WC.region ?_
    refine WL.r rfl rfl rfl (rd_move rfl rfl) ?_
    first
      | (refine WL.r rfl rfl rfl (rd_add64nl rfl rfl rfl ?_) ?_; focus (omega))
      | (refine WL.r rfl rfl rfl (rd_add64 rfl rfl rfl ?_) ?_; focus (omega))
    refine WL.r rfl rfl rfl (rd_assign rfl rfl) ?_
    refine WL.nil ?_
    exact WX.loop ⟨q + 1, gc.b, gc.cap, compress x ((m.drop (64 * q)).take 64)⟩ (by show nb - (q + 1) < nb - q; omega) (by repeat (first | exact sub_nil _ | refine sub_cons rfl ?_)) (fun w' h => ⟨⟨⟨by show q + 1 ≤ nb; omega, compress_len _ _ hx⟩, by rw [hch, show nb - q = (nb - (q + 1)) + 1 by omega, chunks_succ, List.drop_drop]; congr 1⟩, h.sub (List.Sublist.refl _) (by simp)⟩)
  · (try simp only [decide_eq_true_eq, decide_eq_false_iff_not, Bool.not_eq_true', Bool.not_eq_false', Bool.not_not, Int.not_lt, Int.not_le] at hc15)
    refine WC.exit ?_
    refine WX.then_exit ?_
    refine WX.then_exit ?_
    refine WX.block_exit ?_
    obtain rfl : q = nb := by omega
    have hfin : sha l = outW x := by rw [sha, hm, hnb, Nat.mul_div_cancel_left _ (by omega), hch, Nat.sub_self]; rfl
    refine WX.then_normal ?_
    refine WC.seq ?_
    refine WC.region ?_
    refine WL.r rfl rfl rfl (rd_assign rfl rfl) ?_
    refine WL.nil ?_
    refine WX.then_normal ?_
    refine WC.seq ?_
    refine WC.seq ?_
    refine WC.region ?_
    refine WL.r rfl rfl rfl (rd_assign rfl rfl) ?_
    refine WL.nil ?_
    refine WX.then_normal ?_
    refine WC.block ?_
    refine WC.loop (σ := G4) (fun p => [(3, .slice (some ⟨bv, 0, none⟩) 8 capv), (7, .int .i64 (p.k : Int)), (6, .slice (p.ob.map fun b => ⟨b, 0, none⟩) (4 * p.k) p.cap)]) (fun p w' => (p.k ≤ 8 ∧ (p.k = 0 ∨ ∃ b, p.ob = some b) ∧ p.cap = 4 * p.k + p.spare.length) ∧ St (fun _ => True) w [⟨p.ob, (outW (x.take p.k)).map B ++ p.spare, 5⟩] [Fact.sl (some ⟨bv, 0, none⟩) (x.map u32)] w') (fun p => 8 - p.k) ⟨0, none, 0, []⟩ (by repeat (first | exact sub_nil _ | refine sub_cons rfl ?_)) (fun w' h => ⟨⟨by simp, .inl rfl, rfl⟩, h.nil _⟩) ?_
    rintro ⟨k, ob, cap4, sp4⟩; dsimp only; refine WC.pu ?_; rintro ⟨hk, hob, hcap4⟩
    refine WC.seq ?_
    refine WC.seq ?_
    refine WC.region ?_
    refine WL.r rfl rfl rfl (rd_move rfl rfl) ?_
    refine WL.r rfl rfl rfl (rd_lss rfl rfl rfl) ?_
    refine WL.nil ?_
    refine WX.then_normal ?_
    refine WC.cond rfl (fun hc26 => ?_) (fun hc26 => ?_)
    · (try simp only [decide_eq_true_eq, decide_eq_false_iff_not, Bool.not_eq_true', Bool.not_eq_false', Bool.not_not, Int.not_lt, Int.not_le] at hc26)
      refine WC.skip ?_
      refine WX.then_normal ?_
      refine WC.seq ?_
      refine WC.block ?_
      refine WC.seq ?_
      refine WC.region ?_
      refine WL.r rfl rfl rfl (rd_move rfl rfl) ?_
      refine WL.r rfl rfl rfl (rd_move rfl rfl) ?_
      refine WL.r rfl rfl rfl (rd_ia rfl rfl rfl Tryd.underlying103 (by kernel_rfl : _ = some 1) ?_ (by (try simp only [Int.toNat_natCast, Nat.mul_one, Nat.zero_add, Nat.add_zero, Nat.zero_mul, Int.reduceToNat, Nat.reduceAdd, Nat.reduceMul, Nat.reduceSub, Nat.sub_zero]); rfl)) ?_
      · omega
      refine WL.r rfl rfl rfl (ldf rfl rfl (by first | exact .here | exact .t1 | exact .t2 | exact .t3 | exact .t4 | exact .t5 | exact .t6 | exact .t7) Tryd.underlying102 rfl (m := k) (by omega) (by rw [List.getElem?_map, get_getD x _ 0 (by omega)]; rfl)) ?_
      refine WL.r rfl rfl rfl (rd_assign rfl rfl) ?_
      refine WL.nil ?_
      refine WX.then_normal ?_
      refine WC.region ?_
      refine WL.r rfl rfl rfl (rd_move rfl rfl) ?_
      refine WL.r rfl rfl rfl (rd_move rfl rfl) ?_
      refine WL.r rfl rfl rfl (rdW_shr rfl rfl rfl (by decide)) ?_
      refine WL.r rfl rfl rfl (rd_conv rfl rfl Tryd.underlying102 Tryd.underlying5) ?_
      refine WL.set 36 rfl (v' := B (byteAt (x.getD k 0).toNat 3)) (congrArg (Value.int .u8) (byte_W (x.getD k 0) 3)) ?_
      refine WL.r rfl rfl rfl (rd_move rfl rfl) ?_
      refine WL.r rfl rfl rfl (rdW_shr rfl rfl rfl (by decide)) ?_
      refine WL.r rfl rfl rfl (rd_conv rfl rfl Tryd.underlying102 Tryd.underlying5) ?_
      refine WL.set 39 rfl (v' := B (byteAt (x.getD k 0).toNat 2)) (congrArg (Value.int .u8) (byte_W (x.getD k 0) 2)) ?_
      refine WL.r rfl rfl rfl (rd_move rfl rfl) ?_
      refine WL.r rfl rfl rfl (rdW_shr rfl rfl rfl (by decide)) ?_
      refine WL.r rfl rfl rfl (rd_conv rfl rfl Tryd.underlying102 Tryd.underlying5) ?_
      refine WL.set 42 rfl (v' := B (byteAt (x.getD k 0).toNat 1)) (congrArg (Value.int .u8) (byte_W (x.getD k 0) 1)) ?_
      refine WL.r rfl rfl rfl (rd_move rfl rfl) ?_
      refine WL.r rfl rfl rfl (rd_conv rfl rfl Tryd.underlying102 Tryd.underlying5) ?_
      refine WL.set 44 rfl (v' := B (byteAt (x.getD k 0).toNat 0)) (congrArg (Value.int .u8) (byte_W0 (x.getD k 0))) ?_
      refine WL.g rfl rfl rfl (og_bs1 rfl rfl Tryd.underlying73 (by kernel_rfl : _ = some (some (.int .u8 0), 1, 1)) rfl (by simp only [List.map]; rfl) rfl rfl ?_ (by decide)) ?_
      · simp [B, Value.cells]
      intro b45
      refine WL.g rfl rfl rfl (app rfl Tryd.underlying73 (by kernel_rfl : _ = some (some (.int .u8 0), 1, 1)) rfl (by first | exact .here | exact .t1 | exact .t2 | exact .t3 | exact .t4 | exact .t5 | exact .t6 | exact .t7) (by rfl) (by rfl) (by first | exact .here | exact .t1 | exact .t2 | exact .t3 | exact .t4 | exact .t5 | exact .t6 | exact .t7) (by rfl) ?_ ?_) ?_
      · (refine ⟨?_, ?_, ?_, ?_, ?_⟩ <;> (try simp [outW_len]) <;> omega)
      · simp [B, Value.oneCell']
      intro g46
      refine WL.pu ?_
      intro hg46
      refine WL.r rfl rfl rfl (rd_assign rfl rfl) ?_
      refine WL.nil ?_
      refine WX.block_normal ?_
      refine WX.then_normal ?_
      refine WC.region ?_
      refine WL.r rfl rfl rfl (rd_move rfl rfl) ?_
      first
        | (refine WL.r rfl rfl rfl (rd_add64nl rfl rfl rfl ?_) ?_; focus (omega))
        | (refine WL.r rfl rfl rfl (rd_add64 rfl rfl rfl ?_) ?_; focus (omega))
      refine WL.r rfl rfl rfl (rd_assign rfl rfl) ?_
      refine WL.nil ?_
      exact WX.loop ⟨k + 1, some g46.b, g46.cap, g46.spare⟩ (by show 8 - (k + 1) < 8 - k; omega) (by repeat (first | exact sub_nil _ | refine sub_cons rfl ?_)) (fun w' h => ⟨⟨by show k + 1 ≤ 8; omega, .inr ⟨_, rfl⟩, by have := hg46.2; show g46.cap = _; omega⟩, by rw [outW_take x k (by omega), List.map_append]; exact h.sub (List.sublist_cons_self _ _) (fun _ h => h)⟩)
    · (try simp only [decide_eq_true_eq, decide_eq_false_iff_not, Bool.not_eq_true', Bool.not_eq_false', Bool.not_not, Int.not_lt, Int.not_le] at hc26)
      refine WC.exit ?_
      refine WX.then_exit ?_
      refine WX.then_exit ?_
      refine WX.block_exit ?_
      obtain rfl : k = 8 := by omega
      obtain ⟨b9', rfl⟩ : ∃ b, ob = some b := by rcases hob with h | h; omega; exact h
      rw [List.take_of_length_le (by omega)]
      refine WX.then_normal ?_
      refine WC.seq ?_
      refine WC.region ?_
      refine WL.r rfl rfl rfl (rd_move rfl rfl) ?_
      refine WL.r rfl rfl rfl (b2s (l := outW x) rfl rfl (by first | exact .here | exact .t1 | exact .t2 | exact .t3 | exact .t4 | exact .t5 | exact .t6 | exact .t7) Tryd.underlying73 Tryd.underlying5 Tryd.underlying9 ?_ ?_) ?_
      · simp [outW_len, hx]
      · simp [outW_len, hx]
      refine WL.r rfl rfl rfl (rd_assign rfl rfl) ?_
      refine WL.nil ?_
      refine WX.then_normal ?_
      refine WC.ret ?_
      refine WX.ret1 rfl rfl fun w' hS => ⟨by rw [hfin], hS.below⟩
end Go.Proofs.YtikcjkifhliidaaDoor
