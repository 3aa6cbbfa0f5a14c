/-
  The walk of the program's Between; few and same.
-/
import Derived.Test.YtenjafedpcpoaaaMer3
namespace Go.Proofs.Ytenjafedpcpoaaa
set_option linter.unusedSimpArgs false
set_option linter.unusedVariables false
open Go.RowKit

/-- what the closure of Between owns -/
def VB (bp bv : Nat) (acc : List Bs) (g : GS) : List Ent :=
  [⟨some bp, [.slice (g.ob.map fun b => ⟨b, 0, none⟩) acc.length g.cap], 22⟩, ⟨g.ob, strs acc ++ g.sp, 9⟩, ⟨some bv, [.func (.func 33) #[] #[.pointer (some ⟨bp, 0, none⟩), .pointer (some ⟨bv, 0, none⟩)]], 47⟩]

def BetOk (l : List Bs) (i : Nat) (wh : Bool) : Prop :=
  l.length ≤ 1000000 → (∀ s ∈ l, s.length ≤ 900000) → 0 < i → i ≤ l.length → ∀ (a : Option Addr) (m cap : Nat), m = l.length → m ≤ cap → ∀ (ok : Nat → Prop) (w0 : World) (bp bv : Nat) (acc : List Bs) (g : GS) (fs : List Fact) (w : World),
    acc.length ≤ 1000000 → g.cap = acc.length + g.sp.length → St ok w0 (VB bp bv acc g) (Fact.sl a (strs l) :: fs) w →
    Calls Try.prog 33 #[.slice a m cap, .int .i64 (i : Int), .bool wh, .pointer (some ⟨bp, 0, none⟩), .pointer (some ⟨bv, 0, none⟩)] w fun e w' =>
      ∃ g' : GS, e = .returned (.tuple #[]) ∧ g'.cap = (acc ++ betw l i wh).length + g'.sp.length ∧ St ok w0 (VB bp bv (acc ++ betw l i wh) g') (Fact.sl a (strs l) :: fs) w'

theorem bet_use {l : List Bs} {i : Nat} {wh : Bool} (h : BetOk l i wh) (hl : l.length ≤ 1000000) (hs : ∀ s ∈ l, s.length ≤ 900000) (h0 : 0 < i) (hi : i ≤ l.length) {a : Option Addr} {m cap : Nat} (hm : m = l.length) (hcap : m ≤ cap) {ok : Nat → Prop} {w0 : World} (bp bv : Nat) (acc : List Bs) (g : GS) {fs : List Fact}
    (hacc : acc.length ≤ 1000000) (hg : g.cap = acc.length + g.sp.length) (hsub : ∀ w, St ok w0 (VB bp bv acc g) fs w → (Fact.sl a (strs l)).holds (fun b => ok b ∧ b ∉ ids (VB bp bv acc g)) w) :
    ∀ w, St ok w0 (VB bp bv acc g) fs w → Calls Try.prog 33 #[.slice a m cap, .int .i64 (i : Int), .bool wh, .pointer (some ⟨bp, 0, none⟩), .pointer (some ⟨bv, 0, none⟩)] w fun e w' =>
      ∃ g' : GS, e = .returned (.tuple #[]) ∧ g'.cap = (acc ++ betw l i wh).length + g'.sp.length ∧ St ok w0 (VB bp bv (acc ++ betw l i wh) g') fs w' :=
  fun w hS => (h hl hs h0 hi a m cap hm hcap ok w0 bp bv acc g fs w hacc hg (hS.addF (hsub w hS))).mono fun _ _ ⟨g', h1, h2, h3⟩ => ⟨g', h1, h2, h3.dropF⟩

theorem bet_step (l : List Bs) (i : Nat) (wh : Bool) (ih : ∀ (l' : List Bs) i' wh', l'.length < l.length → BetOk l' i' wh') : BetOk l i wh := by
  rintro hl hs hi0 hi a m cap hm hcap ok w0 bp bv acc ⟨ob, cp, sp⟩ fs w hacc hg hS0
  subst hm
  obtain ⟨b, off, rfl⟩ := sl_addr (hS0.fact (Fact.sl a (strs l)) (by simp)) (by rw [strs_len]; omega)
  dsimp only [VB] at hg hS0
  have hp := betw_eq l i wh hl hi0 hi
  refine enter (S := St ok w0 _ (Fact.sl (some ⟨b, off, none⟩) (strs l) :: fs)) (L := [(0, .slice (some ⟨b, off, none⟩) l.length cap), (1, .int .i64 (i : Int)), (2, .bool wh), (3, .pointer (some ⟨bp, 0, none⟩)), (4, .pointer (some ⟨bv, 0, none⟩))]) Try.func33 rfl Try.ntmps33 rfl (args_cons rfl (args_cons rfl (args_cons rfl (args_cons rfl (args_cons rfl (args_nil _)))))) hS0 ?_
  refine WC.seq ?_
  refine WC.seq ?_
  refine WC.region ?_
  refine WL.r rfl rfl rfl (rd_move rfl rfl) ?_
  refine WL.r rfl rfl rfl (rd_move rfl rfl) ?_
  refine WL.r rfl rfl rfl (rd_len rfl rfl Try.underlying22) ?_
  refine WL.r rfl rfl rfl (rd_eql rfl rfl rfl) ?_
  refine WL.nil ?_
  refine WX.then_normal ?_
  refine WC.cond rfl (fun hc12 => ?_) (fun hc12 => ?_)
  · (try simp only [decide_eq_true_eq, decide_eq_false_iff_not, Bool.not_eq_true', Bool.not_eq_false', Bool.not_not, Int.not_lt, Int.not_le] at hc12)
    rw [if_pos (by omega)] at hp
    refine WC.seq ?_
    refine WC.seq ?_
    refine WC.region ?_
    refine WL.r rfl rfl rfl (rd_move rfl rfl) ?_
    refine WL.r rfl rfl rfl (rd_not rfl rfl) ?_
    refine WL.nil ?_
    refine WX.then_normal ?_
    refine WC.cond rfl (fun hc14 => ?_) (fun hc14 => ?_)
    · (try simp only [decide_eq_true_eq, decide_eq_false_iff_not, Bool.not_eq_true', Bool.not_eq_false', Bool.not_not, Int.not_lt, Int.not_le] at hc14)
      rw [if_neg (by simp [hc14])] at hp
      refine WC.mix [0, 0, 1, 1, 2, 2] (by kernel_rfl) (by kernel_rfl) (fun w h => h.draw) ?_
      refine WM.r rfl rfl rfl (ld rfl rfl (by first | exact .here | exact .t1 | exact .t2 | exact .t3 | exact .t4 | exact .t5 | exact .t6 | exact .t7) Try.underlying22 rfl (by rfl)) ?_
      refine WM.r rfl rfl rfl (rd_move rfl rfl) ?_
      refine WM.g rfl rfl rfl (og_call rfl rfl (by kernel_rfl) (keep_val fun w hS => root_ok l hl hs _ _ _ rfl hcap _ w (hS.fact _ (by simp)))) (fun _ _ h => by first | exact h | exact ⟨_, h⟩ | exact ⟨_, h.2⟩ | exact h.2 | exact h.sub (by repeat (first | exact List.Sublist.refl _ | apply List.Sublist.cons)) (fun _ h => by simp [*]) | exact h.2.sub (by repeat (first | exact List.Sublist.refl _ | apply List.Sublist.cons)) (fun _ h => by simp [*])) ?_
      intro _
      refine WM.g rfl rfl rfl (og_bs1 rfl rfl Try.underlying22 (by kernel_rfl : _ = some (some (.string (S [])), 1, 16)) rfl (by simp only [List.map]; rfl) rfl rfl ?_ (by decide)) (fun _ _ h => by first | exact h | exact ⟨_, h⟩ | exact ⟨_, h.2⟩ | exact h.2 | exact h.sub (by repeat (first | exact List.Sublist.refl _ | apply List.Sublist.cons)) (fun _ h => by simp [*]) | exact h.2.sub (by repeat (first | exact List.Sublist.refl _ | apply List.Sublist.cons)) (fun _ h => by simp [*])) ?_
      · simp [Value.cells]
      intro b18
      refine WM.h rfl rfl rfl (app rfl Try.underlying22 (by kernel_rfl : _ = some (some (.string (S [])), 1, 16)) rfl (by first | exact .here | exact .t1 | exact .t2 | exact .t3 | exact .t4 | exact .t5 | exact .t6 | exact .t7) (by rfl) (by rfl) (by first | exact .here | exact .t1 | exact .t2 | exact .t3 | exact .t4 | exact .t5 | exact .t6 | exact .t7) (by rfl) ?_ ?_) ?_
      · refine ⟨?_, ?_, ?_, ?_, ?_⟩ <;> (try simp [strs_len]) <;> omega
      · simp [Value.oneCell']
      intro g19
      refine WM.pu ?_
      intro hg19
      refine WM.h0 rfl rfl (st rfl rfl rfl (by first | exact .here | exact .t1 | exact .t2 | exact .t3 | exact .t4 | exact .t5 | exact .t6 | exact .t7) (by kernel_rfl) rfl ?_ rfl) ?_
      · first | decide | (simp; done) | (simp; omega)
      intro _
      refine WM.nil ?_
      refine WX.then_normal ?_
      refine WC.ret ?_
      refine WX.then_ret ?_
      exact WX.ret0 rfl fun w' hS => ⟨⟨some g19.b, g19.cap, g19.spare⟩, rfl, by rw [hp, List.length_append]; exact hg19.2, by dsimp only [VB]; rw [hp, ← strs_snoc, List.length_append]; exact hS.sub (List.Sublist.cons _ (List.Sublist.refl _)) (fun _ h => h)⟩
    · (try simp only [decide_eq_true_eq, decide_eq_false_iff_not, Bool.not_eq_true', Bool.not_eq_false', Bool.not_not, Int.not_lt, Int.not_le] at hc14)
      rw [if_pos (by simpa using hc14)] at hp
      refine WC.skip ?_
      refine WX.then_normal ?_
      refine WC.ret ?_
      refine WX.then_ret ?_
      exact WX.ret0 rfl fun w' hS => ⟨⟨ob, cp, sp⟩, rfl, by rw [hp, List.append_nil]; exact hg, by rw [hp, List.append_nil]; exact hS⟩
  · (try simp only [decide_eq_true_eq, decide_eq_false_iff_not, Bool.not_eq_true', Bool.not_eq_false', Bool.not_not, Int.not_lt, Int.not_le] at hc12)
    rw [if_neg (by omega)] at hp
    have hh := half_spec l.length (by omega) (by omega)
    refine WC.skip ?_
    refine WX.then_normal ?_
    refine WC.seq ?_
    refine WC.region ?_
    refine WL.r rfl rfl rfl (rd_move rfl rfl) ?_
    refine WL.r rfl rfl rfl (rd_len rfl rfl Try.underlying22) ?_
    refine WL.g rfl rfl rfl (og_call rfl rfl (by kernel_rfl) (keep_val fun w _ => half_ok l.length (by omega) (by omega) w)) ?_
    intro _
    refine WL.r rfl rfl rfl (rd_assign rfl rfl) ?_
    refine WL.nil ?_
    refine WX.then_normal ?_
    refine WC.seq ?_
    refine WC.seq ?_
    refine WC.region ?_
    refine WL.r rfl rfl rfl (rd_move rfl rfl) ?_
    refine WL.r rfl rfl rfl (rd_move rfl rfl) ?_
    refine WL.r rfl rfl rfl (rd_leq rfl rfl rfl) ?_
    refine WL.nil ?_
    refine WX.then_normal ?_
    refine WC.cond rfl (fun hc25 => ?_) (fun hc25 => ?_)
    · (try simp only [decide_eq_true_eq, decide_eq_false_iff_not, Bool.not_eq_true', Bool.not_eq_false', Bool.not_not, Int.not_lt, Int.not_le] at hc25)
      rw [if_pos (by omega)] at hp
      have hpl := betw_len (l.take (half l.length)) i wh (by simp; omega) hi0 (by simp; omega)
      rw [List.length_take] at hpl
      refine WC.seq ?_
      refine WC.mix [0, 0, 0, 0, 0, 0, 2] (by kernel_rfl) (by kernel_rfl) (fun w h => h.draw) ?_
      refine WM.r rfl rfl rfl (ld rfl rfl (by first | exact .here | exact .t1 | exact .t2 | exact .t3 | exact .t4 | exact .t5 | exact .t6 | exact .t7) Try.underlying47 rfl (by rfl)) ?_
      refine WM.r rfl rfl rfl (rd_move rfl rfl) ?_
      refine WM.r rfl rfl rfl (rd_move rfl rfl) ?_
      refine WM.r rfl rfl rfl (rd_slt rfl rfl rfl Try.underlying22 (by kernel_rfl : _ = some 1) ?_ (by (try simp only [Int.toNat_natCast, Nat.mul_one, Nat.zero_add, Nat.add_zero, Nat.zero_mul, Int.reduceToNat, Nat.reduceAdd, Nat.reduceMul, Nat.reduceSub, Nat.sub_zero]); rfl)) ?_
      · omega
      refine WM.r rfl rfl rfl (rd_move rfl rfl) ?_
      refine WM.r rfl rfl rfl (rd_move rfl rfl) ?_
      refine WM.h rfl rfl rfl (og_callv rfl rfl rfl (by kernel_rfl) rfl (bet_use (ih (l.take (half l.length)) i wh (by simp; omega)) (by simp; omega) (fun s h => hs s (List.mem_of_mem_take h)) hi0 (by simp; omega) (by simp; omega) (by omega) bp bv acc ⟨ob, cp, sp⟩ hacc hg (fun w hS => strs_take l _ ▸ sl_take _ (hS.fact _ (by simp))))) ?_
      rintro ⟨ob', cp', sp'⟩; dsimp only [VB]; refine WM.pu ?_; intro hg'
      refine WM.nil ?_
      refine WX.then_normal ?_
      refine WC.seq ?_
      refine WC.mix [0, 0, 0, 0, 1, 1, 2, 2] (by kernel_rfl) (by kernel_rfl) (fun w h => h.draw) ?_
      refine WM.r rfl rfl rfl (ld rfl rfl (by first | exact .here | exact .t1 | exact .t2 | exact .t3 | exact .t4 | exact .t5 | exact .t6 | exact .t7) Try.underlying22 rfl (by rfl)) ?_
      refine WM.r rfl rfl rfl (rd_move rfl rfl) ?_
      refine WM.r rfl rfl rfl (rd_move rfl rfl) ?_
      refine WM.r rfl rfl rfl (rd_slfn rfl rfl rfl Try.underlying22 (by kernel_rfl : _ = some 1) ?_ (by (try simp only [Int.toNat_natCast, Nat.mul_one, Nat.zero_add, Nat.add_zero, Nat.zero_mul, Int.reduceToNat, Nat.reduceAdd, Nat.reduceMul, Nat.reduceSub, Nat.sub_zero]); rfl) (by (try simp only [Int.toNat_natCast, Nat.mul_one, Nat.zero_add, Nat.add_zero, Nat.zero_mul, Int.reduceToNat, Nat.reduceAdd, Nat.reduceMul, Nat.reduceSub, Nat.sub_zero]); rfl) (by (try simp only [Int.toNat_natCast, Nat.mul_one, Nat.zero_add, Nat.add_zero, Nat.zero_mul, Int.reduceToNat, Nat.reduceAdd, Nat.reduceMul, Nat.reduceSub, Nat.sub_zero]); rfl)) ?_
      · omega
      refine WM.g rfl rfl rfl (og_call rfl rfl (by kernel_rfl) (keep_val fun w hS => root_ok (l.drop (half l.length)) (by simp; omega) (fun s h => hs s (List.mem_of_mem_drop h)) _ _ _ (by simp) (by omega) _ w (strs_drop l _ ▸ sl_drop _ (hS.fact _ (by simp))))) (fun _ _ h => by first | exact h | exact ⟨_, h⟩ | exact ⟨_, h.2⟩ | exact h.2 | exact h.sub (by repeat (first | exact List.Sublist.refl _ | apply List.Sublist.cons)) (fun _ h => by simp [*]) | exact h.2.sub (by repeat (first | exact List.Sublist.refl _ | apply List.Sublist.cons)) (fun _ h => by simp [*])) ?_
      intro _
      refine WM.g rfl rfl rfl (og_bs1 rfl rfl Try.underlying22 (by kernel_rfl : _ = some (some (.string (S [])), 1, 16)) rfl (by simp only [List.map]; rfl) rfl rfl ?_ (by decide)) (fun _ _ h => by first | exact h | exact ⟨_, h⟩ | exact ⟨_, h.2⟩ | exact h.2 | exact h.sub (by repeat (first | exact List.Sublist.refl _ | apply List.Sublist.cons)) (fun _ h => by simp [*]) | exact h.2.sub (by repeat (first | exact List.Sublist.refl _ | apply List.Sublist.cons)) (fun _ h => by simp [*])) ?_
      · simp [Value.cells]
      intro b38
      refine WM.h rfl rfl rfl (app rfl Try.underlying22 (by kernel_rfl : _ = some (some (.string (S [])), 1, 16)) rfl (by first | exact .here | exact .t1 | exact .t2 | exact .t3 | exact .t4 | exact .t5 | exact .t6 | exact .t7) (by rfl) (by rfl) (by first | exact .here | exact .t1 | exact .t2 | exact .t3 | exact .t4 | exact .t5 | exact .t6 | exact .t7) (by rfl) ?_ ?_) ?_
      · refine ⟨?_, ?_, ?_, ?_, ?_⟩ <;> (try simp [strs_len]) <;> (try simp at hg') <;> omega
      · simp [Value.oneCell']
      intro g39
      refine WM.pu ?_
      intro hg39
      refine WM.h0 rfl rfl (st rfl rfl rfl (by first | exact .here | exact .t1 | exact .t2 | exact .t3 | exact .t4 | exact .t5 | exact .t6 | exact .t7) (by kernel_rfl) rfl ?_ rfl) ?_
      · first | decide | (simp; done) | (simp; omega)
      intro _
      refine WM.nil ?_
      refine WX.then_normal ?_
      refine WC.ret ?_
      refine WX.then_ret ?_
      exact WX.ret0 rfl fun w' hS => ⟨⟨some g39.b, g39.cap, g39.spare⟩, rfl, by rw [hp, ← List.append_assoc, List.length_append]; exact hg39.2, by dsimp only [VB]; rw [hp, ← List.append_assoc, ← strs_snoc, List.length_append]; exact hS.sub (List.Sublist.cons _ (List.Sublist.refl _)) (fun _ h => h)⟩
    · (try simp only [decide_eq_true_eq, decide_eq_false_iff_not, Bool.not_eq_true', Bool.not_eq_false', Bool.not_not, Int.not_lt, Int.not_le] at hc25)
      rw [if_neg (by omega)] at hp
      have hpl := betw_len (l.drop (half l.length)) (i - half l.length) false (by simp; omega) (by omega) (by simp; omega)
      rw [List.length_drop] at hpl
      refine WC.skip ?_
      refine WX.then_normal ?_
      refine WC.seq ?_
      refine WC.mix [0, 0, 0, 0, 0, 0, 0, 2] (by kernel_rfl) (by kernel_rfl) (fun w h => h.draw) ?_
      refine WM.r rfl rfl rfl (ld rfl rfl (by first | exact .here | exact .t1 | exact .t2 | exact .t3 | exact .t4 | exact .t5 | exact .t6 | exact .t7) Try.underlying47 rfl (by rfl)) ?_
      refine WM.r rfl rfl rfl (rd_move rfl rfl) ?_
      refine WM.r rfl rfl rfl (rd_move rfl rfl) ?_
      refine WM.r rfl rfl rfl (rd_slfn rfl rfl rfl Try.underlying22 (by kernel_rfl : _ = some 1) ?_ (by (try simp only [Int.toNat_natCast, Nat.mul_one, Nat.zero_add, Nat.add_zero, Nat.zero_mul, Int.reduceToNat, Nat.reduceAdd, Nat.reduceMul, Nat.reduceSub, Nat.sub_zero]); rfl) (by (try simp only [Int.toNat_natCast, Nat.mul_one, Nat.zero_add, Nat.add_zero, Nat.zero_mul, Int.reduceToNat, Nat.reduceAdd, Nat.reduceMul, Nat.reduceSub, Nat.sub_zero]); rfl) (by (try simp only [Int.toNat_natCast, Nat.mul_one, Nat.zero_add, Nat.add_zero, Nat.zero_mul, Int.reduceToNat, Nat.reduceAdd, Nat.reduceMul, Nat.reduceSub, Nat.sub_zero]); rfl)) ?_
      · omega
      refine WM.r rfl rfl rfl (rd_move rfl rfl) ?_
      refine WM.r rfl rfl rfl (rd_move rfl rfl) ?_
      first
        | (refine WM.r rfl rfl rfl (rd_sub64n rfl rfl rfl ?_) ?_; focus (omega))
        | (refine WM.r rfl rfl rfl (rd_sub64 rfl rfl rfl ?_) ?_; focus (omega))
      refine WM.h rfl rfl rfl (og_callv rfl rfl rfl (by kernel_rfl) rfl (bet_use (ih (l.drop (half l.length)) (i - half l.length) false (by simp; omega)) (by simp; omega) (fun s h => hs s (List.mem_of_mem_drop h)) (by omega) (by simp; omega) (by simp) (by omega) bp bv acc ⟨ob, cp, sp⟩ hacc hg (fun w hS => strs_drop l _ ▸ sl_drop _ (hS.fact _ (by simp))))) ?_
      rintro ⟨ob', cp', sp'⟩; dsimp only [VB]; refine WM.pu ?_; intro hg'
      refine WM.nil ?_
      refine WX.then_normal ?_
      refine WC.mix [0, 0, 0, 0, 1, 1, 2, 2] (by kernel_rfl) (by kernel_rfl) (fun w h => h.draw) ?_
      refine WM.r rfl rfl rfl (ld rfl rfl (by first | exact .here | exact .t1 | exact .t2 | exact .t3 | exact .t4 | exact .t5 | exact .t6 | exact .t7) Try.underlying22 rfl (by rfl)) ?_
      refine WM.r rfl rfl rfl (rd_move rfl rfl) ?_
      refine WM.r rfl rfl rfl (rd_move rfl rfl) ?_
      refine WM.r rfl rfl rfl (rd_slt rfl rfl rfl Try.underlying22 (by kernel_rfl : _ = some 1) ?_ (by (try simp only [Int.toNat_natCast, Nat.mul_one, Nat.zero_add, Nat.add_zero, Nat.zero_mul, Int.reduceToNat, Nat.reduceAdd, Nat.reduceMul, Nat.reduceSub, Nat.sub_zero]); rfl)) ?_
      · omega
      refine WM.g rfl rfl rfl (og_call rfl rfl (by kernel_rfl) (keep_val fun w hS => root_ok (l.take (half l.length)) (by simp; omega) (fun s h => hs s (List.mem_of_mem_take h)) _ _ _ (by simp; omega) (by omega) _ w (strs_take l _ ▸ sl_take _ (hS.fact _ (by simp))))) (fun _ _ h => by first | exact h | exact ⟨_, h⟩ | exact ⟨_, h.2⟩ | exact h.2 | exact h.sub (by repeat (first | exact List.Sublist.refl _ | apply List.Sublist.cons)) (fun _ h => by simp [*]) | exact h.2.sub (by repeat (first | exact List.Sublist.refl _ | apply List.Sublist.cons)) (fun _ h => by simp [*])) ?_
      intro _
      refine WM.g rfl rfl rfl (og_bs1 rfl rfl Try.underlying22 (by kernel_rfl : _ = some (some (.string (S [])), 1, 16)) rfl (by simp only [List.map]; rfl) rfl rfl ?_ (by decide)) (fun _ _ h => by first | exact h | exact ⟨_, h⟩ | exact ⟨_, h.2⟩ | exact h.2 | exact h.sub (by repeat (first | exact List.Sublist.refl _ | apply List.Sublist.cons)) (fun _ h => by simp [*]) | exact h.2.sub (by repeat (first | exact List.Sublist.refl _ | apply List.Sublist.cons)) (fun _ h => by simp [*])) ?_
      · simp [Value.cells]
      intro b53
      refine WM.h rfl rfl rfl (app rfl Try.underlying22 (by kernel_rfl : _ = some (some (.string (S [])), 1, 16)) rfl (by first | exact .here | exact .t1 | exact .t2 | exact .t3 | exact .t4 | exact .t5 | exact .t6 | exact .t7) (by rfl) (by rfl) (by first | exact .here | exact .t1 | exact .t2 | exact .t3 | exact .t4 | exact .t5 | exact .t6 | exact .t7) (by rfl) ?_ ?_) ?_
      · refine ⟨?_, ?_, ?_, ?_, ?_⟩ <;> (try simp [strs_len]) <;> (try simp at hg') <;> omega
      · simp [Value.oneCell']
      intro g54
      refine WM.pu ?_
      intro hg54
      refine WM.h0 rfl rfl (st rfl rfl rfl (by first | exact .here | exact .t1 | exact .t2 | exact .t3 | exact .t4 | exact .t5 | exact .t6 | exact .t7) (by kernel_rfl) rfl ?_ rfl) ?_
      · first | decide | (simp; done) | (simp; omega)
      intro _
      refine WM.nil ?_
      refine WX.ret_normal ?_
      exact WX.ret0 rfl fun w' hS => ⟨⟨some g54.b, g54.cap, g54.spare⟩, rfl, by rw [hp, ← List.append_assoc, List.length_append]; exact hg54.2, by dsimp only [VB]; rw [hp, ← List.append_assoc, ← strs_snoc, List.length_append]; exact hS.sub (List.Sublist.cons _ (List.Sublist.refl _)) (fun _ h => h)⟩
theorem bet_ok (l : List Bs) (i : Nat) (wh : Bool) : BetOk l i wh := by
  have key : ∀ n (l : List Bs) i wh, l.length = n → BetOk l i wh := by
    intro n
    induction n using Nat.strongRecOn with
    | _ n ih => intro l i wh hl; exact bet_step l i wh fun l' i' wh' h => ih l'.length (by omega) l' i' wh' rfl
  exact key _ l i wh rfl

theorem Between_ok (l : List Bs) (i : Int) (hl : l.length ≤ 1000000) (hs : ∀ s ∈ l, s.length ≤ 900000) (a : Option Addr) (m cap : Nat) (hm : m = l.length) (hcap : m ≤ cap) (ok : Nat → Prop) (w : World) (hF : (Fact.sl a (strs l)).holds ok w) :
    Calls Try.prog 16 #[.slice a m cap, .int .i64 i] w fun e w' => ∃ g : GS, e = .returned (.tuple #[g.val (betwR l i).1.length, .int .i64 (betwR l i).2]) ∧ g.cap = (betwR l i).1.length + g.sp.length ∧ St (fun _ => True) w [g.ent (betwR l i).1] [] w' := by
  subst hm
  refine enter (S := St (fun _ => True) w [] [Fact.sl a (strs l)]) (L := [(0, .slice a l.length cap), (1, .int .i64 i)]) Try.func16 rfl Try.ntmps16 rfl (args_cons rfl (args_cons rfl (args_nil _))) (St.start (fun _ _ => trivial) (by simpa using sl_any hF)) ?_
  refine WC.seq ?_
  refine WC.region ?_
  refine WL.r rfl rfl rfl (rd_assign rfl rfl) ?_
  refine WL.r rfl rfl rfl (rd_assign rfl rfl) ?_
  refine WL.nil ?_
  refine WX.then_normal ?_
  refine WC.seq ?_
  refine WC.seq ?_
  refine WC.region ?_
  refine WL.r rfl rfl rfl (rd_move rfl rfl) ?_
  refine WL.r rfl rfl rfl (rd_lss rfl rfl rfl) ?_
  refine WL.r rfl rfl rfl (rd_move rfl rfl) ?_
  refine WL.bool 10 rfl (fun hg10 => ?_) (fun hg10 => ?_)
  · (try simp only [decide_eq_true_eq, decide_eq_false_iff_not, Bool.not_eq_true', Bool.not_eq_false', Bool.not_not, Int.not_lt, Int.not_le] at hg10)
    refine WL.s rfl rfl rfl ?_
    refine WL.s rfl rfl rfl ?_
    refine WL.s rfl rfl rfl ?_
    refine WL.s rfl rfl rfl ?_
    refine WL.r rfl rfl rfl (rd_pickt rfl rfl rfl) ?_
    refine WL.nil ?_
    refine WX.then_normal ?_
    refine WC.cond rfl (fun _ => ?_) (fun h => by cases h)
    refine WC.seq ?_
    refine WC.region ?_
    refine WL.r rfl rfl rfl (rd_assign rfl rfl) ?_
    refine WL.r rfl rfl rfl (rd_assign rfl rfl) ?_
    refine WL.nil ?_
    refine WX.then_normal ?_
    refine WC.ret ?_
    refine WX.then_ret ?_
    have hp : betwR l i = ([], 2) := if_pos (by omega)
    exact WX.ret2 rfl rfl rfl fun w' hS => ⟨⟨none, 0, []⟩, by rw [hp]; rfl, by rw [hp]; rfl, by rw [hp]; exact (hS.nil _).sub (List.Sublist.refl _) (fun _ h => by simp at h)⟩
  · (try simp only [decide_eq_true_eq, decide_eq_false_iff_not, Bool.not_eq_true', Bool.not_eq_false', Bool.not_not, Int.not_lt, Int.not_le] at hg10)
    refine WL.r rfl rfl rfl (rd_move rfl rfl) ?_
    refine WL.r rfl rfl rfl (rd_move rfl rfl) ?_
    refine WL.r rfl rfl rfl (rd_len rfl rfl Try.underlying22) ?_
    refine WL.r rfl rfl rfl (rd_gtr rfl rfl rfl) ?_
    refine WL.r rfl rfl rfl (rd_pickf rfl rfl rfl) ?_
    refine WL.nil ?_
    refine WX.then_normal ?_
    refine WC.cond rfl (fun hc15 => ?_) (fun hc15 => ?_)
    · (try simp only [decide_eq_true_eq, decide_eq_false_iff_not, Bool.not_eq_true', Bool.not_eq_false', Bool.not_not, Int.not_lt, Int.not_le] at hc15)
      refine WC.seq ?_
      refine WC.region ?_
      refine WL.r rfl rfl rfl (rd_assign rfl rfl) ?_
      refine WL.r rfl rfl rfl (rd_assign rfl rfl) ?_
      refine WL.nil ?_
      refine WX.then_normal ?_
      refine WC.ret ?_
      refine WX.then_ret ?_
      have hp : betwR l i = ([], 2) := if_pos (by omega)
      exact WX.ret2 rfl rfl rfl fun w' hS => ⟨⟨none, 0, []⟩, by rw [hp]; rfl, by rw [hp]; rfl, by rw [hp]; exact (hS.nil _).sub (List.Sublist.refl _) (fun _ h => by simp at h)⟩
    · (try simp only [decide_eq_true_eq, decide_eq_false_iff_not, Bool.not_eq_true', Bool.not_eq_false', Bool.not_not, Int.not_lt, Int.not_le] at hc15)
      refine WC.skip ?_
      refine WX.then_normal ?_
      refine WC.seq ?_
      refine WC.seq ?_
      refine WC.region ?_
      refine WL.r rfl rfl rfl (rd_move rfl rfl) ?_
      refine WL.r rfl rfl rfl (rd_eql rfl rfl rfl) ?_
      refine WL.r rfl rfl rfl (rd_move rfl rfl) ?_
      refine WL.bool 18 rfl (fun hg18 => ?_) (fun hg18 => ?_)
      · (try simp only [decide_eq_true_eq, decide_eq_false_iff_not, Bool.not_eq_true', Bool.not_eq_false', Bool.not_not, Int.not_lt, Int.not_le] at hg18)
        refine WL.s rfl rfl rfl ?_
        refine WL.s rfl rfl rfl ?_
        refine WL.s rfl rfl rfl ?_
        refine WL.s rfl rfl rfl ?_
        refine WL.r rfl rfl rfl (rd_pickt rfl rfl rfl) ?_
        refine WL.nil ?_
        refine WX.then_normal ?_
        refine WC.cond rfl (fun _ => ?_) (fun h => by cases h)
        refine WC.seq ?_
        refine WC.region ?_
        refine WL.r rfl rfl rfl (rd_assign rfl rfl) ?_
        refine WL.r rfl rfl rfl (rd_assign rfl rfl) ?_
        refine WL.nil ?_
        refine WX.then_normal ?_
        refine WC.ret ?_
        refine WX.then_ret ?_
        have hp : betwR l i = ([], 0) := by rw [betwR, if_neg (by omega), if_pos (by omega)]
        exact WX.ret2 rfl rfl rfl fun w' hS => ⟨⟨none, 0, []⟩, by rw [hp]; rfl, by rw [hp]; rfl, by rw [hp]; exact (hS.nil _).sub (List.Sublist.refl _) (fun _ h => by simp at h)⟩
      · (try simp only [decide_eq_true_eq, decide_eq_false_iff_not, Bool.not_eq_true', Bool.not_eq_false', Bool.not_not, Int.not_lt, Int.not_le] at hg18)
        refine WL.r rfl rfl rfl (rd_move rfl rfl) ?_
        refine WL.r rfl rfl rfl (rd_move rfl rfl) ?_
        refine WL.r rfl rfl rfl (rd_len rfl rfl Try.underlying22) ?_
        refine WL.r rfl rfl rfl (rd_eql rfl rfl rfl) ?_
        refine WL.r rfl rfl rfl (rd_pickf rfl rfl rfl) ?_
        refine WL.nil ?_
        refine WX.then_normal ?_
        refine WC.cond rfl (fun hc23 => ?_) (fun hc23 => ?_)
        · (try simp only [decide_eq_true_eq, decide_eq_false_iff_not, Bool.not_eq_true', Bool.not_eq_false', Bool.not_not, Int.not_lt, Int.not_le] at hc23)
          refine WC.seq ?_
          refine WC.region ?_
          refine WL.r rfl rfl rfl (rd_assign rfl rfl) ?_
          refine WL.r rfl rfl rfl (rd_assign rfl rfl) ?_
          refine WL.nil ?_
          refine WX.then_normal ?_
          refine WC.ret ?_
          refine WX.then_ret ?_
          have hp : betwR l i = ([], 0) := by rw [betwR, if_neg (by omega), if_pos (by omega)]
          exact WX.ret2 rfl rfl rfl fun w' hS => ⟨⟨none, 0, []⟩, by rw [hp]; rfl, by rw [hp]; rfl, by rw [hp]; exact (hS.nil _).sub (List.Sublist.refl _) (fun _ h => by simp at h)⟩
        · (try simp only [decide_eq_true_eq, decide_eq_false_iff_not, Bool.not_eq_true', Bool.not_eq_false', Bool.not_not, Int.not_lt, Int.not_le] at hc23)
          obtain ⟨j, rfl⟩ : ∃ j : Nat, i = j := ⟨i.toNat, by omega⟩
          have hp : betwR l (j : Int) = (betw l j true, 0) := by rw [betwR, if_neg (by omega), if_neg (by omega), Int.toNat_natCast]
          refine WC.skip ?_
          refine WX.then_normal ?_
          refine WC.seq ?_
          refine WC.region ?_
          refine WL.g rfl rfl rfl (og_alloc rfl (v := (.slice none 0 0)) (cs := [.slice none 0 0]) (by kernel_rfl) rfl) ?_
          intro b6
          refine WL.nil ?_
          refine WX.then_normal ?_
          refine WC.seq ?_
          refine WC.region ?_
          refine WL.g rfl rfl rfl (og_alloc rfl (v := .nilFunc) (cs := [.nilFunc]) (by kernel_rfl) rfl) ?_
          intro b7
          refine WL.nil ?_
          refine WX.then_normal ?_
          refine WC.seq ?_
          refine WC.region ?_
          refine WL.r rfl rfl rfl (rd_mkf rfl rfl rfl) ?_
          refine WL.g0 rfl rfl (st rfl rfl rfl (by first | exact .here | exact .t1 | exact .t2 | exact .t3 | exact .t4 | exact .t5 | exact .t6 | exact .t7) (by kernel_rfl) rfl ?_ rfl) ?_
          · first | decide | (simp; done) | (simp; omega)
          intro _
          refine WL.nil ?_
          refine WX.then_normal ?_
          refine WC.seq ?_
          refine WC.region ?_
          refine WL.r rfl rfl rfl (ld rfl rfl (by first | exact .here | exact .t1 | exact .t2 | exact .t3 | exact .t4 | exact .t5 | exact .t6 | exact .t7) Try.underlying47 rfl (by rfl)) ?_
          refine WL.r rfl rfl rfl (rd_move rfl rfl) ?_
          refine WL.r rfl rfl rfl (rd_move rfl rfl) ?_
          refine WL.g rfl rfl rfl (og_callv rfl rfl rfl (by kernel_rfl) rfl (fun w hS => bet_ok l j true hl hs (by omega) (by omega) _ _ _ rfl hcap _ _ b6 b7 [] ⟨none, 0, []⟩ [] w (by simp) rfl (st_rot (hS.nil 9)))) ?_
          rintro ⟨ob', cp', sp'⟩; dsimp only [VB]; refine WL.pu ?_; intro hg'; rw [List.nil_append] at hg' ⊢
          refine WL.nil ?_
          refine WX.then_normal ?_
          refine WC.seq ?_
          refine WC.region ?_
          refine WL.r rfl rfl rfl (ld rfl rfl (by first | exact .here | exact .t1 | exact .t2 | exact .t3 | exact .t4 | exact .t5 | exact .t6 | exact .t7) Try.underlying22 rfl (by rfl)) ?_
          refine WL.r rfl rfl rfl (rd_assign rfl rfl) ?_
          refine WL.r rfl rfl rfl (rd_assign rfl rfl) ?_
          refine WL.nil ?_
          refine WX.then_normal ?_
          refine WC.ret ?_
          exact WX.ret2 rfl rfl rfl fun w' hS => ⟨⟨ob', cp', sp'⟩, by rw [hp]; rfl, by rw [hp]; exact hg', by rw [hp]; exact hS.sub (List.Sublist.cons _ (List.Sublist.cons_cons _ (List.Sublist.cons _ (List.Sublist.refl _)))) (fun _ h => by simp at h)⟩

def few (l : List Bs) : Prop := l.length ≤ 40 ∧ ∀ s ∈ l, s.length ≤ 80
instance (l : List Bs) : Decidable (few l) := inferInstanceAs (Decidable (_ ∧ _))

theorem few_ok (l : List Bs) (a : Option Addr) (cap : Nat) (ok : Nat → Prop) (w : World) (hF : (Fact.sl a (strs l)).holds ok w) :
    Calls Try.prog 10 #[.slice a l.length cap] w fun e w' => e = .returned (.bool (decide (few l))) ∧ Below w.heap.size w w' := by
  refine enter (S := St (fun _ => True) w [] [Fact.sl a (strs l)]) (L := [(0, .slice a l.length cap)]) Try.func10 rfl Try.ntmps10 rfl (args_cons rfl (args_nil _)) (St.start (fun _ _ => trivial) (by simpa using sl_any hF)) ?_
  refine WC.seq ?_
  refine WC.region ?_
  refine WL.r rfl rfl rfl (rd_assign rfl rfl) ?_
  refine WL.nil ?_
  refine WX.then_normal ?_
  refine WC.seq ?_
  refine WC.seq ?_
  refine WC.region ?_
  refine WL.r rfl rfl rfl (rd_assign rfl rfl) ?_
  refine WL.nil ?_
  refine WX.then_normal ?_
  refine WC.block ?_
  refine WC.loop (σ := Nat) (fun k => [(0, .slice a l.length cap), (3, .int .i64 (k : Int))]) (fun k w' => (k ≤ l.length ∧ k ≤ 40 ∧ ∀ j s, j < k → l[j]? = some s → s.length ≤ 80) ∧ St (fun _ => True) w [] [Fact.sl a (strs l)] w') (fun k => l.length - k) 0 (by repeat (first | exact sub_nil _ | refine sub_cons rfl ?_)) (fun w' h => ⟨⟨by omega, by omega, fun j s h => by omega⟩, h⟩) ?_
  intro k; refine WC.pu ?_; rintro ⟨hk, hk4, hall⟩
  refine WC.seq ?_
  refine WC.seq ?_
  refine WC.region ?_
  refine WL.r rfl rfl rfl (rd_move rfl rfl) ?_
  refine WL.r rfl rfl rfl (rd_move rfl rfl) ?_
  refine WL.r rfl rfl rfl (rd_len rfl rfl Try.underlying22) ?_
  refine WL.r rfl rfl rfl (rd_lss rfl rfl rfl) ?_
  refine WL.r rfl rfl rfl (rd_move rfl rfl) ?_
  refine WL.bool 8 rfl (fun hg8 => ?_) (fun hg8 => ?_)
  · (try simp only [decide_eq_true_eq, decide_eq_false_iff_not, Bool.not_eq_true', Bool.not_eq_false', Bool.not_not, Int.not_lt, Int.not_le] at hg8)
    refine WL.r rfl rfl rfl (rd_move rfl rfl) ?_
    refine WL.r rfl rfl rfl (rd_lss rfl rfl rfl) ?_
    refine WL.r rfl rfl rfl (rd_pickt rfl rfl rfl) ?_
    refine WL.nil ?_
    refine WX.then_normal ?_
    refine WC.cond rfl (fun hc11 => ?_) (fun hc11 => ?_)
    · (try simp only [decide_eq_true_eq, decide_eq_false_iff_not, Bool.not_eq_true', Bool.not_eq_false', Bool.not_not, Int.not_lt, Int.not_le] at hc11)
      obtain ⟨b, off, rfl⟩ := sl_addr hF (by rw [strs_len]; omega)
      obtain ⟨c, hc⟩ : ∃ c, l[k]? = some c := ⟨_, List.getElem?_eq_getElem (by omega)⟩
      refine WC.skip ?_
      refine WX.then_normal ?_
      refine WC.seq ?_
      refine WC.block ?_
      refine WC.seq ?_
      refine WC.region ?_
      refine WL.r rfl rfl rfl (rd_move rfl rfl) ?_
      refine WL.r rfl rfl rfl (rd_move rfl rfl) ?_
      refine WL.r rfl rfl rfl (rd_ia rfl rfl rfl Try.underlying22 (by kernel_rfl : _ = some 1) ?_ (by (try simp only [Int.toNat_natCast, Nat.mul_one, Nat.zero_add, Nat.add_zero, Nat.zero_mul, Int.reduceToNat, Nat.reduceAdd, Nat.reduceMul, Nat.reduceSub, Nat.sub_zero]); rfl)) ?_
      · omega
      refine WL.r rfl rfl rfl (ldf rfl rfl (by first | exact .here | exact .t1 | exact .t2 | exact .t3 | exact .t4 | exact .t5 | exact .t6 | exact .t7) Try.underlying9 rfl (m := k) rfl (strs_get l k c hc)) ?_
      refine WL.r rfl rfl rfl (rd_slen rfl rfl Try.underlying9) ?_
      refine WL.r rfl rfl rfl (rd_gtr rfl rfl rfl) ?_
      refine WL.nil ?_
      refine WX.then_normal ?_
      refine WC.cond rfl (fun hc19 => ?_) (fun hc19 => ?_)
      · (try simp only [decide_eq_true_eq, decide_eq_false_iff_not, Bool.not_eq_true', Bool.not_eq_false', Bool.not_not, Int.not_lt, Int.not_le] at hc19)
        refine WC.seq ?_
        refine WC.region ?_
        refine WL.r rfl rfl rfl (rd_assign rfl rfl) ?_
        refine WL.nil ?_
        refine WX.then_normal ?_
        refine WC.ret ?_
        refine WX.block_ret ?_
        refine WX.then_ret ?_
        refine WX.then_ret ?_
        refine WX.block_ret ?_
        refine WX.then_ret ?_
        exact WX.ret1 rfl rfl fun w' hS => ⟨by rw [decide_eq_false]; intro h; have := h.2 c (List.mem_of_getElem? hc); omega, hS.below⟩
      · (try simp only [decide_eq_true_eq, decide_eq_false_iff_not, Bool.not_eq_true', Bool.not_eq_false', Bool.not_not, Int.not_lt, Int.not_le] at hc19)
        refine WC.skip ?_
        refine WX.block_normal ?_
        refine WX.then_normal ?_
        refine WC.region ?_
        refine WL.r rfl rfl rfl (rd_move rfl rfl) ?_
        first
          | (refine WL.r rfl rfl rfl (rd_add64nl rfl rfl rfl ?_) ?_; focus (omega))
          | (refine WL.r rfl rfl rfl (rd_add64 rfl rfl rfl ?_) ?_; focus (omega))
        refine WL.r rfl rfl rfl (rd_assign rfl rfl) ?_
        refine WL.nil ?_
        exact WX.loop (k + 1) (by omega) (by repeat (first | exact sub_nil _ | refine sub_cons rfl ?_)) (fun w' h => ⟨⟨by omega, by omega, fun j s hj hs => by
          rcases Nat.lt_succ_iff_lt_or_eq.1 hj with hj | rfl
          · exact hall j s hj hs
          · rw [hc] at hs; cases hs; omega⟩, h⟩)
    · (try simp only [decide_eq_true_eq, decide_eq_false_iff_not, Bool.not_eq_true', Bool.not_eq_false', Bool.not_not, Int.not_lt, Int.not_le] at hc11)
      refine WC.exit ?_
      refine WX.then_exit ?_
      refine WX.then_exit ?_
      refine WX.block_exit ?_
      refine WX.then_normal ?_
      refine WC.seq ?_
      refine WC.region ?_
      refine WL.r rfl rfl rfl (rd_move rfl rfl) ?_
      refine WL.r rfl rfl rfl (rd_len rfl rfl Try.underlying22) ?_
      refine WL.r rfl rfl rfl (rd_leq rfl rfl rfl) ?_
      refine WL.r rfl rfl rfl (rd_assign rfl rfl) ?_
      refine WL.nil ?_
      refine WX.then_normal ?_
      refine WC.ret ?_
      exact WX.ret1 rfl rfl fun w' hS => ⟨congrArg (fun b => Ending.returned (.bool b)) (decide_eq_decide.2 ⟨fun h => ⟨by omega, fun s hs => by obtain ⟨j, hj⟩ := List.mem_iff_getElem?.1 hs; exact hall j s (by have := (List.getElem?_eq_some_iff.1 hj).1; omega) hj⟩, fun h => by have := h.1; omega⟩), hS.below⟩
  · (try simp only [decide_eq_true_eq, decide_eq_false_iff_not, Bool.not_eq_true', Bool.not_eq_false', Bool.not_not, Int.not_lt, Int.not_le] at hg8)
    refine WL.s rfl rfl rfl ?_
    refine WL.s rfl rfl rfl ?_
    refine WL.r rfl rfl rfl (rd_pickf rfl rfl rfl) ?_
    refine WL.nil ?_
    refine WX.then_normal ?_
    refine WC.cond rfl (fun h => by cases h) (fun _ => ?_)
    refine WC.exit ?_
    refine WX.then_exit ?_
    refine WX.then_exit ?_
    refine WX.block_exit ?_
    refine WX.then_normal ?_
    refine WC.seq ?_
    refine WC.region ?_
    refine WL.r rfl rfl rfl (rd_move rfl rfl) ?_
    refine WL.r rfl rfl rfl (rd_len rfl rfl Try.underlying22) ?_
    refine WL.r rfl rfl rfl (rd_leq rfl rfl rfl) ?_
    refine WL.r rfl rfl rfl (rd_assign rfl rfl) ?_
    refine WL.nil ?_
    refine WX.then_normal ?_
    refine WC.ret ?_
    exact WX.ret1 rfl rfl fun w' hS => ⟨congrArg (fun b => Ending.returned (.bool b)) (decide_eq_decide.2 ⟨fun h => ⟨by omega, fun s hs => by obtain ⟨j, hj⟩ := List.mem_iff_getElem?.1 hs; exact hall j s (by have := (List.getElem?_eq_some_iff.1 hj).1; omega) hj⟩, fun h => by have := h.1; omega⟩), hS.below⟩

theorem same_ok (x y : List Bs) (hx : x.length ≤ 4611686018427387904) (p q : Option Addr) (n m cap cap' : Nat) (hn : n = x.length) (hm : m = y.length) (ok ok' : Nat → Prop) (w : World) (hF : (Fact.sl p (strs x)).holds ok w) (hG : (Fact.sl q (strs y)).holds ok' w) :
    Calls Try.prog 18 #[.slice p n cap, .slice q m cap'] w fun e w' => e = .returned (.bool (decide (x = y))) ∧ Below w.heap.size w w' := by
  subst hn hm
  refine enter (S := St (fun _ => True) w [] [Fact.sl p (strs x), Fact.sl q (strs y)]) (L := [(0, .slice p x.length cap), (1, .slice q y.length cap')]) Try.func18 rfl Try.ntmps18 rfl (args_cons rfl (args_cons rfl (args_nil _))) (St.start (fun _ _ => trivial) (by simpa using ⟨sl_any hF, sl_any hG⟩)) ?_
  refine WC.seq ?_
  refine WC.region ?_
  refine WL.r rfl rfl rfl (rd_assign rfl rfl) ?_
  refine WL.nil ?_
  refine WX.then_normal ?_
  refine WC.seq ?_
  refine WC.seq ?_
  refine WC.region ?_
  refine WL.r rfl rfl rfl (rd_move rfl rfl) ?_
  refine WL.r rfl rfl rfl (rd_len rfl rfl Try.underlying22) ?_
  refine WL.r rfl rfl rfl (rd_move rfl rfl) ?_
  refine WL.r rfl rfl rfl (rd_len rfl rfl Try.underlying22) ?_
  refine WL.r rfl rfl rfl (rd_neq rfl rfl rfl) ?_
  refine WL.nil ?_
  refine WX.then_normal ?_
  refine WC.cond rfl (fun hc10 => ?_) (fun hc10 => ?_)
  · (try simp only [decide_eq_true_eq, decide_eq_false_iff_not, Bool.not_eq_true', Bool.not_eq_false', Bool.not_not, Int.not_lt, Int.not_le] at hc10)
    refine WC.seq ?_
    refine WC.region ?_
    refine WL.r rfl rfl rfl (rd_assign rfl rfl) ?_
    refine WL.nil ?_
    refine WX.then_normal ?_
    refine WC.ret ?_
    refine WX.then_ret ?_
    exact WX.ret1 rfl rfl fun w' hS => ⟨by rw [decide_eq_false]; intro h; subst h; exact absurd rfl hc10, hS.below⟩
  · (try simp only [decide_eq_true_eq, decide_eq_false_iff_not, Bool.not_eq_true', Bool.not_eq_false', Bool.not_not, Int.not_lt, Int.not_le] at hc10)
    have hxy : x.length = y.length := by omega
    refine WC.skip ?_
    refine WX.then_normal ?_
    refine WC.seq ?_
    refine WC.seq ?_
    refine WC.region ?_
    refine WL.r rfl rfl rfl (rd_assign rfl rfl) ?_
    refine WL.nil ?_
    refine WX.then_normal ?_
    refine WC.block ?_
    refine WC.loop (σ := Nat) (fun k => [(0, .slice p x.length cap), (1, .slice q y.length cap'), (5, .int .i64 (k : Int))]) (fun k w' => (k ≤ x.length ∧ ∀ j, j < k → x[j]? = y[j]?) ∧ St (fun _ => True) w [] [Fact.sl p (strs x), Fact.sl q (strs y)] w') (fun k => x.length - k) 0 (by repeat (first | exact sub_nil _ | refine sub_cons rfl ?_)) (fun w' h => ⟨⟨by omega, fun j h => by omega⟩, h⟩) ?_
    intro k; refine WC.pu ?_; rintro ⟨hk, hall⟩
    refine WC.seq ?_
    refine WC.seq ?_
    refine WC.region ?_
    refine WL.r rfl rfl rfl (rd_move rfl rfl) ?_
    refine WL.r rfl rfl rfl (rd_move rfl rfl) ?_
    refine WL.r rfl rfl rfl (rd_len rfl rfl Try.underlying22) ?_
    refine WL.r rfl rfl rfl (rd_lss rfl rfl rfl) ?_
    refine WL.nil ?_
    refine WX.then_normal ?_
    refine WC.cond rfl (fun hc14 => ?_) (fun hc14 => ?_)
    · (try simp only [decide_eq_true_eq, decide_eq_false_iff_not, Bool.not_eq_true', Bool.not_eq_false', Bool.not_not, Int.not_lt, Int.not_le] at hc14)
      obtain ⟨b, off, rfl⟩ := sl_addr hF (by rw [strs_len]; omega)
      obtain ⟨b', off', rfl⟩ := sl_addr hG (by rw [strs_len]; omega)
      obtain ⟨c, hc⟩ : ∃ c, x[k]? = some c := ⟨_, List.getElem?_eq_getElem (by omega)⟩
      obtain ⟨d, hd⟩ : ∃ d, y[k]? = some d := ⟨_, List.getElem?_eq_getElem (by omega)⟩
      refine WC.skip ?_
      refine WX.then_normal ?_
      refine WC.seq ?_
      refine WC.block ?_
      refine WC.seq ?_
      refine WC.mix [0, 0, 0, 0, 0, 0, 0, 0, 0] (by kernel_rfl) (by kernel_rfl) (fun w h => h.draw) ?_
      refine WM.r rfl rfl rfl (rd_move rfl rfl) ?_
      refine WM.r rfl rfl rfl (rd_move rfl rfl) ?_
      refine WM.r rfl rfl rfl (rd_ia rfl rfl rfl Try.underlying22 (by kernel_rfl : _ = some 1) ?_ (by (try simp only [Int.toNat_natCast, Nat.mul_one, Nat.zero_add, Nat.add_zero, Nat.zero_mul, Int.reduceToNat, Nat.reduceAdd, Nat.reduceMul, Nat.reduceSub, Nat.sub_zero]); rfl)) ?_
      · omega
      refine WM.r rfl rfl rfl (ldf rfl rfl (by exact .here) Try.underlying9 rfl (m := k) rfl (strs_get x k c hc)) ?_
      refine WM.r rfl rfl rfl (rd_move rfl rfl) ?_
      refine WM.r rfl rfl rfl (rd_move rfl rfl) ?_
      refine WM.r rfl rfl rfl (rd_ia rfl rfl rfl Try.underlying22 (by kernel_rfl : _ = some 1) ?_ (by (try simp only [Int.toNat_natCast, Nat.mul_one, Nat.zero_add, Nat.add_zero, Nat.zero_mul, Int.reduceToNat, Nat.reduceAdd, Nat.reduceMul, Nat.reduceSub, Nat.sub_zero]); rfl)) ?_
      · omega
      refine WM.r rfl rfl rfl (ldf rfl rfl (by exact .t1) Try.underlying9 rfl (m := k) rfl (strs_get y k d hd)) ?_
      refine WM.r rfl rfl rfl (rd_sne rfl rfl rfl) ?_
      refine WM.nil ?_
      refine WX.then_normal ?_
      refine WC.cond rfl (fun hc25 => ?_) (fun hc25 => ?_)
      · (try simp only [decide_eq_true_eq, decide_eq_false_iff_not, Bool.not_eq_true', Bool.not_eq_false', Bool.not_not, Int.not_lt, Int.not_le] at hc25)
        refine WC.seq ?_
        refine WC.region ?_
        refine WL.r rfl rfl rfl (rd_assign rfl rfl) ?_
        refine WL.nil ?_
        refine WX.then_normal ?_
        refine WC.ret ?_
        refine WX.block_ret ?_
        refine WX.then_ret ?_
        refine WX.then_ret ?_
        refine WX.block_ret ?_
        refine WX.then_ret ?_
        exact WX.ret1 rfl rfl fun w' hS => ⟨by rw [decide_eq_false]; intro h; subst h; rw [hc] at hd; cases hd; exact absurd rfl hc25, hS.below⟩
      · (try simp only [decide_eq_true_eq, decide_eq_false_iff_not, Bool.not_eq_true', Bool.not_eq_false', Bool.not_not, Int.not_lt, Int.not_le] at hc25)
        refine WC.skip ?_
        refine WX.block_normal ?_
        refine WX.then_normal ?_
        refine WC.region ?_
        refine WL.r rfl rfl rfl (rd_move rfl rfl) ?_
        first
          | (refine WL.r rfl rfl rfl (rd_add64nl rfl rfl rfl ?_) ?_; focus (omega))
          | (refine WL.r rfl rfl rfl (rd_add64 rfl rfl rfl ?_) ?_; focus (omega))
        refine WL.r rfl rfl rfl (rd_assign rfl rfl) ?_
        refine WL.nil ?_
        exact WX.loop (k + 1) (by omega) (by repeat (first | exact sub_nil _ | refine sub_cons rfl ?_)) (fun w' h => ⟨⟨by omega, fun j hj => by
          rcases Nat.lt_succ_iff_lt_or_eq.1 hj with hj | rfl
          · exact hall j hj
          · rw [hc, hd, hc25]⟩, h⟩)
    · (try simp only [decide_eq_true_eq, decide_eq_false_iff_not, Bool.not_eq_true', Bool.not_eq_false', Bool.not_not, Int.not_lt, Int.not_le] at hc14)
      refine WC.exit ?_
      refine WX.then_exit ?_
      refine WX.then_exit ?_
      refine WX.block_exit ?_
      refine WX.then_normal ?_
      refine WC.seq ?_
      refine WC.region ?_
      refine WL.r rfl rfl rfl (rd_assign rfl rfl) ?_
      refine WL.nil ?_
      refine WX.then_normal ?_
      refine WC.ret ?_
      have hsame : x = y := List.ext_getElem? fun j => by
        by_cases hj : j < k
        · exact hall j hj
        · rw [List.getElem?_eq_none (by omega), List.getElem?_eq_none (by omega)]
      exact WX.ret1 rfl rfl fun w' hS => ⟨by rw [decide_eq_true hsame], hS.below⟩
end Go.Proofs.Ytenjafedpcpoaaa
