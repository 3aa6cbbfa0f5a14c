/-
  The program's attempts at a coin: blocks, one by one.
-/
import Derived.Test.YtikcjkifhliidaaDoorItoa
namespace Go.Proofs.YtikcjkifhliidaaDoor
set_option linter.unusedSimpArgs false
set_option linter.unusedVariables false
set_option maxRecDepth 20000
set_option maxHeartbeats 600000
open Go.RowKit

/-- the blocks, handed on until one stops -/
def itB {σ : Type} (sd : Bs) (at_ a : Nat) (after : σ → Bs → σ) (stop : σ → Bs → Option Code) : Nat → Nat → σ → σ × Option Code
  | 0, _, s => (s, none)
  | f + 1, b, s => if (stop s (blkB sd at_ a b)).isSome then (after s (blkB sd at_ a b), stop s (blkB sd at_ a b)) else itB sd at_ a after stop f (b + 1) (after s (blkB sd at_ a b))
section
variable {σ : Type} {sd : Bs} {at_ a : Nat} {after : σ → Bs → σ} {stop : σ → Bs → Option Code} {K b : Nat} {s : σ}
theorem itB_stop (h : b < K) (hs : (stop s (blkB sd at_ a b)).isSome = true) : itB sd at_ a after stop (K - b) b s = (after s (blkB sd at_ a b), stop s (blkB sd at_ a b)) := by
  rw [show K - b = (K - b - 1) + 1 by omega, itB, if_pos hs]
theorem itB_next (h : b < K) (hs : stop s (blkB sd at_ a b) = none) : itB sd at_ a after stop (K - b) b s = itB sd at_ a after stop (K - (b + 1)) (b + 1) (after s (blkB sd at_ a b)) := by
  rw [show K - b = (K - (b + 1)) + 1 by omega, itB, if_neg (by simp [hs])]
theorem itB_lt (h : b ≤ K) {s0 : σ} (hi : itB sd at_ a after stop (K - b) b s = itB sd at_ a after stop K 0 s0) (hs : (itB sd at_ a after stop K 0 s0).2.isSome = true) : b < K := by
  rcases Nat.lt_or_ge b K with q | q
  · exact q
  · rw [← hi, show K - b = 0 by omega, itB] at hs; cases hs
end
theorem blocks_c {t : Tp} {x : Value} {a : Int} {own0 : List Ent} {ok : Nat → Prop} {w0 : World} {fs : List Fact} {w : World} (hS0 : St ok w0 (own0) (fs) w) :
    Calls Tryd.prog 74 #[.agg #[x, .string (S t.seed), .int .i64 t.at_], .int .i64 a] w fun e w' => ∃ g : Nat × Nat, e = .returned (.func (.func 84) #[] #[.pointer (some ⟨g.1, 0, none⟩), .pointer (some ⟨g.2, 0, none⟩)]) ∧ St ok w0 (⟨some g.2, [.int .i64 a], 3⟩ :: ⟨some g.1, [x, .string (S t.seed), .int .i64 t.at_], 24⟩ :: own0) fs w' := by
  refine enter (S := St ok w0 (own0) (fs)) (L := [(0, .agg #[x, .string (S t.seed), .int .i64 t.at_]), (1, .int .i64 a)]) Tryd.func74 rfl Tryd.ntmps74 rfl (args_cons rfl (args_cons rfl (args_nil _))) hS0 ?_
  refine WC.sr ?_
  refine WL.g rfl rfl rfl (og_box rfl rfl (by (exact cells_agg _))) ?_
  intro b2
  refine WL.g rfl rfl rfl (og_box rfl rfl (by (exact cells_agg _))) ?_
  intro b3
  refine WL.r rfl rfl rfl (rd_assign rfl rfl) ?_
  refine WL.nt ?_
  refine WC.sr ?_
  refine WL.r rfl rfl rfl (rd_mkf rfl rfl rfl) ?_
  refine WL.r rfl rfl rfl (rd_assign rfl rfl) ?_
  refine WL.nt ?_
  refine WC.ret ?_
  exact WX.retN rfl (.tmp rfl .nil) fun w' hS => ⟨(b2, b3), rfl, hS⟩
theorem blk_i {σ γ : Type} {CO : σ → γ → List Ent} {pg : σ → γ → Prop} {inv : σ → Bs → Prop} {after : σ → Bs → σ} {stop : σ → Bs → Option Code} {l : Nat} {r : Loop} {ok : Nat → Prop} {w0 : World} {fs : List Fact} {w : World} {sd : Bs} {x : Value} {at_ a : Nat} {b1 b2 : Nat} {s0 : σ} {K : Nat} [∀ s g, HasE (CO s g) b1 [x, .string (S sd), .int .i64 (at_ : Int)] 24] [∀ s g, HasE (CO s g) b2 [.int .i64 (a : Int)] 3] {g0 : γ} (hY : YOk Tryd.prog l r ok w0 fs CO pg inv after stop (fun s : Bs => #[Value.string (S s)])) (hS0 : St ok w0 (CO s0 g0) (Fact.lp l (rcd r none) :: fs) w) (hg0 : pg s0 g0) (hsd : sd.length ≤ 400000) (hat : at_ ≤ 4294967296) (ha : a ≤ 1000) (hK : K ≤ 100000) (hinv : ∀ s x, x.length = 32 → inv s x) (hstop : (itB sd at_ a after stop K 0 s0).2.isSome = true) (hT : Tab w0) :
    Calls Tryd.prog 84 #[.func (.yield l) #[] #[], .pointer (some ⟨b1, 0, none⟩), .pointer (some ⟨b2, 0, none⟩)] w fun e w' => (∃ v, e = .returned v) ∧ ∃ g', ((itB sd at_ a after stop K 0 s0).2 = none → pg ((itB sd at_ a after stop K 0 s0).1) g') ∧ St ok w0 (CO ((itB sd at_ a after stop K 0 s0).1) g') (Fact.lp l (rcd r ((itB sd at_ a after stop K 0 s0).2)) :: fs) w' := by
  have hd1 := dec_len20 18 at_ (by omega); have hd2 := dec_len20 18 a (by omega)
  refine enter (S := St ok w0 (CO s0 g0) (Fact.lp l (rcd r none) :: fs)) (L := [(0, .func (.yield l) #[] #[]), (1, .pointer (some ⟨b1, 0, none⟩)), (2, .pointer (some ⟨b2, 0, none⟩))]) Tryd.func84 rfl Tryd.ntmps84 rfl (args_cons rfl (args_cons rfl (args_cons rfl (args_nil _)))) hS0 ?_
  refine WC.sr ?_
  refine WL.r rfl rfl rfl (rd_assign rfl rfl) ?_
  refine WL.nt ?_
  refine WC.block ?_
  refine WC.loopO (σ := Nat × σ × γ) [(0, _), (1, _), (2, _)] (fun g => [(4, .int .i64 (g.1 : Int))]) (fun g => g.1 ≤ K ∧ pg g.2.1 g.2.2 ∧ itB sd at_ a after stop (K - g.1) g.1 g.2.1 = itB sd at_ a after stop K 0 s0) (fun g => K - g.1) (fun g => CO g.2.1 g.2.2) (fun g => Fact.lp l (rcd r none) :: fs) (0, s0, g0) (sub_cons rfl (sub_cons rfl (sub_cons rfl (sub_nil _)))) (sub_cons rfl (sub_nil _)) (by (try dsimp only); exact ⟨Nat.zero_le _, hg0, rfl⟩) (by (exact fun _ h => h)) ?_
  rintro ⟨b, s, g⟩ hinv1; (try dsimp only at hinv1 ⊢)
  obtain ⟨hp, hgs, hi⟩ := hinv1
  have hlt := itB_lt hp hi hstop
  have hd3 := dec_len20 18 b (by omega)
  refine WC.seq ?_
  refine WC.block ?_
  refine WC.seq ?_
  refine WC.free0 [0, 1, 2, 4, 5, 8, 9, 3, 6, 7, 10, 11] [] [0, 0, 1, 0, 0, 1, 0, 0, 0, 1, 0, 0] (by kernel_rfl) (by kernel_rfl) rfl ?_
  (refine WJ.r rfl rfl rfl rfl rfl (rd_fa rfl rfl Tryd.underlying24 rfl (by kernel_rfl) (by (try simp only [sN, Int.reduceToNat, Nat.reduceAdd, Nat.reduceMul, Nat.reduceSub]); rfl)) ?_)
  (refine WJ.r rfl rfl rfl rfl rfl (ld rfl rfl .tc Tryd.underlying3 rfl (by rfl)) ?_)
  refine WJ.gv rfl rfl rfl rfl rfl (fun ext => og_call rfl rfl (by kernel_rfl) (keep_val fun w hS => itoa_c (by omega) (by (exact tab_st hT hS)))) ?_
  refine WJ.r rfl rfl rfl rfl rfl (ld rfl rfl .tc Tryd.underlying3 rfl (by rfl)) ?_
  refine WJ.gv rfl rfl rfl rfl rfl (fun ext => og_call rfl rfl (by kernel_rfl) (keep_val fun w hS => itoa_c (by omega) (by (exact tab_st hT hS)))) ?_
  refine WJ.r rfl rfl rfl rfl rfl (rd_move rfl rfl) ?_
  refine WJ.gv rfl rfl rfl rfl rfl (fun ext => og_call rfl rfl (by kernel_rfl) (keep_val fun w hS => itoa_c (by omega) (by (exact tab_st hT hS)))) ?_
  refine WJ.r rfl rfl rfl rfl rfl (rd_cat rfl rfl rfl ?_) ?_
  · ((try simp only [List.length_append, List.length_cons, List.length_nil]); omega)
  refine WJ.r rfl rfl rfl rfl rfl (rd_cat rfl rfl rfl ?_) ?_
  · ((try simp only [List.length_append, List.length_cons, List.length_nil]); omega)
  refine WJ.r rfl rfl rfl rfl rfl (rd_cat rfl rfl rfl ?_) ?_
  · ((try simp only [List.length_append, List.length_cons, List.length_nil]); omega)
  refine WJ.r rfl rfl rfl rfl rfl (rd_cat rfl rfl rfl ?_) ?_
  · ((try simp only [List.length_append, List.length_cons, List.length_nil]); omega)
  refine WJ.r rfl rfl rfl rfl rfl (rd_assign rfl rfl) ?_
  refine WJ.nil ?_
  refine WL.nt ?_
  refine WC.sr ?_
  refine WL.r rfl rfl rfl (rd_move rfl rfl) ?_
  (refine WL.r rfl rfl rfl (rd_fa rfl rfl Tryd.underlying24 rfl (by kernel_rfl) (by (try simp only [sN, Int.reduceToNat, Nat.reduceAdd, Nat.reduceMul, Nat.reduceSub]); rfl)) ?_)
  (refine WL.r rfl rfl rfl (ld rfl rfl .tc Tryd.underlying9 rfl (by rfl)) ?_)
  refine WL.r rfl rfl rfl (rd_move rfl rfl) ?_
  refine WL.g rfl rfl rfl (og_call rfl rfl (by kernel_rfl) (keep_val fun w hS => mac_c (key := sd) (s := nameB at_ a b) (by omega) (by simp only [nameB, List.length_append, List.length_cons, List.length_nil]; omega))) ?_
  intro _
  refine WL.g rfl rfl rfl (og_yield hY [] (blkB sd at_ a b) rfl rfl rfl rfl (hinv _ _ (mac_len _ _)) (hgs)) ?_
  intro gy; refine WL.pu ?_; intro hgy; (refine WL.app0 ?_)
  refine WL.r rfl rfl rfl (rd_not rfl rfl) ?_
  refine WL.nt ?_
  refine WC.cond rfl (fun hc25 => ?_) (fun hc25 => ?_)
  · (try simp only [sB] at hc25)
    refine WC.ret ?_
    refine WX.block_ret ?_
    refine WX.then_ret ?_
    refine WX.then_ret ?_
    refine WX.block_ret ?_
    exact WX.retN rfl .nil fun w' hS => ⟨⟨_, rfl⟩, gy, by rw [← hi, itB_stop hlt (by simpa using hc25)]; exact hgy, by rw [← hi, itB_stop hlt (by simpa using hc25)]; dsimp only; exact st_sub _ hS⟩
  · (try simp only [sB] at hc25)
    have hst : stop s (blkB sd at_ a b) = none := by simpa using hc25
    rw [hst]
    refine WC.skip ?_
    refine WX.block_normal ?_
    refine WX.then_normal ?_
    refine WC.region ?_
    refine WL.r rfl rfl rfl (rd_move rfl rfl) ?_
    (refine WL.r rfl rfl rfl (rd_add64nl rfl rfl rfl ?_) ?_; (focus (omega)))
    refine WL.r rfl rfl rfl (rd_assign rfl rfl) ?_
    refine WL.nil ?_
    refine WX.loopO ((b + 1, after s (blkB sd at_ a b), gy)) (by (try dsimp only); omega) (sub_cons rfl (sub_cons rfl (sub_cons rfl (sub_nil _)))) (by refine (sub_cons ?_ (sub_nil _)) <;> (rfl)) ?_ (by (exact fun _ h => h))
    (try dsimp only)
    exact ⟨by omega, hgy hst, (itB_next hlt hst).symm.trans hi⟩
end Go.Proofs.YtikcjkifhliidaaDoor
