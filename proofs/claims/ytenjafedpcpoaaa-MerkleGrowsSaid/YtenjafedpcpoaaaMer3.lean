/-
  The walks of Between, of the program and of the reference, and of few and same.
-/
import Derived.Test.YtenjafedpcpoaaaMer2
namespace Go.Proofs.Ytenjafedpcpoaaa
set_option linter.unusedSimpArgs false
set_option linter.unusedVariables false
open Go.RowKit

theorem betw_len (l : List Bs) (m : Nat) (wh : Bool) (hl : l.length ≤ 1000000) (hm0 : 0 < m) (hm : m ≤ l.length) : (betw l m wh).length ≤ l.length := by
  have key : ∀ n (l : List Bs) m wh, l.length = n → l.length ≤ 1000000 → 0 < m → m ≤ l.length → (betw l m wh).length ≤ l.length := by
    intro n
    induction n using Nat.strongRecOn with
    | _ n ih =>
      intro l m wh hn hl hm0 hm
      rw [betw_eq l m wh hl hm0 hm]
      split
      · split <;> simp; omega
      · have hh := half_spec l.length (by omega) (by omega)
        split
        · have := ih (l.take (half l.length)).length (by simp; omega) (l.take (half l.length)) m wh rfl (by simp; omega) hm0 (by simp; omega)
          simp at this ⊢; omega
        · have := ih (l.drop (half l.length)).length (by simp; omega) (l.drop (half l.length)) (m - half l.length) false rfl (by simp; omega) (by omega) (by simp; omega)
          simp at this ⊢; omega
  exact key _ l m wh rfl hl hm0 hm

def ProofOk (l : List Bs) (i : Nat) (wh : Bool) : Prop :=
  l.length ≤ 1000000 → (∀ s ∈ l, s.length ≤ 900000) → 0 < i → i ≤ l.length → ∀ (a : Option Addr) (m cap : Nat), m = l.length → m ≤ cap → ∀ (ok : Nat → Prop) (w : World), (Fact.sl a (strs l)).holds ok w →
    Calls Try.prog 34 #[.slice a m cap, .int .i64 (i : Int), .bool wh] w fun e w' => ∃ g : GS, e = .returned (g.val (betw l i wh).length) ∧ g.cap = (betw l i wh).length + g.sp.length ∧ St (fun _ => True) w [g.ent (betw l i wh)] [] w'

theorem rproof_step (l : List Bs) (i : Nat) (wh : Bool) (ih : ∀ (l' : List Bs) i' wh', l'.length < l.length → ProofOk l' i' wh') : ProofOk l i wh := by
  intro hl hs hi0 hi a m cap hm hcap ok w hF
  subst hm
  obtain ⟨b, off, rfl⟩ := sl_addr hF (by rw [strs_len]; omega)
  have hp := betw_eq l i wh hl hi0 hi
  refine enter (S := St (fun _ => True) w [] [Fact.sl (some ⟨b, off, none⟩) (strs l)]) (L := [(0, .slice (some ⟨b, off, none⟩) l.length cap), (1, .int .i64 (i : Int)), (2, .bool wh)]) Try.func34 rfl Try.ntmps34 rfl (args_cons rfl (args_cons rfl (args_cons rfl (args_nil _)))) (St.start (fun _ _ => trivial) (by simpa using sl_any hF)) ?_
  refine WC.seq ?_
  refine WC.region ?_
  refine WL.r rfl rfl rfl (rd_assign rfl rfl) ?_
  refine WL.nil ?_
  refine WX.then_normal ?_
  refine WC.seq ?_
  refine WC.region ?_
  refine WL.r rfl rfl rfl (rd_move rfl rfl) ?_
  refine WL.r rfl rfl rfl (rd_len rfl rfl Try.underlying22) ?_
  refine WL.r rfl rfl rfl (rd_assign rfl rfl) ?_
  refine WL.nil ?_
  refine WX.then_normal ?_
  refine WC.seq ?_
  refine WC.seq ?_
  refine WC.region ?_
  refine WL.r rfl rfl rfl (rd_move rfl rfl) ?_
  refine WL.r rfl rfl rfl (rd_move rfl rfl) ?_
  refine WL.r rfl rfl rfl (rd_eql rfl rfl rfl) ?_
  refine WL.nil ?_
  refine WX.then_normal ?_
  refine WC.cond rfl (fun hc13 => ?_) (fun hc13 => ?_)
  · (try simp only [decide_eq_true_eq, decide_eq_false_iff_not, Bool.not_eq_true', Bool.not_eq_false', Bool.not_not, Int.not_lt, Int.not_le] at hc13)
    rw [if_pos (by omega)] at hp
    refine WC.seq ?_
    refine WC.seq ?_
    refine WC.region ?_
    refine WL.r rfl rfl rfl (rd_move rfl rfl) ?_
    refine WL.nil ?_
    refine WX.then_normal ?_
    refine WC.cond rfl (fun hc14 => ?_) (fun hc14 => ?_)
    · (try simp only [decide_eq_true_eq, decide_eq_false_iff_not, Bool.not_eq_true', Bool.not_eq_false', Bool.not_not, Int.not_lt, Int.not_le] at hc14)
      rw [if_pos hc14] at hp
      refine WC.seq ?_
      refine WC.region ?_
      refine WL.r rfl rfl rfl (rd_assign rfl rfl) ?_
      refine WL.nil ?_
      refine WX.then_normal ?_
      refine WC.ret ?_
      refine WX.then_ret ?_
      refine WX.then_ret ?_
      exact WX.ret1 rfl rfl fun w' hS => ⟨⟨none, 0, []⟩, by rw [hp]; rfl, by rw [hp]; rfl, by rw [hp]; exact (hS.nil _).sub (List.Sublist.refl _) (fun _ h => by simp at h)⟩
    · (try simp only [decide_eq_true_eq, decide_eq_false_iff_not, Bool.not_eq_true', Bool.not_eq_false', Bool.not_not, Int.not_lt, Int.not_le] at hc14)
      rw [if_neg (by simp [hc14])] at hp
      refine WC.skip ?_
      refine WX.then_normal ?_
      refine WC.seq ?_
      refine WC.region ?_
      refine WL.r rfl rfl rfl (rd_move rfl rfl) ?_
      refine WL.g rfl rfl rfl (og_call rfl rfl (by kernel_rfl) (keep_val fun w hS => rroot_ok l hl hs _ _ _ rfl hcap _ w (hS.fact _ (by simp)))) ?_
      intro _
      refine WL.g rfl rfl rfl (og_bs1 rfl rfl Try.underlying22 (by kernel_rfl : _ = some (some (.string (S [])), 1, 16)) rfl (by simp only [List.map]; rfl) rfl rfl ?_ (by decide)) ?_
      · simp [Value.cells]
      intro b17
      refine WL.r rfl rfl rfl (rd_assign rfl rfl) ?_
      refine WL.nil ?_
      refine WX.then_normal ?_
      refine WC.ret ?_
      refine WX.then_ret ?_
      exact WX.ret1 rfl rfl fun w' hS => ⟨⟨some b17, 1, []⟩, by rw [hp]; rfl, by rw [hp]; rfl, by rw [hp]; exact hS.sub (List.Sublist.refl _) (fun _ h => by simp at h)⟩
  · (try simp only [decide_eq_true_eq, decide_eq_false_iff_not, Bool.not_eq_true', Bool.not_eq_false', Bool.not_not, Int.not_lt, Int.not_le] at hc13)
    rw [if_neg (by omega)] at hp
    have hh := half_spec l.length (by omega) (by omega)
    refine WC.skip ?_
    refine WX.then_normal ?_
    refine WC.seq ?_
    refine WC.region ?_
    refine WL.r rfl rfl rfl (rd_move rfl rfl) ?_
    refine WL.g rfl rfl rfl (og_call rfl rfl (by kernel_rfl) (keep_val fun w _ => rhalf_ok l.length (by omega) (by omega) w)) ?_
    intro _
    refine WL.r rfl rfl rfl (rd_assign rfl rfl) ?_
    refine WL.nil ?_
    refine WX.then_normal ?_
    refine WC.seq ?_
    refine WC.seq ?_
    refine WC.region ?_
    refine WL.r rfl rfl rfl (rd_move rfl rfl) ?_
    refine WL.r rfl rfl rfl (rd_move rfl rfl) ?_
    refine WL.r rfl rfl rfl (rd_leq rfl rfl rfl) ?_
    refine WL.nil ?_
    refine WX.then_normal ?_
    refine WC.cond rfl (fun hc22 => ?_) (fun hc22 => ?_)
    · (try simp only [decide_eq_true_eq, decide_eq_false_iff_not, Bool.not_eq_true', Bool.not_eq_false', Bool.not_not, Int.not_lt, Int.not_le] at hc22)
      rw [if_pos (by omega)] at hp
      have hpl := betw_len (l.take (half l.length)) i wh (by simp; omega) hi0 (by simp; omega)
      rw [List.length_take] at hpl
      refine WC.seq ?_
      refine WC.mix [0, 0, 0, 0, 0, 1, 0, 0, 0, 1, 1, 2, 2] (by kernel_rfl) (by kernel_rfl) (fun w h => h.draw) ?_
      refine WM.r rfl rfl rfl (rd_move rfl rfl) ?_
      refine WM.r rfl rfl rfl (rd_move rfl rfl) ?_
      refine WM.r rfl rfl rfl (rd_slt rfl rfl rfl Try.underlying22 (by kernel_rfl : _ = some 1) ?_ (by (try simp only [Int.toNat_natCast, Nat.mul_one, Nat.zero_add, Nat.add_zero, Nat.zero_mul, Int.reduceToNat, Nat.reduceAdd, Nat.reduceMul, Nat.reduceSub, Nat.sub_zero]); rfl)) ?_
      · omega
      refine WM.r rfl rfl rfl (rd_move rfl rfl) ?_
      refine WM.r rfl rfl rfl (rd_move rfl rfl) ?_
      refine WM.g rfl rfl rfl (og_call rfl rfl (by kernel_rfl) (keep_own (γ := GS) (val := fun g => g.val (betw (l.take (half l.length)) i wh).length) (p := fun g => g.cap = (betw (l.take (half l.length)) i wh).length + g.sp.length) (x := fun g => g.ent (betw (l.take (half l.length)) i wh)) (ok' := fun _ => True) fun w hS => ih (l.take (half l.length)) i wh (by simp; omega) (by simp; omega) (fun s h => hs s (List.mem_of_mem_take h)) hi0 (by simp; omega) _ _ _ (by simp; omega) (by omega) _ w (strs_take l _ ▸ sl_take _ (hS.fact _ (by simp))))) (fun _ _ h => by first | exact h | exact ⟨_, h⟩ | exact ⟨_, h.2⟩ | exact h.2 | exact h.sub (by repeat (first | exact List.Sublist.refl _ | apply List.Sublist.cons)) (fun _ h => by simp [*]) | exact h.2.sub (by repeat (first | exact List.Sublist.refl _ | apply List.Sublist.cons)) (fun _ h => by simp [*])) ?_
      rintro ⟨ob, cp, sp⟩; refine WM.pu ?_; intro hg; simp only [GS.ent, GS.val]; dsimp only at hg
      refine WM.r rfl rfl rfl (rd_move rfl rfl) ?_
      refine WM.r rfl rfl rfl (rd_move rfl rfl) ?_
      refine WM.r rfl rfl rfl (rd_slfn rfl rfl rfl Try.underlying22 (by kernel_rfl : _ = some 1) ?_ (by (try simp only [Int.toNat_natCast, Nat.mul_one, Nat.zero_add, Nat.add_zero, Nat.zero_mul, Int.reduceToNat, Nat.reduceAdd, Nat.reduceMul, Nat.reduceSub, Nat.sub_zero]); rfl) (by (try simp only [Int.toNat_natCast, Nat.mul_one, Nat.zero_add, Nat.add_zero, Nat.zero_mul, Int.reduceToNat, Nat.reduceAdd, Nat.reduceMul, Nat.reduceSub, Nat.sub_zero]); rfl) (by (try simp only [Int.toNat_natCast, Nat.mul_one, Nat.zero_add, Nat.add_zero, Nat.zero_mul, Int.reduceToNat, Nat.reduceAdd, Nat.reduceMul, Nat.reduceSub, Nat.sub_zero]); rfl)) ?_
      · omega
      refine WM.g rfl rfl rfl (og_call rfl rfl (by kernel_rfl) (keep_val fun w hS => rroot_ok (l.drop (half l.length)) (by simp; omega) (fun s h => hs s (List.mem_of_mem_drop h)) _ _ _ (by simp) (by omega) _ w (strs_drop l _ ▸ sl_drop _ (hS.fact _ (by simp))))) (fun _ _ h => by first | exact h | exact ⟨_, h⟩ | exact ⟨_, h.2⟩ | exact h.2 | exact h.sub (by repeat (first | exact List.Sublist.refl _ | apply List.Sublist.cons)) (fun _ h => by simp [*]) | exact h.2.sub (by repeat (first | exact List.Sublist.refl _ | apply List.Sublist.cons)) (fun _ h => by simp [*])) ?_
      intro _
      refine WM.g rfl rfl rfl (og_bs1 rfl rfl Try.underlying22 (by kernel_rfl : _ = some (some (.string (S [])), 1, 16)) rfl (by simp only [List.map]; rfl) rfl rfl ?_ (by decide)) (fun _ _ h => by first | exact h | exact ⟨_, h⟩ | exact ⟨_, h.2⟩ | exact h.2 | exact h.sub (by repeat (first | exact List.Sublist.refl _ | apply List.Sublist.cons)) (fun _ h => by simp [*]) | exact h.2.sub (by repeat (first | exact List.Sublist.refl _ | apply List.Sublist.cons)) (fun _ h => by simp [*])) ?_
      · simp [Value.cells]
      intro b33
      refine WM.h rfl rfl rfl (app rfl Try.underlying22 (by kernel_rfl : _ = some (some (.string (S [])), 1, 16)) rfl (by first | exact .here | exact .t1 | exact .t2 | exact .t3 | exact .t4 | exact .t5 | exact .t6 | exact .t7) (by rfl) (by rfl) (by first | exact .here | exact .t1 | exact .t2 | exact .t3 | exact .t4 | exact .t5 | exact .t6 | exact .t7) (by rfl) ?_ ?_) ?_
      · refine ⟨?_, ?_, ?_, ?_, ?_⟩ <;> (try simp [strs_len]) <;> omega
      · simp [Value.oneCell']
      intro g34
      refine WM.pu ?_
      intro hg34
      refine WM.hr rfl rfl rfl (rd_assign rfl rfl) ?_
      refine WM.nil ?_
      refine WX.then_normal ?_
      refine WC.ret ?_
      refine WX.then_ret ?_
      exact WX.ret1 rfl rfl fun w' hS => ⟨⟨some g34.b, g34.cap, g34.spare⟩, by rw [hp, List.length_append]; rfl, by rw [hp, List.length_append]; exact hg34.2, by rw [hp]; exact (strs_snoc _ _ ▸ hS).sub (by repeat (first | exact List.Sublist.refl _ | apply List.Sublist.cons)) (fun _ h => by simp at h)⟩
    · (try simp only [decide_eq_true_eq, decide_eq_false_iff_not, Bool.not_eq_true', Bool.not_eq_false', Bool.not_not, Int.not_lt, Int.not_le] at hc22)
      rw [if_neg (by omega)] at hp
      have hpl := betw_len (l.drop (half l.length)) (i - half l.length) false (by simp; omega) (by omega) (by simp; omega)
      rw [List.length_drop] at hpl
      refine WC.skip ?_
      refine WX.then_normal ?_
      refine WC.seq ?_
      refine WC.mix [0, 0, 0, 0, 0, 0, 1, 0, 0, 0, 1, 1, 2, 2] (by kernel_rfl) (by kernel_rfl) (fun w h => h.draw) ?_
      refine WM.r rfl rfl rfl (rd_move rfl rfl) ?_
      refine WM.r rfl rfl rfl (rd_move rfl rfl) ?_
      refine WM.r rfl rfl rfl (rd_slfn rfl rfl rfl Try.underlying22 (by kernel_rfl : _ = some 1) ?_ (by (try simp only [Int.toNat_natCast, Nat.mul_one, Nat.zero_add, Nat.add_zero, Nat.zero_mul, Int.reduceToNat, Nat.reduceAdd, Nat.reduceMul, Nat.reduceSub, Nat.sub_zero]); rfl) (by (try simp only [Int.toNat_natCast, Nat.mul_one, Nat.zero_add, Nat.add_zero, Nat.zero_mul, Int.reduceToNat, Nat.reduceAdd, Nat.reduceMul, Nat.reduceSub, Nat.sub_zero]); rfl) (by (try simp only [Int.toNat_natCast, Nat.mul_one, Nat.zero_add, Nat.add_zero, Nat.zero_mul, Int.reduceToNat, Nat.reduceAdd, Nat.reduceMul, Nat.reduceSub, Nat.sub_zero]); rfl)) ?_
      · omega
      refine WM.r rfl rfl rfl (rd_move rfl rfl) ?_
      refine WM.r rfl rfl rfl (rd_move rfl rfl) ?_
      first
        | (refine WM.r rfl rfl rfl (rd_sub64n rfl rfl rfl ?_) ?_; focus (omega))
        | (refine WM.r rfl rfl rfl (rd_sub64 rfl rfl rfl ?_) ?_; focus (omega))
      refine WM.g rfl rfl rfl (og_call rfl rfl (by kernel_rfl) (keep_own (γ := GS) (val := fun g => g.val (betw (l.drop (half l.length)) (i - half l.length) false).length) (p := fun g => g.cap = (betw (l.drop (half l.length)) (i - half l.length) false).length + g.sp.length) (x := fun g => g.ent (betw (l.drop (half l.length)) (i - half l.length) false)) (ok' := fun _ => True) fun w hS => ih (l.drop (half l.length)) (i - half l.length) false (by simp; omega) (by simp; omega) (fun s h => hs s (List.mem_of_mem_drop h)) (by omega) (by simp; omega) _ _ _ (by simp) (by omega) _ w (strs_drop l _ ▸ sl_drop _ (hS.fact _ (by simp))))) (fun _ _ h => by first | exact h | exact ⟨_, h⟩ | exact ⟨_, h.2⟩ | exact h.2 | exact h.sub (by repeat (first | exact List.Sublist.refl _ | apply List.Sublist.cons)) (fun _ h => by simp [*]) | exact h.2.sub (by repeat (first | exact List.Sublist.refl _ | apply List.Sublist.cons)) (fun _ h => by simp [*])) ?_
      rintro ⟨ob, cp, sp⟩; refine WM.pu ?_; intro hg; simp only [GS.ent, GS.val]; dsimp only at hg
      refine WM.r rfl rfl rfl (rd_move rfl rfl) ?_
      refine WM.r rfl rfl rfl (rd_move rfl rfl) ?_
      refine WM.r rfl rfl rfl (rd_slt rfl rfl rfl Try.underlying22 (by kernel_rfl : _ = some 1) ?_ (by (try simp only [Int.toNat_natCast, Nat.mul_one, Nat.zero_add, Nat.add_zero, Nat.zero_mul, Int.reduceToNat, Nat.reduceAdd, Nat.reduceMul, Nat.reduceSub, Nat.sub_zero]); rfl)) ?_
      · omega
      refine WM.g rfl rfl rfl (og_call rfl rfl (by kernel_rfl) (keep_val fun w hS => rroot_ok (l.take (half l.length)) (by simp; omega) (fun s h => hs s (List.mem_of_mem_take h)) _ _ _ (by simp; omega) (by omega) _ w (strs_take l _ ▸ sl_take _ (hS.fact _ (by simp))))) (fun _ _ h => by first | exact h | exact ⟨_, h⟩ | exact ⟨_, h.2⟩ | exact h.2 | exact h.sub (by repeat (first | exact List.Sublist.refl _ | apply List.Sublist.cons)) (fun _ h => by simp [*]) | exact h.2.sub (by repeat (first | exact List.Sublist.refl _ | apply List.Sublist.cons)) (fun _ h => by simp [*])) ?_
      intro _
      refine WM.g rfl rfl rfl (og_bs1 rfl rfl Try.underlying22 (by kernel_rfl : _ = some (some (.string (S [])), 1, 16)) rfl (by simp only [List.map]; rfl) rfl rfl ?_ (by decide)) (fun _ _ h => by first | exact h | exact ⟨_, h⟩ | exact ⟨_, h.2⟩ | exact h.2 | exact h.sub (by repeat (first | exact List.Sublist.refl _ | apply List.Sublist.cons)) (fun _ h => by simp [*]) | exact h.2.sub (by repeat (first | exact List.Sublist.refl _ | apply List.Sublist.cons)) (fun _ h => by simp [*])) ?_
      · simp [Value.cells]
      intro b46
      refine WM.h rfl rfl rfl (app rfl Try.underlying22 (by kernel_rfl : _ = some (some (.string (S [])), 1, 16)) rfl (by first | exact .here | exact .t1 | exact .t2 | exact .t3 | exact .t4 | exact .t5 | exact .t6 | exact .t7) (by rfl) (by rfl) (by first | exact .here | exact .t1 | exact .t2 | exact .t3 | exact .t4 | exact .t5 | exact .t6 | exact .t7) (by rfl) ?_ ?_) ?_
      · refine ⟨?_, ?_, ?_, ?_, ?_⟩ <;> (try simp [strs_len]) <;> omega
      · simp [Value.oneCell']
      intro g47
      refine WM.pu ?_
      intro hg47
      refine WM.hr rfl rfl rfl (rd_assign rfl rfl) ?_
      refine WM.nil ?_
      refine WX.then_normal ?_
      refine WC.ret ?_
      exact WX.ret1 rfl rfl fun w' hS => ⟨⟨some g47.b, g47.cap, g47.spare⟩, by rw [hp, List.length_append]; rfl, by rw [hp, List.length_append]; exact hg47.2, by rw [hp]; exact (strs_snoc _ _ ▸ hS).sub (by repeat (first | exact List.Sublist.refl _ | apply List.Sublist.cons)) (fun _ h => by simp at h)⟩
theorem rproof_ok (l : List Bs) (i : Nat) (wh : Bool) : ProofOk l i wh := by
  have key : ∀ n (l : List Bs) i wh, l.length = n → ProofOk l i wh := by
    intro n
    induction n using Nat.strongRecOn with
    | _ n ih => intro l i wh hl; exact rproof_step l i wh fun l' i' wh' h => ih l'.length (by omega) l' i' wh' rfl
  exact key _ l i wh rfl

def betwR (l : List Bs) (i : Int) : List Bs × Int := if i < 0 ∨ (l.length : Int) < i then ([], 2) else if i = 0 ∨ i = (l.length : Int) then ([], 0) else (betw l i.toNat true, 0)

theorem rBetween_ok (l : List Bs) (i : Int) (hl : l.length ≤ 1000000) (hs : ∀ s ∈ l, s.length ≤ 900000) (a : Option Addr) (m cap : Nat) (hm : m = l.length) (hcap : m ≤ cap) (ok : Nat → Prop) (w : World) (hF : (Fact.sl a (strs l)).holds ok w) :
    Calls Try.prog 17 #[.slice a m cap, .int .i64 i] w fun e w' => ∃ g : GS, e = .returned (.tuple #[g.val (betwR l i).1.length, .int .i64 (betwR l i).2]) ∧ g.cap = (betwR l i).1.length + g.sp.length ∧ St (fun _ => True) w [g.ent (betwR l i).1] [] w' := by
  subst hm
  refine enter (S := St (fun _ => True) w [] [Fact.sl a (strs l)]) (L := [(0, .slice a l.length cap), (1, .int .i64 i)]) Try.func17 rfl Try.ntmps17 rfl (args_cons rfl (args_cons rfl (args_nil _))) (St.start (fun _ _ => trivial) (by simpa using sl_any hF)) ?_
  refine WC.seq ?_
  refine WC.region ?_
  refine WL.r rfl rfl rfl (rd_assign rfl rfl) ?_
  refine WL.r rfl rfl rfl (rd_assign rfl rfl) ?_
  refine WL.nil ?_
  refine WX.then_normal ?_
  refine WC.seq ?_
  refine WC.seq ?_
  refine WC.region ?_
  refine WL.r rfl rfl rfl (rd_move rfl rfl) ?_
  refine WL.r rfl rfl rfl (rd_lss rfl rfl rfl) ?_
  refine WL.r rfl rfl rfl (rd_move rfl rfl) ?_
  refine WL.bool 8 rfl (fun hg8 => ?_) (fun hg8 => ?_)
  · (try simp only [decide_eq_true_eq, decide_eq_false_iff_not, Bool.not_eq_true', Bool.not_eq_false', Bool.not_not, Int.not_lt, Int.not_le] at hg8)
    refine WL.s rfl rfl rfl ?_
    refine WL.s rfl rfl rfl ?_
    refine WL.s rfl rfl rfl ?_
    refine WL.s rfl rfl rfl ?_
    refine WL.r rfl rfl rfl (rd_pickt rfl rfl rfl) ?_
    refine WL.nil ?_
    refine WX.then_normal ?_
    refine WC.cond rfl (fun _ => ?_) (fun h => by cases h)
    refine WC.seq ?_
    refine WC.region ?_
    refine WL.r rfl rfl rfl (rd_assign rfl rfl) ?_
    refine WL.r rfl rfl rfl (rd_assign rfl rfl) ?_
    refine WL.nil ?_
    refine WX.then_normal ?_
    refine WC.ret ?_
    refine WX.then_ret ?_
    have hp : betwR l i = ([], 2) := if_pos (by omega)
    exact WX.ret2 rfl rfl rfl fun w' hS => ⟨⟨none, 0, []⟩, by rw [hp]; rfl, by rw [hp]; rfl, by rw [hp]; exact (hS.nil _).sub (List.Sublist.refl _) (fun _ h => by simp at h)⟩
  · (try simp only [decide_eq_true_eq, decide_eq_false_iff_not, Bool.not_eq_true', Bool.not_eq_false', Bool.not_not, Int.not_lt, Int.not_le] at hg8)
    refine WL.r rfl rfl rfl (rd_move rfl rfl) ?_
    refine WL.r rfl rfl rfl (rd_move rfl rfl) ?_
    refine WL.r rfl rfl rfl (rd_len rfl rfl Try.underlying22) ?_
    refine WL.r rfl rfl rfl (rd_gtr rfl rfl rfl) ?_
    refine WL.r rfl rfl rfl (rd_pickf rfl rfl rfl) ?_
    refine WL.nil ?_
    refine WX.then_normal ?_
    refine WC.cond rfl (fun hc13 => ?_) (fun hc13 => ?_)
    · (try simp only [decide_eq_true_eq, decide_eq_false_iff_not, Bool.not_eq_true', Bool.not_eq_false', Bool.not_not, Int.not_lt, Int.not_le] at hc13)
      refine WC.seq ?_
      refine WC.region ?_
      refine WL.r rfl rfl rfl (rd_assign rfl rfl) ?_
      refine WL.r rfl rfl rfl (rd_assign rfl rfl) ?_
      refine WL.nil ?_
      refine WX.then_normal ?_
      refine WC.ret ?_
      refine WX.then_ret ?_
      have hp : betwR l i = ([], 2) := if_pos (by omega)
      exact WX.ret2 rfl rfl rfl fun w' hS => ⟨⟨none, 0, []⟩, by rw [hp]; rfl, by rw [hp]; rfl, by rw [hp]; exact (hS.nil _).sub (List.Sublist.refl _) (fun _ h => by simp at h)⟩
    · (try simp only [decide_eq_true_eq, decide_eq_false_iff_not, Bool.not_eq_true', Bool.not_eq_false', Bool.not_not, Int.not_lt, Int.not_le] at hc13)
      refine WC.skip ?_
      refine WX.then_normal ?_
      refine WC.seq ?_
      refine WC.seq ?_
      refine WC.region ?_
      refine WL.r rfl rfl rfl (rd_move rfl rfl) ?_
      refine WL.r rfl rfl rfl (rd_eql rfl rfl rfl) ?_
      refine WL.r rfl rfl rfl (rd_move rfl rfl) ?_
      refine WL.bool 16 rfl (fun hg16 => ?_) (fun hg16 => ?_)
      · (try simp only [decide_eq_true_eq, decide_eq_false_iff_not, Bool.not_eq_true', Bool.not_eq_false', Bool.not_not, Int.not_lt, Int.not_le] at hg16)
        refine WL.s rfl rfl rfl ?_
        refine WL.s rfl rfl rfl ?_
        refine WL.s rfl rfl rfl ?_
        refine WL.s rfl rfl rfl ?_
        refine WL.r rfl rfl rfl (rd_pickt rfl rfl rfl) ?_
        refine WL.nil ?_
        refine WX.then_normal ?_
        refine WC.cond rfl (fun _ => ?_) (fun h => by cases h)
        refine WC.seq ?_
        refine WC.region ?_
        refine WL.r rfl rfl rfl (rd_assign rfl rfl) ?_
        refine WL.r rfl rfl rfl (rd_assign rfl rfl) ?_
        refine WL.nil ?_
        refine WX.then_normal ?_
        refine WC.ret ?_
        refine WX.then_ret ?_
        have hp : betwR l i = ([], 0) := by rw [betwR, if_neg (by omega), if_pos (by omega)]
        exact WX.ret2 rfl rfl rfl fun w' hS => ⟨⟨none, 0, []⟩, by rw [hp]; rfl, by rw [hp]; rfl, by rw [hp]; exact (hS.nil _).sub (List.Sublist.refl _) (fun _ h => by simp at h)⟩
      · (try simp only [decide_eq_true_eq, decide_eq_false_iff_not, Bool.not_eq_true', Bool.not_eq_false', Bool.not_not, Int.not_lt, Int.not_le] at hg16)
        refine WL.r rfl rfl rfl (rd_move rfl rfl) ?_
        refine WL.r rfl rfl rfl (rd_move rfl rfl) ?_
        refine WL.r rfl rfl rfl (rd_len rfl rfl Try.underlying22) ?_
        refine WL.r rfl rfl rfl (rd_eql rfl rfl rfl) ?_
        refine WL.r rfl rfl rfl (rd_pickf rfl rfl rfl) ?_
        refine WL.nil ?_
        refine WX.then_normal ?_
        refine WC.cond rfl (fun hc21 => ?_) (fun hc21 => ?_)
        · (try simp only [decide_eq_true_eq, decide_eq_false_iff_not, Bool.not_eq_true', Bool.not_eq_false', Bool.not_not, Int.not_lt, Int.not_le] at hc21)
          refine WC.seq ?_
          refine WC.region ?_
          refine WL.r rfl rfl rfl (rd_assign rfl rfl) ?_
          refine WL.r rfl rfl rfl (rd_assign rfl rfl) ?_
          refine WL.nil ?_
          refine WX.then_normal ?_
          refine WC.ret ?_
          refine WX.then_ret ?_
          have hp : betwR l i = ([], 0) := by rw [betwR, if_neg (by omega), if_pos (by omega)]
          exact WX.ret2 rfl rfl rfl fun w' hS => ⟨⟨none, 0, []⟩, by rw [hp]; rfl, by rw [hp]; rfl, by rw [hp]; exact (hS.nil _).sub (List.Sublist.refl _) (fun _ h => by simp at h)⟩
        · (try simp only [decide_eq_true_eq, decide_eq_false_iff_not, Bool.not_eq_true', Bool.not_eq_false', Bool.not_not, Int.not_lt, Int.not_le] at hc21)
          obtain ⟨j, rfl⟩ : ∃ j : Nat, i = j := ⟨i.toNat, by omega⟩
          have hp : betwR l (j : Int) = (betw l j true, 0) := by rw [betwR, if_neg (by omega), if_neg (by omega), Int.toNat_natCast]
          refine WC.skip ?_
          refine WX.then_normal ?_
          refine WC.seq ?_
          refine WC.region ?_
          refine WL.r rfl rfl rfl (rd_move rfl rfl) ?_
          refine WL.r rfl rfl rfl (rd_move rfl rfl) ?_
          refine WL.g rfl rfl rfl (og_call rfl rfl (by kernel_rfl) (keep_own (γ := GS) (val := fun g => g.val (betw l j true).length) (p := fun g => g.cap = (betw l j true).length + g.sp.length) (x := fun g => g.ent (betw l j true)) (ok' := fun _ => True) fun w hS => rproof_ok l j true hl hs (by omega) (by omega) _ _ _ rfl hcap _ w (hS.fact _ (by simp)))) ?_
          intro g; refine WL.pu ?_; intro hg
          refine WL.r rfl rfl rfl (rd_assign rfl rfl) ?_
          refine WL.r rfl rfl rfl (rd_assign rfl rfl) ?_
          refine WL.nil ?_
          refine WX.then_normal ?_
          refine WC.ret ?_
          exact WX.ret2 rfl rfl rfl fun w' hS => ⟨g, by rw [hp], by rw [hp]; exact hg, by rw [hp]; exact hS.sub (List.Sublist.refl _) (fun _ h => by simp at h)⟩
end Go.Proofs.Ytenjafedpcpoaaa
