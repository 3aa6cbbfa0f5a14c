/-
  The walks of Path, of the program and of the reference.
-/
import Derived.Test.YtenjafedpcpoaaaMer1
namespace Go.Proofs.Ytenjafedpcpoaaa
set_option linter.unusedSimpArgs false
set_option linter.unusedVariables false
open Go.RowKit

/-- a slice that somebody owns: its block (none: nil), its capacity, what lies behind its elements -/
structure GS where
  ob : Option Nat
  cap : Nat
  sp : List Value
def GS.val (g : GS) (n : Nat) : Value := .slice (g.ob.map fun b => ⟨b, 0, none⟩) n g.cap
def GS.ent (g : GS) (l : List Bs) : Ent := ⟨g.ob, strs l ++ g.sp, 9⟩

theorem strs_snoc (l : List Bs) (s : Bs) : strs l ++ [.string (S s)] = strs (l ++ [s]) := by simp [strs]
theorem path_len (l : List Bs) (i : Nat) (hl : l.length ≤ 1000000) : (path l i).length ≤ l.length := by
  have key : ∀ n (l : List Bs) i, l.length = n → l.length ≤ 1000000 → (path l i).length ≤ l.length := by
    intro n
    induction n using Nat.strongRecOn with
    | _ n ih =>
      intro l i hn hl
      by_cases h1 : l.length ≤ 1
      · rw [path_one l i h1]; simp
      have hh := half_spec l.length (by omega) (by omega)
      by_cases hi : i < half l.length
      · rw [path_lt l i (by omega) hl hi]
        have := ih (l.take (half l.length)).length (by simp; omega) (l.take (half l.length)) i rfl (by simp; omega)
        simp at this ⊢; omega
      · rw [path_ge l i (by omega) hl (by omega)]
        have := ih (l.drop (half l.length)).length (by simp; omega) (l.drop (half l.length)) (i - half l.length) rfl (by simp; omega)
        simp at this ⊢; omega
  exact key _ l i rfl hl

def PathOk (l : List Bs) (i : Nat) : Prop :=
  0 < l.length → l.length ≤ 1000000 → (∀ s ∈ l, s.length ≤ 900000) → i < l.length → ∀ (a : Option Addr) (m cap : Nat), m = l.length → m ≤ cap → ∀ (ok : Nat → Prop) (w : World), (Fact.sl a (strs l)).holds ok w →
    Calls Try.prog 32 #[.slice a m cap, .int .i64 (i : Int)] w fun e w' => ∃ g : GS, e = .returned (g.val (path l i).length) ∧ g.cap = (path l i).length + g.sp.length ∧ St (fun _ => True) w [g.ent (path l i)] [] w'

theorem rpath_step (l : List Bs) (i : Nat) (ih : ∀ (l' : List Bs) i', l'.length < l.length → PathOk l' i') : PathOk l i := by
  intro hl0 hl hs hi a m cap hm hcap ok w hF
  subst hm
  obtain ⟨b, off, rfl⟩ := sl_addr hF (by rw [strs_len]; omega)
  refine enter (S := St (fun _ => True) w [] [Fact.sl (some ⟨b, off, none⟩) (strs l)]) (L := [(0, .slice (some ⟨b, off, none⟩) l.length cap), (1, .int .i64 (i : Int))]) Try.func32 rfl Try.ntmps32 rfl (args_cons rfl (args_cons rfl (args_nil _))) (St.start (fun _ _ => trivial) (by simpa using sl_any hF)) ?_
  refine WC.seq ?_
  refine WC.region ?_
  refine WL.r rfl rfl rfl (rd_assign rfl rfl) ?_
  refine WL.nil ?_
  refine WX.then_normal ?_
  refine WC.seq ?_
  refine WC.region ?_
  refine WL.r rfl rfl rfl (rd_move rfl rfl) ?_
  refine WL.r rfl rfl rfl (rd_len rfl rfl Try.underlying22) ?_
  refine WL.r rfl rfl rfl (rd_assign rfl rfl) ?_
  refine WL.nil ?_
  refine WX.then_normal ?_
  refine WC.seq ?_
  refine WC.seq ?_
  refine WC.region ?_
  refine WL.r rfl rfl rfl (rd_move rfl rfl) ?_
  refine WL.r rfl rfl rfl (rd_eql rfl rfl rfl) ?_
  refine WL.nil ?_
  refine WX.then_normal ?_
  refine WC.cond rfl (fun hc10 => ?_) (fun hc10 => ?_)
  · (try simp only [decide_eq_true_eq, decide_eq_false_iff_not, Bool.not_eq_true', Bool.not_eq_false', Bool.not_not, Int.not_lt, Int.not_le] at hc10)
    have hp := path_one l i (by omega)
    refine WC.seq ?_
    refine WC.region ?_
    refine WL.r rfl rfl rfl (rd_assign rfl rfl) ?_
    refine WL.nil ?_
    refine WX.then_normal ?_
    refine WC.ret ?_
    refine WX.then_ret ?_
    exact WX.ret1 rfl rfl fun w' hS => ⟨⟨none, 0, []⟩, by rw [hp]; rfl, by rw [hp]; rfl, by rw [hp]; exact (hS.nil _).sub (List.Sublist.refl _) (fun _ h => by simp at h)⟩
  · (try simp only [decide_eq_true_eq, decide_eq_false_iff_not, Bool.not_eq_true', Bool.not_eq_false', Bool.not_not, Int.not_lt, Int.not_le] at hc10)
    have hh := half_spec l.length (by omega) (by omega)
    refine WC.skip ?_
    refine WX.then_normal ?_
    refine WC.seq ?_
    refine WC.region ?_
    refine WL.r rfl rfl rfl (rd_move rfl rfl) ?_
    refine WL.g rfl rfl rfl (og_call rfl rfl (by kernel_rfl) (keep_val fun w _ => rhalf_ok l.length (by omega) (by omega) w)) ?_
    intro _
    refine WL.r rfl rfl rfl (rd_assign rfl rfl) ?_
    refine WL.nil ?_
    refine WX.then_normal ?_
    refine WC.seq ?_
    refine WC.seq ?_
    refine WC.region ?_
    refine WL.r rfl rfl rfl (rd_move rfl rfl) ?_
    refine WL.r rfl rfl rfl (rd_move rfl rfl) ?_
    refine WL.r rfl rfl rfl (rd_lss rfl rfl rfl) ?_
    refine WL.nil ?_
    refine WX.then_normal ?_
    refine WC.cond rfl (fun hc15 => ?_) (fun hc15 => ?_)
    · (try simp only [decide_eq_true_eq, decide_eq_false_iff_not, Bool.not_eq_true', Bool.not_eq_false', Bool.not_not, Int.not_lt, Int.not_le] at hc15)
      have hp := path_lt l i (by omega) hl (by omega)
      have hpl := path_len (l.take (half l.length)) i (by simp; omega)
      rw [List.length_take] at hpl
      refine WC.seq ?_
      refine WC.mix [0, 0, 0, 0, 1, 0, 0, 0, 1, 1, 2, 2] (by kernel_rfl) (by kernel_rfl) (fun w h => h.draw) ?_
      refine WM.r rfl rfl rfl (rd_move rfl rfl) ?_
      refine WM.r rfl rfl rfl (rd_move rfl rfl) ?_
      refine WM.r rfl rfl rfl (rd_slt rfl rfl rfl Try.underlying22 (by kernel_rfl : _ = some 1) ?_ (by (try simp only [Int.toNat_natCast, Nat.mul_one, Nat.zero_add, Nat.add_zero, Nat.zero_mul, Int.reduceToNat, Nat.reduceAdd, Nat.reduceMul, Nat.reduceSub, Nat.sub_zero]); rfl)) ?_
      · omega
      refine WM.r rfl rfl rfl (rd_move rfl rfl) ?_
      refine WM.g rfl rfl rfl (og_call rfl rfl (by kernel_rfl) (keep_own (γ := GS) (val := fun g => g.val (path (l.take (half l.length)) i).length) (p := fun g => g.cap = (path (l.take (half l.length)) i).length + g.sp.length) (x := fun g => g.ent (path (l.take (half l.length)) i)) (ok' := fun _ => True) fun w hS => ih (l.take (half l.length)) i (by simp; omega) (by simp; omega) (by simp; omega) (fun s h => hs s (List.mem_of_mem_take h)) (by simp; omega) _ _ _ (by simp; omega) (by omega) _ w (strs_take l _ ▸ sl_take _ (hS.fact _ (by simp))))) (fun _ _ h => by first | exact h | exact ⟨_, h⟩ | exact ⟨_, h.2⟩ | exact h.2 | exact h.sub (by repeat (first | exact List.Sublist.refl _ | apply List.Sublist.cons)) (fun _ h => by simp [*]) | exact h.2.sub (by repeat (first | exact List.Sublist.refl _ | apply List.Sublist.cons)) (fun _ h => by simp [*])) ?_
      rintro ⟨ob, cp, sp⟩; refine WM.pu ?_; intro hg; simp only [GS.ent, GS.val]; dsimp only at hg
      refine WM.r rfl rfl rfl (rd_move rfl rfl) ?_
      refine WM.r rfl rfl rfl (rd_move rfl rfl) ?_
      refine WM.r rfl rfl rfl (rd_slfn rfl rfl rfl Try.underlying22 (by kernel_rfl : _ = some 1) ?_ (by (try simp only [Int.toNat_natCast, Nat.mul_one, Nat.zero_add, Nat.add_zero, Nat.zero_mul, Int.reduceToNat, Nat.reduceAdd, Nat.reduceMul, Nat.reduceSub, Nat.sub_zero]); rfl) (by (try simp only [Int.toNat_natCast, Nat.mul_one, Nat.zero_add, Nat.add_zero, Nat.zero_mul, Int.reduceToNat, Nat.reduceAdd, Nat.reduceMul, Nat.reduceSub, Nat.sub_zero]); rfl) (by (try simp only [Int.toNat_natCast, Nat.mul_one, Nat.zero_add, Nat.add_zero, Nat.zero_mul, Int.reduceToNat, Nat.reduceAdd, Nat.reduceMul, Nat.reduceSub, Nat.sub_zero]); rfl)) ?_
      · omega
      refine WM.g rfl rfl rfl (og_call rfl rfl (by kernel_rfl) (keep_val fun w hS => rroot_ok (l.drop (half l.length)) (by simp; omega) (fun s h => hs s (List.mem_of_mem_drop h)) _ _ _ (by simp) (by omega) _ w (strs_drop l _ ▸ sl_drop _ (hS.fact _ (by simp))))) (fun _ _ h => by first | exact h | exact ⟨_, h⟩ | exact ⟨_, h.2⟩ | exact h.2 | exact h.sub (by repeat (first | exact List.Sublist.refl _ | apply List.Sublist.cons)) (fun _ h => by simp [*]) | exact h.2.sub (by repeat (first | exact List.Sublist.refl _ | apply List.Sublist.cons)) (fun _ h => by simp [*])) ?_
      intro _
      refine WM.g rfl rfl rfl (og_bs1 rfl rfl Try.underlying22 (by kernel_rfl : _ = some (some (.string (S [])), 1, 16)) rfl (by simp only [List.map]; rfl) rfl rfl ?_ (by decide)) (fun _ _ h => by first | exact h | exact ⟨_, h⟩ | exact ⟨_, h.2⟩ | exact h.2 | exact h.sub (by repeat (first | exact List.Sublist.refl _ | apply List.Sublist.cons)) (fun _ h => by simp [*]) | exact h.2.sub (by repeat (first | exact List.Sublist.refl _ | apply List.Sublist.cons)) (fun _ h => by simp [*])) ?_
      · simp [Value.cells]
      intro b25
      refine WM.h rfl rfl rfl (app rfl Try.underlying22 (by kernel_rfl : _ = some (some (.string (S [])), 1, 16)) rfl (by first | exact .here | exact .t1 | exact .t2 | exact .t3 | exact .t4 | exact .t5 | exact .t6 | exact .t7) (by rfl) (by rfl) (by first | exact .here | exact .t1 | exact .t2 | exact .t3 | exact .t4 | exact .t5 | exact .t6 | exact .t7) (by rfl) ?_ ?_) ?_
      · refine ⟨?_, ?_, ?_, ?_, ?_⟩ <;> (try simp [strs_len]) <;> omega
      · simp [Value.oneCell']
      intro g26
      refine WM.pu ?_
      intro hg26
      refine WM.hr rfl rfl rfl (rd_assign rfl rfl) ?_
      refine WM.nil ?_
      refine WX.then_normal ?_
      refine WC.ret ?_
      refine WX.then_ret ?_
      exact WX.ret1 rfl rfl fun w' hS => ⟨⟨some g26.b, g26.cap, g26.spare⟩, by rw [hp, List.length_append]; rfl, by rw [hp, List.length_append]; exact hg26.2, by rw [hp]; exact (strs_snoc _ _ ▸ hS).sub (by repeat (first | exact List.Sublist.refl _ | apply List.Sublist.cons)) (fun _ h => by simp at h)⟩
    · (try simp only [decide_eq_true_eq, decide_eq_false_iff_not, Bool.not_eq_true', Bool.not_eq_false', Bool.not_not, Int.not_lt, Int.not_le] at hc15)
      have hp := path_ge l i (by omega) hl (by omega)
      have hpl := path_len (l.drop (half l.length)) (i - half l.length) (by simp; omega)
      rw [List.length_drop] at hpl
      refine WC.skip ?_
      refine WX.then_normal ?_
      refine WC.seq ?_
      refine WC.mix [0, 0, 0, 0, 0, 0, 1, 0, 0, 0, 1, 1, 2, 2] (by kernel_rfl) (by kernel_rfl) (fun w h => h.draw) ?_
      refine WM.r rfl rfl rfl (rd_move rfl rfl) ?_
      refine WM.r rfl rfl rfl (rd_move rfl rfl) ?_
      refine WM.r rfl rfl rfl (rd_slfn rfl rfl rfl Try.underlying22 (by kernel_rfl : _ = some 1) ?_ (by (try simp only [Int.toNat_natCast, Nat.mul_one, Nat.zero_add, Nat.add_zero, Nat.zero_mul, Int.reduceToNat, Nat.reduceAdd, Nat.reduceMul, Nat.reduceSub, Nat.sub_zero]); rfl) (by (try simp only [Int.toNat_natCast, Nat.mul_one, Nat.zero_add, Nat.add_zero, Nat.zero_mul, Int.reduceToNat, Nat.reduceAdd, Nat.reduceMul, Nat.reduceSub, Nat.sub_zero]); rfl) (by (try simp only [Int.toNat_natCast, Nat.mul_one, Nat.zero_add, Nat.add_zero, Nat.zero_mul, Int.reduceToNat, Nat.reduceAdd, Nat.reduceMul, Nat.reduceSub, Nat.sub_zero]); rfl)) ?_
      · omega
      refine WM.r rfl rfl rfl (rd_move rfl rfl) ?_
      refine WM.r rfl rfl rfl (rd_move rfl rfl) ?_
      first
        | (refine WM.r rfl rfl rfl (rd_sub64n rfl rfl rfl ?_) ?_; focus (omega))
        | (refine WM.r rfl rfl rfl (rd_sub64 rfl rfl rfl ?_) ?_; focus (omega))
      refine WM.g rfl rfl rfl (og_call rfl rfl (by kernel_rfl) (keep_own (γ := GS) (val := fun g => g.val (path (l.drop (half l.length)) (i - half l.length)).length) (p := fun g => g.cap = (path (l.drop (half l.length)) (i - half l.length)).length + g.sp.length) (x := fun g => g.ent (path (l.drop (half l.length)) (i - half l.length))) (ok' := fun _ => True) fun w hS => ih (l.drop (half l.length)) (i - half l.length) (by simp; omega) (by simp; omega) (by simp; omega) (fun s h => hs s (List.mem_of_mem_drop h)) (by simp; omega) _ _ _ (by simp) (by omega) _ w (strs_drop l _ ▸ sl_drop _ (hS.fact _ (by simp))))) (fun _ _ h => by first | exact h | exact ⟨_, h⟩ | exact ⟨_, h.2⟩ | exact h.2 | exact h.sub (by repeat (first | exact List.Sublist.refl _ | apply List.Sublist.cons)) (fun _ h => by simp [*]) | exact h.2.sub (by repeat (first | exact List.Sublist.refl _ | apply List.Sublist.cons)) (fun _ h => by simp [*])) ?_
      rintro ⟨ob, cp, sp⟩; refine WM.pu ?_; intro hg; simp only [GS.ent, GS.val]; dsimp only at hg
      refine WM.r rfl rfl rfl (rd_move rfl rfl) ?_
      refine WM.r rfl rfl rfl (rd_move rfl rfl) ?_
      refine WM.r rfl rfl rfl (rd_slt rfl rfl rfl Try.underlying22 (by kernel_rfl : _ = some 1) ?_ (by (try simp only [Int.toNat_natCast, Nat.mul_one, Nat.zero_add, Nat.add_zero, Nat.zero_mul, Int.reduceToNat, Nat.reduceAdd, Nat.reduceMul, Nat.reduceSub, Nat.sub_zero]); rfl)) ?_
      · omega
      refine WM.g rfl rfl rfl (og_call rfl rfl (by kernel_rfl) (keep_val fun w hS => rroot_ok (l.take (half l.length)) (by simp; omega) (fun s h => hs s (List.mem_of_mem_take h)) _ _ _ (by simp; omega) (by omega) _ w (strs_take l _ ▸ sl_take _ (hS.fact _ (by simp))))) (fun _ _ h => by first | exact h | exact ⟨_, h⟩ | exact ⟨_, h.2⟩ | exact h.2 | exact h.sub (by repeat (first | exact List.Sublist.refl _ | apply List.Sublist.cons)) (fun _ h => by simp [*]) | exact h.2.sub (by repeat (first | exact List.Sublist.refl _ | apply List.Sublist.cons)) (fun _ h => by simp [*])) ?_
      intro _
      refine WM.g rfl rfl rfl (og_bs1 rfl rfl Try.underlying22 (by kernel_rfl : _ = some (some (.string (S [])), 1, 16)) rfl (by simp only [List.map]; rfl) rfl rfl ?_ (by decide)) (fun _ _ h => by first | exact h | exact ⟨_, h⟩ | exact ⟨_, h.2⟩ | exact h.2 | exact h.sub (by repeat (first | exact List.Sublist.refl _ | apply List.Sublist.cons)) (fun _ h => by simp [*]) | exact h.2.sub (by repeat (first | exact List.Sublist.refl _ | apply List.Sublist.cons)) (fun _ h => by simp [*])) ?_
      · simp [Value.cells]
      intro b38
      refine WM.h rfl rfl rfl (app rfl Try.underlying22 (by kernel_rfl : _ = some (some (.string (S [])), 1, 16)) rfl (by first | exact .here | exact .t1 | exact .t2 | exact .t3 | exact .t4 | exact .t5 | exact .t6 | exact .t7) (by rfl) (by rfl) (by first | exact .here | exact .t1 | exact .t2 | exact .t3 | exact .t4 | exact .t5 | exact .t6 | exact .t7) (by rfl) ?_ ?_) ?_
      · refine ⟨?_, ?_, ?_, ?_, ?_⟩ <;> (try simp [strs_len]) <;> omega
      · simp [Value.oneCell']
      intro g39
      refine WM.pu ?_
      intro hg39
      refine WM.hr rfl rfl rfl (rd_assign rfl rfl) ?_
      refine WM.nil ?_
      refine WX.then_normal ?_
      refine WC.ret ?_
      exact WX.ret1 rfl rfl fun w' hS => ⟨⟨some g39.b, g39.cap, g39.spare⟩, by rw [hp, List.length_append]; rfl, by rw [hp, List.length_append]; exact hg39.2, by rw [hp]; exact (strs_snoc _ _ ▸ hS).sub (by repeat (first | exact List.Sublist.refl _ | apply List.Sublist.cons)) (fun _ h => by simp at h)⟩

theorem rpath_ok (l : List Bs) (i : Nat) : PathOk l i := by
  have key : ∀ n (l : List Bs) i, l.length = n → PathOk l i := by
    intro n
    induction n using Nat.strongRecOn with
    | _ n ih => intro l i hl; exact rpath_step l i fun l' i' h => ih l'.length (by omega) l' i' rfl
  exact key _ l i rfl

def pathR (l : List Bs) (i : Int) : List Bs × Int := if i < 0 ∨ (l.length : Int) ≤ i then ([], 2) else (path l i.toNat, 0)

theorem rPath_ok (l : List Bs) (i : Int) (hl : l.length ≤ 1000000) (hs : ∀ s ∈ l, s.length ≤ 900000) (a : Option Addr) (m cap : Nat) (hm : m = l.length) (hcap : m ≤ cap) (ok : Nat → Prop) (w : World) (hF : (Fact.sl a (strs l)).holds ok w) :
    Calls Try.prog 15 #[.slice a m cap, .int .i64 i] w fun e w' => ∃ g : GS, e = .returned (.tuple #[g.val (pathR l i).1.length, .int .i64 (pathR l i).2]) ∧ g.cap = (pathR l i).1.length + g.sp.length ∧ St (fun _ => True) w [g.ent (pathR l i).1] [] w' := by
  subst hm
  refine enter (S := St (fun _ => True) w [] [Fact.sl a (strs l)]) (L := [(0, .slice a l.length cap), (1, .int .i64 i)]) Try.func15 rfl Try.ntmps15 rfl (args_cons rfl (args_cons rfl (args_nil _))) (St.start (fun _ _ => trivial) (by simpa using sl_any hF)) ?_
  refine WC.seq ?_
  refine WC.region ?_
  refine WL.r rfl rfl rfl (rd_assign rfl rfl) ?_
  refine WL.r rfl rfl rfl (rd_assign rfl rfl) ?_
  refine WL.nil ?_
  refine WX.then_normal ?_
  refine WC.seq ?_
  refine WC.seq ?_
  refine WC.region ?_
  refine WL.r rfl rfl rfl (rd_move rfl rfl) ?_
  refine WL.r rfl rfl rfl (rd_lss rfl rfl rfl) ?_
  refine WL.r rfl rfl rfl (rd_move rfl rfl) ?_
  refine WL.bool 8 rfl (fun hg8 => ?_) (fun hg8 => ?_)
  · (try simp only [decide_eq_true_eq, decide_eq_false_iff_not, Bool.not_eq_true', Bool.not_eq_false', Bool.not_not, Int.not_lt, Int.not_le] at hg8)
    refine WL.s rfl rfl rfl ?_
    refine WL.s rfl rfl rfl ?_
    refine WL.s rfl rfl rfl ?_
    refine WL.s rfl rfl rfl ?_
    refine WL.r rfl rfl rfl (rd_pickt rfl rfl rfl) ?_
    refine WL.nil ?_
    refine WX.then_normal ?_
    refine WC.cond rfl (fun _ => ?_) (fun h => by cases h)
    refine WC.seq ?_
    refine WC.region ?_
    refine WL.r rfl rfl rfl (rd_assign rfl rfl) ?_
    refine WL.r rfl rfl rfl (rd_assign rfl rfl) ?_
    refine WL.nil ?_
    refine WX.then_normal ?_
    refine WC.ret ?_
    refine WX.then_ret ?_
    have hp : pathR l i = ([], 2) := if_pos (by omega)
    exact WX.ret2 rfl rfl rfl fun w' hS => ⟨⟨none, 0, []⟩, by rw [hp]; rfl, by rw [hp]; rfl, by rw [hp]; exact (hS.nil _).sub (List.Sublist.refl _) (fun _ h => by simp at h)⟩
  · (try simp only [decide_eq_true_eq, decide_eq_false_iff_not, Bool.not_eq_true', Bool.not_eq_false', Bool.not_not, Int.not_lt, Int.not_le] at hg8)
    refine WL.r rfl rfl rfl (rd_move rfl rfl) ?_
    refine WL.r rfl rfl rfl (rd_move rfl rfl) ?_
    refine WL.r rfl rfl rfl (rd_len rfl rfl Try.underlying22) ?_
    refine WL.r rfl rfl rfl (rd_geq rfl rfl rfl) ?_
    refine WL.r rfl rfl rfl (rd_pickf rfl rfl rfl) ?_
    refine WL.nil ?_
    refine WX.then_normal ?_
    refine WC.cond rfl (fun hc13 => ?_) (fun hc13 => ?_)
    · (try simp only [decide_eq_true_eq, decide_eq_false_iff_not, Bool.not_eq_true', Bool.not_eq_false', Bool.not_not, Int.not_lt, Int.not_le] at hc13)
      refine WC.seq ?_
      refine WC.region ?_
      refine WL.r rfl rfl rfl (rd_assign rfl rfl) ?_
      refine WL.r rfl rfl rfl (rd_assign rfl rfl) ?_
      refine WL.nil ?_
      refine WX.then_normal ?_
      refine WC.ret ?_
      refine WX.then_ret ?_
      have hp : pathR l i = ([], 2) := if_pos (by omega)
      exact WX.ret2 rfl rfl rfl fun w' hS => ⟨⟨none, 0, []⟩, by rw [hp]; rfl, by rw [hp]; rfl, by rw [hp]; exact (hS.nil _).sub (List.Sublist.refl _) (fun _ h => by simp at h)⟩
    · (try simp only [decide_eq_true_eq, decide_eq_false_iff_not, Bool.not_eq_true', Bool.not_eq_false', Bool.not_not, Int.not_lt, Int.not_le] at hc13)
      obtain ⟨j, rfl⟩ : ∃ j : Nat, i = j := ⟨i.toNat, by omega⟩
      have hp : pathR l (j : Int) = (path l j, 0) := by rw [pathR, if_neg (by omega), Int.toNat_natCast]
      refine WC.skip ?_
      refine WX.then_normal ?_
      refine WC.seq ?_
      refine WC.region ?_
      refine WL.r rfl rfl rfl (rd_move rfl rfl) ?_
      refine WL.r rfl rfl rfl (rd_move rfl rfl) ?_
      refine WL.g rfl rfl rfl (og_call rfl rfl (by kernel_rfl) (keep_own (γ := GS) (val := fun g => g.val (path l j).length) (p := fun g => g.cap = (path l j).length + g.sp.length) (x := fun g => g.ent (path l j)) (ok' := fun _ => True) fun w hS => rpath_ok l j (by omega) hl hs (by omega) _ _ _ rfl hcap _ w (hS.fact _ (by simp)))) ?_
      intro g; refine WL.pu ?_; intro hg
      refine WL.r rfl rfl rfl (rd_assign rfl rfl) ?_
      refine WL.r rfl rfl rfl (rd_assign rfl rfl) ?_
      refine WL.nil ?_
      refine WX.then_normal ?_
      refine WC.ret ?_
      exact WX.ret2 rfl rfl rfl fun w' hS => ⟨g, by rw [hp], by rw [hp]; exact hg, by rw [hp]; exact hS.sub (List.Sublist.refl _) (fun _ h => by simp at h)⟩

/-- what the closure of Path owns: the path's variable, its cells, the closure's variable -/
def VS (bp bv : Nat) (acc : List Bs) (g : GS) : List Ent :=
  [⟨some bp, [.slice (g.ob.map fun b => ⟨b, 0, none⟩) acc.length g.cap], 22⟩, ⟨g.ob, strs acc ++ g.sp, 9⟩, ⟨some bv, [.func (.func 31) #[] #[.pointer (some ⟨bv, 0, none⟩), .pointer (some ⟨bp, 0, none⟩)]], 45⟩]

def VisitOk (l : List Bs) (i : Nat) : Prop :=
  0 < l.length → l.length ≤ 1000000 → (∀ s ∈ l, s.length ≤ 900000) → i < l.length → ∀ (a : Option Addr) (m cap : Nat), m = l.length → m ≤ cap → ∀ (ok : Nat → Prop) (w0 : World) (bp bv : Nat) (acc : List Bs) (g : GS) (fs : List Fact) (w : World),
    acc.length ≤ 1000000 → g.cap = acc.length + g.sp.length → St ok w0 (VS bp bv acc g) (Fact.sl a (strs l) :: fs) w →
    Calls Try.prog 31 #[.slice a m cap, .int .i64 (i : Int), .pointer (some ⟨bv, 0, none⟩), .pointer (some ⟨bp, 0, none⟩)] w fun e w' =>
      ∃ g' : GS, e = .returned (.tuple #[]) ∧ g'.cap = (acc ++ path l i).length + g'.sp.length ∧ St ok w0 (VS bp bv (acc ++ path l i) g') (Fact.sl a (strs l) :: fs) w'

theorem visit_use {l : List Bs} {i : Nat} (h : VisitOk l i) (h0 : 0 < l.length) (hl : l.length ≤ 1000000) (hs : ∀ s ∈ l, s.length ≤ 900000) (hi : i < l.length) {a : Option Addr} {m cap : Nat} (hm : m = l.length) (hcap : m ≤ cap) {ok : Nat → Prop} {w0 : World} (bp bv : Nat) (acc : List Bs) (g : GS) {fs : List Fact}
    (hacc : acc.length ≤ 1000000) (hg : g.cap = acc.length + g.sp.length) (hsub : ∀ w, St ok w0 (VS bp bv acc g) fs w → (Fact.sl a (strs l)).holds (fun b => ok b ∧ b ∉ ids (VS bp bv acc g)) w) :
    ∀ w, St ok w0 (VS bp bv acc g) fs w → Calls Try.prog 31 #[.slice a m cap, .int .i64 (i : Int), .pointer (some ⟨bv, 0, none⟩), .pointer (some ⟨bp, 0, none⟩)] w fun e w' =>
      ∃ g' : GS, e = .returned (.tuple #[]) ∧ g'.cap = (acc ++ path l i).length + g'.sp.length ∧ St ok w0 (VS bp bv (acc ++ path l i) g') fs w' :=
  fun w hS => (h h0 hl hs hi a m cap hm hcap ok w0 bp bv acc g fs w hacc hg (hS.addF (hsub w hS))).mono fun _ _ ⟨g', h1, h2, h3⟩ => ⟨g', h1, h2, h3.dropF⟩

theorem visit_step (l : List Bs) (i : Nat) (ih : ∀ (l' : List Bs) i', l'.length < l.length → VisitOk l' i') : VisitOk l i := by
  rintro hl0 hl hs hi a m cap hm hcap ok w0 bp bv acc ⟨ob, cp, sp⟩ fs w hacc hg hS0
  subst hm
  obtain ⟨b, off, rfl⟩ := sl_addr (hS0.fact (Fact.sl a (strs l)) (by simp)) (by rw [strs_len]; omega)
  dsimp only [VS] at hg hS0
  refine enter (S := St ok w0 _ (Fact.sl (some ⟨b, off, none⟩) (strs l) :: fs)) (L := [(0, .slice (some ⟨b, off, none⟩) l.length cap), (1, .int .i64 (i : Int)), (2, .pointer (some ⟨bv, 0, none⟩)), (3, .pointer (some ⟨bp, 0, none⟩))]) Try.func31 rfl Try.ntmps31 rfl (args_cons rfl (args_cons rfl (args_cons rfl (args_cons rfl (args_nil _))))) hS0 ?_
  refine WC.seq ?_
  refine WC.seq ?_
  refine WC.region ?_
  refine WL.r rfl rfl rfl (rd_move rfl rfl) ?_
  refine WL.r rfl rfl rfl (rd_len rfl rfl Try.underlying22) ?_
  refine WL.r rfl rfl rfl (rd_eql rfl rfl rfl) ?_
  refine WL.nil ?_
  refine WX.then_normal ?_
  refine WC.cond rfl (fun hc9 => ?_) (fun hc9 => ?_)
  · (try simp only [decide_eq_true_eq, decide_eq_false_iff_not, Bool.not_eq_true', Bool.not_eq_false', Bool.not_not, Int.not_lt, Int.not_le] at hc9)
    have hp := path_one l i (by omega)
    refine WC.ret ?_
    refine WX.then_ret ?_
    exact WX.ret0 rfl fun w' hS => ⟨⟨ob, cp, sp⟩, rfl, by rw [hp, List.append_nil]; exact hg, by rw [hp, List.append_nil]; exact hS⟩
  · (try simp only [decide_eq_true_eq, decide_eq_false_iff_not, Bool.not_eq_true', Bool.not_eq_false', Bool.not_not, Int.not_lt, Int.not_le] at hc9)
    have hh := half_spec l.length (by omega) (by omega)
    refine WC.skip ?_
    refine WX.then_normal ?_
    refine WC.seq ?_
    refine WC.region ?_
    refine WL.r rfl rfl rfl (rd_move rfl rfl) ?_
    refine WL.r rfl rfl rfl (rd_len rfl rfl Try.underlying22) ?_
    refine WL.g rfl rfl rfl (og_call rfl rfl (by kernel_rfl) (keep_val fun w _ => half_ok l.length (by omega) (by omega) w)) ?_
    intro _
    refine WL.r rfl rfl rfl (rd_assign rfl rfl) ?_
    refine WL.nil ?_
    refine WX.then_normal ?_
    refine WC.seq ?_
    refine WC.seq ?_
    refine WC.region ?_
    refine WL.r rfl rfl rfl (rd_move rfl rfl) ?_
    refine WL.r rfl rfl rfl (rd_move rfl rfl) ?_
    refine WL.r rfl rfl rfl (rd_lss rfl rfl rfl) ?_
    refine WL.nil ?_
    refine WX.then_normal ?_
    refine WC.cond rfl (fun hc15 => ?_) (fun hc15 => ?_)
    · (try simp only [decide_eq_true_eq, decide_eq_false_iff_not, Bool.not_eq_true', Bool.not_eq_false', Bool.not_not, Int.not_lt, Int.not_le] at hc15)
      have hp := path_lt l i (by omega) hl (by omega)
      have hpl := path_len (l.take (half l.length)) i (by simp; omega)
      rw [List.length_take] at hpl
      refine WC.seq ?_
      refine WC.mix [0, 0, 0, 0, 0, 2] (by kernel_rfl) (by kernel_rfl) (fun w h => h.draw) ?_
      refine WM.r rfl rfl rfl (ld rfl rfl (by first | exact .here | exact .t1 | exact .t2 | exact .t3 | exact .t4 | exact .t5 | exact .t6 | exact .t7) Try.underlying45 rfl (by rfl)) ?_
      refine WM.r rfl rfl rfl (rd_move rfl rfl) ?_
      refine WM.r rfl rfl rfl (rd_move rfl rfl) ?_
      refine WM.r rfl rfl rfl (rd_slt rfl rfl rfl Try.underlying22 (by kernel_rfl : _ = some 1) ?_ (by (try simp only [Int.toNat_natCast, Nat.mul_one, Nat.zero_add, Nat.add_zero, Nat.zero_mul, Int.reduceToNat, Nat.reduceAdd, Nat.reduceMul, Nat.reduceSub, Nat.sub_zero]); rfl)) ?_
      · omega
      refine WM.r rfl rfl rfl (rd_move rfl rfl) ?_
      refine WM.h rfl rfl rfl (og_callv rfl rfl rfl (by kernel_rfl) rfl (visit_use (ih (l.take (half l.length)) i (by simp; omega)) (by simp; omega) (by simp; omega) (fun s h => hs s (List.mem_of_mem_take h)) (by simp; omega) (by simp; omega) (by omega) bp bv acc ⟨ob, cp, sp⟩ hacc hg (fun w hS => strs_take l _ ▸ sl_take _ (hS.fact _ (by simp))))) ?_
      rintro ⟨ob', cp', sp'⟩; dsimp only [VS]; refine WM.pu ?_; intro hg'
      refine WM.nil ?_
      refine WX.then_normal ?_
      refine WC.seq ?_
      refine WC.mix [0, 0, 0, 0, 1, 1, 2, 2] (by kernel_rfl) (by kernel_rfl) (fun w h => h.draw) ?_
      refine WM.r rfl rfl rfl (ld rfl rfl (by first | exact .here | exact .t1 | exact .t2 | exact .t3 | exact .t4 | exact .t5 | exact .t6 | exact .t7) Try.underlying22 rfl (by rfl)) ?_
      refine WM.r rfl rfl rfl (rd_move rfl rfl) ?_
      refine WM.r rfl rfl rfl (rd_move rfl rfl) ?_
      refine WM.r rfl rfl rfl (rd_slfn rfl rfl rfl Try.underlying22 (by kernel_rfl : _ = some 1) ?_ (by (try simp only [Int.toNat_natCast, Nat.mul_one, Nat.zero_add, Nat.add_zero, Nat.zero_mul, Int.reduceToNat, Nat.reduceAdd, Nat.reduceMul, Nat.reduceSub, Nat.sub_zero]); rfl) (by (try simp only [Int.toNat_natCast, Nat.mul_one, Nat.zero_add, Nat.add_zero, Nat.zero_mul, Int.reduceToNat, Nat.reduceAdd, Nat.reduceMul, Nat.reduceSub, Nat.sub_zero]); rfl) (by (try simp only [Int.toNat_natCast, Nat.mul_one, Nat.zero_add, Nat.add_zero, Nat.zero_mul, Int.reduceToNat, Nat.reduceAdd, Nat.reduceMul, Nat.reduceSub, Nat.sub_zero]); rfl)) ?_
      · omega
      refine WM.g rfl rfl rfl (og_call rfl rfl (by kernel_rfl) (keep_val fun w hS => root_ok (l.drop (half l.length)) (by simp; omega) (fun s h => hs s (List.mem_of_mem_drop h)) _ _ _ (by simp) (by omega) _ w (strs_drop l _ ▸ sl_drop _ (hS.fact _ (by simp))))) (fun _ _ h => by first | exact h | exact ⟨_, h⟩ | exact ⟨_, h.2⟩ | exact h.2 | exact h.sub (by repeat (first | exact List.Sublist.refl _ | apply List.Sublist.cons)) (fun _ h => by simp [*]) | exact h.2.sub (by repeat (first | exact List.Sublist.refl _ | apply List.Sublist.cons)) (fun _ h => by simp [*])) ?_
      intro _
      refine WM.g rfl rfl rfl (og_bs1 rfl rfl Try.underlying22 (by kernel_rfl : _ = some (some (.string (S [])), 1, 16)) rfl (by simp only [List.map]; rfl) rfl rfl ?_ (by decide)) (fun _ _ h => by first | exact h | exact ⟨_, h⟩ | exact ⟨_, h.2⟩ | exact h.2 | exact h.sub (by repeat (first | exact List.Sublist.refl _ | apply List.Sublist.cons)) (fun _ h => by simp [*]) | exact h.2.sub (by repeat (first | exact List.Sublist.refl _ | apply List.Sublist.cons)) (fun _ h => by simp [*])) ?_
      · simp [Value.cells]
      intro b27
      refine WM.h rfl rfl rfl (app rfl Try.underlying22 (by kernel_rfl : _ = some (some (.string (S [])), 1, 16)) rfl (by first | exact .here | exact .t1 | exact .t2 | exact .t3 | exact .t4 | exact .t5 | exact .t6 | exact .t7) (by rfl) (by rfl) (by first | exact .here | exact .t1 | exact .t2 | exact .t3 | exact .t4 | exact .t5 | exact .t6 | exact .t7) (by rfl) ?_ ?_) ?_
      · refine ⟨?_, ?_, ?_, ?_, ?_⟩ <;> (try simp [strs_len]) <;> (try simp at hg') <;> omega
      · simp [Value.oneCell']
      intro g28
      refine WM.pu ?_
      intro hg28
      refine WM.h0 rfl rfl (st rfl rfl rfl (by first | exact .here | exact .t1 | exact .t2 | exact .t3 | exact .t4 | exact .t5 | exact .t6 | exact .t7) (by kernel_rfl) rfl ?_ rfl) ?_
      · first | decide | (simp; done) | (simp; omega)
      intro _
      refine WM.nil ?_
      refine WX.then_normal ?_
      refine WC.ret ?_
      refine WX.then_ret ?_
      exact WX.ret0 rfl fun w' hS => ⟨⟨some g28.b, g28.cap, g28.spare⟩, rfl, by rw [hp, ← List.append_assoc, List.length_append]; exact hg28.2, by dsimp only [VS]; rw [hp, ← List.append_assoc, ← strs_snoc, List.length_append]; exact hS.sub (List.Sublist.cons _ (List.Sublist.refl _)) (fun _ h => h)⟩
    · (try simp only [decide_eq_true_eq, decide_eq_false_iff_not, Bool.not_eq_true', Bool.not_eq_false', Bool.not_not, Int.not_lt, Int.not_le] at hc15)
      have hp := path_ge l i (by omega) hl (by omega)
      have hpl := path_len (l.drop (half l.length)) (i - half l.length) (by simp; omega)
      rw [List.length_drop] at hpl
      refine WC.skip ?_
      refine WX.then_normal ?_
      refine WC.seq ?_
      refine WC.mix [0, 0, 0, 0, 0, 0, 0, 2] (by kernel_rfl) (by kernel_rfl) (fun w h => h.draw) ?_
      refine WM.r rfl rfl rfl (ld rfl rfl (by first | exact .here | exact .t1 | exact .t2 | exact .t3 | exact .t4 | exact .t5 | exact .t6 | exact .t7) Try.underlying45 rfl (by rfl)) ?_
      refine WM.r rfl rfl rfl (rd_move rfl rfl) ?_
      refine WM.r rfl rfl rfl (rd_move rfl rfl) ?_
      refine WM.r rfl rfl rfl (rd_slfn rfl rfl rfl Try.underlying22 (by kernel_rfl : _ = some 1) ?_ (by (try simp only [Int.toNat_natCast, Nat.mul_one, Nat.zero_add, Nat.add_zero, Nat.zero_mul, Int.reduceToNat, Nat.reduceAdd, Nat.reduceMul, Nat.reduceSub, Nat.sub_zero]); rfl) (by (try simp only [Int.toNat_natCast, Nat.mul_one, Nat.zero_add, Nat.add_zero, Nat.zero_mul, Int.reduceToNat, Nat.reduceAdd, Nat.reduceMul, Nat.reduceSub, Nat.sub_zero]); rfl) (by (try simp only [Int.toNat_natCast, Nat.mul_one, Nat.zero_add, Nat.add_zero, Nat.zero_mul, Int.reduceToNat, Nat.reduceAdd, Nat.reduceMul, Nat.reduceSub, Nat.sub_zero]); rfl)) ?_
      · omega
      refine WM.r rfl rfl rfl (rd_move rfl rfl) ?_
      refine WM.r rfl rfl rfl (rd_move rfl rfl) ?_
      first
        | (refine WM.r rfl rfl rfl (rd_sub64n rfl rfl rfl ?_) ?_; focus (omega))
        | (refine WM.r rfl rfl rfl (rd_sub64 rfl rfl rfl ?_) ?_; focus (omega))
      refine WM.h rfl rfl rfl (og_callv rfl rfl rfl (by kernel_rfl) rfl (visit_use (ih (l.drop (half l.length)) (i - half l.length) (by simp; omega)) (by simp; omega) (by simp; omega) (fun s h => hs s (List.mem_of_mem_drop h)) (by simp; omega) (by simp) (by omega) bp bv acc ⟨ob, cp, sp⟩ hacc hg (fun w hS => strs_drop l _ ▸ sl_drop _ (hS.fact _ (by simp))))) ?_
      rintro ⟨ob', cp', sp'⟩; dsimp only [VS]; refine WM.pu ?_; intro hg'
      refine WM.nil ?_
      refine WX.then_normal ?_
      refine WC.mix [0, 0, 0, 0, 1, 1, 2, 2] (by kernel_rfl) (by kernel_rfl) (fun w h => h.draw) ?_
      refine WM.r rfl rfl rfl (ld rfl rfl (by first | exact .here | exact .t1 | exact .t2 | exact .t3 | exact .t4 | exact .t5 | exact .t6 | exact .t7) Try.underlying22 rfl (by rfl)) ?_
      refine WM.r rfl rfl rfl (rd_move rfl rfl) ?_
      refine WM.r rfl rfl rfl (rd_move rfl rfl) ?_
      refine WM.r rfl rfl rfl (rd_slt rfl rfl rfl Try.underlying22 (by kernel_rfl : _ = some 1) ?_ (by (try simp only [Int.toNat_natCast, Nat.mul_one, Nat.zero_add, Nat.add_zero, Nat.zero_mul, Int.reduceToNat, Nat.reduceAdd, Nat.reduceMul, Nat.reduceSub, Nat.sub_zero]); rfl)) ?_
      · omega
      refine WM.g rfl rfl rfl (og_call rfl rfl (by kernel_rfl) (keep_val fun w hS => root_ok (l.take (half l.length)) (by simp; omega) (fun s h => hs s (List.mem_of_mem_take h)) _ _ _ (by simp; omega) (by omega) _ w (strs_take l _ ▸ sl_take _ (hS.fact _ (by simp))))) (fun _ _ h => by first | exact h | exact ⟨_, h⟩ | exact ⟨_, h.2⟩ | exact h.2 | exact h.sub (by repeat (first | exact List.Sublist.refl _ | apply List.Sublist.cons)) (fun _ h => by simp [*]) | exact h.2.sub (by repeat (first | exact List.Sublist.refl _ | apply List.Sublist.cons)) (fun _ h => by simp [*])) ?_
      intro _
      refine WM.g rfl rfl rfl (og_bs1 rfl rfl Try.underlying22 (by kernel_rfl : _ = some (some (.string (S [])), 1, 16)) rfl (by simp only [List.map]; rfl) rfl rfl ?_ (by decide)) (fun _ _ h => by first | exact h | exact ⟨_, h⟩ | exact ⟨_, h.2⟩ | exact h.2 | exact h.sub (by repeat (first | exact List.Sublist.refl _ | apply List.Sublist.cons)) (fun _ h => by simp [*]) | exact h.2.sub (by repeat (first | exact List.Sublist.refl _ | apply List.Sublist.cons)) (fun _ h => by simp [*])) ?_
      · simp [Value.cells]
      intro b42
      refine WM.h rfl rfl rfl (app rfl Try.underlying22 (by kernel_rfl : _ = some (some (.string (S [])), 1, 16)) rfl (by first | exact .here | exact .t1 | exact .t2 | exact .t3 | exact .t4 | exact .t5 | exact .t6 | exact .t7) (by rfl) (by rfl) (by first | exact .here | exact .t1 | exact .t2 | exact .t3 | exact .t4 | exact .t5 | exact .t6 | exact .t7) (by rfl) ?_ ?_) ?_
      · refine ⟨?_, ?_, ?_, ?_, ?_⟩ <;> (try simp [strs_len]) <;> (try simp at hg') <;> omega
      · simp [Value.oneCell']
      intro g43
      refine WM.pu ?_
      intro hg43
      refine WM.h0 rfl rfl (st rfl rfl rfl (by first | exact .here | exact .t1 | exact .t2 | exact .t3 | exact .t4 | exact .t5 | exact .t6 | exact .t7) (by kernel_rfl) rfl ?_ rfl) ?_
      · first | decide | (simp; done) | (simp; omega)
      intro _
      refine WM.nil ?_
      refine WX.ret_normal ?_
      exact WX.ret0 rfl fun w' hS => ⟨⟨some g43.b, g43.cap, g43.spare⟩, rfl, by rw [hp, ← List.append_assoc, List.length_append]; exact hg43.2, by dsimp only [VS]; rw [hp, ← List.append_assoc, ← strs_snoc, List.length_append]; exact hS.sub (List.Sublist.cons _ (List.Sublist.refl _)) (fun _ h => h)⟩
theorem visit_ok (l : List Bs) (i : Nat) : VisitOk l i := by
  have key : ∀ n (l : List Bs) i, l.length = n → VisitOk l i := by
    intro n
    induction n using Nat.strongRecOn with
    | _ n ih => intro l i hl; exact visit_step l i fun l' i' h => ih l'.length (by omega) l' i' rfl
  exact key _ l i rfl

theorem Path_ok (l : List Bs) (i : Int) (hl : l.length ≤ 1000000) (hs : ∀ s ∈ l, s.length ≤ 900000) (a : Option Addr) (m cap : Nat) (hm : m = l.length) (hcap : m ≤ cap) (ok : Nat → Prop) (w : World) (hF : (Fact.sl a (strs l)).holds ok w) :
    Calls Try.prog 14 #[.slice a m cap, .int .i64 i] w fun e w' => ∃ g : GS, e = .returned (.tuple #[g.val (pathR l i).1.length, .int .i64 (pathR l i).2]) ∧ g.cap = (pathR l i).1.length + g.sp.length ∧ St (fun _ => True) w [g.ent (pathR l i).1] [] w' := by
  subst hm
  refine enter (S := St (fun _ => True) w [] [Fact.sl a (strs l)]) (L := [(0, .slice a l.length cap), (1, .int .i64 i)]) Try.func14 rfl Try.ntmps14 rfl (args_cons rfl (args_cons rfl (args_nil _))) (St.start (fun _ _ => trivial) (by simpa using sl_any hF)) ?_
  refine WC.seq ?_
  refine WC.region ?_
  refine WL.r rfl rfl rfl (rd_assign rfl rfl) ?_
  refine WL.r rfl rfl rfl (rd_assign rfl rfl) ?_
  refine WL.nil ?_
  refine WX.then_normal ?_
  refine WC.seq ?_
  refine WC.seq ?_
  refine WC.region ?_
  refine WL.r rfl rfl rfl (rd_move rfl rfl) ?_
  refine WL.r rfl rfl rfl (rd_lss rfl rfl rfl) ?_
  refine WL.r rfl rfl rfl (rd_move rfl rfl) ?_
  refine WL.bool 10 rfl (fun hg10 => ?_) (fun hg10 => ?_)
  · (try simp only [decide_eq_true_eq, decide_eq_false_iff_not, Bool.not_eq_true', Bool.not_eq_false', Bool.not_not, Int.not_lt, Int.not_le] at hg10)
    refine WL.s rfl rfl rfl ?_
    refine WL.s rfl rfl rfl ?_
    refine WL.s rfl rfl rfl ?_
    refine WL.s rfl rfl rfl ?_
    refine WL.r rfl rfl rfl (rd_pickt rfl rfl rfl) ?_
    refine WL.nil ?_
    refine WX.then_normal ?_
    refine WC.cond rfl (fun _ => ?_) (fun h => by cases h)
    refine WC.seq ?_
    refine WC.region ?_
    refine WL.r rfl rfl rfl (rd_assign rfl rfl) ?_
    refine WL.r rfl rfl rfl (rd_assign rfl rfl) ?_
    refine WL.nil ?_
    refine WX.then_normal ?_
    refine WC.ret ?_
    refine WX.then_ret ?_
    have hp : pathR l i = ([], 2) := if_pos (by omega)
    exact WX.ret2 rfl rfl rfl fun w' hS => ⟨⟨none, 0, []⟩, by rw [hp]; rfl, by rw [hp]; rfl, by rw [hp]; exact (hS.nil _).sub (List.Sublist.refl _) (fun _ h => by simp at h)⟩
  · (try simp only [decide_eq_true_eq, decide_eq_false_iff_not, Bool.not_eq_true', Bool.not_eq_false', Bool.not_not, Int.not_lt, Int.not_le] at hg10)
    refine WL.r rfl rfl rfl (rd_move rfl rfl) ?_
    refine WL.r rfl rfl rfl (rd_move rfl rfl) ?_
    refine WL.r rfl rfl rfl (rd_len rfl rfl Try.underlying22) ?_
    refine WL.r rfl rfl rfl (rd_geq rfl rfl rfl) ?_
    refine WL.r rfl rfl rfl (rd_pickf rfl rfl rfl) ?_
    refine WL.nil ?_
    refine WX.then_normal ?_
    refine WC.cond rfl (fun hc15 => ?_) (fun hc15 => ?_)
    · (try simp only [decide_eq_true_eq, decide_eq_false_iff_not, Bool.not_eq_true', Bool.not_eq_false', Bool.not_not, Int.not_lt, Int.not_le] at hc15)
      refine WC.seq ?_
      refine WC.region ?_
      refine WL.r rfl rfl rfl (rd_assign rfl rfl) ?_
      refine WL.r rfl rfl rfl (rd_assign rfl rfl) ?_
      refine WL.nil ?_
      refine WX.then_normal ?_
      refine WC.ret ?_
      refine WX.then_ret ?_
      have hp : pathR l i = ([], 2) := if_pos (by omega)
      exact WX.ret2 rfl rfl rfl fun w' hS => ⟨⟨none, 0, []⟩, by rw [hp]; rfl, by rw [hp]; rfl, by rw [hp]; exact (hS.nil _).sub (List.Sublist.refl _) (fun _ h => by simp at h)⟩
    · (try simp only [decide_eq_true_eq, decide_eq_false_iff_not, Bool.not_eq_true', Bool.not_eq_false', Bool.not_not, Int.not_lt, Int.not_le] at hc15)
      obtain ⟨j, rfl⟩ : ∃ j : Nat, i = j := ⟨i.toNat, by omega⟩
      have hp : pathR l (j : Int) = (path l j, 0) := by rw [pathR, if_neg (by omega), Int.toNat_natCast]
      refine WC.skip ?_
      refine WX.then_normal ?_
      refine WC.seq ?_
      refine WC.region ?_
      refine WL.g rfl rfl rfl (og_alloc rfl (v := (.slice none 0 0)) (cs := [.slice none 0 0]) (by kernel_rfl) rfl) ?_
      intro b6
      refine WL.nil ?_
      refine WX.then_normal ?_
      refine WC.seq ?_
      refine WC.region ?_
      refine WL.g rfl rfl rfl (og_alloc rfl (v := .nilFunc) (cs := [.nilFunc]) (by kernel_rfl) rfl) ?_
      intro b7
      refine WL.nil ?_
      refine WX.then_normal ?_
      refine WC.seq ?_
      refine WC.region ?_
      refine WL.r rfl rfl rfl (rd_mkf rfl rfl rfl) ?_
      refine WL.g0 rfl rfl (st rfl rfl rfl (by first | exact .here | exact .t1 | exact .t2 | exact .t3 | exact .t4 | exact .t5 | exact .t6 | exact .t7) (by kernel_rfl) rfl ?_ rfl) ?_
      · first | decide | (simp; done) | (simp; omega)
      intro _
      refine WL.nil ?_
      refine WX.then_normal ?_
      refine WC.seq ?_
      refine WC.region ?_
      refine WL.r rfl rfl rfl (ld rfl rfl (by first | exact .here | exact .t1 | exact .t2 | exact .t3 | exact .t4 | exact .t5 | exact .t6 | exact .t7) Try.underlying45 rfl (by rfl)) ?_
      refine WL.r rfl rfl rfl (rd_move rfl rfl) ?_
      refine WL.r rfl rfl rfl (rd_move rfl rfl) ?_
      refine WL.g rfl rfl rfl (og_callv rfl rfl rfl (by kernel_rfl) rfl (fun w hS => visit_ok l j (by omega) hl hs (by omega) _ _ _ rfl hcap _ _ b6 b7 [] ⟨none, 0, []⟩ [] w (by simp) rfl (st_rot (hS.nil 9)))) ?_
      rintro ⟨ob', cp', sp'⟩; dsimp only [VS]; refine WL.pu ?_; intro hg'; rw [List.nil_append] at hg' ⊢
      refine WL.nil ?_
      refine WX.then_normal ?_
      refine WC.seq ?_
      refine WC.region ?_
      refine WL.r rfl rfl rfl (ld rfl rfl (by first | exact .here | exact .t1 | exact .t2 | exact .t3 | exact .t4 | exact .t5 | exact .t6 | exact .t7) Try.underlying22 rfl (by rfl)) ?_
      refine WL.r rfl rfl rfl (rd_assign rfl rfl) ?_
      refine WL.r rfl rfl rfl (rd_assign rfl rfl) ?_
      refine WL.nil ?_
      refine WX.then_normal ?_
      refine WC.ret ?_
      exact WX.ret2 rfl rfl rfl fun w' hS => ⟨⟨ob', cp', sp'⟩, by rw [hp]; rfl, by rw [hp]; exact hg', by rw [hp]; exact hS.sub (List.Sublist.cons _ (List.Sublist.cons_cons _ (List.Sublist.cons _ (List.Sublist.refl _)))) (fun _ h => by simp at h)⟩
end Go.Proofs.Ytenjafedpcpoaaa
