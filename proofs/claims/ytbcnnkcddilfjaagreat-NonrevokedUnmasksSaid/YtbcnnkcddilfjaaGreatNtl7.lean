/-
  natural: DivMod, Gcd; the reference's.
-/
import Derived.Test.YtbcnnkcddilfjaaGreatNtl6
namespace Go.Proofs.YtbcnnkcddilfjaaGreat
set_option linter.unusedSimpArgs false
set_option linter.unusedVariables false
set_option maxRecDepth 20000
set_option maxHeartbeats 600000
open Go.RowKit

def divN (a b : Bs) : (Bs × Bs) × Int := if okN a ∧ okN b then (if b = [] then (([], []), 11) else ((canon (val a / val b), canon (val a % val b)), 0)) else (([], []), 3)
abbrev DE (r : (Bs × Bs) × Int) : Value := .tuple #[.string (S r.1.1), .string (S r.1.2), .int .i64 r.2]
theorem divmod_c {a b : Bs} {w : World} :
    Calls Tryz.prog 47 #[.string (S a), .string (S b)] w fun e w' => e = .returned (DE (divN a b)) ∧ Below w.heap.size w w' := by
  refine enter (S := St (fun _ => True) w [] ([])) (L := [(0, .string (S a)), (1, .string (S b))]) Tryz.func47 rfl Tryz.ntmps47 rfl (args_cons rfl (args_cons rfl (args_nil _))) (St.start (fun _ _ => trivial) facts_nil) ?_
  refine WC.sr ?_
  refine WL.r rfl rfl rfl (rd_assign rfl rfl) ?_
  refine WL.r rfl rfl rfl (rd_assign rfl rfl) ?_
  refine WL.r rfl rfl rfl (rd_assign rfl rfl) ?_
  refine WL.nt ?_
  refine WC.seq ?_
  refine WC.sr ?_
  refine WL.r rfl rfl rfl (rd_move rfl rfl) ?_
  refine WL.g rfl rfl rfl (og_call rfl rfl (by kernel_rfl) (keep_val fun w hS => valid_c)) ?_
  intro _
  refine WL.r rfl rfl rfl (rd_not rfl rfl) ?_
  refine WL.r rfl rfl rfl (rd_move rfl rfl) ?_
  refine WL.bool 12 rfl (fun hg12 => ?_) (fun hg12 => ?_)
  · (try simp only [sB] at hg12)
    refine WL.s rfl rfl rfl ?_
    refine WL.s rfl rfl rfl ?_
    refine WL.s rfl rfl rfl ?_
    refine WL.r rfl rfl rfl (rd_pickt rfl rfl rfl) ?_
    refine WL.nt ?_
    refine WC.cond rfl (fun _ => ?_) (fun h => by cases h)
    refine WC.sr ?_
    refine WL.r rfl rfl rfl (rd_assign rfl rfl) ?_
    refine WL.r rfl rfl rfl (rd_assign rfl rfl) ?_
    refine WL.r rfl rfl rfl (rd_assign rfl rfl) ?_
    refine WL.nt ?_
    refine WC.ret ?_
    refine WX.then_ret ?_
    exact WX.retN rfl (.tmp rfl (.tmp rfl (.tmp rfl .nil))) fun w' hS => ⟨by rw [divN, if_neg (by simp_all)]; rfl, hS.below⟩
  · (try simp only [sB] at hg12)
    refine WL.r rfl rfl rfl (rd_move rfl rfl) ?_
    refine WL.g rfl rfl rfl (og_call rfl rfl (by kernel_rfl) (keep_val fun w hS => valid_c)) ?_
    intro _
    refine WL.r rfl rfl rfl (rd_not rfl rfl) ?_
    refine WL.r rfl rfl rfl (rd_pickf rfl rfl rfl) ?_
    refine WL.nt ?_
    refine WC.cond rfl (fun hc16 => ?_) (fun hc16 => ?_)
    · (try simp only [sB] at hc16)
      refine WC.sr ?_
      refine WL.r rfl rfl rfl (rd_assign rfl rfl) ?_
      refine WL.r rfl rfl rfl (rd_assign rfl rfl) ?_
      refine WL.r rfl rfl rfl (rd_assign rfl rfl) ?_
      refine WL.nt ?_
      refine WC.ret ?_
      refine WX.then_ret ?_
      exact WX.retN rfl (.tmp rfl (.tmp rfl (.tmp rfl .nil))) fun w' hS => ⟨by rw [divN, if_neg (by simp_all)]; rfl, hS.below⟩
    · (try simp only [sB] at hc16)
      have hab : okN a ∧ okN b := by simp_all
      refine WC.skip ?_
      refine WX.then_normal ?_
      refine WC.seq ?_
      refine WC.sr ?_
      refine WL.r rfl rfl rfl (rd_move rfl rfl) ?_
      refine WL.r rfl rfl rfl (rd_seq rfl rfl rfl) ?_
      refine WL.nt ?_
      refine WC.cond rfl (fun hc18 => ?_) (fun hc18 => ?_)
      · (try simp only [sB] at hc18)
        have hb0 : b = [] := by simpa using hc18
        refine WC.sr ?_
        refine WL.r rfl rfl rfl (rd_assign rfl rfl) ?_
        refine WL.r rfl rfl rfl (rd_assign rfl rfl) ?_
        refine WL.r rfl rfl rfl (rd_assign rfl rfl) ?_
        refine WL.nt ?_
        refine WC.ret ?_
        refine WX.then_ret ?_
        exact WX.retN rfl (.tmp rfl (.tmp rfl (.tmp rfl .nil))) fun w' hS => ⟨by rw [divN, if_pos hab, if_pos hb0]; rfl, hS.below⟩
      · (try simp only [sB] at hc18)
        have hb0 : b ≠ [] := by simpa using hc18
        refine WC.skip ?_
        refine WX.then_normal ?_
        refine WC.sr ?_
        refine WL.r rfl rfl rfl (rd_move rfl rfl) ?_
        refine WL.r rfl rfl rfl (rd_move rfl rfl) ?_
        refine WL.g rfl rfl rfl (og_call rfl rfl (by kernel_rfl) (keep_val fun w hS => divided_c (a := a) (b := b) (by exact hab.1) (by exact hab.2) (by exact hb0))) ?_
        intro _
        refine WL.r rfl rfl rfl (rd_move rfl rfl) ?_
        refine WL.r rfl rfl rfl (rd_extL rfl rfl rfl) ?_
        refine WL.r rfl rfl rfl (rd_extL rfl rfl rfl) ?_
        refine WL.r rfl rfl rfl (rd_assign rfl rfl) ?_
        refine WL.r rfl rfl rfl (rd_assign rfl rfl) ?_
        refine WL.nt ?_
        refine WC.sr ?_
        refine WL.r rfl rfl rfl (rd_move rfl rfl) ?_
        refine WL.r rfl rfl rfl (rd_move rfl rfl) ?_
        refine WL.r rfl rfl rfl (rd_assign rfl rfl) ?_
        refine WL.r rfl rfl rfl (rd_assign rfl rfl) ?_
        refine WL.r rfl rfl rfl (rd_assign rfl rfl) ?_
        refine WL.nt ?_
        refine WC.ret ?_
        exact WX.retN rfl (.tmp rfl (.tmp rfl (.tmp rfl .nil))) fun w' hS => ⟨by rw [divN, if_pos hab, if_neg hb0]; rfl, hS.below⟩
def gcdN (a b : Bs) : Bs × Int := if okN a ∧ okN b then (canon (Nat.gcd (val a) (val b)), 0) else ([], 3)
theorem gcd_rec' (x y : Nat) : Nat.gcd y (x % y) = Nat.gcd x y := by rw [Nat.gcd_comm x y, Nat.gcd_rec y x, Nat.gcd_comm]
theorem okN_mod {x y : Bs} (h : okN y) (h0 : y ≠ []) : okN (canon (val x % val y)) := okN_can (Nat.lt_trans (Nat.mod_lt _ (Nat.pos_of_ne_zero fun e => h0 ((val_eq_zero h.2).1 e))) (okN_val h))
theorem gcd_c {a b : Bs} {w : World} :
    Calls Tryz.prog 94 #[.string (S a), .string (S b)] w fun e w' => e = .returned (NE (gcdN a b)) ∧ Below w.heap.size w w' := by
  refine enter (S := St (fun _ => True) w [] ([])) (L := [(0, .string (S a)), (1, .string (S b))]) Tryz.func94 rfl Tryz.ntmps94 rfl (args_cons rfl (args_cons rfl (args_nil _))) (St.start (fun _ _ => trivial) facts_nil) ?_
  refine WC.sr ?_
  refine WL.r rfl rfl rfl (rd_assign rfl rfl) ?_
  refine WL.r rfl rfl rfl (rd_assign rfl rfl) ?_
  refine WL.nt ?_
  refine WC.seq ?_
  refine WC.sr ?_
  refine WL.r rfl rfl rfl (rd_move rfl rfl) ?_
  refine WL.g rfl rfl rfl (og_call rfl rfl (by kernel_rfl) (keep_val fun w hS => valid_c)) ?_
  intro _
  refine WL.r rfl rfl rfl (rd_not rfl rfl) ?_
  refine WL.r rfl rfl rfl (rd_move rfl rfl) ?_
  refine WL.bool 11 rfl (fun hg11 => ?_) (fun hg11 => ?_)
  · (try simp only [sB] at hg11)
    refine WL.s rfl rfl rfl ?_
    refine WL.s rfl rfl rfl ?_
    refine WL.s rfl rfl rfl ?_
    refine WL.r rfl rfl rfl (rd_pickt rfl rfl rfl) ?_
    refine WL.nt ?_
    refine WC.cond rfl (fun _ => ?_) (fun h => by cases h)
    refine WC.sr ?_
    refine WL.r rfl rfl rfl (rd_assign rfl rfl) ?_
    refine WL.r rfl rfl rfl (rd_assign rfl rfl) ?_
    refine WL.nt ?_
    refine WC.ret ?_
    refine WX.then_ret ?_
    exact WX.retN rfl (.tmp rfl (.tmp rfl .nil)) fun w' hS => ⟨by rw [gcdN, if_neg (by simp_all)]; rfl, hS.below⟩
  · (try simp only [sB] at hg11)
    refine WL.r rfl rfl rfl (rd_move rfl rfl) ?_
    refine WL.g rfl rfl rfl (og_call rfl rfl (by kernel_rfl) (keep_val fun w hS => valid_c)) ?_
    intro _
    refine WL.r rfl rfl rfl (rd_not rfl rfl) ?_
    refine WL.r rfl rfl rfl (rd_pickf rfl rfl rfl) ?_
    refine WL.nt ?_
    refine WC.cond rfl (fun hc15 => ?_) (fun hc15 => ?_)
    · (try simp only [sB] at hc15)
      refine WC.sr ?_
      refine WL.r rfl rfl rfl (rd_assign rfl rfl) ?_
      refine WL.r rfl rfl rfl (rd_assign rfl rfl) ?_
      refine WL.nt ?_
      refine WC.ret ?_
      refine WX.then_ret ?_
      exact WX.retN rfl (.tmp rfl (.tmp rfl .nil)) fun w' hS => ⟨by rw [gcdN, if_neg (by simp_all)]; rfl, hS.below⟩
    · (try simp only [sB] at hc15)
      have hab : okN a ∧ okN b := by simp_all
      refine WC.skip ?_
      refine WX.then_normal ?_
      refine WC.seq ?_
      refine WC.block ?_
      refine WC.loopP (σ := Bs × Bs) [] (fun g => [(0, .string (S g.1)), (1, .string (S g.2))]) (fun g => okN g.1 ∧ okN g.2 ∧ Nat.gcd (val g.1) (val g.2) = Nat.gcd (val a) (val b)) (fun g => val g.2) (a, b) (sub_nil _) (sub_cons rfl (sub_cons rfl (sub_nil _))) (by (try dsimp only); exact ⟨hab.1, hab.2, rfl⟩) ?_
      rintro ⟨x, y⟩ hinv1; (try dsimp only at hinv1 ⊢)
      obtain ⟨hx, hy, hg⟩ := hinv1
      refine WC.seq ?_
      refine WC.sr ?_
      refine WL.r rfl rfl rfl (rd_move rfl rfl) ?_
      refine WL.r rfl rfl rfl (rd_sne rfl rfl rfl) ?_
      refine WL.nt ?_
      refine WC.cond rfl (fun hc17 => ?_) (fun hc17 => ?_)
      · (try simp only [sB] at hc17)
        have hy0 : y ≠ [] := by simpa using hc17
        have hvy : 0 < val y := Nat.pos_of_ne_zero fun e => hy0 ((val_eq_zero hy.2).1 e)
        refine WC.skip ?_
        refine WX.then_normal ?_
        refine WC.block ?_
        refine WC.sr ?_
        refine WL.r rfl rfl rfl (rd_move rfl rfl) ?_
        refine WL.r rfl rfl rfl (rd_move rfl rfl) ?_
        refine WL.g rfl rfl rfl (og_call rfl rfl (by kernel_rfl) (keep_val fun w hS => divided_c (a := x) (b := y) (by exact hx) (by exact hy) (by exact hy0))) ?_
        intro _
        refine WL.r rfl rfl rfl (rd_move rfl rfl) ?_
        refine WL.r rfl rfl rfl (rd_extL rfl rfl rfl) ?_
        refine WL.r rfl rfl rfl (rd_extL rfl rfl rfl) ?_
        refine WL.r rfl rfl rfl (rd_assign rfl rfl) ?_
        refine WL.r rfl rfl rfl (rd_assign rfl rfl) ?_
        refine WL.nt ?_
        refine WC.region ?_
        refine WL.r rfl rfl rfl (rd_move rfl rfl) ?_
        refine WL.r rfl rfl rfl (rd_move rfl rfl) ?_
        refine WL.r rfl rfl rfl (rd_assign rfl rfl) ?_
        refine WL.r rfl rfl rfl (rd_assign rfl rfl) ?_
        refine WL.nil ?_
        refine WX.block_normal ?_
        refine WX.loopP ((y, canon (val x % val y))) (by (try dsimp only); rw [val_canon]; exact Nat.mod_lt _ hvy) (sub_nil _) (by refine (sub_cons ?_ (sub_cons ?_ (sub_nil _))) <;> (rfl)) ?_ (by (exact fun _ h => h))
        (try dsimp only)
        exact ⟨hy, okN_mod hy hy0, by rw [val_canon, gcd_rec', hg]⟩
      · (try simp only [sB] at hc17)
        refine WC.exit ?_
        refine WX.then_exit ?_
        refine WX.then_exit ?_
        refine WX.block_exit ?_
        obtain rfl : y = [] := by simpa using hc17
        have hgx : val x = Nat.gcd (val a) (val b) := by rw [← hg]; exact (Nat.gcd_zero_right _).symm
        refine WX.then_normal ?_
        refine WC.sr ?_
        refine WL.r rfl rfl rfl (rd_move rfl rfl) ?_
        refine WL.r rfl rfl rfl (rd_assign rfl rfl) ?_
        refine WL.r rfl rfl rfl (rd_assign rfl rfl) ?_
        refine WL.nt ?_
        refine WC.ret ?_
        exact WX.retN rfl (.tmp rfl (.tmp rfl .nil)) fun w' hS => ⟨by rw [gcdN, if_pos hab, ← hgx, ok_canon hx]; rfl, hS.below⟩
theorem rover_c {a b : Bs} {w : World} (ha : okN a) (hb : okN b) (hb0 : b ≠ []) :
    Calls Tryz.prog 56 #[.string (S a), .string (S b)] w fun e w' => e = .returned (.tuple #[.string (S (canon (val a / val b))), .string (S (canon (val a % val b)))]) ∧ Below w.heap.size w w' := by
  have hal := ha.1; have hbl := hb.1
  have hvb : 0 < val b := Nat.pos_of_ne_zero fun h => hb0 ((val_eq_zero hb.2).1 h)
  have hbs := bitsN_le hal
  have hblt := okN_val hb
  have hvl := val_lt a
  refine enter (S := St (fun _ => True) w [] ([])) (L := [(0, .string (S a)), (1, .string (S b))]) Tryz.func56 rfl Tryz.ntmps56 rfl (args_cons rfl (args_cons rfl (args_nil _))) (St.start (fun _ _ => trivial) facts_nil) ?_
  refine WC.sr ?_
  refine WL.r rfl rfl rfl (rd_assign rfl rfl) ?_
  refine WL.r rfl rfl rfl (rd_assign rfl rfl) ?_
  refine WL.nt ?_
  refine WC.seq ?_
  refine WC.joinP (σ := Unit) [(0, _), (1, _)] (fun g => [(20, .bool (decide (a.length ≤ 8 ∧ b.length ≤ 8)))]) (fun g => True) (sub_cons rfl (sub_cons rfl (sub_nil _))) ?_ ?_
  · skip
    refine WC.region ?_
    refine WL.r rfl rfl rfl (rd_move rfl rfl) ?_
    refine WL.r rfl rfl rfl (rd_slen rfl rfl Tryz.underlying22) ?_
    refine WL.r rfl rfl rfl (rd_leq rfl rfl rfl) ?_
    refine WL.r rfl rfl rfl (rd_move rfl rfl) ?_
    refine WL.bool 16 rfl (fun hg16 => ?_) (fun hg16 => ?_)
    · (try simp only [sB] at hg16)
      refine WL.r rfl rfl rfl (rd_move rfl rfl) ?_
      refine WL.r rfl rfl rfl (rd_slen rfl rfl Tryz.underlying22) ?_
      refine WL.r rfl rfl rfl (rd_leq rfl rfl rfl) ?_
      refine WL.r rfl rfl rfl (rd_pickt rfl rfl rfl) ?_
      refine WL.nil ?_
      refine WX.joinP (()) (sub_cons rfl (sub_cons rfl (sub_nil _))) (by refine (sub_cons ?_ (sub_nil _)) <;> ((refine slot_b rfl ?_; (try dsimp only); (exact decide_eq_decide.2 (by omega))))) ?_ (by (exact fun _ h => h))
      (try dsimp only)
      done
    · (try simp only [sB] at hg16)
      refine WL.s rfl rfl rfl ?_
      refine WL.s rfl rfl rfl ?_
      refine WL.s rfl rfl rfl ?_
      refine WL.r rfl rfl rfl (rd_pickf rfl rfl rfl) ?_
      refine WL.nil ?_
      refine WX.joinP (()) (sub_cons rfl (sub_cons rfl (sub_nil _))) (by refine (sub_cons ?_ (sub_nil _)) <;> ((exact congrArg (fun b => some (Value.bool b)) (by symm; apply decide_eq_false; omega)))) ?_ (by (exact fun _ h => h))
      (try dsimp only)
      done
  · rintro _ hmeet; (try dsimp only at hmeet ⊢)
    refine WC.cond rfl (fun hc20 => ?_) (fun hc20 => ?_)
    · (try simp only [sB] at hc20)
      have hva8 : val a < 18446744073709551616 := val_8 hc20.1
      have hvb8 : val b < 18446744073709551616 := val_8 hc20.2
      have hdv := Nat.div_le_self (val a) (val b)
      have hmd := Nat.mod_lt (val a) hvb
      refine WC.sr ?_
      refine WL.r rfl rfl rfl (rd_move rfl rfl) ?_
      refine WL.g rfl rfl rfl (og_call rfl rfl (by kernel_rfl) (keep_val fun w hS => ru64_c (a := a) (by omega))) ?_
      intro _
      refine WL.r rfl rfl rfl (rd_move rfl rfl) ?_
      refine WL.g rfl rfl rfl (og_call rfl rfl (by kernel_rfl) (keep_val fun w hS => ru64_c (a := b) (by omega))) ?_
      intro _
      refine WL.r rfl rfl rfl (rd_assign rfl rfl) ?_
      refine WL.r rfl rfl rfl (rd_assign rfl rfl) ?_
      refine WL.nt ?_
      refine WC.seq ?_
      refine WC.free0 [0, 1, 2, 3, 4, 5, 6, 7, 8, 9] [] [0, 0, 0, 1, 0, 0, 0, 1, 0, 0] (by kernel_rfl) (by kernel_rfl) rfl ?_
      refine WJ.r rfl rfl rfl rfl rfl (rd_move rfl rfl) ?_
      refine WJ.r rfl rfl rfl rfl rfl (rd_move rfl rfl) ?_
      refine WJ.r rfl rfl rfl rfl rfl (rd_quoW rfl rfl rfl ?_) ?_
      · omega
      refine WJ.gv rfl rfl rfl rfl rfl (fun ext => og_call rfl rfl (by kernel_rfl) (keep_val fun w hS => rof_c (n := val a / val b) (by omega))) ?_
      refine WJ.r rfl rfl rfl rfl rfl (rd_move rfl rfl) ?_
      refine WJ.r rfl rfl rfl rfl rfl (rd_move rfl rfl) ?_
      refine WJ.r rfl rfl rfl rfl rfl (rd_remW rfl rfl rfl ?_) ?_
      · assumption
      refine WJ.gv rfl rfl rfl rfl rfl (fun ext => og_call rfl rfl (by kernel_rfl) (keep_val fun w hS => rof_c (n := val a % val b) (by omega))) ?_
      refine WJ.r rfl rfl rfl rfl rfl (rd_assign rfl rfl) ?_
      refine WJ.r rfl rfl rfl rfl rfl (rd_assign rfl rfl) ?_
      refine WJ.nil ?_
      refine WL.nt ?_
      refine WC.ret ?_
      refine WX.then_ret ?_
      exact WX.retN rfl (.tmp rfl (.tmp rfl .nil)) fun w' hS => ⟨by rfl, hS.below⟩
    · (try simp only [sB] at hc20)
      refine WC.skip ?_
      refine WX.then_normal ?_
      refine WC.sr ?_
      refine WL.r rfl rfl rfl (rd_move rfl rfl) ?_
      refine WL.r rfl rfl rfl (rd_slen rfl rfl Tryz.underlying22) ?_
      refine WL.g rfl rfl rfl (og_mk rfl rfl rfl Tryz.underlying79 (by kernel_rfl : _ = some (some (.int .u8 0), 1, 1)) rfl ?_ (by (try simp only [sN, Int.reduceToNat, Nat.reduceAdd, Nat.reduceMul, Nat.reduceSub]); rfl) (by (try simp only [sN, Int.reduceToNat, Nat.reduceAdd, Nat.reduceMul, Nat.reduceSub]); rfl)) ?_
      · omega
      intro b35
      refine WL.r rfl rfl rfl (rd_assign rfl rfl) ?_
      refine WL.nt ?_
      refine WC.sr ?_
      refine WL.r rfl rfl rfl (rd_assign rfl rfl) ?_
      refine WL.nt ?_
      refine WC.seq ?_
      refine WC.sr ?_
      refine WL.r rfl rfl rfl (rd_move rfl rfl) ?_
      refine WL.g rfl rfl rfl (og_call rfl rfl (by kernel_rfl) (keep_val fun w hS => rbits0_c (a := a) (by omega))) ?_
      intro _
      (refine WL.r rfl rfl rfl (rd_sub64 rfl rfl rfl ?_) ?_; (focus (omega)))
      refine WL.r rfl rfl rfl (rd_assign rfl rfl) ?_
      refine WL.nt ?_
      refine WC.block ?_
      refine WC.loopO (σ := Nat × Bs × Nat × Int) [(0, _), (1, _), (8, _)] (fun g => [(9, .string (S g.2.1)), (10, .int .i64 g.2.2.2)]) (fun g => g.1 ≤ bitsN a ∧ g.2.1 = canon (val a / 2 ^ g.1 % val b) ∧ g.2.2.1 = val a / 2 ^ g.1 / val b * 2 ^ g.1 ∧ g.2.2.2 = (g.1 : Int) - 1) (fun g => g.1) (fun g => [⟨some b35, (be a.length g.2.2.1).map B, 5⟩]) (fun g => []) (bitsN a, [], 0, (bitsN a : Int) - 1) (sub_cons rfl (sub_cons rfl (sub_cons rfl (sub_nil _)))) (sub_cons rfl (sub_cons rfl (sub_nil _))) (by (try dsimp only); have h0 : val a / 2 ^ bitsN a = 0 := Nat.div_eq_of_lt (val_bits a); rw [h0]; exact ⟨Nat.le_refl _, by rw [Nat.zero_mod, canon_zero], by rw [Nat.zero_div, Nat.zero_mul], rfl⟩) (by exact fun w h => by rw [show (be a.length 0).map B = List.replicate a.length (.int .u8 0) from be_zero _]; exact h) ?_
      rintro ⟨t, r, Q, j⟩ hinv1; (try dsimp only at hinv1 ⊢)
      obtain ⟨ht, hr, hQ, hj⟩ := hinv1
      refine WC.seq ?_
      refine WC.sr ?_
      refine WL.r rfl rfl rfl (rd_move rfl rfl) ?_
      refine WL.r rfl rfl rfl (rd_geq rfl rfl rfl) ?_
      refine WL.nt ?_
      refine WC.cond rfl (fun hc40 => ?_) (fun hc40 => ?_)
      · (try simp only [sB] at hc40)
        obtain ⟨m, rfl⟩ : ∃ m, t = m + 1 := ⟨t - 1, by omega⟩
        refine WC.set 10 rfl (v' := .int .i64 ((m : Nat) : Int)) (by rw [hj]; congr 1; omega) ?_
        obtain ⟨R, hR⟩ : ∃ R, R = val a / 2 ^ (m + 1) % val b := ⟨_, rfl⟩
        rw [← hR] at hr
        obtain ⟨c, hc⟩ : ∃ c, c = 2 * R + val a / 2 ^ m % 2 := ⟨_, rfl⟩
        have hst := over_step (A := val a) (B := val b) (t := m) (c := c) hvb (by rw [hc, hR])
        have hRl : R < val b := by rw [hR]; exact Nat.mod_lt _ hvb
        have hlR : (canon R).length ≤ 128 := (okN_can (by omega)).1
        have hl2 : (canon (2 * R)).length ≤ 129 := canon_len_le.2 (by have h1 : (256 : Nat) ^ 129 = 256 * Big := by rw [Nat.pow_succ, Nat.mul_comm]; rfl
                                                                      omega)
        have hlc : (canon c).length ≤ 129 := canon_len_le.2 (by have h1 : (256 : Nat) ^ 129 = 256 * Big := by rw [Nat.pow_succ, Nat.mul_comm]; rfl
                                                                omega)
        subst hr
        have hm8 : m / 8 < a.length := by
          have h1 := bitsN_le8 a; omega
        have hod := over_digit (val a / 2 ^ (m + 1) / val b) m
        rw [← hQ] at hod
        refine WC.skip ?_
        refine WX.then_normal ?_
        refine WC.seq ?_
        refine WC.block ?_
        refine WC.sr ?_
        refine WL.r rfl rfl rfl (rd_move rfl rfl) ?_
        refine WL.r rfl rfl rfl (rd_move rfl rfl) ?_
        refine WL.g rfl rfl rfl (og_call rfl rfl (by kernel_rfl) (keep_val fun w hS => plus_c (a := canon R) (b := canon R) (by omega) (by omega))) ?_
        intro _
        refine WL.set 45 rfl (v' := .string (S (canon (2 * R)))) (congrArg (fun l => Value.string (S l)) (by rw [val_canon, ← Nat.two_mul])) ?_
        refine WL.r rfl rfl rfl (rd_assign rfl rfl) ?_
        refine WL.nt ?_
        refine WC.joinP (σ := Unit) [(0, _), (1, _), (8, _), (10, _)] (fun g => [(9, .string (S (canon c)))]) (fun g => True) (sub_cons rfl (sub_cons rfl (sub_cons rfl (sub_cons rfl (sub_nil _))))) ?_ ?_
        · skip
          refine WC.sr ?_
          refine WL.r rfl rfl rfl (rd_move rfl rfl) ?_
          refine WL.r rfl rfl rfl (rd_move rfl rfl) ?_
          refine WL.g rfl rfl rfl (og_call rfl rfl (by kernel_rfl) (keep_val fun w hS => rone_c (a := a) (i := m) (by omega) (by omega))) ?_
          intro _
          refine WL.nt ?_
          refine WC.cond rfl (fun hc48 => ?_) (fun hc48 => ?_)
          · (try simp only [sB] at hc48)
            have hb1 : val a / 2 ^ m % 2 = 1 := by simpa [bitN] using hc48
            refine WC.region ?_
            refine WL.r rfl rfl rfl (rd_move rfl rfl) ?_
            refine WL.g rfl rfl rfl (og_call rfl rfl (by kernel_rfl) (keep_val fun w hS => plus_c (a := canon (2 * R)) (b := [1]) (by omega) (by (simp <;> omega)))) ?_
            intro _
            refine WL.set 50 rfl (v' := .string (S (canon c))) (congrArg (fun l => Value.string (S l)) (by rw [val_canon, show val [1] = 1 from rfl, hc, hb1])) ?_
            refine WL.r rfl rfl rfl (rd_assign rfl rfl) ?_
            refine WL.nil ?_
            refine WX.joinP (()) (sub_cons rfl (sub_cons rfl (sub_cons rfl (sub_cons rfl (sub_nil _))))) (by refine (sub_cons ?_ (sub_nil _)) <;> (rfl)) ?_ (by (exact fun _ h => h))
            (try dsimp only)
            done
          · (try simp only [sB] at hc48)
            have hb1 : ¬ val a / 2 ^ m % 2 = 1 := by simpa [bitN] using hc48
            rw [show 2 * R = c by omega]
            refine WC.skip ?_
            refine WX.joinP (()) (sub_cons rfl (sub_cons rfl (sub_cons rfl (sub_cons rfl (sub_nil _))))) (by refine (sub_cons ?_ (sub_nil _)) <;> (rfl)) ?_ (by (exact fun _ h => h))
            (try dsimp only)
            done
        · rintro _ hmeet; (try dsimp only at hmeet ⊢)
          refine WC.sr ?_
          refine WL.r rfl rfl rfl (rd_move rfl rfl) ?_
          refine WL.r rfl rfl rfl (rd_move rfl rfl) ?_
          refine WL.g rfl rfl rfl (og_call rfl rfl (by kernel_rfl) (keep_val fun w hS => order_c (a := canon c) (b := b) (by exact can_canon _) (by exact hb.2) (by omega))) ?_
          intro _
          refine WL.r rfl rfl rfl (rd_geq rfl rfl rfl) ?_
          refine WL.nt ?_
          refine WC.cond rfl (fun hc54 => ?_) (fun hc54 => ?_)
          · (try simp only [sB] at hc54)
            have hge : val b ≤ c := Nat.not_lt.1 fun h => by have := (cmpI_neg c (val b)).2 h; rw [val_canon] at hc54; omega
            obtain ⟨hq1, hr1⟩ := hst.1 hge
            refine WC.sr ?_
            refine WL.r rfl rfl rfl (rd_move rfl rfl) ?_
            refine WL.r rfl rfl rfl (rd_move rfl rfl) ?_
            refine WL.g rfl rfl rfl (og_call rfl rfl (by kernel_rfl) (keep_val fun w hS => minus_c (a := canon c) (b := b) (by rw [val_canon]; exact hge) (by omega) (by omega))) ?_
            intro _
            refine WL.set 57 rfl (v' := .string (S (canon (c - val b)))) (congrArg (fun l => Value.string (S l)) (by rw [val_canon])) ?_
            refine WL.r rfl rfl rfl (rd_assign rfl rfl) ?_
            refine WL.nt ?_
            refine WC.sr ?_
            refine WL.r rfl rfl rfl (rd_assign rfl rfl) ?_
            refine WL.nt ?_
            refine WC.seq ?_
            refine WC.sr ?_
            refine WL.r rfl rfl rfl (rd_assign rfl rfl) ?_
            refine WL.nt ?_
            refine WC.block ?_
            refine WC.loopO (σ := Nat × Nat) [(0, _), (1, _), (8, _), (9, _), (10, _)] (fun g => [(11, .int .u8 (g.2 : Int)), (12, .int .i64 (g.1 : Int))]) (fun g => g.1 ≤ m % 8 ∧ g.2 = 2 ^ g.1) (fun g => m % 8 - g.1) (fun g => [⟨some b35, (be a.length Q).map B, 5⟩]) (fun g => []) (0, 1) (sub_cons rfl (sub_cons rfl (sub_cons rfl (sub_cons rfl (sub_cons rfl (sub_nil _)))))) (sub_cons rfl (sub_cons rfl (sub_nil _))) (by (try dsimp only); exact ⟨Nat.zero_le _, rfl⟩) (by (exact fun _ h => h)) ?_
            rintro ⟨k, p⟩ hinv2; (try dsimp only at hinv2 ⊢)
            obtain ⟨hk, hp⟩ := hinv2
            refine WC.seq ?_
            refine WC.sr ?_
            refine WL.r rfl rfl rfl (rd_move rfl rfl) ?_
            refine WL.r rfl rfl rfl (rd_move rfl rfl) ?_
            (refine WL.r rfl rfl rfl (rd_rem64nl rfl rfl rfl ?_) ?_; (focus (omega)))
            refine WL.r rfl rfl rfl (rd_lss rfl rfl rfl) ?_
            refine WL.nt ?_
            refine WC.cond rfl (fun hc61 => ?_) (fun hc61 => ?_)
            · (try simp only [sB] at hc61)
              have hp2 : p * 2 ≤ 128 := by
                rw [hp, ← Nat.pow_succ]; exact Nat.le_trans (Nat.pow_le_pow_right (by decide) (by omega : k + 1 ≤ 7)) (by decide)
              refine WC.skip ?_
              refine WX.then_normal ?_
              refine WC.seq ?_
              refine WC.block ?_
              refine WC.region ?_
              refine WL.r rfl rfl rfl (rd_move rfl rfl) ?_
              (refine WL.r rfl rfl rfl (rd_mulW (c := 2) rfl rfl rfl ?_) ?_; (focus (omega)))
              refine WL.r rfl rfl rfl (rd_assign rfl rfl) ?_
              refine WL.nil ?_
              refine WX.block_normal ?_
              refine WX.then_normal ?_
              refine WC.region ?_
              refine WL.r rfl rfl rfl (rd_move rfl rfl) ?_
              (refine WL.r rfl rfl rfl (rd_add64nl rfl rfl rfl ?_) ?_; (focus (omega)))
              refine WL.r rfl rfl rfl (rd_assign rfl rfl) ?_
              refine WL.nil ?_
              refine WX.loopO ((k + 1, p * 2)) (by (try dsimp only); omega) (sub_cons rfl (sub_cons rfl (sub_cons rfl (sub_cons rfl (sub_cons rfl (sub_nil _)))))) (by refine (sub_cons ?_ (sub_cons ?_ (sub_nil _))) <;> (rfl)) ?_ (by (exact fun _ h => h))
              (try dsimp only)
              exact ⟨by omega, by rw [hp, Nat.pow_succ]⟩
            · (try simp only [sB] at hc61)
              refine WC.exit ?_
              refine WX.then_exit ?_
              refine WX.then_exit ?_
              refine WX.block_exit ?_
              obtain rfl : k = m % 8 := by omega
              have hq8 : ((be a.length Q).map B)[a.length - 1 - m / 8]? = some (.int .u8 ((Q / 256 ^ (m / 8) % 256 : Nat) : Int)) := by
                rw [List.getElem?_map, be_get _ _ _ (by omega), show a.length - 1 - (a.length - 1 - m / 8) = m / 8 by omega]; simp [B, UInt8.toNat_ofNat']
              rw [← hp] at hod
              refine WX.then_normal ?_
              refine WC.region ?_
              refine WL.r rfl rfl rfl (rd_move rfl rfl) ?_
              refine WL.r rfl rfl rfl (rd_move rfl rfl) ?_
              refine WL.r rfl rfl rfl (rd_slen rfl rfl Tryz.underlying22) ?_
              (refine WL.r rfl rfl rfl (rd_sub64nl rfl rfl rfl ?_) ?_; (focus (omega)))
              refine WL.r rfl rfl rfl (rd_move rfl rfl) ?_
              (refine WL.r rfl rfl rfl (rd_quo64nl rfl rfl rfl ?_) ?_; (focus (omega)))
              (refine WL.r rfl rfl rfl (rd_sub64n rfl rfl rfl ?_) ?_; (focus (omega)))
              (refine WL.r rfl rfl rfl (rd_ia rfl rfl rfl Tryz.underlying79 (by kernel_rfl : _ = some 1) ?_ (by (try simp only [sN, Int.reduceToNat, Nat.reduceAdd, Nat.reduceMul, Nat.reduceSub]); rfl)) ?_; (focus (omega)))
              refine WL.r rfl rfl rfl (ld rfl rfl .tc Tryz.underlying5 rfl hq8) ?_
              refine WL.r rfl rfl rfl (rd_move rfl rfl) ?_
              (refine WL.r rfl rfl rfl (rd_addW rfl rfl rfl ?_) ?_; (focus (assumption)))
              refine WL.set 76 rfl (v' := B (UInt8.ofNat (Q / 256 ^ (m / 8) % 256 + p))) (by rw [B, UInt8.toNat_ofNat', Nat.mod_eq_of_lt hod]) ?_
              (refine WL.r rfl rfl rfl (rd_ia rfl rfl rfl Tryz.underlying79 (by kernel_rfl : _ = some 1) ?_ (by (try simp only [sN, Int.reduceToNat, Nat.reduceAdd, Nat.reduceMul, Nat.reduceSub]); rfl)) ?_; (focus (omega)))
              refine WL.g0 rfl rfl (st rfl rfl rfl .tc (by kernel_rfl) rfl ?_ (by rfl)) ?_
              · rw [List.length_map, be_len]; omega
              intro _
              refine WL.nil ?_
              refine WX.block_normal ?_
              refine WX.then_normal ?_
              refine WC.region ?_
              refine WL.r rfl rfl rfl (rd_move rfl rfl) ?_
              (refine WL.r rfl rfl rfl (rd_sub64 rfl rfl rfl ?_) ?_; (focus (omega)))
              refine WL.r rfl rfl rfl (rd_assign rfl rfl) ?_
              refine WL.nil ?_
              refine WX.loopO ((m, canon (c - val b), Q + p * 256 ^ (m / 8), (m : Int) - 1)) (by (try dsimp only); omega) (sub_cons rfl (sub_cons rfl (sub_cons rfl (sub_nil _)))) (by refine (sub_cons ?_ (sub_cons ?_ (sub_nil _))) <;> (rfl)) ?_ (by exact fun w h => by rw [← be_add a.length (m / 8) Q p (by omega) hod, List.map_set]; exact h)
              (try dsimp only)
              exact ⟨by omega, by rw [hr1], by rw [hq1, hp, ← two_split, hQ, Nat.pow_succ, Nat.add_mul, Nat.one_mul]; congr 1; simp only [Nat.mul_comm, Nat.mul_left_comm, Nat.mul_assoc], rfl⟩
          · (try simp only [sB] at hc54)
            have hlt : c < val b := by rw [val_canon] at hc54; exact (cmpI_neg c (val b)).1 hc54
            obtain ⟨hq1, hr1⟩ := hst.2 hlt
            refine WC.skip ?_
            refine WX.block_normal ?_
            refine WX.then_normal ?_
            refine WC.region ?_
            refine WL.r rfl rfl rfl (rd_move rfl rfl) ?_
            (refine WL.r rfl rfl rfl (rd_sub64 rfl rfl rfl ?_) ?_; (focus (omega)))
            refine WL.r rfl rfl rfl (rd_assign rfl rfl) ?_
            refine WL.nil ?_
            refine WX.loopO ((m, canon c, Q, (m : Int) - 1)) (by (try dsimp only); omega) (sub_cons rfl (sub_cons rfl (sub_cons rfl (sub_nil _)))) (by refine (sub_cons ?_ (sub_cons ?_ (sub_nil _))) <;> (rfl)) ?_ (by (exact fun _ h => h))
            (try dsimp only)
            exact ⟨by omega, by rw [hr1], by rw [hq1, hQ, Nat.pow_succ]; simp only [Nat.mul_comm, Nat.mul_left_comm, Nat.mul_assoc], rfl⟩
      · (try simp only [sB] at hc40)
        refine WC.exit ?_
        refine WX.then_exit ?_
        refine WX.then_exit ?_
        refine WX.block_exit ?_
        obtain rfl : t = 0 := by omega
        rw [Nat.pow_zero, Nat.div_one, Nat.mul_one] at hQ
        rw [Nat.pow_zero, Nat.div_one] at hr
        subst hr
        have hbl1 := be_len a.length Q
        have hQl : Q < 256 ^ a.length := by rw [hQ]; exact Nat.lt_of_le_of_lt (Nat.div_le_self _ _) hvl
        refine WX.then_normal ?_
        refine WC.sr ?_
        refine WL.r rfl rfl rfl (rd_move rfl rfl) ?_
        refine WL.g rfl rfl rfl (og_call rfl rfl (by kernel_rfl) (keep_val fun w hS => rtrim_c (b := be a.length Q) (by (exact hS.os)) (by omega) (by omega) (by omega))) ?_
        intro _
        refine WL.r rfl rfl rfl (rd_move rfl rfl) ?_
        refine WL.r rfl rfl rfl (rd_assign rfl rfl) ?_
        refine WL.r rfl rfl rfl (rd_assign rfl rfl) ?_
        refine WL.nt ?_
        refine WC.ret ?_
        exact WX.retN rfl (.tmp rfl (.tmp rfl .nil)) fun w' hS => ⟨by rw [val_be, Nat.mod_eq_of_lt hQl, hQ]; rfl, hS.below⟩
theorem rdivmod_c {a b : Bs} {w : World} :
    Calls Tryz.prog 82 #[.string (S a), .string (S b)] w fun e w' => e = .returned (DE (divN a b)) ∧ Below w.heap.size w w' := by
  refine enter (S := St (fun _ => True) w [] ([])) (L := [(0, .string (S a)), (1, .string (S b))]) Tryz.func82 rfl Tryz.ntmps82 rfl (args_cons rfl (args_cons rfl (args_nil _))) (St.start (fun _ _ => trivial) facts_nil) ?_
  refine WC.sr ?_
  refine WL.r rfl rfl rfl (rd_assign rfl rfl) ?_
  refine WL.r rfl rfl rfl (rd_assign rfl rfl) ?_
  refine WL.r rfl rfl rfl (rd_assign rfl rfl) ?_
  refine WL.nt ?_
  refine WC.seq ?_
  refine WC.sr ?_
  refine WL.r rfl rfl rfl (rd_move rfl rfl) ?_
  refine WL.g rfl rfl rfl (og_call rfl rfl (by kernel_rfl) (keep_val fun w hS => rvalid_c)) ?_
  intro _
  refine WL.r rfl rfl rfl (rd_not rfl rfl) ?_
  refine WL.r rfl rfl rfl (rd_move rfl rfl) ?_
  refine WL.bool 12 rfl (fun hg12 => ?_) (fun hg12 => ?_)
  · (try simp only [sB] at hg12)
    refine WL.s rfl rfl rfl ?_
    refine WL.s rfl rfl rfl ?_
    refine WL.s rfl rfl rfl ?_
    refine WL.r rfl rfl rfl (rd_pickt rfl rfl rfl) ?_
    refine WL.nt ?_
    refine WC.cond rfl (fun _ => ?_) (fun h => by cases h)
    refine WC.sr ?_
    refine WL.r rfl rfl rfl (rd_assign rfl rfl) ?_
    refine WL.r rfl rfl rfl (rd_assign rfl rfl) ?_
    refine WL.r rfl rfl rfl (rd_assign rfl rfl) ?_
    refine WL.nt ?_
    refine WC.ret ?_
    refine WX.then_ret ?_
    exact WX.retN rfl (.tmp rfl (.tmp rfl (.tmp rfl .nil))) fun w' hS => ⟨by rw [divN, if_neg (by simp_all)]; rfl, hS.below⟩
  · (try simp only [sB] at hg12)
    refine WL.r rfl rfl rfl (rd_move rfl rfl) ?_
    refine WL.g rfl rfl rfl (og_call rfl rfl (by kernel_rfl) (keep_val fun w hS => rvalid_c)) ?_
    intro _
    refine WL.r rfl rfl rfl (rd_not rfl rfl) ?_
    refine WL.r rfl rfl rfl (rd_pickf rfl rfl rfl) ?_
    refine WL.nt ?_
    refine WC.cond rfl (fun hc16 => ?_) (fun hc16 => ?_)
    · (try simp only [sB] at hc16)
      refine WC.sr ?_
      refine WL.r rfl rfl rfl (rd_assign rfl rfl) ?_
      refine WL.r rfl rfl rfl (rd_assign rfl rfl) ?_
      refine WL.r rfl rfl rfl (rd_assign rfl rfl) ?_
      refine WL.nt ?_
      refine WC.ret ?_
      refine WX.then_ret ?_
      exact WX.retN rfl (.tmp rfl (.tmp rfl (.tmp rfl .nil))) fun w' hS => ⟨by rw [divN, if_neg (by simp_all)]; rfl, hS.below⟩
    · (try simp only [sB] at hc16)
      have hab : okN a ∧ okN b := by simp_all
      refine WC.skip ?_
      refine WX.then_normal ?_
      refine WC.seq ?_
      refine WC.sr ?_
      refine WL.r rfl rfl rfl (rd_move rfl rfl) ?_
      refine WL.r rfl rfl rfl (rd_seq rfl rfl rfl) ?_
      refine WL.nt ?_
      refine WC.cond rfl (fun hc18 => ?_) (fun hc18 => ?_)
      · (try simp only [sB] at hc18)
        have hb0 : b = [] := by simpa using hc18
        refine WC.sr ?_
        refine WL.r rfl rfl rfl (rd_assign rfl rfl) ?_
        refine WL.r rfl rfl rfl (rd_assign rfl rfl) ?_
        refine WL.r rfl rfl rfl (rd_assign rfl rfl) ?_
        refine WL.nt ?_
        refine WC.ret ?_
        refine WX.then_ret ?_
        exact WX.retN rfl (.tmp rfl (.tmp rfl (.tmp rfl .nil))) fun w' hS => ⟨by rw [divN, if_pos hab, if_pos hb0]; rfl, hS.below⟩
      · (try simp only [sB] at hc18)
        have hb0 : b ≠ [] := by simpa using hc18
        refine WC.skip ?_
        refine WX.then_normal ?_
        refine WC.sr ?_
        refine WL.r rfl rfl rfl (rd_move rfl rfl) ?_
        refine WL.r rfl rfl rfl (rd_move rfl rfl) ?_
        refine WL.g rfl rfl rfl (og_call rfl rfl (by kernel_rfl) (keep_val fun w hS => rover_c (a := a) (b := b) (by exact hab.1) (by exact hab.2) (by exact hb0))) ?_
        intro _
        refine WL.r rfl rfl rfl (rd_move rfl rfl) ?_
        refine WL.r rfl rfl rfl (rd_extL rfl rfl rfl) ?_
        refine WL.r rfl rfl rfl (rd_extL rfl rfl rfl) ?_
        refine WL.r rfl rfl rfl (rd_assign rfl rfl) ?_
        refine WL.r rfl rfl rfl (rd_assign rfl rfl) ?_
        refine WL.nt ?_
        refine WC.sr ?_
        refine WL.r rfl rfl rfl (rd_move rfl rfl) ?_
        refine WL.r rfl rfl rfl (rd_move rfl rfl) ?_
        refine WL.r rfl rfl rfl (rd_assign rfl rfl) ?_
        refine WL.r rfl rfl rfl (rd_assign rfl rfl) ?_
        refine WL.r rfl rfl rfl (rd_assign rfl rfl) ?_
        refine WL.nt ?_
        refine WC.ret ?_
        exact WX.retN rfl (.tmp rfl (.tmp rfl (.tmp rfl .nil))) fun w' hS => ⟨by rw [divN, if_pos hab, if_neg hb0]; rfl, hS.below⟩
theorem rcommon_c {a b : Bs} {w : World} (ha : okN a) (hb : okN b) :
    Calls Tryz.prog 81 #[.string (S a), .string (S b)] w fun e w' => e = .returned (.string (S (canon (Nat.gcd (val a) (val b))))) ∧ Below w.heap.size w w' := by
  refine enter (S := St (fun _ => True) w [] ([])) (L := [(0, .string (S a)), (1, .string (S b))]) Tryz.func81 rfl Tryz.ntmps81 rfl (args_cons rfl (args_cons rfl (args_nil _))) (St.start (fun _ _ => trivial) facts_nil) ?_
  refine WC.sr ?_
  refine WL.r rfl rfl rfl (rd_assign rfl rfl) ?_
  refine WL.nt ?_
  refine WC.seq ?_
  refine WC.block ?_
  refine WC.loopP (σ := Bs × Bs) [] (fun g => [(0, .string (S g.1)), (1, .string (S g.2))]) (fun g => okN g.1 ∧ okN g.2 ∧ Nat.gcd (val g.1) (val g.2) = Nat.gcd (val a) (val b)) (fun g => val g.2) (a, b) (sub_nil _) (sub_cons rfl (sub_cons rfl (sub_nil _))) (by (try dsimp only); exact ⟨ha, hb, rfl⟩) ?_
  rintro ⟨x, y⟩ hinv1; (try dsimp only at hinv1 ⊢)
  obtain ⟨hx, hy, hg⟩ := hinv1
  refine WC.seq ?_
  refine WC.sr ?_
  refine WL.r rfl rfl rfl (rd_move rfl rfl) ?_
  refine WL.r rfl rfl rfl (rd_sne rfl rfl rfl) ?_
  refine WL.nt ?_
  refine WC.cond rfl (fun hc8 => ?_) (fun hc8 => ?_)
  · (try simp only [sB] at hc8)
    have hy0 : y ≠ [] := by simpa using hc8
    have hvy : 0 < val y := Nat.pos_of_ne_zero fun e => hy0 ((val_eq_zero hy.2).1 e)
    refine WC.skip ?_
    refine WX.then_normal ?_
    refine WC.block ?_
    refine WC.sr ?_
    refine WL.r rfl rfl rfl (rd_move rfl rfl) ?_
    refine WL.r rfl rfl rfl (rd_move rfl rfl) ?_
    refine WL.g rfl rfl rfl (og_call rfl rfl (by kernel_rfl) (keep_val fun w hS => rover_c (a := x) (b := y) (by exact hx) (by exact hy) (by exact hy0))) ?_
    intro _
    refine WL.r rfl rfl rfl (rd_move rfl rfl) ?_
    refine WL.r rfl rfl rfl (rd_extL rfl rfl rfl) ?_
    refine WL.r rfl rfl rfl (rd_extL rfl rfl rfl) ?_
    refine WL.r rfl rfl rfl (rd_assign rfl rfl) ?_
    refine WL.r rfl rfl rfl (rd_assign rfl rfl) ?_
    refine WL.nt ?_
    refine WC.region ?_
    refine WL.r rfl rfl rfl (rd_move rfl rfl) ?_
    refine WL.r rfl rfl rfl (rd_move rfl rfl) ?_
    refine WL.r rfl rfl rfl (rd_assign rfl rfl) ?_
    refine WL.r rfl rfl rfl (rd_assign rfl rfl) ?_
    refine WL.nil ?_
    refine WX.block_normal ?_
    refine WX.loopP ((y, canon (val x % val y))) (by (try dsimp only); rw [val_canon]; exact Nat.mod_lt _ hvy) (sub_nil _) (by refine (sub_cons ?_ (sub_cons ?_ (sub_nil _))) <;> (rfl)) ?_ (by (exact fun _ h => h))
    (try dsimp only)
    exact ⟨hy, okN_mod hy hy0, by rw [val_canon, gcd_rec', hg]⟩
  · (try simp only [sB] at hc8)
    refine WC.exit ?_
    refine WX.then_exit ?_
    refine WX.then_exit ?_
    refine WX.block_exit ?_
    obtain rfl : y = [] := by simpa using hc8
    have hgx : val x = Nat.gcd (val a) (val b) := by rw [← hg]; exact (Nat.gcd_zero_right _).symm
    refine WX.then_normal ?_
    refine WC.sr ?_
    refine WL.r rfl rfl rfl (rd_move rfl rfl) ?_
    refine WL.r rfl rfl rfl (rd_assign rfl rfl) ?_
    refine WL.nt ?_
    refine WC.ret ?_
    exact WX.retN rfl (.tmp rfl .nil) fun w' hS => ⟨by rw [← hgx, ok_canon hx]; rfl, hS.below⟩
end Go.Proofs.YtbcnnkcddilfjaaGreat
