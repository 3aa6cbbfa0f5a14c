/-
  natural: Mul; the reference's; words of 64 bits.
-/
import Derived.Test.YtbcnnkcddilfjaaGreatNtl3
import Derived.Test.YtbcnnkcddilfjaaGreatArs
namespace Go.Proofs.YtbcnnkcddilfjaaGreat
set_option linter.unusedSimpArgs false
set_option linter.unusedVariables false
set_option maxRecDepth 20000
set_option maxHeartbeats 600000
open Go.RowKit

theorem mul_hi {β x0 x1 y0 y1 : Nat} (hβ : 0 < β) : (x1 * β + x0) * (y1 * β + y0) / (β * β) = x1 * y1 + (x1 * y0 + x0 * y0 / β) / β + ((x1 * y0 + x0 * y0 / β) % β + x0 * y1) / β := by
  have e1 := Nat.div_add_mod (x0 * y0) β
  have e2 := Nat.div_add_mod (x1 * y0 + x0 * y0 / β) β
  have e3 := Nat.div_add_mod ((x1 * y0 + x0 * y0 / β) % β + x0 * y1) β
  have l1 := Nat.mod_lt (x0 * y0) hβ
  have l3 := Nat.mod_lt ((x1 * y0 + x0 * y0 / β) % β + x0 * y1) hβ
  generalize x0 * y0 / β = a at *
  generalize x0 * y0 % β = p0 at *
  generalize (x1 * y0 + a) / β = w2 at *
  generalize (x1 * y0 + a) % β = t0 at *
  generalize (t0 + x0 * y1) / β = b at *
  generalize (t0 + x0 * y1) % β = w10 at *
  have e : (x1 * β + x0) * (y1 * β + y0) = β * β * (x1 * y1 + w2 + b) + (w10 * β + p0) := by
    have f1 : (x1 * β + x0) * (y1 * β + y0) = x1 * y1 * (β * β) + (x1 * y0 + x0 * y1) * β + x0 * y0 := by
      simp only [Nat.add_mul, Nat.mul_add, Nat.mul_assoc, Nat.mul_comm, Nat.mul_left_comm]; omega
    have f2 : (x1 * y0 + x0 * y1) * β + a * β = (β * w2 + (β * b + w10)) * β := by rw [← Nat.add_mul]; congr 1; omega
    have f3 : (β * w2 + (β * b + w10)) * β = β * β * w2 + β * β * b + w10 * β := by
      simp only [Nat.add_mul, Nat.mul_add, Nat.mul_assoc, Nat.mul_comm, Nat.mul_left_comm]; omega
    rw [f1, ← e1, Nat.mul_add, Nat.mul_add, Nat.mul_comm (x1 * y1)]
    rw [Nat.mul_comm β a]
    omega
  have l : w10 * β + p0 < β * β := by
    have : (w10 + 1) * β ≤ β * β := Nat.mul_le_mul_right _ l3
    rw [Nat.add_mul, Nat.one_mul] at this; omega
  rw [e, Nat.mul_add_div (Nat.mul_pos hβ hβ), Nat.div_eq_of_lt l, Nat.add_zero]
theorem mul64_c {x y : Nat} {w : World} (hx : x < 18446744073709551616) (hy : y < 18446744073709551616) :
    Calls Tryz.prog 37 #[.int .u64 (x : Int), .int .u64 (y : Int)] w fun e w' => e = .returned (.tuple #[.int .u64 ((x * y / 18446744073709551616 : Nat) : Int), .int .u64 ((x * y % 18446744073709551616 : Nat) : Int)]) ∧ Below w.heap.size w w' := by
  obtain ⟨x0, hx0⟩ : ∃ q, q = x % 2 ^ 32 := ⟨_, rfl⟩
  obtain ⟨x1, hx1⟩ : ∃ q, q = x / 2 ^ 32 := ⟨_, rfl⟩
  obtain ⟨y0, hy0⟩ : ∃ q, q = y % 2 ^ 32 := ⟨_, rfl⟩
  obtain ⟨y1, hy1⟩ : ∃ q, q = y / 2 ^ 32 := ⟨_, rfl⟩
  have hm : ∀ a b : Nat, a < 4294967296 → b < 4294967296 → a * b ≤ 18446744065119617025 := fun a b ha hb => Nat.mul_le_mul (by omega : a ≤ 4294967295) (by omega : b ≤ 4294967295)
  have h00 := hm x0 y0 (by omega) (by omega)
  have h10 := hm x1 y0 (by omega) (by omega)
  have h01 := hm x0 y1 (by omega) (by omega)
  have h11 := hm x1 y1 (by omega) (by omega)
  have hxe : x = x1 * 4294967296 + x0 := by omega
  have hye : y = y1 * 4294967296 + y0 := by omega
  have hhi := mul_hi (β := 4294967296) (x0 := x0) (x1 := x1) (y0 := y0) (y1 := y1) (by decide)
  rw [← hxe, ← hye] at hhi
  refine enter (S := St (fun _ => True) w [] ([])) (L := [(0, .int .u64 (x : Int)), (1, .int .u64 (y : Int))]) Tryz.func37 rfl Tryz.ntmps37 rfl (args_cons rfl (args_cons rfl (args_nil _))) (St.start (fun _ _ => trivial) facts_nil) ?_
  refine WC.sr ?_
  refine WL.r rfl rfl rfl (rd_assign rfl rfl) ?_
  refine WL.r rfl rfl rfl (rd_assign rfl rfl) ?_
  refine WL.nt ?_
  refine WC.sr ?_
  refine WL.r rfl rfl rfl (rd_move rfl rfl) ?_
  refine WL.r rfl rfl rfl (rd_andW 32 rfl rfl rfl (by decide) ?_) ?_
  · omega
  refine WL.set 15 rfl (v' := .int .u64 ((x0 : Nat) : Int)) (congrArg (Value.int .u64) (by rw [hx0])) ?_
  refine WL.r rfl rfl rfl (rd_assign rfl rfl) ?_
  refine WL.nt ?_
  refine WC.sr ?_
  refine WL.r rfl rfl rfl (rd_move rfl rfl) ?_
  (refine WL.r rfl rfl rfl (rd_shrW (c := 32) rfl rfl rfl ?_) ?_; (focus (decide)))
  refine WL.set 17 rfl (v' := .int .u64 ((x1 : Nat) : Int)) (congrArg (Value.int .u64) (by rw [hx1])) ?_
  refine WL.r rfl rfl rfl (rd_assign rfl rfl) ?_
  refine WL.nt ?_
  refine WC.sr ?_
  refine WL.r rfl rfl rfl (rd_move rfl rfl) ?_
  refine WL.r rfl rfl rfl (rd_andW 32 rfl rfl rfl (by decide) ?_) ?_
  · omega
  refine WL.set 19 rfl (v' := .int .u64 ((y0 : Nat) : Int)) (congrArg (Value.int .u64) (by rw [hy0])) ?_
  refine WL.r rfl rfl rfl (rd_assign rfl rfl) ?_
  refine WL.nt ?_
  refine WC.sr ?_
  refine WL.r rfl rfl rfl (rd_move rfl rfl) ?_
  (refine WL.r rfl rfl rfl (rd_shrW (c := 32) rfl rfl rfl ?_) ?_; (focus (decide)))
  refine WL.set 21 rfl (v' := .int .u64 ((y1 : Nat) : Int)) (congrArg (Value.int .u64) (by rw [hy1])) ?_
  refine WL.r rfl rfl rfl (rd_assign rfl rfl) ?_
  refine WL.nt ?_
  refine WC.sr ?_
  refine WL.r rfl rfl rfl (rd_move rfl rfl) ?_
  refine WL.r rfl rfl rfl (rd_move rfl rfl) ?_
  (refine WL.r rfl rfl rfl (rd_mulW rfl rfl rfl ?_) ?_; (focus (omega)))
  refine WL.r rfl rfl rfl (rd_assign rfl rfl) ?_
  refine WL.nt ?_
  refine WC.sr ?_
  refine WL.r rfl rfl rfl (rd_move rfl rfl) ?_
  refine WL.r rfl rfl rfl (rd_move rfl rfl) ?_
  (refine WL.r rfl rfl rfl (rd_mulW rfl rfl rfl ?_) ?_; (focus (omega)))
  refine WL.r rfl rfl rfl (rd_move rfl rfl) ?_
  (refine WL.r rfl rfl rfl (rd_shrW (c := 32) rfl rfl rfl ?_) ?_; (focus (decide)))
  (refine WL.r rfl rfl rfl (rd_addW rfl rfl rfl ?_) ?_; (focus (omega)))
  refine WL.r rfl rfl rfl (rd_assign rfl rfl) ?_
  refine WL.nt ?_
  refine WC.sr ?_
  refine WL.r rfl rfl rfl (rd_move rfl rfl) ?_
  refine WL.r rfl rfl rfl (rd_andW 32 rfl rfl rfl (by decide) ?_) ?_
  · omega
  refine WL.r rfl rfl rfl (rd_assign rfl rfl) ?_
  refine WL.nt ?_
  refine WC.sr ?_
  refine WL.r rfl rfl rfl (rd_move rfl rfl) ?_
  (refine WL.r rfl rfl rfl (rd_shrW (c := 32) rfl rfl rfl ?_) ?_; (focus (decide)))
  refine WL.r rfl rfl rfl (rd_assign rfl rfl) ?_
  refine WL.nt ?_
  refine WC.sr ?_
  refine WL.r rfl rfl rfl (rd_move rfl rfl) ?_
  refine WL.r rfl rfl rfl (rd_move rfl rfl) ?_
  refine WL.r rfl rfl rfl (rd_move rfl rfl) ?_
  (refine WL.r rfl rfl rfl (rd_mulW rfl rfl rfl ?_) ?_; (focus (omega)))
  (refine WL.r rfl rfl rfl (rd_addW rfl rfl rfl ?_) ?_; (focus (omega)))
  refine WL.r rfl rfl rfl (rd_assign rfl rfl) ?_
  refine WL.nt ?_
  refine WC.sr ?_
  refine WL.r rfl rfl rfl (rd_move rfl rfl) ?_
  refine WL.r rfl rfl rfl (rd_move rfl rfl) ?_
  (refine WL.r rfl rfl rfl (rd_mulW rfl rfl rfl ?_) ?_; (focus (omega)))
  refine WL.r rfl rfl rfl (rd_move rfl rfl) ?_
  (refine WL.r rfl rfl rfl (rd_addW rfl rfl rfl ?_) ?_; (focus (omega)))
  refine WL.r rfl rfl rfl (rd_move rfl rfl) ?_
  (refine WL.r rfl rfl rfl (rd_shrW (c := 32) rfl rfl rfl ?_) ?_; (focus (decide)))
  (refine WL.r rfl rfl rfl (rd_addW rfl rfl rfl ?_) ?_; (focus (omega)))
  refine WL.r rfl rfl rfl (rd_assign rfl rfl) ?_
  refine WL.nt ?_
  refine WC.sr ?_
  refine WL.r rfl rfl rfl (rd_move rfl rfl) ?_
  refine WL.r rfl rfl rfl (rd_move rfl rfl) ?_
  (refine WL.r rfl rfl rfl (rd_mulM rfl rfl rfl) ?_)
  refine WL.r rfl rfl rfl (rd_assign rfl rfl) ?_
  refine WL.nt ?_
  refine WC.ret ?_
  exact WX.retN rfl (.tmp rfl (.tmp rfl .nil)) fun w' hS => ⟨by rw [hhi]; rfl, hS.below⟩
theorem big64 : 18446744073709551616 ≤ Big := by show 256 ^ 8 ≤ 256 ^ 128; exact Nat.pow_le_pow_right (by decide) (by decide)
def mulN (a b : Bs) : Bs × Int := if okN a ∧ okN b then (if val a * val b < Big then (canon (val a * val b), 0) else ([], 5)) else ([], 3)
theorem mul_lt_big {a b : Bs} (ha : okN a) (hb : okN b) : val a * val b < Big * Big := Nat.mul_lt_mul'' (okN_val ha) (okN_val hb)
theorem fit_mul {a b : Bs} (hab : okN a ∧ okN b) : (if 128 < (canon (val a * val b)).length then ([] : Bs) else canon (val a * val b)) = (mulN a b).1 ∧ (if 128 < (canon (val a * val b)).length then (5 : Int) else 0) = (mulN a b).2 := by
  rw [mulN, if_pos hab]
  by_cases h : val a * val b < Big
  · have := canon_big.2 h
    rw [if_pos h, if_neg (by omega), if_neg (by omega)]; exact ⟨rfl, rfl⟩
  · have : ¬ (canon (val a * val b)).length ≤ 128 := fun q => h (canon_big.1 q)
    rw [if_neg h, if_pos (by omega), if_pos (by omega)]; exact ⟨rfl, rfl⟩
theorem mul_c {a b : Bs} {w : World} :
    Calls Tryz.prog 16 #[.string (S a), .string (S b)] w fun e w' => e = .returned (NE (mulN a b)) ∧ Below w.heap.size w w' := by
  obtain ⟨sa, hsa⟩ : ∃ q, q = smallN a := ⟨_, rfl⟩
  obtain ⟨sb, hsb⟩ : ∃ q, q = smallN b := ⟨_, rfl⟩
  have hla := small_lt a; have hlb := small_lt b
  rw [← hsa] at hla; rw [← hsb] at hlb
  refine enter (S := St (fun _ => True) w [] ([])) (L := [(0, .string (S a)), (1, .string (S b))]) Tryz.func16 rfl Tryz.ntmps16 rfl (args_cons rfl (args_cons rfl (args_nil _))) (St.start (fun _ _ => trivial) facts_nil) ?_
  refine WC.sr ?_
  refine WL.r rfl rfl rfl (rd_assign rfl rfl) ?_
  refine WL.r rfl rfl rfl (rd_assign rfl rfl) ?_
  refine WL.nt ?_
  refine WC.seq ?_
  refine WC.sr ?_
  refine WL.r rfl rfl rfl (rd_move rfl rfl) ?_
  refine WL.g rfl rfl rfl (og_call rfl rfl (by kernel_rfl) (keep_val fun w hS => valid_c)) ?_
  intro _
  refine WL.r rfl rfl rfl (rd_not rfl rfl) ?_
  refine WL.r rfl rfl rfl (rd_move rfl rfl) ?_
  refine WL.bool 16 rfl (fun hg16 => ?_) (fun hg16 => ?_)
  · (try simp only [sB] at hg16)
    refine WL.s rfl rfl rfl ?_
    refine WL.s rfl rfl rfl ?_
    refine WL.s rfl rfl rfl ?_
    refine WL.r rfl rfl rfl (rd_pickt rfl rfl rfl) ?_
    refine WL.nt ?_
    refine WC.cond rfl (fun _ => ?_) (fun h => by cases h)
    refine WC.sr ?_
    refine WL.r rfl rfl rfl (rd_assign rfl rfl) ?_
    refine WL.r rfl rfl rfl (rd_assign rfl rfl) ?_
    refine WL.nt ?_
    refine WC.ret ?_
    refine WX.then_ret ?_
    exact WX.retN rfl (.tmp rfl (.tmp rfl .nil)) fun w' hS => ⟨by rw [mulN, if_neg (by simp_all)]; rfl, hS.below⟩
  · (try simp only [sB] at hg16)
    refine WL.r rfl rfl rfl (rd_move rfl rfl) ?_
    refine WL.g rfl rfl rfl (og_call rfl rfl (by kernel_rfl) (keep_val fun w hS => valid_c)) ?_
    intro _
    refine WL.r rfl rfl rfl (rd_not rfl rfl) ?_
    refine WL.r rfl rfl rfl (rd_pickf rfl rfl rfl) ?_
    refine WL.nt ?_
    refine WC.cond rfl (fun hc20 => ?_) (fun hc20 => ?_)
    · (try simp only [sB] at hc20)
      refine WC.sr ?_
      refine WL.r rfl rfl rfl (rd_assign rfl rfl) ?_
      refine WL.r rfl rfl rfl (rd_assign rfl rfl) ?_
      refine WL.nt ?_
      refine WC.ret ?_
      refine WX.then_ret ?_
      exact WX.retN rfl (.tmp rfl (.tmp rfl .nil)) fun w' hS => ⟨by rw [mulN, if_neg (by simp_all)]; rfl, hS.below⟩
    · (try simp only [sB] at hc20)
      have hab : okN a ∧ okN b := by simp_all
      have hal := hab.1.1; have hbl := hab.2.1
      refine WC.skip ?_
      refine WX.then_normal ?_
      refine WC.sr ?_
      refine WL.r rfl rfl rfl (rd_move rfl rfl) ?_
      refine WL.g rfl rfl rfl (og_call rfl rfl (by kernel_rfl) (keep_val fun w hS => (by have := small_c (w := w) (a := a) (by omega); rw [← hsa] at this; exact this))) ?_
      intro _
      refine WL.r rfl rfl rfl (rd_move rfl rfl) ?_
      refine WL.r rfl rfl rfl (rd_extL rfl rfl rfl) ?_
      refine WL.r rfl rfl rfl (rd_extL rfl rfl rfl) ?_
      refine WL.r rfl rfl rfl (rd_assign rfl rfl) ?_
      refine WL.r rfl rfl rfl (rd_assign rfl rfl) ?_
      refine WL.nt ?_
      refine WC.sr ?_
      refine WL.r rfl rfl rfl (rd_move rfl rfl) ?_
      refine WL.g rfl rfl rfl (og_call rfl rfl (by kernel_rfl) (keep_val fun w hS => (by have := small_c (w := w) (a := b) (by omega); rw [← hsb] at this; exact this))) ?_
      intro _
      refine WL.r rfl rfl rfl (rd_move rfl rfl) ?_
      refine WL.r rfl rfl rfl (rd_extL rfl rfl rfl) ?_
      refine WL.r rfl rfl rfl (rd_extL rfl rfl rfl) ?_
      refine WL.r rfl rfl rfl (rd_assign rfl rfl) ?_
      refine WL.r rfl rfl rfl (rd_assign rfl rfl) ?_
      refine WL.nt ?_
      refine WC.seq ?_
      refine WC.sr ?_
      refine WL.r rfl rfl rfl (rd_move rfl rfl) ?_
      refine WL.r rfl rfl rfl (rd_move rfl rfl) ?_
      refine WL.g rfl rfl rfl (og_call rfl rfl (by kernel_rfl) (keep_val fun w hS => mul64_c (x := sa.1) (y := sb.1) (by assumption) (by assumption))) ?_
      intro _
      refine WL.r rfl rfl rfl (rd_move rfl rfl) ?_
      refine WL.r rfl rfl rfl (rd_extL rfl rfl rfl) ?_
      refine WL.r rfl rfl rfl (rd_extL rfl rfl rfl) ?_
      refine WL.r rfl rfl rfl (rd_assign rfl rfl) ?_
      refine WL.r rfl rfl rfl (rd_assign rfl rfl) ?_
      refine WL.nt ?_
      refine WC.joinP (σ := Unit) [(0, _), (1, _), (4, _), (5, _), (11, _)] (fun g => [(48, .bool (decide (a.length ≤ 8 ∧ b.length ≤ 8 ∧ sa.1 * sb.1 / 18446744073709551616 = 0)))]) (fun g => True) (sub_cons rfl (sub_cons rfl (sub_cons rfl (sub_cons rfl (sub_cons rfl (sub_nil _)))))) ?_ ?_
      · skip
        refine WC.region ?_
        refine WL.r rfl rfl rfl (rd_move rfl rfl) ?_
        refine WL.r rfl rfl rfl (rd_slen rfl rfl Tryz.underlying22) ?_
        refine WL.r rfl rfl rfl (rd_leq rfl rfl rfl) ?_
        refine WL.r rfl rfl rfl (rd_move rfl rfl) ?_
        refine WL.bool 40 rfl (fun hg40 => ?_) (fun hg40 => ?_)
        · (try simp only [sB] at hg40)
          refine WL.r rfl rfl rfl (rd_move rfl rfl) ?_
          refine WL.r rfl rfl rfl (rd_slen rfl rfl Tryz.underlying22) ?_
          refine WL.r rfl rfl rfl (rd_leq rfl rfl rfl) ?_
          refine WL.r rfl rfl rfl (rd_pickt rfl rfl rfl) ?_
          refine WL.r rfl rfl rfl (rd_move rfl rfl) ?_
          refine WL.bool 45 rfl (fun hg45 => ?_) (fun hg45 => ?_)
          · (try simp only [sB] at hg45)
            refine WL.r rfl rfl rfl (rd_move rfl rfl) ?_
            refine WL.r rfl rfl rfl (rd_eql rfl rfl rfl) ?_
            refine WL.r rfl rfl rfl (rd_pickt rfl rfl rfl) ?_
            refine WL.nil ?_
            refine WX.joinP (()) (sub_cons rfl (sub_cons rfl (sub_cons rfl (sub_cons rfl (sub_cons rfl (sub_nil _)))))) (by refine (sub_cons ?_ (sub_nil _)) <;> ((exact congrArg (fun b => some (Value.bool b)) (by apply decide_eq_decide.2; omega)))) ?_ (by (exact fun _ h => h))
            (try dsimp only)
            done
          · (try simp only [sB] at hg45)
            refine WL.s rfl rfl rfl ?_
            refine WL.s rfl rfl rfl ?_
            refine WL.r rfl rfl rfl (rd_pickf rfl rfl rfl) ?_
            refine WL.nil ?_
            refine WX.joinP (()) (sub_cons rfl (sub_cons rfl (sub_cons rfl (sub_cons rfl (sub_cons rfl (sub_nil _)))))) (by refine (sub_cons ?_ (sub_nil _)) <;> ((exact congrArg (fun b => some (Value.bool b)) (by symm; apply decide_eq_false; omega)))) ?_ (by (exact fun _ h => h))
            (try dsimp only)
            done
        · (try simp only [sB] at hg40)
          refine WL.s rfl rfl rfl ?_
          refine WL.s rfl rfl rfl ?_
          refine WL.s rfl rfl rfl ?_
          refine WL.r rfl rfl rfl (rd_pickf rfl rfl rfl) ?_
          refine WL.r rfl rfl rfl (rd_move rfl rfl) ?_
          refine WL.s rfl rfl rfl ?_
          refine WL.s rfl rfl rfl ?_
          refine WL.r rfl rfl rfl (rd_pickf rfl rfl rfl) ?_
          refine WL.nil ?_
          refine WX.joinP (()) (sub_cons rfl (sub_cons rfl (sub_cons rfl (sub_cons rfl (sub_cons rfl (sub_nil _)))))) (by refine (sub_cons ?_ (sub_nil _)) <;> ((exact congrArg (fun b => some (Value.bool b)) (by symm; apply decide_eq_false; omega)))) ?_ (by (exact fun _ h => h))
          (try dsimp only)
          done
      · rintro _ hmeet; (try dsimp only at hmeet ⊢)
        refine WC.cond rfl (fun hc48 => ?_) (fun hc48 => ?_)
        · (try simp only [sB] at hc48)
          have e1 : sa.1 = val a := by rw [hsa, smallN, if_pos ⟨hab.1, hc48.1⟩]
          have e2 : sb.1 = val b := by rw [hsb, smallN, if_pos ⟨hab.2, hc48.2.1⟩]
          have hlt : val a * val b < 18446744073709551616 := by have := hc48.2.2; rw [e1, e2] at this; omega
          have hr : mulN a b = (canon (val a * val b), 0) := by rw [mulN, if_pos hab, if_pos (Nat.lt_of_lt_of_le hlt big64)]
          refine WC.sr ?_
          refine WL.r rfl rfl rfl (rd_move rfl rfl) ?_
          refine WL.g rfl rfl rfl (og_call rfl rfl (by kernel_rfl) (keep_val fun w hS => of_c (by omega))) ?_
          intro _
          refine WL.r rfl rfl rfl (rd_assign rfl rfl) ?_
          refine WL.r rfl rfl rfl (rd_assign rfl rfl) ?_
          refine WL.nt ?_
          refine WC.ret ?_
          refine WX.then_ret ?_
          exact WX.retN rfl (.tmp rfl (.tmp rfl .nil)) fun w' hS => ⟨by rw [hr, e1, e2, Nat.mod_eq_of_lt hlt]; rfl, hS.below⟩
        · (try simp only [sB] at hc48)
          have hfm := fit_mul hab
          refine WC.skip ?_
          refine WX.then_normal ?_
          refine WC.sr ?_
          refine WL.g rfl rfl rfl (og_alloc rfl (v := (.agg (List.replicate 256 (.int .i64 0)).toArray)) (cs := (List.replicate 256 (.int .i64 0))) (by kernel_rfl) rfl) ?_
          intro b12
          refine WL.nt ?_
          refine WC.sr ?_
          refine WL.r rfl rfl rfl (rd_move rfl rfl) ?_
          refine WL.r rfl rfl rfl (rd_move rfl rfl) ?_
          refine WL.g rfl rfl rfl (og_call rfl rfl (by kernel_rfl) (fun w hS => product_c (a := a) (b := b) (p := b12) (cs := List.replicate 256 (.int .i64 0)) hS (by simp) (by omega) (by omega))) ?_
          intro c
          refine WL.g rfl rfl rfl (og_call rfl rfl (by kernel_rfl) (keep_val fun w hS => fitting_c (a := canon (val a * val b)))) ?_
          intro _
          refine WL.r rfl rfl rfl (rd_extL rfl rfl rfl) ?_
          refine WL.r rfl rfl rfl (rd_extL rfl rfl rfl) ?_
          refine WL.r rfl rfl rfl (rd_assign rfl rfl) ?_
          refine WL.r rfl rfl rfl (rd_assign rfl rfl) ?_
          refine WL.nt ?_
          refine WC.ret ?_
          exact WX.retN rfl (.tmp rfl (.tmp rfl .nil)) fun w' hS => ⟨by simp only [tup, NE]; rw [← hfm.1, ← hfm.2], hS.below⟩
theorem rtimes_c {a b : Bs} {w : World} (ha : a.length ≤ 50000) (hb : b.length ≤ 50000) :
    Calls Tryz.prog 42 #[.string (S a), .string (S b)] w fun e w' => e = .returned (.string (S (canon (val a * val b)))) ∧ Below w.heap.size w w' := by
  obtain ⟨V, hV⟩ : ∃ V, V = val a * val b := ⟨_, rfl⟩
  have hVl : V < 256 ^ (a.length + b.length) := by rw [hV, Nat.pow_add]; exact Nat.mul_lt_mul'' (val_lt a) (val_lt b)
  rw [← hV]
  refine enter (S := St (fun _ => True) w [] ([])) (L := [(0, .string (S a)), (1, .string (S b))]) Tryz.func42 rfl Tryz.ntmps42 rfl (args_cons rfl (args_cons rfl (args_nil _))) (St.start (fun _ _ => trivial) facts_nil) ?_
  refine WC.sr ?_
  refine WL.r rfl rfl rfl (rd_assign rfl rfl) ?_
  refine WL.nt ?_
  refine WC.seq ?_
  refine WC.sr ?_
  refine WL.r rfl rfl rfl (rd_move rfl rfl) ?_
  refine WL.r rfl rfl rfl (rd_slen rfl rfl Tryz.underlying22) ?_
  refine WL.r rfl rfl rfl (rd_move rfl rfl) ?_
  refine WL.r rfl rfl rfl (rd_slen rfl rfl Tryz.underlying22) ?_
  (refine WL.r rfl rfl rfl (rd_add64n rfl rfl rfl ?_) ?_; (focus (omega)))
  refine WL.r rfl rfl rfl (rd_leq rfl rfl rfl) ?_
  refine WL.nt ?_
  refine WC.cond rfl (fun hc18 => ?_) (fun hc18 => ?_)
  · (try simp only [sB] at hc18)
    have hV8 : V < 18446744073709551616 := Nat.lt_of_lt_of_le hVl (Nat.le_trans (Nat.pow_le_pow_right (by decide) (by omega : a.length + b.length ≤ 8)) (by decide))
    refine WC.sr ?_
    refine WL.r rfl rfl rfl (rd_move rfl rfl) ?_
    refine WL.g rfl rfl rfl (og_call rfl rfl (by kernel_rfl) (keep_val fun w hS => ru64_c (a := a) (by omega))) ?_
    intro _
    refine WL.r rfl rfl rfl (rd_move rfl rfl) ?_
    refine WL.g rfl rfl rfl (og_call rfl rfl (by kernel_rfl) (keep_val fun w hS => ru64_c (a := b) (by omega))) ?_
    intro _
    (refine WL.r rfl rfl rfl (rd_mulW rfl rfl rfl ?_) ?_; (focus (omega)))
    refine WL.set 23 rfl (v' := .int .u64 ((V : Nat) : Int)) (congrArg (Value.int .u64) (by rw [hV])) ?_
    refine WL.g rfl rfl rfl (og_call rfl rfl (by kernel_rfl) (keep_val fun w hS => rof_c (n := V) (by assumption))) ?_
    intro _
    refine WL.r rfl rfl rfl (rd_assign rfl rfl) ?_
    refine WL.nt ?_
    refine WC.ret ?_
    refine WX.then_ret ?_
    exact WX.retN rfl (.tmp rfl .nil) fun w' hS => ⟨by rfl, hS.below⟩
  · (try simp only [sB] at hc18)
    refine WC.skip ?_
    refine WX.then_normal ?_
    refine WC.sr ?_
    refine WL.r rfl rfl rfl (rd_move rfl rfl) ?_
    refine WL.r rfl rfl rfl (rd_slen rfl rfl Tryz.underlying22) ?_
    refine WL.r rfl rfl rfl (rd_move rfl rfl) ?_
    refine WL.r rfl rfl rfl (rd_slen rfl rfl Tryz.underlying22) ?_
    (refine WL.r rfl rfl rfl (rd_add64n rfl rfl rfl ?_) ?_; (focus (omega)))
    refine WL.r rfl rfl rfl (rd_assign rfl rfl) ?_
    refine WL.nt ?_
    refine WC.sr ?_
    refine WL.r rfl rfl rfl (rd_move rfl rfl) ?_
    (refine WL.r rfl rfl rfl (rd_add64nl rfl rfl rfl ?_) ?_; (focus (omega)))
    refine WL.g rfl rfl rfl (og_mk rfl rfl rfl Tryz.underlying107 (by kernel_rfl : _ = some (some (.int .i64 0), 1, 8)) rfl ?_ (by (try simp only [sN, Int.reduceToNat, Nat.reduceAdd, Nat.reduceMul, Nat.reduceSub]); rfl) (by (try simp only [sN, Int.reduceToNat, Nat.reduceAdd, Nat.reduceMul, Nat.reduceSub]); rfl)) ?_
    · omega
    intro b32
    refine WL.r rfl rfl rfl (rd_assign rfl rfl) ?_
    refine WL.nt ?_
    refine WC.seq ?_
    refine WC.sr ?_
    refine WL.r rfl rfl rfl (rd_assign rfl rfl) ?_
    refine WL.nt ?_
    refine WC.block ?_
    refine WC.loopO (σ := Nat × (List Nat)) [(0, _), (1, _), (4, _), (5, _), (6, _)] (fun g => [(7, .int .i64 (g.1 : Int))]) (fun g => g.1 ≤ a.length ∧ ColInv (a.length + b.length + 1) (val a) (val b) g.1 0 g.2) (fun g => a.length - g.1) (fun g => [⟨some b32, cols g.2, 3⟩]) (fun g => []) (0, List.replicate (a.length + b.length + 1) 0) (sub_cons rfl (sub_cons rfl (sub_cons rfl (sub_cons rfl (sub_cons rfl (sub_nil _)))))) (sub_cons rfl (sub_nil _)) (by (try dsimp only); exact ⟨Nat.zero_le _, col_start _ _ _⟩) (by exact fun w h => by rw [cols_rep]; exact h) ?_
    rintro ⟨i, c⟩ hinv1; (try dsimp only at hinv1 ⊢)
    obtain ⟨hi, hci⟩ := hinv1
    refine WC.seq ?_
    refine WC.sr ?_
    refine WL.r rfl rfl rfl (rd_move rfl rfl) ?_
    refine WL.r rfl rfl rfl (rd_move rfl rfl) ?_
    refine WL.r rfl rfl rfl (rd_slen rfl rfl Tryz.underlying22) ?_
    refine WL.r rfl rfl rfl (rd_lss rfl rfl rfl) ?_
    refine WL.nt ?_
    refine WC.cond rfl (fun hc36 => ?_) (fun hc36 => ?_)
    · (try simp only [sB] at hc36)
      refine WC.skip ?_
      refine WX.then_normal ?_
      refine WC.seq ?_
      refine WC.block ?_
      refine WC.sr ?_
      refine WL.r rfl rfl rfl (rd_assign rfl rfl) ?_
      refine WL.nt ?_
      refine WC.block ?_
      refine WC.loopO (σ := Nat × (List Nat)) [(0, _), (1, _), (4, _), (5, _), (6, _), (7, _), (33, _), (34, _), (35, _), (36, _)] (fun g => [(8, .int .i64 (g.1 : Int))]) (fun g => g.1 ≤ b.length ∧ ColInv (a.length + b.length + 1) (val a) (val b) i g.1 g.2) (fun g => b.length - g.1) (fun g => [⟨some b32, cols g.2, 3⟩]) (fun g => []) (0, c) (sub_cons rfl (sub_cons rfl (sub_cons rfl (sub_cons rfl (sub_cons rfl (sub_cons rfl (sub_cons rfl (sub_cons rfl (sub_cons rfl (sub_cons rfl (sub_nil _))))))))))) (sub_cons rfl (sub_nil _)) (by (try dsimp only); exact ⟨Nat.zero_le _, hci⟩) (by (exact fun _ h => h)) ?_
      rintro ⟨k, c2⟩ hinv2; (try dsimp only at hinv2 ⊢)
      obtain ⟨hk, hck⟩ := hinv2
      refine WC.seq ?_
      refine WC.sr ?_
      refine WL.r rfl rfl rfl (rd_move rfl rfl) ?_
      refine WL.r rfl rfl rfl (rd_move rfl rfl) ?_
      refine WL.r rfl rfl rfl (rd_slen rfl rfl Tryz.underlying22) ?_
      refine WL.r rfl rfl rfl (rd_lss rfl rfl rfl) ?_
      refine WL.nt ?_
      refine WC.cond rfl (fun hc42 => ?_) (fun hc42 => ?_)
      · (try simp only [sB] at hc42)
        have hcl := hck.len
        have hca := col_add hck (by omega) (i + k)
        have hcs2 := col_step hck (by omega)
        refine WC.skip ?_
        refine WX.then_normal ?_
        refine WC.seq ?_
        refine WC.block ?_
        refine WC.free0 [6, 7, 8, 9, 10, 11, 0, 1, 2, 3, 4, 5, 12, 13, 14] [15] [0, 0, 0, 0, 0, 0, 0, 0, 1, 0, 0, 1, 0, 0, 0, 2] (by kernel_rfl) (by kernel_rfl) rfl ?_
        refine WJ.r rfl rfl rfl rfl rfl (rd_move rfl rfl) ?_
        refine WJ.r rfl rfl rfl rfl rfl (rd_move rfl rfl) ?_
        refine WJ.gv rfl rfl rfl rfl rfl (fun ext => og_call rfl rfl (by kernel_rfl) (keep_val fun w hS => rat_c (a := a) (i := i) (by omega) (by omega))) ?_
        refine WJ.r rfl rfl rfl rfl rfl (rd_move rfl rfl) ?_
        refine WJ.r rfl rfl rfl rfl rfl (rd_move rfl rfl) ?_
        refine WJ.gv rfl rfl rfl rfl rfl (fun ext => og_call rfl rfl (by kernel_rfl) (keep_val fun w hS => rat_c (a := b) (i := k) (by omega) (by omega))) ?_
        refine WJ.r rfl rfl rfl rfl rfl (rd_move rfl rfl) ?_
        refine WJ.r rfl rfl rfl rfl rfl (rd_move rfl rfl) ?_
        refine WJ.r rfl rfl rfl rfl rfl (rd_move rfl rfl) ?_
        (refine WJ.r rfl rfl rfl rfl rfl (rd_add64n rfl rfl rfl ?_) ?_; (focus (omega)))
        (refine WJ.r rfl rfl rfl rfl rfl (rd_ia rfl rfl rfl Tryz.underlying107 (by kernel_rfl : _ = some 1) ?_ (by (try simp only [sN, Int.reduceToNat, Nat.reduceAdd, Nat.reduceMul, Nat.reduceSub]); rfl)) ?_; (focus (omega)))
        refine WJ.r rfl rfl rfl rfl rfl (ld rfl rfl .tc Tryz.underlying3 rfl (cols_get c2 _ (by omega))) ?_
        (refine WJ.r rfl rfl rfl rfl rfl (rd_mul64n rfl rfl rfl ?_) ?_; (focus (omega)))
        (refine WJ.r rfl rfl rfl rfl rfl (rd_add64n rfl rfl rfl ?_) ?_; (focus (omega)))
        (refine WJ.r rfl rfl rfl rfl rfl (rd_ia rfl rfl rfl Tryz.underlying107 (by kernel_rfl : _ = some 1) ?_ (by (try simp only [sN, Int.reduceToNat, Nat.reduceAdd, Nat.reduceMul, Nat.reduceSub]); rfl)) ?_; (focus (omega)))
        refine WJ.nil ?_
        refine WL.g0 rfl rfl (st rfl rfl rfl .tc (by kernel_rfl) rfl ?_ (by rfl)) ?_
        · rw [cols_len]; omega
        intro _
        rw [cols_set]
        refine WL.nil ?_
        refine WX.block_normal ?_
        refine WX.then_normal ?_
        refine WC.region ?_
        refine WL.r rfl rfl rfl (rd_move rfl rfl) ?_
        (refine WL.r rfl rfl rfl (rd_add64nl rfl rfl rfl ?_) ?_; (focus (omega)))
        refine WL.r rfl rfl rfl (rd_assign rfl rfl) ?_
        refine WL.nil ?_
        refine WX.loopO ((k + 1, c2.set (i + k) (c2.getD (i + k) 0 + val a / 256 ^ i % 256 * (val b / 256 ^ k % 256)))) (by (try dsimp only); omega) (sub_cons rfl (sub_cons rfl (sub_cons rfl (sub_cons rfl (sub_cons rfl (sub_cons rfl (sub_cons rfl (sub_cons rfl (sub_cons rfl (sub_cons rfl (sub_nil _))))))))))) (by refine (sub_cons ?_ (sub_nil _)) <;> (rfl)) ?_ (by (exact fun _ h => h))
        (try dsimp only)
        exact ⟨by omega, hcs2⟩
      · (try simp only [sB] at hc42)
        refine WC.exit ?_
        refine WX.then_exit ?_
        refine WX.then_exit ?_
        refine WX.block_exit ?_
        obtain rfl : k = b.length := by omega
        have hrow := col_row hck (val_lt b)
        refine WX.block_normal ?_
        refine WX.then_normal ?_
        refine WC.region ?_
        refine WL.r rfl rfl rfl (rd_move rfl rfl) ?_
        (refine WL.r rfl rfl rfl (rd_add64nl rfl rfl rfl ?_) ?_; (focus (omega)))
        refine WL.r rfl rfl rfl (rd_assign rfl rfl) ?_
        refine WL.nil ?_
        refine WX.loopO ((i + 1, c2)) (by (try dsimp only); omega) (sub_cons rfl (sub_cons rfl (sub_cons rfl (sub_cons rfl (sub_cons rfl (sub_nil _)))))) (by refine (sub_cons ?_ (sub_nil _)) <;> (rfl)) ?_ (by (exact fun _ h => h))
        (try dsimp only)
        exact ⟨by omega, hrow⟩
    · (try simp only [sB] at hc36)
      refine WC.exit ?_
      refine WX.then_exit ?_
      refine WX.then_exit ?_
      refine WX.block_exit ?_
      obtain rfl : i = a.length := by omega
      have hev := col_end hci (val_lt a)
      have hcl := hci.len
      rw [← hV] at hev
      refine WX.then_normal ?_
      refine WC.sr ?_
      refine WL.r rfl rfl rfl (rd_move rfl rfl) ?_
      refine WL.g rfl rfl rfl (og_mk rfl rfl rfl Tryz.underlying79 (by kernel_rfl : _ = some (some (.int .u8 0), 1, 1)) rfl ?_ (by (try simp only [sN, Int.reduceToNat, Nat.reduceAdd, Nat.reduceMul, Nat.reduceSub]); rfl) (by (try simp only [sN, Int.reduceToNat, Nat.reduceAdd, Nat.reduceMul, Nat.reduceSub]); rfl)) ?_
      · omega
      intro b61
      refine WL.r rfl rfl rfl (rd_assign rfl rfl) ?_
      refine WL.nt ?_
      refine WC.sr ?_
      refine WL.r rfl rfl rfl (rd_assign rfl rfl) ?_
      refine WL.nt ?_
      refine WC.seq ?_
      refine WC.sr ?_
      refine WL.r rfl rfl rfl (rd_assign rfl rfl) ?_
      refine WL.nt ?_
      refine WC.block ?_
      refine WC.loopO (σ := Nat × Nat) [(4, _), (5, _), (6, _), (9, _)] (fun g => [(10, .int .i64 (g.2 : Int)), (11, .int .i64 (g.1 : Int))]) (fun g => g.1 ≤ a.length + b.length ∧ g.2 = colC 256 c g.1) (fun g => a.length + b.length - g.1) (fun g => [⟨some b61, lowB (a.length + b.length) g.1 V, 5⟩, ⟨some b32, cols c, 3⟩]) (fun g => []) (0, 0) (sub_cons rfl (sub_cons rfl (sub_cons rfl (sub_cons rfl (sub_nil _))))) (sub_cons rfl (sub_cons rfl (sub_nil _))) (by (try dsimp only); exact ⟨Nat.zero_le _, (colC_zero 256 c).symm⟩) (by exact fun w h => by rw [lowB_zero]; exact h) ?_
      rintro ⟨i, cy⟩ hinv3; (try dsimp only at hinv3 ⊢)
      obtain ⟨hi, hcy⟩ := hinv3
      refine WC.seq ?_
      refine WC.sr ?_
      refine WL.r rfl rfl rfl (rd_move rfl rfl) ?_
      refine WL.r rfl rfl rfl (rd_move rfl rfl) ?_
      refine WL.r rfl rfl rfl (rd_lss rfl rfl rfl) ?_
      refine WL.nt ?_
      refine WC.cond rfl (fun hc64 => ?_) (fun hc64 => ?_)
      · (try simp only [sB] at hc64)
        have hcc := col_carry (i := i) hci (by omega) (by omega)
        have hcs3 := colC_succ 256 (by decide) c i (by omega)
        have hcd := colC_digit 256 (by decide) c i (by omega)
        rw [← hcy] at hcc hcs3 hcd
        rw [hev] at hcd
        refine WC.skip ?_
        refine WX.then_normal ?_
        refine WC.seq ?_
        refine WC.block ?_
        refine WC.sr ?_
        refine WL.r rfl rfl rfl (rd_move rfl rfl) ?_
        refine WL.r rfl rfl rfl (rd_move rfl rfl) ?_
        (refine WL.r rfl rfl rfl (rd_ia rfl rfl rfl Tryz.underlying107 (by kernel_rfl : _ = some 1) ?_ (by (try simp only [sN, Int.reduceToNat, Nat.reduceAdd, Nat.reduceMul, Nat.reduceSub]); rfl)) ?_; (focus (omega)))
        refine WL.r rfl rfl rfl (ld rfl rfl .tc Tryz.underlying3 rfl (cols_get c _ (by omega))) ?_
        refine WL.r rfl rfl rfl (rd_move rfl rfl) ?_
        (refine WL.r rfl rfl rfl (rd_add64n rfl rfl rfl ?_) ?_; (focus (omega)))
        refine WL.set 72 rfl (v' := .int .i64 ((cy + c.getD i 0 : Nat) : Int)) (congrArg (Value.int .i64) (by omega)) ?_
        refine WL.r rfl rfl rfl (rd_assign rfl rfl) ?_
        refine WL.nt ?_
        refine WC.sr ?_
        refine WL.r rfl rfl rfl (rd_move rfl rfl) ?_
        refine WL.r rfl rfl rfl (rd_move rfl rfl) ?_
        (refine WL.r rfl rfl rfl (rd_sub64nl rfl rfl rfl ?_) ?_; (focus (omega)))
        refine WL.r rfl rfl rfl (rd_move rfl rfl) ?_
        (refine WL.r rfl rfl rfl (rd_sub64n rfl rfl rfl ?_) ?_; (focus (omega)))
        refine WL.r rfl rfl rfl (rd_move rfl rfl) ?_
        (refine WL.r rfl rfl rfl (rd_rem64nl rfl rfl rfl ?_) ?_; (focus (omega)))
        (refine WL.r rfl rfl rfl (rd_convB rfl rfl Tryz.underlying3 Tryz.underlying5) ?_)
        refine WL.set 80 rfl (v' := B (UInt8.ofNat (V / 256 ^ i))) (by exact congrArg (fun b : UInt8 => B b) (u8_mod (by omega))) ?_
        (refine WL.r rfl rfl rfl (rd_ia rfl rfl rfl Tryz.underlying79 (by kernel_rfl : _ = some 1) ?_ (by (try simp only [sN, Int.reduceToNat, Nat.reduceAdd, Nat.reduceMul, Nat.reduceSub]); rfl)) ?_; (focus (omega)))
        refine WL.g0 rfl rfl (st rfl rfl rfl .tc (by kernel_rfl) rfl ?_ (by rfl)) ?_
        · rw [lowB_len _ _ _ (by omega)]; omega
        intro _
        refine WL.nt ?_
        refine WC.region ?_
        refine WL.r rfl rfl rfl (rd_move rfl rfl) ?_
        (refine WL.r rfl rfl rfl (rd_quo64nl rfl rfl rfl ?_) ?_; (focus (omega)))
        refine WL.r rfl rfl rfl (rd_assign rfl rfl) ?_
        refine WL.nil ?_
        refine WX.block_normal ?_
        refine WX.then_normal ?_
        refine WC.region ?_
        refine WL.r rfl rfl rfl (rd_move rfl rfl) ?_
        (refine WL.r rfl rfl rfl (rd_add64nl rfl rfl rfl ?_) ?_; (focus (omega)))
        refine WL.r rfl rfl rfl (rd_assign rfl rfl) ?_
        refine WL.nil ?_
        refine WX.loopO ((i + 1, (cy + c.getD i 0) / 256)) (by (try dsimp only); omega) (sub_cons rfl (sub_cons rfl (sub_cons rfl (sub_cons rfl (sub_nil _))))) (by refine (sub_cons ?_ (sub_cons ?_ (sub_nil _))) <;> (rfl)) ?_ (by exact fun w h => by rw [← lowB_set (a.length + b.length) i V (by omega)]; exact h)
        (try dsimp only)
        exact ⟨by omega, hcs3.symm⟩
      · (try simp only [sB] at hc64)
        refine WC.exit ?_
        refine WX.then_exit ?_
        refine WX.then_exit ?_
        refine WX.block_exit ?_
        obtain rfl : i = a.length + b.length := by omega
        rw [lowB_full]
        have hbl := be_len (a.length + b.length) V
        refine WX.then_normal ?_
        refine WC.sr ?_
        refine WL.r rfl rfl rfl (rd_move rfl rfl) ?_
        refine WL.g rfl rfl rfl (og_call rfl rfl (by kernel_rfl) (keep_val fun w hS => rtrim_c (b := be (a.length + b.length) V) (by (exact hS.os)) (by omega) (by omega) (by omega))) ?_
        intro _
        refine WL.r rfl rfl rfl (rd_assign rfl rfl) ?_
        refine WL.nt ?_
        refine WC.ret ?_
        exact WX.retN rfl (.tmp rfl .nil) fun w' hS => ⟨by rw [val_be, Nat.mod_eq_of_lt hVl]; rfl, hS.below⟩
theorem rmul_c {a b : Bs} {w : World} :
    Calls Tryz.prog 19 #[.string (S a), .string (S b)] w fun e w' => e = .returned (NE (mulN a b)) ∧ Below w.heap.size w w' := by
  refine enter (S := St (fun _ => True) w [] ([])) (L := [(0, .string (S a)), (1, .string (S b))]) Tryz.func19 rfl Tryz.ntmps19 rfl (args_cons rfl (args_cons rfl (args_nil _))) (St.start (fun _ _ => trivial) facts_nil) ?_
  refine WC.sr ?_
  refine WL.r rfl rfl rfl (rd_assign rfl rfl) ?_
  refine WL.r rfl rfl rfl (rd_assign rfl rfl) ?_
  refine WL.nt ?_
  refine WC.seq ?_
  refine WC.sr ?_
  refine WL.r rfl rfl rfl (rd_move rfl rfl) ?_
  refine WL.g rfl rfl rfl (og_call rfl rfl (by kernel_rfl) (keep_val fun w hS => rvalid_c)) ?_
  intro _
  refine WL.r rfl rfl rfl (rd_not rfl rfl) ?_
  refine WL.r rfl rfl rfl (rd_move rfl rfl) ?_
  refine WL.bool 9 rfl (fun hg9 => ?_) (fun hg9 => ?_)
  · (try simp only [sB] at hg9)
    refine WL.s rfl rfl rfl ?_
    refine WL.s rfl rfl rfl ?_
    refine WL.s rfl rfl rfl ?_
    refine WL.r rfl rfl rfl (rd_pickt rfl rfl rfl) ?_
    refine WL.nt ?_
    refine WC.cond rfl (fun _ => ?_) (fun h => by cases h)
    refine WC.sr ?_
    refine WL.r rfl rfl rfl (rd_assign rfl rfl) ?_
    refine WL.r rfl rfl rfl (rd_assign rfl rfl) ?_
    refine WL.nt ?_
    refine WC.ret ?_
    refine WX.then_ret ?_
    exact WX.retN rfl (.tmp rfl (.tmp rfl .nil)) fun w' hS => ⟨by rw [mulN, if_neg (by simp_all)]; rfl, hS.below⟩
  · (try simp only [sB] at hg9)
    refine WL.r rfl rfl rfl (rd_move rfl rfl) ?_
    refine WL.g rfl rfl rfl (og_call rfl rfl (by kernel_rfl) (keep_val fun w hS => rvalid_c)) ?_
    intro _
    refine WL.r rfl rfl rfl (rd_not rfl rfl) ?_
    refine WL.r rfl rfl rfl (rd_pickf rfl rfl rfl) ?_
    refine WL.nt ?_
    refine WC.cond rfl (fun hc13 => ?_) (fun hc13 => ?_)
    · (try simp only [sB] at hc13)
      refine WC.sr ?_
      refine WL.r rfl rfl rfl (rd_assign rfl rfl) ?_
      refine WL.r rfl rfl rfl (rd_assign rfl rfl) ?_
      refine WL.nt ?_
      refine WC.ret ?_
      refine WX.then_ret ?_
      exact WX.retN rfl (.tmp rfl (.tmp rfl .nil)) fun w' hS => ⟨by rw [mulN, if_neg (by simp_all)]; rfl, hS.below⟩
    · (try simp only [sB] at hc13)
      have hab : okN a ∧ okN b := by simp_all
      have hal := hab.1.1; have hbl := hab.2.1
      have hfm := fit_mul hab
      refine WC.skip ?_
      refine WX.then_normal ?_
      refine WC.sr ?_
      refine WL.r rfl rfl rfl (rd_move rfl rfl) ?_
      refine WL.r rfl rfl rfl (rd_move rfl rfl) ?_
      refine WL.g rfl rfl rfl (og_call rfl rfl (by kernel_rfl) (keep_val fun w hS => rtimes_c (a := a) (b := b) (by omega) (by omega))) ?_
      intro _
      refine WL.g rfl rfl rfl (og_call rfl rfl (by kernel_rfl) (keep_val fun w hS => fit_c (a := canon (val a * val b)))) ?_
      intro _
      refine WL.r rfl rfl rfl (rd_extL rfl rfl rfl) ?_
      refine WL.r rfl rfl rfl (rd_extL rfl rfl rfl) ?_
      refine WL.r rfl rfl rfl (rd_assign rfl rfl) ?_
      refine WL.r rfl rfl rfl (rd_assign rfl rfl) ?_
      refine WL.nt ?_
      refine WC.ret ?_
      exact WX.retN rfl (.tmp rfl (.tmp rfl .nil)) fun w' hS => ⟨by simp only [tup, NE]; rw [← hfm.1, ← hfm.2], hS.below⟩
end Go.Proofs.YtbcnnkcddilfjaaGreat
