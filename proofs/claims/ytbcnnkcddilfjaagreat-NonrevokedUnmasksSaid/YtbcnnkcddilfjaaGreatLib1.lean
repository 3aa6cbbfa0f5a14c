/-
  Go's library: comparisons of strings and of numbers, the length of a byte (after the kit's shelf templates).
-/
import Derived.Test.YtbcnnkcddilfjaaGreatLib0
import Derived.Test.YtbcnnkcddilfjaaGreatStr
namespace Go.Proofs.YtbcnnkcddilfjaaGreat
set_option linter.unusedSimpArgs false
set_option linter.unusedVariables false
set_option maxRecDepth 20000
set_option maxHeartbeats 600000

open Go.RowKit
theorem below_self {w : World} : Below w.heap.size w w := ⟨rfl, rfl, rfl, Nat.le_refl _, fun _ _ => rfl⟩
section
variable {ds : List Deferred} {P : Program} {o : Oper} {n : Nat} {L : Slots} {Z : World → Prop} {x y : Operand} {t t2 : TypeId} {k : IntKind} {i j : Int}
theorem rd_max2 (hop : o.op = .call { callee := .builtin .max, args := #[x, y], argTypes := #[t, t2] }) (hx : oper L x = some (.int k i)) (hy : oper L y = some (.int k j)) : Rd ds P o n L Z (.int k (max i j)) :=
  rd_run fun a hF w _ => by
    have e : max i j = if j > i then j else i := by split <;> omega
    rw [e]
    simp [execOp, hop, resolve, invoke, builtin, hF.eval hx, hF.eval hy, Builtin.max_, Builtin.max2]
theorem rd_min2 (hop : o.op = .call { callee := .builtin .min, args := #[x, y], argTypes := #[t, t2] }) (hx : oper L x = some (.int k i)) (hy : oper L y = some (.int k j)) : Rd ds P o n L Z (.int k (min i j)) :=
  rd_run fun a hF w _ => by
    have e : min i j = if j < i then j else i := by split <;> omega
    rw [e]
    simp [execOp, hop, resolve, invoke, builtin, hF.eval hx, hF.eval hy, Builtin.min_, Builtin.min2]
end
theorem shr8 (x : Nat) : (x : Int).fdiv (2 ^ (min (Int.toNat 8) IntKind.i64.bits)) = ((x / 256 : Nat) : Int) := by
  have m1 : min (Int.toNat 8) IntKind.i64.bits = 8 := by decide
  rw [m1, Int.fdiv_eq_ediv_of_nonneg _ (by decide)]; norm_cast
theorem scmp_c {a b : Bs} {w : World} :
    Calls Tryz.prog 89 #[.string (S a), .string (S b)] w fun e w' => e = .returned (.int .i64 (Lib.compareBytes a b)) ∧ Below w.heap.size w w' :=
  (compare_ok (S a) (S b) w).mono fun _ _ ⟨h1, h2⟩ => ⟨by simpa [S] using h1, by rw [h2]; exact below_self⟩
theorem len8_c {x : Nat} {w : World} (hx : x < 256) :
    Calls Tryz.prog 75 #[.int .u8 (x : Int)] w fun e w' => e = .returned (.int .i64 (Lib.bitLen x)) ∧ Below w.heap.size w w' :=
  (len8_ok x w (by omega) (by omega)).mono fun _ _ ⟨h1, h2⟩ => ⟨by simpa using h1, by rw [h2]; exact below_self⟩
theorem nan_c {x : Int} {w : World} :
    Calls Tryz.prog 111 #[.int .i64 x] w fun e w' => e = .returned (.bool false) ∧ Below w.heap.size w w' := by
  refine enter (S := St (fun _ => True) w [] ([])) (L := [(0, .int .i64 x)]) Tryz.func111 rfl Tryz.ntmps111 rfl (args_cons rfl (args_nil _)) (St.start (fun _ _ => trivial) facts_nil) ?_
  refine WC.sr ?_
  refine WL.r rfl rfl rfl (rd_assign rfl rfl) ?_
  refine WL.nt ?_
  refine WC.sr ?_
  refine WL.r rfl rfl rfl (rd_move rfl rfl) ?_
  refine WL.r rfl rfl rfl (rd_move rfl rfl) ?_
  refine WL.r rfl rfl rfl (rd_neq rfl rfl rfl) ?_
  refine WL.r rfl rfl rfl (rd_assign rfl rfl) ?_
  refine WL.nt ?_
  refine WC.ret ?_
  exact WX.retN rfl (.tmp rfl .nil) fun w' hS => ⟨by (simp [tup]; done), hS.below⟩
def cmpI (a b : Int) : Int := if a < b then -1 else if b < a then 1 else 0
theorem cmp_c {a b : Int} {w : World} :
    Calls Tryz.prog 88 #[.int .i64 a, .int .i64 b] w fun e w' => e = .returned (.int .i64 (cmpI a b)) ∧ Below w.heap.size w w' := by
  refine enter (S := St (fun _ => True) w [] ([])) (L := [(0, .int .i64 a), (1, .int .i64 b)]) Tryz.func88 rfl Tryz.ntmps88 rfl (args_cons rfl (args_cons rfl (args_nil _))) (St.start (fun _ _ => trivial) facts_nil) ?_
  refine WC.sr ?_
  refine WL.r rfl rfl rfl (rd_assign rfl rfl) ?_
  refine WL.nt ?_
  refine WC.sr ?_
  refine WL.r rfl rfl rfl (rd_move rfl rfl) ?_
  refine WL.g rfl rfl rfl (og_call rfl rfl (by kernel_rfl) (keep_val fun w hS => nan_c)) ?_
  intro _
  refine WL.r rfl rfl rfl (rd_assign rfl rfl) ?_
  refine WL.nt ?_
  refine WC.sr ?_
  refine WL.r rfl rfl rfl (rd_move rfl rfl) ?_
  refine WL.g rfl rfl rfl (og_call rfl rfl (by kernel_rfl) (keep_val fun w hS => nan_c)) ?_
  intro _
  refine WL.r rfl rfl rfl (rd_assign rfl rfl) ?_
  refine WL.nt ?_
  refine WC.seq ?_
  refine WC.sr ?_
  refine WL.r rfl rfl rfl (rd_move rfl rfl) ?_
  refine WL.nt ?_
  refine WC.cond rfl (fun hc11 => by exfalso; (try simp only [sB] at hc11); cases hc11) (fun hc11 => ?_)
  (try simp only [sB] at hc11)
  refine WC.skip ?_
  refine WX.then_normal ?_
  refine WC.seq ?_
  refine WC.sr ?_
  refine WL.r rfl rfl rfl (rd_move rfl rfl) ?_
  refine WL.nt ?_
  refine WC.cond rfl (fun hc13 => by exfalso; (try simp only [sB] at hc13); cases hc13) (fun hc13 => ?_)
  (try simp only [sB] at hc13)
  refine WC.skip ?_
  refine WX.then_normal ?_
  refine WC.seq ?_
  refine WC.sr ?_
  refine WL.r rfl rfl rfl (rd_move rfl rfl) ?_
  refine WL.r rfl rfl rfl (rd_move rfl rfl) ?_
  refine WL.r rfl rfl rfl (rd_lss rfl rfl rfl) ?_
  refine WL.nt ?_
  refine WC.cond rfl (fun hc16 => ?_) (fun hc16 => ?_)
  · (try simp only [sB] at hc16)
    refine WC.sr ?_
    refine WL.r rfl rfl rfl (rd_assign rfl rfl) ?_
    refine WL.nt ?_
    refine WC.ret ?_
    refine WX.then_ret ?_
    exact WX.retN rfl (.tmp rfl .nil) fun w' hS => ⟨by simp [cmpI, hc16, tup], hS.below⟩
  · (try simp only [sB] at hc16)
    refine WC.skip ?_
    refine WX.then_normal ?_
    refine WC.seq ?_
    refine WC.sr ?_
    refine WL.r rfl rfl rfl (rd_move rfl rfl) ?_
    refine WL.r rfl rfl rfl (rd_move rfl rfl) ?_
    refine WL.r rfl rfl rfl (rd_gtr rfl rfl rfl) ?_
    refine WL.nt ?_
    refine WC.cond rfl (fun hc19 => ?_) (fun hc19 => ?_)
    · (try simp only [sB] at hc19)
      refine WC.sr ?_
      refine WL.r rfl rfl rfl (rd_assign rfl rfl) ?_
      refine WL.nt ?_
      refine WC.ret ?_
      refine WX.then_ret ?_
      exact WX.retN rfl (.tmp rfl .nil) fun w' hS => ⟨by simp [cmpI, tup]; omega, hS.below⟩
    · (try simp only [sB] at hc19)
      refine WC.skip ?_
      refine WX.then_normal ?_
      refine WC.sr ?_
      refine WL.r rfl rfl rfl (rd_assign rfl rfl) ?_
      refine WL.nt ?_
      refine WC.ret ?_
      exact WX.retN rfl (.tmp rfl .nil) fun w' hS => ⟨by simp [cmpI, tup]; omega, hS.below⟩
end Go.Proofs.YtbcnnkcddilfjaaGreat
