/-
  Operations on words, in terms of natural numbers.
-/
import Derived.Test.YtbcnnkcddilfjaaGreatJoin
import Derived.Laws.BitsLemmas
import Derived.Laws.Bits64
namespace Go.Proofs.YtbcnnkcddilfjaaGreat
open Go.RowKit
/-- an integer type in which the numbers below 2^j stand for themselves -/
class WdK (k : IntKind) (j : outParam Nat) : Prop where
  hj : j ≤ k.bits
  hk : ∀ n : Int, 0 ≤ n → n < 2 ^ j → k.wrap n = n
instance : WdK .u8 8 := ⟨by decide, fun n h0 h1 => by rw [IntKind.wrap_u8]; omega⟩
instance : WdK .u32 32 := ⟨by decide, fun n h0 h1 => by rw [IntKind.wrap_u32]; omega⟩
instance : WdK .u64 64 := ⟨by decide, fun n h0 h1 => by rw [IntKind.wrap_u64]; omega⟩
instance : WdK .i64 63 := ⟨by decide, fun n h0 h1 => by rw [IntKind.wrap_i64]; omega⟩
theorem wrN {k : IntKind} {j x : Nat} [h : WdK k j] (hx : x < 2 ^ j) : k.wrap (x : Int) = x := h.hk x (Int.natCast_nonneg _) (by exact_mod_cast hx)
/-- an unsigned type cuts off -/
class WdU (k : IntKind) (j : outParam Nat) : Prop where
  hu : ∀ n : Int, k.wrap n = n % 2 ^ j
instance : WdU .u8 8 := ⟨fun n => IntKind.wrap_u8 n⟩
instance : WdU .u32 32 := ⟨fun n => IntKind.wrap_u32 n⟩
instance : WdU .u64 64 := ⟨fun n => IntKind.wrap_u64 n⟩
section
variable {ds : List Deferred} {P : Program} {o : Oper} {n : Nat} {L : Slots} {Z : World → Prop} {x y : Operand} {t t2 : TypeId} {k k' : IntKind} {a c j m : Nat} {b : Bool}
theorem Rd.cv {v v' : Value} (h : Rd ds P o n L Z v) (e : v = v') : Rd ds P o n L Z v' := e ▸ h
theorem rd_addW [WdK k j] (hop : o.op = .binOp .add t x y t2) (hx : oper L x = some (.int k (a : Int))) (hy : oper L y = some (.int k (c : Int))) (h : a + c < 2 ^ j) : Rd ds P o n L Z (.int k ((a + c : Nat) : Int)) :=
  (rd_add hop hx hy).cv (by rw [← wrN (k := k) h, Int.natCast_add])
theorem rd_subW [WdK k j] (hop : o.op = .binOp .sub t x y t2) (hx : oper L x = some (.int k (a : Int))) (hy : oper L y = some (.int k (c : Int))) (h : c ≤ a ∧ a < 2 ^ j) : Rd ds P o n L Z (.int k ((a - c : Nat) : Int)) :=
  (rd_sub hop hx hy).cv (by rw [← wrN (k := k) (Nat.lt_of_le_of_lt (Nat.sub_le a c) h.2), Int.natCast_sub h.1])
theorem rd_mulW [WdK k j] (hop : o.op = .binOp .mul t x y t2) (hx : oper L x = some (.int k (a : Int))) (hy : oper L y = some (.int k (c : Int))) (h : a * c < 2 ^ j) : Rd ds P o n L Z (.int k ((a * c : Nat) : Int)) :=
  (rd_mul hop hx hy).cv (by rw [← wrN (k := k) h, Int.natCast_mul])
theorem rd_addM [WdU k j] (hop : o.op = .binOp .add t x y t2) (hx : oper L x = some (.int k (a : Int))) (hy : oper L y = some (.int k (c : Int))) : Rd ds P o n L Z (.int k (((a + c) % 2 ^ j : Nat) : Int)) :=
  (rd_add hop hx hy).cv (by rw [WdU.hu (k := k)]; simp)
theorem rd_mulM [WdU k j] (hop : o.op = .binOp .mul t x y t2) (hx : oper L x = some (.int k (a : Int))) (hy : oper L y = some (.int k (c : Int))) : Rd ds P o n L Z (.int k ((a * c % 2 ^ j : Nat) : Int)) :=
  (rd_mul hop hx hy).cv (by rw [WdU.hu (k := k)]; simp)
theorem rd_shlW [hw : WdK k j] (hop : o.op = .binOp .shl t x y t2) (hx : oper L x = some (.int k (a : Int))) (hy : oper L y = some (.int k' (c : Int))) (hc : c ≤ k.bits) (h : a * 2 ^ c < 2 ^ j) : Rd ds P o n L Z (.int k ((a * 2 ^ c : Nat) : Int)) :=
  (rd_shl hop hx hy (Int.natCast_nonneg _)).cv (by rw [Int.toNat_natCast, Nat.min_eq_left hc, ← wrN (k := k) h]; simp)
theorem rd_shlM [hw : WdU k j] (hop : o.op = .binOp .shl t x y t2) (hx : oper L x = some (.int k (a : Int))) (hy : oper L y = some (.int k' (c : Int))) (hc : c ≤ k.bits) : Rd ds P o n L Z (.int k ((a * 2 ^ c % 2 ^ j : Nat) : Int)) :=
  (rd_shl hop hx hy (Int.natCast_nonneg _)).cv (by rw [Int.toNat_natCast, Nat.min_eq_left hc, WdU.hu (k := k)]; simp)
theorem rd_shrW (hop : o.op = .binOp .shr t x y t2) (hx : oper L x = some (.int k (a : Int))) (hy : oper L y = some (.int k' (c : Int))) (hc : c ≤ k.bits) : Rd ds P o n L Z (.int k ((a / 2 ^ c : Nat) : Int)) :=
  (rd_shr hop hx hy (Int.natCast_nonneg _)).cv (by
    rw [Int.toNat_natCast, Nat.min_eq_left hc, Int.fdiv_eq_ediv_of_nonneg _ (by have := Int.pow_pos (n := 2) (m := c) (by decide); omega)]; simp)
theorem rd_andW (m : Nat) [hw : WdK k j] {i : Int} (hop : o.op = .binOp .and t x y t2) (hx : oper L x = some (.int k (a : Int))) (hy : oper L y = some (.int k i)) (hi : i = 2 ^ m - 1) (h : m ≤ j ∧ a < 2 ^ j) : Rd ds P o n L Z (.int k ((a % 2 ^ m : Nat) : Int)) :=
  (rd_and hop hx hy).cv (by rw [hi, bits_mask k j hw.hj hw.hk m h.1 a (Int.natCast_nonneg _) (by exact_mod_cast h.2)]; simp)
theorem rd_orW (m : Nat) [hw : WdK k j] (hop : o.op = .binOp .or t x y t2) (hx : oper L x = some (.int k (a : Int))) (hy : oper L y = some (.int k (c : Int))) (h : a % 2 ^ m = 0 ∧ a < 2 ^ j ∧ c < 2 ^ m ∧ m ≤ j) : Rd ds P o n L Z (.int k ((a + c : Nat) : Int)) :=
  (rd_or hop hx hy).cv (by
    have hc : c < 2 ^ j := Nat.lt_of_lt_of_le h.2.2.1 (Nat.pow_le_pow_right (by decide) h.2.2.2)
    rw [bits_join k j hw.hj hw.hk m a c (Int.natCast_nonneg _) (by exact_mod_cast h.1) (by exact_mod_cast h.2.1) (Int.natCast_nonneg _) (by exact_mod_cast h.2.2.1) (by exact_mod_cast hc)]; simp)
theorem rd_orV (m : Nat) [hw : WdK k j] (hop : o.op = .binOp .or t x y t2) (hx : oper L x = some (.int k (a : Int))) (hy : oper L y = some (.int k (c : Int))) (h : a < 2 ^ m ∧ c % 2 ^ m = 0 ∧ c < 2 ^ j ∧ m ≤ j) : Rd ds P o n L Z (.int k ((a + c : Nat) : Int)) :=
  (rd_or hop hx hy).cv (by
    have ha : a < 2 ^ j := Nat.lt_of_lt_of_le h.1 (Nat.pow_le_pow_right (by decide) h.2.2.2)
    have e : bits .or k (a : Int) (c : Int) = bits .or k (c : Int) (a : Int) := by
      simp only [bits, BitVec.or_comm]
    rw [e, bits_join k j hw.hj hw.hk m c a (Int.natCast_nonneg _) (by exact_mod_cast h.2.1) (by exact_mod_cast h.2.2.1) (Int.natCast_nonneg _) (by exact_mod_cast h.1) (by exact_mod_cast ha), Int.add_comm]; simp)
theorem rd_bne {p q : Bool} (hop : o.op = .binOp .neq t x y t2) (hx : oper L x = some (.bool p)) (hy : oper L y = some (.bool q)) (hu : P.underlying t = some .bool) : Rd ds P o n L Z (.bool (p != q)) :=
  run_bin hop hx hy (guard_bool _ _ _) fun w => run_neq_bool w t p q hu
theorem rd_quoW [WdK k j] (hop : o.op = .binOp .quo t x y t2) (hx : oper L x = some (.int k (a : Int))) (hy : oper L y = some (.int k (c : Int))) (h : 0 < c ∧ a < 2 ^ j) : Rd ds P o n L Z (.int k ((a / c : Nat) : Int)) :=
  (rd_quo hop hx hy (by omega)).cv (by
    rw [Int.tdiv_eq_ediv_of_nonneg (Int.natCast_nonneg _), ← Int.natCast_ediv, wrN (k := k) (Nat.lt_of_le_of_lt (Nat.div_le_self a c) h.2)])
theorem rd_remW (hop : o.op = .binOp .rem t x y t2) (hx : oper L x = some (.int k (a : Int))) (hy : oper L y = some (.int k (c : Int))) (h : 0 < c) : Rd ds P o n L Z (.int k ((a % c : Nat) : Int)) :=
  (rd_rem hop hx hy (by omega)).cv (by rw [Int.tmod_eq_emod_of_nonneg (Int.natCast_nonneg _), ← Int.natCast_emod])
theorem rd_convM [WdU k j] (hop : o.op = .convert t t2 x) (hx : oper L x = some (.int k' (a : Int))) {d : TypeDesc} (h1 : P.underlying t = some d) (h2 : P.underlying t2 = some (.int k)) : Rd ds P o n L Z (.int k ((a % 2 ^ j : Nat) : Int)) :=
  (rd_conv hop hx h1 h2).cv (by rw [WdU.hu (k := k)]; simp)
theorem rd_convW [WdK k j] (hop : o.op = .convert t t2 x) (hx : oper L x = some (.int k' (a : Int))) {d : TypeDesc} (h1 : P.underlying t = some d) (h2 : P.underlying t2 = some (.int k)) (h : a < 2 ^ j) : Rd ds P o n L Z (.int k (a : Int)) :=
  (rd_conv hop hx h1 h2).cv (by rw [wrN (k := k) h])
theorem rd_conv8 [WdK k j] {c : UInt8} (hop : o.op = .convert t t2 x) (hx : oper L x = some (.int .u8 (c.toNat : Int))) {d : TypeDesc} (h1 : P.underlying t = some d) (h2 : P.underlying t2 = some (.int k)) (h : 8 ≤ j) : Rd ds P o n L Z (.int k (c.toNat : Int)) :=
  rd_convW hop hx h1 h2 (Nat.lt_of_lt_of_le c.toNat_lt (Nat.pow_le_pow_right (by decide) h))
theorem rd_sidxN {s : List UInt8} {i : Nat} (hop : o.op = .index t x y) (hx : oper L x = some (.string (S s))) (hy : oper L y = some (.int k (i : Int))) (h1 : P.underlying t = some .string) (h0 : i < s.length) : Rd ds P o n L Z (.int .u8 ((s.getD i default).toNat : Int)) :=
  (rd_sidxD hop hx hy h1 ⟨Int.natCast_nonneg _, by rwa [Int.toNat_natCast]⟩).cv (by rw [Int.toNat_natCast])
/-- a number as a byte -/
theorem rd_convB (hop : o.op = .convert t t2 x) (hx : oper L x = some (.int k' (a : Int))) {d : TypeDesc} (h1 : P.underlying t = some d) (h2 : P.underlying t2 = some (.int .u8)) : Rd ds P o n L Z (.int .u8 ((UInt8.ofNat a).toNat : Int)) :=
  (rd_convM hop hx h1 h2).cv rfl
end
section
variable {ds : List Deferred} {P : Program} {ok : Nat → Prop} {w0 : World} {own : List Ent} {fs : List Fact} {o : Oper} {n b off sz : Nat} {L : Slots} {x : Operand} {t T e : TypeId} {cs ys : List Value} {C : Ent → List Ent}
/-- clear of an own block's slice -/
theorem clr {len cap : Nat} {zv : Value} (hop : o.op = .call { callee := .builtin .clear, args := #[x], argTypes := #[t] }) (hx : oper L x = some (.slice (some ⟨b, off, none⟩) len cap)) (hk : Ctx own ⟨some b, cs, T⟩ C)
    (hu : P.underlying t = some (.slice e)) (hi : (P.info? e).map (fun i => (i.zero, i.size, i.bytes)) = some (some zv, 1, sz)) (h1 : zv.cells = #[zv]) (ho : zv.oneCell' = true) (hl : 0 < len) (hfit : off + len ≤ cs.length) (hys : cs.take off ++ List.replicate len zv ++ cs.drop (off + len) = ys) :
    Og ds P o n L (St ok w0 own fs) (fun _ : Unit => .tuple #[]) (fun _ => St ok w0 (C ⟨some b, ys, T⟩) fs) :=
  og_run fun a hF w hS => by
    obtain ⟨kk, hkk, hC⟩ := hk.get
    obtain ⟨i', hi', hz, hs, hbb⟩ := info_parts hi
    have hst := run_storeCells_at P b off T (List.replicate len zv) 0 cs.toArray w (hS.block hkk) (by simp; omega) (fun u hu => by rw [List.eq_of_mem_replicate hu]; exact ho)
    simp only [Nat.add_zero, List.length_replicate, hys] at hst
    refine ⟨(), w.setRow b ys.toArray, .inl ?_, by rw [hC]; exact hS.setRow hkk _⟩
    obtain ⟨l', rfl⟩ : ∃ l', len = l' + 1 := ⟨len - 1, by omega⟩
    have hzr : (zeroValue e).run P w = .ok zv w := by simp [zeroValue, typeInfo, hi', hz]
    simp [execOp, hop, resolve, invoke, builtin, hF.eval hx, Builtin.clear_, run_underlying hu, hzr, h1, zero_one, hst]
end
end Go.Proofs.YtbcnnkcddilfjaaGreat
