/-
  Strings and lists of strings (the Merkle sources have these words in XMer, XMer1 and XMerB).
-/
import Derived.Test.YtbcnnkcddilfjaaGreatRng
namespace Go.Proofs.YtbcnnkcddilfjaaGreat
set_option linter.unusedSimpArgs false
set_option linter.unusedVariables false
set_option maxRecDepth 20000
open Go.RowKit

abbrev Bs := List UInt8
abbrev strs (l : List Bs) : List Value := l.map fun s => .string (S s)
theorem strs_len (l : List Bs) : (strs l).length = l.length := by simp [strs]
theorem strs_take (l : List Bs) (k : Nat) : (strs l).take k = strs (l.take k) := by simp [strs, List.map_take]
theorem strs_drop (l : List Bs) (k : Nat) : (strs l).drop k = strs (l.drop k) := by simp [strs, List.map_drop]
theorem strs_get (l : List Bs) (k : Nat) (s : Bs) (h : l[k]? = some s) : (strs l)[k]? = some (.string (S s)) := by simp [strs, List.getElem?_map, h]
theorem isNone_nil {a : Option Addr} {xs : List Value} {ok : Nat → Prop} {w : World} (h : (Fact.sl a xs).holds ok w) (ha : a.isNone = true) : xs = [] := by
  rcases h with h | ⟨b, off, cs, T, fz, h1, _⟩
  · exact h
  · subst h1; simp at ha

/-! bytes and numbers in int -/
theorem wrap64n (n : Nat) (h : n < 9223372036854775808) : IntKind.i64.wrap (n : Int) = (n : Int) := by
  rw [IntKind.wrap_i64]; omega
theorem or64 (x y : Nat) (hx : x < 9223372036854775808) (hy : y < 9223372036854775808) : bits .or .i64 (x : Int) (y : Int) = ((x ||| y : Nat) : Int) := by
  unfold bits
  show IntKind.i64.wrap ((BitVec.ofInt 64 (x : Int) ||| BitVec.ofInt 64 (y : Int)).toNat : Int) = _
  have h1 : BitVec.ofInt 64 (x : Int) = BitVec.ofNat 64 x := by simp
  have h2 : BitVec.ofInt 64 (y : Int) = BitVec.ofNat 64 y := by simp
  have h3 : x ||| y < 2 ^ 63 := Nat.or_lt_two_pow (by omega) (by omega)
  rw [h1, h2, BitVec.toNat_or, BitVec.toNat_ofNat, BitVec.toNat_ofNat, Nat.mod_eq_of_lt (by omega), Nat.mod_eq_of_lt (by omega), wrap64n _ (by omega)]
theorem num_or (a b c d : Nat) (hb : b < 256) (hc : c < 256) (hd : d < 256) : ((a * 2 ^ 24 ||| b * 2 ^ 16) ||| c * 2 ^ 8) ||| d = a * 16777216 + b * 65536 + c * 256 + d := by
  have e1 := Nat.two_pow_add_eq_or_of_lt (i := 24) (b := b * 2 ^ 16) (by omega) a
  have e2 := Nat.two_pow_add_eq_or_of_lt (i := 16) (b := c * 2 ^ 8) (by omega) (a * 2 ^ 8 + b)
  have e3 := Nat.two_pow_add_eq_or_of_lt (i := 8) (b := d) (by omega) (a * 2 ^ 16 + b * 2 ^ 8 + c)
  rw [Nat.mul_comm a, ← e1, show 2 ^ 24 * a + b * 2 ^ 16 = 2 ^ 16 * (a * 2 ^ 8 + b) by omega, ← e2, show 2 ^ 16 * (a * 2 ^ 8 + b) + c * 2 ^ 8 = 2 ^ 8 * (a * 2 ^ 16 + b * 2 ^ 8 + c) by omega, ← e3]
  first | done | omega
theorem num_bits (c0 c1 c2 c3 : UInt8) : bits .or .i64 (bits .or .i64 (bits .or .i64 (IntKind.i64.wrap (IntKind.i64.wrap (c0.toNat : Int) * 2 ^ (min (Int.toNat 24) IntKind.i64.bits))) (IntKind.i64.wrap (IntKind.i64.wrap (c1.toNat : Int) * 2 ^ (min (Int.toNat 16) IntKind.i64.bits)))) (IntKind.i64.wrap (IntKind.i64.wrap (c2.toNat : Int) * 2 ^ (min (Int.toNat 8) IntKind.i64.bits)))) (IntKind.i64.wrap (c3.toNat : Int)) = ((c0.toNat * 16777216 + c1.toNat * 65536 + c2.toNat * 256 + c3.toNat : Nat) : Int) := by
  have m1 : min (Int.toNat 24) IntKind.i64.bits = 24 := by decide
  have m2 : min (Int.toNat 16) IntKind.i64.bits = 16 := by decide
  have m3 : min (Int.toNat 8) IntKind.i64.bits = 8 := by decide
  have l0 := c0.toNat_lt; have l1 := c1.toNat_lt; have l2 := c2.toNat_lt; have l3 := c3.toNat_lt
  have q : ∀ (c : UInt8) (j : Nat), j ≤ 24 → IntKind.i64.wrap ((c.toNat : Int) * 2 ^ j) = ((c.toNat * 2 ^ j : Nat) : Int) := fun c j hj => by
    have h1 := c.toNat_lt
    have h2 : 2 ^ j ≤ 2 ^ 24 := Nat.pow_le_pow_right (by omega) hj
    have h3 : c.toNat * 2 ^ j ≤ 256 * 2 ^ 24 := Nat.mul_le_mul (by omega) h2
    rw [show (c.toNat : Int) * 2 ^ j = ((c.toNat * 2 ^ j : Nat) : Int) by simp, wrap64n _ (by omega)]
  rw [m1, m2, m3, wrap64n _ (by omega), wrap64n _ (by omega), wrap64n _ (by omega), wrap64n _ (by omega), q _ _ (by omega), q _ _ (by omega), q _ _ (by omega)]
  have o1 : c0.toNat * 2 ^ 24 ||| c1.toNat * 2 ^ 16 < 2 ^ 62 := Nat.or_lt_two_pow (by omega) (by omega)
  have o2 : c0.toNat * 2 ^ 24 ||| c1.toNat * 2 ^ 16 ||| c2.toNat * 2 ^ 8 < 2 ^ 62 := Nat.or_lt_two_pow o1 (by omega)
  rw [or64 _ _ (by omega) (by omega), or64 _ _ (by omega) (by omega), or64 _ _ (by omega) (by omega), num_or _ _ _ _ (by omega) (by omega) (by omega)]
theorem byte_shrI (k j : Nat) (h : j ≤ 64) : IntKind.u8.wrap ((k : Int).fdiv (2 ^ (min (Int.toNat (j : Int)) IntKind.i64.bits))) = ((UInt8.ofNat (k / 2 ^ j)).toNat : Int) := by
  have m1 : min (Int.toNat (j : Int)) IntKind.i64.bits = j := by
    have : IntKind.i64.bits = 64 := by decide
    omega
  have e2 : ((2 : Int) ^ j) = ((2 ^ j : Nat) : Int) := by simp
  rw [m1, e2, IntKind.wrap_u8, Int.fdiv_eq_ediv_of_nonneg _ (Int.natCast_nonneg _), UInt8.toNat_ofNat']
  norm_cast
theorem byte_of (k : Nat) : IntKind.u8.wrap (k : Int) = ((UInt8.ofNat k).toNat : Int) := by
  rw [IntKind.wrap_u8, UInt8.toNat_ofNat']; norm_cast
section
variable {ds : List Deferred} {P : Program} {o : Oper} {n : Nat} {L : Slots} {Z : World → Prop} {x y : Operand} {t : TypeId} {k : IntKind} {i : Int}
theorem bs_getD (l : Bs) (i : Nat) (h : i < l.length) : l[i]? = some (l.getD i default) := by
  rw [List.getD_eq_getElem?_getD, List.getElem?_eq_getElem h]; rfl
theorem rd_sidxD {a : List UInt8} (hop : o.op = .index t x y) (hx : oper L x = some (.string (S a))) (hy : oper L y = some (.int k i)) (h1 : P.underlying t = some .string) (h0 : 0 ≤ i ∧ i.toNat < a.length) : Rd ds P o n L Z (.int .u8 ((a.getD i.toNat default).toNat : Int)) :=
  rd_sidx hop hx hy h1 h0.1 (bs_getD _ _ h0.2)
end
end Go.Proofs.YtbcnnkcddilfjaaGreat
