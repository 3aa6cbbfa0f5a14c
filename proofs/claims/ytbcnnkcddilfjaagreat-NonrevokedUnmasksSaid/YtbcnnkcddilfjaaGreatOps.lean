/-
  Own framework, part 3: the operations that only read.
-/
import Derived.Test.YtbcnnkcddilfjaaGreatBase
import Derived.Laws.BitsLemmas
import Derived.Laws.Strings
import Derived.Lib.Strings
namespace Go.Proofs.YtbcnnkcddilfjaaGreat
set_option linter.unusedSimpArgs false
set_option linter.unusedVariables false
open Go.RowKit

/-- A string by its bytes. -/
def S (l : List UInt8) : ByteArray := ⟨l.toArray⟩
theorem S_data (s : ByteArray) : S s.data.toList = s := by cases s; simp [S]
theorem S_inj {a b : List UInt8} (h : S a = S b) : a = b := by have := congrArg (fun s : ByteArray => s.data.toList) h; simpa [S] using this
theorem S_size (l : List UInt8) : (S l).size = l.length := by simp [S, ByteArray.size]
theorem S_append (a b : List UInt8) : S a ++ S b = S (a ++ b) := by
  have h : (S a ++ S b).data.toList = a ++ b := by simp [S]
  rw [← S_data (S a ++ S b), h]
theorem S_extract (l : List UInt8) (i j : Nat) : (S l).extract i j = S ((l.drop i).take (j - i)) := by
  rw [← S_data ((S l).extract i j), Lib.extract_data]; simp [S]
theorem S_toList (l : List UInt8) : (S l).toList = l := ByteArray.toList_mk l
theorem S_get (l : List UInt8) (i : Nat) : (S l)[i]? = l[i]? := by
  by_cases h : i < l.length
  · have : i < (S l).size := by rw [S_size]; exact h
    rw [getElem?_pos (S l) i this, List.getElem?_eq_getElem h]; rfl
  · have : ¬ i < (S l).size := by rw [S_size]; exact h
    rw [getElem?_neg (S l) i this, List.getElem?_eq_none (by omega)]

section
variable {ds : List Deferred} {ρ : Option Nat} {P : Program} {o : Oper} {n : Nat} {L : Slots} {St : World → Prop} {x y z : Operand} {v u : Value} {t t2 : TypeId}

theorem rd_run (h : ∀ a, Fr ds a n L → ∀ w, St w → (execOp a.eval o).run P w = .ok (.value v) w) : Rd ds P o n L St v := fun a hF w hw => .inl (h a hF w hw)

theorem rd_move (hop : o.op = .move x) (hx : oper L x = some v) : Rd ds P o n L St v := rd_run fun a hF w _ => by simp [execOp, hop, hF.eval hx]
theorem rd_assign (hop : o.op = .assign x) (hx : oper L x = some v) : Rd ds P o n L St v := rd_run fun a hF w _ => by simp [execOp, hop, hF.eval hx]

theorem run_bin {op : BinOp} {r : Value} (hop : o.op = .binOp op t x y t2) (hx : oper L x = some v) (hy : oper L y = some u) (hg : ∀ w : World, (eqGuard op t x y v u).run P w = .ok () w) (h : ∀ w : World, (binOp op t v u).run P w = .ok r w) : Rd ds P o n L St r :=
  rd_run fun a hF w _ => by simp [execOp, hop, hF.eval hx, hF.eval hy, hg, h]

theorem guard_int (op : BinOp) (k k' : IntKind) (i j : Int) (w : World) : (eqGuard op t x y (.int k i) (.int k' j)).run P w = .ok () w := by
  cases op <;> simp [eqGuard]
theorem guard_string (op : BinOp) (a b : ByteArray) (w : World) : (eqGuard op t x y (.string a) (.string b)).run P w = .ok () w := by
  cases op <;> simp [eqGuard]
theorem guard_bool (op : BinOp) (a b : Bool) (w : World) : (eqGuard op t x y (.bool a) (.bool b)).run P w = .ok () w := by
  cases op <;> simp [eqGuard]

variable {k : IntKind} {i j : Int}

theorem rd_add (hop : o.op = .binOp .add t x y t2) (hx : oper L x = some (.int k i)) (hy : oper L y = some (.int k j)) : Rd ds P o n L St (.int k (k.wrap (i + j))) :=
  run_bin hop hx hy (guard_int _ _ _ _ _) fun w => by simp [binOp, Op.intArith]
theorem rd_sub (hop : o.op = .binOp .sub t x y t2) (hx : oper L x = some (.int k i)) (hy : oper L y = some (.int k j)) : Rd ds P o n L St (.int k (k.wrap (i - j))) :=
  run_bin hop hx hy (guard_int _ _ _ _ _) fun w => by simp [binOp, Op.intArith]
theorem rd_mul (hop : o.op = .binOp .mul t x y t2) (hx : oper L x = some (.int k i)) (hy : oper L y = some (.int k j)) : Rd ds P o n L St (.int k (k.wrap (i * j))) :=
  run_bin hop hx hy (guard_int _ _ _ _ _) fun w => by simp [binOp, Op.intArith]
theorem rd_add64 (hop : o.op = .binOp .add t x y t2) (hx : oper L x = some (.int .i64 i)) (hy : oper L y = some (.int .i64 j)) (h : -9223372036854775808 ≤ i + j ∧ i + j ≤ 9223372036854775807) : Rd ds P o n L St (.int .i64 (i + j)) := by
  have := rd_add (ds := ds) (P := P) (n := n) (St := St) hop hx hy; rwa [IntWalk.i64_in _ h] at this
theorem rd_sub64 (hop : o.op = .binOp .sub t x y t2) (hx : oper L x = some (.int .i64 i)) (hy : oper L y = some (.int .i64 j)) (h : -9223372036854775808 ≤ i - j ∧ i - j ≤ 9223372036854775807) : Rd ds P o n L St (.int .i64 (i - j)) := by
  have := rd_sub (ds := ds) (P := P) (n := n) (St := St) hop hx hy; rwa [IntWalk.i64_in _ h] at this
theorem rd_mul64 (hop : o.op = .binOp .mul t x y t2) (hx : oper L x = some (.int .i64 i)) (hy : oper L y = some (.int .i64 j)) (h : -9223372036854775808 ≤ i * j ∧ i * j ≤ 9223372036854775807) : Rd ds P o n L St (.int .i64 (i * j)) := by
  have := rd_mul (ds := ds) (P := P) (n := n) (St := St) hop hx hy; rwa [IntWalk.i64_in _ h] at this

theorem rd_lss (hop : o.op = .binOp .lss t x y t2) (hx : oper L x = some (.int k i)) (hy : oper L y = some (.int k j)) : Rd ds P o n L St (.bool (decide (i < j))) :=
  run_bin hop hx hy (guard_int _ _ _ _ _) fun w => by simp [binOp, Op.intCmp]
theorem rd_leq (hop : o.op = .binOp .leq t x y t2) (hx : oper L x = some (.int k i)) (hy : oper L y = some (.int k j)) : Rd ds P o n L St (.bool (decide (i ≤ j))) :=
  run_bin hop hx hy (guard_int _ _ _ _ _) fun w => by simp [binOp, Op.intCmp]
theorem rd_gtr (hop : o.op = .binOp .gtr t x y t2) (hx : oper L x = some (.int k i)) (hy : oper L y = some (.int k j)) : Rd ds P o n L St (.bool (decide (j < i))) :=
  run_bin hop hx hy (guard_int _ _ _ _ _) fun w => by simp [binOp, Op.intCmp]
theorem rd_geq (hop : o.op = .binOp .geq t x y t2) (hx : oper L x = some (.int k i)) (hy : oper L y = some (.int k j)) : Rd ds P o n L St (.bool (decide (j ≤ i))) :=
  run_bin hop hx hy (guard_int _ _ _ _ _) fun w => by simp [binOp, Op.intCmp]
theorem rd_eql (hop : o.op = .binOp .eql t x y t2) (hx : oper L x = some (.int k i)) (hy : oper L y = some (.int k j)) : Rd ds P o n L St (.bool (decide (i = j))) :=
  run_bin hop hx hy (guard_int _ _ _ _ _) fun w => by simp [binOp, Op.intCmp]; exact Bool.eq_iff_iff.2 (by simp)
theorem rd_neq (hop : o.op = .binOp .neq t x y t2) (hx : oper L x = some (.int k i)) (hy : oper L y = some (.int k j)) : Rd ds P o n L St (.bool (!decide (i = j))) :=
  run_bin hop hx hy (guard_int _ _ _ _ _) fun w => by simp [binOp, Op.intCmp]; exact Bool.eq_iff_iff.2 (by simp)

theorem rd_quo (hop : o.op = .binOp .quo t x y t2) (hx : oper L x = some (.int k i)) (hy : oper L y = some (.int k j)) (h : j ≠ 0) : Rd ds P o n L St (.int k (k.wrap (i.tdiv j))) :=
  run_bin hop hx hy (guard_int _ _ _ _ _) fun w => by simp [binOp, Op.intDiv, h]
theorem rd_rem (hop : o.op = .binOp .rem t x y t2) (hx : oper L x = some (.int k i)) (hy : oper L y = some (.int k j)) (h : j ≠ 0) : Rd ds P o n L St (.int k (i.tmod j)) :=
  run_bin hop hx hy (guard_int _ _ _ _ _) fun w => by simp [binOp, Op.intDiv, h]

theorem rd_shl (hop : o.op = .binOp .shl t x y t2) {k' : IntKind} (hx : oper L x = some (.int k i)) (hy : oper L y = some (.int k' j)) (h : 0 ≤ j) : Rd ds P o n L St (.int k (k.wrap (i * 2 ^ (min j.toNat k.bits)))) :=
  run_bin hop hx hy (guard_int _ _ _ _ _) fun w => by simp [binOp, Op.shift, show ¬ j < 0 by omega]
theorem rd_shr (hop : o.op = .binOp .shr t x y t2) {k' : IntKind} (hx : oper L x = some (.int k i)) (hy : oper L y = some (.int k' j)) (h : 0 ≤ j) : Rd ds P o n L St (.int k (i.fdiv (2 ^ (min j.toNat k.bits)))) :=
  run_bin hop hx hy (guard_int _ _ _ _ _) fun w => by simp [binOp, Op.shift, show ¬ j < 0 by omega]

theorem rd_and (hop : o.op = .binOp .and t x y t2) (hx : oper L x = some (.int k i)) (hy : oper L y = some (.int k j)) : Rd ds P o n L St (.int k (bits .and k i j)) :=
  run_bin hop hx hy (guard_int _ _ _ _ _) fun w => by simp [binOp, intBits_and]
theorem rd_or (hop : o.op = .binOp .or t x y t2) (hx : oper L x = some (.int k i)) (hy : oper L y = some (.int k j)) : Rd ds P o n L St (.int k (bits .or k i j)) :=
  run_bin hop hx hy (guard_int _ _ _ _ _) fun w => by simp [binOp, intBits_or]
theorem rd_xor (hop : o.op = .binOp .xor t x y t2) (hx : oper L x = some (.int k i)) (hy : oper L y = some (.int k j)) : Rd ds P o n L St (.int k (bits .xor k i j)) :=
  run_bin hop hx hy (guard_int _ _ _ _ _) fun w => by simp [binOp, intBits_xor]

theorem run_un {op : UnOp} {r : Value} (hop : o.op = .unOp op t x) (hx : oper L x = some v) (h : ∀ w : World, (Op.unary op v).run P w = .ok r w) : Rd ds P o n L St r :=
  rd_run fun a hF w _ => by simp [execOp, hop, hF.eval hx, h]
theorem rd_neg (hop : o.op = .unOp .neg t x) (hx : oper L x = some (.int k i)) : Rd ds P o n L St (.int k (k.wrap (0 - i))) := run_un hop hx fun w => by simp [Op.unary, Op.intArith]
theorem rd_not {b : Bool} (hop : o.op = .unOp .not t x) (hx : oper L x = some (.bool b)) : Rd ds P o n L St (.bool (!b)) := run_un hop hx fun w => by simp [Op.unary]
theorem rd_com (hop : o.op = .unOp .xor t x) (hx : oper L x = some (.int k i)) : Rd ds P o n L St (.int k (bits .xor k (if k.signed then -1 else k.max) i)) := run_un hop hx fun w => by simp only [Op.unary, intBits_xor]; rfl

theorem run_conv {r : Value} (hop : o.op = .convert t t2 x) (hx : oper L x = some v) (h : ∀ w : World, St w → (convert t t2 v).run P w = .ok r w) : Rd ds P o n L St r :=
  rd_run fun a hF w hw => by simp [execOp, hop, hF.eval hx, h w hw]
theorem rd_conv {k' : IntKind} (hop : o.op = .convert t t2 x) (hx : oper L x = some (.int k' i)) {d : TypeDesc} (h1 : P.underlying t = some d) (h2 : P.underlying t2 = some (.int k)) : Rd ds P o n L St (.int k (k.wrap i)) :=
  run_conv hop hx fun w _ => by simp [convert, run_underlying h1, run_underlying h2, Conv.intToInt]
theorem rd_convs {s : ByteArray} (hop : o.op = .convert t t2 x) (hx : oper L x = some (.string s)) {d : TypeDesc} (h1 : P.underlying t = some d) (h2 : P.underlying t2 = some .string) : Rd ds P o n L St (.string s) :=
  run_conv hop hx fun w _ => by simp [convert, run_underlying h1, run_underlying h2]

/-! strings -/
theorem rd_cat {a b : List UInt8} (hop : o.op = .binOp .add t x y t2) (hx : oper L x = some (.string (S a))) (hy : oper L y = some (.string (S b))) (h : a.length + b.length ≤ 9223372036854775807) : Rd ds P o n L St (.string (S (a ++ b))) :=
  run_bin hop hx hy (guard_string _ _ _) fun w => by
    have e : ¬ (((S a).size + (S b).size : Nat) : Int) > IntKind.i64.max := by
      rw [S_size, S_size]; simp [IntKind.max, IntKind.bits, IntKind.signed]; omega
    simp only [binOp, Op.stringOp, if_neg e, S_append]; rfl
theorem str_eq (a b : List UInt8) : ((S a).toList == (S b).toList) = decide (a = b) := by rw [S_toList, S_toList]; exact Bool.eq_iff_iff.2 (by simp)
theorem rd_seq {a b : List UInt8} (hop : o.op = .binOp .eql t x y t2) (hx : oper L x = some (.string (S a))) (hy : oper L y = some (.string (S b))) : Rd ds P o n L St (.bool (decide (a = b))) :=
  run_bin hop hx hy (guard_string _ _ _) fun w => by simp only [binOp, Op.stringOp, str_eq]; rfl
theorem rd_sne {a b : List UInt8} (hop : o.op = .binOp .neq t x y t2) (hx : oper L x = some (.string (S a))) (hy : oper L y = some (.string (S b))) : Rd ds P o n L St (.bool (!decide (a = b))) :=
  run_bin hop hx hy (guard_string _ _ _) fun w => by simp only [binOp, Op.stringOp, str_eq]; rfl

theorem run_len {r : Value} {ty : TypeId} (hop : o.op = .call { callee := .builtin .len, args := #[x], argTypes := #[ty] }) (hx : oper L x = some v) (h : ∀ w : World, (Builtin.len_ #[ty] o.type #[v]).run P w = .ok r w) : Rd ds P o n L St r :=
  rd_run fun a hF w _ => by simp [execOp, hop, resolve, invoke, builtin, hF.eval hx, h]
theorem rd_slen {a : List UInt8} {ty : TypeId} (hop : o.op = .call { callee := .builtin .len, args := #[x], argTypes := #[ty] }) (hx : oper L x = some (.string (S a))) (h1 : P.underlying ty = some .string) : Rd ds P o n L St (.int .i64 (a.length : Int)) :=
  run_len hop hx fun w => by simp [Builtin.len_, run_underlying h1, goInt, S_size]
theorem rd_len {ad : Option Addr} {m c : Nat} {ty e : TypeId} (hop : o.op = .call { callee := .builtin .len, args := #[x], argTypes := #[ty] }) (hx : oper L x = some (.slice ad m c)) (h1 : P.underlying ty = some (.slice e)) : Rd ds P o n L St (.int .i64 (m : Int)) :=
  run_len hop hx fun w => by simp [Builtin.len_, run_underlying h1, goInt]

theorem run_idx {r : Value} (hop : o.op = .index t x y) (hx : oper L x = some v) (hy : oper L y = some u) (h : ∀ w : World, (Instr.index t v u).run P w = .ok r w) : Rd ds P o n L St r :=
  rd_run fun a hF w _ => by simp [execOp, hop, hF.eval hx, hF.eval hy, h]
theorem rd_sidx {a : List UInt8} {b : UInt8} (hop : o.op = .index t x y) (hx : oper L x = some (.string (S a))) (hy : oper L y = some (.int k i)) (h1 : P.underlying t = some .string) (h0 : 0 ≤ i) (hb : a[i.toNat]? = some b) : Rd ds P o n L St (.int .u8 (b.toNat : Int)) :=
  run_idx hop hx hy fun w => by simp [Instr.index, run_underlying h1, asIntOf, h0, S_get, hb]

theorem run_sl {r : Value} {lo hi mx : Option Operand} (hop : o.op = .slice t x lo hi mx) (hx : oper L x = some v) {vlo vhi vmx : Option Value} (hlo : ∀ z, lo = some z → oper L z = vlo) (hlo' : lo = none → vlo = none) (hhi : ∀ z, hi = some z → oper L z = vhi) (hhi' : hi = none → vhi = none)
    (hlos : lo.isSome = vlo.isSome) (hhis : hi.isSome = vhi.isSome) (hmx : mx = none) (hmx' : vmx = none)
    (h : ∀ w : World, (Instr.sliceAt t v vlo vhi none).run P w = .ok r w) : Rd ds P o n L St r :=
  rd_run fun a hF w _ => by
    have e1 : lo.map a.eval = vlo := by
      cases lo with
      | none => simp [hlo' rfl]
      | some z => cases vlo with
        | none => simp at hlos
        | some q => simp [hF.eval (hlo z rfl)]
    have e2 : hi.map a.eval = vhi := by
      cases hi with
      | none => simp [hhi' rfl]
      | some z => cases vhi with
        | none => simp at hhis
        | some q => simp [hF.eval (hhi z rfl)]
    simp [execOp, hop, hF.eval hx, e1, e2, hmx, h]

theorem bound_run {y' : Nat} {c : BoundsCode} (h : 0 ≤ i ∧ i ≤ (y' : Int)) (w : World) : (Instr.sliceBound (.int k i) y' c).run P w = .ok i.toNat w := by
  simp [Instr.sliceBound, asIntOf, h]

theorem rd_ss {a : List UInt8} {lo hi : Operand} {k' : IntKind} (hop : o.op = .slice t x (some lo) (some hi) none) (hx : oper L x = some (.string (S a))) (hl : oper L lo = some (.int k i)) (hh : oper L hi = some (.int k' j)) (h1 : P.underlying t = some .string)
    (hb : 0 ≤ i ∧ i ≤ j ∧ j ≤ (a.length : Int)) : Rd ds P o n L St (.string (S ((a.drop i.toNat).take (j.toNat - i.toNat)))) :=
  rd_run fun ac hF w _ => by
    have e1 := bound_run (P := P) (k := k') (i := j) (y' := (S a).size) (c := .sliceAlen) (by rw [S_size]; omega) w
    have e2 := bound_run (P := P) (k := k) (i := i) (y' := j.toNat) (c := .sliceB) (by omega) w
    simp [execOp, hop, hF.eval hx, hF.eval hl, hF.eval hh, Instr.sliceAt, Instr.slice, run_underlying h1, Instr.sliceBounds, e1, e2, S_extract]
theorem rd_sfrom {a : List UInt8} {lo : Operand} (hop : o.op = .slice t x (some lo) none none) (hx : oper L x = some (.string (S a))) (hl : oper L lo = some (.int k i)) (h1 : P.underlying t = some .string)
    (hb : 0 ≤ i ∧ i ≤ (a.length : Int)) : Rd ds P o n L St (.string (S (a.drop i.toNat))) :=
  rd_run fun ac hF w _ => by
    have e2 := bound_run (P := P) (k := k) (i := i) (y' := (S a).size) (c := .sliceB) (by rw [S_size]; omega) w
    have e3 : ((a.drop i.toNat).take ((S a).size - i.toNat)) = a.drop i.toNat := List.take_of_length_le (by rw [S_size]; simp)
    simp [execOp, hop, hF.eval hx, hF.eval hl, Instr.sliceAt, Instr.slice, run_underlying h1, Instr.sliceBounds, e2, S_extract, e3]
theorem rd_sto {a : List UInt8} {hi : Operand} (hop : o.op = .slice t x none (some hi) none) (hx : oper L x = some (.string (S a))) (hh : oper L hi = some (.int k j)) (h1 : P.underlying t = some .string)
    (hb : 0 ≤ j ∧ j ≤ (a.length : Int)) : Rd ds P o n L St (.string (S (a.take j.toNat))) :=
  rd_run fun ac hF w _ => by
    have e1 := bound_run (P := P) (k := k) (i := j) (y' := (S a).size) (c := .sliceAlen) (by rw [S_size]; omega) w
    simp [execOp, hop, hF.eval hx, hF.eval hh, Instr.sliceAt, Instr.slice, run_underlying h1, Instr.sliceBounds, e1, S_extract]

theorem rd_ext {vs : Array Value} {ix : Nat} (hop : o.op = .extract x ix) (hx : oper L x = some (.tuple vs)) (h : vs[ix]? = some v) : Rd ds P o n L St v :=
  rd_run fun a hF w _ => by simp [execOp, hop, hF.eval hx, Instr.extract, h]
end
end Go.Proofs.YtbcnnkcddilfjaaGreat
