/-
  SHA-256 and HMAC in plain Lean.
-/
import Derived.Test.YtikcjkifhliidaaDoorRul
namespace Go.Proofs.YtikcjkifhliidaaDoor
set_option linter.unusedSimpArgs false
set_option linter.unusedVariables false
set_option maxRecDepth 20000

abbrev W := BitVec 32
def rr (x : W) (n : Nat) : W := x >>> n ||| x <<< (32 - n)
def u32 (x : W) : Value := .int .u32 (x.toNat : Int)

def s0 (x : W) : W := (rr x 7 ^^^ rr x 18) ^^^ x >>> 3
def s1 (y : W) : W := (rr y 17 ^^^ rr y 19) ^^^ y >>> 10
def word (a b c d : UInt8) : W := BitVec.ofNat 32 (a.toNat * 16777216 + b.toNat * 65536 + c.toNat * 256 + d.toNat)
def words : List UInt8 → List W
  | a :: b :: c :: d :: r => word a b c d :: words r
  | _ => []
def nextW (w : List W) : W := ((w.getD (w.length - 16) 0 + s0 (w.getD (w.length - 15) 0)) + w.getD (w.length - 7) 0) + s1 (w.getD (w.length - 2) 0)
def sched : Nat → List W → List W
  | 0, w => w
  | n + 1, w => sched n w ++ [nextW (sched n w)]
def tt (e f g h k w : W) : W := (((h + ((rr e 6 ^^^ rr e 11) ^^^ rr e 25)) + ((e &&& f) ^^^ (~~~e &&& g))) + k) + w
def uu (a b c : W) : W := ((rr a 2 ^^^ rr a 13) ^^^ rr a 22) + (((a &&& b) ^^^ (a &&& c)) ^^^ (b &&& c))
def rnd (k w : W) : List W → List W
  | [a, b, c, d, e, f, g, h] => [tt e f g h k w + uu a b c, a, b, c, d + tt e f g h k w, e, f, g]
  | l => l
def rounds (ks ws : List W) : Nat → List W → List W
  | 0, x => x
  | n + 1, x => rnd (ks.getD n 0) (ws.getD n 0) (rounds ks ws n x)
def KK : List W := [0x428a2f98#32, 0x71374491#32, 0xb5c0fbcf#32, 0xe9b5dba5#32, 0x3956c25b#32, 0x59f111f1#32, 0x923f82a4#32, 0xab1c5ed5#32,
  0xd807aa98#32, 0x12835b01#32, 0x243185be#32, 0x550c7dc3#32, 0x72be5d74#32, 0x80deb1fe#32, 0x9bdc06a7#32, 0xc19bf174#32,
  0xe49b69c1#32, 0xefbe4786#32, 0x0fc19dc6#32, 0x240ca1cc#32, 0x2de92c6f#32, 0x4a7484aa#32, 0x5cb0a9dc#32, 0x76f988da#32,
  0x983e5152#32, 0xa831c66d#32, 0xb00327c8#32, 0xbf597fc7#32, 0xc6e00bf3#32, 0xd5a79147#32, 0x06ca6351#32, 0x14292967#32,
  0x27b70a85#32, 0x2e1b2138#32, 0x4d2c6dfc#32, 0x53380d13#32, 0x650a7354#32, 0x766a0abb#32, 0x81c2c92e#32, 0x92722c85#32,
  0xa2bfe8a1#32, 0xa81a664b#32, 0xc24b8b70#32, 0xc76c51a3#32, 0xd192e819#32, 0xd6990624#32, 0xf40e3585#32, 0x106aa070#32,
  0x19a4c116#32, 0x1e376c08#32, 0x2748774c#32, 0x34b0bcb5#32, 0x391c0cb3#32, 0x4ed8aa4a#32, 0x5b9cca4f#32, 0x682e6ff3#32,
  0x748f82ee#32, 0x78a5636f#32, 0x84c87814#32, 0x8cc70208#32, 0x90befffa#32, 0xa4506ceb#32, 0xbef9a3f7#32, 0xc67178f2#32]
def H0 : List W := [0x6a09e667#32, 0xbb67ae85#32, 0x3c6ef372#32, 0xa54ff53a#32, 0x510e527f#32, 0x9b05688c#32, 0x1f83d9ab#32, 0x5be0cd19#32]
def addW : List W → List W → List W
  | a :: x, b :: y => (a + b) :: addW x y
  | _, _ => []
def compress (x : List W) (blk : List UInt8) : List W := addW (rounds KK (sched 48 (words blk)) 64 x) x
def chunks : Nat → List W → List UInt8 → List W
  | 0, x, _ => x
  | n + 1, x, m => chunks n (compress x (m.take 64)) (m.drop 64)
def byteAt (n i : Nat) : UInt8 := UInt8.ofNat (n / 2 ^ (8 * i) % 256)
def len8 (n : Nat) : List UInt8 := [byteAt n 7, byteAt n 6, byteAt n 5, byteAt n 4, byteAt n 3, byteAt n 2, byteAt n 1, byteAt n 0]
def zeros (n : Nat) : Nat := (119 - n % 64) % 64
def pad (s : List UInt8) : List UInt8 := s ++ [128] ++ List.replicate (zeros s.length) 0 ++ len8 (8 * s.length)
def bytes4 (x : W) : List UInt8 := [byteAt x.toNat 3, byteAt x.toNat 2, byteAt x.toNat 1, byteAt x.toNat 0]
def outW (x : List W) : List UInt8 := x.flatMap bytes4
def sha (s : List UInt8) : List UInt8 := outW (chunks ((pad s).length / 64) H0 (pad s))

def keyOf (key : List UInt8) : List UInt8 := if key.length > 64 then sha key else key
def xorKey (key : List UInt8) (x : UInt8) : List UInt8 := (key ++ List.replicate (64 - key.length) 0).map (· ^^^ x)
def mac (key s : List UInt8) : List UInt8 := sha (xorKey (keyOf key) 92 ++ sha (xorKey (keyOf key) 54 ++ s))

def hexDigit (n : Nat) : UInt8 := UInt8.ofNat (if n < 10 then 48 + n else 87 + n)
def hexs (s : List UInt8) : List UInt8 := s.flatMap fun c => [hexDigit (c.toNat / 16), hexDigit (c.toNat % 16)]

/-! ### words as the machine has them -/
theorem W_lt (x : W) : x.toNat < 4294967296 := x.isLt
theorem wrap_W (n : Nat) : IntKind.u32.wrap (n : Int) = ((BitVec.ofNat 32 n).toNat : Int) := by
  rw [IntKind.wrap_u32]; simp [BitVec.toNat_ofNat]
theorem add_W (x y : W) : IntKind.u32.wrap ((x.toNat : Int) + (y.toNat : Int)) = ((x + y).toNat : Int) := by
  rw [IntKind.wrap_u32, BitVec.toNat_add]; omega
theorem ofInt_W (x : W) : BitVec.ofInt 32 (x.toNat : Int) = x := by
  apply BitVec.eq_of_toNat_eq; simp
theorem xor_W (x y : W) : bits .xor .u32 (x.toNat : Int) (y.toNat : Int) = ((x ^^^ y).toNat : Int) := by
  unfold bits
  show IntKind.u32.wrap ((BitVec.ofInt 32 (x.toNat : Int) ^^^ BitVec.ofInt 32 (y.toNat : Int)).toNat : Int) = _
  rw [ofInt_W, ofInt_W, wrap_W]; simp
theorem and_W (x y : W) : bits .and .u32 (x.toNat : Int) (y.toNat : Int) = ((x &&& y).toNat : Int) := by
  unfold bits
  show IntKind.u32.wrap ((BitVec.ofInt 32 (x.toNat : Int) &&& BitVec.ofInt 32 (y.toNat : Int)).toNat : Int) = _
  rw [ofInt_W, ofInt_W, wrap_W]; simp
theorem or_W (x y : W) : bits .or .u32 (x.toNat : Int) (y.toNat : Int) = ((x ||| y).toNat : Int) := by
  unfold bits
  show IntKind.u32.wrap ((BitVec.ofInt 32 (x.toNat : Int) ||| BitVec.ofInt 32 (y.toNat : Int)).toNat : Int) = _
  rw [ofInt_W, ofInt_W, wrap_W]; simp
theorem com_W (x : W) : bits .xor .u32 (if IntKind.u32.signed then -1 else IntKind.u32.max) (x.toNat : Int) = ((~~~x).toNat : Int) := by
  have e : (if IntKind.u32.signed then -1 else IntKind.u32.max) = ((BitVec.allOnes 32).toNat : Int) := by decide
  rw [e, xor_W, BitVec.allOnes_xor]
theorem shl_W (x : W) (n : Nat) (h : n ≤ 32) : IntKind.u32.wrap ((x.toNat : Int) * 2 ^ n) = ((x <<< n).toNat : Int) := by
  rw [IntKind.wrap_u32, BitVec.toNat_shiftLeft, Nat.shiftLeft_eq]
  have : ((2 : Int) ^ n) = ((2 ^ n : Nat) : Int) := by simp
  rw [this]; omega
theorem shr_W (x : W) (n : Nat) : (x.toNat : Int).fdiv (2 ^ n) = ((x >>> n).toNat : Int) := by
  rw [BitVec.toNat_ushiftRight, Nat.shiftRight_eq_div_pow]
  have : ((2 : Int) ^ n) = ((2 ^ n : Nat) : Int) := by simp
  rw [this, Int.fdiv_eq_ediv_of_nonneg _ (Int.natCast_nonneg _)]; exact (Int.natCast_ediv _ _).symm
theorem rot_W (x : W) (n : Nat) (h0 : 0 < n) (h : n < 32) : bits .or .u32 (IntKind.u32.wrap ((x.toNat : Int) * 2 ^ (32 - n))) ((x.toNat : Int).fdiv (2 ^ n)) = ((rr x n).toNat : Int) := by
  rw [shl_W x (32 - n) (by omega), shr_W, or_W, rr, BitVec.or_comm]
theorem and31 (n : Nat) (h0 : 0 < n) (h : n < 32) : bits .and .u64 (IntKind.u64.wrap (0 - (n : Int))) 31 = 32 - (n : Int) := by
  have : ∀ k : Fin 32, 0 < k.val → bits .and .u64 (IntKind.u64.wrap (0 - (k.val : Int))) 31 = 32 - (k.val : Int) := by decide
  exact this ⟨n, h⟩ h0

theorem fill_set {α : Type} (l : List α) (f : α → Value) (z : Value) (n k : Nat) (x : α) (hk : k < n) (hx : l[k]? = some x) :
    ((l.take k).map f ++ List.replicate (n - k) z).set k (f x) = (l.take (k + 1)).map f ++ List.replicate (n - (k + 1)) z := by
  have hl : k < l.length := (List.getElem?_eq_some_iff.1 hx).1
  have hlen : ((l.take k).map f).length = k := by simp; omega
  rw [List.set_append_right _ _ (by omega), hlen, Nat.sub_self, List.take_add_one, hx]
  have : n - k = (n - (k + 1)) + 1 := by omega
  rw [this, List.replicate_succ]
  simp

theorem words_get : ∀ (k : Nat) (bs : List UInt8) (c0 c1 c2 c3 : UInt8), bs[4 * k]? = some c0 → bs[4 * k + 1]? = some c1 → bs[4 * k + 2]? = some c2 → bs[4 * k + 3]? = some c3 → (words bs)[k]? = some (word c0 c1 c2 c3)
  | 0, bs, c0, c1, c2, c3, h0, h1, h2, h3 => by
    match bs, h0, h1, h2, h3 with
    | a :: b :: c :: d :: r, h0, h1, h2, h3 => simp at h0 h1 h2 h3; simp [words, h0, h1, h2, h3]
  | k + 1, bs, c0, c1, c2, c3, h0, h1, h2, h3 => by
    match bs, h3 with
    | a :: b :: c :: d :: r, h3 =>
      have e : ∀ q, (a :: b :: c :: d :: r)[4 * (k + 1) + q]? = r[4 * k + q]? := fun q => by
        rw [show 4 * (k + 1) + q = (4 * k + q) + 4 by omega]; simp
      have e0 := e 0
      simp only [Nat.add_zero] at e0
      simp only [words, List.getElem?_cons_succ]
      exact words_get k r c0 c1 c2 c3 (e0 ▸ h0) (e 1 ▸ h1) (e 2 ▸ h2) (e 3 ▸ h3)
    | [], h3 => simp at h3
    | [_], h3 => simp at h3
    | [_, _], h3 => simp at h3
    | [_, _, _], h3 => simp at h3

theorem words_len : ∀ (n : Nat) (bs : List UInt8), bs.length = 4 * n → (words bs).length = n
  | 0, bs, h => by have : bs = [] := List.eq_nil_of_length_eq_zero (by omega); subst this; rfl
  | n + 1, bs, h => by
    match bs, h with
    | a :: b :: c :: d :: r, h => simp only [words, List.length_cons]; rw [words_len n r (by simp at h; omega)]
    | [], h => simp at h
    | [_], h => simp at h; omega
    | [_, _], h => simp at h; omega
    | [_, _, _], h => simp at h; omega

theorem sched_len (n : Nat) (w : List W) : (sched n w).length = w.length + n := by
  induction n with
  | zero => rfl
  | succ n ih => simp [sched, ih]; omega
theorem sched_take (n m : Nat) (w : List W) (h : m ≤ n) : (sched n w).take (w.length + m) = sched m w := by
  induction n with
  | zero => have : m = 0 := by omega
            subst this; simp [sched]
  | succ n ih =>
    by_cases hm : m = n + 1
    · subst hm; rw [← sched_len]; exact List.take_length
    · simp only [sched]
      rw [List.take_append_of_le_length (by rw [sched_len]; omega)]
      exact ih (by omega)
theorem sched_get (n m : Nat) (w : List W) (h : m < n) : (sched n w)[w.length + m]? = some (nextW (sched m w)) := by
  have h1 : (sched n w)[w.length + m]? = ((sched n w).take (w.length + (m + 1)))[w.length + m]? := by
    rw [List.getElem?_take, if_pos (by omega)]
  rw [h1, sched_take n (m + 1) w (by omega)]
  simp only [sched]
  rw [List.getElem?_append_right (by rw [sched_len]; omega), sched_len, Nat.sub_self]; rfl

theorem u8_W (c : UInt8) : IntKind.u32.wrap (c.toNat : Int) = ((BitVec.ofNat 32 c.toNat).toNat : Int) := wrap_W c.toNat
theorem word_W (c0 c1 c2 c3 : UInt8) : ((BitVec.ofNat 32 c0.toNat <<< 24 ||| BitVec.ofNat 32 c1.toNat <<< 16) ||| BitVec.ofNat 32 c2.toNat <<< 8) ||| BitVec.ofNat 32 c3.toNat = word c0 c1 c2 c3 := by
  have h0 := c0.toNat_lt; have h1 := c1.toNat_lt; have h2 := c2.toNat_lt; have h3 := c3.toNat_lt
  apply BitVec.eq_of_toNat_eq
  simp only [word, BitVec.toNat_or, BitVec.toNat_shiftLeft, BitVec.toNat_ofNat, Nat.shiftLeft_eq]
  rw [Nat.mod_eq_of_lt (by omega : c0.toNat < 2 ^ 32), Nat.mod_eq_of_lt (by omega : c1.toNat < 2 ^ 32), Nat.mod_eq_of_lt (by omega : c2.toNat < 2 ^ 32), Nat.mod_eq_of_lt (by omega : c3.toNat < 2 ^ 32)]
  rw [Nat.mod_eq_of_lt (by omega : c0.toNat * 2 ^ 24 < 2 ^ 32), Nat.mod_eq_of_lt (by omega : c1.toNat * 2 ^ 16 < 2 ^ 32), Nat.mod_eq_of_lt (by omega : c2.toNat * 2 ^ 8 < 2 ^ 32), Nat.mod_eq_of_lt (by omega)]
  have e1 := Nat.two_pow_add_eq_or_of_lt (i := 24) (b := c1.toNat * 2 ^ 16) (by omega) c0.toNat
  have e2 := Nat.two_pow_add_eq_or_of_lt (i := 16) (b := c2.toNat * 2 ^ 8) (by omega) (c0.toNat * 2 ^ 8 + c1.toNat)
  have e3 := Nat.two_pow_add_eq_or_of_lt (i := 8) (b := c3.toNat) (by omega) (c0.toNat * 2 ^ 16 + c1.toNat * 2 ^ 8 + c2.toNat)
  rw [Nat.mul_comm c0.toNat, ← e1]
  rw [show 2 ^ 24 * c0.toNat + c1.toNat * 2 ^ 16 = 2 ^ 16 * (c0.toNat * 2 ^ 8 + c1.toNat) by omega, ← e2]
  rw [show 2 ^ 16 * (c0.toNat * 2 ^ 8 + c1.toNat) + c2.toNat * 2 ^ 8 = 2 ^ 8 * (c0.toNat * 2 ^ 16 + c1.toNat * 2 ^ 8 + c2.toNat) by omega, ← e3]
  first | done | omega
theorem word_bits (c0 c1 c2 c3 : UInt8) : bits .or .u32 (bits .or .u32 (bits .or .u32 (IntKind.u32.wrap (IntKind.u32.wrap (c0.toNat : Int) * 2 ^ (min (Int.toNat 24) IntKind.u32.bits))) (IntKind.u32.wrap (IntKind.u32.wrap (c1.toNat : Int) * 2 ^ (min (Int.toNat 16) IntKind.u32.bits)))) (IntKind.u32.wrap (IntKind.u32.wrap (c2.toNat : Int) * 2 ^ (min (Int.toNat 8) IntKind.u32.bits)))) (IntKind.u32.wrap (c3.toNat : Int)) = ((word c0 c1 c2 c3).toNat : Int) := by
  have m1 : min (Int.toNat 24) IntKind.u32.bits = 24 := by decide
  have m2 : min (Int.toNat 16) IntKind.u32.bits = 16 := by decide
  have m3 : min (Int.toNat 8) IntKind.u32.bits = 8 := by decide
  rw [m1, m2, m3, u8_W, u8_W, u8_W, u8_W, shl_W _ 24 (by omega), shl_W _ 16 (by omega), shl_W _ 8 (by omega), or_W, or_W, or_W, word_W]

/-! the operations on words -/
section
variable {ds : List Deferred} {ρ : Option Nat} {P : Program} {o : Oper} {n : Nat} {L : Slots} {Z : World → Prop} {x y : Operand} {t t2 : TypeId} {a b : W}
theorem rdW_add (hop : o.op = .binOp .add t x y t2) (hx : oper L x = some (u32 a)) (hy : oper L y = some (u32 b)) : Rd ds P o n L Z (u32 (a + b)) := by
  have := rd_add (ds := ds) (P := P) (n := n) (St := Z) hop hx hy; rwa [add_W] at this
theorem rdW_xor (hop : o.op = .binOp .xor t x y t2) (hx : oper L x = some (u32 a)) (hy : oper L y = some (u32 b)) : Rd ds P o n L Z (u32 (a ^^^ b)) := by
  have := rd_xor (ds := ds) (P := P) (n := n) (St := Z) hop hx hy; rwa [xor_W] at this
theorem rdW_and (hop : o.op = .binOp .and t x y t2) (hx : oper L x = some (u32 a)) (hy : oper L y = some (u32 b)) : Rd ds P o n L Z (u32 (a &&& b)) := by
  have := rd_and (ds := ds) (P := P) (n := n) (St := Z) hop hx hy; rwa [and_W] at this
theorem rdW_or (hop : o.op = .binOp .or t x y t2) (hx : oper L x = some (u32 a)) (hy : oper L y = some (u32 b)) : Rd ds P o n L Z (u32 (a ||| b)) := by
  have := rd_or (ds := ds) (P := P) (n := n) (St := Z) hop hx hy; rwa [or_W] at this
theorem rdW_com (hop : o.op = .unOp .xor t x) (hx : oper L x = some (u32 a)) : Rd ds P o n L Z (u32 (~~~a)) := by
  have := rd_com (ds := ds) (P := P) (n := n) (St := Z) hop hx; rwa [com_W] at this
theorem rdW_shr {k' : IntKind} {c : Nat} (hop : o.op = .binOp .shr t x y t2) (hx : oper L x = some (u32 a)) (hy : oper L y = some (.int k' (@OfNat.ofNat Int c instOfNat))) (hc : c ≤ 32) : Rd ds P o n L Z (u32 (a >>> c)) := by
  have := rd_shr (ds := ds) (P := P) (n := n) (St := Z) hop hx hy (Int.natCast_nonneg c)
  have e : min (@OfNat.ofNat Int c instOfNat).toNat IntKind.u32.bits = c := by
    show min c 32 = c; omega
  rwa [e, shr_W] at this
theorem rdW_shl {k' : IntKind} {c : Nat} (hop : o.op = .binOp .shl t x y t2) (hx : oper L x = some (u32 a)) (hy : oper L y = some (.int k' (@OfNat.ofNat Int c instOfNat))) (hc : c ≤ 32) : Rd ds P o n L Z (u32 (a <<< c)) := by
  have := rd_shl (ds := ds) (P := P) (n := n) (St := Z) hop hx hy (Int.natCast_nonneg c)
  have e : min (@OfNat.ofNat Int c instOfNat).toNat IntKind.u32.bits = c := by
    show min c 32 = c; omega
  rwa [e, shl_W a c hc] at this
end

theorem u32_one (l : List W) : ∀ v ∈ l.map u32, v.oneCell' = true := fun v hv => by obtain ⟨c, _, rfl⟩ := List.mem_map.1 hv; rfl
theorem map_cell {α : Type} (l : List α) (f : α → Value) (r : List Value) (i : Nat) (x : α) (h : l[i]? = some x) : (l.map f ++ r)[i]? = some (f x) := by
  have : i < l.length := (List.getElem?_eq_some_iff.1 h).1
  rw [List.getElem?_append_left (by simpa using this), List.getElem?_map, h]; rfl
theorem get_getD {α : Type} (l : List α) (i : Nat) (z : α) (h : i < l.length) : l[i]? = some (l.getD i z) := by simp [h]
theorem rnd_len (k w : W) (x : List W) (h : x.length = 8) : (rnd k w x).length = 8 := by
  match x, h with
  | [a, b, c, d, e, f, g, i], _ => rfl
theorem rounds_len (ks ws : List W) (n : Nat) (x : List W) (h : x.length = 8) : (rounds ks ws n x).length = 8 := by
  induction n with
  | zero => exact h
  | succ n ih => exact rnd_len _ _ _ ih
theorem eight (x : List W) (h : x.length = 8) : ∃ a b c d e f g i, x = [a, b, c, d, e, f, g, i] := by
  match x, h with
  | [a, b, c, d, e, f, g, i], _ => exact ⟨a, b, c, d, e, f, g, i, rfl⟩
theorem addW_len : ∀ (x y : List W), x.length = y.length → (addW x y).length = x.length
  | [], [], _ => rfl
  | a :: x, b :: y, h => by simp only [addW, List.length_cons]; rw [addW_len x y (by simpa using h)]
theorem addW_get : ∀ (x y : List W) (k : Nat) (a b : W), x[k]? = some a → y[k]? = some b → (addW x y)[k]? = some (a + b)
  | a' :: x, b' :: y, 0, a, b, h1, h2 => by simp at h1 h2; simp [addW, h1, h2]
  | a' :: x, b' :: y, k + 1, a, b, h1, h2 => by simp at h1 h2; simp only [addW, List.getElem?_cons_succ]; exact addW_get x y k a b h1 h2
theorem addW_set (x y : List W) (k : Nat) (a b : W) (hl : x.length = y.length) (h1 : x[k]? = some a) (h2 : y[k]? = some b) :
    (((addW x y).take k ++ x.drop k).map u32).set k (u32 (a + b)) = ((addW x y).take (k + 1) ++ x.drop (k + 1)).map u32 := by
  have hk : k < x.length := (List.getElem?_eq_some_iff.1 h1).1
  have hal := addW_len x y hl
  rw [← List.map_set]
  congr 1
  have hlen : ((addW x y).take k).length = k := by simp; omega
  rw [List.set_append_right _ _ (by omega), hlen, Nat.sub_self, List.take_add_one, addW_get x y k a b h1 h2]
  have hd : (x.drop k).set 0 (a + b) = (a + b) :: x.drop (k + 1) := by rw [List.drop_eq_getElem_cons hk]; rfl
  rw [hd]; simp

/-! a word byte by byte -/
def pick4 (c0 c1 c2 c3 : UInt8) : Nat → UInt8
  | 0 => c0
  | 1 => c1
  | 2 => c2
  | _ => c3
def part4 (c0 c1 c2 c3 : UInt8) : Nat → W
  | 0 => 0
  | n + 1 => part4 c0 c1 c2 c3 n * 256 + BitVec.ofNat 32 (pick4 c0 c1 c2 c3 n).toNat
theorem part4_succ (c0 c1 c2 c3 : UInt8) (j : Nat) (_h : j < 4) : part4 c0 c1 c2 c3 (j + 1) = part4 c0 c1 c2 c3 j * 256 + BitVec.ofNat 32 (pick4 c0 c1 c2 c3 j).toNat := rfl
theorem part4_word (c0 c1 c2 c3 : UInt8) : part4 c0 c1 c2 c3 4 = word c0 c1 c2 c3 := by
  apply BitVec.eq_of_toNat_eq
  have h0 := c0.toNat_lt; have h1 := c1.toNat_lt; have h2 := c2.toNat_lt; have h3 := c3.toNat_lt
  simp only [part4, pick4, word, BitVec.toNat_add, BitVec.toNat_mul, BitVec.toNat_ofNat, BitVec.ofNat_eq_ofNat]
  omega
theorem mul_W (x y : W) : IntKind.u32.wrap ((x.toNat : Int) * (y.toNat : Int)) = ((x * y).toNat : Int) := by
  rw [IntKind.wrap_u32, BitVec.toNat_mul, ← Int.natCast_mul]; omega
theorem set_zero4 (ws : List W) (hw : ws.length = 16) (k : Nat) (hk : k < 16) : ((ws.take k).map u32 ++ List.replicate (64 - k) (u32 0)).set k (u32 0) = (ws.take k).map u32 ++ List.replicate (64 - k) (u32 0) := by
  have hl : ((ws.take k).map u32).length = k := by simp; omega
  rw [List.set_append_right _ _ (by omega), hl, Nat.sub_self, show 64 - k = (63 - k) + 1 by omega, List.replicate_succ]
  rfl
end Go.Proofs.YtikcjkifhliidaaDoor
