/-
  Parts of the walk: Sha Hash1 Hash2 Hash3 Ref1.
-/
import Derived.Test.YtmkghgoibnncbaaGreatDoorY12
import Derived.Test.YtmkghgoibnncbaaGreatDoorProg
import Derived.Laws.BitsAllLaws
namespace Go.Proofs.YtmkghgoibnncbaaGreatDoor
set_option linter.unusedSimpArgs false
set_option linter.unusedVariables false
set_option maxRecDepth 20000
abbrev W := BitVec 32
def rr (x : W) (n : Nat) : W := x >>> n ||| x <<< (32 - n)
def u32 (x : W) : Value := .int .u32 (x.toNat : Int)
def s0 (x : W) : W := (rr x 7 ^^^ rr x 18) ^^^ x >>> 3
def s1 (y : W) : W := (rr y 17 ^^^ rr y 19) ^^^ y >>> 10
def word (a b c d : UInt8) : W := BitVec.ofNat 32 (a.toNat * 16777216 + b.toNat * 65536 + c.toNat * 256 + d.toNat)
def words : List UInt8 → List W
 | a :: b :: c :: d :: r => word a b c d :: words r
 | _ => []
def nextW (w : List W) : W := ((w.getD (w.length - 16) 0 + s0 (w.getD (w.length - 15) 0)) + w.getD (w.length - 7) 0) + s1 (w.getD (w.length - 2) 0)
def sched : Nat → List W → List W
 | 0, w => w
 | n + 1, w => sched n w ++ [nextW (sched n w)]
def tt (e f g h k w : W) : W := (((h + ((rr e 6 ^^^ rr e 11) ^^^ rr e 25)) + ((e &&& f) ^^^ (~~~e &&& g))) + k) + w
def uu (a b c : W) : W := ((rr a 2 ^^^ rr a 13) ^^^ rr a 22) + (((a &&& b) ^^^ (a &&& c)) ^^^ (b &&& c))
def rnd (k w : W) : List W → List W
 | [a, b, c, d, e, f, g, h] => [tt e f g h k w + uu a b c, a, b, c, d + tt e f g h k w, e, f, g]
 | l => l
def rounds (ks ws : List W) : Nat → List W → List W
 | 0, x => x
 | n + 1, x => rnd (ks.getD n 0) (ws.getD n 0) (rounds ks ws n x)
def KK : List W := [0x428a2f98#32, 0x71374491#32, 0xb5c0fbcf#32, 0xe9b5dba5#32, 0x3956c25b#32, 0x59f111f1#32, 0x923f82a4#32, 0xab1c5ed5#32,
 0xd807aa98#32, 0x12835b01#32, 0x243185be#32, 0x550c7dc3#32, 0x72be5d74#32, 0x80deb1fe#32, 0x9bdc06a7#32, 0xc19bf174#32,
 0xe49b69c1#32, 0xefbe4786#32, 0x0fc19dc6#32, 0x240ca1cc#32, 0x2de92c6f#32, 0x4a7484aa#32, 0x5cb0a9dc#32, 0x76f988da#32,
 0x983e5152#32, 0xa831c66d#32, 0xb00327c8#32, 0xbf597fc7#32, 0xc6e00bf3#32, 0xd5a79147#32, 0x06ca6351#32, 0x14292967#32,
 0x27b70a85#32, 0x2e1b2138#32, 0x4d2c6dfc#32, 0x53380d13#32, 0x650a7354#32, 0x766a0abb#32, 0x81c2c92e#32, 0x92722c85#32,
 0xa2bfe8a1#32, 0xa81a664b#32, 0xc24b8b70#32, 0xc76c51a3#32, 0xd192e819#32, 0xd6990624#32, 0xf40e3585#32, 0x106aa070#32,
 0x19a4c116#32, 0x1e376c08#32, 0x2748774c#32, 0x34b0bcb5#32, 0x391c0cb3#32, 0x4ed8aa4a#32, 0x5b9cca4f#32, 0x682e6ff3#32,
 0x748f82ee#32, 0x78a5636f#32, 0x84c87814#32, 0x8cc70208#32, 0x90befffa#32, 0xa4506ceb#32, 0xbef9a3f7#32, 0xc67178f2#32]
def H0 : List W := [0x6a09e667#32, 0xbb67ae85#32, 0x3c6ef372#32, 0xa54ff53a#32, 0x510e527f#32, 0x9b05688c#32, 0x1f83d9ab#32, 0x5be0cd19#32]
def addW : List W → List W → List W
 | a :: x, b :: y => (a + b) :: addW x y
 | _, _ => []
def compress (x : List W) (blk : List UInt8) : List W := addW (rounds KK (sched 48 (words blk)) 64 x) x
def chunks : Nat → List W → List UInt8 → List W
 | 0, x, _ => x
 | n + 1, x, m => chunks n (compress x (m.take 64)) (m.drop 64)
def byteAt (n i : Nat) : UInt8 := UInt8.ofNat (n / 2 ^ (8 * i) % 256)
def len8 (n : Nat) : List UInt8 := [byteAt n 7, byteAt n 6, byteAt n 5, byteAt n 4, byteAt n 3, byteAt n 2, byteAt n 1, byteAt n 0]
def zeros (n : Nat) : Nat := (119 - n % 64) % 64
def pad (s : List UInt8) : List UInt8 := s ++ [128] ++ List.replicate (zeros s.length) 0 ++ len8 (8 * s.length)
def bytes4 (x : W) : List UInt8 := [byteAt x.toNat 3, byteAt x.toNat 2, byteAt x.toNat 1, byteAt x.toNat 0]
def outW (x : List W) : List UInt8 := x.flatMap bytes4
def sha (s : List UInt8) : List UInt8 := outW (chunks ((pad s).length / 64) H0 (pad s))
def keyOf (key : List UInt8) : List UInt8 := if key.length > 64 then sha key else key
def xorKey (key : List UInt8) (x : UInt8) : List UInt8 := (key ++ List.replicate (64 - key.length) 0).map (· ^^^ x)
def mac (key s : List UInt8) : List UInt8 := sha (xorKey (keyOf key) 92 ++ sha (xorKey (keyOf key) 54 ++ s))
theorem wrap_W (n : Nat) : IntKind.u32.wrap (n : Int) = ((BitVec.ofNat 32 n).toNat : Int) := by
 rw [IntKind.wrap_u32]; simp [BitVec.toNat_ofNat]
theorem add_W (x y : W) : IntKind.u32.wrap ((x.toNat : Int) + (y.toNat : Int)) = ((x + y).toNat : Int) := by
 rw [IntKind.wrap_u32, BitVec.toNat_add]; omega
theorem ofInt_W (x : W) : BitVec.ofInt 32 (x.toNat : Int) = x := by
 apply BitVec.eq_of_toNat_eq; simp
theorem xor_W (x y : W) : bits .xor .u32 (x.toNat : Int) (y.toNat : Int) = ((x ^^^ y).toNat : Int) := by
 unfold bits
 show IntKind.u32.wrap ((BitVec.ofInt 32 (x.toNat : Int) ^^^ BitVec.ofInt 32 (y.toNat : Int)).toNat : Int) = _
 rw [ofInt_W, ofInt_W, wrap_W]; simp
theorem and_W (x y : W) : bits .and .u32 (x.toNat : Int) (y.toNat : Int) = ((x &&& y).toNat : Int) := by
 unfold bits
 show IntKind.u32.wrap ((BitVec.ofInt 32 (x.toNat : Int) &&& BitVec.ofInt 32 (y.toNat : Int)).toNat : Int) = _
 rw [ofInt_W, ofInt_W, wrap_W]; simp
theorem or_W (x y : W) : bits .or .u32 (x.toNat : Int) (y.toNat : Int) = ((x ||| y).toNat : Int) := by
 unfold bits
 show IntKind.u32.wrap ((BitVec.ofInt 32 (x.toNat : Int) ||| BitVec.ofInt 32 (y.toNat : Int)).toNat : Int) = _
 rw [ofInt_W, ofInt_W, wrap_W]; simp
theorem com_W (x : W) : bits .xor .u32 (if IntKind.u32.signed then -1 else IntKind.u32.max) (x.toNat : Int) = ((~~~x).toNat : Int) := by
 have e : (if IntKind.u32.signed then -1 else IntKind.u32.max) = ((BitVec.allOnes 32).toNat : Int) := by decide
 rw [e, xor_W, BitVec.allOnes_xor]
theorem shl_W (x : W) (n : Nat) (h : n ≤ 32) : IntKind.u32.wrap ((x.toNat : Int) * 2 ^ n) = ((x <<< n).toNat : Int) := by
 rw [IntKind.wrap_u32, BitVec.toNat_shiftLeft, Nat.shiftLeft_eq]
 have : ((2 : Int) ^ n) = ((2 ^ n : Nat) : Int) := by simp
 rw [this]; omega
theorem shr_W (x : W) (n : Nat) : (x.toNat : Int).fdiv (2 ^ n) = ((x >>> n).toNat : Int) := by
 rw [BitVec.toNat_ushiftRight, Nat.shiftRight_eq_div_pow]
 have : ((2 : Int) ^ n) = ((2 ^ n : Nat) : Int) := by simp
 rw [this, Int.fdiv_eq_ediv_of_nonneg _ (Int.natCast_nonneg _)]; exact (Int.natCast_ediv _ _).symm
theorem rot_W (x : W) (n : Nat) (h0 : 0 < n) (h : n < 32) : bits .or .u32 (IntKind.u32.wrap ((x.toNat : Int) * 2 ^ (32 - n))) ((x.toNat : Int).fdiv (2 ^ n)) = ((rr x n).toNat : Int) := by
 rw [shl_W x (32 - n) (by omega), shr_W, or_W, rr, BitVec.or_comm]
theorem and31 (n : Nat) (h0 : 0 < n) (h : n < 32) : bits .and .u64 (IntKind.u64.wrap (0 - (n : Int))) 31 = 32 - (n : Int) := by
 have : ∀ k : Fin 32, 0 < k.val → bits .and .u64 (IntKind.u64.wrap (0 - (k.val : Int))) 31 = 32 - (k.val : Int) := by decide
 exact this ⟨n, h⟩ h0
theorem fill_set {α : Type} (l : List α) (f : α → Value) (z : Value) (n k : Nat) (x : α) (hk : k < n) (hx : l[k]? = some x) :
  ((l.take k).map f ++ List.replicate (n - k) z).set k (f x) = (l.take (k + 1)).map f ++ List.replicate (n - (k + 1)) z := by
 have hl : k < l.length := (List.getElem?_eq_some_iff.1 hx).1
 have hlen : ((l.take k).map f).length = k := by simp; omega
 rw [List.set_append_right _ _ (by omega), hlen, Nat.sub_self, List.take_add_one, hx]
 have : n - k = (n - (k + 1)) + 1 := by omega
 rw [this, List.replicate_succ]
 simp
theorem words_get : ∀ (k : Nat) (bs : List UInt8) (c0 c1 c2 c3 : UInt8), bs[4 * k]? = some c0 → bs[4 * k + 1]? = some c1 → bs[4 * k + 2]? = some c2 → bs[4 * k + 3]? = some c3 → (words bs)[k]? = some (word c0 c1 c2 c3)
 | 0, bs, c0, c1, c2, c3, h0, h1, h2, h3 => by
  match bs, h0, h1, h2, h3 with
  | a :: b :: c :: d :: r, h0, h1, h2, h3 => simp at h0 h1 h2 h3; simp [words, h0, h1, h2, h3]
 | k + 1, bs, c0, c1, c2, c3, h0, h1, h2, h3 => by
  match bs, h3 with
  | a :: b :: c :: d :: r, h3 =>
   have e : ∀ q, (a :: b :: c :: d :: r)[4 * (k + 1) + q]? = r[4 * k + q]? := fun q => by
    rw [show 4 * (k + 1) + q = (4 * k + q) + 4 by omega]; simp
   have e0 := e 0
   simp only [Nat.add_zero] at e0
   simp only [words, List.getElem?_cons_succ]
   exact words_get k r c0 c1 c2 c3 (e0 ▸ h0) (e 1 ▸ h1) (e 2 ▸ h2) (e 3 ▸ h3)
  | [], h3 => simp at h3
  | [_], h3 => simp at h3
  | [_, _], h3 => simp at h3
  | [_, _, _], h3 => simp at h3
theorem words_len : ∀ (n : Nat) (bs : List UInt8), bs.length = 4 * n → (words bs).length = n
 | 0, bs, h => by have : bs = [] := List.eq_nil_of_length_eq_zero (by omega); subst this; rfl
 | n + 1, bs, h => by
  match bs, h with
  | a :: b :: c :: d :: r, h => simp only [words, List.length_cons]; rw [words_len n r (by simp at h; omega)]
  | [], h => simp at h
  | [_], h => simp at h; omega
  | [_, _], h => simp at h; omega
  | [_, _, _], h => simp at h; omega
theorem sched_len (n : Nat) (w : List W) : (sched n w).length = w.length + n := by
 induction n with
 | zero => rfl
 | succ n ih => simp [sched, ih]; omega
theorem u8_W (c : UInt8) : IntKind.u32.wrap (c.toNat : Int) = ((BitVec.ofNat 32 c.toNat).toNat : Int) := wrap_W c.toNat
theorem word_W (c0 c1 c2 c3 : UInt8) : ((BitVec.ofNat 32 c0.toNat <<< 24 ||| BitVec.ofNat 32 c1.toNat <<< 16) ||| BitVec.ofNat 32 c2.toNat <<< 8) ||| BitVec.ofNat 32 c3.toNat = word c0 c1 c2 c3 := by
 have h0 := c0.toNat_lt; have h1 := c1.toNat_lt; have h2 := c2.toNat_lt; have h3 := c3.toNat_lt
 apply BitVec.eq_of_toNat_eq
 simp only [word, BitVec.toNat_or, BitVec.toNat_shiftLeft, BitVec.toNat_ofNat, Nat.shiftLeft_eq]
 rw [Nat.mod_eq_of_lt (by omega : c0.toNat < 2 ^ 32), Nat.mod_eq_of_lt (by omega : c1.toNat < 2 ^ 32), Nat.mod_eq_of_lt (by omega : c2.toNat < 2 ^ 32), Nat.mod_eq_of_lt (by omega : c3.toNat < 2 ^ 32)]
 rw [Nat.mod_eq_of_lt (by omega : c0.toNat * 2 ^ 24 < 2 ^ 32), Nat.mod_eq_of_lt (by omega : c1.toNat * 2 ^ 16 < 2 ^ 32), Nat.mod_eq_of_lt (by omega : c2.toNat * 2 ^ 8 < 2 ^ 32), Nat.mod_eq_of_lt (by omega)]
 have e1 := Nat.two_pow_add_eq_or_of_lt (i := 24) (b := c1.toNat * 2 ^ 16) (by omega) c0.toNat
 have e2 := Nat.two_pow_add_eq_or_of_lt (i := 16) (b := c2.toNat * 2 ^ 8) (by omega) (c0.toNat * 2 ^ 8 + c1.toNat)
 have e3 := Nat.two_pow_add_eq_or_of_lt (i := 8) (b := c3.toNat) (by omega) (c0.toNat * 2 ^ 16 + c1.toNat * 2 ^ 8 + c2.toNat)
 rw [Nat.mul_comm c0.toNat, ← e1]
 rw [show 2 ^ 24 * c0.toNat + c1.toNat * 2 ^ 16 = 2 ^ 16 * (c0.toNat * 2 ^ 8 + c1.toNat) by omega, ← e2]
 rw [show 2 ^ 16 * (c0.toNat * 2 ^ 8 + c1.toNat) + c2.toNat * 2 ^ 8 = 2 ^ 8 * (c0.toNat * 2 ^ 16 + c1.toNat * 2 ^ 8 + c2.toNat) by omega, ← e3]
 first | done | omega
theorem word_bits (c0 c1 c2 c3 : UInt8) : bits .or .u32 (bits .or .u32 (bits .or .u32 (IntKind.u32.wrap (IntKind.u32.wrap (c0.toNat : Int) * 2 ^ (min (Int.toNat 24) IntKind.u32.bits))) (IntKind.u32.wrap (IntKind.u32.wrap (c1.toNat : Int) * 2 ^ (min (Int.toNat 16) IntKind.u32.bits)))) (IntKind.u32.wrap (IntKind.u32.wrap (c2.toNat : Int) * 2 ^ (min (Int.toNat 8) IntKind.u32.bits)))) (IntKind.u32.wrap (c3.toNat : Int)) = ((word c0 c1 c2 c3).toNat : Int) := by
 have m1 : min (Int.toNat 24) IntKind.u32.bits = 24 := by decide
 have m2 : min (Int.toNat 16) IntKind.u32.bits = 16 := by decide
 have m3 : min (Int.toNat 8) IntKind.u32.bits = 8 := by decide
 rw [m1, m2, m3, u8_W, u8_W, u8_W, u8_W, shl_W _ 24 (by omega), shl_W _ 16 (by omega), shl_W _ 8 (by omega), or_W, or_W, or_W, word_W]
section
variable {ds : List Deferred} {ρ : Option Nat} {P : Program} {o : Oper} {n : Nat} {L : Slots} {Z : World → Prop} {x y : Operand} {t t2 : TypeId} {a b : W}
theorem rdW_add (hop : o.op = .binOp .add t x y t2) (hx : oper L x = some (u32 a)) (hy : oper L y = some (u32 b)) : Rd ds P o n L Z (u32 (a + b)) := by
 have := rd_add (ds := ds) (P := P) (n := n) (St := Z) hop hx hy; rwa [add_W] at this
theorem rdW_xor (hop : o.op = .binOp .xor t x y t2) (hx : oper L x = some (u32 a)) (hy : oper L y = some (u32 b)) : Rd ds P o n L Z (u32 (a ^^^ b)) := by
 have := rd_xor (ds := ds) (P := P) (n := n) (St := Z) hop hx hy; rwa [xor_W] at this
theorem rdW_and (hop : o.op = .binOp .and t x y t2) (hx : oper L x = some (u32 a)) (hy : oper L y = some (u32 b)) : Rd ds P o n L Z (u32 (a &&& b)) := by
 have := rd_and (ds := ds) (P := P) (n := n) (St := Z) hop hx hy; rwa [and_W] at this
theorem rdW_or (hop : o.op = .binOp .or t x y t2) (hx : oper L x = some (u32 a)) (hy : oper L y = some (u32 b)) : Rd ds P o n L Z (u32 (a ||| b)) := by
 have := rd_or (ds := ds) (P := P) (n := n) (St := Z) hop hx hy; rwa [or_W] at this
theorem rdW_com (hop : o.op = .unOp .xor t x) (hx : oper L x = some (u32 a)) : Rd ds P o n L Z (u32 (~~~a)) := by
 have := rd_com (ds := ds) (P := P) (n := n) (St := Z) hop hx; rwa [com_W] at this
theorem rdW_shr {k' : IntKind} {c : Nat} (hop : o.op = .binOp .shr t x y t2) (hx : oper L x = some (u32 a)) (hy : oper L y = some (.int k' (@OfNat.ofNat Int c instOfNat))) (hc : c ≤ 32) : Rd ds P o n L Z (u32 (a >>> c)) := by
 have := rd_shr (ds := ds) (P := P) (n := n) (St := Z) hop hx hy (Int.natCast_nonneg c)
 have e : min (@OfNat.ofNat Int c instOfNat).toNat IntKind.u32.bits = c := by
  show min c 32 = c; omega
 rwa [e, shr_W] at this
end
theorem u32_one (l : List W) : ∀ v ∈ l.map u32, v.oneCell' = true := fun v hv => by obtain ⟨c, _, rfl⟩ := List.mem_map.1 hv; rfl
theorem map_cell {α : Type} (l : List α) (f : α → Value) (r : List Value) (i : Nat) (x : α) (h : l[i]? = some x) : (l.map f ++ r)[i]? = some (f x) := by
 have : i < l.length := (List.getElem?_eq_some_iff.1 h).1
 rw [List.getElem?_append_left (by simpa using this), List.getElem?_map, h]; rfl
theorem get_getD {α : Type} (l : List α) (i : Nat) (z : α) (h : i < l.length) : l[i]? = some (l.getD i z) := by simp [h]
theorem rnd_len (k w : W) (x : List W) (h : x.length = 8) : (rnd k w x).length = 8 := by
 match x, h with
 | [a, b, c, d, e, f, g, i], _ => rfl
theorem rounds_len (ks ws : List W) (n : Nat) (x : List W) (h : x.length = 8) : (rounds ks ws n x).length = 8 := by
 induction n with
 | zero => exact h
 | succ n ih => exact rnd_len _ _ _ ih
theorem eight (x : List W) (h : x.length = 8) : ∃ a b c d e f g i, x = [a, b, c, d, e, f, g, i] := by
 match x, h with
 | [a, b, c, d, e, f, g, i], _ => exact ⟨a, b, c, d, e, f, g, i, rfl⟩
theorem addW_len : ∀ (x y : List W), x.length = y.length → (addW x y).length = x.length
 | [], [], _ => rfl
 | a :: x, b :: y, h => by simp only [addW, List.length_cons]; rw [addW_len x y (by simpa using h)]
theorem addW_get : ∀ (x y : List W) (k : Nat) (a b : W), x[k]? = some a → y[k]? = some b → (addW x y)[k]? = some (a + b)
 | a' :: x, b' :: y, 0, a, b, h1, h2 => by simp at h1 h2; simp [addW, h1, h2]
 | a' :: x, b' :: y, k + 1, a, b, h1, h2 => by simp at h1 h2; simp only [addW, List.getElem?_cons_succ]; exact addW_get x y k a b h1 h2
theorem addW_set (x y : List W) (k : Nat) (a b : W) (hl : x.length = y.length) (h1 : x[k]? = some a) (h2 : y[k]? = some b) :
  (((addW x y).take k ++ x.drop k).map u32).set k (u32 (a + b)) = ((addW x y).take (k + 1) ++ x.drop (k + 1)).map u32 := by
 have hk : k < x.length := (List.getElem?_eq_some_iff.1 h1).1
 have hal := addW_len x y hl
 rw [← List.map_set]
 congr 1
 have hlen : ((addW x y).take k).length = k := by simp; omega
 rw [List.set_append_right _ _ (by omega), hlen, Nat.sub_self, List.take_add_one, addW_get x y k a b h1 h2]
 have hd : (x.drop k).set 0 (a + b) = (a + b) :: x.drop (k + 1) := by rw [List.drop_eq_getElem_cons hk]; rfl
 rw [hd]; simp
def pick4 (c0 c1 c2 c3 : UInt8) : Nat → UInt8
 | 0 => c0
 | 1 => c1
 | 2 => c2
 | _ => c3
def part4 (c0 c1 c2 c3 : UInt8) : Nat → W
 | 0 => 0
 | n + 1 => part4 c0 c1 c2 c3 n * 256 + BitVec.ofNat 32 (pick4 c0 c1 c2 c3 n).toNat
theorem part4_succ (c0 c1 c2 c3 : UInt8) (j : Nat) (_h : j < 4) : part4 c0 c1 c2 c3 (j + 1) = part4 c0 c1 c2 c3 j * 256 + BitVec.ofNat 32 (pick4 c0 c1 c2 c3 j).toNat := rfl
theorem part4_word (c0 c1 c2 c3 : UInt8) : part4 c0 c1 c2 c3 4 = word c0 c1 c2 c3 := by
 apply BitVec.eq_of_toNat_eq
 have h0 := c0.toNat_lt; have h1 := c1.toNat_lt; have h2 := c2.toNat_lt; have h3 := c3.toNat_lt
 simp only [part4, pick4, word, BitVec.toNat_add, BitVec.toNat_mul, BitVec.toNat_ofNat, BitVec.ofNat_eq_ofNat]
 omega
theorem mul_W (x y : W) : IntKind.u32.wrap ((x.toNat : Int) * (y.toNat : Int)) = ((x * y).toNat : Int) := by
 rw [IntKind.wrap_u32, BitVec.toNat_mul, ← Int.natCast_mul]; omega
theorem set_zero4 (ws : List W) (hw : ws.length = 16) (k : Nat) (hk : k < 16) : ((ws.take k).map u32 ++ List.replicate (64 - k) (u32 0)).set k (u32 0) = (ws.take k).map u32 ++ List.replicate (64 - k) (u32 0) := by
 have hl : ((ws.take k).map u32).length = k := by simp; omega
 rw [List.set_append_right _ _ (by omega), hl, Nat.sub_self, show 64 - k = (63 - k) + 1 by omega, List.replicate_succ]
 rfl
end Go.Proofs.YtmkghgoibnncbaaGreatDoor
namespace Go.Proofs.YtmkghgoibnncbaaGreatDoor
open Go.RowKit
set_option linter.unusedSimpArgs false
set_option linter.unusedVariables false
set_option maxHeartbeats 600000
set_option maxRecDepth 20000
theorem rot_ok (x : W) (n : Nat) (h0 : 0 < n) (h : n < 32) (w : World) : Cw 277 #[u32 x, .int .i64 (0 - (n : Int))] w (u32 (rr x n)) := by
 refine enter (S := St (fun _ => True) w [] []) (L := [(0, u32 x), (1, .int .i64 (0 - (n : Int)))]) Tryz.func277 rfl Tryz.ntmps277 rfl (Ac rfl (Ac rfl (An _))) (St.start (fun _ _ => trivial) (by simp)) ?_
 refine Cq (Cg (Ka rfl (Nn (Xa (Cq (Cg (Km rfl (Kq rfl (rd_conv rfl rfl u3 u215) (Kq rfl (rd_and rfl rfl rfl) (Ns 8 rfl (congrArg (Value.int .u64) (and31 n h0 h)) (Ka rfl (Nn (Xa (Cq (Cg (Km rfl (Km rfl (Kq rfl (rd_shl rfl rfl rfl (by omega)) ?_))))))))))))))))))
 refine Ns 11 rfl (v' := .int .u32 (IntKind.u32.wrap ((x.toNat : Int) * 2 ^ (32 - n)))) (by congr 3; simp [IntKind.bits]; try omega) ?_
 refine Km rfl (Km rfl (Kq rfl (rd_sub rfl rfl rfl) ?_))
 refine Ns 14 rfl (v' := .int .u64 (n : Int)) (congrArg (Value.int .u64) (by rw [IntKind.wrap_u64]; omega)) ?_
 refine Kq rfl (rd_shr rfl rfl rfl (by omega)) ?_
 refine Ns 15 rfl (v' := .int .u32 ((x.toNat : Int).fdiv (2 ^ n))) (by congr 3; simp [IntKind.bits]; try omega) ?_
 refine Kq rfl (rd_or rfl rfl rfl) (Ns 16 rfl (v' := u32 (rr x n)) (congrArg (Value.int .u32) (rot_W x n h0 h)) (Ka rfl (Nn (Xa (Ce ?_)))))
 exact WX.ret1 rfl rfl fun w' hS => ⟨rfl, hS.below⟩
theorem turn_ok (x : W) (n : Nat) (h0 : 0 < n) (h : n < 32) (w : World) : Cw 272 #[u32 x, .int .i64 (n : Int)] w (u32 (rr x n)) := by
 refine enter (S := St (fun _ => True) w [] []) (L := [(0, u32 x), (1, .int .i64 (n : Int))]) Tryz.func272 rfl Tryz.ntmps272 rfl (Ac rfl (Ac rfl (An _))) (St.start (fun _ _ => trivial) (by simp)) ?_
 refine Cq (Cg (Ka rfl (Nn (Xa (Cq (Cg (Km rfl (Km rfl ?_))))))))
 refine Kq rfl (rd_neg64 rfl rfl ?_) ?_
 ·omega
 refine Ku rfl (Oc rfl rfl (Kv fun w _ => rot_ok x n h0 h w)) ?_
 refine Ka rfl (Nn (Xa (Ce ?_)))
 exact WX.ret1 rfl rfl fun w' hS => ⟨rfl, hS.below⟩
theorem turn_lit (x : W) (n : Nat) (h0 : 0 < n) (h : n < 32) (w : World) : Cw 272 #[u32 x, .int .i64 (@OfNat.ofNat Int n instOfNat)] w (u32 (rr x n)) := turn_ok x n h0 h w
theorem sched_set (j : Nat) (ws : List W) (hw : ws.length = 16) (hj : j < 48) : ((sched j ws).map u32 ++ List.replicate (48 - j) (u32 0)).set (16 + j) (u32 (nextW (sched j ws))) = (sched (j + 1) ws).map u32 ++ List.replicate (48 - (j + 1)) (u32 0) := by
 have hl : ((sched j ws).map u32).length = 16 + j := by rw [List.length_map, sched_len, hw]
 rw [List.set_append_right _ _ (by omega), hl, Nat.sub_self, show 48 - j = (48 - (j + 1)) + 1 by omega, List.replicate_succ]
 simp [sched]
theorem first_ok (w : World) : Cw 258 #[] w (.agg (H0.map u32).toArray) := by
 refine enter (S := St (fun _ => True) w [] []) (L := []) Tryz.func258 rfl Tryz.ntmps258 rfl (An _) (St.start (fun _ _ => trivial) (by simp)) ?_
 refine Cq (Cg ?_)
 refine Kh rfl (Oz [.int .u32 0, .int .u32 0, .int .u32 0, .int .u32 0, .int .u32 0, .int .u32 0, .int .u32 0, .int .u32 0] rfl) ?_
 intro b0
 refine Nn (Xa (Cq (Cg ?_)))
 refine Kq rfl (rd_build rfl rfl (v := .agg #[.int .u32 1779033703, .int .u32 3144134277, .int .u32 1013904242, .int .u32 2773480762, .int .u32 1359893119, .int .u32 2600822924, .int .u32 528734635, .int .u32 1541459225]) (fun w => by kernel_rfl)) ?_
 refine Nu rfl rfl (Sa rfl rfl rfl .tc) ?_
 refine Nn (Xa (Ce ?_))
 exact WX.ret1c (cs := H0.map u32) rfl rfl .here u271 rfl (by kernel_rfl) fun w' hS => ⟨rfl, hS.below⟩
theorem constants_ok (w : World) : Cw 270 #[] w (.agg (KK.map u32).toArray) := by
 refine enter (S := St (fun _ => True) w [] []) (L := []) Tryz.func270 rfl Tryz.ntmps270 rfl (An _) (St.start (fun _ _ => trivial) (by simp)) ?_
 refine Cq (Cg ?_)
 refine Kh rfl (Oa rfl (v := (.agg (List.replicate 64 (.int .u32 0)).toArray)) (cs := (List.replicate 64 (.int .u32 0))) (by kernel_rfl) rfl) ?_
 intro b0
 refine Nn (Xa (Cq (Cg ?_)))
 refine Kq rfl (rd_build rfl rfl (v := .agg #[.int .u32 1116352408, .int .u32 1899447441, .int .u32 3049323471, .int .u32 3921009573, .int .u32 961987163, .int .u32 1508970993, .int .u32 2453635748, .int .u32 2870763221, .int .u32 3624381080, .int .u32 310598401, .int .u32 607225278, .int .u32 1426881987, .int .u32 1925078388, .int .u32 2162078206, .int .u32 2614888103, .int .u32 3248222580, .int .u32 3835390401, .int .u32 4022224774, .int .u32 264347078, .int .u32 604807628, .int .u32 770255983, .int .u32 1249150122, .int .u32 1555081692, .int .u32 1996064986, .int .u32 2554220882, .int .u32 2821834349, .int .u32 2952996808, .int .u32 3210313671, .int .u32 3336571891, .int .u32 3584528711, .int .u32 113926993, .int .u32 338241895, .int .u32 666307205, .int .u32 773529912, .int .u32 1294757372, .int .u32 1396182291, .int .u32 1695183700, .int .u32 1986661051, .int .u32 2177026350, .int .u32 2456956037, .int .u32 2730485921, .int .u32 2820302411, .int .u32 3259730800, .int .u32 3345764771, .int .u32 3516065817, .int .u32 3600352804, .int .u32 4094571909, .int .u32 275423344, .int .u32 430227734, .int .u32 506948616, .int .u32 659060556, .int .u32 883997877, .int .u32 958139571, .int .u32 1322822218, .int .u32 1537002063, .int .u32 1747873779, .int .u32 1955562222, .int .u32 2024104815, .int .u32 2227730452, .int .u32 2361852424, .int .u32 2428436474, .int .u32 2756734187, .int .u32 3204031479, .int .u32 3329325298]) (fun w => by kernel_rfl)) ?_
 refine Nu rfl rfl (Sa rfl rfl rfl .tc) ?_
 refine Nn (Xa (Ce ?_))
 exact WX.ret1c (cs := KK.map u32) rfl rfl .here u281 rfl (by kernel_rfl) fun w' hS => ⟨rfl, hS.below⟩
theorem schedule_ok (bs : List UInt8) (hbs : bs.length = 64) (b off cap : Nat) (hcap : 64 ≤ cap) (w : World) (hf : (Fact.sl (some ⟨b, off, none⟩) (bs.map B)).holds (fun _ => True) w) :
  Cw 271 #[.slice (some ⟨b, off, none⟩) 64 cap] w (.agg ((sched 48 (words bs)).map u32).toArray) := by
 have hwl := words_len 16 bs hbs
 refine enter (S := St (fun _ => True) w [] [Fact.sl (some ⟨b, off, none⟩) (bs.map B)]) (L := [(0, .slice (some ⟨b, off, none⟩) 64 cap)]) Tryz.func271 rfl Tryz.ntmps271 rfl (Ac rfl (An _)) (St.start (fun _ _ => trivial) (by simpa using hf)) ?_
 refine Cq (Cg ?_)
 refine Kh rfl (Oa rfl (v := (.agg (List.replicate 64 (.int .u32 0)).toArray)) (cs := (List.replicate 64 (.int .u32 0))) (by kernel_rfl) rfl) ?_
 intro b2
 refine Nn (Xa (Cq (Cg ?_)))
 refine Kh rfl (Oa rfl (v := (.agg (List.replicate 64 (.int .u32 0)).toArray)) (cs := (List.replicate 64 (.int .u32 0))) (by kernel_rfl) rfl) ?_
 intro b3
 refine Nn (Xa (Cq (Cq (Cg (Km rfl (Nn (Xa (Cb ?_))))))))
 refine WC.loop (σ := Nat) (fun k => [(0, .slice (some ⟨b, off, none⟩) 64 cap), (2, .pointer (some ⟨b2, 0, none⟩)), (3, .pointer (some ⟨b3, 0, none⟩)), (9, .int .i64 (k : Int))]) (fun k w' => k ≤ 16 ∧ St (fun _ => True) w [⟨some b3, ((words bs).take k).map u32 ++ List.replicate (64 - k) (u32 0), 281⟩, ⟨some b2, List.replicate 64 (u32 0), 281⟩] [Fact.sl (some ⟨b, off, none⟩) (bs.map B)] w') (fun k => 16 - k) 0 (by repeat (first | exact S0 _ | refine Sc rfl ?_)) (fun w' h => ⟨by omega, h⟩) ?_
 intro k; refine WC.pu ?_; intro hk
 refine Cq (Cg (Kq rfl (rd_lss rfl rfl rfl) (Nn (Xa (Cq ?_)))))
 refine Cd rfl (fun hc10 => ?_) (fun hc10 => ?_)
 ·(try simp only [decide_eq_true_eq, decide_eq_false_iff_not, Bool.not_eq_true', Bool.not_eq_false', Bool.not_not, Int.not_lt, Int.not_le] at hc10)
  obtain ⟨c0, hc0⟩ : ∃ c, bs[4 * k]? = some c := ⟨_, List.getElem?_eq_getElem (by omega)⟩
  obtain ⟨c1, hc1⟩ : ∃ c, bs[4 * k + 1]? = some c := ⟨_, List.getElem?_eq_getElem (by omega)⟩
  obtain ⟨c2, hc2⟩ : ∃ c, bs[4 * k + 2]? = some c := ⟨_, List.getElem?_eq_getElem (by omega)⟩
  obtain ⟨c3, hc3⟩ : ∃ c, bs[4 * k + 3]? = some c := ⟨_, List.getElem?_eq_getElem (by omega)⟩
  refine Ck (Xa (Cq (Cb (Cq (Cg (Km rfl (Ka rfl (Nn (Xa (Cq (Cg (Km rfl (Km rfl ?_)))))))))))))
  first
   | (refine Kq rfl (rd_mul64ln rfl rfl rfl ?_) ?_; focus (omega))
   | (refine Kq rfl (rd_mul64 rfl rfl rfl ?_) ?_; focus (omega))
  refine Km rfl ?_
  first
   | (refine Kq rfl (rd_mul64ln rfl rfl rfl ?_) ?_; focus (omega))
   | (refine Kq rfl (rd_mul64 rfl rfl rfl ?_) ?_; focus (omega))
  first
   | (refine Kq rfl (Rz rfl rfl rfl ?_) ?_; focus (omega))
   | (refine Kq rfl (rd_add64 rfl rfl rfl ?_) ?_; focus (omega))
  refine Kq rfl (rd_slbn rfl rfl rfl rfl u128 (by kernel_rfl : _ = some 1) ?_ (by (try simp only [Int.toNat_natCast, Nat.mul_one, Nat.zero_add, Nat.add_zero, Nat.zero_mul, Int.reduceToNat, Nat.reduceAdd, Nat.reduceMul, Nat.reduceSub, Nat.sub_zero]); rfl) (by (try simp only [Int.toNat_natCast, Nat.mul_one, Nat.zero_add, Nat.add_zero, Nat.zero_mul, Int.reduceToNat, Nat.reduceAdd, Nat.reduceMul, Nat.reduceSub, Nat.sub_zero]); rfl) (by (try simp only [Int.toNat_natCast, Nat.mul_one, Nat.zero_add, Nat.add_zero, Nat.zero_mul, Int.reduceToNat, Nat.reduceAdd, Nat.reduceMul, Nat.reduceSub, Nat.sub_zero]); rfl)) ?_
  ·omega
  refine Ka rfl (Nn (Xa ?_))
  refine WC.mix [0, 0, 0, 0, 0, 0, 0, 0, 0, 0, 0, 0, 0, 0, 0, 0, 0, 0, 0, 0, 0, 0, 0, 0, 2] (by kernel_rfl) (by kernel_rfl) (fun w h => h.draw) ?_
  refine WM.r rfl rfl rfl (Rm rfl rfl) ?_
  refine WM.r rfl rfl rfl (Rm rfl rfl) ?_
  refine WM.r rfl rfl rfl (Ja rfl rfl rfl u128 (by kernel_rfl : _ = some 1) ?_) ?_
  ·omega
  refine WM.r rfl rfl rfl (ldf rfl rfl (by first | exact .here | exact .t1 | exact .t2 | exact .t3 | exact .t4 | exact .t5 | exact .t6 | exact .t7) u5 rfl (m := 4 * k) (by omega) (by rw [List.getElem?_map, hc0]; rfl)) ?_
  refine WM.r rfl rfl rfl (rd_conv rfl rfl u5 u240) ?_
  refine WM.r rfl rfl rfl (rd_shl rfl rfl rfl ?_) ?_
  ·first | decide | omega
  refine WM.r rfl rfl rfl (Rm rfl rfl) ?_
  refine WM.r rfl rfl rfl (Ja rfl rfl rfl u128 (by kernel_rfl : _ = some 1) ?_) ?_
  ·omega
  refine WM.r rfl rfl rfl (ldf rfl rfl (by first | exact .here | exact .t1 | exact .t2 | exact .t3 | exact .t4 | exact .t5 | exact .t6 | exact .t7) u5 rfl (m := 4 * k + 1) (by omega) (by rw [List.getElem?_map, hc1]; rfl)) ?_
  refine WM.r rfl rfl rfl (rd_conv rfl rfl u5 u240) ?_
  refine WM.r rfl rfl rfl (rd_shl rfl rfl rfl ?_) ?_
  ·first | decide | omega
  refine WM.r rfl rfl rfl (rd_or rfl rfl rfl) ?_
  refine WM.r rfl rfl rfl (Rm rfl rfl) ?_
  refine WM.r rfl rfl rfl (Ja rfl rfl rfl u128 (by kernel_rfl : _ = some 1) ?_) ?_
  ·omega
  refine WM.r rfl rfl rfl (ldf rfl rfl (by first | exact .here | exact .t1 | exact .t2 | exact .t3 | exact .t4 | exact .t5 | exact .t6 | exact .t7) u5 rfl (m := 4 * k + 2) (by omega) (by rw [List.getElem?_map, hc2]; rfl)) ?_
  refine WM.r rfl rfl rfl (rd_conv rfl rfl u5 u240) ?_
  refine WM.r rfl rfl rfl (rd_shl rfl rfl rfl ?_) ?_
  ·first | decide | omega
  refine WM.r rfl rfl rfl (rd_or rfl rfl rfl) ?_
  refine WM.r rfl rfl rfl (Rm rfl rfl) ?_
  refine WM.r rfl rfl rfl (Ja rfl rfl rfl u128 (by kernel_rfl : _ = some 1) ?_) ?_
  ·omega
  refine WM.r rfl rfl rfl (ldf rfl rfl (by first | exact .here | exact .t1 | exact .t2 | exact .t3 | exact .t4 | exact .t5 | exact .t6 | exact .t7) u5 rfl (m := 4 * k + 3) (by omega) (by rw [List.getElem?_map, hc3]; rfl)) ?_
  refine WM.r rfl rfl rfl (rd_conv rfl rfl u5 u240) ?_
  refine WM.r rfl rfl rfl (rd_or rfl rfl rfl) ?_
  refine WM.set 41 rfl (v' := u32 (word c0 c1 c2 c3)) (congrArg (Value.int .u32) (word_bits c0 c1 c2 c3)) ?_
  refine WM.r rfl rfl rfl (Jb rfl rfl rfl u281 (by kernel_rfl : _ = some 1) ?_) ?_
  ·omega
  refine WM.h0 rfl rfl (st rfl rfl rfl (by first | exact .here | exact .t1 | exact .t2 | exact .t3 | exact .t4 | exact .t5 | exact .t6 | exact .t7) (by kernel_rfl) rfl ?_ rfl) ?_
  ·first | decide | (simp; done) | (simp; omega)
  intro _
  refine WM.nil ?_
  refine Xd (Xa (Cg ?_))
  first
   | (refine Kq rfl (Rz rfl rfl rfl ?_) ?_; focus (omega))
   | (refine Kq rfl (rd_add64 rfl rfl rfl ?_) ?_; focus (omega))
  refine Km rfl (Nn ?_)
  exact WX.loop (k + 1) (by omega) (by repeat (first | exact S0 _ | refine Sc rfl ?_)) (fun w' h => ⟨by omega, by rw [fill_set (words bs) u32 (u32 0) 64 k _ (by omega) (words_get k bs c0 c1 c2 c3 hc0 hc1 hc2 hc3)] at h; exact h⟩)
 ·(try simp only [decide_eq_true_eq, decide_eq_false_iff_not, Bool.not_eq_true', Bool.not_eq_false', Bool.not_not, Int.not_lt, Int.not_le] at hc10)
  refine Cx (Xc (Xc (Xe ?_)))
  obtain rfl : k = 16 := by omega
  refine Xa (Cq (Cq (Cg (Ka rfl (Nn (Xa (Cb ?_)))))))
  refine WC.loop (σ := Nat) (fun j => [(2, .pointer (some ⟨b2, 0, none⟩)), (3, .pointer (some ⟨b3, 0, none⟩)), (6, .int .i64 ((16 + j : Nat) : Int))]) (fun j w' => j ≤ 48 ∧ St (fun _ => True) w [⟨some b3, (sched j (words bs)).map u32 ++ List.replicate (48 - j) (u32 0), 281⟩, ⟨some b2, List.replicate 64 (u32 0), 281⟩] [] w') (fun j => 48 - j) 0 (by repeat (first | exact S0 _ | refine Sc rfl ?_)) (fun w' h => ⟨by omega, by rw [List.take_of_length_le (by omega)] at h; exact h.sub (List.Sublist.refl _) (by simp)⟩) ?_
  intro j; refine WC.pu ?_; intro hj
  refine Cq (Cq (Cg (Km rfl (Kq rfl (rd_lss rfl rfl rfl) (Nn (Xa ?_))))))
  refine Cd rfl (fun hc45 => ?_) (fun hc45 => ?_)
  ·(try simp only [decide_eq_true_eq, decide_eq_false_iff_not, Bool.not_eq_true', Bool.not_eq_false', Bool.not_not, Int.not_lt, Int.not_le] at hc45)
   have hsl := sched_len j (words bs)
   rw [hwl] at hsl
   refine Ck (Xa (Cq (Cb (Cq ?_))))
   refine WC.mix [0, 0, 0, 0, 0, 0, 0, 0, 0, 0] (by kernel_rfl) (by kernel_rfl) (fun w h => h.draw) ?_
   refine WM.r rfl rfl rfl (Rm rfl rfl) ?_
   first
    | (refine WM.r rfl rfl rfl (rd_sub64nl rfl rfl rfl ?_) ?_; focus (omega))
    | (refine WM.r rfl rfl rfl (rd_sub64 rfl rfl rfl ?_) ?_; focus (omega))
   refine WM.r rfl rfl rfl (Jb rfl rfl rfl u281 (by kernel_rfl : _ = some 1) ?_) ?_
   ·omega
   refine WM.r rfl rfl rfl (ld rfl rfl (by first | exact .here | exact .t1 | exact .t2 | exact .t3 | exact .t4 | exact .t5 | exact .t6 | exact .t7) u240 rfl (by exact map_cell _ u32 _ _ _ (get_getD (sched j (words bs)) _ 0 (by omega)))) ?_
   refine WM.r rfl rfl rfl (Rm rfl rfl) ?_
   first
    | (refine WM.r rfl rfl rfl (rd_sub64nl rfl rfl rfl ?_) ?_; focus (omega))
    | (refine WM.r rfl rfl rfl (rd_sub64 rfl rfl rfl ?_) ?_; focus (omega))
   refine WM.r rfl rfl rfl (Jb rfl rfl rfl u281 (by kernel_rfl : _ = some 1) ?_) ?_
   ·omega
   refine WM.r rfl rfl rfl (ld rfl rfl (by first | exact .here | exact .t1 | exact .t2 | exact .t3 | exact .t4 | exact .t5 | exact .t6 | exact .t7) u240 rfl (by exact map_cell _ u32 _ _ _ (get_getD (sched j (words bs)) _ 0 (by omega)))) ?_
   refine WM.r rfl rfl rfl (Ra rfl rfl) ?_
   refine WM.r rfl rfl rfl (Ra rfl rfl) ?_
   refine WM.nil ?_
   refine Xa ?_
   refine WC.mix [0, 0, 0, 0, 0, 0, 1, 0, 1, 0, 0, 0, 0, 0, 0, 0, 0, 0, 0, 0, 1, 0, 1, 0, 0, 0, 0, 0, 0, 2] (by kernel_rfl) (by kernel_rfl) (fun w h => h.draw) ?_
   refine WM.r rfl rfl rfl (Rm rfl rfl) ?_
   refine WM.r rfl rfl rfl (Rm rfl rfl) ?_
   first
    | (refine WM.r rfl rfl rfl (rd_sub64nl rfl rfl rfl ?_) ?_; focus (omega))
    | (refine WM.r rfl rfl rfl (rd_sub64 rfl rfl rfl ?_) ?_; focus (omega))
   refine WM.r rfl rfl rfl (Jb rfl rfl rfl u281 (by kernel_rfl : _ = some 1) ?_) ?_
   ·omega
   refine WM.r rfl rfl rfl (ld rfl rfl (by first | exact .here | exact .t1 | exact .t2 | exact .t3 | exact .t4 | exact .t5 | exact .t6 | exact .t7) u240 rfl (by exact map_cell _ u32 _ _ _ (get_getD (sched j (words bs)) _ 0 (by omega)))) ?_
   refine WM.r rfl rfl rfl (Rm rfl rfl) ?_
   refine WM.g rfl rfl rfl (Oc rfl rfl (Kv fun w _ => turn_lit _ _ (by decide) (by decide) w)) (fun _ _ h => by first | exact h | exact ⟨_, h⟩ | exact ⟨_, h.2⟩ | exact h.2 | exact h.sub (by repeat (first | exact List.Sublist.refl _ | apply List.Sublist.cons)) (fun _ h => by simp [*]) | exact h.2.sub (by repeat (first | exact List.Sublist.refl _ | apply List.Sublist.cons)) (fun _ h => by simp [*])) ?_
   intro _
   refine WM.r rfl rfl rfl (Rm rfl rfl) ?_
   refine WM.g rfl rfl rfl (Oc rfl rfl (Kv fun w _ => turn_lit _ _ (by decide) (by decide) w)) (fun _ _ h => by first | exact h | exact ⟨_, h⟩ | exact ⟨_, h.2⟩ | exact h.2 | exact h.sub (by repeat (first | exact List.Sublist.refl _ | apply List.Sublist.cons)) (fun _ h => by simp [*]) | exact h.2.sub (by repeat (first | exact List.Sublist.refl _ | apply List.Sublist.cons)) (fun _ h => by simp [*])) ?_
   intro _
   refine WM.r rfl rfl rfl (rdW_xor rfl rfl rfl) ?_
   refine WM.r rfl rfl rfl (Rm rfl rfl) ?_
   refine WM.r rfl rfl rfl (rdW_shr rfl rfl rfl (by decide)) ?_
   refine WM.r rfl rfl rfl (rdW_xor rfl rfl rfl) ?_
   refine WM.r rfl rfl rfl (rdW_add rfl rfl rfl) ?_
   refine WM.r rfl rfl rfl (Rm rfl rfl) ?_
   first
    | (refine WM.r rfl rfl rfl (rd_sub64nl rfl rfl rfl ?_) ?_; focus (omega))
    | (refine WM.r rfl rfl rfl (rd_sub64 rfl rfl rfl ?_) ?_; focus (omega))
   refine WM.r rfl rfl rfl (Jb rfl rfl rfl u281 (by kernel_rfl : _ = some 1) ?_) ?_
   ·omega
   refine WM.r rfl rfl rfl (ld rfl rfl (by first | exact .here | exact .t1 | exact .t2 | exact .t3 | exact .t4 | exact .t5 | exact .t6 | exact .t7) u240 rfl (by exact map_cell _ u32 _ _ _ (get_getD (sched j (words bs)) _ 0 (by omega)))) ?_
   refine WM.r rfl rfl rfl (rdW_add rfl rfl rfl) ?_
   refine WM.r rfl rfl rfl (Rm rfl rfl) ?_
   refine WM.g rfl rfl rfl (Oc rfl rfl (Kv fun w _ => turn_lit _ _ (by decide) (by decide) w)) (fun _ _ h => by first | exact h | exact ⟨_, h⟩ | exact ⟨_, h.2⟩ | exact h.2 | exact h.sub (by repeat (first | exact List.Sublist.refl _ | apply List.Sublist.cons)) (fun _ h => by simp [*]) | exact h.2.sub (by repeat (first | exact List.Sublist.refl _ | apply List.Sublist.cons)) (fun _ h => by simp [*])) ?_
   intro _
   refine WM.r rfl rfl rfl (Rm rfl rfl) ?_
   refine WM.g rfl rfl rfl (Oc rfl rfl (Kv fun w _ => turn_lit _ _ (by decide) (by decide) w)) (fun _ _ h => by first | exact h | exact ⟨_, h⟩ | exact ⟨_, h.2⟩ | exact h.2 | exact h.sub (by repeat (first | exact List.Sublist.refl _ | apply List.Sublist.cons)) (fun _ h => by simp [*]) | exact h.2.sub (by repeat (first | exact List.Sublist.refl _ | apply List.Sublist.cons)) (fun _ h => by simp [*])) ?_
   intro _
   refine WM.r rfl rfl rfl (rdW_xor rfl rfl rfl) ?_
   refine WM.r rfl rfl rfl (Rm rfl rfl) ?_
   refine WM.r rfl rfl rfl (rdW_shr rfl rfl rfl (by decide)) ?_
   refine WM.r rfl rfl rfl (rdW_xor rfl rfl rfl) ?_
   refine WM.r rfl rfl rfl (rdW_add rfl rfl rfl) ?_
   refine WM.set 83 rfl (v' := u32 (nextW (sched j (words bs)))) (by unfold nextW; rw [hsl]; rfl) ?_
   refine WM.r rfl rfl rfl (Jb rfl rfl rfl u281 (by kernel_rfl : _ = some 1) ?_) ?_
   ·omega
   refine WM.h0 rfl rfl (st rfl rfl rfl (by first | exact .here | exact .t1 | exact .t2 | exact .t3 | exact .t4 | exact .t5 | exact .t6 | exact .t7) (by kernel_rfl) rfl ?_ rfl) ?_
   ·simp [hsl]; omega
   intro _
   refine WM.nil ?_
   refine Xd (Xa (Cg (Km rfl ?_)))
   first
    | (refine Kq rfl (Rz rfl rfl rfl ?_) ?_; focus (omega))
    | (refine Kq rfl (rd_add64 rfl rfl rfl ?_) ?_; focus (omega))
   refine Ka rfl (Nn ?_)
   exact WX.loop (j + 1) (by omega) (by repeat (first | exact S0 _ | refine Sc rfl ?_)) (fun w' h => ⟨by omega, by rw [sched_set j (words bs) hwl (by omega)] at h; exact h⟩)
  ·(try simp only [decide_eq_true_eq, decide_eq_false_iff_not, Bool.not_eq_true', Bool.not_eq_false', Bool.not_not, Int.not_lt, Int.not_le] at hc45)
   refine Cx (Xc (Xc (Xe ?_)))
   obtain rfl : j = 48 := by omega
   refine WX.st (S' := St (fun _ => True) w [⟨some b3, (sched 48 (words bs)).map u32, 281⟩, ⟨some b2, List.replicate 64 (u32 0), 281⟩] []) (fun w' h => by rw [Nat.sub_self, List.replicate_zero, List.append_nil] at h; exact h) ?_
   refine Xa (Cq (Cg ?_))
   refine Kq rfl (lda rfl rfl (by first | exact .here | exact .t1 | exact .t2 | exact .t3 | exact .t4 | exact .t5 | exact .t6 | exact .t7) u281 rfl ?_) ?_
   ·rw [List.length_map, sched_len, hwl]; kernel_rfl
   refine Ng rfl rfl (sta rfl rfl rfl (by first | exact .here | exact .t1 | exact .t2 | exact .t3 | exact .t4 | exact .t5 | exact .t6 | exact .t7) ?_ ?_ ?_) ?_
   ·rw [List.length_map, sched_len, hwl]; kernel_rfl
   ·exact u32_one _
   ·rw [List.length_map, sched_len, hwl, List.length_replicate]
   intro _
   refine Nn (Xa (Ce ?_))
   exact WX.ret1c rfl rfl (by first | exact .here | exact .t1 | exact .t2 | exact .t3) u281 rfl (by rw [List.length_map, sched_len, hwl]; kernel_rfl) fun w' hS => ⟨rfl, hS.below⟩
theorem St.sl_of {ok : Nat → Prop} {w0 w : World} {own : List Ent} {fs : List Fact} {b off : Nat} {cs xs : List Value} {T : TypeId} (hk : InE own ⟨some b, cs, T⟩) (hx : (cs.drop off).take xs.length = xs) (h : St ok w0 own fs w) : (Fact.sl (some ⟨b, off, none⟩) xs).holds (fun _ => True) w := by
 obtain ⟨kk, hk⟩ := hk.get
 exact h.own_sl hk (fun i hi => by rw [← hx, List.getElem?_take, if_pos hi, List.getElem?_drop])
theorem after_ok (x0 : List W) (hx0 : x0.length = 8) (bs : List UInt8) (hbs : bs.length = 64) (b off cap : Nat) (hcap : 64 ≤ cap) (w : World) (hf : (Fact.sl (some ⟨b, off, none⟩) (bs.map B)).holds (fun _ => True) w) :
  Cw 259 #[.agg (x0.map u32).toArray, .slice (some ⟨b, off, none⟩) 64 cap] w (.agg ((compress x0 bs).map u32).toArray) := by
 have hwl := words_len 16 bs hbs
 have hsl := sched_len 48 (words bs)
 rw [hwl] at hsl
 obtain ⟨ws, hws⟩ : ∃ ws, sched 48 (words bs) = ws := ⟨_, rfl⟩
 have hsch := schedule_ok bs hbs b off cap hcap
 rw [hws] at hsl hsch
 show Calls _ _ _ _ fun e w' => e = .returned (.agg ((addW (rounds KK (sched 48 (words bs)) 64 x0) x0).map u32).toArray) ∧ _
 rw [hws]
 refine enter (S := St (fun _ => True) w [] [Fact.sl (some ⟨b, off, none⟩) (bs.map B)]) (L := [(0, .agg (x0.map u32).toArray), (1, .slice (some ⟨b, off, none⟩) 64 cap)]) Tryz.func259 rfl Tryz.ntmps259 rfl (Ac rfl (Ac rfl (An _))) (St.start (fun _ _ => trivial) (by simpa using hf)) ?_
 refine Cq (Cg ?_)
 refine Kh rfl (Ob rfl rfl (cs := x0.map u32) rfl) ?_
 intro b2
 refine Kh rfl (Oz [.int .u32 0, .int .u32 0, .int .u32 0, .int .u32 0, .int .u32 0, .int .u32 0, .int .u32 0, .int .u32 0] rfl) ?_
 intro b4
 refine Nn (Xa (Cq (Cg ?_)))
 refine Ku rfl (Oc rfl rfl (Kv fun w _ => constants_ok w)) ?_
 refine Km rfl ?_
 refine Ku rfl (Oc rfl rfl (Kv fun w hS => hsch w (hS.holds_any (k := 0) rfl))) ?_
 refine Kh rfl (Oa rfl (v := (.agg (List.replicate 64 (.int .u32 0)).toArray)) (cs := (List.replicate 64 (.int .u32 0))) (by kernel_rfl) rfl) ?_
 intro b5
 refine Kh rfl (Oa rfl (v := (.agg (List.replicate 64 (.int .u32 0)).toArray)) (cs := (List.replicate 64 (.int .u32 0))) (by kernel_rfl) rfl) ?_
 intro b6
 refine Ng rfl rfl (sta rfl rfl rfl (by first | exact .here | exact .t1 | exact .t2 | exact .t3 | exact .t4 | exact .t5 | exact .t6 | exact .t7) ?_ ?_ ?_) ?_
 ·kernel_rfl
 ·exact u32_one _
 ·first | rfl | simp
 intro _
 refine Ng rfl rfl (sta rfl rfl rfl (by first | exact .here | exact .t1 | exact .t2 | exact .t3 | exact .t4 | exact .t5 | exact .t6 | exact .t7) ?_ ?_ ?_) ?_
 ·rw [List.length_map, hsl]; kernel_rfl
 ·exact u32_one _
 ·simp [hsl]
 intro _
 refine Nn (Xa (Cq (Cg ?_)))
 refine Kq rfl (lda rfl rfl (by first | exact .here | exact .t1 | exact .t2 | exact .t3 | exact .t4 | exact .t5 | exact .t6 | exact .t7) u271 rfl ?_) ?_
 ·rw [List.length_map, hx0]; kernel_rfl
 refine Kh rfl (Oz [.int .u32 0, .int .u32 0, .int .u32 0, .int .u32 0, .int .u32 0, .int .u32 0, .int .u32 0, .int .u32 0] rfl) ?_
 intro b7
 refine Ng rfl rfl (sta rfl rfl rfl (by first | exact .here | exact .t1 | exact .t2 | exact .t3 | exact .t4 | exact .t5 | exact .t6 | exact .t7) ?_ ?_ ?_) ?_
 ·rw [List.length_map, hx0]; kernel_rfl
 ·exact u32_one _
 ·simp [hx0]
 intro _
 refine Nn (Xa (Cq (Cq (Cg (Km rfl (Nn (Xa (Cb ?_))))))))
 refine WC.loop (σ := Nat) (fun k => [(2, .pointer (some ⟨b2, 0, none⟩)), (4, .pointer (some ⟨b4, 0, none⟩)), (5, .pointer (some ⟨b5, 0, none⟩)), (6, .pointer (some ⟨b6, 0, none⟩)), (7, .pointer (some ⟨b7, 0, none⟩)), (22, .int .i64 (k : Int))]) (fun k w' => k ≤ 64 ∧ St (fun _ => True) w [⟨some b7, (rounds KK ws k x0).map u32, 271⟩, ⟨some b6, ws.map u32, 281⟩, ⟨some b5, KK.map u32, 281⟩, ⟨some b4, List.replicate 8 (u32 0), 271⟩, ⟨some b2, x0.map u32, 271⟩] [] w') (fun k => 64 - k) 0 (by repeat (first | exact S0 _ | refine Sc rfl ?_)) (fun w' h => ⟨by omega, h.sub (List.Sublist.refl _) (by simp)⟩) ?_
 intro k; refine WC.pu ?_; intro hk
 refine Cq (Cg (Kq rfl (rd_lss rfl rfl rfl) (Nn (Xa (Cq ?_)))))
 refine Cd rfl (fun hc23 => ?_) (fun hc23 => ?_)
 ·(try simp only [decide_eq_true_eq, decide_eq_false_iff_not, Bool.not_eq_true', Bool.not_eq_false', Bool.not_not, Int.not_lt, Int.not_le] at hc23)
  obtain ⟨xa, xb, xc, xd, xe, xf, xg, xh, hX⟩ := eight (rounds KK ws k x0) (rounds_len _ _ _ _ hx0)
  rw [hX]
  have hkk : KK.length = 64 := rfl
  refine Ck (Xa (Cq (Cb (Cq (Cg (Km rfl (Ka rfl (Nn (Xa (Cq ?_))))))))))
  refine WC.mix [0, 0, 0, 0, 0, 0, 0, 0, 0, 0, 0, 0, 0, 0, 0, 0, 0, 0] (by kernel_rfl) (by kernel_rfl) (fun w h => h.draw) ?_
  refine WM.r rfl rfl rfl (Jb rfl rfl rfl u271 (by kernel_rfl : _ = some 1) ?_) ?_
  ·omega
  refine WM.r rfl rfl rfl (ld rfl rfl (by first | exact .here | exact .t1 | exact .t2 | exact .t3 | exact .t4 | exact .t5 | exact .t6 | exact .t7) u240 rfl (by rfl)) ?_
  refine WM.r rfl rfl rfl (Jb rfl rfl rfl u271 (by kernel_rfl : _ = some 1) ?_) ?_
  ·omega
  refine WM.r rfl rfl rfl (ld rfl rfl (by first | exact .here | exact .t1 | exact .t2 | exact .t3 | exact .t4 | exact .t5 | exact .t6 | exact .t7) u240 rfl (by rfl)) ?_
  refine WM.r rfl rfl rfl (Jb rfl rfl rfl u271 (by kernel_rfl : _ = some 1) ?_) ?_
  ·omega
  refine WM.r rfl rfl rfl (ld rfl rfl (by first | exact .here | exact .t1 | exact .t2 | exact .t3 | exact .t4 | exact .t5 | exact .t6 | exact .t7) u240 rfl (by rfl)) ?_
  refine WM.r rfl rfl rfl (Jb rfl rfl rfl u271 (by kernel_rfl : _ = some 1) ?_) ?_
  ·omega
  refine WM.r rfl rfl rfl (ld rfl rfl (by first | exact .here | exact .t1 | exact .t2 | exact .t3 | exact .t4 | exact .t5 | exact .t6 | exact .t7) u240 rfl (by rfl)) ?_
  refine WM.r rfl rfl rfl (Jb rfl rfl rfl u271 (by kernel_rfl : _ = some 1) ?_) ?_
  ·omega
  refine WM.r rfl rfl rfl (ld rfl rfl (by first | exact .here | exact .t1 | exact .t2 | exact .t3 | exact .t4 | exact .t5 | exact .t6 | exact .t7) u240 rfl (by rfl)) ?_
  refine WM.r rfl rfl rfl (Jb rfl rfl rfl u271 (by kernel_rfl : _ = some 1) ?_) ?_
  ·omega
  refine WM.r rfl rfl rfl (ld rfl rfl (by first | exact .here | exact .t1 | exact .t2 | exact .t3 | exact .t4 | exact .t5 | exact .t6 | exact .t7) u240 rfl (by rfl)) ?_
  refine WM.r rfl rfl rfl (Ra rfl rfl) ?_
  refine WM.r rfl rfl rfl (Ra rfl rfl) ?_
  refine WM.r rfl rfl rfl (Ra rfl rfl) ?_
  refine WM.r rfl rfl rfl (Ra rfl rfl) ?_
  refine WM.r rfl rfl rfl (Ra rfl rfl) ?_
  refine WM.r rfl rfl rfl (Ra rfl rfl) ?_
  refine WM.nil ?_
  refine Xa (Cq ?_)
  refine WC.mix [0, 0, 0, 1, 0, 1, 0, 0, 1, 0, 0, 0, 0, 0, 0, 0, 0, 0, 0, 0, 0, 0, 0, 0, 0, 0, 0, 0, 0] (by kernel_rfl) (by kernel_rfl) (fun w h => h.draw) ?_
  refine WM.r rfl rfl rfl (Jb rfl rfl rfl u271 (by kernel_rfl : _ = some 1) ?_) ?_
  ·omega
  refine WM.r rfl rfl rfl (ld rfl rfl (by first | exact .here | exact .t1 | exact .t2 | exact .t3 | exact .t4 | exact .t5 | exact .t6 | exact .t7) u240 rfl (by rfl)) ?_
  refine WM.r rfl rfl rfl (Rm rfl rfl) ?_
  refine WM.g rfl rfl rfl (Oc rfl rfl (Kv fun w _ => turn_lit _ _ (by decide) (by decide) w)) (fun _ _ h => by first | exact h | exact ⟨_, h⟩ | exact ⟨_, h.2⟩ | exact h.2 | exact h.sub (by repeat (first | exact List.Sublist.refl _ | apply List.Sublist.cons)) (fun _ h => by simp [*]) | exact h.2.sub (by repeat (first | exact List.Sublist.refl _ | apply List.Sublist.cons)) (fun _ h => by simp [*])) ?_
  intro _
  refine WM.r rfl rfl rfl (Rm rfl rfl) ?_
  refine WM.g rfl rfl rfl (Oc rfl rfl (Kv fun w _ => turn_lit _ _ (by decide) (by decide) w)) (fun _ _ h => by first | exact h | exact ⟨_, h⟩ | exact ⟨_, h.2⟩ | exact h.2 | exact h.sub (by repeat (first | exact List.Sublist.refl _ | apply List.Sublist.cons)) (fun _ h => by simp [*]) | exact h.2.sub (by repeat (first | exact List.Sublist.refl _ | apply List.Sublist.cons)) (fun _ h => by simp [*])) ?_
  intro _
  refine WM.r rfl rfl rfl (rdW_xor rfl rfl rfl) ?_
  refine WM.r rfl rfl rfl (Rm rfl rfl) ?_
  refine WM.g rfl rfl rfl (Oc rfl rfl (Kv fun w _ => turn_lit _ _ (by decide) (by decide) w)) (fun _ _ h => by first | exact h | exact ⟨_, h⟩ | exact ⟨_, h.2⟩ | exact h.2 | exact h.sub (by repeat (first | exact List.Sublist.refl _ | apply List.Sublist.cons)) (fun _ h => by simp [*]) | exact h.2.sub (by repeat (first | exact List.Sublist.refl _ | apply List.Sublist.cons)) (fun _ h => by simp [*])) ?_
  intro _
  refine WM.r rfl rfl rfl (rdW_xor rfl rfl rfl) ?_
  refine WM.r rfl rfl rfl (rdW_add rfl rfl rfl) ?_
  refine WM.r rfl rfl rfl (Rm rfl rfl) ?_
  refine WM.r rfl rfl rfl (Rm rfl rfl) ?_
  refine WM.r rfl rfl rfl (rdW_and rfl rfl rfl) ?_
  refine WM.r rfl rfl rfl (Rm rfl rfl) ?_
  refine WM.r rfl rfl rfl (rdW_com rfl rfl) ?_
  refine WM.r rfl rfl rfl (Rm rfl rfl) ?_
  refine WM.r rfl rfl rfl (rdW_and rfl rfl rfl) ?_
  refine WM.r rfl rfl rfl (rdW_xor rfl rfl rfl) ?_
  refine WM.r rfl rfl rfl (rdW_add rfl rfl rfl) ?_
  refine WM.r rfl rfl rfl (Rm rfl rfl) ?_
  refine WM.r rfl rfl rfl (Jb rfl rfl rfl u281 (by kernel_rfl : _ = some 1) ?_) ?_
  ·omega
  refine WM.r rfl rfl rfl (ld rfl rfl (by first | exact .here | exact .t1 | exact .t2 | exact .t3 | exact .t4 | exact .t5 | exact .t6 | exact .t7) u240 rfl (by rw [List.getElem?_map, get_getD KK k 0 (by omega)]; rfl)) ?_
  refine WM.r rfl rfl rfl (rdW_add rfl rfl rfl) ?_
  refine WM.r rfl rfl rfl (Rm rfl rfl) ?_
  refine WM.r rfl rfl rfl (Jb rfl rfl rfl u281 (by kernel_rfl : _ = some 1) ?_) ?_
  ·omega
  refine WM.r rfl rfl rfl (ld rfl rfl (by first | exact .here | exact .t1 | exact .t2 | exact .t3 | exact .t4 | exact .t5 | exact .t6 | exact .t7) u240 rfl (by rw [List.getElem?_map, get_getD ws k 0 (by omega)]; rfl)) ?_
  refine WM.r rfl rfl rfl (rdW_add rfl rfl rfl) ?_
  refine WM.r rfl rfl rfl (Ra rfl rfl) ?_
  refine WM.nil ?_
  refine Xa (Cq (Cg (Km rfl ?_)))
  refine Ku rfl (Oc rfl rfl (Kv fun w _ => turn_lit _ _ (by decide) (by decide) w)) ?_
  refine Km rfl ?_
  refine Ku rfl (Oc rfl rfl (Kv fun w _ => turn_lit _ _ (by decide) (by decide) w)) ?_
  refine Kq rfl (rdW_xor rfl rfl rfl) (Km rfl ?_)
  refine Ku rfl (Oc rfl rfl (Kv fun w _ => turn_lit _ _ (by decide) (by decide) w)) ?_
  refine Kq rfl (rdW_xor rfl rfl rfl) (Km rfl (Km rfl (Kq rfl (rdW_and rfl rfl rfl) (Km rfl (Km rfl (Kq rfl (rdW_and rfl rfl rfl) (Kq rfl (rdW_xor rfl rfl rfl) (Km rfl (Km rfl (Kq rfl (rdW_and rfl rfl rfl) (Kq rfl (rdW_xor rfl rfl rfl) (Kq rfl (rdW_add rfl rfl rfl) (Ka rfl (Nn (Xa (Cq ?_))))))))))))))))
  refine WC.mix [0, 0, 2] (by kernel_rfl) (by kernel_rfl) (fun w h => h.draw) ?_
  refine WM.r rfl rfl rfl (rd_slaf rfl rfl rfl u271 (by kernel_rfl : _ = some 1) ?_ (by (try simp only [Int.toNat_natCast, Nat.mul_one, Nat.zero_add, Nat.add_zero, Nat.zero_mul, Int.reduceToNat, Nat.reduceAdd, Nat.reduceMul, Nat.reduceSub, Nat.sub_zero]); rfl) (by (try simp only [Int.toNat_natCast, Nat.mul_one, Nat.zero_add, Nat.add_zero, Nat.zero_mul, Int.reduceToNat, Nat.reduceAdd, Nat.reduceMul, Nat.reduceSub, Nat.sub_zero]); rfl) (by (try simp only [Int.toNat_natCast, Nat.mul_one, Nat.zero_add, Nat.add_zero, Nat.zero_mul, Int.reduceToNat, Nat.reduceAdd, Nat.reduceMul, Nat.reduceSub, Nat.sub_zero]); rfl)) ?_
  ·omega
  refine WM.r rfl rfl rfl (rd_slat rfl rfl rfl u271 (by kernel_rfl : _ = some 1) ?_ (by (try simp only [Int.toNat_natCast, Nat.mul_one, Nat.zero_add, Nat.add_zero, Nat.zero_mul, Int.reduceToNat, Nat.reduceAdd, Nat.reduceMul, Nat.reduceSub, Nat.sub_zero]); rfl)) ?_
  ·omega
  refine WM.h rfl rfl rfl (cpyl rfl rfl rfl (by first | exact .here | exact .t1 | exact .t2 | exact .t3 | exact .t4 | exact .t5 | exact .t6 | exact .t7) u206 (by kernel_rfl) (by rfl) (by rfl) (fun w' h => h.sl_of (xs := [u32 xa, u32 xb, u32 xc, u32 xd, u32 xe, u32 xf, u32 xg]) (by first | exact .here | exact .t1 | exact .t2 | exact .t3) rfl) (by simp [u32, Value.oneCell']) (by simp) (ys := [u32 xa, u32 xa, u32 xb, u32 xc, u32 xd, u32 xe, u32 xf, u32 xg]) rfl) ?_
  intro _
  refine WM.nil ?_
  refine Xa (Cq (Cg ?_))
  refine Kq rfl (Jb rfl rfl rfl u271 (by kernel_rfl : _ = some 1) ?_) ?_
  ·omega
  refine Kq rfl (ld rfl rfl (by first | exact .here | exact .t1 | exact .t2 | exact .t3 | exact .t4 | exact .t5 | exact .t6 | exact .t7) u240 rfl (by rfl)) ?_
  refine Km rfl (Kq rfl (rdW_add rfl rfl rfl) ?_)
  refine Kq rfl (Jb rfl rfl rfl u271 (by kernel_rfl : _ = some 1) ?_) ?_
  ·omega
  refine Ng rfl rfl (st rfl rfl rfl (by first | exact .here | exact .t1 | exact .t2 | exact .t3 | exact .t4 | exact .t5 | exact .t6 | exact .t7) (by kernel_rfl) rfl ?_ rfl) ?_
  ·first | decide | (simp; done) | (simp; omega)
  intro _
  refine Nn (Xa (Cg (Km rfl (Km rfl (Kq rfl (rdW_add rfl rfl rfl) ?_)))))
  refine Kq rfl (Jb rfl rfl rfl u271 (by kernel_rfl : _ = some 1) ?_) ?_
  ·omega
  refine Ng rfl rfl (st rfl rfl rfl (by first | exact .here | exact .t1 | exact .t2 | exact .t3 | exact .t4 | exact .t5 | exact .t6 | exact .t7) (by kernel_rfl) rfl ?_ rfl) ?_
  ·first | decide | (simp; done) | (simp; omega)
  intro _
  refine Nn (Xd (Xa (Cg ?_)))
  first
   | (refine Kq rfl (Rz rfl rfl rfl ?_) ?_; focus (omega))
   | (refine Kq rfl (rd_add64 rfl rfl rfl ?_) ?_; focus (omega))
  refine Km rfl (Nn ?_)
  exact WX.loop (k + 1) (by omega) (by repeat (first | exact S0 _ | refine Sc rfl ?_)) (fun w' h => ⟨by omega, by rw [show rounds KK ws (k + 1) x0 = rnd (KK.getD k 0) (ws.getD k 0) (rounds KK ws k x0) from rfl, hX]; exact h⟩)
 ·(try simp only [decide_eq_true_eq, decide_eq_false_iff_not, Bool.not_eq_true', Bool.not_eq_false', Bool.not_not, Int.not_lt, Int.not_le] at hc23)
  refine Cx (Xc (Xc (Xe ?_)))
  obtain rfl : k = 64 := by omega
  have hrl := rounds_len KK ws 64 x0 hx0
  obtain ⟨X, hX⟩ : ∃ X, rounds KK ws 64 x0 = X := ⟨_, rfl⟩
  rw [hX] at hrl ⊢
  have hadl := addW_len X x0 (by omega)
  refine Xa (Cq (Cq (Cg (Km rfl (Nn (Xa (Cb ?_)))))))
  refine WC.loop (σ := Nat) (fun k => [(2, .pointer (some ⟨b2, 0, none⟩)), (4, .pointer (some ⟨b4, 0, none⟩)), (7, .pointer (some ⟨b7, 0, none⟩)), (98, .int .i64 (k : Int))]) (fun k w' => k ≤ 8 ∧ St (fun _ => True) w [⟨some b7, ((addW X x0).take k ++ X.drop k).map u32, 271⟩, ⟨some b4, List.replicate 8 (u32 0), 271⟩, ⟨some b2, x0.map u32, 271⟩] [] w') (fun k => 8 - k) 0 (by repeat (first | exact S0 _ | refine Sc rfl ?_)) (fun w' h => ⟨by omega, h.sub (by repeat first | exact List.Sublist.refl _ | apply List.Sublist.cons_cons | apply List.Sublist.cons) (by simp)⟩) ?_
  intro q; refine WC.pu ?_; intro hq
  refine Cq (Cg (Kq rfl (rd_lss rfl rfl rfl) (Nn (Xa (Cq ?_)))))
  refine Cd rfl (fun hc99 => ?_) (fun hc99 => ?_)
  ·(try simp only [decide_eq_true_eq, decide_eq_false_iff_not, Bool.not_eq_true', Bool.not_eq_false', Bool.not_not, Int.not_lt, Int.not_le] at hc99)
   have hXq := get_getD X q 0 (by omega)
   have hxq := get_getD x0 q 0 (by omega)
   refine Ck (Xa (Cq (Cb (Cq (Cg (Km rfl (Ka rfl (Nn (Xa ?_)))))))))
   refine WC.mix [0, 0, 0, 0, 0, 0, 0, 0, 2] (by kernel_rfl) (by kernel_rfl) (fun w h => h.draw) ?_
   refine WM.r rfl rfl rfl (Rm rfl rfl) ?_
   refine WM.r rfl rfl rfl (Jb rfl rfl rfl u271 (by kernel_rfl : _ = some 1) ?_) ?_
   ·omega
   refine WM.r rfl rfl rfl (ld rfl rfl (by first | exact .here | exact .t1 | exact .t2 | exact .t3 | exact .t4 | exact .t5 | exact .t6 | exact .t7) u240 rfl (by rw [List.getElem?_map, List.getElem?_append_right (by simp; omega), List.getElem?_drop, List.length_take, hadl, show q + (q - min q X.length) = q by omega, hXq]; rfl)) ?_
   refine WM.r rfl rfl rfl (Rm rfl rfl) ?_
   refine WM.r rfl rfl rfl (Jb rfl rfl rfl u271 (by kernel_rfl : _ = some 1) ?_) ?_
   ·omega
   refine WM.r rfl rfl rfl (ld rfl rfl (by first | exact .here | exact .t1 | exact .t2 | exact .t3 | exact .t4 | exact .t5 | exact .t6 | exact .t7) u240 rfl (by rw [List.getElem?_map, hxq]; rfl)) ?_
   refine WM.r rfl rfl rfl (rdW_add rfl rfl rfl) ?_
   refine WM.r rfl rfl rfl (Jb rfl rfl rfl u271 (by kernel_rfl : _ = some 1) ?_) ?_
   ·omega
   refine WM.h0 rfl rfl (st rfl rfl rfl (by first | exact .here | exact .t1 | exact .t2 | exact .t3 | exact .t4 | exact .t5 | exact .t6 | exact .t7) (by kernel_rfl) rfl ?_ rfl) ?_
   ·simp; omega
   intro _
   refine WM.nil ?_
   refine Xd (Xa (Cg ?_))
   first
    | (refine Kq rfl (Rz rfl rfl rfl ?_) ?_; focus (omega))
    | (refine Kq rfl (rd_add64 rfl rfl rfl ?_) ?_; focus (omega))
   refine Km rfl (Nn ?_)
   exact WX.loop (q + 1) (by omega) (by repeat (first | exact S0 _ | refine Sc rfl ?_)) (fun w' h => ⟨by omega, by rw [addW_set X x0 q _ _ (by omega) hXq hxq] at h; exact h⟩)
  ·(try simp only [decide_eq_true_eq, decide_eq_false_iff_not, Bool.not_eq_true', Bool.not_eq_false', Bool.not_not, Int.not_lt, Int.not_le] at hc99)
   refine Cx (Xc (Xc (Xe ?_)))
   obtain rfl : q = 8 := by omega
   have hfin : (addW X x0).take 8 ++ X.drop 8 = addW X x0 := by rw [List.take_of_length_le (by omega), List.drop_eq_nil_of_le (by omega), List.append_nil]
   rw [hfin]
   have hal : (addW X x0).length = 8 := by omega
   refine Xa (Cq (Cg ?_))
   refine Kq rfl (lda rfl rfl (by first | exact .here | exact .t1 | exact .t2 | exact .t3 | exact .t4 | exact .t5 | exact .t6 | exact .t7) u271 rfl ?_) ?_
   ·rw [List.length_map, hal]; kernel_rfl
   refine Ng rfl rfl (sta rfl rfl rfl (by first | exact .here | exact .t1 | exact .t2 | exact .t3 | exact .t4 | exact .t5 | exact .t6 | exact .t7) ?_ ?_ ?_) ?_
   ·rw [List.length_map, hal]; kernel_rfl
   ·exact u32_one _
   ·rw [List.length_map, hal]; rfl
   intro _
   refine Nn (Xa (Ce ?_))
   exact WX.ret1c rfl rfl (by first | exact .here | exact .t1 | exact .t2 | exact .t3) u271 rfl (by rw [List.length_map, hal]; kernel_rfl) fun w' hS => ⟨rfl, hS.below⟩
theorem St.snoc {ok : Nat → Prop} {w0 w : World} {r : List Ent} {fs : List Fact} {b b2 : Nat} {e : TypeId} {m : List UInt8} {c : UInt8} {v : Value} {sp : List Value} (h : St ok w0 (⟨some b2, [v], e⟩ :: ⟨some b, (m.map B ++ [v]) ++ sp, e⟩ :: r) fs w) (hv : v = B c) : St ok w0 (⟨some b, (m ++ [c]).map B ++ sp, e⟩ :: r) fs w := by
 subst hv
 rw [List.map_append]
 exact h.sub (List.sublist_cons_self _ _) (fun _ h => h)
theorem byte_shr (M q : Nat) (hM : M < 18446744073709551616) (hq : q ≤ 7) : IntKind.u8.wrap ((M : Int).fdiv (2 ^ (min (56 - 8 * (q : Int)).toNat IntKind.u64.bits))) = ((byteAt M (7 - q)).toNat : Int) := by
 have e1 : min (56 - 8 * (q : Int)).toNat IntKind.u64.bits = 8 * (7 - q) := by simp [IntKind.bits]; omega
 rw [e1]
 have e2 : ((2 : Int) ^ (8 * (7 - q))) = ((2 ^ (8 * (7 - q)) : Nat) : Int) := by simp
 rw [e2, Int.fdiv_eq_ediv_of_nonneg _ (Int.natCast_nonneg _), ← Int.natCast_ediv, IntKind.wrap_u8, byteAt]
 rw [UInt8.toNat_ofNat']
 generalize M / 2 ^ (8 * (7 - q)) = z
 omega
theorem byte_W (x : W) (i : Nat) : IntKind.u8.wrap ((x >>> (8 * i)).toNat : Int) = ((byteAt x.toNat i).toNat : Int) := by
 rw [BitVec.toNat_ushiftRight, Nat.shiftRight_eq_div_pow, IntKind.wrap_u8, byteAt, UInt8.toNat_ofNat']
 generalize x.toNat / 2 ^ (8 * i) = z
 omega
theorem byte_W0 (x : W) : IntKind.u8.wrap (x.toNat : Int) = ((byteAt x.toNat 0).toNat : Int) := by
 have := byte_W x 0; simpa using this
theorem len8_take (M q : Nat) (hq : q ≤ 7) : (len8 M).take (q + 1) = (len8 M).take q ++ [byteAt M (7 - q)] := by
 have : q = 0 ∨ q = 1 ∨ q = 2 ∨ q = 3 ∨ q = 4 ∨ q = 5 ∨ q = 6 ∨ q = 7 := by omega
 rcases this with rfl | rfl | rfl | rfl | rfl | rfl | rfl | rfl <;> rfl
theorem pad_len (l : List UInt8) : ∃ n, (pad l).length = 64 * n := by
 refine ⟨(l.length + 1 + zeros l.length + 8) / 64, ?_⟩
 have : (pad l).length = l.length + 1 + zeros l.length + 8 := by simp [pad, len8]; omega
 rw [this]; unfold zeros; omega
theorem chunks_succ (n : Nat) (x : List W) (m : List UInt8) : chunks (n + 1) x m = chunks n (compress x (m.take 64)) (m.drop 64) := rfl
theorem compress_len (x : List W) (b : List UInt8) (h : x.length = 8) : (compress x b).length = 8 := by
 unfold compress
 have := rounds_len KK (sched 48 (words b)) 64 x h
 rw [addW_len _ _ (by omega)]; exact this
theorem outW_take (X : List W) (k : Nat) (h : k < X.length) : outW (X.take (k + 1)) = outW (X.take k) ++ bytes4 (X.getD k 0) := by
 have hx := get_getD X k 0 h
 rw [List.take_add_one, hx]
 simp [outW]
theorem outW_len (X : List W) : (outW X).length = 4 * X.length := by
 induction X with
 | nil => rfl
 | cons x X ih => simp only [outW, List.flatMap_cons, List.length_append, List.length_cons] at *; rw [ih]; simp [bytes4]; omega
structure G4 where
 k : Nat
 ob : Option Nat
 cap : Nat
 spare : List Value
structure G3 where
 q : Nat
 ad : Option Addr
 x : List W
theorem sum_ok (l : List UInt8) (hl : l.length ≤ 1000000) (w : World) :
  Cw 249 #[.string (S l)] w (.string (S (sha l))) := by
 have hz : zeros l.length = (119 - l.length % 64) % 64 := rfl
 have hpl : (pad l).length = l.length + 1 + zeros l.length + 8 := by simp [pad, len8]; omega
 refine enter (S := St (fun _ => True) w [] []) (L := [(0, .string (S l))]) Tryz.func249 rfl Tryz.ntmps249 rfl (Ac rfl (An _)) (St.start (fun _ _ => trivial) (by simp)) ?_
 refine Cq (Cg (Ka rfl (Nn (Xa (Cq (Cg (Km rfl (Kq rfl (rd_slen rfl rfl u9) (Km rfl (Kq rfl (rd_slen rfl rfl u9) ?_))))))))))
 first
  | (refine Kq rfl (Rz rfl rfl rfl ?_) ?_; focus (omega))
  | (refine Kq rfl (rd_add64 rfl rfl rfl ?_) ?_; focus (omega))
 refine Kh rfl (og_mk rfl rfl rfl u128 (by kernel_rfl : _ = some (some (.int .u8 0), 1, 1)) rfl ?_ (by (try simp only [Int.toNat_natCast, Nat.mul_one, Nat.zero_add, Nat.add_zero, Nat.zero_mul, Int.reduceToNat, Nat.reduceAdd, Nat.reduceMul, Nat.reduceSub, Nat.sub_zero]); rfl) (by (try simp only [Int.toNat_natCast, Nat.mul_one, Nat.zero_add, Nat.add_zero, Nat.zero_mul, Int.reduceToNat, Nat.reduceAdd, Nat.reduceMul, Nat.reduceSub, Nat.sub_zero]); rfl)) ?_
 ·omega
 intro b15
 refine Ka rfl (Nn (Xa (Cq (Cg (Km rfl (Km rfl ?_))))))
 refine Kh rfl (cpys rfl rfl rfl (by first | exact .here | exact .t1 | exact .t2 | exact .t3 | exact .t4 | exact .t5 | exact .t6 | exact .t7) u128 (by kernel_rfl) (m := l.length) (by simp) (by simp) (ys := l.map B ++ List.replicate 72 (B 0)) (by simp [B])) ?_
 intro _
 refine Nn (Xa (Cq (Cg (Km rfl ?_))))
 refine Kh rfl (og_bs1 rfl rfl u128 (by kernel_rfl : _ = some (some (.int .u8 0), 1, 1)) rfl (by simp only [List.map]; rfl) rfl rfl ?_ (by decide)) ?_
 ·simp [Value.cells]
 intro b20
 refine Kh rfl (app rfl u128 (by kernel_rfl : _ = some (some (.int .u8 0), 1, 1)) rfl (by first | exact .here | exact .t1 | exact .t2 | exact .t3 | exact .t4 | exact .t5 | exact .t6 | exact .t7) (by rfl) (by rfl) (by first | exact .here | exact .t1 | exact .t2 | exact .t3 | exact .t4 | exact .t5 | exact .t6 | exact .t7) (by rfl) ?_ ?_) ?_
 ·(refine ⟨?_, ?_, ?_, ?_, ?_⟩ <;> (try simp) <;> omega)
 ·simp [Value.oneCell']
 intro g21
 refine WL.pu ?_
 intro hg21
 refine WL.st (S' := St (fun _ => True) w [⟨some g21.b, (l ++ [128]).map B ++ g21.spare, 5⟩] []) (fun w' h => h.snoc rfl) ?_
 refine Ka rfl (Nn (Xa (Cq (Cb ?_))))
 refine WC.loop (σ := Nat × App) (fun p => [(0, .string (S l)), (3, .slice (some ⟨p.2.b, 0, none⟩) (l.length + 1 + p.1) p.2.cap)]) (fun p w' => (p.1 ≤ zeros l.length ∧ p.2.cap = l.length + 1 + p.1 + p.2.spare.length) ∧ St (fun _ => True) w [⟨some p.2.b, (l ++ [128] ++ List.replicate p.1 0).map B ++ p.2.spare, 5⟩] [] w') (fun p => zeros l.length - p.1) (0, g21) (by repeat (first | exact S0 _ | refine Sc rfl ?_)) (fun w' h => ⟨⟨by simp, by simpa using hg21.2⟩, by simpa using h⟩) ?_
 rintro ⟨j, g⟩; dsimp only; refine WC.pu ?_; rintro ⟨hj, hg⟩
 refine Cq (Cq (Cg (Km rfl (Kq rfl (rd_len rfl rfl u128) ?_))))
 first
  | (refine Kq rfl (rd_rem64nl rfl rfl rfl ?_) ?_; focus (omega))
  | (refine Kq rfl (rd_rem64 rfl rfl rfl ?_) ?_; focus (omega))
 refine Kq rfl (rd_neq rfl rfl rfl) (Nn (Xa ?_))
 refine Cd rfl (fun hc25 => ?_) (fun hc25 => ?_)
 ·(try simp only [decide_eq_true_eq, decide_eq_false_iff_not, Bool.not_eq_true', Bool.not_eq_false', Bool.not_not, Int.not_lt, Int.not_le] at hc25)
  refine Ck (Xa (Cb (Cg (Km rfl ?_))))
  refine Kh rfl (og_bs1 rfl rfl u128 (by kernel_rfl : _ = some (some (.int .u8 0), 1, 1)) rfl (by simp only [List.map]; rfl) rfl rfl ?_ (by decide)) ?_
  ·simp [Value.cells]
  intro b27
  refine Kh rfl (app rfl u128 (by kernel_rfl : _ = some (some (.int .u8 0), 1, 1)) rfl (by first | exact .here | exact .t1 | exact .t2 | exact .t3 | exact .t4 | exact .t5 | exact .t6 | exact .t7) (by rfl) (by rfl) (by first | exact .here | exact .t1 | exact .t2 | exact .t3 | exact .t4 | exact .t5 | exact .t6 | exact .t7) (by rfl) ?_ ?_) ?_
  ·(refine ⟨?_, ?_, ?_, ?_, ?_⟩ <;> (try simp) <;> omega)
  ·simp [Value.oneCell']
  intro g28
  refine WL.pu ?_
  intro hg28
  refine WL.st (S' := St (fun _ => True) w [⟨some g28.b, (l ++ [128] ++ List.replicate (j + 1) 0).map B ++ g28.spare, 5⟩] []) (fun w' h => by have := h.snoc (c := 0) rfl; rw [List.append_assoc, ← List.replicate_succ'] at this; exact this) ?_
  refine Ka rfl (Nn (Xd ?_))
  exact WX.loop (j + 1, g28) (by show zeros l.length - (j + 1) < zeros l.length - j; omega) (by repeat (first | exact S0 _ | refine Sc rfl ?_)) (fun w' h => ⟨⟨by show j + 1 ≤ _; omega, by have := hg28.2; show g28.cap = _; omega⟩, h⟩)
 ·(try simp only [decide_eq_true_eq, decide_eq_false_iff_not, Bool.not_eq_true', Bool.not_eq_false', Bool.not_not, Int.not_lt, Int.not_le] at hc25)
  refine Cx (Xc (Xc (Xe ?_)))
  obtain rfl : j = zeros l.length := by omega
  refine Xa (Cq (Cg (Km rfl (Kq rfl (rd_slen rfl rfl u9) (Kq rfl (rd_conv rfl rfl u3 u67) (Kq rfl (rd_mul rfl rfl rfl) ?_))))))
  refine Ns 32 rfl (v' := .int .u64 ((8 * l.length : Nat) : Int)) (congrArg (Value.int .u64) (by rw [IntKind.wrap_u64, IntKind.wrap_u64]; omega)) ?_
  refine Ka rfl (Nn (Xa (Cq (Cq (Cg (Ka rfl (Nn (Xa (Cb ?_)))))))))
  refine WC.loop (σ := Nat × App) (fun p => [(4, .int .u64 ((8 * l.length : Nat) : Int)), (5, .int .i64 (56 - 8 * (p.1 : Int))), (3, .slice (some ⟨p.2.b, 0, none⟩) (l.length + 1 + zeros l.length + p.1) p.2.cap)]) (fun p w' => (p.1 ≤ 8 ∧ p.2.cap = l.length + 1 + zeros l.length + p.1 + p.2.spare.length) ∧ St (fun _ => True) w [⟨some p.2.b, (l ++ [128] ++ List.replicate (zeros l.length) 0 ++ (len8 (8 * l.length)).take p.1).map B ++ p.2.spare, 5⟩] [] w') (fun p => 8 - p.1) (0, g) (by repeat (first | exact S0 _ | refine Sc rfl ?_)) (fun w' h => ⟨⟨by simp, by simpa using hg⟩, by simpa using h⟩) ?_
  rintro ⟨q, g2⟩; dsimp only; refine WC.pu ?_; rintro ⟨hq, hg2⟩
  refine Cq (Cq (Cg (Km rfl (Kq rfl (rd_geq rfl rfl rfl) (Nn (Xa ?_))))))
  refine Cd rfl (fun hc34 => ?_) (fun hc34 => ?_)
  ·(try simp only [decide_eq_true_eq, decide_eq_false_iff_not, Bool.not_eq_true', Bool.not_eq_false', Bool.not_not, Int.not_lt, Int.not_le] at hc34)
   refine Ck (Xa (Cq (Cb (Cg (Km rfl (Km rfl (Km rfl ?_)))))))
   refine Kq rfl (rd_shr rfl rfl rfl ?_) ?_
   ·first | decide | omega
   refine Kq rfl (rd_conv rfl rfl u67 u5) (Ns 41 rfl (v' := B (byteAt (8 * l.length) (7 - q))) (congrArg (Value.int .u8) (byte_shr (8 * l.length) q (by omega) (by omega))) ?_)
   refine Kh rfl (og_bs1 rfl rfl u128 (by kernel_rfl : _ = some (some (.int .u8 0), 1, 1)) rfl (by simp only [List.map]; rfl) rfl rfl ?_ (by decide)) ?_
   ·simp [B, Value.cells]
   intro b42
   refine Kh rfl (app rfl u128 (by kernel_rfl : _ = some (some (.int .u8 0), 1, 1)) rfl (by first | exact .here | exact .t1 | exact .t2 | exact .t3 | exact .t4 | exact .t5 | exact .t6 | exact .t7) (by rfl) (by rfl) (by first | exact .here | exact .t1 | exact .t2 | exact .t3 | exact .t4 | exact .t5 | exact .t6 | exact .t7) (by rfl) ?_ ?_) ?_
   ·(refine ⟨?_, ?_, ?_, ?_, ?_⟩ <;> (try simp [len8]) <;> omega)
   ·simp [B, Value.oneCell']
   intro g43
   refine WL.pu ?_
   intro hg43
   refine WL.st (S' := St (fun _ => True) w [⟨some g43.b, (l ++ [128] ++ List.replicate (zeros l.length) 0 ++ (len8 (8 * l.length)).take (q + 1)).map B ++ g43.spare, 5⟩] []) (fun w' h => by have := h.snoc (c := byteAt (8 * l.length) (7 - q)) rfl; rw [List.append_assoc, ← len8_take _ q (by omega)] at this; exact this) ?_
   refine Ka rfl (Nn (Xd (Xa (Cg (Km rfl ?_)))))
   first
    | (refine Kq rfl (rd_sub64nl rfl rfl rfl ?_) ?_; focus (omega))
    | (refine Kq rfl (rd_sub64 rfl rfl rfl ?_) ?_; focus (omega))
   refine Ka rfl (Nn ?_)
   exact WX.loop (q + 1, g43) (by show 8 - (q + 1) < 8 - q; omega) (by repeat (first | exact S0 _ | refine Sc rfl ?_ | refine Sc (by show some (Value.int _ _) = some (Value.int _ _); congr 2; omega) ?_)) (fun w' h => ⟨⟨by show q + 1 ≤ _; omega, by have := hg43.2; show g43.cap = _; omega⟩, h⟩)
  ·(try simp only [decide_eq_true_eq, decide_eq_false_iff_not, Bool.not_eq_true', Bool.not_eq_false', Bool.not_not, Int.not_lt, Int.not_le] at hc34)
   refine Cx (Xc (Xc (Xe ?_)))
   obtain rfl : q = 8 := by omega
   obtain ⟨m, hm⟩ : ∃ m, pad l = m := ⟨_, rfl⟩
   have hmm : l ++ [128] ++ List.replicate (zeros l.length) 0 ++ (len8 (8 * l.length)).take 8 = m := by rw [← hm]; rfl
   rw [hmm]
   obtain ⟨nb, hnb⟩ := pad_len l
   have hlen : l.length + 1 + zeros l.length + 8 = 64 * nb := by omega
   rw [hm] at hnb
   refine Xa (Cq (Cg ?_))
   refine Ku rfl (Oc rfl rfl (Kv fun w _ => first_ok w)) ?_
   refine Kh rfl (Oz [.int .u32 0, .int .u32 0, .int .u32 0, .int .u32 0, .int .u32 0, .int .u32 0, .int .u32 0, .int .u32 0] rfl) ?_
   intro b6
   refine Ng rfl rfl (sta rfl rfl rfl (by first | exact .here | exact .t1 | exact .t2 | exact .t3 | exact .t4 | exact .t5 | exact .t6 | exact .t7) ?_ ?_ ?_) ?_
   ·kernel_rfl
   ·exact u32_one _
   ·first | rfl | simp
   intro _
   refine Nn (Xa (Cq (Cb ?_)))
   refine WC.loop (σ := G3) (fun p => [(6, .pointer (some ⟨b6, 0, none⟩)), (3, .slice p.ad (l.length + 1 + zeros l.length + 8 - 64 * p.q) (g2.cap - 64 * p.q))]) (fun p w' => ((p.q ≤ nb ∧ p.x.length = 8) ∧ (p.q < nb → p.ad = some ⟨g2.b, 64 * p.q, none⟩) ∧ chunks nb H0 m = chunks (nb - p.q) p.x (m.drop (64 * p.q))) ∧ St (fun _ => True) w [⟨some b6, p.x.map u32, 271⟩, ⟨some g2.b, m.map B ++ g2.spare, 5⟩] [] w') (fun p => nb - p.q) ⟨0, some ⟨g2.b, 0, none⟩, H0⟩ (by repeat (first | exact S0 _ | refine Sc rfl ?_)) (fun w' h => ⟨⟨⟨by simp, rfl⟩, fun _ => rfl, by simp⟩, h⟩) ?_
   rintro ⟨q, ad, x⟩; dsimp only; refine WC.pu ?_; rintro ⟨⟨hq, hx⟩, had, hch⟩
   refine Cq (Cq (Cg (Km rfl (Kq rfl (rd_len rfl rfl u128) (Kq rfl (rd_gtr rfl rfl rfl) (Nn (Xa ?_)))))))
   refine Cd rfl (fun hc47 => ?_) (fun hc47 => ?_)
   ·(try simp only [decide_eq_true_eq, decide_eq_false_iff_not, Bool.not_eq_true', Bool.not_eq_false', Bool.not_not, Int.not_lt, Int.not_le] at hc47)
    have hqn : q < nb := by omega
    obtain rfl := had hqn
    have hblk : (m.drop (64 * q)).length = 64 * nb - 64 * q := by simp [hnb]
    refine Ck (Xa (Cq (Cb ?_)))
    refine WC.mix [0, 0, 0, 1, 2] (by kernel_rfl) (by kernel_rfl) (fun w h => h.draw) ?_
    refine WM.r rfl rfl rfl (lda rfl rfl (by first | exact .here | exact .t1 | exact .t2 | exact .t3 | exact .t4 | exact .t5 | exact .t6 | exact .t7) u271 rfl ?_) ?_
    ·rw [List.length_map, hx]; kernel_rfl
    refine WM.r rfl rfl rfl (Rm rfl rfl) ?_
    refine WM.r rfl rfl rfl (rd_slt rfl rfl rfl u128 (by kernel_rfl : _ = some 1) ?_ (by (try simp only [Int.toNat_natCast, Nat.mul_one, Nat.zero_add, Nat.add_zero, Nat.zero_mul, Int.reduceToNat, Nat.reduceAdd, Nat.reduceMul, Nat.reduceSub, Nat.sub_zero]); rfl)) ?_
    ·omega
    refine WM.g rfl rfl rfl (Oc rfl rfl (Kv fun w hS => after_ok x hx ((m.drop (64 * q)).take 64) (by simp; omega) g2.b (64 * q) (g2.cap - 64 * q) (by omega) w (hS.sl_of (cs := m.map B ++ g2.spare) (by first | exact .here | exact .t1 | exact .t2) (by rw [List.drop_append_of_le_length (by simp; omega), List.take_append_of_le_length (by simp; omega), ← List.map_drop, ← List.map_take]; congr 1; simp; try omega)))) (fun _ _ h => by first | exact h | exact ⟨_, h⟩ | exact ⟨_, h.2⟩ | exact h.2 | exact h.sub (by repeat (first | exact List.Sublist.refl _ | apply List.Sublist.cons)) (fun _ h => by simp [*]) | exact h.2.sub (by repeat (first | exact List.Sublist.refl _ | apply List.Sublist.cons)) (fun _ h => by simp [*])) ?_
    intro _
    refine WM.h0 rfl rfl (sta rfl rfl rfl (by first | exact .here | exact .t1 | exact .t2 | exact .t3 | exact .t4 | exact .t5 | exact .t6 | exact .t7) ?_ ?_ ?_) ?_
    ·rw [List.length_map, compress_len _ _ hx]; kernel_rfl
    ·exact u32_one _
    ·rw [List.length_map, compress_len _ _ hx, List.length_map, hx]
    intro _
    refine WM.nil ?_
    refine Xd (Xa (Cg (Km rfl ?_)))
    refine Kq rfl (rd_slf rfl rfl rfl u128 (by kernel_rfl : _ = some 1) ?_ (by (try simp only [Int.toNat_natCast, Nat.mul_one, Nat.zero_add, Nat.add_zero, Nat.zero_mul, Int.reduceToNat, Nat.reduceAdd, Nat.reduceMul, Nat.reduceSub, Nat.sub_zero]); rfl) (by (try simp only [Int.toNat_natCast, Nat.mul_one, Nat.zero_add, Nat.add_zero, Nat.zero_mul, Int.reduceToNat, Nat.reduceAdd, Nat.reduceMul, Nat.reduceSub, Nat.sub_zero]); rfl) (by (try simp only [Int.toNat_natCast, Nat.mul_one, Nat.zero_add, Nat.add_zero, Nat.zero_mul, Int.reduceToNat, Nat.reduceAdd, Nat.reduceMul, Nat.reduceSub, Nat.sub_zero]); rfl)) ?_
    ·omega
    refine Ka rfl (Nn ?_)
    exact WX.loop ⟨q + 1, cut (some ⟨g2.b, 64 * q, none⟩) 64 (g2.cap - 64 * q) 1, compress x ((m.drop (64 * q)).take 64)⟩ (by show nb - (q + 1) < nb - q; omega) (by repeat (first | exact S0 _ | refine Sc (by show some (Value.slice _ _ _) = some (Value.slice _ _ _); congr 2 <;> omega) ?_ | refine Sc rfl ?_)) (fun w' h => ⟨⟨⟨by show q + 1 ≤ nb; omega, compress_len _ _ hx⟩, fun (hlt : q + 1 < nb) => by show cut _ _ _ _ = some ⟨g2.b, 64 * (q + 1), none⟩; rw [cut, if_neg (by omega), Option.map_some, Addr.add_lit]; congr 2; try omega, by rw [hch, show nb - q = (nb - (q + 1)) + 1 by omega, chunks_succ, List.drop_drop]; congr 1⟩, h⟩)
   ·(try simp only [decide_eq_true_eq, decide_eq_false_iff_not, Bool.not_eq_true', Bool.not_eq_false', Bool.not_not, Int.not_lt, Int.not_le] at hc47)
    refine Cx (Xc (Xc (Xe ?_)))
    obtain rfl : q = nb := by omega
    have hfin : sha l = outW x := by rw [sha, hm, hnb, Nat.mul_div_cancel_left _ (by omega), hch, Nat.sub_self]; rfl
    refine Xa (Cq (Cg (Ka rfl (Nn (Xa (Cq (Cq (Cg ?_))))))))
    refine Kq rfl (lda rfl rfl (by first | exact .here | exact .t1 | exact .t2 | exact .t3 | exact .t4 | exact .t5 | exact .t6 | exact .t7) u271 rfl ?_) ?_
    ·rw [List.length_map, hx]; kernel_rfl
    refine Km rfl (Nn (Xa (Cb ?_)))
    refine WC.loop (σ := G4) (fun p => [(54, .agg (x.map u32).toArray), (55, .int .i64 (p.k : Int)), (7, .slice (p.ob.map fun b => ⟨b, 0, none⟩) (4 * p.k) p.cap)]) (fun p w' => (p.k ≤ 8 ∧ (p.k = 0 ∨ ∃ b, p.ob = some b) ∧ p.cap = 4 * p.k + p.spare.length) ∧ St (fun _ => True) w [⟨p.ob, (outW (x.take p.k)).map B ++ p.spare, 5⟩] [] w') (fun p => 8 - p.k) ⟨0, none, 0, []⟩ (by repeat (first | exact S0 _ | refine Sc rfl ?_)) (fun w' h => ⟨⟨by simp, .inl rfl, rfl⟩, (h.sub (own' := []) (fs' := []) (by simp) (by simp)).nil _⟩) ?_
    rintro ⟨k, ob, cap4, sp4⟩; dsimp only; refine WC.pu ?_; rintro ⟨hk, hob, hcap4⟩
    refine Cq (Cg (Kq rfl (rd_lss rfl rfl rfl) (Nn (Xa (Cq ?_)))))
    refine Cd rfl (fun hc56 => ?_) (fun hc56 => ?_)
    ·(try simp only [decide_eq_true_eq, decide_eq_false_iff_not, Bool.not_eq_true', Bool.not_eq_false', Bool.not_not, Int.not_lt, Int.not_le] at hc56)
     refine Ck (Xa (Cq (Cb (Cq (Cg ?_)))))
     refine Kq rfl (rd_aidx rfl rfl rfl u271 u240 rfl (by kernel_rfl) ?_ (by rw [List.getElem?_map, get_getD x _ 0 (by omega)]; rfl)) ?_
     ·omega
     refine Ka rfl (Nn (Xa (Cg (Km rfl (Km rfl (Kq rfl (rdW_shr rfl rfl rfl (by decide)) (Kq rfl (rd_conv rfl rfl u240 u5) (Ns 61 rfl (v' := B (byteAt (x.getD k 0).toNat 3)) (congrArg (Value.int .u8) (byte_W (x.getD k 0) 3)) (Km rfl (Kq rfl (rdW_shr rfl rfl rfl (by decide)) (Kq rfl (rd_conv rfl rfl u240 u5) (Ns 64 rfl (v' := B (byteAt (x.getD k 0).toNat 2)) (congrArg (Value.int .u8) (byte_W (x.getD k 0) 2)) (Km rfl (Kq rfl (rdW_shr rfl rfl rfl (by decide)) (Kq rfl (rd_conv rfl rfl u240 u5) (Ns 67 rfl (v' := B (byteAt (x.getD k 0).toNat 1)) (congrArg (Value.int .u8) (byte_W (x.getD k 0) 1)) (Km rfl (Kq rfl (rd_conv rfl rfl u240 u5) ?_))))))))))))))))))
     refine Ns 69 rfl (v' := B (byteAt (x.getD k 0).toNat 0)) (congrArg (Value.int .u8) (byte_W0 (x.getD k 0))) ?_
     refine Kh rfl (og_bs1 rfl rfl u128 (by kernel_rfl : _ = some (some (.int .u8 0), 1, 1)) rfl (by simp only [List.map]; rfl) rfl rfl ?_ (by decide)) ?_
     ·simp [B, Value.cells]
     intro b70
     refine Kh rfl (app rfl u128 (by kernel_rfl : _ = some (some (.int .u8 0), 1, 1)) rfl (by first | exact .here | exact .t1 | exact .t2 | exact .t3 | exact .t4 | exact .t5 | exact .t6 | exact .t7) (by rfl) (by rfl) (by first | exact .here | exact .t1 | exact .t2 | exact .t3 | exact .t4 | exact .t5 | exact .t6 | exact .t7) (by rfl) ?_ ?_) ?_
     ·(refine ⟨?_, ?_, ?_, ?_, ?_⟩ <;> (try simp [outW_len]) <;> omega)
     ·simp [B, Value.oneCell']
     intro g71
     refine WL.pu ?_
     intro hg71
     refine Ka rfl (Nn (Xd (Xa (Cg ?_))))
     first
      | (refine Kq rfl (Rz rfl rfl rfl ?_) ?_; focus (omega))
      | (refine Kq rfl (rd_add64 rfl rfl rfl ?_) ?_; focus (omega))
     refine Km rfl (Nn ?_)
     exact WX.loop ⟨k + 1, some g71.b, g71.cap, g71.spare⟩ (by show 8 - (k + 1) < 8 - k; omega) (by repeat (first | exact S0 _ | refine Sc rfl ?_)) (fun w' h => ⟨⟨by show k + 1 ≤ 8; omega, .inr ⟨_, rfl⟩, by have := hg71.2; show g71.cap = _; omega⟩, by rw [outW_take x k (by omega), List.map_append]; exact h.sub (List.sublist_cons_self _ _) (fun _ h => h)⟩)
    ·(try simp only [decide_eq_true_eq, decide_eq_false_iff_not, Bool.not_eq_true', Bool.not_eq_false', Bool.not_not, Int.not_lt, Int.not_le] at hc56)
     refine Cx (Xc (Xc (Xe ?_)))
     obtain rfl : k = 8 := by omega
     obtain ⟨b9, rfl⟩ : ∃ b, ob = some b := by rcases hob with h | h; omega; exact h
     rw [List.take_of_length_le (by omega)]
     refine Xa (Cq (Cg (Km rfl ?_)))
     refine Kq rfl (b2s (l := outW x) rfl rfl (by first | exact .here | exact .t1 | exact .t2 | exact .t3 | exact .t4 | exact .t5 | exact .t6 | exact .t7) u128 u5 u9 ?_ ?_) ?_
     ·simp [outW_len, hx]
     ·simp [outW_len, hx]
     refine Ka rfl (Nn (Xa (Ce ?_)))
     refine WX.ret1 rfl rfl fun w' hS => ⟨by rw [hfin], hS.below⟩
theorem sha_len (l : List UInt8) : (sha l).length = 32 := by
 have : ∀ (n : Nat) (x : List W) (m : List UInt8), x.length = 8 → (chunks n x m).length = 8 := by
  intro n
  induction n with
  | zero => intro x m h; exact h
  | succ n ih => intro x m h; exact ih _ _ (compress_len _ _ h)
 rw [sha, outW_len, this _ _ _ rfl]
theorem keyOf_len (key : List UInt8) : (keyOf key).length ≤ 64 := by
 unfold keyOf; split
 ·rw [sha_len]; omega
 ·omega
theorem right_ok (x : W) (n : Nat) (h0 : 0 < n) (h : n < 32) (w : World) : Cw 262 #[u32 x, .int .i64 (n : Int)] w (u32 (rr x n)) := by
 refine enter (S := St (fun _ => True) w [] []) (L := [(0, u32 x), (1, .int .i64 (n : Int))]) Tryz.func262 rfl Tryz.ntmps262 rfl (Ac rfl (Ac rfl (An _))) (St.start (fun _ _ => trivial) (by simp)) ?_
 refine Cq (Cg (Ka rfl (Nn (Xa (Cq ?_)))))
 refine WC.mix [0, 0, 0, 0, 0, 0, 0, 0, 0] (by kernel_rfl) (by kernel_rfl) (fun w h => h.draw) ?_
 refine WM.r rfl rfl rfl (Rm rfl rfl) ?_
 refine WM.r rfl rfl rfl (Rm rfl rfl) ?_
 refine WM.r rfl rfl rfl (rd_shr rfl rfl rfl ?_) ?_
 ·first | decide | omega
 refine WM.set 7 rfl (v' := u32 (x >>> n)) (congrArg (Value.int .u32) (by rw [Int.toNat_natCast, show min n IntKind.u32.bits = n by simp [IntKind.bits]; omega, shr_W])) ?_
 refine WM.r rfl rfl rfl (Rm rfl rfl) ?_
 refine WM.r rfl rfl rfl (Rm rfl rfl) ?_
 first
  | (refine WM.r rfl rfl rfl (rd_sub64ln rfl rfl rfl ?_) ?_; focus (omega))
  | (refine WM.r rfl rfl rfl (rd_sub64 rfl rfl rfl ?_) ?_; focus (omega))
 refine WM.r rfl rfl rfl (rd_shl rfl rfl rfl ?_) ?_
 ·first | decide | omega
 refine WM.set 11 rfl (v' := u32 (x <<< (32 - n))) (congrArg (Value.int .u32) (by rw [Int.toNat_natCast, show min (32 - n) IntKind.u32.bits = 32 - n by simp [IntKind.bits], shl_W _ _ (by omega)])) ?_
 refine WM.r rfl rfl rfl (rdW_or rfl rfl rfl) ?_
 refine WM.r rfl rfl rfl (Ra rfl rfl) ?_
 refine WM.nil ?_
 refine Xa (Ce ?_)
 exact WX.ret1 rfl rfl fun w' hS => ⟨rfl, hS.below⟩
theorem right_lit (x : W) (n : Nat) (h0 : 0 < n) (h : n < 32) (w : World) : Cw 262 #[u32 x, .int .i64 (@OfNat.ofNat Int n instOfNat)] w (u32 (rr x n)) := right_ok x n h0 h w
theorem rconst_ok (ok : Nat → Prop) (w : World) (hok : ∀ b, w.heap.size ≤ b → ok b) : Calls Tryz.prog 261 #[] w fun e w' => ∃ b : Nat, e = .returned (.slice (some ⟨b, 0, none⟩) 64 64) ∧ Below w.heap.size w w' ∧ ∀ x ∈ [Fact.sl (some ⟨b, 0, none⟩) (KK.map u32)], x.holds ok w' := by
 refine enter (S := St ok w [] []) (L := []) Tryz.func261 rfl Tryz.ntmps261 rfl (An _) (St.start hok (by simp)) ?_
 refine Cq (Cg (Ka rfl (Nn (Xa (Cq (Cg ?_))))))
 refine Kh rfl (og_bs rfl rfl u206 (cs := KK.map u32) (fun w => by kernel_rfl)) ?_
 intro b1
 refine Ka rfl (Nn (Xa (Ce ?_)))
 refine WX.ret1 rfl rfl fun w' hS => ⟨b1, rfl, hS.below, ?_⟩
 have h2 := (st_freeze (sp := []) (by rw [List.append_nil]; exact hS) : St ok w [] [Fact.sl (some ⟨b1, 0, none⟩) (KK.map u32)] w')
 intro x hx; simp only [List.mem_singleton] at hx; subst hx; exact Fact.mono _ (fun _ hb => hb.1) (h2.holds (k := 0) rfl)
theorem len8_drop (M q : Nat) (hq : q ≤ 7) : (len8 M).drop (7 - q) = byteAt M q :: (len8 M).drop (8 - q) := by
 have : q = 0 ∨ q = 1 ∨ q = 2 ∨ q = 3 ∨ q = 4 ∨ q = 5 ∨ q = 6 ∨ q = 7 := by omega
 rcases this with rfl | rfl | rfl | rfl | rfl | rfl | rfl | rfl <;> rfl
theorem len8_set (M q : Nat) (hq : q ≤ 7) : ((List.replicate (8 - q) 0 ++ (len8 M).drop (8 - q)).map B).set (7 - q) (B (byteAt M q)) = (List.replicate (8 - (q + 1)) 0 ++ (len8 M).drop (8 - (q + 1))).map B := by
 rw [← List.map_set]
 congr 1
 rw [show 8 - (q + 1) = 7 - q by omega, len8_drop M q hq, show 8 - q = (7 - q) + 1 by omega, List.replicate_succ', List.append_assoc, List.set_append_right _ _ (by simp)]
 simp
theorem byte_mod (M q : Nat) : ((M / 256 ^ q % 256 : Nat) : Int) = ((byteAt M q).toNat : Int) := by
 rw [byteAt, UInt8.toNat_ofNat', show (2 : Nat) ^ (8 * q) = 256 ^ q by rw [Nat.pow_mul]]
 omega
theorem padded_ok (l : List UInt8) (hl : l.length ≤ 1000000) (w : World) :
  Cw 250 #[.string (S l)] w (.string (S (pad l))) := by
 have hz : zeros l.length = (119 - l.length % 64) % 64 := rfl
 refine enter (S := St (fun _ => True) w [] []) (L := [(0, .string (S l))]) Tryz.func250 rfl Tryz.ntmps250 rfl (Ac rfl (An _)) (St.start (fun _ _ => trivial) (by simp)) ?_
 refine Cq (Cg (Ka rfl (Nn (Xa (Cq (Cg (Km rfl (Kq rfl (rd_slen rfl rfl u9) (Ka rfl (Nn (Xa (Cq (Cg (Km rfl ?_))))))))))))))
 refine Kq rfl (rd_cat (b := [128]) rfl rfl rfl (by simp; omega)) ?_
 refine Ka rfl (Nn (Xa (Cq (Cb ?_))))
 refine WC.loop (σ := Nat) (fun j => [(0, .string (S (l ++ [128] ++ List.replicate j 0))), (3, .int .i64 (l.length : Int))]) (fun j w' => j ≤ zeros l.length ∧ St (fun _ => True) w [] [] w') (fun j => zeros l.length - j) 0 (by repeat (first | exact S0 _ | refine Sc (by simp; rfl) ?_ | refine Sc rfl ?_)) (fun w' h => ⟨by omega, h⟩) ?_
 intro j; refine WC.pu ?_; intro hj
 have hlen : (l ++ [128] ++ List.replicate j 0).length = l.length + 1 + j := by simp; omega
 refine Cq (Cq (Cg (Km rfl (Kq rfl (rd_slen rfl rfl u9) ?_))))
 first
  | (refine Kq rfl (rd_rem64nl rfl rfl rfl ?_) ?_; focus (omega))
  | (refine Kq rfl (rd_rem64 rfl rfl rfl ?_) ?_; focus (omega))
 refine Kq rfl (rd_neq rfl rfl rfl) (Nn (Xa ?_))
 refine Cd rfl (fun hc14 => ?_) (fun hc14 => ?_)
 ·(try simp only [decide_eq_true_eq, decide_eq_false_iff_not, Bool.not_eq_true', Bool.not_eq_false', Bool.not_not, Int.not_lt, Int.not_le] at hc14)
  refine Ck (Xa (Cb (Cg (Km rfl ?_))))
  refine Kq rfl (rd_cat (b := [0]) rfl rfl rfl (by rw [hlen]; simp; omega)) ?_
  refine Ka rfl (Nn (Xd ?_))
  exact WX.loop (j + 1) (by omega) (by repeat (first | exact S0 _ | refine Sc rfl ?_ | refine Sc (by rw [List.replicate_succ', ← List.append_assoc]; rfl) ?_)) (fun w' h => ⟨by omega, h⟩)
 ·(try simp only [decide_eq_true_eq, decide_eq_false_iff_not, Bool.not_eq_true', Bool.not_eq_false', Bool.not_not, Int.not_lt, Int.not_le] at hc14)
  refine Cx (Xc (Xc (Xe ?_)))
  obtain rfl : j = zeros l.length := by omega
  refine Xa (Cq (Cg ?_))
  refine Kh rfl (og_mk rfl rfl rfl u128 (by kernel_rfl : _ = some (some (.int .u8 0), 1, 1)) rfl ?_ (by (try simp only [Int.toNat_natCast, Nat.mul_one, Nat.zero_add, Nat.add_zero, Nat.zero_mul, Int.reduceToNat, Nat.reduceAdd, Nat.reduceMul, Nat.reduceSub, Nat.sub_zero]); rfl) (by (try simp only [Int.toNat_natCast, Nat.mul_one, Nat.zero_add, Nat.add_zero, Nat.zero_mul, Int.reduceToNat, Nat.reduceAdd, Nat.reduceMul, Nat.reduceSub, Nat.sub_zero]); rfl)) ?_
  ·decide
  intro b17
  refine Ka rfl (Nn (Xa (Cq (Cg (Km rfl (Kq rfl (rd_conv rfl rfl u3 u67) (Kq rfl (rd_mul rfl rfl rfl) ?_)))))))
  refine Ns 20 rfl (v' := .int .u64 ((8 * l.length / 256 ^ 0 : Nat) : Int)) (congrArg (Value.int .u64) (by rw [IntKind.wrap_u64, IntKind.wrap_u64, Nat.pow_zero, Nat.div_one]; omega)) ?_
  refine Ka rfl (Nn (Xa (Cq (Cq (Cg (Ka rfl (Nn (Xa (Cb ?_)))))))))
  refine WC.loop (σ := Nat) (fun q => [(0, .string (S (l ++ [128] ++ List.replicate (zeros l.length) 0))), (4, .slice (some ⟨b17, 0, none⟩) 8 8), (5, .int .u64 ((8 * l.length / 256 ^ q : Nat) : Int)), (6, .int .i64 (7 - (q : Int)))]) (fun q w' => q ≤ 8 ∧ St (fun _ => True) w [⟨some b17, (List.replicate (8 - q) 0 ++ (len8 (8 * l.length)).drop (8 - q)).map B, 5⟩] [] w') (fun q => 8 - q) 0 (by repeat (first | exact S0 _ | refine Sc rfl ?_)) (fun w' h => ⟨by omega, h⟩) ?_
  intro q; refine WC.pu ?_; intro hq
  have hdv : 8 * l.length / 256 ^ q ≤ 8 * l.length := Nat.div_le_self _ _
  refine Cq (Cq (Cg (Km rfl (Kq rfl (rd_geq rfl rfl rfl) (Nn (Xa ?_))))))
  refine Cd rfl (fun hc22 => ?_) (fun hc22 => ?_)
  ·(try simp only [decide_eq_true_eq, decide_eq_false_iff_not, Bool.not_eq_true', Bool.not_eq_false', Bool.not_not, Int.not_lt, Int.not_le] at hc22)
   refine Ck (Xa (Cq (Cb (Cq (Cg (Km rfl (Km rfl (Km rfl (Kq rfl (rd_remN rfl rfl rfl (by decide)) (Kq rfl (rd_conv rfl rfl u67 u5) ?_))))))))))
   refine Ns 29 rfl (v' := B (byteAt (8 * l.length) q)) (congrArg (Value.int .u8) (by rw [byte_mod, IntWalk.u8_in _ (by have := (byteAt (8 * l.length) q).toNat_lt; omega)])) ?_
   refine Kq rfl (rd_ia rfl rfl rfl u128 (by kernel_rfl : _ = some 1) (by omega) (q := 7 - q) (by omega)) ?_
   refine Ng rfl rfl (st rfl rfl rfl (by first | exact .here | exact .t1 | exact .t2 | exact .t3 | exact .t4 | exact .t5 | exact .t6 | exact .t7) (by kernel_rfl) rfl ?_ rfl) ?_
   ·simp [len8]; omega
   intro _
   refine Nn (Xa (Cg (Km rfl ?_)))
   refine Kq rfl (rd_quoN rfl rfl rfl (by decide) ?_) ?_
   ·(have h9 := hdv; generalize 8 * l.length / 256 ^ q = z at h9 ⊢; exact IntWalk.u64_in _ ⟨by omega, by omega⟩)
   refine Ns 32 rfl (v' := .int .u64 ((8 * l.length / 256 ^ (q + 1) : Nat) : Int)) (by rw [Nat.pow_succ, ← Nat.div_div_eq_div_mul]) ?_
   refine Ka rfl (Nn (Xd (Xa (Cg (Km rfl ?_)))))
   first
    | (refine Kq rfl (rd_sub64nl rfl rfl rfl ?_) ?_; focus (omega))
    | (refine Kq rfl (rd_sub64 rfl rfl rfl ?_) ?_; focus (omega))
   refine Ka rfl (Nn ?_)
   exact WX.loop (q + 1) (by omega) (by repeat (first | exact S0 _ | refine Sc rfl ?_ | refine Sc (by show some (Value.int _ _) = some (Value.int _ _); congr 2; omega) ?_)) (fun w' h => ⟨by omega, by rw [len8_set (8 * l.length) q (by omega)] at h; exact h⟩)
  ·(try simp only [decide_eq_true_eq, decide_eq_false_iff_not, Bool.not_eq_true', Bool.not_eq_false', Bool.not_not, Int.not_lt, Int.not_le] at hc22)
   refine Cx (Xc (Xc (Xe ?_)))
   obtain rfl : q = 8 := by omega
   refine Xa (Cq (Cg (Km rfl (Km rfl ?_))))
   refine Kq rfl (b2s (l := len8 (8 * l.length)) rfl rfl (by first | exact .here | exact .t1 | exact .t2 | exact .t3 | exact .t4 | exact .t5 | exact .t6 | exact .t7) u128 u5 u9 ?_ ?_) ?_
   ·rfl
   ·rfl
   refine Kq rfl (rd_cat rfl rfl rfl ?_) ?_
   ·simp [len8]; omega
   refine Ka rfl (Nn (Xa (Ce ?_)))
   exact WX.ret1 rfl rfl fun w' hS => ⟨rfl, hS.below⟩
theorem rsched_ok (bs : List UInt8) (hbs : bs.length = 64) (ok : Nat → Prop) (w : World) (hok : ∀ b, w.heap.size ≤ b → ok b) :
  Calls Tryz.prog 260 #[.string (S bs)] w fun e w' => ∃ b : Nat, e = .returned (.slice (some ⟨b, 0, none⟩) 64 64) ∧ Below w.heap.size w w' ∧ ∀ x ∈ [Fact.sl (some ⟨b, 0, none⟩) ((sched 48 (words bs)).map u32)], x.holds ok w' := by
 have hwl := words_len 16 bs hbs
 refine enter (S := St ok w [] []) (L := [(0, .string (S bs))]) Tryz.func260 rfl Tryz.ntmps260 rfl (Ac rfl (An _)) (St.start hok (by simp)) ?_
 refine Cq (Cg (Ka rfl (Nn (Xa (Cq (Cg ?_))))))
 refine Kh rfl (og_mk rfl rfl rfl u206 (by kernel_rfl : _ = some (some (.int .u32 0), 1, 4)) rfl ?_ (by (try simp only [Int.toNat_natCast, Nat.mul_one, Nat.zero_add, Nat.add_zero, Nat.zero_mul, Int.reduceToNat, Nat.reduceAdd, Nat.reduceMul, Nat.reduceSub, Nat.sub_zero]); rfl) (by (try simp only [Int.toNat_natCast, Nat.mul_one, Nat.zero_add, Nat.add_zero, Nat.zero_mul, Int.reduceToNat, Nat.reduceAdd, Nat.reduceMul, Nat.reduceSub, Nat.sub_zero]); rfl)) ?_
 ·decide
 intro b11
 refine Ka rfl (Nn (Xa (Cq (Cq (Cg (Ka rfl (Nn (Xa (Cb ?_)))))))))
 refine WC.loop (σ := Nat) (fun k => [(0, .string (S bs)), (3, .slice (some ⟨b11, 0, none⟩) 64 64), (4, .int .i64 (k : Int))]) (fun k w' => k ≤ 16 ∧ St ok w [⟨some b11, ((words bs).take k).map u32 ++ List.replicate (64 - k) (u32 0), 240⟩] [] w') (fun k => 16 - k) 0 (by repeat (first | exact S0 _ | refine Sc rfl ?_)) (fun w' h => ⟨by omega, h⟩) ?_
 intro k; refine WC.pu ?_; intro hk
 refine Cq (Cq (Cg (Km rfl (Kq rfl (rd_lss rfl rfl rfl) (Nn (Xa ?_))))))
 refine Cd rfl (fun hc13 => ?_) (fun hc13 => ?_)
 ·(try simp only [decide_eq_true_eq, decide_eq_false_iff_not, Bool.not_eq_true', Bool.not_eq_false', Bool.not_not, Int.not_lt, Int.not_le] at hc13)
  obtain ⟨c0, hc0⟩ : ∃ c, bs[4 * k]? = some c := ⟨_, List.getElem?_eq_getElem (by omega)⟩
  obtain ⟨c1, hc1⟩ : ∃ c, bs[4 * k + 1]? = some c := ⟨_, List.getElem?_eq_getElem (by omega)⟩
  obtain ⟨c2, hc2⟩ : ∃ c, bs[4 * k + 2]? = some c := ⟨_, List.getElem?_eq_getElem (by omega)⟩
  obtain ⟨c3, hc3⟩ : ∃ c, bs[4 * k + 3]? = some c := ⟨_, List.getElem?_eq_getElem (by omega)⟩
  have hwk := words_get k bs c0 c1 c2 c3 hc0 hc1 hc2 hc3
  refine Ck (Xa (Cq (Cb (Cq (Cg (Ka rfl (Nn (Xa (Cb ?_)))))))))
  refine WC.loop (σ := Nat) (fun j => [(0, .string (S bs)), (3, .slice (some ⟨b11, 0, none⟩) 64 64), (4, .int .i64 (k : Int)), (5, .int .i64 (j : Int))]) (fun j w' => j ≤ 4 ∧ St ok w [⟨some b11, (((words bs).take k).map u32 ++ List.replicate (64 - k) (u32 0)).set k (u32 (part4 c0 c1 c2 c3 j)), 240⟩] [] w') (fun j => 4 - j) 0 (by repeat (first | exact S0 _ | refine Sc rfl ?_)) (fun w' h => ⟨by omega, by rw [show part4 c0 c1 c2 c3 0 = 0 from rfl, set_zero4 (words bs) hwl k (by omega)]; exact h⟩) ?_
  intro j; refine WC.pu ?_; intro hj
  refine Cq (Cq (Cg (Km rfl (Kq rfl (rd_lss rfl rfl rfl) (Nn (Xa ?_))))))
  refine Cd rfl (fun hc17 => ?_) (fun hc17 => ?_)
  ·(try simp only [decide_eq_true_eq, decide_eq_false_iff_not, Bool.not_eq_true', Bool.not_eq_false', Bool.not_not, Int.not_lt, Int.not_le] at hc17)
   have hcj : bs[4 * k + j]? = some (pick4 c0 c1 c2 c3 j) := by
    have : j = 0 ∨ j = 1 ∨ j = 2 ∨ j = 3 := by omega
    rcases this with rfl | rfl | rfl | rfl
    ·exact hc0
    ·exact hc1
    ·exact hc2
    ·exact hc3
   refine Ck (Xa (Cq (Cb ?_)))
   refine WC.mix [0, 0, 0, 0, 0, 0, 0, 0, 0, 0, 0, 0, 0, 0, 0, 0, 2] (by kernel_rfl) (by kernel_rfl) (fun w h => h.draw) ?_
   refine WM.r rfl rfl rfl (Rm rfl rfl) ?_
   refine WM.r rfl rfl rfl (Rm rfl rfl) ?_
   refine WM.r rfl rfl rfl (Rm rfl rfl) ?_
   refine WM.r rfl rfl rfl (Rm rfl rfl) ?_
   refine WM.r rfl rfl rfl (Ja rfl rfl rfl u206 (by kernel_rfl : _ = some 1) ?_) ?_
   ·omega
   refine WM.r rfl rfl rfl (ld rfl rfl (by first | exact .here | exact .t1 | exact .t2 | exact .t3 | exact .t4 | exact .t5 | exact .t6 | exact .t7) u240 rfl (by rw [List.getElem?_set_self (by simp; omega)])) ?_
   refine WM.r rfl rfl rfl (rd_mul rfl rfl rfl) ?_
   refine WM.set 26 rfl (v' := u32 (part4 c0 c1 c2 c3 j * 256)) (congrArg (Value.int .u32) (mul_W _ 256)) ?_
   refine WM.r rfl rfl rfl (Rm rfl rfl) ?_
   refine WM.r rfl rfl rfl (Rm rfl rfl) ?_
   first
    | (refine WM.r rfl rfl rfl (rd_mul64ln rfl rfl rfl ?_) ?_; focus (omega))
    | (refine WM.r rfl rfl rfl (rd_mul64 rfl rfl rfl ?_) ?_; focus (omega))
   refine WM.r rfl rfl rfl (Rm rfl rfl) ?_
   first
    | (refine WM.r rfl rfl rfl (rd_add64n rfl rfl rfl ?_) ?_; focus (omega))
    | (refine WM.r rfl rfl rfl (rd_add64 rfl rfl rfl ?_) ?_; focus (omega))
   refine WM.r rfl rfl rfl (rd_sidx rfl rfl rfl u9 ?_ (by rw [Int.toNat_natCast]; exact hcj)) ?_
   ·omega
   refine WM.r rfl rfl rfl (rd_conv rfl rfl u5 u240) ?_
   refine WM.set 33 rfl (v' := u32 (BitVec.ofNat 32 (pick4 c0 c1 c2 c3 j).toNat)) (congrArg (Value.int .u32) (u8_W _)) ?_
   refine WM.r rfl rfl rfl (rdW_add rfl rfl rfl) ?_
   refine WM.r rfl rfl rfl (Ja rfl rfl rfl u206 (by kernel_rfl : _ = some 1) ?_) ?_
   ·omega
   refine WM.h0 rfl rfl (st rfl rfl rfl (by first | exact .here | exact .t1 | exact .t2 | exact .t3 | exact .t4 | exact .t5 | exact .t6 | exact .t7) (by kernel_rfl) rfl ?_ rfl) ?_
   ·simp; omega
   intro _
   refine WM.nil ?_
   refine Xd (Xa (Cg (Km rfl ?_)))
   first
    | (refine Kq rfl (Rz rfl rfl rfl ?_) ?_; focus (omega))
    | (refine Kq rfl (rd_add64 rfl rfl rfl ?_) ?_; focus (omega))
   refine Ka rfl (Nn ?_)
   exact WX.loop (j + 1) (by omega) (by repeat (first | exact S0 _ | refine Sc rfl ?_)) (fun w' h => ⟨by omega, by rw [List.set_set] at h; rw [part4_succ c0 c1 c2 c3 j (by omega)]; exact h⟩)
  ·(try simp only [decide_eq_true_eq, decide_eq_false_iff_not, Bool.not_eq_true', Bool.not_eq_false', Bool.not_not, Int.not_lt, Int.not_le] at hc17)
   refine Cx (Xc (Xc (Xe ?_)))
   obtain rfl : j = 4 := by omega
   refine Xd (Xa (Cg (Km rfl ?_)))
   first
    | (refine Kq rfl (Rz rfl rfl rfl ?_) ?_; focus (omega))
    | (refine Kq rfl (rd_add64 rfl rfl rfl ?_) ?_; focus (omega))
   refine Ka rfl (Nn ?_)
   exact WX.loop (k + 1) (by omega) (by repeat (first | exact S0 _ | refine Sc rfl ?_)) (fun w' h => ⟨by omega, by rw [part4_word, fill_set (words bs) u32 (u32 0) 64 k _ (by omega) hwk] at h; exact h⟩)
 ·(try simp only [decide_eq_true_eq, decide_eq_false_iff_not, Bool.not_eq_true', Bool.not_eq_false', Bool.not_not, Int.not_lt, Int.not_le] at hc13)
  refine Cx (Xc (Xc (Xe ?_)))
  obtain rfl : k = 16 := by omega
  refine Xa (Cq (Cq (Cg (Ka rfl (Nn (Xa (Cb ?_)))))))
  refine WC.loop (σ := Nat) (fun j => [(3, .slice (some ⟨b11, 0, none⟩) 64 64), (6, .int .i64 ((16 + j : Nat) : Int))]) (fun j w' => j ≤ 48 ∧ St ok w [⟨some b11, (sched j (words bs)).map u32 ++ List.replicate (48 - j) (u32 0), 240⟩] [] w') (fun j => 48 - j) 0 (by repeat (first | exact S0 _ | refine Sc rfl ?_)) (fun w' h => ⟨by omega, by rw [List.take_of_length_le (by omega)] at h; exact h⟩) ?_
  intro j; refine WC.pu ?_; intro hj
  refine Cq (Cq (Cg (Km rfl (Kq rfl (rd_lss rfl rfl rfl) (Nn (Xa ?_))))))
  refine Cd rfl (fun hc37 => ?_) (fun hc37 => ?_)
  ·(try simp only [decide_eq_true_eq, decide_eq_false_iff_not, Bool.not_eq_true', Bool.not_eq_false', Bool.not_not, Int.not_lt, Int.not_le] at hc37)
   have hsl := sched_len j (words bs)
   rw [hwl] at hsl
   refine Ck (Xa (Cq (Cb (Cq ?_))))
   refine WC.mix [0, 0, 0, 0, 0, 0, 0, 0, 0, 0, 0, 0] (by kernel_rfl) (by kernel_rfl) (fun w h => h.draw) ?_
   refine WM.r rfl rfl rfl (Rm rfl rfl) ?_
   refine WM.r rfl rfl rfl (Rm rfl rfl) ?_
   first
    | (refine WM.r rfl rfl rfl (rd_sub64nl rfl rfl rfl ?_) ?_; focus (omega))
    | (refine WM.r rfl rfl rfl (rd_sub64 rfl rfl rfl ?_) ?_; focus (omega))
   refine WM.r rfl rfl rfl (Ja rfl rfl rfl u206 (by kernel_rfl : _ = some 1) ?_) ?_
   ·omega
   refine WM.r rfl rfl rfl (ld rfl rfl (by first | exact .here | exact .t1 | exact .t2 | exact .t3 | exact .t4 | exact .t5 | exact .t6 | exact .t7) u240 rfl (by exact map_cell _ u32 _ _ _ (get_getD (sched j (words bs)) _ 0 (by omega)))) ?_
   refine WM.r rfl rfl rfl (Rm rfl rfl) ?_
   refine WM.r rfl rfl rfl (Rm rfl rfl) ?_
   first
    | (refine WM.r rfl rfl rfl (rd_sub64nl rfl rfl rfl ?_) ?_; focus (omega))
    | (refine WM.r rfl rfl rfl (rd_sub64 rfl rfl rfl ?_) ?_; focus (omega))
   refine WM.r rfl rfl rfl (Ja rfl rfl rfl u206 (by kernel_rfl : _ = some 1) ?_) ?_
   ·omega
   refine WM.r rfl rfl rfl (ld rfl rfl (by first | exact .here | exact .t1 | exact .t2 | exact .t3 | exact .t4 | exact .t5 | exact .t6 | exact .t7) u240 rfl (by exact map_cell _ u32 _ _ _ (get_getD (sched j (words bs)) _ 0 (by omega)))) ?_
   refine WM.r rfl rfl rfl (Ra rfl rfl) ?_
   refine WM.r rfl rfl rfl (Ra rfl rfl) ?_
   refine WM.nil ?_
   refine Xa (Cq (Cg (Km rfl ?_)))
   refine Ku rfl (Oc rfl rfl (Kv fun w _ => right_lit _ _ (by decide) (by decide) w)) ?_
   refine Km rfl ?_
   refine Ku rfl (Oc rfl rfl (Kv fun w _ => right_lit _ _ (by decide) (by decide) w)) ?_
   refine Kq rfl (rdW_xor rfl rfl rfl) (Km rfl (Kq rfl (rdW_shr rfl rfl rfl (by decide)) (Kq rfl (rdW_xor rfl rfl rfl) (Ka rfl (Nn (Xa (Cq (Cg (Km rfl ?_)))))))))
   refine Ku rfl (Oc rfl rfl (Kv fun w _ => right_lit _ _ (by decide) (by decide) w)) ?_
   refine Km rfl ?_
   refine Ku rfl (Oc rfl rfl (Kv fun w _ => right_lit _ _ (by decide) (by decide) w)) ?_
   refine Kq rfl (rdW_xor rfl rfl rfl) (Km rfl (Kq rfl (rdW_shr rfl rfl rfl (by decide)) (Kq rfl (rdW_xor rfl rfl rfl) (Ka rfl (Nn (Xa ?_))))))
   refine WC.mix [0, 0, 0, 0, 0, 0, 0, 0, 0, 0, 0, 0, 0, 0, 0, 0, 0, 0, 2] (by kernel_rfl) (by kernel_rfl) (fun w h => h.draw) ?_
   refine WM.r rfl rfl rfl (Rm rfl rfl) ?_
   refine WM.r rfl rfl rfl (Rm rfl rfl) ?_
   refine WM.r rfl rfl rfl (Rm rfl rfl) ?_
   refine WM.r rfl rfl rfl (Rm rfl rfl) ?_
   first
    | (refine WM.r rfl rfl rfl (rd_sub64nl rfl rfl rfl ?_) ?_; focus (omega))
    | (refine WM.r rfl rfl rfl (rd_sub64 rfl rfl rfl ?_) ?_; focus (omega))
   refine WM.r rfl rfl rfl (Ja rfl rfl rfl u206 (by kernel_rfl : _ = some 1) ?_) ?_
   ·omega
   refine WM.r rfl rfl rfl (ld rfl rfl (by first | exact .here | exact .t1 | exact .t2 | exact .t3 | exact .t4 | exact .t5 | exact .t6 | exact .t7) u240 rfl (by exact map_cell _ u32 _ _ _ (get_getD (sched j (words bs)) _ 0 (by omega)))) ?_
   refine WM.r rfl rfl rfl (Rm rfl rfl) ?_
   refine WM.r rfl rfl rfl (rdW_add rfl rfl rfl) ?_
   refine WM.r rfl rfl rfl (Rm rfl rfl) ?_
   refine WM.r rfl rfl rfl (Rm rfl rfl) ?_
   first
    | (refine WM.r rfl rfl rfl (rd_sub64nl rfl rfl rfl ?_) ?_; focus (omega))
    | (refine WM.r rfl rfl rfl (rd_sub64 rfl rfl rfl ?_) ?_; focus (omega))
   refine WM.r rfl rfl rfl (Ja rfl rfl rfl u206 (by kernel_rfl : _ = some 1) ?_) ?_
   ·omega
   refine WM.r rfl rfl rfl (ld rfl rfl (by first | exact .here | exact .t1 | exact .t2 | exact .t3 | exact .t4 | exact .t5 | exact .t6 | exact .t7) u240 rfl (by exact map_cell _ u32 _ _ _ (get_getD (sched j (words bs)) _ 0 (by omega)))) ?_
   refine WM.r rfl rfl rfl (rdW_add rfl rfl rfl) ?_
   refine WM.r rfl rfl rfl (Rm rfl rfl) ?_
   refine WM.r rfl rfl rfl (rdW_add rfl rfl rfl) ?_
   refine WM.set 82 rfl (v' := u32 (nextW (sched j (words bs)))) (by unfold nextW; rw [hsl]; rfl) ?_
   refine WM.r rfl rfl rfl (Ja rfl rfl rfl u206 (by kernel_rfl : _ = some 1) ?_) ?_
   ·omega
   refine WM.h0 rfl rfl (st rfl rfl rfl (by first | exact .here | exact .t1 | exact .t2 | exact .t3 | exact .t4 | exact .t5 | exact .t6 | exact .t7) (by kernel_rfl) rfl ?_ rfl) ?_
   ·simp [hsl]; omega
   intro _
   refine WM.nil ?_
   refine Xd (Xa (Cg (Km rfl ?_)))
   first
    | (refine Kq rfl (Rz rfl rfl rfl ?_) ?_; focus (omega))
    | (refine Kq rfl (rd_add64 rfl rfl rfl ?_) ?_; focus (omega))
   refine Ka rfl (Nn ?_)
   exact WX.loop (j + 1) (by omega) (by repeat (first | exact S0 _ | refine Sc rfl ?_)) (fun w' h => ⟨by omega, by rw [sched_set j (words bs) hwl (by omega)] at h; exact h⟩)
  ·(try simp only [decide_eq_true_eq, decide_eq_false_iff_not, Bool.not_eq_true', Bool.not_eq_false', Bool.not_not, Int.not_lt, Int.not_le] at hc37)
   refine Cx (Xc (Xc (Xe ?_)))
   obtain rfl : j = 48 := by omega
   rw [Nat.sub_self, List.replicate_zero]
   refine Xa (Cq (Cg (Km rfl (Ka rfl (Nn (Xa (Ce ?_)))))))
   refine WX.ret1 rfl rfl fun w' hS => ⟨b11, rfl, hS.below, ?_⟩
   have h2 := st_freeze hS
   intro x hx; simp only [List.mem_singleton] at hx; subst hx; exact Fact.mono _ (fun _ hb => hb.1) (h2.holds (k := 0) rfl)
end Go.Proofs.YtmkghgoibnncbaaGreatDoor
