/-
  Parts of the walk: Fml Cfn Sha Hash1 Hash2 Hash3 Ref1 Ref2 Mac.
-/
import Derived.Test.YtchonigdjamphaaGreatDoorQ12
import Derived.Test.YtchonigdjamphaaGreatDoorProg
import Derived.Laws.BitsAllLaws
namespace Go.Proofs.YtchonigdjamphaaGreatDoor
open Go.RowKit
set_option linter.unusedSimpArgs false
set_option linter.unusedVariables false
set_option maxHeartbeats 600000
set_option maxRecDepth 20000
abbrev fm0 : Value := .agg #[.slice none 0 0]
abbrev cl0 : Value := .agg #[.slice none 0 0, .slice none 0 0]
theorem mB {w : World} :
  Cw 162 #[fm0] w (.tuple #[.int .i64 0, .bool true]) := by
 refine En [] [(0, fm0)] Tryz.func162 I Tryz.ntmps162 I (Ac I (An _)) Fn (Eq ?_)
 intro b1
 refine Ka I (GI ?_); refine H9 ?_
 refine Yo I u53 (Yi I (Nt (Cd I (fun hc11 => ?_) (fun hc11 => by exfalso; (try simp only [sB] at hc11); omega))))
 (try simp only [sB] at hc11)
 refine Cs (Ka I (le ?_)); refine Xb ?_
 exact IF
theorem o6 {w : World} :
  Cw 137 #[fm0, .int .i64 0] w (.int .i64 0) := by
 refine En [] [(0, fm0), (1, .int .i64 0)] Tryz.func137 I Tryz.ntmps137 I (Ac I (Ac I (An _))) Fn (Eq ?_)
 intro b2
 refine GI ?_; refine H9 ?_
 refine Yo I u53 (Yg I (Km I (Ns 11 I (v' := .bool false) (by rfl) ?_)))
 refine Km I (Yl I (Yq I (Km I (Ns 15 I (v' := .bool false) (by rfl) ?_))))
 refine Km I (Yg I (Yq I (Ns 18 I (v' := .bool false) (by rfl) ?_)))
 refine Fx (fun _ => ?_)
 refine Ck (Xa (Cs (Kq I (lda I I .tc u55 I ?_) ?_)))
 ·kernel_rfl
 refine Kc I (fun w hS => mB) (Fs ?_); refine Cq (Cs (Km I (Yt I (Nt (Cd I (fun hc25 => by exfalso; (try simp only [sB] at hc25); (simp_all)) (fun hc25 => ?_))))))
 (try simp only [sB] at hc25)
 refine GO ?_; refine Km I (Yj I (Nt (Cd I (fun hc28 => by exfalso; (try simp only [sB] at hc28); (simp_all)) (fun hc28 => ?_))))
 (try simp only [sB] at hc28)
 refine Ck (Xa (Cs (le ?_)))
 exact Iq
theorem x7 {w : World} :
  Cw 82 #[fm0] w (.tuple #[.string (S []), .int .i64 0]) := by
 refine En [] [(0, fm0)] Tryz.func82 I Tryz.ntmps82 I (Ac I (An _)) Fn (Eq ?_)
 intro b1
 refine Ka I (Ka I (Nt (Cq (Cs (Kq I (lda I I .tc u55 I ?_) ?_)))))
 ·kernel_rfl
 refine Kc I (fun w hS => mB) (Fs ?_); refine Cs (Km I (Yt I (Km I (Ns 15 I (v' := .bool false) (by rfl) ?_))))
 refine H9 ?_
 refine Yo I u53 (Yg I (Yq I (Ns 20 I (v' := .bool false) (by rfl) ?_)))
 refine Fx (fun _ => ?_)
 refine Ck (Xa (Cq (Cs (H9 ?_))))
 refine Yo I u53 (Yi I (Nt (Cd I (fun hc24 => ?_) (fun hc24 => by exfalso; (try simp only [sB] at hc24); omega))))
 (try simp only [sB] at hc24)
 refine Cs (Ka I (le ?_)); refine Xb ?_
 exact IF
theorem uZ {a : Option Addr} {m c : Nat} {w : World} :
  Cw 145 #[fm0, .slice a m c] w (.slice none 0 0) := by
 refine En [] [(0, fm0), (1, .slice a m c)] Tryz.func145 I Tryz.ntmps145 I (Ac I (Ac I (An _))) Fn (Eq ?_)
 intro b2
 refine Ka I (Nt (Cs (GI ?_))); refine H9 ?_
 refine Yo I u53 (Yg I (Nt (Cd I (fun hc14 => by exfalso; (try simp only [sB] at hc14); (omega)) (fun hc14 => ?_))))
 (try simp only [sB] at hc14)
 refine Ck (Xa (Cq (Cs (H9 ?_))))
 refine Yo I u53 (Hq ?_); refine Cb (Lp (σ := Nat) [(1, _), (2, _), (5, _)] (fun gq => [(6, .int .i64 (-1))]) (fun gq => 0 ≤ gq) (fun gq => 0) (0) (S3 I I I) (S1 I) (by (try dsimp only); exact Af _) ?_)
 rintro u hinv1; (try dsimp only at hinv1 ⊢)
 refine Cq (Cs (Km I (Yh I (Nt (HS (fun hc24 => ?_))))))
 (try simp only [sB] at hc24)
 refine Fq ?_; refine Xa (Cs (Km I (le ?_)))
 exact Iq
theorem o8 {a : Option Addr} {c : Nat} {w : World} :
  Cw 71 #[fm0, .slice a 0 c] w (.tuple #[.slice none 0 0, .int .i64 0]) := by
 refine En [] [(0, fm0), (1, .slice a 0 c)] Tryz.func71 I Tryz.ntmps71 I (Ac I (Ac I (An _))) Fn (Eq ?_)
 intro b2
 refine Ka I (Ka I (Nt (Cq (Cs (Kq I (lda I I .tc u55 I ?_) ?_)))))
 ·kernel_rfl
 refine Km I (Yo I u95 (Kc I (fun w hS => o6) (FN ?_))); refine Yj I (Nt (Cd I (fun hc12 => by exfalso; (try simp only [sB] at hc12); (simp_all)) (fun hc12 => ?_)))
 (try simp only [sB] at hc12)
 refine Ck (Xa (Cs (Kq I (lda I I .tc u55 I ?_) ?_)))
 ·kernel_rfl
 refine Km I (Kc I (fun w hS => uZ) (Ka I (le ?_)))
 exact IF
theorem BP {a : Option Addr} {c : Nat} {w : World} :
  Cw 154 #[fm0, .slice a 0 c] w (.tuple #[.slice none 0 0, .int .i64 0]) := by
 refine En [] [(0, fm0), (1, .slice a 0 c)] Tryz.func154 I Tryz.ntmps154 I (Ac I (Ac I (An _))) Fn (Eq ?_)
 intro b2
 refine Ka I (Ka I (Nt (Cs (Kq I (lda I I .tc u55 I ?_) ?_))))
 ·kernel_rfl
 refine Km I (Kc I (fun w hS => o8) (Fs ?_)); refine Cq (Cs (Km I (Yj I (Km I (Ns 22 I (v' := .bool false) (by rfl) ?_)))))
 refine Km I (Yo I u95 (Yi I (Yq I (Ns 26 I (v' := .bool true) (by rfl) ?_))))
 refine Nt (Cd I (fun _ => ?_) (fun h => by cases h))
 refine H7 ?_; refine le ?_; refine Xb ?_
 exact IF
theorem DX {l : List Bs} {a : Option Addr} {c : Nat} {fk : FuncId} {cs : Array Value} {p : Bs → Bool} {w : World} {ok : Nat → Prop} (hF1 : (Fact.sl a (am l)).holds ok w) (hl : l.length ≤ 10000000) (hgo : ey Tryz.prog fk = true) (hfn : ∀ x ∈ l, ∀ w', Below w.heap.size w w' → Calls Tryz.prog fk (#[.string (S x)] ++ cs) w' fun e w2 => e = .returned (.bool (p x)) ∧ Below w'.heap.size w' w2) :
  Cw 235 #[.slice a l.length c, .func (.func fk) #[] cs] w (.int .i64 (ixP p l)) := by
 refine En [Fact.sl a (am l)] [(0, .slice a l.length c), (1, .func (.func fk) #[] cs)] Tryz.func235 I Tryz.ntmps235 I (Ac I (Ac I (An _))) (Fc (af hF1) Fn) (Cs (FM ?_)); refine Yo I u33 (FB ?_)
 rintro i hinv1; (try dsimp only at hinv1 ⊢)
 obtain ⟨hi, hok⟩ := hinv1
 refine ne (fun hc9 => ?_) (fun hc9 => ?_)
 ·have hil : i < l.length := by omega
  refine FO ?_; refine Km I (FN ?_); refine Km I (Km I (FW ?_))
  refine GA ?_
  refine F8 (fun hc16 => ?_) (fun hc16 => ?_)
  ·refine Cs (Km I (le ?_)); refine FE ?_; exact Iy
  ·refine Ck (Xd (Xa (Cg (Kq I (Rz I I I (by omega)) (Km I (Nn (Ly (i + 1) (by (try dsimp only); omega) (S3 I I I) (by refine (Sc ?_ (S0 _)) <;> (rfl)) ?_ (fun _ h => h)))))))); (try dsimp only); exact ⟨hil, ax hil hok (by simpa using hc16)⟩
 ·refine Fq ?_
  obtain rfl : i = l.length := by omega
  rw [Ai] at hok
  refine Xa (Cs (le ?_))
  exact IL
theorem vN {l : List Bs} {a : Option Addr} {c : Nat} {fk : FuncId} {cs : Array Value} {p : Bs → Bool} {w : World} {ok : Nat → Prop} (hF1 : (Fact.sl a (am l)).holds ok w) (hl : l.length ≤ 10000000) (hgo : ey Tryz.prog fk = true) (hfn : ∀ x ∈ l, ∀ w', Below w.heap.size w w' → Calls Tryz.prog fk (#[.string (S x)] ++ cs) w' fun e w2 => e = .returned (.bool (p x)) ∧ Below w'.heap.size w' w2) :
  Cw 172 #[.slice a l.length c, .func (.func fk) #[] cs] w (.bool (l.any p)) := by
 refine En [Fact.sl a (am l)] [(0, .slice a l.length c), (1, .func (.func fk) #[] cs)] Tryz.func172 I Tryz.ntmps172 I (Ac I (Ac I (An _))) (Fc (af hF1) Fn) (Cs (FN ?_)); refine Km I (Kc I (fun w hS => DX (l := l) (a := a) (c := c) (fk := fk) (cs := cs) (p := p) (w := w) hS.sl hl hgo (fun x hx w' hb => hfn x hx w' (hS.below.trans (hb.mono hS.below.size)))) (Yh I (le ?_)))
 exact IP
end Go.Proofs.YtchonigdjamphaaGreatDoor
namespace Go.Proofs.YtchonigdjamphaaGreatDoor
set_option linter.unusedSimpArgs false
set_option linter.unusedVariables false
set_option maxRecDepth 20000
abbrev W := BitVec 32
def rr (x : W) (n : Nat) : W := x >>> n ||| x <<< (32 - n)
def u32 (x : W) : Value := .int .u32 (x.toNat : Int)
def s0 (x : W) : W := (rr x 7 ^^^ rr x 18) ^^^ x >>> 3
def s1 (y : W) : W := (rr y 17 ^^^ rr y 19) ^^^ y >>> 10
def rH (a b c d : UInt8) : W := BitVec.ofNat 32 (a.toNat * 16777216 + b.toNat * 65536 + c.toNat * 256 + d.toNat)
def cw : List UInt8 → List W
 | a :: b :: c :: d :: r => rH a b c d :: cw r
 | _ => []
def qJ (w : List W) : W := ((w.getD (w.length - 16) 0 + s0 (w.getD (w.length - 15) 0)) + w.getD (w.length - 7) 0) + s1 (w.getD (w.length - 2) 0)
def cV : Nat → List W → List W
 | 0, w => w
 | n + 1, w => cV n w ++ [qJ (cV n w)]
def tt (e f g h k w : W) : W := (((h + ((rr e 6 ^^^ rr e 11) ^^^ rr e 25)) + ((e &&& f) ^^^ (~~~e &&& g))) + k) + w
def uu (a b c : W) : W := ((rr a 2 ^^^ rr a 13) ^^^ rr a 22) + (((a &&& b) ^^^ (a &&& c)) ^^^ (b &&& c))
def rnd (k w : W) : List W → List W
 | [a, b, c, d, e, f, g, h] => [tt e f g h k w + uu a b c, a, b, c, d + tt e f g h k w, e, f, g]
 | l => l
def fx (ks ws : List W) : Nat → List W → List W
 | 0, x => x
 | n + 1, x => rnd (ks.getD n 0) (ws.getD n 0) (fx ks ws n x)
def KK : List W := [0x428a2f98#32, 0x71374491#32, 0xb5c0fbcf#32, 0xe9b5dba5#32, 0x3956c25b#32, 0x59f111f1#32, 0x923f82a4#32, 0xab1c5ed5#32,
 0xd807aa98#32, 0x12835b01#32, 0x243185be#32, 0x550c7dc3#32, 0x72be5d74#32, 0x80deb1fe#32, 0x9bdc06a7#32, 0xc19bf174#32,
 0xe49b69c1#32, 0xefbe4786#32, 0x0fc19dc6#32, 0x240ca1cc#32, 0x2de92c6f#32, 0x4a7484aa#32, 0x5cb0a9dc#32, 0x76f988da#32,
 0x983e5152#32, 0xa831c66d#32, 0xb00327c8#32, 0xbf597fc7#32, 0xc6e00bf3#32, 0xd5a79147#32, 0x06ca6351#32, 0x14292967#32,
 0x27b70a85#32, 0x2e1b2138#32, 0x4d2c6dfc#32, 0x53380d13#32, 0x650a7354#32, 0x766a0abb#32, 0x81c2c92e#32, 0x92722c85#32,
 0xa2bfe8a1#32, 0xa81a664b#32, 0xc24b8b70#32, 0xc76c51a3#32, 0xd192e819#32, 0xd6990624#32, 0xf40e3585#32, 0x106aa070#32,
 0x19a4c116#32, 0x1e376c08#32, 0x2748774c#32, 0x34b0bcb5#32, 0x391c0cb3#32, 0x4ed8aa4a#32, 0x5b9cca4f#32, 0x682e6ff3#32,
 0x748f82ee#32, 0x78a5636f#32, 0x84c87814#32, 0x8cc70208#32, 0x90befffa#32, 0xa4506ceb#32, 0xbef9a3f7#32, 0xc67178f2#32]
def H0 : List W := [0x6a09e667#32, 0xbb67ae85#32, 0x3c6ef372#32, 0xa54ff53a#32, 0x510e527f#32, 0x9b05688c#32, 0x1f83d9ab#32, 0x5be0cd19#32]
def iw : List W → List W → List W
 | a :: x, b :: y => (a + b) :: iw x y
 | _, _ => []
def ff (x : List W) (blk : List UInt8) : List W := iw (fx KK (cV 48 (cw blk)) 64 x) x
def iq : Nat → List W → List UInt8 → List W
 | 0, x, _ => x
 | n + 1, x, m => iq n (ff x (m.take 64)) (m.drop 64)
def bt (n i : Nat) : UInt8 := UInt8.ofNat (n / 2 ^ (8 * i) % 256)
def nP (n : Nat) : List UInt8 := [bt n 7, bt n 6, bt n 5, bt n 4, bt n 3, bt n 2, bt n 1, bt n 0]
def dC (n : Nat) : Nat := (119 - n % 64) % 64
def pad (s : List UInt8) : List UInt8 := s ++ [128] ++ List.replicate (dC s.length) 0 ++ nP (8 * s.length)
def p7 (x : W) : List UInt8 := [bt x.toNat 3, bt x.toNat 2, bt x.toNat 1, bt x.toNat 0]
def nC (x : List W) : List UInt8 := x.flatMap p7
def sha (s : List UInt8) : List UInt8 := nC (iq ((pad s).length / 64) H0 (pad s))
def ee (key : List UInt8) : List UInt8 := if key.length > 64 then sha key else key
def m6 (key : List UInt8) (x : UInt8) : List UInt8 := (key ++ List.replicate (64 - key.length) 0).map (· ^^^ x)
def mac (key s : List UInt8) : List UInt8 := sha (m6 (ee key) 92 ++ sha (m6 (ee key) 54 ++ s))
theorem m7 (n : Nat) : IntKind.u32.wrap (n : Int) = ((BitVec.ofNat 32 n).toNat : Int) := by
 rw [IntKind.wrap_u32]; simp [BitVec.toNat_ofNat]
theorem EU (x y : W) : IntKind.u32.wrap ((x.toNat : Int) + (y.toNat : Int)) = ((x + y).toNat : Int) := by
 rw [IntKind.wrap_u32, BitVec.toNat_add]; omega
theorem gR (x : W) : BitVec.ofInt 32 (x.toNat : Int) = x := by
 apply BitVec.eq_of_toNat_eq; simp
theorem yO (x y : W) : bits .xor .u32 (x.toNat : Int) (y.toNat : Int) = ((x ^^^ y).toNat : Int) := by
 unfold bits
 show IntKind.u32.wrap ((BitVec.ofInt 32 (x.toNat : Int) ^^^ BitVec.ofInt 32 (y.toNat : Int)).toNat : Int) = _
 rw [gR, gR, m7]; simp
theorem ES (x y : W) : bits .and .u32 (x.toNat : Int) (y.toNat : Int) = ((x &&& y).toNat : Int) := by
 unfold bits
 show IntKind.u32.wrap ((BitVec.ofInt 32 (x.toNat : Int) &&& BitVec.ofInt 32 (y.toNat : Int)).toNat : Int) = _
 rw [gR, gR, m7]; simp
theorem xD (x y : W) : bits .or .u32 (x.toNat : Int) (y.toNat : Int) = ((x ||| y).toNat : Int) := by
 unfold bits
 show IntKind.u32.wrap ((BitVec.ofInt 32 (x.toNat : Int) ||| BitVec.ofInt 32 (y.toNat : Int)).toNat : Int) = _
 rw [gR, gR, m7]; simp
theorem EH (x : W) : bits .xor .u32 (if IntKind.u32.signed then -1 else IntKind.u32.max) (x.toNat : Int) = ((~~~x).toNat : Int) := by
 have e : (if IntKind.u32.signed then -1 else IntKind.u32.max) = ((BitVec.allOnes 32).toNat : Int) := by decide
 rw [e, yO, BitVec.allOnes_xor]
theorem ql (x : W) (n : Nat) (h : n ≤ 32) : IntKind.u32.wrap ((x.toNat : Int) * 2 ^ n) = ((x <<< n).toNat : Int) := by
 rw [IntKind.wrap_u32, BitVec.toNat_shiftLeft, Nat.shiftLeft_eq]
 have : ((2 : Int) ^ n) = ((2 ^ n : Nat) : Int) := by simp
 rw [this]; omega
theorem yP (x : W) (n : Nat) : (x.toNat : Int).fdiv (2 ^ n) = ((x >>> n).toNat : Int) := by
 rw [BitVec.toNat_ushiftRight, Nat.shiftRight_eq_div_pow]
 have : ((2 : Int) ^ n) = ((2 ^ n : Nat) : Int) := by simp
 rw [this, Dn _ (Br _)]; exact (Int.natCast_ediv _ _).symm
theorem DA (x : W) (n : Nat) (h0 : 0 < n) (h : n < 32) : bits .or .u32 (IntKind.u32.wrap ((x.toNat : Int) * 2 ^ (32 - n))) ((x.toNat : Int).fdiv (2 ^ n)) = ((rr x n).toNat : Int) := by
 rw [ql x (32 - n) (by omega), yP, xD, rr, BitVec.or_comm]
theorem ET (n : Nat) (h0 : 0 < n) (h : n < 32) : bits .and .u64 (IntKind.u64.wrap (0 - (n : Int))) 31 = 32 - (n : Int) := by
 have : ∀ k : Fin 32, 0 < k.val → bits .and .u64 (IntKind.u64.wrap (0 - (k.val : Int))) 31 = 32 - (k.val : Int) := by decide
 exact this ⟨n, h⟩ h0
theorem vd {α : Type} (l : List α) (f : α → Value) (z : Value) (n k : Nat) (x : α) (hk : k < n) (hx : l[k]? = some x) :
  ((l.take k).map f ++ List.replicate (n - k) z).set k (f x) = (l.take (k + 1)).map f ++ List.replicate (n - (k + 1)) z := by
 have hl : k < l.length := (Ap.1 hx).1
 have hlen : ((l.take k).map f).length = k := by simp; omega
 rw [Do _ _ (by omega), hlen, Df, Bv, hx]
 have : n - k = (n - (k + 1)) + 1 := by omega
 rw [this, D8]
 simp
theorem l5 : ∀ (k : Nat) (bs : List UInt8) (c0 c1 c2 c3 : UInt8), bs[4 * k]? = some c0 → bs[4 * k + 1]? = some c1 → bs[4 * k + 2]? = some c2 → bs[4 * k + 3]? = some c3 → (cw bs)[k]? = some (rH c0 c1 c2 c3)
 | 0, bs, c0, c1, c2, c3, h0, h1, h2, h3 => by
  match bs, h0, h1, h2, h3 with
  | a :: b :: c :: d :: r, h0, h1, h2, h3 => simp at h0 h1 h2 h3; simp [cw, h0, h1, h2, h3]
 | k + 1, bs, c0, c1, c2, c3, h0, h1, h2, h3 => by
  match bs, h3 with
  | a :: b :: c :: d :: r, h3 =>
   have e : ∀ q, (a :: b :: c :: d :: r)[4 * (k + 1) + q]? = r[4 * k + q]? := fun q => by
    rw [show 4 * (k + 1) + q = (4 * k + q) + 4 by omega]; simp
   have e0 := e 0; simp only [Bd] at e0; simp only [cw, C8]; exact l5 k r c0 c1 c2 c3 (e0 ▸ h0) (e 1 ▸ h1) (e 2 ▸ h2) (e 3 ▸ h3)
  | [], h3 => simp at h3
  | [_], h3 => simp at h3
  | [_, _], h3 => simp at h3
  | [_, _, _], h3 => simp at h3
theorem jq : ∀ (n : Nat) (bs : List UInt8), bs.length = 4 * n → (cw bs).length = n
 | 0, bs, h => by have : bs = [] := B0 (by omega); subst this; rfl
 | n + 1, bs, h => by
  match bs, h with
  | a :: b :: c :: d :: r, h => simp only [cw, Ay]; rw [jq n r (by simp at h; omega)]
  | [], h => simp at h
  | [_], h => simp at h; omega
  | [_, _], h => simp at h; omega
  | [_, _, _], h => simp at h; omega
theorem dJ (n : Nat) (w : List W) : (cV n w).length = w.length + n := by
 induction n with
 | zero => rfl
 | succ n ih => simp [cV, ih]; omega
theorem wz (c : UInt8) : IntKind.u32.wrap (c.toNat : Int) = ((BitVec.ofNat 32 c.toNat).toNat : Int) := m7 c.toNat
theorem zd (c0 c1 c2 c3 : UInt8) : ((BitVec.ofNat 32 c0.toNat <<< 24 ||| BitVec.ofNat 32 c1.toNat <<< 16) ||| BitVec.ofNat 32 c2.toNat <<< 8) ||| BitVec.ofNat 32 c3.toNat = rH c0 c1 c2 c3 := by
 have h0 := c0.toNat_lt; have h1 := c1.toNat_lt; have h2 := c2.toNat_lt; have h3 := c3.toNat_lt
 apply BitVec.eq_of_toNat_eq
 simp only [rH, BitVec.toNat_or, BitVec.toNat_shiftLeft, BitVec.toNat_ofNat, Nat.shiftLeft_eq]
 rw [Am (by omega : c0.toNat < 2 ^ 32), Am (by omega : c1.toNat < 2 ^ 32), Am (by omega : c2.toNat < 2 ^ 32), Am (by omega : c3.toNat < 2 ^ 32)]
 rw [Am (by omega : c0.toNat * 2 ^ 24 < 2 ^ 32), Am (by omega : c1.toNat * 2 ^ 16 < 2 ^ 32), Am (by omega : c2.toNat * 2 ^ 8 < 2 ^ 32), Am (by omega)]
 have e1 := Nat.two_pow_add_eq_or_of_lt (i := 24) (b := c1.toNat * 2 ^ 16) (by omega) c0.toNat
 have e2 := Nat.two_pow_add_eq_or_of_lt (i := 16) (b := c2.toNat * 2 ^ 8) (by omega) (c0.toNat * 2 ^ 8 + c1.toNat)
 have e3 := Nat.two_pow_add_eq_or_of_lt (i := 8) (b := c3.toNat) (by omega) (c0.toNat * 2 ^ 16 + c1.toNat * 2 ^ 8 + c2.toNat)
 rw [Ao c0.toNat, ← e1]
 rw [show 2 ^ 24 * c0.toNat + c1.toNat * 2 ^ 16 = 2 ^ 16 * (c0.toNat * 2 ^ 8 + c1.toNat) by omega, ← e2]
 rw [show 2 ^ 16 * (c0.toNat * 2 ^ 8 + c1.toNat) + c2.toNat * 2 ^ 8 = 2 ^ 8 * (c0.toNat * 2 ^ 16 + c1.toNat * 2 ^ 8 + c2.toNat) by omega, ← e3]
 first | done | omega
theorem rG (c0 c1 c2 c3 : UInt8) : bits .or .u32 (bits .or .u32 (bits .or .u32 (IntKind.u32.wrap (IntKind.u32.wrap (c0.toNat : Int) * 2 ^ (min (Int.toNat 24) IntKind.u32.bits))) (IntKind.u32.wrap (IntKind.u32.wrap (c1.toNat : Int) * 2 ^ (min (Int.toNat 16) IntKind.u32.bits)))) (IntKind.u32.wrap (IntKind.u32.wrap (c2.toNat : Int) * 2 ^ (min (Int.toNat 8) IntKind.u32.bits)))) (IntKind.u32.wrap (c3.toNat : Int)) = ((rH c0 c1 c2 c3).toNat : Int) := by
 have m1 : min (Int.toNat 24) IntKind.u32.bits = 24 := by decide
 have m2 : min (Int.toNat 16) IntKind.u32.bits = 16 := by decide
 have m3 : min (Int.toNat 8) IntKind.u32.bits = 8 := by decide
 rw [m1, m2, m3, wz, wz, wz, wz, ql _ 24 (by omega), ql _ 16 (by omega), ql _ 8 (by omega), xD, xD, xD, zd]
section
variable {ds : List Deferred} {ρ : Option Nat} {P : Program} {o : Oper} {n : Nat} {L : an} {Z : World → Prop} {x y : Operand} {t t2 : TypeId} {a b : W}
theorem dt (hop : o.op = .binOp .add t x y t2) (hx : ai L x = some (u32 a)) (hy : ai L y = some (u32 b)) : Rd ds P o n L Z (u32 (a + b)) := by
 have := pJ (ds := ds) (P := P) (n := n) (St := Z) hop hx hy; rwa [EU] at this
theorem dr (hop : o.op = .binOp .xor t x y t2) (hx : ai L x = some (u32 a)) (hy : ai L y = some (u32 b)) : Rd ds P o n L Z (u32 (a ^^^ b)) := by
 have := kR (ds := ds) (P := P) (n := n) (St := Z) hop hx hy; rwa [yO] at this
theorem iL (hop : o.op = .binOp .and t x y t2) (hx : ai L x = some (u32 a)) (hy : ai L y = some (u32 b)) : Rd ds P o n L Z (u32 (a &&& b)) := by
 have := nz (ds := ds) (P := P) (n := n) (St := Z) hop hx hy; rwa [ES] at this
theorem xu (hop : o.op = .unOp .xor t x) (hx : ai L x = some (u32 a)) : Rd ds P o n L Z (u32 (~~~a)) := by
 have := z7 (ds := ds) (P := P) (n := n) (St := Z) hop hx; rwa [EH] at this
theorem iK {k' : IntKind} {c : Nat} (hop : o.op = .binOp .shr t x y t2) (hx : ai L x = some (u32 a)) (hy : ai L y = some (.int k' (@OfNat.ofNat Int c instOfNat))) (hc : c ≤ 32) : Rd ds P o n L Z (u32 (a >>> c)) := by
 have := f6 (ds := ds) (P := P) (n := n) (St := Z) hop hx hy (Br c)
 have e : min (@OfNat.ofNat Int c instOfNat).toNat IntKind.u32.bits = c := by
  show min c 32 = c; omega
 rwa [e, yP] at this
end
theorem fp (l : List W) : ∀ v ∈ l.map u32, v.oneCell' = true := fun v hv => by obtain ⟨c, _, rfl⟩ := Ch.1 hv; rfl
theorem gk {α : Type} (l : List α) (f : α → Value) (r : List Value) (i : Nat) (x : α) (h : l[i]? = some x) : (l.map f ++ r)[i]? = some (f x) := by
 have : i < l.length := (Ap.1 h).1
 rw [B2 (by simpa using this), A4, h]; rfl
theorem cW {α : Type} (l : List α) (i : Nat) (z : α) (h : i < l.length) : l[i]? = some (l.getD i z) := by simp [h]
theorem wY (k w : W) (x : List W) (h : x.length = 8) : (rnd k w x).length = 8 := by
 match x, h with
 | [a, b, c, d, e, f, g, i], _ => rfl
theorem ib (ks ws : List W) (n : Nat) (x : List W) (h : x.length = 8) : (fx ks ws n x).length = 8 := by
 induction n with
 | zero => exact h
 | succ n ih => exact wY _ _ _ ih
theorem EB (x : List W) (h : x.length = 8) : ∃ a b c d e f g i, x = [a, b, c, d, e, f, g, i] := by
 match x, h with
 | [a, b, c, d, e, f, g, i], _ => exact ⟨a, b, c, d, e, f, g, i, rfl⟩
theorem jo : ∀ (x y : List W), x.length = y.length → (iw x y).length = x.length
 | [], [], _ => rfl
 | a :: x, b :: y, h => by simp only [iw, Ay]; rw [jo x y (by simpa using h)]
theorem pr : ∀ (x y : List W) (k : Nat) (a b : W), x[k]? = some a → y[k]? = some b → (iw x y)[k]? = some (a + b)
 | a' :: x, b' :: y, 0, a, b, h1, h2 => by simp at h1 h2; simp [iw, h1, h2]
 | a' :: x, b' :: y, k + 1, a, b, h1, h2 => by simp at h1 h2; simp only [iw, C8]; exact pr x y k a b h1 h2
theorem wk (x y : List W) (k : Nat) (a b : W) (hl : x.length = y.length) (h1 : x[k]? = some a) (h2 : y[k]? = some b) :
  (((iw x y).take k ++ x.drop k).map u32).set k (u32 (a + b)) = ((iw x y).take (k + 1) ++ x.drop (k + 1)).map u32 := by
 have hk : k < x.length := (Ap.1 h1).1
 have hal := jo x y hl
 rw [← List.map_set]
 congr 1
 have hlen : ((iw x y).take k).length = k := by simp; omega
 rw [Do _ _ (by omega), hlen, Df, Bv, pr x y k a b h1 h2]
 have hd : (x.drop k).set 0 (a + b) = (a + b) :: x.drop (k + 1) := by rw [B3 hk]; rfl
 rw [hd]; simp
end Go.Proofs.YtchonigdjamphaaGreatDoor
namespace Go.Proofs.YtchonigdjamphaaGreatDoor
open Go.RowKit
set_option linter.unusedSimpArgs false
set_option linter.unusedVariables false
set_option maxHeartbeats 600000
set_option maxRecDepth 20000
theorem zJ (x : W) (n : Nat) (h0 : 0 < n) (h : n < 32) (w : World) : Cw 317 #[u32 x, .int .i64 (0 - (n : Int))] w (u32 (rr x n)) := by
 refine enter (S := St (fun _ => True) w [] []) (L := [(0, u32 x), (1, .int .i64 (0 - (n : Int)))]) Tryz.func317 rfl Tryz.ntmps317 rfl (Ac rfl (Ac rfl (An _))) (St.start (fun _ _ => trivial) (by simp)) ?_
 refine Cq (Cg (Ka I (Nn (Xa (Cq (Cg (Km I (Kq I (aS I I u3 CR) (Kq I (nz I I I) (Ns 8 I (congrArg (Value.int .u64) (ET n h0 h)) (Ka I (Nn (Xa (Cq (Cg (Km I (Km I (Kq I (jv I I I (by omega)) ?_))))))))))))))))))
 refine Ns 11 I (v' := .int .u32 (IntKind.u32.wrap ((x.toNat : Int) * 2 ^ (32 - n)))) (by congr 3; simp [IntKind.bits]; try omega) ?_
 refine Km I (Km I (Kq I (kS I I I) (Ns 14 I (v' := .int .u64 (n : Int)) (congrArg (Value.int .u64) (by rw [IntKind.wrap_u64]; omega)) ?_)))
 refine Kq I (f6 I I I (by omega)) ?_
 refine Ns 15 I (v' := .int .u32 ((x.toNat : Int).fdiv (2 ^ n))) (by congr 3; simp [IntKind.bits]; try omega) ?_
 refine Kq I (mg I I I) (Ns 16 I (v' := u32 (rr x n)) (congrArg (Value.int .u32) (DA x n h0 h)) (Ka I (Nn (Xa (Ce ?_)))))
 exact WX.ret1 rfl rfl fun w' hS => ⟨rfl, hS.below⟩
theorem wC (x : W) (n : Nat) (h0 : 0 < n) (h : n < 32) (w : World) : Cw 306 #[u32 x, .int .i64 (n : Int)] w (u32 (rr x n)) := by
 refine enter (S := St (fun _ => True) w [] []) (L := [(0, u32 x), (1, .int .i64 (n : Int))]) Tryz.func306 rfl Tryz.ntmps306 rfl (Ac rfl (Ac rfl (An _))) (St.start (fun _ _ => trivial) (by simp)) ?_
 refine Cq (Cg (Ka I (Nn (Xa (Cq (Cg (Km I (Km I (Kq I (ue I I ?_) ?_)))))))))
 ·omega
 refine Ku I (Oc I I (Kv fun w _ => zJ x n h0 h w)) (Ka I (Nn (Xa (Ce ?_))))
 exact WX.ret1 rfl rfl fun w' hS => ⟨rfl, hS.below⟩
theorem cT (x : W) (n : Nat) (h0 : 0 < n) (h : n < 32) (w : World) : Cw 306 #[u32 x, .int .i64 (@OfNat.ofNat Int n instOfNat)] w (u32 (rr x n)) := wC x n h0 h w
theorem rU (j : Nat) (ws : List W) (hw : ws.length = 16) (hj : j < 48) : ((cV j ws).map u32 ++ List.replicate (48 - j) (u32 0)).set (16 + j) (u32 (qJ (cV j ws))) = (cV (j + 1) ws).map u32 ++ List.replicate (48 - (j + 1)) (u32 0) := by
 have hl : ((cV j ws).map u32).length = 16 + j := by rw [Ag, dJ, hw]
 rw [Do _ _ (by omega), hl, Df, show 48 - j = (48 - (j + 1)) + 1 by omega, D8]
 simp [cV]
theorem u7 (w : World) : Cw 279 #[] w (.agg (H0.map u32).toArray) := by
 refine enter (S := St (fun _ => True) w [] []) (L := []) Tryz.func279 rfl Tryz.ntmps279 rfl (An _) (St.start (fun _ _ => trivial) (by simp)) ?_
 refine Cq (Cg (GE ?_))
 intro b0
 refine Nn (Xa (Cq (Cg (Kq I (oN I I (v := .agg #[.int .u32 1779033703, .int .u32 3144134277, .int .u32 1013904242, .int .u32 2773480762, .int .u32 1359893119, .int .u32 2600822924, .int .u32 528734635, .int .u32 1541459225]) (fun w => by kernel_rfl)) ?_))))
 refine FF ?_; refine Nn (Xa (Ce ?_))
 exact WX.ret1c (cs := H0.map u32) rfl rfl .here eD rfl (by kernel_rfl) fun w' hS => ⟨rfl, hS.below⟩
theorem n5 (w : World) : Cw 304 #[] w (.agg (KK.map u32).toArray) := by
 refine enter (S := St (fun _ => True) w [] []) (L := []) Tryz.func304 rfl Tryz.ntmps304 rfl (An _) (St.start (fun _ _ => trivial) (by simp)) ?_
 refine Cq (Cg (F9 ?_))
 intro b0
 refine Nn (Xa (Cq (Cg (Kq I (oN I I (v := .agg #[.int .u32 1116352408, .int .u32 1899447441, .int .u32 3049323471, .int .u32 3921009573, .int .u32 961987163, .int .u32 1508970993, .int .u32 2453635748, .int .u32 2870763221, .int .u32 3624381080, .int .u32 310598401, .int .u32 607225278, .int .u32 1426881987, .int .u32 1925078388, .int .u32 2162078206, .int .u32 2614888103, .int .u32 3248222580, .int .u32 3835390401, .int .u32 4022224774, .int .u32 264347078, .int .u32 604807628, .int .u32 770255983, .int .u32 1249150122, .int .u32 1555081692, .int .u32 1996064986, .int .u32 2554220882, .int .u32 2821834349, .int .u32 2952996808, .int .u32 3210313671, .int .u32 3336571891, .int .u32 3584528711, .int .u32 113926993, .int .u32 338241895, .int .u32 666307205, .int .u32 773529912, .int .u32 1294757372, .int .u32 1396182291, .int .u32 1695183700, .int .u32 1986661051, .int .u32 2177026350, .int .u32 2456956037, .int .u32 2730485921, .int .u32 2820302411, .int .u32 3259730800, .int .u32 3345764771, .int .u32 3516065817, .int .u32 3600352804, .int .u32 4094571909, .int .u32 275423344, .int .u32 430227734, .int .u32 506948616, .int .u32 659060556, .int .u32 883997877, .int .u32 958139571, .int .u32 1322822218, .int .u32 1537002063, .int .u32 1747873779, .int .u32 1955562222, .int .u32 2024104815, .int .u32 2227730452, .int .u32 2361852424, .int .u32 2428436474, .int .u32 2756734187, .int .u32 3204031479, .int .u32 3329325298]) (fun w => by kernel_rfl)) ?_))))
 refine FF ?_; refine Nn (Xa (Ce ?_))
 exact WX.ret1c (cs := KK.map u32) rfl rfl .here kA rfl (by kernel_rfl) fun w' hS => ⟨rfl, hS.below⟩
theorem oD (bs : List UInt8) (hbs : bs.length = 64) (b off cap : Nat) (hcap : 64 ≤ cap) (w : World) (hf : (Fact.sl (some ⟨b, off, none⟩) (bs.map B)).holds (fun _ => True) w) :
  Cw 305 #[.slice (some ⟨b, off, none⟩) 64 cap] w (.agg ((cV 48 (cw bs)).map u32).toArray) := by
 have hwl := jq 16 bs hbs
 refine enter (S := St (fun _ => True) w [] [Fact.sl (some ⟨b, off, none⟩) (bs.map B)]) (L := [(0, .slice (some ⟨b, off, none⟩) 64 cap)]) Tryz.func305 rfl Tryz.ntmps305 rfl (Ac rfl (An _)) (St.start (fun _ _ => trivial) (by simpa using hf)) ?_
 refine Cq (Cg ?_)
 refine Kh I (Oa I (v := (.agg (List.replicate 64 (.int .u32 0)).toArray)) (cs := (List.replicate 64 (.int .u32 0))) (by kernel_rfl) I) ?_
 intro b2
 refine Nn (Xa (Cq (Cg ?_)))
 refine Kh I (Oa I (v := (.agg (List.replicate 64 (.int .u32 0)).toArray)) (cs := (List.replicate 64 (.int .u32 0))) (by kernel_rfl) I) ?_
 intro b3
 refine Nn (Xa (Cq (Cq (Cg (Km I (Nn (Xa (Cb ?_))))))))
 refine WC.loop (σ := Nat) (fun k => [(0, .slice (some ⟨b, off, none⟩) 64 cap), (2, .pointer (some ⟨b2, 0, none⟩)), (3, .pointer (some ⟨b3, 0, none⟩)), (9, .int .i64 (k : Int))]) (fun k w' => k ≤ 16 ∧ St (fun _ => True) w [⟨some b3, ((cw bs).take k).map u32 ++ List.replicate (64 - k) (u32 0), 358⟩, ⟨some b2, List.replicate 64 (u32 0), 358⟩] [Fact.sl (some ⟨b, off, none⟩) (bs.map B)] w') (fun k => 16 - k) 0 (by repeat (first | exact S0 _ | refine Sc rfl ?_)) (fun w' h => ⟨by omega, h⟩) ?_
 intro k; refine WC.pu ?_; intro hk
 refine Cq (Cg (Yl I (Nn (Xa (Cq ?_)))))
 refine Cd I (fun hc10 => ?_) (fun hc10 => ?_)
 ·(try simp only [sB] at hc10)
  obtain ⟨c0, hc0⟩ : ∃ c, bs[4 * k]? = some c := ⟨_, Ad (by omega)⟩
  obtain ⟨c1, hc1⟩ : ∃ c, bs[4 * k + 1]? = some c := ⟨_, Ad (by omega)⟩
  obtain ⟨c2, hc2⟩ : ∃ c, bs[4 * k + 2]? = some c := ⟨_, Ad (by omega)⟩
  obtain ⟨c3, hc3⟩ : ∃ c, bs[4 * k + 3]? = some c := ⟨_, Ad (by omega)⟩
  refine Ck (Xa (Cq (Cb (Cq (Cg (Km I (Ka I (Nn (Xa (Cq (Cg (Km I (Km I ?_)))))))))))))
  first
   | (refine Kq rfl (dM rfl rfl rfl ?_) ?_; focus (omega))
   | (refine Kq rfl (kZ rfl rfl rfl ?_) ?_; focus (omega))
  refine Km I ?_
  first
   | (refine Kq rfl (dM rfl rfl rfl ?_) ?_; focus (omega))
   | (refine Kq rfl (kZ rfl rfl rfl ?_) ?_; focus (omega))
  first
   | (refine Kq rfl (Rz rfl rfl rfl ?_) ?_; focus (omega))
   | (refine Kq rfl (bB rfl rfl rfl ?_) ?_; focus (omega))
  refine Kq I (xj I I I I aF (by kernel_rfl : _ = some 1) ?_ (by (try simp only [A2, As, A3, Bd, B8, Int.reduceToNat, Nat.reduceAdd, Nat.reduceMul, Nat.reduceSub, B9]); rfl) (by (try simp only [A2, As, A3, Bd, B8, Int.reduceToNat, Nat.reduceAdd, Nat.reduceMul, Nat.reduceSub, B9]); rfl) (by (try simp only [A2, As, A3, Bd, B8, Int.reduceToNat, Nat.reduceAdd, Nat.reduceMul, Nat.reduceSub, B9]); rfl)) ?_
  ·omega
  refine Ka I (Nn (Xa ?_))
  refine WC.mix [0, 0, 0, 0, 0, 0, 0, 0, 0, 0, 0, 0, 0, 0, 0, 0, 0, 0, 0, 0, 0, 0, 0, 0, 2] (by kernel_rfl) (by kernel_rfl) (fun w h => h.draw) ?_
  refine WM.r I I I (Rm I I) ?_
  refine WM.r I I I (Rm I I) ?_
  refine WM.r I I I (Ja I I I aF (by kernel_rfl : _ = some 1) ?_) ?_
  ·omega
  refine WM.r I I I (ldf I I (by first | exact .here | exact .t1 | exact .t2 | exact .t3 | exact .t4 | exact .t5 | exact .t6 | exact .t7) u5 I (m := 4 * k) (by omega) (by rw [A4, hc0]; rfl)) ?_
  refine WM.r I I I (aS I I u5 dX) ?_
  refine WM.r I I I (jv I I I ?_) ?_
  ·first | decide | omega
  refine WM.r I I I (Rm I I) ?_
  refine WM.r I I I (Ja I I I aF (by kernel_rfl : _ = some 1) ?_) ?_
  ·omega
  refine WM.r I I I (ldf I I (by first | exact .here | exact .t1 | exact .t2 | exact .t3 | exact .t4 | exact .t5 | exact .t6 | exact .t7) u5 I (m := 4 * k + 1) (by omega) (by rw [A4, hc1]; rfl)) ?_
  refine WM.r I I I (aS I I u5 dX) ?_
  refine WM.r I I I (jv I I I ?_) ?_
  ·first | decide | omega
  refine WM.r I I I (mg I I I) ?_
  refine WM.r I I I (Rm I I) ?_
  refine WM.r I I I (Ja I I I aF (by kernel_rfl : _ = some 1) ?_) ?_
  ·omega
  refine WM.r I I I (ldf I I (by first | exact .here | exact .t1 | exact .t2 | exact .t3 | exact .t4 | exact .t5 | exact .t6 | exact .t7) u5 I (m := 4 * k + 2) (by omega) (by rw [A4, hc2]; rfl)) ?_
  refine WM.r I I I (aS I I u5 dX) ?_
  refine WM.r I I I (jv I I I ?_) ?_
  ·first | decide | omega
  refine WM.r I I I (mg I I I) ?_
  refine WM.r I I I (Rm I I) ?_
  refine WM.r I I I (Ja I I I aF (by kernel_rfl : _ = some 1) ?_) ?_
  ·omega
  refine WM.r I I I (ldf I I (by first | exact .here | exact .t1 | exact .t2 | exact .t3 | exact .t4 | exact .t5 | exact .t6 | exact .t7) u5 I (m := 4 * k + 3) (by omega) (by rw [A4, hc3]; rfl)) ?_
  refine WM.r I I I (aS I I u5 dX) ?_
  refine WM.r I I I (mg I I I) ?_
  refine WM.set 41 I (v' := u32 (rH c0 c1 c2 c3)) (congrArg (Value.int .u32) (rG c0 c1 c2 c3)) ?_
  refine WM.r I I I (Jb I I I kA (by kernel_rfl : _ = some 1) ?_) ?_
  ·omega
  refine WM.h0 I I (st I I I (by first | exact .here | exact .t1 | exact .t2 | exact .t3 | exact .t4 | exact .t5 | exact .t6 | exact .t7) (by kernel_rfl) I ?_ I) ?_
  ·first | decide | (simp; done) | (simp; omega)
  intro _
  refine WM.nil ?_
  refine Xd (Xa (Cg ?_))
  first
   | (refine Kq rfl (Rz rfl rfl rfl ?_) ?_; focus (omega))
   | (refine Kq rfl (bB rfl rfl rfl ?_) ?_; focus (omega))
  refine Km I (Nn ?_)
  exact WX.loop (k + 1) (by omega) (by repeat (first | exact S0 _ | refine Sc rfl ?_)) (fun w' h => ⟨by omega, by rw [vd (cw bs) u32 (u32 0) 64 k _ (by omega) (l5 k bs c0 c1 c2 c3 hc0 hc1 hc2 hc3)] at h; exact h⟩)
 ·(try simp only [sB] at hc10)
  refine Cx (Xc (Xc (Xe ?_)))
  obtain rfl : k = 16 := by omega
  refine Xa (Cq (Cq (Cg (Ka I (Nn (Xa (Cb ?_)))))))
  refine WC.loop (σ := Nat) (fun j => [(2, .pointer (some ⟨b2, 0, none⟩)), (3, .pointer (some ⟨b3, 0, none⟩)), (6, .int .i64 ((16 + j : Nat) : Int))]) (fun j w' => j ≤ 48 ∧ St (fun _ => True) w [⟨some b3, (cV j (cw bs)).map u32 ++ List.replicate (48 - j) (u32 0), 358⟩, ⟨some b2, List.replicate 64 (u32 0), 358⟩] [] w') (fun j => 48 - j) 0 (by repeat (first | exact S0 _ | refine Sc rfl ?_)) (fun w' h => ⟨by omega, by rw [A7 (by omega)] at h; exact h.sub (Ax _) (by simp)⟩) ?_
  intro j; refine WC.pu ?_; intro hj
  refine Cq (Cq (Cg (Km I (Yl I (Nn (Xa ?_))))))
  refine Cd I (fun hc45 => ?_) (fun hc45 => ?_)
  ·(try simp only [sB] at hc45)
   have hsl := dJ j (cw bs)
   rw [hwl] at hsl
   refine Ck (Xa (Cq (Cb (Cq ?_))))
   refine WC.mix [0, 0, 0, 0, 0, 0, 0, 0, 0, 0] (by kernel_rfl) (by kernel_rfl) (fun w h => h.draw) ?_
   refine WM.r I I I (Rm I I) ?_
   first
    | (refine WM.r rfl rfl rfl (aB rfl rfl rfl ?_) ?_; focus (omega))
    | (refine WM.r rfl rfl rfl (aK rfl rfl rfl ?_) ?_; focus (omega))
   refine WM.r I I I (Jb I I I kA (by kernel_rfl : _ = some 1) ?_) ?_
   ·omega
   refine WM.r I I I (ld I I (by first | exact .here | exact .t1 | exact .t2 | exact .t3 | exact .t4 | exact .t5 | exact .t6 | exact .t7) dX I (by exact gk _ u32 _ _ _ (cW (cV j (cw bs)) _ 0 (by omega)))) ?_
   refine WM.r I I I (Rm I I) ?_
   first
    | (refine WM.r rfl rfl rfl (aB rfl rfl rfl ?_) ?_; focus (omega))
    | (refine WM.r rfl rfl rfl (aK rfl rfl rfl ?_) ?_; focus (omega))
   refine WM.r I I I (Jb I I I kA (by kernel_rfl : _ = some 1) ?_) ?_
   ·omega
   refine WM.r I I I (ld I I (by first | exact .here | exact .t1 | exact .t2 | exact .t3 | exact .t4 | exact .t5 | exact .t6 | exact .t7) dX I (by exact gk _ u32 _ _ _ (cW (cV j (cw bs)) _ 0 (by omega)))) ?_
   refine WM.r I I I (Ra I I) ?_
   refine WM.r I I I (Ra I I) ?_
   refine WM.nil ?_
   refine Xa ?_
   refine WC.mix [0, 0, 0, 0, 0, 0, 1, 0, 1, 0, 0, 0, 0, 0, 0, 0, 0, 0, 0, 0, 1, 0, 1, 0, 0, 0, 0, 0, 0, 2] (by kernel_rfl) (by kernel_rfl) (fun w h => h.draw) ?_
   refine WM.r I I I (Rm I I) ?_
   refine WM.r I I I (Rm I I) ?_
   first
    | (refine WM.r rfl rfl rfl (aB rfl rfl rfl ?_) ?_; focus (omega))
    | (refine WM.r rfl rfl rfl (aK rfl rfl rfl ?_) ?_; focus (omega))
   refine WM.r I I I (Jb I I I kA (by kernel_rfl : _ = some 1) ?_) ?_
   ·omega
   refine WM.r I I I (ld I I (by first | exact .here | exact .t1 | exact .t2 | exact .t3 | exact .t4 | exact .t5 | exact .t6 | exact .t7) dX I (by exact gk _ u32 _ _ _ (cW (cV j (cw bs)) _ 0 (by omega)))) ?_
   refine WM.r I I I (Rm I I) ?_
   refine WM.g I I I (Oc I I (Kv fun w _ => cT _ _ (by decide) (by decide) w)) (fun _ _ h => by first | exact h | exact ⟨_, h⟩ | exact ⟨_, h.2⟩ | exact h.2 | exact h.sub (by repeat (first | exact Ax _ | apply List.Sublist.cons)) (fun _ h => by simp [*]) | exact h.2.sub (by repeat (first | exact Ax _ | apply List.Sublist.cons)) (fun _ h => by simp [*])) ?_
   intro _
   refine WM.r I I I (Rm I I) ?_
   refine WM.g I I I (Oc I I (Kv fun w _ => cT _ _ (by decide) (by decide) w)) (fun _ _ h => by first | exact h | exact ⟨_, h⟩ | exact ⟨_, h.2⟩ | exact h.2 | exact h.sub (by repeat (first | exact Ax _ | apply List.Sublist.cons)) (fun _ h => by simp [*]) | exact h.2.sub (by repeat (first | exact Ax _ | apply List.Sublist.cons)) (fun _ h => by simp [*])) ?_
   intro _
   refine WM.r I I I (dr I I I) ?_
   refine WM.r I I I (Rm I I) ?_
   refine WM.r I I I (iK I I I (by decide)) ?_
   refine WM.r I I I (dr I I I) ?_
   refine WM.r I I I (dt I I I) ?_
   refine WM.r I I I (Rm I I) ?_
   first
    | (refine WM.r rfl rfl rfl (aB rfl rfl rfl ?_) ?_; focus (omega))
    | (refine WM.r rfl rfl rfl (aK rfl rfl rfl ?_) ?_; focus (omega))
   refine WM.r I I I (Jb I I I kA (by kernel_rfl : _ = some 1) ?_) ?_
   ·omega
   refine WM.r I I I (ld I I (by first | exact .here | exact .t1 | exact .t2 | exact .t3 | exact .t4 | exact .t5 | exact .t6 | exact .t7) dX I (by exact gk _ u32 _ _ _ (cW (cV j (cw bs)) _ 0 (by omega)))) ?_
   refine WM.r I I I (dt I I I) ?_
   refine WM.r I I I (Rm I I) ?_
   refine WM.g I I I (Oc I I (Kv fun w _ => cT _ _ (by decide) (by decide) w)) (fun _ _ h => by first | exact h | exact ⟨_, h⟩ | exact ⟨_, h.2⟩ | exact h.2 | exact h.sub (by repeat (first | exact Ax _ | apply List.Sublist.cons)) (fun _ h => by simp [*]) | exact h.2.sub (by repeat (first | exact Ax _ | apply List.Sublist.cons)) (fun _ h => by simp [*])) ?_
   intro _
   refine WM.r I I I (Rm I I) ?_
   refine WM.g I I I (Oc I I (Kv fun w _ => cT _ _ (by decide) (by decide) w)) (fun _ _ h => by first | exact h | exact ⟨_, h⟩ | exact ⟨_, h.2⟩ | exact h.2 | exact h.sub (by repeat (first | exact Ax _ | apply List.Sublist.cons)) (fun _ h => by simp [*]) | exact h.2.sub (by repeat (first | exact Ax _ | apply List.Sublist.cons)) (fun _ h => by simp [*])) ?_
   intro _
   refine WM.r I I I (dr I I I) ?_
   refine WM.r I I I (Rm I I) ?_
   refine WM.r I I I (iK I I I (by decide)) ?_
   refine WM.r I I I (dr I I I) ?_
   refine WM.r I I I (dt I I I) ?_
   refine WM.set 83 I (v' := u32 (qJ (cV j (cw bs)))) (by unfold qJ; rw [hsl]; rfl) ?_
   refine WM.r I I I (Jb I I I kA (by kernel_rfl : _ = some 1) ?_) ?_
   ·omega
   refine WM.h0 I I (st I I I (by first | exact .here | exact .t1 | exact .t2 | exact .t3 | exact .t4 | exact .t5 | exact .t6 | exact .t7) (by kernel_rfl) I ?_ I) ?_
   ·simp [hsl]; omega
   intro _
   refine WM.nil ?_
   refine Xd (Xa (Cg (Km I ?_)))
   first
    | (refine Kq rfl (Rz rfl rfl rfl ?_) ?_; focus (omega))
    | (refine Kq rfl (bB rfl rfl rfl ?_) ?_; focus (omega))
   refine Ka I (Nn ?_)
   exact WX.loop (j + 1) (by omega) (by repeat (first | exact S0 _ | refine Sc rfl ?_)) (fun w' h => ⟨by omega, by rw [rU j (cw bs) hwl (by omega)] at h; exact h⟩)
  ·(try simp only [sB] at hc45)
   refine Cx (Xc (Xc (Xe ?_)))
   obtain rfl : j = 48 := by omega
   refine WX.st (S' := St (fun _ => True) w [⟨some b3, (cV 48 (cw bs)).map u32, 358⟩, ⟨some b2, List.replicate 64 (u32 0), 358⟩] []) (fun w' h => by rw [Df, List.replicate_zero, A5] at h; exact h) ?_
   refine Xa (Cq (Cg ?_))
   refine Kq I (lda I I (by first | exact .here | exact .t1 | exact .t2 | exact .t3 | exact .t4 | exact .t5 | exact .t6 | exact .t7) kA I ?_) ?_
   ·rw [Ag, dJ, hwl]; kernel_rfl
   refine Ng I I (sta I I I (by first | exact .here | exact .t1 | exact .t2 | exact .t3 | exact .t4 | exact .t5 | exact .t6 | exact .t7) ?_ ?_ ?_) ?_
   ·rw [Ag, dJ, hwl]; kernel_rfl
   ·exact fp _
   ·rw [Ag, dJ, hwl, Eg]
   intro _
   refine Nn (Xa (Ce ?_))
   exact WX.ret1c rfl rfl (by first | exact .here | exact .t1 | exact .t2 | exact .t3) kA rfl (by rw [Ag, dJ, hwl]; kernel_rfl) fun w' hS => ⟨rfl, hS.below⟩
theorem St.sl_of {ok : Nat → Prop} {w0 w : World} {own : List Ent} {fs : List Fact} {b off : Nat} {cs xs : List Value} {T : TypeId} (hk : InE own ⟨some b, cs, T⟩) (hx : (cs.drop off).take xs.length = xs) (h : St ok w0 own fs w) : (Fact.sl (some ⟨b, off, none⟩) xs).holds (fun _ => True) w := by
 obtain ⟨kk, hk⟩ := hk.get
 exact h.own_sl hk (fun i hi => by rw [← hx, Cv, Ae hi, Cy])
theorem wi (x0 : List W) (hx0 : x0.length = 8) (bs : List UInt8) (hbs : bs.length = 64) (b off cap : Nat) (hcap : 64 ≤ cap) (w : World) (hf : (Fact.sl (some ⟨b, off, none⟩) (bs.map B)).holds (fun _ => True) w) :
  Cw 280 #[.agg (x0.map u32).toArray, .slice (some ⟨b, off, none⟩) 64 cap] w (.agg ((ff x0 bs).map u32).toArray) := by
 have hwl := jq 16 bs hbs
 have hsl := dJ 48 (cw bs)
 rw [hwl] at hsl
 obtain ⟨ws, hws⟩ : ∃ ws, cV 48 (cw bs) = ws := ⟨_, rfl⟩
 have hsch := oD bs hbs b off cap hcap
 rw [hws] at hsl hsch
 show Calls _ _ _ _ fun e w' => e = .returned (.agg ((iw (fx KK (cV 48 (cw bs)) 64 x0) x0).map u32).toArray) ∧ _
 rw [hws]
 refine enter (S := St (fun _ => True) w [] [Fact.sl (some ⟨b, off, none⟩) (bs.map B)]) (L := [(0, .agg (x0.map u32).toArray), (1, .slice (some ⟨b, off, none⟩) 64 cap)]) Tryz.func280 rfl Tryz.ntmps280 rfl (Ac rfl (Ac rfl (An _))) (St.start (fun _ _ => trivial) (by simpa using hf)) ?_
 refine Cq (Cg (Kh I (Ob I I (cs := x0.map u32) I) ?_))
 intro b2
 refine GE ?_
 intro b4
 refine Nn (Xa (Cq (Cg (Ku I (Oc I I (Kv fun w _ => n5 w)) (Km I (Kc I (fun w hS => hsch w (hS.holds_any (k := 0) I)) (F9 ?_)))))))
 intro b5
 refine F9 ?_
 intro b6
 refine Ng I I (sta I I I .tc ?_ ?_ ?_) ?_
 ·kernel_rfl
 ·exact fp _
 ·first | rfl | simp
 intro _
 refine Ng I I (sta I I I .tc ?_ ?_ ?_) ?_
 ·rw [Ag, hsl]; kernel_rfl
 ·exact fp _
 ·simp [hsl]
 intro _
 refine Nn (Xa (Cq (Cg (Kq I (lda I I .tc eD I ?_) ?_))))
 ·rw [Ag, hx0]; kernel_rfl
 refine GE ?_
 intro b7
 refine Ng I I (sta I I I .tc ?_ ?_ ?_) ?_
 ·rw [Ag, hx0]; kernel_rfl
 ·exact fp _
 ·simp [hx0]
 intro _
 refine Nn (Xa (Cq (Cq (Cg (Km I (Nn (Xa (Cb (WC.loop (σ := Nat) (fun k => [(2, .pointer (some ⟨b2, 0, none⟩)), (4, .pointer (some ⟨b4, 0, none⟩)), (5, .pointer (some ⟨b5, 0, none⟩)), (6, .pointer (some ⟨b6, 0, none⟩)), (7, .pointer (some ⟨b7, 0, none⟩)), (22, .int .i64 (k : Int))]) (fun k w' => k ≤ 64 ∧ St (fun _ => True) w [⟨some b7, (fx KK ws k x0).map u32, 337⟩, ⟨some b6, ws.map u32, 358⟩, ⟨some b5, KK.map u32, 358⟩, ⟨some b4, List.replicate 8 (u32 0), 337⟩, ⟨some b2, x0.map u32, 337⟩] [] w') (fun k => 64 - k) 0 (by repeat (first | exact S0 _ | refine Sc rfl ?_)) (fun w' h => ⟨by omega, h.sub (Ax _) (by simp)⟩) ?_)))))))))
 intro k; refine WC.pu ?_; intro hk
 refine HU (fun hc23 => ?_) (fun hc23 => ?_)
 ·obtain ⟨xa, xb, xc, xd, xe, xf, xg, xh, hX⟩ := EB (fx KK ws k x0) (ib _ _ _ _ hx0)
  rw [hX]
  have hkk : KK.length = 64 := rfl
  refine Ck (Xa (Cq (Cb (Cq (Cg (Km I (Ka I (Nn (Xa (Cq (WC.mix [0, 0, 0, 0, 0, 0, 0, 0, 0, 0, 0, 0, 0, 0, 0, 0, 0, 0] (by kernel_rfl) (by kernel_rfl) (fun w h => h.draw) ?_)))))))))))
  refine WM.r I I I (Jb I I I eD (by kernel_rfl : _ = some 1) ?_) ?_
  ·omega
  refine Hb ?_
  refine WM.r I I I (Jb I I I eD (by kernel_rfl : _ = some 1) ?_) ?_
  ·omega
  refine Hb ?_
  refine WM.r I I I (Jb I I I eD (by kernel_rfl : _ = some 1) ?_) ?_
  ·omega
  refine Hb ?_
  refine WM.r I I I (Jb I I I eD (by kernel_rfl : _ = some 1) ?_) ?_
  ·omega
  refine Hb ?_
  refine WM.r I I I (Jb I I I eD (by kernel_rfl : _ = some 1) ?_) ?_
  ·omega
  refine Hb ?_
  refine WM.r I I I (Jb I I I eD (by kernel_rfl : _ = some 1) ?_) ?_
  ·omega
  refine Hb ?_
  refine HK ?_
  refine HK ?_
  refine HK ?_
  refine HK ?_
  refine HK ?_
  refine HK ?_
  refine WM.nil ?_
  refine Xa (Cq (WC.mix [0, 0, 0, 1, 0, 1, 0, 0, 1, 0, 0, 0, 0, 0, 0, 0, 0, 0, 0, 0, 0, 0, 0, 0, 0, 0, 0, 0, 0] (by kernel_rfl) (by kernel_rfl) (fun w h => h.draw) ?_))
  refine WM.r I I I (Jb I I I eD (by kernel_rfl : _ = some 1) ?_) ?_
  ·omega
  refine Hb ?_
  refine Gt ?_
  refine FV ?_
  intro _
  refine Gt ?_
  refine FV ?_
  intro _
  refine WM.r I I I (dr I I I) ?_
  refine Gt ?_
  refine FV ?_
  intro _
  refine WM.r I I I (dr I I I) ?_
  refine WM.r I I I (dt I I I) ?_
  refine Gt ?_
  refine Gt ?_
  refine WM.r I I I (iL I I I) ?_
  refine Gt ?_
  refine WM.r I I I (xu I I) ?_
  refine Gt ?_
  refine WM.r I I I (iL I I I) ?_
  refine WM.r I I I (dr I I I) ?_
  refine WM.r I I I (dt I I I) ?_
  refine Gt ?_
  refine WM.r I I I (Jb I I I kA (by kernel_rfl : _ = some 1) ?_) ?_
  ·omega
  refine WM.r I I I (ld I I .tc dX I (by rw [A4, cW KK k 0 (by omega)]; rfl)) ?_
  refine WM.r I I I (dt I I I) ?_
  refine Gt ?_
  refine WM.r I I I (Jb I I I kA (by kernel_rfl : _ = some 1) ?_) ?_
  ·omega
  refine WM.r I I I (ld I I .tc dX I (by rw [A4, cW ws k 0 (by omega)]; rfl)) ?_
  refine WM.r I I I (dt I I I) ?_
  refine HK ?_
  refine WM.nil ?_
  refine Xa (Cq (Cg (H6 ?_))); refine H6 ?_; refine Kq I (dr I I I) (H6 ?_); refine Kq I (dr I I I) (Km I (Km I (Kq I (iL I I I) (Km I (Km I (Kq I (iL I I I) (Kq I (dr I I I) (Km I (Km I (Kq I (iL I I I) (Kq I (dr I I I) (Kq I (dt I I I) (Ka I (Nn (Xa (Cq (WC.mix [0, 0, 2] (by kernel_rfl) (by kernel_rfl) (fun w h => h.draw) ?_)))))))))))))))))
  refine WM.r I I I (xk I I I eD (by kernel_rfl : _ = some 1) ?_ (by (try simp only [A2, As, A3, Bd, B8, Int.reduceToNat, Nat.reduceAdd, Nat.reduceMul, Nat.reduceSub, B9]); rfl) (by (try simp only [A2, As, A3, Bd, B8, Int.reduceToNat, Nat.reduceAdd, Nat.reduceMul, Nat.reduceSub, B9]); rfl) (by (try simp only [A2, As, A3, Bd, B8, Int.reduceToNat, Nat.reduceAdd, Nat.reduceMul, Nat.reduceSub, B9]); rfl)) ?_
  ·omega
  refine WM.r I I I (qv I I I eD (by kernel_rfl : _ = some 1) ?_ (by (try simp only [A2, As, A3, Bd, B8, Int.reduceToNat, Nat.reduceAdd, Nat.reduceMul, Nat.reduceSub, B9]); rfl)) ?_
  ·omega
  refine WM.h I I I (EG I I I .tc EY (by kernel_rfl) (by rfl) (by rfl) (fun w' h => h.sl_of (xs := [u32 xa, u32 xb, u32 xc, u32 xd, u32 xe, u32 xf, u32 xg]) (by first | exact .here | exact .t1 | exact .t2 | exact .t3) I) (by simp [u32, Value.oneCell']) (by simp) (ys := [u32 xa, u32 xa, u32 xb, u32 xc, u32 xd, u32 xe, u32 xf, u32 xg]) I) ?_
  intro _
  refine WM.nil ?_
  refine Xa (Cq (Cg (Kq I (Jb I I I eD (by kernel_rfl : _ = some 1) ?_) ?_)))
  ·omega
  refine Kq I (ld I I .tc dX I (by rfl)) ?_
  refine Km I (Kq I (dt I I I) (Kq I (Jb I I I eD (by kernel_rfl : _ = some 1) ?_) ?_))
  ·omega
  refine Ng I I (st I I I .tc (by kernel_rfl) I ?_ I) ?_
  ·first | decide | (simp; done) | (simp; omega)
  intro _
  refine Nn (Xa (Cg (Km I (Km I (Kq I (dt I I I) (Kq I (Jb I I I eD (by kernel_rfl : _ = some 1) ?_) ?_))))))
  ·omega
  refine Ng I I (st I I I .tc (by kernel_rfl) I ?_ I) ?_
  ·first | decide | (simp; done) | (simp; omega)
  intro _
  refine Nn (Xd (Xa (Cg ?_)))
  first
   | (refine Kq rfl (Rz rfl rfl rfl ?_) ?_; focus (omega))
   | (refine Kq rfl (bB rfl rfl rfl ?_) ?_; focus (omega))
  refine Km I (Nn ?_)
  exact WX.loop (k + 1) (by omega) (by repeat (first | exact S0 _ | refine Sc rfl ?_)) (fun w' h => ⟨by omega, by rw [show fx KK ws (k + 1) x0 = rnd (KK.getD k 0) (ws.getD k 0) (fx KK ws k x0) from rfl, hX]; exact h⟩)
 ·refine Fq ?_
  obtain rfl : k = 64 := by omega
  have hrl := ib KK ws 64 x0 hx0
  obtain ⟨X, hX⟩ : ∃ X, fx KK ws 64 x0 = X := ⟨_, rfl⟩
  rw [hX] at hrl ⊢
  have hadl := jo X x0 (by omega)
  refine Xa (Cq (Cq (Cg (Km I (Nn (Xa (Cb (WC.loop (σ := Nat) (fun k => [(2, .pointer (some ⟨b2, 0, none⟩)), (4, .pointer (some ⟨b4, 0, none⟩)), (7, .pointer (some ⟨b7, 0, none⟩)), (98, .int .i64 (k : Int))]) (fun k w' => k ≤ 8 ∧ St (fun _ => True) w [⟨some b7, ((iw X x0).take k ++ X.drop k).map u32, 337⟩, ⟨some b4, List.replicate 8 (u32 0), 337⟩, ⟨some b2, x0.map u32, 337⟩] [] w') (fun k => 8 - k) 0 (by repeat (first | exact S0 _ | refine Sc rfl ?_)) (fun w' h => ⟨by omega, h.sub (by repeat first | exact Ax _ | apply List.Sublist.cons_cons | apply List.Sublist.cons) (by simp)⟩) ?_))))))))
  intro q; refine WC.pu ?_; intro hq
  refine HU (fun hc99 => ?_) (fun hc99 => ?_)
  ·have hXq := cW X q 0 (by omega); have hxq := cW x0 q 0 (by omega); refine Ck (Xa (Cq (Cb (Cq (Cg (Km I (Ka I (Nn (Xa (WC.mix [0, 0, 0, 0, 0, 0, 0, 0, 2] (by kernel_rfl) (by kernel_rfl) (fun w h => h.draw) ?_)))))))))); refine Gt ?_; refine WM.r I I I (Jb I I I eD (by kernel_rfl : _ = some 1) ?_) ?_
   ·omega
   refine WM.r I I I (ld I I .tc dX I (by rw [A4, List.getElem?_append_right (by simp; omega), Cy, B1, hadl, show q + (q - min q X.length) = q by omega, hXq]; rfl)) ?_; refine Gt ?_; refine WM.r I I I (Jb I I I eD (by kernel_rfl : _ = some 1) ?_) ?_
   ·omega
   refine WM.r I I I (ld I I .tc dX I (by rw [A4, hxq]; rfl)) ?_; refine WM.r I I I (dt I I I) ?_; refine WM.r I I I (Jb I I I eD (by kernel_rfl : _ = some 1) ?_) ?_
   ·omega
   refine WM.h0 I I (st I I I .tc (by kernel_rfl) I ?_ I) ?_
   ·simp; omega
   intro _; refine WM.nil ?_; refine Xd (Xa (Cg ?_))
   first
    | (refine Kq rfl (Rz rfl rfl rfl ?_) ?_; focus (omega))
    | (refine Kq rfl (bB rfl rfl rfl ?_) ?_; focus (omega))
   refine Km I (Nn ?_); exact WX.loop (q + 1) (by omega) (by repeat (first | exact S0 _ | refine Sc rfl ?_)) (fun w' h => ⟨by omega, by rw [wk X x0 q _ _ (by omega) hXq hxq] at h; exact h⟩)
  ·refine Fq ?_; obtain rfl : q = 8 := by omega
   have hfin : (iw X x0).take 8 ++ X.drop 8 = iw X x0 := by rw [A7 (by omega), Da (by omega), A5]
   rw [hfin]; have hal : (iw X x0).length = 8 := by omega
   refine Xa (Cq (Cg (Kq I (lda I I .tc eD I ?_) ?_)))
   ·rw [Ag, hal]; kernel_rfl
   refine Ng I I (sta I I I .tc ?_ ?_ ?_) ?_
   ·rw [Ag, hal]; kernel_rfl
   ·exact fp _
   ·rw [Ag, hal]; rfl
   intro _; refine Nn (Xa (Ce ?_)); exact WX.ret1c I I (by first | exact .here | exact .t1 | exact .t2 | exact .t3) eD I (by rw [Ag, hal]; kernel_rfl) fun w' hS => ⟨rfl, hS.below⟩
theorem St.snoc {ok : Nat → Prop} {w0 w : World} {r : List Ent} {fs : List Fact} {b b2 : Nat} {e : TypeId} {m : List UInt8} {c : UInt8} {v : Value} {sp : List Value} (h : St ok w0 (⟨some b2, [v], e⟩ :: ⟨some b, (m.map B ++ [v]) ++ sp, e⟩ :: r) fs w) (hv : v = B c) : St ok w0 (⟨some b, (m ++ [c]).map B ++ sp, e⟩ :: r) fs w := by
 subst hv
 rw [Bu]
 exact h.sub (Bm _ _) (fun _ h => h)
theorem vS (M q : Nat) (hM : M < 18446744073709551616) (hq : q ≤ 7) : IntKind.u8.wrap ((M : Int).fdiv (2 ^ (min (56 - 8 * (q : Int)).toNat IntKind.u64.bits))) = ((bt M (7 - q)).toNat : Int) := by
 have e1 : min (56 - 8 * (q : Int)).toNat IntKind.u64.bits = 8 * (7 - q) := by simp [IntKind.bits]; omega
 rw [e1]
 have e2 : ((2 : Int) ^ (8 * (7 - q))) = ((2 ^ (8 * (7 - q)) : Nat) : Int) := by simp
 rw [e2, Dn _ (Br _), ← Int.natCast_ediv, IntKind.wrap_u8, bt]
 rw [UInt8.toNat_ofNat']
 generalize M / 2 ^ (8 * (7 - q)) = z
 omega
theorem oa (x : W) (i : Nat) : IntKind.u8.wrap ((x >>> (8 * i)).toNat : Int) = ((bt x.toNat i).toNat : Int) := by
 rw [BitVec.toNat_ushiftRight, Nat.shiftRight_eq_div_pow, IntKind.wrap_u8, bt, UInt8.toNat_ofNat']
 generalize x.toNat / 2 ^ (8 * i) = z
 omega
theorem yE (x : W) : IntKind.u8.wrap (x.toNat : Int) = ((bt x.toNat 0).toNat : Int) := by
 have := oa x 0; simpa using this
theorem ss (M q : Nat) (hq : q ≤ 7) : (nP M).take (q + 1) = (nP M).take q ++ [bt M (7 - q)] := by
 have : q = 0 ∨ q = 1 ∨ q = 2 ∨ q = 3 ∨ q = 4 ∨ q = 5 ∨ q = 6 ∨ q = 7 := by omega
 rcases this with rfl | rfl | rfl | rfl | rfl | rfl | rfl | rfl <;> rfl
theorem xB (l : List UInt8) : ∃ n, (pad l).length = 64 * n := by
 refine ⟨(l.length + 1 + dC l.length + 8) / 64, ?_⟩
 have : (pad l).length = l.length + 1 + dC l.length + 8 := by simp [pad, nP]; omega
 rw [this]; unfold dC; omega
theorem ph (n : Nat) (x : List W) (m : List UInt8) : iq (n + 1) x m = iq n (ff x (m.take 64)) (m.drop 64) := rfl
theorem ej (x : List W) (b : List UInt8) (h : x.length = 8) : (ff x b).length = 8 := by
 unfold ff
 have := ib KK (cV 48 (cw b)) 64 x h
 rw [jo _ _ (by omega)]; exact this
theorem se (X : List W) (k : Nat) (h : k < X.length) : nC (X.take (k + 1)) = nC (X.take k) ++ p7 (X.getD k 0) := by
 have hx := cW X k 0 h
 rw [Bv, hx]
 simp [nC]
theorem iO (X : List W) : (nC X).length = 4 * X.length := by
 induction X with
 | nil => rfl
 | cons x X ih => simp only [nC, Cp, Al, Ay] at *; rw [ih]; simp [p7]; omega
structure G4 where
 k : Nat
 ob : Option Nat
 cap : Nat
 spare : List Value
structure G3 where
 q : Nat
 ad : Option Addr
 x : List W
theorem ju (l : List UInt8) (hl : l.length ≤ 1000000) (w : World) :
  Cw 234 #[.string (S l)] w (.string (S (sha l))) := by
 have hz : dC l.length = (119 - l.length % 64) % 64 := rfl
 have hpl : (pad l).length = l.length + 1 + dC l.length + 8 := by simp [pad, nP]; omega
 refine enter (S := St (fun _ => True) w [] []) (L := [(0, .string (S l))]) Tryz.func234 rfl Tryz.ntmps234 rfl (Ac rfl (An _)) (St.start (fun _ _ => trivial) (by simp)) ?_
 refine Cq (Cg (Ka I (Nn (Xa (Cq (Cg (Km I (Yn I u9 (Km I (Yn I u9 ?_))))))))))
 first
  | (refine Kq rfl (Rz rfl rfl rfl ?_) ?_; focus (omega))
  | (refine Kq rfl (bB rfl rfl rfl ?_) ?_; focus (omega))
 refine Kh I (ed I I I aF (by kernel_rfl : _ = some (some (.int .u8 0), 1, 1)) I ?_ (by (try simp only [A2, As, A3, Bd, B8, Int.reduceToNat, Nat.reduceAdd, Nat.reduceMul, Nat.reduceSub, B9]); rfl) (by (try simp only [A2, As, A3, Bd, B8, Int.reduceToNat, Nat.reduceAdd, Nat.reduceMul, Nat.reduceSub, B9]); rfl)) ?_
 ·omega
 intro b15
 refine Ka I (Nn (Xa (Cq (Cg (Km I (Km I ?_))))))
 refine Kh I (vF I I I (by first | exact .here | exact .t1 | exact .t2 | exact .t3 | exact .t4 | exact .t5 | exact .t6 | exact .t7) aF (by kernel_rfl) (m := l.length) (by simp) (by simp) (ys := l.map B ++ List.replicate 72 (B 0)) (by simp [B])) ?_
 intro _
 refine Nn (Xa (Cq (Cg (Km I ?_))))
 refine Kh I (aN I I aF (by kernel_rfl : _ = some (some (.int .u8 0), 1, 1)) I (by simp only [List.map]; rfl) I I ?_ (by decide)) ?_
 ·simp [Value.cells]
 intro b20
 refine Kh I (app I aF (by kernel_rfl : _ = some (some (.int .u8 0), 1, 1)) I (by first | exact .here | exact .t1 | exact .t2 | exact .t3 | exact .t4 | exact .t5 | exact .t6 | exact .t7) (by rfl) (by rfl) (by first | exact .here | exact .t1 | exact .t2 | exact .t3 | exact .t4 | exact .t5 | exact .t6 | exact .t7) (by rfl) ?_ ?_) ?_
 ·(refine ⟨?_, ?_, ?_, ?_, ?_⟩ <;> (try simp) <;> omega)
 ·simp [Value.oneCell']
 intro g21
 refine WL.pu ?_
 intro hg21
 refine WL.st (S' := St (fun _ => True) w [⟨some g21.b, (l ++ [128]).map B ++ g21.spare, 5⟩] []) (fun w' h => h.snoc I) ?_
 refine Ka I (Nn (Xa (Cq (Cb ?_))))
 refine WC.loop (σ := Nat × App) (fun p => [(0, .string (S l)), (3, .slice (some ⟨p.2.b, 0, none⟩) (l.length + 1 + p.1) p.2.cap)]) (fun p w' => (p.1 ≤ dC l.length ∧ p.2.cap = l.length + 1 + p.1 + p.2.spare.length) ∧ St (fun _ => True) w [⟨some p.2.b, (l ++ [128] ++ List.replicate p.1 0).map B ++ p.2.spare, 5⟩] [] w') (fun p => dC l.length - p.1) (0, g21) (by repeat (first | exact S0 _ | refine Sc rfl ?_)) (fun w' h => ⟨⟨by simp, by simpa using hg21.2⟩, by simpa using h⟩) ?_
 rintro ⟨j, g⟩; dsimp only; refine WC.pu ?_; rintro ⟨hj, hg⟩
 refine Cq (Cq (Cg (Km I (Yo I aF ?_))))
 first
  | (refine Kq rfl (dc rfl rfl rfl ?_) ?_; focus (omega))
  | (refine Kq rfl (ub rfl rfl rfl ?_) ?_; focus (omega))
 refine Yj I (Nn (Xa ?_))
 refine Cd I (fun hc25 => ?_) (fun hc25 => ?_)
 ·(try simp only [sB] at hc25)
  refine Ck (Xa (Cb (Cg (Km I ?_))))
  refine Kh I (aN I I aF (by kernel_rfl : _ = some (some (.int .u8 0), 1, 1)) I (by simp only [List.map]; rfl) I I ?_ (by decide)) ?_
  ·simp [Value.cells]
  intro b27
  refine Kh I (app I aF (by kernel_rfl : _ = some (some (.int .u8 0), 1, 1)) I (by first | exact .here | exact .t1 | exact .t2 | exact .t3 | exact .t4 | exact .t5 | exact .t6 | exact .t7) (by rfl) (by rfl) (by first | exact .here | exact .t1 | exact .t2 | exact .t3 | exact .t4 | exact .t5 | exact .t6 | exact .t7) (by rfl) ?_ ?_) ?_
  ·(refine ⟨?_, ?_, ?_, ?_, ?_⟩ <;> (try simp) <;> omega)
  ·simp [Value.oneCell']
  intro g28
  refine WL.pu ?_
  intro hg28
  refine WL.st (S' := St (fun _ => True) w [⟨some g28.b, (l ++ [128] ++ List.replicate (j + 1) 0).map B ++ g28.spare, 5⟩] []) (fun w' h => by have := h.snoc (c := 0) rfl; rw [Cr, ← List.replicate_succ'] at this; exact this) ?_
  refine Ka I (Nn (Xd ?_))
  exact WX.loop (j + 1, g28) (by show dC l.length - (j + 1) < dC l.length - j; omega) (by repeat (first | exact S0 _ | refine Sc rfl ?_)) (fun w' h => ⟨⟨by show j + 1 ≤ _; omega, by have := hg28.2; show g28.cap = _; omega⟩, h⟩)
 ·(try simp only [sB] at hc25)
  refine Cx (Xc (Xc (Xe ?_)))
  obtain rfl : j = dC l.length := by omega
  refine Xa (Cq (Cg (Km I (Yn I u9 (Kq I (aS I I u3 nh) (Kq I (nw I I I) ?_))))))
  refine Ns 32 I (v' := .int .u64 ((8 * l.length : Nat) : Int)) (congrArg (Value.int .u64) (by rw [IntKind.wrap_u64, IntKind.wrap_u64]; omega)) ?_
  refine Ka I (Nn (Xa (Cq (Cq (Cg (Ka I (Nn (Xa (Cb ?_)))))))))
  refine WC.loop (σ := Nat × App) (fun p => [(4, .int .u64 ((8 * l.length : Nat) : Int)), (5, .int .i64 (56 - 8 * (p.1 : Int))), (3, .slice (some ⟨p.2.b, 0, none⟩) (l.length + 1 + dC l.length + p.1) p.2.cap)]) (fun p w' => (p.1 ≤ 8 ∧ p.2.cap = l.length + 1 + dC l.length + p.1 + p.2.spare.length) ∧ St (fun _ => True) w [⟨some p.2.b, (l ++ [128] ++ List.replicate (dC l.length) 0 ++ (nP (8 * l.length)).take p.1).map B ++ p.2.spare, 5⟩] [] w') (fun p => 8 - p.1) (0, g) (by repeat (first | exact S0 _ | refine Sc rfl ?_)) (fun w' h => ⟨⟨by simp, by simpa using hg⟩, by simpa using h⟩) ?_
  rintro ⟨q, g2⟩; dsimp only; refine WC.pu ?_; rintro ⟨hq, hg2⟩
  refine Cq (Cq (Cg (Km I (Yh I (Nn (Xa ?_))))))
  refine Cd I (fun hc34 => ?_) (fun hc34 => ?_)
  ·(try simp only [sB] at hc34)
   refine Ck (Xa (Cq (Cb (Cg (Km I (Km I (Km I ?_)))))))
   refine Kq I (f6 I I I ?_) ?_
   ·first | decide | omega
   refine Kq I (aS I I nh u5) (Ns 41 I (v' := B (bt (8 * l.length) (7 - q))) (congrArg (Value.int .u8) (vS (8 * l.length) q (by omega) (by omega))) ?_)
   refine Kh I (aN I I aF (by kernel_rfl : _ = some (some (.int .u8 0), 1, 1)) I (by simp only [List.map]; rfl) I I ?_ (by decide)) ?_
   ·simp [B, Value.cells]
   intro b42
   refine Kh I (app I aF (by kernel_rfl : _ = some (some (.int .u8 0), 1, 1)) I (by first | exact .here | exact .t1 | exact .t2 | exact .t3 | exact .t4 | exact .t5 | exact .t6 | exact .t7) (by rfl) (by rfl) (by first | exact .here | exact .t1 | exact .t2 | exact .t3 | exact .t4 | exact .t5 | exact .t6 | exact .t7) (by rfl) ?_ ?_) ?_
   ·(refine ⟨?_, ?_, ?_, ?_, ?_⟩ <;> (try simp [nP]) <;> omega)
   ·simp [B, Value.oneCell']
   intro g43
   refine WL.pu ?_
   intro hg43
   refine WL.st (S' := St (fun _ => True) w [⟨some g43.b, (l ++ [128] ++ List.replicate (dC l.length) 0 ++ (nP (8 * l.length)).take (q + 1)).map B ++ g43.spare, 5⟩] []) (fun w' h => by have := h.snoc (c := bt (8 * l.length) (7 - q)) rfl; rw [Cr, ← ss _ q (by omega)] at this; exact this) ?_
   refine Ka I (Nn (Xd (Xa (Cg (Km I ?_)))))
   first
    | (refine Kq rfl (aB rfl rfl rfl ?_) ?_; focus (omega))
    | (refine Kq rfl (aK rfl rfl rfl ?_) ?_; focus (omega))
   refine Ka I (Nn ?_)
   exact WX.loop (q + 1, g43) (by show 8 - (q + 1) < 8 - q; omega) (by repeat (first | exact S0 _ | refine Sc rfl ?_ | refine Sc (by show some (Value.int _ _) = some (Value.int _ _); congr 2; omega) ?_)) (fun w' h => ⟨⟨by show q + 1 ≤ _; omega, by have := hg43.2; show g43.cap = _; omega⟩, h⟩)
  ·(try simp only [sB] at hc34)
   refine Cx (Xc (Xc (Xe ?_)))
   obtain rfl : q = 8 := by omega
   obtain ⟨m, hm⟩ : ∃ m, pad l = m := ⟨_, rfl⟩
   have hmm : l ++ [128] ++ List.replicate (dC l.length) 0 ++ (nP (8 * l.length)).take 8 = m := by rw [← hm]; rfl
   rw [hmm]
   obtain ⟨nb, hnb⟩ := xB l
   have hlen : l.length + 1 + dC l.length + 8 = 64 * nb := by omega
   rw [hm] at hnb
   refine Xa (Cq (Cg ?_))
   refine Ku I (Oc I I (Kv fun w _ => u7 w)) ?_
   refine Kh I (Oz [.int .u32 0, .int .u32 0, .int .u32 0, .int .u32 0, .int .u32 0, .int .u32 0, .int .u32 0, .int .u32 0] I) ?_
   intro b6
   refine Ng I I (sta I I I (by first | exact .here | exact .t1 | exact .t2 | exact .t3 | exact .t4 | exact .t5 | exact .t6 | exact .t7) ?_ ?_ ?_) ?_
   ·kernel_rfl
   ·exact fp _
   ·first | rfl | simp
   intro _
   refine Nn (Xa (Cq (Cb ?_)))
   refine WC.loop (σ := G3) (fun p => [(6, .pointer (some ⟨b6, 0, none⟩)), (3, .slice p.ad (l.length + 1 + dC l.length + 8 - 64 * p.q) (g2.cap - 64 * p.q))]) (fun p w' => ((p.q ≤ nb ∧ p.x.length = 8) ∧ (p.q < nb → p.ad = some ⟨g2.b, 64 * p.q, none⟩) ∧ iq nb H0 m = iq (nb - p.q) p.x (m.drop (64 * p.q))) ∧ St (fun _ => True) w [⟨some b6, p.x.map u32, 337⟩, ⟨some g2.b, m.map B ++ g2.spare, 5⟩] [] w') (fun p => nb - p.q) ⟨0, some ⟨g2.b, 0, none⟩, H0⟩ (by repeat (first | exact S0 _ | refine Sc rfl ?_)) (fun w' h => ⟨⟨⟨by simp, rfl⟩, fun _ => rfl, by simp⟩, h⟩) ?_
   rintro ⟨q, ad, x⟩; dsimp only; refine WC.pu ?_; rintro ⟨⟨hq, hx⟩, had, hch⟩
   refine Cq (Cq (Cg (Km I (Yo I aF (Yg I (Nn (Xa ?_)))))))
   refine Cd I (fun hc47 => ?_) (fun hc47 => ?_)
   ·(try simp only [sB] at hc47)
    have hqn : q < nb := by omega
    obtain rfl := had hqn
    have hblk : (m.drop (64 * q)).length = 64 * nb - 64 * q := by simp [hnb]
    refine Ck (Xa (Cq (Cb ?_)))
    refine WC.mix [0, 0, 0, 1, 2] (by kernel_rfl) (by kernel_rfl) (fun w h => h.draw) ?_
    refine WM.r I I I (lda I I (by first | exact .here | exact .t1 | exact .t2 | exact .t3 | exact .t4 | exact .t5 | exact .t6 | exact .t7) eD I ?_) ?_
    ·rw [Ag, hx]; kernel_rfl
    refine WM.r I I I (Rm I I) ?_
    refine WM.r I I I (t8 I I I aF (by kernel_rfl : _ = some 1) ?_ (by (try simp only [A2, As, A3, Bd, B8, Int.reduceToNat, Nat.reduceAdd, Nat.reduceMul, Nat.reduceSub, B9]); rfl)) ?_
    ·omega
    refine WM.g I I I (Oc I I (Kv fun w hS => wi x hx ((m.drop (64 * q)).take 64) (by simp; omega) g2.b (64 * q) (g2.cap - 64 * q) (by omega) w (hS.sl_of (cs := m.map B ++ g2.spare) (by first | exact .here | exact .t1 | exact .t2) (by rw [List.drop_append_of_le_length (by simp; omega), List.take_append_of_le_length (by simp; omega), ← List.map_drop, ← List.map_take]; congr 1; simp; try omega)))) (fun _ _ h => by first | exact h | exact ⟨_, h⟩ | exact ⟨_, h.2⟩ | exact h.2 | exact h.sub (by repeat (first | exact Ax _ | apply List.Sublist.cons)) (fun _ h => by simp [*]) | exact h.2.sub (by repeat (first | exact Ax _ | apply List.Sublist.cons)) (fun _ h => by simp [*])) ?_
    intro _
    refine WM.h0 I I (sta I I I (by first | exact .here | exact .t1 | exact .t2 | exact .t3 | exact .t4 | exact .t5 | exact .t6 | exact .t7) ?_ ?_ ?_) ?_
    ·rw [Ag, ej _ _ hx]; kernel_rfl
    ·exact fp _
    ·rw [Ag, ej _ _ hx, Ag, hx]
    intro _
    refine WM.nil ?_
    refine Xd (Xa (Cg (Km I ?_)))
    refine Kq I (kT I I I aF (by kernel_rfl : _ = some 1) ?_ (by (try simp only [A2, As, A3, Bd, B8, Int.reduceToNat, Nat.reduceAdd, Nat.reduceMul, Nat.reduceSub, B9]); rfl) (by (try simp only [A2, As, A3, Bd, B8, Int.reduceToNat, Nat.reduceAdd, Nat.reduceMul, Nat.reduceSub, B9]); rfl) (by (try simp only [A2, As, A3, Bd, B8, Int.reduceToNat, Nat.reduceAdd, Nat.reduceMul, Nat.reduceSub, B9]); rfl)) ?_
    ·omega
    refine Ka I (Nn ?_)
    exact WX.loop ⟨q + 1, cut (some ⟨g2.b, 64 * q, none⟩) 64 (g2.cap - 64 * q) 1, ff x ((m.drop (64 * q)).take 64)⟩ (by show nb - (q + 1) < nb - q; omega) (by repeat (first | exact S0 _ | refine Sc (by show some (Value.slice _ _ _) = some (Value.slice _ _ _); congr 2 <;> omega) ?_ | refine Sc rfl ?_)) (fun w' h => ⟨⟨⟨by show q + 1 ≤ nb; omega, ej _ _ hx⟩, fun (hlt : q + 1 < nb) => by show cut _ _ _ _ = some ⟨g2.b, 64 * (q + 1), none⟩; rw [cut, Aa (by omega), Option.map_some, Addr.add_lit]; congr 2; try omega, by rw [hch, show nb - q = (nb - (q + 1)) + 1 by omega, ph, List.drop_drop]; congr 1⟩, h⟩)
   ·(try simp only [sB] at hc47)
    refine Cx (Xc (Xc (Xe ?_)))
    obtain rfl : q = nb := by omega
    have hfin : sha l = nC x := by rw [sha, hm, hnb, Dq _ (by omega), hch, Df]; rfl
    refine Xa (Cq (Cg (Ka I (Nn (Xa (Cq (Cq (Cg ?_))))))))
    refine Kq I (lda I I (by first | exact .here | exact .t1 | exact .t2 | exact .t3 | exact .t4 | exact .t5 | exact .t6 | exact .t7) eD I ?_) ?_
    ·rw [Ag, hx]; kernel_rfl
    refine Km I (Nn (Xa (Cb ?_)))
    refine WC.loop (σ := G4) (fun p => [(54, .agg (x.map u32).toArray), (55, .int .i64 (p.k : Int)), (7, .slice (p.ob.map fun b => ⟨b, 0, none⟩) (4 * p.k) p.cap)]) (fun p w' => (p.k ≤ 8 ∧ (p.k = 0 ∨ ∃ b, p.ob = some b) ∧ p.cap = 4 * p.k + p.spare.length) ∧ St (fun _ => True) w [⟨p.ob, (nC (x.take p.k)).map B ++ p.spare, 5⟩] [] w') (fun p => 8 - p.k) ⟨0, none, 0, []⟩ (by repeat (first | exact S0 _ | refine Sc rfl ?_)) (fun w' h => ⟨⟨by simp, .inl rfl, rfl⟩, (h.sub (own' := []) (fs' := []) (by simp) (by simp)).nil _⟩) ?_
    rintro ⟨k, ob, cap4, sp4⟩; dsimp only; refine WC.pu ?_; rintro ⟨hk, hob, hcap4⟩
    refine Cq (Cg (Yl I (Nn (Xa (Cq ?_)))))
    refine Cd I (fun hc56 => ?_) (fun hc56 => ?_)
    ·(try simp only [sB] at hc56)
     refine Ck (Xa (Cq (Cb (Cq (Cg ?_)))))
     refine Kq I (qy I I I eD dX I (by kernel_rfl) ?_ (by rw [A4, cW x _ 0 (by omega)]; rfl)) ?_
     ·omega
     refine Ka I (Nn (Xa (Cg (Km I (Km I (Kq I (iK I I I (by decide)) (Kq I (aS I I dX u5) (Ns 61 I (v' := B (bt (x.getD k 0).toNat 3)) (congrArg (Value.int .u8) (oa (x.getD k 0) 3)) (Km I (Kq I (iK I I I (by decide)) (Kq I (aS I I dX u5) (Ns 64 I (v' := B (bt (x.getD k 0).toNat 2)) (congrArg (Value.int .u8) (oa (x.getD k 0) 2)) (Km I (Kq I (iK I I I (by decide)) (Kq I (aS I I dX u5) (Ns 67 I (v' := B (bt (x.getD k 0).toNat 1)) (congrArg (Value.int .u8) (oa (x.getD k 0) 1)) (Km I (Kq I (aS I I dX u5) ?_))))))))))))))))))
     refine Ns 69 I (v' := B (bt (x.getD k 0).toNat 0)) (congrArg (Value.int .u8) (yE (x.getD k 0))) ?_
     refine Kh I (aN I I aF (by kernel_rfl : _ = some (some (.int .u8 0), 1, 1)) I (by simp only [List.map]; rfl) I I ?_ (by decide)) ?_
     ·simp [B, Value.cells]
     intro b70
     refine Kh I (app I aF (by kernel_rfl : _ = some (some (.int .u8 0), 1, 1)) I (by first | exact .here | exact .t1 | exact .t2 | exact .t3 | exact .t4 | exact .t5 | exact .t6 | exact .t7) (by rfl) (by rfl) (by first | exact .here | exact .t1 | exact .t2 | exact .t3 | exact .t4 | exact .t5 | exact .t6 | exact .t7) (by rfl) ?_ ?_) ?_
     ·(refine ⟨?_, ?_, ?_, ?_, ?_⟩ <;> (try simp [iO]) <;> omega)
     ·simp [B, Value.oneCell']
     intro g71
     refine WL.pu ?_
     intro hg71
     refine Ka I (Nn (Xd (Xa (Cg ?_))))
     first
      | (refine Kq rfl (Rz rfl rfl rfl ?_) ?_; focus (omega))
      | (refine Kq rfl (bB rfl rfl rfl ?_) ?_; focus (omega))
     refine Km I (Nn ?_)
     exact WX.loop ⟨k + 1, some g71.b, g71.cap, g71.spare⟩ (by show 8 - (k + 1) < 8 - k; omega) (by repeat (first | exact S0 _ | refine Sc rfl ?_)) (fun w' h => ⟨⟨by show k + 1 ≤ 8; omega, .inr ⟨_, rfl⟩, by have := hg71.2; show g71.cap = _; omega⟩, by rw [se x k (by omega), Bu]; exact h.sub (Bm _ _) (fun _ h => h)⟩)
    ·(try simp only [sB] at hc56)
     refine Cx (Xc (Xc (Xe ?_)))
     obtain rfl : k = 8 := by omega
     obtain ⟨b9, rfl⟩ : ∃ b, ob = some b := by rcases hob with h | h; omega; exact h
     rw [A7 (by omega)]
     refine Xa (Cq (Cg (Km I ?_)))
     refine Kq I (b2s (l := nC x) I I (by first | exact .here | exact .t1 | exact .t2 | exact .t3 | exact .t4 | exact .t5 | exact .t6 | exact .t7) aF u5 u9 ?_ ?_) ?_
     ·simp [iO, hx]
     ·simp [iO, hx]
     refine Ka I (Nn (Xa (Ce ?_)))
     refine WX.ret1 I I fun w' hS => ⟨by rw [hfin], hS.below⟩
theorem eH (l : List UInt8) : (sha l).length = 32 := by
 have : ∀ (n : Nat) (x : List W) (m : List UInt8), x.length = 8 → (iq n x m).length = 8 := by
  intro n
  induction n with
  | zero => intro x m h; exact h
  | succ n ih => intro x m h; exact ih _ _ (ej _ _ h)
 rw [sha, iO, this _ _ _ rfl]
theorem sv (key : List UInt8) : (ee key).length ≤ 64 := by
 unfold ee; split
 ·rw [eH]; omega
 ·omega
structure GC where
 k : Nat
 b : Nat
 cap : Nat
 sp : List Value
structure G3r where
 q : Nat
 b : Nat
 cap : Nat
 x : List W
theorem m5 (c : UInt8) (x : UInt8) : bits .xor .u8 (c.toNat : Int) (x.toNat : Int) = ((c ^^^ x).toNat : Int) := by
 have h1 := c.toNat_lt; have h2 := x.toNat_lt
 rw [u8_xor_nat _ _ h1 h2, UInt8.toNat_xor]
theorem iS (K : List UInt8) (f : UInt8 → UInt8) (k : Nat) (c : UInt8) (h : K[k]? = some c) :
  (((K.take k).map f ++ K.drop k).map B).set k (B (f c)) = ((K.take (k + 1)).map f ++ K.drop (k + 1)).map B := by
 have hk : k < K.length := (Ap.1 h).1
 rw [← List.map_set]
 congr 1
 have hlen : ((K.take k).map f).length = k := by simp; omega
 have hd : (K.drop k).set 0 (f c) = f c :: K.drop (k + 1) := by rw [B3 hk]; rfl
 rw [Do _ _ (by omega), hlen, Df, hd, Bv, h]
 simp
theorem iT (K : List UInt8) (f : UInt8 → UInt8) (k : Nat) (c : UInt8) (h : K[k]? = some c) : (((K.take k).map f ++ K.drop k).map B)[k]? = some (B c) := by
 have hk : k < K.length := (Ap.1 h).1
 have hlen : ((K.take k).map f).length = k := by simp; omega
 rw [A4, List.getElem?_append_right (by omega), hlen, Df, Cy, Bd, h]; rfl
theorem AR (key s : List UInt8) (hk : key.length ≤ 500000) (hs : s.length ≤ 500000) (w : World) :
  Cw 299 #[.string (S key), .string (S s)] w (.string (S (mac key s))) := by
 have hkl := sv key
 obtain ⟨K, hK⟩ : ∃ K, ee key ++ List.replicate (64 - (ee key).length) 0 = K := ⟨_, rfl⟩
 have hKl : K.length = 64 := by rw [← hK]; simp; omega
 have hx1 : m6 (ee key) 92 = K.map (· ^^^ 92) := by rw [← hK]; rfl
 have hx2 : m6 (ee key) 54 = K.map (· ^^^ 54) := by rw [← hK]; rfl
 refine enter (S := St (fun _ => True) w [] []) (L := [(0, .string (S key)), (1, .string (S s))]) Tryz.func299 rfl Tryz.ntmps299 rfl (Ac rfl (Ac rfl (An _))) (St.start (fun _ _ => trivial) (by simp)) ?_
 refine Cq (Cg (Ka I (Nn (Xa (Cq (Cq (Cg (Km I (Yn I u9 (Yg I (Nn (Xa (Ci I (fun hc10 => ?_) (fun hc10 => ?_))))))))))))))
 ·refine Cg (Km I (Ku I (Oc I I (Kv fun w _ => ju _ (by omega) w)) (Ka I (Ns 0 I (v' := .string (S (ee key))) (by rw [ee, Ae (by omega)]) ?_))))
  refine Nn (Xa (Cq (Cg (Gy ?_))))
  intro b5
  refine Gy ?_
  intro b6
  refine He ?_
  refine F0 ?_
  intro _
  refine He ?_
  refine F0 ?_
  intro _
  refine Nn (Xa (Cq (Cq (Cg (Km I (Nn (Xa (Cb (WC.loop (σ := Nat) (fun k => [(1, .string (S s)), (5, .pointer (some ⟨b5, 0, none⟩)), (6, .pointer (some ⟨b6, 0, none⟩)), (19, .int .i64 (k : Int))]) (fun k w' => k ≤ 64 ∧ St (fun _ => True) w [⟨some b6, ((K.take k).map (· ^^^ 92) ++ K.drop k).map B, 351⟩, ⟨some b5, ((K.take k).map (· ^^^ 54) ++ K.drop k).map B, 351⟩] [] w') (fun k => 64 - k) 0 (by repeat (first | exact S0 _ | refine Sc rfl ?_)) (fun w' h => ⟨by omega, h⟩) ?_)))))))))
  intro k; refine WC.pu ?_; intro hk
  refine HU (fun hc20 => ?_) (fun hc20 => ?_)
  ·obtain ⟨c, hc⟩ : ∃ c, K[k]? = some c := ⟨_, Ad (by omega)⟩; refine Ck (Xa (Cq (Cb (Cq (Cg (Km I (Ka I (Nn (Xa (Cq (Cg (Km I (Kq I (Jb I I I g3 (by kernel_rfl : _ = some 1) ?_) ?_)))))))))))))
   ·omega
   refine Kq I (ld I I .tc u5 I (by exact iT K (· ^^^ 54) k c hc)) ?_; refine Kq I (kR I I I) (Ns 25 I (v' := B (c ^^^ 54)) (congrArg (Value.int .u8) (m5 c 54)) ?_); refine Kq I (Jb I I I g3 (by kernel_rfl : _ = some 1) ?_) ?_
   ·omega
   refine Ng I I (st I I I .tc (by kernel_rfl) I ?_ I) ?_
   ·simp; omega
   intro _; refine Nn (Xa (Cg (Km I (Kq I (Jb I I I g3 (by kernel_rfl : _ = some 1) ?_) ?_))))
   ·omega
   refine Kq I (ld I I .tc u5 I (by exact iT K (· ^^^ 92) k c hc)) ?_; refine Kq I (kR I I I) (Ns 30 I (v' := B (c ^^^ 92)) (congrArg (Value.int .u8) (m5 c 92)) ?_); refine Kq I (Jb I I I g3 (by kernel_rfl : _ = some 1) ?_) ?_
   ·omega
   refine Ng I I (st I I I .tc (by kernel_rfl) I ?_ I) ?_
   ·simp; omega
   intro _; refine Nn (Xd (Xa (Cg ?_)))
   first
    | (refine Kq rfl (Rz rfl rfl rfl ?_) ?_; focus (omega))
    | (refine Kq rfl (bB rfl rfl rfl ?_) ?_; focus (omega))
   refine Km I (Nn ?_); exact WX.loop (k + 1) (by omega) (by repeat (first | exact S0 _ | refine Sc rfl ?_)) (fun w' h => ⟨by omega, by rw [iS K (· ^^^ 54) k c hc, iS K (· ^^^ 92) k c hc] at h; exact h⟩)
  ·refine Fq ?_; obtain rfl : k = 64 := by omega
   rw [A7 (by omega), Da (by omega), A5, A5]; refine Xa (Cq (WC.mix [0, 0, 0, 0, 0, 0, 1, 0, 1, 0] (by kernel_rfl) (by kernel_rfl) (fun w h => h.draw) ?_)); refine HG ?_; refine WM.r I I I (b2s (l := K.map (· ^^^ 92)) I I .tc aF u5 u9 ?_ ?_) ?_
   ·rw [List.drop_zero, A7 (by simp [hKl])]
   ·simp [hKl]
   refine HG ?_; refine WM.r I I I (b2s (l := K.map (· ^^^ 54)) I I .tc aF u5 u9 ?_ ?_) ?_
   ·rw [List.drop_zero, A7 (by simp [hKl])]
   ·simp [hKl]
   refine Gt ?_; refine WM.r I I I (eQ I I I ?_) ?_
   ·simp [hKl]; omega
   refine WM.g I I I (Oc I I (Kv fun w _ => ju _ (by simp [hKl]; omega) w)) (fun _ _ h => by first | exact h | exact ⟨_, h⟩ | exact ⟨_, h.2⟩ | exact h.2 | exact h.sub (by repeat (first | exact Ax _ | apply List.Sublist.cons)) (fun _ h => by simp [*]) | exact h.2.sub (by repeat (first | exact Ax _ | apply List.Sublist.cons)) (fun _ h => by simp [*])) ?_; intro _; refine WM.r I I I (eQ I I I ?_) ?_
   ·simp [hKl, eH]
   refine WM.g I I I (Oc I I (Kv fun w _ => ju _ (by simp [hKl, eH]) w)) (fun _ _ h => by first | exact h | exact ⟨_, h⟩ | exact ⟨_, h.2⟩ | exact h.2 | exact h.sub (by repeat (first | exact Ax _ | apply List.Sublist.cons)) (fun _ h => by simp [*]) | exact h.2.sub (by repeat (first | exact Ax _ | apply List.Sublist.cons)) (fun _ h => by simp [*])) ?_; intro _; refine WM.r I I I (Ra I I) ?_; refine WM.nil ?_; refine Xa (Ce ?_); exact WX.ret1 I I fun w' hS => ⟨by rw [mac, hx1, hx2], hS.below⟩
 ·refine WC.set 0 I (v' := .string (S (ee key))) (by rw [ee, Aa (by omega)]) ?_
  refine Ck (Xa (Cq (Cg (Gy ?_))))
  intro b5
  refine Gy ?_
  intro b6
  refine He ?_
  refine F0 ?_
  intro _
  refine He ?_
  refine F0 ?_
  intro _
  refine Nn (Xa (Cq (Cq (Cg (Km I (Nn (Xa (Cb (WC.loop (σ := Nat) (fun k => [(1, .string (S s)), (5, .pointer (some ⟨b5, 0, none⟩)), (6, .pointer (some ⟨b6, 0, none⟩)), (19, .int .i64 (k : Int))]) (fun k w' => k ≤ 64 ∧ St (fun _ => True) w [⟨some b6, ((K.take k).map (· ^^^ 92) ++ K.drop k).map B, 351⟩, ⟨some b5, ((K.take k).map (· ^^^ 54) ++ K.drop k).map B, 351⟩] [] w') (fun k => 64 - k) 0 (by repeat (first | exact S0 _ | refine Sc rfl ?_)) (fun w' h => ⟨by omega, h⟩) ?_)))))))))
  intro k; refine WC.pu ?_; intro hk
  refine HU (fun hc20 => ?_) (fun hc20 => ?_)
  ·obtain ⟨c, hc⟩ : ∃ c, K[k]? = some c := ⟨_, Ad (by omega)⟩; refine Ck (Xa (Cq (Cb (Cq (Cg (Km I (Ka I (Nn (Xa (Cq (Cg (Km I (Kq I (Jb I I I g3 (by kernel_rfl : _ = some 1) ?_) ?_)))))))))))))
   ·omega
   refine Kq I (ld I I .tc u5 I (by exact iT K (· ^^^ 54) k c hc)) ?_; refine Kq I (kR I I I) (Ns 25 I (v' := B (c ^^^ 54)) (congrArg (Value.int .u8) (m5 c 54)) ?_); refine Kq I (Jb I I I g3 (by kernel_rfl : _ = some 1) ?_) ?_
   ·omega
   refine Ng I I (st I I I .tc (by kernel_rfl) I ?_ I) ?_
   ·simp; omega
   intro _; refine Nn (Xa (Cg (Km I (Kq I (Jb I I I g3 (by kernel_rfl : _ = some 1) ?_) ?_))))
   ·omega
   refine Kq I (ld I I .tc u5 I (by exact iT K (· ^^^ 92) k c hc)) ?_; refine Kq I (kR I I I) (Ns 30 I (v' := B (c ^^^ 92)) (congrArg (Value.int .u8) (m5 c 92)) ?_); refine Kq I (Jb I I I g3 (by kernel_rfl : _ = some 1) ?_) ?_
   ·omega
   refine Ng I I (st I I I .tc (by kernel_rfl) I ?_ I) ?_
   ·simp; omega
   intro _; refine Nn (Xd (Xa (Cg ?_)))
   first
    | (refine Kq rfl (Rz rfl rfl rfl ?_) ?_; focus (omega))
    | (refine Kq rfl (bB rfl rfl rfl ?_) ?_; focus (omega))
   refine Km I (Nn ?_); exact WX.loop (k + 1) (by omega) (by repeat (first | exact S0 _ | refine Sc rfl ?_)) (fun w' h => ⟨by omega, by rw [iS K (· ^^^ 54) k c hc, iS K (· ^^^ 92) k c hc] at h; exact h⟩)
  ·refine Fq ?_; obtain rfl : k = 64 := by omega
   rw [A7 (by omega), Da (by omega), A5, A5]; refine Xa (Cq (WC.mix [0, 0, 0, 0, 0, 0, 1, 0, 1, 0] (by kernel_rfl) (by kernel_rfl) (fun w h => h.draw) ?_)); refine HG ?_; refine WM.r I I I (b2s (l := K.map (· ^^^ 92)) I I .tc aF u5 u9 ?_ ?_) ?_
   ·rw [List.drop_zero, A7 (by simp [hKl])]
   ·simp [hKl]
   refine HG ?_; refine WM.r I I I (b2s (l := K.map (· ^^^ 54)) I I .tc aF u5 u9 ?_ ?_) ?_
   ·rw [List.drop_zero, A7 (by simp [hKl])]
   ·simp [hKl]
   refine Gt ?_; refine WM.r I I I (eQ I I I ?_) ?_
   ·simp [hKl]; omega
   refine WM.g I I I (Oc I I (Kv fun w _ => ju _ (by simp [hKl]; omega) w)) (fun _ _ h => by first | exact h | exact ⟨_, h⟩ | exact ⟨_, h.2⟩ | exact h.2 | exact h.sub (by repeat (first | exact Ax _ | apply List.Sublist.cons)) (fun _ h => by simp [*]) | exact h.2.sub (by repeat (first | exact Ax _ | apply List.Sublist.cons)) (fun _ h => by simp [*])) ?_; intro _; refine WM.r I I I (eQ I I I ?_) ?_
   ·simp [hKl, eH]
   refine WM.g I I I (Oc I I (Kv fun w _ => ju _ (by simp [hKl, eH]) w)) (fun _ _ h => by first | exact h | exact ⟨_, h⟩ | exact ⟨_, h.2⟩ | exact h.2 | exact h.sub (by repeat (first | exact Ax _ | apply List.Sublist.cons)) (fun _ h => by simp [*]) | exact h.2.sub (by repeat (first | exact Ax _ | apply List.Sublist.cons)) (fun _ h => by simp [*])) ?_; intro _; refine WM.r I I I (Ra I I) ?_; refine WM.nil ?_; refine Xa (Ce ?_); exact WX.ret1 I I fun w' hS => ⟨by rw [mac, hx1, hx2], hS.below⟩
theorem DM {key s : List UInt8} {w : World} (hk : key.length ≤ 500000) (hs : s.length ≤ 500000) :
  Cw 299 #[.string (S key), .string (S s)] w (.string (S (mac key s))) :=
 AR key s hk hs w
end Go.Proofs.YtchonigdjamphaaGreatDoor
