/-
  Parts of the walk: Num Lib1 Plus App Ntl1 Ntl2.
-/
import Derived.Test.YtkdlonihbjhhoaaGreatDoorH7
namespace Go.Proofs.YtkdlonihbjhhoaaGreatDoor
set_option linter.unusedSimpArgs false
set_option linter.unusedVariables false
set_option maxRecDepth 20000
def val : Bs → Nat
 | [] => 0
 | c :: s => c.toNat * 256 ^ s.length + val s
def be : Nat → Nat → Bs
 | 0, _ => []
 | k + 1, x => UInt8.ofNat (x / 256 ^ k) :: be k x
def cF : Bs → Bs
 | [] => []
 | c :: s => if c = 0 then cF s else c :: s
def Can (s : Bs) : Prop := s.head? ≠ some 0
instance (s : Bs) : Decidable (Can s) := inferInstanceAs (Decidable (¬ _))
theorem aS : ∀ k x, (be k x).length = k
 | 0, x => rfl
 | k + 1, x => by simp [be, aS k x]
theorem jL (k : Nat) : 0 < 256 ^ k := Cv (by decide)
theorem aN : ∀ s : Bs, val s < 256 ^ s.length
 | [] => by simp [val]
 | c :: s => by
  have h1 := aN s
  have h2 := c.toNat_lt
  simp only [val, Am, Ax]
  have : (c.toNat + 1) * 256 ^ s.length ≤ 256 * 256 ^ s.length := Bm _ (by omega)
  rw [Bd, B0] at this
  rw [Ai (256 ^ s.length) 256]; omega
theorem fH : ∀ a b : Bs, val (a ++ b) = val a * 256 ^ b.length + val b
 | [], b => by simp [val]
 | c :: a, b => by
  simp only [List.cons_append, val, A2, fH a b, Bc]
  rw [Bd, As]; omega
theorem dB : ∀ k x, val (be k x) = x % 256 ^ k
 | 0, x => by simp [be, val, Nat.mod_one]
 | k + 1, x => by
  have e : x % 256 ^ (k + 1) = x % 256 ^ k + 256 ^ k * (x / 256 ^ k % 256) := by rw [Ax, Nat.mod_mul]
  simp only [be, val, aS, dB k x, UInt8.toNat_ofNat']
  rw [e, Ai (256 ^ k), Do]
theorem kO : ∀ s : Bs, val (cF s) = val s
 | [] => rfl
 | c :: s => by
  unfold cF; split
  ·rename_i h; subst h; rw [kO s, val]; simp
  ·rfl
theorem lX : ∀ s : Bs, Can (cF s)
 | [] => by simp [cF, Can]
 | c :: s => by
  unfold cF; split
  ·exact lX s
  ·rename_i h; simpa [Can] using h
theorem uh : ∀ {s : Bs}, Can s → cF s = s
 | [], _ => rfl
 | c :: s, h => by
  unfold cF; rw [Aa]; simpa [Can] using h
theorem oo {s : Bs} (h : Can s) (h0 : s ≠ []) : 256 ^ (s.length - 1) ≤ val s := by
 cases s with
 | nil => exact absurd rfl h0
 | cons c s =>
  have hc : 1 ≤ c.toNat := by
   rcases B3 c.toNat with h1 | h1
   ·exfalso; apply h; rw [List.head?_cons]; congr 1; exact UInt8.toNat_inj.1 h1
   ·exact h1
  simp only [val, Am, Ea]
  have := Bm (256 ^ s.length) hc
  rw [B0] at this; omega
theorem jp {a b : Bs} (ha : Can a) (hb : Can b) (h : val a ≤ val b) : a.length ≤ b.length := by
 rcases C3 b.length a.length with q | q
 ·exfalso
  have h0 : a ≠ [] := by intro h; rw [h] at q; simp at q
  have h1 := oo ha h0
  have h2 := aN b
  have h3 : 256 ^ b.length ≤ 256 ^ (a.length - 1) := A4 (by decide) (by omega)
  omega
 ·exact q
theorem qy : ∀ s : Bs, be s.length (val s) = s
 | [] => rfl
 | c :: s => by
  have h1 := aN s
  have hd : (c.toNat * 256 ^ s.length + val s) / 256 ^ s.length = c.toNat := by
   rw [Ai, Cp (jL _), Bh h1, A9]
  have hm : be s.length (c.toNat * 256 ^ s.length + val s) = be s.length (val s) := by
   have key : ∀ k x y, k ≤ s.length → be k (y * 256 ^ s.length + x) = be k x := by
    intro k
    induction k with
    | zero => intro x y _; rfl
    | succ k ih =>
     intro x y hk; simp only [be, ih x y (by omega)]; congr 1; apply UInt8.toNat_inj.1; rw [UInt8.toNat_ofNat', UInt8.toNat_ofNat']; have e : 256 ^ s.length = 256 ^ k * 256 * 256 ^ (s.length - (k + 1)) := by rw [← Ax, ← Bc]; congr 1; omega
     rw [e, show y * (256 ^ k * 256 * 256 ^ (s.length - (k + 1))) = 256 ^ k * (256 * (y * 256 ^ (s.length - (k + 1)))) by ac_rfl, Cp (jL _)]; omega
   exact key s.length (val s) c.toNat (Bj _)
  simp only [Am, be, val, hd, hm, qy s]
  congr 1
  apply UInt8.toNat_inj.1; rw [UInt8.toNat_ofNat']; have := c.toNat_lt; omega
theorem wV {a b : Bs} (hl : a.length = b.length) (h : val a = val b) : a = b := by
 rw [← qy a, ← qy b, hl, h]
theorem kH {a b : Bs} (ha : Can a) (hb : Can b) (h : val a = val b) : a = b :=
 wV (Nat.le_antisymm (jp ha hb (by omega)) (jp hb ha (by omega))) h
def ae (n : Nat) : Bs := cF (be (Nat.log2 n / 8 + 1) n)
theorem AN (n : Nat) : n < 256 ^ (Nat.log2 n / 8 + 1) := by
 have h1 : n < 2 ^ (Nat.log2 n + 1) := Nat.lt_log2_self
 have h2 : 256 ^ (Nat.log2 n / 8 + 1) = 2 ^ (8 * (Nat.log2 n / 8 + 1)) := by rw [show (256 : Nat) = 2 ^ 8 from rfl, ← Dt]
 rw [h2]
 exact A1 h1 (A4 (by decide) (by omega))
theorem af (n : Nat) : val (ae n) = n := by rw [ae, kO, dB, Al (AN n)]
theorem br (n : Nat) : Can (ae n) := lX _
theorem tH {s : Bs} (h : Can s) : ae (val s) = s := kH (br _) h (af _)
theorem dC (s : Bs) : cF s = ae (val s) := kH (lX _) (br _) (by rw [kO, af])
theorem ez : ae 0 = [] := kH (br _) (by simp [Can]) (by rw [af]; rfl)
theorem yK : Can [] := by simp [Can]
theorem aO {s : Bs} (h : Can s) : val s = 0 ↔ s = [] := ⟨fun h0 => kH h yK (by rw [h0]; rfl), fun h0 => by rw [h0]; rfl⟩
theorem bo {n k : Nat} : (ae n).length ≤ k ↔ n < 256 ^ k := by
 constructor
 ·intro h
  have h1 := aN (ae n)
  rw [af] at h1
  exact A1 h1 (A4 (by decide) h)
 ·intro h
  rcases C3 k (ae n).length with q | q
  ·exfalso
   have h0 : ae n ≠ [] := by intro h; rw [h] at q; simp at q
   have h1 := oo (br n) h0; rw [af] at h1; have h3 : 256 ^ k ≤ 256 ^ ((ae n).length - 1) := A4 (by decide) (by omega); omega
  ·exact q
theorem jx (s : Bs) (i : Nat) (h : i < s.length) : val s / 256 ^ i % 256 = (s.getD (s.length - 1 - i) default).toNat := by
 induction s with
 | nil => simp at h
 | cons c s ih =>
  simp only [val, Am, Ea] at h ⊢
  by_cases hi : i = s.length
  ·subst hi; rw [C2, B8, Ai, Cp (jL _), Bh (aN s), A9, Al c.toNat_lt]
  ·have e : 256 ^ s.length = 256 ^ i * (256 * 256 ^ (s.length - 1 - i)) := by
    rw [← As, ← Ax, ← Bc]; congr 1; omega
   rw [e, show c.toNat * (256 ^ i * (256 * 256 ^ (s.length - 1 - i))) = 256 ^ i * (256 * (c.toNat * 256 ^ (s.length - 1 - i))) by ac_rfl, Cp (jL _), Nat.mul_add_mod, ih (by omega)]; rw [show s.length - i = (s.length - 1 - i) + 1 by omega, C4]
theorem kP (s : Bs) (i : Nat) (h : s.length ≤ i) : val s / 256 ^ i % 256 = 0 := by
 rw [Bh (A1 (aN s) (A4 (by decide) h))]
def cD (a b i : Nat) : Nat := (a % 256 ^ i + b % 256 ^ i) / 256 ^ i
theorem j9 (a b : Nat) : cD a b 0 = 0 := by simp [cD, Nat.mod_one]
theorem mZ (a b i : Nat) : cD a b i ≤ 1 := by
 have h1 := Ak a (jL i); have h2 := Ak b (jL i)
 unfold cD
 have : a % 256 ^ i + b % 256 ^ i < 2 * 256 ^ i := by omega
 have := (Cl (jL i)).2 this
 omega
theorem iF (a b i : Nat) : (a + b) / 256 ^ i = cD a b i + a / 256 ^ i + b / 256 ^ i := by
 have h1 := Bb a (256 ^ i); have h2 := Bb b (256 ^ i)
 have e : a + b = 256 ^ i * (a / 256 ^ i + b / 256 ^ i) + (a % 256 ^ i + b % 256 ^ i) := by rw [Bf]; omega
 rw [e, Cp (jL i), cD]; omega
theorem ka (a b i : Nat) : cD a b (i + 1) = (cD a b i + a / 256 ^ i % 256 + b / 256 ^ i % 256) / 256 := by
 have h1 := iF a b i
 have h2 := iF a b (i + 1)
 rw [Ax, ← A5, ← A5, ← A5, h1] at h2
 omega
theorem mw (a b i : Nat) : UInt8.ofNat ((a + b) / 256 ^ i) = UInt8.ofNat (cD a b i + a / 256 ^ i % 256 + b / 256 ^ i % 256) := by
 apply UInt8.toNat_inj.1
 rw [UInt8.toNat_ofNat', UInt8.toNat_ofNat', iF]; omega
def bg (a b i : Nat) : Nat := if a % 256 ^ i < b % 256 ^ i then 1 else 0
theorem jr (a b : Nat) : bg a b 0 = 0 := by simp [bg, Nat.mod_one]
theorem qw {a b : Nat} (h : b ≤ a) (i : Nat) : (a - b) / 256 ^ i = a / 256 ^ i - b / 256 ^ i - bg a b i ∧ b / 256 ^ i + bg a b i ≤ a / 256 ^ i := by
 have h1 := Bb a (256 ^ i); have h2 := Bb b (256 ^ i)
 have m1 := Ak a (jL i); have m2 := Ak b (jL i)
 have hq : b / 256 ^ i ≤ a / 256 ^ i := Nat.div_le_div_right h
 unfold bg
 generalize 256 ^ i = P at *
 generalize hA : a / P = A at *
 generalize hB : b / P = B' at *
 split
 ·rename_i hlt
  have hne : B' < A := by
   rcases C3 B' A with q | q
   ·exact q
   ·exfalso
    have : A = B' := by omega
    subst this; omega
  obtain ⟨D, rfl⟩ : ∃ D, A = B' + 1 + D := ⟨A - B' - 1, by omega⟩
  refine ⟨?_, by omega⟩
  have e : a - b = P * D + (P + a % P - b % P) := by
   have : P * (B' + 1 + D) = P * B' + P + P * D := by rw [Bf, Bf, A3]
   omega
  rw [e, Cp (by omega), Bh (by omega)]; omega
 ·rename_i hge
  obtain ⟨D, rfl⟩ : ∃ D, A = B' + D := ⟨A - B', by omega⟩
  refine ⟨?_, by omega⟩
  have e : a - b = P * D + (a % P - b % P) := by
   have : P * (B' + D) = P * B' + P * D := Bf _ _ _; omega
  rw [e, Cp (by omega), Bh (by omega)]; omega
end Go.Proofs.YtkdlonihbjhhoaaGreatDoor
namespace Go.Proofs.YtkdlonihbjhhoaaGreatDoor
open Go.RowKit
set_option linter.unusedSimpArgs false
set_option linter.unusedVariables false
set_option maxHeartbeats 600000
set_option maxRecDepth 20000
theorem iG {w : World} : Below w.heap.size w w := ⟨rfl, rfl, rfl, Bj _, fun _ _ => rfl⟩
section
variable {ds : List Deferred} {P : Program} {o : Oper} {n : Nat} {L : al} {Z : World → Prop} {x y : Operand} {t t2 : TypeId} {k : IntKind} {i j : Int}
theorem g6 (hop : o.op = .call { callee := .builtin .max, args := #[x, y], argTypes := #[t, t2] }) (hx : ag L x = some (.int k i)) (hy : ag L y = some (.int k j)) : Rd ds P o n L Z (.int k (max i j)) :=
  aM fun a hF w _ => by
    have e : max i j = if j > i then j else i := by split <;> omega
    rw [e]; simp [execOp, hop, resolve, invoke, builtin, hF.eval hx, hF.eval hy, Builtin.max_, Builtin.max2]
theorem xT (hop : o.op = .call { callee := .builtin .min, args := #[x, y], argTypes := #[t, t2] }) (hx : ag L x = some (.int k i)) (hy : ag L y = some (.int k j)) : Rd ds P o n L Z (.int k (min i j)) :=
  aM fun a hF w _ => by
    have e : min i j = if j < i then j else i := by split <;> omega
    rw [e]; simp [execOp, hop, resolve, invoke, builtin, hF.eval hx, hF.eval hy, Builtin.min_, Builtin.min2]
end
theorem Ev (x : Nat) : (x : Int).fdiv (2 ^ (min (Int.toNat 8) IntKind.i64.bits)) = ((x / 256 : Nat) : Int) := by
  have m1 : min (Int.toNat 8) IntKind.i64.bits = 8 := by decide
  rw [m1, Dw _ (by decide)]; norm_cast
theorem zz {a b : Bs} {w : World} :
    Calls Tryz.prog 164 #[.string (S a), .string (S b)] w fun e w' => e = .returned (.int .i64 (Lib.compareBytes a b)) ∧ Below w.heap.size w w' :=
  (qs (S a) (S b) w).mono fun _ _ ⟨h1, h2⟩ => ⟨by simpa [S] using h1, by rw [h2]; exact iG⟩
theorem vo {x : Nat} {w : World} (hx : x < 256) :
    Calls Tryz.prog 152 #[.int .u8 (x : Int)] w fun e w' => e = .returned (.int .i64 (Lib.bitLen x)) ∧ Below w.heap.size w w' :=
  (x9 x w (by omega) (by omega)).mono fun _ _ ⟨h1, h2⟩ => ⟨by simpa using h1, by rw [h2]; exact iG⟩
theorem y2 {x : Int} {w : World} :
    Calls Tryz.prog 204 #[.int .i64 x] w fun e w' => e = .returned (.bool false) ∧ Below w.heap.size w w' := by
  refine enter (S := St (fun _ => True) w [] ([])) (L := [(0, .int .i64 x)]) Tryz.func204 rfl Tryz.ntmps204 rfl (fG rfl (ju _)) (St.start (fun _ _ => trivial) ia) ?_
  refine WC.sr ?_
  refine WL.r I I I (bQ I I) ?_
  refine WL.nt ?_
  refine WC.sr ?_
  refine WL.r I I I (cq I I) ?_
  refine WL.r I I I (cq I I) ?_
  refine WL.r I I I (nC I I I) ?_
  refine WL.r I I I (bQ I I) ?_
  refine WL.nt ?_
  refine WC.ret ?_
  exact WX.retN rfl (.tmp rfl .nil) fun w' hS => ⟨by (simp [tup]; done), hS.below⟩
def dy (a b : Int) : Int := if a < b then -1 else if b < a then 1 else 0
theorem DJ {a b : Int} {w : World} :
    Calls Tryz.prog 163 #[.int .i64 a, .int .i64 b] w fun e w' => e = .returned (.int .i64 (dy a b)) ∧ Below w.heap.size w w' := by
  refine enter (S := St (fun _ => True) w [] ([])) (L := [(0, .int .i64 a), (1, .int .i64 b)]) Tryz.func163 rfl Tryz.ntmps163 rfl (fG rfl (fG rfl (ju _))) (St.start (fun _ _ => trivial) ia) ?_
  refine WC.sr ?_
  refine WL.r I I I (bQ I I) ?_
  refine WL.nt ?_
  refine WC.sr ?_
  refine WL.r I I I (cq I I) ?_
  refine WL.g I I I (kw I I (by kernel_rfl) (gH fun w hS => y2)) ?_
  intro _
  refine WL.r I I I (bQ I I) ?_
  refine WL.nt ?_
  refine WC.sr ?_
  refine WL.r I I I (cq I I) ?_
  refine WL.g I I I (kw I I (by kernel_rfl) (gH fun w hS => y2)) ?_
  intro _
  refine WL.r I I I (bQ I I) ?_
  refine WL.nt ?_
  refine WC.seq ?_
  refine WC.sr ?_
  refine WL.r I I I (cq I I) ?_
  refine WL.nt ?_
  refine WC.cond I (fun hc11 => by exfalso; (try simp only [sB] at hc11); cases hc11) (fun hc11 => ?_)
  (try simp only [sB] at hc11)
  refine WC.skip ?_
  refine WX.then_normal ?_
  refine WC.seq ?_
  refine WC.sr ?_
  refine WL.r I I I (cq I I) ?_
  refine WL.nt ?_
  refine WC.cond I (fun hc13 => by exfalso; (try simp only [sB] at hc13); cases hc13) (fun hc13 => ?_)
  (try simp only [sB] at hc13)
  refine WC.skip ?_
  refine WX.then_normal ?_
  refine WC.seq ?_
  refine WC.sr ?_
  refine WL.r I I I (cq I I) ?_
  refine WL.r I I I (cq I I) ?_
  refine WL.r I I I (ll I I I) ?_
  refine WL.nt ?_
  refine WC.cond I (fun hc16 => ?_) (fun hc16 => ?_)
  · (try simp only [sB] at hc16); refine WC.sr ?_; refine WL.r I I I (bQ I I) ?_; refine WL.nt ?_; refine WC.ret ?_; refine WX.then_ret ?_; exact WX.retN I (.tmp I .nil) fun w' hS => ⟨by simp [dy, hc16, tup], hS.below⟩
  · (try simp only [sB] at hc16); refine WC.skip ?_; refine WX.then_normal ?_; refine WC.seq ?_; refine WC.sr ?_; refine WL.r I I I (cq I I) ?_; refine WL.r I I I (cq I I) ?_; refine WL.r I I I (nE I I I) ?_; refine WL.nt ?_; refine WC.cond I (fun hc19 => ?_) (fun hc19 => ?_)
    · (try simp only [sB] at hc19); refine WC.sr ?_; refine WL.r I I I (bQ I I) ?_; refine WL.nt ?_; refine WC.ret ?_; refine WX.then_ret ?_; exact WX.retN I (.tmp I .nil) fun w' hS => ⟨by simp [dy, tup]; omega, hS.below⟩
    · (try simp only [sB] at hc19); refine WC.skip ?_; refine WX.then_normal ?_; refine WC.sr ?_; refine WL.r I I I (bQ I I) ?_; refine WL.nt ?_; refine WC.ret ?_; exact WX.retN I (.tmp I .nil) fun w' hS => ⟨by simp [dy, tup]; omega, hS.below⟩
section
variable {ds : List Deferred} {P : Program} {o : Oper} {n : Nat} {L : al} {Z : World → Prop} {x y : Operand} {t t2 : TypeId} {k : IntKind} {i : Int}
theorem lm {k' : IntKind} (hop : o.op = .convert t t2 x) (hx : ag L x = some (.int k' i)) {d : TypeDesc} (h1 : P.underlying t = some d) (h2 : P.underlying t2 = some (.int k)) (h : k.wrap i = i) : Rd ds P o n L Z (.int k i) := by
 have := aV (ds := ds) (n := n) (St := Z) hop hx h1 h2
 rw [h] at this; exact this
theorem kL (c : UInt8) : IntKind.i64.wrap (c.toNat : Int) = (c.toNat : Int) := wP _ (by have := c.toNat_lt; omega)
end
section
variable {ds : List Deferred} {P : Program} {o : Oper} {n : Nat} {L : al} {ok : Nat → Prop} {w0 : World} {own : List Ent} {fs : List Fact} {x y : Operand} {t T : TypeId} {b off : Nat} {cs xs ys : List Value} {C : Ent → List Ent}
theorem ip (hop : o.op = .store t x y) (hx : ag L x = some (.pointer (some ⟨b, 0, none⟩))) (hy : ag L y = some (.agg xs.toArray)) [hk : HasC own (some b) cs T C] (hs : (P.info? t).map (·.size) = some xs.length) (h1 : ∀ v ∈ xs, v.oneCell' = true) (hl : xs.length = cs.length) :
  ∀ ext, Og ds P o n L (St ok w0 (ext ++ own) fs) (fun _ : Unit => undef) (fun _ => St ok w0 (ext ++ C ⟨some b, xs, T⟩) fs) := fun ext => sta hop hx hy (Ctx.right hk.h ext) hs h1 hl
end
class pK (fs more : List Fact) : Prop where
 h : ∀ f ∈ more, f ∈ fs
instance hasM_here {fs : List Fact} : pK fs fs := ⟨fun _ h => h⟩
instance hasM_there {f : Fact} {fs more : List Fact} [h : pK fs more] : pK (f :: fs) more := ⟨fun g hg => Cc _ (h.h g hg)⟩
theorem St.more {ok : Nat → Prop} {w0 w : World} {own : List Ent} {fs more : List Fact} (hS : St ok w0 own fs w) [h : pK fs more] : ∀ f ∈ more, f.holds (fun _ => True) w := fun f hf => ah (hS.fact f (h.h f hf))
theorem cQ {more : List Fact} {ok : Nat → Prop} {w : World} (h : ∀ f ∈ more, f.holds ok w) : ∀ f ∈ more, f.holds (fun _ => True) w := fun f hf => ah (h f hf)
theorem BU {ok : Nat → Prop} {w0 w : World} {ob : Option Nat} {xs sp : List Value} {T : TypeId} {r : List Ent} {fs : List Fact} (h : St ok w0 (⟨ob, xs ++ sp, T⟩ :: r) fs w) : St ok w0 r (Fact.sl (ob.map fun b => ⟨b, 0, none⟩) xs :: fs) w := by
 cases ob with
 | some b => exact sE h
 | none =>
  have h0 : xs ++ sp = [] := h.own_ _ (Eb)
  have h1 : xs = [] := (List.append_eq_nil_iff.1 h0).1
  subst h1
  exact St.add (h.sub (C6 _ _) (fun _ h => h)) (.inl rfl)
theorem tZ (z : Array Value) (m : Nat) : (Builtin.zeroCells z m).toList.length = m * z.size := by simp [Builtin.zeroCells]
section
variable {P : Program} {ok : Nat → Prop} {w0 : World} {fs : List Fact} {t e : TypeId} {sz z : Nat} {cs : List Value}
theorem uB {w : World} {own : List Ent} {kk : Nat} {ob : Option Nat} {len cap : Nat} {news : List Value} {zv : Value} {src : Value} {m : Nat} {ty : TypeId} (hS : St ok w0 own fs w) (hk : own[kk]? = some ⟨ob, cs, e⟩)
  (hu : P.underlying t = some (.slice e)) (hi : (P.info? e).map (fun i => (i.zero, i.size, i.bytes)) = some (some zv, z, sz)) (h1 : zv.cells.size = z) (hz0 : 0 < z)
  (hlen : len ≤ cap) (hcap : cap * z = cs.length) (hsrc : Src w src m news) (hm : news.length = m * z) (h1c : ∀ u ∈ news, u.oneCell' = true) (hpos : 0 < m)
  (h63 : len + m ≤ 9223372036854775807) (hb : (len + m) * sz ≤ 140737488355328) :
  ∃ (g : App) (w' : World), (Builtin.append_ #[t, t] ty #[.slice (ob.map fun b => ⟨b, 0, none⟩) len cap, src]).run P w = .ok (.slice (some ⟨g.b, 0, none⟩) (len + m) g.cap) w' ∧ (len + m ≤ g.cap ∧ g.cap * z = (len + m) * z + g.spare.length) ∧ St ok w0 (own.set kk ⟨some g.b, cs.take (len * z) ++ news ++ g.spare, e⟩) fs w' := by
 obtain ⟨i', hi', hz, hs, hbb⟩ := info_parts hi
 obtain ⟨ad, c', rfl, hnone, hcell⟩ := hsrc
 cases ad with
 | none => have := (hnone rfl).1; omega
 | some a =>
 have hnews := hcell a rfl
 have hl : news.length = m * i'.size := by rw [hs]; exact hm
 have zlen : ∀ q, (Builtin.zeroCells zv.cells q).toList.length = q * z := fun q => by rw [tZ, h1]
 have hge : ∀ g q : Nat, q ≤ g → g * z = q * z + (g - q) * z := fun g q h => by rw [← Bd]; congr 1; omega
 cases ob with
 | none =>
  have hcs : cs = [] := hS.own_ _ (A7 hk)
  subst hcs
  have hc0 : cap = 0 := by
   rcases B3 cap with h | h
   ·exact h
   ·have := Nat.mul_pos h hz0; simp at hcap; omega
  subst hc0
  have hl0 : len = 0 := by omega
  subst hl0
  have hrun := run_append_nil (P := P) w t ty e i' zv hu hi' hz a m c' news hl hnews hpos (by omega) (by rw [hbb]; rw [A0] at hb; omega)
  have hg := grownCap_ge w m 0 e
  refine ⟨⟨w.heap.size, grownCap w m 0 e, (Builtin.zeroCells zv.cells (grownCap w m 0 e - m)).toList⟩, _, by simpa using hrun, ⟨?_, ?_⟩, ?_⟩
  ·simpa using hg
  ·simp only [zlen, A0]; exact hge _ _ hg
  ·have := (hS.draw.alloc (news ++ (Builtin.zeroCells zv.cells (grownCap w m 0 e - m)).toList) e).replace kk
   have e1 : (news.toArray ++ Builtin.zeroCells zv.cells (grownCap w m 0 e - m)) = (news ++ (Builtin.zeroCells zv.cells (grownCap w m 0 e - m)).toList).toArray := by
    apply Array.ext'; simp
   simp only [List.take_nil, List.nil_append]; rw [e1]; exact this
 | some b' =>
  have hbk := hS.block hk
  have hlc : len * z ≤ cs.length := by rw [← hcap]; exact Bm _ hlen
  by_cases hroom : len + m ≤ cap
  ·have hlm : (len + m) * z ≤ cs.length := by rw [← hcap]; exact Bm _ hroom
   have hrun := run_append_room (P := P) w t ty e i' hu hi' b' len cap cs.toArray hbk a m c' news hl hnews h1c hroom (by rw [hs]; simp; rw [Bd] at hlm; omega); refine ⟨⟨b', cap, cs.drop (len * z + m * z)⟩, _, hrun, ⟨hroom, ?_⟩, ?_⟩
   ·simp only [Cu]; rw [hcap, ← Bd]; omega
   ·have := hS.setRow hk (cs.take (len * z) ++ news ++ cs.drop (len * z + m * z)); rw [hs]; simp only [hm]; exact this
  ·have hrun := run_append_grow (P := P) w t ty e i' zv hu hi' hz ⟨b', 0, none⟩ len cap (cs.take (len * z)) (by rw [hs]; simp; omega) (fun q u hq => by
     rw [Addr.add_lit, A0, dK hbk]; rw [Cz] at hq; split at hq
     ·exact hq
     ·cases hq) a m c' news hl hnews (by omega) (by omega) (by rw [hbb]; exact growslice_fits (by omega) hb)
   have hg := grownCap_ge w (len + m) cap e; refine ⟨⟨w.heap.size, grownCap w (len + m) cap e, (Builtin.zeroCells zv.cells (grownCap w (len + m) cap e - (len + m))).toList⟩, _, hrun, ⟨hg, ?_⟩, ?_⟩
   ·simp only [zlen]; exact hge _ _ hg
   ·have := (hS.draw.alloc (cs.take (len * z) ++ news ++ (Builtin.zeroCells zv.cells (grownCap w (len + m) cap e - (len + m))).toList) e).replace kk
    have e1 : ((cs.take (len * z)).toArray ++ news.toArray ++ Builtin.zeroCells zv.cells (grownCap w (len + m) cap e - (len + m))) = (cs.take (len * z) ++ news ++ (Builtin.zeroCells zv.cells (grownCap w (len + m) cap e - (len + m))).toList).toArray := by
     apply Array.ext'; simp
    rw [e1]; exact this
end
section
variable {ds : List Deferred} {P : Program} {o : Oper} {n : Nat} {L : al} {ok : Nat → Prop} {w0 : World} {own : List Ent} {C : Ent → List Ent} {fs : List Fact} {x y : Operand} {t e : TypeId} {sz z : Nat} {xs : List Value}
theorem wF {len cap : Nat} {ob : Option Nat} {news sp : List Value} {zv : Value} {m c : Nat} {ad : Option Addr} (hop : o.op = .call { callee := .builtin .append, args := #[x, y], argTypes := #[t, t] }) (hu : P.underlying t = some (.slice e)) (hi : (P.info? e).map (fun i => (i.zero, i.size, i.bytes)) = some (some zv, z, sz)) (h1 : zv.cells.size = z) (hz0 : 0 < z)
  (hk : Ctx own ⟨ob, xs ++ sp, e⟩ C) (hx : ag L x = some (.slice (ob.map fun b => ⟨b, 0, none⟩) len cap)) (hy : ag L y = some (.slice ad m c)) (hsrc : ∀ w, St ok w0 own fs w → (Fact.sl ad news).holds (fun _ => True) w) (hm : news.length = m * z)
  (hb : xs.length = len * z ∧ cap * z = len * z + sp.length ∧ len + m ≤ 9223372036854775807 ∧ (len + m) * sz ≤ 140737488355328) (h1c : ∀ u ∈ news, u.oneCell' = true) :
  Og ds P o n L (St ok w0 own fs) (fun g : Gr => .slice (g.ob.map fun b => ⟨b, 0, none⟩) (len + m) g.cap) (fun g w => (g.cap * z = (len + m) * z + g.sp.length) ∧ St ok w0 (C ⟨g.ob, (xs ++ news) ++ g.sp, e⟩) fs w) :=
 cO fun a hF w hS => by
  obtain ⟨kk, hkk, hC⟩ := hk.get
  obtain ⟨hxl, hcap, h63, hbb⟩ := hb
  have hlc : len ≤ cap := by
   rcases C3 cap len with h | h
   ·have := Nat.mul_lt_mul_of_pos_right h hz0; omega
   ·exact h
  by_cases hpos : 0 < m
  ·have htake : (xs ++ sp).take (len * z) = xs := by rw [← hxl]; simp
   have hs : Src w (.slice ad m c) m news := by
    rcases hsrc w hS with h0 | ⟨b', off', cells, T', fz, e1, _, e3, e4⟩
    ·subst h0; have := Nat.mul_pos hpos hz0; simp at hm; omega
    ·subst e1; refine ⟨_, _, rfl, (fun h => by cases h), fun a ha q u hq => ?_⟩; obtain rfl := Option.some.inj ha; have hlt : q < news.length := (Ar.1 hq).1; rw [Addr.add_lit]; simp [World.cell?, e3, e4 q hlt, hq]
   obtain ⟨g, w', hrun, hp, hS'⟩ := uB (P := P) (ty := o.type) hS hkk hu hi h1 hz0 hlc (by simp; omega) hs hm h1c hpos h63 hbb; rw [htake] at hS'; refine ⟨⟨some g.b, g.cap, g.spare⟩, w', .inl ?_, ?_, ?_⟩
   ·simp [execOp, hop, resolve, invoke, builtin, hF.eval hx, hF.eval hy, hrun]
   ·exact hp.2
   ·rw [hC]; exact hS'
  ·have hm0 : m = 0 := by omega
   subst hm0; have hn0 : news = [] := B5 (by omega); subst hn0; obtain ⟨i', hi', hz, hs, hbb'⟩ := info_parts hi; have hrun := oR (P := P) (w := w) (ob := ob) (len := len) (cap := cap) (c := c) (ad := ad) (ty := o.type) (sz := z) hu (by rw [hi']; simp [hs]) hlc; refine ⟨⟨ob, cap, sp⟩, w, .inl ?_, ?_, ?_⟩
   ·simp [execOp, hop, resolve, invoke, builtin, hF.eval hx, hF.eval hy, hrun]
   ·exact hcap
   ·rw [Bn]; rw [hC]
    have : own.set kk ⟨ob, xs ++ sp, e⟩ = own := by
     apply Ei; intro q; by_cases hq : kk = q
     ·subst hq; rw [Dc (Ar.1 hkk).1, hkk]
     ·rw [Dm hq]
    rw [this]; exact hS
theorem ox {len cap : Nat} {ob : Option Nat} {news sp : List Value} {zv : Value} {m c : Nat} {ad : Option Addr} (hop : o.op = .call { callee := .builtin .append, args := #[x, y], argTypes := #[t, t] }) (hu : P.underlying t = some (.slice e)) (hi : (P.info? e).map (fun i => (i.zero, i.size, i.bytes)) = some (some zv, z, sz)) (h1 : zv.cells.size = z) (hz0 : 0 < z)
  (hk : Ctx own ⟨ob, xs ++ sp, e⟩ C) (hx : ag L x = some (.slice (ob.map fun b => ⟨b, 0, none⟩) len cap)) (hy : ag L y = some (.slice ad m c)) (hsrc : ∀ ext w, St ok w0 (ext ++ own) fs w → (Fact.sl ad news).holds (fun _ => True) w) (hm : news.length = m * z)
  (hb : xs.length = len * z ∧ cap * z = len * z + sp.length ∧ len + m ≤ 9223372036854775807 ∧ (len + m) * sz ≤ 140737488355328) (h1c : ∀ u ∈ news, u.oneCell' = true) (ext : List Ent) :
  Og ds P o n L (St ok w0 (ext ++ own) fs) (fun g : Gr => .slice (g.ob.map fun b => ⟨b, 0, none⟩) (len + m) g.cap) (fun g w => (g.cap * z = (len + m) * z + g.sp.length) ∧ St ok w0 (ext ++ C ⟨g.ob, (xs ++ news) ++ g.sp, e⟩) fs w) :=
 wF hop hu hi h1 hz0 (Ctx.right hk ext) hx hy (hsrc ext) hm hb h1c
end
theorem cY {k : Nat} (c : List Value) : (([(k, Value.agg c.toArray)] : List (Nat × Value)).map Prod.snd).flatMap (fun v => v.cells.toList) = c := by simp [Value.cells]
theorem qR (off : Nat) (tl : List Value) : ∀ (c : List Value) (k : Nat) (done mid : List Value), mid.length = c.length → done.length = off + k →
  (c.zipIdx k).foldl (fun (cs : Array Value) (x : Value × Nat) => cs.setIfInBounds (off + x.2) x.1) (done ++ (mid ++ tl)).toArray = (done ++ (c ++ tl)).toArray
 | [], k, done, mid, h, _ => by
  have : mid = [] := B5 h
  subst this; simp
 | x :: c, k, done, [], h, _ => by simp at h
 | x :: c, k, done, m :: mid, h, hd => by
  rw [List.zipIdx_cons, List.foldl_cons]
  have e1 : (done ++ (m :: mid ++ tl)).toArray.setIfInBounds (off + k) x = ((done ++ [x]) ++ (mid ++ tl)).toArray := by
   rw [← hd]; apply Array.ext'; simp
  simp only
  rw [e1, qR off tl c (k + 1) (done ++ [x]) mid (by simpa using h) (by simp; omega)]
  simp
theorem vK (z : Nat) : ∀ (vs done zs : List Value) (k : Nat), zs.length = vs.length * z → (∀ v ∈ vs, v.cells.size = z) → done.length = k * z →
  Instr.fill (fun i => some (i * z, z)) (done ++ zs).toArray ((List.range' k vs.length).zip vs) = some (done ++ vs.flatMap fun v => v.cells.toList).toArray
 | [], done, zs, k, hl, _, _ => by have : zs = [] := B5 (by simpa using hl); subst this; simp [Instr.fill]
 | v :: vs, done, zs, k, hl, h1, hd => by
  have hv := h1 v (by simp)
  rw [Am, Bd, B0] at hl
  have hz : zs = zs.take z ++ zs.drop z := (Ds z zs).symm
  have hzl : (zs.take z).length = z := by rw [Bo]; omega
  have hdl : (zs.drop z).length = vs.length * z := by rw [Cu]; omega
  have e1 := qR (k * z) (zs.drop z) v.cells.toList 0 done (zs.take z) (by rw [hzl]; simpa using hv.symm) (by omega)
  rw [← hz] at e1
  have ih := vK z vs (done ++ v.cells.toList) (zs.drop z) (k + 1) hdl (fun u hu => h1 u (by simp [hu])) (by rw [A2, hd, Bd]; simp [hv])
  simp only [Am, List.range'_succ, List.zip_cons_cons, Instr.fill]
  rw [Aa (by simp [hv, hd]; omega)]
  have e2 : (v.cells.zipIdx.foldl (fun (cs : Array Value) (x : Value × Nat) => cs.setIfInBounds (k * z + x.2) x.1) (done ++ zs).toArray) = (done ++ (v.cells.toList ++ zs.drop z)).toArray := by
   rw [← e1, ← Array.foldl_toList, Array.toList_zipIdx]
  have e3 : (v.cells.zipIdx.foldl (fun cs x => match x with | (c, j) => cs.setIfInBounds (k * z + j) c) (done ++ zs).toArray) = (done ++ (v.cells.toList ++ zs.drop z)).toArray := e2
  rw [e3, ← Ch, ih]
  simp
section
variable {ds : List Deferred} {P : Program} {o : Oper} {n : Nat} {L : al} {ok : Nat → Prop} {w0 : World} {own : List Ent} {fs : List Fact} {t e : TypeId} {sz z : Nat} {cs : List Value}
theorem qX {len : Nat} {vs : List (Nat × Value)} {zv : Value} (hu : P.underlying t = some (.slice e))
  (hi : (P.info? e).map (fun i => (i.zero, i.size, i.bytes)) = some (some zv, z, sz)) (hzs : zv.cells.size = z) (hz0 : 0 < z) (hnum : vs = (List.range' 0 len).zip (vs.map Prod.snd)) (hlen : (vs.map Prod.snd).length = len) (h1 : ∀ v ∈ vs.map Prod.snd, v.cells.size = z) (hcs : (vs.map Prod.snd).flatMap (fun v => v.cells.toList) = cs) (hsm : len * z ≤ 16777216) (w : World) :
  (Instr.buildSlice t len vs.toArray).run P w = .ok (.slice (some ⟨w.heap.size, 0, none⟩) len len) (w.alloc (.cells cs.toArray e)) := by
 obtain ⟨i', hi', hz', hs, hbb⟩ := info_parts hi
 have hfill : ∀ zs : List Value, zs.length = len * z → Instr.fill (fun i => some (i * z, z)) zs.toArray vs = some cs.toArray := fun zs hzl => by
  have := vK z (vs.map Prod.snd) [] zs 0 (by rw [hlen]; exact hzl) h1 (by simp)
  rw [hlen, ← hnum, hcs] at this; simpa using this
 simp only [Instr.buildSlice, Sem.run_bind, run_underlying hu, Result.andThen, sizeOf, typeInfo, run_program, hi', Sem.run_pure, hs]
 rw [Aa (by omega)]
 by_cases h0 : len * z = 0
 ·have hzero : ((Array.range (len * z)).map fun x => (#[] : Array Value)[x % (#[] : Array Value).size]!) = (((Array.range (len * z)).map fun x => (#[] : Array Value)[x % (#[] : Array Value).size]!).toList).toArray := (Array.toArray_toList).symm
  rw [Ab h0]
  simp only [Sem.run_pure, Sem.run_bind, Result.andThen]
  rw [hzero, hfill _ (by simp)]
  rfl
 ·have hzero : ((Array.range (len * z)).map fun x => zv.cells[x % zv.cells.size]!) = (((Array.range (len * z)).map fun x => zv.cells[x % zv.cells.size]!).toList).toArray := (Array.toArray_toList).symm
  rw [Aa h0]
  simp only [Sem.run_bind, zeroValue, typeInfo, run_program, Result.andThen, hi', Sem.run_pure, hz']
  rw [hzero, hfill _ (by simp)]
  rfl
theorem iA {len : Nat} {parts : List (Nat × Operand)} {vs : List (Nat × Value)} {zv : Value} (hop : o.op = .buildSlice t len parts.toArray) (hp : cr L parts = some vs) (hu : P.underlying t = some (.slice e))
  (hi : (P.info? e).map (fun i => (i.zero, i.size, i.bytes)) = some (some zv, z, sz)) (hzs : zv.cells.size = z) (hz0 : 0 < z) (hnum : vs = (List.range' 0 len).zip (vs.map Prod.snd)) (hlen : (vs.map Prod.snd).length = len) (h1 : ∀ v ∈ vs.map Prod.snd, v.cells.size = z) (hcs : (vs.map Prod.snd).flatMap (fun v => v.cells.toList) = cs) (hsm : len * z ≤ 16777216) :
  Og ds P o n L (St ok w0 own fs) (fun b : Nat => .slice (some ⟨b, 0, none⟩) len len) (fun b => St ok w0 (⟨some b, cs, e⟩ :: own) fs) := yY hop hp hu (qX hu hi hzs hz0 hnum hlen h1 hcs hsm)
theorem iD {len : Nat} {parts : List (Nat × Operand)} {vs : List (Nat × Value)} {zv : Value} (hop : o.op = .buildSlice t len parts.toArray) (hp : cr L parts = some vs) (hu : P.underlying t = some (.slice e))
  (hi : (P.info? e).map (fun i => (i.zero, i.size, i.bytes)) = some (some zv, z, sz)) (hzs : zv.cells.size = z) (hz0 : 0 < z) (hnum : vs = (List.range' 0 len).zip (vs.map Prod.snd)) (hlen : (vs.map Prod.snd).length = len) (h1 : ∀ v ∈ vs.map Prod.snd, v.cells.size = z) (hcs : (vs.map Prod.snd).flatMap (fun v => v.cells.toList) = cs) (hsm : len * z ≤ 16777216) :
  Fre ds P o n L (fun b : Nat => .slice (some ⟨b, 0, none⟩) len len) cs e := y6 hop hp hu (qX hu hi hzs hz0 hnum hlen h1 hcs hsm)
end
theorem St.addN {ok : Nat → Prop} {w0 w : World} {own : List Ent} {fs : List Fact} (h : St ok w0 own fs w) : St ok w0 own (Fact.sl none [] :: fs) w := h.add (f := Fact.sl none []) (Or.inl rfl)
def okN (a : Bs) : Prop := a.length ≤ 128 ∧ Can a
instance (a : Bs) : Decidable (okN a) := inferInstanceAs (Decidable (_ ∧ _))
theorem jq (a : Bs) : Can a ↔ a.length = 0 ∨ (a.getD 0 default).toNat ≠ 0 := by
 cases a with
 | nil => simp [Can]
 | cons c s =>
  simp only [Can, List.head?_cons, Am, B8]
  constructor
  ·intro h; right; intro h0; exact h (by rw [show c = 0 from UInt8.toNat_inj.1 h0])
  ·rintro (h | h)
   ·omega
   ·intro h0; injection h0 with h0; subst h0; exact h rfl
theorem ay {a : Bs} {w : World} :
  Cw 83 #[.string (S a)] w (.bool (decide (okN a))) := by
 have hci := jq a
 refine En [] [(0, .string (S a))] Tryz.func83 I Tryz.ntmps83 I (Ac I (An _)) Fn (Cs (Ka I (Nt (Cs (Km I (Yn I u22 (Ym I (Km I (Nc 6 I (fun hg6 => ?_) (fun hg6 => ?_))))))))))
 ·refine Km I (Yn I u22 (Yi I (Km I (Nc 10 I (fun hg10 => ?_) (fun hg10 => ?_)))))
  ·refine T2 I (Kt I (Yp I (Yp I (Ka I (Nt (Ce ?_))))))
   exact Rn I (.tmp I .nil) fun w' hS => ⟨congrArg (fun b => Ending.returned (.bool b)) (by
    first
     | (symm; rw [decide_eq_true_eq]; exact ⟨by omega, hci.2 (.inl (by omega))⟩)
     | (symm; rw [decide_eq_false_iff_not]; rintro ⟨h, _⟩; omega)
     | (show (!decide ((((a.getD 0 default).toNat : Nat) : Int) = 0)) = _
        rw [B2]; simp only [Bx, decide_eq_false_iff_not, decide_eq_true_eq]
        exact ⟨fun h => ⟨by omega, hci.2 (.inr (by omega))⟩, fun h => by have := (hci.1 h.2).resolve_left (by omega); omega⟩)), hS.below⟩
  ·refine Km I (Kq I (bt I I I u22 ?_) ?_)
   ·omega
   refine Yj I (Yq I (Yp I (Ka I (Nt (Ce ?_)))))
   exact Rn I (.tmp I .nil) fun w' hS => ⟨congrArg (fun b => Ending.returned (.bool b)) (by
    first
     | (symm; rw [decide_eq_true_eq]; exact ⟨by omega, hci.2 (.inl (by omega))⟩)
     | (symm; rw [decide_eq_false_iff_not]; rintro ⟨h, _⟩; omega)
     | (show (!decide ((((a.getD 0 default).toNat : Nat) : Int) = 0)) = _
        rw [B2]; simp only [Bx, decide_eq_false_iff_not, decide_eq_true_eq]
        exact ⟨fun h => ⟨by omega, hci.2 (.inr (by omega))⟩, fun h => by have := (hci.1 h.2).resolve_left (by omega); omega⟩)), hS.below⟩
 ·refine T4 I (T4 I (Yq I (Ka I (Nt (Ce ?_)))))
  exact Rn I (.tmp I .nil) fun w' hS => ⟨congrArg (fun b => Ending.returned (.bool b)) (by
   first
    | (symm; rw [decide_eq_true_eq]; exact ⟨by omega, hci.2 (.inl (by omega))⟩)
    | (symm; rw [decide_eq_false_iff_not]; rintro ⟨h, _⟩; omega)
    | (show (!decide ((((a.getD 0 default).toNat : Nat) : Int) = 0)) = _
       rw [B2]; simp only [Bx, decide_eq_false_iff_not, decide_eq_true_eq]
       exact ⟨fun h => ⟨by omega, hci.2 (.inr (by omega))⟩, fun h => by have := (hci.1 h.2).resolve_left (by omega); omega⟩)), hS.below⟩
theorem dr {a : Bs} {i : Nat} {w : World} (ha : a.length ≤ 1000000000) (hi : i ≤ 1000000000) :
  Cw 129 #[.string (S a), .int .i64 (i : Int)] w (.int .i64 ((val a / 256 ^ i % 256 : Nat) : Int)) := by
 refine En [] [(0, .string (S a)), (1, .int .i64 (i : Int))] Tryz.func129 I Tryz.ntmps129 I (Ac I (Ac I (An _))) Fn (Cs (Ka I (Nt (Cq (Cs (Km I (Km I (Yn I u22 (Yh I (Nt (Ci I (fun hc8 => ?_) (fun hc8 => ?_))))))))))))
 ·refine Cs (Ka I (Nt (Ce (Xb ?_))))
  exact R1 I I (by rw [kP a i (by omega)]; rfl)
 ·refine Ck (Xa (Cs (Km I (Km I (Yn I u22 (Kq I (au I I I (by omega)) (Km I (Kq I (aW I I I (by omega)) ?_))))))))
  refine Kq I (bt I I I u22 ?_) ?_
  ·omega
  refine Kq I (lm I I u5 u3 ?_) ?_
  ·(exact kL _)
  refine Ka I (Nt (Ce ?_))
  exact R1 I I (by rw [jx a i (by omega)]; simp only [tup]; congr 3)
theorem kT {t : Bs} (h0 : 0 < t.length) (h : (t.getD 0 default).toNat = 0) : cF t = cF (t.drop 1) := by
 cases t with
 | nil => simp at h0
 | cons c s =>
  have : c = 0 := UInt8.toNat_inj.1 h
  subst this; simp [cF]
theorem dD {t : Bs} (h : t.length = 0 ∨ (t.getD 0 default).toNat ≠ 0) : cF t = t := uh ((jq t).2 h)
theorem ss {b : Bs} {ad : Option Addr} {cap : Nat} {w : World} {ok : Nat → Prop} (hF1 : (Fact.sl ad (b.map B)).holds ok w) (hcap : b.length ≤ cap) (hb : b.length ≤ 1000000000) :
  Cw 131 #[.slice ad b.length cap] w (.string (S (ae (val b)))) := by
 refine En [Fact.sl ad (b.map B)] [(0, .slice ad b.length cap)] Tryz.func131 I Tryz.ntmps131 I (Ac I (An _)) (Fc (ah hF1) Fn) (Cs (Ka I (Nt (Cq (Cb (Lo (σ := Bs × (Option Addr) × Nat) [] (fun gq => [(0, .slice gq.2.1 gq.1.length gq.2.2)]) (fun gq => cF gq.1 = cF b ∧ gq.1.length ≤ gq.2.2 ∧ gq.1.length ≤ b.length) (fun gq => gq.1.length) (fun gq => []) (fun gq => [Fact.sl gq.2.1 (gq.1.map B)]) (b, ad, cap) (S0 _) (S1 I) (by (try dsimp only); exact ⟨rfl, hcap, Bj _⟩) (fun _ h => h) ?_))))))
 rintro ⟨t, a', c⟩ hinv1; (try dsimp only at hinv1 ⊢)
 obtain ⟨ht, htc, htb⟩ := hinv1
 refine Cq (Cs (Km I (Yo I aE (Yg I (Km I (Nc 6 I (fun hg6 => ?_) (fun hg6 => ?_)))))))
 ·refine Km I (Kq I (Ib I I I aE (by omega) (by (rw [Af]; omega))) ?_)
  refine Kq I (ldm I I u5 I (by omega)) ?_
  refine Yi I (Yp I (Nt (Ci I (fun hc11 => ?_) (fun hc11 => ?_))))
  ·have hz : (t.getD 0 default).toNat = 0 := by (simp at hc11; exact hc11)
   refine Ck (Xa (Cb (Cg (Km I (Kq I (lg I I I aE (by kernel_rfl : _ = some 1) (by omega) (by (try simp only [sN, Int.reduceToNat, Nat.reduceAdd, Nat.reduceMul, Nat.reduceSub]); rfl) (by (try simp only [sN, Int.reduceToNat, Nat.reduceAdd, Nat.reduceMul, Nat.reduceSub]); rfl) (by (try simp only [sN, Int.reduceToNat, Nat.reduceAdd, Nat.reduceMul, Nat.reduceSub]); rfl)) ?_))))); refine Ns 13 I (v' := .slice (cut a' 1 c 1) (t.drop 1).length (c - 1)) (by rw [Cu]) ?_; refine Ka I (Nn (Xd (Lx ((t.drop 1, cut a' 1 c 1, c - 1)) (by simp only [Cu]; omega) (S0 _) (by refine (Sc ?_ (S0 _)) <;> (rfl)) ?_ (by exact fun w h => (h.add (f := Fact.sl (cut a' 1 c 1) ((t.drop 1).map B)) (kq 1 htc (h.fact (Fact.sl a' (t.map B)) (by simp)))).sub (Az _) (fun f hf => At.2 (.inl (List.mem_singleton.1 hf))))))); (try dsimp only); exact ⟨by rw [← kT (by omega) hz]; exact ht, by simp; omega, by simp; omega⟩
  ·refine Cx (Xc (Xc (Xe (Xa (Cs (Km I ?_)))))); refine Kq I (tN I I .tc aE u5 u22 ?_) ?_
   ·rfl
   refine Ka I (Nt (Ce ?_)); exact R1 I I (by rw [show ae (val b) = t from by rw [← dC, ← ht, dD (by omega)]]; rfl)
 ·refine T4 I (Yq I (Nt (Cd I (fun h => by cases h) (fun _ => ?_))))
  refine Cx (Xc (Xc (Xe (Xa (Cs (Km I ?_))))))
  refine Kq I (tN I I .tc aE u5 u22 ?_) ?_
  ·rfl
  refine Ka I (Nt (Ce ?_))
  exact R1 I I (by rw [show ae (val b) = t from by rw [← dC, ← ht, dD (by omega)]]; rfl)
theorem ek {b : Bs} {ad : Option Addr} {m cap : Nat} {w : World} {ok : Nat → Prop} (hF1 : (Fact.sl ad (b.map B)).holds ok w) (hm : m = b.length) (hcap : b.length ≤ cap) (hb : b.length ≤ 1000000000) :
  Cw 131 #[.slice ad m cap] w (.string (S (ae (val b)))) :=
 by subst hm; exact ss hF1 hcap hb
def fP (m k n : Nat) : List Value := (List.replicate (m - k) (0 : UInt8) ++ be k n).map B
theorem cW (m n : Nat) : fP m 0 n = List.replicate m (B 0) := by simp [fP, be]
theorem cu (m n : Nat) : fP m m n = (be m n).map B := by simp [fP]
theorem ck (m k n : Nat) (h : k ≤ m) : (fP m k n).length = m := by simp [fP, aS]; omega
theorem cj (m k n : Nat) (h : k < m) : (fP m k n).set (m - 1 - k) (B (UInt8.ofNat (n / 256 ^ k))) = fP m (k + 1) n := by
 unfold fP
 rw [← List.map_set]
 congr 1
 rw [show m - k = (m - (k + 1)) + 1 by omega, List.replicate_succ', Ch, Dg _ _ (by simp; omega), Dh, show m - 1 - k - (m - (k + 1)) = 0 by omega]
 rfl
theorem qu (n k : Nat) (h : k ≤ 8) : IntKind.u8.wrap ((n : Int).fdiv (2 ^ (min (Int.toNat ((8 * k : Nat) : Int)) IntKind.u64.bits))) = ((UInt8.ofNat (n / 256 ^ k)).toNat : Int) := by
 have m1 : min (Int.toNat ((8 * k : Nat) : Int)) IntKind.u64.bits = 8 * k := by
  have : IntKind.u64.bits = 64 := by decide
  omega
 have e2 : ((2 : Int) ^ (8 * k)) = ((256 ^ k : Nat) : Int) := by rw [Int.pow_mul]; norm_cast
 rw [m1, e2, IntKind.wrap_u8, Dw _ (Br _), UInt8.toNat_ofNat']
 norm_cast
theorem gD {n : Nat} {w : World} (hn : n < 18446744073709551616) :
  Cw 91 #[.int .u64 (n : Int)] w (.string (S (ae n))) := by
 refine En [] [(0, .int .u64 (n : Int))] Tryz.func91 I Tryz.ntmps91 I (Ac I (An _)) Fn (Cs (Ka I (Nt (Cs (Kh I (Oz [.int .u8 0, .int .u8 0, .int .u8 0, .int .u8 0, .int .u8 0, .int .u8 0, .int .u8 0, .int .u8 0] I) ?_)))))
 intro b3
 refine Nt (Cq (Cs (Km I (Nt (Cb (Lo (σ := Nat) [(0, _), (3, _)] (fun gq => [(5, .int .i64 (gq : Int))]) (fun gq => gq ≤ 8) (fun gq => 8 - gq) (fun gq => [⟨some b3, fP 8 gq n, 191⟩]) (fun gq => []) (0) (S2 I I) (S1 I) (by (try dsimp only); exact Aj _) (by exact fun w h => h) ?_))))))
 rintro k hinv1; (try dsimp only at hinv1 ⊢)
 obtain hk := hinv1
 refine Cs (Yl I (Nt (Cq (Ci I (fun hc6 => ?_) (fun hc6 => ?_)))))
 ·refine Ck (Xa (Cq (Cb (Cs (Km I (Ka I (Nt (Cg (Km I (Kq I (ex I I I (by omega)) (Ns 9 I (v' := .int .i64 (((7 - k : Nat) : Int))) (congrArg (Value.int .i64) (by omega)) (Km I (Km I (Kq I (dG I I I (by omega)) ?_))))))))))))))
  refine Kq I (iw I I I ?_) ?_
  ·omega
  refine Kq I (aV I I u76 u5) (Ns 14 I (v' := B (UInt8.ofNat (n / 256 ^ k))) (by exact congrArg (Value.int .u8) (qu n k (by omega))) ?_)
  refine Kq I (Jb I I I BQ (by kernel_rfl : _ = some 1) ?_) ?_
  ·omega
  refine Ng I I (st I I I .tc (by kernel_rfl) I ?_ (by rfl)) ?_
  ·rw [ck _ _ _ (by omega)]; omega
  intro _
  refine Nn (Xd (Xa (Cg (Kq I (Rz I I I (by omega)) (Km I (Nn (Lx (k + 1) (by (try dsimp only); omega) (S2 I I) (by refine (Sc ?_ (S0 _)) <;> (rfl)) ?_ (by exact fun w h => by rw [← cj 8 k n (by omega)]; exact h))))))))
  (try dsimp only)
  omega
 ·refine Cx (Xc (Xc (Xe ?_)))
  obtain rfl : k = 8 := by omega
  rw [cu]
  refine Xa (Cs (Kq I (fc I I BQ (by kernel_rfl : _ = some 1)) ?_))
  refine Kc I (fun w hS => ek (b := be 8 n) (by (exact hS.os)) (by rw [aS]) (by rw [aS]; decide) (by rw [aS]; decide)) (Ka I (Nt (Ce ?_)))
  exact R1 I I (by rw [dB, Al (by omega)]; rfl)
theorem px : ∀ (a b : Bs), a.length = b.length → Lib.compareBytes a b = dy (val a) (val b)
 | [], [], _ => by simp [Lib.compareBytes, dy, val]
 | [], _ :: _, h => by simp at h
 | _ :: _, [], h => by simp at h
 | x :: a, y :: b, h => by
  have hl : a.length = b.length := by simpa using h
  have ih := px a b hl
  have ha := aN a; have hb := aN b
  rw [hl] at ha
  simp only [Lib.compareBytes, val, hl]
  rcases Nat.lt_trichotomy x.toNat y.toNat with q | q | q
  ·have h1 : (x.toNat + 1) * 256 ^ b.length ≤ y.toNat * 256 ^ b.length := Bm _ q; rw [Bd, B0] at h1; rw [Ab (show x < y from q), dy, Ab (by omega)]
  ·have hxy : x = y := UInt8.toNat_inj.1 q; subst hxy; rw [Aa (show ¬ x < x from Nat.lt_irrefl _), Aa (show ¬ x < x from Nat.lt_irrefl _), ih]; unfold dy; split <;> split <;> (try split) <;> (try split) <;> omega
  ·have h1 : (y.toNat + 1) * 256 ^ b.length ≤ x.toNat * 256 ^ b.length := Bm _ q; rw [Bd, B0] at h1; rw [Aa (show ¬ x < y from Nat.not_lt.2 (Nat.le_of_lt q)), Ab (show y < x from q), dy, Aa (by omega), Ab (by omega)]
theorem rU {a b : Bs} (ha : Can a) (hb : Can b) (h : a.length ≠ b.length) : dy (a.length : Int) (b.length : Int) = dy (val a) (val b) := by
 unfold dy
 rcases Nat.lt_or_gt_of_ne h with q | q
 ·have : val a < val b := Nat.lt_of_not_le fun h' => by have := jp hb ha h'; omega
  rw [Ab (by omega), Ab (by omega)]
 ·have : val b < val a := Nat.lt_of_not_le fun h' => by have := jp ha hb h'; omega
  rw [Aa (by omega), Ab (by omega), Aa (by omega), Ab (by omega)]
theorem jT {a b : Bs} {w : World} (ha : Can a) (hb : Can b) :
  Cw 106 #[.string (S a), .string (S b)] w (.int .i64 (dy (val a) (val b))) := by
 refine En [] [(0, .string (S a)), (1, .string (S b))] Tryz.func106 I Tryz.ntmps106 I (Ac I (Ac I (An _))) Fn (Cs (Ka I (Nt (Cq (Cs (Km I (Yn I u22 (Km I (Yn I u22 (Kc I (fun w hS => DJ (a := (a.length : Int)) (b := (b.length : Int))) (Ka I (Nt (Cs (Km I (Yj I (Nt (Ci I (fun hc12 => ?_) (fun hc12 => ?_))))))))))))))))))
 ·have hne : a.length ≠ b.length := fun h => by rw [dy, Aa (by omega), Aa (by omega)] at hc12; exact hc12 rfl
  refine Cs (Km I (Ka I (Nt (Ce (Xb ?_)))))
  exact R1 I I (by rw [← rU ha hb hne]; rfl)
 ·have heq : a.length = b.length := by unfold dy at hc12; split at hc12 <;> (try split at hc12) <;> omega
  refine Ck (Xa (Cs (Km I (Km I (Kc I (fun w hS => zz) (Ka I (Nt (Ce ?_))))))))
  exact R1 I I (by rw [← px a b heq]; rfl)
def fh (a b : Bs) : Int := if okN a ∧ okN b then dy (val a) (val b) else 0
theorem eF {a b : Bs} {w : World} :
  Cw 57 #[.string (S a), .string (S b)] w (.int .i64 (fh a b)) := by
 refine En [] [(0, .string (S a)), (1, .string (S b))] Tryz.func57 I Tryz.ntmps57 I (Ac I (Ac I (An _))) Fn (Cs (Ka I (Nt (Cq (Cs (Km I (Kc I (fun w hS => ay) (Yt I (Km I (Nc 8 I (fun hg8 => ?_) (fun hg8 => ?_)))))))))))
 ·refine T2 I (Kt I (Yp I (Nt (Cd I (fun _ => ?_) (fun h => by cases h)))))
  refine Cs (Ka I (Nt (Ce (Xb ?_))))
  exact R1 I I (by rw [fh, Aa (by simp_all)]; rfl)
 ·refine Km I (Kc I (fun w hS => ay) (Yt I (Yq I (Nt (Ci I (fun hc12 => ?_) (fun hc12 => ?_))))))
  ·refine Cs (Ka I (Nt (Ce (Xb ?_)))); exact R1 I I (by rw [fh, Aa (by simp_all)]; rfl)
  ·have hab : okN a ∧ okN b := by simp_all
   refine Ck (Xa (Cs (Km I (Km I (Kc I (fun w hS => jT (a := a) (b := b) (by exact hab.1.2) (by exact hab.2.2)) (Ka I (Nt (Ce ?_)))))))); exact R1 I I (by rw [fh, Ab hab]; rfl)
theorem mM {a : Bs} {w : World} :
  Cw 130 #[.string (S a)] w (.tuple #[.string (S (if 128 < a.length then [] else a)), .int .i64 (if 128 < a.length then 5 else 0)]) := by
 refine En [] [(0, .string (S a))] Tryz.func130 I Tryz.ntmps130 I (Ac I (An _)) Fn (Cs (Ka I (Ka I (Nt (Cq (Cs (Km I (Yn I u22 (Yg I (Nt (Ci I (fun hc6 => ?_) (fun hc6 => ?_))))))))))))
 ·refine Cs (Ka I (Ka I (Nt (Ce (Xb ?_)))))
  exact R2 I I I (by rw [Ab (by omega), Ab (by omega)]; rfl)
 ·refine Ck (Xa (Cs (Km I (Ka I (Ka I (Nt (Ce ?_)))))))
  exact R2 I I I (by rw [Aa (by omega), Aa (by omega)]; rfl)
def Big : Nat := 256 ^ 128
theorem dJ {n : Nat} : (ae n).length ≤ 128 ↔ n < Big := bo
def addN (a b : Bs) : Bs × Int := if okN a ∧ okN b then (if val a + val b < Big then (ae (val a + val b), 0) else ([], 5)) else ([], 3)
def NE (r : Bs × Int) : Value := .tuple #[.string (S r.1), .int .i64 r.2]
theorem wJ {a b : Bs} {w : World} :
  Cw 76 #[.string (S a), .string (S b)] w (NE (addN a b)) := by
 refine En [] [(0, .string (S a)), (1, .string (S b))] Tryz.func76 I Tryz.ntmps76 I (Ac I (Ac I (An _))) Fn (Cs (Ka I (Ka I (Nt (Cq (Cs (Km I (Kc I (fun w hS => ay) (Yt I (Km I (Nc 13 I (fun hg13 => ?_) (fun hg13 => ?_))))))))))))
 ·refine T2 I (Kt I (Yp I (Nt (Cd I (fun _ => ?_) (fun h => by cases h)))))
  refine Cs (Ka I (Ka I (Nt (Ce (Xb ?_)))))
  exact R2 I I I (by rw [addN, Aa (by simp_all)]; rfl)
 ·refine Km I (Kc I (fun w hS => ay) (Yt I (Yq I (Nt (Ci I (fun hc17 => ?_) (fun hc17 => ?_))))))
  ·refine Cs (Ka I (Ka I (Nt (Ce (Xb ?_))))); exact R2 I I I (by rw [addN, Aa (by simp_all)]; rfl)
  ·have hab : okN a ∧ okN b := by simp_all
   have hal := hab.1.1; have hbl := hab.2.1; refine Ck (Xa (Cs (Km I (Yn I u22 (Km I (Yn I u22 (Kq I (g6 I I I) (Ns 22 I (v' := .int .i64 ((max a.length b.length : Nat) : Int)) (congrArg (Value.int .i64) (by omega)) (Kq I (Rz I I I (by omega)) ?_))))))))); obtain ⟨N, hN⟩ : ∃ N : Nat, N = max a.length b.length + 1 := ⟨_, rfl⟩; refine Ns 23 I (v' := .int .i64 (N : Int)) (by rw [hN]) ?_; have hNl : N ≤ 129 := by omega
   have hS256 : val a + val b < 256 ^ N := by
    have h1 := aN a; have h2 := aN b; have h3 : 256 ^ a.length ≤ 256 ^ (N - 1) := A4 (by decide) (by omega); have h4 : 256 ^ b.length ≤ 256 ^ (N - 1) := A4 (by decide) (by omega); have h5 : 256 ^ N = 256 ^ (N - 1) * 256 := by rw [← Ax]; congr 1; omega
    omega
   have hcl : (if 128 < (ae (val a + val b)).length then ([] : Bs) else ae (val a + val b)) = (addN a b).1 ∧ (if 128 < (ae (val a + val b)).length then (5 : Int) else 0) = (addN a b).2 := by
    rw [addN, Ab hab]; by_cases h : val a + val b < Big
    ·have hl := dJ.2 h; rw [Aa (show ¬ 128 < (ae (val a + val b)).length by omega), Aa (show ¬ 128 < (ae (val a + val b)).length by omega), Ab h]; exact ⟨rfl, rfl⟩
    ·have hl : ¬ (ae (val a + val b)).length ≤ 128 := fun h' => h (dJ.1 h')
     rw [Ab (show 128 < (ae (val a + val b)).length by omega), Ab (show 128 < (ae (val a + val b)).length by omega), Aa h]; exact ⟨rfl, rfl⟩
   refine Ka I (Nt (Cs (Km I (Kh I (ee I I I aE (by kernel_rfl : _ = some (some (.int .u8 0), 1, 1)) I ?_ (by (try simp only [sN, Int.reduceToNat, Nat.reduceAdd, Nat.reduceMul, Nat.reduceSub]); rfl) (by (try simp only [sN, Int.reduceToNat, Nat.reduceAdd, Nat.reduceMul, Nat.reduceSub]); rfl)) ?_))))
   ·omega
   intro b25; refine Ka I (Nt (Cs (Ka I (Ns 8 I (v' := .int .i64 ((cD (val a) (val b) 0 : Nat) : Int)) (congrArg (Value.int .i64) (by rw [j9]; rfl)) ?_)))); refine Nt (Cq (Cs (Km I (Km I (Nt (Cb (Lo (σ := Nat) [(0, _), (1, _), (6, _), (7, _), (26, _)] (fun gq => [(8, .int .i64 (cD (val a) (val b) gq : Int)), (27, .int .i64 (gq : Int))]) (fun gq => gq ≤ N) (fun gq => N - gq) (fun gq => [⟨some b25, fP N gq (val a + val b), 5⟩]) (fun gq => []) (0) (S5 I I I I I) (S2 I I) (by (try dsimp only); exact Aj _) (by exact fun w h => by rw [cW]; exact h) ?_))))))); rintro k hinv1; (try dsimp only at hinv1 ⊢); obtain hk := hinv1; refine Cs (Yl I (Nt (Cq (Ci I (fun hc28 => ?_) (fun hc28 => ?_)))))
   ·have hc1 := mZ (val a) (val b) k; have hd1 := Ak (val a / 256 ^ k) (show 0 < 256 by decide); have hd2 := Ak (val b / 256 ^ k) (show 0 < 256 by decide); refine Ck (Xa (Cq (Cb (Cs (Km I (Ka I (Nt (Cs (Km I (Km I (Km I (Kc I (fun w hS => dr (a := a) (i := k) (by omega) (by omega)) (Km I (Km I (Kc I (fun w hS => dr (a := b) (i := k) (by omega) (by omega)) (Kq I (aw I I I (by omega)) (Kq I (aw I I I (by omega)) (Ka I (Nt (Cs (Km I (Km I (Kq I (au I I I (by omega)) (Km I (Kq I (aW I I I (by omega)) (Ns 43 I (v' := .int .i64 ((N - 1 - k : Nat) : Int)) (congrArg (Value.int .i64) (by omega)) (Km I (Kq I (aV I I u3 u5) (Ns 45 I (v' := B (UInt8.ofNat ((val a + val b) / 256 ^ k))) (by exact congrArg (Value.int .u8) (by rw [yL, mw, Ct])) ?_))))))))))))))))))))))))))))); refine Kq I (Ja I I I aE (by kernel_rfl : _ = some 1) (by omega)) ?_; refine Ng I I (st I I I .tc (by kernel_rfl) I ?_ (by rfl)) ?_
    ·rw [ck _ _ _ (by omega)]; omega
    intro _; refine Nt (Cg (Km I (Kq I (iw I I I ?_) ?_)))
    ·decide
    refine Ns 48 I (v' := .int .i64 ((cD (val a) (val b) (k + 1) : Nat) : Int)) (congrArg (Value.int .i64) (by rw [Ev, ka, Ct])) ?_; refine Ka I (Nn (Xd (Xa (Cg (Kq I (Rz I I I (by omega)) (Km I (Nn (Lx (k + 1) (by (try dsimp only); omega) (S5 I I I I I) (by refine (Sc ?_ (Sc ?_ (S0 _))) <;> (rfl)) ?_ (by exact fun w h => by rw [← cj N k _ (by omega)]; exact h))))))))); (try dsimp only); omega
   ·refine Cx (Xc (Xc (Xe ?_))); obtain rfl : k = N := by omega
    rw [cu]; refine Xa (Cs (Km I (Kc I (fun w hS => ek (b := be k (val a + val b)) (by (exact hS.os)) (by rw [aS]) (by rw [aS]; exact Bj _) (by rw [aS]; omega)) (Ns 51 I (v' := .string (S (ae (val a + val b)))) (congrArg (fun l => Value.string (S l)) (by rw [dB, Al hS256])) ?_)))); refine Kc I (fun w hS => mM) (Ye I (Ye I (Ka I (Ka I (Nt (Ce ?_)))))); exact R2 I I I (by simp only [tup, NE]; rw [← hcl.1, ← hcl.2])
theorem jX (a b i : Nat) : bg a b i ≤ 1 := by unfold bg; split <;> omega
theorem eX (a b i : Nat) : bg a b (i + 1) = if a / 256 ^ i % 256 < b / 256 ^ i % 256 + bg a b i then 1 else 0 := by
 have e1 : a % 256 ^ (i + 1) = a % 256 ^ i + 256 ^ i * (a / 256 ^ i % 256) := by rw [Ax, Nat.mod_mul]
 have e2 : b % 256 ^ (i + 1) = b % 256 ^ i + 256 ^ i * (b / 256 ^ i % 256) := by rw [Ax, Nat.mod_mul]
 have m1 := Ak a (jL i); have m2 := Ak b (jL i)
 unfold bg
 rw [e1, e2]
 generalize 256 ^ i = P at *
 generalize a / P % 256 = x at *
 generalize b / P % 256 = y at *
 rcases Nat.lt_trichotomy x y with q | q | q
 ·have h1 : P * (x + 1) ≤ P * y := B6 _ q
  rw [Bf, A3] at h1
  rw [Ab (by omega)]
  split <;> rw [Ab (by omega)]
 ·subst q
  by_cases h : a % P < b % P
  ·rw [Ab (by omega), Ab h, Ab (by omega)]
  ·rw [Aa (by omega), Aa h, Aa (by omega)]
 ·have h1 : P * (y + 1) ≤ P * x := B6 _ q
  rw [Bf, A3] at h1
  rw [Aa (by omega)]
  split <;> rw [Aa (by omega)]
theorem iM {a b : Nat} (h : b ≤ a) (i : Nat) (x : Int) (hx : x = (a / 256 ^ i % 256 : Nat) - (b / 256 ^ i % 256 : Nat) - (bg a b i : Nat) ∨ x = (a / 256 ^ i % 256 : Nat) - (b / 256 ^ i % 256 : Nat) - (bg a b i : Nat) + 256) :
  IntKind.u8.wrap x = ((UInt8.ofNat ((a - b) / 256 ^ i)).toNat : Int) := by
 obtain ⟨h1, h2⟩ := qw h i
 have h3 := jX a b i
 rw [IntKind.wrap_u8, UInt8.toNat_ofNat', h1]
 omega
theorem AO {a b : Bs} {w : World} (hle : val b ≤ val a) (ha : a.length ≤ 1000000) (hb : b.length ≤ 1000000) :
  Cw 190 #[.string (S a), .string (S b)] w (.string (S (ae (val a - val b)))) := by
 have hS256 : val a - val b < 256 ^ a.length := Bk (Nat.sub_le _ _) (aN a)
 refine En [] [(0, .string (S a)), (1, .string (S b))] Tryz.func190 I Tryz.ntmps190 I (Ac I (Ac I (An _))) Fn (Cs (Ka I (Nt (Cs (Km I (Yn I u22 (Ka I (Nt (Cs (Km I (Kh I (ee I I I aE (by kernel_rfl : _ = some (some (.int .u8 0), 1, 1)) I ?_ (by (try simp only [sN, Int.reduceToNat, Nat.reduceAdd, Nat.reduceMul, Nat.reduceSub]); rfl) (by (try simp only [sN, Int.reduceToNat, Nat.reduceAdd, Nat.reduceMul, Nat.reduceSub]); rfl)) ?_)))))))))))
 ·omega
 intro b13
 refine Ka I (Nt (Cs (Ka I (Ns 7 I (v' := .int .i64 ((bg (val a) (val b) 0 : Nat) : Int)) (congrArg (Value.int .i64) (by rw [jr]; rfl)) ?_))))
 refine Nt (Cq (Cs (Km I (Km I (Nt (Cb (Lo (σ := Nat) [(0, _), (1, _), (5, _), (6, _), (14, _)] (fun gq => [(7, .int .i64 (bg (val a) (val b) gq : Int)), (15, .int .i64 (gq : Int))]) (fun gq => gq ≤ a.length) (fun gq => a.length - gq) (fun gq => [⟨some b13, fP a.length gq (val a - val b), 5⟩]) (fun gq => []) (0) (S5 I I I I I) (S2 I I) (by (try dsimp only); exact Aj _) (by exact fun w h => by rw [cW]; exact h) ?_)))))))
 rintro k hinv1; (try dsimp only at hinv1 ⊢)
 obtain hk := hinv1
 refine Cs (Yl I (Nt (Cq (Ci I (fun hc16 => ?_) (fun hc16 => ?_)))))
 ·have hc1 := jX (val a) (val b) k
  have hd1 := Ak (val a / 256 ^ k) (show 0 < 256 by decide); have hd2 := Ak (val b / 256 ^ k) (show 0 < 256 by decide)
  refine Ck (Xa (Cq (Cb (Cs (Km I (Ka I (Nt (Cs (Km I (Km I (Kc I (fun w hS => dr (a := a) (i := k) (by omega) (by omega)) (Km I (Km I (Kc I (fun w hS => dr (a := b) (i := k) (by omega) (by omega)) (Kq I (aI I I I (by omega)) (Ns 24 I (v' := .int .i64 ((((val a / 256 ^ k % 256 : Nat) : Int) - ((val b / 256 ^ k % 256 : Nat) : Int)))) (congrArg (Value.int .i64) (by omega)) (Km I (Kq I (aI I I I (by omega)) (Ka I (Nt (Cs (Ka I (Nt (Cq (Cs (Km I (Yl I (Nt (Ci I (fun hc28 => ?_) (fun hc28 => ?_))))))))))))))))))))))))))))))
  ·refine Cs (Km I (Kq I (bj I I I (by omega)) (Ka I (Nt (Cg (Ka I (Nt (Cg (Ns 7 I (v' := .int .i64 (bg (val a) (val b) (k + 1) : Int)) (congrArg (Value.int .i64) (by rw [eX]; (rw [Ab (by omega)]; rfl))) ?_))))))))); refine Km I (Km I (Kq I (au I I I (by omega)) (Km I (Kq I (aW I I I (by omega)) (Ns 35 I (v' := .int .i64 ((a.length - 1 - k : Nat) : Int)) (congrArg (Value.int .i64) (by omega)) (Km I (Kq I (aV I I u3 u5) (Ns 37 I (v' := B (UInt8.ofNat ((val a - val b) / 256 ^ k))) (by exact congrArg (Value.int .u8) (iM hle k _ (by omega))) ?_)))))))); refine Kq I (Ja I I I aE (by kernel_rfl : _ = some 1) (by omega)) ?_; refine Ng I I (st I I I .tc (by kernel_rfl) I ?_ (by rfl)) ?_
   ·rw [ck _ _ _ (by omega)]; omega
   intro _; refine Nn (Xd (Xa (Cg (Kq I (Rz I I I (by omega)) (Km I (Nn (Lx (k + 1) (by (try dsimp only); omega) (S5 I I I I I) (by refine (Sc ?_ (Sc ?_ (S0 _))) <;> (rfl)) ?_ (by exact fun w h => by rw [← cj a.length k _ (by omega)]; exact h)))))))); (try dsimp only); omega
  ·refine Ck (Xa (Cg (Ns 7 I (v' := .int .i64 (bg (val a) (val b) (k + 1) : Int)) (congrArg (Value.int .i64) (by rw [eX]; (rw [Aa (by omega)]; rfl))) ?_))); refine Km I (Km I (Kq I (au I I I (by omega)) (Km I (Kq I (aW I I I (by omega)) (Ns 35 I (v' := .int .i64 ((a.length - 1 - k : Nat) : Int)) (congrArg (Value.int .i64) (by omega)) (Km I (Kq I (aV I I u3 u5) (Ns 37 I (v' := B (UInt8.ofNat ((val a - val b) / 256 ^ k))) (by exact congrArg (Value.int .u8) (iM hle k _ (by omega))) ?_)))))))); refine Kq I (Ja I I I aE (by kernel_rfl : _ = some 1) (by omega)) ?_; refine Ng I I (st I I I .tc (by kernel_rfl) I ?_ (by rfl)) ?_
   ·rw [ck _ _ _ (by omega)]; omega
   intro _; refine Nn (Xd (Xa (Cg (Kq I (Rz I I I (by omega)) (Km I (Nn (Lx (k + 1) (by (try dsimp only); omega) (S5 I I I I I) (by refine (Sc ?_ (Sc ?_ (S0 _))) <;> (rfl)) ?_ (by exact fun w h => by rw [← cj a.length k _ (by omega)]; exact h)))))))); (try dsimp only); omega
 ·refine Cx (Xc (Xc (Xe ?_)))
  obtain rfl : k = a.length := by omega
  rw [cu]
  refine Xa (Cs (Km I (Kc I (fun w hS => ek (b := be a.length (val a - val b)) (by (exact hS.os)) (by rw [aS]) (by rw [aS]; exact Bj _) (by rw [aS]; omega)) (Ka I (Nt (Ce ?_))))))
  exact Rn I (.tmp I .nil) fun w' hS => ⟨by rw [dB, Al hS256]; rfl, hS.below⟩
def fi (a b : Bs) : Bs × Int := if okN a ∧ okN b then (if val a < val b then ([], 2) else (ae (val a - val b), 0)) else ([], 3)
theorem ax (a b : Nat) : dy a b < 0 ↔ a < b := by
 unfold dy
 constructor
 ·intro h; split at h <;> (try split at h) <;> omega
 ·intro h; rw [Ab (by omega)]; decide
theorem qH {a b : Bs} {w : World} :
  Cw 144 #[.string (S a), .string (S b)] w (NE (fi a b)) := by
 refine En [] [(0, .string (S a)), (1, .string (S b))] Tryz.func144 I Tryz.ntmps144 I (Ac I (Ac I (An _))) Fn (Cs (Ka I (Ka I (Nt (Cq (Cs (Km I (Kc I (fun w hS => ay) (Yt I (Km I (Nc 9 I (fun hg9 => ?_) (fun hg9 => ?_))))))))))))
 ·refine T2 I (Kt I (Yp I (Nt (Cd I (fun _ => ?_) (fun h => by cases h)))))
  refine Cs (Ka I (Ka I (Nt (Ce (Xb ?_)))))
  exact R2 I I I (by rw [fi, Aa (by simp_all)]; rfl)
 ·refine Km I (Kc I (fun w hS => ay) (Yt I (Yq I (Nt (Ci I (fun hc13 => ?_) (fun hc13 => ?_))))))
  ·refine Cs (Ka I (Ka I (Nt (Ce (Xb ?_))))); exact R2 I I I (by rw [fi, Aa (by simp_all)]; rfl)
  ·have hab : okN a ∧ okN b := by simp_all
   have hal := hab.1.1; have hbl := hab.2.1; refine Ck (Xa (Cq (Cs (Km I (Km I (Kc I (fun w hS => jT (a := a) (b := b) (by exact hab.1.2) (by exact hab.2.2)) (Yl I (Nt (Ci I (fun hc17 => ?_) (fun hc17 => ?_))))))))))
   ·rw [ax] at hc17; refine Cs (Ka I (Ka I (Nt (Ce (Xb ?_))))); exact R2 I I I (by rw [fi, Ab hab, Ab hc17]; rfl)
   ·have hle : val b ≤ val a := Nat.not_lt.1 fun h => by have := (ax _ _).2 h; omega
    refine Ck (Xa (Cs (Km I (Km I (Kc I (fun w hS => AO (a := a) (b := b) (by assumption) (by omega) (by omega)) (Ka I (Ka I (Nt (Ce ?_))))))))); exact R2 I I I (by rw [fi, Ab hab, Aa (by omega)]; rfl)
def aH (a : Bs) : Nat := if a = [] then 0 else 8 * (a.length - 1) + Lib.bitLen (a.getD 0 default).toNat
theorem js : ∀ f x, Lib.bitLenAux f x ≤ f
 | 0, x => by simp [Lib.bitLenAux]
 | f + 1, x => by unfold Lib.bitLenAux; split; omega; have := js f (x / 2); omega
theorem fE (x : Nat) : Lib.bitLen x ≤ 64 := js 64 x
theorem ou {a : Bs} {w : World} :
  Cw 90 #[.string (S a)] w (.int .i64 ((if okN a then aH a else 0 : Nat) : Int)) := by
 refine En [] [(0, .string (S a))] Tryz.func90 I Tryz.ntmps90 I (Ac I (An _)) Fn (Cs (Ka I (Nt (Cq (Cs (Km I (Kc I (fun w hS => ay) (Yt I (Km I (Nc 6 I (fun hg6 => ?_) (fun hg6 => ?_)))))))))))
 ·refine T2 I (Yp I (Nt (Cd I (fun _ => ?_) (fun h => by cases h))))
  refine Cs (Ka I (Nt (Ce (Xb ?_))))
  exact R1 I I (by (rw [Aa hg6]; rfl))
 ·refine Km I (Ys I (Yq I (Nt (Ci I (fun hc9 => ?_) (fun hc9 => ?_)))))
  ·refine Cs (Ka I (Nt (Ce (Xb ?_)))); exact R1 I I (by (rw [hc9]; simp [aH, tup]))
  ·have hok : okN a := by simp_all
   have hne : a ≠ [] := by simp_all
   have hl0 : 0 < a.length := Db.2 hne; have hal := hok.1; have hbl := fE (a.getD 0 default).toNat; refine Ck (Xa (Cs (Km I (Yn I u22 (Kq I (au I I I (by omega)) (Kq I (dG I I I (by omega)) (Km I (Kq I (bt I I I u22 ?_) ?_))))))))
   ·omega
   refine Kc I (fun w hS => vo (x := (a.getD 0 default).toNat) (by exact (a.getD 0 default).toNat_lt)) (Kq I (aw I I I (by omega)) (Ka I (Nt (Ce ?_)))); exact R1 I I (by rw [Ab hok, aH, Aa hne]; rfl)
theorem CB (a : Bs) : okN a ↔ a.length ≤ 128 ∧ (a = [] ∨ (a.getD 0 default).toNat ≠ 0) := by
 rw [okN, jq]; cases a <;> simp
theorem av {a : Bs} {w : World} :
  Cw 49 #[.string (S a)] w (.bool (decide (okN a))) := by
 have hci := CB a
 refine En [] [(0, .string (S a))] Tryz.func49 I Tryz.ntmps49 I (Ac I (An _)) Fn (Cs (Ka I (Nt (Cs (Km I (Yn I u22 (Ym I (Km I (Nc 6 I (fun hg6 => ?_) (fun hg6 => ?_))))))))))
 ·refine Km I (Ys I (Km I (Nc 9 I (fun hg9 => ?_) (fun hg9 => ?_))))
  ·refine T2 I (Kt I (Yp I (Yp I (Ka I (Nt (Ce ?_))))))
   exact Rn I (.tmp I .nil) fun w' hS => ⟨congrArg (fun b => Ending.returned (.bool b)) (by
    first
     | (symm; rw [decide_eq_true_eq, hci]; exact ⟨by omega, .inl (by simp_all)⟩)
     | (symm; rw [decide_eq_false_iff_not, hci]; rintro ⟨h, _⟩; omega)
     | (show (!decide ((((a.getD 0 default).toNat : Nat) : Int) = 0)) = _
        rw [B2]; simp only [Bx, decide_eq_false_iff_not, decide_eq_true_eq, hci]
        exact ⟨fun h => ⟨by omega, .inr (by omega)⟩, fun h => by have := h.2.resolve_left (by simp_all); omega⟩)), hS.below⟩
  ·refine Km I (Kq I (bt I I I u22 ?_) ?_)
   ·(exact ⟨by decide, Db.2 (by simp_all)⟩)
   refine Yj I (Yq I (Yp I (Ka I (Nt (Ce ?_)))))
   exact Rn I (.tmp I .nil) fun w' hS => ⟨congrArg (fun b => Ending.returned (.bool b)) (by
    first
     | (symm; rw [decide_eq_true_eq, hci]; exact ⟨by omega, .inl (by simp_all)⟩)
     | (symm; rw [decide_eq_false_iff_not, hci]; rintro ⟨h, _⟩; omega)
     | (show (!decide ((((a.getD 0 default).toNat : Nat) : Int) = 0)) = _
        rw [B2]; simp only [Bx, decide_eq_false_iff_not, decide_eq_true_eq, hci]
        exact ⟨fun h => ⟨by omega, .inr (by omega)⟩, fun h => by have := h.2.resolve_left (by simp_all); omega⟩)), hS.below⟩
 ·refine T4 I (T2 I (Kt I (Yq I (Ka I (Nt (Ce ?_))))))
  exact Rn I (.tmp I .nil) fun w' hS => ⟨congrArg (fun b => Ending.returned (.bool b)) (by
   first
    | (symm; rw [decide_eq_true_eq, hci]; exact ⟨by omega, .inl (by simp_all)⟩)
    | (symm; rw [decide_eq_false_iff_not, hci]; rintro ⟨h, _⟩; omega)
    | (show (!decide ((((a.getD 0 default).toNat : Nat) : Int) = 0)) = _
       rw [B2]; simp only [Bx, decide_eq_false_iff_not, decide_eq_true_eq, hci]
       exact ⟨fun h => ⟨by omega, .inr (by omega)⟩, fun h => by have := h.2.resolve_left (by simp_all); omega⟩)), hS.below⟩
theorem lv {a : Bs} {i : Nat} {w : World} (ha : a.length ≤ 1000000000) (hi : i ≤ 1000000000) :
  Cw 121 #[.string (S a), .int .i64 (i : Int)] w (.int .i64 ((val a / 256 ^ i % 256 : Nat) : Int)) := by
 refine En [] [(0, .string (S a)), (1, .int .i64 (i : Int))] Tryz.func121 I Tryz.ntmps121 I (Ac I (Ac I (An _))) Fn (Cs (Ka I (Nt (Cq (Cs (Km I (Km I (Yn I u22 (Yh I (Nt (Ci I (fun hc8 => ?_) (fun hc8 => ?_))))))))))))
 ·refine Cs (Ka I (Nt (Ce (Xb ?_))))
  exact R1 I I (by rw [kP a i (by omega)]; rfl)
 ·refine Ck (Xa (Cs (Km I (Km I (Yn I u22 (Kq I (au I I I (by omega)) (Km I (Kq I (aW I I I (by omega)) ?_))))))))
  refine Kq I (bt I I I u22 ?_) ?_
  ·omega
  refine Kq I (lm I I u5 u3 ?_) ?_
  ·(exact kL _)
  refine Ka I (Nt (Ce ?_))
  exact R1 I I (by rw [jx a i (by omega)]; simp only [tup]; congr 3)
theorem io : ∀ (b : Bs) (i : Nat), (∀ j, j < i → (b.getD j default).toNat = 0) → i ≤ b.length → cF b = cF (b.drop i)
 | b, 0, _, _ => by simp
 | [], i + 1, _, h => by simp at h
 | c :: s, i + 1, h, hl => by
  have h0 := h 0 (by omega)
  have : c = 0 := UInt8.toNat_inj.1 h0
  subst this
  rw [List.drop_succ_cons, ← io s i (fun j hj => h (j + 1) (by omega)) (by simpa using hl)]
  simp [cF]
theorem xz {b : Bs} {ad : Option Addr} {cap : Nat} {w : World} {ok : Nat → Prop} (hF1 : (Fact.sl ad (b.map B)).holds ok w) (hcap : b.length ≤ cap) (hb : b.length ≤ 1000000000) :
  Cw 75 #[.slice ad b.length cap] w (.string (S (ae (val b)))) := by
 refine En [Fact.sl ad (b.map B)] [(0, .slice ad b.length cap)] Tryz.func75 I Tryz.ntmps75 I (Ac I (An _)) (Fc (ah hF1) Fn) (Cs (Ka I (Nt (Cs (Ka I (Nt (Cq (Cb (Lp (σ := Nat) [(0, _)] (fun gq => [(3, .int .i64 (gq : Int))]) (fun gq => gq ≤ b.length ∧ ∀ j, j < gq → (b.getD j default).toNat = 0) (fun gq => b.length - gq) (0) (S1 I) (S1 I) (by (try dsimp only); exact ⟨Aj _, fun j h => by omega⟩) ?_)))))))))
 rintro i hinv1; (try dsimp only at hinv1 ⊢)
 obtain ⟨hi, hz⟩ := hinv1
 refine Cq (Cs (Km I (Km I (Yo I aE (Yl I (Km I (Nc 8 I (fun hg8 => ?_) (fun hg8 => ?_))))))))
 ·refine Km I (Km I (Kq I (Ib I I I aE (by omega) (by (rw [Af]; omega))) ?_))
  refine Kq I (ldm I I u5 I (by omega)) ?_
  refine Yi I (Yp I (Nt (Ci I (fun hc14 => ?_) (fun hc14 => ?_))))
  ·have hzi : (b.getD i default).toNat = 0 := by (simp at hc14; exact hc14)
   refine Ck (Xa (Cb (Cg (Km I (Kq I (Rz I I I (by omega)) (Ka I (Nn (Xd (Ly (i + 1) (by (try dsimp only); omega) (S1 I) (by refine (Sc ?_ (S0 _)) <;> (rfl)) ?_ (fun _ h => h)))))))))); (try dsimp only); exact ⟨by omega, fun j hj => by rcases C8.1 hj with h | rfl; exact hz j h; exact hzi⟩
  ·refine Cx (Xc (Xc (Xe (Xa (Cs (Km I (Km I ?_))))))); refine Kq I (xL I I I aE (by kernel_rfl : _ = some 1) (by omega) (by (try simp only [sN, Int.reduceToNat, Nat.reduceAdd, Nat.reduceMul, Nat.reduceSub]); rfl) (by (try simp only [sN, Int.reduceToNat, Nat.reduceAdd, Nat.reduceMul, Nat.reduceSub]); rfl) (by (try simp only [sN, Int.reduceToNat, Nat.reduceAdd, Nat.reduceMul, Nat.reduceSub]); rfl)) ?_; refine WL.st (fun w h => (h.add (f := Fact.sl (sh ad i) ((b.drop i).map B)) (kY i (h.fact (Fact.sl ad (b.map B)) (by simp))))) ?_; refine WL.st (fun w h => (h.add (f := Fact.sl (cut ad i cap 1) ((b.drop i).map B)) (kq i hcap (h.fact (Fact.sl ad (b.map B)) (by simp))))) ?_; refine Kq I (tN I I .tc aE u5 u22 ?_) ?_
   ·simp
   refine Ka I (Nt (Ce ?_)); exact R1 I I (by rw [show ae (val b) = b.drop i from by rw [← dC, io b i hz hi, dD (by rw [Cu]; (exact .inr (by rw [show (b.drop i).getD 0 default = b.getD i default from by simp [List.getD]]; omega)))]]; rfl)
 ·refine T4 I (Kt I (Yq I (Nt (Cd I (fun h => by cases h) (fun _ => ?_)))))
  refine Cx (Xc (Xc (Xe (Xa (Cs (Km I (Km I ?_)))))))
  refine Kq I (lg I I I aE (by kernel_rfl : _ = some 1) (by omega) (by (try simp only [sN, Int.reduceToNat, Nat.reduceAdd, Nat.reduceMul, Nat.reduceSub]); rfl) (by (try simp only [sN, Int.reduceToNat, Nat.reduceAdd, Nat.reduceMul, Nat.reduceSub]); rfl) (by (try simp only [sN, Int.reduceToNat, Nat.reduceAdd, Nat.reduceMul, Nat.reduceSub]); rfl)) ?_
  refine WL.st (fun w h => (h.add (f := Fact.sl (sh ad i) ((b.drop i).map B)) (kY i (h.fact (Fact.sl ad (b.map B)) (by simp))))) ?_
  refine WL.st (fun w h => (h.add (f := Fact.sl (cut ad i cap 1) ((b.drop i).map B)) (kq i hcap (h.fact (Fact.sl ad (b.map B)) (by simp))))) ?_
  refine Kq I (tN I I .tc aE u5 u22 ?_) ?_
  ·simp
  refine Ka I (Nt (Ce ?_))
  exact R1 I I (by rw [show ae (val b) = b.drop i from by rw [← dC, io b i hz hi, dD (by rw [Cu]; (exact .inl (by omega)))]]; rfl)
theorem iR {b : Bs} {ad : Option Addr} {m cap : Nat} {w : World} {ok : Nat → Prop} (hF1 : (Fact.sl ad (b.map B)).holds ok w) (hm : m = b.length) (hcap : b.length ≤ cap) (hb : b.length ≤ 1000000000) :
  Cw 75 #[.slice ad m cap] w (.string (S (ae (val b)))) :=
 by subst hm; exact xz hF1 hcap hb
theorem m0 (x : Nat) : IntKind.u8.wrap ((x % 256 : Nat) : Int) = ((UInt8.ofNat x).toNat : Int) := by
 rw [IntKind.wrap_u8, UInt8.toNat_ofNat']; omega
theorem ew {n : Nat} {w : World} (hn : n < 18446744073709551616) :
  Cw 27 #[.int .u64 (n : Int)] w (.string (S (ae n))) := by
 refine En [] [(0, .int .u64 (n : Int))] Tryz.func27 I Tryz.ntmps27 I (Ac I (An _)) Fn (Cs (Ka I (Nt (Cs (Kh I (ee I I I aE (by kernel_rfl : _ = some (some (.int .u8 0), 1, 1)) I ?_ (by (try simp only [sN, Int.reduceToNat, Nat.reduceAdd, Nat.reduceMul, Nat.reduceSub]); rfl) (by (try simp only [sN, Int.reduceToNat, Nat.reduceAdd, Nat.reduceMul, Nat.reduceSub]); rfl)) ?_)))))
 ·omega
 intro b5
 refine Ka I (Nt (Cq (Cs (Ka I (Ns 0 I (v' := .int .u64 ((n / 256 ^ 0 : Nat) : Int)) (by simp) ?_)))))
 refine Ns 4 I (v' := .int .i64 (7 - ((0 : Nat) : Int))) (by simp) ?_
 refine Nt (Cb (Lo (σ := Nat) [(3, _)] (fun gq => [(0, .int .u64 ((n / 256 ^ gq : Nat) : Int)), (4, .int .i64 (7 - (gq : Int)))]) (fun gq => gq ≤ 8) (fun gq => 8 - gq) (fun gq => [⟨some b5, fP 8 gq n, 5⟩]) (fun gq => []) (0) (S1 I) (S2 I I) (by (try dsimp only); exact Aj _) (by exact fun w h => by rw [cW]; exact h) ?_))
 rintro k hinv1; (try dsimp only at hinv1 ⊢)
 obtain hk := hinv1
 refine Cq (Cs (Km I (Yh I (Nt (Ci I (fun hc7 => ?_) (fun hc7 => ?_))))))
 ·have hdv : n / 256 ^ k ≤ n := B1 _ _
  refine Ck (Xa (Cq (Cb (Cs (Km I (Km I (Ns 11 I (v' := .int .i64 (((7 - k : Nat) : Int))) (congrArg (Value.int .i64) (by omega)) (Km I (Kq I (q9 I I I (by decide)) (Kq I (aV I I u76 u5) (Ns 14 I (v' := B (UInt8.ofNat (n / 256 ^ k))) (by exact congrArg (Value.int .u8) (m0 _)) ?_)))))))))))
  refine Kq I (Ja I I I aE (by kernel_rfl : _ = some 1) (by omega)) ?_
  refine Ng I I (st I I I .tc (by kernel_rfl) I ?_ (by rfl)) ?_
  ·rw [ck _ _ _ (by omega)]; omega
  intro _
  refine Nt (Cg (Km I (Kq I (xS I I I (by decide) ?_) ?_)))
  ·(generalize n / 256 ^ k = z at *; exact IntWalk.u64_in _ ⟨by omega, by omega⟩)
  refine Ns 17 I (v' := .int .u64 ((n / 256 ^ (k + 1) : Nat) : Int)) (congrArg (Value.int .u64) (by rw [Ax, ← A5])) ?_
  refine Ka I (Nn (Xd (Xa (Cg (Km I (Kq I (aI I I I (by omega)) (Ns 9 I (v' := .int .i64 (7 - ((k + 1 : Nat) : Int))) (congrArg (Value.int .i64) (by omega)) (Ka I (Nn (Lx (k + 1) (by (try dsimp only); omega) (S1 I) (by refine (Sc ?_ (Sc ?_ (S0 _))) <;> (rfl)) ?_ (by exact fun w h => by rw [← cj 8 k n (by omega)]; exact h)))))))))))
  (try dsimp only)
  omega
 ·refine Cx (Xc (Xc (Xe ?_)))
  obtain rfl : k = 8 := by omega
  rw [cu]
  refine Xa (Cs (Km I (Kc I (fun w hS => iR (b := be 8 n) (by (exact hS.os)) (by rw [aS]) (by rw [aS]; decide) (by rw [aS]; decide)) (Ka I (Nt (Ce ?_))))))
  exact R1 I I (by rw [dB, Al (by omega)]; rfl)
theorem s8 {a b : Bs} (h : a.length = b.length) {i : Nat} (hi : i < a.length) (hp : a.take i = b.take i) (hne : (a.getD i default).toNat ≠ (b.getD i default).toNat) : dy (val a) (val b) = if (a.getD i default).toNat < (b.getD i default).toNat then -1 else 1 := by
 have ea : a = a.take i ++ (a.getD i default :: a.drop (i + 1)) := by
  conv => lhs; rw [← Ds i a, Bl hi]
  rw [List.getD_eq_getElem?_getD, Ad hi]; rfl
 have eb : b = b.take i ++ (b.getD i default :: b.drop (i + 1)) := by
  conv => lhs; rw [← Ds i b, Bl (by omega : i < b.length)]
  rw [List.getD_eq_getElem?_getD, Ad (by omega : i < b.length)]; rfl
 have la := aN (a.drop (i + 1)); have lb := aN (b.drop (i + 1))
 have hl : (a.drop (i + 1)).length = (b.drop (i + 1)).length := by simp [h]
 have va : val a = val (a.take i) * 256 ^ ((b.drop (i + 1)).length + 1) + ((a.getD i default).toNat * 256 ^ (b.drop (i + 1)).length + val (a.drop (i + 1))) := by
  conv => lhs; rw [ea]
  rw [fH, val, Am, hl]
 have vb : val b = val (a.take i) * 256 ^ ((b.drop (i + 1)).length + 1) + ((b.getD i default).toNat * 256 ^ (b.drop (i + 1)).length + val (b.drop (i + 1))) := by
  conv => lhs; rw [eb]
  rw [fH, val, Am, hp]
 rw [hl] at la
 rw [va, vb]
 generalize (a.getD i default).toNat = x at *
 generalize (b.getD i default).toNat = y at *
 generalize 256 ^ (b.drop (i + 1)).length = P at *
 generalize val (a.take i) * 256 ^ ((b.drop (i + 1)).length + 1) = Q at *
 unfold dy
 rcases Nat.lt_or_gt_of_ne hne with q | q
 ·have h1 : (x + 1) * P ≤ y * P := Bm _ q
  rw [Bd, B0] at h1
  rw [Ab (by omega), Ab q]
 ·have h1 : (y + 1) * P ≤ x * P := Bm _ q
  rw [Bd, B0] at h1
  rw [Aa (by omega), Ab (by omega), Aa (by omega)]
theorem pP {l m : Bs} {k : Nat} (h1 : k < l.length) (h2 : k < m.length) (h : l.take k = m.take k) (h3 : (l.getD k default).toNat = (m.getD k default).toNat) : l.take (k + 1) = m.take (k + 1) := by
 have h4 := UInt8.toNat_inj.1 h3
 rw [List.getD_eq_getElem?_getD, List.getD_eq_getElem?_getD, Ad h1, Ad h2] at h4
 rw [Bw, Bw, h, Ad h1, Ad h2]
 rw [Option.toList, Option.toList]; simp only [Option.getD] at h4; rw [h4]
theorem dO {a b : Bs} {w : World} (ha : Can a) (hb : Can b) (hal : a.length ≤ 1000000) :
  Cw 63 #[.string (S a), .string (S b)] w (.int .i64 (dy (val a) (val b))) := by
 refine En [] [(0, .string (S a)), (1, .string (S b))] Tryz.func63 I Tryz.ntmps63 I (Ac I (Ac I (An _))) Fn (Cs (Ka I (Nt (Cq (Cs (Km I (Yn I u22 (Km I (Yn I u22 (Yj I (Nt (Ci I (fun hc10 => ?_) (fun hc10 => ?_)))))))))))))
 ·have hne : a.length ≠ b.length := by omega
  have hcl := rU ha hb hne
  refine Cq (Cs (Km I (Yn I u22 (Km I (Yn I u22 (Yl I (Nt (Ci I (fun hc15 => ?_) (fun hc15 => ?_)))))))))
  ·refine Cs (Ka I (Nt (Ce (Xb (Xb ?_))))); exact R1 I I (by rw [← hcl, dy, Ab (by omega)]; rfl)
  ·refine Ck (Xa (Cs (Ka I (Nt (Ce (Xb ?_)))))); exact R1 I I (by rw [← hcl, dy, Aa (by omega), Ab (by omega)]; rfl)
 ·have heq : a.length = b.length := by omega
  refine Ck (Xa (Cq (Cs (Ka I (Nt (Cb (Lp (σ := Nat) [(0, _), (1, _)] (fun gq => [(5, .int .i64 (gq : Int))]) (fun gq => gq ≤ a.length ∧ a.take gq = b.take gq) (fun gq => a.length - gq) (0) (S2 I I) (S1 I) (by (try dsimp only); exact ⟨Aj _, by simp⟩) ?_)))))))
  rintro i hinv1; (try dsimp only at hinv1 ⊢)
  obtain ⟨hi, ht⟩ := hinv1
  refine Cq (Cs (Km I (Km I (Yn I u22 (Yl I (Nt (Ci I (fun hc19 => ?_) (fun hc19 => ?_))))))))
  ·refine Ck (Xa (Cq (Cb (Cq (Cf [0, 1, 2, 3, 4, 5, 6] [] [0, 0, 0, 0, 0, 0, 0] (by kernel_rfl) (by kernel_rfl) I ?_))))); refine Kj I (Rm I I) (Kj I (Rm I I) ?_); refine Kj I (bt I I I u22 ?_) ?_
   ·omega
   refine Kj I (Rm I I) (Kj I (Rm I I) ?_); refine Kj I (bt I I I u22 ?_) ?_
   ·omega
   refine Kj I (nC I I I) ?_; refine WJ.nil ?_; refine Nt (Ci I (fun hc28 => ?_) (fun hc28 => ?_))
   ·simp only [Au] at hc28; have hoe := s8 heq (i := i) (by omega) ht (by omega); refine Cq (Cq (Cf [0, 1, 2, 3, 4, 5, 6] [] [0, 0, 0, 0, 0, 0, 0] (by kernel_rfl) (by kernel_rfl) I ?_)); refine Kj I (Rm I I) (Kj I (Rm I I) ?_); refine Kj I (bt I I I u22 ?_) ?_
    ·omega
    refine Kj I (Rm I I) (Kj I (Rm I I) ?_); refine Kj I (bt I I I u22 ?_) ?_
    ·omega
    refine Kj I (ll I I I) ?_; refine WJ.nil ?_; refine Nt (Ci I (fun hc35 => ?_) (fun hc35 => ?_))
    ·simp only [Au] at hc35; refine Cs (Ka I (Nt (Ce (Xb (Xf (Xb (Xb (Xf (Xb ?_))))))))); exact R1 I I (by rw [hoe, Ab (by omega)]; rfl)
    ·simp only [Au] at hc35; refine Ck (Xa (Cs (Ka I (Nt (Ce (Xf (Xb (Xb (Xf (Xb ?_)))))))))); exact R1 I I (by rw [hoe, Aa (by omega)]; rfl)
   ·simp only [Au] at hc28; refine Ck (Xd (Xa (Cg (Km I (Kq I (Rz I I I (by omega)) (Ka I (Nn (Ly (i + 1) (by (try dsimp only); omega) (S2 I I) (by refine (Sc ?_ (S0 _)) <;> (rfl)) ?_ (fun _ h => h))))))))); (try dsimp only); exact ⟨by omega, pP (by omega) (by omega) ht (by omega)⟩
  ·refine Cx (Xc (Xc (Xe ?_))); obtain rfl : i = a.length := by omega
   have hab : a = b := by rw [A6 (Bj _), A6 (by omega)] at ht; exact ht
   refine Xa (Cs (Ka I (Nt (Ce ?_)))); exact R1 I I (by rw [hab]; simp [dy, tup])
theorem nJ {a b : Bs} {w : World} :
  Cw 157 #[.string (S a), .string (S b)] w (.int .i64 (fh a b)) := by
 refine En [] [(0, .string (S a)), (1, .string (S b))] Tryz.func157 I Tryz.ntmps157 I (Ac I (Ac I (An _))) Fn (Cs (Ka I (Nt (Cq (Cs (Km I (Kc I (fun w hS => av) (Yt I (Km I (Nc 8 I (fun hg8 => ?_) (fun hg8 => ?_)))))))))))
 ·refine T2 I (Kt I (Yp I (Nt (Cd I (fun _ => ?_) (fun h => by cases h)))))
  refine Cs (Ka I (Nt (Ce (Xb ?_))))
  exact R1 I I (by rw [fh, Aa (by simp_all)]; rfl)
 ·refine Km I (Kc I (fun w hS => av) (Yt I (Yq I (Nt (Ci I (fun hc12 => ?_) (fun hc12 => ?_))))))
  ·refine Cs (Ka I (Nt (Ce (Xb ?_)))); exact R1 I I (by rw [fh, Aa (by simp_all)]; rfl)
  ·have hab : okN a ∧ okN b := by simp_all
   have hal := hab.1.1; refine Ck (Xa (Cs (Km I (Km I (Kc I (fun w hS => dO (a := a) (b := b) (by exact hab.1.2) (by exact hab.2.2) (by omega)) (Ka I (Nt (Ce ?_)))))))); exact R1 I I (by rw [fh, Ab hab]; rfl)
theorem lx {a b : Bs} {w : World} (hal : a.length ≤ 1000000) (hbl : b.length ≤ 1000000) :
  Cw 70 #[.string (S a), .string (S b)] w (.string (S (ae (val a + val b)))) := by
 refine En [] [(0, .string (S a)), (1, .string (S b))] Tryz.func70 I Tryz.ntmps70 I (Ac I (Ac I (An _))) Fn (Cs (Ka I (Nt (Cs (Km I (Yn I u22 (Km I (Yn I u22 (Kq I (g6 I I I) (Ns 14 I (v' := .int .i64 ((max a.length b.length : Nat) : Int)) (congrArg (Value.int .i64) (by omega)) (Kq I (Rz I I I (by omega)) ?_)))))))))))
 obtain ⟨N, hN⟩ : ∃ N : Nat, N = max a.length b.length + 1 := ⟨_, rfl⟩
 refine Ns 15 I (v' := .int .i64 (N : Int)) (by rw [hN]) ?_
 have hNl : N ≤ 1000001 := by omega
 have hS256 : val a + val b < 256 ^ N := by
  have h1 := aN a; have h2 := aN b
  have h3 : 256 ^ a.length ≤ 256 ^ (N - 1) := A4 (by decide) (by omega)
  have h4 : 256 ^ b.length ≤ 256 ^ (N - 1) := A4 (by decide) (by omega)
  have h5 : 256 ^ N = 256 ^ (N - 1) * 256 := by rw [← Ax]; congr 1; omega
  omega
 refine Ka I (Nt (Cs (Km I (Kh I (ee I I I aE (by kernel_rfl : _ = some (some (.int .u8 0), 1, 1)) I ?_ (by (try simp only [sN, Int.reduceToNat, Nat.reduceAdd, Nat.reduceMul, Nat.reduceSub]); rfl) (by (try simp only [sN, Int.reduceToNat, Nat.reduceAdd, Nat.reduceMul, Nat.reduceSub]); rfl)) ?_))))
 ·omega
 intro b17
 refine Ka I (Nt (Cs (Ka I (Ns 7 I (v' := .int .i64 ((cD (val a) (val b) 0 : Nat) : Int)) (congrArg (Value.int .i64) (by rw [j9]; rfl)) ?_))))
 refine Nt (Cq (Cs (Ka I (Nt (Cb (Lo (σ := Nat) [(0, _), (1, _), (5, _), (6, _)] (fun gq => [(7, .int .i64 (cD (val a) (val b) gq : Int)), (8, .int .i64 (gq : Int))]) (fun gq => gq ≤ N) (fun gq => N - gq) (fun gq => [⟨some b17, fP N gq (val a + val b), 5⟩]) (fun gq => []) (0) (S4 I I I I) (S2 I I) (by (try dsimp only); exact Aj _) (by exact fun w h => by rw [cW]; exact h) ?_))))))
 rintro k hinv1; (try dsimp only at hinv1 ⊢)
 obtain hk := hinv1
 refine Cq (Cs (Km I (Km I (Yl I (Nt (Ci I (fun hc20 => ?_) (fun hc20 => ?_)))))))
 ·have hc1 := mZ (val a) (val b) k
  have hd1 := Ak (val a / 256 ^ k) (show 0 < 256 by decide); have hd2 := Ak (val b / 256 ^ k) (show 0 < 256 by decide)
  refine Ck (Xa (Cq (Cb (Cs (Km I (Km I (Kc I (fun w hS => lv (a := a) (i := k) (by omega) (by omega)) (Km I (Km I (Kc I (fun w hS => lv (a := b) (i := k) (by omega) (by omega)) (Kq I (aw I I I (by omega)) (Km I (Kq I (aw I I I (by omega)) (Ns 31 I (v' := .int .i64 ((cD (val a) (val b) k + val a / 256 ^ k % 256 + val b / 256 ^ k % 256 : Nat) : Int)) (congrArg (Value.int .i64) (by omega)) (Ka I (Nt (Cs (Km I (Km I (Kq I (au I I I (by omega)) (Km I (Kq I (aW I I I (by omega)) (Ns 36 I (v' := .int .i64 ((N - 1 - k : Nat) : Int)) (congrArg (Value.int .i64) (by omega)) (Km I (Kq I (cN I I I (by omega)) (Kq I (aV I I u3 u5) (Ns 39 I (v' := B (UInt8.ofNat ((val a + val b) / 256 ^ k))) (by exact congrArg (Value.int .u8) (by rw [m0, mw])) ?_)))))))))))))))))))))))))))
  refine Kq I (Ja I I I aE (by kernel_rfl : _ = some 1) (by omega)) ?_
  refine Ng I I (st I I I .tc (by kernel_rfl) I ?_ (by rfl)) ?_
  ·rw [ck _ _ _ (by omega)]; omega
  intro _
  refine Nt (Cg (Km I (Kq I (bT I I I (by omega)) ?_)))
  refine Ns 42 I (v' := .int .i64 ((cD (val a) (val b) (k + 1) : Nat) : Int)) (congrArg (Value.int .i64) (by rw [ka])) ?_
  refine Ka I (Nn (Xd (Xa (Cg (Km I (Kq I (Rz I I I (by omega)) (Ka I (Nn (Lx (k + 1) (by (try dsimp only); omega) (S4 I I I I) (by refine (Sc ?_ (Sc ?_ (S0 _))) <;> (rfl)) ?_ (by exact fun w h => by rw [← cj N k _ (by omega)]; exact h))))))))))
  (try dsimp only)
  omega
 ·refine Cx (Xc (Xc (Xe ?_)))
  obtain rfl : k = N := by omega
  rw [cu]
  refine Xa (Cs (Km I (Kc I (fun w hS => iR (b := be k (val a + val b)) (by (exact hS.os)) (by rw [aS]) (by rw [aS]; exact Bj _) (by rw [aS]; omega)) (Ka I (Nt (Ce ?_))))))
  exact Rn I (.tmp I .nil) fun w' hS => ⟨by rw [dB, Al hS256]; rfl, hS.below⟩
theorem kA {a b : Bs} {w : World} (hle : val b ≤ val a) (ha : a.length ≤ 1000000) (hb : b.length ≤ 1000000) :
  Cw 123 #[.string (S a), .string (S b)] w (.string (S (ae (val a - val b)))) := by
 have hS256 : val a - val b < 256 ^ a.length := Bk (Nat.sub_le _ _) (aN a)
 refine En [] [(0, .string (S a)), (1, .string (S b))] Tryz.func123 I Tryz.ntmps123 I (Ac I (Ac I (An _))) Fn (Cs (Ka I (Nt (Cs (Km I (Yn I u22 (Ka I (Nt (Cs (Km I (Kh I (ee I I I aE (by kernel_rfl : _ = some (some (.int .u8 0), 1, 1)) I ?_ (by (try simp only [sN, Int.reduceToNat, Nat.reduceAdd, Nat.reduceMul, Nat.reduceSub]); rfl) (by (try simp only [sN, Int.reduceToNat, Nat.reduceAdd, Nat.reduceMul, Nat.reduceSub]); rfl)) ?_)))))))))))
 ·omega
 intro b13
 refine Ka I (Nt (Cs (Ka I (Ns 7 I (v' := .int .i64 ((bg (val a) (val b) 0 : Nat) : Int)) (congrArg (Value.int .i64) (by rw [jr]; rfl)) ?_))))
 refine Nt (Cq (Cs (Ka I (Nt (Cb (Lo (σ := Nat) [(0, _), (1, _), (5, _), (6, _)] (fun gq => [(7, .int .i64 (bg (val a) (val b) gq : Int)), (8, .int .i64 (gq : Int))]) (fun gq => gq ≤ a.length) (fun gq => a.length - gq) (fun gq => [⟨some b13, fP a.length gq (val a - val b), 5⟩]) (fun gq => []) (0) (S4 I I I I) (S2 I I) (by (try dsimp only); exact Aj _) (by exact fun w h => by rw [cW]; exact h) ?_))))))
 rintro k hinv1; (try dsimp only at hinv1 ⊢)
 obtain hk := hinv1
 refine Cq (Cs (Km I (Km I (Yl I (Nt (Ci I (fun hc16 => ?_) (fun hc16 => ?_)))))))
 ·have hc1 := jX (val a) (val b) k
  have hd1 := Ak (val a / 256 ^ k) (show 0 < 256 by decide); have hd2 := Ak (val b / 256 ^ k) (show 0 < 256 by decide)
  refine Ck (Xa (Cq (Cb (Cs (Km I (Km I (Kc I (fun w hS => lv (a := a) (i := k) (by omega) (by omega)) (Km I (Km I (Kc I (fun w hS => lv (a := b) (i := k) (by omega) (by omega)) (Kq I (aI I I I (by omega)) (Ns 25 I (v' := .int .i64 ((((val a / 256 ^ k % 256 : Nat) : Int) - ((val b / 256 ^ k % 256 : Nat) : Int)))) (congrArg (Value.int .i64) (by omega)) (Km I (Kq I (aI I I I (by omega)) (Ka I (Nt (Cs (Ka I (Nt (Cq (Cs (Km I (Yl I (Nt (Ci I (fun hc29 => ?_) (fun hc29 => ?_))))))))))))))))))))))))))
  ·refine Cs (Km I (Kq I (bj I I I (by omega)) (Ka I (Nt (Cg (Ka I (Nt (Cg (Ns 7 I (v' := .int .i64 (bg (val a) (val b) (k + 1) : Int)) (congrArg (Value.int .i64) (by rw [eX]; (rw [Ab (by omega)]; rfl))) ?_))))))))); refine Km I (Km I (Kq I (au I I I (by omega)) (Km I (Kq I (aW I I I (by omega)) (Ns 36 I (v' := .int .i64 ((a.length - 1 - k : Nat) : Int)) (congrArg (Value.int .i64) (by omega)) (Km I (Kq I (aV I I u3 u5) (Ns 38 I (v' := B (UInt8.ofNat ((val a - val b) / 256 ^ k))) (by exact congrArg (Value.int .u8) (iM hle k _ (by omega))) ?_)))))))); refine Kq I (Ja I I I aE (by kernel_rfl : _ = some 1) (by omega)) ?_; refine Ng I I (st I I I .tc (by kernel_rfl) I ?_ (by rfl)) ?_
   ·rw [ck _ _ _ (by omega)]; omega
   intro _; refine Nn (Xd (Xa (Cg (Km I (Kq I (Rz I I I (by omega)) (Ka I (Nn (Lx (k + 1) (by (try dsimp only); omega) (S4 I I I I) (by refine (Sc ?_ (Sc ?_ (S0 _))) <;> (rfl)) ?_ (by exact fun w h => by rw [← cj a.length k _ (by omega)]; exact h))))))))); (try dsimp only); omega
  ·refine Ck (Xa (Cg (Ns 7 I (v' := .int .i64 (bg (val a) (val b) (k + 1) : Int)) (congrArg (Value.int .i64) (by rw [eX]; (rw [Aa (by omega)]; rfl))) ?_))); refine Km I (Km I (Kq I (au I I I (by omega)) (Km I (Kq I (aW I I I (by omega)) (Ns 36 I (v' := .int .i64 ((a.length - 1 - k : Nat) : Int)) (congrArg (Value.int .i64) (by omega)) (Km I (Kq I (aV I I u3 u5) (Ns 38 I (v' := B (UInt8.ofNat ((val a - val b) / 256 ^ k))) (by exact congrArg (Value.int .u8) (iM hle k _ (by omega))) ?_)))))))); refine Kq I (Ja I I I aE (by kernel_rfl : _ = some 1) (by omega)) ?_; refine Ng I I (st I I I .tc (by kernel_rfl) I ?_ (by rfl)) ?_
   ·rw [ck _ _ _ (by omega)]; omega
   intro _; refine Nn (Xd (Xa (Cg (Km I (Kq I (Rz I I I (by omega)) (Ka I (Nn (Lx (k + 1) (by (try dsimp only); omega) (S4 I I I I) (by refine (Sc ?_ (Sc ?_ (S0 _))) <;> (rfl)) ?_ (by exact fun w h => by rw [← cj a.length k _ (by omega)]; exact h))))))))); (try dsimp only); omega
 ·refine Cx (Xc (Xc (Xe ?_)))
  obtain rfl : k = a.length := by omega
  rw [cu]
  refine Xa (Cs (Km I (Kc I (fun w hS => iR (b := be a.length (val a - val b)) (by (exact hS.os)) (by rw [aS]) (by rw [aS]; exact Bj _) (by rw [aS]; omega)) (Ka I (Nt (Ce ?_))))))
  exact Rn I (.tmp I .nil) fun w' hS => ⟨by rw [dB, Al hS256]; rfl, hS.below⟩
theorem y8 {a : Bs} {w : World} :
  Cw 160 #[.string (S a)] w (.tuple #[.string (S (if 128 < a.length then [] else a)), .int .i64 (if 128 < a.length then 5 else 0)]) := by
 refine En [] [(0, .string (S a))] Tryz.func160 I Tryz.ntmps160 I (Ac I (An _)) Fn (Cs (Ka I (Ka I (Nt (Cq (Cs (Km I (Yn I u22 (Yg I (Nt (Ci I (fun hc6 => ?_) (fun hc6 => ?_))))))))))))
 ·refine Cs (Ka I (Ka I (Nt (Ce (Xb ?_)))))
  exact R2 I I I (by rw [Ab (by omega), Ab (by omega)]; rfl)
 ·refine Ck (Xa (Cs (Km I (Ka I (Ka I (Nt (Ce ?_)))))))
  exact R2 I I I (by rw [Aa (by omega), Aa (by omega)]; rfl)
theorem yn {a b : Bs} (hab : okN a ∧ okN b) : (if 128 < (ae (val a + val b)).length then ([] : Bs) else ae (val a + val b)) = (addN a b).1 ∧ (if 128 < (ae (val a + val b)).length then (5 : Int) else 0) = (addN a b).2 := by
 rw [addN, Ab hab]
 by_cases h : val a + val b < Big
 ·have hl := dJ.2 h
  rw [Aa (show ¬ 128 < (ae (val a + val b)).length by omega), Aa (show ¬ 128 < (ae (val a + val b)).length by omega), Ab h]; exact ⟨rfl, rfl⟩
 ·have hl : ¬ (ae (val a + val b)).length ≤ 128 := fun h' => h (dJ.1 h')
  rw [Ab (show 128 < (ae (val a + val b)).length by omega), Ab (show 128 < (ae (val a + val b)).length by omega), Aa h]; exact ⟨rfl, rfl⟩
theorem uR {a b : Bs} {w : World} :
  Cw 110 #[.string (S a), .string (S b)] w (NE (addN a b)) := by
 refine En [] [(0, .string (S a)), (1, .string (S b))] Tryz.func110 I Tryz.ntmps110 I (Ac I (Ac I (An _))) Fn (Cs (Ka I (Ka I (Nt (Cq (Cs (Km I (Kc I (fun w hS => av) (Yt I (Km I (Nc 9 I (fun hg9 => ?_) (fun hg9 => ?_))))))))))))
 ·refine T2 I (Kt I (Yp I (Nt (Cd I (fun _ => ?_) (fun h => by cases h)))))
  refine Cs (Ka I (Ka I (Nt (Ce (Xb ?_)))))
  exact R2 I I I (by rw [addN, Aa (by simp_all)]; rfl)
 ·refine Km I (Kc I (fun w hS => av) (Yt I (Yq I (Nt (Ci I (fun hc13 => ?_) (fun hc13 => ?_))))))
  ·refine Cs (Ka I (Ka I (Nt (Ce (Xb ?_))))); exact R2 I I I (by rw [addN, Aa (by simp_all)]; rfl)
  ·have hab : okN a ∧ okN b := by simp_all
   have hal := hab.1.1; have hbl := hab.2.1; have hcl := yn hab; refine Ck (Xa (Cs (Km I (Km I (Kc I (fun w hS => lx (a := a) (b := b) (by omega) (by omega)) (Kc I (fun w hS => y8) (Ye I (Ye I (Ka I (Ka I (Nt (Ce ?_)))))))))))); exact R2 I I I (by simp only [tup, NE]; rw [← hcl.1, ← hcl.2])
theorem pZ {a b : Bs} {w : World} :
  Cw 162 #[.string (S a), .string (S b)] w (NE (fi a b)) := by
 refine En [] [(0, .string (S a)), (1, .string (S b))] Tryz.func162 I Tryz.ntmps162 I (Ac I (Ac I (An _))) Fn (Cs (Ka I (Ka I (Nt (Cq (Cs (Km I (Kc I (fun w hS => av) (Yt I (Km I (Nc 9 I (fun hg9 => ?_) (fun hg9 => ?_))))))))))))
 ·refine T2 I (Kt I (Yp I (Nt (Cd I (fun _ => ?_) (fun h => by cases h)))))
  refine Cs (Ka I (Ka I (Nt (Ce (Xb ?_)))))
  exact R2 I I I (by rw [fi, Aa (by simp_all)]; rfl)
 ·refine Km I (Kc I (fun w hS => av) (Yt I (Yq I (Nt (Ci I (fun hc13 => ?_) (fun hc13 => ?_))))))
  ·refine Cs (Ka I (Ka I (Nt (Ce (Xb ?_))))); exact R2 I I I (by rw [fi, Aa (by simp_all)]; rfl)
  ·have hab : okN a ∧ okN b := by simp_all
   have hal := hab.1.1; have hbl := hab.2.1; refine Ck (Xa (Cq (Cs (Km I (Km I (Kc I (fun w hS => dO (a := a) (b := b) (by exact hab.1.2) (by exact hab.2.2) (by omega)) (Yl I (Nt (Ci I (fun hc17 => ?_) (fun hc17 => ?_))))))))))
   ·rw [ax] at hc17; refine Cs (Ka I (Ka I (Nt (Ce (Xb ?_))))); exact R2 I I I (by rw [fi, Ab hab, Ab hc17]; rfl)
   ·have hle : val b ≤ val a := Nat.not_lt.1 fun h => by have := (ax _ _).2 h; omega
    refine Ck (Xa (Cs (Km I (Km I (Kc I (fun w hS => kA (a := a) (b := b) (by assumption) (by omega) (by omega)) (Ka I (Ka I (Nt (Ce ?_))))))))); exact R2 I I I (by rw [fi, Ab hab, Aa (by omega)]; rfl)
end Go.Proofs.YtkdlonihbjhhoaaGreatDoor
