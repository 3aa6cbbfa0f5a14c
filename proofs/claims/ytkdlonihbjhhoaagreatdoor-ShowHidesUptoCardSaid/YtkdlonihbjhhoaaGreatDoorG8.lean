/-
  Parts of the walk: Num Lib1 Plus App Ntl1 Ntl2.
-/
import Derived.Test.YtkdlonihbjhhoaaGreatDoorG7
namespace Go.Proofs.YtkdlonihbjhhoaaGreatDoor
set_option linter.unusedSimpArgs false
set_option linter.unusedVariables false
set_option maxRecDepth 20000
def val : Bs → Nat
 | [] => 0
 | c :: s => c.toNat * 256 ^ s.length + val s
def be : Nat → Nat → Bs
 | 0, _ => []
 | k + 1, x => UInt8.ofNat (x / 256 ^ k) :: be k x
def cw : Bs → Bs
 | [] => []
 | c :: s => if c = 0 then cw s else c :: s
def Can (s : Bs) : Prop := s.head? ≠ some 0
instance (s : Bs) : Decidable (Can s) := inferInstanceAs (Decidable (¬ _))
theorem aP : ∀ k x, (be k x).length = k
 | 0, x => rfl
 | k + 1, x => by simp [be, aP k x]
theorem jl (k : Nat) : 0 < 256 ^ k := Cr (by decide)
theorem aL : ∀ s : Bs, val s < 256 ^ s.length
 | [] => by simp [val]
 | c :: s => by
  have h1 := aL s
  have h2 := c.toNat_lt
  simp only [val, Ar, As]
  have : (c.toNat + 1) * 256 ^ s.length ≤ 256 * 256 ^ s.length := Bk _ (by omega)
  rw [Be, Cm] at this
  rw [Aj (256 ^ s.length) 256]; omega
theorem fj : ∀ a b : Bs, val (a ++ b) = val a * 256 ^ b.length + val b
 | [], b => by simp [val]
 | c :: a, b => by
  simp only [List.cons_append, val, A5, fj a b, Bg]
  rw [Be, Au]; omega
theorem dr : ∀ k x, val (be k x) = x % 256 ^ k
 | 0, x => by simp [be, val, Nat.mod_one]
 | k + 1, x => by
  have e : x % 256 ^ (k + 1) = x % 256 ^ k + 256 ^ k * (x / 256 ^ k % 256) := by rw [As, Nat.mod_mul]
  simp only [be, val, aP, dr k x, UInt8.toNat_ofNat']
  rw [e, Aj (256 ^ k), Dp]
theorem kj : ∀ s : Bs, val (cw s) = val s
 | [] => rfl
 | c :: s => by
  unfold cw; split
  ·rename_i h; subst h; rw [kj s, val]; simp
  ·rfl
theorem lm : ∀ s : Bs, Can (cw s)
 | [] => by simp [cw, Can]
 | c :: s => by
  unfold cw; split
  ·exact lm s
  ·rename_i h; simpa [Can] using h
theorem th : ∀ {s : Bs}, Can s → cw s = s
 | [], _ => rfl
 | c :: s, h => by
  unfold cw; rw [Aa]; simpa [Can] using h
theorem nG {s : Bs} (h : Can s) (h0 : s ≠ []) : 256 ^ (s.length - 1) ≤ val s := by
 cases s with
 | nil => exact absurd rfl h0
 | cons c s =>
  have hc : 1 ≤ c.toNat := by
   rcases B0 c.toNat with h1 | h1
   ·exfalso; apply h; rw [List.head?_cons]; congr 1; exact UInt8.toNat_inj.1 h1
   ·exact h1
  simp only [val, Ar, Ee]
  have := Bk (256 ^ s.length) hc
  rw [Cm] at this; omega
theorem iY {a b : Bs} (ha : Can a) (hb : Can b) (h : val a ≤ val b) : a.length ≤ b.length := by
 rcases Cy b.length a.length with q | q
 ·exfalso
  have h0 : a ≠ [] := by intro h; rw [h] at q; simp at q
  have h1 := nG ha h0
  have h2 := aL b
  have h3 : 256 ^ b.length ≤ 256 ^ (a.length - 1) := A2 (by decide) (by omega)
  omega
 ·exact q
theorem pK : ∀ s : Bs, be s.length (val s) = s
 | [] => rfl
 | c :: s => by
  have h1 := aL s
  have hd : (c.toNat * 256 ^ s.length + val s) / 256 ^ s.length = c.toNat := by
   rw [Aj, Cn (jl _), Bh h1, Ba]
  have hm : be s.length (c.toNat * 256 ^ s.length + val s) = be s.length (val s) := by
   have key : ∀ k x y, k ≤ s.length → be k (y * 256 ^ s.length + x) = be k x := by
    intro k
    induction k with
    | zero => intro x y _; rfl
    | succ k ih =>
     intro x y hk; simp only [be, ih x y (by omega)]; congr 1; apply UInt8.toNat_inj.1; rw [UInt8.toNat_ofNat', UInt8.toNat_ofNat']; have e : 256 ^ s.length = 256 ^ k * 256 * 256 ^ (s.length - (k + 1)) := by rw [← As, ← Bg]; congr 1; omega
     rw [e, show y * (256 ^ k * 256 * 256 ^ (s.length - (k + 1))) = 256 ^ k * (256 * (y * 256 ^ (s.length - (k + 1)))) by ac_rfl, Cn (jl _)]; omega
   exact key s.length (val s) c.toNat (Bd _)
  simp only [Ar, be, val, hd, hm, pK s]
  congr 1
  apply UInt8.toNat_inj.1; rw [UInt8.toNat_ofNat']; have := c.toNat_lt; omega
theorem vQ {a b : Bs} (hl : a.length = b.length) (h : val a = val b) : a = b := by
 rw [← pK a, ← pK b, hl, h]
theorem kb {a b : Bs} (ha : Can a) (hb : Can b) (h : val a = val b) : a = b :=
 vQ (Nat.le_antisymm (iY ha hb (by omega)) (iY hb ha (by omega))) h
def ae (n : Nat) : Bs := cw (be (Nat.log2 n / 8 + 1) n)
theorem zu (n : Nat) : n < 256 ^ (Nat.log2 n / 8 + 1) := by
 have h1 : n < 2 ^ (Nat.log2 n + 1) := Nat.lt_log2_self
 have h2 : 256 ^ (Nat.log2 n / 8 + 1) = 2 ^ (8 * (Nat.log2 n / 8 + 1)) := by rw [show (256 : Nat) = 2 ^ 8 from rfl, ← Du]
 rw [h2]
 exact Ay h1 (A2 (by decide) (by omega))
theorem af (n : Nat) : val (ae n) = n := by rw [ae, kj, dr, Ah (zu n)]
theorem bn (n : Nat) : Can (ae n) := lm _
theorem sJ {s : Bs} (h : Can s) : ae (val s) = s := kb (bn _) h (af _)
theorem dt (s : Bs) : cw s = ae (val s) := kb (lm _) (bn _) (by rw [kj, af])
theorem ei : ae 0 = [] := kb (bn _) (by simp [Can]) (by rw [af]; rfl)
theorem x4 : Can [] := by simp [Can]
theorem aM {s : Bs} (h : Can s) : val s = 0 ↔ s = [] := ⟨fun h0 => kb h x4 (by rw [h0]; rfl), fun h0 => by rw [h0]; rfl⟩
theorem bj {n k : Nat} : (ae n).length ≤ k ↔ n < 256 ^ k := by
 constructor
 ·intro h
  have h1 := aL (ae n)
  rw [af] at h1
  exact Ay h1 (A2 (by decide) h)
 ·intro h
  rcases Cy k (ae n).length with q | q
  ·exfalso
   have h0 : ae n ≠ [] := by intro h; rw [h] at q; simp at q
   have h1 := nG (bn n) h0; rw [af] at h1; have h3 : 256 ^ k ≤ 256 ^ ((ae n).length - 1) := A2 (by decide) (by omega); omega
  ·exact q
theorem jd (s : Bs) (i : Nat) (h : i < s.length) : val s / 256 ^ i % 256 = (s.getD (s.length - 1 - i) default).toNat := by
 induction s with
 | nil => simp at h
 | cons c s ih =>
  simp only [val, Ar, Ee] at h ⊢
  by_cases hi : i = s.length
  ·subst hi; rw [C0, C9, Aj, Cn (jl _), Bh (aL s), Ba, Ah c.toNat_lt]
  ·have e : 256 ^ s.length = 256 ^ i * (256 * 256 ^ (s.length - 1 - i)) := by
    rw [← Au, ← As, ← Bg]; congr 1; omega
   rw [e, show c.toNat * (256 ^ i * (256 * 256 ^ (s.length - 1 - i))) = 256 ^ i * (256 * (c.toNat * 256 ^ (s.length - 1 - i))) by ac_rfl, Cn (jl _), Nat.mul_add_mod, ih (by omega)]; rw [show s.length - i = (s.length - 1 - i) + 1 by omega, D8]
theorem kl (s : Bs) (i : Nat) (h : s.length ≤ i) : val s / 256 ^ i % 256 = 0 := by
 rw [Bh (Ay (aL s) (A2 (by decide) h))]
def ct (a b i : Nat) : Nat := (a % 256 ^ i + b % 256 ^ i) / 256 ^ i
theorem jI (a b : Nat) : ct a b 0 = 0 := by simp [ct, Nat.mod_one]
theorem mw (a b i : Nat) : ct a b i ≤ 1 := by
 have h1 := Ak a (jl i); have h2 := Ak b (jl i)
 unfold ct
 have : a % 256 ^ i + b % 256 ^ i < 2 * 256 ^ i := by omega
 have := (Ca (jl i)).2 this
 omega
theorem ic (a b i : Nat) : (a + b) / 256 ^ i = ct a b i + a / 256 ^ i + b / 256 ^ i := by
 have h1 := Bc a (256 ^ i); have h2 := Bc b (256 ^ i)
 have e : a + b = 256 ^ i * (a / 256 ^ i + b / 256 ^ i) + (a % 256 ^ i + b % 256 ^ i) := by rw [Bf]; omega
 rw [e, Cn (jl i), ct]; omega
theorem jJ (a b i : Nat) : ct a b (i + 1) = (ct a b i + a / 256 ^ i % 256 + b / 256 ^ i % 256) / 256 := by
 have h1 := ic a b i
 have h2 := ic a b (i + 1)
 rw [As, ← A4, ← A4, ← A4, h1] at h2
 omega
theorem lN (a b i : Nat) : UInt8.ofNat ((a + b) / 256 ^ i) = UInt8.ofNat (ct a b i + a / 256 ^ i % 256 + b / 256 ^ i % 256) := by
 apply UInt8.toNat_inj.1
 rw [UInt8.toNat_ofNat', UInt8.toNat_ofNat', ic]; omega
def a7 (a b i : Nat) : Nat := if a % 256 ^ i < b % 256 ^ i then 1 else 0
theorem i1 (a b : Nat) : a7 a b 0 = 0 := by simp [a7, Nat.mod_one]
theorem pI {a b : Nat} (h : b ≤ a) (i : Nat) : (a - b) / 256 ^ i = a / 256 ^ i - b / 256 ^ i - a7 a b i ∧ b / 256 ^ i + a7 a b i ≤ a / 256 ^ i := by
 have h1 := Bc a (256 ^ i); have h2 := Bc b (256 ^ i)
 have m1 := Ak a (jl i); have m2 := Ak b (jl i)
 have hq : b / 256 ^ i ≤ a / 256 ^ i := Nat.div_le_div_right h
 unfold a7
 generalize 256 ^ i = P at *
 generalize hA : a / P = A at *
 generalize hB : b / P = B' at *
 split
 ·rename_i hlt
  have hne : B' < A := by
   rcases Cy B' A with q | q
   ·exact q
   ·exfalso
    have : A = B' := by omega
    subst this; omega
  obtain ⟨D, rfl⟩ : ∃ D, A = B' + 1 + D := ⟨A - B' - 1, by omega⟩
  refine ⟨?_, by omega⟩
  have e : a - b = P * D + (P + a % P - b % P) := by
   have : P * (B' + 1 + D) = P * B' + P + P * D := by rw [Bf, Bf, A0]
   omega
  rw [e, Cn (by omega), Bh (by omega)]; omega
 ·rename_i hge
  obtain ⟨D, rfl⟩ : ∃ D, A = B' + D := ⟨A - B', by omega⟩
  refine ⟨?_, by omega⟩
  have e : a - b = P * D + (a % P - b % P) := by
   have : P * (B' + D) = P * B' + P * D := Bf _ _ _; omega
  rw [e, Cn (by omega), Bh (by omega)]; omega
end Go.Proofs.YtkdlonihbjhhoaaGreatDoor
namespace Go.Proofs.YtkdlonihbjhhoaaGreatDoor
open Go.RowKit
set_option linter.unusedSimpArgs false
set_option linter.unusedVariables false
set_option maxHeartbeats 600000
set_option maxRecDepth 20000
theorem ie {w : World} : Below w.heap.size w w := ⟨rfl, rfl, rfl, Bd _, fun _ _ => rfl⟩
section
variable {ds : List Deferred} {P : Program} {o : Oper} {n : Nat} {L : ak} {Z : World → Prop} {x y : Operand} {t t2 : TypeId} {k : IntKind} {i j : Int}
theorem gF (hop : o.op = .call { callee := .builtin .max, args := #[x, y], argTypes := #[t, t2] }) (hx : ag L x = some (.int k i)) (hy : ag L y = some (.int k j)) : Rd ds P o n L Z (.int k (max i j)) :=
  aH fun a hF w _ => by
    have e : max i j = if j > i then j else i := by split <;> omega
    rw [e]; simp [execOp, hop, resolve, invoke, builtin, hF.eval hx, hF.eval hy, Builtin.max_, Builtin.max2]
theorem wU (hop : o.op = .call { callee := .builtin .min, args := #[x, y], argTypes := #[t, t2] }) (hx : ag L x = some (.int k i)) (hy : ag L y = some (.int k j)) : Rd ds P o n L Z (.int k (min i j)) :=
  aH fun a hF w _ => by
    have e : min i j = if j < i then j else i := by split <;> omega
    rw [e]; simp [execOp, hop, resolve, invoke, builtin, hF.eval hx, hF.eval hy, Builtin.min_, Builtin.min2]
end
theorem DB (x : Nat) : (x : Int).fdiv (2 ^ (min (Int.toNat 8) IntKind.i64.bits)) = ((x / 256 : Nat) : Int) := by
  have m1 : min (Int.toNat 8) IntKind.i64.bits = 8 := by decide
  rw [m1, Dy _ (by decide)]; norm_cast
theorem yK {a b : Bs} {w : World} :
    Calls Tryz.prog 164 #[.string (S a), .string (S b)] w fun e w' => e = .returned (.int .i64 (Lib.compareBytes a b)) ∧ Below w.heap.size w w' :=
  (pE (S a) (S b) w).mono fun _ _ ⟨h1, h2⟩ => ⟨by simpa [S] using h1, by rw [h2]; exact ie⟩
theorem ut {x : Nat} {w : World} (hx : x < 256) :
    Calls Tryz.prog 152 #[.int .u8 (x : Int)] w fun e w' => e = .returned (.int .i64 (Lib.bitLen x)) ∧ Below w.heap.size w w' :=
  (xm x w (by omega) (by omega)).mono fun _ _ ⟨h1, h2⟩ => ⟨by simpa using h1, by rw [h2]; exact ie⟩
theorem yj {x : Int} {w : World} :
    Calls Tryz.prog 204 #[.int .i64 x] w fun e w' => e = .returned (.bool false) ∧ Below w.heap.size w w' := by
  refine enter (S := St (fun _ => True) w [] ([])) (L := [(0, .int .i64 x)]) Tryz.func204 rfl Tryz.ntmps204 rfl (fi rfl (ja _)) (St.start (fun _ _ => trivial) gK) ?_
  refine WC.sr ?_
  refine WL.r I I I (bI I I) ?_
  refine WL.nt ?_
  refine WC.sr ?_
  refine Gn ?_
  refine Gn ?_
  refine WL.r I I I (mW I I I) ?_
  refine WL.r I I I (bI I I) ?_
  refine WL.nt ?_
  refine WC.ret ?_
  exact WX.retN rfl (.tmp rfl .nil) fun w' hS => ⟨by (simp [tup]; done), hS.below⟩
def dm (a b : Int) : Int := if a < b then -1 else if b < a then 1 else 0
theorem BW {a b : Int} {w : World} :
    Calls Tryz.prog 163 #[.int .i64 a, .int .i64 b] w fun e w' => e = .returned (.int .i64 (dm a b)) ∧ Below w.heap.size w w' := by
  refine enter (S := St (fun _ => True) w [] ([])) (L := [(0, .int .i64 a), (1, .int .i64 b)]) Tryz.func163 rfl Tryz.ntmps163 rfl (fi rfl (fi rfl (ja _))) (St.start (fun _ _ => trivial) gK) ?_
  refine WC.sr ?_
  refine WL.r I I I (bI I I) ?_
  refine WL.nt ?_
  refine WC.sr ?_
  refine Gn ?_
  refine WL.g I I I (j2 I I (by kernel_rfl) (gg fun w hS => yj)) ?_
  intro _
  refine WL.r I I I (bI I I) ?_
  refine WL.nt ?_
  refine WC.sr ?_
  refine Gn ?_
  refine WL.g I I I (j2 I I (by kernel_rfl) (gg fun w hS => yj)) ?_
  intro _
  refine WL.r I I I (bI I I) ?_
  refine WL.nt ?_
  refine WC.seq ?_
  refine WC.sr ?_
  refine Gn ?_
  refine WL.nt ?_
  refine WC.cond I (fun hc11 => by exfalso; (try simp only [sB] at hc11); cases hc11) (fun hc11 => ?_)
  (try simp only [sB] at hc11)
  refine WC.skip ?_
  refine WX.then_normal ?_
  refine WC.seq ?_
  refine WC.sr ?_
  refine Gn ?_
  refine WL.nt ?_
  refine WC.cond I (fun hc13 => by exfalso; (try simp only [sB] at hc13); cases hc13) (fun hc13 => ?_)
  (try simp only [sB] at hc13)
  refine WC.skip ?_
  refine WX.then_normal ?_
  refine WC.seq ?_
  refine WC.sr ?_
  refine Gn ?_
  refine Gn ?_
  refine WL.r I I I (kL I I I) ?_
  refine WL.nt ?_
  refine WC.cond I (fun hc16 => ?_) (fun hc16 => ?_)
  · (try simp only [sB] at hc16); refine WC.sr ?_; refine WL.r I I I (bI I I) ?_; refine WL.nt ?_; refine WC.ret ?_; refine WX.then_ret ?_; exact WX.retN I (.tmp I .nil) fun w' hS => ⟨by simp [dm, hc16, tup], hS.below⟩
  · (try simp only [sB] at hc16); refine WC.skip ?_; refine WX.then_normal ?_; refine WC.seq ?_; refine WC.sr ?_; refine WL.r I I I (ci I I) ?_; refine WL.r I I I (ci I I) ?_; refine WL.r I I I (mY I I I) ?_; refine WL.nt ?_; refine WC.cond I (fun hc19 => ?_) (fun hc19 => ?_)
    · (try simp only [sB] at hc19); refine WC.sr ?_; refine WL.r I I I (bI I I) ?_; refine WL.nt ?_; refine WC.ret ?_; refine WX.then_ret ?_; exact WX.retN I (.tmp I .nil) fun w' hS => ⟨by simp [dm, tup]; omega, hS.below⟩
    · (try simp only [sB] at hc19); refine WC.skip ?_; refine WX.then_normal ?_; refine WC.sr ?_; refine WL.r I I I (bI I I) ?_; refine WL.nt ?_; refine WC.ret ?_; exact WX.retN I (.tmp I .nil) fun w' hS => ⟨by simp [dm, tup]; omega, hS.below⟩
section
variable {ds : List Deferred} {P : Program} {o : Oper} {n : Nat} {L : ak} {Z : World → Prop} {x y : Operand} {t t2 : TypeId} {k : IntKind} {i : Int}
theorem fX {k' : IntKind} (hop : o.op = .convert t t2 x) (hx : ag L x = some (.int k' i)) {d : TypeDesc} (h1 : P.underlying t = some d) (h2 : P.underlying t2 = some (.int k)) (h : k.wrap i = i) : Rd ds P o n L Z (.int k i) := by
 have := aR (ds := ds) (n := n) (St := Z) hop hx h1 h2
 rw [h] at this; exact this
theorem kg (c : UInt8) : IntKind.i64.wrap (c.toNat : Int) = (c.toNat : Int) := vK _ (by have := c.toNat_lt; omega)
end
section
variable {ds : List Deferred} {P : Program} {o : Oper} {n : Nat} {L : ak} {ok : Nat → Prop} {w0 : World} {own : List Ent} {fs : List Fact} {x y : Operand} {t T : TypeId} {b off : Nat} {cs xs ys : List Value} {C : Ent → List Ent}
theorem gS (hop : o.op = .store t x y) (hx : ag L x = some (.pointer (some ⟨b, 0, none⟩))) (hy : ag L y = some (.agg xs.toArray)) [hk : HasC own (some b) cs T C] (hs : (P.info? t).map (·.size) = some xs.length) (h1 : ∀ v ∈ xs, v.oneCell' = true) (hl : xs.length = cs.length) :
  ∀ ext, Og ds P o n L (St ok w0 (ext ++ own) fs) (fun _ : Unit => undef) (fun _ => St ok w0 (ext ++ C ⟨some b, xs, T⟩) fs) := fun ext => sta hop hx hy (Ctx.right hk.h ext) hs h1 hl
end
class oQ (fs more : List Fact) : Prop where
 h : ∀ f ∈ more, f ∈ fs
instance hasM_here {fs : List Fact} : oQ fs fs := ⟨fun _ h => h⟩
instance hasM_there {f : Fact} {fs more : List Fact} [h : oQ fs more] : oQ (f :: fs) more := ⟨fun g hg => Dk _ (h.h g hg)⟩
theorem St.more {ok : Nat → Prop} {w0 w : World} {own : List Ent} {fs more : List Fact} (hS : St ok w0 own fs w) [h : oQ fs more] : ∀ f ∈ more, f.holds (fun _ => True) w := fun f hf => ah (hS.fact f (h.h f hf))
theorem cK {more : List Fact} {ok : Nat → Prop} {w : World} (h : ∀ f ∈ more, f.holds ok w) : ∀ f ∈ more, f.holds (fun _ => True) w := fun f hf => ah (h f hf)
theorem AH {ok : Nat → Prop} {w0 w : World} {ob : Option Nat} {xs sp : List Value} {T : TypeId} {r : List Ent} {fs : List Fact} (h : St ok w0 (⟨ob, xs ++ sp, T⟩ :: r) fs w) : St ok w0 r (Fact.sl (ob.map fun b => ⟨b, 0, none⟩) xs :: fs) w := by
 cases ob with
 | some b => exact rx h
 | none =>
  have h0 : xs ++ sp = [] := h.own_ _ (List.mem_cons_self)
  have h1 : xs = [] := (List.append_eq_nil_iff.1 h0).1
  subst h1
  exact St.add (h.sub (C1 _ _) (fun _ h => h)) (.inl rfl)
theorem s6 (z : Array Value) (m : Nat) : (Builtin.zeroCells z m).toList.length = m * z.size := by simp [Builtin.zeroCells]
section
variable {P : Program} {ok : Nat → Prop} {w0 : World} {fs : List Fact} {t e : TypeId} {sz z : Nat} {cs : List Value}
theorem tG {w : World} {own : List Ent} {kk : Nat} {ob : Option Nat} {len cap : Nat} {news : List Value} {zv : Value} {src : Value} {m : Nat} {ty : TypeId} (hS : St ok w0 own fs w) (hk : own[kk]? = some ⟨ob, cs, e⟩)
  (hu : P.underlying t = some (.slice e)) (hi : (P.info? e).map (fun i => (i.zero, i.size, i.bytes)) = some (some zv, z, sz)) (h1 : zv.cells.size = z) (hz0 : 0 < z)
  (hlen : len ≤ cap) (hcap : cap * z = cs.length) (hsrc : Src w src m news) (hm : news.length = m * z) (h1c : ∀ u ∈ news, u.oneCell' = true) (hpos : 0 < m)
  (h63 : len + m ≤ 9223372036854775807) (hb : (len + m) * sz ≤ 140737488355328) :
  ∃ (g : App) (w' : World), (Builtin.append_ #[t, t] ty #[.slice (ob.map fun b => ⟨b, 0, none⟩) len cap, src]).run P w = .ok (.slice (some ⟨g.b, 0, none⟩) (len + m) g.cap) w' ∧ (len + m ≤ g.cap ∧ g.cap * z = (len + m) * z + g.spare.length) ∧ St ok w0 (own.set kk ⟨some g.b, cs.take (len * z) ++ news ++ g.spare, e⟩) fs w' := by
 obtain ⟨i', hi', hz, hs, hbb⟩ := info_parts hi
 obtain ⟨ad, c', rfl, hnone, hcell⟩ := hsrc
 cases ad with
 | none => have := (hnone rfl).1; omega
 | some a =>
 have hnews := hcell a rfl
 have hl : news.length = m * i'.size := by rw [hs]; exact hm
 have zlen : ∀ q, (Builtin.zeroCells zv.cells q).toList.length = q * z := fun q => by rw [s6, h1]
 have hge : ∀ g q : Nat, q ≤ g → g * z = q * z + (g - q) * z := fun g q h => by rw [← Be]; congr 1; omega
 cases ob with
 | none =>
  have hcs : cs = [] := hS.own_ _ (A9 hk)
  subst hcs
  have hc0 : cap = 0 := by
   rcases B0 cap with h | h
   ·exact h
   ·have := Nat.mul_pos h hz0; simp at hcap; omega
  subst hc0
  have hl0 : len = 0 := by omega
  subst hl0
  have hrun := run_append_nil (P := P) w t ty e i' zv hu hi' hz a m c' news hl hnews hpos (by omega) (by rw [hbb]; rw [Az] at hb; omega)
  have hg := grownCap_ge w m 0 e
  refine ⟨⟨w.heap.size, grownCap w m 0 e, (Builtin.zeroCells zv.cells (grownCap w m 0 e - m)).toList⟩, _, by simpa using hrun, ⟨?_, ?_⟩, ?_⟩
  ·simpa using hg
  ·simp only [zlen, Az]; exact hge _ _ hg
  ·have := (hS.draw.alloc (news ++ (Builtin.zeroCells zv.cells (grownCap w m 0 e - m)).toList) e).replace kk
   have e1 : (news.toArray ++ Builtin.zeroCells zv.cells (grownCap w m 0 e - m)) = (news ++ (Builtin.zeroCells zv.cells (grownCap w m 0 e - m)).toList).toArray := by
    apply Array.ext'; simp
   simp only [List.take_nil, List.nil_append]; rw [e1]; exact this
 | some b' =>
  have hbk := hS.block hk
  have hlc : len * z ≤ cs.length := by rw [← hcap]; exact Bk _ hlen
  by_cases hroom : len + m ≤ cap
  ·have hlm : (len + m) * z ≤ cs.length := by rw [← hcap]; exact Bk _ hroom
   have hrun := run_append_room (P := P) w t ty e i' hu hi' b' len cap cs.toArray hbk a m c' news hl hnews h1c hroom (by rw [hs]; simp; rw [Be] at hlm; omega); refine ⟨⟨b', cap, cs.drop (len * z + m * z)⟩, _, hrun, ⟨hroom, ?_⟩, ?_⟩
   ·simp only [Cp]; rw [hcap, ← Be]; omega
   ·have := hS.setRow hk (cs.take (len * z) ++ news ++ cs.drop (len * z + m * z)); rw [hs]; simp only [hm]; exact this
  ·have hrun := run_append_grow (P := P) w t ty e i' zv hu hi' hz ⟨b', 0, none⟩ len cap (cs.take (len * z)) (by rw [hs]; simp; omega) (fun q u hq => by
     rw [Addr.add_lit, Az, dD hbk]; rw [Cu] at hq; split at hq
     ·exact hq
     ·cases hq) a m c' news hl hnews (by omega) (by omega) (by rw [hbb]; exact growslice_fits (by omega) hb)
   have hg := grownCap_ge w (len + m) cap e; refine ⟨⟨w.heap.size, grownCap w (len + m) cap e, (Builtin.zeroCells zv.cells (grownCap w (len + m) cap e - (len + m))).toList⟩, _, hrun, ⟨hg, ?_⟩, ?_⟩
   ·simp only [zlen]; exact hge _ _ hg
   ·have := (hS.draw.alloc (cs.take (len * z) ++ news ++ (Builtin.zeroCells zv.cells (grownCap w (len + m) cap e - (len + m))).toList) e).replace kk
    have e1 : ((cs.take (len * z)).toArray ++ news.toArray ++ Builtin.zeroCells zv.cells (grownCap w (len + m) cap e - (len + m))) = (cs.take (len * z) ++ news ++ (Builtin.zeroCells zv.cells (grownCap w (len + m) cap e - (len + m))).toList).toArray := by
     apply Array.ext'; simp
    rw [e1]; exact this
end
section
variable {ds : List Deferred} {P : Program} {o : Oper} {n : Nat} {L : ak} {ok : Nat → Prop} {w0 : World} {own : List Ent} {C : Ent → List Ent} {fs : List Fact} {x y : Operand} {t e : TypeId} {sz z : Nat} {xs : List Value}
theorem vB {len cap : Nat} {ob : Option Nat} {news sp : List Value} {zv : Value} {m c : Nat} {ad : Option Addr} (hop : o.op = .call { callee := .builtin .append, args := #[x, y], argTypes := #[t, t] }) (hu : P.underlying t = some (.slice e)) (hi : (P.info? e).map (fun i => (i.zero, i.size, i.bytes)) = some (some zv, z, sz)) (h1 : zv.cells.size = z) (hz0 : 0 < z)
  (hk : Ctx own ⟨ob, xs ++ sp, e⟩ C) (hx : ag L x = some (.slice (ob.map fun b => ⟨b, 0, none⟩) len cap)) (hy : ag L y = some (.slice ad m c)) (hsrc : ∀ w, St ok w0 own fs w → (Fact.sl ad news).holds (fun _ => True) w) (hm : news.length = m * z)
  (hb : xs.length = len * z ∧ cap * z = len * z + sp.length ∧ len + m ≤ 9223372036854775807 ∧ (len + m) * sz ≤ 140737488355328) (h1c : ∀ u ∈ news, u.oneCell' = true) :
  Og ds P o n L (St ok w0 own fs) (fun g : Gr => .slice (g.ob.map fun b => ⟨b, 0, none⟩) (len + m) g.cap) (fun g w => (g.cap * z = (len + m) * z + g.sp.length) ∧ St ok w0 (C ⟨g.ob, (xs ++ news) ++ g.sp, e⟩) fs w) :=
 bO fun a hF w hS => by
  obtain ⟨kk, hkk, hC⟩ := hk.get
  obtain ⟨hxl, hcap, h63, hbb⟩ := hb
  have hlc : len ≤ cap := by
   rcases Cy cap len with h | h
   ·have := Nat.mul_lt_mul_of_pos_right h hz0; omega
   ·exact h
  by_cases hpos : 0 < m
  ·have htake : (xs ++ sp).take (len * z) = xs := by rw [← hxl]; simp
   have hs : Src w (.slice ad m c) m news := by
    rcases hsrc w hS with h0 | ⟨b', off', cells, T', fz, e1, _, e3, e4⟩
    ·subst h0; have := Nat.mul_pos hpos hz0; simp at hm; omega
    ·subst e1; refine ⟨_, _, rfl, (fun h => by cases h), fun a ha q u hq => ?_⟩; obtain rfl := Option.some.inj ha; have hlt : q < news.length := (Al.1 hq).1; rw [Addr.add_lit]; simp [World.cell?, e3, e4 q hlt, hq]
   obtain ⟨g, w', hrun, hp, hS'⟩ := tG (P := P) (ty := o.type) hS hkk hu hi h1 hz0 hlc (by simp; omega) hs hm h1c hpos h63 hbb; rw [htake] at hS'; refine ⟨⟨some g.b, g.cap, g.spare⟩, w', .inl ?_, ?_, ?_⟩
   ·simp [execOp, hop, resolve, invoke, builtin, hF.eval hx, hF.eval hy, hrun]
   ·exact hp.2
   ·rw [hC]; exact hS'
  ·have hm0 : m = 0 := by omega
   subst hm0; have hn0 : news = [] := B2 (by omega); subst hn0; obtain ⟨i', hi', hz, hs, hbb'⟩ := info_parts hi; have hrun := nY (P := P) (w := w) (ob := ob) (len := len) (cap := cap) (c := c) (ad := ad) (ty := o.type) (sz := z) hu (by rw [hi']; simp [hs]) hlc; refine ⟨⟨ob, cap, sp⟩, w, .inl ?_, ?_, ?_⟩
   ·simp [execOp, hop, resolve, invoke, builtin, hF.eval hx, hF.eval hy, hrun]
   ·exact hcap
   ·rw [Bl]; rw [hC]
    have : own.set kk ⟨ob, xs ++ sp, e⟩ = own := by
     apply C7; intro q; by_cases hq : kk = q
     ·subst hq; rw [Da (Al.1 hkk).1, hkk]
     ·rw [Dl hq]
    rw [this]; exact hS
theorem nL {len cap : Nat} {ob : Option Nat} {news sp : List Value} {zv : Value} {m c : Nat} {ad : Option Addr} (hop : o.op = .call { callee := .builtin .append, args := #[x, y], argTypes := #[t, t] }) (hu : P.underlying t = some (.slice e)) (hi : (P.info? e).map (fun i => (i.zero, i.size, i.bytes)) = some (some zv, z, sz)) (h1 : zv.cells.size = z) (hz0 : 0 < z)
  (hk : Ctx own ⟨ob, xs ++ sp, e⟩ C) (hx : ag L x = some (.slice (ob.map fun b => ⟨b, 0, none⟩) len cap)) (hy : ag L y = some (.slice ad m c)) (hsrc : ∀ ext w, St ok w0 (ext ++ own) fs w → (Fact.sl ad news).holds (fun _ => True) w) (hm : news.length = m * z)
  (hb : xs.length = len * z ∧ cap * z = len * z + sp.length ∧ len + m ≤ 9223372036854775807 ∧ (len + m) * sz ≤ 140737488355328) (h1c : ∀ u ∈ news, u.oneCell' = true) (ext : List Ent) :
  Og ds P o n L (St ok w0 (ext ++ own) fs) (fun g : Gr => .slice (g.ob.map fun b => ⟨b, 0, none⟩) (len + m) g.cap) (fun g w => (g.cap * z = (len + m) * z + g.sp.length) ∧ St ok w0 (ext ++ C ⟨g.ob, (xs ++ news) ++ g.sp, e⟩) fs w) :=
 vB hop hu hi h1 hz0 (Ctx.right hk ext) hx hy (hsrc ext) hm hb h1c
end
theorem cP {k : Nat} (c : List Value) : (([(k, Value.agg c.toArray)] : List (Nat × Value)).map Prod.snd).flatMap (fun v => v.cells.toList) = c := by simp [Value.cells]
theorem p7 (off : Nat) (tl : List Value) : ∀ (c : List Value) (k : Nat) (done mid : List Value), mid.length = c.length → done.length = off + k →
  (c.zipIdx k).foldl (fun (cs : Array Value) (x : Value × Nat) => cs.setIfInBounds (off + x.2) x.1) (done ++ (mid ++ tl)).toArray = (done ++ (c ++ tl)).toArray
 | [], k, done, mid, h, _ => by
  have : mid = [] := B2 h
  subst this; simp
 | x :: c, k, done, [], h, _ => by simp at h
 | x :: c, k, done, m :: mid, h, hd => by
  rw [List.zipIdx_cons, List.foldl_cons]
  have e1 : (done ++ (m :: mid ++ tl)).toArray.setIfInBounds (off + k) x = ((done ++ [x]) ++ (mid ++ tl)).toArray := by
   rw [← hd]; apply Array.ext'; simp
  simp only
  rw [e1, p7 off tl c (k + 1) (done ++ [x]) mid (by simpa using h) (by simp; omega)]
  simp
theorem uN (z : Nat) : ∀ (vs done zs : List Value) (k : Nat), zs.length = vs.length * z → (∀ v ∈ vs, v.cells.size = z) → done.length = k * z →
  Instr.fill (fun i => some (i * z, z)) (done ++ zs).toArray ((List.range' k vs.length).zip vs) = some (done ++ vs.flatMap fun v => v.cells.toList).toArray
 | [], done, zs, k, hl, _, _ => by have : zs = [] := B2 (by simpa using hl); subst this; simp [Instr.fill]
 | v :: vs, done, zs, k, hl, h1, hd => by
  have hv := h1 v (by simp)
  rw [Ar, Be, Cm] at hl
  have hz : zs = zs.take z ++ zs.drop z := (Dt z zs).symm
  have hzl : (zs.take z).length = z := by rw [Bp]; omega
  have hdl : (zs.drop z).length = vs.length * z := by rw [Cp]; omega
  have e1 := p7 (k * z) (zs.drop z) v.cells.toList 0 done (zs.take z) (by rw [hzl]; simpa using hv.symm) (by omega)
  rw [← hz] at e1
  have ih := uN z vs (done ++ v.cells.toList) (zs.drop z) (k + 1) hdl (fun u hu => h1 u (by simp [hu])) (by rw [A5, hd, Be]; simp [hv])
  simp only [Ar, List.range'_succ, List.zip_cons_cons, Instr.fill]
  rw [Aa (by simp [hv, hd]; omega)]
  have e2 : (v.cells.zipIdx.foldl (fun (cs : Array Value) (x : Value × Nat) => cs.setIfInBounds (k * z + x.2) x.1) (done ++ zs).toArray) = (done ++ (v.cells.toList ++ zs.drop z)).toArray := by
   rw [← e1, ← Array.foldl_toList, Array.toList_zipIdx]
  have e3 : (v.cells.zipIdx.foldl (fun cs x => match x with | (c, j) => cs.setIfInBounds (k * z + j) c) (done ++ zs).toArray) = (done ++ (v.cells.toList ++ zs.drop z)).toArray := e2
  rw [e3, ← Cl, ih]
  simp
section
variable {ds : List Deferred} {P : Program} {o : Oper} {n : Nat} {L : ak} {ok : Nat → Prop} {w0 : World} {own : List Ent} {fs : List Fact} {t e : TypeId} {sz z : Nat} {cs : List Value}
theorem qd {len : Nat} {vs : List (Nat × Value)} {zv : Value} (hu : P.underlying t = some (.slice e))
  (hi : (P.info? e).map (fun i => (i.zero, i.size, i.bytes)) = some (some zv, z, sz)) (hzs : zv.cells.size = z) (hz0 : 0 < z) (hnum : vs = (List.range' 0 len).zip (vs.map Prod.snd)) (hlen : (vs.map Prod.snd).length = len) (h1 : ∀ v ∈ vs.map Prod.snd, v.cells.size = z) (hcs : (vs.map Prod.snd).flatMap (fun v => v.cells.toList) = cs) (hsm : len * z ≤ 16777216) (w : World) :
  (Instr.buildSlice t len vs.toArray).run P w = .ok (.slice (some ⟨w.heap.size, 0, none⟩) len len) (w.alloc (.cells cs.toArray e)) := by
 obtain ⟨i', hi', hz', hs, hbb⟩ := info_parts hi
 have hfill : ∀ zs : List Value, zs.length = len * z → Instr.fill (fun i => some (i * z, z)) zs.toArray vs = some cs.toArray := fun zs hzl => by
  have := uN z (vs.map Prod.snd) [] zs 0 (by rw [hlen]; exact hzl) h1 (by simp)
  rw [hlen, ← hnum, hcs] at this; simpa using this
 simp only [Instr.buildSlice, Sem.run_bind, run_underlying hu, Result.andThen, sizeOf, typeInfo, run_program, hi', Sem.run_pure, hs]
 rw [Aa (by omega)]
 by_cases h0 : len * z = 0
 ·have hzero : ((Array.range (len * z)).map fun x => (#[] : Array Value)[x % (#[] : Array Value).size]!) = (((Array.range (len * z)).map fun x => (#[] : Array Value)[x % (#[] : Array Value).size]!).toList).toArray := (Array.toArray_toList).symm
  rw [Ab h0]
  simp only [Sem.run_pure, Sem.run_bind, Result.andThen]
  rw [hzero, hfill _ (by simp)]
  rfl
 ·have hzero : ((Array.range (len * z)).map fun x => zv.cells[x % zv.cells.size]!) = (((Array.range (len * z)).map fun x => zv.cells[x % zv.cells.size]!).toList).toArray := (Array.toArray_toList).symm
  rw [Aa h0]
  simp only [Sem.run_bind, zeroValue, typeInfo, run_program, Result.andThen, hi', Sem.run_pure, hz']
  rw [hzero, hfill _ (by simp)]
  rfl
theorem g8 {len : Nat} {parts : List (Nat × Operand)} {vs : List (Nat × Value)} {zv : Value} (hop : o.op = .buildSlice t len parts.toArray) (hp : cj L parts = some vs) (hu : P.underlying t = some (.slice e))
  (hi : (P.info? e).map (fun i => (i.zero, i.size, i.bytes)) = some (some zv, z, sz)) (hzs : zv.cells.size = z) (hz0 : 0 < z) (hnum : vs = (List.range' 0 len).zip (vs.map Prod.snd)) (hlen : (vs.map Prod.snd).length = len) (h1 : ∀ v ∈ vs.map Prod.snd, v.cells.size = z) (hcs : (vs.map Prod.snd).flatMap (fun v => v.cells.toList) = cs) (hsm : len * z ≤ 16777216) :
  Og ds P o n L (St ok w0 own fs) (fun b : Nat => .slice (some ⟨b, 0, none⟩) len len) (fun b => St ok w0 (⟨some b, cs, e⟩ :: own) fs) := yh hop hp hu (qd hu hi hzs hz0 hnum hlen h1 hcs hsm)
theorem hO {len : Nat} {parts : List (Nat × Operand)} {vs : List (Nat × Value)} {zv : Value} (hop : o.op = .buildSlice t len parts.toArray) (hp : cj L parts = some vs) (hu : P.underlying t = some (.slice e))
  (hi : (P.info? e).map (fun i => (i.zero, i.size, i.bytes)) = some (some zv, z, sz)) (hzs : zv.cells.size = z) (hz0 : 0 < z) (hnum : vs = (List.range' 0 len).zip (vs.map Prod.snd)) (hlen : (vs.map Prod.snd).length = len) (h1 : ∀ v ∈ vs.map Prod.snd, v.cells.size = z) (hcs : (vs.map Prod.snd).flatMap (fun v => v.cells.toList) = cs) (hsm : len * z ≤ 16777216) :
  Fre ds P o n L (fun b : Nat => .slice (some ⟨b, 0, none⟩) len len) cs e := yn hop hp hu (qd hu hi hzs hz0 hnum hlen h1 hcs hsm)
end
theorem St.addN {ok : Nat → Prop} {w0 w : World} {own : List Ent} {fs : List Fact} (h : St ok w0 own fs w) : St ok w0 own (Fact.sl none [] :: fs) w := h.add (f := Fact.sl none []) (Or.inl rfl)
def okN (a : Bs) : Prop := a.length ≤ 128 ∧ Can a
instance (a : Bs) : Decidable (okN a) := inferInstanceAs (Decidable (_ ∧ _))
theorem iZ (a : Bs) : Can a ↔ a.length = 0 ∨ (a.getD 0 default).toNat ≠ 0 := by
 cases a with
 | nil => simp [Can]
 | cons c s =>
  simp only [Can, List.head?_cons, Ar, C9]
  constructor
  ·intro h; right; intro h0; exact h (by rw [show c = 0 from UInt8.toNat_inj.1 h0])
  ·rintro (h | h)
   ·omega
   ·intro h0; injection h0 with h0; subst h0; exact h rfl
theorem ay {a : Bs} {w : World} :
  Cw 83 #[.string (S a)] w (.bool (decide (okN a))) := by
 have hci := iZ a
 refine En [] [(0, .string (S a))] Tryz.func83 I Tryz.ntmps83 I (Ac I (An _)) Fn (Cs (DT ?_)); refine Yn I u22 (Ym I (Km I (Nc 6 I (fun hg6 => ?_) (fun hg6 => ?_))))
 ·refine Km I (Yn I u22 (Yi I (Km I (Nc 10 I (fun hg10 => ?_) (fun hg10 => ?_)))))
  ·refine T2 I (Kt I (Yp I (Yp I (to ?_))))
   exact Rn I (.tmp I .nil) fun w' hS => ⟨congrArg (fun b => Ending.returned (.bool b)) (by
    first
     | (symm; rw [decide_eq_true_eq]; exact ⟨by omega, hci.2 (.inl (by omega))⟩)
     | (symm; rw [decide_eq_false_iff_not]; rintro ⟨h, _⟩; omega)
     | (show (!decide ((((a.getD 0 default).toNat : Nat) : Int) = 0)) = _
        rw [Bz]; simp only [Bu, decide_eq_false_iff_not, decide_eq_true_eq]
        exact ⟨fun h => ⟨by omega, hci.2 (.inr (by omega))⟩, fun h => by have := (hci.1 h.2).resolve_left (by omega); omega⟩)), hS.below⟩
  ·refine Km I (Kq I (bo I I I u22 ?_) ?_)
   ·omega
   refine Yj I (Yq I (Yp I (to ?_)))
   exact Rn I (.tmp I .nil) fun w' hS => ⟨congrArg (fun b => Ending.returned (.bool b)) (by
    first
     | (symm; rw [decide_eq_true_eq]; exact ⟨by omega, hci.2 (.inl (by omega))⟩)
     | (symm; rw [decide_eq_false_iff_not]; rintro ⟨h, _⟩; omega)
     | (show (!decide ((((a.getD 0 default).toNat : Nat) : Int) = 0)) = _
        rw [Bz]; simp only [Bu, decide_eq_false_iff_not, decide_eq_true_eq]
        exact ⟨fun h => ⟨by omega, hci.2 (.inr (by omega))⟩, fun h => by have := (hci.1 h.2).resolve_left (by omega); omega⟩)), hS.below⟩
 ·refine T4 I (T4 I (Yq I (to ?_)))
  exact Rn I (.tmp I .nil) fun w' hS => ⟨congrArg (fun b => Ending.returned (.bool b)) (by
   first
    | (symm; rw [decide_eq_true_eq]; exact ⟨by omega, hci.2 (.inl (by omega))⟩)
    | (symm; rw [decide_eq_false_iff_not]; rintro ⟨h, _⟩; omega)
    | (show (!decide ((((a.getD 0 default).toNat : Nat) : Int) = 0)) = _
       rw [Bz]; simp only [Bu, decide_eq_false_iff_not, decide_eq_true_eq]
       exact ⟨fun h => ⟨by omega, hci.2 (.inr (by omega))⟩, fun h => by have := (hci.1 h.2).resolve_left (by omega); omega⟩)), hS.below⟩
theorem dh {a : Bs} {i : Nat} {w : World} (ha : a.length ≤ 1000000000) (hi : i ≤ 1000000000) :
  Cw 129 #[.string (S a), .int .i64 (i : Int)] w (.int .i64 ((val a / 256 ^ i % 256 : Nat) : Int)) := by
 refine En [] [(0, .string (S a)), (1, .int .i64 (i : Int))] Tryz.func129 I Tryz.ntmps129 I (Ac I (Ac I (An _))) Fn (Cs (DR ?_)); refine Km I (Yn I u22 (E7 (fun hc8 => ?_) (fun hc8 => ?_)))
 ·refine Cs (ne ?_)
  exact R1 I I (by rw [kl a i (by omega)]; rfl)
 ·refine EN ?_; refine Yn I u22 (Ev ?_)
  refine Kq I (bo I I I u22 ?_) ?_
  ·omega
  refine Kq I (fX I I u5 u3 ?_) ?_
  ·(exact kg _)
  refine to ?_
  exact R1 I I (by rw [jd a i (by omega)]; simp only [tup]; congr 3)
theorem ko {t : Bs} (h0 : 0 < t.length) (h : (t.getD 0 default).toNat = 0) : cw t = cw (t.drop 1) := by
 cases t with
 | nil => simp at h0
 | cons c s =>
  have : c = 0 := UInt8.toNat_inj.1 h
  subst this; simp [cw]
theorem du {t : Bs} (h : t.length = 0 ∨ (t.getD 0 default).toNat ≠ 0) : cw t = t := th ((iZ t).2 h)
theorem rn {b : Bs} {ad : Option Addr} {cap : Nat} {w : World} {ok : Nat → Prop} (hF1 : (Fact.sl ad (b.map B)).holds ok w) (hcap : b.length ≤ cap) (hb : b.length ≤ 1000000000) :
  Cw 131 #[.slice ad b.length cap] w (.string (S (ae (val b)))) := by
 refine En [Fact.sl ad (b.map B)] [(0, .slice ad b.length cap)] Tryz.func131 I Tryz.ntmps131 I (Ac I (An _)) (Fc (ah hF1) Fn) (Cs (Ka I (Nt (Cq (Cb (Lo (σ := Bs × (Option Addr) × Nat) [] (fun gq => [(0, .slice gq.2.1 gq.1.length gq.2.2)]) (fun gq => cw gq.1 = cw b ∧ gq.1.length ≤ gq.2.2 ∧ gq.1.length ≤ b.length) (fun gq => gq.1.length) (fun gq => []) (fun gq => [Fact.sl gq.2.1 (gq.1.map B)]) (b, ad, cap) (S0 _) (S1 I) (by (try dsimp only); exact ⟨rfl, hcap, Bd _⟩) (fun _ h => h) ?_))))))
 rintro ⟨t, a', c⟩ hinv1; (try dsimp only at hinv1 ⊢)
 obtain ⟨ht, htc, htb⟩ := hinv1
 refine Cq (Cs (Km I (Yo I aE (Yg I (Km I (Nc 6 I (fun hg6 => ?_) (fun hg6 => ?_)))))))
 ·refine Km I (Kq I (Ib I I I aE (by omega) (by (rw [Ag]; omega))) ?_)
  refine Kq I (ldm I I u5 I (by omega)) ?_
  refine Yi I (Yp I (Nt (Ci I (fun hc11 => ?_) (fun hc11 => ?_))))
  ·have hz : (t.getD 0 default).toNat = 0 := by (simp at hc11; exact hc11)
   refine Ck (Xa (Cb (Cg (Km I (Kq I (kG I I I aE (by kernel_rfl : _ = some 1) (by omega) (by (try simp only [sN, Int.reduceToNat, Nat.reduceAdd, Nat.reduceMul, Nat.reduceSub]); rfl) (by (try simp only [sN, Int.reduceToNat, Nat.reduceAdd, Nat.reduceMul, Nat.reduceSub]); rfl) (by (try simp only [sN, Int.reduceToNat, Nat.reduceAdd, Nat.reduceMul, Nat.reduceSub]); rfl)) ?_))))); refine Ns 13 I (v' := .slice (cut a' 1 c 1) (t.drop 1).length (c - 1)) (by rw [Cp]) ?_; refine Ka I (Nn (Xd (Lx ((t.drop 1, cut a' 1 c 1, c - 1)) (by simp only [Cp]; omega) (S0 _) (by refine (Sc ?_ (S0 _)) <;> (rfl)) ?_ (by exact fun w h => (h.add (f := Fact.sl (cut a' 1 c 1) ((t.drop 1).map B)) (jW 1 htc (h.fact (Fact.sl a' (t.map B)) (by simp)))).sub (Ax _) (fun f hf => A7.2 (.inl (List.mem_singleton.1 hf))))))); (try dsimp only); exact ⟨by rw [← ko (by omega) hz]; exact ht, by simp; omega, by simp; omega⟩
  ·refine AT ?_; refine Xa (Cs (Km I ?_)); refine Kq I (sS I I .tc aE u5 u22 ?_) ?_
   ·rfl
   refine to ?_; exact R1 I I (by rw [show ae (val b) = t from by rw [← dt, ← ht, du (by omega)]]; rfl)
 ·refine T4 I (Yq I (Fg (fun _ => ?_)))
  refine AT ?_; refine Xa (Cs (Km I ?_))
  refine Kq I (sS I I .tc aE u5 u22 ?_) ?_
  ·rfl
  refine to ?_
  exact R1 I I (by rw [show ae (val b) = t from by rw [← dt, ← ht, du (by omega)]]; rfl)
theorem dV {b : Bs} {ad : Option Addr} {m cap : Nat} {w : World} {ok : Nat → Prop} (hF1 : (Fact.sl ad (b.map B)).holds ok w) (hm : m = b.length) (hcap : b.length ≤ cap) (hb : b.length ≤ 1000000000) :
  Cw 131 #[.slice ad m cap] w (.string (S (ae (val b)))) :=
 by subst hm; exact rn hF1 hcap hb
def fw (m k n : Nat) : List Value := (List.replicate (m - k) (0 : UInt8) ++ be k n).map B
theorem cN (m n : Nat) : fw m 0 n = List.replicate m (B 0) := by simp [fw, be]
theorem ck (m n : Nat) : fw m m n = (be m n).map B := by simp [fw]
theorem cd (m k n : Nat) (h : k ≤ m) : (fw m k n).length = m := by simp [fw, aP]; omega
theorem cb (m k n : Nat) (h : k < m) : (fw m k n).set (m - 1 - k) (B (UInt8.ofNat (n / 256 ^ k))) = fw m (k + 1) n := by
 unfold fw
 rw [← List.map_set]
 congr 1
 rw [show m - k = (m - (k + 1)) + 1 by omega, List.replicate_succ', Cl, Dd _ _ (by simp; omega), Ei, show m - 1 - k - (m - (k + 1)) = 0 by omega]
 rfl
theorem pG (n k : Nat) (h : k ≤ 8) : IntKind.u8.wrap ((n : Int).fdiv (2 ^ (min (Int.toNat ((8 * k : Nat) : Int)) IntKind.u64.bits))) = ((UInt8.ofNat (n / 256 ^ k)).toNat : Int) := by
 have m1 : min (Int.toNat ((8 * k : Nat) : Int)) IntKind.u64.bits = 8 * k := by
  have : IntKind.u64.bits = 64 := by decide
  omega
 have e2 : ((2 : Int) ^ (8 * k)) = ((256 ^ k : Nat) : Int) := by rw [Int.pow_mul]; norm_cast
 rw [m1, e2, IntKind.wrap_u8, Dy _ (Bq _), UInt8.toNat_ofNat']
 norm_cast
theorem f8 {n : Nat} {w : World} (hn : n < 18446744073709551616) :
  Cw 91 #[.int .u64 (n : Int)] w (.string (S (ae n))) := by
 refine En [] [(0, .int .u64 (n : Int))] Tryz.func91 I Tryz.ntmps91 I (Ac I (An _)) Fn (Cs (Ka I (Nt (Cs (Kh I (Oz [.int .u8 0, .int .u8 0, .int .u8 0, .int .u8 0, .int .u8 0, .int .u8 0, .int .u8 0, .int .u8 0] I) ?_)))))
 intro b3
 refine Nt (Cq (Cs (Km I (Nt (Cb (Lo (σ := Nat) [(0, _), (3, _)] (fun gq => [(5, .int .i64 (gq : Int))]) (fun gq => gq ≤ 8) (fun gq => 8 - gq) (fun gq => [⟨some b3, fw 8 gq n, 191⟩]) (fun gq => []) (0) (S2 I I) (S1 I) (by (try dsimp only); exact Ai _) (by exact fun w h => h) ?_))))))
 rintro k hinv1; (try dsimp only at hinv1 ⊢)
 obtain hk := hinv1
 refine DP (fun hc6 => ?_) (fun hc6 => ?_)
 ·refine El ?_; refine Ka I (Nt (Cg (Km I (Kq I (ed I I I (by omega)) (Ns 9 I (v' := .int .i64 (((7 - k : Nat) : Int))) (congrArg (Value.int .i64) (by omega)) (Km I (Km I (Kq I (bZ I I I (by omega)) ?_))))))))
  refine Kq I (g5 I I I ?_) ?_
  ·omega
  refine Kq I (aR I I u76 u5) (Ns 14 I (v' := B (UInt8.ofNat (n / 256 ^ k))) (by exact congrArg (Value.int .u8) (pG n k (by omega))) ?_)
  refine Kq I (Jb I I I AD (by kernel_rfl : _ = some 1) ?_) ?_
  ·omega
  refine Ng I I (st I I I .tc (by kernel_rfl) I ?_ (by rfl)) ?_
  ·rw [cd _ _ _ (by omega)]; omega
  intro _
  refine Nn (Xd (Xa (Cg (Kq I (Rz I I I (by omega)) (Km I (Nn (Lx (k + 1) (by (try dsimp only); omega) (S2 I I) (by refine (Sc ?_ (S0 _)) <;> (rfl)) ?_ (by exact fun w h => by rw [← cb 8 k n (by omega)]; exact h))))))))
  (try dsimp only)
  omega
 ·refine AT ?_
  obtain rfl : k = 8 := by omega
  rw [ck]
  refine Xa (Cs (Kq I (eN I I AD (by kernel_rfl : _ = some 1)) ?_))
  refine Kc I (fun w hS => dV (b := be 8 n) (by (exact hS.os)) (by rw [aP]) (by rw [aP]; decide) (by rw [aP]; decide)) (to ?_)
  exact R1 I I (by rw [dr, Ah (by omega)]; rfl)
theorem oG : ∀ (a b : Bs), a.length = b.length → Lib.compareBytes a b = dm (val a) (val b)
 | [], [], _ => by simp [Lib.compareBytes, dm, val]
 | [], _ :: _, h => by simp at h
 | _ :: _, [], h => by simp at h
 | x :: a, y :: b, h => by
  have hl : a.length = b.length := by simpa using h
  have ih := oG a b hl
  have ha := aL a; have hb := aL b
  rw [hl] at ha
  simp only [Lib.compareBytes, val, hl]
  rcases Nat.lt_trichotomy x.toNat y.toNat with q | q | q
  ·have h1 : (x.toNat + 1) * 256 ^ b.length ≤ y.toNat * 256 ^ b.length := Bk _ q; rw [Be, Cm] at h1; rw [Ab (show x < y from q), dm, Ab (by omega)]
  ·have hxy : x = y := UInt8.toNat_inj.1 q; subst hxy; rw [Aa (show ¬ x < x from Nat.lt_irrefl _), Aa (show ¬ x < x from Nat.lt_irrefl _), ih]; unfold dm; split <;> split <;> (try split) <;> (try split) <;> omega
  ·have h1 : (y.toNat + 1) * 256 ^ b.length ≤ x.toNat * 256 ^ b.length := Bk _ q; rw [Be, Cm] at h1; rw [Aa (show ¬ x < y from Nat.not_lt.2 (Nat.le_of_lt q)), Ab (show y < x from q), dm, Aa (by omega), Ab (by omega)]
theorem q6 {a b : Bs} (ha : Can a) (hb : Can b) (h : a.length ≠ b.length) : dm (a.length : Int) (b.length : Int) = dm (val a) (val b) := by
 unfold dm
 rcases Nat.lt_or_gt_of_ne h with q | q
 ·have : val a < val b := Nat.lt_of_not_le fun h' => by have := iY hb ha h'; omega
  rw [Ab (by omega), Ab (by omega)]
 ·have : val b < val a := Nat.lt_of_not_le fun h' => by have := iY ha hb h'; omega
  rw [Aa (by omega), Ab (by omega), Aa (by omega), Ab (by omega)]
theorem js {a b : Bs} {w : World} (ha : Can a) (hb : Can b) :
  Cw 106 #[.string (S a), .string (S b)] w (.int .i64 (dm (val a) (val b))) := by
 refine En [] [(0, .string (S a)), (1, .string (S b))] Tryz.func106 I Tryz.ntmps106 I (Ac I (Ac I (An _))) Fn (Cs (DR ?_)); refine Yn I u22 (Km I (Yn I u22 (Kc I (fun w hS => BW (a := (a.length : Int)) (b := (b.length : Int))) (DT ?_)))); refine EL (fun hc12 => ?_) (fun hc12 => ?_)
 ·have hne : a.length ≠ b.length := fun h => by rw [dm, Aa (by omega), Aa (by omega)] at hc12; exact hc12 rfl
  refine Cs (Km I (ne ?_))
  exact R1 I I (by rw [← q6 ha hb hne]; rfl)
 ·have heq : a.length = b.length := by unfold dm at hc12; split at hc12 <;> (try split at hc12) <;> omega
  refine EN ?_; refine Kc I (fun w hS => yK) (to ?_)
  exact R1 I I (by rw [← oG a b heq]; rfl)
def eh (a b : Bs) : Int := if okN a ∧ okN b then dm (val a) (val b) else 0
theorem el {a b : Bs} {w : World} :
  Cw 57 #[.string (S a), .string (S b)] w (.int .i64 (eh a b)) := by
 refine En [] [(0, .string (S a)), (1, .string (S b))] Tryz.func57 I Tryz.ntmps57 I (Ac I (Ac I (An _))) Fn (Cs (DR ?_)); refine FJ ?_; refine Nc 8 I (fun hg8 => ?_) (fun hg8 => ?_)
 ·refine T2 I (Kt I (Yp I (Nt (Cd I (fun _ => ?_) (fun h => by cases h)))))
  refine Cs (ne ?_)
  exact G0
 ·refine Gi ?_; refine EP (fun hc12 => ?_) (fun hc12 => ?_)
  ·refine Cs (ne ?_); exact G0
  ·have hab : okN a ∧ okN b := by simp_all
   refine EN ?_; refine Kc I (fun w hS => js (a := a) (b := b) (by exact hab.1.2) (by exact hab.2.2)) (to ?_); exact R1 I I (by rw [eh, Ab hab]; rfl)
theorem l8 {a : Bs} {w : World} :
  Cw 130 #[.string (S a)] w (.tuple #[.string (S (if 128 < a.length then [] else a)), .int .i64 (if 128 < a.length then 5 else 0)]) := by
 refine En [] [(0, .string (S a))] Tryz.func130 I Tryz.ntmps130 I (Ac I (An _)) Fn (Cs (Ka I (DR ?_))); refine Yn I u22 (FR (fun hc6 => ?_) (fun hc6 => ?_))
 ·refine Cs (Ka I (ne ?_))
  exact R2 I I I (by rw [Ab (by omega), Ab (by omega)]; rfl)
 ·refine FN ?_; refine Ka I (to ?_)
  exact R2 I I I (by rw [Aa (by omega), Aa (by omega)]; rfl)
def Big : Nat := 256 ^ 128
theorem dC {n : Nat} : (ae n).length ≤ 128 ↔ n < Big := bj
def addN (a b : Bs) : Bs × Int := if okN a ∧ okN b then (if val a + val b < Big then (ae (val a + val b), 0) else ([], 5)) else ([], 3)
def NE (r : Bs × Int) : Value := .tuple #[.string (S r.1), .int .i64 r.2]
theorem yy {a b : Bs} {w : World} :
  Cw 76 #[.string (S a), .string (S b)] w (NE (addN a b)) := by
 refine En [] [(0, .string (S a)), (1, .string (S b))] Tryz.func76 I Tryz.ntmps76 I (Ac I (Ac I (An _))) Fn (Cs (Ka I (DR ?_))); refine FJ ?_; refine Nc 13 I (fun hg13 => ?_) (fun hg13 => ?_)
 ·refine T2 I (Kt I (Yp I (Nt (Cd I (fun _ => ?_) (fun h => by cases h)))))
  refine Cs (Ka I (ne ?_))
  exact GU
 ·refine Gi ?_; refine EP (fun hc17 => ?_) (fun hc17 => ?_)
  ·refine Cs (Ka I (ne ?_)); exact GU
  ·have hab : okN a ∧ okN b := by simp_all
   have hal := hab.1.1; have hbl := hab.2.1; refine FN ?_; refine Yn I u22 (Km I (Yn I u22 (Kq I (gF I I I) (Ns 22 I (v' := .int .i64 ((max a.length b.length : Nat) : Int)) (congrArg (Value.int .i64) (by omega)) (F7 ?_))))); obtain ⟨N, hN⟩ : ∃ N : Nat, N = max a.length b.length + 1 := ⟨_, rfl⟩; refine Ns 23 I (v' := .int .i64 (N : Int)) (by rw [hN]) ?_; have hNl : N ≤ 129 := by omega
   have hS256 : val a + val b < 256 ^ N := by
    have h1 := aL a; have h2 := aL b; have h3 : 256 ^ a.length ≤ 256 ^ (N - 1) := A2 (by decide) (by omega); have h4 : 256 ^ b.length ≤ 256 ^ (N - 1) := A2 (by decide) (by omega); have h5 : 256 ^ N = 256 ^ (N - 1) * 256 := by rw [← As]; congr 1; omega
    omega
   have hcl : (if 128 < (ae (val a + val b)).length then ([] : Bs) else ae (val a + val b)) = (addN a b).1 ∧ (if 128 < (ae (val a + val b)).length then (5 : Int) else 0) = (addN a b).2 := by
    rw [addN, Ab hab]; by_cases h : val a + val b < Big
    ·have hl := dC.2 h; rw [Aa (show ¬ 128 < (ae (val a + val b)).length by omega), Aa (show ¬ 128 < (ae (val a + val b)).length by omega), Ab h]; exact ⟨rfl, rfl⟩
    ·have hl : ¬ (ae (val a + val b)).length ≤ 128 := fun h' => h (dC.1 h')
     rw [Ab (show 128 < (ae (val a + val b)).length by omega), Ab (show 128 < (ae (val a + val b)).length by omega), Aa h]; exact ⟨rfl, rfl⟩
   refine Ka I (Nt (Cs (Km I (Kh I (ef I I I aE (by kernel_rfl : _ = some (some (.int .u8 0), 1, 1)) I ?_ (by (try simp only [sN, Int.reduceToNat, Nat.reduceAdd, Nat.reduceMul, Nat.reduceSub]); rfl) (by (try simp only [sN, Int.reduceToNat, Nat.reduceAdd, Nat.reduceMul, Nat.reduceSub]); rfl)) ?_))))
   ·omega
   intro b25; refine Ka I (Nt (Cs (Ka I (Ns 8 I (v' := .int .i64 ((ct (val a) (val b) 0 : Nat) : Int)) (congrArg (Value.int .i64) (by rw [jI]; rfl)) ?_)))); refine Nt (E0 ?_); refine Nt (Cb (Lo (σ := Nat) [(0, _), (1, _), (6, _), (7, _), (26, _)] (fun gq => [(8, .int .i64 (ct (val a) (val b) gq : Int)), (27, .int .i64 (gq : Int))]) (fun gq => gq ≤ N) (fun gq => N - gq) (fun gq => [⟨some b25, fw N gq (val a + val b), 5⟩]) (fun gq => []) (0) (S5 I I I I I) (S2 I I) (by (try dsimp only); exact Ai _) (by exact fun w h => by rw [cN]; exact h) ?_)); rintro k hinv1; (try dsimp only at hinv1 ⊢); obtain hk := hinv1; refine DP (fun hc28 => ?_) (fun hc28 => ?_)
   ·have hc1 := mw (val a) (val b) k; have hd1 := Ak (val a / 256 ^ k) (show 0 < 256 by decide); have hd2 := Ak (val b / 256 ^ k) (show 0 < 256 by decide); refine El ?_; refine DT ?_; refine Km I (Ge ?_); refine Gu ?_; refine Fq ?_; refine Fq ?_; refine DT ?_; refine Km I (Ev ?_); refine Ns 43 I (v' := .int .i64 ((N - 1 - k : Nat) : Int)) (congrArg (Value.int .i64) (by omega)) (Km I (Kq I (aR I I u3 u5) (Ns 45 I (v' := B (UInt8.ofNat ((val a + val b) / 256 ^ k))) (by exact congrArg (Value.int .u8) (by rw [x5, lN, Co])) ?_))); refine Ek ?_; refine Ng I I (st I I I .tc (by kernel_rfl) I ?_ (by rfl)) ?_
    ·rw [cd _ _ _ (by omega)]; omega
    intro _; refine Nt (Cg (Km I (Kq I (g5 I I I ?_) ?_)))
    ·decide
    refine Ns 48 I (v' := .int .i64 ((ct (val a) (val b) (k + 1) : Nat) : Int)) (congrArg (Value.int .i64) (by rw [DB, jJ, Co])) ?_; refine Ka I (Nn (Xd (Xa (Cg (Kq I (Rz I I I (by omega)) (Km I (Nn (Lx (k + 1) (by (try dsimp only); omega) (S5 I I I I I) (by refine (Sc ?_ (Sc ?_ (S0 _))) <;> (rfl)) ?_ (by exact fun w h => by rw [← cb N k _ (by omega)]; exact h))))))))); (try dsimp only); omega
   ·refine AT ?_; obtain rfl : k = N := by omega
    rw [ck]; refine Xa (Cs (Km I (Kc I (fun w hS => dV (b := be k (val a + val b)) (by (exact hS.os)) (by rw [aP]) (by rw [aP]; exact Bd _) (by rw [aP]; omega)) (Ns 51 I (v' := .string (S (ae (val a + val b)))) (congrArg (fun l => Value.string (S l)) (by rw [dr, Ah hS256])) ?_)))); refine Kc I (fun w hS => l8) (Ye I (Ye I (Ka I (to ?_)))); exact R2 I I I (by simp only [tup, NE]; rw [← hcl.1, ← hcl.2])
theorem jw (a b i : Nat) : a7 a b i ≤ 1 := by unfold a7; split <;> omega
theorem eI (a b i : Nat) : a7 a b (i + 1) = if a / 256 ^ i % 256 < b / 256 ^ i % 256 + a7 a b i then 1 else 0 := by
 have e1 : a % 256 ^ (i + 1) = a % 256 ^ i + 256 ^ i * (a / 256 ^ i % 256) := by rw [As, Nat.mod_mul]
 have e2 : b % 256 ^ (i + 1) = b % 256 ^ i + 256 ^ i * (b / 256 ^ i % 256) := by rw [As, Nat.mod_mul]
 have m1 := Ak a (jl i); have m2 := Ak b (jl i)
 unfold a7
 rw [e1, e2]
 generalize 256 ^ i = P at *
 generalize a / P % 256 = x at *
 generalize b / P % 256 = y at *
 rcases Nat.lt_trichotomy x y with q | q | q
 ·have h1 : P * (x + 1) ≤ P * y := B3 _ q
  rw [Bf, A0] at h1
  rw [Ab (by omega)]
  split <;> rw [Ab (by omega)]
 ·subst q
  by_cases h : a % P < b % P
  ·rw [Ab (by omega), Ab h, Ab (by omega)]
  ·rw [Aa (by omega), Aa h, Aa (by omega)]
 ·have h1 : P * (y + 1) ≤ P * x := B3 _ q
  rw [Bf, A0] at h1
  rw [Aa (by omega)]
  split <;> rw [Aa (by omega)]
theorem il {a b : Nat} (h : b ≤ a) (i : Nat) (x : Int) (hx : x = (a / 256 ^ i % 256 : Nat) - (b / 256 ^ i % 256 : Nat) - (a7 a b i : Nat) ∨ x = (a / 256 ^ i % 256 : Nat) - (b / 256 ^ i % 256 : Nat) - (a7 a b i : Nat) + 256) :
  IntKind.u8.wrap x = ((UInt8.ofNat ((a - b) / 256 ^ i)).toNat : Int) := by
 obtain ⟨h1, h2⟩ := pI h i
 have h3 := jw a b i
 rw [IntKind.wrap_u8, UInt8.toNat_ofNat', h1]
 omega
theorem zx {a b : Bs} {w : World} (hle : val b ≤ val a) (ha : a.length ≤ 1000000) (hb : b.length ≤ 1000000) :
  Cw 190 #[.string (S a), .string (S b)] w (.string (S (ae (val a - val b)))) := by
 have hS256 : val a - val b < 256 ^ a.length := Bj (Nat.sub_le _ _) (aL a)
 refine En [] [(0, .string (S a)), (1, .string (S b))] Tryz.func190 I Tryz.ntmps190 I (Ac I (Ac I (An _))) Fn (Cs (Ka I (Nt (Cs (Km I (Yn I u22 (Ka I (Nt (Cs (Km I (Kh I (ef I I I aE (by kernel_rfl : _ = some (some (.int .u8 0), 1, 1)) I ?_ (by (try simp only [sN, Int.reduceToNat, Nat.reduceAdd, Nat.reduceMul, Nat.reduceSub]); rfl) (by (try simp only [sN, Int.reduceToNat, Nat.reduceAdd, Nat.reduceMul, Nat.reduceSub]); rfl)) ?_)))))))))))
 ·omega
 intro b13
 refine Ka I (Nt (Cs (Ka I (Ns 7 I (v' := .int .i64 ((a7 (val a) (val b) 0 : Nat) : Int)) (congrArg (Value.int .i64) (by rw [i1]; rfl)) ?_))))
 refine Nt (E0 ?_); refine Nt (Cb (Lo (σ := Nat) [(0, _), (1, _), (5, _), (6, _), (14, _)] (fun gq => [(7, .int .i64 (a7 (val a) (val b) gq : Int)), (15, .int .i64 (gq : Int))]) (fun gq => gq ≤ a.length) (fun gq => a.length - gq) (fun gq => [⟨some b13, fw a.length gq (val a - val b), 5⟩]) (fun gq => []) (0) (S5 I I I I I) (S2 I I) (by (try dsimp only); exact Ai _) (by exact fun w h => by rw [cN]; exact h) ?_))
 rintro k hinv1; (try dsimp only at hinv1 ⊢)
 obtain hk := hinv1
 refine DP (fun hc16 => ?_) (fun hc16 => ?_)
 ·have hc1 := jw (val a) (val b) k
  have hd1 := Ak (val a / 256 ^ k) (show 0 < 256 by decide); have hd2 := Ak (val b / 256 ^ k) (show 0 < 256 by decide)
  refine El ?_; refine DT ?_; refine Ge ?_; refine Gu ?_; refine FG ?_; refine Ns 24 I (v' := .int .i64 ((((val a / 256 ^ k % 256 : Nat) : Int) - ((val b / 256 ^ k % 256 : Nat) : Int)))) (congrArg (Value.int .i64) (by omega)) (Km I (FG ?_)); refine Ka I (Nt (Cs (DR ?_))); refine Ew (fun hc28 => ?_) (fun hc28 => ?_)
  ·refine Cs (Km I (Kq I (bf I I I (by omega)) (Ka I (Nt (Cg (Ka I (Nt (Cg (Ns 7 I (v' := .int .i64 (a7 (val a) (val b) (k + 1) : Int)) (congrArg (Value.int .i64) (by rw [eI]; (rw [Ab (by omega)]; rfl))) ?_))))))))); refine Km I (Km I (Ev ?_)); refine Ns 35 I (v' := .int .i64 ((a.length - 1 - k : Nat) : Int)) (congrArg (Value.int .i64) (by omega)) (Km I (Kq I (aR I I u3 u5) (Ns 37 I (v' := B (UInt8.ofNat ((val a - val b) / 256 ^ k))) (by exact congrArg (Value.int .u8) (il hle k _ (by omega))) ?_))); refine Ek ?_; refine Ng I I (st I I I .tc (by kernel_rfl) I ?_ (by rfl)) ?_
   ·rw [cd _ _ _ (by omega)]; omega
   intro _; refine Nn (Xd (Xa (Cg (Kq I (Rz I I I (by omega)) (Km I (Nn (Lx (k + 1) (by (try dsimp only); omega) (S5 I I I I I) (by refine (Sc ?_ (Sc ?_ (S0 _))) <;> (rfl)) ?_ (by exact fun w h => by rw [← cb a.length k _ (by omega)]; exact h)))))))); (try dsimp only); omega
  ·refine Ck (Xa (Cg (Ns 7 I (v' := .int .i64 (a7 (val a) (val b) (k + 1) : Int)) (congrArg (Value.int .i64) (by rw [eI]; (rw [Aa (by omega)]; rfl))) ?_))); refine Km I (Km I (Ev ?_)); refine Ns 35 I (v' := .int .i64 ((a.length - 1 - k : Nat) : Int)) (congrArg (Value.int .i64) (by omega)) (Km I (Kq I (aR I I u3 u5) (Ns 37 I (v' := B (UInt8.ofNat ((val a - val b) / 256 ^ k))) (by exact congrArg (Value.int .u8) (il hle k _ (by omega))) ?_))); refine Ek ?_; refine Ng I I (st I I I .tc (by kernel_rfl) I ?_ (by rfl)) ?_
   ·rw [cd _ _ _ (by omega)]; omega
   intro _; refine Nn (Xd (Xa (Cg (Kq I (Rz I I I (by omega)) (Km I (Nn (Lx (k + 1) (by (try dsimp only); omega) (S5 I I I I I) (by refine (Sc ?_ (Sc ?_ (S0 _))) <;> (rfl)) ?_ (by exact fun w h => by rw [← cb a.length k _ (by omega)]; exact h)))))))); (try dsimp only); omega
 ·refine AT ?_
  obtain rfl : k = a.length := by omega
  rw [ck]
  refine Xa (Cs (Km I (Kc I (fun w hS => dV (b := be a.length (val a - val b)) (by (exact hS.os)) (by rw [aP]) (by rw [aP]; exact Bd _) (by rw [aP]; omega)) (to ?_))))
  exact GS
def eP (a b : Bs) : Bs × Int := if okN a ∧ okN b then (if val a < val b then ([], 2) else (ae (val a - val b), 0)) else ([], 3)
theorem ax (a b : Nat) : dm a b < 0 ↔ a < b := by
 unfold dm
 constructor
 ·intro h; split at h <;> (try split at h) <;> omega
 ·intro h; rw [Ab (by omega)]; decide
theorem pU {a b : Bs} {w : World} :
  Cw 144 #[.string (S a), .string (S b)] w (NE (eP a b)) := by
 refine En [] [(0, .string (S a)), (1, .string (S b))] Tryz.func144 I Tryz.ntmps144 I (Ac I (Ac I (An _))) Fn (Cs (Ka I (DR ?_))); refine FJ ?_; refine Nc 9 I (fun hg9 => ?_) (fun hg9 => ?_)
 ·refine T2 I (Kt I (Yp I (Nt (Cd I (fun _ => ?_) (fun h => by cases h)))))
  refine Cs (Ka I (ne ?_))
  exact GX
 ·refine Gi ?_; refine EP (fun hc13 => ?_) (fun hc13 => ?_)
  ·refine Cs (Ka I (ne ?_)); exact GX
  ·have hab : okN a ∧ okN b := by simp_all
   have hal := hab.1.1; have hbl := hab.2.1; refine Ck (Xa (E0 ?_)); refine Kc I (fun w hS => js (a := a) (b := b) (by exact hab.1.2) (by exact hab.2.2)) (Ew (fun hc17 => ?_) (fun hc17 => ?_))
   ·rw [ax] at hc17; refine Cs (Ka I (ne ?_)); exact R2 I I I (by rw [eP, Ab hab, Ab hc17]; rfl)
   ·have hle : val b ≤ val a := Nat.not_lt.1 fun h => by have := (ax _ _).2 h; omega
    refine EN ?_; refine Kc I (fun w hS => zx (a := a) (b := b) (by assumption) (by omega) (by omega)) (Ka I (to ?_)); exact R2 I I I (by rw [eP, Ab hab, Aa (by omega)]; rfl)
def aF (a : Bs) : Nat := if a = [] then 0 else 8 * (a.length - 1) + Lib.bitLen (a.getD 0 default).toNat
theorem i6 : ∀ f x, Lib.bitLenAux f x ≤ f
 | 0, x => by simp [Lib.bitLenAux]
 | f + 1, x => by unfold Lib.bitLenAux; split; omega; have := i6 f (x / 2); omega
theorem ff (x : Nat) : Lib.bitLen x ≤ 64 := i6 64 x
theorem nJ {a : Bs} {w : World} :
  Cw 90 #[.string (S a)] w (.int .i64 ((if okN a then aF a else 0 : Nat) : Int)) := by
 refine En [] [(0, .string (S a))] Tryz.func90 I Tryz.ntmps90 I (Ac I (An _)) Fn (Cs (DR ?_)); refine FJ ?_; refine Nc 6 I (fun hg6 => ?_) (fun hg6 => ?_)
 ·refine T2 I (Yp I (Nt (Cd I (fun _ => ?_) (fun h => by cases h))))
  refine Cs (ne ?_)
  exact R1 I I (by (rw [Aa hg6]; rfl))
 ·refine Km I (Ys I (Yq I (Nt (Ci I (fun hc9 => ?_) (fun hc9 => ?_)))))
  ·refine Cs (ne ?_); exact R1 I I (by (rw [hc9]; simp [aF, tup]))
  ·have hok : okN a := by simp_all
   have hne : a ≠ [] := by simp_all
   have hl0 : 0 < a.length := C8.2 hne; have hal := hok.1; have hbl := ff (a.getD 0 default).toNat; refine Ck (Xa (Cs (Km I (Yn I u22 (Kq I (av I I I (by omega)) (Kq I (bZ I I I (by omega)) (Km I (Kq I (bo I I I u22 ?_) ?_))))))))
   ·omega
   refine Kc I (fun w hS => ut (x := (a.getD 0 default).toNat) (by exact (a.getD 0 default).toNat_lt)) (Fq ?_); refine to ?_; exact R1 I I (by rw [Ab hok, aF, Aa hne]; rfl)
theorem AO (a : Bs) : okN a ↔ a.length ≤ 128 ∧ (a = [] ∨ (a.getD 0 default).toNat ≠ 0) := by
 rw [okN, iZ]; cases a <;> simp
theorem ar {a : Bs} {w : World} :
  Cw 49 #[.string (S a)] w (.bool (decide (okN a))) := by
 have hci := AO a
 refine En [] [(0, .string (S a))] Tryz.func49 I Tryz.ntmps49 I (Ac I (An _)) Fn (Cs (DT ?_)); refine Yn I u22 (Ym I (Km I (Nc 6 I (fun hg6 => ?_) (fun hg6 => ?_))))
 ·refine Km I (Ys I (Km I (Nc 9 I (fun hg9 => ?_) (fun hg9 => ?_))))
  ·refine T2 I (Kt I (Yp I (Yp I (to ?_))))
   exact Rn I (.tmp I .nil) fun w' hS => ⟨congrArg (fun b => Ending.returned (.bool b)) (by
    first
     | (symm; rw [decide_eq_true_eq, hci]; exact ⟨by omega, .inl (by simp_all)⟩)
     | (symm; rw [decide_eq_false_iff_not, hci]; rintro ⟨h, _⟩; omega)
     | (show (!decide ((((a.getD 0 default).toNat : Nat) : Int) = 0)) = _
        rw [Bz]; simp only [Bu, decide_eq_false_iff_not, decide_eq_true_eq, hci]
        exact ⟨fun h => ⟨by omega, .inr (by omega)⟩, fun h => by have := h.2.resolve_left (by simp_all); omega⟩)), hS.below⟩
  ·refine Km I (Kq I (bo I I I u22 ?_) ?_)
   ·(exact ⟨by decide, C8.2 (by simp_all)⟩)
   refine Yj I (Yq I (Yp I (to ?_)))
   exact Rn I (.tmp I .nil) fun w' hS => ⟨congrArg (fun b => Ending.returned (.bool b)) (by
    first
     | (symm; rw [decide_eq_true_eq, hci]; exact ⟨by omega, .inl (by simp_all)⟩)
     | (symm; rw [decide_eq_false_iff_not, hci]; rintro ⟨h, _⟩; omega)
     | (show (!decide ((((a.getD 0 default).toNat : Nat) : Int) = 0)) = _
        rw [Bz]; simp only [Bu, decide_eq_false_iff_not, decide_eq_true_eq, hci]
        exact ⟨fun h => ⟨by omega, .inr (by omega)⟩, fun h => by have := h.2.resolve_left (by simp_all); omega⟩)), hS.below⟩
 ·refine T4 I (T2 I (Kt I (Yq I (to ?_))))
  exact Rn I (.tmp I .nil) fun w' hS => ⟨congrArg (fun b => Ending.returned (.bool b)) (by
   first
    | (symm; rw [decide_eq_true_eq, hci]; exact ⟨by omega, .inl (by simp_all)⟩)
    | (symm; rw [decide_eq_false_iff_not, hci]; rintro ⟨h, _⟩; omega)
    | (show (!decide ((((a.getD 0 default).toNat : Nat) : Int) = 0)) = _
       rw [Bz]; simp only [Bu, decide_eq_false_iff_not, decide_eq_true_eq, hci]
       exact ⟨fun h => ⟨by omega, .inr (by omega)⟩, fun h => by have := h.2.resolve_left (by simp_all); omega⟩)), hS.below⟩
theorem kR {a : Bs} {i : Nat} {w : World} (ha : a.length ≤ 1000000000) (hi : i ≤ 1000000000) :
  Cw 121 #[.string (S a), .int .i64 (i : Int)] w (.int .i64 ((val a / 256 ^ i % 256 : Nat) : Int)) := by
 refine En [] [(0, .string (S a)), (1, .int .i64 (i : Int))] Tryz.func121 I Tryz.ntmps121 I (Ac I (Ac I (An _))) Fn (Cs (DR ?_)); refine Km I (Yn I u22 (E7 (fun hc8 => ?_) (fun hc8 => ?_)))
 ·refine Cs (ne ?_)
  exact R1 I I (by rw [kl a i (by omega)]; rfl)
 ·refine EN ?_; refine Yn I u22 (Ev ?_)
  refine Kq I (bo I I I u22 ?_) ?_
  ·omega
  refine Kq I (fX I I u5 u3 ?_) ?_
  ·(exact kg _)
  refine to ?_
  exact R1 I I (by rw [jd a i (by omega)]; simp only [tup]; congr 3)
theorem gX : ∀ (b : Bs) (i : Nat), (∀ j, j < i → (b.getD j default).toNat = 0) → i ≤ b.length → cw b = cw (b.drop i)
 | b, 0, _, _ => by simp
 | [], i + 1, _, h => by simp at h
 | c :: s, i + 1, h, hl => by
  have h0 := h 0 (by omega)
  have : c = 0 := UInt8.toNat_inj.1 h0
  subst this
  rw [List.drop_succ_cons, ← gX s i (fun j hj => h (j + 1) (by omega)) (by simpa using hl)]
  simp [cw]
theorem wC {b : Bs} {ad : Option Addr} {cap : Nat} {w : World} {ok : Nat → Prop} (hF1 : (Fact.sl ad (b.map B)).holds ok w) (hcap : b.length ≤ cap) (hb : b.length ≤ 1000000000) :
  Cw 75 #[.slice ad b.length cap] w (.string (S (ae (val b)))) := by
 refine En [Fact.sl ad (b.map B)] [(0, .slice ad b.length cap)] Tryz.func75 I Tryz.ntmps75 I (Ac I (An _)) (Fc (ah hF1) Fn) (Cs (Ka I (Nt (Cs (Ka I (Nt (Cq (Cb (Lp (σ := Nat) [(0, _)] (fun gq => [(3, .int .i64 (gq : Int))]) (fun gq => gq ≤ b.length ∧ ∀ j, j < gq → (b.getD j default).toNat = 0) (fun gq => b.length - gq) (0) (S1 I) (S1 I) (by (try dsimp only); exact ⟨Ai _, fun j h => by omega⟩) ?_)))))))))
 rintro i hinv1; (try dsimp only at hinv1 ⊢)
 obtain ⟨hi, hz⟩ := hinv1
 refine E0 ?_; refine Yo I aE (Yl I (Km I (Nc 8 I (fun hg8 => ?_) (fun hg8 => ?_))))
 ·refine Km I (Km I (Kq I (Ib I I I aE (by omega) (by (rw [Ag]; omega))) ?_))
  refine Kq I (ldm I I u5 I (by omega)) ?_
  refine Yi I (Yp I (Nt (Ci I (fun hc14 => ?_) (fun hc14 => ?_))))
  ·have hzi : (b.getD i default).toNat = 0 := by (simp at hc14; exact hc14)
   refine Ck (Xa (Cb (Cg (Km I (Kq I (Rz I I I (by omega)) (Ka I (Nn (Xd (Ly (i + 1) (by (try dsimp only); omega) (S1 I) (by refine (Sc ?_ (S0 _)) <;> (rfl)) ?_ (fun _ h => h)))))))))); (try dsimp only); exact ⟨by omega, fun j hj => by rcases C4.1 hj with h | rfl; exact hz j h; exact hzi⟩
  ·refine AT ?_; refine Xa (FS ?_); refine Kq I (wM I I I aE (by kernel_rfl : _ = some 1) (by omega) (by (try simp only [sN, Int.reduceToNat, Nat.reduceAdd, Nat.reduceMul, Nat.reduceSub]); rfl) (by (try simp only [sN, Int.reduceToNat, Nat.reduceAdd, Nat.reduceMul, Nat.reduceSub]); rfl) (by (try simp only [sN, Int.reduceToNat, Nat.reduceAdd, Nat.reduceMul, Nat.reduceSub]); rfl)) ?_; refine WL.st (fun w h => (h.add (f := Fact.sl (sh ad i) ((b.drop i).map B)) (kw i (h.fact (Fact.sl ad (b.map B)) (by simp))))) ?_; refine WL.st (fun w h => (h.add (f := Fact.sl (cut ad i cap 1) ((b.drop i).map B)) (jW i hcap (h.fact (Fact.sl ad (b.map B)) (by simp))))) ?_; refine Kq I (sS I I .tc aE u5 u22 ?_) ?_
   ·simp
   refine to ?_; exact R1 I I (by rw [show ae (val b) = b.drop i from by rw [← dt, gX b i hz hi, du (by rw [Cp]; (exact .inr (by rw [show (b.drop i).getD 0 default = b.getD i default from by simp [List.getD]]; omega)))]]; rfl)
 ·refine T4 I (Kt I (Yq I (Fg (fun _ => ?_))))
  refine AT ?_; refine Xa (FS ?_)
  refine Kq I (kG I I I aE (by kernel_rfl : _ = some 1) (by omega) (by (try simp only [sN, Int.reduceToNat, Nat.reduceAdd, Nat.reduceMul, Nat.reduceSub]); rfl) (by (try simp only [sN, Int.reduceToNat, Nat.reduceAdd, Nat.reduceMul, Nat.reduceSub]); rfl) (by (try simp only [sN, Int.reduceToNat, Nat.reduceAdd, Nat.reduceMul, Nat.reduceSub]); rfl)) ?_
  refine WL.st (fun w h => (h.add (f := Fact.sl (sh ad i) ((b.drop i).map B)) (kw i (h.fact (Fact.sl ad (b.map B)) (by simp))))) ?_
  refine WL.st (fun w h => (h.add (f := Fact.sl (cut ad i cap 1) ((b.drop i).map B)) (jW i hcap (h.fact (Fact.sl ad (b.map B)) (by simp))))) ?_
  refine Kq I (sS I I .tc aE u5 u22 ?_) ?_
  ·simp
  refine to ?_
  exact R1 I I (by rw [show ae (val b) = b.drop i from by rw [← dt, gX b i hz hi, du (by rw [Cp]; (exact .inl (by omega)))]]; rfl)
theorem ip {b : Bs} {ad : Option Addr} {m cap : Nat} {w : World} {ok : Nat → Prop} (hF1 : (Fact.sl ad (b.map B)).holds ok w) (hm : m = b.length) (hcap : b.length ≤ cap) (hb : b.length ≤ 1000000000) :
  Cw 75 #[.slice ad m cap] w (.string (S (ae (val b)))) :=
 by subst hm; exact wC hF1 hcap hb
theorem mx (x : Nat) : IntKind.u8.wrap ((x % 256 : Nat) : Int) = ((UInt8.ofNat x).toNat : Int) := by
 rw [IntKind.wrap_u8, UInt8.toNat_ofNat']; omega
theorem dJ {n : Nat} {w : World} (hn : n < 18446744073709551616) :
  Cw 27 #[.int .u64 (n : Int)] w (.string (S (ae n))) := by
 refine En [] [(0, .int .u64 (n : Int))] Tryz.func27 I Tryz.ntmps27 I (Ac I (An _)) Fn (Cs (Ka I (Nt (Cs (Kh I (ef I I I aE (by kernel_rfl : _ = some (some (.int .u8 0), 1, 1)) I ?_ (by (try simp only [sN, Int.reduceToNat, Nat.reduceAdd, Nat.reduceMul, Nat.reduceSub]); rfl) (by (try simp only [sN, Int.reduceToNat, Nat.reduceAdd, Nat.reduceMul, Nat.reduceSub]); rfl)) ?_)))))
 ·omega
 intro b5
 refine Ka I (Nt (Cq (Cs (Ka I (Ns 0 I (v' := .int .u64 ((n / 256 ^ 0 : Nat) : Int)) (by simp) ?_)))))
 refine Ns 4 I (v' := .int .i64 (7 - ((0 : Nat) : Int))) (by simp) ?_
 refine Nt (Cb (Lo (σ := Nat) [(3, _)] (fun gq => [(0, .int .u64 ((n / 256 ^ gq : Nat) : Int)), (4, .int .i64 (7 - (gq : Int)))]) (fun gq => gq ≤ 8) (fun gq => 8 - gq) (fun gq => [⟨some b5, fw 8 gq n, 5⟩]) (fun gq => []) (0) (S1 I) (S2 I I) (by (try dsimp only); exact Ai _) (by exact fun w h => by rw [cN]; exact h) ?_))
 rintro k hinv1; (try dsimp only at hinv1 ⊢)
 obtain hk := hinv1
 refine Cq (Cs (Km I (E7 (fun hc7 => ?_) (fun hc7 => ?_))))
 ·have hdv : n / 256 ^ k ≤ n := Bw _ _
  refine El ?_; refine Km I (Ns 11 I (v' := .int .i64 (((7 - k : Nat) : Int))) (congrArg (Value.int .i64) (by omega)) (Km I (Kq I (ql I I I (by decide)) (Kq I (aR I I u76 u5) (Ns 14 I (v' := B (UInt8.ofNat (n / 256 ^ k))) (by exact congrArg (Value.int .u8) (mx _)) ?_)))))
  refine Ek ?_
  refine Ng I I (st I I I .tc (by kernel_rfl) I ?_ (by rfl)) ?_
  ·rw [cd _ _ _ (by omega)]; omega
  intro _
  refine Nt (Cg (Km I (Kq I (wT I I I (by decide) ?_) ?_)))
  ·(generalize n / 256 ^ k = z at *; exact IntWalk.u64_in _ ⟨by omega, by omega⟩)
  refine Ns 17 I (v' := .int .u64 ((n / 256 ^ (k + 1) : Nat) : Int)) (congrArg (Value.int .u64) (by rw [As, ← A4])) ?_
  refine Ka I (Nn (Xd (Xa (Cg (Km I (Kq I (aJ I I I (by omega)) (Ns 9 I (v' := .int .i64 (7 - ((k + 1 : Nat) : Int))) (congrArg (Value.int .i64) (by omega)) (Ka I (Nn (Lx (k + 1) (by (try dsimp only); omega) (S1 I) (by refine (Sc ?_ (Sc ?_ (S0 _))) <;> (rfl)) ?_ (by exact fun w h => by rw [← cb 8 k n (by omega)]; exact h)))))))))))
  (try dsimp only)
  omega
 ·refine AT ?_
  obtain rfl : k = 8 := by omega
  rw [ck]
  refine Xa (Cs (Km I (Kc I (fun w hS => ip (b := be 8 n) (by (exact hS.os)) (by rw [aP]) (by rw [aP]; decide) (by rw [aP]; decide)) (to ?_))))
  exact R1 I I (by rw [dr, Ah (by omega)]; rfl)
theorem rX {a b : Bs} (h : a.length = b.length) {i : Nat} (hi : i < a.length) (hp : a.take i = b.take i) (hne : (a.getD i default).toNat ≠ (b.getD i default).toNat) : dm (val a) (val b) = if (a.getD i default).toNat < (b.getD i default).toNat then -1 else 1 := by
 have ea : a = a.take i ++ (a.getD i default :: a.drop (i + 1)) := by
  conv => lhs; rw [← Dt i a, Bo hi]
  rw [List.getD_eq_getElem?_getD, Ad hi]; rfl
 have eb : b = b.take i ++ (b.getD i default :: b.drop (i + 1)) := by
  conv => lhs; rw [← Dt i b, Bo (by omega : i < b.length)]
  rw [List.getD_eq_getElem?_getD, Ad (by omega : i < b.length)]; rfl
 have la := aL (a.drop (i + 1)); have lb := aL (b.drop (i + 1))
 have hl : (a.drop (i + 1)).length = (b.drop (i + 1)).length := by simp [h]
 have va : val a = val (a.take i) * 256 ^ ((b.drop (i + 1)).length + 1) + ((a.getD i default).toNat * 256 ^ (b.drop (i + 1)).length + val (a.drop (i + 1))) := by
  conv => lhs; rw [ea]
  rw [fj, val, Ar, hl]
 have vb : val b = val (a.take i) * 256 ^ ((b.drop (i + 1)).length + 1) + ((b.getD i default).toNat * 256 ^ (b.drop (i + 1)).length + val (b.drop (i + 1))) := by
  conv => lhs; rw [eb]
  rw [fj, val, Ar, hp]
 rw [hl] at la
 rw [va, vb]
 generalize (a.getD i default).toNat = x at *
 generalize (b.getD i default).toNat = y at *
 generalize 256 ^ (b.drop (i + 1)).length = P at *
 generalize val (a.take i) * 256 ^ ((b.drop (i + 1)).length + 1) = Q at *
 unfold dm
 rcases Nat.lt_or_gt_of_ne hne with q | q
 ·have h1 : (x + 1) * P ≤ y * P := Bk _ q
  rw [Be, Cm] at h1
  rw [Ab (by omega), Ab q]
 ·have h1 : (y + 1) * P ≤ x * P := Bk _ q
  rw [Be, Cm] at h1
  rw [Aa (by omega), Ab (by omega), Aa (by omega)]
theorem oX {l m : Bs} {k : Nat} (h1 : k < l.length) (h2 : k < m.length) (h : l.take k = m.take k) (h3 : (l.getD k default).toNat = (m.getD k default).toNat) : l.take (k + 1) = m.take (k + 1) := by
 have h4 := UInt8.toNat_inj.1 h3
 rw [List.getD_eq_getElem?_getD, List.getD_eq_getElem?_getD, Ad h1, Ad h2] at h4
 rw [Bt, Bt, h, Ad h1, Ad h2]
 rw [Option.toList, Option.toList]; simp only [Option.getD] at h4; rw [h4]
theorem dH {a b : Bs} {w : World} (ha : Can a) (hb : Can b) (hal : a.length ≤ 1000000) :
  Cw 63 #[.string (S a), .string (S b)] w (.int .i64 (dm (val a) (val b))) := by
 refine En [] [(0, .string (S a)), (1, .string (S b))] Tryz.func63 I Tryz.ntmps63 I (Ac I (Ac I (An _))) Fn (Cs (DR ?_)); refine Yn I u22 (Km I (Yn I u22 (EL (fun hc10 => ?_) (fun hc10 => ?_))))
 ·have hne : a.length ≠ b.length := by omega
  have hcl := q6 ha hb hne
  refine Cq (Cs (Km I (Yn I u22 (Km I (Yn I u22 (Ew (fun hc15 => ?_) (fun hc15 => ?_)))))))
  ·refine Cs (ne ?_); refine Xb ?_; exact R1 I I (by rw [← hcl, dm, Ab (by omega)]; rfl)
  ·refine Ck (Xa (Cs (ne ?_))); exact R1 I I (by rw [← hcl, dm, Aa (by omega), Ab (by omega)]; rfl)
 ·have heq : a.length = b.length := by omega
  refine Gg ?_; refine Ka I (Nt (Cb (Lp (σ := Nat) [(0, _), (1, _)] (fun gq => [(5, .int .i64 (gq : Int))]) (fun gq => gq ≤ a.length ∧ a.take gq = b.take gq) (fun gq => a.length - gq) (0) (S2 I I) (S1 I) (by (try dsimp only); exact ⟨Ai _, by simp⟩) ?_)))
  rintro i hinv1; (try dsimp only at hinv1 ⊢)
  obtain ⟨hi, ht⟩ := hinv1
  refine E0 ?_; refine Yn I u22 (Ew (fun hc19 => ?_) (fun hc19 => ?_))
  ·refine Ck (Xa (Cq (Cb (Cq (FA ?_))))); refine DW ?_; refine Kj I (bo I I I u22 ?_) ?_
   ·omega
   refine DW ?_; refine Kj I (bo I I I u22 ?_) ?_
   ·omega
   refine Kj I (mW I I I) ?_; refine WJ.nil ?_; refine Nt (Ci I (fun hc28 => ?_) (fun hc28 => ?_))
   ·simp only [At] at hc28; have hoe := rX heq (i := i) (by omega) ht (by omega); refine Cq (Cq (FA ?_)); refine DW ?_; refine Kj I (bo I I I u22 ?_) ?_
    ·omega
    refine DW ?_; refine Kj I (bo I I I u22 ?_) ?_
    ·omega
    refine Kj I (kL I I I) ?_; refine WJ.nil ?_; refine Nt (Ci I (fun hc35 => ?_) (fun hc35 => ?_))
    ·simp only [At] at hc35; refine Cs (ne ?_); refine DS ?_; exact R1 I I (by rw [hoe, Ab (by omega)]; rfl)
    ·simp only [At] at hc35; refine Ck (Xa (Cs (to ?_))); refine DS ?_; exact R1 I I (by rw [hoe, Aa (by omega)]; rfl)
   ·simp only [At] at hc28; refine Ck (Xd (Xa (Cg (Km I (Kq I (Rz I I I (by omega)) (Ka I (Nn (Ly (i + 1) (by (try dsimp only); omega) (S2 I I) (by refine (Sc ?_ (S0 _)) <;> (rfl)) ?_ (fun _ h => h))))))))); (try dsimp only); exact ⟨by omega, oX (by omega) (by omega) ht (by omega)⟩
  ·refine AT ?_; obtain rfl : i = a.length := by omega
   have hab : a = b := by rw [A8 (Bd _), A8 (by omega)] at ht; exact ht
   refine Xa (Cs (to ?_)); exact R1 I I (by rw [hab]; simp [dm, tup])
theorem m6 {a b : Bs} {w : World} :
  Cw 157 #[.string (S a), .string (S b)] w (.int .i64 (eh a b)) := by
 refine En [] [(0, .string (S a)), (1, .string (S b))] Tryz.func157 I Tryz.ntmps157 I (Ac I (Ac I (An _))) Fn (Cs (DR ?_)); refine Gj ?_; refine Yt I (Km I (Nc 8 I (fun hg8 => ?_) (fun hg8 => ?_)))
 ·refine T2 I (Kt I (Yp I (Nt (Cd I (fun _ => ?_) (fun h => by cases h)))))
  refine Cs (ne ?_)
  exact G0
 ·refine Km I (Gj ?_); refine EP (fun hc12 => ?_) (fun hc12 => ?_)
  ·refine Cs (ne ?_); exact G0
  ·have hab : okN a ∧ okN b := by simp_all
   have hal := hab.1.1; refine EN ?_; refine Kc I (fun w hS => dH (a := a) (b := b) (by exact hab.1.2) (by exact hab.2.2) (by omega)) (to ?_); exact R1 I I (by rw [eh, Ab hab]; rfl)
theorem kT {a b : Bs} {w : World} (hal : a.length ≤ 1000000) (hbl : b.length ≤ 1000000) :
  Cw 70 #[.string (S a), .string (S b)] w (.string (S (ae (val a + val b)))) := by
 refine En [] [(0, .string (S a)), (1, .string (S b))] Tryz.func70 I Tryz.ntmps70 I (Ac I (Ac I (An _))) Fn (Cs (DT ?_)); refine Yn I u22 (Km I (Yn I u22 (Kq I (gF I I I) (Ns 14 I (v' := .int .i64 ((max a.length b.length : Nat) : Int)) (congrArg (Value.int .i64) (by omega)) (F7 ?_)))))
 obtain ⟨N, hN⟩ : ∃ N : Nat, N = max a.length b.length + 1 := ⟨_, rfl⟩
 refine Ns 15 I (v' := .int .i64 (N : Int)) (by rw [hN]) ?_
 have hNl : N ≤ 1000001 := by omega
 have hS256 : val a + val b < 256 ^ N := by
  have h1 := aL a; have h2 := aL b
  have h3 : 256 ^ a.length ≤ 256 ^ (N - 1) := A2 (by decide) (by omega)
  have h4 : 256 ^ b.length ≤ 256 ^ (N - 1) := A2 (by decide) (by omega)
  have h5 : 256 ^ N = 256 ^ (N - 1) * 256 := by rw [← As]; congr 1; omega
  omega
 refine Ka I (Nt (Cs (Km I (Kh I (ef I I I aE (by kernel_rfl : _ = some (some (.int .u8 0), 1, 1)) I ?_ (by (try simp only [sN, Int.reduceToNat, Nat.reduceAdd, Nat.reduceMul, Nat.reduceSub]); rfl) (by (try simp only [sN, Int.reduceToNat, Nat.reduceAdd, Nat.reduceMul, Nat.reduceSub]); rfl)) ?_))))
 ·omega
 intro b17
 refine Ka I (Nt (Cs (Ka I (Ns 7 I (v' := .int .i64 ((ct (val a) (val b) 0 : Nat) : Int)) (congrArg (Value.int .i64) (by rw [jI]; rfl)) ?_))))
 refine Nt (Cq (Cs (Ka I (Nt (Cb (Lo (σ := Nat) [(0, _), (1, _), (5, _), (6, _)] (fun gq => [(7, .int .i64 (ct (val a) (val b) gq : Int)), (8, .int .i64 (gq : Int))]) (fun gq => gq ≤ N) (fun gq => N - gq) (fun gq => [⟨some b17, fw N gq (val a + val b), 5⟩]) (fun gq => []) (0) (S4 I I I I) (S2 I I) (by (try dsimp only); exact Ai _) (by exact fun w h => by rw [cN]; exact h) ?_))))))
 rintro k hinv1; (try dsimp only at hinv1 ⊢)
 obtain hk := hinv1
 refine E0 ?_; refine Ew (fun hc20 => ?_) (fun hc20 => ?_)
 ·have hc1 := mw (val a) (val b) k
  have hd1 := Ak (val a / 256 ^ k) (show 0 < 256 by decide); have hd2 := Ak (val b / 256 ^ k) (show 0 < 256 by decide)
  refine El ?_; refine Km I (Kc I (fun w hS => kR (a := a) (i := k) (by omega) (by omega)) (Km I (Km I (Kc I (fun w hS => kR (a := b) (i := k) (by omega) (by omega)) (Fq ?_))))); refine Km I (Fq ?_); refine Ns 31 I (v' := .int .i64 ((ct (val a) (val b) k + val a / 256 ^ k % 256 + val b / 256 ^ k % 256 : Nat) : Int)) (congrArg (Value.int .i64) (by omega)) (DT ?_); refine Km I (Ev ?_); refine Ns 36 I (v' := .int .i64 ((N - 1 - k : Nat) : Int)) (congrArg (Value.int .i64) (by omega)) (Km I (Kq I (cH I I I (by omega)) (Kq I (aR I I u3 u5) (Ns 39 I (v' := B (UInt8.ofNat ((val a + val b) / 256 ^ k))) (by exact congrArg (Value.int .u8) (by rw [mx, lN])) ?_))))
  refine Ek ?_
  refine Ng I I (st I I I .tc (by kernel_rfl) I ?_ (by rfl)) ?_
  ·rw [cd _ _ _ (by omega)]; omega
  intro _
  refine Nt (Cg (Gx ?_))
  refine Ns 42 I (v' := .int .i64 ((ct (val a) (val b) (k + 1) : Nat) : Int)) (congrArg (Value.int .i64) (by rw [jJ])) ?_
  refine Ka I (Nn (Xd (Xa (Cg (Km I (Kq I (Rz I I I (by omega)) (Ka I (Nn (Lx (k + 1) (by (try dsimp only); omega) (S4 I I I I) (by refine (Sc ?_ (Sc ?_ (S0 _))) <;> (rfl)) ?_ (by exact fun w h => by rw [← cb N k _ (by omega)]; exact h))))))))))
  (try dsimp only)
  omega
 ·refine AT ?_
  obtain rfl : k = N := by omega
  rw [ck]
  refine Xa (Cs (Km I (Kc I (fun w hS => ip (b := be k (val a + val b)) (by (exact hS.os)) (by rw [aP]) (by rw [aP]; exact Bd _) (by rw [aP]; omega)) (to ?_))))
  exact GS
theorem j5 {a b : Bs} {w : World} (hle : val b ≤ val a) (ha : a.length ≤ 1000000) (hb : b.length ≤ 1000000) :
  Cw 123 #[.string (S a), .string (S b)] w (.string (S (ae (val a - val b)))) := by
 have hS256 : val a - val b < 256 ^ a.length := Bj (Nat.sub_le _ _) (aL a)
 refine En [] [(0, .string (S a)), (1, .string (S b))] Tryz.func123 I Tryz.ntmps123 I (Ac I (Ac I (An _))) Fn (Cs (Ka I (Nt (Cs (Km I (Yn I u22 (Ka I (Nt (Cs (Km I (Kh I (ef I I I aE (by kernel_rfl : _ = some (some (.int .u8 0), 1, 1)) I ?_ (by (try simp only [sN, Int.reduceToNat, Nat.reduceAdd, Nat.reduceMul, Nat.reduceSub]); rfl) (by (try simp only [sN, Int.reduceToNat, Nat.reduceAdd, Nat.reduceMul, Nat.reduceSub]); rfl)) ?_)))))))))))
 ·omega
 intro b13
 refine Ka I (Nt (Cs (Ka I (Ns 7 I (v' := .int .i64 ((a7 (val a) (val b) 0 : Nat) : Int)) (congrArg (Value.int .i64) (by rw [i1]; rfl)) ?_))))
 refine Nt (Cq (Cs (Ka I (Nt (Cb (Lo (σ := Nat) [(0, _), (1, _), (5, _), (6, _)] (fun gq => [(7, .int .i64 (a7 (val a) (val b) gq : Int)), (8, .int .i64 (gq : Int))]) (fun gq => gq ≤ a.length) (fun gq => a.length - gq) (fun gq => [⟨some b13, fw a.length gq (val a - val b), 5⟩]) (fun gq => []) (0) (S4 I I I I) (S2 I I) (by (try dsimp only); exact Ai _) (by exact fun w h => by rw [cN]; exact h) ?_))))))
 rintro k hinv1; (try dsimp only at hinv1 ⊢)
 obtain hk := hinv1
 refine E0 ?_; refine Ew (fun hc16 => ?_) (fun hc16 => ?_)
 ·have hc1 := jw (val a) (val b) k
  have hd1 := Ak (val a / 256 ^ k) (show 0 < 256 by decide); have hd2 := Ak (val b / 256 ^ k) (show 0 < 256 by decide)
  refine El ?_; refine Km I (Kc I (fun w hS => kR (a := a) (i := k) (by omega) (by omega)) (Km I (Km I (Kc I (fun w hS => kR (a := b) (i := k) (by omega) (by omega)) (FG ?_))))); refine Ns 25 I (v' := .int .i64 ((((val a / 256 ^ k % 256 : Nat) : Int) - ((val b / 256 ^ k % 256 : Nat) : Int)))) (congrArg (Value.int .i64) (by omega)) (Km I (FG ?_)); refine Ka I (Nt (Cs (DR ?_))); refine Ew (fun hc29 => ?_) (fun hc29 => ?_)
  ·refine Cs (Km I (Kq I (bf I I I (by omega)) (Ka I (Nt (Cg (Ka I (Nt (Cg (Ns 7 I (v' := .int .i64 (a7 (val a) (val b) (k + 1) : Int)) (congrArg (Value.int .i64) (by rw [eI]; (rw [Ab (by omega)]; rfl))) ?_))))))))); refine Km I (Km I (Ev ?_)); refine Ns 36 I (v' := .int .i64 ((a.length - 1 - k : Nat) : Int)) (congrArg (Value.int .i64) (by omega)) (Km I (Kq I (aR I I u3 u5) (Ns 38 I (v' := B (UInt8.ofNat ((val a - val b) / 256 ^ k))) (by exact congrArg (Value.int .u8) (il hle k _ (by omega))) ?_))); refine Ek ?_; refine Ng I I (st I I I .tc (by kernel_rfl) I ?_ (by rfl)) ?_
   ·rw [cd _ _ _ (by omega)]; omega
   intro _; refine Nn (Xd (Xa (Cg (Km I (Kq I (Rz I I I (by omega)) (Ka I (Nn (Lx (k + 1) (by (try dsimp only); omega) (S4 I I I I) (by refine (Sc ?_ (Sc ?_ (S0 _))) <;> (rfl)) ?_ (by exact fun w h => by rw [← cb a.length k _ (by omega)]; exact h))))))))); (try dsimp only); omega
  ·refine Ck (Xa (Cg (Ns 7 I (v' := .int .i64 (a7 (val a) (val b) (k + 1) : Int)) (congrArg (Value.int .i64) (by rw [eI]; (rw [Aa (by omega)]; rfl))) ?_))); refine Km I (Km I (Ev ?_)); refine Ns 36 I (v' := .int .i64 ((a.length - 1 - k : Nat) : Int)) (congrArg (Value.int .i64) (by omega)) (Km I (Kq I (aR I I u3 u5) (Ns 38 I (v' := B (UInt8.ofNat ((val a - val b) / 256 ^ k))) (by exact congrArg (Value.int .u8) (il hle k _ (by omega))) ?_))); refine Ek ?_; refine Ng I I (st I I I .tc (by kernel_rfl) I ?_ (by rfl)) ?_
   ·rw [cd _ _ _ (by omega)]; omega
   intro _; refine Nn (Xd (Xa (Cg (Km I (Kq I (Rz I I I (by omega)) (Ka I (Nn (Lx (k + 1) (by (try dsimp only); omega) (S4 I I I I) (by refine (Sc ?_ (Sc ?_ (S0 _))) <;> (rfl)) ?_ (by exact fun w h => by rw [← cb a.length k _ (by omega)]; exact h))))))))); (try dsimp only); omega
 ·refine AT ?_
  obtain rfl : k = a.length := by omega
  rw [ck]
  refine Xa (Cs (Km I (Kc I (fun w hS => ip (b := be a.length (val a - val b)) (by (exact hS.os)) (by rw [aP]) (by rw [aP]; exact Bd _) (by rw [aP]; omega)) (to ?_))))
  exact GS
theorem yp {a : Bs} {w : World} :
  Cw 160 #[.string (S a)] w (.tuple #[.string (S (if 128 < a.length then [] else a)), .int .i64 (if 128 < a.length then 5 else 0)]) := by
 refine En [] [(0, .string (S a))] Tryz.func160 I Tryz.ntmps160 I (Ac I (An _)) Fn (Cs (Ka I (DR ?_))); refine Yn I u22 (FR (fun hc6 => ?_) (fun hc6 => ?_))
 ·refine Cs (Ka I (ne ?_))
  exact R2 I I I (by rw [Ab (by omega), Ab (by omega)]; rfl)
 ·refine FN ?_; refine Ka I (to ?_)
  exact R2 I I I (by rw [Aa (by omega), Aa (by omega)]; rfl)
theorem xB {a b : Bs} (hab : okN a ∧ okN b) : (if 128 < (ae (val a + val b)).length then ([] : Bs) else ae (val a + val b)) = (addN a b).1 ∧ (if 128 < (ae (val a + val b)).length then (5 : Int) else 0) = (addN a b).2 := by
 rw [addN, Ab hab]
 by_cases h : val a + val b < Big
 ·have hl := dC.2 h
  rw [Aa (show ¬ 128 < (ae (val a + val b)).length by omega), Aa (show ¬ 128 < (ae (val a + val b)).length by omega), Ab h]; exact ⟨rfl, rfl⟩
 ·have hl : ¬ (ae (val a + val b)).length ≤ 128 := fun h' => h (dC.1 h')
  rw [Ab (show 128 < (ae (val a + val b)).length by omega), Ab (show 128 < (ae (val a + val b)).length by omega), Aa h]; exact ⟨rfl, rfl⟩
theorem tW {a b : Bs} {w : World} :
  Cw 110 #[.string (S a), .string (S b)] w (NE (addN a b)) := by
 refine En [] [(0, .string (S a)), (1, .string (S b))] Tryz.func110 I Tryz.ntmps110 I (Ac I (Ac I (An _))) Fn (Cs (Ka I (DR ?_))); refine Gj ?_; refine Yt I (Km I (Nc 9 I (fun hg9 => ?_) (fun hg9 => ?_)))
 ·refine T2 I (Kt I (Yp I (Nt (Cd I (fun _ => ?_) (fun h => by cases h)))))
  refine Cs (Ka I (ne ?_))
  exact GU
 ·refine Km I (Gj ?_); refine EP (fun hc13 => ?_) (fun hc13 => ?_)
  ·refine Cs (Ka I (ne ?_)); exact GU
  ·have hab : okN a ∧ okN b := by simp_all
   have hal := hab.1.1; have hbl := hab.2.1; have hcl := xB hab; refine EN ?_; refine Kc I (fun w hS => kT (a := a) (b := b) (by omega) (by omega)) (Kc I (fun w hS => yp) (Ye I (Ye I (Ka I (to ?_))))); exact R2 I I I (by simp only [tup, NE]; rw [← hcl.1, ← hcl.2])
theorem o7 {a b : Bs} {w : World} :
  Cw 162 #[.string (S a), .string (S b)] w (NE (eP a b)) := by
 refine En [] [(0, .string (S a)), (1, .string (S b))] Tryz.func162 I Tryz.ntmps162 I (Ac I (Ac I (An _))) Fn (Cs (Ka I (DR ?_))); refine Gj ?_; refine Yt I (Km I (Nc 9 I (fun hg9 => ?_) (fun hg9 => ?_)))
 ·refine T2 I (Kt I (Yp I (Nt (Cd I (fun _ => ?_) (fun h => by cases h)))))
  refine Cs (Ka I (ne ?_))
  exact GX
 ·refine Km I (Gj ?_); refine EP (fun hc13 => ?_) (fun hc13 => ?_)
  ·refine Cs (Ka I (ne ?_)); exact GX
  ·have hab : okN a ∧ okN b := by simp_all
   have hal := hab.1.1; have hbl := hab.2.1; refine Ck (Xa (E0 ?_)); refine Kc I (fun w hS => dH (a := a) (b := b) (by exact hab.1.2) (by exact hab.2.2) (by omega)) (Ew (fun hc17 => ?_) (fun hc17 => ?_))
   ·rw [ax] at hc17; refine Cs (Ka I (ne ?_)); exact R2 I I I (by rw [eP, Ab hab, Ab hc17]; rfl)
   ·have hle : val b ≤ val a := Nat.not_lt.1 fun h => by have := (ax _ _).2 h; omega
    refine EN ?_; refine Kc I (fun w hS => j5 (a := a) (b := b) (by assumption) (by omega) (by omega)) (Ka I (to ?_)); exact R2 I I I (by rw [eP, Ab hab, Aa (by omega)]; rfl)
end Go.Proofs.YtkdlonihbjhhoaaGreatDoor
