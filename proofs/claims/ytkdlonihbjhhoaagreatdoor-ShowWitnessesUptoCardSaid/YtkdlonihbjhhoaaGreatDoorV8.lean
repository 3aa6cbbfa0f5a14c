/-
  Parts of the walk: Num Lib1 Plus App Ntl1 Ntl2.
-/
import Derived.Test.YtkdlonihbjhhoaaGreatDoorV7
namespace Go.Proofs.YtkdlonihbjhhoaaGreatDoor
set_option linter.unusedSimpArgs false
set_option linter.unusedVariables false
set_option maxRecDepth 20000
def val : Bs → Nat
 | [] => 0
 | c :: s => c.toNat * 256 ^ s.length + val s
def be : Nat → Nat → Bs
 | 0, _ => []
 | k + 1, x => UInt8.ofNat (x / 256 ^ k) :: be k x
def cb : Bs → Bs
 | [] => []
 | c :: s => if c = 0 then cb s else c :: s
def Can (s : Bs) : Prop := s.head? ≠ some 0
instance (s : Bs) : Decidable (Can s) := inferInstanceAs (Decidable (¬ _))
theorem aN : ∀ k x, (be k x).length = k
 | 0, x => rfl
 | k + 1, x => by simp [be, aN k x]
theorem iG (k : Nat) : 0 < 256 ^ k := Nat.pow_pos (by decide)
theorem aK : ∀ s : Bs, val s < 256 ^ s.length
 | [] => by simp [val]
 | c :: s => by
  have h1 := aK s
  have h2 := c.toNat_lt
  simp only [val, List.length_cons, Nat.pow_succ]
  have : (c.toNat + 1) * 256 ^ s.length ≤ 256 * 256 ^ s.length := Nat.mul_le_mul_right _ (by omega)
  rw [Nat.add_mul, Nat.one_mul] at this
  rw [Nat.mul_comm (256 ^ s.length) 256]; omega
theorem eN : ∀ a b : Bs, val (a ++ b) = val a * 256 ^ b.length + val b
 | [], b => by simp [val]
 | c :: a, b => by
  simp only [List.cons_append, val, List.length_append, eN a b, Nat.pow_add]
  rw [Nat.add_mul, Nat.mul_assoc]; omega
theorem cW : ∀ k x, val (be k x) = x % 256 ^ k
 | 0, x => by simp [be, val, Nat.mod_one]
 | k + 1, x => by
  have e : x % 256 ^ (k + 1) = x % 256 ^ k + 256 ^ k * (x / 256 ^ k % 256) := by rw [Nat.pow_succ, Nat.mod_mul]
  simp only [be, val, aN, cW k x, UInt8.toNat_ofNat']
  rw [e, Nat.mul_comm (256 ^ k), Nat.add_comm]
theorem jG : ∀ s : Bs, val (cb s) = val s
 | [] => rfl
 | c :: s => by
  unfold cb; split
  ·rename_i h; subst h; rw [jG s, val]; simp
  ·rfl
theorem kB : ∀ s : Bs, Can (cb s)
 | [] => by simp [cb, Can]
 | c :: s => by
  unfold cb; split
  ·exact kB s
  ·rename_i h; simpa [Can] using h
theorem rP : ∀ {s : Bs}, Can s → cb s = s
 | [], _ => rfl
 | c :: s, h => by
  unfold cb; rw [if_neg]; simpa [Can] using h
theorem mK {s : Bs} (h : Can s) (h0 : s ≠ []) : 256 ^ (s.length - 1) ≤ val s := by
 cases s with
 | nil => exact absurd rfl h0
 | cons c s =>
  have hc : 1 ≤ c.toNat := by
   rcases Nat.eq_zero_or_pos c.toNat with h1 | h1
   ·exfalso; apply h; rw [List.head?_cons]; congr 1; exact UInt8.toNat_inj.1 h1
   ·exact h1
  simp only [val, List.length_cons, Nat.add_sub_cancel]
  have := Nat.mul_le_mul_right (256 ^ s.length) hc
  rw [Nat.one_mul] at this; omega
theorem ip {a b : Bs} (ha : Can a) (hb : Can b) (h : val a ≤ val b) : a.length ≤ b.length := by
 rcases Nat.lt_or_ge b.length a.length with q | q
 ·exfalso
  have h0 : a ≠ [] := by intro h; rw [h] at q; simp at q
  have h1 := mK ha h0
  have h2 := aK b
  have h3 : 256 ^ b.length ≤ 256 ^ (a.length - 1) := Nat.pow_le_pow_right (by decide) (by omega)
  omega
 ·exact q
theorem oQ : ∀ s : Bs, be s.length (val s) = s
 | [] => rfl
 | c :: s => by
  have h1 := aK s
  have hd : (c.toNat * 256 ^ s.length + val s) / 256 ^ s.length = c.toNat := by
   rw [Nat.mul_comm, Nat.mul_add_div (iG _), Nat.div_eq_of_lt h1, Nat.add_zero]
  have hm : be s.length (c.toNat * 256 ^ s.length + val s) = be s.length (val s) := by
   have key : ∀ k x y, k ≤ s.length → be k (y * 256 ^ s.length + x) = be k x := by
    intro k
    induction k with
    | zero => intro x y _; rfl
    | succ k ih =>
     intro x y hk
     simp only [be, ih x y (by omega)]
     congr 1
     apply UInt8.toNat_inj.1
     rw [UInt8.toNat_ofNat', UInt8.toNat_ofNat']
     have e : 256 ^ s.length = 256 ^ k * 256 * 256 ^ (s.length - (k + 1)) := by rw [← Nat.pow_succ, ← Nat.pow_add]; congr 1; omega
     rw [e, show y * (256 ^ k * 256 * 256 ^ (s.length - (k + 1))) = 256 ^ k * (256 * (y * 256 ^ (s.length - (k + 1)))) by ac_rfl, Nat.mul_add_div (iG _)]
     omega
   exact key s.length (val s) c.toNat (Nat.le_refl _)
  simp only [List.length_cons, be, val, hd, hm, oQ s]
  congr 1
  apply UInt8.toNat_inj.1; rw [UInt8.toNat_ofNat']; have := c.toNat_lt; omega
theorem uv {a b : Bs} (hl : a.length = b.length) (h : val a = val b) : a = b := by
 rw [← oQ a, ← oQ b, hl, h]
theorem jz {a b : Bs} (ha : Can a) (hb : Can b) (h : val a = val b) : a = b :=
 uv (Nat.le_antisymm (ip ha hb (by omega)) (ip hb ha (by omega))) h
def ae (n : Nat) : Bs := cb (be (Nat.log2 n / 8 + 1) n)
theorem xU (n : Nat) : n < 256 ^ (Nat.log2 n / 8 + 1) := by
 have h1 : n < 2 ^ (Nat.log2 n + 1) := Nat.lt_log2_self
 have h2 : 256 ^ (Nat.log2 n / 8 + 1) = 2 ^ (8 * (Nat.log2 n / 8 + 1)) := by rw [show (256 : Nat) = 2 ^ 8 from rfl, ← Nat.pow_mul]
 rw [h2]
 exact Nat.lt_of_lt_of_le h1 (Nat.pow_le_pow_right (by decide) (by omega))
theorem af (n : Nat) : val (ae n) = n := by rw [ae, jG, cW, Nat.mod_eq_of_lt (xU n)]
theorem bD (n : Nat) : Can (ae n) := kB _
theorem ri {s : Bs} (h : Can s) : ae (val s) = s := jz (bD _) h (af _)
theorem cX (s : Bs) : cb s = ae (val s) := jz (kB _) (bD _) (by rw [jG, af])
theorem dR : ae 0 = [] := jz (bD _) (by simp [Can]) (by rw [af]; rfl)
theorem ww : Can [] := by simp [Can]
theorem bg {s : Bs} (h : Can s) : val s = 0 ↔ s = [] := ⟨fun h0 => jz h ww (by rw [h0]; rfl), fun h0 => by rw [h0]; rfl⟩
theorem bc {n k : Nat} : (ae n).length ≤ k ↔ n < 256 ^ k := by
 constructor
 ·intro h
  have h1 := aK (ae n)
  rw [af] at h1
  exact Nat.lt_of_lt_of_le h1 (Nat.pow_le_pow_right (by decide) h)
 ·intro h
  rcases Nat.lt_or_ge k (ae n).length with q | q
  ·exfalso
   have h0 : ae n ≠ [] := by intro h; rw [h] at q; simp at q
   have h1 := mK (bD n) h0
   rw [af] at h1
   have h3 : 256 ^ k ≤ 256 ^ ((ae n).length - 1) := Nat.pow_le_pow_right (by decide) (by omega)
   omega
  ·exact q
theorem kU (s : Bs) (i : Nat) (h : i < s.length) : val s / 256 ^ i % 256 = (s.getD (s.length - 1 - i) default).toNat := by
 induction s with
 | nil => simp at h
 | cons c s ih =>
  simp only [val, List.length_cons, Nat.add_sub_cancel] at h ⊢
  by_cases hi : i = s.length
  ·subst hi
   rw [Nat.sub_self, List.getD_cons_zero, Nat.mul_comm, Nat.mul_add_div (iG _), Nat.div_eq_of_lt (aK s), Nat.add_zero, Nat.mod_eq_of_lt c.toNat_lt]
  ·have e : 256 ^ s.length = 256 ^ i * (256 * 256 ^ (s.length - 1 - i)) := by
    rw [← Nat.mul_assoc, ← Nat.pow_succ, ← Nat.pow_add]; congr 1; omega
   rw [e, show c.toNat * (256 ^ i * (256 * 256 ^ (s.length - 1 - i))) = 256 ^ i * (256 * (c.toNat * 256 ^ (s.length - 1 - i))) by ac_rfl, Nat.mul_add_div (iG _), Nat.mul_add_mod, ih (by omega)]
   rw [show s.length - i = (s.length - 1 - i) + 1 by omega, List.getD_cons_succ]
theorem jH (s : Bs) (i : Nat) (h : s.length ≤ i) : val s / 256 ^ i % 256 = 0 := by
 rw [Nat.div_eq_of_lt (Nat.lt_of_lt_of_le (aK s) (Nat.pow_le_pow_right (by decide) h))]
def bY (a b i : Nat) : Nat := (a % 256 ^ i + b % 256 ^ i) / 256 ^ i
theorem i7 (a b : Nat) : bY a b 0 = 0 := by simp [bY, Nat.mod_one]
theorem lA (a b i : Nat) : bY a b i ≤ 1 := by
 have h1 := Nat.mod_lt a (iG i); have h2 := Nat.mod_lt b (iG i)
 unfold bY
 have : a % 256 ^ i + b % 256 ^ i < 2 * 256 ^ i := by omega
 have := (Nat.div_lt_iff_lt_mul (iG i)).2 this
 omega
theorem gL (a b i : Nat) : (a + b) / 256 ^ i = bY a b i + a / 256 ^ i + b / 256 ^ i := by
 have h1 := Nat.div_add_mod a (256 ^ i); have h2 := Nat.div_add_mod b (256 ^ i)
 have e : a + b = 256 ^ i * (a / 256 ^ i + b / 256 ^ i) + (a % 256 ^ i + b % 256 ^ i) := by rw [Nat.mul_add]; omega
 rw [e, Nat.mul_add_div (iG i), bY]; omega
theorem i8 (a b i : Nat) : bY a b (i + 1) = (bY a b i + a / 256 ^ i % 256 + b / 256 ^ i % 256) / 256 := by
 have h1 := gL a b i
 have h2 := gL a b (i + 1)
 rw [Nat.pow_succ, ← Nat.div_div_eq_div_mul, ← Nat.div_div_eq_div_mul, ← Nat.div_div_eq_div_mul, h1] at h2
 omega
theorem kX (a b i : Nat) : UInt8.ofNat ((a + b) / 256 ^ i) = UInt8.ofNat (bY a b i + a / 256 ^ i % 256 + b / 256 ^ i % 256) := by
 apply UInt8.toNat_inj.1
 rw [UInt8.toNat_ofNat', UInt8.toNat_ofNat', gL]; omega
def aY (a b i : Nat) : Nat := if a % 256 ^ i < b % 256 ^ i then 1 else 0
theorem ir (a b : Nat) : aY a b 0 = 0 := by simp [aY, Nat.mod_one]
theorem oO {a b : Nat} (h : b ≤ a) (i : Nat) : (a - b) / 256 ^ i = a / 256 ^ i - b / 256 ^ i - aY a b i ∧ b / 256 ^ i + aY a b i ≤ a / 256 ^ i := by
 have h1 := Nat.div_add_mod a (256 ^ i); have h2 := Nat.div_add_mod b (256 ^ i)
 have m1 := Nat.mod_lt a (iG i); have m2 := Nat.mod_lt b (iG i)
 have hq : b / 256 ^ i ≤ a / 256 ^ i := Nat.div_le_div_right h
 unfold aY
 generalize 256 ^ i = P at *
 generalize hA : a / P = A at *
 generalize hB : b / P = B' at *
 split
 ·rename_i hlt
  have hne : B' < A := by
   rcases Nat.lt_or_ge B' A with q | q
   ·exact q
   ·exfalso
    have : A = B' := by omega
    subst this; omega
  obtain ⟨D, rfl⟩ : ∃ D, A = B' + 1 + D := ⟨A - B' - 1, by omega⟩
  refine ⟨?_, by omega⟩
  have e : a - b = P * D + (P + a % P - b % P) := by
   have : P * (B' + 1 + D) = P * B' + P + P * D := by rw [Nat.mul_add, Nat.mul_add, Nat.mul_one]
   omega
  rw [e, Nat.mul_add_div (by omega), Nat.div_eq_of_lt (by omega)]; omega
 ·rename_i hge
  obtain ⟨D, rfl⟩ : ∃ D, A = B' + D := ⟨A - B', by omega⟩
  refine ⟨?_, by omega⟩
  have e : a - b = P * D + (a % P - b % P) := by
   have : P * (B' + D) = P * B' + P * D := Nat.mul_add _ _ _
   omega
  rw [e, Nat.mul_add_div (by omega), Nat.div_eq_of_lt (by omega)]; omega
end Go.Proofs.YtkdlonihbjhhoaaGreatDoor
namespace Go.Proofs.YtkdlonihbjhhoaaGreatDoor
open Go.RowKit
set_option linter.unusedSimpArgs false
set_option linter.unusedVariables false
set_option maxHeartbeats 600000
set_option maxRecDepth 20000
theorem gM {w : World} : Below w.heap.size w w := ⟨rfl, rfl, rfl, Nat.le_refl _, fun _ _ => rfl⟩
section
variable {ds : List Deferred} {P : Program} {o : Oper} {n : Nat} {L : ak} {Z : World → Prop} {x y : Operand} {t t2 : TypeId} {k : IntKind} {i j : Int}
theorem fZ (hop : o.op = .call { callee := .builtin .max, args := #[x, y], argTypes := #[t, t2] }) (hx : ag L x = some (.int k i)) (hy : ag L y = some (.int k j)) : Rd ds P o n L Z (.int k (max i j)) :=
  aH fun a hF w _ => by
    have e : max i j = if j > i then j else i := by split <;> omega
    rw [e]
    simp [execOp, hop, resolve, invoke, builtin, hF.eval hx, hF.eval hy, Builtin.max_, Builtin.max2]
theorem vo (hop : o.op = .call { callee := .builtin .min, args := #[x, y], argTypes := #[t, t2] }) (hx : ag L x = some (.int k i)) (hy : ag L y = some (.int k j)) : Rd ds P o n L Z (.int k (min i j)) :=
  aH fun a hF w _ => by
    have e : min i j = if j < i then j else i := by split <;> omega
    rw [e]
    simp [execOp, hop, resolve, invoke, builtin, hF.eval hx, hF.eval hy, Builtin.min_, Builtin.min2]
end
theorem zx (x : Nat) : (x : Int).fdiv (2 ^ (min (Int.toNat 8) IntKind.i64.bits)) = ((x / 256 : Nat) : Int) := by
  have m1 : min (Int.toNat 8) IntKind.i64.bits = 8 := by decide
  rw [m1, Int.fdiv_eq_ediv_of_nonneg _ (by decide)]; norm_cast
theorem xk {a b : Bs} {w : World} :
    Calls Tryz.prog 164 #[.string (S a), .string (S b)] w fun e w' => e = .returned (.int .i64 (Lib.compareBytes a b)) ∧ Below w.heap.size w w' :=
  (oK (S a) (S b) w).mono fun _ _ ⟨h1, h2⟩ => ⟨by simpa [S] using h1, by rw [h2]; exact gM⟩
theorem s7 {x : Nat} {w : World} (hx : x < 256) :
    Calls Tryz.prog 152 #[.int .u8 (x : Int)] w fun e w' => e = .returned (.int .i64 (Lib.bitLen x)) ∧ Below w.heap.size w w' :=
  (vD x w (by omega) (by omega)).mono fun _ _ ⟨h1, h2⟩ => ⟨by simpa using h1, by rw [h2]; exact gM⟩
theorem wK {x : Int} {w : World} :
    Calls Tryz.prog 204 #[.int .i64 x] w fun e w' => e = .returned (.bool false) ∧ Below w.heap.size w w' := by
  refine enter (S := St (fun _ => True) w [] ([])) (L := [(0, .int .i64 x)]) Tryz.func204 rfl Tryz.ntmps204 rfl (eL rfl (iw _)) (St.start (fun _ _ => trivial) f9) ?_
  refine WC.sr ?_
  refine WL.r rfl rfl rfl (bB rfl rfl) ?_
  refine WL.nt ?_
  refine WC.sr ?_
  refine WL.r rfl rfl rfl (bT rfl rfl) ?_
  refine WL.r rfl rfl rfl (bT rfl rfl) ?_
  refine WL.r rfl rfl rfl (l0 rfl rfl rfl) ?_
  refine WL.r rfl rfl rfl (bB rfl rfl) ?_
  refine WL.nt ?_
  refine WC.ret ?_
  exact WX.retN rfl (.tmp rfl .nil) fun w' hS => ⟨by (simp [tup]; done), hS.below⟩
def cP (a b : Int) : Int := if a < b then -1 else if b < a then 1 else 0
theorem yZ {a b : Int} {w : World} :
    Calls Tryz.prog 163 #[.int .i64 a, .int .i64 b] w fun e w' => e = .returned (.int .i64 (cP a b)) ∧ Below w.heap.size w w' := by
  refine enter (S := St (fun _ => True) w [] ([])) (L := [(0, .int .i64 a), (1, .int .i64 b)]) Tryz.func163 rfl Tryz.ntmps163 rfl (eL rfl (eL rfl (iw _))) (St.start (fun _ _ => trivial) f9) ?_
  refine WC.sr ?_
  refine WL.r rfl rfl rfl (bB rfl rfl) ?_
  refine WL.nt ?_
  refine WC.sr ?_
  refine WL.r rfl rfl rfl (bT rfl rfl) ?_
  refine WL.g rfl rfl rfl (mh rfl rfl (by kernel_rfl) (ic fun w hS => wK)) ?_
  intro _
  refine WL.r rfl rfl rfl (bB rfl rfl) ?_
  refine WL.nt ?_
  refine WC.sr ?_
  refine WL.r rfl rfl rfl (bT rfl rfl) ?_
  refine WL.g rfl rfl rfl (mh rfl rfl (by kernel_rfl) (ic fun w hS => wK)) ?_
  intro _
  refine WL.r rfl rfl rfl (bB rfl rfl) ?_
  refine WL.nt ?_
  refine WC.seq ?_
  refine WC.sr ?_
  refine WL.r rfl rfl rfl (bT rfl rfl) ?_
  refine WL.nt ?_
  refine WC.cond rfl (fun hc11 => by exfalso; (try simp only [sB] at hc11); cases hc11) (fun hc11 => ?_)
  (try simp only [sB] at hc11)
  refine WC.skip ?_
  refine WX.then_normal ?_
  refine WC.seq ?_
  refine WC.sr ?_
  refine WL.r rfl rfl rfl (bT rfl rfl) ?_
  refine WL.nt ?_
  refine WC.cond rfl (fun hc13 => by exfalso; (try simp only [sB] at hc13); cases hc13) (fun hc13 => ?_)
  (try simp only [sB] at hc13)
  refine WC.skip ?_
  refine WX.then_normal ?_
  refine WC.seq ?_
  refine WC.sr ?_
  refine WL.r rfl rfl rfl (bT rfl rfl) ?_
  refine WL.r rfl rfl rfl (bT rfl rfl) ?_
  refine WL.r rfl rfl rfl (j2 rfl rfl rfl) ?_
  refine WL.nt ?_
  refine WC.cond rfl (fun hc16 => ?_) (fun hc16 => ?_)
  · (try simp only [sB] at hc16)
    refine WC.sr ?_
    refine WL.r rfl rfl rfl (bB rfl rfl) ?_
    refine WL.nt ?_
    refine WC.ret ?_
    refine WX.then_ret ?_
    exact WX.retN rfl (.tmp rfl .nil) fun w' hS => ⟨by simp [cP, hc16, tup], hS.below⟩
  · (try simp only [sB] at hc16)
    refine WC.skip ?_
    refine WX.then_normal ?_
    refine WC.seq ?_
    refine WC.sr ?_
    refine WL.r rfl rfl rfl (bT rfl rfl) ?_
    refine WL.r rfl rfl rfl (bT rfl rfl) ?_
    refine WL.r rfl rfl rfl (j3 rfl rfl rfl) ?_
    refine WL.nt ?_
    refine WC.cond rfl (fun hc19 => ?_) (fun hc19 => ?_)
    · (try simp only [sB] at hc19)
      refine WC.sr ?_
      refine WL.r rfl rfl rfl (bB rfl rfl) ?_
      refine WL.nt ?_
      refine WC.ret ?_
      refine WX.then_ret ?_
      exact WX.retN rfl (.tmp rfl .nil) fun w' hS => ⟨by simp [cP, tup]; omega, hS.below⟩
    · (try simp only [sB] at hc19)
      refine WC.skip ?_
      refine WX.then_normal ?_
      refine WC.sr ?_
      refine WL.r rfl rfl rfl (bB rfl rfl) ?_
      refine WL.nt ?_
      refine WC.ret ?_
      exact WX.retN rfl (.tmp rfl .nil) fun w' hS => ⟨by simp [cP, tup]; omega, hS.below⟩
section
variable {ds : List Deferred} {P : Program} {o : Oper} {n : Nat} {L : ak} {Z : World → Prop} {x y : Operand} {t t2 : TypeId} {k : IntKind} {i : Int}
theorem j4 {k' : IntKind} (hop : o.op = .convert t t2 x) (hx : ag L x = some (.int k' i)) {d : TypeDesc} (h1 : P.underlying t = some d) (h2 : P.underlying t2 = some (.int k)) (h : k.wrap i = i) : Rd ds P o n L Z (.int k i) := by
 have := aQ (ds := ds) (n := n) (St := Z) hop hx h1 h2
 rw [h] at this; exact this
theorem jD (c : UInt8) : IntKind.i64.wrap (c.toNat : Int) = (c.toNat : Int) := uo _ (by have := c.toNat_lt; omega)
end
section
variable {ds : List Deferred} {P : Program} {o : Oper} {n : Nat} {L : ak} {ok : Nat → Prop} {w0 : World} {own : List Ent} {fs : List Fact} {x y : Operand} {t T : TypeId} {b off : Nat} {cs xs ys : List Value} {C : Ent → List Ent}
theorem lS (hop : o.op = .store t x y) (hx : ag L x = some (.pointer (some ⟨b, 0, none⟩))) (hy : ag L y = some (.agg xs.toArray)) [hk : HasC own (some b) cs T C] (hs : (P.info? t).map (·.size) = some xs.length) (h1 : ∀ v ∈ xs, v.oneCell' = true) (hl : xs.length = cs.length) :
  ∀ ext, Og ds P o n L (St ok w0 (ext ++ own) fs) (fun _ : Unit => undef) (fun _ => St ok w0 (ext ++ C ⟨some b, xs, T⟩) fs) := fun ext => sta hop hx hy (Ctx.right hk.h ext) hs h1 hl
end
class nQ (fs more : List Fact) : Prop where
 h : ∀ f ∈ more, f ∈ fs
instance hasM_here {fs : List Fact} : nQ fs fs := ⟨fun _ h => h⟩
instance hasM_there {f : Fact} {fs more : List Fact} [h : nQ fs more] : nQ (f :: fs) more := ⟨fun g hg => List.mem_cons_of_mem _ (h.h g hg)⟩
theorem St.more {ok : Nat → Prop} {w0 w : World} {own : List Ent} {fs more : List Fact} (hS : St ok w0 own fs w) [h : nQ fs more] : ∀ f ∈ more, f.holds (fun _ => True) w := fun f hf => ah (hS.fact f (h.h f hf))
theorem cm {more : List Fact} {ok : Nat → Prop} {w : World} (h : ∀ f ∈ more, f.holds ok w) : ∀ f ∈ more, f.holds (fun _ => True) w := fun f hf => ah (h f hf)
theorem rG (z : Array Value) (m : Nat) : (Builtin.zeroCells z m).toList.length = m * z.size := by simp [Builtin.zeroCells]
section
variable {P : Program} {ok : Nat → Prop} {w0 : World} {fs : List Fact} {t e : TypeId} {sz z : Nat} {cs : List Value}
theorem se {w : World} {own : List Ent} {kk : Nat} {ob : Option Nat} {len cap : Nat} {news : List Value} {zv : Value} {src : Value} {m : Nat} {ty : TypeId} (hS : St ok w0 own fs w) (hk : own[kk]? = some ⟨ob, cs, e⟩)
  (hu : P.underlying t = some (.slice e)) (hi : (P.info? e).map (fun i => (i.zero, i.size, i.bytes)) = some (some zv, z, sz)) (h1 : zv.cells.size = z) (hz0 : 0 < z)
  (hlen : len ≤ cap) (hcap : cap * z = cs.length) (hsrc : Src w src m news) (hm : news.length = m * z) (h1c : ∀ u ∈ news, u.oneCell' = true) (hpos : 0 < m)
  (h63 : len + m ≤ 9223372036854775807) (hb : (len + m) * sz ≤ 140737488355328) :
  ∃ (g : App) (w' : World), (Builtin.append_ #[t, t] ty #[.slice (ob.map fun b => ⟨b, 0, none⟩) len cap, src]).run P w = .ok (.slice (some ⟨g.b, 0, none⟩) (len + m) g.cap) w' ∧ (len + m ≤ g.cap ∧ g.cap * z = (len + m) * z + g.spare.length) ∧ St ok w0 (own.set kk ⟨some g.b, cs.take (len * z) ++ news ++ g.spare, e⟩) fs w' := by
 obtain ⟨i', hi', hz, hs, hbb⟩ := info_parts hi
 obtain ⟨ad, c', rfl, hnone, hcell⟩ := hsrc
 cases ad with
 | none => have := (hnone rfl).1; omega
 | some a =>
 have hnews := hcell a rfl
 have hl : news.length = m * i'.size := by rw [hs]; exact hm
 have zlen : ∀ q, (Builtin.zeroCells zv.cells q).toList.length = q * z := fun q => by rw [rG, h1]
 have hge : ∀ g q : Nat, q ≤ g → g * z = q * z + (g - q) * z := fun g q h => by rw [← Nat.add_mul]; congr 1; omega
 cases ob with
 | none =>
  have hcs : cs = [] := hS.own_ _ (List.mem_of_getElem? hk)
  subst hcs
  have hc0 : cap = 0 := by
   rcases Nat.eq_zero_or_pos cap with h | h
   ·exact h
   ·have := Nat.mul_pos h hz0; simp at hcap; omega
  subst hc0
  have hl0 : len = 0 := by omega
  subst hl0
  have hrun := run_append_nil (P := P) w t ty e i' zv hu hi' hz a m c' news hl hnews hpos (by omega) (by rw [hbb]; rw [Nat.zero_add] at hb; omega)
  have hg := grownCap_ge w m 0 e
  refine ⟨⟨w.heap.size, grownCap w m 0 e, (Builtin.zeroCells zv.cells (grownCap w m 0 e - m)).toList⟩, _, by simpa using hrun, ⟨?_, ?_⟩, ?_⟩
  ·simpa using hg
  ·simp only [zlen, Nat.zero_add]; exact hge _ _ hg
  ·have := (hS.draw.alloc (news ++ (Builtin.zeroCells zv.cells (grownCap w m 0 e - m)).toList) e).replace kk
   have e1 : (news.toArray ++ Builtin.zeroCells zv.cells (grownCap w m 0 e - m)) = (news ++ (Builtin.zeroCells zv.cells (grownCap w m 0 e - m)).toList).toArray := by
    apply Array.ext'; simp
   simp only [List.take_nil, List.nil_append]
   rw [e1]; exact this
 | some b' =>
  have hbk := hS.block hk
  have hlc : len * z ≤ cs.length := by rw [← hcap]; exact Nat.mul_le_mul_right _ hlen
  by_cases hroom : len + m ≤ cap
  ·have hlm : (len + m) * z ≤ cs.length := by rw [← hcap]; exact Nat.mul_le_mul_right _ hroom
   have hrun := run_append_room (P := P) w t ty e i' hu hi' b' len cap cs.toArray hbk a m c' news hl hnews h1c hroom (by rw [hs]; simp; rw [Nat.add_mul] at hlm; omega)
   refine ⟨⟨b', cap, cs.drop (len * z + m * z)⟩, _, hrun, ⟨hroom, ?_⟩, ?_⟩
   ·simp only [List.length_drop]; rw [hcap, ← Nat.add_mul]; omega
   ·have := hS.setRow hk (cs.take (len * z) ++ news ++ cs.drop (len * z + m * z))
    rw [hs]; simp only [hm]; exact this
  ·have hrun := run_append_grow (P := P) w t ty e i' zv hu hi' hz ⟨b', 0, none⟩ len cap (cs.take (len * z)) (by rw [hs]; simp; omega) (fun q u hq => by
     rw [Addr.add_lit, Nat.zero_add, di hbk]
     rw [List.getElem?_take] at hq; split at hq
     ·exact hq
     ·cases hq) a m c' news hl hnews (by omega) (by omega) (by rw [hbb]; exact growslice_fits (by omega) hb)
   have hg := grownCap_ge w (len + m) cap e
   refine ⟨⟨w.heap.size, grownCap w (len + m) cap e, (Builtin.zeroCells zv.cells (grownCap w (len + m) cap e - (len + m))).toList⟩, _, hrun, ⟨hg, ?_⟩, ?_⟩
   ·simp only [zlen]; exact hge _ _ hg
   ·have := (hS.draw.alloc (cs.take (len * z) ++ news ++ (Builtin.zeroCells zv.cells (grownCap w (len + m) cap e - (len + m))).toList) e).replace kk
    have e1 : ((cs.take (len * z)).toArray ++ news.toArray ++ Builtin.zeroCells zv.cells (grownCap w (len + m) cap e - (len + m))) = (cs.take (len * z) ++ news ++ (Builtin.zeroCells zv.cells (grownCap w (len + m) cap e - (len + m))).toList).toArray := by
     apply Array.ext'; simp
    rw [e1]; exact this
end
section
variable {ds : List Deferred} {P : Program} {o : Oper} {n : Nat} {L : ak} {ok : Nat → Prop} {w0 : World} {own : List Ent} {C : Ent → List Ent} {fs : List Fact} {x y : Operand} {t e : TypeId} {sz z : Nat} {xs : List Value}
theorem ug {len cap : Nat} {ob : Option Nat} {news sp : List Value} {zv : Value} {m c : Nat} {ad : Option Addr} (hop : o.op = .call { callee := .builtin .append, args := #[x, y], argTypes := #[t, t] }) (hu : P.underlying t = some (.slice e)) (hi : (P.info? e).map (fun i => (i.zero, i.size, i.bytes)) = some (some zv, z, sz)) (h1 : zv.cells.size = z) (hz0 : 0 < z)
  (hk : Ctx own ⟨ob, xs ++ sp, e⟩ C) (hx : ag L x = some (.slice (ob.map fun b => ⟨b, 0, none⟩) len cap)) (hy : ag L y = some (.slice ad m c)) (hsrc : ∀ w, St ok w0 own fs w → (Fact.sl ad news).holds (fun _ => True) w) (hm : news.length = m * z)
  (hb : xs.length = len * z ∧ cap * z = len * z + sp.length ∧ len + m ≤ 9223372036854775807 ∧ (len + m) * sz ≤ 140737488355328) (h1c : ∀ u ∈ news, u.oneCell' = true) :
  Og ds P o n L (St ok w0 own fs) (fun g : Gr => .slice (g.ob.map fun b => ⟨b, 0, none⟩) (len + m) g.cap) (fun g w => (g.cap * z = (len + m) * z + g.sp.length) ∧ St ok w0 (C ⟨g.ob, (xs ++ news) ++ g.sp, e⟩) fs w) :=
 cj fun a hF w hS => by
  obtain ⟨kk, hkk, hC⟩ := hk.get
  obtain ⟨hxl, hcap, h63, hbb⟩ := hb
  have hlc : len ≤ cap := by
   rcases Nat.lt_or_ge cap len with h | h
   ·have := Nat.mul_lt_mul_of_pos_right h hz0; omega
   ·exact h
  by_cases hpos : 0 < m
  ·have htake : (xs ++ sp).take (len * z) = xs := by rw [← hxl]; simp
   have hs : Src w (.slice ad m c) m news := by
    rcases hsrc w hS with h0 | ⟨b', off', cells, T', fz, e1, _, e3, e4⟩
    ·subst h0; have := Nat.mul_pos hpos hz0; simp at hm; omega
    ·subst e1
     refine ⟨_, _, rfl, (fun h => by cases h), fun a ha q u hq => ?_⟩
     obtain rfl := Option.some.inj ha
     have hlt : q < news.length := (List.getElem?_eq_some_iff.1 hq).1
     rw [Addr.add_lit]; simp [World.cell?, e3, e4 q hlt, hq]
   obtain ⟨g, w', hrun, hp, hS'⟩ := se (P := P) (ty := o.type) hS hkk hu hi h1 hz0 hlc (by simp; omega) hs hm h1c hpos h63 hbb
   rw [htake] at hS'
   refine ⟨⟨some g.b, g.cap, g.spare⟩, w', .inl ?_, ?_, ?_⟩
   ·simp [execOp, hop, resolve, invoke, builtin, hF.eval hx, hF.eval hy, hrun]
   ·exact hp.2
   ·rw [hC]; exact hS'
  ·have hm0 : m = 0 := by omega
   subst hm0
   have hn0 : news = [] := List.eq_nil_of_length_eq_zero (by omega)
   subst hn0
   obtain ⟨i', hi', hz, hs, hbb'⟩ := info_parts hi
   have hrun := m6 (P := P) (w := w) (ob := ob) (len := len) (cap := cap) (c := c) (ad := ad) (ty := o.type) (sz := z) hu (by rw [hi']; simp [hs]) hlc
   refine ⟨⟨ob, cap, sp⟩, w, .inl ?_, ?_, ?_⟩
   ·simp [execOp, hop, resolve, invoke, builtin, hF.eval hx, hF.eval hy, hrun]
   ·exact hcap
   ·rw [List.append_nil]
    rw [hC]
    have : own.set kk ⟨ob, xs ++ sp, e⟩ = own := by
     apply List.ext_getElem?; intro q
     by_cases hq : kk = q
     ·subst hq; rw [List.getElem?_set_self (List.getElem?_eq_some_iff.1 hkk).1, hkk]
     ·rw [List.getElem?_set_ne hq]
    rw [this]; exact hS
theorem mP {len cap : Nat} {ob : Option Nat} {news sp : List Value} {zv : Value} {m c : Nat} {ad : Option Addr} (hop : o.op = .call { callee := .builtin .append, args := #[x, y], argTypes := #[t, t] }) (hu : P.underlying t = some (.slice e)) (hi : (P.info? e).map (fun i => (i.zero, i.size, i.bytes)) = some (some zv, z, sz)) (h1 : zv.cells.size = z) (hz0 : 0 < z)
  (hk : Ctx own ⟨ob, xs ++ sp, e⟩ C) (hx : ag L x = some (.slice (ob.map fun b => ⟨b, 0, none⟩) len cap)) (hy : ag L y = some (.slice ad m c)) (hsrc : ∀ ext w, St ok w0 (ext ++ own) fs w → (Fact.sl ad news).holds (fun _ => True) w) (hm : news.length = m * z)
  (hb : xs.length = len * z ∧ cap * z = len * z + sp.length ∧ len + m ≤ 9223372036854775807 ∧ (len + m) * sz ≤ 140737488355328) (h1c : ∀ u ∈ news, u.oneCell' = true) (ext : List Ent) :
  Og ds P o n L (St ok w0 (ext ++ own) fs) (fun g : Gr => .slice (g.ob.map fun b => ⟨b, 0, none⟩) (len + m) g.cap) (fun g w => (g.cap * z = (len + m) * z + g.sp.length) ∧ St ok w0 (ext ++ C ⟨g.ob, (xs ++ news) ++ g.sp, e⟩) fs w) :=
 ug hop hu hi h1 hz0 (Ctx.right hk ext) hx hy (hsrc ext) hm hb h1c
end
theorem cu {k : Nat} (c : List Value) : (([(k, Value.agg c.toArray)] : List (Nat × Value)).map Prod.snd).flatMap (fun v => v.cells.toList) = c := by simp [Value.cells]
theorem pa (off : Nat) (tl : List Value) : ∀ (c : List Value) (k : Nat) (done mid : List Value), mid.length = c.length → done.length = off + k →
  (c.zipIdx k).foldl (fun (cs : Array Value) (x : Value × Nat) => cs.setIfInBounds (off + x.2) x.1) (done ++ (mid ++ tl)).toArray = (done ++ (c ++ tl)).toArray
 | [], k, done, mid, h, _ => by
  have : mid = [] := List.eq_nil_of_length_eq_zero h
  subst this; simp
 | x :: c, k, done, [], h, _ => by simp at h
 | x :: c, k, done, m :: mid, h, hd => by
  rw [List.zipIdx_cons, List.foldl_cons]
  have e1 : (done ++ (m :: mid ++ tl)).toArray.setIfInBounds (off + k) x = ((done ++ [x]) ++ (mid ++ tl)).toArray := by
   rw [← hd]; apply Array.ext'; simp
  simp only
  rw [e1, pa off tl c (k + 1) (done ++ [x]) mid (by simpa using h) (by simp; omega)]
  simp
theorem tx (z : Nat) : ∀ (vs done zs : List Value) (k : Nat), zs.length = vs.length * z → (∀ v ∈ vs, v.cells.size = z) → done.length = k * z →
  Instr.fill (fun i => some (i * z, z)) (done ++ zs).toArray ((List.range' k vs.length).zip vs) = some (done ++ vs.flatMap fun v => v.cells.toList).toArray
 | [], done, zs, k, hl, _, _ => by have : zs = [] := List.eq_nil_of_length_eq_zero (by simpa using hl); subst this; simp [Instr.fill]
 | v :: vs, done, zs, k, hl, h1, hd => by
  have hv := h1 v (by simp)
  rw [List.length_cons, Nat.add_mul, Nat.one_mul] at hl
  have hz : zs = zs.take z ++ zs.drop z := (List.take_append_drop z zs).symm
  have hzl : (zs.take z).length = z := by rw [List.length_take]; omega
  have hdl : (zs.drop z).length = vs.length * z := by rw [List.length_drop]; omega
  have e1 := pa (k * z) (zs.drop z) v.cells.toList 0 done (zs.take z) (by rw [hzl]; simpa using hv.symm) (by omega)
  rw [← hz] at e1
  have ih := tx z vs (done ++ v.cells.toList) (zs.drop z) (k + 1) hdl (fun u hu => h1 u (by simp [hu])) (by rw [List.length_append, hd, Nat.add_mul]; simp [hv])
  simp only [List.length_cons, List.range'_succ, List.zip_cons_cons, Instr.fill]
  rw [if_neg (by simp [hv, hd]; omega)]
  have e2 : (v.cells.zipIdx.foldl (fun (cs : Array Value) (x : Value × Nat) => cs.setIfInBounds (k * z + x.2) x.1) (done ++ zs).toArray) = (done ++ (v.cells.toList ++ zs.drop z)).toArray := by
   rw [← e1, ← Array.foldl_toList, Array.toList_zipIdx]
  have e3 : (v.cells.zipIdx.foldl (fun cs x => match x with | (c, j) => cs.setIfInBounds (k * z + j) c) (done ++ zs).toArray) = (done ++ (v.cells.toList ++ zs.drop z)).toArray := e2
  rw [e3, ← List.append_assoc, ih]
  simp
section
variable {ds : List Deferred} {P : Program} {o : Oper} {n : Nat} {L : ak} {ok : Nat → Prop} {w0 : World} {own : List Ent} {fs : List Fact} {t e : TypeId} {sz z : Nat} {cs : List Value}
theorem pe {len : Nat} {vs : List (Nat × Value)} {zv : Value} (hu : P.underlying t = some (.slice e))
  (hi : (P.info? e).map (fun i => (i.zero, i.size, i.bytes)) = some (some zv, z, sz)) (hzs : zv.cells.size = z) (hz0 : 0 < z) (hnum : vs = (List.range' 0 len).zip (vs.map Prod.snd)) (hlen : (vs.map Prod.snd).length = len) (h1 : ∀ v ∈ vs.map Prod.snd, v.cells.size = z) (hcs : (vs.map Prod.snd).flatMap (fun v => v.cells.toList) = cs) (hsm : len * z ≤ 16777216) (w : World) :
  (Instr.buildSlice t len vs.toArray).run P w = .ok (.slice (some ⟨w.heap.size, 0, none⟩) len len) (w.alloc (.cells cs.toArray e)) := by
 obtain ⟨i', hi', hz', hs, hbb⟩ := info_parts hi
 have hfill : ∀ zs : List Value, zs.length = len * z → Instr.fill (fun i => some (i * z, z)) zs.toArray vs = some cs.toArray := fun zs hzl => by
  have := tx z (vs.map Prod.snd) [] zs 0 (by rw [hlen]; exact hzl) h1 (by simp)
  rw [hlen, ← hnum, hcs] at this; simpa using this
 simp only [Instr.buildSlice, Sem.run_bind, run_underlying hu, Result.andThen, sizeOf, typeInfo, run_program, hi', Sem.run_pure, hs]
 rw [if_neg (by omega)]
 by_cases h0 : len * z = 0
 ·have hzero : ((Array.range (len * z)).map fun x => (#[] : Array Value)[x % (#[] : Array Value).size]!) = (((Array.range (len * z)).map fun x => (#[] : Array Value)[x % (#[] : Array Value).size]!).toList).toArray := (Array.toArray_toList).symm
  rw [if_pos h0]
  simp only [Sem.run_pure, Sem.run_bind, Result.andThen]
  rw [hzero, hfill _ (by simp)]
  rfl
 ·have hzero : ((Array.range (len * z)).map fun x => zv.cells[x % zv.cells.size]!) = (((Array.range (len * z)).map fun x => zv.cells[x % zv.cells.size]!).toList).toArray := (Array.toArray_toList).symm
  rw [if_neg h0]
  simp only [Sem.run_bind, zeroValue, typeInfo, run_program, Result.andThen, hi', Sem.run_pure, hz']
  rw [hzero, hfill _ (by simp)]
  rfl
theorem fE {len : Nat} {parts : List (Nat × Operand)} {vs : List (Nat × Value)} {zv : Value} (hop : o.op = .buildSlice t len parts.toArray) (hp : bU L parts = some vs) (hu : P.underlying t = some (.slice e))
  (hi : (P.info? e).map (fun i => (i.zero, i.size, i.bytes)) = some (some zv, z, sz)) (hzs : zv.cells.size = z) (hz0 : 0 < z) (hnum : vs = (List.range' 0 len).zip (vs.map Prod.snd)) (hlen : (vs.map Prod.snd).length = len) (h1 : ∀ v ∈ vs.map Prod.snd, v.cells.size = z) (hcs : (vs.map Prod.snd).flatMap (fun v => v.cells.toList) = cs) (hsm : len * z ≤ 16777216) :
  Og ds P o n L (St ok w0 own fs) (fun b : Nat => .slice (some ⟨b, 0, none⟩) len len) (fun b => St ok w0 (⟨some b, cs, e⟩ :: own) fs) := wI hop hp hu (pe hu hi hzs hz0 hnum hlen h1 hcs hsm)
theorem iL {len : Nat} {parts : List (Nat × Operand)} {vs : List (Nat × Value)} {zv : Value} (hop : o.op = .buildSlice t len parts.toArray) (hp : bU L parts = some vs) (hu : P.underlying t = some (.slice e))
  (hi : (P.info? e).map (fun i => (i.zero, i.size, i.bytes)) = some (some zv, z, sz)) (hzs : zv.cells.size = z) (hz0 : 0 < z) (hnum : vs = (List.range' 0 len).zip (vs.map Prod.snd)) (hlen : (vs.map Prod.snd).length = len) (h1 : ∀ v ∈ vs.map Prod.snd, v.cells.size = z) (hcs : (vs.map Prod.snd).flatMap (fun v => v.cells.toList) = cs) (hsm : len * z ≤ 16777216) :
  Fre ds P o n L (fun b : Nat => .slice (some ⟨b, 0, none⟩) len len) cs e := wN hop hp hu (pe hu hi hzs hz0 hnum hlen h1 hcs hsm)
end
theorem St.addN {ok : Nat → Prop} {w0 w : World} {own : List Ent} {fs : List Fact} (h : St ok w0 own fs w) : St ok w0 own (Fact.sl none [] :: fs) w := h.add (f := Fact.sl none []) (Or.inl rfl)
def okN (a : Bs) : Prop := a.length ≤ 128 ∧ Can a
instance (a : Bs) : Decidable (okN a) := inferInstanceAs (Decidable (_ ∧ _))
theorem iq (a : Bs) : Can a ↔ a.length = 0 ∨ (a.getD 0 default).toNat ≠ 0 := by
 cases a with
 | nil => simp [Can]
 | cons c s =>
  simp only [Can, List.head?_cons, List.length_cons, List.getD_cons_zero]
  constructor
  ·intro h; right; intro h0; exact h (by rw [show c = 0 from UInt8.toNat_inj.1 h0])
  ·rintro (h | h)
   ·omega
   ·intro h0; injection h0 with h0; subst h0; exact h rfl
theorem av {a : Bs} {w : World} :
  Cw 83 #[.string (S a)] w (.bool (decide (okN a))) := by
 have hci := iq a
 refine En [] [(0, .string (S a))] Tryz.func83 rfl Tryz.ntmps83 rfl (Ac rfl (An _)) Fn ?_
 refine Cs (Ka rfl (Nt (Cs (Km rfl (Yn rfl u22 (Ym rfl (Km rfl ?_)))))))
 refine Nb 6 rfl (fun hg6 => ?_) (fun hg6 => ?_)
 ·(try simp only [sB] at hg6)
  refine Km rfl (Yn rfl u22 (Yi rfl (Km rfl ?_)))
  refine Nb 10 rfl (fun hg10 => ?_) (fun hg10 => ?_)
  ·(try simp only [sB] at hg10)
   refine Kt rfl (Kt rfl (Kt rfl (Yp rfl (Yp rfl (Ka rfl (Nt (Ce ?_)))))))
   exact Rn rfl (.tmp rfl .nil) fun w' hS => ⟨congrArg (fun b => Ending.returned (.bool b)) (by
    first
     | (symm; rw [decide_eq_true_eq]; exact ⟨by omega, hci.2 (.inl (by omega))⟩)
     | (symm; rw [decide_eq_false_iff_not]; rintro ⟨h, _⟩; omega)
     | (show (!decide ((((a.getD 0 default).toNat : Nat) : Int) = 0)) = _
        rw [Bool.eq_iff_iff]; simp only [Bool.not_eq_true', decide_eq_false_iff_not, decide_eq_true_eq]
        exact ⟨fun h => ⟨by omega, hci.2 (.inr (by omega))⟩, fun h => by have := (hci.1 h.2).resolve_left (by omega); omega⟩)), hS.below⟩
  ·(try simp only [sB] at hg10)
   refine Km rfl ?_
   refine Kq rfl (bA rfl rfl rfl u22 ?_) ?_
   ·omega
   refine Yj rfl (Yq rfl (Yp rfl (Ka rfl (Nt (Ce ?_)))))
   exact Rn rfl (.tmp rfl .nil) fun w' hS => ⟨congrArg (fun b => Ending.returned (.bool b)) (by
    first
     | (symm; rw [decide_eq_true_eq]; exact ⟨by omega, hci.2 (.inl (by omega))⟩)
     | (symm; rw [decide_eq_false_iff_not]; rintro ⟨h, _⟩; omega)
     | (show (!decide ((((a.getD 0 default).toNat : Nat) : Int) = 0)) = _
        rw [Bool.eq_iff_iff]; simp only [Bool.not_eq_true', decide_eq_false_iff_not, decide_eq_true_eq]
        exact ⟨fun h => ⟨by omega, hci.2 (.inr (by omega))⟩, fun h => by have := (hci.1 h.2).resolve_left (by omega); omega⟩)), hS.below⟩
 ·(try simp only [sB] at hg6)
  refine Kt rfl (Kt rfl (Kt rfl (Kt rfl (Kt rfl (Kt rfl (Kt rfl (Kt rfl (Yq rfl (Ka rfl (Nt (Ce ?_)))))))))))
  exact Rn rfl (.tmp rfl .nil) fun w' hS => ⟨congrArg (fun b => Ending.returned (.bool b)) (by
   first
    | (symm; rw [decide_eq_true_eq]; exact ⟨by omega, hci.2 (.inl (by omega))⟩)
    | (symm; rw [decide_eq_false_iff_not]; rintro ⟨h, _⟩; omega)
    | (show (!decide ((((a.getD 0 default).toNat : Nat) : Int) = 0)) = _
       rw [Bool.eq_iff_iff]; simp only [Bool.not_eq_true', decide_eq_false_iff_not, decide_eq_true_eq]
       exact ⟨fun h => ⟨by omega, hci.2 (.inr (by omega))⟩, fun h => by have := (hci.1 h.2).resolve_left (by omega); omega⟩)), hS.below⟩
theorem cL {a : Bs} {i : Nat} {w : World} (ha : a.length ≤ 1000000000) (hi : i ≤ 1000000000) :
  Cw 129 #[.string (S a), .int .i64 (i : Int)] w (.int .i64 ((val a / 256 ^ i % 256 : Nat) : Int)) := by
 refine En [] [(0, .string (S a)), (1, .int .i64 (i : Int))] Tryz.func129 rfl Tryz.ntmps129 rfl (Ac rfl (Ac rfl (An _))) Fn ?_
 refine Cs (Ka rfl (Nt (Cq (Cs (Km rfl (Km rfl (Yn rfl u22 (Yh rfl (Nt ?_)))))))))
 refine Cd rfl (fun hc8 => ?_) (fun hc8 => ?_)
 ·(try simp only [sB] at hc8)
  refine Cs (Ka rfl (Nt (Ce (Xb ?_))))
  exact R1 rfl rfl (by rw [jH a i (by omega)]; rfl)
 ·(try simp only [sB] at hc8)
  refine Ck (Xa (Cs (Km rfl (Km rfl (Yn rfl u22 (Kq rfl (ar rfl rfl rfl (by omega)) (Km rfl (Kq rfl (aP rfl rfl rfl (by omega)) ?_))))))))
  refine Kq rfl (bA rfl rfl rfl u22 ?_) ?_
  ·omega
  refine Kq rfl (j4 rfl rfl u5 u3 ?_) ?_
  ·(exact jD _)
  refine Ka rfl (Nt (Ce ?_))
  exact R1 rfl rfl (by rw [kU a i (by omega)]; simp only [tup]; congr 3)
theorem jK {t : Bs} (h0 : 0 < t.length) (h : (t.getD 0 default).toNat = 0) : cb t = cb (t.drop 1) := by
 cases t with
 | nil => simp at h0
 | cons c s =>
  have : c = 0 := UInt8.toNat_inj.1 h
  subst this; simp [cb]
theorem cY {t : Bs} (h : t.length = 0 ∨ (t.getD 0 default).toNat ≠ 0) : cb t = t := rP ((iq t).2 h)
theorem qk {b : Bs} {ad : Option Addr} {cap : Nat} {w : World} {ok : Nat → Prop} (hF1 : (Fact.sl ad (b.map B)).holds ok w) (hcap : b.length ≤ cap) (hb : b.length ≤ 1000000000) :
  Cw 131 #[.slice ad b.length cap] w (.string (S (ae (val b)))) := by
 refine En [Fact.sl ad (b.map B)] [(0, .slice ad b.length cap)] Tryz.func131 rfl Tryz.ntmps131 rfl (Ac rfl (An _)) (Fc (ah hF1) Fn) ?_
 refine Cs (Ka rfl (Nt (Cq (Cb ?_))))
 refine Lo (σ := Bs × (Option Addr) × Nat) [] (fun gq => [(0, .slice gq.2.1 gq.1.length gq.2.2)]) (fun gq => cb gq.1 = cb b ∧ gq.1.length ≤ gq.2.2 ∧ gq.1.length ≤ b.length) (fun gq => gq.1.length) (fun gq => []) (fun gq => [Fact.sl gq.2.1 (gq.1.map B)]) (b, ad, cap) (S0 _) (S1 rfl) (by (try dsimp only); exact ⟨rfl, hcap, Nat.le_refl _⟩) (by (exact fun _ h => h)) ?_
 rintro ⟨t, a', c⟩ hinv1; (try dsimp only at hinv1 ⊢)
 obtain ⟨ht, htc, htb⟩ := hinv1
 refine Cq (Cs (Km rfl (Yo rfl aB (Yg rfl (Km rfl ?_)))))
 refine Nb 6 rfl (fun hg6 => ?_) (fun hg6 => ?_)
 ·(try simp only [sB] at hg6)
  refine Km rfl ?_
  refine Kq rfl (Ib rfl rfl rfl aB (by omega) (by (rw [List.length_map]; omega))) ?_
  refine Kq rfl (ldm rfl rfl u5 rfl (by omega)) ?_
  refine Yi rfl (Yp rfl (Nt ?_))
  refine Cd rfl (fun hc11 => ?_) (fun hc11 => ?_)
  ·(try simp only [sB] at hc11)
   have hz : (t.getD 0 default).toNat = 0 := by (simp at hc11; exact hc11)
   refine Ck (Xa (Cb (Cg (Km rfl ?_))))
   refine Kq rfl (jX rfl rfl rfl aB (by kernel_rfl : _ = some 1) (by omega) (by (try simp only [sN, Int.reduceToNat, Nat.reduceAdd, Nat.reduceMul, Nat.reduceSub]); rfl) (by (try simp only [sN, Int.reduceToNat, Nat.reduceAdd, Nat.reduceMul, Nat.reduceSub]); rfl) (by (try simp only [sN, Int.reduceToNat, Nat.reduceAdd, Nat.reduceMul, Nat.reduceSub]); rfl)) ?_
   refine Ns 13 rfl (v' := .slice (cut a' 1 c 1) (t.drop 1).length (c - 1)) (by rw [List.length_drop]) ?_
   refine Ka rfl (Nn (Xd ?_))
   refine Lx ((t.drop 1, cut a' 1 c 1, c - 1)) (by simp only [List.length_drop]; omega) (S0 _) (by refine (Sc ?_ (S0 _)) <;> (rfl)) ?_ (by exact fun w h => (h.add (f := Fact.sl (cut a' 1 c 1) ((t.drop 1).map B)) (jn 1 htc (h.fact (Fact.sl a' (t.map B)) (by simp)))).sub (List.Sublist.refl _) (fun f hf => List.mem_cons.2 (.inl (List.mem_singleton.1 hf))))
   (try dsimp only)
   exact ⟨by rw [← jK (by omega) hz]; exact ht, by simp; omega, by simp; omega⟩
  ·(try simp only [sB] at hc11)
   refine Cx (Xc (Xc (Xe (Xa (Cs (Km rfl ?_))))))
   refine Kq rfl (rp rfl rfl .tc aB u5 u22 ?_) ?_
   ·rfl
   refine Ka rfl (Nt (Ce ?_))
   exact R1 rfl rfl (by rw [show ae (val b) = t from by rw [← cX, ← ht, cY (by omega)]]; rfl)
 ·(try simp only [sB] at hg6)
  refine Kt rfl (Kt rfl (Kt rfl (Kt rfl (Yq rfl (Nt ?_)))))
  refine Cd rfl (fun h => by cases h) (fun _ => ?_)
  refine Cx (Xc (Xc (Xe (Xa (Cs (Km rfl ?_))))))
  refine Kq rfl (rp rfl rfl .tc aB u5 u22 ?_) ?_
  ·rfl
  refine Ka rfl (Nt (Ce ?_))
  exact R1 rfl rfl (by rw [show ae (val b) = t from by rw [← cX, ← ht, cY (by omega)]]; rfl)
theorem dF {b : Bs} {ad : Option Addr} {m cap : Nat} {w : World} {ok : Nat → Prop} (hF1 : (Fact.sl ad (b.map B)).holds ok w) (hm : m = b.length) (hcap : b.length ≤ cap) (hb : b.length ≤ 1000000000) :
  Cw 131 #[.slice ad m cap] w (.string (S (ae (val b)))) :=
 by subst hm; exact qk hF1 hcap hb
def eV (m k n : Nat) : List Value := (List.replicate (m - k) (0 : UInt8) ++ be k n).map B
theorem cq (m n : Nat) : eV m 0 n = List.replicate m (B 0) := by simp [eV, be]
theorem bV (m n : Nat) : eV m m n = (be m n).map B := by simp [eV]
theorem bO (m k n : Nat) (h : k ≤ m) : (eV m k n).length = m := by simp [eV, aN]; omega
theorem bN (m k n : Nat) (h : k < m) : (eV m k n).set (m - 1 - k) (B (UInt8.ofNat (n / 256 ^ k))) = eV m (k + 1) n := by
 unfold eV
 rw [← List.map_set]
 congr 1
 rw [show m - k = (m - (k + 1)) + 1 by omega, List.replicate_succ', List.append_assoc, List.set_append_right _ _ (by simp; omega), List.length_replicate, show m - 1 - k - (m - (k + 1)) = 0 by omega]
 rfl
theorem oM (n k : Nat) (h : k ≤ 8) : IntKind.u8.wrap ((n : Int).fdiv (2 ^ (min (Int.toNat ((8 * k : Nat) : Int)) IntKind.u64.bits))) = ((UInt8.ofNat (n / 256 ^ k)).toNat : Int) := by
 have m1 : min (Int.toNat ((8 * k : Nat) : Int)) IntKind.u64.bits = 8 * k := by
  have : IntKind.u64.bits = 64 := by decide
  omega
 have e2 : ((2 : Int) ^ (8 * k)) = ((256 ^ k : Nat) : Int) := by rw [Int.pow_mul]; norm_cast
 rw [m1, e2, IntKind.wrap_u8, Int.fdiv_eq_ediv_of_nonneg _ (Int.natCast_nonneg _), UInt8.toNat_ofNat']
 norm_cast
theorem fF {n : Nat} {w : World} (hn : n < 18446744073709551616) :
  Cw 91 #[.int .u64 (n : Int)] w (.string (S (ae n))) := by
 refine En [] [(0, .int .u64 (n : Int))] Tryz.func91 rfl Tryz.ntmps91 rfl (Ac rfl (An _)) Fn ?_
 refine Cs (Ka rfl (Nt (Cs ?_)))
 refine Kh rfl (Oz [.int .u8 0, .int .u8 0, .int .u8 0, .int .u8 0, .int .u8 0, .int .u8 0, .int .u8 0, .int .u8 0] rfl) ?_
 intro b3
 refine Nt (Cq (Cs (Km rfl (Nt (Cb ?_)))))
 refine Lo (σ := Nat) [(0, _), (3, _)] (fun gq => [(5, .int .i64 (gq : Int))]) (fun gq => gq ≤ 8) (fun gq => 8 - gq) (fun gq => [⟨some b3, eV 8 gq n, 191⟩]) (fun gq => []) (0) (S2 rfl rfl) (S1 rfl) (by (try dsimp only); exact Nat.zero_le _) (by exact fun w h => h) ?_
 rintro k hinv1; (try dsimp only at hinv1 ⊢)
 obtain hk := hinv1
 refine Cs (Yl rfl (Nt (Cq ?_)))
 refine Cd rfl (fun hc6 => ?_) (fun hc6 => ?_)
 ·(try simp only [sB] at hc6)
  refine Ck (Xa (Cq (Cb (Cs (Km rfl (Ka rfl (Nt (Cg (Km rfl (Kq rfl (dM rfl rfl rfl (by omega)) (Ns 9 rfl (v' := .int .i64 (((7 - k : Nat) : Int))) (congrArg (Value.int .i64) (by omega)) (Km rfl (Km rfl (Kq rfl (dd rfl rfl rfl (by omega)) ?_))))))))))))))
  refine Kq rfl (gF rfl rfl rfl ?_) ?_
  ·omega
  refine Kq rfl (aQ rfl rfl u76 u5) ?_
  refine Ns 14 rfl (v' := B (UInt8.ofNat (n / 256 ^ k))) (by exact congrArg (Value.int .u8) (oM n k (by omega))) ?_
  refine Kq rfl (Jb rfl rfl rfl yl (by kernel_rfl : _ = some 1) ?_) ?_
  ·omega
  refine Ng rfl rfl (st rfl rfl rfl .tc (by kernel_rfl) rfl ?_ (by rfl)) ?_
  ·rw [bO _ _ _ (by omega)]; omega
  intro _
  refine Nn (Xd (Xa (Cg (Kq rfl (Rz rfl rfl rfl (by omega)) (Km rfl (Nn ?_))))))
  refine Lx (k + 1) (by (try dsimp only); omega) (S2 rfl rfl) (by refine (Sc ?_ (S0 _)) <;> (rfl)) ?_ (by exact fun w h => by rw [← bN 8 k n (by omega)]; exact h)
  (try dsimp only)
  omega
 ·(try simp only [sB] at hc6)
  refine Cx (Xc (Xc (Xe ?_)))
  obtain rfl : k = 8 := by omega
  rw [bV]
  refine Xa (Cs ?_)
  refine Kq rfl (ei rfl rfl yl (by kernel_rfl : _ = some 1)) ?_
  refine Ku rfl (Oc rfl rfl (Kv fun w hS => dF (b := be 8 n) (by (exact hS.os)) (by rw [aN]) (by rw [aN]; decide) (by rw [aN]; decide))) ?_
  refine Ka rfl (Nt (Ce ?_))
  exact R1 rfl rfl (by rw [cW, Nat.mod_eq_of_lt (by omega)]; rfl)
theorem nG : ∀ (a b : Bs), a.length = b.length → Lib.compareBytes a b = cP (val a) (val b)
 | [], [], _ => by simp [Lib.compareBytes, cP, val]
 | [], _ :: _, h => by simp at h
 | _ :: _, [], h => by simp at h
 | x :: a, y :: b, h => by
  have hl : a.length = b.length := by simpa using h
  have ih := nG a b hl
  have ha := aK a; have hb := aK b
  rw [hl] at ha
  simp only [Lib.compareBytes, val, hl]
  rcases Nat.lt_trichotomy x.toNat y.toNat with q | q | q
  ·have h1 : (x.toNat + 1) * 256 ^ b.length ≤ y.toNat * 256 ^ b.length := Nat.mul_le_mul_right _ q
   rw [Nat.add_mul, Nat.one_mul] at h1
   rw [if_pos (show x < y from q), cP, if_pos (by omega)]
  ·have hxy : x = y := UInt8.toNat_inj.1 q
   subst hxy
   rw [if_neg (show ¬ x < x from Nat.lt_irrefl _), if_neg (show ¬ x < x from Nat.lt_irrefl _), ih]
   unfold cP
   split <;> split <;> (try split) <;> (try split) <;> omega
  ·have h1 : (y.toNat + 1) * 256 ^ b.length ≤ x.toNat * 256 ^ b.length := Nat.mul_le_mul_right _ q
   rw [Nat.add_mul, Nat.one_mul] at h1
   rw [if_neg (show ¬ x < y from Nat.not_lt.2 (Nat.le_of_lt q)), if_pos (show y < x from q), cP, if_neg (by omega), if_pos (by omega)]
theorem p8 {a b : Bs} (ha : Can a) (hb : Can b) (h : a.length ≠ b.length) : cP (a.length : Int) (b.length : Int) = cP (val a) (val b) := by
 unfold cP
 rcases Nat.lt_or_gt_of_ne h with q | q
 ·have : val a < val b := Nat.lt_of_not_le fun h' => by have := ip hb ha h'; omega
  rw [if_pos (by omega), if_pos (by omega)]
 ·have : val b < val a := Nat.lt_of_not_le fun h' => by have := ip ha hb h'; omega
  rw [if_neg (by omega), if_pos (by omega), if_neg (by omega), if_pos (by omega)]
theorem iN {a b : Bs} {w : World} (ha : Can a) (hb : Can b) :
  Cw 106 #[.string (S a), .string (S b)] w (.int .i64 (cP (val a) (val b))) := by
 refine En [] [(0, .string (S a)), (1, .string (S b))] Tryz.func106 rfl Tryz.ntmps106 rfl (Ac rfl (Ac rfl (An _))) Fn ?_
 refine Cs (Ka rfl (Nt (Cq (Cs (Km rfl (Yn rfl u22 (Km rfl (Yn rfl u22 ?_))))))))
 refine Ku rfl (Oc rfl rfl (Kv fun w hS => yZ (a := (a.length : Int)) (b := (b.length : Int)))) ?_
 refine Ka rfl (Nt (Cs (Km rfl (Yj rfl (Nt ?_)))))
 refine Cd rfl (fun hc12 => ?_) (fun hc12 => ?_)
 ·(try simp only [sB] at hc12)
  have hne : a.length ≠ b.length := fun h => by rw [cP, if_neg (by omega), if_neg (by omega)] at hc12; exact hc12 rfl
  refine Cs (Km rfl (Ka rfl (Nt (Ce (Xb ?_)))))
  exact R1 rfl rfl (by rw [← p8 ha hb hne]; rfl)
 ·(try simp only [sB] at hc12)
  have heq : a.length = b.length := by unfold cP at hc12; split at hc12 <;> (try split at hc12) <;> omega
  refine Ck (Xa (Cs (Km rfl (Km rfl ?_))))
  refine Ku rfl (Oc rfl rfl (Kv fun w hS => xk)) ?_
  refine Ka rfl (Nt (Ce ?_))
  exact R1 rfl rfl (by rw [← nG a b heq]; rfl)
def ej (a b : Bs) : Int := if okN a ∧ okN b then cP (val a) (val b) else 0
theorem dT {a b : Bs} {w : World} :
  Cw 57 #[.string (S a), .string (S b)] w (.int .i64 (ej a b)) := by
 refine En [] [(0, .string (S a)), (1, .string (S b))] Tryz.func57 rfl Tryz.ntmps57 rfl (Ac rfl (Ac rfl (An _))) Fn ?_
 refine Cs (Ka rfl (Nt (Cq (Cs (Km rfl ?_)))))
 refine Ku rfl (Oc rfl rfl (Kv fun w hS => av)) ?_
 refine Yt rfl (Km rfl ?_)
 refine Nb 8 rfl (fun hg8 => ?_) (fun hg8 => ?_)
 ·(try simp only [sB] at hg8)
  refine Kt rfl (Kt rfl (Kt rfl (Yp rfl (Nt ?_))))
  refine Cd rfl (fun _ => ?_) (fun h => by cases h)
  refine Cs (Ka rfl (Nt (Ce (Xb ?_))))
  exact R1 rfl rfl (by rw [ej, if_neg (by simp_all)]; rfl)
 ·(try simp only [sB] at hg8)
  refine Km rfl ?_
  refine Ku rfl (Oc rfl rfl (Kv fun w hS => av)) ?_
  refine Yt rfl (Yq rfl (Nt ?_))
  refine Cd rfl (fun hc12 => ?_) (fun hc12 => ?_)
  ·(try simp only [sB] at hc12)
   refine Cs (Ka rfl (Nt (Ce (Xb ?_))))
   exact R1 rfl rfl (by rw [ej, if_neg (by simp_all)]; rfl)
  ·(try simp only [sB] at hc12)
   have hab : okN a ∧ okN b := by simp_all
   refine Ck (Xa (Cs (Km rfl (Km rfl ?_))))
   refine Ku rfl (Oc rfl rfl (Kv fun w hS => iN (a := a) (b := b) (by exact hab.1.2) (by exact hab.2.2))) ?_
   refine Ka rfl (Nt (Ce ?_))
   exact R1 rfl rfl (by rw [ej, if_pos hab]; rfl)
theorem ll {a : Bs} {w : World} :
  Cw 130 #[.string (S a)] w (.tuple #[.string (S (if 128 < a.length then [] else a)), .int .i64 (if 128 < a.length then 5 else 0)]) := by
 refine En [] [(0, .string (S a))] Tryz.func130 rfl Tryz.ntmps130 rfl (Ac rfl (An _)) Fn ?_
 refine Cs (Ka rfl (Ka rfl (Nt (Cq (Cs (Km rfl (Yn rfl u22 (Yg rfl (Nt ?_)))))))))
 refine Cd rfl (fun hc6 => ?_) (fun hc6 => ?_)
 ·(try simp only [sB] at hc6)
  refine Cs (Ka rfl (Ka rfl (Nt (Ce (Xb ?_)))))
  exact R2 rfl rfl rfl (by rw [if_pos (by omega), if_pos (by omega)]; rfl)
 ·(try simp only [sB] at hc6)
  refine Ck (Xa (Cs (Km rfl (Ka rfl (Ka rfl (Nt (Ce ?_)))))))
  exact R2 rfl rfl rfl (by rw [if_neg (by omega), if_neg (by omega)]; rfl)
def Big : Nat := 256 ^ 128
theorem dh {n : Nat} : (ae n).length ≤ 128 ↔ n < Big := bc
def addN (a b : Bs) : Bs × Int := if okN a ∧ okN b then (if val a + val b < Big then (ae (val a + val b), 0) else ([], 5)) else ([], 3)
def NE (r : Bs × Int) : Value := .tuple #[.string (S r.1), .int .i64 r.2]
theorem wW {a b : Bs} {w : World} :
  Cw 76 #[.string (S a), .string (S b)] w (NE (addN a b)) := by
 refine En [] [(0, .string (S a)), (1, .string (S b))] Tryz.func76 rfl Tryz.ntmps76 rfl (Ac rfl (Ac rfl (An _))) Fn ?_
 refine Cs (Ka rfl (Ka rfl (Nt (Cq (Cs (Km rfl ?_))))))
 refine Ku rfl (Oc rfl rfl (Kv fun w hS => av)) ?_
 refine Yt rfl (Km rfl ?_)
 refine Nb 13 rfl (fun hg13 => ?_) (fun hg13 => ?_)
 ·(try simp only [sB] at hg13)
  refine Kt rfl (Kt rfl (Kt rfl (Yp rfl (Nt ?_))))
  refine Cd rfl (fun _ => ?_) (fun h => by cases h)
  refine Cs (Ka rfl (Ka rfl (Nt (Ce (Xb ?_)))))
  exact R2 rfl rfl rfl (by rw [addN, if_neg (by simp_all)]; rfl)
 ·(try simp only [sB] at hg13)
  refine Km rfl ?_
  refine Ku rfl (Oc rfl rfl (Kv fun w hS => av)) ?_
  refine Yt rfl (Yq rfl (Nt ?_))
  refine Cd rfl (fun hc17 => ?_) (fun hc17 => ?_)
  ·(try simp only [sB] at hc17)
   refine Cs (Ka rfl (Ka rfl (Nt (Ce (Xb ?_)))))
   exact R2 rfl rfl rfl (by rw [addN, if_neg (by simp_all)]; rfl)
  ·(try simp only [sB] at hc17)
   have hab : okN a ∧ okN b := by simp_all
   have hal := hab.1.1; have hbl := hab.2.1
   refine Ck (Xa (Cs (Km rfl (Yn rfl u22 (Km rfl (Yn rfl u22 (Kq rfl (fZ rfl rfl rfl) (Ns 22 rfl (v' := .int .i64 ((max a.length b.length : Nat) : Int)) (congrArg (Value.int .i64) (by omega)) (Kq rfl (Rz rfl rfl rfl (by omega)) ?_)))))))))
   obtain ⟨N, hN⟩ : ∃ N : Nat, N = max a.length b.length + 1 := ⟨_, rfl⟩
   refine Ns 23 rfl (v' := .int .i64 (N : Int)) (by rw [hN]) ?_
   have hNl : N ≤ 129 := by omega
   have hS256 : val a + val b < 256 ^ N := by
    have h1 := aK a; have h2 := aK b
    have h3 : 256 ^ a.length ≤ 256 ^ (N - 1) := Nat.pow_le_pow_right (by decide) (by omega)
    have h4 : 256 ^ b.length ≤ 256 ^ (N - 1) := Nat.pow_le_pow_right (by decide) (by omega)
    have h5 : 256 ^ N = 256 ^ (N - 1) * 256 := by rw [← Nat.pow_succ]; congr 1; omega
    omega
   have hcl : (if 128 < (ae (val a + val b)).length then ([] : Bs) else ae (val a + val b)) = (addN a b).1 ∧ (if 128 < (ae (val a + val b)).length then (5 : Int) else 0) = (addN a b).2 := by
    rw [addN, if_pos hab]
    by_cases h : val a + val b < Big
    ·have hl := dh.2 h
     rw [if_neg (show ¬ 128 < (ae (val a + val b)).length by omega), if_neg (show ¬ 128 < (ae (val a + val b)).length by omega), if_pos h]; exact ⟨rfl, rfl⟩
    ·have hl : ¬ (ae (val a + val b)).length ≤ 128 := fun h' => h (dh.1 h')
     rw [if_pos (show 128 < (ae (val a + val b)).length by omega), if_pos (show 128 < (ae (val a + val b)).length by omega), if_neg h]; exact ⟨rfl, rfl⟩
   refine Ka rfl (Nt (Cs (Km rfl ?_)))
   refine Kh rfl (dN rfl rfl rfl aB (by kernel_rfl : _ = some (some (.int .u8 0), 1, 1)) rfl ?_ (by (try simp only [sN, Int.reduceToNat, Nat.reduceAdd, Nat.reduceMul, Nat.reduceSub]); rfl) (by (try simp only [sN, Int.reduceToNat, Nat.reduceAdd, Nat.reduceMul, Nat.reduceSub]); rfl)) ?_
   ·omega
   intro b25
   refine Ka rfl (Nt (Cs (Ka rfl ?_)))
   refine Ns 8 rfl (v' := .int .i64 ((bY (val a) (val b) 0 : Nat) : Int)) (congrArg (Value.int .i64) (by rw [i7]; rfl)) ?_
   refine Nt (Cq (Cs (Km rfl (Km rfl (Nt (Cb ?_))))))
   refine Lo (σ := Nat) [(0, _), (1, _), (6, _), (7, _), (26, _)] (fun gq => [(8, .int .i64 (bY (val a) (val b) gq : Int)), (27, .int .i64 (gq : Int))]) (fun gq => gq ≤ N) (fun gq => N - gq) (fun gq => [⟨some b25, eV N gq (val a + val b), 5⟩]) (fun gq => []) (0) (S5 rfl rfl rfl rfl rfl) (S2 rfl rfl) (by (try dsimp only); exact Nat.zero_le _) (by exact fun w h => by rw [cq]; exact h) ?_
   rintro k hinv1; (try dsimp only at hinv1 ⊢)
   obtain hk := hinv1
   refine Cs (Yl rfl (Nt (Cq ?_)))
   refine Cd rfl (fun hc28 => ?_) (fun hc28 => ?_)
   ·(try simp only [sB] at hc28)
    have hc1 := lA (val a) (val b) k
    have hd1 := Nat.mod_lt (val a / 256 ^ k) (show 0 < 256 by decide); have hd2 := Nat.mod_lt (val b / 256 ^ k) (show 0 < 256 by decide)
    refine Ck (Xa (Cq (Cb (Cs (Km rfl (Ka rfl (Nt (Cs (Km rfl (Km rfl (Km rfl ?_)))))))))))
    refine Ku rfl (Oc rfl rfl (Kv fun w hS => cL (a := a) (i := k) (by omega) (by omega))) ?_
    refine Km rfl (Km rfl ?_)
    refine Ku rfl (Oc rfl rfl (Kv fun w hS => cL (a := b) (i := k) (by omega) (by omega))) ?_
    refine Kq rfl (ax rfl rfl rfl (by omega)) (Kq rfl (ax rfl rfl rfl (by omega)) (Ka rfl (Nt (Cs (Km rfl (Km rfl (Kq rfl (ar rfl rfl rfl (by omega)) (Km rfl (Kq rfl (aP rfl rfl rfl (by omega)) (Ns 43 rfl (v' := .int .i64 ((N - 1 - k : Nat) : Int)) (congrArg (Value.int .i64) (by omega)) (Km rfl (Kq rfl (aQ rfl rfl u3 u5) ?_))))))))))))
    refine Ns 45 rfl (v' := B (UInt8.ofNat ((val a + val b) / 256 ^ k))) (by exact congrArg (Value.int .u8) (by rw [wx, kX, Nat.add_assoc])) ?_
    refine Kq rfl (Ja rfl rfl rfl aB (by kernel_rfl : _ = some 1) (by omega)) ?_
    refine Ng rfl rfl (st rfl rfl rfl .tc (by kernel_rfl) rfl ?_ (by rfl)) ?_
    ·rw [bO _ _ _ (by omega)]; omega
    intro _
    refine Nt (Cg (Km rfl ?_))
    refine Kq rfl (gF rfl rfl rfl ?_) ?_
    ·decide
    refine Ns 48 rfl (v' := .int .i64 ((bY (val a) (val b) (k + 1) : Nat) : Int)) (congrArg (Value.int .i64) (by rw [zx, i8, Nat.add_assoc])) ?_
    refine Ka rfl (Nn (Xd (Xa (Cg (Kq rfl (Rz rfl rfl rfl (by omega)) (Km rfl (Nn ?_)))))))
    refine Lx (k + 1) (by (try dsimp only); omega) (S5 rfl rfl rfl rfl rfl) (by refine (Sc ?_ (Sc ?_ (S0 _))) <;> (rfl)) ?_ (by exact fun w h => by rw [← bN N k _ (by omega)]; exact h)
    (try dsimp only)
    omega
   ·(try simp only [sB] at hc28)
    refine Cx (Xc (Xc (Xe ?_)))
    obtain rfl : k = N := by omega
    rw [bV]
    refine Xa (Cs (Km rfl ?_))
    refine Ku rfl (Oc rfl rfl (Kv fun w hS => dF (b := be k (val a + val b)) (by (exact hS.os)) (by rw [aN]) (by rw [aN]; exact Nat.le_refl _) (by rw [aN]; omega))) ?_
    refine Ns 51 rfl (v' := .string (S (ae (val a + val b)))) (congrArg (fun l => Value.string (S l)) (by rw [cW, Nat.mod_eq_of_lt hS256])) ?_
    refine Ku rfl (Oc rfl rfl (Kv fun w hS => ll)) ?_
    refine Ye rfl (Ye rfl (Ka rfl (Ka rfl (Nt (Ce ?_)))))
    exact R2 rfl rfl rfl (by simp only [tup, NE]; rw [← hcl.1, ← hcl.2])
theorem iR (a b i : Nat) : aY a b i ≤ 1 := by unfold aY; split <;> omega
theorem ef (a b i : Nat) : aY a b (i + 1) = if a / 256 ^ i % 256 < b / 256 ^ i % 256 + aY a b i then 1 else 0 := by
 have e1 : a % 256 ^ (i + 1) = a % 256 ^ i + 256 ^ i * (a / 256 ^ i % 256) := by rw [Nat.pow_succ, Nat.mod_mul]
 have e2 : b % 256 ^ (i + 1) = b % 256 ^ i + 256 ^ i * (b / 256 ^ i % 256) := by rw [Nat.pow_succ, Nat.mod_mul]
 have m1 := Nat.mod_lt a (iG i); have m2 := Nat.mod_lt b (iG i)
 unfold aY
 rw [e1, e2]
 generalize 256 ^ i = P at *
 generalize a / P % 256 = x at *
 generalize b / P % 256 = y at *
 rcases Nat.lt_trichotomy x y with q | q | q
 ·have h1 : P * (x + 1) ≤ P * y := Nat.mul_le_mul_left _ q
  rw [Nat.mul_add, Nat.mul_one] at h1
  rw [if_pos (by omega)]
  split <;> rw [if_pos (by omega)]
 ·subst q
  by_cases h : a % P < b % P
  ·rw [if_pos (by omega), if_pos h, if_pos (by omega)]
  ·rw [if_neg (by omega), if_neg h, if_neg (by omega)]
 ·have h1 : P * (y + 1) ≤ P * x := Nat.mul_le_mul_left _ q
  rw [Nat.mul_add, Nat.mul_one] at h1
  rw [if_neg (by omega)]
  split <;> rw [if_neg (by omega)]
theorem gR {a b : Nat} (h : b ≤ a) (i : Nat) (x : Int) (hx : x = (a / 256 ^ i % 256 : Nat) - (b / 256 ^ i % 256 : Nat) - (aY a b i : Nat) ∨ x = (a / 256 ^ i % 256 : Nat) - (b / 256 ^ i % 256 : Nat) - (aY a b i : Nat) + 256) :
  IntKind.u8.wrap x = ((UInt8.ofNat ((a - b) / 256 ^ i)).toNat : Int) := by
 obtain ⟨h1, h2⟩ := oO h i
 have h3 := iR a b i
 rw [IntKind.wrap_u8, UInt8.toNat_ofNat', h1]
 omega
theorem xV {a b : Bs} {w : World} (hle : val b ≤ val a) (ha : a.length ≤ 1000000) (hb : b.length ≤ 1000000) :
  Cw 190 #[.string (S a), .string (S b)] w (.string (S (ae (val a - val b)))) := by
 have hS256 : val a - val b < 256 ^ a.length := Nat.lt_of_le_of_lt (Nat.sub_le _ _) (aK a)
 refine En [] [(0, .string (S a)), (1, .string (S b))] Tryz.func190 rfl Tryz.ntmps190 rfl (Ac rfl (Ac rfl (An _))) Fn ?_
 refine Cs (Ka rfl (Nt (Cs (Km rfl (Yn rfl u22 (Ka rfl (Nt (Cs (Km rfl ?_)))))))))
 refine Kh rfl (dN rfl rfl rfl aB (by kernel_rfl : _ = some (some (.int .u8 0), 1, 1)) rfl ?_ (by (try simp only [sN, Int.reduceToNat, Nat.reduceAdd, Nat.reduceMul, Nat.reduceSub]); rfl) (by (try simp only [sN, Int.reduceToNat, Nat.reduceAdd, Nat.reduceMul, Nat.reduceSub]); rfl)) ?_
 ·omega
 intro b13
 refine Ka rfl (Nt (Cs (Ka rfl ?_)))
 refine Ns 7 rfl (v' := .int .i64 ((aY (val a) (val b) 0 : Nat) : Int)) (congrArg (Value.int .i64) (by rw [ir]; rfl)) ?_
 refine Nt (Cq (Cs (Km rfl (Km rfl (Nt (Cb ?_))))))
 refine Lo (σ := Nat) [(0, _), (1, _), (5, _), (6, _), (14, _)] (fun gq => [(7, .int .i64 (aY (val a) (val b) gq : Int)), (15, .int .i64 (gq : Int))]) (fun gq => gq ≤ a.length) (fun gq => a.length - gq) (fun gq => [⟨some b13, eV a.length gq (val a - val b), 5⟩]) (fun gq => []) (0) (S5 rfl rfl rfl rfl rfl) (S2 rfl rfl) (by (try dsimp only); exact Nat.zero_le _) (by exact fun w h => by rw [cq]; exact h) ?_
 rintro k hinv1; (try dsimp only at hinv1 ⊢)
 obtain hk := hinv1
 refine Cs (Yl rfl (Nt (Cq ?_)))
 refine Cd rfl (fun hc16 => ?_) (fun hc16 => ?_)
 ·(try simp only [sB] at hc16)
  have hc1 := iR (val a) (val b) k
  have hd1 := Nat.mod_lt (val a / 256 ^ k) (show 0 < 256 by decide); have hd2 := Nat.mod_lt (val b / 256 ^ k) (show 0 < 256 by decide)
  refine Ck (Xa (Cq (Cb (Cs (Km rfl (Ka rfl (Nt (Cs (Km rfl (Km rfl ?_))))))))))
  refine Ku rfl (Oc rfl rfl (Kv fun w hS => cL (a := a) (i := k) (by omega) (by omega))) ?_
  refine Km rfl (Km rfl ?_)
  refine Ku rfl (Oc rfl rfl (Kv fun w hS => cL (a := b) (i := k) (by omega) (by omega))) ?_
  refine Kq rfl (aD rfl rfl rfl (by omega)) (Ns 24 rfl (v' := .int .i64 ((((val a / 256 ^ k % 256 : Nat) : Int) - ((val b / 256 ^ k % 256 : Nat) : Int)))) (congrArg (Value.int .i64) (by omega)) (Km rfl (Kq rfl (aD rfl rfl rfl (by omega)) (Ka rfl (Nt (Cs (Ka rfl (Nt (Cq (Cs (Km rfl (Yl rfl (Nt ?_)))))))))))))
  refine Cd rfl (fun hc28 => ?_) (fun hc28 => ?_)
  ·(try simp only [sB] at hc28)
   refine Cs (Km rfl (Kq rfl (bi rfl rfl rfl (by omega)) (Ka rfl (Nt (Cg (Ka rfl (Nt (Cg ?_))))))))
   refine Ns 7 rfl (v' := .int .i64 (aY (val a) (val b) (k + 1) : Int)) (congrArg (Value.int .i64) (by rw [ef]; (rw [if_pos (by omega)]; rfl))) ?_
   refine Km rfl (Km rfl (Kq rfl (ar rfl rfl rfl (by omega)) (Km rfl (Kq rfl (aP rfl rfl rfl (by omega)) (Ns 35 rfl (v' := .int .i64 ((a.length - 1 - k : Nat) : Int)) (congrArg (Value.int .i64) (by omega)) (Km rfl (Kq rfl (aQ rfl rfl u3 u5) ?_)))))))
   refine Ns 37 rfl (v' := B (UInt8.ofNat ((val a - val b) / 256 ^ k))) (by exact congrArg (Value.int .u8) (gR hle k _ (by omega))) ?_
   refine Kq rfl (Ja rfl rfl rfl aB (by kernel_rfl : _ = some 1) (by omega)) ?_
   refine Ng rfl rfl (st rfl rfl rfl .tc (by kernel_rfl) rfl ?_ (by rfl)) ?_
   ·rw [bO _ _ _ (by omega)]; omega
   intro _
   refine Nn (Xd (Xa (Cg (Kq rfl (Rz rfl rfl rfl (by omega)) (Km rfl (Nn ?_))))))
   refine Lx (k + 1) (by (try dsimp only); omega) (S5 rfl rfl rfl rfl rfl) (by refine (Sc ?_ (Sc ?_ (S0 _))) <;> (rfl)) ?_ (by exact fun w h => by rw [← bN a.length k _ (by omega)]; exact h)
   (try dsimp only)
   omega
  ·(try simp only [sB] at hc28)
   refine Ck (Xa (Cg ?_))
   refine Ns 7 rfl (v' := .int .i64 (aY (val a) (val b) (k + 1) : Int)) (congrArg (Value.int .i64) (by rw [ef]; (rw [if_neg (by omega)]; rfl))) ?_
   refine Km rfl (Km rfl (Kq rfl (ar rfl rfl rfl (by omega)) (Km rfl (Kq rfl (aP rfl rfl rfl (by omega)) (Ns 35 rfl (v' := .int .i64 ((a.length - 1 - k : Nat) : Int)) (congrArg (Value.int .i64) (by omega)) (Km rfl (Kq rfl (aQ rfl rfl u3 u5) ?_)))))))
   refine Ns 37 rfl (v' := B (UInt8.ofNat ((val a - val b) / 256 ^ k))) (by exact congrArg (Value.int .u8) (gR hle k _ (by omega))) ?_
   refine Kq rfl (Ja rfl rfl rfl aB (by kernel_rfl : _ = some 1) (by omega)) ?_
   refine Ng rfl rfl (st rfl rfl rfl .tc (by kernel_rfl) rfl ?_ (by rfl)) ?_
   ·rw [bO _ _ _ (by omega)]; omega
   intro _
   refine Nn (Xd (Xa (Cg (Kq rfl (Rz rfl rfl rfl (by omega)) (Km rfl (Nn ?_))))))
   refine Lx (k + 1) (by (try dsimp only); omega) (S5 rfl rfl rfl rfl rfl) (by refine (Sc ?_ (Sc ?_ (S0 _))) <;> (rfl)) ?_ (by exact fun w h => by rw [← bN a.length k _ (by omega)]; exact h)
   (try dsimp only)
   omega
 ·(try simp only [sB] at hc16)
  refine Cx (Xc (Xc (Xe ?_)))
  obtain rfl : k = a.length := by omega
  rw [bV]
  refine Xa (Cs (Km rfl ?_))
  refine Ku rfl (Oc rfl rfl (Kv fun w hS => dF (b := be a.length (val a - val b)) (by (exact hS.os)) (by rw [aN]) (by rw [aN]; exact Nat.le_refl _) (by rw [aN]; omega))) ?_
  refine Ka rfl (Nt (Ce ?_))
  exact Rn rfl (.tmp rfl .nil) fun w' hS => ⟨by rw [cW, Nat.mod_eq_of_lt hS256]; rfl, hS.below⟩
def eQ (a b : Bs) : Bs × Int := if okN a ∧ okN b then (if val a < val b then ([], 2) else (ae (val a - val b), 0)) else ([], 3)
theorem aw (a b : Nat) : cP a b < 0 ↔ a < b := by
 unfold cP
 constructor
 ·intro h; split at h <;> (try split at h) <;> omega
 ·intro h; rw [if_pos (by omega)]; decide
theorem o0 {a b : Bs} {w : World} :
  Cw 144 #[.string (S a), .string (S b)] w (NE (eQ a b)) := by
 refine En [] [(0, .string (S a)), (1, .string (S b))] Tryz.func144 rfl Tryz.ntmps144 rfl (Ac rfl (Ac rfl (An _))) Fn ?_
 refine Cs (Ka rfl (Ka rfl (Nt (Cq (Cs (Km rfl ?_))))))
 refine Ku rfl (Oc rfl rfl (Kv fun w hS => av)) ?_
 refine Yt rfl (Km rfl ?_)
 refine Nb 9 rfl (fun hg9 => ?_) (fun hg9 => ?_)
 ·(try simp only [sB] at hg9)
  refine Kt rfl (Kt rfl (Kt rfl (Yp rfl (Nt ?_))))
  refine Cd rfl (fun _ => ?_) (fun h => by cases h)
  refine Cs (Ka rfl (Ka rfl (Nt (Ce (Xb ?_)))))
  exact R2 rfl rfl rfl (by rw [eQ, if_neg (by simp_all)]; rfl)
 ·(try simp only [sB] at hg9)
  refine Km rfl ?_
  refine Ku rfl (Oc rfl rfl (Kv fun w hS => av)) ?_
  refine Yt rfl (Yq rfl (Nt ?_))
  refine Cd rfl (fun hc13 => ?_) (fun hc13 => ?_)
  ·(try simp only [sB] at hc13)
   refine Cs (Ka rfl (Ka rfl (Nt (Ce (Xb ?_)))))
   exact R2 rfl rfl rfl (by rw [eQ, if_neg (by simp_all)]; rfl)
  ·(try simp only [sB] at hc13)
   have hab : okN a ∧ okN b := by simp_all
   have hal := hab.1.1; have hbl := hab.2.1
   refine Ck (Xa (Cq (Cs (Km rfl (Km rfl ?_)))))
   refine Ku rfl (Oc rfl rfl (Kv fun w hS => iN (a := a) (b := b) (by exact hab.1.2) (by exact hab.2.2))) ?_
   refine Yl rfl (Nt ?_)
   refine Cd rfl (fun hc17 => ?_) (fun hc17 => ?_)
   ·(try simp only [sB] at hc17)
    rw [aw] at hc17
    refine Cs (Ka rfl (Ka rfl (Nt (Ce (Xb ?_)))))
    exact R2 rfl rfl rfl (by rw [eQ, if_pos hab, if_pos hc17]; rfl)
   ·(try simp only [sB] at hc17)
    have hle : val b ≤ val a := Nat.not_lt.1 fun h => by have := (aw _ _).2 h; omega
    refine Ck (Xa (Cs (Km rfl (Km rfl ?_))))
    refine Ku rfl (Oc rfl rfl (Kv fun w hS => xV (a := a) (b := b) (by assumption) (by omega) (by omega))) ?_
    refine Ka rfl (Ka rfl (Nt (Ce ?_)))
    exact R2 rfl rfl rfl (by rw [eQ, if_pos hab, if_neg (by omega)]; rfl)
def aC (a : Bs) : Nat := if a = [] then 0 else 8 * (a.length - 1) + Lib.bitLen (a.getD 0 default).toNat
theorem iu : ∀ f x, Lib.bitLenAux f x ≤ f
 | 0, x => by simp [Lib.bitLenAux]
 | f + 1, x => by unfold Lib.bitLenAux; split; omega; have := iu f (x / 2); omega
theorem eK (x : Nat) : Lib.bitLen x ≤ 64 := iu 64 x
theorem mN {a : Bs} {w : World} :
  Cw 90 #[.string (S a)] w (.int .i64 ((if okN a then aC a else 0 : Nat) : Int)) := by
 refine En [] [(0, .string (S a))] Tryz.func90 rfl Tryz.ntmps90 rfl (Ac rfl (An _)) Fn ?_
 refine Cs (Ka rfl (Nt (Cq (Cs (Km rfl ?_)))))
 refine Ku rfl (Oc rfl rfl (Kv fun w hS => av)) ?_
 refine Yt rfl (Km rfl ?_)
 refine Nb 6 rfl (fun hg6 => ?_) (fun hg6 => ?_)
 ·(try simp only [sB] at hg6)
  refine Kt rfl (Kt rfl (Yp rfl (Nt ?_)))
  refine Cd rfl (fun _ => ?_) (fun h => by cases h)
  refine Cs (Ka rfl (Nt (Ce (Xb ?_))))
  exact R1 rfl rfl (by (rw [if_neg hg6]; rfl))
 ·(try simp only [sB] at hg6)
  refine Km rfl (Ys rfl (Yq rfl (Nt ?_)))
  refine Cd rfl (fun hc9 => ?_) (fun hc9 => ?_)
  ·(try simp only [sB] at hc9)
   refine Cs (Ka rfl (Nt (Ce (Xb ?_))))
   exact R1 rfl rfl (by (rw [hc9]; simp [aC, tup]))
  ·(try simp only [sB] at hc9)
   have hok : okN a := by simp_all
   have hne : a ≠ [] := by simp_all
   have hl0 : 0 < a.length := List.length_pos_iff.2 hne
   have hal := hok.1
   have hbl := eK (a.getD 0 default).toNat
   refine Ck (Xa (Cs (Km rfl (Yn rfl u22 (Kq rfl (ar rfl rfl rfl (by omega)) (Kq rfl (dd rfl rfl rfl (by omega)) (Km rfl ?_)))))))
   refine Kq rfl (bA rfl rfl rfl u22 ?_) ?_
   ·omega
   refine Ku rfl (Oc rfl rfl (Kv fun w hS => s7 (x := (a.getD 0 default).toNat) (by exact (a.getD 0 default).toNat_lt))) ?_
   refine Kq rfl (ax rfl rfl rfl (by omega)) (Ka rfl (Nt (Ce ?_)))
   exact R1 rfl rfl (by rw [if_pos hok, aC, if_neg hne]; rfl)
theorem yu (a : Bs) : okN a ↔ a.length ≤ 128 ∧ (a = [] ∨ (a.getD 0 default).toNat ≠ 0) := by
 rw [okN, iq]; cases a <;> simp
theorem aA {a : Bs} {w : World} :
  Cw 49 #[.string (S a)] w (.bool (decide (okN a))) := by
 have hci := yu a
 refine En [] [(0, .string (S a))] Tryz.func49 rfl Tryz.ntmps49 rfl (Ac rfl (An _)) Fn ?_
 refine Cs (Ka rfl (Nt (Cs (Km rfl (Yn rfl u22 (Ym rfl (Km rfl ?_)))))))
 refine Nb 6 rfl (fun hg6 => ?_) (fun hg6 => ?_)
 ·(try simp only [sB] at hg6)
  refine Km rfl (Ys rfl (Km rfl ?_))
  refine Nb 9 rfl (fun hg9 => ?_) (fun hg9 => ?_)
  ·(try simp only [sB] at hg9)
   refine Kt rfl (Kt rfl (Kt rfl (Yp rfl (Yp rfl (Ka rfl (Nt (Ce ?_)))))))
   exact Rn rfl (.tmp rfl .nil) fun w' hS => ⟨congrArg (fun b => Ending.returned (.bool b)) (by
    first
     | (symm; rw [decide_eq_true_eq, hci]; exact ⟨by omega, .inl (by simp_all)⟩)
     | (symm; rw [decide_eq_false_iff_not, hci]; rintro ⟨h, _⟩; omega)
     | (show (!decide ((((a.getD 0 default).toNat : Nat) : Int) = 0)) = _
        rw [Bool.eq_iff_iff]; simp only [Bool.not_eq_true', decide_eq_false_iff_not, decide_eq_true_eq, hci]
        exact ⟨fun h => ⟨by omega, .inr (by omega)⟩, fun h => by have := h.2.resolve_left (by simp_all); omega⟩)), hS.below⟩
  ·(try simp only [sB] at hg9)
   refine Km rfl ?_
   refine Kq rfl (bA rfl rfl rfl u22 ?_) ?_
   ·(exact ⟨by decide, List.length_pos_iff.2 (by simp_all)⟩)
   refine Yj rfl (Yq rfl (Yp rfl (Ka rfl (Nt (Ce ?_)))))
   exact Rn rfl (.tmp rfl .nil) fun w' hS => ⟨congrArg (fun b => Ending.returned (.bool b)) (by
    first
     | (symm; rw [decide_eq_true_eq, hci]; exact ⟨by omega, .inl (by simp_all)⟩)
     | (symm; rw [decide_eq_false_iff_not, hci]; rintro ⟨h, _⟩; omega)
     | (show (!decide ((((a.getD 0 default).toNat : Nat) : Int) = 0)) = _
        rw [Bool.eq_iff_iff]; simp only [Bool.not_eq_true', decide_eq_false_iff_not, decide_eq_true_eq, hci]
        exact ⟨fun h => ⟨by omega, .inr (by omega)⟩, fun h => by have := h.2.resolve_left (by simp_all); omega⟩)), hS.below⟩
 ·(try simp only [sB] at hg6)
  refine Kt rfl (Kt rfl (Kt rfl (Kt rfl (Kt rfl (Kt rfl (Kt rfl (Yq rfl (Ka rfl (Nt (Ce ?_))))))))))
  exact Rn rfl (.tmp rfl .nil) fun w' hS => ⟨congrArg (fun b => Ending.returned (.bool b)) (by
   first
    | (symm; rw [decide_eq_true_eq, hci]; exact ⟨by omega, .inl (by simp_all)⟩)
    | (symm; rw [decide_eq_false_iff_not, hci]; rintro ⟨h, _⟩; omega)
    | (show (!decide ((((a.getD 0 default).toNat : Nat) : Int) = 0)) = _
       rw [Bool.eq_iff_iff]; simp only [Bool.not_eq_true', decide_eq_false_iff_not, decide_eq_true_eq, hci]
       exact ⟨fun h => ⟨by omega, .inr (by omega)⟩, fun h => by have := h.2.resolve_left (by simp_all); omega⟩)), hS.below⟩
theorem j9 {a : Bs} {i : Nat} {w : World} (ha : a.length ≤ 1000000000) (hi : i ≤ 1000000000) :
  Cw 121 #[.string (S a), .int .i64 (i : Int)] w (.int .i64 ((val a / 256 ^ i % 256 : Nat) : Int)) := by
 refine En [] [(0, .string (S a)), (1, .int .i64 (i : Int))] Tryz.func121 rfl Tryz.ntmps121 rfl (Ac rfl (Ac rfl (An _))) Fn ?_
 refine Cs (Ka rfl (Nt (Cq (Cs (Km rfl (Km rfl (Yn rfl u22 (Yh rfl (Nt ?_)))))))))
 refine Cd rfl (fun hc8 => ?_) (fun hc8 => ?_)
 ·(try simp only [sB] at hc8)
  refine Cs (Ka rfl (Nt (Ce (Xb ?_))))
  exact R1 rfl rfl (by rw [jH a i (by omega)]; rfl)
 ·(try simp only [sB] at hc8)
  refine Ck (Xa (Cs (Km rfl (Km rfl (Yn rfl u22 (Kq rfl (ar rfl rfl rfl (by omega)) (Km rfl (Kq rfl (aP rfl rfl rfl (by omega)) ?_))))))))
  refine Kq rfl (bA rfl rfl rfl u22 ?_) ?_
  ·omega
  refine Kq rfl (j4 rfl rfl u5 u3 ?_) ?_
  ·(exact jD _)
  refine Ka rfl (Nt (Ce ?_))
  exact R1 rfl rfl (by rw [kU a i (by omega)]; simp only [tup]; congr 3)
theorem gA : ∀ (b : Bs) (i : Nat), (∀ j, j < i → (b.getD j default).toNat = 0) → i ≤ b.length → cb b = cb (b.drop i)
 | b, 0, _, _ => by simp
 | [], i + 1, _, h => by simp at h
 | c :: s, i + 1, h, hl => by
  have h0 := h 0 (by omega)
  have : c = 0 := UInt8.toNat_inj.1 h0
  subst this
  rw [List.drop_succ_cons, ← gA s i (fun j hj => h (j + 1) (by omega)) (by simpa using hl)]
  simp [cb]
theorem uW {b : Bs} {ad : Option Addr} {cap : Nat} {w : World} {ok : Nat → Prop} (hF1 : (Fact.sl ad (b.map B)).holds ok w) (hcap : b.length ≤ cap) (hb : b.length ≤ 1000000000) :
  Cw 75 #[.slice ad b.length cap] w (.string (S (ae (val b)))) := by
 refine En [Fact.sl ad (b.map B)] [(0, .slice ad b.length cap)] Tryz.func75 rfl Tryz.ntmps75 rfl (Ac rfl (An _)) (Fc (ah hF1) Fn) ?_
 refine Cs (Ka rfl (Nt (Cs (Ka rfl (Nt (Cq (Cb ?_)))))))
 refine Lp (σ := Nat) [(0, _)] (fun gq => [(3, .int .i64 (gq : Int))]) (fun gq => gq ≤ b.length ∧ ∀ j, j < gq → (b.getD j default).toNat = 0) (fun gq => b.length - gq) (0) (S1 rfl) (S1 rfl) (by (try dsimp only); exact ⟨Nat.zero_le _, fun j h => by omega⟩) ?_
 rintro i hinv1; (try dsimp only at hinv1 ⊢)
 obtain ⟨hi, hz⟩ := hinv1
 refine Cq (Cs (Km rfl (Km rfl (Yo rfl aB (Yl rfl (Km rfl ?_))))))
 refine Nb 8 rfl (fun hg8 => ?_) (fun hg8 => ?_)
 ·(try simp only [sB] at hg8)
  refine Km rfl (Km rfl ?_)
  refine Kq rfl (Ib rfl rfl rfl aB (by omega) (by (rw [List.length_map]; omega))) ?_
  refine Kq rfl (ldm rfl rfl u5 rfl (by omega)) ?_
  refine Yi rfl (Yp rfl (Nt ?_))
  refine Cd rfl (fun hc14 => ?_) (fun hc14 => ?_)
  ·(try simp only [sB] at hc14)
   have hzi : (b.getD i default).toNat = 0 := by (simp at hc14; exact hc14)
   refine Ck (Xa (Cb (Cg (Km rfl (Kq rfl (Rz rfl rfl rfl (by omega)) (Ka rfl (Nn (Xd ?_))))))))
   refine Ly (i + 1) (by (try dsimp only); omega) (S1 rfl) (by refine (Sc ?_ (S0 _)) <;> (rfl)) ?_ (by (exact fun _ h => h))
   (try dsimp only)
   exact ⟨by omega, fun j hj => by rcases Nat.lt_succ_iff_lt_or_eq.1 hj with h | rfl; exact hz j h; exact hzi⟩
  ·(try simp only [sB] at hc14)
   refine Cx (Xc (Xc (Xe (Xa (Cs (Km rfl (Km rfl ?_)))))))
   refine Kq rfl (vf rfl rfl rfl aB (by kernel_rfl : _ = some 1) (by omega) (by (try simp only [sN, Int.reduceToNat, Nat.reduceAdd, Nat.reduceMul, Nat.reduceSub]); rfl) (by (try simp only [sN, Int.reduceToNat, Nat.reduceAdd, Nat.reduceMul, Nat.reduceSub]); rfl) (by (try simp only [sN, Int.reduceToNat, Nat.reduceAdd, Nat.reduceMul, Nat.reduceSub]); rfl)) ?_
   refine WL.st (fun w h => (h.add (f := Fact.sl (sh ad i) ((b.drop i).map B)) (jP i (h.fact (Fact.sl ad (b.map B)) (by simp))))) ?_
   refine WL.st (fun w h => (h.add (f := Fact.sl (cut ad i cap 1) ((b.drop i).map B)) (jn i hcap (h.fact (Fact.sl ad (b.map B)) (by simp))))) ?_
   refine Kq rfl (rp rfl rfl .tc aB u5 u22 ?_) ?_
   ·simp
   refine Ka rfl (Nt (Ce ?_))
   exact R1 rfl rfl (by rw [show ae (val b) = b.drop i from by rw [← cX, gA b i hz hi, cY (by rw [List.length_drop]; (exact .inr (by rw [show (b.drop i).getD 0 default = b.getD i default from by simp [List.getD]]; omega)))]]; rfl)
 ·(try simp only [sB] at hg8)
  refine Kt rfl (Kt rfl (Kt rfl (Kt rfl (Kt rfl (Yq rfl (Nt ?_))))))
  refine Cd rfl (fun h => by cases h) (fun _ => ?_)
  refine Cx (Xc (Xc (Xe (Xa (Cs (Km rfl (Km rfl ?_)))))))
  refine Kq rfl (jX rfl rfl rfl aB (by kernel_rfl : _ = some 1) (by omega) (by (try simp only [sN, Int.reduceToNat, Nat.reduceAdd, Nat.reduceMul, Nat.reduceSub]); rfl) (by (try simp only [sN, Int.reduceToNat, Nat.reduceAdd, Nat.reduceMul, Nat.reduceSub]); rfl) (by (try simp only [sN, Int.reduceToNat, Nat.reduceAdd, Nat.reduceMul, Nat.reduceSub]); rfl)) ?_
  refine WL.st (fun w h => (h.add (f := Fact.sl (sh ad i) ((b.drop i).map B)) (jP i (h.fact (Fact.sl ad (b.map B)) (by simp))))) ?_
  refine WL.st (fun w h => (h.add (f := Fact.sl (cut ad i cap 1) ((b.drop i).map B)) (jn i hcap (h.fact (Fact.sl ad (b.map B)) (by simp))))) ?_
  refine Kq rfl (rp rfl rfl .tc aB u5 u22 ?_) ?_
  ·simp
  refine Ka rfl (Nt (Ce ?_))
  exact R1 rfl rfl (by rw [show ae (val b) = b.drop i from by rw [← cX, gA b i hz hi, cY (by rw [List.length_drop]; (exact .inl (by omega)))]]; rfl)
theorem gT {b : Bs} {ad : Option Addr} {m cap : Nat} {w : World} {ok : Nat → Prop} (hF1 : (Fact.sl ad (b.map B)).holds ok w) (hm : m = b.length) (hcap : b.length ≤ cap) (hb : b.length ≤ 1000000000) :
  Cw 75 #[.slice ad m cap] w (.string (S (ae (val b)))) :=
 by subst hm; exact uW hF1 hcap hb
theorem lC (x : Nat) : IntKind.u8.wrap ((x % 256 : Nat) : Int) = ((UInt8.ofNat x).toNat : Int) := by
 rw [IntKind.wrap_u8, UInt8.toNat_ofNat']; omega
theorem fw {n : Nat} {w : World} (hn : n < 18446744073709551616) :
  Cw 27 #[.int .u64 (n : Int)] w (.string (S (ae n))) := by
 refine En [] [(0, .int .u64 (n : Int))] Tryz.func27 rfl Tryz.ntmps27 rfl (Ac rfl (An _)) Fn ?_
 refine Cs (Ka rfl (Nt (Cs ?_)))
 refine Kh rfl (dN rfl rfl rfl aB (by kernel_rfl : _ = some (some (.int .u8 0), 1, 1)) rfl ?_ (by (try simp only [sN, Int.reduceToNat, Nat.reduceAdd, Nat.reduceMul, Nat.reduceSub]); rfl) (by (try simp only [sN, Int.reduceToNat, Nat.reduceAdd, Nat.reduceMul, Nat.reduceSub]); rfl)) ?_
 ·omega
 intro b5
 refine Ka rfl (Nt (Cq (Cs (Ka rfl ?_))))
 refine Ns 0 rfl (v' := .int .u64 ((n / 256 ^ 0 : Nat) : Int)) (by simp) ?_
 refine Ns 4 rfl (v' := .int .i64 (7 - ((0 : Nat) : Int))) (by simp) ?_
 refine Nt (Cb ?_)
 refine Lo (σ := Nat) [(3, _)] (fun gq => [(0, .int .u64 ((n / 256 ^ gq : Nat) : Int)), (4, .int .i64 (7 - (gq : Int)))]) (fun gq => gq ≤ 8) (fun gq => 8 - gq) (fun gq => [⟨some b5, eV 8 gq n, 5⟩]) (fun gq => []) (0) (S1 rfl) (S2 rfl rfl) (by (try dsimp only); exact Nat.zero_le _) (by exact fun w h => by rw [cq]; exact h) ?_
 rintro k hinv1; (try dsimp only at hinv1 ⊢)
 obtain hk := hinv1
 refine Cq (Cs (Km rfl (Yh rfl (Nt ?_))))
 refine Cd rfl (fun hc7 => ?_) (fun hc7 => ?_)
 ·(try simp only [sB] at hc7)
  have hdv : n / 256 ^ k ≤ n := Nat.div_le_self _ _
  refine Ck (Xa (Cq (Cb (Cs (Km rfl (Km rfl (Ns 11 rfl (v' := .int .i64 (((7 - k : Nat) : Int))) (congrArg (Value.int .i64) (by omega)) (Km rfl (Kq rfl (vm rfl rfl rfl (by decide)) (Kq rfl (aQ rfl rfl u76 u5) ?_))))))))))
  refine Ns 14 rfl (v' := B (UInt8.ofNat (n / 256 ^ k))) (by exact congrArg (Value.int .u8) (lC _)) ?_
  refine Kq rfl (Ja rfl rfl rfl aB (by kernel_rfl : _ = some 1) (by omega)) ?_
  refine Ng rfl rfl (st rfl rfl rfl .tc (by kernel_rfl) rfl ?_ (by rfl)) ?_
  ·rw [bO _ _ _ (by omega)]; omega
  intro _
  refine Nt (Cg (Km rfl ?_))
  refine Kq rfl (vn rfl rfl rfl (by decide) ?_) ?_
  ·(generalize n / 256 ^ k = z at *; exact IntWalk.u64_in _ ⟨by omega, by omega⟩)
  refine Ns 17 rfl (v' := .int .u64 ((n / 256 ^ (k + 1) : Nat) : Int)) (congrArg (Value.int .u64) (by rw [Nat.pow_succ, ← Nat.div_div_eq_div_mul])) ?_
  refine Ka rfl (Nn (Xd (Xa (Cg (Km rfl (Kq rfl (aD rfl rfl rfl (by omega)) (Ns 9 rfl (v' := .int .i64 (7 - ((k + 1 : Nat) : Int))) (congrArg (Value.int .i64) (by omega)) (Ka rfl (Nn ?_)))))))))
  refine Lx (k + 1) (by (try dsimp only); omega) (S1 rfl) (by refine (Sc ?_ (Sc ?_ (S0 _))) <;> (rfl)) ?_ (by exact fun w h => by rw [← bN 8 k n (by omega)]; exact h)
  (try dsimp only)
  omega
 ·(try simp only [sB] at hc7)
  refine Cx (Xc (Xc (Xe ?_)))
  obtain rfl : k = 8 := by omega
  rw [bV]
  refine Xa (Cs (Km rfl ?_))
  refine Ku rfl (Oc rfl rfl (Kv fun w hS => gT (b := be 8 n) (by (exact hS.os)) (by rw [aN]) (by rw [aN]; decide) (by rw [aN]; decide))) ?_
  refine Ka rfl (Nt (Ce ?_))
  exact R1 rfl rfl (by rw [cW, Nat.mod_eq_of_lt (by omega)]; rfl)
theorem qP {a b : Bs} (h : a.length = b.length) {i : Nat} (hi : i < a.length) (hp : a.take i = b.take i) (hne : (a.getD i default).toNat ≠ (b.getD i default).toNat) : cP (val a) (val b) = if (a.getD i default).toNat < (b.getD i default).toNat then -1 else 1 := by
 have ea : a = a.take i ++ (a.getD i default :: a.drop (i + 1)) := by
  conv => lhs; rw [← List.take_append_drop i a, List.drop_eq_getElem_cons hi]
  rw [List.getD_eq_getElem?_getD, List.getElem?_eq_getElem hi]; rfl
 have eb : b = b.take i ++ (b.getD i default :: b.drop (i + 1)) := by
  conv => lhs; rw [← List.take_append_drop i b, List.drop_eq_getElem_cons (by omega : i < b.length)]
  rw [List.getD_eq_getElem?_getD, List.getElem?_eq_getElem (by omega : i < b.length)]; rfl
 have la := aK (a.drop (i + 1)); have lb := aK (b.drop (i + 1))
 have hl : (a.drop (i + 1)).length = (b.drop (i + 1)).length := by simp [h]
 have va : val a = val (a.take i) * 256 ^ ((b.drop (i + 1)).length + 1) + ((a.getD i default).toNat * 256 ^ (b.drop (i + 1)).length + val (a.drop (i + 1))) := by
  conv => lhs; rw [ea]
  rw [eN, val, List.length_cons, hl]
 have vb : val b = val (a.take i) * 256 ^ ((b.drop (i + 1)).length + 1) + ((b.getD i default).toNat * 256 ^ (b.drop (i + 1)).length + val (b.drop (i + 1))) := by
  conv => lhs; rw [eb]
  rw [eN, val, List.length_cons, hp]
 rw [hl] at la
 rw [va, vb]
 generalize (a.getD i default).toNat = x at *
 generalize (b.getD i default).toNat = y at *
 generalize 256 ^ (b.drop (i + 1)).length = P at *
 generalize val (a.take i) * 256 ^ ((b.drop (i + 1)).length + 1) = Q at *
 unfold cP
 rcases Nat.lt_or_gt_of_ne hne with q | q
 ·have h1 : (x + 1) * P ≤ y * P := Nat.mul_le_mul_right _ q
  rw [Nat.add_mul, Nat.one_mul] at h1
  rw [if_pos (by omega), if_pos q]
 ·have h1 : (y + 1) * P ≤ x * P := Nat.mul_le_mul_right _ q
  rw [Nat.add_mul, Nat.one_mul] at h1
  rw [if_neg (by omega), if_pos (by omega), if_neg (by omega)]
theorem nV {l m : Bs} {k : Nat} (h1 : k < l.length) (h2 : k < m.length) (h : l.take k = m.take k) (h3 : (l.getD k default).toNat = (m.getD k default).toNat) : l.take (k + 1) = m.take (k + 1) := by
 have h4 := UInt8.toNat_inj.1 h3
 rw [List.getD_eq_getElem?_getD, List.getD_eq_getElem?_getD, List.getElem?_eq_getElem h1, List.getElem?_eq_getElem h2] at h4
 rw [List.take_add_one, List.take_add_one, h, List.getElem?_eq_getElem h1, List.getElem?_eq_getElem h2]
 rw [Option.toList, Option.toList]; simp only [Option.getD] at h4; rw [h4]
theorem jq {a b : Bs} {w : World} (ha : Can a) (hb : Can b) (hal : a.length ≤ 1000000) :
  Cw 63 #[.string (S a), .string (S b)] w (.int .i64 (cP (val a) (val b))) := by
 refine En [] [(0, .string (S a)), (1, .string (S b))] Tryz.func63 rfl Tryz.ntmps63 rfl (Ac rfl (Ac rfl (An _))) Fn ?_
 refine Cs (Ka rfl (Nt (Cq (Cs (Km rfl (Yn rfl u22 (Km rfl (Yn rfl u22 (Yj rfl (Nt ?_))))))))))
 refine Cd rfl (fun hc10 => ?_) (fun hc10 => ?_)
 ·(try simp only [sB] at hc10)
  have hne : a.length ≠ b.length := by omega
  have hcl := p8 ha hb hne
  refine Cq (Cs (Km rfl (Yn rfl u22 (Km rfl (Yn rfl u22 (Yl rfl (Nt ?_)))))))
  refine Cd rfl (fun hc15 => ?_) (fun hc15 => ?_)
  ·(try simp only [sB] at hc15)
   refine Cs (Ka rfl (Nt (Ce (Xb (Xb ?_)))))
   exact R1 rfl rfl (by rw [← hcl, cP, if_pos (by omega)]; rfl)
  ·(try simp only [sB] at hc15)
   refine Ck (Xa (Cs (Ka rfl (Nt (Ce (Xb ?_))))))
   exact R1 rfl rfl (by rw [← hcl, cP, if_neg (by omega), if_pos (by omega)]; rfl)
 ·(try simp only [sB] at hc10)
  have heq : a.length = b.length := by omega
  refine Ck (Xa (Cq (Cs (Ka rfl (Nt (Cb ?_))))))
  refine Lp (σ := Nat) [(0, _), (1, _)] (fun gq => [(5, .int .i64 (gq : Int))]) (fun gq => gq ≤ a.length ∧ a.take gq = b.take gq) (fun gq => a.length - gq) (0) (S2 rfl rfl) (S1 rfl) (by (try dsimp only); exact ⟨Nat.zero_le _, by simp⟩) ?_
  rintro i hinv1; (try dsimp only at hinv1 ⊢)
  obtain ⟨hi, ht⟩ := hinv1
  refine Cq (Cs (Km rfl (Km rfl (Yn rfl u22 (Yl rfl (Nt ?_))))))
  refine Cd rfl (fun hc19 => ?_) (fun hc19 => ?_)
  ·(try simp only [sB] at hc19)
   refine Ck (Xa (Cq (Cb (Cq ?_))))
   refine Cf [0, 1, 2, 3, 4, 5, 6] [] [0, 0, 0, 0, 0, 0, 0] (by kernel_rfl) (by kernel_rfl) rfl ?_
   refine Kj rfl (Rm rfl rfl) (Kj rfl (Rm rfl rfl) ?_)
   refine Kj rfl (bA rfl rfl rfl u22 ?_) ?_
   ·omega
   refine Kj rfl (Rm rfl rfl) (Kj rfl (Rm rfl rfl) ?_)
   refine Kj rfl (bA rfl rfl rfl u22 ?_) ?_
   ·omega
   refine Kj rfl (l0 rfl rfl rfl) ?_
   refine WJ.nil ?_
   refine Nt ?_
   refine Cd rfl (fun hc28 => ?_) (fun hc28 => ?_)
   ·(try simp only [sB] at hc28)
    simp only [Int.toNat_natCast] at hc28
    have hoe := qP heq (i := i) (by omega) ht (by omega)
    refine Cq (Cq ?_)
    refine Cf [0, 1, 2, 3, 4, 5, 6] [] [0, 0, 0, 0, 0, 0, 0] (by kernel_rfl) (by kernel_rfl) rfl ?_
    refine Kj rfl (Rm rfl rfl) (Kj rfl (Rm rfl rfl) ?_)
    refine Kj rfl (bA rfl rfl rfl u22 ?_) ?_
    ·omega
    refine Kj rfl (Rm rfl rfl) (Kj rfl (Rm rfl rfl) ?_)
    refine Kj rfl (bA rfl rfl rfl u22 ?_) ?_
    ·omega
    refine Kj rfl (j2 rfl rfl rfl) ?_
    refine WJ.nil ?_
    refine Nt ?_
    refine Cd rfl (fun hc35 => ?_) (fun hc35 => ?_)
    ·(try simp only [sB] at hc35)
     simp only [Int.toNat_natCast] at hc35
     refine Cs (Ka rfl (Nt (Ce (Xb (Xf (Xb (Xb (Xf (Xb ?_)))))))))
     exact R1 rfl rfl (by rw [hoe, if_pos (by omega)]; rfl)
    ·(try simp only [sB] at hc35)
     simp only [Int.toNat_natCast] at hc35
     refine Ck (Xa (Cs (Ka rfl (Nt (Ce (Xf (Xb (Xb (Xf (Xb ?_))))))))))
     exact R1 rfl rfl (by rw [hoe, if_neg (by omega)]; rfl)
   ·(try simp only [sB] at hc28)
    simp only [Int.toNat_natCast] at hc28
    refine Ck (Xd (Xa (Cg (Km rfl (Kq rfl (Rz rfl rfl rfl (by omega)) (Ka rfl (Nn ?_)))))))
    refine Ly (i + 1) (by (try dsimp only); omega) (S2 rfl rfl) (by refine (Sc ?_ (S0 _)) <;> (rfl)) ?_ (by (exact fun _ h => h))
    (try dsimp only)
    exact ⟨by omega, nV (by omega) (by omega) ht (by omega)⟩
  ·(try simp only [sB] at hc19)
   refine Cx (Xc (Xc (Xe ?_)))
   obtain rfl : i = a.length := by omega
   have hab : a = b := by rw [List.take_of_length_le (Nat.le_refl _), List.take_of_length_le (by omega)] at ht; exact ht
   refine Xa (Cs (Ka rfl (Nt (Ce ?_))))
   exact R1 rfl rfl (by rw [hab]; simp [cP, tup])
theorem l7 {a b : Bs} {w : World} :
  Cw 157 #[.string (S a), .string (S b)] w (.int .i64 (ej a b)) := by
 refine En [] [(0, .string (S a)), (1, .string (S b))] Tryz.func157 rfl Tryz.ntmps157 rfl (Ac rfl (Ac rfl (An _))) Fn ?_
 refine Cs (Ka rfl (Nt (Cq (Cs (Km rfl ?_)))))
 refine Ku rfl (Oc rfl rfl (Kv fun w hS => aA)) ?_
 refine Yt rfl (Km rfl ?_)
 refine Nb 8 rfl (fun hg8 => ?_) (fun hg8 => ?_)
 ·(try simp only [sB] at hg8)
  refine Kt rfl (Kt rfl (Kt rfl (Yp rfl (Nt ?_))))
  refine Cd rfl (fun _ => ?_) (fun h => by cases h)
  refine Cs (Ka rfl (Nt (Ce (Xb ?_))))
  exact R1 rfl rfl (by rw [ej, if_neg (by simp_all)]; rfl)
 ·(try simp only [sB] at hg8)
  refine Km rfl ?_
  refine Ku rfl (Oc rfl rfl (Kv fun w hS => aA)) ?_
  refine Yt rfl (Yq rfl (Nt ?_))
  refine Cd rfl (fun hc12 => ?_) (fun hc12 => ?_)
  ·(try simp only [sB] at hc12)
   refine Cs (Ka rfl (Nt (Ce (Xb ?_))))
   exact R1 rfl rfl (by rw [ej, if_neg (by simp_all)]; rfl)
  ·(try simp only [sB] at hc12)
   have hab : okN a ∧ okN b := by simp_all
   have hal := hab.1.1
   refine Ck (Xa (Cs (Km rfl (Km rfl ?_))))
   refine Ku rfl (Oc rfl rfl (Kv fun w hS => jq (a := a) (b := b) (by exact hab.1.2) (by exact hab.2.2) (by omega))) ?_
   refine Ka rfl (Nt (Ce ?_))
   exact R1 rfl rfl (by rw [ej, if_pos hab]; rfl)
theorem oo {a b : Bs} {w : World} (hal : a.length ≤ 1000000) (hbl : b.length ≤ 1000000) :
  Cw 70 #[.string (S a), .string (S b)] w (.string (S (ae (val a + val b)))) := by
 refine En [] [(0, .string (S a)), (1, .string (S b))] Tryz.func70 rfl Tryz.ntmps70 rfl (Ac rfl (Ac rfl (An _))) Fn ?_
 refine Cs (Ka rfl (Nt (Cs (Km rfl (Yn rfl u22 (Km rfl (Yn rfl u22 (Kq rfl (fZ rfl rfl rfl) (Ns 14 rfl (v' := .int .i64 ((max a.length b.length : Nat) : Int)) (congrArg (Value.int .i64) (by omega)) (Kq rfl (Rz rfl rfl rfl (by omega)) ?_))))))))))
 obtain ⟨N, hN⟩ : ∃ N : Nat, N = max a.length b.length + 1 := ⟨_, rfl⟩
 refine Ns 15 rfl (v' := .int .i64 (N : Int)) (by rw [hN]) ?_
 have hNl : N ≤ 1000001 := by omega
 have hS256 : val a + val b < 256 ^ N := by
  have h1 := aK a; have h2 := aK b
  have h3 : 256 ^ a.length ≤ 256 ^ (N - 1) := Nat.pow_le_pow_right (by decide) (by omega)
  have h4 : 256 ^ b.length ≤ 256 ^ (N - 1) := Nat.pow_le_pow_right (by decide) (by omega)
  have h5 : 256 ^ N = 256 ^ (N - 1) * 256 := by rw [← Nat.pow_succ]; congr 1; omega
  omega
 refine Ka rfl (Nt (Cs (Km rfl ?_)))
 refine Kh rfl (dN rfl rfl rfl aB (by kernel_rfl : _ = some (some (.int .u8 0), 1, 1)) rfl ?_ (by (try simp only [sN, Int.reduceToNat, Nat.reduceAdd, Nat.reduceMul, Nat.reduceSub]); rfl) (by (try simp only [sN, Int.reduceToNat, Nat.reduceAdd, Nat.reduceMul, Nat.reduceSub]); rfl)) ?_
 ·omega
 intro b17
 refine Ka rfl (Nt (Cs (Ka rfl ?_)))
 refine Ns 7 rfl (v' := .int .i64 ((bY (val a) (val b) 0 : Nat) : Int)) (congrArg (Value.int .i64) (by rw [i7]; rfl)) ?_
 refine Nt (Cq (Cs (Ka rfl (Nt (Cb ?_)))))
 refine Lo (σ := Nat) [(0, _), (1, _), (5, _), (6, _)] (fun gq => [(7, .int .i64 (bY (val a) (val b) gq : Int)), (8, .int .i64 (gq : Int))]) (fun gq => gq ≤ N) (fun gq => N - gq) (fun gq => [⟨some b17, eV N gq (val a + val b), 5⟩]) (fun gq => []) (0) (S4 rfl rfl rfl rfl) (S2 rfl rfl) (by (try dsimp only); exact Nat.zero_le _) (by exact fun w h => by rw [cq]; exact h) ?_
 rintro k hinv1; (try dsimp only at hinv1 ⊢)
 obtain hk := hinv1
 refine Cq (Cs (Km rfl (Km rfl (Yl rfl (Nt ?_)))))
 refine Cd rfl (fun hc20 => ?_) (fun hc20 => ?_)
 ·(try simp only [sB] at hc20)
  have hc1 := lA (val a) (val b) k
  have hd1 := Nat.mod_lt (val a / 256 ^ k) (show 0 < 256 by decide); have hd2 := Nat.mod_lt (val b / 256 ^ k) (show 0 < 256 by decide)
  refine Ck (Xa (Cq (Cb (Cs (Km rfl (Km rfl ?_))))))
  refine Ku rfl (Oc rfl rfl (Kv fun w hS => j9 (a := a) (i := k) (by omega) (by omega))) ?_
  refine Km rfl (Km rfl ?_)
  refine Ku rfl (Oc rfl rfl (Kv fun w hS => j9 (a := b) (i := k) (by omega) (by omega))) ?_
  refine Kq rfl (ax rfl rfl rfl (by omega)) (Km rfl (Kq rfl (ax rfl rfl rfl (by omega)) (Ns 31 rfl (v' := .int .i64 ((bY (val a) (val b) k + val a / 256 ^ k % 256 + val b / 256 ^ k % 256 : Nat) : Int)) (congrArg (Value.int .i64) (by omega)) (Ka rfl (Nt (Cs (Km rfl (Km rfl (Kq rfl (ar rfl rfl rfl (by omega)) (Km rfl (Kq rfl (aP rfl rfl rfl (by omega)) (Ns 36 rfl (v' := .int .i64 ((N - 1 - k : Nat) : Int)) (congrArg (Value.int .i64) (by omega)) (Km rfl (Kq rfl (ci rfl rfl rfl (by omega)) (Kq rfl (aQ rfl rfl u3 u5) ?_)))))))))))))))
  refine Ns 39 rfl (v' := B (UInt8.ofNat ((val a + val b) / 256 ^ k))) (by exact congrArg (Value.int .u8) (by rw [lC, kX])) ?_
  refine Kq rfl (Ja rfl rfl rfl aB (by kernel_rfl : _ = some 1) (by omega)) ?_
  refine Ng rfl rfl (st rfl rfl rfl .tc (by kernel_rfl) rfl ?_ (by rfl)) ?_
  ·rw [bO _ _ _ (by omega)]; omega
  intro _
  refine Nt (Cg (Km rfl (Kq rfl (bF rfl rfl rfl (by omega)) ?_)))
  refine Ns 42 rfl (v' := .int .i64 ((bY (val a) (val b) (k + 1) : Nat) : Int)) (congrArg (Value.int .i64) (by rw [i8])) ?_
  refine Ka rfl (Nn (Xd (Xa (Cg (Km rfl (Kq rfl (Rz rfl rfl rfl (by omega)) (Ka rfl (Nn ?_))))))))
  refine Lx (k + 1) (by (try dsimp only); omega) (S4 rfl rfl rfl rfl) (by refine (Sc ?_ (Sc ?_ (S0 _))) <;> (rfl)) ?_ (by exact fun w h => by rw [← bN N k _ (by omega)]; exact h)
  (try dsimp only)
  omega
 ·(try simp only [sB] at hc20)
  refine Cx (Xc (Xc (Xe ?_)))
  obtain rfl : k = N := by omega
  rw [bV]
  refine Xa (Cs (Km rfl ?_))
  refine Ku rfl (Oc rfl rfl (Kv fun w hS => gT (b := be k (val a + val b)) (by (exact hS.os)) (by rw [aN]) (by rw [aN]; exact Nat.le_refl _) (by rw [aN]; omega))) ?_
  refine Ka rfl (Nt (Ce ?_))
  exact Rn rfl (.tmp rfl .nil) fun w' hS => ⟨by rw [cW, Nat.mod_eq_of_lt hS256]; rfl, hS.below⟩
theorem mo {a b : Bs} {w : World} (hle : val b ≤ val a) (ha : a.length ≤ 1000000) (hb : b.length ≤ 1000000) :
  Cw 123 #[.string (S a), .string (S b)] w (.string (S (ae (val a - val b)))) := by
 have hS256 : val a - val b < 256 ^ a.length := Nat.lt_of_le_of_lt (Nat.sub_le _ _) (aK a)
 refine En [] [(0, .string (S a)), (1, .string (S b))] Tryz.func123 rfl Tryz.ntmps123 rfl (Ac rfl (Ac rfl (An _))) Fn ?_
 refine Cs (Ka rfl (Nt (Cs (Km rfl (Yn rfl u22 (Ka rfl (Nt (Cs (Km rfl ?_)))))))))
 refine Kh rfl (dN rfl rfl rfl aB (by kernel_rfl : _ = some (some (.int .u8 0), 1, 1)) rfl ?_ (by (try simp only [sN, Int.reduceToNat, Nat.reduceAdd, Nat.reduceMul, Nat.reduceSub]); rfl) (by (try simp only [sN, Int.reduceToNat, Nat.reduceAdd, Nat.reduceMul, Nat.reduceSub]); rfl)) ?_
 ·omega
 intro b13
 refine Ka rfl (Nt (Cs (Ka rfl ?_)))
 refine Ns 7 rfl (v' := .int .i64 ((aY (val a) (val b) 0 : Nat) : Int)) (congrArg (Value.int .i64) (by rw [ir]; rfl)) ?_
 refine Nt (Cq (Cs (Ka rfl (Nt (Cb ?_)))))
 refine Lo (σ := Nat) [(0, _), (1, _), (5, _), (6, _)] (fun gq => [(7, .int .i64 (aY (val a) (val b) gq : Int)), (8, .int .i64 (gq : Int))]) (fun gq => gq ≤ a.length) (fun gq => a.length - gq) (fun gq => [⟨some b13, eV a.length gq (val a - val b), 5⟩]) (fun gq => []) (0) (S4 rfl rfl rfl rfl) (S2 rfl rfl) (by (try dsimp only); exact Nat.zero_le _) (by exact fun w h => by rw [cq]; exact h) ?_
 rintro k hinv1; (try dsimp only at hinv1 ⊢)
 obtain hk := hinv1
 refine Cq (Cs (Km rfl (Km rfl (Yl rfl (Nt ?_)))))
 refine Cd rfl (fun hc16 => ?_) (fun hc16 => ?_)
 ·(try simp only [sB] at hc16)
  have hc1 := iR (val a) (val b) k
  have hd1 := Nat.mod_lt (val a / 256 ^ k) (show 0 < 256 by decide); have hd2 := Nat.mod_lt (val b / 256 ^ k) (show 0 < 256 by decide)
  refine Ck (Xa (Cq (Cb (Cs (Km rfl (Km rfl ?_))))))
  refine Ku rfl (Oc rfl rfl (Kv fun w hS => j9 (a := a) (i := k) (by omega) (by omega))) ?_
  refine Km rfl (Km rfl ?_)
  refine Ku rfl (Oc rfl rfl (Kv fun w hS => j9 (a := b) (i := k) (by omega) (by omega))) ?_
  refine Kq rfl (aD rfl rfl rfl (by omega)) (Ns 25 rfl (v' := .int .i64 ((((val a / 256 ^ k % 256 : Nat) : Int) - ((val b / 256 ^ k % 256 : Nat) : Int)))) (congrArg (Value.int .i64) (by omega)) (Km rfl (Kq rfl (aD rfl rfl rfl (by omega)) (Ka rfl (Nt (Cs (Ka rfl (Nt (Cq (Cs (Km rfl (Yl rfl (Nt ?_)))))))))))))
  refine Cd rfl (fun hc29 => ?_) (fun hc29 => ?_)
  ·(try simp only [sB] at hc29)
   refine Cs (Km rfl (Kq rfl (bi rfl rfl rfl (by omega)) (Ka rfl (Nt (Cg (Ka rfl (Nt (Cg ?_))))))))
   refine Ns 7 rfl (v' := .int .i64 (aY (val a) (val b) (k + 1) : Int)) (congrArg (Value.int .i64) (by rw [ef]; (rw [if_pos (by omega)]; rfl))) ?_
   refine Km rfl (Km rfl (Kq rfl (ar rfl rfl rfl (by omega)) (Km rfl (Kq rfl (aP rfl rfl rfl (by omega)) (Ns 36 rfl (v' := .int .i64 ((a.length - 1 - k : Nat) : Int)) (congrArg (Value.int .i64) (by omega)) (Km rfl (Kq rfl (aQ rfl rfl u3 u5) ?_)))))))
   refine Ns 38 rfl (v' := B (UInt8.ofNat ((val a - val b) / 256 ^ k))) (by exact congrArg (Value.int .u8) (gR hle k _ (by omega))) ?_
   refine Kq rfl (Ja rfl rfl rfl aB (by kernel_rfl : _ = some 1) (by omega)) ?_
   refine Ng rfl rfl (st rfl rfl rfl .tc (by kernel_rfl) rfl ?_ (by rfl)) ?_
   ·rw [bO _ _ _ (by omega)]; omega
   intro _
   refine Nn (Xd (Xa (Cg (Km rfl (Kq rfl (Rz rfl rfl rfl (by omega)) (Ka rfl (Nn ?_)))))))
   refine Lx (k + 1) (by (try dsimp only); omega) (S4 rfl rfl rfl rfl) (by refine (Sc ?_ (Sc ?_ (S0 _))) <;> (rfl)) ?_ (by exact fun w h => by rw [← bN a.length k _ (by omega)]; exact h)
   (try dsimp only)
   omega
  ·(try simp only [sB] at hc29)
   refine Ck (Xa (Cg ?_))
   refine Ns 7 rfl (v' := .int .i64 (aY (val a) (val b) (k + 1) : Int)) (congrArg (Value.int .i64) (by rw [ef]; (rw [if_neg (by omega)]; rfl))) ?_
   refine Km rfl (Km rfl (Kq rfl (ar rfl rfl rfl (by omega)) (Km rfl (Kq rfl (aP rfl rfl rfl (by omega)) (Ns 36 rfl (v' := .int .i64 ((a.length - 1 - k : Nat) : Int)) (congrArg (Value.int .i64) (by omega)) (Km rfl (Kq rfl (aQ rfl rfl u3 u5) ?_)))))))
   refine Ns 38 rfl (v' := B (UInt8.ofNat ((val a - val b) / 256 ^ k))) (by exact congrArg (Value.int .u8) (gR hle k _ (by omega))) ?_
   refine Kq rfl (Ja rfl rfl rfl aB (by kernel_rfl : _ = some 1) (by omega)) ?_
   refine Ng rfl rfl (st rfl rfl rfl .tc (by kernel_rfl) rfl ?_ (by rfl)) ?_
   ·rw [bO _ _ _ (by omega)]; omega
   intro _
   refine Nn (Xd (Xa (Cg (Km rfl (Kq rfl (Rz rfl rfl rfl (by omega)) (Ka rfl (Nn ?_)))))))
   refine Lx (k + 1) (by (try dsimp only); omega) (S4 rfl rfl rfl rfl) (by refine (Sc ?_ (Sc ?_ (S0 _))) <;> (rfl)) ?_ (by exact fun w h => by rw [← bN a.length k _ (by omega)]; exact h)
   (try dsimp only)
   omega
 ·(try simp only [sB] at hc16)
  refine Cx (Xc (Xc (Xe ?_)))
  obtain rfl : k = a.length := by omega
  rw [bV]
  refine Xa (Cs (Km rfl ?_))
  refine Ku rfl (Oc rfl rfl (Kv fun w hS => gT (b := be a.length (val a - val b)) (by (exact hS.os)) (by rw [aN]) (by rw [aN]; exact Nat.le_refl _) (by rw [aN]; omega))) ?_
  refine Ka rfl (Nt (Ce ?_))
  exact Rn rfl (.tmp rfl .nil) fun w' hS => ⟨by rw [cW, Nat.mod_eq_of_lt hS256]; rfl, hS.below⟩
theorem wP {a : Bs} {w : World} :
  Cw 160 #[.string (S a)] w (.tuple #[.string (S (if 128 < a.length then [] else a)), .int .i64 (if 128 < a.length then 5 else 0)]) := by
 refine En [] [(0, .string (S a))] Tryz.func160 rfl Tryz.ntmps160 rfl (Ac rfl (An _)) Fn ?_
 refine Cs (Ka rfl (Ka rfl (Nt (Cq (Cs (Km rfl (Yn rfl u22 (Yg rfl (Nt ?_)))))))))
 refine Cd rfl (fun hc6 => ?_) (fun hc6 => ?_)
 ·(try simp only [sB] at hc6)
  refine Cs (Ka rfl (Ka rfl (Nt (Ce (Xb ?_)))))
  exact R2 rfl rfl rfl (by rw [if_pos (by omega), if_pos (by omega)]; rfl)
 ·(try simp only [sB] at hc6)
  refine Ck (Xa (Cs (Km rfl (Ka rfl (Ka rfl (Nt (Ce ?_)))))))
  exact R2 rfl rfl rfl (by rw [if_neg (by omega), if_neg (by omega)]; rfl)
theorem vS {a b : Bs} (hab : okN a ∧ okN b) : (if 128 < (ae (val a + val b)).length then ([] : Bs) else ae (val a + val b)) = (addN a b).1 ∧ (if 128 < (ae (val a + val b)).length then (5 : Int) else 0) = (addN a b).2 := by
 rw [addN, if_pos hab]
 by_cases h : val a + val b < Big
 ·have hl := dh.2 h
  rw [if_neg (show ¬ 128 < (ae (val a + val b)).length by omega), if_neg (show ¬ 128 < (ae (val a + val b)).length by omega), if_pos h]; exact ⟨rfl, rfl⟩
 ·have hl : ¬ (ae (val a + val b)).length ≤ 128 := fun h' => h (dh.1 h')
  rw [if_pos (show 128 < (ae (val a + val b)).length by omega), if_pos (show 128 < (ae (val a + val b)).length by omega), if_neg h]; exact ⟨rfl, rfl⟩
theorem xF {a b : Bs} {w : World} :
  Cw 110 #[.string (S a), .string (S b)] w (NE (addN a b)) := by
 refine En [] [(0, .string (S a)), (1, .string (S b))] Tryz.func110 rfl Tryz.ntmps110 rfl (Ac rfl (Ac rfl (An _))) Fn ?_
 refine Cs (Ka rfl (Ka rfl (Nt (Cq (Cs (Km rfl ?_))))))
 refine Ku rfl (Oc rfl rfl (Kv fun w hS => aA)) ?_
 refine Yt rfl (Km rfl ?_)
 refine Nb 9 rfl (fun hg9 => ?_) (fun hg9 => ?_)
 ·(try simp only [sB] at hg9)
  refine Kt rfl (Kt rfl (Kt rfl (Yp rfl (Nt ?_))))
  refine Cd rfl (fun _ => ?_) (fun h => by cases h)
  refine Cs (Ka rfl (Ka rfl (Nt (Ce (Xb ?_)))))
  exact R2 rfl rfl rfl (by rw [addN, if_neg (by simp_all)]; rfl)
 ·(try simp only [sB] at hg9)
  refine Km rfl ?_
  refine Ku rfl (Oc rfl rfl (Kv fun w hS => aA)) ?_
  refine Yt rfl (Yq rfl (Nt ?_))
  refine Cd rfl (fun hc13 => ?_) (fun hc13 => ?_)
  ·(try simp only [sB] at hc13)
   refine Cs (Ka rfl (Ka rfl (Nt (Ce (Xb ?_)))))
   exact R2 rfl rfl rfl (by rw [addN, if_neg (by simp_all)]; rfl)
  ·(try simp only [sB] at hc13)
   have hab : okN a ∧ okN b := by simp_all
   have hal := hab.1.1; have hbl := hab.2.1
   have hcl := vS hab
   refine Ck (Xa (Cs (Km rfl (Km rfl ?_))))
   refine Ku rfl (Oc rfl rfl (Kv fun w hS => oo (a := a) (b := b) (by omega) (by omega))) ?_
   refine Ku rfl (Oc rfl rfl (Kv fun w hS => wP)) ?_
   refine Ye rfl (Ye rfl (Ka rfl (Ka rfl (Nt (Ce ?_)))))
   exact R2 rfl rfl rfl (by simp only [tup, NE]; rw [← hcl.1, ← hcl.2])
theorem sj {a b : Bs} {w : World} :
  Cw 162 #[.string (S a), .string (S b)] w (NE (eQ a b)) := by
 refine En [] [(0, .string (S a)), (1, .string (S b))] Tryz.func162 rfl Tryz.ntmps162 rfl (Ac rfl (Ac rfl (An _))) Fn ?_
 refine Cs (Ka rfl (Ka rfl (Nt (Cq (Cs (Km rfl ?_))))))
 refine Ku rfl (Oc rfl rfl (Kv fun w hS => aA)) ?_
 refine Yt rfl (Km rfl ?_)
 refine Nb 9 rfl (fun hg9 => ?_) (fun hg9 => ?_)
 ·(try simp only [sB] at hg9)
  refine Kt rfl (Kt rfl (Kt rfl (Yp rfl (Nt ?_))))
  refine Cd rfl (fun _ => ?_) (fun h => by cases h)
  refine Cs (Ka rfl (Ka rfl (Nt (Ce (Xb ?_)))))
  exact R2 rfl rfl rfl (by rw [eQ, if_neg (by simp_all)]; rfl)
 ·(try simp only [sB] at hg9)
  refine Km rfl ?_
  refine Ku rfl (Oc rfl rfl (Kv fun w hS => aA)) ?_
  refine Yt rfl (Yq rfl (Nt ?_))
  refine Cd rfl (fun hc13 => ?_) (fun hc13 => ?_)
  ·(try simp only [sB] at hc13)
   refine Cs (Ka rfl (Ka rfl (Nt (Ce (Xb ?_)))))
   exact R2 rfl rfl rfl (by rw [eQ, if_neg (by simp_all)]; rfl)
  ·(try simp only [sB] at hc13)
   have hab : okN a ∧ okN b := by simp_all
   have hal := hab.1.1; have hbl := hab.2.1
   refine Ck (Xa (Cq (Cs (Km rfl (Km rfl ?_)))))
   refine Ku rfl (Oc rfl rfl (Kv fun w hS => jq (a := a) (b := b) (by exact hab.1.2) (by exact hab.2.2) (by omega))) ?_
   refine Yl rfl (Nt ?_)
   refine Cd rfl (fun hc17 => ?_) (fun hc17 => ?_)
   ·(try simp only [sB] at hc17)
    rw [aw] at hc17
    refine Cs (Ka rfl (Ka rfl (Nt (Ce (Xb ?_)))))
    exact R2 rfl rfl rfl (by rw [eQ, if_pos hab, if_pos hc17]; rfl)
   ·(try simp only [sB] at hc17)
    have hle : val b ≤ val a := Nat.not_lt.1 fun h => by have := (aw _ _).2 h; omega
    refine Ck (Xa (Cs (Km rfl (Km rfl ?_))))
    refine Ku rfl (Oc rfl rfl (Kv fun w hS => mo (a := a) (b := b) (by assumption) (by omega) (by omega))) ?_
    refine Ka rfl (Ka rfl (Nt (Ce ?_)))
    exact R2 rfl rfl rfl (by rw [eQ, if_pos hab, if_neg (by omega)]; rfl)
end Go.Proofs.YtkdlonihbjhhoaaGreatDoor
