/-
  Parts of the walk: Zed Keep Join Wrd Dig Art Ntl3 Ars Ntl4 NtlB Ntl5.
-/
import Derived.Test.YtchonigdjamphaaGreatDoorQ7
import Derived.Laws.Bits64
namespace Go.Proofs.YtchonigdjamphaaGreatDoor
open Go.RowKit
set_option linter.unusedSimpArgs false
set_option linter.unusedVariables false
set_option maxHeartbeats 600000
set_option maxRecDepth 20000
theorem az {n : Nat} (h : n < Big) : okN (ae n) := ⟨eo.2 h, bH n⟩
theorem a7 {s : Bs} (h : okN s) : val s < Big := Aw (aG s) (Ar (by decide) h.1)
theorem bk {n : Nat} : ae n = [] ↔ n = 0 := ⟨fun h => by rw [← ah n, h]; rfl, fun h => by rw [h]; exact canon_zero⟩
theorem jM {a b : Nat} : ae a = ae b ↔ a = b := ⟨fun h => by rw [← ah a, h, ah], fun h => by rw [h]⟩
theorem bT {s : Bs} (h : okN s) : ae (val s) = s := sQ h.2
def zv (x : Zs) : Int := if x.1 then -(val x.2 : Int) else val x.2
theorem ce (n : Int) : ofZ n = (decide (n < 0), ae n.natAbs) := by
 unfold ofZ mkZ
 by_cases h : n < 0
 ·rw [Az h, Bool.true_and, Aj (by rw [bk]; omega)]; rfl
 ·rw [Aj h, Bool.false_and]
theorem dE (n : Int) : zv (ofZ n) = n := by
 rw [ce, zv]
 by_cases h : n < 0
 ·rw [Ae (by simpa using h), ah]; omega
 ·rw [Aa (by simpa using h), ah]; omega
theorem ex {x : Zs} (h : okZ x) : ofZ (zv x) = x := by
 obtain ⟨s, a⟩ := x
 have ha : okN a := h.1
 have h2 : ¬ (s = true ∧ a = []) := h.2
 have hc := bT ha
 rw [ce, zv]
 cases s with
 | false =>
  rw [Aa (by simp)]
  show (decide ((val a : Int) < 0), ae (val a : Int).natAbs) = (false, a)
  rw [Aj (by omega), Bh, hc]
 | true =>
  rw [Ae rfl]
  have h0 : val a ≠ 0 := fun h0 => h2 ⟨rfl, (aM ha.2).1 h0⟩
  show (decide (-(val a : Int) < 0), ae (-(val a : Int)).natAbs) = (true, a)
  rw [Az (by omega), Int.natAbs_neg, Bh, hc]
theorem bZ {n : Int} : okZ (ofZ n) ↔ n.natAbs < Big := by
 rw [ce]
 constructor
 ·intro h; have := a7 h.1; rwa [show val (ae n.natAbs) = n.natAbs from ah _] at this
 ·intro h
  refine ⟨az h, ?_⟩
  rintro ⟨h1, h2⟩
  have h1' : n < 0 := by simpa using h1
  have h2' : n.natAbs = 0 := bk.1 h2
  omega
theorem AK {x : Zs} (h : okZ x) : (zv x).natAbs < Big := by rw [← ex h] at h; exact bZ.1 h
theorem xE {x : Zs} : okZ x ↔ ∃ n : Int, n.natAbs < Big ∧ x = ofZ n := ⟨fun h => ⟨zv x, AK h, (ex h).symm⟩, fun ⟨n, h, e⟩ => e ▸ bZ.2 h⟩
theorem eI (n : Nat) : ofZ n = (false, ae n) := by rw [ce, Aj (by omega), Bh]
theorem lk (s : Bool) (n : Nat) : mkZ s (ae n) = ofZ (if s then -(n : Int) else n) := by
 cases s with
 | false => rw [Aa (by simp), eI]; rfl
 | true =>
  rw [Ae rfl, ce, Int.natAbs_neg, Bh, mkZ, Bool.true_and]
  congr 1
  by_cases h : n = 0
  ·subst h; rw [canon_zero]; rfl
  ·rw [Aj (by rw [bk]; exact h), Az (by omega)]; rfl
theorem qK {n : Int} (h : n.natAbs < Big) : lj (ofZ n) = ofZ (-n) := by
 rw [lj, Ae (bZ.2 h), ce, lk]
 by_cases h1 : n < 0
 ·rw [Az h1]; simp only [Bool.not_true, Bool.false_eq_true, if_false]; congr 1; omega
 ·rw [Aj h1]; simp only [Bool.not_false, if_true]; congr 1; omega
theorem jn {a b : Int} (ha : a.natAbs < Big) (hb : b.natAbs < Big) : gD (ofZ a) (ofZ b) = if (a + b).natAbs < Big then (ofZ (a + b), 0) else ((false, []), 5) := by
 obtain ⟨G, hG⟩ : ∃ G, G = Big := ⟨_, rfl⟩
 rw [gD, Ae ⟨bZ.2 ha, bZ.2 hb⟩]
 rw [ce a, ce b]
 simp only [ah]
 rw [← hG] at ha hb ⊢
 by_cases hs : decide (a < 0) = decide (b < 0)
 ·rw [Ae hs]
  have hs' : (a < 0) ↔ (b < 0) := by simpa using hs
  have hn : (a + b).natAbs = a.natAbs + b.natAbs := by by_cases h1 : a < 0 <;> have := hs'.1 <;> have := hs'.2 <;> omega
  rw [addN, Ae ⟨az (by rw [← hG]; exact ha), az (by rw [← hG]; exact hb)⟩, ah, ah, ← hG, hn]
  by_cases hl : a.natAbs + b.natAbs < G
  ·rw [Ae hl, Ae hl]; show (mkZ (decide (a < 0)) (ae (a.natAbs + b.natAbs)), (0 : Int)) = _; rw [lk]; congr 2; by_cases h1 : a < 0
   ·rw [Ae (by simpa using h1)]; omega
   ·rw [Aa (by simpa using h1)]; have := hs'.2; omega
  ·rw [Aa hl, Aa hl]; show (mkZ (decide (a < 0)) [], (5 : Int)) = _; rw [mkZ]; simp
 ·rw [Aa hs]
  have hs' : ¬ ((a < 0) ↔ (b < 0)) := by simpa using hs
  have hl : (a + b).natAbs < G := by omega
  rw [Ae hl]
  by_cases h1 : a.natAbs < b.natAbs
  ·rw [Ae h1, lk]; congr 2; by_cases h2 : b < 0
   ·rw [Ae (by simpa using h2)]; omega
   ·rw [Aa (by simpa using h2)]; omega
  ·rw [Aa h1, lk]; congr 2; by_cases h2 : a < 0
   ·rw [Ae (by simpa using h2)]; omega
   ·rw [Aa (by simpa using h2)]; omega
theorem wH {a b : Int} (ha : a.natAbs < Big) (hb : b.natAbs < Big) : eO (ofZ a) (ofZ b) = if (a - b).natAbs < Big then (ofZ (a - b), 0) else ((false, []), 5) := by
 rw [eO, Ae ⟨bZ.2 ha, bZ.2 hb⟩, qK hb, jn ha (by omega), Int.sub_eq_add_neg]
section
variable {ds : List Deferred} {ρ : Option Nat} {P : Program} {ok : Nat → Prop} {w0 w : World} {own ext : List Ent} {fs : List Fact} {γ : Type} {f : FuncId} {args : Array Value} {val : γ → Value} {p : γ → Prop} {F : γ → List Fact} {a : Option Addr} {xs : List Value}
theorem bK (h : ∀ w, St ok w0 own fs w → Calls P f args w (fun e w' => ∃ g, e = .returned (val g) ∧ p g ∧ Below w.heap.size w w' ∧ ∀ x ∈ F g, x.holds (fun b => (ok b ∧ b ∉ ids own) ∨ w.heap.size ≤ b) w')) :
  ∀ w, St ok w0 own fs w → Calls P f args w (fun e w' => ∃ g, e = .returned (val g) ∧ p g ∧ St ok w0 own (F g ++ fs) w') :=
 fun w hS => (h w hS).mono fun _ w' ⟨g, he, hp, hb, hF⟩ => ⟨g, he, hp, by
  have h1 := hS.keep hb
  refine ⟨h1.okn, h1.below, h1.own_, h1.nd, fun x hx => (Bx.1 hx).elim (fun hx => ?_) (h1.fact x)⟩
  exact x.mono (fun b hb => hb.elim id (hS.fresh b)) (hF x hx)⟩
theorem St.slo (h : St ok w0 own fs w) [hf : HasF fs a xs] : (Fact.sl a xs).holds (fun b => ok b ∧ b ∉ ids own) w := by
 obtain ⟨k, hk⟩ := hf.h.get; exact h.fact _ (A9 hk)
theorem St.slk (h : St ok w0 own fs w) [hf : HasF fs a xs] : (Fact.sl a xs).holds ok w := (Fact.sl a xs).mono (fun _ h => h.1) h.slo
theorem St.moreo {more : List Fact} (hS : St ok w0 own fs w) [h : oq fs more] : ∀ f ∈ more, f.holds (fun b => ok b ∧ b ∉ ids own) w := fun f hf => hS.fact f (h.h f hf)
theorem St.ock (h : St ok w0 own fs w) {ob : Option Nat} {sp : List Value} {T : TypeId} {C : Ent → List Ent} [hf : HasC own ob (xs ++ sp) T C] : (Fact.sl (ob.map fun b => ⟨b, 0, none⟩) xs).holds ok w := by
 obtain ⟨k, hk, _⟩ := hf.h.get
 have := h.own_ _ (A9 hk)
 cases ob with
 | none => exact .inl (by have h1 : xs ++ sp = [] := this; simp at h1; exact h1.1)
 | some b =>
  refine .inr ⟨b, 0, (xs ++ sp).toArray, T, (0, 0), rfl, h.okn b this.1, this.2, fun i hi => ?_⟩
  rw [A3, Du, B2 hi]
theorem av : (Fact.sl a []).holds ok w := .inl rfl
theorem bL {fs : List Fact} {ok' : Nat → Prop} (h : ∀ f ∈ fs, f.holds ok w) : ∀ f ∈ fs, f.holds (fun b => ok b ∨ ok' b) w := fun f hf => f.mono (fun _ h => .inl h) (h f hf)
end
section
variable {ds : List Deferred} {ρ : Option Nat} {P : Program} {Q : Exit → Act → World → Prop} {n : Nat} {L : an} {x y : Code} {σ : Type} {Z : World → Prop}
theorem tJ {k : Nat} {kd : IntKind} {i j : Int} (h : ap L k = some (.int kd i)) (e : i = j) : ap L k = some (.int kd j) := e ▸ h
theorem ao {k : Nat} {i j : Bool} (h : ap L k = some (.bool i)) (e : i = j) : ap L k = some (.bool j) := e ▸ h
def m0 (ds : List Deferred) {σ : Type} (Ls : σ → an) (Ss : σ → World → Prop) (n : Nat) (a : Act) (w : World) : Prop := ∃ s, Fr ds a n (Ls s) ∧ Ss s w
theorem WC.join (Ls : σ → an) (Ss : σ → World → Prop) (h : WC ds ρ P x (Exit.then (m0 ds Ls Ss n) Q) n L Z) (k : ∀ s, WC ds ρ P y Q n (Ls s) (Ss s)) : WC ds ρ P (.seq x y) Q n L Z :=
 Cq fun a w hF hS => wpIn_mono (h a w hF hS) fun e a w hq => by
  cases e with
  | normal => obtain ⟨s, hF', hS'⟩ := hq; exact k s a w hF' hS'
  | _ => exact hq
theorem WX.join {Ls : σ → an} {Ss : σ → World → Prop} (s : σ) (hL : ∀ k v, ap (Ls s) k = some v → ap L k = some v) (hS : ∀ w, Z w → Ss s w) : WX ds (Exit.then (m0 ds Ls Ss n) Q) .normal n L Z := fun _ w hF h => ⟨s, hF.sub hL, hS w h⟩
theorem WC.joinP (Lm : an) (Ls : σ → an) (inv : σ → Prop) (hm : ∀ k v, ap Lm k = some v → ap L k = some v) (h : WC ds ρ P x (Exit.then (m0 ds (fun s => Ls s ++ Lm) (fun s w => inv s ∧ Z w) n) Q) n L Z) (k : ∀ s, inv s → WC ds ρ P y Q n (Ls s ++ Lm) Z) : WC ds ρ P (.seq x y) Q n L Z :=
 have := hm
 WC.join _ _ h fun s => WC.pu fun h => k s h
theorem WX.joinP {Z' : World → Prop} {L' Lm : an} {Ls : σ → an} {inv : σ → Prop} (s : σ) (hm : ∀ k v, ap Lm k = some v → ap L' k = some v) (hL : ∀ k v, ap (Ls s) k = some v → ap L' k = some v) (hi : inv s) (hZ : ∀ w, Z' w → Z w) :
  WX ds (Exit.then (m0 ds (fun s => Ls s ++ Lm) (fun s w => inv s ∧ Z w) n) Q) .normal n L' Z' := WX.join s (gE hL hm) fun w h => ⟨hi, hZ w h⟩
theorem WC.joinO {ok : Nat → Prop} {w0 : World} {own : List Ent} {fs : List Fact} (Lm : an) (Ls : σ → an) (inv : σ → Prop) (own' : σ → List Ent) (fs' : σ → List Fact) (hm : ∀ k v, ap Lm k = some v → ap L k = some v)
  (h : WC ds ρ P x (Exit.then (m0 ds (fun s => Ls s ++ Lm) (fun s w => inv s ∧ St ok w0 (own' s) (fs' s) w) n) Q) n L (St ok w0 own fs)) (k : ∀ s, inv s → WC ds ρ P y Q n (Ls s ++ Lm) (St ok w0 (own' s) (fs' s))) : WC ds ρ P (.seq x y) Q n L (St ok w0 own fs) :=
 have := hm
 WC.join _ _ h fun s => WC.pu fun h => k s h
theorem WX.joinO {ok : Nat → Prop} {w0 : World} {Z' : World → Prop} {L' Lm : an} {Ls : σ → an} {inv : σ → Prop} {own' : σ → List Ent} {fs' : σ → List Fact} (s : σ) (hm : ∀ k v, ap Lm k = some v → ap L' k = some v) (hL : ∀ k v, ap (Ls s) k = some v → ap L' k = some v) (hi : inv s) (hZ : ∀ w, Z' w → St ok w0 (own' s) (fs' s) w) :
  WX ds (Exit.then (m0 ds (fun s => Ls s ++ Lm) (fun s w => inv s ∧ St ok w0 (own' s) (fs' s) w) n) Q) .normal n L' Z' := WX.join s (gE hL hm) fun w h => ⟨hi, hZ w h⟩
theorem WC.ordersP {id : Nat} {l : List Oper} {n : Nat} {L : an} {ok : Nat → Prop} {w0 : World} {own : List Ent} {fs : List Fact} (Lm : an) (own' : List Ent) (fs' : List Fact) (hm : ∀ k v, ap Lm k = some v → ap L k = some v) (iss : List (List Nat)) {oss : List (List Oper)} (hp : P.follows .mixedOrders = true)
  (hi : ep l.toArray l.length (Array.replicate l.length false) = iss) (ho : iss.map (bJ l) = oss)
  (k : AllL ds P l (Mid ds (fun _ : Unit => Lm) (fun _ => St ok w0 own' fs') n) n L (St ok w0 own fs) oss) (next : WX ds Q .normal n Lm (St ok w0 own' fs')) : WC ds none P (.region id l.toArray true) Q n L (St ok w0 own fs) :=
 have := hm
 WC.orders (fun _ => Lm) _ iss hp hi ho (fun w h => h.draw) k fun _ => next
theorem WX.midP {γ : Type} {n : Nat} {L Lm : an} {S : World → Prop} {S' : γ → World → Prop} (g : γ) (hm : ∀ k v, ap Lm k = some v → ap L k = some v) (hS : ∀ w, S w → S' g w) : WX ds (Mid ds (fun _ => Lm) S' n) .normal n L S := WX.mid g hm hS
end
class WdK (k : IntKind) (j : outParam Nat) : Prop where
 hj : j ≤ k.bits
 hk : ∀ n : Int, 0 ≤ n → n < 2 ^ j → k.wrap n = n
instance : WdK .u8 8 := ⟨by decide, fun n h0 h1 => by rw [IntKind.wrap_u8]; omega⟩
instance : WdK .u32 32 := ⟨by decide, fun n h0 h1 => by rw [IntKind.wrap_u32]; omega⟩
instance : WdK .u64 64 := ⟨by decide, fun n h0 h1 => by rw [IntKind.wrap_u64]; omega⟩
instance : WdK .i64 63 := ⟨by decide, fun n h0 h1 => by rw [IntKind.wrap_i64]; omega⟩
theorem wrN {k : IntKind} {j x : Nat} [h : WdK k j] (hx : x < 2 ^ j) : k.wrap (x : Int) = x := h.hk x (Br _) (by exact_mod_cast hx)
class WdU (k : IntKind) (j : outParam Nat) : Prop where
 hu : ∀ n : Int, k.wrap n = n % 2 ^ j
instance : WdU .u8 8 := ⟨fun n => IntKind.wrap_u8 n⟩
instance : WdU .u32 32 := ⟨fun n => IntKind.wrap_u32 n⟩
instance : WdU .u64 64 := ⟨fun n => IntKind.wrap_u64 n⟩
section
variable {ds : List Deferred} {P : Program} {o : Oper} {n : Nat} {L : an} {Z : World → Prop} {x y : Operand} {t t2 : TypeId} {k k' : IntKind} {a c j m : Nat} {b : Bool}
theorem Rd.cv {v v' : Value} (h : Rd ds P o n L Z v) (e : v = v') : Rd ds P o n L Z v' := e ▸ h
theorem cJ [WdK k j] (hop : o.op = .binOp .add t x y t2) (hx : ai L x = some (.int k (a : Int))) (hy : ai L y = some (.int k (c : Int))) (h : a + c < 2 ^ j) : Rd ds P o n L Z (.int k ((a + c : Nat) : Int)) :=
 (pJ hop hx hy).cv (by rw [← wrN (k := k) h, Dd])
theorem iG [WdK k j] (hop : o.op = .binOp .sub t x y t2) (hx : ai L x = some (.int k (a : Int))) (hy : ai L y = some (.int k (c : Int))) (h : c ≤ a ∧ a < 2 ^ j) : Rd ds P o n L Z (.int k ((a - c : Nat) : Int)) :=
 (kS hop hx hy).cv (by rw [← wrN (k := k) (Bb (Eb a c) h.2), Int.natCast_sub h.1])
theorem bY [WdK k j] (hop : o.op = .binOp .mul t x y t2) (hx : ai L x = some (.int k (a : Int))) (hy : ai L y = some (.int k (c : Int))) (h : a * c < 2 ^ j) : Rd ds P o n L Z (.int k ((a * c : Nat) : Int)) :=
 (nw hop hx hy).cv (by rw [← wrN (k := k) h, C0])
theorem iI [WdU k j] (hop : o.op = .binOp .mul t x y t2) (hx : ai L x = some (.int k (a : Int))) (hy : ai L y = some (.int k (c : Int))) : Rd ds P o n L Z (.int k ((a * c % 2 ^ j : Nat) : Int)) :=
 (nw hop hx hy).cv (by rw [WdU.hu (k := k)]; simp)
theorem fA [hw : WdK k j] (hop : o.op = .binOp .shl t x y t2) (hx : ai L x = some (.int k (a : Int))) (hy : ai L y = some (.int k' (c : Int))) (hc : c ≤ k.bits) (h : a * 2 ^ c < 2 ^ j) : Rd ds P o n L Z (.int k ((a * 2 ^ c : Nat) : Int)) :=
 (jv hop hx hy (Br _)).cv (by rw [A2, Dh hc, ← wrN (k := k) h]; simp)
theorem xn [hw : WdU k j] (hop : o.op = .binOp .shl t x y t2) (hx : ai L x = some (.int k (a : Int))) (hy : ai L y = some (.int k' (c : Int))) (hc : c ≤ k.bits) : Rd ds P o n L Z (.int k ((a * 2 ^ c % 2 ^ j : Nat) : Int)) :=
 (jv hop hx hy (Br _)).cv (by rw [A2, Dh hc, WdU.hu (k := k)]; simp)
theorem bQ (hop : o.op = .binOp .shr t x y t2) (hx : ai L x = some (.int k (a : Int))) (hy : ai L y = some (.int k' (c : Int))) (hc : c ≤ k.bits) : Rd ds P o n L Z (.int k ((a / 2 ^ c : Nat) : Int)) :=
 (f6 hop hx hy (Br _)).cv (by
  rw [A2, Dh hc, Dn _ (by have := Int.pow_pos (n := 2) (m := c) (by decide); omega)]; simp)
theorem dT (m : Nat) [hw : WdK k j] {i : Int} (hop : o.op = .binOp .and t x y t2) (hx : ai L x = some (.int k (a : Int))) (hy : ai L y = some (.int k i)) (hi : i = 2 ^ m - 1) (h : m ≤ j ∧ a < 2 ^ j) : Rd ds P o n L Z (.int k ((a % 2 ^ m : Nat) : Int)) :=
 (nz hop hx hy).cv (by rw [hi, bits_mask k j hw.hj hw.hk m h.1 a (Br _) (by exact_mod_cast h.2)]; simp)
theorem kX (m : Nat) [hw : WdK k j] (hop : o.op = .binOp .or t x y t2) (hx : ai L x = some (.int k (a : Int))) (hy : ai L y = some (.int k (c : Int))) (h : a % 2 ^ m = 0 ∧ a < 2 ^ j ∧ c < 2 ^ m ∧ m ≤ j) : Rd ds P o n L Z (.int k ((a + c : Nat) : Int)) :=
 (mg hop hx hy).cv (by
  have hc : c < 2 ^ j := Aw h.2.2.1 (Ar (by decide) h.2.2.2)
  rw [bits_join k j hw.hj hw.hk m a c (Br _) (by exact_mod_cast h.1) (by exact_mod_cast h.2.1) (Br _) (by exact_mod_cast h.2.2.1) (by exact_mod_cast hc)]; simp)
theorem zR (m : Nat) [hw : WdK k j] (hop : o.op = .binOp .or t x y t2) (hx : ai L x = some (.int k (a : Int))) (hy : ai L y = some (.int k (c : Int))) (h : a < 2 ^ m ∧ c % 2 ^ m = 0 ∧ c < 2 ^ j ∧ m ≤ j) : Rd ds P o n L Z (.int k ((a + c : Nat) : Int)) :=
 (mg hop hx hy).cv (by
  have ha : a < 2 ^ j := Aw h.1 (Ar (by decide) h.2.2.2)
  have e : bits .or k (a : Int) (c : Int) = bits .or k (c : Int) (a : Int) := by
   simp only [bits, BitVec.or_comm]
  rw [e, bits_join k j hw.hj hw.hk m c a (Br _) (by exact_mod_cast h.2.1) (by exact_mod_cast h.2.2.1) (Br _) (by exact_mod_cast h.1) (by exact_mod_cast ha), Int.add_comm]; simp)
theorem z8 {p q : Bool} (hop : o.op = .binOp .neq t x y t2) (hx : ai L x = some (.bool p)) (hy : ai L y = some (.bool q)) (hu : P.underlying t = some .bool) : Rd ds P o n L Z (.bool (p != q)) :=
 aW hop hx hy (lr _ _ _) fun w => run_neq_bool w t p q hu
theorem iH [WdK k j] (hop : o.op = .binOp .quo t x y t2) (hx : ai L x = some (.int k (a : Int))) (hy : ai L y = some (.int k (c : Int))) (h : 0 < c ∧ a < 2 ^ j) : Rd ds P o n L Z (.int k ((a / c : Nat) : Int)) :=
 (pG hop hx hy (by omega)).cv (by
  rw [Int.tdiv_eq_ediv_of_nonneg (Br _), ← Int.natCast_ediv, wrN (k := k) (Bb (Cz a c) h.2)])
theorem fB (hop : o.op = .binOp .rem t x y t2) (hx : ai L x = some (.int k (a : Int))) (hy : ai L y = some (.int k (c : Int))) (h : 0 < c) : Rd ds P o n L Z (.int k ((a % c : Nat) : Int)) :=
 (nu hop hx hy (by omega)).cv (by rw [Int.tmod_eq_emod_of_nonneg (Br _), ← D4])
theorem uj [WdU k j] (hop : o.op = .convert t t2 x) (hx : ai L x = some (.int k' (a : Int))) {d : TypeDesc} (h1 : P.underlying t = some d) (h2 : P.underlying t2 = some (.int k)) : Rd ds P o n L Z (.int k ((a % 2 ^ j : Nat) : Int)) :=
 (aS hop hx h1 h2).cv (by rw [WdU.hu (k := k)]; simp)
theorem oL [WdK k j] (hop : o.op = .convert t t2 x) (hx : ai L x = some (.int k' (a : Int))) {d : TypeDesc} (h1 : P.underlying t = some d) (h2 : P.underlying t2 = some (.int k)) (h : a < 2 ^ j) : Rd ds P o n L Z (.int k (a : Int)) :=
 (aS hop hx h1 h2).cv (by rw [wrN (k := k) h])
theorem oM [WdK k j] {c : UInt8} (hop : o.op = .convert t t2 x) (hx : ai L x = some (.int .u8 (c.toNat : Int))) {d : TypeDesc} (h1 : P.underlying t = some d) (h2 : P.underlying t2 = some (.int k)) (h : 8 ≤ j) : Rd ds P o n L Z (.int k (c.toNat : Int)) :=
 oL hop hx h1 h2 (Aw c.toNat_lt (Ar (by decide) h))
theorem kU {s : List UInt8} {i : Nat} (hop : o.op = .index t x y) (hx : ai L x = some (.string (S s))) (hy : ai L y = some (.int k (i : Int))) (h1 : P.underlying t = some .string) (h0 : i < s.length) : Rd ds P o n L Z (.int .u8 ((s.getD i default).toNat : Int)) :=
 (ck hop hx hy h1 ⟨Br _, by rwa [A2]⟩).cv (by rw [A2])
theorem iJ (hop : o.op = .convert t t2 x) (hx : ai L x = some (.int k' (a : Int))) {d : TypeDesc} (h1 : P.underlying t = some d) (h2 : P.underlying t2 = some (.int .u8)) : Rd ds P o n L Z (.int .u8 ((UInt8.ofNat a).toNat : Int)) :=
 (uj hop hx h1 h2).cv rfl
end
section
variable {ds : List Deferred} {P : Program} {ok : Nat → Prop} {w0 : World} {own : List Ent} {fs : List Fact} {o : Oper} {n b off sz : Nat} {L : an} {x : Operand} {t T e : TypeId} {cs ys : List Value} {C : Ent → List Ent}
theorem clr {len cap : Nat} {zv : Value} (hop : o.op = .call { callee := .builtin .clear, args := #[x], argTypes := #[t] }) (hx : ai L x = some (.slice (some ⟨b, off, none⟩) len cap)) (hk : Ctx own ⟨some b, cs, T⟩ C)
  (hu : P.underlying t = some (.slice e)) (hi : (P.info? e).map (fun i => (i.zero, i.size, i.bytes)) = some (some zv, 1, sz)) (h1 : zv.cells = #[zv]) (ho : zv.oneCell' = true) (hl : 0 < len) (hfit : off + len ≤ cs.length) (hys : cs.take off ++ List.replicate len zv ++ cs.drop (off + len) = ys) :
  Og ds P o n L (St ok w0 own fs) (fun _ : Unit => .tuple #[]) (fun _ => St ok w0 (C ⟨some b, ys, T⟩) fs) :=
 cB fun a hF w hS => by
  obtain ⟨kk, hkk, hC⟩ := hk.get
  obtain ⟨i', hi', hz, hs, hbb⟩ := info_parts hi
  have hst := run_storeCells_at P b off T (List.replicate len zv) 0 cs.toArray w (hS.block hkk) (by simp; omega) (fun u hu => by rw [List.eq_of_mem_replicate hu]; exact ho)
  simp only [Bd, Eg, hys] at hst
  refine ⟨(), w.setRow b ys.toArray, .inl ?_, by rw [hC]; exact hS.setRow hkk _⟩
  obtain ⟨l', rfl⟩ : ∃ l', len = l' + 1 := ⟨len - 1, by omega⟩
  have hzr : (zeroValue e).run P w = .ok zv w := by simp [zeroValue, typeInfo, hi', hz]
  simp [execOp, hop, resolve, invoke, builtin, hF.eval hx, Builtin.clear_, run_underlying hu, hzr, h1, iy, hst]
end
end Go.Proofs.YtchonigdjamphaaGreatDoor
namespace Go.Proofs.YtchonigdjamphaaGreatDoor
set_option linter.unusedSimpArgs false
set_option linter.unusedVariables false
set_option maxRecDepth 20000
def ev (β : Nat) : List Nat → Nat
 | [] => 0
 | x :: l => x + β * ev β l
theorem fb (β : Nat) : ∀ a b : List Nat, ev β (a ++ b) = ev β a + β ^ a.length * ev β b
 | [], b => by simp [ev]
 | x :: a, b => by
  rw [List.cons_append, ev, ev, fb β a b, Ay, A0, Bn, Cl, ← A1, Ao β (β ^ a.length)]
theorem dw (β : Nat) (l : List Nat) (i : Nat) (h : i ≤ l.length) : ev β l = ev β (l.take i) + β ^ i * ev β (l.drop i) := by
 have := fb β (l.take i) (l.drop i)
 rwa [Dt, B1, Dh h] at this
theorem br (β : Nat) (l : List Nat) (i : Nat) (h : i < l.length) : ev β (l.take (i + 1)) = ev β (l.take i) + β ^ i * l.getD i 0 := by
 rw [Bv, Ad h, fb, B1, Dh (by omega), List.getD_eq_getElem?_getD, Ad h]
 simp [ev]
theorem yZ (β : Nat) : ∀ l : List Nat, (∀ x ∈ l, x < β) → ev β l < β ^ l.length
 | [], _ => by simp [ev]
 | x :: l, h => by
  have h1 := yZ β l fun y hy => h y (.tail _ hy)
  have h2 := h x (.head _)
  rw [ev, Ay, A0]
  have : β * (ev β l + 1) ≤ β * β ^ l.length := Ca _ h1
  rw [Bn, As, Ao β (β ^ l.length)] at this
  omega
theorem fJ (β : Nat) (l : List Nat) (i : Nat) (hi : i ≤ l.length) (h : ∀ x ∈ l, x < β) : ev β (l.take i) < β ^ i := by
 have := yZ β (l.take i) fun x hx => h x (List.mem_of_mem_take hx)
 rwa [B1, Dh hi] at this
theorem nY (β n : Nat) : ev β (List.replicate n 0) = 0 := by
 induction n with
 | zero => rfl
 | succ n ih => rw [D8, ev, ih]; simp
theorem eG {α : Type} (l : List α) (i k : Nat) (y : α) (h : k ≤ i) : (l.set i y).take k = l.take k := by
 rw [List.take_set, List.set_eq_of_length_le (by rw [B1]; omega)]
theorem lU (l : List Nat) (i y : Nat) (h : i < l.length) : (l.set i y).take (i + 1) = l.take i ++ [y] := by
 rw [Bv, eG l i i y (Ba _), Dk h]; rfl
theorem gw {α : Type} (l : List α) (i k : Nat) (y : α) (h : i < k) : (l.set i y).drop k = l.drop k := by
 rw [List.drop_set, Ae h]
theorem gt (β : Nat) (l : List Nat) (i y : Nat) (h : i < l.length) : ev β ((l.set i y).take (i + 1)) = ev β (l.take i) + β ^ i * y := by
 rw [lU l i y h, fb, B1, Dh (by omega)]; simp [ev]
theorem BQ (β : Nat) (l : List Nat) (i y : Nat) (h : i < l.length) : ev β (l.set i y) + β ^ i * l.getD i 0 = ev β l + β ^ i * y := by
 rw [dw β (l.set i y) (i + 1) (by rw [Dc]; omega), gt β l i y h, gw l i (i + 1) y (by omega), dw β l (i + 1) (by omega), br β l i h]
 omega
theorem vn (β : Nat) (hβ : 0 < β) (l : List Nat) (i : Nat) (hi : i < l.length) (h : ∀ x ∈ l, x < β) : ev β l / β ^ i % β = l.getD i 0 := by
 have h1 := fJ β l i (by omega) h
 have h2 : l.drop i = l.getD i 0 :: l.drop (i + 1) := by
  rw [B3 hi, List.getD_eq_getElem?_getD, Ad hi]; rfl
 have h3 : l.getD i 0 < β := by
  rw [List.getD_eq_getElem?_getD, Ad hi]; exact h _ (List.getElem_mem hi)
 rw [dw β l i (by omega), h2, ev, Nat.add_mul_div_left _ _ (Cm hβ), Bo h1, A3, Nat.add_mul_mod_self_left, Am h3]
theorem getD_set_ne (l : List Nat) (i k y : Nat) (h : i ≠ k) : (l.set i y).getD k 0 = l.getD k 0 := by
 rw [List.getD_eq_getElem?_getD, List.getD_eq_getElem?_getD, Dp h]
theorem eK (l : List Nat) (i y : Nat) (h : i < l.length) : (l.set i y).getD i 0 = y := by
 rw [List.getD_eq_getElem?_getD, Dk h]; rfl
theorem cM (β : Nat) (hβ : 0 < β) (l : List Nat) (h : ∀ x ∈ l, x < β) (i : Nat) : l.getD i 0 < β := by
 rw [List.getD_eq_getElem?_getD]
 cases hi : l[i]? with
 | none => exact hβ
 | some x => exact h x (A9 hi)
theorem pA (β : Nat) (l : List Nat) (h : ∀ x ∈ l, x < β) (i y : Nat) (hy : y < β) : ∀ x ∈ l.set i y, x < β := by
 intro x hx
 rcases List.mem_or_eq_of_mem_set hx with h1 | h1
 ·exact h x h1
 ·rw [h1]; exact hy
def jK (β : Nat) (c : List Nat) (i : Nat) : Nat := ev β (c.take i) / β ^ i
theorem jI (β : Nat) (c : List Nat) : jK β c 0 = 0 := by simp [jK, ev]
theorem jJ (β : Nat) (hβ : 0 < β) (c : List Nat) (i : Nat) (hi : i < c.length) : jK β c (i + 1) = (jK β c i + c.getD i 0) / β := by
 rw [jK, br β c i hi, A0, ← A6, Nat.add_mul_div_left _ _ (Cm hβ), jK]
theorem lE (β : Nat) (hβ : 0 < β) (c : List Nat) (i : Nat) (hi : i < c.length) : ev β c / β ^ i % β = (jK β c i + c.getD i 0) % β := by
 have h2 : c.drop i = c.getD i 0 :: c.drop (i + 1) := by
  rw [B3 hi, List.getD_eq_getElem?_getD, Ad hi]; rfl
 rw [dw β c i (by omega), h2, ev, Nat.add_mul_div_left _ _ (Cm hβ), ← Cl, Nat.add_mul_mod_self_left, jK]
theorem rp (β : Nat) (hβ : 1 < β) (c : List Nat) (M : Nat) (h : ∀ i, c.getD i 0 ≤ M) : ∀ i, i ≤ c.length → jK β c i ≤ M
 | 0, _ => by rw [jI]; omega
 | i + 1, hi => by
  have h1 := rp β hβ c M h i (by omega)
  rw [jJ β (by omega) c i (by omega)]
  have h2 := h i
  calc (jK β c i + c.getD i 0) / β ≤ (M + M) / β := Nat.div_le_div_right (by omega)
   _ ≤ (M + M) / 2 := Nat.div_le_div_left (by omega) (by omega)
   _ = M := by omega
end Go.Proofs.YtchonigdjamphaaGreatDoor
namespace Go.Proofs.YtchonigdjamphaaGreatDoor
set_option linter.unusedSimpArgs false
set_option linter.unusedVariables false
set_option maxRecDepth 20000
structure dZ (N A B i k : Nat) (c : List Nat) : Prop where
 len : c.length = N
 sum : ev 256 c = A % 256 ^ i * B + A / 256 ^ i % 256 * 256 ^ i * (B % 256 ^ k)
 all : ∀ j, c.getD j 0 ≤ (i + 1) * 65025
 rest : ∀ j, i + k ≤ j → c.getD j 0 ≤ i * 65025
theorem o0 (N j : Nat) : (List.replicate N 0).getD j 0 = 0 := by
 rw [List.getD_eq_getElem?_getD, List.getElem?_replicate]; split <;> rfl
theorem mM (N A B : Nat) : dZ N A B 0 0 (List.replicate N 0) :=
 ⟨by simp, by rw [nY]; simp [Nat.mod_one], fun j => by rw [o0]; exact Af _, fun j _ => by rw [o0]; exact Af _⟩
theorem jU (x y : Nat) : x % 256 * (y % 256) ≤ 65025 := by
 have h1 : x % 256 ≤ 255 := by omega
 have h2 : y % 256 ≤ 255 := by omega
 exact Dg h1 h2
theorem pe {N A B i k : Nat} {c : List Nat} (h : dZ N A B i k c) (hlt : i + k < N) :
  dZ N A B i (k + 1) (c.set (i + k) (c.getD (i + k) 0 + A / 256 ^ i % 256 * (B / 256 ^ k % 256))) := by
 have hp := jU (A / 256 ^ i) (B / 256 ^ k)
 have hl : i + k < c.length := by rw [h.len]; exact hlt
 refine ⟨by rw [Dc]; exact h.len, ?_, fun j => ?_, fun j hj => ?_⟩
 ·have h1 := BQ 256 c (i + k) (c.getD (i + k) 0 + A / 256 ^ i % 256 * (B / 256 ^ k % 256)) hl
  rw [h.sum, Bn] at h1
  rw [Nat.mod_pow_succ, Bn, ← Cl]
  have h2 : A / 256 ^ i % 256 * 256 ^ i * (256 ^ k * (B / 256 ^ k % 256)) = 256 ^ (i + k) * (A / 256 ^ i % 256 * (B / 256 ^ k % 256)) := by
   rw [Bj]; simp only [Ao, Bq, A1]
  rw [h2]; omega
 ·by_cases e : i + k = j
  ·subst e; rw [eK c _ _ hl]; have := h.rest (i + k) (Ba _); rw [Bk]; omega
  ·rw [getD_set_ne c _ _ _ e]; exact h.all j
 ·rw [getD_set_ne c _ _ _ (by omega)]; exact h.rest j (by omega)
theorem rm {N A B i n : Nat} {c : List Nat} (h : dZ N A B i n c) (hB : B < 256 ^ n) : dZ N A B (i + 1) 0 c := by
 refine ⟨h.len, ?_, fun j => Bi (h.all j) (by rw [Bk, Bk (i + 1)]; omega), fun j _ => h.all j⟩
 rw [h.sum, Am hB, Nat.mod_pow_succ, Bk, C6, Nat.mod_one, Nat.mul_zero, Bd, Ao (256 ^ i) (A / 256 ^ i % 256)]
theorem rn {N A B n : Nat} {c : List Nat} (h : dZ N A B n 0 c) (hA : A < 256 ^ n) : ev 256 c = A * B := by
 rw [h.sum, Am hA, C6, Nat.mod_one, Nat.mul_zero, Bd]
theorem ro {N A B i k : Nat} {c : List Nat} (h : dZ N A B i k c) (hi : i ≤ 100000) (j : Nat) : c.getD j 0 + A / 256 ^ i % 256 * (B / 256 ^ k % 256) ≤ 9000000000 ∧ A / 256 ^ i % 256 * (B / 256 ^ k % 256) ≤ 65025 := by
 have h1 := jU (A / 256 ^ i) (B / 256 ^ k)
 have h2 := h.all j
 omega
theorem mN {N A B n i : Nat} {c : List Nat} (h : dZ N A B n 0 c) (hn : n ≤ 100000) (hi : i < N) : jK 256 c i + c.getD i 0 ≤ 20000000000 := by
 have h1 := rp 256 (by decide) c ((n + 1) * 65025) h.all i (by rw [h.len]; omega)
 have h2 := h.all i
 omega
structure lN (β j g : Nat) (r0 d : List Nat) (i : Nat) (r : List Nat) (cy bw : Nat) : Prop where
 len : r.length = r0.length
 dig : ∀ x ∈ r, x < β
 low : r.take j = r0.take j
 high : r.drop (j + i) = r0.drop (j + i)
 sum : ev β (r.take (j + i)) + β ^ j * g * ev β (d.take i) = ev β (r0.take (j + i)) + β ^ (j + i) * (cy + bw)
 cyl : cy < β
 bwl : bw ≤ 1
theorem rR {β j g : Nat} {r0 d : List Nat} (hβ : 0 < β) (hd : ∀ x ∈ r0, x < β) : lN β j g r0 d 0 r0 0 0 :=
 ⟨rfl, hd, rfl, rfl, by simp [ev], hβ, by omega⟩
theorem fH {r r0 : List Nat} {k : Nat} (h : r.drop k = r0.drop k) : r.getD k 0 = r0.getD k 0 := by
 have := congrArg (fun l => l[0]?.getD 0) h
 simpa [List.getD_eq_getElem?_getD, Cy] using this
theorem i8 {α : Type} {r r0 : List α} {k : Nat} (h : r.drop k = r0.drop k) : r.drop (k + 1) = r0.drop (k + 1) := by
 have := congrArg (List.drop 1) h
 simpa [List.drop_drop] using this
theorem tF {β j g i cy bw y bw' : Nat} {r0 d r : List Nat} (h : lN β j g r0 d i r cy bw) (hβ : 0 < β) (hg : g < β) (hi : i < d.length) (hd : ∀ x ∈ d, x < β) (hj : j + i < r0.length)
  (hy : y + (cy + g * d.getD i 0) % β + bw = r.getD (j + i) 0 + β * bw') (hyl : y < β) (hbw : bw' ≤ 1) :
  lN β j g r0 d (i + 1) (r.set (j + i) y) ((cy + g * d.getD i 0) / β) bw' := by
 have hdi := cM β hβ d hd i
 have hjl : j + i < r.length := by rw [h.len]; exact hj
 refine ⟨by rw [Dc]; exact h.len, pA β r h.dig _ y hyl, by rw [eG r _ _ _ (by omega)]; exact h.low, ?_, ?_, ?_, hbw⟩
 ·rw [← Cl, gw r _ _ _ (by omega)]; exact i8 h.high
 ·have hx := fH h.high
  rw [← Cl, gt β r (j + i) y hjl, br β d i hi, br β r0 (j + i) hj, ← hx]
  have h1 := h.sum
  have h2 := Bl (cy + g * d.getD i 0) β
  generalize (cy + g * d.getD i 0) / β = q at *
  generalize (cy + g * d.getD i 0) % β = m at *
  have e1 : β ^ j * g * (ev β (d.take i) + β ^ i * d.getD i 0) = β ^ j * g * ev β (d.take i) + β ^ (j + i) * (g * d.getD i 0) := by
   rw [Bn, Bj]; congr 1; simp only [Ao, Bq, A1]
  have e2 : β ^ (j + i + 1) * (q + bw') = β ^ (j + i) * (β * q + β * bw') := by rw [A0, A1, Bn]
  rw [e1, e2]
  have e3 : cy + bw + y + g * d.getD i 0 = r.getD (j + i) 0 + (β * q + β * bw') := by omega
  have e4 := congrArg (β ^ (j + i) * ·) e3
  simp only [Bn] at e4 h1 ⊢
  omega
 ·rw [Co hβ]
  have : g * d.getD i 0 ≤ (β - 1) * (β - 1) := Dg (by omega) (by omega)
  have h3 := h.cyl
  have h4 : (β - 1) * (β - 1) + β ≤ β * β := by
   obtain ⟨b, rfl⟩ : ∃ b, β = b + 1 := ⟨β - 1, by omega⟩; simp only [Nat.add_sub_cancel, Bk, Bn]; omega
  omega
structure lQ (β j : Nat) (r0 d : List Nat) (i : Nat) (r : List Nat) (c : Nat) : Prop where
 len : r.length = r0.length
 dig : ∀ x ∈ r, x < β
 low : r.take j = r0.take j
 high : r.drop (j + i) = r0.drop (j + i)
 sum : ev β (r.take (j + i)) + β ^ (j + i) * c = ev β (r0.take (j + i)) + β ^ j * ev β (d.take i)
 cl : c ≤ 1
theorem tb {β j : Nat} {r0 d : List Nat} (hd : ∀ x ∈ r0, x < β) : lQ β j r0 d 0 r0 0 := ⟨rfl, hd, rfl, rfl, by simp [ev], by omega⟩
theorem wj {β j i c : Nat} {r0 d r : List Nat} (h : lQ β j r0 d i r c) (hβ : 1 < β) (hi : i < d.length) (hd : ∀ x ∈ d, x < β) (hj : j + i < r0.length) :
  lQ β j r0 d (i + 1) (r.set (j + i) ((c + r.getD (j + i) 0 + d.getD i 0) % β)) ((c + r.getD (j + i) 0 + d.getD i 0) / β) := by
 have hdi := cM β (by omega) d hd i
 have hri := cM β (by omega) r h.dig (j + i)
 have hjl : j + i < r.length := by rw [h.len]; exact hj
 have hcl := h.cl
 refine ⟨by rw [Dc]; exact h.len, pA β r h.dig _ _ (Aq _ (by omega)), by rw [eG r _ _ _ (by omega)]; exact h.low, ?_, ?_, ?_⟩
 ·rw [← Cl, gw r _ _ _ (by omega)]; exact i8 h.high
 ·have hx := fH h.high
  rw [← Cl, gt β r (j + i) _ hjl, br β d i hi, br β r0 (j + i) hj, ← hx]
  have h1 := h.sum
  have h2 := Bl (c + r.getD (j + i) 0 + d.getD i 0) β
  generalize (c + r.getD (j + i) 0 + d.getD i 0) / β = q at *
  generalize (c + r.getD (j + i) 0 + d.getD i 0) % β = m at *
  have e1 : β ^ j * (ev β (d.take i) + β ^ i * d.getD i 0) = β ^ j * ev β (d.take i) + β ^ (j + i) * d.getD i 0 := by
   rw [Bn, Bj, A1]
  have e2 : β ^ (j + i + 1) * q = β ^ (j + i) * (β * q) := by rw [A0, A1]
  rw [e1, e2]
  have e4 := congrArg (β ^ (j + i) * ·) h2
  simp only [Bn] at e4 h1 ⊢
  omega
 ·apply Ed
  rw [Co (by omega)]
  omega
theorem uV {β j n W Dv q : Nat} {r d : List Nat} (hβ : 0 < β) (hn : 0 < n) (hdl : d.length = n) (hj : j + n < r.length) (hr : ∀ x ∈ r, x < β)
  (hW : W = ev β (r.take (j + n + 1))) (hD : Dv = ev β d) (htop : 0 < d.getD (n - 1) 0) (hq : q * (β ^ j * Dv) ≤ W) (hlt : W < β ^ (j + 1) * Dv) :
  q ≤ (r.getD (j + n) 0 * β + r.getD (j + n - 1) 0) / d.getD (n - 1) 0 ∧ q < β := by
 have hDv : 0 < Dv := by
  rcases Bw Dv with e | e
  ·rw [e] at hlt; omega
  ·exact e
 constructor
 ·rw [Nat.le_div_iff_mul_le htop]
  have e1 : W = ev β (r.take (j + n - 1)) + β ^ (j + n - 1) * (r.getD (j + n - 1) 0 + β * r.getD (j + n) 0) := by
   rw [hW, br β r (j + n) hj, show j + n = (j + n - 1) + 1 by omega, br β r (j + n - 1) (by omega), A0, Bn, Nat.add_sub_cancel, A1, Cl]
  have e2 := fJ β r (j + n - 1) (by omega) hr
  have e3 : β ^ (n - 1) * d.getD (n - 1) 0 ≤ Dv := by
   rw [hD, dw β d (n - 1) (by omega), B3 (by omega), ev, List.getD_eq_getElem?_getD, Ad (by omega : n - 1 < d.length), Bn]; show β ^ (n - 1) * d[n - 1] ≤ _; omega
  have e4 : β ^ (j + n - 1) * (q * d.getD (n - 1) 0) ≤ W := by
   have : q * (β ^ j * (β ^ (n - 1) * d.getD (n - 1) 0)) ≤ q * (β ^ j * Dv) := Ca _ (Ca _ e3)
   have e5 : q * (β ^ j * (β ^ (n - 1) * d.getD (n - 1) 0)) = β ^ (j + n - 1) * (q * d.getD (n - 1) 0) := by
    rw [show j + n - 1 = j + (n - 1) by omega, Bj]; simp only [Ao, Bq, A1]
   omega
  have e6 : β ^ (j + n - 1) * (q * d.getD (n - 1) 0) < β ^ (j + n - 1) * (r.getD (j + n - 1) 0 + β * r.getD (j + n) 0 + 1) := by
   rw [Bn (β ^ (j + n - 1)) _ 1, As]; omega
  have e7 := Nat.lt_of_mul_lt_mul_left e6
  rw [Ao (r.getD (j + n) 0) β]; omega
 ·rcases Cc q β with e | e
  ·exact e
  ·have h1 : β * (β ^ j * Dv) ≤ q * (β ^ j * Dv) := Bp _ e; have h2 : β * (β ^ j * Dv) = β ^ (j + 1) * Dv := by rw [A0]; simp only [Ao, Bq, A1]
   omega
end Go.Proofs.YtchonigdjamphaaGreatDoor
namespace Go.Proofs.YtchonigdjamphaaGreatDoor
open Go.RowKit
set_option linter.unusedSimpArgs false
set_option linter.unusedVariables false
set_option maxHeartbeats 600000
set_option maxRecDepth 20000
theorem tu (s : Bs) (c : UInt8) : val (s ++ [c]) = val s * 256 + c.toNat := by rw [fo]; simp [val]
theorem g7 (s : Bs) (k : Nat) (h : k < s.length) : val (s.take (k + 1)) = val (s.take k) * 256 + (s.getD k default).toNat := by
 rw [Bv, Ad h, List.getD_eq_getElem?_getD, Ad h]
 exact tu _ _
theorem jQ (s : Bs) (k : Nat) (h : k ≤ 7) : val (s.take k) < 72057594037927936 :=
 Aw (aG _) (Bi (Ar (by decide) (Bi (List.length_take_le _ _) h)) (by decide))
theorem eS {s : Bs} (h : s.length ≤ 8) : val s < 18446744073709551616 :=
 Aw (aG _) (Bi (Ar (by decide) h) (by decide))
def bv (a : Bs) : Nat × Bool := if okN a ∧ a.length ≤ 8 then (val a, true) else (0, false)
theorem oA (a : Bs) : (bv a).1 < 18446744073709551616 := by
 unfold bv; split
 ·rename_i h; exact eS h.2
 ·decide
theorem fu {a : Bs} {w : World} (hal : a.length ≤ 9223372036854775807) :
  Cw 237 #[.string (S a)] w (.tuple #[.int .u64 ((bv a).1 : Int), .bool (bv a).2]) := by
 refine En [] [(0, .string (S a))] Tryz.func237 I Tryz.ntmps237 I (Ac I (An _)) Fn (Cs (Ka I (FM ?_))); refine Hp ?_; refine Nc 9 I (fun hg9 => ?_) (fun hg9 => ?_)
 ·refine T2 I (Kt I (Yp I (Nt (Cd I (fun _ => ?_) (fun h => by cases h)))))
  refine Cs (Ka I (le ?_)); refine Xb ?_
  exact IH
 ·refine Km I (Yn I u22 (Yg I (Yq I (Nt (Ci I (fun hc13 => ?_) (fun hc13 => ?_))))))
  ·refine Cs (Ka I (le ?_)); refine Xb ?_; exact IH
  ·have hok : okN a ∧ a.length ≤ 8 := ⟨by simp_all, by omega⟩; refine Ck (Xa (Cs (FM ?_))); refine Yn I u22 (Km I (Nt (Cb (Lp (σ := Nat) [(0, _), (15, _)] (fun gq => [(4, .int .u64 (val (a.take gq) : Int)), (16, .int .i64 (gq : Int))]) (fun gq => gq ≤ a.length) (fun gq => a.length - gq) (0) (S2 I I) (S2 I I) (by (try dsimp only); omega) ?_)))); rintro k hinv1; (try dsimp only at hinv1 ⊢); obtain hk := hinv1; refine ne (fun hc17 => ?_) (fun hc17 => ?_)
   ·have hv := jQ a k (by omega); have hc8 := (a.getD k default).toNat_lt; have hs1 := g7 a k (by omega); refine FO ?_; refine Km I (Ka I (Nt (Cg (Km I (Kq I (fA (c := 8) I I I (by decide) (by omega)) (Km I (Km I (Kq I (kU I I I u22 (by omega)) (Kq I (oM I I u5 nh (by decide)) ?_))))))))); refine Kq I (kX 8 I I I ?_) ?_
    ·omega
    refine Ns 25 I (v' := .int .u64 ((val (a.take (k + 1)) : Nat) : Int)) (congrArg (Value.int .u64) (by omega)) (Ka I (Nn (Xd (Xa (Cg (Kq I (Rz I I I (by omega)) (Km I (Nn ?_)))))))); refine Ly (k + 1) (by (try dsimp only); omega) (S2 I I) (by refine (Sc ?_ (Sc ?_ (S0 _))) <;> (rfl)) ?_ (fun _ h => h); (try dsimp only); omega
   ·refine Fq ?_; obtain rfl : k = a.length := by omega
    refine Xa (H7 ?_); refine le ?_; exact R2 I I I (by rw [bv, Ae hok, Ai]; rfl)
theorem kK {a : Bs} {w : World} (hal : a.length ≤ 8) :
  Cw 287 #[.string (S a)] w (.int .u64 (val a : Int)) := by
 refine En [] [(0, .string (S a))] Tryz.func287 I Tryz.ntmps287 I (Ac I (An _)) Fn (Cs (Ka I (Nt (Cs (GI ?_))))); refine Ka I (Nt (Cb (Lp (σ := Nat) [(0, _)] (fun gq => [(3, .int .u64 (val (a.take gq) : Int)), (4, .int .i64 (gq : Int))]) (fun gq => gq ≤ a.length) (fun gq => a.length - gq) (0) (S1 I) (S2 I I) (by (try dsimp only); omega) ?_)))
 rintro k hinv1; (try dsimp only at hinv1 ⊢)
 obtain hk := hinv1
 refine Cq (Hd ?_); refine Yn I u22 (F7 (fun hc8 => ?_) (fun hc8 => ?_))
 ·have hv := jQ a k (by omega)
  have hc8 := (a.getD k default).toNat_lt
  have hs1 := g7 a k (by omega)
  refine Ck (Xa (Cq (Cb (Cg (Km I (Kq I (bY (c := 256) I I I (by omega)) (Km I (Km I (Kq I (kU I I I u22 (by omega)) (Kq I (oM I I u5 nh (by decide)) (Kq I (cJ I I I (by omega)) (Ns 17 I (v' := .int .u64 ((val (a.take (k + 1)) : Nat) : Int)) (congrArg (Value.int .u64) (by omega)) (Ka I (Nn (Xd (Xa (Cg (Km I (Kq I (Rz I I I (by omega)) (Ka I (Nn (Ly (k + 1) (by (try dsimp only); omega) (S1 I) (by refine (Sc ?_ (Sc ?_ (S0 _))) <;> (rfl)) ?_ (fun _ h => h)))))))))))))))))))))))
  (try dsimp only)
  omega
 ·refine Fq ?_
  obtain rfl : k = a.length := by omega
  refine Xa (Cs (Km I (le ?_)))
  exact R1 I I (by rw [Ai]; rfl)
theorem kM {a : Bs} {w : World} :
  Cw 326 #[.string (S a)] w (.tuple #[.int .u64 ((bv a).1 : Int), .bool (bv a).2]) := by
 refine En [] [(0, .string (S a))] Tryz.func326 I Tryz.ntmps326 I (Ac I (An _)) Fn (Cs (Ka I (FM ?_))); refine Kc I (fun w hS => aY) (Yt I (Km I (Nc 7 I (fun hg7 => ?_) (fun hg7 => ?_))))
 ·refine T2 I (Kt I (Yp I (Nt (Cd I (fun _ => ?_) (fun h => by cases h)))))
  refine Cs (Ka I (le ?_)); refine Xb ?_
  exact IH
 ·refine Km I (Yn I u22 (Yg I (Yq I (Nt (Ci I (fun hc11 => ?_) (fun hc11 => ?_))))))
  ·refine Cs (Ka I (le ?_)); refine Xb ?_; exact IH
  ·have hok : okN a ∧ a.length ≤ 8 := ⟨by simp_all, by omega⟩; have hal := hok.2; refine Ck (Xa (Cs (Km I (Kc I (fun w hS => kK (by assumption)) (Ka I (le ?_)))))); exact R2 I I I (by rw [bv, Ae hok]; rfl)
theorem pw {x y : Nat} (h : x % 256 = y % 256) : UInt8.ofNat x = UInt8.ofNat y := UInt8.toNat.inj (by rw [UInt8.toNat_ofNat', UInt8.toNat_ofNat']; exact h)
def cP (c : List Nat) : List Value := c.map fun (x : Nat) => .int .i64 (x : Int)
theorem jc (n : Nat) : cP (List.replicate n 0) = List.replicate n (.int .i64 0) := by simp [cP]
theorem dy (c : List Nat) (i y : Nat) : (cP c).set i (.int .i64 (y : Int)) = cP (c.set i y) := by simp [cP, List.map_set]
theorem dz (c : List Nat) : (cP c).length = c.length := by simp [cP]
theorem bq (c : List Nat) (i : Nat) (h : i < c.length) : (cP c)[i]? = some (.int .i64 (c.getD i 0 : Int)) := by
 simp [cP, A4, Ad h, List.getD_eq_getElem?_getD]
theorem r6 {a b : Bs} {p : Nat} {cs : List Value} {ok : Nat → Prop} {w0 : World} {fs : List Fact} {w : World} (hS0 : St ok w0 ([⟨some p, cs, 315⟩]) (fs) w) (hcs : cs.length = 256) (ha : a.length ≤ 128) (hb : b.length ≤ 128) :
  Calls Tryz.prog 252 #[.string (S a), .string (S b), .pointer (some ⟨p, 0, none⟩)] w fun e w' => ∃ c : List Nat, e = .returned (.string (S (ae (val a * val b)))) ∧ St ok w0 [⟨some p, cP c, 315⟩] fs w' := by
 refine enter (S := St ok w0 ([⟨some p, cs, 315⟩]) (fs)) (L := [(0, .string (S a)), (1, .string (S b)), (2, .pointer (some ⟨p, 0, none⟩))]) Tryz.func252 rfl Tryz.ntmps252 rfl (Ac rfl (Ac rfl (Ac rfl (An _)))) hS0 ?_
 refine Cs (FN ?_); refine Kq I (bA I I) (Kq I (eP I I wA (by kernel_rfl : _ = some 1)) ?_)
 refine Ng I I (clr I I .tc dA (by kernel_rfl : _ = some (some (.int .i64 0), 1, 8)) I I ?_ ?_ (show _ = cP (List.replicate 256 0) by rw [jc, Bz, Da (by omega), A5, List.nil_append])) ?_
 ·decide
 ·omega
 intro _
 refine Nt (Cq (Cs (Km I (Yn I u22 (Km I (Nt (Cb (Lo (σ := Nat × (List Nat)) [(0, _), (1, _), (2, _), (18, _)] (fun gq => [(19, .int .i64 (gq.1 : Int))]) (fun gq => gq.1 ≤ a.length ∧ dZ 256 (val a) (val b) gq.1 0 gq.2) (fun gq => a.length - gq.1) (fun gq => [⟨some p, cP gq.2, 315⟩]) (fun gq => fs) (0, List.replicate 256 0) (S4 I I I I) (S1 I) (by (try dsimp only); exact ⟨Af _, mM _ _ _⟩) (fun _ h => h) ?_))))))))
 rintro ⟨i, c⟩ hinv1; (try dsimp only at hinv1 ⊢)
 obtain ⟨hi, hci⟩ := hinv1
 refine ne (fun hc20 => ?_) (fun hc20 => ?_)
 ·refine FO ?_; refine Km I (FN ?_); refine Km I (Kc I (fun w hS => dx (a := a) (i := i) (by omega) (by omega)) (FN ?_)); refine Yn I u22 (Km I (Nt (Cb (Lo (σ := Nat × (List Nat)) [(0, _), (1, _), (2, _), (7, _), (8, _), (18, _), (19, _), (26, _)] (fun gq => [(27, .int .i64 (gq.1 : Int))]) (fun gq => gq.1 ≤ b.length ∧ dZ 256 (val a) (val b) i gq.1 gq.2) (fun gq => b.length - gq.1) (fun gq => [⟨some p, cP gq.2, 315⟩]) (fun gq => fs) (0, c) (S8 I I I I I I I I) (S1 I) (by (try dsimp only); exact ⟨Af _, hci⟩) (fun _ h => h) ?_))))
  rintro ⟨k, c2⟩ hinv2; (try dsimp only at hinv2 ⊢)
  obtain ⟨hk, hck⟩ := hinv2
  refine ne (fun hc28 => ?_) (fun hc28 => ?_)
  ·have hcl := hck.len; have hca := ro hck (by omega) (i + k); have hcs2 := pe hck (by omega); refine FO ?_; refine Km I (Ka I (Nt (Cf [8, 9, 10, 0, 1, 2, 3, 4, 5, 6, 7, 11, 12, 13, 14] [15] [0, 0, 0, 0, 0, 0, 0, 0, 0, 0, 1, 0, 0, 0, 0, 2] (by kernel_rfl) (by kernel_rfl) I ?_))); refine Ft ?_; refine Jv I I I I I (fun ext => Oc I I (Kv fun w hS => dx (a := b) (i := k) (by omega) (by omega))) ?_; refine Ft ?_; refine GP ?_; refine HM ?_; refine Kj I (bA I I) ?_; refine Kj I (Jb I I I wA (by kernel_rfl : _ = some 1) ?_) ?_
   ·omega
   refine Kj I (ld I I .tc u3 I (bq c2 _ (by omega))) ?_; refine GP ?_; refine Kj I (gH I I I (by omega)) (HM ?_); refine Kj I (bA I I) ?_; refine Kj I (Jb I I I wA (by kernel_rfl : _ = some 1) ?_) ?_
   ·omega
   refine WJ.nil ?_; refine Ng I I (st I I I .tc (by kernel_rfl) I ?_ (by rfl)) ?_
   ·rw [dz]; omega
   intro _; rw [dy]; refine Nn (Xd (Xa (Cg (Kq I (Rz I I I (by omega)) (Km I (Nn (Lx ((k + 1, c2.set (i + k) (c2.getD (i + k) 0 + val a / 256 ^ i % 256 * (val b / 256 ^ k % 256)))) (by (try dsimp only); omega) (S8 I I I I I I I I) (by refine (Sc ?_ (S0 _)) <;> (rfl)) ?_ (fun _ h => h)))))))); (try dsimp only); exact ⟨by omega, hcs2⟩
  ·refine Fq ?_; obtain rfl : k = b.length := by omega
   have hrow := rm hck (aG b); refine Xd (Xa (Cg (Kq I (Rz I I I (by omega)) (Km I (Nn (Lx ((i + 1, c2)) (by (try dsimp only); omega) (S4 I I I I) (by refine (Sc ?_ (S0 _)) <;> (rfl)) ?_ (fun _ h => h))))))); (try dsimp only); exact ⟨by omega, hrow⟩
 ·refine Fq ?_
  obtain rfl : i = a.length := by omega
  have hev := rn hci (aG a)
  have hcl := hci.len
  obtain ⟨V, hV⟩ : ∃ V, V = val a * val b := ⟨_, rfl⟩
  rw [← hV] at hev
  have hVl : V < 256 ^ (a.length + b.length) := by rw [hV, Bj]; exact De (aG a) (aG b)
  refine Xa (Cs (Km I (Yn I u22 (Km I (Yn I u22 (Kq I (aC I I I (by omega)) (Ka I (Nt (Cs (Km I (Kh I (ed I I I aF (by kernel_rfl : _ = some (some (.int .u8 0), 1, 1)) I ?_ (by (try simp only [sN, Int.reduceToNat, Nat.reduceAdd, Nat.reduceMul, Nat.reduceSub]); rfl) (by (try simp only [sN, Int.reduceToNat, Nat.reduceAdd, Nat.reduceMul, Nat.reduceSub]); rfl)) ?_)))))))))))
  ·omega
  intro b53
  refine Ka I (Nt (Cs (FM ?_))); refine Km I (Nt (Cb (Lo (σ := Nat × Nat) [(2, _), (10, _), (11, _), (54, _)] (fun gq => [(12, .int .i64 (gq.2 : Int)), (55, .int .i64 (gq.1 : Int))]) (fun gq => gq.1 ≤ a.length + b.length ∧ gq.2 = jK 256 c gq.1) (fun gq => a.length + b.length - gq.1) (fun gq => [⟨some b53, fE (a.length + b.length) gq.1 V, 5⟩, ⟨some p, cP c, 315⟩]) (fun gq => fs) (0, 0) (S4 I I I I) (S2 I I) (by (try dsimp only); exact ⟨Af _, (jI 256 c).symm⟩) (by exact fun w h => by rw [dk]; exact h) ?_)))
  rintro ⟨i, cy⟩ hinv3; (try dsimp only at hinv3 ⊢)
  obtain ⟨hi, hcy⟩ := hinv3
  refine ne (fun hc56 => ?_) (fun hc56 => ?_)
  ·have hcc := mN (i := i) hci (by omega) (by omega); have hcs3 := jJ 256 (by decide) c i (by omega); have hcd := lE 256 (by decide) c i (by omega); rw [← hcy] at hcc hcs3 hcd; rw [hev] at hcd; refine Ck (Xa (Cq (Cb (Cs (Km I (Ka I (Nt (Cs (Km I (Km I (Km I (Kq I (bA I I) (Kq I (Jb I I I wA (by kernel_rfl : _ = some 1) ?_) ?_)))))))))))))
   ·omega
   refine Kq I (ld I I .tc u3 I (bq c _ (by omega))) ?_; refine Hk ?_; refine FN ?_; refine Km I (F1 ?_); refine Km I (Kq I (iJ I I u3 u5) (Ns 71 I (v' := B (UInt8.ofNat (V / 256 ^ i))) (by exact congrArg (fun b : UInt8 => B b) (pw hcd.symm)) ?_)); refine FX ?_; refine Ng I I (st I I I .tc (by kernel_rfl) I ?_ (by rfl)) ?_
   ·rw [cD _ _ _ (by omega)]; omega
   intro _; refine Nt (Cg (Km I (Kq I (bQ (c := 8) I I I (by decide)) (Ka I (Nn (Xd (Xa (Cg (Kq I (Rz I I I (by omega)) (Km I (Nn (Lx ((i + 1, (cy + c.getD i 0) / 256)) (by (try dsimp only); omega) (S4 I I I I) (by refine (Sc ?_ (Sc ?_ (S0 _))) <;> (rfl)) ?_ (by exact fun w h => by rw [← cC (a.length + b.length) i V (by omega)]; exact h))))))))))))); (try dsimp only); exact ⟨by omega, hcs3.symm⟩
  ·refine Fq ?_; obtain rfl : i = a.length + b.length := by omega
   rw [cL]; have hbl := aQ (a.length + b.length) V; refine Xa (Cs (Km I (Kc I (fun w hS => em (b := be (a.length + b.length) V) (by (exact hS.os)) (by omega) (by omega) (by omega)) (le ?_)))); exact Rn I (.tmp I .nil) fun w' hS => ⟨c, by rw [dF, Am hVl, hV]; rfl, aq _ hS⟩
end Go.Proofs.YtchonigdjamphaaGreatDoor
namespace Go.Proofs.YtchonigdjamphaaGreatDoor
set_option linter.unusedSimpArgs false
set_option linter.unusedVariables false
set_option maxRecDepth 20000
section
variable {β u n y1 y0 q rh : Nat}
theorem vD (hn : n < β) (hu : u < y1 * β + y0) : (u * β + n) / (y1 * β + y0) < β := by
 rw [Co (by omega)]
 have : (u + 1) * β ≤ (y1 * β + y0) * β := Bp _ hu
 rw [Bk, Cn] at this
 rw [Ao β]; omega
theorem rj (hn : n < β) (hy1 : 0 < y1) : (u * β + n) / (y1 * β + y0) ≤ u / y1 := by
 have hβ : 0 < β := by omega
 rw [Nat.le_div_iff_mul_le hy1]
 have h1 := D6 (u * β + n) (y1 * β + y0)
 generalize (u * β + n) / (y1 * β + y0) = Q at *
 have h2 : Q * y1 * β ≤ Q * (y1 * β + y0) := by rw [A1]; exact Ca _ (by omega)
 have h3 : Q * y1 * β < (u + 1) * β := by rw [Bk, Cn]; omega
 exact Ed (Nat.lt_of_mul_lt_mul_right h3)
theorem EF (hy : 0 < y1 * β + y0) (hi : u = q * y1 + rh) (hc : q * y0 ≤ β * rh + n) : q ≤ (u * β + n) / (y1 * β + y0) := by
 rw [Nat.le_div_iff_mul_le hy]
 subst hi
 have e : q * (y1 * β + y0) = q * y1 * β + q * y0 := by rw [Bn, A1]
 rw [e, Bk, Ao rh β]; omega
theorem kn (hy : 0 < y1 * β + y0) (hi : u = q * y1 + rh) (hQ : (u * β + n) / (y1 * β + y0) ≤ q) (hc : q * y0 ≤ β * rh + n) : q = (u * β + n) / (y1 * β + y0) :=
 Nat.le_antisymm (EF hy hi hc) hQ
theorem pd (hy1 : 0 < y1) (hy0 : y0 < β) (hu : u < y1 * β + y0) (hi : u = q * y1 + rh) (hb : β ≤ rh) : q < β ∧ q * y0 ≤ β * rh + n := by
 have h1 : q * y1 < β * y1 := by rw [Ao β]; omega
 have h2 : q < β := Nat.lt_of_mul_lt_mul_right h1
 refine ⟨h2, ?_⟩
 have h3 : q * y0 ≤ β * β := Dg (by omega) (by omega)
 have h4 : β * β ≤ β * rh := Ca _ hb
 omega
theorem ri (hn : n < β) (hu : u < y1 * β + y0) (hi : u = q * y1 + rh) (hQ : (u * β + n) / (y1 * β + y0) ≤ q) (hc : β ≤ q ∨ β * rh + n < q * y0) : 1 ≤ q ∧ (u * β + n) / (y1 * β + y0) ≤ q - 1 := by
 have h1 := vD hn hu
 rcases hc with hc | hc
 ·omega
 ·have h2 : (u * β + n) / (y1 * β + y0) < q := by
   rw [Co (by omega)]; subst hi; have e : q * (y1 * β + y0) = q * y1 * β + q * y0 := by rw [Bn, A1]
   rw [e, Bk, Ao rh β]; omega
  exact ⟨Bb (Af _) h2, Nat.le_sub_one_of_lt h2⟩
end
theorem yr {β u n1 n0 y q1 q0 v w : Nat} (h1 : u * β + n1 = q1 * y + v) (h0 : v * β + n0 = q0 * y + w) (hw : w < y) : (u * (β * β) + (n1 * β + n0)) / y = q1 * β + q0 ∧ (u * (β * β) + (n1 * β + n0)) % y = w := by
 have e : u * (β * β) + (n1 * β + n0) = (q1 * β + q0) * y + w := by
  have : (u * β + n1) * β = (q1 * y + v) * β := by rw [h1]
  simp only [Bk, A1] at this ⊢
  rw [Ao y β] at this
  omega
 rw [e]
 constructor
 ·rw [Ao, Cj (by omega), Bo hw, Bd]
 ·rw [Ao, Nat.mul_add_mod, Am hw]
structure Euc (a b r0 r1 : Nat) (x0 x1 y0 y1 : Int) : Prop where
 e0 : (a : Int) * x0 + b * y0 = r0
 e1 : (a : Int) * x1 + b * y1 = r1
 bx : x1.natAbs * r0 + x0.natAbs * r1 = b
 ab : y1.natAbs * r0 + y0.natAbs * r1 = a
 sx : (0 ≤ x0 ∧ x1 ≤ 0) ∨ (x0 ≤ 0 ∧ 0 ≤ x1)
 sy : (0 ≤ y0 ∧ y1 ≤ 0) ∨ (y0 ≤ 0 ∧ 0 ≤ y1)
 gc : Nat.gcd r0 r1 = Nat.gcd a b
theorem mH (a b : Nat) : Euc a b a b 1 0 0 1 := ⟨by simp, by simp, by simp, by simp, .inl ⟨by decide, by decide⟩, .inr ⟨by decide, by decide⟩, rfl⟩
theorem kr {x0 x1 : Int} (q : Nat) (h : (0 ≤ x0 ∧ x1 ≤ 0) ∨ (x0 ≤ 0 ∧ 0 ≤ x1)) : (x0 - q * x1).natAbs = x0.natAbs + q * x1.natAbs ∧ ((0 ≤ x1 ∧ x0 - q * x1 ≤ 0) ∨ (x1 ≤ 0 ∧ 0 ≤ x0 - q * x1)) := by
 rcases h with ⟨h0, h1⟩ | ⟨h0, h1⟩
 ·obtain ⟨m, rfl⟩ : ∃ m : Nat, x1 = -(m : Int) := ⟨x1.natAbs, by omega⟩
  have e : (q : Int) * -(m : Int) = -((q * m : Nat) : Int) := by rw [Ec, C0]
  rw [e, Int.natAbs_neg, Bh]
  exact ⟨by omega, .inr ⟨by omega, by omega⟩⟩
 ·obtain ⟨m, rfl⟩ : ∃ m : Nat, x1 = (m : Int) := ⟨x1.natAbs, by omega⟩
  rw [← C0, Bh]
  exact ⟨by omega, .inl ⟨by omega, by omega⟩⟩
theorem lz {a b r0 r1 : Nat} {x0 x1 y0 y1 : Int} (h : Euc a b r0 r1 x0 x1 y0 y1) (hr : 0 < r1) : Euc a b r1 (r0 % r1) x1 (x0 - (r0 / r1 : Nat) * x1) y1 (y0 - (r0 / r1 : Nat) * y1) := by
 have hd := Bl r0 r1
 obtain ⟨hx1, hx2⟩ := kr (r0 / r1) h.sx
 obtain ⟨hy1, hy2⟩ := kr (r0 / r1) h.sy
 refine ⟨h.e1, ?_, ?_, ?_, hx2, hy2, ?_⟩
 ·have h0 := h.e0; have h1 := h.e1
  have e : (r0 : Int) = r1 * (r0 / r1 : Nat) + (r0 % r1 : Nat) := by rw [← C0, ← Dd, hd]
  generalize ((r0 / r1 : Nat) : Int) = Q at *
  generalize ((r0 % r1 : Nat) : Int) = M at *
  have e2 : (a : Int) * (x0 - Q * x1) + b * (y0 - Q * y1) = (a * x0 + b * y0) - (a * x1 + b * y1) * Q := by
   simp only [Int.mul_sub, Int.add_mul, Int.mul_assoc, Int.mul_comm Q, Int.mul_left_comm]; omega
  rw [e2, h0, h1]; omega
 ·rw [hx1]
  have h1 := h.bx
  have e3 : (x0.natAbs + r0 / r1 * x1.natAbs) * r1 + x1.natAbs * (r0 % r1) = x1.natAbs * (r1 * (r0 / r1) + r0 % r1) + x0.natAbs * r1 := by
   simp only [Bk, Bn, A1, Ao, Bq]; omega
  rw [e3, hd]; exact h1
 ·rw [hy1]
  have h1 := h.ab
  have e3 : (y0.natAbs + r0 / r1 * y1.natAbs) * r1 + y1.natAbs * (r0 % r1) = y1.natAbs * (r1 * (r0 / r1) + r0 % r1) + y0.natAbs * r1 := by
   simp only [Bk, Bn, A1, Ao, Bq]; omega
  rw [e3, hd]; exact h1
 ·rw [← h.gc, Nat.gcd_comm r0 r1, Nat.gcd_rec r1 r0, Nat.gcd_comm]
theorem vo {a b r0 r1 : Nat} {x0 x1 y0 y1 : Int} (h : Euc a b r0 r1 x0 x1 y0 y1) (hr : 0 < r0) : x1.natAbs ≤ b ∧ y1.natAbs ≤ a := by
 have h1 := h.bx; have h2 := h.ab
 have h3 : x1.natAbs * 1 ≤ x1.natAbs * r0 := Ca _ hr
 have h4 : y1.natAbs * 1 ≤ y1.natAbs * r0 := Ca _ hr
 omega
theorem yk {a b r0 r1 : Nat} {x0 x1 y0 y1 : Int} (h : Euc a b r0 r1 x0 x1 y0 y1) (hr : 0 < r1) : r0 / r1 * x1.natAbs ≤ b ∧ r0 / r1 * y1.natAbs ≤ a := by
 have h' := lz h hr
 have h1 := vo h' hr
 rw [(kr (r0 / r1) h.sx).1, (kr (r0 / r1) h.sy).1] at h1
 omega
end Go.Proofs.YtchonigdjamphaaGreatDoor
namespace Go.Proofs.YtchonigdjamphaaGreatDoor
open Go.RowKit
set_option linter.unusedSimpArgs false
set_option linter.unusedVariables false
set_option maxHeartbeats 600000
set_option maxRecDepth 20000
theorem AO {β x0 x1 y0 y1 : Nat} (hβ : 0 < β) : (x1 * β + x0) * (y1 * β + y0) / (β * β) = x1 * y1 + (x1 * y0 + x0 * y0 / β) / β + ((x1 * y0 + x0 * y0 / β) % β + x0 * y1) / β := by
 have e1 := Bl (x0 * y0) β
 have e2 := Bl (x1 * y0 + x0 * y0 / β) β
 have e3 := Bl ((x1 * y0 + x0 * y0 / β) % β + x0 * y1) β
 have l1 := Aq (x0 * y0) hβ
 have l3 := Aq ((x1 * y0 + x0 * y0 / β) % β + x0 * y1) hβ
 generalize x0 * y0 / β = a at *
 generalize x0 * y0 % β = p0 at *
 generalize (x1 * y0 + a) / β = w2 at *
 generalize (x1 * y0 + a) % β = t0 at *
 generalize (t0 + x0 * y1) / β = b at *
 generalize (t0 + x0 * y1) % β = w10 at *
 have e : (x1 * β + x0) * (y1 * β + y0) = β * β * (x1 * y1 + w2 + b) + (w10 * β + p0) := by
  have f1 : (x1 * β + x0) * (y1 * β + y0) = x1 * y1 * (β * β) + (x1 * y0 + x0 * y1) * β + x0 * y0 := by
   simp only [Bk, Bn, A1, Ao, Bq]; omega
  have f2 : (x1 * y0 + x0 * y1) * β + a * β = (β * w2 + (β * b + w10)) * β := by rw [← Bk]; congr 1; omega
  have f3 : (β * w2 + (β * b + w10)) * β = β * β * w2 + β * β * b + w10 * β := by
   simp only [Bk, Bn, A1, Ao, Bq]; omega
  rw [f1, ← e1, Bn, Bn, Ao (x1 * y1)]
  rw [Ao β a]
  omega
 have l : w10 * β + p0 < β * β := by
  have : (w10 + 1) * β ≤ β * β := Bp _ l3
  rw [Bk, Cn] at this; omega
 rw [e, Cj (Nat.mul_pos hβ hβ), Bo l, Bd]
theorem qN {x y : Nat} {w : World} (hx : x < 18446744073709551616) (hy : y < 18446744073709551616) :
  Cw 238 #[.int .u64 (x : Int), .int .u64 (y : Int)] w (.tuple #[.int .u64 ((x * y / 18446744073709551616 : Nat) : Int), .int .u64 ((x * y % 18446744073709551616 : Nat) : Int)]) := by
 obtain ⟨x0, hx0⟩ : ∃ q, q = x % 2 ^ 32 := ⟨_, rfl⟩
 obtain ⟨x1, hx1⟩ : ∃ q, q = x / 2 ^ 32 := ⟨_, rfl⟩
 obtain ⟨y0, hy0⟩ : ∃ q, q = y % 2 ^ 32 := ⟨_, rfl⟩
 obtain ⟨y1, hy1⟩ : ∃ q, q = y / 2 ^ 32 := ⟨_, rfl⟩
 have hm : ∀ a b : Nat, a < 4294967296 → b < 4294967296 → a * b ≤ 18446744065119617025 := fun a b ha hb => Dg (by omega : a ≤ 4294967295) (by omega : b ≤ 4294967295)
 have h00 := hm x0 y0 (by omega) (by omega)
 have h10 := hm x1 y0 (by omega) (by omega)
 have h01 := hm x0 y1 (by omega) (by omega)
 have h11 := hm x1 y1 (by omega) (by omega)
 have hxe : x = x1 * 4294967296 + x0 := by omega
 have hye : y = y1 * 4294967296 + y0 := by omega
 have hhi := AO (β := 4294967296) (x0 := x0) (x1 := x1) (y0 := y0) (y1 := y1) (by decide)
 rw [← hxe, ← hye] at hhi
 refine En [] [(0, .int .u64 (x : Int)), (1, .int .u64 (y : Int))] Tryz.func238 I Tryz.ntmps238 I (Ac I (Ac I (An _))) Fn (Cs (Ka I (Ka I (Nt (Cs (Km I (Kq I (dT 32 I I I (by decide) ?_) ?_)))))))
 ·omega
 refine Ns 15 I (v' := .int .u64 ((x0 : Nat) : Int)) (congrArg (Value.int .u64) (by rw [hx0])) ?_
 refine FN ?_; refine HE ?_
 refine Ns 17 I (v' := .int .u64 ((x1 : Nat) : Int)) (congrArg (Value.int .u64) (by rw [hx1])) ?_
 refine Ka I (Nt (Cs (Km I (Kq I (dT 32 I I I (by decide) ?_) ?_))))
 ·omega
 refine Ns 19 I (v' := .int .u64 ((y0 : Nat) : Int)) (congrArg (Value.int .u64) (by rw [hy0])) ?_
 refine FN ?_; refine HE ?_
 refine Ns 21 I (v' := .int .u64 ((y1 : Nat) : Int)) (congrArg (Value.int .u64) (by rw [hy1])) ?_
 refine Ka I (Nt (Cs (Km I (Km I (Kq I (bY I I I (by omega)) (Ka I (Nt (Cs (Km I (Km I (Kq I (bY I I I (by omega)) (Km I (Kq I (bQ (c := 32) I I I (by decide)) (Kq I (cJ I I I (by omega)) (Ka I (Nt (Cs (Km I (Kq I (dT 32 I I I (by decide) ?_) ?_)))))))))))))))))))
 ·omega
 refine FN ?_; refine HE ?_; refine FN ?_; refine Km I (Km I (Kq I (bY I I I (by omega)) (Kq I (cJ I I I (by omega)) (FN ?_)))); refine Km I (Kq I (bY I I I (by omega)) (Km I (Kq I (cJ I I I (by omega)) (Km I (HE ?_))))); refine Kq I (cJ I I I (by omega)) (FN ?_); refine Km I (Kq I (iI I I I) (le ?_))
 exact R2 I I I (by rw [hhi]; rfl)
theorem mW : 18446744073709551616 ≤ Big := by show 256 ^ 8 ≤ 256 ^ 128; exact Ar (by decide) (by decide)
def eg (a b : Bs) : Bs × Int := if okN a ∧ okN b then (if val a * val b < Big then (ae (val a * val b), 0) else ([], 5)) else ([], 3)
theorem q7 {a b : Bs} (hab : okN a ∧ okN b) : (if 128 < (ae (val a * val b)).length then ([] : Bs) else ae (val a * val b)) = (eg a b).1 ∧ (if 128 < (ae (val a * val b)).length then (5 : Int) else 0) = (eg a b).2 := by
 rw [eg, Ae hab]
 by_cases h : val a * val b < Big
 ·have := eo.2 h
  rw [Ae h, Aa (by omega), Aa (by omega)]; exact ⟨rfl, rfl⟩
 ·have : ¬ (ae (val a * val b)).length ≤ 128 := fun q => h (eo.1 q)
  rw [Aa h, Ae (by omega), Ae (by omega)]; exact ⟨rfl, rfl⟩
theorem qL {a b : Bs} {w : World} :
  Cw 195 #[.string (S a), .string (S b)] w (NE (eg a b)) := by
 obtain ⟨sa, hsa⟩ : ∃ q, q = bv a := ⟨_, rfl⟩
 obtain ⟨sb, hsb⟩ : ∃ q, q = bv b := ⟨_, rfl⟩
 have hla := oA a; have hlb := oA b
 rw [← hsa] at hla; rw [← hsb] at hlb
 refine En [] [(0, .string (S a)), (1, .string (S b))] Tryz.func195 I Tryz.ntmps195 I (Ac I (Ac I (An _))) Fn (Cs (Ka I (FM ?_))); refine Hp ?_; refine Nc 16 I (fun hg16 => ?_) (fun hg16 => ?_)
 ·refine T2 I (Kt I (Yp I (Nt (Cd I (fun _ => ?_) (fun h => by cases h)))))
  refine Cs (Ka I (le ?_)); refine Xb ?_
  exact IM
 ·refine GM (fun hc20 => ?_) (fun hc20 => ?_)
  ·refine Cs (Ka I (le ?_)); refine Xb ?_; exact IM
  ·have hab : okN a ∧ okN b := by simp_all
   have hal := hab.1.1; have hbl := hab.2.1; refine Ck (Xa (Cs (Km I (Kc I (fun w hS => (by have := fu (w := w) (a := a) (by omega); rw [← hsa] at this; exact this)) (Fs ?_))))); refine Cs (Km I (Kc I (fun w hS => (by have := fu (w := w) (a := b) (by omega); rw [← hsb] at this; exact this)) (Fs ?_))); refine Cq (Hd ?_); refine Kc I (fun w hS => qN (x := sa.1) (y := sb.1) (by assumption) (by assumption)) (Fs ?_); refine WC.joinP (σ := Unit) [(0, _), (1, _), (11, _)] (fun gq => [(48, .bool (decide (a.length ≤ 8 ∧ b.length ≤ 8 ∧ sa.1 * sb.1 / 18446744073709551616 = 0)))]) (fun gq => True) (S3 I I I) ?_ ?_
   ·skip
    refine Cg (Km I (Yn I u22 (Ym I (Km I (Nc 40 I (fun hg40 => ?_) (fun hg40 => ?_))))))
    ·refine Km I (H5 ?_); refine Nc 45 I (fun hg45 => ?_) (fun hg45 => ?_)
     ·refine Km I (Yi I (Yp I (Nn (WX.joinP (()) (S3 I I I) (by refine (Sc ?_ (S0 _)) <;> ((refine ao rfl ?_; (try dsimp only); (exact Ak.2 (by omega))))) ?_ (fun _ h => h))))); (try dsimp only); done
     ·refine T2 I (Yq I (Nn (WX.joinP (()) (S3 I I I) (by refine (Sc ?_ (S0 _)) <;> ((exact congrArg (fun b => some (Value.bool b)) (by symm; apply Aj; omega)))) ?_ (fun _ h => h)))); (try dsimp only); done
    ·refine T2 I (Kt I (Yq I (Km I (T2 I (Yq I (Nn (WX.joinP (()) (S3 I I I) (by refine (Sc ?_ (S0 _)) <;> ((exact congrArg (fun b => some (Value.bool b)) (by symm; apply Aj; omega)))) ?_ (fun _ h => h)))))))); (try dsimp only); done
   ·rintro _ hmeet; (try dsimp only at hmeet ⊢); refine Ci I (fun hc48 => ?_) (fun hc48 => ?_)
    ·have e1 : sa.1 = val a := by rw [hsa, bv, Ae ⟨hab.1, hc48.1⟩]
     have e2 : sb.1 = val b := by rw [hsb, bv, Ae ⟨hab.2, hc48.2.1⟩]
     have hlt : val a * val b < 18446744073709551616 := by have := hc48.2.2; rw [e1, e2] at this; omega
     have hr : eg a b = (ae (val a * val b), 0) := by rw [eg, Ae hab, Ae (Aw hlt mW)]
     refine Cs (Km I (Kc I (fun w hS => fU (by omega)) (Ka I (le ?_)))); refine Xb ?_; exact R2 I I I (by rw [hr, e1, e2, Am hlt]; rfl)
    ·have hfm := q7 hab; refine Ck (Xa (Cs (Kh I (Oa I (v := (.agg (List.replicate 256 (.int .i64 0)).toArray)) (cs := (List.replicate 256 (.int .i64 0))) (by kernel_rfl) I) ?_))); intro b12; refine Nt (Hd ?_); refine Kh I (Oc I I (fun w hS => r6 (a := a) (b := b) (p := b12) (cs := List.replicate 256 (.int .i64 0)) hS (by simp) (by omega) (by omega))) ?_; intro c; refine Kc I (fun w hS => mC (a := ae (val a * val b))) (Ye I (Ye I (Ka I (le ?_)))); exact R2 I I I (by simp only [tup, NE]; rw [← hfm.1, ← hfm.2])
theorem tT {a b : Bs} {w : World} (ha : a.length ≤ 50000) (hb : b.length ≤ 50000) :
  Cw 329 #[.string (S a), .string (S b)] w (.string (S (ae (val a * val b)))) := by
 obtain ⟨V, hV⟩ : ∃ V, V = val a * val b := ⟨_, rfl⟩
 have hVl : V < 256 ^ (a.length + b.length) := by rw [hV, Bj]; exact De (aG a) (aG b)
 rw [← hV]
 refine En [] [(0, .string (S a)), (1, .string (S b))] Tryz.func329 I Tryz.ntmps329 I (Ac I (Ac I (An _))) Fn (Cs (FM ?_)); refine Yn I u22 (Km I (Yn I u22 (Hk ?_))); refine Ym I (Nt (Ci I (fun hc18 => ?_) (fun hc18 => ?_)))
 ·have hV8 : V < 18446744073709551616 := Aw hVl (Bi (Ar (by decide) (by omega : a.length + b.length ≤ 8)) (by decide))
  refine Cs (Km I (Kc I (fun w hS => kK (a := a) (by omega)) (Km I (Kc I (fun w hS => kK (a := b) (by omega)) (Kq I (bY I I I (by omega)) ?_)))))
  refine Ns 23 I (v' := .int .u64 ((V : Nat) : Int)) (congrArg (Value.int .u64) (by rw [hV])) ?_
  refine Kc I (fun w hS => oK (n := V) (by assumption)) (le ?_); refine Xb ?_
  exact Iq
 ·refine Ck (Xa (Cs (Km I (Yn I u22 (Km I (Yn I u22 (Hk ?_))))))); refine FN ?_; refine HB ?_
  refine Kh I (ed I I I dA (by kernel_rfl : _ = some (some (.int .i64 0), 1, 8)) I ?_ (by (try simp only [sN, Int.reduceToNat, Nat.reduceAdd, Nat.reduceMul, Nat.reduceSub]); rfl) (by (try simp only [sN, Int.reduceToNat, Nat.reduceAdd, Nat.reduceMul, Nat.reduceSub]); rfl)) ?_
  ·omega
  intro b32
  refine GI ?_; refine Ka I (Nt (Cb (Lo (σ := Nat × (List Nat)) [(0, _), (1, _), (5, _), (6, _)] (fun gq => [(7, .int .i64 (gq.1 : Int))]) (fun gq => gq.1 ≤ a.length ∧ dZ (a.length + b.length + 1) (val a) (val b) gq.1 0 gq.2) (fun gq => a.length - gq.1) (fun gq => [⟨some b32, cP gq.2, 3⟩]) (fun gq => []) (0, List.replicate (a.length + b.length + 1) 0) (S4 I I I I) (S1 I) (by (try dsimp only); exact ⟨Af _, mM _ _ _⟩) (by exact fun w h => by rw [jc]; exact h) ?_)))
  rintro ⟨i, c⟩ hinv1; (try dsimp only at hinv1 ⊢)
  obtain ⟨hi, hci⟩ := hinv1
  refine Cq (Hd ?_); refine Yn I u22 (F7 (fun hc36 => ?_) (fun hc36 => ?_))
  ·refine FO ?_; refine Ka I (Nt (Cb (Lo (σ := Nat × (List Nat)) [(0, _), (1, _), (5, _), (6, _), (7, _)] (fun gq => [(8, .int .i64 (gq.1 : Int))]) (fun gq => gq.1 ≤ b.length ∧ dZ (a.length + b.length + 1) (val a) (val b) i gq.1 gq.2) (fun gq => b.length - gq.1) (fun gq => [⟨some b32, cP gq.2, 3⟩]) (fun gq => []) (0, c) (S5 I I I I I) (S1 I) (by (try dsimp only); exact ⟨Af _, hci⟩) (fun _ h => h) ?_))); rintro ⟨k, c2⟩ hinv2; (try dsimp only at hinv2 ⊢); obtain ⟨hk, hck⟩ := hinv2; refine Cq (Hd ?_); refine Yn I u22 (F7 (fun hc42 => ?_) (fun hc42 => ?_))
   ·have hcl := hck.len; have hca := ro hck (by omega) (i + k); have hcs2 := pe hck (by omega); refine Ck (Xa (Cq (Cb (Cf [6, 7, 8, 9, 10, 11, 0, 1, 2, 3, 4, 5, 12, 13, 14] [15] [0, 0, 0, 0, 0, 0, 0, 0, 1, 0, 0, 1, 0, 0, 0, 2] (by kernel_rfl) (by kernel_rfl) I ?_)))); refine Ft ?_; refine Jv I I I I I (fun ext => Oc I I (Kv fun w hS => k8 (a := a) (i := i) (by omega) (by omega))) ?_; refine Ft ?_; refine Jv I I I I I (fun ext => Oc I I (Kv fun w hS => k8 (a := b) (i := k) (by omega) (by omega))) ?_; refine Ft ?_; refine GP ?_; refine HM ?_; refine F4 ?_; refine Kj I (ld I I .tc u3 I (bq c2 _ (by omega))) ?_; refine Kj I (gH I I I (by omega)) (HM ?_); refine F4 ?_; refine WJ.nil ?_; refine Ng I I (st I I I .tc (by kernel_rfl) I ?_ (by rfl)) ?_
    ·rw [dz]; omega
    intro _; rw [dy]; refine Nn (Xd (Xa (Cg (Km I (Kq I (Rz I I I (by omega)) (Ka I (Nn (Lx ((k + 1, c2.set (i + k) (c2.getD (i + k) 0 + val a / 256 ^ i % 256 * (val b / 256 ^ k % 256)))) (by (try dsimp only); omega) (S5 I I I I I) (by refine (Sc ?_ (S0 _)) <;> (rfl)) ?_ (fun _ h => h))))))))); (try dsimp only); exact ⟨by omega, hcs2⟩
   ·refine Fq ?_; obtain rfl : k = b.length := by omega
    have hrow := rm hck (aG b); refine Xd (Xa (Cg (Km I (Kq I (Rz I I I (by omega)) (Ka I (Nn (Lx ((i + 1, c2)) (by (try dsimp only); omega) (S4 I I I I) (by refine (Sc ?_ (S0 _)) <;> (rfl)) ?_ (fun _ h => h)))))))); (try dsimp only); exact ⟨by omega, hrow⟩
  ·refine Fq ?_; obtain rfl : i = a.length := by omega
   have hev := rn hci (aG a); have hcl := hci.len; rw [← hV] at hev; refine Xa (Cs (Km I (Kh I (ed I I I aF (by kernel_rfl : _ = some (some (.int .u8 0), 1, 1)) I ?_ (by (try simp only [sN, Int.reduceToNat, Nat.reduceAdd, Nat.reduceMul, Nat.reduceSub]); rfl) (by (try simp only [sN, Int.reduceToNat, Nat.reduceAdd, Nat.reduceMul, Nat.reduceSub]); rfl)) ?_)))
   ·omega
   intro b61; refine Ka I (Nt (Cs (GI ?_))); refine Ka I (Nt (Cb (Lo (σ := Nat × Nat) [(5, _), (6, _), (9, _)] (fun gq => [(10, .int .i64 (gq.2 : Int)), (11, .int .i64 (gq.1 : Int))]) (fun gq => gq.1 ≤ a.length + b.length ∧ gq.2 = jK 256 c gq.1) (fun gq => a.length + b.length - gq.1) (fun gq => [⟨some b61, fE (a.length + b.length) gq.1 V, 5⟩, ⟨some b32, cP c, 3⟩]) (fun gq => []) (0, 0) (S3 I I I) (S2 I I) (by (try dsimp only); exact ⟨Af _, (jI 256 c).symm⟩) (by exact fun w h => by rw [dk]; exact h) ?_))); rintro ⟨i, cy⟩ hinv3; (try dsimp only at hinv3 ⊢); obtain ⟨hi, hcy⟩ := hinv3; refine Cq (Hd ?_); refine F7 (fun hc64 => ?_) (fun hc64 => ?_)
   ·have hcc := mN (i := i) hci (by omega) (by omega); have hcs3 := jJ 256 (by decide) c i (by omega); have hcd := lE 256 (by decide) c i (by omega); rw [← hcy] at hcc hcs3 hcd; rw [hev] at hcd; refine FO ?_; refine Km I (Km I (F5 ?_)); refine Kq I (ld I I .tc u3 I (bq c _ (by omega))) ?_; refine Km I (Hk ?_); refine Ns 72 I (v' := .int .i64 ((cy + c.getD i 0 : Nat) : Int)) (congrArg (Value.int .i64) (by omega)) (FN ?_); refine Km I (F1 ?_); refine Km I (Kq I (dc I I I (by omega)) (Kq I (iJ I I u3 u5) (Ns 80 I (v' := B (UInt8.ofNat (V / 256 ^ i))) (by exact congrArg (fun b : UInt8 => B b) (pw (by omega))) ?_))); refine FX ?_; refine Ng I I (st I I I .tc (by kernel_rfl) I ?_ (by rfl)) ?_
    ·rw [cD _ _ _ (by omega)]; omega
    intro _; refine Nt (Cg (Km I (Kq I (bX I I I (by omega)) (Ka I (Nn (Xd (Xa (Cg (Km I (Kq I (Rz I I I (by omega)) (Ka I (Nn (Lx ((i + 1, (cy + c.getD i 0) / 256)) (by (try dsimp only); omega) (S3 I I I) (by refine (Sc ?_ (Sc ?_ (S0 _))) <;> (rfl)) ?_ (by exact fun w h => by rw [← cC (a.length + b.length) i V (by omega)]; exact h)))))))))))))); (try dsimp only); exact ⟨by omega, hcs3.symm⟩
   ·refine Fq ?_; obtain rfl : i = a.length + b.length := by omega
    rw [cL]; have hbl := aQ (a.length + b.length) V; refine Xa (Cs (Km I (Kc I (fun w hS => iE (b := be (a.length + b.length) V) (by (exact hS.os)) (by omega) (by omega) (by omega)) (le ?_)))); exact R1 I I (by rw [dF, Am hVl]; rfl)
theorem tX {a b : Bs} {w : World} :
  Cw 327 #[.string (S a), .string (S b)] w (NE (eg a b)) := by
 refine En [] [(0, .string (S a)), (1, .string (S b))] Tryz.func327 I Tryz.ntmps327 I (Ac I (Ac I (An _))) Fn (Cs (Ka I (FM ?_))); refine Kc I (fun w hS => aY) (Yt I (Km I (Nc 9 I (fun hg9 => ?_) (fun hg9 => ?_))))
 ·refine T2 I (Kt I (Yp I (Nt (Cd I (fun _ => ?_) (fun h => by cases h)))))
  refine Cs (Ka I (le ?_)); refine Xb ?_
  exact IM
 ·refine Km I (Kc I (fun w hS => aY) (Yt I (Yq I (Nt (Ci I (fun hc13 => ?_) (fun hc13 => ?_))))))
  ·refine Cs (Ka I (le ?_)); refine Xb ?_; exact IM
  ·have hab : okN a ∧ okN b := by simp_all
   have hal := hab.1.1; have hbl := hab.2.1; have hfm := q7 hab; refine GG ?_; refine Kc I (fun w hS => tT (a := a) (b := b) (by omega) (by omega)) (Kc I (fun w hS => Eo (a := ae (val a * val b))) (Ye I (Ye I (Ka I (le ?_))))); exact R2 I I I (by simp only [tup, NE]; rw [← hfm.1, ← hfm.2])
theorem gY (f x : Nat) : Lib.bitLenAux (f + 1) x = if x = 0 then 0 else 1 + Lib.bitLenAux f (x / 2) := rfl
theorem jY : ∀ (f g x : Nat), x < 2 ^ f → x < 2 ^ g → Lib.bitLenAux f x = Lib.bitLenAux g x
 | 0, 0, x, _, _ => rfl
 | 0, g + 1, x, h, _ => by have : x = 0 := by simpa using h
                           subst this; rfl
 | f + 1, 0, x, _, h => by have : x = 0 := by simpa using h
                           subst this; rfl
 | f + 1, g + 1, x, h1, h2 => by
  rw [gY, gY]
  split
  ·rfl
  ·rw [jY f g (x / 2) (by rw [A0] at h1; omega) (by rw [A0] at h2; omega)]
theorem gC {x : Nat} (h : 0 < x) (hx : x < 2 ^ 63) : Lib.bitLen x = 1 + Lib.bitLen (x / 2) := by
 unfold Lib.bitLen
 rw [gY 63 x, Aa (by omega), jY 63 64 (x / 2) (by omega) (by omega)]
theorem k7 {a : Bs} {w : World} (ha : a.length ≤ 1000000) :
  Cw 289 #[.string (S a)] w (.int .i64 (aL a : Int)) := by
 refine En [] [(0, .string (S a))] Tryz.func289 I Tryz.ntmps289 I (Ac I (An _)) Fn (Cs (FM ?_)); refine Hh (fun hc6 => ?_) (fun hc6 => ?_)
 ·have h0 : a = [] := by simpa using hc6
  refine Cs (le ?_); refine Xb ?_
  exact R1 I I (by rw [h0]; rfl)
 ·have hne : a ≠ [] := by simpa using hc6
  have hl0 : 0 < a.length := Di.2 hne
  have hc0 := (a.getD 0 default).toNat_lt
  have hbN : aL a ≤ 8000064 := by rw [aL, Aa hne]; have := fi (a.getD 0 default).toNat; omega
  refine Ck (Xa (Cs (Km I (Yn I u22 (Kq I (aB I I I (by omega)) (Kq I (dM I I I (by omega)) (Ka I (Nt (Cq (Cs (Km I (Kq I (ck I I I u22 ?_) ?_))))))))))))
  ·omega
  refine Kq I (k5 I I u5 u3 ?_) ?_
  ·(exact kv _)
  refine Ka I (Nt (Cb (Lp (σ := Nat × Nat) [] (fun gq => [(3, .int .i64 (gq.2 : Int)), (4, .int .i64 (gq.1 : Int))]) (fun gq => gq.2 + Lib.bitLen gq.1 = aL a ∧ gq.1 < 256) (fun gq => gq.1) ((a.getD 0 default).toNat, 8 * (a.length - 1)) (S0 _) (S2 I I) (by (try dsimp only); exact ⟨by rw [aL, Aa hne], hc0⟩) ?_)))
  rintro ⟨x, k⟩ hinv1; (try dsimp only at hinv1 ⊢)
  obtain ⟨hb, hx⟩ := hinv1
  refine Cq (Cs (Km I (Yg I (Nt (Ci I (fun hc15 => ?_) (fun hc15 => ?_))))))
  ·have hst := gC (x := x) (by omega) (by omega); refine Ck (Xa (Cq (Cb (Cg (Km I (Kq I (Rz I I I (by omega)) (Ka I (Nn (Xd (Xa (Cg (Km I (Kq I (bX I I I (by omega)) (Ka I (Nn (Ly ((x / 2, k + 1)) (by (try dsimp only); omega) (S0 _) (by refine (Sc ?_ (Sc ?_ (S0 _))) <;> (rfl)) ?_ (fun _ h => h))))))))))))))))); (try dsimp only); exact ⟨by omega, by omega⟩
  ·refine Fq ?_; obtain rfl : x = 0 := by omega
   have hb0 : Lib.bitLen 0 = 0 := rfl; refine Xa (Cs (Km I (le ?_))); exact R1 I I (by rw [← hb]; rfl)
theorem xw {a : Bs} {w : World} :
  Cw 322 #[.string (S a)] w (.int .i64 ((if okN a then aL a else 0 : Nat) : Int)) := by
 refine En [] [(0, .string (S a))] Tryz.func322 I Tryz.ntmps322 I (Ac I (An _)) Fn (Cs (FM ?_)); refine Kc I (fun w hS => aY) (Gs (fun hc5 => ?_) (fun hc5 => ?_))
 ·refine Cs (le ?_); refine Xb ?_
  exact R1 I I (by rw [Aa (by simpa using hc5)]; rfl)
 ·have hok : okN a := by simpa using hc5
  have hal := hok.1
  refine Ck (Xa (Cs (Km I (Kc I (fun w hS => k7 (by omega)) (le ?_)))))
  exact R1 I I (by rw [Ae hok]; rfl)
theorem sU {n : Bs} (h : okN n) (h0 : n ≠ []) : 1 ≤ aL n := by
 have hc := (jh n).1 h.2
 have hl : 0 < n.length := Di.2 h0
 rw [aL, Aa h0, gC (by omega) (by have := (n.getD 0 default).toNat_lt; omega)]; omega
theorem gA {n : Bs} (h : n.length ≤ 128) : aL n ≤ 2000 := by
 rw [aL]; split
 ·omega
 ·have := fi (n.getD 0 default).toNat; omega
theorem vZ : ∀ x, x < 256 → Lib.bitLen x ≤ 8 := by decide +kernel
theorem sV (a : Bs) : aL a ≤ 8 * a.length := by
 rw [aL]; split
 ·omega
 ·rename_i h
  have h1 := vZ (a.getD 0 default).toNat (a.getD 0 default).toNat_lt
  have h2 := Di.2 h
  omega
theorem so : ∀ x, x < 256 → x < 2 ^ Lib.bitLen x := by decide +kernel
theorem fW (a : Bs) : val a < 2 ^ aL a := by
 cases a with
 | nil => decide
 | cons c s =>
  have h1 := so c.toNat c.toNat_lt
  have h2 := aG s
  have h3 : val (c :: s) = c.toNat * 256 ^ s.length + val s := rfl
  rw [aL, Aa (by simp), h3]
  show c.toNat * 256 ^ s.length + val s < 2 ^ (8 * s.length + Lib.bitLen c.toNat)
  rw [Bj, Nat.pow_mul, show (2 : Nat) ^ 8 = 256 from rfl]
  have h4 : (c.toNat + 1) * 256 ^ s.length ≤ 2 ^ Lib.bitLen c.toNat * 256 ^ s.length := Bp _ h1
  rw [Bk, Cn] at h4
  rw [Ao (256 ^ s.length)]; omega
def gB (n i : Nat) : Bool := decide (n / 2 ^ i % 2 = 1)
theorem mT (n i : Nat) : n / 256 ^ (i / 8) % 256 / 2 ^ (i % 8) % 2 = n / 2 ^ i % 2 := by
 have e : 2 ^ i = 256 ^ (i / 8) * 2 ^ (i % 8) := by
  rw [show (256 : Nat) = 2 ^ 8 from rfl, ← Nat.pow_mul, ← Bj]; congr 1; omega
 rw [e, ← A6]
 generalize n / 256 ^ (i / 8) = m
 have h : i % 8 = 0 ∨ i % 8 = 1 ∨ i % 8 = 2 ∨ i % 8 = 3 ∨ i % 8 = 4 ∨ i % 8 = 5 ∨ i % 8 = 6 ∨ i % 8 = 7 := by omega
 rcases h with h | h | h | h | h | h | h | h <;> rw [h] <;> omega
theorem vY {n i : Nat} (h : n < 256 ^ (i / 8)) : n / 2 ^ i = 0 := by
 apply Bo
 refine Aw h ?_
 rw [show (256 : Nat) = 2 ^ 8 from rfl, ← Nat.pow_mul]
 exact Ar (by decide) (by omega)
def lK (a : Bs) (i : Int) : Bool := decide (okN a ∧ 0 ≤ i) && gB (val a) i.toNat
theorem co {a : Bs} {i : Nat} (h : okN a) : lK a i = gB (val a) i := by rw [lK, Az (p := okN a ∧ (0 : Int) ≤ i) ⟨h, by omega⟩, Bool.true_and, A2]
theorem rA {a : Bs} {i : Int} (h : ¬ (okN a ∧ 0 ≤ i)) : lK a i = false := by rw [lK, Aj h, Bool.false_and]
theorem mU {a : Bs} {i : Nat} (h : a.length ≤ i / 8) : gB (val a) i = false := by
 rw [gB]; apply Aj; rw [vY (Aw (aG a) (Ar (by decide) h))]; omega
theorem oh {a : Bs} {i : Nat} {w : World} (hi : i ≤ 1000000000) :
  Cw 131 #[.string (S a), .int .i64 (i : Int)] w (.bool (lK a i)) := by
 have hbd := mT (val a) i
 have hx256 : val a / 256 ^ (i / 8) % 256 / 2 ^ (i % 8) < 256 := Bb (Cz _ _) (Aq _ (by decide))
 refine En [] [(0, .string (S a)), (1, .int .i64 (i : Int))] Tryz.func131 I Tryz.ntmps131 I (Ac I (Ac I (An _))) Fn (Cs (FN ?_)); refine Kc I (fun w hS => ay) (Km I (Nc 7 I (fun hg7 => ?_) (fun hg7 => ?_)))
 ·refine Km I (Yh I (Yp I (Km I (Nc 11 I (fun hg11 => ?_) (fun hg11 => ?_)))))
  ·refine Il ?_; refine Km I (Yn I u22 (Yl I (Yp I (Km I (Nc 18 I (fun hg18 => ?_) (fun hg18 => ?_))))))
   ·refine Km I (Il ?_); refine Kc I (fun w hS => dx (a := a) (i := i / 8) (by have hok : okN a := (by assumption); have := hok.1; omega) (by omega)) (Km I (Kq I (dc I I I (by omega)) ?_)); refine Kq I (bQ I I I (by (show _ ≤ 64; omega))) ?_; refine Kq I (dT 1 I I I (by decide) ?_) ?_
    ·omega
    refine Yi I (Yp I (le ?_)); exact R1 I I (by (rw [co (by assumption), gB]; exact congrArg (fun b => Ending.returned (.bool b)) (by apply Ak.2; omega)))
   ·refine T4 I (T4 I (Kt I (Yq I (le ?_)))); exact R1 I I (by (rw [co (by assumption), mU (by omega)]; rfl))
  ·refine T4 I (Kt I (Yq I (Km I (T4 I (T4 I (Kt I (Yq I (le ?_)))))))); exact R1 I I (by (rw [co (by assumption), mU (by omega)]; rfl))
 ·refine T2 I (G9 ?_); refine Km I (T4 I (T4 I (Kt I (Yq I (le ?_)))))
  exact R1 I I (by (rw [rA (fun h => absurd h.1 (by assumption))]; rfl))
theorem tW {a : Bs} {i : Nat} {w : World} (ha : a.length ≤ 1000000) (hi : i ≤ 1000000000) :
  Cw 291 #[.string (S a), .int .i64 (i : Int)] w (.bool (gB (val a) i)) := by
 have hbd := mT (val a) i
 refine En [] [(0, .string (S a)), (1, .int .i64 (i : Int))] Tryz.func291 I Tryz.ntmps291 I (Ac I (Ac I (An _))) Fn (Cs (FN ?_)); refine Il ?_
 refine Kc I (fun w hS => k8 (a := a) (i := i / 8) (by omega) (by omega)) (GI ?_); refine Ka I (Nt (Cb (Lp (σ := Nat × Nat) [(1, _)] (fun gq => [(5, .int .i64 (gq.2 : Int)), (6, .int .i64 (gq.1 : Int))]) (fun gq => gq.1 ≤ i % 8 ∧ gq.2 = val a / 256 ^ (i / 8) % 256 / 2 ^ gq.1) (fun gq => i % 8 - gq.1) (0, val a / 256 ^ (i / 8) % 256) (S1 I) (S2 I I) (by (try dsimp only); exact ⟨Af _, by simp⟩) ?_)))
 rintro ⟨k, x⟩ hinv1; (try dsimp only at hinv1 ⊢)
 obtain ⟨hk, hx⟩ := hinv1
 refine Cq (Hd ?_); refine Kq I (dc I I I (by omega)) (F7 (fun hc14 => ?_) (fun hc14 => ?_))
 ·have hx256 : x < 256 := by rw [hx]; exact Bb (Cz _ _) (Aq _ (by decide))
  refine Ck (Xa (Cq (Cb (Cg (Km I (Kq I (bX I I I (by omega)) (Ka I (Nn (Xd (Xa (Cg (Km I (Kq I (Rz I I I (by omega)) (Ka I (Nn (Ly ((k + 1, x / 2)) (by (try dsimp only); omega) (S1 I) (by refine (Sc ?_ (Sc ?_ (S0 _))) <;> (rfl)) ?_ (fun _ h => h)))))))))))))))))
  (try dsimp only)
  exact ⟨by omega, by rw [hx, A0, A6]⟩
 ·refine Fq ?_
  obtain rfl : k = i % 8 := by omega
  have hx256 : x < 256 := by rw [hx]; exact Bb (Cz _ _) (Aq _ (by decide))
  rw [← hx] at hbd
  refine Xa (Cs (Km I (Kq I (dc I I I (by omega)) (Yi I (le ?_)))))
  exact R1 I I (by rw [gB, ← hbd]; exact congrArg (fun b => Ending.returned (.bool b)) (Ak.2 (by omega)))
theorem mV {a : Bs} {i : Nat} (h : aL a ≤ i) : gB (val a) i = false := by
 rw [gB]; apply Aj; rw [Bo (Aw (fW a) (Ar (by decide) h))]; omega
theorem AC {a : Bs} {i : Nat} {w : World} (hi : i ≤ 1000000000) :
  Cw 324 #[.string (S a), .int .i64 (i : Int)] w (.bool (lK a i)) := by
 refine En [] [(0, .string (S a)), (1, .int .i64 (i : Int))] Tryz.func324 I Tryz.ntmps324 I (Ac I (Ac I (An _))) Fn (Cs (FN ?_)); refine Kc I (fun w hS => aY) (Km I (Nc 7 I (fun hg7 => ?_) (fun hg7 => ?_)))
 ·refine Km I (Yh I (Yp I (Km I (Nc 11 I (fun hg11 => ?_) (fun hg11 => ?_)))))
  ·refine Km I (Km I (Kc I (fun w hS => k7 (a := a) (by have hok : okN a := (by assumption); have := hok.1; omega)) (Yl I (Yp I (Km I (Nc 17 I (fun hg17 => ?_) (fun hg17 => ?_)))))))
   ·refine Km I (Km I (Kc I (fun w hS => tW (a := a) (i := i) (by have hok : okN a := (by assumption); have := hok.1; omega) (by omega)) (Yp I (le ?_)))); exact R1 I I (by (rw [co (by assumption)]; rfl))
   ·refine T2 I (Kt I (Yq I (le ?_))); exact R1 I I (by (rw [co (by assumption), mV (by omega)]; rfl))
  ·refine T4 I (H4 ?_); refine le ?_; exact R1 I I (by (rw [co (by assumption), mV (by omega)]; rfl))
 ·refine T2 I (Yq I (Km I (T4 I (H4 ?_)))); refine le ?_
  exact R1 I I (by (rw [rA (fun h => absurd h.1 (by assumption))]; rfl))
end Go.Proofs.YtchonigdjamphaaGreatDoor
