/-
  Parts of the walk: Mo2 Mo3 Grp1 Int4 Mo4 Pw1.
-/
import Derived.Test.YtkdlonihbjhhoaaGreatDoorG11
namespace Go.Proofs.YtkdlonihbjhhoaaGreatDoor
open Go.RowKit
set_option linter.unusedSimpArgs false
set_option linter.unusedVariables false
set_option maxHeartbeats 600000
set_option maxRecDepth 20000
def itD {σ : Type} (x : Bs) (after : σ → Bool → σ) : Nat → σ → σ
 | 0, s => s
 | n + 1, s => itD x after n (after s (lq x n))
theorem ve {x : Bs} {own0 : List Ent} {ok : Nat → Prop} {w0 : World} {fs : List Fact} {w : World} (hS0 : St ok w0 (own0) (fs) w) :
  Calls Tryz.prog 229 #[.string (S x)] w fun e w' => ∃ g : Nat, e = .returned (.func (.func 253) #[] #[.pointer (some ⟨g, 0, none⟩)]) ∧ St ok w0 (⟨some g, [.string (S x)], 22⟩ :: own0) fs w' := by
 refine enter (S := St ok w0 (own0) (fs)) (L := [(0, .string (S x))]) Tryz.func229 rfl Tryz.ntmps229 rfl (Ac rfl (An _)) hS0 ?_
 refine DO ?_
 intro b1
 refine Gq ?_; refine to ?_
 exact Rn I (.tmp I .nil) fun w' hS => ⟨b1, rfl, hS⟩
theorem BR {σ γ : Type} {CO : σ → γ → List Ent} {pg : σ → γ → Prop} {inv : σ → Bool → Prop} {after : σ → Bool → σ} {stop : σ → Bool → Option Code} {l : Nat} {r : Loop} {ok : Nat → Prop} {w0 : World} {fs : List Fact} {w : World} {x : Bs} {b1 : Nat} {s0 : σ} [∀ s g, HasE (CO s g) b1 [.string (S x)] 22] {g0 : γ} (hY : YOk Tryz.prog l r ok w0 fs CO pg inv after stop (fun y : Bool => #[Value.bool y])) (hS0 : St ok w0 (CO s0 g0) (Fact.lp l (rcd r none) :: fs) w) (hg0 : pg s0 g0) (hx : okN x) (hinv : ∀ s y, inv s y) (hst : ∀ s y, stop s y = none) :
  Calls Tryz.prog 253 #[.func (.yield l) #[] #[], .pointer (some ⟨b1, 0, none⟩)] w fun e w' => (∃ v, e = .returned v) ∧ ∃ g', ((none : Option Code) = none → pg (itD x after (aF x) s0) g') ∧ St ok w0 (CO (itD x after (aF x) s0) g') (Fact.lp l (rcd r ((none : Option Code))) :: fs) w' := by
 have hbl := gn hx.1
 refine enter (S := St ok w0 (CO s0 g0) (Fact.lp l (rcd r none) :: fs)) (L := [(0, .func (.yield l) #[] #[]), (1, .pointer (some ⟨b1, 0, none⟩))]) Tryz.func253 rfl Tryz.ntmps253 rfl (Ac rfl (Ac rfl (An _))) hS0 ?_
 refine Cs (Em ?_)
 refine Kc I (fun w hS => nJ (a := x)) (Ns 5 I (v' := .int .i64 ((aF x : Nat) : Int)) (congrArg (Value.int .i64) (by rw [Ab hx])) ?_)
 refine FG ?_; refine Ka I (Nt (Cb (Lo (σ := Nat × Int × σ × γ) [(0, _), (1, _)] (fun gq => [(3, .int .i64 gq.2.1)]) (fun gq => gq.1 ≤ aF x ∧ gq.2.1 = (gq.1 : Int) - 1 ∧ pg gq.2.2.1 gq.2.2.2 ∧ itD x after gq.1 gq.2.2.1 = itD x after (aF x) s0) (fun gq => gq.1) (fun gq => CO gq.2.2.1 gq.2.2.2) (fun gq => Fact.lp l (rcd r none) :: fs) (aF x, (aF x : Int) - 1, s0, g0) (S2 I I) (S1 I) (by (try dsimp only); exact ⟨Bd _, rfl, hg0, rfl⟩) (fun _ h => h) ?_)))
 rintro ⟨n, j, s, g⟩ hinv1; (try dsimp only at hinv1 ⊢)
 obtain ⟨hn, hj, hgs, hi⟩ := hinv1
 refine Cq (Cs (Km I (E7 (fun hc8 => ?_) (fun hc8 => ?_))))
 ·obtain ⟨m, rfl⟩ : ∃ m, n = m + 1 := ⟨n - 1, by omega⟩
  refine WC.set 3 I (v' := .int .i64 ((m : Nat) : Int)) (by rw [hj]; congr 1; omega) ?_
  refine El ?_; refine Em ?_
  refine Km I (Kc I (fun w hS => nK (a := x) (i := m) (by omega)) (Kh I (dK hY [] (lq x m) I I I I (hinv _ _) (hgs)) ?_))
  intro gy; refine WL.pu ?_; intro hgy; (refine WL.app0 ?_)
  refine Yt I (Nt (Cd I (fun hc16 => by exfalso; (try simp only [sB] at hc16); simp [hst] at hc16) (fun hc16 => ?_)))
  (try simp only [sB] at hc16)
  refine Ck (Xd (Xa (Cg (Km I (FG ?_))))); refine Ka I (Nn ?_)
  rw [hst]
  refine Lx ((m, (m : Int) - 1, after s (lq x m), gy)) (by (try dsimp only); omega) (S2 I I) (by refine (Sc ?_ (S0 _)) <;> (rfl)) ?_ (fun _ h => h)
  (try dsimp only)
  exact ⟨by omega, rfl, hgy (hst _ _), hi⟩
 ·refine AT ?_
  obtain rfl : n = 0 := by omega
  have hfin : s = itD x after (aF x) s0 := hi
  refine WX.ret_normal ?_
  exact Rn I .nil fun w' hS => ⟨⟨_, rfl⟩, g, fun _ => hfin ▸ hgs, by rw [← hfin]; exact au _ hS⟩
def lG (m a : Nat) (s : Bs) (y : Bool) : Bs := if y then ae (val (ae (val s * val s % m)) * a % m) else ae (val s * val s % m)
theorem qF {x : Bs} (hx : okN x) (m a : Nat) : ∀ n : Nat, itD x (lG m a) n (ae (a ^ (val x / 2 ^ n) % m)) = ae (a ^ val x % m)
 | 0 => by rw [itD, B1, Dj]
 | n + 1 => by
  rw [itD, show lG m a (ae (a ^ (val x / 2 ^ (n + 1)) % m)) (lq x n) = ae (a ^ (val x / 2 ^ n) % m) from ?_, qF hx m a n]
  rw [bR hx, gp, lG, af, af]
  by_cases h : val x / 2 ^ n % 2 = 1
  ·rw [Am h, Ab rfl, me h]
  ·rw [Aq h, Aa (by simp), mg (by omega)]
theorem xq {x : Bs} (hx : okN x) (m a : Nat) : itD x (lG m a) (aF x) (ae (1 % m)) = ae (a ^ val x % m) := by
 have := qF hx m a (aF x)
 rwa [Bh (fQ x), B1] at this
theorem xF {m a : Nat} (hm : 0 < m) (hm8 : m ≤ 18446744073709551616) (s : Bs) (y : Bool) : val (lG m a s y) < m ∧ okN (lG m a s y) ∧ (lG m a s y).length ≤ 8 := by
 have key : ∀ k, k < m → val (ae k) < m ∧ okN (ae k) ∧ (ae k).length ≤ 8 := fun k hk => by
  have h8 : (ae k).length ≤ 8 := bj.2 (by show k < 18446744073709551616; omega)
  exact ⟨by rw [af]; exact hk, ⟨by omega, bn _⟩, h8⟩
 rw [lG]; split <;> exact key _ (Ak _ hm)
def fJ (a x m : Bs) : Bs × Int := if co [a, x] [m] = 0 then (ae (val a ^ val x % val m), 0) else ([], co [a, x] [m])
abbrev XCO (b9 g b5 b3 : Nat) (x m a : Bs) (s : Bs) (_ : Unit) : List Ent := [⟨some g, [.string (S x)], 22⟩, ⟨some b9, [.string (S s)], 22⟩, ⟨some b5, [.string (S m)], 22⟩, ⟨some b3, [.string (S a)], 22⟩]
theorem uo {a x m : Bs} {w : World} (hm8 : m.length ≤ 8) :
  Cw 192 #[.string (S a), .string (S x), .string (S m)] w (NE (fJ a x m)) := by
 refine li (S := St (fun _ => True) w [] ([])) (L := [(0, .string (S a)), (1, .string (S x)), (2, .string (S m))]) Tryz.func192 rfl Tryz.ntmps192 rfl (Ac rfl (Ac rfl (Ac rfl (An _)))) (St.start (fun _ _ => trivial) Fn) ?_
 refine DO ?_
 intro b3
 refine EW ?_
 intro b5
 refine Ka I (Ka I (Nt (Cq (Cs (Em ?_)))))
 refine Km I (Kh I (aO I I u31 (by kernel_rfl : _ = some (some (.string (S [])), 1, 16)) I (by simp only [List.map]; rfl) I I ?_ (by decide)) ?_)
 ·simp [Value.cells]
 intro b13
 refine Em ?_
 refine Kh I (aO I I u31 (by kernel_rfl : _ = some (some (.string (S [])), 1, 16)) I (by simp only [List.map]; rfl) I I ?_ (by decide)) ?_
 ·simp [Value.cells]
 intro b15
 refine Kc I (fun w hS => nF (l := [a, x]) (ms := [m]) (by (exact hS.os)) (by (exact hS.os)) (by (simp <;> omega)) (by (simp <;> omega)) (by (simp <;> omega)) (by (simp <;> omega))) (DT ?_); refine EL (fun hc18 => ?_) (fun hc18 => ?_)
 ·have hr : fJ a x m = ([], co [a, x] [m]) := by rw [fJ, Aa (by simpa using hc18)]
  refine Cs (Km I (Ka I (ne ?_)))
  exact WX.retM0 rfl (.tmp rfl (.tmp rfl .nil)) fun w' hS => ⟨by rw [hr]; rfl, hS.below⟩
 ·have h0 : co [a, x] [m] = 0 := by simpa using hc18
  have hr : fJ a x m = (ae (val a ^ val x % val m), 0) := by rw [fJ, Ab h0]
  obtain ⟨ha, hx, hm, hm0⟩ := x2 h0
  have hp := lC hm hm0
  have hm64 := dQ hm8
  obtain ⟨A, hA⟩ : ∃ A, A = ae (val a % val m) := ⟨_, rfl⟩
  have hAv : val A = val a % val m := by rw [hA, af]
  have hA8 : A.length ≤ 8 := by rw [hA]; exact bj.2 (by have := Ak (val a) hp; show _ < 18446744073709551616; omega)
  have hAk : okN A := by rw [hA]; exact ⟨by rw [← hA]; omega, bn _⟩
  have hone : okN [1] := ⟨by decide, by decide⟩
  have hit := xq hx (val m) (val A)
  rw [hAv, ee, ← hAv] at hit
  have h1k : okN (ae (1 % val m)) ∧ (ae (1 % val m)).length ≤ 8 := by
   have h8 : (ae (1 % val m)).length ≤ 8 := bj.2 (by have := Ak 1 hp; show _ < 18446744073709551616; omega); exact ⟨⟨by omega, bn _⟩, h8⟩
  refine Ck (Xa (Cs (Em ?_)))
  refine Em ?_
  refine Kc I (fun w hS => gC (a := a) (m := m) (by exact ha) (by exact hm) (by exact hm0)) (Ns 22 I (v' := .string (S (A))) (congrArg (fun l => Value.string (S l)) (by rw [hA])) ?_)
  refine Ng I I (st I I I .tc (by kernel_rfl) I ?_ (by (simp only [Av, Aw]; rfl))) ?_
  ·(simp; done)
  intro _
  refine Nt (Cs (Em ?_))
  refine Kc I (fun w hS => gC (a := [1]) (m := m) (by exact hone) (by exact hm) (by exact hm0)) (Ns 24 I (v' := .string (S (ae (1 % val m)))) (congrArg (fun l => Value.string (S l)) (by rfl)) ?_)
  refine ET ?_
  intro b9
  refine Ng I I (st I I I .tc (by kernel_rfl) I ?_ (by (simp only [Av, Aw]; rfl))) ?_
  ·decide
  intro _
  refine Nt (Cq (Cs (Km I (Kh I (Oc I I (fun w hS => ve (x := x) hS)) ?_))))
  intro g26
  refine Nt (Cb (WC.range (CO := XCO b9 g26 b5 b3 x m A) (pg := fun s _ => okN s ∧ s.length ≤ 8) (inv := fun s y => True) (after := lG (val m) (val A)) (stop := fun _ _ => none) (enc := fun y : Bool => #[Value.bool y]) (ae (1 % val m)) (()) (itD x (lG (val m) (val A)) (aF x) (ae (1 % val m))) ((none : Option Code)) (h1k) I (by kernel_rfl) (fun _ => rfl) (by exact au) ?_ (fun l r D w hl hY hS => BR (x := x) hY hS h1k hx (fun s y => trivial) (fun s y => rfl)) ?_ ?_))
  ·intro l r D f a s g x ext wr hl hi hpg hF hS; rw [qL]; refine eS (Fr.tm (hF.put (d := 27) rfl _)) hS ?_; refine FI ?_; refine Ka I (Nn (WX.begin hl ?_)); have hbd := xF (a := val A) hp (by omega) s; have hsq : okN (ae (val s * val s % val m)) ∧ (ae (val s * val s % val m)).length ≤ 8 := (hbd false).2; refine Cb (Ga ?_); refine Em ?_; refine Em ?_; refine Em ?_; refine Kc I (fun w hS => mL (a := s) (b := s) (m := m) (by exact hpg.1) (by exact hpg.1) (by exact hm) (by exact hm0) (by exact hpg.2) (by exact hpg.2) (by exact hm8)) (Ng I I (st I I I .tc (by kernel_rfl) I ?_ (by (simp only [Av, Aw]; rfl))) ?_)
   ·(simp; done)
   intro _; refine Nt (Ga ?_); refine Km I (Nt (Ci I (fun hc32 => ?_) (fun hc32 => ?_)))
   ·refine FI ?_; refine Em ?_; refine Em ?_; refine Em ?_; refine Kc I (fun w hS => mL (a := ae (val s * val s % val m)) (b := A) (m := m) (by exact hsq.1) (by exact hAk) (by exact hm) (by exact hm0) (by exact hsq.2) (by exact hA8) (by exact hm8)) (Ng I I (st I I I .tc (by kernel_rfl) I ?_ (by (simp only [Av, Aw]; rfl))) ?_)
    ·(simp; done)
    intro _; refine Nn (Xd ?_)
    exact WX.rnext hl fun w' hS => by
     obtain rfl : x = true := by simpa using hc32
     exact ⟨rfl, (), fun _ => (hbd true).2, hS⟩
   ·refine Ck (Xd ?_)
    exact WX.rnext hl fun w' hS => by
     obtain rfl : x = false := by simpa using hc32
     exact ⟨rfl, (), fun _ => (hbd false).2, hS⟩
  ·intro D1 g1 hD1 hg1 hcf; refine Xd (Xa (Cs (Em ?_))); refine Ka I (to ?_); exact WX.retM1 hD1 I (.tmp I (.tmp I .nil)) fun w' hS => ⟨by rw [hr, ← hit]; rfl, hS.below⟩
  ·intro D1 g1 c hD1 hcf
   cases hcf
theorem bT : ae 1 = [1] := by decide +kernel
theorem fc {n : Nat} : ae n = [1] ↔ n = 1 := by rw [← bT, fe]
theorem kP {l : List Bs} {m : Bs} {a : Option Addr} {c : Nat} {w : World} {ok : Nat → Prop} (hF1 : (Fact.sl a (an (l ++ [m]))).holds ok w) (hl : l.length ≤ 1000) :
  Cw 126 #[.slice a (l ++ [m]).length c] w (.int .i64 (co l [m])) := by
 have hlen : (l ++ [m]).length = l.length + 1 := by simp
 refine En ([Fact.sl a (an (l ++ [m]))]) [(0, .slice a (l ++ [m]).length c)] Tryz.func126 I Tryz.ntmps126 I (Ac I (An _)) (Fc (ah hF1) Fn) (Cs (E5 ?_)); refine Lp (σ := Nat) [(0, _)] (fun gq => [(3, .int .i64 (gq : Int))]) (fun gq => gq ≤ (l ++ [m]).length ∧ ∀ x ∈ (l ++ [m]).take gq, okN x) (fun gq => (l ++ [m]).length - gq) (0) (S1 I) (S1 I) (by (try dsimp only); exact ⟨Ai _, by simp⟩) ?_
 rintro i hinv1; (try dsimp only at hinv1 ⊢)
 obtain ⟨hi, hok⟩ := hinv1
 refine E0 ?_; refine Yo I u31 (Ew (fun hc7 => ?_) (fun hc7 => ?_))
 ·have hil : i < (l ++ [m]).length := by omega
  refine El ?_; refine Km I (DZ ?_)
  refine EI ?_
  refine Kc I (fun w hS => ar (a := (l ++ [m]).getD i default)) (Eq (fun hc15 => ?_) (fun hc15 => ?_))
  ·refine Cs (to ?_); refine DS ?_; exact R1 I I (by rw [co, Aa (fun h => absurd (h _ (ap _ _ hil)) (by simpa using hc15))]; rfl)
  ·refine Ck (Xd (Xa (Cg (Km I (Kq I (Rz I I I (by omega)) (Ka I (Nn (Ly (i + 1) (by (try dsimp only); omega) (S1 I) (by refine (Sc ?_ (S0 _)) <;> (rfl)) ?_ (fun _ h => h))))))))); (try dsimp only); exact ⟨hil, az hil hok (by simpa using hc15)⟩
 ·refine AT ?_
  have hall : ∀ x ∈ l ++ [m], okN x := by
   have e : i = (l ++ [m]).length := by omega
   subst e; rw [Ap] at hok; exact hok
  have hgl : (l ++ [m]).getD l.length default = m := by simp
  refine Xa (E0 ?_); refine Yo I u31 (Kq I (av I I I (by omega)) ?_)
  refine DZ ?_
  refine Kq I (ldm I I u22 I (by omega)) ?_
  refine Ns 21 I (v' := .string (S (m))) (congrArg (fun l => Value.string (S l)) (by rw [hlen]; simp)) ?_
  refine Fu (fun hc22 => ?_) (fun hc22 => ?_)
  ·have hm0 : m = [] := by simpa using hc22
   refine Cs (ne ?_); exact R1 I I (by rw [co, Ab hall, Ab (by rw [hm0]; simp)]; rfl)
  ·have hm0 : m ≠ [] := by simpa using hc22
   refine Ck (Xa (Cs (to ?_))); exact R1 I I (by rw [co, Ab hall, Aa (by simpa using fun h => hm0 h)]; rfl)
theorem eL {a m : Bs} {w : World} (ha : okN a) (hm : okN m) (hm0 : m ≠ []) :
  Cw 180 #[.string (S a), .string (S m)] w (.string (S (ae (val a % val m)))) := by
 refine En [] [(0, .string (S a)), (1, .string (S m))] Tryz.func180 I Tryz.ntmps180 I (Ac I (Ac I (An _))) Fn (Cs (DT ?_)); refine Km I (Kc I (fun w hS => (by have := eT (w := w) (a := a) (b := m); rw [dg ha hm hm0] at this; exact this)) (EX ?_)); refine DT ?_; refine to ?_
 exact GH
theorem jB {n : Nat} (h : n < 18446744073709551616) : aQ (ae n) = (n, true) := by
 have h8 : (ae n).length ≤ 8 := bj.2 h
 rw [fU ⟨by omega, bn _⟩ h8, af]
theorem jf {a b m : Bs} {w : World} (ha : okN a) (hb : okN b) (hm : okN m) (hm0 : m ≠ []) (hm8 : m.length ≤ 8) :
  Cw 127 #[.string (S a), .string (S b), .string (S m)] w (.string (S (ae (val a * val b % val m)))) := by
 have hp := lC hm hm0
 have hm64 := dQ hm8
 have h1 := Ak (val a) hp; have h2 := Ak (val b) hp; have h3 := Ak (val a * val b) hp
 have hBB : 18446744073709551616 * 18446744073709551616 ≤ Big := by show 256 ^ 16 ≤ 256 ^ 128; exact A2 (by decide) (by decide)
 have hml : val a % val m * (val b % val m) < 18446744073709551616 * 18446744073709551616 := Dz (by omega) (by omega)
 have hmB := aK hm
 have hmu : bG (ae (val a % val m)) (ae (val b % val m)) = (ae (val a % val m * (val b % val m)), 0) := by
  rw [nh (by omega) (by omega), Ab (by omega)]
 have hko : okN (ae (val a % val m * (val b % val m))) := aq (by omega)
 refine En [] [(0, .string (S a)), (1, .string (S b)), (2, .string (S m))] Tryz.func127 I Tryz.ntmps127 I (Ac I (Ac I (Ac I (An _)))) Fn ?_
 refine Cs (DT ?_)
 refine Ku I (Oc I I (Kv fun w hS => (by have := kA (w := w) (a := m); rw [fU hm hm8] at this; exact this))) ?_
 refine BY ?_; refine E0 ?_
 refine Nb 21 I (fun hg21 => ?_) (fun hg21 => ?_)
 ·(try simp only [sB] at hg21)
  refine Km I (Yl I (Yp I (Nt ?_)))
  refine Cd I (fun hc24 => ?_) (fun hc24 => ?_)
  ·(try simp only [sB] at hc24)
   refine FS ?_
   refine Fm ?_
   refine Ku I (Oc I I (Kv fun w hS => (by have := kA (w := w) (a := ae (val a % val m)); rw [jB (by omega)] at this; exact this))) ?_
   refine BY ?_; refine FS ?_
   refine Fo ?_
   refine Ku I (Oc I I (Kv fun w hS => (by have := kA (w := w) (a := ae (val b % val m)); rw [jB (by omega)] at this; exact this))) ?_
   refine BY ?_; refine FS ?_
   refine Kq I (bH I I I (by exact Bj (Dw (by omega : _ ≤ 2147483647) (by omega : _ ≤ 2147483647)) (by decide))) ?_
   refine Km I ?_
   refine Kq I (bt I I I ?_) ?_
   ·assumption
   refine Ns 43 I (v' := .int .u64 ((val a * val b % val m : Nat) : Int)) (congrArg (Value.int .u64) (by rw [← C5])) ?_
   refine Ku I (Oc I I (Kv fun w hS => dJ (n := val a * val b % val m) (by omega))) ?_
   refine ne ?_
   exact GH
  ·(try simp only [sB] at hc24)
   refine EN ?_
   refine Fm ?_
   refine Km I (Km I ?_)
   refine Fo ?_
   refine Ku I (Oc I I (Kv fun w hS => (by have := mS (w := w) (a := ae (val a % val m)) (b := ae (val b % val m)); rw [hmu] at this; exact this))) ?_
   refine BY ?_; refine FS ?_
   refine Ku I (Oc I I (Kv fun w hS => eL (a := ae (val a % val m * (val b % val m))) (m := m) (by exact hko) (by exact hm) (by exact hm0))) ?_
   refine Ns 57 I (v' := .string (S (ae (val a * val b % val m)))) (congrArg (fun l => Value.string (S l)) (by rw [af, ← C5])) ?_
   refine to ?_
   exact GH
 ·(try simp only [sB] at hg21)
  refine Kt I (Kt I (Yq I (Nt ?_)))
  refine Cd I (fun h => by cases h) (fun _ => ?_)
  refine EN ?_
  refine Fm ?_
  refine Km I (Km I ?_)
  refine Fo ?_
  refine Ku I (Oc I I (Kv fun w hS => (by have := mS (w := w) (a := ae (val a % val m)) (b := ae (val b % val m)); rw [hmu] at this; exact this))) ?_
  refine BY ?_; refine FS ?_
  refine Ku I (Oc I I (Kv fun w hS => eL (a := ae (val a % val m * (val b % val m))) (m := m) (by exact hko) (by exact hm) (by exact hm0))) ?_
  refine Ns 57 I (v' := .string (S (ae (val a * val b % val m)))) (congrArg (fun l => Value.string (S l)) (by rw [af, ← C5])) ?_
  refine to ?_
  exact GH
theorem qi {a b m : Bs} {w : World} (hm8 : m.length ≤ 8) :
  Cw 73 #[.string (S a), .string (S b), .string (S m)] w (NE (iH a b m)) := by
 refine En [] [(0, .string (S a)), (1, .string (S b)), (2, .string (S m))] Tryz.func73 I Tryz.ntmps73 I (Ac I (Ac I (Ac I (An _)))) Fn (Cs (Ka I (Ka I (Nt (Cq (Cs (Km I (Km I (Km I (Kh I (aO I I u31 (by kernel_rfl : _ = some (some (.string (S [])), 1, 16)) I (by simp only [List.map]; rfl) I I ?_ (by decide)) ?_))))))))))
 ·simp [Value.cells]
 intro b12
 refine Kc I (fun w hS => kP (l := [a, b]) (m := m) (by (exact hS.os)) (by (simp <;> omega))) (DT ?_); refine EL (fun hc15 => ?_) (fun hc15 => ?_)
 ·have hr : iH a b m = ([], co [a, b] [m]) := by rw [iH, Aa (by simpa using hc15)]
  refine Cs (Km I (Ka I (ne ?_)))
  exact GE
 ·have h0 : co [a, b] [m] = 0 := by simpa using hc15
  have hr : iH a b m = (ae (val a * val b % val m), 0) := by rw [iH, Ab h0]
  obtain ⟨ha, hb, hm, hm0⟩ := x2 h0
  refine EN ?_; refine Km I (Kc I (fun w hS => jf (a := a) (b := b) (m := m) (by exact ha) (by exact hb) (by exact hm) (by exact hm0) (by exact hm8)) (Ka I (to ?_)))
  exact GE
theorem kB {a x m : Bs} {w : World} (ha : okN a) (hx : okN x) (hm : okN m) (hm0 : m ≠ []) (hm8 : m.length ≤ 8) :
  Cw 182 #[.string (S a), .string (S x), .string (S m)] w (.string (S (ae (val a ^ val x % val m)))) := by
 have hp := lC hm hm0
 have hm64 := dQ hm8
 have hmB := aK hm
 have hbl := gn hx.1
 have hB1 : 1 < Big := Ay (by decide) fg
 have hko : ∀ k, okN (ae (k % val m)) := fun k => aq (by have := Ak k hp; omega)
 refine En [] [(0, .string (S a)), (1, .string (S x)), (2, .string (S m))] Tryz.func182 I Tryz.ntmps182 I (Ac I (Ac I (Ac I (An _)))) Fn (Cs (Ka I (Nt (Cs (Kc I (fun w hS => dJ (n := 1) (by omega)) (Km I (Kc I (fun w hS => eL (a := ae 1) (m := m) (by exact aq hB1) (by exact hm) (by exact hm0)) (Ns 11 I (v' := .string (S (ae (val a ^ (val x / 2 ^ aF x) % val m)))) (congrArg (fun l => Value.string (S l)) (by rw [af, Bh (fQ x), B1])) ?_))))))))
 refine DR ?_; refine Kc I (fun w hS => wY (a := x)) (Ns 13 I (v' := .int .i64 ((aF x : Nat) : Int)) (congrArg (Value.int .i64) (by rw [Ab hx])) ?_)
 refine FG ?_; refine Ka I (Nt (Cb (Lp (σ := Nat × Int) [(0, _), (1, _), (2, _)] (fun gq => [(7, .string (S (ae (val a ^ (val x / 2 ^ gq.1) % val m)))), (8, .int .i64 gq.2)]) (fun gq => gq.1 ≤ aF x ∧ gq.2 = (gq.1 : Int) - 1) (fun gq => gq.1) (aF x, (aF x : Int) - 1) (S3 I I I) (S2 I I) (by (try dsimp only); exact ⟨Bd _, rfl⟩) ?_)))
 rintro ⟨n, j⟩ hinv1; (try dsimp only at hinv1 ⊢)
 obtain ⟨hn, hj⟩ := hinv1
 refine Cq (Cs (Km I (E7 (fun hc16 => ?_) (fun hc16 => ?_))))
 ·obtain ⟨k, rfl⟩ : ∃ k, n = k + 1 := ⟨n - 1, by omega⟩
  refine WC.set 8 I (v' := .int .i64 ((k : Nat) : Int)) (by rw [hj]; congr 1; omega) ?_
  refine El ?_; refine Km I (Km I (Kc I (fun w hS => jf (a := ae (val a ^ (val x / 2 ^ (k + 1)) % val m)) (b := ae (val a ^ (val x / 2 ^ (k + 1)) % val m)) (m := m) (by exact hko _) (by exact hko _) (by exact hm) (by exact hm0) (by exact hm8)) (DT ?_))); refine Km I (Kc I (fun w hS => pi (a := x) (i := k) (by omega)) (Nt (Ci I (fun hc25 => ?_) (fun hc25 => ?_))))
  ·have hd : val x / 2 ^ k % 2 = 1 := by rw [bR hx, gp] at hc25; simpa using hc25
   refine Cg (Km I (Km I (Km I (Kc I (fun w hS => jf (a := ae (val (ae (val a ^ (val x / 2 ^ (k + 1)) % val m)) * val (ae (val a ^ (val x / 2 ^ (k + 1)) % val m)) % val m)) (b := a) (m := m) (by exact hko _) (by exact ha) (by exact hm) (by exact hm0) (by exact hm8)) (Ns 29 I (v' := .string (S (ae (val a ^ (val x / 2 ^ k) % val m)))) (congrArg (fun l => Value.string (S l)) (by rw [af, af, me hd])) ?_))))); refine Ka I (Nn (Xd (Xa (Cg (Km I (Kq I (aJ I I I (by omega)) (Ka I (Nn (Ly ((k, (k : Int) - 1)) (by (try dsimp only); omega) (S3 I I I) (by refine (Sc ?_ (Sc ?_ (S0 _))) <;> (rfl)) ?_ (fun _ h => h)))))))))); (try dsimp only); exact ⟨by omega, rfl⟩
  ·have hd : val x / 2 ^ k % 2 = 0 := by
    rw [bR hx, gp] at hc25; have : ¬ val x / 2 ^ k % 2 = 1 := by simpa using hc25
    omega
   rw [af, mg hd]; refine Ck (Xd (Xa (Cg (Km I (Kq I (aJ I I I (by omega)) (Ka I (Nn (Ly ((k, (k : Int) - 1)) (by (try dsimp only); omega) (S3 I I I) (by refine (Sc ?_ (Sc ?_ (S0 _))) <;> (rfl)) ?_ (fun _ h => h))))))))); (try dsimp only); exact ⟨by omega, rfl⟩
 ·refine AT ?_
  obtain rfl : n = 0 := by omega
  rw [B1, Dj]
  refine Xa (Cs (Km I (to ?_)))
  exact GH
theorem wG {a x m : Bs} {w : World} (hm8 : m.length ≤ 8) :
  Cw 178 #[.string (S a), .string (S x), .string (S m)] w (NE (fJ a x m)) := by
 refine En [] [(0, .string (S a)), (1, .string (S x)), (2, .string (S m))] Tryz.func178 I Tryz.ntmps178 I (Ac I (Ac I (Ac I (An _)))) Fn (Cs (Ka I (Ka I (Nt (Cq (Cs (Km I (Km I (Km I (Kh I (aO I I u31 (by kernel_rfl : _ = some (some (.string (S [])), 1, 16)) I (by simp only [List.map]; rfl) I I ?_ (by decide)) ?_))))))))))
 ·simp [Value.cells]
 intro b12
 refine Kc I (fun w hS => kP (l := [a, x]) (m := m) (by (exact hS.os)) (by (simp <;> omega))) (DT ?_); refine EL (fun hc15 => ?_) (fun hc15 => ?_)
 ·have hr : fJ a x m = ([], co [a, x] [m]) := by rw [fJ, Aa (by simpa using hc15)]
  refine Cs (Km I (Ka I (ne ?_)))
  exact GE
 ·have h0 : co [a, x] [m] = 0 := by simpa using hc15
  have hr : fJ a x m = (ae (val a ^ val x % val m), 0) := by rw [fJ, Ab h0]
  obtain ⟨ha, hx, hm, hm0⟩ := x2 h0
  refine EN ?_; refine Km I (Kc I (fun w hS => kB (a := a) (x := x) (m := m) (by exact ha) (by exact hx) (by exact hm) (by exact hm0) (by exact hm8)) (Ka I (to ?_)))
  exact GE
abbrev Gp := Bs × Bs
abbrev gV (g : Gp) : Value := .agg #[.string (S g.1), .string (S g.2)]
def aU (g : Gp) : Int :=
 if okN g.1 ∧ okN g.2 then
  (if g.2 = [] then (if val g.1 % 2 = 1 ∧ 8 < val g.1 then 0 else 13)
   else if val g.1 ≤ 1 ∨ val g.2 < 2 ∨ (val g.1 - 1) % val g.2 ≠ 0 then 13 else 0)
 else 3
theorem fG (a b : Nat) : dm a b ≤ 0 ↔ a ≤ b := by
 have h := ax b a
 unfold dm at *
 constructor
 ·intro h1; split at h1 <;> (try split at h1) <;> omega
 ·intro h1; split <;> (try split) <;> omega
theorem dk (a b : Nat) : 0 ≤ dm a b ↔ b ≤ a := by
 have h := ax a b; omega
theorem j3 {a : Bs} (h : okN a) : lq a 0 = decide (val a % 2 = 1) := by
 have := bR (i := 0) h
 rw [show ((0 : Nat) : Int) = 0 from rfl] at this
 rw [this, gp, B1, Dj]
theorem iC {g : Gp} {w : World} :
  Cw 84 #[gV g] w (.int .i64 (aU g)) := by
 have hB8 : 8 < Big := Ay (by decide) fg
 refine En [] [(0, gV g)] Tryz.func84 I Tryz.ntmps84 I (Ac I (An _)) Fn (DO ?_)
 intro b1
 refine Ka I (Nt (Cq (WC.joinP (σ := Unit) [(1, _)] (fun gq => [(17, .bool (decide (¬ (okN g.1 ∧ okN g.2))))]) (fun gq => True) (S1 I) ?_ ?_)))
 ·skip
  refine Cg (ED ?_)
  refine Kc I (fun w hS => ay (a := g.1)) (Yt I (Km I (Nc 12 I (fun hg12 => ?_) (fun hg12 => ?_))))
  ·refine T4 I (Yp I (Nn (WX.joinP (()) (S1 I) (by refine (Sc ?_ (S0 _)) <;> ((refine ai rfl ?_; (try dsimp only); (simp [*]; done)))) ?_ (fun _ h => h)))); (try dsimp only); done
  ·refine Kf 1 I u26 I I I .tc u22 ?_; refine Kc I (fun w hS => ay (a := g.2)) (Yt I (Yq I (Nn (WX.joinP (()) (S1 I) (by refine (Sc ?_ (S0 _)) <;> ((refine ai rfl ?_; (try dsimp only); (simp [*]; done)))) ?_ (fun _ h => h))))); (try dsimp only); done
 ·rintro _ hmeet; (try dsimp only at hmeet ⊢)
  refine Ci I (fun hc17 => ?_) (fun hc17 => ?_)
  ·have hr : aU g = 3 := by rw [aU, Aa hc17]
   refine Cs (ne ?_); exact Gz
  ·have hok : okN g.1 ∧ okN g.2 := by simpa using hc17
   have hb1 := aK hok.1; have hb2 := aK hok.2; have hv2 : val g.2 = 0 ↔ g.2 = [] := aM hok.2.2; refine Gg ?_; refine EE ?_; refine Fu (fun hc20 => ?_) (fun hc20 => ?_)
   ·have hq : g.2 = [] := by simpa using hc20
    refine Cq (WC.joinP (σ := Unit) [] (fun gq => [(31, .bool (decide (¬ (val g.1 % 2 = 1 ∧ 8 < val g.1))))]) (fun gq => True) (S0 _) ?_ ?_)
    ·skip
     refine Cf [0, 1, 2, 3, 4, 7, 5, 6, 8, 9, 10] [] [0, 0, 1, 0, 0, 0, 0, 1, 1, 0, 0] (by kernel_rfl) (by kernel_rfl) I ?_; refine Fs ?_; refine DY ?_; refine Jv I I I I I (fun ext => Oc I I (Kv fun w hS => nK (a := g.1) (i := 0) (by omega))) ?_; refine WJ.set 23 I (v' := .bool (decide (val g.1 % 2 = 1))) (congrArg Value.bool (by exact j3 hok.1)) ?_; refine Kj I (Rt I I) (ER ?_); refine WJ.bool 25 I (fun hg25 => ?_) (fun hg25 => ?_)
     ·(try simp only [sB] at hg25); refine Js I I I I (Js I I I I (Js I I I I (Js I I I I (Js I I I I (Kj I (Rp I I I) ?_))))); refine WJ.nil ?_; refine Nn (WX.joinP (()) (S0 _) (by refine (Sc ?_ (S0 _)) <;> ((refine ai rfl ?_; (try dsimp only); (simp [*]; done)))) ?_ (fun _ h => h)); (try dsimp only); done
     ·(try simp only [sB] at hg25); refine Jv I I I I I (fun ext => Oc I I (Kv fun w hS => f8 (n := 8) (by omega))) ?_; refine Kj I (Fa (q := 0) I I u26 I I) (Kj I (Ld I I .tc u22) ?_); refine Jv I I I I I (fun ext => Oc I I (Kv fun w hS => el (a := g.1) (b := ae 8))) ?_; refine Kj I (tS I I I) ?_; refine WJ.set 30 I (v' := .bool (decide (val g.1 ≤ 8))) (congrArg Value.bool (by rw [aB hok.1 (aq hB8), af]; exact Af.2 (fG _ _))) ?_; refine Kj I (Rq I I I) ?_; refine WJ.nil ?_; refine Nn (WX.joinP (()) (S0 _) (by refine (Sc ?_ (S0 _)) <;> ((refine ai rfl ?_; (try dsimp only); (exact Af.2 (by omega))))) ?_ (fun _ h => h)); (try dsimp only); done
    ·rintro _ hmeet; (try dsimp only at hmeet ⊢); refine Ci I (fun hc31 => ?_) (fun hc31 => ?_)
     ·have hr : aU g = 13 := by rw [aU, Ab hok, Ab hq, Aa hc31]
      refine Cs (ne ?_); refine Xb ?_; exact Gz
     ·have hr : aU g = 0 := by rw [aU, Ab hok, Ab hq, Ab (by simpa using hc31)]
      refine Ck (Xa (Cs (ne ?_))); exact Gz
   ·have hq : g.2 ≠ [] := by simpa using hc20
    have hsb : eP g.1 (ae 1) = if val g.1 < 1 then ([], 2) else (ae (val g.1 - 1), 0) := by rw [eP, Ab ⟨hok.1, aq (by omega)⟩, af]
    have hqp : 0 < val g.2 := by rcases B0 (val g.2) with h | h; exact absurd (hv2.1 h) hq; exact h
    refine Ck (Xa (Cq (Cf [2, 0, 1, 3, 4, 5, 6, 7, 8] [] [0, 0, 1, 1, 0, 0, 0, 0, 0] (by kernel_rfl) (by kernel_rfl) I ?_))); refine Jv I I I I I (fun ext => Oc I I (Kv fun w hS => f8 (n := 1) (by omega))) ?_; refine Fs ?_; refine DY ?_; refine Jv I I I I I (fun ext => Oc I I (Kv fun w hS => pU (a := g.1) (b := ae 1))) ?_; refine ER ?_; refine EM ?_; refine WJ.nil ?_; refine Nt (Cq (WC.joinP (σ := Unit) [(1, _), (3, _)] (fun gq => [(51, .bool (decide (val g.1 ≤ 1 ∨ val g.2 < 2)))]) (fun gq => True) (S2 I I) ?_ ?_))
    ·skip
     refine Cf [0, 1, 2, 3, 4, 5, 6, 9, 7, 8, 10, 11, 12] [] [0, 0, 0, 0, 0, 0, 0, 0, 0, 1, 1, 0, 0] (by kernel_rfl) (by kernel_rfl) I ?_; refine Kj I (Rm I I) (Kj I (mW I I I) ?_); refine WJ.set 40 I (v' := .bool (decide (val g.1 < 1))) (congrArg Value.bool (by rw [hsb]; split <;> simp <;> omega)) ?_; refine Kj I (Rm I I) ?_; refine WJ.bool 41 I (fun hg41 => ?_) (fun hg41 => ?_)
     ·(try simp only [sB] at hg41); refine Js I I I I (Js I I I I (Kj I (Rp I I I) (Kj I (Rm I I) (Js I I I I (Js I I I I (Js I I I I (Js I I I I (Js I I I I (Kj I (Rp I I I) ?_))))))))); refine WJ.nil ?_; refine Nn (WX.joinP (()) (S2 I I) (by refine (Sc ?_ (S0 _)) <;> ((exact congrArg (fun b => some (Value.bool b)) (by symm; apply Am; omega)))) ?_ (fun _ h => h)); (try dsimp only); done
     ·(try simp only [sB] at hg41); refine Kj I (Rm I I) (Kj I (mT I I I) ?_); refine WJ.set 43 I (v' := .bool (decide (val g.1 ≤ 1))) (congrArg Value.bool (by rw [hsb]; split <;> simp [aT] <;> omega)) ?_; refine Kj I (Rq I I I) (Kj I (Rm I I) ?_); refine WJ.bool 45 I (fun hg45 => ?_) (fun hg45 => ?_)
      ·(try simp only [sB] at hg45); refine Js I I I I (Js I I I I (Js I I I I (Js I I I I (Js I I I I (Kj I (Rp I I I) ?_))))); refine WJ.nil ?_; refine Nn (WX.joinP (()) (S2 I I) (by refine (Sc ?_ (S0 _)) <;> ((refine ai rfl ?_; (try dsimp only); (simp [*]; done)))) ?_ (fun _ h => h)); (try dsimp only); done
      ·(try simp only [sB] at hg45); refine Jv I I I I I (fun ext => Oc I I (Kv fun w hS => f8 (n := 2) (by omega))) ?_; refine Kj I (Fa (q := 1) I I u26 I I) (Kj I (Ld I I .tc u22) ?_); refine Jv I I I I I (fun ext => Oc I I (Kv fun w hS => el (a := g.2) (b := ae 2))) ?_; refine Kj I (kL I I I) ?_; refine WJ.set 50 I (v' := .bool (decide (val g.2 < 2))) (congrArg Value.bool (by rw [aB hok.2 (aq (by omega)), af]; exact Af.2 (ax _ _))) ?_; refine Kj I (Rq I I I) ?_; refine WJ.nil ?_; refine Nn (WX.joinP (()) (S2 I I) (by refine (Sc ?_ (S0 _)) <;> ((refine ai rfl ?_; (try dsimp only); (exact Af.2 (by omega))))) ?_ (fun _ h => h)); (try dsimp only); done
    ·rintro _ hmeet; (try dsimp only at hmeet ⊢); refine Ci I (fun hc51 => ?_) (fun hc51 => ?_)
     ·have hr : aU g = 13 := by rw [aU, Ab hok, Aa hq, Ab (by omega)]
      refine Cs (ne ?_); exact Gz
     ·have hs1 : (eP g.1 (ae 1)).1 = ae (val g.1 - 1) := by rw [hsb, Aa (by omega)]
      have hdv : fE (ae (val g.1 - 1)) g.2 = ((ae ((val g.1 - 1) / val g.2), ae ((val g.1 - 1) % val g.2)), 0) := by rw [dg (aq (by omega)) hok.2 hq, af]
      rw [hs1]; refine Fe ?_; refine EE ?_; refine Kc I (fun w hS => (by have := e9 (w := w) (a := ae (val g.1 - 1)) (b := g.2); rw [hdv] at this; exact this)) (EX ?_); refine DT ?_; refine Yj I (Ns 61 I (v' := .bool false) (by rfl) ?_); refine Km I (Km I (Yr I (Ns 64 I (v' := .bool (decide ((val g.1 - 1) % val g.2 ≠ 0))) (congrArg Value.bool (by simp [aT])) ?_))); refine Yq I (Nt (Ci I (fun hc65 => ?_) (fun hc65 => ?_)))
      ·have hr : aU g = 13 := by rw [aU, Ab hok, Aa hq, Ab (Or.inr (Or.inr hc65))]
       refine Cs (ne ?_); exact Gz
      ·have hr : aU g = 0 := by rw [aU, Ab hok, Aa hq, Aa (fun h => by rcases h with h | h | h; omega; omega; exact hc65 h)]
       refine Ck (Xa (Cs (to ?_))); exact Gz
theorem qr {g : Gp} {w : World} :
  Cw 168 #[gV g] w (.bool (decide (okN g.1 ∧ okN g.2))) := by
 refine En [] [(0, gV g)] Tryz.func168 I Tryz.ntmps168 I (Ac I (An _)) Fn (DO ?_)
 intro b1
 refine Ka I (Nt (Cs (ED ?_)))
 refine Kc I (fun w hS => ay (a := g.1)) (Km I (Nc 6 I (fun hg6 => ?_) (fun hg6 => ?_)))
 ·refine EE ?_
  refine Kc I (fun w hS => ay (a := g.2)) (Yp I (to ?_))
  exact GF
 ·refine T2 I (Kt I (Yq I (to ?_)))
  exact GF
def jS (g : Gp) (x : Bs) : Prop := okN g.1 ∧ okN g.2 ∧ okN x ∧ g.2 ≠ [] ∧ x ≠ [] ∧ val x < val g.1 ∧ val x ^ val g.2 % val g.1 = 1
instance (g : Gp) (x : Bs) : Decidable (jS g x) := inferInstanceAs (Decidable (_ ∧ _))
theorem nk {a x m : Bs} (ha : okN a) (hx : okN x) (hm : okN m) (hm0 : m ≠ []) : fJ a x m = (ae (val a ^ val x % val m), 0) := by
 rw [fJ, Ab (lk (by intro y hy; simp at hy; rcases hy with rfl | rfl | rfl <;> assumption) (by simpa using fun h => hm0 h))]
theorem qt : okN [] := ⟨by decide, by decide⟩
theorem rT {x : Bs} (h : okN x) (h0 : x ≠ []) : 0 < val x := lC h h0
theorem ud {g : Gp} {x : Bs} {w : World} (hm8 : g.1.length ≤ 8) :
  Cw 146 #[gV g, .string (S x)] w (.bool (decide (jS g x))) := by
 refine En [] [(0, gV g), (1, .string (S x))] Tryz.func146 I Tryz.ntmps146 I (Ac I (Ac I (An _))) Fn (DO ?_)
 intro b2
 refine Ka I (Nt (Cq (WC.joinP (σ := Unit) [(1, _), (2, _)] (fun gq => [(32, .bool (decide (¬ ((okN g.1 ∧ okN g.2) ∧ okN x ∧ g.2 ≠ [] ∧ x ≠ [] ∧ val x < val g.1))))]) (fun gq => True) (S2 I I) ?_ ?_)))
 ·skip
  refine Cg (Kq I (lda I I .tc u26 I ?_) ?_)
  ·kernel_rfl
  refine Kc I (fun w hS => qr (g := g)) (Yt I (Km I (Nc 12 I (fun hg12 => ?_) (fun hg12 => ?_))))
  ·refine T2 I (Kt I (Yp I (Km I (T2 I (Kt I (Yp I (Km I (T2 I (Yp I (Km I (T4 I (Kt I (Yp I (Nn (WX.joinP (()) (S2 I I) (by refine (Sc ?_ (S0 _)) <;> ((refine ai rfl ?_; (try dsimp only); (simp [*]; done)))) ?_ (fun _ h => h)))))))))))))))); (try dsimp only); done
  ·refine Km I (Kc I (fun w hS => ay (a := x)) (Yt I (Yq I (Km I (Nc 17 I (fun hg17 => ?_) (fun hg17 => ?_))))))
   ·refine T2 I (Kt I (Yp I (Km I (T2 I (Yp I (Km I (T4 I (Kt I (Yp I (Nn (WX.joinP (()) (S2 I I) (by refine (Sc ?_ (S0 _)) <;> ((refine ai rfl ?_; (try dsimp only); (simp [*]; done)))) ?_ (fun _ h => h)))))))))))); (try dsimp only); done
   ·refine EE ?_; refine Ys I (Yq I (Km I (Nc 22 I (fun hg22 => ?_) (fun hg22 => ?_))))
    ·refine T2 I (Yp I (Km I (T4 I (Kt I (Yp I (Nn (WX.joinP (()) (S2 I I) (by refine (Sc ?_ (S0 _)) <;> ((refine ai rfl ?_; (try dsimp only); (simp [*]; done)))) ?_ (fun _ h => h)))))))); (try dsimp only); done
    ·refine Km I (Ys I (Yq I (Km I (Nc 26 I (fun hg26 => ?_) (fun hg26 => ?_)))))
     ·refine T4 I (Kt I (Yp I (Nn (WX.joinP (()) (S2 I I) (by refine (Sc ?_ (S0 _)) <;> ((refine ai rfl ?_; (try dsimp only); (simp [*]; done)))) ?_ (fun _ h => h))))); (try dsimp only); done
     ·refine Km I (Kf 0 I u26 I I I .tc u22 ?_); refine Kc I (fun w hS => el (a := x) (b := g.1)) (Yh I (Ns 31 I (v' := .bool (decide (val g.1 ≤ val x))) (congrArg Value.bool (by rw [aB hg17 hg12.1]; exact Af.2 (dk _ _))) ?_)); refine Yq I (Nn (WX.joinP (()) (S2 I I) (by refine (Sc ?_ (S0 _)) <;> ((refine ai rfl ?_; (try dsimp only); (simp [*]; done)))) ?_ (fun _ h => h))); (try dsimp only); done
 ·rintro _ hmeet; (try dsimp only at hmeet ⊢)
  refine Ci I (fun hc32 => ?_) (fun hc32 => ?_)
  ·have hr : ¬ jS g x := fun h => hc32 ⟨⟨h.1, h.2.1⟩, h.2.2.1, h.2.2.2.1, h.2.2.2.2.1, h.2.2.2.2.2.1⟩
   refine Cs (ne ?_); exact GF
  ·have hok : (okN g.1 ∧ okN g.2) ∧ okN x ∧ g.2 ≠ [] ∧ x ≠ [] ∧ val x < val g.1 := Ao.1 hc32; obtain ⟨⟨hm, hq⟩, hx, hq0, hx0, hlt⟩ := hok; have hxp := rT hx hx0; have hm0 : g.1 ≠ [] := fun h => by rw [h] at hlt; exact absurd hlt (Ea _)
   have he1 := nk hx hq hm hm0; have he2 := nk hx qt hm hm0; have h1m : val x ^ val [] % val g.1 = 1 := by rw [show val [] = 0 from rfl, B1, Ah (by omega)]
   have hr : jS g x ↔ val x ^ val g.2 % val g.1 = 1 := ⟨fun h => h.2.2.2.2.2.2, fun h => ⟨hm, hq, hx, hq0, hx0, hlt, h⟩⟩; refine FN ?_; refine EE ?_; refine ED ?_; refine Kc I (fun w hS => (by have := uo (w := w) (a := x) (x := g.2) (m := g.1) hm8; rw [he1] at this; exact this)) (BY ?_); refine Cs (Km I (ED ?_)); refine Kc I (fun w hS => (by have := uo (w := w) (a := x) (x := []) (m := g.1) hm8; rw [he2, h1m] at this; exact this)) (BY ?_); refine Cs (Km I (Yi I (Ns 50 I (v' := .bool true) (by rfl) ?_))); refine Km I (Km I (Km I (Ys I (Ns 54 I (v' := .bool (decide (jS g x))) (congrArg Value.bool (by simp [hr, fe])) ?_)))); refine Yp I (to ?_); exact GH
def dM (g : Gp) : Prop := okN g.1 ∧ g.2 = [] ∧ val g.1 % 2 = 1 ∧ 8 < val g.1
instance (g : Gp) : Decidable (dM g) := inferInstanceAs (Decidable (_ ∧ _))
theorem wH {g : Gp} {w : World} :
  Cw 165 #[gV g] w (.bool (decide (dM g))) := by
 have hB8 : 8 < Big := Ay (by decide) fg
 refine En [] [(0, gV g)] Tryz.func165 I Tryz.ntmps165 I (Ac I (An _)) Fn (DO ?_)
 intro b1
 refine Ka I (Nt (Cq (Cf [0, 1, 2, 3, 4, 5, 6, 7, 8, 9, 10, 11, 12, 13, 16, 14, 15, 17, 18, 19, 20] [] [0, 0, 1, 0, 0, 0, 0, 0, 0, 0, 0, 1, 0, 0, 0, 0, 1, 1, 0, 0, 0] (by kernel_rfl) (by kernel_rfl) I ?_)))
 refine Fs ?_; refine DY ?_
 refine Jv I I I I I (fun ext => Oc I I (Kv fun w hS => ay (a := g.1))) ?_
 refine ER ?_
 refine WJ.bool 6 I (fun hg6 => ?_) (fun hg6 => ?_)
 ·(try simp only [sB] at hg6)
  refine Kj I (Fa (q := 1) I I u26 I I) (DY ?_)
  refine Kj I (mT I I I) (Kj I (Rp I I I) (ER ?_))
  refine WJ.bool 11 I (fun hg11 => ?_) (fun hg11 => ?_)
  ·(try simp only [sB] at hg11); refine Fs ?_; refine DY ?_; refine Jv I I I I I (fun ext => Oc I I (Kv fun w hS => nK (a := g.1) (i := 0) (by omega))) ?_; refine WJ.set 14 I (v' := .bool (decide (val g.1 % 2 = 1))) (congrArg Value.bool (by exact j3 hg6)) ?_; refine Kj I (Rp I I I) (ER ?_); refine WJ.bool 16 I (fun hg16 => ?_) (fun hg16 => ?_)
   ·(try simp only [sB] at hg16); refine Jv I I I I I (fun ext => Oc I I (Kv fun w hS => f8 (n := 8) (by omega))) ?_; refine Fs ?_; refine DY ?_; refine Jv I I I I I (fun ext => Oc I I (Kv fun w hS => el (a := g.1) (b := ae 8))) ?_; refine Kj I (mY I I I) ?_; refine WJ.set 21 I (v' := .bool (decide (8 < val g.1))) (congrArg Value.bool (by rw [aB hg6 (aq hB8), af]; exact Af.2 (by have := fG (val g.1) 8; omega))) ?_; refine Kj I (Rp I I I) (ES ?_); refine WJ.nil ?_; refine Nt (Ce ?_); exact GM
   ·(try simp only [sB] at hg16); refine Ey ?_; refine F0 ?_; refine ES ?_; refine WJ.nil ?_; refine Nt (Ce ?_); exact GM
  ·(try simp only [sB] at hg11); refine Ey ?_; refine Kj I (Rq I I I) (ER ?_); refine Ey ?_; refine F0 ?_; refine ES ?_; refine WJ.nil ?_; refine Nt (Ce ?_); exact GM
 ·(try simp only [sB] at hg6)
  refine Ey ?_; refine Kj I (Rq I I I) (ER ?_); refine Ey ?_; refine Kj I (Rq I I I) (ER ?_); refine Ey ?_; refine F0 ?_; refine ES ?_
  refine WJ.nil ?_
  refine Nt (Ce ?_)
  exact GM
theorem wD {w : World} :
  Cw 167 #[] w (.string (S (ae 1))) := by
 refine En [] [] Tryz.func167 I Tryz.ntmps167 I (An _) Fn (Cs (Ka I (Nt (Cs (Kc I (fun w hS => f8 (n := 1) (by omega)) (to ?_))))))
 exact GH
def jR (g : Gp) (x : Bs) : Prop := dM g ∧ okN x ∧ x ≠ [] ∧ val x < val g.1 ∧ Nat.gcd (val x) (val g.1) = 1
instance (g : Gp) (x : Bs) : Decidable (jR g x) := inferInstanceAs (Decidable (_ ∧ _))
theorem qg {g : Gp} {x : Bs} {w : World} :
  Cw 113 #[gV g, .string (S x)] w (.bool (decide (jR g x))) := by
 refine En [] [(0, gV g), (1, .string (S x))] Tryz.func113 I Tryz.ntmps113 I (Ac I (Ac I (An _))) Fn (DO ?_)
 intro b2
 refine Ka I (Nt (Cq (WC.joinP (σ := Unit) [(1, _), (2, _)] (fun gq => [(25, .bool (decide (¬ (dM g ∧ okN x ∧ x ≠ [] ∧ val x < val g.1))))]) (fun gq => True) (S2 I I) ?_ ?_)))
 ·skip
  refine Cg (Kq I (lda I I .tc u26 I ?_) ?_)
  ·kernel_rfl
  refine Kc I (fun w hS => wH (g := g)) (Yt I (Km I (Nc 10 I (fun hg10 => ?_) (fun hg10 => ?_))))
  ·refine T2 I (Kt I (Yp I (Km I (T2 I (Yp I (Km I (T4 I (Kt I (Yp I (Nn (WX.joinP (()) (S2 I I) (by refine (Sc ?_ (S0 _)) <;> ((refine ai rfl ?_; (try dsimp only); (simp [*]; done)))) ?_ (fun _ h => h)))))))))))); (try dsimp only); done
  ·refine Km I (Kc I (fun w hS => ay (a := x)) (Yt I (Yq I (Km I (Nc 15 I (fun hg15 => ?_) (fun hg15 => ?_))))))
   ·refine T2 I (Yp I (Km I (T4 I (Kt I (Yp I (Nn (WX.joinP (()) (S2 I I) (by refine (Sc ?_ (S0 _)) <;> ((refine ai rfl ?_; (try dsimp only); (simp [*]; done)))) ?_ (fun _ h => h)))))))); (try dsimp only); done
   ·refine Km I (Ys I (Yq I (Km I (Nc 19 I (fun hg19 => ?_) (fun hg19 => ?_)))))
    ·refine T4 I (Kt I (Yp I (Nn (WX.joinP (()) (S2 I I) (by refine (Sc ?_ (S0 _)) <;> ((refine ai rfl ?_; (try dsimp only); (simp [*]; done)))) ?_ (fun _ h => h))))); (try dsimp only); done
    ·refine Km I (Kf 0 I u26 I I I .tc u22 ?_); refine Kc I (fun w hS => el (a := x) (b := g.1)) (Yh I (Ns 24 I (v' := .bool (decide (val g.1 ≤ val x))) (congrArg Value.bool (by rw [aB hg15 hg10.1]; exact Af.2 (dk _ _))) ?_)); refine Yq I (Nn (WX.joinP (()) (S2 I I) (by refine (Sc ?_ (S0 _)) <;> ((refine ai rfl ?_; (try dsimp only); (simp [*]; done)))) ?_ (fun _ h => h))); (try dsimp only); done
 ·rintro _ hmeet; (try dsimp only at hmeet ⊢)
  refine Ci I (fun hc25 => ?_) (fun hc25 => ?_)
  ·have hr : ¬ jR g x := fun h => hc25 ⟨h.1, h.2.1, h.2.2.1, h.2.2.2.1⟩
   refine Cs (ne ?_); exact GF
  ·have hok : dM g ∧ okN x ∧ x ≠ [] ∧ val x < val g.1 := Ao.1 hc25; have hgc : jT x g.1 = (ae (Nat.gcd (val x) (val g.1)), 0) := by rw [jT, Ab ⟨hok.2.1, hok.1.1⟩]
   have hr : jR g x ↔ Nat.gcd (val x) (val g.1) = 1 := ⟨fun h => h.2.2.2.2, fun h => ⟨hok.1, hok.2.1, hok.2.2.1, hok.2.2.2, h⟩⟩; refine FN ?_; refine ED ?_; refine Kc I (fun w hS => (by have := BL (w := w) (a := x) (b := g.1); rw [hgc] at this; exact this)) (BY ?_); refine Cs (Km I (Kc I (fun w hS => wD) (Ys I (Ns 35 I (v' := .bool (decide (jR g x))) (congrArg Value.bool (by simp [hr, fe])) ?_)))); refine to ?_; exact GH
def elG (g : Gp) (x : Bs) : Prop := okN x ∧ x ≠ [] ∧ val x < val g.1 ∧ (if g.2 = [] then Nat.gcd (val x) (val g.1) = 1 else val x ^ val g.2 % val g.1 = 1)
instance (g : Gp) (x : Bs) : Decidable (elG g x) := inferInstanceAs (Decidable (_ ∧ _))
theorem cq {g : Gp} (h : aU g = 0) : okN g.1 ∧ okN g.2 ∧ 2 ≤ val g.1 ∧ (g.2 = [] → dM g) ∧ (g.2 ≠ [] → 2 ≤ val g.2 ∧ (val g.1 - 1) % val g.2 = 0) := by
 unfold aU at h
 split at h
 ·rename_i h1
  split at h
  ·rename_i h2; split at h
   ·rename_i h3; exact ⟨h1.1, h1.2, by omega, fun _ => ⟨h1.1, h2, h3.1, h3.2⟩, fun hn => absurd h2 hn⟩
   ·simp at h
  ·rename_i h2; split at h
   ·simp at h
   ·rename_i h3; exact ⟨h1.1, h1.2, by omega, fun hn => absurd hn h2, fun _ => ⟨by omega, by omega⟩⟩
 ·simp at h
theorem yr {g : Gp} {x : Bs} (h : aU g = 0) (hq : g.2 ≠ []) : jS g x ↔ elG g x := by
 obtain ⟨h1, h2, h3, h4, h5⟩ := cq h
 rw [jS, elG, Aa hq]
 exact ⟨fun ⟨_, _, a, _, b, c, d⟩ => ⟨a, b, c, d⟩, fun ⟨a, b, c, d⟩ => ⟨h1, h2, a, hq, b, c, d⟩⟩
theorem BP {g : Gp} {x : Bs} (h : aU g = 0) (hq : g.2 = []) : jR g x ↔ elG g x := by
 obtain ⟨h1, h2, h3, h4, h5⟩ := cq h
 rw [jR, elG, Ab hq]
 exact ⟨fun ⟨_, a, b, c, d⟩ => ⟨a, b, c, d⟩, fun ⟨a, b, c, d⟩ => ⟨h4 hq, a, b, c, d⟩⟩
theorem n7 {g : Gp} {x : Bs} {w : World} (hg : aU g = 0) (hm8 : g.1.length ≤ 8) :
  Cw 85 #[gV g, .string (S x)] w (.bool (decide (elG g x))) := by
 refine En [] [(0, gV g), (1, .string (S x))] Tryz.func85 I Tryz.ntmps85 I (Ac I (Ac I (An _))) Fn (DO ?_)
 intro b2
 refine Ka I (Nt (Cq (Cs (EE ?_))))
 refine Yr I (Nt (Ci I (fun hc7 => ?_) (fun hc7 => ?_)))
 ·have hq : g.2 ≠ [] := by simpa using hc7
  have hr := yr (x := x) hg hq
  refine Cs (Kq I (lda I I .tc u26 I ?_) ?_)
  ·kernel_rfl
  refine Km I (Kc I (fun w hS => ud (g := g) (x := x) (by assumption)) (ne ?_))
  exact R1 I I (by simp only [hr]; rfl)
 ·have hq : g.2 = [] := by simpa using hc7
  have hr := BP (x := x) hg hq
  refine Ck (Xa (Cs (Kq I (lda I I .tc u26 I ?_) ?_)))
  ·kernel_rfl
  refine Km I (Kc I (fun w hS => qg (g := g) (x := x)) (to ?_))
  exact R1 I I (by simp only [hr]; rfl)
theorem iz {g : Gp} {x : Bs} {w : World} (hm8 : g.1.length ≤ 8) :
  Cw 41 #[gV g, .string (S x)] w (.bool (decide (aU g = 0 ∧ elG g x))) := by
 refine En [] [(0, gV g), (1, .string (S x))] Tryz.func41 I Tryz.ntmps41 I (Ac I (Ac I (An _))) Fn (DO ?_)
 intro b2
 refine Ka I (Nt (Cs (Kq I (lda I I .tc u26 I ?_) ?_)))
 ·kernel_rfl
 refine Kc I (fun w hS => iC (g := g)) (Yi I (Km I (Nc 8 I (fun hg8 => ?_) (fun hg8 => ?_))))
 ·refine Kq I (lda I I .tc u26 I ?_) ?_
  ·kernel_rfl
  refine Km I (Kc I (fun w hS => n7 (g := g) (x := x) (by assumption) (by assumption)) (Yp I (to ?_)))
  exact GF
 ·refine T2 I (Kt I (Yq I (to ?_)))
  exact GF
theorem n2 {g : Gp} {w : World} :
  Cw 171 #[gV g] w (.bool (decide (okN g.1 ∧ okN g.2))) := by
 refine En [] [(0, gV g)] Tryz.func171 I Tryz.ntmps171 I (Ac I (An _)) Fn (DO ?_)
 intro b1
 refine Ka I (Nt (Cs (ED ?_)))
 refine Kc I (fun w hS => ar (a := g.1)) (Km I (Nc 6 I (fun hg6 => ?_) (fun hg6 => ?_)))
 ·refine EE ?_
  refine Kc I (fun w hS => ar (a := g.2)) (Yp I (to ?_))
  exact GF
 ·refine T2 I (Kt I (Yq I (to ?_)))
  exact GF
theorem qh {g : Gp} {x : Bs} {w : World} (hm8 : g.1.length ≤ 8) :
  Cw 124 #[gV g, .string (S x)] w (.bool (decide (jS g x))) := by
 refine En [] [(0, gV g), (1, .string (S x))] Tryz.func124 I Tryz.ntmps124 I (Ac I (Ac I (An _))) Fn (DO ?_)
 intro b2
 refine Ka I (Nt (Cq (WC.joinP (σ := Unit) [(1, _), (2, _)] (fun gq => [(30, .bool (decide (¬ ((okN g.1 ∧ okN g.2) ∧ okN x ∧ g.2 ≠ [] ∧ x ≠ [] ∧ val x < val g.1))))]) (fun gq => True) (S2 I I) ?_ ?_)))
 ·skip
  refine Cg (Kq I (lda I I .tc u26 I ?_) ?_)
  ·kernel_rfl
  refine Kc I (fun w hS => n2 (g := g)) (Yt I (Km I (Nc 10 I (fun hg10 => ?_) (fun hg10 => ?_))))
  ·refine T2 I (Kt I (Yp I (Km I (T2 I (Kt I (Yp I (Km I (T2 I (Yp I (Km I (T4 I (Kt I (Yp I (Nn (WX.joinP (()) (S2 I I) (by refine (Sc ?_ (S0 _)) <;> ((refine ai rfl ?_; (try dsimp only); (simp [*]; done)))) ?_ (fun _ h => h)))))))))))))))); (try dsimp only); done
  ·refine Km I (Kc I (fun w hS => ar (a := x)) (Yt I (Yq I (Km I (Nc 15 I (fun hg15 => ?_) (fun hg15 => ?_))))))
   ·refine T2 I (Kt I (Yp I (Km I (T2 I (Yp I (Km I (T4 I (Kt I (Yp I (Nn (WX.joinP (()) (S2 I I) (by refine (Sc ?_ (S0 _)) <;> ((refine ai rfl ?_; (try dsimp only); (simp [*]; done)))) ?_ (fun _ h => h)))))))))))); (try dsimp only); done
   ·refine EE ?_; refine Ys I (Yq I (Km I (Nc 20 I (fun hg20 => ?_) (fun hg20 => ?_))))
    ·refine T2 I (Yp I (Km I (T4 I (Kt I (Yp I (Nn (WX.joinP (()) (S2 I I) (by refine (Sc ?_ (S0 _)) <;> ((refine ai rfl ?_; (try dsimp only); (simp [*]; done)))) ?_ (fun _ h => h)))))))); (try dsimp only); done
    ·refine Km I (Ys I (Yq I (Km I (Nc 24 I (fun hg24 => ?_) (fun hg24 => ?_)))))
     ·refine T4 I (Kt I (Yp I (Nn (WX.joinP (()) (S2 I I) (by refine (Sc ?_ (S0 _)) <;> ((refine ai rfl ?_; (try dsimp only); (simp [*]; done)))) ?_ (fun _ h => h))))); (try dsimp only); done
     ·refine Km I (Kf 0 I u26 I I I .tc u22 ?_); refine Kc I (fun w hS => dH (a := x) (b := g.1) (by exact hg15.2) (by exact hg10.1.2) (by have := hg15.1; omega)) (Yh I (Ns 29 I (v' := .bool (decide (val g.1 ≤ val x))) (congrArg Value.bool (by exact Af.2 (dk _ _))) ?_)); refine Yq I (Nn (WX.joinP (()) (S2 I I) (by refine (Sc ?_ (S0 _)) <;> ((refine ai rfl ?_; (try dsimp only); (simp [*]; done)))) ?_ (fun _ h => h))); (try dsimp only); done
 ·rintro _ hmeet; (try dsimp only at hmeet ⊢)
  refine Ci I (fun hc30 => ?_) (fun hc30 => ?_)
  ·have hr : ¬ jS g x := fun h => hc30 ⟨⟨h.1, h.2.1⟩, h.2.2.1, h.2.2.2.1, h.2.2.2.2.1, h.2.2.2.2.2.1⟩
   refine Cs (ne ?_); exact GF
  ·have hok : (okN g.1 ∧ okN g.2) ∧ okN x ∧ g.2 ≠ [] ∧ x ≠ [] ∧ val x < val g.1 := Ao.1 hc30; obtain ⟨⟨hm, hq⟩, hx, hq0, hx0, hlt⟩ := hok; have hm0 : g.1 ≠ [] := fun h => by rw [h] at hlt; exact absurd hlt (Ea _)
   have he1 := nk hx hq hm hm0; have hr : jS g x ↔ val x ^ val g.2 % val g.1 = 1 := ⟨fun h => h.2.2.2.2.2.2, fun h => ⟨hm, hq, hx, hq0, hx0, hlt, h⟩⟩; refine FN ?_; refine EE ?_; refine ED ?_; refine Kc I (fun w hS => (by have := wG (w := w) (a := x) (x := g.2) (m := g.1) hm8; rw [he1] at this; exact this)) (BY ?_); refine Cs (Km I (Ys I (Ns 41 I (v' := .bool (decide (jS g x))) (congrArg Value.bool (by simp [hr, fc])) ?_))); refine to ?_; exact GH
def xE (x y : Zs) (q : Bs) : Zs := (cG x (bP (aw q) y).1).1
theorem uQ {x y : Zs} {q : Bs} {p : Nat} {w : World} {ok : Nat → Prop} (hF1 : (Fact.sl (some ⟨p, 0, none⟩) [.string (S q)]).holds ok w) :
  Cw 195 #[.agg #[.bool x.1, .string (S x.2), .bool y.1, .string (S y.2)], .pointer (some ⟨p, 0, none⟩)] w (.agg #[.bool y.1, .string (S y.2), .bool (xE x y q).1, .string (S (xE x y q).2)]) := by
 refine En [Fact.sl (some ⟨p, 0, none⟩) [.string (S q)]] [(0, .agg #[.bool x.1, .string (S x.2), .bool y.1, .string (S y.2)]), (1, .pointer (some ⟨p, 0, none⟩))] Tryz.func195 I Tryz.ntmps195 I (Ac I (Ac I (An _))) (Fc (ah hF1) Fn) (DO ?_)
 intro b2
 refine FY ?_
 intro b3
 refine Nt (Cq (Cf [0, 1, 2, 3, 4, 5, 6, 8, 9, 7, 10] [] [0, 1, 0, 0, 1, 0, 0, 0, 3, 1, 0] (by kernel_rfl) (by kernel_rfl) I ?_))
 refine Kj I (ldt (a := some ⟨p, 0, none⟩) (q := 0) I I u22 I I) ?_
 refine Jv I I I I I (fun ext => Oc I I (Kv fun w hS => cR (a := q))) ?_
 refine Kj I (Jb I I I kn (by kernel_rfl : _ = some 2) ?_) ?_
 ·omega
 refine Fb ?_
 refine Jv I I I I I (fun ext => Oc I I (Kv fun w hS => oR (x := aw q) (y := y))) ?_
 refine ER ?_; refine F3 ?_
 refine DV ?_
 intro b4
 refine WJ.st I I I I (gS I I I ?_ ?_ ?_) ?_
 ·kernel_rfl
 ·simp [Value.oneCell']
 ·rfl
 refine F3 ?_; refine ES ?_
 refine WJ.nil ?_
 refine Nt (Cs (Kq I (Jb I I I kn (by kernel_rfl : _ = some 2) ?_) ?_))
 ·omega
 refine FX ?_
 refine Kq I (lda I I .tc u37 I ?_) ?_
 ·kernel_rfl
 refine Kc I (fun w hS => mE (x := x) (y := (bP (aw q) y).1)) (Km I (Ye I (Ye I (AS ?_))))
 intro b6
 refine Nu I I (Sa I I I .tc) (Ka I (Nt (Cs (Kq I (Jb I I I kn (by kernel_rfl : _ = some 2) ?_) ?_))))
 ·omega
 refine FX ?_
 refine Kq I (lda I I .tc u37 I ?_) ?_
 ·kernel_rfl
 refine FK ?_
 refine DQ ?_; refine Nt (Ce ?_)
 exact Rn I (.agg I .tc kn I (by kernel_rfl) .nil) fun w' hS => ⟨by rfl, hS.below⟩
theorem qN {x y : Int} {q : Nat} (hx : x.natAbs < Big) (hy : y.natAbs < Big) (hq : q < Big) (hm : q * y.natAbs < Big) (hs : (x - q * y).natAbs < Big) : xE (ofZ x) (ofZ y) (ae q) = ofZ (x - q * y) := by
 have hm' : ((q : Int) * y).natAbs < Big := by rw [Int.natAbs_mul, Bb]; exact hm
 rw [xE, gj hq, j4 (by rw [Bb]; exact hq) hy hm', pW hx hm' hs]
set_option maxHeartbeats 6000000 in
theorem yz {a b : Bs} {w : World} {ok : Nat → Prop} (ha : okN a) (hb : okN b) (hb0 : b ≠ []) :
  Calls Tryz.prog 150 #[.string (S a), .string (S b)] w fun e w' => ∃ gx : Int × Zs, e = .returned (.tuple #[.string (S (ae (Nat.gcd (val a) (val b)))), zV (ofZ gx.1), zV gx.2, .int .i64 0]) ∧ (((val a : Int) * gx.1) % (val b) = (Nat.gcd (val a) (val b) : Int) % (val b) ∧ (Nat.gcd (val a) (val b) = 1 → 0 ≤ gx.1) ∧ gx.1.natAbs < Big) ∧ Below w.heap.size w w' ∧ ∀ x ∈ ([] : List Fact), x.holds (fun b => ok b ∨ w.heap.size ≤ b) w' := by
 have hvb : 0 < val b := Ct fun e => hb0 ((aM hb.2).1 e)
 have hbB := aK hb; have haB := aK ha
 have hB1 : 1 < Big := Ay (by decide) fg
 refine enter (S := St (fun b => ok b ∨ w.heap.size ≤ b) w [] ([])) (L := [(0, .string (S a)), (1, .string (S b))]) Tryz.func150 rfl Tryz.ntmps150 rfl (Ac rfl (Ac rfl (An _))) (St.start (fun _ h => Or.inr h) (iR Fn)) ?_
 refine Cs (Ka I (AS ?_))
 intro b5
 refine AS ?_
 intro b6
 refine DR ?_; refine Kc I (fun w hS => ay) (Ns 23 I (v' := .bool true) (by rw [Am ha]) ?_)
 refine Yt I (Km I (Gi ?_)); refine Ns 27 I (v' := .bool true) (by rw [Am hb]) ?_
 refine Yt I (Yq I (Fg (fun _ => ?_)))
 refine Fe ?_; refine Ys I (Nt (Cd I (fun hc33 => by exfalso; (try simp only [sB] at hc33); simp_all) (fun hc33 => ?_)))
 (try simp only [sB] at hc33)
 refine EN ?_; refine E9 ?_
 refine Fx ?_
 intro b8
 refine DQ ?_; refine Nt (Cs (Kc I (fun w hS => kf (n := 1) (by omega) (by omega)) (Kc I (fun w hS => kf (n := 0) (by omega) (by omega)) (FK ?_))))
 refine Kc I (fun w hS => kf (n := 0) (by omega) (by omega)) (Kc I (fun w hS => kf (n := 1) (by omega) (by omega)) (FK ?_))
 refine FY ?_
 intro b9
 refine FY ?_
 intro b10
 refine DQ ?_; refine DQ ?_; refine Nt (Cq (Cb (Lo (σ := Nat × Nat × Int × Int × Int × Int) [(0, _), (1, _), (5, _), (6, _), (8, _), (9, _), (10, _)] (fun gq => []) (fun gq => Euc (val a) (val b) gq.1 gq.2.1 gq.2.2.1 gq.2.2.2.1 gq.2.2.2.2.1 gq.2.2.2.2.2 ∧ gq.1 < Big ∧ gq.2.1 < Big ∧ gq.2.2.1.natAbs ≤ val b ∧ gq.2.2.2.1.natAbs ≤ val b ∧ gq.2.2.2.2.1.natAbs ≤ max (val a) 1 ∧ gq.2.2.2.2.2.natAbs ≤ max (val a) 1) (fun gq => gq.2.1) (fun gq => [⟨some b10, [.bool (ofZ gq.2.2.2.2.1).1, .string (S (ofZ gq.2.2.2.2.1).2), .bool (ofZ gq.2.2.2.2.2).1, .string (S (ofZ gq.2.2.2.2.2).2)], 220⟩, ⟨some b9, [.bool (ofZ gq.2.2.1).1, .string (S (ofZ gq.2.2.1).2), .bool (ofZ gq.2.2.2.1).1, .string (S (ofZ gq.2.2.2.1).2)], 220⟩, ⟨some b8, [.string (S (ae gq.1)), .string (S (ae gq.2.1))], 219⟩, ⟨some b6, [.bool false, .string (S [])], 37⟩, ⟨some b5, [.bool false, .string (S [])], 37⟩]) (fun gq => []) (val a, val b, 1, 0, 0, 1) (S7 I I I I I I I) (S0 _) (by (try dsimp only); exact ⟨mi _ _, haB, hbB, by omega, by omega, by omega, by omega⟩) (by exact fun w h => by rw [bB ha, bB hb]; exact h) ?_)))
 rintro ⟨r0, r1, x0, x1, y0, y1⟩ hinv1; (try dsimp only at hinv1 ⊢)
 obtain ⟨hE, hr0, hr1, hx0, hx1, hy0, hy1⟩ := hinv1
 refine Cq (Cs (Kq I (Jb I I I td (by kernel_rfl : _ = some 1) ?_) ?_))
 ·omega
 refine Em ?_
 refine Yr I (Nt (Ci I (fun hc48 => ?_) (fun hc48 => ?_)))
 ·have hr1p : 0 < r1 := by
   rcases B0 r1 with h | h
   ·subst h; simp [ei] at hc48
   ·exact h
  have hE' := lf hE hr1p
  obtain ⟨hm1, hm2⟩ := xH hE hr1p
  obtain ⟨hl1, hl2⟩ := uU hE' hr1p
  have hdv := xP hr0 hr1 hr1p
  have hdl := Bw r0 r1
  have hml := Ak r0 hr1p
  have hex := qN (x := x0) (y := x1) (q := r0 / r1) (by omega) (by omega) (by omega) (by omega) (by omega)
  have hey := qN (x := y0) (y := y1) (q := r0 / r1) (by omega) (by omega) (by omega) (by omega) (by omega)
  refine Ck (Xa (Cb (Cs (Kq I (Jb I I I td (by kernel_rfl : _ = some 1) ?_) ?_))))
  ·omega
  refine Em ?_
  refine Kq I (Jb I I I td (by kernel_rfl : _ = some 1) ?_) ?_
  ·omega
  refine Em ?_
  refine Kc I (fun w hS => (by have := e9 (w := w) (a := ae r0) (b := ae r1); rw [hdv] at this; exact this)) (Km I (Ye I (Ye I (Ye I (ET ?_)))))
  intro b11
  refine Ng I I (st I I I .tc (by kernel_rfl) I ?_ (by (simp only [Av, Aw]; rfl))) ?_
  ·decide
  intro _
  refine Ka I (Ka I (Nt (Cs (Kq I (cW I I I) (Ka I (Nt (Cs (Kq I (Jb I I I td (by kernel_rfl : _ = some 1) ?_) ?_))))))))
  ·omega
  refine Em ?_
  refine Km I (E9 ?_)
  refine DQ ?_; refine Nt (Cf [0, 1, 2, 3, 4, 5] [6, 7] [0, 0, 1, 0, 0, 1, 2, 2] (by kernel_rfl) (by kernel_rfl) I ?_)
  refine ER ?_
  refine Kj I (lda I I .tc kn I ?_) ?_
  ·kernel_rfl
  refine Jv I I I I I (fun ext => aN I I I (by kernel_rfl) I (Kv fun w hS => uQ (x := ofZ x0) (y := ofZ x1) (q := ae (r0 / r1)) (p := b11) (by (exact hS.os)))) ?_
  refine ER ?_
  refine Kj I (lda I I .tc kn I ?_) ?_
  ·kernel_rfl
  refine Jv I I I I I (fun ext => aN I I I (by kernel_rfl) I (Kv fun w hS => uQ (x := ofZ y0) (y := ofZ y1) (q := ae (r0 / r1)) (p := b11) (by (exact hS.os)))) ?_
  refine WJ.nil ?_
  refine Nu I I (Sa I I I .tc) (Nu I I (Sa I I I .tc) (Nn (Xd (Lx ((r1, r0 % r1, x1, x0 - (r0 / r1 : Nat) * x1, y1, y0 - (r0 / r1 : Nat) * y1)) (by (try dsimp only); exact hml) (S7 I I I I I I I) (S0 _) ?_ (by rw [← hex, ← hey]; exact au)))))
  (try dsimp only)
  exact ⟨hE', hr1, by omega, hx1, hl1, hy1, by omega⟩
 ·refine AT ?_
  obtain rfl : r1 = 0 := by
   rcases B0 r1 with h | h
   ·exact h
   ·exfalso; have : ae r1 ≠ [] := by rw [ne_eq, aT]; omega
    simp_all
  obtain rfl : r0 = Nat.gcd (val a) (val b) := by rw [← hE.gc, Ed]
  obtain ⟨gd, hg⟩ : ∃ gd, gd = Nat.gcd (val a) (val b) := ⟨_, rfl⟩
  have hg0 : 0 < gd := by rw [hg]; exact Nat.gcd_pos_of_pos_right _ hvb
  have hda : val a = val a / gd * gd := by rw [Nat.div_mul_cancel]; rw [hg]; exact Nat.gcd_dvd_left _ _
  have hdb : val b = val b / gd * gd := by rw [Nat.div_mul_cancel]; rw [hg]; exact Nat.gcd_dvd_right _ _
  have he0 := hE.e0
  rw [← hg] at he0 hr0 ⊢
  have hbl := Bw (val b) gd; have hal := Bw (val a) gd
  have hdvb : fE b (ae gd) = ((ae (val b / gd), ae (val b % gd)), 0) := by rw [dg hb (aq (by omega)) (by rw [ne_eq, aT]; omega), af]
  have hdva : fE a (ae gd) = ((ae (val a / gd), ae (val a % gd)), 0) := by rw [dg ha (aq (by omega)) (by rw [ne_eq, aT]; omega), af]
  have key : ∀ (X : Int) (q : Int), X * val a = x0 * val a + q * val b → ((val a : Int) * X) % (val b) = (gd : Int) % (val b) := fun X q h => by
   have e : (val a : Int) * X = gd + val b * (q - y0) := by
    rw [Int.mul_comm (val a : Int) X, h, ← he0, Int.mul_sub, Int.mul_comm q, Int.mul_comm x0]; omega
   rw [e, Int.add_mul_emod_self_left]
  refine Xa (Cs (Kq I (Jb I I I td (by kernel_rfl : _ = some 1) ?_) ?_))
  ·omega
  refine Em ?_
  refine Ka I (Nt (WC.joinO (σ := Int × Zs) [(5, _), (6, _), (9, _), (10, _), (15, _)] (fun gq => []) (fun gq => ((val a : Int) * gq.1) % (val b) = (gd : Int) % (val b) ∧ (gd = 1 → 0 ≤ gq.1) ∧ gq.1.natAbs < Big) (fun gq => [⟨some b10, [.bool gq.2.1, .string (S gq.2.2), .bool (ofZ y1).1, .string (S (ofZ y1).2)], 220⟩, ⟨some b9, [.bool (ofZ gq.1).1, .string (S (ofZ gq.1).2), .bool (ofZ x1).1, .string (S (ofZ x1).2)], 220⟩, ⟨some b6, [.bool false, .string (S [])], 37⟩, ⟨some b5, [.bool false, .string (S [])], 37⟩]) (fun gq => []) (S5 I I I I I) ?_ ?_))
  ·skip
   refine Cs (Kq I (Jb I I I kn (by kernel_rfl : _ = some 2) ?_) ?_)
   ·omega
   (refine Kq I (cX I I u37 I (by kernel_rfl) (by (try simp only [sN, Int.reduceToNat, Nat.reduceAdd, Nat.reduceMul, Nat.reduceSub]); rfl)) ?_); refine Kq I (Ld I I .tc u4) ?_; refine Nt (Ci I (fun hc73 => ?_) (fun hc73 => ?_))
   ·have hneg : x0 < 0 := by rw [cI] at hc73; simpa using hc73
    have aux : ∀ u : Nat, u ≤ val b → (x0 + (u : Int)).natAbs < Big := fun u hu => by omega
    have hadx : dl (ofZ x0) (ofZ ((val b / gd : Nat) : Int)) = (ofZ (x0 + (val b / gd : Nat)), 0) := by
     rw [ri (by omega) (by rw [Bb]; exact Bj hbl hbB), Ab (aux _ hbl)]
    refine FS ?_; refine Kc I (fun w hS => (by have := e9 (w := w) (a := b) (b := ae gd); rw [hdvb] at this; exact this)) (EX ?_); refine DT ?_; refine Km I (Kc I (fun w hS => (by have := e9 (w := w) (a := a) (b := ae gd); rw [hdva] at this; exact this)) (EX ?_)); refine Ka I (Nt (Cq ?_))
    refine WC.ordersP [(5, _), (6, _), (9, _), (10, _), (15, _), (19, _)] ([⟨some b10, [.bool (ofZ y0).1, .string (S (ofZ y0).2), .bool (ofZ y1).1, .string (S (ofZ y1).2)], 220⟩, ⟨some b9, [.bool (ofZ (x0 + (val b / gd : Nat))).1, .string (S (ofZ (x0 + (val b / gd : Nat))).2), .bool (ofZ x1).1, .string (S (ofZ x1).2)], 220⟩, ⟨some b8, [.string (S (ae gd)), .string (S (ae 0))], 219⟩, ⟨some b6, [.bool false, .string (S [])], 37⟩, ⟨some b5, [.bool false, .string (S [])], 37⟩]) ([]) (S6 I I I I I I) [[0, 1, 2, 3, 4, 5, 6, 7, 8, 9], [0, 1, 2, 3, 4, 5, 6, 8, 7, 9], [0, 1, 2, 3, 4, 5, 6, 8, 9, 7], [0, 1, 2, 3, 4, 5, 7, 6, 8, 9], [0, 2, 1, 3, 4, 5, 6, 7, 8, 9], [0, 2, 1, 3, 4, 5, 6, 8, 7, 9], [0, 2, 1, 3, 4, 5, 6, 8, 9, 7], [0, 2, 1, 3, 4, 5, 7, 6, 8, 9], [0, 2, 3, 1, 4, 5, 6, 7, 8, 9], [0, 2, 3, 1, 4, 5, 6, 8, 7, 9], [0, 2, 3, 1, 4, 5, 6, 8, 9, 7], [0, 2, 3, 1, 4, 5, 7, 6, 8, 9], [2, 0, 1, 3, 4, 5, 6, 7, 8, 9], [2, 0, 1, 3, 4, 5, 6, 8, 7, 9], [2, 0, 1, 3, 4, 5, 6, 8, 9, 7], [2, 0, 1, 3, 4, 5, 7, 6, 8, 9], [2, 0, 3, 1, 4, 5, 6, 7, 8, 9], [2, 0, 3, 1, 4, 5, 6, 8, 7, 9], [2, 0, 3, 1, 4, 5, 6, 8, 9, 7], [2, 0, 3, 1, 4, 5, 7, 6, 8, 9], [2, 3, 0, 1, 4, 5, 6, 7, 8, 9], [2, 3, 0, 1, 4, 5, 6, 8, 7, 9], [2, 3, 0, 1, 4, 5, 6, 8, 9, 7], [2, 3, 0, 1, 4, 5, 7, 6, 8, 9]] (by kernel_rfl) (by kernel_rfl) (by simp only [bV, List.map, List.getElem?_cons_zero, Ef]; rfl) ?_ ?_
    ·repeat' (first | exact AllL.nil | refine AllL.cons ?_ ?_)
     all_goals (repeat (first | (refine Km rfl ?_) | (refine Kq rfl (Jb rfl rfl rfl kn (by kernel_rfl : _ = some 2) ?_) ?_; focus omega) | (refine Kq rfl (ldp rfl rfl .tc u37 rfl (by kernel_rfl : _ = some 2) (by rfl) (by rfl)) ?_) | (refine Kh rfl (Oc rfl rfl (Kv fun w hS => (by have := cR (w := w) (a := ae (val b / gd)); rw [gj (Bj hbl hbB)] at this; exact this))) ?_; intro _) | (refine Kh rfl (Oc rfl rfl (Kv fun w hS => (by have := s7 (w := w) (x := ofZ x0) (y := ofZ ((val b / gd : Nat) : Int)); rw [hadx] at this; exact this))) ?_; intro _) | (refine Ye rfl ?_) | (refine Ng rfl rfl (stp rfl rfl rfl .tc (by kernel_rfl) (by simp [Value.oneCell']) (by (simp; done)) rfl) ?_; intro _)))
     all_goals (refine Nn ?_; exact WX.midP () (S6 rfl rfl rfl rfl rfl rfl) (fun _ h => h))
    refine Xa (WC.ordersP [(5, _), (6, _), (9, _), (10, _), (15, _)] ([⟨some b10, [.bool (cG (ofZ y0) (ofZ ((val a / gd : Nat) : Int))).1.1, .string (S (cG (ofZ y0) (ofZ ((val a / gd : Nat) : Int))).1.2), .bool (ofZ y1).1, .string (S (ofZ y1).2)], 220⟩, ⟨some b9, [.bool (ofZ (x0 + (val b / gd : Nat))).1, .string (S (ofZ (x0 + (val b / gd : Nat))).2), .bool (ofZ x1).1, .string (S (ofZ x1).2)], 220⟩, ⟨some b8, [.string (S (ae gd)), .string (S (ae 0))], 219⟩, ⟨some b6, [.bool false, .string (S [])], 37⟩, ⟨some b5, [.bool false, .string (S [])], 37⟩]) ([]) (S5 I I I I I) [[0, 1, 2, 3, 4, 5, 6, 7, 8, 9], [0, 1, 2, 3, 4, 5, 6, 8, 7, 9], [0, 1, 2, 3, 4, 5, 6, 8, 9, 7], [0, 1, 2, 3, 4, 5, 7, 6, 8, 9], [0, 2, 1, 3, 4, 5, 6, 7, 8, 9], [0, 2, 1, 3, 4, 5, 6, 8, 7, 9], [0, 2, 1, 3, 4, 5, 6, 8, 9, 7], [0, 2, 1, 3, 4, 5, 7, 6, 8, 9], [0, 2, 3, 1, 4, 5, 6, 7, 8, 9], [0, 2, 3, 1, 4, 5, 6, 8, 7, 9], [0, 2, 3, 1, 4, 5, 6, 8, 9, 7], [0, 2, 3, 1, 4, 5, 7, 6, 8, 9], [2, 0, 1, 3, 4, 5, 6, 7, 8, 9], [2, 0, 1, 3, 4, 5, 6, 8, 7, 9], [2, 0, 1, 3, 4, 5, 6, 8, 9, 7], [2, 0, 1, 3, 4, 5, 7, 6, 8, 9], [2, 0, 3, 1, 4, 5, 6, 7, 8, 9], [2, 0, 3, 1, 4, 5, 6, 8, 7, 9], [2, 0, 3, 1, 4, 5, 6, 8, 9, 7], [2, 0, 3, 1, 4, 5, 7, 6, 8, 9], [2, 3, 0, 1, 4, 5, 6, 7, 8, 9], [2, 3, 0, 1, 4, 5, 6, 8, 7, 9], [2, 3, 0, 1, 4, 5, 6, 8, 9, 7], [2, 3, 0, 1, 4, 5, 7, 6, 8, 9]] (by kernel_rfl) (by kernel_rfl) (by simp only [bV, List.map, List.getElem?_cons_zero, Ef]; rfl) ?_ ?_)
    ·repeat' (first | exact AllL.nil | refine AllL.cons ?_ ?_)
     all_goals (repeat (first | (refine Km rfl ?_) | (refine Kq rfl (Jb rfl rfl rfl kn (by kernel_rfl : _ = some 2) ?_) ?_; focus omega) | (refine Kq rfl (ldp rfl rfl .tc u37 rfl (by kernel_rfl : _ = some 2) (by rfl) (by rfl)) ?_) | (refine Kh rfl (Oc rfl rfl (Kv fun w hS => (by have := cR (w := w) (a := ae (val a / gd)); rw [gj (Bj hal haB)] at this; exact this))) ?_; intro _) | (refine Kh rfl (Oc rfl rfl (Kv fun w hS => mE (x := ofZ y0) (y := ofZ ((val a / gd : Nat) : Int)))) ?_; intro _) | (refine Ye rfl ?_) | (refine Ng rfl rfl (stp rfl rfl rfl .tc (by kernel_rfl) (by simp [Value.oneCell']) (by (simp; done)) rfl) ?_; intro _)))
     all_goals (refine Nn ?_; exact WX.midP () (S5 rfl rfl rfl rfl rfl) (fun _ h => h))
    refine WX.joinO (((x0 + (val b / gd : Nat)), (cG (ofZ y0) (ofZ ((val a / gd : Nat) : Int))).1)) (S5 I I I I I) (S0 _) ?_ (by (exact au)); (try dsimp only)
    exact ⟨key _ (val a / gd : Nat) (by
     rw [Int.add_mul]; congr 1
     have e : val b / gd * val a = val a / gd * val b := by
      conv => lhs; rw [hda]
      conv => rhs; rw [hdb]
      ac_rfl
     exact_mod_cast e), fun h => by rw [h, Dj]; omega, aux _ hbl⟩
   ·have hnn : 0 ≤ x0 := by rw [cI] at hc73; simpa using hc73
    refine Ck (WX.joinO ((x0, ofZ y0)) (S5 I I I I I) (S0 _) ?_ (by (exact au))); (try dsimp only); exact ⟨key _ 0 (by omega), fun _ => hnn, by omega⟩
  ·rintro ⟨X, Y⟩ hmeet; (try dsimp only at hmeet ⊢); refine Cq (WC.free (K := [⟨some b10, [.bool Y.1, .string (S Y.2), .bool (ofZ y1).1, .string (S (ofZ y1).2)], 220⟩, ⟨some b9, [.bool (ofZ X).1, .string (S (ofZ X).2), .bool (ofZ x1).1, .string (S (ofZ x1).2)], 220⟩]) (fs0 := []) [0, 1, 2, 5, 6, 3, 4] [7, 8] [0, 0, 0, 0, 0, 0, 1, 2, 2] (by kernel_rfl) (by kernel_rfl) I ?_); refine ER ?_; refine Kj I (Jb I I I kn (by kernel_rfl : _ = some 2) ?_) ?_
   ·omega
   refine Fb ?_; refine ES ?_; refine WJ.st I I I I (gS I I I ?_ ?_ ?_) ?_
   ·kernel_rfl
   ·simp [Value.oneCell']
   ·rfl
   refine Kj I (Jb I I I kn (by kernel_rfl : _ = some 2) ?_) ?_
   ·omega
   refine Fb ?_; refine WJ.nil ?_; refine DQ ?_; refine to ?_; exact Rn I (.tmp I (.agg I .tc u37 I (by kernel_rfl) (.agg I .tc u37 I (by kernel_rfl) (.tmp I .nil)))) fun w' hS => ⟨(X, Y), rfl, hmeet, hS.below, fun _ h => by cases h⟩
def gh (a m : Bs) : Bs × Int := if co [a] [m] = 0 then (if Nat.gcd (val a) (val m) = 1 then (ae (dB (val a) (val m)), 0) else ([], 9)) else ([], co [a] [m])
theorem BZ {a m : Bs} (h : co [a] [m] = 0) : okN a ∧ okN m ∧ m ≠ [] := by
 obtain ⟨h1, h2⟩ := vj h
 exact ⟨h1 a (by simp), h1 m (by simp), fun e => h2 (by simp [e])⟩
theorem eF (a m : Nat) : Nat.gcd (a % m) m = Nat.gcd a m := by rw [Nat.gcd_comm, gi]
theorem jE {a m : Nat} {X : Int} (hm : 0 < m) (h : ((a : Int) * X) % m = (1 : Int) % m) (h0 : 0 ≤ X) : dB a m = X.natAbs % m := by
 obtain ⟨x, rfl⟩ : ∃ x : Nat, X = x := ⟨X.toNat, by omega⟩
 rw [Bb]
 apply qI (Ak _ hm)
 rw [mmr]
 exact_mod_cast h
theorem zq {a m : Bs} {w : World} :
  Cw 89 #[.string (S a), .string (S m)] w (NE (gh a m)) := by
 refine En [] [(0, .string (S a)), (1, .string (S m))] Tryz.func89 I Tryz.ntmps89 I (Ac I (Ac I (An _))) Fn (Cs (Ka I (Ka I (Nt (Cq (Cs (Km I (Kh I (aO I I u31 (by kernel_rfl : _ = some (some (.string (S [])), 1, 16)) I (by simp only [List.map]; rfl) I I ?_ (by decide)) ?_))))))))
 ·simp [Value.cells]
 intro b12
 refine Km I (Kh I (aO I I u31 (by kernel_rfl : _ = some (some (.string (S [])), 1, 16)) I (by simp only [List.map]; rfl) I I ?_ (by decide)) ?_)
 ·simp [Value.cells]
 intro b14
 refine Kc I (fun w hS => nF (l := [a]) (ms := [m]) (by (exact hS.os)) (by (exact hS.os)) (by (simp <;> omega)) (by (simp <;> omega)) (by (simp <;> omega)) (by (simp <;> omega))) (DT ?_); refine EL (fun hc17 => ?_) (fun hc17 => ?_)
 ·have hr : gh a m = ([], co [a] [m]) := by rw [gh, Aa (by simpa using hc17)]
  refine Cs (Km I (Ka I (ne ?_)))
  exact GE
 ·have h0 : co [a] [m] = 0 := by simpa using hc17
  obtain ⟨ha, hm, hm0⟩ := BZ h0
  have hp := lC hm hm0
  have hmB := aK hm
  have hak : okN (ae (val a % val m)) := aq (by have := Ak (val a) hp; omega)
  have hvk : val (ae (val a % val m)) = val a % val m := af _
  refine EN ?_; refine Kc I (fun w hS => gC (a := a) (m := m) (by exact ha) (by exact hm) (by exact hm0)) (Km I (Kh I (Oc I I (iN fun w hS => yz (a := ae (val a % val m)) (b := m) (by exact hak) (by exact hm) (by exact hm0))) ?_))
  rintro ⟨X24, Y24⟩
  refine WL.pu ?_
  intro hg24; (try dsimp only [List.cons_append, List.nil_append] at hg24 ⊢)
  refine Km I (Ye I (Ye I (Ye I (Ye I (AS ?_)))))
  intro b8
  refine AS ?_
  intro b9
  refine Ka I (DQ ?_); refine DQ ?_; refine DR ?_; refine Yj I (Nt (Cd I (fun hc30 => by exfalso; (try simp only [sB] at hc30); exact hc30 trivial) (fun hc30 => ?_)))
  (try simp only [sB] at hc30)
  refine Fe ?_; refine Yr I (Nt (Ci I (fun hc33 => ?_) (fun hc33 => ?_)))
  ·have hr : gh a m = ([], 9) := by
    have h1 : ¬ Nat.gcd (val a) (val m) = 1 := fun h => by
     rw [hvk, eF, h, bT] at hc33; exact hc33 rfl
    rw [gh, Ab h0, Aa h1]
   refine Cs (Ka I (ne ?_)); exact GE
  ·have hg1 : Nat.gcd (val a) (val m) = 1 := by
    rw [hvk, eF] at hc33; exact fc.1 (by simpa using hc33)
   obtain ⟨hq1, hq2, hq3⟩ := hg24; rw [hvk, eF, hg1] at hq1; rw [hvk, eF] at hq2; have hiv := jE hp hq1 (hq2 hg1); rw [ov] at hiv; have hr : gh a m = (ae (dB (val a) (val m)), 0) := by rw [gh, Ab h0, Ab hg1]
   have hXa : (ofZ X24).2 = ae X24.natAbs := by rw [cI]
   refine Ck (Xa (Cs (Ej ?_))); refine Km I (Kc I (fun w hS => gC (a := (ofZ X24).2) (m := m) (by rw [hXa]; exact aq hq3) (by exact hm) (by exact hm0)) (Ka I (to ?_))); exact R2 I I I (by rw [hr, hiv, hXa, af]; rfl)
theorem yQ {a m : Bs} {w : World} :
  Cw 181 #[.string (S a), .string (S m)] w (NE (gh a m)) := by
 refine En [] [(0, .string (S a)), (1, .string (S m))] Tryz.func181 I Tryz.ntmps181 I (Ac I (Ac I (An _))) Fn (Cs (Ka I (Ka I (Nt (Cq (Cs (Km I (Km I (Kh I (aO I I u31 (by kernel_rfl : _ = some (some (.string (S [])), 1, 16)) I (by simp only [List.map]; rfl) I I ?_ (by decide)) ?_)))))))))
 ·simp [Value.cells]
 intro b15
 refine Kc I (fun w hS => kP (l := [a]) (m := m) (by (exact hS.os)) (by (simp <;> omega))) (DT ?_); refine EL (fun hc18 => ?_) (fun hc18 => ?_)
 ·have hr : gh a m = ([], co [a] [m]) := by rw [gh, Aa (by simpa using hc18)]
  refine Cs (Km I (Ka I (ne ?_)))
  exact GE
 ·have h0 : co [a] [m] = 0 := by simpa using hc18
  obtain ⟨ha, hm, hm0⟩ := BZ h0
  have hp := lC hm hm0
  have hmB := aK hm
  have hB1 : 1 < Big := Ay (by decide) fg
  have hak : okN (ae (val a % val m)) := aq (by have := Ak (val a) hp; omega)
  have hvk : val (ae (val a % val m)) = val a % val m := af _
  obtain ⟨X, hX⟩ : ∃ X : Int, X = (bF (val a % val m) (val m)).1 := ⟨_, rfl⟩
  have hbz := zY (val m) (val a % val m)
  rw [eF, ← hX] at hbz
  refine EN ?_; refine Kc I (fun w hS => eL (a := a) (m := m) (by exact ha) (by exact hm) (by exact hm0)) (Km I (Kh I (Oc I I (iN fun w hS => yS (a := ae (val a % val m)) (b := m) (by exact hak) (by exact hm) (by exact hm0))) ?_))
  rintro Y25
  refine WL.pu ?_
  intro hg25; (try dsimp only [List.cons_append, List.nil_append] at hg25 ⊢)
  refine Km I (Ye I (Ye I (Ye I (Ye I (AS ?_)))))
  intro b8
  refine AS ?_
  intro b9
  refine Ka I (DQ ?_); refine DQ ?_; refine DR ?_; refine Kc I (fun w hS => dJ (n := 1) (by omega)) (Yr I (Nt (Ci I (fun hc32 => ?_) (fun hc32 => ?_))))
  ·have hr : gh a m = ([], 9) := by
    have h1 : ¬ Nat.gcd (val a) (val m) = 1 := fun h => by
     rw [hvk, eF, h] at hc32; exact hc32 rfl
    rw [gh, Ab h0, Aa h1]
   refine Cs (Ka I (ne ?_)); exact GE
  ·have hg1 : Nat.gcd (val a) (val m) = 1 := by
    rw [hvk, eF] at hc32; exact fe.1 (by simpa using hc32)
   have hiv : dB (val a) (val m) = (X % (val m : Int)).toNat := by
    have h1 := Int.emod_nonneg X (b := (val m : Int)) (by omega); have h2 := Int.emod_lt_of_pos X (b := (val m : Int)) (by omega)
    have h3 := jE (a := val a % val m) (X := X % (val m : Int)) hp (by
     rw [hg1] at hbz; rw [Int.mul_emod, Int.emod_emod_of_dvd _ (Int.dvd_refl _), ← Int.mul_emod]; have e : ((val a % val m : Nat) : Int) * X = 1 + val m * (-(bF (val a % val m) (val m)).2) := by rw [Eg]; omega
     rw [e, Int.add_mul_emod_self_left]) h1
    rw [ov] at h3; rw [h3, Ah (by omega)]; omega
   have hr : gh a m = (ae (X % (val m : Int)).toNat, 0) := by rw [gh, Ab h0, Ab hg1, hiv]
   have hXl : (X % (val m : Int)).toNat < val m := by have h2 := Int.emod_lt_of_pos X (b := (val m : Int)) (by omega); omega
   have hmz : sc (ofZ (((X % (val m : Int)).toNat : Nat) : Int)) m = (ae (X % (val m : Int)).toNat, 0) := by
    have hd := qR (n := (((X % (val m : Int)).toNat : Nat) : Int)) (m := val m) (by omega) hmB hp; rw [sc, Ab ⟨bW.2 (by omega), hm⟩, cD hm]; rw [bB hm] at hd; rw [hd.1, hd.2, Int.emod_eq_of_lt (by omega) (by omega), At]
   refine Ck (Xa (Cs (Kq I (lda I I .tc u37 I ?_) ?_)))
   ·kernel_rfl
   refine Km I (Kc I (fun w hS => (by have := wx (w := w) (x := ofZ (((X % (val m : Int)).toNat : Nat) : Int)) (m := m); rw [hmz] at this; rw [hvk, eF, hg1, Dj, ← hX]; exact this)) (BY ?_)); refine Cs (Km I (Ka I (to ?_))); exact GE
def iB (a : Bs) (x : Zs) (m : Bs) : Bs × Int :=
 if okN a ∧ okZ x ∧ okN m then (if m = [] then ([], 11) else if x.1 = true then (if Nat.gcd (val a) (val m) = 1 then (ae (dB (val a) (val m) ^ val x.2 % val m), 0) else ([], 9)) else (ae (val a ^ val x.2 % val m), 0)) else ([], 3)
theorem qJ {a m : Bs} (ha : okN a) (hm : okN m) (hm0 : m ≠ []) : gh a m = if Nat.gcd (val a) (val m) = 1 then (ae (dB (val a) (val m)), 0) else ([], 9) := by
 rw [gh, Ab (lk (by intro x hx; simp at hx; rcases hx with rfl | rfl <;> assumption) (by simpa using fun h => hm0 h))]
theorem tI {a : Bs} {x : Zs} {m : Bs} {w : World} (hm8 : m.length ≤ 8) :
  Cw 128 #[.string (S a), zV x, .string (S m)] w (NE (iB a x m)) := by
 refine En [] [(0, .string (S a)), (1, zV x), (2, .string (S m))] Tryz.func128 I Tryz.ntmps128 I (Ac I (Ac I (Ac I (An _)))) Fn (DO ?_)
 intro b4
 refine Ka I (Ka I (Nt (Cq (WC.joinP (σ := Unit) [(0, _), (2, _), (4, _)] (fun gq => [(22, .bool (decide (¬ (okN a ∧ okZ x ∧ okN m))))]) (fun gq => True) (S3 I I I) ?_ ?_))))
 ·skip
  refine Cg (Km I (Kc I (fun w hS => ar (a := a)) (Yt I (Km I (Nc 13 I (fun hg13 => ?_) (fun hg13 => ?_))))))
  ·refine T2 I (Kt I (Yp I (Km I (T2 I (Kt I (Yp I (Nn (WX.joinP (()) (S3 I I I) (by refine (Sc ?_ (S0 _)) <;> ((refine ai rfl ?_; (try dsimp only); (simp [*]; done)))) ?_ (fun _ h => h))))))))); (try dsimp only); done
  ·refine Kq I (lda I I .tc u37 I ?_) ?_
   ·kernel_rfl
   refine Kc I (fun w hS => bu (x := x)) (Yt I (Yq I (Km I (Nc 18 I (fun hg18 => ?_) (fun hg18 => ?_)))))
   ·refine T2 I (Kt I (Yp I (Nn (WX.joinP (()) (S3 I I I) (by refine (Sc ?_ (S0 _)) <;> ((refine ai rfl ?_; (try dsimp only); (simp [*]; done)))) ?_ (fun _ h => h))))); (try dsimp only); done
   ·refine Km I (Kc I (fun w hS => ar (a := m)) (Yt I (Yq I (Nn (WX.joinP (()) (S3 I I I) (by refine (Sc ?_ (S0 _)) <;> ((refine ai rfl ?_; (try dsimp only); (simp [*]; done)))) ?_ (fun _ h => h)))))); (try dsimp only); done
 ·rintro _ hmeet; (try dsimp only at hmeet ⊢)
  refine Ci I (fun hc22 => ?_) (fun hc22 => ?_)
  ·have hr : iB a x m = ([], 3) := by rw [iB, Aa hc22]
   refine Cs (Ka I (ne ?_)); exact GE
  ·have hok : okN a ∧ okZ x ∧ okN m := by simpa using hc22
   refine Fe ?_; refine Fu (fun hc24 => ?_) (fun hc24 => ?_)
   ·have hr : iB a x m = ([], 11) := by rw [iB, Ab hok, Ab (by simpa using hc24)]
    refine Cs (Ka I (ne ?_)); exact GE
   ·have hm0 : m ≠ [] := by simpa using hc24
    have hp := lC hok.2.2 hm0; have hin := qJ hok.1 hok.2.2 hm0; have hmB := aK hok.2.2; have hik : okN (ae (dB (val a) (val m))) := aq (by have := qH (val a) hp; omega); refine Gg ?_; refine EJ ?_; refine Nt (Ci I (fun hc26 => ?_) (fun hc26 => ?_))
    ·have hneg : x.1 = true := by simpa using hc26
     refine FS ?_; refine Kc I (fun w hS => yQ (a := a) (m := m)) (BY ?_); refine Cq (Cs (Km I (EL (fun hc34 => ?_) (fun hc34 => ?_))))
     ·have hg : ¬ Nat.gcd (val a) (val m) = 1 := fun h => hc34 (by rw [hin, Ab h])
      have hr : iB a x m = ([], 9) := by rw [iB, Ab hok, Aa hm0, Ab hneg, Aa hg]
      refine Cs (Km I (Ka I (ne ?_))); refine Xb ?_; exact R2 I I I (by rw [hr, hin, Aa hg]; rfl)
     ·have hg : Nat.gcd (val a) (val m) = 1 := A1 fun h => by rw [hin, Aa h] at hc34; simp at hc34
      have hr : iB a x m = (ae (dB (val a) (val m) ^ val x.2 % val m), 0) := by rw [iB, Ab hok, Aa hm0, Ab hneg, Ab hg]
      have hi1 : (gh a m).1 = ae (dB (val a) (val m)) := by rw [hin, Ab hg]
      rw [hi1]; refine Ck (Xa (Cg (Km I (DT ?_)))); refine Ej ?_; refine Km I (Kc I (fun w hS => kB (by (exact hik)) (by exact hok.2.1.1) (by exact hok.2.2) (by exact hm0) (by exact hm8)) (Ka I (to ?_))); exact R2 I I I (by rw [hr]; (try rw [af]); rfl)
    ·have hnn : ¬ x.1 = true := by simpa using hc26
     have hr : iB a x m = (ae (val a ^ val x.2 % val m), 0) := by rw [iB, Ab hok, Aa hm0, Aa hnn]
     refine FN ?_; refine Ej ?_; refine Km I (Kc I (fun w hS => kB (by (exact hok.1)) (by exact hok.2.1.1) (by exact hok.2.2) (by exact hm0) (by exact hm8)) (Ka I (to ?_))); exact R2 I I I (by rw [hr]; (try rw [af]); rfl)
abbrev zc (z : Zs) : List Value := [.bool z.1, .string (S z.2)]
abbrev aZ (l : List Zs) : List Value := l.flatMap zc
def dO (g : Gp) (l : List Bs) (es : List Zs) (same : Bool) : Int :=
 if ¬ (∀ x ∈ l, okN x) then 3 else if ¬ (∀ x ∈ es, okZ x) then 3 else if aU g ≠ 0 then aU g else if same = false then 6 else if ¬ (∀ x ∈ l, elG g x) then 13 else 0
theorem sI {g : Gp} {l : List Bs} {es : List Zs} {same : Bool} {a b : Option Addr} {c d : Nat} {w : World} {ok : Nat → Prop} (hF1 : (Fact.sl a (an l)).holds ok w) (hF2 : (Fact.sl b (aZ es)).holds ok w) (hl : l.length ≤ 1000000) (hes : es.length ≤ 1000000) (hm8 : g.1.length ≤ 8) :
  Cw 88 #[gV g, .slice a l.length c, .slice b es.length d, .bool same] w (.int .i64 (dO g l es same)) := by
 refine En [Fact.sl a (an l), Fact.sl b (aZ es)] [(0, gV g), (1, .slice a l.length c), (2, .slice b es.length d), (3, .bool same)] Tryz.func88 I Tryz.ntmps88 I (Ac I (Ac I (Ac I (Ac I (An _))))) (Fc (ah hF1) (Fc (ah hF2) Fn)) (DO ?_)
 intro b4
 refine DR ?_; refine FW ?_; refine Lp (σ := Nat) [(1, _), (2, _), (3, _), (4, _), (16, _), (17, _)] (fun gq => [(18, .int .i64 (gq : Int))]) (fun gq => gq ≤ l.length ∧ ∀ x ∈ l.take gq, okN x) (fun gq => l.length - gq) (0) (S6 I I I I I I) (S1 I) (by (try dsimp only); exact ⟨Ai _, by simp⟩) ?_
 rintro i hinv1; (try dsimp only at hinv1 ⊢)
 obtain ⟨hi, hok⟩ := hinv1
 refine DP (fun hc19 => ?_) (fun hc19 => ?_)
 ·have hil : i < l.length := by omega
  refine E3 ?_; refine DZ ?_
  refine EI ?_
  refine DT ?_; refine Kc I (fun w hS => ay (a := l.getD i default)) (Eq (fun hc24 => ?_) (fun hc24 => ?_))
  ·refine Cs (to ?_); refine DS ?_; exact R1 I I (by rw [dO, Ab (fun h => absurd (h _ (ap _ _ hil)) (by simpa using hc24))]; rfl)
  ·refine Ck (Xd (Xa (Cg (Kq I (Rz I I I (by omega)) (Km I (Nn (Ly (i + 1) (by (try dsimp only); omega) (S6 I I I I I I) (by refine (Sc ?_ (S0 _)) <;> (rfl)) ?_ (fun _ h => h)))))))); (try dsimp only); exact ⟨hil, az hil hok (by simpa using hc24)⟩
 ·refine AT ?_
  obtain rfl : i = l.length := by omega
  rw [Ap] at hok
  refine Xa (Cq (Cs (Km I (Yo I u39 (Km I (Nt (Cb (Lo (σ := Nat) [(1, _), (3, _), (4, _), (26, _), (27, _)] (fun gq => [(28, .int .i64 (gq : Int))]) (fun gq => gq ≤ es.length ∧ ∀ x ∈ es.take gq, okZ x) (fun gq => es.length - gq) (fun gq => [⟨some b4, [.string (S g.1), .string (S g.2)], 26⟩]) (fun gq => [Fact.sl a (an l), Fact.sl b (aZ es)]) (0) (S5 I I I I I) (S1 I) (by (try dsimp only); exact ⟨Ai _, by simp⟩) (fun _ h => h) ?_))))))))
  rintro k hinv2; (try dsimp only at hinv2 ⊢)
  obtain ⟨hk, hokz⟩ := hinv2
  refine DP (fun hc29 => ?_) (fun hc29 => ?_)
  ·have hkl : k < es.length := by omega
   refine E3 ?_; refine DX ?_; refine EZ ?_; refine AS ?_; intro b12; refine Nu I I (Sa I I I .tc) (Nt (Cs (Kq I (lda I I .tc u37 I ?_) ?_)))
   ·kernel_rfl
   refine Kc I (fun w hS => dY (x := es.getD k default)) (Eq (fun hc34 => ?_) (fun hc34 => ?_))
   ·refine Cs (to ?_); refine DS ?_; exact R1 I I (by rw [dO, Aa (fun h => h hok), Ab (fun h => absurd (h _ (ap _ _ hkl)) (by simpa using hc34))]; rfl)
   ·refine Ck (Xd (Xa (Cg (Kq I (Rz I I I (by omega)) (Km I (Nn (Lx (k + 1) (by (try dsimp only); omega) (S5 I I I I I) (by refine (Sc ?_ (S0 _)) <;> (rfl)) ?_ (by (exact au))))))))); (try dsimp only); exact ⟨hkl, az hkl hokz (by simpa using hc34)⟩
  ·refine AT ?_; obtain rfl : k = es.length := by omega
   rw [Ap] at hokz; refine Xa (Cq (Cs (Kq I (lda I I .tc u26 I ?_) ?_)))
   ·kernel_rfl
   refine Kc I (fun w hS => iC (g := g)) (DT ?_); refine EL (fun hc39 => ?_) (fun hc39 => ?_)
   ·refine Cs (Km I (ne ?_)); exact R1 I I (by rw [dO, Aa (fun h => h hok), Aa (fun h => h hokz), Ab (by simpa using hc39)]; rfl)
   ·have hg : aU g = 0 := by simpa using hc39
    refine Fe ?_; refine Eq (fun hc42 => ?_) (fun hc42 => ?_)
    ·refine Cs (ne ?_); exact R1 I I (by rw [dO, Aa (fun h => h hok), Aa (fun h => h hokz), Aa (fun h => h hg), Ab (by simpa using hc42)]; rfl)
    ·refine Fe ?_; refine FW ?_; refine Lp (σ := Nat) [(4, _), (43, _), (44, _)] (fun gq => [(45, .int .i64 (gq : Int))]) (fun gq => gq ≤ l.length ∧ ∀ x ∈ l.take gq, elG g x) (fun gq => l.length - gq) (0) (S3 I I I) (S1 I) (by (try dsimp only); exact ⟨Ai _, by simp⟩) ?_; rintro i3 hinv3; (try dsimp only at hinv3 ⊢); obtain ⟨hi3, hel⟩ := hinv3; refine DP (fun hc46 => ?_) (fun hc46 => ?_)
     ·have hil3 : i3 < l.length := by omega
      refine E3 ?_; refine DZ ?_; refine EI ?_; refine Ka I (Nt (Cs (Kq I (lda I I .tc u26 I ?_) ?_)))
      ·kernel_rfl
      refine Km I (Kc I (fun w hS => n7 (g := g) (x := l.getD i3 default) (by exact hg) (by exact hm8)) (Eq (fun hc52 => ?_) (fun hc52 => ?_)))
      ·refine Cs (to ?_); refine DS ?_; exact R1 I I (by rw [dO, Aa (fun h => h hok), Aa (fun h => h hokz), Aa (fun h => h hg), Aa (by simpa using hc42), Ab (fun h => absurd (h _ (ap _ _ hil3)) (by simpa using hc52))]; rfl)
      ·refine Ck (Xd (Xa (Cg (Kq I (Rz I I I (by omega)) (Km I (Nn (Ly (i3 + 1) (by (try dsimp only); omega) (S3 I I I) (by refine (Sc ?_ (S0 _)) <;> (rfl)) ?_ (fun _ h => h)))))))); (try dsimp only); exact ⟨hil3, az hil3 hel (by simpa using hc52)⟩
     ·refine AT ?_; obtain rfl : i3 = l.length := by omega
      rw [Ap] at hel; refine Xa (Cs (to ?_)); exact R1 I I (by rw [dO, Aa (fun h => h hok), Aa (fun h => h hokz), Aa (fun h => h hg), Aa (by simpa using hc42), Aa (fun h => h hel)]; rfl)
end Go.Proofs.YtkdlonihbjhhoaaGreatDoor
