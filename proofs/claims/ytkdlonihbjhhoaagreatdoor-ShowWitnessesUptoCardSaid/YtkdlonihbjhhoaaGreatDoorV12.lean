/-
  Parts of the walk: Mo2 Mo3 Grp1 Int4 Mo4 Pw1.
-/
import Derived.Test.YtkdlonihbjhhoaaGreatDoorV11
namespace Go.Proofs.YtkdlonihbjhhoaaGreatDoor
open Go.RowKit
set_option linter.unusedSimpArgs false
set_option linter.unusedVariables false
set_option maxHeartbeats 600000
set_option maxRecDepth 20000
def itD {σ : Type} (x : Bs) (after : σ → Bool → σ) : Nat → σ → σ
 | 0, s => s
 | n + 1, s => itD x after n (after s (kD x n))
theorem tR {x : Bs} {own0 : List Ent} {ok : Nat → Prop} {w0 : World} {fs : List Fact} {w : World} (hS0 : St ok w0 (own0) (fs) w) :
  Calls Tryz.prog 229 #[.string (S x)] w fun e w' => ∃ g : Nat, e = .returned (.func (.func 253) #[] #[.pointer (some ⟨g, 0, none⟩)]) ∧ St ok w0 (⟨some g, [.string (S x)], 22⟩ :: own0) fs w' := by
 refine enter (S := St ok w0 (own0) (fs)) (L := [(0, .string (S x))]) Tryz.func229 rfl Tryz.ntmps229 rfl (Ac rfl (An _)) hS0 ?_
 refine Cs ?_
 refine Kh rfl (Oy rfl rfl) ?_
 intro b1
 refine Ka rfl (Nt (Cs (Kq rfl (cE rfl rfl rfl) (Ka rfl (Nt (Ce ?_))))))
 exact Rn rfl (.tmp rfl .nil) fun w' hS => ⟨b1, rfl, hS⟩
theorem yU {σ γ : Type} {CO : σ → γ → List Ent} {pg : σ → γ → Prop} {inv : σ → Bool → Prop} {after : σ → Bool → σ} {stop : σ → Bool → Option Code} {l : Nat} {r : Loop} {ok : Nat → Prop} {w0 : World} {fs : List Fact} {w : World} {x : Bs} {b1 : Nat} {s0 : σ} [∀ s g, HasE (CO s g) b1 [.string (S x)] 22] {g0 : γ} (hY : YOk Tryz.prog l r ok w0 fs CO pg inv after stop (fun y : Bool => #[Value.bool y])) (hS0 : St ok w0 (CO s0 g0) (Fact.lp l (rcd r none) :: fs) w) (hg0 : pg s0 g0) (hx : okN x) (hinv : ∀ s y, inv s y) (hst : ∀ s y, stop s y = none) :
  Calls Tryz.prog 253 #[.func (.yield l) #[] #[], .pointer (some ⟨b1, 0, none⟩)] w fun e w' => (∃ v, e = .returned v) ∧ ∃ g', ((none : Option Code) = none → pg (itD x after (aC x) s0) g') ∧ St ok w0 (CO (itD x after (aC x) s0) g') (Fact.lp l (rcd r ((none : Option Code))) :: fs) w' := by
 have hbl := fP hx.1
 refine enter (S := St ok w0 (CO s0 g0) (Fact.lp l (rcd r none) :: fs)) (L := [(0, .func (.yield l) #[] #[]), (1, .pointer (some ⟨b1, 0, none⟩))]) Tryz.func253 rfl Tryz.ntmps253 rfl (Ac rfl (Ac rfl (An _))) hS0 ?_
 refine Cs (Kq rfl (Ld rfl rfl .tc u22) ?_)
 refine Ku rfl (Oc rfl rfl (Kv fun w hS => mN (a := x))) ?_
 refine Ns 5 rfl (v' := .int .i64 ((aC x : Nat) : Int)) (congrArg (Value.int .i64) (by rw [if_pos hx])) ?_
 refine Kq rfl (aD rfl rfl rfl (by omega)) (Ka rfl (Nt (Cb ?_)))
 refine Lo (σ := Nat × Int × σ × γ) [(0, _), (1, _)] (fun gq => [(3, .int .i64 gq.2.1)]) (fun gq => gq.1 ≤ aC x ∧ gq.2.1 = (gq.1 : Int) - 1 ∧ pg gq.2.2.1 gq.2.2.2 ∧ itD x after gq.1 gq.2.2.1 = itD x after (aC x) s0) (fun gq => gq.1) (fun gq => CO gq.2.2.1 gq.2.2.2) (fun gq => Fact.lp l (rcd r none) :: fs) (aC x, (aC x : Int) - 1, s0, g0) (S2 rfl rfl) (S1 rfl) (by (try dsimp only); exact ⟨Nat.le_refl _, rfl, hg0, rfl⟩) (by (exact fun _ h => h)) ?_
 rintro ⟨n, j, s, g⟩ hinv1; (try dsimp only at hinv1 ⊢)
 obtain ⟨hn, hj, hgs, hi⟩ := hinv1
 refine Cq (Cs (Km rfl (Yh rfl (Nt ?_))))
 refine Cd rfl (fun hc8 => ?_) (fun hc8 => ?_)
 ·(try simp only [sB] at hc8)
  obtain ⟨m, rfl⟩ : ∃ m, n = m + 1 := ⟨n - 1, by omega⟩
  refine WC.set 3 rfl (v' := .int .i64 ((m : Nat) : Int)) (by rw [hj]; congr 1; omega) ?_
  refine Ck (Xa (Cq (Cb (Cs (Km rfl (Kq rfl (Ld rfl rfl .tc u22) ?_))))))
  refine Km rfl ?_
  refine Ku rfl (Oc rfl rfl (Kv fun w hS => mO (a := x) (i := m) (by omega))) ?_
  refine Kh rfl (dq hY [] (kD x m) rfl rfl rfl rfl (hinv _ _) (hgs)) ?_
  intro gy; refine WL.pu ?_; intro hgy; (refine WL.app0 ?_)
  refine Yt rfl (Nt ?_)
  refine Cd rfl (fun hc16 => by exfalso; (try simp only [sB] at hc16); simp [hst] at hc16) (fun hc16 => ?_)
  (try simp only [sB] at hc16)
  refine Ck (Xd (Xa (Cg (Km rfl (Kq rfl (aD rfl rfl rfl (by omega)) (Ka rfl (Nn ?_)))))))
  rw [hst]
  refine Lx ((m, (m : Int) - 1, after s (kD x m), gy)) (by (try dsimp only); omega) (S2 rfl rfl) (by refine (Sc ?_ (S0 _)) <;> (rfl)) ?_ (by (exact fun _ h => h))
  (try dsimp only)
  exact ⟨by omega, rfl, hgy (hst _ _), hi⟩
 ·(try simp only [sB] at hc8)
  refine Cx (Xc (Xc (Xe ?_)))
  obtain rfl : n = 0 := by omega
  have hfin : s = itD x after (aC x) s0 := hi
  refine WX.ret_normal ?_
  exact Rn rfl .nil fun w' hS => ⟨⟨_, rfl⟩, g, fun _ => hfin ▸ hgs, by rw [← hfin]; exact aq _ hS⟩
def kQ (m a : Nat) (s : Bs) (y : Bool) : Bs := if y then ae (val (ae (val s * val s % m)) * a % m) else ae (val s * val s % m)
theorem pK {x : Bs} (hx : okN x) (m a : Nat) : ∀ n : Nat, itD x (kQ m a) n (ae (a ^ (val x / 2 ^ n) % m)) = ae (a ^ val x % m)
 | 0 => by rw [itD, Nat.pow_zero, Nat.div_one]
 | n + 1 => by
  rw [itD, show kQ m a (ae (a ^ (val x / 2 ^ (n + 1)) % m)) (kD x n) = ae (a ^ (val x / 2 ^ n) % m) from ?_, pK hx m a n]
  rw [bI hx, fQ, kQ, af, af]
  by_cases h : val x / 2 ^ n % 2 = 1
  ·rw [decide_eq_true h, if_pos rfl, lq h]
  ·rw [decide_eq_false h, if_neg (by simp), lr (by omega)]
theorem vH {x : Bs} (hx : okN x) (m a : Nat) : itD x (kQ m a) (aC x) (ae (1 % m)) = ae (a ^ val x % m) := by
 have := pK hx m a (aC x)
 rwa [Nat.div_eq_of_lt (fm x), Nat.pow_zero] at this
theorem vY {m a : Nat} (hm : 0 < m) (hm8 : m ≤ 18446744073709551616) (s : Bs) (y : Bool) : val (kQ m a s y) < m ∧ okN (kQ m a s y) ∧ (kQ m a s y).length ≤ 8 := by
 have key : ∀ k, k < m → val (ae k) < m ∧ okN (ae k) ∧ (ae k).length ≤ 8 := fun k hk => by
  have h8 : (ae k).length ≤ 8 := bc.2 (by show k < 18446744073709551616; omega)
  exact ⟨by rw [af]; exact hk, ⟨by omega, bD _⟩, h8⟩
 rw [kQ]; split <;> exact key _ (Nat.mod_lt _ hm)
def ff (a x m : Bs) : Bs × Int := if cQ [a, x] [m] = 0 then (ae (val a ^ val x % val m), 0) else ([], cQ [a, x] [m])
abbrev XCO (b9 g b5 b3 : Nat) (x m a : Bs) (s : Bs) (_ : Unit) : List Ent := [⟨some g, [.string (S x)], 22⟩, ⟨some b9, [.string (S s)], 22⟩, ⟨some b5, [.string (S m)], 22⟩, ⟨some b3, [.string (S a)], 22⟩]
theorem s2 {a x m : Bs} {w : World} (hm8 : m.length ≤ 8) :
  Cw 192 #[.string (S a), .string (S x), .string (S m)] w (NE (ff a x m)) := by
 refine kx (S := St (fun _ => True) w [] ([])) (L := [(0, .string (S a)), (1, .string (S x)), (2, .string (S m))]) Tryz.func192 rfl Tryz.ntmps192 rfl (Ac rfl (Ac rfl (Ac rfl (An _)))) (St.start (fun _ _ => trivial) Fn) ?_
 refine Cs ?_
 refine Kh rfl (Oy rfl rfl) ?_
 intro b3
 refine Kh rfl (Oy rfl rfl) ?_
 intro b5
 refine Ka rfl (Ka rfl (Nt (Cq (Cs (Kq rfl (Ld rfl rfl .tc u22) ?_)))))
 refine Km rfl ?_
 refine Kh rfl (aR rfl rfl u31 (by kernel_rfl : _ = some (some (.string (S [])), 1, 16)) rfl (by simp only [List.map]; rfl) rfl rfl ?_ (by decide)) ?_
 ·simp [Value.cells]
 intro b13
 refine Kq rfl (Ld rfl rfl .tc u22) ?_
 refine Kh rfl (aR rfl rfl u31 (by kernel_rfl : _ = some (some (.string (S [])), 1, 16)) rfl (by simp only [List.map]; rfl) rfl rfl ?_ (by decide)) ?_
 ·simp [Value.cells]
 intro b15
 refine Ku rfl (Oc rfl rfl (Kv fun w hS => mJ (l := [a, x]) (ms := [m]) (by (exact hS.os)) (by (exact hS.os)) (by (simp <;> omega)) (by (simp <;> omega)) (by (simp <;> omega)) (by (simp <;> omega)))) ?_
 refine Ka rfl (Nt (Cs (Km rfl (Yj rfl (Nt ?_)))))
 refine Cd rfl (fun hc18 => ?_) (fun hc18 => ?_)
 ·(try simp only [sB] at hc18)
  have hr : ff a x m = ([], cQ [a, x] [m]) := by rw [ff, if_neg (by simpa using hc18)]
  refine Cs (Km rfl (Ka rfl (Ka rfl (Nt (Ce (Xb ?_))))))
  exact WX.retM0 rfl (.tmp rfl (.tmp rfl .nil)) fun w' hS => ⟨by rw [hr]; rfl, hS.below⟩
 ·(try simp only [sB] at hc18)
  have h0 : cQ [a, x] [m] = 0 := by simpa using hc18
  have hr : ff a x m = (ae (val a ^ val x % val m), 0) := by rw [ff, if_pos h0]
  obtain ⟨ha, hx, hm, hm0⟩ := yf h0
  have hp := nS hm hm0
  have hm64 := dK hm8
  obtain ⟨A, hA⟩ : ∃ A, A = ae (val a % val m) := ⟨_, rfl⟩
  have hAv : val A = val a % val m := by rw [hA, af]
  have hA8 : A.length ≤ 8 := by rw [hA]; exact bc.2 (by have := Nat.mod_lt (val a) hp; show _ < 18446744073709551616; omega)
  have hAk : okN A := by rw [hA]; exact ⟨by rw [← hA]; omega, bD _⟩
  have hone : okN [1] := ⟨by decide, by decide⟩
  have hit := vH hx (val m) (val A)
  rw [hAv, ka, ← hAv] at hit
  have h1k : okN (ae (1 % val m)) ∧ (ae (1 % val m)).length ≤ 8 := by
   have h8 : (ae (1 % val m)).length ≤ 8 := bc.2 (by have := Nat.mod_lt 1 hp; show _ < 18446744073709551616; omega)
   exact ⟨⟨by omega, bD _⟩, h8⟩
  refine Ck (Xa (Cs (Kq rfl (Ld rfl rfl .tc u22) ?_)))
  refine Kq rfl (Ld rfl rfl .tc u22) ?_
  refine Ku rfl (Oc rfl rfl (Kv fun w hS => fW (a := a) (m := m) (by exact ha) (by exact hm) (by exact hm0))) ?_
  refine Ns 22 rfl (v' := .string (S (A))) (congrArg (fun l => Value.string (S l)) (by rw [hA])) ?_
  refine Ng rfl rfl (st rfl rfl rfl .tc (by kernel_rfl) rfl ?_ (by (simp only [List.set_cons_zero, List.set_cons_succ]; rfl))) ?_
  ·(simp; done)
  intro _
  refine Nt (Cs (Kq rfl (Ld rfl rfl .tc u22) ?_))
  refine Ku rfl (Oc rfl rfl (Kv fun w hS => fW (a := [1]) (m := m) (by exact hone) (by exact hm) (by exact hm0))) ?_
  refine Ns 24 rfl (v' := .string (S (ae (1 % val m)))) (congrArg (fun l => Value.string (S l)) (by rfl)) ?_
  refine Kh rfl (Oa rfl (v := (.string (S []))) (cs := [.string (S [])]) (by kernel_rfl) rfl) ?_
  intro b9
  refine Ng rfl rfl (st rfl rfl rfl .tc (by kernel_rfl) rfl ?_ (by (simp only [List.set_cons_zero, List.set_cons_succ]; rfl))) ?_
  ·decide
  intro _
  refine Nt (Cq (Cs (Km rfl ?_)))
  refine Kh rfl (Oc rfl rfl (fun w hS => tR (x := x) hS)) ?_
  intro g26
  refine Nt (Cb ?_)
  refine WC.range (CO := XCO b9 g26 b5 b3 x m A) (pg := fun s _ => okN s ∧ s.length ≤ 8) (inv := fun s y => True) (after := kQ (val m) (val A)) (stop := fun _ _ => none) (enc := fun y : Bool => #[Value.bool y]) (ae (1 % val m)) (()) (itD x (kQ (val m) (val A)) (aC x) (ae (1 % val m))) ((none : Option Code)) (h1k) rfl (by kernel_rfl) (fun _ => rfl) (by exact aq) ?_ (fun l r D w hl hY hS => yU (x := x) hY hS h1k hx (fun s y => trivial) (fun s y => rfl)) ?_ ?_
  ·intro l r D f a s g x ext wr hl hi hpg hF hS
   rw [pO]
   refine ep (Fr.tm (hF.put (d := 27) rfl _)) hS ?_
   refine WR.region (by kernel_rfl) ?_
   refine Ka rfl (Nn ?_)
   refine WX.begin hl ?_
   have hbd := vY (a := val A) hp (by omega) s
   have hsq : okN (ae (val s * val s % val m)) ∧ (ae (val s * val s % val m)).length ≤ 8 := (hbd false).2
   refine Cb ?_
   refine WR.sr (by kernel_rfl) ?_
   refine Kq rfl (Ld rfl rfl .tc u22) ?_
   refine Kq rfl (Ld rfl rfl .tc u22) ?_
   refine Kq rfl (Ld rfl rfl .tc u22) ?_
   refine Ku rfl (Oc rfl rfl (Kv fun w hS => lQ (a := s) (b := s) (m := m) (by exact hpg.1) (by exact hpg.1) (by exact hm) (by exact hm0) (by exact hpg.2) (by exact hpg.2) (by exact hm8))) ?_
   refine Ng rfl rfl (st rfl rfl rfl .tc (by kernel_rfl) rfl ?_ (by (simp only [List.set_cons_zero, List.set_cons_succ]; rfl))) ?_
   ·(simp; done)
   intro _
   refine Nt ?_
   refine WR.sr (by kernel_rfl) ?_
   refine Km rfl (Nt ?_)
   refine Cd rfl (fun hc32 => ?_) (fun hc32 => ?_)
   ·(try simp only [sB] at hc32)
    refine WR.region (by kernel_rfl) ?_
    refine Kq rfl (Ld rfl rfl .tc u22) ?_
    refine Kq rfl (Ld rfl rfl .tc u22) ?_
    refine Kq rfl (Ld rfl rfl .tc u22) ?_
    refine Ku rfl (Oc rfl rfl (Kv fun w hS => lQ (a := ae (val s * val s % val m)) (b := A) (m := m) (by exact hsq.1) (by exact hAk) (by exact hm) (by exact hm0) (by exact hsq.2) (by exact hA8) (by exact hm8))) ?_
    refine Ng rfl rfl (st rfl rfl rfl .tc (by kernel_rfl) rfl ?_ (by (simp only [List.set_cons_zero, List.set_cons_succ]; rfl))) ?_
    ·(simp; done)
    intro _
    refine Nn (Xd ?_)
    exact WX.rnext hl fun w' hS => by
     obtain rfl : x = true := by simpa using hc32
     exact ⟨rfl, (), fun _ => (hbd true).2, hS⟩
   ·(try simp only [sB] at hc32)
    refine Ck (Xd ?_)
    exact WX.rnext hl fun w' hS => by
     obtain rfl : x = false := by simpa using hc32
     exact ⟨rfl, (), fun _ => (hbd false).2, hS⟩
  ·intro D1 g1 hD1 hg1 hcf
   refine Xd (Xa (Cs (Kq rfl (Ld rfl rfl .tc u22) ?_)))
   refine Ka rfl (Ka rfl (Nt (Ce ?_)))
   exact WX.retM1 hD1 rfl (.tmp rfl (.tmp rfl .nil)) fun w' hS => ⟨by rw [hr, ← hit]; rfl, hS.below⟩
  ·intro D1 g1 c hD1 hcf
   cases hcf
theorem df : ae 1 = [1] := by decide +kernel
theorem lB {n : Nat} : ae n = [1] ↔ n = 1 := by rw [← df, gl]
theorem sG {l : List Bs} {m : Bs} {a : Option Addr} {c : Nat} {w : World} {ok : Nat → Prop} (hF1 : (Fact.sl a (ao (l ++ [m]))).holds ok w) (hl : l.length ≤ 1000) :
  Cw 126 #[.slice a (l ++ [m]).length c] w (.int .i64 (cQ l [m])) := by
 have hlen : (l ++ [m]).length = l.length + 1 := by simp
 refine En ([Fact.sl a (ao (l ++ [m]))]) [(0, .slice a (l ++ [m]).length c)] Tryz.func126 rfl Tryz.ntmps126 rfl (Ac rfl (An _)) (Fc (ah hF1) Fn) ?_
 refine Cs (Ka rfl (Nt (Cq (Cs (Ka rfl (Nt (Cb ?_)))))))
 refine Lp (σ := Nat) [(0, _)] (fun gq => [(3, .int .i64 (gq : Int))]) (fun gq => gq ≤ (l ++ [m]).length ∧ ∀ x ∈ (l ++ [m]).take gq, okN x) (fun gq => (l ++ [m]).length - gq) (0) (S1 rfl) (S1 rfl) (by (try dsimp only); exact ⟨Nat.zero_le _, by simp⟩) ?_
 rintro i hinv1; (try dsimp only at hinv1 ⊢)
 obtain ⟨hi, hok⟩ := hinv1
 refine Cq (Cs (Km rfl (Km rfl (Yo rfl u31 (Yl rfl (Nt ?_))))))
 refine Cd rfl (fun hc7 => ?_) (fun hc7 => ?_)
 ·(try simp only [sB] at hc7)
  have hil : i < (l ++ [m]).length := by omega
  refine Ck (Xa (Cq (Cb (Cs (Km rfl (Km rfl ?_))))))
  refine Kq rfl (Ib rfl rfl rfl u31 (by omega) (by (rw [List.length_map]; omega))) ?_
  refine Kq rfl (ldm rfl rfl u22 rfl (by assumption)) ?_
  refine Ku rfl (Oc rfl rfl (Kv fun w hS => aA (a := (l ++ [m]).getD i default))) ?_
  refine Yt rfl (Nt ?_)
  refine Cd rfl (fun hc15 => ?_) (fun hc15 => ?_)
  ·(try simp only [sB] at hc15)
   refine Cs (Ka rfl (Nt (Ce (Xf (Xb (Xb (Xf (Xb ?_))))))))
   exact R1 rfl rfl (by rw [cQ, if_neg (fun h => absurd (h _ (ap _ _ hil)) (by simpa using hc15))]; rfl)
  ·(try simp only [sB] at hc15)
   refine Ck (Xd (Xa (Cg (Km rfl (Kq rfl (Rz rfl rfl rfl (by omega)) (Ka rfl (Nn ?_)))))))
   refine Ly (i + 1) (by (try dsimp only); omega) (S1 rfl) (by refine (Sc ?_ (S0 _)) <;> (rfl)) ?_ (by (exact fun _ h => h))
   (try dsimp only)
   exact ⟨hil, ay hil hok (by simpa using hc15)⟩
 ·(try simp only [sB] at hc7)
  refine Cx (Xc (Xc (Xe ?_)))
  have hall : ∀ x ∈ l ++ [m], okN x := by
   have e : i = (l ++ [m]).length := by omega
   subst e; rw [List.take_length] at hok; exact hok
  have hgl : (l ++ [m]).getD l.length default = m := by simp
  refine Xa (Cq (Cs (Km rfl (Km rfl (Yo rfl u31 (Kq rfl (ar rfl rfl rfl (by omega)) ?_))))))
  refine Kq rfl (Ib rfl rfl rfl u31 (by omega) (by (rw [List.length_map]; omega))) ?_
  refine Kq rfl (ldm rfl rfl u22 rfl (by omega)) ?_
  refine Ns 21 rfl (v' := .string (S (m))) (congrArg (fun l => Value.string (S l)) (by rw [hlen]; simp)) ?_
  refine Ys rfl (Nt ?_)
  refine Cd rfl (fun hc22 => ?_) (fun hc22 => ?_)
  ·(try simp only [sB] at hc22)
   have hm0 : m = [] := by simpa using hc22
   refine Cs (Ka rfl (Nt (Ce (Xb ?_))))
   exact R1 rfl rfl (by rw [cQ, if_pos hall, if_pos (by rw [hm0]; simp)]; rfl)
  ·(try simp only [sB] at hc22)
   have hm0 : m ≠ [] := by simpa using hc22
   refine Ck (Xa (Cs (Ka rfl (Nt (Ce ?_)))))
   exact R1 rfl rfl (by rw [cQ, if_pos hall, if_neg (by simpa using fun h => hm0 h)]; rfl)
theorem eS {a m : Bs} {w : World} (ha : okN a) (hm : okN m) (hm0 : m ≠ []) :
  Cw 180 #[.string (S a), .string (S m)] w (.string (S (ae (val a % val m)))) := by
 refine En [] [(0, .string (S a)), (1, .string (S m))] Tryz.func180 rfl Tryz.ntmps180 rfl (Ac rfl (Ac rfl (An _))) Fn ?_
 refine Cs (Ka rfl (Nt (Cs (Km rfl (Km rfl ?_)))))
 refine Ku rfl (Oc rfl rfl (Kv fun w hS => (by have := qz (w := w) (a := a) (b := m); rw [e8 ha hm hm0] at this; exact this))) ?_
 refine Km rfl (Ye rfl (Ye rfl (Ye rfl (Ka rfl (Ka rfl (Ka rfl (Nt (Cs (Km rfl (Ka rfl (Nt (Ce ?_))))))))))))
 exact R1 rfl rfl (by rfl)
theorem iW {n : Nat} (h : n < 18446744073709551616) : aO (ae n) = (n, true) := by
 have h8 : (ae n).length ≤ 8 := bc.2 h
 rw [ft ⟨by omega, bD _⟩ h8, af]
theorem k4 {a b m : Bs} {w : World} (ha : okN a) (hb : okN b) (hm : okN m) (hm0 : m ≠ []) (hm8 : m.length ≤ 8) :
  Cw 127 #[.string (S a), .string (S b), .string (S m)] w (.string (S (ae (val a * val b % val m)))) := by
 have hp := nS hm hm0
 have hm64 := dK hm8
 have h1 := Nat.mod_lt (val a) hp; have h2 := Nat.mod_lt (val b) hp; have h3 := Nat.mod_lt (val a * val b) hp
 have hBB : 18446744073709551616 * 18446744073709551616 ≤ Big := by show 256 ^ 16 ≤ 256 ^ 128; exact Nat.pow_le_pow_right (by decide) (by decide)
 have hml : val a % val m * (val b % val m) < 18446744073709551616 * 18446744073709551616 := Nat.mul_lt_mul'' (by omega) (by omega)
 have hmB := bv hm
 have hmu : bH (ae (val a % val m)) (ae (val b % val m)) = (ae (val a % val m * (val b % val m)), 0) := by
  rw [mj (by omega) (by omega), if_pos (by omega)]
 have hko : okN (ae (val a % val m * (val b % val m))) := au (by omega)
 refine En [] [(0, .string (S a)), (1, .string (S b)), (2, .string (S m))] Tryz.func127 rfl Tryz.ntmps127 rfl (Ac rfl (Ac rfl (Ac rfl (An _)))) Fn ?_
 refine Cs (Ka rfl (Nt (Cs (Km rfl ?_))))
 refine Ku rfl (Oc rfl rfl (Kv fun w hS => (by have := jS (w := w) (a := m); rw [ft hm hm8] at this; exact this))) ?_
 refine Km rfl (Ye rfl (Ye rfl (Ka rfl (Ka rfl (Nt (Cq (Cs (Km rfl (Km rfl ?_)))))))))
 refine Nb 21 rfl (fun hg21 => ?_) (fun hg21 => ?_)
 ·(try simp only [sB] at hg21)
  refine Km rfl (Yl rfl (Yp rfl (Nt ?_)))
  refine Cd rfl (fun hc24 => ?_) (fun hc24 => ?_)
  ·(try simp only [sB] at hc24)
   refine Cs (Km rfl (Km rfl ?_))
   refine Ku rfl (Oc rfl rfl (Kv fun w hS => eS (a := a) (m := m) (by exact ha) (by exact hm) (by exact hm0))) ?_
   refine Ku rfl (Oc rfl rfl (Kv fun w hS => (by have := jS (w := w) (a := ae (val a % val m)); rw [iW (by omega)] at this; exact this))) ?_
   refine Km rfl (Ye rfl (Ye rfl (Ka rfl (Ka rfl (Nt (Cs (Km rfl (Km rfl ?_))))))))
   refine Ku rfl (Oc rfl rfl (Kv fun w hS => eS (a := b) (m := m) (by exact hb) (by exact hm) (by exact hm0))) ?_
   refine Ku rfl (Oc rfl rfl (Kv fun w hS => (by have := jS (w := w) (a := ae (val b % val m)); rw [iW (by omega)] at this; exact this))) ?_
   refine Km rfl (Ye rfl (Ye rfl (Ka rfl (Ka rfl (Nt (Cs (Km rfl (Km rfl ?_))))))))
   refine Kq rfl (bu rfl rfl rfl (by exact Nat.lt_of_le_of_lt (Nat.mul_le_mul (by omega : _ ≤ 2147483647) (by omega : _ ≤ 2147483647)) (by decide))) ?_
   refine Km rfl ?_
   refine Kq rfl (bo rfl rfl rfl ?_) ?_
   ·assumption
   refine Ns 43 rfl (v' := .int .u64 ((val a * val b % val m : Nat) : Int)) (congrArg (Value.int .u64) (by rw [← Nat.mul_mod])) ?_
   refine Ku rfl (Oc rfl rfl (Kv fun w hS => fw (n := val a * val b % val m) (by omega))) ?_
   refine Ka rfl (Nt (Ce (Xb ?_)))
   exact R1 rfl rfl (by rfl)
  ·(try simp only [sB] at hc24)
   refine Ck (Xa (Cs (Km rfl (Km rfl ?_))))
   refine Ku rfl (Oc rfl rfl (Kv fun w hS => eS (a := a) (m := m) (by exact ha) (by exact hm) (by exact hm0))) ?_
   refine Km rfl (Km rfl ?_)
   refine Ku rfl (Oc rfl rfl (Kv fun w hS => eS (a := b) (m := m) (by exact hb) (by exact hm) (by exact hm0))) ?_
   refine Ku rfl (Oc rfl rfl (Kv fun w hS => (by have := n4 (w := w) (a := ae (val a % val m)) (b := ae (val b % val m)); rw [hmu] at this; exact this))) ?_
   refine Km rfl (Ye rfl (Ye rfl (Ka rfl (Ka rfl (Nt (Cs (Km rfl (Km rfl ?_))))))))
   refine Ku rfl (Oc rfl rfl (Kv fun w hS => eS (a := ae (val a % val m * (val b % val m))) (m := m) (by exact hko) (by exact hm) (by exact hm0))) ?_
   refine Ns 57 rfl (v' := .string (S (ae (val a * val b % val m)))) (congrArg (fun l => Value.string (S l)) (by rw [af, ← Nat.mul_mod])) ?_
   refine Ka rfl (Nt (Ce ?_))
   exact R1 rfl rfl (by rfl)
 ·(try simp only [sB] at hg21)
  refine Kt rfl (Kt rfl (Yq rfl (Nt ?_)))
  refine Cd rfl (fun h => by cases h) (fun _ => ?_)
  refine Ck (Xa (Cs (Km rfl (Km rfl ?_))))
  refine Ku rfl (Oc rfl rfl (Kv fun w hS => eS (a := a) (m := m) (by exact ha) (by exact hm) (by exact hm0))) ?_
  refine Km rfl (Km rfl ?_)
  refine Ku rfl (Oc rfl rfl (Kv fun w hS => eS (a := b) (m := m) (by exact hb) (by exact hm) (by exact hm0))) ?_
  refine Ku rfl (Oc rfl rfl (Kv fun w hS => (by have := n4 (w := w) (a := ae (val a % val m)) (b := ae (val b % val m)); rw [hmu] at this; exact this))) ?_
  refine Km rfl (Ye rfl (Ye rfl (Ka rfl (Ka rfl (Nt (Cs (Km rfl (Km rfl ?_))))))))
  refine Ku rfl (Oc rfl rfl (Kv fun w hS => eS (a := ae (val a % val m * (val b % val m))) (m := m) (by exact hko) (by exact hm) (by exact hm0))) ?_
  refine Ns 57 rfl (v' := .string (S (ae (val a * val b % val m)))) (congrArg (fun l => Value.string (S l)) (by rw [af, ← Nat.mul_mod])) ?_
  refine Ka rfl (Nt (Ce ?_))
  exact R1 rfl rfl (by rfl)
theorem sm {a x m : Bs} {w : World} (ha : okN a) (hx : okN x) (hm : okN m) (hm0 : m ≠ []) (hm8 : m.length ≤ 8) :
  Cw 182 #[.string (S a), .string (S x), .string (S m)] w (.string (S (ae (val a ^ val x % val m)))) := by
 have hp := nS hm hm0
 have hm64 := dK hm8
 have hmB := bv hm
 have hbl := fP hx.1
 have hB1 : 1 < Big := Nat.lt_of_lt_of_le (by decide) gz
 have hko : ∀ k, okN (ae (k % val m)) := fun k => au (by have := Nat.mod_lt k hp; omega)
 refine En [] [(0, .string (S a)), (1, .string (S x)), (2, .string (S m))] Tryz.func182 rfl Tryz.ntmps182 rfl (Ac rfl (Ac rfl (Ac rfl (An _)))) Fn ?_
 refine Cs (Ka rfl (Nt (Cs ?_)))
 refine Ku rfl (Oc rfl rfl (Kv fun w hS => fw (n := 1) (by omega))) ?_
 refine Km rfl ?_
 refine Ku rfl (Oc rfl rfl (Kv fun w hS => eS (a := ae 1) (m := m) (by exact au hB1) (by exact hm) (by exact hm0))) ?_
 refine Ns 11 rfl (v' := .string (S (ae (val a ^ (val x / 2 ^ aC x) % val m)))) (congrArg (fun l => Value.string (S l)) (by rw [af, Nat.div_eq_of_lt (fm x), Nat.pow_zero])) ?_
 refine Ka rfl (Nt (Cq (Cs (Km rfl ?_))))
 refine Ku rfl (Oc rfl rfl (Kv fun w hS => vr (a := x))) ?_
 refine Ns 13 rfl (v' := .int .i64 ((aC x : Nat) : Int)) (congrArg (Value.int .i64) (by rw [if_pos hx])) ?_
 refine Kq rfl (aD rfl rfl rfl (by omega)) (Ka rfl (Nt (Cb ?_)))
 refine Lp (σ := Nat × Int) [(0, _), (1, _), (2, _)] (fun gq => [(7, .string (S (ae (val a ^ (val x / 2 ^ gq.1) % val m)))), (8, .int .i64 gq.2)]) (fun gq => gq.1 ≤ aC x ∧ gq.2 = (gq.1 : Int) - 1) (fun gq => gq.1) (aC x, (aC x : Int) - 1) (S3 rfl rfl rfl) (S2 rfl rfl) (by (try dsimp only); exact ⟨Nat.le_refl _, rfl⟩) ?_
 rintro ⟨n, j⟩ hinv1; (try dsimp only at hinv1 ⊢)
 obtain ⟨hn, hj⟩ := hinv1
 refine Cq (Cs (Km rfl (Yh rfl (Nt ?_))))
 refine Cd rfl (fun hc16 => ?_) (fun hc16 => ?_)
 ·(try simp only [sB] at hc16)
  obtain ⟨k, rfl⟩ : ∃ k, n = k + 1 := ⟨n - 1, by omega⟩
  refine WC.set 8 rfl (v' := .int .i64 ((k : Nat) : Int)) (by rw [hj]; congr 1; omega) ?_
  refine Ck (Xa (Cq (Cb (Cs (Km rfl (Km rfl (Km rfl ?_)))))))
  refine Ku rfl (Oc rfl rfl (Kv fun w hS => k4 (a := ae (val a ^ (val x / 2 ^ (k + 1)) % val m)) (b := ae (val a ^ (val x / 2 ^ (k + 1)) % val m)) (m := m) (by exact hko _) (by exact hko _) (by exact hm) (by exact hm0) (by exact hm8))) ?_
  refine Ka rfl (Nt (Cs (Km rfl (Km rfl ?_))))
  refine Ku rfl (Oc rfl rfl (Kv fun w hS => oh (a := x) (i := k) (by omega))) ?_
  refine Nt ?_
  refine Cd rfl (fun hc25 => ?_) (fun hc25 => ?_)
  ·(try simp only [sB] at hc25)
   have hd : val x / 2 ^ k % 2 = 1 := by rw [bI hx, fQ] at hc25; simpa using hc25
   refine Cg (Km rfl (Km rfl (Km rfl ?_)))
   refine Ku rfl (Oc rfl rfl (Kv fun w hS => k4 (a := ae (val (ae (val a ^ (val x / 2 ^ (k + 1)) % val m)) * val (ae (val a ^ (val x / 2 ^ (k + 1)) % val m)) % val m)) (b := a) (m := m) (by exact hko _) (by exact ha) (by exact hm) (by exact hm0) (by exact hm8))) ?_
   refine Ns 29 rfl (v' := .string (S (ae (val a ^ (val x / 2 ^ k) % val m)))) (congrArg (fun l => Value.string (S l)) (by rw [af, af, lq hd])) ?_
   refine Ka rfl (Nn (Xd (Xa (Cg (Km rfl (Kq rfl (aD rfl rfl rfl (by omega)) (Ka rfl (Nn ?_))))))))
   refine Ly ((k, (k : Int) - 1)) (by (try dsimp only); omega) (S3 rfl rfl rfl) (by refine (Sc ?_ (Sc ?_ (S0 _))) <;> (rfl)) ?_ (by (exact fun _ h => h))
   (try dsimp only)
   exact ⟨by omega, rfl⟩
  ·(try simp only [sB] at hc25)
   have hd : val x / 2 ^ k % 2 = 0 := by
    rw [bI hx, fQ] at hc25
    have : ¬ val x / 2 ^ k % 2 = 1 := by simpa using hc25
    omega
   rw [af, lr hd]
   refine Ck (Xd (Xa (Cg (Km rfl (Kq rfl (aD rfl rfl rfl (by omega)) (Ka rfl (Nn ?_)))))))
   refine Ly ((k, (k : Int) - 1)) (by (try dsimp only); omega) (S3 rfl rfl rfl) (by refine (Sc ?_ (Sc ?_ (S0 _))) <;> (rfl)) ?_ (by (exact fun _ h => h))
   (try dsimp only)
   exact ⟨by omega, rfl⟩
 ·(try simp only [sB] at hc16)
  refine Cx (Xc (Xc (Xe ?_)))
  obtain rfl : n = 0 := by omega
  rw [Nat.pow_zero, Nat.div_one]
  refine Xa (Cs (Km rfl (Ka rfl (Nt (Ce ?_)))))
  exact R1 rfl rfl (by rfl)
theorem u0 {a x m : Bs} {w : World} (hm8 : m.length ≤ 8) :
  Cw 178 #[.string (S a), .string (S x), .string (S m)] w (NE (ff a x m)) := by
 refine En [] [(0, .string (S a)), (1, .string (S x)), (2, .string (S m))] Tryz.func178 rfl Tryz.ntmps178 rfl (Ac rfl (Ac rfl (Ac rfl (An _)))) Fn ?_
 refine Cs (Ka rfl (Ka rfl (Nt (Cq (Cs (Km rfl (Km rfl (Km rfl ?_))))))))
 refine Kh rfl (aR rfl rfl u31 (by kernel_rfl : _ = some (some (.string (S [])), 1, 16)) rfl (by simp only [List.map]; rfl) rfl rfl ?_ (by decide)) ?_
 ·simp [Value.cells]
 intro b12
 refine Ku rfl (Oc rfl rfl (Kv fun w hS => sG (l := [a, x]) (m := m) (by (exact hS.os)) (by (simp <;> omega)))) ?_
 refine Ka rfl (Nt (Cs (Km rfl (Yj rfl (Nt ?_)))))
 refine Cd rfl (fun hc15 => ?_) (fun hc15 => ?_)
 ·(try simp only [sB] at hc15)
  have hr : ff a x m = ([], cQ [a, x] [m]) := by rw [ff, if_neg (by simpa using hc15)]
  refine Cs (Km rfl (Ka rfl (Ka rfl (Nt (Ce (Xb ?_))))))
  exact R2 rfl rfl rfl (by rw [hr]; rfl)
 ·(try simp only [sB] at hc15)
  have h0 : cQ [a, x] [m] = 0 := by simpa using hc15
  have hr : ff a x m = (ae (val a ^ val x % val m), 0) := by rw [ff, if_pos h0]
  obtain ⟨ha, hx, hm, hm0⟩ := yf h0
  refine Ck (Xa (Cs (Km rfl (Km rfl (Km rfl ?_)))))
  refine Ku rfl (Oc rfl rfl (Kv fun w hS => sm (a := a) (x := x) (m := m) (by exact ha) (by exact hx) (by exact hm) (by exact hm0) (by exact hm8))) ?_
  refine Ka rfl (Ka rfl (Nt (Ce ?_)))
  exact R2 rfl rfl rfl (by rw [hr]; rfl)
abbrev Gp := Bs × Bs
abbrev gV (g : Gp) : Value := .agg #[.string (S g.1), .string (S g.2)]
def bP (g : Gp) : Int :=
 if okN g.1 ∧ okN g.2 then
  (if g.2 = [] then (if val g.1 % 2 = 1 ∧ 8 < val g.1 then 0 else 13)
   else if val g.1 ≤ 1 ∨ val g.2 < 2 ∨ (val g.1 - 1) % val g.2 ≠ 0 then 13 else 0)
 else 3
theorem gj (a b : Nat) : cP a b ≤ 0 ↔ a ≤ b := by
 have h := aw b a
 unfold cP at *
 constructor
 ·intro h1; split at h1 <;> (try split at h1) <;> omega
 ·intro h1; split <;> (try split) <;> omega
theorem fb (a b : Nat) : 0 ≤ cP a b ↔ b ≤ a := by
 have h := aw a b; omega
theorem jt {a : Bs} (h : okN a) : kD a 0 = decide (val a % 2 = 1) := by
 have := bI (i := 0) h
 rw [show ((0 : Nat) : Int) = 0 from rfl] at this
 rw [this, fQ, Nat.pow_zero, Nat.div_one]
theorem g5 {g : Gp} {w : World} :
  Cw 84 #[gV g] w (.int .i64 (bP g)) := by
 have hB8 : 8 < Big := Nat.lt_of_lt_of_le (by decide) gz
 refine En [] [(0, gV g)] Tryz.func84 rfl Tryz.ntmps84 rfl (Ac rfl (An _)) Fn ?_
 refine Cs ?_
 refine Kh rfl (Oy rfl rfl) ?_
 intro b1
 refine Ka rfl (Nt (Cq ?_))
 refine WC.joinP (σ := Unit) [(1, _)] (fun gq => [(17, .bool (decide (¬ (okN g.1 ∧ okN g.2))))]) (fun gq => True) (S1 rfl) ?_ ?_
 ·skip
  refine Cg (Kq rfl (Fa (q := 0) rfl rfl u26 rfl rfl) (Kq rfl (Ld rfl rfl .tc u22) ?_))
  refine Ku rfl (Oc rfl rfl (Kv fun w hS => av (a := g.1))) ?_
  refine Yt rfl (Km rfl ?_)
  refine Nb 12 rfl (fun hg12 => ?_) (fun hg12 => ?_)
  ·(try simp only [sB] at hg12)
   refine Kt rfl (Kt rfl (Kt rfl (Kt rfl (Yp rfl (Nn ?_)))))
   refine WX.joinP (()) (S1 rfl) (by refine (Sc ?_ (S0 _)) <;> ((refine ai rfl ?_; (try dsimp only); (simp [*]; done)))) ?_ (by (exact fun _ h => h))
   (try dsimp only)
   done
  ·(try simp only [sB] at hg12)
   refine Kq rfl (Fa (q := 1) rfl rfl u26 rfl rfl) (Kq rfl (Ld rfl rfl .tc u22) ?_)
   refine Ku rfl (Oc rfl rfl (Kv fun w hS => av (a := g.2))) ?_
   refine Yt rfl (Yq rfl (Nn ?_))
   refine WX.joinP (()) (S1 rfl) (by refine (Sc ?_ (S0 _)) <;> ((refine ai rfl ?_; (try dsimp only); (simp [*]; done)))) ?_ (by (exact fun _ h => h))
   (try dsimp only)
   done
 ·rintro _ hmeet; (try dsimp only at hmeet ⊢)
  refine Cd rfl (fun hc17 => ?_) (fun hc17 => ?_)
  ·(try simp only [sB] at hc17)
   have hr : bP g = 3 := by rw [bP, if_neg hc17]
   refine Cs (Ka rfl (Nt (Ce (Xb ?_))))
   exact R1 rfl rfl (by rw [hr]; rfl)
  ·(try simp only [sB] at hc17)
   have hok : okN g.1 ∧ okN g.2 := by simpa using hc17
   have hb1 := bv hok.1; have hb2 := bv hok.2
   have hv2 : val g.2 = 0 ↔ g.2 = [] := bg hok.2.2
   refine Ck (Xa (Cq (Cs (Kq rfl (Fa (q := 1) rfl rfl u26 rfl rfl) (Kq rfl (Ld rfl rfl .tc u22) ?_)))))
   refine Ys rfl (Nt ?_)
   refine Cd rfl (fun hc20 => ?_) (fun hc20 => ?_)
   ·(try simp only [sB] at hc20)
    have hq : g.2 = [] := by simpa using hc20
    refine Cq ?_
    refine WC.joinP (σ := Unit) [] (fun gq => [(31, .bool (decide (¬ (val g.1 % 2 = 1 ∧ 8 < val g.1))))]) (fun gq => True) (S0 _) ?_ ?_
    ·skip
     refine Cf [0, 1, 2, 3, 4, 7, 5, 6, 8, 9, 10] [] [0, 0, 1, 0, 0, 0, 0, 1, 1, 0, 0] (by kernel_rfl) (by kernel_rfl) rfl ?_
     refine Kj rfl (Fa (q := 0) rfl rfl u26 rfl rfl) (Kj rfl (Ld rfl rfl .tc u22) ?_)
     refine Jv rfl rfl rfl rfl rfl (fun ext => Oc rfl rfl (Kv fun w hS => mO (a := g.1) (i := 0) (by omega))) ?_
     refine WJ.set 23 rfl (v' := .bool (decide (val g.1 % 2 = 1))) (congrArg Value.bool (by exact jt hok.1)) ?_
     refine Kj rfl (Rt rfl rfl) (Kj rfl (Rm rfl rfl) ?_)
     refine WJ.bool 25 rfl (fun hg25 => ?_) (fun hg25 => ?_)
     ·(try simp only [sB] at hg25)
      refine Js rfl rfl rfl rfl (Js rfl rfl rfl rfl (Js rfl rfl rfl rfl (Js rfl rfl rfl rfl (Js rfl rfl rfl rfl (Kj rfl (Rp rfl rfl rfl) ?_)))))
      refine WJ.nil ?_
      refine Nn ?_
      refine WX.joinP (()) (S0 _) (by refine (Sc ?_ (S0 _)) <;> ((refine ai rfl ?_; (try dsimp only); (simp [*]; done)))) ?_ (by (exact fun _ h => h))
      (try dsimp only)
      done
     ·(try simp only [sB] at hg25)
      refine Jv rfl rfl rfl rfl rfl (fun ext => Oc rfl rfl (Kv fun w hS => fF (n := 8) (by omega))) ?_
      refine Kj rfl (Fa (q := 0) rfl rfl u26 rfl rfl) (Kj rfl (Ld rfl rfl .tc u22) ?_)
      refine Jv rfl rfl rfl rfl rfl (fun ext => Oc rfl rfl (Kv fun w hS => dT (a := g.1) (b := ae 8))) ?_
      refine Kj rfl (oa rfl rfl rfl) ?_
      refine WJ.set 30 rfl (v' := .bool (decide (val g.1 ≤ 8))) (congrArg Value.bool (by rw [az hok.1 (au hB8), af]; exact decide_eq_decide.2 (gj _ _))) ?_
      refine Kj rfl (Rq rfl rfl rfl) ?_
      refine WJ.nil ?_
      refine Nn ?_
      refine WX.joinP (()) (S0 _) (by refine (Sc ?_ (S0 _)) <;> ((refine ai rfl ?_; (try dsimp only); (exact decide_eq_decide.2 (by omega))))) ?_ (by (exact fun _ h => h))
      (try dsimp only)
      done
    ·rintro _ hmeet; (try dsimp only at hmeet ⊢)
     refine Cd rfl (fun hc31 => ?_) (fun hc31 => ?_)
     ·(try simp only [sB] at hc31)
      have hr : bP g = 13 := by rw [bP, if_pos hok, if_pos hq, if_neg hc31]
      refine Cs (Ka rfl (Nt (Ce (Xb (Xb ?_)))))
      exact R1 rfl rfl (by rw [hr]; rfl)
     ·(try simp only [sB] at hc31)
      have hr : bP g = 0 := by rw [bP, if_pos hok, if_pos hq, if_pos (by simpa using hc31)]
      refine Ck (Xa (Cs (Ka rfl (Nt (Ce (Xb ?_))))))
      exact R1 rfl rfl (by rw [hr]; rfl)
   ·(try simp only [sB] at hc20)
    have hq : g.2 ≠ [] := by simpa using hc20
    have hsb : eQ g.1 (ae 1) = if val g.1 < 1 then ([], 2) else (ae (val g.1 - 1), 0) := by rw [eQ, if_pos ⟨hok.1, au (by omega)⟩, af]
    have hqp : 0 < val g.2 := by rcases Nat.eq_zero_or_pos (val g.2) with h | h; exact absurd (hv2.1 h) hq; exact h
    refine Ck (Xa (Cq ?_))
    refine Cf [2, 0, 1, 3, 4, 5, 6, 7, 8] [] [0, 0, 1, 1, 0, 0, 0, 0, 0] (by kernel_rfl) (by kernel_rfl) rfl ?_
    refine Jv rfl rfl rfl rfl rfl (fun ext => Oc rfl rfl (Kv fun w hS => fF (n := 1) (by omega))) ?_
    refine Kj rfl (Fa (q := 0) rfl rfl u26 rfl rfl) (Kj rfl (Ld rfl rfl .tc u22) ?_)
    refine Jv rfl rfl rfl rfl rfl (fun ext => Oc rfl rfl (Kv fun w hS => o0 (a := g.1) (b := ae 1))) ?_
    refine Kj rfl (Rm rfl rfl) (Kj rfl (Re rfl rfl rfl) (Kj rfl (Re rfl rfl rfl) (Kj rfl (Ra rfl rfl) (Kj rfl (Ra rfl rfl) ?_))))
    refine WJ.nil ?_
    refine Nt (Cq ?_)
    refine WC.joinP (σ := Unit) [(1, _), (3, _)] (fun gq => [(51, .bool (decide (val g.1 ≤ 1 ∨ val g.2 < 2)))]) (fun gq => True) (S2 rfl rfl) ?_ ?_
    ·skip
     refine Cf [0, 1, 2, 3, 4, 5, 6, 9, 7, 8, 10, 11, 12] [] [0, 0, 0, 0, 0, 0, 0, 0, 0, 1, 1, 0, 0] (by kernel_rfl) (by kernel_rfl) rfl ?_
     refine Kj rfl (Rm rfl rfl) (Kj rfl (l0 rfl rfl rfl) ?_)
     refine WJ.set 40 rfl (v' := .bool (decide (val g.1 < 1))) (congrArg Value.bool (by rw [hsb]; split <;> simp <;> omega)) ?_
     refine Kj rfl (Rm rfl rfl) ?_
     refine WJ.bool 41 rfl (fun hg41 => ?_) (fun hg41 => ?_)
     ·(try simp only [sB] at hg41)
      refine Js rfl rfl rfl rfl (Js rfl rfl rfl rfl (Kj rfl (Rp rfl rfl rfl) (Kj rfl (Rm rfl rfl) (Js rfl rfl rfl rfl (Js rfl rfl rfl rfl (Js rfl rfl rfl rfl (Js rfl rfl rfl rfl (Js rfl rfl rfl rfl (Kj rfl (Rp rfl rfl rfl) ?_)))))))))
      refine WJ.nil ?_
      refine Nn ?_
      refine WX.joinP (()) (S2 rfl rfl) (by refine (Sc ?_ (S0 _)) <;> ((exact congrArg (fun b => some (Value.bool b)) (by symm; apply decide_eq_true; omega)))) ?_ (by (exact fun _ h => h))
      (try dsimp only)
      done
     ·(try simp only [sB] at hg41)
      refine Kj rfl (Rm rfl rfl) (Kj rfl (lX rfl rfl rfl) ?_)
      refine WJ.set 43 rfl (v' := .bool (decide (val g.1 ≤ 1))) (congrArg Value.bool (by rw [hsb]; split <;> simp [bC] <;> omega)) ?_
      refine Kj rfl (Rq rfl rfl rfl) (Kj rfl (Rm rfl rfl) ?_)
      refine WJ.bool 45 rfl (fun hg45 => ?_) (fun hg45 => ?_)
      ·(try simp only [sB] at hg45)
       refine Js rfl rfl rfl rfl (Js rfl rfl rfl rfl (Js rfl rfl rfl rfl (Js rfl rfl rfl rfl (Js rfl rfl rfl rfl (Kj rfl (Rp rfl rfl rfl) ?_)))))
       refine WJ.nil ?_
       refine Nn ?_
       refine WX.joinP (()) (S2 rfl rfl) (by refine (Sc ?_ (S0 _)) <;> ((refine ai rfl ?_; (try dsimp only); (simp [*]; done)))) ?_ (by (exact fun _ h => h))
       (try dsimp only)
       done
      ·(try simp only [sB] at hg45)
       refine Jv rfl rfl rfl rfl rfl (fun ext => Oc rfl rfl (Kv fun w hS => fF (n := 2) (by omega))) ?_
       refine Kj rfl (Fa (q := 1) rfl rfl u26 rfl rfl) (Kj rfl (Ld rfl rfl .tc u22) ?_)
       refine Jv rfl rfl rfl rfl rfl (fun ext => Oc rfl rfl (Kv fun w hS => dT (a := g.2) (b := ae 2))) ?_
       refine Kj rfl (j2 rfl rfl rfl) ?_
       refine WJ.set 50 rfl (v' := .bool (decide (val g.2 < 2))) (congrArg Value.bool (by rw [az hok.2 (au (by omega)), af]; exact decide_eq_decide.2 (aw _ _))) ?_
       refine Kj rfl (Rq rfl rfl rfl) ?_
       refine WJ.nil ?_
       refine Nn ?_
       refine WX.joinP (()) (S2 rfl rfl) (by refine (Sc ?_ (S0 _)) <;> ((refine ai rfl ?_; (try dsimp only); (exact decide_eq_decide.2 (by omega))))) ?_ (by (exact fun _ h => h))
       (try dsimp only)
       done
    ·rintro _ hmeet; (try dsimp only at hmeet ⊢)
     refine Cd rfl (fun hc51 => ?_) (fun hc51 => ?_)
     ·(try simp only [sB] at hc51)
      have hr : bP g = 13 := by rw [bP, if_pos hok, if_neg hq, if_pos (by omega)]
      refine Cs (Ka rfl (Nt (Ce (Xb ?_))))
      exact R1 rfl rfl (by rw [hr]; rfl)
     ·(try simp only [sB] at hc51)
      have hs1 : (eQ g.1 (ae 1)).1 = ae (val g.1 - 1) := by rw [hsb, if_neg (by omega)]
      have hdv : fM (ae (val g.1 - 1)) g.2 = ((ae ((val g.1 - 1) / val g.2), ae ((val g.1 - 1) % val g.2)), 0) := by rw [e8 (au (by omega)) hok.2 hq, af]
      rw [hs1]
      refine Ck (Xa (Cq (Cs (Km rfl (Kq rfl (Fa (q := 1) rfl rfl u26 rfl rfl) (Kq rfl (Ld rfl rfl .tc u22) ?_))))))
      refine Ku rfl (Oc rfl rfl (Kv fun w hS => (by have := eI (w := w) (a := ae (val g.1 - 1)) (b := g.2); rw [hdv] at this; exact this))) ?_
      refine Km rfl (Ye rfl (Ye rfl (Ye rfl (Ka rfl (Ka rfl (Ka rfl (Nt (Cs (Km rfl (Yj rfl ?_))))))))))
      refine Ns 61 rfl (v' := .bool false) (by rfl) ?_
      refine Km rfl (Km rfl (Yr rfl ?_))
      refine Ns 64 rfl (v' := .bool (decide ((val g.1 - 1) % val g.2 ≠ 0))) (congrArg Value.bool (by simp [bC])) ?_
      refine Yq rfl (Nt ?_)
      refine Cd rfl (fun hc65 => ?_) (fun hc65 => ?_)
      ·(try simp only [sB] at hc65)
       have hr : bP g = 13 := by rw [bP, if_pos hok, if_neg hq, if_pos (Or.inr (Or.inr hc65))]
       refine Cs (Ka rfl (Nt (Ce (Xb ?_))))
       exact R1 rfl rfl (by rw [hr]; rfl)
      ·(try simp only [sB] at hc65)
       have hr : bP g = 0 := by rw [bP, if_pos hok, if_neg hq, if_neg (fun h => by rcases h with h | h | h; omega; omega; exact hc65 h)]
       refine Ck (Xa (Cs (Ka rfl (Nt (Ce ?_)))))
       exact R1 rfl rfl (by rw [hr]; rfl)
theorem pp {g : Gp} {w : World} :
  Cw 168 #[gV g] w (.bool (decide (okN g.1 ∧ okN g.2))) := by
 refine En [] [(0, gV g)] Tryz.func168 rfl Tryz.ntmps168 rfl (Ac rfl (An _)) Fn ?_
 refine Cs ?_
 refine Kh rfl (Oy rfl rfl) ?_
 intro b1
 refine Ka rfl (Nt (Cs (Kq rfl (Fa (q := 0) rfl rfl u26 rfl rfl) (Kq rfl (Ld rfl rfl .tc u22) ?_))))
 refine Ku rfl (Oc rfl rfl (Kv fun w hS => av (a := g.1))) ?_
 refine Km rfl ?_
 refine Nb 6 rfl (fun hg6 => ?_) (fun hg6 => ?_)
 ·(try simp only [sB] at hg6)
  refine Kq rfl (Fa (q := 1) rfl rfl u26 rfl rfl) (Kq rfl (Ld rfl rfl .tc u22) ?_)
  refine Ku rfl (Oc rfl rfl (Kv fun w hS => av (a := g.2))) ?_
  refine Yp rfl (Ka rfl (Nt (Ce ?_)))
  exact R1 rfl rfl (by (simp [*, tup]; done))
 ·(try simp only [sB] at hg6)
  refine Kt rfl (Kt rfl (Kt rfl (Yq rfl (Ka rfl (Nt (Ce ?_))))))
  exact R1 rfl rfl (by (simp [*, tup]; done))
def ji (g : Gp) (x : Bs) : Prop := okN g.1 ∧ okN g.2 ∧ okN x ∧ g.2 ≠ [] ∧ x ≠ [] ∧ val x < val g.1 ∧ val x ^ val g.2 % val g.1 = 1
instance (g : Gp) (x : Bs) : Decidable (ji g x) := inferInstanceAs (Decidable (_ ∧ _))
theorem mp {a x m : Bs} (ha : okN a) (hx : okN x) (hm : okN m) (hm0 : m ≠ []) : ff a x m = (ae (val a ^ val x % val m), 0) := by
 rw [ff, if_pos (kz (by intro y hy; simp at hy; rcases hy with rfl | rfl | rfl <;> assumption) (by simpa using fun h => hm0 h))]
theorem pw : okN [] := ⟨by decide, by decide⟩
theorem qL {x : Bs} (h : okN x) (h0 : x ≠ []) : 0 < val x := nS h h0
theorem sQ {g : Gp} {x : Bs} {w : World} (hm8 : g.1.length ≤ 8) :
  Cw 146 #[gV g, .string (S x)] w (.bool (decide (ji g x))) := by
 refine En [] [(0, gV g), (1, .string (S x))] Tryz.func146 rfl Tryz.ntmps146 rfl (Ac rfl (Ac rfl (An _))) Fn ?_
 refine Cs ?_
 refine Kh rfl (Oy rfl rfl) ?_
 intro b2
 refine Ka rfl (Nt (Cq ?_))
 refine WC.joinP (σ := Unit) [(1, _), (2, _)] (fun gq => [(32, .bool (decide (¬ ((okN g.1 ∧ okN g.2) ∧ okN x ∧ g.2 ≠ [] ∧ x ≠ [] ∧ val x < val g.1))))]) (fun gq => True) (S2 rfl rfl) ?_ ?_
 ·skip
  refine Cg ?_
  refine Kq rfl (lda rfl rfl .tc u26 rfl ?_) ?_
  ·kernel_rfl
  refine Ku rfl (Oc rfl rfl (Kv fun w hS => pp (g := g))) ?_
  refine Yt rfl (Km rfl ?_)
  refine Nb 12 rfl (fun hg12 => ?_) (fun hg12 => ?_)
  ·(try simp only [sB] at hg12)
   refine Kt rfl (Kt rfl (Kt rfl (Yp rfl (Km rfl (Kt rfl (Kt rfl (Kt rfl (Yp rfl (Km rfl (Kt rfl (Kt rfl (Yp rfl (Km rfl (Kt rfl (Kt rfl (Kt rfl (Kt rfl (Kt rfl (Yp rfl (Nn ?_))))))))))))))))))))
   refine WX.joinP (()) (S2 rfl rfl) (by refine (Sc ?_ (S0 _)) <;> ((refine ai rfl ?_; (try dsimp only); (simp [*]; done)))) ?_ (by (exact fun _ h => h))
   (try dsimp only)
   done
  ·(try simp only [sB] at hg12)
   refine Km rfl ?_
   refine Ku rfl (Oc rfl rfl (Kv fun w hS => av (a := x))) ?_
   refine Yt rfl (Yq rfl (Km rfl ?_))
   refine Nb 17 rfl (fun hg17 => ?_) (fun hg17 => ?_)
   ·(try simp only [sB] at hg17)
    refine Kt rfl (Kt rfl (Kt rfl (Yp rfl (Km rfl (Kt rfl (Kt rfl (Yp rfl (Km rfl (Kt rfl (Kt rfl (Kt rfl (Kt rfl (Kt rfl (Yp rfl (Nn ?_)))))))))))))))
    refine WX.joinP (()) (S2 rfl rfl) (by refine (Sc ?_ (S0 _)) <;> ((refine ai rfl ?_; (try dsimp only); (simp [*]; done)))) ?_ (by (exact fun _ h => h))
    (try dsimp only)
    done
   ·(try simp only [sB] at hg17)
    refine Kq rfl (Fa (q := 1) rfl rfl u26 rfl rfl) (Kq rfl (Ld rfl rfl .tc u22) ?_)
    refine Ys rfl (Yq rfl (Km rfl ?_))
    refine Nb 22 rfl (fun hg22 => ?_) (fun hg22 => ?_)
    ·(try simp only [sB] at hg22)
     refine Kt rfl (Kt rfl (Yp rfl (Km rfl (Kt rfl (Kt rfl (Kt rfl (Kt rfl (Kt rfl (Yp rfl (Nn ?_))))))))))
     refine WX.joinP (()) (S2 rfl rfl) (by refine (Sc ?_ (S0 _)) <;> ((refine ai rfl ?_; (try dsimp only); (simp [*]; done)))) ?_ (by (exact fun _ h => h))
     (try dsimp only)
     done
    ·(try simp only [sB] at hg22)
     refine Km rfl (Ys rfl (Yq rfl (Km rfl ?_)))
     refine Nb 26 rfl (fun hg26 => ?_) (fun hg26 => ?_)
     ·(try simp only [sB] at hg26)
      refine Kt rfl (Kt rfl (Kt rfl (Kt rfl (Kt rfl (Yp rfl (Nn ?_))))))
      refine WX.joinP (()) (S2 rfl rfl) (by refine (Sc ?_ (S0 _)) <;> ((refine ai rfl ?_; (try dsimp only); (simp [*]; done)))) ?_ (by (exact fun _ h => h))
      (try dsimp only)
      done
     ·(try simp only [sB] at hg26)
      refine Km rfl (Kq rfl (Fa (q := 0) rfl rfl u26 rfl rfl) (Kq rfl (Ld rfl rfl .tc u22) ?_))
      refine Ku rfl (Oc rfl rfl (Kv fun w hS => dT (a := x) (b := g.1))) ?_
      refine Yh rfl ?_
      refine Ns 31 rfl (v' := .bool (decide (val g.1 ≤ val x))) (congrArg Value.bool (by rw [az hg17 hg12.1]; exact decide_eq_decide.2 (fb _ _))) ?_
      refine Yq rfl (Nn ?_)
      refine WX.joinP (()) (S2 rfl rfl) (by refine (Sc ?_ (S0 _)) <;> ((refine ai rfl ?_; (try dsimp only); (simp [*]; done)))) ?_ (by (exact fun _ h => h))
      (try dsimp only)
      done
 ·rintro _ hmeet; (try dsimp only at hmeet ⊢)
  refine Cd rfl (fun hc32 => ?_) (fun hc32 => ?_)
  ·(try simp only [sB] at hc32)
   have hr : ¬ ji g x := fun h => hc32 ⟨⟨h.1, h.2.1⟩, h.2.2.1, h.2.2.2.1, h.2.2.2.2.1, h.2.2.2.2.2.1⟩
   refine Cs (Ka rfl (Nt (Ce (Xb ?_))))
   exact R1 rfl rfl (by (simp [*, tup]; done))
  ·(try simp only [sB] at hc32)
   have hok : (okN g.1 ∧ okN g.2) ∧ okN x ∧ g.2 ≠ [] ∧ x ≠ [] ∧ val x < val g.1 := Decidable.not_not.1 hc32
   obtain ⟨⟨hm, hq⟩, hx, hq0, hx0, hlt⟩ := hok
   have hxp := qL hx hx0
   have hm0 : g.1 ≠ [] := fun h => by rw [h] at hlt; exact absurd hlt (Nat.not_lt_zero _)
   have he1 := mp hx hq hm hm0
   have he2 := mp hx pw hm hm0
   have h1m : val x ^ val [] % val g.1 = 1 := by rw [show val [] = 0 from rfl, Nat.pow_zero, Nat.mod_eq_of_lt (by omega)]
   have hr : ji g x ↔ val x ^ val g.2 % val g.1 = 1 := ⟨fun h => h.2.2.2.2.2.2, fun h => ⟨hm, hq, hx, hq0, hx0, hlt, h⟩⟩
   refine Ck (Xa (Cs (Km rfl (Kq rfl (Fa (q := 1) rfl rfl u26 rfl rfl) (Kq rfl (Ld rfl rfl .tc u22) ?_)))))
   refine Kq rfl (Fa (q := 0) rfl rfl u26 rfl rfl) (Kq rfl (Ld rfl rfl .tc u22) ?_)
   refine Ku rfl (Oc rfl rfl (Kv fun w hS => (by have := s2 (w := w) (a := x) (x := g.2) (m := g.1) hm8; rw [he1] at this; exact this))) ?_
   refine Km rfl (Ye rfl (Ye rfl (Ka rfl (Ka rfl (Nt (Cs (Km rfl (Kq rfl (Fa (q := 0) rfl rfl u26 rfl rfl) (Kq rfl (Ld rfl rfl .tc u22) ?_)))))))))
   refine Ku rfl (Oc rfl rfl (Kv fun w hS => (by have := s2 (w := w) (a := x) (x := []) (m := g.1) hm8; rw [he2, h1m] at this; exact this))) ?_
   refine Km rfl (Ye rfl (Ye rfl (Ka rfl (Ka rfl (Nt (Cs (Km rfl (Yi rfl ?_))))))))
   refine Ns 50 rfl (v' := .bool true) (by rfl) ?_
   refine Km rfl (Km rfl (Km rfl (Ys rfl ?_)))
   refine Ns 54 rfl (v' := .bool (decide (ji g x))) (congrArg Value.bool (by simp [hr, gl])) ?_
   refine Yp rfl (Ka rfl (Nt (Ce ?_)))
   exact R1 rfl rfl (by rfl)
def dr (g : Gp) : Prop := okN g.1 ∧ g.2 = [] ∧ val g.1 % 2 = 1 ∧ 8 < val g.1
instance (g : Gp) : Decidable (dr g) := inferInstanceAs (Decidable (_ ∧ _))
theorem u1 {g : Gp} {w : World} :
  Cw 165 #[gV g] w (.bool (decide (dr g))) := by
 have hB8 : 8 < Big := Nat.lt_of_lt_of_le (by decide) gz
 refine En [] [(0, gV g)] Tryz.func165 rfl Tryz.ntmps165 rfl (Ac rfl (An _)) Fn ?_
 refine Cs ?_
 refine Kh rfl (Oy rfl rfl) ?_
 intro b1
 refine Ka rfl (Nt (Cq ?_))
 refine Cf [0, 1, 2, 3, 4, 5, 6, 7, 8, 9, 10, 11, 12, 13, 16, 14, 15, 17, 18, 19, 20] [] [0, 0, 1, 0, 0, 0, 0, 0, 0, 0, 0, 1, 0, 0, 0, 0, 1, 1, 0, 0, 0] (by kernel_rfl) (by kernel_rfl) rfl ?_
 refine Kj rfl (Fa (q := 0) rfl rfl u26 rfl rfl) (Kj rfl (Ld rfl rfl .tc u22) ?_)
 refine Jv rfl rfl rfl rfl rfl (fun ext => Oc rfl rfl (Kv fun w hS => av (a := g.1))) ?_
 refine Kj rfl (Rm rfl rfl) ?_
 refine WJ.bool 6 rfl (fun hg6 => ?_) (fun hg6 => ?_)
 ·(try simp only [sB] at hg6)
  refine Kj rfl (Fa (q := 1) rfl rfl u26 rfl rfl) (Kj rfl (Ld rfl rfl .tc u22) ?_)
  refine Kj rfl (lX rfl rfl rfl) (Kj rfl (Rp rfl rfl rfl) (Kj rfl (Rm rfl rfl) ?_))
  refine WJ.bool 11 rfl (fun hg11 => ?_) (fun hg11 => ?_)
  ·(try simp only [sB] at hg11)
   refine Kj rfl (Fa (q := 0) rfl rfl u26 rfl rfl) (Kj rfl (Ld rfl rfl .tc u22) ?_)
   refine Jv rfl rfl rfl rfl rfl (fun ext => Oc rfl rfl (Kv fun w hS => mO (a := g.1) (i := 0) (by omega))) ?_
   refine WJ.set 14 rfl (v' := .bool (decide (val g.1 % 2 = 1))) (congrArg Value.bool (by exact jt hg6)) ?_
   refine Kj rfl (Rp rfl rfl rfl) (Kj rfl (Rm rfl rfl) ?_)
   refine WJ.bool 16 rfl (fun hg16 => ?_) (fun hg16 => ?_)
   ·(try simp only [sB] at hg16)
    refine Jv rfl rfl rfl rfl rfl (fun ext => Oc rfl rfl (Kv fun w hS => fF (n := 8) (by omega))) ?_
    refine Kj rfl (Fa (q := 0) rfl rfl u26 rfl rfl) (Kj rfl (Ld rfl rfl .tc u22) ?_)
    refine Jv rfl rfl rfl rfl rfl (fun ext => Oc rfl rfl (Kv fun w hS => dT (a := g.1) (b := ae 8))) ?_
    refine Kj rfl (j3 rfl rfl rfl) ?_
    refine WJ.set 21 rfl (v' := .bool (decide (8 < val g.1))) (congrArg Value.bool (by rw [az hg6 (au hB8), af]; exact decide_eq_decide.2 (by have := gj (val g.1) 8; omega))) ?_
    refine Kj rfl (Rp rfl rfl rfl) (Kj rfl (Ra rfl rfl) ?_)
    refine WJ.nil ?_
    refine Nt (Ce ?_)
    exact R1 rfl rfl (by (simp [*, tup, dr]; done))
   ·(try simp only [sB] at hg16)
    refine Js rfl rfl rfl rfl (Js rfl rfl rfl rfl (Js rfl rfl rfl rfl (Js rfl rfl rfl rfl (Js rfl rfl rfl rfl (Kj rfl (Rq rfl rfl rfl) (Kj rfl (Ra rfl rfl) ?_))))))
    refine WJ.nil ?_
    refine Nt (Ce ?_)
    exact R1 rfl rfl (by (simp [*, tup, dr]; done))
  ·(try simp only [sB] at hg11)
   refine Js rfl rfl rfl rfl (Js rfl rfl rfl rfl (Js rfl rfl rfl rfl (Kj rfl (Rq rfl rfl rfl) (Kj rfl (Rm rfl rfl) (Js rfl rfl rfl rfl (Js rfl rfl rfl rfl (Js rfl rfl rfl rfl (Js rfl rfl rfl rfl (Js rfl rfl rfl rfl (Kj rfl (Rq rfl rfl rfl) (Kj rfl (Ra rfl rfl) ?_)))))))))))
   refine WJ.nil ?_
   refine Nt (Ce ?_)
   exact R1 rfl rfl (by (simp [*, tup, dr]; done))
 ·(try simp only [sB] at hg6)
  refine Js rfl rfl rfl rfl (Js rfl rfl rfl rfl (Js rfl rfl rfl rfl (Kj rfl (Rq rfl rfl rfl) (Kj rfl (Rm rfl rfl) (Js rfl rfl rfl rfl (Js rfl rfl rfl rfl (Js rfl rfl rfl rfl (Kj rfl (Rq rfl rfl rfl) (Kj rfl (Rm rfl rfl) (Js rfl rfl rfl rfl (Js rfl rfl rfl rfl (Js rfl rfl rfl rfl (Js rfl rfl rfl rfl (Js rfl rfl rfl rfl (Kj rfl (Rq rfl rfl rfl) (Kj rfl (Ra rfl rfl) ?_))))))))))))))))
  refine WJ.nil ?_
  refine Nt (Ce ?_)
  exact R1 rfl rfl (by (simp [*, tup, dr]; done))
theorem uX {w : World} :
  Cw 167 #[] w (.string (S (ae 1))) := by
 refine En [] [] Tryz.func167 rfl Tryz.ntmps167 rfl (An _) Fn ?_
 refine Cs (Ka rfl (Nt (Cs ?_)))
 refine Ku rfl (Oc rfl rfl (Kv fun w hS => fF (n := 1) (by omega))) ?_
 refine Ka rfl (Nt (Ce ?_))
 exact R1 rfl rfl (by rfl)
def jh (g : Gp) (x : Bs) : Prop := dr g ∧ okN x ∧ x ≠ [] ∧ val x < val g.1 ∧ Nat.gcd (val x) (val g.1) = 1
instance (g : Gp) (x : Bs) : Decidable (jh g x) := inferInstanceAs (Decidable (_ ∧ _))
theorem pi {g : Gp} {x : Bs} {w : World} :
  Cw 113 #[gV g, .string (S x)] w (.bool (decide (jh g x))) := by
 refine En [] [(0, gV g), (1, .string (S x))] Tryz.func113 rfl Tryz.ntmps113 rfl (Ac rfl (Ac rfl (An _))) Fn ?_
 refine Cs ?_
 refine Kh rfl (Oy rfl rfl) ?_
 intro b2
 refine Ka rfl (Nt (Cq ?_))
 refine WC.joinP (σ := Unit) [(1, _), (2, _)] (fun gq => [(25, .bool (decide (¬ (dr g ∧ okN x ∧ x ≠ [] ∧ val x < val g.1))))]) (fun gq => True) (S2 rfl rfl) ?_ ?_
 ·skip
  refine Cg ?_
  refine Kq rfl (lda rfl rfl .tc u26 rfl ?_) ?_
  ·kernel_rfl
  refine Ku rfl (Oc rfl rfl (Kv fun w hS => u1 (g := g))) ?_
  refine Yt rfl (Km rfl ?_)
  refine Nb 10 rfl (fun hg10 => ?_) (fun hg10 => ?_)
  ·(try simp only [sB] at hg10)
   refine Kt rfl (Kt rfl (Kt rfl (Yp rfl (Km rfl (Kt rfl (Kt rfl (Yp rfl (Km rfl (Kt rfl (Kt rfl (Kt rfl (Kt rfl (Kt rfl (Yp rfl (Nn ?_)))))))))))))))
   refine WX.joinP (()) (S2 rfl rfl) (by refine (Sc ?_ (S0 _)) <;> ((refine ai rfl ?_; (try dsimp only); (simp [*]; done)))) ?_ (by (exact fun _ h => h))
   (try dsimp only)
   done
  ·(try simp only [sB] at hg10)
   refine Km rfl ?_
   refine Ku rfl (Oc rfl rfl (Kv fun w hS => av (a := x))) ?_
   refine Yt rfl (Yq rfl (Km rfl ?_))
   refine Nb 15 rfl (fun hg15 => ?_) (fun hg15 => ?_)
   ·(try simp only [sB] at hg15)
    refine Kt rfl (Kt rfl (Yp rfl (Km rfl (Kt rfl (Kt rfl (Kt rfl (Kt rfl (Kt rfl (Yp rfl (Nn ?_))))))))))
    refine WX.joinP (()) (S2 rfl rfl) (by refine (Sc ?_ (S0 _)) <;> ((refine ai rfl ?_; (try dsimp only); (simp [*]; done)))) ?_ (by (exact fun _ h => h))
    (try dsimp only)
    done
   ·(try simp only [sB] at hg15)
    refine Km rfl (Ys rfl (Yq rfl (Km rfl ?_)))
    refine Nb 19 rfl (fun hg19 => ?_) (fun hg19 => ?_)
    ·(try simp only [sB] at hg19)
     refine Kt rfl (Kt rfl (Kt rfl (Kt rfl (Kt rfl (Yp rfl (Nn ?_))))))
     refine WX.joinP (()) (S2 rfl rfl) (by refine (Sc ?_ (S0 _)) <;> ((refine ai rfl ?_; (try dsimp only); (simp [*]; done)))) ?_ (by (exact fun _ h => h))
     (try dsimp only)
     done
    ·(try simp only [sB] at hg19)
     refine Km rfl (Kq rfl (Fa (q := 0) rfl rfl u26 rfl rfl) (Kq rfl (Ld rfl rfl .tc u22) ?_))
     refine Ku rfl (Oc rfl rfl (Kv fun w hS => dT (a := x) (b := g.1))) ?_
     refine Yh rfl ?_
     refine Ns 24 rfl (v' := .bool (decide (val g.1 ≤ val x))) (congrArg Value.bool (by rw [az hg15 hg10.1]; exact decide_eq_decide.2 (fb _ _))) ?_
     refine Yq rfl (Nn ?_)
     refine WX.joinP (()) (S2 rfl rfl) (by refine (Sc ?_ (S0 _)) <;> ((refine ai rfl ?_; (try dsimp only); (simp [*]; done)))) ?_ (by (exact fun _ h => h))
     (try dsimp only)
     done
 ·rintro _ hmeet; (try dsimp only at hmeet ⊢)
  refine Cd rfl (fun hc25 => ?_) (fun hc25 => ?_)
  ·(try simp only [sB] at hc25)
   have hr : ¬ jh g x := fun h => hc25 ⟨h.1, h.2.1, h.2.2.1, h.2.2.2.1⟩
   refine Cs (Ka rfl (Nt (Ce (Xb ?_))))
   exact R1 rfl rfl (by (simp [*, tup]; done))
  ·(try simp only [sB] at hc25)
   have hok : dr g ∧ okN x ∧ x ≠ [] ∧ val x < val g.1 := Decidable.not_not.1 hc25
   have hgc : jj x g.1 = (ae (Nat.gcd (val x) (val g.1)), 0) := by rw [jj, if_pos ⟨hok.2.1, hok.1.1⟩]
   have hr : jh g x ↔ Nat.gcd (val x) (val g.1) = 1 := ⟨fun h => h.2.2.2.2, fun h => ⟨hok.1, hok.2.1, hok.2.2.1, hok.2.2.2, h⟩⟩
   refine Ck (Xa (Cs (Km rfl (Kq rfl (Fa (q := 0) rfl rfl u26 rfl rfl) (Kq rfl (Ld rfl rfl .tc u22) ?_)))))
   refine Ku rfl (Oc rfl rfl (Kv fun w hS => (by have := yO (w := w) (a := x) (b := g.1); rw [hgc] at this; exact this))) ?_
   refine Km rfl (Ye rfl (Ye rfl (Ka rfl (Ka rfl (Nt (Cs (Km rfl ?_)))))))
   refine Ku rfl (Oc rfl rfl (Kv fun w hS => uX)) ?_
   refine Ys rfl ?_
   refine Ns 35 rfl (v' := .bool (decide (jh g x))) (congrArg Value.bool (by simp [hr, gl])) ?_
   refine Ka rfl (Nt (Ce ?_))
   exact R1 rfl rfl (by rfl)
def elG (g : Gp) (x : Bs) : Prop := okN x ∧ x ≠ [] ∧ val x < val g.1 ∧ (if g.2 = [] then Nat.gcd (val x) (val g.1) = 1 else val x ^ val g.2 % val g.1 = 1)
instance (g : Gp) (x : Bs) : Decidable (elG g x) := inferInstanceAs (Decidable (_ ∧ _))
theorem jy {g : Gp} (h : bP g = 0) : okN g.1 ∧ okN g.2 ∧ 2 ≤ val g.1 ∧ (g.2 = [] → dr g) ∧ (g.2 ≠ [] → 2 ≤ val g.2 ∧ (val g.1 - 1) % val g.2 = 0) := by
 unfold bP at h
 split at h
 ·rename_i h1
  split at h
  ·rename_i h2
   split at h
   ·rename_i h3; exact ⟨h1.1, h1.2, by omega, fun _ => ⟨h1.1, h2, h3.1, h3.2⟩, fun hn => absurd h2 hn⟩
   ·simp at h
  ·rename_i h2
   split at h
   ·simp at h
   ·rename_i h3; exact ⟨h1.1, h1.2, by omega, fun hn => absurd hn h2, fun _ => ⟨by omega, by omega⟩⟩
 ·simp at h
theorem yS {g : Gp} {x : Bs} (h : bP g = 0) (hq : g.2 ≠ []) : ji g x ↔ elG g x := by
 obtain ⟨h1, h2, h3, h4, h5⟩ := jy h
 rw [ji, elG, if_neg hq]
 exact ⟨fun ⟨_, _, a, _, b, c, d⟩ => ⟨a, b, c, d⟩, fun ⟨a, b, c, d⟩ => ⟨h1, h2, a, hq, b, c, d⟩⟩
theorem yR {g : Gp} {x : Bs} (h : bP g = 0) (hq : g.2 = []) : jh g x ↔ elG g x := by
 obtain ⟨h1, h2, h3, h4, h5⟩ := jy h
 rw [jh, elG, if_pos hq]
 exact ⟨fun ⟨_, a, b, c, d⟩ => ⟨a, b, c, d⟩, fun ⟨a, b, c, d⟩ => ⟨h4 hq, a, b, c, d⟩⟩
theorem nh {g : Gp} {x : Bs} {w : World} (hg : bP g = 0) (hm8 : g.1.length ≤ 8) :
  Cw 85 #[gV g, .string (S x)] w (.bool (decide (elG g x))) := by
 refine En [] [(0, gV g), (1, .string (S x))] Tryz.func85 rfl Tryz.ntmps85 rfl (Ac rfl (Ac rfl (An _))) Fn ?_
 refine Cs ?_
 refine Kh rfl (Oy rfl rfl) ?_
 intro b2
 refine Ka rfl (Nt (Cq (Cs (Kq rfl (Fa (q := 1) rfl rfl u26 rfl rfl) (Kq rfl (Ld rfl rfl .tc u22) ?_)))))
 refine Yr rfl (Nt ?_)
 refine Cd rfl (fun hc7 => ?_) (fun hc7 => ?_)
 ·(try simp only [sB] at hc7)
  have hq : g.2 ≠ [] := by simpa using hc7
  have hr := yS (x := x) hg hq
  refine Cs ?_
  refine Kq rfl (lda rfl rfl .tc u26 rfl ?_) ?_
  ·kernel_rfl
  refine Km rfl ?_
  refine Ku rfl (Oc rfl rfl (Kv fun w hS => sQ (g := g) (x := x) (by assumption))) ?_
  refine Ka rfl (Nt (Ce (Xb ?_)))
  exact R1 rfl rfl (by simp only [hr]; rfl)
 ·(try simp only [sB] at hc7)
  have hq : g.2 = [] := by simpa using hc7
  have hr := yR (x := x) hg hq
  refine Ck (Xa (Cs ?_))
  refine Kq rfl (lda rfl rfl .tc u26 rfl ?_) ?_
  ·kernel_rfl
  refine Km rfl ?_
  refine Ku rfl (Oc rfl rfl (Kv fun w hS => pi (g := g) (x := x))) ?_
  refine Ka rfl (Nt (Ce ?_))
  exact R1 rfl rfl (by simp only [hr]; rfl)
theorem gZ {g : Gp} {x : Bs} {w : World} (hm8 : g.1.length ≤ 8) :
  Cw 41 #[gV g, .string (S x)] w (.bool (decide (bP g = 0 ∧ elG g x))) := by
 refine En [] [(0, gV g), (1, .string (S x))] Tryz.func41 rfl Tryz.ntmps41 rfl (Ac rfl (Ac rfl (An _))) Fn ?_
 refine Cs ?_
 refine Kh rfl (Oy rfl rfl) ?_
 intro b2
 refine Ka rfl (Nt (Cs ?_))
 refine Kq rfl (lda rfl rfl .tc u26 rfl ?_) ?_
 ·kernel_rfl
 refine Ku rfl (Oc rfl rfl (Kv fun w hS => g5 (g := g))) ?_
 refine Yi rfl (Km rfl ?_)
 refine Nb 8 rfl (fun hg8 => ?_) (fun hg8 => ?_)
 ·(try simp only [sB] at hg8)
  refine Kq rfl (lda rfl rfl .tc u26 rfl ?_) ?_
  ·kernel_rfl
  refine Km rfl ?_
  refine Ku rfl (Oc rfl rfl (Kv fun w hS => nh (g := g) (x := x) (by assumption) (by assumption))) ?_
  refine Yp rfl (Ka rfl (Nt (Ce ?_)))
  exact R1 rfl rfl (by (simp [*, tup]; done))
 ·(try simp only [sB] at hg8)
  refine Kt rfl (Kt rfl (Kt rfl (Yq rfl (Ka rfl (Nt (Ce ?_))))))
  exact R1 rfl rfl (by (simp [*, tup]; done))
theorem m9 {g : Gp} {w : World} :
  Cw 171 #[gV g] w (.bool (decide (okN g.1 ∧ okN g.2))) := by
 refine En [] [(0, gV g)] Tryz.func171 rfl Tryz.ntmps171 rfl (Ac rfl (An _)) Fn ?_
 refine Cs ?_
 refine Kh rfl (Oy rfl rfl) ?_
 intro b1
 refine Ka rfl (Nt (Cs (Kq rfl (Fa (q := 0) rfl rfl u26 rfl rfl) (Kq rfl (Ld rfl rfl .tc u22) ?_))))
 refine Ku rfl (Oc rfl rfl (Kv fun w hS => aA (a := g.1))) ?_
 refine Km rfl ?_
 refine Nb 6 rfl (fun hg6 => ?_) (fun hg6 => ?_)
 ·(try simp only [sB] at hg6)
  refine Kq rfl (Fa (q := 1) rfl rfl u26 rfl rfl) (Kq rfl (Ld rfl rfl .tc u22) ?_)
  refine Ku rfl (Oc rfl rfl (Kv fun w hS => aA (a := g.2))) ?_
  refine Yp rfl (Ka rfl (Nt (Ce ?_)))
  exact R1 rfl rfl (by (simp [*, tup]; done))
 ·(try simp only [sB] at hg6)
  refine Kt rfl (Kt rfl (Kt rfl (Yq rfl (Ka rfl (Nt (Ce ?_))))))
  exact R1 rfl rfl (by (simp [*, tup]; done))
theorem uY {g : Gp} {x : Bs} {w : World} (hm8 : g.1.length ≤ 8) :
  Cw 124 #[gV g, .string (S x)] w (.bool (decide (ji g x))) := by
 refine En [] [(0, gV g), (1, .string (S x))] Tryz.func124 rfl Tryz.ntmps124 rfl (Ac rfl (Ac rfl (An _))) Fn ?_
 refine Cs ?_
 refine Kh rfl (Oy rfl rfl) ?_
 intro b2
 refine Ka rfl (Nt (Cq ?_))
 refine WC.joinP (σ := Unit) [(1, _), (2, _)] (fun gq => [(30, .bool (decide (¬ ((okN g.1 ∧ okN g.2) ∧ okN x ∧ g.2 ≠ [] ∧ x ≠ [] ∧ val x < val g.1))))]) (fun gq => True) (S2 rfl rfl) ?_ ?_
 ·skip
  refine Cg ?_
  refine Kq rfl (lda rfl rfl .tc u26 rfl ?_) ?_
  ·kernel_rfl
  refine Ku rfl (Oc rfl rfl (Kv fun w hS => m9 (g := g))) ?_
  refine Yt rfl (Km rfl ?_)
  refine Nb 10 rfl (fun hg10 => ?_) (fun hg10 => ?_)
  ·(try simp only [sB] at hg10)
   refine Kt rfl (Kt rfl (Kt rfl (Yp rfl (Km rfl (Kt rfl (Kt rfl (Kt rfl (Yp rfl (Km rfl (Kt rfl (Kt rfl (Yp rfl (Km rfl (Kt rfl (Kt rfl (Kt rfl (Kt rfl (Kt rfl (Yp rfl (Nn ?_))))))))))))))))))))
   refine WX.joinP (()) (S2 rfl rfl) (by refine (Sc ?_ (S0 _)) <;> ((refine ai rfl ?_; (try dsimp only); (simp [*]; done)))) ?_ (by (exact fun _ h => h))
   (try dsimp only)
   done
  ·(try simp only [sB] at hg10)
   refine Km rfl ?_
   refine Ku rfl (Oc rfl rfl (Kv fun w hS => aA (a := x))) ?_
   refine Yt rfl (Yq rfl (Km rfl ?_))
   refine Nb 15 rfl (fun hg15 => ?_) (fun hg15 => ?_)
   ·(try simp only [sB] at hg15)
    refine Kt rfl (Kt rfl (Kt rfl (Yp rfl (Km rfl (Kt rfl (Kt rfl (Yp rfl (Km rfl (Kt rfl (Kt rfl (Kt rfl (Kt rfl (Kt rfl (Yp rfl (Nn ?_)))))))))))))))
    refine WX.joinP (()) (S2 rfl rfl) (by refine (Sc ?_ (S0 _)) <;> ((refine ai rfl ?_; (try dsimp only); (simp [*]; done)))) ?_ (by (exact fun _ h => h))
    (try dsimp only)
    done
   ·(try simp only [sB] at hg15)
    refine Kq rfl (Fa (q := 1) rfl rfl u26 rfl rfl) (Kq rfl (Ld rfl rfl .tc u22) ?_)
    refine Ys rfl (Yq rfl (Km rfl ?_))
    refine Nb 20 rfl (fun hg20 => ?_) (fun hg20 => ?_)
    ·(try simp only [sB] at hg20)
     refine Kt rfl (Kt rfl (Yp rfl (Km rfl (Kt rfl (Kt rfl (Kt rfl (Kt rfl (Kt rfl (Yp rfl (Nn ?_))))))))))
     refine WX.joinP (()) (S2 rfl rfl) (by refine (Sc ?_ (S0 _)) <;> ((refine ai rfl ?_; (try dsimp only); (simp [*]; done)))) ?_ (by (exact fun _ h => h))
     (try dsimp only)
     done
    ·(try simp only [sB] at hg20)
     refine Km rfl (Ys rfl (Yq rfl (Km rfl ?_)))
     refine Nb 24 rfl (fun hg24 => ?_) (fun hg24 => ?_)
     ·(try simp only [sB] at hg24)
      refine Kt rfl (Kt rfl (Kt rfl (Kt rfl (Kt rfl (Yp rfl (Nn ?_))))))
      refine WX.joinP (()) (S2 rfl rfl) (by refine (Sc ?_ (S0 _)) <;> ((refine ai rfl ?_; (try dsimp only); (simp [*]; done)))) ?_ (by (exact fun _ h => h))
      (try dsimp only)
      done
     ·(try simp only [sB] at hg24)
      refine Km rfl (Kq rfl (Fa (q := 0) rfl rfl u26 rfl rfl) (Kq rfl (Ld rfl rfl .tc u22) ?_))
      refine Ku rfl (Oc rfl rfl (Kv fun w hS => jq (a := x) (b := g.1) (by exact hg15.2) (by exact hg10.1.2) (by have := hg15.1; omega))) ?_
      refine Yh rfl ?_
      refine Ns 29 rfl (v' := .bool (decide (val g.1 ≤ val x))) (congrArg Value.bool (by exact decide_eq_decide.2 (fb _ _))) ?_
      refine Yq rfl (Nn ?_)
      refine WX.joinP (()) (S2 rfl rfl) (by refine (Sc ?_ (S0 _)) <;> ((refine ai rfl ?_; (try dsimp only); (simp [*]; done)))) ?_ (by (exact fun _ h => h))
      (try dsimp only)
      done
 ·rintro _ hmeet; (try dsimp only at hmeet ⊢)
  refine Cd rfl (fun hc30 => ?_) (fun hc30 => ?_)
  ·(try simp only [sB] at hc30)
   have hr : ¬ ji g x := fun h => hc30 ⟨⟨h.1, h.2.1⟩, h.2.2.1, h.2.2.2.1, h.2.2.2.2.1, h.2.2.2.2.2.1⟩
   refine Cs (Ka rfl (Nt (Ce (Xb ?_))))
   exact R1 rfl rfl (by (simp [*, tup]; done))
  ·(try simp only [sB] at hc30)
   have hok : (okN g.1 ∧ okN g.2) ∧ okN x ∧ g.2 ≠ [] ∧ x ≠ [] ∧ val x < val g.1 := Decidable.not_not.1 hc30
   obtain ⟨⟨hm, hq⟩, hx, hq0, hx0, hlt⟩ := hok
   have hm0 : g.1 ≠ [] := fun h => by rw [h] at hlt; exact absurd hlt (Nat.not_lt_zero _)
   have he1 := mp hx hq hm hm0
   have hr : ji g x ↔ val x ^ val g.2 % val g.1 = 1 := ⟨fun h => h.2.2.2.2.2.2, fun h => ⟨hm, hq, hx, hq0, hx0, hlt, h⟩⟩
   refine Ck (Xa (Cs (Km rfl (Kq rfl (Fa (q := 1) rfl rfl u26 rfl rfl) (Kq rfl (Ld rfl rfl .tc u22) ?_)))))
   refine Kq rfl (Fa (q := 0) rfl rfl u26 rfl rfl) (Kq rfl (Ld rfl rfl .tc u22) ?_)
   refine Ku rfl (Oc rfl rfl (Kv fun w hS => (by have := u0 (w := w) (a := x) (x := g.2) (m := g.1) hm8; rw [he1] at this; exact this))) ?_
   refine Km rfl (Ye rfl (Ye rfl (Ka rfl (Ka rfl (Nt (Cs (Km rfl (Ys rfl ?_))))))))
   refine Ns 41 rfl (v' := .bool (decide (ji g x))) (congrArg Value.bool (by simp [hr, lB])) ?_
   refine Ka rfl (Nt (Ce ?_))
   exact R1 rfl rfl (by rfl)
def vX (x y : Zs) (q : Bs) : Zs := (cO x (dO (aF q) y).1).1
theorem tF {x y : Zs} {q : Bs} {p : Nat} {w : World} {ok : Nat → Prop} (hF1 : (Fact.sl (some ⟨p, 0, none⟩) [.string (S q)]).holds ok w) :
  Cw 195 #[.agg #[.bool x.1, .string (S x.2), .bool y.1, .string (S y.2)], .pointer (some ⟨p, 0, none⟩)] w (.agg #[.bool y.1, .string (S y.2), .bool (vX x y q).1, .string (S (vX x y q).2)]) := by
 refine En [Fact.sl (some ⟨p, 0, none⟩) [.string (S q)]] [(0, .agg #[.bool x.1, .string (S x.2), .bool y.1, .string (S y.2)]), (1, .pointer (some ⟨p, 0, none⟩))] Tryz.func195 rfl Tryz.ntmps195 rfl (Ac rfl (Ac rfl (An _))) (Fc (ah hF1) Fn) ?_
 refine Cs ?_
 refine Kh rfl (Oy rfl rfl) ?_
 intro b2
 refine Kh rfl (Oz [.bool false, .string (S []), .bool false, .string (S [])] rfl) ?_
 intro b3
 refine Nt (Cq ?_)
 refine Cf [0, 1, 2, 3, 4, 5, 6, 8, 9, 7, 10] [] [0, 1, 0, 0, 1, 0, 0, 0, 3, 1, 0] (by kernel_rfl) (by kernel_rfl) rfl ?_
 refine Kj rfl (ldt (a := some ⟨p, 0, none⟩) (q := 0) rfl rfl u22 rfl rfl) ?_
 refine Jv rfl rfl rfl rfl rfl (fun ext => Oc rfl rfl (Kv fun w hS => cC (a := q))) ?_
 refine Kj rfl (Jb rfl rfl rfl jJ (by kernel_rfl : _ = some 2) ?_) ?_
 ·omega
 refine Kj rfl (ldp rfl rfl .tc u37 rfl (by kernel_rfl : _ = some 2) (by rfl) (by rfl)) ?_
 refine Jv rfl rfl rfl rfl rfl (fun ext => Oc rfl rfl (Kv fun w hS => nR (x := aF q) (y := y))) ?_
 refine Kj rfl (Rm rfl rfl) (Kj rfl (Re rfl rfl rfl) ?_)
 refine Jf rfl rfl rfl rfl rfl (du rfl (v := (.agg #[.bool false, .string (S [])])) (cs := [.bool false, .string (S [])]) (by kernel_rfl) rfl) ?_
 intro b4
 refine WJ.st rfl rfl rfl rfl (lS rfl rfl rfl ?_ ?_ ?_) ?_
 ·kernel_rfl
 ·simp [Value.oneCell']
 ·rfl
 refine Kj rfl (Re rfl rfl rfl) (Kj rfl (Ra rfl rfl) ?_)
 refine WJ.nil ?_
 refine Nt (Cs ?_)
 refine Kq rfl (Jb rfl rfl rfl jJ (by kernel_rfl : _ = some 2) ?_) ?_
 ·omega
 refine Kq rfl (ldp rfl rfl .tc u37 rfl (by kernel_rfl : _ = some 2) (by rfl) (by rfl)) ?_
 refine Kq rfl (lda rfl rfl .tc u37 rfl ?_) ?_
 ·kernel_rfl
 refine Ku rfl (Oc rfl rfl (Kv fun w hS => lJ (x := x) (y := (dO (aF q) y).1))) ?_
 refine Km rfl (Ye rfl (Ye rfl ?_))
 refine Kh rfl (Oz [.bool false, .string (S [])] rfl) ?_
 intro b6
 refine Nu rfl rfl (Sa rfl rfl rfl .tc) ?_
 refine Ka rfl (Nt (Cs ?_))
 refine Kq rfl (Jb rfl rfl rfl jJ (by kernel_rfl : _ = some 2) ?_) ?_
 ·omega
 refine Kq rfl (ldp rfl rfl .tc u37 rfl (by kernel_rfl : _ = some 2) (by rfl) (by rfl)) ?_
 refine Kq rfl (lda rfl rfl .tc u37 rfl ?_) ?_
 ·kernel_rfl
 refine Kq rfl (Kb [[.bool false, .string (S [])], [.bool false, .string (S [])]] rfl rfl) ?_
 refine Nu rfl rfl (Sa rfl rfl rfl .tc) ?_
 refine Nt (Ce ?_)
 exact Rn rfl (.agg rfl .tc jJ rfl (by kernel_rfl) .nil) fun w' hS => ⟨by rfl, hS.below⟩
theorem pQ {x y : Int} {q : Nat} (hx : x.natAbs < Big) (hy : y.natAbs < Big) (hq : q < Big) (hm : q * y.natAbs < Big) (hs : (x - q * y).natAbs < Big) : vX (ofZ x) (ofZ y) (ae q) = ofZ (x - q * y) := by
 have hm' : ((q : Int) * y).natAbs < Big := by rw [Int.natAbs_mul, Int.natAbs_natCast]; exact hm
 rw [vX, ko hq, pF (by rw [Int.natAbs_natCast]; exact hq) hy hm', uF hx hm' hs]
set_option maxHeartbeats 6000000 in
theorem wY {a b : Bs} {w : World} {ok : Nat → Prop} (ha : okN a) (hb : okN b) (hb0 : b ≠ []) :
  Calls Tryz.prog 150 #[.string (S a), .string (S b)] w fun e w' => ∃ gx : Int × Zs, e = .returned (.tuple #[.string (S (ae (Nat.gcd (val a) (val b)))), zV (ofZ gx.1), zV gx.2, .int .i64 0]) ∧ (((val a : Int) * gx.1) % (val b) = (Nat.gcd (val a) (val b) : Int) % (val b) ∧ (Nat.gcd (val a) (val b) = 1 → 0 ≤ gx.1) ∧ gx.1.natAbs < Big) ∧ Below w.heap.size w w' ∧ ∀ x ∈ ([] : List Fact), x.holds (fun b => ok b ∨ w.heap.size ≤ b) w' := by
 have hvb : 0 < val b := Nat.pos_of_ne_zero fun e => hb0 ((bg hb.2).1 e)
 have hbB := bv hb; have haB := bv ha
 have hB1 : 1 < Big := Nat.lt_of_lt_of_le (by decide) gz
 refine enter (S := St (fun b => ok b ∨ w.heap.size ≤ b) w [] ([])) (L := [(0, .string (S a)), (1, .string (S b))]) Tryz.func150 rfl Tryz.ntmps150 rfl (Ac rfl (Ac rfl (An _))) (St.start (fun _ h => Or.inr h) (nB Fn)) ?_
 refine Cs (Ka rfl ?_)
 refine Kh rfl (Oz [.bool false, .string (S [])] rfl) ?_
 intro b5
 refine Kh rfl (Oz [.bool false, .string (S [])] rfl) ?_
 intro b6
 refine Ka rfl (Nt (Cq (Cs (Km rfl ?_))))
 refine Ku rfl (Oc rfl rfl (Kv fun w hS => av)) ?_
 refine Ns 23 rfl (v' := .bool true) (by rw [decide_eq_true ha]) ?_
 refine Yt rfl (Km rfl (Km rfl ?_))
 refine Ku rfl (Oc rfl rfl (Kv fun w hS => av)) ?_
 refine Ns 27 rfl (v' := .bool true) (by rw [decide_eq_true hb]) ?_
 refine Yt rfl (Yq rfl (Nt ?_))
 refine Cd rfl (fun h => by cases h) (fun _ => ?_)
 refine Ck (Xa (Cq (Cs (Km rfl (Ys rfl (Nt ?_))))))
 refine Cd rfl (fun hc33 => by exfalso; (try simp only [sB] at hc33); simp_all) (fun hc33 => ?_)
 (try simp only [sB] at hc33)
 refine Ck (Xa (Cs (Km rfl (Km rfl (Kq rfl (Kb [[.string (S [])], [.string (S [])]] rfl rfl) ?_)))))
 refine Kh rfl (Oz [.string (S []), .string (S [])] rfl) ?_
 intro b8
 refine Nu rfl rfl (Sa rfl rfl rfl .tc) ?_
 refine Nt (Cs ?_)
 refine Ku rfl (Oc rfl rfl (Kv fun w hS => jC (n := 1) (by omega) (by omega))) ?_
 refine Ku rfl (Oc rfl rfl (Kv fun w hS => jC (n := 0) (by omega) (by omega))) ?_
 refine Kq rfl (Kb [[.bool false, .string (S [])], [.bool false, .string (S [])]] rfl rfl) ?_
 refine Ku rfl (Oc rfl rfl (Kv fun w hS => jC (n := 0) (by omega) (by omega))) ?_
 refine Ku rfl (Oc rfl rfl (Kv fun w hS => jC (n := 1) (by omega) (by omega))) ?_
 refine Kq rfl (Kb [[.bool false, .string (S [])], [.bool false, .string (S [])]] rfl rfl) ?_
 refine Kh rfl (Oz [.bool false, .string (S []), .bool false, .string (S [])] rfl) ?_
 intro b9
 refine Kh rfl (Oz [.bool false, .string (S []), .bool false, .string (S [])] rfl) ?_
 intro b10
 refine Nu rfl rfl (Sa rfl rfl rfl .tc) ?_
 refine Nu rfl rfl (Sa rfl rfl rfl .tc) ?_
 refine Nt (Cq (Cb ?_))
 refine Lo (σ := Nat × Nat × Int × Int × Int × Int) [(0, _), (1, _), (5, _), (6, _), (8, _), (9, _), (10, _)] (fun gq => []) (fun gq => Euc (val a) (val b) gq.1 gq.2.1 gq.2.2.1 gq.2.2.2.1 gq.2.2.2.2.1 gq.2.2.2.2.2 ∧ gq.1 < Big ∧ gq.2.1 < Big ∧ gq.2.2.1.natAbs ≤ val b ∧ gq.2.2.2.1.natAbs ≤ val b ∧ gq.2.2.2.2.1.natAbs ≤ max (val a) 1 ∧ gq.2.2.2.2.2.natAbs ≤ max (val a) 1) (fun gq => gq.2.1) (fun gq => [⟨some b10, [.bool (ofZ gq.2.2.2.2.1).1, .string (S (ofZ gq.2.2.2.2.1).2), .bool (ofZ gq.2.2.2.2.2).1, .string (S (ofZ gq.2.2.2.2.2).2)], 220⟩, ⟨some b9, [.bool (ofZ gq.2.2.1).1, .string (S (ofZ gq.2.2.1).2), .bool (ofZ gq.2.2.2.1).1, .string (S (ofZ gq.2.2.2.1).2)], 220⟩, ⟨some b8, [.string (S (ae gq.1)), .string (S (ae gq.2.1))], 219⟩, ⟨some b6, [.bool false, .string (S [])], 37⟩, ⟨some b5, [.bool false, .string (S [])], 37⟩]) (fun gq => []) (val a, val b, 1, 0, 0, 1) (S7 rfl rfl rfl rfl rfl rfl rfl) (S0 _) (by (try dsimp only); exact ⟨q5 _ _, haB, hbB, by omega, by omega, by omega, by omega⟩) (by exact fun w h => by rw [dp ha, dp hb]; exact h) ?_
 rintro ⟨r0, r1, x0, x1, y0, y1⟩ hinv1; (try dsimp only at hinv1 ⊢)
 obtain ⟨hE, hr0, hr1, hx0, hx1, hy0, hy1⟩ := hinv1
 refine Cq (Cs ?_)
 refine Kq rfl (Jb rfl rfl rfl rM (by kernel_rfl : _ = some 1) ?_) ?_
 ·omega
 refine Kq rfl (Ld rfl rfl .tc u22) ?_
 refine Yr rfl (Nt ?_)
 refine Cd rfl (fun hc48 => ?_) (fun hc48 => ?_)
 ·(try simp only [sB] at hc48)
  have hr1p : 0 < r1 := by
   rcases Nat.eq_zero_or_pos r1 with h | h
   ·subst h; simp [dR] at hc48
   ·exact h
  have hE' := nC hE hr1p
  obtain ⟨hm1, hm2⟩ := wa hE hr1p
  obtain ⟨hl1, hl2⟩ := tJ hE' hr1p
  have hdv := wk hr0 hr1 hr1p
  have hdl := Nat.div_le_self r0 r1
  have hml := Nat.mod_lt r0 hr1p
  have hex := pQ (x := x0) (y := x1) (q := r0 / r1) (by omega) (by omega) (by omega) (by omega) (by omega)
  have hey := pQ (x := y0) (y := y1) (q := r0 / r1) (by omega) (by omega) (by omega) (by omega) (by omega)
  refine Ck (Xa (Cb (Cs ?_)))
  refine Kq rfl (Jb rfl rfl rfl rM (by kernel_rfl : _ = some 1) ?_) ?_
  ·omega
  refine Kq rfl (Ld rfl rfl .tc u22) ?_
  refine Kq rfl (Jb rfl rfl rfl rM (by kernel_rfl : _ = some 1) ?_) ?_
  ·omega
  refine Kq rfl (Ld rfl rfl .tc u22) ?_
  refine Ku rfl (Oc rfl rfl (Kv fun w hS => (by have := eI (w := w) (a := ae r0) (b := ae r1); rw [hdv] at this; exact this))) ?_
  refine Km rfl (Ye rfl (Ye rfl (Ye rfl ?_)))
  refine Kh rfl (Oa rfl (v := (.string (S []))) (cs := [.string (S [])]) (by kernel_rfl) rfl) ?_
  intro b11
  refine Ng rfl rfl (st rfl rfl rfl .tc (by kernel_rfl) rfl ?_ (by (simp only [List.set_cons_zero, List.set_cons_succ]; rfl))) ?_
  ·decide
  intro _
  refine Ka rfl (Ka rfl (Nt (Cs (Kq rfl (cE rfl rfl rfl) (Ka rfl (Nt (Cs ?_)))))))
  refine Kq rfl (Jb rfl rfl rfl rM (by kernel_rfl : _ = some 1) ?_) ?_
  ·omega
  refine Kq rfl (Ld rfl rfl .tc u22) ?_
  refine Km rfl (Kq rfl (Kb [[.string (S [])], [.string (S [])]] rfl rfl) ?_)
  refine Nu rfl rfl (Sa rfl rfl rfl .tc) ?_
  refine Nt ?_
  refine Cf [0, 1, 2, 3, 4, 5] [6, 7] [0, 0, 1, 0, 0, 1, 2, 2] (by kernel_rfl) (by kernel_rfl) rfl ?_
  refine Kj rfl (Rm rfl rfl) ?_
  refine Kj rfl (lda rfl rfl .tc jJ rfl ?_) ?_
  ·kernel_rfl
  refine Jv rfl rfl rfl rfl rfl (fun ext => aL rfl rfl rfl (by kernel_rfl) rfl (Kv fun w hS => tF (x := ofZ x0) (y := ofZ x1) (q := ae (r0 / r1)) (p := b11) (by (exact hS.os)))) ?_
  refine Kj rfl (Rm rfl rfl) ?_
  refine Kj rfl (lda rfl rfl .tc jJ rfl ?_) ?_
  ·kernel_rfl
  refine Jv rfl rfl rfl rfl rfl (fun ext => aL rfl rfl rfl (by kernel_rfl) rfl (Kv fun w hS => tF (x := ofZ y0) (y := ofZ y1) (q := ae (r0 / r1)) (p := b11) (by (exact hS.os)))) ?_
  refine WJ.nil ?_
  refine Nu rfl rfl (Sa rfl rfl rfl .tc) ?_
  refine Nu rfl rfl (Sa rfl rfl rfl .tc) ?_
  refine Nn (Xd ?_)
  refine Lx ((r1, r0 % r1, x1, x0 - (r0 / r1 : Nat) * x1, y1, y0 - (r0 / r1 : Nat) * y1)) (by (try dsimp only); exact hml) (S7 rfl rfl rfl rfl rfl rfl rfl) (S0 _) ?_ (by rw [← hex, ← hey]; exact aq)
  (try dsimp only)
  exact ⟨hE', hr1, by omega, hx1, hl1, hy1, by omega⟩
 ·(try simp only [sB] at hc48)
  refine Cx (Xc (Xc (Xe ?_)))
  obtain rfl : r1 = 0 := by
   rcases Nat.eq_zero_or_pos r1 with h | h
   ·exact h
   ·exfalso; have : ae r1 ≠ [] := by rw [ne_eq, bC]; omega
    simp_all
  obtain rfl : r0 = Nat.gcd (val a) (val b) := by rw [← hE.gc, Nat.gcd_zero_right]
  obtain ⟨gd, hg⟩ : ∃ gd, gd = Nat.gcd (val a) (val b) := ⟨_, rfl⟩
  have hg0 : 0 < gd := by rw [hg]; exact Nat.gcd_pos_of_pos_right _ hvb
  have hda : val a = val a / gd * gd := by rw [Nat.div_mul_cancel]; rw [hg]; exact Nat.gcd_dvd_left _ _
  have hdb : val b = val b / gd * gd := by rw [Nat.div_mul_cancel]; rw [hg]; exact Nat.gcd_dvd_right _ _
  have he0 := hE.e0
  rw [← hg] at he0 hr0 ⊢
  have hbl := Nat.div_le_self (val b) gd; have hal := Nat.div_le_self (val a) gd
  have hdvb : fM b (ae gd) = ((ae (val b / gd), ae (val b % gd)), 0) := by rw [e8 hb (au (by omega)) (by rw [ne_eq, bC]; omega), af]
  have hdva : fM a (ae gd) = ((ae (val a / gd), ae (val a % gd)), 0) := by rw [e8 ha (au (by omega)) (by rw [ne_eq, bC]; omega), af]
  have key : ∀ (X : Int) (q : Int), X * val a = x0 * val a + q * val b → ((val a : Int) * X) % (val b) = (gd : Int) % (val b) := fun X q h => by
   have e : (val a : Int) * X = gd + val b * (q - y0) := by
    rw [Int.mul_comm (val a : Int) X, h, ← he0, Int.mul_sub, Int.mul_comm q, Int.mul_comm x0]; omega
   rw [e, Int.add_mul_emod_self_left]
  refine Xa (Cs ?_)
  refine Kq rfl (Jb rfl rfl rfl rM (by kernel_rfl : _ = some 1) ?_) ?_
  ·omega
  refine Kq rfl (Ld rfl rfl .tc u22) ?_
  refine Ka rfl (Nt ?_)
  refine WC.joinO (σ := Int × Zs) [(5, _), (6, _), (9, _), (10, _), (15, _)] (fun gq => []) (fun gq => ((val a : Int) * gq.1) % (val b) = (gd : Int) % (val b) ∧ (gd = 1 → 0 ≤ gq.1) ∧ gq.1.natAbs < Big) (fun gq => [⟨some b10, [.bool gq.2.1, .string (S gq.2.2), .bool (ofZ y1).1, .string (S (ofZ y1).2)], 220⟩, ⟨some b9, [.bool (ofZ gq.1).1, .string (S (ofZ gq.1).2), .bool (ofZ x1).1, .string (S (ofZ x1).2)], 220⟩, ⟨some b6, [.bool false, .string (S [])], 37⟩, ⟨some b5, [.bool false, .string (S [])], 37⟩]) (fun gq => []) (S5 rfl rfl rfl rfl rfl) ?_ ?_
  ·skip
   refine Cs ?_
   refine Kq rfl (Jb rfl rfl rfl jJ (by kernel_rfl : _ = some 2) ?_) ?_
   ·omega
   (refine Kq rfl (cU rfl rfl u37 rfl (by kernel_rfl) (by (try simp only [sN, Int.reduceToNat, Nat.reduceAdd, Nat.reduceMul, Nat.reduceSub]); rfl)) ?_)
   refine Kq rfl (Ld rfl rfl .tc u4) ?_
   refine Nt ?_
   refine Cd rfl (fun hc73 => ?_) (fun hc73 => ?_)
   ·(try simp only [sB] at hc73)
    have hneg : x0 < 0 := by rw [cJ] at hc73; simpa using hc73
    have aux : ∀ u : Nat, u ≤ val b → (x0 + (u : Int)).natAbs < Big := fun u hu => by omega
    have hadx : dw (ofZ x0) (ofZ ((val b / gd : Nat) : Int)) = (ofZ (x0 + (val b / gd : Nat)), 0) := by
     rw [qf (by omega) (by rw [Int.natAbs_natCast]; exact Nat.lt_of_le_of_lt hbl hbB), if_pos (aux _ hbl)]
    refine Cs (Km rfl (Km rfl ?_))
    refine Ku rfl (Oc rfl rfl (Kv fun w hS => (by have := eI (w := w) (a := b) (b := ae gd); rw [hdvb] at this; exact this))) ?_
    refine Km rfl (Ye rfl (Ye rfl (Ye rfl (Ka rfl (Ka rfl (Ka rfl (Nt (Cs (Km rfl (Km rfl ?_))))))))))
    refine Ku rfl (Oc rfl rfl (Kv fun w hS => (by have := eI (w := w) (a := a) (b := ae gd); rw [hdva] at this; exact this))) ?_
    refine Km rfl (Ye rfl (Ye rfl (Ye rfl (Ka rfl (Ka rfl (Ka rfl (Nt (Cq ?_))))))))
    refine WC.ordersP [(5, _), (6, _), (9, _), (10, _), (15, _), (19, _)] ([⟨some b10, [.bool (ofZ y0).1, .string (S (ofZ y0).2), .bool (ofZ y1).1, .string (S (ofZ y1).2)], 220⟩, ⟨some b9, [.bool (ofZ (x0 + (val b / gd : Nat))).1, .string (S (ofZ (x0 + (val b / gd : Nat))).2), .bool (ofZ x1).1, .string (S (ofZ x1).2)], 220⟩, ⟨some b8, [.string (S (ae gd)), .string (S (ae 0))], 219⟩, ⟨some b6, [.bool false, .string (S [])], 37⟩, ⟨some b5, [.bool false, .string (S [])], 37⟩]) ([]) (S6 rfl rfl rfl rfl rfl rfl) [[0, 1, 2, 3, 4, 5, 6, 7, 8, 9], [0, 1, 2, 3, 4, 5, 6, 8, 7, 9], [0, 1, 2, 3, 4, 5, 6, 8, 9, 7], [0, 1, 2, 3, 4, 5, 7, 6, 8, 9], [0, 2, 1, 3, 4, 5, 6, 7, 8, 9], [0, 2, 1, 3, 4, 5, 6, 8, 7, 9], [0, 2, 1, 3, 4, 5, 6, 8, 9, 7], [0, 2, 1, 3, 4, 5, 7, 6, 8, 9], [0, 2, 3, 1, 4, 5, 6, 7, 8, 9], [0, 2, 3, 1, 4, 5, 6, 8, 7, 9], [0, 2, 3, 1, 4, 5, 6, 8, 9, 7], [0, 2, 3, 1, 4, 5, 7, 6, 8, 9], [2, 0, 1, 3, 4, 5, 6, 7, 8, 9], [2, 0, 1, 3, 4, 5, 6, 8, 7, 9], [2, 0, 1, 3, 4, 5, 6, 8, 9, 7], [2, 0, 1, 3, 4, 5, 7, 6, 8, 9], [2, 0, 3, 1, 4, 5, 6, 7, 8, 9], [2, 0, 3, 1, 4, 5, 6, 8, 7, 9], [2, 0, 3, 1, 4, 5, 6, 8, 9, 7], [2, 0, 3, 1, 4, 5, 7, 6, 8, 9], [2, 3, 0, 1, 4, 5, 6, 7, 8, 9], [2, 3, 0, 1, 4, 5, 6, 8, 7, 9], [2, 3, 0, 1, 4, 5, 6, 8, 9, 7], [2, 3, 0, 1, 4, 5, 7, 6, 8, 9]] (by kernel_rfl) (by kernel_rfl) (by simp only [bK, List.map, List.getElem?_cons_zero, List.getElem?_cons_succ]; rfl) ?_ ?_
    ·repeat' (first | exact AllL.nil | refine AllL.cons ?_ ?_)
     all_goals (repeat (first | (refine Km rfl ?_) | (refine Kq rfl (Jb rfl rfl rfl jJ (by kernel_rfl : _ = some 2) ?_) ?_; focus omega) | (refine Kq rfl (ldp rfl rfl .tc u37 rfl (by kernel_rfl : _ = some 2) (by rfl) (by rfl)) ?_) | (refine Kh rfl (Oc rfl rfl (Kv fun w hS => (by have := cC (w := w) (a := ae (val b / gd)); rw [ko (Nat.lt_of_le_of_lt hbl hbB)] at this; exact this))) ?_; intro _) | (refine Kh rfl (Oc rfl rfl (Kv fun w hS => (by have := rH (w := w) (x := ofZ x0) (y := ofZ ((val b / gd : Nat) : Int)); rw [hadx] at this; exact this))) ?_; intro _) | (refine Ye rfl ?_) | (refine Ng rfl rfl (stp rfl rfl rfl .tc (by kernel_rfl) (by simp [Value.oneCell']) (by (simp; done)) rfl) ?_; intro _)))
     all_goals (refine Nn ?_; exact WX.midP () (S6 rfl rfl rfl rfl rfl rfl) (by (exact fun _ h => h)))
    refine Xa ?_
    refine WC.ordersP [(5, _), (6, _), (9, _), (10, _), (15, _)] ([⟨some b10, [.bool (cO (ofZ y0) (ofZ ((val a / gd : Nat) : Int))).1.1, .string (S (cO (ofZ y0) (ofZ ((val a / gd : Nat) : Int))).1.2), .bool (ofZ y1).1, .string (S (ofZ y1).2)], 220⟩, ⟨some b9, [.bool (ofZ (x0 + (val b / gd : Nat))).1, .string (S (ofZ (x0 + (val b / gd : Nat))).2), .bool (ofZ x1).1, .string (S (ofZ x1).2)], 220⟩, ⟨some b8, [.string (S (ae gd)), .string (S (ae 0))], 219⟩, ⟨some b6, [.bool false, .string (S [])], 37⟩, ⟨some b5, [.bool false, .string (S [])], 37⟩]) ([]) (S5 rfl rfl rfl rfl rfl) [[0, 1, 2, 3, 4, 5, 6, 7, 8, 9], [0, 1, 2, 3, 4, 5, 6, 8, 7, 9], [0, 1, 2, 3, 4, 5, 6, 8, 9, 7], [0, 1, 2, 3, 4, 5, 7, 6, 8, 9], [0, 2, 1, 3, 4, 5, 6, 7, 8, 9], [0, 2, 1, 3, 4, 5, 6, 8, 7, 9], [0, 2, 1, 3, 4, 5, 6, 8, 9, 7], [0, 2, 1, 3, 4, 5, 7, 6, 8, 9], [0, 2, 3, 1, 4, 5, 6, 7, 8, 9], [0, 2, 3, 1, 4, 5, 6, 8, 7, 9], [0, 2, 3, 1, 4, 5, 6, 8, 9, 7], [0, 2, 3, 1, 4, 5, 7, 6, 8, 9], [2, 0, 1, 3, 4, 5, 6, 7, 8, 9], [2, 0, 1, 3, 4, 5, 6, 8, 7, 9], [2, 0, 1, 3, 4, 5, 6, 8, 9, 7], [2, 0, 1, 3, 4, 5, 7, 6, 8, 9], [2, 0, 3, 1, 4, 5, 6, 7, 8, 9], [2, 0, 3, 1, 4, 5, 6, 8, 7, 9], [2, 0, 3, 1, 4, 5, 6, 8, 9, 7], [2, 0, 3, 1, 4, 5, 7, 6, 8, 9], [2, 3, 0, 1, 4, 5, 6, 7, 8, 9], [2, 3, 0, 1, 4, 5, 6, 8, 7, 9], [2, 3, 0, 1, 4, 5, 6, 8, 9, 7], [2, 3, 0, 1, 4, 5, 7, 6, 8, 9]] (by kernel_rfl) (by kernel_rfl) (by simp only [bK, List.map, List.getElem?_cons_zero, List.getElem?_cons_succ]; rfl) ?_ ?_
    ·repeat' (first | exact AllL.nil | refine AllL.cons ?_ ?_)
     all_goals (repeat (first | (refine Km rfl ?_) | (refine Kq rfl (Jb rfl rfl rfl jJ (by kernel_rfl : _ = some 2) ?_) ?_; focus omega) | (refine Kq rfl (ldp rfl rfl .tc u37 rfl (by kernel_rfl : _ = some 2) (by rfl) (by rfl)) ?_) | (refine Kh rfl (Oc rfl rfl (Kv fun w hS => (by have := cC (w := w) (a := ae (val a / gd)); rw [ko (Nat.lt_of_le_of_lt hal haB)] at this; exact this))) ?_; intro _) | (refine Kh rfl (Oc rfl rfl (Kv fun w hS => lJ (x := ofZ y0) (y := ofZ ((val a / gd : Nat) : Int)))) ?_; intro _) | (refine Ye rfl ?_) | (refine Ng rfl rfl (stp rfl rfl rfl .tc (by kernel_rfl) (by simp [Value.oneCell']) (by (simp; done)) rfl) ?_; intro _)))
     all_goals (refine Nn ?_; exact WX.midP () (S5 rfl rfl rfl rfl rfl) (by (exact fun _ h => h)))
    refine WX.joinO (((x0 + (val b / gd : Nat)), (cO (ofZ y0) (ofZ ((val a / gd : Nat) : Int))).1)) (S5 rfl rfl rfl rfl rfl) (S0 _) ?_ (by (exact aq))
    (try dsimp only)
    exact ⟨key _ (val a / gd : Nat) (by
     rw [Int.add_mul]; congr 1
     have e : val b / gd * val a = val a / gd * val b := by
      conv => lhs; rw [hda]
      conv => rhs; rw [hdb]
      ac_rfl
     exact_mod_cast e), fun h => by rw [h, Nat.div_one]; omega, aux _ hbl⟩
   ·(try simp only [sB] at hc73)
    have hnn : 0 ≤ x0 := by rw [cJ] at hc73; simpa using hc73
    refine Ck ?_
    refine WX.joinO ((x0, ofZ y0)) (S5 rfl rfl rfl rfl rfl) (S0 _) ?_ (by (exact aq))
    (try dsimp only)
    exact ⟨key _ 0 (by omega), fun _ => hnn, by omega⟩
  ·rintro ⟨X, Y⟩ hmeet; (try dsimp only at hmeet ⊢)
   refine Cq ?_
   refine WC.free (K := [⟨some b10, [.bool Y.1, .string (S Y.2), .bool (ofZ y1).1, .string (S (ofZ y1).2)], 220⟩, ⟨some b9, [.bool (ofZ X).1, .string (S (ofZ X).2), .bool (ofZ x1).1, .string (S (ofZ x1).2)], 220⟩]) (fs0 := []) [0, 1, 2, 5, 6, 3, 4] [7, 8] [0, 0, 0, 0, 0, 0, 1, 2, 2] (by kernel_rfl) (by kernel_rfl) rfl ?_
   refine Kj rfl (Rm rfl rfl) ?_
   refine Kj rfl (Jb rfl rfl rfl jJ (by kernel_rfl : _ = some 2) ?_) ?_
   ·omega
   refine Kj rfl (ldp rfl rfl .tc u37 rfl (by kernel_rfl : _ = some 2) (by rfl) (by rfl)) ?_
   refine Kj rfl (Ra rfl rfl) ?_
   refine WJ.st rfl rfl rfl rfl (lS rfl rfl rfl ?_ ?_ ?_) ?_
   ·kernel_rfl
   ·simp [Value.oneCell']
   ·rfl
   refine Kj rfl (Jb rfl rfl rfl jJ (by kernel_rfl : _ = some 2) ?_) ?_
   ·omega
   refine Kj rfl (ldp rfl rfl .tc u37 rfl (by kernel_rfl : _ = some 2) (by rfl) (by rfl)) ?_
   refine WJ.nil ?_
   refine Nu rfl rfl (Sa rfl rfl rfl .tc) ?_
   refine Ka rfl (Nt (Ce ?_))
   exact Rn rfl (.tmp rfl (.agg rfl .tc u37 rfl (by kernel_rfl) (.agg rfl .tc u37 rfl (by kernel_rfl) (.tmp rfl .nil)))) fun w' hS => ⟨(X, Y), rfl, hmeet, hS.below, fun _ h => by cases h⟩
def mA (a m : Bs) : Bs × Int := if cQ [a] [m] = 0 then (if Nat.gcd (val a) (val m) = 1 then (ae (gI (val a) (val m)), 0) else ([], 9)) else ([], cQ [a] [m])
theorem zH {a m : Bs} (h : cQ [a] [m] = 0) : okN a ∧ okN m ∧ m ≠ [] := by
 obtain ⟨h1, h2⟩ := tU h
 exact ⟨h1 a (by simp), h1 m (by simp), fun e => h2 (by simp [e])⟩
theorem jw (a m : Nat) : Nat.gcd (a % m) m = Nat.gcd a m := by rw [Nat.gcd_comm, kn]
theorem ns {a m : Nat} {X : Int} (hm : 0 < m) (h : ((a : Int) * X) % m = (1 : Int) % m) (h0 : 0 ≤ X) : gI a m = X.natAbs % m := by
 obtain ⟨x, rfl⟩ : ∃ x : Nat, X = x := ⟨X.toNat, by omega⟩
 rw [Int.natAbs_natCast]
 apply vK (Nat.mod_lt _ hm)
 rw [mmr]
 exact_mod_cast h
theorem xR {a m : Bs} {w : World} :
  Cw 89 #[.string (S a), .string (S m)] w (NE (mA a m)) := by
 refine En [] [(0, .string (S a)), (1, .string (S m))] Tryz.func89 rfl Tryz.ntmps89 rfl (Ac rfl (Ac rfl (An _))) Fn ?_
 refine Cs (Ka rfl (Ka rfl (Nt (Cq (Cs (Km rfl ?_))))))
 refine Kh rfl (aR rfl rfl u31 (by kernel_rfl : _ = some (some (.string (S [])), 1, 16)) rfl (by simp only [List.map]; rfl) rfl rfl ?_ (by decide)) ?_
 ·simp [Value.cells]
 intro b12
 refine Km rfl ?_
 refine Kh rfl (aR rfl rfl u31 (by kernel_rfl : _ = some (some (.string (S [])), 1, 16)) rfl (by simp only [List.map]; rfl) rfl rfl ?_ (by decide)) ?_
 ·simp [Value.cells]
 intro b14
 refine Ku rfl (Oc rfl rfl (Kv fun w hS => mJ (l := [a]) (ms := [m]) (by (exact hS.os)) (by (exact hS.os)) (by (simp <;> omega)) (by (simp <;> omega)) (by (simp <;> omega)) (by (simp <;> omega)))) ?_
 refine Ka rfl (Nt (Cs (Km rfl (Yj rfl (Nt ?_)))))
 refine Cd rfl (fun hc17 => ?_) (fun hc17 => ?_)
 ·(try simp only [sB] at hc17)
  have hr : mA a m = ([], cQ [a] [m]) := by rw [mA, if_neg (by simpa using hc17)]
  refine Cs (Km rfl (Ka rfl (Ka rfl (Nt (Ce (Xb ?_))))))
  exact R2 rfl rfl rfl (by rw [hr]; rfl)
 ·(try simp only [sB] at hc17)
  have h0 : cQ [a] [m] = 0 := by simpa using hc17
  obtain ⟨ha, hm, hm0⟩ := zH h0
  have hp := nS hm hm0
  have hmB := bv hm
  have hak : okN (ae (val a % val m)) := au (by have := Nat.mod_lt (val a) hp; omega)
  have hvk : val (ae (val a % val m)) = val a % val m := af _
  refine Ck (Xa (Cs (Km rfl (Km rfl ?_))))
  refine Ku rfl (Oc rfl rfl (Kv fun w hS => fW (a := a) (m := m) (by exact ha) (by exact hm) (by exact hm0))) ?_
  refine Km rfl ?_
  refine Kh rfl (Oc rfl rfl (my fun w hS => wY (a := ae (val a % val m)) (b := m) (by exact hak) (by exact hm) (by exact hm0))) ?_
  rintro ⟨X24, Y24⟩
  refine WL.pu ?_
  intro hg24; (try dsimp only [List.cons_append, List.nil_append] at hg24 ⊢)
  refine Km rfl (Ye rfl (Ye rfl (Ye rfl (Ye rfl ?_))))
  refine Kh rfl (Oz [.bool false, .string (S [])] rfl) ?_
  intro b8
  refine Kh rfl (Oz [.bool false, .string (S [])] rfl) ?_
  intro b9
  refine Ka rfl ?_
  refine Nu rfl rfl (Sa rfl rfl rfl .tc) ?_
  refine Nu rfl rfl (Sa rfl rfl rfl .tc) ?_
  refine Ka rfl (Nt (Cq (Cs (Km rfl (Yj rfl (Nt ?_))))))
  refine Cd rfl (fun hc30 => by exfalso; (try simp only [sB] at hc30); exact hc30 trivial) (fun hc30 => ?_)
  (try simp only [sB] at hc30)
  refine Ck (Xa (Cq (Cs (Km rfl (Yr rfl (Nt ?_))))))
  refine Cd rfl (fun hc33 => ?_) (fun hc33 => ?_)
  ·(try simp only [sB] at hc33)
   have hr : mA a m = ([], 9) := by
    have h1 : ¬ Nat.gcd (val a) (val m) = 1 := fun h => by
     rw [hvk, jw, h, df] at hc33; exact hc33 rfl
    rw [mA, if_pos h0, if_neg h1]
   refine Cs (Ka rfl (Ka rfl (Nt (Ce (Xb ?_)))))
   exact R2 rfl rfl rfl (by rw [hr]; rfl)
  ·(try simp only [sB] at hc33)
   have hg1 : Nat.gcd (val a) (val m) = 1 := by
    rw [hvk, jw] at hc33; exact lB.1 (by simpa using hc33)
   obtain ⟨hq1, hq2, hq3⟩ := hg24
   rw [hvk, jw, hg1] at hq1
   rw [hvk, jw] at hq2
   have hiv := ns hp hq1 (hq2 hg1)
   rw [tf] at hiv
   have hr : mA a m = (ae (gI (val a) (val m)), 0) := by rw [mA, if_pos h0, if_pos hg1]
   have hXa : (ofZ X24).2 = ae X24.natAbs := by rw [cJ]
   refine Ck (Xa (Cs (Kq rfl (Fa (q := 1) rfl rfl u37 rfl rfl) (Kq rfl (Ld rfl rfl .tc u22) ?_))))
   refine Km rfl ?_
   refine Ku rfl (Oc rfl rfl (Kv fun w hS => fW (a := (ofZ X24).2) (m := m) (by rw [hXa]; exact au hq3) (by exact hm) (by exact hm0))) ?_
   refine Ka rfl (Ka rfl (Nt (Ce ?_)))
   exact R2 rfl rfl rfl (by rw [hr, hiv, hXa, af]; rfl)
theorem vL {a m : Bs} (ha : okN a) (hm : okN m) (hm0 : m ≠ []) : mA a m = if Nat.gcd (val a) (val m) = 1 then (ae (gI (val a) (val m)), 0) else ([], 9) := by
 rw [mA, if_pos (kz (by intro x hx; simp at hx; rcases hx with rfl | rfl <;> assumption) (by simpa using fun h => hm0 h))]
abbrev zc (z : Zs) : List Value := [.bool z.1, .string (S z.2)]
abbrev aW (l : List Zs) : List Value := l.flatMap zc
def fN (g : Gp) (l : List Bs) (es : List Zs) (same : Bool) : Int :=
 if ¬ (∀ x ∈ l, okN x) then 3 else if ¬ (∀ x ∈ es, okZ x) then 3 else if bP g ≠ 0 then bP g else if same = false then 6 else if ¬ (∀ x ∈ l, elG g x) then 13 else 0
theorem rg {g : Gp} {l : List Bs} {es : List Zs} {same : Bool} {a b : Option Addr} {c d : Nat} {w : World} {ok : Nat → Prop} (hF1 : (Fact.sl a (ao l)).holds ok w) (hF2 : (Fact.sl b (aW es)).holds ok w) (hl : l.length ≤ 1000000) (hes : es.length ≤ 1000000) (hm8 : g.1.length ≤ 8) :
  Cw 88 #[gV g, .slice a l.length c, .slice b es.length d, .bool same] w (.int .i64 (fN g l es same)) := by
 refine En [Fact.sl a (ao l), Fact.sl b (aW es)] [(0, gV g), (1, .slice a l.length c), (2, .slice b es.length d), (3, .bool same)] Tryz.func88 rfl Tryz.ntmps88 rfl (Ac rfl (Ac rfl (Ac rfl (Ac rfl (An _))))) (Fc (ah hF1) (Fc (ah hF2) Fn)) ?_
 refine Cs ?_
 refine Kh rfl (Oy rfl rfl) ?_
 intro b4
 refine Ka rfl (Nt (Cq (Cs (Km rfl (Yo rfl u31 (Km rfl (Nt (Cb ?_))))))))
 refine Lp (σ := Nat) [(1, _), (2, _), (3, _), (4, _), (16, _), (17, _)] (fun gq => [(18, .int .i64 (gq : Int))]) (fun gq => gq ≤ l.length ∧ ∀ x ∈ l.take gq, okN x) (fun gq => l.length - gq) (0) (S6 rfl rfl rfl rfl rfl rfl) (S1 rfl) (by (try dsimp only); exact ⟨Nat.zero_le _, by simp⟩) ?_
 rintro i hinv1; (try dsimp only at hinv1 ⊢)
 obtain ⟨hi, hok⟩ := hinv1
 refine Cs (Yl rfl (Nt (Cq ?_)))
 refine Cd rfl (fun hc19 => ?_) (fun hc19 => ?_)
 ·(try simp only [sB] at hc19)
  have hil : i < l.length := by omega
  refine Ck (Xa (Cq (Cb (Cs ?_))))
  refine Kq rfl (Ib rfl rfl rfl u31 (by omega) (by (rw [List.length_map]; omega))) ?_
  refine Kq rfl (ldm rfl rfl u22 rfl (by assumption)) ?_
  refine Ka rfl (Nt (Cs (Km rfl ?_)))
  refine Ku rfl (Oc rfl rfl (Kv fun w hS => av (a := l.getD i default))) ?_
  refine Yt rfl (Nt ?_)
  refine Cd rfl (fun hc24 => ?_) (fun hc24 => ?_)
  ·(try simp only [sB] at hc24)
   refine Cs (Ka rfl (Nt (Ce (Xf (Xb (Xb (Xf (Xb ?_))))))))
   exact R1 rfl rfl (by rw [fN, if_pos (fun h => absurd (h _ (ap _ _ hil)) (by simpa using hc24))]; rfl)
  ·(try simp only [sB] at hc24)
   refine Ck (Xd (Xa (Cg (Kq rfl (Rz rfl rfl rfl (by omega)) (Km rfl (Nn ?_))))))
   refine Ly (i + 1) (by (try dsimp only); omega) (S6 rfl rfl rfl rfl rfl rfl) (by refine (Sc ?_ (S0 _)) <;> (rfl)) ?_ (by (exact fun _ h => h))
   (try dsimp only)
   exact ⟨hil, ay hil hok (by simpa using hc24)⟩
 ·(try simp only [sB] at hc19)
  refine Cx (Xc (Xc (Xe ?_)))
  obtain rfl : i = l.length := by omega
  rw [List.take_length] at hok
  refine Xa (Cq (Cs (Km rfl (Yo rfl u39 (Km rfl (Nt (Cb ?_)))))))
  refine Lo (σ := Nat) [(1, _), (3, _), (4, _), (26, _), (27, _)] (fun gq => [(28, .int .i64 (gq : Int))]) (fun gq => gq ≤ es.length ∧ ∀ x ∈ es.take gq, okZ x) (fun gq => es.length - gq) (fun gq => [⟨some b4, [.string (S g.1), .string (S g.2)], 26⟩]) (fun gq => [Fact.sl a (ao l), Fact.sl b (aW es)]) (0) (S5 rfl rfl rfl rfl rfl) (S1 rfl) (by (try dsimp only); exact ⟨Nat.zero_le _, by simp⟩) (by (exact fun _ h => h)) ?_
  rintro k hinv2; (try dsimp only at hinv2 ⊢)
  obtain ⟨hk, hokz⟩ := hinv2
  refine Cs (Yl rfl (Nt (Cq ?_)))
  refine Cd rfl (fun hc29 => ?_) (fun hc29 => ?_)
  ·(try simp only [sB] at hc29)
   have hkl : k < es.length := by omega
   refine Ck (Xa (Cq (Cb (Cs ?_))))
   refine Kq rfl (Ia rfl rfl rfl u39 (by kernel_rfl : _ = some 2) (by omega) (by (rw [aj _ _ 2 (fun _ => rfl)]; omega))) ?_
   refine Kq rfl (dC _ rfl rfl u37 rfl (by kernel_rfl : _ = some 2) (fun _ => rfl) (by decide) rfl (by assumption)) ?_
   refine Kh rfl (Oz [.bool false, .string (S [])] rfl) ?_
   intro b12
   refine Nu rfl rfl (Sa rfl rfl rfl .tc) ?_
   refine Nt (Cs ?_)
   refine Kq rfl (lda rfl rfl .tc u37 rfl ?_) ?_
   ·kernel_rfl
   refine Ku rfl (Oc rfl rfl (Kv fun w hS => dJ (x := es.getD k default))) ?_
   refine Yt rfl (Nt ?_)
   refine Cd rfl (fun hc34 => ?_) (fun hc34 => ?_)
   ·(try simp only [sB] at hc34)
    refine Cs (Ka rfl (Nt (Ce (Xf (Xb (Xb (Xf (Xb ?_))))))))
    exact R1 rfl rfl (by rw [fN, if_neg (fun h => h hok), if_pos (fun h => absurd (h _ (ap _ _ hkl)) (by simpa using hc34))]; rfl)
   ·(try simp only [sB] at hc34)
    refine Ck (Xd (Xa (Cg (Kq rfl (Rz rfl rfl rfl (by omega)) (Km rfl (Nn ?_))))))
    refine Lx (k + 1) (by (try dsimp only); omega) (S5 rfl rfl rfl rfl rfl) (by refine (Sc ?_ (S0 _)) <;> (rfl)) ?_ (by (exact aq))
    (try dsimp only)
    exact ⟨hkl, ay hkl hokz (by simpa using hc34)⟩
  ·(try simp only [sB] at hc29)
   refine Cx (Xc (Xc (Xe ?_)))
   obtain rfl : k = es.length := by omega
   rw [List.take_length] at hokz
   refine Xa (Cq (Cs ?_))
   refine Kq rfl (lda rfl rfl .tc u26 rfl ?_) ?_
   ·kernel_rfl
   refine Ku rfl (Oc rfl rfl (Kv fun w hS => g5 (g := g))) ?_
   refine Ka rfl (Nt (Cs (Km rfl (Yj rfl (Nt ?_)))))
   refine Cd rfl (fun hc39 => ?_) (fun hc39 => ?_)
   ·(try simp only [sB] at hc39)
    refine Cs (Km rfl (Ka rfl (Nt (Ce (Xb ?_)))))
    exact R1 rfl rfl (by rw [fN, if_neg (fun h => h hok), if_neg (fun h => h hokz), if_pos (by simpa using hc39)]; rfl)
   ·(try simp only [sB] at hc39)
    have hg : bP g = 0 := by simpa using hc39
    refine Ck (Xa (Cq (Cs (Km rfl (Yt rfl (Nt ?_))))))
    refine Cd rfl (fun hc42 => ?_) (fun hc42 => ?_)
    ·(try simp only [sB] at hc42)
     refine Cs (Ka rfl (Nt (Ce (Xb ?_))))
     exact R1 rfl rfl (by rw [fN, if_neg (fun h => h hok), if_neg (fun h => h hokz), if_neg (fun h => h hg), if_pos (by simpa using hc42)]; rfl)
    ·(try simp only [sB] at hc42)
     refine Ck (Xa (Cq (Cs (Km rfl (Yo rfl u31 (Km rfl (Nt (Cb ?_))))))))
     refine Lp (σ := Nat) [(4, _), (43, _), (44, _)] (fun gq => [(45, .int .i64 (gq : Int))]) (fun gq => gq ≤ l.length ∧ ∀ x ∈ l.take gq, elG g x) (fun gq => l.length - gq) (0) (S3 rfl rfl rfl) (S1 rfl) (by (try dsimp only); exact ⟨Nat.zero_le _, by simp⟩) ?_
     rintro i3 hinv3; (try dsimp only at hinv3 ⊢)
     obtain ⟨hi3, hel⟩ := hinv3
     refine Cs (Yl rfl (Nt (Cq ?_)))
     refine Cd rfl (fun hc46 => ?_) (fun hc46 => ?_)
     ·(try simp only [sB] at hc46)
      have hil3 : i3 < l.length := by omega
      refine Ck (Xa (Cq (Cb (Cs ?_))))
      refine Kq rfl (Ib rfl rfl rfl u31 (by omega) (by (rw [List.length_map]; omega))) ?_
      refine Kq rfl (ldm rfl rfl u22 rfl (by assumption)) ?_
      refine Ka rfl (Nt (Cs ?_))
      refine Kq rfl (lda rfl rfl .tc u26 rfl ?_) ?_
      ·kernel_rfl
      refine Km rfl ?_
      refine Ku rfl (Oc rfl rfl (Kv fun w hS => nh (g := g) (x := l.getD i3 default) (by exact hg) (by exact hm8))) ?_
      refine Yt rfl (Nt ?_)
      refine Cd rfl (fun hc52 => ?_) (fun hc52 => ?_)
      ·(try simp only [sB] at hc52)
       refine Cs (Ka rfl (Nt (Ce (Xf (Xb (Xb (Xf (Xb ?_))))))))
       exact R1 rfl rfl (by rw [fN, if_neg (fun h => h hok), if_neg (fun h => h hokz), if_neg (fun h => h hg), if_neg (by simpa using hc42), if_pos (fun h => absurd (h _ (ap _ _ hil3)) (by simpa using hc52))]; rfl)
      ·(try simp only [sB] at hc52)
       refine Ck (Xd (Xa (Cg (Kq rfl (Rz rfl rfl rfl (by omega)) (Km rfl (Nn ?_))))))
       refine Ly (i3 + 1) (by (try dsimp only); omega) (S3 rfl rfl rfl) (by refine (Sc ?_ (S0 _)) <;> (rfl)) ?_ (by (exact fun _ h => h))
       (try dsimp only)
       exact ⟨hil3, ay hil3 hel (by simpa using hc52)⟩
     ·(try simp only [sB] at hc46)
      refine Cx (Xc (Xc (Xe ?_)))
      obtain rfl : i3 = l.length := by omega
      rw [List.take_length] at hel
      refine Xa (Cs (Ka rfl (Nt (Ce ?_))))
      exact R1 rfl rfl (by rw [fN, if_neg (fun h => h hok), if_neg (fun h => h hokz), if_neg (fun h => h hg), if_neg (by simpa using hc42), if_neg (fun h => h hel)]; rfl)
end Go.Proofs.YtkdlonihbjhhoaaGreatDoor
