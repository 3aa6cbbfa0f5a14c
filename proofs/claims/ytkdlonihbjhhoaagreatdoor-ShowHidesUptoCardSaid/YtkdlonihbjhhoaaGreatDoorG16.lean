/-
  Parts of the walk: Pgr Par Pac Isk Ikc Lin0 Gpl Hol.
-/
import Derived.Test.YtkdlonihbjhhoaaGreatDoorG15
namespace Go.Proofs.YtkdlonihbjhhoaaGreatDoor
open Go.RowKit
set_option linter.unusedSimpArgs false
set_option linter.unusedVariables false
set_option maxHeartbeats 600000
set_option maxRecDepth 20000
theorem j7 {n : Nat} (h : isP n = true) : 2 ≤ n := Nat.not_lt.1 fun h2 => by rw [isP, Ab h2] at h; cases h
theorem jm {x : Bs} (h : 0 < val x) : x ≠ [] := fun h0 => by rw [h0] at h; exact absurd h (Nat.lt_irrefl _)
theorem qp {g : Gp} {x : Bs} {w : World} (hm8 : g.1.length ≤ 8) :
  Cw 115 #[gV g, .string (S x)] w (.bool (decide (jp g x))) := by
 refine En [] [(0, gV g), (1, .string (S x))] Tryz.func115 I Tryz.ntmps115 I (Ac I (Ac I (An _))) Fn (DO ?_)
 intro b2
 refine Ka I (Nt (Cs (Kq I (lda I I .tc u26 I ?_) ?_)))
 ·kernel_rfl
 refine Km I (Kc I (fun w hS => ud (g := g) (x := x) (by assumption)) (Km I (Nc 8 I (fun hg8 => ?_) (fun hg8 => ?_))))
 ·refine Km I (Yr I (Yp I (to ?_)))
  exact G2
 ·refine T2 I (Yq I (to ?_))
  exact G2
theorem w6 {g : Gp} {w : World} (h1 : okN g.1) (h2 : okN g.2) (hp1 : 1 ≤ val g.1) (hp2 : 0 < val g.2) :
  Cw 170 #[gV g] w (.tuple #[.string (S (ae ((val g.1 - 1) / val g.2))), .bool (decide ((val g.1 - 1) % val g.2 = 0))]) := by
 have hb1 := aK h1
 have hq := jm hp2
 have hs1 : eP g.1 [1] = (ae (val g.1 - 1), 0) := by rw [← bT, eP, Ab ⟨h1, aq (by omega)⟩, af, Aa (by omega)]
 have hdv : fE (ae (val g.1 - 1)) g.2 = ((ae ((val g.1 - 1) / val g.2), ae ((val g.1 - 1) % val g.2)), 0) := by rw [dg (aq (by omega)) h2 hq, af]
 refine En [] [(0, gV g)] Tryz.func170 I Tryz.ntmps170 I (Ac I (An _)) Fn ?_
 refine Cs ?_
 refine EW ?_
 intro b1
 refine Ka I (Ka I (Nt (Cs (Kq I (Fa (q := 0) I I u26 I I) (Em ?_)))))
 refine Ku I (Oc I I (Kv fun w hS => (by have := pU (w := w) (a := g.1) (b := [1]); rw [hs1] at this; exact this))) ?_
 refine BY ?_; refine Cq (Cs (Km I (Yj I (Km I ?_))))
 refine Nb 17 I (fun hg17 => ?_) (fun hg17 => ?_)
 ·(try simp only [sB] at hg17)
  refine Kt I (Kt I (Kt I (Yp I (Nt ?_))))
  refine Cd I (fun _ => ?_) (fun h => by cases h)
  refine Cs (Ka I (ne ?_))
  exact R2 I I I (by (exact absurd trivial hg17))
 ·(try simp only [sB] at hg17)
  refine Kq I (Fa (q := 1) I I u26 I I) (Em ?_)
  refine Ys I (Yq I (Nt ?_))
  refine Cd I (fun hc21 => ?_) (fun hc21 => ?_)
  ·(try simp only [sB] at hc21)
   have hbad : False := hq (by simpa using hc21)
   refine Cs (Ka I (ne ?_))
   exact R2 I I I (by (exact hbad.elim))
  ·(try simp only [sB] at hc21)
   refine FN ?_; refine Kq I (Fa (q := 1) I I u26 I I) (Em ?_)
   refine Ku I (Oc I I (Kv fun w hS => (by have := e9 (w := w) (a := ae (val g.1 - 1)) (b := g.2); rw [hdv] at this; exact this))) ?_
   refine EX ?_; refine DT ?_; refine Km I (Ys I ?_)
   refine Ns 32 I (v' := .bool (decide ((val g.1 - 1) % val g.2 = 0))) (congrArg Value.bool (by simp [aT])) ?_
   refine Ka I (to ?_)
   exact R2 I I I (by rfl)
theorem rU {g : Gp} {w : World} (hD : TabD w) :
  Cw 114 #[gV g] w (.int .i64 (a6 g)) := by
 refine En [] [(0, gV g)] Tryz.func114 I Tryz.ntmps114 I (Ac I (An _)) Fn (DO ?_)
 intro b1
 refine Ka I (Nt (Cq (Cs (Kq I (lda I I .tc u26 I ?_) ?_))))
 ·kernel_rfl
 refine Kc I (fun w hS => qr (g := g)) (Eq (fun hc11 => ?_) (fun hc11 => ?_))
 ·have hr : a6 g = 3 := by rw [a6, Ab (by simpa using hc11)]
  refine Cs (ne ?_)
  exact Gz
 ·have hok : okN g.1 ∧ okN g.2 := by simpa using hc11
  refine Gg ?_; refine ED ?_
  refine Yn I u22 (FR (fun hc15 => ?_) (fun hc15 => ?_))
  ·have hr : a6 g = 5 := by rw [a6, Aa (fun h => h hok), Ab (by omega)]
   refine Cs (ne ?_); exact Gz
  ·have h8 : g.1.length ≤ 8 := by omega
   have hp1 := f5 hok.1 h8; refine Gg ?_; refine ED ?_; refine Kc I (fun w hS => (by have := qn (w := w) (a := g.1) (bh hD hS); rw [hp1] at this; exact this)) (BY ?_); refine Cs (Km I (Eq (fun hc23 => ?_) (fun hc23 => ?_)))
   ·have hpf : isP (val g.1) = false := by simpa using hc23
    have hr : a6 g = 12 := by rw [a6, Aa (fun h => h hok), Aa (by omega), Ab hpf]
    refine Cs (ne ?_); exact Gz
   ·have hpt : isP (val g.1) = true := by simpa using hc23
    have hpn : ¬ isP (val g.1) = false := by rw [hpt]; decide
    refine Gg ?_; refine EE ?_; refine Yn I u22 (FR (fun hc27 => ?_) (fun hc27 => ?_))
    ·have hr : a6 g = 13 := by rw [a6, Aa (fun h => h hok), Aa (by omega), Aa hpn, Ab (by omega)]
     refine Cs (ne ?_); exact Gz
    ·have h82 : g.2.length ≤ 8 := by omega
     have hp2 := f5 hok.2 h82; refine Gg ?_; refine EE ?_; refine Kc I (fun w hS => (by have := qn (w := w) (a := g.2) (bh hD hS); rw [hp2] at this; exact this)) (BY ?_); refine Cs (Km I (Eq (fun hc35 => ?_) (fun hc35 => ?_)))
     ·have hqf : isP (val g.2) = false := by simpa using hc35
      have hr : a6 g = 12 := by rw [a6, Aa (fun h => h hok), Aa (by omega), Aa hpn, Aa (by omega), Ab hqf]
      refine Cs (ne ?_); exact Gz
     ·have hqt : isP (val g.2) = true := by simpa using hc35
      have hqn : ¬ isP (val g.2) = false := by rw [hqt]; decide
      have hg1 := j7 hpt; have hg2 := j7 hqt; refine Ck (Xa (Cq (Cs (Kq I (lda I I .tc u26 I ?_) ?_))))
      ·kernel_rfl
      refine Kc I (fun w hS => w6 (g := g) (by exact hok.1) (by exact hok.2) (by omega) (by omega)) (BY ?_); refine Cs (Km I (Eq (fun hc42 => ?_) (fun hc42 => ?_)))
      ·have hr : a6 g = 13 := by rw [a6, Aa (fun h => h hok), Aa (by omega), Aa hpn, Aa (by omega), Aa hqn, Ab (by simpa using hc42)]
       refine Cs (ne ?_); exact Gz
      ·have hr : a6 g = 0 := by rw [a6, Aa (fun h => h hok), Aa (by omega), Aa hpn, Aa (by omega), Aa hqn, Aa (by simpa using hc42)]
       refine Ck (Xa (Cs (to ?_))); exact Gz
theorem qk {g : Gp} {x : Bs} {w : World} (hm8 : g.1.length ≤ 8) :
  Cw 117 #[gV g, .string (S x)] w (.bool (decide (jp g x))) := by
 refine En [] [(0, gV g), (1, .string (S x))] Tryz.func117 I Tryz.ntmps117 I (Ac I (Ac I (An _))) Fn (DO ?_)
 intro b2
 refine Ka I (Nt (Cs (Kq I (lda I I .tc u26 I ?_) ?_)))
 ·kernel_rfl
 refine Km I (Kc I (fun w hS => qh (g := g) (x := x) (by assumption)) (Km I (Nc 8 I (fun hg8 => ?_) (fun hg8 => ?_))))
 ·refine Km I (Yr I (Yp I (to ?_)))
  exact G2
 ·refine T2 I (Yq I (to ?_))
  exact G2
theorem wI {g : Gp} {w : World} (h1 : okN g.1) (h2 : okN g.2) (hp1 : 1 ≤ val g.1) (hp2 : 0 < val g.2) :
  Cw 173 #[gV g] w (.bool (decide ((val g.1 - 1) % val g.2 = 0))) := by
 have hb1 := aK h1
 have hl1 := h1.1
 have hq := jm hp2
 have hn1 := jm (show 0 < val g.1 by omega)
 refine En [] [(0, gV g)] Tryz.func173 I Tryz.ntmps173 I (Ac I (An _)) Fn (DO ?_)
 intro b1
 refine Ka I (Nt (Cq (Cs (ED ?_))))
 refine Fu (fun hc7 => ?_) (fun hc7 => ?_)
 ·have hbad : False := hn1 (by simpa using hc7)
  refine Cs (ne ?_)
  exact R1 I I (by exact hbad.elim)
 ·refine Ck (Xa (Cq (Cf [0, 1, 2, 3, 4, 5, 6, 7, 8, 9, 10] [] [0, 0, 1, 0, 0, 1, 0, 0, 0, 0, 0] (by kernel_rfl) (by kernel_rfl) I ?_)))
  refine Fs ?_; refine DY ?_
  refine Jv I I I I I (fun ext => Oc I I (Kv fun w hS => j5 (a := g.1) (b := [1]) (by exact hp1) (by omega) (by decide))) ?_
  refine WJ.set 11 I (v' := .string (S (ae (val g.1 - 1)))) (congrArg (fun l => Value.string (S l)) (by rfl)) ?_
  refine Kj I (Fa (q := 1) I I u26 I I) (DY ?_)
  refine Jv I I I I I (fun ext => Oc I I (Kv fun w hS => jX (a := ae (val g.1 - 1)) (b := g.2) (by exact aq (by omega)) (by exact h2) (by exact hq))) ?_
  refine ER ?_; refine EM ?_
  refine WJ.nil ?_
  refine Nt (Cs (Km I (Ys I (Ns 18 I (v' := .bool (decide ((val g.1 - 1) % val g.2 = 0))) (congrArg Value.bool (by simp [aT, af])) ?_))))
  refine to ?_
  exact GH
theorem wJ {g : Gp} {w : World} :
  Cw 116 #[gV g] w (.int .i64 (a6 g)) := by
 refine En [] [(0, gV g)] Tryz.func116 I Tryz.ntmps116 I (Ac I (An _)) Fn (DO ?_)
 intro b1
 refine Ka I (Nt (Cq (Cs (Kq I (lda I I .tc u26 I ?_) ?_))))
 ·kernel_rfl
 refine Kc I (fun w hS => n2 (g := g)) (Eq (fun hc9 => ?_) (fun hc9 => ?_))
 ·have hr : a6 g = 3 := by rw [a6, Ab (by simpa using hc9)]
  refine Cs (ne ?_)
  exact Gz
 ·have hok : okN g.1 ∧ okN g.2 := by simpa using hc9
  refine Gg ?_; refine ED ?_
  refine Yn I u22 (FR (fun hc13 => ?_) (fun hc13 => ?_))
  ·have hr : a6 g = 5 := by rw [a6, Aa (fun h => h hok), Ab (by omega)]
   refine Cs (ne ?_); exact Gz
  ·have h8 : g.1.length ≤ 8 := by omega
   have hp1 := f5 hok.1 h8; refine Gg ?_; refine ED ?_; refine Kc I (fun w hS => (by have := nZ (w := w) (a := g.1); rw [hp1] at this; exact this)) (BY ?_); refine Cs (Km I (Eq (fun hc21 => ?_) (fun hc21 => ?_)))
   ·have hpf : isP (val g.1) = false := by simpa using hc21
    have hr : a6 g = 12 := by rw [a6, Aa (fun h => h hok), Aa (by omega), Ab hpf]
    refine Cs (ne ?_); exact Gz
   ·have hpt : isP (val g.1) = true := by simpa using hc21
    have hpn : ¬ isP (val g.1) = false := by rw [hpt]; decide
    refine Gg ?_; refine EE ?_; refine Yn I u22 (FR (fun hc25 => ?_) (fun hc25 => ?_))
    ·have hr : a6 g = 13 := by rw [a6, Aa (fun h => h hok), Aa (by omega), Aa hpn, Ab (by omega)]
     refine Cs (ne ?_); exact Gz
    ·have h82 : g.2.length ≤ 8 := by omega
     have hp2 := f5 hok.2 h82; refine Gg ?_; refine EE ?_; refine Kc I (fun w hS => (by have := nZ (w := w) (a := g.2); rw [hp2] at this; exact this)) (BY ?_); refine Cs (Km I (Eq (fun hc33 => ?_) (fun hc33 => ?_)))
     ·have hqf : isP (val g.2) = false := by simpa using hc33
      have hr : a6 g = 12 := by rw [a6, Aa (fun h => h hok), Aa (by omega), Aa hpn, Aa (by omega), Ab hqf]
      refine Cs (ne ?_); exact Gz
     ·have hqt : isP (val g.2) = true := by simpa using hc33
      have hqn : ¬ isP (val g.2) = false := by rw [hqt]; decide
      have hg1 := j7 hpt; have hg2 := j7 hqt; refine Ck (Xa (Cq (Cs (Kq I (lda I I .tc u26 I ?_) ?_))))
      ·kernel_rfl
      refine Kc I (fun w hS => wI (g := g) (by exact hok.1) (by exact hok.2) (by omega) (by omega)) (Eq (fun hc36 => ?_) (fun hc36 => ?_))
      ·have hr : a6 g = 13 := by rw [a6, Aa (fun h => h hok), Aa (by omega), Aa hpn, Aa (by omega), Aa hqn, Ab (by simpa using hc36)]
       refine Cs (ne ?_); exact Gz
      ·have hr : a6 g = 0 := by rw [a6, Aa (fun h => h hok), Aa (by omega), Aa hpn, Aa (by omega), Aa hqn, Aa (by simpa using hc36)]
       refine Ck (Xa (Cs (to ?_))); exact Gz
theorem yR {a b : Bs} {w : World} :
  Cw 212 #[.string (S a), .string (S b)] w (NE (jT a b)) := by
 refine En [] [(0, .string (S a)), (1, .string (S b))] Tryz.func212 I Tryz.ntmps212 I (Ac I (Ac I (An _))) Fn (Cs (Ka I (DR ?_))); refine Kc I (fun w hS => ar (a := a)) (Yt I (Km I (Nc 9 I (fun hg9 => ?_) (fun hg9 => ?_))))
 ·refine T2 I (Kt I (Yp I (Nt (Cd I (fun _ => ?_) (fun h => by cases h)))))
  refine Cs (Ka I (ne ?_))
  exact GW
 ·refine Km I (Kc I (fun w hS => ar (a := b)) (EP (fun hc13 => ?_) (fun hc13 => ?_)))
  ·refine Cs (Ka I (ne ?_)); exact GW
  ·have hab : okN a ∧ okN b := by simp_all
   refine EN ?_; refine Kc I (fun w hS => lU (a := a) (b := b) (by exact hab.1) (by exact hab.2)) (Ka I (to ?_)); exact R2 I I I (by rw [jT, Ab hab]; rfl)
theorem rL {g : Gp} {w : World} :
  Cw 211 #[gV g] w (.bool (decide (dM g))) := by
 have hB8 : 8 < Big := Ay (by decide) fg
 refine En [] [(0, gV g)] Tryz.func211 I Tryz.ntmps211 I (Ac I (An _)) Fn (DO ?_)
 intro b1
 refine Ka I (Nt (Cq (Cf [0, 1, 2, 3, 4, 5, 6, 7, 8, 9, 10, 11, 12, 13, 16, 14, 15, 17, 18, 19, 20] [] [0, 0, 1, 0, 0, 0, 0, 0, 0, 0, 0, 1, 0, 0, 0, 0, 1, 1, 0, 0, 0] (by kernel_rfl) (by kernel_rfl) I ?_)))
 refine Fs ?_; refine DY ?_
 refine Jv I I I I I (fun ext => Oc I I (Kv fun w hS => ar (a := g.1))) ?_
 refine ER ?_
 refine WJ.bool 6 I (fun hg6 => ?_) (fun hg6 => ?_)
 ·(try simp only [sB] at hg6)
  refine Kj I (Fa (q := 1) I I u26 I I) (DY ?_)
  refine Kj I (mT I I I) (Kj I (Rp I I I) (ER ?_))
  refine WJ.bool 11 I (fun hg11 => ?_) (fun hg11 => ?_)
  ·(try simp only [sB] at hg11); refine Fs ?_; refine DY ?_; refine Jv I I I I I (fun ext => Oc I I (Kv fun w hS => pi (a := g.1) (i := 0) (by omega))) ?_; refine WJ.set 14 I (v' := .bool (decide (val g.1 % 2 = 1))) (congrArg Value.bool (by exact j3 hg6)) ?_; refine Kj I (Rp I I I) (ER ?_); refine WJ.bool 16 I (fun hg16 => ?_) (fun hg16 => ?_)
   ·(try simp only [sB] at hg16); refine FU ?_; refine Fs ?_; refine DY ?_; refine Jv I I I I I (fun ext => Oc I I (Kv fun w hS => m6 (a := g.1) (b := ae 8))) ?_; refine Kj I (mY I I I) ?_; refine WJ.set 21 I (v' := .bool (decide (8 < val g.1))) (congrArg Value.bool (by rw [aB hg6 (aq hB8), af]; exact Af.2 (by have := fG (val g.1) 8; omega))) ?_; refine Kj I (Rp I I I) (ES ?_); refine WJ.nil ?_; refine Nt (Ce ?_); exact GM
   ·(try simp only [sB] at hg16); refine Ey ?_; refine F0 ?_; refine ES ?_; refine WJ.nil ?_; refine Nt (Ce ?_); exact GM
  ·(try simp only [sB] at hg11); refine Ey ?_; refine Kj I (Rq I I I) (ER ?_); refine Ey ?_; refine F0 ?_; refine ES ?_; refine WJ.nil ?_; refine Nt (Ce ?_); exact GM
 ·(try simp only [sB] at hg6)
  refine Ey ?_; refine Kj I (Rq I I I) (ER ?_); refine Ey ?_; refine Kj I (Rq I I I) (ER ?_); refine Ey ?_; refine F0 ?_; refine ES ?_
  refine WJ.nil ?_
  refine Nt (Ce ?_)
  exact GM
theorem tX {g : Gp} {x : Bs} {w : World} :
  Cw 176 #[gV g, .string (S x)] w (.bool (decide (jR g x))) := by
 refine En [] [(0, gV g), (1, .string (S x))] Tryz.func176 I Tryz.ntmps176 I (Ac I (Ac I (An _))) Fn (DO ?_)
 intro b2
 refine Ka I (Nt (Cq (WC.joinP (σ := Unit) [(1, _), (2, _)] (fun gq => [(25, .bool (decide (¬ (dM g ∧ okN x ∧ x ≠ [] ∧ val x < val g.1))))]) (fun gq => True) (S2 I I) ?_ ?_)))
 ·skip
  refine Cg (Kq I (lda I I .tc u26 I ?_) ?_)
  ·kernel_rfl
  refine Kc I (fun w hS => rL (g := g)) (Yt I (Km I (Nc 10 I (fun hg10 => ?_) (fun hg10 => ?_))))
  ·refine T2 I (Kt I (Yp I (Km I (T2 I (Yp I (Km I (T4 I (Kt I (Yp I (Nn (WX.joinP (()) (S2 I I) (by refine (Sc ?_ (S0 _)) <;> ((refine ai rfl ?_; (try dsimp only); (simp [*]; done)))) ?_ (fun _ h => h)))))))))))); (try dsimp only); done
  ·refine Km I (Kc I (fun w hS => ar (a := x)) (Yt I (Yq I (Km I (Nc 15 I (fun hg15 => ?_) (fun hg15 => ?_))))))
   ·refine T2 I (Yp I (Km I (T4 I (Kt I (Yp I (Nn (WX.joinP (()) (S2 I I) (by refine (Sc ?_ (S0 _)) <;> ((refine ai rfl ?_; (try dsimp only); (simp [*]; done)))) ?_ (fun _ h => h)))))))); (try dsimp only); done
   ·refine Km I (Ys I (Yq I (Km I (Nc 19 I (fun hg19 => ?_) (fun hg19 => ?_)))))
    ·refine T4 I (Kt I (Yp I (Nn (WX.joinP (()) (S2 I I) (by refine (Sc ?_ (S0 _)) <;> ((refine ai rfl ?_; (try dsimp only); (simp [*]; done)))) ?_ (fun _ h => h))))); (try dsimp only); done
    ·refine Km I (Kf 0 I u26 I I I .tc u22 ?_); refine Kc I (fun w hS => m6 (a := x) (b := g.1)) (Yh I (Ns 24 I (v' := .bool (decide (val g.1 ≤ val x))) (congrArg Value.bool (by rw [aB hg15 hg10.1]; exact Af.2 (dk _ _))) ?_)); refine Yq I (Nn (WX.joinP (()) (S2 I I) (by refine (Sc ?_ (S0 _)) <;> ((refine ai rfl ?_; (try dsimp only); (simp [*]; done)))) ?_ (fun _ h => h))); (try dsimp only); done
 ·rintro _ hmeet; (try dsimp only at hmeet ⊢)
  refine Ci I (fun hc25 => ?_) (fun hc25 => ?_)
  ·have hr : ¬ jR g x := fun h => hc25 ⟨h.1, h.2.1, h.2.2.1, h.2.2.2.1⟩
   refine Cs (ne ?_); exact GF
  ·have hok : dM g ∧ okN x ∧ x ≠ [] ∧ val x < val g.1 := Ao.1 hc25; have hgc : jT x g.1 = (ae (Nat.gcd (val x) (val g.1)), 0) := by rw [jT, Ab ⟨hok.2.1, hok.1.1⟩]
   have hr : jR g x ↔ Nat.gcd (val x) (val g.1) = 1 := ⟨fun h => h.2.2.2.2, fun h => ⟨hok.1, hok.2.1, hok.2.2.1, hok.2.2.2, h⟩⟩; refine FN ?_; refine ED ?_; refine Kc I (fun w hS => (by have := yR (w := w) (a := x) (b := g.1); rw [hgc] at this; exact this)) (BY ?_); refine Cs (Km I (Kc I (fun w hS => dJ (by (dsimp only; omega))) (Ys I (Ns 35 I (v' := .bool (decide (jR g x))) (congrArg Value.bool (by simp [hr, fe])) ?_)))); refine to ?_; exact GH
abbrev pk4 (k : PK) : List Bs := [k.1.1, k.1.2, k.2.1, k.2.2]
def kV (p : PR) : List Bs := ft p ++ (pk4 p.mn ++ pk4 p.wh)
def fq (p : PR) : List Bs := [p.ch, p.sl] ++ (pk4 p.mn ++ pk4 p.wh) ++ [p.sec, p.attr, p.han, p.lo, p.sz, p.bl, p.msk]
theorem tK {p : PR} {w : World} :
  Calls Tryz.prog 33 #[prV p] w fun e w' => ∃ g : Rs, e = .returned (g.val 17) ∧ g.cap = 17 + g.sp.length ∧ St (fun _ => True) w [g.ent (an (fq p)) 22] [] w' := by
 refine En [] [(0, prV p)] Tryz.func33 I Tryz.ntmps33 I (Ac I (An _)) Fn (DO ?_)
 intro b1
 refine Ka I (Nt (Cs (E2 ?_)))
 refine Fz ?_
 refine E4 ?_; refine Kf 2 I u26 I I I .tc u22 ?_
 refine E4 ?_; refine Kf 3 I u26 I I I .tc u22 ?_
 refine Gl ?_
 refine Kq I (Fa (q := 2) I I u30 I I) (Kf 5 I u28 I I I .tc u22 ?_)
 refine Kq I (Fa (q := 6) I I u30 I I) (Kq I (Fa (q := 6) I I u28 I I) (Kf 6 I u26 I I I .tc u22 ?_))
 refine Kq I (Fa (q := 6) I I u30 I I) (Kq I (Fa (q := 6) I I u28 I I) (Kf 7 I u26 I I I .tc u22 ?_))
 refine Kq I (Fa (q := 6) I I u30 I I) (Kf 8 I u28 I I I .tc u22 ?_)
 refine Kq I (Fa (q := 6) I I u30 I I) (Kf 9 I u28 I I I .tc u22 ?_)
 refine F4 ?_
 refine F5 ?_
 refine F6 ?_
 refine Kf 13 I u30 I I I .tc u22 ?_
 refine Kf 14 I u30 I I I .tc u22 ?_
 refine Kf 15 I u30 I I I .tc u22 ?_
 refine Kf 16 I u30 I I I .tc u22 ?_
 refine Kh I (aO I I u31 (by kernel_rfl : _ = some (some (.string (S [])), 1, 16)) I (by simp only [List.map]; rfl) I I ?_ (by decide)) ?_
 ·simp [Value.cells]
 intro b51
 refine to ?_
 exact Rn I (.tmp I .nil) fun w' hS => ⟨⟨some b51, 17, []⟩, rfl, rfl, hS.sub (Dq _ (List.nil_sublist _)) (fun _ h => h)⟩
theorem cg {a b : Bs} {w : World} :
  Cw 119 #[.string (S a), .string (S b)] w (.bool (decide (eh a b < 0))) := by
 refine En [] [(0, .string (S a)), (1, .string (S b))] Tryz.func119 I Tryz.ntmps119 I (Ac I (Ac I (An _))) Fn (Cs (DT ?_)); refine Km I (Kc I (fun w hS => m6 (a := a) (b := b)) (Yl I (to ?_)))
 exact GH
theorem qa {g : Gp} {x : Bs} {w : World} :
  Cw 120 #[gV g, .string (S x)] w (.bool (decide (dR g x))) := by
 refine En [] [(0, gV g), (1, .string (S x))] Tryz.func120 I Tryz.ntmps120 I (Ac I (Ac I (An _))) Fn (DO ?_)
 intro b2
 refine Ka I (Nt (Cs (Kq I (lda I I .tc u26 I ?_) ?_)))
 ·kernel_rfl
 refine Km I (Kc I (fun w hS => tX (g := g) (x := x)) (Km I (Nc 8 I (fun hg8 => ?_) (fun hg8 => ?_))))
 ·refine Km I (Kc I (fun w hS => dJ (n := 1) (by omega)) (Yr I (Yp I (to ?_))))
  exact R1 I I (by simp [*, tup, dR])
 ·refine T2 I (Kt I (Yq I (to ?_)))
  exact R1 I I (by simp [*, tup, dR])
abbrev pkc (k : PK) : List Value := [.string (S k.1.1), .string (S k.1.2), .string (S k.2.1), .string (S k.2.2)]
theorem pR {α : Type} [Inhabited α] {l : List α} {i : Nat} (h : i < l.length) : l.take (i + 1) = l.take i ++ [l.getD i default] := by
 rw [Bt, Ad h, List.getD_eq_getElem?_getD, Ad h]; rfl
theorem zb {p : PR} {w : World} :
  Calls Tryz.prog 111 #[prV p] w fun e w' => ∃ g : Rs, e = .returned (g.val 17) ∧ g.cap = 17 + g.sp.length ∧ St (fun _ => True) w [g.ent (an (kV p)) 22] [] w' := by
 refine En [] [(0, prV p)] Tryz.func111 I Tryz.ntmps111 I (Ac I (An _)) Fn (DO ?_)
 intro b1
 refine Ka I (Nt (Cs (E2 ?_)))
 refine Fz ?_
 refine F4 ?_
 refine F5 ?_
 refine F6 ?_
 refine Kf 13 I u30 I I I .tc u22 ?_
 refine Kf 14 I u30 I I I .tc u22 ?_
 refine Kf 15 I u30 I I I .tc u22 ?_
 refine Kf 16 I u30 I I I .tc u22 ?_
 refine Kh I (aO I I u31 (by kernel_rfl : _ = some (some (.string (S [])), 1, 16)) I (by simp only [List.map]; rfl) I I ?_ (by decide)) ?_
 ·simp [Value.cells]
 intro b26
 refine Ka I (Nt (Cq (Cs (Kq I (Fa (q := 2) I I u30 I I) (Kq I (ldp I I .tc u28 I (by kernel_rfl : _ = some 4) (by rfl) (by rfl)) ?_)))))
 refine Kq I (Fa (q := 6) I I u30 I I) (Kq I (ldp I I .tc u28 I (by kernel_rfl : _ = some 4) (by rfl) (by rfl)) ?_)
 refine Kh I (g8 I I yD (by kernel_rfl : _ = some (some (.agg #[.string (S []), .string (S []), .string (S []), .string (S [])]), 4, 64)) (by kernel_rfl) (by decide) I I (by (simp [Value.cells]; done)) (by (simp only [List.map, Value.cells, C2, List.flatMap_nil, Bl, D5]; rfl)) (by decide)) ?_
 intro b31
 refine WL.st (fun w h => h.freeze (off := 0) (xs := ([p.mn, p.wh] : List PK).flatMap pkc) (fun i hi => by rw [Az]; rfl)) ?_
 refine Yo I yD (Km I (Nt (Cb (Lo (σ := Nat × (Option Nat) × Nat × (List Value)) [(31, _), (32, _)] (fun gq => [(3, .slice (gq.2.1.map fun b => ⟨b, 0, none⟩) (9 + 4 * gq.1) gq.2.2.1), (33, .int .i64 (gq.1 : Int))]) (fun gq => gq.1 ≤ 2 ∧ gq.2.2.1 = 9 + 4 * gq.1 + gq.2.2.2.length) (fun gq => 2 - gq.1) (fun gq => [⟨gq.2.1, an (ft p ++ (([p.mn, p.wh] : List PK).take gq.1).flatMap pk4) ++ gq.2.2.2, 22⟩]) (fun gq => [Fact.sl (some ⟨b31, 0, none⟩) (([p.mn, p.wh] : List PK).flatMap pkc)]) (0, some b26, 9, []) (S2 I I) (S2 I I) (by (try dsimp only); exact ⟨Ai _, rfl⟩) (by exact fun w h => h.sub (Dq _ (List.nil_sublist _)) (fun _ hh => hh)) ?_))))
 rintro ⟨i, o, cp, sp⟩ hinv1; (try dsimp only at hinv1 ⊢)
 obtain ⟨hi, hcp⟩ := hinv1
 refine DP (fun hc34 => ?_) (fun hc34 => ?_)
 ·have hi2 : i < ([p.mn, p.wh] : List PK).length := by show i < 2; omega
  have htk := pR hi2
  obtain ⟨k, hk⟩ : ∃ k, Keep (k = ([p.mn, p.wh] : List PK).getD i default) := ⟨_, rfl⟩
  rw [← show k = _ from hk] at htk
  have hln : (an (ft p ++ (([p.mn, p.wh] : List PK).take i).flatMap pk4)).length = 9 + 4 * i := by
   rw [← fS, A5]; have : i = 0 ∨ i = 1 := by omega
   rcases this with rfl | rfl <;> rfl
  refine E3 ?_; refine Kq I (Ja I I I yD (by kernel_rfl : _ = some 4) (by omega)) ?_
  refine Kq I (zy (off0 := 0) (m := i * 4) (ys := pkc (([p.mn, p.wh] : List PK).getD i default)) I I .tc u28 I (by kernel_rfl : _ = some 4) (Az _).symm (by exact fB [p.mn, p.wh] pkc 4 (fun _ => rfl) i hi2) I (by decide)) ?_
  refine Ns 36 I (v' := .agg (pkc k).toArray) (by rw [show k = _ from hk]) ?_
  refine Kh I (Oz [.string (S []), .string (S []), .string (S []), .string (S [])] I) ?_
  intro b5
  refine DQ ?_; refine Nt (Cg (Km I (Kq I (Fa (q := 0) I I u28 I I) (ED ?_))))
  refine Kq I (Fa (q := 0) I I u28 I I) (EE ?_)
  refine Kf 2 I u28 I I I .tc u22 ?_
  refine Kf 3 I u28 I I I .tc u22 ?_
  refine Kh I (aO I I u31 (by kernel_rfl : _ = some (some (.string (S [])), 1, 16)) I (by simp only [List.map]; rfl) I I ?_ (by decide)) ?_
  ·simp [Value.cells]
  intro b48
  refine Kh I (pL I u31 (by kernel_rfl : _ = some (some (.string (S [])), 1, 16)) I .tc I I (fun w hS => by (exact hS.os)) (by rfl) (by refine ⟨?_, ?_, ?_, ?_⟩ <;> first | exact hln | omega) (by (simp [Value.oneCell']; done))) ?_
  rintro ⟨o49, c49, s49⟩
  refine WL.pu ?_
  intro hg49; (try dsimp only at hg49 ⊢)
  refine Ka I (Nn (Xd (Xa (Cg (Kq I (Rz I I I (by omega)) (Km I (Nn (Lx ((i + 1, o49, c49, s49)) (by (try dsimp only); omega) (S2 I I) (by refine (Sc ?_ (Sc ?_ (S0 _))) <;> (rfl)) ?_ (by exact fun w h => by rw [htk, List.flatMap_append, ← Cl, ← fS, show an ([k].flatMap pk4) = pkc k from rfl]; exact au _ h)))))))))
  (try dsimp only)
  exact ⟨by omega, by omega⟩
 ·refine AT ?_
  obtain rfl : i = 2 := by omega
  refine Xa (Cs (Km I (to ?_)))
  exact Rn I (.tmp I .nil) fun w' hS => ⟨⟨o, cp, sp⟩, rfl, by omega, hS.sub (Ax _) (by simp)⟩
theorem qs {p : PR} {x : Bs} {b1 b5 : Nat} {w : World} {ok : Nat → Prop} (hF1 : (Fact.sl (some ⟨b1, 0, none⟩) (prC p)).holds ok w) (hF2 : (Fact.sl (some ⟨b5, 0, none⟩) [.string (S (ae 1))]).holds ok w) :
  Cw 112 #[.string (S x), .pointer (some ⟨b1, 0, none⟩), .pointer (some ⟨b5, 0, none⟩)] w (.bool (decide (dR p.wh.1 x))) := by
 refine En [Fact.sl (some ⟨b1, 0, none⟩) (prC p), Fact.sl (some ⟨b5, 0, none⟩) [.string (S (ae 1))]] [(0, .string (S x)), (1, .pointer (some ⟨b1, 0, none⟩)), (2, .pointer (some ⟨b5, 0, none⟩))] Tryz.func112 I Tryz.ntmps112 I (Ac I (Ac I (Ac I (An _)))) (Fc (ah hF1) (Fc (ah hF2) Fn)) (Cs (Ka I (Nt (Cs ?_))))
 (refine Kq I (cX I I u30 I (by kernel_rfl) (by (try simp only [sN, Int.reduceToNat, Nat.reduceAdd, Nat.reduceMul, Nat.reduceSub]); rfl)) ?_)
 (refine Kq I (cX I I u28 I (by kernel_rfl) (by (try simp only [sN, Int.reduceToNat, Nat.reduceAdd, Nat.reduceMul, Nat.reduceSub]); rfl)) ?_)
 refine Kq I (zy (off0 := 0) (m := 6) (ys := [.string (S p.wh.1.1), .string (S p.wh.1.2)]) I I .tc u26 I (by kernel_rfl : _ = some 2) I I I (by decide)) ?_
 refine Km I (Kc I (fun w hS => qg (g := p.wh.1) (x := x)) (Km I (Nc 10 I (fun hg10 => ?_) (fun hg10 => ?_))))
 ·refine Km I (Kq I (ldf (off0 := 0) (m := 0) I I .tc u22 I I I) ?_)
  refine Yr I (Yp I (to ?_))
  exact R1 I I (by simp [*, tup, dR])
 ·refine T2 I (Kt I (Yq I (to ?_)))
  exact R1 I I (by simp [*, tup, dR])
theorem nf {p : PR} : okR p ↔ ∀ x ∈ kV p, okN x := by
 unfold okR okK kV
 simp only [B6, A7, List.not_mem_nil, or_false]
 constructor
 ·rintro ⟨h, ⟨a1, a2, a3, a4⟩, c1, c2, c3, c4⟩ x (hx | (rfl | rfl | rfl | rfl) | (rfl | rfl | rfl | rfl))
  ·exact h x hx
  all_goals assumption
 ·intro h
  exact ⟨fun x hx => h x (.inl hx), ⟨h _ (.inr (.inl (.inl rfl))), h _ (.inr (.inl (.inr (.inl rfl)))), h _ (.inr (.inl (.inr (.inr (.inl rfl))))), h _ (.inr (.inl (.inr (.inr (.inr rfl)))))⟩,
   h _ (.inr (.inr (.inl rfl))), h _ (.inr (.inr (.inr (.inl rfl)))), h _ (.inr (.inr (.inr (.inr (.inl rfl))))), h _ (.inr (.inr (.inr (.inr (.inr rfl)))))⟩
theorem jk {p : PR} {w : World} (hm8 : p.mn.1.1.length ≤ 8) (hD : TabD w) :
  Cw 67 #[prV p] w (.int .i64 (cr p)) := by
 refine En [] [(0, prV p)] Tryz.func67 I Tryz.ntmps67 I (Ac I (An _)) Fn (DO ?_)
 intro b1
 refine Ka I (Nt (Cq (Cs (Kq I (lda I I .tc u30 I ?_) ?_))))
 ·kernel_rfl
 refine Kh I (Oc I I (fx fun w hS => zb)) ?_
 intro g14
 refine WL.pu ?_
 intro hg14; (try dsimp only at hg14 ⊢)
 refine FW ?_; refine Lp (σ := Nat) [(1, _), (14, _), (15, _)] (fun gq => [(16, .int .i64 (gq : Int))]) (fun gq => gq ≤ (kV p).length ∧ ∀ x ∈ (kV p).take gq, okN x) (fun gq => (kV p).length - gq) (0) (S3 I I I) (S1 I) (by (try dsimp only); exact ⟨Ai _, by simp⟩) ?_
 rintro i hinv1; (try dsimp only at hinv1 ⊢)
 obtain ⟨hi, hok⟩ := hinv1
 refine DP (fun hc17 => ?_) (fun hc17 => ?_)
 ·have hil : i < (kV p).length := by show i < 17; omega
  obtain ⟨y, hy⟩ : ∃ y, Keep (y = (kV p).getD i default) := ⟨_, rfl⟩
  refine E3 ?_; refine DZ ?_
  refine EI ?_
  refine Ns 19 I (v' := .string (S (y))) (congrArg (fun l => Value.string (S l)) (by rw [show y = _ from hy])) ?_
  refine DT ?_; refine Kc I (fun w hS => ay (a := y)) (Eq (fun hc22 => ?_) (fun hc22 => ?_))
  ·have hyn : ¬ okN y := by simpa using hc22
   have hn : ¬ okR p := fun h => hyn (by rw [show y = _ from hy]; exact nf.1 h _ (ap (kV p) i hil))
   refine Cs (to ?_); refine DS ?_; exact R1 I I (by rw [cr, Ab hn]; rfl)
  ·have hyy : okN y := by simpa using hc22
   refine Ck (Xd (Xa (Cg (Kq I (Rz I I I (by omega)) (Km I (Nn (Ly (i + 1) (by (try dsimp only); omega) (S3 I I I) (by refine (Sc ?_ (S0 _)) <;> (rfl)) ?_ (fun _ h => h)))))))); (try dsimp only); exact ⟨hil, az hil hok (by rw [← show y = _ from hy]; exact hyy)⟩
 ·refine AT ?_
  obtain rfl : i = (kV p).length := by show i = 17; have h17 : i ≤ 17 := hi; omega
  rw [Ap] at hok
  have hokR : okR p := nf.2 hok
  have hB8 : 8 < Big := Ay (by decide) fg
  refine Xa (Cs (Kc I (fun w hS => f8 (n := 1) (by omega)) (Kc I (fun w hS => f8 (n := 2) (by omega)) (ET ?_))))
  intro b5
  refine Ng I I (st I I I .tc (by kernel_rfl) I ?_ (by (simp only [Av, Aw]; rfl))) ?_
  ·decide
  intro _
  refine Gq ?_; refine Ka I (Nt (Cq (WC.joinP (σ := Unit) [(1, _), (6, _)] (fun gq => [(67, .bool (decide (¬ (a6 p.mn.1 = 0 ∧ jp p.mn.1 p.mn.2.1 ∧ jp p.mn.1 p.mn.2.2 ∧ dR p.wh.1 p.wh.2.1 ∧ dR p.wh.1 p.wh.2.2))))]) (fun gq => True) (S2 I I) ?_ ?_)))
  ·skip
   refine Cg (E4 ?_); refine Ep ?_; refine Kc I (fun w hS => rU (g := p.mn.1) (by (exact bh hD hS))) (Yj I (Km I (Nc 32 I (fun hg32 => ?_) (fun hg32 => ?_))))
   ·refine T4 I (T4 I (Yp I (Km I (T4 I (T4 I (Yp I (Km I (T4 I (T2 I (Yp I (Km I (T4 I (T2 I (Yp I (Nn (WX.joinP (()) (S2 I I) (by refine (Sc ?_ (S0 _)) <;> ((refine ai rfl ?_; (try dsimp only); (simp [*]; done)))) ?_ (fun _ h => h))))))))))))))))); (try dsimp only); done
   ·refine E4 ?_; refine Ep ?_; refine Gl ?_; refine Kc I (fun w hS => qp (g := p.mn.1) (x := p.mn.2.1) (by assumption)) (Yt I (Yq I (Km I (Nc 42 I (fun hg42 => ?_) (fun hg42 => ?_)))))
    ·refine T4 I (T4 I (Yp I (Km I (T4 I (T2 I (Yp I (Km I (T4 I (T2 I (Yp I (Nn (WX.joinP (()) (S2 I I) (by refine (Sc ?_ (S0 _)) <;> ((refine ai rfl ?_; (try dsimp only); (simp [*]; done)))) ?_ (fun _ h => h))))))))))))); (try dsimp only); done
    ·refine E4 ?_; refine Ep ?_; refine Kq I (Fa (q := 2) I I u30 I I) (Kf 5 I u28 I I I .tc u22 ?_); refine Kc I (fun w hS => qp (g := p.mn.1) (x := p.mn.2.2) (by assumption)) (Yt I (Yq I (Km I (Nc 52 I (fun hg52 => ?_) (fun hg52 => ?_)))))
     ·refine T4 I (T2 I (Yp I (Km I (T4 I (T2 I (Yp I (Nn (WX.joinP (()) (S2 I I) (by refine (Sc ?_ (S0 _)) <;> ((refine ai rfl ?_; (try dsimp only); (simp [*]; done)))) ?_ (fun _ h => h))))))))); (try dsimp only); done
     ·refine Km I (Kq I (Fa (q := 6) I I u30 I I) (Kf 8 I u28 I I I .tc u22 ?_)); refine Ku I (aN I I I (by kernel_rfl) I (Kv fun w hS => qs (p := p) (x := p.wh.2.1) (b1 := b1) (b5 := b5) hS.os hS.os)) (Yt I (Yq I (Km I (Nc 60 I (fun hg60 => ?_) (fun hg60 => ?_)))))
      ·refine T4 I (T2 I (Yp I (Nn (WX.joinP (()) (S2 I I) (by refine (Sc ?_ (S0 _)) <;> ((refine ai rfl ?_; (try dsimp only); (simp [*]; done)))) ?_ (fun _ h => h))))); (try dsimp only); done
      ·refine Km I (Kq I (Fa (q := 6) I I u30 I I) (Kf 9 I u28 I I I .tc u22 ?_)); refine Ku I (aN I I I (by kernel_rfl) I (Kv fun w hS => qs (p := p) (x := p.wh.2.2) (b1 := b1) (b5 := b5) hS.os hS.os)) (Yt I (Yq I (Nn (WX.joinP (()) (S2 I I) (by refine (Sc ?_ (S0 _)) <;> ((refine ai rfl ?_; (try dsimp only); (simp [*]; done)))) ?_ (fun _ h => h))))); (try dsimp only); done
  ·rintro _ hmeet; (try dsimp only at hmeet ⊢); refine Ci I (fun hc67 => ?_) (fun hc67 => ?_)
   ·refine Cs (ne ?_); exact R1 I I (by rw [cr, Aa (fun h => h hokR), Ab (show ¬ ny p from hc67)]; rfl)
   ·have hgr : ny p := Ao.1 hc67; refine Ck (Xa (Cs (E4 ?_))); refine Kf 3 I u26 I I I .tc u22 ?_; refine Ka I (Nt (Cq (Cs (E2 ?_)))); refine Fz ?_; refine F4 ?_; refine F5 ?_; refine F6 ?_; refine Kf 13 I u30 I I I .tc u22 ?_; refine Kf 14 I u30 I I I .tc u22 ?_; refine Kf 15 I u30 I I I .tc u22 ?_; refine Kf 16 I u30 I I I .tc u22 ?_; refine Kh I (aO I I u31 (by kernel_rfl : _ = some (some (.string (S [])), 1, 16)) I (by simp only [List.map]; rfl) I I ?_ (by decide)) ?_
    ·simp [Value.cells]
    intro b92; refine WL.st (fun w h => h.freeze (off := 0) (xs := an (ft p)) (fun i hi => by rw [Az]; rfl)) ?_; refine FW ?_; refine Lp (σ := Nat) [(1, _), (6, _), (8, _), (92, _), (93, _)] (fun gq => [(94, .int .i64 (gq : Int))]) (fun gq => gq ≤ (ft p).length ∧ ∀ x ∈ (ft p).take gq, 2 ≤ val x) (fun gq => (ft p).length - gq) (0) (S5 I I I I I) (S1 I) (by (try dsimp only); exact ⟨Ai _, by simp⟩) ?_; rintro j hinv2; (try dsimp only at hinv2 ⊢); obtain ⟨hj, htw⟩ := hinv2; refine DP (fun hc95 => ?_) (fun hc95 => ?_)
    ·have hjl : j < (ft p).length := by show j < 9; omega
     obtain ⟨y, hy⟩ : ∃ y, Keep (y = (ft p).getD j default) := ⟨_, rfl⟩; have hyo : okN y := by rw [show y = _ from hy]; exact hokR.1 _ (ap (ft p) j hjl)
     refine E3 ?_; refine Fv ?_; refine Kq I (ldf (off0 := 0) (m := j) I I .tc u22 I (Az _).symm (f9 (ft p) (fun s : Bs => Value.string (S s)) j hjl)) ?_; refine Ns 97 I (v' := .string (S (y))) (congrArg (fun l => Value.string (S l)) (by rw [show y = _ from hy])) ?_; refine DT ?_; refine Km I (Kc I (fun w hS => el (a := y) (b := ae 2)) (Yl I (Ns 101 I (v' := .bool (decide (val y < 2))) (congrArg Value.bool (by rw [aB hyo (aq (by omega)), af]; exact Af.2 (ax _ _))) ?_))); refine Nt (Ci I (fun hc101 => ?_) (fun hc101 => ?_))
     ·have hn : ¬ mR p := fun h => by have := h.1 _ (ap (ft p) j hjl); rw [← show y = _ from hy] at this; omega
      refine Cs (to ?_); refine DS ?_; exact R1 I I (by rw [cr, Aa (fun h => h hokR), Aa (fun h => h hgr), Ab hn]; rfl)
     ·refine Ck (Xd (Xa (Cg (Kq I (Rz I I I (by omega)) (Km I (Nn (Ly (j + 1) (by (try dsimp only); omega) (S5 I I I I I) (by refine (Sc ?_ (S0 _)) <;> (rfl)) ?_ (fun _ h => h)))))))); (try dsimp only); exact ⟨hjl, az hjl htw (by rw [← show y = _ from hy]; omega)⟩
    ·refine AT ?_; obtain rfl : j = (ft p).length := by show j = 9; have h9 : j ≤ 9 := hj; omega
     rw [Ap] at htw; have ha : okN p.attr := hokR.1 _ (by simp); have hc : okN p.ch := hokR.1 _ (by simp); have hsc : okN p.sec := hokR.1 _ (by simp); have hq : okN p.mn.1.2 := hokR.2.1.2.1; have hqB := aK hq; have hmu : bG p.attr (ae 8) = if val p.attr * 8 < Big then (ae (val p.attr * 8), 0) else ([], 5) := by rw [bG, Ab ⟨ha, aq hB8⟩, af]
     refine Xa (Cq (Cf [2, 0, 1, 3, 4, 5, 6, 7, 8] [] [0, 0, 1, 1, 0, 0, 0, 0, 0] (by kernel_rfl) (by kernel_rfl) I ?_)); refine Jv I I I I I (fun ext => Oc I I (Kv fun w hS => f8 (n := 8) (by omega))) ?_; refine Kj I (Fa (q := 11) I I u30 I I) (DY ?_); refine Jv I I I I I (fun ext => Oc I I (Kv fun w hS => um (a := p.attr) (b := ae 8))) ?_; refine ER ?_; refine EM ?_; refine WJ.nil ?_; refine Nt (Cq (WC.joinP (σ := Unit) [] (fun gq => [(132, .bool (decide (¬ (8 * val p.attr ≤ val p.mn.1.2 ∧ val p.ch ≤ val p.mn.1.2 ∧ val p.sec ≤ val p.mn.1.2))))]) (fun gq => True) (S0 _) ?_ ?_))
     ·skip
      refine Cg (Km I (Yj I (Ns 111 I (v' := .bool (decide (Big ≤ val p.attr * 8))) (congrArg Value.bool (by rw [hmu]; split <;> simp <;> omega)) ?_))); refine Km I (Nc 112 I (fun hg112 => ?_) (fun hg112 => ?_))
      ·refine T4 I (Yp I (Km I (T4 I (T2 I (Yp I (Km I (T4 I (Kt I (Yp I (Nn (WX.joinP (()) (S0 _) (by refine (Sc ?_ (S0 _)) <;> ((exact congrArg (fun b => some (Value.bool b)) (by symm; apply Am; omega)))) ?_ (fun _ h => h)))))))))))); (try dsimp only); done
      ·refine Km I (Km I (Kc I (fun w hS => el (a := (bG p.attr (ae 8)).1) (b := p.mn.1.2)) (Yg I (Ns 116 I (v' := .bool (decide (val p.mn.1.2 < val p.attr * 8))) (congrArg Value.bool (by rw [hmu, Ab (by omega), aB (aq (by omega)) hq, af]; exact Af.2 (by have := fG (val p.attr * 8) (val p.mn.1.2); omega))) ?_)))); refine Yq I (Km I (Nc 118 I (fun hg118 => ?_) (fun hg118 => ?_)))
       ·refine T4 I (T2 I (Yp I (Km I (T4 I (Kt I (Yp I (Nn (WX.joinP (()) (S0 _) (by refine (Sc ?_ (S0 _)) <;> ((exact congrArg (fun b => some (Value.bool b)) (by symm; apply Am; omega)))) ?_ (fun _ h => h))))))))); (try dsimp only); done
       ·refine E2 ?_; refine Km I (Kc I (fun w hS => el (a := p.ch) (b := p.mn.1.2)) (Yg I (Ns 124 I (v' := .bool (decide (val p.mn.1.2 < val p.ch))) (congrArg Value.bool (by rw [aB hc hq]; exact Af.2 (by have := fG (val p.ch) (val p.mn.1.2); omega))) ?_))); refine Yq I (Km I (Nc 126 I (fun hg126 => ?_) (fun hg126 => ?_)))
        ·refine T4 I (Kt I (Yp I (Nn (WX.joinP (()) (S0 _) (by refine (Sc ?_ (S0 _)) <;> ((refine ai rfl ?_; (try dsimp only); (simp [*]; done)))) ?_ (fun _ h => h))))); (try dsimp only); done
        ·refine Kf 10 I u30 I I I .tc u22 ?_; refine Km I (Kc I (fun w hS => el (a := p.sec) (b := p.mn.1.2)) (Yg I (Ns 131 I (v' := .bool (decide (val p.mn.1.2 < val p.sec))) (congrArg Value.bool (by rw [aB hsc hq]; exact Af.2 (by have := fG (val p.sec) (val p.mn.1.2); omega))) ?_))); refine Yq I (Nn (WX.joinP (()) (S0 _) (by refine (Sc ?_ (S0 _)) <;> ((refine ai rfl ?_; (try dsimp only); (exact Af.2 (by omega))))) ?_ (fun _ h => h))); (try dsimp only); done
     ·rintro _ hmeet; (try dsimp only at hmeet ⊢); refine Ci I (fun hc132 => ?_) (fun hc132 => ?_)
      ·refine Cs (ne ?_); exact R1 I I (by rw [cr, Aa (fun h => h hokR), Aa (fun h => h hgr), Ab (fun h : mR p => hc132 h.2)]; rfl)
      ·refine Ck (Xa (Cs (to ?_))); exact R1 I I (by rw [cr, Aa (fun h => h hokR), Aa (fun h => h hgr), Aa (fun h => h ⟨htw, Ao.1 hc132⟩)]; rfl)
abbrev ikC (k : IK) (r : Value) : List Value := [.string (S k.name), .string (S k.g.1), .string (S k.g.2), .string (S k.z), .string (S k.s), r, .string (S k.u), .string (S k.h)]
abbrev kbs (k : IK) : List (Int × Bs) := (2, k.s) :: (0, k.z) :: (1, k.u) :: (1, k.h) :: k.r.map fun x => ((0 : Int), x)
theorem j6 (k : IK) (Q : Bs → Prop) : (∀ y ∈ kbs k, Q y.2) ↔ ∀ x ∈ bsK k, Q x := by simp [kbs, bsK]
theorem ox {k : IK} {rv : Value} {own0 : List Ent} {ok : Nat → Prop} {w0 : World} {fs : List Fact} {w : World} (hS0 : St ok w0 (own0) (fs) w) :
  Calls Tryz.prog 142 #[ikV k rv] w fun e w' => ∃ g : Nat, e = .returned (.func (.func 189) #[] #[.pointer (some ⟨g, 0, none⟩)]) ∧ St ok w0 (⟨some g, ikC k rv, 33⟩ :: own0) fs w' := by
 refine enter (S := St ok w0 (own0) (fs)) (L := [(0, ikV k rv)]) Tryz.func142 rfl Tryz.ntmps142 rfl (Ac rfl (An _)) hS0 ?_
 refine DO ?_
 intro b1
 refine Gq ?_; refine to ?_
 exact Rn I (.tmp I .nil) fun w' hS => ⟨b1, rfl, hS⟩
theorem yl {σ γ : Type} {CO : σ → γ → List Ent} {pg : σ → γ → Prop} {inv : σ → Int × Bs → Prop} {after : σ → Int × Bs → σ} {stop : σ → Int × Bs → Option Code} {l : Nat} {r : Loop} {ok : Nat → Prop} {w0 : World} {fs : List Fact} {w : World} {k : IK} {a : Option Addr} {c : Nat} {b1 : Nat} {s0 : σ} [∀ s g, HasE (CO s g) b1 (ikC k (.slice a k.r.length c)) 33] [HasF fs a (an k.r)] {g0 : γ} (hY : YOk Tryz.prog l r ok w0 fs CO pg inv after stop (fun y : Int × Bs => #[Value.int .i64 y.1, Value.string (S y.2)])) (hS0 : St ok w0 (CO s0 g0) (Fact.lp l (rcd r none) :: fs) w) (hg0 : pg s0 g0) (hinv : ∀ s y, inv s y) (hl : k.r.length ≤ 140737488351232) :
  Calls Tryz.prog 189 #[.func (.yield l) #[] #[], .pointer (some ⟨b1, 0, none⟩)] w fun e w' => (∃ v, e = .returned v) ∧ ∃ g', ((itL after stop (kbs k) s0).2 = none → pg ((itL after stop (kbs k) s0).1) g') ∧ St ok w0 (CO ((itL after stop (kbs k) s0).1) g') (Fact.lp l (rcd r ((itL after stop (kbs k) s0).2)) :: fs) w' := by
 have hi0 : itL after stop (kbs k) s0 = itL after stop (kbs k) s0 := rfl
 refine enter (S := St ok w0 (CO s0 g0) (Fact.lp l (rcd r none) :: fs)) (L := [(0, .func (.yield l) #[] #[]), (1, .pointer (some ⟨b1, 0, none⟩))]) Tryz.func189 rfl Tryz.ntmps189 rfl (Ac rfl (Ac rfl (An _))) hS0 ?_
 refine Cq (Cs (Km I ?_))
 (refine Kq I (cX I I u33 I (by kernel_rfl) (by (try simp only [sN, Int.reduceToNat, Nat.reduceAdd, Nat.reduceMul, Nat.reduceSub]); rfl)) ?_)
 refine Em ?_
 refine Kh I (dK hY [] (((2 : Int), k.s)) I I I I (hinv _ _) (hg0)) ?_
 intro gy; refine WL.pu ?_; intro hgy; (refine WL.app0 ?_)
 refine Yt I (Km I (Nc 10 I (fun hg10 => ?_) (fun hg10 => ?_)))
 ·have hfin := eX hi0 (by simpa using hg10)
  refine T4 I (Kt I (Yp I (Km I (T4 I (Kt I (Yp I (Km I (T4 I (Kt I (Yp I (Nt (Cd I (fun _ => ?_) (fun h => by cases h)))))))))))))
  refine Ce (Xb ?_)
  exact GD
 ·have hst := Dg.1 hg10
  replace hi0 := eY hi0 hst
  have hp := hgy hst
  rw [hst]
  refine Km I ?_
  (refine Kq I (cX I I u33 I (by kernel_rfl) (by (try simp only [sN, Int.reduceToNat, Nat.reduceAdd, Nat.reduceMul, Nat.reduceSub]); rfl)) ?_)
  refine Em ?_
  refine Kh I (dK hY [] (((0 : Int), k.z)) I I I I (hinv _ _) (hp)) ?_
  intro gy; refine WL.pu ?_; intro hgy; (refine WL.app0 ?_)
  refine Yt I (Yq I (Km I (Nc 17 I (fun hg17 => ?_) (fun hg17 => ?_))))
  ·have hfin := eX hi0 (by simpa using hg17); refine T4 I (Kt I (Yp I (Km I (T4 I (Kt I (Yp I (Nt (Cd I (fun _ => ?_) (fun h => by cases h))))))))); refine Ce (Xb ?_); exact GD
  ·have hst := Dg.1 hg17; replace hi0 := eY hi0 hst; have hp := hgy hst; rw [hst]; refine Km I ?_; (refine Kq I (cX I I u33 I (by kernel_rfl) (by (try simp only [sN, Int.reduceToNat, Nat.reduceAdd, Nat.reduceMul, Nat.reduceSub]); rfl)) ?_); refine Em ?_; refine Kh I (dK hY [] (((1 : Int), k.u)) I I I I (hinv _ _) (hp)) ?_; intro gy; refine WL.pu ?_; intro hgy; (refine WL.app0 ?_); refine Yt I (Yq I (Km I (Nc 24 I (fun hg24 => ?_) (fun hg24 => ?_))))
   ·have hfin := eX hi0 (by simpa using hg24); refine T4 I (Kt I (Yp I (Nt (Cd I (fun _ => ?_) (fun h => by cases h))))); refine Ce (Xb ?_); exact GD
   ·have hst := Dg.1 hg24; replace hi0 := eY hi0 hst; have hp := hgy hst; rw [hst]; refine Km I ?_; (refine Kq I (cX I I u33 I (by kernel_rfl) (by (try simp only [sN, Int.reduceToNat, Nat.reduceAdd, Nat.reduceMul, Nat.reduceSub]); rfl)) ?_); refine Em ?_; refine Kh I (dK hY [] (((1 : Int), k.h)) I I I I (hinv _ _) (hp)) ?_; intro gy; refine WL.pu ?_; intro hgy; (refine WL.app0 ?_); refine EP (fun hc30 => ?_) (fun hc30 => ?_)
    ·have hfin := eX hi0 (by simpa using hc30); refine Ce (Xb ?_); exact GD
    ·have hst := Dg.1 hc30; replace hi0 := eY hi0 hst; have hp := hgy hst; rw [hst]; refine Ck (Xa (Cs ?_)); (refine Kq I (cX I I u33 I (by kernel_rfl) (by (try simp only [sN, Int.reduceToNat, Nat.reduceAdd, Nat.reduceMul, Nat.reduceSub]); rfl)) ?_); refine Kq I (Ld I I .tc u31) ?_; refine FW ?_; refine Lo (σ := Nat × σ × γ) [(0, _), (32, _), (33, _)] (fun gq => [(34, .int .i64 (gq.1 : Int))]) (fun gq => gq.1 ≤ k.r.length ∧ pg gq.2.1 gq.2.2 ∧ itL after stop ((k.r.drop gq.1).map fun x => ((0 : Int), x)) gq.2.1 = itL after stop (kbs k) s0) (fun gq => k.r.length - gq.1) (fun gq => CO gq.2.1 gq.2.2) (fun gq => Fact.lp l (rcd r none) :: fs) (0, after (after (after (after s0 (2, k.s)) (0, k.z)) (1, k.u)) (1, k.h), gy) (S3 I I I) (S1 I) (by (try dsimp only); exact ⟨Ai _, hp, hi0⟩) (fun _ h => h) ?_; rintro ⟨i, s, g⟩ hinv1; (try dsimp only at hinv1 ⊢); obtain ⟨hi, hgs, hit⟩ := hinv1; refine DP (fun hc35 => ?_) (fun hc35 => ?_)
     ·have hil : i < k.r.length := by omega
      have hdr : (k.r.drop i).map (fun x => ((0 : Int), x)) = (0, k.r.getD i default) :: (k.r.drop (i + 1)).map (fun x => ((0 : Int), x)) := by
       rw [Bo hil, Dr]; congr 2; simp [List.getD, hil]
      rw [hdr] at hit; refine E3 ?_; refine DZ ?_; refine EI ?_; refine DT ?_; refine Km I (Kh I (dK hY [] (((0 : Int), k.r.getD i default)) I I I I (hinv _ _) (hgs)) ?_); intro gy; refine WL.pu ?_; intro hgy; (refine WL.app0 ?_); refine Eq (fun hc41 => ?_) (fun hc41 => ?_)
      ·have hfin := eX hit (by simpa using hc41); refine Ce (Xf (Xb (Xb (Xf ?_)))); exact GD
      ·have hst := Dg.1 hc41; replace hit := eY hit hst; rw [hst]; refine Ck (Xd (Xa (Cg (Kq I (Rz I I I (by omega)) (Km I (Nn (Lx ((i + 1, after s (0, k.r.getD i default), gy)) (by (try dsimp only); omega) (S3 I I I) (by refine (Sc ?_ (S0 _)) <;> (rfl)) ?_ (fun _ h => h)))))))); (try dsimp only); exact ⟨by omega, hgy hst, hit⟩
     ·refine AT ?_; obtain rfl : i = k.r.length := by omega
      have hfin : (s, none) = itL after stop (kbs k) s0 := by rw [← hit, List.drop_length]; rfl
      refine WX.ret_normal ?_; exact Rn I .nil fun w' hS => ⟨⟨_, rfl⟩, g, fun _ => by rw [← hfin]; exact hgs, by rw [← hfin]; exact au _ hS⟩
def sW (s : Int) (y : Int × Bs) : Int := if okN y.2 then s else 3
def rq (_ : Int) (y : Int × Bs) : Option Code := if okN y.2 then none else some .ret
abbrev elJ (k : IK) (y : Int × Bs) : Prop := elG k.g y.2 ∧ ¬ (y.1 = 2 ∧ y.2 = ae 1)
def sX (k : IK) (s : Int) (y : Int × Bs) : Int := if elJ k y then s else 13
def ru (k : IK) (_ : Int) (y : Int × Bs) : Option Code := if elJ k y then none else some .ret
theorem qP (k : IK) : (∀ y ∈ kbs k, elJ k y) ↔ ((∀ x ∈ bsK k, elG k.g x) ∧ k.s ≠ ae 1) := by
 constructor
 ·intro h
  refine ⟨(j6 k (fun x => elG k.g x)).1 fun y hy => (h y hy).1, fun e => (h (2, k.s) (by simp [kbs])).2 ⟨rfl, e⟩⟩
 ·rintro ⟨h, hs⟩ y hy
  refine ⟨(j6 k (fun x => elG k.g x)).2 h y hy, ?_⟩
  rintro ⟨h2, h1⟩
  simp [kbs] at hy
  rcases hy with rfl | rfl | rfl | rfl | ⟨x, _, rfl⟩
  ·exact hs h1
  all_goals simp at h2
abbrev KCO (p : PR) (k : IK) (rv : Value) (b2 b3 b4 g : Nat) (s : Int) (_ : Unit) : List Ent := [⟨some g, ikC k rv, 33⟩, ⟨some b4, [.int .i64 s], 47⟩, ⟨some b3, ikC k rv, 33⟩, ⟨some b2, prC p, 30⟩]
theorem uE {p : PR} {k : IK} {a : Option Addr} {c : Nat} {w : World} {ok : Nat → Prop} (hF1 : (Fact.sl a (an k.r)).holds ok w) (hm8 : p.mn.1.1.length ≤ 8) (hk8 : k.g.1.length ≤ 8) (hl : k.r.length ≤ 140737488351232) (hnl : k.name.length ≤ 140737488351232) (hD : TabD w) :
  Cw 82 #[prV p, ikV k (.slice a k.r.length c)] w (.int .i64 (bK p k)) := by
 have hitV : itL sW rq (kbs k) 0 = if ∀ y ∈ kbs k, okN y.2 then (0, none) else (3, some Code.ret) := nw (fun y : Int × Bs => okN y.2) 3 (kbs k) 0
 have hitE : itL (sX k) (ru k) (kbs k) 0 = if ∀ y ∈ kbs k, elJ k y then (0, none) else (13, some Code.ret) := nw (elJ k) 13 (kbs k) 0
 refine li (S := St (fun _ => True) w [] ([Fact.sl a (an k.r)])) (L := [(0, prV p), (1, ikV k (.slice a k.r.length c))]) Tryz.func82 rfl Tryz.ntmps82 rfl (Ac rfl (Ac rfl (An _))) (St.start (fun _ _ => trivial) (Fc (ah hF1) Fn)) ?_
 refine DO ?_
 intro b2
 refine EW ?_
 intro b3
 refine FV ?_
 intro b4
 refine Nt (Cq (Cs (Kq I (lda I I .tc u30 I ?_) ?_)))
 ·kernel_rfl
 refine Gv ?_; refine DT ?_; refine EL (fun hc13 => ?_) (fun hc13 => ?_)
 ·refine Cs (Km I (Ng I I (st I I I .tc (by kernel_rfl) I ?_ (by (simp only [Av, Aw]; rfl))) ?_))
  ·decide
  intro _
  refine Nt (Ce (Xb ?_))
  exact WX.retM0 rfl (.one rfl .tc u47 rfl .nil) fun w' hS => ⟨by rw [bK, Ab (by simpa using hc13)]; rfl, hS.below⟩
 ·have h0 : cr p = 0 := by simpa using hc13
  refine Ck (Xa (Cq (WC.joinP (σ := Unit) [(3, _), (4, _)] (fun gq => [(26, .bool (decide (¬ (okN k.g.1 ∧ okN k.g.2))))]) (fun gq => True) (S2 I I) ?_ ?_)))
  ·skip
   refine Cg (FM ?_); refine EE ?_; refine Kc I (fun w hS => ay (a := k.g.1)) (Yt I (Km I (Nc 20 I (fun hg20 => ?_) (fun hg20 => ?_))))
   ·refine T4 I (Kt I (Yp I (Nn (WX.joinP (()) (S2 I I) (by refine (Sc ?_ (S0 _)) <;> ((refine ai rfl ?_; (try dsimp only); (simp [*]; done)))) ?_ (fun _ h => h))))); (try dsimp only); done
   ·refine Kq I (Fa (q := 1) I I u33 I I) (Kf 2 I u26 I I I .tc u22 ?_); refine Kc I (fun w hS => ay (a := k.g.2)) (Yt I (Yq I (Nn (WX.joinP (()) (S2 I I) (by refine (Sc ?_ (S0 _)) <;> ((refine ai rfl ?_; (try dsimp only); (simp [*]; done)))) ?_ (fun _ h => h))))); (try dsimp only); done
  ·rintro _ hmeet; (try dsimp only at hmeet ⊢); refine Ci I (fun hc26 => ?_) (fun hc26 => ?_)
   ·refine Cs (Ng I I (st I I I .tc (by kernel_rfl) I ?_ (by (simp only [Av, Aw]; rfl))) ?_)
    ·decide
    intro _; refine Nt (Ce (Xb ?_)); exact WX.retM0 I (.one I .tc u47 I .nil) fun w' hS => ⟨by rw [bK, Aa (fun h => h h0), Ab (fun h => hc26 h.1)]; rfl, hS.below⟩
   ·have hgo : okN k.g.1 ∧ okN k.g.2 := Ao.1 hc26; refine Ck (Xa (Cq (Cs (Kq I (lda I I .tc u33 I ?_) ?_))))
    ·kernel_rfl
    refine Kh I (Oc I I (fun w hS => ox (k := k) (rv := .slice a k.r.length c) hS)) ?_; intro g28; refine Nt (Cb (WC.range (CO := KCO p k (.slice a k.r.length c) b2 b3 b4 g28) (pg := fun _ _ => True) (inv := fun _ _ => True) (after := sW) (stop := rq) (enc := fun y : Int × Bs => #[Value.int .i64 y.1, Value.string (S y.2)]) ((0 : Int)) (()) ((itL sW rq (kbs k) 0).1) ((itL sW rq (kbs k) 0).2) (trivial) I (by kernel_rfl) (fun _ => rfl) (by exact fun w h => h) ?_ (fun l r D w hl' hY hS => yl (k := k) (a := a) (c := c) (b1 := g28) hY hS trivial (fun _ _ => trivial) hl) ?_ ?_))
    ·intro l r D f a s g x ext wr hl hi hpg hF hS; rw [yo]; refine eS (Fr.tm ((hF.put (d := 29) rfl _).put (d := 30) rfl _)) hS ?_; refine FI ?_; refine Ka I (Nn (WX.begin hl ?_)); refine Cb (Ga ?_); refine Km I (Kc I (fun w hS => ay (a := x.2)) (Eq (fun hc33 => ?_) (fun hc33 => ?_)))
     ·refine Ga ?_; refine Ng I I (st I I I .tc (by kernel_rfl) I ?_ (by (simp only [Av, Aw]; rfl))) ?_
      ·(simp; done)
      intro _; refine Nt (Ce (Xf ?_))
      exact WX.rret hl fun w' hS => by
       have h1 : ¬ okN x.2 := by simpa using hc33
       have h2 : rq s x = some .ret := Aa h1; have h3 : sW s x = 3 := Aa h1; rw [h2, h3]; exact ⟨rfl, (), fun h => (by cases h), hS⟩
     ·refine Ck (Xd ?_)
      exact WX.rnext hl fun w' hS => by
       have h1 : okN x.2 := by simpa using hc33
       have h2 : rq s x = none := Ab h1; have h3 : sW s x = s := Ab h1; rw [h2, h3]; exact ⟨rfl, (), fun _ => trivial, hS⟩
    ·intro D1 g1 hD1 hg1 hcf; have hv : ∀ y ∈ kbs k, okN y.2 := A1 fun h => by rw [hitV, Aa h] at hcf; cases hcf
     rw [hitV, Ab hv]; have hok2 : (okN k.g.1 ∧ okN k.g.2) ∧ ∀ x ∈ bsK k, okN x := ⟨hgo, (j6 k okN).1 hv⟩; refine Xd (Xa (Cq (Cb (Cs (Kf 0 I u33 I I I .tc u9 ?_))))); refine Kc I (fun w hS => uA (s := k.name) (by assumption)) (Yt I (Ka I (Nt (Ci I (fun hc34 => ?_) (fun hc34 => ?_)))))
     ·refine Cs (Ng I I (st I I I .tc (by kernel_rfl) I ?_ (by (simp only [Av, Aw]; rfl))) ?_)
      ·decide
      intro _; refine Nt (Ce (Xf (Xb ?_))); exact WX.retM1 hD1 I (.one I .tc u47 I .nil) fun w' hS => ⟨by rw [bK, Aa (fun h => h h0), Aa (fun h => h hok2), Ab (by simpa using hc34)]; rfl, hS.below⟩
     ·have hnm : ey k.name := by simpa using hc34
      refine WC.joinP (σ := Unit) [(3, _), (4, _)] (fun gq => [(39, .bool (decide (k.g.2 ≠ [] ∨ aU k.g ≠ 0)))]) (fun gq => True) (S2 I I) ?_ ?_
      ·skip
       refine Cg (FM ?_); refine Kf 2 I u26 I I I .tc u22 ?_; refine Yr I (Km I (Nc 44 I (fun hg44 => ?_) (fun hg44 => ?_)))
       ·refine T4 I (Yp I (Ka I (Nn (WX.joinP (()) (S2 I I) (by refine (Sc ?_ (S0 _)) <;> ((refine ai rfl ?_; (try dsimp only); (simp [*]; done)))) ?_ (fun _ h => h))))); (try dsimp only); done
       ·refine Kq I (Fa (q := 1) I I u33 I I) (Kq I (ldp I I .tc u26 I (by kernel_rfl : _ = some 2) (by rfl) (by rfl)) ?_); refine Kc I (fun w hS => iC (g := k.g)) (Yj I (Yq I (Ka I (Nn (WX.joinP (()) (S2 I I) (by refine (Sc ?_ (S0 _)) <;> ((refine ai rfl ?_; (try dsimp only); (simp [*]; done)))) ?_ (fun _ h => h)))))); (try dsimp only); done
      ·rintro _ hmeet; (try dsimp only at hmeet ⊢); refine Ci I (fun hc39 => ?_) (fun hc39 => ?_)
       ·refine Cs (Ng I I (st I I I .tc (by kernel_rfl) I ?_ (by (simp only [Av, Aw]; rfl))) ?_)
        ·decide
        intro _; refine Nt (Ce (Xf (Xb ?_))); exact WX.retM1 hD1 I (.one I .tc u47 I .nil) fun w' hS => ⟨by rw [bK, Aa (fun h => h h0), Aa (fun h => h hok2), Aa (fun h => h hnm), Ab hc39]; rfl, hS.below⟩
       ·have hcg : aU k.g = 0 := A1 fun h => hc39 (Or.inr h)
        refine WC.joinP (σ := Unit) [(3, _), (4, _)] (fun gq => [(50, .bool (decide (k.r.length < 2 ∨ 18 < k.r.length)))]) (fun gq => True) (S2 I I) ?_ ?_
        ·skip
         refine Cg (FQ ?_); refine Yo I u31 (Yl I (Km I (Nc 55 I (fun hg55 => ?_) (fun hg55 => ?_))))
         ·refine T4 I (Yp I (Ka I (Nn (WX.joinP (()) (S2 I I) (by refine (Sc ?_ (S0 _)) <;> ((exact congrArg (fun b => some (Value.bool b)) (by symm; apply Am; omega)))) ?_ (fun _ h => h))))); (try dsimp only); done
         ·refine Kf 5 I u33 I I I .tc u31 ?_; refine Yo I u31 (Yg I (Yq I (Ka I (Nn (WX.joinP (()) (S2 I I) (by refine (Sc ?_ (S0 _)) <;> ((refine ai rfl ?_; (try dsimp only); (exact Af.2 (by omega))))) ?_ (fun _ h => h)))))); (try dsimp only); done
        ·rintro _ hmeet; (try dsimp only at hmeet ⊢); refine Ci I (fun hc50 => ?_) (fun hc50 => ?_)
         ·refine Cs (Ng I I (st I I I .tc (by kernel_rfl) I ?_ (by (simp only [Av, Aw]; rfl))) ?_)
          ·decide
          intro _; refine Nt (Ce (Xf (Xb ?_))); exact WX.retM1 hD1 I (.one I .tc u47 I .nil) fun w' hS => ⟨by rw [bK, Aa (fun h => h h0), Aa (fun h => h hok2), Aa (fun h => h hnm), Aa hc39, Ab hc50]; rfl, hS.below⟩
         ·refine Ck (Xd (Xa (Cq (Cs (Kq I (lda I I .tc u33 I ?_) ?_)))))
          ·kernel_rfl
          refine Kh I (Oc I I (fun w hS => ox (k := k) (rv := .slice a k.r.length c) hS)) ?_; intro g62; refine Nt (Cb (WC.range2 (CO := KCO p k (.slice a k.r.length c) b2 b3 b4 g62) (pg := fun _ _ => True) (inv := fun _ _ => True) (after := sX k) (stop := ru k) (enc := fun y : Int × Bs => #[Value.int .i64 y.1, Value.string (S y.2)]) ((0 : Int)) (()) ((itL (sX k) (ru k) (kbs k) 0).1) ((itL (sX k) (ru k) (kbs k) 0).2) (trivial) I (by kernel_rfl) (fun _ => rfl) (by exact fun w h => au w h) ?_ (fun l r D w hl' hY hS => yl (k := k) (a := a) (c := c) (b1 := g62) hY hS trivial (fun _ _ => trivial) hl) ?_ ?_))
          ·intro l r D f a s g x ext wr hl hi hpg hF hS; rw [yo]; refine eS (Fr.tm ((hF.put (d := 63) rfl _).put (d := 64) rfl _)) hS ?_; refine Ga ?_; refine Ka I (Nt (FI ?_)); refine Ka I (Nn (WX.begin hl ?_)); refine Cb (WC.joinP (σ := Unit) [(4, _)] (fun gq => [(78, .bool (decide (¬ elJ k x)))]) (fun gq => True) (S1 I) ?_ ?_)
           ·skip
            refine FI ?_; refine FM ?_; refine Ep ?_; refine Km I (Kc I (fun w hS => iz (g := k.g) (x := x.2) (by assumption)) (Ns 68 I (v' := .bool (decide (elG k.g x.2))) (congrArg Value.bool (by simp [hcg])) ?_)); refine Yt I (Km I (Nc 70 I (fun hg70 => ?_) (fun hg70 => ?_)))
            ·refine T4 I (T2 I (Kt I (Yp I (Nn (WX.joinP (()) (S1 I) (by refine (Sc ?_ (S0 _)) <;> ((refine ai rfl ?_; (try dsimp only); (simp [*]; done)))) ?_ (fun _ h => h)))))); (try dsimp only); done
            ·refine Km I (Yi I (Km I (Nc 73 I (fun hg73 => ?_) (fun hg73 => ?_))))
             ·refine Km I (Kc I (fun w hS => f8 (by (dsimp only; omega))) (Ys I (Yp I (Yq I (Nn (WX.joinP (()) (S1 I) (by refine (Sc ?_ (S0 _)) <;> ((refine ai rfl ?_; (try dsimp only); (simp [*]; done)))) ?_ (fun _ h => h))))))); (try dsimp only); done
             ·refine T2 I (Kt I (Yq I (Yq I (Nn (WX.joinP (()) (S1 I) (by refine (Sc ?_ (S0 _)) <;> ((refine ai rfl ?_; (try dsimp only); (simp [*]; done)))) ?_ (fun _ h => h)))))); (try dsimp only); done
           ·rintro _ hmeet; (try dsimp only at hmeet ⊢); refine Ci I (fun hc78 => ?_) (fun hc78 => ?_)
            ·refine Ga ?_; refine Ng I I (st I I I .tc (by kernel_rfl) I ?_ (by (simp only [Av, Aw]; rfl))) ?_
             ·(simp; done)
             intro _; refine Nt (Ce (Xf ?_))
             exact WX.rret hl fun w' hS => by
              have h1 : ¬ elJ k x := hc78; have h2 : ru k s x = some .ret := Aa h1; have h3 : sX k s x = 13 := Aa h1; rw [h2, h3]; exact ⟨rfl, (), fun h => (by cases h), hS⟩
            ·refine Ck (Xd ?_)
             exact WX.rnext hl fun w' hS => by
              have h1 : elJ k x := Ao.1 hc78; have h2 : ru k s x = none := Ab h1; have h3 : sX k s x = s := Ab h1; rw [h2, h3]; exact ⟨rfl, (), fun _ => trivial, hS⟩
          ·intro D2 g2 hD2 hne2 hg2 hcf; have hv2 : ∀ y ∈ kbs k, elJ k y := A1 fun h => by rw [hitE, Aa h] at hcf; cases hcf
           rw [hitE, Ab hv2]; refine Xd (Xa (Cs (Ng I I (st I I I .tc (by kernel_rfl) I ?_ (by (simp only [Av, Aw]; rfl))) ?_)))
           ·decide
           intro _; refine Nt (Ce ?_); exact WX.retM2 hD1 hD2 (hne2 _ (by simp)) I (.one I .tc u47 I .nil) fun w' hS => ⟨by rw [bK, Aa (fun h => h h0), Aa (fun h => h hok2), Aa (fun h => h hnm), Aa hc39, Aa hc50, Aa (fun h => h ((qP k).1 hv2))]; rfl, hS.below⟩
          ·intro D2 g2 c hD2 hne2 hcf; obtain rfl : c = .ret := by (rw [hitE] at hcf; split at hcf <;> (cases hcf <;> rfl))
           refine Ce ?_; have hn : ¬ ∀ y ∈ kbs k, elJ k y := fun h => by rw [hitE, Ab h] at hcf; cases hcf
           rw [hitE, Aa hn]; refine Xf (Xb ?_); exact WX.retM2 hD1 hD2 (hne2 _ (by simp)) I (.one I .tc u47 I .nil) fun w' hS => ⟨by rw [bK, Aa (fun h => h h0), Aa (fun h => h hok2), Aa (fun h => h hnm), Aa hc39, Aa hc50, Ab (fun h => hn ((qP k).2 h))]; rfl, hS.below⟩
    ·intro D1 g1 c hD1 hcf; obtain rfl : c = .ret := by (rw [hitV] at hcf; split at hcf <;> (cases hcf <;> rfl))
     refine Ce ?_; have hn : ¬ ∀ y ∈ kbs k, okN y.2 := fun h => by rw [hitV, Ab h] at hcf; cases hcf
     rw [hitV, Aa hn]; refine Xf (Xb ?_); exact WX.retM1 hD1 I (.one I .tc u47 I .nil) fun w' hS => ⟨by rw [bK, Aa (fun h => h h0), Ab (fun h => hn ((j6 k okN).2 h.2))]; rfl, hS.below⟩
abbrev Tm := Bs × Int × Zs
abbrev Qn := Int × Bs × List Tm
abbrev Sm := List Gp × List Bs × List Qn
abbrev tmC (t : Tm) : List Value := [.string (S t.1), .int .i64 t.2.1, .bool t.2.2.1, .string (S t.2.2.2)]
abbrev tms (l : List Tm) : List Value := l.flatMap tmC
abbrev QA := Qn × Option Addr × Nat
abbrev qaC (q : QA) : List Value := [.int .i64 q.1.1, .string (S q.1.2.1), .slice q.2.1 q.1.2.2.length q.2.2]
abbrev qas (l : List QA) : List Value := l.flatMap qaC
abbrev gpC (g : Gp) : List Value := [.string (S g.1), .string (S g.2)]
abbrev gps (l : List Gp) : List Value := l.flatMap gpC
abbrev vrC (v : Bs) : List Value := [.string (S v)]
abbrev vrs (l : List Bs) : List Value := l.flatMap vrC
abbrev qaF (q : QA) : Fact := Fact.sl q.2.1 (tms q.1.2.2)
structure SA where
 gs : List Gp
 vs : List Bs
 es : List QA
 ga : Option Addr
 gc : Nat
 va : Option Addr
 vc : Nat
 ea : Option Addr
 ec : Nat
abbrev SA.core (s : SA) : Sm := (s.gs, s.vs, s.es.map (·.1))
abbrev saV (s : SA) : Value := .agg #[.slice s.ga s.gs.length s.gc, .slice s.va s.vs.length s.vc, .slice s.ea s.es.length s.ec]
abbrev saF (s : SA) : List Fact := Fact.sl s.ga (gps s.gs) :: Fact.sl s.va (vrs s.vs) :: Fact.sl s.ea (qas s.es) :: s.es.map qaF
def saL (s : SA) : Prop := s.gs.length ≤ 100000 ∧ s.vs.length ≤ 100000 ∧ s.es.length ≤ 100000 ∧ (∀ q ∈ s.es, q.1.2.2.length ≤ 100000) ∧ ∀ g ∈ s.gs, g.1.length ≤ 8
def okT (nv : Nat) (t : Tm) : Prop := (0 ≤ t.2.1 ∧ t.2.1 < nv) ∧ okN t.1 ∧ okZ t.2.2
instance (nv : Nat) (t : Tm) : Decidable (okT nv t) := inferInstanceAs (Decidable (_ ∧ _))
def AR (ng : Nat) (q : Qn) : Prop := (0 ≤ q.1 ∧ q.1 < ng) ∧ okN q.2.1
instance (ng : Nat) (q : Qn) : Decidable (AR ng q) := inferInstanceAs (Decidable (_ ∧ _))
def okQ (ng nv : Nat) (q : Qn) : Prop := AR ng q ∧ ∀ t ∈ q.2.2, okT nv t
instance (ng nv : Nat) (q : Qn) : Decidable (okQ ng nv q) := inferInstanceAs (Decidable (_ ∧ _))
def okG (g : Gp) : Prop := okN g.1 ∧ okN g.2
instance (g : Gp) : Decidable (okG g) := inferInstanceAs (Decidable (_ ∧ _))
def cO (s : Sm) : Prop := (∀ g ∈ s.1, okG g) ∧ (∀ v ∈ s.2.1, okN v) ∧ ∀ q ∈ s.2.2, okQ s.1.length s.2.1.length q
instance (s : Sm) : Decidable (cO s) := inferInstanceAs (Decidable (_ ∧ _))
def fV (s : Sm) : Prop := (s.1.length ≤ 8 ∧ s.2.1.length ≤ 64 ∧ s.2.2.length ≤ 64) ∧ ∀ q ∈ s.2.2, q.2.2.length ≤ 64
instance (s : Sm) : Decidable (fV s) := inferInstanceAs (Decidable (_ ∧ _))
def elQ (gs : List Gp) (q : Qn) : Prop := elG (gs.getD q.1.toNat default) q.2.1 ∧ ∀ t ∈ q.2.2, elG (gs.getD q.1.toNat default) t.1
instance (gs : List Gp) (q : Qn) : Decidable (elQ gs q) := inferInstanceAs (Decidable (_ ∧ _))
def elS (s : Sm) : Prop := (∀ g ∈ s.1, aU g = 0) ∧ ∀ q ∈ s.2.2, elQ s.1 q
instance (s : Sm) : Decidable (elS s) := inferInstanceAs (Decidable (_ ∧ _))
def fK (gs : List Gp) : Bs := ((gs.find? fun g => decide (g.2 ≠ [])).map (·.2)).getD []
def kdQ (gs : List Gp) (vs : List Bs) (q : Qn) : Prop := (gs.getD q.1.toNat default).2 ≠ [] ∨ ∀ t ∈ q.2.2, vs.getD t.2.1.toNat default ≠ []
instance (gs : List Gp) (vs : List Bs) (q : Qn) : Decidable (kdQ gs vs q) := inferInstanceAs (Decidable (_ ∨ _))
def kdS (s : Sm) : Prop := (∀ v ∈ s.2.1, v ≠ []) ∨ (fK s.1 ≠ [] ∧ ∀ g ∈ s.1, ¬ (g.2 ≠ [] ∧ g.2 ≠ fK s.1)) ∧ ∀ q ∈ s.2.2, kdQ s.1 s.2.1 q
instance (s : Sm) : Decidable (kdS s) := inferInstanceAs (Decidable (_ ∨ _))
def nE (s : Sm) : Int := if ¬ cO s then 3 else if ¬ fV s then 6 else if ¬ elS s then 13 else if ¬ kdS s then 10 else 0
def jO (s : Sm) (w : List Zs) : Int := if ¬ cO s then 3 else if ¬ (∀ x ∈ w, okZ x) then 3 else if nE s ≠ 0 then nE s else if w.length ≠ s.2.1.length then 6 else 0
def gU : List Int → Int
 | [] => 0
 | e :: l => if e ≠ 0 then e else gU l
abbrev exT (w : List Zs) (t : Tm) : Zs × Int := bP t.2.2 (w.getD t.2.1.toNat default)
def exQ (w : List Zs) (q : Qn) : List Zs × Int := if gU (q.2.2.map fun t => (exT w t).2) ≠ 0 then ([], gU (q.2.2.map fun t => (exT w t).2)) else (q.2.2.map fun t => (exT w t).1, 0)
def imQ (gs : List Gp) (w : List Zs) (q : Qn) : Bs × Int := if (exQ w q).2 ≠ 0 then ([], (exQ w q).2) else bL (gs.getD q.1.toNat default) (q.2.2.map (·.1)) (exQ w q).1
def imS (s : Sm) (w : List Zs) : List Bs × Int := if gU (s.2.2.map fun q => (imQ s.1 w q).2) ≠ 0 then ([], gU (s.2.2.map fun q => (imQ s.1 w q).2)) else (s.2.2.map fun q => (imQ s.1 w q).1, 0)
def inV (q v : Bs) (x : Zs) : Prop := if v = [] then x.1 = false ∧ val x.2 < val q else val x.2 < val v
instance (q v : Bs) (x : Zs) : Decidable (inV q v x) := by unfold inV; infer_instance
def inR (s : Sm) (w : List Zs) : Prop := ∀ i, i < s.2.1.length → inV (fK s.1) (s.2.1.getD i default) (w.getD i default)
instance (s : Sm) (w : List Zs) : Decidable (inR s w) := inferInstanceAs (Decidable (∀ i, i < s.2.1.length → _))
def k6 (s : Sm) (w : List Zs) : Bool × Int :=
 if jO s w ≠ 0 then (false, jO s w) else if ¬ inR s w then (false, 0) else if (imS s w).2 ≠ 0 then (false, (imS s w).2) else (decide ((imS s w).1 = s.2.2.map (·.2.1)), 0)
theorem su {l : List Int} : gU l = 0 ↔ ∀ e ∈ l, e = 0 := by
 induction l with
 | nil => simp [gU]
 | cons e l ih =>
  rw [gU]; split
  ·rename_i h; simp [h]
  ·rename_i h; rw [ih]; simp; intro _; exact Ao.1 h
theorem uV {a b : List Int} (h : ∀ e ∈ a, e = 0) : gU (a ++ b) = gU b := by
 induction a with
 | nil => rfl
 | cons e l ih => rw [List.cons_append, gU, Aa (by simp [h e]), ih fun x hx => h x (Dk _ hx)]
theorem aV {α : Type} [Inhabited α] {l : List α} {i : Nat} (h : i < l.length) : l.take (i + 1) = l.take i ++ [l.getD i default] := by
 rw [Bt, Ad h, List.getD_eq_getElem?_getD, Ad h]; rfl
theorem nS {α : Type} [Inhabited α] {l : List α} {i : Nat} (h : i < l.length) : l = l.take i ++ l.getD i default :: l.drop (i + 1) := by
 rw [← List.singleton_append, ← Cl, ← aV h, Dt]
theorem qO {α : Type} [Inhabited α] {l : List α} {f : α → Int} {i : Nat} (h : i < l.length) (h0 : ∀ x ∈ l.take i, f x = 0) (h1 : f (l.getD i default) ≠ 0) : gU (l.map f) = f (l.getD i default) := by
 conv => lhs; rw [nS h]
 rw [B7, uV (by intro e he; obtain ⟨x, hx, rfl⟩ := B9.1 he; exact h0 x hx), Dr, gU, Ab h1]
theorem oD {α : Type} {l : List α} {f : α → Int} (h0 : ∀ x ∈ l, f x = 0) : gU (l.map f) = 0 := su.2 (by simpa using h0)
theorem eZ {l : List QA} {p : Qn → Prop} : (∀ q ∈ l.map (·.1), p q) ↔ ∀ q ∈ l, p q.1 := by simp
theorem w8 {gs : List Gp} {i : Nat} (h : i < gs.length) (h0 : ∀ g ∈ gs.take i, g.2 = []) (h1 : (gs.getD i default).2 ≠ []) : fK gs = (gs.getD i default).2 := by
 have e : gs.find? (fun g => decide (g.2 ≠ [])) = some (gs.getD i default) := by
  conv => lhs; rw [nS h]
  rw [List.find?_append, List.find?_eq_none.2 (by simpa using h0), List.find?_cons_of_pos (by simpa using h1)]; rfl
 rw [fK, e]; rfl
theorem ug {gs : List Gp} (h0 : ∀ g ∈ gs, g.2 = []) : fK gs = [] := by
 rw [fK, List.find?_eq_none.2 (by simpa using h0)]; rfl
theorem uf {gs : List Gp} (h : ∀ g ∈ gs, okG g) : okN (fK gs) := by
 rw [fK]; cases e : gs.find? (fun g => decide (g.2 ≠ [])) with
 | none => exact qt
 | some g => exact (h g (List.mem_of_find?_eq_some e)).2
abbrev Un (m x : Nat) : Prop := Nat.gcd x m = 1
theorem tb {m x : Nat} (n : Nat) (h : Un m x) : Un m (x ^ n) := Nat.Coprime.pow_left n h
theorem yB {m x : Nat} : Un m (x % m) ↔ Un m x := by unfold Un; rw [← Nat.gcd_rec, Nat.gcd_comm]
theorem oS {m x : Nat} (hm : 0 < m) (h : Un m x) : x * dB x m % m = 1 % m := by
 obtain ⟨y, hy⟩ := uJ hm h; exact sm hm hy
theorem vS {m x : Nat} (hm : 0 < m) (h : Un m x) : Un m (dB x m) := nO (x := x) (by rw [Aj]; exact oS hm h)
theorem AC {m x : Nat} (hm : 0 < m) (h : Un m x) (e : Int) : Un m (if e < 0 then dB x m else x) := by split; exact vS hm h; exact h
theorem vR {m x : Nat} (hm : 0 < m) (h : Un m x) (e : Int) : Un m (db m x e) := yB.2 (tb _ (AC hm h e))
theorem lK {m a b c : Nat} (hm : 0 < m) (hc : Un m c) (h : a * c % m = b * c % m) : a % m = b % m := by
 have e := oS hm hc
 have h1 : ∀ x, x * c * dB c m % m = x % m := fun x => by rw [Au, ← mmr, e, mmr, A0]
 rw [← h1 a, ← h1 b, ← mml (a * c), h, mml]
abbrev Or (m q x : Nat) : Prop := x ^ q % m = 1 % m
theorem jC (m n : Nat) : (1 % m) ^ n % m = 1 % m := by rw [ee, Nat.one_pow]
theorem zg {m q x : Nat} (n : Nat) (h : Or m q x) : Or m q (x ^ n) := by
 unfold Or at *; rw [← Du, Aj, Du, ← ee, h, jC]
theorem zh {m q x : Nat} : Or m q (x % m) ↔ Or m q x := by unfold Or; rw [ee]
theorem zi {m q x : Nat} (hm : 0 < m) (hu : Un m x) (h : Or m q x) : Or m q (dB x m) := by
 have e : (x * dB x m) ^ q % m = 1 % m := by rw [← ee, oS hm hu, jC]
 unfold Or at *; rw [Nat.mul_pow, ← mml, h, mml, Cm] at e; exact e
theorem w9 {m q x : Nat} (hm : 0 < m) (hu : Un m x) (h : Or m q x) (e : Int) : Or m q (db m x e) := by
 refine zh.2 (zg _ ?_); split; exact zi hm hu h; exact h
theorem od {m x n : Nat} : db m x (n : Int) = x ^ n % m := by rw [db, Aa (by omega), Bb]
theorem uc {m x : Nat} (e : Int) : db m x e % m = db m x e := by rw [db, Nat.mod_mod]
abbrev trm (b : Bs) (v : Int) : Tm := (b, v, ofZ 1)
theorem nc : okZ (ofZ 1) := by decide +kernel
theorem qz {x y : Zs} (hx : okZ x) (hy : okZ y) (h : (bP x y).2 = 0) : (bP x y).1 = ofZ (zv x * zv y) ∧ (zv x * zv y).natAbs < Big := by
 obtain ⟨a, ha, rfl⟩ := j1.1 hx
 obtain ⟨b, hb, rfl⟩ := j1.1 hy
 rw [mD, mD]
 by_cases hab : (a * b).natAbs < Big
 ·rw [j4 ha hb hab]; exact ⟨rfl, hab⟩
 ·rw [bP, Ab ⟨hx, hy⟩] at h
  simp only [cI] at h
  rw [nh ha hb, Aa (by rw [← Int.natAbs_mul]; exact hab)] at h; cases h
theorem lV {g : Gp} {a b : Bs} {x y : Zs} (hg : aU g = 0) (ha : elG g a) (hb : elG g b) (hx : okZ x) (hy : okZ y) :
  bL g [a, b] [x, y] = (ae (db (val g.1) (val a) (zv x) * db (val g.1) (val b) (zv y) % val g.1), 0) := by
 have h0 : dO g [a, b] [x, y] (decide ([a, b].length = [x, y].length)) = 0 := by
  have e1 : ∀ z ∈ [a, b], okN z := by intro z hz; simp at hz; rcases hz with rfl | rfl; exact ha.1; exact hb.1
  have e2 : ∀ z ∈ [x, y], okZ z := by intro z hz; simp at hz; rcases hz with rfl | rfl <;> assumption
  have e3 : ∀ z ∈ [a, b], elG g z := by intro z hz; simp at hz; rcases hz with rfl | rfl <;> assumption
  rw [dO, Aa (fun h => h e1), Aa (fun h => h e2), Aa (fun h => h hg), Aa (by simp), Aa (fun h => h e3)]
 rw [bL, Ab h0]; simp [aD]
theorem uZ {g : Gp} {x : Bs} (hg : aU g = 0) : 0 < val g.1 := by obtain ⟨_, _, h, _, _⟩ := cq hg; omega
def saN : SA := ⟨[], [], [], none, 0, none, 0, none, 0⟩
abbrev SME (s : SA) (n : Int) : Value := .tuple #[saV s, .int .i64 n]
section
variable {ok : Nat → Prop} {w0 w : World} {own : List Ent} {fs : List Fact}
theorem St.osk (h : St ok w0 own fs w) {b : Nat} {xs : List Value} {T : TypeId} [hf : HasE own b xs T] : (Fact.sl (some ⟨b, 0, none⟩) xs).holds ok w := by
 obtain ⟨k, hk⟩ := hf.h.get
 have := h.own_ _ (A9 hk)
 exact .inr ⟨b, 0, xs.toArray, T, (0, 0), rfl, h.okn b this.1, this.2, fun i hi => by simp⟩
theorem gY {r : Sm × Int} {n : Int} (hr : r = (([], [], []), n)) (hS : St (fun b => ok b ∨ w0.heap.size ≤ b) w0 own fs w) :
  ∃ gx : SA, Ending.returned (tup [.agg #[.slice none 0 0, .slice none 0 0, .slice none 0 0], .int .i64 n]) = Ending.returned (SME gx r.2) ∧ (gx.core = r.1) ∧ Below w0.heap.size w0 w ∧ ∀ x ∈ (saF gx : List Fact), x.holds (fun b => ok b ∨ w0.heap.size ≤ b) w := by
 subst hr
 exact ⟨saN, rfl, rfl, hS.below, Fc cU (Fc cU (Fc cU Fn))⟩
end
end Go.Proofs.YtkdlonihbjhhoaaGreatDoor
