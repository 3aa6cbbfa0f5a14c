/-
  Parts of the walk: Pgr Par Pac Isk Ikc Lin0 Gpl Hol.
-/
import Derived.Test.YtkdlonihbjhhoaaGreatDoorK15
namespace Go.Proofs.YtkdlonihbjhhoaaGreatDoor
open Go.RowKit
set_option linter.unusedSimpArgs false
set_option linter.unusedVariables false
set_option maxHeartbeats 600000
set_option maxRecDepth 20000
theorem km {n : Nat} (h : isP n = true) : 2 ≤ n := Nat.not_lt.1 fun h2 => by rw [isP, Ab h2] at h; cases h
theorem jC {x : Bs} (h : 0 < val x) : x ≠ [] := fun h0 => by rw [h0] at h; exact absurd h (Nat.lt_irrefl _)
theorem qU {g : Gp} {x : Bs} {w : World} (hm8 : g.1.length ≤ 8) :
  Cw 115 #[gV g, .string (S x)] w (.bool (decide (jF g x))) := by
 refine En [] [(0, gV g), (1, .string (S x))] Tryz.func115 I Tryz.ntmps115 I (Ac I (Ac I (An _))) Fn (DX ?_)
 intro b2
 refine Ka I (Nt (Cs (Kq I (lda I I .tc u26 I ?_) ?_)))
 ·kernel_rfl
 refine Km I (Kc I (fun w hS => uQ (g := g) (x := x) (by assumption)) (Km I (Nc 8 I (fun hg8 => ?_) (fun hg8 => ?_))))
 ·refine Km I (Yr I (Yp I (to ?_)))
  exact Hv
 ·refine T2 I (Yq I (to ?_))
  exact Hv
theorem xJ {g : Gp} {w : World} (h1 : okN g.1) (h2 : okN g.2) (hp1 : 1 ≤ val g.1) (hp2 : 0 < val g.2) :
  Cw 170 #[gV g] w (.tuple #[.string (S (ae ((val g.1 - 1) / val g.2))), .bool (decide ((val g.1 - 1) % val g.2 = 0))]) := by
 have hb1 := aO h1
 have hq := jC hp2
 have hs1 : ff g.1 [1] = (ae (val g.1 - 1), 0) := by rw [← bX, ff, Ab ⟨h1, ap (by omega)⟩, af, Aa (by omega)]
 have hdv : fT (ae (val g.1 - 1)) g.2 = ((ae ((val g.1 - 1) / val g.2), ae ((val g.1 - 1) % val g.2)), 0) := by rw [dk (ap (by omega)) h2 hq, af]
 refine En [] [(0, gV g)] Tryz.func170 I Tryz.ntmps170 I (Ac I (An _)) Fn ?_
 refine Cs ?_
 refine Ff ?_
 intro b1
 refine Ka I (Ka I (Nt (Cs (Kq I (Fa (q := 0) I I u26 I I) (EH ?_)))))
 refine Ku I (Oc I I (Kv fun w hS => (by have := qs (w := w) (a := g.1) (b := [1]); rw [hs1] at this; exact this))) ?_
 refine BY ?_; refine Cq (Cs (Km I (Yj I (Km I ?_))))
 refine Nb 17 I (fun hg17 => ?_) (fun hg17 => ?_)
 ·(try simp only [sB] at hg17)
  refine Kt I (Kt I (Kt I (Yp I (Nt ?_))))
  refine Cd I (fun _ => ?_) (fun h => by cases h)
  refine Cs (Ka I (ne ?_))
  exact R2 I I I (by (exact absurd trivial hg17))
 ·(try simp only [sB] at hg17)
  refine Kq I (Fa (q := 1) I I u26 I I) (EH ?_)
  refine Ys I (Yq I (Nt ?_))
  refine Cd I (fun hc21 => ?_) (fun hc21 => ?_)
  ·(try simp only [sB] at hc21)
   have hbad : False := hq (by simpa using hc21)
   refine Cs (Ka I (ne ?_))
   exact R2 I I I (by (exact hbad.elim))
  ·(try simp only [sB] at hc21)
   refine Gi ?_; refine Kq I (Fa (q := 1) I I u26 I I) (EH ?_)
   refine Ku I (Oc I I (Kv fun w hS => (by have := fx (w := w) (a := ae (val g.1 - 1)) (b := g.2); rw [hdv] at this; exact this))) ?_
   refine Fh ?_; refine Et ?_; refine Km I (Ys I ?_)
   refine Ns 32 I (v' := .bool (decide ((val g.1 - 1) % val g.2 = 0))) (congrArg Value.bool (by simp [a6])) ?_
   refine Ka I (to ?_)
   exact R2 I I I (by rfl)
theorem sT {g : Gp} {w : World} (hD : TabD w) :
  Cw 114 #[gV g] w (.int .i64 (bf g)) := by
 refine En [] [(0, gV g)] Tryz.func114 I Tryz.ntmps114 I (Ac I (An _)) Fn (DX ?_)
 intro b1
 refine Ka I (Nt (Cq (Cs (Kq I (lda I I .tc u26 I ?_) ?_))))
 ·kernel_rfl
 refine Kc I (fun w hS => qV (g := g)) (Ex (fun hc11 => ?_) (fun hc11 => ?_))
 ·have hr : bf g = 3 := by rw [bf, Ab (by simpa using hc11)]
  refine Cs (ne ?_)
  exact GY
 ·have hok : okN g.1 ∧ okN g.2 := by simpa using hc11
  refine GV ?_; refine EV ?_
  refine Yn I u22 (F6 (fun hc15 => ?_) (fun hc15 => ?_))
  ·have hr : bf g = 5 := by rw [bf, Aa (fun h => h hok), Ab (by omega)]
   refine Cs (ne ?_); exact GY
  ·have h8 : g.1.length ≤ 8 := by omega
   have hp1 := gp hok.1 h8; refine GV ?_; refine EV ?_; refine Kc I (fun w hS => (by have := qR (w := w) (a := g.1) (bm hD hS); rw [hp1] at this; exact this)) (BY ?_); refine Cs (Km I (Ex (fun hc23 => ?_) (fun hc23 => ?_)))
   ·have hpf : isP (val g.1) = false := by simpa using hc23
    have hr : bf g = 12 := by rw [bf, Aa (fun h => h hok), Aa (by omega), Ab hpf]
    refine Cs (ne ?_); exact GY
   ·have hpt : isP (val g.1) = true := by simpa using hc23
    have hpn : ¬ isP (val g.1) = false := by rw [hpt]; decide
    refine GV ?_; refine EW ?_; refine Yn I u22 (F6 (fun hc27 => ?_) (fun hc27 => ?_))
    ·have hr : bf g = 13 := by rw [bf, Aa (fun h => h hok), Aa (by omega), Aa hpn, Ab (by omega)]
     refine Cs (ne ?_); exact GY
    ·have h82 : g.2.length ≤ 8 := by omega
     have hp2 := gp hok.2 h82; refine GV ?_; refine EW ?_; refine Kc I (fun w hS => (by have := qR (w := w) (a := g.2) (bm hD hS); rw [hp2] at this; exact this)) (BY ?_); refine Cs (Km I (Ex (fun hc35 => ?_) (fun hc35 => ?_)))
     ·have hqf : isP (val g.2) = false := by simpa using hc35
      have hr : bf g = 12 := by rw [bf, Aa (fun h => h hok), Aa (by omega), Aa hpn, Aa (by omega), Ab hqf]
      refine Cs (ne ?_); exact GY
     ·have hqt : isP (val g.2) = true := by simpa using hc35
      have hqn : ¬ isP (val g.2) = false := by rw [hqt]; decide
      have hg1 := km hpt; have hg2 := km hqt; refine Ck (Xa (Cq (Cs (Kq I (lda I I .tc u26 I ?_) ?_))))
      ·kernel_rfl
      refine Kc I (fun w hS => xJ (g := g) (by exact hok.1) (by exact hok.2) (by omega) (by omega)) (BY ?_); refine Cs (Km I (Ex (fun hc42 => ?_) (fun hc42 => ?_)))
      ·have hr : bf g = 13 := by rw [bf, Aa (fun h => h hok), Aa (by omega), Aa hpn, Aa (by omega), Aa hqn, Ab (by simpa using hc42)]
       refine Cs (ne ?_); exact GY
      ·have hr : bf g = 0 := by rw [bf, Aa (fun h => h hok), Aa (by omega), Aa hpn, Aa (by omega), Aa hqn, Aa (by simpa using hc42)]
       refine Ck (Xa (Cs (to ?_))); exact GY
theorem qN {g : Gp} {x : Bs} {w : World} (hm8 : g.1.length ≤ 8) :
  Cw 117 #[gV g, .string (S x)] w (.bool (decide (jF g x))) := by
 refine En [] [(0, gV g), (1, .string (S x))] Tryz.func117 I Tryz.ntmps117 I (Ac I (Ac I (An _))) Fn (DX ?_)
 intro b2
 refine Ka I (Nt (Cs (Kq I (lda I I .tc u26 I ?_) ?_)))
 ·kernel_rfl
 refine Km I (Kc I (fun w hS => qL (g := g) (x := x) (by assumption)) (Km I (Nc 8 I (fun hg8 => ?_) (fun hg8 => ?_))))
 ·refine Km I (Yr I (Yp I (to ?_)))
  exact Hv
 ·refine T2 I (Yq I (to ?_))
  exact Hv
theorem xo {g : Gp} {w : World} (h1 : okN g.1) (h2 : okN g.2) (hp1 : 1 ≤ val g.1) (hp2 : 0 < val g.2) :
  Cw 173 #[gV g] w (.bool (decide ((val g.1 - 1) % val g.2 = 0))) := by
 have hb1 := aO h1
 have hl1 := h1.1
 have hq := jC hp2
 have hn1 := jC (show 0 < val g.1 by omega)
 refine En [] [(0, gV g)] Tryz.func173 I Tryz.ntmps173 I (Ac I (An _)) Fn (DX ?_)
 intro b1
 refine GR ?_; refine EV ?_
 refine FN (fun hc7 => ?_) (fun hc7 => ?_)
 ·have hbad : False := hn1 (by simpa using hc7)
  refine Cs (ne ?_)
  exact R1 I I (by exact hbad.elim)
 ·refine Ck (Xa (Cq (Cf [0, 1, 2, 3, 4, 5, 6, 7, 8, 9, 10] [] [0, 0, 1, 0, 0, 1, 0, 0, 0, 0, 0] (by kernel_rfl) (by kernel_rfl) I ?_)))
  refine FU ?_; refine EB ?_
  refine Jv I I I I I (fun ext => Oc I I (Kv fun w hS => ki (a := g.1) (b := [1]) (by exact hp1) (by omega) (by decide))) ?_
  refine WJ.set 11 I (v' := .string (S (ae (val g.1 - 1)))) (congrArg (fun l => Value.string (S l)) (by rfl)) ?_
  refine Kj I (Fa (q := 1) I I u26 I I) (EB ?_)
  refine Jv I I I I I (fun ext => Oc I I (Kv fun w hS => j9 (a := ae (val g.1 - 1)) (b := g.2) (by exact ap (by omega)) (by exact h2) (by exact hq))) ?_
  refine E0 ?_; refine EN ?_
  refine WJ.nil ?_
  refine Nt (Cs (Km I (Ys I (Ns 18 I (v' := .bool (decide ((val g.1 - 1) % val g.2 = 0))) (congrArg Value.bool (by simp [a6, af])) ?_))))
  refine to ?_
  exact Hb
theorem xp {g : Gp} {w : World} :
  Cw 116 #[gV g] w (.int .i64 (bf g)) := by
 refine En [] [(0, gV g)] Tryz.func116 I Tryz.ntmps116 I (Ac I (An _)) Fn (DX ?_)
 intro b1
 refine Ka I (Nt (Cq (Cs (Kq I (lda I I .tc u26 I ?_) ?_))))
 ·kernel_rfl
 refine Kc I (fun w hS => oF (g := g)) (Ex (fun hc9 => ?_) (fun hc9 => ?_))
 ·have hr : bf g = 3 := by rw [bf, Ab (by simpa using hc9)]
  refine Cs (ne ?_)
  exact GY
 ·have hok : okN g.1 ∧ okN g.2 := by simpa using hc9
  refine GV ?_; refine EV ?_
  refine Yn I u22 (F6 (fun hc13 => ?_) (fun hc13 => ?_))
  ·have hr : bf g = 5 := by rw [bf, Aa (fun h => h hok), Ab (by omega)]
   refine Cs (ne ?_); exact GY
  ·have h8 : g.1.length ≤ 8 := by omega
   have hp1 := gp hok.1 h8; refine GV ?_; refine EV ?_; refine Kc I (fun w hS => (by have := oE (w := w) (a := g.1); rw [hp1] at this; exact this)) (BY ?_); refine Cs (Km I (Ex (fun hc21 => ?_) (fun hc21 => ?_)))
   ·have hpf : isP (val g.1) = false := by simpa using hc21
    have hr : bf g = 12 := by rw [bf, Aa (fun h => h hok), Aa (by omega), Ab hpf]
    refine Cs (ne ?_); exact GY
   ·have hpt : isP (val g.1) = true := by simpa using hc21
    have hpn : ¬ isP (val g.1) = false := by rw [hpt]; decide
    refine GV ?_; refine EW ?_; refine Yn I u22 (F6 (fun hc25 => ?_) (fun hc25 => ?_))
    ·have hr : bf g = 13 := by rw [bf, Aa (fun h => h hok), Aa (by omega), Aa hpn, Ab (by omega)]
     refine Cs (ne ?_); exact GY
    ·have h82 : g.2.length ≤ 8 := by omega
     have hp2 := gp hok.2 h82; refine GV ?_; refine EW ?_; refine Kc I (fun w hS => (by have := oE (w := w) (a := g.2); rw [hp2] at this; exact this)) (BY ?_); refine Cs (Km I (Ex (fun hc33 => ?_) (fun hc33 => ?_)))
     ·have hqf : isP (val g.2) = false := by simpa using hc33
      have hr : bf g = 12 := by rw [bf, Aa (fun h => h hok), Aa (by omega), Aa hpn, Aa (by omega), Ab hqf]
      refine Cs (ne ?_); exact GY
     ·have hqt : isP (val g.2) = true := by simpa using hc33
      have hqn : ¬ isP (val g.2) = false := by rw [hqt]; decide
      have hg1 := km hpt; have hg2 := km hqt; refine Ck (Xa (Cq (Cs (Kq I (lda I I .tc u26 I ?_) ?_))))
      ·kernel_rfl
      refine Kc I (fun w hS => xo (g := g) (by exact hok.1) (by exact hok.2) (by omega) (by omega)) (Ex (fun hc36 => ?_) (fun hc36 => ?_))
      ·have hr : bf g = 13 := by rw [bf, Aa (fun h => h hok), Aa (by omega), Aa hpn, Aa (by omega), Aa hqn, Ab (by simpa using hc36)]
       refine Cs (ne ?_); exact GY
      ·have hr : bf g = 0 := by rw [bf, Aa (fun h => h hok), Aa (by omega), Aa hpn, Aa (by omega), Aa hqn, Aa (by simpa using hc36)]
       refine Ck (Xa (Cs (to ?_))); exact GY
theorem zg {a b : Bs} {w : World} :
  Cw 212 #[.string (S a), .string (S b)] w (NE (j5 a b)) := by
 refine En [] [(0, .string (S a)), (1, .string (S b))] Tryz.func212 I Tryz.ntmps212 I (Ac I (Ac I (An _))) Fn (Cs (Ka I (Eo ?_))); refine Kc I (fun w hS => av (a := a)) (Yt I (Km I (Nc 9 I (fun hg9 => ?_) (fun hg9 => ?_))))
 ·refine T2 I (Kt I (Yp I (Nt (Cd I (fun _ => ?_) (fun h => by cases h)))))
  refine Cs (Ka I (ne ?_))
  exact Hq
 ·refine Km I (Kc I (fun w hS => av (a := b)) (E8 (fun hc13 => ?_) (fun hc13 => ?_)))
  ·refine Cs (Ka I (ne ?_)); exact Hq
  ·have hab : okN a ∧ okN b := by simp_all
   refine Ck (Xa (E3 ?_)); refine Kc I (fun w hS => mi (a := a) (b := b) (by exact hab.1) (by exact hab.2)) (Ka I (to ?_)); exact R2 I I I (by rw [j5, Ab hab]; rfl)
theorem sG {g : Gp} {w : World} :
  Cw 211 #[gV g] w (.bool (decide (dS g))) := by
 have hB8 : 8 < Big := A2 (by decide) fC
 refine En [] [(0, gV g)] Tryz.func211 I Tryz.ntmps211 I (Ac I (An _)) Fn (DX ?_)
 intro b1
 refine Ka I (Nt (Cq (Cf [0, 1, 2, 3, 4, 5, 6, 7, 8, 9, 10, 11, 12, 13, 16, 14, 15, 17, 18, 19, 20] [] [0, 0, 1, 0, 0, 0, 0, 0, 0, 0, 0, 1, 0, 0, 0, 0, 1, 1, 0, 0, 0] (by kernel_rfl) (by kernel_rfl) I ?_)))
 refine FU ?_; refine EB ?_
 refine Jv I I I I I (fun ext => Oc I I (Kv fun w hS => av (a := g.1))) ?_
 refine E0 ?_
 refine WJ.bool 6 I (fun hg6 => ?_) (fun hg6 => ?_)
 ·(try simp only [sB] at hg6)
  refine Kj I (Fa (q := 1) I I u26 I I) (EB ?_)
  refine Kj I (ju I I I) (Kj I (Rp I I I) (E0 ?_))
  refine WJ.bool 11 I (fun hg11 => ?_) (fun hg11 => ?_)
  ·(try simp only [sB] at hg11); refine FU ?_; refine EB ?_; refine Jv I I I I I (fun ext => Oc I I (Kv fun w hS => pQ (a := g.1) (i := 0) (by omega))) ?_; refine WJ.set 14 I (v' := .bool (decide (val g.1 % 2 = 1))) (congrArg Value.bool (by exact kh hg6)) ?_; refine Kj I (Rp I I I) (E0 ?_); refine WJ.bool 16 I (fun hg16 => ?_) (fun hg16 => ?_)
   ·(try simp only [sB] at hg16); refine Gk ?_; refine FU ?_; refine EB ?_; refine Jv I I I I I (fun ext => Oc I I (Kv fun w hS => jv (a := g.1) (b := ae 8))) ?_; refine Kj I (k4 I I I) ?_; refine WJ.set 21 I (v' := .bool (decide (8 < val g.1))) (congrArg Value.bool (by rw [aC hg6 (ap hB8), af]; exact Ag.2 (by have := fV (val g.1) 8; omega))) ?_; refine Kj I (Rp I I I) (Fg ?_); refine WJ.nil ?_; refine Nt (Ce ?_); exact Hg
   ·(try simp only [sB] at hg16); refine ES ?_; refine Gq ?_; refine Fg ?_; refine WJ.nil ?_; refine Nt (Ce ?_); exact Hg
  ·(try simp only [sB] at hg11); refine ES ?_; refine Kj I (Rq I I I) (E0 ?_); refine ES ?_; refine Gq ?_; refine Fg ?_; refine WJ.nil ?_; refine Nt (Ce ?_); exact Hg
 ·(try simp only [sB] at hg6)
  refine ES ?_; refine Kj I (Rq I I I) (E0 ?_); refine ES ?_; refine Kj I (Rq I I I) (E0 ?_); refine ES ?_; refine Gq ?_; refine Fg ?_
  refine WJ.nil ?_
  refine Nt (Ce ?_)
  exact Hg
theorem uJ {g : Gp} {x : Bs} {w : World} :
  Cw 176 #[gV g, .string (S x)] w (.bool (decide (j3 g x))) := by
 refine En [] [(0, gV g), (1, .string (S x))] Tryz.func176 I Tryz.ntmps176 I (Ac I (Ac I (An _))) Fn (DX ?_)
 intro b2
 refine Ka I (Nt (Cq (WC.joinP (σ := Unit) [(1, _), (2, _)] (fun gq => [(25, .bool (decide (¬ (dS g ∧ okN x ∧ x ≠ [] ∧ val x < val g.1))))]) (fun gq => True) (S2 I I) ?_ ?_)))
 ·skip
  refine Cg (Kq I (lda I I .tc u26 I ?_) ?_)
  ·kernel_rfl
  refine Kc I (fun w hS => sG (g := g)) (Yt I (Km I (Nc 10 I (fun hg10 => ?_) (fun hg10 => ?_))))
  ·refine T2 I (Kt I (Yp I (Km I (T2 I (Yp I (Km I (T4 I (Kt I (Yp I (Nn (WX.joinP (()) (S2 I I) (by refine (Sc ?_ (S0 _)) <;> ((refine aj rfl ?_; (try dsimp only); (simp [*]; done)))) ?_ (fun _ h => h)))))))))))); (try dsimp only); done
  ·refine Km I (Kc I (fun w hS => av (a := x)) (Yt I (Yq I (Km I (Nc 15 I (fun hg15 => ?_) (fun hg15 => ?_))))))
   ·refine T2 I (Yp I (Km I (T4 I (Kt I (Yp I (Nn (WX.joinP (()) (S2 I I) (by refine (Sc ?_ (S0 _)) <;> ((refine aj rfl ?_; (try dsimp only); (simp [*]; done)))) ?_ (fun _ h => h)))))))); (try dsimp only); done
   ·refine Km I (Ys I (Yq I (Km I (Nc 19 I (fun hg19 => ?_) (fun hg19 => ?_)))))
    ·refine T4 I (Kt I (Yp I (Nn (WX.joinP (()) (S2 I I) (by refine (Sc ?_ (S0 _)) <;> ((refine aj rfl ?_; (try dsimp only); (simp [*]; done)))) ?_ (fun _ h => h))))); (try dsimp only); done
    ·refine Km I (Kf 0 I u26 I I I .tc u22 ?_); refine Kc I (fun w hS => jv (a := x) (b := g.1)) (Yh I (Ns 24 I (v' := .bool (decide (val g.1 ≤ val x))) (congrArg Value.bool (by rw [aC hg15 hg10.1]; exact Ag.2 (eW _ _))) ?_)); refine Yq I (Nn (WX.joinP (()) (S2 I I) (by refine (Sc ?_ (S0 _)) <;> ((refine aj rfl ?_; (try dsimp only); (simp [*]; done)))) ?_ (fun _ h => h))); (try dsimp only); done
 ·rintro _ hmeet; (try dsimp only at hmeet ⊢)
  refine Ci I (fun hc25 => ?_) (fun hc25 => ?_)
  ·have hr : ¬ j3 g x := fun h => hc25 ⟨h.1, h.2.1, h.2.2.1, h.2.2.2.1⟩
   refine Cs (ne ?_); exact G9
  ·have hok : dS g ∧ okN x ∧ x ≠ [] ∧ val x < val g.1 := Al.1 hc25; have hgc : j5 x g.1 = (ae (Nat.gcd (val x) (val g.1)), 0) := by rw [j5, Ab ⟨hok.2.1, hok.1.1⟩]
   have hr : j3 g x ↔ Nat.gcd (val x) (val g.1) = 1 := ⟨fun h => h.2.2.2.2, fun h => ⟨hok.1, hok.2.1, hok.2.2.1, hok.2.2.2, h⟩⟩; refine Gi ?_; refine EV ?_; refine Kc I (fun w hS => (by have := zg (w := w) (a := x) (b := g.1); rw [hgc] at this; exact this)) (BY ?_); refine Cs (Km I (Kc I (fun w hS => em (by (dsimp only; omega))) (Ys I (Ns 35 I (v' := .bool (decide (j3 g x))) (congrArg Value.bool (by simp [hr, fA])) ?_)))); refine to ?_; exact Hb
abbrev pk4 (k : PK) : List Bs := [k.1.1, k.1.2, k.2.1, k.2.2]
def lk (p : PR) : List Bs := fN p ++ (pk4 p.mn ++ pk4 p.wh)
def gw (p : PR) : List Bs := [p.ch, p.sl] ++ (pk4 p.mn ++ pk4 p.wh) ++ [p.sec, p.attr, p.han, p.lo, p.sz, p.bl, p.msk]
theorem uw {p : PR} {w : World} :
  Calls Tryz.prog 33 #[prV p] w fun e w' => ∃ g : Rs, e = .returned (g.val 17) ∧ g.cap = 17 + g.sp.length ∧ St (fun _ => True) w [g.ent (al (gw p)) 22] [] w' := by
 refine En [] [(0, prV p)] Tryz.func33 I Tryz.ntmps33 I (Ac I (An _)) Fn (DX ?_)
 intro b1
 refine Ka I (Nt (Cs (Fu ?_)))
 refine F2 ?_
 refine Gu ?_; refine Kq I (Fa (q := 2) I I u28 I I) (Kf 2 I u26 I I I .tc u22 ?_)
 refine Gu ?_; refine Kq I (Fa (q := 2) I I u28 I I) (Kf 3 I u26 I I I .tc u22 ?_)
 refine Gu ?_; refine Kf 4 I u28 I I I .tc u22 ?_
 refine Gu ?_; refine Kf 5 I u28 I I I .tc u22 ?_
 refine Kq I (Fa (q := 6) I I u30 I I) (Kq I (Fa (q := 6) I I u28 I I) (Kf 6 I u26 I I I .tc u22 ?_))
 refine Kq I (Fa (q := 6) I I u30 I I) (Kq I (Fa (q := 6) I I u28 I I) (Kf 7 I u26 I I I .tc u22 ?_))
 refine Kq I (Fa (q := 6) I I u30 I I) (Kf 8 I u28 I I I .tc u22 ?_)
 refine Kq I (Fa (q := 6) I I u30 I I) (Kf 9 I u28 I I I .tc u22 ?_)
 refine GO ?_
 refine Gv ?_
 refine Gw ?_
 refine Kf 13 I u30 I I I .tc u22 ?_
 refine Gx ?_
 refine GP ?_
 refine Gy ?_
 refine Kh I (aR I I u31 (by kernel_rfl : _ = some (some (.string (S [])), 1, 16)) I (by simp only [List.map]; rfl) I I ?_ (by decide)) ?_
 ·simp [Value.cells]
 intro b51
 refine to ?_
 exact Rn I (.tmp I .nil) fun w' hS => ⟨⟨some b51, 17, []⟩, rfl, rfl, hS.sub (Dm _ (List.nil_sublist _)) (fun _ h => h)⟩
theorem cm {a b : Bs} {w : World} :
  Cw 119 #[.string (S a), .string (S b)] w (.bool (decide (ee a b < 0))) := by
 refine En [] [(0, .string (S a)), (1, .string (S b))] Tryz.func119 I Tryz.ntmps119 I (Ac I (Ac I (An _))) Fn (Cs (Et ?_)); refine Km I (Kc I (fun w hS => jv (a := a) (b := b)) (Yl I (to ?_)))
 exact Hb
theorem qE {g : Gp} {x : Bs} {w : World} :
  Cw 120 #[gV g, .string (S x)] w (.bool (decide (dX g x))) := by
 refine En [] [(0, gV g), (1, .string (S x))] Tryz.func120 I Tryz.ntmps120 I (Ac I (Ac I (An _))) Fn (DX ?_)
 intro b2
 refine Ka I (Nt (Cs (Kq I (lda I I .tc u26 I ?_) ?_)))
 ·kernel_rfl
 refine Km I (Kc I (fun w hS => uJ (g := g) (x := x)) (Km I (Nc 8 I (fun hg8 => ?_) (fun hg8 => ?_))))
 ·refine Km I (Kc I (fun w hS => em (n := 1) (by omega)) (Yr I (Yp I (to ?_))))
  exact R1 I I (by simp [*, tup, dX])
 ·refine T2 I (Kt I (Yq I (to ?_)))
  exact R1 I I (by simp [*, tup, dX])
abbrev pkc (k : PK) : List Value := [.string (S k.1.1), .string (S k.1.2), .string (S k.2.1), .string (S k.2.2)]
theorem qp {α : Type} [Inhabited α] {l : List α} {i : Nat} (h : i < l.length) : l.take (i + 1) = l.take i ++ [l.getD i default] := by
 rw [Bv, Ae h, List.getD_eq_getElem?_getD, Ae h]; rfl
theorem zy {p : PR} {w : World} :
  Calls Tryz.prog 111 #[prV p] w fun e w' => ∃ g : Rs, e = .returned (g.val 17) ∧ g.cap = 17 + g.sp.length ∧ St (fun _ => True) w [g.ent (al (lk p)) 22] [] w' := by
 refine En [] [(0, prV p)] Tryz.func111 I Tryz.ntmps111 I (Ac I (An _)) Fn (DX ?_)
 intro b1
 refine Ka I (Nt (Cs (Fu ?_)))
 refine F2 ?_
 refine GO ?_
 refine Gv ?_
 refine Gw ?_
 refine Kf 13 I u30 I I I .tc u22 ?_
 refine Gx ?_
 refine GP ?_
 refine Gy ?_
 refine Kh I (aR I I u31 (by kernel_rfl : _ = some (some (.string (S [])), 1, 16)) I (by simp only [List.map]; rfl) I I ?_ (by decide)) ?_
 ·simp [Value.cells]
 intro b26
 refine GR ?_; refine Gu ?_; refine Kq I (ldp I I .tc u28 I (by kernel_rfl : _ = some 4) (by rfl) (by rfl)) ?_
 refine Kq I (Fa (q := 6) I I u30 I I) (Kq I (ldp I I .tc u28 I (by kernel_rfl : _ = some 4) (by rfl) (by rfl)) ?_)
 refine Kh I (ew I I yW (by kernel_rfl : _ = some (some (.agg #[.string (S []), .string (S []), .string (S []), .string (S [])]), 4, 64)) (by kernel_rfl) (by decide) I I (by (simp [Value.cells]; done)) (by (simp only [List.map, Value.cells, C5, List.flatMap_nil, Bm, Dy]; rfl)) (by decide)) ?_
 intro b31
 refine WL.st (fun w h => h.freeze (off := 0) (xs := ([p.mn, p.wh] : List PK).flatMap pkc) (fun i hi => by rw [A0]; rfl)) ?_
 refine Yo I yW (Km I (Nt (Cb (Lo (σ := Nat × (Option Nat) × Nat × (List Value)) [(31, _), (32, _)] (fun gq => [(3, .slice (gq.2.1.map fun b => ⟨b, 0, none⟩) (9 + 4 * gq.1) gq.2.2.1), (33, .int .i64 (gq.1 : Int))]) (fun gq => gq.1 ≤ 2 ∧ gq.2.2.1 = 9 + 4 * gq.1 + gq.2.2.2.length) (fun gq => 2 - gq.1) (fun gq => [⟨gq.2.1, al (fN p ++ (([p.mn, p.wh] : List PK).take gq.1).flatMap pk4) ++ gq.2.2.2, 22⟩]) (fun gq => [Fact.sl (some ⟨b31, 0, none⟩) (([p.mn, p.wh] : List PK).flatMap pkc)]) (0, some b26, 9, []) (S2 I I) (S2 I I) (by (try dsimp only); exact ⟨Ai _, rfl⟩) (by exact fun w h => h.sub (Dm _ (List.nil_sublist _)) (fun _ hh => hh)) ?_))))
 rintro ⟨i, o, cp, sp⟩ hinv1; (try dsimp only at hinv1 ⊢)
 obtain ⟨hi, hcp⟩ := hinv1
 refine Ek (fun hc34 => ?_) (fun hc34 => ?_)
 ·have hi2 : i < ([p.mn, p.wh] : List PK).length := by show i < 2; omega
  have htk := qp hi2
  obtain ⟨k, hk⟩ : ∃ k, Keep (k = ([p.mn, p.wh] : List PK).getD i default) := ⟨_, rfl⟩
  rw [← show k = _ from hk] at htk
  have hln : (al (fN p ++ (([p.mn, p.wh] : List PK).take i).flatMap pk4)).length = 9 + 4 * i := by
   rw [← ge, Ay]; have : i = 0 ∨ i = 1 := by omega
   rcases this with rfl | rfl <;> rfl
  refine Ez ?_; refine Kq I (Ja I I I yW (by kernel_rfl : _ = some 4) (by omega)) ?_
  refine Kq I (zW (off0 := 0) (m := i * 4) (ys := pkc (([p.mn, p.wh] : List PK).getD i default)) I I .tc u28 I (by kernel_rfl : _ = some 4) (A0 _).symm (by exact ey [p.mn, p.wh] pkc 4 (fun _ => rfl) i hi2) I (by decide)) ?_
  refine Ns 36 I (v' := .agg (pkc k).toArray) (by rw [show k = _ from hk]) ?_
  refine Kh I (Oz [.string (S []), .string (S []), .string (S []), .string (S [])] I) ?_
  intro b5
  refine DZ ?_; refine Nt (Cg (Km I (Kq I (Fa (q := 0) I I u28 I I) (EV ?_))))
  refine Kq I (Fa (q := 0) I I u28 I I) (EW ?_)
  refine Kf 2 I u28 I I I .tc u22 ?_
  refine Kf 3 I u28 I I I .tc u22 ?_
  refine Kh I (aR I I u31 (by kernel_rfl : _ = some (some (.string (S [])), 1, 16)) I (by simp only [List.map]; rfl) I I ?_ (by decide)) ?_
  ·simp [Value.cells]
  intro b48
  refine Kh I (n6 I u31 (by kernel_rfl : _ = some (some (.string (S [])), 1, 16)) I .tc I I (fun w hS => by (exact hS.os)) (by rfl) (by refine ⟨?_, ?_, ?_, ?_⟩ <;> first | exact hln | omega) (by (simp [Value.oneCell']; done))) ?_
  rintro ⟨o49, c49, s49⟩
  refine WL.pu ?_
  intro hg49; (try dsimp only at hg49 ⊢)
  refine Ka I (Nn (Xd (Xa (Cg (Kq I (Rz I I I (by omega)) (Km I (Nn (Lx ((i + 1, o49, c49, s49)) (by (try dsimp only); omega) (S2 I I) (by refine (Sc ?_ (Sc ?_ (S0 _))) <;> (rfl)) ?_ (by exact fun w h => by rw [htk, List.flatMap_append, ← B6, ← ge, show al ([k].flatMap pk4) = pkc k from rfl]; exact au _ h)))))))))
  (try dsimp only)
  exact ⟨by omega, by omega⟩
 ·refine AS ?_
  obtain rfl : i = 2 := by omega
  refine Xa (Cs (Km I (to ?_)))
  exact Rn I (.tmp I .nil) fun w' hS => ⟨⟨o, cp, sp⟩, rfl, by omega, hS.sub (Az _) (by simp)⟩
theorem qX {p : PR} {x : Bs} {b1 b5 : Nat} {w : World} {ok : Nat → Prop} (hF1 : (Fact.sl (some ⟨b1, 0, none⟩) (prC p)).holds ok w) (hF2 : (Fact.sl (some ⟨b5, 0, none⟩) [.string (S (ae 1))]).holds ok w) :
  Cw 112 #[.string (S x), .pointer (some ⟨b1, 0, none⟩), .pointer (some ⟨b5, 0, none⟩)] w (.bool (decide (dX p.wh.1 x))) := by
 refine En [Fact.sl (some ⟨b1, 0, none⟩) (prC p), Fact.sl (some ⟨b5, 0, none⟩) [.string (S (ae 1))]] [(0, .string (S x)), (1, .pointer (some ⟨b1, 0, none⟩)), (2, .pointer (some ⟨b5, 0, none⟩))] Tryz.func112 I Tryz.ntmps112 I (Ac I (Ac I (Ac I (An _)))) (Fc (ah hF1) (Fc (ah hF2) Fn)) (Cs (Ka I (Nt (Cs ?_))))
 (refine Kq I (cR I I u30 I (by kernel_rfl) (by (try simp only [sN, Int.reduceToNat, Nat.reduceAdd, Nat.reduceMul, Nat.reduceSub]); rfl)) ?_)
 (refine Kq I (cR I I u28 I (by kernel_rfl) (by (try simp only [sN, Int.reduceToNat, Nat.reduceAdd, Nat.reduceMul, Nat.reduceSub]); rfl)) ?_)
 refine Kq I (zW (off0 := 0) (m := 6) (ys := [.string (S p.wh.1.1), .string (S p.wh.1.2)]) I I .tc u26 I (by kernel_rfl : _ = some 2) I I I (by decide)) ?_
 refine Km I (Kc I (fun w hS => qK (g := p.wh.1) (x := x)) (Km I (Nc 10 I (fun hg10 => ?_) (fun hg10 => ?_))))
 ·refine Km I (Kq I (ldf (off0 := 0) (m := 0) I I .tc u22 I I I) ?_)
  refine Yr I (Yp I (to ?_))
  exact R1 I I (by simp [*, tup, dX])
 ·refine T2 I (Kt I (Yq I (to ?_)))
  exact R1 I I (by simp [*, tup, dX])
theorem ny {p : PR} : okR p ↔ ∀ x ∈ lk p, okN x := by
 unfold okR okK lk
 simp only [Bt, A7, List.not_mem_nil, or_false]
 constructor
 ·rintro ⟨h, ⟨a1, a2, a3, a4⟩, c1, c2, c3, c4⟩ x (hx | (rfl | rfl | rfl | rfl) | (rfl | rfl | rfl | rfl))
  ·exact h x hx
  all_goals assumption
 ·intro h
  exact ⟨fun x hx => h x (.inl hx), ⟨h _ (.inr (.inl (.inl rfl))), h _ (.inr (.inl (.inr (.inl rfl)))), h _ (.inr (.inl (.inr (.inr (.inl rfl))))), h _ (.inr (.inl (.inr (.inr (.inr rfl)))))⟩,
   h _ (.inr (.inr (.inl rfl))), h _ (.inr (.inr (.inr (.inl rfl)))), h _ (.inr (.inr (.inr (.inr (.inl rfl))))), h _ (.inr (.inr (.inr (.inr (.inr rfl)))))⟩
theorem jA {p : PR} {w : World} (hm8 : p.mn.1.1.length ≤ 8) (hD : TabD w) :
  Cw 67 #[prV p] w (.int .i64 (cH p)) := by
 refine En [] [(0, prV p)] Tryz.func67 I Tryz.ntmps67 I (Ac I (An _)) Fn (DX ?_)
 intro b1
 refine Ka I (Nt (Cq (Cs (Kq I (lda I I .tc u30 I ?_) ?_))))
 ·kernel_rfl
 refine Kh I (Oc I I (eT fun w hS => zy)) ?_
 intro g14
 refine WL.pu ?_
 intro hg14; (try dsimp only at hg14 ⊢)
 refine Gb ?_; refine Lp (σ := Nat) [(1, _), (14, _), (15, _)] (fun gq => [(16, .int .i64 (gq : Int))]) (fun gq => gq ≤ (lk p).length ∧ ∀ x ∈ (lk p).take gq, okN x) (fun gq => (lk p).length - gq) (0) (S3 I I I) (S1 I) (by (try dsimp only); exact ⟨Ai _, by simp⟩) ?_
 rintro i hinv1; (try dsimp only at hinv1 ⊢)
 obtain ⟨hi, hok⟩ := hinv1
 refine Ek (fun hc17 => ?_) (fun hc17 => ?_)
 ·have hil : i < (lk p).length := by show i < 17; omega
  obtain ⟨y, hy⟩ : ∃ y, Keep (y = (lk p).getD i default) := ⟨_, rfl⟩
  refine Ez ?_; refine Ey ?_
  refine EZ ?_
  refine Ns 19 I (v' := .string (S (y))) (congrArg (fun l => Value.string (S l)) (by rw [show y = _ from hy])) ?_
  refine Et ?_; refine Kc I (fun w hS => az (a := y)) (Ex (fun hc22 => ?_) (fun hc22 => ?_))
  ·have hyn : ¬ okN y := by simpa using hc22
   have hn : ¬ okR p := fun h => hyn (by rw [show y = _ from hy]; exact ny.1 h _ (ak (lk p) i hil))
   refine Cs (to ?_); refine DY ?_; exact R1 I I (by rw [cH, Ab hn]; rfl)
  ·have hyy : okN y := by simpa using hc22
   refine Ck (Xd (Xa (Cg (Kq I (Rz I I I (by omega)) (Km I (Nn (Ly (i + 1) (by (try dsimp only); omega) (S3 I I I) (by refine (Sc ?_ (S0 _)) <;> (rfl)) ?_ (fun _ h => h)))))))); (try dsimp only); exact ⟨hil, aq hil hok (by rw [← show y = _ from hy]; exact hyy)⟩
 ·refine AS ?_
  obtain rfl : i = (lk p).length := by show i = 17; have h17 : i ≤ 17 := hi; omega
  rw [Ah] at hok
  have hokR : okR p := ny.2 hok
  have hB8 : 8 < Big := A2 (by decide) fC
  refine Xa (Cs (Kc I (fun w hS => gt (n := 1) (by omega)) (Kc I (fun w hS => gt (n := 2) (by omega)) (Fj ?_))))
  intro b5
  refine Ng I I (st I I I .tc (by kernel_rfl) I ?_ (by (simp only [As, At]; rfl))) ?_
  ·decide
  intro _
  refine GN ?_; refine Ka I (Nt (Cq (WC.joinP (σ := Unit) [(1, _), (6, _)] (fun gq => [(67, .bool (decide (¬ (bf p.mn.1 = 0 ∧ jF p.mn.1 p.mn.2.1 ∧ jF p.mn.1 p.mn.2.2 ∧ dX p.wh.1 p.wh.2.1 ∧ dX p.wh.1 p.wh.2.2))))]) (fun gq => True) (S2 I I) ?_ ?_)))
  ·skip
   refine Cg (Ft ?_); refine Kc I (fun w hS => sT (g := p.mn.1) (by (exact bm hD hS))) (Yj I (Km I (Nc 32 I (fun hg32 => ?_) (fun hg32 => ?_))))
   ·refine T4 I (T4 I (Yp I (Km I (T4 I (T4 I (Yp I (Km I (T4 I (T2 I (Yp I (Km I (T4 I (T2 I (Yp I (Nn (WX.joinP (()) (S2 I I) (by refine (Sc ?_ (S0 _)) <;> ((refine aj rfl ?_; (try dsimp only); (simp [*]; done)))) ?_ (fun _ h => h))))))))))))))))); (try dsimp only); done
   ·refine Ft ?_; refine Gu ?_; refine Kf 4 I u28 I I I .tc u22 ?_; refine Kc I (fun w hS => qU (g := p.mn.1) (x := p.mn.2.1) (by assumption)) (Yt I (Yq I (Km I (Nc 42 I (fun hg42 => ?_) (fun hg42 => ?_)))))
    ·refine T4 I (T4 I (Yp I (Km I (T4 I (T2 I (Yp I (Km I (T4 I (T2 I (Yp I (Nn (WX.joinP (()) (S2 I I) (by refine (Sc ?_ (S0 _)) <;> ((refine aj rfl ?_; (try dsimp only); (simp [*]; done)))) ?_ (fun _ h => h))))))))))))); (try dsimp only); done
    ·refine Ft ?_; refine Gu ?_; refine Kf 5 I u28 I I I .tc u22 ?_; refine Kc I (fun w hS => qU (g := p.mn.1) (x := p.mn.2.2) (by assumption)) (Yt I (Yq I (Km I (Nc 52 I (fun hg52 => ?_) (fun hg52 => ?_)))))
     ·refine T4 I (T2 I (Yp I (Km I (T4 I (T2 I (Yp I (Nn (WX.joinP (()) (S2 I I) (by refine (Sc ?_ (S0 _)) <;> ((refine aj rfl ?_; (try dsimp only); (simp [*]; done)))) ?_ (fun _ h => h))))))))); (try dsimp only); done
     ·refine Km I (Kq I (Fa (q := 6) I I u30 I I) (Kf 8 I u28 I I I .tc u22 ?_)); refine Ku I (aQ I I I (by kernel_rfl) I (Kv fun w hS => qX (p := p) (x := p.wh.2.1) (b1 := b1) (b5 := b5) hS.os hS.os)) (Yt I (Yq I (Km I (Nc 60 I (fun hg60 => ?_) (fun hg60 => ?_)))))
      ·refine T4 I (T2 I (Yp I (Nn (WX.joinP (()) (S2 I I) (by refine (Sc ?_ (S0 _)) <;> ((refine aj rfl ?_; (try dsimp only); (simp [*]; done)))) ?_ (fun _ h => h))))); (try dsimp only); done
      ·refine Km I (Kq I (Fa (q := 6) I I u30 I I) (Kf 9 I u28 I I I .tc u22 ?_)); refine Ku I (aQ I I I (by kernel_rfl) I (Kv fun w hS => qX (p := p) (x := p.wh.2.2) (b1 := b1) (b5 := b5) hS.os hS.os)) (Yt I (Yq I (Nn (WX.joinP (()) (S2 I I) (by refine (Sc ?_ (S0 _)) <;> ((refine aj rfl ?_; (try dsimp only); (simp [*]; done)))) ?_ (fun _ h => h))))); (try dsimp only); done
  ·rintro _ hmeet; (try dsimp only at hmeet ⊢); refine Ci I (fun hc67 => ?_) (fun hc67 => ?_)
   ·refine Cs (ne ?_); exact R1 I I (by rw [cH, Aa (fun h => h hokR), Ab (show ¬ o6 p from hc67)]; rfl)
   ·have hgr : o6 p := Al.1 hc67; refine Ck (Xa (Cs (Gu ?_))); refine Kq I (Fa (q := 2) I I u28 I I) (Kf 3 I u26 I I I .tc u22 ?_); refine GR ?_; refine Fu ?_; refine F2 ?_; refine GO ?_; refine Gv ?_; refine Gw ?_; refine Kf 13 I u30 I I I .tc u22 ?_; refine Gx ?_; refine GP ?_; refine Gy ?_; refine Kh I (aR I I u31 (by kernel_rfl : _ = some (some (.string (S [])), 1, 16)) I (by simp only [List.map]; rfl) I I ?_ (by decide)) ?_
    ·simp [Value.cells]
    intro b92; refine WL.st (fun w h => h.freeze (off := 0) (xs := al (fN p)) (fun i hi => by rw [A0]; rfl)) ?_; refine Gb ?_; refine Lp (σ := Nat) [(1, _), (6, _), (8, _), (92, _), (93, _)] (fun gq => [(94, .int .i64 (gq : Int))]) (fun gq => gq ≤ (fN p).length ∧ ∀ x ∈ (fN p).take gq, 2 ≤ val x) (fun gq => (fN p).length - gq) (0) (S5 I I I I I) (S1 I) (by (try dsimp only); exact ⟨Ai _, by simp⟩) ?_; rintro j hinv2; (try dsimp only at hinv2 ⊢); obtain ⟨hj, htw⟩ := hinv2; refine Ek (fun hc95 => ?_) (fun hc95 => ?_)
    ·have hjl : j < (fN p).length := by show j < 9; omega
     obtain ⟨y, hy⟩ : ∃ y, Keep (y = (fN p).getD j default) := ⟨_, rfl⟩; have hyo : okN y := by rw [show y = _ from hy]; exact hokR.1 _ (ak (fN p) j hjl)
     refine Ez ?_; refine FY ?_; refine Kq I (ldf (off0 := 0) (m := j) I I .tc u22 I (A0 _).symm (gA (fN p) (fun s : Bs => Value.string (S s)) j hjl)) ?_; refine Ns 97 I (v' := .string (S (y))) (congrArg (fun l => Value.string (S l)) (by rw [show y = _ from hy])) ?_; refine Et ?_; refine Km I (Kc I (fun w hS => eI (a := y) (b := ae 2)) (Yl I (Ns 101 I (v' := .bool (decide (val y < 2))) (congrArg Value.bool (by rw [aC hyo (ap (by omega)), af]; exact Ag.2 (ay _ _))) ?_))); refine Nt (Ci I (fun hc101 => ?_) (fun hc101 => ?_))
     ·have hn : ¬ oG p := fun h => by have := h.1 _ (ak (fN p) j hjl); rw [← show y = _ from hy] at this; omega
      refine Cs (to ?_); refine DY ?_; exact R1 I I (by rw [cH, Aa (fun h => h hokR), Aa (fun h => h hgr), Ab hn]; rfl)
     ·refine Ck (Xd (Xa (Cg (Kq I (Rz I I I (by omega)) (Km I (Nn (Ly (j + 1) (by (try dsimp only); omega) (S5 I I I I I) (by refine (Sc ?_ (S0 _)) <;> (rfl)) ?_ (fun _ h => h)))))))); (try dsimp only); exact ⟨hjl, aq hjl htw (by rw [← show y = _ from hy]; omega)⟩
    ·refine AS ?_; obtain rfl : j = (fN p).length := by show j = 9; have h9 : j ≤ 9 := hj; omega
     rw [Ah] at htw; have ha : okN p.attr := hokR.1 _ (by simp); have hc : okN p.ch := hokR.1 _ (by simp); have hsc : okN p.sec := hokR.1 _ (by simp); have hq : okN p.mn.1.2 := hokR.2.1.2.1; have hqB := aO hq; have hmu : bI p.attr (ae 8) = if val p.attr * 8 < Big then (ae (val p.attr * 8), 0) else ([], 5) := by rw [bI, Ab ⟨ha, ap hB8⟩, af]
     refine Xa (Cq (Cf [2, 0, 1, 3, 4, 5, 6, 7, 8] [] [0, 0, 1, 1, 0, 0, 0, 0, 0] (by kernel_rfl) (by kernel_rfl) I ?_)); refine Jv I I I I I (fun ext => Oc I I (Kv fun w hS => gt (n := 8) (by omega))) ?_; refine Kj I (Fa (q := 11) I I u30 I I) (EB ?_); refine Jv I I I I I (fun ext => Oc I I (Kv fun w hS => uX (a := p.attr) (b := ae 8))) ?_; refine E0 ?_; refine EN ?_; refine WJ.nil ?_; refine Nt (Cq (WC.joinP (σ := Unit) [] (fun gq => [(132, .bool (decide (¬ (8 * val p.attr ≤ val p.mn.1.2 ∧ val p.ch ≤ val p.mn.1.2 ∧ val p.sec ≤ val p.mn.1.2))))]) (fun gq => True) (S0 _) ?_ ?_))
     ·skip
      refine Cg (Km I (Yj I (Ns 111 I (v' := .bool (decide (Big ≤ val p.attr * 8))) (congrArg Value.bool (by rw [hmu]; split <;> simp <;> omega)) ?_))); refine Km I (Nc 112 I (fun hg112 => ?_) (fun hg112 => ?_))
      ·refine T4 I (Yp I (Km I (T4 I (T2 I (Yp I (Km I (T4 I (Kt I (Yp I (Nn (WX.joinP (()) (S0 _) (by refine (Sc ?_ (S0 _)) <;> ((exact congrArg (fun b => some (Value.bool b)) (by symm; apply Ak; omega)))) ?_ (fun _ h => h)))))))))))); (try dsimp only); done
      ·refine Km I (Km I (Kc I (fun w hS => eI (a := (bI p.attr (ae 8)).1) (b := p.mn.1.2)) (Yg I (Ns 116 I (v' := .bool (decide (val p.mn.1.2 < val p.attr * 8))) (congrArg Value.bool (by rw [hmu, Ab (by omega), aC (ap (by omega)) hq, af]; exact Ag.2 (by have := fV (val p.attr * 8) (val p.mn.1.2); omega))) ?_)))); refine Yq I (Km I (Nc 118 I (fun hg118 => ?_) (fun hg118 => ?_)))
       ·refine T4 I (T2 I (Yp I (Km I (T4 I (Kt I (Yp I (Nn (WX.joinP (()) (S0 _) (by refine (Sc ?_ (S0 _)) <;> ((exact congrArg (fun b => some (Value.bool b)) (by symm; apply Ak; omega)))) ?_ (fun _ h => h))))))))); (try dsimp only); done
       ·refine Fu ?_; refine Km I (Kc I (fun w hS => eI (a := p.ch) (b := p.mn.1.2)) (Yg I (Ns 124 I (v' := .bool (decide (val p.mn.1.2 < val p.ch))) (congrArg Value.bool (by rw [aC hc hq]; exact Ag.2 (by have := fV (val p.ch) (val p.mn.1.2); omega))) ?_))); refine Yq I (Km I (Nc 126 I (fun hg126 => ?_) (fun hg126 => ?_)))
        ·refine T4 I (Kt I (Yp I (Nn (WX.joinP (()) (S0 _) (by refine (Sc ?_ (S0 _)) <;> ((refine aj rfl ?_; (try dsimp only); (simp [*]; done)))) ?_ (fun _ h => h))))); (try dsimp only); done
        ·refine Kf 10 I u30 I I I .tc u22 ?_; refine Km I (Kc I (fun w hS => eI (a := p.sec) (b := p.mn.1.2)) (Yg I (Ns 131 I (v' := .bool (decide (val p.mn.1.2 < val p.sec))) (congrArg Value.bool (by rw [aC hsc hq]; exact Ag.2 (by have := fV (val p.sec) (val p.mn.1.2); omega))) ?_))); refine Yq I (Nn (WX.joinP (()) (S0 _) (by refine (Sc ?_ (S0 _)) <;> ((refine aj rfl ?_; (try dsimp only); (exact Ag.2 (by omega))))) ?_ (fun _ h => h))); (try dsimp only); done
     ·rintro _ hmeet; (try dsimp only at hmeet ⊢); refine Ci I (fun hc132 => ?_) (fun hc132 => ?_)
      ·refine Cs (ne ?_); exact R1 I I (by rw [cH, Aa (fun h => h hokR), Aa (fun h => h hgr), Ab (fun h : oG p => hc132 h.2)]; rfl)
      ·refine Ck (Xa (Cs (to ?_))); exact R1 I I (by rw [cH, Aa (fun h => h hokR), Aa (fun h => h hgr), Aa (fun h => h ⟨htw, Al.1 hc132⟩)]; rfl)
abbrev ikC (k : IK) (r : Value) : List Value := [.string (S k.name), .string (S k.g.1), .string (S k.g.2), .string (S k.z), .string (S k.s), r, .string (S k.u), .string (S k.h)]
abbrev kbs (k : IK) : List (Int × Bs) := (2, k.s) :: (0, k.z) :: (1, k.u) :: (1, k.h) :: k.r.map fun x => ((0 : Int), x)
theorem kl (k : IK) (Q : Bs → Prop) : (∀ y ∈ kbs k, Q y.2) ↔ ∀ x ∈ bsK k, Q x := by simp [kbs, bsK]
theorem o5 {k : IK} {rv : Value} {own0 : List Ent} {ok : Nat → Prop} {w0 : World} {fs : List Fact} {w : World} (hS0 : St ok w0 (own0) (fs) w) :
  Calls Tryz.prog 142 #[ikV k rv] w fun e w' => ∃ g : Nat, e = .returned (.func (.func 189) #[] #[.pointer (some ⟨g, 0, none⟩)]) ∧ St ok w0 (⟨some g, ikC k rv, 33⟩ :: own0) fs w' := by
 refine enter (S := St ok w0 (own0) (fs)) (L := [(0, ikV k rv)]) Tryz.func142 rfl Tryz.ntmps142 rfl (Ac rfl (An _)) hS0 ?_
 refine DX ?_
 intro b1
 refine GN ?_; refine to ?_
 exact Rn I (.tmp I .nil) fun w' hS => ⟨b1, rfl, hS⟩
theorem yH {σ γ : Type} {CO : σ → γ → List Ent} {pg : σ → γ → Prop} {inv : σ → Int × Bs → Prop} {after : σ → Int × Bs → σ} {stop : σ → Int × Bs → Option Code} {l : Nat} {r : Loop} {ok : Nat → Prop} {w0 : World} {fs : List Fact} {w : World} {k : IK} {a : Option Addr} {c : Nat} {b1 : Nat} {s0 : σ} [∀ s g, HasE (CO s g) b1 (ikC k (.slice a k.r.length c)) 33] [HasF fs a (al k.r)] {g0 : γ} (hY : YOk Tryz.prog l r ok w0 fs CO pg inv after stop (fun y : Int × Bs => #[Value.int .i64 y.1, Value.string (S y.2)])) (hS0 : St ok w0 (CO s0 g0) (Fact.lp l (rcd r none) :: fs) w) (hg0 : pg s0 g0) (hinv : ∀ s y, inv s y) (hl : k.r.length ≤ 140737488351232) :
  Calls Tryz.prog 189 #[.func (.yield l) #[] #[], .pointer (some ⟨b1, 0, none⟩)] w fun e w' => (∃ v, e = .returned v) ∧ ∃ g', ((itL after stop (kbs k) s0).2 = none → pg ((itL after stop (kbs k) s0).1) g') ∧ St ok w0 (CO ((itL after stop (kbs k) s0).1) g') (Fact.lp l (rcd r ((itL after stop (kbs k) s0).2)) :: fs) w' := by
 have hi0 : itL after stop (kbs k) s0 = itL after stop (kbs k) s0 := rfl
 refine enter (S := St ok w0 (CO s0 g0) (Fact.lp l (rcd r none) :: fs)) (L := [(0, .func (.yield l) #[] #[]), (1, .pointer (some ⟨b1, 0, none⟩))]) Tryz.func189 rfl Tryz.ntmps189 rfl (Ac rfl (Ac rfl (An _))) hS0 ?_
 refine Cq (Cs (Km I ?_))
 (refine Kq I (cR I I u33 I (by kernel_rfl) (by (try simp only [sN, Int.reduceToNat, Nat.reduceAdd, Nat.reduceMul, Nat.reduceSub]); rfl)) ?_)
 refine EH ?_
 refine Kh I (dP hY [] (((2 : Int), k.s)) I I I I (hinv _ _) (hg0)) ?_
 intro gy; refine WL.pu ?_; intro hgy; (refine WL.app0 ?_)
 refine Yt I (Km I (Nc 10 I (fun hg10 => ?_) (fun hg10 => ?_)))
 ·have hfin := fp hi0 (by simpa using hg10)
  refine T4 I (Kt I (Yp I (Km I (T4 I (Kt I (Yp I (Km I (T4 I (Kt I (Yp I (Nt (Cd I (fun _ => ?_) (fun h => by cases h)))))))))))))
  refine Ce (Xb ?_)
  exact G5
 ·have hst := Df.1 hg10
  replace hi0 := fq hi0 hst
  have hp := hgy hst
  rw [hst]
  refine Km I ?_
  (refine Kq I (cR I I u33 I (by kernel_rfl) (by (try simp only [sN, Int.reduceToNat, Nat.reduceAdd, Nat.reduceMul, Nat.reduceSub]); rfl)) ?_)
  refine EH ?_
  refine Kh I (dP hY [] (((0 : Int), k.z)) I I I I (hinv _ _) (hp)) ?_
  intro gy; refine WL.pu ?_; intro hgy; (refine WL.app0 ?_)
  refine Yt I (Yq I (Km I (Nc 17 I (fun hg17 => ?_) (fun hg17 => ?_))))
  ·have hfin := fp hi0 (by simpa using hg17); refine T4 I (Kt I (Yp I (Km I (T4 I (Kt I (Yp I (Nt (Cd I (fun _ => ?_) (fun h => by cases h))))))))); refine Ce (Xb ?_); exact G5
  ·have hst := Df.1 hg17; replace hi0 := fq hi0 hst; have hp := hgy hst; rw [hst]; refine Km I ?_; (refine Kq I (cR I I u33 I (by kernel_rfl) (by (try simp only [sN, Int.reduceToNat, Nat.reduceAdd, Nat.reduceMul, Nat.reduceSub]); rfl)) ?_); refine EH ?_; refine Kh I (dP hY [] (((1 : Int), k.u)) I I I I (hinv _ _) (hp)) ?_; intro gy; refine WL.pu ?_; intro hgy; (refine WL.app0 ?_); refine Yt I (Yq I (Km I (Nc 24 I (fun hg24 => ?_) (fun hg24 => ?_))))
   ·have hfin := fp hi0 (by simpa using hg24); refine T4 I (Kt I (Yp I (Nt (Cd I (fun _ => ?_) (fun h => by cases h))))); refine Ce (Xb ?_); exact G5
   ·have hst := Df.1 hg24; replace hi0 := fq hi0 hst; have hp := hgy hst; rw [hst]; refine Km I ?_; (refine Kq I (cR I I u33 I (by kernel_rfl) (by (try simp only [sN, Int.reduceToNat, Nat.reduceAdd, Nat.reduceMul, Nat.reduceSub]); rfl)) ?_); refine EH ?_; refine Kh I (dP hY [] (((1 : Int), k.h)) I I I I (hinv _ _) (hp)) ?_; intro gy; refine WL.pu ?_; intro hgy; (refine WL.app0 ?_); refine E8 (fun hc30 => ?_) (fun hc30 => ?_)
    ·have hfin := fp hi0 (by simpa using hc30); refine Ce (Xb ?_); exact G5
    ·have hst := Df.1 hc30; replace hi0 := fq hi0 hst; have hp := hgy hst; rw [hst]; refine Ck (Xa (Cs ?_)); (refine Kq I (cR I I u33 I (by kernel_rfl) (by (try simp only [sN, Int.reduceToNat, Nat.reduceAdd, Nat.reduceMul, Nat.reduceSub]); rfl)) ?_); refine Kq I (Ld I I .tc u31) ?_; refine Gb ?_; refine Lo (σ := Nat × σ × γ) [(0, _), (32, _), (33, _)] (fun gq => [(34, .int .i64 (gq.1 : Int))]) (fun gq => gq.1 ≤ k.r.length ∧ pg gq.2.1 gq.2.2 ∧ itL after stop ((k.r.drop gq.1).map fun x => ((0 : Int), x)) gq.2.1 = itL after stop (kbs k) s0) (fun gq => k.r.length - gq.1) (fun gq => CO gq.2.1 gq.2.2) (fun gq => Fact.lp l (rcd r none) :: fs) (0, after (after (after (after s0 (2, k.s)) (0, k.z)) (1, k.u)) (1, k.h), gy) (S3 I I I) (S1 I) (by (try dsimp only); exact ⟨Ai _, hp, hi0⟩) (fun _ h => h) ?_; rintro ⟨i, s, g⟩ hinv1; (try dsimp only at hinv1 ⊢); obtain ⟨hi, hgs, hit⟩ := hinv1; refine Ek (fun hc35 => ?_) (fun hc35 => ?_)
     ·have hil : i < k.r.length := by omega
      have hdr : (k.r.drop i).map (fun x => ((0 : Int), x)) = (0, k.r.getD i default) :: (k.r.drop (i + 1)).map (fun x => ((0 : Int), x)) := by
       rw [Bp hil, D3]; congr 2; simp [List.getD, hil]
      rw [hdr] at hit; refine Ez ?_; refine Ey ?_; refine EZ ?_; refine Et ?_; refine Km I (Kh I (dP hY [] (((0 : Int), k.r.getD i default)) I I I I (hinv _ _) (hgs)) ?_); intro gy; refine WL.pu ?_; intro hgy; (refine WL.app0 ?_); refine Ex (fun hc41 => ?_) (fun hc41 => ?_)
      ·have hfin := fp hit (by simpa using hc41); refine Ce (Xf (Xb (Xb (Xf ?_)))); exact G5
      ·have hst := Df.1 hc41; replace hit := fq hit hst; rw [hst]; refine Ck (Xd (Xa (Cg (Kq I (Rz I I I (by omega)) (Km I (Nn (Lx ((i + 1, after s (0, k.r.getD i default), gy)) (by (try dsimp only); omega) (S3 I I I) (by refine (Sc ?_ (S0 _)) <;> (rfl)) ?_ (fun _ h => h)))))))); (try dsimp only); exact ⟨by omega, hgy hst, hit⟩
     ·refine AS ?_; obtain rfl : i = k.r.length := by omega
      have hfin : (s, none) = itL after stop (kbs k) s0 := by rw [← hit, List.drop_length]; rfl
      refine WX.ret_normal ?_; exact Rn I .nil fun w' hS => ⟨⟨_, rfl⟩, g, fun _ => by rw [← hfin]; exact hgs, by rw [← hfin]; exact au _ hS⟩
def tH (s : Int) (y : Int × Bs) : Int := if okN y.2 then s else 3
def se (_ : Int) (y : Int × Bs) : Option Code := if okN y.2 then none else some .ret
abbrev elJ (k : IK) (y : Int × Bs) : Prop := elG k.g y.2 ∧ ¬ (y.1 = 2 ∧ y.2 = ae 1)
def tI (k : IK) (s : Int) (y : Int × Bs) : Int := if elJ k y then s else 13
def si (k : IK) (_ : Int) (y : Int × Bs) : Option Code := if elJ k y then none else some .ret
theorem rz (k : IK) : (∀ y ∈ kbs k, elJ k y) ↔ ((∀ x ∈ bsK k, elG k.g x) ∧ k.s ≠ ae 1) := by
 constructor
 ·intro h
  refine ⟨(kl k (fun x => elG k.g x)).1 fun y hy => (h y hy).1, fun e => (h (2, k.s) (by simp [kbs])).2 ⟨rfl, e⟩⟩
 ·rintro ⟨h, hs⟩ y hy
  refine ⟨(kl k (fun x => elG k.g x)).2 h y hy, ?_⟩
  rintro ⟨h2, h1⟩
  simp [kbs] at hy
  rcases hy with rfl | rfl | rfl | rfl | ⟨x, _, rfl⟩
  ·exact hs h1
  all_goals simp at h2
abbrev KCO (p : PR) (k : IK) (rv : Value) (b2 b3 b4 g : Nat) (s : Int) (_ : Unit) : List Ent := [⟨some g, ikC k rv, 33⟩, ⟨some b4, [.int .i64 s], 47⟩, ⟨some b3, ikC k rv, 33⟩, ⟨some b2, prC p, 30⟩]
theorem vm {p : PR} {k : IK} {a : Option Addr} {c : Nat} {w : World} {ok : Nat → Prop} (hF1 : (Fact.sl a (al k.r)).holds ok w) (hm8 : p.mn.1.1.length ≤ 8) (hk8 : k.g.1.length ≤ 8) (hl : k.r.length ≤ 140737488351232) (hnl : k.name.length ≤ 140737488351232) (hD : TabD w) :
  Cw 82 #[prV p, ikV k (.slice a k.r.length c)] w (.int .i64 (bV p k)) := by
 have hitV : itL tH se (kbs k) 0 = if ∀ y ∈ kbs k, okN y.2 then (0, none) else (3, some Code.ret) := nP (fun y : Int × Bs => okN y.2) 3 (kbs k) 0
 have hitE : itL (tI k) (si k) (kbs k) 0 = if ∀ y ∈ kbs k, elJ k y then (0, none) else (13, some Code.ret) := nP (elJ k) 13 (kbs k) 0
 refine jH (S := St (fun _ => True) w [] ([Fact.sl a (al k.r)])) (L := [(0, prV p), (1, ikV k (.slice a k.r.length c))]) Tryz.func82 rfl Tryz.ntmps82 rfl (Ac rfl (Ac rfl (An _))) (St.start (fun _ _ => trivial) (Fc (ah hF1) Fn)) ?_
 refine DX ?_
 intro b2
 refine Ff ?_
 intro b3
 refine FB ?_
 intro b4
 refine Nt (Cq (Cs (Kq I (lda I I .tc u30 I ?_) ?_)))
 ·kernel_rfl
 refine GU ?_; refine Et ?_; refine EF (fun hc13 => ?_) (fun hc13 => ?_)
 ·refine Cs (Km I (Ng I I (st I I I .tc (by kernel_rfl) I ?_ (by (simp only [As, At]; rfl))) ?_))
  ·decide
  intro _
  refine Nt (Ce (Xb ?_))
  exact WX.retM0 rfl (.one rfl .tc u47 rfl .nil) fun w' hS => ⟨by rw [bV, Ab (by simpa using hc13)]; rfl, hS.below⟩
 ·have h0 : cH p = 0 := by simpa using hc13
  refine Ck (Xa (Cq (WC.joinP (σ := Unit) [(3, _), (4, _)] (fun gq => [(26, .bool (decide (¬ (okN k.g.1 ∧ okN k.g.2))))]) (fun gq => True) (S2 I I) ?_ ?_)))
  ·skip
   refine Cg (Kq I (Fa (q := 1) I I u33 I I) (EW ?_)); refine Kc I (fun w hS => az (a := k.g.1)) (Yt I (Km I (Nc 20 I (fun hg20 => ?_) (fun hg20 => ?_))))
   ·refine T4 I (Kt I (Yp I (Nn (WX.joinP (()) (S2 I I) (by refine (Sc ?_ (S0 _)) <;> ((refine aj rfl ?_; (try dsimp only); (simp [*]; done)))) ?_ (fun _ h => h))))); (try dsimp only); done
   ·refine Kq I (Fa (q := 1) I I u33 I I) (Kf 2 I u26 I I I .tc u22 ?_); refine Kc I (fun w hS => az (a := k.g.2)) (Yt I (Yq I (Nn (WX.joinP (()) (S2 I I) (by refine (Sc ?_ (S0 _)) <;> ((refine aj rfl ?_; (try dsimp only); (simp [*]; done)))) ?_ (fun _ h => h))))); (try dsimp only); done
  ·rintro _ hmeet; (try dsimp only at hmeet ⊢); refine Ci I (fun hc26 => ?_) (fun hc26 => ?_)
   ·refine Cs (Ng I I (st I I I .tc (by kernel_rfl) I ?_ (by (simp only [As, At]; rfl))) ?_)
    ·decide
    intro _; refine Nt (Ce (Xb ?_)); exact WX.retM0 I (.one I .tc u47 I .nil) fun w' hS => ⟨by rw [bV, Aa (fun h => h h0), Ab (fun h => hc26 h.1)]; rfl, hS.below⟩
   ·have hgo : okN k.g.1 ∧ okN k.g.2 := Al.1 hc26; refine Ck (Xa (Cq (Cs (Kq I (lda I I .tc u33 I ?_) ?_))))
    ·kernel_rfl
    refine Kh I (Oc I I (fun w hS => o5 (k := k) (rv := .slice a k.r.length c) hS)) ?_; intro g28; refine Nt (Cb (WC.range (CO := KCO p k (.slice a k.r.length c) b2 b3 b4 g28) (pg := fun _ _ => True) (inv := fun _ _ => True) (after := tH) (stop := se) (enc := fun y : Int × Bs => #[Value.int .i64 y.1, Value.string (S y.2)]) ((0 : Int)) (()) ((itL tH se (kbs k) 0).1) ((itL tH se (kbs k) 0).2) (trivial) I (by kernel_rfl) (fun _ => rfl) (by exact fun w h => h) ?_ (fun l r D w hl' hY hS => yH (k := k) (a := a) (c := c) (b1 := g28) hY hS trivial (fun _ _ => trivial) hl) ?_ ?_))
    ·intro l r D f a s g x ext wr hl hi hpg hF hS; rw [yJ]; refine el (Fr.tm ((hF.put (d := 29) rfl _).put (d := 30) rfl _)) hS ?_; refine FO ?_; refine GG ?_; refine Cb (GB ?_); refine Km I (Kc I (fun w hS => az (a := x.2)) (Ex (fun hc33 => ?_) (fun hc33 => ?_)))
     ·refine GB ?_; refine Ng I I (st I I I .tc (by kernel_rfl) I ?_ (by (simp only [As, At]; rfl))) ?_
      ·(simp; done)
      intro _; refine Nt (Ce (Xf ?_))
      exact WX.rret hl fun w' hS => by
       have h1 : ¬ okN x.2 := by simpa using hc33
       have h2 : se s x = some .ret := Aa h1; have h3 : tH s x = 3 := Aa h1; rw [h2, h3]; exact ⟨rfl, (), fun h => (by cases h), hS⟩
     ·refine Ck (Xd ?_)
      exact WX.rnext hl fun w' hS => by
       have h1 : okN x.2 := by simpa using hc33
       have h2 : se s x = none := Ab h1; have h3 : tH s x = s := Ab h1; rw [h2, h3]; exact ⟨rfl, (), fun _ => trivial, hS⟩
    ·intro D1 g1 hD1 hg1 hcf; have hv : ∀ y ∈ kbs k, okN y.2 := A5 fun h => by rw [hitV, Aa h] at hcf; cases hcf
     rw [hitV, Ab hv]; have hok2 : (okN k.g.1 ∧ okN k.g.2) ∧ ∀ x ∈ bsK k, okN x := ⟨hgo, (kl k okN).1 hv⟩; refine Xd (Xa (Cq (Cb (Cs (Kf 0 I u33 I I I .tc u9 ?_))))); refine Kc I (fun w hS => vi (s := k.name) (by assumption)) (Yt I (Ka I (Nt (Ci I (fun hc34 => ?_) (fun hc34 => ?_)))))
     ·refine Cs (Ng I I (st I I I .tc (by kernel_rfl) I ?_ (by (simp only [As, At]; rfl))) ?_)
      ·decide
      intro _; refine Nt (Ce (Xf (Xb ?_))); exact WX.retM1 hD1 I (.one I .tc u47 I .nil) fun w' hS => ⟨by rw [bV, Aa (fun h => h h0), Aa (fun h => h hok2), Ab (by simpa using hc34)]; rfl, hS.below⟩
     ·have hnm : eQ k.name := by simpa using hc34
      refine WC.joinP (σ := Unit) [(3, _), (4, _)] (fun gq => [(39, .bool (decide (k.g.2 ≠ [] ∨ aW k.g ≠ 0)))]) (fun gq => True) (S2 I I) ?_ ?_
      ·skip
       refine Cg (Kq I (Fa (q := 1) I I u33 I I) (Kf 2 I u26 I I I .tc u22 ?_)); refine Yr I (Km I (Nc 44 I (fun hg44 => ?_) (fun hg44 => ?_)))
       ·refine T4 I (Yp I (Ka I (Nn (WX.joinP (()) (S2 I I) (by refine (Sc ?_ (S0 _)) <;> ((refine aj rfl ?_; (try dsimp only); (simp [*]; done)))) ?_ (fun _ h => h))))); (try dsimp only); done
       ·refine Kq I (Fa (q := 1) I I u33 I I) (Kq I (ldp I I .tc u26 I (by kernel_rfl : _ = some 2) (by rfl) (by rfl)) ?_); refine Kc I (fun w hS => iQ (g := k.g)) (Yj I (Yq I (Ka I (Nn (WX.joinP (()) (S2 I I) (by refine (Sc ?_ (S0 _)) <;> ((refine aj rfl ?_; (try dsimp only); (simp [*]; done)))) ?_ (fun _ h => h)))))); (try dsimp only); done
      ·rintro _ hmeet; (try dsimp only at hmeet ⊢); refine Ci I (fun hc39 => ?_) (fun hc39 => ?_)
       ·refine Cs (Ng I I (st I I I .tc (by kernel_rfl) I ?_ (by (simp only [As, At]; rfl))) ?_)
        ·decide
        intro _; refine Nt (Ce (Xf (Xb ?_))); exact WX.retM1 hD1 I (.one I .tc u47 I .nil) fun w' hS => ⟨by rw [bV, Aa (fun h => h h0), Aa (fun h => h hok2), Aa (fun h => h hnm), Ab hc39]; rfl, hS.below⟩
       ·have hcg : aW k.g = 0 := A5 fun h => hc39 (Or.inr h)
        refine WC.joinP (σ := Unit) [(3, _), (4, _)] (fun gq => [(50, .bool (decide (k.r.length < 2 ∨ 18 < k.r.length)))]) (fun gq => True) (S2 I I) ?_ ?_
        ·skip
         refine Cg (Fx ?_); refine Yo I u31 (Yl I (Km I (Nc 55 I (fun hg55 => ?_) (fun hg55 => ?_))))
         ·refine T4 I (Yp I (Ka I (Nn (WX.joinP (()) (S2 I I) (by refine (Sc ?_ (S0 _)) <;> ((exact congrArg (fun b => some (Value.bool b)) (by symm; apply Ak; omega)))) ?_ (fun _ h => h))))); (try dsimp only); done
         ·refine Kf 5 I u33 I I I .tc u31 ?_; refine Yo I u31 (Yg I (Yq I (Ka I (Nn (WX.joinP (()) (S2 I I) (by refine (Sc ?_ (S0 _)) <;> ((refine aj rfl ?_; (try dsimp only); (exact Ag.2 (by omega))))) ?_ (fun _ h => h)))))); (try dsimp only); done
        ·rintro _ hmeet; (try dsimp only at hmeet ⊢); refine Ci I (fun hc50 => ?_) (fun hc50 => ?_)
         ·refine Cs (Ng I I (st I I I .tc (by kernel_rfl) I ?_ (by (simp only [As, At]; rfl))) ?_)
          ·decide
          intro _; refine Nt (Ce (Xf (Xb ?_))); exact WX.retM1 hD1 I (.one I .tc u47 I .nil) fun w' hS => ⟨by rw [bV, Aa (fun h => h h0), Aa (fun h => h hok2), Aa (fun h => h hnm), Aa hc39, Ab hc50]; rfl, hS.below⟩
         ·refine Ck (Xd (Xa (Cq (Cs (Kq I (lda I I .tc u33 I ?_) ?_)))))
          ·kernel_rfl
          refine Kh I (Oc I I (fun w hS => o5 (k := k) (rv := .slice a k.r.length c) hS)) ?_; intro g62; refine Nt (Cb (WC.range2 (CO := KCO p k (.slice a k.r.length c) b2 b3 b4 g62) (pg := fun _ _ => True) (inv := fun _ _ => True) (after := tI k) (stop := si k) (enc := fun y : Int × Bs => #[Value.int .i64 y.1, Value.string (S y.2)]) ((0 : Int)) (()) ((itL (tI k) (si k) (kbs k) 0).1) ((itL (tI k) (si k) (kbs k) 0).2) (trivial) I (by kernel_rfl) (fun _ => rfl) (by exact fun w h => au w h) ?_ (fun l r D w hl' hY hS => yH (k := k) (a := a) (c := c) (b1 := g62) hY hS trivial (fun _ _ => trivial) hl) ?_ ?_))
          ·intro l r D f a s g x ext wr hl hi hpg hF hS; rw [yJ]; refine el (Fr.tm ((hF.put (d := 63) rfl _).put (d := 64) rfl _)) hS ?_; refine GB ?_; refine Ka I (Nt (FO ?_)); refine GG ?_; refine Cb (WC.joinP (σ := Unit) [(4, _)] (fun gq => [(78, .bool (decide (¬ elJ k x)))]) (fun gq => True) (S1 I) ?_ ?_)
           ·skip
            refine FO ?_; refine EC ?_; refine Km I (Kc I (fun w hS => iO (g := k.g) (x := x.2) (by assumption)) (Ns 68 I (v' := .bool (decide (elG k.g x.2))) (congrArg Value.bool (by simp [hcg])) ?_)); refine Yt I (Km I (Nc 70 I (fun hg70 => ?_) (fun hg70 => ?_)))
            ·refine T4 I (T2 I (Kt I (Yp I (Nn (WX.joinP (()) (S1 I) (by refine (Sc ?_ (S0 _)) <;> ((refine aj rfl ?_; (try dsimp only); (simp [*]; done)))) ?_ (fun _ h => h)))))); (try dsimp only); done
            ·refine Km I (Yi I (Km I (Nc 73 I (fun hg73 => ?_) (fun hg73 => ?_))))
             ·refine Km I (Kc I (fun w hS => gt (by (dsimp only; omega))) (Ys I (Yp I (Yq I (Nn (WX.joinP (()) (S1 I) (by refine (Sc ?_ (S0 _)) <;> ((refine aj rfl ?_; (try dsimp only); (simp [*]; done)))) ?_ (fun _ h => h))))))); (try dsimp only); done
             ·refine T2 I (Kt I (Yq I (Yq I (Nn (WX.joinP (()) (S1 I) (by refine (Sc ?_ (S0 _)) <;> ((refine aj rfl ?_; (try dsimp only); (simp [*]; done)))) ?_ (fun _ h => h)))))); (try dsimp only); done
           ·rintro _ hmeet; (try dsimp only at hmeet ⊢); refine Ci I (fun hc78 => ?_) (fun hc78 => ?_)
            ·refine GB ?_; refine Ng I I (st I I I .tc (by kernel_rfl) I ?_ (by (simp only [As, At]; rfl))) ?_
             ·(simp; done)
             intro _; refine Nt (Ce (Xf ?_))
             exact WX.rret hl fun w' hS => by
              have h1 : ¬ elJ k x := hc78; have h2 : si k s x = some .ret := Aa h1; have h3 : tI k s x = 13 := Aa h1; rw [h2, h3]; exact ⟨rfl, (), fun h => (by cases h), hS⟩
            ·refine Ck (Xd ?_)
             exact WX.rnext hl fun w' hS => by
              have h1 : elJ k x := Al.1 hc78; have h2 : si k s x = none := Ab h1; have h3 : tI k s x = s := Ab h1; rw [h2, h3]; exact ⟨rfl, (), fun _ => trivial, hS⟩
          ·intro D2 g2 hD2 hne2 hg2 hcf; have hv2 : ∀ y ∈ kbs k, elJ k y := A5 fun h => by rw [hitE, Aa h] at hcf; cases hcf
           rw [hitE, Ab hv2]; refine Xd (Xa (Cs (Ng I I (st I I I .tc (by kernel_rfl) I ?_ (by (simp only [As, At]; rfl))) ?_)))
           ·decide
           intro _; refine Nt (Ce ?_); exact WX.retM2 hD1 hD2 (hne2 _ (by simp)) I (.one I .tc u47 I .nil) fun w' hS => ⟨by rw [bV, Aa (fun h => h h0), Aa (fun h => h hok2), Aa (fun h => h hnm), Aa hc39, Aa hc50, Aa (fun h => h ((rz k).1 hv2))]; rfl, hS.below⟩
          ·intro D2 g2 c hD2 hne2 hcf; obtain rfl : c = .ret := by (rw [hitE] at hcf; split at hcf <;> (cases hcf <;> rfl))
           refine Ce ?_; have hn : ¬ ∀ y ∈ kbs k, elJ k y := fun h => by rw [hitE, Ab h] at hcf; cases hcf
           rw [hitE, Aa hn]; refine Xf (Xb ?_); exact WX.retM2 hD1 hD2 (hne2 _ (by simp)) I (.one I .tc u47 I .nil) fun w' hS => ⟨by rw [bV, Aa (fun h => h h0), Aa (fun h => h hok2), Aa (fun h => h hnm), Aa hc39, Aa hc50, Ab (fun h => hn ((rz k).2 h))]; rfl, hS.below⟩
    ·intro D1 g1 c hD1 hcf; obtain rfl : c = .ret := by (rw [hitV] at hcf; split at hcf <;> (cases hcf <;> rfl))
     refine Ce ?_; have hn : ¬ ∀ y ∈ kbs k, okN y.2 := fun h => by rw [hitV, Ab h] at hcf; cases hcf
     rw [hitV, Aa hn]; refine Xf (Xb ?_); exact WX.retM1 hD1 I (.one I .tc u47 I .nil) fun w' hS => ⟨by rw [bV, Aa (fun h => h h0), Ab (fun h => hn ((kl k okN).2 h.2))]; rfl, hS.below⟩
abbrev Tm := Bs × Int × Zs
abbrev Qn := Int × Bs × List Tm
abbrev Sm := List Gp × List Bs × List Qn
abbrev tmC (t : Tm) : List Value := [.string (S t.1), .int .i64 t.2.1, .bool t.2.2.1, .string (S t.2.2.2)]
abbrev tms (l : List Tm) : List Value := l.flatMap tmC
abbrev QA := Qn × Option Addr × Nat
abbrev qaC (q : QA) : List Value := [.int .i64 q.1.1, .string (S q.1.2.1), .slice q.2.1 q.1.2.2.length q.2.2]
abbrev qas (l : List QA) : List Value := l.flatMap qaC
abbrev gpC (g : Gp) : List Value := [.string (S g.1), .string (S g.2)]
abbrev gps (l : List Gp) : List Value := l.flatMap gpC
abbrev vrC (v : Bs) : List Value := [.string (S v)]
abbrev vrs (l : List Bs) : List Value := l.flatMap vrC
abbrev qaF (q : QA) : Fact := Fact.sl q.2.1 (tms q.1.2.2)
structure SA where
 gs : List Gp
 vs : List Bs
 es : List QA
 ga : Option Addr
 gc : Nat
 va : Option Addr
 vc : Nat
 ea : Option Addr
 ec : Nat
abbrev SA.core (s : SA) : Sm := (s.gs, s.vs, s.es.map (·.1))
abbrev saV (s : SA) : Value := .agg #[.slice s.ga s.gs.length s.gc, .slice s.va s.vs.length s.vc, .slice s.ea s.es.length s.ec]
abbrev saF (s : SA) : List Fact := Fact.sl s.ga (gps s.gs) :: Fact.sl s.va (vrs s.vs) :: Fact.sl s.ea (qas s.es) :: s.es.map qaF
def saL (s : SA) : Prop := s.gs.length ≤ 100000 ∧ s.vs.length ≤ 100000 ∧ s.es.length ≤ 100000 ∧ (∀ q ∈ s.es, q.1.2.2.length ≤ 100000) ∧ ∀ g ∈ s.gs, g.1.length ≤ 8
def okT (nv : Nat) (t : Tm) : Prop := (0 ≤ t.2.1 ∧ t.2.1 < nv) ∧ okN t.1 ∧ okZ t.2.2
instance (nv : Nat) (t : Tm) : Decidable (okT nv t) := inferInstanceAs (Decidable (_ ∧ _))
def BI (ng : Nat) (q : Qn) : Prop := (0 ≤ q.1 ∧ q.1 < ng) ∧ okN q.2.1
instance (ng : Nat) (q : Qn) : Decidable (BI ng q) := inferInstanceAs (Decidable (_ ∧ _))
def okQ (ng nv : Nat) (q : Qn) : Prop := BI ng q ∧ ∀ t ∈ q.2.2, okT nv t
instance (ng nv : Nat) (q : Qn) : Decidable (okQ ng nv q) := inferInstanceAs (Decidable (_ ∧ _))
def okG (g : Gp) : Prop := okN g.1 ∧ okN g.2
instance (g : Gp) : Decidable (okG g) := inferInstanceAs (Decidable (_ ∧ _))
def bK (s : Sm) : Prop := (∀ g ∈ s.1, okG g) ∧ (∀ v ∈ s.2.1, okN v) ∧ ∀ q ∈ s.2.2, okQ s.1.length s.2.1.length q
instance (s : Sm) : Decidable (bK s) := inferInstanceAs (Decidable (_ ∧ _))
def dO (s : Sm) : Prop := (s.1.length ≤ 8 ∧ s.2.1.length ≤ 64 ∧ s.2.2.length ≤ 64) ∧ ∀ q ∈ s.2.2, q.2.2.length ≤ 64
instance (s : Sm) : Decidable (dO s) := inferInstanceAs (Decidable (_ ∧ _))
def elQ (gs : List Gp) (q : Qn) : Prop := elG (gs.getD q.1.toNat default) q.2.1 ∧ ∀ t ∈ q.2.2, elG (gs.getD q.1.toNat default) t.1
instance (gs : List Gp) (q : Qn) : Decidable (elQ gs q) := inferInstanceAs (Decidable (_ ∧ _))
def elS (s : Sm) : Prop := (∀ g ∈ s.1, aW g = 0) ∧ ∀ q ∈ s.2.2, elQ s.1 q
instance (s : Sm) : Decidable (elS s) := inferInstanceAs (Decidable (_ ∧ _))
def dU (gs : List Gp) : Bs := ((gs.find? fun g => decide (g.2 ≠ [])).map (·.2)).getD []
def kdQ (gs : List Gp) (vs : List Bs) (q : Qn) : Prop := (gs.getD q.1.toNat default).2 ≠ [] ∨ ∀ t ∈ q.2.2, vs.getD t.2.1.toNat default ≠ []
instance (gs : List Gp) (vs : List Bs) (q : Qn) : Decidable (kdQ gs vs q) := inferInstanceAs (Decidable (_ ∨ _))
def kdS (s : Sm) : Prop := (∀ v ∈ s.2.1, v ≠ []) ∨ (dU s.1 ≠ [] ∧ ∀ g ∈ s.1, ¬ (g.2 ≠ [] ∧ g.2 ≠ dU s.1)) ∧ ∀ q ∈ s.2.2, kdQ s.1 s.2.1 q
instance (s : Sm) : Decidable (kdS s) := inferInstanceAs (Decidable (_ ∨ _))
def fW (s : Sm) : Int := if ¬ bK s then 3 else if ¬ dO s then 6 else if ¬ elS s then 13 else if ¬ kdS s then 10 else 0
def ep (s : Sm) (w : List Zs) : Int := if ¬ bK s then 3 else if ¬ (∀ x ∈ w, okZ x) then 3 else if fW s ≠ 0 then fW s else if w.length ≠ s.2.1.length then 6 else 0
def ig : List Int → Int
 | [] => 0
 | e :: l => if e ≠ 0 then e else ig l
abbrev exT (w : List Zs) (t : Tm) : Zs × Int := bY t.2.2 (w.getD t.2.1.toNat default)
def exQ (w : List Zs) (q : Qn) : List Zs × Int := if ig (q.2.2.map fun t => (exT w t).2) ≠ 0 then ([], ig (q.2.2.map fun t => (exT w t).2)) else (q.2.2.map fun t => (exT w t).1, 0)
def imQ (gs : List Gp) (w : List Zs) (q : Qn) : Bs × Int := if (exQ w q).2 ≠ 0 then ([], (exQ w q).2) else bu (gs.getD q.1.toNat default) (q.2.2.map (·.1)) (exQ w q).1
def imS (s : Sm) (w : List Zs) : List Bs × Int := if ig (s.2.2.map fun q => (imQ s.1 w q).2) ≠ 0 then ([], ig (s.2.2.map fun q => (imQ s.1 w q).2)) else (s.2.2.map fun q => (imQ s.1 w q).1, 0)
def inV (q v : Bs) (x : Zs) : Prop := if v = [] then x.1 = false ∧ val x.2 < val q else val x.2 < val v
instance (q v : Bs) (x : Zs) : Decidable (inV q v x) := by unfold inV; infer_instance
def inR (s : Sm) (w : List Zs) : Prop := ∀ i, i < s.2.1.length → inV (dU s.1) (s.2.1.getD i default) (w.getD i default)
instance (s : Sm) (w : List Zs) : Decidable (inR s w) := inferInstanceAs (Decidable (∀ i, i < s.2.1.length → _))
def cx (s : Sm) (w : List Zs) : Bool × Int :=
 if ep s w ≠ 0 then (false, ep s w) else if ¬ inR s w then (false, 0) else if (imS s w).2 ≠ 0 then (false, (imS s w).2) else (decide ((imS s w).1 = s.2.2.map (·.2.1)), 0)
theorem tb {l : List Int} : ig l = 0 ↔ ∀ e ∈ l, e = 0 := by
 induction l with
 | nil => simp [ig]
 | cons e l ih =>
  rw [ig]; split
  ·rename_i h; simp [h]
  ·rename_i h; rw [ih]; simp; intro _; exact Al.1 h
theorem vF {a b : List Int} (h : ∀ e ∈ a, e = 0) : ig (a ++ b) = ig b := by
 induction a with
 | nil => rfl
 | cons e l ih => rw [List.cons_append, ig, Aa (by simp [h e]), ih fun x hx => h x (C3 _ hx)]
theorem aF {α : Type} [Inhabited α] {l : List α} {i : Nat} (h : i < l.length) : l.take (i + 1) = l.take i ++ [l.getD i default] := by
 rw [Bv, Ae h, List.getD_eq_getElem?_getD, Ae h]; rfl
theorem kI {α : Type} [Inhabited α] {l : List α} {i : Nat} (h : i < l.length) : l = l.take i ++ l.getD i default :: l.drop (i + 1) := by
 rw [← List.singleton_append, ← B6, ← aF h, Do]
theorem ry {α : Type} [Inhabited α] {l : List α} {f : α → Int} {i : Nat} (h : i < l.length) (h0 : ∀ x ∈ l.take i, f x = 0) (h1 : f (l.getD i default) ≠ 0) : ig (l.map f) = f (l.getD i default) := by
 conv => lhs; rw [kI h]
 rw [Ca, vF (by intro e he; obtain ⟨x, hx, rfl⟩ := B5.1 he; exact h0 x hx), D3, ig, Ab h1]
theorem pb {α : Type} {l : List α} {f : α → Int} (h0 : ∀ x ∈ l, f x = 0) : ig (l.map f) = 0 := tb.2 (by simpa using h0)
theorem ct {l : List QA} {p : Qn → Prop} : (∀ q ∈ l.map (·.1), p q) ↔ ∀ q ∈ l, p q.1 := by simp
theorem qY {gs : List Gp} {i : Nat} (h : i < gs.length) (h0 : ∀ g ∈ gs.take i, g.2 = []) (h1 : (gs.getD i default).2 ≠ []) : dU gs = (gs.getD i default).2 := by
 have e : gs.find? (fun g => decide (g.2 ≠ [])) = some (gs.getD i default) := by
  conv => lhs; rw [kI h]
  rw [List.find?_append, List.find?_eq_none.2 (by simpa using h0), List.find?_cons_of_pos (by simpa using h1)]; rfl
 rw [dU, e]; rfl
theorem oR {gs : List Gp} (h0 : ∀ g ∈ gs, g.2 = []) : dU gs = [] := by
 rw [dU, List.find?_eq_none.2 (by simpa using h0)]; rfl
theorem oQ {gs : List Gp} (h : ∀ g ∈ gs, okG g) : okN (dU gs) := by
 rw [dU]; cases e : gs.find? (fun g => decide (g.2 ≠ [])) with
 | none => exact qZ
 | some g => exact (h g (List.mem_of_find?_eq_some e)).2
abbrev Un (m x : Nat) : Prop := Nat.gcd x m = 1
theorem yU {m x y : Nat} (h1 : Un m x) (h2 : Un m y) : Un m (x * y) := Nat.Coprime.mul_left h1 h2
theorem yT {m x : Nat} (n : Nat) (h : Un m x) : Un m (x ^ n) := Nat.Coprime.pow_left n h
theorem px {m x : Nat} : Un m (x % m) ↔ Un m x := by unfold Un; rw [← Nat.gcd_rec, Nat.gcd_comm]
theorem tV {m x : Nat} (hm : 0 < m) (h : Un m x) : x * dR x m % m = 1 % m := by
 obtain ⟨y, hy⟩ := vt hm h; exact s5 hm hy
theorem wE {m x : Nat} (hm : 0 < m) (h : Un m x) : Un m (dR x m) := n9 (x := x) (by rw [Am]; exact tV hm h)
theorem AU {m x : Nat} (hm : 0 < m) (h : Un m x) (e : Int) : Un m (if e < 0 then dR x m else x) := by split; exact wE hm h; exact h
theorem wD {m x : Nat} (hm : 0 < m) (h : Un m x) (e : Int) : Un m (bT m x e) := px.2 (yT _ (AU hm h e))
theorem oa {α : Type} {m : Nat} (f : α → Nat) : ∀ l : List α, (∀ x ∈ l, Un m (f x)) → Un m (aB f l)
 | [], _ => by simp [aB, Un]
 | x :: l, h => yU (h x (by simp)) (oa f l fun y hy => h y (C3 _ hy))
abbrev Or (m q x : Nat) : Prop := x ^ q % m = 1 % m
theorem zG {m q x y : Nat} (h1 : Or m q x) (h2 : Or m q y) : Or m q (x * y) := by
 unfold Or at *; rw [Nat.mul_pow, ← mml, h1, mml, Cc, h2]
theorem jS (m n : Nat) : (1 % m) ^ n % m = 1 % m := by rw [eu, Nat.one_pow]
theorem zF {m q x : Nat} (n : Nat) (h : Or m q x) : Or m q (x ^ n) := by
 unfold Or at *; rw [← Dq, Am, Dq, ← eu, h, jS]
theorem uS {m q x : Nat} : Or m q (x % m) ↔ Or m q x := by unfold Or; rw [eu]
theorem zH {m q x : Nat} (hm : 0 < m) (hu : Un m x) (h : Or m q x) : Or m q (dR x m) := by
 have e : (x * dR x m) ^ q % m = 1 % m := by rw [← eu, tV hm hu, jS]
 unfold Or at *; rw [Nat.mul_pow, ← mml, h, mml, Cc] at e; exact e
theorem xO {m q x : Nat} (hm : 0 < m) (hu : Un m x) (h : Or m q x) (e : Int) : Or m q (bT m x e) := by
 refine uS.2 (zF _ ?_); split; exact zH hm hu h; exact h
theorem oS {α : Type} {m q : Nat} (f : α → Nat) : ∀ l : List α, (∀ x ∈ l, Or m q (f x)) → Or m q (aB f l)
 | [], _ => by simp [aB, Or]
 | x :: l, h => zG (h x (by simp)) (oS f l fun y hy => h y (C3 _ hy))
theorem pc {g : Gp} {l : List Bs} {es : List Zs} (h : (bu g l es).2 = 0) : elG g (bu g l es).1 := by
 have h0 : dw g l es (decide (l.length = es.length)) = 0 := by
  unfold bu at h; split at h
  ·assumption
  ·exact h
 obtain ⟨hok, hokz, hg, hs, hel⟩ := rM h0
 obtain ⟨hm, hq, hm2, _, _⟩ := dr hg
 rw [bu, Ab h0]
 have hm0 : 0 < val g.1 := by omega
 have hmem : ∀ p ∈ l.zip es, elG g p.1 := fun p hp => hel _ (List.of_mem_zip hp).1
 have hU : Un (val g.1) (aB (fun p => bT (val g.1) (val p.1) (zv p.2)) (l.zip es)) := oa _ _ fun p hp => wD hm0 (i8 hg (hmem p hp)) _
 have hlt : aB (fun p => bT (val g.1) (val p.1) (zv p.2)) (l.zip es) % val g.1 < val g.1 := Ap _ hm0
 have hbig : aB (fun p => bT (val g.1) (val p.1) (zv p.2)) (l.zip es) % val g.1 < Big := Ee hlt (aO hm)
 refine ⟨ap hbig, fun h1 => ?_, by rw [af]; exact hlt, ?_⟩
 ·have h2 : val (ae (aB (fun p => bT (val g.1) (val p.1) (zv p.2)) (l.zip es) % val g.1)) = 0 := by dsimp only at h1; rw [h1]; rfl
  rw [af] at h2
  have := px.2 hU; rw [h2] at this; simp [Un] at this; omega
 ·rw [af]; split
  ·exact px.2 hU
  ·rename_i hq0
   have : Or (val g.1) (val g.2) (aB (fun p => bT (val g.1) (val p.1) (zv p.2)) (l.zip es)) := oS _ _ fun p hp => xO hm0 (i8 hg (hmem p hp)) (by
    have := (hmem p hp).2.2.2; rw [Aa hq0] at this; rw [Or, this, Ao (by omega)]) _
   have h2 := uS.2 this; rw [Or, Ao (show 1 < val g.1 by omega)] at h2; exact h2
theorem uP {m x : Nat} (e : Int) : bT m x e % m = bT m x e := by rw [bT, Nat.mod_mod]
abbrev trm (b : Bs) (v : Int) : Tm := (b, v, ofZ 1)
theorem nx : okZ (ofZ 1) := by decide +kernel
theorem nB {x y : Zs} (hx : okZ x) (hy : okZ y) (h : (bY x y).2 = 0) : (bY x y).1 = ofZ (zv x * zv y) ∧ (zv x * zv y).natAbs < Big := by
 obtain ⟨a, ha, rfl⟩ := kf.1 hx
 obtain ⟨b, hb, rfl⟩ := kf.1 hy
 rw [pv, pv]
 by_cases hab : (a * b).natAbs < Big
 ·rw [nC ha hb hab]; exact ⟨rfl, hab⟩
 ·rw [bY, Ab ⟨hx, hy⟩] at h
  simp only [cM] at h
  rw [nD ha hb, Aa (by rw [← Int.natAbs_mul]; exact hab)] at h; cases h
theorem sL {g : Gp} {a b : Bs} {x y : Zs} (hg : aW g = 0) (ha : elG g a) (hb : elG g b) (hx : okZ x) (hy : okZ y) :
  bu g [a, b] [x, y] = (ae (bT (val g.1) (val a) (zv x) * bT (val g.1) (val b) (zv y) % val g.1), 0) := by
 have h0 : dw g [a, b] [x, y] (decide ([a, b].length = [x, y].length)) = 0 := by
  have e1 : ∀ z ∈ [a, b], okN z := by intro z hz; simp at hz; rcases hz with rfl | rfl; exact ha.1; exact hb.1
  have e2 : ∀ z ∈ [x, y], okZ z := by intro z hz; simp at hz; rcases hz with rfl | rfl <;> assumption
  have e3 : ∀ z ∈ [a, b], elG g z := by intro z hz; simp at hz; rcases hz with rfl | rfl <;> assumption
  rw [dw, Aa (fun h => h e1), Aa (fun h => h e2), Aa (fun h => h hg), Aa (by simp), Aa (fun h => h e3)]
 rw [bu, Ab h0]; simp [aB]
theorem sO {g : Gp} {a : Bs} {x : Zs} (hg : aW g = 0) (ha : elG g a) (hx : okZ x) : bu g [a] [x] = (ae (bT (val g.1) (val a) (zv x)), 0) := by
 have h0 : dw g [a] [x] (decide ([a].length = [x].length)) = 0 := by
  rw [dw, Aa (fun h => h (by simpa using ha.1)), Aa (fun h => h (by simpa using hx)), Aa (fun h => h hg), Aa (by simp), Aa (fun h => h (by simpa using ha))]
 rw [bu, Ab h0]; simp [aB, uP]
def saN : SA := ⟨[], [], [], none, 0, none, 0, none, 0⟩
abbrev SME (s : SA) (n : Int) : Value := .tuple #[saV s, .int .i64 n]
section
variable {ok : Nat → Prop} {w0 w : World} {own : List Ent} {fs : List Fact}
theorem St.osk (h : St ok w0 own fs w) {b : Nat} {xs : List Value} {T : TypeId} [hf : HasE own b xs T] : (Fact.sl (some ⟨b, 0, none⟩) xs).holds ok w := by
 obtain ⟨k, hk⟩ := hf.h.get
 have := h.own_ _ (A6 hk)
 exact .inr ⟨b, 0, xs.toArray, T, (0, 0), rfl, h.okn b this.1, this.2, fun i hi => by simp⟩
theorem cJ {r : Sm × Int} {n : Int} (hr : r = (([], [], []), n)) (hS : St (fun b => ok b ∨ w0.heap.size ≤ b) w0 own fs w) :
  ∃ gx : SA, Ending.returned (tup [.agg #[.slice none 0 0, .slice none 0 0, .slice none 0 0], .int .i64 n]) = Ending.returned (SME gx r.2) ∧ (gx.core = r.1) ∧ Below w0.heap.size w0 w ∧ ∀ x ∈ (saF gx : List Fact), x.holds (fun b => ok b ∨ w0.heap.size ≤ b) w := by
 subst hr
 exact ⟨saN, rfl, rfl, hS.below, Fc bc (Fc bc (Fc bc Fn))⟩
end
end Go.Proofs.YtkdlonihbjhhoaaGreatDoor
