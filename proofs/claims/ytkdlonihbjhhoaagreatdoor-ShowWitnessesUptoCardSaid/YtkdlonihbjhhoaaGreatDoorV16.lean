/-
  Parts of the walk: Pgr Par Pac Isk Ikc Lin0 Gpl Hol.
-/
import Derived.Test.YtkdlonihbjhhoaaGreatDoorV15
namespace Go.Proofs.YtkdlonihbjhhoaaGreatDoor
open Go.RowKit
set_option linter.unusedSimpArgs false
set_option linter.unusedVariables false
set_option maxHeartbeats 600000
set_option maxRecDepth 20000
theorem jv {n : Nat} (h : isP n = true) : 2 ≤ n := Nat.not_lt.1 fun h2 => by rw [isP, if_pos h2] at h; cases h
theorem iH {x : Bs} (h : 0 < val x) : x ≠ [] := fun h0 => by rw [h0] at h; exact absurd h (Nat.lt_irrefl _)
theorem po {g : Gp} {x : Bs} {w : World} (hm8 : g.1.length ≤ 8) :
  Cw 115 #[gV g, .string (S x)] w (.bool (decide (iK g x))) := by
 refine En [] [(0, gV g), (1, .string (S x))] Tryz.func115 rfl Tryz.ntmps115 rfl (Ac rfl (Ac rfl (An _))) Fn ?_
 refine Cs ?_
 refine Kh rfl (Oy rfl rfl) ?_
 intro b2
 refine Ka rfl (Nt (Cs ?_))
 refine Kq rfl (lda rfl rfl .tc u26 rfl ?_) ?_
 ·kernel_rfl
 refine Km rfl ?_
 refine Ku rfl (Oc rfl rfl (Kv fun w hS => sQ (g := g) (x := x) (by assumption))) ?_
 refine Km rfl ?_
 refine Nb 8 rfl (fun hg8 => ?_) (fun hg8 => ?_)
 ·(try simp only [sB] at hg8)
  refine Km rfl (Yr rfl (Yp rfl (Ka rfl (Nt (Ce ?_)))))
  exact R1 rfl rfl (by simp [*, tup, iK, df])
 ·(try simp only [sB] at hg8)
  refine Kt rfl (Kt rfl (Yq rfl (Ka rfl (Nt (Ce ?_)))))
  exact R1 rfl rfl (by simp [*, tup, iK, df])
theorem vw {g : Gp} {w : World} (h1 : okN g.1) (h2 : okN g.2) (hp1 : 1 ≤ val g.1) (hp2 : 0 < val g.2) :
  Cw 170 #[gV g] w (.tuple #[.string (S (ae ((val g.1 - 1) / val g.2))), .bool (decide ((val g.1 - 1) % val g.2 = 0))]) := by
 have hb1 := bv h1
 have hq := iH hp2
 have hs1 : eQ g.1 [1] = (ae (val g.1 - 1), 0) := by rw [← df, eQ, if_pos ⟨h1, au (by omega)⟩, af, if_neg (by omega)]
 have hdv : fM (ae (val g.1 - 1)) g.2 = ((ae ((val g.1 - 1) / val g.2), ae ((val g.1 - 1) % val g.2)), 0) := by rw [e8 (au (by omega)) h2 hq, af]
 refine En [] [(0, gV g)] Tryz.func170 rfl Tryz.ntmps170 rfl (Ac rfl (An _)) Fn ?_
 refine Cs ?_
 refine Kh rfl (Oy rfl rfl) ?_
 intro b1
 refine Ka rfl (Ka rfl (Nt (Cs (Kq rfl (Fa (q := 0) rfl rfl u26 rfl rfl) (Kq rfl (Ld rfl rfl .tc u22) ?_)))))
 refine Ku rfl (Oc rfl rfl (Kv fun w hS => (by have := o0 (w := w) (a := g.1) (b := [1]); rw [hs1] at this; exact this))) ?_
 refine Km rfl (Ye rfl (Ye rfl (Ka rfl (Ka rfl (Nt (Cq (Cs (Km rfl (Yj rfl (Km rfl ?_))))))))))
 refine Nb 17 rfl (fun hg17 => ?_) (fun hg17 => ?_)
 ·(try simp only [sB] at hg17)
  refine Kt rfl (Kt rfl (Kt rfl (Yp rfl (Nt ?_))))
  refine Cd rfl (fun _ => ?_) (fun h => by cases h)
  refine Cs (Ka rfl (Ka rfl (Nt (Ce (Xb ?_)))))
  exact R2 rfl rfl rfl (by (exact absurd trivial hg17))
 ·(try simp only [sB] at hg17)
  refine Kq rfl (Fa (q := 1) rfl rfl u26 rfl rfl) (Kq rfl (Ld rfl rfl .tc u22) ?_)
  refine Ys rfl (Yq rfl (Nt ?_))
  refine Cd rfl (fun hc21 => ?_) (fun hc21 => ?_)
  ·(try simp only [sB] at hc21)
   have hbad : False := hq (by simpa using hc21)
   refine Cs (Ka rfl (Ka rfl (Nt (Ce (Xb ?_)))))
   exact R2 rfl rfl rfl (by (exact hbad.elim))
  ·(try simp only [sB] at hc21)
   refine Ck (Xa (Cs (Km rfl (Kq rfl (Fa (q := 1) rfl rfl u26 rfl rfl) (Kq rfl (Ld rfl rfl .tc u22) ?_)))))
   refine Ku rfl (Oc rfl rfl (Kv fun w hS => (by have := eI (w := w) (a := ae (val g.1 - 1)) (b := g.2); rw [hdv] at this; exact this))) ?_
   refine Km rfl (Ye rfl (Ye rfl (Ye rfl (Ka rfl (Ka rfl (Ka rfl (Nt (Cs (Km rfl (Km rfl (Ys rfl ?_)))))))))))
   refine Ns 32 rfl (v' := .bool (decide ((val g.1 - 1) % val g.2 = 0))) (congrArg Value.bool (by simp [bC])) ?_
   refine Ka rfl (Ka rfl (Nt (Ce ?_)))
   exact R2 rfl rfl rfl (by rfl)
theorem qM {g : Gp} {w : World} (hD : TabD w) :
  Cw 114 #[gV g] w (.int .i64 (aX g)) := by
 refine En [] [(0, gV g)] Tryz.func114 rfl Tryz.ntmps114 rfl (Ac rfl (An _)) Fn ?_
 refine Cs ?_
 refine Kh rfl (Oy rfl rfl) ?_
 intro b1
 refine Ka rfl (Nt (Cq (Cs ?_)))
 refine Kq rfl (lda rfl rfl .tc u26 rfl ?_) ?_
 ·kernel_rfl
 refine Ku rfl (Oc rfl rfl (Kv fun w hS => pp (g := g))) ?_
 refine Yt rfl (Nt ?_)
 refine Cd rfl (fun hc11 => ?_) (fun hc11 => ?_)
 ·(try simp only [sB] at hc11)
  have hr : aX g = 3 := by rw [aX, if_pos (by simpa using hc11)]
  refine Cs (Ka rfl (Nt (Ce (Xb ?_))))
  exact R1 rfl rfl (by rw [hr]; rfl)
 ·(try simp only [sB] at hc11)
  have hok : okN g.1 ∧ okN g.2 := by simpa using hc11
  refine Ck (Xa (Cq (Cs (Kq rfl (Fa (q := 0) rfl rfl u26 rfl rfl) (Kq rfl (Ld rfl rfl .tc u22) ?_)))))
  refine Yn rfl u22 (Yg rfl (Nt ?_))
  refine Cd rfl (fun hc15 => ?_) (fun hc15 => ?_)
  ·(try simp only [sB] at hc15)
   have hr : aX g = 5 := by rw [aX, if_neg (fun h => h hok), if_pos (by omega)]
   refine Cs (Ka rfl (Nt (Ce (Xb ?_))))
   exact R1 rfl rfl (by rw [hr]; rfl)
  ·(try simp only [sB] at hc15)
   have h8 : g.1.length ≤ 8 := by omega
   have hp1 := fC hok.1 h8
   refine Ck (Xa (Cq (Cs (Kq rfl (Fa (q := 0) rfl rfl u26 rfl rfl) (Kq rfl (Ld rfl rfl .tc u22) ?_)))))
   refine Ku rfl (Oc rfl rfl (Kv fun w hS => (by have := pm (w := w) (a := g.1) (bn hD hS); rw [hp1] at this; exact this))) ?_
   refine Km rfl (Ye rfl (Ye rfl (Ka rfl (Ka rfl (Nt (Cs (Km rfl (Yt rfl (Nt ?_)))))))))
   refine Cd rfl (fun hc23 => ?_) (fun hc23 => ?_)
   ·(try simp only [sB] at hc23)
    have hpf : isP (val g.1) = false := by simpa using hc23
    have hr : aX g = 12 := by rw [aX, if_neg (fun h => h hok), if_neg (by omega), if_pos hpf]
    refine Cs (Ka rfl (Nt (Ce (Xb ?_))))
    exact R1 rfl rfl (by rw [hr]; rfl)
   ·(try simp only [sB] at hc23)
    have hpt : isP (val g.1) = true := by simpa using hc23
    have hpn : ¬ isP (val g.1) = false := by rw [hpt]; decide
    refine Ck (Xa (Cq (Cs (Kq rfl (Fa (q := 1) rfl rfl u26 rfl rfl) (Kq rfl (Ld rfl rfl .tc u22) ?_)))))
    refine Yn rfl u22 (Yg rfl (Nt ?_))
    refine Cd rfl (fun hc27 => ?_) (fun hc27 => ?_)
    ·(try simp only [sB] at hc27)
     have hr : aX g = 13 := by rw [aX, if_neg (fun h => h hok), if_neg (by omega), if_neg hpn, if_pos (by omega)]
     refine Cs (Ka rfl (Nt (Ce (Xb ?_))))
     exact R1 rfl rfl (by rw [hr]; rfl)
    ·(try simp only [sB] at hc27)
     have h82 : g.2.length ≤ 8 := by omega
     have hp2 := fC hok.2 h82
     refine Ck (Xa (Cq (Cs (Kq rfl (Fa (q := 1) rfl rfl u26 rfl rfl) (Kq rfl (Ld rfl rfl .tc u22) ?_)))))
     refine Ku rfl (Oc rfl rfl (Kv fun w hS => (by have := pm (w := w) (a := g.2) (bn hD hS); rw [hp2] at this; exact this))) ?_
     refine Km rfl (Ye rfl (Ye rfl (Ka rfl (Ka rfl (Nt (Cs (Km rfl (Yt rfl (Nt ?_)))))))))
     refine Cd rfl (fun hc35 => ?_) (fun hc35 => ?_)
     ·(try simp only [sB] at hc35)
      have hqf : isP (val g.2) = false := by simpa using hc35
      have hr : aX g = 12 := by rw [aX, if_neg (fun h => h hok), if_neg (by omega), if_neg hpn, if_neg (by omega), if_pos hqf]
      refine Cs (Ka rfl (Nt (Ce (Xb ?_))))
      exact R1 rfl rfl (by rw [hr]; rfl)
     ·(try simp only [sB] at hc35)
      have hqt : isP (val g.2) = true := by simpa using hc35
      have hqn : ¬ isP (val g.2) = false := by rw [hqt]; decide
      have hg1 := jv hpt; have hg2 := jv hqt
      refine Ck (Xa (Cq (Cs ?_)))
      refine Kq rfl (lda rfl rfl .tc u26 rfl ?_) ?_
      ·kernel_rfl
      refine Ku rfl (Oc rfl rfl (Kv fun w hS => vw (g := g) (by exact hok.1) (by exact hok.2) (by omega) (by omega))) ?_
      refine Km rfl (Ye rfl (Ye rfl (Ka rfl (Ka rfl (Nt (Cs (Km rfl (Yt rfl (Nt ?_)))))))))
      refine Cd rfl (fun hc42 => ?_) (fun hc42 => ?_)
      ·(try simp only [sB] at hc42)
       have hr : aX g = 13 := by rw [aX, if_neg (fun h => h hok), if_neg (by omega), if_neg hpn, if_neg (by omega), if_neg hqn, if_pos (by simpa using hc42)]
       refine Cs (Ka rfl (Nt (Ce (Xb ?_))))
       exact R1 rfl rfl (by rw [hr]; rfl)
      ·(try simp only [sB] at hc42)
       have hr : aX g = 0 := by rw [aX, if_neg (fun h => h hok), if_neg (by omega), if_neg hpn, if_neg (by omega), if_neg hqn, if_neg (by simpa using hc42)]
       refine Ck (Xa (Cs (Ka rfl (Nt (Ce ?_)))))
       exact R1 rfl rfl (by rw [hr]; rfl)
theorem pj {g : Gp} {x : Bs} {w : World} (hm8 : g.1.length ≤ 8) :
  Cw 117 #[gV g, .string (S x)] w (.bool (decide (iK g x))) := by
 refine En [] [(0, gV g), (1, .string (S x))] Tryz.func117 rfl Tryz.ntmps117 rfl (Ac rfl (Ac rfl (An _))) Fn ?_
 refine Cs ?_
 refine Kh rfl (Oy rfl rfl) ?_
 intro b2
 refine Ka rfl (Nt (Cs ?_))
 refine Kq rfl (lda rfl rfl .tc u26 rfl ?_) ?_
 ·kernel_rfl
 refine Km rfl ?_
 refine Ku rfl (Oc rfl rfl (Kv fun w hS => uY (g := g) (x := x) (by assumption))) ?_
 refine Km rfl ?_
 refine Nb 8 rfl (fun hg8 => ?_) (fun hg8 => ?_)
 ·(try simp only [sB] at hg8)
  refine Km rfl (Yr rfl (Yp rfl (Ka rfl (Nt (Ce ?_)))))
  exact R1 rfl rfl (by simp [*, tup, iK, df])
 ·(try simp only [sB] at hg8)
  refine Kt rfl (Kt rfl (Yq rfl (Ka rfl (Nt (Ce ?_)))))
  exact R1 rfl rfl (by simp [*, tup, iK, df])
theorem u6 {g : Gp} {w : World} (h1 : okN g.1) (h2 : okN g.2) (hp1 : 1 ≤ val g.1) (hp2 : 0 < val g.2) :
  Cw 173 #[gV g] w (.bool (decide ((val g.1 - 1) % val g.2 = 0))) := by
 have hb1 := bv h1
 have hl1 := h1.1
 have hq := iH hp2
 have hn1 := iH (show 0 < val g.1 by omega)
 refine En [] [(0, gV g)] Tryz.func173 rfl Tryz.ntmps173 rfl (Ac rfl (An _)) Fn ?_
 refine Cs ?_
 refine Kh rfl (Oy rfl rfl) ?_
 intro b1
 refine Ka rfl (Nt (Cq (Cs (Kq rfl (Fa (q := 0) rfl rfl u26 rfl rfl) (Kq rfl (Ld rfl rfl .tc u22) ?_)))))
 refine Ys rfl (Nt ?_)
 refine Cd rfl (fun hc7 => ?_) (fun hc7 => ?_)
 ·(try simp only [sB] at hc7)
  have hbad : False := hn1 (by simpa using hc7)
  refine Cs (Ka rfl (Nt (Ce (Xb ?_))))
  exact R1 rfl rfl (by exact hbad.elim)
 ·(try simp only [sB] at hc7)
  refine Ck (Xa (Cq ?_))
  refine Cf [0, 1, 2, 3, 4, 5, 6, 7, 8, 9, 10] [] [0, 0, 1, 0, 0, 1, 0, 0, 0, 0, 0] (by kernel_rfl) (by kernel_rfl) rfl ?_
  refine Kj rfl (Fa (q := 0) rfl rfl u26 rfl rfl) (Kj rfl (Ld rfl rfl .tc u22) ?_)
  refine Jv rfl rfl rfl rfl rfl (fun ext => Oc rfl rfl (Kv fun w hS => mo (a := g.1) (b := [1]) (by exact hp1) (by omega) (by decide))) ?_
  refine WJ.set 11 rfl (v' := .string (S (ae (val g.1 - 1)))) (congrArg (fun l => Value.string (S l)) (by rfl)) ?_
  refine Kj rfl (Fa (q := 1) rfl rfl u26 rfl rfl) (Kj rfl (Ld rfl rfl .tc u22) ?_)
  refine Jv rfl rfl rfl rfl rfl (fun ext => Oc rfl rfl (Kv fun w hS => lW (a := ae (val g.1 - 1)) (b := g.2) (by exact au (by omega)) (by exact h2) (by exact hq))) ?_
  refine Kj rfl (Rm rfl rfl) (Kj rfl (Re rfl rfl rfl) (Kj rfl (Re rfl rfl rfl) (Kj rfl (Ra rfl rfl) (Kj rfl (Ra rfl rfl) ?_))))
  refine WJ.nil ?_
  refine Nt (Cs (Km rfl (Ys rfl ?_)))
  refine Ns 18 rfl (v' := .bool (decide ((val g.1 - 1) % val g.2 = 0))) (congrArg Value.bool (by simp [bC, af])) ?_
  refine Ka rfl (Nt (Ce ?_))
  exact R1 rfl rfl (by rfl)
theorem u7 {g : Gp} {w : World} :
  Cw 116 #[gV g] w (.int .i64 (aX g)) := by
 refine En [] [(0, gV g)] Tryz.func116 rfl Tryz.ntmps116 rfl (Ac rfl (An _)) Fn ?_
 refine Cs ?_
 refine Kh rfl (Oy rfl rfl) ?_
 intro b1
 refine Ka rfl (Nt (Cq (Cs ?_)))
 refine Kq rfl (lda rfl rfl .tc u26 rfl ?_) ?_
 ·kernel_rfl
 refine Ku rfl (Oc rfl rfl (Kv fun w hS => m9 (g := g))) ?_
 refine Yt rfl (Nt ?_)
 refine Cd rfl (fun hc9 => ?_) (fun hc9 => ?_)
 ·(try simp only [sB] at hc9)
  have hr : aX g = 3 := by rw [aX, if_pos (by simpa using hc9)]
  refine Cs (Ka rfl (Nt (Ce (Xb ?_))))
  exact R1 rfl rfl (by rw [hr]; rfl)
 ·(try simp only [sB] at hc9)
  have hok : okN g.1 ∧ okN g.2 := by simpa using hc9
  refine Ck (Xa (Cq (Cs (Kq rfl (Fa (q := 0) rfl rfl u26 rfl rfl) (Kq rfl (Ld rfl rfl .tc u22) ?_)))))
  refine Yn rfl u22 (Yg rfl (Nt ?_))
  refine Cd rfl (fun hc13 => ?_) (fun hc13 => ?_)
  ·(try simp only [sB] at hc13)
   have hr : aX g = 5 := by rw [aX, if_neg (fun h => h hok), if_pos (by omega)]
   refine Cs (Ka rfl (Nt (Ce (Xb ?_))))
   exact R1 rfl rfl (by rw [hr]; rfl)
  ·(try simp only [sB] at hc13)
   have h8 : g.1.length ≤ 8 := by omega
   have hp1 := fC hok.1 h8
   refine Ck (Xa (Cq (Cs (Kq rfl (Fa (q := 0) rfl rfl u26 rfl rfl) (Kq rfl (Ld rfl rfl .tc u22) ?_)))))
   refine Ku rfl (Oc rfl rfl (Kv fun w hS => (by have := m7 (w := w) (a := g.1); rw [hp1] at this; exact this))) ?_
   refine Km rfl (Ye rfl (Ye rfl (Ka rfl (Ka rfl (Nt (Cs (Km rfl (Yt rfl (Nt ?_)))))))))
   refine Cd rfl (fun hc21 => ?_) (fun hc21 => ?_)
   ·(try simp only [sB] at hc21)
    have hpf : isP (val g.1) = false := by simpa using hc21
    have hr : aX g = 12 := by rw [aX, if_neg (fun h => h hok), if_neg (by omega), if_pos hpf]
    refine Cs (Ka rfl (Nt (Ce (Xb ?_))))
    exact R1 rfl rfl (by rw [hr]; rfl)
   ·(try simp only [sB] at hc21)
    have hpt : isP (val g.1) = true := by simpa using hc21
    have hpn : ¬ isP (val g.1) = false := by rw [hpt]; decide
    refine Ck (Xa (Cq (Cs (Kq rfl (Fa (q := 1) rfl rfl u26 rfl rfl) (Kq rfl (Ld rfl rfl .tc u22) ?_)))))
    refine Yn rfl u22 (Yg rfl (Nt ?_))
    refine Cd rfl (fun hc25 => ?_) (fun hc25 => ?_)
    ·(try simp only [sB] at hc25)
     have hr : aX g = 13 := by rw [aX, if_neg (fun h => h hok), if_neg (by omega), if_neg hpn, if_pos (by omega)]
     refine Cs (Ka rfl (Nt (Ce (Xb ?_))))
     exact R1 rfl rfl (by rw [hr]; rfl)
    ·(try simp only [sB] at hc25)
     have h82 : g.2.length ≤ 8 := by omega
     have hp2 := fC hok.2 h82
     refine Ck (Xa (Cq (Cs (Kq rfl (Fa (q := 1) rfl rfl u26 rfl rfl) (Kq rfl (Ld rfl rfl .tc u22) ?_)))))
     refine Ku rfl (Oc rfl rfl (Kv fun w hS => (by have := m7 (w := w) (a := g.2); rw [hp2] at this; exact this))) ?_
     refine Km rfl (Ye rfl (Ye rfl (Ka rfl (Ka rfl (Nt (Cs (Km rfl (Yt rfl (Nt ?_)))))))))
     refine Cd rfl (fun hc33 => ?_) (fun hc33 => ?_)
     ·(try simp only [sB] at hc33)
      have hqf : isP (val g.2) = false := by simpa using hc33
      have hr : aX g = 12 := by rw [aX, if_neg (fun h => h hok), if_neg (by omega), if_neg hpn, if_neg (by omega), if_pos hqf]
      refine Cs (Ka rfl (Nt (Ce (Xb ?_))))
      exact R1 rfl rfl (by rw [hr]; rfl)
     ·(try simp only [sB] at hc33)
      have hqt : isP (val g.2) = true := by simpa using hc33
      have hqn : ¬ isP (val g.2) = false := by rw [hqt]; decide
      have hg1 := jv hpt; have hg2 := jv hqt
      refine Ck (Xa (Cq (Cs ?_)))
      refine Kq rfl (lda rfl rfl .tc u26 rfl ?_) ?_
      ·kernel_rfl
      refine Ku rfl (Oc rfl rfl (Kv fun w hS => u6 (g := g) (by exact hok.1) (by exact hok.2) (by omega) (by omega))) ?_
      refine Yt rfl (Nt ?_)
      refine Cd rfl (fun hc36 => ?_) (fun hc36 => ?_)
      ·(try simp only [sB] at hc36)
       have hr : aX g = 13 := by rw [aX, if_neg (fun h => h hok), if_neg (by omega), if_neg hpn, if_neg (by omega), if_neg hqn, if_pos (by simpa using hc36)]
       refine Cs (Ka rfl (Nt (Ce (Xb ?_))))
       exact R1 rfl rfl (by rw [hr]; rfl)
      ·(try simp only [sB] at hc36)
       have hr : aX g = 0 := by rw [aX, if_neg (fun h => h hok), if_neg (by omega), if_neg hpn, if_neg (by omega), if_neg hqn, if_neg (by simpa using hc36)]
       refine Ck (Xa (Cs (Ka rfl (Nt (Ce ?_)))))
       exact R1 rfl rfl (by rw [hr]; rfl)
theorem xq {a b : Bs} {w : World} :
  Cw 212 #[.string (S a), .string (S b)] w (NE (jj a b)) := by
 refine En [] [(0, .string (S a)), (1, .string (S b))] Tryz.func212 rfl Tryz.ntmps212 rfl (Ac rfl (Ac rfl (An _))) Fn ?_
 refine Cs (Ka rfl (Ka rfl (Nt (Cq (Cs (Km rfl ?_))))))
 refine Ku rfl (Oc rfl rfl (Kv fun w hS => aA (a := a))) ?_
 refine Yt rfl (Km rfl ?_)
 refine Nb 9 rfl (fun hg9 => ?_) (fun hg9 => ?_)
 ·(try simp only [sB] at hg9)
  refine Kt rfl (Kt rfl (Kt rfl (Yp rfl (Nt ?_))))
  refine Cd rfl (fun _ => ?_) (fun h => by cases h)
  refine Cs (Ka rfl (Ka rfl (Nt (Ce (Xb ?_)))))
  exact R2 rfl rfl rfl (by rw [jj, if_neg (by simp_all)]; rfl)
 ·(try simp only [sB] at hg9)
  refine Km rfl ?_
  refine Ku rfl (Oc rfl rfl (Kv fun w hS => aA (a := b))) ?_
  refine Yt rfl (Yq rfl (Nt ?_))
  refine Cd rfl (fun hc13 => ?_) (fun hc13 => ?_)
  ·(try simp only [sB] at hc13)
   refine Cs (Ka rfl (Ka rfl (Nt (Ce (Xb ?_)))))
   exact R2 rfl rfl rfl (by rw [jj, if_neg (by simp_all)]; rfl)
  ·(try simp only [sB] at hc13)
   have hab : okN a ∧ okN b := by simp_all
   refine Ck (Xa (Cs (Km rfl (Km rfl ?_))))
   refine Ku rfl (Oc rfl rfl (Kv fun w hS => qB (a := a) (b := b) (by exact hab.1) (by exact hab.2))) ?_
   refine Ka rfl (Ka rfl (Nt (Ce ?_)))
   exact R2 rfl rfl rfl (by rw [jj, if_pos hab]; rfl)
theorem qC {g : Gp} {w : World} :
  Cw 211 #[gV g] w (.bool (decide (dr g))) := by
 have hB8 : 8 < Big := Nat.lt_of_lt_of_le (by decide) gz
 refine En [] [(0, gV g)] Tryz.func211 rfl Tryz.ntmps211 rfl (Ac rfl (An _)) Fn ?_
 refine Cs ?_
 refine Kh rfl (Oy rfl rfl) ?_
 intro b1
 refine Ka rfl (Nt (Cq ?_))
 refine Cf [0, 1, 2, 3, 4, 5, 6, 7, 8, 9, 10, 11, 12, 13, 16, 14, 15, 17, 18, 19, 20] [] [0, 0, 1, 0, 0, 0, 0, 0, 0, 0, 0, 1, 0, 0, 0, 0, 1, 1, 0, 0, 0] (by kernel_rfl) (by kernel_rfl) rfl ?_
 refine Kj rfl (Fa (q := 0) rfl rfl u26 rfl rfl) (Kj rfl (Ld rfl rfl .tc u22) ?_)
 refine Jv rfl rfl rfl rfl rfl (fun ext => Oc rfl rfl (Kv fun w hS => aA (a := g.1))) ?_
 refine Kj rfl (Rm rfl rfl) ?_
 refine WJ.bool 6 rfl (fun hg6 => ?_) (fun hg6 => ?_)
 ·(try simp only [sB] at hg6)
  refine Kj rfl (Fa (q := 1) rfl rfl u26 rfl rfl) (Kj rfl (Ld rfl rfl .tc u22) ?_)
  refine Kj rfl (lX rfl rfl rfl) (Kj rfl (Rp rfl rfl rfl) (Kj rfl (Rm rfl rfl) ?_))
  refine WJ.bool 11 rfl (fun hg11 => ?_) (fun hg11 => ?_)
  ·(try simp only [sB] at hg11)
   refine Kj rfl (Fa (q := 0) rfl rfl u26 rfl rfl) (Kj rfl (Ld rfl rfl .tc u22) ?_)
   refine Jv rfl rfl rfl rfl rfl (fun ext => Oc rfl rfl (Kv fun w hS => oh (a := g.1) (i := 0) (by omega))) ?_
   refine WJ.set 14 rfl (v' := .bool (decide (val g.1 % 2 = 1))) (congrArg Value.bool (by exact jt hg6)) ?_
   refine Kj rfl (Rp rfl rfl rfl) (Kj rfl (Rm rfl rfl) ?_)
   refine WJ.bool 16 rfl (fun hg16 => ?_) (fun hg16 => ?_)
   ·(try simp only [sB] at hg16)
    refine Jv rfl rfl rfl rfl rfl (fun ext => Oc rfl rfl (Kv fun w hS => fw (n := 8) (by omega))) ?_
    refine Kj rfl (Fa (q := 0) rfl rfl u26 rfl rfl) (Kj rfl (Ld rfl rfl .tc u22) ?_)
    refine Jv rfl rfl rfl rfl rfl (fun ext => Oc rfl rfl (Kv fun w hS => l7 (a := g.1) (b := ae 8))) ?_
    refine Kj rfl (j3 rfl rfl rfl) ?_
    refine WJ.set 21 rfl (v' := .bool (decide (8 < val g.1))) (congrArg Value.bool (by rw [az hg6 (au hB8), af]; exact decide_eq_decide.2 (by have := gj (val g.1) 8; omega))) ?_
    refine Kj rfl (Rp rfl rfl rfl) (Kj rfl (Ra rfl rfl) ?_)
    refine WJ.nil ?_
    refine Nt (Ce ?_)
    exact R1 rfl rfl (by (simp [*, tup, dr]; done))
   ·(try simp only [sB] at hg16)
    refine Js rfl rfl rfl rfl (Js rfl rfl rfl rfl (Js rfl rfl rfl rfl (Js rfl rfl rfl rfl (Js rfl rfl rfl rfl (Kj rfl (Rq rfl rfl rfl) (Kj rfl (Ra rfl rfl) ?_))))))
    refine WJ.nil ?_
    refine Nt (Ce ?_)
    exact R1 rfl rfl (by (simp [*, tup, dr]; done))
  ·(try simp only [sB] at hg11)
   refine Js rfl rfl rfl rfl (Js rfl rfl rfl rfl (Js rfl rfl rfl rfl (Kj rfl (Rq rfl rfl rfl) (Kj rfl (Rm rfl rfl) (Js rfl rfl rfl rfl (Js rfl rfl rfl rfl (Js rfl rfl rfl rfl (Js rfl rfl rfl rfl (Js rfl rfl rfl rfl (Kj rfl (Rq rfl rfl rfl) (Kj rfl (Ra rfl rfl) ?_)))))))))))
   refine WJ.nil ?_
   refine Nt (Ce ?_)
   exact R1 rfl rfl (by (simp [*, tup, dr]; done))
 ·(try simp only [sB] at hg6)
  refine Js rfl rfl rfl rfl (Js rfl rfl rfl rfl (Js rfl rfl rfl rfl (Kj rfl (Rq rfl rfl rfl) (Kj rfl (Rm rfl rfl) (Js rfl rfl rfl rfl (Js rfl rfl rfl rfl (Js rfl rfl rfl rfl (Kj rfl (Rq rfl rfl rfl) (Kj rfl (Rm rfl rfl) (Js rfl rfl rfl rfl (Js rfl rfl rfl rfl (Js rfl rfl rfl rfl (Js rfl rfl rfl rfl (Js rfl rfl rfl rfl (Kj rfl (Rq rfl rfl rfl) (Kj rfl (Ra rfl rfl) ?_))))))))))))))))
  refine WJ.nil ?_
  refine Nt (Ce ?_)
  exact R1 rfl rfl (by (simp [*, tup, dr]; done))
theorem sJ {g : Gp} {x : Bs} {w : World} :
  Cw 176 #[gV g, .string (S x)] w (.bool (decide (jh g x))) := by
 refine En [] [(0, gV g), (1, .string (S x))] Tryz.func176 rfl Tryz.ntmps176 rfl (Ac rfl (Ac rfl (An _))) Fn ?_
 refine Cs ?_
 refine Kh rfl (Oy rfl rfl) ?_
 intro b2
 refine Ka rfl (Nt (Cq ?_))
 refine WC.joinP (σ := Unit) [(1, _), (2, _)] (fun gq => [(25, .bool (decide (¬ (dr g ∧ okN x ∧ x ≠ [] ∧ val x < val g.1))))]) (fun gq => True) (S2 rfl rfl) ?_ ?_
 ·skip
  refine Cg ?_
  refine Kq rfl (lda rfl rfl .tc u26 rfl ?_) ?_
  ·kernel_rfl
  refine Ku rfl (Oc rfl rfl (Kv fun w hS => qC (g := g))) ?_
  refine Yt rfl (Km rfl ?_)
  refine Nb 10 rfl (fun hg10 => ?_) (fun hg10 => ?_)
  ·(try simp only [sB] at hg10)
   refine Kt rfl (Kt rfl (Kt rfl (Yp rfl (Km rfl (Kt rfl (Kt rfl (Yp rfl (Km rfl (Kt rfl (Kt rfl (Kt rfl (Kt rfl (Kt rfl (Yp rfl (Nn ?_)))))))))))))))
   refine WX.joinP (()) (S2 rfl rfl) (by refine (Sc ?_ (S0 _)) <;> ((refine ai rfl ?_; (try dsimp only); (simp [*]; done)))) ?_ (by (exact fun _ h => h))
   (try dsimp only)
   done
  ·(try simp only [sB] at hg10)
   refine Km rfl ?_
   refine Ku rfl (Oc rfl rfl (Kv fun w hS => aA (a := x))) ?_
   refine Yt rfl (Yq rfl (Km rfl ?_))
   refine Nb 15 rfl (fun hg15 => ?_) (fun hg15 => ?_)
   ·(try simp only [sB] at hg15)
    refine Kt rfl (Kt rfl (Yp rfl (Km rfl (Kt rfl (Kt rfl (Kt rfl (Kt rfl (Kt rfl (Yp rfl (Nn ?_))))))))))
    refine WX.joinP (()) (S2 rfl rfl) (by refine (Sc ?_ (S0 _)) <;> ((refine ai rfl ?_; (try dsimp only); (simp [*]; done)))) ?_ (by (exact fun _ h => h))
    (try dsimp only)
    done
   ·(try simp only [sB] at hg15)
    refine Km rfl (Ys rfl (Yq rfl (Km rfl ?_)))
    refine Nb 19 rfl (fun hg19 => ?_) (fun hg19 => ?_)
    ·(try simp only [sB] at hg19)
     refine Kt rfl (Kt rfl (Kt rfl (Kt rfl (Kt rfl (Yp rfl (Nn ?_))))))
     refine WX.joinP (()) (S2 rfl rfl) (by refine (Sc ?_ (S0 _)) <;> ((refine ai rfl ?_; (try dsimp only); (simp [*]; done)))) ?_ (by (exact fun _ h => h))
     (try dsimp only)
     done
    ·(try simp only [sB] at hg19)
     refine Km rfl (Kq rfl (Fa (q := 0) rfl rfl u26 rfl rfl) (Kq rfl (Ld rfl rfl .tc u22) ?_))
     refine Ku rfl (Oc rfl rfl (Kv fun w hS => l7 (a := x) (b := g.1))) ?_
     refine Yh rfl ?_
     refine Ns 24 rfl (v' := .bool (decide (val g.1 ≤ val x))) (congrArg Value.bool (by rw [az hg15 hg10.1]; exact decide_eq_decide.2 (fb _ _))) ?_
     refine Yq rfl (Nn ?_)
     refine WX.joinP (()) (S2 rfl rfl) (by refine (Sc ?_ (S0 _)) <;> ((refine ai rfl ?_; (try dsimp only); (simp [*]; done)))) ?_ (by (exact fun _ h => h))
     (try dsimp only)
     done
 ·rintro _ hmeet; (try dsimp only at hmeet ⊢)
  refine Cd rfl (fun hc25 => ?_) (fun hc25 => ?_)
  ·(try simp only [sB] at hc25)
   have hr : ¬ jh g x := fun h => hc25 ⟨h.1, h.2.1, h.2.2.1, h.2.2.2.1⟩
   refine Cs (Ka rfl (Nt (Ce (Xb ?_))))
   exact R1 rfl rfl (by (simp [*, tup]; done))
  ·(try simp only [sB] at hc25)
   have hok : dr g ∧ okN x ∧ x ≠ [] ∧ val x < val g.1 := Decidable.not_not.1 hc25
   have hgc : jj x g.1 = (ae (Nat.gcd (val x) (val g.1)), 0) := by rw [jj, if_pos ⟨hok.2.1, hok.1.1⟩]
   have hr : jh g x ↔ Nat.gcd (val x) (val g.1) = 1 := ⟨fun h => h.2.2.2.2, fun h => ⟨hok.1, hok.2.1, hok.2.2.1, hok.2.2.2, h⟩⟩
   refine Ck (Xa (Cs (Km rfl (Kq rfl (Fa (q := 0) rfl rfl u26 rfl rfl) (Kq rfl (Ld rfl rfl .tc u22) ?_)))))
   refine Ku rfl (Oc rfl rfl (Kv fun w hS => (by have := xq (w := w) (a := x) (b := g.1); rw [hgc] at this; exact this))) ?_
   refine Km rfl (Ye rfl (Ye rfl (Ka rfl (Ka rfl (Nt (Cs (Km rfl ?_)))))))
   refine Ku rfl (Oc rfl rfl (Kv fun w hS => fw (by (dsimp only; omega)))) ?_
   refine Ys rfl ?_
   refine Ns 35 rfl (v' := .bool (decide (jh g x))) (congrArg Value.bool (by simp [hr, gl])) ?_
   refine Ka rfl (Nt (Ce ?_))
   exact R1 rfl rfl (by rfl)
abbrev pk4 (k : PK) : List Bs := [k.1.1, k.1.2, k.2.1, k.2.2]
def kc (p : PR) : List Bs := fG p ++ (pk4 p.mn ++ pk4 p.wh)
def gt (p : PR) : List Bs := [p.ch, p.sl] ++ (pk4 p.mn ++ pk4 p.wh) ++ [p.sec, p.attr, p.han, p.lo, p.sz, p.bl, p.msk]
theorem so {p : PR} {w : World} :
  Calls Tryz.prog 33 #[prV p] w fun e w' => ∃ g : Rs, e = .returned (g.val 17) ∧ g.cap = 17 + g.sp.length ∧ St (fun _ => True) w [g.ent (ao (gt p)) 22] [] w' := by
 refine En [] [(0, prV p)] Tryz.func33 rfl Tryz.ntmps33 rfl (Ac rfl (An _)) Fn ?_
 refine Cs ?_
 refine Kh rfl (Oy rfl rfl) ?_
 intro b1
 refine Ka rfl (Nt (Cs (Kq rfl (Fa (q := 0) rfl rfl u30 rfl rfl) (Kq rfl (Fa (q := 0) rfl rfl u24 rfl rfl) (Kq rfl (Ld rfl rfl .tc u22) ?_)))))
 refine Kq rfl (Fa (q := 0) rfl rfl u30 rfl rfl) (Kq rfl (Fa (q := 1) rfl rfl u24 rfl rfl) (Kq rfl (Ld rfl rfl .tc u22) ?_))
 refine Kq rfl (Fa (q := 2) rfl rfl u30 rfl rfl) (Kq rfl (Fa (q := 2) rfl rfl u28 rfl rfl) (Kq rfl (Fa (q := 2) rfl rfl u26 rfl rfl) (Kq rfl (Ld rfl rfl .tc u22) ?_)))
 refine Kq rfl (Fa (q := 2) rfl rfl u30 rfl rfl) (Kq rfl (Fa (q := 2) rfl rfl u28 rfl rfl) (Kq rfl (Fa (q := 3) rfl rfl u26 rfl rfl) (Kq rfl (Ld rfl rfl .tc u22) ?_)))
 refine Kq rfl (Fa (q := 2) rfl rfl u30 rfl rfl) (Kq rfl (Fa (q := 4) rfl rfl u28 rfl rfl) (Kq rfl (Ld rfl rfl .tc u22) ?_))
 refine Kq rfl (Fa (q := 2) rfl rfl u30 rfl rfl) (Kq rfl (Fa (q := 5) rfl rfl u28 rfl rfl) (Kq rfl (Ld rfl rfl .tc u22) ?_))
 refine Kq rfl (Fa (q := 6) rfl rfl u30 rfl rfl) (Kq rfl (Fa (q := 6) rfl rfl u28 rfl rfl) (Kq rfl (Fa (q := 6) rfl rfl u26 rfl rfl) (Kq rfl (Ld rfl rfl .tc u22) ?_)))
 refine Kq rfl (Fa (q := 6) rfl rfl u30 rfl rfl) (Kq rfl (Fa (q := 6) rfl rfl u28 rfl rfl) (Kq rfl (Fa (q := 7) rfl rfl u26 rfl rfl) (Kq rfl (Ld rfl rfl .tc u22) ?_)))
 refine Kq rfl (Fa (q := 6) rfl rfl u30 rfl rfl) (Kq rfl (Fa (q := 8) rfl rfl u28 rfl rfl) (Kq rfl (Ld rfl rfl .tc u22) ?_))
 refine Kq rfl (Fa (q := 6) rfl rfl u30 rfl rfl) (Kq rfl (Fa (q := 9) rfl rfl u28 rfl rfl) (Kq rfl (Ld rfl rfl .tc u22) ?_))
 refine Kq rfl (Fa (q := 10) rfl rfl u30 rfl rfl) (Kq rfl (Ld rfl rfl .tc u22) ?_)
 refine Kq rfl (Fa (q := 11) rfl rfl u30 rfl rfl) (Kq rfl (Ld rfl rfl .tc u22) ?_)
 refine Kq rfl (Fa (q := 12) rfl rfl u30 rfl rfl) (Kq rfl (Ld rfl rfl .tc u22) ?_)
 refine Kq rfl (Fa (q := 13) rfl rfl u30 rfl rfl) (Kq rfl (Ld rfl rfl .tc u22) ?_)
 refine Kq rfl (Fa (q := 14) rfl rfl u30 rfl rfl) (Kq rfl (Ld rfl rfl .tc u22) ?_)
 refine Kq rfl (Fa (q := 15) rfl rfl u30 rfl rfl) (Kq rfl (Ld rfl rfl .tc u22) ?_)
 refine Kq rfl (Fa (q := 16) rfl rfl u30 rfl rfl) (Kq rfl (Ld rfl rfl .tc u22) ?_)
 refine Kh rfl (aR rfl rfl u31 (by kernel_rfl : _ = some (some (.string (S [])), 1, 16)) rfl (by simp only [List.map]; rfl) rfl rfl ?_ (by decide)) ?_
 ·simp [Value.cells]
 intro b51
 refine Ka rfl (Nt (Ce ?_))
 exact Rn rfl (.tmp rfl .nil) fun w' hS => ⟨⟨some b51, 17, []⟩, rfl, rfl, hS.sub (List.Sublist.cons_cons _ (List.nil_sublist _)) (fun _ h => h)⟩
theorem bR {a b : Bs} {w : World} :
  Cw 119 #[.string (S a), .string (S b)] w (.bool (decide (ej a b < 0))) := by
 refine En [] [(0, .string (S a)), (1, .string (S b))] Tryz.func119 rfl Tryz.ntmps119 rfl (Ac rfl (Ac rfl (An _))) Fn ?_
 refine Cs (Ka rfl (Nt (Cs (Km rfl (Km rfl ?_)))))
 refine Ku rfl (Oc rfl rfl (Kv fun w hS => l7 (a := a) (b := b))) ?_
 refine Yl rfl (Ka rfl (Nt (Ce ?_)))
 exact R1 rfl rfl (by rfl)
theorem pb {g : Gp} {x : Bs} {w : World} :
  Cw 120 #[gV g, .string (S x)] w (.bool (decide (dz g x))) := by
 refine En [] [(0, gV g), (1, .string (S x))] Tryz.func120 rfl Tryz.ntmps120 rfl (Ac rfl (Ac rfl (An _))) Fn ?_
 refine Cs ?_
 refine Kh rfl (Oy rfl rfl) ?_
 intro b2
 refine Ka rfl (Nt (Cs ?_))
 refine Kq rfl (lda rfl rfl .tc u26 rfl ?_) ?_
 ·kernel_rfl
 refine Km rfl ?_
 refine Ku rfl (Oc rfl rfl (Kv fun w hS => sJ (g := g) (x := x))) ?_
 refine Km rfl ?_
 refine Nb 8 rfl (fun hg8 => ?_) (fun hg8 => ?_)
 ·(try simp only [sB] at hg8)
  refine Km rfl ?_
  refine Ku rfl (Oc rfl rfl (Kv fun w hS => fw (n := 1) (by omega))) ?_
  refine Yr rfl (Yp rfl (Ka rfl (Nt (Ce ?_))))
  exact R1 rfl rfl (by simp [*, tup, dz])
 ·(try simp only [sB] at hg8)
  refine Kt rfl (Kt rfl (Kt rfl (Yq rfl (Ka rfl (Nt (Ce ?_))))))
  exact R1 rfl rfl (by simp [*, tup, dz])
abbrev pkc (k : PK) : List Value := [.string (S k.1.1), .string (S k.1.2), .string (S k.2.1), .string (S k.2.2)]
theorem oY {α : Type} [Inhabited α] {l : List α} {i : Nat} (h : i < l.length) : l.take (i + 1) = l.take i ++ [l.getD i default] := by
 rw [List.take_add_one, List.getElem?_eq_getElem h, List.getD_eq_getElem?_getD, List.getElem?_eq_getElem h]; rfl
theorem xH {p : PR} {w : World} :
  Calls Tryz.prog 111 #[prV p] w fun e w' => ∃ g : Rs, e = .returned (g.val 17) ∧ g.cap = 17 + g.sp.length ∧ St (fun _ => True) w [g.ent (ao (kc p)) 22] [] w' := by
 refine En [] [(0, prV p)] Tryz.func111 rfl Tryz.ntmps111 rfl (Ac rfl (An _)) Fn ?_
 refine Cs ?_
 refine Kh rfl (Oy rfl rfl) ?_
 intro b1
 refine Ka rfl (Nt (Cs (Kq rfl (Fa (q := 0) rfl rfl u30 rfl rfl) (Kq rfl (Fa (q := 0) rfl rfl u24 rfl rfl) (Kq rfl (Ld rfl rfl .tc u22) ?_)))))
 refine Kq rfl (Fa (q := 0) rfl rfl u30 rfl rfl) (Kq rfl (Fa (q := 1) rfl rfl u24 rfl rfl) (Kq rfl (Ld rfl rfl .tc u22) ?_))
 refine Kq rfl (Fa (q := 10) rfl rfl u30 rfl rfl) (Kq rfl (Ld rfl rfl .tc u22) ?_)
 refine Kq rfl (Fa (q := 11) rfl rfl u30 rfl rfl) (Kq rfl (Ld rfl rfl .tc u22) ?_)
 refine Kq rfl (Fa (q := 12) rfl rfl u30 rfl rfl) (Kq rfl (Ld rfl rfl .tc u22) ?_)
 refine Kq rfl (Fa (q := 13) rfl rfl u30 rfl rfl) (Kq rfl (Ld rfl rfl .tc u22) ?_)
 refine Kq rfl (Fa (q := 14) rfl rfl u30 rfl rfl) (Kq rfl (Ld rfl rfl .tc u22) ?_)
 refine Kq rfl (Fa (q := 15) rfl rfl u30 rfl rfl) (Kq rfl (Ld rfl rfl .tc u22) ?_)
 refine Kq rfl (Fa (q := 16) rfl rfl u30 rfl rfl) (Kq rfl (Ld rfl rfl .tc u22) ?_)
 refine Kh rfl (aR rfl rfl u31 (by kernel_rfl : _ = some (some (.string (S [])), 1, 16)) rfl (by simp only [List.map]; rfl) rfl rfl ?_ (by decide)) ?_
 ·simp [Value.cells]
 intro b26
 refine Ka rfl (Nt (Cq (Cs (Kq rfl (Fa (q := 2) rfl rfl u30 rfl rfl) ?_))))
 refine Kq rfl (ldp rfl rfl .tc u28 rfl (by kernel_rfl : _ = some 4) (by rfl) (by rfl)) ?_
 refine Kq rfl (Fa (q := 6) rfl rfl u30 rfl rfl) ?_
 refine Kq rfl (ldp rfl rfl .tc u28 rfl (by kernel_rfl : _ = some 4) (by rfl) (by rfl)) ?_
 refine Kh rfl (fE rfl rfl w5 (by kernel_rfl : _ = some (some (.agg #[.string (S []), .string (S []), .string (S []), .string (S [])]), 4, 64)) (by kernel_rfl) (by decide) rfl rfl (by (simp [Value.cells]; done)) (by (simp only [List.map, Value.cells, List.flatMap_cons, List.flatMap_nil, List.append_nil, List.toList_toArray]; rfl)) (by decide)) ?_
 intro b31
 refine WL.st (fun w h => h.freeze (off := 0) (xs := ([p.mn, p.wh] : List PK).flatMap pkc) (fun i hi => by rw [Nat.zero_add]; rfl)) ?_
 refine Yo rfl w5 (Km rfl (Nt (Cb ?_)))
 refine Lo (σ := Nat × (Option Nat) × Nat × (List Value)) [(31, _), (32, _)] (fun gq => [(3, .slice (gq.2.1.map fun b => ⟨b, 0, none⟩) (9 + 4 * gq.1) gq.2.2.1), (33, .int .i64 (gq.1 : Int))]) (fun gq => gq.1 ≤ 2 ∧ gq.2.2.1 = 9 + 4 * gq.1 + gq.2.2.2.length) (fun gq => 2 - gq.1) (fun gq => [⟨gq.2.1, ao (fG p ++ (([p.mn, p.wh] : List PK).take gq.1).flatMap pk4) ++ gq.2.2.2, 22⟩]) (fun gq => [Fact.sl (some ⟨b31, 0, none⟩) (([p.mn, p.wh] : List PK).flatMap pkc)]) (0, some b26, 9, []) (S2 rfl rfl) (S2 rfl rfl) (by (try dsimp only); exact ⟨Nat.zero_le _, rfl⟩) (by exact fun w h => h.sub (List.Sublist.cons_cons _ (List.nil_sublist _)) (fun _ hh => hh)) ?_
 rintro ⟨i, o, cp, sp⟩ hinv1; (try dsimp only at hinv1 ⊢)
 obtain ⟨hi, hcp⟩ := hinv1
 refine Cs (Yl rfl (Nt (Cq ?_)))
 refine Cd rfl (fun hc34 => ?_) (fun hc34 => ?_)
 ·(try simp only [sB] at hc34)
  have hi2 : i < ([p.mn, p.wh] : List PK).length := by show i < 2; omega
  have htk := oY hi2
  obtain ⟨k, hk⟩ : ∃ k, Keep (k = ([p.mn, p.wh] : List PK).getD i default) := ⟨_, rfl⟩
  rw [← show k = _ from hk] at htk
  have hln : (ao (fG p ++ (([p.mn, p.wh] : List PK).take i).flatMap pk4)).length = 9 + 4 * i := by
   rw [← fp, List.length_append]
   have : i = 0 ∨ i = 1 := by omega
   rcases this with rfl | rfl <;> rfl
  refine Ck (Xa (Cq (Cb (Cs ?_))))
  refine Kq rfl (Ja rfl rfl rfl w5 (by kernel_rfl : _ = some 4) (by omega)) ?_
  refine Kq rfl (xW (off0 := 0) (m := i * 4) (ys := pkc (([p.mn, p.wh] : List PK).getD i default)) rfl rfl .tc u28 rfl (by kernel_rfl : _ = some 4) (Nat.zero_add _).symm (by exact eY [p.mn, p.wh] pkc 4 (fun _ => rfl) i hi2) rfl (by decide)) ?_
  refine Ns 36 rfl (v' := .agg (pkc k).toArray) (by rw [show k = _ from hk]) ?_
  refine Kh rfl (Oz [.string (S []), .string (S []), .string (S []), .string (S [])] rfl) ?_
  intro b5
  refine Nu rfl rfl (Sa rfl rfl rfl .tc) ?_
  refine Nt (Cg (Km rfl (Kq rfl (Fa (q := 0) rfl rfl u28 rfl rfl) (Kq rfl (Fa (q := 0) rfl rfl u26 rfl rfl) (Kq rfl (Ld rfl rfl .tc u22) ?_)))))
  refine Kq rfl (Fa (q := 0) rfl rfl u28 rfl rfl) (Kq rfl (Fa (q := 1) rfl rfl u26 rfl rfl) (Kq rfl (Ld rfl rfl .tc u22) ?_))
  refine Kq rfl (Fa (q := 2) rfl rfl u28 rfl rfl) (Kq rfl (Ld rfl rfl .tc u22) ?_)
  refine Kq rfl (Fa (q := 3) rfl rfl u28 rfl rfl) (Kq rfl (Ld rfl rfl .tc u22) ?_)
  refine Kh rfl (aR rfl rfl u31 (by kernel_rfl : _ = some (some (.string (S [])), 1, 16)) rfl (by simp only [List.map]; rfl) rfl rfl ?_ (by decide)) ?_
  ·simp [Value.cells]
  intro b48
  refine Kh rfl (oR rfl u31 (by kernel_rfl : _ = some (some (.string (S [])), 1, 16)) rfl .tc rfl rfl (fun w hS => by (exact hS.os)) (by rfl) (by refine ⟨?_, ?_, ?_, ?_⟩ <;> first | exact hln | omega) (by (simp [Value.oneCell']; done))) ?_
  rintro ⟨o49, c49, s49⟩
  refine WL.pu ?_
  intro hg49; (try dsimp only at hg49 ⊢)
  refine Ka rfl (Nn (Xd (Xa (Cg (Kq rfl (Rz rfl rfl rfl (by omega)) (Km rfl (Nn ?_)))))))
  refine Lx ((i + 1, o49, c49, s49)) (by (try dsimp only); omega) (S2 rfl rfl) (by refine (Sc ?_ (Sc ?_ (S0 _))) <;> (rfl)) ?_ (by exact fun w h => by rw [htk, List.flatMap_append, ← List.append_assoc, ← fp, show ao ([k].flatMap pk4) = pkc k from rfl]; exact aq _ h)
  (try dsimp only)
  exact ⟨by omega, by omega⟩
 ·(try simp only [sB] at hc34)
  refine Cx (Xc (Xc (Xe ?_)))
  obtain rfl : i = 2 := by omega
  refine Xa (Cs (Km rfl (Ka rfl (Nt (Ce ?_)))))
  exact Rn rfl (.tmp rfl .nil) fun w' hS => ⟨⟨o, cp, sp⟩, rfl, by omega, hS.sub (List.Sublist.refl _) (by simp)⟩
theorem pq {p : PR} {x : Bs} {b1 b5 : Nat} {w : World} {ok : Nat → Prop} (hF1 : (Fact.sl (some ⟨b1, 0, none⟩) (prC p)).holds ok w) (hF2 : (Fact.sl (some ⟨b5, 0, none⟩) [.string (S (ae 1))]).holds ok w) :
  Cw 112 #[.string (S x), .pointer (some ⟨b1, 0, none⟩), .pointer (some ⟨b5, 0, none⟩)] w (.bool (decide (dz p.wh.1 x))) := by
 refine En [Fact.sl (some ⟨b1, 0, none⟩) (prC p), Fact.sl (some ⟨b5, 0, none⟩) [.string (S (ae 1))]] [(0, .string (S x)), (1, .pointer (some ⟨b1, 0, none⟩)), (2, .pointer (some ⟨b5, 0, none⟩))] Tryz.func112 rfl Tryz.ntmps112 rfl (Ac rfl (Ac rfl (Ac rfl (An _)))) (Fc (ah hF1) (Fc (ah hF2) Fn)) ?_
 refine Cs (Ka rfl (Nt (Cs ?_)))
 (refine Kq rfl (cU rfl rfl u30 rfl (by kernel_rfl) (by (try simp only [sN, Int.reduceToNat, Nat.reduceAdd, Nat.reduceMul, Nat.reduceSub]); rfl)) ?_)
 (refine Kq rfl (cU rfl rfl u28 rfl (by kernel_rfl) (by (try simp only [sN, Int.reduceToNat, Nat.reduceAdd, Nat.reduceMul, Nat.reduceSub]); rfl)) ?_)
 refine Kq rfl (xW (off0 := 0) (m := 6) (ys := [.string (S p.wh.1.1), .string (S p.wh.1.2)]) rfl rfl .tc u26 rfl (by kernel_rfl : _ = some 2) rfl rfl rfl (by decide)) ?_
 refine Km rfl ?_
 refine Ku rfl (Oc rfl rfl (Kv fun w hS => pi (g := p.wh.1) (x := x))) ?_
 refine Km rfl ?_
 refine Nb 10 rfl (fun hg10 => ?_) (fun hg10 => ?_)
 ·(try simp only [sB] at hg10)
  refine Km rfl (Kq rfl (ldf (off0 := 0) (m := 0) rfl rfl .tc u22 rfl rfl rfl) ?_)
  refine Yr rfl (Yp rfl (Ka rfl (Nt (Ce ?_))))
  exact R1 rfl rfl (by simp [*, tup, dz])
 ·(try simp only [sB] at hg10)
  refine Kt rfl (Kt rfl (Kt rfl (Yq rfl (Ka rfl (Nt (Ce ?_))))))
  exact R1 rfl rfl (by simp [*, tup, dz])
theorem mg {p : PR} : okR p ↔ ∀ x ∈ kc p, okN x := by
 unfold okR okK kc
 simp only [List.mem_append, List.mem_cons, List.not_mem_nil, or_false]
 constructor
 ·rintro ⟨h, ⟨a1, a2, a3, a4⟩, c1, c2, c3, c4⟩ x (hx | (rfl | rfl | rfl | rfl) | (rfl | rfl | rfl | rfl))
  ·exact h x hx
  all_goals assumption
 ·intro h
  exact ⟨fun x hx => h x (.inl hx), ⟨h _ (.inr (.inl (.inl rfl))), h _ (.inr (.inl (.inr (.inl rfl)))), h _ (.inr (.inl (.inr (.inr (.inl rfl))))), h _ (.inr (.inl (.inr (.inr (.inr rfl)))))⟩,
   h _ (.inr (.inr (.inl rfl))), h _ (.inr (.inr (.inr (.inl rfl)))), h _ (.inr (.inr (.inr (.inr (.inl rfl))))), h _ (.inr (.inr (.inr (.inr (.inr rfl)))))⟩
theorem iF {p : PR} {w : World} (hm8 : p.mn.1.1.length ≤ 8) (hD : TabD w) :
  Cw 67 #[prV p] w (.int .i64 (cx p)) := by
 refine En [] [(0, prV p)] Tryz.func67 rfl Tryz.ntmps67 rfl (Ac rfl (An _)) Fn ?_
 refine Cs ?_
 refine Kh rfl (Oy rfl rfl) ?_
 intro b1
 refine Ka rfl (Nt (Cq (Cs ?_)))
 refine Kq rfl (lda rfl rfl .tc u30 rfl ?_) ?_
 ·kernel_rfl
 refine Kh rfl (Oc rfl rfl (f8 fun w hS => xH)) ?_
 intro g14
 refine WL.pu ?_
 intro hg14; (try dsimp only at hg14 ⊢)
 refine Yo rfl u31 (Km rfl (Nt (Cb ?_)))
 refine Lp (σ := Nat) [(1, _), (14, _), (15, _)] (fun gq => [(16, .int .i64 (gq : Int))]) (fun gq => gq ≤ (kc p).length ∧ ∀ x ∈ (kc p).take gq, okN x) (fun gq => (kc p).length - gq) (0) (S3 rfl rfl rfl) (S1 rfl) (by (try dsimp only); exact ⟨Nat.zero_le _, by simp⟩) ?_
 rintro i hinv1; (try dsimp only at hinv1 ⊢)
 obtain ⟨hi, hok⟩ := hinv1
 refine Cs (Yl rfl (Nt (Cq ?_)))
 refine Cd rfl (fun hc17 => ?_) (fun hc17 => ?_)
 ·(try simp only [sB] at hc17)
  have hil : i < (kc p).length := by show i < 17; omega
  obtain ⟨y, hy⟩ : ∃ y, Keep (y = (kc p).getD i default) := ⟨_, rfl⟩
  refine Ck (Xa (Cq (Cb (Cs ?_))))
  refine Kq rfl (Ib rfl rfl rfl u31 (by omega) (by (rw [List.length_map]; omega))) ?_
  refine Kq rfl (ldm rfl rfl u22 rfl (by assumption)) ?_
  refine Ns 19 rfl (v' := .string (S (y))) (congrArg (fun l => Value.string (S l)) (by rw [show y = _ from hy])) ?_
  refine Ka rfl (Nt (Cs (Km rfl ?_)))
  refine Ku rfl (Oc rfl rfl (Kv fun w hS => av (a := y))) ?_
  refine Yt rfl (Nt ?_)
  refine Cd rfl (fun hc22 => ?_) (fun hc22 => ?_)
  ·(try simp only [sB] at hc22)
   have hyn : ¬ okN y := by simpa using hc22
   have hn : ¬ okR p := fun h => hyn (by rw [show y = _ from hy]; exact mg.1 h _ (ap (kc p) i hil))
   refine Cs (Ka rfl (Nt (Ce (Xf (Xb (Xb (Xf (Xb ?_))))))))
   exact R1 rfl rfl (by rw [cx, if_pos hn]; rfl)
  ·(try simp only [sB] at hc22)
   have hyy : okN y := by simpa using hc22
   refine Ck (Xd (Xa (Cg (Kq rfl (Rz rfl rfl rfl (by omega)) (Km rfl (Nn ?_))))))
   refine Ly (i + 1) (by (try dsimp only); omega) (S3 rfl rfl rfl) (by refine (Sc ?_ (S0 _)) <;> (rfl)) ?_ (by (exact fun _ h => h))
   (try dsimp only)
   exact ⟨hil, ay hil hok (by rw [← show y = _ from hy]; exact hyy)⟩
 ·(try simp only [sB] at hc17)
  refine Cx (Xc (Xc (Xe ?_)))
  obtain rfl : i = (kc p).length := by show i = 17; have h17 : i ≤ 17 := hi; omega
  rw [List.take_length] at hok
  have hokR : okR p := mg.2 hok
  have hB8 : 8 < Big := Nat.lt_of_lt_of_le (by decide) gz
  refine Xa (Cs ?_)
  refine Ku rfl (Oc rfl rfl (Kv fun w hS => fF (n := 1) (by omega))) ?_
  refine Ku rfl (Oc rfl rfl (Kv fun w hS => fF (n := 2) (by omega))) ?_
  refine Kh rfl (Oa rfl (v := (.string (S []))) (cs := [.string (S [])]) (by kernel_rfl) rfl) ?_
  intro b5
  refine Ng rfl rfl (st rfl rfl rfl .tc (by kernel_rfl) rfl ?_ (by (simp only [List.set_cons_zero, List.set_cons_succ]; rfl))) ?_
  ·decide
  intro _
  refine Ka rfl (Nt (Cs (Kq rfl (cE rfl rfl rfl) (Ka rfl (Nt (Cq ?_))))))
  refine WC.joinP (σ := Unit) [(1, _), (6, _)] (fun gq => [(67, .bool (decide (¬ (aX p.mn.1 = 0 ∧ iK p.mn.1 p.mn.2.1 ∧ iK p.mn.1 p.mn.2.2 ∧ dz p.wh.1 p.wh.2.1 ∧ dz p.wh.1 p.wh.2.2))))]) (fun gq => True) (S2 rfl rfl) ?_ ?_
  ·skip
   refine Cg (Kq rfl (Fa (q := 2) rfl rfl u30 rfl rfl) (Kq rfl (Fa (q := 2) rfl rfl u28 rfl rfl) ?_))
   refine Kq rfl (ldp rfl rfl .tc u26 rfl (by kernel_rfl : _ = some 2) (by rfl) (by rfl)) ?_
   refine Ku rfl (Oc rfl rfl (Kv fun w hS => qM (g := p.mn.1) (by (exact bn hD hS)))) ?_
   refine Yj rfl (Km rfl ?_)
   refine Nb 32 rfl (fun hg32 => ?_) (fun hg32 => ?_)
   ·(try simp only [sB] at hg32)
    refine Kt rfl (Kt rfl (Kt rfl (Kt rfl (Kt rfl (Kt rfl (Kt rfl (Kt rfl (Yp rfl (Km rfl (Kt rfl (Kt rfl (Kt rfl (Kt rfl (Kt rfl (Kt rfl (Kt rfl (Kt rfl (Yp rfl (Km rfl (Kt rfl (Kt rfl (Kt rfl (Kt rfl (Kt rfl (Kt rfl (Yp rfl (Km rfl (Kt rfl (Kt rfl (Kt rfl (Kt rfl (Kt rfl (Kt rfl (Yp rfl (Nn ?_)))))))))))))))))))))))))))))))))))
    refine WX.joinP (()) (S2 rfl rfl) (by refine (Sc ?_ (S0 _)) <;> ((refine ai rfl ?_; (try dsimp only); (simp [*]; done)))) ?_ (by (exact fun _ h => h))
    (try dsimp only)
    done
   ·(try simp only [sB] at hg32)
    refine Kq rfl (Fa (q := 2) rfl rfl u30 rfl rfl) (Kq rfl (Fa (q := 2) rfl rfl u28 rfl rfl) ?_)
    refine Kq rfl (ldp rfl rfl .tc u26 rfl (by kernel_rfl : _ = some 2) (by rfl) (by rfl)) ?_
    refine Kq rfl (Fa (q := 2) rfl rfl u30 rfl rfl) (Kq rfl (Fa (q := 4) rfl rfl u28 rfl rfl) (Kq rfl (Ld rfl rfl .tc u22) ?_))
    refine Ku rfl (Oc rfl rfl (Kv fun w hS => po (g := p.mn.1) (x := p.mn.2.1) (by assumption))) ?_
    refine Yt rfl (Yq rfl (Km rfl ?_))
    refine Nb 42 rfl (fun hg42 => ?_) (fun hg42 => ?_)
    ·(try simp only [sB] at hg42)
     refine Kt rfl (Kt rfl (Kt rfl (Kt rfl (Kt rfl (Kt rfl (Kt rfl (Kt rfl (Yp rfl (Km rfl (Kt rfl (Kt rfl (Kt rfl (Kt rfl (Kt rfl (Kt rfl (Yp rfl (Km rfl (Kt rfl (Kt rfl (Kt rfl (Kt rfl (Kt rfl (Kt rfl (Yp rfl (Nn ?_)))))))))))))))))))))))))
     refine WX.joinP (()) (S2 rfl rfl) (by refine (Sc ?_ (S0 _)) <;> ((refine ai rfl ?_; (try dsimp only); (simp [*]; done)))) ?_ (by (exact fun _ h => h))
     (try dsimp only)
     done
    ·(try simp only [sB] at hg42)
     refine Kq rfl (Fa (q := 2) rfl rfl u30 rfl rfl) (Kq rfl (Fa (q := 2) rfl rfl u28 rfl rfl) ?_)
     refine Kq rfl (ldp rfl rfl .tc u26 rfl (by kernel_rfl : _ = some 2) (by rfl) (by rfl)) ?_
     refine Kq rfl (Fa (q := 2) rfl rfl u30 rfl rfl) (Kq rfl (Fa (q := 5) rfl rfl u28 rfl rfl) (Kq rfl (Ld rfl rfl .tc u22) ?_))
     refine Ku rfl (Oc rfl rfl (Kv fun w hS => po (g := p.mn.1) (x := p.mn.2.2) (by assumption))) ?_
     refine Yt rfl (Yq rfl (Km rfl ?_))
     refine Nb 52 rfl (fun hg52 => ?_) (fun hg52 => ?_)
     ·(try simp only [sB] at hg52)
      refine Kt rfl (Kt rfl (Kt rfl (Kt rfl (Kt rfl (Kt rfl (Yp rfl (Km rfl (Kt rfl (Kt rfl (Kt rfl (Kt rfl (Kt rfl (Kt rfl (Yp rfl (Nn ?_)))))))))))))))
      refine WX.joinP (()) (S2 rfl rfl) (by refine (Sc ?_ (S0 _)) <;> ((refine ai rfl ?_; (try dsimp only); (simp [*]; done)))) ?_ (by (exact fun _ h => h))
      (try dsimp only)
      done
     ·(try simp only [sB] at hg52)
      refine Km rfl (Kq rfl (Fa (q := 6) rfl rfl u30 rfl rfl) (Kq rfl (Fa (q := 8) rfl rfl u28 rfl rfl) (Kq rfl (Ld rfl rfl .tc u22) ?_)))
      refine Ku rfl (aL rfl rfl rfl (by kernel_rfl) rfl (Kv fun w hS => pq (p := p) (x := p.wh.2.1) (b1 := b1) (b5 := b5) hS.os hS.os)) ?_
      refine Yt rfl (Yq rfl (Km rfl ?_))
      refine Nb 60 rfl (fun hg60 => ?_) (fun hg60 => ?_)
      ·(try simp only [sB] at hg60)
       refine Kt rfl (Kt rfl (Kt rfl (Kt rfl (Kt rfl (Kt rfl (Yp rfl (Nn ?_)))))))
       refine WX.joinP (()) (S2 rfl rfl) (by refine (Sc ?_ (S0 _)) <;> ((refine ai rfl ?_; (try dsimp only); (simp [*]; done)))) ?_ (by (exact fun _ h => h))
       (try dsimp only)
       done
      ·(try simp only [sB] at hg60)
       refine Km rfl (Kq rfl (Fa (q := 6) rfl rfl u30 rfl rfl) (Kq rfl (Fa (q := 9) rfl rfl u28 rfl rfl) (Kq rfl (Ld rfl rfl .tc u22) ?_)))
       refine Ku rfl (aL rfl rfl rfl (by kernel_rfl) rfl (Kv fun w hS => pq (p := p) (x := p.wh.2.2) (b1 := b1) (b5 := b5) hS.os hS.os)) ?_
       refine Yt rfl (Yq rfl (Nn ?_))
       refine WX.joinP (()) (S2 rfl rfl) (by refine (Sc ?_ (S0 _)) <;> ((refine ai rfl ?_; (try dsimp only); (simp [*]; done)))) ?_ (by (exact fun _ h => h))
       (try dsimp only)
       done
  ·rintro _ hmeet; (try dsimp only at hmeet ⊢)
   refine Cd rfl (fun hc67 => ?_) (fun hc67 => ?_)
   ·(try simp only [sB] at hc67)
    refine Cs (Ka rfl (Nt (Ce (Xb ?_))))
    exact R1 rfl rfl (by rw [cx, if_neg (fun h => h hokR), if_pos (show ¬ ny p from hc67)]; rfl)
   ·(try simp only [sB] at hc67)
    have hgr : ny p := Decidable.not_not.1 hc67
    refine Ck (Xa (Cs (Kq rfl (Fa (q := 2) rfl rfl u30 rfl rfl) (Kq rfl (Fa (q := 2) rfl rfl u28 rfl rfl) (Kq rfl (Fa (q := 3) rfl rfl u26 rfl rfl) (Kq rfl (Ld rfl rfl .tc u22) ?_))))))
    refine Ka rfl (Nt (Cq (Cs (Kq rfl (Fa (q := 0) rfl rfl u30 rfl rfl) (Kq rfl (Fa (q := 0) rfl rfl u24 rfl rfl) (Kq rfl (Ld rfl rfl .tc u22) ?_))))))
    refine Kq rfl (Fa (q := 0) rfl rfl u30 rfl rfl) (Kq rfl (Fa (q := 1) rfl rfl u24 rfl rfl) (Kq rfl (Ld rfl rfl .tc u22) ?_))
    refine Kq rfl (Fa (q := 10) rfl rfl u30 rfl rfl) (Kq rfl (Ld rfl rfl .tc u22) ?_)
    refine Kq rfl (Fa (q := 11) rfl rfl u30 rfl rfl) (Kq rfl (Ld rfl rfl .tc u22) ?_)
    refine Kq rfl (Fa (q := 12) rfl rfl u30 rfl rfl) (Kq rfl (Ld rfl rfl .tc u22) ?_)
    refine Kq rfl (Fa (q := 13) rfl rfl u30 rfl rfl) (Kq rfl (Ld rfl rfl .tc u22) ?_)
    refine Kq rfl (Fa (q := 14) rfl rfl u30 rfl rfl) (Kq rfl (Ld rfl rfl .tc u22) ?_)
    refine Kq rfl (Fa (q := 15) rfl rfl u30 rfl rfl) (Kq rfl (Ld rfl rfl .tc u22) ?_)
    refine Kq rfl (Fa (q := 16) rfl rfl u30 rfl rfl) (Kq rfl (Ld rfl rfl .tc u22) ?_)
    refine Kh rfl (aR rfl rfl u31 (by kernel_rfl : _ = some (some (.string (S [])), 1, 16)) rfl (by simp only [List.map]; rfl) rfl rfl ?_ (by decide)) ?_
    ·simp [Value.cells]
    intro b92
    refine WL.st (fun w h => h.freeze (off := 0) (xs := ao (fG p)) (fun i hi => by rw [Nat.zero_add]; rfl)) ?_
    refine Yo rfl u31 (Km rfl (Nt (Cb ?_)))
    refine Lp (σ := Nat) [(1, _), (6, _), (8, _), (92, _), (93, _)] (fun gq => [(94, .int .i64 (gq : Int))]) (fun gq => gq ≤ (fG p).length ∧ ∀ x ∈ (fG p).take gq, 2 ≤ val x) (fun gq => (fG p).length - gq) (0) (S5 rfl rfl rfl rfl rfl) (S1 rfl) (by (try dsimp only); exact ⟨Nat.zero_le _, by simp⟩) ?_
    rintro j hinv2; (try dsimp only at hinv2 ⊢)
    obtain ⟨hj, htw⟩ := hinv2
    refine Cs (Yl rfl (Nt (Cq ?_)))
    refine Cd rfl (fun hc95 => ?_) (fun hc95 => ?_)
    ·(try simp only [sB] at hc95)
     have hjl : j < (fG p).length := by show j < 9; omega
     obtain ⟨y, hy⟩ : ∃ y, Keep (y = (fG p).getD j default) := ⟨_, rfl⟩
     have hyo : okN y := by rw [show y = _ from hy]; exact hokR.1 _ (ap (fG p) j hjl)
     refine Ck (Xa (Cq (Cb (Cs ?_))))
     refine Kq rfl (Ja rfl rfl rfl u31 (by kernel_rfl : _ = some 1) (by omega)) ?_
     refine Kq rfl (ldf (off0 := 0) (m := j) rfl rfl .tc u22 rfl (Nat.zero_add _).symm (fH (fG p) (fun s : Bs => Value.string (S s)) j hjl)) ?_
     refine Ns 97 rfl (v' := .string (S (y))) (congrArg (fun l => Value.string (S l)) (by rw [show y = _ from hy])) ?_
     refine Ka rfl (Nt (Cs (Km rfl (Km rfl ?_))))
     refine Ku rfl (Oc rfl rfl (Kv fun w hS => dT (a := y) (b := ae 2))) ?_
     refine Yl rfl ?_
     refine Ns 101 rfl (v' := .bool (decide (val y < 2))) (congrArg Value.bool (by rw [az hyo (au (by omega)), af]; exact decide_eq_decide.2 (aw _ _))) ?_
     refine Nt ?_
     refine Cd rfl (fun hc101 => ?_) (fun hc101 => ?_)
     ·(try simp only [sB] at hc101)
      have hn : ¬ na p := fun h => by have := h.1 _ (ap (fG p) j hjl); rw [← show y = _ from hy] at this; omega
      refine Cs (Ka rfl (Nt (Ce (Xf (Xb (Xb (Xf (Xb ?_))))))))
      exact R1 rfl rfl (by rw [cx, if_neg (fun h => h hokR), if_neg (fun h => h hgr), if_pos hn]; rfl)
     ·(try simp only [sB] at hc101)
      refine Ck (Xd (Xa (Cg (Kq rfl (Rz rfl rfl rfl (by omega)) (Km rfl (Nn ?_))))))
      refine Ly (j + 1) (by (try dsimp only); omega) (S5 rfl rfl rfl rfl rfl) (by refine (Sc ?_ (S0 _)) <;> (rfl)) ?_ (by (exact fun _ h => h))
      (try dsimp only)
      exact ⟨hjl, ay hjl htw (by rw [← show y = _ from hy]; omega)⟩
    ·(try simp only [sB] at hc95)
     refine Cx (Xc (Xc (Xe ?_)))
     obtain rfl : j = (fG p).length := by show j = 9; have h9 : j ≤ 9 := hj; omega
     rw [List.take_length] at htw
     have ha : okN p.attr := hokR.1 _ (by simp)
     have hc : okN p.ch := hokR.1 _ (by simp)
     have hsc : okN p.sec := hokR.1 _ (by simp)
     have hq : okN p.mn.1.2 := hokR.2.1.2.1
     have hqB := bv hq
     have hmu : bH p.attr (ae 8) = if val p.attr * 8 < Big then (ae (val p.attr * 8), 0) else ([], 5) := by rw [bH, if_pos ⟨ha, au hB8⟩, af]
     refine Xa (Cq ?_)
     refine Cf [2, 0, 1, 3, 4, 5, 6, 7, 8] [] [0, 0, 1, 1, 0, 0, 0, 0, 0] (by kernel_rfl) (by kernel_rfl) rfl ?_
     refine Jv rfl rfl rfl rfl rfl (fun ext => Oc rfl rfl (Kv fun w hS => fF (n := 8) (by omega))) ?_
     refine Kj rfl (Fa (q := 11) rfl rfl u30 rfl rfl) (Kj rfl (Ld rfl rfl .tc u22) ?_)
     refine Jv rfl rfl rfl rfl rfl (fun ext => Oc rfl rfl (Kv fun w hS => sY (a := p.attr) (b := ae 8))) ?_
     refine Kj rfl (Rm rfl rfl) (Kj rfl (Re rfl rfl rfl) (Kj rfl (Re rfl rfl rfl) (Kj rfl (Ra rfl rfl) (Kj rfl (Ra rfl rfl) ?_))))
     refine WJ.nil ?_
     refine Nt (Cq ?_)
     refine WC.joinP (σ := Unit) [] (fun gq => [(132, .bool (decide (¬ (8 * val p.attr ≤ val p.mn.1.2 ∧ val p.ch ≤ val p.mn.1.2 ∧ val p.sec ≤ val p.mn.1.2))))]) (fun gq => True) (S0 _) ?_ ?_
     ·skip
      refine Cg (Km rfl (Yj rfl ?_))
      refine Ns 111 rfl (v' := .bool (decide (Big ≤ val p.attr * 8))) (congrArg Value.bool (by rw [hmu]; split <;> simp <;> omega)) ?_
      refine Km rfl ?_
      refine Nb 112 rfl (fun hg112 => ?_) (fun hg112 => ?_)
      ·(try simp only [sB] at hg112)
       refine Kt rfl (Kt rfl (Kt rfl (Kt rfl (Yp rfl (Km rfl (Kt rfl (Kt rfl (Kt rfl (Kt rfl (Kt rfl (Kt rfl (Yp rfl (Km rfl (Kt rfl (Kt rfl (Kt rfl (Kt rfl (Kt rfl (Yp rfl (Nn ?_))))))))))))))))))))
       refine WX.joinP (()) (S0 _) (by refine (Sc ?_ (S0 _)) <;> ((exact congrArg (fun b => some (Value.bool b)) (by symm; apply decide_eq_true; omega)))) ?_ (by (exact fun _ h => h))
       (try dsimp only)
       done
      ·(try simp only [sB] at hg112)
       refine Km rfl (Km rfl ?_)
       refine Ku rfl (Oc rfl rfl (Kv fun w hS => dT (a := (bH p.attr (ae 8)).1) (b := p.mn.1.2))) ?_
       refine Yg rfl ?_
       refine Ns 116 rfl (v' := .bool (decide (val p.mn.1.2 < val p.attr * 8))) (congrArg Value.bool (by rw [hmu, if_pos (by omega), az (au (by omega)) hq, af]; exact decide_eq_decide.2 (by have := gj (val p.attr * 8) (val p.mn.1.2); omega))) ?_
       refine Yq rfl (Km rfl ?_)
       refine Nb 118 rfl (fun hg118 => ?_) (fun hg118 => ?_)
       ·(try simp only [sB] at hg118)
        refine Kt rfl (Kt rfl (Kt rfl (Kt rfl (Kt rfl (Kt rfl (Yp rfl (Km rfl (Kt rfl (Kt rfl (Kt rfl (Kt rfl (Kt rfl (Yp rfl (Nn ?_))))))))))))))
        refine WX.joinP (()) (S0 _) (by refine (Sc ?_ (S0 _)) <;> ((exact congrArg (fun b => some (Value.bool b)) (by symm; apply decide_eq_true; omega)))) ?_ (by (exact fun _ h => h))
        (try dsimp only)
        done
       ·(try simp only [sB] at hg118)
        refine Kq rfl (Fa (q := 0) rfl rfl u30 rfl rfl) (Kq rfl (Fa (q := 0) rfl rfl u24 rfl rfl) (Kq rfl (Ld rfl rfl .tc u22) ?_))
        refine Km rfl ?_
        refine Ku rfl (Oc rfl rfl (Kv fun w hS => dT (a := p.ch) (b := p.mn.1.2))) ?_
        refine Yg rfl ?_
        refine Ns 124 rfl (v' := .bool (decide (val p.mn.1.2 < val p.ch))) (congrArg Value.bool (by rw [az hc hq]; exact decide_eq_decide.2 (by have := gj (val p.ch) (val p.mn.1.2); omega))) ?_
        refine Yq rfl (Km rfl ?_)
        refine Nb 126 rfl (fun hg126 => ?_) (fun hg126 => ?_)
        ·(try simp only [sB] at hg126)
         refine Kt rfl (Kt rfl (Kt rfl (Kt rfl (Kt rfl (Yp rfl (Nn ?_))))))
         refine WX.joinP (()) (S0 _) (by refine (Sc ?_ (S0 _)) <;> ((refine ai rfl ?_; (try dsimp only); (simp [*]; done)))) ?_ (by (exact fun _ h => h))
         (try dsimp only)
         done
        ·(try simp only [sB] at hg126)
         refine Kq rfl (Fa (q := 10) rfl rfl u30 rfl rfl) (Kq rfl (Ld rfl rfl .tc u22) ?_)
         refine Km rfl ?_
         refine Ku rfl (Oc rfl rfl (Kv fun w hS => dT (a := p.sec) (b := p.mn.1.2))) ?_
         refine Yg rfl ?_
         refine Ns 131 rfl (v' := .bool (decide (val p.mn.1.2 < val p.sec))) (congrArg Value.bool (by rw [az hsc hq]; exact decide_eq_decide.2 (by have := gj (val p.sec) (val p.mn.1.2); omega))) ?_
         refine Yq rfl (Nn ?_)
         refine WX.joinP (()) (S0 _) (by refine (Sc ?_ (S0 _)) <;> ((refine ai rfl ?_; (try dsimp only); (exact decide_eq_decide.2 (by omega))))) ?_ (by (exact fun _ h => h))
         (try dsimp only)
         done
     ·rintro _ hmeet; (try dsimp only at hmeet ⊢)
      refine Cd rfl (fun hc132 => ?_) (fun hc132 => ?_)
      ·(try simp only [sB] at hc132)
       refine Cs (Ka rfl (Nt (Ce (Xb ?_))))
       exact R1 rfl rfl (by rw [cx, if_neg (fun h => h hokR), if_neg (fun h => h hgr), if_pos (fun h : na p => hc132 h.2)]; rfl)
      ·(try simp only [sB] at hc132)
       refine Ck (Xa (Cs (Ka rfl (Nt (Ce ?_)))))
       exact R1 rfl rfl (by rw [cx, if_neg (fun h => h hokR), if_neg (fun h => h hgr), if_neg (fun h => h ⟨htw, Decidable.not_not.1 hc132⟩)]; rfl)
abbrev ikC (k : IK) (r : Value) : List Value := [.string (S k.name), .string (S k.g.1), .string (S k.g.2), .string (S k.z), .string (S k.s), r, .string (S k.u), .string (S k.h)]
abbrev kbs (k : IK) : List (Int × Bs) := (2, k.s) :: (0, k.z) :: (1, k.u) :: (1, k.h) :: k.r.map fun x => ((0 : Int), x)
theorem ju (k : IK) (Q : Bs → Prop) : (∀ y ∈ kbs k, Q y.2) ↔ ∀ x ∈ bsK k, Q x := by simp [kbs, bsK]
theorem nw {k : IK} {rv : Value} {own0 : List Ent} {ok : Nat → Prop} {w0 : World} {fs : List Fact} {w : World} (hS0 : St ok w0 (own0) (fs) w) :
  Calls Tryz.prog 142 #[ikV k rv] w fun e w' => ∃ g : Nat, e = .returned (.func (.func 189) #[] #[.pointer (some ⟨g, 0, none⟩)]) ∧ St ok w0 (⟨some g, ikC k rv, 33⟩ :: own0) fs w' := by
 refine enter (S := St ok w0 (own0) (fs)) (L := [(0, ikV k rv)]) Tryz.func142 rfl Tryz.ntmps142 rfl (Ac rfl (An _)) hS0 ?_
 refine Cs ?_
 refine Kh rfl (Oy rfl rfl) ?_
 intro b1
 refine Ka rfl (Nt (Cs (Kq rfl (cE rfl rfl rfl) (Ka rfl (Nt (Ce ?_))))))
 exact Rn rfl (.tmp rfl .nil) fun w' hS => ⟨b1, rfl, hS⟩
theorem wL {σ γ : Type} {CO : σ → γ → List Ent} {pg : σ → γ → Prop} {inv : σ → Int × Bs → Prop} {after : σ → Int × Bs → σ} {stop : σ → Int × Bs → Option Code} {l : Nat} {r : Loop} {ok : Nat → Prop} {w0 : World} {fs : List Fact} {w : World} {k : IK} {a : Option Addr} {c : Nat} {b1 : Nat} {s0 : σ} [∀ s g, HasE (CO s g) b1 (ikC k (.slice a k.r.length c)) 33] [HasF fs a (ao k.r)] {g0 : γ} (hY : YOk Tryz.prog l r ok w0 fs CO pg inv after stop (fun y : Int × Bs => #[Value.int .i64 y.1, Value.string (S y.2)])) (hS0 : St ok w0 (CO s0 g0) (Fact.lp l (rcd r none) :: fs) w) (hg0 : pg s0 g0) (hinv : ∀ s y, inv s y) (hl : k.r.length ≤ 140737488351232) :
  Calls Tryz.prog 189 #[.func (.yield l) #[] #[], .pointer (some ⟨b1, 0, none⟩)] w fun e w' => (∃ v, e = .returned v) ∧ ∃ g', ((itL after stop (kbs k) s0).2 = none → pg ((itL after stop (kbs k) s0).1) g') ∧ St ok w0 (CO ((itL after stop (kbs k) s0).1) g') (Fact.lp l (rcd r ((itL after stop (kbs k) s0).2)) :: fs) w' := by
 have hi0 : itL after stop (kbs k) s0 = itL after stop (kbs k) s0 := rfl
 refine enter (S := St ok w0 (CO s0 g0) (Fact.lp l (rcd r none) :: fs)) (L := [(0, .func (.yield l) #[] #[]), (1, .pointer (some ⟨b1, 0, none⟩))]) Tryz.func189 rfl Tryz.ntmps189 rfl (Ac rfl (Ac rfl (An _))) hS0 ?_
 refine Cq (Cs (Km rfl ?_))
 (refine Kq rfl (cU rfl rfl u33 rfl (by kernel_rfl) (by (try simp only [sN, Int.reduceToNat, Nat.reduceAdd, Nat.reduceMul, Nat.reduceSub]); rfl)) ?_)
 refine Kq rfl (Ld rfl rfl .tc u22) ?_
 refine Kh rfl (dq hY [] (((2 : Int), k.s)) rfl rfl rfl rfl (hinv _ _) (hg0)) ?_
 intro gy; refine WL.pu ?_; intro hgy; (refine WL.app0 ?_)
 refine Yt rfl (Km rfl ?_)
 refine Nb 10 rfl (fun hg10 => ?_) (fun hg10 => ?_)
 ·(try simp only [sB] at hg10)
  have hfin := ey hi0 (by simpa using hg10)
  refine Kt rfl (Kt rfl (Kt rfl (Kt rfl (Kt rfl (Yp rfl (Km rfl (Kt rfl (Kt rfl (Kt rfl (Kt rfl (Kt rfl (Yp rfl (Km rfl (Kt rfl (Kt rfl (Kt rfl (Kt rfl (Kt rfl (Yp rfl (Nt ?_))))))))))))))))))))
  refine Cd rfl (fun _ => ?_) (fun h => by cases h)
  refine Ce (Xb ?_)
  exact Rn rfl .nil fun w' hS => ⟨⟨_, rfl⟩, gy, by rw [hfin]; exact hgy, by rw [hfin]; dsimp only; exact aq _ hS⟩
 ·(try simp only [sB] at hg10)
  have hst := Option.isNone_iff_eq_none.1 hg10
  replace hi0 := ez hi0 hst
  have hp := hgy hst
  rw [hst]
  refine Km rfl ?_
  (refine Kq rfl (cU rfl rfl u33 rfl (by kernel_rfl) (by (try simp only [sN, Int.reduceToNat, Nat.reduceAdd, Nat.reduceMul, Nat.reduceSub]); rfl)) ?_)
  refine Kq rfl (Ld rfl rfl .tc u22) ?_
  refine Kh rfl (dq hY [] (((0 : Int), k.z)) rfl rfl rfl rfl (hinv _ _) (hp)) ?_
  intro gy; refine WL.pu ?_; intro hgy; (refine WL.app0 ?_)
  refine Yt rfl (Yq rfl (Km rfl ?_))
  refine Nb 17 rfl (fun hg17 => ?_) (fun hg17 => ?_)
  ·(try simp only [sB] at hg17)
   have hfin := ey hi0 (by simpa using hg17)
   refine Kt rfl (Kt rfl (Kt rfl (Kt rfl (Kt rfl (Yp rfl (Km rfl (Kt rfl (Kt rfl (Kt rfl (Kt rfl (Kt rfl (Yp rfl (Nt ?_)))))))))))))
   refine Cd rfl (fun _ => ?_) (fun h => by cases h)
   refine Ce (Xb ?_)
   exact Rn rfl .nil fun w' hS => ⟨⟨_, rfl⟩, gy, by rw [hfin]; exact hgy, by rw [hfin]; dsimp only; exact aq _ hS⟩
  ·(try simp only [sB] at hg17)
   have hst := Option.isNone_iff_eq_none.1 hg17
   replace hi0 := ez hi0 hst
   have hp := hgy hst
   rw [hst]
   refine Km rfl ?_
   (refine Kq rfl (cU rfl rfl u33 rfl (by kernel_rfl) (by (try simp only [sN, Int.reduceToNat, Nat.reduceAdd, Nat.reduceMul, Nat.reduceSub]); rfl)) ?_)
   refine Kq rfl (Ld rfl rfl .tc u22) ?_
   refine Kh rfl (dq hY [] (((1 : Int), k.u)) rfl rfl rfl rfl (hinv _ _) (hp)) ?_
   intro gy; refine WL.pu ?_; intro hgy; (refine WL.app0 ?_)
   refine Yt rfl (Yq rfl (Km rfl ?_))
   refine Nb 24 rfl (fun hg24 => ?_) (fun hg24 => ?_)
   ·(try simp only [sB] at hg24)
    have hfin := ey hi0 (by simpa using hg24)
    refine Kt rfl (Kt rfl (Kt rfl (Kt rfl (Kt rfl (Yp rfl (Nt ?_))))))
    refine Cd rfl (fun _ => ?_) (fun h => by cases h)
    refine Ce (Xb ?_)
    exact Rn rfl .nil fun w' hS => ⟨⟨_, rfl⟩, gy, by rw [hfin]; exact hgy, by rw [hfin]; dsimp only; exact aq _ hS⟩
   ·(try simp only [sB] at hg24)
    have hst := Option.isNone_iff_eq_none.1 hg24
    replace hi0 := ez hi0 hst
    have hp := hgy hst
    rw [hst]
    refine Km rfl ?_
    (refine Kq rfl (cU rfl rfl u33 rfl (by kernel_rfl) (by (try simp only [sN, Int.reduceToNat, Nat.reduceAdd, Nat.reduceMul, Nat.reduceSub]); rfl)) ?_)
    refine Kq rfl (Ld rfl rfl .tc u22) ?_
    refine Kh rfl (dq hY [] (((1 : Int), k.h)) rfl rfl rfl rfl (hinv _ _) (hp)) ?_
    intro gy; refine WL.pu ?_; intro hgy; (refine WL.app0 ?_)
    refine Yt rfl (Yq rfl (Nt ?_))
    refine Cd rfl (fun hc30 => ?_) (fun hc30 => ?_)
    ·(try simp only [sB] at hc30)
     have hfin := ey hi0 (by simpa using hc30)
     refine Ce (Xb ?_)
     exact Rn rfl .nil fun w' hS => ⟨⟨_, rfl⟩, gy, by rw [hfin]; exact hgy, by rw [hfin]; dsimp only; exact aq _ hS⟩
    ·(try simp only [sB] at hc30)
     have hst := Option.isNone_iff_eq_none.1 hc30
     replace hi0 := ez hi0 hst
     have hp := hgy hst
     rw [hst]
     refine Ck (Xa (Cs ?_))
     (refine Kq rfl (cU rfl rfl u33 rfl (by kernel_rfl) (by (try simp only [sN, Int.reduceToNat, Nat.reduceAdd, Nat.reduceMul, Nat.reduceSub]); rfl)) ?_)
     refine Kq rfl (Ld rfl rfl .tc u31) ?_
     refine Yo rfl u31 (Km rfl (Nt (Cb ?_)))
     refine Lo (σ := Nat × σ × γ) [(0, _), (32, _), (33, _)] (fun gq => [(34, .int .i64 (gq.1 : Int))]) (fun gq => gq.1 ≤ k.r.length ∧ pg gq.2.1 gq.2.2 ∧ itL after stop ((k.r.drop gq.1).map fun x => ((0 : Int), x)) gq.2.1 = itL after stop (kbs k) s0) (fun gq => k.r.length - gq.1) (fun gq => CO gq.2.1 gq.2.2) (fun gq => Fact.lp l (rcd r none) :: fs) (0, after (after (after (after s0 (2, k.s)) (0, k.z)) (1, k.u)) (1, k.h), gy) (S3 rfl rfl rfl) (S1 rfl) (by (try dsimp only); exact ⟨Nat.zero_le _, hp, hi0⟩) (by (exact fun _ h => h)) ?_
     rintro ⟨i, s, g⟩ hinv1; (try dsimp only at hinv1 ⊢)
     obtain ⟨hi, hgs, hit⟩ := hinv1
     refine Cs (Yl rfl (Nt (Cq ?_)))
     refine Cd rfl (fun hc35 => ?_) (fun hc35 => ?_)
     ·(try simp only [sB] at hc35)
      have hil : i < k.r.length := by omega
      have hdr : (k.r.drop i).map (fun x => ((0 : Int), x)) = (0, k.r.getD i default) :: (k.r.drop (i + 1)).map (fun x => ((0 : Int), x)) := by
       rw [List.drop_eq_getElem_cons hil, List.map_cons]; congr 2; simp [List.getD, hil]
      rw [hdr] at hit
      refine Ck (Xa (Cq (Cb (Cs ?_))))
      refine Kq rfl (Ib rfl rfl rfl u31 (by omega) (by (rw [List.length_map]; omega))) ?_
      refine Kq rfl (ldm rfl rfl u22 rfl (by assumption)) ?_
      refine Ka rfl (Nt (Cs (Km rfl (Km rfl ?_))))
      refine Kh rfl (dq hY [] (((0 : Int), k.r.getD i default)) rfl rfl rfl rfl (hinv _ _) (hgs)) ?_
      intro gy; refine WL.pu ?_; intro hgy; (refine WL.app0 ?_)
      refine Yt rfl (Nt ?_)
      refine Cd rfl (fun hc41 => ?_) (fun hc41 => ?_)
      ·(try simp only [sB] at hc41)
       have hfin := ey hit (by simpa using hc41)
       refine Ce (Xf (Xb (Xb (Xf ?_))))
       exact Rn rfl .nil fun w' hS => ⟨⟨_, rfl⟩, gy, by rw [hfin]; exact hgy, by rw [hfin]; dsimp only; exact aq _ hS⟩
      ·(try simp only [sB] at hc41)
       have hst := Option.isNone_iff_eq_none.1 hc41
       replace hit := ez hit hst
       rw [hst]
       refine Ck (Xd (Xa (Cg (Kq rfl (Rz rfl rfl rfl (by omega)) (Km rfl (Nn ?_))))))
       refine Lx ((i + 1, after s (0, k.r.getD i default), gy)) (by (try dsimp only); omega) (S3 rfl rfl rfl) (by refine (Sc ?_ (S0 _)) <;> (rfl)) ?_ (by (exact fun _ h => h))
       (try dsimp only)
       exact ⟨by omega, hgy hst, hit⟩
     ·(try simp only [sB] at hc35)
      refine Cx (Xc (Xc (Xe ?_)))
      obtain rfl : i = k.r.length := by omega
      have hfin : (s, none) = itL after stop (kbs k) s0 := by rw [← hit, List.drop_length]; rfl
      refine WX.ret_normal ?_
      exact Rn rfl .nil fun w' hS => ⟨⟨_, rfl⟩, g, fun _ => by rw [← hfin]; exact hgs, by rw [← hfin]; exact aq _ hS⟩
def rx (s : Int) (y : Int × Bs) : Int := if okN y.2 then s else 3
def qo (_ : Int) (y : Int × Bs) : Option Code := if okN y.2 then none else some .ret
abbrev elJ (k : IK) (y : Int × Bs) : Prop := elG k.g y.2 ∧ ¬ (y.1 = 2 ∧ y.2 = ae 1)
def ry (k : IK) (s : Int) (y : Int × Bs) : Int := if elJ k y then s else 13
def qp (k : IK) (_ : Int) (y : Int × Bs) : Option Code := if elJ k y then none else some .ret
theorem pS (k : IK) : (∀ y ∈ kbs k, elJ k y) ↔ ((∀ x ∈ bsK k, elG k.g x) ∧ k.s ≠ ae 1) := by
 constructor
 ·intro h
  refine ⟨(ju k (fun x => elG k.g x)).1 fun y hy => (h y hy).1, fun e => (h (2, k.s) (by simp [kbs])).2 ⟨rfl, e⟩⟩
 ·rintro ⟨h, hs⟩ y hy
  refine ⟨(ju k (fun x => elG k.g x)).2 h y hy, ?_⟩
  rintro ⟨h2, h1⟩
  simp [kbs] at hy
  rcases hy with rfl | rfl | rfl | rfl | ⟨x, _, rfl⟩
  ·exact hs h1
  all_goals simp at h2
abbrev KCO (p : PR) (k : IK) (rv : Value) (b2 b3 b4 g : Nat) (s : Int) (_ : Unit) : List Ent := [⟨some g, ikC k rv, 33⟩, ⟨some b4, [.int .i64 s], 47⟩, ⟨some b3, ikC k rv, 33⟩, ⟨some b2, prC p, 30⟩]
theorem tj {p : PR} {k : IK} {a : Option Addr} {c : Nat} {w : World} {ok : Nat → Prop} (hF1 : (Fact.sl a (ao k.r)).holds ok w) (hm8 : p.mn.1.1.length ≤ 8) (hk8 : k.g.1.length ≤ 8) (hl : k.r.length ≤ 140737488351232) (hnl : k.name.length ≤ 140737488351232) (hD : TabD w) :
  Cw 82 #[prV p, ikV k (.slice a k.r.length c)] w (.int .i64 (dQ p k)) := by
 have hitV : itL rx qo (kbs k) 0 = if ∀ y ∈ kbs k, okN y.2 then (0, none) else (3, some Code.ret) := mz (fun y : Int × Bs => okN y.2) 3 (kbs k) 0
 have hitE : itL (ry k) (qp k) (kbs k) 0 = if ∀ y ∈ kbs k, elJ k y then (0, none) else (13, some Code.ret) := mz (elJ k) 13 (kbs k) 0
 refine kx (S := St (fun _ => True) w [] ([Fact.sl a (ao k.r)])) (L := [(0, prV p), (1, ikV k (.slice a k.r.length c))]) Tryz.func82 rfl Tryz.ntmps82 rfl (Ac rfl (Ac rfl (An _))) (St.start (fun _ _ => trivial) (Fc (ah hF1) Fn)) ?_
 refine Cs ?_
 refine Kh rfl (Oy rfl rfl) ?_
 intro b2
 refine Kh rfl (Oy rfl rfl) ?_
 intro b3
 refine Kh rfl (Oa rfl (v := (.int .i64 0)) (cs := [.int .i64 0]) (by kernel_rfl) rfl) ?_
 intro b4
 refine Nt (Cq (Cs ?_))
 refine Kq rfl (lda rfl rfl .tc u30 rfl ?_) ?_
 ·kernel_rfl
 refine Ku rfl (Oc rfl rfl (Kv fun w hS => iF (p := p) (by assumption) (by (exact bn hD hS)))) ?_
 refine Ka rfl (Nt (Cs (Km rfl (Yj rfl (Nt ?_)))))
 refine Cd rfl (fun hc13 => ?_) (fun hc13 => ?_)
 ·(try simp only [sB] at hc13)
  refine Cs (Km rfl ?_)
  refine Ng rfl rfl (st rfl rfl rfl .tc (by kernel_rfl) rfl ?_ (by (simp only [List.set_cons_zero, List.set_cons_succ]; rfl))) ?_
  ·decide
  intro _
  refine Nt (Ce (Xb ?_))
  exact WX.retM0 rfl (.one rfl .tc u47 rfl .nil) fun w' hS => ⟨by rw [dQ, if_pos (by simpa using hc13)]; rfl, hS.below⟩
 ·(try simp only [sB] at hc13)
  have h0 : cx p = 0 := by simpa using hc13
  refine Ck (Xa (Cq ?_))
  refine WC.joinP (σ := Unit) [(3, _), (4, _)] (fun gq => [(26, .bool (decide (¬ (okN k.g.1 ∧ okN k.g.2))))]) (fun gq => True) (S2 rfl rfl) ?_ ?_
  ·skip
   refine Cg (Kq rfl (Fa (q := 1) rfl rfl u33 rfl rfl) (Kq rfl (Fa (q := 1) rfl rfl u26 rfl rfl) (Kq rfl (Ld rfl rfl .tc u22) ?_)))
   refine Ku rfl (Oc rfl rfl (Kv fun w hS => av (a := k.g.1))) ?_
   refine Yt rfl (Km rfl ?_)
   refine Nb 20 rfl (fun hg20 => ?_) (fun hg20 => ?_)
   ·(try simp only [sB] at hg20)
    refine Kt rfl (Kt rfl (Kt rfl (Kt rfl (Kt rfl (Yp rfl (Nn ?_))))))
    refine WX.joinP (()) (S2 rfl rfl) (by refine (Sc ?_ (S0 _)) <;> ((refine ai rfl ?_; (try dsimp only); (simp [*]; done)))) ?_ (by (exact fun _ h => h))
    (try dsimp only)
    done
   ·(try simp only [sB] at hg20)
    refine Kq rfl (Fa (q := 1) rfl rfl u33 rfl rfl) (Kq rfl (Fa (q := 2) rfl rfl u26 rfl rfl) (Kq rfl (Ld rfl rfl .tc u22) ?_))
    refine Ku rfl (Oc rfl rfl (Kv fun w hS => av (a := k.g.2))) ?_
    refine Yt rfl (Yq rfl (Nn ?_))
    refine WX.joinP (()) (S2 rfl rfl) (by refine (Sc ?_ (S0 _)) <;> ((refine ai rfl ?_; (try dsimp only); (simp [*]; done)))) ?_ (by (exact fun _ h => h))
    (try dsimp only)
    done
  ·rintro _ hmeet; (try dsimp only at hmeet ⊢)
   refine Cd rfl (fun hc26 => ?_) (fun hc26 => ?_)
   ·(try simp only [sB] at hc26)
    refine Cs ?_
    refine Ng rfl rfl (st rfl rfl rfl .tc (by kernel_rfl) rfl ?_ (by (simp only [List.set_cons_zero, List.set_cons_succ]; rfl))) ?_
    ·decide
    intro _
    refine Nt (Ce (Xb ?_))
    exact WX.retM0 rfl (.one rfl .tc u47 rfl .nil) fun w' hS => ⟨by rw [dQ, if_neg (fun h => h h0), if_pos (fun h => hc26 h.1)]; rfl, hS.below⟩
   ·(try simp only [sB] at hc26)
    have hgo : okN k.g.1 ∧ okN k.g.2 := Decidable.not_not.1 hc26
    refine Ck (Xa (Cq (Cs ?_)))
    refine Kq rfl (lda rfl rfl .tc u33 rfl ?_) ?_
    ·kernel_rfl
    refine Kh rfl (Oc rfl rfl (fun w hS => nw (k := k) (rv := .slice a k.r.length c) hS)) ?_
    intro g28
    refine Nt (Cb ?_)
    refine WC.range (CO := KCO p k (.slice a k.r.length c) b2 b3 b4 g28) (pg := fun _ _ => True) (inv := fun _ _ => True) (after := rx) (stop := qo) (enc := fun y : Int × Bs => #[Value.int .i64 y.1, Value.string (S y.2)]) ((0 : Int)) (()) ((itL rx qo (kbs k) 0).1) ((itL rx qo (kbs k) 0).2) (trivial) rfl (by kernel_rfl) (fun _ => rfl) (by exact fun w h => h) ?_ (fun l r D w hl' hY hS => wL (k := k) (a := a) (c := c) (b1 := g28) hY hS trivial (fun _ _ => trivial) hl) ?_ ?_
    ·intro l r D f a s g x ext wr hl hi hpg hF hS
     rw [wO]
     refine ep (Fr.tm ((hF.put (d := 29) rfl _).put (d := 30) rfl _)) hS ?_
     refine WR.region (by kernel_rfl) ?_
     refine Ka rfl (Nn ?_)
     refine WX.begin hl ?_
     refine Cb ?_
     refine WR.sr (by kernel_rfl) ?_
     refine Km rfl ?_
     refine Ku rfl (Oc rfl rfl (Kv fun w hS => av (a := x.2))) ?_
     refine Yt rfl (Nt ?_)
     refine Cd rfl (fun hc33 => ?_) (fun hc33 => ?_)
     ·(try simp only [sB] at hc33)
      refine WR.sr (by kernel_rfl) ?_
      refine Ng rfl rfl (st rfl rfl rfl .tc (by kernel_rfl) rfl ?_ (by (simp only [List.set_cons_zero, List.set_cons_succ]; rfl))) ?_
      ·(simp; done)
      intro _
      refine Nt (Ce (Xf ?_))
      exact WX.rret hl fun w' hS => by
       have h1 : ¬ okN x.2 := by simpa using hc33
       have h2 : qo s x = some .ret := if_neg h1
       have h3 : rx s x = 3 := if_neg h1
       rw [h2, h3]
       exact ⟨rfl, (), fun h => (by cases h), hS⟩
     ·(try simp only [sB] at hc33)
      refine Ck (Xd ?_)
      exact WX.rnext hl fun w' hS => by
       have h1 : okN x.2 := by simpa using hc33
       have h2 : qo s x = none := if_pos h1
       have h3 : rx s x = s := if_pos h1
       rw [h2, h3]
       exact ⟨rfl, (), fun _ => trivial, hS⟩
    ·intro D1 g1 hD1 hg1 hcf
     have hv : ∀ y ∈ kbs k, okN y.2 := Decidable.byContradiction fun h => by rw [hitV, if_neg h] at hcf; cases hcf
     rw [hitV, if_pos hv]
     have hok2 : (okN k.g.1 ∧ okN k.g.2) ∧ ∀ x ∈ bsK k, okN x := ⟨hgo, (ju k okN).1 hv⟩
     refine Xd (Xa (Cq (Cb (Cs (Kq rfl (Fa (q := 0) rfl rfl u33 rfl rfl) (Kq rfl (Ld rfl rfl .tc u9) ?_))))))
     refine Ku rfl (Oc rfl rfl (Kv fun w hS => te (s := k.name) (by assumption))) ?_
     refine Yt rfl (Ka rfl (Nt ?_))
     refine Cd rfl (fun hc34 => ?_) (fun hc34 => ?_)
     ·(try simp only [sB] at hc34)
      refine Cs ?_
      refine Ng rfl rfl (st rfl rfl rfl .tc (by kernel_rfl) rfl ?_ (by (simp only [List.set_cons_zero, List.set_cons_succ]; rfl))) ?_
      ·decide
      intro _
      refine Nt (Ce (Xf (Xb ?_)))
      exact WX.retM1 hD1 rfl (.one rfl .tc u47 rfl .nil) fun w' hS => ⟨by rw [dQ, if_neg (fun h => h h0), if_neg (fun h => h hok2), if_pos (by simpa using hc34)]; rfl, hS.below⟩
     ·(try simp only [sB] at hc34)
      have hnm : iX k.name := by simpa using hc34
      refine WC.joinP (σ := Unit) [(3, _), (4, _)] (fun gq => [(39, .bool (decide (k.g.2 ≠ [] ∨ bP k.g ≠ 0)))]) (fun gq => True) (S2 rfl rfl) ?_ ?_
      ·skip
       refine Cg (Kq rfl (Fa (q := 1) rfl rfl u33 rfl rfl) (Kq rfl (Fa (q := 2) rfl rfl u26 rfl rfl) (Kq rfl (Ld rfl rfl .tc u22) ?_)))
       refine Yr rfl (Km rfl ?_)
       refine Nb 44 rfl (fun hg44 => ?_) (fun hg44 => ?_)
       ·(try simp only [sB] at hg44)
        refine Kt rfl (Kt rfl (Kt rfl (Kt rfl (Yp rfl (Ka rfl (Nn ?_))))))
        refine WX.joinP (()) (S2 rfl rfl) (by refine (Sc ?_ (S0 _)) <;> ((refine ai rfl ?_; (try dsimp only); (simp [*]; done)))) ?_ (by (exact fun _ h => h))
        (try dsimp only)
        done
       ·(try simp only [sB] at hg44)
        refine Kq rfl (Fa (q := 1) rfl rfl u33 rfl rfl) ?_
        refine Kq rfl (ldp rfl rfl .tc u26 rfl (by kernel_rfl : _ = some 2) (by rfl) (by rfl)) ?_
        refine Ku rfl (Oc rfl rfl (Kv fun w hS => g5 (g := k.g))) ?_
        refine Yj rfl (Yq rfl (Ka rfl (Nn ?_)))
        refine WX.joinP (()) (S2 rfl rfl) (by refine (Sc ?_ (S0 _)) <;> ((refine ai rfl ?_; (try dsimp only); (simp [*]; done)))) ?_ (by (exact fun _ h => h))
        (try dsimp only)
        done
      ·rintro _ hmeet; (try dsimp only at hmeet ⊢)
       refine Cd rfl (fun hc39 => ?_) (fun hc39 => ?_)
       ·(try simp only [sB] at hc39)
        refine Cs ?_
        refine Ng rfl rfl (st rfl rfl rfl .tc (by kernel_rfl) rfl ?_ (by (simp only [List.set_cons_zero, List.set_cons_succ]; rfl))) ?_
        ·decide
        intro _
        refine Nt (Ce (Xf (Xb ?_)))
        exact WX.retM1 hD1 rfl (.one rfl .tc u47 rfl .nil) fun w' hS => ⟨by rw [dQ, if_neg (fun h => h h0), if_neg (fun h => h hok2), if_neg (fun h => h hnm), if_pos hc39]; rfl, hS.below⟩
       ·(try simp only [sB] at hc39)
        have hcg : bP k.g = 0 := Decidable.byContradiction fun h => hc39 (Or.inr h)
        refine WC.joinP (σ := Unit) [(3, _), (4, _)] (fun gq => [(50, .bool (decide (k.r.length < 2 ∨ 18 < k.r.length)))]) (fun gq => True) (S2 rfl rfl) ?_ ?_
        ·skip
         refine Cg (Kq rfl (Fa (q := 5) rfl rfl u33 rfl rfl) (Kq rfl (Ld rfl rfl .tc u31) ?_))
         refine Yo rfl u31 (Yl rfl (Km rfl ?_))
         refine Nb 55 rfl (fun hg55 => ?_) (fun hg55 => ?_)
         ·(try simp only [sB] at hg55)
          refine Kt rfl (Kt rfl (Kt rfl (Kt rfl (Yp rfl (Ka rfl (Nn ?_))))))
          refine WX.joinP (()) (S2 rfl rfl) (by refine (Sc ?_ (S0 _)) <;> ((exact congrArg (fun b => some (Value.bool b)) (by symm; apply decide_eq_true; omega)))) ?_ (by (exact fun _ h => h))
          (try dsimp only)
          done
         ·(try simp only [sB] at hg55)
          refine Kq rfl (Fa (q := 5) rfl rfl u33 rfl rfl) (Kq rfl (Ld rfl rfl .tc u31) ?_)
          refine Yo rfl u31 (Yg rfl (Yq rfl (Ka rfl (Nn ?_))))
          refine WX.joinP (()) (S2 rfl rfl) (by refine (Sc ?_ (S0 _)) <;> ((refine ai rfl ?_; (try dsimp only); (exact decide_eq_decide.2 (by omega))))) ?_ (by (exact fun _ h => h))
          (try dsimp only)
          done
        ·rintro _ hmeet; (try dsimp only at hmeet ⊢)
         refine Cd rfl (fun hc50 => ?_) (fun hc50 => ?_)
         ·(try simp only [sB] at hc50)
          refine Cs ?_
          refine Ng rfl rfl (st rfl rfl rfl .tc (by kernel_rfl) rfl ?_ (by (simp only [List.set_cons_zero, List.set_cons_succ]; rfl))) ?_
          ·decide
          intro _
          refine Nt (Ce (Xf (Xb ?_)))
          exact WX.retM1 hD1 rfl (.one rfl .tc u47 rfl .nil) fun w' hS => ⟨by rw [dQ, if_neg (fun h => h h0), if_neg (fun h => h hok2), if_neg (fun h => h hnm), if_neg hc39, if_pos hc50]; rfl, hS.below⟩
         ·(try simp only [sB] at hc50)
          refine Ck (Xd (Xa (Cq (Cs ?_))))
          refine Kq rfl (lda rfl rfl .tc u33 rfl ?_) ?_
          ·kernel_rfl
          refine Kh rfl (Oc rfl rfl (fun w hS => nw (k := k) (rv := .slice a k.r.length c) hS)) ?_
          intro g62
          refine Nt (Cb ?_)
          refine WC.range2 (CO := KCO p k (.slice a k.r.length c) b2 b3 b4 g62) (pg := fun _ _ => True) (inv := fun _ _ => True) (after := ry k) (stop := qp k) (enc := fun y : Int × Bs => #[Value.int .i64 y.1, Value.string (S y.2)]) ((0 : Int)) (()) ((itL (ry k) (qp k) (kbs k) 0).1) ((itL (ry k) (qp k) (kbs k) 0).2) (trivial) rfl (by kernel_rfl) (fun _ => rfl) (by exact fun w h => aq w h) ?_ (fun l r D w hl' hY hS => wL (k := k) (a := a) (c := c) (b1 := g62) hY hS trivial (fun _ _ => trivial) hl) ?_ ?_
          ·intro l r D f a s g x ext wr hl hi hpg hF hS
           rw [wO]
           refine ep (Fr.tm ((hF.put (d := 63) rfl _).put (d := 64) rfl _)) hS ?_
           refine WR.sr (by kernel_rfl) ?_
           refine Ka rfl (Nt ?_)
           refine WR.region (by kernel_rfl) ?_
           refine Ka rfl (Nn ?_)
           refine WX.begin hl ?_
           refine Cb ?_
           refine WC.joinP (σ := Unit) [(4, _)] (fun gq => [(78, .bool (decide (¬ elJ k x)))]) (fun gq => True) (S1 rfl) ?_ ?_
           ·skip
            refine WR.region (by kernel_rfl) ?_
            refine Kq rfl (Fa (q := 1) rfl rfl u33 rfl rfl) ?_
            refine Kq rfl (ldp rfl rfl .tc u26 rfl (by kernel_rfl : _ = some 2) (by rfl) (by rfl)) ?_
            refine Km rfl ?_
            refine Ku rfl (Oc rfl rfl (Kv fun w hS => gZ (g := k.g) (x := x.2) (by assumption))) ?_
            refine Ns 68 rfl (v' := .bool (decide (elG k.g x.2))) (congrArg Value.bool (by simp [hcg])) ?_
            refine Yt rfl (Km rfl ?_)
            refine Nb 70 rfl (fun hg70 => ?_) (fun hg70 => ?_)
            ·(try simp only [sB] at hg70)
             refine Kt rfl (Kt rfl (Kt rfl (Kt rfl (Kt rfl (Kt rfl (Kt rfl (Yp rfl (Nn ?_))))))))
             refine WX.joinP (()) (S1 rfl) (by refine (Sc ?_ (S0 _)) <;> ((refine ai rfl ?_; (try dsimp only); (simp [*]; done)))) ?_ (by (exact fun _ h => h))
             (try dsimp only)
             done
            ·(try simp only [sB] at hg70)
             refine Km rfl (Yi rfl (Km rfl ?_))
             refine Nb 73 rfl (fun hg73 => ?_) (fun hg73 => ?_)
             ·(try simp only [sB] at hg73)
              refine Km rfl ?_
              refine Ku rfl (Oc rfl rfl (Kv fun w hS => fF (by (dsimp only; omega)))) ?_
              refine Ys rfl (Yp rfl (Yq rfl (Nn ?_)))
              refine WX.joinP (()) (S1 rfl) (by refine (Sc ?_ (S0 _)) <;> ((refine ai rfl ?_; (try dsimp only); (simp [*]; done)))) ?_ (by (exact fun _ h => h))
              (try dsimp only)
              done
             ·(try simp only [sB] at hg73)
              refine Kt rfl (Kt rfl (Kt rfl (Yq rfl (Yq rfl (Nn ?_)))))
              refine WX.joinP (()) (S1 rfl) (by refine (Sc ?_ (S0 _)) <;> ((refine ai rfl ?_; (try dsimp only); (simp [*]; done)))) ?_ (by (exact fun _ h => h))
              (try dsimp only)
              done
           ·rintro _ hmeet; (try dsimp only at hmeet ⊢)
            refine Cd rfl (fun hc78 => ?_) (fun hc78 => ?_)
            ·(try simp only [sB] at hc78)
             refine WR.sr (by kernel_rfl) ?_
             refine Ng rfl rfl (st rfl rfl rfl .tc (by kernel_rfl) rfl ?_ (by (simp only [List.set_cons_zero, List.set_cons_succ]; rfl))) ?_
             ·(simp; done)
             intro _
             refine Nt (Ce (Xf ?_))
             exact WX.rret hl fun w' hS => by
              have h1 : ¬ elJ k x := hc78
              have h2 : qp k s x = some .ret := if_neg h1
              have h3 : ry k s x = 13 := if_neg h1
              rw [h2, h3]
              exact ⟨rfl, (), fun h => (by cases h), hS⟩
            ·(try simp only [sB] at hc78)
             refine Ck (Xd ?_)
             exact WX.rnext hl fun w' hS => by
              have h1 : elJ k x := Decidable.not_not.1 hc78
              have h2 : qp k s x = none := if_pos h1
              have h3 : ry k s x = s := if_pos h1
              rw [h2, h3]
              exact ⟨rfl, (), fun _ => trivial, hS⟩
          ·intro D2 g2 hD2 hne2 hg2 hcf
           have hv2 : ∀ y ∈ kbs k, elJ k y := Decidable.byContradiction fun h => by rw [hitE, if_neg h] at hcf; cases hcf
           rw [hitE, if_pos hv2]
           refine Xd (Xa (Cs ?_))
           refine Ng rfl rfl (st rfl rfl rfl .tc (by kernel_rfl) rfl ?_ (by (simp only [List.set_cons_zero, List.set_cons_succ]; rfl))) ?_
           ·decide
           intro _
           refine Nt (Ce ?_)
           exact WX.retM2 hD1 hD2 (hne2 _ (by simp)) rfl (.one rfl .tc u47 rfl .nil) fun w' hS => ⟨by rw [dQ, if_neg (fun h => h h0), if_neg (fun h => h hok2), if_neg (fun h => h hnm), if_neg hc39, if_neg hc50, if_neg (fun h => h ((pS k).1 hv2))]; rfl, hS.below⟩
          ·intro D2 g2 c hD2 hne2 hcf
           obtain rfl : c = .ret := by (rw [hitE] at hcf; split at hcf <;> (cases hcf <;> rfl))
           refine Ce ?_
           have hn : ¬ ∀ y ∈ kbs k, elJ k y := fun h => by rw [hitE, if_pos h] at hcf; cases hcf
           rw [hitE, if_neg hn]
           refine Xf (Xb ?_)
           exact WX.retM2 hD1 hD2 (hne2 _ (by simp)) rfl (.one rfl .tc u47 rfl .nil) fun w' hS => ⟨by rw [dQ, if_neg (fun h => h h0), if_neg (fun h => h hok2), if_neg (fun h => h hnm), if_neg hc39, if_neg hc50, if_pos (fun h => hn ((pS k).2 h))]; rfl, hS.below⟩
    ·intro D1 g1 c hD1 hcf
     obtain rfl : c = .ret := by (rw [hitV] at hcf; split at hcf <;> (cases hcf <;> rfl))
     refine Ce ?_
     have hn : ¬ ∀ y ∈ kbs k, okN y.2 := fun h => by rw [hitV, if_pos h] at hcf; cases hcf
     rw [hitV, if_neg hn]
     refine Xf (Xb ?_)
     exact WX.retM1 hD1 rfl (.one rfl .tc u47 rfl .nil) fun w' hS => ⟨by rw [dQ, if_neg (fun h => h h0), if_pos (fun h => hn ((ju k okN).2 h.2))]; rfl, hS.below⟩
abbrev Tm := Bs × Int × Zs
abbrev Qn := Int × Bs × List Tm
abbrev Sm := List Gp × List Bs × List Qn
abbrev tmC (t : Tm) : List Value := [.string (S t.1), .int .i64 t.2.1, .bool t.2.2.1, .string (S t.2.2.2)]
abbrev tms (l : List Tm) : List Value := l.flatMap tmC
abbrev QA := Qn × Option Addr × Nat
abbrev qaC (q : QA) : List Value := [.int .i64 q.1.1, .string (S q.1.2.1), .slice q.2.1 q.1.2.2.length q.2.2]
abbrev qas (l : List QA) : List Value := l.flatMap qaC
abbrev gpC (g : Gp) : List Value := [.string (S g.1), .string (S g.2)]
abbrev gps (l : List Gp) : List Value := l.flatMap gpC
abbrev vrC (v : Bs) : List Value := [.string (S v)]
abbrev vrs (l : List Bs) : List Value := l.flatMap vrC
abbrev qaF (q : QA) : Fact := Fact.sl q.2.1 (tms q.1.2.2)
structure SA where
 gs : List Gp
 vs : List Bs
 es : List QA
 ga : Option Addr
 gc : Nat
 va : Option Addr
 vc : Nat
 ea : Option Addr
 ec : Nat
abbrev SA.core (s : SA) : Sm := (s.gs, s.vs, s.es.map (·.1))
abbrev saV (s : SA) : Value := .agg #[.slice s.ga s.gs.length s.gc, .slice s.va s.vs.length s.vc, .slice s.ea s.es.length s.ec]
abbrev saF (s : SA) : List Fact := Fact.sl s.ga (gps s.gs) :: Fact.sl s.va (vrs s.vs) :: Fact.sl s.ea (qas s.es) :: s.es.map qaF
def saL (s : SA) : Prop := s.gs.length ≤ 100000 ∧ s.vs.length ≤ 100000 ∧ s.es.length ≤ 100000 ∧ (∀ q ∈ s.es, q.1.2.2.length ≤ 100000) ∧ ∀ g ∈ s.gs, g.1.length ≤ 8
def okT (nv : Nat) (t : Tm) : Prop := (0 ≤ t.2.1 ∧ t.2.1 < nv) ∧ okN t.1 ∧ okZ t.2.2
instance (nv : Nat) (t : Tm) : Decidable (okT nv t) := inferInstanceAs (Decidable (_ ∧ _))
def yx (ng : Nat) (q : Qn) : Prop := (0 ≤ q.1 ∧ q.1 < ng) ∧ okN q.2.1
instance (ng : Nat) (q : Qn) : Decidable (yx ng q) := inferInstanceAs (Decidable (_ ∧ _))
def okQ (ng nv : Nat) (q : Qn) : Prop := yx ng q ∧ ∀ t ∈ q.2.2, okT nv t
instance (ng nv : Nat) (q : Qn) : Decidable (okQ ng nv q) := inferInstanceAs (Decidable (_ ∧ _))
def okG (g : Gp) : Prop := okN g.1 ∧ okN g.2
instance (g : Gp) : Decidable (okG g) := inferInstanceAs (Decidable (_ ∧ _))
def cr (s : Sm) : Prop := (∀ g ∈ s.1, okG g) ∧ (∀ v ∈ s.2.1, okN v) ∧ ∀ q ∈ s.2.2, okQ s.1.length s.2.1.length q
instance (s : Sm) : Decidable (cr s) := inferInstanceAs (Decidable (_ ∧ _))
def fu (s : Sm) : Prop := (s.1.length ≤ 8 ∧ s.2.1.length ≤ 64 ∧ s.2.2.length ≤ 64) ∧ ∀ q ∈ s.2.2, q.2.2.length ≤ 64
instance (s : Sm) : Decidable (fu s) := inferInstanceAs (Decidable (_ ∧ _))
def elQ (gs : List Gp) (q : Qn) : Prop := elG (gs.getD q.1.toNat default) q.2.1 ∧ ∀ t ∈ q.2.2, elG (gs.getD q.1.toNat default) t.1
instance (gs : List Gp) (q : Qn) : Decidable (elQ gs q) := inferInstanceAs (Decidable (_ ∧ _))
def elS (s : Sm) : Prop := (∀ g ∈ s.1, bP g = 0) ∧ ∀ q ∈ s.2.2, elQ s.1 q
instance (s : Sm) : Decidable (elS s) := inferInstanceAs (Decidable (_ ∧ _))
def fh (gs : List Gp) : Bs := ((gs.find? fun g => decide (g.2 ≠ [])).map (·.2)).getD []
def kdQ (gs : List Gp) (vs : List Bs) (q : Qn) : Prop := (gs.getD q.1.toNat default).2 ≠ [] ∨ ∀ t ∈ q.2.2, vs.getD t.2.1.toNat default ≠ []
instance (gs : List Gp) (vs : List Bs) (q : Qn) : Decidable (kdQ gs vs q) := inferInstanceAs (Decidable (_ ∨ _))
def kdS (s : Sm) : Prop := (∀ v ∈ s.2.1, v ≠ []) ∨ (fh s.1 ≠ [] ∧ ∀ g ∈ s.1, ¬ (g.2 ≠ [] ∧ g.2 ≠ fh s.1)) ∧ ∀ q ∈ s.2.2, kdQ s.1 s.2.1 q
instance (s : Sm) : Decidable (kdS s) := inferInstanceAs (Decidable (_ ∨ _))
def mI (s : Sm) : Int := if ¬ cr s then 3 else if ¬ fu s then 6 else if ¬ elS s then 13 else if ¬ kdS s then 10 else 0
def je (s : Sm) (w : List Zs) : Int := if ¬ cr s then 3 else if ¬ (∀ x ∈ w, okZ x) then 3 else if mI s ≠ 0 then mI s else if w.length ≠ s.2.1.length then 6 else 0
def gw : List Int → Int
 | [] => 0
 | e :: l => if e ≠ 0 then e else gw l
abbrev exT (w : List Zs) (t : Tm) : Zs × Int := dO t.2.2 (w.getD t.2.1.toNat default)
def exQ (w : List Zs) (q : Qn) : List Zs × Int := if gw (q.2.2.map fun t => (exT w t).2) ≠ 0 then ([], gw (q.2.2.map fun t => (exT w t).2)) else (q.2.2.map fun t => (exT w t).1, 0)
def imQ (gs : List Gp) (w : List Zs) (q : Qn) : Bs × Int := if (exQ w q).2 ≠ 0 then ([], (exQ w q).2) else dn (gs.getD q.1.toNat default) (q.2.2.map (·.1)) (exQ w q).1
def imS (s : Sm) (w : List Zs) : List Bs × Int := if gw (s.2.2.map fun q => (imQ s.1 w q).2) ≠ 0 then ([], gw (s.2.2.map fun q => (imQ s.1 w q).2)) else (s.2.2.map fun q => (imQ s.1 w q).1, 0)
def inV (q v : Bs) (x : Zs) : Prop := if v = [] then x.1 = false ∧ val x.2 < val q else val x.2 < val v
instance (q v : Bs) (x : Zs) : Decidable (inV q v x) := by unfold inV; infer_instance
def inR (s : Sm) (w : List Zs) : Prop := ∀ i, i < s.2.1.length → inV (fh s.1) (s.2.1.getD i default) (w.getD i default)
instance (s : Sm) (w : List Zs) : Decidable (inR s w) := inferInstanceAs (Decidable (∀ i, i < s.2.1.length → _))
def kj (s : Sm) (w : List Zs) : Bool × Int :=
 if je s w ≠ 0 then (false, je s w) else if ¬ inR s w then (false, 0) else if (imS s w).2 ≠ 0 then (false, (imS s w).2) else (decide ((imS s w).1 = s.2.2.map (·.2.1)), 0)
theorem q6 {l : List Int} : gw l = 0 ↔ ∀ e ∈ l, e = 0 := by
 induction l with
 | nil => simp [gw]
 | cons e l ih =>
  rw [gw]; split
  ·rename_i h; simp [h]
  ·rename_i h; rw [ih]; simp; intro _; exact Decidable.not_not.1 h
theorem tK {a b : List Int} (h : ∀ e ∈ a, e = 0) : gw (a ++ b) = gw b := by
 induction a with
 | nil => rfl
 | cons e l ih => rw [List.cons_append, gw, if_neg (by simp [h e]), ih fun x hx => h x (List.mem_cons_of_mem _ hx)]
theorem aS {α : Type} [Inhabited α] {l : List α} {i : Nat} (h : i < l.length) : l.take (i + 1) = l.take i ++ [l.getD i default] := by
 rw [List.take_add_one, List.getElem?_eq_getElem h, List.getD_eq_getElem?_getD, List.getElem?_eq_getElem h]; rfl
theorem mV {α : Type} [Inhabited α] {l : List α} {i : Nat} (h : i < l.length) : l = l.take i ++ l.getD i default :: l.drop (i + 1) := by
 rw [← List.singleton_append, ← List.append_assoc, ← aS h, List.take_append_drop]
theorem pR {α : Type} [Inhabited α] {l : List α} {f : α → Int} {i : Nat} (h : i < l.length) (h0 : ∀ x ∈ l.take i, f x = 0) (h1 : f (l.getD i default) ≠ 0) : gw (l.map f) = f (l.getD i default) := by
 conv => lhs; rw [mV h]
 rw [List.map_append, tK (by intro e he; obtain ⟨x, hx, rfl⟩ := List.mem_map.1 he; exact h0 x hx), List.map_cons, gw, if_pos h1]
theorem nD {α : Type} {l : List α} {f : α → Int} (h0 : ∀ x ∈ l, f x = 0) : gw (l.map f) = 0 := q6.2 (by simpa using h0)
theorem eF {l : List QA} {p : Qn → Prop} : (∀ q ∈ l.map (·.1), p q) ↔ ∀ q ∈ l, p q.1 := by simp
theorem vz {gs : List Gp} {i : Nat} (h : i < gs.length) (h0 : ∀ g ∈ gs.take i, g.2 = []) (h1 : (gs.getD i default).2 ≠ []) : fh gs = (gs.getD i default).2 := by
 have e : gs.find? (fun g => decide (g.2 ≠ [])) = some (gs.getD i default) := by
  conv => lhs; rw [mV h]
  rw [List.find?_append, List.find?_eq_none.2 (by simpa using h0), List.find?_cons_of_pos (by simpa using h1)]; rfl
 rw [fh, e]; rfl
theorem sT {gs : List Gp} (h0 : ∀ g ∈ gs, g.2 = []) : fh gs = [] := by
 rw [fh, List.find?_eq_none.2 (by simpa using h0)]; rfl
theorem sS {gs : List Gp} (h : ∀ g ∈ gs, okG g) : okN (fh gs) := by
 rw [fh]; cases e : gs.find? (fun g => decide (g.2 ≠ [])) with
 | none => exact pw
 | some g => exact (h g (List.mem_of_find?_eq_some e)).2
abbrev Or (m q x : Nat) : Prop := x ^ q % m = 1 % m
abbrev trm (b : Bs) (v : Int) : Tm := (b, v, ofZ 1)
theorem pr : okZ (ofZ 1) := by decide +kernel
theorem pE {x y : Zs} (hx : okZ x) (hy : okZ y) (h : (dO x y).2 = 0) : (dO x y).1 = ofZ (zv x * zv y) ∧ (zv x * zv y).natAbs < Big := by
 obtain ⟨a, ha, rfl⟩ := js.1 hx
 obtain ⟨b, hb, rfl⟩ := js.1 hy
 rw [rE, rE]
 by_cases hab : (a * b).natAbs < Big
 ·rw [pF ha hb hab]; exact ⟨rfl, hab⟩
 ·rw [dO, if_pos ⟨hx, hy⟩] at h
  simp only [cJ] at h
  rw [mj ha hb, if_neg (by rw [← Int.natAbs_mul]; exact hab)] at h; cases h
theorem qG {g : Gp} {a b : Bs} {x y : Zs} (hg : bP g = 0) (ha : elG g a) (hb : elG g b) (hx : okZ x) (hy : okZ y) :
  dn g [a, b] [x, y] = (ae (nl (val g.1) (val a) (zv x) * nl (val g.1) (val b) (zv y) % val g.1), 0) := by
 have h0 : fN g [a, b] [x, y] (decide ([a, b].length = [x, y].length)) = 0 := by
  have e1 : ∀ z ∈ [a, b], okN z := by intro z hz; simp at hz; rcases hz with rfl | rfl; exact ha.1; exact hb.1
  have e2 : ∀ z ∈ [x, y], okZ z := by intro z hz; simp at hz; rcases hz with rfl | rfl <;> assumption
  have e3 : ∀ z ∈ [a, b], elG g z := by intro z hz; simp at hz; rcases hz with rfl | rfl <;> assumption
  rw [fN, if_neg (fun h => h e1), if_neg (fun h => h e2), if_neg (fun h => h hg), if_neg (by simp), if_neg (fun h => h e3)]
 rw [dn, if_pos h0]; simp [aJ]
def saN : SA := ⟨[], [], [], none, 0, none, 0, none, 0⟩
abbrev SME (s : SA) (n : Int) : Value := .tuple #[saV s, .int .i64 n]
section
variable {ok : Nat → Prop} {w0 w : World} {own : List Ent} {fs : List Fact}
theorem St.osk (h : St ok w0 own fs w) {b : Nat} {xs : List Value} {T : TypeId} [hf : HasE own b xs T] : (Fact.sl (some ⟨b, 0, none⟩) xs).holds ok w := by
 obtain ⟨k, hk⟩ := hf.h.get
 have := h.own_ _ (List.mem_of_getElem? hk)
 exact .inr ⟨b, 0, xs.toArray, T, (0, 0), rfl, h.okn b this.1, this.2, fun i hi => by simp⟩
theorem gC {r : Sm × Int} {n : Int} (hr : r = (([], [], []), n)) (hS : St (fun b => ok b ∨ w0.heap.size ≤ b) w0 own fs w) :
  ∃ gx : SA, Ending.returned (tup [.agg #[.slice none 0 0, .slice none 0 0, .slice none 0 0], .int .i64 n]) = Ending.returned (SME gx r.2) ∧ (gx.core = r.1) ∧ Below w0.heap.size w0 w ∧ ∀ x ∈ (saF gx : List Fact), x.holds (fun b => ok b ∨ w0.heap.size ≤ b) w := by
 subst hr
 exact ⟨saN, rfl, rfl, hS.below, Fc bt (Fc bt (Fc bt Fn))⟩
end
end Go.Proofs.YtkdlonihbjhhoaaGreatDoor
