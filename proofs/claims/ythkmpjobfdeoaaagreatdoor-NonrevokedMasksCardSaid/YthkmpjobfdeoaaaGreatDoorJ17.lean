/-
  Parts of the walk: Pgr Par Pac Isk Ikc.
-/
import Derived.Test.YthkmpjobfdeoaaaGreatDoorJ16
namespace Go.Proofs.YthkmpjobfdeoaaaGreatDoor
open Go.RowKit
set_option linter.unusedSimpArgs false
set_option linter.unusedVariables false
set_option maxHeartbeats 600000
set_option maxRecDepth 20000
theorem isP_two {n : Nat} (h : isP n = true) : 2 ≤ n := Nat.not_lt.1 fun h2 => by rw [isP, if_pos h2] at h; cases h
theorem ne_of_pos {x : Bs} (h : 0 < val x) : x ≠ [] := fun h0 => by rw [h0] at h; exact absurd h (Nat.lt_irrefl _)
theorem pggen_c {g : Gp} {x : Bs} {w : World} (hm8 : g.1.length ≤ 8) :
  Cw 118 #[gV g, .string (S x)] w (.bool (decide (genP g x))) := by
 refine En [] [(0, gV g), (1, .string (S x))] Tryz.func118 rfl Tryz.ntmps118 rfl (Ac rfl (Ac rfl (An _))) Fn ?_
 refine Cs ?_
 refine Kh rfl (Oy rfl rfl) ?_
 intro b2
 refine Ka rfl (Nt (Cs ?_))
 refine Kq rfl (lda rfl rfl .tc u26 rfl ?_) ?_
 ·kernel_rfl
 refine Km rfl ?_
 refine Ku rfl (Oc rfl rfl (Kv fun w hS => phas_c (g := g) (x := x) (by assumption))) ?_
 refine Km rfl ?_
 refine Nb 8 rfl (fun hg8 => ?_) (fun hg8 => ?_)
 ·(try simp only [sB] at hg8)
  refine Km rfl (Kq rfl (rd_sne rfl rfl rfl) (Kq rfl (Rp rfl rfl rfl) (Ka rfl (Nt (Ce ?_)))))
  exact R1 rfl rfl (by simp [*, tup, genP, one_canon])
 ·(try simp only [sB] at hg8)
  refine Kt rfl (Kt rfl (Kq rfl (Rq rfl rfl rfl) (Ka rfl (Nt (Ce ?_)))))
  exact R1 rfl rfl (by simp [*, tup, genP, one_canon])
theorem pgcof_c {g : Gp} {w : World} (h1 : okN g.1) (h2 : okN g.2) (hp1 : 1 ≤ val g.1) (hp2 : 0 < val g.2) :
  Cw 164 #[gV g] w (.tuple #[.string (S (canon ((val g.1 - 1) / val g.2))), .bool (decide ((val g.1 - 1) % val g.2 = 0))]) := by
 have hb1 := okN_val h1
 have hq := ne_of_pos hp2
 have hs1 : subN g.1 [1] = (canon (val g.1 - 1), 0) := by rw [← one_canon, subN, if_pos ⟨h1, okN_can (by omega)⟩, val_canon, if_neg (by omega)]
 have hdv : divN (canon (val g.1 - 1)) g.2 = ((canon ((val g.1 - 1) / val g.2), canon ((val g.1 - 1) % val g.2)), 0) := by rw [divN_ok (okN_can (by omega)) h2 hq, val_canon]
 refine En [] [(0, gV g)] Tryz.func164 rfl Tryz.ntmps164 rfl (Ac rfl (An _)) Fn ?_
 refine Cs ?_
 refine Kh rfl (Oy rfl rfl) ?_
 intro b1
 refine Ka rfl (Ka rfl (Nt (Cs (Kq rfl (Fa (q := 0) rfl rfl u26 rfl rfl) (Kq rfl (Ld rfl rfl .tc u22) ?_)))))
 refine Ku rfl (Oc rfl rfl (Kv fun w hS => (by have := sub_c (w := w) (a := g.1) (b := [1]); rw [hs1] at this; exact this))) ?_
 refine Km rfl (Kq rfl (Re rfl rfl rfl) (Kq rfl (Re rfl rfl rfl) (Ka rfl (Ka rfl (Nt (Cq (Cs (Km rfl (Kq rfl (rd_neq rfl rfl rfl) (Km rfl ?_))))))))))
 refine Nb 17 rfl (fun hg17 => ?_) (fun hg17 => ?_)
 ·(try simp only [sB] at hg17)
  refine Kt rfl (Kt rfl (Kt rfl (Kq rfl (Rp rfl rfl rfl) (Nt ?_))))
  refine Cd rfl (fun _ => ?_) (fun h => by cases h)
  refine Cs (Ka rfl (Ka rfl (Nt (Ce (Xb ?_)))))
  exact R2 rfl rfl rfl (by (exact absurd trivial hg17))
 ·(try simp only [sB] at hg17)
  refine Kq rfl (Fa (q := 1) rfl rfl u26 rfl rfl) (Kq rfl (Ld rfl rfl .tc u22) ?_)
  refine Kq rfl (rd_seq rfl rfl rfl) (Kq rfl (Rq rfl rfl rfl) (Nt ?_))
  refine Cd rfl (fun hc21 => ?_) (fun hc21 => ?_)
  ·(try simp only [sB] at hc21)
   have hbad : False := hq (by simpa using hc21)
   refine Cs (Ka rfl (Ka rfl (Nt (Ce (Xb ?_)))))
   exact R2 rfl rfl rfl (by (exact hbad.elim))
  ·(try simp only [sB] at hc21)
   refine Ck (Xa (Cs (Km rfl (Kq rfl (Fa (q := 1) rfl rfl u26 rfl rfl) (Kq rfl (Ld rfl rfl .tc u22) ?_)))))
   refine Ku rfl (Oc rfl rfl (Kv fun w hS => (by have := divmod_c (w := w) (a := canon (val g.1 - 1)) (b := g.2); rw [hdv] at this; exact this))) ?_
   refine Km rfl (Kq rfl (Re rfl rfl rfl) (Kq rfl (Re rfl rfl rfl) (Kq rfl (Re rfl rfl rfl) (Ka rfl (Ka rfl (Ka rfl (Nt (Cs (Km rfl (Km rfl (Kq rfl (rd_seq rfl rfl rfl) ?_)))))))))))
   refine Ns 32 rfl (v' := .bool (decide ((val g.1 - 1) % val g.2 = 0))) (congrArg Value.bool (by simp [canon_nil])) ?_
   refine Ka rfl (Ka rfl (Nt (Ce ?_)))
   exact R2 rfl rfl rfl (by rfl)
theorem pgcheck_c {g : Gp} {w : World} (hD : TabD w) :
  Cw 117 #[gV g] w (.int .i64 (chkP9 g)) := by
 refine En [] [(0, gV g)] Tryz.func117 rfl Tryz.ntmps117 rfl (Ac rfl (An _)) Fn ?_
 refine Cs ?_
 refine Kh rfl (Oy rfl rfl) ?_
 intro b1
 refine Ka rfl (Nt (Cq (Cs ?_)))
 refine Kq rfl (lda rfl rfl .tc u26 rfl ?_) ?_
 ·kernel_rfl
 refine Ku rfl (Oc rfl rfl (Kv fun w hS => pform_c (g := g))) ?_
 refine Kq rfl (Rt rfl rfl) (Nt ?_)
 refine Cd rfl (fun hc11 => ?_) (fun hc11 => ?_)
 ·(try simp only [sB] at hc11)
  have hr : chkP9 g = 3 := by rw [chkP9, if_pos (by simpa using hc11)]
  refine Cs (Ka rfl (Nt (Ce (Xb ?_))))
  exact R1 rfl rfl (by rw [hr]; rfl)
 ·(try simp only [sB] at hc11)
  have hok : okN g.1 ∧ okN g.2 := by simpa using hc11
  refine Ck (Xa (Cq (Cs (Kq rfl (Fa (q := 0) rfl rfl u26 rfl rfl) (Kq rfl (Ld rfl rfl .tc u22) ?_)))))
  refine Kq rfl (rd_slen rfl rfl u22) (Kq rfl (rd_gtr rfl rfl rfl) (Nt ?_))
  refine Cd rfl (fun hc15 => ?_) (fun hc15 => ?_)
  ·(try simp only [sB] at hc15)
   have hr : chkP9 g = 5 := by rw [chkP9, if_neg (fun h => h hok), if_pos (by omega)]
   refine Cs (Ka rfl (Nt (Ce (Xb ?_))))
   exact R1 rfl rfl (by rw [hr]; rfl)
  ·(try simp only [sB] at hc15)
   have h8 : g.1.length ≤ 8 := by omega
   have hp1 := prime_ok hok.1 h8
   refine Ck (Xa (Cq (Cs (Kq rfl (Fa (q := 0) rfl rfl u26 rfl rfl) (Kq rfl (Ld rfl rfl .tc u22) ?_)))))
   refine Ku rfl (Oc rfl rfl (Kv fun w hS => (by have := prime_c (w := w) (a := g.1) (tabd_st hD hS); rw [hp1] at this; exact this))) ?_
   refine Km rfl (Kq rfl (Re rfl rfl rfl) (Kq rfl (Re rfl rfl rfl) (Ka rfl (Ka rfl (Nt (Cs (Km rfl (Kq rfl (Rt rfl rfl) (Nt ?_)))))))))
   refine Cd rfl (fun hc23 => ?_) (fun hc23 => ?_)
   ·(try simp only [sB] at hc23)
    have hpf : isP (val g.1) = false := by simpa using hc23
    have hr : chkP9 g = 12 := by rw [chkP9, if_neg (fun h => h hok), if_neg (by omega), if_pos hpf]
    refine Cs (Ka rfl (Nt (Ce (Xb ?_))))
    exact R1 rfl rfl (by rw [hr]; rfl)
   ·(try simp only [sB] at hc23)
    have hpt : isP (val g.1) = true := by simpa using hc23
    have hpn : ¬ isP (val g.1) = false := by rw [hpt]; decide
    refine Ck (Xa (Cq (Cs (Kq rfl (Fa (q := 1) rfl rfl u26 rfl rfl) (Kq rfl (Ld rfl rfl .tc u22) ?_)))))
    refine Kq rfl (rd_slen rfl rfl u22) (Kq rfl (rd_gtr rfl rfl rfl) (Nt ?_))
    refine Cd rfl (fun hc27 => ?_) (fun hc27 => ?_)
    ·(try simp only [sB] at hc27)
     have hr : chkP9 g = 13 := by rw [chkP9, if_neg (fun h => h hok), if_neg (by omega), if_neg hpn, if_pos (by omega)]
     refine Cs (Ka rfl (Nt (Ce (Xb ?_))))
     exact R1 rfl rfl (by rw [hr]; rfl)
    ·(try simp only [sB] at hc27)
     have h82 : g.2.length ≤ 8 := by omega
     have hp2 := prime_ok hok.2 h82
     refine Ck (Xa (Cq (Cs (Kq rfl (Fa (q := 1) rfl rfl u26 rfl rfl) (Kq rfl (Ld rfl rfl .tc u22) ?_)))))
     refine Ku rfl (Oc rfl rfl (Kv fun w hS => (by have := prime_c (w := w) (a := g.2) (tabd_st hD hS); rw [hp2] at this; exact this))) ?_
     refine Km rfl (Kq rfl (Re rfl rfl rfl) (Kq rfl (Re rfl rfl rfl) (Ka rfl (Ka rfl (Nt (Cs (Km rfl (Kq rfl (Rt rfl rfl) (Nt ?_)))))))))
     refine Cd rfl (fun hc35 => ?_) (fun hc35 => ?_)
     ·(try simp only [sB] at hc35)
      have hqf : isP (val g.2) = false := by simpa using hc35
      have hr : chkP9 g = 12 := by rw [chkP9, if_neg (fun h => h hok), if_neg (by omega), if_neg hpn, if_neg (by omega), if_pos hqf]
      refine Cs (Ka rfl (Nt (Ce (Xb ?_))))
      exact R1 rfl rfl (by rw [hr]; rfl)
     ·(try simp only [sB] at hc35)
      have hqt : isP (val g.2) = true := by simpa using hc35
      have hqn : ¬ isP (val g.2) = false := by rw [hqt]; decide
      have hg1 := isP_two hpt; have hg2 := isP_two hqt
      refine Ck (Xa (Cq (Cs ?_)))
      refine Kq rfl (lda rfl rfl .tc u26 rfl ?_) ?_
      ·kernel_rfl
      refine Ku rfl (Oc rfl rfl (Kv fun w hS => pgcof_c (g := g) (by exact hok.1) (by exact hok.2) (by omega) (by omega))) ?_
      refine Km rfl (Kq rfl (Re rfl rfl rfl) (Kq rfl (Re rfl rfl rfl) (Ka rfl (Ka rfl (Nt (Cs (Km rfl (Kq rfl (Rt rfl rfl) (Nt ?_)))))))))
      refine Cd rfl (fun hc42 => ?_) (fun hc42 => ?_)
      ·(try simp only [sB] at hc42)
       have hr : chkP9 g = 13 := by rw [chkP9, if_neg (fun h => h hok), if_neg (by omega), if_neg hpn, if_neg (by omega), if_neg hqn, if_pos (by simpa using hc42)]
       refine Cs (Ka rfl (Nt (Ce (Xb ?_))))
       exact R1 rfl rfl (by rw [hr]; rfl)
      ·(try simp only [sB] at hc42)
       have hr : chkP9 g = 0 := by rw [chkP9, if_neg (fun h => h hok), if_neg (by omega), if_neg hpn, if_neg (by omega), if_neg hqn, if_neg (by simpa using hc42)]
       refine Ck (Xa (Cs (Ka rfl (Nt (Ce ?_)))))
       exact R1 rfl rfl (by rw [hr]; rfl)
theorem rggen_c {g : Gp} {x : Bs} {w : World} (hm8 : g.1.length ≤ 8) :
  Cw 126 #[gV g, .string (S x)] w (.bool (decide (genP g x))) := by
 refine En [] [(0, gV g), (1, .string (S x))] Tryz.func126 rfl Tryz.ntmps126 rfl (Ac rfl (Ac rfl (An _))) Fn ?_
 refine Cs ?_
 refine Kh rfl (Oy rfl rfl) ?_
 intro b2
 refine Ka rfl (Nt (Cs ?_))
 refine Kq rfl (lda rfl rfl .tc u26 rfl ?_) ?_
 ·kernel_rfl
 refine Km rfl ?_
 refine Ku rfl (Oc rfl rfl (Kv fun w hS => rphas_c (g := g) (x := x) (by assumption))) ?_
 refine Km rfl ?_
 refine Nb 8 rfl (fun hg8 => ?_) (fun hg8 => ?_)
 ·(try simp only [sB] at hg8)
  refine Km rfl (Kq rfl (rd_sne rfl rfl rfl) (Kq rfl (Rp rfl rfl rfl) (Ka rfl (Nt (Ce ?_)))))
  exact R1 rfl rfl (by simp [*, tup, genP, one_canon])
 ·(try simp only [sB] at hg8)
  refine Kt rfl (Kt rfl (Kq rfl (Rq rfl rfl rfl) (Ka rfl (Nt (Ce ?_)))))
  exact R1 rfl rfl (by simp [*, tup, genP, one_canon])
theorem rgdiv_c {g : Gp} {w : World} (h1 : okN g.1) (h2 : okN g.2) (hp1 : 1 ≤ val g.1) (hp2 : 0 < val g.2) :
  Cw 170 #[gV g] w (.bool (decide ((val g.1 - 1) % val g.2 = 0))) := by
 have hb1 := okN_val h1
 have hl1 := h1.1
 have hq := ne_of_pos hp2
 have hn1 := ne_of_pos (show 0 < val g.1 by omega)
 refine En [] [(0, gV g)] Tryz.func170 rfl Tryz.ntmps170 rfl (Ac rfl (An _)) Fn ?_
 refine Cs ?_
 refine Kh rfl (Oy rfl rfl) ?_
 intro b1
 refine Ka rfl (Nt (Cq (Cs (Kq rfl (Fa (q := 0) rfl rfl u26 rfl rfl) (Kq rfl (Ld rfl rfl .tc u22) ?_)))))
 refine Kq rfl (rd_seq rfl rfl rfl) (Nt ?_)
 refine Cd rfl (fun hc7 => ?_) (fun hc7 => ?_)
 ·(try simp only [sB] at hc7)
  have hbad : False := hn1 (by simpa using hc7)
  refine Cs (Ka rfl (Nt (Ce (Xb ?_))))
  exact R1 rfl rfl (by exact hbad.elim)
 ·(try simp only [sB] at hc7)
  refine Ck (Xa (Cq ?_))
  refine Cf [0, 1, 2, 3, 4, 5, 6, 7, 8, 9, 10] [] [0, 0, 1, 0, 0, 1, 0, 0, 0, 0, 0] (by kernel_rfl) (by kernel_rfl) rfl ?_
  refine Kj rfl (Fa (q := 0) rfl rfl u26 rfl rfl) (Kj rfl (Ld rfl rfl .tc u22) ?_)
  refine Jv rfl rfl rfl rfl rfl (fun ext => Oc rfl rfl (Kv fun w hS => minus_c (a := g.1) (b := [1]) (by exact hp1) (by omega) (by decide))) ?_
  refine WJ.set 11 rfl (v' := .string (S (canon (val g.1 - 1)))) (congrArg (fun l => Value.string (S l)) (by rfl)) ?_
  refine Kj rfl (Fa (q := 1) rfl rfl u26 rfl rfl) (Kj rfl (Ld rfl rfl .tc u22) ?_)
  refine Jv rfl rfl rfl rfl rfl (fun ext => Oc rfl rfl (Kv fun w hS => rover_c (a := canon (val g.1 - 1)) (b := g.2) (by exact okN_can (by omega)) (by exact h2) (by exact hq))) ?_
  refine Kj rfl (Rm rfl rfl) (Kj rfl (Re rfl rfl rfl) (Kj rfl (Re rfl rfl rfl) (Kj rfl (Ra rfl rfl) (Kj rfl (Ra rfl rfl) ?_))))
  refine WJ.nil ?_
  refine Nt (Cs (Km rfl (Kq rfl (rd_seq rfl rfl rfl) ?_)))
  refine Ns 18 rfl (v' := .bool (decide ((val g.1 - 1) % val g.2 = 0))) (congrArg Value.bool (by simp [canon_nil, val_canon])) ?_
  refine Ka rfl (Nt (Ce ?_))
  exact R1 rfl rfl (by rfl)
theorem rgchk_c {g : Gp} {w : World} :
  Cw 125 #[gV g] w (.int .i64 (chkP9 g)) := by
 refine En [] [(0, gV g)] Tryz.func125 rfl Tryz.ntmps125 rfl (Ac rfl (An _)) Fn ?_
 refine Cs ?_
 refine Kh rfl (Oy rfl rfl) ?_
 intro b1
 refine Ka rfl (Nt (Cq (Cs ?_)))
 refine Kq rfl (lda rfl rfl .tc u26 rfl ?_) ?_
 ·kernel_rfl
 refine Ku rfl (Oc rfl rfl (Kv fun w hS => rpform_c (g := g))) ?_
 refine Kq rfl (Rt rfl rfl) (Nt ?_)
 refine Cd rfl (fun hc9 => ?_) (fun hc9 => ?_)
 ·(try simp only [sB] at hc9)
  have hr : chkP9 g = 3 := by rw [chkP9, if_pos (by simpa using hc9)]
  refine Cs (Ka rfl (Nt (Ce (Xb ?_))))
  exact R1 rfl rfl (by rw [hr]; rfl)
 ·(try simp only [sB] at hc9)
  have hok : okN g.1 ∧ okN g.2 := by simpa using hc9
  refine Ck (Xa (Cq (Cs (Kq rfl (Fa (q := 0) rfl rfl u26 rfl rfl) (Kq rfl (Ld rfl rfl .tc u22) ?_)))))
  refine Kq rfl (rd_slen rfl rfl u22) (Kq rfl (rd_gtr rfl rfl rfl) (Nt ?_))
  refine Cd rfl (fun hc13 => ?_) (fun hc13 => ?_)
  ·(try simp only [sB] at hc13)
   have hr : chkP9 g = 5 := by rw [chkP9, if_neg (fun h => h hok), if_pos (by omega)]
   refine Cs (Ka rfl (Nt (Ce (Xb ?_))))
   exact R1 rfl rfl (by rw [hr]; rfl)
  ·(try simp only [sB] at hc13)
   have h8 : g.1.length ≤ 8 := by omega
   have hp1 := prime_ok hok.1 h8
   refine Ck (Xa (Cq (Cs (Kq rfl (Fa (q := 0) rfl rfl u26 rfl rfl) (Kq rfl (Ld rfl rfl .tc u22) ?_)))))
   refine Ku rfl (Oc rfl rfl (Kv fun w hS => (by have := rprime_c (w := w) (a := g.1); rw [hp1] at this; exact this))) ?_
   refine Km rfl (Kq rfl (Re rfl rfl rfl) (Kq rfl (Re rfl rfl rfl) (Ka rfl (Ka rfl (Nt (Cs (Km rfl (Kq rfl (Rt rfl rfl) (Nt ?_)))))))))
   refine Cd rfl (fun hc21 => ?_) (fun hc21 => ?_)
   ·(try simp only [sB] at hc21)
    have hpf : isP (val g.1) = false := by simpa using hc21
    have hr : chkP9 g = 12 := by rw [chkP9, if_neg (fun h => h hok), if_neg (by omega), if_pos hpf]
    refine Cs (Ka rfl (Nt (Ce (Xb ?_))))
    exact R1 rfl rfl (by rw [hr]; rfl)
   ·(try simp only [sB] at hc21)
    have hpt : isP (val g.1) = true := by simpa using hc21
    have hpn : ¬ isP (val g.1) = false := by rw [hpt]; decide
    refine Ck (Xa (Cq (Cs (Kq rfl (Fa (q := 1) rfl rfl u26 rfl rfl) (Kq rfl (Ld rfl rfl .tc u22) ?_)))))
    refine Kq rfl (rd_slen rfl rfl u22) (Kq rfl (rd_gtr rfl rfl rfl) (Nt ?_))
    refine Cd rfl (fun hc25 => ?_) (fun hc25 => ?_)
    ·(try simp only [sB] at hc25)
     have hr : chkP9 g = 13 := by rw [chkP9, if_neg (fun h => h hok), if_neg (by omega), if_neg hpn, if_pos (by omega)]
     refine Cs (Ka rfl (Nt (Ce (Xb ?_))))
     exact R1 rfl rfl (by rw [hr]; rfl)
    ·(try simp only [sB] at hc25)
     have h82 : g.2.length ≤ 8 := by omega
     have hp2 := prime_ok hok.2 h82
     refine Ck (Xa (Cq (Cs (Kq rfl (Fa (q := 1) rfl rfl u26 rfl rfl) (Kq rfl (Ld rfl rfl .tc u22) ?_)))))
     refine Ku rfl (Oc rfl rfl (Kv fun w hS => (by have := rprime_c (w := w) (a := g.2); rw [hp2] at this; exact this))) ?_
     refine Km rfl (Kq rfl (Re rfl rfl rfl) (Kq rfl (Re rfl rfl rfl) (Ka rfl (Ka rfl (Nt (Cs (Km rfl (Kq rfl (Rt rfl rfl) (Nt ?_)))))))))
     refine Cd rfl (fun hc33 => ?_) (fun hc33 => ?_)
     ·(try simp only [sB] at hc33)
      have hqf : isP (val g.2) = false := by simpa using hc33
      have hr : chkP9 g = 12 := by rw [chkP9, if_neg (fun h => h hok), if_neg (by omega), if_neg hpn, if_neg (by omega), if_pos hqf]
      refine Cs (Ka rfl (Nt (Ce (Xb ?_))))
      exact R1 rfl rfl (by rw [hr]; rfl)
     ·(try simp only [sB] at hc33)
      have hqt : isP (val g.2) = true := by simpa using hc33
      have hqn : ¬ isP (val g.2) = false := by rw [hqt]; decide
      have hg1 := isP_two hpt; have hg2 := isP_two hqt
      refine Ck (Xa (Cq (Cs ?_)))
      refine Kq rfl (lda rfl rfl .tc u26 rfl ?_) ?_
      ·kernel_rfl
      refine Ku rfl (Oc rfl rfl (Kv fun w hS => rgdiv_c (g := g) (by exact hok.1) (by exact hok.2) (by omega) (by omega))) ?_
      refine Kq rfl (Rt rfl rfl) (Nt ?_)
      refine Cd rfl (fun hc36 => ?_) (fun hc36 => ?_)
      ·(try simp only [sB] at hc36)
       have hr : chkP9 g = 13 := by rw [chkP9, if_neg (fun h => h hok), if_neg (by omega), if_neg hpn, if_neg (by omega), if_neg hqn, if_pos (by simpa using hc36)]
       refine Cs (Ka rfl (Nt (Ce (Xb ?_))))
       exact R1 rfl rfl (by rw [hr]; rfl)
      ·(try simp only [sB] at hc36)
       have hr : chkP9 g = 0 := by rw [chkP9, if_neg (fun h => h hok), if_neg (by omega), if_neg hpn, if_neg (by omega), if_neg hqn, if_neg (by simpa using hc36)]
       refine Ck (Xa (Cs (Ka rfl (Nt (Ce ?_)))))
       exact R1 rfl rfl (by rw [hr]; rfl)
theorem rgcd_c {a b : Bs} {w : World} :
  Cw 209 #[.string (S a), .string (S b)] w (NE (gcdN a b)) := by
 refine En [] [(0, .string (S a)), (1, .string (S b))] Tryz.func209 rfl Tryz.ntmps209 rfl (Ac rfl (Ac rfl (An _))) Fn ?_
 refine Cs (Ka rfl (Ka rfl (Nt (Cq (Cs (Km rfl ?_))))))
 refine Ku rfl (Oc rfl rfl (Kv fun w hS => rvalid_c (a := a))) ?_
 refine Kq rfl (Rt rfl rfl) (Km rfl ?_)
 refine Nb 9 rfl (fun hg9 => ?_) (fun hg9 => ?_)
 ·(try simp only [sB] at hg9)
  refine Kt rfl (Kt rfl (Kt rfl (Kq rfl (Rp rfl rfl rfl) (Nt ?_))))
  refine Cd rfl (fun _ => ?_) (fun h => by cases h)
  refine Cs (Ka rfl (Ka rfl (Nt (Ce (Xb ?_)))))
  exact R2 rfl rfl rfl (by rw [gcdN, if_neg (by simp_all)]; rfl)
 ·(try simp only [sB] at hg9)
  refine Km rfl ?_
  refine Ku rfl (Oc rfl rfl (Kv fun w hS => rvalid_c (a := b))) ?_
  refine Kq rfl (Rt rfl rfl) (Kq rfl (Rq rfl rfl rfl) (Nt ?_))
  refine Cd rfl (fun hc13 => ?_) (fun hc13 => ?_)
  ·(try simp only [sB] at hc13)
   refine Cs (Ka rfl (Ka rfl (Nt (Ce (Xb ?_)))))
   exact R2 rfl rfl rfl (by rw [gcdN, if_neg (by simp_all)]; rfl)
  ·(try simp only [sB] at hc13)
   have hab : okN a ∧ okN b := by simp_all
   refine Ck (Xa (Cs (Km rfl (Km rfl ?_))))
   refine Ku rfl (Oc rfl rfl (Kv fun w hS => rcommon_c (a := a) (b := b) (by exact hab.1) (by exact hab.2))) ?_
   refine Ka rfl (Ka rfl (Nt (Ce ?_)))
   exact R2 rfl rfl rfl (by rw [gcdN, if_pos hab]; rfl)
theorem r10good_c {g : Gp} {w : World} :
  Cw 208 #[gV g] w (.bool (decide (goodR g))) := by
 have hB8 : 8 < Big := Nat.lt_of_lt_of_le (by decide) big64
 refine En [] [(0, gV g)] Tryz.func208 rfl Tryz.ntmps208 rfl (Ac rfl (An _)) Fn ?_
 refine Cs ?_
 refine Kh rfl (Oy rfl rfl) ?_
 intro b1
 refine Ka rfl (Nt (Cq ?_))
 refine Cf [0, 1, 2, 3, 4, 5, 6, 7, 8, 9, 10, 11, 12, 13, 16, 14, 15, 17, 18, 19, 20] [] [0, 0, 1, 0, 0, 0, 0, 0, 0, 0, 0, 1, 0, 0, 0, 0, 1, 1, 0, 0, 0] (by kernel_rfl) (by kernel_rfl) rfl ?_
 refine Kj rfl (Fa (q := 0) rfl rfl u26 rfl rfl) (Kj rfl (Ld rfl rfl .tc u22) ?_)
 refine Jv rfl rfl rfl rfl rfl (fun ext => Oc rfl rfl (Kv fun w hS => rvalid_c (a := g.1))) ?_
 refine Kj rfl (Rm rfl rfl) ?_
 refine WJ.bool 6 rfl (fun hg6 => ?_) (fun hg6 => ?_)
 ·(try simp only [sB] at hg6)
  refine Kj rfl (Fa (q := 1) rfl rfl u26 rfl rfl) (Kj rfl (Ld rfl rfl .tc u22) ?_)
  refine Kj rfl (rd_seq rfl rfl rfl) (Kj rfl (Rp rfl rfl rfl) (Kj rfl (Rm rfl rfl) ?_))
  refine WJ.bool 11 rfl (fun hg11 => ?_) (fun hg11 => ?_)
  ·(try simp only [sB] at hg11)
   refine Kj rfl (Fa (q := 0) rfl rfl u26 rfl rfl) (Kj rfl (Ld rfl rfl .tc u22) ?_)
   refine Jv rfl rfl rfl rfl rfl (fun ext => Oc rfl rfl (Kv fun w hS => rbit_c (a := g.1) (i := 0) (by omega))) ?_
   refine WJ.set 14 rfl (v' := .bool (decide (val g.1 % 2 = 1))) (congrArg Value.bool (by exact odd_bit hg6)) ?_
   refine Kj rfl (Rp rfl rfl rfl) (Kj rfl (Rm rfl rfl) ?_)
   refine WJ.bool 16 rfl (fun hg16 => ?_) (fun hg16 => ?_)
   ·(try simp only [sB] at hg16)
    refine Jv rfl rfl rfl rfl rfl (fun ext => Oc rfl rfl (Kv fun w hS => rof_c (n := 8) (by omega))) ?_
    refine Kj rfl (Fa (q := 0) rfl rfl u26 rfl rfl) (Kj rfl (Ld rfl rfl .tc u22) ?_)
    refine Jv rfl rfl rfl rfl rfl (fun ext => Oc rfl rfl (Kv fun w hS => rCmp_c (a := g.1) (b := canon 8))) ?_
    refine Kj rfl (rd_gtr rfl rfl rfl) ?_
    refine WJ.set 21 rfl (v' := .bool (decide (8 < val g.1))) (congrArg Value.bool (by rw [cmpN_ok hg6 (okN_can hB8), val_canon]; exact decide_eq_decide.2 (by have := cmpI_le (val g.1) 8; omega))) ?_
    refine Kj rfl (Rp rfl rfl rfl) (Kj rfl (Ra rfl rfl) ?_)
    refine WJ.nil ?_
    refine Nt (Ce ?_)
    exact R1 rfl rfl (by (simp [*, tup, goodR]; done))
   ·(try simp only [sB] at hg16)
    refine Js rfl rfl rfl rfl (Js rfl rfl rfl rfl (Js rfl rfl rfl rfl (Js rfl rfl rfl rfl (Js rfl rfl rfl rfl (Kj rfl (Rq rfl rfl rfl) (Kj rfl (Ra rfl rfl) ?_))))))
    refine WJ.nil ?_
    refine Nt (Ce ?_)
    exact R1 rfl rfl (by (simp [*, tup, goodR]; done))
  ·(try simp only [sB] at hg11)
   refine Js rfl rfl rfl rfl (Js rfl rfl rfl rfl (Js rfl rfl rfl rfl (Kj rfl (Rq rfl rfl rfl) (Kj rfl (Rm rfl rfl) (Js rfl rfl rfl rfl (Js rfl rfl rfl rfl (Js rfl rfl rfl rfl (Js rfl rfl rfl rfl (Js rfl rfl rfl rfl (Kj rfl (Rq rfl rfl rfl) (Kj rfl (Ra rfl rfl) ?_)))))))))))
   refine WJ.nil ?_
   refine Nt (Ce ?_)
   exact R1 rfl rfl (by (simp [*, tup, goodR]; done))
 ·(try simp only [sB] at hg6)
  refine Js rfl rfl rfl rfl (Js rfl rfl rfl rfl (Js rfl rfl rfl rfl (Kj rfl (Rq rfl rfl rfl) (Kj rfl (Rm rfl rfl) (Js rfl rfl rfl rfl (Js rfl rfl rfl rfl (Js rfl rfl rfl rfl (Kj rfl (Rq rfl rfl rfl) (Kj rfl (Rm rfl rfl) (Js rfl rfl rfl rfl (Js rfl rfl rfl rfl (Js rfl rfl rfl rfl (Js rfl rfl rfl rfl (Js rfl rfl rfl rfl (Kj rfl (Rq rfl rfl rfl) (Kj rfl (Ra rfl rfl) ?_))))))))))))))))
  refine WJ.nil ?_
  refine Nt (Ce ?_)
  exact R1 rfl rfl (by (simp [*, tup, goodR]; done))
theorem r10has_c {g : Gp} {x : Bs} {w : World} :
  Cw 173 #[gV g, .string (S x)] w (.bool (decide (hasR g x))) := by
 refine En [] [(0, gV g), (1, .string (S x))] Tryz.func173 rfl Tryz.ntmps173 rfl (Ac rfl (Ac rfl (An _))) Fn ?_
 refine Cs ?_
 refine Kh rfl (Oy rfl rfl) ?_
 intro b2
 refine Ka rfl (Nt (Cq ?_))
 refine WC.joinP (σ := Unit) [(1, _), (2, _)] (fun gq => [(25, .bool (decide (¬ (goodR g ∧ okN x ∧ x ≠ [] ∧ val x < val g.1))))]) (fun gq => True) (S2 rfl rfl) ?_ ?_
 ·skip
  refine Cg ?_
  refine Kq rfl (lda rfl rfl .tc u26 rfl ?_) ?_
  ·kernel_rfl
  refine Ku rfl (Oc rfl rfl (Kv fun w hS => r10good_c (g := g))) ?_
  refine Kq rfl (Rt rfl rfl) (Km rfl ?_)
  refine Nb 10 rfl (fun hg10 => ?_) (fun hg10 => ?_)
  ·(try simp only [sB] at hg10)
   refine Kt rfl (Kt rfl (Kt rfl (Kq rfl (Rp rfl rfl rfl) (Km rfl (Kt rfl (Kt rfl (Kq rfl (Rp rfl rfl rfl) (Km rfl (Kt rfl (Kt rfl (Kt rfl (Kt rfl (Kt rfl (Kq rfl (Rp rfl rfl rfl) (Nn ?_)))))))))))))))
   refine WX.joinP (()) (S2 rfl rfl) (by refine (Sc ?_ (S0 _)) <;> ((refine slot_b rfl ?_; (try dsimp only); (simp [*]; done)))) ?_ (by (exact fun _ h => h))
   (try dsimp only)
   done
  ·(try simp only [sB] at hg10)
   refine Km rfl ?_
   refine Ku rfl (Oc rfl rfl (Kv fun w hS => rvalid_c (a := x))) ?_
   refine Kq rfl (Rt rfl rfl) (Kq rfl (Rq rfl rfl rfl) (Km rfl ?_))
   refine Nb 15 rfl (fun hg15 => ?_) (fun hg15 => ?_)
   ·(try simp only [sB] at hg15)
    refine Kt rfl (Kt rfl (Kq rfl (Rp rfl rfl rfl) (Km rfl (Kt rfl (Kt rfl (Kt rfl (Kt rfl (Kt rfl (Kq rfl (Rp rfl rfl rfl) (Nn ?_))))))))))
    refine WX.joinP (()) (S2 rfl rfl) (by refine (Sc ?_ (S0 _)) <;> ((refine slot_b rfl ?_; (try dsimp only); (simp [*]; done)))) ?_ (by (exact fun _ h => h))
    (try dsimp only)
    done
   ·(try simp only [sB] at hg15)
    refine Km rfl (Kq rfl (rd_seq rfl rfl rfl) (Kq rfl (Rq rfl rfl rfl) (Km rfl ?_)))
    refine Nb 19 rfl (fun hg19 => ?_) (fun hg19 => ?_)
    ·(try simp only [sB] at hg19)
     refine Kt rfl (Kt rfl (Kt rfl (Kt rfl (Kt rfl (Kq rfl (Rp rfl rfl rfl) (Nn ?_))))))
     refine WX.joinP (()) (S2 rfl rfl) (by refine (Sc ?_ (S0 _)) <;> ((refine slot_b rfl ?_; (try dsimp only); (simp [*]; done)))) ?_ (by (exact fun _ h => h))
     (try dsimp only)
     done
    ·(try simp only [sB] at hg19)
     refine Km rfl (Kq rfl (Fa (q := 0) rfl rfl u26 rfl rfl) (Kq rfl (Ld rfl rfl .tc u22) ?_))
     refine Ku rfl (Oc rfl rfl (Kv fun w hS => rCmp_c (a := x) (b := g.1))) ?_
     refine Kq rfl (rd_geq rfl rfl rfl) ?_
     refine Ns 24 rfl (v' := .bool (decide (val g.1 ≤ val x))) (congrArg Value.bool (by rw [cmpN_ok hg15 hg10.1]; exact decide_eq_decide.2 (cmpI_ge _ _))) ?_
     refine Kq rfl (Rq rfl rfl rfl) (Nn ?_)
     refine WX.joinP (()) (S2 rfl rfl) (by refine (Sc ?_ (S0 _)) <;> ((refine slot_b rfl ?_; (try dsimp only); (simp [*]; done)))) ?_ (by (exact fun _ h => h))
     (try dsimp only)
     done
 ·rintro _ hmeet; (try dsimp only at hmeet ⊢)
  refine Cd rfl (fun hc25 => ?_) (fun hc25 => ?_)
  ·(try simp only [sB] at hc25)
   have hr : ¬ hasR g x := fun h => hc25 ⟨h.1, h.2.1, h.2.2.1, h.2.2.2.1⟩
   refine Cs (Ka rfl (Nt (Ce (Xb ?_))))
   exact R1 rfl rfl (by (simp [*, tup]; done))
  ·(try simp only [sB] at hc25)
   have hok : goodR g ∧ okN x ∧ x ≠ [] ∧ val x < val g.1 := Decidable.not_not.1 hc25
   have hgc : gcdN x g.1 = (canon (Nat.gcd (val x) (val g.1)), 0) := by rw [gcdN, if_pos ⟨hok.2.1, hok.1.1⟩]
   have hr : hasR g x ↔ Nat.gcd (val x) (val g.1) = 1 := ⟨fun h => h.2.2.2.2, fun h => ⟨hok.1, hok.2.1, hok.2.2.1, hok.2.2.2, h⟩⟩
   refine Ck (Xa (Cs (Km rfl (Kq rfl (Fa (q := 0) rfl rfl u26 rfl rfl) (Kq rfl (Ld rfl rfl .tc u22) ?_)))))
   refine Ku rfl (Oc rfl rfl (Kv fun w hS => (by have := rgcd_c (w := w) (a := x) (b := g.1); rw [hgc] at this; exact this))) ?_
   refine Km rfl (Kq rfl (Re rfl rfl rfl) (Kq rfl (Re rfl rfl rfl) (Ka rfl (Ka rfl (Nt (Cs (Km rfl ?_)))))))
   refine Ku rfl (Oc rfl rfl (Kv fun w hS => rof_c (by (dsimp only; omega)))) ?_
   refine Kq rfl (rd_seq rfl rfl rfl) ?_
   refine Ns 35 rfl (v' := .bool (decide (hasR g x))) (congrArg Value.bool (by simp [hr, canon_inj])) ?_
   refine Ka rfl (Nt (Ce ?_))
   exact R1 rfl rfl (by rfl)
abbrev pk4 (k : PK) : List Bs := [k.1.1, k.1.2, k.2.1, k.2.2]
def numP (p : PR) : List Bs := nine p ++ (pk4 p.mn ++ pk4 p.wh)
def numR (p : PR) : List Bs := [p.ch, p.sl] ++ (pk4 p.mn ++ pk4 p.wh) ++ [p.sec, p.attr, p.han, p.lo, p.sz, p.bl, p.msk]
theorem rnum_c {p : PR} {w : World} :
  Calls Tryz.prog 124 #[prV p] w fun e w' => ∃ g : Rs, e = .returned (g.val 17) ∧ g.cap = 17 + g.sp.length ∧ St (fun _ => True) w [g.ent (strs (numR p)) 22] [] w' := by
 refine En [] [(0, prV p)] Tryz.func124 rfl Tryz.ntmps124 rfl (Ac rfl (An _)) Fn ?_
 refine Cs ?_
 refine Kh rfl (Oy rfl rfl) ?_
 intro b1
 refine Ka rfl (Nt (Cs (Kq rfl (Fa (q := 0) rfl rfl u30 rfl rfl) (Kq rfl (Fa (q := 0) rfl rfl u24 rfl rfl) (Kq rfl (Ld rfl rfl .tc u22) ?_)))))
 refine Kq rfl (Fa (q := 0) rfl rfl u30 rfl rfl) (Kq rfl (Fa (q := 1) rfl rfl u24 rfl rfl) (Kq rfl (Ld rfl rfl .tc u22) ?_))
 refine Kq rfl (Fa (q := 2) rfl rfl u30 rfl rfl) (Kq rfl (Fa (q := 2) rfl rfl u28 rfl rfl) (Kq rfl (Fa (q := 2) rfl rfl u26 rfl rfl) (Kq rfl (Ld rfl rfl .tc u22) ?_)))
 refine Kq rfl (Fa (q := 2) rfl rfl u30 rfl rfl) (Kq rfl (Fa (q := 2) rfl rfl u28 rfl rfl) (Kq rfl (Fa (q := 3) rfl rfl u26 rfl rfl) (Kq rfl (Ld rfl rfl .tc u22) ?_)))
 refine Kq rfl (Fa (q := 2) rfl rfl u30 rfl rfl) (Kq rfl (Fa (q := 4) rfl rfl u28 rfl rfl) (Kq rfl (Ld rfl rfl .tc u22) ?_))
 refine Kq rfl (Fa (q := 2) rfl rfl u30 rfl rfl) (Kq rfl (Fa (q := 5) rfl rfl u28 rfl rfl) (Kq rfl (Ld rfl rfl .tc u22) ?_))
 refine Kq rfl (Fa (q := 6) rfl rfl u30 rfl rfl) (Kq rfl (Fa (q := 6) rfl rfl u28 rfl rfl) (Kq rfl (Fa (q := 6) rfl rfl u26 rfl rfl) (Kq rfl (Ld rfl rfl .tc u22) ?_)))
 refine Kq rfl (Fa (q := 6) rfl rfl u30 rfl rfl) (Kq rfl (Fa (q := 6) rfl rfl u28 rfl rfl) (Kq rfl (Fa (q := 7) rfl rfl u26 rfl rfl) (Kq rfl (Ld rfl rfl .tc u22) ?_)))
 refine Kq rfl (Fa (q := 6) rfl rfl u30 rfl rfl) (Kq rfl (Fa (q := 8) rfl rfl u28 rfl rfl) (Kq rfl (Ld rfl rfl .tc u22) ?_))
 refine Kq rfl (Fa (q := 6) rfl rfl u30 rfl rfl) (Kq rfl (Fa (q := 9) rfl rfl u28 rfl rfl) (Kq rfl (Ld rfl rfl .tc u22) ?_))
 refine Kq rfl (Fa (q := 10) rfl rfl u30 rfl rfl) (Kq rfl (Ld rfl rfl .tc u22) ?_)
 refine Kq rfl (Fa (q := 11) rfl rfl u30 rfl rfl) (Kq rfl (Ld rfl rfl .tc u22) ?_)
 refine Kq rfl (Fa (q := 12) rfl rfl u30 rfl rfl) (Kq rfl (Ld rfl rfl .tc u22) ?_)
 refine Kq rfl (Fa (q := 13) rfl rfl u30 rfl rfl) (Kq rfl (Ld rfl rfl .tc u22) ?_)
 refine Kq rfl (Fa (q := 14) rfl rfl u30 rfl rfl) (Kq rfl (Ld rfl rfl .tc u22) ?_)
 refine Kq rfl (Fa (q := 15) rfl rfl u30 rfl rfl) (Kq rfl (Ld rfl rfl .tc u22) ?_)
 refine Kq rfl (Fa (q := 16) rfl rfl u30 rfl rfl) (Kq rfl (Ld rfl rfl .tc u22) ?_)
 refine Kh rfl (og_bs1 rfl rfl u31 (by kernel_rfl : _ = some (some (.string (S [])), 1, 16)) rfl (by simp only [List.map]; rfl) rfl rfl ?_ (by decide)) ?_
 ·simp [Value.cells]
 intro b51
 refine Ka rfl (Nt (Ce ?_))
 exact Rn rfl (.tmp rfl .nil) fun w' hS => ⟨⟨some b51, 17, []⟩, rfl, rfl, hS.sub (List.Sublist.cons_cons _ (List.nil_sublist _)) (fun _ h => h)⟩
theorem rless_c {a b : Bs} {w : World} :
  Cw 128 #[.string (S a), .string (S b)] w (.bool (decide (cmpN a b < 0))) := by
 refine En [] [(0, .string (S a)), (1, .string (S b))] Tryz.func128 rfl Tryz.ntmps128 rfl (Ac rfl (Ac rfl (An _))) Fn ?_
 refine Cs (Ka rfl (Nt (Cs (Km rfl (Km rfl ?_)))))
 refine Ku rfl (Oc rfl rfl (Kv fun w hS => rCmp_c (a := a) (b := b))) ?_
 refine Kq rfl (rd_lss rfl rfl rfl) (Ka rfl (Nt (Ce ?_)))
 exact R1 rfl rfl (by rfl)
theorem runit_c {g : Gp} {x : Bs} {w : World} :
  Cw 129 #[gV g, .string (S x)] w (.bool (decide (unitR g x))) := by
 refine En [] [(0, gV g), (1, .string (S x))] Tryz.func129 rfl Tryz.ntmps129 rfl (Ac rfl (Ac rfl (An _))) Fn ?_
 refine Cs ?_
 refine Kh rfl (Oy rfl rfl) ?_
 intro b2
 refine Ka rfl (Nt (Cs ?_))
 refine Kq rfl (lda rfl rfl .tc u26 rfl ?_) ?_
 ·kernel_rfl
 refine Km rfl ?_
 refine Ku rfl (Oc rfl rfl (Kv fun w hS => r10has_c (g := g) (x := x))) ?_
 refine Km rfl ?_
 refine Nb 8 rfl (fun hg8 => ?_) (fun hg8 => ?_)
 ·(try simp only [sB] at hg8)
  refine Km rfl ?_
  refine Ku rfl (Oc rfl rfl (Kv fun w hS => rof_c (n := 1) (by omega))) ?_
  refine Kq rfl (rd_sne rfl rfl rfl) (Kq rfl (Rp rfl rfl rfl) (Ka rfl (Nt (Ce ?_))))
  exact R1 rfl rfl (by simp [*, tup, unitR])
 ·(try simp only [sB] at hg8)
  refine Kt rfl (Kt rfl (Kt rfl (Kq rfl (Rq rfl rfl rfl) (Ka rfl (Nt (Ce ?_))))))
  exact R1 rfl rfl (by simp [*, tup, unitR])
abbrev pkc (k : PK) : List Value := [.string (S k.1.1), .string (S k.1.2), .string (S k.2.1), .string (S k.2.2)]
theorem take1 {α : Type} [Inhabited α] {l : List α} {i : Nat} (h : i < l.length) : l.take (i + 1) = l.take i ++ [l.getD i default] := by
 rw [List.take_add_one, List.getElem?_eq_getElem h, List.getD_eq_getElem?_getD, List.getElem?_eq_getElem h]; rfl
theorem pnum_c {p : PR} {w : World} :
  Calls Tryz.prog 114 #[prV p] w fun e w' => ∃ g : Rs, e = .returned (g.val 17) ∧ g.cap = 17 + g.sp.length ∧ St (fun _ => True) w [g.ent (strs (numP p)) 22] [] w' := by
 refine En [] [(0, prV p)] Tryz.func114 rfl Tryz.ntmps114 rfl (Ac rfl (An _)) Fn ?_
 refine Cs ?_
 refine Kh rfl (Oy rfl rfl) ?_
 intro b1
 refine Ka rfl (Nt (Cs (Kq rfl (Fa (q := 0) rfl rfl u30 rfl rfl) (Kq rfl (Fa (q := 0) rfl rfl u24 rfl rfl) (Kq rfl (Ld rfl rfl .tc u22) ?_)))))
 refine Kq rfl (Fa (q := 0) rfl rfl u30 rfl rfl) (Kq rfl (Fa (q := 1) rfl rfl u24 rfl rfl) (Kq rfl (Ld rfl rfl .tc u22) ?_))
 refine Kq rfl (Fa (q := 10) rfl rfl u30 rfl rfl) (Kq rfl (Ld rfl rfl .tc u22) ?_)
 refine Kq rfl (Fa (q := 11) rfl rfl u30 rfl rfl) (Kq rfl (Ld rfl rfl .tc u22) ?_)
 refine Kq rfl (Fa (q := 12) rfl rfl u30 rfl rfl) (Kq rfl (Ld rfl rfl .tc u22) ?_)
 refine Kq rfl (Fa (q := 13) rfl rfl u30 rfl rfl) (Kq rfl (Ld rfl rfl .tc u22) ?_)
 refine Kq rfl (Fa (q := 14) rfl rfl u30 rfl rfl) (Kq rfl (Ld rfl rfl .tc u22) ?_)
 refine Kq rfl (Fa (q := 15) rfl rfl u30 rfl rfl) (Kq rfl (Ld rfl rfl .tc u22) ?_)
 refine Kq rfl (Fa (q := 16) rfl rfl u30 rfl rfl) (Kq rfl (Ld rfl rfl .tc u22) ?_)
 refine Kh rfl (og_bs1 rfl rfl u31 (by kernel_rfl : _ = some (some (.string (S [])), 1, 16)) rfl (by simp only [List.map]; rfl) rfl rfl ?_ (by decide)) ?_
 ·simp [Value.cells]
 intro b26
 refine Ka rfl (Nt (Cq (Cs (Kq rfl (Fa (q := 2) rfl rfl u30 rfl rfl) ?_))))
 refine Kq rfl (ldp rfl rfl .tc u28 rfl (by kernel_rfl : _ = some 4) (by rfl) (by rfl)) ?_
 refine Kq rfl (Fa (q := 6) rfl rfl u30 rfl rfl) ?_
 refine Kq rfl (ldp rfl rfl .tc u28 rfl (by kernel_rfl : _ = some 4) (by rfl) (by rfl)) ?_
 refine Kh rfl (og_bsN rfl rfl u138 (by kernel_rfl : _ = some (some (.agg #[.string (S []), .string (S []), .string (S []), .string (S [])]), 4, 64)) (by kernel_rfl) (by decide) rfl rfl (by (simp [Value.cells]; done)) (by (simp only [List.map, Value.cells, List.flatMap_cons, List.flatMap_nil, List.append_nil, List.toList_toArray]; rfl)) (by decide)) ?_
 intro b31
 refine WL.st (fun w h => h.freeze (off := 0) (xs := ([p.mn, p.wh] : List PK).flatMap pkc) (fun i hi => by rw [Nat.zero_add]; rfl)) ?_
 refine Kq rfl (rd_len rfl rfl u138) (Km rfl (Nt (Cb ?_)))
 refine Lo (σ := Nat × (Option Nat) × Nat × (List Value)) [(31, _), (32, _)] (fun gq => [(3, .slice (gq.2.1.map fun b => ⟨b, 0, none⟩) (9 + 4 * gq.1) gq.2.2.1), (33, .int .i64 (gq.1 : Int))]) (fun gq => gq.1 ≤ 2 ∧ gq.2.2.1 = 9 + 4 * gq.1 + gq.2.2.2.length) (fun gq => 2 - gq.1) (fun gq => [⟨gq.2.1, strs (nine p ++ (([p.mn, p.wh] : List PK).take gq.1).flatMap pk4) ++ gq.2.2.2, 22⟩]) (fun gq => [Fact.sl (some ⟨b31, 0, none⟩) (([p.mn, p.wh] : List PK).flatMap pkc)]) (0, some b26, 9, []) (S2 rfl rfl) (S2 rfl rfl) (by (try dsimp only); exact ⟨Nat.zero_le _, rfl⟩) (by exact fun w h => h.sub (List.Sublist.cons_cons _ (List.nil_sublist _)) (fun _ hh => hh)) ?_
 rintro ⟨i, o, cp, sp⟩ hinv1; (try dsimp only at hinv1 ⊢)
 obtain ⟨hi, hcp⟩ := hinv1
 refine Cs (Kq rfl (rd_lss rfl rfl rfl) (Nt (Cq ?_)))
 refine Cd rfl (fun hc34 => ?_) (fun hc34 => ?_)
 ·(try simp only [sB] at hc34)
  have hi2 : i < ([p.mn, p.wh] : List PK).length := by show i < 2; omega
  have htk := take1 hi2
  obtain ⟨k, hk⟩ : ∃ k, Keep (k = ([p.mn, p.wh] : List PK).getD i default) := ⟨_, rfl⟩
  rw [← show k = _ from hk] at htk
  have hln : (strs (nine p ++ (([p.mn, p.wh] : List PK).take i).flatMap pk4)).length = 9 + 4 * i := by
   rw [← strs_app, List.length_append]
   have : i = 0 ∨ i = 1 := by omega
   rcases this with rfl | rfl <;> rfl
  refine Ck (Xa (Cq (Cb (Cs ?_))))
  refine Kq rfl (Ja rfl rfl rfl u138 (by kernel_rfl : _ = some 4) (by omega)) ?_
  refine Kq rfl (ldfa (off0 := 0) (m := i * 4) (ys := pkc (([p.mn, p.wh] : List PK).getD i default)) rfl rfl .tc u28 rfl (by kernel_rfl : _ = some 4) (Nat.zero_add _).symm (by exact flatMap_at [p.mn, p.wh] pkc 4 (fun _ => rfl) i hi2) rfl (by decide)) ?_
  refine Ns 36 rfl (v' := .agg (pkc k).toArray) (by rw [show k = _ from hk]) ?_
  refine Kh rfl (Oz [.string (S []), .string (S []), .string (S []), .string (S [])] rfl) ?_
  intro b5
  refine Nu rfl rfl (Sa rfl rfl rfl .tc) ?_
  refine Nt (Cg (Km rfl (Kq rfl (Fa (q := 0) rfl rfl u28 rfl rfl) (Kq rfl (Fa (q := 0) rfl rfl u26 rfl rfl) (Kq rfl (Ld rfl rfl .tc u22) ?_)))))
  refine Kq rfl (Fa (q := 0) rfl rfl u28 rfl rfl) (Kq rfl (Fa (q := 1) rfl rfl u26 rfl rfl) (Kq rfl (Ld rfl rfl .tc u22) ?_))
  refine Kq rfl (Fa (q := 2) rfl rfl u28 rfl rfl) (Kq rfl (Ld rfl rfl .tc u22) ?_)
  refine Kq rfl (Fa (q := 3) rfl rfl u28 rfl rfl) (Kq rfl (Ld rfl rfl .tc u22) ?_)
  refine Kh rfl (og_bs1 rfl rfl u31 (by kernel_rfl : _ = some (some (.string (S [])), 1, 16)) rfl (by simp only [List.map]; rfl) rfl rfl ?_ (by decide)) ?_
  ·simp [Value.cells]
  intro b48
  refine Kh rfl (appg rfl u31 (by kernel_rfl : _ = some (some (.string (S [])), 1, 16)) rfl .tc rfl rfl (fun w hS => by (exact hS.os)) (by rfl) (by refine ⟨?_, ?_, ?_, ?_⟩ <;> first | exact hln | omega) (by (simp [Value.oneCell']; done))) ?_
  rintro ⟨o49, c49, s49⟩
  refine WL.pu ?_
  intro hg49; (try dsimp only at hg49 ⊢)
  refine Ka rfl (Nn (Xd (Xa (Cg (Kq rfl (Rz rfl rfl rfl (by omega)) (Km rfl (Nn ?_)))))))
  refine Lx ((i + 1, o49, c49, s49)) (by (try dsimp only); omega) (S2 rfl rfl) (by refine (Sc ?_ (Sc ?_ (S0 _))) <;> (rfl)) ?_ (by exact fun w h => by rw [htk, List.flatMap_append, ← List.append_assoc, ← strs_app, show strs ([k].flatMap pk4) = pkc k from rfl]; exact st_sub _ h)
  (try dsimp only)
  exact ⟨by omega, by omega⟩
 ·(try simp only [sB] at hc34)
  refine Cx (Xc (Xc (Xe ?_)))
  obtain rfl : i = 2 := by omega
  refine Xa (Cs (Km rfl (Ka rfl (Nt (Ce ?_)))))
  exact Rn rfl (.tmp rfl .nil) fun w' hS => ⟨⟨o, cp, sp⟩, rfl, by omega, hS.sub (List.Sublist.refl _) (by simp)⟩
theorem pchk1_c {p : PR} {x : Bs} {b1 b5 : Nat} {w : World} {ok : Nat → Prop} (hF1 : (Fact.sl (some ⟨b1, 0, none⟩) (prC p)).holds ok w) (hF2 : (Fact.sl (some ⟨b5, 0, none⟩) [.string (S (canon 1))]).holds ok w) :
  Cw 115 #[.string (S x), .pointer (some ⟨b1, 0, none⟩), .pointer (some ⟨b5, 0, none⟩)] w (.bool (decide (unitR p.wh.1 x))) := by
 refine En [Fact.sl (some ⟨b1, 0, none⟩) (prC p), Fact.sl (some ⟨b5, 0, none⟩) [.string (S (canon 1))]] [(0, .string (S x)), (1, .pointer (some ⟨b1, 0, none⟩)), (2, .pointer (some ⟨b5, 0, none⟩))] Tryz.func115 rfl Tryz.ntmps115 rfl (Ac rfl (Ac rfl (Ac rfl (An _)))) (Fc (fact_any hF1) (Fc (fact_any hF2) Fn)) ?_
 refine Cs (Ka rfl (Nt (Cs ?_)))
 (refine Kq rfl (rd_fa rfl rfl u30 rfl (by kernel_rfl) (by (try simp only [sN, Int.reduceToNat, Nat.reduceAdd, Nat.reduceMul, Nat.reduceSub]); rfl)) ?_)
 (refine Kq rfl (rd_fa rfl rfl u28 rfl (by kernel_rfl) (by (try simp only [sN, Int.reduceToNat, Nat.reduceAdd, Nat.reduceMul, Nat.reduceSub]); rfl)) ?_)
 refine Kq rfl (ldfa (off0 := 0) (m := 6) (ys := [.string (S p.wh.1.1), .string (S p.wh.1.2)]) rfl rfl .tc u26 rfl (by kernel_rfl : _ = some 2) rfl rfl rfl (by decide)) ?_
 refine Km rfl ?_
 refine Ku rfl (Oc rfl rfl (Kv fun w hS => rshas_c (g := p.wh.1) (x := x))) ?_
 refine Km rfl ?_
 refine Nb 10 rfl (fun hg10 => ?_) (fun hg10 => ?_)
 ·(try simp only [sB] at hg10)
  refine Km rfl (Kq rfl (ldf (off0 := 0) (m := 0) rfl rfl .tc u22 rfl rfl rfl) ?_)
  refine Kq rfl (rd_sne rfl rfl rfl) (Kq rfl (Rp rfl rfl rfl) (Ka rfl (Nt (Ce ?_))))
  exact R1 rfl rfl (by simp [*, tup, unitR])
 ·(try simp only [sB] at hg10)
  refine Kt rfl (Kt rfl (Kt rfl (Kq rfl (Rq rfl rfl rfl) (Ka rfl (Nt (Ce ?_))))))
  exact R1 rfl rfl (by simp [*, tup, unitR])
theorem okR_num {p : PR} : okR p ↔ ∀ x ∈ numP p, okN x := by
 unfold okR okK numP
 simp only [List.mem_append, List.mem_cons, List.not_mem_nil, or_false]
 constructor
 ·rintro ⟨h, ⟨a1, a2, a3, a4⟩, c1, c2, c3, c4⟩ x (hx | (rfl | rfl | rfl | rfl) | (rfl | rfl | rfl | rfl))
  ·exact h x hx
  all_goals assumption
 ·intro h
  exact ⟨fun x hx => h x (.inl hx), ⟨h _ (.inr (.inl (.inl rfl))), h _ (.inr (.inl (.inr (.inl rfl)))), h _ (.inr (.inl (.inr (.inr (.inl rfl))))), h _ (.inr (.inl (.inr (.inr (.inr rfl)))))⟩,
   h _ (.inr (.inr (.inl rfl))), h _ (.inr (.inr (.inr (.inl rfl)))), h _ (.inr (.inr (.inr (.inr (.inl rfl))))), h _ (.inr (.inr (.inr (.inr (.inr rfl)))))⟩
theorem pcheckR_c {p : PR} {w : World} (hm8 : p.mn.1.1.length ≤ 8) (hD : TabD w) :
  Cw 72 #[prV p] w (.int .i64 (chkR p)) := by
 refine En [] [(0, prV p)] Tryz.func72 rfl Tryz.ntmps72 rfl (Ac rfl (An _)) Fn ?_
 refine Cs ?_
 refine Kh rfl (Oy rfl rfl) ?_
 intro b1
 refine Ka rfl (Nt (Cq (Cs ?_)))
 refine Kq rfl (lda rfl rfl .tc u30 rfl ?_) ?_
 ·kernel_rfl
 refine Kh rfl (Oc rfl rfl (keep_f1 fun w hS => pnum_c)) ?_
 intro g14
 refine WL.pu ?_
 intro hg14; (try dsimp only at hg14 ⊢)
 refine Kq rfl (rd_len rfl rfl u31) (Km rfl (Nt (Cb ?_)))
 refine Lp (σ := Nat) [(1, _), (14, _), (15, _)] (fun gq => [(16, .int .i64 (gq : Int))]) (fun gq => gq ≤ (numP p).length ∧ ∀ x ∈ (numP p).take gq, okN x) (fun gq => (numP p).length - gq) (0) (S3 rfl rfl rfl) (S1 rfl) (by (try dsimp only); exact ⟨Nat.zero_le _, by simp⟩) ?_
 rintro i hinv1; (try dsimp only at hinv1 ⊢)
 obtain ⟨hi, hok⟩ := hinv1
 refine Cs (Kq rfl (rd_lss rfl rfl rfl) (Nt (Cq ?_)))
 refine Cd rfl (fun hc17 => ?_) (fun hc17 => ?_)
 ·(try simp only [sB] at hc17)
  have hil : i < (numP p).length := by show i < 17; omega
  obtain ⟨y, hy⟩ : ∃ y, Keep (y = (numP p).getD i default) := ⟨_, rfl⟩
  refine Ck (Xa (Cq (Cb (Cs ?_))))
  refine Kq rfl (Ib rfl rfl rfl u31 (by omega) (by (rw [List.length_map]; omega))) ?_
  refine Kq rfl (ldm rfl rfl u22 rfl (by assumption)) ?_
  refine Ns 19 rfl (v' := .string (S (y))) (congrArg (fun l => Value.string (S l)) (by rw [show y = _ from hy])) ?_
  refine Ka rfl (Nt (Cs (Km rfl ?_)))
  refine Ku rfl (Oc rfl rfl (Kv fun w hS => valid_c (a := y))) ?_
  refine Kq rfl (Rt rfl rfl) (Nt ?_)
  refine Cd rfl (fun hc22 => ?_) (fun hc22 => ?_)
  ·(try simp only [sB] at hc22)
   have hyn : ¬ okN y := by simpa using hc22
   have hn : ¬ okR p := fun h => hyn (by rw [show y = _ from hy]; exact okR_num.1 h _ (getD_mem (numP p) i hil))
   refine Cs (Ka rfl (Nt (Ce (Xf (Xb (Xb (Xf (Xb ?_))))))))
   exact R1 rfl rfl (by rw [chkR, if_pos hn]; rfl)
  ·(try simp only [sB] at hc22)
   have hyy : okN y := by simpa using hc22
   refine Ck (Xd (Xa (Cg (Kq rfl (Rz rfl rfl rfl (by omega)) (Km rfl (Nn ?_))))))
   refine Ly (i + 1) (by (try dsimp only); omega) (S3 rfl rfl rfl) (by refine (Sc ?_ (S0 _)) <;> (rfl)) ?_ (by (exact fun _ h => h))
   (try dsimp only)
   exact ⟨hil, all_take hil hok (by rw [← show y = _ from hy]; exact hyy)⟩
 ·(try simp only [sB] at hc17)
  refine Cx (Xc (Xc (Xe ?_)))
  obtain rfl : i = (numP p).length := by show i = 17; have h17 : i ≤ 17 := hi; omega
  rw [List.take_length] at hok
  have hokR : okR p := okR_num.2 hok
  have hB8 : 8 < Big := Nat.lt_of_lt_of_le (by decide) big64
  refine Xa (Cs ?_)
  refine Ku rfl (Oc rfl rfl (Kv fun w hS => of_c (n := 1) (by omega))) ?_
  refine Ku rfl (Oc rfl rfl (Kv fun w hS => of_c (n := 2) (by omega))) ?_
  refine Kh rfl (Oa rfl (v := (.string (S []))) (cs := [.string (S [])]) (by kernel_rfl) rfl) ?_
  intro b5
  refine Ng rfl rfl (st rfl rfl rfl .tc (by kernel_rfl) rfl ?_ (by (simp only [List.set_cons_zero, List.set_cons_succ]; rfl))) ?_
  ·decide
  intro _
  refine Ka rfl (Nt (Cs (Kq rfl (rd_mkf rfl rfl rfl) (Ka rfl (Nt (Cq ?_))))))
  refine WC.joinP (σ := Unit) [(1, _), (6, _)] (fun gq => [(67, .bool (decide (¬ (chkP9 p.mn.1 = 0 ∧ genP p.mn.1 p.mn.2.1 ∧ genP p.mn.1 p.mn.2.2 ∧ unitR p.wh.1 p.wh.2.1 ∧ unitR p.wh.1 p.wh.2.2))))]) (fun gq => True) (S2 rfl rfl) ?_ ?_
  ·skip
   refine Cg (Kq rfl (Fa (q := 2) rfl rfl u30 rfl rfl) (Kq rfl (Fa (q := 2) rfl rfl u28 rfl rfl) ?_))
   refine Kq rfl (ldp rfl rfl .tc u26 rfl (by kernel_rfl : _ = some 2) (by rfl) (by rfl)) ?_
   refine Ku rfl (Oc rfl rfl (Kv fun w hS => pgcheck_c (g := p.mn.1) (by (exact tabd_st hD hS)))) ?_
   refine Kq rfl (rd_neq rfl rfl rfl) (Km rfl ?_)
   refine Nb 32 rfl (fun hg32 => ?_) (fun hg32 => ?_)
   ·(try simp only [sB] at hg32)
    refine Kt rfl (Kt rfl (Kt rfl (Kt rfl (Kt rfl (Kt rfl (Kt rfl (Kt rfl (Kq rfl (Rp rfl rfl rfl) (Km rfl (Kt rfl (Kt rfl (Kt rfl (Kt rfl (Kt rfl (Kt rfl (Kt rfl (Kt rfl (Kq rfl (Rp rfl rfl rfl) (Km rfl (Kt rfl (Kt rfl (Kt rfl (Kt rfl (Kt rfl (Kt rfl (Kq rfl (Rp rfl rfl rfl) (Km rfl (Kt rfl (Kt rfl (Kt rfl (Kt rfl (Kt rfl (Kt rfl (Kq rfl (Rp rfl rfl rfl) (Nn ?_)))))))))))))))))))))))))))))))))))
    refine WX.joinP (()) (S2 rfl rfl) (by refine (Sc ?_ (S0 _)) <;> ((refine slot_b rfl ?_; (try dsimp only); (simp [*]; done)))) ?_ (by (exact fun _ h => h))
    (try dsimp only)
    done
   ·(try simp only [sB] at hg32)
    refine Kq rfl (Fa (q := 2) rfl rfl u30 rfl rfl) (Kq rfl (Fa (q := 2) rfl rfl u28 rfl rfl) ?_)
    refine Kq rfl (ldp rfl rfl .tc u26 rfl (by kernel_rfl : _ = some 2) (by rfl) (by rfl)) ?_
    refine Kq rfl (Fa (q := 2) rfl rfl u30 rfl rfl) (Kq rfl (Fa (q := 4) rfl rfl u28 rfl rfl) (Kq rfl (Ld rfl rfl .tc u22) ?_))
    refine Ku rfl (Oc rfl rfl (Kv fun w hS => pggen_c (g := p.mn.1) (x := p.mn.2.1) (by assumption))) ?_
    refine Kq rfl (Rt rfl rfl) (Kq rfl (Rq rfl rfl rfl) (Km rfl ?_))
    refine Nb 42 rfl (fun hg42 => ?_) (fun hg42 => ?_)
    ·(try simp only [sB] at hg42)
     refine Kt rfl (Kt rfl (Kt rfl (Kt rfl (Kt rfl (Kt rfl (Kt rfl (Kt rfl (Kq rfl (Rp rfl rfl rfl) (Km rfl (Kt rfl (Kt rfl (Kt rfl (Kt rfl (Kt rfl (Kt rfl (Kq rfl (Rp rfl rfl rfl) (Km rfl (Kt rfl (Kt rfl (Kt rfl (Kt rfl (Kt rfl (Kt rfl (Kq rfl (Rp rfl rfl rfl) (Nn ?_)))))))))))))))))))))))))
     refine WX.joinP (()) (S2 rfl rfl) (by refine (Sc ?_ (S0 _)) <;> ((refine slot_b rfl ?_; (try dsimp only); (simp [*]; done)))) ?_ (by (exact fun _ h => h))
     (try dsimp only)
     done
    ·(try simp only [sB] at hg42)
     refine Kq rfl (Fa (q := 2) rfl rfl u30 rfl rfl) (Kq rfl (Fa (q := 2) rfl rfl u28 rfl rfl) ?_)
     refine Kq rfl (ldp rfl rfl .tc u26 rfl (by kernel_rfl : _ = some 2) (by rfl) (by rfl)) ?_
     refine Kq rfl (Fa (q := 2) rfl rfl u30 rfl rfl) (Kq rfl (Fa (q := 5) rfl rfl u28 rfl rfl) (Kq rfl (Ld rfl rfl .tc u22) ?_))
     refine Ku rfl (Oc rfl rfl (Kv fun w hS => pggen_c (g := p.mn.1) (x := p.mn.2.2) (by assumption))) ?_
     refine Kq rfl (Rt rfl rfl) (Kq rfl (Rq rfl rfl rfl) (Km rfl ?_))
     refine Nb 52 rfl (fun hg52 => ?_) (fun hg52 => ?_)
     ·(try simp only [sB] at hg52)
      refine Kt rfl (Kt rfl (Kt rfl (Kt rfl (Kt rfl (Kt rfl (Kq rfl (Rp rfl rfl rfl) (Km rfl (Kt rfl (Kt rfl (Kt rfl (Kt rfl (Kt rfl (Kt rfl (Kq rfl (Rp rfl rfl rfl) (Nn ?_)))))))))))))))
      refine WX.joinP (()) (S2 rfl rfl) (by refine (Sc ?_ (S0 _)) <;> ((refine slot_b rfl ?_; (try dsimp only); (simp [*]; done)))) ?_ (by (exact fun _ h => h))
      (try dsimp only)
      done
     ·(try simp only [sB] at hg52)
      refine Km rfl (Kq rfl (Fa (q := 6) rfl rfl u30 rfl rfl) (Kq rfl (Fa (q := 8) rfl rfl u28 rfl rfl) (Kq rfl (Ld rfl rfl .tc u22) ?_)))
      refine Ku rfl (og_callv rfl rfl rfl (by kernel_rfl) rfl (Kv fun w hS => pchk1_c (p := p) (x := p.wh.2.1) (b1 := b1) (b5 := b5) hS.os hS.os)) ?_
      refine Kq rfl (Rt rfl rfl) (Kq rfl (Rq rfl rfl rfl) (Km rfl ?_))
      refine Nb 60 rfl (fun hg60 => ?_) (fun hg60 => ?_)
      ·(try simp only [sB] at hg60)
       refine Kt rfl (Kt rfl (Kt rfl (Kt rfl (Kt rfl (Kt rfl (Kq rfl (Rp rfl rfl rfl) (Nn ?_)))))))
       refine WX.joinP (()) (S2 rfl rfl) (by refine (Sc ?_ (S0 _)) <;> ((refine slot_b rfl ?_; (try dsimp only); (simp [*]; done)))) ?_ (by (exact fun _ h => h))
       (try dsimp only)
       done
      ·(try simp only [sB] at hg60)
       refine Km rfl (Kq rfl (Fa (q := 6) rfl rfl u30 rfl rfl) (Kq rfl (Fa (q := 9) rfl rfl u28 rfl rfl) (Kq rfl (Ld rfl rfl .tc u22) ?_)))
       refine Ku rfl (og_callv rfl rfl rfl (by kernel_rfl) rfl (Kv fun w hS => pchk1_c (p := p) (x := p.wh.2.2) (b1 := b1) (b5 := b5) hS.os hS.os)) ?_
       refine Kq rfl (Rt rfl rfl) (Kq rfl (Rq rfl rfl rfl) (Nn ?_))
       refine WX.joinP (()) (S2 rfl rfl) (by refine (Sc ?_ (S0 _)) <;> ((refine slot_b rfl ?_; (try dsimp only); (simp [*]; done)))) ?_ (by (exact fun _ h => h))
       (try dsimp only)
       done
  ·rintro _ hmeet; (try dsimp only at hmeet ⊢)
   refine Cd rfl (fun hc67 => ?_) (fun hc67 => ?_)
   ·(try simp only [sB] at hc67)
    refine Cs (Ka rfl (Nt (Ce (Xb ?_))))
    exact R1 rfl rfl (by rw [chkR, if_neg (fun h => h hokR), if_pos (show ¬ grpR p from hc67)]; rfl)
   ·(try simp only [sB] at hc67)
    have hgr : grpR p := Decidable.not_not.1 hc67
    refine Ck (Xa (Cs (Kq rfl (Fa (q := 2) rfl rfl u30 rfl rfl) (Kq rfl (Fa (q := 2) rfl rfl u28 rfl rfl) (Kq rfl (Fa (q := 3) rfl rfl u26 rfl rfl) (Kq rfl (Ld rfl rfl .tc u22) ?_))))))
    refine Ka rfl (Nt (Cq (Cs (Kq rfl (Fa (q := 0) rfl rfl u30 rfl rfl) (Kq rfl (Fa (q := 0) rfl rfl u24 rfl rfl) (Kq rfl (Ld rfl rfl .tc u22) ?_))))))
    refine Kq rfl (Fa (q := 0) rfl rfl u30 rfl rfl) (Kq rfl (Fa (q := 1) rfl rfl u24 rfl rfl) (Kq rfl (Ld rfl rfl .tc u22) ?_))
    refine Kq rfl (Fa (q := 10) rfl rfl u30 rfl rfl) (Kq rfl (Ld rfl rfl .tc u22) ?_)
    refine Kq rfl (Fa (q := 11) rfl rfl u30 rfl rfl) (Kq rfl (Ld rfl rfl .tc u22) ?_)
    refine Kq rfl (Fa (q := 12) rfl rfl u30 rfl rfl) (Kq rfl (Ld rfl rfl .tc u22) ?_)
    refine Kq rfl (Fa (q := 13) rfl rfl u30 rfl rfl) (Kq rfl (Ld rfl rfl .tc u22) ?_)
    refine Kq rfl (Fa (q := 14) rfl rfl u30 rfl rfl) (Kq rfl (Ld rfl rfl .tc u22) ?_)
    refine Kq rfl (Fa (q := 15) rfl rfl u30 rfl rfl) (Kq rfl (Ld rfl rfl .tc u22) ?_)
    refine Kq rfl (Fa (q := 16) rfl rfl u30 rfl rfl) (Kq rfl (Ld rfl rfl .tc u22) ?_)
    refine Kh rfl (og_bs1 rfl rfl u31 (by kernel_rfl : _ = some (some (.string (S [])), 1, 16)) rfl (by simp only [List.map]; rfl) rfl rfl ?_ (by decide)) ?_
    ·simp [Value.cells]
    intro b92
    refine WL.st (fun w h => h.freeze (off := 0) (xs := strs (nine p)) (fun i hi => by rw [Nat.zero_add]; rfl)) ?_
    refine Kq rfl (rd_len rfl rfl u31) (Km rfl (Nt (Cb ?_)))
    refine Lp (σ := Nat) [(1, _), (6, _), (8, _), (92, _), (93, _)] (fun gq => [(94, .int .i64 (gq : Int))]) (fun gq => gq ≤ (nine p).length ∧ ∀ x ∈ (nine p).take gq, 2 ≤ val x) (fun gq => (nine p).length - gq) (0) (S5 rfl rfl rfl rfl rfl) (S1 rfl) (by (try dsimp only); exact ⟨Nat.zero_le _, by simp⟩) ?_
    rintro j hinv2; (try dsimp only at hinv2 ⊢)
    obtain ⟨hj, htw⟩ := hinv2
    refine Cs (Kq rfl (rd_lss rfl rfl rfl) (Nt (Cq ?_)))
    refine Cd rfl (fun hc95 => ?_) (fun hc95 => ?_)
    ·(try simp only [sB] at hc95)
     have hjl : j < (nine p).length := by show j < 9; omega
     obtain ⟨y, hy⟩ : ∃ y, Keep (y = (nine p).getD j default) := ⟨_, rfl⟩
     have hyo : okN y := by rw [show y = _ from hy]; exact hokR.1 _ (getD_mem (nine p) j hjl)
     refine Ck (Xa (Cq (Cb (Cs ?_))))
     refine Kq rfl (Ja rfl rfl rfl u31 (by kernel_rfl : _ = some 1) (by omega)) ?_
     refine Kq rfl (ldf (off0 := 0) (m := j) rfl rfl .tc u22 rfl (Nat.zero_add _).symm (map_getD (nine p) (fun s : Bs => Value.string (S s)) j hjl)) ?_
     refine Ns 97 rfl (v' := .string (S (y))) (congrArg (fun l => Value.string (S l)) (by rw [show y = _ from hy])) ?_
     refine Ka rfl (Nt (Cs (Km rfl (Km rfl ?_))))
     refine Ku rfl (Oc rfl rfl (Kv fun w hS => Cmp_c (a := y) (b := canon 2))) ?_
     refine Kq rfl (rd_lss rfl rfl rfl) ?_
     refine Ns 101 rfl (v' := .bool (decide (val y < 2))) (congrArg Value.bool (by rw [cmpN_ok hyo (okN_can (by omega)), val_canon]; exact decide_eq_decide.2 (cmpI_neg _ _))) ?_
     refine Nt ?_
     refine Cd rfl (fun hc101 => ?_) (fun hc101 => ?_)
     ·(try simp only [sB] at hc101)
      have hn : ¬ rngR p := fun h => by have := h.1 _ (getD_mem (nine p) j hjl); rw [← show y = _ from hy] at this; omega
      refine Cs (Ka rfl (Nt (Ce (Xf (Xb (Xb (Xf (Xb ?_))))))))
      exact R1 rfl rfl (by rw [chkR, if_neg (fun h => h hokR), if_neg (fun h => h hgr), if_pos hn]; rfl)
     ·(try simp only [sB] at hc101)
      refine Ck (Xd (Xa (Cg (Kq rfl (Rz rfl rfl rfl (by omega)) (Km rfl (Nn ?_))))))
      refine Ly (j + 1) (by (try dsimp only); omega) (S5 rfl rfl rfl rfl rfl) (by refine (Sc ?_ (S0 _)) <;> (rfl)) ?_ (by (exact fun _ h => h))
      (try dsimp only)
      exact ⟨hjl, all_take hjl htw (by rw [← show y = _ from hy]; omega)⟩
    ·(try simp only [sB] at hc95)
     refine Cx (Xc (Xc (Xe ?_)))
     obtain rfl : j = (nine p).length := by show j = 9; have h9 : j ≤ 9 := hj; omega
     rw [List.take_length] at htw
     have ha : okN p.attr := hokR.1 _ (by simp)
     have hc : okN p.ch := hokR.1 _ (by simp)
     have hsc : okN p.sec := hokR.1 _ (by simp)
     have hq : okN p.mn.1.2 := hokR.2.1.2.1
     have hqB := okN_val hq
     have hmu : mulN p.attr (canon 8) = if val p.attr * 8 < Big then (canon (val p.attr * 8), 0) else ([], 5) := by rw [mulN, if_pos ⟨ha, okN_can hB8⟩, val_canon]
     refine Xa (Cq ?_)
     refine Cf [2, 0, 1, 3, 4, 5, 6, 7, 8] [] [0, 0, 1, 1, 0, 0, 0, 0, 0] (by kernel_rfl) (by kernel_rfl) rfl ?_
     refine Jv rfl rfl rfl rfl rfl (fun ext => Oc rfl rfl (Kv fun w hS => of_c (n := 8) (by omega))) ?_
     refine Kj rfl (Fa (q := 11) rfl rfl u30 rfl rfl) (Kj rfl (Ld rfl rfl .tc u22) ?_)
     refine Jv rfl rfl rfl rfl rfl (fun ext => Oc rfl rfl (Kv fun w hS => mul_c (a := p.attr) (b := canon 8))) ?_
     refine Kj rfl (Rm rfl rfl) (Kj rfl (Re rfl rfl rfl) (Kj rfl (Re rfl rfl rfl) (Kj rfl (Ra rfl rfl) (Kj rfl (Ra rfl rfl) ?_))))
     refine WJ.nil ?_
     refine Nt (Cq ?_)
     refine WC.joinP (σ := Unit) [] (fun gq => [(132, .bool (decide (¬ (8 * val p.attr ≤ val p.mn.1.2 ∧ val p.ch ≤ val p.mn.1.2 ∧ val p.sec ≤ val p.mn.1.2))))]) (fun gq => True) (S0 _) ?_ ?_
     ·skip
      refine Cg (Km rfl (Kq rfl (rd_neq rfl rfl rfl) ?_))
      refine Ns 111 rfl (v' := .bool (decide (Big ≤ val p.attr * 8))) (congrArg Value.bool (by rw [hmu]; split <;> simp <;> omega)) ?_
      refine Km rfl ?_
      refine Nb 112 rfl (fun hg112 => ?_) (fun hg112 => ?_)
      ·(try simp only [sB] at hg112)
       refine Kt rfl (Kt rfl (Kt rfl (Kt rfl (Kq rfl (Rp rfl rfl rfl) (Km rfl (Kt rfl (Kt rfl (Kt rfl (Kt rfl (Kt rfl (Kt rfl (Kq rfl (Rp rfl rfl rfl) (Km rfl (Kt rfl (Kt rfl (Kt rfl (Kt rfl (Kt rfl (Kq rfl (Rp rfl rfl rfl) (Nn ?_))))))))))))))))))))
       refine WX.joinP (()) (S0 _) (by refine (Sc ?_ (S0 _)) <;> ((exact congrArg (fun b => some (Value.bool b)) (by symm; apply decide_eq_true; omega)))) ?_ (by (exact fun _ h => h))
       (try dsimp only)
       done
      ·(try simp only [sB] at hg112)
       refine Km rfl (Km rfl ?_)
       refine Ku rfl (Oc rfl rfl (Kv fun w hS => Cmp_c (a := (mulN p.attr (canon 8)).1) (b := p.mn.1.2))) ?_
       refine Kq rfl (rd_gtr rfl rfl rfl) ?_
       refine Ns 116 rfl (v' := .bool (decide (val p.mn.1.2 < val p.attr * 8))) (congrArg Value.bool (by rw [hmu, if_pos (by omega), cmpN_ok (okN_can (by omega)) hq, val_canon]; exact decide_eq_decide.2 (by have := cmpI_le (val p.attr * 8) (val p.mn.1.2); omega))) ?_
       refine Kq rfl (Rq rfl rfl rfl) (Km rfl ?_)
       refine Nb 118 rfl (fun hg118 => ?_) (fun hg118 => ?_)
       ·(try simp only [sB] at hg118)
        refine Kt rfl (Kt rfl (Kt rfl (Kt rfl (Kt rfl (Kt rfl (Kq rfl (Rp rfl rfl rfl) (Km rfl (Kt rfl (Kt rfl (Kt rfl (Kt rfl (Kt rfl (Kq rfl (Rp rfl rfl rfl) (Nn ?_))))))))))))))
        refine WX.joinP (()) (S0 _) (by refine (Sc ?_ (S0 _)) <;> ((exact congrArg (fun b => some (Value.bool b)) (by symm; apply decide_eq_true; omega)))) ?_ (by (exact fun _ h => h))
        (try dsimp only)
        done
       ·(try simp only [sB] at hg118)
        refine Kq rfl (Fa (q := 0) rfl rfl u30 rfl rfl) (Kq rfl (Fa (q := 0) rfl rfl u24 rfl rfl) (Kq rfl (Ld rfl rfl .tc u22) ?_))
        refine Km rfl ?_
        refine Ku rfl (Oc rfl rfl (Kv fun w hS => Cmp_c (a := p.ch) (b := p.mn.1.2))) ?_
        refine Kq rfl (rd_gtr rfl rfl rfl) ?_
        refine Ns 124 rfl (v' := .bool (decide (val p.mn.1.2 < val p.ch))) (congrArg Value.bool (by rw [cmpN_ok hc hq]; exact decide_eq_decide.2 (by have := cmpI_le (val p.ch) (val p.mn.1.2); omega))) ?_
        refine Kq rfl (Rq rfl rfl rfl) (Km rfl ?_)
        refine Nb 126 rfl (fun hg126 => ?_) (fun hg126 => ?_)
        ·(try simp only [sB] at hg126)
         refine Kt rfl (Kt rfl (Kt rfl (Kt rfl (Kt rfl (Kq rfl (Rp rfl rfl rfl) (Nn ?_))))))
         refine WX.joinP (()) (S0 _) (by refine (Sc ?_ (S0 _)) <;> ((refine slot_b rfl ?_; (try dsimp only); (simp [*]; done)))) ?_ (by (exact fun _ h => h))
         (try dsimp only)
         done
        ·(try simp only [sB] at hg126)
         refine Kq rfl (Fa (q := 10) rfl rfl u30 rfl rfl) (Kq rfl (Ld rfl rfl .tc u22) ?_)
         refine Km rfl ?_
         refine Ku rfl (Oc rfl rfl (Kv fun w hS => Cmp_c (a := p.sec) (b := p.mn.1.2))) ?_
         refine Kq rfl (rd_gtr rfl rfl rfl) ?_
         refine Ns 131 rfl (v' := .bool (decide (val p.mn.1.2 < val p.sec))) (congrArg Value.bool (by rw [cmpN_ok hsc hq]; exact decide_eq_decide.2 (by have := cmpI_le (val p.sec) (val p.mn.1.2); omega))) ?_
         refine Kq rfl (Rq rfl rfl rfl) (Nn ?_)
         refine WX.joinP (()) (S0 _) (by refine (Sc ?_ (S0 _)) <;> ((refine slot_b rfl ?_; (try dsimp only); (exact decide_eq_decide.2 (by omega))))) ?_ (by (exact fun _ h => h))
         (try dsimp only)
         done
     ·rintro _ hmeet; (try dsimp only at hmeet ⊢)
      refine Cd rfl (fun hc132 => ?_) (fun hc132 => ?_)
      ·(try simp only [sB] at hc132)
       refine Cs (Ka rfl (Nt (Ce (Xb ?_))))
       exact R1 rfl rfl (by rw [chkR, if_neg (fun h => h hokR), if_neg (fun h => h hgr), if_pos (fun h : rngR p => hc132 h.2)]; rfl)
      ·(try simp only [sB] at hc132)
       refine Ck (Xa (Cs (Ka rfl (Nt (Ce ?_)))))
       exact R1 rfl rfl (by rw [chkR, if_neg (fun h => h hokR), if_neg (fun h => h hgr), if_neg (fun h => h ⟨htw, Decidable.not_not.1 hc132⟩)]; rfl)
abbrev ikC (k : IK) (r : Value) : List Value := [.string (S k.name), .string (S k.g.1), .string (S k.g.2), .string (S k.z), .string (S k.s), r, .string (S k.u), .string (S k.h)]
abbrev kbs (k : IK) : List (Int × Bs) := (2, k.s) :: (0, k.z) :: (1, k.u) :: (1, k.h) :: k.r.map fun x => ((0 : Int), x)
theorem kbs_all (k : IK) (Q : Bs → Prop) : (∀ y ∈ kbs k, Q y.2) ↔ ∀ x ∈ bsK k, Q x := by simp [kbs, bsK]
theorem ibases_c {k : IK} {rv : Value} {own0 : List Ent} {ok : Nat → Prop} {w0 : World} {fs : List Fact} {w : World} (hS0 : St ok w0 (own0) (fs) w) :
  Calls Tryz.prog 73 #[ikV k rv] w fun e w' => ∃ g : Nat, e = .returned (.func (.func 119) #[] #[.pointer (some ⟨g, 0, none⟩)]) ∧ St ok w0 (⟨some g, ikC k rv, 33⟩ :: own0) fs w' := by
 refine enter (S := St ok w0 (own0) (fs)) (L := [(0, ikV k rv)]) Tryz.func73 rfl Tryz.ntmps73 rfl (Ac rfl (An _)) hS0 ?_
 refine Cs ?_
 refine Kh rfl (Oy rfl rfl) ?_
 intro b1
 refine Ka rfl (Nt (Cs (Kq rfl (rd_mkf rfl rfl rfl) (Ka rfl (Nt (Ce ?_))))))
 exact Rn rfl (.tmp rfl .nil) fun w' hS => ⟨b1, rfl, hS⟩
theorem ibs_i {σ γ : Type} {CO : σ → γ → List Ent} {pg : σ → γ → Prop} {inv : σ → Int × Bs → Prop} {after : σ → Int × Bs → σ} {stop : σ → Int × Bs → Option Code} {l : Nat} {r : Loop} {ok : Nat → Prop} {w0 : World} {fs : List Fact} {w : World} {k : IK} {a : Option Addr} {c : Nat} {b1 : Nat} {s0 : σ} [∀ s g, HasE (CO s g) b1 (ikC k (.slice a k.r.length c)) 33] [HasF fs a (strs k.r)] {g0 : γ} (hY : YOk Tryz.prog l r ok w0 fs CO pg inv after stop (fun y : Int × Bs => #[Value.int .i64 y.1, Value.string (S y.2)])) (hS0 : St ok w0 (CO s0 g0) (Fact.lp l (rcd r none) :: fs) w) (hg0 : pg s0 g0) (hinv : ∀ s y, inv s y) (hl : k.r.length ≤ 140737488351232) :
  Calls Tryz.prog 119 #[.func (.yield l) #[] #[], .pointer (some ⟨b1, 0, none⟩)] w fun e w' => (∃ v, e = .returned v) ∧ ∃ g', ((itL after stop (kbs k) s0).2 = none → pg ((itL after stop (kbs k) s0).1) g') ∧ St ok w0 (CO ((itL after stop (kbs k) s0).1) g') (Fact.lp l (rcd r ((itL after stop (kbs k) s0).2)) :: fs) w' := by
 have hi0 : itL after stop (kbs k) s0 = itL after stop (kbs k) s0 := rfl
 refine enter (S := St ok w0 (CO s0 g0) (Fact.lp l (rcd r none) :: fs)) (L := [(0, .func (.yield l) #[] #[]), (1, .pointer (some ⟨b1, 0, none⟩))]) Tryz.func119 rfl Tryz.ntmps119 rfl (Ac rfl (Ac rfl (An _))) hS0 ?_
 refine Cq (Cs (Km rfl ?_))
 (refine Kq rfl (rd_fa rfl rfl u33 rfl (by kernel_rfl) (by (try simp only [sN, Int.reduceToNat, Nat.reduceAdd, Nat.reduceMul, Nat.reduceSub]); rfl)) ?_)
 refine Kq rfl (Ld rfl rfl .tc u22) ?_
 refine Kh rfl (og_yield hY [] (((2 : Int), k.s)) rfl rfl rfl rfl (hinv _ _) (hg0)) ?_
 intro gy; refine WL.pu ?_; intro hgy; (refine WL.app0 ?_)
 refine Kq rfl (Rt rfl rfl) (Km rfl ?_)
 refine Nb 10 rfl (fun hg10 => ?_) (fun hg10 => ?_)
 ·(try simp only [sB] at hg10)
  have hfin := itL_stop hi0 (by simpa using hg10)
  refine Kt rfl (Kt rfl (Kt rfl (Kt rfl (Kt rfl (Kq rfl (Rp rfl rfl rfl) (Km rfl (Kt rfl (Kt rfl (Kt rfl (Kt rfl (Kt rfl (Kq rfl (Rp rfl rfl rfl) (Km rfl (Kt rfl (Kt rfl (Kt rfl (Kt rfl (Kt rfl (Kq rfl (Rp rfl rfl rfl) (Nt ?_))))))))))))))))))))
  refine Cd rfl (fun _ => ?_) (fun h => by cases h)
  refine Ce (Xb ?_)
  exact Rn rfl .nil fun w' hS => ⟨⟨_, rfl⟩, gy, by rw [hfin]; exact hgy, by rw [hfin]; dsimp only; exact st_sub _ hS⟩
 ·(try simp only [sB] at hg10)
  have hst := Option.isNone_iff_eq_none.1 hg10
  replace hi0 := itL_next hi0 hst
  have hp := hgy hst
  rw [hst]
  refine Km rfl ?_
  (refine Kq rfl (rd_fa rfl rfl u33 rfl (by kernel_rfl) (by (try simp only [sN, Int.reduceToNat, Nat.reduceAdd, Nat.reduceMul, Nat.reduceSub]); rfl)) ?_)
  refine Kq rfl (Ld rfl rfl .tc u22) ?_
  refine Kh rfl (og_yield hY [] (((0 : Int), k.z)) rfl rfl rfl rfl (hinv _ _) (hp)) ?_
  intro gy; refine WL.pu ?_; intro hgy; (refine WL.app0 ?_)
  refine Kq rfl (Rt rfl rfl) (Kq rfl (Rq rfl rfl rfl) (Km rfl ?_))
  refine Nb 17 rfl (fun hg17 => ?_) (fun hg17 => ?_)
  ·(try simp only [sB] at hg17)
   have hfin := itL_stop hi0 (by simpa using hg17)
   refine Kt rfl (Kt rfl (Kt rfl (Kt rfl (Kt rfl (Kq rfl (Rp rfl rfl rfl) (Km rfl (Kt rfl (Kt rfl (Kt rfl (Kt rfl (Kt rfl (Kq rfl (Rp rfl rfl rfl) (Nt ?_)))))))))))))
   refine Cd rfl (fun _ => ?_) (fun h => by cases h)
   refine Ce (Xb ?_)
   exact Rn rfl .nil fun w' hS => ⟨⟨_, rfl⟩, gy, by rw [hfin]; exact hgy, by rw [hfin]; dsimp only; exact st_sub _ hS⟩
  ·(try simp only [sB] at hg17)
   have hst := Option.isNone_iff_eq_none.1 hg17
   replace hi0 := itL_next hi0 hst
   have hp := hgy hst
   rw [hst]
   refine Km rfl ?_
   (refine Kq rfl (rd_fa rfl rfl u33 rfl (by kernel_rfl) (by (try simp only [sN, Int.reduceToNat, Nat.reduceAdd, Nat.reduceMul, Nat.reduceSub]); rfl)) ?_)
   refine Kq rfl (Ld rfl rfl .tc u22) ?_
   refine Kh rfl (og_yield hY [] (((1 : Int), k.u)) rfl rfl rfl rfl (hinv _ _) (hp)) ?_
   intro gy; refine WL.pu ?_; intro hgy; (refine WL.app0 ?_)
   refine Kq rfl (Rt rfl rfl) (Kq rfl (Rq rfl rfl rfl) (Km rfl ?_))
   refine Nb 24 rfl (fun hg24 => ?_) (fun hg24 => ?_)
   ·(try simp only [sB] at hg24)
    have hfin := itL_stop hi0 (by simpa using hg24)
    refine Kt rfl (Kt rfl (Kt rfl (Kt rfl (Kt rfl (Kq rfl (Rp rfl rfl rfl) (Nt ?_))))))
    refine Cd rfl (fun _ => ?_) (fun h => by cases h)
    refine Ce (Xb ?_)
    exact Rn rfl .nil fun w' hS => ⟨⟨_, rfl⟩, gy, by rw [hfin]; exact hgy, by rw [hfin]; dsimp only; exact st_sub _ hS⟩
   ·(try simp only [sB] at hg24)
    have hst := Option.isNone_iff_eq_none.1 hg24
    replace hi0 := itL_next hi0 hst
    have hp := hgy hst
    rw [hst]
    refine Km rfl ?_
    (refine Kq rfl (rd_fa rfl rfl u33 rfl (by kernel_rfl) (by (try simp only [sN, Int.reduceToNat, Nat.reduceAdd, Nat.reduceMul, Nat.reduceSub]); rfl)) ?_)
    refine Kq rfl (Ld rfl rfl .tc u22) ?_
    refine Kh rfl (og_yield hY [] (((1 : Int), k.h)) rfl rfl rfl rfl (hinv _ _) (hp)) ?_
    intro gy; refine WL.pu ?_; intro hgy; (refine WL.app0 ?_)
    refine Kq rfl (Rt rfl rfl) (Kq rfl (Rq rfl rfl rfl) (Nt ?_))
    refine Cd rfl (fun hc30 => ?_) (fun hc30 => ?_)
    ·(try simp only [sB] at hc30)
     have hfin := itL_stop hi0 (by simpa using hc30)
     refine Ce (Xb ?_)
     exact Rn rfl .nil fun w' hS => ⟨⟨_, rfl⟩, gy, by rw [hfin]; exact hgy, by rw [hfin]; dsimp only; exact st_sub _ hS⟩
    ·(try simp only [sB] at hc30)
     have hst := Option.isNone_iff_eq_none.1 hc30
     replace hi0 := itL_next hi0 hst
     have hp := hgy hst
     rw [hst]
     refine Ck (Xa (Cs ?_))
     (refine Kq rfl (rd_fa rfl rfl u33 rfl (by kernel_rfl) (by (try simp only [sN, Int.reduceToNat, Nat.reduceAdd, Nat.reduceMul, Nat.reduceSub]); rfl)) ?_)
     refine Kq rfl (Ld rfl rfl .tc u31) ?_
     refine Kq rfl (rd_len rfl rfl u31) (Km rfl (Nt (Cb ?_)))
     refine Lo (σ := Nat × σ × γ) [(0, _), (32, _), (33, _)] (fun gq => [(34, .int .i64 (gq.1 : Int))]) (fun gq => gq.1 ≤ k.r.length ∧ pg gq.2.1 gq.2.2 ∧ itL after stop ((k.r.drop gq.1).map fun x => ((0 : Int), x)) gq.2.1 = itL after stop (kbs k) s0) (fun gq => k.r.length - gq.1) (fun gq => CO gq.2.1 gq.2.2) (fun gq => Fact.lp l (rcd r none) :: fs) (0, after (after (after (after s0 (2, k.s)) (0, k.z)) (1, k.u)) (1, k.h), gy) (S3 rfl rfl rfl) (S1 rfl) (by (try dsimp only); exact ⟨Nat.zero_le _, hp, hi0⟩) (by (exact fun _ h => h)) ?_
     rintro ⟨i, s, g⟩ hinv1; (try dsimp only at hinv1 ⊢)
     obtain ⟨hi, hgs, hit⟩ := hinv1
     refine Cs (Kq rfl (rd_lss rfl rfl rfl) (Nt (Cq ?_)))
     refine Cd rfl (fun hc35 => ?_) (fun hc35 => ?_)
     ·(try simp only [sB] at hc35)
      have hil : i < k.r.length := by omega
      have hdr : (k.r.drop i).map (fun x => ((0 : Int), x)) = (0, k.r.getD i default) :: (k.r.drop (i + 1)).map (fun x => ((0 : Int), x)) := by
       rw [List.drop_eq_getElem_cons hil, List.map_cons]; congr 2; simp [List.getD, hil]
      rw [hdr] at hit
      refine Ck (Xa (Cq (Cb (Cs ?_))))
      refine Kq rfl (Ib rfl rfl rfl u31 (by omega) (by (rw [List.length_map]; omega))) ?_
      refine Kq rfl (ldm rfl rfl u22 rfl (by assumption)) ?_
      refine Ka rfl (Nt (Cs (Km rfl (Km rfl ?_))))
      refine Kh rfl (og_yield hY [] (((0 : Int), k.r.getD i default)) rfl rfl rfl rfl (hinv _ _) (hgs)) ?_
      intro gy; refine WL.pu ?_; intro hgy; (refine WL.app0 ?_)
      refine Kq rfl (Rt rfl rfl) (Nt ?_)
      refine Cd rfl (fun hc41 => ?_) (fun hc41 => ?_)
      ·(try simp only [sB] at hc41)
       have hfin := itL_stop hit (by simpa using hc41)
       refine Ce (Xf (Xb (Xb (Xf ?_))))
       exact Rn rfl .nil fun w' hS => ⟨⟨_, rfl⟩, gy, by rw [hfin]; exact hgy, by rw [hfin]; dsimp only; exact st_sub _ hS⟩
      ·(try simp only [sB] at hc41)
       have hst := Option.isNone_iff_eq_none.1 hc41
       replace hit := itL_next hit hst
       rw [hst]
       refine Ck (Xd (Xa (Cg (Kq rfl (Rz rfl rfl rfl (by omega)) (Km rfl (Nn ?_))))))
       refine Lx ((i + 1, after s (0, k.r.getD i default), gy)) (by (try dsimp only); omega) (S3 rfl rfl rfl) (by refine (Sc ?_ (S0 _)) <;> (rfl)) ?_ (by (exact fun _ h => h))
       (try dsimp only)
       exact ⟨by omega, hgy hst, hit⟩
     ·(try simp only [sB] at hc35)
      refine Cx (Xc (Xc (Xe ?_)))
      obtain rfl : i = k.r.length := by omega
      have hfin : (s, none) = itL after stop (kbs k) s0 := by rw [← hit, List.drop_length]; rfl
      refine WX.ret_normal ?_
      exact Rn rfl .nil fun w' hS => ⟨⟨_, rfl⟩, g, fun _ => by rw [← hfin]; exact hgs, by rw [← hfin]; exact st_sub _ hS⟩
def aftV (s : Int) (y : Int × Bs) : Int := if okN y.2 then s else 3
def stpV (_ : Int) (y : Int × Bs) : Option Code := if okN y.2 then none else some .ret
abbrev elJ (k : IK) (y : Int × Bs) : Prop := elG k.g y.2 ∧ ¬ (y.1 = 2 ∧ y.2 = canon 1)
def aftE (k : IK) (s : Int) (y : Int × Bs) : Int := if elJ k y then s else 13
def stpE (k : IK) (_ : Int) (y : Int × Bs) : Option Code := if elJ k y then none else some .ret
theorem elJ_all (k : IK) : (∀ y ∈ kbs k, elJ k y) ↔ ((∀ x ∈ bsK k, elG k.g x) ∧ k.s ≠ canon 1) := by
 constructor
 ·intro h
  refine ⟨(kbs_all k (fun x => elG k.g x)).1 fun y hy => (h y hy).1, fun e => (h (2, k.s) (by simp [kbs])).2 ⟨rfl, e⟩⟩
 ·rintro ⟨h, hs⟩ y hy
  refine ⟨(kbs_all k (fun x => elG k.g x)).2 h y hy, ?_⟩
  rintro ⟨h2, h1⟩
  simp [kbs] at hy
  rcases hy with rfl | rfl | rfl | rfl | ⟨x, _, rfl⟩
  ·exact hs h1
  all_goals simp at h2
abbrev KCO (p : PR) (k : IK) (rv : Value) (b2 b3 b4 g : Nat) (s : Int) (_ : Unit) : List Ent := [⟨some g, ikC k rv, 33⟩, ⟨some b4, [.int .i64 s], 43⟩, ⟨some b3, ikC k rv, 33⟩, ⟨some b2, prC p, 30⟩]
theorem icheck_c {p : PR} {k : IK} {a : Option Addr} {c : Nat} {w : World} {ok : Nat → Prop} (hF1 : (Fact.sl a (strs k.r)).holds ok w) (hm8 : p.mn.1.1.length ≤ 8) (hk8 : k.g.1.length ≤ 8) (hl : k.r.length ≤ 140737488351232) (hnl : k.name.length ≤ 140737488351232) (hD : TabD w) :
  Cw 26 #[prV p, ikV k (.slice a k.r.length c)] w (.int .i64 (chkN p k)) := by
 have hitV : itL aftV stpV (kbs k) 0 = if ∀ y ∈ kbs k, okN y.2 then (0, none) else (3, some Code.ret) := itL_all (fun y : Int × Bs => okN y.2) 3 (kbs k) 0
 have hitE : itL (aftE k) (stpE k) (kbs k) 0 = if ∀ y ∈ kbs k, elJ k y then (0, none) else (13, some Code.ret) := itL_all (elJ k) 13 (kbs k) 0
 refine enterM (S := St (fun _ => True) w [] ([Fact.sl a (strs k.r)])) (L := [(0, prV p), (1, ikV k (.slice a k.r.length c))]) Tryz.func26 rfl Tryz.ntmps26 rfl (Ac rfl (Ac rfl (An _))) (St.start (fun _ _ => trivial) (Fc (fact_any hF1) Fn)) ?_
 refine Cs ?_
 refine Kh rfl (Oy rfl rfl) ?_
 intro b2
 refine Kh rfl (Oy rfl rfl) ?_
 intro b3
 refine Kh rfl (Oa rfl (v := (.int .i64 0)) (cs := [.int .i64 0]) (by kernel_rfl) rfl) ?_
 intro b4
 refine Nt (Cq (Cs ?_))
 refine Kq rfl (lda rfl rfl .tc u30 rfl ?_) ?_
 ·kernel_rfl
 refine Ku rfl (Oc rfl rfl (Kv fun w hS => pcheckR_c (p := p) (by assumption) (by (exact tabd_st hD hS)))) ?_
 refine Ka rfl (Nt (Cs (Km rfl (Kq rfl (rd_neq rfl rfl rfl) (Nt ?_)))))
 refine Cd rfl (fun hc13 => ?_) (fun hc13 => ?_)
 ·(try simp only [sB] at hc13)
  refine Cs (Km rfl ?_)
  refine Ng rfl rfl (st rfl rfl rfl .tc (by kernel_rfl) rfl ?_ (by (simp only [List.set_cons_zero, List.set_cons_succ]; rfl))) ?_
  ·decide
  intro _
  refine Nt (Ce (Xb ?_))
  exact WX.retM0 rfl (.one rfl .tc u43 rfl .nil) fun w' hS => ⟨by rw [chkN, if_pos (by simpa using hc13)]; rfl, hS.below⟩
 ·(try simp only [sB] at hc13)
  have h0 : chkR p = 0 := by simpa using hc13
  refine Ck (Xa (Cq ?_))
  refine WC.joinP (σ := Unit) [(3, _), (4, _)] (fun gq => [(26, .bool (decide (¬ (okN k.g.1 ∧ okN k.g.2))))]) (fun gq => True) (S2 rfl rfl) ?_ ?_
  ·skip
   refine Cg (Kq rfl (Fa (q := 1) rfl rfl u33 rfl rfl) (Kq rfl (Fa (q := 1) rfl rfl u26 rfl rfl) (Kq rfl (Ld rfl rfl .tc u22) ?_)))
   refine Ku rfl (Oc rfl rfl (Kv fun w hS => valid_c (a := k.g.1))) ?_
   refine Kq rfl (Rt rfl rfl) (Km rfl ?_)
   refine Nb 20 rfl (fun hg20 => ?_) (fun hg20 => ?_)
   ·(try simp only [sB] at hg20)
    refine Kt rfl (Kt rfl (Kt rfl (Kt rfl (Kt rfl (Kq rfl (Rp rfl rfl rfl) (Nn ?_))))))
    refine WX.joinP (()) (S2 rfl rfl) (by refine (Sc ?_ (S0 _)) <;> ((refine slot_b rfl ?_; (try dsimp only); (simp [*]; done)))) ?_ (by (exact fun _ h => h))
    (try dsimp only)
    done
   ·(try simp only [sB] at hg20)
    refine Kq rfl (Fa (q := 1) rfl rfl u33 rfl rfl) (Kq rfl (Fa (q := 2) rfl rfl u26 rfl rfl) (Kq rfl (Ld rfl rfl .tc u22) ?_))
    refine Ku rfl (Oc rfl rfl (Kv fun w hS => valid_c (a := k.g.2))) ?_
    refine Kq rfl (Rt rfl rfl) (Kq rfl (Rq rfl rfl rfl) (Nn ?_))
    refine WX.joinP (()) (S2 rfl rfl) (by refine (Sc ?_ (S0 _)) <;> ((refine slot_b rfl ?_; (try dsimp only); (simp [*]; done)))) ?_ (by (exact fun _ h => h))
    (try dsimp only)
    done
  ·rintro _ hmeet; (try dsimp only at hmeet ⊢)
   refine Cd rfl (fun hc26 => ?_) (fun hc26 => ?_)
   ·(try simp only [sB] at hc26)
    refine Cs ?_
    refine Ng rfl rfl (st rfl rfl rfl .tc (by kernel_rfl) rfl ?_ (by (simp only [List.set_cons_zero, List.set_cons_succ]; rfl))) ?_
    ·decide
    intro _
    refine Nt (Ce (Xb ?_))
    exact WX.retM0 rfl (.one rfl .tc u43 rfl .nil) fun w' hS => ⟨by rw [chkN, if_neg (fun h => h h0), if_pos (fun h => hc26 h.1)]; rfl, hS.below⟩
   ·(try simp only [sB] at hc26)
    have hgo : okN k.g.1 ∧ okN k.g.2 := Decidable.not_not.1 hc26
    refine Ck (Xa (Cq (Cs ?_)))
    refine Kq rfl (lda rfl rfl .tc u33 rfl ?_) ?_
    ·kernel_rfl
    refine Kh rfl (Oc rfl rfl (fun w hS => ibases_c (k := k) (rv := .slice a k.r.length c) hS)) ?_
    intro g28
    refine Nt (Cb ?_)
    refine WC.range (CO := KCO p k (.slice a k.r.length c) b2 b3 b4 g28) (pg := fun _ _ => True) (inv := fun _ _ => True) (after := aftV) (stop := stpV) (enc := fun y : Int × Bs => #[Value.int .i64 y.1, Value.string (S y.2)]) ((0 : Int)) (()) ((itL aftV stpV (kbs k) 0).1) ((itL aftV stpV (kbs k) 0).2) (trivial) rfl (by kernel_rfl) (fun _ => rfl) (by exact fun w h => h) ?_ (fun l r D w hl' hY hS => ibs_i (k := k) (a := a) (c := c) (b1 := g28) hY hS trivial (fun _ _ => trivial) hl) ?_ ?_
    ·intro l r D f a s g x ext wr hl hi hpg hF hS
     rw [fold2]
     refine round_of (Fr.tm ((hF.put (d := 29) rfl _).put (d := 30) rfl _)) hS ?_
     refine WR.region (by kernel_rfl) ?_
     refine Ka rfl (Nn ?_)
     refine WX.begin hl ?_
     refine Cb ?_
     refine WR.sr (by kernel_rfl) ?_
     refine Km rfl ?_
     refine Ku rfl (Oc rfl rfl (Kv fun w hS => valid_c (a := x.2))) ?_
     refine Kq rfl (Rt rfl rfl) (Nt ?_)
     refine Cd rfl (fun hc33 => ?_) (fun hc33 => ?_)
     ·(try simp only [sB] at hc33)
      refine WR.sr (by kernel_rfl) ?_
      refine Ng rfl rfl (st rfl rfl rfl .tc (by kernel_rfl) rfl ?_ (by (simp only [List.set_cons_zero, List.set_cons_succ]; rfl))) ?_
      ·(simp; done)
      intro _
      refine Nt (Ce (Xf ?_))
      exact WX.rret hl fun w' hS => by
       have h1 : ¬ okN x.2 := by simpa using hc33
       have h2 : stpV s x = some .ret := if_neg h1
       have h3 : aftV s x = 3 := if_neg h1
       rw [h2, h3]
       exact ⟨rfl, (), fun h => (by cases h), hS⟩
     ·(try simp only [sB] at hc33)
      refine Ck (Xd ?_)
      exact WX.rnext hl fun w' hS => by
       have h1 : okN x.2 := by simpa using hc33
       have h2 : stpV s x = none := if_pos h1
       have h3 : aftV s x = s := if_pos h1
       rw [h2, h3]
       exact ⟨rfl, (), fun _ => trivial, hS⟩
    ·intro D1 g1 hD1 hg1 hcf
     have hv : ∀ y ∈ kbs k, okN y.2 := Decidable.byContradiction fun h => by rw [hitV, if_neg h] at hcf; cases hcf
     rw [hitV, if_pos hv]
     have hok2 : (okN k.g.1 ∧ okN k.g.2) ∧ ∀ x ∈ bsK k, okN x := ⟨hgo, (kbs_all k okN).1 hv⟩
     refine Xd (Xa (Cq (Cb (Cs (Kq rfl (Fa (q := 0) rfl rfl u33 rfl rfl) (Kq rfl (Ld rfl rfl .tc u9) ?_))))))
     refine Ku rfl (Oc rfl rfl (Kv fun w hS => isname_c (s := k.name) (by assumption))) ?_
     refine Kq rfl (Rt rfl rfl) (Ka rfl (Nt ?_))
     refine Cd rfl (fun hc34 => ?_) (fun hc34 => ?_)
     ·(try simp only [sB] at hc34)
      refine Cs ?_
      refine Ng rfl rfl (st rfl rfl rfl .tc (by kernel_rfl) rfl ?_ (by (simp only [List.set_cons_zero, List.set_cons_succ]; rfl))) ?_
      ·decide
      intro _
      refine Nt (Ce (Xf (Xb ?_)))
      exact WX.retM1 hD1 rfl (.one rfl .tc u43 rfl .nil) fun w' hS => ⟨by rw [chkN, if_neg (fun h => h h0), if_neg (fun h => h hok2), if_pos (by simpa using hc34)]; rfl, hS.below⟩
     ·(try simp only [sB] at hc34)
      have hnm : nameS k.name := by simpa using hc34
      refine WC.joinP (σ := Unit) [(3, _), (4, _)] (fun gq => [(39, .bool (decide (k.g.2 ≠ [] ∨ chkG k.g ≠ 0)))]) (fun gq => True) (S2 rfl rfl) ?_ ?_
      ·skip
       refine Cg (Kq rfl (Fa (q := 1) rfl rfl u33 rfl rfl) (Kq rfl (Fa (q := 2) rfl rfl u26 rfl rfl) (Kq rfl (Ld rfl rfl .tc u22) ?_)))
       refine Kq rfl (rd_sne rfl rfl rfl) (Km rfl ?_)
       refine Nb 44 rfl (fun hg44 => ?_) (fun hg44 => ?_)
       ·(try simp only [sB] at hg44)
        refine Kt rfl (Kt rfl (Kt rfl (Kt rfl (Kq rfl (Rp rfl rfl rfl) (Ka rfl (Nn ?_))))))
        refine WX.joinP (()) (S2 rfl rfl) (by refine (Sc ?_ (S0 _)) <;> ((refine slot_b rfl ?_; (try dsimp only); (simp [*]; done)))) ?_ (by (exact fun _ h => h))
        (try dsimp only)
        done
       ·(try simp only [sB] at hg44)
        refine Kq rfl (Fa (q := 1) rfl rfl u33 rfl rfl) ?_
        refine Kq rfl (ldp rfl rfl .tc u26 rfl (by kernel_rfl : _ = some 2) (by rfl) (by rfl)) ?_
        refine Ku rfl (Oc rfl rfl (Kv fun w hS => pcheck_c (g := k.g))) ?_
        refine Kq rfl (rd_neq rfl rfl rfl) (Kq rfl (Rq rfl rfl rfl) (Ka rfl (Nn ?_)))
        refine WX.joinP (()) (S2 rfl rfl) (by refine (Sc ?_ (S0 _)) <;> ((refine slot_b rfl ?_; (try dsimp only); (simp [*]; done)))) ?_ (by (exact fun _ h => h))
        (try dsimp only)
        done
      ·rintro _ hmeet; (try dsimp only at hmeet ⊢)
       refine Cd rfl (fun hc39 => ?_) (fun hc39 => ?_)
       ·(try simp only [sB] at hc39)
        refine Cs ?_
        refine Ng rfl rfl (st rfl rfl rfl .tc (by kernel_rfl) rfl ?_ (by (simp only [List.set_cons_zero, List.set_cons_succ]; rfl))) ?_
        ·decide
        intro _
        refine Nt (Ce (Xf (Xb ?_)))
        exact WX.retM1 hD1 rfl (.one rfl .tc u43 rfl .nil) fun w' hS => ⟨by rw [chkN, if_neg (fun h => h h0), if_neg (fun h => h hok2), if_neg (fun h => h hnm), if_pos hc39]; rfl, hS.below⟩
       ·(try simp only [sB] at hc39)
        have hcg : chkG k.g = 0 := Decidable.byContradiction fun h => hc39 (Or.inr h)
        refine WC.joinP (σ := Unit) [(3, _), (4, _)] (fun gq => [(50, .bool (decide (k.r.length < 2 ∨ 18 < k.r.length)))]) (fun gq => True) (S2 rfl rfl) ?_ ?_
        ·skip
         refine Cg (Kq rfl (Fa (q := 5) rfl rfl u33 rfl rfl) (Kq rfl (Ld rfl rfl .tc u31) ?_))
         refine Kq rfl (rd_len rfl rfl u31) (Kq rfl (rd_lss rfl rfl rfl) (Km rfl ?_))
         refine Nb 55 rfl (fun hg55 => ?_) (fun hg55 => ?_)
         ·(try simp only [sB] at hg55)
          refine Kt rfl (Kt rfl (Kt rfl (Kt rfl (Kq rfl (Rp rfl rfl rfl) (Ka rfl (Nn ?_))))))
          refine WX.joinP (()) (S2 rfl rfl) (by refine (Sc ?_ (S0 _)) <;> ((exact congrArg (fun b => some (Value.bool b)) (by symm; apply decide_eq_true; omega)))) ?_ (by (exact fun _ h => h))
          (try dsimp only)
          done
         ·(try simp only [sB] at hg55)
          refine Kq rfl (Fa (q := 5) rfl rfl u33 rfl rfl) (Kq rfl (Ld rfl rfl .tc u31) ?_)
          refine Kq rfl (rd_len rfl rfl u31) (Kq rfl (rd_gtr rfl rfl rfl) (Kq rfl (Rq rfl rfl rfl) (Ka rfl (Nn ?_))))
          refine WX.joinP (()) (S2 rfl rfl) (by refine (Sc ?_ (S0 _)) <;> ((refine slot_b rfl ?_; (try dsimp only); (exact decide_eq_decide.2 (by omega))))) ?_ (by (exact fun _ h => h))
          (try dsimp only)
          done
        ·rintro _ hmeet; (try dsimp only at hmeet ⊢)
         refine Cd rfl (fun hc50 => ?_) (fun hc50 => ?_)
         ·(try simp only [sB] at hc50)
          refine Cs ?_
          refine Ng rfl rfl (st rfl rfl rfl .tc (by kernel_rfl) rfl ?_ (by (simp only [List.set_cons_zero, List.set_cons_succ]; rfl))) ?_
          ·decide
          intro _
          refine Nt (Ce (Xf (Xb ?_)))
          exact WX.retM1 hD1 rfl (.one rfl .tc u43 rfl .nil) fun w' hS => ⟨by rw [chkN, if_neg (fun h => h h0), if_neg (fun h => h hok2), if_neg (fun h => h hnm), if_neg hc39, if_pos hc50]; rfl, hS.below⟩
         ·(try simp only [sB] at hc50)
          refine Ck (Xd (Xa (Cq (Cs ?_))))
          refine Kq rfl (lda rfl rfl .tc u33 rfl ?_) ?_
          ·kernel_rfl
          refine Kh rfl (Oc rfl rfl (fun w hS => ibases_c (k := k) (rv := .slice a k.r.length c) hS)) ?_
          intro g62
          refine Nt (Cb ?_)
          refine WC.range2 (CO := KCO p k (.slice a k.r.length c) b2 b3 b4 g62) (pg := fun _ _ => True) (inv := fun _ _ => True) (after := aftE k) (stop := stpE k) (enc := fun y : Int × Bs => #[Value.int .i64 y.1, Value.string (S y.2)]) ((0 : Int)) (()) ((itL (aftE k) (stpE k) (kbs k) 0).1) ((itL (aftE k) (stpE k) (kbs k) 0).2) (trivial) rfl (by kernel_rfl) (fun _ => rfl) (by exact fun w h => st_sub w h) ?_ (fun l r D w hl' hY hS => ibs_i (k := k) (a := a) (c := c) (b1 := g62) hY hS trivial (fun _ _ => trivial) hl) ?_ ?_
          ·intro l r D f a s g x ext wr hl hi hpg hF hS
           rw [fold2]
           refine round_of (Fr.tm ((hF.put (d := 63) rfl _).put (d := 64) rfl _)) hS ?_
           refine WR.sr (by kernel_rfl) ?_
           refine Ka rfl (Nt ?_)
           refine WR.region (by kernel_rfl) ?_
           refine Ka rfl (Nn ?_)
           refine WX.begin hl ?_
           refine Cb ?_
           refine WC.joinP (σ := Unit) [(4, _)] (fun gq => [(78, .bool (decide (¬ elJ k x)))]) (fun gq => True) (S1 rfl) ?_ ?_
           ·skip
            refine WR.region (by kernel_rfl) ?_
            refine Kq rfl (Fa (q := 1) rfl rfl u33 rfl rfl) ?_
            refine Kq rfl (ldp rfl rfl .tc u26 rfl (by kernel_rfl : _ = some 2) (by rfl) (by rfl)) ?_
            refine Km rfl ?_
            refine Ku rfl (Oc rfl rfl (Kv fun w hS => pwhas_c (g := k.g) (x := x.2) (by assumption))) ?_
            refine Ns 68 rfl (v' := .bool (decide (elG k.g x.2))) (congrArg Value.bool (by simp [hcg])) ?_
            refine Kq rfl (Rt rfl rfl) (Km rfl ?_)
            refine Nb 70 rfl (fun hg70 => ?_) (fun hg70 => ?_)
            ·(try simp only [sB] at hg70)
             refine Kt rfl (Kt rfl (Kt rfl (Kt rfl (Kt rfl (Kt rfl (Kt rfl (Kq rfl (Rp rfl rfl rfl) (Nn ?_))))))))
             refine WX.joinP (()) (S1 rfl) (by refine (Sc ?_ (S0 _)) <;> ((refine slot_b rfl ?_; (try dsimp only); (simp [*]; done)))) ?_ (by (exact fun _ h => h))
             (try dsimp only)
             done
            ·(try simp only [sB] at hg70)
             refine Km rfl (Kq rfl (rd_eql rfl rfl rfl) (Km rfl ?_))
             refine Nb 73 rfl (fun hg73 => ?_) (fun hg73 => ?_)
             ·(try simp only [sB] at hg73)
              refine Km rfl ?_
              refine Ku rfl (Oc rfl rfl (Kv fun w hS => of_c (by (dsimp only; omega)))) ?_
              refine Kq rfl (rd_seq rfl rfl rfl) (Kq rfl (Rp rfl rfl rfl) (Kq rfl (Rq rfl rfl rfl) (Nn ?_)))
              refine WX.joinP (()) (S1 rfl) (by refine (Sc ?_ (S0 _)) <;> ((refine slot_b rfl ?_; (try dsimp only); (simp [*]; done)))) ?_ (by (exact fun _ h => h))
              (try dsimp only)
              done
             ·(try simp only [sB] at hg73)
              refine Kt rfl (Kt rfl (Kt rfl (Kq rfl (Rq rfl rfl rfl) (Kq rfl (Rq rfl rfl rfl) (Nn ?_)))))
              refine WX.joinP (()) (S1 rfl) (by refine (Sc ?_ (S0 _)) <;> ((refine slot_b rfl ?_; (try dsimp only); (simp [*]; done)))) ?_ (by (exact fun _ h => h))
              (try dsimp only)
              done
           ·rintro _ hmeet; (try dsimp only at hmeet ⊢)
            refine Cd rfl (fun hc78 => ?_) (fun hc78 => ?_)
            ·(try simp only [sB] at hc78)
             refine WR.sr (by kernel_rfl) ?_
             refine Ng rfl rfl (st rfl rfl rfl .tc (by kernel_rfl) rfl ?_ (by (simp only [List.set_cons_zero, List.set_cons_succ]; rfl))) ?_
             ·(simp; done)
             intro _
             refine Nt (Ce (Xf ?_))
             exact WX.rret hl fun w' hS => by
              have h1 : ¬ elJ k x := hc78
              have h2 : stpE k s x = some .ret := if_neg h1
              have h3 : aftE k s x = 13 := if_neg h1
              rw [h2, h3]
              exact ⟨rfl, (), fun h => (by cases h), hS⟩
            ·(try simp only [sB] at hc78)
             refine Ck (Xd ?_)
             exact WX.rnext hl fun w' hS => by
              have h1 : elJ k x := Decidable.not_not.1 hc78
              have h2 : stpE k s x = none := if_pos h1
              have h3 : aftE k s x = s := if_pos h1
              rw [h2, h3]
              exact ⟨rfl, (), fun _ => trivial, hS⟩
          ·intro D2 g2 hD2 hne2 hg2 hcf
           have hv2 : ∀ y ∈ kbs k, elJ k y := Decidable.byContradiction fun h => by rw [hitE, if_neg h] at hcf; cases hcf
           rw [hitE, if_pos hv2]
           refine Xd (Xa (Cs ?_))
           refine Ng rfl rfl (st rfl rfl rfl .tc (by kernel_rfl) rfl ?_ (by (simp only [List.set_cons_zero, List.set_cons_succ]; rfl))) ?_
           ·decide
           intro _
           refine Nt (Ce ?_)
           exact WX.retM2 hD1 hD2 (hne2 _ (by simp)) rfl (.one rfl .tc u43 rfl .nil) fun w' hS => ⟨by rw [chkN, if_neg (fun h => h h0), if_neg (fun h => h hok2), if_neg (fun h => h hnm), if_neg hc39, if_neg hc50, if_neg (fun h => h ((elJ_all k).1 hv2))]; rfl, hS.below⟩
          ·intro D2 g2 c hD2 hne2 hcf
           obtain rfl : c = .ret := by (rw [hitE] at hcf; split at hcf <;> (cases hcf <;> rfl))
           refine Ce ?_
           have hn : ¬ ∀ y ∈ kbs k, elJ k y := fun h => by rw [hitE, if_pos h] at hcf; cases hcf
           rw [hitE, if_neg hn]
           refine Xf (Xb ?_)
           exact WX.retM2 hD1 hD2 (hne2 _ (by simp)) rfl (.one rfl .tc u43 rfl .nil) fun w' hS => ⟨by rw [chkN, if_neg (fun h => h h0), if_neg (fun h => h hok2), if_neg (fun h => h hnm), if_neg hc39, if_neg hc50, if_pos (fun h => hn ((elJ_all k).2 h))]; rfl, hS.below⟩
    ·intro D1 g1 c hD1 hcf
     obtain rfl : c = .ret := by (rw [hitV] at hcf; split at hcf <;> (cases hcf <;> rfl))
     refine Ce ?_
     have hn : ¬ ∀ y ∈ kbs k, okN y.2 := fun h => by rw [hitV, if_pos h] at hcf; cases hcf
     rw [hitV, if_neg hn]
     refine Xf (Xb ?_)
     exact WX.retM1 hD1 rfl (.one rfl .tc u43 rfl .nil) fun w' hS => ⟨by rw [chkN, if_neg (fun h => h h0), if_pos (fun h => hn ((kbs_all k okN).2 h.2))]; rfl, hS.below⟩
end Go.Proofs.YthkmpjobfdeoaaaGreatDoor
