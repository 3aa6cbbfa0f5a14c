/-
  Parts of the walk: Pwh.
-/
import Derived.Test.YtddoigmffkmpcaaGreatDoorJ17
namespace Go.Proofs.YtddoigmffkmpcaaGreatDoor
open Go.RowKit
set_option linter.unusedSimpArgs false
set_option linter.unusedVariables false
set_option maxHeartbeats 600000
set_option maxRecDepth 20000
theorem wf_u32 {n : Int} (h : (Lit.int .u32 n).wf = true) : 0 ≤ n ∧ n ≤ 4294967295 := by
 have e1 : IntKind.u32.min = 0 := by decide
 have e2 : IntKind.u32.max = 4294967295 := by decide
 simp [Lit.wf, e1, e2] at h; omega
theorem small_ord {k : PK} {s : Bs} {l : List Bs} (h : sml k s l) (hb : (bseS k s).2 = 0) : smallN k.1.2 = (val k.1.2, true) := by
 have h8 := h.1 k.1.2 (by simp [smL])
 rw [smallN, if_pos ⟨(chkG_ok (bse_ok hb).1).2.1, by omega⟩]
theorem psholds_l {k : PK} {s : Bs} {x y : Nat} {w : World} (hx : x < 4294967296) (hy : y < 4294967296) (hT : Tab w) (hD : TabD w) :
  Cw 6 #[pkV k, .string (S s), .agg #[.int .u32 (x : Int), .int .u32 (y : Int)]] w (.bool true) := by
 refine En [] [(0, pkV k), (1, .string (S s)), (2, .agg #[.int .u32 (x : Int), .int .u32 (y : Int)])] Tryz.func6 rfl Tryz.ntmps6 rfl (Ac rfl (Ac rfl (Ac rfl (An _)))) Fn ?_
 refine Cs ?_
 refine Kh rfl (Oy rfl rfl) ?_
 intro b3
 refine Kh rfl (Oy rfl rfl) ?_
 intro b5
 refine Ka rfl (Nt (Cq ?_))
 refine WC.joinP (σ := Unit) [(1, _), (3, _), (5, _)] (fun gq => [(35, .bool (decide (¬ (sml k s [] ∧ valP k ∧ (bseS k s).2 = 0))))]) (fun gq => True) (S3 rfl rfl rfl) ?_ ?_
 ·skip
  refine Cg ?_
  refine Kq rfl (lda rfl rfl .tc u26 rfl ?_) ?_
  ·kernel_rfl
  refine Km rfl ?_
  refine Ku rfl (Oc rfl rfl (Kv fun w hS => small48n_c (k := k) (s := s))) ?_
  refine Kq rfl (Rt rfl rfl) (Km rfl ?_)
  refine Nb 25 rfl (fun hg25 => ?_) (fun hg25 => ?_)
  ·(try simp only [sB] at hg25)
   refine Kt rfl (Kt rfl (Kt rfl (Kq rfl (Rp rfl rfl rfl) (Km rfl (Kt rfl (Kt rfl (Kt rfl (Kt rfl (Kq rfl (Rp rfl rfl rfl) (Nn ?_))))))))))
   refine WX.joinP (()) (S3 rfl rfl rfl) (by refine (Sc ?_ (S0 _)) <;> ((refine slot_b rfl ?_; (try dsimp only); (simp [*]; done)))) ?_ (by (exact fun _ h => h))
   (try dsimp only)
   done
  ·(try simp only [sB] at hg25)
   refine Kq rfl (lda rfl rfl .tc u26 rfl ?_) ?_
   ·kernel_rfl
   refine Ku rfl (Oc rfl rfl (Kv fun w hS => valid48_c (k := k) (by exact (sml_b (show sml k s [] by assumption)).1) (by exact tabd_st hD hS))) ?_
   refine Kq rfl (Rt rfl rfl) (Kq rfl (Rq rfl rfl rfl) (Km rfl ?_))
   refine Nb 30 rfl (fun hg30 => ?_) (fun hg30 => ?_)
   ·(try simp only [sB] at hg30)
    refine Kt rfl (Kt rfl (Kt rfl (Kt rfl (Kq rfl (Rp rfl rfl rfl) (Nn ?_)))))
    refine WX.joinP (()) (S3 rfl rfl rfl) (by refine (Sc ?_ (S0 _)) <;> ((refine slot_b rfl ?_; (try dsimp only); (simp [*]; done)))) ?_ (by (exact fun _ h => h))
    (try dsimp only)
    done
   ·(try simp only [sB] at hg30)
    refine Kq rfl (lda rfl rfl .tc u26 rfl ?_) ?_
    ·kernel_rfl
    refine Km rfl ?_
    refine Ku rfl (Oc rfl rfl (Kv fun w hS => based48_c (k := k) (s := s) (by exact (sml_b (show sml k s [] by assumption)).1) (by (have := (sml_b (show sml k s [] by assumption)).2; omega)))) ?_
    refine Kq rfl (Rt rfl rfl) (Kq rfl (Rq rfl rfl rfl) (Nn ?_))
    refine WX.joinP (()) (S3 rfl rfl rfl) (by refine (Sc ?_ (S0 _)) <;> ((refine slot_b rfl ?_; (try dsimp only); (simp [*]; done)))) ?_ (by (exact fun _ h => h))
    (try dsimp only)
    done
 ·rintro _ hmeet; (try dsimp only at hmeet ⊢)
  refine Cd rfl (fun hc35 => ?_) (fun hc35 => ?_)
  ·(try simp only [sB] at hc35)
   refine Cs ?_
   refine Ku rfl (Oc rfl rfl (Kv fun w hS => awake48_c (by (exact tab_st hT hS)))) ?_
   refine Ka rfl (Nt (Ce (Xb ?_)))
   exact R1 rfl rfl (by rfl)
  ·(try simp only [sB] at hc35)
   obtain ⟨hsm, hvl, hb⟩ := Decidable.not_not.1 hc35
   obtain ⟨hm8, hs2⟩ := sml_b hsm
   obtain ⟨p1, p2, p3, p4, p5⟩ := ps_holds hb hx hy
   have hso := small_ord hsm hb
   have hqp : 0 < val k.1.2 := pos_of_ne (chkG_ok (bse_ok hb).1).2.1 (bse_ok hb).2.1
   have hq8 : val k.1.2 < 18446744073709551616 := by have := small_lt k.1.2; rw [hso] at this; exact this
   have hqo := (chkG_ok (bse_ok hb).1).2.1
   have hmq : x % val k.1.2 ≤ x := Nat.mod_le x _
   refine Ck (Xa (Cq ?_))
   refine Cf [0, 1, 2, 3, 4, 5, 6, 7, 8, 9, 10, 11, 12, 13, 14] [] [0, 0, 0, 1, 0, 0, 0, 0, 0, 0, 0, 0, 1, 0, 0] (by kernel_rfl) (by kernel_rfl) rfl ?_
   refine Kj rfl (Jb rfl rfl rfl Tryz.underlying57 (by kernel_rfl : _ = some 1) ?_) ?_
   ·omega
   refine Kj rfl (Ld rfl rfl .tc u56) ?_
   refine Kj rfl (rd_convW rfl rfl u56 u49 (by omega)) ?_
   refine Jv rfl rfl rfl rfl rfl (fun ext => Oc rfl rfl (Kv fun w hS => rof_c (n := x) (by omega))) ?_
   refine Kj rfl (Jb rfl rfl rfl Tryz.underlying57 (by kernel_rfl : _ = some 1) ?_) ?_
   ·omega
   refine Kj rfl (Ld rfl rfl .tc u56) ?_
   refine Kj rfl (rd_convW rfl rfl u56 u49 (by omega)) ?_
   refine Kj rfl (Jb rfl rfl rfl Tryz.underlying57 (by kernel_rfl : _ = some 1) ?_) ?_
   ·omega
   refine Kj rfl (Ld rfl rfl .tc u56) ?_
   refine Kj rfl (rd_convW rfl rfl u56 u49 (by omega)) (Kj rfl (rd_addW rfl rfl rfl (by omega)) (Kj rfl (rd_addW (c := 1) rfl rfl rfl (by omega)) ?_))
   refine WJ.set 48 rfl (v' := .int .u64 ((x + y + 1 : Nat) : Int)) (congrArg (Value.int .u64) (by omega)) ?_
   refine Jv rfl rfl rfl rfl rfl (fun ext => Oc rfl rfl (Kv fun w hS => rof_c (n := x + y + 1) (by omega))) ?_
   refine Kj rfl (Ra rfl rfl) (Kj rfl (Ra rfl rfl) ?_)
   refine WJ.nil ?_
   refine Nt (Cs ?_)
   refine Kq rfl (lda rfl rfl .tc u26 rfl ?_) ?_
   ·kernel_rfl
   refine Km rfl (Km rfl ?_)
   refine Ku rfl (Oc rfl rfl (Kv fun w hS => psnym_c (k := k) (s := s) (x := canon x) (by exact hm8) (by omega) (by exact tab_st hT hS))) ?_
   refine Km rfl (Kq rfl (Re rfl rfl rfl) (Kq rfl (Re rfl rfl rfl) (Ka rfl (Ka rfl (Nt (Cs ?_))))))
   refine Kq rfl (lda rfl rfl .tc u26 rfl ?_) ?_
   ·kernel_rfl
   refine Km rfl (Km rfl (Km rfl ?_))
   refine Kh rfl (Oc rfl rfl (keep_ff fun w hS => psstate_c (k := k) (s := s) (n := (nymS k s (canon x)).1) (b := canon (x + y + 1)) (by exact hm8) (by omega) (by exact tab_st hT hS))) ?_
   rintro s1
   refine WL.pu ?_
   intro hg62; (try dsimp only [List.cons_append, List.nil_append] at hg62 ⊢)
   refine Km rfl (Kq rfl (Re rfl rfl rfl) (Kq rfl (Re rfl rfl rfl) ?_))
   refine Kh rfl (Oz [.slice none 0 0, .slice none 0 0, .slice none 0 0] rfl) ?_
   intro b11
   refine Nu rfl rfl (Sa rfl rfl rfl .tc) ?_
   refine Ka rfl (Nt (Cs ?_))
   refine Kq rfl (lda rfl rfl .tc u41 rfl ?_) ?_
   ·kernel_rfl
   refine Km rfl (Kq rfl (Kb [[.bool false], [.string (S [])]] rfl rfl) ?_)
   refine Kh rfl (og_bsN rfl rfl u62 (by kernel_rfl : _ = some (some (.agg #[.bool false, .string (S [])]), 2, 24)) (by kernel_rfl) (by decide) rfl rfl (by (simp [Value.cells]; done)) (by (exact cells_one _)) (by decide)) ?_
   intro b69
   refine Ku rfl (Oc rfl rfl (Kv fun w hS => (by have := holds_c (w := w) (s := s1) (ws := [(false, canon x)]) (a := some ⟨b69, 0, none⟩) (c := 1) hS.sl hS.sl hS.sl hS.os hS.more (saL_ps hm8 hg62) (by simp); rw [hg62, p3] at this; exact this))) ?_
   refine Km rfl (Kq rfl (Re rfl rfl rfl) (Kq rfl (Re rfl rfl rfl) (Ka rfl (Ka rfl (Nt (Cs ?_))))))
   refine Kq rfl (lda rfl rfl .tc u26 rfl ?_) ?_
   ·kernel_rfl
   refine Km rfl (Km rfl ?_)
   refine Kh rfl (Oc rfl rfl (keep_ff fun w hS => psstate_c (k := k) (s := s) (n := (nymS k s (canon x)).1) (b := []) (by exact hm8) (by omega) (by exact tab_st hT hS))) ?_
   rintro s2
   refine WL.pu ?_
   intro hg77; (try dsimp only [List.cons_append, List.nil_append] at hg77 ⊢)
   refine Km rfl (Kq rfl (Re rfl rfl rfl) (Kq rfl (Re rfl rfl rfl) ?_))
   refine Kh rfl (Oz [.slice none 0 0, .slice none 0 0, .slice none 0 0] rfl) ?_
   intro b15
   refine Nu rfl rfl (Sa rfl rfl rfl .tc) ?_
   refine Ka rfl (Nt (Cs (Kq rfl (Fa (q := 0) rfl rfl u26 rfl rfl) (Kq rfl (Fa (q := 1) rfl rfl u24 rfl rfl) (Kq rfl (Ld rfl rfl .tc u22) ?_)))))
   refine Ku rfl (Oc rfl rfl (Kv fun w hS => (by have := rsmall_c (w := w) (a := k.1.2); rw [hso] at this; exact this))) ?_
   refine Km rfl (Kq rfl (Re rfl rfl rfl) (Kq rfl (Re rfl rfl rfl) (Ka rfl (Ka rfl (Nt (Cq ?_))))))
   refine Cf [1, 2, 3, 4, 5, 6, 0, 7, 8, 9, 10, 11, 12, 13, 14] [] [0, 0, 0, 0, 0, 0, 1, 0, 3, 1, 0, 0, 0, 0, 0] (by kernel_rfl) (by kernel_rfl) rfl ?_
   refine Kj rfl (Jb rfl rfl rfl Tryz.underlying57 (by kernel_rfl : _ = some 1) ?_) ?_
   ·omega
   refine Kj rfl (Ld rfl rfl .tc u56) ?_
   refine Kj rfl (rd_convW rfl rfl u56 u49 (by omega)) (Kj rfl (Rm rfl rfl) ?_)
   refine Kj rfl (rd_remW rfl rfl rfl ?_) ?_
   ·assumption
   refine Jv rfl rfl rfl rfl rfl (fun ext => Oc rfl rfl (Kv fun w hS => rof_c (n := x % val k.1.2) (by omega))) ?_
   refine Kj rfl (lda rfl rfl .tc u41 rfl ?_) ?_
   ·kernel_rfl
   refine Kj rfl (Kb [[.bool false], [.string (S [])]] rfl rfl) ?_
   refine Jf rfl rfl rfl rfl rfl (fr_bsN rfl rfl u62 (by kernel_rfl : _ = some (some (.agg #[.bool false, .string (S [])]), 2, 24)) (by kernel_rfl) (by decide) rfl rfl (by (simp [Value.cells]; done)) (by (exact cells_one _)) (by decide)) ?_
   intro b96
   refine Jv rfl rfl rfl rfl rfl (fun ext => Oc rfl rfl (Kv fun w hS => (by have := holds_c (w := w) (s := s2) (ws := [(false, canon (x % val k.1.2))]) (a := some ⟨b96, 0, none⟩) (c := 1) hS.sl hS.sl hS.sl hS.os hS.more (saL_ps hm8 hg77) (by simp); rw [hg77, p5] at this; exact this))) ?_
   refine Kj rfl (Rm rfl rfl) (Kj rfl (Re rfl rfl rfl) (Kj rfl (Re rfl rfl rfl) (Kj rfl (Ra rfl rfl) (Kj rfl (Ra rfl rfl) ?_))))
   refine WJ.nil ?_
   refine Nt (Cs (Km rfl (Km rfl (Kq rfl (rd_add64 rfl rfl rfl (by omega)) (Km rfl (Kq rfl (rd_add64 rfl rfl rfl (by omega)) (Km rfl (Kq rfl (rd_add64 rfl rfl rfl (by omega)) (Km rfl (Kq rfl (rd_add64 rfl rfl rfl (by omega)) (Kq rfl (rd_eql rfl rfl rfl) (Km rfl ?_))))))))))))
   refine Ns 110 rfl (v' := .bool true) (by (exact congrArg Value.bool (by simp [*]; done))) ?_
   refine Km rfl (Kq rfl (Rp rfl rfl rfl) (Km rfl ?_))
   refine Ns 113 rfl (v' := .bool true) (by rfl) ?_
   refine Km rfl (Kq rfl (Rp rfl rfl rfl) (Km rfl ?_))
   refine Ns 116 rfl (v' := .bool true) (by rfl) ?_
   refine Ku rfl (Oc rfl rfl (Kv fun w hS => awake48_c (by (exact tab_st hT hS)))) ?_
   refine Kq rfl (Rp rfl rfl rfl) (Ka rfl (Nt (Ce ?_)))
   exact R1 rfl rfl (by rfl)
theorem psholds_i {k : PK} {s : Bs} {x y : Int} {w : World} (hx : (Lit.int .u32 x).wf = true) (hy : (Lit.int .u32 y).wf = true) (hT : Tab w) (hD : TabD w) :
  Cw 6 #[pkV k, .string (S s), .agg #[.int .u32 x, .int .u32 y]] w (.bool true) :=
 by obtain ⟨h0, h1⟩ := wf_u32 hx; obtain ⟨h2, h3⟩ := wf_u32 hy; obtain ⟨n, rfl⟩ := Int.eq_ofNat_of_zero_le h0; obtain ⟨m, rfl⟩ := Int.eq_ofNat_of_zero_le h2; exact psholds_l (by omega) (by omega) hT hD
end Go.Proofs.YtddoigmffkmpcaaGreatDoor
