/-
  Parts of the walk: Nlh.
-/
import Derived.Test.YthkmpjobfdeoaaaGreatDoorH22
namespace Go.Proofs.YthkmpjobfdeoaaaGreatDoor
open Go.RowKit
set_option linter.unusedSimpArgs false
set_option linter.unusedVariables false
set_option maxHeartbeats 600000
set_option maxRecDepth 20000
def fH (q : NC) (i : Nat) : Bs := canon (powI (val q.k.g.1) (val q.w) 1 * powI (val q.k.g.1) (val q.k.h) (i : Int) % val q.k.g.1)
abbrev nums (l : List Nat) : List Value := l.map fun n : Nat => Value.int .i64 (n : Int)
abbrev ncC (q : NC) (rv : Value) : List Value := [.string (S q.p.ch), .string (S q.p.sl), .string (S q.p.mn.1.1), .string (S q.p.mn.1.2), .string (S q.p.mn.2.1), .string (S q.p.mn.2.2), .string (S q.p.wh.1.1), .string (S q.p.wh.1.2), .string (S q.p.wh.2.1), .string (S q.p.wh.2.2), .string (S q.p.sec), .string (S q.p.attr), .string (S q.p.han), .string (S q.p.lo), .string (S q.p.sz), .string (S q.p.bl), .string (S q.p.msk), .string (S q.k.name), .string (S q.k.g.1), .string (S q.k.g.2), .string (S q.k.z), .string (S q.k.s), rv, .string (S q.k.u), .string (S q.k.h), .string (S q.acc), .string (S q.w), .string (S q.u), .string (S q.r)]
def cntsB (d r : Nat) : List Nat := if r < d then cntsD d r ++ [0] else cntsD d r
theorem cntsB_len {d r : Nat} : (cntsB d r).length = min (r + 1) d := by
 unfold cntsB; split
 ·rw [List.length_append, cnts_len]; simp; omega
 ·rw [cnts_len]; omega
theorem cnt_le (d r i : Nat) : cntD d r i ≤ r + 1 := by
 have := Nat.div_le_self r d
 unfold cntD; split <;> omega
theorem cntsB_set {d r : Nat} (hd : 0 < d) {i : Nat} (hi : (r < d ∧ i = r) ∨ (d ≤ r ∧ i = r % d)) : (cntsB d r).set i ((cntsB d r).getD i default + 1) = cntsD d (r + 1) := by
 rcases hi with ⟨h1, rfl⟩ | ⟨h1, rfl⟩
 ·rw [cntsB, if_pos h1, cnts_new h1]
  congr 1
  rw [List.getD_eq_getElem?_getD, List.getElem?_append_right (by rw [cnts_len]; omega), cnts_len, Nat.min_eq_left (by omega), Nat.sub_self]; rfl
 ·rw [cntsB, if_neg (by omega), cnts_old hd h1]
  congr 1
  rw [cnts_get (by rw [Nat.min_eq_right h1]; exact Nat.mod_lt r hd)]
theorem cnts_mem {d r x : Nat} (h : x ∈ cntsD d r) : x ≤ r + 1 := by
 unfold cntsD at h
 obtain ⟨j, _, rfl⟩ := List.mem_map.1 h
 exact cnt_le d r j
theorem cntsB_le {d r i : Nat} : (cntsB d r).getD i default ≤ r + 1 := by
 by_cases hi : i < (cntsB d r).length
 ·have hm := getD_mem (cntsB d r) i hi
  generalize (cntsB d r).getD i default = x at *
  unfold cntsB at hm
  split at hm
  ·rcases List.mem_append.1 hm with hm | hm
   ·exact cnts_mem hm
   ·have := List.mem_singleton.1 hm; omega
  ·exact cnts_mem hm
 ·rw [List.getD_eq_getElem?_getD, List.getElem?_eq_none (by omega)]; exact Nat.zero_le _
theorem seen_app {f : Nat → Bs} {d r : Nat} (h : r < d) : strs (seenD f d (r + 1)) = strs (seenD f d r) ++ [Value.string (S (f r))] := by
 rw [seen_new f h]; simp only [strs, List.map_append, List.map_cons, List.map_nil]
theorem nums_app {d r : Nat} (h : r < d) : nums (cntsB d r) = nums (cntsD d r) ++ [Value.int .i64 0] := by
 rw [cntsB, if_pos h]; simp only [nums, List.map_append, List.map_cons, List.map_nil]; rfl
theorem nums_at {l : List Nat} {sp : List Value} {i : Nat} (h : i < l.length) : (nums l ++ sp)[i]? = some (.int .i64 ((l.getD i default : Nat) : Int)) := by
 rw [List.getElem?_append_left (by simpa using h), List.getElem?_map, List.getElem?_eq_getElem h, List.getD_eq_getElem?_getD, List.getElem?_eq_getElem h]; rfl
theorem nums_set {l : List Nat} {sp : List Value} {i n : Nat} (h : i < l.length) : (nums l ++ sp).set i (.int .i64 (n : Int)) = nums (l.set i n) ++ sp := by
 rw [List.set_append_left _ _ (by simpa using h)]; simp only [nums, List.map_set]
theorem place {α : Type} [Inhabited α] [DecidableEq α] {f : Nat → α} {d r i : Nat} (hd : 0 < d) (hf : ∀ r s, f r = f s ↔ r % d = s % d) (hi : i ≤ min r d) (hb : ∀ j, j < i → (seenD f d r).getD j default ≠ f r)
  (he : ¬ (i < min r d ∧ (seenD f d r).getD i default ≠ f r)) : (r < d ∧ i = r) ∨ (d ≤ r ∧ i = r % d) := by
 have hm := Nat.mod_lt r hd
 by_cases hr : r < d
 ·refine .inl ⟨hr, ?_⟩
  have hmr : min r d = r := Nat.min_eq_left (by omega)
  rw [hmr] at hi he
  rcases Nat.lt_or_eq_of_le hi with h | h
  ·exfalso
   refine he ⟨h, fun e => ?_⟩
   rw [seen_get f (by omega), hf, Nat.mod_eq_of_lt (by omega), Nat.mod_eq_of_lt hr] at e
   omega
  ·exact h
 ·refine .inr ⟨by omega, ?_⟩
  have hmr : min r d = d := Nat.min_eq_right (by omega)
  rw [hmr] at hi he
  have hid : i < d := by
   refine Decidable.byContradiction fun h => ?_
   refine hb (r % d) (by omega) ?_
   rw [seen_get f (by omega), hf, Nat.mod_mod]
  have e : (seenD f d r).getD i default = f r := Decidable.byContradiction fun h => he ⟨hid, h⟩
  rw [seen_get f (by omega), hf, Nat.mod_eq_of_lt hid] at e
  exact e
theorem h400 : 400 < Big := by decide +kernel
theorem nhides_l {q : NC} {a : Option Addr} {c : Nat} {w : World} {ok : Nat → Prop} (hF1 : (Fact.sl a (strs q.k.r)).holds ok w) (hl : q.k.r.length ≤ 140737488351232) (hml : q.p.msk.length ≤ 140737488351232) (hT : Tab w) (hD : TabD w) :
  Cw 7 #[ncV q (.slice a q.k.r.length c)] w (.bool true) := by
 refine En [Fact.sl a (strs q.k.r)] [(0, ncV q (.slice a q.k.r.length c))] Tryz.func7 rfl Tryz.ntmps7 rfl (Ac rfl (An _)) (Fc (fact_any hF1) Fn) ?_
 refine Cs ?_
 refine Kh rfl (Oy rfl rfl) ?_
 intro b1
 refine Ka rfl (Nt (Cs (Kq rfl (Fa (q := 0) rfl rfl u35 rfl rfl) (Kq rfl (Fa (q := 16) rfl rfl u30 rfl rfl) (Kq rfl (Ld rfl rfl .tc u22) ?_)))))
 refine Ku rfl (Oc rfl rfl (Kv fun w hS => small_c (a := q.p.msk) (by omega))) ?_
 refine Km rfl (Kq rfl (Re rfl rfl rfl) (Kq rfl (Re rfl rfl rfl) (Ka rfl (Ka rfl (Nt (Cq ?_))))))
 refine WC.joinP (σ := Unit) [(1, _), (3, _)] (fun gq => [(50, .bool (decide (¬ ((smallN q.p.msk).2 = true ∧ (smallN q.p.msk).1 ≤ 400 ∧ fewN q ∧ chkN q.p q.k = 0 ∧ (chkG q.k.g = 0 ∧ elG q.k.g q.w)))))]) (fun gq => True) (S2 rfl rfl) ?_ ?_
 ·skip
  refine Cg (Km rfl (Kq rfl (Rt rfl rfl) (Km rfl ?_)))
  refine Nb 25 rfl (fun hg25 => ?_) (fun hg25 => ?_)
  ·(try simp only [sB] at hg25)
   refine Kt rfl (Kt rfl (Kq rfl (Rp rfl rfl rfl) (Km rfl (Kt rfl (Kt rfl (Kt rfl (Kq rfl (Rp rfl rfl rfl) (Km rfl (Kt rfl (Kt rfl (Kt rfl (Kt rfl (Kt rfl (Kt rfl (Kq rfl (Rp rfl rfl rfl) (Km rfl (Kt rfl (Kt rfl (Kt rfl (Kt rfl (Kt rfl (Kt rfl (Kt rfl (Kq rfl (Rp rfl rfl rfl) (Nn ?_)))))))))))))))))))))))))
   refine WX.joinP (()) (S2 rfl rfl) (by refine (Sc ?_ (S0 _)) <;> ((refine slot_b rfl ?_; (try dsimp only); (simp [*]; done)))) ?_ (by (exact fun _ h => h))
   (try dsimp only)
   done
  ·(try simp only [sB] at hg25)
   refine Km rfl (Kq rfl (rd_gtr rfl rfl rfl) (Kq rfl (Rq rfl rfl rfl) (Km rfl ?_)))
   refine Nb 29 rfl (fun hg29 => ?_) (fun hg29 => ?_)
   ·(try simp only [sB] at hg29)
    refine Kt rfl (Kt rfl (Kt rfl (Kq rfl (Rp rfl rfl rfl) (Km rfl (Kt rfl (Kt rfl (Kt rfl (Kt rfl (Kt rfl (Kt rfl (Kq rfl (Rp rfl rfl rfl) (Km rfl (Kt rfl (Kt rfl (Kt rfl (Kt rfl (Kt rfl (Kt rfl (Kt rfl (Kq rfl (Rp rfl rfl rfl) (Nn ?_)))))))))))))))))))))
    refine WX.joinP (()) (S2 rfl rfl) (by refine (Sc ?_ (S0 _)) <;> ((exact congrArg (fun b => some (Value.bool b)) (by symm; apply decide_eq_true; omega)))) ?_ (by (exact fun _ h => h))
    (try dsimp only)
    done
   ·(try simp only [sB] at hg29)
    refine Kq rfl (lda rfl rfl .tc u35 rfl ?_) ?_
    ·kernel_rfl
    refine Ku rfl (Oc rfl rfl (Kv fun w hS => few38_c (q := q) (by (exact hS.sl)) (by assumption))) ?_
    refine Kq rfl (Rt rfl rfl) (Kq rfl (Rq rfl rfl rfl) (Km rfl ?_))
    refine Nb 34 rfl (fun hg34 => ?_) (fun hg34 => ?_)
    ·(try simp only [sB] at hg34)
     refine Kt rfl (Kt rfl (Kt rfl (Kt rfl (Kt rfl (Kt rfl (Kq rfl (Rp rfl rfl rfl) (Km rfl (Kt rfl (Kt rfl (Kt rfl (Kt rfl (Kt rfl (Kt rfl (Kt rfl (Kq rfl (Rp rfl rfl rfl) (Nn ?_))))))))))))))))
     refine WX.joinP (()) (S2 rfl rfl) (by refine (Sc ?_ (S0 _)) <;> ((refine slot_b rfl ?_; (try dsimp only); (simp [*]; done)))) ?_ (by (exact fun _ h => h))
     (try dsimp only)
     done
    ·(try simp only [sB] at hg34)
     refine Kq rfl (Fa (q := 0) rfl rfl u35 rfl rfl) ?_
     refine Kq rfl (ldp rfl rfl .tc u30 rfl (by kernel_rfl : _ = some 17) (by rfl) (by rfl)) ?_
     refine Kq rfl (Fa (q := 17) rfl rfl u35 rfl rfl) ?_
     refine Kq rfl (ldp rfl rfl .tc u33 rfl (by kernel_rfl : _ = some 8) (by rfl) (by rfl)) ?_
     refine Ku rfl (Oc rfl rfl (Kv fun w hS => icheck_c (p := q.p) (k := q.k) (by (exact hS.sl)) (by exact (fewN_b (show fewN q by assumption)).1) (by exact (fewN_b (show fewN q by assumption)).2.1) (by exact hl) (by exact (fewN_b (show fewN q by assumption)).2.2.2) (by exact tabd_st hD hS))) ?_
     refine Kq rfl (rd_neq rfl rfl rfl) (Kq rfl (Rq rfl rfl rfl) (Km rfl ?_))
     refine Nb 42 rfl (fun hg42 => ?_) (fun hg42 => ?_)
     ·(try simp only [sB] at hg42)
      refine Kt rfl (Kt rfl (Kt rfl (Kt rfl (Kt rfl (Kt rfl (Kt rfl (Kq rfl (Rp rfl rfl rfl) (Nn ?_))))))))
      refine WX.joinP (()) (S2 rfl rfl) (by refine (Sc ?_ (S0 _)) <;> ((refine slot_b rfl ?_; (try dsimp only); (simp [*]; done)))) ?_ (by (exact fun _ h => h))
      (try dsimp only)
      done
     ·(try simp only [sB] at hg42)
      refine Kq rfl (Fa (q := 17) rfl rfl u35 rfl rfl) (Kq rfl (Fa (q := 18) rfl rfl u33 rfl rfl) ?_)
      refine Kq rfl (ldp rfl rfl .tc u26 rfl (by kernel_rfl : _ = some 2) (by rfl) (by rfl)) ?_
      refine Kq rfl (Fa (q := 26) rfl rfl u35 rfl rfl) (Kq rfl (Ld rfl rfl .tc u22) ?_)
      refine Ku rfl (Oc rfl rfl (Kv fun w hS => pwhas_c (g := q.k.g) (x := q.w) (by exact (fewN_b (show fewN q by assumption)).2.1))) ?_
      refine Kq rfl (Rt rfl rfl) (Kq rfl (Rq rfl rfl rfl) (Nn ?_))
      refine WX.joinP (()) (S2 rfl rfl) (by refine (Sc ?_ (S0 _)) <;> ((refine congrArg (fun b => some (Value.bool b)) ?_; simp [*]; omega))) ?_ (by (exact fun _ h => h))
      (try dsimp only)
      done
 ·rintro _ hmeet; (try dsimp only at hmeet ⊢)
  refine Cd rfl (fun hc50 => ?_) (fun hc50 => ?_)
  ·(try simp only [sB] at hc50)
   refine Cs ?_
   refine Ku rfl (Oc rfl rfl (Kv fun w hS => awake38_c)) ?_
   refine Ka rfl (Nt (Ce (Xb ?_)))
   exact R1 rfl rfl (by rfl)
  ·(try simp only [sB] at hc50)
   obtain ⟨hs, hm4, hfw, hN, hg, hw⟩ := Decidable.not_not.1 hc50
   obtain ⟨hm8, hk8, hkl, hnl⟩ := fewN_b hfw
   obtain ⟨m, hm⟩ : ∃ m, Keep (m = (smallN q.p.msk).1) := ⟨_, rfl⟩
   have hmv : m = val q.p.msk := by
    rw [show m = _ from hm]; unfold smallN at hs ⊢; split at hs
    ·rename_i h; rw [if_pos h]
    ·cases hs
   have hh : elG q.k.g q.k.h := (chkN_ok hN).2.2.2.2.2.2.2 _ (by simp)
   have hm2 : 2 ≤ m := by rw [hmv]; exact (chkR_ok (chkN_ok hN).1).2.2.1 _ (by simp)
   have hzm : okZ (ofZ (m : Int)) := okZ_ofZ.2 (by rw [Int.natAbs_natCast]; exact Nat.lt_of_le_of_lt (by rw [show m = _ from hm]; exact hm4) h400)
   have hpw := prodS_one hg hh hzm
   rw [zv_ofZ] at hpw
   rw [← show m = _ from hm] at hm4 ⊢
   refine Ck (Xa (Cq ?_))
   refine Cf [6, 7, 8, 0, 1, 2, 3, 4, 5, 9, 10, 11, 12, 13, 14] [] [0, 0, 0, 0, 0, 0, 0, 0, 1, 1, 0, 0, 0, 0, 0] (by kernel_rfl) (by kernel_rfl) rfl ?_
   refine Kj rfl (Rm rfl rfl) (Kj rfl (rd_convW rfl rfl u74 u2 (by omega)) ?_)
   refine Jv rfl rfl rfl rfl rfl (fun ext => Oc rfl rfl (Kv fun w hS => zof_c (n := (m : Int)) (by omega) (by omega))) ?_
   refine Kj rfl (Fa (q := 17) rfl rfl u35 rfl rfl) (Kj rfl (Fa (q := 18) rfl rfl u33 rfl rfl) ?_)
   refine Kj rfl (ldp rfl rfl .tc u26 rfl (by kernel_rfl : _ = some 2) (by rfl) (by rfl)) ?_
   refine Kj rfl (Fa (q := 17) rfl rfl u35 rfl rfl) (Kj rfl (Fa (q := 24) rfl rfl u33 rfl rfl) (Kj rfl (Ld rfl rfl .tc u22) ?_))
   refine Jv rfl rfl rfl rfl rfl (fun ext => Oc rfl rfl (Kv fun w hS => (by have := pexp_c (w := w) (g := q.k.g) (x := q.k.h) (z := ofZ m) hk8; rw [hpw] at this; exact this))) ?_
   refine Kj rfl (Rm rfl rfl) (Kj rfl (Re rfl rfl rfl) (Kj rfl (Re rfl rfl rfl) (Kj rfl (Ra rfl rfl) (Kj rfl (Ra rfl rfl) ?_))))
   refine WJ.nil ?_
   refine Nt (Cq (Cs (Km rfl (Kq rfl (rd_neq rfl rfl rfl) (Nt ?_)))))
   refine Cd rfl (fun hc66 => ?_) (fun hc66 => ?_)
   ·(try simp only [sB] at hc66)
    exfalso; simp at hc66 -- done
   ·(try simp only [sB] at hc66)
    refine Ck (Xa (Cq (Cs (Km rfl ?_))))
    refine Ku rfl (Oc rfl rfl (Kv fun w hS => of_c (n := 1) (by omega))) ?_
    refine Kq rfl (rd_sne rfl rfl rfl) (Nt ?_)
    refine Cd rfl (fun hc69 => ?_) (fun hc69 => ?_)
    ·(try simp only [sB] at hc69)
     refine Cs ?_
     refine Ku rfl (Oc rfl rfl (Kv fun w hS => awake38_c)) ?_
     refine Ka rfl (Nt (Ce (Xb ?_)))
     exact R1 rfl rfl (by rfl)
    ·(try simp only [sB] at hc69)
     have hone : powI (val q.k.g.1) (val q.k.h) (m : Int) = 1 := canon_inj.1 (by simpa using hc69)
     obtain ⟨d, hd, hmd, hper⟩ := nrm_hides hN hw (by omega : 0 < m) hone
     have hf : ∀ r s, fH q r = fH q s ↔ r % d = s % d := hper
     refine Ck (Xa (Cs (Ka rfl (Nt (Cs (Ka rfl (Nt (Cq (Cs (Ka rfl (Nt (Cb ?_))))))))))))
     refine Lo (σ := Nat × (Option Nat) × Nat × (List Value) × (Option Nat) × Nat × (List Value)) [(1, _), (3, _)] (fun gq => [(9, .int .u64 (gq.1 : Int)), (7, .slice (gq.2.1.map fun b => ⟨b, 0, none⟩) (min gq.1 d) gq.2.2.1), (8, .slice (gq.2.2.2.2.1.map fun b => ⟨b, 0, none⟩) (min gq.1 d) gq.2.2.2.2.2.1)]) (fun gq => gq.1 ≤ m ∧ gq.2.2.1 = min gq.1 d + gq.2.2.2.1.length ∧ gq.2.2.2.2.2.1 = min gq.1 d + gq.2.2.2.2.2.2.length) (fun gq => m - gq.1) (fun gq => [⟨gq.2.1, strs (seenD (fH q) d gq.1) ++ gq.2.2.2.1, 22⟩, ⟨gq.2.2.2.2.1, nums (cntsD d gq.1) ++ gq.2.2.2.2.2.2, 3⟩, ⟨some b1, ncC q (.slice a q.k.r.length c), 35⟩]) (fun gq => [Fact.sl a (strs q.k.r)]) (0, none, 0, [], none, 0, []) (S2 rfl rfl) (S3 rfl rfl rfl) (by (try dsimp only); exact ⟨Nat.zero_le _, by simp, by simp⟩) (by exact fun w h => (h.nil _).nil _) ?_
     rintro ⟨r, o1, c1, p1, o2, c2, p2⟩ hinv1; (try dsimp only at hinv1 ⊢)
     obtain ⟨hr, hc1, hc2⟩ := hinv1
     refine Cq (Cs (Km rfl (Km rfl (Kq rfl (rd_lss rfl rfl rfl) (Nt ?_)))))
     refine Cd rfl (fun hc73 => ?_) (fun hc73 => ?_)
     ·(try simp only [sB] at hc73)
      have hrm : r < m := by omega
      have hsl := seen_len (fH q) d r
      have hcl := cnts_len d r
      have hcb := cntsB_len (d := d) (r := r)
      have hmd := Nat.mod_lt r hd
      refine Ck (Xa (Cq (Cb (Cq ?_))))
      refine WC.free (K := [⟨some b1, ncC q (.slice a q.k.r.length c), 35⟩]) (fs0 := []) [6, 7, 0, 1, 2, 3, 4, 5, 8, 9, 10, 11, 12, 13, 14, 16, 17, 18, 19, 15, 20] [] [0, 0, 0, 0, 0, 0, 0, 1, 3, 0, 1, 0, 0, 0, 0, 0, 3, 0, 0, 1, 0] (by kernel_rfl) (by kernel_rfl) rfl ?_
      refine Kj rfl (Rm rfl rfl) ?_
      refine Jv rfl rfl rfl rfl rfl (fun ext => Oc rfl rfl (Kv fun w hS => of_c (n := r) (by omega))) ?_
      refine Kj rfl (Fa (q := 0) rfl rfl u35 rfl rfl) ?_
      refine Kj rfl (ldp rfl rfl .tc u30 rfl (by kernel_rfl : _ = some 17) (by rfl) (by rfl)) ?_
      refine Kj rfl (Fa (q := 17) rfl rfl u35 rfl rfl) ?_
      refine Kj rfl (ldp rfl rfl .tc u33 rfl (by kernel_rfl : _ = some 8) (by rfl) (by rfl)) ?_
      refine Kj rfl (Fa (q := 26) rfl rfl u35 rfl rfl) (Kj rfl (Ld rfl rfl .tc u22) ?_)
      refine Jf rfl rfl rfl rfl rfl (fr_bs1 rfl rfl u31 (by kernel_rfl : _ = some (some (.string (S [])), 1, 16)) rfl (by simp only [List.map]; rfl) rfl rfl ?_ (by decide)) ?_
      ·simp [Value.cells]
      intro b85
      refine Kj rfl (Kb [[.slice none 0 0], [.string (S [])], [.int .i64 0]] rfl rfl) ?_
      refine Jg rfl rfl rfl rfl rfl (fun ext => Oc rfl rfl (keep_f1 (val := fun g => .tuple #[.string (S (fH q r)), .string (S (canon r)), (⟨[canon r], [], 1⟩ : Tp).v (g.val 1), .int .i64 0]) (p := fun g => g.cap = 1 + g.sp.length) (xs := strs [canon r]) (T := 22) fun w hS => (by have := nmask_c (w := w) (p := q.p) (k := q.k) (x := q.w) (t := ⟨[canon r], [], 0⟩) (a := a) (b := some ⟨b85, 0, none⟩) (c := c) (d := 1) hS.sl hS.os hm8 hk8 hkl hnl (by simp) (by simp) (tab_st hT hS) (tabd_st hD hS); rw [msk_of hN hw (by rw [← hmv]; exact hrm)] at this; exact this))) ?_
      intro g87 hg87; (try dsimp only at hg87 ⊢)
      refine Kj rfl (Rm rfl rfl) (Kj rfl (Re rfl rfl rfl) (Kj rfl (Re rfl rfl rfl) (Kj rfl (Re rfl rfl rfl) ?_)))
      refine Jf rfl rfl rfl rfl rfl (fr_alloc rfl (v := (.agg #[.slice none 0 0, .string (S []), .int .i64 0])) (cs := [.slice none 0 0, .string (S []), .int .i64 0]) (by kernel_rfl) rfl) ?_
      intro b12
      refine Kj rfl (Ra rfl rfl) (Kj rfl (Ra rfl rfl) ?_)
      refine WJ.st rfl rfl rfl rfl (staJ rfl rfl rfl ?_ ?_ ?_) ?_
      ·kernel_rfl
      ·simp [Value.oneCell']
      ·rfl
      refine Kj rfl (Re rfl rfl rfl) (Kj rfl (Ra rfl rfl) ?_)
      refine WJ.nil ?_
      refine Nt (Cq (Cs (Km rfl (Kq rfl (rd_neq rfl rfl rfl) (Km rfl ?_)))))
      refine Nb 94 rfl (fun hg94 => ?_) (fun hg94 => ?_)
      ·(try simp only [sB] at hg94)
       exact absurd trivial hg94 -- done
      ·(try simp only [sB] at hg94)
       refine Km rfl (Km rfl ?_)
       refine Ku rfl (Oc rfl rfl (Kv fun w hS => of_c (n := r) (by omega))) ?_
       refine Kq rfl (rd_sne rfl rfl rfl) (Kq rfl (Rq rfl rfl rfl) (Nt ?_))
       refine Cd rfl (fun hc99 => ?_) (fun hc99 => ?_)
       ·(try simp only [sB] at hc99)
        exfalso; simp at hc99 -- done
       ·(try simp only [sB] at hc99)
        refine Ck (Xa (Cs (Ka rfl (Nt (Cq (Cb ?_))))))
        refine Lp (σ := Nat) [(1, _), (3, _), (7, _), (8, _), (9, _), (10, _)] (fun gq => [(14, .int .i64 (gq : Int))]) (fun gq => gq ≤ min r d ∧ ∀ j, j < gq → (seenD (fH q) d r).getD j default ≠ fH q r) (fun gq => min r d - gq) (0) (S6 rfl rfl rfl rfl rfl rfl) (S1 rfl) (by (try dsimp only); exact ⟨Nat.zero_le _, fun j h => absurd h (by omega)⟩) ?_
        rintro i hinv2; (try dsimp only at hinv2 ⊢)
        obtain ⟨hi, hb⟩ := hinv2
        refine Cq ?_
        refine WC.joinP (σ := Unit) [(1, _), (3, _), (7, _), (8, _), (9, _), (10, _), (14, _)] (fun gq => [(111, .bool (decide (i < min r d ∧ (seenD (fH q) d r).getD i default ≠ fH q r)))]) (fun gq => True) (S7 rfl rfl rfl rfl rfl rfl rfl) ?_ ?_
        ·skip
         refine Cg (Km rfl (Km rfl (Kq rfl (rd_len rfl rfl u31) (Kq rfl (rd_lss rfl rfl rfl) (Km rfl ?_)))))
         refine Nb 104 rfl (fun hg104 => ?_) (fun hg104 => ?_)
         ·(try simp only [sB] at hg104)
          refine Km rfl (Km rfl ?_)
          refine Kq rfl (iao rfl rfl rfl u31 (by kernel_rfl : _ = some 1) (by omega) (by (simp <;> omega)) (by (try simp only [sN, Int.reduceToNat, Nat.reduceAdd, Nat.reduceMul, Nat.reduceSub]); rfl)) ?_
          refine Kq rfl (ldom rfl rfl u22 rfl (by omega)) (Km rfl (Kq rfl (rd_sne rfl rfl rfl) (Kq rfl (Rp rfl rfl rfl) (Nn ?_))))
          refine WX.joinP (()) (S7 rfl rfl rfl rfl rfl rfl rfl) (by refine (Sc ?_ (S0 _)) <;> ((refine congrArg (fun b => some (Value.bool b)) ?_; simp [*]; omega))) ?_ (by (exact fun _ h => h))
          (try dsimp only)
          done
         ·(try simp only [sB] at hg104)
          refine Kt rfl (Kt rfl (Kt rfl (Kt rfl (Kt rfl (Kt rfl (Kq rfl (Rq rfl rfl rfl) (Nn ?_)))))))
          refine WX.joinP (()) (S7 rfl rfl rfl rfl rfl rfl rfl) (by refine (Sc ?_ (S0 _)) <;> ((exact congrArg (fun b => some (Value.bool b)) (by symm; apply decide_eq_false; omega)))) ?_ (by (exact fun _ h => h))
          (try dsimp only)
          done
        ·rintro _ hmeet; (try dsimp only at hmeet ⊢)
         refine Cd rfl (fun hc111 => ?_) (fun hc111 => ?_)
         ·(try simp only [sB] at hc111)
          have hil : i < min r d := hc111.1
          refine Ck (Xa (Cb (Cg (Km rfl (Kq rfl (Rz rfl rfl rfl (by omega)) (Ka rfl (Nn (Xd ?_))))))))
          refine Ly (i + 1) (by (try dsimp only); omega) (S6 rfl rfl rfl rfl rfl rfl) (by refine (Sc ?_ (S0 _)) <;> (rfl)) ?_ (by (exact fun _ h => h))
          (try dsimp only)
          exact ⟨by omega, fun j hj => by rcases Nat.lt_or_eq_of_le (Nat.le_of_lt_succ hj) with h | rfl; exact hb j h; exact hc111.2⟩
         ·(try simp only [sB] at hc111)
          refine Cx (Xc (Xc (Xe ?_)))
          have hpl := place hd hf hi hb hc111
          refine Xa ?_
          refine WC.joinO (σ := (Option Nat) × Nat × (List Value) × (Option Nat) × Nat × (List Value)) [(1, _), (3, _), (9, _), (14, _)] (fun gq => [(7, .slice (gq.1.map fun b => ⟨b, 0, none⟩) (min (r + 1) d) gq.2.1), (8, .slice (gq.2.2.2.1.map fun b => ⟨b, 0, none⟩) (min (r + 1) d) gq.2.2.2.2.1)]) (fun gq => gq.2.1 = min (r + 1) d + gq.2.2.1.length ∧ gq.2.2.2.2.1 = min (r + 1) d + gq.2.2.2.2.2.length) (fun gq => [⟨gq.1, strs (seenD (fH q) d (r + 1)) ++ gq.2.2.1, 22⟩, ⟨gq.2.2.2.1, nums (cntsB d r) ++ gq.2.2.2.2.2, 3⟩, ⟨some b1, ncC q (.slice a q.k.r.length c), 35⟩]) (fun gq => [Fact.sl a (strs q.k.r)]) (S4 rfl rfl rfl rfl) ?_ ?_
          ·skip
           refine Cs (Km rfl (Km rfl (Kq rfl (rd_len rfl rfl u31) (Kq rfl (rd_eql rfl rfl rfl) (Nt ?_)))))
           refine Cd rfl (fun hc117 => ?_) (fun hc117 => ?_)
           ·(try simp only [sB] at hc117)
            have hrd : r < d := by omega
            refine Cg (Km rfl (Km rfl ?_))
            refine Kh rfl (og_bs1 rfl rfl u31 (by kernel_rfl : _ = some (some (.string (S [])), 1, 16)) rfl (by simp only [List.map]; rfl) rfl rfl ?_ (by decide)) ?_
            ·simp [Value.cells]
            intro b120
            refine Kh rfl (appg rfl u31 (by kernel_rfl : _ = some (some (.string (S [])), 1, 16)) rfl .tc rfl rfl (fun w hS => by (exact hS.os)) (by rfl) (by (refine ⟨?_, ?_, ?_, ?_⟩ <;> (try simp) <;> omega)) (by (simp [Value.oneCell']; done))) ?_
            rintro ⟨o121, c121, s121⟩
            refine WL.pu ?_
            intro hg121; (try dsimp only at hg121 ⊢)
            refine Ns 121 rfl (v' := .slice (o121.map fun b => ⟨b, 0, none⟩) (min (r + 1) d) c121) (by (congr 1; omega)) ?_
            refine Km rfl ?_
            refine Kh rfl (og_bs1 rfl rfl u81 (by kernel_rfl : _ = some (some (.int .i64 0), 1, 8)) rfl (by simp only [List.map]; rfl) rfl rfl ?_ (by decide)) ?_
            ·simp [Value.cells]
            intro b123
            refine Kh rfl (appg rfl u81 (by kernel_rfl : _ = some (some (.int .i64 0), 1, 8)) rfl .tc rfl rfl (fun w hS => by (exact hS.os)) (by rfl) (by (refine ⟨?_, ?_, ?_, ?_⟩ <;> (try simp) <;> omega)) (by (simp [Value.oneCell']; done))) ?_
            rintro ⟨o124, c124, s124⟩
            refine WL.pu ?_
            intro hg124; (try dsimp only at hg124 ⊢)
            refine Ns 124 rfl (v' := .slice (o124.map fun b => ⟨b, 0, none⟩) (min (r + 1) d) c124) (by (congr 1; omega)) ?_
            refine Ka rfl (Ka rfl (Nn ?_))
            refine WX.joinO ((o121, c121, s121, o124, c124, s124)) (S4 rfl rfl rfl rfl) (by refine (Sc ?_ (Sc ?_ (S0 _))) <;> (rfl)) ?_ (by exact fun w h => by dsimp only; rw [seen_app hrd, nums_app hrd]; exact st_sub _ h)
            (try dsimp only)
            exact ⟨by omega, by omega⟩
           ·(try simp only [sB] at hc117)
            have hrd : d ≤ r := by omega
            refine WC.set 7 rfl (v' := .slice (o1.map fun b => ⟨b, 0, none⟩) (min (r + 1) d) c1) (by congr 1; omega) ?_
            refine WC.set 8 rfl (v' := .slice (o2.map fun b => ⟨b, 0, none⟩) (min (r + 1) d) c2) (by congr 1; omega) ?_
            refine Ck ?_
            refine WX.joinO ((o1, c1, p1, o2, c2, p2)) (S4 rfl rfl rfl rfl) (by refine (Sc ?_ (Sc ?_ (S0 _))) <;> (rfl)) ?_ (by exact fun w h => by dsimp only; rw [seen_old (fH q) hrd, cntsB, if_neg (by omega)]; exact st_sub _ h)
            (try dsimp only)
            exact ⟨by omega, by omega⟩
          ·rintro ⟨u1, e1, f1, u2, e2, f2⟩ hmeet; (try dsimp only at hmeet ⊢)
           obtain ⟨he1, he2⟩ := hmeet
           refine Cg ?_
           have hil : i < (cntsB d r).length := by omega
           have hle := cntsB_le (d := d) (r := r) (i := i)
           refine WL.know (p := ∃ bb, u2 = some bb) (fun w h => by obtain ⟨b, hb, _⟩ := h.ocx (ob := u2) (cs := nums (cntsB d r) ++ f2) .tc (by simp; omega); exact ⟨b, hb⟩) ?_
           rintro ⟨bb, rfl⟩
           dsimp only [Option.map_some]
           refine Km rfl (Km rfl ?_)
           refine Kq rfl (Ja rfl rfl rfl u81 (by kernel_rfl : _ = some 1) (by omega)) ?_
           refine Kq rfl (ld rfl rfl .tc u3 rfl (by exact nums_at hil)) ?_
           refine Kq rfl (Rz rfl rfl rfl (by omega)) (Ns 129 rfl (v' := .int .i64 (((cntsB d r).getD i default + 1 : Nat) : Int)) (congrArg (Value.int .i64) (by omega)) ?_)
           refine Kq rfl (Ja rfl rfl rfl u81 (by kernel_rfl : _ = some 1) (by omega)) ?_
           refine Ng rfl rfl (st rfl rfl rfl .tc (by kernel_rfl) rfl ?_ (by rfl)) ?_
           ·(simp <;> omega)
           intro _
           refine Nn (Xd (Xa (Cg (Km rfl (Kq rfl (rd_addW (c := 1) rfl rfl rfl (by omega)) (Ka rfl (Nn ?_)))))))
           refine Lx ((r + 1, u1, e1, f1, some bb, e2, f2)) (by (try dsimp only); omega) (S2 rfl rfl) (by refine (Sc ?_ (Sc ?_ (Sc ?_ (S0 _)))) <;> (rfl)) ?_ (by exact fun w h => by dsimp only; rw [← cntsB_set hd hpl, ← nums_set hil]; exact st_sub _ h)
           (try dsimp only)
           exact ⟨by omega, he1, he2⟩
     ·(try simp only [sB] at hc73)
      refine Cx (Xc (Xc (Xe ?_)))
      obtain rfl : r = m := by omega
      have hcl := cnts_len d r
      refine Xa (Cq (Cs (Ka rfl (Nt (Cb ?_)))))
      refine Lp (σ := Nat) [(8, _)] (fun gq => [(15, .int .i64 (gq : Int))]) (fun gq => gq ≤ min r d) (fun gq => min r d - gq) (0) (S1 rfl) (S1 rfl) (by (try dsimp only); exact Nat.zero_le _) ?_
      rintro s hinv3; (try dsimp only at hinv3 ⊢)
      obtain hs3 := hinv3
      refine Cq (Cs (Km rfl (Km rfl (Kq rfl (rd_len rfl rfl u81) (Kq rfl (rd_lss rfl rfl rfl) (Nt ?_))))))
      refine Cd rfl (fun hc134 => ?_) (fun hc134 => ?_)
      ·(try simp only [sB] at hc134)
       have hsl : s < min r d := by omega
       have e1 := cnts_get hsl
       have e2 := cnts_get (d := d) (r := r) (i := 0) (by omega)
       rw [cnt_end hmd] at e1 e2
       refine Ck (Xa (Cq (Cb (Cq ?_))))
       refine Cf [0, 1, 2, 3, 4, 5, 6, 7] [] [0, 0, 0, 0, 0, 0, 0, 0] (by kernel_rfl) (by kernel_rfl) rfl ?_
       refine Kj rfl (Rm rfl rfl) (Kj rfl (Rm rfl rfl) ?_)
       refine Kj rfl (iao rfl rfl rfl u81 (by kernel_rfl : _ = some 1) (by omega) (by (simp <;> omega)) (by (try simp only [sN, Int.reduceToNat, Nat.reduceAdd, Nat.reduceMul, Nat.reduceSub]); rfl)) ?_
       refine Kj rfl (ldom rfl rfl u3 rfl (by omega)) (Kj rfl (Rm rfl rfl) ?_)
       refine Kj rfl (iao rfl rfl rfl u81 (by kernel_rfl : _ = some 1) (by omega) (by (simp <;> omega)) (by (try simp only [sN, Int.reduceToNat, Nat.reduceAdd, Nat.reduceMul, Nat.reduceSub]); rfl)) ?_
       refine Kj rfl (ldom rfl rfl u3 rfl (by omega)) (Kj rfl (rd_neq rfl rfl rfl) ?_)
       refine WJ.nil ?_
       refine Nt ?_
       refine Cd rfl (fun hc144 => ?_) (fun hc144 => ?_)
       ·(try simp only [sB] at hc144)
        exfalso; exact hc144 (by rw [e1, e2]) -- done
       ·(try simp only [sB] at hc144)
        refine Ck (Xd (Xa (Cg (Km rfl (Kq rfl (Rz rfl rfl rfl (by omega)) (Ka rfl (Nn ?_)))))))
        refine Ly (s + 1) (by (try dsimp only); omega) (S1 rfl) (by refine (Sc ?_ (S0 _)) <;> (rfl)) ?_ (by (exact fun _ h => h))
        (try dsimp only)
        omega
      ·(try simp only [sB] at hc134)
       refine Cx (Xc (Xc (Xe (Xa (Cs ?_)))))
       refine Ku rfl (Oc rfl rfl (Kv fun w hS => awake38_c)) ?_
       refine Ka rfl (Nt (Ce ?_))
       exact R1 rfl rfl (by rfl)
end Go.Proofs.YthkmpjobfdeoaaaGreatDoor
