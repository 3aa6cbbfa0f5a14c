/-
  Parts of the walk: Nrt Nst Nrh Coi2 Itoa Coi3 Apps Coi4.
-/
import Derived.Test.YthkmpjobfdeoaaaGreatDoorI19
import Derived.Lib.ItoaNum
import Derived.Lib.AppendStr
namespace Go.Proofs.YthkmpjobfdeoaaaGreatDoor
open Go.RowKit
set_option linter.unusedSimpArgs false
set_option linter.unusedVariables false
set_option maxHeartbeats 600000
set_option maxRecDepth 20000
def nrE (p : PR) (k : IK) (acc x : Bs) : Int :=
 if chkN p k ≠ 0 then chkN p k else if ¬ (okN acc ∧ okN x) then 3 else if ¬ (elG k.g acc ∧ elG k.g x) then 13 else (sizR p).2
def nrT (p : PR) (k : IK) (acc x : Bs) : Sm := nrQ k.g k.h acc x p.han (sizR p).1.2
def nrS (p : PR) (k : IK) (acc x : Bs) : Sm × Int := if nrE p k acc x ≠ 0 then (([], [], []), nrE p k acc x) else (nrT p k acc x, 0)
def imgS (s : Sm) (w : List Zs) : List Bs × Int := if rdyS s w ≠ 0 then ([], rdyS s w) else imS s w
theorem nrE_ok {p : PR} {k : IK} {acc x : Bs} (h : nrE p k acc x = 0) : chkN p k = 0 ∧ elG k.g acc ∧ elG k.g x ∧ (sizR p).2 = 0 := by
 unfold nrE at h
 split at h
 ·rename_i h1; exact absurd h h1
 ·rename_i h1; split at h
  ·simp at h
  ·split at h
   ·simp at h
   ·rename_i h3; have h3 := Decidable.not_not.1 h3; exact ⟨Decidable.not_not.1 h1, h3.1, h3.2, h⟩
theorem nrE_of {p : PR} {k : IK} {acc x : Bs} (h1 : chkN p k = 0) (h2 : elG k.g acc) (h3 : elG k.g x) : nrE p k acc x = (sizR p).2 := by
 rw [nrE, if_neg (fun h => h h1), if_neg (fun h => h ⟨h2.1, h3.1⟩), if_neg (fun h => h ⟨h2, h3⟩)]
theorem nrS_of {p : PR} {k : IK} {acc x : Bs} (h : nrE p k acc x = 0) : nrS p k acc x = (nrT p k acc x, 0) := by rw [nrS, if_neg (fun h2 => h2 h)]
theorem siz_ok {p : PR} (h : (sizR p).2 = 0) : chkR p = 0 ∧ sizR p = ((canon (szV p), canon (szH p)), 0) ∧ szH p < Big ∧ szV p < Big := by
 unfold sizR at h ⊢; split at h
 ·rename_i h1; exact absurd h h1
 ·rename_i h1; rw [if_neg h1]; split at h
  ·rename_i h2; rw [if_pos h2]; exact ⟨Decidable.not_not.1 h1, rfl, h2.2, h2.1⟩
  ·simp at h
theorem nr_rdy {p : PR} {k : IK} {acc x : Bs} {w : List Zs} (h : nrE p k acc x = 0) :
  rdyS (nrT p k acc x) w = if ¬ (∀ y ∈ w, okZ y) then 3 else if w.length ≠ 2 then 6 else 0 := by
 obtain ⟨hN, ha, hx, hz⟩ := nrE_ok h
 obtain ⟨hR, _, _, hq, hg, _, _, hel⟩ := chkN_ok hN
 obtain ⟨_, hsz, hB, _⟩ := siz_ok hz
 obtain ⟨hok, _, hrg⟩ := chkR_ok hR
 have hh : elG k.g k.h := hel _ (by simp)
 have hhan : okN p.han := hok.1 _ (by simp)
 have hhan2 : 2 ≤ val p.han := hrg.1 _ (by simp)
 have hmk2 : 2 ≤ val p.msk := hrg.1 _ (by simp)
 obtain ⟨hg1, hg2, _⟩ := chkG_ok hg
 rw [nrT, hsz]; simp only
 have hzc : okN (canon (szH p)) := okN_can hB
 have hz0 : canon (szH p) ≠ [] := fun h => by
  rw [canon_nil] at h; have := Nat.mul_le_mul hhan2 hmk2; rw [szH] at h; omega
 have hh0 : p.han ≠ [] := fun h => by rw [h] at hhan2; exact absurd hhan2 (by decide)
 have hm1 : okZ (ofZ (-1)) := by decide +kernel
 have hf : formS (nrQ k.g k.h acc x p.han (canon (szH p))) := by
  refine ⟨?_, ?_, ?_⟩
  ·intro g hg; simp [nrQ] at hg; subst hg; exact ⟨hg1, hg2⟩
  ·intro y hy; simp [nrQ] at hy; rcases hy with rfl | rfl; exact hhan; exact hzc
  ·intro q hq; simp [nrQ] at hq; subst hq
   refine ⟨⟨⟨Int.le_refl 0, by simp [nrQ]⟩, ha.1⟩, ?_⟩
   intro t ht; simp at ht; rcases ht with rfl | rfl
   ·exact okT_trm hx.1 (by decide) (by simp [nrQ])
   ·exact ⟨⟨by show (0 : Int) ≤ 1; decide, by simp [nrQ]⟩, hh.1, hm1⟩
 have hs : sizeS (nrQ k.g k.h acc x p.han (canon (szH p))) := by simp [sizeS, nrQ]
 have he : elS (nrQ k.g k.h acc x p.han (canon (szH p))) := by
  refine ⟨?_, ?_⟩
  ·intro g hg1; simp [nrQ] at hg1; subst hg1; exact hg
  ·intro q hq; simp [nrQ] at hq; subst hq
   refine ⟨ha, ?_⟩
   intro t ht; simp at ht; rcases ht with rfl | rfl; exact hx; exact hh
 have hd : kdS (nrQ k.g k.h acc x p.han (canon (szH p))) := by
  refine Or.inl ?_
  intro y hy; simp [nrQ] at hy; rcases hy with rfl | rfl; exact hh0; exact hz0
 have hck : chkS (nrQ k.g k.h acc x p.han (canon (szH p))) = 0 := by simp [chkS, hf, hs, he, hd]
 by_cases hw : ∀ y ∈ w, okZ y
 ·rw [rdyS, if_neg (fun h => h hf), if_neg (fun h => h hw), if_neg (fun h => h hck), if_neg (show ¬ ¬ (∀ y ∈ w, okZ y) from fun h => h hw)]; rfl
 ·rw [rdyS, if_neg (fun h => h hf), if_pos hw, if_pos hw]
theorem nr_img {p : PR} {k : IK} {acc x : Bs} {a b : Zs} (h : nrE p k acc x = 0) (ha : okZ a) (hb : okZ b) :
  imgS (nrT p k acc x) [a, b] = ([canon (powI (val k.g.1) (val x) (zv a) * powI (val k.g.1) (val k.h) (-(zv b)) % val k.g.1)], 0) := by
 obtain ⟨hN, hac, hx, hz⟩ := nrE_ok h
 obtain ⟨_, _, _, _, hg, _, _, hel⟩ := chkN_ok hN
 have hr : rdyS (nrT p k acc x) [a, b] = 0 := by
  rw [nr_rdy h, if_neg (fun h => h (by intro y hy; simp at hy; rcases hy with rfl | rfl <;> assumption)), if_neg (by simp)]
 rw [imgS, if_neg (fun h => h hr)]
 exact nr_im hg hx (hel _ (by simp)) ha hb
def accS (k : IK) (acc u w : Bs) : Int :=
 if ¬ ((okN acc ∧ okN w) ∧ okN u ∧ okN k.g.1 ∧ okN k.g.2) then 3 else if chkG k.g ≠ 0 then chkG k.g else if ¬ (elG k.g acc ∧ elG k.g w) then 13
 else if u = [] then 11 else if (prodS k.g [w] [fromZ u]).2 ≠ 0 then (prodS k.g [w] [fromZ u]).2 else if (prodS k.g [w] [fromZ u]).1 ≠ acc then 20 else 0
theorem accS_ok {k : IK} {acc u w : Bs} (h : accS k acc u w = 0) : okN u ∧ chkG k.g = 0 ∧ elG k.g acc ∧ elG k.g w ∧ u ≠ [] ∧ canon (powI (val k.g.1) (val w) (val u)) = acc := by
 unfold accS at h
 split at h
 ·simp at h
 ·rename_i h1; split at h
  ·rename_i h2; exact absurd h h2
  ·rename_i h2; split at h
   ·simp at h
   ·rename_i h3; split at h
    ·simp at h
    ·rename_i h4; split at h
     ·rename_i h5; exact absurd h h5
     ·rename_i h5; split at h
      ·simp at h
      ·rename_i h6
       have h1 := Decidable.not_not.1 h1; have h2 := Decidable.not_not.1 h2; have h3 := Decidable.not_not.1 h3; have h6 := Decidable.not_not.1 h6
       have hz : okZ (false, u) := ⟨h1.2.1, fun h => by cases h.1⟩
       rw [fromZ_ok h1.2.1, prodS_one h2 h3.2 hz] at h6
       exact ⟨h1.2.1, h2, h3.1, h3.2, h4, h6⟩
theorem divZ_of {u r : Nat} (hu : 0 < u) (hur : u * r < Big) (huB : u < Big) : divZ (ofZ ((u * r : Nat) : Int)) (ofZ (u : Int)) = (ofZ (r : Int), 0) := by
 have h1 : okZ (ofZ ((u * r : Nat) : Int)) := okZ_ofZ.2 (by rw [Int.natAbs_natCast]; exact hur)
 have h2 : okZ (ofZ (u : Int)) := okZ_ofZ.2 (by rw [Int.natAbs_natCast]; exact huB)
 rw [divZ, if_pos ⟨h1, h2⟩, ofZ_nat, ofZ_nat]; simp only
 rw [if_neg (fun h => by rw [canon_nil] at h; omega), val_canon, val_canon, if_pos (Nat.mul_mod_right _ _), Nat.mul_div_cancel_left _ hu, mkZ_of]; rfl
theorem unm_of {k : IK} {x : Bs} {w0 w1 : Zs} (h1 : okN k.g.1 ∧ okN k.g.2) (h2 : chkG k.g = 0) (h3 : elG k.g k.h) (h4 : elG k.g x) (h5 : okZ w0) (h6 : okZ w1) :
  unmS k x [w0, w1] = if w0.1 = true ∨ w0.2 = [] then (([], []), 2) else if (divZ w1 w0).2 ≠ 0 then (([], []), 17) else (((prodS k.g [x, k.h] [ofZ 1, negZ (divZ w1 w0).1]).1, w0.2), 0) := by
 rw [unmS, if_neg (fun h => h ⟨h1.1, h1.2, h3.1, h4.1⟩), if_neg (fun h => h (by intro y hy; simp at hy; rcases hy with rfl | rfl <;> assumption)), if_neg (fun h => h h2), if_neg (fun h => h ⟨h3, h4⟩), if_neg (by simp)]; rfl
theorem nr_hold {p : PR} {k : IK} {acc u w r : Bs} (hN : chkN p k = 0) (hs : (sizR p).2 = 0) (ha : accS k acc u w = 0) (hu : val u < val p.han) (hr : okN r) (hrm : val r < val p.msk) :
  nrE p k acc (prodS k.g [w, k.h] [ofZ 1, fromZ r]).1 = 0 ∧ (witS u r).2 = 0 ∧
  hldS (nrT p k acc (prodS k.g [w, k.h] [ofZ 1, fromZ r]).1) (witS u r).1 = (true, 0) ∧
  unmS k (prodS k.g [w, k.h] [ofZ 1, fromZ r]).1 (witS u r).1 = ((w, u), 0) := by
 obtain ⟨hou, hg, hac, hw, hu0, hpw⟩ := accS_ok ha
 obtain ⟨_, hgo, _, hq, _, _, _, hel⟩ := chkN_ok hN
 obtain ⟨hR, hsz, hB, _⟩ := siz_ok hs
 have hh : elG k.g k.h := hel _ (by simp)
 have hzr : okZ (ofZ (val r : Int)) := okZ_ofZ.2 (by rw [Int.natAbs_natCast]; exact okN_val hr)
 have er : fromZ r = ofZ (val r : Int) := by rw [fromZ_ok hr, ofZ_nat, ok_canon hr]
 have hP := prodS_two hg hw hh okZ_one hzr
 rw [zv_ofZ, zv_ofZ] at hP
 have hX := elG_prod (g := k.g) (l := [w, k.h]) (es := [ofZ 1, ofZ (val r : Int)]) (by rw [hP])
 rw [er]
 obtain ⟨X, hXe⟩ : ∃ X, (prodS k.g [w, k.h] [ofZ 1, ofZ (val r : Int)]).1 = X := ⟨_, rfl⟩
 have hXv : val X = powI (val k.g.1) (val w) 1 * powI (val k.g.1) (val k.h) (val r) % val k.g.1 := by rw [← hXe, hP]; exact val_canon _
 rw [hXe] at hX ⊢
 have hE : nrE p k acc X = 0 := by rw [nrE_of hN hac hX]; exact hs
 have hlt : val u * val r < szH p := Nat.mul_lt_mul'' hu hrm
 have hur : val u * val r < Big := Nat.lt_trans hlt hB
 have huB := okN_val hou
 have hup : 0 < val u := pos_of_ne hou hu0
 have hwit : witS u r = ([ofZ (val u : Int), ofZ ((val u * val r : Nat) : Int)], 0) := by
  have hm : mulN u r = (canon (val u * val r), 0) := by
   have := mulN_of (a := val u) (b := val r) huB (okN_val hr)
   rw [ok_canon hou, ok_canon hr, if_pos hur] at this; exact this
  rw [witS, if_pos ⟨hou, hr⟩, hm, if_pos rfl]
  simp only
  rw [fromZ_of hur, fromZ_ok hou, ofZ_nat (val u), ok_canon hou]
 have z0 : okZ (ofZ (val u : Int)) := okZ_ofZ.2 (by rw [Int.natAbs_natCast]; exact huB)
 have z1 : okZ (ofZ ((val u * val r : Nat) : Int)) := okZ_ofZ.2 (by rw [Int.natAbs_natCast]; exact hur)
 have hm0 := elG_lt (x := w) hg
 have hcp := fun (z s : Int) => com_pow (x := 1) (y := (val r : Int)) (z := z) (s := s) hm0 (elG_gcd hg hw) (elG_gcd hg hh)
 rw [hwit]; simp only
 refine ⟨hE, trivial, ?_, ?_⟩
 ·have hrd : rdyS (nrT p k acc X) [ofZ (val u : Int), ofZ ((val u * val r : Nat) : Int)] = 0 := by
   rw [nr_rdy hE, if_neg (fun h => h (by intro y hy; simp at hy; rcases hy with rfl | rfl; exact z0; exact z1)), if_neg (by simp)]
  have hin : inR (nrT p k acc X) [ofZ (val u : Int), ofZ ((val u * val r : Nat) : Int)] := by
   intro i hi
   have hi : i < 2 := hi
   rw [nrT, hsz]; simp only [nrQ]
   have hh0 : p.han ≠ [] := fun h => by rw [h] at hu; exact absurd hu (by simp [val])
   have hz0 : canon (szH p) ≠ [] := fun h => by rw [canon_nil] at h; omega
   rcases i with _ | _ | i
   ·simp only [List.getD_cons_zero]; rw [inV, if_neg hh0, ← zv_abs, zv_ofZ, Int.natAbs_natCast]; exact hu
   ·simp only [List.getD_cons_zero, List.getD_cons_succ]; rw [inV, if_neg hz0, ← zv_abs, zv_ofZ, Int.natAbs_natCast, val_canon]; exact hlt
   ·omega
  have him := nr_img (a := ofZ (val u : Int)) (b := ofZ ((val u * val r : Nat) : Int)) hE z0 z1
  have hc : (val r : Int) * val u + -((val u * val r : Nat) : Int) = 0 := by rw [Int.natCast_mul, Int.mul_comm]; omega
  rw [imgS, if_neg (fun h => h hrd), zv_ofZ, zv_ofZ, hXv] at him
  rw [hcp, Int.one_mul, hc, powI_zero, mmr, Nat.mul_one, powI_mod, hpw] at him
  rw [hldS, if_neg (fun h => h hrd), if_neg (fun h => h hin), him, if_neg (fun h => h rfl)]
  exact congrArg (fun b => (b, (0 : Int))) (decide_eq_true rfl)
 ·rw [unm_of hgo hg hh hX z0 z1, divZ_of hup hur huB, if_neg (by rw [ofZ_nat]; simp only; rintro (h | h); cases h; rw [canon_nil] at h; omega), if_neg (fun h => h rfl)]
  simp only
  rw [negZ_of (by rw [Int.natAbs_natCast]; exact okN_val hr)]
  have hnz : okZ (ofZ (-(val r : Int))) := okZ_ofZ.2 (by rw [Int.natAbs_neg, Int.natAbs_natCast]; exact okN_val hr)
  have hQ := prodS_two hg hX hh okZ_one hnz
  rw [zv_ofZ, zv_ofZ, hXv] at hQ
  rw [hcp, Int.one_mul, Int.mul_one, show (val r : Int) + -(val r : Int) = 0 by omega, powI_zero, mmr, Nat.mul_one, powI_mod, powI_one, Nat.mod_eq_of_lt hw.2.2.1, ok_canon hw.1] at hQ
  rw [hQ, ofZ_nat]; simp only
  rw [ok_canon hou]
theorem nterm_c {b : Bs} {v c : Int} {w : World} (hc1 : -9223372036854775808 ≤ c) (hc2 : c ≤ 9223372036854775807) :
  Cw 40 #[.string (S b), .int .i64 v, .int .i64 c] w (.agg #[.string (S b), .int .i64 v, .bool (ofZ c).1, .string (S (ofZ c).2)]) := by
 refine En [] [(0, .string (S b)), (1, .int .i64 v), (2, .int .i64 c)] Tryz.func40 rfl Tryz.ntmps40 rfl (Ac rfl (Ac rfl (Ac rfl (An _)))) Fn ?_
 refine Cs ?_
 refine Kh rfl (Oz [.string (S []), .int .i64 0, .bool false, .string (S [])] rfl) ?_
 intro b6
 refine Nt (Cs (Km rfl (Km rfl (Km rfl ?_))))
 refine Ku rfl (Oc rfl rfl (Kv fun w hS => zof_c (n := c) (by assumption) (by assumption))) ?_
 refine Kq rfl (Kb [[.string (S [])], [.int .i64 0], [.bool false, .string (S [])]] rfl rfl) ?_
 refine Nu rfl rfl (Sa rfl rfl rfl .tc) ?_
 refine Nt (Ce ?_)
 exact Rn rfl (.agg rfl .tc u95 rfl (by kernel_rfl) .nil) fun w' hS => ⟨by rfl, hS.below⟩
theorem vrs_succ {l : List Bs} {i : Nat} (h : i < l.length) : vrs (l.take (i + 1)) = vrs (l.take i) ++ [.string (S (l.getD i default))] := by
 rw [take_succ_getD h]; show List.flatMap vrC _ = _; rw [List.flatMap_append]; rfl
abbrev nrO (k : IK) (acc x : Bs) (rv : Value) (b59 b68 b70 b15 b8 : Nat) (va : Value) : List Ent :=
 [⟨some b15, [.slice (some ⟨b59, 0, none⟩) 1 1, va, .slice (some ⟨b70, 0, none⟩) 1 1], 42⟩, ⟨some b70, [.int .i64 0, .string (S acc), .slice (some ⟨b68, 0, none⟩) 2 2], 99⟩,
  ⟨some b68, [.string (S x), .int .i64 0, .bool (ofZ 1).1, .string (S (ofZ 1).2)] ++ [.string (S k.h), .int .i64 1, .bool (ofZ (-1)).1, .string (S (ofZ (-1)).2)], 95⟩, ⟨some b59, ((ikC k rv).drop 1).take 2, 26⟩, ⟨some b8, [.slice none 0 0, .slice none 0 0, .slice none 0 0], 42⟩]
theorem nstate_c {p : PR} {k : IK} {acc x : Bs} {a : Option Addr} {c : Nat} {w : World} {ok : Nat → Prop} (hF1 : (Fact.sl a (strs k.r)).holds ok w) (hm8 : p.mn.1.1.length ≤ 8) (hk8 : k.g.1.length ≤ 8) (hkl : k.r.length ≤ 100000) (hnl : k.name.length ≤ 140737488351232) (hD : TabD w) :
  Calls Tryz.prog 11 #[prV p, ikV k (.slice a k.r.length c), .string (S acc), .string (S x)] w fun e w' => ∃ gx : SA, e = .returned (SME gx (nrS p k acc x).2) ∧ (gx.core = (nrS p k acc x).1) ∧ Below w.heap.size w w' ∧ ∀ x ∈ (saF gx : List Fact), x.holds (fun b => ok b ∨ w.heap.size ≤ b) w' := by
 refine enter (S := St (fun b => ok b ∨ w.heap.size ≤ b) w [] ([Fact.sl a (strs k.r)])) (L := [(0, prV p), (1, ikV k (.slice a k.r.length c)), (2, .string (S acc)), (3, .string (S x))]) Tryz.func11 rfl Tryz.ntmps11 rfl (Ac rfl (Ac rfl (Ac rfl (Ac rfl (An _))))) (St.start (fun _ h => Or.inr h) (facts_or (Fc hF1 Fn))) ?_
 refine Cs ?_
 refine Kh rfl (Oy rfl rfl) ?_
 intro b4
 refine Kh rfl (Oy rfl rfl) ?_
 intro b5
 refine Kh rfl (Oz [.slice none 0 0, .slice none 0 0, .slice none 0 0] rfl) ?_
 intro b8
 refine Ka rfl (Nt (Cq (Cs ?_)))
 refine Kq rfl (lda rfl rfl .tc u30 rfl ?_) ?_
 ·kernel_rfl
 refine Kq rfl (lda rfl rfl .tc u33 rfl ?_) ?_
 ·kernel_rfl
 refine Ku rfl (Oc rfl rfl (Kv fun w hS => icheck_c (p := p) (k := k) (by (exact hS.sl)) (by assumption) (by assumption) (by omega) (by assumption) (by (exact tabd_st hD hS)))) ?_
 refine Ka rfl (Nt (Cs (Km rfl (Kq rfl (rd_neq rfl rfl rfl) (Nt ?_)))))
 refine Cd rfl (fun hc22 => ?_) (fun hc22 => ?_)
 ·(try simp only [sB] at hc22)
  have hE : nrE p k acc x = chkN p k := by rw [nrE, if_pos (by simpa using hc22)]
  have hr : nrS p k acc x = (([], [], []), chkN p k) := by rw [nrS, hE, if_pos (by simpa using hc22)]
  refine Cs (Kq rfl (Kb [[.slice none 0 0], [.slice none 0 0], [.slice none 0 0]] rfl rfl) (Km rfl ?_))
  refine Nu rfl rfl (Sa rfl rfl rfl .tc) ?_
  refine Ka rfl (Nt (Ce (Xb ?_)))
  exact Rn rfl (.agg rfl .tc u42 rfl (by kernel_rfl) (.tmp rfl .nil)) fun w' hS => sm_err hr hS
 ·(try simp only [sB] at hc22)
  have h0 : chkN p k = 0 := by simpa using hc22
  have hg : chkG k.g = 0 := (chkN_ok h0).2.2.2.2.1
  refine Ck (Xa (Cq ?_))
  refine WC.joinP (σ := Unit) [(2, _), (3, _), (4, _), (5, _), (8, _)] (fun gq => [(32, .bool (decide (¬ (okN acc ∧ okN x))))]) (fun gq => True) (S5 rfl rfl rfl rfl rfl) ?_ ?_
  ·skip
   refine Cg (Km rfl ?_)
   refine Ku rfl (Oc rfl rfl (Kv fun w hS => valid_c (a := acc))) ?_
   refine Kq rfl (Rt rfl rfl) (Km rfl ?_)
   refine Nb 28 rfl (fun hg28 => ?_) (fun hg28 => ?_)
   ·(try simp only [sB] at hg28)
    refine Kt rfl (Kt rfl (Kt rfl (Kq rfl (Rp rfl rfl rfl) (Nn ?_))))
    refine WX.joinP (()) (S5 rfl rfl rfl rfl rfl) (by refine (Sc ?_ (S0 _)) <;> ((refine slot_b rfl ?_; (try dsimp only); (simp [*]; done)))) ?_ (by (exact fun _ h => h))
    (try dsimp only)
    done
   ·(try simp only [sB] at hg28)
    refine Km rfl ?_
    refine Ku rfl (Oc rfl rfl (Kv fun w hS => valid_c (a := x))) ?_
    refine Kq rfl (Rt rfl rfl) (Kq rfl (Rq rfl rfl rfl) (Nn ?_))
    refine WX.joinP (()) (S5 rfl rfl rfl rfl rfl) (by refine (Sc ?_ (S0 _)) <;> ((refine slot_b rfl ?_; (try dsimp only); (simp [*]; done)))) ?_ (by (exact fun _ h => h))
    (try dsimp only)
    done
  ·rintro _ hmeet; (try dsimp only at hmeet ⊢)
   refine Cd rfl (fun hc32 => ?_) (fun hc32 => ?_)
   ·(try simp only [sB] at hc32)
    have hE : nrE p k acc x = 3 := by rw [nrE, if_neg (fun h => h h0), if_pos hc32]
    have hr : nrS p k acc x = (([], [], []), 3) := by rw [nrS, hE, if_pos (by decide)]
    refine Cs (Kq rfl (Kb [[.slice none 0 0], [.slice none 0 0], [.slice none 0 0]] rfl rfl) ?_)
    refine Nu rfl rfl (Sa rfl rfl rfl .tc) ?_
    refine Ka rfl (Nt (Ce (Xb ?_)))
    exact Rn rfl (.agg rfl .tc u42 rfl (by kernel_rfl) (.tmp rfl .nil)) fun w' hS => sm_err hr hS
   ·(try simp only [sB] at hc32)
    have hok : okN acc ∧ okN x := Decidable.not_not.1 hc32
    refine Ck (Xa (Cq ?_))
    refine WC.joinP (σ := Unit) [(2, _), (3, _), (4, _), (5, _), (8, _)] (fun gq => [(45, .bool (decide (¬ (elG k.g acc ∧ elG k.g x))))]) (fun gq => True) (S5 rfl rfl rfl rfl rfl) ?_ ?_
    ·skip
     refine Cg (Kq rfl (Fa (q := 1) rfl rfl u33 rfl rfl) ?_)
     refine Kq rfl (ldp rfl rfl .tc u26 rfl (by kernel_rfl : _ = some 2) (by rfl) (by rfl)) ?_
     refine Km rfl ?_
     refine Ku rfl (Oc rfl rfl (Kv fun w hS => pwhas_c (g := k.g) (x := acc) (by assumption))) ?_
     refine Ns 37 rfl (v' := .bool (decide (elG k.g acc))) (congrArg Value.bool (by simp [hg])) ?_
     refine Kq rfl (Rt rfl rfl) (Km rfl ?_)
     refine Nb 39 rfl (fun hg39 => ?_) (fun hg39 => ?_)
     ·(try simp only [sB] at hg39)
      refine Kt rfl (Kt rfl (Kt rfl (Kt rfl (Kt rfl (Kq rfl (Rp rfl rfl rfl) (Nn ?_))))))
      refine WX.joinP (()) (S5 rfl rfl rfl rfl rfl) (by refine (Sc ?_ (S0 _)) <;> ((refine slot_b rfl ?_; (try dsimp only); (simp [*]; done)))) ?_ (by (exact fun _ h => h))
      (try dsimp only)
      done
     ·(try simp only [sB] at hg39)
      refine Kq rfl (Fa (q := 1) rfl rfl u33 rfl rfl) ?_
      refine Kq rfl (ldp rfl rfl .tc u26 rfl (by kernel_rfl : _ = some 2) (by rfl) (by rfl)) ?_
      refine Km rfl ?_
      refine Ku rfl (Oc rfl rfl (Kv fun w hS => pwhas_c (g := k.g) (x := x) (by assumption))) ?_
      refine Ns 43 rfl (v' := .bool (decide (elG k.g x))) (congrArg Value.bool (by simp [hg])) ?_
      refine Kq rfl (Rt rfl rfl) (Kq rfl (Rq rfl rfl rfl) (Nn ?_))
      refine WX.joinP (()) (S5 rfl rfl rfl rfl rfl) (by refine (Sc ?_ (S0 _)) <;> ((refine slot_b rfl ?_; (try dsimp only); (simp [*]; done)))) ?_ (by (exact fun _ h => h))
      (try dsimp only)
      done
    ·rintro _ hmeet; (try dsimp only at hmeet ⊢)
     refine Cd rfl (fun hc45 => ?_) (fun hc45 => ?_)
     ·(try simp only [sB] at hc45)
      have hE : nrE p k acc x = 13 := by rw [nrE, if_neg (fun h => h h0), if_neg (fun h => h hok), if_pos hc45]
      have hr : nrS p k acc x = (([], [], []), 13) := by rw [nrS, hE, if_pos (by decide)]
      refine Cs (Kq rfl (Kb [[.slice none 0 0], [.slice none 0 0], [.slice none 0 0]] rfl rfl) ?_)
      refine Nu rfl rfl (Sa rfl rfl rfl .tc) ?_
      refine Ka rfl (Nt (Ce (Xb ?_)))
      exact Rn rfl (.agg rfl .tc u42 rfl (by kernel_rfl) (.tmp rfl .nil)) fun w' hS => sm_err hr hS
     ·(try simp only [sB] at hc45)
      have hel : elG k.g acc ∧ elG k.g x := Decidable.not_not.1 hc45
      have hE : nrE p k acc x = (sizR p).2 := nrE_of h0 hel.1 hel.2
      refine Ck (Xa (Cs ?_))
      refine Kq rfl (lda rfl rfl .tc u30 rfl ?_) ?_
      ·kernel_rfl
      refine Ku rfl (Oc rfl rfl (Kv fun w hS => psizes_c (p := p) (by assumption) (by (exact tabd_st hD hS)))) ?_
      refine Km rfl (Kq rfl (Re rfl rfl rfl) (Kq rfl (Re rfl rfl rfl) (Kq rfl (Re rfl rfl rfl) (Ka rfl (Ka rfl (Ka rfl (Nt (Cq (Cs (Km rfl (Kq rfl (rd_neq rfl rfl rfl) (Nt ?_))))))))))))
      refine Cd rfl (fun hc54 => ?_) (fun hc54 => ?_)
      ·(try simp only [sB] at hc54)
       have hr : nrS p k acc x = (([], [], []), (sizR p).2) := by rw [nrS, hE, if_pos (by simpa using hc54)]
       refine Cs (Kq rfl (Kb [[.slice none 0 0], [.slice none 0 0], [.slice none 0 0]] rfl rfl) (Km rfl ?_))
       refine Nu rfl rfl (Sa rfl rfl rfl .tc) ?_
       refine Ka rfl (Nt (Ce (Xb ?_)))
       exact Rn rfl (.agg rfl .tc u42 rfl (by kernel_rfl) (.tmp rfl .nil)) fun w' hS => sm_err hr hS
      ·(try simp only [sB] at hc54)
       have hr : nrS p k acc x = (nrT p k acc x, 0) := by rw [nrS, hE, if_neg (by simpa using hc54)]
       refine Ck (Xa (Cs (Ka rfl (Nt (Cq ?_)))))
       refine Cf [4, 5, 6, 7, 8, 9, 10, 0, 1, 2, 3, 11, 12, 13, 14, 15] [16] [0, 0, 3, 0, 0, 0, 1, 0, 0, 0, 1, 3, 0, 3, 0, 3, 2] (by kernel_rfl) (by kernel_rfl) rfl ?_
       refine Kj rfl (Rm rfl rfl) (Kj rfl (Rm rfl rfl) ?_)
       refine Jv rfl rfl rfl rfl rfl (fun ext => og_callv rfl rfl rfl (by kernel_rfl) rfl (Kv fun w hS => nterm_c (b := x) (v := 0) (c := 1) (by omega) (by omega))) ?_
       refine Kj rfl (Rm rfl rfl) (Kj rfl (Fa (q := 7) rfl rfl u33 rfl rfl) (Kj rfl (Ld rfl rfl .tc u22) ?_))
       refine Jv rfl rfl rfl rfl rfl (fun ext => og_callv rfl rfl rfl (by kernel_rfl) rfl (Kv fun w hS => nterm_c (b := k.h) (v := 1) (c := -1) (by omega) (by omega))) ?_
       refine Kj rfl (Fa (q := 1) rfl rfl u33 rfl rfl) ?_
       refine Kj rfl (ldp rfl rfl .tc u26 rfl (by kernel_rfl : _ = some 2) (by rfl) (by rfl)) ?_
       refine Jf rfl rfl rfl rfl rfl (fr_bsN rfl rfl u38 (by kernel_rfl : _ = some (some (.agg #[.string (S []), .string (S [])]), 2, 32)) (by kernel_rfl) (by decide) rfl rfl (by (simp [Value.cells]; done)) (by (exact cells_one _)) (by decide)) ?_
       intro b59
       refine Kj rfl (Rm rfl rfl) ?_
       refine Jf rfl rfl rfl rfl rfl (fr_bsN rfl rfl u97 (by kernel_rfl : _ = some (some (.agg #[.string (S []), .int .i64 0, .bool false, .string (S [])]), 4, 48)) (by kernel_rfl) (by decide) rfl rfl (by (simp [Value.cells]; done)) (by (simp only [List.map, Value.cells, List.flatMap_cons, List.flatMap_nil, List.append_nil, List.toList_toArray]; rfl)) (by decide)) ?_
       intro b68
       refine Kj rfl (Kb [[.int .i64 0], [.string (S [])], [.slice none 0 0]] rfl rfl) ?_
       refine Jf rfl rfl rfl rfl rfl (fr_bsN rfl rfl u40 (by kernel_rfl : _ = some (some (.agg #[.int .i64 0, .string (S []), .slice none 0 0]), 3, 48)) (by kernel_rfl) (by decide) rfl rfl (by (simp [Value.cells]; done)) (by (exact cells_one _)) (by decide)) ?_
       intro b70
       refine Kj rfl (Kb [[.slice none 0 0], [.slice none 0 0], [.slice none 0 0]] rfl rfl) ?_
       refine Jf rfl rfl rfl rfl rfl (fr_alloc rfl (v := (.agg #[.slice none 0 0, .slice none 0 0, .slice none 0 0])) (cs := [.slice none 0 0, .slice none 0 0, .slice none 0 0]) (by kernel_rfl) rfl) ?_
       intro b15
       refine WJ.nil ?_
       refine Nu rfl rfl (Sa rfl rfl rfl .tc) ?_
       refine Nt (Cq (Cs (Kq rfl (Fa (q := 12) rfl rfl u30 rfl rfl) (Kq rfl (Ld rfl rfl .tc u22) ?_))))
       refine Km rfl (Kq rfl (Kb [[.string (S [])], [.string (S [])]] rfl rfl) (Km rfl (Nt (Cb ?_))))
       refine Lo (σ := Nat × (Option Nat) × Nat × (List Value)) [(8, _), (15, _), (75, _)] (fun gq => [(76, .int .i64 (gq.1 : Int))]) (fun gq => gq.1 ≤ 2 ∧ gq.2.2.1 = gq.1 + gq.2.2.2.length) (fun gq => 2 - gq.1) (fun gq => ⟨gq.2.1, vrs ([p.han, (sizR p).1.2].take gq.1) ++ gq.2.2.2, 102⟩ :: nrO k acc x (.slice a k.r.length c) b59 b68 b70 b15 b8 (.slice (gq.2.1.map fun b => ⟨b, 0, none⟩) gq.1 gq.2.2.1)) (fun gq => []) (0, none, 0, []) (S3 rfl rfl rfl) (S1 rfl) (by (try dsimp only); exact ⟨Nat.zero_le _, rfl⟩) (by exact fun w h => by refine St.nil (own := nrO k acc x (.slice a k.r.length c) b59 b68 b70 b15 b8 (.slice none 0 0)) ?_ _; exact st_sub _ h) ?_
       rintro ⟨i, o, cp, sp⟩ hinv1; (try dsimp only at hinv1 ⊢)
       obtain ⟨hi, hcp⟩ := hinv1
       refine Cs (Kq rfl (rd_lss rfl rfl rfl) (Nt (Cq ?_)))
       refine Cd rfl (fun hc77 => ?_) (fun hc77 => ?_)
       ·(try simp only [sB] at hc77)
        have hil : i < [p.han, (sizR p).1.2].length := by show i < 2; omega
        have hb2 : i < 2 := by omega
        refine Ck (Xa (Cq (Cb (Cs ?_))))
        refine Kq rfl (rd_aidx rfl rfl rfl u100 u22 rfl (by kernel_rfl) ?_ (by rw [Int.toNat_natCast]; exact map_getD [p.han, (sizR p).1.2] (fun s : Bs => Value.string (S s)) i hil)) ?_
        ·omega
        refine Ka rfl (Nt (Cg (Kq rfl (Fa (q := 1) rfl rfl u42 rfl rfl) (Kq rfl (Ld rfl rfl .tc u39) ?_))))
        refine Km rfl (Kq rfl (Kb [[.string (S [])]] rfl rfl) ?_)
        refine Kh rfl (og_bsN rfl rfl u39 (by kernel_rfl : _ = some (some (.agg #[.string (S [])]), 1, 16)) (by kernel_rfl) (by decide) rfl rfl (by (simp [Value.cells]; done)) (by (exact cells_one _)) (by decide)) ?_
        intro b83
        refine Kh rfl (appgN rfl u39 (by kernel_rfl : _ = some (some (.agg #[.string (S [])]), 1, 16)) (by kernel_rfl) (by decide) .tc rfl rfl (fun w hS => by (exact hS.os)) (by rfl) (by (refine ⟨by rw [flatMap_len _ _ 1 (fun _ => rfl), List.length_take]; show min i 2 * 1 = i * 1; omega, by omega, by omega, by omega⟩)) (by (simp [Value.oneCell']; done))) ?_
        rintro ⟨o84, c84, s84⟩
        refine WL.pu ?_
        intro hg84; (try dsimp only at hg84 ⊢)
        refine Kq rfl (Fa (q := 1) rfl rfl u42 rfl rfl) ?_
        refine Ng rfl rfl (st rfl rfl rfl .tc (by kernel_rfl) rfl ?_ (by (simp only [List.set_cons_zero, List.set_cons_succ]; rfl))) ?_
        ·(simp; done)
        intro _
        refine Nn (Xd (Xa (Cg (Kq rfl (Rz rfl rfl rfl (by omega)) (Km rfl (Nn ?_))))))
        refine Lx ((i + 1, o84, c84, s84)) (by (try dsimp only); omega) (S3 rfl rfl rfl) (by refine (Sc ?_ (S0 _)) <;> (rfl)) ?_ (by exact fun w h => by dsimp only; rw [vrs_succ hil]; exact st_sub _ h)
        (try dsimp only)
        exact ⟨by omega, by omega⟩
       ·(try simp only [sB] at hc77)
        refine Cx (Xc (Xc (Xe ?_)))
        obtain rfl : i = 2 := by omega
        refine Xa (Cs ?_)
        refine Kq rfl (lda rfl rfl .tc u42 rfl ?_) ?_
        ·kernel_rfl
        refine Nu rfl rfl (Sa rfl rfl rfl .tc) ?_
        refine Ka rfl (Nt (Ce ?_))
        exact Rn rfl (.agg rfl .tc u42 rfl (by kernel_rfl) (.tmp rfl .nil)) fun w' hS => ⟨⟨[k.g], [p.han, (sizR p).1.2], [((0, acc, [trm x 0, (k.h, 1, ofZ (-1))]), some ⟨b68, 0, none⟩, 2)], some ⟨b59, 0, none⟩, 1, o.map fun b => ⟨b, 0, none⟩, cp, some ⟨b70, 0, none⟩, 1⟩, by rw [hr]; rfl, by rw [hr]; rfl, hS.below, Fc hS.osk (Fc hS.ock (Fc hS.osk (Fc hS.osk Fn)))⟩
theorem dec_big {n : Nat} (h : ¬ n < 10) : Lib.decDigits n = Lib.decDigits (n / 10) ++ [UInt8.ofNat (48 + n % 10)] := by rw [Lib.decDigits, dif_neg h]
theorem dec_small {n : Nat} (h : n < 10) : Lib.decDigits n = [UInt8.ofNat (48 + n)] := by rw [Lib.decDigits, dif_pos h]
theorem dec_len20 : ∀ (k n : Nat), n < 10 ^ (k + 1) → (Lib.decDigits n).length ≤ k + 1
 | 0, n, h => by rw [dec_small (by simpa using h)]; simp
 | k + 1, n, h => by
  by_cases h' : n < 10
  ·rw [dec_small h']; simp
  ·rw [dec_big h', List.length_append]
   have := dec_len20 k (n / 10) (by rw [Nat.pow_succ] at h; omega)
   simp; omega
theorem mac_len (k s : Bs) : (mac k s).length = 32 := sha_len _
def nameB (at_ a b : Nat) : Bs := Lib.decDigits at_ ++ [46] ++ Lib.decDigits a ++ [46] ++ Lib.decDigits b
def blkB (sd : Bs) (at_ a b : Nat) : Bs := mac sd (nameB at_ a b)
def blks (sd : Bs) (at_ a : Nat) : Nat → Bs
 | 0 => []
 | k + 1 => blks sd at_ a k ++ blkB sd at_ a k
theorem blks_len (sd : Bs) (at_ a : Nat) : ∀ k, (blks sd at_ a k).length = 32 * k
 | 0 => rfl
 | k + 1 => by rw [blks, List.length_append, blks_len sd at_ a k, blkB, mac_len]; omega
def sizeB (nb : Nat) : Nat := (nb + 7) / 8
def bytesB (sd : Bs) (at_ a nb : Nat) : Bs := (blks sd at_ a ((sizeB nb + 31) / 32)).take (sizeB nb)
def attS (sd : Bs) (at_ a nb : Nat) : Bs := canon (val (bytesB sd at_ a nb) % 2 ^ nb)
theorem mask_val (c : UInt8) (r : Bs) (x nb : Nat) (hx : x ≤ 8) (hn : nb = 8 * r.length + x) : val (c :: r) % 2 ^ nb = c.toNat % 2 ^ x * 256 ^ r.length + val r := by
 have e : 2 ^ nb = 256 ^ r.length * 2 ^ x := by rw [hn, Nat.pow_add, Nat.pow_mul]
 have h1 := val_lt r
 rw [val, e, Nat.mod_mul, Nat.mul_comm c.toNat, Nat.mul_add_mod, Nat.mod_eq_of_lt h1, Nat.mul_add_div (p256 _), Nat.div_eq_of_lt h1, Nat.add_zero, Nat.mul_comm (c.toNat % 2 ^ x)]
 omega
theorem att_end {sd X : Bs} {at_ a nb Z x : Nat} (hZ : Z = sizeB nb) (hZ0 : 1 ≤ Z) (hby : bytesB sd at_ a nb = X.take Z) (hX : Z ≤ X.length) (hx : x = (X.getD 0 default).toNat % 2 ^ (8 - (8 * Z - nb))) (hnb : nb ≤ 8 * Z) (hnb2 : 8 * Z < nb + 8) :
  canon (val ([UInt8.ofNat x] ++ (X.take Z).drop 1)) = attS sd at_ a nb := by
 have e : X.take Z = X.getD 0 default :: (X.take Z).drop 1 := by
  cases X with
  | nil => simp at hX; omega
  | cons c s => obtain ⟨q, rfl⟩ : ∃ q, Z = q + 1 := ⟨Z - 1, by omega⟩; rfl
 have hl : ((X.take Z).drop 1).length = Z - 1 := by rw [List.length_drop, List.length_take]; omega
 have hc := (X.getD 0 default).toNat_lt
 have hxl : x < 256 := by rw [hx]; exact Nat.lt_of_le_of_lt (Nat.mod_le _ _) hc
 have hm := mask_val (X.getD 0 default) ((X.take Z).drop 1) (8 - (8 * Z - nb)) nb (by omega) (by rw [hl]; omega)
 rw [attS, hby]
 congr 1
 rw [show val (X.take Z) = val (X.getD 0 default :: (X.take Z).drop 1) by rw [← e], hm, List.singleton_append, val, UInt8.toNat_ofNat', ← hx]
 congr 1
 rw [Nat.mod_eq_of_lt (by omega)]
abbrev Tab (w : World) : Prop := Lib.TabIs Tryz.prog w "internal/strconv.uint64pow10" .u64 Lib.pow10Tab
theorem tab_below {w w' : World} (h : Tab w) (hb : Below w.heap.size w w') : Tab w' := by
 have h' : w.var? Tryz.prog "internal/strconv.uint64pow10" = some (Lib.pow10Tab.map fun z => Value.int .u64 z).toArray := h
 show w'.var? Tryz.prog "internal/strconv.uint64pow10" = _
 unfold World.var? at h' ⊢
 cases hg : Tryz.prog.globalNamed "internal/strconv.uint64pow10" with
 | none => rw [hg] at h'; cases h'
 | some g =>
  rw [hg] at h'
  simp only [Option.bind_some] at h' ⊢
  have hlt : g < w.heap.size := by
   rcases Nat.lt_or_ge g w.heap.size with q | q
   ·exact q
   ·rw [Array.getElem?_eq_none q] at h'; cases h'
  rw [hb.block g hlt]; exact h'
theorem tab_st {ok : Nat → Prop} {w0 w : World} {own : List Ent} {fs : List Fact} (h : Tab w0) (hS : St ok w0 own fs w) : Tab w := tab_below h hS.below
theorem grow_below (w : World) (k : Nat) (os : Array Obj) : Below w.heap.size w (Sort.grow (w.drewN k) os) := by
 have hh : (Sort.grow (w.drewN k) os).heap = w.heap ++ os := rfl
 refine ⟨rfl, rfl, rfl, by rw [hh]; simp, fun q hq => ?_⟩
 rw [hh, Array.getElem?_append_left hq]
theorem itoa_c {n : Nat} {w : World} (hn : n ≤ 9223372036854775807) (hT : Tab w) :
  Cw 218 #[.int .i64 (n : Int)] w (.string (S (Lib.decDigits n))) :=
 (itoa_any n (by omega) (by omega) w hT).mono fun _ _ ⟨h1, k, os, h2⟩ => ⟨by rw [h1, Lib.itoa, if_neg (by omega), Int.toNat_natCast]; rfl, by rw [h2]; exact grow_below w k os⟩
def itB {σ : Type} (sd : Bs) (at_ a : Nat) (after : σ → Bs → σ) (stop : σ → Bs → Option Code) : Nat → Nat → σ → σ × Option Code
 | 0, _, s => (s, none)
 | f + 1, b, s => if (stop s (blkB sd at_ a b)).isSome then (after s (blkB sd at_ a b), stop s (blkB sd at_ a b)) else itB sd at_ a after stop f (b + 1) (after s (blkB sd at_ a b))
section
variable {σ : Type} {sd : Bs} {at_ a : Nat} {after : σ → Bs → σ} {stop : σ → Bs → Option Code} {K b : Nat} {s : σ}
theorem itB_stop (h : b < K) (hs : (stop s (blkB sd at_ a b)).isSome = true) : itB sd at_ a after stop (K - b) b s = (after s (blkB sd at_ a b), stop s (blkB sd at_ a b)) := by
 rw [show K - b = (K - b - 1) + 1 by omega, itB, if_pos hs]
theorem itB_next (h : b < K) (hs : stop s (blkB sd at_ a b) = none) : itB sd at_ a after stop (K - b) b s = itB sd at_ a after stop (K - (b + 1)) (b + 1) (after s (blkB sd at_ a b)) := by
 rw [show K - b = (K - (b + 1)) + 1 by omega, itB, if_neg (by simp [hs])]
theorem itB_lt (h : b ≤ K) {s0 : σ} (hi : itB sd at_ a after stop (K - b) b s = itB sd at_ a after stop K 0 s0) (hs : (itB sd at_ a after stop K 0 s0).2.isSome = true) : b < K := by
 rcases Nat.lt_or_ge b K with q | q
 ·exact q
 ·rw [← hi, show K - b = 0 by omega, itB] at hs; cases hs
end
theorem blocks_c {t : Tp} {x : Value} {a : Int} {own0 : List Ent} {ok : Nat → Prop} {w0 : World} {fs : List Fact} {w : World} (hS0 : St ok w0 (own0) (fs) w) :
  Calls Tryz.prog 193 #[.agg #[x, .string (S t.seed), .int .i64 t.at_], .int .i64 a] w fun e w' => ∃ g : Nat × Nat, e = .returned (.func (.func 217) #[] #[.pointer (some ⟨g.1, 0, none⟩), .pointer (some ⟨g.2, 0, none⟩)]) ∧ St ok w0 (⟨some g.2, [.int .i64 a], 3⟩ :: ⟨some g.1, [x, .string (S t.seed), .int .i64 t.at_], 66⟩ :: own0) fs w' := by
 refine enter (S := St ok w0 (own0) (fs)) (L := [(0, .agg #[x, .string (S t.seed), .int .i64 t.at_]), (1, .int .i64 a)]) Tryz.func193 rfl Tryz.ntmps193 rfl (Ac rfl (Ac rfl (An _))) hS0 ?_
 refine Cs ?_
 refine Kh rfl (Oy rfl rfl) ?_
 intro b2
 refine Kh rfl (Oy rfl rfl) ?_
 intro b3
 refine Ka rfl (Nt (Cs (Kq rfl (rd_mkf rfl rfl rfl) (Ka rfl (Nt (Ce ?_))))))
 exact Rn rfl (.tmp rfl .nil) fun w' hS => ⟨(b2, b3), rfl, hS⟩
theorem blk_i {σ γ : Type} {CO : σ → γ → List Ent} {pg : σ → γ → Prop} {inv : σ → Bs → Prop} {after : σ → Bs → σ} {stop : σ → Bs → Option Code} {l : Nat} {r : Loop} {ok : Nat → Prop} {w0 : World} {fs : List Fact} {w : World} {sd : Bs} {x : Value} {at_ a : Nat} {b1 b2 : Nat} {s0 : σ} {K : Nat} [∀ s g, HasE (CO s g) b1 [x, .string (S sd), .int .i64 (at_ : Int)] 66] [∀ s g, HasE (CO s g) b2 [.int .i64 (a : Int)] 3] {g0 : γ} (hY : YOk Tryz.prog l r ok w0 fs CO pg inv after stop (fun s : Bs => #[Value.string (S s)])) (hS0 : St ok w0 (CO s0 g0) (Fact.lp l (rcd r none) :: fs) w) (hg0 : pg s0 g0) (hsd : sd.length ≤ 400000) (hat : at_ ≤ 4294967296) (ha : a ≤ 1000) (hK : K ≤ 100000) (hinv : ∀ s x, x.length = 32 → inv s x) (hstop : (itB sd at_ a after stop K 0 s0).2.isSome = true) (hT : Tab w0) :
  Calls Tryz.prog 217 #[.func (.yield l) #[] #[], .pointer (some ⟨b1, 0, none⟩), .pointer (some ⟨b2, 0, none⟩)] w fun e w' => (∃ v, e = .returned v) ∧ ∃ g', ((itB sd at_ a after stop K 0 s0).2 = none → pg ((itB sd at_ a after stop K 0 s0).1) g') ∧ St ok w0 (CO ((itB sd at_ a after stop K 0 s0).1) g') (Fact.lp l (rcd r ((itB sd at_ a after stop K 0 s0).2)) :: fs) w' := by
 have hd1 := dec_len20 18 at_ (by omega); have hd2 := dec_len20 18 a (by omega)
 refine enter (S := St ok w0 (CO s0 g0) (Fact.lp l (rcd r none) :: fs)) (L := [(0, .func (.yield l) #[] #[]), (1, .pointer (some ⟨b1, 0, none⟩)), (2, .pointer (some ⟨b2, 0, none⟩))]) Tryz.func217 rfl Tryz.ntmps217 rfl (Ac rfl (Ac rfl (Ac rfl (An _)))) hS0 ?_
 refine Cs (Ka rfl (Nt (Cb ?_)))
 refine Lo (σ := Nat × σ × γ) [(0, _), (1, _), (2, _)] (fun gq => [(4, .int .i64 (gq.1 : Int))]) (fun gq => gq.1 ≤ K ∧ pg gq.2.1 gq.2.2 ∧ itB sd at_ a after stop (K - gq.1) gq.1 gq.2.1 = itB sd at_ a after stop K 0 s0) (fun gq => K - gq.1) (fun gq => CO gq.2.1 gq.2.2) (fun gq => Fact.lp l (rcd r none) :: fs) (0, s0, g0) (S3 rfl rfl rfl) (S1 rfl) (by (try dsimp only); exact ⟨Nat.zero_le _, hg0, rfl⟩) (by (exact fun _ h => h)) ?_
 rintro ⟨b, s, g⟩ hinv1; (try dsimp only at hinv1 ⊢)
 obtain ⟨hp, hgs, hi⟩ := hinv1
 have hlt := itB_lt hp hi hstop
 have hd3 := dec_len20 18 b (by omega)
 refine Cq (Cb (Cq ?_))
 refine Cf [0, 1, 2, 4, 5, 8, 9, 3, 6, 7, 10, 11] [] [0, 0, 1, 0, 0, 1, 0, 0, 0, 1, 0, 0] (by kernel_rfl) (by kernel_rfl) rfl ?_
 (refine Kj rfl (rd_fa rfl rfl u66 rfl (by kernel_rfl) (by (try simp only [sN, Int.reduceToNat, Nat.reduceAdd, Nat.reduceMul, Nat.reduceSub]); rfl)) ?_)
 refine Kj rfl (Ld rfl rfl .tc u3) ?_
 refine Jv rfl rfl rfl rfl rfl (fun ext => Oc rfl rfl (Kv fun w hS => itoa_c (by omega) (by (exact tab_st hT hS)))) ?_
 refine Kj rfl (Ld rfl rfl .tc u3) ?_
 refine Jv rfl rfl rfl rfl rfl (fun ext => Oc rfl rfl (Kv fun w hS => itoa_c (by omega) (by (exact tab_st hT hS)))) ?_
 refine Kj rfl (Rm rfl rfl) ?_
 refine Jv rfl rfl rfl rfl rfl (fun ext => Oc rfl rfl (Kv fun w hS => itoa_c (by omega) (by (exact tab_st hT hS)))) ?_
 refine Kj rfl (rd_cat rfl rfl rfl ?_) ?_
 ·((try simp only [List.length_append, List.length_cons, List.length_nil]); omega)
 refine Kj rfl (rd_cat rfl rfl rfl ?_) ?_
 ·((try simp only [List.length_append, List.length_cons, List.length_nil]); omega)
 refine Kj rfl (rd_cat rfl rfl rfl ?_) ?_
 ·((try simp only [List.length_append, List.length_cons, List.length_nil]); omega)
 refine Kj rfl (rd_cat rfl rfl rfl ?_) ?_
 ·((try simp only [List.length_append, List.length_cons, List.length_nil]); omega)
 refine Kj rfl (Ra rfl rfl) ?_
 refine WJ.nil ?_
 refine Nt (Cs (Km rfl ?_))
 (refine Kq rfl (rd_fa rfl rfl u66 rfl (by kernel_rfl) (by (try simp only [sN, Int.reduceToNat, Nat.reduceAdd, Nat.reduceMul, Nat.reduceSub]); rfl)) ?_)
 refine Kq rfl (Ld rfl rfl .tc u9) ?_
 refine Km rfl ?_
 refine Ku rfl (Oc rfl rfl (Kv fun w hS => mac_c (key := sd) (s := nameB at_ a b) (by omega) (by simp only [nameB, List.length_append, List.length_cons, List.length_nil]; omega))) ?_
 refine Kh rfl (og_yield hY [] (blkB sd at_ a b) rfl rfl rfl rfl (hinv _ _ (mac_len _ _)) (hgs)) ?_
 intro gy; refine WL.pu ?_; intro hgy; (refine WL.app0 ?_)
 refine Kq rfl (Rt rfl rfl) (Nt ?_)
 refine Cd rfl (fun hc25 => ?_) (fun hc25 => ?_)
 ·(try simp only [sB] at hc25)
  refine Ce (Xf (Xb (Xb (Xf ?_))))
  exact Rn rfl .nil fun w' hS => ⟨⟨_, rfl⟩, gy, by rw [← hi, itB_stop hlt (by simpa using hc25)]; exact hgy, by rw [← hi, itB_stop hlt (by simpa using hc25)]; dsimp only; exact st_sub _ hS⟩
 ·(try simp only [sB] at hc25)
  have hst : stop s (blkB sd at_ a b) = none := by simpa using hc25
  rw [hst]
  refine Ck (Xd (Xa (Cg (Km rfl (Kq rfl (Rz rfl rfl rfl (by omega)) (Ka rfl (Nn ?_)))))))
  refine Lx ((b + 1, after s (blkB sd at_ a b), gy)) (by (try dsimp only); omega) (S3 rfl rfl rfl) (by refine (Sc ?_ (S0 _)) <;> (rfl)) ?_ (by (exact fun _ h => h))
  (try dsimp only)
  exact ⟨by omega, hgy hst, (itB_next hlt hst).symm.trans hi⟩
theorem strCells_S (l : List UInt8) : Lib.strCells (S l) = l.map B := by simp [Lib.strCells, S, B]
section
variable {ds : List Deferred} {P : Program} {o : Oper} {n : Nat} {L : Slots} {ok : Nat → Prop} {w0 : World} {own : List Ent} {C : Ent → List Ent} {fs : List Fact} {x y : Operand} {t u e : TypeId} {xs : List Value}
theorem run_apps {w : World} {own : List Ent} {kk : Nat} {ob : Option Nat} {len cap : Nat} {sp : List Value} {l : List UInt8} {ty : TypeId} (hS : St ok w0 own fs w) (hk : own[kk]? = some ⟨ob, xs ++ sp, e⟩)
  (hu : P.underlying t = some (.slice e)) (hv : P.underlying u = some .string) (hi : (P.info? e).map (fun i => (i.zero, i.size, i.bytes)) = some (some (.int .u8 0), 1, 1))
  (hxl : xs.length = len) (hcap : cap = len + sp.length) (hb : len + l.length ≤ 140737488355328) (hzz : ob = none ∨ 0 < cap) :
  ∃ (g : Gr) (w' : World), (Builtin.append_ #[t, u] ty #[.slice (ob.map fun b => ⟨b, 0, none⟩) len cap, .string (S l)]).run P w = .ok (.slice (g.ob.map fun b => ⟨b, 0, none⟩) (len + l.length) g.cap) w' ∧ (g.cap = len + l.length + g.sp.length ∧ (g.ob = none ∨ 0 < g.cap)) ∧ St ok w0 (own.set kk ⟨g.ob, (xs ++ l.map B) ++ g.sp, e⟩) fs w' := by
 obtain ⟨i', hi', hz, hs, hbb⟩ := info_parts hi
 have hsz : (S l).size = l.length := S_size l
 have htake : (xs ++ sp).take len = xs := by rw [← hxl]; simp
 have zlen : ∀ q, (Builtin.zeroCells (Value.int .u8 0).cells q).toList = List.replicate q (.int .u8 0) := fun q => zero_one _ q
 have hsame : own.set kk ⟨ob, xs ++ sp, e⟩ = own := by
  apply List.ext_getElem?; intro q
  by_cases hq : kk = q
  ·subst hq; rw [List.getElem?_set_self (List.getElem?_eq_some_iff.1 hk).1, hk]
  ·rw [List.getElem?_set_ne hq]
 cases ob with
 | none =>
  have hcs : xs ++ sp = [] := hS.own_ _ (List.mem_of_getElem? hk)
  obtain ⟨rfl, rfl⟩ : xs = [] ∧ sp = [] := by simpa using hcs
  obtain rfl : len = 0 := by simpa using hxl.symm
  obtain rfl : cap = 0 := by simpa using hcap
  by_cases h0 : l.length = 0
  ·have hl : l = [] := List.eq_nil_of_length_eq_zero h0
   subst hl
   refine ⟨⟨none, 0, []⟩, w, ?_, ⟨rfl, .inl rfl⟩, by show St ok w0 (own.set kk ⟨none, [] ++ [], e⟩) fs w; rw [hsame]; exact hS⟩
   simp [Builtin.append_, run_underlying hu, run_underlying hv, sizeOf, typeInfo, hi', hs, Builtin.lenOf, S, Builtin.firstCells, ByteArray.size]
  ·have hrun := run_append_nil_string (P := P) w t u ty e i' (.int .u8 0) hu hv hi' hz (S l) (by omega) (by omega) (by rw [hbb, hsz]; omega)
   rw [hsz] at hrun
   refine ⟨⟨some w.heap.size, grownCap w l.length 0 e, List.replicate (grownCap w l.length 0 e - l.length) (.int .u8 0)⟩, _, by simpa using hrun, ?_, ?_⟩
   ·have := grownCap_ge w l.length 0 e; exact ⟨by simp; omega, .inr (by show 0 < grownCap w l.length 0 e; omega)⟩
   ·have := (hS.draw.alloc (l.map B ++ List.replicate (grownCap w l.length 0 e - l.length) (.int .u8 0)) e).replace kk
    have e1 : ((S l).data.map (fun b => Value.int .u8 b.toNat) ++ Builtin.zeroCells (Value.int .u8 0).cells (grownCap w l.length 0 e - l.length)) = (l.map B ++ List.replicate (grownCap w l.length 0 e - l.length) (Value.int .u8 0)).toArray := by
     apply Array.ext'; simp [zlen, S, B]
    simp only [List.nil_append]
    rw [e1]; exact this
 | some b' =>
  have hbk := hS.block hk
  by_cases hroom : len + l.length ≤ cap
  ·have hrun := Lib.run_append_room_string (P := P) w t u ty e i' hu hv hi' hs b' len cap (xs ++ sp).toArray hbk (S l) (by omega) (by simp [hsz]; omega)
   rw [hsz, strCells_S] at hrun
   refine ⟨⟨some b', cap, (xs ++ sp).drop (len + l.length)⟩, _, hrun, ?_, ?_⟩
   ·exact ⟨by simp; omega, .inr (hzz.resolve_left (by simp))⟩
   ·have := hS.setRow hk (xs ++ l.map B ++ (xs ++ sp).drop (len + l.length))
    simp only [htake]; exact this
  ·have hrun := Lib.run_append_grow_string (P := P) w t u ty e i' (.int .u8 0) hu hv hi' hz ⟨b', 0, none⟩ len cap xs (by rw [hs]; omega) (fun q v hq => by
     rw [Addr.add_lit, Nat.zero_add, block_cell hbk]
     rw [List.getElem?_append_left (List.getElem?_eq_some_iff.1 hq).1]; exact hq) (S l) (by omega) (by omega) (by rw [hbb, hsz]; exact growslice_fits (by omega) (by omega))
   rw [hsz, strCells_S] at hrun
   refine ⟨⟨some w.heap.size, grownCap w (len + l.length) cap e, List.replicate (grownCap w (len + l.length) cap e - (len + l.length)) (.int .u8 0)⟩, _, hrun, ?_, ?_⟩
   ·have := grownCap_ge w (len + l.length) cap e; exact ⟨by simp; omega, .inr (by show 0 < grownCap w (len + l.length) cap e; omega)⟩
   ·have := (hS.draw.alloc (xs ++ l.map B ++ List.replicate (grownCap w (len + l.length) cap e - (len + l.length)) (.int .u8 0)) e).replace kk
    have e1 : (xs.toArray ++ (l.map B).toArray ++ Builtin.zeroCells (Value.int .u8 0).cells (grownCap w (len + l.length) cap e - (len + l.length))) = (xs ++ l.map B ++ List.replicate (grownCap w (len + l.length) cap e - (len + l.length)) (Value.int .u8 0)).toArray := by
     apply Array.ext'; simp [zlen]
    rw [e1]; exact this
theorem apps {len cap : Nat} {ob : Option Nat} {sp : List Value} {l : List UInt8} (hop : o.op = .call { callee := .builtin .append, args := #[x, y], argTypes := #[t, u] }) (hu : P.underlying t = some (.slice e)) (hv : P.underlying u = some .string) (hi : (P.info? e).map (fun i => (i.zero, i.size, i.bytes)) = some (some (.int .u8 0), 1, 1))
  (hk : Ctx own ⟨ob, xs ++ sp, e⟩ C) (hx : oper L x = some (.slice (ob.map fun b => ⟨b, 0, none⟩) len cap)) (hy : oper L y = some (.string (S l)))
  (hb : xs.length = len ∧ cap = len + sp.length ∧ len + l.length ≤ 140737488355328 ∧ (ob = none ∨ 0 < cap)) :
  Og ds P o n L (St ok w0 own fs) (fun g : Gr => .slice (g.ob.map fun b => ⟨b, 0, none⟩) (len + l.length) g.cap) (fun g w => (g.cap = len + l.length + g.sp.length ∧ (g.ob = none ∨ 0 < g.cap)) ∧ St ok w0 (C ⟨g.ob, (xs ++ l.map B) ++ g.sp, e⟩) fs w) :=
 og_run fun a hF w hS => by
  obtain ⟨kk, hkk, hC⟩ := hk.get
  obtain ⟨g, w', hrun, hp, hS'⟩ := run_apps (P := P) (ty := o.type) hS hkk hu hv hi hb.1 hb.2.1 hb.2.2.1 hb.2.2.2
  refine ⟨g, w', .inl ?_, hp, by rw [hC]; exact hS'⟩
  simp [execOp, hop, resolve, invoke, builtin, hF.eval hx, hF.eval hy, hrun]
end
section
variable {ds : List Deferred} {ρ : Option Nat} {P : Program} {Q : Exit → Act → World → Prop} {n : Nat} {L : Slots} {Z : World → Prop} {p : Prop} {ops rest : List Oper}
theorem WL.know (h : ∀ w, Z w → p) (k : p → WL ds P ops Q n rest L Z) : WL ds P ops Q n rest L Z := fun a w hF hS => k (h w hS) a w hF hS
end
def afterA (s x : Bs) : Bs := s ++ x
def stopA (Z : Nat) (s x : Bs) : Option Code := if Z ≤ s.length + x.length then some (.exit 0) else none
theorem itB_att (sd : Bs) (at_ a Z : Nat) (hZ : 1 ≤ Z) : ∀ (d b : Nat), b + d = (Z + 31) / 32 → 1 ≤ d → itB sd at_ a afterA (stopA Z) d b (blks sd at_ a b) = (blks sd at_ a ((Z + 31) / 32), some (.exit 0))
 | 0, b, h, h1 => by omega
 | d + 1, b, h, h1 => by
  have hl := blks_len sd at_ a b
  have hm : (blkB sd at_ a b).length = 32 := mac_len _ _
  rw [itB]
  by_cases hd : d = 0
  ·subst hd
   have hs : stopA Z (blks sd at_ a b) (blkB sd at_ a b) = some (.exit 0) := by rw [stopA, if_pos (by omega)]
   rw [hs]; simp only [Option.isSome_some, if_true]; rw [← h]; rfl
  ·have hs : stopA Z (blks sd at_ a b) (blkB sd at_ a b) = none := by rw [stopA, if_neg (by omega)]
   rw [hs, if_neg (by simp)]
   exact itB_att sd at_ a Z hZ d (b + 1) (by omega) (by omega)
abbrev ACO (x : Value) (sd : Bs) (at_ a Z : Nat) (g : Nat × Nat) (b8 b7 b3 : Nat) (s : Bs) (q : Option Nat × List Value) : List Ent :=
 [⟨q.1, s.map B ++ q.2, 5⟩, ⟨some g.2, [.int .i64 (a : Int)], 3⟩, ⟨some g.1, [x, .string (S sd), .int .i64 (at_ : Int)], 66⟩, ⟨some b8, [.slice (q.1.map fun b => ⟨b, 0, none⟩) s.length (s.length + q.2.length)], 136⟩, ⟨some b7, [.int .i64 (Z : Int)], 3⟩, ⟨some b3, [x, .string (S sd), .int .i64 (at_ : Int)], 66⟩]
theorem mask8 (c : UInt8) (d : Nat) (hd : d ≤ 7) : bits .and .u8 (c.toNat : Int) (Int.fdiv 255 (2 ^ (min ((d : Nat) : Int).toNat IntKind.u8.bits))) = ((UInt8.ofNat (c.toNat % 2 ^ (8 - d))).toNat : Int) := by
 have h1 := c.toNat_lt
 have e : Int.fdiv 255 (2 ^ (min ((d : Nat) : Int).toNat IntKind.u8.bits)) = ((2 ^ (8 - d) - 1 : Nat) : Int) := by
  have key : ∀ q, q ≤ 7 → Int.fdiv 255 (2 ^ (min ((q : Nat) : Int).toNat IntKind.u8.bits)) = ((2 ^ (8 - q) - 1 : Nat) : Int) := by decide
  exact key d hd
 have h2 : 2 ^ (8 - d) ≤ 2 ^ 8 := Nat.pow_le_pow_right (by decide) (by omega)
 have h3 : c.toNat % 2 ^ (8 - d) < 256 := Nat.lt_of_le_of_lt (Nat.mod_le _ _) h1
 rw [e, u8_and_nat _ _ (by omega) (by omega), Nat.and_two_pow_sub_one_eq_mod, UInt8.toNat_ofNat', Nat.mod_eq_of_lt (a := c.toNat % 2 ^ (8 - d)) (b := 2 ^ 8) (by omega)]
theorem attempt_c {vx : Value} {sd : Bs} {at_ aa nb : Nat} {w : World} (hsd : sd.length ≤ 400000) (hat : at_ ≤ 4294967296) (ha : aa ≤ 1000) (hnb : 1 ≤ nb) (hnb2 : nb ≤ 100000) (hT : Tab w) :
  Cw 152 #[.agg #[vx, .string (S sd), .int .i64 (at_ : Int)], .int .i64 (aa : Int), .int .i64 (nb : Int)] w (.string (S (attS sd at_ aa nb))) := by
 obtain ⟨Z, hZ⟩ : ∃ Z : Nat, Z = sizeB nb := ⟨_, rfl⟩
 have hZ1 : Z = (nb + 7) / 8 := hZ
 have hZ0 : 1 ≤ Z := by omega
 have hZl : Z ≤ 20000 := by omega
 have hit := itB_att sd at_ aa Z hZ0 ((Z + 31) / 32) 0 (by omega) (by omega)
 change itB sd at_ aa afterA (stopA Z) ((Z + 31) / 32) 0 [] = _ at hit
 refine enterM (S := St (fun _ => True) w [] ([])) (L := [(0, .agg #[vx, .string (S sd), .int .i64 (at_ : Int)]), (1, .int .i64 (aa : Int)), (2, .int .i64 (nb : Int))]) Tryz.func152 rfl Tryz.ntmps152 rfl (Ac rfl (Ac rfl (Ac rfl (An _)))) (St.start (fun _ _ => trivial) Fn) ?_
 refine Cs ?_
 refine Kh rfl (Oy rfl rfl) ?_
 intro b3
 refine Ka rfl (Nt (Cs (Km rfl (Kq rfl (Rz rfl rfl rfl (by omega)) (Kq rfl (rd_quo64nl rfl rfl rfl (by omega)) (Ns 12 rfl (v' := .int .i64 ((Z : Nat) : Int)) (congrArg (Value.int .i64) (by omega)) ?_))))))
 refine Kh rfl (Oa rfl (v := (.int .i64 0)) (cs := [.int .i64 0]) (by kernel_rfl) rfl) ?_
 intro b7
 refine Ng rfl rfl (st rfl rfl rfl .tc (by kernel_rfl) rfl ?_ (by (simp only [List.set_cons_zero, List.set_cons_succ]; rfl))) ?_
 ·decide
 intro _
 refine Nt (Cs ?_)
 refine Kh rfl (Oa rfl (v := (.slice none 0 0)) (cs := [.slice none 0 0]) (by kernel_rfl) rfl) ?_
 intro b8
 refine Nt (Cq (Cs ?_))
 refine Kq rfl (lda rfl rfl .tc u66 rfl ?_) ?_
 ·kernel_rfl
 refine Km rfl ?_
 refine Kh rfl (Oc rfl rfl (fun w hS => blocks_c (t := ⟨[], sd, (at_ : Int)⟩) hS)) ?_
 intro g15
 refine Nt (Cb ?_)
 refine WC.range (CO := ACO vx sd at_ aa Z g15 b8 b7 b3) (pg := fun s q => s.length ≤ 30000 ∧ (q.1 = none ∨ 0 < s.length + q.2.length)) (inv := fun s y => y.length = 32) (after := afterA) (stop := stopA Z) (enc := fun s : Bs => #[Value.string (S s)]) ([]) ((none, [])) ((itB sd at_ aa afterA (stopA Z) ((Z + 31) / 32) 0 []).1) ((itB sd at_ aa afterA (stopA Z) ((Z + 31) / 32) 0 []).2) (⟨Nat.zero_le _, .inl rfl⟩) rfl (by kernel_rfl) (fun _ => rfl) (by exact fun w h => h.nil _) ?_ (fun l r D w hl hY hS => blk_i (K := (Z + 31) / 32) (sd := sd) (at_ := at_) (a := aa) (x := vx) hY hS ⟨Nat.zero_le _, .inl rfl⟩ hsd hat ha (by omega) (fun s y h => h) (by rw [hit]; rfl) hT) ?_ ?_
 ·intro l r D f a s g x ext wr hl hi hpg hF hS
  rw [fold1]
  refine round_of (Fr.tm (hF.put (d := 16) rfl _)) hS ?_
  refine WR.region (by kernel_rfl) ?_
  refine Ka rfl (Nn ?_)
  refine WX.begin hl ?_
  refine Cb ?_
  refine WR.sr (by kernel_rfl) ?_
  refine Kq rfl (Ld rfl rfl .tc u136) ?_
  refine Km rfl ?_
  refine Kh rfl (apps rfl u136 u9 (by kernel_rfl) .tc rfl rfl ?_) ?_
  ·exact ⟨by simp, rfl, by have hi' : x.length = 32 := hi; omega, hpg.2⟩
  rintro ⟨o19, c19, s19⟩
  refine WL.pu ?_
  intro hg19; (try dsimp only at hg19 ⊢)
  refine Ng rfl rfl (st rfl rfl rfl .tc (by kernel_rfl) rfl ?_ (by (simp only [List.set_cons_zero, List.set_cons_succ]; rfl))) ?_
  ·(simp; done)
  intro _
  refine Nt ?_
  refine WR.sr (by kernel_rfl) ?_
  refine Kq rfl (Ld rfl rfl .tc u136) ?_
  refine Kq rfl (rd_len rfl rfl u136) (Kq rfl (Ld rfl rfl .tc u3) ?_)
  refine Kq rfl (rd_geq rfl rfl rfl) (Nt ?_)
  refine Cd rfl (fun hc23 => ?_) (fun hc23 => ?_)
  ·(try simp only [sB] at hc23)
   refine Cx ?_
   refine WX.block_other rfl ?_
   exact WX.rexit hl fun w' hS => by
    have hi' : x.length = 32 := hi
    have h2 : stopA Z s x = some (.exit 0) := by rw [stopA, if_pos (by omega)]
    rw [h2]
    refine ⟨rfl, (o19, s19), fun h => (by cases h), ?_⟩
    simp only [ACO, afterA, List.map_append, List.length_append]
    rw [hg19.1] at hS
    exact hS
  ·(try simp only [sB] at hc23)
   refine Ck (Xd ?_)
   exact WX.rnext hl fun w' hS => by
    have hi' : x.length = 32 := hi
    have h2 : stopA Z s x = none := by rw [stopA, if_neg (by omega)]
    rw [h2]
    refine ⟨rfl, (o19, s19), fun _ => ⟨by simp only [afterA, List.length_append]; omega, by simp only [afterA, List.length_append]; rw [← hg19.1]; exact hg19.2⟩, ?_⟩
    simp only [ACO, afterA, List.map_append, List.length_append]
    rw [hg19.1] at hS
    exact hS
 ·intro D1 g1 hD1 hg1 hcf
  exfalso; rw [hit] at hcf; cases hcf -- done
 ·intro D1 g1 c hD1 hcf
  obtain rfl : c = .exit 0 := by (rw [hit] at hcf; cases hcf; rfl)
  refine Cx (Xe ?_)
  rw [hit]; dsimp only [ACO]
  have hbl := blks_len sd at_ aa ((Z + 31) / 32)
  have hby : bytesB sd at_ aa nb = (blks sd at_ aa ((Z + 31) / 32)).take Z := by rw [bytesB, ← hZ]
  generalize blks sd at_ aa ((Z + 31) / 32) = X at *
  obtain ⟨c, X', rfl⟩ : ∃ c X', X = c :: X' := by cases X with
   | nil => simp at hbl; omega
   | cons c X' => exact ⟨c, X', rfl⟩
  obtain ⟨q1, q2⟩ := g1
  dsimp only
  have hcl : X'.length + 1 = 32 * ((Z + 31) / 32) := hbl
  refine Xa (Cs ?_)
  refine WL.know (p := ∃ bb, q1 = some bb) (fun w h => by obtain ⟨b, hb, _⟩ := h.ocx (ob := q1) (cs := List.map B (c :: X') ++ q2) .tc (by simp); exact ⟨b, hb⟩) ?_
  rintro ⟨bb, rfl⟩
  dsimp only [Option.map_some]
  refine Kq rfl (Ld rfl rfl .tc u136) ?_
  refine Kq rfl (Ld rfl rfl .tc u3) ?_
  refine Kq rfl (rd_slt rfl rfl rfl u136 (by kernel_rfl : _ = some 1) ?_ (by (try simp only [sN, Int.reduceToNat, Nat.reduceAdd, Nat.reduceMul, Nat.reduceSub]); rfl)) ?_
  ·omega
  refine Ng rfl rfl (st rfl rfl rfl .tc (by kernel_rfl) rfl ?_ (by (simp only [List.set_cons_zero, List.set_cons_succ]; rfl))) ?_
  ·(simp; done)
  intro _
  refine Nt (Cq (Cs (Kq rfl (Ld rfl rfl .tc u3) ?_)))
  refine Kq rfl (rd_gtr rfl rfl rfl) (Nt ?_)
  refine Cd rfl (fun hc28 => ?_) (fun hc28 => by exfalso; (try simp only [sB] at hc28); omega)
  (try simp only [sB] at hc28)
  refine Cf [0, 1, 2, 3, 4, 5, 6, 7, 8, 9] [10] [0, 0, 0, 0, 0, 0, 0, 0, 0, 0, 2] (by kernel_rfl) (by kernel_rfl) rfl ?_
  refine Kj rfl (Ld rfl rfl .tc u136) ?_
  refine Kj rfl (Ja rfl rfl rfl u136 (by kernel_rfl : _ = some 1) (by omega)) ?_
  refine Kj rfl (Ld rfl rfl .tc u5) ?_
  refine Kj rfl (Ld rfl rfl .tc u3) ?_
  refine Kj rfl (rd_mul64ln rfl rfl rfl (by omega)) (Kj rfl (Rm rfl rfl) (Kj rfl (rd_sub64n rfl rfl rfl (by omega)) ?_))
  refine Kj rfl (rd_shr rfl rfl rfl ?_) ?_
  ·omega
  refine Kj rfl (rd_and rfl rfl rfl) ?_
  refine WJ.set 37 rfl (v' := B (UInt8.ofNat (c.toNat % 2 ^ (8 - (8 * Z - nb))))) (by exact congrArg (Value.int .u8) (mask8 c (8 * Z - nb) (by omega))) ?_
  refine Kj rfl (Ja rfl rfl rfl u136 (by kernel_rfl : _ = some 1) (by omega)) ?_
  refine WJ.nil ?_
  refine Ng rfl rfl (st rfl rfl rfl .tc (by kernel_rfl) rfl ?_ (by rfl)) ?_
  ·(simp; done)
  intro _
  refine Nn ?_
  obtain ⟨y, hy⟩ : ∃ y : Bs, y = (UInt8.ofNat (c.toNat % 2 ^ (8 - (8 * Z - nb))) :: X').take Z := ⟨_, rfl⟩
  have hyl : y.length = Z := by rw [hy, List.length_take, List.length_cons]; omega
  have hya : canon (val y) = attS sd at_ aa nb := by
   have := att_end (sd := sd) (at_ := at_) (a := aa) (nb := nb) (X := c :: X') (x := c.toNat % 2 ^ (8 - (8 * Z - nb))) hZ hZ0 hby (by simp only [List.length_cons]; omega) rfl (by omega) (by omega)
   rw [← this, hy]; obtain ⟨q, rfl⟩ : ∃ q, Z = q + 1 := ⟨Z - 1, by omega⟩; rfl
  refine Xa (Cq (Cb ?_))
  refine Lo (σ := Bs × (Option Addr) × Nat) [(8, _)] (fun gq => []) (fun gq => trimB gq.1 = trimB y ∧ gq.1.length ≤ gq.2.2 ∧ gq.1.length ≤ Z) (fun gq => gq.1.length) (fun gq => [⟨some b8, [.slice gq.2.1 gq.1.length gq.2.2], 136⟩]) (fun gq => [Fact.sl gq.2.1 (gq.1.map B), Fact.dfr D1]) (y, some ⟨bb, 0, none⟩, (c :: X').length + q2.length) (S1 rfl) (S0 _) (by (try dsimp only); exact ⟨rfl, by rw [hyl]; simp only [List.length_cons]; omega, by omega⟩) (by exact fun w h => by dsimp only; rw [hyl]; exact st_sub _ (h.freeze (off := 0) (xs := y.map B) (fun i hi => by
    have hi' : i < Z := by rw [List.length_map, hyl] at hi; exact hi
    show ((B (UInt8.ofNat (c.toNat % 2 ^ (8 - (8 * Z - nb)))) :: (X'.map B ++ q2)) : List Value)[0 + i]? = _
    rw [hy, List.map_take, List.getElem?_take, if_pos hi', Nat.zero_add]
    show (((UInt8.ofNat (c.toNat % 2 ^ (8 - (8 * Z - nb))) :: X').map B ++ q2) : List Value)[i]? = _
    rw [List.getElem?_append_left (by simp; omega)]))) ?_
  rintro ⟨t, a', cp⟩ hinv1; (try dsimp only at hinv1 ⊢)
  obtain ⟨ht, htc, htb⟩ := hinv1
  refine Cq (Cs (Kq rfl (Ld rfl rfl .tc u136) ?_))
  refine Kq rfl (rd_len rfl rfl u136) (Kq rfl (rd_gtr rfl rfl rfl) (Km rfl ?_))
  refine Nb 42 rfl (fun hg42 => ?_) (fun hg42 => ?_)
  ·(try simp only [sB] at hg42)
   refine Kq rfl (Ld rfl rfl .tc u136) ?_
   refine Kq rfl (Ib rfl rfl rfl u136 (by omega) (by (rw [List.length_map]; omega))) ?_
   refine Kq rfl (ldm rfl rfl u5 rfl (by omega)) ?_
   refine Kq rfl (rd_eql rfl rfl rfl) (Kq rfl (Rp rfl rfl rfl) (Nt ?_))
   refine Cd rfl (fun hc47 => ?_) (fun hc47 => ?_)
   ·(try simp only [sB] at hc47)
    have hz : (t.getD 0 default).toNat = 0 := by (simp at hc47; exact hc47)
    refine Ck (Xa (Cb (Cg (Kq rfl (Ld rfl rfl .tc u136) ?_))))
    refine Kq rfl (rd_slf rfl rfl rfl u136 (by kernel_rfl : _ = some 1) (by omega) (by (try simp only [sN, Int.reduceToNat, Nat.reduceAdd, Nat.reduceMul, Nat.reduceSub]); rfl) (by (try simp only [sN, Int.reduceToNat, Nat.reduceAdd, Nat.reduceMul, Nat.reduceSub]); rfl) (by (try simp only [sN, Int.reduceToNat, Nat.reduceAdd, Nat.reduceMul, Nat.reduceSub]); rfl)) ?_
    refine Ns 49 rfl (v' := .slice (cut a' 1 cp 1) (t.drop 1).length (cp - 1)) (by rw [List.length_drop]) ?_
    refine Ng rfl rfl (st rfl rfl rfl .tc (by kernel_rfl) rfl ?_ (by (simp only [List.set_cons_zero, List.set_cons_succ]; rfl))) ?_
    ·(simp; done)
    intro _
    refine Nn (Xd ?_)
    refine Lx ((t.drop 1, cut a' 1 cp 1, cp - 1)) (by simp only [List.length_drop]; omega) (S1 rfl) (S0 _) ?_ (by exact fun w h => (h.add (f := Fact.sl (cut a' 1 cp 1) ((t.drop 1).map B)) (sl_cutM 1 htc (h.fact (Fact.sl a' (t.map B)) (by simp)))).sub (List.Sublist.refl _) (fun f hf => by simp only [List.mem_cons, List.not_mem_nil, or_false] at hf ⊢; rcases hf with h | h <;> simp [h]))
    (try dsimp only)
    exact ⟨by rw [← trimB_zero (by omega) hz]; exact ht, by simp only [List.length_drop]; omega, by simp only [List.length_drop]; omega⟩
   ·(try simp only [sB] at hc47)
    refine Cx (Xc (Xc (Xe (Xa (Cs (Kq rfl (Ld rfl rfl .tc u136) ?_))))))
    refine Kq rfl (b2sf rfl rfl .tc u136 u5 u22 ?_) ?_
    ·rfl
    refine Ka rfl (Nt (Ce ?_))
    exact WX.retM1 hD1 rfl (.tmp rfl .nil) fun w' hS => ⟨by rw [← hya, show canon (val y) = t from by rw [← trim_canon, ← ht, trimB_stop (by (exact .inr (fun h0 => hc47 (by show ((t.getD 0 default).toNat : Int) = 0; omega))))]]; rfl, hS.below⟩
  ·(try simp only [sB] at hg42)
   refine Kt rfl (Kt rfl (Kt rfl (Kt rfl (Kq rfl (Rq rfl rfl rfl) (Nt ?_)))))
   refine Cd rfl (fun h => by cases h) (fun _ => ?_)
   refine Cx (Xc (Xc (Xe (Xa (Cs (Kq rfl (Ld rfl rfl .tc u136) ?_))))))
   refine Kq rfl (b2sf rfl rfl .tc u136 u5 u22 ?_) ?_
   ·rfl
   refine Ka rfl (Nt (Ce ?_))
   exact WX.retM1 hD1 rfl (.tmp rfl .nil) fun w' hS => ⟨by rw [← hya, show canon (val y) = t from by rw [← trim_canon, ← ht, trimB_stop (by (exact .inl (by omega)))]]; rfl, hS.below⟩
end Go.Proofs.YthkmpjobfdeoaaaGreatDoor
