/-
  Parts of the walk: Nrt Nst Nrh Coi2 Itoa Coi3 Apps Coi4.
-/
import Derived.Test.YthkmpjobfdeoaaaGreatDoorK19
import Derived.Lib.ItoaNum
import Derived.Lib.AppendStr
namespace Go.Proofs.YthkmpjobfdeoaaaGreatDoor
open Go.RowKit
set_option linter.unusedSimpArgs false
set_option linter.unusedVariables false
set_option maxHeartbeats 600000
set_option maxRecDepth 20000
def nrE (p : PR) (k : IK) (acc x : Bs) : Int :=
 if chkN p k ≠ 0 then chkN p k else if ¬ (okN acc ∧ okN x) then 3 else if ¬ (elG k.g acc ∧ elG k.g x) then 13 else (sizR p).2
def nrT (p : PR) (k : IK) (acc x : Bs) : Sm := nrQ k.g k.h acc x p.han (sizR p).1.2
def nrS (p : PR) (k : IK) (acc x : Bs) : Sm × Int := if nrE p k acc x ≠ 0 then (([], [], []), nrE p k acc x) else (nrT p k acc x, 0)
def imgS (s : Sm) (w : List Zs) : List Bs × Int := if rdyS s w ≠ 0 then ([], rdyS s w) else imS s w
theorem nrE_ok {p : PR} {k : IK} {acc x : Bs} (h : nrE p k acc x = 0) : chkN p k = 0 ∧ elG k.g acc ∧ elG k.g x ∧ (sizR p).2 = 0 := by
 unfold nrE at h
 split at h
 ·rename_i h1; exact absurd h h1
 ·rename_i h1; split at h
  ·simp at h
  ·split at h
   ·simp at h
   ·rename_i h3; have h3 := Decidable.not_not.1 h3; exact ⟨Decidable.not_not.1 h1, h3.1, h3.2, h⟩
theorem nrE_of {p : PR} {k : IK} {acc x : Bs} (h1 : chkN p k = 0) (h2 : elG k.g acc) (h3 : elG k.g x) : nrE p k acc x = (sizR p).2 := by
 rw [nrE, if_neg (fun h => h h1), if_neg (fun h => h ⟨h2.1, h3.1⟩), if_neg (fun h => h ⟨h2, h3⟩)]
theorem nrS_ok {p : PR} {k : IK} {acc x : Bs} (h : (nrS p k acc x).2 = 0) : nrE p k acc x = 0 ∧ nrS p k acc x = (nrT p k acc x, 0) := by
 unfold nrS at h ⊢; split at h
 ·rename_i h1; exact absurd h h1
 ·rename_i h1; rw [if_neg h1]; exact ⟨Decidable.not_not.1 h1, rfl⟩
theorem nrS_of {p : PR} {k : IK} {acc x : Bs} (h : nrE p k acc x = 0) : nrS p k acc x = (nrT p k acc x, 0) := by rw [nrS, if_neg (fun h2 => h2 h)]
theorem siz_ok {p : PR} (h : (sizR p).2 = 0) : chkR p = 0 ∧ sizR p = ((canon (szV p), canon (szH p)), 0) ∧ szH p < Big ∧ szV p < Big := by
 unfold sizR at h ⊢; split at h
 ·rename_i h1; exact absurd h h1
 ·rename_i h1; rw [if_neg h1]; split at h
  ·rename_i h2; rw [if_pos h2]; exact ⟨Decidable.not_not.1 h1, rfl, h2.2, h2.1⟩
  ·simp at h
theorem nr_rdy {p : PR} {k : IK} {acc x : Bs} {w : List Zs} (h : nrE p k acc x = 0) :
  rdyS (nrT p k acc x) w = if ¬ (∀ y ∈ w, okZ y) then 3 else if w.length ≠ 2 then 6 else 0 := by
 obtain ⟨hN, ha, hx, hz⟩ := nrE_ok h
 obtain ⟨hR, _, _, hq, hg, _, _, hel⟩ := chkN_ok hN
 obtain ⟨_, hsz, hB, _⟩ := siz_ok hz
 obtain ⟨hok, _, hrg⟩ := chkR_ok hR
 have hh : elG k.g k.h := hel _ (by simp)
 have hhan : okN p.han := hok.1 _ (by simp)
 have hhan2 : 2 ≤ val p.han := hrg.1 _ (by simp)
 have hmk2 : 2 ≤ val p.msk := hrg.1 _ (by simp)
 obtain ⟨hg1, hg2, _⟩ := chkG_ok hg
 rw [nrT, hsz]; simp only
 have hzc : okN (canon (szH p)) := okN_can hB
 have hz0 : canon (szH p) ≠ [] := fun h => by
  rw [canon_nil] at h; have := Nat.mul_le_mul hhan2 hmk2; rw [szH] at h; omega
 have hh0 : p.han ≠ [] := fun h => by rw [h] at hhan2; exact absurd hhan2 (by decide)
 have hm1 : okZ (ofZ (-1)) := by decide +kernel
 have hf : formS (nrQ k.g k.h acc x p.han (canon (szH p))) := by
  refine ⟨?_, ?_, ?_⟩
  ·intro g hg; simp [nrQ] at hg; subst hg; exact ⟨hg1, hg2⟩
  ·intro y hy; simp [nrQ] at hy; rcases hy with rfl | rfl; exact hhan; exact hzc
  ·intro q hq; simp [nrQ] at hq; subst hq
   refine ⟨⟨⟨Int.le_refl 0, by simp [nrQ]⟩, ha.1⟩, ?_⟩
   intro t ht; simp at ht; rcases ht with rfl | rfl
   ·exact okT_trm hx.1 (by decide) (by simp [nrQ])
   ·exact ⟨⟨by show (0 : Int) ≤ 1; decide, by simp [nrQ]⟩, hh.1, hm1⟩
 have hs : sizeS (nrQ k.g k.h acc x p.han (canon (szH p))) := by simp [sizeS, nrQ]
 have he : elS (nrQ k.g k.h acc x p.han (canon (szH p))) := by
  refine ⟨?_, ?_⟩
  ·intro g hg1; simp [nrQ] at hg1; subst hg1; exact hg
  ·intro q hq; simp [nrQ] at hq; subst hq
   refine ⟨ha, ?_⟩
   intro t ht; simp at ht; rcases ht with rfl | rfl; exact hx; exact hh
 have hd : kdS (nrQ k.g k.h acc x p.han (canon (szH p))) := by
  refine Or.inl ?_
  intro y hy; simp [nrQ] at hy; rcases hy with rfl | rfl; exact hh0; exact hz0
 have hck : chkS (nrQ k.g k.h acc x p.han (canon (szH p))) = 0 := by simp [chkS, hf, hs, he, hd]
 by_cases hw : ∀ y ∈ w, okZ y
 ·rw [rdyS, if_neg (fun h => h hf), if_neg (fun h => h hw), if_neg (fun h => h hck), if_neg (show ¬ ¬ (∀ y ∈ w, okZ y) from fun h => h hw)]; rfl
 ·rw [rdyS, if_neg (fun h => h hf), if_pos hw, if_pos hw]
theorem nr_img {p : PR} {k : IK} {acc x : Bs} {a b : Zs} (h : nrE p k acc x = 0) (ha : okZ a) (hb : okZ b) :
  imgS (nrT p k acc x) [a, b] = ([canon (powI (val k.g.1) (val x) (zv a) * powI (val k.g.1) (val k.h) (-(zv b)) % val k.g.1)], 0) := by
 obtain ⟨hN, hac, hx, hz⟩ := nrE_ok h
 obtain ⟨_, _, _, _, hg, _, _, hel⟩ := chkN_ok hN
 have hr : rdyS (nrT p k acc x) [a, b] = 0 := by
  rw [nr_rdy h, if_neg (fun h => h (by intro y hy; simp at hy; rcases hy with rfl | rfl <;> assumption)), if_neg (by simp)]
 rw [imgS, if_neg (fun h => h hr)]
 exact nr_im hg hx (hel _ (by simp)) ha hb
theorem nr_imgok {p : PR} {k : IK} {acc x : Bs} {w : List Zs} (h : nrE p k acc x = 0) (hi : (imgS (nrT p k acc x) w).2 = 0) : (∀ y ∈ w, okZ y) ∧ w.length = 2 := by
 have hr : rdyS (nrT p k acc x) w = 0 := Decidable.byContradiction fun hr => by rw [imgS, if_pos hr] at hi; exact hr hi
 rw [nr_rdy h] at hr
 split at hr
 ·simp at hr
 ·rename_i h1; split at hr
  ·simp at hr
  ·rename_i h2; exact ⟨Decidable.not_not.1 h1, Decidable.not_not.1 h2⟩
theorem nat_ofZ {n : Int} {e : Nat} (h : (ofZ n).2.length ≤ e) : n.natAbs < 256 ^ e := by
 have h1 := val_lt (ofZ n).2
 rw [← zv_abs, zv_ofZ] at h1
 exact Nat.lt_of_lt_of_le h1 (Nat.pow_le_pow_right (by decide) h)
theorem big_17 : 256 ^ 17 * 2 < Big := by decide +kernel
theorem nr_moves {p : PR} {k : IK} {acc x : Bs} {w0 w1 : Zs} {n : Nat} (hn : n < 256) (h : (nrS p k acc x).2 = 0) (hf : (imgS (nrS p k acc x).1 [w0, w1]).2 = 0) (h0 : w0.2.length ≤ 16) (h1 : w1.2.length ≤ 16) :
  (prodS k.g [x, k.h] [ofZ 1, ofZ n]).2 = 0 ∧ (nrS p k acc (prodS k.g [x, k.h] [ofZ 1, ofZ n]).1).2 = 0 ∧ (mulZ w0 (ofZ n)).2 = 0 ∧ (addZ w1 (mulZ w0 (ofZ n)).1).2 = 0 ∧
  (imgS (nrS p k acc x).1 [w0, w1]).1.length = 1 ∧
  imgS (nrS p k acc (prodS k.g [x, k.h] [ofZ 1, ofZ n]).1).1 [w0, (addZ w1 (mulZ w0 (ofZ n)).1).1] = imgS (nrS p k acc x).1 [w0, w1] := by
 obtain ⟨hE, e⟩ := nrS_ok h
 rw [e] at hf ⊢; simp only at hf ⊢
 obtain ⟨hok, _⟩ := nr_imgok hE hf
 have z0 : okZ w0 := hok _ (by simp)
 have z1 : okZ w1 := hok _ (by simp)
 obtain ⟨a, ha, rfl⟩ := okZ_iff.1 z0
 obtain ⟨b, hb, rfl⟩ := okZ_iff.1 z1
 obtain ⟨hN, hac, hx, hz⟩ := nrE_ok hE
 obtain ⟨_, _, _, _, hg, _, _, hel⟩ := chkN_ok hN
 have hh : elG k.g k.h := hel _ (by simp)
 have hB := big_17
 have hzn : okZ (ofZ n) := okZ_ofZ.2 (by rw [Int.natAbs_natCast]; omega)
 have hP := prodS_two hg hx hh okZ_one hzn
 rw [zv_ofZ, zv_ofZ] at hP
 have hX := elG_prod (g := k.g) (l := [x, k.h]) (es := [ofZ 1, ofZ n]) (by rw [hP])
 have hE2 : nrE p k acc (prodS k.g [x, k.h] [ofZ 1, ofZ n]).1 = 0 := by rw [nrE_of hN hac hX]; exact hz
 have hab := nat_ofZ h0; have hbb := nat_ofZ h1
 have hm : (a * n).natAbs < 256 ^ 17 := by
  rw [Int.natAbs_mul, Int.natAbs_natCast, show (256 : Nat) ^ 17 = 256 ^ 16 * 256 from rfl]
  exact Nat.mul_lt_mul'' hab hn
 have hmB : (a * n).natAbs < Big := by omega
 have hsB : (b + a * n).natAbs < Big := by omega
 rw [mulZ_of ha (by rw [Int.natAbs_natCast]; omega) hmB]; simp only
 rw [addZ_of hb hmB, if_pos hsB]; simp only
 refine ⟨by rw [hP], by rw [nrS_of hE2], trivial, trivial, by rw [nr_img hE z0 z1]; rfl, ?_⟩
 rw [nrS_of hE2]; simp only
 rw [nr_img hE2 z0 (okZ_ofZ.2 hsB), nr_img hE z0 z1, hP]; simp only [val_canon, zv_ofZ]
 rw [nr_move (elG_lt (x := x) hg) (elG_gcd hg hx) (elG_gcd hg hh)]
def accS (k : IK) (acc u w : Bs) : Int :=
 if ¬ ((okN acc ∧ okN w) ∧ okN u ∧ okN k.g.1 ∧ okN k.g.2) then 3 else if chkG k.g ≠ 0 then chkG k.g else if ¬ (elG k.g acc ∧ elG k.g w) then 13
 else if u = [] then 11 else if (prodS k.g [w] [fromZ u]).2 ≠ 0 then (prodS k.g [w] [fromZ u]).2 else if (prodS k.g [w] [fromZ u]).1 ≠ acc then 20 else 0
theorem accS_of {k : IK} {acc u w : Bs} (h1 : okN u) (h2 : chkG k.g = 0) (h3 : elG k.g acc) (h4 : elG k.g w) (h5 : u ≠ []) (h6 : canon (powI (val k.g.1) (val w) (val u)) = acc) : accS k acc u w = 0 := by
 obtain ⟨g1, g2, _⟩ := chkG_ok h2
 have hz : okZ (false, u) := ⟨h1, fun h => by cases h.1⟩
 have hp := prodS_one h2 h4 hz
 rw [accS, if_neg (fun h => h ⟨⟨h3.1, h4.1⟩, h1, g1, g2⟩), if_neg (fun h => h h2), if_neg (fun h => h ⟨h3, h4⟩), if_neg h5, fromZ_ok h1, hp, if_neg (fun h => h rfl), if_neg (fun h => h h6)]
theorem divZ_ok {a b : Zs} (ha : okZ a) (hb : okZ b) (h : (divZ b a).2 = 0) : ∃ r : Int, r.natAbs < Big ∧ (divZ b a).1 = ofZ r ∧ zv b = r * zv a := by
 rw [divZ, if_pos ⟨hb, ha⟩] at h ⊢
 split at h
 ·simp at h
 ·rename_i h0; rw [if_neg h0]; split at h
  ·rename_i h1; rw [if_pos h1]
   have hB : val b.2 / val a.2 < Big := Nat.lt_of_le_of_lt (Nat.div_le_self _ _) (okN_val hb.1)
   have hd : (val b.2 : Int) = ((val b.2 / val a.2 : Nat) : Int) * (val a.2 : Int) := by
    rw [← Int.natCast_mul, Nat.div_mul_cancel (Nat.dvd_of_mod_eq_zero h1)]
   refine ⟨if (b.1 != a.1) = true then -((val b.2 / val a.2 : Nat) : Int) else ((val b.2 / val a.2 : Nat) : Int), ?_, mkZ_of _ _, ?_⟩
   ·split <;> (first | rw [Int.natAbs_neg, Int.natAbs_natCast] | rw [Int.natAbs_natCast]) <;> exact hB
   ·generalize hq : ((val b.2 / val a.2 : Nat) : Int) = q at *
    obtain ⟨sb, vb⟩ := b; obtain ⟨sa, va⟩ := a
    simp only at hd
    cases sb <;> cases sa
    ·show (val vb : Int) = q * (val va : Int); exact hd
    ·show (val vb : Int) = -q * -(val va : Int); rw [hd, Int.neg_mul_neg]
    ·show -(val vb : Int) = -q * (val va : Int); rw [hd, Int.neg_mul]
    ·show -(val vb : Int) = q * -(val va : Int); rw [hd, Int.mul_neg]
  ·simp at h
theorem unm_of {k : IK} {x : Bs} {w0 w1 : Zs} (h1 : okN k.g.1 ∧ okN k.g.2) (h2 : chkG k.g = 0) (h3 : elG k.g k.h) (h4 : elG k.g x) (h5 : okZ w0) (h6 : okZ w1) :
  unmS k x [w0, w1] = if w0.1 = true ∨ w0.2 = [] then (([], []), 2) else if (divZ w1 w0).2 ≠ 0 then (([], []), 17) else (((prodS k.g [x, k.h] [ofZ 1, negZ (divZ w1 w0).1]).1, w0.2), 0) := by
 rw [unmS, if_neg (fun h => h ⟨h1.1, h1.2, h3.1, h4.1⟩), if_neg (fun h => h (by intro y hy; simp at hy; rcases hy with rfl | rfl <;> assumption)), if_neg (fun h => h h2), if_neg (fun h => h ⟨h3, h4⟩), if_neg (by simp)]; rfl
theorem nr_sound {p : PR} {k : IK} {acc x : Bs} {w : List Zs} (h : (nrS p k acc x).2 = 0) (hi : (imgS (nrS p k acc x).1 w).2 = 0) (hl : (imgS (nrS p k acc x).1 w).1 = [acc]) :
  ((unmS k x w).2 = 0 ∧ (unmS k x w).1.2 = (w.getD 0 default).2 ∧ accS k acc (unmS k x w).1.2 (unmS k x w).1.1 = 0) ∨ (unmS k x w).2 = 2 ∨ (unmS k x w).2 = 17 := by
 obtain ⟨hE, e⟩ := nrS_ok h
 rw [e] at hi hl; simp only at hi hl
 obtain ⟨hok, hlen⟩ := nr_imgok hE hi
 obtain ⟨w0, w1, rfl⟩ : ∃ w0 w1, w = [w0, w1] := by
  match w, hlen with
  | [a, b], _ => exact ⟨a, b, rfl⟩
 have z0 : okZ w0 := hok _ (by simp)
 have z1 : okZ w1 := hok _ (by simp)
 obtain ⟨hN, hac, hx, hz⟩ := nrE_ok hE
 obtain ⟨_, hgo, _, _, hg, _, _, hel⟩ := chkN_ok hN
 have hh : elG k.g k.h := hel _ (by simp)
 rw [nr_img hE z0 z1] at hl
 rw [unm_of hgo hg hh hx z0 z1]
 split
 ·exact Or.inr (Or.inl rfl)
 ·rename_i hc; split
  ·exact Or.inr (Or.inr rfl)
  ·rename_i hd
   obtain ⟨r, hr, hdv, hzz⟩ := divZ_ok z0 z1 (Decidable.not_not.1 hd)
   have hs : w0.1 = false := by cases hb : w0.1; rfl; exact absurd (Or.inl hb) hc
   have h0 : w0.2 ≠ [] := fun h => hc (Or.inr h)
   have hzv : zv w0 = (val w0.2 : Int) := by obtain ⟨s, v⟩ := w0; simp only at hs; subst hs; rfl
   refine Or.inl ⟨rfl, rfl, ?_⟩
   simp only
   rw [hdv, negZ_of hr]
   have hrz : okZ (ofZ (-r)) := okZ_ofZ.2 (by rw [Int.natAbs_neg]; exact hr)
   have hP := prodS_two hg hx hh okZ_one hrz
   rw [zv_ofZ, zv_ofZ] at hP
   have hX := elG_prod (g := k.g) (l := [x, k.h]) (es := [ofZ 1, ofZ (-r)]) (by rw [hP])
   refine accS_of z0.1 hg hac hX h0 ?_
   rw [hP]; simp only [val_canon]
   rw [← hzv, nr_unmask (elG_lt (x := x) hg) (elG_gcd hg hx) (elG_gcd hg hh), ← hzz]
   exact (List.cons.inj hl).1
theorem nterm_c {b : Bs} {v c : Int} {w : World} (hc1 : -9223372036854775808 ≤ c) (hc2 : c ≤ 9223372036854775807) :
  Cw 40 #[.string (S b), .int .i64 v, .int .i64 c] w (.agg #[.string (S b), .int .i64 v, .bool (ofZ c).1, .string (S (ofZ c).2)]) := by
 refine En [] [(0, .string (S b)), (1, .int .i64 v), (2, .int .i64 c)] Tryz.func40 rfl Tryz.ntmps40 rfl (Ac rfl (Ac rfl (Ac rfl (An _)))) Fn ?_
 refine Cs ?_
 refine Kh rfl (Oz [.string (S []), .int .i64 0, .bool false, .string (S [])] rfl) ?_
 intro b6
 refine Nt (Cs (Km rfl (Km rfl (Km rfl ?_))))
 refine Ku rfl (Oc rfl rfl (Kv fun w hS => zof_c (n := c) (by assumption) (by assumption))) ?_
 refine Kq rfl (Kb [[.string (S [])], [.int .i64 0], [.bool false, .string (S [])]] rfl rfl) ?_
 refine Nu rfl rfl (Sa rfl rfl rfl .tc) ?_
 refine Nt (Ce ?_)
 exact Rn rfl (.agg rfl .tc u95 rfl (by kernel_rfl) .nil) fun w' hS => ⟨by rfl, hS.below⟩
theorem vrs_succ {l : List Bs} {i : Nat} (h : i < l.length) : vrs (l.take (i + 1)) = vrs (l.take i) ++ [.string (S (l.getD i default))] := by
 rw [take_succ_getD h]; show List.flatMap vrC _ = _; rw [List.flatMap_append]; rfl
abbrev nrO (k : IK) (acc x : Bs) (rv : Value) (b59 b68 b70 b15 b8 : Nat) (va : Value) : List Ent :=
 [⟨some b15, [.slice (some ⟨b59, 0, none⟩) 1 1, va, .slice (some ⟨b70, 0, none⟩) 1 1], 42⟩, ⟨some b70, [.int .i64 0, .string (S acc), .slice (some ⟨b68, 0, none⟩) 2 2], 99⟩,
  ⟨some b68, [.string (S x), .int .i64 0, .bool (ofZ 1).1, .string (S (ofZ 1).2)] ++ [.string (S k.h), .int .i64 1, .bool (ofZ (-1)).1, .string (S (ofZ (-1)).2)], 95⟩, ⟨some b59, ((ikC k rv).drop 1).take 2, 26⟩, ⟨some b8, [.slice none 0 0, .slice none 0 0, .slice none 0 0], 42⟩]
theorem nstate_c {p : PR} {k : IK} {acc x : Bs} {a : Option Addr} {c : Nat} {w : World} {ok : Nat → Prop} (hF1 : (Fact.sl a (strs k.r)).holds ok w) (hm8 : p.mn.1.1.length ≤ 8) (hk8 : k.g.1.length ≤ 8) (hkl : k.r.length ≤ 100000) (hnl : k.name.length ≤ 140737488351232) (hD : TabD w) :
  Calls Tryz.prog 11 #[prV p, ikV k (.slice a k.r.length c), .string (S acc), .string (S x)] w fun e w' => ∃ gx : SA, e = .returned (SME gx (nrS p k acc x).2) ∧ (gx.core = (nrS p k acc x).1) ∧ Below w.heap.size w w' ∧ ∀ x ∈ (saF gx : List Fact), x.holds (fun b => ok b ∨ w.heap.size ≤ b) w' := by
 refine enter (S := St (fun b => ok b ∨ w.heap.size ≤ b) w [] ([Fact.sl a (strs k.r)])) (L := [(0, prV p), (1, ikV k (.slice a k.r.length c)), (2, .string (S acc)), (3, .string (S x))]) Tryz.func11 rfl Tryz.ntmps11 rfl (Ac rfl (Ac rfl (Ac rfl (Ac rfl (An _))))) (St.start (fun _ h => Or.inr h) (facts_or (Fc hF1 Fn))) ?_
 refine Cs ?_
 refine Kh rfl (Oy rfl rfl) ?_
 intro b4
 refine Kh rfl (Oy rfl rfl) ?_
 intro b5
 refine Kh rfl (Oz [.slice none 0 0, .slice none 0 0, .slice none 0 0] rfl) ?_
 intro b8
 refine Ka rfl (Nt (Cq (Cs ?_)))
 refine Kq rfl (lda rfl rfl .tc u30 rfl ?_) ?_
 ·kernel_rfl
 refine Kq rfl (lda rfl rfl .tc u33 rfl ?_) ?_
 ·kernel_rfl
 refine Ku rfl (Oc rfl rfl (Kv fun w hS => icheck_c (p := p) (k := k) (by (exact hS.sl)) (by assumption) (by assumption) (by omega) (by assumption) (by (exact tabd_st hD hS)))) ?_
 refine Ka rfl (Nt (Cs (Km rfl (Kq rfl (rd_neq rfl rfl rfl) (Nt ?_)))))
 refine Cd rfl (fun hc22 => ?_) (fun hc22 => ?_)
 ·(try simp only [sB] at hc22)
  have hE : nrE p k acc x = chkN p k := by rw [nrE, if_pos (by simpa using hc22)]
  have hr : nrS p k acc x = (([], [], []), chkN p k) := by rw [nrS, hE, if_pos (by simpa using hc22)]
  refine Cs (Kq rfl (Kb [[.slice none 0 0], [.slice none 0 0], [.slice none 0 0]] rfl rfl) (Km rfl ?_))
  refine Nu rfl rfl (Sa rfl rfl rfl .tc) ?_
  refine Ka rfl (Nt (Ce (Xb ?_)))
  exact Rn rfl (.agg rfl .tc u42 rfl (by kernel_rfl) (.tmp rfl .nil)) fun w' hS => sm_err hr hS
 ·(try simp only [sB] at hc22)
  have h0 : chkN p k = 0 := by simpa using hc22
  have hg : chkG k.g = 0 := (chkN_ok h0).2.2.2.2.1
  refine Ck (Xa (Cq ?_))
  refine WC.joinP (σ := Unit) [(2, _), (3, _), (4, _), (5, _), (8, _)] (fun gq => [(32, .bool (decide (¬ (okN acc ∧ okN x))))]) (fun gq => True) (S5 rfl rfl rfl rfl rfl) ?_ ?_
  ·skip
   refine Cg (Km rfl ?_)
   refine Ku rfl (Oc rfl rfl (Kv fun w hS => valid_c (a := acc))) ?_
   refine Kq rfl (Rt rfl rfl) (Km rfl ?_)
   refine Nb 28 rfl (fun hg28 => ?_) (fun hg28 => ?_)
   ·(try simp only [sB] at hg28)
    refine Kt rfl (Kt rfl (Kt rfl (Kq rfl (Rp rfl rfl rfl) (Nn ?_))))
    refine WX.joinP (()) (S5 rfl rfl rfl rfl rfl) (by refine (Sc ?_ (S0 _)) <;> ((refine slot_b rfl ?_; (try dsimp only); (simp [*]; done)))) ?_ (by (exact fun _ h => h))
    (try dsimp only)
    done
   ·(try simp only [sB] at hg28)
    refine Km rfl ?_
    refine Ku rfl (Oc rfl rfl (Kv fun w hS => valid_c (a := x))) ?_
    refine Kq rfl (Rt rfl rfl) (Kq rfl (Rq rfl rfl rfl) (Nn ?_))
    refine WX.joinP (()) (S5 rfl rfl rfl rfl rfl) (by refine (Sc ?_ (S0 _)) <;> ((refine slot_b rfl ?_; (try dsimp only); (simp [*]; done)))) ?_ (by (exact fun _ h => h))
    (try dsimp only)
    done
  ·rintro _ hmeet; (try dsimp only at hmeet ⊢)
   refine Cd rfl (fun hc32 => ?_) (fun hc32 => ?_)
   ·(try simp only [sB] at hc32)
    have hE : nrE p k acc x = 3 := by rw [nrE, if_neg (fun h => h h0), if_pos hc32]
    have hr : nrS p k acc x = (([], [], []), 3) := by rw [nrS, hE, if_pos (by decide)]
    refine Cs (Kq rfl (Kb [[.slice none 0 0], [.slice none 0 0], [.slice none 0 0]] rfl rfl) ?_)
    refine Nu rfl rfl (Sa rfl rfl rfl .tc) ?_
    refine Ka rfl (Nt (Ce (Xb ?_)))
    exact Rn rfl (.agg rfl .tc u42 rfl (by kernel_rfl) (.tmp rfl .nil)) fun w' hS => sm_err hr hS
   ·(try simp only [sB] at hc32)
    have hok : okN acc ∧ okN x := Decidable.not_not.1 hc32
    refine Ck (Xa (Cq ?_))
    refine WC.joinP (σ := Unit) [(2, _), (3, _), (4, _), (5, _), (8, _)] (fun gq => [(45, .bool (decide (¬ (elG k.g acc ∧ elG k.g x))))]) (fun gq => True) (S5 rfl rfl rfl rfl rfl) ?_ ?_
    ·skip
     refine Cg (Kq rfl (Fa (q := 1) rfl rfl u33 rfl rfl) ?_)
     refine Kq rfl (ldp rfl rfl .tc u26 rfl (by kernel_rfl : _ = some 2) (by rfl) (by rfl)) ?_
     refine Km rfl ?_
     refine Ku rfl (Oc rfl rfl (Kv fun w hS => pwhas_c (g := k.g) (x := acc) (by assumption))) ?_
     refine Ns 37 rfl (v' := .bool (decide (elG k.g acc))) (congrArg Value.bool (by simp [hg])) ?_
     refine Kq rfl (Rt rfl rfl) (Km rfl ?_)
     refine Nb 39 rfl (fun hg39 => ?_) (fun hg39 => ?_)
     ·(try simp only [sB] at hg39)
      refine Kt rfl (Kt rfl (Kt rfl (Kt rfl (Kt rfl (Kq rfl (Rp rfl rfl rfl) (Nn ?_))))))
      refine WX.joinP (()) (S5 rfl rfl rfl rfl rfl) (by refine (Sc ?_ (S0 _)) <;> ((refine slot_b rfl ?_; (try dsimp only); (simp [*]; done)))) ?_ (by (exact fun _ h => h))
      (try dsimp only)
      done
     ·(try simp only [sB] at hg39)
      refine Kq rfl (Fa (q := 1) rfl rfl u33 rfl rfl) ?_
      refine Kq rfl (ldp rfl rfl .tc u26 rfl (by kernel_rfl : _ = some 2) (by rfl) (by rfl)) ?_
      refine Km rfl ?_
      refine Ku rfl (Oc rfl rfl (Kv fun w hS => pwhas_c (g := k.g) (x := x) (by assumption))) ?_
      refine Ns 43 rfl (v' := .bool (decide (elG k.g x))) (congrArg Value.bool (by simp [hg])) ?_
      refine Kq rfl (Rt rfl rfl) (Kq rfl (Rq rfl rfl rfl) (Nn ?_))
      refine WX.joinP (()) (S5 rfl rfl rfl rfl rfl) (by refine (Sc ?_ (S0 _)) <;> ((refine slot_b rfl ?_; (try dsimp only); (simp [*]; done)))) ?_ (by (exact fun _ h => h))
      (try dsimp only)
      done
    ·rintro _ hmeet; (try dsimp only at hmeet ⊢)
     refine Cd rfl (fun hc45 => ?_) (fun hc45 => ?_)
     ·(try simp only [sB] at hc45)
      have hE : nrE p k acc x = 13 := by rw [nrE, if_neg (fun h => h h0), if_neg (fun h => h hok), if_pos hc45]
      have hr : nrS p k acc x = (([], [], []), 13) := by rw [nrS, hE, if_pos (by decide)]
      refine Cs (Kq rfl (Kb [[.slice none 0 0], [.slice none 0 0], [.slice none 0 0]] rfl rfl) ?_)
      refine Nu rfl rfl (Sa rfl rfl rfl .tc) ?_
      refine Ka rfl (Nt (Ce (Xb ?_)))
      exact Rn rfl (.agg rfl .tc u42 rfl (by kernel_rfl) (.tmp rfl .nil)) fun w' hS => sm_err hr hS
     ·(try simp only [sB] at hc45)
      have hel : elG k.g acc ∧ elG k.g x := Decidable.not_not.1 hc45
      have hE : nrE p k acc x = (sizR p).2 := nrE_of h0 hel.1 hel.2
      refine Ck (Xa (Cs ?_))
      refine Kq rfl (lda rfl rfl .tc u30 rfl ?_) ?_
      ·kernel_rfl
      refine Ku rfl (Oc rfl rfl (Kv fun w hS => psizes_c (p := p) (by assumption) (by (exact tabd_st hD hS)))) ?_
      refine Km rfl (Kq rfl (Re rfl rfl rfl) (Kq rfl (Re rfl rfl rfl) (Kq rfl (Re rfl rfl rfl) (Ka rfl (Ka rfl (Ka rfl (Nt (Cq (Cs (Km rfl (Kq rfl (rd_neq rfl rfl rfl) (Nt ?_))))))))))))
      refine Cd rfl (fun hc54 => ?_) (fun hc54 => ?_)
      ·(try simp only [sB] at hc54)
       have hr : nrS p k acc x = (([], [], []), (sizR p).2) := by rw [nrS, hE, if_pos (by simpa using hc54)]
       refine Cs (Kq rfl (Kb [[.slice none 0 0], [.slice none 0 0], [.slice none 0 0]] rfl rfl) (Km rfl ?_))
       refine Nu rfl rfl (Sa rfl rfl rfl .tc) ?_
       refine Ka rfl (Nt (Ce (Xb ?_)))
       exact Rn rfl (.agg rfl .tc u42 rfl (by kernel_rfl) (.tmp rfl .nil)) fun w' hS => sm_err hr hS
      ·(try simp only [sB] at hc54)
       have hr : nrS p k acc x = (nrT p k acc x, 0) := by rw [nrS, hE, if_neg (by simpa using hc54)]
       refine Ck (Xa (Cs (Ka rfl (Nt (Cq ?_)))))
       refine Cf [4, 5, 6, 7, 8, 9, 10, 0, 1, 2, 3, 11, 12, 13, 14, 15] [16] [0, 0, 3, 0, 0, 0, 1, 0, 0, 0, 1, 3, 0, 3, 0, 3, 2] (by kernel_rfl) (by kernel_rfl) rfl ?_
       refine Kj rfl (Rm rfl rfl) (Kj rfl (Rm rfl rfl) ?_)
       refine Jv rfl rfl rfl rfl rfl (fun ext => og_callv rfl rfl rfl (by kernel_rfl) rfl (Kv fun w hS => nterm_c (b := x) (v := 0) (c := 1) (by omega) (by omega))) ?_
       refine Kj rfl (Rm rfl rfl) (Kj rfl (Fa (q := 7) rfl rfl u33 rfl rfl) (Kj rfl (Ld rfl rfl .tc u22) ?_))
       refine Jv rfl rfl rfl rfl rfl (fun ext => og_callv rfl rfl rfl (by kernel_rfl) rfl (Kv fun w hS => nterm_c (b := k.h) (v := 1) (c := -1) (by omega) (by omega))) ?_
       refine Kj rfl (Fa (q := 1) rfl rfl u33 rfl rfl) ?_
       refine Kj rfl (ldp rfl rfl .tc u26 rfl (by kernel_rfl : _ = some 2) (by rfl) (by rfl)) ?_
       refine Jf rfl rfl rfl rfl rfl (fr_bsN rfl rfl u38 (by kernel_rfl : _ = some (some (.agg #[.string (S []), .string (S [])]), 2, 32)) (by kernel_rfl) (by decide) rfl rfl (by (simp [Value.cells]; done)) (by (exact cells_one _)) (by decide)) ?_
       intro b59
       refine Kj rfl (Rm rfl rfl) ?_
       refine Jf rfl rfl rfl rfl rfl (fr_bsN rfl rfl u97 (by kernel_rfl : _ = some (some (.agg #[.string (S []), .int .i64 0, .bool false, .string (S [])]), 4, 48)) (by kernel_rfl) (by decide) rfl rfl (by (simp [Value.cells]; done)) (by (simp only [List.map, Value.cells, List.flatMap_cons, List.flatMap_nil, List.append_nil, List.toList_toArray]; rfl)) (by decide)) ?_
       intro b68
       refine Kj rfl (Kb [[.int .i64 0], [.string (S [])], [.slice none 0 0]] rfl rfl) ?_
       refine Jf rfl rfl rfl rfl rfl (fr_bsN rfl rfl u40 (by kernel_rfl : _ = some (some (.agg #[.int .i64 0, .string (S []), .slice none 0 0]), 3, 48)) (by kernel_rfl) (by decide) rfl rfl (by (simp [Value.cells]; done)) (by (exact cells_one _)) (by decide)) ?_
       intro b70
       refine Kj rfl (Kb [[.slice none 0 0], [.slice none 0 0], [.slice none 0 0]] rfl rfl) ?_
       refine Jf rfl rfl rfl rfl rfl (fr_alloc rfl (v := (.agg #[.slice none 0 0, .slice none 0 0, .slice none 0 0])) (cs := [.slice none 0 0, .slice none 0 0, .slice none 0 0]) (by kernel_rfl) rfl) ?_
       intro b15
       refine WJ.nil ?_
       refine Nu rfl rfl (Sa rfl rfl rfl .tc) ?_
       refine Nt (Cq (Cs (Kq rfl (Fa (q := 12) rfl rfl u30 rfl rfl) (Kq rfl (Ld rfl rfl .tc u22) ?_))))
       refine Km rfl (Kq rfl (Kb [[.string (S [])], [.string (S [])]] rfl rfl) (Km rfl (Nt (Cb ?_))))
       refine Lo (σ := Nat × (Option Nat) × Nat × (List Value)) [(8, _), (15, _), (75, _)] (fun gq => [(76, .int .i64 (gq.1 : Int))]) (fun gq => gq.1 ≤ 2 ∧ gq.2.2.1 = gq.1 + gq.2.2.2.length) (fun gq => 2 - gq.1) (fun gq => ⟨gq.2.1, vrs ([p.han, (sizR p).1.2].take gq.1) ++ gq.2.2.2, 102⟩ :: nrO k acc x (.slice a k.r.length c) b59 b68 b70 b15 b8 (.slice (gq.2.1.map fun b => ⟨b, 0, none⟩) gq.1 gq.2.2.1)) (fun gq => []) (0, none, 0, []) (S3 rfl rfl rfl) (S1 rfl) (by (try dsimp only); exact ⟨Nat.zero_le _, rfl⟩) (by exact fun w h => by refine St.nil (own := nrO k acc x (.slice a k.r.length c) b59 b68 b70 b15 b8 (.slice none 0 0)) ?_ _; exact st_sub _ h) ?_
       rintro ⟨i, o, cp, sp⟩ hinv1; (try dsimp only at hinv1 ⊢)
       obtain ⟨hi, hcp⟩ := hinv1
       refine Cs (Kq rfl (rd_lss rfl rfl rfl) (Nt (Cq ?_)))
       refine Cd rfl (fun hc77 => ?_) (fun hc77 => ?_)
       ·(try simp only [sB] at hc77)
        have hil : i < [p.han, (sizR p).1.2].length := by show i < 2; omega
        have hb2 : i < 2 := by omega
        refine Ck (Xa (Cq (Cb (Cs ?_))))
        refine Kq rfl (rd_aidx rfl rfl rfl u100 u22 rfl (by kernel_rfl) ?_ (by rw [Int.toNat_natCast]; exact map_getD [p.han, (sizR p).1.2] (fun s : Bs => Value.string (S s)) i hil)) ?_
        ·omega
        refine Ka rfl (Nt (Cg (Kq rfl (Fa (q := 1) rfl rfl u42 rfl rfl) (Kq rfl (Ld rfl rfl .tc u39) ?_))))
        refine Km rfl (Kq rfl (Kb [[.string (S [])]] rfl rfl) ?_)
        refine Kh rfl (og_bsN rfl rfl u39 (by kernel_rfl : _ = some (some (.agg #[.string (S [])]), 1, 16)) (by kernel_rfl) (by decide) rfl rfl (by (simp [Value.cells]; done)) (by (exact cells_one _)) (by decide)) ?_
        intro b83
        refine Kh rfl (appgN rfl u39 (by kernel_rfl : _ = some (some (.agg #[.string (S [])]), 1, 16)) (by kernel_rfl) (by decide) .tc rfl rfl (fun w hS => by (exact hS.os)) (by rfl) (by (refine ⟨by rw [flatMap_len _ _ 1 (fun _ => rfl), List.length_take]; show min i 2 * 1 = i * 1; omega, by omega, by omega, by omega⟩)) (by (simp [Value.oneCell']; done))) ?_
        rintro ⟨o84, c84, s84⟩
        refine WL.pu ?_
        intro hg84; (try dsimp only at hg84 ⊢)
        refine Kq rfl (Fa (q := 1) rfl rfl u42 rfl rfl) ?_
        refine Ng rfl rfl (st rfl rfl rfl .tc (by kernel_rfl) rfl ?_ (by (simp only [List.set_cons_zero, List.set_cons_succ]; rfl))) ?_
        ·(simp; done)
        intro _
        refine Nn (Xd (Xa (Cg (Kq rfl (Rz rfl rfl rfl (by omega)) (Km rfl (Nn ?_))))))
        refine Lx ((i + 1, o84, c84, s84)) (by (try dsimp only); omega) (S3 rfl rfl rfl) (by refine (Sc ?_ (S0 _)) <;> (rfl)) ?_ (by exact fun w h => by dsimp only; rw [vrs_succ hil]; exact st_sub _ h)
        (try dsimp only)
        exact ⟨by omega, by omega⟩
       ·(try simp only [sB] at hc77)
        refine Cx (Xc (Xc (Xe ?_)))
        obtain rfl : i = 2 := by omega
        refine Xa (Cs ?_)
        refine Kq rfl (lda rfl rfl .tc u42 rfl ?_) ?_
        ·kernel_rfl
        refine Nu rfl rfl (Sa rfl rfl rfl .tc) ?_
        refine Ka rfl (Nt (Ce ?_))
        exact Rn rfl (.agg rfl .tc u42 rfl (by kernel_rfl) (.tmp rfl .nil)) fun w' hS => ⟨⟨[k.g], [p.han, (sizR p).1.2], [((0, acc, [trm x 0, (k.h, 1, ofZ (-1))]), some ⟨b68, 0, none⟩, 2)], some ⟨b59, 0, none⟩, 1, o.map fun b => ⟨b, 0, none⟩, cp, some ⟨b70, 0, none⟩, 1⟩, by rw [hr]; rfl, by rw [hr]; rfl, hS.below, Fc hS.osk (Fc hS.ock (Fc hS.osk (Fc hS.osk Fn)))⟩
theorem rnstate_c {p : PR} {k : IK} {acc x : Bs} {a : Option Addr} {c : Nat} {w : World} {ok : Nat → Prop} (hF1 : (Fact.sl a (strs k.r)).holds ok w) (hm8 : p.mn.1.1.length ≤ 8) (hk8 : k.g.1.length ≤ 8) (hkl : k.r.length ≤ 100000) (hnl : k.name.length ≤ 140737488351232) :
  Calls Tryz.prog 12 #[prV p, ikV k (.slice a k.r.length c), .string (S acc), .string (S x)] w fun e w' => ∃ gx : SA, e = .returned (SME gx (nrS p k acc x).2) ∧ (gx.core = (nrS p k acc x).1) ∧ Below w.heap.size w w' ∧ ∀ x ∈ (saF gx : List Fact), x.holds (fun b => ok b ∨ w.heap.size ≤ b) w' := by
 refine enter (S := St (fun b => ok b ∨ w.heap.size ≤ b) w [] ([Fact.sl a (strs k.r)])) (L := [(0, prV p), (1, ikV k (.slice a k.r.length c)), (2, .string (S acc)), (3, .string (S x))]) Tryz.func12 rfl Tryz.ntmps12 rfl (Ac rfl (Ac rfl (Ac rfl (Ac rfl (An _))))) (St.start (fun _ h => Or.inr h) (facts_or (Fc hF1 Fn))) ?_
 refine Cs ?_
 refine Kh rfl (Oy rfl rfl) ?_
 intro b4
 refine Kh rfl (Oy rfl rfl) ?_
 intro b5
 refine Kh rfl (Oz [.slice none 0 0, .slice none 0 0, .slice none 0 0] rfl) ?_
 intro b8
 refine Ka rfl (Nt (Cq (Cs ?_)))
 refine Kq rfl (lda rfl rfl .tc u30 rfl ?_) ?_
 ·kernel_rfl
 refine Kq rfl (lda rfl rfl .tc u33 rfl ?_) ?_
 ·kernel_rfl
 refine Ku rfl (Oc rfl rfl (Kv fun w hS => richeck_c (p := p) (k := k) (by (exact hS.sl)) (by assumption) (by assumption) (by assumption) (by assumption))) ?_
 refine Ka rfl (Nt (Cs (Km rfl (Kq rfl (rd_neq rfl rfl rfl) (Nt ?_)))))
 refine Cd rfl (fun hc18 => ?_) (fun hc18 => ?_)
 ·(try simp only [sB] at hc18)
  have hE : nrE p k acc x = chkN p k := by rw [nrE, if_pos (by simpa using hc18)]
  have hr : nrS p k acc x = (([], [], []), chkN p k) := by rw [nrS, hE, if_pos (by simpa using hc18)]
  refine Cs (Kq rfl (Kb [[.slice none 0 0], [.slice none 0 0], [.slice none 0 0]] rfl rfl) (Km rfl ?_))
  refine Nu rfl rfl (Sa rfl rfl rfl .tc) ?_
  refine Ka rfl (Nt (Ce (Xb ?_)))
  exact Rn rfl (.agg rfl .tc u42 rfl (by kernel_rfl) (.tmp rfl .nil)) fun w' hS => sm_err hr hS
 ·(try simp only [sB] at hc18)
  have h0 : chkN p k = 0 := by simpa using hc18
  have hg : chkG k.g = 0 := (chkN_ok h0).2.2.2.2.1
  refine Ck (Xa (Cq ?_))
  refine WC.joinP (σ := Unit) [(2, _), (3, _), (4, _), (5, _), (8, _)] (fun gq => [(28, .bool (decide (¬ (okN acc ∧ okN x))))]) (fun gq => True) (S5 rfl rfl rfl rfl rfl) ?_ ?_
  ·skip
   refine Cg (Km rfl ?_)
   refine Ku rfl (Oc rfl rfl (Kv fun w hS => rvalid_c (a := acc))) ?_
   refine Kq rfl (Rt rfl rfl) (Km rfl ?_)
   refine Nb 24 rfl (fun hg24 => ?_) (fun hg24 => ?_)
   ·(try simp only [sB] at hg24)
    refine Kt rfl (Kt rfl (Kt rfl (Kq rfl (Rp rfl rfl rfl) (Nn ?_))))
    refine WX.joinP (()) (S5 rfl rfl rfl rfl rfl) (by refine (Sc ?_ (S0 _)) <;> ((refine slot_b rfl ?_; (try dsimp only); (simp [*]; done)))) ?_ (by (exact fun _ h => h))
    (try dsimp only)
    done
   ·(try simp only [sB] at hg24)
    refine Km rfl ?_
    refine Ku rfl (Oc rfl rfl (Kv fun w hS => rvalid_c (a := x))) ?_
    refine Kq rfl (Rt rfl rfl) (Kq rfl (Rq rfl rfl rfl) (Nn ?_))
    refine WX.joinP (()) (S5 rfl rfl rfl rfl rfl) (by refine (Sc ?_ (S0 _)) <;> ((refine slot_b rfl ?_; (try dsimp only); (simp [*]; done)))) ?_ (by (exact fun _ h => h))
    (try dsimp only)
    done
  ·rintro _ hmeet; (try dsimp only at hmeet ⊢)
   refine Cd rfl (fun hc28 => ?_) (fun hc28 => ?_)
   ·(try simp only [sB] at hc28)
    have hE : nrE p k acc x = 3 := by rw [nrE, if_neg (fun h => h h0), if_pos hc28]
    have hr : nrS p k acc x = (([], [], []), 3) := by rw [nrS, hE, if_pos (by decide)]
    refine Cs (Kq rfl (Kb [[.slice none 0 0], [.slice none 0 0], [.slice none 0 0]] rfl rfl) ?_)
    refine Nu rfl rfl (Sa rfl rfl rfl .tc) ?_
    refine Ka rfl (Nt (Ce (Xb ?_)))
    exact Rn rfl (.agg rfl .tc u42 rfl (by kernel_rfl) (.tmp rfl .nil)) fun w' hS => sm_err hr hS
   ·(try simp only [sB] at hc28)
    have hok : okN acc ∧ okN x := Decidable.not_not.1 hc28
    refine Ck (Xa (Cq ?_))
    refine WC.joinP (σ := Unit) [(2, _), (3, _), (4, _), (5, _), (8, _)] (fun gq => [(41, .bool (decide (¬ (elG k.g acc ∧ elG k.g x))))]) (fun gq => True) (S5 rfl rfl rfl rfl rfl) ?_ ?_
    ·skip
     refine Cg (Kq rfl (Fa (q := 1) rfl rfl u33 rfl rfl) ?_)
     refine Kq rfl (ldp rfl rfl .tc u26 rfl (by kernel_rfl : _ = some 2) (by rfl) (by rfl)) ?_
     refine Km rfl ?_
     refine Ku rfl (Oc rfl rfl (Kv fun w hS => rghas_c (g := k.g) (x := acc) (by assumption))) ?_
     refine Ns 33 rfl (v' := .bool (decide (elG k.g acc))) (congrArg Value.bool (by simp [hg])) ?_
     refine Kq rfl (Rt rfl rfl) (Km rfl ?_)
     refine Nb 35 rfl (fun hg35 => ?_) (fun hg35 => ?_)
     ·(try simp only [sB] at hg35)
      refine Kt rfl (Kt rfl (Kt rfl (Kt rfl (Kt rfl (Kq rfl (Rp rfl rfl rfl) (Nn ?_))))))
      refine WX.joinP (()) (S5 rfl rfl rfl rfl rfl) (by refine (Sc ?_ (S0 _)) <;> ((refine slot_b rfl ?_; (try dsimp only); (simp [*]; done)))) ?_ (by (exact fun _ h => h))
      (try dsimp only)
      done
     ·(try simp only [sB] at hg35)
      refine Kq rfl (Fa (q := 1) rfl rfl u33 rfl rfl) ?_
      refine Kq rfl (ldp rfl rfl .tc u26 rfl (by kernel_rfl : _ = some 2) (by rfl) (by rfl)) ?_
      refine Km rfl ?_
      refine Ku rfl (Oc rfl rfl (Kv fun w hS => rghas_c (g := k.g) (x := x) (by assumption))) ?_
      refine Ns 39 rfl (v' := .bool (decide (elG k.g x))) (congrArg Value.bool (by simp [hg])) ?_
      refine Kq rfl (Rt rfl rfl) (Kq rfl (Rq rfl rfl rfl) (Nn ?_))
      refine WX.joinP (()) (S5 rfl rfl rfl rfl rfl) (by refine (Sc ?_ (S0 _)) <;> ((refine slot_b rfl ?_; (try dsimp only); (simp [*]; done)))) ?_ (by (exact fun _ h => h))
      (try dsimp only)
      done
    ·rintro _ hmeet; (try dsimp only at hmeet ⊢)
     refine Cd rfl (fun hc41 => ?_) (fun hc41 => ?_)
     ·(try simp only [sB] at hc41)
      have hE : nrE p k acc x = 13 := by rw [nrE, if_neg (fun h => h h0), if_neg (fun h => h hok), if_pos hc41]
      have hr : nrS p k acc x = (([], [], []), 13) := by rw [nrS, hE, if_pos (by decide)]
      refine Cs (Kq rfl (Kb [[.slice none 0 0], [.slice none 0 0], [.slice none 0 0]] rfl rfl) ?_)
      refine Nu rfl rfl (Sa rfl rfl rfl .tc) ?_
      refine Ka rfl (Nt (Ce (Xb ?_)))
      exact Rn rfl (.agg rfl .tc u42 rfl (by kernel_rfl) (.tmp rfl .nil)) fun w' hS => sm_err hr hS
     ·(try simp only [sB] at hc41)
      have hel : elG k.g acc ∧ elG k.g x := Decidable.not_not.1 hc41
      have hE : nrE p k acc x = (sizR p).2 := nrE_of h0 hel.1 hel.2
      refine Ck (Xa (Cs ?_))
      refine Kq rfl (lda rfl rfl .tc u30 rfl ?_) ?_
      ·kernel_rfl
      refine Ku rfl (Oc rfl rfl (Kv fun w hS => rsizes_c (p := p) (by assumption))) ?_
      refine Km rfl (Kq rfl (Re rfl rfl rfl) (Kq rfl (Re rfl rfl rfl) (Kq rfl (Re rfl rfl rfl) (Ka rfl (Ka rfl (Ka rfl (Nt (Cq (Cs (Km rfl (Kq rfl (rd_neq rfl rfl rfl) (Nt ?_))))))))))))
      refine Cd rfl (fun hc50 => ?_) (fun hc50 => ?_)
      ·(try simp only [sB] at hc50)
       have hr : nrS p k acc x = (([], [], []), (sizR p).2) := by rw [nrS, hE, if_pos (by simpa using hc50)]
       refine Cs (Kq rfl (Kb [[.slice none 0 0], [.slice none 0 0], [.slice none 0 0]] rfl rfl) (Km rfl ?_))
       refine Nu rfl rfl (Sa rfl rfl rfl .tc) ?_
       refine Ka rfl (Nt (Ce (Xb ?_)))
       exact Rn rfl (.agg rfl .tc u42 rfl (by kernel_rfl) (.tmp rfl .nil)) fun w' hS => sm_err hr hS
      ·(try simp only [sB] at hc50)
       have hr : nrS p k acc x = (nrT p k acc x, 0) := by rw [nrS, hE, if_neg (by simpa using hc50)]
       refine Ck (Xa (Cq ?_))
       refine Cf [11, 15, 0, 1, 2, 3, 4, 5, 6, 7, 8, 9, 10, 12, 13, 14, 16, 17, 18, 19, 20] [21, 22] [0, 0, 3, 0, 0, 0, 0, 0, 3, 0, 0, 1, 0, 0, 0, 1, 0, 3, 0, 3, 0, 2, 2] (by kernel_rfl) (by kernel_rfl) rfl ?_
       refine Jv rfl rfl rfl rfl rfl (fun ext => Oc rfl rfl (Kv fun w hS => rzof_c (n := 1) (by omega) (by omega))) ?_
       refine Jv rfl rfl rfl rfl rfl (fun ext => Oc rfl rfl (Kv fun w hS => rzof_c (n := -1) (by omega) (by omega))) ?_
       refine Kj rfl (Fa (q := 1) rfl rfl u33 rfl rfl) ?_
       refine Kj rfl (ldp rfl rfl .tc u26 rfl (by kernel_rfl : _ = some 2) (by rfl) (by rfl)) ?_
       refine Jf rfl rfl rfl rfl rfl (fr_bsN rfl rfl u38 (by kernel_rfl : _ = some (some (.agg #[.string (S []), .string (S [])]), 2, 32)) (by kernel_rfl) (by decide) rfl rfl (by (simp [Value.cells]; done)) (by (exact cells_one _)) (by decide)) ?_
       intro b55
       refine Kj rfl (Fa (q := 12) rfl rfl u30 rfl rfl) (Kj rfl (Ld rfl rfl .tc u22) ?_)
       refine Kj rfl (Kb [[.string (S [])]] rfl rfl) (Kj rfl (Rm rfl rfl) (Kj rfl (Kb [[.string (S [])]] rfl rfl) ?_))
       refine Jf rfl rfl rfl rfl rfl (fr_bsN rfl rfl u39 (by kernel_rfl : _ = some (some (.agg #[.string (S [])]), 1, 16)) (by kernel_rfl) (by decide) rfl rfl (by (simp [Value.cells]; done)) (by (simp only [List.map, Value.cells, List.flatMap_cons, List.flatMap_nil, List.append_nil, List.toList_toArray]; rfl)) (by decide)) ?_
       intro b61
       refine Kj rfl (Rm rfl rfl) (Kj rfl (Rm rfl rfl) (Kj rfl (Kb [[.string (S [])], [.int .i64 0], [.bool false, .string (S [])]] rfl rfl) (Kj rfl (Fa (q := 7) rfl rfl u33 rfl rfl) (Kj rfl (Ld rfl rfl .tc u22) ?_))))
       refine Kj rfl (Kb [[.string (S [])], [.int .i64 0], [.bool false, .string (S [])]] rfl rfl) ?_
       refine Jf rfl rfl rfl rfl rfl (fr_bsN rfl rfl u97 (by kernel_rfl : _ = some (some (.agg #[.string (S []), .int .i64 0, .bool false, .string (S [])]), 4, 48)) (by kernel_rfl) (by decide) rfl rfl (by (simp [Value.cells]; done)) (by (simp only [List.map, Value.cells, List.flatMap_cons, List.flatMap_nil, List.append_nil, List.toList_toArray]; rfl)) (by decide)) ?_
       intro b70
       refine Kj rfl (Kb [[.int .i64 0], [.string (S [])], [.slice none 0 0]] rfl rfl) ?_
       refine Jf rfl rfl rfl rfl rfl (fr_bsN rfl rfl u40 (by kernel_rfl : _ = some (some (.agg #[.int .i64 0, .string (S []), .slice none 0 0]), 3, 48)) (by kernel_rfl) (by decide) rfl rfl (by (simp [Value.cells]; done)) (by (exact cells_one _)) (by decide)) ?_
       intro b72
       refine Kj rfl (Kb [[.slice none 0 0], [.slice none 0 0], [.slice none 0 0]] rfl rfl) ?_
       refine WJ.nil ?_
       refine Nu rfl rfl (Sa rfl rfl rfl .tc) ?_
       refine Ka rfl (Nt (Ce ?_))
       exact Rn rfl (.agg rfl .tc u42 rfl (by kernel_rfl) (.tmp rfl .nil)) fun w' hS => ⟨⟨[k.g], [p.han, (sizR p).1.2], [((0, acc, [trm x 0, (k.h, 1, ofZ (-1))]), some ⟨b70, 0, none⟩, 2)], some ⟨b55, 0, none⟩, 1, some ⟨b61, 0, none⟩, 2, some ⟨b72, 0, none⟩, 1⟩, by rw [hr]; rfl, by rw [hr]; rfl, hS.below, Fc hS.osk (Fc hS.osk (Fc hS.osk (Fc hS.osk Fn)))⟩
section
variable {σ : Type} {sd : Bs} {at_ a : Nat} {after : σ → Bs → σ} {stop : σ → Bs → Option Code} {K b : Nat} {s : σ}
end
section
variable {ds : List Deferred} {P : Program} {o : Oper} {n : Nat} {L : Slots} {ok : Nat → Prop} {w0 : World} {own : List Ent} {C : Ent → List Ent} {fs : List Fact} {x y : Operand} {t u e : TypeId} {xs : List Value}
end
section
variable {ds : List Deferred} {ρ : Option Nat} {P : Program} {Q : Exit → Act → World → Prop} {n : Nat} {L : Slots} {Z : World → Prop} {p : Prop} {ops rest : List Oper}
end
end Go.Proofs.YthkmpjobfdeoaaaGreatDoor
