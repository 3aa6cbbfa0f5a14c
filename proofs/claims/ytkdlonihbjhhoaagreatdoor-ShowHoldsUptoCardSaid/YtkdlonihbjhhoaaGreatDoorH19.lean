/-
  Parts of the walk: Sht Shu Sha1 Rpc Rik ShaA Sha2.
-/
import Derived.Test.YtkdlonihbjhhoaaGreatDoorH18
namespace Go.Proofs.YtkdlonihbjhhoaaGreatDoor
open Go.RowKit
set_option linter.unusedSimpArgs false
set_option linter.unusedVariables false
set_option maxHeartbeats 600000
set_option maxRecDepth 20000
theorem lE {α : Type} [Inhabited α] (l : List α) : l = (List.range l.length).map fun i => l.getD i default := by
 apply List.ext_getElem
 ·simp
 ·intro i h1 h2
  rw [List.getElem_map, List.getElem_range, List.getD_eq_getElem?_getD, Ad h1]; rfl
theorem jh {d : List Int} {n i : Nat} (h : i ∈ aR d n) : i < n := by
 rw [aR] at h; exact Bz.1 (List.mem_filter.1 h).1
theorem kF (d : List Int) (n : Nat) : (aR d n).length ≤ n := by
 rw [aR]; exact Bu (List.length_filter_le _ _) (by simp)
theorem rb {p : PR} {k : IK} (hN : cd p k = 0) {i : Nat} (hi : i < k.r.length) : elG k.g (rD k i) := by
 obtain ⟨_, _, _, _, _, _, _, hel⟩ := bn hN
 refine hel _ ?_
 rw [rD, List.getD_eq_getElem?_getD, Ad hi]
 simp
theorem nY {p : PR} (h : cR p = 0) (i : Nat) : okN (lim p i) ∧ 2 ≤ val (lim p i) := by
 obtain ⟨h1, _, h3⟩ := cM h
 unfold lim; split
 ·exact ⟨h1.1 _ (by simp), h3.1 _ (by simp)⟩
 ·split
  ·exact ⟨h1.1 _ (by simp), h3.1 _ (by simp)⟩
  ·exact ⟨h1.1 _ (by simp), h3.1 _ (by simp)⟩
theorem hO {x : Bs} (h : 2 ≤ val x) : x ≠ [] := fun e => by rw [e] at h; exact absurd h (by decide)
theorem ut {p : PR} (h : cR p = 0) (h1 : szV p < Big) (h2 : szH p < Big) : iO p = ((ae (szV p), ae (szH p)), 0) := by
 rw [iO, Aa (fun h2 => h2 h), Ab ⟨h1, h2⟩]
section
variable {p : PR} {k : IK} {s : SG} {ms : List Bs} {t : Tp} {d : List Int}
abbrev cC (d : List Int) (ms : List Bs) : List Bs := d.map fun i => ms.getD i.toNat default
theorem wg (hs : oL p k s ms) (hd : bL 1 d ms.length = true) : ∀ i ∈ d, okN (ms.getD i.toNat default) ∧ val (ms.getD i.toNat default) < val p.attr ∧ i.toNat < k.r.length := by
 obtain ⟨_, hlen, _, _, _, _, _, _, hms, _⟩ := hs
 intro i hi
 have h1 := eY hd i hi
 have h2 : i.toNat < ms.length := by omega
 obtain ⟨h3, h4⟩ := hms _ h2
 refine ⟨h3, ?_, by omega⟩
 rw [lim, Aa (by omega), Aa (by omega)] at h4; exact h4
theorem BV (hs : oL p k s ms) (hd : bL 1 d ms.length = true) (h1 : szV p < Big) (h2 : szH p < Big) {a : Bs} (ha : elG k.g a) : shE p k a d (cC d ms) = 0 := by
 have hdo := wg hs hd
 obtain ⟨hN, hlen, _⟩ := hs
 obtain ⟨hR, _⟩ := bn hN
 have e1 : ∀ x ∈ cC d ms, okN x ∧ val x < val p.attr := by
  intro x hx
  obtain ⟨i, hi, rfl⟩ := Bq.1 hx
  exact ⟨(hdo i hi).1, (hdo i hi).2.1⟩
 rw [shE, Aa (fun h => h hN), Aa (fun h => h ⟨ha.1, fun x hx => (e1 x hx).1⟩), Aa (fun h => h ha), ← hlen, hd, Aa (by simp), Aa (by simp), Aa (fun h => h fun x hx => (e1 x hx).2), ut hR h1 h2]
theorem zx (hs : oL p k s ms) (hd : bL 1 d ms.length = true) (h : (aU p k s t).2 = 0) :
  elG k.g (tgS p k (aU p k s t).1.1 d (cC d ms)) ∧
  ae (pfL (val k.g.1) ((aU p k s t).1.1 :: k.s :: (aR d k.r.length).map (rD k)) (ofZ ((val s.e : Int) - val p.lo) :: (aU p k s t).1.2.1 :: (aR d k.r.length).map fun i => ((false, ms.getD i default) : Zs)) % val k.g.1) = tgS p k (aU p k s t).1.1 d (cC d ms) := by
 obtain ⟨hX, hvz, hz⟩ := iQ hs h
 have hdo := wg hs hd
 obtain ⟨hN, hlen, _, he, _, _, _, _, hms, _⟩ := hs
 obtain ⟨hR, _, _, _, hg, hr2, _, hel⟩ := bn hN
 have hlo : okN p.lo := (cM hR).1.1 _ (by simp)
 have hm0 := vY (x := k.s) hg
 have hZ : elG k.g k.z := hel _ (by simp)
 have hS : elG k.g k.s := hel k.s (by simp)
 generalize (aU p k s t).1.1 = a at *
 generalize (aU p k s t).1.2.1 = v at *
 have hRe : ∀ x ∈ k.r, elG k.g x := fun x hx => hel x (by simp [hx])
 have hmz : ∀ x ∈ ms.map (fun m => ((false, m) : Zs)), okZ x := by
  intro x hx
  obtain ⟨m, hm, rfl⟩ := Bq.1 hx
  obtain ⟨i, hi, rfl⟩ := List.mem_iff_getElem.1 hm
  have := (hms i hi).1
  rw [List.getD_eq_getElem?_getD, Ad hi] at this; exact dm this
 rw [el hg (by intro x hx; rcases At.1 hx with rfl | hx; exact hX; rcases At.1 hx with rfl | hx; exact hS; exact hRe x hx)
  (by intro x hx; rcases At.1 hx with rfl | hx; exact dm he; rcases At.1 hx with rfl | hx; exact hvz; exact hmz x hx) (by simp [hlen])] at hz
 have hzv : pfL (val k.g.1) (a :: k.s :: k.r) ((false, s.e) :: v :: ms.map fun m => (false, m)) % val k.g.1 = val k.z := by
  have := congrArg (fun q => val q.1) hz; simpa only [af] using this
 have eT : bu k.g (k.z :: a :: d.map fun i => rD k i.toNat) (ofZ 1 :: ngN p.lo :: (cC d ms).map ngN) = (ae (pfL (val k.g.1) (k.z :: a :: d.map fun i => rD k i.toNat) (ofZ 1 :: ngN p.lo :: (cC d ms).map ngN) % val k.g.1), 0) := by
  refine el hg ?_ ?_ (by simp)
  ·intro x hx; rcases At.1 hx with rfl | hx; exact hZ; rcases At.1 hx with rfl | hx; exact hX
   obtain ⟨i, hi, rfl⟩ := Bq.1 hx; exact rb hN (hdo i hi).2.2
  ·intro x hx; rcases At.1 hx with rfl | hx; exact g9; rcases At.1 hx with rfl | hx; exact ky hlo
   obtain ⟨m, hm, rfl⟩ := Bq.1 hx; obtain ⟨i, hi, rfl⟩ := Bq.1 hm; exact ky (hdo i hi).1
 refine ⟨?_, ?_⟩
 ·exact pr (by rw [eT])
 ·rw [tgS, eT]; simp only
  refine congrArg ae (Eq.symm ?_)
  rw [bv, bv, bv, bv, dd, dd, ve hlo]
  rw [bv, bv, j2] at hzv
  -- the exponents, in two parts
  have eR : pfL (val k.g.1) k.r (ms.map fun m => ((false, m) : Zs)) = pfL (val k.g.1) ((aR d k.r.length).map (rD k)) ((aR d k.r.length).map fun i => ((false, ms.getD i default) : Zs)) *
    pfL (val k.g.1) (d.map fun i => rD k i.toNat) (d.map fun i => ((false, ms.getD i.toNat default) : Zs)) := by
   have e1 : k.r = (List.range k.r.length).map (rD k) := lE k.r
   have e2 : (ms.map fun m => ((false, m) : Zs)) = (List.range k.r.length).map fun i => ((false, ms.getD i default) : Zs) := by
    rw [← hlen]; conv => lhs; rw [lE ms]
    rw [Dy]; rfl
   have := pb (m := val k.g.1) (fun i : Nat => !(d.contains (i : Int))) (rD k) (fun i => ((false, ms.getD i default) : Zs)) (List.range k.r.length)
   have e3 : (List.range k.r.length).filter (fun x : Nat => !!(d.contains (x : Int))) = d.map Int.toNat := by
    rw [← tP (d := d) (n := k.r.length) (by rw [← hlen]; exact hd) (Or.inl hr2)]; apply List.filter_congr; intro x _; rw [Bool.not_not]
   rw [e3, Dy, Dy] at this; rw [e2]; exact Eq.trans (congrArg (fun q => pfL (val k.g.1) q ((List.range k.r.length).map fun i => ((false, ms.getD i default) : Zs))) e1) this
  have eN := rk (m := val k.g.1) hm0 (d.map fun i => rD k i.toNat) (d.map fun i => ((false, ms.getD i.toNat default) : Zs)) ((cC d ms).map ngN)
   (by intro x hx; obtain ⟨i, hi, rfl⟩ := Bq.1 hx; exact eV hg (rb hN (hdo i hi).2.2))
   (by rw [Dy, Dy, Dy]; apply List.map_congr_left; intro i hi; simp only [Function.comp]; rw [ve (hdo i hi).1, j2]; omega)
   (by simp)
  rw [eR] at hzv
  generalize pfL (val k.g.1) ((aR d k.r.length).map (rD k)) ((aR d k.r.length).map fun i => ((false, ms.getD i default) : Zs)) = H at *
  generalize pfL (val k.g.1) (d.map fun i => rD k i.toNat) (d.map fun i => ((false, ms.getD i.toNat default) : Zs)) = D at *
  generalize pfL (val k.g.1) (d.map fun i => rD k i.toNat) ((cC d ms).map ngN) = N at *
  have hua := eV hg hX
  rw [uX, mml, ← hzv, mml]
  generalize aK (val k.g.1) (val k.s) (zv v) = V at *
  rw [show aK (val k.g.1) (val a) (val s.e) * (V * (H * D)) * (aK (val k.g.1) (val a) (-(val p.lo : Int)) * N) = (D * N) * ((aK (val k.g.1) (val a) (val s.e) * aK (val k.g.1) (val a) (-(val p.lo : Int))) * (V * H)) by simp only [Ai, Ba, As]]
  rw [← mml, eN, mml, B0, ← mml (aK (val k.g.1) (val a) (val s.e) * _), gz hm0 hua, ← Int.sub_eq_add_neg]
end
section
variable {p : PR} {k : IK} {s : SG} {ms : List Bs} {t : Tp} {d : List Int}
abbrev gg (p : PR) (k : IK) (s : SG) (ms : List Bs) (v : Zs) (d : List Int) : List Zs := ofZ ((val s.e : Int) - val p.lo) :: v :: (aR d k.r.length).map fun i => ((false, ms.getD i default) : Zs)
theorem zw (hs : oL p k s ms) (hd : bL 1 d ms.length = true) {v : Zs} (hv : okZ v) : wiS p s v ms d = (gg p k s ms v d, 0) := by
 obtain ⟨hN, hlen, ha, he, hsv, hl, _, _, hms, _⟩ := hs
 obtain ⟨hR, _, _, _, hg, hr2, hr18, _⟩ := bn hN
 have hlo : okN p.lo := (cM hR).1.1 _ (by simp)
 have hm : ∀ x ∈ ms, okN x := by
  intro x hx
  obtain ⟨i, hi, rfl⟩ := List.mem_iff_getElem.1 hx
  have := (hms i hi).1
  rw [List.getD_eq_getElem?_getD, Ad hi] at this; exact this
 have e0 : (cz (aA s.e) (aA p.lo)).1 = ofZ ((val s.e : Int) - val p.lo) := by
  have a1 : aA s.e = ofZ (val s.e : Int) := by rw [bR he, i8, bB he]
  have a2 : aA p.lo = ofZ (val p.lo : Int) := by rw [bR hlo, i8, bB hlo]
  have b1 := aF he; have b2 := aF hlo
  rw [a1, a2, ko (by rw [Bg]; exact b1) (by rw [Bg]; exact b2), Ab (by omega)]
 rw [wiS, Aa (fun h => h hR), Aa (fun h => h ⟨⟨ha.1, he, hsv⟩, hv, hm⟩), Aa (by omega), hd, Aa (by simp), e0, hlen]
 refine congrArg (fun q => ((ofZ ((val s.e : Int) - val p.lo) :: v :: q, (0 : Int)) : List Zs × Int)) ?_
 apply List.map_congr_left
 intro i hi
 exact bR (hms i (by have := jh hi; omega)).1
theorem qQ (hs : oL p k s ms) (hd : bL 1 d ms.length = true) (h : (aU p k s t).2 = 0) (h1 : szV p < Big) (h2 : szH p < Big) :
  eJ (shT p k (aU p k s t).1.1 d (cC d ms)) (gg p k s ms (aU p k s t).1.2.1 d) = (true, 0) := by
 obtain ⟨hT, htg⟩ := zx hs hd h
 obtain ⟨hX, hvz, _⟩ := iQ hs h
 obtain ⟨r, _, _, _, _, hrm, _, _, ev, _⟩ := uF h
 obtain ⟨hN, hlen, ha, he, hsv, hl, hlt, hvb, hms, _⟩ := hs
 obtain ⟨hR, _, _, hq, hg, hr2, hr18, hel⟩ := bn hN
 obtain ⟨hok, _, hrg⟩ := cM hR
 have hS : elG k.g k.s := hel k.s (by simp)
 have hsz : okN p.sz ∧ 2 ≤ val p.sz := ⟨hok.1 _ (by simp), hrg.1 _ (by simp)⟩
 have hbl : 2 ≤ val p.bl := hrg.1 _ (by simp)
 obtain ⟨hg1, hg2, _⟩ := ej hg
 have hhl := kF d k.r.length
 have hw : ∀ x ∈ gg p k s ms (aU p k s t).1.2.1 d, okZ x := by
  intro x hx
  rcases At.1 hx with rfl | hx
  ·have := aF he; exact bK.2 (by omega)
  ·rcases At.1 hx with rfl | hx
   ·exact hvz
   ·obtain ⟨i, hi, rfl⟩ := Bq.1 hx; exact dm (hms i (by have := jh hi; omega)).1
 have hB : ∀ x ∈ (aU p k s t).1.1 :: k.s :: (aR d k.r.length).map (rD k), elG k.g x := by
  intro x hx
  rcases At.1 hx with rfl | hx
  ·exact hX
  ·rcases At.1 hx with rfl | hx
   ·exact hS
   ·obtain ⟨i, hi, rfl⟩ := Bq.1 hx; exact rb hN (jh hi)
 have himg := yi (gs := [k.g]) (w := gg p k s ms (aU p k s t).1.2.1 d) (t := tgS p k (aU p k s t).1.1 d (cC d ms)) (bs := (aU p k s t).1.1 :: k.s :: (aR d k.r.length).map (rD k)) hw (by simp)
 rw [B8, el hg hB hw (by simp), htg] at himg
 have hvs : ∀ y ∈ p.sz :: ae (szV p) :: (aR d k.r.length).map (lim p), okN y ∧ y ≠ [] := by
  intro y hy
  rcases At.1 hy with rfl | hy
  ·exact ⟨hsz.1, hO hsz.2⟩
  ·rcases At.1 hy with rfl | hy
   ·exact ⟨aq h1, fun h => by rw [aX, szV] at h; omega⟩
   ·obtain ⟨i, _, rfl⟩ := Bq.1 hy; exact ⟨(nY hR i).1, hO (nY hR i).2⟩
 generalize hTT : tgS p k (aU p k s t).1.1 d (cC d ms) = T at *
 generalize (aU p k s t).1.1 = a at *
 have eS : shT p k a d (cC d ms) = ([k.g], p.sz :: ae (szV p) :: (aR d k.r.length).map (lim p), [(0, T, db (a :: k.s :: (aR d k.r.length).map (rD k)) 0)]) := by
  rw [shT, ut hR h1 h2, hTT]
 rw [eS]
 generalize hM : (([k.g], p.sz :: ae (szV p) :: (aR d k.r.length).map (lim p), [(0, T, db (a :: k.s :: (aR d k.r.length).map (rD k)) 0)]) : Sm) = M
 have hf : cJ M := by
  subst hM
  refine ⟨?_, fun y hy => (hvs y hy).1, ?_⟩
  ·intro g hg; simp at hg; subst hg; exact ⟨hg1, hg2⟩
  ·intro q hq; simp at hq; subst hq; refine ⟨⟨⟨Int.le_refl 0, by simp⟩, hT.1⟩, ?_⟩; intro t ht; obtain ⟨m1, m2, m3, m4⟩ := kS _ _ _ ht; refine ⟨⟨by omega, ?_⟩, (hB _ m1).1, by rw [m4]; exact g9⟩; simp only [Am, Af] at m3 ⊢; omega
 have hz : f5 M := by
  subst hM
  refine ⟨⟨by simp, by simp; omega, by simp⟩, ?_⟩
  intro q hq; simp at hq; subst hq
  rw [gj]; simp; omega
 have hE : elS M := by
  subst hM
  refine ⟨?_, ?_⟩
  ·intro g hg1; simp at hg1; subst hg1; exact hg
  ·intro q hq; simp at hq; subst hq; refine ⟨hT, ?_⟩; intro t ht; exact hB _ (kS _ _ _ ht).1
 have hk : kdS M := by subst hM; exact Or.inl fun y hy => (hvs y hy).2
 have hck : lV M = 0 := by simp [lV, hf, hz, hE, hk]
 have hrd : iv M (gg p k s ms (aU p k s t).1.2.1 d) = 0 := by
  rw [iv, Aa (fun h => h hf), Aa (fun h => h hw), Aa (fun h => h hck), Aa]
  subst hM; simp
 have hin : inR M (gg p k s ms (aU p k s t).1.2.1 d) := by
  subst hM
  intro i hi
  simp only [Am, Af] at hi
  rcases i with _ | _ | j
  ·simp only [B8]; rw [inV, Aa (hO hsz.2), ← nh, dd]; omega
  ·simp only [B8, C4]; rw [inV, Aa (fun h => by rw [aX, szV] at h; omega), ← nh, ev, dd, af, szV]; have hle : val s.e * r ≤ (val p.lo + val p.sz) * val p.msk := De (by omega) (by omega); have hcast : ((val s.e * r : Nat) : Int) = (val s.e : Int) * r := Co _ _; generalize val s.e * r = X at *; generalize (val p.lo + val p.sz) * val p.msk = Y at *; rw [← hcast]; omega
  ·simp only [C4]; have hj : j < (aR d k.r.length).length := by omega
   rw [ct (lim p) _ _ hj, ct (fun i => ((false, ms.getD i default) : Zs)) _ _ hj]; generalize hi2 : (aR d k.r.length).getD j default = i; have hmem : i ∈ aR d k.r.length := by rw [← hi2]; exact ao _ _ hj
   rw [inV, Aa (hO (nY hR i).2)]; exact (hms i (by have := jh hmem; omega)).2
 have him : imS M (gg p k s ms (aU p k s t).1.2.1 d) = ([T], 0) := by
  subst hM
  simp only [imS, Cj, List.map_nil, himg, gO]; simp
 rw [eJ, Aa (fun h => h hrd), Aa (fun h => h hin), him, Aa (fun h => h rfl)]
 refine congrArg (fun b => (b, (0 : Int))) (Aq ?_)
 subst hM; rfl
end
abbrev sgV (s : SG) : Value := .agg #[.string (S s.a), .string (S s.e), .string (S s.v)]
abbrev Eu (p : PR) (k : IK) (rv : Value) : Value := .agg #[.string (S p.ch), .string (S p.sl), .string (S p.mn.1.1), .string (S p.mn.1.2), .string (S p.mn.2.1), .string (S p.mn.2.2), .string (S p.wh.1.1), .string (S p.wh.1.2), .string (S p.wh.2.1), .string (S p.wh.2.2), .string (S p.sec), .string (S p.attr), .string (S p.han), .string (S p.lo), .string (S p.sz), .string (S p.bl), .string (S p.msk), .string (S k.name), .string (S k.g.1), .string (S k.g.2), .string (S k.z), .string (S k.s), rv, .string (S k.u), .string (S k.h)]
theorem qL {p : PR} {k : IK} {a : Option Addr} {c : Nat} {w : World} {ok : Nat → Prop} (hF1 : (Fact.sl a (ak k.r)).holds ok w) (hm8 : p.mn.1.1.length ≤ 8) (hk8 : k.g.1.length ≤ 8) (hl : k.r.length ≤ 140737488351232) (hnl : k.name.length ≤ 140737488351232) (hD : TabD w) :
  Cw 39 #[prV p, ikV k (.slice a k.r.length c)] w (.tuple #[Eu p k (.slice a k.r.length c), .int .i64 (cd p k)]) := by
 refine En [Fact.sl a (ak k.r)] [(0, prV p), (1, ikV k (.slice a k.r.length c))] Tryz.func39 I Tryz.ntmps39 I (Ac I (Ac I (An _))) (Fc (ah hF1) Fn) (Cs (Kh I (Oy I I) ?_))
 intro b2
 refine Kh I (Oy I I) ?_
 intro b3
 refine Kh I (Oz [.string (S []), .string (S []), .string (S []), .string (S []), .string (S []), .string (S []), .string (S []), .string (S []), .string (S []), .string (S []), .string (S []), .string (S []), .string (S []), .string (S []), .string (S []), .string (S []), .string (S []), .string (S []), .string (S []), .string (S []), .string (S []), .string (S []), .slice none 0 0, .string (S []), .string (S [])] I) ?_
 intro b4
 refine Ka I (Nt (Cq (Cf [4, 5, 6, 0, 1, 2, 3] [7, 8] [0, 0, 0, 0, 0, 0, 1, 2, 2] (by kernel_rfl) (by kernel_rfl) I ?_)))
 refine Kj I (lda I I .tc u30 I ?_) ?_
 ·kernel_rfl
 refine Kj I (lda I I .tc u33 I ?_) ?_
 ·kernel_rfl
 refine Jv I I I I I (fun ext => Oc I I (Kv fun w hS => vA (p := p) (k := k) (by (exact hS.sl)) (by assumption) (by assumption) (by assumption) (by assumption) (by (exact aZ hD hS)))) ?_
 refine Kj I (lda I I .tc u30 I ?_) ?_
 ·kernel_rfl
 refine Kj I (Kb [[.string (S []), .string (S []), .string (S []), .string (S []), .string (S []), .string (S []), .string (S []), .string (S []), .string (S []), .string (S []), .string (S []), .string (S []), .string (S []), .string (S []), .string (S []), .string (S []), .string (S [])]] I I) ?_
 refine Kj I (lda I I .tc u33 I ?_) ?_
 ·kernel_rfl
 refine Kj I (Kb [[.string (S []), .string (S []), .string (S []), .string (S []), .string (S []), .string (S []), .string (S []), .string (S []), .string (S []), .string (S []), .string (S []), .string (S []), .string (S []), .string (S []), .string (S []), .string (S []), .string (S [])], [.string (S []), .string (S []), .string (S []), .string (S []), .string (S []), .slice none 0 0, .string (S []), .string (S [])]] I I) ?_
 refine WJ.nil ?_
 refine Nu I I (Sa I I I .tc) (Ka I (Nt (Ce ?_)))
 exact Rn I (.agg I .tc u99 I (by kernel_rfl) (.tmp I .nil)) fun w' hS => ⟨by rfl, hS.below⟩
theorem iP {l : List Bs} {a : Option Addr} {c : Nat} {w : World} {ok : Nat → Prop} (hF1 : (Fact.sl a (ak l)).holds ok w) (hl : l.length ≤ 140737488351232) :
  Cw 40 #[.slice a l.length c] w (.bool (decide (∀ x ∈ l, okN x))) := by
 refine En [Fact.sl a (ak l)] [(0, .slice a l.length c)] Tryz.func40 I Tryz.ntmps40 I (Ac I (An _)) (Fc (ah hF1) Fn) (Cs (Ka I (Nt (Cq (Cs (Km I (Yo I u31 (Km I (Nt (Cb (Lp (σ := Nat) [(5, _), (6, _)] (fun gq => [(7, .int .i64 (gq : Int))]) (fun gq => gq ≤ l.length ∧ ∀ x ∈ l.take gq, okN x) (fun gq => l.length - gq) (0) (S2 I I) (S1 I) (by (try dsimp only); exact ⟨Aj _, by simp⟩) ?_)))))))))))
 rintro i hinv1; (try dsimp only at hinv1 ⊢)
 obtain ⟨hi, hok⟩ := hinv1
 refine Cs (Yl I (Nt (Cq (Ci I (fun hc8 => ?_) (fun hc8 => ?_)))))
 ·have hil : i < l.length := by omega
  refine Ck (Xa (Cq (Cb (Cs (Kq I (Ib I I I u31 (by omega) (by (rw [Af]; omega))) ?_)))))
  refine Kq I (ldm I I u22 I (by assumption)) ?_
  refine Ka I (Nt (Cs (Km I (Kc I (fun w hS => ay (a := l.getD i default)) (Yt I (Nt (Ci I (fun hc13 => ?_) (fun hc13 => ?_))))))))
  ·have hn : ¬ ∀ x ∈ l, okN x := fun h => (by simpa using hc13 : ¬ okN (l.getD i default)) (h _ (ao l i hil))
   refine Cs (Ka I (Nt (Ce (Xf (Xb (Xb (Xf (Xb ?_)))))))); exact R1 I I (by rw [Ap hn]; rfl)
  ·have hyy : okN (l.getD i default) := by simpa using hc13
   refine Ck (Xd (Xa (Cg (Kq I (Rz I I I (by omega)) (Km I (Nn (Ly (i + 1) (by (try dsimp only); omega) (S2 I I) (by refine (Sc ?_ (S0 _)) <;> (rfl)) ?_ (fun _ h => h)))))))); (try dsimp only); exact ⟨hil, az hil hok hyy⟩
 ·refine Cx (Xc (Xc (Xe ?_)))
  obtain rfl : i = l.length := by omega
  rw [Ao] at hok
  refine Xa (Cs (Ka I (Nt (Ce ?_))))
  exact R1 I I (by rw [Aq hok]; rfl)
abbrev dX (l : List Int) : List Value := l.map fun x => Value.int .i64 x
theorem ic {α : Type} [Inhabited α] {l : List α} {i : Nat} (h : i < l.length) : l.drop i = l.getD i default :: l.drop (i + 1) := by
 rw [Bl h, List.getD_eq_getElem?_getD, Ad h]; rfl
theorem qP {l : List Int} {n : Int} {a : Option Addr} {c : Nat} {w : World} {ok : Nat → Prop} (hF1 : (Fact.sl a (dX l)).holds ok w) (hl : l.length ≤ 140737488351232) :
  Cw 55 #[.slice a l.length c, .int .i64 n] w (.bool (bL 1 l n)) := by
 refine En [Fact.sl a (dX l)] [(0, .slice a l.length c), (1, .int .i64 n)] Tryz.func55 I Tryz.ntmps55 I (Ac I (Ac I (An _))) (Fc (ah hF1) Fn) (Cs (Ka I (Nt (Cs (Ka I (Nt (Cq (Cs (Km I (Yo I u38 (Km I (Nt (Cb (Lp (σ := Nat × Int) [(1, _), (8, _), (9, _)] (fun gq => [(10, .int .i64 (gq.1 : Int)), (5, .int .i64 gq.2)]) (fun gq => gq.1 ≤ l.length ∧ bL gq.2 (l.drop gq.1) n = bL 1 l n) (fun gq => l.length - gq.1) (0, 1) (S3 I I I) (S2 I I) (by (try dsimp only); exact ⟨Aj _, rfl⟩) ?_))))))))))))))
 rintro ⟨i, last⟩ hinv1; (try dsimp only at hinv1 ⊢)
 obtain ⟨hi, he⟩ := hinv1
 refine Cs (Yl I (Nt (Cq (Ci I (fun hc11 => ?_) (fun hc11 => ?_)))))
 ·have hil : i < l.length := by omega
  obtain ⟨y, hy⟩ : ∃ y, Keep (y = l.getD i default) := ⟨_, rfl⟩
  rw [ic hil, ← show y = _ from hy, bL] at he
  refine Ck (Xa (Cq (Cb (Cs (Kq I (Ib I I I u38 (by omega) (by (rw [Af]; omega))) ?_)))))
  refine Kq I (ldm I I u3 I (by assumption)) ?_
  refine Ns 13 I (v' := .int .i64 (y)) (congrArg (Value.int .i64) (by rw [show y = _ from hy])) ?_
  refine Ka I (Nt (Cq (WC.joinP (σ := Unit) [(1, _), (7, _), (8, _), (9, _), (10, _)] (fun gq => [(21, .bool (decide (¬ (last < y ∧ y < n))))]) (fun gq => True) (S5 I I I I I) ?_ ?_)))
  ·skip
   refine Cg (Km I (Km I (Ym I (Km I (Nc 17 I (fun hg17 => ?_) (fun hg17 => ?_))))))
   ·refine T2 I (Kt I (Yp I (Nn (WX.joinP (()) (S5 I I I I I) (by refine (Sc ?_ (S0 _)) <;> ((refine ai rfl ?_; (try dsimp only); (simp [*]; done)))) ?_ (fun _ h => h))))); (try dsimp only); done
   ·refine Km I (Km I (Yh I (Yq I (Nn (WX.joinP (()) (S5 I I I I I) (by refine (Sc ?_ (S0 _)) <;> ((refine ai rfl ?_; (try dsimp only); (exact Ag.2 (by omega))))) ?_ (fun _ h => h)))))); (try dsimp only); done
  ·rintro _ hmeet; (try dsimp only at hmeet ⊢); refine Ci I (fun hc21 => ?_) (fun hc21 => ?_)
   ·have hn : bL 1 l n = false := by rw [← he, Ap hc21]; rfl
    refine Cs (Ka I (Nt (Ce (Xb (Xf (Xb (Xb (Xf (Xb ?_))))))))); exact R1 I I (by rw [hn]; rfl)
   ·have hy2 := Ah.1 hc21; refine Ck (Xa (Cg (Km I (Ka I (Nn (Xd (Xa (Cg (Kq I (Rz I I I (by omega)) (Km I (Nn (Ly ((i + 1, y)) (by (try dsimp only); omega) (S3 I I I) (by refine (Sc ?_ (Sc ?_ (S0 _))) <;> (rfl)) ?_ (fun _ h => h))))))))))))); (try dsimp only); exact ⟨hil, by rw [← he, Aq hy2]; rfl⟩
 ·refine Cx (Xc (Xc (Xe ?_)))
  obtain rfl : i = l.length := by omega
  have hn : bL 1 l n = true := by rw [← he, List.drop_length]; rfl
  refine Xa (Cs (Ka I (Nt (Ce ?_))))
  exact R1 I I (by rw [hn]; rfl)
theorem qN {x : Bs} {w : World} :
  Cw 56 #[.string (S x)] w (zV (ngN x)) := by
 refine En [] [(0, .string (S x))] Tryz.func56 I Tryz.ntmps56 I (Ac I (An _)) Fn (Cs (Kh I (Oz [.bool false, .string (S [])] I) ?_))
 intro b2
 refine Nt (Cs (Km I (Kc I (fun w hS => df (a := x)) (Kc I (fun w hS => tY (x := aA x)) (Nu I I (Sa I I I .tc) (Nt (Ce ?_)))))))
 exact Rn I (.agg I .tc u37 I (by kernel_rfl) .nil) fun w' hS => ⟨by rfl, hS.below⟩
theorem xn {p : PR} {i : Nat} {w : World} :
  Cw 61 #[prV p, .int .i64 (i : Int)] w (.string (S (lim p i))) := by
 refine En [] [(0, prV p), (1, .int .i64 (i : Int))] Tryz.func61 I Tryz.ntmps61 I (Ac I (Ac I (An _))) Fn (Cs (Kh I (Oy I I) ?_))
 intro b2
 refine Ka I (Nt (Cq (Cs (Km I (Nt (Cb (Cs (Yi I (Ka I (Nt (Ci I (fun hc6 => ?_) (fun hc6 => ?_))))))))))))
 ·refine Cs (Kq I (Fa (q := 0) I I u97 I I) (Kf 10 I u30 I I I .tc u22 ?_))
  refine Ka I (Nt (Ce (Xf (Xb ?_))))
  exact R1 I I (by rw [lim, Ab (by omega)]; rfl)
 ·refine Cs (Yi I (Ka I (Nt (Ci I (fun hc11 => ?_) (fun hc11 => ?_)))))
  ·refine Cs (Kq I (Fa (q := 0) I I u97 I I) (Kf 12 I u30 I I I .tc u22 ?_)); refine Ka I (Nt (Ce (Xf (Xb ?_)))); exact R1 I I (by rw [lim, Aa (by omega), Ab (by omega)]; rfl)
  ·refine Ck (Xd (Xa (Cs (Kq I (Fa (q := 0) I I u97 I I) (Kf 11 I u30 I I I .tc u22 ?_))))); refine Ka I (Nt (Ce ?_)); exact R1 I I (by rw [lim, Aa (by omega), Aa (by omega)]; rfl)
theorem pe {p : PR} : okR p ↔ ∀ x ∈ ff p, okN x := by
 rw [nO]
 constructor <;> (intro h x hx; apply h; simp [lz, ff, pk4] at hx ⊢; rcases hx with rfl | rfl | rfl | rfl | rfl | rfl | rfl | rfl | rfl | rfl | rfl | rfl | rfl | rfl | rfl | rfl | rfl <;> simp)
theorem p5 {p : PR} {w : World} (hm8 : p.mn.1.1.length ≤ 8) :
  Cw 69 #[prV p] w (.int .i64 (cR p)) := by
 refine En [] [(0, prV p)] Tryz.func69 I Tryz.ntmps69 I (Ac I (An _)) Fn (Cs (Kh I (Oy I I) ?_))
 intro b1
 refine Ka I (Nt (Cs (Kq I (lda I I .tc u30 I ?_) ?_)))
 ·kernel_rfl
 refine Kh I (Oc I I (fQ fun w hS => uG)) ?_
 intro g11
 refine WL.pu ?_
 intro hg11; (try dsimp only at hg11 ⊢)
 refine Ka I (Nt (Cq (Cs (Ka I (Nt (Cb (Lp (σ := Nat) [(1, _), (3, _)] (fun gq => [(4, .int .i64 (gq : Int))]) (fun gq => gq ≤ (ff p).length ∧ ∀ x ∈ (ff p).take gq, okN x) (fun gq => (ff p).length - gq) (0) (S2 I I) (S1 I) (by (try dsimp only); exact ⟨Aj _, by simp⟩) ?_)))))))
 rintro i hinv1; (try dsimp only at hinv1 ⊢)
 obtain ⟨hi, hok⟩ := hinv1
 refine Cq (Cs (Km I (Km I (Yo I u31 (Yl I (Nt (Ci I (fun hc15 => ?_) (fun hc15 => ?_))))))))
 ·have hil : i < (ff p).length := by show i < 17; omega
  obtain ⟨y, hy⟩ : ∃ y, Keep (y = (ff p).getD i default) := ⟨_, rfl⟩
  refine Ck (Xa (Cq (Cb (Cs (Km I (Km I (Kq I (Ib I I I u31 (by omega) (by (rw [Af]; omega))) ?_)))))))
  refine Kq I (ldm I I u22 I (by assumption)) ?_
  refine Ns 21 I (v' := .string (S (y))) (congrArg (fun l => Value.string (S l)) (by rw [show y = _ from hy])) ?_
  refine Kc I (fun w hS => av (a := y)) (Yt I (Nt (Ci I (fun hc23 => ?_) (fun hc23 => ?_))))
  ·have hyn : ¬ okN y := by simpa using hc23
   have hn : ¬ okR p := fun h => hyn (by rw [show y = _ from hy]; exact pe.1 h _ (ao (ff p) i hil))
   refine Cs (Ka I (Nt (Ce (Xf (Xb (Xb (Xf (Xb ?_)))))))); exact R1 I I (by rw [cR, Ab hn]; rfl)
  ·have hyy : okN y := by simpa using hc23
   refine Ck (Xd (Xa (Cg (Km I (Kq I (Rz I I I (by omega)) (Ka I (Nn (Ly (i + 1) (by (try dsimp only); omega) (S2 I I) (by refine (Sc ?_ (S0 _)) <;> (rfl)) ?_ (fun _ h => h))))))))); (try dsimp only); exact ⟨hil, az hil hok (by rw [← show y = _ from hy]; exact hyy)⟩
 ·refine Cx (Xc (Xc (Xe ?_)))
  obtain rfl : i = (ff p).length := by show i = 17; have h17 : i ≤ 17 := hi; omega
  rw [Ao] at hok
  have hokR : okR p := pe.2 hok
  have hB8 : 8 < Big := A1 (by decide) fF
  have hz : p.mn.1.2 = [] → ¬ bf p.mn.1 = 0 := fun h h0 => by
   unfold bf at h0; rw [h] at h0; split at h0
   ·simp at h0
   ·split at h0
    ·simp at h0
    ·split at h0
     ·simp at h0
     ·split at h0
      ·simp at h0
      ·rw [show isP (val []) = false from rfl] at h0; simp at h0
  have hu1 : ¬ p.wh.1.2 = [] → ¬ ed p.wh.1 p.wh.2.1 := fun h h0 => h h0.1.1.2.1
  have hu2 : ¬ val p.wh.1.1 % 2 = 1 → ¬ ed p.wh.1 p.wh.2.1 := fun h h0 => h h0.1.1.2.2.1
  have hu3 : ¬ 8 < val p.wh.1.1 → ¬ ed p.wh.1 p.wh.2.1 := fun h h0 => h h0.1.1.2.2.2
  have hw1 : okN p.wh.1.1 := hokR.2.2.1
  have hq : okN p.mn.1.2 := hokR.2.1.2.1
  have hqB := aF hq
  have h2B : okN (ae 2) := aq (by omega)
  have hch : okN p.ch := hokR.1 _ (by simp)
  have hsl : okN p.sl := hokR.1 _ (by simp)
  have hse : okN p.sec := hokR.1 _ (by simp)
  have hat : okN p.attr := hokR.1 _ (by simp)
  have hha : okN p.han := hokR.1 _ (by simp)
  have hlo : okN p.lo := hokR.1 _ (by simp)
  have hsz : okN p.sz := hokR.1 _ (by simp)
  have hbl : okN p.bl := hokR.1 _ (by simp)
  have hmk : okN p.msk := hokR.1 _ (by simp)
  have hmu : bO (ae 8) p.attr = if 8 * val p.attr < Big then (ae (8 * val p.attr), 0) else ([], 5) := by rw [bO, Ab ⟨aq hB8, hat⟩, af]
  refine Xa (Cq (WC.free (K := [⟨some b1, prC p, 30⟩]) (fs0 := []) [0, 1, 2, 6, 7, 8, 3, 4, 5] [9] [0, 0, 0, 0, 0, 0, 3, 3, 1, 2] (by kernel_rfl) (by kernel_rfl) I ?_))
  refine Kj I (Fa (q := 2) I I u30 I I) (Kj I (Fa (q := 2) I I u28 I I) ?_)
  refine Kj I (ldp I I .tc u26 I (by kernel_rfl : _ = some 2) (by rfl) (by rfl)) ?_
  refine Jf I I I I I (cm I (v := (.agg #[.string (S []), .string (S [])])) (cs := [.string (S []), .string (S [])]) (by kernel_rfl) I) ?_
  intro b5
  refine Jf I I I I I (cm I (v := (.agg #[.string (S []), .string (S [])])) (cs := [.string (S []), .string (S [])]) (by kernel_rfl) I) ?_
  intro b6
  refine WJ.st I I I I (ip I I I ?_ ?_ ?_) ?_
  ·kernel_rfl
  ·simp [Value.oneCell']
  ·rfl
  refine Kj I (Fa (q := 6) I I u30 I I) (Kj I (Fa (q := 6) I I u28 I I) ?_)
  refine Kj I (ldp I I .tc u26 I (by kernel_rfl : _ = some 2) (by rfl) (by rfl)) ?_
  refine WJ.nil ?_
  refine Nu I I (Sa I I I .tc) (Nt (Cq (WC.joinP (σ := Unit) [(1, _), (5, _), (6, _)] (fun gq => [(53, .bool (decide (¬ (bf p.mn.1 = 0 ∧ jP p.mn.1 p.mn.2.1 ∧ jP p.mn.1 p.mn.2.2))))]) (fun gq => True) (S3 I I I) ?_ ?_)))
  ·skip
   refine Cg (Kf 1 I u26 I I I .tc u22 ?_); refine Ys I (Km I (Nc 33 I (fun hg33 => ?_) (fun hg33 => ?_)))
   ·refine T2 I (Kt I (Yp I (Km I (T4 I (T2 I (Yp I (Km I (T4 I (T2 I (Yp I (Nn (WX.joinP (()) (S3 I I I) (by refine (Sc ?_ (S0 _)) <;> ((refine ai rfl ?_; (try dsimp only); (simp [*]; done)))) ?_ (fun _ h => h))))))))))))); (try dsimp only); done
   ·refine Kq I (lda I I .tc u26 I ?_) ?_
    ·kernel_rfl
    refine Kc I (fun w hS => xI (g := p.mn.1)) (Yj I (Yq I (Km I (Nc 38 I (fun hg38 => ?_) (fun hg38 => ?_)))))
    ·refine T4 I (T2 I (Yp I (Km I (T4 I (T2 I (Yp I (Nn (WX.joinP (()) (S3 I I I) (by refine (Sc ?_ (S0 _)) <;> ((refine ai rfl ?_; (try dsimp only); (simp [*]; done)))) ?_ (fun _ h => h))))))))); (try dsimp only); done
    ·refine Kq I (lda I I .tc u26 I ?_) ?_
     ·kernel_rfl
     refine Kq I (Fa (q := 2) I I u30 I I) (Kf 4 I u28 I I I .tc u22 ?_); refine Kc I (fun w hS => q8 (g := p.mn.1) (x := p.mn.2.1) (by assumption)) (Yt I (Yq I (Km I (Nc 46 I (fun hg46 => ?_) (fun hg46 => ?_)))))
     ·refine T4 I (T2 I (Yp I (Nn (WX.joinP (()) (S3 I I I) (by refine (Sc ?_ (S0 _)) <;> ((refine ai rfl ?_; (try dsimp only); (simp [*]; done)))) ?_ (fun _ h => h))))); (try dsimp only); done
     ·refine Kq I (lda I I .tc u26 I ?_) ?_
      ·kernel_rfl
      refine Kq I (Fa (q := 2) I I u30 I I) (Kf 5 I u28 I I I .tc u22 ?_); refine Kc I (fun w hS => q8 (g := p.mn.1) (x := p.mn.2.2) (by assumption)) (Yt I (Yq I (Nn (WX.joinP (()) (S3 I I I) (by refine (Sc ?_ (S0 _)) <;> ((refine ai rfl ?_; (try dsimp only); (simp [*]; done)))) ?_ (fun _ h => h))))); (try dsimp only); done
  ·rintro _ hmeet; (try dsimp only at hmeet ⊢); refine Ci I (fun hc53 => ?_) (fun hc53 => ?_)
   ·refine Cs (Ka I (Nt (Ce (Xb ?_)))); exact R1 I I (by rw [cR, Aa (fun h => h hokR), Ab (fun h : pl p => hc53 ⟨h.1, h.2.1, h.2.2.1⟩)]; rfl)
   ·have hg1 := Ah.1 hc53; refine Ck (Xa (Cq (WC.joinP (σ := Unit) [(1, _), (5, _)] (fun gq => [(85, .bool (decide (¬ (ed p.wh.1 p.wh.2.1 ∧ ed p.wh.1 p.wh.2.2))))]) (fun gq => True) (S2 I I) ?_ ?_)))
    ·skip
     refine Cf [0, 1, 2, 3, 4, 5, 6, 7, 8, 9, 10, 11, 12, 13, 14, 15, 16, 17, 18, 19, 20, 21, 22, 23, 24, 25, 26, 27, 28, 29, 30, 31] [] [0, 0, 0, 0, 0, 0, 1, 0, 0, 0, 1, 0, 0, 1, 0, 0, 0, 0, 0, 0, 0, 1, 0, 0, 0, 0, 0, 0, 0, 1, 0, 0] (by kernel_rfl) (by kernel_rfl) I ?_; refine Kj I (Fa (q := 1) I I u26 I I) (Kj I (Ld I I .tc u22) ?_); refine Kj I (ny I I I) (Kj I (Rm I I) ?_); refine WJ.bool 57 I (fun hg57 => ?_) (fun hg57 => ?_)
     ·(try simp only [sB] at hg57); refine Js I I I I (Js I I I I (Js I I I I (Js I I I I (Kj I (Rp I I I) (Kj I (Rm I I) (Js I I I I (Js I I I I (Js I I I I (Js I I I I (Js I I I I (Kj I (Rp I I I) (Kj I (Rm I I) (Js I I I I (Js I I I I (Js I I I I (Js I I I I (Js I I I I (Js I I I I (Kj I (Rp I I I) (Kj I (Rm I I) (Js I I I I (Js I I I I (Js I I I I (Js I I I I (Js I I I I (Js I I I I (Kj I (Rp I I I) ?_))))))))))))))))))))))))))); refine WJ.nil ?_; refine Nn (WX.joinP (()) (S2 I I) (by refine (Sc ?_ (S0 _)) <;> ((refine ai rfl ?_; (try dsimp only); (simp [*]; done)))) ?_ (fun _ h => h)); (try dsimp only); done
     ·(try simp only [sB] at hg57); refine Kj I (Fa (q := 0) I I u26 I I) (Kj I (Ld I I .tc u22) ?_); refine Jv I I I I I (fun ext => Oc I I (Kv fun w hS => qc (a := p.wh.1.1) (i := 0) (by omega))) ?_; refine WJ.set 60 I (v' := .bool (decide (val p.wh.1.1 % 2 = 1))) (congrArg Value.bool (by exact kx hw1)) ?_; refine Kj I (Rt I I) (Kj I (Rq I I I) (Kj I (Rm I I) ?_)); refine WJ.bool 63 I (fun hg63 => ?_) (fun hg63 => ?_)
      ·(try simp only [sB] at hg63); refine Js I I I I (Js I I I I (Js I I I I (Js I I I I (Js I I I I (Kj I (Rp I I I) (Kj I (Rm I I) (Js I I I I (Js I I I I (Js I I I I (Js I I I I (Js I I I I (Js I I I I (Kj I (Rp I I I) (Kj I (Rm I I) (Js I I I I (Js I I I I (Js I I I I (Js I I I I (Js I I I I (Js I I I I (Kj I (Rp I I I) ?_))))))))))))))))))))); refine WJ.nil ?_; refine Nn (WX.joinP (()) (S2 I I) (by refine (Sc ?_ (S0 _)) <;> ((refine ai rfl ?_; (try dsimp only); (simp [*]; done)))) ?_ (fun _ h => h)); (try dsimp only); done
      ·(try simp only [sB] at hg63); refine Jv I I I I I (fun ext => Oc I I (Kv fun w hS => ew (n := 8) (by omega))) ?_; refine Kj I (Fa (q := 0) I I u26 I I) (Kj I (Ld I I .tc u22) ?_); refine Jv I I I I I (fun ext => Oc I I (Kv fun w hS => co (a := ae 8) (b := p.wh.1.1))) ?_; refine WJ.set 67 I (v' := .bool (decide (8 < val p.wh.1.1))) (congrArg Value.bool (by rw [aD (aq hB8) hw1, af]; exact Ag.2 (ax _ _))) ?_; refine Kj I (Rt I I) (Kj I (Rq I I I) (Kj I (Rm I I) ?_)); refine WJ.bool 70 I (fun hg70 => ?_) (fun hg70 => ?_)
       ·(try simp only [sB] at hg70); refine Js I I I I (Js I I I I (Js I I I I (Js I I I I (Js I I I I (Js I I I I (Kj I (Rp I I I) (Kj I (Rm I I) (Js I I I I (Js I I I I (Js I I I I (Js I I I I (Js I I I I (Js I I I I (Kj I (Rp I I I) ?_)))))))))))))); refine WJ.nil ?_; refine Nn (WX.joinP (()) (S2 I I) (by refine (Sc ?_ (S0 _)) <;> ((refine ai rfl ?_; (try dsimp only); (simp [*]; done)))) ?_ (fun _ h => h)); (try dsimp only); done
       ·(try simp only [sB] at hg70); refine Kj I (lda I I .tc u26 I ?_) ?_
        ·kernel_rfl
        refine Kj I (Fa (q := 6) I I u30 I I) (Kj I (Fa (q := 8) I I u28 I I) (Kj I (Ld I I .tc u22) ?_)); refine Jv I I I I I (fun ext => Oc I I (Kv fun w hS => qU (g := p.wh.1) (x := p.wh.2.1))) ?_; refine Kj I (Rt I I) (Kj I (Rq I I I) (Kj I (Rm I I) ?_)); refine WJ.bool 78 I (fun hg78 => ?_) (fun hg78 => ?_)
        ·(try simp only [sB] at hg78); refine Js I I I I (Js I I I I (Js I I I I (Js I I I I (Js I I I I (Js I I I I (Kj I (Rp I I I) ?_)))))); refine WJ.nil ?_; refine Nn (WX.joinP (()) (S2 I I) (by refine (Sc ?_ (S0 _)) <;> ((refine ai rfl ?_; (try dsimp only); (simp [*]; done)))) ?_ (fun _ h => h)); (try dsimp only); done
        ·(try simp only [sB] at hg78); refine Kj I (lda I I .tc u26 I ?_) ?_
         ·kernel_rfl
         refine Kj I (Fa (q := 6) I I u30 I I) (Kj I (Fa (q := 9) I I u28 I I) (Kj I (Ld I I .tc u22) ?_)); refine Jv I I I I I (fun ext => Oc I I (Kv fun w hS => qU (g := p.wh.1) (x := p.wh.2.2))) ?_; refine Kj I (Rt I I) (Kj I (Rq I I I) ?_); refine WJ.nil ?_; refine Nn (WX.joinP (()) (S2 I I) (by refine (Sc ?_ (S0 _)) <;> ((refine ai rfl ?_; (try dsimp only); (simp [*]; done)))) ?_ (fun _ h => h)); (try dsimp only); done
    ·rintro _ hmeet; (try dsimp only at hmeet ⊢); refine Ci I (fun hc85 => ?_) (fun hc85 => ?_)
     ·refine Cs (Ka I (Nt (Ce (Xb ?_)))); exact R1 I I (by rw [cR, Aa (fun h => h hokR), Ab (fun h : pl p => hc85 ⟨h.2.2.2.1, h.2.2.2.2⟩)]; rfl)
     ·have hg2 := Ah.1 hc85; have hgr : pl p := ⟨hg1.1, hg1.2.1, hg1.2.2, hg2.1, hg2.2⟩; refine Ck (Xa (Cs (Kc I (fun w hS => ew (n := 2) (by omega)) (Ka I (Nt (Cq (Cf [0, 1, 2, 3, 4, 5, 6, 7, 8] [] [1, 0, 0, 1, 0, 0, 0, 0, 0] (by kernel_rfl) (by kernel_rfl) I ?_))))))); refine Jv I I I I I (fun ext => Oc I I (Kv fun w hS => ew (n := 8) (by omega))) ?_; refine Kj I (Fa (q := 11) I I u30 I I) (Kj I (Ld I I .tc u22) ?_); refine Jv I I I I I (fun ext => Oc I I (Kv fun w hS => nx (a := ae 8) (b := p.attr))) ?_; refine Kj I (Rm I I) (Kj I (Re I I I) (Kj I (Re I I I) (Kj I (Ra I I) (Kj I (Ra I I) ?_)))); refine WJ.nil ?_; refine Nt (Cq (WC.joinP (σ := Unit) [(1, _), (7, _)] (fun gq => [(142, .bool (decide (¬ (2 ≤ val p.ch ∧ val p.ch ≤ val p.mn.1.2 ∧ 2 ≤ val p.sl ∧ 2 ≤ val p.sec ∧ val p.sec ≤ val p.mn.1.2 ∧ 2 ≤ val p.attr ∧ 8 * val p.attr ≤ val p.mn.1.2))))]) (fun gq => True) (S2 I I) ?_ ?_))
      ·skip
       refine Cg (Kq I (Fa (q := 0) I I u30 I I) (Kf 0 I u24 I I I .tc u22 ?_)); refine Km I (Kc I (fun w hS => co (a := p.ch) (b := ae 2)) (Ns 98 I (v' := .bool (decide (val p.ch < 2))) (congrArg Value.bool (by rw [aD hch h2B, af]; exact Ag.2 (ax _ _))) ?_)); refine Km I (Nc 99 I (fun hg99 => ?_) (fun hg99 => ?_))
       ·refine T4 I (T2 I (Yp I (Km I (T4 I (Kt I (Yp I (Km I (T4 I (Yp I (Km I (T4 I (Kt I (Yp I (Km I (T4 I (Yp I (Km I (T2 I (Yp I (Km I (T4 I (Yp I (Nn (WX.joinP (()) (S2 I I) (by refine (Sc ?_ (S0 _)) <;> ((refine ai rfl ?_; (try dsimp only); (simp [*]; done)))) ?_ (fun _ h => h))))))))))))))))))))))))); (try dsimp only); done
       ·refine Kf 1 I u26 I I I .tc u22 ?_; refine Kq I (Fa (q := 0) I I u30 I I) (Kf 0 I u24 I I I .tc u22 ?_); refine Kc I (fun w hS => co (a := p.mn.1.2) (b := p.ch)) (Ns 105 I (v' := .bool (decide (val p.mn.1.2 < val p.ch))) (congrArg Value.bool (by rw [aD hq hch]; exact Ag.2 (ax _ _))) ?_); refine Yq I (Km I (Nc 107 I (fun hg107 => ?_) (fun hg107 => ?_)))
        ·refine T4 I (Kt I (Yp I (Km I (T4 I (Yp I (Km I (T4 I (Kt I (Yp I (Km I (T4 I (Yp I (Km I (T2 I (Yp I (Km I (T4 I (Yp I (Nn (WX.joinP (()) (S2 I I) (by refine (Sc ?_ (S0 _)) <;> ((refine ai rfl ?_; (try dsimp only); (simp [*]; done)))) ?_ (fun _ h => h))))))))))))))))))))); (try dsimp only); done
        ·refine Kq I (Fa (q := 0) I I u30 I I) (Kf 1 I u24 I I I .tc u22 ?_); refine Km I (Kc I (fun w hS => co (a := p.sl) (b := ae 2)) (Ns 112 I (v' := .bool (decide (val p.sl < 2))) (congrArg Value.bool (by rw [aD hsl h2B, af]; exact Ag.2 (ax _ _))) ?_)); refine Yq I (Km I (Nc 114 I (fun hg114 => ?_) (fun hg114 => ?_)))
         ·refine T4 I (Yp I (Km I (T4 I (Kt I (Yp I (Km I (T4 I (Yp I (Km I (T2 I (Yp I (Km I (T4 I (Yp I (Nn (WX.joinP (()) (S2 I I) (by refine (Sc ?_ (S0 _)) <;> ((refine ai rfl ?_; (try dsimp only); (simp [*]; done)))) ?_ (fun _ h => h))))))))))))))))); (try dsimp only); done
         ·refine Kf 10 I u30 I I I .tc u22 ?_; refine Km I (Kc I (fun w hS => co (a := p.sec) (b := ae 2)) (Ns 118 I (v' := .bool (decide (val p.sec < 2))) (congrArg Value.bool (by rw [aD hse h2B, af]; exact Ag.2 (ax _ _))) ?_)); refine Yq I (Km I (Nc 120 I (fun hg120 => ?_) (fun hg120 => ?_)))
          ·refine T4 I (Kt I (Yp I (Km I (T4 I (Yp I (Km I (T2 I (Yp I (Km I (T4 I (Yp I (Nn (WX.joinP (()) (S2 I I) (by refine (Sc ?_ (S0 _)) <;> ((refine ai rfl ?_; (try dsimp only); (simp [*]; done)))) ?_ (fun _ h => h)))))))))))))); (try dsimp only); done
          ·refine Kf 1 I u26 I I I .tc u22 ?_; refine Kf 10 I u30 I I I .tc u22 ?_; refine Kc I (fun w hS => co (a := p.mn.1.2) (b := p.sec)) (Ns 125 I (v' := .bool (decide (val p.mn.1.2 < val p.sec))) (congrArg Value.bool (by rw [aD hq hse]; exact Ag.2 (ax _ _))) ?_); refine Yq I (Km I (Nc 127 I (fun hg127 => ?_) (fun hg127 => ?_)))
           ·refine T4 I (Yp I (Km I (T2 I (Yp I (Km I (T4 I (Yp I (Nn (WX.joinP (()) (S2 I I) (by refine (Sc ?_ (S0 _)) <;> ((refine ai rfl ?_; (try dsimp only); (simp [*]; done)))) ?_ (fun _ h => h)))))))))); (try dsimp only); done
           ·refine Kf 11 I u30 I I I .tc u22 ?_; refine Km I (Kc I (fun w hS => co (a := p.attr) (b := ae 2)) (Ns 131 I (v' := .bool (decide (val p.attr < 2))) (congrArg Value.bool (by rw [aD hat h2B, af]; exact Ag.2 (ax _ _))) ?_)); refine Yq I (Km I (Nc 133 I (fun hg133 => ?_) (fun hg133 => ?_)))
            ·refine T2 I (Yp I (Km I (T4 I (Yp I (Nn (WX.joinP (()) (S2 I I) (by refine (Sc ?_ (S0 _)) <;> ((refine ai rfl ?_; (try dsimp only); (simp [*]; done)))) ?_ (fun _ h => h))))))); (try dsimp only); done
            ·refine Km I (Yj I (Ns 135 I (v' := .bool (decide (Big ≤ 8 * val p.attr))) (congrArg Value.bool (by rw [hmu]; split <;> simp <;> omega)) ?_)); refine Yq I (Km I (Nc 137 I (fun hg137 => ?_) (fun hg137 => ?_)))
             ·refine T4 I (Yp I (Nn (WX.joinP (()) (S2 I I) (by refine (Sc ?_ (S0 _)) <;> ((exact congrArg (fun b => some (Value.bool b)) (by symm; apply Aq; omega)))) ?_ (fun _ h => h)))); (try dsimp only); done
             ·refine Kf 1 I u26 I I I .tc u22 ?_; refine Km I (Kc I (fun w hS => co (a := p.mn.1.2) (b := (bO (ae 8) p.attr).1)) (Ns 141 I (v' := .bool (decide (val p.mn.1.2 < 8 * val p.attr))) (congrArg Value.bool (by rw [hmu, Ab (by omega), aD hq (aq (by omega)), af]; exact Ag.2 (ax _ _))) ?_)); refine Yq I (Nn (WX.joinP (()) (S2 I I) (by refine (Sc ?_ (S0 _)) <;> ((refine ai rfl ?_; (try dsimp only); (exact Ag.2 (by omega))))) ?_ (fun _ h => h))); (try dsimp only); done
      ·rintro _ hmeet; (try dsimp only at hmeet ⊢); refine Ci I (fun hc142 => ?_) (fun hc142 => ?_)
       ·refine Cs (Ka I (Nt (Ce (Xb ?_)))); exact R1 I I (by rw [cR, Aa (fun h => h hokR), Aa (fun h => h hgr), Ab (fun h : oW p => hc142 ⟨h.1 _ (by simp), h.2.2.1, h.1 _ (by simp), h.1 _ (by simp), h.2.2.2, h.1 _ (by simp), h.2.1⟩)]; rfl)
       ·obtain ⟨r1, r2, r3, r4, r5, r6, r7⟩ := Ah.1 hc142; refine Ck (Xa (Cq (WC.joinP (σ := Unit) [] (fun gq => [(170, .bool (decide (¬ (2 ≤ val p.han ∧ 2 ≤ val p.lo ∧ 2 ≤ val p.sz ∧ 2 ≤ val p.bl ∧ 2 ≤ val p.msk))))]) (fun gq => True) (S0 _) ?_ ?_)))
        ·skip
         refine Cg (Kf 12 I u30 I I I .tc u22 ?_); refine Km I (Kc I (fun w hS => co (a := p.han) (b := ae 2)) (Ns 146 I (v' := .bool (decide (val p.han < 2))) (congrArg Value.bool (by rw [aD hha h2B, af]; exact Ag.2 (ax _ _))) ?_)); refine Km I (Nc 147 I (fun hg147 => ?_) (fun hg147 => ?_))
         ·refine T4 I (Yp I (Km I (T4 I (Yp I (Km I (T4 I (Yp I (Km I (T4 I (Yp I (Nn (WX.joinP (()) (S0 _) (by refine (Sc ?_ (S0 _)) <;> ((refine ai rfl ?_; (try dsimp only); (simp [*]; done)))) ?_ (fun _ h => h))))))))))))); (try dsimp only); done
         ·refine Kf 13 I u30 I I I .tc u22 ?_; refine Km I (Kc I (fun w hS => co (a := p.lo) (b := ae 2)) (Ns 151 I (v' := .bool (decide (val p.lo < 2))) (congrArg Value.bool (by rw [aD hlo h2B, af]; exact Ag.2 (ax _ _))) ?_)); refine Yq I (Km I (Nc 153 I (fun hg153 => ?_) (fun hg153 => ?_)))
          ·refine T4 I (Yp I (Km I (T4 I (Yp I (Km I (T4 I (Yp I (Nn (WX.joinP (()) (S0 _) (by refine (Sc ?_ (S0 _)) <;> ((refine ai rfl ?_; (try dsimp only); (simp [*]; done)))) ?_ (fun _ h => h)))))))))); (try dsimp only); done
          ·refine Kf 14 I u30 I I I .tc u22 ?_; refine Km I (Kc I (fun w hS => co (a := p.sz) (b := ae 2)) (Ns 157 I (v' := .bool (decide (val p.sz < 2))) (congrArg Value.bool (by rw [aD hsz h2B, af]; exact Ag.2 (ax _ _))) ?_)); refine Yq I (Km I (Nc 159 I (fun hg159 => ?_) (fun hg159 => ?_)))
           ·refine T4 I (Yp I (Km I (T4 I (Yp I (Nn (WX.joinP (()) (S0 _) (by refine (Sc ?_ (S0 _)) <;> ((refine ai rfl ?_; (try dsimp only); (simp [*]; done)))) ?_ (fun _ h => h))))))); (try dsimp only); done
           ·refine Kf 15 I u30 I I I .tc u22 ?_; refine Km I (Kc I (fun w hS => co (a := p.bl) (b := ae 2)) (Ns 163 I (v' := .bool (decide (val p.bl < 2))) (congrArg Value.bool (by rw [aD hbl h2B, af]; exact Ag.2 (ax _ _))) ?_)); refine Yq I (Km I (Nc 165 I (fun hg165 => ?_) (fun hg165 => ?_)))
            ·refine T4 I (Yp I (Nn (WX.joinP (()) (S0 _) (by refine (Sc ?_ (S0 _)) <;> ((refine ai rfl ?_; (try dsimp only); (simp [*]; done)))) ?_ (fun _ h => h)))); (try dsimp only); done
            ·refine Kf 16 I u30 I I I .tc u22 ?_; refine Km I (Kc I (fun w hS => co (a := p.msk) (b := ae 2)) (Ns 169 I (v' := .bool (decide (val p.msk < 2))) (congrArg Value.bool (by rw [aD hmk h2B, af]; exact Ag.2 (ax _ _))) ?_)); refine Yq I (Nn (WX.joinP (()) (S0 _) (by refine (Sc ?_ (S0 _)) <;> ((refine ai rfl ?_; (try dsimp only); (exact Ag.2 (by omega))))) ?_ (fun _ h => h))); (try dsimp only); done
        ·rintro _ hmeet; (try dsimp only at hmeet ⊢); refine Ci I (fun hc170 => ?_) (fun hc170 => ?_)
         ·refine Cs (Ka I (Nt (Ce (Xb ?_)))); exact R1 I I (by rw [cR, Aa (fun h => h hokR), Aa (fun h => h hgr), Ab (fun h : oW p => hc170 ⟨h.1 _ (by simp), h.1 _ (by simp), h.1 _ (by simp), h.1 _ (by simp), h.1 _ (by simp)⟩)]; rfl)
         ·obtain ⟨r8, r9, r10, r11, r12⟩ := Ah.1 hc170; have hrg : oW p := ⟨fun x hx => by simp at hx; rcases hx with rfl | rfl | rfl | rfl | rfl | rfl | rfl | rfl | rfl <;> assumption, r7, r2, r5⟩; refine Ck (Xa (Cs (Ka I (Nt (Ce ?_))))); exact R1 I I (by rw [cR, Aa (fun h => h hokR), Aa (fun h => h hgr), Aa (fun h => h hrg)]; rfl)
theorem o0 {k : IK} {a : Option Addr} {c : Nat} {w : World} {ok : Nat → Prop} (hF1 : (Fact.sl a (ak k.r)).holds ok w) (hl : k.r.length ≤ 100000) :
  Calls Tryz.prog 35 #[ikV k (.slice a k.r.length c)] w fun e w' => ∃ g : Rs, e = .returned (g.val (3 + k.r.length)) ∧ g.cap = 3 + k.r.length + g.sp.length ∧ St (fun _ => True) w [g.ent (ak ([k.z, k.u, k.h] ++ k.r)) 22] [] w' := by
 refine En [Fact.sl a (ak k.r)] [(0, ikV k (.slice a k.r.length c))] Tryz.func35 I Tryz.ntmps35 I (Ac I (An _)) (Fc (ah hF1) Fn) (Cs (Kh I (Oy I I) ?_))
 intro b1
 refine Ka I (Nt (Cs (Kf 3 I u33 I I I .tc u22 ?_)))
 refine Kf 6 I u33 I I I .tc u22 ?_
 refine Kf 7 I u33 I I I .tc u22 ?_
 refine Kh I (aQ I I u31 (by kernel_rfl : _ = some (some (.string (S [])), 1, 16)) I (by simp only [List.map]; rfl) I I ?_ (by decide)) ?_
 ·simp [Value.cells]
 intro b10
 refine Ka I (Nt (Cs (Km I (Kf 5 I u33 I I I .tc u31 ?_))))
 refine Kh I (DW I u31 (by kernel_rfl : _ = some (some (.string (S [])), 1, 16)) I .tc I I (fun w hS => by (exact hS.sl)) (by simp) (by (refine ⟨?_, ?_, ?_, ?_⟩ <;> (try simp) <;> omega)) (by (simp [Value.oneCell']; done))) ?_
 rintro ⟨o14, c14, s14⟩
 refine WL.pu ?_
 intro hg14; (try dsimp only at hg14 ⊢)
 refine Ka I (Nt (Ce ?_))
 exact Rn I (.tmp I .nil) fun w' hS => ⟨⟨o14, c14, s14⟩, by simp [Rs.val, tup], by simpa using hg14, by show St _ _ [⟨o14, [Value.string (S k.z), .string (S k.u), .string (S k.h)] ++ ak k.r ++ s14, _⟩] _ _; exact ar _ hS⟩
abbrev rlK (k : IK) : List Bs := [k.g.1, k.g.2, k.s] ++ ([k.z, k.u, k.h] ++ k.r)
theorem uH (k : IK) : (∀ x ∈ rlK k, okN x) ↔ ((okN k.g.1 ∧ okN k.g.2) ∧ ∀ x ∈ bsK k, okN x) := by
 simp [rlK, bsK]; constructor
 ·rintro ⟨h1, h2, h3, h4, h5, h6, h7⟩; exact ⟨⟨h1, h2⟩, h3, h4, h5, h6, h7⟩
 ·rintro ⟨⟨h1, h2⟩, h3, h4, h5, h6, h7⟩; exact ⟨h1, h2, h3, h4, h5, h6, h7⟩
theorem uI (k : IK) : (∀ x ∈ (rlK k).drop 2, elG k.g x) ↔ ∀ x ∈ bsK k, elG k.g x := by simp [rlK, bsK]
theorem tR {l : List Bs} {j : Nat} {Q : Bs → Prop} (hj : j < l.length) (h2 : 2 ≤ j) (h : ∀ x ∈ (l.take j).drop 2, Q x) (hq : Q (l.getD j default)) : ∀ x ∈ (l.take (j + 1)).drop 2, Q x := by
 intro x hx
 rw [Bw, List.drop_append_of_le_length (by rw [Bo]; omega)] at hx
 rcases Ca.1 hx with hx | hx
 ·exact h x hx
 ·rw [Ad hj] at hx
  simp at hx; subst hx
  simpa [List.getD, hj] using hq
theorem sP {p : PR} {k : IK} {a : Option Addr} {c : Nat} {w : World} {ok : Nat → Prop} (hF1 : (Fact.sl a (ak k.r)).holds ok w) (hm8 : p.mn.1.1.length ≤ 8) (hk8 : k.g.1.length ≤ 8) (hl : k.r.length ≤ 100000) (hnl : k.name.length ≤ 140737488351232) :
  Cw 48 #[prV p, ikV k (.slice a k.r.length c)] w (.int .i64 (cd p k)) := by
 have hrl : (rlK k).length = 6 + k.r.length := by simp [rlK]; omega
 refine En [Fact.sl a (ak k.r)] [(0, prV p), (1, ikV k (.slice a k.r.length c))] Tryz.func48 I Tryz.ntmps48 I (Ac I (Ac I (An _))) (Fc (ah hF1) Fn) (Cs (Kh I (Oy I I) ?_))
 intro b2
 refine Kh I (Oy I I) ?_
 intro b3
 refine Ka I (Nt (Cq (Cs (Kq I (lda I I .tc u30 I ?_) ?_))))
 ·kernel_rfl
 refine Kc I (fun w hS => p5 (p := p) (by assumption)) (Ka I (Nt (Cs (Km I (Yj I (Nt (Ci I (fun hc12 => ?_) (fun hc12 => ?_))))))))
 ·refine Cs (Km I (Ka I (Nt (Ce (Xb ?_)))))
  exact R1 I I (by rw [cd, Ab (by simpa using hc12)]; rfl)
 ·have h0 : cR p = 0 := by simpa using hc12
  refine Ck (Xa (Cq (Cf [9, 10, 0, 1, 2, 3, 4, 5, 6, 7, 8, 11, 12] [] [0, 0, 0, 0, 0, 0, 0, 0, 3, 0, 1, 1, 0] (by kernel_rfl) (by kernel_rfl) I ?_)))
  refine Kj I (lda I I .tc u33 I ?_) ?_
  ·kernel_rfl
  refine Jg I I I I I (fun ext => Oc I I (fQ fun w hS => o0 (k := k) (by (exact hS.sl)) (by assumption))) ?_
  intro g24 hg24; (try dsimp only at hg24 ⊢)
  refine Kj I (Fa (q := 1) I I u33 I I) (Kj I (Fa (q := 1) I I u26 I I) (Kj I (Ld I I .tc u22) ?_))
  refine Kj I (Fa (q := 1) I I u33 I I) (Kj I (Fa (q := 2) I I u26 I I) (Kj I (Ld I I .tc u22) ?_))
  refine Kj I (Fa (q := 4) I I u33 I I) (Kj I (Ld I I .tc u22) ?_)
  refine Jf I I I I I (jQ I I u31 (by kernel_rfl : _ = some (some (.string (S [])), 1, 16)) I (by simp only [List.map]; rfl) I I ?_ (by decide)) ?_
  ·simp [Value.cells]
  intro b22
  refine Jg I I I I I (zh I u31 (by kernel_rfl : _ = some (some (.string (S [])), 1, 16)) I .tc I I (fun ext w hS => by (exact hS.sl)) (by simp; omega) (by (refine ⟨?_, ?_, ?_, ?_⟩ <;> (try simp) <;> omega)) (by (simp [Value.oneCell']; done))) ?_
  rintro ⟨o25, c25, s25⟩ hg25; (try dsimp only at hg25 ⊢)
  refine WJ.set 25 I (v' := .slice (o25.map fun b => ⟨b, 0, none⟩) (rlK k).length c25) (by congr 1; omega) ?_
  refine Kj I (Ra I I) ?_
  refine WJ.nil ?_
  refine Nt (Cq (Cs (WL.st (fun w h => BU (xs := ak (rlK k)) (sp := s25) h) ?_)))
  refine Ka I (Nt (Cb (Lp (σ := Nat) [(3, _), (6, _)] (fun gq => [(7, .int .i64 (gq : Int))]) (fun gq => gq ≤ (rlK k).length ∧ ∀ x ∈ (rlK k).take gq, okN x) (fun gq => (rlK k).length - gq) (0) (S2 I I) (S1 I) (by (try dsimp only); exact ⟨Aj _, by simp⟩) ?_)))
  rintro i hinv1; (try dsimp only at hinv1 ⊢)
  obtain ⟨hi, hok⟩ := hinv1
  refine Cq (Cs (Km I (Km I (Yo I u31 (Yl I (Nt (Ci I (fun hc29 => ?_) (fun hc29 => ?_))))))))
  ·have hil : i < (rlK k).length := by omega
   refine Ck (Xa (Cq (Cb (Cs (Km I (Km I (Kq I (Ib I I I u31 (by omega) (by (rw [Af]; omega))) ?_))))))); refine Kq I (ldm I I u22 I (by assumption)) ?_; refine Kc I (fun w hS => av (a := (rlK k).getD i default)) (Yt I (Nt (Ci I (fun hc37 => ?_) (fun hc37 => ?_))))
   ·have hn : ¬ ((okN k.g.1 ∧ okN k.g.2) ∧ ∀ x ∈ bsK k, okN x) := fun h => (by simpa using hc37 : ¬ okN ((rlK k).getD i default)) ((uH k).2 h _ (ao (rlK k) i hil))
    refine Cs (Ka I (Nt (Ce (Xf (Xb (Xb (Xf (Xb ?_)))))))); exact R1 I I (by rw [cd, Aa (fun h => h h0), Ab hn]; rfl)
   ·have hyy : okN ((rlK k).getD i default) := by simpa using hc37
    refine Ck (Xd (Xa (Cg (Km I (Kq I (Rz I I I (by omega)) (Ka I (Nn (Ly (i + 1) (by (try dsimp only); omega) (S2 I I) (by refine (Sc ?_ (S0 _)) <;> (rfl)) ?_ (fun _ h => h))))))))); (try dsimp only); exact ⟨hil, az hil hok hyy⟩
  ·refine Cx (Xc (Xc (Xe ?_))); obtain rfl : i = (rlK k).length := by omega
   rw [Ao] at hok; have hok2 := (uH k).1 hok; refine Xa (Cq (Cs (Kf 0 I u33 I I I .tc u9 ?_))); refine Kc I (fun w hS => xD (s := k.name) (by assumption)) (Yt I (Nt (Ci I (fun hc41 => ?_) (fun hc41 => ?_))))
   ·refine Cs (Ka I (Nt (Ce (Xb ?_)))); exact R1 I I (by rw [cd, Aa (fun h => h h0), Aa (fun h => h hok2), Ab (by simpa using hc41)]; rfl)
   ·have hnm : eO k.name := by simpa using hc41
    refine Ck (Xa (Cq (WC.joinP (σ := Unit) [(3, _), (6, _)] (fun gq => [(51, .bool (decide (k.g.2 ≠ [] ∨ bc k.g ≠ 0)))]) (fun gq => True) (S2 I I) ?_ ?_)))
    ·skip
     refine Cg (Kq I (Fa (q := 1) I I u33 I I) (Kf 2 I u26 I I I .tc u22 ?_)); refine Yr I (Km I (Nc 46 I (fun hg46 => ?_) (fun hg46 => ?_)))
     ·refine T4 I (Yp I (Nn (WX.joinP (()) (S2 I I) (by refine (Sc ?_ (S0 _)) <;> ((refine ai rfl ?_; (try dsimp only); (simp [*]; done)))) ?_ (fun _ h => h)))); (try dsimp only); done
     ·refine Kq I (Fa (q := 1) I I u33 I I) (Kq I (ldp I I .tc u26 I (by kernel_rfl : _ = some 2) (by rfl) (by rfl)) ?_); refine Kc I (fun w hS => jC (g := k.g)) (Yj I (Yq I (Nn (WX.joinP (()) (S2 I I) (by refine (Sc ?_ (S0 _)) <;> ((refine ai rfl ?_; (try dsimp only); (simp [*]; done)))) ?_ (fun _ h => h))))); (try dsimp only); done
    ·rintro _ hmeet; (try dsimp only at hmeet ⊢); refine Ci I (fun hc51 => ?_) (fun hc51 => ?_)
     ·refine Cs (Ka I (Nt (Ce (Xb ?_)))); exact R1 I I (by rw [cd, Aa (fun h => h h0), Aa (fun h => h hok2), Aa (fun h => h hnm), Ab hc51]; rfl)
     ·have hcg : bc k.g = 0 := Ay fun h => hc51 (Or.inr h)
      refine Ck (Xa (Cq (WC.joinP (σ := Unit) [(3, _), (6, _)] (fun gq => [(61, .bool (decide (k.r.length < 2 ∨ 18 < k.r.length)))]) (fun gq => True) (S2 I I) ?_ ?_)))
      ·skip
       refine Cg (Kf 5 I u33 I I I .tc u31 ?_); refine Yo I u31 (Yl I (Km I (Nc 56 I (fun hg56 => ?_) (fun hg56 => ?_))))
       ·refine T4 I (Yp I (Nn (WX.joinP (()) (S2 I I) (by refine (Sc ?_ (S0 _)) <;> ((exact congrArg (fun b => some (Value.bool b)) (by symm; apply Aq; omega)))) ?_ (fun _ h => h)))); (try dsimp only); done
       ·refine Kf 5 I u33 I I I .tc u31 ?_; refine Yo I u31 (Yg I (Yq I (Nn (WX.joinP (()) (S2 I I) (by refine (Sc ?_ (S0 _)) <;> ((refine ai rfl ?_; (try dsimp only); (exact Ag.2 (by omega))))) ?_ (fun _ h => h))))); (try dsimp only); done
      ·rintro _ hmeet; (try dsimp only at hmeet ⊢); refine Ci I (fun hc61 => ?_) (fun hc61 => ?_)
       ·refine Cs (Ka I (Nt (Ce (Xb ?_)))); exact R1 I I (by rw [cd, Aa (fun h => h h0), Aa (fun h => h hok2), Aa (fun h => h hnm), Aa hc51, Ab hc61]; rfl)
       ·refine Ck (Xa (Cq (Cs (Kf 4 I u33 I I I .tc u22 ?_)))); refine Ys I (Nt (Ci I (fun hc64 => ?_) (fun hc64 => ?_)))
        ·refine Cs (Ka I (Nt (Ce (Xb ?_)))); exact R1 I I (by rw [cd, Aa (fun h => h h0), Aa (fun h => h hok2), Aa (fun h => h hnm), Aa hc51, Aa hc61, Ab (fun h => h.2 (by simpa [bX] using hc64))]; rfl)
        ·have hs1 : k.s ≠ ae 1 := by simpa [bX] using hc64
         refine Ck (Xa (Cq (Cs (Ka I (Nt (Cb (Lp (σ := Nat) [(3, _), (6, _)] (fun gq => [(8, .int .i64 (gq : Int))]) (fun gq => 2 ≤ gq ∧ gq ≤ (rlK k).length ∧ ∀ x ∈ ((rlK k).take gq).drop 2, elG k.g x) (fun gq => (rlK k).length - gq) (2) (S2 I I) (S1 I) (by (try dsimp only); exact ⟨Bj _, by omega, by simp [rlK]⟩) ?_))))))); rintro j hinv2; (try dsimp only at hinv2 ⊢); obtain ⟨hj2, hj, hel⟩ := hinv2; refine Cq (Cs (Km I (Km I (Yo I u31 (Yl I (Nt (Ci I (fun hc68 => ?_) (fun hc68 => ?_))))))))
         ·have hjl : j < (rlK k).length := by omega
          refine Ck (Xa (Cq (Cb (Cq (Cf [0, 1, 2, 3, 4, 5, 6, 7] [] [0, 0, 0, 0, 0, 0, 1, 0] (by kernel_rfl) (by kernel_rfl) I ?_))))); refine Kj I (Fa (q := 1) I I u33 I I) ?_; refine Kj I (ldp I I .tc u26 I (by kernel_rfl : _ = some 2) (by rfl) (by rfl)) ?_; refine Kj I (Rm I I) (Kj I (Rm I I) ?_); refine Kj I (Ib I I I u31 (by omega) (by (rw [Af]; omega))) ?_; refine Kj I (ldm I I u22 I (by assumption)) ?_; refine Jv I I I I I (fun ext => Oc I I (Kv fun w hS => q7 (g := k.g) (x := (rlK k).getD j default) (by assumption))) ?_; refine WJ.set 77 I (v' := .bool (decide (elG k.g ((rlK k).getD j default)))) (congrArg Value.bool (by simp [hcg])) ?_; refine Kj I (Rt I I) ?_; refine WJ.nil ?_; refine Nt (Ci I (fun hc78 => ?_) (fun hc78 => ?_))
          ·have hn : ¬ ((∀ x ∈ bsK k, elG k.g x) ∧ k.s ≠ ae 1) := fun h => (by simpa using hc78 : ¬ elG k.g ((rlK k).getD j default)) (by
            have hd := (uI k).2 h.1; refine hd _ ?_; obtain ⟨m, rfl⟩ : ∃ m, j = m + 2 := ⟨j - 2, by omega⟩; have he : (rlK k).getD (m + 2) default = ((rlK k).drop 2).getD m default := rfl; rw [he]
            exact ao _ _ (by rw [Cu]; omega))
           refine Cs (Ka I (Nt (Ce (Xf (Xb (Xb (Xf (Xb ?_)))))))); exact R1 I I (by rw [cd, Aa (fun h => h h0), Aa (fun h => h hok2), Aa (fun h => h hnm), Aa hc51, Aa hc61, Ab hn]; rfl)
          ·have hyy : elG k.g ((rlK k).getD j default) := by simpa using hc78
           refine Ck (Xd (Xa (Cg (Km I (Kq I (Rz I I I (by omega)) (Ka I (Nn (Ly (j + 1) (by (try dsimp only); omega) (S2 I I) (by refine (Sc ?_ (S0 _)) <;> (rfl)) ?_ (fun _ h => h))))))))); (try dsimp only); exact ⟨by omega, hjl, tR hjl hj2 hel hyy⟩
         ·refine Cx (Xc (Xc (Xe ?_))); obtain rfl : j = (rlK k).length := by omega
          rw [Ao] at hel; refine Xa (Cs (Ka I (Nt (Ce ?_)))); exact R1 I I (by rw [cd, Aa (fun h => h h0), Aa (fun h => h hok2), Aa (fun h => h hnm), Aa hc51, Aa hc61, Aa (fun h => h ⟨(uI k).1 hel, hs1⟩)]; rfl)
theorem CU {l : List Bs} {a : Option Addr} {c : Nat} {fk : FuncId} {cs : Array Value} {p : Bs → Bool} {w : World} {ok : Nat → Prop} (hF1 : (Fact.sl a (ak l)).holds ok w) (hl : l.length ≤ 10000000) (hgo : fg Tryz.prog fk = true) (hfn : ∀ x ∈ l, ∀ w', Below w.heap.size w w' → Calls Tryz.prog fk (#[.string (S x)] ++ cs) w' fun e w2 => e = .returned (.bool (p x)) ∧ Below w'.heap.size w' w2) :
  Cw 81 #[.slice a l.length c, .func (.func fk) #[] cs] w (.int .i64 (ixP p l)) := by
 refine En [Fact.sl a (ak l)] [(0, .slice a l.length c), (1, .func (.func fk) #[] cs)] Tryz.func81 I Tryz.ntmps81 I (Ac I (Ac I (An _))) (Fc (ah hF1) Fn) (Cs (Ka I (Nt (Cq (Cs (Km I (Yo I u31 (Km I (Nt (Cb (Lp (σ := Nat) [(0, _), (1, _), (7, _)] (fun gq => [(8, .int .i64 (gq : Int))]) (fun gq => gq ≤ l.length ∧ ∀ x ∈ l.take gq, p x = false) (fun gq => l.length - gq) (0) (S3 I I I) (S1 I) (by (try dsimp only); exact ⟨Aj _, by simp⟩) ?_)))))))))))
 rintro i hinv1; (try dsimp only at hinv1 ⊢)
 obtain ⟨hi, hok⟩ := hinv1
 refine Cs (Yl I (Nt (Cq (Ci I (fun hc9 => ?_) (fun hc9 => ?_)))))
 ·have hil : i < l.length := by omega
  refine Ck (Xa (Cq (Cb (Cs (Km I (Ka I (Nt (Cs (Km I (Km I (Km I (Kq I (Ib I I I u31 (by omega) (by (rw [Af]; omega))) ?_))))))))))))
  refine Kq I (ldm I I u22 I (by assumption)) ?_
  refine Ku I (aP I I I hgo (jR _ _) (Kv fun w hS => hfn (l.getD i default) (ao _ _ hil) w hS.below)) (Nt (Ci I (fun hc16 => ?_) (fun hc16 => ?_)))
  ·refine Cs (Km I (Ka I (Nt (Ce (Xf (Xb (Xb (Xf (Xb ?_))))))))); exact R1 I I (by rw [jO hil hok (by simpa using hc16)]; rfl)
  ·refine Ck (Xd (Xa (Cg (Kq I (Rz I I I (by omega)) (Km I (Nn (Ly (i + 1) (by (try dsimp only); omega) (S3 I I I) (by refine (Sc ?_ (S0 _)) <;> (rfl)) ?_ (fun _ h => h)))))))); (try dsimp only); exact ⟨hil, az hil hok (by simpa using hc16)⟩
 ·refine Cx (Xc (Xc (Xe ?_)))
  obtain rfl : i = l.length := by omega
  rw [Ao] at hok
  refine Xa (Cs (Ka I (Nt (Ce ?_))))
  exact R1 I I (by rw [fq hok]; rfl)
theorem zg {l : List Bs} {a : Option Addr} {c : Nat} {fk : FuncId} {cs : Array Value} {p : Bs → Bool} {w : World} {ok : Nat → Prop} (hF1 : (Fact.sl a (ak l)).holds ok w) (hl : l.length ≤ 10000000) (hgo : fg Tryz.prog fk = true) (hfn : ∀ x ∈ l, ∀ w', Below w.heap.size w w' → Calls Tryz.prog fk (#[.string (S x)] ++ cs) w' fun e w2 => e = .returned (.bool (p x)) ∧ Below w'.heap.size w' w2) :
  Cw 34 #[.slice a l.length c, .func (.func fk) #[] cs] w (.bool (l.any p)) := by
 refine En [Fact.sl a (ak l)] [(0, .slice a l.length c), (1, .func (.func fk) #[] cs)] Tryz.func34 I Tryz.ntmps34 I (Ac I (Ac I (An _))) (Fc (ah hF1) Fn) (Cs (Ka I (Nt (Cs (Km I (Km I (Kc I (fun w hS => CU (l := l) (a := a) (c := c) (fk := fk) (cs := cs) (p := p) (w := w) hS.sl hl hgo (fun x hx w' hb => hfn x hx w' (hS.below.trans (hb.mono hS.below.size)))) (Yh I (Ka I (Nt (Ce ?_)))))))))))
 exact R1 I I (by rw [dI]; rfl)
theorem vL {x : Bs} {w : World} :
  Cw 36 #[.string (S x)] w (.bool (decide ((x.length : Int) > 8))) := by
 refine En [] [(0, .string (S x))] Tryz.func36 I Tryz.ntmps36 I (Ac I (An _)) Fn (Cs (Ka I (Nt (Cs (Km I (Yn I u22 (Yg I (Ka I (Nt (Ce ?_))))))))))
 exact R1 I I (by rfl)
def fL (p : PR) (k : IK) : List Bs := ff p ++ [k.g.1, k.g.2, k.s] ++ ([k.z, k.u, k.h] ++ k.r)
theorem vN (p : PR) (k : IK) : (fL p k).length = 23 + k.r.length := by simp [fL, ff]; omega
theorem xi (p : PR) (k : IK) : ak (fL p k) = ak (ff p) ++ [.string (S k.g.1), .string (S k.g.2), .string (S k.s)] ++ ak ([k.z, k.u, k.h] ++ k.r) := by rw [fL, ← gk, ← gk]; rfl
def gM (p : PR) (k : IK) : Bool := decide ((k.r.length : Int) ≤ 8) && (decide ((k.name.length : Int) ≤ 60) && !((fL p k).any fun x => decide ((x.length : Int) > 8)))
theorem yo {p : PR} {k : IK} {a : Option Addr} {c : Nat} {w : World} {ok : Nat → Prop} (hF1 : (Fact.sl a (ak k.r)).holds ok w) (hl : k.r.length ≤ 1048576) :
  Cw 10 #[prV p, ikV k (.slice a k.r.length c)] w (.bool (gM p k)) := by
 refine En [Fact.sl a (ak k.r)] [(0, prV p), (1, ikV k (.slice a k.r.length c))] Tryz.func10 I Tryz.ntmps10 I (Ac I (Ac I (An _))) (Fc (ah hF1) Fn) (Cs (Kh I (Oy I I) ?_))
 intro b2
 refine Kh I (Oy I I) ?_
 intro b3
 refine Ka I (Nt (Cq (Cf [0, 1, 2, 3, 4, 5, 6, 7, 8, 9, 10, 11, 12] [] [0, 1, 0, 0, 0, 0, 0, 0, 0, 0, 3, 1, 0] (by kernel_rfl) (by kernel_rfl) I ?_)))
 refine Kj I (lda I I .tc u30 I ?_) ?_
 ·kernel_rfl
 refine Jg I I I I I (fun ext => Oc I I (vr fun w hS => uG (p := p))) ?_
 intro g7 hg7; (try dsimp only at hg7 ⊢)
 refine Kj I (Fa (q := 1) I I u33 I I) (Kj I (Fa (q := 1) I I u26 I I) (Kj I (Ld I I .tc u22) ?_))
 refine Kj I (Fa (q := 1) I I u33 I I) (Kj I (Fa (q := 2) I I u26 I I) (Kj I (Ld I I .tc u22) ?_))
 refine Kj I (Fa (q := 4) I I u33 I I) (Kj I (Ld I I .tc u22) ?_)
 refine Jf I I I I I (jQ I I u31 (by kernel_rfl : _ = some (some (.string (S [])), 1, 16)) I (by simp only [List.map]; rfl) I I ?_ (by decide)) ?_
 ·simp [Value.cells]
 intro b16
 refine Jg I I I I I (pD I u31 (by kernel_rfl : _ = some (some (.string (S [])), 1, 16)) I .tc I I (fun ext w hS => by (exact hS.os)) (by rfl) (by refine ⟨?_, ?_, ?_, ?_⟩ <;> (try simp [ff]) <;> omega) (by (simp [Value.oneCell']; done))) ?_
 rintro ⟨o17, c17, s17⟩ hg17; (try dsimp only at hg17 ⊢)
 refine Kj I (Ra I I) ?_
 refine WJ.nil ?_
 refine Nt (Cs (Kf 5 I u33 I I I .tc u31 ?_))
 refine Yo I u31 (Ym I (Km I (Nc 22 I (fun hg22 => ?_) (fun hg22 => ?_))))
 ·refine Kf 0 I u33 I I I .tc u9 ?_
  refine Yn I u9 (Ym I (Yp I (Km I (Nc 28 I (fun hg28 => ?_) (fun hg28 => ?_)))))
  ·refine Km I (Kq I (lda I I .tc u33 I ?_) ?_)
   ·kernel_rfl
   refine Kh I (Oc I I (fQ fun w hS => o0 (k := k) (by (exact hS.sl)) (by omega))) ?_; intro g31; refine WL.pu ?_; intro hg31; (try dsimp only at hg31 ⊢); refine Kh I (pE I u31 (by kernel_rfl : _ = some (some (.string (S [])), 1, 16)) I .tc I I (fun w hS => by (exact hS.sl)) (by simp; omega) (by refine ⟨?_, ?_, ?_, ?_⟩ <;> (try simp [ff]) <;> omega) (by (simp [Value.oneCell']; done))) ?_; rintro ⟨o32, c32, s32⟩; refine WL.pu ?_; intro hg32; (try dsimp only at hg32 ⊢); refine Ns 32 I (v' := .slice (o32.map fun b => ⟨b, 0, none⟩) (fL p k).length c32) (by rw [vN]; congr 1; omega) ?_; refine Kc I (fun w hS => zg (l := fL p k) (a := o32.map fun b => ⟨b, 0, none⟩) (c := c32) (fk := 36) (cs := #[]) (p := fun x => decide ((x.length : Int) > 8)) (w := w) (by rw [xi]; exact hS.oc) (by rw [vN]; omega) (by kernel_rfl) (fun x hx w' hb => vL (x := x))) (Yt I (Yp I (Ka I (Nt (Ce ?_))))); exact R1 I I (by (rw [gM, Aq hg22, Aq hg28, Dr, Dr]; rfl))
  ·refine T4 I (T2 I (Yq I (Ka I (Nt (Ce ?_))))); exact R1 I I (by (rw [gM, Ap (show ¬ (k.name.length : Int) ≤ 60 by omega), Bool.false_and, Bool.and_false]; rfl))
 ·refine T4 I (Yq I (Km I (T4 I (T2 I (Yq I (Ka I (Nt (Ce ?_))))))))
  exact R1 I I (by (rw [gM, Ap (show ¬ (k.r.length : Int) ≤ 8 by omega)]; rfl))
theorem pS {x : Bs} {w : World} :
  Cw 37 #[.string (S x)] w (.bool (decide ((x.length : Int) > 20))) := by
 refine En [] [(0, .string (S x))] Tryz.func37 I Tryz.ntmps37 I (Ac I (An _)) Fn (Cs (Ka I (Nt (Cs (Km I (Yn I u22 (Yg I (Ka I (Nt (Ce ?_))))))))))
 exact R1 I I (by rfl)
structure CS where
 sg : SG
 aa : Bs
 wv : Zs
 ms : List Bs
 d : List Int
 vs : List Bs
 ws : List Zs
 t : Tp
abbrev csC (q : CS) (m d v z x : Value) : List Value := [.string (S q.sg.a), .string (S q.sg.e), .string (S q.sg.v), .string (S q.aa), .bool q.wv.1, .string (S q.wv.2), m, d, v, z, x, .string (S q.t.seed), .int .i64 q.t.at_]
abbrev csV (q : CS) (m d v z x : Value) : Value := .agg #[.string (S q.sg.a), .string (S q.sg.e), .string (S q.sg.v), .string (S q.aa), .bool q.wv.1, .string (S q.wv.2), m, d, v, z, x, .string (S q.t.seed), .int .i64 q.t.at_]
abbrev zFs (w : World) (x : Zs) : Prop := x.2.length ≤ 140737488351232
def smL (q : CS) (i : Nat) : List Bs := [q.sg.a, q.sg.e, q.sg.v, q.aa, q.wv.2] ++ q.ms ++ q.vs ++ q.t.vals ++ (q.ws.take i).map (·.2)
theorem kp (q : CS) (i : Nat) (h : i ≤ q.ws.length) : (smL q i).length = 5 + q.ms.length + q.vs.length + q.t.vals.length + i := by simp [smL]; omega
theorem xl {q : CS} {i : Nat} (h : i < q.ws.length) : smL q (i + 1) = smL q i ++ [(q.ws.getD i default).2] := by
 rw [smL, smL, qF h, Cr, ← Ch]; rfl
theorem um {q : CS} {sp : List Value} : ak (smL q 0) ++ sp = [.string (S q.sg.a), .string (S q.sg.e), .string (S q.sg.v), .string (S q.aa), .string (S q.wv.2)] ++ ak q.ms ++ ak q.vs ++ ak q.t.vals ++ sp := by simp [smL, ak]
abbrev rZ (x : Bs) : Bool := decide ((x.length : Int) > 20)
def fJ (q : CS) : Prop := (q.ms.length : Int) ≤ 20 ∧ (q.d.length : Int) ≤ 20 ∧ (q.vs.length : Int) ≤ 20 ∧ (q.ws.length : Int) ≤ 20 ∧ (q.t.vals.length : Int) ≤ 20 ∧ (q.t.seed.length : Int) ≤ 60 ∧ (smL q q.ws.length).any rZ = false
instance (q : CS) : Decidable (fJ q) := inferInstanceAs (Decidable (_ ∧ _))
abbrev sm6 (q : CS) : Prop := (q.ms.length : Int) ≤ 20 ∧ (q.d.length : Int) ≤ 20 ∧ (q.vs.length : Int) ≤ 20 ∧ (q.ws.length : Int) ≤ 20 ∧ (q.t.vals.length : Int) ≤ 20 ∧ (q.t.seed.length : Int) ≤ 60
theorem Et {q : CS} (h : sm6 q) : Ending.returned (.bool (!(smL q q.ws.length).any rZ)) = Ending.returned (.bool (decide (fJ q))) := by
 obtain ⟨h1, h2, h3, h4, h5, h6⟩ := h
 cases h7 : (smL q q.ws.length).any rZ <;> simp only [fJ, h1, h2, h3, h4, h5, h6, h7, true_and] <;> rfl
theorem sI {q : CS} (h : ¬ sm6 q) : Ending.returned (.bool false) = Ending.returned (.bool (decide (fJ q))) := by
 rw [Ap fun g => h ⟨g.1, g.2.1, g.2.2.1, g.2.2.2.1, g.2.2.2.2.1, g.2.2.2.2.2.1⟩]
theorem sG {q : CS} {ma da va za xa : Option Addr} {mc dc vc zc' xc : Nat} {w : World} {ok : Nat → Prop} (hF1 : (Fact.sl ma (ak q.ms)).holds ok w) (hF2 : (Fact.sl da (dX q.d)).holds ok w) (hF3 : (Fact.sl va (ak q.vs)).holds ok w) (hF4 : (Fact.sl za (aY q.ws)).holds ok w) (hF5 : (Fact.sl xa (ak q.t.vals)).holds ok w) (hm : q.ms.length ≤ 1048576) (hd : q.d.length ≤ 1048576) (hv : q.vs.length ≤ 1048576) (hz : q.ws.length ≤ 1048576) (hx : q.t.vals.length ≤ 1048576) :
  Cw 11 #[csV q (.slice ma q.ms.length mc) (.slice da q.d.length dc) (.slice va q.vs.length vc) (.slice za q.ws.length zc') (.slice xa q.t.vals.length xc)] w (.bool (decide (fJ q))) := by
 refine En [Fact.sl ma (ak q.ms), Fact.sl da (dX q.d), Fact.sl va (ak q.vs), Fact.sl za (aY q.ws), Fact.sl xa (ak q.t.vals)] [(0, csV q (.slice ma q.ms.length mc) (.slice da q.d.length dc) (.slice va q.vs.length vc) (.slice za q.ws.length zc') (.slice xa q.t.vals.length xc))] Tryz.func11 I Tryz.ntmps11 I (Ac I (An _)) (Fc (ah hF1) (Fc (ah hF2) (Fc (ah hF3) (Fc (ah hF4) (Fc (ah hF5) Fn))))) (Cs (Kh I (Oy I I) ?_))
 intro b1
 refine Ka I (Nt (Cs (Kq I (Fa (q := 0) I I u43 I I) (Kf 0 I u35 I I I .tc u22 ?_))))
 refine Kq I (Fa (q := 0) I I u43 I I) (Kf 1 I u35 I I I .tc u22 ?_)
 refine Kq I (Fa (q := 0) I I u43 I I) (Kf 2 I u35 I I I .tc u22 ?_)
 refine Kf 3 I u43 I I I .tc u22 ?_
 refine Kq I (Fa (q := 4) I I u43 I I) (Kf 5 I u37 I I I .tc u22 ?_)
 refine Kh I (aQ I I u31 (by kernel_rfl : _ = some (some (.string (S [])), 1, 16)) I (by simp only [List.map]; rfl) I I ?_ (by decide)) ?_
 ·simp [Value.cells]
 intro b20
 refine Ka I (Nt (Cq (WC.free (K := [⟨some b1, csC q (.slice ma q.ms.length mc) (.slice da q.d.length dc) (.slice va q.vs.length vc) (.slice za q.ws.length zc') (.slice xa q.t.vals.length xc), 43⟩]) (fs0 := []) [0, 1, 2, 3, 4, 5, 6, 7, 8, 9, 10, 11] [] [0, 0, 0, 1, 0, 0, 1, 0, 0, 0, 1, 0] (by kernel_rfl) (by kernel_rfl) I ?_)))
 refine Kj I (Rm I I) (Kj I (Fa (q := 6) I I u43 I I) (Kj I (Ld I I .tc u31) ?_))
 refine Jg I I I I I (zh I u31 (by kernel_rfl : _ = some (some (.string (S [])), 1, 16)) I .tc I I (fun ext w hS => by (exact hS.sl)) (by simp) (by (refine ⟨?_, ?_, ?_, ?_⟩ <;> (try simp) <;> omega)) (by (simp [Value.oneCell']; done))) ?_
 rintro ⟨o24, c24, s24⟩ hg24; (try dsimp only at hg24 ⊢)
 refine Kj I (Fa (q := 8) I I u43 I I) (Kj I (Ld I I .tc u31) ?_)
 refine Jg I I I I I (pD I u31 (by kernel_rfl : _ = some (some (.string (S [])), 1, 16)) I .tc I I (fun ext w hS => by (exact hS.sl)) (by simp) (by (refine ⟨?_, ?_, ?_, ?_⟩ <;> (try simp) <;> omega)) (by (simp [Value.oneCell']; done))) ?_
 rintro ⟨o27, c27, s27⟩ hg27; (try dsimp only at hg27 ⊢)
 refine Kj I (Fa (q := 10) I I u43 I I) (Kj I (Fa (q := 10) I I u41 I I) (Kj I (Ld I I .tc u31) ?_))
 refine Jg I I I I I (pD I u31 (by kernel_rfl : _ = some (some (.string (S [])), 1, 16)) I .tc I I (fun ext w hS => by (exact hS.sl)) (by simp) (by (refine ⟨?_, ?_, ?_, ?_⟩ <;> (try simp) <;> omega)) (by (simp [Value.oneCell']; done))) ?_
 rintro ⟨o31, c31, s31⟩ hg31; (try dsimp only at hg31 ⊢)
 refine Kj I (Ra I I) ?_
 refine WJ.nil ?_
 refine Nt (Cq (Cs ?_))
 have hs0 := kp q 0 (Aj _)
 refine Ns 3 I (v' := .slice (o31.map fun b => ⟨b, 0, none⟩) (smL q 0).length c31) (by rw [hs0]; rfl) ?_
 refine Kf 9 I u43 I I I .tc u39 ?_
 refine Yo I u39 (Km I (Nt (Cb (Lo (σ := Nat × (Option Nat) × Nat × (List Value)) [(1, _), (33, _), (34, _)] (fun gq => [(3, .slice (gq.2.1.map fun b => ⟨b, 0, none⟩) (smL q gq.1).length gq.2.2.1), (35, .int .i64 (gq.1 : Int))]) (fun gq => gq.1 ≤ q.ws.length ∧ gq.2.2.1 = (smL q gq.1).length + gq.2.2.2.length) (fun gq => q.ws.length - gq.1) (fun gq => [⟨gq.2.1, ak (smL q gq.1) ++ gq.2.2.2, 22⟩, ⟨some b1, csC q (.slice ma q.ms.length mc) (.slice da q.d.length dc) (.slice va q.vs.length vc) (.slice za q.ws.length zc') (.slice xa q.t.vals.length xc), 43⟩]) (fun gq => [Fact.sl ma (ak q.ms), Fact.sl da (dX q.d), Fact.sl va (ak q.vs), Fact.sl za (aY q.ws), Fact.sl xa (ak q.t.vals)]) (0, o31, c31, s31) (S3 I I I) (S2 I I) (by (try dsimp only); exact ⟨Aj _, by omega⟩) (by exact fun w h => by rw [um]; exact ar _ h) ?_))))
 rintro ⟨i, o, cp, sp⟩ hinv1; (try dsimp only at hinv1 ⊢)
 obtain ⟨hi, hcp⟩ := hinv1
 refine Cs (Yl I (Nt (Cq (Ci I (fun hc36 => ?_) (fun hc36 => ?_)))))
 ·have hil : i < q.ws.length := by omega
  have hsl := kp q i hi
  have hsl' := kp q (i + 1) hil
  refine Ck (Xa (Cq (Cb (Cs (Kq I (Ia I I I u39 (by kernel_rfl : _ = some 2) (by omega) (by (rw [aj _ _ 2 (fun _ => rfl)]; omega))) ?_)))))
  refine Kq I (dx _ I I u37 I (by kernel_rfl : _ = some 2) (fun _ => rfl) (by decide) I (by assumption)) ?_
  refine Kh I (Oz [.bool false, .string (S [])] I) ?_
  intro b5
  refine Nu I I (Sa I I I .tc) (Nt (Cg (Km I (Kf 1 I u37 I I I .tc u22 ?_))))
  refine Kh I (aQ I I u31 (by kernel_rfl : _ = some (some (.string (S [])), 1, 16)) I (by simp only [List.map]; rfl) I I ?_ (by decide)) ?_
  ·simp [Value.cells]
  intro b42
  refine Kh I (pE I u31 (by kernel_rfl : _ = some (some (.string (S [])), 1, 16)) I .tc I I (fun w hS => by (exact hS.os)) (by rfl) (by (refine ⟨by simp, by omega, by omega, by omega⟩)) (by (simp [Value.oneCell']; done))) ?_
  rintro ⟨o43, c43, s43⟩
  refine WL.pu ?_
  intro hg43; (try dsimp only at hg43 ⊢)
  refine Ns 43 I (v' := .slice (o43.map fun b => ⟨b, 0, none⟩) (smL q (i + 1)).length c43) (by rw [hsl']; congr 1; omega) ?_
  refine Ka I (Nn (Xd (Xa (Cg (Kq I (Rz I I I (by omega)) (Km I (Nn (Lx ((i + 1, o43, c43, s43)) (by (try dsimp only); omega) (S3 I I I) (by refine (Sc ?_ (Sc ?_ (S0 _))) <;> (rfl)) ?_ (by exact fun w h => by dsimp only; rw [xl hil]; simp only [Cr, Cj, List.map_nil]; exact ar _ h)))))))))
  (try dsimp only)
  exact ⟨hil, by omega⟩
 ·refine Cx (Xc (Xc (Xe ?_)))
  obtain rfl : i = q.ws.length := by omega
  have hsl := kp q q.ws.length (Bj _)
  refine Xa (Cs (Kf 6 I u43 I I I .tc u31 ?_))
  refine Yo I u31 (Ym I (Km I (Nc 49 I (fun hg49 => ?_) (fun hg49 => ?_))))
  ·refine Kf 7 I u43 I I I .tc u38 ?_; refine Yo I u38 (Ym I (Yp I (Km I (Nc 55 I (fun hg55 => ?_) (fun hg55 => ?_)))))
   ·refine Kf 8 I u43 I I I .tc u31 ?_; refine Yo I u31 (Ym I (Yp I (Km I (Nc 61 I (fun hg61 => ?_) (fun hg61 => ?_)))))
    ·refine Kf 9 I u43 I I I .tc u39 ?_; refine Yo I u39 (Ym I (Yp I (Km I (Nc 67 I (fun hg67 => ?_) (fun hg67 => ?_)))))
     ·refine Kq I (Fa (q := 10) I I u43 I I) (Kf 10 I u41 I I I .tc u31 ?_); refine Yo I u31 (Ym I (Yp I (Km I (Nc 74 I (fun hg74 => ?_) (fun hg74 => ?_)))))
      ·refine Kq I (Fa (q := 10) I I u43 I I) (Kf 11 I u41 I I I .tc u9 ?_); refine Yn I u9 (Ym I (Yp I (Km I (Nc 81 I (fun hg81 => ?_) (fun hg81 => ?_)))))
       ·refine Km I (Kc I (fun w hS => zg (l := smL q q.ws.length) (a := o.map fun b => ⟨b, 0, none⟩) (c := cp) (fk := 37) (cs := #[]) (p := rZ) (w := w) hS.oc (by omega) (by kernel_rfl) (fun x hx w' hb => pS (x := x))) (Yt I (Yp I (Ka I (Nt (Ce ?_)))))); exact R1 I I (by (exact Et (by omega)))
       ·refine T2 I (Kt I (Yq I (Ka I (Nt (Ce ?_))))); exact R1 I I (by (exact sI (by omega)))
      ·refine T4 I (Kt I (Yq I (Km I (T2 I (Kt I (Yq I (Ka I (Nt (Ce ?_))))))))); exact R1 I I (by (exact sI (by omega)))
     ·refine T4 I (Kt I (Yq I (Km I (T4 I (Kt I (Yq I (Km I (T2 I (Kt I (Yq I (Ka I (Nt (Ce ?_))))))))))))); exact R1 I I (by (exact sI (by omega)))
    ·refine T4 I (Yq I (Km I (T4 I (Kt I (Yq I (Km I (T4 I (Kt I (Yq I (Km I (T2 I (Kt I (Yq I (Ka I (Nt (Ce ?_)))))))))))))))); exact R1 I I (by (exact sI (by omega)))
   ·refine T4 I (Yq I (Km I (T4 I (Yq I (Km I (T4 I (Kt I (Yq I (Km I (T4 I (Kt I (Yq I (Km I (T2 I (Kt I (Yq I (Ka I (Nt (Ce ?_))))))))))))))))))); exact R1 I I (by (exact sI (by omega)))
  ·refine T4 I (Yq I (Km I (T4 I (Yq I (Km I (T4 I (Yq I (Km I (T4 I (Kt I (Yq I (Km I (T4 I (Kt I (Yq I (Km I (T2 I (Kt I (Yq I (Ka I (Nt (Ce ?_)))))))))))))))))))))); exact R1 I I (by (exact sI (by omega)))
theorem wE : ∀ {d : List Int} {last n : Int}, bL last d n = true → d.Pairwise (· < ·)
 | [], _, _, _ => List.Pairwise.nil
 | x :: l, last, n, h => by
  rw [bL, Bt] at h
  exact List.Pairwise.cons (fun y hy => (eY h.2 y hy).1) (wE h.2)
def mj (d : List Int) (n i : Nat) : List Nat := (List.range' i (n - i)).filter fun q : Nat => !(d.contains (q : Int))
theorem vD (d : List Int) (n : Nat) : mj d n 0 = aR d n := by rw [mj, aR, List.range_eq_range', Cn]
theorem vC (d : List Int) (n : Nat) : mj d n n = [] := by rw [mj, C2]; rfl
theorem tj {d : List Int} {n i : Nat} (h : i < n) : mj d n i = (if d.contains (i : Int) then mj d n (i + 1) else i :: mj d n (i + 1)) := by
 rw [mj, show n - i = (n - (i + 1)) + 1 by omega, List.range'_succ, List.filter_cons]
 cases hc : d.contains (i : Int) <;> rfl
structure pJ (d : List Int) (i j : Nat) : Prop where
 le : j ≤ d.length
 lo : ∀ x ∈ d.take j, x < (i : Int)
 hi : ∀ x ∈ d.drop j, (i : Int) ≤ x
section
variable {d : List Int} {n i j : Nat}
theorem AX (hp : d.Pairwise (· < ·)) (h : pJ d i j) (hc : j < d.length ∧ d.getD j default = (i : Int)) : d.contains (i : Int) = true ∧ pJ d (i + 1) (j + 1) := by
 obtain ⟨h1, h2⟩ := hc
 have hd := ic h1
 have hpd : (d.drop j).Pairwise (· < ·) := hp.sublist (List.drop_sublist _ _)
 rw [hd, List.pairwise_cons] at hpd
 refine ⟨List.contains_iff_mem.2 (h2 ▸ ao d j h1), h1, fun x hx => ?_, fun x hx => ?_⟩
 ·rw [aL h1] at hx
  rcases Ca.1 hx with hx | hx
  ·have := h.lo x hx; omega
  ·have := List.mem_singleton.1 hx; omega
 ·have := hpd.1 x hx; omega
theorem yl (hp : d.Pairwise (· < ·)) (h : pJ d i j) (hc : ¬ (j < d.length ∧ d.getD j default = (i : Int))) : d.contains (i : Int) = false ∧ pJ d (i + 1) j := by
 have hgt : ∀ x ∈ d.drop j, (i : Int) < x := by
  intro x hx
  by_cases h1 : j < d.length
  ·have hd := ic h1; have hpd : (d.drop j).Pairwise (· < ·) := hp.sublist (List.drop_sublist _ _); rw [hd, List.pairwise_cons] at hpd; have h2 : d.getD j default ≠ (i : Int) := fun e => hc ⟨h1, e⟩
   have h3 := h.hi (d.getD j default) (by rw [hd]; exact Eb); rw [hd] at hx
   rcases At.1 hx with hx | hx
   ·omega
   ·have := hpd.1 x hx; omega
  ·rw [Dd (by omega)] at hx; cases hx
 refine ⟨?_, h.le, fun x hx => by have := h.lo x hx; omega, fun x hx => by have := hgt x hx; omega⟩
 cases hb : d.contains (i : Int)
 ·rfl
 ·exfalso
  have hm := List.contains_iff_mem.1 hb
  rw [← Ds j d] at hm
  rcases Ca.1 hm with hm | hm
  ·have := h.lo _ hm; omega
  ·have := hgt _ hm; omega
end
theorem n8 {d : List Int} {n x : Nat} {s l : List Nat} (h : s ++ x :: l = aR d n) : x < n ∧ s.length < n := by
 have h1 : x ∈ aR d n := by rw [← h]; simp
 have h2 := kF d n
 rw [← h, A2, Am] at h2
 exact ⟨jh h1, by omega⟩
instance (priority := low) SubL.apq {α : Type} (x y z : List α) [h : SubL x z] : SubL x (y ++ z) := ⟨h.h.trans (List.sublist_append_right _ _)⟩
theorem n4 {l : List Nat} : ∀ s : List Nat, itL (fun (s : List Nat) x => s ++ [x]) (fun _ _ => (none : Option Code)) l s = (s ++ l, none) := by
 induction l with
 | nil => intro s; simp [itL]
 | cons x l ih => intro s; rw [itL]; simp only [Option.isSome_none, Df, if_false]; rw [ih]; simp
theorem lH {a : Option Addr} {m c n : Nat} {own0 : List Ent} {ok : Nat → Prop} {w0 : World} {fs : List Fact} {w : World} (hS0 : St ok w0 (own0) (fs) w) :
  Calls Tryz.prog 60 #[.slice a m c, .int .i64 (n : Int)] w fun e w' => ∃ g : Nat × Nat, e = .returned (.func (.func 109) #[] #[.pointer (some ⟨g.2, 0, none⟩), .pointer (some ⟨g.1, 0, none⟩)]) ∧ St ok w0 (⟨some g.2, [.int .i64 (n : Int)], 3⟩ :: ⟨some g.1, [.slice a m c], 38⟩ :: own0) fs w' := by
 refine enter (S := St ok w0 (own0) (fs)) (L := [(0, .slice a m c), (1, .int .i64 (n : Int))]) Tryz.func60 rfl Tryz.ntmps60 rfl (Ac rfl (Ac rfl (An _))) hS0 ?_
 refine Cs (Kh I (Oy I I) ?_)
 intro b2
 refine Kh I (Oy I I) ?_
 intro b3
 refine Ka I (Nt (Cs (Kq I (dh I I I) (Ka I (Nt (Ce ?_))))))
 exact Rn I (.tmp I .nil) fun w' hS => ⟨(b2, b3), rfl, hS⟩
theorem vB {σ γ : Type} {CO : σ → γ → List Ent} {pg : σ → γ → Prop} {inv : σ → Nat → Prop} {after : σ → Nat → σ} {stop : σ → Nat → Option Code} {l : Nat} {r : Loop} {ok : Nat → Prop} {w0 : World} {fs : List Fact} {w : World} {d : List Int} {a : Option Addr} {c n b2 b3 : Nat} {s0 : σ} {J : List Nat → σ → Prop} [∀ s g, HasE (CO s g) b3 [.int .i64 (n : Int)] 3] [∀ s g, HasE (CO s g) b2 [.slice a d.length c] 38] [HasF fs a (dX d)] {g0 : γ} (hY : YOk Tryz.prog l r ok w0 fs CO pg inv after stop (fun y : Nat => #[Value.int .i64 (y : Int)])) (hS0 : St ok w0 (CO s0 g0) (Fact.lp l (rcd r none) :: fs) w) (hg0 : pg s0 g0) (hJ0 : J (aR d n) s0) (hJ : ∀ l x s, J (x :: l) s → inv s x ∧ (stop s x = none → J l (after s x))) (hasc : bL 1 d (n : Int) = true) (hl : d.length ≤ 140737488351232) (hn : n ≤ 140737488351232) :
  Calls Tryz.prog 109 #[.func (.yield l) #[] #[], .pointer (some ⟨b3, 0, none⟩), .pointer (some ⟨b2, 0, none⟩)] w fun e w' => (∃ v, e = .returned v) ∧ ∃ g', ((itL after stop (aR d n) s0).2 = none → pg ((itL after stop (aR d n) s0).1) g') ∧ St ok w0 (CO ((itL after stop (aR d n) s0).1) g') (Fact.lp l (rcd r ((itL after stop (aR d n) s0).2)) :: fs) w' := by
 have hpw := wE hasc
 refine enter (S := St ok w0 (CO s0 g0) (Fact.lp l (rcd r none) :: fs)) (L := [(0, .func (.yield l) #[] #[]), (1, .pointer (some ⟨b3, 0, none⟩)), (2, .pointer (some ⟨b2, 0, none⟩))]) Tryz.func109 rfl Tryz.ntmps109 rfl (Ac rfl (Ac rfl (Ac rfl (An _)))) hS0 ?_
 refine Cs (Ka I (Nt (Cs (Kq I (Ld I I .tc u3) ?_))))
 refine Km I (Nt (Cb (Lo (σ := Nat × Nat × σ × γ) [(0, _), (2, _), (6, _)] (fun gq => [(7, .int .i64 (gq.1 : Int)), (4, .int .i64 (gq.2.1 : Int))]) (fun gq => gq.1 ≤ n ∧ pJ d gq.1 gq.2.1 ∧ pg gq.2.2.1 gq.2.2.2 ∧ J (mj d n gq.1) gq.2.2.1 ∧ itL after stop (mj d n gq.1) gq.2.2.1 = itL after stop (aR d n) s0) (fun gq => n - gq.1) (fun gq => CO gq.2.2.1 gq.2.2.2) (fun gq => Fact.lp l (rcd r none) :: fs) (0, 0, s0, g0) (S3 I I I) (S2 I I) (by (try dsimp only); exact ⟨Aj _, ⟨Aj _, by simp, fun x hx => by have := (eY hasc x (List.mem_of_mem_drop hx)).1; omega⟩, hg0, by rw [vD]; exact hJ0, by rw [vD]⟩) (fun _ h => h) ?_)))
 rintro ⟨i, j, s, g⟩ hinv1; (try dsimp only at hinv1 ⊢)
 obtain ⟨hi, hat, hgs, hJs, hit⟩ := hinv1
 refine Cs (Yl I (Nt (Cq (Ci I (fun hc8 => ?_) (fun hc8 => ?_)))))
 ·have hil : i < n := by omega
  have hjl := hat.le
  rw [tj hil] at hit hJs
  refine Ck (Xa (Cq (Cb (Cs (Km I (Ka I (Nt (Cq (WC.joinP (σ := Unit) [(0, _), (2, _), (4, _), (5, _), (6, _), (7, _)] (fun gq => [(21, .bool (decide (j < d.length ∧ d.getD j default = (i : Int))))]) (fun gq => True) (S6 I I I I I I) ?_ ?_)))))))))
  ·skip
   refine Cg (Km I (Kq I (Ld I I .tc u38) ?_)); refine Yo I u38 (Yl I (Km I (Nc 14 I (fun hg14 => ?_) (fun hg14 => ?_))))
   ·refine Kq I (Ld I I .tc u38) ?_; refine Km I (Kq I (Ib I I I u38 (by omega) (by (rw [Af]; omega))) ?_); refine Kq I (ldm I I u3 I (by omega)) ?_; refine Km I (Yi I (Yp I (Nn (WX.joinP (()) (S6 I I I I I I) (by refine (Sc ?_ (S0 _)) <;> ((refine ai rfl ?_; (try dsimp only); (exact Ag.2 (by omega))))) ?_ (fun _ h => h))))); (try dsimp only); done
   ·refine T4 I (T2 I (Yq I (Nn (WX.joinP (()) (S6 I I I I I I) (by refine (Sc ?_ (S0 _)) <;> ((exact congrArg (fun b => some (Value.bool b)) (by symm; apply Ap; omega)))) ?_ (fun _ h => h))))); (try dsimp only); done
  ·rintro _ hmeet; (try dsimp only at hmeet ⊢); refine Ci I (fun hc21 => ?_) (fun hc21 => ?_)
   ·have hst := AX hpw hat hc21; rw [Ab hst.1] at hit hJs; refine Cs (Km I (Kq I (Rz I I I (by omega)) (Ka I (Nt (Cx (Xc (Xe (Xa (Cg (Kq I (Rz I I I (by omega)) (Km I (Nn (Lx ((i + 1, j + 1, s, g)) (by (try dsimp only); omega) (S3 I I I) (by refine (Sc ?_ (Sc ?_ (S0 _))) <;> (rfl)) ?_ (fun _ h => h)))))))))))))); (try dsimp only); exact ⟨by omega, hst.2, hgs, hJs, hit⟩
   ·have hst := yl hpw hat hc21; rw [Aa (by rw [hst.1]; decide)] at hit hJs; obtain ⟨hin, hJn⟩ := hJ _ _ _ hJs; refine Ck (Xa (Cs (Km I (Km I (Kh I (dS hY [] (i) I I I I (hin) (hgs)) ?_))))); intro gy; refine WL.pu ?_; intro hgy; (refine WL.app0 ?_); refine Yt I (Nt (Ci I (fun hc27 => ?_) (fun hc27 => ?_)))
    ·have hfin := ft hit (by simpa using hc27); refine Ce (Xf (Xb (Xb (Xf ?_)))); exact Rn I .nil fun w' hS => ⟨⟨_, rfl⟩, gy, by rw [hfin]; exact hgy, by rw [hfin]; dsimp only; exact ar _ hS⟩
    ·have hno := Dj.1 hc27; replace hit := fu hit hno; rw [hno]; refine Ck (Xd (Xa (Cg (Kq I (Rz I I I (by omega)) (Km I (Nn (Lx ((i + 1, j, after s i, gy)) (by (try dsimp only); omega) (S3 I I I) (by refine (Sc ?_ (Sc ?_ (S0 _))) <;> (rfl)) ?_ (fun _ h => h)))))))); (try dsimp only); exact ⟨by omega, hst.2, hgy hno, hJn hno, hit⟩
 ·refine Cx (Xc (Xc (Xe ?_)))
  obtain rfl : i = n := by omega
  have hfin : (s, none) = itL after stop (aR d i) s0 := by rw [← hit, vC]; rfl
  refine WX.ret_normal ?_
  exact Rn I .nil fun w' hS => ⟨⟨_, rfl⟩, g, fun _ => by rw [← hfin]; exact hgs, by rw [← hfin]; exact ar _ hS⟩
end Go.Proofs.YtkdlonihbjhhoaaGreatDoor
