/-
  Parts of the walk: Sht Shu Sha1 Rpc Rik ShaA Sha2.
-/
import Derived.Test.YtkdlonihbjhhoaaGreatDoorG18
namespace Go.Proofs.YtkdlonihbjhhoaaGreatDoor
open Go.RowKit
set_option linter.unusedSimpArgs false
set_option linter.unusedVariables false
set_option maxHeartbeats 600000
set_option maxRecDepth 20000
theorem xy {d : List Int} {n i : Nat} (h : i ∈ bQ d n) : i < n := by
 rw [bQ] at h; exact B8.1 (List.mem_filter.1 h).1
theorem xz (d : List Int) (n : Nat) : (bQ d n).length ≤ n := by
 rw [bQ]; exact Br (List.length_filter_le _ _) (by simp)
theorem AP {p : PR} {k : IK} (hN : bK p k = 0) {i : Nat} (hi : i < k.r.length) : elG k.g (rD k i) := by
 obtain ⟨_, _, _, _, _, _, _, hel⟩ := bC hN
 refine hel _ ?_
 rw [rD, List.getD_eq_getElem?_getD, Ad hi]
 simp
theorem zw {p : PR} (h : cr p = 0) (i : Nat) : okN (lim p i) ∧ 2 ≤ val (lim p i) := by
 obtain ⟨h1, _, h3⟩ := eG h
 unfold lim; split
 ·exact ⟨h1.1 _ (by simp), h3.1 _ (by simp)⟩
 ·split
  ·exact ⟨h1.1 _ (by simp), h3.1 _ (by simp)⟩
  ·exact ⟨h1.1 _ (by simp), h3.1 _ (by simp)⟩
section
variable {p : PR} {k : IK} {s : SG} {ms : List Bs} {t : Tp} {d : List Int}
end
section
variable {p : PR} {k : IK} {s : SG} {ms : List Bs} {t : Tp} {d : List Int}
end
abbrev sgV (s : SG) : Value := .agg #[.string (S s.a), .string (S s.e), .string (S s.v)]
abbrev DA (p : PR) (k : IK) (rv : Value) : Value := .agg #[.string (S p.ch), .string (S p.sl), .string (S p.mn.1.1), .string (S p.mn.1.2), .string (S p.mn.2.1), .string (S p.mn.2.2), .string (S p.wh.1.1), .string (S p.wh.1.2), .string (S p.wh.2.1), .string (S p.wh.2.2), .string (S p.sec), .string (S p.attr), .string (S p.han), .string (S p.lo), .string (S p.sz), .string (S p.bl), .string (S p.msk), .string (S k.name), .string (S k.g.1), .string (S k.g.2), .string (S k.z), .string (S k.s), rv, .string (S k.u), .string (S k.h)]
theorem pY {p : PR} {k : IK} {a : Option Addr} {c : Nat} {w : World} {ok : Nat → Prop} (hF1 : (Fact.sl a (an k.r)).holds ok w) (hm8 : p.mn.1.1.length ≤ 8) (hk8 : k.g.1.length ≤ 8) (hl : k.r.length ≤ 140737488351232) (hnl : k.name.length ≤ 140737488351232) (hD : TabD w) :
  Cw 39 #[prV p, ikV k (.slice a k.r.length c)] w (.tuple #[DA p k (.slice a k.r.length c), .int .i64 (bK p k)]) := by
 refine En [Fact.sl a (an k.r)] [(0, prV p), (1, ikV k (.slice a k.r.length c))] Tryz.func39 I Tryz.ntmps39 I (Ac I (Ac I (An _))) (Fc (ah hF1) Fn) (DO ?_)
 intro b2
 refine EW ?_
 intro b3
 refine DU ?_
 intro b4
 refine Ka I (Nt (Cq (Cf [4, 5, 6, 0, 1, 2, 3] [7, 8] [0, 0, 0, 0, 0, 0, 1, 2, 2] (by kernel_rfl) (by kernel_rfl) I ?_)))
 refine Kj I (lda I I .tc u30 I ?_) ?_
 ·kernel_rfl
 refine Kj I (lda I I .tc u33 I ?_) ?_
 ·kernel_rfl
 refine Jv I I I I I (fun ext => Oc I I (Kv fun w hS => uE (p := p) (k := k) (by (exact hS.sl)) (by assumption) (by assumption) (by assumption) (by assumption) (by (exact bh hD hS)))) ?_
 refine Kj I (lda I I .tc u30 I ?_) ?_
 ·kernel_rfl
 refine Kj I (Kb [[.string (S []), .string (S []), .string (S []), .string (S []), .string (S []), .string (S []), .string (S []), .string (S []), .string (S []), .string (S []), .string (S []), .string (S []), .string (S []), .string (S []), .string (S []), .string (S []), .string (S [])]] I I) ?_
 refine Kj I (lda I I .tc u33 I ?_) ?_
 ·kernel_rfl
 refine Kj I (Kb [[.string (S []), .string (S []), .string (S []), .string (S []), .string (S []), .string (S []), .string (S []), .string (S []), .string (S []), .string (S []), .string (S []), .string (S []), .string (S []), .string (S []), .string (S []), .string (S []), .string (S [])], [.string (S []), .string (S []), .string (S []), .string (S []), .string (S []), .slice none 0 0, .string (S []), .string (S [])]] I I) ?_
 refine WJ.nil ?_
 refine DQ ?_; refine to ?_
 exact Rn I (.agg I .tc u99 I (by kernel_rfl) (.tmp I .nil)) fun w' hS => ⟨by rfl, hS.below⟩
theorem io {l : List Bs} {a : Option Addr} {c : Nat} {w : World} {ok : Nat → Prop} (hF1 : (Fact.sl a (an l)).holds ok w) (hl : l.length ≤ 140737488351232) :
  Cw 40 #[.slice a l.length c] w (.bool (decide (∀ x ∈ l, okN x))) := by
 refine En [Fact.sl a (an l)] [(0, .slice a l.length c)] Tryz.func40 I Tryz.ntmps40 I (Ac I (An _)) (Fc (ah hF1) Fn) (Cs (DR ?_)); refine FW ?_; refine Lp (σ := Nat) [(5, _), (6, _)] (fun gq => [(7, .int .i64 (gq : Int))]) (fun gq => gq ≤ l.length ∧ ∀ x ∈ l.take gq, okN x) (fun gq => l.length - gq) (0) (S2 I I) (S1 I) (by (try dsimp only); exact ⟨Ai _, by simp⟩) ?_
 rintro i hinv1; (try dsimp only at hinv1 ⊢)
 obtain ⟨hi, hok⟩ := hinv1
 refine DP (fun hc8 => ?_) (fun hc8 => ?_)
 ·have hil : i < l.length := by omega
  refine E3 ?_; refine DZ ?_
  refine EI ?_
  refine DT ?_; refine Kc I (fun w hS => ay (a := l.getD i default)) (Eq (fun hc13 => ?_) (fun hc13 => ?_))
  ·have hn : ¬ ∀ x ∈ l, okN x := fun h => (by simpa using hc13 : ¬ okN (l.getD i default)) (h _ (ap l i hil))
   refine Cs (to ?_); refine DS ?_; exact GZ
  ·have hyy : okN (l.getD i default) := by simpa using hc13
   refine Ck (Xd (Xa (Cg (Kq I (Rz I I I (by omega)) (Km I (Nn (Ly (i + 1) (by (try dsimp only); omega) (S2 I I) (by refine (Sc ?_ (S0 _)) <;> (rfl)) ?_ (fun _ h => h)))))))); (try dsimp only); exact ⟨hil, az hil hok hyy⟩
 ·refine AT ?_
  obtain rfl : i = l.length := by omega
  rw [Ap] at hok
  refine Xa (Cs (to ?_))
  exact R1 I I (by rw [Am hok]; rfl)
abbrev fO (l : List Int) : List Value := l.map fun x => Value.int .i64 x
theorem jr {α : Type} [Inhabited α] {l : List α} {i : Nat} (h : i < l.length) : l.drop i = l.getD i default :: l.drop (i + 1) := by
 rw [Bo h, List.getD_eq_getElem?_getD, Ad h]; rfl
theorem p6 {l : List Int} {n : Int} {a : Option Addr} {c : Nat} {w : World} {ok : Nat → Prop} (hF1 : (Fact.sl a (fO l)).holds ok w) (hl : l.length ≤ 140737488351232) :
  Cw 55 #[.slice a l.length c, .int .i64 n] w (.bool (eu 1 l n)) := by
 refine En [Fact.sl a (fO l)] [(0, .slice a l.length c), (1, .int .i64 n)] Tryz.func55 I Tryz.ntmps55 I (Ac I (Ac I (An _))) (Fc (ah hF1) Fn) (Cs (Ka I (Nt (Cs (DR ?_))))); refine Yo I u38 (Km I (Nt (Cb (Lp (σ := Nat × Int) [(1, _), (8, _), (9, _)] (fun gq => [(10, .int .i64 (gq.1 : Int)), (5, .int .i64 gq.2)]) (fun gq => gq.1 ≤ l.length ∧ eu gq.2 (l.drop gq.1) n = eu 1 l n) (fun gq => l.length - gq.1) (0, 1) (S3 I I I) (S2 I I) (by (try dsimp only); exact ⟨Ai _, rfl⟩) ?_))))
 rintro ⟨i, last⟩ hinv1; (try dsimp only at hinv1 ⊢)
 obtain ⟨hi, he⟩ := hinv1
 refine DP (fun hc11 => ?_) (fun hc11 => ?_)
 ·have hil : i < l.length := by omega
  obtain ⟨y, hy⟩ : ∃ y, Keep (y = l.getD i default) := ⟨_, rfl⟩
  rw [jr hil, ← show y = _ from hy, eu] at he
  refine E3 ?_; refine Kq I (Ib I I I u38 (by omega) (by (rw [Ag]; omega))) ?_
  refine Kq I (ldm I I u3 I (by assumption)) ?_
  refine Ns 13 I (v' := .int .i64 (y)) (congrArg (Value.int .i64) (by rw [show y = _ from hy])) ?_
  refine Ka I (Nt (Cq (WC.joinP (σ := Unit) [(1, _), (7, _), (8, _), (9, _), (10, _)] (fun gq => [(21, .bool (decide (¬ (last < y ∧ y < n))))]) (fun gq => True) (S5 I I I I I) ?_ ?_)))
  ·skip
   refine Cg (Km I (Km I (Ym I (Km I (Nc 17 I (fun hg17 => ?_) (fun hg17 => ?_))))))
   ·refine T2 I (Kt I (Yp I (Nn (WX.joinP (()) (S5 I I I I I) (by refine (Sc ?_ (S0 _)) <;> ((refine ai rfl ?_; (try dsimp only); (simp [*]; done)))) ?_ (fun _ h => h))))); (try dsimp only); done
   ·refine Km I (Km I (Yh I (Yq I (Nn (WX.joinP (()) (S5 I I I I I) (by refine (Sc ?_ (S0 _)) <;> ((refine ai rfl ?_; (try dsimp only); (exact Af.2 (by omega))))) ?_ (fun _ h => h)))))); (try dsimp only); done
  ·rintro _ hmeet; (try dsimp only at hmeet ⊢); refine Ci I (fun hc21 => ?_) (fun hc21 => ?_)
   ·have hn : eu 1 l n = false := by rw [← he, Aq hc21]; rfl
    refine Cs (ne ?_); refine DS ?_; exact R1 I I (by rw [hn]; rfl)
   ·have hy2 := Ao.1 hc21; refine Ck (Xa (Cg (Km I (Ka I (Nn (Xd (Xa (Cg (Kq I (Rz I I I (by omega)) (Km I (Nn (Ly ((i + 1, y)) (by (try dsimp only); omega) (S3 I I I) (by refine (Sc ?_ (Sc ?_ (S0 _))) <;> (rfl)) ?_ (fun _ h => h))))))))))))); (try dsimp only); exact ⟨hil, by rw [← he, Am hy2]; rfl⟩
 ·refine AT ?_
  obtain rfl : i = l.length := by omega
  have hn : eu 1 l n = true := by rw [← he, List.drop_length]; rfl
  refine Xa (Cs (to ?_))
  exact R1 I I (by rw [hn]; rfl)
theorem p4 {x : Bs} {w : World} :
  Cw 56 #[.string (S x)] w (zV (ngN x)) := by
 refine En [] [(0, .string (S x))] Tryz.func56 I Tryz.ntmps56 I (Ac I (An _)) Fn (Cs (AS ?_))
 intro b2
 refine Nt (Cs (Km I (Kc I (fun w hS => cR (a := x)) (Kc I (fun w hS => s5 (x := aw x)) (DQ ?_))))); refine Nt (Ce ?_)
 exact Rn I (.agg I .tc u37 I (by kernel_rfl) .nil) fun w' hS => ⟨by rfl, hS.below⟩
theorem wn {p : PR} {i : Nat} {w : World} :
  Cw 61 #[prV p, .int .i64 (i : Int)] w (.string (S (lim p i))) := by
 refine En [] [(0, prV p), (1, .int .i64 (i : Int))] Tryz.func61 I Tryz.ntmps61 I (Ac I (Ac I (An _))) Fn (DO ?_)
 intro b2
 refine DR ?_; refine Nt (Cb (Cs (Yi I (Ka I (Nt (Ci I (fun hc6 => ?_) (fun hc6 => ?_)))))))
 ·refine Cs (Kq I (Fa (q := 0) I I u97 I I) (F4 ?_))
  refine to ?_; refine Xf (Xb ?_)
  exact R1 I I (by rw [lim, Ab (by omega)]; rfl)
 ·refine Cs (Yi I (Ka I (Nt (Ci I (fun hc11 => ?_) (fun hc11 => ?_)))))
  ·refine Cs (Kq I (Fa (q := 0) I I u97 I I) (F6 ?_)); refine to ?_; refine Xf (Xb ?_); exact R1 I I (by rw [lim, Aa (by omega), Ab (by omega)]; rfl)
  ·refine Ck (Xd (Xa (Cs (Kq I (Fa (q := 0) I I u97 I I) (F5 ?_))))); refine to ?_; exact R1 I I (by rw [lim, Aa (by omega), Aa (by omega)]; rfl)
theorem oh {p : PR} : okR p ↔ ∀ x ∈ fq p, okN x := by
 rw [nf]
 constructor <;> (intro h x hx; apply h; simp [kV, fq, pk4] at hx ⊢; rcases hx with rfl | rfl | rfl | rfl | rfl | rfl | rfl | rfl | rfl | rfl | rfl | rfl | rfl | rfl | rfl | rfl | rfl <;> simp)
theorem o9 {p : PR} {w : World} (hm8 : p.mn.1.1.length ≤ 8) :
  Cw 69 #[prV p] w (.int .i64 (cr p)) := by
 refine En [] [(0, prV p)] Tryz.func69 I Tryz.ntmps69 I (Ac I (An _)) Fn (DO ?_)
 intro b1
 refine Ka I (Nt (Cs (Kq I (lda I I .tc u30 I ?_) ?_)))
 ·kernel_rfl
 refine Kh I (Oc I I (fx fun w hS => tK)) ?_
 intro g11
 refine WL.pu ?_
 intro hg11; (try dsimp only at hg11 ⊢)
 refine E5 ?_; refine Lp (σ := Nat) [(1, _), (3, _)] (fun gq => [(4, .int .i64 (gq : Int))]) (fun gq => gq ≤ (fq p).length ∧ ∀ x ∈ (fq p).take gq, okN x) (fun gq => (fq p).length - gq) (0) (S2 I I) (S1 I) (by (try dsimp only); exact ⟨Ai _, by simp⟩) ?_
 rintro i hinv1; (try dsimp only at hinv1 ⊢)
 obtain ⟨hi, hok⟩ := hinv1
 refine E0 ?_; refine Yo I u31 (Ew (fun hc15 => ?_) (fun hc15 => ?_))
 ·have hil : i < (fq p).length := by show i < 17; omega
  obtain ⟨y, hy⟩ : ∃ y, Keep (y = (fq p).getD i default) := ⟨_, rfl⟩
  refine El ?_; refine Km I (DZ ?_)
  refine EI ?_
  refine Ns 21 I (v' := .string (S (y))) (congrArg (fun l => Value.string (S l)) (by rw [show y = _ from hy])) ?_
  refine Kc I (fun w hS => ar (a := y)) (Eq (fun hc23 => ?_) (fun hc23 => ?_))
  ·have hyn : ¬ okN y := by simpa using hc23
   have hn : ¬ okR p := fun h => hyn (by rw [show y = _ from hy]; exact oh.1 h _ (ap (fq p) i hil))
   refine Cs (to ?_); refine DS ?_; exact R1 I I (by rw [cr, Ab hn]; rfl)
  ·have hyy : okN y := by simpa using hc23
   refine Ck (Xd (Xa (Cg (Km I (Kq I (Rz I I I (by omega)) (Ka I (Nn (Ly (i + 1) (by (try dsimp only); omega) (S2 I I) (by refine (Sc ?_ (S0 _)) <;> (rfl)) ?_ (fun _ h => h))))))))); (try dsimp only); exact ⟨hil, az hil hok (by rw [← show y = _ from hy]; exact hyy)⟩
 ·refine AT ?_
  obtain rfl : i = (fq p).length := by show i = 17; have h17 : i ≤ 17 := hi; omega
  rw [Ap] at hok
  have hokR : okR p := oh.2 hok
  have hB8 : 8 < Big := Ay (by decide) fg
  have hz : p.mn.1.2 = [] → ¬ a6 p.mn.1 = 0 := fun h h0 => by
   unfold a6 at h0; rw [h] at h0; split at h0
   ·simp at h0
   ·split at h0
    ·simp at h0
    ·split at h0
     ·simp at h0
     ·split at h0
      ·simp at h0
      ·rw [show isP (val []) = false from rfl] at h0; simp at h0
  have hu1 : ¬ p.wh.1.2 = [] → ¬ dR p.wh.1 p.wh.2.1 := fun h h0 => h h0.1.1.2.1
  have hu2 : ¬ val p.wh.1.1 % 2 = 1 → ¬ dR p.wh.1 p.wh.2.1 := fun h h0 => h h0.1.1.2.2.1
  have hu3 : ¬ 8 < val p.wh.1.1 → ¬ dR p.wh.1 p.wh.2.1 := fun h h0 => h h0.1.1.2.2.2
  have hw1 : okN p.wh.1.1 := hokR.2.2.1
  have hq : okN p.mn.1.2 := hokR.2.1.2.1
  have hqB := aK hq
  have h2B : okN (ae 2) := aq (by omega)
  have hch : okN p.ch := hokR.1 _ (by simp)
  have hsl : okN p.sl := hokR.1 _ (by simp)
  have hse : okN p.sec := hokR.1 _ (by simp)
  have hat : okN p.attr := hokR.1 _ (by simp)
  have hha : okN p.han := hokR.1 _ (by simp)
  have hlo : okN p.lo := hokR.1 _ (by simp)
  have hsz : okN p.sz := hokR.1 _ (by simp)
  have hbl : okN p.bl := hokR.1 _ (by simp)
  have hmk : okN p.msk := hokR.1 _ (by simp)
  have hmu : bG (ae 8) p.attr = if 8 * val p.attr < Big then (ae (8 * val p.attr), 0) else ([], 5) := by rw [bG, Ab ⟨aq hB8, hat⟩, af]
  refine Xa (Cq (WC.free (K := [⟨some b1, prC p, 30⟩]) (fs0 := []) [0, 1, 2, 6, 7, 8, 3, 4, 5] [9] [0, 0, 0, 0, 0, 0, 3, 3, 1, 2] (by kernel_rfl) (by kernel_rfl) I ?_))
  refine Kj I (Fa (q := 2) I I u30 I I) (Kj I (Fa (q := 2) I I u28 I I) ?_)
  refine Fd ?_
  refine Jf I I I I I (bJ I (v := (.agg #[.string (S []), .string (S [])])) (cs := [.string (S []), .string (S [])]) (by kernel_rfl) I) ?_
  intro b5
  refine Jf I I I I I (bJ I (v := (.agg #[.string (S []), .string (S [])])) (cs := [.string (S []), .string (S [])]) (by kernel_rfl) I) ?_
  intro b6
  refine WJ.st I I I I (gS I I I ?_ ?_ ?_) ?_
  ·kernel_rfl
  ·simp [Value.oneCell']
  ·rfl
  refine Kj I (Fa (q := 6) I I u30 I I) (Kj I (Fa (q := 6) I I u28 I I) ?_)
  refine Fd ?_
  refine WJ.nil ?_
  refine DQ ?_; refine Nt (Cq (WC.joinP (σ := Unit) [(1, _), (5, _), (6, _)] (fun gq => [(53, .bool (decide (¬ (a6 p.mn.1 = 0 ∧ jp p.mn.1 p.mn.2.1 ∧ jp p.mn.1 p.mn.2.2))))]) (fun gq => True) (S3 I I I) ?_ ?_))
  ·skip
   refine Cg (EE ?_); refine Ys I (Km I (Nc 33 I (fun hg33 => ?_) (fun hg33 => ?_)))
   ·refine T2 I (Kt I (Yp I (Km I (T4 I (T2 I (Yp I (Km I (T4 I (T2 I (Yp I (Nn (WX.joinP (()) (S3 I I I) (by refine (Sc ?_ (S0 _)) <;> ((refine ai rfl ?_; (try dsimp only); (simp [*]; done)))) ?_ (fun _ h => h))))))))))))); (try dsimp only); done
   ·refine Kq I (lda I I .tc u26 I ?_) ?_
    ·kernel_rfl
    refine Kc I (fun w hS => wJ (g := p.mn.1)) (Yj I (Yq I (Km I (Nc 38 I (fun hg38 => ?_) (fun hg38 => ?_)))))
    ·refine T4 I (T2 I (Yp I (Km I (T4 I (T2 I (Yp I (Nn (WX.joinP (()) (S3 I I I) (by refine (Sc ?_ (S0 _)) <;> ((refine ai rfl ?_; (try dsimp only); (simp [*]; done)))) ?_ (fun _ h => h))))))))); (try dsimp only); done
    ·refine Kq I (lda I I .tc u26 I ?_) ?_
     ·kernel_rfl
     refine Gl ?_; refine Kc I (fun w hS => qk (g := p.mn.1) (x := p.mn.2.1) (by assumption)) (Yt I (Yq I (Km I (Nc 46 I (fun hg46 => ?_) (fun hg46 => ?_)))))
     ·refine T4 I (T2 I (Yp I (Nn (WX.joinP (()) (S3 I I I) (by refine (Sc ?_ (S0 _)) <;> ((refine ai rfl ?_; (try dsimp only); (simp [*]; done)))) ?_ (fun _ h => h))))); (try dsimp only); done
     ·refine Kq I (lda I I .tc u26 I ?_) ?_
      ·kernel_rfl
      refine Kq I (Fa (q := 2) I I u30 I I) (Kf 5 I u28 I I I .tc u22 ?_); refine Kc I (fun w hS => qk (g := p.mn.1) (x := p.mn.2.2) (by assumption)) (Yt I (Yq I (Nn (WX.joinP (()) (S3 I I I) (by refine (Sc ?_ (S0 _)) <;> ((refine ai rfl ?_; (try dsimp only); (simp [*]; done)))) ?_ (fun _ h => h))))); (try dsimp only); done
  ·rintro _ hmeet; (try dsimp only at hmeet ⊢); refine Ci I (fun hc53 => ?_) (fun hc53 => ?_)
   ·refine Cs (ne ?_); exact R1 I I (by rw [cr, Aa (fun h => h hokR), Ab (fun h : ny p => hc53 ⟨h.1, h.2.1, h.2.2.1⟩)]; rfl)
   ·have hg1 := Ao.1 hc53; refine Ck (Xa (Cq (WC.joinP (σ := Unit) [(1, _), (5, _)] (fun gq => [(85, .bool (decide (¬ (dR p.wh.1 p.wh.2.1 ∧ dR p.wh.1 p.wh.2.2))))]) (fun gq => True) (S2 I I) ?_ ?_)))
    ·skip
     refine Cf [0, 1, 2, 3, 4, 5, 6, 7, 8, 9, 10, 11, 12, 13, 14, 15, 16, 17, 18, 19, 20, 21, 22, 23, 24, 25, 26, 27, 28, 29, 30, 31] [] [0, 0, 0, 0, 0, 0, 1, 0, 0, 0, 1, 0, 0, 1, 0, 0, 0, 0, 0, 0, 0, 1, 0, 0, 0, 0, 0, 0, 0, 1, 0, 0] (by kernel_rfl) (by kernel_rfl) I ?_; refine Kj I (Fa (q := 1) I I u26 I I) (DY ?_); refine Kj I (pc I I I) (ER ?_); refine WJ.bool 57 I (fun hg57 => ?_) (fun hg57 => ?_)
     ·(try simp only [sB] at hg57); refine Js I I I I (Js I I I I (Js I I I I (Js I I I I (Kj I (Rp I I I) (Kj I (Rm I I) (Js I I I I (Js I I I I (Js I I I I (Js I I I I (Js I I I I (Kj I (Rp I I I) (Kj I (Rm I I) (Js I I I I (Js I I I I (Js I I I I (Js I I I I (Js I I I I (Js I I I I (Kj I (Rp I I I) (Kj I (Rm I I) (Js I I I I (Js I I I I (Js I I I I (Js I I I I (Js I I I I (Js I I I I (Kj I (Rp I I I) ?_))))))))))))))))))))))))))); refine WJ.nil ?_; refine Nn (WX.joinP (()) (S2 I I) (by refine (Sc ?_ (S0 _)) <;> ((refine ai rfl ?_; (try dsimp only); (simp [*]; done)))) ?_ (fun _ h => h)); (try dsimp only); done
     ·(try simp only [sB] at hg57); refine Fs ?_; refine DY ?_; refine Jv I I I I I (fun ext => Oc I I (Kv fun w hS => pi (a := p.wh.1.1) (i := 0) (by omega))) ?_; refine WJ.set 60 I (v' := .bool (decide (val p.wh.1.1 % 2 = 1))) (congrArg Value.bool (by exact j3 hw1)) ?_; refine Kj I (Rt I I) (Kj I (Rq I I I) (ER ?_)); refine WJ.bool 63 I (fun hg63 => ?_) (fun hg63 => ?_)
      ·(try simp only [sB] at hg63); refine Js I I I I (Js I I I I (Js I I I I (Js I I I I (Js I I I I (Kj I (Rp I I I) (Kj I (Rm I I) (Js I I I I (Js I I I I (Js I I I I (Js I I I I (Js I I I I (Js I I I I (Kj I (Rp I I I) (Kj I (Rm I I) (Js I I I I (Js I I I I (Js I I I I (Js I I I I (Js I I I I (Js I I I I (Kj I (Rp I I I) ?_))))))))))))))))))))); refine WJ.nil ?_; refine Nn (WX.joinP (()) (S2 I I) (by refine (Sc ?_ (S0 _)) <;> ((refine ai rfl ?_; (try dsimp only); (simp [*]; done)))) ?_ (fun _ h => h)); (try dsimp only); done
      ·(try simp only [sB] at hg63); refine FU ?_; refine Fs ?_; refine DY ?_; refine Jv I I I I I (fun ext => Oc I I (Kv fun w hS => cg (a := ae 8) (b := p.wh.1.1))) ?_; refine WJ.set 67 I (v' := .bool (decide (8 < val p.wh.1.1))) (congrArg Value.bool (by rw [aB (aq hB8) hw1, af]; exact Af.2 (ax _ _))) ?_; refine Kj I (Rt I I) (Kj I (Rq I I I) (ER ?_)); refine WJ.bool 70 I (fun hg70 => ?_) (fun hg70 => ?_)
       ·(try simp only [sB] at hg70); refine Js I I I I (Js I I I I (Js I I I I (Js I I I I (Js I I I I (Js I I I I (Kj I (Rp I I I) (Kj I (Rm I I) (Js I I I I (Js I I I I (Js I I I I (Js I I I I (Js I I I I (Js I I I I (Kj I (Rp I I I) ?_)))))))))))))); refine WJ.nil ?_; refine Nn (WX.joinP (()) (S2 I I) (by refine (Sc ?_ (S0 _)) <;> ((refine ai rfl ?_; (try dsimp only); (simp [*]; done)))) ?_ (fun _ h => h)); (try dsimp only); done
       ·(try simp only [sB] at hg70); refine Kj I (lda I I .tc u26 I ?_) ?_
        ·kernel_rfl
        refine Kj I (Fa (q := 6) I I u30 I I) (Kj I (Fa (q := 8) I I u28 I I) (DY ?_)); refine Jv I I I I I (fun ext => Oc I I (Kv fun w hS => qa (g := p.wh.1) (x := p.wh.2.1))) ?_; refine Kj I (Rt I I) (Kj I (Rq I I I) (ER ?_)); refine WJ.bool 78 I (fun hg78 => ?_) (fun hg78 => ?_)
        ·(try simp only [sB] at hg78); refine Js I I I I (Js I I I I (Js I I I I (Js I I I I (Js I I I I (Js I I I I (Kj I (Rp I I I) ?_)))))); refine WJ.nil ?_; refine Nn (WX.joinP (()) (S2 I I) (by refine (Sc ?_ (S0 _)) <;> ((refine ai rfl ?_; (try dsimp only); (simp [*]; done)))) ?_ (fun _ h => h)); (try dsimp only); done
        ·(try simp only [sB] at hg78); refine Kj I (lda I I .tc u26 I ?_) ?_
         ·kernel_rfl
         refine Kj I (Fa (q := 6) I I u30 I I) (Kj I (Fa (q := 9) I I u28 I I) (Kj I (Ld I I .tc u22) ?_)); refine Jv I I I I I (fun ext => Oc I I (Kv fun w hS => qa (g := p.wh.1) (x := p.wh.2.2))) ?_; refine Kj I (Rt I I) (Kj I (Rq I I I) ?_); refine WJ.nil ?_; refine Nn (WX.joinP (()) (S2 I I) (by refine (Sc ?_ (S0 _)) <;> ((refine ai rfl ?_; (try dsimp only); (simp [*]; done)))) ?_ (fun _ h => h)); (try dsimp only); done
    ·rintro _ hmeet; (try dsimp only at hmeet ⊢); refine Ci I (fun hc85 => ?_) (fun hc85 => ?_)
     ·refine Cs (ne ?_); exact R1 I I (by rw [cr, Aa (fun h => h hokR), Ab (fun h : ny p => hc85 ⟨h.2.2.2.1, h.2.2.2.2⟩)]; rfl)
     ·have hg2 := Ao.1 hc85; have hgr : ny p := ⟨hg1.1, hg1.2.1, hg1.2.2, hg2.1, hg2.2⟩; refine Ck (Xa (Cs (Kc I (fun w hS => dJ (n := 2) (by omega)) (Ka I (Nt (Cq (Cf [0, 1, 2, 3, 4, 5, 6, 7, 8] [] [1, 0, 0, 1, 0, 0, 0, 0, 0] (by kernel_rfl) (by kernel_rfl) I ?_))))))); refine FU ?_; refine Kj I (Fa (q := 11) I I u30 I I) (DY ?_); refine Jv I I I I I (fun ext => Oc I I (Kv fun w hS => mS (a := ae 8) (b := p.attr))) ?_; refine ER ?_; refine EM ?_; refine WJ.nil ?_; refine Nt (Cq (WC.joinP (σ := Unit) [(1, _), (7, _)] (fun gq => [(142, .bool (decide (¬ (2 ≤ val p.ch ∧ val p.ch ≤ val p.mn.1.2 ∧ 2 ≤ val p.sl ∧ 2 ≤ val p.sec ∧ val p.sec ≤ val p.mn.1.2 ∧ 2 ≤ val p.attr ∧ 8 * val p.attr ≤ val p.mn.1.2))))]) (fun gq => True) (S2 I I) ?_ ?_))
      ·skip
       refine Cg (E2 ?_); refine Km I (Kc I (fun w hS => cg (a := p.ch) (b := ae 2)) (Ns 98 I (v' := .bool (decide (val p.ch < 2))) (congrArg Value.bool (by rw [aB hch h2B, af]; exact Af.2 (ax _ _))) ?_)); refine Km I (Nc 99 I (fun hg99 => ?_) (fun hg99 => ?_))
       ·refine T4 I (T2 I (Yp I (Km I (T4 I (Kt I (Yp I (Km I (T4 I (Yp I (Km I (T4 I (Kt I (Yp I (Km I (T4 I (Yp I (Km I (T2 I (Yp I (Km I (T4 I (Yp I (Nn (WX.joinP (()) (S2 I I) (by refine (Sc ?_ (S0 _)) <;> ((refine ai rfl ?_; (try dsimp only); (simp [*]; done)))) ?_ (fun _ h => h))))))))))))))))))))))))); (try dsimp only); done
       ·refine EE ?_; refine E2 ?_; refine Kc I (fun w hS => cg (a := p.mn.1.2) (b := p.ch)) (Ns 105 I (v' := .bool (decide (val p.mn.1.2 < val p.ch))) (congrArg Value.bool (by rw [aB hq hch]; exact Af.2 (ax _ _))) ?_); refine Yq I (Km I (Nc 107 I (fun hg107 => ?_) (fun hg107 => ?_)))
        ·refine T4 I (Kt I (Yp I (Km I (T4 I (Yp I (Km I (T4 I (Kt I (Yp I (Km I (T4 I (Yp I (Km I (T2 I (Yp I (Km I (T4 I (Yp I (Nn (WX.joinP (()) (S2 I I) (by refine (Sc ?_ (S0 _)) <;> ((refine ai rfl ?_; (try dsimp only); (simp [*]; done)))) ?_ (fun _ h => h))))))))))))))))))))); (try dsimp only); done
        ·refine Fz ?_; refine Km I (Kc I (fun w hS => cg (a := p.sl) (b := ae 2)) (Ns 112 I (v' := .bool (decide (val p.sl < 2))) (congrArg Value.bool (by rw [aB hsl h2B, af]; exact Af.2 (ax _ _))) ?_)); refine Yq I (Km I (Nc 114 I (fun hg114 => ?_) (fun hg114 => ?_)))
         ·refine T4 I (Yp I (Km I (T4 I (Kt I (Yp I (Km I (T4 I (Yp I (Km I (T2 I (Yp I (Km I (T4 I (Yp I (Nn (WX.joinP (()) (S2 I I) (by refine (Sc ?_ (S0 _)) <;> ((refine ai rfl ?_; (try dsimp only); (simp [*]; done)))) ?_ (fun _ h => h))))))))))))))))); (try dsimp only); done
         ·refine F4 ?_; refine Km I (Kc I (fun w hS => cg (a := p.sec) (b := ae 2)) (Ns 118 I (v' := .bool (decide (val p.sec < 2))) (congrArg Value.bool (by rw [aB hse h2B, af]; exact Af.2 (ax _ _))) ?_)); refine Yq I (Km I (Nc 120 I (fun hg120 => ?_) (fun hg120 => ?_)))
          ·refine T4 I (Kt I (Yp I (Km I (T4 I (Yp I (Km I (T2 I (Yp I (Km I (T4 I (Yp I (Nn (WX.joinP (()) (S2 I I) (by refine (Sc ?_ (S0 _)) <;> ((refine ai rfl ?_; (try dsimp only); (simp [*]; done)))) ?_ (fun _ h => h)))))))))))))); (try dsimp only); done
          ·refine EE ?_; refine F4 ?_; refine Kc I (fun w hS => cg (a := p.mn.1.2) (b := p.sec)) (Ns 125 I (v' := .bool (decide (val p.mn.1.2 < val p.sec))) (congrArg Value.bool (by rw [aB hq hse]; exact Af.2 (ax _ _))) ?_); refine Yq I (Km I (Nc 127 I (fun hg127 => ?_) (fun hg127 => ?_)))
           ·refine T4 I (Yp I (Km I (T2 I (Yp I (Km I (T4 I (Yp I (Nn (WX.joinP (()) (S2 I I) (by refine (Sc ?_ (S0 _)) <;> ((refine ai rfl ?_; (try dsimp only); (simp [*]; done)))) ?_ (fun _ h => h)))))))))); (try dsimp only); done
           ·refine F5 ?_; refine Km I (Kc I (fun w hS => cg (a := p.attr) (b := ae 2)) (Ns 131 I (v' := .bool (decide (val p.attr < 2))) (congrArg Value.bool (by rw [aB hat h2B, af]; exact Af.2 (ax _ _))) ?_)); refine Yq I (Km I (Nc 133 I (fun hg133 => ?_) (fun hg133 => ?_)))
            ·refine T2 I (Yp I (Km I (T4 I (Yp I (Nn (WX.joinP (()) (S2 I I) (by refine (Sc ?_ (S0 _)) <;> ((refine ai rfl ?_; (try dsimp only); (simp [*]; done)))) ?_ (fun _ h => h))))))); (try dsimp only); done
            ·refine Km I (Yj I (Ns 135 I (v' := .bool (decide (Big ≤ 8 * val p.attr))) (congrArg Value.bool (by rw [hmu]; split <;> simp <;> omega)) ?_)); refine Yq I (Km I (Nc 137 I (fun hg137 => ?_) (fun hg137 => ?_)))
             ·refine T4 I (Yp I (Nn (WX.joinP (()) (S2 I I) (by refine (Sc ?_ (S0 _)) <;> ((exact congrArg (fun b => some (Value.bool b)) (by symm; apply Am; omega)))) ?_ (fun _ h => h)))); (try dsimp only); done
             ·refine Kf 1 I u26 I I I .tc u22 ?_; refine Km I (Kc I (fun w hS => cg (a := p.mn.1.2) (b := (bG (ae 8) p.attr).1)) (Ns 141 I (v' := .bool (decide (val p.mn.1.2 < 8 * val p.attr))) (congrArg Value.bool (by rw [hmu, Ab (by omega), aB hq (aq (by omega)), af]; exact Af.2 (ax _ _))) ?_)); refine Yq I (Nn (WX.joinP (()) (S2 I I) (by refine (Sc ?_ (S0 _)) <;> ((refine ai rfl ?_; (try dsimp only); (exact Af.2 (by omega))))) ?_ (fun _ h => h))); (try dsimp only); done
      ·rintro _ hmeet; (try dsimp only at hmeet ⊢); refine Ci I (fun hc142 => ?_) (fun hc142 => ?_)
       ·refine Cs (ne ?_); exact R1 I I (by rw [cr, Aa (fun h => h hokR), Aa (fun h => h hgr), Ab (fun h : mR p => hc142 ⟨h.1 _ (by simp), h.2.2.1, h.1 _ (by simp), h.1 _ (by simp), h.2.2.2, h.1 _ (by simp), h.2.1⟩)]; rfl)
       ·obtain ⟨r1, r2, r3, r4, r5, r6, r7⟩ := Ao.1 hc142; refine Ck (Xa (Cq (WC.joinP (σ := Unit) [] (fun gq => [(170, .bool (decide (¬ (2 ≤ val p.han ∧ 2 ≤ val p.lo ∧ 2 ≤ val p.sz ∧ 2 ≤ val p.bl ∧ 2 ≤ val p.msk))))]) (fun gq => True) (S0 _) ?_ ?_)))
        ·skip
         refine Cg (F6 ?_); refine Km I (Kc I (fun w hS => cg (a := p.han) (b := ae 2)) (Ns 146 I (v' := .bool (decide (val p.han < 2))) (congrArg Value.bool (by rw [aB hha h2B, af]; exact Af.2 (ax _ _))) ?_)); refine Km I (Nc 147 I (fun hg147 => ?_) (fun hg147 => ?_))
         ·refine T4 I (Yp I (Km I (T4 I (Yp I (Km I (T4 I (Yp I (Km I (T4 I (Yp I (Nn (WX.joinP (()) (S0 _) (by refine (Sc ?_ (S0 _)) <;> ((refine ai rfl ?_; (try dsimp only); (simp [*]; done)))) ?_ (fun _ h => h))))))))))))); (try dsimp only); done
         ·refine Kf 13 I u30 I I I .tc u22 ?_; refine Km I (Kc I (fun w hS => cg (a := p.lo) (b := ae 2)) (Ns 151 I (v' := .bool (decide (val p.lo < 2))) (congrArg Value.bool (by rw [aB hlo h2B, af]; exact Af.2 (ax _ _))) ?_)); refine Yq I (Km I (Nc 153 I (fun hg153 => ?_) (fun hg153 => ?_)))
          ·refine T4 I (Yp I (Km I (T4 I (Yp I (Km I (T4 I (Yp I (Nn (WX.joinP (()) (S0 _) (by refine (Sc ?_ (S0 _)) <;> ((refine ai rfl ?_; (try dsimp only); (simp [*]; done)))) ?_ (fun _ h => h)))))))))); (try dsimp only); done
          ·refine Kf 14 I u30 I I I .tc u22 ?_; refine Km I (Kc I (fun w hS => cg (a := p.sz) (b := ae 2)) (Ns 157 I (v' := .bool (decide (val p.sz < 2))) (congrArg Value.bool (by rw [aB hsz h2B, af]; exact Af.2 (ax _ _))) ?_)); refine Yq I (Km I (Nc 159 I (fun hg159 => ?_) (fun hg159 => ?_)))
           ·refine T4 I (Yp I (Km I (T4 I (Yp I (Nn (WX.joinP (()) (S0 _) (by refine (Sc ?_ (S0 _)) <;> ((refine ai rfl ?_; (try dsimp only); (simp [*]; done)))) ?_ (fun _ h => h))))))); (try dsimp only); done
           ·refine Kf 15 I u30 I I I .tc u22 ?_; refine Km I (Kc I (fun w hS => cg (a := p.bl) (b := ae 2)) (Ns 163 I (v' := .bool (decide (val p.bl < 2))) (congrArg Value.bool (by rw [aB hbl h2B, af]; exact Af.2 (ax _ _))) ?_)); refine Yq I (Km I (Nc 165 I (fun hg165 => ?_) (fun hg165 => ?_)))
            ·refine T4 I (Yp I (Nn (WX.joinP (()) (S0 _) (by refine (Sc ?_ (S0 _)) <;> ((refine ai rfl ?_; (try dsimp only); (simp [*]; done)))) ?_ (fun _ h => h)))); (try dsimp only); done
            ·refine Kf 16 I u30 I I I .tc u22 ?_; refine Km I (Kc I (fun w hS => cg (a := p.msk) (b := ae 2)) (Ns 169 I (v' := .bool (decide (val p.msk < 2))) (congrArg Value.bool (by rw [aB hmk h2B, af]; exact Af.2 (ax _ _))) ?_)); refine Yq I (Nn (WX.joinP (()) (S0 _) (by refine (Sc ?_ (S0 _)) <;> ((refine ai rfl ?_; (try dsimp only); (exact Af.2 (by omega))))) ?_ (fun _ h => h))); (try dsimp only); done
        ·rintro _ hmeet; (try dsimp only at hmeet ⊢); refine Ci I (fun hc170 => ?_) (fun hc170 => ?_)
         ·refine Cs (ne ?_); exact R1 I I (by rw [cr, Aa (fun h => h hokR), Aa (fun h => h hgr), Ab (fun h : mR p => hc170 ⟨h.1 _ (by simp), h.1 _ (by simp), h.1 _ (by simp), h.1 _ (by simp), h.1 _ (by simp)⟩)]; rfl)
         ·obtain ⟨r8, r9, r10, r11, r12⟩ := Ao.1 hc170; have hrg : mR p := ⟨fun x hx => by simp at hx; rcases hx with rfl | rfl | rfl | rfl | rfl | rfl | rfl | rfl | rfl <;> assumption, r7, r2, r5⟩; refine Ck (Xa (Cs (Ka I (Nt (Ce ?_))))); exact R1 I I (by rw [cr, Aa (fun h => h hokR), Aa (fun h => h hgr), Aa (fun h => h hrg)]; rfl)
theorem n6 {k : IK} {a : Option Addr} {c : Nat} {w : World} {ok : Nat → Prop} (hF1 : (Fact.sl a (an k.r)).holds ok w) (hl : k.r.length ≤ 100000) :
  Calls Tryz.prog 35 #[ikV k (.slice a k.r.length c)] w fun e w' => ∃ g : Rs, e = .returned (g.val (3 + k.r.length)) ∧ g.cap = 3 + k.r.length + g.sp.length ∧ St (fun _ => True) w [g.ent (an ([k.z, k.u, k.h] ++ k.r)) 22] [] w' := by
 refine En [Fact.sl a (an k.r)] [(0, ikV k (.slice a k.r.length c))] Tryz.func35 I Tryz.ntmps35 I (Ac I (An _)) (Fc (ah hF1) Fn) (DO ?_)
 intro b1
 refine Ka I (Nt (Cs (Kf 3 I u33 I I I .tc u22 ?_)))
 refine Kf 6 I u33 I I I .tc u22 ?_
 refine Kf 7 I u33 I I I .tc u22 ?_
 refine Kh I (aO I I u31 (by kernel_rfl : _ = some (some (.string (S [])), 1, 16)) I (by simp only [List.map]; rfl) I I ?_ (by decide)) ?_
 ·simp [Value.cells]
 intro b10
 refine DT ?_; refine FQ ?_
 refine Kh I (CK I u31 (by kernel_rfl : _ = some (some (.string (S [])), 1, 16)) I .tc I I (fun w hS => by (exact hS.sl)) (by simp) (by (refine ⟨?_, ?_, ?_, ?_⟩ <;> (try simp) <;> omega)) (by (simp [Value.oneCell']; done))) ?_
 rintro ⟨o14, c14, s14⟩
 refine WL.pu ?_
 intro hg14; (try dsimp only at hg14 ⊢)
 refine to ?_
 exact Rn I (.tmp I .nil) fun w' hS => ⟨⟨o14, c14, s14⟩, by simp [Rs.val, tup], by simpa using hg14, by show St _ _ [⟨o14, [Value.string (S k.z), .string (S k.u), .string (S k.h)] ++ an k.r ++ s14, _⟩] _ _; exact au _ hS⟩
abbrev rlK (k : IK) : List Bs := [k.g.1, k.g.2, k.s] ++ ([k.z, k.u, k.h] ++ k.r)
theorem tL (k : IK) : (∀ x ∈ rlK k, okN x) ↔ ((okN k.g.1 ∧ okN k.g.2) ∧ ∀ x ∈ bsK k, okN x) := by
 simp [rlK, bsK]; constructor
 ·rintro ⟨h1, h2, h3, h4, h5, h6, h7⟩; exact ⟨⟨h1, h2⟩, h3, h4, h5, h6, h7⟩
 ·rintro ⟨⟨h1, h2⟩, h3, h4, h5, h6, h7⟩; exact ⟨h1, h2, h3, h4, h5, h6, h7⟩
theorem tM (k : IK) : (∀ x ∈ (rlK k).drop 2, elG k.g x) ↔ ∀ x ∈ bsK k, elG k.g x := by simp [rlK, bsK]
theorem sV {l : List Bs} {j : Nat} {Q : Bs → Prop} (hj : j < l.length) (h2 : 2 ≤ j) (h : ∀ x ∈ (l.take j).drop 2, Q x) (hq : Q (l.getD j default)) : ∀ x ∈ (l.take (j + 1)).drop 2, Q x := by
 intro x hx
 rw [Bt, List.drop_append_of_le_length (by rw [Bp]; omega)] at hx
 rcases B6.1 hx with hx | hx
 ·exact h x hx
 ·rw [Ad hj] at hx
  simp at hx; subst hx
  simpa [List.getD, hj] using hq
theorem rG {p : PR} {k : IK} {a : Option Addr} {c : Nat} {w : World} {ok : Nat → Prop} (hF1 : (Fact.sl a (an k.r)).holds ok w) (hm8 : p.mn.1.1.length ≤ 8) (hk8 : k.g.1.length ≤ 8) (hl : k.r.length ≤ 100000) (hnl : k.name.length ≤ 140737488351232) :
  Cw 48 #[prV p, ikV k (.slice a k.r.length c)] w (.int .i64 (bK p k)) := by
 have hrl : (rlK k).length = 6 + k.r.length := by simp [rlK]; omega
 refine En [Fact.sl a (an k.r)] [(0, prV p), (1, ikV k (.slice a k.r.length c))] Tryz.func48 I Tryz.ntmps48 I (Ac I (Ac I (An _))) (Fc (ah hF1) Fn) (DO ?_)
 intro b2
 refine EW ?_
 intro b3
 refine Ka I (Nt (Cq (Cs (Kq I (lda I I .tc u30 I ?_) ?_))))
 ·kernel_rfl
 refine Kc I (fun w hS => o9 (p := p) (by assumption)) (DT ?_); refine EL (fun hc12 => ?_) (fun hc12 => ?_)
 ·refine Cs (Km I (ne ?_))
  exact R1 I I (by rw [bK, Ab (by simpa using hc12)]; rfl)
 ·have h0 : cr p = 0 := by simpa using hc12
  refine Ck (Xa (Cq (Cf [9, 10, 0, 1, 2, 3, 4, 5, 6, 7, 8, 11, 12] [] [0, 0, 0, 0, 0, 0, 0, 0, 3, 0, 1, 1, 0] (by kernel_rfl) (by kernel_rfl) I ?_)))
  refine Kj I (lda I I .tc u33 I ?_) ?_
  ·kernel_rfl
  refine Jg I I I I I (fun ext => Oc I I (fx fun w hS => n6 (k := k) (by (exact hS.sl)) (by assumption))) ?_
  intro g24 hg24; (try dsimp only at hg24 ⊢)
  refine Kj I (Fa (q := 1) I I u33 I I) (Kj I (Fa (q := 1) I I u26 I I) (DY ?_))
  refine Kj I (Fa (q := 1) I I u33 I I) (Kj I (Fa (q := 2) I I u26 I I) (DY ?_))
  refine Kj I (Fa (q := 4) I I u33 I I) (DY ?_)
  refine Jf I I I I I (ia I I u31 (by kernel_rfl : _ = some (some (.string (S [])), 1, 16)) I (by simp only [List.map]; rfl) I I ?_ (by decide)) ?_
  ·simp [Value.cells]
  intro b22
  refine Jg I I I I I (yw I u31 (by kernel_rfl : _ = some (some (.string (S [])), 1, 16)) I .tc I I (fun ext w hS => by (exact hS.sl)) (by simp; omega) (by (refine ⟨?_, ?_, ?_, ?_⟩ <;> (try simp) <;> omega)) (by (simp [Value.oneCell']; done))) ?_
  rintro ⟨o25, c25, s25⟩ hg25; (try dsimp only at hg25 ⊢)
  refine WJ.set 25 I (v' := .slice (o25.map fun b => ⟨b, 0, none⟩) (rlK k).length c25) (by congr 1; omega) ?_
  refine ES ?_
  refine WJ.nil ?_
  refine Nt (Cq (Cs (WL.st (fun w h => AH (xs := an (rlK k)) (sp := s25) h) ?_)))
  refine Ka I (Nt (Cb (Lp (σ := Nat) [(3, _), (6, _)] (fun gq => [(7, .int .i64 (gq : Int))]) (fun gq => gq ≤ (rlK k).length ∧ ∀ x ∈ (rlK k).take gq, okN x) (fun gq => (rlK k).length - gq) (0) (S2 I I) (S1 I) (by (try dsimp only); exact ⟨Ai _, by simp⟩) ?_)))
  rintro i hinv1; (try dsimp only at hinv1 ⊢)
  obtain ⟨hi, hok⟩ := hinv1
  refine E0 ?_; refine Yo I u31 (Ew (fun hc29 => ?_) (fun hc29 => ?_))
  ·have hil : i < (rlK k).length := by omega
   refine El ?_; refine Km I (DZ ?_); refine EI ?_; refine Kc I (fun w hS => ar (a := (rlK k).getD i default)) (Eq (fun hc37 => ?_) (fun hc37 => ?_))
   ·have hn : ¬ ((okN k.g.1 ∧ okN k.g.2) ∧ ∀ x ∈ bsK k, okN x) := fun h => (by simpa using hc37 : ¬ okN ((rlK k).getD i default)) ((tL k).2 h _ (ap (rlK k) i hil))
    refine Cs (to ?_); refine DS ?_; exact R1 I I (by rw [bK, Aa (fun h => h h0), Ab hn]; rfl)
   ·have hyy : okN ((rlK k).getD i default) := by simpa using hc37
    refine Ck (Xd (Xa (Cg (Km I (Kq I (Rz I I I (by omega)) (Ka I (Nn (Ly (i + 1) (by (try dsimp only); omega) (S2 I I) (by refine (Sc ?_ (S0 _)) <;> (rfl)) ?_ (fun _ h => h))))))))); (try dsimp only); exact ⟨hil, az hil hok hyy⟩
  ·refine AT ?_; obtain rfl : i = (rlK k).length := by omega
   rw [Ap] at hok; have hok2 := (tL k).1 hok; refine Xa (Cq (Cs (Kf 0 I u33 I I I .tc u9 ?_))); refine Kc I (fun w hS => wF (s := k.name) (by assumption)) (Eq (fun hc41 => ?_) (fun hc41 => ?_))
   ·refine Cs (ne ?_); exact R1 I I (by rw [bK, Aa (fun h => h h0), Aa (fun h => h hok2), Ab (by simpa using hc41)]; rfl)
   ·have hnm : ey k.name := by simpa using hc41
    refine Ck (Xa (Cq (WC.joinP (σ := Unit) [(3, _), (6, _)] (fun gq => [(51, .bool (decide (k.g.2 ≠ [] ∨ aU k.g ≠ 0)))]) (fun gq => True) (S2 I I) ?_ ?_)))
    ·skip
     refine Cg (FM ?_); refine Kf 2 I u26 I I I .tc u22 ?_; refine Yr I (Km I (Nc 46 I (fun hg46 => ?_) (fun hg46 => ?_)))
     ·refine T4 I (Yp I (Nn (WX.joinP (()) (S2 I I) (by refine (Sc ?_ (S0 _)) <;> ((refine ai rfl ?_; (try dsimp only); (simp [*]; done)))) ?_ (fun _ h => h)))); (try dsimp only); done
     ·refine Kq I (Fa (q := 1) I I u33 I I) (Kq I (ldp I I .tc u26 I (by kernel_rfl : _ = some 2) (by rfl) (by rfl)) ?_); refine Kc I (fun w hS => gA (g := k.g)) (Yj I (Yq I (Nn (WX.joinP (()) (S2 I I) (by refine (Sc ?_ (S0 _)) <;> ((refine ai rfl ?_; (try dsimp only); (simp [*]; done)))) ?_ (fun _ h => h))))); (try dsimp only); done
    ·rintro _ hmeet; (try dsimp only at hmeet ⊢); refine Ci I (fun hc51 => ?_) (fun hc51 => ?_)
     ·refine Cs (ne ?_); exact R1 I I (by rw [bK, Aa (fun h => h h0), Aa (fun h => h hok2), Aa (fun h => h hnm), Ab hc51]; rfl)
     ·have hcg : aU k.g = 0 := A1 fun h => hc51 (Or.inr h)
      refine Ck (Xa (Cq (WC.joinP (σ := Unit) [(3, _), (6, _)] (fun gq => [(61, .bool (decide (k.r.length < 2 ∨ 18 < k.r.length)))]) (fun gq => True) (S2 I I) ?_ ?_)))
      ·skip
       refine Cg (FQ ?_); refine Yo I u31 (Yl I (Km I (Nc 56 I (fun hg56 => ?_) (fun hg56 => ?_))))
       ·refine T4 I (Yp I (Nn (WX.joinP (()) (S2 I I) (by refine (Sc ?_ (S0 _)) <;> ((exact congrArg (fun b => some (Value.bool b)) (by symm; apply Am; omega)))) ?_ (fun _ h => h)))); (try dsimp only); done
       ·refine Kf 5 I u33 I I I .tc u31 ?_; refine Yo I u31 (Yg I (Yq I (Nn (WX.joinP (()) (S2 I I) (by refine (Sc ?_ (S0 _)) <;> ((refine ai rfl ?_; (try dsimp only); (exact Af.2 (by omega))))) ?_ (fun _ h => h))))); (try dsimp only); done
      ·rintro _ hmeet; (try dsimp only at hmeet ⊢); refine Ci I (fun hc61 => ?_) (fun hc61 => ?_)
       ·refine Cs (ne ?_); exact R1 I I (by rw [bK, Aa (fun h => h h0), Aa (fun h => h hok2), Aa (fun h => h hnm), Aa hc51, Ab hc61]; rfl)
       ·refine Gg ?_; refine Kf 4 I u33 I I I .tc u22 ?_; refine Fu (fun hc64 => ?_) (fun hc64 => ?_)
        ·refine Cs (ne ?_); exact R1 I I (by rw [bK, Aa (fun h => h h0), Aa (fun h => h hok2), Aa (fun h => h hnm), Aa hc51, Aa hc61, Ab (fun h => h.2 (by simpa [bT] using hc64))]; rfl)
        ·have hs1 : k.s ≠ ae 1 := by simpa [bT] using hc64
         refine Gg ?_; refine Ka I (Nt (Cb (Lp (σ := Nat) [(3, _), (6, _)] (fun gq => [(8, .int .i64 (gq : Int))]) (fun gq => 2 ≤ gq ∧ gq ≤ (rlK k).length ∧ ∀ x ∈ ((rlK k).take gq).drop 2, elG k.g x) (fun gq => (rlK k).length - gq) (2) (S2 I I) (S1 I) (by (try dsimp only); exact ⟨Bd _, by omega, by simp [rlK]⟩) ?_))); rintro j hinv2; (try dsimp only at hinv2 ⊢); obtain ⟨hj2, hj, hel⟩ := hinv2; refine E0 ?_; refine Yo I u31 (Ew (fun hc68 => ?_) (fun hc68 => ?_))
         ·have hjl : j < (rlK k).length := by omega
          refine Ck (Xa (Cq (Cb (Cq (Cf [0, 1, 2, 3, 4, 5, 6, 7] [] [0, 0, 0, 0, 0, 0, 1, 0] (by kernel_rfl) (by kernel_rfl) I ?_))))); refine Kj I (Fa (q := 1) I I u33 I I) ?_; refine Fd ?_; refine DW ?_; refine EV ?_; refine Fy ?_; refine Jv I I I I I (fun ext => Oc I I (Kv fun w hS => qj (g := k.g) (x := (rlK k).getD j default) (by assumption))) ?_; refine WJ.set 77 I (v' := .bool (decide (elG k.g ((rlK k).getD j default)))) (congrArg Value.bool (by simp [hcg])) ?_; refine Kj I (Rt I I) ?_; refine WJ.nil ?_; refine Nt (Ci I (fun hc78 => ?_) (fun hc78 => ?_))
          ·have hn : ¬ ((∀ x ∈ bsK k, elG k.g x) ∧ k.s ≠ ae 1) := fun h => (by simpa using hc78 : ¬ elG k.g ((rlK k).getD j default)) (by
            have hd := (tM k).2 h.1; refine hd _ ?_; obtain ⟨m, rfl⟩ : ∃ m, j = m + 2 := ⟨j - 2, by omega⟩; have he : (rlK k).getD (m + 2) default = ((rlK k).drop 2).getD m default := rfl; rw [he]
            exact ap _ _ (by rw [Cp]; omega))
           refine Cs (to ?_); refine DS ?_; exact R1 I I (by rw [bK, Aa (fun h => h h0), Aa (fun h => h hok2), Aa (fun h => h hnm), Aa hc51, Aa hc61, Ab hn]; rfl)
          ·have hyy : elG k.g ((rlK k).getD j default) := by simpa using hc78
           refine Ck (Xd (Xa (Cg (Km I (Kq I (Rz I I I (by omega)) (Ka I (Nn (Ly (j + 1) (by (try dsimp only); omega) (S2 I I) (by refine (Sc ?_ (S0 _)) <;> (rfl)) ?_ (fun _ h => h))))))))); (try dsimp only); exact ⟨by omega, hjl, sV hjl hj2 hel hyy⟩
         ·refine AT ?_; obtain rfl : j = (rlK k).length := by omega
          rw [Ap] at hel; refine Xa (Cs (to ?_)); exact R1 I I (by rw [bK, Aa (fun h => h h0), Aa (fun h => h hok2), Aa (fun h => h hnm), Aa hc51, Aa hc61, Aa (fun h => h ⟨(tM k).1 hel, hs1⟩)]; rfl)
theorem BJ {l : List Bs} {a : Option Addr} {c : Nat} {fk : FuncId} {cs : Array Value} {p : Bs → Bool} {w : World} {ok : Nat → Prop} (hF1 : (Fact.sl a (an l)).holds ok w) (hl : l.length ≤ 10000000) (hgo : eO Tryz.prog fk = true) (hfn : ∀ x ∈ l, ∀ w', Below w.heap.size w w' → Calls Tryz.prog fk (#[.string (S x)] ++ cs) w' fun e w2 => e = .returned (.bool (p x)) ∧ Below w'.heap.size w' w2) :
  Cw 81 #[.slice a l.length c, .func (.func fk) #[] cs] w (.int .i64 (ixP p l)) := by
 refine En [Fact.sl a (an l)] [(0, .slice a l.length c), (1, .func (.func fk) #[] cs)] Tryz.func81 I Tryz.ntmps81 I (Ac I (Ac I (An _))) (Fc (ah hF1) Fn) (Cs (DR ?_)); refine Yo I u31 (DN ?_)
 rintro i hinv1; (try dsimp only at hinv1 ⊢)
 obtain ⟨hi, hok⟩ := hinv1
 refine DP (fun hc9 => ?_) (fun hc9 => ?_)
 ·have hil : i < l.length := by omega
  refine El ?_; refine DT ?_; refine Km I (Km I (DZ ?_))
  refine EI ?_
  refine Ez (fun hc16 => ?_) (fun hc16 => ?_)
  ·refine Cs (Km I (to ?_)); refine DS ?_; exact GK
  ·refine Ck (Xd (Xa (Cg (Kq I (Rz I I I (by omega)) (Km I (Nn (Ly (i + 1) (by (try dsimp only); omega) (S3 I I I) (by refine (Sc ?_ (S0 _)) <;> (rfl)) ?_ (fun _ h => h)))))))); (try dsimp only); exact ⟨hil, az hil hok (by simpa using hc16)⟩
 ·refine AT ?_
  obtain rfl : i = l.length := by omega
  rw [Ap] at hok
  refine Xa (Cs (to ?_))
  exact GV
theorem yv {l : List Bs} {a : Option Addr} {c : Nat} {fk : FuncId} {cs : Array Value} {p : Bs → Bool} {w : World} {ok : Nat → Prop} (hF1 : (Fact.sl a (an l)).holds ok w) (hl : l.length ≤ 10000000) (hgo : eO Tryz.prog fk = true) (hfn : ∀ x ∈ l, ∀ w', Below w.heap.size w w' → Calls Tryz.prog fk (#[.string (S x)] ++ cs) w' fun e w2 => e = .returned (.bool (p x)) ∧ Below w'.heap.size w' w2) :
  Cw 34 #[.slice a l.length c, .func (.func fk) #[] cs] w (.bool (l.any p)) := by
 refine En [Fact.sl a (an l)] [(0, .slice a l.length c), (1, .func (.func fk) #[] cs)] Tryz.func34 I Tryz.ntmps34 I (Ac I (Ac I (An _))) (Fc (ah hF1) Fn) (Cs (DT ?_)); refine Km I (Kc I (fun w hS => BJ (l := l) (a := a) (c := c) (fk := fk) (cs := cs) (p := p) (w := w) hS.sl hl hgo (fun x hx w' hb => hfn x hx w' (hS.below.trans (hb.mono hS.below.size)))) (Yh I (to ?_)))
 exact G1
theorem uO {x : Bs} {w : World} :
  Cw 36 #[.string (S x)] w (.bool (decide ((x.length : Int) > 8))) := by
 refine En [] [(0, .string (S x))] Tryz.func36 I Tryz.ntmps36 I (Ac I (An _)) Fn (Cs (DT ?_)); refine Yn I u22 (Yg I (to ?_))
 exact GH
def fL (p : PR) (k : IK) : List Bs := fq p ++ [k.g.1, k.g.2, k.s] ++ ([k.z, k.u, k.h] ++ k.r)
theorem uP (p : PR) (k : IK) : (fL p k).length = 23 + k.r.length := by simp [fL, fq]; omega
theorem wg (p : PR) (k : IK) : an (fL p k) = an (fq p) ++ [.string (S k.g.1), .string (S k.g.2), .string (S k.s)] ++ an ([k.z, k.u, k.h] ++ k.r) := by rw [fL, ← fS, ← fS]; rfl
def gW (p : PR) (k : IK) : Bool := decide ((k.r.length : Int) ≤ 8) && (decide ((k.name.length : Int) ≤ 60) && !((fL p k).any fun x => decide ((x.length : Int) > 8)))
theorem xC {p : PR} {k : IK} {a : Option Addr} {c : Nat} {w : World} {ok : Nat → Prop} (hF1 : (Fact.sl a (an k.r)).holds ok w) (hl : k.r.length ≤ 1048576) :
  Cw 10 #[prV p, ikV k (.slice a k.r.length c)] w (.bool (gW p k)) := by
 refine En [Fact.sl a (an k.r)] [(0, prV p), (1, ikV k (.slice a k.r.length c))] Tryz.func10 I Tryz.ntmps10 I (Ac I (Ac I (An _))) (Fc (ah hF1) Fn) (DO ?_)
 intro b2
 refine EW ?_
 intro b3
 refine Ka I (Nt (Cq (Cf [0, 1, 2, 3, 4, 5, 6, 7, 8, 9, 10, 11, 12] [] [0, 1, 0, 0, 0, 0, 0, 0, 0, 0, 3, 1, 0] (by kernel_rfl) (by kernel_rfl) I ?_)))
 refine Kj I (lda I I .tc u30 I ?_) ?_
 ·kernel_rfl
 refine Jg I I I I I (fun ext => Oc I I (ux fun w hS => tK (p := p))) ?_
 intro g7 hg7; (try dsimp only at hg7 ⊢)
 refine Kj I (Fa (q := 1) I I u33 I I) (Kj I (Fa (q := 1) I I u26 I I) (DY ?_))
 refine Kj I (Fa (q := 1) I I u33 I I) (Kj I (Fa (q := 2) I I u26 I I) (DY ?_))
 refine Kj I (Fa (q := 4) I I u33 I I) (DY ?_)
 refine Jf I I I I I (ia I I u31 (by kernel_rfl : _ = some (some (.string (S [])), 1, 16)) I (by simp only [List.map]; rfl) I I ?_ (by decide)) ?_
 ·simp [Value.cells]
 intro b16
 refine Jg I I I I I (oK I u31 (by kernel_rfl : _ = some (some (.string (S [])), 1, 16)) I .tc I I (fun ext w hS => by (exact hS.os)) (by rfl) (by refine ⟨?_, ?_, ?_, ?_⟩ <;> (try simp [fq]) <;> omega) (by (simp [Value.oneCell']; done))) ?_
 rintro ⟨o17, c17, s17⟩ hg17; (try dsimp only at hg17 ⊢)
 refine ES ?_
 refine WJ.nil ?_
 refine Nt (Cs (FQ ?_))
 refine Yo I u31 (Ym I (Km I (Nc 22 I (fun hg22 => ?_) (fun hg22 => ?_))))
 ·refine Kf 0 I u33 I I I .tc u9 ?_
  refine Yn I u9 (Ym I (Yp I (Km I (Nc 28 I (fun hg28 => ?_) (fun hg28 => ?_)))))
  ·refine Km I (Kq I (lda I I .tc u33 I ?_) ?_)
   ·kernel_rfl
   refine Kh I (Oc I I (fx fun w hS => n6 (k := k) (by (exact hS.sl)) (by omega))) ?_; intro g31; refine WL.pu ?_; intro hg31; (try dsimp only at hg31 ⊢); refine Kh I (pL I u31 (by kernel_rfl : _ = some (some (.string (S [])), 1, 16)) I .tc I I (fun w hS => by (exact hS.sl)) (by simp; omega) (by refine ⟨?_, ?_, ?_, ?_⟩ <;> (try simp [fq]) <;> omega) (by (simp [Value.oneCell']; done))) ?_; rintro ⟨o32, c32, s32⟩; refine WL.pu ?_; intro hg32; (try dsimp only at hg32 ⊢); refine Ns 32 I (v' := .slice (o32.map fun b => ⟨b, 0, none⟩) (fL p k).length c32) (by rw [uP]; congr 1; omega) ?_; refine Kc I (fun w hS => yv (l := fL p k) (a := o32.map fun b => ⟨b, 0, none⟩) (c := c32) (fk := 36) (cs := #[]) (p := fun x => decide ((x.length : Int) > 8)) (w := w) (by rw [wg]; exact hS.oc) (by rw [uP]; omega) (by kernel_rfl) (fun x hx w' hb => uO (x := x))) (Yt I (Yp I (Ka I (Nt (Ce ?_))))); exact R1 I I (by (rw [gW, Am hg22, Am hg28, Ds, Ds]; rfl))
  ·refine T4 I (T2 I (Yq I (to ?_))); exact R1 I I (by (rw [gW, Aq (show ¬ (k.name.length : Int) ≤ 60 by omega), Bool.false_and, Bool.and_false]; rfl))
 ·refine T4 I (Yq I (Km I (T4 I (T2 I (Yq I (to ?_))))))
  exact R1 I I (by (rw [gW, Aq (show ¬ (k.r.length : Int) ≤ 8 by omega)]; rfl))
theorem o0 {x : Bs} {w : World} :
  Cw 37 #[.string (S x)] w (.bool (decide ((x.length : Int) > 20))) := by
 refine En [] [(0, .string (S x))] Tryz.func37 I Tryz.ntmps37 I (Ac I (An _)) Fn (Cs (DT ?_)); refine Yn I u22 (Yg I (to ?_))
 exact GH
structure CS where
 sg : SG
 aa : Bs
 wv : Zs
 ms : List Bs
 d : List Int
 vs : List Bs
 ws : List Zs
 t : Tp
abbrev csC (q : CS) (m d v z x : Value) : List Value := [.string (S q.sg.a), .string (S q.sg.e), .string (S q.sg.v), .string (S q.aa), .bool q.wv.1, .string (S q.wv.2), m, d, v, z, x, .string (S q.t.seed), .int .i64 q.t.at_]
abbrev csV (q : CS) (m d v z x : Value) : Value := .agg #[.string (S q.sg.a), .string (S q.sg.e), .string (S q.sg.v), .string (S q.aa), .bool q.wv.1, .string (S q.wv.2), m, d, v, z, x, .string (S q.t.seed), .int .i64 q.t.at_]
abbrev zFs (w : World) (x : Zs) : Prop := x.2.length ≤ 140737488351232
def smL (q : CS) (i : Nat) : List Bs := [q.sg.a, q.sg.e, q.sg.v, q.aa, q.wv.2] ++ q.ms ++ q.vs ++ q.t.vals ++ (q.ws.take i).map (·.2)
theorem jV (q : CS) (i : Nat) (h : i ≤ q.ws.length) : (smL q i).length = 5 + q.ms.length + q.vs.length + q.t.vals.length + i := by simp [smL]; omega
theorem wk {q : CS} {i : Nat} (h : i < q.ws.length) : smL q (i + 1) = smL q i ++ [(q.ws.getD i default).2] := by
 rw [smL, smL, pR h, B7, ← Cl]; rfl
theorem tq {q : CS} {sp : List Value} : an (smL q 0) ++ sp = [.string (S q.sg.a), .string (S q.sg.e), .string (S q.sg.v), .string (S q.aa), .string (S q.wv.2)] ++ an q.ms ++ an q.vs ++ an q.t.vals ++ sp := by simp [smL, an]
abbrev rb (x : Bs) : Bool := decide ((x.length : Int) > 20)
def fm (q : CS) : Prop := (q.ms.length : Int) ≤ 20 ∧ (q.d.length : Int) ≤ 20 ∧ (q.vs.length : Int) ≤ 20 ∧ (q.ws.length : Int) ≤ 20 ∧ (q.t.vals.length : Int) ≤ 20 ∧ (q.t.seed.length : Int) ≤ 60 ∧ (smL q q.ws.length).any rb = false
instance (q : CS) : Decidable (fm q) := inferInstanceAs (Decidable (_ ∧ _))
abbrev sm6 (q : CS) : Prop := (q.ms.length : Int) ≤ 20 ∧ (q.d.length : Int) ≤ 20 ∧ (q.vs.length : Int) ≤ 20 ∧ (q.ws.length : Int) ≤ 20 ∧ (q.t.vals.length : Int) ≤ 20 ∧ (q.t.seed.length : Int) ≤ 60
theorem CZ {q : CS} (h : sm6 q) : Ending.returned (.bool (!(smL q q.ws.length).any rb)) = Ending.returned (.bool (decide (fm q))) := by
 obtain ⟨h1, h2, h3, h4, h5, h6⟩ := h
 cases h7 : (smL q q.ws.length).any rb <;> simp only [fm, h1, h2, h3, h4, h5, h6, h7, true_and] <;> rfl
theorem rA {q : CS} (h : ¬ sm6 q) : Ending.returned (.bool false) = Ending.returned (.bool (decide (fm q))) := by
 rw [Aq fun g => h ⟨g.1, g.2.1, g.2.2.1, g.2.2.2.1, g.2.2.2.2.1, g.2.2.2.2.2.1⟩]
theorem rz {q : CS} {ma da va za xa : Option Addr} {mc dc vc zc' xc : Nat} {w : World} {ok : Nat → Prop} (hF1 : (Fact.sl ma (an q.ms)).holds ok w) (hF2 : (Fact.sl da (fO q.d)).holds ok w) (hF3 : (Fact.sl va (an q.vs)).holds ok w) (hF4 : (Fact.sl za (aZ q.ws)).holds ok w) (hF5 : (Fact.sl xa (an q.t.vals)).holds ok w) (hm : q.ms.length ≤ 1048576) (hd : q.d.length ≤ 1048576) (hv : q.vs.length ≤ 1048576) (hz : q.ws.length ≤ 1048576) (hx : q.t.vals.length ≤ 1048576) :
  Cw 11 #[csV q (.slice ma q.ms.length mc) (.slice da q.d.length dc) (.slice va q.vs.length vc) (.slice za q.ws.length zc') (.slice xa q.t.vals.length xc)] w (.bool (decide (fm q))) := by
 refine En [Fact.sl ma (an q.ms), Fact.sl da (fO q.d), Fact.sl va (an q.vs), Fact.sl za (aZ q.ws), Fact.sl xa (an q.t.vals)] [(0, csV q (.slice ma q.ms.length mc) (.slice da q.d.length dc) (.slice va q.vs.length vc) (.slice za q.ws.length zc') (.slice xa q.t.vals.length xc))] Tryz.func11 I Tryz.ntmps11 I (Ac I (An _)) (Fc (ah hF1) (Fc (ah hF2) (Fc (ah hF3) (Fc (ah hF4) (Fc (ah hF5) Fn))))) (DO ?_)
 intro b1
 refine Ka I (Nt (Cs (Gm ?_)))
 refine Kq I (Fa (q := 0) I I u43 I I) (Kf 1 I u35 I I I .tc u22 ?_)
 refine Kq I (Fa (q := 0) I I u43 I I) (Kf 2 I u35 I I I .tc u22 ?_)
 refine Kf 3 I u43 I I I .tc u22 ?_
 refine Kq I (Fa (q := 4) I I u43 I I) (Kf 5 I u37 I I I .tc u22 ?_)
 refine Kh I (aO I I u31 (by kernel_rfl : _ = some (some (.string (S [])), 1, 16)) I (by simp only [List.map]; rfl) I I ?_ (by decide)) ?_
 ·simp [Value.cells]
 intro b20
 refine Ka I (Nt (Cq (WC.free (K := [⟨some b1, csC q (.slice ma q.ms.length mc) (.slice da q.d.length dc) (.slice va q.vs.length vc) (.slice za q.ws.length zc') (.slice xa q.t.vals.length xc), 43⟩]) (fs0 := []) [0, 1, 2, 3, 4, 5, 6, 7, 8, 9, 10, 11] [] [0, 0, 0, 1, 0, 0, 1, 0, 0, 0, 1, 0] (by kernel_rfl) (by kernel_rfl) I ?_)))
 refine ER ?_; refine Kj I (Fa (q := 6) I I u43 I I) (Gc ?_)
 refine Jg I I I I I (yw I u31 (by kernel_rfl : _ = some (some (.string (S [])), 1, 16)) I .tc I I (fun ext w hS => by (exact hS.sl)) (by simp) (by (refine ⟨?_, ?_, ?_, ?_⟩ <;> (try simp) <;> omega)) (by (simp [Value.oneCell']; done))) ?_
 rintro ⟨o24, c24, s24⟩ hg24; (try dsimp only at hg24 ⊢)
 refine Kj I (Fa (q := 8) I I u43 I I) (Gc ?_)
 refine Jg I I I I I (oK I u31 (by kernel_rfl : _ = some (some (.string (S [])), 1, 16)) I .tc I I (fun ext w hS => by (exact hS.sl)) (by simp) (by (refine ⟨?_, ?_, ?_, ?_⟩ <;> (try simp) <;> omega)) (by (simp [Value.oneCell']; done))) ?_
 rintro ⟨o27, c27, s27⟩ hg27; (try dsimp only at hg27 ⊢)
 refine Kj I (Fa (q := 10) I I u43 I I) (Kj I (Fa (q := 10) I I u41 I I) (Gc ?_))
 refine Jg I I I I I (oK I u31 (by kernel_rfl : _ = some (some (.string (S [])), 1, 16)) I .tc I I (fun ext w hS => by (exact hS.sl)) (by simp) (by (refine ⟨?_, ?_, ?_, ?_⟩ <;> (try simp) <;> omega)) (by (simp [Value.oneCell']; done))) ?_
 rintro ⟨o31, c31, s31⟩ hg31; (try dsimp only at hg31 ⊢)
 refine ES ?_
 refine WJ.nil ?_
 refine Nt (Cq (Cs ?_))
 have hs0 := jV q 0 (Ai _)
 refine Ns 3 I (v' := .slice (o31.map fun b => ⟨b, 0, none⟩) (smL q 0).length c31) (by rw [hs0]; rfl) ?_
 refine Kf 9 I u43 I I I .tc u39 ?_
 refine Yo I u39 (Km I (Nt (Cb (Lo (σ := Nat × (Option Nat) × Nat × (List Value)) [(1, _), (33, _), (34, _)] (fun gq => [(3, .slice (gq.2.1.map fun b => ⟨b, 0, none⟩) (smL q gq.1).length gq.2.2.1), (35, .int .i64 (gq.1 : Int))]) (fun gq => gq.1 ≤ q.ws.length ∧ gq.2.2.1 = (smL q gq.1).length + gq.2.2.2.length) (fun gq => q.ws.length - gq.1) (fun gq => [⟨gq.2.1, an (smL q gq.1) ++ gq.2.2.2, 22⟩, ⟨some b1, csC q (.slice ma q.ms.length mc) (.slice da q.d.length dc) (.slice va q.vs.length vc) (.slice za q.ws.length zc') (.slice xa q.t.vals.length xc), 43⟩]) (fun gq => [Fact.sl ma (an q.ms), Fact.sl da (fO q.d), Fact.sl va (an q.vs), Fact.sl za (aZ q.ws), Fact.sl xa (an q.t.vals)]) (0, o31, c31, s31) (S3 I I I) (S2 I I) (by (try dsimp only); exact ⟨Ai _, by omega⟩) (by exact fun w h => by rw [tq]; exact au _ h) ?_))))
 rintro ⟨i, o, cp, sp⟩ hinv1; (try dsimp only at hinv1 ⊢)
 obtain ⟨hi, hcp⟩ := hinv1
 refine DP (fun hc36 => ?_) (fun hc36 => ?_)
 ·have hil : i < q.ws.length := by omega
  have hsl := jV q i hi
  have hsl' := jV q (i + 1) hil
  refine E3 ?_; refine DX ?_
  refine EZ ?_
  refine AS ?_
  intro b5
  refine DQ ?_; refine Nt (Cg (Km I (Ej ?_)))
  refine Kh I (aO I I u31 (by kernel_rfl : _ = some (some (.string (S [])), 1, 16)) I (by simp only [List.map]; rfl) I I ?_ (by decide)) ?_
  ·simp [Value.cells]
  intro b42
  refine Kh I (pL I u31 (by kernel_rfl : _ = some (some (.string (S [])), 1, 16)) I .tc I I (fun w hS => by (exact hS.os)) (by rfl) (by (refine ⟨by simp, by omega, by omega, by omega⟩)) (by (simp [Value.oneCell']; done))) ?_
  rintro ⟨o43, c43, s43⟩
  refine WL.pu ?_
  intro hg43; (try dsimp only at hg43 ⊢)
  refine Ns 43 I (v' := .slice (o43.map fun b => ⟨b, 0, none⟩) (smL q (i + 1)).length c43) (by rw [hsl']; congr 1; omega) ?_
  refine Ka I (Nn (Xd (Xa (Cg (Kq I (Rz I I I (by omega)) (Km I (Nn (Lx ((i + 1, o43, c43, s43)) (by (try dsimp only); omega) (S3 I I I) (by refine (Sc ?_ (Sc ?_ (S0 _))) <;> (rfl)) ?_ (by exact fun w h => by dsimp only; rw [wk hil]; simp only [B7, Dr, List.map_nil]; exact au _ h)))))))))
  (try dsimp only)
  exact ⟨hil, by omega⟩
 ·refine AT ?_
  obtain rfl : i = q.ws.length := by omega
  have hsl := jV q q.ws.length (Bd _)
  refine Xa (Cs (Kf 6 I u43 I I I .tc u31 ?_))
  refine Yo I u31 (Ym I (Km I (Nc 49 I (fun hg49 => ?_) (fun hg49 => ?_))))
  ·refine Kf 7 I u43 I I I .tc u38 ?_; refine Yo I u38 (Ym I (Yp I (Km I (Nc 55 I (fun hg55 => ?_) (fun hg55 => ?_)))))
   ·refine Kf 8 I u43 I I I .tc u31 ?_; refine Yo I u31 (Ym I (Yp I (Km I (Nc 61 I (fun hg61 => ?_) (fun hg61 => ?_)))))
    ·refine Kf 9 I u43 I I I .tc u39 ?_; refine Yo I u39 (Ym I (Yp I (Km I (Nc 67 I (fun hg67 => ?_) (fun hg67 => ?_)))))
     ·refine Kq I (Fa (q := 10) I I u43 I I) (Kf 10 I u41 I I I .tc u31 ?_); refine Yo I u31 (Ym I (Yp I (Km I (Nc 74 I (fun hg74 => ?_) (fun hg74 => ?_)))))
      ·refine Kq I (Fa (q := 10) I I u43 I I) (Kf 11 I u41 I I I .tc u9 ?_); refine Yn I u9 (Ym I (Yp I (Km I (Nc 81 I (fun hg81 => ?_) (fun hg81 => ?_)))))
       ·refine Km I (Kc I (fun w hS => yv (l := smL q q.ws.length) (a := o.map fun b => ⟨b, 0, none⟩) (c := cp) (fk := 37) (cs := #[]) (p := rb) (w := w) hS.oc (by omega) (by kernel_rfl) (fun x hx w' hb => o0 (x := x))) (Yt I (Yp I (to ?_)))); exact R1 I I (by (exact CZ (by omega)))
       ·refine T2 I (Kt I (Yq I (to ?_))); exact GR
      ·refine T4 I (Kt I (Yq I (Km I (T2 I (Kt I (Yq I (to ?_))))))); exact GR
     ·refine Ft ?_; refine to ?_; exact GR
    ·refine T4 I (Yq I (Km I (Ft ?_))); refine to ?_; exact GR
   ·refine T4 I (Yq I (Km I (T4 I (Yq I (Km I (Ft ?_)))))); refine to ?_; exact GR
  ·refine T4 I (Yq I (Km I (T4 I (Yq I (Km I (T4 I (Yq I (Km I (Ft ?_))))))))); refine to ?_; exact GR
theorem vA : ∀ {d : List Int} {last n : Int}, eu last d n = true → d.Pairwise (· < ·)
 | [], _, _, _ => List.Pairwise.nil
 | x :: l, last, n, h => by
  rw [eu, Cj] at h
  exact List.Pairwise.cons (fun y hy => (i8 h.2 y hy).1) (vA h.2)
def lF (d : List Int) (n i : Nat) : List Nat := (List.range' i (n - i)).filter fun q : Nat => !(d.contains (q : Int))
theorem uG (d : List Int) (n : Nat) : lF d n 0 = bQ d n := by rw [lF, bQ, List.range_eq_range', Ch]
theorem uF (d : List Int) (n : Nat) : lF d n n = [] := by rw [lF, C0]; rfl
theorem so {d : List Int} {n i : Nat} (h : i < n) : lF d n i = (if d.contains (i : Int) then lF d n (i + 1) else i :: lF d n (i + 1)) := by
 rw [lF, show n - i = (n - (i + 1)) + 1 by omega, List.range'_succ, List.filter_cons]
 cases hc : d.contains (i : Int) <;> rfl
structure oP (d : List Int) (i j : Nat) : Prop where
 le : j ≤ d.length
 lo : ∀ x ∈ d.take j, x < (i : Int)
 hi : ∀ x ∈ d.drop j, (i : Int) ≤ x
section
variable {d : List Int} {n i j : Nat}
theorem zH (hp : d.Pairwise (· < ·)) (h : oP d i j) (hc : j < d.length ∧ d.getD j default = (i : Int)) : d.contains (i : Int) = true ∧ oP d (i + 1) (j + 1) := by
 obtain ⟨h1, h2⟩ := hc
 have hd := jr h1
 have hpd : (d.drop j).Pairwise (· < ·) := hp.sublist (List.drop_sublist _ _)
 rw [hd, List.pairwise_cons] at hpd
 refine ⟨List.contains_iff_mem.2 (h2 ▸ ap d j h1), h1, fun x hx => ?_, fun x hx => ?_⟩
 ·rw [aV h1] at hx
  rcases B6.1 hx with hx | hx
  ·have := h.lo x hx; omega
  ·have := List.mem_singleton.1 hx; omega
 ·have := hpd.1 x hx; omega
theorem xx (hp : d.Pairwise (· < ·)) (h : oP d i j) (hc : ¬ (j < d.length ∧ d.getD j default = (i : Int))) : d.contains (i : Int) = false ∧ oP d (i + 1) j := by
 have hgt : ∀ x ∈ d.drop j, (i : Int) < x := by
  intro x hx
  by_cases h1 : j < d.length
  ·have hd := jr h1; have hpd : (d.drop j).Pairwise (· < ·) := hp.sublist (List.drop_sublist _ _); rw [hd, List.pairwise_cons] at hpd; have h2 : d.getD j default ≠ (i : Int) := fun e => hc ⟨h1, e⟩
   have h3 := h.hi (d.getD j default) (by rw [hd]; exact List.mem_cons_self); rw [hd] at hx
   rcases A7.1 hx with hx | hx
   ·omega
   ·have := hpd.1 x hx; omega
  ·rw [Db (by omega)] at hx; cases hx
 refine ⟨?_, h.le, fun x hx => by have := h.lo x hx; omega, fun x hx => by have := hgt x hx; omega⟩
 cases hb : d.contains (i : Int)
 ·rfl
 ·exfalso
  have hm := List.contains_iff_mem.1 hb
  rw [← Dt j d] at hm
  rcases B6.1 hm with hm | hm
  ·have := h.lo _ hm; omega
  ·have := hgt _ hm; omega
end
theorem qK {d : List Int} {n x : Nat} {s l : List Nat} (h : s ++ x :: l = bQ d n) : x < n ∧ s.length < n := by
 have h1 : x ∈ bQ d n := by rw [← h]; simp
 have h2 := xz d n
 rw [← h, A5, Ar] at h2
 exact ⟨xy h1, by omega⟩
instance (priority := low) SubL.apq {α : Type} (x y z : List α) [h : SubL x z] : SubL x (y ++ z) := ⟨h.h.trans (List.sublist_append_right _ _)⟩
theorem qE {l : List Nat} : ∀ s : List Nat, itL (fun (s : List Nat) x => s ++ [x]) (fun _ _ => (none : Option Code)) l s = (s ++ l, none) := by
 induction l with
 | nil => intro s; simp [itL]
 | cons x l ih => intro s; rw [itL]; simp only [Option.isSome_none, Dc, if_false]; rw [ih]; simp
theorem oy {a : Option Addr} {m c n : Nat} {own0 : List Ent} {ok : Nat → Prop} {w0 : World} {fs : List Fact} {w : World} (hS0 : St ok w0 (own0) (fs) w) :
  Calls Tryz.prog 60 #[.slice a m c, .int .i64 (n : Int)] w fun e w' => ∃ g : Nat × Nat, e = .returned (.func (.func 109) #[] #[.pointer (some ⟨g.2, 0, none⟩), .pointer (some ⟨g.1, 0, none⟩)]) ∧ St ok w0 (⟨some g.2, [.int .i64 (n : Int)], 3⟩ :: ⟨some g.1, [.slice a m c], 38⟩ :: own0) fs w' := by
 refine enter (S := St ok w0 (own0) (fs)) (L := [(0, .slice a m c), (1, .int .i64 (n : Int))]) Tryz.func60 rfl Tryz.ntmps60 rfl (Ac rfl (Ac rfl (An _))) hS0 ?_
 refine DO ?_
 intro b2
 refine EW ?_
 intro b3
 refine Gq ?_; refine to ?_
 exact Rn I (.tmp I .nil) fun w' hS => ⟨(b2, b3), rfl, hS⟩
theorem ym {σ γ : Type} {CO : σ → γ → List Ent} {pg : σ → γ → Prop} {inv : σ → Nat → Prop} {after : σ → Nat → σ} {stop : σ → Nat → Option Code} {l : Nat} {r : Loop} {ok : Nat → Prop} {w0 : World} {fs : List Fact} {w : World} {d : List Int} {a : Option Addr} {c n b2 b3 : Nat} {s0 : σ} {J : List Nat → σ → Prop} [∀ s g, HasE (CO s g) b3 [.int .i64 (n : Int)] 3] [∀ s g, HasE (CO s g) b2 [.slice a d.length c] 38] [HasF fs a (fO d)] {g0 : γ} (hY : YOk Tryz.prog l r ok w0 fs CO pg inv after stop (fun y : Nat => #[Value.int .i64 (y : Int)])) (hS0 : St ok w0 (CO s0 g0) (Fact.lp l (rcd r none) :: fs) w) (hg0 : pg s0 g0) (hJ0 : J (bQ d n) s0) (hJ : ∀ l x s, J (x :: l) s → inv s x ∧ (stop s x = none → J l (after s x))) (hasc : eu 1 d (n : Int) = true) (hl : d.length ≤ 140737488351232) (hn : n ≤ 140737488351232) :
  Calls Tryz.prog 109 #[.func (.yield l) #[] #[], .pointer (some ⟨b3, 0, none⟩), .pointer (some ⟨b2, 0, none⟩)] w fun e w' => (∃ v, e = .returned v) ∧ ∃ g', ((itL after stop (bQ d n) s0).2 = none → pg ((itL after stop (bQ d n) s0).1) g') ∧ St ok w0 (CO ((itL after stop (bQ d n) s0).1) g') (Fact.lp l (rcd r ((itL after stop (bQ d n) s0).2)) :: fs) w' := by
 have hpw := vA hasc
 refine enter (S := St ok w0 (CO s0 g0) (Fact.lp l (rcd r none) :: fs)) (L := [(0, .func (.yield l) #[] #[]), (1, .pointer (some ⟨b3, 0, none⟩)), (2, .pointer (some ⟨b2, 0, none⟩))]) Tryz.func109 rfl Tryz.ntmps109 rfl (Ac rfl (Ac rfl (Ac rfl (An _)))) hS0 ?_
 refine Cs (Ka I (Nt (Cs (F2 ?_))))
 refine Km I (Nt (Cb (Lo (σ := Nat × Nat × σ × γ) [(0, _), (2, _), (6, _)] (fun gq => [(7, .int .i64 (gq.1 : Int)), (4, .int .i64 (gq.2.1 : Int))]) (fun gq => gq.1 ≤ n ∧ oP d gq.1 gq.2.1 ∧ pg gq.2.2.1 gq.2.2.2 ∧ J (lF d n gq.1) gq.2.2.1 ∧ itL after stop (lF d n gq.1) gq.2.2.1 = itL after stop (bQ d n) s0) (fun gq => n - gq.1) (fun gq => CO gq.2.2.1 gq.2.2.2) (fun gq => Fact.lp l (rcd r none) :: fs) (0, 0, s0, g0) (S3 I I I) (S2 I I) (by (try dsimp only); exact ⟨Ai _, ⟨Ai _, by simp, fun x hx => by have := (i8 hasc x (List.mem_of_mem_drop hx)).1; omega⟩, hg0, by rw [uG]; exact hJ0, by rw [uG]⟩) (fun _ h => h) ?_)))
 rintro ⟨i, j, s, g⟩ hinv1; (try dsimp only at hinv1 ⊢)
 obtain ⟨hi, hat, hgs, hJs, hit⟩ := hinv1
 refine DP (fun hc8 => ?_) (fun hc8 => ?_)
 ·have hil : i < n := by omega
  have hjl := hat.le
  rw [so hil] at hit hJs
  refine El ?_; refine Ka I (Nt (Cq (WC.joinP (σ := Unit) [(0, _), (2, _), (4, _), (5, _), (6, _), (7, _)] (fun gq => [(21, .bool (decide (j < d.length ∧ d.getD j default = (i : Int))))]) (fun gq => True) (S6 I I I I I I) ?_ ?_)))
  ·skip
   refine Cg (Km I (Kq I (Ld I I .tc u38) ?_)); refine Yo I u38 (Yl I (Km I (Nc 14 I (fun hg14 => ?_) (fun hg14 => ?_))))
   ·refine Kq I (Ld I I .tc u38) ?_; refine Km I (Kq I (Ib I I I u38 (by omega) (by (rw [Ag]; omega))) ?_); refine Kq I (ldm I I u3 I (by omega)) ?_; refine Km I (Yi I (Yp I (Nn (WX.joinP (()) (S6 I I I I I I) (by refine (Sc ?_ (S0 _)) <;> ((refine ai rfl ?_; (try dsimp only); (exact Af.2 (by omega))))) ?_ (fun _ h => h))))); (try dsimp only); done
   ·refine T4 I (T2 I (Yq I (Nn (WX.joinP (()) (S6 I I I I I I) (by refine (Sc ?_ (S0 _)) <;> ((exact congrArg (fun b => some (Value.bool b)) (by symm; apply Aq; omega)))) ?_ (fun _ h => h))))); (try dsimp only); done
  ·rintro _ hmeet; (try dsimp only at hmeet ⊢); refine Ci I (fun hc21 => ?_) (fun hc21 => ?_)
   ·have hst := zH hpw hat hc21; rw [Ab hst.1] at hit hJs; refine Cs (Km I (Kq I (Rz I I I (by omega)) (Ka I (Nt (Cx (Xc (Xe (Xa (Cg (Kq I (Rz I I I (by omega)) (Km I (Nn (Lx ((i + 1, j + 1, s, g)) (by (try dsimp only); omega) (S3 I I I) (by refine (Sc ?_ (Sc ?_ (S0 _))) <;> (rfl)) ?_ (fun _ h => h)))))))))))))); (try dsimp only); exact ⟨by omega, hst.2, hgs, hJs, hit⟩
   ·have hst := xx hpw hat hc21; rw [Aa (by rw [hst.1]; decide)] at hit hJs; obtain ⟨hin, hJn⟩ := hJ _ _ _ hJs; refine EN ?_; refine Kh I (dK hY [] (i) I I I I (hin) (hgs)) ?_; intro gy; refine WL.pu ?_; intro hgy; (refine WL.app0 ?_); refine Eq (fun hc27 => ?_) (fun hc27 => ?_)
    ·have hfin := eX hit (by simpa using hc27); refine Ce (Xf (Xb (Xb (Xf ?_)))); exact GD
    ·have hno := Dg.1 hc27; replace hit := eY hit hno; rw [hno]; refine Ck (Xd (Xa (Cg (Kq I (Rz I I I (by omega)) (Km I (Nn (Lx ((i + 1, j, after s i, gy)) (by (try dsimp only); omega) (S3 I I I) (by refine (Sc ?_ (Sc ?_ (S0 _))) <;> (rfl)) ?_ (fun _ h => h)))))))); (try dsimp only); exact ⟨by omega, hst.2, hgy hno, hJn hno, hit⟩
 ·refine AT ?_
  obtain rfl : i = n := by omega
  have hfin : (s, none) = itL after stop (bQ d i) s0 := by rw [← hit, uF]; rfl
  refine WX.ret_normal ?_
  exact Rn I .nil fun w' hS => ⟨⟨_, rfl⟩, g, fun _ => by rw [← hfin]; exact hgs, by rw [← hfin]; exact au _ hS⟩
end Go.Proofs.YtkdlonihbjhhoaaGreatDoor
