/-
  Parts of the walk: Coi1 Brc Brd Bre Build Apps Bld2 Sum Tra Trb.
-/
import Derived.Test.YtchonigdjamphaaGreatDoorQ13
import Derived.Lib.Builder
import Derived.Lib.UnsafeStr
import Derived.Lib.AppendStr
import Derived.Lib.MakeNoZero
namespace Go.Proofs.YtchonigdjamphaaGreatDoor
open Go.RowKit
set_option linter.unusedSimpArgs false
set_option linter.unusedVariables false
set_option maxHeartbeats 600000
set_option maxRecDepth 20000
structure Tp where
 vals : List Bs
 seed : Bs
 at_ : Int
deriving DecidableEq
abbrev Tp.v (t : Tp) (x : Value) : Value := .agg #[x, .string (S t.seed), .int .i64 t.at_]
def cr (t : Tp) : Prop := 0 ≤ t.at_ ∧ t.at_ ≤ 2147483647 ∧ ∀ s ∈ t.vals, okN s
instance (t : Tp) : Decidable (cr t) := inferInstanceAs (Decidable (_ ∧ _ ∧ _))
theorem sD (l : List Bs) (k : Nat) (h : k < l.length) : l.getD k default ∈ l := by
 rw [List.getD_eq_getElem?_getD, Ad h]; exact List.getElem_mem h
theorem s9 {l : List Bs} {k : Nat} {p : Bs → Prop} (h : k < l.length) (h1 : ∀ s ∈ l.take k, p s) (h2 : p (l.getD k default)) : ∀ s ∈ l.take (k + 1), p s := by
 intro s hs
 rw [Bv, Ad h] at hs
 rw [List.getD_eq_getElem?_getD, Ad h] at h2
 rcases Bx.1 hs with hs | hs
 ·exact h1 s hs
 ·simp at hs; subst hs; exact h2
theorem EP {a : Bs} {w : World} :
  Cw 275 #[.string (S a)] w (.bool (!decide (okN a))) := by
 refine En [] [(0, .string (S a))] Tryz.func275 I Tryz.ntmps275 I (Ac I (An _)) Fn (Cs (FN ?_)); refine Kc I (fun w hS => ay) (Yt I (le ?_))
 exact Iq
theorem BF {l : List Bs} {a : Option Addr} {cap : Nat} {w : World} {ok : Nat → Prop} (hF1 : (Fact.sl a (am l)).holds ok w) (hl : l.length ≤ 9223372036854775807) :
  Calls Tryz.prog 235 #[.slice a l.length cap, .func (.func 275) #[] #[]] w fun e w' => ∃ r : Int, e = .returned (.int .i64 r) ∧ (0 ≤ r ↔ ¬ ∀ s ∈ l, okN s) ∧ Below w.heap.size w w' := by
 refine En [Fact.sl a (am l)] [(0, .slice a l.length cap), (1, .func (.func 275) #[] #[])] Tryz.func235 I Tryz.ntmps235 I (Ac I (Ac I (An _))) (Fc (af hF1) Fn) (Cs (FM ?_)); refine HT ?_; refine Lp (σ := Nat) [(0, _), (1, _), (7, _)] (fun gq => [(8, .int .i64 (gq : Int))]) (fun gq => gq ≤ l.length ∧ ∀ s ∈ l.take gq, okN s) (fun gq => l.length - gq) (0) (S3 I I I) (S1 I) (by (try dsimp only); exact ⟨Af _, fun s h => by simp at h⟩) ?_
 rintro k hinv1; (try dsimp only at hinv1 ⊢)
 obtain ⟨hk, hks⟩ := hinv1
 refine ne (fun hc9 => ?_) (fun hc9 => ?_)
 ·refine FO ?_; refine Km I (FN ?_); refine Km I (Km I (FW ?_))
  refine Kq I (ldm I I u22 I (by omega)) ?_
  refine Ku I (a6 I I I (by kernel_rfl) I (Kv fun w hS => EP (a := l.getD k default))) (Nt (Ci I (fun hc16 => ?_) (fun hc16 => ?_)))
  ·refine Cs (Km I (le ?_)); refine FE ?_; exact Rn I (.tmp I .nil) fun w' hS => ⟨_, rfl, ⟨fun _ h => by have := h _ (sD l k (by omega)); simp_all, fun _ => by omega⟩, hS.below⟩
  ·refine Ck (Xd (Xa (Cg (Kq I (Rz I I I (by omega)) (Km I (Nn (Ly (k + 1) (by (try dsimp only); omega) (S3 I I I) (by refine (Sc ?_ (S0 _)) <;> (rfl)) ?_ (fun _ h => h)))))))); (try dsimp only); exact ⟨by omega, s9 (by omega) hks (by simpa using hc16)⟩
 ·refine Fq ?_
  obtain rfl : k = l.length := by omega
  rw [A7 (Ba _)] at hks
  refine Xa (Cs (le ?_))
  exact Rn I (.tmp I .nil) fun w' hS => ⟨-1, rfl, ⟨fun h => by omega, fun h => absurd hks h⟩, hS.below⟩
theorem xT {P : Program} {f : FuncId} {args : Array Value} {ok : Nat → Prop} {w0 : World} {own : List Ent} {fs : List Fact} {γ : Type} {val : γ → Value} {p : γ → Prop} (h : ∀ w, St ok w0 own fs w → Calls P f args w (fun e w' => ∃ r : γ, e = .returned (val r) ∧ p r ∧ Below w.heap.size w w')) :
  ∀ w, St ok w0 own fs w → Calls P f args w (fun e w' => ∃ g, e = .returned (val g) ∧ (p g ∧ St ok w0 own fs w')) :=
 fun w hS => (h w hS).mono fun e w' ⟨r, h1, h2, h3⟩ => ⟨r, h1, h2, hS.keep h3⟩
theorem yt {l : List Bs} {a : Option Addr} {cap : Nat} {w : World} {ok : Nat → Prop} (hF1 : (Fact.sl a (am l)).holds ok w) (hl : l.length ≤ 9223372036854775807) :
  Cw 172 #[.slice a l.length cap, .func (.func 275) #[] #[]] w (.bool (decide (¬ ∀ s ∈ l, okN s))) := by
 refine En [Fact.sl a (am l)] [(0, .slice a l.length cap), (1, .func (.func 275) #[] #[])] Tryz.func172 I Tryz.ntmps172 I (Ac I (Ac I (An _))) (Fc (af hF1) Fn) (Cs (FN ?_)); refine Km I (Kh I (Oc I I (xT fun w hS => BF (l := l) (a := a) (cap := cap) (w := w) hS.sl hl)) ?_)
 intro r; refine WL.pu ?_; intro hr
 refine Yh I (le ?_)
 exact Rn I (.tmp I .nil) fun w' hS => ⟨congrArg (fun b => Ending.returned (.bool b)) (Ak.2 hr), hS.below⟩
theorem BG {t : Tp} {a : Option Addr} {cap : Nat} {w : World} {ok : Nat → Prop} (hF1 : (Fact.sl a (am t.vals)).holds ok w) (hl : t.vals.length ≤ 9223372036854775807) :
  Cw 223 #[t.v (.slice a t.vals.length cap)] w (.bool (decide (cr t))) := by
 refine En [Fact.sl a (am t.vals)] [(0, t.v (.slice a t.vals.length cap))] Tryz.func223 I Tryz.ntmps223 I (Ac I (An _)) (Fc (af hF1) Fn) (Eq ?_)
 intro b1
 refine Ka I (Nt (Cs (HY ?_)))
 refine Yh I (Km I (Nc 6 I (fun hg6 => ?_) (fun hg6 => ?_)))
 ·refine HY ?_
  refine Ym I (Yp I (Km I (Nc 11 I (fun hg11 => ?_) (fun hg11 => ?_))))
  ·refine Hj ?_; refine Kc I (fun w hS => yt (l := t.vals) (by (exact hS.sl)) (by assumption)) (Yt I (Yp I (le ?_))); exact Rn I (.tmp I .nil) fun w' hS => ⟨congrArg (fun b => Ending.returned (.bool b)) (by rw [B7]; simp only [C4, decide_eq_false_iff_not, decide_eq_true_eq, Classical.not_not, Bool.false_eq_true]; unfold cr; (exact ⟨fun h => ⟨by omega, by omega, h⟩, fun h => h.2.2⟩)), hS.below⟩
  ·refine T4 I (Yq I (le ?_)); exact Rn I (.tmp I .nil) fun w' hS => ⟨congrArg (fun b => Ending.returned (.bool b)) (by rw [B7]; simp only [C4, decide_eq_false_iff_not, decide_eq_true_eq, Classical.not_not, Bool.false_eq_true]; unfold cr; (exact ⟨fun h => h.elim, fun h => by omega⟩)), hS.below⟩
 ·refine T2 I (Kt I (Yq I (Km I (T4 I (Yq I (le ?_))))))
  exact Rn I (.tmp I .nil) fun w' hS => ⟨congrArg (fun b => Ending.returned (.bool b)) (by rw [B7]; simp only [C4, decide_eq_false_iff_not, decide_eq_true_eq, Classical.not_not, Bool.false_eq_true]; unfold cr; (exact ⟨fun h => h.elim, fun h => by omega⟩)), hS.below⟩
theorem ux {l : List Bs} {a : Option Addr} {m cap : Nat} {w : World} {ok : Nat → Prop} (hF1 : (Fact.sl a (am l)).holds ok w) (hl : l.length ≤ 1000000) (hm : m = l.length) :
  Calls Tryz.prog 100 #[.slice a m cap] w fun e w' => ∃ g : Rs, e = .returned (g.val l.length) ∧ g.cap = l.length + g.sp.length ∧ St (fun _ => True) w [g.ent (am l) 22] [] w' := by
 refine En [Fact.sl a (am l)] [(0, .slice a m cap)] Tryz.func100 I Tryz.ntmps100 I (Ac I (An _)) (Fc (af hF1) Fn) (Cs (FM ?_)); refine Kq I (ns I I I u33) (Nt (Ci I (fun hc4 => ?_) (fun hc4 => ?_)))
 ·have hl0 : l = [] := by simpa using lq hF1 hc4
  subst hl0
  refine Cs (le ?_); refine Xb ?_
  exact Rn I (.tmp I .nil) fun w' hS => ⟨⟨none, 0, []⟩, rfl, rfl, (hS.nil _).sub (Ax _) (fun _ h => by cases h)⟩
 ·refine Ck (Xa (Cs (Kh I (aN I I u33 (by kernel_rfl : _ = some (some (.string (S [])), 1, 16)) I (by simp only [List.map]; rfl) I I ?_ (by decide)) ?_)))
  ·simp [Value.cells]
  intro b5
  refine Km I (Kh I (Fo I u33 (by kernel_rfl : _ = some (some (.string (S [])), 1, 16)) I .tc I I (fun w hS => by (exact hS.sl)) (by simp [hm]) (by (refine ⟨?_, ?_, ?_, ?_⟩ <;> (try simp) <;> omega)) (by (simp [Value.oneCell']; done))) ?_)
  rintro ⟨o7, c7, s7⟩
  refine WL.pu ?_
  intro hg7; (try dsimp only at hg7 ⊢)
  refine le ?_
  exact Rn I (.tmp I .nil) fun w' hS => ⟨⟨o7, c7, s7⟩, by simp [Rs.val, hm, tup], by simpa [hm] using hg7, by simpa using hS.sub (Ax _) (fun _ h => by cases h)⟩
theorem px {l m : List Bs} {k : Nat} (h1 : k < l.length) (h2 : k < m.length) (h : l.take k = m.take k) (h3 : l.getD k default = m.getD k default) : l.take (k + 1) = m.take (k + 1) := by
 rw [List.getD_eq_getElem?_getD, List.getD_eq_getElem?_getD, Ad h1, Ad h2] at h3
 rw [Bv, Bv, h, Ad h1, Ad h2]
 rw [Option.toList, Option.toList]; simp only [Option.getD] at h3; rw [h3]
theorem wN {l m : List Bs} {a b : Option Addr} {ca cb : Nat} {w : World} {ok : Nat → Prop} (hF1 : (Fact.sl a (am l)).holds ok w) (hF2 : (Fact.sl b (am m)).holds ok w) (hl : l.length ≤ 1000000) (hm : m.length ≤ 1000000) :
  Cw 47 #[.slice a l.length ca, .slice b m.length cb] w (.bool (decide (l = m))) := by
 refine En [Fact.sl a (am l), Fact.sl b (am m)] [(0, .slice a l.length ca), (1, .slice b m.length cb)] Tryz.func47 I Tryz.ntmps47 I (Ac I (Ac I (An _))) (Fc (af hF1) (Fc (af hF2) Fn)) (Cs (FM ?_)); refine Yo I u33 (Km I (Yo I u33 (Yj I (Nt (Ci I (fun hc10 => ?_) (fun hc10 => ?_))))))
 ·refine Cs (le ?_); refine Xb ?_
  exact Rn I (.tmp I .nil) fun w' hS => ⟨congrArg (fun b => Ending.returned (.bool b)) (by symm; rw [decide_eq_false_iff_not]; intro h; rw [h] at hc10; exact hc10 rfl), hS.below⟩
 ·refine Ck (HJ ?_); refine Lp (σ := Nat) [(0, _), (1, _)] (fun gq => [(5, .int .i64 (gq : Int))]) (fun gq => gq ≤ l.length ∧ l.take gq = m.take gq) (fun gq => l.length - gq) (0) (S2 I I) (S1 I) (by (try dsimp only); exact ⟨Af _, by simp⟩) ?_
  rintro k hinv1; (try dsimp only at hinv1 ⊢)
  obtain ⟨hk, hkk⟩ := hinv1
  refine Cq (Hd ?_); refine Yo I u33 (F7 (fun hc14 => ?_) (fun hc14 => ?_))
  ·refine Ck (Xa (Cq (Cb (Cq (Cf [0, 1, 2, 3, 4, 5, 6, 7, 8] [] [0, 0, 0, 0, 0, 0, 0, 0, 0] (by kernel_rfl) (by kernel_rfl) I ?_))))); refine Ft ?_; refine GD ?_; refine Kj I (ldm I I u22 I (by omega)) ?_; refine Ft ?_; refine GD ?_; refine Kj I (ldm I I u22 I (by omega)) ?_; refine Kj I (pE I I I) ?_; refine WJ.nil ?_; refine Nt (Ci I (fun hc25 => ?_) (fun hc25 => ?_))
   ·refine Cs (le ?_); refine FE ?_; exact Rn I (.tmp I .nil) fun w' hS => ⟨congrArg (fun b => Ending.returned (.bool b)) (by symm; rw [decide_eq_false_iff_not]; intro h; rw [h] at hc25; simp at hc25), hS.below⟩
   ·refine Ck (Xd (Xa (Cg (Km I (Kq I (Rz I I I (by omega)) (Ka I (Nn (Ly (k + 1) (by (try dsimp only); omega) (S2 I I) (by refine (Sc ?_ (S0 _)) <;> (rfl)) ?_ (fun _ h => h))))))))); (try dsimp only); exact ⟨by omega, px (by omega) (by omega) hkk (by simpa using hc25)⟩
  ·refine Fq ?_; obtain rfl : k = l.length := by omega
   rw [A7 (Ba _), A7 (by omega)] at hkk; refine Xa (Cs (le ?_)); exact R1 I I (by rw [hkk]; simp [tup])
def Fh (t : Tp) : Prop := t.vals.length ≤ 40 ∧ t.seed.length ≤ 100 ∧ ∀ s ∈ t.vals, s.length ≤ 140
instance (t : Tp) : Decidable (Fh t) := inferInstanceAs (Decidable (_ ∧ _ ∧ _))
theorem BB {a : Option Addr} {c : Nat} {f : Value} {w : World} :
  Cw 142 #[.slice a 0 c, f] w (.int .i64 (-1)) := by
 refine En [] [(0, .slice a 0 c), (1, f)] Tryz.func142 I Tryz.ntmps142 I (Ac I (Ac I (An _))) Fn (Cs (FM ?_)); refine Yo I u47 (Km I (Nt (Cb (Lp (σ := Nat) [(0, _), (1, _), (7, _)] (fun gq => [(8, .int .i64 0)]) (fun gq => 0 ≤ gq) (fun gq => 0) (0) (S3 I I I) (S1 I) (by (try dsimp only); exact Af _) ?_))))
 rintro u hinv1; (try dsimp only at hinv1 ⊢)
 refine Cs (Yl I (Nt (Cq (Cd I (fun hc9 => by exfalso; (try simp only [sB] at hc9); omega) (fun hc9 => ?_)))))
 (try simp only [sB] at hc9)
 refine Fq ?_; refine Xa (Cs (le ?_))
 exact Iq
theorem p6 {a : Option Addr} {c : Nat} {f : Value} {w : World} :
  Cw 64 #[.slice a 0 c, f] w (.bool false) := by
 refine En [] [(0, .slice a 0 c), (1, f)] Tryz.func64 I Tryz.ntmps64 I (Ac I (Ac I (An _))) Fn (Cs (FN ?_)); refine Km I (Kc I (fun w hS => BB) (Yh I (le ?_)))
 exact Iq
theorem pk {a : Option Addr} {c : Nat} {w : World} :
  Cw 75 #[.slice a 0 c] w (.bool true) := by
 refine En [] [(0, .slice a 0 c)] Tryz.func75 I Tryz.ntmps75 I (Ac I (An _)) Fn (Cs (FN ?_)); refine Kc I (fun w hS => p6) (Yt I (le ?_))
 exact Iq
theorem vW {x : Bs} {w : World} :
  Cw 173 #[.string (S x)] w (.bool (decide (¬ okN x))) := by
 refine En [] [(0, .string (S x))] Tryz.func173 I Tryz.ntmps173 I (Ac I (An _)) Fn (Cs (FN ?_)); refine Kc I (fun w hS => ay (a := x)) (Yt I (le ?_))
 exact IE
theorem Fp (l : List Bs) : (l.any fun x => decide (¬ okN x)) = decide (¬ ∀ x ∈ l, okN x) := by
 rw [B7, List.any_eq_true, decide_eq_true_iff]
 simp only [decide_eq_true_iff]
 exact ⟨fun ⟨x, h1, h2⟩ h => h2 (h x h1), fun h => A8 fun h1 => h fun x hx => A8 fun h2 => h1 ⟨x, hx, h2⟩⟩
theorem rz {l : List Bs} {a : Option Addr} {c : Nat} {w : World} {ok : Nat → Prop} (hF1 : (Fact.sl a (am l)).holds ok w) (hl : l.length ≤ 100000) :
  Cw 89 #[.slice a l.length c] w (.bool (decide (∀ x ∈ l, okN x))) := by
 refine En [Fact.sl a (am l)] [(0, .slice a l.length c)] Tryz.func89 I Tryz.ntmps89 I (Ac I (An _)) (Fc (af hF1) Fn) (Cs (FN ?_)); refine Kc I (fun w hS => vN (l := l) (a := a) (c := c) (fk := 173) (cs := #[]) (p := fun x => decide (¬ okN x)) (w := w) hS.sl (by omega) (by kernel_rfl) (fun x hx w' hb => vW (x := x))) (Yt I (le ?_))
 exact R1 I I (by exact congrArg (fun b => Ending.returned (.bool b)) (by rw [Fp, decide_not, Bool.not_not]))
theorem yJ {t : Tp} {a : Option Addr} {c : Nat} {w : World} {ok : Nat → Prop} (hF1 : (Fact.sl a (am t.vals)).holds ok w) (hl : t.vals.length ≤ 100000) :
  Cw 76 #[t.v (.slice a t.vals.length c)] w (.bool (decide (cr t))) := by
 refine En [Fact.sl a (am t.vals)] [(0, t.v (.slice a t.vals.length c))] Tryz.func76 I Tryz.ntmps76 I (Ac I (An _)) (Fc (af hF1) Fn) (Eq ?_)
 intro b1
 refine Ka I (Nt (Cs (Hj ?_)))
 refine Kc I (fun w hS => rz (l := t.vals) (by (exact hS.sl)) (by assumption)) (Km I (Nc 6 I (fun hg6 => ?_) (fun hg6 => ?_)))
 ·refine HY ?_
  refine Yh I (Yp I (Km I (Nc 11 I (fun hg11 => ?_) (fun hg11 => ?_))))
  ·refine HY ?_; refine Ym I (Yp I (le ?_)); exact R1 I I (by exact congrArg (fun b => Ending.returned (.bool b)) (by (unfold cr; (simp_all; done))))
  ·refine T2 I (Kt I (Yq I (le ?_))); exact R1 I I (by exact congrArg (fun b => Ending.returned (.bool b)) (by (exact (Aj fun h : cr t => by have h1 := h.1; have h2 := h.2.1; omega).symm)))
 ·refine T2 I (Kt I (H4 ?_)); refine le ?_
  exact R1 I I (by exact congrArg (fun b => Ending.returned (.bool b)) (by (unfold cr; (simp [*]; done))))
theorem wb {a : Option Addr} {c : Nat} {w : World} :
  Cw 77 #[cl0, .slice a 0 c] w (.tuple #[.slice none 0 0, .int .i64 0]) := by
 refine En [] [(0, cl0), (1, .slice a 0 c)] Tryz.func77 I Tryz.ntmps77 I (Ac I (Ac I (An _))) Fn (Eq ?_)
 intro b2
 refine Ka I (FM ?_); refine Yo I u47 (HH ?_)
 refine Yo I u52 (Yj I (Ns 17 I (v' := .bool false) (by rfl) ?_))
 refine Fx (fun _ => ?_)
 refine Ck (Xa (Cs (Km I (Yo I u47 (Kh I (ed I I I u95 (by kernel_rfl : _ = some (some (.bool false), 1, 1)) I ?_ (by (try simp only [sN, Int.reduceToNat, Nat.reduceAdd, Nat.reduceMul, Nat.reduceSub]); rfl) (by (try simp only [sN, Int.reduceToNat, Nat.reduceAdd, Nat.reduceMul, Nat.reduceSub]); rfl)) ?_)))))
 ·omega
 intro b20
 refine FM ?_; refine Yo I u47 (Km I (Nt (Cb (Lp (σ := Nat) [(1, _), (2, _), (6, _), (22, _)] (fun gq => [(23, .int .i64 0)]) (fun gq => 0 ≤ gq) (fun gq => 0) (0) (S4 I I I I) (S1 I) (by (try dsimp only); exact Af _) ?_))))
 rintro u hinv1; (try dsimp only at hinv1 ⊢)
 refine Cs (Yl I (Nt (Cq (HS (fun hc24 => ?_)))))
 (try simp only [sB] at hc24)
 refine Fq ?_; refine Xa (Cs (Kq I (Fa (q := 1) I I u57 I I) ?_))
 refine G7 ?_
 refine Km I (Kc I (fun w hS => BP) (Fs ?_)); refine Cq (Cs (Km I (Yi I (Ns 56 I (v' := .bool true) (by rfl) ?_))))
 refine Km I (Km I (Yo I u95 (Yg I (Ns 60 I (v' := .bool false) (by rfl) ?_))))
 refine Yp I (Km I (T4 I (Yq I (Ns 67 I (v' := .bool false) (by rfl) ?_))))
 refine Fx (fun _ => ?_)
 refine GG ?_; refine Ka I (le ?_)
 exact IF
theorem lI {w : World} :
  Cw 92 #[cl0] w (.string (S [])) := by
 refine En [] [(0, cl0)] Tryz.func92 I Tryz.ntmps92 I (Ac I (An _)) Fn (Eq ?_)
 intro b1
 refine GI ?_; refine HH ?_
 refine Yo I u52 (Km I (Nt (Cb (Lp (σ := Nat) [(8, _), (9, _)] (fun gq => [(10, .int .i64 0)]) (fun gq => 0 ≤ gq) (fun gq => 0) (0) (S2 I I) (S1 I) (by (try dsimp only); exact Af _) ?_))))
 rintro u hinv1; (try dsimp only at hinv1 ⊢)
 refine Cs (Yl I (Nt (Cq (Cd I (fun hc11 => by exfalso; (try simp only [sB] at hc11); omega) (fun hc11 => ?_)))))
 (try simp only [sB] at hc11)
 refine Fq ?_; refine Xa (Cs (le ?_))
 exact Iq
theorem lL {w : World} :
  Cw 59 #[cl0] w (.int .i64 0) := by
 refine En [] [(0, cl0)] Tryz.func59 I Tryz.ntmps59 I (Ac I (An _)) Fn (Eq ?_)
 intro b1
 refine GI ?_; refine Kq I (Fa (q := 1) I I u57 I I) (G7 ?_)
 refine HH ?_
 refine Yo I u52 (Kc I (fun w hS => o6) (FN ?_)); refine Yj I (Ns 20 I (v' := .bool false) (by rfl) ?_)
 refine Fx (fun _ => ?_)
 refine Ck (Xa (Cq (Cs (HH ?_))))
 refine Yo I u52 (Km I (Nt (Cb (Lp (σ := Nat) [(1, _), (23, _), (24, _)] (fun gq => [(25, .int .i64 0)]) (fun gq => 0 ≤ gq) (fun gq => 0) (0) (S3 I I I) (S1 I) (by (try dsimp only); exact Af _) ?_))))
 rintro u hinv1; (try dsimp only at hinv1 ⊢)
 refine Cs (Yl I (Nt (Cq (Cd I (fun hc26 => by exfalso; (try simp only [sB] at hc26); omega) (fun hc26 => ?_)))))
 (try simp only [sB] at hc26)
 refine Fq ?_; refine Xa (Cq (Cs (HH ?_)))
 refine Yo I u52 (Yi I (Nt (Cd I (fun hc38 => ?_) (fun hc38 => by exfalso; (try simp only [sB] at hc38); omega))))
 (try simp only [sB] at hc38)
 refine Cs (le ?_); refine Xb ?_
 exact Iq
theorem sZ {w : World} :
  Cw 118 #[cl0] w (.bool true) := by
 refine En [] [(0, cl0)] Tryz.func118 I Tryz.ntmps118 I (Ac I (An _)) Fn (Eq ?_)
 intro b1
 refine GI ?_; refine Kf 1 I j0 I I I .tc rO ?_
 refine Yo I rO (Km I (Nt (Cb (Lp (σ := Nat) [(1, _), (6, _), (7, _)] (fun gq => [(8, .int .i64 0)]) (fun gq => 0 ≤ gq) (fun gq => 0) (0) (S3 I I I) (S1 I) (by (try dsimp only); exact Af _) ?_))))
 rintro u hinv1; (try dsimp only at hinv1 ⊢)
 refine Cs (Yl I (Nt (Cq (Cd I (fun hc9 => by exfalso; (try simp only [sB] at hc9); omega) (fun hc9 => ?_)))))
 (try simp only [sB] at hc9)
 refine Fq ?_; refine Xa (Cs (Kf 0 I j0 I I I .tc u33 ?_))
 refine Kc I (fun w hS => rz (l := []) (a := none) (c := 0) (w := w) hJ (Af _)) (le ?_)
 exact Iq
theorem sS {w : World} :
  Cw 119 #[cl0, cl0] w (.int .i64 0) := by
 refine En [] [(0, cl0), (1, cl0)] Tryz.func119 I Tryz.ntmps119 I (Ac I (Ac I (An _))) Fn (Eq ?_)
 intro b2
 refine Gc ?_
 intro b3
 refine GI ?_; refine Kf 0 I j0 I I I .tc u33 ?_
 refine Yo I u33 (Hz ?_)
 refine Yo I u53 (Yj I (Km I (Ns 23 I (v' := .bool false) (by rfl) ?_)))
 refine Kf 1 I j0 I I I .tc rO ?_
 refine Yo I rO (HH ?_)
 refine Yo I u52 (Yj I (Ns 30 I (v' := .bool false) (by rfl) ?_))
 refine Yq I (Ns 31 I (v' := .bool false) (by rfl) ?_)
 refine Fx (fun _ => ?_)
 refine Ck (Xa (Cs (Kq I (lda I I .tc u57 I ?_) ?_)))
 ·kernel_rfl
 refine Kc I (fun w hS => lI) (GI ?_); refine Hz ?_
 refine Yo I u53 (Km I (Nt (Cb (Lp (σ := Nat) [(2, _), (3, _), (5, _), (36, _), (37, _)] (fun gq => [(38, .int .i64 0)]) (fun gq => 0 ≤ gq) (fun gq => 0) (0) (S5 I I I I I) (S1 I) (by (try dsimp only); exact Af _) ?_))))
 rintro u hinv1; (try dsimp only at hinv1 ⊢)
 refine Cs (Yl I (Nt (Cq (Cd I (fun hc39 => by exfalso; (try simp only [sB] at hc39); omega) (fun hc39 => ?_)))))
 (try simp only [sB] at hc39)
 refine Fq ?_; refine Xa (Cs (le ?_))
 exact Iq
theorem CH {w : World} :
  Cw 45 #[cl0, .slice none 0 0, cl0] w (.tuple #[.slice none 0 0, .int .i64 0]) := by
 refine En [] [(0, cl0), (1, .slice none 0 0), (2, cl0)] Tryz.func45 I Tryz.ntmps45 I (Ac I (Ac I (Ac I (An _)))) Fn (Eq ?_)
 intro b3
 refine Gc ?_
 intro b5
 refine Ka I (Ka I (Nt (Cq (Cs (Kq I (lda I I .tc u57 I ?_) ?_)))))
 ·kernel_rfl
 refine Kc I (fun w hS => lL) (FN ?_); refine Yj I (Ns 34 I (v' := .bool false) (by rfl) ?_)
 refine Fx (fun _ => ?_)
 refine GO ?_; refine Kc I (fun w hS => pk) (Yt I (Ns 38 I (v' := .bool false) (by rfl) ?_))
 refine Km I (Ns 39 I (v' := .bool false) (by rfl) ?_)
 refine Kq I (lda I I .tc j0 I ?_) ?_
 ·kernel_rfl
 refine Kc I (fun w hS => sZ) (Yt I (Yq I (Ns 43 I (v' := .bool false) (by rfl) ?_)))
 refine Fx (fun _ => ?_)
 refine Ck (Xa (Cq (Cs (Kq I (lda I I .tc u57 I ?_) ?_))))
 ·kernel_rfl
 refine Kq I (lda I I .tc j0 I ?_) ?_
 ·kernel_rfl
 refine Kc I (fun w hS => sS) (FN ?_); refine Yj I (Ns 48 I (v' := .bool false) (by rfl) ?_)
 refine Fx (fun _ => ?_)
 refine Ck (Xa (Cs (Kq I (lda I I .tc u57 I ?_) ?_)))
 ·kernel_rfl
 refine Km I (Kc I (fun w hS => wb) (Fs ?_)); refine Cq (Cs (Km I (Yj I (Ns 57 I (v' := .bool false) (by rfl) ?_))))
 refine Fx (fun _ => ?_)
 refine Ck (Xa (Cs (Kq I (lda I I .tc u57 I ?_) ?_)))
 ·kernel_rfl
 refine Kc I (fun w hS => lI) (Ka I (Nt (Cs (GI ?_)))); refine Hz ?_
 refine Yo I u53 (Km I (Nt (Cb (Lp (σ := Nat) [(1, _), (5, _), (10, _), (12, _), (63, _), (64, _)] (fun gq => [(13, .slice none 0 0), (65, .int .i64 0)]) (fun gq => 0 ≤ gq) (fun gq => 0) (0) (S6 I I I I I I) (S2 I I) (by (try dsimp only); exact Af _) ?_))))
 rintro u hinv1; (try dsimp only at hinv1 ⊢)
 refine Cs (Yl I (Nt (Cq (Cd I (fun hc66 => by exfalso; (try simp only [sB] at hc66); omega) (fun hc66 => ?_)))))
 (try simp only [sB] at hc66)
 refine Fq ?_; refine Xa (H7 ?_); refine le ?_
 exact IF
section
variable {ds : List Deferred} {ρ : Option Nat} {P : Program} {o : Oper} {n : Nat} {L : an} {ok : Nat → Prop} {w0 : World} {own : List Ent} {fs : List Fact} {x y : Operand} {v : Value} {t t2 e : TypeId} {b off : Nat} {cs : List Value} {T : TypeId} {Z : World → Prop}
theorem mw (op : BinOp) (p q : Option Addr) (w : World) : (eqGuard op t x y (.pointer p) (.pointer q)).run P w = .ok () w := by
 cases op <;> simp [eqGuard]
theorem qx {p : Option Addr} (hop : o.op = .binOp .eql t x y t2) (hx : ai L x = some (.pointer p)) (hy : ai L y = some (.pointer none)) (hu : P.underlying t = some (.pointer (P.pointee t))) : Rd ds P o n L Z (.bool p.isNone) :=
 aW hop hx hy (mw _ _ _) fun w => run_eql_pointer_nil w t p hu
theorem zQ {a : Addr} {j : TypeInfo} (hop : o.op = .binOp .neq t x y t2) (hx : ai L x = some (.pointer (some a))) (hy : ai L y = some (.pointer (some a))) (hu : P.underlying t = some (.pointer e)) (hi : P.info? e = some j) : Rd ds P o n L Z (.bool false) :=
 aW hop hx hy (mw _ _ _) fun w => Lib.run_neq_ptr_same w a hu hi
theorem St.shape {w : World} (hS : St ok w0 own fs w) (hk : InE own ⟨some b, cs, T⟩) : w.shape? b = some (T, cs.length) := by
 obtain ⟨kk, hk⟩ := hk.get
 simp [World.shape?, hS.block hk]
theorem zN {j : TypeInfo} (hop : o.op = .convert t t2 x) (hx : ai L x = some (.pointer (some ⟨b, off, none⟩))) (hk : InE own ⟨some b, cs, T⟩) (hs : P.underlying t = some (.pointer e)) (hd : P.underlying t2 = some .unsafePointer) (hi : P.info? e = some j) (hj : j.size ≠ 0) (hoff : off < cs.length) : Rd ds P o n L (St ok w0 own fs) (.pointer (some ⟨b, off, none⟩)) :=
 fZ hop hx fun w hS => Lib.run_to_unsafe w ⟨b, off, none⟩ hs hd hi hj (hS.shape hk) hoff
theorem ui {j : TypeInfo} (hop : o.op = .convert t t2 x) (hx : ai L x = some (.pointer (some ⟨b, off, none⟩))) (hk : InE own ⟨some b, cs, T⟩) (hs : P.underlying t = some .unsafePointer) (hd : P.underlying t2 = some (.pointer e)) (hi : P.info? e = some j) (hl : liesAt P P.depth T (cs.length / P.cellsOf T) off e 1 = true) : Rd ds P o n L (St ok w0 own fs) (.pointer (some ⟨b, off, none⟩)) :=
 fZ hop hx fun w hS => Lib.run_from_unsafe w ⟨b, off, none⟩ hs hd hi (hS.shape hk) hl
theorem ud {f : FuncId} {tys : Array TypeId} (hop : o.op = .call { callee := .value (.func f), args := #[x], argTypes := tys }) (hx : ai L x = some v) (hrun : ∀ w : World, (callFunc f #[v]).run P w = .ok (.value v) w) : Rd ds P o n L Z v :=
 aI fun a hF w _ => by
  simp only [execOp, hop, resolve, Act.eval, Deferred.ofValue, invoke]
  simp [hF.eval hx, hrun]
theorem tZ {a : Addr} {m c : Nat} {tys : Array TypeId} (hop : o.op = .call { callee := .builtin .unsafeSliceData, args := #[x], argTypes := tys }) (hx : ai L x = some (.slice (some a) m c)) (hc : c ≠ 0) : Rd ds P o n L Z (.pointer (some a)) :=
 aI fun ac hF w _ => by
  have := Lib.run_unsafeSliceData_row (P := P) w tys o.type a m c hc
  simp [execOp, hop, resolve, invoke, builtin, hF.eval hx, this]
theorem w8 {m c : Nat} {tys : Array TypeId} (hop : o.op = .call { callee := .builtin .unsafeSliceData, args := #[x], argTypes := tys }) (hx : ai L x = some (.slice none m c)) : Rd ds P o n L Z (.pointer none) :=
 aI fun ac hF w _ => by
  have := Lib.run_unsafeSliceData_nil (P := P) w tys o.type m c
  simp [execOp, hop, resolve, invoke, builtin, hF.eval hx, this]
theorem zM {p : Option Addr} {pt it : TypeId} (hop : o.op = .call { callee := .builtin .unsafeString, args := #[x, y], argTypes := #[pt, it] }) (hx : ai L x = some (.pointer p)) (hy : ai L y = some (.int .i64 0)) : Rd ds P o n L Z (.string (S [])) :=
 aI fun ac hF w _ => by
  have := Lib.run_unsafeString_none (P := P) w pt it o.type p
  simp [execOp, hop, resolve, invoke, builtin, hF.eval hx, hF.eval hy, this, S]
  rfl
theorem St.drop_freeze {w : World} {r : List Ent} {n : Nat} (h : St ok w0 (⟨some b, cs, T⟩ :: r) fs w) : St ok w0 r fs (w.freeze ⟨b, 0, none⟩ n) := by
 have h' := h.sub (own' := r) (fs' := fs) (Bm _ _) (fun _ h => h)
 have hb : w0.heap.size ≤ b := (h.lt (b := b) (eh (x := ⟨some b, cs, T⟩) (by simp) rfl)).1
 have hnb : b ∉ ids r := (C7.1 (show (b :: ids r).Nodup from h.nd)).1
 have hoth : ∀ k, k ≠ b → (w.freeze ⟨b, 0, none⟩ n).heap[k]? = w.heap[k]? := fun k hk => by
  unfold World.freeze
  split
  ·rfl
  ·simp only [Array.getElem?_modify]; rw [Aa (by omega)]
 have hsz : (w.freeze ⟨b, 0, none⟩ n).heap.size = w.heap.size := by unfold World.freeze; split <;> simp
 refine ⟨h'.okn, Lib.below_freeze h'.below hb n, fun x hx => Ent.holds_same (h'.own_ x hx) fun c hc => hoth c (fun e => hnb (by rw [← e]; exact eh hx hc)), h'.nd, fun f hf => ?_⟩
 have hf' := h.fact f hf
 refine f.mono (ok := fun c => ok c ∧ c ∉ ids (⟨some b, cs, T⟩ :: r)) (fun c hc => ⟨hc.1, fun hm => hc.2 (Cu b hm)⟩) ?_
 exact f.stable hf' (by rw [hsz]; exact Ba _) fun c _ hc => hoth c (fun e => hc.2 (by rw [e]; exact List.mem_cons_self))
theorem DH {m : List UInt8} {pt it : TypeId} {r : List Ent} {sp : List Value} {q : Ent} (hop : o.op = .call { callee := .builtin .unsafeString, args := #[x, y], argTypes := #[pt, it] }) (hx : ai L x = some (.pointer (some ⟨b, 0, none⟩))) (hy : ai L y = some (.int .i64 (m.length : Int))) (hp : P.underlying pt = some (.pointer e)) (hc : P.cellsOf e = 1) (h0 : m ≠ []) (h63 : m.length ≤ 9223372036854775807) :
  Og ds P o n L (St ok w0 (q :: ⟨some b, m.map B ++ sp, e⟩ :: r) fs) (fun _ : Unit => .string (S m)) (fun _ => St ok w0 (q :: r) fs) :=
 cB fun a hF w hS => by
  have hsh := hS.shape (b := b) (cs := m.map B ++ sp) (T := e) .t1
  have hbk : w.heap[b]? = some (.cells (m.map B ++ sp).toArray e (0, 0)) := hS.block (k := 1) rfl
  have hrun := Lib.run_unsafeString_row (P := P) w pt it o.type e hp hc b _ hsh m h0 (by simp) h63 (fun j c hj => by
   rw [Addr.add_lit, A3, df hbk]; exact gk m B sp j c hj)
  refine ⟨(), w.freeze ⟨b, 0, none⟩ m.length, .inl ?_, ?_⟩
  ·simp [execOp, hop, resolve, invoke, builtin, hF.eval hx, hF.eval hy, hrun]; rfl
  ·-- the entry is brought to the front
   exact (gF hS).drop_freeze
end
section
variable {ok : Nat → Prop} {w0 : World} {r : List Ent} {fs : List Fact}
end
theorem kH (l : List UInt8) : Lib.strCells (S l) = l.map B := by simp [Lib.strCells, S, B]
section
variable {ds : List Deferred} {P : Program} {o : Oper} {n : Nat} {L : an} {ok : Nat → Prop} {w0 : World} {own : List Ent} {C : Ent → List Ent} {fs : List Fact} {x y : Operand} {t u e : TypeId} {xs : List Value}
theorem tR {w : World} {own : List Ent} {kk : Nat} {ob : Option Nat} {len cap : Nat} {sp : List Value} {l : List UInt8} {ty : TypeId} (hS : St ok w0 own fs w) (hk : own[kk]? = some ⟨ob, xs ++ sp, e⟩)
  (hu : P.underlying t = some (.slice e)) (hv : P.underlying u = some .string) (hi : (P.info? e).map (fun i => (i.zero, i.size, i.bytes)) = some (some (.int .u8 0), 1, 1))
  (hxl : xs.length = len) (hcap : cap = len + sp.length) (hb : len + l.length ≤ 140737488355328) (hzz : ob = none ∨ 0 < cap) :
  ∃ (g : Gr) (w' : World), (Builtin.append_ #[t, u] ty #[.slice (ob.map fun b => ⟨b, 0, none⟩) len cap, .string (S l)]).run P w = .ok (.slice (g.ob.map fun b => ⟨b, 0, none⟩) (len + l.length) g.cap) w' ∧ (g.cap = len + l.length + g.sp.length ∧ (g.ob = none ∨ 0 < g.cap)) ∧ St ok w0 (own.set kk ⟨g.ob, (xs ++ l.map B) ++ g.sp, e⟩) fs w' := by
 obtain ⟨i', hi', hz, hs, hbb⟩ := info_parts hi
 have hsz : (S l).size = l.length := eR l
 have htake : (xs ++ sp).take len = xs := by rw [← hxl]; simp
 have zlen : ∀ q, (Builtin.zeroCells (Value.int .u8 0).cells q).toList = List.replicate q (.int .u8 0) := fun q => iy _ q
 have hsame : own.set kk ⟨ob, xs ++ sp, e⟩ = own := by
  apply Ef; intro q
  by_cases hq : kk = q
  ·subst hq; rw [Dk (Ap.1 hk).1, hk]
  ·rw [Dp hq]
 cases ob with
 | none =>
  have hcs : xs ++ sp = [] := hS.own_ _ (A9 hk)
  obtain ⟨rfl, rfl⟩ : xs = [] ∧ sp = [] := by simpa using hcs
  obtain rfl : len = 0 := by simpa using hxl.symm
  obtain rfl : cap = 0 := by simpa using hcap
  by_cases h0 : l.length = 0
  ·have hl : l = [] := B0 h0; subst hl; refine ⟨⟨none, 0, []⟩, w, ?_, ⟨rfl, .inl rfl⟩, by show St ok w0 (own.set kk ⟨none, [] ++ [], e⟩) fs w; rw [hsame]; exact hS⟩; simp [Builtin.append_, run_underlying hu, run_underlying hv, sizeOf, typeInfo, hi', hs, Builtin.lenOf, S, Builtin.firstCells, ByteArray.size]
  ·have hrun := run_append_nil_string (P := P) w t u ty e i' (.int .u8 0) hu hv hi' hz (S l) (by omega) (by omega) (by rw [hbb, hsz]; omega); rw [hsz] at hrun; refine ⟨⟨some w.heap.size, grownCap w l.length 0 e, List.replicate (grownCap w l.length 0 e - l.length) (.int .u8 0)⟩, _, by simpa using hrun, ?_, ?_⟩
   ·have := grownCap_ge w l.length 0 e; exact ⟨by simp; omega, .inr (by show 0 < grownCap w l.length 0 e; omega)⟩
   ·have := (hS.draw.alloc (l.map B ++ List.replicate (grownCap w l.length 0 e - l.length) (.int .u8 0)) e).replace kk
    have e1 : ((S l).data.map (fun b => Value.int .u8 b.toNat) ++ Builtin.zeroCells (Value.int .u8 0).cells (grownCap w l.length 0 e - l.length)) = (l.map B ++ List.replicate (grownCap w l.length 0 e - l.length) (Value.int .u8 0)).toArray := by
     apply Array.ext'; simp [zlen, S, B]
    simp only [List.nil_append]; rw [e1]; exact this
 | some b' =>
  have hbk := hS.block hk
  by_cases hroom : len + l.length ≤ cap
  ·have hrun := Lib.run_append_room_string (P := P) w t u ty e i' hu hv hi' hs b' len cap (xs ++ sp).toArray hbk (S l) (by omega) (by simp [hsz]; omega); rw [hsz, kH] at hrun; refine ⟨⟨some b', cap, (xs ++ sp).drop (len + l.length)⟩, _, hrun, ?_, ?_⟩
   ·exact ⟨by simp; omega, .inr (hzz.resolve_left (by simp))⟩
   ·have := hS.setRow hk (xs ++ l.map B ++ (xs ++ sp).drop (len + l.length)); simp only [htake]; exact this
  ·have hrun := Lib.run_append_grow_string (P := P) w t u ty e i' (.int .u8 0) hu hv hi' hz ⟨b', 0, none⟩ len cap xs (by rw [hs]; omega) (fun q v hq => by
     rw [Addr.add_lit, A3, df hbk]
     rw [B2 (Ap.1 hq).1]; exact hq) (S l) (by omega) (by omega) (by rw [hbb, hsz]; exact growslice_fits (by omega) (by omega))
   rw [hsz, kH] at hrun; refine ⟨⟨some w.heap.size, grownCap w (len + l.length) cap e, List.replicate (grownCap w (len + l.length) cap e - (len + l.length)) (.int .u8 0)⟩, _, hrun, ?_, ?_⟩
   ·have := grownCap_ge w (len + l.length) cap e; exact ⟨by simp; omega, .inr (by show 0 < grownCap w (len + l.length) cap e; omega)⟩
   ·have := (hS.draw.alloc (xs ++ l.map B ++ List.replicate (grownCap w (len + l.length) cap e - (len + l.length)) (.int .u8 0)) e).replace kk
    have e1 : (xs.toArray ++ (l.map B).toArray ++ Builtin.zeroCells (Value.int .u8 0).cells (grownCap w (len + l.length) cap e - (len + l.length))) = (xs ++ l.map B ++ List.replicate (grownCap w (len + l.length) cap e - (len + l.length)) (Value.int .u8 0)).toArray := by
     apply Array.ext'; simp [zlen]
    rw [e1]; exact this
theorem EQ {len cap : Nat} {ob : Option Nat} {sp : List Value} {l : List UInt8} (hop : o.op = .call { callee := .builtin .append, args := #[x, y], argTypes := #[t, u] }) (hu : P.underlying t = some (.slice e)) (hv : P.underlying u = some .string) (hi : (P.info? e).map (fun i => (i.zero, i.size, i.bytes)) = some (some (.int .u8 0), 1, 1))
  (hk : Ctx own ⟨ob, xs ++ sp, e⟩ C) (hx : ai L x = some (.slice (ob.map fun b => ⟨b, 0, none⟩) len cap)) (hy : ai L y = some (.string (S l)))
  (hb : xs.length = len ∧ cap = len + sp.length ∧ len + l.length ≤ 140737488355328 ∧ (ob = none ∨ 0 < cap)) :
  Og ds P o n L (St ok w0 own fs) (fun g : Gr => .slice (g.ob.map fun b => ⟨b, 0, none⟩) (len + l.length) g.cap) (fun g w => (g.cap = len + l.length + g.sp.length ∧ (g.ob = none ∨ 0 < g.cap)) ∧ St ok w0 (C ⟨g.ob, (xs ++ l.map B) ++ g.sp, e⟩) fs w) :=
 cB fun a hF w hS => by
  obtain ⟨kk, hkk, hC⟩ := hk.get
  obtain ⟨g, w', hrun, hp, hS'⟩ := tR (P := P) (ty := o.type) hS hkk hu hv hi hb.1 hb.2.1 hb.2.2.1 hb.2.2.2
  refine ⟨g, w', .inl ?_, hp, by rw [hC]; exact hS'⟩
  simp [execOp, hop, resolve, invoke, builtin, hF.eval hx, hF.eval hy, hrun]
end
section
variable {ds : List Deferred} {ρ : Option Nat} {P : Program} {Q : Exit → Act → World → Prop} {n : Nat} {L : an} {Z : World → Prop} {p : Prop} {ops rest : List Oper}
theorem WL.know (h : ∀ w, Z w → p) (k : p → WL ds P ops Q n rest L Z) : WL ds P ops Q n rest L Z := fun a w hF hS => k (h w hS) a w hF hS
end
def BOk (bb : Nat) (p : Option Addr) (ob : Option Nat) (m : List UInt8) (sp : List Value) (cap : Nat) : Prop := (p = none ∨ p = some ⟨bb, 0, none⟩) ∧ cap = m.length + sp.length ∧ (ob = none ∨ 0 < cap)
section
variable {ds : List Deferred} {P : Program} {o : Oper} {n : Nat} {L : an} {ok : Nat → Prop} {w0 : World} {own : List Ent} {fs : List Fact} {x : Operand} {t e : TypeId}
end
section
variable {ok : Nat → Prop} {w0 : World} {fs : List Fact}
end
theorem tE {s : Bs} {w : World} (hs : s.length ≤ 1000000) :
  Cw 234 #[.string (S s)] w (.string (S (sha s))) :=
 ju s hs w
theorem St.frc {ok : Nat → Prop} {w0 w : World} {ob : Option Nat} {xs sp : List Value} {T : TypeId} {r : List Ent} {fs : List Fact} (h : St ok w0 (⟨ob, xs ++ sp, T⟩ :: r) fs w) : St ok w0 r (Fact.sl (ob.map fun b => ⟨b, 0, none⟩) xs :: fs) w := by
 cases ob with
 | none =>
  have hcs : xs ++ sp = [] := h.own_ ⟨none, xs ++ sp, T⟩ (by simp)
  obtain ⟨rfl, rfl⟩ : xs = [] ∧ sp = [] := by simpa using hcs
  exact (h.sub (Bm _ _) (fun _ h => h)).add (f := Fact.sl none []) (Or.inl rfl)
 | some b => exact h.freeze (fun i hi => by rw [A3, B2 hi])
abbrev BDT (T : TypeId) (bb : Nat) (p : Option Addr) (ob : Option Nat) (m : List UInt8) (sp : List Value) (cap : Nat) (rr : List Ent) : List Ent :=
 ⟨some bb, [.pointer p, .slice (ob.map fun b => ⟨b, 0, none⟩) m.length cap], T⟩ :: ⟨ob, m.map B ++ sp, 5⟩ :: rr
abbrev td (T : TypeId) : Prop := liesAt Tryz.prog Tryz.prog.depth T (2 / Tryz.prog.cellsOf T) 0 242 1 = true
theorem AX : td 242 := by show _ = true; kernel_rfl
theorem ij : td 254 := by show _ = true; kernel_rfl
section
variable {ok : Nat → Prop} {w0 : World} {r : List Ent} {fs : List Fact}
theorem vR (T : TypeId) (hl : td T) (bb : Nat) (v : Value) (w : World) (hS : St ok w0 (⟨some bb, [.pointer none, v], T⟩ :: r) fs w) :
  Calls Tryz.prog 233 #[.pointer (some ⟨bb, 0, none⟩)] w fun e w' => ∃ _g : Unit, e = .returned (.tuple #[]) ∧ St ok w0 (⟨some bb, [.pointer (some ⟨bb, 0, none⟩), v], T⟩ :: r) fs w' := by
 obtain ⟨j, hj, hj2⟩ : ∃ j, Tryz.prog.info? 242 = some j ∧ j.size ≠ 0 := by
  have h : (Tryz.prog.info? 242).map (·.size) = some 2 := by kernel_rfl
  obtain ⟨j, h1, h2⟩ := C1.1 h
  exact ⟨j, h1, by omega⟩
 refine enter (L := [(0, .pointer (some ⟨bb, 0, none⟩))]) Tryz.func233 rfl Tryz.ntmps233 rfl (Ac rfl (An _)) hS ?_
 refine Cq (Cg (Km I (Gk ?_)))
 refine Kq I (ld I I .tc rN I (by rfl)) ?_
 refine Kq I (qx I I I (by kernel_rfl)) ?_
 refine Ns 6 I (v' := .bool true) (by rfl) ?_
 refine Nn (Xa (Cd I (fun _ => ?_) (fun h => by cases h)))
 refine Cg (Km I (Km I (Kq I (zN I I (by first | exact .here) rN CQ hj hj2 (by simp)) ?_)))
 refine Kq I (ud I I (fun w => by kernel_rfl)) ?_
 refine Kq I (ui I I (by first | exact .here) CQ rN hj hl) ?_
 refine Gk ?_
 refine Ng I I (st I I I .tc (by kernel_rfl) I ?_ I) ?_
 ·first | decide | (simp; done) | (simp; omega)
 intro _
 refine Nn (WX.ret_normal ?_)
 exact WX.ret0 rfl fun w' hS => ⟨(), rfl, hS⟩
theorem vQ (T : TypeId) (bb : Nat) (v : Value) (w : World) (hS : St ok w0 (⟨some bb, [.pointer (some ⟨bb, 0, none⟩), v], T⟩ :: r) fs w) :
  Calls Tryz.prog 233 #[.pointer (some ⟨bb, 0, none⟩)] w fun e w' => ∃ _g : Unit, e = .returned (.tuple #[]) ∧ St ok w0 (⟨some bb, [.pointer (some ⟨bb, 0, none⟩), v], T⟩ :: r) fs w' := by
 obtain ⟨j, hj⟩ : ∃ j, Tryz.prog.info? 242 = some j := by
  have h : (Tryz.prog.info? 242).map (·.size) = some 2 := by kernel_rfl
  obtain ⟨j, h1, h2⟩ := C1.1 h
  exact ⟨j, h1⟩
 refine enter (L := [(0, .pointer (some ⟨bb, 0, none⟩))]) Tryz.func233 rfl Tryz.ntmps233 rfl (Ac rfl (An _)) hS ?_
 refine Cq (Cg (Km I (Gk ?_)))
 refine Kq I (ld I I .tc rN I (by rfl)) ?_
 refine Kq I (qx I I I (by kernel_rfl)) ?_
 refine Ns 6 I (v' := .bool false) (by rfl) ?_
 refine Nn (Xa (Cd I (fun h => by cases h) (fun _ => ?_)))
 refine Cq (Cg (Km I (Gk ?_)))
 refine Kq I (ld I I .tc rN I (by rfl)) ?_
 refine Km I (Kq I (zQ I I I rN hj) (Ns 19 I (v' := .bool false) (by rfl) ?_))
 refine Nn (Xa (Cd I (fun h => by cases h) (fun _ => ?_)))
 refine Ck (WX.ret_normal ?_)
 exact WX.ret0 rfl fun w' hS => ⟨(), rfl, hS⟩
theorem ccT (T : TypeId) (hl : td T) (bb : Nat) (p : Option Addr) (hp : p = none ∨ p = some ⟨bb, 0, none⟩) (v : Value) (w : World) (hS : St ok w0 (⟨some bb, [.pointer p, v], T⟩ :: r) fs w) :
  Calls Tryz.prog 233 #[.pointer (some ⟨bb, 0, none⟩)] w fun e w' => ∃ _g : Unit, e = .returned (.tuple #[]) ∧ St ok w0 (⟨some bb, [.pointer (some ⟨bb, 0, none⟩), v], T⟩ :: r) fs w' := by
 rcases hp with rfl | rfl
 ·exact vR T hl bb v w hS
 ·exact vQ T bb v w hS
end
theorem wbT {T : TypeId} {bb : Nat} {p : Option Addr} {ob : Option Nat} {m : List UInt8} {sp : List Value} {cap : Nat} {c : UInt8} {rr : List Ent} {ok : Nat → Prop} {w0 : World} {fs : List Fact} {w : World} (hS0 : St ok w0 (BDT T bb p ob m sp cap rr) (fs) w) (hl : td T) (hB : BOk bb p ob m sp cap) (hm : m.length ≤ 1000000000) :
  Calls Tryz.prog 165 #[.pointer (some ⟨bb, 0, none⟩), B c] w fun e w' => ∃ g : Gr, e = .returned .nilIface ∧ BOk bb (some ⟨bb, 0, none⟩) g.ob (m ++ [c]) g.sp g.cap ∧ St ok w0 (BDT T bb (some ⟨bb, 0, none⟩) g.ob (m ++ [c]) g.sp g.cap rr) fs w' := by
 obtain ⟨hp, hcap, hz⟩ := hB
 refine enter (S := St ok w0 (BDT T bb p ob m sp cap rr) (fs)) (L := [(0, .pointer (some ⟨bb, 0, none⟩)), (1, B c)]) Tryz.func165 rfl Tryz.ntmps165 rfl (Ac rfl (Ac rfl (An _))) hS0 ?_
 refine Cs (FN ?_); refine Kh I (Oc I I (fun w hS => ccT T hl bb p hp _ w hS)) ?_
 intro _
 refine Nt (Hd ?_); refine Kq I (bA I I) ?_
 (refine Kq I (cA I I js I (by kernel_rfl) (by (try simp only [sN, Int.reduceToNat, Nat.reduceAdd, Nat.reduceMul, Nat.reduceSub]); rfl)) ?_)
 refine Hx ?_
 refine Km I (Kh I (aN I I aF (by kernel_rfl : _ = some (some (.int .u8 0), 1, 1)) I (by simp only [List.map]; rfl) I I ?_ (by decide)) ?_)
 ·simp [B, Value.cells]
 intro b13
 refine Kh I (ol I aF (by kernel_rfl : _ = some (some (.int .u8 0), 1, 1)) I .tc I I (fun w hS => by (exact hS.os)) (by rfl) (by (refine ⟨?_, ?_, ?_, ?_⟩ <;> (try simp) <;> omega)) (by simp [B, Value.oneCell'])) ?_
 rintro ⟨o14, c14, s14⟩
 refine WL.pu ?_
 intro hg14; (try dsimp only at hg14 ⊢)
 refine Kq I (bA I I) ?_
 (refine Kq I (cA I I js I (by kernel_rfl) (by (try simp only [sN, Int.reduceToNat, Nat.reduceAdd, Nat.reduceMul, Nat.reduceSub]); rfl)) ?_)
 refine Ng I I (st I I I .tc (by kernel_rfl) I ?_ (by rfl)) ?_
 ·(simp; done)
 intro _
 refine Nt (Cs (le ?_))
 exact Rn I (.tmp I .nil) fun w' hS => ⟨⟨o14, c14, s14⟩, rfl, ⟨.inr rfl, by simp; omega, .inr (by show 0 < c14; omega)⟩, by have := hS.sub (Bm _ _) (fun _ h => h); simpa [BDT] using this⟩
theorem wsT {T : TypeId} {bb : Nat} {p : Option Addr} {ob : Option Nat} {m s : List UInt8} {sp : List Value} {cap : Nat} {rr : List Ent} {ok : Nat → Prop} {w0 : World} {fs : List Fact} {w : World} (hS0 : St ok w0 (BDT T bb p ob m sp cap rr) (fs) w) (hl : td T) (hB : BOk bb p ob m sp cap) (hm : m.length + s.length ≤ 1000000000) :
  Calls Tryz.prog 164 #[.pointer (some ⟨bb, 0, none⟩), .string (S s)] w fun e w' => ∃ g : Gr, e = .returned (.tuple #[.int .i64 (s.length : Int), .nilIface]) ∧ BOk bb (some ⟨bb, 0, none⟩) g.ob (m ++ s) g.sp g.cap ∧ St ok w0 (BDT T bb (some ⟨bb, 0, none⟩) g.ob (m ++ s) g.sp g.cap rr) fs w' := by
 obtain ⟨hp, hcap, hz⟩ := hB
 refine enter (S := St ok w0 (BDT T bb p ob m sp cap rr) (fs)) (L := [(0, .pointer (some ⟨bb, 0, none⟩)), (1, .string (S s))]) Tryz.func164 rfl Tryz.ntmps164 rfl (Ac rfl (Ac rfl (An _))) hS0 ?_
 refine Cs (Ka I (FN ?_)); refine Kh I (Oc I I (fun w hS => ccT T hl bb p hp _ w hS)) ?_
 intro _
 refine Nt (Hd ?_); refine Kq I (bA I I) ?_
 (refine Kq I (cA I I js I (by kernel_rfl) (by (try simp only [sN, Int.reduceToNat, Nat.reduceAdd, Nat.reduceMul, Nat.reduceSub]); rfl)) ?_)
 refine Hx ?_
 refine Km I (Kh I (EQ I aF u9 (by kernel_rfl) .tc I I ?_) ?_)
 ·(refine ⟨?_, ?_, ?_, ?_⟩ <;> first | assumption | ((try simp) <;> omega))
 rintro ⟨o14, c14, s14⟩
 refine WL.pu ?_
 intro hg14; (try dsimp only at hg14 ⊢)
 refine Kq I (bA I I) ?_
 (refine Kq I (cA I I js I (by kernel_rfl) (by (try simp only [sN, Int.reduceToNat, Nat.reduceAdd, Nat.reduceMul, Nat.reduceSub]); rfl)) ?_)
 refine Ng I I (st I I I .tc (by kernel_rfl) I ?_ (by rfl)) ?_
 ·(simp; done)
 intro _
 refine Nt (Cs (Km I (Yn I u9 (Ka I (le ?_)))))
 exact Rn I (.tmp I (.tmp I .nil)) fun w' hS => ⟨⟨o14, c14, s14⟩, rfl, ⟨.inr rfl, by simpa using hg14.1, hg14.2⟩, by simpa [BDT] using hS⟩
theorem Fb {T : TypeId} {bb : Nat} {p : Option Addr} {ob : Option Nat} {m : List UInt8} {sp : List Value} {cap : Nat} {rr : List Ent} {ok : Nat → Prop} {w0 : World} {fs : List Fact} {w : World} (hS0 : St ok w0 (BDT T bb p ob m sp cap rr) (fs) w) :
  Calls Tryz.prog 169 #[.pointer (some ⟨bb, 0, none⟩)] w fun e w' => ∃ _g : Unit, e = .returned (.int .i64 (m.length : Int)) ∧ St ok w0 (BDT T bb p ob m sp cap rr) fs w' := by
 refine enter (S := St ok w0 (BDT T bb p ob m sp cap rr) (fs)) (L := [(0, .pointer (some ⟨bb, 0, none⟩))]) Tryz.func169 rfl Tryz.ntmps169 rfl (Ac rfl (An _)) hS0 ?_
 refine Cs (FN ?_); refine Kq I (bA I I) ?_
 (refine Kq I (cA I I js I (by kernel_rfl) (by (try simp only [sN, Int.reduceToNat, Nat.reduceAdd, Nat.reduceMul, Nat.reduceSub]); rfl)) ?_)
 refine Hx ?_
 refine Yo I aF (le ?_)
 exact WX.ret1 rfl rfl fun w' hS => ⟨(), rfl, hS⟩
section
variable {ok : Nat → Prop} {w0 : World} {fs : List Fact}
theorem E5 (T : TypeId) (bb g : Nat) (p : Option Addr) (m : List UInt8) (sp : List Value) (cap : Nat) (r : List Ent) (hm : m ≠ []) (hcap : cap = m.length + sp.length) (hml : m.length ≤ 1000000000) (w : World)
  (hS : St ok w0 (⟨some bb, [.pointer p, .slice (some ⟨g, 0, none⟩) m.length cap], T⟩ :: ⟨some g, m.map B ++ sp, 5⟩ :: r) fs w) :
  Calls Tryz.prog 166 #[.pointer (some ⟨bb, 0, none⟩)] w fun e w' => ∃ _g : Unit, e = .returned (.string (S m)) ∧ St ok w0 r fs w' := by
 have hml0 : m.length ≠ 0 := by simpa using hm
 refine enter (L := [(0, .pointer (some ⟨bb, 0, none⟩))]) Tryz.func166 rfl Tryz.ntmps166 rfl (Ac rfl (An _)) hS ?_
 refine Cq (Cg (Ka I (Nn (Xa (Cq (WC.mix [0, 0, 0, 0, 0, 0, 0, 0, 0, 0, 2, 2] (by kernel_rfl) (by kernel_rfl) (fun w h => h.draw) ?_))))))
 refine Gt ?_
 refine WM.r I I I (bA I I) ?_
 refine Gv ?_
 refine Ij ?_
 refine WM.r I I I (tZ I I (by omega)) ?_
 refine Gt ?_
 refine WM.r I I I (bA I I) ?_
 refine Gv ?_
 refine Ij ?_
 refine WM.r I I I (dN I I aF) ?_
 refine WM.h I I I (DH I I I EZ (by kernel_rfl) hm (by omega)) ?_
 intro _
 refine WM.hr I I I (Ra I I) ?_
 refine WM.nil ?_
 refine Xa (Ce ?_)
 exact WX.ret1 rfl rfl fun w' hS => ⟨(), rfl, hS.sub (Bm _ _) (fun _ h => h)⟩
theorem CZ (T : TypeId) (bb : Nat) (p ad : Option Addr) (cs : List Value) (cap : Nat) (r : List Ent) (had : ∃ q : Option Addr, ∀ (n : Nat) (L : an) (o : Oper) (x : Operand) (tys : Array TypeId), o.op = .call { callee := .builtin .unsafeSliceData, args := #[x], argTypes := tys } → ai L x = some (.slice ad 0 cap) → Rd [] Tryz.prog o n L (St ok w0 (⟨some bb, [.pointer p, .slice ad 0 cap], T⟩ :: r) fs) (.pointer q)) (w : World)
  (hS : St ok w0 (⟨some bb, [.pointer p, .slice ad 0 cap], T⟩ :: r) fs w) :
  Calls Tryz.prog 166 #[.pointer (some ⟨bb, 0, none⟩)] w fun e w' => ∃ _g : Unit, e = .returned (.string (S [])) ∧ St ok w0 r fs w' := by
 obtain ⟨q, had⟩ := had
 refine enter (L := [(0, .pointer (some ⟨bb, 0, none⟩))]) Tryz.func166 rfl Tryz.ntmps166 rfl (Ac rfl (An _)) hS ?_
 refine Cq (Cg (Ka I (Nn (Xa (Cq (WC.mix [0, 0, 0, 0, 0, 0, 0, 0, 0, 0, 0, 0] (by kernel_rfl) (by kernel_rfl) (fun w h => h.draw) ?_))))))
 refine Gt ?_
 refine WM.r I I I (bA I I) ?_
 refine Gv ?_
 refine Ij ?_
 refine WM.r I I I (had _ _ _ _ _ I I) ?_
 refine Gt ?_
 refine WM.r I I I (bA I I) ?_
 refine Gv ?_
 refine Ij ?_
 refine WM.r I I I (dN I I aF) ?_
 refine WM.r I I I (zM I I I) ?_
 refine HK ?_
 refine WM.nil ?_
 refine Xa (Ce ?_)
 exact WX.ret1 rfl rfl fun w' hS => ⟨(), rfl, hS.sub (Bm _ _) (fun _ h => h)⟩
theorem stT {T : TypeId} {bb : Nat} {p : Option Addr} {ob : Option Nat} {m : List UInt8} {sp : List Value} {cap : Nat} {r : List Ent} {w : World} (hS : St ok w0 (BDT T bb p ob m sp cap r) fs w) (hB : BOk bb p ob m sp cap) (hml : m.length ≤ 1000000000) :
  Calls Tryz.prog 166 #[.pointer (some ⟨bb, 0, none⟩)] w fun e w' => ∃ _g : Unit, e = .returned (.string (S m)) ∧ St ok w0 r fs w' := by
 obtain ⟨hp, hcap, hz⟩ := hB
 cases ob with
 | none =>
  have hcs : m.map B ++ sp = [] := hS.own_ ⟨none, m.map B ++ sp, 5⟩ (by simp)
  obtain ⟨h1, rfl⟩ : m.map B = [] ∧ sp = [] := by simpa using hcs
  obtain rfl : m = [] := by simpa using h1
  obtain rfl : cap = 0 := by simpa using hcap
  exact (CZ T bb p none [] 0 _ ⟨none, fun n L o x tys h1 h2 => w8 h1 h2⟩ w hS).mono fun _ _ ⟨g, he, hs⟩ => ⟨g, he, hs.sub (Bm _ _) (fun _ h => h)⟩
 | some g =>
  by_cases hm : m = []
  ·subst hm; have hc0 : 0 < cap := hz.resolve_left (by simp); exact (CZ T bb p (some ⟨g, 0, none⟩) [] cap _ ⟨some ⟨g, 0, none⟩, fun n L o x tys h1 h2 => tZ h1 h2 (by omega)⟩ w hS).mono fun _ _ ⟨g, he, hs⟩ => ⟨g, he, hs.sub (Bm _ _) (fun _ h => h)⟩
  ·exact E5 T bb g p m sp cap r hm hcap hml w hS
end
section
variable {ds : List Deferred} {ρ : Option Nat} {P : Program} {o : Oper} {n : Nat} {L : an} {ok : Nat → Prop} {w0 : World} {own : List Ent} {fs : List Fact} {x y : Operand} {t e : TypeId} {sz : Nat} {xs : List Value} {k k' : IntKind} {j m : Int}
theorem pF {ad : Option Addr} {len cap : Nat} {hi mx : Operand} (hop : o.op = .slice t x none (some hi) (some mx)) (hx : ai L x = some (.slice ad len cap)) (hh : ai L hi = some (.int k j)) (hm : ai L mx = some (.int k' m)) (hu : P.underlying t = some (.slice e)) (hs : (P.info? e).map (·.size) = some sz)
  (hb : 0 ≤ j ∧ j ≤ m ∧ m ≤ (cap : Int)) {q2 q3 : Nat} (h2 : j.toNat = q2) (h3 : m.toNat = q3) : Rd ds P o n L (St ok w0 own fs) (.slice ad q2 q3) :=
 aI fun a hF w hS => by
  subst h2 h3
  have e1 := cQ (P := P) (k := k') (i := m) (y' := cap) (c := .slice3Acap) (by omega) w
  have e2 := cQ (P := P) (k := k) (i := j) (y' := m.toNat) (c := .slice3B) (by omega) w
  cases ad <;> simp [execOp, hop, hF.eval hx, hF.eval hh, hF.eval hm, Instr.sliceAt, Instr.slice, run_underlying hu, Instr.sliceBounds, e1, e2, bi hs, Addr.add]
theorem qh {len m c : Nat} {adx ad : Option Addr} {news : List Value} {zv : Value} (hop : o.op = .call { callee := .builtin .append, args := #[x, y], argTypes := #[t, t] }) (hu : P.underlying t = some (.slice e)) (hi : (P.info? e).map (fun i => (i.zero, i.size, i.bytes)) = some (some zv, 1, sz)) (h1 : zv.cells = #[zv])
  (hx : ai L x = some (.slice adx len len)) (hy : ai L y = some (.slice ad m c)) [hf : HasF fs adx xs] (hsrc : ∀ w, St ok w0 own fs w → (Fact.sl ad news).holds (fun _ => True) w) (hm : news.length = m)
  (hb : xs.length = len ∧ (len = 0 → adx = none) ∧ 0 < m ∧ len + m ≤ 9223372036854775807 ∧ (len + m) * sz ≤ 140737488355328) (h1c : ∀ u ∈ news, u.oneCell' = true) :
  Og ds P o n L (St ok w0 own fs) (fun g : Gr => .slice (g.ob.map fun b => ⟨b, 0, none⟩) (len + m) g.cap) (fun g w => g.cap = len + m + g.sp.length ∧ St ok w0 (⟨g.ob, (xs ++ news) ++ g.sp, e⟩ :: own) fs w) := by
 obtain ⟨a1, a2, a3, a4, a5⟩ := hb
 by_cases h0 : len = 0
 ·subst h0
  obtain rfl := a2 rfl
  obtain rfl : xs = [] := B0 a1
  intro a w hF hS
  exact ol (own := ⟨none, [] ++ [], e⟩ :: own) (ob := none) (xs := []) (sp := []) (len := 0) (cap := 0) hop hu hi h1 .here hx hy (fun w h => hsrc w (h.sub (Bm _ _) (fun _ h => h))) hm ⟨rfl, rfl, a4, a5⟩ h1c a w hF (hS.nil e)
 ·intro a w hF hS
  exact bp (fun a' w' hh => by obtain ⟨u, e1, g, e2, h1, h2⟩ := hh; exact ⟨u, e1, g, e2, h1.1, h2⟩) (y7 hop hu hi h1 hx hy hsrc hm ⟨a1, Dm h0, a3, a4, a5⟩ a w hF hS)
end
abbrev FR : TypeId := 254
def be8 (n : Nat) : List UInt8 := (List.range 8).map fun k => UInt8.ofNat (n / 2 ^ (56 - 8 * k))
theorem pn {n k : Nat} (h : k < 8) : (be8 n).take (k + 1) = (be8 n).take k ++ [UInt8.ofNat (n / 2 ^ (56 - 8 * k))] := by
 rw [be8, ← List.map_take, ← List.map_take, List.take_range, List.take_range, Dh (by omega), Dh (by omega), List.range_succ, Bu]; rfl
theorem cj (n : Nat) : (be8 n).length = 8 := by rw [be8, Ag, List.length_range]
theorem fL {bb : Nat} {p : Option Addr} {ob : Option Nat} {m : List UInt8} {n : Nat} {sp : List Value} {cap : Nat} {rr : List Ent} {ok : Nat → Prop} {w0 : World} {fs : List Fact} {w : World} (hS0 : St ok w0 (BDT FR bb p ob m sp cap rr) (fs) w) (hB : BOk bb p ob m sp cap) (hm : m.length ≤ 900000000) (hn : n < 9223372036854775808) :
  Calls Tryz.prog 170 #[.pointer (some ⟨bb, 0, none⟩), .int .i64 (n : Int)] w fun e w' => ∃ g : Gr, e = .returned (.tuple #[]) ∧ BOk bb (some ⟨bb, 0, none⟩) g.ob (m ++ be8 n) g.sp g.cap ∧ St ok w0 (BDT FR bb (some ⟨bb, 0, none⟩) g.ob (m ++ be8 n) g.sp g.cap rr) fs w' := by
 refine enter (S := St ok w0 (BDT FR bb p ob m sp cap rr) (fs)) (L := [(0, .pointer (some ⟨bb, 0, none⟩)), (1, .int .i64 (n : Int))]) Tryz.func170 rfl Tryz.ntmps170 rfl (Ac rfl (Ac rfl (An _))) hS0 ?_
 refine Cs (Ka I (Nt (Cb (Lo (σ := Nat × (Option Addr) × Gr) [(0, _), (1, _)] (fun gq => [(4, .int .i64 (56 - 8 * ((gq.1 : Nat) : Int)))]) (fun gq => (gq.1 ≤ 8 ∧ (gq.1 = 0 ∨ gq.2.1 = some ⟨bb, 0, none⟩)) ∧ BOk bb gq.2.1 gq.2.2.ob (m ++ (be8 n).take gq.1) gq.2.2.sp gq.2.2.cap) (fun gq => 8 - gq.1) (fun gq => BDT FR bb gq.2.1 gq.2.2.ob (m ++ (be8 n).take gq.1) gq.2.2.sp gq.2.2.cap rr) (fun gq => fs) (0, p, ⟨ob, cap, sp⟩) (S2 I I) (S1 I) (by (try dsimp only); exact ⟨⟨by decide, .inl rfl⟩, by rw [Bz, A5]; exact hB⟩) (by exact fun w h => by rw [Bz, A5]; exact h) ?_))))
 rintro ⟨k, q, g⟩ hinv1; (try dsimp only at hinv1 ⊢)
 obtain ⟨⟨hk, hq⟩, hb⟩ := hinv1
 refine Cq (Cs (Km I (Hg (fun hc6 => ?_) (fun hc6 => ?_))))
 ·have hk7 : k < 8 := by omega
  have hl1 : (m ++ (be8 n).take k).length ≤ 1000000000 := by rw [Al, B1]; omega
  refine Ck (Xa (Cq (Cb (Cf [0, 1, 2, 3, 4, 5, 6] [7] [0, 0, 0, 0, 0, 0, 0, 2] (by kernel_rfl) (by kernel_rfl) I ?_))))
  refine GP ?_; refine Kj I (bA I I) ?_
  (refine Kj I (cA I I kC I (by kernel_rfl) (by (try simp only [sN, Int.reduceToNat, Nat.reduceAdd, Nat.reduceMul, Nat.reduceSub]); rfl)) ?_)
  refine Ft ?_
  refine WJ.set 13 I (v' := .int .i64 ((56 - 8 * k : Nat) : Int)) (congrArg (Value.int .i64) (by omega)) ?_
  refine Kj I (f6 I I I ?_) ?_
  ·omega
  refine Kj I (aS I I u3 u5) ?_
  refine WJ.set 15 I (v' := B (UInt8.ofNat (n / 2 ^ (56 - 8 * k)))) (by rw [sR _ _ (by omega)]; rfl) ?_
  refine WJ.nil ?_
  refine Kh I (Oc I I (fun w hS => wbT (T := FR) (bb := bb) (p := q) (ob := g.ob) (m := m ++ (be8 n).take k) (sp := g.sp) (cap := g.cap) (c := UInt8.ofNat (n / 2 ^ (56 - 8 * k))) (rr := rr) hS ij hb hl1)) ?_
  rintro ⟨g2, c2, s2⟩; refine WL.pu ?_; intro hb2
  refine Nn (Xd (Xa (Cg (Km I (Kq I (aK I I I (by omega)) (Ns 8 I (v' := .int .i64 (56 - 8 * ((k + 1 : Nat) : Int))) (congrArg (Value.int .i64) (by omega)) (Ka I (Nn (Lx ((k + 1, some ⟨bb, 0, none⟩, ⟨g2, c2, s2⟩)) (by (try dsimp only); omega) (S2 I I) (by refine (Sc ?_ (S0 _)) <;> (rfl)) ?_ (by exact fun w h => by rw [pn hk7, ← Cr]; exact h))))))))))
  (try dsimp only)
  exact ⟨⟨by omega, .inr rfl⟩, by rw [pn hk7, ← Cr]; exact hb2⟩
 ·refine Fq ?_
  obtain rfl : k = 8 := by omega
  have ht : (be8 n).take 8 = be8 n := A7 (by rw [cj]; exact Ba _)
  rw [ht] at hb
  rw [ht]
  obtain rfl : q = some ⟨bb, 0, none⟩ := hq.resolve_left (by decide)
  refine WX.ret_normal ?_
  exact Rn I .nil fun w' hS => ⟨g, rfl, hb, hS⟩
end Go.Proofs.YtchonigdjamphaaGreatDoor
