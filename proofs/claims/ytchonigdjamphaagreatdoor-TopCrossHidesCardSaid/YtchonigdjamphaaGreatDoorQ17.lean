/-
  Parts of the walk: Nrt Acm Sgc Zmd Shp Sgd Els Elf.
-/
import Derived.Test.YtchonigdjamphaaGreatDoorQ16
namespace Go.Proofs.YtchonigdjamphaaGreatDoor
open Go.RowKit
set_option linter.unusedSimpArgs false
set_option linter.unusedVariables false
set_option maxHeartbeats 600000
set_option maxRecDepth 20000
def cF (s : Sm) (w : List Zs) : List Bs × Int := if dL s w ≠ 0 then ([], dL s w) else imS s w
def Fact.fr (B : Nat) (f : Fact) : Fact where
 holds ok w := f.holds (fun b => ok b ∧ B ≤ b) w
 mono h := fun hh => f.mono (fun b hb => ⟨h b hb.1, hb.2⟩) hh
 stable := fun hh hs hk => f.stable hh hs (fun b hlt hb => hk b hlt hb.1)
 here := fun hh => f.mono (fun b hb => ⟨⟨hb.1.1, hb.2⟩, hb.1.2⟩) (f.here hh)
theorem uK {P : Program} {f : FuncId} {args : Array Value} {γ : Type} {val : γ → Value} {p : γ → Prop} {F : γ → Fact} {ok : Nat → Prop} {w0 : World} {own : List Ent} {fs : List Fact}
  (h : ∀ w, St ok w0 own fs w → Calls P f args w (fun e w' => ∃ g, e = .returned (val g) ∧ p g ∧ Below w.heap.size w w' ∧ ∀ x ∈ [F g], x.holds (fun b => w.heap.size ≤ b) w')) :
  ∀ w, St ok w0 own fs w → Calls P f args w (fun e w' => ∃ g, e = .returned (val g) ∧ p g ∧ St ok w0 own ([F g, Fact.fr w0.heap.size (F g)] ++ fs) w') :=
 bK fun w hS => (h w hS).mono fun _ w' ⟨g, he, hp, hb, hF⟩ => ⟨g, he, hp, hb, fun x hx => by
  have hf := hF (F g) (by simp)
  simp at hx
  rcases hx with rfl | rfl
  ·exact (F g).mono (fun _ h => .inr h) hf
  ·exact (F g).mono (fun b h => ⟨.inr h, Bi hS.below.size h⟩) hf⟩
theorem St.fr1 {ok : Nat → Prop} {w0 w : World} {own : List Ent} {fs : List Fact} {B : Nat} {f : Fact} (h : St ok w0 own fs w) (hf : Fact.fr B f ∈ fs) : f.holds (fun b => B ≤ b) w := by
 have h1 := h.fact (Fact.fr B f) hf
 exact f.mono (fun _ h => h.2) (show f.holds (fun b => (ok b ∧ b ∉ ids own) ∧ B ≤ b) w from h1)
theorem uH {s : SA} {ws : List Zs} {a : Option Addr} {c : Nat} {w : World} {ok : Nat → Prop} (hF1 : (Fact.sl s.ga (gps s.gs)).holds ok w) (hF2 : (Fact.sl s.va (vrs s.vs)).holds ok w) (hF3 : (Fact.sl s.ea (qas s.es)).holds ok w) (hF4 : (Fact.sl a (ar ws)).holds ok w) (hM : ∀ f ∈ (s.es.map qaF), f.holds ok w) (hs : saL s) (hw : ws.length ≤ 100000) :
  Calls Tryz.prog 74 #[saV s, .slice a ws.length c] w fun e w' => ∃ gx : Rs, e = .returned (.tuple #[gx.val (cF s.core ws).1.length, .int .i64 (cF s.core ws).2]) ∧ (True) ∧ Below w.heap.size w w' ∧ ∀ x ∈ ([Fact.sl gx.a (am (cF s.core ws).1)] : List Fact), x.holds (fun b => w.heap.size ≤ b) w' := by
 refine En (Fact.sl s.ga (gps s.gs) :: Fact.sl s.va (vrs s.vs) :: Fact.sl s.ea (qas s.es) :: Fact.sl a (ar ws) :: (s.es.map qaF)) [(0, saV s), (1, .slice a ws.length c)] Tryz.func74 I Tryz.ntmps74 I (Ac I (Ac I (An _))) (Fc (af hF1) (Fc (af hF2) (Fc (af hF3) (Fc (af hF4) (aE hM))))) (Eq ?_)
 intro b2
 refine Ka I (Ka I (Nt (Cq (Cs (Kq I (lda I I .tc u43 I ?_) ?_)))))
 ·kernel_rfl
 refine Km I (Kc I (fun w hS => qu (s := s) (ws := ws) (by (exact hS.sl)) (by (exact hS.sl)) (by (exact hS.sl)) (by (exact hS.sl)) (by (exact hS.more)) (by exact hs) (by exact hw)) (Ka I (Nt (Fz (fun hc11 => ?_) (fun hc11 => ?_)))))
 ·have hr : cF s.core ws = ([], dL s.core ws) := by rw [cF, Ae (by simpa using hc11)]
  refine H7 ?_; refine le ?_; refine Xb ?_
  exact Im
 ·have h0 : dL s.core ws = 0 := by simpa using hc11
  obtain ⟨hfo, hz, hk, hwl⟩ := kQ h0
  have hr : cF s.core ws = imS s.core ws := by rw [cF, Aa (fun h => h h0)]
  refine Ck (Xa (Cs (Kq I (lda I I .tc u43 I ?_) ?_)))
  ·kernel_rfl
  refine Km I (Kh I (Oc I I (uK (F := fun g : Rs => Fact.sl g.a (am (imS s.core ws).1)) fun w hS => oX (s := s) (ws := ws) hS.sl hS.sl hS.sl hS.more hs hwl hfo)) ?_)
  rintro g15; refine WL.pu ?_; intro hg15; (try dsimp only [List.cons_append, List.nil_append] at hg15 ⊢)
  refine Ye I (Ye I (Ka I (le ?_)))
  exact Rn I (.tmp I (.tmp I .nil)) fun w' hS => ⟨g15, by rw [hr]; rfl, trivial, hS.below, by rw [hr]; exact Fc (hS.fr1 (by simp)) Fn⟩
theorem nk {l : List Bs} {x : Bs} : am (l ++ [x]) = am l ++ [.string (S x)] := by simp [am]
theorem nT {l : List Zs} {z : Zs} : ar (l ++ [z]) = ar l ++ zc z := by simp
theorem ry {r : Gp} {s : SA} {w : World} {ok : Nat → Prop} (hF1 : (Fact.sl s.ga (gps s.gs)).holds ok w) (hF2 : (Fact.sl s.va (vrs s.vs)).holds ok w) (hF3 : (Fact.sl s.ea (qas s.es)).holds ok w) (hM : ∀ f ∈ (s.es.map qaF), f.holds ok w) (hs : saL s) (h4 : r.1.length ≤ 8) (h5 : r.2.length ≤ 8) (h6 : ∀ v ∈ s.vs, v.length ≤ 8) :
  Calls Tryz.prog 58 #[.agg #[.string (S r.1), .string (S r.2)], saV s] w fun e w' => ∃ gx : Rs × Rs, e = .returned (.tuple #[gx.1.val (bdS r s.core).1.length, gx.2.val (bdS r s.core).1.length, .int .i64 (bdS r s.core).2]) ∧ (True) ∧ Below w.heap.size w w' ∧ ∀ x ∈ ([Fact.sl gx.1.a (am ((bdS r s.core).1.map (·.1))), Fact.sl gx.2.a (am ((bdS r s.core).1.map (·.2)))] : List Fact), x.holds (fun b => w.heap.size ≤ b) w' := by
 refine En (Fact.sl s.ga (gps s.gs) :: Fact.sl s.va (vrs s.vs) :: Fact.sl s.ea (qas s.es) :: (s.es.map qaF)) [(0, .agg #[.string (S r.1), .string (S r.2)]), (1, saV s)] Tryz.func58 I Tryz.ntmps58 I (Ac I (Ac I (An _))) (Fc (af hF1) (Fc (af hF2) (Fc (af hF3) (aE hM)))) (Eq ?_)
 intro b2
 refine Gc ?_
 intro b3
 refine Ka I (Ka I (Ka I (Nt (Cs (Kq I (lda I I .tc u24 I ?_) ?_)))))
 ·kernel_rfl
 refine Kq I (lda I I .tc u43 I ?_) ?_
 ·kernel_rfl
 refine F2 ?_
 rintro g16
 refine WL.pu ?_
 intro hg16; (try dsimp only [List.cons_append, List.nil_append] at hg16 ⊢)
 refine Fs ?_; refine Cq (Fz (fun hc20 => ?_) (fun hc20 => ?_))
 ·have hr : bdS r s.core = ([], bdE r s.core) := jk rfl (by rw [bdS] at hc20; split at hc20; assumption; exact absurd rfl hc20)
  refine H7 ?_; refine Ka I (le ?_); refine Xb ?_
  exact Rn I (.tmp I (.tmp I (.tmp I .nil))) fun w' hS => ⟨(⟨none, 0, []⟩, ⟨none, 0, []⟩), by rw [hr]; rfl, trivial, hS.below, by rw [hr]; exact Fc av (Fc av Fn)⟩
 ·obtain ⟨l, hl⟩ : ∃ l, Keep (l = (bdS r s.core).1) := ⟨_, rfl⟩
  have h0 : (bdS r s.core).2 = 0 := by simpa using hc20
  rw [← show l = _ from hl, h0]
  have hll : l.length ≤ 100000 := by
   rw [show l = _ from hl, bdS]; split
   ·exact Af _
   ·simp only [Ag]; exact hs.2.1
  refine Ck (Xa (Cs (Ka I (FM ?_)))); refine Yo I kD (Km I (Nt (Cb (Lo (σ := Nat × (Option Nat) × Nat × (List Value) × (Option Nat) × Nat × (List Value)) [(22, _), (23, _)] (fun gq => [(9, .slice (gq.2.1.map fun b => ⟨b, 0, none⟩) gq.1 gq.2.2.1), (10, .slice (gq.2.2.2.2.1.map fun b => ⟨b, 0, none⟩) gq.1 gq.2.2.2.2.2.1), (24, .int .i64 (gq.1 : Int))]) (fun gq => gq.1 ≤ l.length ∧ gq.2.2.1 = gq.1 + gq.2.2.2.1.length ∧ gq.2.2.2.2.2.1 = gq.1 + gq.2.2.2.2.2.2.length) (fun gq => l.length - gq.1) (fun gq => [⟨gq.2.2.2.2.1, am ((l.take gq.1).map (·.2)) ++ gq.2.2.2.2.2.2, 22⟩, ⟨gq.2.1, am ((l.take gq.1).map (·.1)) ++ gq.2.2.2.1, 22⟩]) (fun gq => [Fact.sl g16.a (gps l)]) (0, none, 0, [], none, 0, []) (S2 I I) (S3 I I I) (by (try dsimp only); exact ⟨Af _, rfl, rfl⟩) (by exact fun w h => by show St _ _ [⟨none, [] ++ [], _⟩, ⟨none, [] ++ [], _⟩] [Fact.sl g16.a (gps l)] _; exact ((aq _ h : St _ _ [] [Fact.sl g16.a (gps l)] _).nil _).nil _) ?_))))
  rintro ⟨i, o1, c1, p1, o2, c2, p2⟩ hinv1; (try dsimp only at hinv1 ⊢)
  obtain ⟨hi, hc1, hc2⟩ := hinv1
  refine ne (fun hc25 => ?_) (fun hc25 => ?_)
  ·have hil : i < l.length := by omega
   have h1l : (am ((l.take i).map (·.1))).length = i := by simp [am]; omega
   have h2l : (am ((l.take i).map (·.2))).length = i := by simp [am]; omega
   obtain ⟨x, hx⟩ : ∃ x, Keep (x = l.getD i default) := ⟨_, rfl⟩; refine FO ?_; refine Kq I (Ia I I I kD (by kernel_rfl : _ = some 2) (by omega) (by (rw [ag _ _ 2 (fun _ => rfl)]; omega))) ?_; refine Kq I (aP _ I I jt I (by kernel_rfl : _ = some 2) (fun _ => rfl) (by decide) I (by assumption)) ?_; rw [← show x = _ from hx]; refine Gb ?_; intro b12; refine FF ?_; refine Nt (WC.free (K := [⟨some b12, [.string (S x.1), .string (S x.2)], 169⟩]) (fs0 := []) [0, 1, 2, 3, 4, 5, 6, 7, 8, 9, 10, 11] [] [0, 0, 0, 3, 1, 0, 0, 0, 3, 1, 0, 0] (by kernel_rfl) (by kernel_rfl) I ?_); refine GP ?_; refine Kj I (Fa (q := 0) I I jt I I) (Gg ?_); refine Jf I I I I I (im I I u33 (by kernel_rfl : _ = some (some (.string (S [])), 1, 16)) I (by simp only [List.map]; rfl) I I ?_ (by decide)) ?_
   ·simp [Value.cells]
   intro b31; refine Jg I I I I I (po I u33 (by kernel_rfl : _ = some (some (.string (S [])), 1, 16)) I .tc I I (fun ext w hS => by (exact hS.os)) (by rfl) (by refine ⟨?_, ?_, ?_, ?_⟩ <;> first | exact h1l | (try simp) <;> omega) (by (simp [Value.oneCell']; done))) ?_; rintro ⟨o32, c32, s32⟩ hg32; (try dsimp only at hg32 ⊢); refine Kj I (Rm I I) (Kj I (Fa (q := 1) I I jt I I) (Kj I (Ld I I .tc u22) ?_)); refine Jf I I I I I (im I I u33 (by kernel_rfl : _ = some (some (.string (S [])), 1, 16)) I (by simp only [List.map]; rfl) I I ?_ (by decide)) ?_
   ·simp [Value.cells]
   intro b36; refine Jg I I I I I (po I u33 (by kernel_rfl : _ = some (some (.string (S [])), 1, 16)) I .tc I I (fun ext w hS => by (exact hS.os)) (by rfl) (by refine ⟨?_, ?_, ?_, ?_⟩ <;> first | exact h2l | (try simp) <;> omega) (by (simp [Value.oneCell']; done))) ?_; rintro ⟨o37, c37, s37⟩ hg37; (try dsimp only at hg37 ⊢); refine Kj I (Ra I I) (Kj I (Ra I I) ?_); refine WJ.nil ?_; refine Nn (Xd (Xa (Cg (Kq I (Rz I I I (by omega)) (Km I (Nn (Lx ((i + 1, o32, c32, s32, o37, c37, s37)) (by (try dsimp only); omega) (S2 I I) (by refine (Sc ?_ (Sc ?_ (Sc ?_ (S0 _)))) <;> (rfl)) ?_ (by exact fun w h => by rw [aA hil, Bu, Bu, Ds, List.map_nil, Ds, List.map_nil, nk, nk, ← show x = _ from hx]; exact aq _ h)))))))); (try dsimp only); exact ⟨hil, by omega, by omega⟩
  ·refine Fq ?_; obtain rfl : i = l.length := by omega
   rw [Ai]; refine Xa (Hd ?_); refine Ka I (Ka I (le ?_)); exact Rn I (.tmp I (.tmp I (.tmp I .nil))) fun w' hS => ⟨(⟨o1, c1, p1⟩, ⟨o2, c2, p2⟩), rfl, trivial, hS.below, Fc hS.ocf (Fc hS.ocf Fn)⟩
def cO (r : Gp) (q v : Bs) (t : Tp) : Zs × Tp × Int :=
 if v = [] then ((false, (ci t (aw r q v).1).1), (ci t (aw r q v).1).2) else aV t (aw r q v).1
def bu (r : Gp) (q : Bs) : List Bs → Tp → List Zs × Tp × Int
 | [], t => ([], t, 0)
 | v :: l, t => if (cO r q v t).2.2 ≠ 0 then ([], aJ, (cO r q v t).2.2)
  else if (bu r q l (cO r q v t).2.1).2.2 ≠ 0 then ([], aJ, (bu r q l (cO r q v t).2.1).2.2)
  else ((cO r q v t).1 :: (bu r q l (cO r q v t).2.1).1, (bu r q l (cO r q v t).2.1).2.1, 0)
abbrev lC (acc : List Zs) (x : List Zs × Tp × Int) : List Zs × Tp × Int := if x.2.2 ≠ 0 then ([], aJ, x.2.2) else (acc ++ x.1, x.2.1, 0)
theorem nn (t : Tp) (n : Bs) : (aV t n).2.1.vals.length ≤ t.vals.length := by
 unfold aV; split
 ·simp [aJ]
 ·split
  ·simp [aJ]
  ·split
   ·simp [aJ]
   ·exact lD t _
theorem oC (t : Tp) (n : Bs) : (aV t n).2.1.seed.length ≤ t.seed.length := by
 unfold aV; split
 ·simp [aJ]
 ·split
  ·simp [aJ]
  ·split
   ·simp [aJ]
   ·exact mJ t _
theorem qf (t : Tp) (n : Bs) : (ci t n).2.1.seed.length ≤ t.seed.length := by
 unfold ci; split
 ·simp [aJ]
 ·exact mJ t n
theorem re (r : Gp) (q v : Bs) (t : Tp) : (cO r q v t).2.1.vals.length ≤ t.vals.length ∧ (cO r q v t).2.1.seed.length ≤ t.seed.length := by
 unfold cO; split
 ·exact ⟨pm _ _, qf _ _⟩
 ·exact ⟨nn _ _, oC _ _⟩
theorem vw (x : List Zs × Tp × Int) (h : x.2.2 ≠ 0 → x = ([], aJ, x.2.2)) : lC [] x = x := by
 obtain ⟨a, b, c⟩ := x
 rw [lC]; split
 ·rename_i h1; exact (h h1).symm
 ·rename_i h1; rw [show c = 0 from Ah.1 h1]; rfl
theorem vv {r : Gp} {q : Bs} : ∀ {l : List Bs} {t : Tp}, (bu r q l t).2.2 ≠ 0 → bu r q l t = ([], aJ, (bu r q l t).2.2)
 | [], t, h => absurd rfl h
 | v :: l, t, h => by
  unfold bu at h ⊢
  split
  ·rfl
  ·rename_i h1; rw [Aa h1] at h; split
   ·rfl
   ·rename_i h2; rw [Aa h2] at h; exact absurd rfl h
theorem sK {r : Gp} {q v : Bs} {l : List Bs} {t : Tp} {acc : List Zs} (h : (cO r q v t).2.2 = 0) : lC acc (bu r q (v :: l) t) = lC (acc ++ [(cO r q v t).1]) (bu r q l (cO r q v t).2.1) := by
 rw [bu, Aa (fun h1 => h1 h)]
 by_cases h2 : (bu r q l (cO r q v t).2.1).2.2 = 0
 ·rw [Aa (fun h1 => h1 h2), lC, Aa (fun h1 => h1 rfl), lC, Aa (fun h1 => h1 h2), Cr]; rfl
 ·rw [Ae h2, lC, Ae h2, lC, Ae h2]
theorem jF {α : Type} [Inhabited α] {l : List α} {i : Nat} (h : i < l.length) : l.drop i = l.getD i default :: l.drop (i + 1) := by
 rw [B3 h, List.getD_eq_getElem?_getD, Ad h]; rfl
theorem BV {r : Gp} {q : Bs} {s : SA} {t : Tp} {a b : Option Addr} {c d : Nat} {w : World} {ok : Nat → Prop} (hF1 : (Fact.sl b (am t.vals)).holds ok w) (hF2 : (Fact.sl s.va (vrs s.vs)).holds ok w) (hF3 : (Fact.sl a (gps (s.vs.map (aw r q)))).holds ok w) (hs : saL s) (hl : t.vals.length ≤ 100000) (hsd : t.seed.length ≤ 400000) (hT : Tab w) :
  Calls Tryz.prog 73 #[saV s, .slice a (s.vs.map (aw r q)).length c, t.v (.slice b t.vals.length d)] w fun e w' => ∃ gx : Rs × (Option Addr) × Nat, e = .returned (.tuple #[gx.1.val (bu r q s.vs t).1.length, (bu r q s.vs t).2.1.v (.slice gx.2.1 (bu r q s.vs t).2.1.vals.length gx.2.2), .int .i64 (bu r q s.vs t).2.2]) ∧ (True) ∧ Below w.heap.size w w' ∧ ∀ x ∈ ([Fact.sl gx.1.a (ar (bu r q s.vs t).1), Fact.sl gx.2.1 (am (bu r q s.vs t).2.1.vals)] : List Fact), x.holds (fun b => ok b ∨ w.heap.size ≤ b) w' := by
 obtain ⟨hlg, hlv, hle, hlt, hlm⟩ := hs
 have hL : (s.vs.map (aw r q)).length = s.vs.length := Ag _
 refine enter (S := St (fun b => ok b ∨ w.heap.size ≤ b) w [] ([Fact.sl b (am t.vals), Fact.sl s.va (vrs s.vs), Fact.sl a (gps (s.vs.map (aw r q)))])) (L := [(0, saV s), (1, .slice a (s.vs.map (aw r q)).length c), (2, t.v (.slice b t.vals.length d))]) Tryz.func73 rfl Tryz.ntmps73 rfl (Ac rfl (Ac rfl (Ac rfl (An _)))) (St.start (fun _ h => Or.inr h) (bL (Fc hF1 (Fc hF2 (Fc hF3 Fn))))) ?_
 refine Eq ?_
 intro b3
 refine Gc ?_
 intro b5
 refine Ka I (FP ?_)
 intro b7
 refine Ka I (Nt (Cs (GI ?_))); refine Ge ?_
 refine HF ?_; refine Lo (σ := Nat × Tp × (Option Addr) × Nat × (List Zs) × (Option Nat) × Nat × (List Value)) [(1, _), (5, _), (7, _), (15, _), (16, _)] (fun gq => [(9, .slice (gq.2.2.2.2.2.1.map fun b => ⟨b, 0, none⟩) gq.2.2.2.2.1.length gq.2.2.2.2.2.2.1), (17, .int .i64 (gq.1 : Int))]) (fun gq => (gq.1 ≤ s.vs.length ∧ gq.2.2.2.2.1.length = gq.1 ∧ gq.2.2.2.2.2.2.1 * 2 = gq.1 * 2 + gq.2.2.2.2.2.2.2.length ∧ gq.2.1.vals.length ≤ 100000 ∧ gq.2.1.seed.length ≤ 400000) ∧ bu r q s.vs t = lC gq.2.2.2.2.1 (bu r q (s.vs.drop gq.1) gq.2.1)) (fun gq => s.vs.length - gq.1) (fun gq => [⟨gq.2.2.2.2.2.1, ar gq.2.2.2.2.1 ++ gq.2.2.2.2.2.2.2, 68⟩, ⟨some b7, [.slice none 0 0, .string (S []), .int .i64 0], 35⟩, ⟨some b5, [.slice gq.2.2.1 gq.2.1.vals.length gq.2.2.2.1, .string (S gq.2.1.seed), .int .i64 gq.2.1.at_], 35⟩]) (fun gq => [Fact.sl gq.2.2.1 (am gq.2.1.vals), Fact.sl s.va (vrs s.vs), Fact.sl a (gps (s.vs.map (aw r q)))]) (0, t, b, d, [], none, 0, []) (S5 I I I I I) (S2 I I) (by (try dsimp only); exact ⟨⟨Af _, rfl, rfl, hl, hsd⟩, (vw _ vv).symm⟩) (by exact fun w h => by show St _ _ [⟨none, [] ++ [], _⟩, ⟨some b7, _, _⟩, ⟨some b5, _, _⟩] _ _; exact (aq _ h : St _ _ [⟨some b7, _, _⟩, ⟨some b5, [.slice b t.vals.length d, .string (S t.seed), .int .i64 t.at_], _⟩] [Fact.sl b (am t.vals), Fact.sl s.va (vrs s.vs), Fact.sl a (gps (s.vs.map (aw r q)))] _).nil _) ?_
 rintro ⟨i, u, ua, uc, acc, o, cp, sp⟩ hinv1; (try dsimp only at hinv1 ⊢)
 obtain ⟨⟨hi, hal, hcp, hul, hus⟩, heq⟩ := hinv1
 refine ne (fun hc18 => ?_) (fun hc18 => ?_)
 ·have hil : i < s.vs.length := by omega
  have hil2 : i < (s.vs.map (aw r q)).length := by omega
  have hdr := jF hil
  obtain ⟨v, hv⟩ : ∃ v, Keep (v = s.vs.getD i default) := ⟨_, rfl⟩
  have hlg2 : (s.vs.map (aw r q)).getD i default = aw r q v := by rw [show v = _ from hv, List.getD_eq_getElem?_getD, A4, Ad hil, List.getD_eq_getElem?_getD, Ad hil]; rfl
  rw [hdr, ← show v = _ from hv] at heq
  obtain ⟨hv1, hv2⟩ := re r q v u
  refine FO ?_; refine Km I (FG ?_)
  refine Fu ?_
  rw [← show v = _ from hv]
  refine GK ?_
  intro b11
  refine Ka I (FF ?_); refine Nt (Cs (FS ?_))
  intro b12
  refine Nt (Cs (Ka I (Nt (WC.joinO (σ := (Option Addr) × Nat) [(1, _), (5, _), (7, _), (9, _), (12, _), (15, _), (16, _), (17, _)] (fun gq => [(13, .int .i64 (cO r q v u).2.2)]) (fun gq => True) (fun gq => [⟨some b12, [.bool (cO r q v u).1.1, .string (S (cO r q v u).1.2)], 68⟩, ⟨o, ar acc ++ sp, 68⟩, ⟨some b7, [.slice none 0 0, .string (S []), .int .i64 0], 35⟩, ⟨some b5, [.slice gq.1 (cO r q v u).2.1.vals.length gq.2, .string (S (cO r q v u).2.1.seed), .int .i64 (cO r q v u).2.1.at_], 35⟩]) (fun gq => [Fact.sl gq.1 (am (cO r q v u).2.1.vals), Fact.sl s.va (vrs s.vs), Fact.sl a (gps (s.vs.map (aw r q)))]) (S8 I I I I I I I I) ?_ ?_))))
  ·skip
   refine Cs (Kq I (lda I I .tc bG I ?_) ?_)
   ·kernel_rfl
   refine Kc I (fun w hS => jD (v := v)) (Yi I (Ns 24 I (v' := .bool (decide (¬ v = []))) (congrArg Value.bool (by by_cases h : v = [] <;> simp [h])) ?_)); refine Nt (Ci I (fun hc24 => ?_) (fun hc24 => ?_))
   ·have hvn : ¬ v = [] := by (exact hc24)
    have hd1 : cO r q v u = aV u (aw r q v).1 := by rw [cO, Aa hvn]
    refine WC.free (K := [⟨some b11, [.string (S v)], 132⟩]) (fs0 := [Fact.sl ua (am u.vals), Fact.sl s.va (vrs s.vs), Fact.sl a (gps (s.vs.map (aw r q)))]) [0, 1, 2, 3, 4, 5, 6, 7, 8, 11, 9, 12, 10, 13] [] [1, 0, 0, 0, 0, 0, 1, 0, 0, 0, 0, 1, 1, 0] (by kernel_rfl) (by kernel_rfl) I ?_; refine Jv I I I I I (fun ext => yR (lda I I .tc u35 I ?_)) ?_
    ·kernel_rfl
    refine Ft ?_; refine Gu ?_; (refine Kj I (faf I I jt I (by kernel_rfl) (by (try simp only [sN, Int.reduceToNat, Nat.reduceAdd, Nat.reduceMul, Nat.reduceSub]); rfl)) ?_); refine GY ?_; refine WJ.set 31 I (v' := .string (S ((aw r q v).1))) (congrArg (fun l => Value.string (S l)) (by rw [hlg2])) ?_; refine Jg I I I I I (fun ext => Oc I I (kj fun w hS => tM (t := u) (n := (aw r q v).1) (by (exact hS.sl)) (by assumption) (by assumption) (by (exact bW hT hS)))) ?_; intro g32 hg32; (try dsimp only at hg32 ⊢); refine GP ?_; refine Hu ?_; refine WJ.st I I I I (ft I I I ?_ ?_ ?_) ?_
    ·kernel_rfl
    ·simp [Value.oneCell']
    ·rfl
    refine Hu ?_; refine WJ.st I I I I (ft I I I ?_ ?_ ?_) ?_
    ·kernel_rfl
    ·simp [Value.oneCell']
    ·rfl
    refine Kj I (Re I I I) (Kj I (Ra I I) ?_); refine WJ.nil ?_; refine Nn ?_; rw [hd1]; refine WX.joinO ((g32.a, g32.cap)) (S8 I I I I I I I I) (by refine (Sc ?_ (S0 _)) <;> (rfl)) ?_ (by (exact aq)); (try dsimp only); done
   ·have hvn : v = [] := by (exact Ah.1 hc24)
    have hd1 : cO r q v u = ((false, (ci u (aw r q v).1).1), (ci u (aw r q v).1).2) := by rw [cO, Ae hvn]
    refine WC.free (K := [⟨some b11, [.string (S v)], 132⟩]) (fs0 := [Fact.sl ua (am u.vals), Fact.sl s.va (vrs s.vs), Fact.sl a (gps (s.vs.map (aw r q)))]) [0, 1, 2, 3, 4, 5, 6, 7, 8, 11, 12, 9, 13, 10, 14] [] [1, 0, 0, 0, 0, 0, 1, 0, 0, 0, 0, 0, 1, 1, 0] (by kernel_rfl) (by kernel_rfl) I ?_; refine Jv I I I I I (fun ext => yR (lda I I .tc u35 I ?_)) ?_
    ·kernel_rfl
    refine Ft ?_; refine Gu ?_; (refine Kj I (faf I I jt I (by kernel_rfl) (by (try simp only [sN, Int.reduceToNat, Nat.reduceAdd, Nat.reduceMul, Nat.reduceSub]); rfl)) ?_); refine GY ?_; refine WJ.set 42 I (v' := .string (S ((aw r q v).1))) (congrArg (fun l => Value.string (S l)) (by rw [hlg2])) ?_; refine Jg I I I I I (fun ext => Oc I I (kj fun w hS => yK (t := u) (n := (aw r q v).1) (by (exact hS.sl)) (by assumption) (by assumption) (by (exact bW hT hS)))) ?_; intro g43 hg43; (try dsimp only at hg43 ⊢); refine GP ?_; refine Hu ?_; refine Kj I (Fa (q := 1) I I u68 I I) ?_; refine WJ.st I I I I (stJ I I I (by kernel_rfl) I ?_ (by (simp only [Bf, Bg]; rfl))) ?_
    ·decide
    refine Hu ?_; refine WJ.st I I I I (ft I I I ?_ ?_ ?_) ?_
    ·kernel_rfl
    ·simp [Value.oneCell']
    ·rfl
    refine Kj I (Re I I I) (Kj I (Ra I I) ?_); refine WJ.nil ?_; refine Nn ?_; rw [hd1]; refine WX.joinO ((g43.a, g43.cap)) (S8 I I I I I I I I) (by refine (Sc ?_ (S0 _)) <;> (rfl)) ?_ (by (exact aq)); (try dsimp only); done
  ·rintro ⟨za, zc⟩ hmeet; (try dsimp only at hmeet ⊢); refine Cq (Fz (fun hc49 => ?_) (fun hc49 => ?_))
   ·have hr : bu r q s.vs t = ([], aJ, (cO r q v u).2.2) := by
     rw [heq, bu, Ae hc49, lC, Ae hc49]
    refine Cs (FJ ?_); refine Km I (Ka I (FF ?_)); refine le ?_; refine Xb (FE ?_); exact Rn I (.tmp I (.agg I .tc u35 I (by kernel_rfl) (.tmp I .nil))) fun w' hS => ⟨(⟨none, 0, []⟩, none, 0), by rw [hr]; rfl, trivial, hS.below, by rw [hr]; exact Fc av (Fc av Fn)⟩
   ·have h0 : (cO r q v u).2.2 = 0 := by simpa using hc49
    have hln : (ar acc).length = acc.length * 2 := ag _ _ 2 (fun _ => rfl); rw [sK h0] at heq; refine Ck (Xa (Cg (Km I (Kq I (lda I I .tc u68 I ?_) ?_))))
    ·kernel_rfl
    refine Kh I (ew I I u31 (by kernel_rfl : _ = some (some (.agg #[.bool false, .string (S [])]), 2, 24)) (by kernel_rfl) (by decide) I I (by (simp [Value.cells]; done)) (by (exact bV _)) (by decide)) ?_; intro b54; refine Kh I (jm I u31 (by kernel_rfl : _ = some (some (.agg #[.bool false, .string (S [])]), 2, 24)) (by kernel_rfl) (by decide) .tc I I (fun w hS => by (exact hS.os)) (by rfl) (by refine ⟨?_, ?_, ?_, ?_⟩ <;> first | exact hln | omega) (by (simp [Value.oneCell']; done))) ?_; rintro ⟨o55, c55, s55⟩; refine WL.pu ?_; intro hg55; (try dsimp only at hg55 ⊢); refine Ka I (Nn (Xd (Xa (Cg (Kq I (Rz I I I (by omega)) (Km I (Nn (Lx ((i + 1, (cO r q v u).2.1, za, zc, acc ++ [(cO r q v u).1], o55, c55, s55)) (by (try dsimp only); omega) (S5 I I I I I) (by refine (Sc ?_ (Sc ?_ (S0 _))) <;> (first | rfl | (simp only [Al, Ay, B4, A3]; rfl))) ?_ (by exact fun w h => by rw [nT]; exact aq _ h))))))))); (try dsimp only); exact ⟨⟨hil, by simp; omega, by omega, by omega, by omega⟩, heq⟩
 ·refine Fq ?_
  obtain rfl : i = s.vs.length := by omega
  have hr : bu r q s.vs t = (acc, u, 0) := by rw [heq, List.drop_length, bu, lC, Aa (fun h => h rfl), A5]
  refine Xa (Cq (WC.free (K := [⟨some b5, [.slice ua u.vals.length uc, .string (S u.seed), .int .i64 u.at_], 35⟩]) (fs0 := []) [0, 1, 2, 3] [4] [0, 0, 0, 1, 2] (by kernel_rfl) (by kernel_rfl) I ?_))
  refine GP ?_
  refine Kj I (lda I I .tc u35 I ?_) ?_
  ·kernel_rfl
  refine GR ?_
  refine WJ.st I I I I (ft I I I ?_ ?_ ?_) ?_
  ·kernel_rfl
  ·simp [Value.oneCell']
  ·rfl
  refine WJ.nil ?_
  refine le ?_
  exact Rn I (.tmp I (.agg I .tc u35 I (by kernel_rfl) (.tmp I .nil))) fun w' hS => ⟨(⟨o, cp, sp⟩, ua, uc), by rw [hr]; rfl, trivial, hS.below, by rw [hr]; exact Fc hS.ock (Fc hS.slk Fn)⟩
def ba (r : Gp) (s : Sm) (t : Tp) : (List Zs × List Bs × Tp) × Int :=
 if bdE r s ≠ 0 then (([], [], aJ), bdE r s)
 else if (bu r (ak s.1) s.2.1 t).2.2 ≠ 0 then (([], [], aJ), (bu r (ak s.1) s.2.1 t).2.2)
 else if (cF s (bu r (ak s.1) s.2.1 t).1).2 ≠ 0 then (([], [], aJ), (cF s (bu r (ak s.1) s.2.1 t).1).2)
 else (((bu r (ak s.1) s.2.1 t).1, (cF s (bu r (ak s.1) s.2.1 t).1).1, (bu r (ak s.1) s.2.1 t).2.1), 0)
theorem lB {r : Gp} {q : Bs} : ∀ {l : List Bs} {t : Tp}, (bu r q l t).1.length ≤ l.length
 | [], t => Ba _
 | v :: l, t => by
  unfold bu; split
  ·exact Af _
  ·split
   ·exact Af _
   ·exact Nat.succ_le_succ lB
theorem iv {r : Gp} {s : Sm} (h : (bdS r s).2 = 0) : bdE r s = 0 ∧ bdS r s = (s.2.1.map (aw r (ak s.1)), 0) := by
 unfold bdS at h ⊢; split at h
 ·rename_i h1; exact absurd h h1
 ·rename_i h1; exact ⟨Ah.1 h1, by rw [Aa h1]⟩
theorem zC {r : Gp} {s : SA} {t : Tp} {b : Option Addr} {d : Nat} {w : World} {ok : Nat → Prop} (hF1 : (Fact.sl s.ga (gps s.gs)).holds ok w) (hF2 : (Fact.sl s.va (vrs s.vs)).holds ok w) (hF3 : (Fact.sl s.ea (qas s.es)).holds ok w) (hF4 : (Fact.sl b (am t.vals)).holds ok w) (hM : ∀ f ∈ (s.es.map qaF), f.holds ok w) (hs : saL s) (h4 : r.1.length ≤ 8) (h5 : r.2.length ≤ 8) (h6 : ∀ v ∈ s.vs, v.length ≤ 8) (hl : t.vals.length ≤ 100000) (hsd : t.seed.length ≤ 400000) (hT : Tab w) :
  Calls Tryz.prog 33 #[.agg #[.string (S r.1), .string (S r.2)], saV s, t.v (.slice b t.vals.length d)] w fun e w' => ∃ gx : Rs × Rs × (Option Addr) × Nat, e = .returned (.tuple #[gx.1.val (ba r s.core t).1.1.length, gx.2.1.val (ba r s.core t).1.2.1.length, (ba r s.core t).1.2.2.v (.slice gx.2.2.1 (ba r s.core t).1.2.2.vals.length gx.2.2.2), .int .i64 (ba r s.core t).2]) ∧ (True) ∧ Below w.heap.size w w' ∧ ∀ x ∈ ([Fact.sl gx.1.a (ar (ba r s.core t).1.1), Fact.sl gx.2.1.a (am (ba r s.core t).1.2.1), Fact.sl gx.2.2.1 (am (ba r s.core t).1.2.2.vals)] : List Fact), x.holds (fun b => ok b ∨ w.heap.size ≤ b) w' := by
 refine enter (S := St (fun b => ok b ∨ w.heap.size ≤ b) w [] (Fact.sl s.ga (gps s.gs) :: Fact.sl s.va (vrs s.vs) :: Fact.sl s.ea (qas s.es) :: Fact.sl b (am t.vals) :: (s.es.map qaF))) (L := [(0, .agg #[.string (S r.1), .string (S r.2)]), (1, saV s), (2, t.v (.slice b t.vals.length d))]) Tryz.func33 rfl Tryz.ntmps33 rfl (Ac rfl (Ac rfl (Ac rfl (An _)))) (St.start (fun _ h => Or.inr h) (bL (Fc hF1 (Fc hF2 (Fc hF3 (Fc hF4 hM)))))) ?_
 refine Eq ?_
 intro b3
 refine Gc ?_
 intro b4
 refine Gc ?_
 intro b5
 refine Ka I (Ka I (FP ?_))
 intro b8
 refine Ka I (Nt (Cs (Kq I (lda I I .tc u24 I ?_) ?_)))
 ·kernel_rfl
 refine Kq I (lda I I .tc u43 I ?_) ?_
 ·kernel_rfl
 refine F2 ?_
 rintro g17
 refine WL.pu ?_
 intro hg17; (try dsimp only [List.cons_append, List.nil_append] at hg17 ⊢)
 refine Fs ?_; refine Cq (Fz (fun hc21 => ?_) (fun hc21 => ?_))
 ·have hb : bdE r s.core ≠ 0 := fun h => hc21 (by rw [bdS, Aa (fun h1 => h1 h)])
  have he : (bdS r s.core).2 = bdE r s.core := by rw [bdS, Ae hb]
  have hr : ba r s.core t = (([], [], aJ), bdE r s.core) := by rw [ba, Ae hb]
  refine Cs (FJ ?_); refine Km I (Ka I (Ka I (FF ?_))); refine le ?_; refine Xb ?_
  exact Rn I (.tmp I (.tmp I (.agg I .tc u35 I (by kernel_rfl) (.tmp I .nil)))) fun w' hS => ⟨(⟨none, 0, []⟩, ⟨none, 0, []⟩, none, 0), by rw [hr, he]; rfl, trivial, hS.below, by rw [hr]; exact Fc av (Fc av (Fc av Fn))⟩
 ·obtain ⟨hb, hbs⟩ := iv (show (bdS r s.core).2 = 0 by simpa using hc21)
  rw [hbs]
  have hdl : (bu r (ak s.gs) s.vs t).1.length ≤ 100000 := Bi lB hs.2.1
  refine Ck (Xa (Cs (Kq I (lda I I .tc u43 I ?_) ?_)))
  ·kernel_rfl
  refine Km I (Kq I (lda I I .tc u35 I ?_) ?_)
  ·kernel_rfl
  refine Kh I (Oc I I (bK fun w hS => BV (r := r) (q := ak s.gs) (s := s) (t := t) (by (exact hS.slo)) (by (exact hS.slo)) (by (exact hS.slo)) (by exact hs) (by exact hl) (by exact hsd) (by exact bW hT hS))) ?_
  rintro ⟨g28, ha28, hc28⟩
  refine WL.pu ?_
  intro hg28; (try dsimp only [List.cons_append, List.nil_append] at hg28 ⊢)
  refine HZ ?_; refine Ka I (FF ?_); refine Ka I (Nt (Cq (Fz (fun hc33 => ?_) (fun hc33 => ?_))))
  ·have hr : ba r s.core t = (([], [], aJ), (bu r (ak s.gs) s.vs t).2.2) := by rw [ba, Aa (fun h => h hb), Ae (by simpa using hc33)]
   refine Cs (FJ ?_); refine Km I (Ka I (Ka I (FF ?_))); refine le ?_; refine Xb ?_; exact Rn I (.tmp I (.tmp I (.agg I .tc u35 I (by kernel_rfl) (.tmp I .nil)))) fun w' hS => ⟨(⟨none, 0, []⟩, ⟨none, 0, []⟩, none, 0), by rw [hr]; rfl, trivial, hS.below, by rw [hr]; exact Fc av (Fc av (Fc av Fn))⟩
  ·have hd0 : (bu r (ak s.gs) s.vs t).2.2 = 0 := by simpa using hc33
   refine Ck (Xa (Cs (Kq I (lda I I .tc u43 I ?_) ?_)))
   ·kernel_rfl
   refine Km I (Kh I (Oc I I (bE fun w hS => uH (s := s) (ws := (bu r (ak s.gs) s.vs t).1) (by (exact hS.sl)) (by (exact hS.sl)) (by (exact hS.sl)) (by (exact hS.sl)) (by (exact hS.more)) (by exact hs) (by exact hdl))) ?_); rintro g39; refine WL.pu ?_; intro hg39; (try dsimp only [List.cons_append, List.nil_append] at hg39 ⊢); refine Fs ?_; refine Cq (Fz (fun hc43 => ?_) (fun hc43 => ?_))
   ·have hr : ba r s.core t = (([], [], aJ), (cF s.core (bu r (ak s.gs) s.vs t).1).2) := by rw [ba, Aa (fun h => h hb), Aa (fun h => h hd0), Ae (by simpa using hc43)]
    refine Cs (FJ ?_); refine Km I (Ka I (Ka I (FF ?_))); refine le ?_; refine Xb ?_; exact Rn I (.tmp I (.tmp I (.agg I .tc u35 I (by kernel_rfl) (.tmp I .nil)))) fun w' hS => ⟨(⟨none, 0, []⟩, ⟨none, 0, []⟩, none, 0), by rw [hr]; rfl, trivial, hS.below, by rw [hr]; exact Fc av (Fc av (Fc av Fn))⟩
   ·have hr : ba r s.core t = (((bu r (ak s.gs) s.vs t).1, (cF s.core (bu r (ak s.gs) s.vs t).1).1, (bu r (ak s.gs) s.vs t).2.1), 0) := by rw [ba, Aa (fun h => h hb), Aa (fun h => h hd0), Aa (fun h => h (by simpa using hc43))]
    refine Ck (Xa (Cq (Cf [0, 1, 2, 3, 4] [5, 6] [0, 0, 0, 0, 0, 2, 2] (by kernel_rfl) (by kernel_rfl) I ?_))); refine Ft ?_; refine Kj I (lda I I .tc u35 I ?_) ?_
    ·kernel_rfl
    refine GR ?_; refine GR ?_; refine WJ.nil ?_; refine FF ?_; refine le ?_; exact Rn I (.tmp I (.tmp I (.agg I .tc u35 I (by kernel_rfl) (.tmp I .nil)))) fun w' hS => ⟨(g28, g39, ha28, hc28), by rw [hr]; rfl, trivial, hS.below, by rw [hr]; exact Fc hS.slk (Fc hS.slk (Fc hS.slk Fn))⟩
def gi (x : Zs) (m : Bs) : Nat := if x.1 = true ∧ val x.2 % val m ≠ 0 then val m - val x.2 % val m else val x.2 % val m
theorem xI {x : Zs} {m : Bs} (h : 0 < val m) : gi x m < val m := by
 have := Aq (val x.2) h
 unfold gi; split <;> omega
theorem xJ (x : Zs) (m : Bs) (h : 0 < val m) : ∃ t : Int, zv x = gi x m + val m * t := by
 obtain ⟨s, a⟩ := x
 have e := Bl (val a) (val m)
 have hl := Aq (val a) h
 have e2 : (val m : Int) * ((val a / val m : Nat) : Int) + ((val a % val m : Nat) : Int) = val a := by rw [← C0, ← Dd, e]
 cases s with
 | false =>
  refine ⟨((val a / val m : Nat) : Int), ?_⟩
  have hz : zv (false, a) = (val a : Int) := rfl
  have hm : gi (false, a) m = val a % val m := by simp [gi]
  rw [hz, hm, Int.add_comm]; exact e2.symm
 | true =>
  have hz : zv (true, a) = -(val a : Int) := rfl
  by_cases h0 : val a % val m = 0
  ·refine ⟨-((val a / val m : Nat) : Int), ?_⟩; have hm : gi (true, a) m = 0 := by simp [gi, h0]
   rw [h0] at e2; rw [hz, hm, Ec, ← e2]; simp
  ·refine ⟨-((val a / val m : Nat) : Int) - 1, ?_⟩; have e3 : gi (true, a) m = val m - val a % val m := by rw [gi, Ae ⟨rfl, h0⟩]
   rw [hz, e3, Int.mul_sub, Ec, Int.mul_one, Int.natCast_sub (Nat.le_of_lt hl)]; generalize (val m : Int) * ((val a / val m : Nat) : Int) = T at e2 ⊢; omega
theorem th {x : Zs} {m : Bs} {w : World} (hx : okZ x) (hm : okN m) (hm0 : m ≠ []) :
  Cw 171 #[zV x, .string (S m)] w (.tuple #[.string (S (ae (gi x m))), .int .i64 0]) := by
 have hmp := iz hm hm0
 have hrl := Aq (val x.2) hmp
 have hmB := a7 hm
 refine En [] [(0, zV x), (1, .string (S m))] Tryz.func171 I Tryz.ntmps171 I (Ac I (Ac I (An _))) Fn (Eq ?_)
 intro b2
 refine Ka I (Ka I (Nt (Cq (Cs (Kq I (lda I I .tc u68 I ?_) ?_)))))
 ·kernel_rfl
 refine Kc I (fun w hS => bR (x := x)) (Ns 10 I (v' := .bool true) (by simp [hx]) ?_)
 refine Yt I (Km I (Km I (Kc I (fun w hS => ay (a := m)) (Ns 14 I (v' := .bool true) (by simp [hm]) ?_))))
 refine Yt I (Yq I (Fx (fun _ => ?_)))
 refine GO ?_; refine Hh (fun hc18 => ?_) (fun hc18 => ?_)
 ·exact absurd hc18 hm0 -- done
 ·refine Ck (Xa (Cs (Gn ?_)))
  refine Km I (Kc I (fun w hS => (by have := fe (w := w) (a := x.2) (b := m); rw [fM hx.1 hm hm0] at this; exact this)) (GV ?_)); refine Ka I (Nt (Cq (WC.joinP (σ := Unit) [(1, _), (7, _)] (fun gq => [(32, .bool (decide (x.1 = true ∧ val x.2 % val m ≠ 0)))]) (fun gq => True) (S2 I I) ?_ ?_)))
  ·skip
   refine Cg (G1 ?_); refine Km I (Nc 29 I (fun hg29 => ?_) (fun hg29 => ?_))
   ·refine Km I (Yr I (Ns 31 I (v' := .bool (decide (val x.2 % val m ≠ 0))) (congrArg Value.bool (by simp [bk])) ?_)); refine Yp I (Nn (WX.joinP (()) (S2 I I) (by refine (Sc ?_ (S0 _)) <;> ((refine ao rfl ?_; (try dsimp only); (simp [*]; done)))) ?_ (fun _ h => h))); (try dsimp only); done
   ·refine T2 I (Yq I (Nn (WX.joinP (()) (S2 I I) (by refine (Sc ?_ (S0 _)) <;> ((refine ao rfl ?_; (try dsimp only); (simp [*]; done)))) ?_ (fun _ h => h)))); (try dsimp only); done
  ·rintro _ hmeet; (try dsimp only at hmeet ⊢); refine Ci I (fun hc32 => ?_) (fun hc32 => ?_)
   ·have hr : gi x m = val m - val x.2 % val m := by rw [gi, Ae hc32]
    refine Cg (Km I (Km I (Kc I (fun w hS => (by have := fQ (w := w) (a := m) (b := ae (val x.2 % val m)); rw [dq hm (az (by omega)) (by rw [ah]; omega), ah] at this; exact this)) (Km I (Ye I (Ye I (FN ?_))))))); refine Ka I (le ?_); exact Ix
   ·have hr : gi x m = val x.2 % val m := by rw [gi, Aa hc32]
    refine Ck (Xa (H7 ?_)); refine le ?_; exact Ix
def f4 (q v : Bs) (c : Nat) (w m : Int) : Int := if v = [] then (m + (c : Int) * w % (val q : Int)) % (val q : Int) else m + c * w
def rsL (q : Bs) (vs : List Bs) (c : Nat) (ws ms : List Zs) (n : Nat) : List Zs := (List.range n).map fun i => ofZ (f4 q (vs.getD i default) c (zv (ws.getD i default)) (zv (ms.getD i default)))
def np (r : Gp) (q : Bs) (vs : List Bs) (c : Nat) (ws ms : List Zs) (n : Nat) : Prop := ∀ i, i < n → vs.getD i default ≠ [] → (f4 q (vs.getD i default) c (zv (ws.getD i default)) (zv (ms.getD i default))).natAbs < rsI r (vs.getD i default)
instance (r : Gp) (q : Bs) (vs : List Bs) (c : Nat) (ws ms : List Zs) (n : Nat) : Decidable (np r q vs c ws ms n) := inferInstanceAs (Decidable (∀ i, i < n → _))
def kL (r : Gp) (q : Bs) (vs : List Bs) (c : Nat) (ws ms : List Zs) : List Zs × Int := if np r q vs c ws ms vs.length then (rsL q vs c ws ms vs.length, 0) else ([], 15)
theorem mm (x : Zs) {m : Bs} (h : 0 < val m) : (gi x m : Int) = zv x % (val m : Int) := by
 obtain ⟨t, ht⟩ := xJ x m h
 have hl := xI (x := x) h
 rw [ht, Int.add_mul_emod_self_left, Int.emod_eq_of_lt (by omega) (by omega)]
theorem wV (q : Bs) (vs : List Bs) (c : Nat) (ws ms : List Zs) (n : Nat) : rsL q vs c ws ms (n + 1) = rsL q vs c ws ms n ++ [ofZ (f4 q (vs.getD n default) c (zv (ws.getD n default)) (zv (ms.getD n default)))] := by
 rw [rsL, List.range_succ, Bu]; rfl
theorem dS (q : Bs) (vs : List Bs) (c : Nat) (ws ms : List Zs) (n : Nat) : (rsL q vs c ws ms n).length = n := by rw [rsL, Ag, List.length_range]
theorem tf {x : Zs} {n : Nat} (h : x.2.length ≤ n) : (zv x).natAbs < 256 ^ n := by
 have h1 : (zv x).natAbs = val x.2 := by
  obtain ⟨s, a⟩ := x
  cases s
  ·exact Bh _
  ·show (-(val a : Int)).natAbs = _; rw [Int.natAbs_neg]; exact Bh _
 rw [h1]; exact Aw (aG _) (Ar (by decide) h)
theorem rB : 256 ^ 8 * 256 ^ 8 + 256 ^ 24 < Big := by decide +kernel
theorem qB {c : Nat} {w : Int} (h1 : c < 256 ^ 8) (h2 : w.natAbs < 256 ^ 8) : ((c : Int) * w).natAbs < 256 ^ 8 * 256 ^ 8 := by
 rw [Int.natAbs_mul, Bh]; exact De h1 h2
theorem zp {r : Gp} {q : Bs} {s : SA} {ws ms : List Zs} {c : Bs} {a b d : Option Addr} {ca cb cd : Nat} {w : World} {ok : Nat → Prop} (hF1 : (Fact.sl s.va (vrs s.vs)).holds ok w) (hF2 : (Fact.sl a (gps (s.vs.map (aw r q)))).holds ok w) (hF3 : (Fact.sl b (ar ws)).holds ok w) (hF4 : (Fact.sl d (ar ms)).holds ok w) (hs : saL s) (hw : ws.length = s.vs.length) (hm : ms.length = s.vs.length) (hfo : bc s.core) (hzw : ∀ x ∈ ws, okZ x ∧ x.2.length ≤ 8) (hzm : ∀ x ∈ ms, okZ x ∧ x.2.length ≤ 24) (hc : okN c) (hc8 : c.length ≤ 8) (hq : okN q) (hq8 : q.length ≤ 8) (hq0 : (∃ v ∈ s.vs, v = []) → q ≠ []) (h4 : r.1.length ≤ 8) (h5 : r.2.length ≤ 8) (h6 : ∀ v ∈ s.vs, v.length ≤ 8) :
  Calls Tryz.prog 88 #[saV s, .slice a (s.vs.map (aw r q)).length ca, .slice b ws.length cb, .slice d ms.length cd, .string (S c)] w fun e w' => ∃ gx : Rs, e = .returned (.tuple #[gx.val (kL r q s.vs (val c) ws ms).1.length, .int .i64 (kL r q s.vs (val c) ws ms).2]) ∧ (True) ∧ Below w.heap.size w w' ∧ ∀ x ∈ ([Fact.sl gx.a (ar (kL r q s.vs (val c) ws ms).1)] : List Fact), x.holds (fun b => w.heap.size ≤ b) w' := by
 obtain ⟨hlg, hlv, hle, hlt, hlm⟩ := hs
 have hL : (s.vs.map (aw r q)).length = s.vs.length := Ag _
 have hcB := aG c
 have hc88 : val c < 256 ^ 8 := Aw (aG c) (Ar (by decide) hc8)
 have hBs := rB
 refine En [Fact.sl s.va (vrs s.vs), Fact.sl a (gps (s.vs.map (aw r q))), Fact.sl b (ar ws), Fact.sl d (ar ms)] [(0, saV s), (1, .slice a (s.vs.map (aw r q)).length ca), (2, .slice b ws.length cb), (3, .slice d ms.length cd), (4, .string (S c))] Tryz.func88 I Tryz.ntmps88 I (Ac I (Ac I (Ac I (Ac I (Ac I (An _)))))) (Fc (af hF1) (Fc (af hF2) (Fc (af hF3) (Fc (af hF4) Fn)))) (Eq ?_)
 intro b5
 refine Ka I (Ka I (Nt (Cs (GI ?_)))); refine Ge ?_
 refine HF ?_; refine Lo (σ := Nat × (Option Nat) × Nat × (List Value)) [(1, _), (2, _), (3, _), (4, _), (28, _), (29, _)] (fun gq => [(12, .slice (gq.2.1.map fun b => ⟨b, 0, none⟩) gq.1 gq.2.2.1), (30, .int .i64 (gq.1 : Int))]) (fun gq => (gq.1 ≤ s.vs.length ∧ gq.2.2.1 * 2 = gq.1 * 2 + gq.2.2.2.length) ∧ np r q s.vs (val c) ws ms gq.1) (fun gq => s.vs.length - gq.1) (fun gq => [⟨gq.2.1, ar (rsL q s.vs (val c) ws ms gq.1) ++ gq.2.2.2, 68⟩, ⟨some b5, [.slice s.ga s.gs.length s.gc, .slice s.va s.vs.length s.vc, .slice s.ea s.es.length s.ec], 43⟩]) (fun gq => [Fact.sl s.va (vrs s.vs), Fact.sl a (gps (s.vs.map (aw r q))), Fact.sl b (ar ws), Fact.sl d (ar ms)]) (0, none, 0, []) (S6 I I I I I I) (S2 I I) (by (try dsimp only); exact ⟨⟨Af _, rfl⟩, fun i h => absurd h (B6 _)⟩) (by exact fun w h => by show St _ _ [⟨none, [] ++ [], _⟩, ⟨some b5, _, _⟩] _ _; exact (aq _ h : St _ _ [⟨some b5, [.slice s.ga s.gs.length s.gc, .slice s.va s.vs.length s.vc, .slice s.ea s.es.length s.ec], _⟩] [Fact.sl s.va (vrs s.vs), Fact.sl a (gps (s.vs.map (aw r q))), Fact.sl b (ar ws), Fact.sl d (ar ms)] _).nil _) ?_
 rintro ⟨i, o, cp, sp⟩ hinv1; (try dsimp only at hinv1 ⊢)
 obtain ⟨⟨hi, hcp⟩, hok⟩ := hinv1
 refine ne (fun hc31 => ?_) (fun hc31 => ?_)
 ·have hil : i < s.vs.length := by omega
  have hil2 : i < (s.vs.map (aw r q)).length := by omega
  have hiw : i < ws.length := by omega
  have him : i < ms.length := by omega
  obtain ⟨v, hv⟩ : ∃ v, Keep (v = s.vs.getD i default) := ⟨_, rfl⟩
  obtain ⟨W, hW⟩ : ∃ W, Keep (W = ws.getD i default) := ⟨_, rfl⟩
  obtain ⟨M, hM⟩ : ∃ M, Keep (M = ms.getD i default) := ⟨_, rfl⟩
  have hvm : v ∈ s.vs := by rw [show v = _ from hv]; exact aj _ _ hil
  obtain ⟨hWo, hW8⟩ := hzw W (by rw [show W = _ from hW]; exact aj _ _ hiw)
  obtain ⟨hMo, hM24⟩ := hzm M (by rw [show M = _ from hM]; exact aj _ _ him)
  have hlg2 : (s.vs.map (aw r q)).getD i default = aw r q v := by rw [show v = _ from hv, List.getD_eq_getElem?_getD, A4, Ad hil, List.getD_eq_getElem?_getD, Ad hil]; rfl
  have hWl := tf hW8
  have hMl := tf hM24
  have hpl := qB hc88 hWl
  have e1 : bP c = ofZ (val c : Int) := by rw [dv hc, eI, bT hc]
  have m1 : ig (bP c) W = (ofZ ((val c : Int) * zv W), 0) := by
   rw [e1, ← ex hWo, dE]; exact kg (by rw [Bh]; omega) (by omega) (by omega)
  have hln : (ar (rsL q s.vs (val c) ws ms i)).length = i * 2 := by rw [ag _ _ 2 (fun _ => rfl), dS]
  have hrs : ∀ x, f4 q v (val c) (zv W) (zv M) = x → ar (rsL q s.vs (val c) ws ms (i + 1)) = ar (rsL q s.vs (val c) ws ms i) ++ zc (ofZ x) := fun x hx => by
   rw [wV, nT, ← show v = _ from hv, ← show W = _ from hW, ← show M = _ from hM, hx]
  refine FO ?_; refine Km I (FG ?_)
  refine Fu ?_
  rw [← show v = _ from hv]
  refine GK ?_
  intro b14
  refine Ka I (Nu I I (Sa I I I .tc) (Nt (Cq (Cs (Kq I (lda I I .tc bG I ?_) ?_)))))
  ·kernel_rfl
  refine Kc I (fun w hS => jD (v := v)) (Yi I (Ns 37 I (v' := .bool (decide (v = []))) (congrArg Value.bool (by by_cases h : v = [] <;> simp [h])) ?_))
  refine Nt (Ci I (fun hc37 => ?_) (fun hc37 => ?_))
  ·have hvn : v = [] := by (exact hc37)
   have hqn : q ≠ [] := hq0 ⟨v, hvm, hvn⟩; have hqp : 0 < val q := iz hq hqn; have hq88 : val q < 256 ^ 8 := Aw (aG q) (Ar (by decide) hq8); have hlq : (aw r q v).1 = q := by rw [aw, Ae hvn]
   obtain ⟨A, hA⟩ : ∃ A : Nat, (A : Int) = (val c : Int) * zv W % (val q : Int) := ⟨_, Ea (Int.emod_nonneg _ (by omega))⟩; have hAq : A < val q := by have := Int.emod_lt_of_pos ((val c : Int) * zv W) (show (0 : Int) < (val q : Int) by omega); omega
   have hmA : gi (ofZ ((val c : Int) * zv W)) q = A := by have := mm (ofZ ((val c : Int) * zv W)) hqp; rw [dE, ← hA] at this; omega
   have hfA : bP (ae A) = ofZ (A : Int) := by rw [dv (az (by omega)), eI]
   have a1 : gD M (bP (ae A)) = (ofZ (zv M + A), 0) := by
    rw [hfA, ← ex hMo, dE, jn (by omega) (by rw [Bh]; omega), Ae (by omega)]
   obtain ⟨X, hX⟩ : ∃ X : Nat, (X : Int) = (zv M + A) % (val q : Int) := ⟨_, Ea (Int.emod_nonneg _ (by omega))⟩; have hXq : X < val q := by have := Int.emod_lt_of_pos (zv M + A) (show (0 : Int) < (val q : Int) by omega); omega
   have hmX : gi (ofZ (zv M + A)) q = X := by have := mm (ofZ (zv M + A)) hqp; rw [dE, ← hX] at this; omega
   have hfX : bP (ae X) = ofZ (X : Int) := by rw [dv (az (by omega)), eI]
   have hx1 : f4 q v (val c) (zv W) (zv M) = X := by rw [f4, Ae hvn, ← hA, ← hX]
   have hz1 : okZ (ofZ ((val c : Int) * zv W)) := bZ.2 (by omega); have hz2 : okZ (ofZ (zv M + A)) := bZ.2 (by omega)
   have hokT : np r q s.vs (val c) ws ms (i + 1) := fun j hj h0 => by
    rcases Bc.1 hj with h | h
    ·exact hok j h h0
    ·subst h; rw [← show v = _ from hv] at h0; exact absurd hvn h0
   have hrx := hrs X hx1; refine Cq (WC.free (K := []) (fs0 := [Fact.sl b (ar ws)]) [0, 1, 2, 3, 4, 5, 6, 7, 8, 10, 11, 9, 12] [] [0, 1, 0, 0, 0, 0, 1, 0, 0, 0, 3, 1, 0] (by kernel_rfl) (by kernel_rfl) I ?_); refine GP ?_; refine GZ ?_; refine Ft ?_; refine Fw ?_; refine FC ?_; refine WJ.set 44 I (v' := zV W) (by rw [show W = _ from hW]) ?_; refine HI ?_; rw [m1]; refine GP ?_; refine Hu ?_; refine FU ?_; intro b15; refine WJ.st I I I I (ft I I I ?_ ?_ ?_) ?_
   ·kernel_rfl
   ·simp [Value.oneCell']
   ·rfl
   refine Hu ?_; refine GR ?_; refine WJ.nil ?_; refine Nt (Cq (WC.free (K := [⟨some b15, [.bool (ofZ ((val c : Int) * zv W)).1, .string (S (ofZ ((val c : Int) * zv W)).2)], 68⟩]) (fs0 := [Fact.sl a (gps (s.vs.map (aw r q)))]) [0, 1, 2, 3, 4, 5, 6, 7, 8, 9, 10, 11] [] [0, 0, 0, 0, 0, 0, 1, 0, 0, 0, 0, 0] (by kernel_rfl) (by kernel_rfl) I ?_)); refine Kj I (lda I I .tc u68 I ?_) ?_
   ·kernel_rfl
   refine Ft ?_; refine Gu ?_; (refine Kj I (faf I I jt I (by kernel_rfl) (by (try simp only [sN, Int.reduceToNat, Nat.reduceAdd, Nat.reduceMul, Nat.reduceSub]); rfl)) ?_); refine GY ?_; refine WJ.set 54 I (v' := .string (S (q))) (congrArg (fun l => Value.string (S l)) (by rw [hlg2, hlq])) ?_; refine Jv I I I I I (fun ext => Oc I I (Kv fun w hS => th (x := ofZ ((val c : Int) * zv W)) (m := q) (by exact hz1) (by exact hq) (by exact hqn))) ?_; rw [hmA]; refine Gd ?_; refine WJ.nil ?_; refine Nt (Cq (WC.free (K := []) (fs0 := [Fact.sl d (ar ms)]) [4, 5, 0, 1, 2, 3, 6, 7, 8, 10, 11, 9, 12] [] [0, 0, 0, 0, 0, 1, 1, 0, 0, 0, 3, 1, 0] (by kernel_rfl) (by kernel_rfl) I ?_)); refine GP ?_; refine Jv I I I I I (fun ext => Oc I I (Kv fun w hS => da (a := ae A))) ?_; refine Ft ?_; refine Fw ?_; refine FC ?_
   refine WJ.set 62 I (v' := zV M) (by rw [show M = _ from hM]) ?_; refine Jv I I I I I (fun ext => Oc I I (Kv fun w hS => ku (x := M) (y := bP (ae A)))) ?_; rw [a1]; refine GP ?_; refine Hu ?_; refine FU ?_; intro b19; refine WJ.st I I I I (ft I I I ?_ ?_ ?_) ?_
   ·kernel_rfl
   ·simp [Value.oneCell']
   ·rfl
   refine Hu ?_; refine GR ?_; refine WJ.nil ?_; refine Nt (Cq (Cs (Km I (Yj I (Ns 69 I (v' := .bool false) (by rfl) ?_))))); refine Fx (fun _ => ?_); refine Ck (Xa (Cq (WC.free (K := [⟨some b19, [.bool (ofZ (zv M + A)).1, .string (S (ofZ (zv M + A)).2)], 68⟩]) (fs0 := [Fact.sl a (gps (s.vs.map (aw r q)))]) [0, 1, 2, 3, 4, 5, 6, 7, 8, 9, 10, 11] [] [0, 0, 0, 0, 0, 0, 1, 0, 0, 0, 0, 0] (by kernel_rfl) (by kernel_rfl) I ?_))); refine Kj I (lda I I .tc u68 I ?_) ?_
   ·kernel_rfl
   refine Kj I (Rm I I) (Kj I (Rm I I) ?_); refine Kj I (Ia I I I kD (by kernel_rfl : _ = some 2) (by omega) (by (rw [ag _ _ 2 (fun _ => rfl)]; omega))) ?_; (refine Kj I (faf I I jt I (by kernel_rfl) (by (try simp only [sN, Int.reduceToNat, Nat.reduceAdd, Nat.reduceMul, Nat.reduceSub]); rfl)) ?_); refine Kj I (cE (sz := 2) _ 0 I I u22 I (fun _ => rfl) I (by assumption) (by decide) I) ?_; refine WJ.set 77 I (v' := .string (S (q))) (congrArg (fun l => Value.string (S l)) (by rw [hlg2, hlq])) ?_; refine Jv I I I I I (fun ext => Oc I I (Kv fun w hS => th (x := ofZ (zv M + A)) (m := q) (by exact hz2) (by exact hq) (by exact hqn))) ?_; rw [hmX]; refine Kj I (Rm I I) (Kj I (Re I I I) (Kj I (Re I I I) (Kj I (Ra I I) (Kj I (Ra I I) ?_)))); refine WJ.nil ?_; refine Nt (Cs (Km I (Km I (Kc I (fun w hS => da (a := ae X)) ?_)))); rw [hfX]; refine Kh I (ew I I u31 (by kernel_rfl : _ = some (some (.agg #[.bool false, .string (S [])]), 2, 24)) (by kernel_rfl) (by decide) I I (by (simp [Value.cells]; done)) (by (exact bV _)) (by decide)) ?_; intro b84; refine Kh I (jm I u31 (by kernel_rfl : _ = some (some (.agg #[.bool false, .string (S [])]), 2, 24)) (by kernel_rfl) (by decide) .tc I I (fun w hS => by (exact hS.os)) (by rfl) (by refine ⟨?_, ?_, ?_, ?_⟩ <;> first | exact hln | omega) (by (simp [Value.oneCell']; done))) ?_; rintro ⟨o85, c85, s85⟩
   refine WL.pu ?_; intro hg85; (try dsimp only at hg85 ⊢); refine Ka I (Nt (Cx (Xc (Xe (Xa (Cg (Kq I (Rz I I I (by omega)) (Km I (Nn (Lx ((i + 1, o85, c85, s85)) (by (try dsimp only); omega) (S6 I I I I I I) (by refine (Sc ?_ (Sc ?_ (S0 _))) <;> (rfl)) ?_ (by exact fun w h => by rw [hrx]; exact aq _ h))))))))))); (try dsimp only); exact ⟨⟨hil, by omega⟩, hokT⟩
  ·have hvn : ¬ v = [] := by (exact hc37)
   have hlq : (aw r q v).2 = ae (rsI r v) := by rw [aw, Aa hvn]
   have hx1 : f4 q v (val c) (zv W) (zv M) = zv M + val c * zv W := by rw [f4, Aa hvn]
   have a1 : gD M (ofZ ((val c : Int) * zv W)) = (ofZ (zv M + (val c : Int) * zv W), 0) := by
    rw [← ex hMo, dE, jn (by omega) (by omega), Ae (by omega)]
   have hz2 : okZ (ofZ (zv M + (val c : Int) * zv W)) := bZ.2 (by omega); have hlB : rsI r v < Big := Bb (Eb _ _) (nJ h4 h5 (h6 v hvm)); have hvl : val (ae (rsI r v)) = rsI r v := ah _; have hab : val (ofZ (zv M + (val c : Int) * zv W)).2 = (zv M + (val c : Int) * zv W).natAbs := by rw [ce, ah]
   have hblw : blw v (ofZ (zv M + (val c : Int) * zv W)) (val (ae (rsI r v))) ↔ (f4 q v (val c) (zv W) (zv M)).natAbs < rsI r v := by
    rw [blw, hvl, hab, hx1]; exact ⟨fun h => h.1, fun h => ⟨h, fun h => absurd h hvn⟩⟩
   have hrx := hrs _ hx1; refine Ck (Xa (Cq (WC.free (K := []) (fs0 := [Fact.sl b (ar ws)]) [0, 1, 2, 3, 4, 5, 6, 7, 8, 10, 11, 9, 12] [] [0, 1, 0, 0, 0, 0, 1, 0, 0, 0, 3, 1, 0] (by kernel_rfl) (by kernel_rfl) I ?_))); refine GP ?_; refine GZ ?_; refine Ft ?_; refine Fw ?_; refine FC ?_; refine WJ.set 92 I (v' := zV W) (by rw [show W = _ from hW]) ?_; refine HI ?_; rw [m1]; refine GP ?_; refine Hu ?_; refine FU ?_; intro b23; refine WJ.st I I I I (ft I I I ?_ ?_ ?_) ?_
   ·kernel_rfl
   ·simp [Value.oneCell']
   ·rfl
   refine Hu ?_; refine GR ?_; refine WJ.nil ?_; refine Nt (Cq (WC.free (K := [⟨some b23, [.bool (ofZ ((val c : Int) * zv W)).1, .string (S (ofZ ((val c : Int) * zv W)).2)], 68⟩]) (fs0 := [Fact.sl d (ar ms)]) [0, 1, 2, 3, 4, 5, 6, 7, 9, 10, 8, 11] [] [0, 0, 0, 0, 0, 1, 0, 0, 0, 3, 1, 0] (by kernel_rfl) (by kernel_rfl) I ?_)); refine Ft ?_; refine Fw ?_; refine FC ?_; refine WJ.set 100 I (v' := zV M) (by rw [show M = _ from hM]) ?_; refine Kj I (lda I I .tc u68 I ?_) ?_
   ·kernel_rfl
   refine Jv I I I I I (fun ext => Oc I I (Kv fun w hS => ku (x := M) (y := ofZ ((val c : Int) * zv W)))) ?_; rw [a1]; refine GP ?_; refine Hu ?_; refine FU ?_; intro b25; refine WJ.st I I I I (ft I I I ?_ ?_ ?_) ?_
   ·kernel_rfl
   ·simp [Value.oneCell']
   ·rfl
   refine Hu ?_; refine GR ?_; refine WJ.nil ?_; refine Nt (Cq (WC.joinP (σ := Unit) [(1, _), (2, _), (3, _), (4, _), (12, _), (25, _), (28, _), (29, _), (30, _)] (fun gq => [(117, .bool (decide (¬ blw v (ofZ (zv M + (val c : Int) * zv W)) (val (ae (rsI r v))))))]) (fun gq => True) (S9 I I I I I I I I I) ?_ ?_))
   ·skip
    refine WC.free (K := [⟨some b25, [.bool (ofZ (zv M + (val c : Int) * zv W)).1, .string (S (ofZ (zv M + (val c : Int) * zv W)).2)], 68⟩, ⟨some b14, [.string (S v)], 132⟩]) (fs0 := [Fact.sl a (gps (s.vs.map (aw r q)))]) [0, 1, 2, 3, 4, 5, 6, 7, 8, 9, 10, 11, 12] [] [0, 0, 0, 0, 0, 0, 0, 0, 0, 0, 1, 0, 0] (by kernel_rfl) (by kernel_rfl) I ?_; refine GP ?_; refine Kj I (kY I I I) ?_; refine WJ.set 106 I (v' := .bool false) (by rfl) ?_; refine GP ?_; refine Kj I (lda I I .tc bG I ?_) ?_
    ·kernel_rfl
    refine Kj I (lda I I .tc u68 I ?_) ?_
    ·kernel_rfl
    refine Kj I (Rm I I) (Kj I (Rm I I) ?_); refine Kj I (Ia I I I kD (by kernel_rfl : _ = some 2) (by omega) (by (rw [ag _ _ 2 (fun _ => rfl)]; omega))) ?_; (refine Kj I (faf I I jt I (by kernel_rfl) (by (try simp only [sN, Int.reduceToNat, Nat.reduceAdd, Nat.reduceMul, Nat.reduceSub]); rfl)) ?_); refine Kj I (cE (sz := 2) _ 1 I I u22 I (fun _ => rfl) I (by assumption) (by decide) I) ?_; refine WJ.set 114 I (v' := .string (S (ae (rsI r v)))) (congrArg (fun l => Value.string (S l)) (by rw [hlg2, hlq])) ?_; refine Jv I I I I I (fun ext => Oc I I (Kv fun w hS => iD (v := v) (x := ofZ (zv M + (val c : Int) * zv W)) (n := ae (rsI r v)) (by exact hz2.1) (by exact az hlB))) ?_; refine Kj I (Rt I I) (Kj I (Rq I I I) ?_); refine WJ.nil ?_; refine Nn (WX.joinP (()) (S9 I I I I I I I I I) (by refine (Sc ?_ (S0 _)) <;> ((refine ao rfl ?_; (try dsimp only); (simp [*]; done)))) ?_ (fun _ h => h)); (try dsimp only); done
   ·rintro _ hmeet; (try dsimp only at hmeet ⊢); refine Ci I (fun hc117 => ?_) (fun hc117 => ?_)
    ·have hr : kL r q s.vs (val c) ws ms = ([], 15) := by
      rw [kL, Aa]; intro h; have := h i hil (by rw [← show v = _ from hv]; exact hvn); rw [← show v = _ from hv, ← show W = _ from hW, ← show M = _ from hM] at this; exact hc117 (hblw.2 this)
     refine Cs (Ka I (le ?_)); refine Xb (FE ?_); exact Im
    ·have hokT : np r q s.vs (val c) ws ms (i + 1) := fun j hj h0 => by
      rcases Bc.1 hj with h | h
      ·exact hok j h h0
      ·subst h; rw [← show v = _ from hv, ← show W = _ from hW, ← show M = _ from hM]; exact hblw.1 (Ah.1 hc117)
     refine Ck (Xa (Cg (Km I (Kq I (lda I I .tc u68 I ?_) ?_))))
     ·kernel_rfl
     refine Kh I (ew I I u31 (by kernel_rfl : _ = some (some (.agg #[.bool false, .string (S [])]), 2, 24)) (by kernel_rfl) (by decide) I I (by (simp [Value.cells]; done)) (by (exact bV _)) (by decide)) ?_; intro b120; refine Kh I (jm I u31 (by kernel_rfl : _ = some (some (.agg #[.bool false, .string (S [])]), 2, 24)) (by kernel_rfl) (by decide) .tc I I (fun w hS => by (exact hS.os)) (by rfl) (by refine ⟨?_, ?_, ?_, ?_⟩ <;> first | exact hln | omega) (by (simp [Value.oneCell']; done))) ?_; rintro ⟨o121, c121, s121⟩; refine WL.pu ?_; intro hg121; (try dsimp only at hg121 ⊢); refine Ka I (Nn (Xd (Xa (Cg (Kq I (Rz I I I (by omega)) (Km I (Nn (Lx ((i + 1, o121, c121, s121)) (by (try dsimp only); omega) (S6 I I I I I I) (by refine (Sc ?_ (Sc ?_ (S0 _))) <;> (rfl)) ?_ (by exact fun w h => by rw [hrx]; exact aq _ h))))))))); (try dsimp only); exact ⟨⟨hil, by omega⟩, hokT⟩
 ·refine Fq ?_
  obtain rfl : i = s.vs.length := by omega
  have hr : kL r q s.vs (val c) ws ms = (rsL q s.vs (val c) ws ms s.vs.length, 0) := by rw [kL, Ae hok]
  refine Xa (H7 ?_); refine le ?_
  exact Rn I (.tmp I (.tmp I .nil)) fun w' hS => ⟨⟨o, cp, sp⟩, by rw [hr]; dsimp only; rw [dS]; rfl, trivial, hS.below, by rw [hr]; exact Fc hS.ocf Fn⟩
def Fg (k : PK) : Prop := k.1.2 ≠ [] ∧ (elG k.1 k.2.1 ∧ k.2.1 ≠ ae 1) ∧ elG k.1 k.2.2 ∧ k.2.2 ≠ ae 1
instance (k : PK) : Decidable (Fg k) := inferInstanceAs (Decidable (_ ∧ _))
def pP (g : Gp) (a b : Bs) : Bs × Int := if eF g [a, b] [] true ≠ 0 then ([], eF g [a, b] [] true) else lV a b g.1
theorem ra {g : Gp} {n : Nat} (hg : aT g = 0) (hn : n < val g.1) (hu : Un (val g.1) n) (ho : g.2 ≠ [] → n ^ val g.2 % val g.1 = 1) : elG g (ae n) := by
 obtain ⟨hm, _, hm2, _, _⟩ := db hg
 refine ⟨az (C9 hn (a7 hm)), fun h => ?_, by rw [ah]; exact hn, ?_⟩
 ·rw [bk] at h; subst h; simp [Un] at hu; omega
 ·rw [ah]; split
  ·exact hu
  ·rename_i h; exact ho h
theorem n3 {g : Gp} {x : Bs} (hg : aT g = 0) (h : elG g x) (hq : g.2 ≠ []) : Or (val g.1) (val g.2) (val x) := by
 obtain ⟨_, _, h2, _, _⟩ := db hg
 have h1 := h.2.2.2; rw [Aa hq] at h1
 rw [Or, h1, Am (by omega)]
theorem ym {g : Gp} {a b : Bs} (hg : aT g = 0) (ha : elG g a) (hb : elG g b) : elG g (ae (val a * val b % val g.1)) := by
 have hm0 := lA (x := a) hg
 obtain ⟨_, _, h2, _, _⟩ := db hg
 refine ra hg (Aq _ hm0) (tx.2 (zk (eL hg ha) (eL hg hb))) fun hq => ?_
 have := ut.2 (AH (n3 hg ha hq) (n3 hg hb hq))
 rw [Or, Am (show 1 < val g.1 by omega)] at this; exact this
theorem fK {g : Gp} {a : Bs} (hg : aT g = 0) (ha : elG g a) (z : Int) : elG g (ae (aZ (val g.1) (val a) z)) := by
 have hm0 := lA (x := a) hg
 obtain ⟨_, _, h2, _, _⟩ := db hg
 refine ra hg (by rw [← eW]; exact Aq _ hm0) (wx hm0 (eL hg ha) _) fun hq => ?_
 have := xC hm0 (eL hg ha) (n3 hg ha hq) z
 rw [Or, Am (show 1 < val g.1 by omega)] at this; exact this
theorem qM {g : Gp} {a b : Bs} (hg : aT g = 0) (ha : elG g a) (hb : elG g b) : pP g a b = (ae (val a * val b % val g.1), 0) := by
 obtain ⟨hm, _, hm2, _, _⟩ := db hg
 have e1 : ∀ z ∈ [a, b], okN z := by intro z hz; simp at hz; rcases hz with rfl | rfl; exact ha.1; exact hb.1
 have e3 : ∀ z ∈ [a, b], elG g z := by intro z hz; simp at hz; rcases hz with rfl | rfl <;> assumption
 have h0 : eF g [a, b] [] true = 0 := by
  rw [eF, Aa (fun h => h e1), Aa (fun h => h (by simp)), Aa (fun h => h hg), Aa (by simp), Aa (fun h => h e3)]
 rw [pP, Aa (fun h => h h0), kh ha.1 hb.1 hm (fun h => by rw [h] at hm2; exact absurd hm2 (by decide))]
def isS (k : PK) (s : Bs) : Prop := s ≠ [] ∧ val s < val k.1.2 ∧ aZ (val k.1.1) (val k.2.1) (val s) = val k.2.2
instance (k : PK) (s : Bs) : Decidable (isS k s) := inferInstanceAs (Decidable (_ ∧ _))
theorem qC {g : Gp} {a b : Bs} {w : World} (hm8 : g.1.length ≤ 8) :
  Cw 198 #[gV g, .string (S a), .string (S b)] w (NE (pP g a b)) := by
 refine En [] [(0, gV g), (1, .string (S a)), (2, .string (S b))] Tryz.func198 I Tryz.ntmps198 I (Ac I (Ac I (Ac I (An _)))) Fn (Eq ?_)
 intro b3
 refine Ka I (Ka I (Nt (Cq (Cs (Kq I (lda I I .tc u26 I ?_) ?_)))))
 ·kernel_rfl
 refine Km I (Km I (Kh I (aN I I u33 (by kernel_rfl : _ = some (some (.string (S [])), 1, 16)) I (by simp only [List.map]; rfl) I I ?_ (by decide)) ?_))
 ·simp [Value.cells]
 intro b12
 refine Kc I (fun w hS => mQ (g := g) (l := [a, b]) (es := []) (same := true) (by (exact hS.os)) (by (exact hJ)) (by (simp <;> omega)) (by (simp <;> omega)) (by assumption)) (Ka I (Nt (Fz (fun hc15 => ?_) (fun hc15 => ?_))))
 ·refine H7 ?_; refine le ?_; refine Xb ?_
  exact R2 I I I (by rw [pP, Ae (by simpa using hc15)]; rfl)
 ·have h0 : eF g [a, b] [] true = 0 := by simpa using hc15
  obtain ⟨_, _, _, _, hel⟩ := rv h0
  have ha8 := n4 (hel a (by simp)) hm8
  have hb8 := n4 (hel b (by simp)) hm8
  refine GG ?_; refine Gj ?_
  refine Kc I (fun w hS => nI (a := a) (b := b) (m := g.1) (by assumption) (by assumption) (by assumption)) (Ye I (Ye I (Ka I (le ?_))))
  exact R2 I I I (by rw [pP, Aa (fun h => h h0)]; rfl)
end Go.Proofs.YtchonigdjamphaaGreatDoor
