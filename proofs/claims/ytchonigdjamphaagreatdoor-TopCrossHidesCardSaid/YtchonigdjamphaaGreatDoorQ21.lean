/-
  Parts of the walk: Fs7 Ics Icm Icc Ick Icq Lir1.
-/
import Derived.Test.YtchonigdjamphaaGreatDoorQ20
namespace Go.Proofs.YtchonigdjamphaaGreatDoor
open Go.RowKit
set_option linter.unusedSimpArgs false
set_option linter.unusedVariables false
set_option maxHeartbeats 600000
set_option maxRecDepth 20000
section
variable {ds : List Deferred} {P : Program} {o : Oper} {n : Nat} {L : an} {Z : World → Prop} {x y : Operand} {t e : TypeId} {sz : Nat}
theorem xt {ob : Option Nat} {len cap c : Nat} {ad : Option Addr} (hop : o.op = .call { callee := .builtin .append, args := #[x, y], argTypes := #[t, t] }) (hx : ai L x = some (.slice (ob.map fun b => ⟨b, 0, none⟩) len cap)) (hy : ai L y = some (.slice ad 0 c)) (hu : P.underlying t = some (.slice e)) (hs : (P.info? e).map (·.size) = some sz) (hlc : len ≤ cap) :
  Rd ds P o n L Z (.slice (ob.map fun b => ⟨b, 0, none⟩) len cap) := aI fun a hF w _ => by
 have hrun := kJ (P := P) (w := w) (ob := ob) (len := len) (cap := cap) (c := c) (ad := ad) (ty := o.type) hu hs hlc
 simp [execOp, hop, resolve, invoke, builtin, hF.eval hx, hF.eval hy, hrun]
end
theorem yv {r : Gp} {s : Sm} {ms : List Zs} (h : (ez r s ms).2 ≠ 0) : ez r s ms = ([], (ez r s ms).2) := by
 unfold ez at h ⊢
 repeat' (split at h; · (first | rfl | simp [*]))
 exact absurd rfl h
theorem yh (r : Gp) (s : Sm) (ws : List Zs) (fs : List Bs) (c : Bs) (xs : List Zs) : (dm r s ws fs c xs).1.length ≤ s.2.1.length := by
 unfold dm
 repeat' (split; · exact Af _)
 rw [i1]; exact Ba _
theorem BK {r : Gp} {cx : Bs} {s : SA} {n : Bs} {xs : List Zs} {xa : Option Addr} {xc : Nat} {w : World} {ok : Nat → Prop} (hF1 : (Fact.sl s.ga (gps s.gs)).holds ok w) (hF2 : (Fact.sl s.va (vrs s.vs)).holds ok w) (hF3 : (Fact.sl s.ea (qas s.es)).holds ok w) (hF4 : (Fact.sl xa (ar xs)).holds ok w) (hM : ∀ f ∈ (s.es.map qaF), f.holds ok w) (hcx : cx.length ≤ 100) (hs : saL s) (hy : pB s.core) (hSm : Sml r s.core) (hxl : xs.length ≤ 100000) (hp : Prf r cx s.core n xs) (hfx : (cg s.core (val n) xs).length ≤ 100 ∧ ∀ x ∈ cg s.core (val n) xs, x.length ≤ 100) (hT : Tab w) :
  Cw 9 #[.agg #[.string (S r.1), .string (S r.2)], .string (S cx), saV s, cl0, sgV n xs xa xc] w (.int .i64 0) := by
 have hns : jB r s = ia r s := by rw [jB, Aa (fun h => h hp.bd)]
 obtain ⟨hrk, _, hr2, _⟩ := dg hp.bd
 have hr0 : r.1 ≠ [] := fun h => by have := hr2.1; rw [h] at this; exact absurd this (by decide)
 refine En (Fact.sl s.ga (gps s.gs) :: Fact.sl s.va (vrs s.vs) :: Fact.sl s.ea (qas s.es) :: Fact.sl xa (ar xs) :: (s.es.map qaF)) [(0, .agg #[.string (S r.1), .string (S r.2)]), (1, .string (S cx)), (2, saV s), (3, cl0), (4, sgV n xs xa xc)] Tryz.func9 I Tryz.ntmps9 I (Ac I (Ac I (Ac I (Ac I (Ac I (An _)))))) (Fc (af hF1) (Fc (af hF2) (Fc (af hF3) (Fc (af hF4) (aE hM))))) (Eq ?_)
 intro b5
 refine Gc ?_
 intro b7
 refine Gc ?_
 intro b8
 refine Gc ?_
 intro b9
 refine Ka I (Nt (Cs (Kq I (lda I I .tc u24 I ?_) ?_)))
 ·kernel_rfl
 refine Kq I (lda I I .tc u43 I ?_) ?_
 ·kernel_rfl
 refine Kq I (lda I I .tc u57 I ?_) ?_
 ·kernel_rfl
 refine F6 ?_
 rw [hns, hp.bd]
 refine Km I (Ye I (Ye I (FQ ?_)))
 intro b11
 refine FF ?_; refine FM ?_; refine Yj I (Ns 28 I (v' := .bool false) (by rfl) ?_)
 refine Fx (fun _ => ?_)
 refine Ck (Xa (Cs (Kq I (lda I I .tc u89 I ?_) ?_)))
 ·kernel_rfl
 refine Kq I (lda I I .tc u49 I ?_) ?_
 ·kernel_rfl
 refine Kh I (Oc I I (bK fun w hS => q6 (r := r) (s := s) (cx := cx) (n := n) (xs := xs) (by (exact hS.slo)) (by (exact hS.slo)) (by (exact hS.slo)) (by (exact hS.slo)) (by (exact hS.moreo)) (by exact hs) (by exact hSm) (by exact hxl) (by exact hp))) ?_
 rintro ⟨g33, h33⟩
 refine WL.pu ?_
 intro hg33; (try dsimp only [List.cons_append, List.nil_append] at hg33 ⊢)
 refine HZ ?_; refine HW ?_
 intro b13
 refine HR ?_
 intro b14
 refine FF ?_; refine FF ?_; refine FM ?_; refine Yj I (Ns 38 I (v' := .bool false) (by rfl) ?_)
 refine Fx (fun _ => ?_)
 refine Ck (Xa (Cs (GI ?_))); refine Kf 1 I j0 I I I .tc rO ?_
 refine Yo I rO (Km I (Nt (Cb (Lp (σ := Nat) [(1, _), (9, _), (11, _), (13, _), (14, _), (41, _), (42, _)] (fun gq => [(43, .int .i64 0), (15, .slice none 0 0)]) (fun gq => 0 ≤ gq) (fun gq => 0) (0) (S7 I I I I I I I) (S2 I I) (by (try dsimp only); exact Af _) ?_))))
 rintro u hinv1; (try dsimp only at hinv1 ⊢)
 refine Cs (Yl I (Nt (Cq (Cd I (fun hc44 => by exfalso; (try simp only [sB] at hc44); omega) (fun hc44 => ?_)))))
 (try simp only [sB] at hc44)
 refine Fq ?_; refine Xa (Cq (Cs ?_))
 refine Kq I (lda I I .tc u89 I ?_) ?_
 ·kernel_rfl
 refine Km I (Kf 0 I fq I I I .tc u33 ?_)
 refine Km I (Kc I (fun w hS => vh (r := r) (s := s) (cx := cx) (fs := cg s.core (val n) xs) (by (exact hS.sl)) (by (exact hS.sl)) (by (exact hS.sl)) (by (exact hS.sl)) (by (exact hS.more)) (by exact hcx) (by exact hs) (by exact hy) (by exact hfx.1) (by exact hfx.2) (by exact hrk.1) (by exact hr0) (by exact hSm.a) (by exact bW hT hS)) ?_)
 rw [hp.ch]
 refine Fs ?_; refine Cs (Km I (Yj I (Km I (Ns 64 I (v' := .bool false) (by rfl) ?_))))
 refine Km I (HV ?_)
 refine Yr I (Yq I (Km I (Ns 70 I (v' := .bool false) (by simp) ?_)))
 refine Kq I (lda I I .tc u89 I ?_) ?_
 ·kernel_rfl
 refine Kq I (lda I I .tc j0 I ?_) ?_
 ·kernel_rfl
 refine Km I (Kc I (fun w hS => vi) (Yt I (Yq I (Ns 76 I (v' := .bool false) (by rfl) ?_))))
 refine Fx (fun _ => ?_)
 refine Ck (Xa (Cs (le ?_)))
 exact Iq
theorem BI {r : Gp} {cx : Bs} {s : SA} {ws : List Zs} {n : Bs} {xs : List Zs} {wa xa : Option Addr} {wc xc : Nat} {w : World} {ok : Nat → Prop} (hF1 : (Fact.sl s.ga (gps s.gs)).holds ok w) (hF2 : (Fact.sl s.va (vrs s.vs)).holds ok w) (hF3 : (Fact.sl s.ea (qas s.es)).holds ok w) (hF4 : (Fact.sl wa (ar ws)).holds ok w) (hF5 : (Fact.sl xa (ar xs)).holds ok w) (hM : ∀ f ∈ (s.es.map qaF), f.holds ok w) (hs : saL s) (hSm : Sml r s.core) (hwl : ws.length ≤ 100000) (hxl : xs.length ≤ 100000) (hfx : (cg s.core (val n) xs).length ≤ 100000) (hp : Prf r cx s.core n xs) :
  Calls Tryz.prog 11 #[.agg #[.string (S r.1), .string (S r.2)], saV s, .slice wa ws.length wc, cl0, .slice none 0 0, sgV n xs xa xc] w fun e w' => ∃ gx : Rs, e = .returned (.tuple #[gx.val (fm r s.core ws n xs).1.length, .int .i64 (fm r s.core ws n xs).2]) ∧ (True) ∧ Below w.heap.size w w' ∧ ∀ x ∈ ([Fact.sl gx.a (am (fm r s.core ws n xs).1)] : List Fact), x.holds (fun b => ok b ∨ w.heap.size ≤ b) w' := by
 have hns : jB r s = ia r s := by rw [jB, Aa (fun h => h hp.bd)]
 refine enter (S := St (fun b => ok b ∨ w.heap.size ≤ b) w [] (Fact.sl s.ga (gps s.gs) :: Fact.sl s.va (vrs s.vs) :: Fact.sl s.ea (qas s.es) :: Fact.sl wa (ar ws) :: Fact.sl xa (ar xs) :: (s.es.map qaF))) (L := [(0, .agg #[.string (S r.1), .string (S r.2)]), (1, saV s), (2, .slice wa ws.length wc), (3, cl0), (4, .slice none 0 0), (5, sgV n xs xa xc)]) Tryz.func11 rfl Tryz.ntmps11 rfl (Ac rfl (Ac rfl (Ac rfl (Ac rfl (Ac rfl (Ac rfl (An _))))))) (St.start (fun _ h => Or.inr h) (bL (Fc hF1 (Fc hF2 (Fc hF3 (Fc hF4 (Fc hF5 hM))))))) ?_
 refine Eq ?_
 intro b6
 refine Gc ?_
 intro b7
 refine Gc ?_
 intro b9
 refine Gc ?_
 intro b11
 refine Ka I (Ka I (Nt (Cs (Kq I (lda I I .tc u24 I ?_) ?_))))
 ·kernel_rfl
 refine Kq I (lda I I .tc u43 I ?_) ?_
 ·kernel_rfl
 refine Kq I (lda I I .tc u57 I ?_) ?_
 ·kernel_rfl
 refine F6 ?_
 rw [hns, hp.bd]
 refine Km I (Ye I (Ye I (FQ ?_)))
 intro b14
 refine FF ?_; refine FM ?_; refine Yj I (Ns 29 I (v' := .bool false) (by rfl) ?_)
 refine Fx (fun _ => ?_)
 refine Ck (Xa (Cs (Kq I (lda I I .tc u89 I ?_) ?_)))
 ·kernel_rfl
 refine Kq I (lda I I .tc u49 I ?_) ?_
 ·kernel_rfl
 refine Kh I (Oc I I (bK fun w hS => q6 (r := r) (s := s) (cx := cx) (n := n) (xs := xs) (by (exact hS.slo)) (by (exact hS.slo)) (by (exact hS.slo)) (by (exact hS.slo)) (by (exact hS.moreo)) (by exact hs) (by exact hSm) (by exact hxl) (by exact hp))) ?_
 rintro ⟨g34, h34⟩
 refine WL.pu ?_
 intro hg34; (try dsimp only [List.cons_append, List.nil_append] at hg34 ⊢)
 refine HZ ?_; refine HW ?_
 intro b16
 refine HR ?_
 intro b17
 refine FF ?_; refine FF ?_; refine FM ?_; refine Yj I (Ns 39 I (v' := .bool false) (by rfl) ?_)
 refine Fx (fun _ => ?_)
 refine Ck (Xa (Cq (Cs (Kq I (lda I I .tc u89 I ?_) ?_))))
 ·kernel_rfl
 refine Kq I (lda I I .tc j0 I ?_) ?_
 ·kernel_rfl
 refine HV ?_
 refine Kc I (fun w hS => vi) (Yt I (Ns 46 I (v' := .bool false) (by rfl) ?_))
 refine Fx (fun _ => ?_)
 refine Ck (Xa (Cs (Kq I (lda I I .tc u24 I ?_) ?_)))
 ·kernel_rfl
 refine Kq I (lda I I .tc u43 I ?_) ?_
 ·kernel_rfl
 refine Km I (Kq I (lda I I .tc fq I ?_) ?_)
 ·kernel_rfl
 refine Kh I (Oc I I (bE fun w hS => zz (r := r) (s := s) (ws := ws) (fs := cg s.core (val n) xs) (c := n) (xs := xs) (by (exact hS.sl)) (by (exact hS.sl)) (by (exact hS.sl)) (by (exact hS.sl)) (by (exact hS.sl)) (by (exact hS.sl)) (by (exact hS.more)) (by exact hs) (by exact hSm.a) (by exact hSm.b) (by exact hSm.v) (by exact hSm.q) (by exact hwl) (by exact hfx) (by exact hxl))) ?_
 rintro g52
 refine WL.pu ?_
 intro hg52; (try dsimp only [List.cons_append, List.nil_append] at hg52 ⊢)
 refine Fs ?_; refine Cq (Fz (fun hc56 => ?_) (fun hc56 => ?_))
 ·have hr : fm r s.core ws n xs = ([], (dm r s.core ws (cg s.core (val n) xs) n xs).2) := by rw [fm, Ae (by (exact hc56))]
  refine H7 ?_; refine le ?_; refine Xb ?_
  exact Im
 ·have hx0 : (dm r s.core ws (cg s.core (val n) xs) n xs).2 = 0 := by (simpa using hc56)
  have hr : fm r s.core ws n xs = ez r s.core (dm r s.core ws (cg s.core (val n) xs) n xs).1 := by rw [fm, Aa (fun h => h hx0)]
  refine Ck (Xa (Cs (Kq I (lda I I .tc u24 I ?_) ?_)))
  ·kernel_rfl
  refine Kq I (lda I I .tc u43 I ?_) ?_
  ·kernel_rfl
  refine Km I (Kh I (Oc I I (bE fun w hS => zB (r := r) (s := s) (ms := (dm r s.core ws (cg s.core (val n) xs) n xs).1) (by (exact hS.sl)) (by (exact hS.sl)) (by (exact hS.sl)) (by (exact hS.sl)) (by (exact hS.more)) (by exact hs) (by exact hSm.a) (by exact hSm.b) (by exact hSm.v) (by exact Bi (yh _ _ _ _ _ _) hs.2.1))) ?_)
  rintro g62
  refine WL.pu ?_
  intro hg62; (try dsimp only [List.cons_append, List.nil_append] at hg62 ⊢)
  refine Fs ?_; refine Cq (Fz (fun hc66 => ?_) (fun hc66 => ?_))
  ·have he := yv (r := r) (s := s.core) (ms := (dm r s.core ws (cg s.core (val n) xs) n xs).1) (by (exact hc66)); refine H7 ?_; refine le ?_; refine Xb ?_; exact Rn I (.tmp I (.tmp I .nil)) fun w' hS => ⟨⟨none, 0, []⟩, by rw [hr, he]; rfl, trivial, hS.below, by rw [hr, he]; exact Fc av Fn⟩
  ·have hy0 : (ez r s.core (dm r s.core ws (cg s.core (val n) xs) n xs).1).2 = 0 := by (simpa using hc66)
   refine Ck (Xa (Cs (Kq I (lda I I .tc u57 I ?_) ?_)))
   ·kernel_rfl
   refine Km I (Kq I (lda I I .tc j0 I ?_) ?_)
   ·kernel_rfl
   refine Kc I (fun w hS => CH) (Fs ?_); refine Cq (Cs (Km I (Yj I (Ns 76 I (v' := .bool false) (by rfl) ?_)))); refine Fx (fun _ => ?_); refine GG ?_; refine Kq I (xt I I I u33 (by kernel_rfl : _ = some 1) hg62) ?_; refine Ka I (le ?_); exact Rn I (.tmp I (.tmp I .nil)) fun w' hS => ⟨g62, by rw [hr, hy0]; rfl, trivial, hS.below, by rw [hr]; exact Fc hS.slk Fn⟩
def pj (v r : Bs) : Int := if v = [] ∨ r = [] then 2 else 0
def eqE (m k : PK) (a b v r : Bs) : Int := if ¬ (okK m ∧ okK k ∧ okN a ∧ okN b ∧ okN v ∧ okN r) then 3 else if fh m ≠ 0 then fh m else if m.1.2 = [] then 10 else if jL k ≠ 0 then jL k else if ¬ (elG m.1 a ∧ elG k.1 b) then 13 else pj v r
def eqQ (m k : PK) (a b v r : Bs) : Sm := ([m.1, k.1], [v, [], r], [(0, a, [trm m.2.1 0, trm m.2.2 1]), (1, b, [trm k.2.1 0, trm k.2.2 2])])
def eqS (m k : PK) (a b v r : Bs) : Sm × Int := if eqE m k a b v r ≠ 0 then (([], [], []), eqE m k a b v r) else (eqQ m k a b v r, 0)
theorem yA {k : PK} (h : jL k = 0) : okK k ∧ aT k.1 = 0 ∧ elK k ∧ k.1.2 = [] := by
 unfold jL at h; split at h
 ·rename_i h1; exact absurd h h1
 ·rename_i h1; split at h
  ·simp at h
  ·rename_i h2; have h1 := Ah.1 h1; unfold fh at h1; split at h1
   ·simp at h1
   ·rename_i h3; split at h1
    ·rename_i h4; exact absurd h1 h4
    ·rename_i h4; split at h1
     ·simp at h1
     ·rename_i h5; exact ⟨Ah.1 h3, Ah.1 h4, Ah.1 h5, Ah.1 h2⟩
theorem yz {k : PK} (h1 : fh k = 0) : okK k ∧ aT k.1 = 0 ∧ elK k := by
 unfold fh at h1
 split at h1
 ·simp at h1
 ·rename_i h3; split at h1
  ·rename_i h4; exact absurd h1 h4
  ·rename_i h4; split at h1
   ·simp at h1
   ·rename_i h5; exact ⟨Ah.1 h3, Ah.1 h4, Ah.1 h5⟩
instance (priority := low) SubL.app {α : Type} (x y z : List α) [h : SubL x z] : SubL x (y ++ z) := ⟨h.h.trans (List.sublist_append_right _ _)⟩
theorem x4 {l : List Bs} {a : Option Addr} {c : Nat} {w : World} {ok : Nat → Prop} (hF1 : (Fact.sl a (am l)).holds ok w) (hl : l.length ≤ 100000) :
  Cw 18 #[.slice a l.length c] w (.int .i64 (if ∀ x ∈ l, okN x then 0 else 3)) := by
 refine En [Fact.sl a (am l)] [(0, .slice a l.length c)] Tryz.func18 I Tryz.ntmps18 I (Ac I (An _)) (Fc (af hF1) Fn) (Cs (FM ?_)); refine HT ?_; refine Lp (σ := Nat) [(5, _), (6, _)] (fun gq => [(7, .int .i64 (gq : Int))]) (fun gq => gq ≤ l.length ∧ ∀ x ∈ l.take gq, okN x) (fun gq => l.length - gq) (0) (S2 I I) (S1 I) (by (try dsimp only); exact ⟨Af _, by simp⟩) ?_
 rintro i hinv1; (try dsimp only at hinv1 ⊢)
 obtain ⟨hi, hok⟩ := hinv1
 refine ne (fun hc8 => ?_) (fun hc8 => ?_)
 ·have hil : i < l.length := by omega
  refine FO ?_; refine FW ?_
  refine GA ?_
  refine FN ?_; refine Kc I (fun w hS => ay (a := l.getD i default)) (Gs (fun hc13 => ?_) (fun hc13 => ?_))
  ·refine Cs (le ?_); refine FE ?_; exact R1 I I (by rw [Aa (fun h => absurd (h _ (aj _ _ hil)) (by simpa using hc13))]; rfl)
  ·refine Ck (Xd (Xa (Cg (Kq I (Rz I I I (by omega)) (Km I (Nn (Ly (i + 1) (by (try dsimp only); omega) (S2 I I) (by refine (Sc ?_ (S0 _)) <;> (rfl)) ?_ (fun _ h => h)))))))); (try dsimp only); exact ⟨hil, ax hil hok (by simpa using hc13)⟩
 ·refine Fq ?_
  obtain rfl : i = l.length := by omega
  rw [Ai] at hok
  refine Xa (Cs (le ?_))
  exact R1 I I (by rw [Ae hok]; rfl)
theorem qX {k : PK} {w : World} :
  Calls Tryz.prog 19 #[pkV k] w fun e w' => ∃ g : Rs, e = .returned (g.val 4) ∧ g.cap = 4 + g.sp.length ∧ St (fun _ => True) w [g.ent (am [k.1.1, k.1.2, k.2.1, k.2.2]) 22] [] w' := by
 refine En [] [(0, pkV k)] Tryz.func19 I Tryz.ntmps19 I (Ac I (An _)) Fn (Eq ?_)
 intro b1
 refine Ka I (Nt (Cs (Kq I (Fa (q := 0) I I u28 I I) (Gj ?_))))
 refine Kq I (Fa (q := 0) I I u28 I I) (Gh ?_)
 refine Ic ?_
 refine Id ?_
 refine Kh I (aN I I u33 (by kernel_rfl : _ = some (some (.string (S [])), 1, 16)) I (by simp only [List.map]; rfl) I I ?_ (by decide)) ?_
 ·simp [Value.cells]
 intro b13
 refine le ?_
 exact Rn I (.tmp I .nil) fun w' hS => ⟨⟨some b13, 4, []⟩, rfl, rfl, hS.sub (List.Sublist.cons_cons _ (List.nil_sublist _)) (fun _ h => h)⟩
theorem qY {k : PK} {l : List Bs} {a : Option Addr} {c : Nat} {w : World} {ok : Nat → Prop} (hF1 : (Fact.sl a (am l)).holds ok w) (hl : l.length ≤ 100000) (hg : aT k.1 = 0) (hm8 : k.1.1.length ≤ 8) :
  Cw 25 #[pkV k, .slice a l.length c] w (.int .i64 (if ∀ x ∈ l, elG k.1 x then 0 else 13)) := by
 refine En [Fact.sl a (am l)] [(0, pkV k), (1, .slice a l.length c)] Tryz.func25 I Tryz.ntmps25 I (Ac I (Ac I (An _))) (Fc (af hF1) Fn) (Eq ?_)
 intro b2
 refine FM ?_; refine HT ?_; refine Lp (σ := Nat) [(2, _), (7, _), (8, _)] (fun gq => [(9, .int .i64 (gq : Int))]) (fun gq => gq ≤ l.length ∧ ∀ x ∈ l.take gq, elG k.1 x) (fun gq => l.length - gq) (0) (S3 I I I) (S1 I) (by (try dsimp only); exact ⟨Af _, by simp⟩) ?_
 rintro i hinv1; (try dsimp only at hinv1 ⊢)
 obtain ⟨hi, hok⟩ := hinv1
 refine ne (fun hc10 => ?_) (fun hc10 => ?_)
 ·have hil : i < l.length := by omega
  refine FO ?_; refine FW ?_
  refine GA ?_
  refine Ka I (Nt (Cs (Gq ?_)))
  refine Km I (Kc I (fun w hS => gI (g := k.1) (x := l.getD i default) (by assumption)) (Ns 16 I (v' := .bool (decide (elG k.1 (l.getD i default)))) (congrArg Value.bool (by simp [hg])) ?_))
  refine Gs (fun hc17 => ?_) (fun hc17 => ?_)
  ·refine Cs (le ?_); refine FE ?_; exact R1 I I (by rw [Aa (fun h => absurd (h _ (aj _ _ hil)) (by simpa using hc17))]; rfl)
  ·refine Ck (Xd (Xa (Cg (Kq I (Rz I I I (by omega)) (Km I (Nn (Ly (i + 1) (by (try dsimp only); omega) (S3 I I I) (by refine (Sc ?_ (S0 _)) <;> (rfl)) ?_ (fun _ h => h)))))))); (try dsimp only); exact ⟨hil, ax hil hok (by simpa using hc17)⟩
 ·refine Fq ?_
  obtain rfl : i = l.length := by omega
  rw [Ai] at hok
  refine Xa (Cs (le ?_))
  exact R1 I I (by rw [Ae hok]; rfl)
theorem sC {v r : Bs} {w : World} :
  Cw 28 #[.string (S v), .string (S r)] w (.int .i64 (pj v r)) := by
 refine En [] [(0, .string (S v)), (1, .string (S r))] Tryz.func28 I Tryz.ntmps28 I (Ac I (Ac I (An _))) Fn (Cs (Ka I (Nt (Cq (WC.joinP (σ := Unit) [] (fun gq => [(10, .bool (decide (v = [] ∨ r = [])))]) (fun gq => True) (S0 _) ?_ ?_)))))
 ·skip
  refine Cg (Km I (Ys I (Km I (Nc 7 I (fun hg7 => ?_) (fun hg7 => ?_)))))
  ·refine T2 I (Yp I (Nn (WX.joinP (()) (S0 _) (by refine (Sc ?_ (S0 _)) <;> ((refine ao rfl ?_; (try dsimp only); (simp [*]; done)))) ?_ (fun _ h => h)))); (try dsimp only); done
  ·refine Km I (Ys I (Yq I (Nn (WX.joinP (()) (S0 _) (by refine (Sc ?_ (S0 _)) <;> ((refine ao rfl ?_; (try dsimp only); (simp [*]; done)))) ?_ (fun _ h => h))))); (try dsimp only); done
 ·rintro _ hmeet; (try dsimp only at hmeet ⊢)
  refine Ci I (fun hc10 => ?_) (fun hc10 => ?_)
  ·refine Cs (le ?_); refine Xb ?_; exact R1 I I (by rw [pj, Ae hc10]; rfl)
  ·refine Ck (Xa (Cs (le ?_))); exact R1 I I (by rw [pj, Aa hc10]; rfl)
theorem uR {x y z : Bs} {n : Nat} {w : World} (hn : n ≤ 3) :
  Calls Tryz.prog 29 #[.agg #[.string (S x), .string (S y), .string (S z)], .int .i64 n] w fun e w' => ∃ g : Rs, e = .returned (g.val n) ∧ g.cap = n + g.sp.length ∧ St (fun _ => True) w [g.ent (vrs ([x, y, z].take n)) 132] [] w' := by
 refine En [] [(0, .agg #[.string (S x), .string (S y), .string (S z)]), (1, .int .i64 n)] Tryz.func29 I Tryz.ntmps29 I (Ac I (Ac I (An _))) Fn (Eq ?_)
 intro b2
 refine Ka I (Nt (Cs (GI ?_))); refine WL.st (fun w h => h.freeze (off := 0) (xs := am [x, y, z]) (fun i hi => by rw [A3]; rfl)) ?_
 refine Km I (Kq I (qv I I I u81 (by kernel_rfl : _ = some 1) ?_ (by (try simp only [sN, Int.reduceToNat, Nat.reduceAdd, Nat.reduceMul, Nat.reduceSub]); rfl)) ?_)
 ·omega
 refine HT ?_; refine Lo (σ := Nat × (Option Nat) × Nat × (List Value)) [(9, _), (10, _)] (fun gq => [(5, .slice (gq.2.1.map fun b => ⟨b, 0, none⟩) gq.1 gq.2.2.1), (11, .int .i64 (gq.1 : Int))]) (fun gq => gq.1 ≤ n ∧ gq.2.2.1 = gq.1 + gq.2.2.2.length) (fun gq => n - gq.1) (fun gq => [⟨gq.2.1, vrs ([x, y, z].take gq.1) ++ gq.2.2.2, 132⟩]) (fun gq => [Fact.sl (some ⟨b2, 0, none⟩) (am [x, y, z])]) (0, none, 0, []) (S2 I I) (S2 I I) (by (try dsimp only); exact ⟨Af _, rfl⟩) (by exact fun w h => h.nil _) ?_
 rintro ⟨i, o, cp, sp⟩ hinv1; (try dsimp only at hinv1 ⊢)
 obtain ⟨hi, hcp⟩ := hinv1
 refine ne (fun hc12 => ?_) (fun hc12 => ?_)
 ·have hil : i < n := by omega
  have hi3 : i < [x, y, z].length := by show i < 3; omega
  have hls : (vrs ([x, y, z].take i)).length = i := by rw [ag _ _ 1 (fun _ => rfl), B1]; simp; omega
  refine FO ?_; refine Hs ?_
  refine Kq I (ldf (m := i) I I .tc u22 I (A3 _).symm (gj [x, y, z] (fun s : Bs => Value.string (S s)) i hi3)) ?_
  refine Ka I (Nt (Cg (Km I (Km I (Kq I (Kb [[.string (S [])]] I I) ?_)))))
  refine Kh I (ew I I u40 (by kernel_rfl : _ = some (some (.agg #[.string (S [])]), 1, 16)) (by kernel_rfl) (by decide) I I (by (simp [Value.cells]; done)) (by (exact bV _)) (by decide)) ?_
  intro b18
  refine Kh I (jm I u40 (by kernel_rfl : _ = some (some (.agg #[.string (S [])]), 1, 16)) (by kernel_rfl) (by decide) .tc I I (fun w hS => by (exact hS.os)) (by rfl) (by refine ⟨?_, ?_, ?_, ?_⟩ <;> omega) (by (simp [Value.oneCell']; done))) ?_
  rintro ⟨o19, c19, s19⟩
  refine WL.pu ?_
  intro hg19; (try dsimp only at hg19 ⊢)
  refine Ka I (Nn (Xd (Xa (Cg (Kq I (Rz I I I (by omega)) (Km I (Nn (Lx ((i + 1, o19, c19, s19)) (by (try dsimp only); omega) (S2 I I) (by refine (Sc ?_ (Sc ?_ (S0 _))) <;> (rfl)) ?_ (by exact fun w h => by rw [aA hi3, show vrs ([x, y, z].take i ++ [[x, y, z].getD i default]) = vrs ([x, y, z].take i) ++ vrC ([x, y, z].getD i default) by simp]; exact aq _ h)))))))))
  (try dsimp only)
  exact ⟨hil, by omega⟩
 ·refine Fq ?_
  obtain rfl : i = n := by omega
  refine Xa (Cs (Km I (le ?_)))
  exact Rn I (.tmp I .nil) fun w' hS => ⟨⟨o, cp, sp⟩, rfl, hcp, hS.sub (Ax _) (fun _ h => by cases h)⟩
theorem uT {gr : Int} {t : Bs} {l : List (Bs × Int)} {a : Option Addr} {c : Nat} {w : World} {ok : Nat → Prop} (hF1 : (Fact.sl a (l.flatMap fun p => [.string (S p.1), .int .i64 p.2])).holds ok w) (hl : l.length ≤ 1000) :
  Calls Tryz.prog 30 #[.int .i64 gr, .string (S t), .slice a l.length c] w fun e w' => ∃ gx : QA, e = .returned (.agg (qaC gx).toArray) ∧ (gx.1 = (gr, t, l.map fun p => trm p.1 p.2)) ∧ Below w.heap.size w w' ∧ ∀ x ∈ ([qaF gx] : List Fact), x.holds (fun b => w.heap.size ≤ b) w' := by
 refine En [Fact.sl a (l.flatMap fun p => [.string (S p.1), .int .i64 p.2])] [(0, .int .i64 gr), (1, .string (S t)), (2, .slice a l.length c)] Tryz.func30 I Tryz.ntmps30 I (Ac I (Ac I (Ac I (An _)))) (Fc (af hF1) Fn) (Cs (FT ?_))
 intro b6
 refine Nt (Hd ?_); refine Kq I (Kb [[.int .i64 0], [.string (S [])], [.slice none 0 0]] I I) ?_
 refine FT ?_
 intro b7
 refine FF ?_; refine Nt (Cq (Cs (Km I (Yo I wB (Km I (Nt (Cb (Lo (σ := Nat × (Option Nat) × Nat × (List Value)) [(6, _), (7, _), (13, _), (14, _)] (fun gq => [(15, .int .i64 (gq.1 : Int))]) (fun gq => gq.1 ≤ l.length ∧ gq.2.2.1 * 4 = gq.1 * 4 + gq.2.2.2.length) (fun gq => l.length - gq.1) (fun gq => [⟨gq.2.1, tms ((l.take gq.1).map fun p => trm p.1 p.2) ++ gq.2.2.2, 136⟩, ⟨some b7, [.int .i64 gr, .string (S t), .slice (gq.2.1.map fun b => ⟨b, 0, none⟩) gq.1 gq.2.2.1], 84⟩, ⟨some b6, [.int .i64 0, .string (S []), .slice none 0 0], 84⟩]) (fun gq => [Fact.sl a (l.flatMap fun p => [.string (S p.1), .int .i64 p.2])]) (0, none, 0, []) (S4 I I I I) (S1 I) (by (try dsimp only); exact ⟨Af _, rfl⟩) (by exact fun w h => h.nil _) ?_))))))))
 rintro ⟨i, o, cp, sp⟩ hinv1; (try dsimp only at hinv1 ⊢)
 obtain ⟨hi, hcp⟩ := hinv1
 refine ne (fun hc16 => ?_) (fun hc16 => ?_)
 ·have hil : i < l.length := by omega
  have hln : (tms ((l.take i).map fun p => trm p.1 p.2)).length = i * 4 := by rw [ag _ _ 4 (fun _ => rfl), Ag, B1]; omega
  refine FO ?_; refine Kq I (Ia I I I wB (by kernel_rfl : _ = some 2) (by omega) (by (rw [ag _ _ 2 (fun _ => rfl)]; omega))) ?_
  refine Kq I (aP _ I I u87 I (by kernel_rfl : _ = some 2) (fun _ => rfl) (by decide) I (by assumption)) ?_
  refine Kh I (Oz [.string (S []), .int .i64 0] I) ?_
  intro b9
  refine FF ?_; refine Nt (WC.free (K := [⟨some b9, [.string (S (l.getD i default).1), .int .i64 (l.getD i default).2], 87⟩, ⟨some b7, [.int .i64 gr, .string (S t), .slice (o.map fun b => ⟨b, 0, none⟩) i cp], 84⟩]) (fs0 := []) [6, 0, 1, 2, 3, 4, 5, 7, 8, 9, 10] [11] [0, 0, 0, 0, 0, 0, 1, 0, 3, 1, 0, 2] (by kernel_rfl) (by kernel_rfl) I ?_)
  refine Jv I I I I I (fun ext => Oc I I (Kv fun w hS => l4 (n := 1) (by omega) (by omega))) ?_
  refine Ii ?_
  refine Kj I (Fa (q := 0) I I u87 I I) (Gg ?_)
  refine Kj I (Fa (q := 1) I I u87 I I) (HP ?_)
  refine Kj I (Kb [[.string (S [])], [.int .i64 0], [.bool false, .string (S [])]] I I) ?_
  refine Jf I I I I I (jE I I u82 (by kernel_rfl : _ = some (some (.agg #[.string (S []), .int .i64 0, .bool false, .string (S [])]), 4, 48)) (by kernel_rfl) (by decide) I I (by (simp [Value.cells]; done)) (by (exact bV _)) (by decide)) ?_
  intro b27
  refine Jg I I I I I (wg I u82 (by kernel_rfl : _ = some (some (.agg #[.string (S []), .int .i64 0, .bool false, .string (S [])]), 4, 48)) (by kernel_rfl) (by decide) .tc I I (fun ext w hS => by (exact hS.os)) (by rfl) (by refine ⟨?_, ?_, ?_, ?_⟩ <;> first | exact hln | omega) (by (simp [Value.oneCell']; done))) ?_
  rintro ⟨o28, c28, s28⟩ hg28; (try dsimp only at hg28 ⊢)
  refine Kj I (Fa (q := 2) I I u84 I I) ?_
  refine WJ.nil ?_
  refine Ng I I (st I I I .tc (by kernel_rfl) I ?_ (by (simp only [Bf, Bg]; rfl))) ?_
  ·(simp; done)
  intro _
  refine Nn (Xd (Xa (Cg (Kq I (Rz I I I (by omega)) (Km I (Nn (Lx ((i + 1, o28, c28, s28)) (by (try dsimp only); omega) (S4 I I I I) (by refine (Sc ?_ (S0 _)) <;> (rfl)) ?_ (by exact fun w h => by rw [aA hil, Bu, show tms ((l.take i).map (fun p => trm p.1 p.2) ++ [l.getD i default].map (fun p => trm p.1 p.2)) = tms ((l.take i).map fun p => trm p.1 p.2) ++ tmC (trm (l.getD i default).1 (l.getD i default).2) by simp]; exact aq _ h))))))))
  (try dsimp only)
  exact ⟨hil, by omega⟩
 ·refine Fq ?_
  obtain rfl : i = l.length := by omega
  rw [Ai]
  refine Xa (Cs (Kq I (lda I I .tc u84 I ?_) ?_))
  ·kernel_rfl
  refine FF ?_; refine Nt (Ce ?_)
  exact Rn I (.agg I .tc u84 I (by kernel_rfl) .nil) fun w' hS => ⟨((gr, t, l.map fun p => trm p.1 p.2), o.map (fun b => ⟨b, 0, none⟩), cp), by simp only [qaC, Ag]; rfl, rfl, hS.below, Fc (f := Fact.sl (o.map fun b => ⟨b, 0, none⟩) (tms (l.map fun p : Bs × Int => trm p.1 p.2))) hS.ocf Fn⟩
abbrev fnV (p : Nat × Array Value) : Value := .func (.func p.1) #[] p.2
theorem ya (cs : Array Value) : (#[] : Array Value) ++ ([] : List Value).toArray ++ cs = cs := by simp
theorem o9 {rs : List Int} {i : Nat} (hi : i < rs.length) (h0 : ∀ j, j < i → rs.getD j default = 0) (h1 : rs.getD i default ≠ 0) : dB rs = rs.getD i default := by
 have := n2 (l := rs) (f := id) hi (fun x hx => by
  obtain ⟨j, hj, rfl⟩ := List.mem_take_iff_getElem.1 hx
  have := h0 j (by omega); rw [List.getD_eq_getElem?_getD, Ad (by omega)] at this; exact this) h1
 simpa using this
theorem vq {rs : List Int} (h0 : ∀ j, j < rs.length → rs.getD j default = 0) : dB rs = 0 := by
 refine mI.2 fun x hx => ?_
 obtain ⟨j, hj, rfl⟩ := Dz.1 hx
 have := h0 j hj; rw [List.getD_eq_getElem?_getD, Ad hj] at this; exact this
theorem yc {l : List (Nat × Array Value)} {rs : List Int} {a : Option Addr} {c : Nat} {ow : Nat → List Ent} {ok : Nat → Prop} {w0 : World} {fs : List Fact} {w : World} (hS0 : St ok w0 (ow 0) (Fact.sl a (l.map fnV) :: fs) w) (hl : l.length ≤ 1000) (hrs : rs.length = l.length) (hgo : ∀ i, i < l.length → ey Tryz.prog (l.getD i default).1 = true) (hfn : ∀ i, i < l.length → (∀ j, j < i → rs.getD j default = 0) → ∀ w', St ok w0 (ow i) (Fact.sl a (l.map fnV) :: fs) w' → Calls Tryz.prog (l.getD i default).1 (l.getD i default).2 w' fun e w2 => e = .returned (.int .i64 (rs.getD i default)) ∧ St ok w0 (ow (i + 1)) (Fact.sl a (l.map fnV) :: fs) w2) :
  Calls Tryz.prog 16 #[.slice a l.length c] w fun e w' => e = .returned (.int .i64 (dB rs)) ∧ ∃ n, (dB rs = 0 → n = l.length) ∧ St ok w0 (ow n) (Fact.sl a (l.map fnV) :: fs) w' := by
 refine enter (S := St ok w0 (ow 0) (Fact.sl a (l.map fnV) :: fs)) (L := [(0, .slice a l.length c)]) Tryz.func16 rfl Tryz.ntmps16 rfl (Ac rfl (An _)) hS0 ?_
 refine Cs (FM ?_); refine Yo I zl (Km I (Nt (Cb (Lo (σ := Nat) [(6, _), (7, _)] (fun gq => [(8, .int .i64 (gq : Int))]) (fun gq => gq ≤ l.length ∧ ∀ j, j < gq → rs.getD j default = 0) (fun gq => l.length - gq) (fun gq => (ow gq)) (fun gq => (Fact.sl a (l.map fnV) :: fs)) (0) (S2 I I) (S1 I) (by (try dsimp only); exact ⟨Af _, fun _ h => absurd h (B6 _)⟩) (by exact fun w h => h) ?_))))
 rintro i hinv1; (try dsimp only at hinv1 ⊢)
 obtain ⟨hi, hok⟩ := hinv1
 refine ne (fun hc9 => ?_) (fun hc9 => ?_)
 ·have hil : i < l.length := by omega
  refine FO ?_; refine Kq I (Ib I I I zl (by omega) (by (rw [Ag]; omega))) ?_
  refine Kq I (ldm I I u76 I (by assumption)) ?_
  refine FN ?_; refine Kh I (a6 I I I (hgo i hil) (ya _) (ki fun w hS => hfn i hil hok w hS)) ?_
  intro g13
  refine Ka I (Nt (Fz (fun hc15 => ?_) (fun hc15 => ?_)))
  ·refine Cs (Km I (le ?_)); refine FE ?_; exact Rn I (.tmp I .nil) fun w' hS => (by exact ⟨by rw [o9 (by omega) hok hc15]; rfl, i + 1, fun h => absurd h (by rw [o9 (by omega) hok hc15]; exact hc15), hS⟩)
  ·refine Ck (Xd (Xa (Cg (Kq I (Rz I I I (by omega)) (Km I (Nn (Lx (i + 1) (by (try dsimp only); omega) (S2 I I) (by refine (Sc ?_ (S0 _)) <;> (rfl)) ?_ (by exact fun w h => h)))))))); (try dsimp only); exact ⟨hil, fun j hj => by rcases Bc.1 hj with h | h; exact hok j h; subst h; simpa using hc15⟩
 ·refine Fq ?_
  obtain rfl : i = l.length := by omega
  refine Xa (Cs (le ?_))
  exact Rn I (.tmp I .nil) fun w' hS => (by exact ⟨by rw [vq (fun j hj => hok j (by omega))]; rfl, l.length, fun _ => rfl, hS⟩)
theorem Ey {m : PK} {k : PK} {a b v r : Bs} {p0 p1 p2 p3 p4 p5 : Nat} {w : World} {ok : Nat → Prop} (hF1 : (Fact.sl (some ⟨p0, 0, none⟩) [.string (S m.1.1), .string (S m.1.2), .string (S m.2.1), .string (S m.2.2)]).holds ok w) (hF2 : (Fact.sl (some ⟨p1, 0, none⟩) [.string (S k.1.1), .string (S k.1.2), .string (S k.2.1), .string (S k.2.2)]).holds ok w) (hF3 : (Fact.sl (some ⟨p2, 0, none⟩) [.string (S a)]).holds ok w) (hF4 : (Fact.sl (some ⟨p3, 0, none⟩) [.string (S b)]).holds ok w) (hF5 : (Fact.sl (some ⟨p4, 0, none⟩) [.string (S v)]).holds ok w) (hF6 : (Fact.sl (some ⟨p5, 0, none⟩) [.string (S r)]).holds ok w) :
  Cw 17 #[.pointer (some ⟨p0, 0, none⟩), .pointer (some ⟨p1, 0, none⟩), .pointer (some ⟨p2, 0, none⟩), .pointer (some ⟨p3, 0, none⟩), .pointer (some ⟨p4, 0, none⟩), .pointer (some ⟨p5, 0, none⟩)] w (.int .i64 (if okK m ∧ okK k ∧ okN a ∧ okN b ∧ okN v ∧ okN r then 0 else 3)) := by
 refine En [Fact.sl (some ⟨p0, 0, none⟩) [.string (S m.1.1), .string (S m.1.2), .string (S m.2.1), .string (S m.2.2)], Fact.sl (some ⟨p1, 0, none⟩) [.string (S k.1.1), .string (S k.1.2), .string (S k.2.1), .string (S k.2.2)], Fact.sl (some ⟨p2, 0, none⟩) [.string (S a)], Fact.sl (some ⟨p3, 0, none⟩) [.string (S b)], Fact.sl (some ⟨p4, 0, none⟩) [.string (S v)], Fact.sl (some ⟨p5, 0, none⟩) [.string (S r)]] [(0, .pointer (some ⟨p0, 0, none⟩)), (1, .pointer (some ⟨p1, 0, none⟩)), (2, .pointer (some ⟨p2, 0, none⟩)), (3, .pointer (some ⟨p3, 0, none⟩)), (4, .pointer (some ⟨p4, 0, none⟩)), (5, .pointer (some ⟨p5, 0, none⟩))] Tryz.func17 I Tryz.ntmps17 I (Ac I (Ac I (Ac I (Ac I (Ac I (Ac I (An _))))))) (Fc (af hF1) (Fc (af hF2) (Fc (af hF3) (Fc (af hF4) (Fc (af hF5) (Fc (af hF6) Fn)))))) (Cs (Ka I (Nt (Cq (Cf [0, 1, 2, 3, 4, 5, 6, 7, 8, 9, 10, 11, 12] [] [0, 1, 0, 1, 1, 0, 0, 0, 0, 3, 1, 1, 0] (by kernel_rfl) (by kernel_rfl) I ?_)))))
 refine Kj I (pT (m := 0) I I .tc u28 I (by kernel_rfl : _ = some 4) I I I (by decide)) ?_
 refine Jg I I I I I (fun ext => Oc I I (oU fun w hS => qX (k := m))) ?_
 intro g8 hg8; (try dsimp only at hg8 ⊢)
 refine Kj I (pT (m := 0) I I .tc u28 I (by kernel_rfl : _ = some 4) I I I (by decide)) ?_
 refine Jg I I I I I (fun ext => Oc I I (oU fun w hS => qX (k := k))) ?_
 intro g10 hg10; (try dsimp only at hg10 ⊢)
 refine Jg I I I I I (po I u33 (by kernel_rfl : _ = some (some (.string (S [])), 1, 16)) I .tc I I (fun ext w hS => by (exact hS.oc)) (by rfl) (by (refine ⟨?_, ?_, ?_, ?_⟩ <;> (try simp) <;> omega)) (by (simp [Value.oneCell']; done))) ?_
 rintro ⟨o11, c11, s11⟩ hg11; (try dsimp only at hg11 ⊢)
 refine Ik ?_
 refine Ik ?_
 refine Ik ?_
 refine Ik ?_
 refine Jf I I I I I (im I I u33 (by kernel_rfl : _ = some (some (.string (S [])), 1, 16)) I (by simp only [List.map]; rfl) I I ?_ (by decide)) ?_
 ·simp [Value.cells]
 intro b16
 refine Jg I I I I I (po I u33 (by kernel_rfl : _ = some (some (.string (S [])), 1, 16)) I .tc I I (fun ext w hS => by (exact hS.os)) (by rfl) (by (refine ⟨?_, ?_, ?_, ?_⟩ <;> (try simp) <;> omega)) (by (simp [Value.oneCell']; done))) ?_
 rintro ⟨o17, c17, s17⟩ hg17; (try dsimp only at hg17 ⊢)
 refine Jv I I I I I (fun ext => Oc I I (Kv fun w hS => x4 (l := [m.1.1, m.1.2, m.2.1, m.2.2, k.1.1, k.1.2, k.2.1, k.2.2, a, b, v, r]) (by (exact hS.oc)) (by (simp <;> omega)))) ?_
 refine GR ?_
 refine WJ.nil ?_
 refine Nt (Ce ?_)
 exact R1 I I (by simp [tup, okK, and_assoc])
theorem Ex {k : PK} {p0 : Nat} {w : World} {ok : Nat → Prop} (hF1 : (Fact.sl (some ⟨p0, 0, none⟩) [.string (S k.1.1), .string (S k.1.2), .string (S k.2.1), .string (S k.2.2)]).holds ok w) (hm8 : k.1.1.length ≤ 8) :
  Cw 20 #[.pointer (some ⟨p0, 0, none⟩)] w (.int .i64 (fh k)) := by
 refine En [Fact.sl (some ⟨p0, 0, none⟩) [.string (S k.1.1), .string (S k.1.2), .string (S k.2.1), .string (S k.2.2)]] [(0, .pointer (some ⟨p0, 0, none⟩))] Tryz.func20 I Tryz.ntmps20 I (Ac I (An _)) (Fc (af hF1) Fn) (Cs (Ka I (Nt (GX ?_))))
 refine Kc I (fun w hS => jz (k := k) (by assumption)) (le ?_)
 exact Iq
theorem Ev {k : PK} {c : Bs} {p0 p1 : Nat} {w : World} {ok : Nat → Prop} (hF1 : (Fact.sl (some ⟨p0, 0, none⟩) [.string (S k.1.1), .string (S k.1.2), .string (S k.2.1), .string (S k.2.2)]).holds ok w) (hF2 : (Fact.sl (some ⟨p1, 0, none⟩) [.string (S c)]).holds ok w) (hg : aT k.1 = 0) (hm8 : k.1.1.length ≤ 8) :
  Cw 24 #[.pointer (some ⟨p0, 0, none⟩), .pointer (some ⟨p1, 0, none⟩)] w (.int .i64 (if elG k.1 c then 0 else 13)) := by
 refine En [Fact.sl (some ⟨p0, 0, none⟩) [.string (S k.1.1), .string (S k.1.2), .string (S k.2.1), .string (S k.2.2)], Fact.sl (some ⟨p1, 0, none⟩) [.string (S c)]] [(0, .pointer (some ⟨p0, 0, none⟩)), (1, .pointer (some ⟨p1, 0, none⟩))] Tryz.func24 I Tryz.ntmps24 I (Ac I (Ac I (An _))) (Fc (af hF1) (Fc (af hF2) Fn)) (Cs (Ka I (Nt (GX ?_))))
 refine Ht ?_
 refine Kh I (aN I I u33 (by kernel_rfl : _ = some (some (.string (S [])), 1, 16)) I (by simp only [List.map]; rfl) I I ?_ (by decide)) ?_
 ·simp [Value.cells]
 intro b5
 refine Kc I (fun w hS => qY (k := k) (l := [c]) (by (exact hS.os)) (by (simp <;> omega)) (by assumption) (by assumption)) (le ?_)
 exact R1 I I (by simp [tup])
theorem Eu {k : PK} {c : Bs} {p0 p1 : Nat} {w : World} {ok : Nat → Prop} (hF1 : (Fact.sl (some ⟨p0, 0, none⟩) [.string (S k.1.1), .string (S k.1.2), .string (S k.2.1), .string (S k.2.2)]).holds ok w) (hF2 : (Fact.sl (some ⟨p1, 0, none⟩) [.string (S c)]).holds ok w) (hg : aT k.1 = 0) (hm8 : k.1.1.length ≤ 8) :
  Cw 26 #[.pointer (some ⟨p0, 0, none⟩), .pointer (some ⟨p1, 0, none⟩)] w (.int .i64 (if elG k.1 c then 0 else 13)) := by
 refine En [Fact.sl (some ⟨p0, 0, none⟩) [.string (S k.1.1), .string (S k.1.2), .string (S k.2.1), .string (S k.2.2)], Fact.sl (some ⟨p1, 0, none⟩) [.string (S c)]] [(0, .pointer (some ⟨p0, 0, none⟩)), (1, .pointer (some ⟨p1, 0, none⟩))] Tryz.func26 I Tryz.ntmps26 I (Ac I (Ac I (An _))) (Fc (af hF1) (Fc (af hF2) Fn)) (Cs (Ka I (Nt (GX ?_))))
 refine Ht ?_
 refine Kh I (aN I I u33 (by kernel_rfl : _ = some (some (.string (S [])), 1, 16)) I (by simp only [List.map]; rfl) I I ?_ (by decide)) ?_
 ·simp [Value.cells]
 intro b5
 refine Kc I (fun w hS => qY (k := k) (l := [c]) (by (exact hS.os)) (by (simp <;> omega)) (by assumption) (by assumption)) (le ?_)
 exact R1 I I (by simp [tup])
theorem Et {v r : Bs} {p0 p1 : Nat} {w : World} {ok : Nat → Prop} (hF1 : (Fact.sl (some ⟨p0, 0, none⟩) [.string (S v)]).holds ok w) (hF2 : (Fact.sl (some ⟨p1, 0, none⟩) [.string (S r)]).holds ok w) :
  Cw 27 #[.pointer (some ⟨p0, 0, none⟩), .pointer (some ⟨p1, 0, none⟩)] w (.int .i64 (pj v r)) := by
 refine En [Fact.sl (some ⟨p0, 0, none⟩) [.string (S v)], Fact.sl (some ⟨p1, 0, none⟩) [.string (S r)]] [(0, .pointer (some ⟨p0, 0, none⟩)), (1, .pointer (some ⟨p1, 0, none⟩))] Tryz.func27 I Tryz.ntmps27 I (Ac I (Ac I (An _))) (Fc (af hF1) (Fc (af hF2) Fn)) (Cs (Ka I (Nt (Cs (Ht ?_)))))
 refine Ht ?_
 refine Kc I (fun w hS => sC (v := v) (r := r)) (le ?_)
 exact Iq
theorem Ew {m k : PK} {p0 p1 : Nat} {w : World} {ok : Nat → Prop} (hF1 : (Fact.sl (some ⟨p0, 0, none⟩) [.string (S m.1.1), .string (S m.1.2), .string (S m.2.1), .string (S m.2.2)]).holds ok w) (hF2 : (Fact.sl (some ⟨p1, 0, none⟩) [.string (S k.1.1), .string (S k.1.2), .string (S k.2.1), .string (S k.2.2)]).holds ok w) (hm8 : k.1.1.length ≤ 8) :
  Cw 22 #[.pointer (some ⟨p0, 0, none⟩), .pointer (some ⟨p1, 0, none⟩)] w (.int .i64 (if m.1.2 = [] then 10 else jL k)) := by
 refine En [Fact.sl (some ⟨p0, 0, none⟩) [.string (S m.1.1), .string (S m.1.2), .string (S m.2.1), .string (S m.2.2)], Fact.sl (some ⟨p1, 0, none⟩) [.string (S k.1.1), .string (S k.1.2), .string (S k.2.1), .string (S k.2.2)]] [(0, .pointer (some ⟨p0, 0, none⟩)), (1, .pointer (some ⟨p1, 0, none⟩))] Tryz.func22 I Tryz.ntmps22 I (Ac I (Ac I (An _))) (Fc (af hF1) (Fc (af hF2) Fn)) (Cs (GI ?_))
 (refine Kq I (cA I I u28 I (by kernel_rfl) (by (try simp only [sN, Int.reduceToNat, Nat.reduceAdd, Nat.reduceMul, Nat.reduceSub]); rfl)) ?_)
 (refine Kq I (cA I I u26 I (by kernel_rfl) (by (try simp only [sN, Int.reduceToNat, Nat.reduceAdd, Nat.reduceMul, Nat.reduceSub]); rfl)) ?_)
 refine Kq I (ldf (off0 := 0) (m := 1) I I .tc u22 I I I) ?_
 refine Hh (fun hc6 => ?_) (fun hc6 => ?_)
 ·refine Cs (le ?_); refine Xb ?_
  exact R1 I I (by rw [Ae (by simpa using hc6)]; rfl)
 ·refine Ck (Xa (GX ?_))
  refine Kc I (fun w hS => uS (k := k) (by assumption)) (le ?_)
  exact R1 I I (by rw [Aa (by simpa using hc6)]; rfl)
theorem mv {P : Program} {f : FuncId} {args : Array Value} {v : Value} {ok : Nat → Prop} {w0 w : World} {own : List Ent} {fs : List Fact} (h : Calls P f args w (fun e w' => e = .returned v ∧ Below w.heap.size w w')) (hS : St ok w0 own fs w) : Calls P f args w (fun e w' => e = .returned v ∧ St ok w0 own fs w') := h.mono fun _ _ ⟨h, hb⟩ => ⟨h, hS.keep hb⟩
theorem BR (m k : PK) (a b v r : Bs) : dB [if okK m ∧ okK k ∧ okN a ∧ okN b ∧ okN v ∧ okN r then 0 else 3, fh m, if m.1.2 = [] then 10 else jL k, if elG m.1 a then 0 else 13, if elG k.1 b then 0 else 13, pj v r] = eqE m k a b v r := by
 by_cases h1 : okK m ∧ okK k ∧ okN a ∧ okN b ∧ okN v ∧ okN r
 ·by_cases h2 : fh m = 0
  ·by_cases h3 : m.1.2 = []
   ·simp [dB, eqE, h1, h2, h3]
   ·by_cases h4 : jL k = 0
    ·by_cases h5 : elG m.1 a
     ·by_cases h6 : elG k.1 b
      ·by_cases h7 : pj v r = 0 <;> simp [dB, eqE, h1, h2, h3, h4, h5, h6, h7]
      ·simp [dB, eqE, h1, h2, h3, h4, h5, h6]
     ·simp [dB, eqE, h1, h2, h3, h4, h5]
    ·simp [dB, eqE, h1, h2, h3, h4]
  ·simp [dB, eqE, h1, h2]
 ·simp [dB, eqE, h1]
def eqL (p0 p1 p2 p3 p4 p5 : Nat) : List (Nat × Array Value) := [(17, #[.pointer (some ⟨p0, 0, none⟩), .pointer (some ⟨p1, 0, none⟩), .pointer (some ⟨p2, 0, none⟩), .pointer (some ⟨p3, 0, none⟩), .pointer (some ⟨p4, 0, none⟩), .pointer (some ⟨p5, 0, none⟩)]), (20, #[.pointer (some ⟨p0, 0, none⟩)]), (22, #[.pointer (some ⟨p0, 0, none⟩), .pointer (some ⟨p1, 0, none⟩)]), (24, #[.pointer (some ⟨p0, 0, none⟩), .pointer (some ⟨p2, 0, none⟩)]), (26, #[.pointer (some ⟨p1, 0, none⟩), .pointer (some ⟨p3, 0, none⟩)]), (27, #[.pointer (some ⟨p4, 0, none⟩), .pointer (some ⟨p5, 0, none⟩)])]
theorem Es {m k : PK} (h : (if m.1.2 = [] then (10 : Int) else jL k) = 0) : aT k.1 = 0 := by
 split at h
 ·simp at h
 ·exact (yA h).2.1
theorem x5 {m k : PK} {a b v r : Bs} {w : World} {ok : Nat → Prop} (hm8 : m.1.1.length ≤ 8) (hk8 : k.1.1.length ≤ 8) :
  Calls Tryz.prog 7 #[pkV m, pkV k, .string (S a), .string (S b), .string (S v), .string (S r)] w fun e w' => ∃ gx : SA, e = .returned (SME gx (eqS m k a b v r).2) ∧ (gx.core = (eqS m k a b v r).1) ∧ Below w.heap.size w w' ∧ ∀ x ∈ (saF gx : List Fact), x.holds (fun b => ok b ∨ w.heap.size ≤ b) w' := by
 refine enter (S := St (fun b => ok b ∨ w.heap.size ≤ b) w [] ([])) (L := [(0, pkV m), (1, pkV k), (2, .string (S a)), (3, .string (S b)), (4, .string (S v)), (5, .string (S r))]) Tryz.func7 rfl Tryz.ntmps7 rfl (Ac rfl (Ac rfl (Ac rfl (Ac rfl (Ac rfl (Ac rfl (An _))))))) (St.start (fun _ h => Or.inr h) (bL Fn)) ?_
 refine Eq ?_
 intro b6
 refine Gc ?_
 intro b7
 refine Gc ?_
 intro b8
 refine Gc ?_
 intro b9
 refine Gc ?_
 intro b10
 refine Gc ?_
 intro b11
 refine Kh I (Oz [.slice none 0 0, .slice none 0 0, .slice none 0 0] I) ?_
 intro b12
 refine Ka I (Nt (Cs (Kq I (bM I I I) (Kq I (bM I I I) (Kq I (bM I I I) (Kq I (bM I I I) (Kq I (bM I I I) (Kq I (bM I I I) (Kh I (aN I I zl (by kernel_rfl : _ = some (some .nilFunc, 1, 8)) I (by simp only [List.map]; rfl) I I ?_ (by decide)) ?_)))))))))
 ·simp [Value.cells]
 intro b21
 refine WL.st (fun w h => h.freeze (off := 0) (xs := (eqL b6 b7 b8 b9 b10 b11).map fnV) (fun i hi => by rw [A3]; rfl)) ?_
 refine Kh I (Oc I I (ki fun w hS => (yc (l := (eqL b6 b7 b8 b9 b10 b11)) (rs := [if okK m ∧ okK k ∧ okN a ∧ okN b ∧ okN v ∧ okN r then 0 else 3, fh m, if m.1.2 = [] then 10 else jL k, if elG m.1 a then 0 else 13, if elG k.1 b then 0 else 13, pj v r]) (a := some ⟨b21, 0, none⟩) (c := 6) (ow := fun _ => _) hS (show (6 : Nat) ≤ 1000 by decide) I (fun i hi => by rcases i with _ | _ | _ | _ | _ | _ | i; kernel_rfl; kernel_rfl; kernel_rfl; kernel_rfl; kernel_rfl; kernel_rfl; exact absurd hi (by simp [eqL])) (fun i hi h0 w' hS => by rcases i with _ | _ | _ | _ | _ | _ | i; exact mv (Ey hS.os hS.os hS.os hS.os hS.os hS.os) hS; exact mv (Ex hS.os hm8) hS; exact mv (Ew hS.os hS.os hk8) hS; exact mv (Ev hS.os hS.os (yz (h0 1 (by decide))).2.1 hm8) hS; exact mv (Eu hS.os hS.os (Es (h0 2 (by decide))) hk8) hS; exact mv (Et hS.os hS.os) hS; exact absurd hi (by simp [eqL]))).mono fun _ _ ⟨h, _, _, hS⟩ => ⟨by rw [h, BR], hS⟩)) ?_
 intro g22
 refine Ka I (Nt (Cq (Fz (fun hc24 => ?_) (fun hc24 => ?_))))
 ·have hr : eqS m k a b v r = (([], [], []), eqE m k a b v r) := by rw [eqS, Ae hc24]
  refine Cs (Kq I (Kb [[.slice none 0 0], [.slice none 0 0], [.slice none 0 0]] I I) (Km I (FF ?_))); refine le ?_; refine Xb ?_
  exact Rn I (.agg I .tc u43 I (by kernel_rfl) (.tmp I .nil)) fun w' hS => zt hr hS
 ·have hr : eqS m k a b v r = (eqQ m k a b v r, 0) := by rw [eqS, Aa (fun h => h hc24)]
  refine Ck (Xa (Cq (Cf [5, 6, 7, 8, 9, 10, 11, 12, 13, 14, 15, 16, 17, 18, 19, 20, 21, 22, 23, 24, 25, 26, 0, 1, 2, 3, 4, 27, 28] [29, 30] [0, 0, 0, 0, 3, 0, 0, 0, 1, 0, 0, 0, 0, 0, 0, 0, 3, 1, 0, 0, 0, 0, 0, 0, 0, 3, 1, 3, 0, 2, 2] (by kernel_rfl) (by kernel_rfl) I ?_)))
  refine Gg ?_
  refine Gg ?_
  refine Kj I (Kb [[.string (S [])], [.string (S [])], [.string (S [])]] I I) ?_
  refine Jg I I I I I (fun ext => Oc I I (kj fun w hS => uR (x := v) (y := []) (z := r) (n := 3) (by omega))) ?_
  intro g35 hg35; (try dsimp only at hg35 ⊢)
  refine Gg ?_
  refine Kj I (Fa (q := 2) I I u28 I I) (Gg ?_)
  refine H1 ?_; refine Kj I (Fa (q := 3) I I u28 I I) (Gg ?_)
  refine H1 ?_
  refine Jf I I I I I (jE I I wB (by kernel_rfl : _ = some (some (.agg #[.string (S []), .int .i64 0]), 2, 24)) (by kernel_rfl) (by decide) I I (by (simp [Value.cells]; done)) (by (simp only [List.map, Value.cells, Cp, C3, A5, D7]; rfl)) (by decide)) ?_
  intro b43
  refine Jg I I I I I (fun ext => Oc I I (bE fun w hS => uT (gr := 0) (t := a) (l := [(m.2.1, 0), (m.2.2, 1)]) (by (exact hS.os)) (by (simp <;> omega)))) ?_
  rintro q44 hg44; (try dsimp only [List.cons_append, List.nil_append] at hg44 ⊢)
  refine Gg ?_
  refine Kj I (Fa (q := 2) I I u28 I I) (Gg ?_)
  refine H1 ?_; refine Kj I (Fa (q := 3) I I u28 I I) (Gg ?_)
  refine H1 ?_
  refine Jf I I I I I (jE I I wB (by kernel_rfl : _ = some (some (.agg #[.string (S []), .int .i64 0]), 2, 24)) (by kernel_rfl) (by decide) I I (by (simp [Value.cells]; done)) (by (simp only [List.map, Value.cells, Cp, C3, A5, D7]; rfl)) (by decide)) ?_
  intro b52
  refine Jg I I I I I (fun ext => Oc I I (bE fun w hS => uT (gr := 1) (t := b) (l := [(k.2.1, 0), (k.2.2, 2)]) (by (exact hS.os)) (by (simp <;> omega)))) ?_
  rintro q53 hg53; (try dsimp only [List.cons_append, List.nil_append] at hg53 ⊢)
  refine Kj I (Fa (q := 0) I I u28 I I) ?_
  refine Kj I (ldp I I .tc u26 I (by kernel_rfl : _ = some 2) (by rfl) (by rfl)) ?_
  refine Kj I (Fa (q := 0) I I u28 I I) ?_
  refine Kj I (ldp I I .tc u26 I (by kernel_rfl : _ = some 2) (by rfl) (by rfl)) ?_
  refine Jf I I I I I (jE I I u39 (by kernel_rfl : _ = some (some (.agg #[.string (S []), .string (S [])]), 2, 32)) (by kernel_rfl) (by decide) I I (by (simp [Value.cells]; done)) (by (simp only [List.map, Value.cells, Cp, C3, A5, D7]; rfl)) (by decide)) ?_
  intro b31
  refine Jf I I I I I (jE I I u41 (by kernel_rfl : _ = some (some (.agg #[.int .i64 0, .string (S []), .slice none 0 0]), 3, 48)) (by kernel_rfl) (by decide) I I (by (simp [Value.cells]; done)) (by (simp only [List.map, Value.cells, Cp, C3, A5, D7]; rfl)) (by decide)) ?_
  intro b54
  refine Kj I (Kb [[.slice none 0 0], [.slice none 0 0], [.slice none 0 0]] I I) ?_
  refine WJ.nil ?_
  refine FF ?_; refine le ?_
  exact Rn I (.agg I .tc u43 I (by kernel_rfl) (.tmp I .nil)) fun w' hS => ⟨⟨[m.1, k.1], [v, [], r], [q44, q53], some ⟨b31, 0, none⟩, 2, g35.a, g35.cap, some ⟨b54, 0, none⟩, 2⟩, by rw [hr]; rfl, by rw [hr]; simp [eqQ, hg44, hg53], hS.below, Fc hS.osk (Fc hS.slk (Fc hS.osk (Fc hS.slk (Fc hS.slk Fn))))⟩
theorem w5 {s : SA} {w : World} {ok : Nat → Prop} (hF1 : (Fact.sl s.ga (gps s.gs)).holds ok w) (hF2 : (Fact.sl s.va (vrs s.vs)).holds ok w) (hF3 : (Fact.sl s.ea (qas s.es)).holds ok w) (hM : ∀ f ∈ (s.es.map qaF), f.holds ok w) (hs : saL s) :
  Cw 48 #[saV s] w (.bool (decide (bc s.core))) := by
 obtain ⟨hlg, hlv, hle, hlt, hlm⟩ := hs
 refine En (Fact.sl s.ga (gps s.gs) :: Fact.sl s.va (vrs s.vs) :: Fact.sl s.ea (qas s.es) :: (s.es.map qaF)) [(0, saV s)] Tryz.func48 I Tryz.ntmps48 I (Ac I (An _)) (Fc (af hF1) (Fc (af hF2) (Fc (af hF3) (aE hM)))) (Eq ?_)
 intro b1
 refine GI ?_; refine Ka I (Nt (Cb (Lp (σ := Nat) [(1, _)] (fun gq => [(3, .int .i64 (gq : Int))]) (fun gq => gq ≤ s.gs.length ∧ ∀ g ∈ s.gs.take gq, okG g) (fun gq => s.gs.length - gq) (0) (S1 I) (S1 I) (by (try dsimp only); exact ⟨Af _, by simp⟩) ?_)))
 rintro i hinv1; (try dsimp only at hinv1 ⊢)
 obtain ⟨hi, hok⟩ := hinv1
 refine Cq (Cs (Km I (Gi ?_)))
 refine Yo I u39 (F7 (fun hc13 => ?_) (fun hc13 => ?_))
 ·have hil : i < s.gs.length := by omega
  refine Ck (Xa (Cq (Cb (WC.joinP (σ := Unit) [(1, _), (3, _)] (fun gq => [(33, .bool (decide (¬ (okN (s.gs.getD i default).1 ∧ okN (s.gs.getD i default).2))))]) (fun gq => True) (S2 I I) ?_ ?_))))
  ·skip
   refine Cg (Gi ?_); refine Km I (Fv ?_); (refine Kq I (faf I I u26 I (by kernel_rfl) (by (try simp only [sN, Int.reduceToNat, Nat.reduceAdd, Nat.reduceMul, Nat.reduceSub]); rfl)) ?_); refine Kq I (cE (sz := 2) _ 0 I I u22 I (fun _ => rfl) I (by assumption) (by decide) I) ?_; refine Kc I (fun w hS => aY (a := (s.gs.getD i default).1)) (Yt I (Km I (Nc 24 I (fun hg24 => ?_) (fun hg24 => ?_))))
   ·refine T4 I (T4 I (Yp I (Nn (WX.joinP (()) (S2 I I) (by refine (Sc ?_ (S0 _)) <;> ((refine congrArg (fun b => some (Value.bool b)) ?_; simp [*, -List.getD_eq_getElem?_getD]; done))) ?_ (fun _ h => h))))); (try dsimp only); done
   ·refine Kf 0 I u43 I I I .tc u39 ?_; refine Km I (Kq I (Ia I I I u39 (by kernel_rfl : _ = some 2) (by omega) (by (rw [ag _ _ 2 (fun _ => rfl)]; omega))) ?_); (refine Kq I (faf I I u26 I (by kernel_rfl) (by (try simp only [sN, Int.reduceToNat, Nat.reduceAdd, Nat.reduceMul, Nat.reduceSub]); rfl)) ?_); refine Kq I (cE (sz := 2) _ 1 I I u22 I (fun _ => rfl) I (by assumption) (by decide) I) ?_; refine Kc I (fun w hS => aY (a := (s.gs.getD i default).2)) (Yt I (Yq I (Nn (WX.joinP (()) (S2 I I) (by refine (Sc ?_ (S0 _)) <;> ((refine congrArg (fun b => some (Value.bool b)) ?_; simp [*, -List.getD_eq_getElem?_getD]; done))) ?_ (fun _ h => h))))); (try dsimp only); done
  ·rintro _ hmeet; (try dsimp only at hmeet ⊢); refine Ci I (fun hc33 => ?_) (fun hc33 => ?_)
   ·refine Cs (le ?_); refine FE ?_; exact R1 I I (by rw [Aj (fun h => absurd (h.1 _ (aj _ _ hil)) hc33)]; rfl)
   ·refine Ck (Xd (Xa (Cg (Km I (Kq I (Rz I I I (by omega)) (Ka I (Nn (Ly (i + 1) (by (try dsimp only); omega) (S1 I) (by refine (Sc ?_ (S0 _)) <;> (rfl)) ?_ (fun _ h => h))))))))); (try dsimp only); exact ⟨hil, ax hil hok (Ah.1 hc33)⟩
 ·refine Fq ?_
  obtain rfl : i = s.gs.length := by omega
  rw [Ai] at hok
  refine HJ ?_; refine Lp (σ := Nat) [(1, _)] (fun gq => [(4, .int .i64 (gq : Int))]) (fun gq => gq ≤ s.vs.length ∧ ∀ v ∈ s.vs.take gq, okN v) (fun gq => s.vs.length - gq) (0) (S1 I) (S1 I) (by (try dsimp only); exact ⟨Af _, by simp⟩) ?_
  rintro j hinv2; (try dsimp only at hinv2 ⊢)
  obtain ⟨hj, hov⟩ := hinv2
  refine Cq (Cs (Km I (Ge ?_)))
  refine Yo I u40 (F7 (fun hc38 => ?_) (fun hc38 => ?_))
  ·have hjl : j < s.vs.length := by omega
   refine FO ?_; refine Ge ?_; refine Km I (FG ?_); (refine Kq I (faf I I bG I (by kernel_rfl) (by (try simp only [sN, Int.reduceToNat, Nat.reduceAdd, Nat.reduceMul, Nat.reduceSub]); rfl)) ?_); refine Kq I (cE (l := s.vs) (f := vrC) (sz := 1) j 0 I I u22 I (fun _ => rfl) (As _).symm hjl (by decide) I) ?_; refine Kc I (fun w hS => aY (a := s.vs.getD j default)) (Gs (fun hc48 => ?_) (fun hc48 => ?_))
   ·refine Cs (le ?_); refine FE ?_; exact R1 I I (by rw [Aj (fun h => absurd (h.2.1 _ (aj _ _ hjl)) (by simpa using hc48))]; rfl)
   ·refine Ck (Xd (Xa (Cg (Km I (Kq I (Rz I I I (by omega)) (Ka I (Nn (Ly (j + 1) (by (try dsimp only); omega) (S1 I) (by refine (Sc ?_ (S0 _)) <;> (rfl)) ?_ (fun _ h => h))))))))); (try dsimp only); exact ⟨hjl, ax hjl hov (by simpa using hc48)⟩
  ·refine Fq ?_; obtain rfl : j = s.vs.length := by omega
   rw [Ai] at hov; refine HJ ?_; refine Lp (σ := Nat) [(1, _)] (fun gq => [(5, .int .i64 (gq : Int))]) (fun gq => gq ≤ s.es.length ∧ ∀ q ∈ s.es.take gq, okQ s.gs.length s.vs.length q.1) (fun gq => s.es.length - gq) (0) (S1 I) (S1 I) (by (try dsimp only); exact ⟨Af _, by simp⟩) ?_; rintro k hinv3; (try dsimp only at hinv3 ⊢); obtain ⟨hk, hoq⟩ := hinv3; refine Cq (Cs (Km I (Gz ?_))); refine Yo I u41 (F7 (fun hc53 => ?_) (fun hc53 => ?_))
   ·have hkl : k < s.es.length := by omega
    have hkm := aj s.es k hkl; have hlt1 := hlt _ hkm; refine FO ?_; refine Gz ?_; refine Km I (FA ?_); refine FH ?_; refine FT ?_; intro b6; refine FF ?_; refine Nt (Cq (WC.joinP (σ := Unit) [(1, _), (5, _), (6, _)] (fun gq => [(77, .bool (decide (¬ ((0 ≤ (s.es.getD k default).1.1 ∧ (s.es.getD k default).1.1 < (s.gs.length : Int)) ∧ okN (s.es.getD k default).1.2.1))))]) (fun gq => True) (S3 I I I) ?_ ?_))
    ·skip
     refine Cg (Kf 1 I u84 I I I .tc u22 ?_); refine Kc I (fun w hS => aY (a := (s.es.getD k default).1.2.1)) (Yt I (Km I (Nc 65 I (fun hg65 => ?_) (fun hg65 => ?_))))
     ·refine T2 I (Kt I (Yp I (Km I (T4 I (T2 I (Yp I (Nn (WX.joinP (()) (S3 I I I) (by refine (Sc ?_ (S0 _)) <;> ((refine congrArg (fun b => some (Value.bool b)) ?_; simp [*, -List.getD_eq_getElem?_getD]; done))) ?_ (fun _ h => h))))))))); (try dsimp only); done
     ·refine Hn ?_; refine Yl I (Yq I (Km I (Nc 70 I (fun hg70 => ?_) (fun hg70 => ?_))))
      ·refine T4 I (T2 I (Yp I (Nn (WX.joinP (()) (S3 I I I) (by refine (Sc ?_ (S0 _)) <;> ((exact congrArg (fun b => some (Value.bool b)) (by symm; apply Az; omega)))) ?_ (fun _ h => h))))); (try dsimp only); done
      ·refine Kf 0 I u84 I I I .tc u3 ?_; refine Kf 0 I u43 I I I .tc u39 ?_; refine Yo I u39 (Yh I (Yq I (Nn (WX.joinP (()) (S3 I I I) (by refine (Sc ?_ (S0 _)) <;> ((refine congrArg (fun b => some (Value.bool b)) ?_; simp [*, -List.getD_eq_getElem?_getD]; done))) ?_ (fun _ h => h))))); (try dsimp only); done
    ·rintro _ hmeet; (try dsimp only at hmeet ⊢); refine Ci I (fun hc77 => ?_) (fun hc77 => ?_)
     ·refine Cs (le ?_); refine Xb (FE ?_); exact R1 I I (by rw [Aj (fun h => absurd (h.2.2 _ (At hkm)).1 hc77)]; rfl)
     ·refine Ck (Xa (Cs (GT ?_))); refine Ka I (Nt (Cb (Lp (σ := Nat) [(1, _), (5, _), (6, _)] (fun gq => [(7, .int .i64 (gq : Int))]) (fun gq => gq ≤ (s.es.getD k default).1.2.2.length ∧ ∀ t ∈ (s.es.getD k default).1.2.2.take gq, okT s.vs.length t) (fun gq => (s.es.getD k default).1.2.2.length - gq) (0) (S3 I I I) (S1 I) (by (try dsimp only); exact ⟨Af _, by simp⟩) ?_))); rintro m hinv4; (try dsimp only at hinv4 ⊢); obtain ⟨hm, hot⟩ := hinv4; refine Cq (Cs (Km I (Hw ?_))); refine Yo I u82 (F7 (fun hc82 => ?_) (fun hc82 => ?_))
      ·have hml : m < (s.es.getD k default).1.2.2.length := by omega
       refine FO ?_; refine Hw ?_; refine Km I (Ga ?_); refine Gf ?_; refine GQ ?_; intro b8; refine FF ?_; refine Nt (WC.joinP (σ := Unit) [(1, _), (5, _), (6, _), (7, _)] (fun gq => [(112, .bool (decide (¬ ((0 ≤ ((s.es.getD k default).1.2.2.getD m default).2.1 ∧ ((s.es.getD k default).1.2.2.getD m default).2.1 < (s.vs.length : Int)) ∧ okN ((s.es.getD k default).1.2.2.getD m default).1 ∧ okZ ((s.es.getD k default).1.2.2.getD m default).2.2))))]) (fun gq => True) (S4 I I I I) ?_ ?_)
       ·skip
        refine Cg (Kf 0 I dG I I I .tc u22 ?_); refine Kc I (fun w hS => aY (a := ((s.es.getD k default).1.2.2.getD m default).1)) (Yt I (Km I (Nc 94 I (fun hg94 => ?_) (fun hg94 => ?_))))
        ·refine T4 I (Yp I (Km I (T2 I (Kt I (Yp I (Km I (T4 I (T2 I (Yp I (Nn (WX.joinP (()) (S4 I I I I) (by refine (Sc ?_ (S0 _)) <;> ((refine congrArg (fun b => some (Value.bool b)) ?_; simp [*, -List.getD_eq_getElem?_getD]; done))) ?_ (fun _ h => h)))))))))))); (try dsimp only); done
        ·refine Kq I (Fa (q := 2) I I dG I I) (GF ?_); refine Kc I (fun w hS => rV (x := ((s.es.getD k default).1.2.2.getD m default).2.2)) (Yt I (Yq I (Km I (Nc 100 I (fun hg100 => ?_) (fun hg100 => ?_)))))
         ·refine T2 I (Kt I (Yp I (Km I (T4 I (T2 I (Yp I (Nn (WX.joinP (()) (S4 I I I I) (by refine (Sc ?_ (S0 _)) <;> ((refine congrArg (fun b => some (Value.bool b)) ?_; simp [*, -List.getD_eq_getElem?_getD]; done))) ?_ (fun _ h => h))))))))); (try dsimp only); done
         ·refine Kf 1 I dG I I I .tc u3 ?_; refine Yl I (Yq I (Km I (Nc 105 I (fun hg105 => ?_) (fun hg105 => ?_))))
          ·refine T4 I (T2 I (Yp I (Nn (WX.joinP (()) (S4 I I I I) (by refine (Sc ?_ (S0 _)) <;> ((exact congrArg (fun b => some (Value.bool b)) (by symm; apply Az; omega)))) ?_ (fun _ h => h))))); (try dsimp only); done
          ·refine Kf 1 I dG I I I .tc u3 ?_; refine Kf 1 I u43 I I I .tc u40 ?_; refine Yo I u40 (Yh I (Yq I (Nn (WX.joinP (()) (S4 I I I I) (by refine (Sc ?_ (S0 _)) <;> ((refine congrArg (fun b => some (Value.bool b)) ?_; simp [*, -List.getD_eq_getElem?_getD]; done))) ?_ (fun _ h => h))))); (try dsimp only); done
       ·rintro _ hmeet; (try dsimp only at hmeet ⊢); refine Ci I (fun hc112 => ?_) (fun hc112 => ?_)
        ·refine Cs (le ?_); refine Xf (Xb (Xb (Xf (FE ?_)))); exact R1 I I (by rw [Aj (fun h => absurd ((h.2.2 _ (At hkm)).2 _ (aj _ _ hml)) hc112)]; rfl)
        ·refine Ck (Xd (Xa (Cg (Km I (Kq I (Rz I I I (by omega)) (Ka I (Nn (Ly (m + 1) (by (try dsimp only); omega) (S3 I I I) (by refine (Sc ?_ (S0 _)) <;> (rfl)) ?_ (by (exact aq)))))))))); (try dsimp only); exact ⟨hml, ax hml hot (Ah.1 hc112)⟩
      ·refine Fq ?_; obtain rfl : m = (s.es.getD k default).1.2.2.length := by omega
       rw [Ai] at hot; refine Xd (Xa (Cg (Km I (Kq I (Rz I I I (by omega)) (Ka I (Nn (Ly (k + 1) (by (try dsimp only); omega) (S1 I) (by refine (Sc ?_ (S0 _)) <;> (rfl)) ?_ (by (exact aq))))))))); (try dsimp only); exact ⟨hkl, ax hkl hoq ⟨Ah.1 hc77, hot⟩⟩
   ·refine Fq ?_; obtain rfl : k = s.es.length := by omega
    rw [Ai] at hoq; refine Xa (Cs (le ?_)); exact R1 I I (by rw [Az (show bc s.core from ⟨hok, hov, cN.2 hoq⟩)]; rfl)
theorem w3 {s : SA} {w : World} {ok : Nat → Prop} (hF1 : (Fact.sl s.ea (qas s.es)).holds ok w) (hs : saL s) :
  Cw 124 #[saV s] w (.bool (decide (¬ dD s.core))) := by
 obtain ⟨hlg, hlv, hle, hlt, hlm⟩ := hs
 refine En [Fact.sl s.ea (qas s.es)] [(0, saV s)] Tryz.func124 I Tryz.ntmps124 I (Ac I (An _)) (Fc (af hF1) Fn) (Eq ?_)
 intro b1
 refine GI ?_; refine Ka I (Nt (Cb (Lp (σ := Nat) [(1, _)] (fun gq => [(3, .int .i64 (gq : Int))]) (fun gq => gq ≤ s.es.length ∧ ∀ q ∈ s.es.take gq, q.1.2.2.length ≤ 64) (fun gq => s.es.length - gq) (0) (S1 I) (S1 I) (by (try dsimp only); exact ⟨Af _, by simp⟩) ?_)))
 rintro k hinv1; (try dsimp only at hinv1 ⊢)
 obtain ⟨hk, hoq⟩ := hinv1
 refine Cq (Cs (Km I (Gz ?_)))
 refine Yo I u41 (F7 (fun hc8 => ?_) (fun hc8 => ?_))
 ·have hkl : k < s.es.length := by omega
  have hkm := aj s.es k hkl
  have hlt1 := hlt _ hkm
  refine FO ?_; refine Gz ?_
  refine Km I (FA ?_)
  (refine Kq I (faf I I u84 I (by kernel_rfl) (by (try simp only [sN, Int.reduceToNat, Nat.reduceAdd, Nat.reduceMul, Nat.reduceSub]); rfl)) ?_)
  refine Kq I (cE (sz := 3) _ 2 I I u82 I (fun _ => rfl) I (by assumption) (by decide) I) ?_
  refine Yo I u82 (Yg I (Nt (Ci I (fun hc18 => ?_) (fun hc18 => ?_))))
  ·have hn : ¬ dD s.core := fun h => by have := h.2 _ (At hkm); omega
   refine Cs (le ?_); refine FE ?_; exact R1 I I (by rw [Az hn]; rfl)
  ·refine Ck (Xd (Xa (Cg (Km I (Kq I (Rz I I I (by omega)) (Ka I (Nn (Ly (k + 1) (by (try dsimp only); omega) (S1 I) (by refine (Sc ?_ (S0 _)) <;> (rfl)) ?_ (fun _ h => h))))))))); (try dsimp only); exact ⟨hkl, ax hkl hoq (by omega)⟩
 ·refine Fq ?_
  obtain rfl : k = s.es.length := by omega
  rw [Ai] at hoq
  have hr : dD s.core ↔ s.gs.length ≤ 8 ∧ s.vs.length ≤ 64 ∧ s.es.length ≤ 64 := ⟨fun h => by simpa using h.1, fun h => ⟨by simpa using h, cN.2 hoq⟩⟩
  refine Xa (WC.joinP (σ := Unit) [] (fun gq => [(2, .bool (decide (¬ (s.gs.length ≤ 8 ∧ s.vs.length ≤ 64 ∧ s.es.length ≤ 64))))]) (fun gq => True) (S0 _) ?_ ?_)
  ·skip
   refine Cg (Gi ?_); refine Yo I u39 (Yg I (Km I (Nc 23 I (fun hg23 => ?_) (fun hg23 => ?_))))
   ·refine T4 I (Yp I (Km I (T4 I (Yp I (Ka I (Nn (WX.joinP (()) (S0 _) (by refine (Sc ?_ (S0 _)) <;> ((exact congrArg (fun b => some (Value.bool b)) (by symm; apply Az; omega)))) ?_ (fun _ h => h)))))))); (try dsimp only); done
   ·refine Ge ?_; refine Yo I u40 (Yg I (Yq I (Km I (Nc 29 I (fun hg29 => ?_) (fun hg29 => ?_)))))
    ·refine T4 I (Yp I (Ka I (Nn (WX.joinP (()) (S0 _) (by refine (Sc ?_ (S0 _)) <;> ((exact congrArg (fun b => some (Value.bool b)) (by symm; apply Az; omega)))) ?_ (fun _ h => h))))); (try dsimp only); done
    ·refine Kf 2 I u43 I I I .tc u41 ?_; refine Yo I u41 (Yg I (Yq I (Ka I (Nn (WX.joinP (()) (S0 _) (by refine (Sc ?_ (S0 _)) <;> ((refine ao rfl ?_; (try dsimp only); (exact Ak.2 (by omega))))) ?_ (fun _ h => h)))))); (try dsimp only); done
  ·rintro _ hmeet; (try dsimp only at hmeet ⊢); refine Ce ?_; exact R1 I I (by rw [show decide (¬ dD s.core) = _ from Ak.2 (not_congr hr)]; rfl)
theorem w7 {s : SA} {w : World} {ok : Nat → Prop} (hF1 : (Fact.sl s.ga (gps s.gs)).holds ok w) (hF2 : (Fact.sl s.ea (qas s.es)).holds ok w) (hM : ∀ f ∈ (s.es.map qaF), f.holds ok w) (hs : saL s) (hfo : bc s.core) :
  Cw 125 #[saV s] w (.bool (decide (elS s.core))) := by
 obtain ⟨hlg, hlv, hle, hlt, hlm⟩ := hs
 refine En (Fact.sl s.ga (gps s.gs) :: Fact.sl s.ea (qas s.es) :: (s.es.map qaF)) [(0, saV s)] Tryz.func125 I Tryz.ntmps125 I (Ac I (An _)) (Fc (af hF1) (Fc (af hF2) (aE hM))) (Eq ?_)
 intro b1
 refine GI ?_; refine Ka I (Nt (Cb (Lp (σ := Nat) [(1, _)] (fun gq => [(3, .int .i64 (gq : Int))]) (fun gq => gq ≤ s.gs.length ∧ ∀ g ∈ s.gs.take gq, aT g = 0) (fun gq => s.gs.length - gq) (0) (S1 I) (S1 I) (by (try dsimp only); exact ⟨Af _, by simp⟩) ?_)))
 rintro i hinv1; (try dsimp only at hinv1 ⊢)
 obtain ⟨hi, hok⟩ := hinv1
 refine Cq (Cs (Km I (Gi ?_)))
 refine Yo I u39 (F7 (fun hc12 => ?_) (fun hc12 => ?_))
 ·have hil : i < s.gs.length := by omega
  refine FO ?_; refine Gi ?_
  refine Km I (Fv ?_)
  refine FK ?_
  refine Kc I (fun w hS => mb (g := s.gs.getD i default)) (Yj I (Nt (Ci I (fun hc21 => ?_) (fun hc21 => ?_))))
  ·refine Cs (le ?_); refine FE ?_; exact R1 I I (by rw [Aj (fun h => absurd (h.1 _ (aj _ _ hil)) (by simpa using hc21))]; rfl)
  ·refine Ck (Xd (Xa (Cg (Km I (Kq I (Rz I I I (by omega)) (Ka I (Nn (Ly (i + 1) (by (try dsimp only); omega) (S1 I) (by refine (Sc ?_ (S0 _)) <;> (rfl)) ?_ (fun _ h => h))))))))); (try dsimp only); exact ⟨hil, ax hil hok (by simpa using hc21)⟩
 ·refine Fq ?_
  obtain rfl : i = s.gs.length := by omega
  rw [Ai] at hok
  refine HJ ?_; refine Lp (σ := Nat) [(1, _)] (fun gq => [(4, .int .i64 (gq : Int))]) (fun gq => gq ≤ s.es.length ∧ ∀ q ∈ s.es.take gq, elQ s.gs q.1) (fun gq => s.es.length - gq) (0) (S1 I) (S1 I) (by (try dsimp only); exact ⟨Af _, by simp⟩) ?_
  rintro k hinv2; (try dsimp only at hinv2 ⊢)
  obtain ⟨hk, hoq⟩ := hinv2
  refine Cq (Cs (Km I (Gz ?_)))
  refine Yo I u41 (F7 (fun hc26 => ?_) (fun hc26 => ?_))
  ·have hkl : k < s.es.length := by omega
   have hkm := aj s.es k hkl; have hlt1 := hlt _ hkm; have hfq := (hfo.2.2 _ (At hkm)).1.1; have hgl : (s.es.getD k default).1.1.toNat < s.gs.length := by have := hfq.1; have := hfq.2; simp only [SA.core] at this; omega
   have hg0 := hok _ (aj _ _ hgl); have hg8 := hlm _ (aj _ _ hgl); refine FO ?_; refine Gz ?_; refine Km I (FA ?_); refine FH ?_; refine FT ?_; intro b5; refine FF ?_; refine Nt (Cs (Gi ?_)); refine Hn ?_; refine G2 ?_; refine FK ?_; refine Gb ?_; intro b6; refine Nu I I (Sa I I I .tc) (Nt (Cq (Cs (Kq I (lda I I .tc u26 I ?_) ?_))))
   ·kernel_rfl
   refine Kf 1 I u84 I I I .tc u22 ?_; refine Kc I (fun w hS => qt (g := s.gs.getD (s.es.getD k default).1.1.toNat default) (x := (s.es.getD k default).1.2.1) (by exact hg8)) (Ns 43 I (v' := .bool (decide (elG (s.gs.getD (s.es.getD k default).1.1.toNat default) (s.es.getD k default).1.2.1))) (congrArg Value.bool (by exact Ak.2 ⟨fun h => h.2, fun h => ⟨hg0, h⟩⟩)) ?_); refine Gs (fun hc44 => ?_) (fun hc44 => ?_)
   ·refine Cs (le ?_); refine Xb (FE ?_); exact R1 I I (by rw [Aj (fun h => absurd (h.2 _ (At hkm)).1 (by simpa using hc44))]; rfl)
   ·refine Ck (Xa (Cs (GT ?_))); refine Ka I (Nt (Cb (Lp (σ := Nat) [(1, _), (4, _), (5, _), (6, _)] (fun gq => [(7, .int .i64 (gq : Int))]) (fun gq => gq ≤ (s.es.getD k default).1.2.2.length ∧ ∀ t ∈ (s.es.getD k default).1.2.2.take gq, elG (s.gs.getD (s.es.getD k default).1.1.toNat default) t.1) (fun gq => (s.es.getD k default).1.2.2.length - gq) (0) (S4 I I I I) (S1 I) (by (try dsimp only); exact ⟨Af _, by simp⟩) ?_))); rintro m hinv3; (try dsimp only at hinv3 ⊢); obtain ⟨hm, hot⟩ := hinv3; refine Cq (Cs (Km I (Hw ?_))); refine Yo I u82 (F7 (fun hc49 => ?_) (fun hc49 => ?_))
    ·have hml : m < (s.es.getD k default).1.2.2.length := by omega
     refine Ck (Xa (Cq (Cb (Cq (Cf [0, 1, 2, 3, 4, 5, 6, 7, 8] [] [0, 0, 0, 0, 0, 0, 0, 1, 0] (by kernel_rfl) (by kernel_rfl) I ?_))))); refine Kj I (lda I I .tc u26 I ?_) ?_
     ·kernel_rfl
     refine Ii ?_; refine GP ?_; refine Kj I (Ia I I I u82 (by kernel_rfl : _ = some 4) (by omega) (by (rw [ag _ _ 4 (fun _ => rfl)]; omega))) ?_; (refine Kj I (faf I I dG I (by kernel_rfl) (by (try simp only [sN, Int.reduceToNat, Nat.reduceAdd, Nat.reduceMul, Nat.reduceSub]); rfl)) ?_); refine Kj I (cE (sz := 4) _ 0 I I u22 I (fun _ => rfl) I (by assumption) (by decide) I) ?_; refine Jv I I I I I (fun ext => Oc I I (Kv fun w hS => qt (g := s.gs.getD (s.es.getD k default).1.1.toNat default) (x := ((s.es.getD k default).1.2.2.getD m default).1) (by exact hg8))) ?_; refine WJ.set 59 I (v' := .bool (decide (elG (s.gs.getD (s.es.getD k default).1.1.toNat default) ((s.es.getD k default).1.2.2.getD m default).1))) (congrArg Value.bool (by exact Ak.2 ⟨fun h => h.2, fun h => ⟨hg0, h⟩⟩)) ?_; refine Kj I (Rt I I) ?_; refine WJ.nil ?_; refine Nt (Ci I (fun hc60 => ?_) (fun hc60 => ?_))
     ·refine Cs (le ?_); refine Xf (Xb (Xb (Xf (FE ?_)))); exact R1 I I (by rw [Aj (fun h => absurd ((h.2 _ (At hkm)).2 _ (aj _ _ hml)) (by simpa using hc60))]; rfl)
     ·refine Ck (Xd (Xa (Cg (Km I (Kq I (Rz I I I (by omega)) (Ka I (Nn (Ly (m + 1) (by (try dsimp only); omega) (S4 I I I I) (by refine (Sc ?_ (S0 _)) <;> (rfl)) ?_ (fun _ h => h))))))))); (try dsimp only); exact ⟨hml, ax hml hot (by simpa using hc60)⟩
    ·refine Fq ?_; obtain rfl : m = (s.es.getD k default).1.2.2.length := by omega
     rw [Ai] at hot; refine Xd (Xa (Cg (Km I (Kq I (Rz I I I (by omega)) (Ka I (Nn (Ly (k + 1) (by (try dsimp only); omega) (S1 I) (by refine (Sc ?_ (S0 _)) <;> (rfl)) ?_ (by (exact aq))))))))); (try dsimp only); exact ⟨hkl, ax hkl hoq ⟨by simpa using hc44, hot⟩⟩
  ·refine Fq ?_; obtain rfl : k = s.es.length := by omega
   rw [Ai] at hoq; refine Xa (Cs (le ?_)); exact R1 I I (by rw [Az (show elS s.core from ⟨hok, cN.2 hoq⟩)]; rfl)
end Go.Proofs.YtchonigdjamphaaGreatDoor
