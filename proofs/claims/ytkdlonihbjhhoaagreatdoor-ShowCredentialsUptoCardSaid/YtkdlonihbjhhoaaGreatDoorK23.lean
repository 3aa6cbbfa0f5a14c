/-
  Parts of the walk: Lir3 ShaF ShaE ShaK Laid LaiE Opu.
-/
import Derived.Test.YtkdlonihbjhhoaaGreatDoorK22
import Derived.Lib.LaidTab
import Derived.Test.YtkdlonihbjhhoaaGreatDoorRows
namespace Go.Proofs.YtkdlonihbjhhoaaGreatDoor
open Go.RowKit
set_option linter.unusedSimpArgs false
set_option linter.unusedVariables false
set_option maxHeartbeats 600000
set_option maxRecDepth 20000
theorem uT {x y : Zs} (hx : okZ x) (hy : okZ y) (h : (bY x y).2 = 0) : okZ (bY x y).1 := by
 obtain ⟨h1, h2⟩ := nB hx hy h
 rw [h1]; exact cd.2 h2
theorem vl {gs : List Gp} {ws : List Zs} {q : Qn} {nv : Nat} (hq : okQ gs.length nv q) (hg : ∀ g ∈ gs, aW g = 0) (he : elQ gs q) (hz : ∀ x ∈ ws, okZ x) (hn : nv = ws.length) (h0 : ∀ t ∈ q.2.2, (exT ws t).2 = 0) : (imQ gs ws q).2 = 0 := by
 have hgl : q.1.toNat < gs.length := by have := hq.1.1.1; have := hq.1.1.2; omega
 rw [p6 (by rw [iu h0]), bsQ, iu h0, Aa (fun h => h rfl)]
 rw [jw (hg _ (ak _ _ hgl))]
 ·intro x hx; obtain ⟨t, ht, rfl⟩ := B5.1 hx; exact he.2 t ht
 ·intro x hx
  obtain ⟨t, ht, rfl⟩ := B5.1 hx
  have hv := (hq.2 t ht).1
  exact uT (hq.2 t ht).2.2 (hz _ (ak _ _ (by omega))) (h0 t ht)
 ·rw [Af, Af]
theorem yl {s : Sm} (h : fW s = 0) : elS s := by
 unfold fW at h
 split at h
 ·simp at h
 ·split at h
  ·simp at h
  ·split at h
   ·simp at h
   ·rename_i h1; exact Al.1 h1
theorem wM (l : List Tm) (m : Nat) (h : m < l.length) : ((tms l).drop (m * 4 + 2)).take 2 = zc (l.getD m default).2.2 := by
 have h2 := congrArg (List.drop 2) (ey l tmC 4 (fun _ => rfl) m h)
 rw [List.drop_take, List.drop_drop] at h2
 exact h2
theorem ze {s : SA} {ws : List Zs} {a : Option Addr} {c : Nat} {w : World} {ok : Nat → Prop} (hF1 : (Fact.sl s.ga (gps s.gs)).holds ok w) (hF2 : (Fact.sl s.ea (qas s.es)).holds ok w) (hF3 : (Fact.sl a (aN ws)).holds ok w) (hM : ∀ f ∈ (s.es.map qaF), f.holds ok w) (hs : saL s) (hw : ws.length = s.vs.length) (hfo : bK s.core) (hz : ∀ x ∈ ws, okZ x) (hel : elS s.core) :
  Calls Tryz.prog 135 #[saV s, .slice a ws.length c] w fun e w' => ∃ gx : Rs, e = .returned (.tuple #[gx.val (imS s.core ws).1.length, .int .i64 (imS s.core ws).2]) ∧ (True) ∧ Below w.heap.size w w' ∧ ∀ x ∈ ([Fact.sl gx.a (al (imS s.core ws).1)] : List Fact), x.holds (fun b => w.heap.size ≤ b) w' := by
 obtain ⟨hlg, hlv, hle, hlt, hlm⟩ := hs
 refine En (Fact.sl s.ga (gps s.gs) :: Fact.sl s.ea (qas s.es) :: Fact.sl a (aN ws) :: (s.es.map qaF)) [(0, saV s), (1, .slice a ws.length c)] Tryz.func135 I Tryz.ntmps135 I (Ac I (Ac I (An _))) (Fc (ah hF1) (Fc (ah hF2) (Fc (ah hF3) (aY hM)))) (DX ?_)
 intro b2
 refine Ka I (Ka I (Nt (Cs (EP ?_)))); refine Lo (σ := Nat × (Option Nat) × Nat × (List Value)) [(1, _), (2, _)] (fun gq => [(6, .slice (gq.2.1.map fun b => ⟨b, 0, none⟩) gq.1 gq.2.2.1), (7, .int .i64 (gq.1 : Int))]) (fun gq => (gq.1 ≤ s.es.length ∧ gq.2.2.1 = gq.1 + gq.2.2.2.length) ∧ ∀ q ∈ s.es.take gq.1, (imQ s.gs ws q.1).2 = 0) (fun gq => s.es.length - gq.1) (fun gq => [⟨gq.2.1, al ((s.es.take gq.1).map fun q => (imQ s.gs ws q.1).1) ++ gq.2.2.2, 22⟩, ⟨some b2, [.slice s.ga s.gs.length s.gc, .slice s.va s.vs.length s.vc, .slice s.ea s.es.length s.ec], 58⟩]) (fun gq => (Fact.sl s.ga (gps s.gs) :: Fact.sl s.ea (qas s.es) :: Fact.sl a (aN ws) :: s.es.map qaF)) (0, none, 0, []) (S2 I I) (S2 I I) (by (try dsimp only); exact ⟨⟨Ai _, rfl⟩, by simp⟩) (by exact fun w h => h.nil _) ?_
 rintro ⟨i, o, cp, sp⟩ hinv1; (try dsimp only at hinv1 ⊢)
 obtain ⟨⟨hi, hcp⟩, hok⟩ := hinv1
 refine Cq (Cs (Km I (Fm ?_)))
 refine Yo I u56 (Es (fun hc20 => ?_) (fun hc20 => ?_))
 ·have hil : i < s.es.length := by omega
  have him := ak s.es i hil
  have hlt1 := hlt _ him
  have hfq := hfo.2.2 _ (A3 him)
  have hgl : (s.es.getD i default).1.1.toNat < s.gs.length := by have := hfq.1.1.1; have := hfq.1.1.2; simp only [SA.core] at this; omega
  have hg8 := hlm _ (ak _ _ hgl)
  have hq0 := hfq.1.1.1
  obtain ⟨q, hq⟩ : ∃ q, Keep (q = s.es.getD i default) := ⟨_, rfl⟩
  have hmo : qaF q ∈ s.es.map qaF := by rw [show q = _ from hq]; exact A3 him
  rw [← show q = _ from hq] at hlt1 hfq hgl hg8 hq0
  have hql : q.1.2.2.length ≤ 100000 := hlt1
  refine Ez ?_; refine Fm ?_
  refine Km I (Eq ?_)
  refine Ev ?_
  refine EQ ?_
  intro b8
  rw [← show q = _ from hq]
  refine DZ ?_; refine Nt (Cs (WL.st (fun w h => iG (more := s.es.map qaF) (f := qaF q) h hmo) ?_))
  refine Ka I (Nt (Cs (EP ?_))); refine Lo (σ := Nat × (Option Nat) × Nat × (List Value) × (Option Nat) × Nat × (List Value)) [(1, _), (2, _), (6, _), (7, _), (8, _)] (fun gq => [(9, .slice (gq.2.1.map fun b => ⟨b, 0, none⟩) gq.1 gq.2.2.1), (10, .slice (gq.2.2.2.2.1.map fun b => ⟨b, 0, none⟩) gq.1 gq.2.2.2.2.2.1), (11, .int .i64 (gq.1 : Int))]) (fun gq => (gq.1 ≤ q.1.2.2.length ∧ gq.2.2.1 = gq.1 + gq.2.2.2.1.length ∧ gq.2.2.2.2.2.1 * 2 = gq.1 * 2 + gq.2.2.2.2.2.2.length) ∧ ∀ t ∈ q.1.2.2.take gq.1, (exT ws t).2 = 0) (fun gq => q.1.2.2.length - gq.1) (fun gq => [⟨gq.2.2.2.2.1, aN ((q.1.2.2.take gq.1).map fun t => (exT ws t).1) ++ gq.2.2.2.2.2.2, 37⟩, ⟨gq.2.1, al ((q.1.2.2.take gq.1).map (·.1)) ++ gq.2.2.2.1, 22⟩, ⟨some b8, [.int .i64 q.1.1, .string (S q.1.2.1), .slice q.2.1 q.1.2.2.length q.2.2], 95⟩, ⟨o, al ((s.es.take i).map fun q => (imQ s.gs ws q.1).1) ++ sp, 22⟩, ⟨some b2, [.slice s.ga s.gs.length s.gc, .slice s.va s.vs.length s.vc, .slice s.ea s.es.length s.ec], 58⟩]) (fun gq => (qaF q :: Fact.sl s.ga (gps s.gs) :: Fact.sl s.ea (qas s.es) :: Fact.sl a (aN ws) :: s.es.map qaF)) (0, none, 0, [], none, 0, []) (S5 I I I I I) (S3 I I I) (by (try dsimp only); exact ⟨⟨Ai _, rfl, rfl⟩, by simp⟩) (by exact fun w h => (h.nil _).nil _) ?_
  rintro ⟨m, o3, cp3, sp3, o2, cp2, sp2⟩ hinv2; (try dsimp only at hinv2 ⊢)
  obtain ⟨⟨hm, hcp3, hcp2⟩, hot⟩ := hinv2
  refine Cq (Cs (Km I (F1 ?_)))
  refine Yo I u93 (Es (fun hc32 => ?_) (fun hc32 => ?_))
  ·have hml : m < q.1.2.2.length := by omega
   have htm := (hfq.2 _ (ak _ _ hml)).1; have ht0 := htm.1; have htl : (q.1.2.2.getD m default).2.1.toNat < ws.length := by have := htm.2; simp only [SA.core] at this; omega
   refine Gf ?_; refine Cf [0, 1, 2, 3, 4, 5, 6, 7, 8, 9, 10, 11, 12, 13, 14, 15, 16, 17, 19, 20, 18, 21] [] [0, 0, 0, 0, 0, 0, 0, 0, 0, 0, 0, 0, 0, 0, 0, 1, 0, 0, 0, 3, 1, 0] (by kernel_rfl) (by kernel_rfl) I ?_; refine FJ ?_; refine E0 ?_; refine Fl ?_; (refine Kj I (faf I I eK I (by kernel_rfl) (by (try simp only [sN, Int.reduceToNat, Nat.reduceAdd, Nat.reduceMul, Nat.reduceSub]); rfl)) ?_); refine Kj I (BO I I u37 I (by kernel_rfl : _ = some 2) (wM _ m hml) I (by decide)) ?_; refine E0 ?_; refine FJ ?_; refine E0 ?_; refine Fl ?_; (refine Kj I (faf I I eK I (by kernel_rfl) (by (try simp only [sN, Int.reduceToNat, Nat.reduceAdd, Nat.reduceMul, Nat.reduceSub]); rfl)) ?_); refine Kj I (cO (sz := 4) _ 1 I I u3 I (fun _ => rfl) I (by assumption) (by decide) I) ?_; refine Eu ?_; refine E6 ?_
   refine Jv I I I I I (fun ext => Oc I I (Kv fun w hS => nc (x := (q.1.2.2.getD m default).2.2) (y := ws.getD (q.1.2.2.getD m default).2.1.toNat default))) ?_; refine E0 ?_; refine Gt ?_; refine Er ?_; intro b12; refine WJ.st I I I I (gg I I I ?_ ?_ ?_) ?_
   ·kernel_rfl
   ·simp [Value.oneCell']
   ·rfl
   refine Gt ?_; refine Fg ?_; refine WJ.nil ?_; refine Nt (Cq (Cs (Km I (EF (fun hc55 => ?_) (fun hc55 => ?_)))))
   ·have hr : imS s.core ws = ([], (exT ws (q.1.2.2.getD m default)).2) := by
     have e1 : imQ s.gs ws (s.es.getD i default).1 = ([], (exT ws (q.1.2.2.getD m default)).2) := by
      rw [← show q = _ from hq, rn (by rw [lA hml hot hc55]; exact hc55), lA hml hot hc55]
     rw [lr hil hok (by rw [e1]; exact hc55), e1]
    refine Cs (Km I (Ka I (ne ?_))); refine DY ?_; refine DY ?_; exact Rn I (.tmp I (.tmp I .nil)) fun w' hS => ⟨⟨none, 0, []⟩, by rw [hr]; rfl, trivial, hS.below, by rw [hr]; exact Fc bc Fn⟩
   ·have hx0 : (exT ws (q.1.2.2.getD m default)).2 = 0 := by simpa [exT] using hc55
    have hln : (aN ((q.1.2.2.take m).map fun t => (exT ws t).1)).length = m * 2 := by rw [ag _ _ 2 (fun _ => rfl), Af, Bk]; omega
    have hls : (al ((q.1.2.2.take m).map (·.1))).length = m := by simp [al]; omega
    refine Gi ?_; refine F1 ?_; refine Km I (E4 ?_); (refine Kq I (faf I I eK I (by kernel_rfl) (by (try simp only [sN, Int.reduceToNat, Nat.reduceAdd, Nat.reduceMul, Nat.reduceSub]); rfl)) ?_); refine Kq I (cO (sz := 4) _ 0 I I u22 I (fun _ => rfl) I (by assumption) (by decide) I) ?_; refine Kh I (aR I I u31 (by kernel_rfl : _ = some (some (.string (S [])), 1, 16)) I (by simp only [List.map]; rfl) I I ?_ (by decide)) ?_
    ·simp [Value.cells]
    intro b64; refine Kh I (n6 I u31 (by kernel_rfl : _ = some (some (.string (S [])), 1, 16)) I .tc I I (fun w hS => by (exact hS.os)) (by rfl) (by refine ⟨?_, ?_, ?_, ?_⟩ <;> first | exact hls | (try simp) <;> omega) (by (simp [Value.oneCell']; done))) ?_; rintro ⟨o65, c65, s65⟩; refine WL.pu ?_; intro hg65; (try dsimp only at hg65 ⊢); refine Ka I (Nt (Cg (Km I (Kq I (lda I I .tc u37 I ?_) ?_))))
    ·kernel_rfl
    refine Kh I (ew I I u39 (by kernel_rfl : _ = some (some (.agg #[.bool false, .string (S [])]), 2, 24)) (by kernel_rfl) (by decide) I I (by (simp [Value.cells]; done)) (by (exact bD _)) (by decide)) ?_; intro b68; refine Kh I (rR I u39 (by kernel_rfl : _ = some (some (.agg #[.bool false, .string (S [])]), 2, 24)) (by kernel_rfl) (by decide) .tc I I (fun w hS => by (exact hS.os)) (by rfl) (by refine ⟨?_, ?_, ?_, ?_⟩ <;> first | exact hln | omega) (by (simp [Value.oneCell']; done))) ?_; rintro ⟨o69, c69, s69⟩; refine WL.pu ?_; intro hg69; (try dsimp only at hg69 ⊢); refine Ka I (Nn (Xd (Xa (Cg (Km I (Kq I (Rz I I I (by omega)) (Ka I (Nn (Lx ((m + 1, o65, c65, s65, o69, c69, s69)) (by (try dsimp only); omega) (S5 I I I I I) (by refine (Sc ?_ (Sc ?_ (Sc ?_ (S0 _)))) <;> (rfl)) ?_ (by exact fun w h => by rw [qn hml, qo _ hml]; exact au _ h)))))))))); (try dsimp only); exact ⟨⟨hml, by omega, by omega⟩, aq hml hot hx0⟩
  ·refine AS ?_; obtain rfl : m = q.1.2.2.length := by omega
   rw [Ah] at hot; rw [Ah]; have eb : q.1.2.2.map (·.1) = bsQ ws q.1 := by rw [bsQ, iu hot, Aa (fun h => h rfl)]
   have ex : (q.1.2.2.map fun t => (exT ws t).1) = (exQ ws q.1).1 := by rw [iu hot]
   have hlb : (bsQ ws q.1).length = q.1.2.2.length := by rw [← eb, Af]
   have hlx : (exQ ws q.1).1.length = q.1.2.2.length := by rw [← ex, Af]
   have hi0 : (imQ s.gs ws q.1).2 = 0 := vl hfq hel.1 (by rw [show q = _ from hq]; exact hel.2 _ (A3 him)) hz hw.symm hot; have hip : imQ s.gs ws q.1 = bu (s.gs.getD q.1.1.toNat default) (bsQ ws q.1) (exQ ws q.1).1 := p6 (by rw [iu hot]); rw [eb, ex]; refine WC.set 9 I (v' := .slice (o3.map fun b => ⟨b, 0, none⟩) (bsQ ws q.1).length cp3) (by rw [hlb]) ?_; refine WC.set 10 I (v' := .slice (o2.map fun b => ⟨b, 0, none⟩) (exQ ws q.1).1.length cp2) (by rw [hlx]) ?_; refine Xa (Cs (Fi ?_)); refine Kf 0 I u95 I I I .tc u3 ?_; refine El ?_; refine EA ?_; refine Km I (Km I (Kc I (fun w hS => pJ (g := s.gs.getD q.1.1.toNat default) (l := bsQ ws q.1) (es := (exQ ws q.1).1) (by (exact hS.oc)) (by (exact hS.oc)) (by omega) (by omega) (by exact hg8)) (BY ?_))); refine Cg ?_; have hls : (al ((s.es.take i).map fun q => (imQ s.gs ws q.1).1)).length = i := by simp [al]; omega
   refine Km I (Km I (Kh I (aR I I u31 (by kernel_rfl : _ = some (some (.string (S [])), 1, 16)) I (by simp only [List.map]; rfl) I I ?_ (by decide)) ?_))
   ·simp [Value.cells]
   intro b84; refine Kh I (n6 I u31 (by kernel_rfl : _ = some (some (.string (S [])), 1, 16)) I .tc I I (fun w hS => by (exact hS.os)) (by rfl) (by refine ⟨?_, ?_, ?_, ?_⟩ <;> first | exact hls | (try simp) <;> omega) (by (simp [Value.oneCell']; done))) ?_; rintro ⟨o85, c85, s85⟩; refine WL.pu ?_; intro hg85; (try dsimp only at hg85 ⊢); refine Ka I (Nn (Xd (Xa (Cg (Km I (Kq I (Rz I I I (by omega)) (Ka I (Nn (Lx ((i + 1, o85, c85, s85)) (by (try dsimp only); omega) (S2 I I) (by refine (Sc ?_ (Sc ?_ (S0 _))) <;> (rfl)) ?_ (by exact fun w h => by rw [qP _ hil, ← show q = _ from hq, hip]; exact au _ h)))))))))); (try dsimp only); exact ⟨⟨hil, by omega⟩, aq hil hok (by rw [← show q = _ from hq]; exact hi0)⟩
 ·refine AS ?_
  obtain rfl : i = s.es.length := by omega
  rw [Ah] at hok
  rw [Ah]
  refine Xa (Cs (Km I (Ka I (to ?_))))
  exact Rn I (.tmp I (.tmp I .nil)) fun w' hS => ⟨⟨o, cp, sp⟩, by rw [nQ hok, Af]; rfl, trivial, hS.below, by rw [nQ hok]; exact Fc hS.ocf Fn⟩
theorem xm {s : SA} {ws : List Zs} {a : Option Addr} {c : Nat} {w : World} {ok : Nat → Prop} (hF1 : (Fact.sl s.ga (gps s.gs)).holds ok w) (hF2 : (Fact.sl s.va (vrs s.vs)).holds ok w) (hF3 : (Fact.sl s.ea (qas s.es)).holds ok w) (hF4 : (Fact.sl a (aN ws)).holds ok w) (hM : ∀ f ∈ (s.es.map qaF), f.holds ok w) (hs : saL s) (hw : ws.length ≤ 100000) :
  Cw 77 #[saV s, .slice a ws.length c] w (.tuple #[.bool (cx s.core ws).1, .int .i64 (cx s.core ws).2]) := by
 have hs' := hs
 obtain ⟨hlg, hlv, hle, hlt, hlm⟩ := hs
 refine En (Fact.sl s.ga (gps s.gs) :: Fact.sl s.va (vrs s.vs) :: Fact.sl s.ea (qas s.es) :: Fact.sl a (aN ws) :: (s.es.map qaF)) [(0, saV s), (1, .slice a ws.length c)] Tryz.func77 I Tryz.ntmps77 I (Ac I (Ac I (An _))) (Fc (ah hF1) (Fc (ah hF2) (Fc (ah hF3) (Fc (ah hF4) (aY hM))))) (DX ?_)
 intro b2
 refine Ka I (Ka I (Nt (Cq (Cs (Kq I (lda I I .tc u58 I ?_) ?_)))))
 ·kernel_rfl
 refine Km I (Kc I (fun w hS => uH (s := s) (ws := ws) (by (exact hS.sl)) (by (exact hS.sl)) (by (exact hS.sl)) (by (exact hS.sl)) (by (exact hS.more)) (by exact hs') (by exact hw)) (Et ?_)); refine EF (fun hc15 => ?_) (fun hc15 => ?_)
 ·have hr : cx s.core ws = (false, ep s.core ws) := by rw [cx, Ab hc15]
  refine Cs (Km I (Ka I (ne ?_)))
  exact G8
 ·have h0 : ep s.core ws = 0 := by simpa using hc15
  obtain ⟨hfo, hz, hk, hwl⟩ := nf h0
  have hoo : okN (dU s.gs) := oQ hfo.1
  have hwv : ws.length = s.vs.length := hwl
  refine Ck (Fv ?_); refine Lp (σ := Nat) [(1, _), (2, _)] (fun gq => [(7, .int .i64 (gq : Int))]) (fun gq => gq ≤ ws.length ∧ ∀ j, j < gq → inV (dU s.gs) (s.vs.getD j default) (ws.getD j default)) (fun gq => ws.length - gq) (0) (S2 I I) (S1 I) (by (try dsimp only); exact ⟨Ai _, fun _ h => absurd h (Dg _)⟩) ?_
  rintro i hinv1; (try dsimp only at hinv1 ⊢)
  obtain ⟨hi, hok⟩ := hinv1
  refine Cq (E3 ?_); refine Yo I u39 (Es (fun hc20 => ?_) (fun hc20 => ?_))
  ·have hil : i < ws.length := by omega
   have hvl : i < s.vs.length := by omega
   have hov : okN (s.vs.getD i default) := hfo.2.1 _ (ak _ _ hvl); have hoz := (hz _ (ak _ _ hil)).1; refine Gf ?_; refine Cf [5, 6, 0, 1, 2, 3, 4, 7, 8, 9, 10, 11, 12] [] [0, 0, 0, 0, 0, 0, 1, 0, 0, 0, 0, 1, 0] (by kernel_rfl) (by kernel_rfl) I ?_; refine Kj I (lda I I .tc u58 I ?_) ?_
   ·kernel_rfl
   refine Jv I I I I I (fun ext => Oc I I (Kv fun w hS => uv (s := s) (by (exact hS.sl)) (by exact hs'))) ?_; refine Kj I (Fa (q := 1) I I u58 I I) (Kj I (Ld I I .tc u55) ?_); refine E0 ?_; refine Kj I (Ib I I I u55 (by omega) (by (rw [ag _ _ 1 (fun _ => rfl)]; omega))) ?_; refine Kj I (bO _ I I jp I (by kernel_rfl : _ = some 1) (fun _ => rfl) (by decide) (Aw _).symm (by assumption)) ?_; refine Ei ?_; refine Eu ?_; refine E6 ?_; refine Jv I I I I I (fun ext => Oc I I (Kv fun w hS => zd (v := s.vs.getD i default) (q := dU s.gs) (x := ws.getD i default) (by exact hov) (by exact hoo) (by exact hoz))) ?_; refine Kj I (Rt I I) ?_; refine WJ.nil ?_; refine Nt (Ci I (fun hc35 => ?_) (fun hc35 => ?_))
   ·have hn : ¬ inR s.core ws := fun h => absurd (h i hvl) (by (exact hc35))
    refine Cs (Ka I (to ?_)); refine DY ?_; exact R2 I I I (by rw [cx, Aa (fun h => h h0), Ab hn]; rfl)
   ·refine Ck (Xd (Xa (Cg (Km I (Kq I (Rz I I I (by omega)) (Ka I (Nn (Ly (i + 1) (by (try dsimp only); omega) (S2 I I) (by refine (Sc ?_ (S0 _)) <;> (rfl)) ?_ (fun _ h => h))))))))); (try dsimp only); exact ⟨hil, fun j hj => by rcases Cm.1 hj with h | h; exact hok j h; subst h; (simpa using hc35)⟩
  ·refine AS ?_; obtain rfl : i = ws.length := by omega
   have hin : inR s.core ws := fun j hj => hok j (by simp only [SA.core] at hj; omega)
   refine Xa (Cs (Kq I (lda I I .tc u58 I ?_) ?_))
   ·kernel_rfl
   refine Km I (Kh I (Oc I I (kj fun w hS => ze (s := s) (ws := ws) (by (exact hS.sl)) (by (exact hS.sl)) (by (exact hS.sl)) (by (exact hS.more)) (by exact hs') (by exact hwl) (by exact hfo) (by exact hz) (by exact yl hk))) ?_); rintro g39; refine WL.pu ?_; intro hg39; (try dsimp only [List.cons_append, List.nil_append] at hg39 ⊢); refine BY ?_; refine Cq (Cs (Km I (EF (fun hc43 => ?_) (fun hc43 => ?_))))
   ·have hr : cx s.core ws = (false, (imS s.core ws).2) := by rw [cx, Aa (fun h => h h0), Aa (fun h => h hin), Ab hc43]
    refine Cs (Km I (Ka I (ne ?_))); exact G8
   ·have hi0 : (imS s.core ws).2 = 0 := by simpa using hc43
    have hlI : (imS s.core ws).1.length = s.es.length := by rw [rm hi0]; simp
    have hr : cx s.core ws = (decide ((imS s.core ws).1 = s.core.2.2.map (·.2.1)), 0) := by rw [cx, Aa (fun h => h h0), Aa (fun h => h hin), Aa (fun h => h hi0)]
    refine Ck (Fv ?_); refine Lp (σ := Nat) [(2, _), (8, _)] (fun gq => [(10, .int .i64 (gq : Int))]) (fun gq => gq ≤ s.es.length ∧ ∀ j, j < gq → (imS s.core ws).1.getD j default = (s.es.getD j default).1.2.1) (fun gq => s.es.length - gq) (0) (S2 I I) (S1 I) (by (try dsimp only); exact ⟨Ai _, fun _ h => absurd h (Dg _)⟩) ?_; rintro i hinv2; (try dsimp only at hinv2 ⊢); obtain ⟨hi, hoe⟩ := hinv2; refine Cq (E3 ?_); refine Yo I u31 (Es (fun hc48 => ?_) (fun hc48 => ?_))
    ·have hil : i < s.es.length := by omega
     have hil2 : i < (imS s.core ws).1.length := by omega
     refine Gf ?_; refine Cf [0, 1, 2, 3, 4, 5, 6, 7, 8, 9, 10] [] [0, 0, 0, 0, 0, 0, 0, 0, 0, 0, 0] (by kernel_rfl) (by kernel_rfl) I ?_; refine Ei ?_; refine EE ?_; refine E2 ?_; refine Kj I (Fa (q := 2) I I u58 I I) (Kj I (Ld I I .tc u56) ?_); refine E0 ?_; refine Kj I (Ia I I I u56 (by kernel_rfl : _ = some 3) (by omega) (by (rw [ag _ _ 3 (fun _ => rfl)]; omega))) ?_; (refine Kj I (faf I I u95 I (by kernel_rfl) (by (try simp only [sN, Int.reduceToNat, Nat.reduceAdd, Nat.reduceMul, Nat.reduceSub]); rfl)) ?_); refine Kj I (cO (sz := 3) _ 1 I I u22 I (fun _ => rfl) I (by assumption) (by decide) I) ?_; refine Kj I (kT I I I) ?_; refine WJ.nil ?_; refine Nt (Ci I (fun hc61 => ?_) (fun hc61 => ?_))
     ·have hne : ¬ (imS s.core ws).1 = s.core.2.2.map (·.2.1) := fun h => by
       have h1 := iC s.es i hil; exact absurd ((congrArg (fun l : List Bs => l.getD i default) h).trans h1) (by simpa using hc61)
      refine Cs (Ka I (to ?_)); refine DY ?_; exact R2 I I I (by rw [hr, Aj hne]; rfl)
     ·refine Ck (Xd (Xa (Cg (Km I (Kq I (Rz I I I (by omega)) (Ka I (Nn (Ly (i + 1) (by (try dsimp only); omega) (S2 I I) (by refine (Sc ?_ (S0 _)) <;> (rfl)) ?_ (fun _ h => h))))))))); (try dsimp only); exact ⟨hil, fun j hj => by rcases Cm.1 hj with h | h; exact hoe j h; subst h; simpa using hc61⟩
    ·refine AS ?_; obtain rfl : i = s.es.length := by omega
     have heq : (imS s.core ws).1 = s.core.2.2.map (·.2.1) := ru (by rw [hlI]; simp) fun j hj => by
      have h1 := iC s.es j (by omega); rw [hoe j (by omega)]; exact h1.symm
     refine Xa (Cs (Ka I (to ?_))); exact R2 I I I (by rw [hr, Ak heq]; rfl)
theorem AK {p : PR} {k : IK} {ws : List Zs} (h0 : bV p k = 0) (hl : p.lo.length ≤ 8) (h1 : okN (ws.getD 0 default).2) (h2 : (ws.getD 0 default).2.length ≤ 20) : addN p.lo (ws.getD 0 default).2 = (ae (val p.lo + val (ws.getD 0 default).2), 0) := by
 have hlo : okN p.lo := (dp (bo h0).1).1.1 _ (by simp)
 have a1 := aK p.lo; have a2 := aK (ws.getD 0 default).2
 have b1 : 256 ^ p.lo.length ≤ 256 ^ 20 := A1 (by decide) (by omega)
 have b2 : 256 ^ (ws.getD 0 default).2.length ≤ 256 ^ 20 := A1 (by decide) h2
 have b3 : 256 ^ 20 + 256 ^ 20 < Big := by decide +kernel
 have := yy (aO hlo) (aO h1)
 rwa [bN hlo, bN h1, Ab (by omega)] at this
theorem w8 {p : PR} {k : IK} {xa : Bs} {d : List Int} {vs : List Bs} {ws : List Zs} {ra da va za : Option Addr} {rc dc vc zc' : Nat} {w : World} {ok : Nat → Prop} (hF1 : (Fact.sl ra (al k.r)).holds ok w) (hF2 : (Fact.sl da (cP d)).holds ok w) (hF3 : (Fact.sl va (al vs)).holds ok w) (hF4 : (Fact.sl za (aN ws)).holds ok w) (hm8 : p.mn.1.1.length ≤ 8) (hk8 : k.g.1.length ≤ 8) (hkl : k.r.length ≤ 90000) (hnl : k.name.length ≤ 140737488351232) (hdl : d.length ≤ 140737488351232) (hvl : vs.length ≤ 140737488351232) (hwl : ws.length ≤ 100000) (hl8 : p.lo.length ≤ 8) (hw20 : ∀ i, i < ws.length → (ws.getD i default).2.length ≤ 20) :
  Calls Tryz.prog 29 #[prV p, ikV k (.slice ra k.r.length rc), .string (S xa), .slice da d.length dc, .slice va vs.length vc, .slice za ws.length zc'] w fun e w' => ∃ gx : Rs, e = .returned (crV (crS p k xa d vs ws) gx) ∧ (True) ∧ Below w.heap.size w w' ∧ ∀ x ∈ ([Fact.sl gx.a (al (crS p k xa d vs ws).1.1)] : List Fact), x.holds (fun b => ok b ∨ w.heap.size ≤ b) w' := by
 refine enter (S := St (fun b => ok b ∨ w.heap.size ≤ b) w [] ([Fact.sl ra (al k.r), Fact.sl da (cP d), Fact.sl va (al vs), Fact.sl za (aN ws)])) (L := [(0, prV p), (1, ikV k (.slice ra k.r.length rc)), (2, .string (S xa)), (3, .slice da d.length dc), (4, .slice va vs.length vc), (5, .slice za ws.length zc')]) Tryz.func29 rfl Tryz.ntmps29 rfl (Ac rfl (Ac rfl (Ac rfl (Ac rfl (Ac rfl (Ac rfl (An _))))))) (St.start (fun _ h => Or.inr h) (fu (Fc hF1 (Fc hF2 (Fc hF3 (Fc hF4 Fn)))))) ?_
 refine DX ?_
 intro b6
 refine Ff ?_
 intro b7
 refine Ka I (By ?_)
 intro b13
 refine Ka I (Ka I (Nt (Cs (Kq I (lda I I .tc u30 I ?_) ?_))))
 ·kernel_rfl
 refine Kq I (lda I I .tc u33 I ?_) ?_
 ·kernel_rfl
 refine Km I (Km I (Km I (Kh I (Oc I I (eS fun w hS => w7 (p := p) (k := k) (xa := xa) (d := d) (vs := vs) (by (exact hS.slo)) (by (exact hS.slo)) (by (exact hS.slo)) (by exact hm8) (by exact hk8) (by omega) (by exact hnl) (by exact hdl) (by exact hvl))) ?_)))
 rintro sa
 refine WL.pu ?_
 intro hg31; (try dsimp only [List.cons_append, List.nil_append] at hg31 ⊢)
 refine Km I (Ye I (Ye I (E9 ?_)))
 intro b16
 refine DZ ?_; refine Eo ?_; refine EF (fun hc35 => ?_) (fun hc35 => ?_)
 ·have hr : crS p k xa d vs ws = (([], (false, []), []), (shS p k xa d vs).2) := by rw [crS, Ab (by simpa using hc35)]
  refine Cs (AT ?_); refine Km I (Ka I (DZ ?_)); refine Ka I (ne ?_)
  exact G7
 ·have h0 : (shS p k xa d vs).2 = 0 := by simpa using hc35
  have hsL : saL sa := pG hk8 hkl hg31
  obtain ⟨hE0, hsT⟩ := ot h0
  obtain ⟨hN, hasc, hlen⟩ := ou hE0
  refine Ck (Xa (Cs (Kq I (lda I I .tc u58 I ?_) ?_)))
  ·kernel_rfl
  refine Km I (Kc I (fun w hS => xm (s := sa) (ws := ws) (by (exact hS.sl)) (by (exact hS.sl)) (by (exact hS.sl)) (by (exact hS.sl)) (by (exact hS.more)) (by exact hsL) (by exact hwl)) (BY ?_)); refine Cq (Cs (Km I (EF (fun hc45 => ?_) (fun hc45 => ?_))))
  ·have hr : crS p k xa d vs ws = (([], (false, []), []), (cx sa.core ws).2) := by rw [crS, Aa (fun h => h h0), ← hg31, Ab (by simpa using hc45)]
   refine Cs (AT ?_); refine Km I (Ka I (DZ ?_)); refine Ka I (ne ?_); exact G7
  ·have hh0 : (cx sa.core ws).2 = 0 := by simpa using hc45
   refine Fs ?_; refine Ex (fun hc49 => ?_) (fun hc49 => ?_)
   ·have hr : crS p k xa d vs ws = (([], (false, []), []), 18) := by rw [crS, Aa (fun h => h h0), ← hg31, Aa (fun h => h hh0), Ab (by simpa using hc49)]
    refine Cs (AT ?_); refine Ka I (DZ ?_); refine Ka I (ne ?_); exact G7
   ·have hh1 : (cx sa.core ws).1 = true := by simpa using hc49
    have hh1n : ¬ (cx sa.core ws).1 = false := by rw [hh1]; decide
    obtain ⟨_, hzz, _, h1⟩ := nf (rp hh1)
    have hwv : ws.length = 2 + (ax d k.r.length).length := by
     rw [hg31, hsT] at h1; simp [shT] at h1; omega
    refine Ck (Fv ?_); refine Lp (σ := Nat) [(3, _), (4, _), (5, _), (6, _), (7, _), (13, _)] (fun gq => [(20, .int .i64 (gq : Int))]) (fun gq => gq ≤ ws.length ∧ ∀ j, j < gq → j ≠ 1 → (ws.getD j default).1 = false) (fun gq => ws.length - gq) (0) (S6 I I I I I I) (S1 I) (by (try dsimp only); exact ⟨Ai _, fun _ h => absurd h (Dg _)⟩) ?_; rintro i hinv1; (try dsimp only at hinv1 ⊢); obtain ⟨hi, hok⟩ := hinv1; refine Cq (E3 ?_); refine Yo I u39 (Es (fun hc54 => ?_) (fun hc54 => ?_))
    ·have hil : i < ws.length := by omega
     refine Ck (Xa (Cq (Cb (WC.joinP (σ := Unit) [(3, _), (4, _), (5, _), (6, _), (7, _), (13, _), (20, _)] (fun gq => [(65, .bool (decide (i ≠ 1 ∧ (ws.getD i default).1 = true)))]) (fun gq => True) (S7 I I I I I I I) ?_ ?_))))
     ·skip
      refine Cg (Km I (Yj I (Km I (Nc 59 I (fun hg59 => ?_) (fun hg59 => ?_)))))
      ·refine Km I (Km I (Kq I (Ia I I I u39 (by kernel_rfl : _ = some 2) (by omega) (by (rw [ag _ _ 2 (fun _ => rfl)]; omega))) ?_)); (refine Kq I (faf I I u37 I (by kernel_rfl) (by (try simp only [sN, Int.reduceToNat, Nat.reduceAdd, Nat.reduceMul, Nat.reduceSub]); rfl)) ?_); refine Kq I (cO (sz := 2) _ 0 I I u4 I (fun _ => rfl) I (by assumption) (by decide) I) ?_; refine Yp I (Nn (WX.joinP (()) (S7 I I I I I I I) (by refine (Sc ?_ (S0 _)) <;> ((refine congrArg (fun b => some (Value.bool b)) ?_; simp [*]; omega))) ?_ (fun _ h => h))); (try dsimp only); done
      ·refine T4 I (Kt I (Yq I (Nn (WX.joinP (()) (S7 I I I I I I I) (by refine (Sc ?_ (S0 _)) <;> ((exact congrArg (fun b => some (Value.bool b)) (by symm; apply Aj; omega)))) ?_ (fun _ h => h))))); (try dsimp only); done
     ·rintro _ hmeet; (try dsimp only at hmeet ⊢); refine Ci I (fun hc65 => ?_) (fun hc65 => ?_)
      ·have hr : crS p k xa d vs ws = (([], (false, []), []), 2) := by rw [crS, Aa (fun h => h h0), ← hg31, Aa (fun h => h hh0), Aa hh1n, Ab (fun h => by have := h i hil hc65.1; rw [hc65.2] at this; cases this)]
       refine Cs (AT ?_); refine Ka I (DZ ?_); refine Ka I (to ?_); refine DY ?_; exact G7
      ·refine Ck (Xd (Xa (Cg (Km I (Kq I (Rz I I I (by omega)) (Ka I (Nn (Ly (i + 1) (by (try dsimp only); omega) (S6 I I I I I I) (by refine (Sc ?_ (S0 _)) <;> (rfl)) ?_ (fun _ h => h))))))))); (try dsimp only)
       exact ⟨hil, fun j hj h1 => by
         rcases Cm.1 hj with h | h
         ·exact hok j h h1
         ·subst h
          cases hb : (ws.getD j default).1
          ·rfl
          ·exact absurd ⟨h1, hb⟩ hc65⟩
    ·refine AS ?_; obtain rfl : i = ws.length := by omega
     have hce : crE ws := hok; have hw0 : 0 < ws.length := by omega
     have hw1 : 1 < ws.length := by omega
     have hadd := AK (ws := ws) hN hl8 (hzz _ (ak _ _ hw0)).1 (hw20 0 hw0); have hr : crS p k xa d vs ws = ((crL k.r.length d vs ws, ws.getD 1 default, ae (val p.lo + val (ws.getD 0 default).2)), 0) := by rw [crS, Aa (fun h => h h0), ← hg31, Aa (fun h => h hh0), Aa hh1n, Aa (fun h => h hce), hadd, Aa (fun h => h rfl)]
     have hk18 : k.r.length ≤ 18 := (bo hN).2.2.2.2.2.2.1; have hhl := ko d k.r.length; have hlo8 : p.lo.length ≤ 1000000 := by omega
     have hw08 : (ws.getD 0 default).2.length ≤ 1000000 := by have := hw20 0 hw0; omega
     refine Xa (Cs (Fx ?_)); refine Yo I u31 (Kh I (dQ I I I u31 (by kernel_rfl : _ = some (some (.string (S [])), 1, 16)) I ?_ (by (try simp only [sN, Int.reduceToNat, Nat.reduceAdd, Nat.reduceMul, Nat.reduceSub]); rfl) (by (try simp only [sN, Int.reduceToNat, Nat.reduceAdd, Nat.reduceMul, Nat.reduceSub]); rfl)) ?_)
     ·omega
     intro b70; refine EP ?_; refine Lo (σ := Nat) [(3, _), (4, _), (5, _), (6, _), (7, _), (13, _), (21, _)] (fun gq => [(22, .int .i64 (gq : Int))]) (fun gq => gq ≤ d.length) (fun gq => d.length - gq) (fun gq => [⟨some b70, al (i7 d vs k.r.length gq), 22⟩, ⟨some b13, [.bool false, .string (S [])], 37⟩, ⟨some b7, ikC k (.slice ra k.r.length rc), 33⟩, ⟨some b6, prC p, 30⟩]) (fun gq => [Fact.sl da (cP d), Fact.sl va (al vs), Fact.sl za (aN ws)]) (0) (S7 I I I I I I I) (S1 I) (by (try dsimp only); exact Ai _) (by exact fun w h => by show St _ _ [⟨some b70, al (List.replicate k.r.length []), _⟩, _, _, _] _ _; rw [← ol]; exact au _ h) ?_; rintro j hinv2; (try dsimp only at hinv2 ⊢); obtain hj := hinv2; refine Cq (E3 ?_); refine Yo I u38 (Es (fun hc74 => ?_) (fun hc74 => ?_))
     ·have hjd : j < d.length := by omega
      have hjl : j < vs.length := by omega
      have hdj := ef hasc _ (ak d j hjd); obtain ⟨y, hy⟩ : ∃ y : Nat, Keep ((y : Int) = d.getD j default) := ⟨(d.getD j default).toNat, Int.toNat_of_nonneg (by omega)⟩; have hyl : y < k.r.length := by have := show (y : Int) = _ from hy; omega
      have hfl := eD d vs k.r.length j; refine Ck (Xa (Cq (Cb (WC.free (K := []) (fs0 := [Fact.sl da (cP d), Fact.sl va (al vs)]) [0, 1, 2, 3, 4, 5, 6, 7, 8, 9] [10] [0, 0, 0, 0, 0, 0, 0, 0, 0, 0, 2] (by kernel_rfl) (by kernel_rfl) I ?_)))); refine Ei ?_; refine E0 ?_; refine Fd ?_; refine Fy ?_; refine WJ.set 81 I (v' := .int .i64 ((y : Int))) (congrArg (Value.int .i64) (by rw [show (y : Int) = _ from hy])) ?_; refine Ei ?_; refine EE ?_; refine E2 ?_; refine FZ ?_; refine WJ.nil ?_; refine Ng I I (st I I I .tc (by kernel_rfl) I ?_ (by rfl)) ?_
      ·(simp <;> omega)
      intro _; refine Nn (Xd (Xa (Cg (Km I (Kq I (Rz I I I (by omega)) (Ka I (Nn (Lx (j + 1) (by (try dsimp only); omega) (S7 I I I I I I I) (by refine (Sc ?_ (S0 _)) <;> (rfl)) ?_ (by exact fun w h => by (try dsimp only); rw [mA, iF, ← show (y : Int) = _ from hy, Au]; exact au _ h))))))))); (try dsimp only); exact hjd
     ·refine AS ?_; obtain rfl : j = d.length := by omega
      refine Xa (Cs (Km I (Fx ?_))); refine Yo I u31 (Kh I (Oc I I (eT fun w hS => uA (d := d) (n := k.r.length) (by (exact hS.sl)) (by assumption) (by omega))) ?_); intro g91; refine WL.pu ?_; intro hg91; (try dsimp only at hg91 ⊢); refine EP ?_; refine Lo (σ := Nat) [(5, _), (6, _), (13, _), (21, _), (23, _)] (fun gq => [(24, .int .i64 (gq : Int))]) (fun gq => gq ≤ (ax d k.r.length).length) (fun gq => (ax d k.r.length).length - gq) (fun gq => [⟨some b70, al (pa (ax d k.r.length) ws (i7 d vs k.r.length d.length) gq), 22⟩, ⟨some b13, [.bool false, .string (S [])], 37⟩, ⟨some b6, prC p, 30⟩]) (fun gq => [Fact.sl g91.a (nA (ax d k.r.length)), Fact.sl za (aN ws)]) (0) (S5 I I I I I) (S1 I) (by (try dsimp only); exact Ai _) (by exact fun w h => by show St _ _ [⟨some b70, al (i7 d vs k.r.length d.length), _⟩, _, _] _ _; exact au _ h) ?_; rintro m hinv3; (try dsimp only at hinv3 ⊢); obtain hm := hinv3; refine Cq (E3 ?_); refine Yo I u38 (Es (fun hc95 => ?_) (fun hc95 => ?_))
      ·have hml : m < (ax d k.r.length).length := by omega
       obtain ⟨y, hy⟩ : ∃ y, Keep (y = (ax d k.r.length).getD m default) := ⟨_, rfl⟩
       have hyl : y < k.r.length := by
        rw [show y = _ from hy]; exact (kn (s := (ax d k.r.length).take m) (x := (ax d k.r.length).getD m default) (l := (ax d k.r.length).drop (m + 1)) (kI hml).symm).1
       have hf2 := gH (ax d k.r.length) ws (i7 d vs k.r.length d.length) m; have hf1 := eD d vs k.r.length d.length; refine Ck (Xa (Cq (Cb (WC.free (K := []) (fs0 := [Fact.sl g91.a (nA (ax d k.r.length)), Fact.sl za (aN ws)]) [0, 1, 2, 3, 4, 5, 6, 7, 8, 9, 10, 11] [12] [0, 0, 0, 0, 0, 0, 0, 0, 0, 0, 0, 0, 2] (by kernel_rfl) (by kernel_rfl) I ?_)))); refine Ei ?_; refine E0 ?_; refine Fd ?_; refine Fy ?_; refine WJ.set 102 I (v' := .int .i64 ((y : Nat) : Int)) (congrArg (Value.int .i64) (by rw [show y = _ from hy])) ?_; refine Ei ?_; refine Kj I (Rz I I I (by omega)) ?_; refine Eu ?_; (refine Kj I (cR I I u37 I (by kernel_rfl) (by (try simp only [sN, Int.reduceToNat, Nat.reduceAdd, Nat.reduceMul, Nat.reduceSub]); rfl)) ?_); refine Kj I (cO (sz := 2) _ 1 I I u22 I (fun _ => rfl) I (by omega) (by decide) I) ?_; refine FZ ?_; refine WJ.nil ?_; refine Ng I I (st I I I .tc (by kernel_rfl) I ?_ (by rfl)) ?_
       ·(simp <;> omega)
       intro _; refine Nn (Xd (Xa (Cg (Km I (Kq I (Rz I I I (by omega)) (Ka I (Nn (Lx (m + 1) (by (try dsimp only); omega) (S5 I I I I I) (by refine (Sc ?_ (S0 _)) <;> (rfl)) ?_ (by exact fun w h => by (try dsimp only); rw [mz, iF, ← show y = _ from hy]; exact au _ h))))))))); (try dsimp only); exact hml
      ·refine AS ?_; obtain rfl : m = (ax d k.r.length).length := by omega
       refine Xa (Cq (WC.free (K := [⟨some b6, prC p, 30⟩]) (fs0 := [Fact.sl za (aN ws)]) [4, 5, 6, 7, 8, 9, 10, 0, 1, 2, 3, 11, 12] [13, 14] [0, 0, 0, 0, 0, 0, 0, 0, 0, 0, 1, 0, 1, 2, 2] (by kernel_rfl) (by kernel_rfl) I ?_)); refine Kj I (Fa (q := 13) I I u30 I I) (EB ?_); refine E0 ?_; refine Eu ?_; (refine Kj I (faf I I u37 I (by kernel_rfl) (by (try simp only [sN, Int.reduceToNat, Nat.reduceAdd, Nat.reduceMul, Nat.reduceSub]); rfl)) ?_); refine Kj I (cO (l := ws) (f := zc) (sz := 2) 0 1 I I u22 I (fun _ => rfl) I hw0 (by decide) I) ?_; refine Jv I I I I I (fun ext => Oc I I (Kv fun w hS => nr (a := p.lo) (b := (ws.getD 0 default).2) (by exact hlo8) (by exact hw08))) ?_; refine Ei ?_; refine Eu ?_; refine Kj I (bO (l := ws) (f := zc) (sz := 2) 1 I I u37 I (by kernel_rfl : _ = some 2) (fun _ => rfl) (by decide) I hw1) ?_; refine Fg ?_; refine WJ.st I I I I (gg I I I ?_ ?_ ?_) ?_
       ·kernel_rfl
       ·simp [Value.oneCell']
       ·rfl
       refine WJ.nil ?_; refine Ka I (to ?_); exact Rn I (.tmp I (.agg I .tc u37 I (by kernel_rfl) (.tmp I (.tmp I .nil)))) fun w' hS => ⟨⟨some b70, k.r.length, []⟩, by rw [hr]; dsimp only [crV]; rw [crL, gH, eD]; rfl, trivial, hS.below, by rw [hr]; exact Fc hS.osk Fn⟩
theorem vI {l m : List Bs} {i : Nat} (h1 : i < l.length) (h2 : i < m.length) (h : l.take i = m.take i) (e : l.getD i default = m.getD i default) : l.take (i + 1) = m.take (i + 1) := by
 rw [aF h1, aF h2, h, e]
theorem CC {l m : List Bs} {a b : Option Addr} {c d : Nat} {w : World} {ok : Nat → Prop} (hF1 : (Fact.sl a (al l)).holds ok w) (hF2 : (Fact.sl b (al m)).holds ok w) (hl : l.length ≤ 10000000) (hm : m.length ≤ 10000000) :
  Cw 30 #[.slice a l.length c, .slice b m.length d] w (.bool (decide (l = m))) := by
 refine En [Fact.sl a (al l), Fact.sl b (al m)] [(0, .slice a l.length c), (1, .slice b m.length d)] Tryz.func30 I Tryz.ntmps30 I (Ac I (Ac I (An _))) (Fc (ah hF1) (Fc (ah hF2) Fn)) (Cs (Eo ?_)); refine Yo I u31 (Km I (Yo I u31 (EF (fun hc10 => ?_) (fun hc10 => ?_))))
 ·have hn : ¬ l = m := fun h => by subst h; simp at hc10
  refine Cs (ne ?_)
  exact Hj
 ·have hlen : l.length = m.length := by omega
  refine Fs ?_; refine Gb ?_; refine Lp (σ := Nat) [(0, _), (1, _), (12, _)] (fun gq => [(13, .int .i64 (gq : Int))]) (fun gq => gq ≤ l.length ∧ l.take gq = m.take gq) (fun gq => l.length - gq) (0) (S3 I I I) (S1 I) (by (try dsimp only); exact ⟨Ai _, by simp⟩) ?_
  rintro i hinv1; (try dsimp only at hinv1 ⊢)
  obtain ⟨hi, hok⟩ := hinv1
  refine Ek (fun hc14 => ?_) (fun hc14 => ?_)
  ·have hil : i < l.length := by omega
   have him : i < m.length := by omega
   obtain ⟨x, hx⟩ : ∃ x, Keep (x = l.getD i default) := ⟨_, rfl⟩; obtain ⟨y, hy⟩ : ∃ y, Keep (y = m.getD i default) := ⟨_, rfl⟩; refine Ez ?_; refine Km I (Ka I (Nt (Cq (Cf [0, 1, 2, 3, 4, 5, 6, 7, 8] [] [0, 0, 0, 0, 0, 0, 0, 0, 0] (by kernel_rfl) (by kernel_rfl) I ?_)))); refine Ei ?_; refine EE ?_; refine E2 ?_; refine WJ.set 19 I (v' := .string (S (x))) (congrArg (fun l => Value.string (S l)) (by rw [show x = _ from hx])) ?_; refine Ei ?_; refine EE ?_; refine E2 ?_; refine WJ.set 23 I (v' := .string (S (y))) (congrArg (fun l => Value.string (S l)) (by rw [show y = _ from hy])) ?_; refine Kj I (kT I I I) ?_; refine WJ.nil ?_; refine Nt (Ci I (fun hc24 => ?_) (fun hc24 => ?_))
   ·have hn : ¬ l = m := fun h => hc24 (by rw [show x = _ from hx, show y = _ from hy, h])
    refine Cs (to ?_); refine DY ?_; exact Hj
   ·refine Ck (Xd (Xa (Cg (Kq I (Rz I I I (by omega)) (Km I (Nn (Ly (i + 1) (by (try dsimp only); omega) (S3 I I I) (by refine (Sc ?_ (S0 _)) <;> (rfl)) ?_ (fun _ h => h)))))))); (try dsimp only); exact ⟨hil, vI hil him hok (by rw [← show x = _ from hx, ← show y = _ from hy]; exact hc24)⟩
  ·refine AS ?_; obtain rfl : i = l.length := by omega
   rw [Ah, hlen, Ah] at hok; refine Xa (Cs (to ?_)); exact R1 I I (by rw [Ak hok]; rfl)
theorem x5 {p : PR} {k : IK} (h : ly p k = true) : (p.mn.1.1.length ≤ 8 ∧ k.g.1.length ≤ 8 ∧ k.r.length ≤ 8 ∧ k.name.length ≤ 60) ∧ p.lo.length ≤ 8 := by
 simp only [ly, Cp, decide_eq_true_eq, Bx, List.any_eq_false] at h
 obtain ⟨h1, h2, h3⟩ := h
 have m1 := h3 p.mn.1.1 (by simp [fL, gw, pk4])
 have m2 := h3 k.g.1 (by simp [fL])
 have m3 := h3 p.lo (by simp [fL, gw, pk4])
 omega
theorem sm {q : CS} (h : fH q) (i : Nat) (hi : i < q.ws.length) : (q.ws.getD i default).2.length ≤ 20 := by
 have h1 := List.any_eq_false.1 h.2.2.2.2.2.2 (q.ws.getD i default).2 (by
  unfold smL
  simp only [Ah, Bt, B5]
  exact Or.inr ⟨_, ak _ _ hi, rfl⟩)
 have h2 : ¬ ((q.ws.getD i default).2.length : Int) > 20 := by intro h3; exact h1 (Ak h3)
 omega
theorem yi (p : PR) (k : IK) (a : Bs) (d : List Int) (vs : List Bs) (w : List Zs) : (crS p k a d vs w).1.1.length ≤ k.r.length := by
 unfold crS
 split
 ·simp
 ·split
  ·simp
  ·split
   ·simp
   ·split
    ·simp
    ·split
     ·simp
     ·simp only [crL, gH, eD]; exact Bg _
theorem shcrd_l {p : PR} {k : IK} {q : CS} {ra ma da va za xa : Option Addr} {rc mc dc vc zc' xc : Nat} {w : World} {ok : Nat → Prop} (hF1 : (Fact.sl ra (al k.r)).holds ok w) (hF2 : (Fact.sl ma (al q.ms)).holds ok w) (hF3 : (Fact.sl da (cP q.d)).holds ok w) (hF4 : (Fact.sl va (al q.vs)).holds ok w) (hF5 : (Fact.sl za (aN q.ws)).holds ok w) (hF6 : (Fact.sl xa (al q.t.vals)).holds ok w) (hr : k.r.length ≤ 1048576) (hm : q.ms.length ≤ 1048576) (hd : q.d.length ≤ 1048576) (hv : q.vs.length ≤ 1048576) (hz : q.ws.length ≤ 1048576) (hx : q.t.vals.length ≤ 1048576) (hT : Tab w) (hD : TabD w) :
  Cw 8 #[prV p, ikV k (.slice ra k.r.length rc), csV q (.slice ma q.ms.length mc) (.slice da q.d.length dc) (.slice va q.vs.length vc) (.slice za q.ws.length zc') (.slice xa q.t.vals.length xc)] w (.bool true) := by
 refine En [Fact.sl ra (al k.r), Fact.sl ma (al q.ms), Fact.sl da (cP q.d), Fact.sl va (al q.vs), Fact.sl za (aN q.ws), Fact.sl xa (al q.t.vals)] [(0, prV p), (1, ikV k (.slice ra k.r.length rc)), (2, csV q (.slice ma q.ms.length mc) (.slice da q.d.length dc) (.slice va q.vs.length vc) (.slice za q.ws.length zc') (.slice xa q.t.vals.length xc))] Tryz.func8 I Tryz.ntmps8 I (Ac I (Ac I (Ac I (An _)))) (Fc (ah hF1) (Fc (ah hF2) (Fc (ah hF3) (Fc (ah hF4) (Fc (ah hF5) (Fc (ah hF6) Fn)))))) (DX ?_)
 intro b3
 refine Ff ?_
 intro b4
 refine Ff ?_
 intro b5
 refine Ka I (Nt (Cq (WC.joinP (σ := Unit) [(3, _), (4, _), (5, _)] (fun gq => [(23, .bool (decide (¬ (ly p k = true ∧ fH q))))]) (fun gq => True) (S3 I I I) ?_ ?_)))
 ·skip
  refine Cg (Kq I (lda I I .tc u30 I ?_) ?_)
  ·kernel_rfl
  refine Kq I (lda I I .tc u33 I ?_) ?_
  ·kernel_rfl
  refine Kc I (fun w hS => x6 (p := p) (k := k) (by (exact hS.sl)) (by assumption)) (Yt I (Km I (Nc 19 I (fun hg19 => ?_) (fun hg19 => ?_))))
  ·refine T2 I (Kt I (Yp I (Nn (WX.joinP (()) (S3 I I I) (by refine (Sc ?_ (S0 _)) <;> ((refine aj rfl ?_; (try dsimp only); (simp [*]; done)))) ?_ (fun _ h => h))))); (try dsimp only); done
  ·refine Kq I (lda I I .tc u43 I ?_) ?_
   ·kernel_rfl
   refine Kc I (fun w hS => sn (q := q) (by (exact hS.sl)) (by (exact hS.sl)) (by (exact hS.sl)) (by (exact hS.sl)) (by (exact hS.sl)) (by assumption) (by assumption) (by assumption) (by assumption) (by assumption)) (Yt I (Yq I (Nn (WX.joinP (()) (S3 I I I) (by refine (Sc ?_ (S0 _)) <;> ((refine aj rfl ?_; (try dsimp only); (simp [*]; done)))) ?_ (fun _ h => h))))); (try dsimp only); done
 ·rintro _ hmeet; (try dsimp only at hmeet ⊢)
  refine Ci I (fun hc23 => ?_) (fun hc23 => ?_)
  ·refine Cs (Kc I (fun w hS => mR (by (exact fG hT hS)) (by (exact bm hD hS))) (ne ?_)); exact Hb
  ·obtain ⟨hfw, hsm⟩ := Al.1 hc23; obtain ⟨⟨hm8, hk8, hk8', hk60⟩, hl8⟩ := x5 hfw; have hds := hsm.2.1; have hvs := hsm.2.2.1; have hws := hsm.2.2.2.1; have hw20 := sm hsm; have hcl := yi p k q.aa q.d q.vs q.ws; refine Ck (Xa (Cs (Kq I (lda I I .tc u30 I ?_) ?_)))
   ·kernel_rfl
   refine Kq I (lda I I .tc u33 I ?_) ?_
   ·kernel_rfl
   refine Kf 3 I u43 I I I .tc u22 ?_; refine Kf 7 I u43 I I I .tc u38 ?_; refine Kf 8 I u43 I I I .tc u31 ?_; refine Kf 9 I u43 I I I .tc u39 ?_; refine Kh I (Oc I I (eS fun w hS => y3 (p := p) (k := k) (xa := q.aa) (d := q.d) (vs := q.vs) (ws := q.ws) (by (exact hS.slo)) (by (exact hS.slo)) (by (exact hS.slo)) (by (exact hS.slo)) (by assumption) (by assumption) (by omega) (by omega) (by omega) (by omega) (by omega) (by (exact bm hD hS)))) ?_; rintro g36; refine WL.pu ?_; intro hg36; (try dsimp only [List.cons_append, List.nil_append] at hg36 ⊢); refine Km I (Ye I (Ye I (Ye I (Ye I (By ?_))))); intro b8; refine Ka I (Nu I I (Sa I I I .tc) (Ka I (Ka I (Nt (Cs (Kq I (lda I I .tc u30 I ?_) ?_))))))
   ·kernel_rfl
   refine Kq I (lda I I .tc u33 I ?_) ?_
   ·kernel_rfl
   refine Kf 3 I u43 I I I .tc u22 ?_; refine Kf 7 I u43 I I I .tc u38 ?_; refine Kf 8 I u43 I I I .tc u31 ?_; refine Kf 9 I u43 I I I .tc u39 ?_; refine Kh I (Oc I I (eS fun w hS => w8 (p := p) (k := k) (xa := q.aa) (d := q.d) (vs := q.vs) (ws := q.ws) (by (exact hS.slo)) (by (exact hS.slo)) (by (exact hS.slo)) (by (exact hS.slo)) (by assumption) (by assumption) (by omega) (by omega) (by omega) (by omega) (by omega) (by assumption) (by assumption))) ?_; rintro g52; refine WL.pu ?_; intro hg52; (try dsimp only [List.cons_append, List.nil_append] at hg52 ⊢); refine Km I (Ye I (Ye I (Ye I (Ye I (By ?_))))); intro b12; refine Ka I (DZ ?_); refine Ka I (Et ?_); refine Km I (Kc I (fun w hS => CC (l := (crS p k q.aa q.d q.vs q.ws).1.1) (m := (crS p k q.aa q.d q.vs q.ws).1.1) (by (exact hS.sl)) (by (exact hS.sl)) (by omega) (by omega)) (Km I (Ns 60 I (v' := .bool true) (by (exact congrArg Value.bool (by simp [*]; done))) ?_))); refine Kq I (lda I I .tc u37 I ?_) ?_
   ·kernel_rfl
   refine Kq I (lda I I .tc u37 I ?_) ?_
   ·kernel_rfl
   refine Kq I (zr I I I (by kernel_rfl) (fun w => gJ _ _ _ _ w)) ?_; refine Yp I (Km I (Ns 65 I (v' := .bool true) (by (exact congrArg Value.bool (by simp [*]; done))) ?_)); refine Km I (Km I (Ys I (Yp I (Km I (Ns 70 I (v' := .bool true) (by (exact congrArg Value.bool (by simp [*]; done))) ?_))))); refine Km I (Km I (Yi I (Yp I (Km I (Ns 75 I (v' := .bool true) (by (exact congrArg Value.bool (by simp [*]; done))) ?_))))); refine Kc I (fun w hS => mR (by (exact fG hT hS)) (by (exact bm hD hS))) (Yp I (to ?_)); exact Hb
theorem laidVars_tail {P : Program} {w : World} {x : String × DataW Unit} {r : List (String × DataW Unit)} {ps : List MemPlace} (h : DataW.LaidVars P w (x :: r) ps) : ∃ q, DataW.LaidVars P w r q := by
 obtain ⟨n, d⟩ := x
 obtain ⟨g, t, cs, fuel, p, q, _, _, _, _, h, _⟩ := h
 exact ⟨q, h⟩
theorem tab_of_vars {P : Program} {W : World} {name : String} {k : IntKind} {zs : List Int} {rest : List (String × DataW Unit)} {ps : List MemPlace} {t e : TypeId} {n : Nat}
  (hty : ((P.globalNamed name).bind fun g => (P.globals[g]?).map (·.type)) = some t) (ht : P.underlying t = some (.array n e)) (he : P.underlying e = some (.int k)) (hce : P.cellsOf e = 1) (hct : P.cellsOf t = n)
  (h : DataW.LaidVars P W ((name, Lib.tabData k zs) :: rest) ps) : Lib.TabIs P W name k zs := by
 obtain ⟨g', t', cs, fuel, p, q, hg', ht', hvar, hd, _, _⟩ := h
 rw [hg', Option.bind_some] at hty
 obtain rfl := Option.some.inj (hty.symm.trans ht')
 unfold Lib.TabIs
 rw [hvar, ← Lib.cells_of_tab ht he hce hct hd]
theorem wf_u8 {n : Int} (h : (Lit.int .u8 n).wf = true) : 0 ≤ n ∧ n ≤ 255 := by
 have e1 : IntKind.u8.min = 0 := by decide
 have e2 : IntKind.u8.max = 255 := by decide
 simp [Lit.wf, e1, e2] at h; omega
theorem wf_i64 {n : Int} (h : (Lit.int .i64 n).wf = true) : -9223372036854775808 ≤ n ∧ n ≤ 9223372036854775807 := by
 have e1 : IntKind.i64.min = -9223372036854775808 := by decide
 have e2 : IntKind.i64.max = 9223372036854775807 := by decide
 simp [Lit.wf, e1, e2] at h; omega
theorem tabd_of_is {W : World} (h : Lib.TabIs Tryz.prog W "math/bits.deBruijn64tab" .u8 (Lib.deBruijn64tab.map fun n : Nat => (n : Int))) : TabD W := by
 intro j hj
 have h1 : W.var? Tryz.prog "math/bits.deBruijn64tab" = some ((Lib.deBruijn64tab.map fun n : Nat => (n : Int)).map fun z => Value.int .u8 z).toArray := h
 have hg : Tryz.prog.globalNamed "math/bits.deBruijn64tab" = some (renTz.g 1) := by kernel_rfl
 unfold World.var? at h1
 rw [hg, Option.bind_some] at h1
 unfold World.cell?
 show (match W.heap[renTz.g 1]? with | some (.cells c _ _) => if (none : Option _).isSome = true then none else c[j]? | _ => none) = _
 cases hh : W.heap[renTz.g 1]? with
 | none => rw [hh] at h1; cases h1
 | some o =>
  rw [hh] at h1
  cases o with
  | cells c t k =>
   simp only [Option.some.injEq] at h1; subst h1; rw [List.map_map]; simp only [Option.isSome_none, Dc, if_false, De, Bd]; rw [List.getD_eq_getElem?_getD, Ae hj]; rfl
  | _ => cases h1
end Go.Proofs.YtkdlonihbjhhoaaGreatDoor
namespace Go.Proofs.YtkdlonihbjhhoaaGreatDoor
set_option linter.unusedSimpArgs false
set_option linter.unusedVariables false
open Go.ChangeShapes Go.WideShapes Go.ChangeAt Go.RowKit
theorem vY {H : Type} (d : DataW H) : 1 ≤ Rows.uptoBulk d := by
 cases d with
 | lit l => cases l <;> simp [Rows.uptoBulk]
 | _ => simp [Rows.uptoBulk]
theorem ia {H : Type} {d : DataW H} : ∀ {l : List (DataW H)}, d ∈ l → Rows.uptoBulk d ≤ Rows.uptoBulkAll l
 | [], h => by cases h
 | x :: l, h => by
  simp only [Rows.uptoBulkAll]
  rcases A7.1 h with rfl | h
  ·omega
  ·have := ia h; omega
theorem pi {H : Type} : ∀ l : List (DataW H), l.length ≤ Rows.uptoBulkAll l
 | [] => by simp [Rows.uptoBulkAll]
 | x :: l => by have := vY x; have := pi l; simp only [Rows.uptoBulkAll, Aq]; omega
def Wu {H : Type} (P : Program) (t : TypeId) (d : DataW H) : Prop := Wt P t d ∧ Rows.uptoBulk d ≤ 1048576
theorem wu_all {H : Type} {P : Program} {t : TypeId} {d : DataW H} {l : List (DataW H)} (h : Wt P t d) (hd : d ∈ l) (hb : Rows.uptoSmall H l = true) : Wu P t d := ⟨h, by
 have h1 := ia hd
 have h2 : Rows.uptoBulkAll l ≤ 1048576 := of_decide_eq_true hb
 omega⟩
section
variable {H : Type} {enc : TypeId × Value → H} {P : Program} {w : World} {spare : Nat → Bool} {held : Bool} {fuel : Nat} {t e : TypeId} {cs : List Value} {x : DataW H × List MemPlace}
theorem opu_str (ht : P.underlying t = some .string) (h : DataW.trod enc P w 0 spare held fuel t cs = some x) (hz : Wu P t x.1) : ∃ s : List UInt8, cs = [.string (S s)] ∧ s.length ≤ 140737488351232 := xQ ht h hz.1
theorem opu_struct {fs : Array Field} (ht : P.underlying t = some (.struct fs)) (h : DataW.trod enc P w 0 spare held fuel t cs = some x) (hz : Wu P t x.1) :
  cs.length = P.cellsOf t ∧ ∃ m, ∀ (j : Nat) f, fs.toList[j]? = some f → ∃ y, DataW.trod enc P w 0 spare held m f.type ((cs.drop f.offset).take (P.cellsOf f.type)) = some y ∧ Wu P f.type y.1 := by
 cases fuel with
 | zero => simp [DataW.trod] at h
 | succ n =>
  simp only [DataW.trod, ht] at h
  split at h
  ·rename_i hl; refine ⟨hl, n, fun j f hf => ?_⟩; obtain ⟨xs, hxs, rfl⟩ := Ec.1 h; obtain ⟨z, h1, h2⟩ := ln hxs j f hf; refine ⟨z, h1, fun n hn => hz.1 n ?_, ?_⟩
   ·simp only [DataW.weights, ht]; exact DataW.weights_mem_each (j := j) (by rw [Bd, hf]; rfl) (by rw [Bd, h2]; rfl) n hn
   ·have hb := hz.2; simp only [Rows.uptoBulk] at hb; have := ia (d := z.1) (l := xs.map (·.1)) (B5.2 ⟨z, A6 h2, rfl⟩); omega
  ·cases h
theorem opu_slice {α : Type} [Inhabited α] {cells : α → List Value} {F : α → Prop} (sz bz : Nat) (hbz : P.bytesOf e = bz) (ht : P.underlying t = some (.slice e)) (hc : P.cellsOf e = sz) (hsz : ∀ a, (cells a).length = sz)
  (hel : ∀ m cs (y : DataW H × List MemPlace), DataW.trod enc P w 0 (fun _ => true) held m e cs = some y → Wu P e y.1 → ∃ a : α, cs = cells a ∧ F a) (h : DataW.trod enc P w 0 (fun _ => true) held fuel t cs = some x) (hz : Wu P t x.1) :
  ∃ s : Sl α, cs = [s.val] ∧ s.l.length ≤ s.cap ∧ s.cap * bz ≤ 140737488351232 ∧ s.l.length ≤ 1048576 ∧ (Fact.sl s.a (s.l.flatMap cells)).holds (fun _ => True) w ∧ ∀ y ∈ s.l, F y := by
 cases fuel with
 | zero => simp [DataW.trod] at h
 | succ n =>
  simp only [DataW.trod, ht] at h
  split at h
  all_goals (try (rename_i hq; cases hq; done))
  all_goals (try (cases h; done))
  all_goals (try (rename_i hq _; cases hq; done))
  ·exact ⟨⟨none, [], 0⟩, rfl, Bg _, by simp, Ai _, .inl rfl, by simp⟩
  ·rename_i e' a len cap he
   cases he; split at h <;> try cases h
   rename_i hb; obtain ⟨elems, hm, h'⟩ := Option.bind_eq_some_iff.1 h; simp only [if_true] at h'; obtain ⟨rest, hr, rfl⟩ := Ec.1 h'; have hzl : ∀ n ∈ (DataW.slice (elems.map (·.1)) (rest.map (·.1))).weights P t, n ≤ 140737488351232 := hz.1; have hbk := hz.2; simp only [Rows.uptoBulk] at hbk; have hln := pi (elems.map (·.1)); have hml := iZ hm; simp only [Af, List.length_range] at hln hml; simp only [DataW.weights, ht] at hzl
   have hcb : cap * bz ≤ 140737488351232 := by
    have h1 := hzl _ (List.mem_cons_self); have h2 := iZ hm; have h3 := iZ hr; simp only [Af, List.length_range] at h1 h2 h3; rw [hbz, h2, h3, show len + (cap - len) = cap by omega] at h1; exact h1
   have hall : ∀ i, i < len → ∃ ys : List Value, w.cells? 0 (a.add (i * sz)) sz = some ys ∧ ∃ q : α, ys = cells q ∧ F q := fun i hi => by
    obtain ⟨z, hz1, hz2⟩ := ln hm i i (List.getElem?_range hi); obtain ⟨ys, h1, h2⟩ := Option.bind_eq_some_iff.1 hz1; rw [hc] at h1; obtain ⟨q, hq, hF⟩ := hel _ _ _ h2 ⟨fun n hn => hzl n (C3 _ (Ds _ (f7 (B5.2 ⟨z, A6 hz2, rfl⟩) hn))), by have := ia (d := z.1) (l := elems.map (·.1)) (B5.2 ⟨z, A6 hz2, rfl⟩); omega⟩; exact ⟨ys, h1, q, hq, hF⟩
   have hlist : ∀ k, k ≤ len → ∃ l : List α, l.length = k ∧ (∀ y ∈ l, F y) ∧ ∀ i, i < k → w.cells? 0 (a.add (i * sz)) sz = some (cells (l.getD i default)) := by
    intro k
    induction k with
    | zero => intro _; exact ⟨[], rfl, by simp, fun i hi => by omega⟩
    | succ k ih =>
     intro hk; obtain ⟨l, h1, h2, h3⟩ := ih (by omega); obtain ⟨ys, hy, q, rfl, hF⟩ := hall k (by omega); refine ⟨l ++ [q], by simp [h1], fun y hy' => ?_, fun i hi => ?_⟩
     ·rcases Bt.1 hy' with h | h
      ·exact h2 y h
      ·simp at h; subst h; exact hF
     ·by_cases hik : i = k
      ·subst hik; rw [hy]; simp [List.getD, ← h1]
      ·rw [h3 i (by omega)]; simp only [List.getD]; rw [B4 (by omega)]
   obtain ⟨l, h1, h2, h3⟩ := hlist len (Bg _); refine ⟨⟨some a, l, cap⟩, by simp [h1], by simp [h1]; exact hb.2.1, hcb, by rw [h1]; omega, sq fun i v hv => ?_, h2⟩; have hlen := ag l cells sz hsz; have hi : i < l.length * sz := by rw [← hlen]; exact (Ar.1 hv).1
   have hs0 : 0 < sz := by rcases B0 sz with h0 | h0; · subst h0; omega
                           ·exact h0
   have hj : i / sz < l.length := Nat.div_lt_of_lt_mul (by rw [Am]; exact hi); obtain ⟨_, h5⟩ := cells?_get (h3 (i / sz) (by omega))
   have h6 := h5 (i % sz) v (by
    rw [← ey l cells sz hsz (i / sz) hj, Cu, Ab (Ap _ hs0), Cv, Am, Bb]; exact hv)
   have e1 : (a.add (i / sz * sz)).add (i % sz) = a.add i := by
    have h7 : i / sz * sz + i % sz = i := by rw [Am]; exact Bb i sz
    have h8 : ∀ p q : Nat, (a.add p).add q = a.add (p + q) := fun p q => by by_cases hp : p = 0 <;> by_cases hq : q = 0 <;> simp [Addr.add, hp, hq, Cn]
    rw [h8, h7]
   rw [e1] at h6; exact h6
end
end Go.Proofs.YtkdlonihbjhhoaaGreatDoor
