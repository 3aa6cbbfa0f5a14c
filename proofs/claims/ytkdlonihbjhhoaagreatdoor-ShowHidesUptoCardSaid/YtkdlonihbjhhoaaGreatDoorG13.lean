/-
  Parts of the walk: Pw2 Grp2 Ped Prs Iks Pw3 Eqs Open Opn Opz Non1 Sin Non2 Non3 Sha.
-/
import Derived.Test.YtkdlonihbjhhoaaGreatDoorG12
import Derived.Laws.StructEq
import Derived.ChangeKeysEq
import Derived.ProofKit
import Derived.OpenShut
import Derived.SliceStrings
import Derived.Carry
import Derived.SizedLaws
namespace Go.Proofs.YtkdlonihbjhhoaaGreatDoor
open Go.RowKit
set_option linter.unusedSimpArgs false
set_option linter.unusedVariables false
set_option maxHeartbeats 600000
set_option maxRecDepth 20000
theorem qA {a b m : Bs} (ha : okN a) (hb : okN b) (hm : okN m) (hm0 : m ≠ []) : iH a b m = (ae (val a * val b % val m), 0) := by
 rw [iH, Ab (lk (by intro y hy; simp at hy; rcases hy with rfl | rfl | rfl <;> assumption) (by simpa using fun h => hm0 h))]
theorem n8 {p q : Nat} {out x : Bs} {g : Gp} {en : Ent} {rr : List Ent} {ok : Nat → Prop} {w0 : World} {fs : List Fact} {w : World} (hS0 : St ok w0 (⟨some p, [.string (S out)], 22⟩ :: en :: ⟨some q, [.string (S g.1), .string (S g.2)], 26⟩ :: rr) (fs) w) (ho : okN out) (ho8 : out.length ≤ 8) (hx : okN x) (hx8 : x.length ≤ 8) (hm : okN g.1) (hm0 : g.1 ≠ []) (hm8 : g.1.length ≤ 8) :
  Calls Tryz.prog 92 #[.string (S x), .pointer (some ⟨p, 0, none⟩), .pointer (some ⟨q, 0, none⟩)] w fun e w' => e = .returned (.tuple #[]) ∧ St ok w0 (⟨some p, [.string (S (ae (val out * val x % val g.1)))], 22⟩ :: en :: ⟨some q, [.string (S g.1), .string (S g.2)], 26⟩ :: rr) (fs) w' := by
 refine enter (S := St ok w0 (⟨some p, [.string (S out)], 22⟩ :: en :: ⟨some q, [.string (S g.1), .string (S g.2)], 26⟩ :: rr) (fs)) (L := [(0, .string (S x)), (1, .pointer (some ⟨p, 0, none⟩)), (2, .pointer (some ⟨q, 0, none⟩))]) Tryz.func92 rfl Tryz.ntmps92 rfl (Ac rfl (Ac rfl (Ac rfl (An _)))) hS0 ?_
 refine Cg (Em ?_)
 refine Km I ?_
 (refine Kq I (cX I I u26 I (by kernel_rfl) (by (try simp only [sN, Int.reduceToNat, Nat.reduceAdd, Nat.reduceMul, Nat.reduceSub]); rfl)) ?_)
 refine Em ?_
 refine Kc I (fun w hS => (by have := zp (w := w) (a := out) (b := x) (m := g.1) ho8 hx8 hm8; rw [qA ho hx hm hm0] at this; exact this)) (Km I (Ye I (Ye I (Ng I I (st I I I .tc (by kernel_rfl) I ?_ (by (simp only [Av, Aw]; rfl))) ?_))))
 ·(simp; done)
 intro _
 refine Nn (WX.ret_normal ?_)
 exact Rn I .nil fun w' hS => ⟨by rfl, by (exact hS)⟩
theorem gM {g : Gp} {x : Bs} (hg : aU g = 0) (h : elG g x) : Nat.gcd (val x) (val g.1) = 1 := by
 obtain ⟨h1, h2, h3, h4, h5⟩ := cq hg
 obtain ⟨_, _, _, h6⟩ := h
 split at h6
 ·exact h6
 ·rename_i hq
  obtain ⟨h7, _⟩ := h5 hq
  refine nO (x := val x ^ (val g.2 - 1)) ?_
  rw [Aj, ← As, show (val g.2 - 1).succ = val g.2 by omega, h6, Ah (by omega)]
theorem xL {g : Gp} {x : Bs} (h : elG g x) (hm8 : g.1.length ≤ 8) : x.length ≤ 8 := by
 rw [← bB h.1]; exact bj.2 (Do h.2.2.1 (dQ hm8))
def bsB (m : Nat) (p : Bs × Zs) : Bs := if p.2.1 = true then ae (dB (val p.1) m) else p.1
def bL (g : Gp) (l : List Bs) (es : List Zs) : Bs × Int :=
 if dO g l es (decide (l.length = es.length)) = 0 then (ae (aD (fun p => db (val g.1) (val p.1) (zv p.2)) (l.zip es) % val g.1), 0) else ([], dO g l es (decide (l.length = es.length)))
theorem xY {g : Gp} {l : List Bs} {es : List Zs} {s : Bool} (h : dO g l es s = 0) : (∀ x ∈ l, okN x) ∧ (∀ x ∈ es, okZ x) ∧ aU g = 0 ∧ s = true ∧ (∀ x ∈ l, elG g x) := by
 unfold dO at h
 split at h
 ·simp at h
 ·rename_i h1
  split at h
  ·simp at h
  ·rename_i h2; split at h
   ·rename_i h3; exact absurd h h3
   ·rename_i h3; split at h
    ·simp at h
    ·rename_i h4; split at h
     ·simp at h
     ·rename_i h5; exact ⟨Ao.1 h1, Ao.1 h2, Ao.1 h3, by simpa using h4, Ao.1 h5⟩
theorem j0 {x : Zs} (h : okZ x) : zv x < 0 ↔ x.1 = true := by
 obtain ⟨s, a⟩ := x
 cases s with
 | false => simp [zv]
 | true =>
  have h0 : val a ≠ 0 := fun h0 => h.2 ⟨rfl, (aM h.1.2).1 h0⟩
  simp [zv]; omega
theorem s4 (x : Zs) : (zv x).natAbs = val x.2 := by
 obtain ⟨s, a⟩ := x; cases s <;> simp [zv]
theorem w5 {m : Nat} {p : Bs × Zs} (h : okZ p.2) : db m (val p.1) (zv p.2) = val (bsB m p) ^ val p.2.2 % m := by
 rw [db, bsB, s4]
 by_cases h1 : p.2.1 = true
 ·rw [Ab ((j0 h).2 h1), Ab h1, af]
 ·rw [Aa (fun h2 => h1 ((j0 h).1 h2)), Aa h1]
theorem lW {α β : Type} (f : β → Nat) (k : α → β) : ∀ l : List α, aD f (l.map k) = aD (fun x => f (k x)) l
 | [] => rfl
 | x :: l => by rw [Dr, aD, aD, lW f k l]
def rN (m : Nat) (l : List (Bs × Zs)) : List (Nat × Nat) := l.map fun p => (val (bsB m p), val p.2.2)
theorem w3 {m : Nat} {l : List (Bs × Zs)} (h : ∀ p ∈ l, okZ p.2) : aD (ej 0) (rN m l) % m = aD (fun p => db m (val p.1) (zv p.2)) l % m := by
 rw [rN, lW]
 apply ji
 intro p hp
 rw [w5 (h p hp), ej, B1, Dj, Nat.mod_mod]
theorem rM {m n : Nat} {l : List (Bs × Zs)} (h : ∀ p ∈ l, aF p.2.2 ≤ n) : aD (ej n) (rN m l) = 1 := by
 apply rQ
 intro p hp
 obtain ⟨q, hq, rfl⟩ := B9.1 hp
 rw [ej, Bh (Ay (fQ _) (A2 (by decide) (h q hq))), B1]
theorem iP {l : List Bs} {es : List Zs} {i : Nat} (h1 : i < l.length) (h2 : i < es.length) : (l.zip es).getD i default = (l.getD i default, es.getD i default) := by
 simp only [List.getD_eq_getElem?_getD, List.getElem?_zip_eq_some, Ad h1, Ad h2, Ad (show i < (l.zip es).length by simp; omega), List.getElem_zip, Option.getD_some]
theorem gJ {α β : Type} [Inhabited α] [Inhabited β] (f : α → β) (l : List α) (i : Nat) (h : i < l.length) : (l.map f).getD i default = f (l.getD i default) := by
 simp [List.getD_eq_getElem?_getD, Ad h]
theorem lO (l : List Bs) (i n : Nat) (h : i < l.length) (hn : i < n) : (an (l.take i) ++ List.replicate (n - i) (Value.string (S []))).set i (Value.string (S (l.getD i default))) = an (l.take (i + 1)) ++ List.replicate (n - (i + 1)) (Value.string (S [])) := by
 have hl : (an (l.take i)).length = i := by simp [an]; omega
 rw [Dd _ _ (by omega), hl, C0, show n - i = (n - (i + 1)) + 1 by omega, D6, Av]
 have e : l.take (i + 1) = l.take i ++ [l.getD i default] := by
  rw [Bt, Ad h, List.getD_eq_getElem?_getD, Ad h]; rfl
 rw [e]; simp [an]
theorem no {k : Nat} {m : Bs} (h : k < val m) (hm8 : m.length ≤ 8) : okN (ae k) ∧ (ae k).length ≤ 8 := by
 have h8 : (ae k).length ≤ 8 := bj.2 (Do h (dQ hm8))
 exact ⟨⟨by omega, bn _⟩, h8⟩
theorem kS {α : Type} [Inhabited α] (f : α → Nat) (l : List α) (k : Nat) (h : k < l.length) : aD f (l.take (k + 1)) = aD f (l.take k) * f (l.getD k default) := by
 rw [Bt, Ad h, iA, List.getD_eq_getElem?_getD, Ad h]
 simp [aD]
def rC (n : Nat) (p : Nat × Nat) : Nat := if p.2 / 2 ^ n % 2 = 1 then p.1 else 1
theorem g6 {g : Gp} {l : List Bs} {es : List Zs} {a b : Option Addr} {c d : Nat} {w : World} {ok : Nat → Prop} (hF1 : (Fact.sl a (an l)).holds ok w) (hF2 : (Fact.sl b (aZ es)).holds ok w) (hl : l.length ≤ 100000) (hes : es.length ≤ 100000) (hm8 : g.1.length ≤ 8) :
  Cw 43 #[gV g, .slice a l.length c, .slice b es.length d] w (NE (bL g l es)) := by
 refine En [Fact.sl a (an l), Fact.sl b (aZ es)] [(0, gV g), (1, .slice a l.length c), (2, .slice b es.length d)] Tryz.func43 I Tryz.ntmps43 I (Ac I (Ac I (Ac I (An _)))) (Fc (ah hF1) (Fc (ah hF2) Fn)) (DO ?_)
 intro b3
 refine Ka I (Ka I (Nt (Cq (Cs (Kq I (lda I I .tc u26 I ?_) ?_)))))
 ·kernel_rfl
 refine Km I (Km I (Km I (Yo I u31 (Km I (Yo I u39 (Yi I (Ns 27 I (v' := .bool (decide (l.length = es.length))) (congrArg Value.bool (by exact Af.2 (by omega))) ?_)))))))
 refine Kc I (fun w hS => sI (g := g) (l := l) (es := es) (same := decide (l.length = es.length)) (by (exact hS.sl)) (by (exact hS.sl)) (by omega) (by omega) (by assumption)) (DT ?_); refine EL (fun hc30 => ?_) (fun hc30 => ?_)
 ·have hr : bL g l es = ([], dO g l es (decide (l.length = es.length))) := by rw [bL, Aa (by simpa using hc30)]
  refine Cs (Km I (Ka I (ne ?_)))
  exact GE
 ·have h0 : dO g l es (decide (l.length = es.length)) = 0 := by simpa using hc30
  obtain ⟨hok, hokz, hg, hsame, hel⟩ := xY h0
  have hlen : l.length = es.length := by simpa using hsame
  obtain ⟨hm, hq, hm2, _⟩ := cq hg
  have hm0 : g.1 ≠ [] := fun h => by rw [h] at hm2; exact absurd hm2 (by decide)
  have hp := lC hm hm0
  have hm64 := dQ hm8
  obtain ⟨Z, hZ⟩ : ∃ Z, Z = l.zip es := ⟨_, rfl⟩
  have hZl : Z.length = l.length := by rw [hZ]; simp; omega
  have hr : bL g l es = (ae (aD (fun p => db (val g.1) (val p.1) (zv p.2)) Z % val g.1), 0) := by rw [bL, Ab h0, hZ]
  obtain ⟨B', hB'⟩ : ∃ B', B' = Z.map (bsB (val g.1)) := ⟨_, rfl⟩
  have hBl : B'.length = l.length := by rw [hB', Ag, hZl]
  refine Ck (Xa (Cs (Km I (Yo I u31 (Kh I (ef I I I u31 (by kernel_rfl : _ = some (some (.string (S [])), 1, 16)) I ?_ (by (try simp only [sN, Int.reduceToNat, Nat.reduceAdd, Nat.reduceMul, Nat.reduceSub]); rfl) (by (try simp only [sN, Int.reduceToNat, Nat.reduceAdd, Nat.reduceMul, Nat.reduceSub]); rfl)) ?_)))))
  ·omega
  intro b34
  refine Ka I (Nt (Cs (DR ?_))); refine FW ?_; refine Lo (σ := Nat × Nat) [(2, _), (3, _), (9, _), (35, _), (36, _)] (fun gq => [(10, .int .i64 (gq.2 : Int)), (37, .int .i64 (gq.1 : Int))]) (fun gq => gq.1 ≤ l.length ∧ gq.2 ≤ 2000 ∧ ∀ p ∈ Z.take gq.1, aF p.2.2 ≤ gq.2) (fun gq => l.length - gq.1) (fun gq => [⟨some b34, an (B'.take gq.1) ++ List.replicate (l.length - gq.1) (.string (S [])), 22⟩, ⟨some b3, [.string (S g.1), .string (S g.2)], 26⟩]) (fun gq => [Fact.sl a (an l), Fact.sl b (aZ es)]) (0, 0) (S5 I I I I I) (S2 I I) (by (try dsimp only); exact ⟨Ai _, Ai _, by simp⟩) (fun _ h => h) ?_
  rintro ⟨i, most⟩ hinv1; (try dsimp only at hinv1 ⊢)
  obtain ⟨hi, hmo, hbt⟩ := hinv1
  refine DP (fun hc38 => ?_) (fun hc38 => ?_)
  ·have hil : i < l.length := by omega
   have hie : i < es.length := by omega
   have hx := hel _ (ap l i hil); have hz := hokz _ (ap es i hie); have hiZ : i < Z.length := by omega
   have hZi : Z.getD i default = (l.getD i default, es.getD i default) := by rw [hZ]; exact iP hil hie
   have hBi : B'.getD i default = bsB (val g.1) (l.getD i default, es.getD i default) := by rw [hB', gJ _ _ _ hiZ, hZi]
   have hgc := gM hg hx; have hiv := qJ hx.1 hm hm0; rw [Ab hgc] at hiv; have hbl := gn hz.1.1; refine El ?_; refine DZ ?_; refine EI ?_; refine Ka I (DT ?_); refine Km I (Km I (Fv ?_)); refine Ng I I (st I I I .tc (by kernel_rfl) I ?_ (by rfl)) ?_
   ·(simp <;> omega)
   intro _; refine Nt (E0 ?_); refine DX ?_; (refine Kq I (faf I I u37 I (by kernel_rfl) (by (try simp only [sN, Int.reduceToNat, Nat.reduceAdd, Nat.reduceMul, Nat.reduceSub]); rfl)) ?_); refine Kq I (lE (sz := 2) _ 0 I I u4 I (fun _ => rfl) I (by assumption) (by decide) I) ?_; refine Nt (Ci I (fun hc50 => ?_) (fun hc50 => ?_))
   ·have hB2 : B'.getD i default = ae (dB (val (l.getD i default)) (val g.1)) := by rw [hBi]; exact Ab (by simpa using hc50)
    refine Cs (Km I (ED ?_)); refine Kc I (fun w hS => (by have := zq (w := w) (a := l.getD i default) (m := g.1); rw [hiv] at this; exact this)) (BY ?_); refine Cq (Cs (Km I (Yj I (Nt (Cd I (fun hc59 => by exfalso; (try simp only [sB] at hc59); exact hc59 trivial) (fun hc59 => ?_)))))); (try simp only [sB] at hc59); refine Ck (Xa (Cg (Km I (Km I (Km I (Fv ?_)))))); refine Ng I I (st I I I .tc (by kernel_rfl) I ?_ (by (simp only [Av, Aw]; rfl))) ?_
    ·(simp <;> omega)
    intro _; refine Nt (Cg (Km I (Km I (Km I (Kq I (Ia I I I u39 (by kernel_rfl : _ = some 2) (by omega) (by (rw [aj _ _ 2 (fun _ => rfl)]; omega))) ?_))))); (refine Kq I (faf I I u37 I (by kernel_rfl) (by (try simp only [sN, Int.reduceToNat, Nat.reduceAdd, Nat.reduceMul, Nat.reduceSub]); rfl)) ?_); refine Kq I (lE (sz := 2) _ 1 I I u22 I (fun _ => rfl) I (by assumption) (by decide) I) ?_; refine Kc I (fun w hS => nJ (a := (es.getD i default).2)) (Ns 71 I (v' := .int .i64 ((aF (es.getD i default).2 : Nat) : Int)) (congrArg (Value.int .i64) (by rw [Ab hz.1])) ?_); refine Kq I (gF I I I) (Ns 72 I (v' := .int .i64 ((max most (aF (es.getD i default).2) : Nat) : Int)) (congrArg (Value.int .i64) (by omega)) (Ka I (Nn (Xd (Xa (Cg (Kq I (Rz I I I (by omega)) (Km I (Nn (Lx ((i + 1, max most (aF (es.getD i default).2))) (by (try dsimp only); omega) (S5 I I I I I) (by refine (Sc ?_ (Sc ?_ (S0 _))) <;> (rfl)) ?_ (by exact fun w h => by rw [← lO B' i l.length (by omega) hil, hB2]; (try rw [List.set_set] at h); exact h))))))))))); (try dsimp only); exact ⟨hil, by omega, az hiZ (fun p hp => Br (hbt p hp) (Nat.le_max_left _ _)) (by rw [hZi]; exact Nat.le_max_right _ _)⟩
   ·have hB2 : B'.getD i default = l.getD i default := by rw [hBi]; exact Aa (by simpa using hc50)
    refine Ck (Xa (Cg (Km I (Km I (Km I (Kq I (Ia I I I u39 (by kernel_rfl : _ = some 2) (by omega) (by (rw [aj _ _ 2 (fun _ => rfl)]; omega))) ?_)))))); (refine Kq I (faf I I u37 I (by kernel_rfl) (by (try simp only [sN, Int.reduceToNat, Nat.reduceAdd, Nat.reduceMul, Nat.reduceSub]); rfl)) ?_); refine Kq I (lE (sz := 2) _ 1 I I u22 I (fun _ => rfl) I (by assumption) (by decide) I) ?_; refine Kc I (fun w hS => nJ (a := (es.getD i default).2)) (Ns 71 I (v' := .int .i64 ((aF (es.getD i default).2 : Nat) : Int)) (congrArg (Value.int .i64) (by rw [Ab hz.1])) ?_); refine Kq I (gF I I I) (Ns 72 I (v' := .int .i64 ((max most (aF (es.getD i default).2) : Nat) : Int)) (congrArg (Value.int .i64) (by omega)) (Ka I (Nn (Xd (Xa (Cg (Kq I (Rz I I I (by omega)) (Km I (Nn (Lx ((i + 1, max most (aF (es.getD i default).2))) (by (try dsimp only); omega) (S5 I I I I I) (by refine (Sc ?_ (Sc ?_ (S0 _))) <;> (rfl)) ?_ (by exact fun w h => by rw [← lO B' i l.length (by omega) hil, hB2]; (try rw [List.set_set] at h); exact h))))))))))); (try dsimp only); exact ⟨hil, by omega, az hiZ (fun p hp => Br (hbt p hp) (Nat.le_max_left _ _)) (by rw [hZi]; exact Nat.le_max_right _ _)⟩
  ·refine AT ?_; obtain rfl : i = l.length := by omega
   rw [C0, List.replicate_zero, Bl, A8 (Nat.le_of_eq hBl)]; rw [A8 (Nat.le_of_eq hZl)] at hbt
   have hBk : ∀ k, k < l.length → okN (B'.getD k default) ∧ (B'.getD k default).length ≤ 8 := fun k hk => by
    have hx := hel _ (ap l k hk); rw [hB', gJ _ _ _ (by omega), hZ, iP hk (by omega), bsB]; split
    ·exact no (qH _ hp) hm8
    ·exact ⟨hx.1, xL hx hm8⟩
   obtain ⟨PP, hPP⟩ : ∃ PP, PP = rN (val g.1) Z := ⟨_, rfl⟩; have hPl : PP.length = l.length := by rw [hPP, rN, Ag, hZl]
   have hPk : ∀ k, k < l.length → PP.getD k default = (val (B'.getD k default), val (es.getD k default).2) := fun k hk => by
    rw [hPP, hB', gJ _ _ _ (by omega), rN, gJ _ _ _ (by omega), hZ, iP hk (by omega)]
   have hst := rM (m := val g.1) hbt; rw [← hPP] at hst; have hend := w3 (m := val g.1) (l := Z) (fun q hq => by rw [hZ] at hq; exact hokz _ (List.of_mem_zip hq).2); rw [← hPP] at hend; have hmk : ∀ k, okN (ae (k % val g.1)) ∧ (ae (k % val g.1)).length ≤ 8 := fun k => no (Ak _ hp) hm8
   refine Xa (Cs (Kc I (fun w hS => f8 (n := 1) (by omega)) (ET ?_))); intro b15; refine Ng I I (st I I I .tc (by kernel_rfl) I ?_ (by (simp only [Av, Aw]; rfl))) ?_
   ·decide
   intro _; refine Nt (Cs (Kq I (cW I I I) (DR ?_))); refine FG ?_; refine Ka I (Nt (Cb (Lo (σ := Nat × Int × Bs) [(2, _), (9, _), (15, _), (16, _)] (fun gq => [(17, .int .i64 gq.2.1)]) (fun gq => gq.1 ≤ most ∧ gq.2.1 = (gq.1 : Int) - 1 ∧ gq.2.2 = ae (aD (ej gq.1) PP % val g.1)) (fun gq => gq.1) (fun gq => [⟨some b15, [.string (S gq.2.2)], 22⟩, ⟨some b34, an B', 22⟩, ⟨some b3, [.string (S g.1), .string (S g.2)], 26⟩]) (fun gq => [Fact.sl b (aZ es)]) (most, (most : Int) - 1, ae 1) (S4 I I I I) (S1 I) (by (try dsimp only); exact ⟨Bd _, rfl, by rw [hst, Ah (by omega)]⟩) (by (exact au)) ?_))); rintro ⟨n, j, out⟩ hinv2; (try dsimp only at hinv2 ⊢); obtain ⟨hn, hj, hout⟩ := hinv2; refine Cq (Cs (Km I (E7 (fun hc79 => ?_) (fun hc79 => ?_))))
   ·obtain ⟨n', rfl⟩ : ∃ n', n = n' + 1 := ⟨n - 1, by omega⟩; refine WC.set 17 I (v' := .int .i64 ((n' : Nat) : Int)) (by rw [hj]; congr 1; omega) ?_; subst hout; obtain ⟨Q, hQ⟩ : ∃ Q, Q = aD (ej (n' + 1)) PP % val g.1 * (aD (ej (n' + 1)) PP % val g.1) % val g.1 := ⟨_, rfl⟩; have hQ0 : val (ae (aD (ej (n' + 1)) PP % val g.1)) * val (ae (aD (ej (n' + 1)) PP % val g.1)) % val g.1 = Q := by rw [af, hQ]
    refine El ?_; refine Em ?_; refine Kh I (aN I I I (by kernel_rfl) I (ns fun w hS => n8 (p := b15) (q := b3) (out := ae (aD (ej (n' + 1)) PP % val g.1)) (x := ae (aD (ej (n' + 1)) PP % val g.1)) (g := g) hS (by exact (hmk _).1) (by exact (hmk _).2) (by exact (hmk _).1) (by exact (hmk _).2) (by exact hm) (by exact hm0) (by exact hm8))) ?_; intro _; refine Nt (Cs (Km I (FW ?_))); refine Lo (σ := Nat × Bs) [(2, _), (9, _), (15, _), (16, _), (17, _), (85, _), (86, _)] (fun gq => [(87, .int .i64 (gq.1 : Int))]) (fun gq => gq.1 ≤ l.length ∧ gq.2 = ae (Q * aD (rC n') (PP.take gq.1) % val g.1)) (fun gq => l.length - gq.1) (fun gq => [⟨some b15, [.string (S gq.2)], 22⟩, ⟨some b34, an B', 22⟩, ⟨some b3, [.string (S g.1), .string (S g.2)], 26⟩]) (fun gq => [Fact.sl b (aZ es)]) (0, ae Q) (S7 I I I I I I I) (S1 I) (by (try dsimp only); exact ⟨Ai _, by rw [Dx, aD, A0, hQ, Nat.mod_mod]⟩) (by exact fun w h => by rw [hQ0] at h; exact h) ?_; rintro ⟨k, o⟩ hinv3; (try dsimp only at hinv3 ⊢); obtain ⟨hk, ho⟩ := hinv3; refine DP (fun hc88 => ?_) (fun hc88 => ?_)
    ·have hkl : k < l.length := by omega
     have hz := hokz _ (ap es k (by omega)); subst ho; have hsu := kS (rC n') PP k (by omega); rw [hPk k hkl, rC] at hsu; refine El ?_; refine Fv ?_; refine Kq I (ld I I .tc u22 I (f9 B' _ k (by omega))) ?_; refine Ka I (DT ?_); refine Km I (DX ?_); (refine Kq I (faf I I u37 I (by kernel_rfl) (by (try simp only [sN, Int.reduceToNat, Nat.reduceAdd, Nat.reduceMul, Nat.reduceSub]); rfl)) ?_); refine Kq I (lE (sz := 2) _ 1 I I u22 I (fun _ => rfl) I (by omega) (by decide) I) ?_; refine Km I (Kc I (fun w hS => nK (a := (es.getD k default).2) (i := n') (by omega)) (Nt (Ci I (fun hc98 => ?_) (fun hc98 => ?_))))
     ·have hd : val (es.getD k default).2 / 2 ^ n' % 2 = 1 := by rw [bR hz.1, gp] at hc98; simpa using hc98
      rw [Ab hd] at hsu; refine Cg (Km I (Km I (Kh I (aN I I I (by kernel_rfl) I (ns fun w hS => n8 (p := b15) (q := b3) (out := ae (Q * aD (rC n') (PP.take k) % val g.1)) (x := B'.getD k default) (g := g) hS (by exact (hmk _).1) (by exact (hmk _).2) (by exact (hBk _ hkl).1) (by exact (hBk _ hkl).2) (by exact hm) (by exact hm0) (by exact hm8))) ?_))); intro _; refine Nn (Xd (Xa (Cg (Kq I (Rz I I I (by omega)) (Km I (Nn (Lx ((k + 1, ae (Q * aD (rC n') (PP.take (k + 1)) % val g.1))) (by (try dsimp only); omega) (S7 I I I I I I I) (by refine (Sc ?_ (S0 _)) <;> (rfl)) ?_ (by exact fun w h => by rw [hsu, ← Au, ← mml (Q * _)]; rw [af] at h; exact h)))))))); (try dsimp only); exact ⟨hkl, rfl⟩
     ·have hd : ¬ val (es.getD k default).2 / 2 ^ n' % 2 = 1 := by rw [bR hz.1, gp] at hc98; simpa using hc98
      rw [Aa hd, A0] at hsu; refine Ck (Xd (Xa (Cg (Kq I (Rz I I I (by omega)) (Km I (Nn (Lx ((k + 1, ae (Q * aD (rC n') (PP.take (k + 1)) % val g.1))) (by (try dsimp only); omega) (S7 I I I I I I I) (by refine (Sc ?_ (S0 _)) <;> (rfl)) ?_ (by exact fun w h => by rw [hsu]; exact h)))))))); (try dsimp only); exact ⟨hkl, rfl⟩
    ·refine AT ?_; obtain rfl : k = l.length := by omega
     rw [A8 (Nat.le_of_eq hPl)] at ho; refine Xd (Xa (Cg (Km I (Kq I (aJ I I I (by omega)) (Ka I (Nn (Lx ((n', (n' : Int) - 1, o)) (by (try dsimp only); omega) (S4 I I I I) (by refine (Sc ?_ (S0 _)) <;> (rfl)) ?_ (fun _ h => h)))))))); (try dsimp only); exact ⟨by omega, rfl, by rw [ho, hQ]; exact congrArg ae (ua _ _ _)⟩
   ·refine AT ?_; obtain rfl : n = 0 := by omega
    rw [hend] at hout; refine Xa (Cs (Em ?_)); refine Ka I (to ?_); exact R2 I I I (by rw [hr, ← hout]; rfl)
theorem sj {s : Bs} (h : s ≠ []) : (s.getD (s.length - 1) default).toNat % 2 = val s % 2 := by
 have hl := C8.2 h
 have := jd s 0 hl
 rw [B1, Dj, Ch] at this
 omega
theorem uW {s : Bs} (h : okN s) : s = [1] ↔ val s = 1 := by
 rw [← fc, bB h]
theorem uX {s : Bs} (h : okN s) : s = [] ↔ val s = 0 := (aM h.2).symm
theorem gA {g : Gp} {w : World} :
  Cw 71 #[gV g] w (.int .i64 (aU g)) := by
 have hB8 : 8 < Big := Ay (by decide) fg
 refine En [] [(0, gV g)] Tryz.func71 I Tryz.ntmps71 I (Ac I (An _)) Fn (DO ?_)
 intro b1
 refine Ka I (Nt (Cq (WC.joinP (σ := Unit) [(1, _)] (fun gq => [(14, .bool (decide (¬ (okN g.1 ∧ okN g.2))))]) (fun gq => True) (S1 I) ?_ ?_)))
 ·skip
  refine Cg (ED ?_)
  refine Kc I (fun w hS => ar (a := g.1)) (Yt I (Km I (Nc 9 I (fun hg9 => ?_) (fun hg9 => ?_))))
  ·refine T4 I (Yp I (Nn (WX.joinP (()) (S1 I) (by refine (Sc ?_ (S0 _)) <;> ((refine ai rfl ?_; (try dsimp only); (simp [*]; done)))) ?_ (fun _ h => h)))); (try dsimp only); done
  ·refine Kf 1 I u26 I I I .tc u22 ?_; refine Kc I (fun w hS => ar (a := g.2)) (Yt I (Yq I (Nn (WX.joinP (()) (S1 I) (by refine (Sc ?_ (S0 _)) <;> ((refine ai rfl ?_; (try dsimp only); (simp [*]; done)))) ?_ (fun _ h => h))))); (try dsimp only); done
 ·rintro _ hmeet; (try dsimp only at hmeet ⊢)
  refine Ci I (fun hc14 => ?_) (fun hc14 => ?_)
  ·have hr : aU g = 3 := by rw [aU, Aa hc14]
   refine Cs (ne ?_); exact Gz
  ·have hok : okN g.1 ∧ okN g.2 := by simpa using hc14
   have hb1 := aK hok.1; have hb2 := aK hok.2; have hv2 : val g.2 = 0 ↔ g.2 = [] := aM hok.2.2; have hl1 := hok.1.1; refine Gg ?_; refine EE ?_; refine Fu (fun hc17 => ?_) (fun hc17 => ?_)
   ·have hq : g.2 = [] := by simpa using hc17
    have hlp : val g.1 = 0 ∨ 0 < g.1.length := by
     by_cases h : g.1 = []
     ·exact .inl (by rw [h]; rfl)
     ·exact .inr (C8.2 h)
    have hlm : val g.1 = 0 ∨ (g.1.getD (g.1.length - 1) default).toNat % 2 = val g.1 % 2 := by
     by_cases h : g.1 = []
     ·exact .inl (by rw [h]; rfl)
     ·exact .inr (sj h)
    refine Cq (WC.joinP (σ := Unit) [] (fun gq => [(37, .bool (decide (¬ (val g.1 % 2 = 1 ∧ 8 < val g.1))))]) (fun gq => True) (S0 _) ?_ ?_)
    ·skip
     refine Cg (ED ?_); refine Ys I (Ns 20 I (v' := .bool (decide (val g.1 = 0))) (congrArg Value.bool (by exact Af.2 (by rw [← uX hok.1]))) ?_); refine Km I (Nc 21 I (fun hg21 => ?_) (fun hg21 => ?_))
     ·refine T4 I (T4 I (Kt I (Yp I (Km I (T4 I (Yp I (Nn (WX.joinP (()) (S0 _) (by refine (Sc ?_ (S0 _)) <;> ((refine ai rfl ?_; (try dsimp only); (simp [*]; done)))) ?_ (fun _ h => h))))))))); (try dsimp only); done
     ·refine ED ?_; refine ED ?_; refine Yn I u22 (Kq I (av I I I (by omega)) ?_); refine Kq I (bo I I I u22 ?_) ?_
      ·omega
      refine Kq I (ql I I I (by decide)) (Yi I (Ns 30 I (v' := .bool (decide (val g.1 % 2 = 0))) (congrArg Value.bool (by exact Af.2 (by rw [At]; omega))) ?_)); refine Yq I (Km I (Nc 32 I (fun hg32 => ?_) (fun hg32 => ?_)))
      ·refine T4 I (Yp I (Nn (WX.joinP (()) (S0 _) (by refine (Sc ?_ (S0 _)) <;> ((refine ai rfl ?_; (try dsimp only); (simp [*]; done)))) ?_ (fun _ h => h)))); (try dsimp only); done
      ·refine Kf 0 I u26 I I I .tc u22 ?_; refine Kc I (fun w hS => dH (a := g.1) (b := [8]) (by exact hok.1.2) (by decide) (by omega)) (Ym I (Ns 36 I (v' := .bool (decide (val g.1 ≤ 8))) (congrArg Value.bool (by exact Af.2 (fG _ _))) ?_)); refine Yq I (Nn (WX.joinP (()) (S0 _) (by refine (Sc ?_ (S0 _)) <;> ((refine ai rfl ?_; (try dsimp only); (exact Af.2 (by omega))))) ?_ (fun _ h => h))); (try dsimp only); done
    ·rintro _ hmeet; (try dsimp only at hmeet ⊢); refine Ci I (fun hc37 => ?_) (fun hc37 => ?_)
     ·have hr : aU g = 13 := by rw [aU, Ab hok, Ab hq, Aa hc37]
      refine Cs (ne ?_); refine Xb ?_; exact Gz
     ·have hr : aU g = 0 := by rw [aU, Ab hok, Ab hq, Ab (by simpa using hc37)]
      refine Ck (Xa (Cs (ne ?_))); exact Gz
   ·have hq : g.2 ≠ [] := by simpa using hc17
    have hqp : 0 < val g.2 := by rcases B0 (val g.2) with h | h; exact absurd (hv2.1 h) hq; exact h
    refine Ck (Xa (Cq (WC.joinP (σ := Unit) [(1, _)] (fun gq => [(50, .bool (decide (val g.1 ≤ 1 ∨ val g.2 < 2)))]) (fun gq => True) (S1 I) ?_ ?_)))
    ·skip
     refine Cg (ED ?_); refine Ys I (Ns 40 I (v' := .bool (decide (val g.1 = 0))) (congrArg Value.bool (by exact Af.2 (by rw [← uX hok.1]))) ?_); refine Km I (Nc 41 I (fun hg41 => ?_) (fun hg41 => ?_))
     ·refine T2 I (Kt I (Yp I (Km I (T2 I (Kt I (Yp I (Nn (WX.joinP (()) (S1 I) (by refine (Sc ?_ (S0 _)) <;> ((refine ai rfl ?_; (try dsimp only); (simp [*]; done)))) ?_ (fun _ h => h))))))))); (try dsimp only); done
     ·refine ED ?_; refine Ys I (Ns 44 I (v' := .bool (decide (val g.1 = 1))) (congrArg Value.bool (by exact Af.2 (by rw [← uW hok.1]))) ?_); refine Yq I (Km I (Nc 46 I (fun hg46 => ?_) (fun hg46 => ?_)))
      ·refine T2 I (Kt I (Yp I (Nn (WX.joinP (()) (S1 I) (by refine (Sc ?_ (S0 _)) <;> ((refine ai rfl ?_; (try dsimp only); (simp [*]; done)))) ?_ (fun _ h => h))))); (try dsimp only); done
      ·refine Kf 1 I u26 I I I .tc u22 ?_; refine Ys I (Ns 49 I (v' := .bool (decide (val g.2 = 1))) (congrArg Value.bool (by exact Af.2 (by rw [← uW hok.2]))) ?_); refine Yq I (Nn (WX.joinP (()) (S1 I) (by refine (Sc ?_ (S0 _)) <;> ((refine ai rfl ?_; (try dsimp only); (exact Af.2 (by omega))))) ?_ (fun _ h => h))); (try dsimp only); done
    ·rintro _ hmeet; (try dsimp only at hmeet ⊢); refine Ci I (fun hc50 => ?_) (fun hc50 => ?_)
     ·have hr : aU g = 13 := by rw [aU, Ab hok, Aa hq, Ab (by omega)]
      refine Cs (ne ?_); exact Gz
     ·refine Ck (Xa (Cq (Cq (Cf [0, 1, 2, 3, 4, 5, 6, 7, 8, 9, 10] [] [0, 0, 1, 0, 0, 1, 0, 0, 0, 0, 0] (by kernel_rfl) (by kernel_rfl) I ?_)))); refine Fs ?_; refine DY ?_; refine Jv I I I I I (fun ext => Oc I I (Kv fun w hS => j5 (a := g.1) (b := [1]) (by show 1 ≤ val g.1; omega) (by omega) (by decide))) ?_; refine WJ.set 54 I (v' := .string (S (ae (val g.1 - 1)))) (congrArg (fun l => Value.string (S l)) (by rfl)) ?_; refine Kj I (Fa (q := 1) I I u26 I I) (DY ?_); refine Jv I I I I I (fun ext => Oc I I (Kv fun w hS => jX (a := ae (val g.1 - 1)) (b := g.2) (by exact aq (by omega)) (by exact hok.2) (by exact hq))) ?_; refine ER ?_; refine EM ?_; refine WJ.nil ?_; refine Nt (Cs (Km I (Yr I (Ns 61 I (v' := .bool (decide ((val g.1 - 1) % val g.2 ≠ 0))) (congrArg Value.bool (by simp [aT, af])) ?_)))); refine Nt (Ci I (fun hc61 => ?_) (fun hc61 => ?_))
      ·have hr : aU g = 13 := by rw [aU, Ab hok, Aa hq, Ab (Or.inr (Or.inr hc61))]
       refine Cs (ne ?_); exact Gz
      ·have hr : aU g = 0 := by rw [aU, Ab hok, Aa hq, Aa (fun h => by rcases h with h | h | h; omega; omega; exact hc61 h)]
       refine Ck (Xa (Cs (to ?_))); exact Gz
theorem iq {g : Gp} {x : Bs} {w : World} (hg : aU g = 0) (hx : okN x) (hm8 : g.1.length ≤ 8) :
  Cw 72 #[gV g, .string (S x)] w (.bool (decide (elG g x))) := by
 obtain ⟨hm, hqk, h2, _⟩ := cq hg
 have hl := hm.1
 refine En [] [(0, gV g), (1, .string (S x))] Tryz.func72 I Tryz.ntmps72 I (Ac I (Ac I (An _))) Fn (DO ?_)
 intro b2
 refine Ka I (Nt (Cq (Cs (EE ?_))))
 refine Yr I (Nt (Ci I (fun hc7 => ?_) (fun hc7 => ?_)))
 ·have hq : g.2 ≠ [] := by simpa using hc7
  have hr := yr (x := x) hg hq
  refine Cs (Kq I (lda I I .tc u26 I ?_) ?_)
  ·kernel_rfl
  refine Km I (Kc I (fun w hS => qh (g := g) (x := x) (by assumption)) (ne ?_))
  exact R1 I I (by simp only [hr]; rfl)
 ·have hq : g.2 = [] := by simpa using hc7
  have hr : elG g x ↔ x ≠ [] ∧ val x < val g.1 ∧ Nat.gcd (val x) (val g.1) = 1 := by
   rw [elG, Ab hq]; exact ⟨fun h => h.2, fun h => ⟨hx, h⟩⟩
  refine FN ?_; refine Yr I (Km I (Nc 13 I (fun hg13 => ?_) (fun hg13 => ?_)))
  ·refine Km I (ED ?_); refine Kc I (fun w hS => dH (a := x) (b := g.1) (by exact hx.2) (by exact hm.2) (by have := hx.1; omega)) (Yl I (Ns 18 I (v' := .bool (decide (val x < val g.1))) (congrArg Value.bool (by exact Af.2 (ax _ _))) ?_)); refine Yp I (Km I (Nc 20 I (fun hg20 => ?_) (fun hg20 => ?_)))
   ·refine Km I (ED ?_); refine Kc I (fun w hS => lU (a := x) (b := g.1) (by exact hx) (by exact hm)) (Ys I (Ns 25 I (v' := .bool (decide (Nat.gcd (val x) (val g.1) = 1))) (congrArg Value.bool (by simp [fc])) ?_)); refine Yp I (to ?_); exact GJ
   ·refine T4 I (Kt I (Yq I (to ?_))); exact GJ
  ·refine T4 I (Kt I (Yq I (Km I (T4 I (Kt I (Yq I (to ?_))))))); exact GJ
theorem qj {g : Gp} {x : Bs} {w : World} (hm8 : g.1.length ≤ 8) :
  Cw 50 #[gV g, .string (S x)] w (.bool (decide (aU g = 0 ∧ elG g x))) := by
 refine En [] [(0, gV g), (1, .string (S x))] Tryz.func50 I Tryz.ntmps50 I (Ac I (Ac I (An _))) Fn (DO ?_)
 intro b2
 refine Ka I (Nt (Cs (Kq I (lda I I .tc u26 I ?_) ?_)))
 ·kernel_rfl
 refine Kc I (fun w hS => gA (g := g)) (Yi I (Km I (Nc 8 I (fun hg8 => ?_) (fun hg8 => ?_))))
 ·refine Km I (Kc I (fun w hS => ar (a := x)) (Yp I (Km I (Nc 12 I (fun hg12 => ?_) (fun hg12 => ?_)))))
  ·refine Kq I (lda I I .tc u26 I ?_) ?_
   ·kernel_rfl
   refine Km I (Kc I (fun w hS => iq (g := g) (x := x) (by assumption) (by assumption) (by assumption)) (Yp I (to ?_))); exact R1 I I (by (simp [*, tup, elG]; done))
  ·refine T2 I (Kt I (Yq I (to ?_))); exact R1 I I (by (simp [*, tup, elG]; done))
 ·refine T2 I (Yq I (Km I (T2 I (Kt I (Yq I (to ?_))))))
  exact R1 I I (by (simp [*, tup, elG]; done))
abbrev PK := Gp × Bs × Bs
abbrev Opn := Zs × Zs
def okK (k : PK) : Prop := okN k.1.1 ∧ okN k.1.2 ∧ okN k.2.1 ∧ okN k.2.2
instance (k : PK) : Decidable (okK k) := inferInstanceAs (Decidable (_ ∧ _))
def elK (k : PK) : Prop := elG k.1 k.2.1 ∧ elG k.1 k.2.2 ∧ k.2.1 ≠ ae 1 ∧ k.2.2 ≠ ae 1 ∧ k.2.1 ≠ k.2.2
instance (k : PK) : Decidable (elK k) := inferInstanceAs (Decidable (_ ∧ _))
def ps12 : List Nat := [2, 3, 5, 7, 11, 13, 17, 19, 23, 29, 31, 37]
def tdiv (n : Nat) : List Nat → Option Bool
 | [] => none
 | p :: ps => if n % p = 0 then some (decide (n = p)) else tdiv n ps
def sqs (n : Nat) : Nat → Nat → Bool
 | 0, _ => false
 | s + 1, x => if x = n - 1 then true else sqs n s (x * x % n)
def tr (n a s d : Nat) : Bool := decide (a ^ d % n = 1) || sqs n s (a ^ d % n)
def tzA : Nat → Nat → Nat
 | 0, _ => 0
 | f + 1, n => if n % 2 = 0 then tzA f (n / 2) + 1 else 0
def tz (n : Nat) : Nat := tzA 64 n
theorem nP : ∀ (f n : Nat), 0 < n → n < 2 ^ f → n = n / 2 ^ tzA f n * 2 ^ tzA f n ∧ n / 2 ^ tzA f n % 2 = 1
 | 0, n, h0, h => by omega
 | f + 1, n, h0, h => by
  rw [tzA]
  split
  ·rename_i h1; obtain ⟨h2, h3⟩ := nP f (n / 2) (by omega) (by rw [As] at h; omega); rw [As, Aj (2 ^ _) 2, ← A4]; refine ⟨?_, h3⟩; rw [Aj 2, ← Au, ← h2]; omega
  ·rename_i h1; rw [B1, Dj, A0]; exact ⟨rfl, by omega⟩
theorem qv : ∀ (s t d e : Nat), d % 2 = 1 → e % 2 = 1 → d * 2 ^ s = e * 2 ^ t → s = t ∧ d = e
 | 0, 0, d, e, _, _, h => ⟨rfl, by simpa using h⟩
 | 0, t + 1, d, e, h1, _, h => by exfalso; rw [B1, A0, As, ← Au] at h; omega
 | s + 1, 0, d, e, _, h2, h => by exfalso; rw [B1, A0, As, ← Au] at h; omega
 | s + 1, t + 1, d, e, h1, h2, h => by
  rw [As, As, ← Au, ← Au] at h
  obtain ⟨h3, h4⟩ := qv s t d e h1 h2 (by omega)
  exact ⟨by omega, h4⟩
def isP (n : Nat) : Bool := if n < 2 then false else match tdiv n ps12 with
 | some b => b
 | none => ps12.all fun a => tr n a (tz (n - 1)) ((n - 1) / 2 ^ tz (n - 1))
theorem n9 {x a e m : Nat} (h : e % 2 = 1) (he : 0 < e) : x * a % m * (a * a % m) ^ (e / 2) % m = x * a ^ e % m := by
 have e1 : e = 2 * (e / 2) + 1 := by omega
 rw [mml, C5, ee, ← C5]
 conv => rhs; rw [e1]
 rw [As, Du, Nat.pow_two, Au, Aj a]
theorem oa {x a e m : Nat} (h : ¬ e % 2 = 1) : x * (a * a % m) ^ (e / 2) % m = x * a ^ e % m := by
 have e1 : e = 2 * (e / 2) := by omega
 rw [C5, ee, ← C5]
 conv => rhs; rw [e1]
 rw [Du, Nat.pow_two]
def pk (k : Nat) : Nat := ps12.getD k 1
abbrev vU (n : Nat) : Value := .int .u64 (n : Int)
theorem zd : ∀ {k : Nat}, k < 12 → ps12[k]? = some (pk k) := fun {k} h => by
 rw [pk, List.getD_eq_getElem?_getD, Ad (show k < ps12.length from h)]; rfl
theorem m9 {k : Nat} (h : k < 12) : (ps12.map vU)[k]? = some (vU (pk k)) := by rw [A6, zd h]; rfl
theorem qo : ∀ {k : Nat}, k < 12 → 2 ≤ pk k ∧ pk k ≤ 37 := fun {k} h => by
 have : ∀ k : Fin 12, 2 ≤ pk k ∧ pk k ≤ 37 := by decide
 exact this ⟨k, h⟩
theorem qm {k : Nat} (h : k < 12) : ps12.drop k = pk k :: ps12.drop (k + 1) := by
 have : ∀ k : Fin 12, ps12.drop k = pk k :: ps12.drop (k + 1) := by decide
 exact this ⟨k, h⟩
theorem lM (n : Nat) {k : Nat} (h : k < 12) : tdiv n (ps12.drop k) = if n % pk k = 0 then some (decide (n = pk k)) else tdiv n (ps12.drop (k + 1)) := by
 rw [qm h, tdiv]
theorem oM (f : Nat → Bool) {k : Nat} (h : k < 12) : (ps12.drop k).all f = (f (pk k) && (ps12.drop (k + 1)).all f) := by
 rw [qm h, List.all_cons]
theorem k5 {n : Nat} {b : Bool} (h2 : ¬ n < 2) (h : tdiv n ps12 = some b) : isP n = b := by rw [isP, Aa h2, h]
def stN (n a : Nat) : Bool := tr n a (tz (n - 1)) ((n - 1) / 2 ^ tz (n - 1))
theorem iO {n : Nat} (h2 : ¬ n < 2) (h : tdiv n ps12 = none) : isP n = ps12.all (stN n) := by rw [isP, Aa h2, h]; rfl
theorem je : ∀ {n : Nat} {l : List Nat}, tdiv n l = none → ∀ p ∈ l, n % p ≠ 0
 | _, [], _, _, h => by cases h
 | n, q :: l, h, p, hp => by
  rw [tdiv] at h
  split at h
  ·cases h
  ·rename_i hq
   rcases A7.1 hp with rfl | h2
   ·exact hq
   ·exact je h p h2
theorem vX {n : Nat} (h0 : 0 < n) (h : n < 18446744073709551616) : n = n / 2 ^ tz n * 2 ^ tz n ∧ n / 2 ^ tz n % 2 = 1 := nP 64 n h0 h
theorem te : ∀ (f n : Nat), tzA f n ≤ f
 | 0, _ => Bd _
 | f + 1, n => by rw [tzA]; split <;> have := te f (n / 2) <;> omega
theorem AF (n : Nat) : tz n ≤ 64 := te 64 n
theorem yF {n : Nat} (h : n % 2 = 0) : 1 ≤ tz n := by rw [tz, tzA, Ab h]; omega
theorem vW {n s d : Nat} (h0 : 0 < n) (h : n < 18446744073709551616) (hd : d % 2 = 1) (he : d * 2 ^ s = n) : s = tz n ∧ d = n / 2 ^ tz n := by
 obtain ⟨h1, h2⟩ := vX h0 h
 exact qv s (tz n) d (n / 2 ^ tz n) hd h2 (he.trans h1)
theorem mO {n s x : Nat} (hs : 0 < s) (h : x = n - 1) : sqs n s x = true := by
 obtain ⟨s, rfl⟩ : ∃ t, s = t + 1 := ⟨s - 1, by omega⟩
 rw [sqs, Ab h]
theorem ku {n s x : Nat} (hs : 0 < s) (h : x ≠ n - 1) : sqs n s x = sqs n (s - 1) (x * x % n) := by
 obtain ⟨s, rfl⟩ : ∃ t, s = t + 1 := ⟨s - 1, by omega⟩
 rw [sqs, Aa h]; rfl
theorem tk {n : Nat} (h2 : ¬ n < 2) (h : tdiv n ps12 = none) : 37 < n := Nat.lt_of_not_le fun h1 => by
 have : ∀ m : Fin 38, 2 ≤ m.val → tdiv m.val ps12 ≠ none := by decide
 exact this ⟨n, by omega⟩ (by show 2 ≤ n; omega) h
structure IK where
 name : Bs
 g : Gp
 z : Bs
 s : Bs
 r : List Bs
 u : Bs
 h : Bs
abbrev ikV (k : IK) (r : Value) : Value := .agg #[.string (S k.name), .string (S k.g.1), .string (S k.g.2), .string (S k.z), .string (S k.s), r, .string (S k.u), .string (S k.h)]
structure PR where
 ch : Bs
 sl : Bs
 mn : PK
 wh : PK
 sec : Bs
 attr : Bs
 han : Bs
 lo : Bs
 sz : Bs
 bl : Bs
 msk : Bs
abbrev prC (p : PR) : List Value := [.string (S p.ch), .string (S p.sl), .string (S p.mn.1.1), .string (S p.mn.1.2), .string (S p.mn.2.1), .string (S p.mn.2.2), .string (S p.wh.1.1), .string (S p.wh.1.2), .string (S p.wh.2.1), .string (S p.wh.2.2), .string (S p.sec), .string (S p.attr), .string (S p.han), .string (S p.lo), .string (S p.sz), .string (S p.bl), .string (S p.msk)]
abbrev prV (p : PR) : Value := .agg #[.string (S p.ch), .string (S p.sl), .string (S p.mn.1.1), .string (S p.mn.1.2), .string (S p.mn.2.1), .string (S p.mn.2.2), .string (S p.wh.1.1), .string (S p.wh.1.2), .string (S p.wh.2.1), .string (S p.wh.2.2), .string (S p.sec), .string (S p.attr), .string (S p.han), .string (S p.lo), .string (S p.sz), .string (S p.bl), .string (S p.msk)]
abbrev ft (p : PR) : List Bs := [p.ch, p.sl, p.sec, p.attr, p.han, p.lo, p.sz, p.bl, p.msk]
def okR (p : PR) : Prop := (∀ x ∈ ft p, okN x) ∧ okK p.mn ∧ okK p.wh
instance (p : PR) : Decidable (okR p) := inferInstanceAs (Decidable (_ ∧ _))
def a6 (g : Gp) : Int :=
 if ¬ (okN g.1 ∧ okN g.2) then 3 else if 8 < g.1.length then 5 else if isP (val g.1) = false then 12 else if 8 < g.2.length then 13
 else if isP (val g.2) = false then 12 else if (val g.1 - 1) % val g.2 ≠ 0 then 13 else 0
def jp (g : Gp) (x : Bs) : Prop := jS g x ∧ x ≠ ae 1
instance (g : Gp) (x : Bs) : Decidable (jp g x) := inferInstanceAs (Decidable (_ ∧ _))
def dR (g : Gp) (x : Bs) : Prop := jR g x ∧ x ≠ ae 1
instance (g : Gp) (x : Bs) : Decidable (dR g x) := inferInstanceAs (Decidable (_ ∧ _))
def ny (p : PR) : Prop := a6 p.mn.1 = 0 ∧ jp p.mn.1 p.mn.2.1 ∧ jp p.mn.1 p.mn.2.2 ∧ dR p.wh.1 p.wh.2.1 ∧ dR p.wh.1 p.wh.2.2
instance (p : PR) : Decidable (ny p) := inferInstanceAs (Decidable (_ ∧ _))
def mR (p : PR) : Prop := (∀ x ∈ ft p, 2 ≤ val x) ∧ 8 * val p.attr ≤ val p.mn.1.2 ∧ val p.ch ≤ val p.mn.1.2 ∧ val p.sec ≤ val p.mn.1.2
instance (p : PR) : Decidable (mR p) := inferInstanceAs (Decidable (_ ∧ _))
def cr (p : PR) : Int := if ¬ okR p then 3 else if ¬ ny p then 13 else if ¬ mR p then 2 else 0
def szV (p : PR) : Nat := 2 * val p.bl + (val p.lo + val p.sz) * val p.msk
def szH (p : PR) : Nat := val p.han * val p.msk
def jN (p : PR) : (Bs × Bs) × Int := if cr p ≠ 0 then (([], []), cr p) else if szV p < Big ∧ szH p < Big then ((ae (szV p), ae (szH p)), 0) else (([], []), 5)
def AZ (c : UInt8) : Prop := (97 ≤ c.toNat ∧ c.toNat ≤ 122) ∨ (65 ≤ c.toNat ∧ c.toNat ≤ 90)
instance (c : UInt8) : Decidable (AZ c) := inferInstanceAs (Decidable (_ ∨ _))
def BS (c : UInt8) : Prop := c.toNat = 95 ∨ (48 ≤ c.toNat ∧ c.toNat ≤ 57)
instance (c : UInt8) : Decidable (BS c) := inferInstanceAs (Decidable (_ ∨ _))
def nmB (i : Nat) (c : UInt8) : Prop := AZ c ∨ (i ≠ 0 ∧ BS c)
instance (i : Nat) (c : UInt8) : Decidable (nmB i c) := inferInstanceAs (Decidable (_ ∨ _))
def ey (s : Bs) : Prop := (∀ i, i < s.length → nmB i (s.getD i default)) ∧ s ≠ [] ∧ s.length ≤ 32
instance (s : Bs) : Decidable (ey s) := inferInstanceAs (Decidable (_ ∧ _))
abbrev bsK (k : IK) : List Bs := [k.s, k.z, k.u, k.h] ++ k.r
def bK (p : PR) (k : IK) : Int :=
 if cr p ≠ 0 then cr p else if ¬ ((okN k.g.1 ∧ okN k.g.2) ∧ ∀ x ∈ bsK k, okN x) then 3 else if ¬ ey k.name then 1
 else if k.g.2 ≠ [] ∨ aU k.g ≠ 0 then 13 else if k.r.length < 2 ∨ 18 < k.r.length then 6
 else if ¬ ((∀ x ∈ bsK k, elG k.g x) ∧ k.s ≠ ae 1) then 13 else 0
theorem bC {p : PR} {k : IK} (h : bK p k = 0) : cr p = 0 ∧ (okN k.g.1 ∧ okN k.g.2) ∧ (∀ x ∈ bsK k, okN x) ∧ k.g.2 = [] ∧ aU k.g = 0 ∧ 2 ≤ k.r.length ∧ k.r.length ≤ 18 ∧ (∀ x ∈ bsK k, elG k.g x) := by
 unfold bK at h
 split at h
 ·rename_i h1; exact absurd h h1
 ·rename_i h1; split at h
  ·simp at h
  ·rename_i h2; split at h
   ·simp at h
   ·split at h
    ·simp at h
    ·rename_i h4; split at h
     ·simp at h
     ·rename_i h5; split at h
      ·simp at h
      ·rename_i h6; have h2 := Ao.1 h2; have h6 := Ao.1 h6; refine ⟨Ao.1 h1, h2.1, h2.2, A1 fun h => h4 (Or.inl h), A1 fun h => h4 (Or.inr h), by omega, by omega, h6.1⟩
theorem eG {p : PR} (h : cr p = 0) : okR p ∧ ny p ∧ mR p := by
 unfold cr at h
 split at h
 ·simp at h
 ·rename_i h1; split at h
  ·simp at h
  ·rename_i h2; split at h
   ·simp at h
   ·rename_i h3; exact ⟨Ao.1 h1, Ao.1 h2, Ao.1 h3⟩
theorem w4 {x : Bs} {z : Zs} {m : Bs} (hx : okN x) (hz : okZ z) (hm : okN m) (hm0 : m ≠ []) (hg : Nat.gcd (val x) (val m) = 1) : iB x z m = (ae (db (val m) (val x) (zv z)), 0) := by
 rw [iB, Ab ⟨hx, hz, hm⟩, Aa hm0, db, s4]
 by_cases h : z.1 = true
 ·rw [Ab h, Ab hg, Ab ((j0 hz).2 h)]
 ·rw [Aa h, Aa (fun h2 => h ((j0 hz).1 h2))]
theorem yM {g : Gp} {x : Bs} {z : Zs} {w : World} (hm8 : g.1.length ≤ 8) :
  Cw 74 #[gV g, .string (S x), zV z] w (.string (S (iB x z g.1).1)) := by
 refine En [] [(0, gV g), (1, .string (S x)), (2, zV z)] Tryz.func74 I Tryz.ntmps74 I (Ac I (Ac I (Ac I (An _)))) Fn (DO ?_)
 intro b3
 refine EW ?_
 intro b5
 refine Ka I (Nt (Cs (Km I (Kq I (lda I I .tc u37 I ?_) ?_))))
 ·kernel_rfl
 refine ED ?_
 refine Kc I (fun w hS => tI (a := x) (x := z) (m := g.1) (by assumption)) (BY ?_); refine Cs (Km I (to ?_))
 exact GH
theorem o8 {g : Gp} {l : List Bs} {es : List Zs} {a b : Option Addr} {c d : Nat} {w : World} {ok : Nat → Prop} (hF1 : (Fact.sl a (an l)).holds ok w) (hF2 : (Fact.sl b (aZ es)).holds ok w) (hl : l.length ≤ 100000) (hes : es.length ≤ 100000) (hm8 : g.1.length ≤ 8) :
  Cw 24 #[gV g, .slice a l.length c, .slice b es.length d] w (NE (bL g l es)) := by
 have hnz : ∀ x : Int, dO g l es (decide (l.length = es.length)) = x → x ≠ 0 → bL g l es = ([], x) := fun x h h0 => by rw [bL, Aa (by rw [h]; exact h0), h]
 refine En [Fact.sl a (an l), Fact.sl b (aZ es)] [(0, gV g), (1, .slice a l.length c), (2, .slice b es.length d)] Tryz.func24 I Tryz.ntmps24 I (Ac I (Ac I (Ac I (An _)))) (Fc (ah hF1) (Fc (ah hF2) Fn)) (DO ?_)
 intro b3
 refine Ka I (E5 ?_); refine Lp (σ := Nat) [(1, _), (2, _), (3, _)] (fun gq => [(8, .int .i64 (gq : Int))]) (fun gq => gq ≤ l.length ∧ ∀ x ∈ l.take gq, okN x) (fun gq => l.length - gq) (0) (S3 I I I) (S1 I) (by (try dsimp only); exact ⟨Ai _, by simp⟩) ?_
 rintro i hinv1; (try dsimp only at hinv1 ⊢)
 obtain ⟨hi, hok⟩ := hinv1
 refine E0 ?_; refine Yo I u31 (Ew (fun hc17 => ?_) (fun hc17 => ?_))
 ·have hil : i < l.length := by omega
  refine El ?_; refine Km I (DZ ?_)
  refine EI ?_
  refine Kc I (fun w hS => ar (a := l.getD i default)) (Eq (fun hc25 => ?_) (fun hc25 => ?_))
  ·refine Cs (Ka I (to ?_)); refine DS ?_; exact R2 I I I (by rw [hnz 3 (by rw [dO, Ab (fun h => absurd (h _ (ap _ _ hil)) (by simpa using hc25))]) (by decide)]; rfl)
  ·refine Ck (Xd (Xa (Cg (Km I (Kq I (Rz I I I (by omega)) (Ka I (Nn (Ly (i + 1) (by (try dsimp only); omega) (S3 I I I) (by refine (Sc ?_ (S0 _)) <;> (rfl)) ?_ (fun _ h => h))))))))); (try dsimp only); exact ⟨hil, az hil hok (by simpa using hc25)⟩
 ·refine AT ?_
  obtain rfl : i = l.length := by omega
  rw [Ap] at hok
  refine Xa (Cq (Cs (Ka I (Nt (Cb (Lp (σ := Nat) [(1, _), (2, _), (3, _)] (fun gq => [(9, .int .i64 (gq : Int))]) (fun gq => gq ≤ es.length ∧ ∀ x ∈ es.take gq, okZ x) (fun gq => es.length - gq) (0) (S3 I I I) (S1 I) (by (try dsimp only); exact ⟨Ai _, by simp⟩) ?_))))))
  rintro k hinv2; (try dsimp only at hinv2 ⊢)
  obtain ⟨hk, hokz⟩ := hinv2
  refine E0 ?_; refine Yo I u39 (Ew (fun hc29 => ?_) (fun hc29 => ?_))
  ·have hkl : k < es.length := by omega
   refine El ?_; refine Km I (DX ?_); refine EZ ?_; refine Kc I (fun w hS => bu (x := es.getD k default)) (Eq (fun hc37 => ?_) (fun hc37 => ?_))
   ·refine Cs (Ka I (to ?_)); refine DS ?_; exact R2 I I I (by rw [hnz 3 (by rw [dO, Aa (fun h => h hok), Ab (fun h => absurd (h _ (ap _ _ hkl)) (by simpa using hc37))]) (by decide)]; rfl)
   ·refine Ck (Xd (Xa (Cg (Km I (Kq I (Rz I I I (by omega)) (Ka I (Nn (Ly (k + 1) (by (try dsimp only); omega) (S3 I I I) (by refine (Sc ?_ (S0 _)) <;> (rfl)) ?_ (fun _ h => h))))))))); (try dsimp only); exact ⟨hkl, az hkl hokz (by simpa using hc37)⟩
  ·refine AT ?_; obtain rfl : k = es.length := by omega
   rw [Ap] at hokz; refine Xa (Cq (Cs (Kq I (lda I I .tc u26 I ?_) ?_)))
   ·kernel_rfl
   refine Kc I (fun w hS => gA (g := g)) (DT ?_); refine EL (fun hc41 => ?_) (fun hc41 => ?_)
   ·have hgn : aU g ≠ 0 := by simpa using hc41
    refine Cs (Km I (Ka I (ne ?_))); exact R2 I I I (by rw [hnz (aU g) (by rw [dO, Aa (fun h => h hok), Aa (fun h => h hokz), Ab hgn]) hgn]; rfl)
   ·have hg : aU g = 0 := by simpa using hc41
    obtain ⟨hm, hq, hm2, _⟩ := cq hg; have hm0 : g.1 ≠ [] := fun h => by rw [h] at hm2; exact absurd hm2 (by decide)
    have hp := lC hm hm0; have hm64 := dQ hm8; refine Fe ?_; refine Yo I u31 (Km I (Yo I u39 (Yj I (Ns 47 I (v' := .bool (decide (l.length ≠ es.length))) (congrArg Value.bool (by simp; omega)) ?_)))); refine Nt (Ci I (fun hc47 => ?_) (fun hc47 => ?_))
    ·refine Cs (Ka I (ne ?_)); exact R2 I I I (by rw [hnz 6 (by rw [dO, Aa (fun h => h hok), Aa (fun h => h hokz), Aa (fun h => h hg), Ab (Aq hc47)]) (by decide)]; rfl)
    ·have hlen : l.length = es.length := by omega
     refine Gg ?_; refine Ka I (Nt (Cb (Lp (σ := Nat) [(1, _), (2, _), (3, _)] (fun gq => [(11, .int .i64 (gq : Int))]) (fun gq => gq ≤ l.length ∧ ∀ x ∈ l.take gq, elG g x) (fun gq => l.length - gq) (0) (S3 I I I) (S1 I) (by (try dsimp only); exact ⟨Ai _, by simp⟩) ?_))); rintro i3 hinv3; (try dsimp only at hinv3 ⊢); obtain ⟨hi3, hel⟩ := hinv3; refine E0 ?_; refine Yo I u31 (Ew (fun hc51 => ?_) (fun hc51 => ?_))
     ·have hil3 : i3 < l.length := by omega
      refine Ck (Xa (Cq (Cb (Cq (Cf [0, 1, 2, 3, 4, 5, 6] [] [0, 0, 0, 0, 0, 1, 0] (by kernel_rfl) (by kernel_rfl) I ?_))))); refine Kj I (lda I I .tc u26 I ?_) ?_
      ·kernel_rfl
      refine DW ?_; refine EV ?_; refine Fy ?_; refine Jv I I I I I (fun ext => Oc I I (Kv fun w hS => iq (g := g) (x := l.getD i3 default) (by exact hg) (by exact hok _ (ap _ _ hil3)) (by exact hm8))) ?_; refine Kj I (Rt I I) ?_; refine WJ.nil ?_; refine Nt (Ci I (fun hc60 => ?_) (fun hc60 => ?_))
      ·refine Cs (Ka I (to ?_)); refine DS ?_; exact R2 I I I (by rw [hnz 13 (by rw [dO, Aa (fun h => h hok), Aa (fun h => h hokz), Aa (fun h => h hg), Aa (by simp [hlen]), Ab (fun h => absurd (h _ (ap _ _ hil3)) (by simpa using hc60))]) (by decide)]; rfl)
      ·refine Ck (Xd (Xa (Cg (Km I (Kq I (Rz I I I (by omega)) (Ka I (Nn (Ly (i3 + 1) (by (try dsimp only); omega) (S3 I I I) (by refine (Sc ?_ (S0 _)) <;> (rfl)) ?_ (fun _ h => h))))))))); (try dsimp only); exact ⟨hil3, az hil3 hel (by simpa using hc60)⟩
     ·refine AT ?_; obtain rfl : i3 = l.length := by omega
      rw [Ap] at hel; have h0 : dO g l es (decide (l.length = es.length)) = 0 := by rw [dO, Aa (fun h => h hok), Aa (fun h => h hokz), Aa (fun h => h hg), Aa (by simp [hlen]), Aa (fun h => h hel)]
      obtain ⟨Z, hZ⟩ : ∃ Z, Z = l.zip es := ⟨_, rfl⟩; have hZl : Z.length = l.length := by rw [hZ]; simp; omega
      have hr : bL g l es = (ae (aD (fun p => db (val g.1) (val p.1) (zv p.2)) Z % val g.1), 0) := by rw [bL, Ab h0, hZ]
      have hmk : ∀ k, okN (ae (k % val g.1)) ∧ (ae (k % val g.1)).length ≤ 8 := fun k => no (Ak _ hp) hm8
      refine Xa (Cs (Ka I (Ns 12 I (v' := .string (S (ae (aD (fun p => db (val g.1) (val p.1) (zv p.2)) (Z.take 0) % val g.1)))) (congrArg (fun l => Value.string (S l)) (by rw [Dx, aD, Ah (by omega), bT])) ?_))); refine Nt (Cq (Cs (Ka I (Nt (Cb (Lp (σ := Nat) [(1, _), (2, _), (3, _)] (fun gq => [(12, .string (S (ae (aD (fun p => db (val g.1) (val p.1) (zv p.2)) (Z.take gq) % val g.1)))), (13, .int .i64 (gq : Int))]) (fun gq => gq ≤ l.length) (fun gq => l.length - gq) (0) (S3 I I I) (S2 I I) (by (try dsimp only); omega) ?_)))))); rintro i4 hinv4; (try dsimp only at hinv4 ⊢); obtain hi4 := hinv4; refine E0 ?_; refine Yo I u31 (Ew (fun hc64 => ?_) (fun hc64 => ?_))
      ·have hil4 : i4 < l.length := by omega
       have hx := hel _ (ap l i4 hil4); have hz := hokz _ (ap es i4 (by omega)); have hpw := w4 hx.1 hz hm hm0 (gM hg hx); have hpl : db (val g.1) (val (l.getD i4 default)) (zv (es.getD i4 default)) < val g.1 := Ak _ hp; have hpk := no hpl hm8; have hsu := kS (fun p => db (val g.1) (val p.1) (zv p.2)) Z i4 (by omega); rw [show Z.getD i4 default = (l.getD i4 default, es.getD i4 default) by rw [hZ]; exact iP hil4 (by omega)] at hsu; have hmm := qA (hmk (aD (fun p => db (val g.1) (val p.1) (zv p.2)) (Z.take i4))).1 hpk.1 hm hm0; rw [af, af, mml, ← hsu] at hmm; refine Ck (Xa (Cq (Cb (Cf [1, 2, 3, 4, 5, 6, 7, 8, 9, 10, 0, 11, 12, 13, 14, 15, 16, 17] [] [0, 0, 0, 0, 0, 0, 0, 0, 0, 0, 1, 0, 0, 1, 0, 0, 0, 0] (by kernel_rfl) (by kernel_rfl) I ?_)))); refine Kj I (lda I I .tc u26 I ?_) ?_
       ·kernel_rfl
       refine Kj I (Rm I I) (Kj I (Rm I I) ?_); refine Kj I (Ib I I I u31 (by omega) (by (rw [Ag]; omega))) ?_; refine Kj I (ldm I I u22 I (by assumption)) ?_; refine Kj I (Rm I I) (Kj I (Rm I I) ?_); refine Kj I (Ia I I I u39 (by kernel_rfl : _ = some 2) (by omega) (by (rw [aj _ _ 2 (fun _ => rfl)]; omega))) ?_; refine Kj I (dL _ I I u37 I (by kernel_rfl : _ = some 2) (fun _ => rfl) (by decide) I (by omega)) ?_; refine Jv I I I I I (fun ext => Oc I I (Kv fun w hS => (by have := yM (w := w) (g := g) (x := l.getD i4 default) (z := es.getD i4 default) hm8; rw [hpw] at this; exact this))) ?_; refine Kj I (Rm I I) (Kj I (Fa (q := 0) I I u26 I I) (Kj I (Ld I I .tc u22) ?_)); refine Jv I I I I I (fun ext => Oc I I (Kv fun w hS => (by have := qi (w := w) (a := ae (aD (fun p => db (val g.1) (val p.1) (zv p.2)) (Z.take i4) % val g.1)) (b := ae (db (val g.1) (val (l.getD i4 default)) (zv (es.getD i4 default)))) (m := g.1) hm8; rw [hmm] at this; exact this))) ?_; refine Kj I (Rm I I) (Kj I (Re I I I) (Kj I (Re I I I) (Kj I (Ra I I) ?_))); refine WJ.nil ?_; refine Nn (Xd (Xa (Cg (Km I (Kq I (Rz I I I (by omega)) (Ka I (Nn (Ly (i4 + 1) (by (try dsimp only); omega) (S3 I I I) (by refine (Sc ?_ (Sc ?_ (S0 _))) <;> (rfl)) ?_ (fun _ h => h))))))))); (try dsimp only); omega
      ·refine AT ?_; obtain rfl : i4 = l.length := by omega
       rw [A8 (Nat.le_of_eq hZl)]; refine Xa (Cs (Km I (Ka I (to ?_)))); exact GE
section
variable {ds : List Deferred} {P : Program} {o : Oper} {n : Nat} {L : ak} {Z : World → Prop} {x y : Operand} {t t2 : TypeId} {xs ys : Array Value} {b : Bool}
theorem tQ (hop : o.op = .binOp .neq t x y t2) (hx : ag L x = some (.agg xs)) (hy : ag L y = some (.agg ys)) (hg : P.eqGuardType P.depth t = false) (hr : ∀ w : World, (binOp .eql t (.agg xs) (.agg ys)).run P w = .ok (.bool b) w) : Rd ds P o n L Z (.bool (!b)) :=
 aY hop hx hy (fun w => run_eqGuard_agg w _ _ _ _ _ _ hg) fun w => by
  have := hr w
  rw [run_eql_struct] at this
  rw [run_neq_struct]
  cases h : (Op.equalIn 10000 t (.agg xs) (.agg ys)).run P w with
  | ok c w' => rw [h] at this; simp at this ⊢; exact ⟨by rw [this.1], this.2⟩
  | halt c w' => rw [h] at this; simp at this
end
theorem jG (p q : Bool) (a b : Bs) (w : World) : (binOp .eql 37 (.agg #[.bool p, .string (S a)]) (.agg #[.bool q, .string (S b)])).run Tryz.prog w = .ok (.bool (decide (p = q ∧ a = b))) w := by
 rw [run_eql_struct, run_equalIn_agg w _ _ _ _ (by kernel_rfl) (by kernel_rfl)]
 have h1 : Tryz.prog.underlying 4 = some .bool := by kernel_rfl
 have h2 : Tryz.prog.underlying 22 = some .string := by kernel_rfl
 have hf : (Tryz.prog.fieldsOf 37).toList = [⟨"Neg", 4, 0, false, "", "", 0⟩, ⟨"Abs", 22, 1, false, "", "", 8⟩] := by kernel_rfl
 have e1 : ∀ (u v : Value) (w : World), (part 4 #[u, v] 0).run Tryz.prog w = .ok u w := fun u v w => run_part_plain w (by kernel_rfl) rfl
 have e2 : ∀ (u v : Value) (w : World), (part 22 #[u, v] 1).run Tryz.prog w = .ok v w := fun u v w => run_part_plain w (by kernel_rfl) rfl
 have hb : ∀ (w : World), (Op.equalIn 9999 4 (.bool p) (.bool q)).run Tryz.prog w = .ok (p == q) w := fun w => run_equalIn_bool' w 9998 _ p q h1
 have hs : ∀ (w : World), (Op.equalIn 9999 22 (.string (S a)) (.string (S b))).run Tryz.prog w = .ok (decide (a = b)) w := fun w => by
  rw [run_equalIn_string w 9998 _ _ _ h2, oZ]
 rw [hf]
 simp only [Op.eqFields, Sem.run_bind, e1, e2, hb, hs, Result.andThen_ok, Sem.run_ite, Sem.run_pure]
 cases p <;> cases q <;> by_cases h : a = b <;> simp [h]
end Go.Proofs.YtkdlonihbjhhoaaGreatDoor
namespace Go.Proofs.YtkdlonihbjhhoaaGreatDoor
set_option linter.unusedSimpArgs false
set_option linter.unusedVariables false
open Go.ChangeShapes Go.WideShapes Go.ChangeAt Go.RowKit
section
variable {H : Type} {enc : TypeId × Value → H} {P : Program} {w : World} {spare : Nat → Bool} {held : Bool}
theorem ll {b i : Nat} {v : Value} (h : w.cell? ⟨b, i, none⟩ = some v) : ∃ cs T fz, w.heap[b]? = some (.cells cs T fz) ∧ cs[i]? = some v := by
 unfold World.cell? at h
 split at h
 ·rename_i cs T fz hb
  refine ⟨cs, T, fz, hb, ?_⟩
  simpa using h
 ·simp at h
theorem rB {a : Addr} {xs : List Value} (h : ∀ i v, xs[i]? = some v → w.cell? (a.add i) = some v) : (Fact.sl (some a) xs).holds (fun _ => True) w := by
 cases xs with
 | nil => exact .inl rfl
 | cons x xs =>
  right
  obtain ⟨b, off, spot⟩ := a
  have hspot : spot = none := by simpa [Addr.add] using World.cell?_spot (h 0 x rfl)
  subst hspot
  have h0 := h 0 x rfl
  rw [Addr.add_lit] at h0
  obtain ⟨cs, T, fz, hb, _⟩ := ll h0
  refine ⟨b, off, cs, T, fz, rfl, trivial, hb, fun i hi => ?_⟩
  have h1 := h i _ (Ad hi)
  rw [Addr.add_lit] at h1
  obtain ⟨cs', T', fz', hb', h2⟩ := ll h1
  rw [hb] at hb'; cases hb'
  rw [h2, Ad hi]
end
end Go.Proofs.YtkdlonihbjhhoaaGreatDoor
namespace Go.Proofs.YtkdlonihbjhhoaaGreatDoor
set_option linter.unusedSimpArgs false
set_option linter.unusedVariables false
open Go.ChangeShapes Go.WideShapes Go.ChangeAt Go.RowKit
structure Sl (α : Type) where
 a : Option Addr
 l : List α
 cap : Nat
abbrev Sl.val {α : Type} (s : Sl α) : Value := .slice s.a s.l.length s.cap
section
variable {H : Type} {enc : TypeId × Value → H} {P : Program} {w : World} {spare : Nat → Bool} {held : Bool} {fuel : Nat} {t e : TypeId} {cs : List Value} {x : DataW H × List MemPlace}
theorem op_int {k : IntKind} (ht : P.underlying t = some (.int k)) (h : DataW.trod enc P w 0 spare held fuel t cs = some x) : ∃ n : Int, cs = [.int k n] ∧ (Lit.int k n).wf = true := by
 cases fuel with
 | zero => simp [DataW.trod] at h
 | succ n =>
  simp only [DataW.trod, ht] at h
  split at h <;> simp_all
theorem op_bool (ht : P.underlying t = some .bool) (h : DataW.trod enc P w 0 spare held fuel t cs = some x) : ∃ b : Bool, cs = [.bool b] := by
 cases fuel with
 | zero => simp [DataW.trod] at h
 | succ n =>
  simp only [DataW.trod, ht] at h
  split at h <;> simp_all
theorem ol {α β : Type} {f : α → Option β} : ∀ {l : List α} {r : List β}, l.mapM f = some r → ∀ y ∈ l, ∃ z, f y = some z
 | [], _, _, y, hy => by cases hy
 | a :: l, r, h, y, hy => by
  rw [Eh] at h
  cases hf : f a with
  | none => simp [hf] at h
  | some z =>
   cases hr : l.mapM f with
   | none => simp [hf, hr] at h
   | some r' =>
    rcases A7.1 hy with rfl | hy
    ·exact ⟨z, hf⟩
    ·exact ol hr y hy
theorem op_struct {fs : Array Field} (ht : P.underlying t = some (.struct fs)) (h : DataW.trod enc P w 0 spare held fuel t cs = some x) :
  cs.length = P.cellsOf t ∧ ∃ m, ∀ f ∈ fs.toList, ∃ y, DataW.trod enc P w 0 spare held m f.type ((cs.drop f.offset).take (P.cellsOf f.type)) = some y := by
 cases fuel with
 | zero => simp [DataW.trod] at h
 | succ n =>
  simp only [DataW.trod, ht] at h
  split at h
  ·rename_i hl; refine ⟨hl, n, fun f hf => ?_⟩; obtain ⟨xs, hxs, _⟩ := Dn.1 h; exact ol hxs f hf
  ·cases h
theorem cells?_get {a : Addr} {n : Nat} {ys : List Value} (h : w.cells? 0 a n = some ys) : ys.length = n ∧ ∀ i v, ys[i]? = some v → w.cell? (a.add i) = some v := by
 unfold World.cells? at h
 simp only [Ai, if_true] at h
 have key : ∀ (l : List Nat) (ys : List Value), (l.mapM fun i => w.cell? (a.add i)) = some ys → ys.length = l.length ∧ ∀ (i : Nat) (v : Value), ys[i]? = some v → ∃ j : Nat, l[i]? = some j ∧ w.cell? (a.add j) = some v := by
  intro l
  induction l with
  | nil => intro ys h; simp at h; subst h; simp
  | cons j l ih =>
   intro ys h; rw [Eh] at h
   cases hf : w.cell? (a.add j) with
   | none => simp [hf] at h
   | some z =>
    cases hr : l.mapM fun i => w.cell? (a.add i) with
    | none => simp [hf, hr] at h
    | some r' =>
     simp [hf, hr] at h; subst h; obtain ⟨h1, h2⟩ := ih r' hr; refine ⟨by simp [h1], fun i v hi => ?_⟩
     cases i with
     | zero => simp at hi; subst hi; exact ⟨j, rfl, hf⟩
     | succ i => simp at hi; simpa using h2 i v hi
 obtain ⟨h1, h2⟩ := key _ _ h
 refine ⟨by simpa using h1, fun i v hi => ?_⟩
 obtain ⟨j, hj, hc⟩ := h2 i v hi
 have : i < n := by
  have := (Al.1 hj).1
  simpa using this
 rw [D7 this] at hj
 cases hj
 exact hc
theorem zP {α : Type} (f : α → Value) (l : List α) : l.flatMap (fun x => [f x]) = l.map f := by induction l with | nil => rfl | cons x l ih => simp [ih]
theorem sl_map {α : Type} {a : Option Addr} {l : List α} {f : α → Value} {ok : Nat → Prop} (h : (Fact.sl a (l.flatMap fun x => [f x])).holds ok w) : (Fact.sl a (l.map f)).holds ok w := by rw [zP] at h; exact h
end
end Go.Proofs.YtkdlonihbjhhoaaGreatDoor
namespace Go.Proofs.YtkdlonihbjhhoaaGreatDoor
set_option linter.unusedSimpArgs false
set_option linter.unusedVariables false
open Go.ChangeShapes Go.WideShapes Go.ChangeAt Go.RowKit
def Wt {H : Type} (P : Program) (t : TypeId) (d : DataW H) : Prop := ∀ n ∈ d.weights P t, n ≤ 140737488351232
theorem wt_all {H : Type} {P : Program} {ts : List TypeId} {ds : List (DataW H)} (h : (DataW.weightsEach P ts ds).all (· ≤ reachBytes) = true) {j : Nat} {t : TypeId} {d : DataW H} (ht : ts[j]? = some t) (hd : ds[j]? = some d) : Wt P t d := fun n hn => by
 have := Bn.1 h n (DataW.weights_mem_each ht hd n hn)
 exact of_decide_eq_true this
theorem fP {H : Type} {P : Program} {e : TypeId} {d : DataW H} {n : Nat} : ∀ {l : List (DataW H)}, d ∈ l → n ∈ d.weights P e → n ∈ DataW.weightsAll P e l
 | [], h, _ => by cases h
 | x :: l, h, hn => by
  simp only [DataW.weightsAll, B6]
  rcases A7.1 h with rfl | h
  ·exact .inl hn
  ·exact .inr (fP h hn)
theorem kZ {α β : Type} {f : α → Option β} : ∀ {l : List α} {r : List β}, l.mapM f = some r → ∀ (i : Nat) y, l[i]? = some y → ∃ z, f y = some z ∧ r[i]? = some z
 | [], _, _, i, y, hy => by simp at hy
 | a :: l, r, h, i, y, hy => by
  rw [Eh] at h
  cases hf : f a with
  | none => simp [hf] at h
  | some z =>
   cases hr : l.mapM f with
   | none => simp [hf, hr] at h
   | some r' =>
    simp [hf, hr] at h; subst h
    cases i with
    | zero => simp at hy; subst hy; exact ⟨z, hf, rfl⟩
    | succ i => simp at hy; simpa using kZ hr i y hy
theorem iM {α β : Type} {f : α → Option β} : ∀ {l : List α} {r : List β}, l.mapM f = some r → r.length = l.length
 | [], r, h => by simp at h; subst h; rfl
 | a :: l, r, h => by
  rw [Eh] at h
  cases hf : f a with
  | none => simp [hf] at h
  | some z =>
   cases hr : l.mapM f with
   | none => simp [hf, hr] at h
   | some r' => simp [hf, hr] at h; subst h; simp [iM hr]
section
variable {H : Type} {enc : TypeId × Value → H} {P : Program} {w : World} {spare : Nat → Bool} {held : Bool} {fuel : Nat} {t e : TypeId} {cs : List Value} {x : DataW H × List MemPlace}
theorem xj (ht : P.underlying t = some .string) (h : DataW.trod enc P w 0 spare held fuel t cs = some x) (hz : Wt P t x.1) : ∃ s : List UInt8, cs = [.string (S s)] ∧ s.length ≤ 140737488351232 := by
 cases fuel with
 | zero => simp [DataW.trod] at h
 | succ n =>
  simp only [DataW.trod, ht] at h
  split at h <;> simp_all
  rename_i s
  obtain ⟨h1, rfl⟩ := h
  refine ⟨s.data.toList, (nM s).symm, hz _ ?_⟩
  simp [DataW.weights]
end
end Go.Proofs.YtkdlonihbjhhoaaGreatDoor
namespace Go.Proofs.YtkdlonihbjhhoaaGreatDoor
open Go.RowKit
set_option linter.unusedSimpArgs false
set_option linter.unusedVariables false
set_option maxHeartbeats 600000
set_option maxRecDepth 20000
def AB (k : IK) (x : Bs) (ws : List Zs) (n : Nat) : Prop := (okN k.g.1 ∧ okN k.g.2 ∧ okN k.h ∧ okN x) ∧ ∀ z ∈ ws.take n, okZ z
instance (k : IK) (x : Bs) (ws : List Zs) (n : Nat) : Decidable (AB k x ws n) := inferInstanceAs (Decidable (_ ∧ _))
def mP (n : Int) (l : List Bs) : Prop := ∀ x ∈ l, (x.length : Int) ≤ n
instance (n : Int) (l : List Bs) : Decidable (mP n l) := inferInstanceAs (Decidable (∀ x ∈ l, _))
def DK (k : IK) : Prop := mP 8 [k.g.1, k.g.2] ∧ mP 9 [k.z, k.s, k.u, k.h] ∧ (k.r.length : Int) ≤ 6 ∧ mP 9 k.r ∧ (k.name.length : Int) ≤ 60
instance (k : IK) : Decidable (DK k) := inferInstanceAs (Decidable (_ ∧ _))
end Go.Proofs.YtkdlonihbjhhoaaGreatDoor
namespace Go.Proofs.YtkdlonihbjhhoaaGreatDoor
set_option linter.unusedSimpArgs false
set_option linter.unusedVariables false
set_option maxRecDepth 20000
abbrev W := BitVec 32
def rr (x : W) (n : Nat) : W := x >>> n ||| x <<< (32 - n)
def u32 (x : W) : Value := .int .u32 (x.toNat : Int)
def s0 (x : W) : W := (rr x 7 ^^^ rr x 18) ^^^ x >>> 3
def s1 (y : W) : W := (rr y 17 ^^^ rr y 19) ^^^ y >>> 10
def rl (a b c d : UInt8) : W := BitVec.ofNat 32 (a.toNat * 16777216 + b.toNat * 65536 + c.toNat * 256 + d.toNat)
def bY : List UInt8 → List W
 | a :: b :: c :: d :: r => rl a b c d :: bY r
 | _ => []
def qx (w : List W) : W := ((w.getD (w.length - 16) 0 + s0 (w.getD (w.length - 15) 0)) + w.getD (w.length - 7) 0) + s1 (w.getD (w.length - 2) 0)
def cx : Nat → List W → List W
 | 0, w => w
 | n + 1, w => cx n w ++ [qx (cx n w)]
def tt (e f g h k w : W) : W := (((h + ((rr e 6 ^^^ rr e 11) ^^^ rr e 25)) + ((e &&& f) ^^^ (~~~e &&& g))) + k) + w
def uu (a b c : W) : W := ((rr a 2 ^^^ rr a 13) ^^^ rr a 22) + (((a &&& b) ^^^ (a &&& c)) ^^^ (b &&& c))
def rnd (k w : W) : List W → List W
 | [a, b, c, d, e, f, g, h] => [tt e f g h k w + uu a b c, a, b, c, d + tt e f g h k w, e, f, g]
 | l => l
def fo (ks ws : List W) : Nat → List W → List W
 | 0, x => x
 | n + 1, x => rnd (ks.getD n 0) (ws.getD n 0) (fo ks ws n x)
def KK : List W := [0x428a2f98#32, 0x71374491#32, 0xb5c0fbcf#32, 0xe9b5dba5#32, 0x3956c25b#32, 0x59f111f1#32, 0x923f82a4#32, 0xab1c5ed5#32,
 0xd807aa98#32, 0x12835b01#32, 0x243185be#32, 0x550c7dc3#32, 0x72be5d74#32, 0x80deb1fe#32, 0x9bdc06a7#32, 0xc19bf174#32,
 0xe49b69c1#32, 0xefbe4786#32, 0x0fc19dc6#32, 0x240ca1cc#32, 0x2de92c6f#32, 0x4a7484aa#32, 0x5cb0a9dc#32, 0x76f988da#32,
 0x983e5152#32, 0xa831c66d#32, 0xb00327c8#32, 0xbf597fc7#32, 0xc6e00bf3#32, 0xd5a79147#32, 0x06ca6351#32, 0x14292967#32,
 0x27b70a85#32, 0x2e1b2138#32, 0x4d2c6dfc#32, 0x53380d13#32, 0x650a7354#32, 0x766a0abb#32, 0x81c2c92e#32, 0x92722c85#32,
 0xa2bfe8a1#32, 0xa81a664b#32, 0xc24b8b70#32, 0xc76c51a3#32, 0xd192e819#32, 0xd6990624#32, 0xf40e3585#32, 0x106aa070#32,
 0x19a4c116#32, 0x1e376c08#32, 0x2748774c#32, 0x34b0bcb5#32, 0x391c0cb3#32, 0x4ed8aa4a#32, 0x5b9cca4f#32, 0x682e6ff3#32,
 0x748f82ee#32, 0x78a5636f#32, 0x84c87814#32, 0x8cc70208#32, 0x90befffa#32, 0xa4506ceb#32, 0xbef9a3f7#32, 0xc67178f2#32]
def H0 : List W := [0x6a09e667#32, 0xbb67ae85#32, 0x3c6ef372#32, 0xa54ff53a#32, 0x510e527f#32, 0x9b05688c#32, 0x1f83d9ab#32, 0x5be0cd19#32]
def ig : List W → List W → List W
 | a :: x, b :: y => (a + b) :: ig x y
 | _, _ => []
def fb (x : List W) (blk : List UInt8) : List W := ig (fo KK (cx 48 (bY blk)) 64 x) x
def ib : Nat → List W → List UInt8 → List W
 | 0, x, _ => x
 | n + 1, x, m => ib n (fb x (m.take 64)) (m.drop 64)
def bk (n i : Nat) : UInt8 := UInt8.ofNat (n / 2 ^ (8 * i) % 256)
def nq (n : Nat) : List UInt8 := [bk n 7, bk n 6, bk n 5, bk n 4, bk n 3, bk n 2, bk n 1, bk n 0]
def dn (n : Nat) : Nat := (119 - n % 64) % 64
def pad (s : List UInt8) : List UInt8 := s ++ [128] ++ List.replicate (dn s.length) 0 ++ nq (8 * s.length)
def pF (x : W) : List UInt8 := [bk x.toNat 3, bk x.toNat 2, bk x.toNat 1, bk x.toNat 0]
def na (x : List W) : List UInt8 := x.flatMap pF
def sha (s : List UInt8) : List UInt8 := na (ib ((pad s).length / 64) H0 (pad s))
def dS (key : List UInt8) : List UInt8 := if key.length > 64 then sha key else key
def mG (key : List UInt8) (x : UInt8) : List UInt8 := (key ++ List.replicate (64 - key.length) 0).map (· ^^^ x)
def mac (key s : List UInt8) : List UInt8 := sha (mG (dS key) 92 ++ sha (mG (dS key) 54 ++ s))
theorem mH (n : Nat) : IntKind.u32.wrap (n : Int) = ((BitVec.ofNat 32 n).toNat : Int) := by
 rw [IntKind.wrap_u32]; simp [BitVec.toNat_ofNat]
theorem CN (x y : W) : IntKind.u32.wrap ((x.toNat : Int) + (y.toNat : Int)) = ((x + y).toNat : Int) := by
 rw [IntKind.wrap_u32, BitVec.toNat_add]; omega
theorem gI (x : W) : BitVec.ofInt 32 (x.toNat : Int) = x := by
 apply BitVec.eq_of_toNat_eq; simp
theorem ye (x y : W) : bits .xor .u32 (x.toNat : Int) (y.toNat : Int) = ((x ^^^ y).toNat : Int) := by
 unfold bits
 show IntKind.u32.wrap ((BitVec.ofInt 32 (x.toNat : Int) ^^^ BitVec.ofInt 32 (y.toNat : Int)).toNat : Int) = _
 rw [gI, gI, mH]; simp
theorem CL (x y : W) : bits .and .u32 (x.toNat : Int) (y.toNat : Int) = ((x &&& y).toNat : Int) := by
 unfold bits
 show IntKind.u32.wrap ((BitVec.ofInt 32 (x.toNat : Int) &&& BitVec.ofInt 32 (y.toNat : Int)).toNat : Int) = _
 rw [gI, gI, mH]; simp
theorem xi (x y : W) : bits .or .u32 (x.toNat : Int) (y.toNat : Int) = ((x ||| y).toNat : Int) := by
 unfold bits
 show IntKind.u32.wrap ((BitVec.ofInt 32 (x.toNat : Int) ||| BitVec.ofInt 32 (y.toNat : Int)).toNat : Int) = _
 rw [gI, gI, mH]; simp
theorem BV (x : W) : bits .xor .u32 (if IntKind.u32.signed then -1 else IntKind.u32.max) (x.toNat : Int) = ((~~~x).toNat : Int) := by
 have e : (if IntKind.u32.signed then -1 else IntKind.u32.max) = ((BitVec.allOnes 32).toNat : Int) := by decide
 rw [e, ye, BitVec.allOnes_xor]
theorem p5 (x : W) (n : Nat) (h : n ≤ 32) : IntKind.u32.wrap ((x.toNat : Int) * 2 ^ n) = ((x <<< n).toNat : Int) := by
 rw [IntKind.wrap_u32, BitVec.toNat_shiftLeft, Nat.shiftLeft_eq]
 have : ((2 : Int) ^ n) = ((2 ^ n : Nat) : Int) := by simp
 rw [this]; omega
theorem yg (x : W) (n : Nat) : (x.toNat : Int).fdiv (2 ^ n) = ((x >>> n).toNat : Int) := by
 rw [BitVec.toNat_ushiftRight, Nat.shiftRight_eq_div_pow]
 have : ((2 : Int) ^ n) = ((2 ^ n : Nat) : Int) := by simp
 rw [this, Dy _ (Bq _)]; exact (Int.natCast_ediv _ _).symm
theorem AK (x : W) (n : Nat) (h0 : 0 < n) (h : n < 32) : bits .or .u32 (IntKind.u32.wrap ((x.toNat : Int) * 2 ^ (32 - n))) ((x.toNat : Int).fdiv (2 ^ n)) = ((rr x n).toNat : Int) := by
 rw [p5 x (32 - n) (by omega), yg, xi, rr, BitVec.or_comm]
theorem CM (n : Nat) (h0 : 0 < n) (h : n < 32) : bits .and .u64 (IntKind.u64.wrap (0 - (n : Int))) 31 = 32 - (n : Int) := by
 have : ∀ k : Fin 32, 0 < k.val → bits .and .u64 (IntKind.u64.wrap (0 - (k.val : Int))) 31 = 32 - (k.val : Int) := by decide
 exact this ⟨n, h⟩ h0
theorem uM {α : Type} (l : List α) (f : α → Value) (z : Value) (n k : Nat) (x : α) (hk : k < n) (hx : l[k]? = some x) :
  ((l.take k).map f ++ List.replicate (n - k) z).set k (f x) = (l.take (k + 1)).map f ++ List.replicate (n - (k + 1)) z := by
 have hl : k < l.length := (Al.1 hx).1
 have hlen : ((l.take k).map f).length = k := by simp; omega
 rw [Dd _ _ (by omega), hlen, C0, Bt, hx]
 have : n - k = (n - (k + 1)) + 1 := by omega
 rw [this, D6]
 simp
theorem lJ : ∀ (k : Nat) (bs : List UInt8) (c0 c1 c2 c3 : UInt8), bs[4 * k]? = some c0 → bs[4 * k + 1]? = some c1 → bs[4 * k + 2]? = some c2 → bs[4 * k + 3]? = some c3 → (bY bs)[k]? = some (rl c0 c1 c2 c3)
 | 0, bs, c0, c1, c2, c3, h0, h1, h2, h3 => by
  match bs, h0, h1, h2, h3 with
  | a :: b :: c :: d :: r, h0, h1, h2, h3 => simp at h0 h1 h2 h3; simp [bY, h0, h1, h2, h3]
 | k + 1, bs, c0, c1, c2, c3, h0, h1, h2, h3 => by
  match bs, h3 with
  | a :: b :: c :: d :: r, h3 =>
   have e : ∀ q, (a :: b :: c :: d :: r)[4 * (k + 1) + q]? = r[4 * k + q]? := fun q => by
    rw [show 4 * (k + 1) + q = (4 * k + q) + 4 by omega]; simp
   have e0 := e 0; simp only [Ba] at e0; simp only [bY, Ef]; exact lJ k r c0 c1 c2 c3 (e0 ▸ h0) (e 1 ▸ h1) (e 2 ▸ h2) (e 3 ▸ h3)
  | [], h3 => simp at h3
  | [_], h3 => simp at h3
  | [_, _], h3 => simp at h3
  | [_, _, _], h3 => simp at h3
theorem jc : ∀ (n : Nat) (bs : List UInt8), bs.length = 4 * n → (bY bs).length = n
 | 0, bs, h => by have : bs = [] := B2 (by omega); subst this; rfl
 | n + 1, bs, h => by
  match bs, h with
  | a :: b :: c :: d :: r, h => simp only [bY, Ar]; rw [jc n r (by simp at h; omega)]
  | [], h => simp at h
  | [_], h => simp at h; omega
  | [_, _], h => simp at h; omega
  | [_, _, _], h => simp at h; omega
theorem dw (n : Nat) (w : List W) : (cx n w).length = w.length + n := by
 induction n with
 | zero => rfl
 | succ n ih => simp [cx, ih]; omega
theorem vT (c : UInt8) : IntKind.u32.wrap (c.toNat : Int) = ((BitVec.ofNat 32 c.toNat).toNat : Int) := mH c.toNat
theorem yA (c0 c1 c2 c3 : UInt8) : ((BitVec.ofNat 32 c0.toNat <<< 24 ||| BitVec.ofNat 32 c1.toNat <<< 16) ||| BitVec.ofNat 32 c2.toNat <<< 8) ||| BitVec.ofNat 32 c3.toNat = rl c0 c1 c2 c3 := by
 have h0 := c0.toNat_lt; have h1 := c1.toNat_lt; have h2 := c2.toNat_lt; have h3 := c3.toNat_lt
 apply BitVec.eq_of_toNat_eq
 simp only [rl, BitVec.toNat_or, BitVec.toNat_shiftLeft, BitVec.toNat_ofNat, Nat.shiftLeft_eq]
 rw [Ah (by omega : c0.toNat < 2 ^ 32), Ah (by omega : c1.toNat < 2 ^ 32), Ah (by omega : c2.toNat < 2 ^ 32), Ah (by omega : c3.toNat < 2 ^ 32)]
 rw [Ah (by omega : c0.toNat * 2 ^ 24 < 2 ^ 32), Ah (by omega : c1.toNat * 2 ^ 16 < 2 ^ 32), Ah (by omega : c2.toNat * 2 ^ 8 < 2 ^ 32), Ah (by omega)]
 have e1 := Nat.two_pow_add_eq_or_of_lt (i := 24) (b := c1.toNat * 2 ^ 16) (by omega) c0.toNat
 have e2 := Nat.two_pow_add_eq_or_of_lt (i := 16) (b := c2.toNat * 2 ^ 8) (by omega) (c0.toNat * 2 ^ 8 + c1.toNat)
 have e3 := Nat.two_pow_add_eq_or_of_lt (i := 8) (b := c3.toNat) (by omega) (c0.toNat * 2 ^ 16 + c1.toNat * 2 ^ 8 + c2.toNat)
 rw [Aj c0.toNat, ← e1]
 rw [show 2 ^ 24 * c0.toNat + c1.toNat * 2 ^ 16 = 2 ^ 16 * (c0.toNat * 2 ^ 8 + c1.toNat) by omega, ← e2]
 rw [show 2 ^ 16 * (c0.toNat * 2 ^ 8 + c1.toNat) + c2.toNat * 2 ^ 8 = 2 ^ 8 * (c0.toNat * 2 ^ 16 + c1.toNat * 2 ^ 8 + c2.toNat) by omega, ← e3]
 first | done | omega
theorem rk (c0 c1 c2 c3 : UInt8) : bits .or .u32 (bits .or .u32 (bits .or .u32 (IntKind.u32.wrap (IntKind.u32.wrap (c0.toNat : Int) * 2 ^ (min (Int.toNat 24) IntKind.u32.bits))) (IntKind.u32.wrap (IntKind.u32.wrap (c1.toNat : Int) * 2 ^ (min (Int.toNat 16) IntKind.u32.bits)))) (IntKind.u32.wrap (IntKind.u32.wrap (c2.toNat : Int) * 2 ^ (min (Int.toNat 8) IntKind.u32.bits)))) (IntKind.u32.wrap (c3.toNat : Int)) = ((rl c0 c1 c2 c3).toNat : Int) := by
 have m1 : min (Int.toNat 24) IntKind.u32.bits = 24 := by decide
 have m2 : min (Int.toNat 16) IntKind.u32.bits = 16 := by decide
 have m3 : min (Int.toNat 8) IntKind.u32.bits = 8 := by decide
 rw [m1, m2, m3, vT, vT, vT, vT, p5 _ 24 (by omega), p5 _ 16 (by omega), p5 _ 8 (by omega), xi, xi, xi, yA]
section
variable {ds : List Deferred} {ρ : Option Nat} {P : Program} {o : Oper} {n : Nat} {L : ak} {Z : World → Prop} {x y : Operand} {t t2 : TypeId} {a b : W}
theorem cZ (hop : o.op = .binOp .add t x y t2) (hx : ag L x = some (u32 a)) (hy : ag L y = some (u32 b)) : Rd ds P o n L Z (u32 (a + b)) := by
 have := m5 (ds := ds) (P := P) (n := n) (St := Z) hop hx hy; rwa [CN] at this
theorem cY (hop : o.op = .binOp .xor t x y t2) (hx : ag L x = some (u32 a)) (hy : ag L y = some (u32 b)) : Rd ds P o n L Z (u32 (a ^^^ b)) := by
 have := kE (ds := ds) (P := P) (n := n) (St := Z) hop hx hy; rwa [ye] at this
theorem iy (hop : o.op = .binOp .and t x y t2) (hx : ag L x = some (u32 a)) (hy : ag L y = some (u32 b)) : Rd ds P o n L Z (u32 (a &&& b)) := by
 have := m4 (ds := ds) (P := P) (n := n) (St := Z) hop hx hy; rwa [CL] at this
theorem wX (hop : o.op = .unOp .xor t x) (hx : ag L x = some (u32 a)) : Rd ds P o n L Z (u32 (~~~a)) := by
 have := y6 (ds := ds) (P := P) (n := n) (St := Z) hop hx; rwa [BV] at this
theorem iw {k' : IntKind} {c : Nat} (hop : o.op = .binOp .shr t x y t2) (hx : ag L x = some (u32 a)) (hy : ag L y = some (.int k' (@OfNat.ofNat Int c instOfNat))) (hc : c ≤ 32) : Rd ds P o n L Z (u32 (a >>> c)) := by
 have := g5 (ds := ds) (P := P) (n := n) (St := Z) hop hx hy (Bq c)
 have e : min (@OfNat.ofNat Int c instOfNat).toNat IntKind.u32.bits = c := by
  show min c 32 = c; omega
 rwa [e, yg] at this
end
theorem fl (l : List W) : ∀ v ∈ l.map u32, v.oneCell' = true := fun v hv => by obtain ⟨c, _, rfl⟩ := B9.1 hv; rfl
theorem iL {α : Type} (l : List α) (f : α → Value) (r : List Value) (i : Nat) (x : α) (h : l[i]? = some x) : (l.map f ++ r)[i]? = some (f x) := by
 have : i < l.length := (Al.1 h).1
 rw [B5 (by simpa using this), A6, h]; rfl
theorem cC {α : Type} (l : List α) (i : Nat) (z : α) (h : i < l.length) : l[i]? = some (l.getD i z) := by simp [h]
theorem wE (k w : W) (x : List W) (h : x.length = 8) : (rnd k w x).length = 8 := by
 match x, h with
 | [a, b, c, d, e, f, g, i], _ => rfl
theorem g3 (ks ws : List W) (n : Nat) (x : List W) (h : x.length = 8) : (fo ks ws n x).length = 8 := by
 induction n with
 | zero => exact h
 | succ n ih => exact wE _ _ _ ih
theorem BQ (x : List W) (h : x.length = 8) : ∃ a b c d e f g i, x = [a, b, c, d, e, f, g, i] := by
 match x, h with
 | [a, b, c, d, e, f, g, i], _ => exact ⟨a, b, c, d, e, f, g, i, rfl⟩
theorem jb : ∀ (x y : List W), x.length = y.length → (ig x y).length = x.length
 | [], [], _ => rfl
 | a :: x, b :: y, h => by simp only [ig, Ar]; rw [jb x y (by simpa using h)]
theorem oN : ∀ (x y : List W) (k : Nat) (a b : W), x[k]? = some a → y[k]? = some b → (ig x y)[k]? = some (a + b)
 | a' :: x, b' :: y, 0, a, b, h1, h2 => by simp at h1 h2; simp [ig, h1, h2]
 | a' :: x, b' :: y, k + 1, a, b, h1, h2 => by simp at h1 h2; simp only [ig, Ef]; exact oN x y k a b h1 h2
theorem vF (x y : List W) (k : Nat) (a b : W) (hl : x.length = y.length) (h1 : x[k]? = some a) (h2 : y[k]? = some b) :
  (((ig x y).take k ++ x.drop k).map u32).set k (u32 (a + b)) = ((ig x y).take (k + 1) ++ x.drop (k + 1)).map u32 := by
 have hk : k < x.length := (Al.1 h1).1
 have hal := jb x y hl
 rw [← List.map_set]
 congr 1
 have hlen : ((ig x y).take k).length = k := by simp; omega
 rw [Dd _ _ (by omega), hlen, C0, Bt, oN x y k a b h1 h2]
 have hd : (x.drop k).set 0 (a + b) = (a + b) :: x.drop (k + 1) := by rw [Bo hk]; rfl
 rw [hd]; simp
end Go.Proofs.YtkdlonihbjhhoaaGreatDoor
