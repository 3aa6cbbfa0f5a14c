/-
  Parts of the walk: Sha8 Siz Siy Siw Sha9 Sha6 Sha3.
-/
import Derived.Test.YtkdlonihbjhhoaaGreatDoorG19
namespace Go.Proofs.YtkdlonihbjhhoaaGreatDoor
open Go.RowKit
set_option linter.unusedSimpArgs false
set_option linter.unusedVariables false
set_option maxHeartbeats 600000
set_option maxRecDepth 20000
abbrev aG : Type := Option Nat × Nat × List Value × Option Nat × Nat × List Value
abbrev lh (bE : Nat) (tg : Bs) (n : Nat) (g : aG) : Ent := ⟨some bE, [.int .i64 0, .string (S tg), .slice (g.1.map fun b => ⟨b, 0, none⟩) n g.2.1], 95⟩
abbrev kr (bS : Nat) (gv : Value) (n : Nat) (g : aG) : Ent := ⟨some bS, [gv, .slice (g.2.2.2.1.map fun b => ⟨b, 0, none⟩) n g.2.2.2.2.1, .slice none 0 0], 58⟩
abbrev tmE (bs : List Bs) (g : aG) : Ent := ⟨g.1, tms (fR bs 0) ++ g.2.2.1, 122⟩
abbrev vrE (vs : List Bs) (g : aG) : Ent := ⟨g.2.2.2.1, vrs vs ++ g.2.2.2.2.2, 124⟩
def aOk (n : Nat) (g : aG) : Prop := g.2.1 * 4 = n * 4 + g.2.2.1.length ∧ g.2.2.2.2.1 = n + g.2.2.2.2.2.length
theorem we (l : List Tm) : (tms l).length = l.length * 4 := by rw [aj _ _ 4 (fun _ => rfl)]
theorem vP (l : List Bs) : (vrs l).length = l.length := by rw [aj _ _ 1 (fun _ => rfl), A0]
theorem tf (bs : List Bs) (b : Bs) : fR (bs ++ [b]) 0 = fR bs 0 ++ [trm b (bs.length : Int)] := by
 rw [nQ]; simp [fR]
theorem wb (l : List Tm) (t : Tm) : tms (l ++ [t]) = tms l ++ tmC t := by simp
theorem vO (l : List Bs) (b : Bs) : vrs (l ++ [b]) = vrs l ++ [.string (S b)] := by simp
theorem mQ {bd ba tg : Bs} {gv : Value} {bS bE : Nat} {bs vs : List Bs} {o1 o2 : Option Nat} {c1 c2 : Nat} {p1 p2 : List Value} {rr : List Ent} {ok : Nat → Prop} {w0 : World} {fs : List Fact} {w : World} (hS0 : St ok w0 (tmE bs (o1, c1, p1, o2, c2, p2) :: vrE vs (o1, c1, p1, o2, c2, p2) :: lh bE tg bs.length (o1, c1, p1, o2, c2, p2) :: kr bS gv bs.length (o1, c1, p1, o2, c2, p2) :: rr) (fs) w) (hn : vs.length = bs.length) (hb : bs.length ≤ 1000) (hg : aOk bs.length (o1, c1, p1, o2, c2, p2)) :
  Calls Tryz.prog 59 #[.string (S bd), .string (S ba), .pointer (some ⟨bE, 0, none⟩), .pointer (some ⟨bS, 0, none⟩)] w fun e w' => ∃ g' : aG, e = .returned (tup []) ∧ aOk (bs ++ [ba]).length g' ∧ St ok w0 (tmE (bs ++ [ba]) g' :: vrE (vs ++ [bd]) g' :: lh bE tg (bs ++ [ba]).length g' :: kr bS gv (bs ++ [ba]).length g' :: rr) fs w' := by
 obtain ⟨hc1, hc2⟩ := hg
 dsimp only at hc1 hc2
 have hT := we (fR bs 0)
 rw [ik] at hT
 have hV := vP vs
 refine enter (S := St ok w0 (tmE bs (o1, c1, p1, o2, c2, p2) :: vrE vs (o1, c1, p1, o2, c2, p2) :: lh bE tg bs.length (o1, c1, p1, o2, c2, p2) :: kr bS gv bs.length (o1, c1, p1, o2, c2, p2) :: rr) (fs)) (L := [(0, .string (S bd)), (1, .string (S ba)), (2, .pointer (some ⟨bE, 0, none⟩)), (3, .pointer (some ⟨bS, 0, none⟩))]) Tryz.func59 rfl Tryz.ntmps59 rfl (Ac rfl (Ac rfl (Ac rfl (Ac rfl (An _))))) hS0 ?_
 dsimp only [lh, kr, tmE, vrE]
 refine Cq (WC.free (K := [⟨some bE, [.int .i64 0, .string (S tg), .slice (o1.map fun b => ⟨b, 0, none⟩) bs.length c1], 95⟩, ⟨some bS, [gv, .slice (o2.map fun b => ⟨b, 0, none⟩) bs.length c2, .slice none 0 0], 58⟩]) (fs0 := []) [6, 0, 1, 2, 3, 4, 5, 7, 8, 9, 10] [11] [0, 0, 0, 0, 0, 0, 1, 0, 3, 1, 0, 2] (by kernel_rfl) (by kernel_rfl) I ?_)
 refine FB ?_
 (refine Kj I (cX I I u95 I (by kernel_rfl) (by (try simp only [sN, Int.reduceToNat, Nat.reduceAdd, Nat.reduceMul, Nat.reduceSub]); rfl)) ?_)
 refine Kj I (Ld I I .tc u93) ?_
 refine ER ?_
 (refine Kj I (cX I I u58 I (by kernel_rfl) (by (try simp only [sN, Int.reduceToNat, Nat.reduceAdd, Nat.reduceMul, Nat.reduceSub]); rfl)) ?_)
 refine Kj I (Ld I I .tc u55) ?_
 refine Kj I (pf I I u55) (Kj I (Kb [[.string (S [])], [.int .i64 0], [.bool false, .string (S [])]] I I) ?_)
 refine Jf I I I I I (hO I I u93 (by kernel_rfl : _ = some (some (.agg #[.string (S []), .int .i64 0, .bool false, .string (S [])]), 4, 48)) (by kernel_rfl) (by decide) I I (by (simp [Value.cells]; done)) (by (exact cP _)) (by decide)) ?_
 intro b14
 refine Jg I I I I I (nL I u93 (by kernel_rfl : _ = some (some (.agg #[.string (S []), .int .i64 0, .bool false, .string (S [])]), 4, 48)) (by kernel_rfl) (by decide) .tc I I (fun ext w hS => by (exact hS.os)) (by rfl) (by (refine ⟨hT, by omega, by omega, by omega⟩)) (by (simp [Value.oneCell']; done))) ?_
 rintro ⟨o15, c15, s15⟩ hg15; (try dsimp only at hg15 ⊢)
 (refine Kj I (cX I I u95 I (by kernel_rfl) (by (try simp only [sN, Int.reduceToNat, Nat.reduceAdd, Nat.reduceMul, Nat.reduceSub]); rfl)) ?_)
 refine WJ.set 16 I (v' := .pointer (some ⟨bE, 2, none⟩)) (by rfl) ?_
 refine WJ.nil ?_
 refine Ng I I (st I I I .tc (by kernel_rfl) I ?_ (by (simp only [Av, Aw]; rfl))) ?_
 ·(simp; done)
 intro _
 refine Nt (Cg ?_)
 (refine Kq I (cX I I u58 I (by kernel_rfl) (by (try simp only [sN, Int.reduceToNat, Nat.reduceAdd, Nat.reduceMul, Nat.reduceSub]); rfl)) ?_)
 refine Kq I (Ld I I .tc u55) ?_
 refine Km I (Kq I (Kb [[.string (S [])]] I I) ?_)
 refine Kh I (g8 I I u55 (by kernel_rfl : _ = some (some (.agg #[.string (S [])]), 1, 16)) (by kernel_rfl) (by decide) I I (by (simp [Value.cells]; done)) (by (exact cP _)) (by decide)) ?_
 intro b21
 refine Kh I (vB I u55 (by kernel_rfl : _ = some (some (.agg #[.string (S [])]), 1, 16)) (by kernel_rfl) (by decide) .tc I I (fun w hS => by (exact hS.os)) (by rfl) (by (refine ⟨by rw [hV, hn, A0], by omega, by omega, by omega⟩)) (by (simp [Value.oneCell']; done))) ?_
 rintro ⟨o22, c22, s22⟩
 refine WL.pu ?_
 intro hg22; (try dsimp only at hg22 ⊢)
 (refine Kq I (cX I I u58 I (by kernel_rfl) (by (try simp only [sN, Int.reduceToNat, Nat.reduceAdd, Nat.reduceMul, Nat.reduceSub]); rfl)) ?_)
 refine Ns 23 I (v' := .pointer (some ⟨bS, 1, none⟩)) (by rfl) ?_
 refine Ng I I (st I I I .tc (by kernel_rfl) I ?_ (by (simp only [Av, Aw]; rfl))) ?_
 ·(simp; done)
 intro _
 refine Nn (WX.ret_normal ?_)
 exact Rn I .nil fun w' hS => ⟨(o15, c15, s15, o22, c22, s22), rfl, ⟨by dsimp only; rw [A5]; exact hg15, by dsimp only; rw [A5]; simpa using hg22⟩, by
  dsimp only [lh, kr, tmE, vrE]
  rw [tf, wb, vO, A5, List.length_singleton]
  exact au _ hS⟩
theorem pM {a b : Bs} (ha : okN a) (hb : okN b) (h : val a + val b < Big) : addN a b = (ae (val a + val b), 0) := by rw [addN, Ab ⟨ha, hb⟩, Ab h]
theorem yx {a b : Bs} (ha : okN a) (hb : okN b) (h : (addN a b).2 = 0) : val a + val b < Big := A1 fun h1 => by
 rw [addN, Ab ⟨ha, hb⟩, Aa h1] at h; exact absurd h (by decide)
theorem kX {a b : Bs} (ha : okN a) (hb : okN b) (h : val a * val b < Big) : bG a b = (ae (val a * val b), 0) := by rw [bG, Ab ⟨ha, hb⟩, Ab h]
theorem ul {a b : Bs} (ha : okN a) (hb : okN b) (h : (bG a b).2 = 0) : val a * val b < Big := A1 fun h1 => by
 rw [bG, Ab ⟨ha, hb⟩, Aa h1] at h; exact absurd h (by decide)
abbrev sA (p : PR) := addN p.lo p.sz
abbrev sM (p : PR) := bG (sA p).1 p.msk
abbrev sB2 (p : PR) := addN p.bl p.bl
abbrev sC (p : PR) := addN (sB2 p).1 (sM p).1
abbrev sH (p : PR) := bG p.han p.msk
def szE (p : PR) : Prop := (sA p).2 = 0 ∧ (sM p).2 = 0 ∧ (sB2 p).2 = 0 ∧ (sC p).2 = 0 ∧ (sH p).2 = 0
instance (p : PR) : Decidable (szE p) := inferInstanceAs (Decidable (_ ∧ _))
theorem pS {p : Nat} {a b : Bs} {er : Int} {rr : List Ent} {ok : Nat → Prop} {w0 : World} {fs : List Fact} {w : World} (hS0 : St ok w0 (⟨some p, [.int .i64 er], 47⟩ :: rr) (fs) w) :
  Calls Tryz.prog 107 #[.string (S a), .string (S b), .pointer (some ⟨p, 0, none⟩)] w fun e w' => e = .returned (.string (S (addN a b).1)) ∧ St ok w0 (⟨some p, [.int .i64 (max er (addN a b).2)], 47⟩ :: rr) (fs) w' := by
 refine enter (S := St ok w0 (⟨some p, [.int .i64 er], 47⟩ :: rr) (fs)) (L := [(0, .string (S a)), (1, .string (S b)), (2, .pointer (some ⟨p, 0, none⟩))]) Tryz.func107 rfl Tryz.ntmps107 rfl (Ac rfl (Ac rfl (Ac rfl (An _)))) hS0 ?_
 refine Cs (DT ?_); refine Km I (Kc I (fun w hS => yy (a := a) (b := b)) (BY ?_)); refine Cs (Kq I (Ld I I .tc u47) ?_)
 refine Km I (Kq I (gF I I I) (Ng I I (st I I I .tc (by kernel_rfl) I ?_ (by (simp only [Av, Aw]; rfl))) ?_))
 ·(simp; done)
 intro _
 refine Nt (Cs (Km I (to ?_)))
 exact Rn I (.tmp I .nil) fun w' hS => ⟨by rfl, by (exact hS)⟩
theorem mM {p : Nat} {a b : Bs} {er : Int} {rr : List Ent} {ok : Nat → Prop} {w0 : World} {fs : List Fact} {w : World} (hS0 : St ok w0 (⟨some p, [.int .i64 er], 47⟩ :: rr) (fs) w) :
  Calls Tryz.prog 108 #[.string (S a), .string (S b), .pointer (some ⟨p, 0, none⟩)] w fun e w' => e = .returned (.string (S (bG a b).1)) ∧ St ok w0 (⟨some p, [.int .i64 (max er (bG a b).2)], 47⟩ :: rr) (fs) w' := by
 refine enter (S := St ok w0 (⟨some p, [.int .i64 er], 47⟩ :: rr) (fs)) (L := [(0, .string (S a)), (1, .string (S b)), (2, .pointer (some ⟨p, 0, none⟩))]) Tryz.func108 rfl Tryz.ntmps108 rfl (Ac rfl (Ac rfl (Ac rfl (An _)))) hS0 ?_
 refine Cs (DT ?_); refine Km I (Kc I (fun w hS => um (a := a) (b := b)) (BY ?_)); refine Cs (Kq I (Ld I I .tc u47) ?_)
 refine Km I (Kq I (gF I I I) (Ng I I (st I I I .tc (by kernel_rfl) I ?_ (by (simp only [Av, Aw]; rfl))) ?_))
 ·(simp; done)
 intro _
 refine Nt (Cs (Km I (to ?_)))
 exact Rn I (.tmp I .nil) fun w' hS => ⟨by rfl, by (exact hS)⟩
abbrev tB (p : PR) := bG (ae 2) p.bl
abbrev tC (p : PR) := addN (tB p).1 (sM p).1
def tE (p : PR) : Prop := (tB p).2 = 0 ∧ (sA p).2 = 0 ∧ (sM p).2 = 0 ∧ (tC p).2 = 0 ∧ (sH p).2 = 0
theorem yf {p : PR} (h : cr p = 0) (h1 : szV p < Big) (h2 : szH p < Big) : tE p ∧ (tC p).1 = ae (szV p) ∧ (sH p).1 = ae (szH p) := by
 obtain ⟨hok, _, hrg⟩ := eG h
 have o : ∀ x ∈ ft p, okN x := hok.1
 have hB8 : 8 < Big := Ay (by decide) fg
 have hlo : okN p.lo := o _ (by simp); have hsz : okN p.sz := o _ (by simp); have hbl : okN p.bl := o _ (by simp); have hmk : okN p.msk := o _ (by simp); have hha : okN p.han := o _ (by simp)
 have hm2 : 2 ≤ val p.msk := hrg.1 _ (by simp)
 unfold szV at h1; unfold szH at h2
 have a0 : val p.lo + val p.sz ≤ (val p.lo + val p.sz) * val p.msk := Nat.le_mul_of_pos_right _ (by omega)
 have eA := pM hlo hsz (by omega)
 have eM : bG (ae (val p.lo + val p.sz)) p.msk = (ae ((val p.lo + val p.sz) * val p.msk), 0) := by
  rw [kX (aq (by omega)) hmk (by rw [af]; omega), af]
 have eB : bG (ae 2) p.bl = (ae (2 * val p.bl), 0) := by rw [kX (aq (by omega)) hbl (by rw [af]; omega), af]
 have eC : addN (ae (2 * val p.bl)) (ae ((val p.lo + val p.sz) * val p.msk)) = (ae (szV p), 0) := by
  rw [pM (aq (by omega)) (aq (by omega)) (by rw [af, af]; omega), af, af, szV]
 have eH := kX hha hmk h2
 simp only [tE, sA, sM, tB, tC, sH, eA, eM, eB, eC, eH, szH, and_self]
theorem CX {p : PR} (h : cr p = 0) (he : tE p) : szV p < Big ∧ szH p < Big := by
 obtain ⟨hok, _, hrg⟩ := eG h
 have o : ∀ x ∈ ft p, okN x := hok.1
 have hB8 : 8 < Big := Ay (by decide) fg
 have hlo : okN p.lo := o _ (by simp); have hsz : okN p.sz := o _ (by simp); have hbl : okN p.bl := o _ (by simp); have hmk : okN p.msk := o _ (by simp); have hha : okN p.han := o _ (by simp)
 obtain ⟨hB, hA, hM, hC, hH⟩ := he
 have zA := yx hlo hsz hA
 have eA := pM hlo hsz zA
 simp only [sM, sA, eA] at hM
 have zM := ul (aq zA) hmk hM
 have eM := kX (aq zA) hmk zM
 rw [af] at zM eM
 have zB := ul (aq (by omega)) hbl hB
 have eB := kX (aq (by omega)) hbl zB
 rw [af] at zB eB
 simp only [tC, tB, sM, sA, eA, eM, eB] at hC
 have zC := yx (aq zB) (aq zM) hC
 rw [af, af] at zC
 exact ⟨by rw [szV]; omega, ul hha hmk hH⟩
theorem vE (a b : Bs) : 0 ≤ (addN a b).2 := by unfold addN; split <;> (try split) <;> first | exact Int.le_refl 0 | decide
theorem pr (a b : Bs) : 0 ≤ (bG a b).2 := by unfold bG; split <;> (try split) <;> first | exact Int.le_refl 0 | decide
theorem DF {a b c d e : Int} (ha : 0 ≤ a) (hb : 0 ≤ b) (hc : 0 ≤ c) (hd : 0 ≤ d) (he : 0 ≤ e) : max (max (max (max (max 0 a) b) c) d) e = 0 ↔ a = 0 ∧ b = 0 ∧ c = 0 ∧ d = 0 ∧ e = 0 := by omega
theorem nr {P : Program} {f : FuncId} {args : Array Value} {v : Value} {ok : Nat → Prop} {w0 : World} {ext rr : List Ent} {x x' : Ent} {fs : List Fact}
  (h : ∀ w, St ok w0 (x :: (ext ++ rr)) fs w → Calls P f args w (fun e w' => e = .returned v ∧ St ok w0 (x' :: (ext ++ rr)) fs w')) :
  ∀ w, St ok w0 (ext ++ x :: rr) fs w → Calls P f args w (fun e w' => ∃ _g : Unit, e = .returned v ∧ True ∧ St ok w0 (ext ++ x' :: rr) fs w') :=
 fun w hS => (h w (hS.perm List.perm_middle.symm)).mono fun _ _ ⟨h1, h2⟩ => ⟨(), h1, trivial, h2.perm List.perm_middle⟩
theorem t8 {p : PR} {w : World} (hm8 : p.mn.1.1.length ≤ 8) (hD : TabD w) :
  Cw 58 #[prV p] w (.tuple #[.string (S (jN p).1.1), .string (S (jN p).1.2), .int .i64 (jN p).2]) := by
 refine En [] [(0, prV p)] Tryz.func58 I Tryz.ntmps58 I (Ac I (An _)) Fn (DO ?_)
 intro b1
 refine Ka I (Ka I (Ka I (Nt (Cq (Cs (Kq I (lda I I .tc u30 I ?_) ?_))))))
 ·kernel_rfl
 refine Gv ?_; refine DT ?_; refine EL (fun hc14 => ?_) (fun hc14 => ?_)
 ·refine Cs (Km I (Ka I (Ka I (ne ?_))))
  exact R3 I I I I (by rw [jN, Ab (by simpa using hc14)]; rfl)
 ·have h0 : cr p = 0 := by simpa using hc14
  have hmx := DF (pr (ae 2) p.bl) (vE p.lo p.sz) (pr (sA p).1 p.msk) (vE (tB p).1 (sM p).1) (pr p.han p.msk)
  refine Ck (Xa (Cs (FV ?_)))
  intro b6
  refine Ng I I (st I I I .tc (by kernel_rfl) I ?_ (by (simp only [Av, Aw]; rfl))) ?_
  ·decide
  intro _
  refine Nt (Cs (Kq I (cW I I I) (Gq ?_))); refine Ka I (Nt (Cq (WC.free (K := [⟨some b1, prC p, 30⟩]) (fs0 := []) [2, 1, 3, 4, 5, 7, 8, 9, 10, 11, 12, 6, 13, 14, 15, 0, 16, 17] [] [0, 0, 1, 0, 0, 1, 0, 0, 0, 0, 0, 0, 1, 0, 0, 1, 1, 0] (by kernel_rfl) (by kernel_rfl) I ?_)))
  refine Jv I I I I I (fun ext => Oc I I (Kv fun w hS => f8 (n := 2) (by omega))) ?_
  refine ER ?_; refine Kj I (Fa (q := 15) I I u30 I I) (DY ?_)
  refine Jg I I I I I (fun ext => aN I I I (by kernel_rfl) I (nr fun w hS => mM (p := b6) (a := ae 2) (b := p.bl) hS)) ?_
  intro _ _
  refine ER ?_; refine Kj I (Fa (q := 13) I I u30 I I) (DY ?_)
  refine Kj I (Fa (q := 14) I I u30 I I) (DY ?_)
  refine Jg I I I I I (fun ext => aN I I I (by kernel_rfl) I (nr fun w hS => pS (p := b6) (a := p.lo) (b := p.sz) hS)) ?_
  intro _ _
  refine ER ?_; refine Kj I (Fa (q := 16) I I u30 I I) (DY ?_)
  refine Jg I I I I I (fun ext => aN I I I (by kernel_rfl) I (nr fun w hS => mM (p := b6) (a := (sA p).1) (b := p.msk) hS)) ?_
  intro _ _
  refine ER ?_
  refine Jg I I I I I (fun ext => aN I I I (by kernel_rfl) I (nr fun w hS => pS (p := b6) (a := (tB p).1) (b := (sM p).1) hS)) ?_
  intro _ _
  refine ES ?_
  refine WJ.nil ?_
  refine Nt (Cs (Km I (F6 ?_)))
  refine Kf 16 I u30 I I I .tc u22 ?_
  refine Kh I (aN I I I (by kernel_rfl) I (ns fun w hS => mM (p := b6) (a := p.han) (b := p.msk) hS)) ?_
  intro _
  refine Ka I (Nt (Cq (Cs (Kq I (Ld I I .tc u47) ?_))))
  refine EL (fun hc42 => ?_) (fun hc42 => ?_)
  ·have hn : ¬ (szV p < Big ∧ szH p < Big) := fun h => (by simpa using hc42 : ¬ _) (hmx.2 (yf h0 h.1 h.2).1)
   refine Cs (Ka I (Ka I (ne ?_))); exact R3 I I I I (by rw [jN, Aa (fun h => h h0), Aa hn]; rfl)
  ·have hy := CX h0 (hmx.1 (by simpa using hc42)); have he := yf h0 hy.1 hy.2; refine EN ?_; refine Ka I (Ka I (to ?_)); exact R3 I I I I (by rw [jN, Aa (fun h => h h0), Ab hy, ← he.2.1, ← he.2.2]; rfl)
section
variable {E F R : List Ent} {u v a b c d : Ent}
theorem perm4 : (E ++ (F ++ u :: v :: a :: b :: c :: d :: R)).Perm (a :: b :: c :: d :: (E ++ (F ++ u :: v :: R))) := by
 have h1 : E ++ (F ++ u :: v :: a :: b :: c :: d :: R) = (E ++ F ++ [u, v]) ++ ([a, b, c, d] ++ R) := by simp
 have h2 : a :: b :: c :: d :: (E ++ (F ++ u :: v :: R)) = [a, b, c, d] ++ ((E ++ F ++ [u, v]) ++ R) := by simp
 rw [h1, h2]; exact List.perm_append_comm_assoc _ _ _
theorem zD {P : Program} {f : FuncId} {args : Array Value} {γ : Type} {val : γ → Value} {p : γ → Prop} {ok : Nat → Prop} {w0 : World} {fs : List Fact} {a' b' c' d' : γ → Ent}
  (h : ∀ w, St ok w0 (a :: b :: c :: d :: (E ++ (F ++ u :: v :: R))) fs w → Calls P f args w (fun e w' => ∃ g, e = .returned (val g) ∧ p g ∧ St ok w0 (a' g :: b' g :: c' g :: d' g :: (E ++ (F ++ u :: v :: R))) fs w')) :
  ∀ w, St ok w0 (E ++ (F ++ u :: v :: a :: b :: c :: d :: R)) fs w → Calls P f args w (fun e w' => ∃ g, e = .returned (val g) ∧ p g ∧ St ok w0 (E ++ (F ++ u :: v :: a' g :: b' g :: c' g :: d' g :: R)) fs w') :=
 fun w hS => (h w (hS.perm perm4.symm)).mono fun _ _ ⟨g, h1, h2, h3⟩ => ⟨g, h1, h2, h3.perm perm4⟩
end
theorem rf : ∀ {d : List Int} {last n : Int}, eu last d n = true → last ≤ n → (d.length : Int) ≤ n - last
 | [], _, _, _, h => by simp; omega
 | x :: l, last, n, h, hn => by
  rw [eu, Cj] at h
  have h1 := of_decide_eq_true h.1
  have h2 := rf h.2 (by omega)
  rw [Ar]; push_cast; omega
abbrev bsW (k : IK) (xa : Bs) (l : List Nat) : List Bs := xa :: k.s :: l.map (rD k)
abbrev vsW (p : PR) (l : List Nat) : List Bs := p.sz :: (jN p).1.1 :: l.map (lim p)
theorem q7 {k : IK} {xa : Bs} {l : List Nat} {x : Nat} : bsW k xa (l ++ [x]) = bsW k xa l ++ [rD k x] := by simp
theorem vN {p : PR} {l : List Nat} {x : Nat} : vsW p (l ++ [x]) = vsW p l ++ [lim p x] := by simp
abbrev bsL (k : IK) (xa : Bs) (d : List Int) (i : Nat) : List Bs := k.z :: xa :: (d.take i).map fun q => rD k q.toNat
abbrev zsL (p : PR) (vs : List Bs) (i : Nat) : List Zs := ofZ 1 :: ngN p.lo :: (vs.take i).map ngN
theorem x9 {k : IK} {xa : Bs} {d : List Int} {i : Nat} (h : i < d.length) : bsL k xa d (i + 1) = bsL k xa d i ++ [rD k (d.getD i default).toNat] := by
 rw [bsL, aV h]; simp
theorem vI {p : PR} {vs : List Bs} {i : Nat} (h : i < vs.length) : zsL p vs (i + 1) = zsL p vs i ++ [ngN (vs.getD i default)] := by
 rw [zsL, aV h]; simp
theorem lP {l : List Bs} {x : Bs} : an (l ++ [x]) = an l ++ [.string (S x)] := by simp
theorem l6 {l : List Zs} {z : Zs} : aZ (l ++ [z]) = aZ l ++ zc z := by simp
abbrev shC (p : PR) (k : IK) (rv : Value) : List Value := [.string (S p.ch), .string (S p.sl), .string (S p.mn.1.1), .string (S p.mn.1.2), .string (S p.mn.2.1), .string (S p.mn.2.2), .string (S p.wh.1.1), .string (S p.wh.1.2), .string (S p.wh.2.1), .string (S p.wh.2.2), .string (S p.sec), .string (S p.attr), .string (S p.han), .string (S p.lo), .string (S p.sz), .string (S p.bl), .string (S p.msk), .string (S k.name), .string (S k.g.1), .string (S k.g.2), .string (S k.z), .string (S k.s), rv, .string (S k.u), .string (S k.h)]
abbrev AV (b10 : Nat) : Ent := ⟨some b10, [.slice none 0 0, .slice none 0 0, .slice none 0 0], 58⟩
theorem wq {p : PR} {k : IK} {xa : Bs} {d : List Int} {vs : List Bs} (h0 : bK p k = 0) (hxa : elG k.g xa) (hasc : eu 1 d k.r.length = true) (hv : ∀ x ∈ vs, okN x) (hl : vs.length = d.length) :
  (bL k.g (k.z :: xa :: d.map fun i => rD k i.toNat) (ofZ 1 :: ngN p.lo :: vs.map ngN)).2 = 0 := by
 obtain ⟨hR, _, _, _, hg, _, _, hel⟩ := bC h0
 rw [rP hg ?_ ?_ (by simp [hl])]
 ·intro x hx
  rcases A7.1 hx with rfl | hx
  ·exact hel _ (by simp)
  ·rcases A7.1 hx with rfl | hx
   ·exact hxa
   ·obtain ⟨i, hi, rfl⟩ := B9.1 hx; have := i8 hasc i hi; exact AP h0 (by omega)
 ·intro z hz
  rcases A7.1 hz with rfl | hz
  ·exact nc
  ·rcases A7.1 hz with rfl | hz
   ·exact qw ((eG hR).1.1 _ (by simp))
   ·obtain ⟨x, hx, rfl⟩ := B9.1 hz; exact qw (hv x hx)
theorem zs0 {p : PR} {vs : List Bs} : aZ (zsL p vs 0) ++ ([] : List Value) = zc (ofZ 1) ++ zc (ngN p.lo) := by simp [zsL]
theorem bs0 {k : IK} {xa : Bs} {d : List Int} : an (bsL k xa d 0) ++ ([] : List Value) = [.string (S k.z), .string (S xa)] := by simp [bsL]
abbrev SCR (p : PR) (k : IK) (rv : Value) (b6 b10 b12 b131 b21 b22 b23 : Nat) : List Ent :=
 [⟨some b23, [.func (.func 59) #[] #[.pointer (some ⟨b22, 0, none⟩), .pointer (some ⟨b21, 0, none⟩)]], 125⟩, ⟨some b131, ((ikC k rv).drop 1).take 2, 26⟩, ⟨some b12, shC p k rv, 99⟩, AV b10, ⟨some b6, ikC k rv, 33⟩]
abbrev SCO (p : PR) (k : IK) (xa tg : Bs) (rv dv : Value) (nn : Nat) (b6 b10 b12 b131 b21 b22 b23 h1 h2 : Nat) (l : List Nat) (g : aG) : List Ent :=
 ⟨some h2, [.int .i64 (nn : Int)], 3⟩ :: ⟨some h1, [dv], 38⟩ :: tmE (bsW k xa l) g :: vrE (vsW p l) g :: lh b22 tg (bsW k xa l).length g :: kr b21 (.slice (some ⟨b131, 0, none⟩) 1 1) (bsW k xa l).length g :: SCR p k rv b6 b10 b12 b131 b21 b22 b23
theorem yI {p : PR} {k : IK} {xa : Bs} {d : List Int} {vs : List Bs} {ra da va : Option Addr} {rc dc vc : Nat} {w : World} {ok : Nat → Prop} (hF1 : (Fact.sl ra (an k.r)).holds ok w) (hF2 : (Fact.sl da (fO d)).holds ok w) (hF3 : (Fact.sl va (an vs)).holds ok w) (hm8 : p.mn.1.1.length ≤ 8) (hk8 : k.g.1.length ≤ 8) (hkl : k.r.length ≤ 100000) (hnl : k.name.length ≤ 140737488351232) (hdl : d.length ≤ 140737488351232) (hvl : vs.length ≤ 140737488351232) (hD : TabD w) :
  Calls Tryz.prog 16 #[prV p, ikV k (.slice ra k.r.length rc), .string (S xa), .slice da d.length dc, .slice va vs.length vc] w fun e w' => ∃ gx : SA, e = .returned (SME gx (shS p k xa d vs).2) ∧ (gx.core = (shS p k xa d vs).1) ∧ Below w.heap.size w w' ∧ ∀ x ∈ (saF gx : List Fact), x.holds (fun b => ok b ∨ w.heap.size ≤ b) w' := by
 refine li (S := St (fun b => ok b ∨ w.heap.size ≤ b) w [] ([Fact.sl ra (an k.r), Fact.sl da (fO d), Fact.sl va (an vs)])) (L := [(0, prV p), (1, ikV k (.slice ra k.r.length rc)), (2, .string (S xa)), (3, .slice da d.length dc), (4, .slice va vs.length vc)]) Tryz.func16 rfl Tryz.ntmps16 rfl (Ac rfl (Ac rfl (Ac rfl (Ac rfl (Ac rfl (An _)))))) (St.start (fun _ h => Or.inr h) (iR (Fc hF1 (Fc hF2 (Fc hF3 Fn))))) ?_
 refine DO ?_
 intro b5
 refine EW ?_
 intro b6
 refine Gd ?_
 intro b10
 refine Ka I (Nt (Cs (Kq I (lda I I .tc u30 I ?_) ?_)))
 ·kernel_rfl
 refine Kq I (lda I I .tc u33 I ?_) ?_
 ·kernel_rfl
 refine Kc I (fun w hS => pY (p := p) (k := k) (by (exact hS.sl)) (by assumption) (by assumption) (by omega) (by assumption) (by (exact bh hD hS))) (Km I (Ye I (Ye I (DU ?_))))
 intro b12
 refine DQ ?_; refine DR ?_; refine EL (fun hc32 => ?_) (fun hc32 => ?_)
 ·have hE : shE p k xa d vs = bK p k := by rw [shE, Ab (by simpa using hc32)]
  have hr : shS p k xa d vs = (([], [], []), bK p k) := by rw [shS, hE, Ab (by simpa using hc32)]
  refine Cs (EH ?_); refine Km I (DQ ?_); refine ne ?_
  exact WX.retM0 rfl (.agg rfl .tc u58 rfl (by kernel_rfl) (.tmp rfl .nil)) fun w' hS => gY hr hS
 ·have h0 : bK p k = 0 := by simpa using hc32
  have hg : aU k.g = 0 := (bC h0).2.2.2.2.1
  have h18 : k.r.length ≤ 18 := (bC h0).2.2.2.2.2.2.1
  refine Ck (Xa (Cq (WC.joinP (σ := Unit) [(2, _), (3, _), (4, _), (5, _), (6, _), (10, _), (11, _), (12, _)] (fun gq => [(43, .bool (decide (¬ (okN xa ∧ s9 vs))))]) (fun gq => True) (S8 I I I I I I I I) ?_ ?_)))
  ·skip
   refine Cg (Km I (Kh I (aO I I u31 (by kernel_rfl : _ = some (some (.string (S [])), 1, 16)) I (by simp only [List.map]; rfl) I I ?_ (by decide)) ?_))
   ·simp [Value.cells]
   intro b36; refine Kc I (fun w hS => io (l := [xa]) (by (exact hS.os)) (by (simp <;> omega))) (Ns 37 I (v' := .bool (decide (okN xa))) (congrArg Value.bool (by exact Af.2 (by simp))) ?_); refine Yt I (Km I (Nc 39 I (fun hg39 => ?_) (fun hg39 => ?_)))
   ·refine T2 I (Kt I (Yp I (Nn (WX.joinP (()) (S8 I I I I I I I I) (by refine (Sc ?_ (S0 _)) <;> ((refine ai rfl ?_; (try dsimp only); (simp [*]; done)))) ?_ (by (exact au)))))); (try dsimp only); done
   ·refine Km I (Kc I (fun w hS => io (l := vs) (by (exact hS.sl)) (by assumption)) (Ns 41 I (v' := .bool (decide (s9 vs))) (congrArg Value.bool (by rfl)) ?_)); refine Yt I (Yq I (Nn (WX.joinP (()) (S8 I I I I I I I I) (by refine (Sc ?_ (S0 _)) <;> ((refine ai rfl ?_; (try dsimp only); (simp [*]; done)))) ?_ (by (exact au))))); (try dsimp only); done
  ·rintro _ hmeet; (try dsimp only at hmeet ⊢); refine Ci I (fun hc43 => ?_) (fun hc43 => ?_)
   ·have hE : shE p k xa d vs = 3 := by rw [shE, Aa (fun h => h h0), Ab (show ¬ (okN xa ∧ ∀ x ∈ vs, okN x) from hc43)]
    have hr : shS p k xa d vs = (([], [], []), 3) := by rw [shS, hE, Ab (by decide)]
    refine Cs (EH ?_); refine DQ ?_; refine ne ?_; exact GG
   ·have hok : okN xa ∧ ∀ x ∈ vs, okN x := Ao.1 hc43; refine Gg ?_; refine FM ?_; refine Ep ?_; refine Km I (Kc I (fun w hS => iz (g := k.g) (x := xa) (by assumption)) (Ns 48 I (v' := .bool (decide (elG k.g xa))) (congrArg Value.bool (by simp [hg])) ?_)); refine Eq (fun hc49 => ?_) (fun hc49 => ?_)
    ·have hn : ¬ elG k.g xa := by simpa using hc49
     have hE : shE p k xa d vs = 13 := by rw [shE, Aa (fun h => h h0), Aa (fun h => h hok), Ab hn]
     have hr : shS p k xa d vs = (([], [], []), 13) := by rw [shS, hE, Ab (by decide)]
     refine Cs (EH ?_); refine DQ ?_; refine ne ?_; exact GG
    ·have hel : elG k.g xa := by simpa using hc49
     refine Fe ?_; refine FQ ?_; refine Yo I u31 (Kc I (fun w hS => p6 (l := d) (n := (k.r.length : Int)) (by (exact hS.sl)) (by assumption)) (Eq (fun hc56 => ?_) (fun hc56 => ?_)))
     ·have hasc : eu 1 d k.r.length = false := by simpa using hc56
      have hE : shE p k xa d vs = 2 := by rw [shE, Aa (fun h => h h0), Aa (fun h => h hok), Aa (fun h => h hel), Ab hasc]
      have hr : shS p k xa d vs = (([], [], []), 2) := by rw [shS, hE, Ab (by decide)]
      refine Cs (EH ?_); refine DQ ?_; refine ne ?_; exact GG
     ·have hasc : eu 1 d k.r.length = true := by simpa using hc56
      have hasn : ¬ eu 1 d k.r.length = false := by rw [hasc]; decide
      refine Fe ?_; refine Yo I u31 (Km I (Yo I u38 (EL (fun hc62 => ?_) (fun hc62 => ?_))))
      ·have hE : shE p k xa d vs = 6 := by rw [shE, Aa (fun h => h h0), Aa (fun h => h hok), Aa (fun h => h hel), Aa hasn, Ab (by omega)]
       have hr : shS p k xa d vs = (([], [], []), 6) := by rw [shS, hE, Ab (by decide)]
       refine Cs (EH ?_); refine DQ ?_; refine ne ?_; exact GG
      ·have hlen : vs.length = d.length := by omega
       have hlen2 : ¬ vs.length ≠ d.length := by omega
       have hd18 := rf hasc (by have := (bC h0).2.2.2.2.2.1; omega); refine Ck (Xa (Cq (Cf [4, 5, 6, 7, 8, 9, 0, 1, 2, 3, 10, 11, 12] [] [0, 0, 0, 3, 1, 0, 0, 0, 0, 1, 3, 0, 0] (by kernel_rfl) (by kernel_rfl) I ?_))); refine FB ?_; refine Kj I (Fa (q := 0) I I u99 I I) (Kj I (Fa (q := 0) I I u97 I I) (Kj I (Fa (q := 13) I I u30 I I) (DY ?_))); refine Jv I I I I I (fun ext => Oc I I (Kv fun w hS => p4 (x := p.lo))) ?_; refine Kj I (Fa (q := 3) I I u33 I I) (DY ?_); refine ER ?_; refine Jf I I I I I (ia I I u31 (by kernel_rfl : _ = some (some (.string (S [])), 1, 16)) I (by simp only [List.map]; rfl) I I ?_ (by decide)) ?_
       ·simp [Value.cells]
       intro b67; refine Jf I I I I I (hO I I u39 (by kernel_rfl : _ = some (some (.agg #[.bool false, .string (S [])]), 2, 24)) (by kernel_rfl) (by decide) I I (by (simp [Value.cells]; done)) (by (simp only [List.map, Value.cells, C2, List.flatMap_nil, Bl, D5]; rfl)) (by decide)) ?_; intro b74; refine ES ?_; refine ES ?_; refine WJ.nil ?_
       refine Nt (Cq (Cs (Km I (FW ?_)))); refine Lo (σ := Nat × (Option Nat) × Nat × (List Value) × (Option Nat) × Nat × (List Value)) [(2, _), (3, _), (5, _), (6, _), (10, _), (12, _), (75, _), (76, _)] (fun gq => [(77, .int .i64 (gq.1 : Int)), (14, .slice (gq.2.1.map fun b => ⟨b, 0, none⟩) (2 + gq.1) gq.2.2.1), (15, .slice (gq.2.2.2.2.1.map fun b => ⟨b, 0, none⟩) (2 + gq.1) gq.2.2.2.2.2.1)]) (fun gq => gq.1 ≤ vs.length ∧ gq.2.2.1 = 2 + gq.1 + gq.2.2.2.1.length ∧ gq.2.2.2.2.2.1 * 2 = (2 + gq.1) * 2 + gq.2.2.2.2.2.2.length ∧ ∀ x ∈ vs.take gq.1, val x < val p.attr) (fun gq => vs.length - gq.1) (fun gq => [⟨gq.2.2.2.2.1, aZ (zsL p vs gq.1) ++ gq.2.2.2.2.2.2, 37⟩, ⟨gq.2.1, an (bsL k xa d gq.1) ++ gq.2.2.2.1, 22⟩, ⟨some b12, shC p k (.slice ra k.r.length rc), 99⟩, AV b10, ⟨some b6, ikC k (.slice ra k.r.length rc), 33⟩, ⟨some b5, prC p, 30⟩]) (fun gq => [Fact.sl ra (an k.r), Fact.sl da (fO d), Fact.sl va (an vs)]) (0, some b67, 2, [], some b74, 2, []) (S8 I I I I I I I I) (S3 I I I) (by (try dsimp only); exact ⟨Ai _, rfl, rfl, by simp⟩) (by exact fun w h => by show St _ _ [⟨some b74, aZ (zsL p vs 0) ++ [], _⟩, ⟨some b67, an (bsL k xa d 0) ++ [], _⟩, _, _, _, _] _ _; rw [zs0, bs0]; exact au _ h) ?_; rintro ⟨i, o1, c1, p1, o2, c2, p2⟩ hinv1; (try dsimp only at hinv1 ⊢); obtain ⟨hi, hc1, hc2, hlt⟩ := hinv1; refine DP (fun hc78 => ?_) (fun hc78 => ?_)
       ·have hil : i < vs.length := by omega
        have hid : i < d.length := by omega
        obtain ⟨v, hv⟩ : ∃ v, Keep (v = vs.getD i default) := ⟨_, rfl⟩; have hdi := i8 hasc _ (ap d i hid); obtain ⟨y, hy⟩ : ∃ y : Nat, Keep ((y : Int) = d.getD i default) := ⟨(d.getD i default).toNat, by show ((d.getD i default).toNat : Int) = _; omega⟩; have hyl : y < k.r.length := by rw [← show (y : Int) = _ from hy] at hdi; omega
        have hov : okN v := by rw [show v = _ from hv]; exact hok.2 _ (ap vs i hil)
        have hoa : okN p.attr := (eG (bC h0).1).1.1 _ (by simp); have hzl : (aZ (zsL p vs i)).length = (2 + i) * 2 := by rw [aj _ _ 2 (fun _ => rfl), Ar, Ar, Ag, Bp]; omega
        have hbl : (an (bsL k xa d i)).length = 2 + i := by rw [Ag, Ar, Ar, Ag, Bp]; omega
        refine El ?_; refine DZ ?_; refine EI ?_; refine Ns 81 I (v' := .string (S (v))) (congrArg (fun l => Value.string (S l)) (by rw [show v = _ from hv])) ?_; refine Ka I (DR ?_); refine Kq I (Fa (q := 0) I I u99 I I) (Kq I (Fa (q := 0) I I u97 I I) (F5 ?_)); refine Kc I (fun w hS => el (a := v) (b := p.attr)) (E7 (fun hc88 => ?_) (fun hc88 => ?_))
        ·have hn : ¬ ∀ x ∈ vs, val x < val p.attr := fun h => by
          have h1 := h _ (ap vs i hil); rw [← show v = _ from hv] at h1; rw [aB hov hoa, dk] at hc88; omega
         have hE : shE p k xa d vs = 2 := by rw [shE, Aa (fun h => h h0), Aa (fun h => h hok), Aa (fun h => h hel), Aa hasn, Aa hlen2, Ab hn]
         have hr : shS p k xa d vs = (([], [], []), 2) := by rw [shS, hE, Ab (by decide)]
         refine Cs (EH ?_); refine DQ ?_; refine ne ?_; refine DS ?_; exact GG
        ·have hvl2 : val v < val p.attr := by rw [aB hov hoa, ax] at hc88; exact hc88
         refine Ck (Xa (WC.free (K := [⟨some b6, ikC k (.slice ra k.r.length rc), 33⟩]) (fs0 := [Fact.sl ra (an k.r), Fact.sl da (fO d), Fact.sl va (an vs)]) [0, 1, 2, 3, 4, 5, 6, 7, 8, 9, 10, 12, 13, 11, 14, 15, 16, 17] [] [0, 0, 0, 0, 0, 0, 0, 0, 0, 3, 1, 0, 0, 1, 3, 1, 0, 0] (by kernel_rfl) (by kernel_rfl) I ?_)); refine ER ?_; refine Kj I (Fa (q := 5) I I u33 I I) (Gc ?_); refine DW ?_; refine Kj I (Ib I I I u38 (by omega) (by (rw [Ag]; omega))) ?_; refine Kj I (ldm I I u3 I (by assumption)) ?_; refine WJ.set 96 I (v' := .int .i64 ((y : Nat) : Int)) (congrArg (Value.int .i64) (by rw [show (y : Int) = _ from hy])) ?_; refine EV ?_; refine Fy ?_; refine Jf I I I I I (ia I I u31 (by kernel_rfl : _ = some (some (.string (S [])), 1, 16)) I (by simp only [List.map]; rfl) I I ?_ (by decide)) ?_
         ·simp [Value.cells]
         intro b99; refine Jg I I I I I (oK I u31 (by kernel_rfl : _ = some (some (.string (S [])), 1, 16)) I .tc I I (fun ext w hS => by (exact hS.os)) (by rfl) (by (refine ⟨hbl, by omega, by omega, by omega⟩)) (by (simp [Value.oneCell']; done))) ?_; rintro ⟨o100, c100, s100⟩ hg100; (try dsimp only at hg100 ⊢); refine ER ?_; refine Jv I I I I I (fun ext => Oc I I (Kv fun w hS => p4 (x := v))) ?_; refine ER ?_; refine Jf I I I I I (hO I I u39 (by kernel_rfl : _ = some (some (.agg #[.bool false, .string (S [])]), 2, 24)) (by kernel_rfl) (by decide) I I (by (simp [Value.cells]; done)) (by (exact cP _)) (by decide)) ?_; intro b104; refine Jg I I I I I (nL I u39 (by kernel_rfl : _ = some (some (.agg #[.bool false, .string (S [])]), 2, 24)) (by kernel_rfl) (by decide) .tc I I (fun ext w hS => by (exact hS.os)) (by rfl) (by (refine ⟨hzl, by omega, by omega, by omega⟩)) (by (simp [Value.oneCell']; done))) ?_; rintro ⟨o105, c105, s105⟩ hg105; (try dsimp only at hg105 ⊢); refine ES ?_; refine ES ?_; refine WJ.nil ?_
         refine Nn (Xd (Xa (Cg (Kq I (Rz I I I (by omega)) (Km I (Nn (Lx ((i + 1, o100, c100, s100, o105, c105, s105)) (by (try dsimp only); omega) (S8 I I I I I I I I) (by refine (Sc ?_ (Sc ?_ (Sc ?_ (S0 _)))) <;> (rfl)) ?_ (by exact fun w h => by dsimp only; rw [x9 hid, vI hil, lP, l6, ← show (y : Int) = _ from hy, ← show v = _ from hv, At]; exact au _ h)))))))); (try dsimp only); exact ⟨hil, by omega, by omega, az hil hlt (by rw [← show v = _ from hv]; exact hvl2)⟩
       ·refine AT ?_; obtain rfl : i = vs.length := by omega
        rw [Ap] at hlt; have hE : shE p k xa d vs = (jN p).2 := by rw [shE, Aa (fun h => h h0), Aa (fun h => h hok), Aa (fun h => h hel), Aa hasn, Aa hlen2, Aa (fun h => h hlt)]
        refine Xa (Cs (Kq I (lda I I .tc u30 I ?_) ?_))
        ·kernel_rfl
        refine Kc I (fun w hS => t8 (p := p) (by assumption) (by (exact bh hD hS))) (EX ?_); refine DR ?_; refine EL (fun hc114 => ?_) (fun hc114 => ?_)
        ·have hr : shS p k xa d vs = (([], [], []), (jN p).2) := by rw [shS, hE, Ab (by simpa using hc114)]
         refine Cs (EH ?_); refine Km I (DQ ?_); refine ne ?_; exact GG
        ·have hr : shS p k xa d vs = (shT p k xa d vs, 0) := by rw [shS, hE, Aa (by simpa using hc114)]
         have hpr := wq h0 hel hasc hok.2 hlen; have hbf : bsL k xa d vs.length = k.z :: xa :: d.map fun q => rD k q.toNat := by rw [bsL, A8 (by omega)]
         have hzf : zsL p vs vs.length = ofZ 1 :: ngN p.lo :: vs.map ngN := by rw [zsL, Ap]
         have hbl : (bsL k xa d vs.length).length = 2 + vs.length := by rw [Ar, Ar, Ag, Bp]; omega
         have hzl : (zsL p vs vs.length).length = 2 + vs.length := by rw [Ar, Ar, Ag, Bp]; omega
         have hit := qE (l := bQ d k.r.length) []; rw [List.nil_append] at hit; rw [← hbf, ← hzf] at hpr; obtain ⟨tg, htg⟩ : ∃ tg, tg = tgS p k xa d vs := ⟨_, rfl⟩; have hPr : bL k.g (bsL k xa d vs.length) (zsL p vs vs.length) = (tg, 0) := by rw [htg, tgS, ← hbf, ← hzf, ← hpr]
         refine WC.set 14 I (v' := .slice (o1.map fun b => ⟨b, 0, none⟩) (bsL k xa d vs.length).length c1) (by rw [hbl]) ?_; refine WC.set 15 I (v' := .slice (o2.map fun b => ⟨b, 0, none⟩) (zsL p vs vs.length).length c2) (by rw [hzl]) ?_; refine Ck (Xa (Cs (FM ?_))); refine Ep ?_; refine Km I (Km I (Kc I (fun w hS => (by have := g6 (w := w) (g := k.g) (l := bsL k xa d vs.length) (es := zsL p vs vs.length) (a := o1.map fun b => ⟨b, 0, none⟩) (b := o2.map fun b => ⟨b, 0, none⟩) (c := c1) (d := c2) hS.oc hS.oc (by omega) (by omega) hk8; rw [hPr] at this; exact this)) (BY ?_))); refine Cq (Cs (Km I (EL (fun hc126 => ?_) (fun hc126 => ?_))))
         ·all_goals (exfalso; simp at hc126) -- done
         ·refine Ck (Xa (Cs (FM ?_))); refine Ep ?_; refine Kh I (g8 I I u54 (by kernel_rfl : _ = some (some (.agg #[.string (S []), .string (S [])]), 2, 32)) (by kernel_rfl) (by decide) I I (by (simp [Value.cells]; done)) (by (exact cP _)) (by decide)) ?_; intro b131; refine EH ?_; refine Gd ?_; intro b21; refine DQ ?_; refine Nt (Cs (Km I (Kq I (Kb [[.int .i64 0], [.string (S [])], [.slice none 0 0]] I I) ?_))); refine E1 ?_; intro b22; refine DQ ?_; refine Nt (Cs (Kq I (cW I I I) (Kh I (Oa I (v := .nilFunc) (cs := [.nilFunc]) (by kernel_rfl) I) ?_))); intro b23; refine Ng I I (st I I I .tc (by kernel_rfl) I ?_ (by (simp only [Av, Aw]; rfl))) ?_
          ·decide
          intro _; refine Nt (Cs (WL.st (fun w h => (show St _ _ (tmE [] (none, 0, [], none, 0, []) :: vrE [] (none, 0, [], none, 0, []) :: lh b22 tg ([] : List Bs).length (none, 0, [], none, 0, []) :: kr b21 (.slice (some ⟨b131, 0, none⟩) 1 1) ([] : List Bs).length (none, 0, [], none, 0, []) :: SCR p k (.slice ra k.r.length rc) b6 b10 b12 b131 b21 b22 b23) _ w from (((h.perm (List.perm_middle (l₁ := [_, _]))).nil 124).nil 122).sub (.cons_cons _ (.cons_cons _ (.cons_cons _ (.cons_cons _ (.cons_cons _ (.cons_cons _ (.cons _ (.cons _ (.cons_cons _ (.cons_cons _ (.cons_cons _ (.cons _ .slnil)))))))))))) (fun _ h => h))) ?_)); refine Kq I (Ld I I .tc yE) ?_; refine Kq I (Fa (q := 0) I I u99 I I) (Kq I (Fa (q := 0) I I u97 I I) (Kf 14 I u30 I I I .tc u22 ?_)); refine Km I (Kh I (aN I I I (by kernel_rfl) I (fun w hS => mQ (bd := p.sz) (ba := xa) (bs := []) (vs := []) (o1 := none) (o2 := none) (c1 := 0) (c2 := 0) (p1 := []) (p2 := []) hS I (by simp) ⟨rfl, rfl⟩)) ?_); rintro ⟨oA, cA, pA, oB, cB, pB⟩; refine WL.pu ?_; intro hA; refine Nt (Cs (Kq I (Ld I I .tc yE) ?_)); refine Km I (Kf 4 I u33 I I I .tc u22 ?_)
          refine Kh I (aN I I I (by kernel_rfl) I (fun w hS => (show Calls _ _ _ _ (fun e w' => ∃ g : aG, e = .returned (tup []) ∧ aOk (bsW k xa []).length g ∧ St _ _ (tmE (bsW k xa []) g :: vrE (vsW p []) g :: lh b22 tg (bsW k xa []).length g :: kr b21 (.slice (some ⟨b131, 0, none⟩) 1 1) (bsW k xa []).length g :: SCR p k (.slice ra k.r.length rc) b6 b10 b12 b131 b21 b22 b23) _ w') from mQ (bd := (jN p).1.1) (ba := k.s) (bs := [xa]) (vs := [p.sz]) (o1 := oA) (o2 := oB) (c1 := cA) (c2 := cB) (p1 := pA) (p2 := pB) hS I (by simp) hA))) ?_; intro gB; refine WL.pu ?_; intro hB; refine Nt (Cq (Cs (Km I (FQ ?_)))); refine Yo I u31 (Kh I (Oc I I (fun w hS => oy (a := da) (m := d.length) (c := dc) (n := k.r.length) hS)) ?_); intro g152
          refine Nt (Cb (WC.range (CO := SCO p k xa tg (.slice ra k.r.length rc) (.slice da d.length dc) k.r.length b6 b10 b12 b131 b21 b22 b23 g152.1 g152.2) (pg := fun l g => aOk (bsW k xa l).length g) (inv := fun l x => ∃ r, l ++ x :: r = bQ d k.r.length) (after := fun l x => l ++ [x]) (stop := fun _ _ => none) (enc := fun y : Nat => #[Value.int .i64 (y : Int)]) (([] : List Nat)) (gB) ((itL (fun (l : List Nat) x => l ++ [x]) (fun _ _ => (none : Option Code)) (bQ d k.r.length) []).1) ((itL (fun (l : List Nat) x => l ++ [x]) (fun _ _ => (none : Option Code)) (bQ d k.r.length) []).2) (hB) I (by kernel_rfl) (fun _ => rfl) (by exact fun w h => au _ h) ?_ (fun l r D w hl' hY hS => ym (J := fun l s => s ++ l = bQ d k.r.length) (d := d) (a := da) (c := dc) (n := k.r.length) hY hS hB (List.nil_append _) (fun l x s h => ⟨⟨l, h⟩, fun _ => by rw [Cl]; exact h⟩) hasc hdl (by omega)) ?_ ?_))
          ·intro l r D f a s g x ext wr hl hi hpg hF hS; obtain ⟨rr, hrr⟩ := hi; obtain ⟨hxn, hsn⟩ := qK hrr; obtain ⟨oT, cT, pT, oV, cV, pV⟩ := g; rw [qL]; refine eS (Fr.tm (hF.put (d := 153) rfl _)) hS ?_; refine FI ?_; refine Ka I (Nn (WX.begin hl ?_)); refine Cb (WR.free (K := [⟨some b23, [.func (.func 59) #[] #[.pointer (some ⟨b22, 0, none⟩), .pointer (some ⟨b21, 0, none⟩)]], 125⟩, ⟨some b12, shC p k (.slice ra k.r.length rc), 99⟩, ⟨some b6, ikC k (.slice ra k.r.length rc), 33⟩]) (fs0 := [Fact.sl ra (an k.r)]) (by kernel_rfl) [1, 2, 3, 4, 0, 5, 6, 7, 8, 9, 10] [] [0, 0, 0, 0, 1, 0, 0, 0, 0, 0, 1] (by kernel_rfl) (by kernel_rfl) I ?_); refine Kj I (Fa (q := 0) I I u99 I I) ?_; refine Kj I (ldp I I .tc u97 I (by kernel_rfl : _ = some 17) (by rfl) (by rfl)) ?_; refine ER ?_; refine Jv I I I I I (fun ext => Oc I I (Kv fun w hS => wn (p := p) (i := x))) ?_; refine Kj I (Ld I I .tc yE) ?_; refine Kj I (Fa (q := 5) I I u33 I I) (Gc ?_); refine ER ?_; refine EV ?_; refine Fy ?_; refine WJ.set 163 I (v' := .string (S (rD k x))) (congrArg (fun l => Value.string (S l)) (by rfl)) ?_
           refine Jg I I I I I (fun ext => aN I I I (by kernel_rfl) I (zD fun w hS => mQ (bd := lim p x) (ba := rD k x) (bs := bsW k xa s) (vs := vsW p s) (o1 := oT) (o2 := oV) (c1 := cT) (c2 := cV) (p1 := pT) (p2 := pV) hS (by simp) (by simp; omega) hpg)) ?_; intro g164 hg164; refine WJ.nil ?_; refine Nn (Xd ?_)
           exact WX.rnext hl fun w' hS => by
            refine ⟨rfl, g164, fun _ => ?_, ?_⟩
            ·rw [q7]; exact hg164
            ·dsimp only [SCO]; rw [q7, vN]; exact hS
          ·intro D1 g1 hD1 hg1 hcf; rw [hit]; obtain ⟨oT, cT, pT, oV, cV, pV⟩ := g1; dsimp only [SCO, SCR]
           rw [show lh b22 tg (bsW k xa (bQ d k.r.length)).length (oT, cT, pT, oV, cV, pV) = lh b22 tg (fR (bsW k xa (bQ d k.r.length)) 0).length (oT, cT, pT, oV, cV, pV) from by rw [ik],
            show kr b21 (.slice (some ⟨b131, 0, none⟩) 1 1) (bsW k xa (bQ d k.r.length)).length (oT, cT, pT, oV, cV, pV) = kr b21 (.slice (some ⟨b131, 0, none⟩) 1 1) (vsW p (bQ d k.r.length)).length (oT, cT, pT, oV, cV, pV) from by rw [show (bsW k xa (bQ d k.r.length)).length = (vsW p (bQ d k.r.length)).length by simp]]
           dsimp only [tmE, vrE, lh, kr]; refine Xd (Xa (Cs (Kq I (lda I I .tc u95 I ?_) ?_)))
           ·kernel_rfl
           refine Kh I (g8 I I u56 (by kernel_rfl : _ = some (some (.agg #[.int .i64 0, .string (S []), .slice none 0 0]), 3, 48)) (by kernel_rfl) (by decide) I I (by (simp [Value.cells]; done)) (by (exact cP _)) (by decide)) ?_; intro b166; refine Kq I (Fa (q := 2) I I u58 I I) (Ng I I (st I I I .tc (by kernel_rfl) I ?_ (by (simp only [Av, Aw]; rfl))) ?_)
           ·(simp; done)
           intro _; refine Nt (Cs (Kq I (lda I I .tc u58 I ?_) ?_))
           ·kernel_rfl
           refine DQ ?_; refine to ?_; exact WX.retM1 hD1 I (.agg I .tc u58 I (by kernel_rfl) (.tmp I .nil)) fun w' hS => ⟨⟨[k.g], vsW p (bQ d k.r.length), [((0, tg, fR (bsW k xa (bQ d k.r.length)) 0), oT.map fun b => ⟨b, 0, none⟩, cT)], some ⟨b131, 0, none⟩, 1, oV.map fun b => ⟨b, 0, none⟩, cV, some ⟨b166, 0, none⟩, 1⟩, by rw [hr]; rfl, by rw [hr, htg]; rfl, hS.below, Fc hS.osk (Fc hS.ock (Fc hS.osk (Fc hS.ock Fn)))⟩
          ·intro D1 g1 c hD1 hcf; (rw [hit] at hcf; cases hcf)
abbrev wlS (p : PR) (s : SG) (v : Zs) (ms : List Bs) (l : List Nat) : List Zs := (cG (aw s.e) (aw p.lo)).1 :: v :: l.map fun i => aw (ms.getD i default)
theorem pQ {p : PR} {s : SG} {v : Zs} {ms : List Bs} {l : List Nat} {x : Nat} : wlS p s v ms (l ++ [x]) = wlS p s v ms l ++ [aw (ms.getD x default)] := by simp [wlS]
theorem vM {p : PR} {s : SG} {v : Zs} {ms : List Bs} : aZ (wlS p s v ms []) ++ ([] : List Value) = zc (cG (aw s.e) (aw p.lo)).1 ++ zc v := by simp [wlS]
theorem uB {l : List Zs} {z : Zs} : aZ (l ++ [z]) = aZ l ++ zc z := by simp
abbrev WCO (p : PR) (s : SG) (v : Zs) (ms : List Bs) (d : List Int) (a b : Option Addr) (c e b8 b15 h1 h2 : Nat) (l : List Nat) (g : Option Nat × Nat × List Value) : List Ent :=
 [⟨some h2, [.int .i64 (ms.length : Int)], 3⟩, ⟨some h1, [.slice b d.length e], 38⟩, ⟨some b15, [.slice (g.1.map fun b => ⟨b, 0, none⟩) (wlS p s v ms l).length g.2.1], 39⟩, ⟨g.1, aZ (wlS p s v ms l) ++ g.2.2, 37⟩, ⟨some b8, [.slice a ms.length c], 31⟩]
theorem wm {p : PR} {sg : SG} {v : Zs} {ms : List Bs} {d : List Int} {am b : Option Addr} {c e : Nat} {w : World} {ok : Nat → Prop} (hF1 : (Fact.sl am (an ms)).holds ok w) (hF2 : (Fact.sl b (fO d)).holds ok w) (hm8 : p.mn.1.1.length ≤ 8) (hml : ms.length ≤ 140737488351232) (hdl : d.length ≤ 140737488351232) (hD : TabD w) :
  Calls Tryz.prog 19 #[prV p, sgV sg, zV v, .slice am ms.length c, .slice b d.length e] w fun e w' => ∃ gx : Rs, e = .returned (.tuple #[gx.val (wiS p sg v ms d).1.length, .int .i64 (wiS p sg v ms d).2]) ∧ (True) ∧ Below w.heap.size w w' ∧ ∀ x ∈ ([Fact.sl gx.a (aZ (wiS p sg v ms d).1)] : List Fact), x.holds (fun b => w.heap.size ≤ b) w' := by
 refine li (S := St (fun _ => True) w [] ([Fact.sl am (an ms), Fact.sl b (fO d)])) (L := [(0, prV p), (1, sgV sg), (2, zV v), (3, .slice am ms.length c), (4, .slice b d.length e)]) Tryz.func19 rfl Tryz.ntmps19 rfl (Ac rfl (Ac rfl (Ac rfl (Ac rfl (Ac rfl (An _)))))) (St.start (fun _ _ => trivial) (Fc (ah hF1) (Fc (ah hF2) Fn))) ?_
 refine DO ?_
 intro b5
 refine EW ?_
 intro b6
 refine EW ?_
 intro b7
 refine EW ?_
 intro b8
 refine Ka I (Ka I (Nt (Cq (Cs (Kq I (lda I I .tc u30 I ?_) ?_)))))
 ·kernel_rfl
 refine Gv ?_; refine DT ?_; refine EL (fun hc20 => ?_) (fun hc20 => ?_)
 ·have hr : wiS p sg v ms d = ([], cr p) := by rw [wiS, Ab (by simpa using hc20)]
  refine Cs (Km I (Ka I (ne ?_)))
  exact WX.retM0 rfl (.tmp rfl (.tmp rfl .nil)) fun w' hS => ⟨⟨none, 0, []⟩, by rw [hr]; rfl, trivial, hS.below, by rw [hr]; exact Fc cU Fn⟩
 ·have h0 : cr p = 0 := by simpa using hc20
  refine Ck (Xa (Cq (WC.joinP (σ := Unit) [(4, _), (5, _), (6, _), (7, _), (8, _), (10, _), (11, _)] (fun gq => [(40, .bool (decide (¬ ((okN sg.a ∧ okN sg.e ∧ okN sg.v) ∧ okZ v ∧ s9 ms))))]) (fun gq => True) (S7 I I I I I I I) ?_ ?_)))
  ·skip
   refine Cg (Kf 0 I u35 I I I .tc u22 ?_); refine Kf 1 I u35 I I I .tc u22 ?_; refine Kf 2 I u35 I I I .tc u22 ?_; refine Kh I (aO I I u31 (by kernel_rfl : _ = some (some (.string (S [])), 1, 16)) I (by simp only [List.map]; rfl) I I ?_ (by decide)) ?_
   ·simp [Value.cells]
   intro b28; refine Kc I (fun w hS => io (l := [sg.a, sg.e, sg.v]) (by (exact hS.os)) (by (simp <;> omega))) (Ns 29 I (v' := .bool (decide (okN sg.a ∧ okN sg.e ∧ okN sg.v))) (congrArg Value.bool (by exact Af.2 (by simp))) ?_); refine Yt I (Km I (Nc 31 I (fun hg31 => ?_) (fun hg31 => ?_)))
   ·refine T2 I (Kt I (Yp I (Km I (T2 I (Kt I (Yp I (Nn (WX.joinP (()) (S7 I I I I I I I) (by refine (Sc ?_ (S0 _)) <;> ((refine ai rfl ?_; (try dsimp only); (simp [*]; done)))) ?_ (by (exact au)))))))))); (try dsimp only); done
   ·refine Kq I (lda I I .tc u37 I ?_) ?_
    ·kernel_rfl
    refine Kc I (fun w hS => dY (x := v)) (Yt I (Yq I (Km I (Nc 36 I (fun hg36 => ?_) (fun hg36 => ?_)))))
    ·refine T2 I (Kt I (Yp I (Nn (WX.joinP (()) (S7 I I I I I I I) (by refine (Sc ?_ (S0 _)) <;> ((refine ai rfl ?_; (try dsimp only); (simp [*]; done)))) ?_ (by (exact au)))))); (try dsimp only); done
    ·refine Kq I (Ld I I .tc u31) ?_; refine Kc I (fun w hS => io (l := ms) (by (exact hS.sl)) (by assumption)) (Ns 38 I (v' := .bool (decide (s9 ms))) (congrArg Value.bool (by rfl)) ?_); refine Yt I (Yq I (Nn (WX.joinP (()) (S7 I I I I I I I) (by refine (Sc ?_ (S0 _)) <;> ((refine ai rfl ?_; (try dsimp only); (simp [*]; done)))) ?_ (by (exact au))))); (try dsimp only); done
  ·rintro _ hmeet; (try dsimp only at hmeet ⊢); refine Ci I (fun hc40 => ?_) (fun hc40 => ?_)
   ·have hr : wiS p sg v ms d = ([], 3) := by rw [wiS, Aa (fun h => h h0), Ab (show ¬ ((okN sg.a ∧ okN sg.e ∧ okN sg.v) ∧ okZ v ∧ ∀ x ∈ ms, okN x) from hc40)]
    refine Cs (Ka I (ne ?_)); exact GL
   ·have hok := Ao.1 hc40; refine Ck (Xa (Cq (WC.joinP (σ := Unit) [(4, _), (5, _), (6, _), (7, _), (8, _), (10, _), (11, _)] (fun gq => [(48, .bool (decide (ms.length < 2 ∨ 18 < ms.length)))]) (fun gq => True) (S7 I I I I I I I) ?_ ?_)))
    ·skip
     refine Cg (Kq I (Ld I I .tc u31) ?_); refine Yo I u31 (Yl I (Km I (Nc 44 I (fun hg44 => ?_) (fun hg44 => ?_))))
     ·refine T2 I (Kt I (Yp I (Nn (WX.joinP (()) (S7 I I I I I I I) (by refine (Sc ?_ (S0 _)) <;> ((exact congrArg (fun b => some (Value.bool b)) (by symm; apply Am; omega)))) ?_ (fun _ h => h))))); (try dsimp only); done
     ·refine Kq I (Ld I I .tc u31) ?_; refine Yo I u31 (Yg I (Yq I (Nn (WX.joinP (()) (S7 I I I I I I I) (by refine (Sc ?_ (S0 _)) <;> ((refine ai rfl ?_; (try dsimp only); (exact Af.2 (by omega))))) ?_ (fun _ h => h))))); (try dsimp only); done
    ·rintro _ hmeet; (try dsimp only at hmeet ⊢); refine Ci I (fun hc48 => ?_) (fun hc48 => ?_)
     ·have hr : wiS p sg v ms d = ([], 6) := by rw [wiS, Aa (fun h => h h0), Aa (fun h => h hok), Ab hc48]
      refine Cs (Ka I (ne ?_)); exact GL
     ·refine Fe ?_; refine Kq I (Ld I I .tc u31) ?_; refine Yo I u31 (Kc I (fun w hS => p6 (l := d) (n := (ms.length : Int)) (by (exact hS.sl)) (by assumption)) (Eq (fun hc53 => ?_) (fun hc53 => ?_)))
      ·have hasc : eu 1 d ms.length = false := by simpa using hc53
       have hr : wiS p sg v ms d = ([], 2) := by rw [wiS, Aa (fun h => h h0), Aa (fun h => h hok), Aa hc48, Ab hasc]
       refine Cs (Ka I (ne ?_)); exact GL
      ·have hasc : eu 1 d ms.length = true := by simpa using hc53
       have hr : wiS p sg v ms d = (wlS p sg v ms (bQ d ms.length), 0) := by rw [wiS, Aa (fun h => h h0), Aa (fun h => h hok), Aa hc48, Aa (by rw [hasc]; decide)]
       have hit := qE (l := bQ d ms.length) []; rw [List.nil_append] at hit; have hm18 : ms.length ≤ 18 := by omega
       refine Ck (Xa (Cq (WC.free (K := [⟨some b6, [.string (S sg.a), .string (S sg.e), .string (S sg.v)], 35⟩, ⟨some b5, prC p, 30⟩]) (fs0 := []) [0, 1, 2, 3, 4, 5, 6, 7, 8, 10, 11, 9, 12] [] [0, 0, 1, 0, 0, 1, 1, 0, 0, 0, 3, 1, 0] (by kernel_rfl) (by kernel_rfl) I ?_))); refine Kj I (Fa (q := 1) I I u35 I I) (DY ?_); refine Jv I I I I I (fun ext => Oc I I (Kv fun w hS => cR (a := sg.e))) ?_; refine Kj I (Fa (q := 13) I I u30 I I) (DY ?_); refine Jv I I I I I (fun ext => Oc I I (Kv fun w hS => cR (a := p.lo))) ?_; refine Jv I I I I I (fun ext => Oc I I (Kv fun w hS => mE (x := aw sg.e) (y := aw p.lo))) ?_; refine ER ?_; refine F3 ?_; refine DV ?_; intro b13; refine WJ.st I I I I (gS I I I ?_ ?_ ?_) ?_
       ·kernel_rfl
       ·simp [Value.oneCell']
       ·rfl
       refine F3 ?_; refine ES ?_; refine WJ.nil ?_; refine Nt (Cs (Kq I (lda I I .tc u37 I ?_) ?_))
       ·kernel_rfl
       refine Kq I (lda I I .tc u37 I ?_) ?_
       ·kernel_rfl
       refine Kh I (g8 I I u39 (by kernel_rfl : _ = some (some (.agg #[.bool false, .string (S [])]), 2, 24)) (by kernel_rfl) (by decide) I I (by (simp [Value.cells]; done)) (by (simp only [List.map, Value.cells, C2, List.flatMap_nil, Bl, D5]; rfl)) (by decide)) ?_; intro b66; refine Kh I (Oa I (v := (.slice none 0 0)) (cs := [.slice none 0 0]) (by kernel_rfl) I) ?_; intro b15; refine Ng I I (st I I I .tc (by kernel_rfl) I ?_ (by (simp only [Av, Aw]; rfl))) ?_
       ·decide
       intro _; refine Nt (Cq (Cs (Km I (Kq I (Ld I I .tc u31) ?_)))); refine Yo I u31 (Kh I (Oc I I (fun w hS => oy (a := b) (m := d.length) (c := e) (n := ms.length) hS)) ?_); intro g70; refine Nt (Cb (WC.range (CO := WCO p sg v ms d am b c e b8 b15 g70.1 g70.2) (pg := fun l g => g.2.1 * 2 = (wlS p sg v ms l).length * 2 + g.2.2.length) (inv := fun l x => ∃ r, l ++ x :: r = bQ d ms.length) (after := fun l x => l ++ [x]) (stop := fun _ _ => none) (enc := fun y : Nat => #[Value.int .i64 (y : Int)]) (([] : List Nat)) ((some b66, 2, [])) ((itL (fun (l : List Nat) x => l ++ [x]) (fun _ _ => (none : Option Code)) (bQ d ms.length) []).1) ((itL (fun (l : List Nat) x => l ++ [x]) (fun _ _ => (none : Option Code)) (bQ d ms.length) []).2) (rfl) I (by kernel_rfl) (fun _ => rfl) (by exact fun w h => by show St _ _ [⟨some g70.2, _, _⟩, ⟨some g70.1, _, _⟩, ⟨some b15, [.slice (some ⟨b66, 0, none⟩) 2 2], _⟩, ⟨some b66, aZ (wlS p sg v ms []) ++ [], _⟩, ⟨some b8, _, _⟩] _ _; rw [vM]; exact au _ h) ?_ (fun l r D w hl' hY hS => ym (J := fun l s => s ++ l = bQ d ms.length) (d := d) (a := b) (c := e) (n := ms.length) hY hS I (List.nil_append _) (fun l x s h => ⟨⟨l, h⟩, fun _ => by rw [Cl]; exact h⟩) hasc hdl hml) ?_ ?_))
       ·intro l r D f a s g x ext wr hl hi hpg hF hS; obtain ⟨rr, hrr⟩ := hi; obtain ⟨hxn, hsn⟩ := qK hrr; rw [qL]; refine eS (Fr.tm (hF.put (d := 71) rfl _)) hS ?_; refine FI ?_; refine Ka I (Nn (WX.begin hl ?_)); refine Cb (WR.free (K := [⟨some b15, [.slice (g.1.map fun b => ⟨b, 0, none⟩) (wlS p sg v ms s).length g.2.1], 39⟩, ⟨some b8, [.slice am ms.length c], 31⟩]) (fs0 := [Fact.sl am (an ms)]) (by kernel_rfl) [1, 2, 3, 4, 5, 0, 6, 7] [8] [0, 0, 0, 0, 0, 1, 3, 1, 2] (by kernel_rfl) (by kernel_rfl) I ?_); refine Gc ?_; refine ER ?_; refine EV ?_; refine Fy ?_; refine Jv I I I I I (fun ext => Oc I I (Kv fun w hS => cR (a := ms.getD x default))) ?_; refine Kj I (Ld I I .tc u39) ?_; refine Jf I I I I I (hO I I u39 (by kernel_rfl : _ = some (some (.agg #[.bool false, .string (S [])]), 2, 24)) (by kernel_rfl) (by decide) I I (by (simp [Value.cells]; done)) (by (exact cP _)) (by decide)) ?_; intro b78
        refine Jg I I I I I (nL I u39 (by kernel_rfl : _ = some (some (.agg #[.bool false, .string (S [])]), 2, 24)) (by kernel_rfl) (by decide) .tc I I (fun ext w hS => by (exact hS.os)) (by rfl) (by (refine ⟨?_, ?_, ?_, ?_⟩ <;> first | omega | (rw [aj _ _ 2 (fun _ => rfl)]; done) | ((try simp) <;> omega))) (by (simp [Value.oneCell']; done))) ?_; rintro ⟨o79, c79, s79⟩ hg79; (try dsimp only at hg79 ⊢); refine WJ.nil ?_; refine Ng I I (st I I I .tc (by kernel_rfl) I ?_ (by (simp only [Av, Aw]; rfl))) ?_
        ·(simp; done)
        intro _; refine Nn (Xd ?_)
        exact WX.rnext hl fun w' hS => by
         have e1 : (wlS p sg v ms (s ++ [x])).length = (wlS p sg v ms s).length + 1 := by rw [pQ, A5]; rfl
         have e2 : aZ (wlS p sg v ms (s ++ [x])) = aZ (wlS p sg v ms s) ++ zc (aw (ms.getD x default)) := by rw [pQ, uB]
         refine ⟨rfl, (o79, c79, s79), fun _ => ?_, ?_⟩
         ·dsimp only; rw [e1]; exact hg79
         ·show St _ _ (ext ++ [⟨_, _, _⟩, ⟨_, _, _⟩, ⟨some b15, [.slice _ (wlS p sg v ms (s ++ [x])).length _], _⟩, ⟨_, aZ (wlS p sg v ms (s ++ [x])) ++ s79, _⟩, ⟨_, _, _⟩]) _ _; rw [e1, e2]; exact hS.sub (C1 _ _) (fun _ h => h)
       ·intro D1 g1 hD1 hg1 hcf; rw [hit]; obtain ⟨o1, cp1, sp1⟩ := g1; dsimp only [WCO]; refine Xd (Xa (Cs (Kq I (Ld I I .tc u39) ?_))); refine Ka I (to ?_); exact WX.retM1 hD1 I (.tmp I (.tmp I .nil)) fun w' hS => ⟨⟨o1, cp1, sp1⟩, by rw [hr]; rfl, trivial, hS.below, by rw [hr]; exact Fc hS.ocf Fn⟩
       ·intro D1 g1 c hD1 hcf; (rw [hit] at hcf; cases hcf)
theorem zn {x y : Zs} (hx : okZ x) (hy : okZ y) : (bP x y).2 = 0 ∨ (bP x y).2 = 5 := by
 rw [bP, Ab ⟨hx, hy⟩]
 simp only
 rw [bG, Ab ⟨hx.1, hy.1⟩]
 split
 ·exact .inl rfl
 ·exact .inr rfl
theorem yH {x y : Zs} (hx : okZ x) (hy : okZ y) : (cG x y).2 = 0 ∨ (cG x y).2 = 5 := by
 obtain ⟨a, ha, rfl⟩ := j1.1 hx
 obtain ⟨b, hb, rfl⟩ := j1.1 hy
 rw [mN ha hb]; split
 ·exact .inl rfl
 ·exact .inr rfl
theorem vw {t : Tp} {n : Bs} (h : (aI t n).2.2 = 0) : eD t := by
 unfold aI at h; split at h
 ·rename_i h1; exact absurd h h1
 ·rename_i h1; exact (n3 (Ao.1 h1)).1
theorem eU {w w' : World} {own : List Ent} {T : TypeId} {fs : List Fact} {ok : Nat → Prop} (h : St ok w own fs w') : St ok w [⟨none, [] ++ [], T⟩] [] w' := (h.nil T).sub (Dq _ (List.nil_sublist _)) (fun _ h => by cases h)
abbrev rnV (r : (Bs × Zs × Tp) × Int) (g : Rs) : Value := .tuple #[.string (S r.1.1), zV r.1.2.1, r.1.2.2.v (g.val r.1.2.2.vals.length), .int .i64 r.2]
abbrev rzM (p : PR) (s : SG) (t : Tp) : Zs × Int := bP (aw s.e) (aw (aI t p.msk).1)
abbrev rzV (p : PR) (s : SG) (t : Tp) : Zs × Int := cG (aw s.v) (rzM p s t).1
theorem pZ {p : PR} {k : IK} {s : SG} {t : Tp} {a b : Option Addr} {c d : Nat} {w : World} {ok : Nat → Prop} (hF1 : (Fact.sl a (an k.r)).holds ok w) (hF2 : (Fact.sl b (an t.vals)).holds ok w) (hm8 : p.mn.1.1.length ≤ 8) (hk8 : k.g.1.length ≤ 8) (hkl : k.r.length ≤ 100000) (hnl : k.name.length ≤ 140737488351232) (hl : t.vals.length ≤ 100000) (hsd : t.seed.length ≤ 400000) (hT : Tab w) (hD : TabD w) :
  Calls Tryz.prog 13 #[prV p, ikV k (.slice a k.r.length c), sgV s, t.v (.slice b t.vals.length d)] w fun e w' => ∃ g : Rs, e = .returned (rnV (eo p k s t) g) ∧ g.cap = (eo p k s t).1.2.2.vals.length + g.sp.length ∧ St (fun _ => True) w [g.ent (an (eo p k s t).1.2.2.vals) 22] [] w' := by
 refine En [Fact.sl a (an k.r), Fact.sl b (an t.vals)] [(0, prV p), (1, ikV k (.slice a k.r.length c)), (2, sgV s), (3, t.v (.slice b t.vals.length d))] Tryz.func13 I Tryz.ntmps13 I (Ac I (Ac I (Ac I (Ac I (An _))))) (Fc (ah hF1) (Fc (ah hF2) Fn)) (DO ?_)
 intro b4
 refine EW ?_
 intro b5
 refine EW ?_
 intro b6
 refine EW ?_
 intro b7
 refine Ka I (AS ?_)
 intro b9
 refine E6 ?_
 intro b10
 refine Ka I (Nt (Cs (Kq I (lda I I .tc u30 I ?_) ?_)))
 ·kernel_rfl
 refine Kq I (lda I I .tc u33 I ?_) ?_
 ·kernel_rfl
 refine Kc I (fun w hS => pY (p := p) (k := k) (by (exact hS.sl)) (by assumption) (by assumption) (by omega) (by assumption) (by (exact bh hD hS))) (Km I (Ye I (Ye I (DU ?_))))
 intro b12
 refine DQ ?_; refine DR ?_; refine EL (fun hc26 => ?_) (fun hc26 => ?_)
 ·have hr : eo p k s t = (([], (false, []), dp), bK p k) := by rw [eo, Ab (by simpa using hc26)]
  refine Cs (By ?_); refine Ex ?_; refine Km I (Ka I (DQ ?_)); refine DQ ?_; refine ne ?_
  exact GB
 ·have h0 : bK p k = 0 := by simpa using hc26
  have hg : aU k.g = 0 := (bC h0).2.2.2.2.1
  have hks : elG k.g k.s := (bC h0).2.2.2.2.2.2.2 _ (by simp)
  refine Gg ?_; refine Kf 0 I u35 I I I .tc u22 ?_
  refine Kf 1 I u35 I I I .tc u22 ?_
  refine Kf 2 I u35 I I I .tc u22 ?_
  refine Kh I (aO I I u31 (by kernel_rfl : _ = some (some (.string (S [])), 1, 16)) I (by simp only [List.map]; rfl) I I ?_ (by decide)) ?_
  ·simp [Value.cells]
  intro b36
  refine Kc I (fun w hS => io (l := [s.a, s.e, s.v]) (by (exact hS.os)) (by (simp <;> omega))) (Ns 37 I (v' := .bool (decide (okN s.a ∧ okN s.e ∧ okN s.v))) (congrArg Value.bool (by exact Af.2 (by simp))) ?_)
  refine Eq (fun hc38 => ?_) (fun hc38 => ?_)
  ·have hn : ¬ (okN s.a ∧ okN s.e ∧ okN s.v) := by simpa using hc38
   have hr : eo p k s t = (([], (false, []), dp), 3) := by rw [eo, Aa (fun h => h h0), Ab hn]
   refine Cs (By ?_); refine Ex ?_; refine Ka I (DQ ?_); refine DQ ?_; refine ne ?_; exact GB
  ·have hok : okN s.a ∧ okN s.e ∧ okN s.v := by simpa using hc38
   refine Gg ?_; refine FM ?_; refine Ep ?_; refine Kf 0 I u35 I I I .tc u22 ?_; refine Kc I (fun w hS => iz (g := k.g) (x := s.a) (by assumption)) (Ns 45 I (v' := .bool (decide (elG k.g s.a))) (congrArg Value.bool (by simp [hg])) ?_); refine Eq (fun hc46 => ?_) (fun hc46 => ?_)
   ·have hn : ¬ elG k.g s.a := by simpa using hc46
    have hr : eo p k s t = (([], (false, []), dp), 13) := by rw [eo, Aa (fun h => h h0), Aa (fun h => h hok), Ab hn]
    refine Cs (By ?_); refine Ex ?_; refine Ka I (DQ ?_); refine DQ ?_; refine ne ?_; exact GB
   ·have hel : elG k.g s.a := by simpa using hc46
    refine Ck (Xa (Cs (Kq I (lda I I .tc u41 I ?_) ?_)))
    ·kernel_rfl
    refine Kq I (Fa (q := 0) I I u99 I I) (Kq I (Fa (q := 0) I I u97 I I) (Kf 16 I u30 I I I .tc u22 ?_)); refine Kh I (Oc I I (qD fun w hS => yc (t := t) (n := p.msk) (by (exact hS.sl)) (by assumption) (by assumption) (by (exact dZ hT hS)))) ?_; intro g55; refine WL.pu ?_; intro hg55; (try dsimp only at hg55 ⊢); refine Km I (Ye I (Ye I (Ye I (E6 ?_)))); intro b15; refine Ka I (DQ ?_); refine DR ?_; refine EL (fun hc60 => ?_) (fun hc60 => ?_)
    ·have hr : eo p k s t = (([], (false, []), dp), (aI t p.msk).2.2) := by rw [eo, Aa (fun h => h h0), Aa (fun h => h hok), Aa (fun h => h hel), Ab (by simpa using hc60)]
     refine Cs (By ?_); refine Ex ?_; refine Km I (Ka I (DQ ?_)); refine DQ ?_; refine ne ?_; exact GB
    ·have hb0 : (aI t p.msk).2.2 = 0 := by simpa using hc60
     have hgt : eD t := vw hb0; have hbk := sR hb0 hgt ((eG (bC h0).1).1.1 _ (by simp)); have hzr : okZ (aw (aI t p.msk).1) := by rw [cD hbk.1]; exact pn hbk.1
     have hze : okZ (aw s.e) := by rw [cD hok.2.1]; exact pn hok.2.1
     have hzv : okZ (aw s.v) := by rw [cD hok.2.2]; exact pn hok.2.2
     have hpr := congrArg Prod.snd (lV hg hel hks nc hzr); refine Ck (Xa (Cq (Cf [7, 8, 9, 0, 1, 2, 3, 4, 5, 6, 10, 11, 12, 13, 14, 15, 16] [] [0, 0, 0, 0, 0, 0, 3, 1, 0, 1, 3, 1, 0, 0, 0, 0, 0] (by kernel_rfl) (by kernel_rfl) I ?_))); refine FB ?_; refine ER ?_; refine Jv I I I I I (fun ext => Oc I I (Kv fun w hS => cR (a := (aI t p.msk).1))) ?_; refine Kj I (Fa (q := 1) I I u33 I I) ?_; refine Fd ?_; refine Kj I (Fa (q := 0) I I u35 I I) (DY ?_); refine Kj I (Fa (q := 4) I I u33 I I) (DY ?_); refine Jf I I I I I (ia I I u31 (by kernel_rfl : _ = some (some (.string (S [])), 1, 16)) I (by simp only [List.map]; rfl) I I ?_ (by decide)) ?_
     ·simp [Value.cells]
     intro b71; refine Jf I I I I I (hO I I u39 (by kernel_rfl : _ = some (some (.agg #[.bool false, .string (S [])]), 2, 24)) (by kernel_rfl) (by decide) I I (by (simp [Value.cells]; done)) (by (simp only [List.map, Value.cells, C2, List.flatMap_nil, Bl, D5]; rfl)) (by decide)) ?_; intro b75; refine Jv I I I I I (fun ext => Oc I I (Kv fun w hS => g6 (g := k.g) (l := [s.a, k.s]) (es := [ofZ 1, aw (aI t p.msk).1]) (by (exact hS.os)) (by (exact hS.os)) (by (simp <;> omega)) (by (simp <;> omega)) (by assumption))) ?_; refine Kj I (Rm I I) (Kj I (Re I I I) (Kj I (Re I I I) (Kj I (Ra I I) (Kj I (Ra I I) ?_)))); refine WJ.nil ?_; refine Nt (Cq (Cs (Km I (Yj I (Nt (Ci I (fun hc80 => ?_) (fun hc80 => ?_)))))))
     ·exact absurd hpr hc80 -- done
     ·refine Ck (Xa (Cs (Kf 1 I u35 I I I .tc u22 ?_))); refine Kc I (fun w hS => cR (a := s.e)) (Km I (Kc I (fun w hS => cR (a := (aI t p.msk).1)) (Kc I (fun w hS => oR (x := aw s.e) (y := aw (aI t p.msk).1)) (Km I (Ye I (Ye I (AS ?_))))))); intro b17; refine DQ ?_; refine DR ?_; refine EL (fun hc94 => ?_) (fun hc94 => ?_)
      ·have hm0 : (rzM p s t).2 ≠ 0 := by simpa using hc94
       have hm5 : (rzM p s t).2 = 5 := (zn hze hzr).resolve_left hm0; have hr : eo p k s t = (([], (false, []), dp), 5) := by rw [eo, Aa (fun h => h h0), Aa (fun h => h hok), Aa (fun h => h hel), Aa (fun h => h hb0), Ab (Or.inl hm0)]
       refine Cs (By ?_); refine Ex ?_; refine Km I (Ka I (DQ ?_)); refine DQ ?_; refine ne ?_; exact Rn I (.tmp I (.agg I .tc u37 I (by kernel_rfl) (.agg I .tc u41 I (by kernel_rfl) (.tmp I .nil)))) fun w' hS => ⟨⟨none, 0, []⟩, by rw [hr, show (bP (aw s.e) (aw (aI t p.msk).1)).2 = 5 from hm5]; rfl, by rw [hr]; rfl, by rw [hr]; exact eU hS⟩
      ·have hm0 : (rzM p s t).2 = 0 := by simpa using hc94
       have hmz : okZ (rzM p s t).1 := by rw [(qz hze hzr hm0).1]; exact bW.2 (qz hze hzr hm0).2
       refine Ck (Xa (Cq (WC.free (K := [⟨some b17, [.bool (rzM p s t).1.1, .string (S (rzM p s t).1.2)], 37⟩, ⟨some b6, [.string (S s.a), .string (S s.e), .string (S s.v)], 35⟩]) (fs0 := []) [0, 1, 2, 3, 4, 5, 6, 8, 9, 7, 10] [] [0, 0, 1, 0, 1, 0, 0, 0, 3, 1, 0] (by kernel_rfl) (by kernel_rfl) I ?_))); refine Kj I (Fa (q := 2) I I u35 I I) (DY ?_); refine Jv I I I I I (fun ext => Oc I I (Kv fun w hS => cR (a := s.v))) ?_; refine Kj I (lda I I .tc u37 I ?_) ?_
       ·kernel_rfl
       refine Jv I I I I I (fun ext => Oc I I (Kv fun w hS => mE (x := aw s.v) (y := (rzM p s t).1))) ?_; refine ER ?_; refine F3 ?_; refine DV ?_; intro b18; refine WJ.st I I I I (gS I I I ?_ ?_ ?_) ?_
       ·kernel_rfl
       ·simp [Value.oneCell']
       ·rfl
       refine F3 ?_; refine ES ?_; refine WJ.nil ?_; refine Nt (Cq (Cs (Km I (EL (fun hc107 => ?_) (fun hc107 => ?_)))))
       ·have hs0 : (rzV p s t).2 ≠ 0 := by simpa using hc107
        have hs5 : (rzV p s t).2 = 5 := (yH hzv hmz).resolve_left hs0; have hr : eo p k s t = (([], (false, []), dp), 5) := by rw [eo, Aa (fun h => h h0), Aa (fun h => h hok), Aa (fun h => h hel), Aa (fun h => h hb0), Ab (Or.inr hs0)]
        refine Cs (By ?_); refine Ex ?_; refine Km I (Ka I (DQ ?_)); refine DQ ?_; refine ne ?_; exact Rn I (.tmp I (.agg I .tc u37 I (by kernel_rfl) (.agg I .tc u41 I (by kernel_rfl) (.tmp I .nil)))) fun w' hS => ⟨⟨none, 0, []⟩, by rw [hr, show (cG (aw s.v) (rzM p s t).1).2 = 5 from hs5]; rfl, by rw [hr]; rfl, by rw [hr]; exact eU hS⟩
       ·have hs0 : (rzV p s t).2 = 0 := by simpa using hc107
        have hr : eo p k s t = (((bL k.g [s.a, k.s] [ofZ 1, aw (aI t p.msk).1]).1, (rzV p s t).1, (aI t p.msk).2.1), 0) := by rw [eo, Aa (fun h => h h0), Aa (fun h => h hok), Aa (fun h => h hel), Aa (fun h => h hb0), Aa (fun h => h.elim (fun h => h hm0) (fun h => h hs0))]
        refine Ck (Xa (Cq (WC.free (K := [⟨some b18, [.bool (rzV p s t).1.1, .string (S (rzV p s t).1.2)], 37⟩, ⟨some b15, [g55.val (aI t p.msk).2.1.vals.length, .string (S (aI t p.msk).2.1.seed), .int .i64 (aI t p.msk).2.1.at_], 41⟩]) (fs0 := []) [0, 1, 3, 4, 2] [5, 6] [0, 0, 0, 0, 1, 2, 2] (by kernel_rfl) (by kernel_rfl) I ?_))); refine ER ?_; refine Kj I (lda I I .tc u37 I ?_) ?_
        ·kernel_rfl
        refine ES ?_; refine WJ.st I I I I (gS I I I ?_ ?_ ?_) ?_
        ·kernel_rfl
        ·simp [Value.oneCell']
        ·rfl
        refine Kj I (lda I I .tc u41 I ?_) ?_
        ·kernel_rfl
        refine WJ.nil ?_; refine DQ ?_; refine to ?_; exact Rn I (.tmp I (.agg I .tc u37 I (by kernel_rfl) (.agg I .tc u41 I (by kernel_rfl) (.tmp I .nil)))) fun w' hS => ⟨g55, by rw [hr]; rfl, by rw [hr]; exact hg55, by rw [hr]; exact au _ hS⟩
end Go.Proofs.YtkdlonihbjhhoaaGreatDoor
