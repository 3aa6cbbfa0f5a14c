/-
  Parts of the walk: Sha8 Siz Siy Siw Sha9 Sha6 Sha3.
-/
import Derived.Test.YtkdlonihbjhhoaaGreatDoorH19
namespace Go.Proofs.YtkdlonihbjhhoaaGreatDoor
open Go.RowKit
set_option linter.unusedSimpArgs false
set_option linter.unusedVariables false
set_option maxHeartbeats 600000
set_option maxRecDepth 20000
abbrev aG : Type := Option Nat × Nat × List Value × Option Nat × Nat × List Value
abbrev lS (bE : Nat) (tg : Bs) (n : Nat) (g : aG) : Ent := ⟨some bE, [.int .i64 0, .string (S tg), .slice (g.1.map fun b => ⟨b, 0, none⟩) n g.2.1], 95⟩
abbrev kW (bS : Nat) (gv : Value) (n : Nat) (g : aG) : Ent := ⟨some bS, [gv, .slice (g.2.2.2.1.map fun b => ⟨b, 0, none⟩) n g.2.2.2.2.1, .slice none 0 0], 58⟩
abbrev tmE (bs : List Bs) (g : aG) : Ent := ⟨g.1, tms (db bs 0) ++ g.2.2.1, 122⟩
abbrev vrE (vs : List Bs) (g : aG) : Ent := ⟨g.2.2.2.1, vrs vs ++ g.2.2.2.2.2, 124⟩
def aOk (n : Nat) (g : aG) : Prop := g.2.1 * 4 = n * 4 + g.2.2.1.length ∧ g.2.2.2.2.1 = n + g.2.2.2.2.2.length
theorem w8 (l : List Tm) : (tms l).length = l.length * 4 := by rw [aj _ _ 4 (fun _ => rfl)]
theorem wU (l : List Bs) : (vrs l).length = l.length := by rw [aj _ _ 1 (fun _ => rfl), A3]
theorem ug (bs : List Bs) (b : Bs) : db (bs ++ [b]) 0 = db bs 0 ++ [trm b (bs.length : Int)] := by
 rw [oF]; simp [db]
theorem w7 (l : List Tm) (t : Tm) : tms (l ++ [t]) = tms l ++ tmC t := by simp
theorem wT (l : List Bs) (b : Bs) : vrs (l ++ [b]) = vrs l ++ [.string (S b)] := by simp
theorem nw {bd ba tg : Bs} {gv : Value} {bS bE : Nat} {bs vs : List Bs} {o1 o2 : Option Nat} {c1 c2 : Nat} {p1 p2 : List Value} {rr : List Ent} {ok : Nat → Prop} {w0 : World} {fs : List Fact} {w : World} (hS0 : St ok w0 (tmE bs (o1, c1, p1, o2, c2, p2) :: vrE vs (o1, c1, p1, o2, c2, p2) :: lS bE tg bs.length (o1, c1, p1, o2, c2, p2) :: kW bS gv bs.length (o1, c1, p1, o2, c2, p2) :: rr) (fs) w) (hn : vs.length = bs.length) (hb : bs.length ≤ 1000) (hg : aOk bs.length (o1, c1, p1, o2, c2, p2)) :
  Calls Tryz.prog 59 #[.string (S bd), .string (S ba), .pointer (some ⟨bE, 0, none⟩), .pointer (some ⟨bS, 0, none⟩)] w fun e w' => ∃ g' : aG, e = .returned (tup []) ∧ aOk (bs ++ [ba]).length g' ∧ St ok w0 (tmE (bs ++ [ba]) g' :: vrE (vs ++ [bd]) g' :: lS bE tg (bs ++ [ba]).length g' :: kW bS gv (bs ++ [ba]).length g' :: rr) fs w' := by
 obtain ⟨hc1, hc2⟩ := hg
 dsimp only at hc1 hc2
 have hT := w8 (db bs 0)
 rw [gj] at hT
 have hV := wU vs
 refine enter (S := St ok w0 (tmE bs (o1, c1, p1, o2, c2, p2) :: vrE vs (o1, c1, p1, o2, c2, p2) :: lS bE tg bs.length (o1, c1, p1, o2, c2, p2) :: kW bS gv bs.length (o1, c1, p1, o2, c2, p2) :: rr) (fs)) (L := [(0, .string (S bd)), (1, .string (S ba)), (2, .pointer (some ⟨bE, 0, none⟩)), (3, .pointer (some ⟨bS, 0, none⟩))]) Tryz.func59 rfl Tryz.ntmps59 rfl (Ac rfl (Ac rfl (Ac rfl (Ac rfl (An _))))) hS0 ?_
 dsimp only [lS, kW, tmE, vrE]
 refine Cq (WC.free (K := [⟨some bE, [.int .i64 0, .string (S tg), .slice (o1.map fun b => ⟨b, 0, none⟩) bs.length c1], 95⟩, ⟨some bS, [gv, .slice (o2.map fun b => ⟨b, 0, none⟩) bs.length c2, .slice none 0 0], 58⟩]) (fs0 := []) [6, 0, 1, 2, 3, 4, 5, 7, 8, 9, 10] [11] [0, 0, 0, 0, 0, 0, 1, 0, 3, 1, 0, 2] (by kernel_rfl) (by kernel_rfl) I ?_)
 refine Jv I I I I I (fun ext => Oc I I (Kv fun w hS => kK (n := 1) (by omega) (by omega))) ?_
 (refine Kj I (di I I u95 I (by kernel_rfl) (by (try simp only [sN, Int.reduceToNat, Nat.reduceAdd, Nat.reduceMul, Nat.reduceSub]); rfl)) ?_)
 refine Kj I (Ld I I .tc u93) ?_
 refine Kj I (Rm I I) ?_
 (refine Kj I (di I I u58 I (by kernel_rfl) (by (try simp only [sN, Int.reduceToNat, Nat.reduceAdd, Nat.reduceMul, Nat.reduceSub]); rfl)) ?_)
 refine Kj I (Ld I I .tc u55) ?_
 refine Kj I (qa I I u55) (Kj I (Kb [[.string (S [])], [.int .i64 0], [.bool false, .string (S [])]] I I) ?_)
 refine Jf I I I I I (iD I I u93 (by kernel_rfl : _ = some (some (.agg #[.string (S []), .int .i64 0, .bool false, .string (S [])]), 4, 48)) (by kernel_rfl) (by decide) I I (by (simp [Value.cells]; done)) (by (exact cY _)) (by decide)) ?_
 intro b14
 refine Jg I I I I I (ox I u93 (by kernel_rfl : _ = some (some (.agg #[.string (S []), .int .i64 0, .bool false, .string (S [])]), 4, 48)) (by kernel_rfl) (by decide) .tc I I (fun ext w hS => by (exact hS.os)) (by rfl) (by (refine ⟨hT, by omega, by omega, by omega⟩)) (by (simp [Value.oneCell']; done))) ?_
 rintro ⟨o15, c15, s15⟩ hg15; (try dsimp only at hg15 ⊢)
 (refine Kj I (di I I u95 I (by kernel_rfl) (by (try simp only [sN, Int.reduceToNat, Nat.reduceAdd, Nat.reduceMul, Nat.reduceSub]); rfl)) ?_)
 refine WJ.set 16 I (v' := .pointer (some ⟨bE, 2, none⟩)) (by rfl) ?_
 refine WJ.nil ?_
 refine Ng I I (st I I I .tc (by kernel_rfl) I ?_ (by (simp only [Av, Aw]; rfl))) ?_
 ·(simp; done)
 intro _
 refine Nt (Cg ?_)
 (refine Kq I (di I I u58 I (by kernel_rfl) (by (try simp only [sN, Int.reduceToNat, Nat.reduceAdd, Nat.reduceMul, Nat.reduceSub]); rfl)) ?_)
 refine Kq I (Ld I I .tc u55) ?_
 refine Km I (Kq I (Kb [[.string (S [])]] I I) ?_)
 refine Kh I (iA I I u55 (by kernel_rfl : _ = some (some (.agg #[.string (S [])]), 1, 16)) (by kernel_rfl) (by decide) I I (by (simp [Value.cells]; done)) (by (exact cY _)) (by decide)) ?_
 intro b21
 refine Kh I (wF I u55 (by kernel_rfl : _ = some (some (.agg #[.string (S [])]), 1, 16)) (by kernel_rfl) (by decide) .tc I I (fun w hS => by (exact hS.os)) (by rfl) (by (refine ⟨by rw [hV, hn, A3], by omega, by omega, by omega⟩)) (by (simp [Value.oneCell']; done))) ?_
 rintro ⟨o22, c22, s22⟩
 refine WL.pu ?_
 intro hg22; (try dsimp only at hg22 ⊢)
 (refine Kq I (di I I u58 I (by kernel_rfl) (by (try simp only [sN, Int.reduceToNat, Nat.reduceAdd, Nat.reduceMul, Nat.reduceSub]); rfl)) ?_)
 refine Ns 23 I (v' := .pointer (some ⟨bS, 1, none⟩)) (by rfl) ?_
 refine Ng I I (st I I I .tc (by kernel_rfl) I ?_ (by (simp only [Av, Aw]; rfl))) ?_
 ·(simp; done)
 intro _
 refine Nn (WX.ret_normal ?_)
 exact Rn I .nil fun w' hS => ⟨(o15, c15, s15, o22, c22, s22), rfl, ⟨by dsimp only; rw [A2]; exact hg15, by dsimp only; rw [A2]; simpa using hg22⟩, by
  dsimp only [lS, kW, tmE, vrE]
  rw [ug, w7, wT, A2, List.length_singleton]
  exact ar _ hS⟩
theorem qz {a b : Bs} (ha : okN a) (hb : okN b) (h : val a + val b < Big) : addN a b = (ae (val a + val b), 0) := by rw [addN, Ab ⟨ha, hb⟩, Ab h]
theorem zi {a b : Bs} (ha : okN a) (hb : okN b) (h : (addN a b).2 = 0) : val a + val b < Big := Ay fun h1 => by
 rw [addN, Ab ⟨ha, hb⟩, Aa h1] at h; exact absurd h (by decide)
theorem lB {a b : Bs} (ha : okN a) (hb : okN b) (h : val a * val b < Big) : bO a b = (ae (val a * val b), 0) := by rw [bO, Ab ⟨ha, hb⟩, Ab h]
theorem vh {a b : Bs} (ha : okN a) (hb : okN b) (h : (bO a b).2 = 0) : val a * val b < Big := Ay fun h1 => by
 rw [bO, Ab ⟨ha, hb⟩, Aa h1] at h; exact absurd h (by decide)
abbrev sA (p : PR) := addN p.lo p.sz
abbrev sM (p : PR) := bO (sA p).1 p.msk
abbrev sB2 (p : PR) := addN p.bl p.bl
abbrev sC (p : PR) := addN (sB2 p).1 (sM p).1
abbrev sH (p : PR) := bO p.han p.msk
def szE (p : PR) : Prop := (sA p).2 = 0 ∧ (sM p).2 = 0 ∧ (sB2 p).2 = 0 ∧ (sC p).2 = 0 ∧ (sH p).2 = 0
instance (p : PR) : Decidable (szE p) := inferInstanceAs (Decidable (_ ∧ _))
theorem qG {p : Nat} {a b : Bs} {er : Int} {rr : List Ent} {ok : Nat → Prop} {w0 : World} {fs : List Fact} {w : World} (hS0 : St ok w0 (⟨some p, [.int .i64 er], 47⟩ :: rr) (fs) w) :
  Calls Tryz.prog 107 #[.string (S a), .string (S b), .pointer (some ⟨p, 0, none⟩)] w fun e w' => e = .returned (.string (S (addN a b).1)) ∧ St ok w0 (⟨some p, [.int .i64 (max er (addN a b).2)], 47⟩ :: rr) (fs) w' := by
 refine enter (S := St ok w0 (⟨some p, [.int .i64 er], 47⟩ :: rr) (fs)) (L := [(0, .string (S a)), (1, .string (S b)), (2, .pointer (some ⟨p, 0, none⟩))]) Tryz.func107 rfl Tryz.ntmps107 rfl (Ac rfl (Ac rfl (Ac rfl (An _)))) hS0 ?_
 refine Cs (Ka I (Nt (Cs (Km I (Km I (Kc I (fun w hS => wJ (a := a) (b := b)) (Km I (Ye I (Ye I (Ka I (Ka I (Nt (Cs (Kq I (Ld I I .tc u47) ?_))))))))))))))
 refine Km I (Kq I (g6 I I I) (Ng I I (st I I I .tc (by kernel_rfl) I ?_ (by (simp only [Av, Aw]; rfl))) ?_))
 ·(simp; done)
 intro _
 refine Nt (Cs (Km I (Ka I (Nt (Ce ?_)))))
 exact Rn I (.tmp I .nil) fun w' hS => ⟨by rfl, by (exact hS)⟩
theorem nr {p : Nat} {a b : Bs} {er : Int} {rr : List Ent} {ok : Nat → Prop} {w0 : World} {fs : List Fact} {w : World} (hS0 : St ok w0 (⟨some p, [.int .i64 er], 47⟩ :: rr) (fs) w) :
  Calls Tryz.prog 108 #[.string (S a), .string (S b), .pointer (some ⟨p, 0, none⟩)] w fun e w' => e = .returned (.string (S (bO a b).1)) ∧ St ok w0 (⟨some p, [.int .i64 (max er (bO a b).2)], 47⟩ :: rr) (fs) w' := by
 refine enter (S := St ok w0 (⟨some p, [.int .i64 er], 47⟩ :: rr) (fs)) (L := [(0, .string (S a)), (1, .string (S b)), (2, .pointer (some ⟨p, 0, none⟩))]) Tryz.func108 rfl Tryz.ntmps108 rfl (Ac rfl (Ac rfl (Ac rfl (An _)))) hS0 ?_
 refine Cs (Ka I (Nt (Cs (Km I (Km I (Kc I (fun w hS => vi (a := a) (b := b)) (Km I (Ye I (Ye I (Ka I (Ka I (Nt (Cs (Kq I (Ld I I .tc u47) ?_))))))))))))))
 refine Km I (Kq I (g6 I I I) (Ng I I (st I I I .tc (by kernel_rfl) I ?_ (by (simp only [Av, Aw]; rfl))) ?_))
 ·(simp; done)
 intro _
 refine Nt (Cs (Km I (Ka I (Nt (Ce ?_)))))
 exact Rn I (.tmp I .nil) fun w' hS => ⟨by rfl, by (exact hS)⟩
abbrev tB (p : PR) := bO (ae 2) p.bl
abbrev tC (p : PR) := addN (tB p).1 (sM p).1
def tE (p : PR) : Prop := (tB p).2 = 0 ∧ (sA p).2 = 0 ∧ (sM p).2 = 0 ∧ (tC p).2 = 0 ∧ (sH p).2 = 0
theorem yW {p : PR} (h : cR p = 0) (h1 : szV p < Big) (h2 : szH p < Big) : tE p ∧ (tC p).1 = ae (szV p) ∧ (sH p).1 = ae (szH p) := by
 obtain ⟨hok, _, hrg⟩ := cM h
 have o : ∀ x ∈ gE p, okN x := hok.1
 have hB8 : 8 < Big := A1 (by decide) fF
 have hlo : okN p.lo := o _ (by simp); have hsz : okN p.sz := o _ (by simp); have hbl : okN p.bl := o _ (by simp); have hmk : okN p.msk := o _ (by simp); have hha : okN p.han := o _ (by simp)
 have hm2 : 2 ≤ val p.msk := hrg.1 _ (by simp)
 unfold szV at h1; unfold szH at h2
 have a0 : val p.lo + val p.sz ≤ (val p.lo + val p.sz) * val p.msk := Nat.le_mul_of_pos_right _ (by omega)
 have eA := qz hlo hsz (by omega)
 have eM : bO (ae (val p.lo + val p.sz)) p.msk = (ae ((val p.lo + val p.sz) * val p.msk), 0) := by
  rw [lB (aq (by omega)) hmk (by rw [af]; omega), af]
 have eB : bO (ae 2) p.bl = (ae (2 * val p.bl), 0) := by rw [lB (aq (by omega)) hbl (by rw [af]; omega), af]
 have eC : addN (ae (2 * val p.bl)) (ae ((val p.lo + val p.sz) * val p.msk)) = (ae (szV p), 0) := by
  rw [qz (aq (by omega)) (aq (by omega)) (by rw [af, af]; omega), af, af, szV]
 have eH := lB hha hmk h2
 simp only [tE, sA, sM, tB, tC, sH, eA, eM, eB, eC, eH, szH, and_self]
theorem Es {p : PR} (h : cR p = 0) (he : tE p) : szV p < Big ∧ szH p < Big := by
 obtain ⟨hok, _, hrg⟩ := cM h
 have o : ∀ x ∈ gE p, okN x := hok.1
 have hB8 : 8 < Big := A1 (by decide) fF
 have hlo : okN p.lo := o _ (by simp); have hsz : okN p.sz := o _ (by simp); have hbl : okN p.bl := o _ (by simp); have hmk : okN p.msk := o _ (by simp); have hha : okN p.han := o _ (by simp)
 obtain ⟨hB, hA, hM, hC, hH⟩ := he
 have zA := zi hlo hsz hA
 have eA := qz hlo hsz zA
 simp only [sM, sA, eA] at hM
 have zM := vh (aq zA) hmk hM
 have eM := lB (aq zA) hmk zM
 rw [af] at zM eM
 have zB := vh (aq (by omega)) hbl hB
 have eB := lB (aq (by omega)) hbl zB
 rw [af] at zB eB
 simp only [tC, tB, sM, sA, eA, eM, eB] at hC
 have zC := zi (aq zB) (aq zM) hC
 rw [af, af] at zC
 exact ⟨by rw [szV]; omega, vh hha hmk hH⟩
theorem wI (a b : Bs) : 0 ≤ (addN a b).2 := by unfold addN; split <;> (try split) <;> first | exact Int.le_refl 0 | decide
theorem qi (a b : Bs) : 0 ≤ (bO a b).2 := by unfold bO; split <;> (try split) <;> first | exact Int.le_refl 0 | decide
theorem Ex {a b c d e : Int} (ha : 0 ≤ a) (hb : 0 ≤ b) (hc : 0 ≤ c) (hd : 0 ≤ d) (he : 0 ≤ e) : max (max (max (max (max 0 a) b) c) d) e = 0 ↔ a = 0 ∧ b = 0 ∧ c = 0 ∧ d = 0 ∧ e = 0 := by omega
theorem n2 {P : Program} {f : FuncId} {args : Array Value} {v : Value} {ok : Nat → Prop} {w0 : World} {ext rr : List Ent} {x x' : Ent} {fs : List Fact}
  (h : ∀ w, St ok w0 (x :: (ext ++ rr)) fs w → Calls P f args w (fun e w' => e = .returned v ∧ St ok w0 (x' :: (ext ++ rr)) fs w')) :
  ∀ w, St ok w0 (ext ++ x :: rr) fs w → Calls P f args w (fun e w' => ∃ _g : Unit, e = .returned v ∧ True ∧ St ok w0 (ext ++ x' :: rr) fs w') :=
 fun w hS => (h w (hS.perm List.perm_middle.symm)).mono fun _ _ ⟨h1, h2⟩ => ⟨(), h1, trivial, h2.perm List.perm_middle⟩
theorem uV {p : PR} {w : World} (hm8 : p.mn.1.1.length ≤ 8) (hD : TabD w) :
  Cw 58 #[prV p] w (.tuple #[.string (S (iO p).1.1), .string (S (iO p).1.2), .int .i64 (iO p).2]) := by
 refine En [] [(0, prV p)] Tryz.func58 I Tryz.ntmps58 I (Ac I (An _)) Fn (Cs (Kh I (Oy I I) ?_))
 intro b1
 refine Ka I (Ka I (Ka I (Nt (Cq (Cs (Kq I (lda I I .tc u30 I ?_) ?_))))))
 ·kernel_rfl
 refine Kc I (fun w hS => jK (p := p) (by assumption) (by (exact aZ hD hS))) (Ka I (Nt (Cs (Km I (Yj I (Nt (Ci I (fun hc14 => ?_) (fun hc14 => ?_))))))))
 ·refine Cs (Km I (Ka I (Ka I (Ka I (Nt (Ce (Xb ?_)))))))
  exact R3 I I I I (by rw [iO, Ab (by simpa using hc14)]; rfl)
 ·have h0 : cR p = 0 := by simpa using hc14
  have hmx := Ex (qi (ae 2) p.bl) (wI p.lo p.sz) (qi (sA p).1 p.msk) (wI (tB p).1 (sM p).1) (qi p.han p.msk)
  refine Ck (Xa (Cs (Kh I (Oa I (v := (.int .i64 0)) (cs := [.int .i64 0]) (by kernel_rfl) I) ?_)))
  intro b6
  refine Ng I I (st I I I .tc (by kernel_rfl) I ?_ (by (simp only [Av, Aw]; rfl))) ?_
  ·decide
  intro _
  refine Nt (Cs (Kq I (dh I I I) (Ka I (Nt (Cs (Kq I (dh I I I) (Ka I (Nt (Cq (WC.free (K := [⟨some b1, prC p, 30⟩]) (fs0 := []) [2, 1, 3, 4, 5, 7, 8, 9, 10, 11, 12, 6, 13, 14, 15, 0, 16, 17] [] [0, 0, 1, 0, 0, 1, 0, 0, 0, 0, 0, 0, 1, 0, 0, 1, 1, 0] (by kernel_rfl) (by kernel_rfl) I ?_))))))))))
  refine Jv I I I I I (fun ext => Oc I I (Kv fun w hS => gD (n := 2) (by omega))) ?_
  refine Kj I (Rm I I) (Kj I (Fa (q := 15) I I u30 I I) (Kj I (Ld I I .tc u22) ?_))
  refine Jg I I I I I (fun ext => aP I I I (by kernel_rfl) I (n2 fun w hS => nr (p := b6) (a := ae 2) (b := p.bl) hS)) ?_
  intro _ _
  refine Kj I (Rm I I) (Kj I (Fa (q := 13) I I u30 I I) (Kj I (Ld I I .tc u22) ?_))
  refine Kj I (Fa (q := 14) I I u30 I I) (Kj I (Ld I I .tc u22) ?_)
  refine Jg I I I I I (fun ext => aP I I I (by kernel_rfl) I (n2 fun w hS => qG (p := b6) (a := p.lo) (b := p.sz) hS)) ?_
  intro _ _
  refine Kj I (Rm I I) (Kj I (Fa (q := 16) I I u30 I I) (Kj I (Ld I I .tc u22) ?_))
  refine Jg I I I I I (fun ext => aP I I I (by kernel_rfl) I (n2 fun w hS => nr (p := b6) (a := (sA p).1) (b := p.msk) hS)) ?_
  intro _ _
  refine Kj I (Rm I I) ?_
  refine Jg I I I I I (fun ext => aP I I I (by kernel_rfl) I (n2 fun w hS => qG (p := b6) (a := (tB p).1) (b := (sM p).1) hS)) ?_
  intro _ _
  refine Kj I (Ra I I) ?_
  refine WJ.nil ?_
  refine Nt (Cs (Km I (Kf 12 I u30 I I I .tc u22 ?_)))
  refine Kf 16 I u30 I I I .tc u22 ?_
  refine Kh I (aP I I I (by kernel_rfl) I (n3 fun w hS => nr (p := b6) (a := p.han) (b := p.msk) hS)) ?_
  intro _
  refine Ka I (Nt (Cq (Cs (Kq I (Ld I I .tc u47) ?_))))
  refine Yj I (Nt (Ci I (fun hc42 => ?_) (fun hc42 => ?_)))
  ·have hn : ¬ (szV p < Big ∧ szH p < Big) := fun h => (by simpa using hc42 : ¬ _) (hmx.2 (yW h0 h.1 h.2).1)
   refine Cs (Ka I (Ka I (Ka I (Nt (Ce (Xb ?_)))))); exact R3 I I I I (by rw [iO, Aa (fun h => h h0), Aa hn]; rfl)
  ·have hy := Es h0 (hmx.1 (by simpa using hc42)); have he := yW h0 hy.1 hy.2; refine Ck (Xa (Cs (Km I (Km I (Ka I (Ka I (Ka I (Nt (Ce ?_))))))))); exact R3 I I I I (by rw [iO, Aa (fun h => h h0), Ab hy, ← he.2.1, ← he.2.2]; rfl)
section
variable {E F R : List Ent} {u v a b c d : Ent}
theorem perm4 : (E ++ (F ++ u :: v :: a :: b :: c :: d :: R)).Perm (a :: b :: c :: d :: (E ++ (F ++ u :: v :: R))) := by
 have h1 : E ++ (F ++ u :: v :: a :: b :: c :: d :: R) = (E ++ F ++ [u, v]) ++ ([a, b, c, d] ++ R) := by simp
 have h2 : a :: b :: c :: d :: (E ++ (F ++ u :: v :: R)) = [a, b, c, d] ++ ((E ++ F ++ [u, v]) ++ R) := by simp
 rw [h1, h2]; exact List.perm_append_comm_assoc _ _ _
theorem AR {P : Program} {f : FuncId} {args : Array Value} {γ : Type} {val : γ → Value} {p : γ → Prop} {ok : Nat → Prop} {w0 : World} {fs : List Fact} {a' b' c' d' : γ → Ent}
  (h : ∀ w, St ok w0 (a :: b :: c :: d :: (E ++ (F ++ u :: v :: R))) fs w → Calls P f args w (fun e w' => ∃ g, e = .returned (val g) ∧ p g ∧ St ok w0 (a' g :: b' g :: c' g :: d' g :: (E ++ (F ++ u :: v :: R))) fs w')) :
  ∀ w, St ok w0 (E ++ (F ++ u :: v :: a :: b :: c :: d :: R)) fs w → Calls P f args w (fun e w' => ∃ g, e = .returned (val g) ∧ p g ∧ St ok w0 (E ++ (F ++ u :: v :: a' g :: b' g :: c' g :: d' g :: R)) fs w') :=
 fun w hS => (h w (hS.perm perm4.symm)).mono fun _ _ ⟨g, h1, h2, h3⟩ => ⟨g, h1, h2, h3.perm perm4⟩
end
theorem se : ∀ {d : List Int} {last n : Int}, bL last d n = true → last ≤ n → (d.length : Int) ≤ n - last
 | [], _, _, _, h => by simp; omega
 | x :: l, last, n, h, hn => by
  rw [bL, Bt] at h
  have h1 := of_decide_eq_true h.1
  have h2 := se h.2 (by omega)
  rw [Am]; push_cast; omega
abbrev bsW (k : IK) (xa : Bs) (l : List Nat) : List Bs := xa :: k.s :: l.map (rD k)
abbrev vsW (p : PR) (l : List Nat) : List Bs := p.sz :: (iO p).1.1 :: l.map (lim p)
theorem rW {k : IK} {xa : Bs} {l : List Nat} {x : Nat} : bsW k xa (l ++ [x]) = bsW k xa l ++ [rD k x] := by simp
theorem wS {p : PR} {l : List Nat} {x : Nat} : vsW p (l ++ [x]) = vsW p l ++ [lim p x] := by simp
abbrev bsL (k : IK) (xa : Bs) (d : List Int) (i : Nat) : List Bs := k.z :: xa :: (d.take i).map fun q => rD k q.toNat
abbrev zsL (p : PR) (vs : List Bs) (i : Nat) : List Zs := ofZ 1 :: ngN p.lo :: (vs.take i).map ngN
theorem yP {k : IK} {xa : Bs} {d : List Int} {i : Nat} (h : i < d.length) : bsL k xa d (i + 1) = bsL k xa d i ++ [rD k (d.getD i default).toNat] := by
 rw [bsL, aL h]; simp
theorem wN {p : PR} {vs : List Bs} {i : Nat} (h : i < vs.length) : zsL p vs (i + 1) = zsL p vs i ++ [ngN (vs.getD i default)] := by
 rw [zsL, aL h]; simp
theorem jA {l : List Bs} {x : Bs} : ak (l ++ [x]) = ak l ++ [.string (S x)] := by simp
theorem mK {l : List Zs} {z : Zs} : aY (l ++ [z]) = aY l ++ zc z := by simp
abbrev shC (p : PR) (k : IK) (rv : Value) : List Value := [.string (S p.ch), .string (S p.sl), .string (S p.mn.1.1), .string (S p.mn.1.2), .string (S p.mn.2.1), .string (S p.mn.2.2), .string (S p.wh.1.1), .string (S p.wh.1.2), .string (S p.wh.2.1), .string (S p.wh.2.2), .string (S p.sec), .string (S p.attr), .string (S p.han), .string (S p.lo), .string (S p.sz), .string (S p.bl), .string (S p.msk), .string (S k.name), .string (S k.g.1), .string (S k.g.2), .string (S k.z), .string (S k.s), rv, .string (S k.u), .string (S k.h)]
abbrev CF (b10 : Nat) : Ent := ⟨some b10, [.slice none 0 0, .slice none 0 0, .slice none 0 0], 58⟩
theorem xp {p : PR} {k : IK} {xa : Bs} {d : List Int} {vs : List Bs} (h0 : cd p k = 0) (hxa : elG k.g xa) (hasc : bL 1 d k.r.length = true) (hv : ∀ x ∈ vs, okN x) (hl : vs.length = d.length) :
  (bu k.g (k.z :: xa :: d.map fun i => rD k i.toNat) (ofZ 1 :: ngN p.lo :: vs.map ngN)).2 = 0 := by
 obtain ⟨hR, _, _, _, hg, _, _, hel⟩ := bn h0
 rw [el hg ?_ ?_ (by simp [hl])]
 ·intro x hx
  rcases At.1 hx with rfl | hx
  ·exact hel _ (by simp)
  ·rcases At.1 hx with rfl | hx
   ·exact hxa
   ·obtain ⟨i, hi, rfl⟩ := Bq.1 hx; have := eY hasc i hi; exact rb h0 (by omega)
 ·intro z hz
  rcases At.1 hz with rfl | hz
  ·exact g9
  ·rcases At.1 hz with rfl | hz
   ·exact ky ((cM hR).1.1 _ (by simp))
   ·obtain ⟨x, hx, rfl⟩ := Bq.1 hz; exact ky (hv x hx)
theorem zs0 {p : PR} {vs : List Bs} : aY (zsL p vs 0) ++ ([] : List Value) = zc (ofZ 1) ++ zc (ngN p.lo) := by simp [zsL]
theorem bs0 {k : IK} {xa : Bs} {d : List Int} : ak (bsL k xa d 0) ++ ([] : List Value) = [.string (S k.z), .string (S xa)] := by simp [bsL]
abbrev SCR (p : PR) (k : IK) (rv : Value) (b6 b10 b12 b131 b21 b22 b23 : Nat) : List Ent :=
 [⟨some b23, [.func (.func 59) #[] #[.pointer (some ⟨b22, 0, none⟩), .pointer (some ⟨b21, 0, none⟩)]], 125⟩, ⟨some b131, ((ikC k rv).drop 1).take 2, 26⟩, ⟨some b12, shC p k rv, 99⟩, CF b10, ⟨some b6, ikC k rv, 33⟩]
abbrev SCO (p : PR) (k : IK) (xa tg : Bs) (rv dv : Value) (nn : Nat) (b6 b10 b12 b131 b21 b22 b23 h1 h2 : Nat) (l : List Nat) (g : aG) : List Ent :=
 ⟨some h2, [.int .i64 (nn : Int)], 3⟩ :: ⟨some h1, [dv], 38⟩ :: tmE (bsW k xa l) g :: vrE (vsW p l) g :: lS b22 tg (bsW k xa l).length g :: kW b21 (.slice (some ⟨b131, 0, none⟩) 1 1) (bsW k xa l).length g :: SCR p k rv b6 b10 b12 b131 b21 b22 b23
theorem pU {p : PR} {k : IK} {xa : Bs} {d : List Int} {vs : List Bs} {ra da va : Option Addr} {rc dc vc : Nat} {w : World} {ok : Nat → Prop} (hF1 : (Fact.sl ra (ak k.r)).holds ok w) (hF2 : (Fact.sl da (dX d)).holds ok w) (hF3 : (Fact.sl va (ak vs)).holds ok w) (hm8 : p.mn.1.1.length ≤ 8) (hk8 : k.g.1.length ≤ 8) (hkl : k.r.length ≤ 100000) (hnl : k.name.length ≤ 140737488351232) (hdl : d.length ≤ 140737488351232) (hvl : vs.length ≤ 140737488351232) (hD : TabD w) :
  Calls Tryz.prog 16 #[prV p, ikV k (.slice ra k.r.length rc), .string (S xa), .slice da d.length dc, .slice va vs.length vc] w fun e w' => ∃ gx : SA, e = .returned (SME gx (shS p k xa d vs).2) ∧ (gx.core = (shS p k xa d vs).1) ∧ Below w.heap.size w w' ∧ ∀ x ∈ (saF gx : List Fact), x.holds (fun b => ok b ∨ w.heap.size ≤ b) w' := by
 refine jS (S := St (fun b => ok b ∨ w.heap.size ≤ b) w [] ([Fact.sl ra (ak k.r), Fact.sl da (dX d), Fact.sl va (ak vs)])) (L := [(0, prV p), (1, ikV k (.slice ra k.r.length rc)), (2, .string (S xa)), (3, .slice da d.length dc), (4, .slice va vs.length vc)]) Tryz.func16 rfl Tryz.ntmps16 rfl (Ac rfl (Ac rfl (Ac rfl (Ac rfl (Ac rfl (An _)))))) (St.start (fun _ h => Or.inr h) (fy (Fc hF1 (Fc hF2 (Fc hF3 Fn))))) ?_
 refine Cs (Kh I (Oy I I) ?_)
 intro b5
 refine Kh I (Oy I I) ?_
 intro b6
 refine Kh I (Oz [.slice none 0 0, .slice none 0 0, .slice none 0 0] I) ?_
 intro b10
 refine Ka I (Nt (Cs (Kq I (lda I I .tc u30 I ?_) ?_)))
 ·kernel_rfl
 refine Kq I (lda I I .tc u33 I ?_) ?_
 ·kernel_rfl
 refine Kc I (fun w hS => qL (p := p) (k := k) (by (exact hS.sl)) (by assumption) (by assumption) (by omega) (by assumption) (by (exact aZ hD hS))) (Km I (Ye I (Ye I (Kh I (Oz [.string (S []), .string (S []), .string (S []), .string (S []), .string (S []), .string (S []), .string (S []), .string (S []), .string (S []), .string (S []), .string (S []), .string (S []), .string (S []), .string (S []), .string (S []), .string (S []), .string (S []), .string (S []), .string (S []), .string (S []), .string (S []), .string (S []), .slice none 0 0, .string (S []), .string (S [])] I) ?_))))
 intro b12
 refine Nu I I (Sa I I I .tc) (Ka I (Nt (Cq (Cs (Km I (Yj I (Nt (Ci I (fun hc32 => ?_) (fun hc32 => ?_)))))))))
 ·have hE : shE p k xa d vs = cd p k := by rw [shE, Ab (by simpa using hc32)]
  have hr : shS p k xa d vs = (([], [], []), cd p k) := by rw [shS, hE, Ab (by simpa using hc32)]
  refine Cs (Kq I (Kb [[.slice none 0 0], [.slice none 0 0], [.slice none 0 0]] I I) (Km I (Nu I I (Sa I I I .tc) (Ka I (Nt (Ce (Xb ?_)))))))
  exact WX.retM0 rfl (.agg rfl .tc u58 rfl (by kernel_rfl) (.tmp rfl .nil)) fun w' hS => iq hr hS
 ·have h0 : cd p k = 0 := by simpa using hc32
  have hg : bc k.g = 0 := (bn h0).2.2.2.2.1
  have h18 : k.r.length ≤ 18 := (bn h0).2.2.2.2.2.2.1
  refine Ck (Xa (Cq (WC.joinP (σ := Unit) [(2, _), (3, _), (4, _), (5, _), (6, _), (10, _), (11, _), (12, _)] (fun gq => [(43, .bool (decide (¬ (okN xa ∧ ub vs))))]) (fun gq => True) (S8 I I I I I I I I) ?_ ?_)))
  ·skip
   refine Cg (Km I (Kh I (aQ I I u31 (by kernel_rfl : _ = some (some (.string (S [])), 1, 16)) I (by simp only [List.map]; rfl) I I ?_ (by decide)) ?_))
   ·simp [Value.cells]
   intro b36; refine Kc I (fun w hS => iP (l := [xa]) (by (exact hS.os)) (by (simp <;> omega))) (Ns 37 I (v' := .bool (decide (okN xa))) (congrArg Value.bool (by exact Ag.2 (by simp))) ?_); refine Yt I (Km I (Nc 39 I (fun hg39 => ?_) (fun hg39 => ?_)))
   ·refine T2 I (Kt I (Yp I (Nn (WX.joinP (()) (S8 I I I I I I I I) (by refine (Sc ?_ (S0 _)) <;> ((refine ai rfl ?_; (try dsimp only); (simp [*]; done)))) ?_ (by (exact ar)))))); (try dsimp only); done
   ·refine Km I (Kc I (fun w hS => iP (l := vs) (by (exact hS.sl)) (by assumption)) (Ns 41 I (v' := .bool (decide (ub vs))) (congrArg Value.bool (by rfl)) ?_)); refine Yt I (Yq I (Nn (WX.joinP (()) (S8 I I I I I I I I) (by refine (Sc ?_ (S0 _)) <;> ((refine ai rfl ?_; (try dsimp only); (simp [*]; done)))) ?_ (by (exact ar))))); (try dsimp only); done
  ·rintro _ hmeet; (try dsimp only at hmeet ⊢); refine Ci I (fun hc43 => ?_) (fun hc43 => ?_)
   ·have hE : shE p k xa d vs = 3 := by rw [shE, Aa (fun h => h h0), Ab (show ¬ (okN xa ∧ ∀ x ∈ vs, okN x) from hc43)]
    have hr : shS p k xa d vs = (([], [], []), 3) := by rw [shS, hE, Ab (by decide)]
    refine Cs (Kq I (Kb [[.slice none 0 0], [.slice none 0 0], [.slice none 0 0]] I I) ?_); refine Nu I I (Sa I I I .tc) (Ka I (Nt (Ce (Xb ?_)))); exact WX.retM0 I (.agg I .tc u58 I (by kernel_rfl) (.tmp I .nil)) fun w' hS => iq hr hS
   ·have hok : okN xa ∧ ∀ x ∈ vs, okN x := Ah.1 hc43; refine Ck (Xa (Cq (Cs (Kq I (Fa (q := 1) I I u33 I I) (Kq I (ldp I I .tc u26 I (by kernel_rfl : _ = some 2) (by rfl) (by rfl)) ?_))))); refine Km I (Kc I (fun w hS => iX (g := k.g) (x := xa) (by assumption)) (Ns 48 I (v' := .bool (decide (elG k.g xa))) (congrArg Value.bool (by simp [hg])) ?_)); refine Yt I (Nt (Ci I (fun hc49 => ?_) (fun hc49 => ?_)))
    ·have hn : ¬ elG k.g xa := by simpa using hc49
     have hE : shE p k xa d vs = 13 := by rw [shE, Aa (fun h => h h0), Aa (fun h => h hok), Ab hn]
     have hr : shS p k xa d vs = (([], [], []), 13) := by rw [shS, hE, Ab (by decide)]
     refine Cs (Kq I (Kb [[.slice none 0 0], [.slice none 0 0], [.slice none 0 0]] I I) ?_); refine Nu I I (Sa I I I .tc) (Ka I (Nt (Ce (Xb ?_)))); exact WX.retM0 I (.agg I .tc u58 I (by kernel_rfl) (.tmp I .nil)) fun w' hS => iq hr hS
    ·have hel : elG k.g xa := by simpa using hc49
     refine Ck (Xa (Cq (Cs (Km I (Kf 5 I u33 I I I .tc u31 ?_))))); refine Yo I u31 (Kc I (fun w hS => qP (l := d) (n := (k.r.length : Int)) (by (exact hS.sl)) (by assumption)) (Yt I (Nt (Ci I (fun hc56 => ?_) (fun hc56 => ?_)))))
     ·have hasc : bL 1 d k.r.length = false := by simpa using hc56
      have hE : shE p k xa d vs = 2 := by rw [shE, Aa (fun h => h h0), Aa (fun h => h hok), Aa (fun h => h hel), Ab hasc]
      have hr : shS p k xa d vs = (([], [], []), 2) := by rw [shS, hE, Ab (by decide)]
      refine Cs (Kq I (Kb [[.slice none 0 0], [.slice none 0 0], [.slice none 0 0]] I I) ?_); refine Nu I I (Sa I I I .tc) (Ka I (Nt (Ce (Xb ?_)))); exact WX.retM0 I (.agg I .tc u58 I (by kernel_rfl) (.tmp I .nil)) fun w' hS => iq hr hS
     ·have hasc : bL 1 d k.r.length = true := by simpa using hc56
      have hasn : ¬ bL 1 d k.r.length = false := by rw [hasc]; decide
      refine Ck (Xa (Cq (Cs (Km I (Yo I u31 (Km I (Yo I u38 (Yj I (Nt (Ci I (fun hc62 => ?_) (fun hc62 => ?_)))))))))))
      ·have hE : shE p k xa d vs = 6 := by rw [shE, Aa (fun h => h h0), Aa (fun h => h hok), Aa (fun h => h hel), Aa hasn, Ab (by omega)]
       have hr : shS p k xa d vs = (([], [], []), 6) := by rw [shS, hE, Ab (by decide)]
       refine Cs (Kq I (Kb [[.slice none 0 0], [.slice none 0 0], [.slice none 0 0]] I I) ?_); refine Nu I I (Sa I I I .tc) (Ka I (Nt (Ce (Xb ?_)))); exact WX.retM0 I (.agg I .tc u58 I (by kernel_rfl) (.tmp I .nil)) fun w' hS => iq hr hS
      ·have hlen : vs.length = d.length := by omega
       have hlen2 : ¬ vs.length ≠ d.length := by omega
       have hd18 := se hasc (by have := (bn h0).2.2.2.2.2.1; omega); refine Ck (Xa (Cq (Cf [4, 5, 6, 7, 8, 9, 0, 1, 2, 3, 10, 11, 12] [] [0, 0, 0, 3, 1, 0, 0, 0, 0, 1, 3, 0, 0] (by kernel_rfl) (by kernel_rfl) I ?_))); refine Jv I I I I I (fun ext => Oc I I (Kv fun w hS => kK (n := 1) (by omega) (by omega))) ?_; refine Kj I (Fa (q := 0) I I u99 I I) (Kj I (Fa (q := 0) I I u97 I I) (Kj I (Fa (q := 13) I I u30 I I) (Kj I (Ld I I .tc u22) ?_))); refine Jv I I I I I (fun ext => Oc I I (Kv fun w hS => qN (x := p.lo))) ?_; refine Kj I (Fa (q := 3) I I u33 I I) (Kj I (Ld I I .tc u22) ?_); refine Kj I (Rm I I) ?_; refine Jf I I I I I (jQ I I u31 (by kernel_rfl : _ = some (some (.string (S [])), 1, 16)) I (by simp only [List.map]; rfl) I I ?_ (by decide)) ?_
       ·simp [Value.cells]
       intro b67; refine Jf I I I I I (iD I I u39 (by kernel_rfl : _ = some (some (.agg #[.bool false, .string (S [])]), 2, 24)) (by kernel_rfl) (by decide) I I (by (simp [Value.cells]; done)) (by (simp only [List.map, Value.cells, C7, List.flatMap_nil, Bn, D4]; rfl)) (by decide)) ?_; intro b74; refine Kj I (Ra I I) (Kj I (Ra I I) ?_); refine WJ.nil ?_
       refine Nt (Cq (Cs (Km I (Yo I u31 (Km I (Nt (Cb (Lo (σ := Nat × (Option Nat) × Nat × (List Value) × (Option Nat) × Nat × (List Value)) [(2, _), (3, _), (5, _), (6, _), (10, _), (12, _), (75, _), (76, _)] (fun gq => [(77, .int .i64 (gq.1 : Int)), (14, .slice (gq.2.1.map fun b => ⟨b, 0, none⟩) (2 + gq.1) gq.2.2.1), (15, .slice (gq.2.2.2.2.1.map fun b => ⟨b, 0, none⟩) (2 + gq.1) gq.2.2.2.2.2.1)]) (fun gq => gq.1 ≤ vs.length ∧ gq.2.2.1 = 2 + gq.1 + gq.2.2.2.1.length ∧ gq.2.2.2.2.2.1 * 2 = (2 + gq.1) * 2 + gq.2.2.2.2.2.2.length ∧ ∀ x ∈ vs.take gq.1, val x < val p.attr) (fun gq => vs.length - gq.1) (fun gq => [⟨gq.2.2.2.2.1, aY (zsL p vs gq.1) ++ gq.2.2.2.2.2.2, 37⟩, ⟨gq.2.1, ak (bsL k xa d gq.1) ++ gq.2.2.2.1, 22⟩, ⟨some b12, shC p k (.slice ra k.r.length rc), 99⟩, CF b10, ⟨some b6, ikC k (.slice ra k.r.length rc), 33⟩, ⟨some b5, prC p, 30⟩]) (fun gq => [Fact.sl ra (ak k.r), Fact.sl da (dX d), Fact.sl va (ak vs)]) (0, some b67, 2, [], some b74, 2, []) (S8 I I I I I I I I) (S3 I I I) (by (try dsimp only); exact ⟨Aj _, rfl, rfl, by simp⟩) (by exact fun w h => by show St _ _ [⟨some b74, aY (zsL p vs 0) ++ [], _⟩, ⟨some b67, ak (bsL k xa d 0) ++ [], _⟩, _, _, _, _] _ _; rw [zs0, bs0]; exact ar _ h) ?_)))))))); rintro ⟨i, o1, c1, p1, o2, c2, p2⟩ hinv1; (try dsimp only at hinv1 ⊢); obtain ⟨hi, hc1, hc2, hlt⟩ := hinv1; refine Cs (Yl I (Nt (Cq (Ci I (fun hc78 => ?_) (fun hc78 => ?_)))))
       ·have hil : i < vs.length := by omega
        have hid : i < d.length := by omega
        obtain ⟨v, hv⟩ : ∃ v, Keep (v = vs.getD i default) := ⟨_, rfl⟩; have hdi := eY hasc _ (ao d i hid); obtain ⟨y, hy⟩ : ∃ y : Nat, Keep ((y : Int) = d.getD i default) := ⟨(d.getD i default).toNat, by show ((d.getD i default).toNat : Int) = _; omega⟩; have hyl : y < k.r.length := by rw [← show (y : Int) = _ from hy] at hdi; omega
        have hov : okN v := by rw [show v = _ from hv]; exact hok.2 _ (ao vs i hil)
        have hoa : okN p.attr := (cM (bn h0).1).1.1 _ (by simp); have hzl : (aY (zsL p vs i)).length = (2 + i) * 2 := by rw [aj _ _ 2 (fun _ => rfl), Am, Am, Af, Bo]; omega
        have hbl : (ak (bsL k xa d i)).length = 2 + i := by rw [Af, Am, Am, Af, Bo]; omega
        refine Ck (Xa (Cq (Cb (Cs (Km I (Kq I (Ib I I I u31 (by omega) (by (rw [Af]; omega))) ?_)))))); refine Kq I (ldm I I u22 I (by assumption)) ?_; refine Ns 81 I (v' := .string (S (v))) (congrArg (fun l => Value.string (S l)) (by rw [show v = _ from hv])) ?_; refine Ka I (Ka I (Nt (Cq (Cs (Km I (Kq I (Fa (q := 0) I I u99 I I) (Kq I (Fa (q := 0) I I u97 I I) (Kf 11 I u30 I I I .tc u22 ?_)))))))); refine Kc I (fun w hS => eF (a := v) (b := p.attr)) (Yh I (Nt (Ci I (fun hc88 => ?_) (fun hc88 => ?_))))
        ·have hn : ¬ ∀ x ∈ vs, val x < val p.attr := fun h => by
          have h1 := h _ (ao vs i hil); rw [← show v = _ from hv] at h1; rw [aD hov hoa, dR] at hc88; omega
         have hE : shE p k xa d vs = 2 := by rw [shE, Aa (fun h => h h0), Aa (fun h => h hok), Aa (fun h => h hel), Aa hasn, Aa hlen2, Ab hn]
         have hr : shS p k xa d vs = (([], [], []), 2) := by rw [shS, hE, Ab (by decide)]
         refine Cs (Kq I (Kb [[.slice none 0 0], [.slice none 0 0], [.slice none 0 0]] I I) ?_); refine Nu I I (Sa I I I .tc) (Ka I (Nt (Ce (Xb (Xf (Xb (Xb (Xf (Xb ?_))))))))); exact WX.retM0 I (.agg I .tc u58 I (by kernel_rfl) (.tmp I .nil)) fun w' hS => iq hr hS
        ·have hvl2 : val v < val p.attr := by rw [aD hov hoa, ax] at hc88; exact hc88
         refine Ck (Xa (WC.free (K := [⟨some b6, ikC k (.slice ra k.r.length rc), 33⟩]) (fs0 := [Fact.sl ra (ak k.r), Fact.sl da (dX d), Fact.sl va (ak vs)]) [0, 1, 2, 3, 4, 5, 6, 7, 8, 9, 10, 12, 13, 11, 14, 15, 16, 17] [] [0, 0, 0, 0, 0, 0, 0, 0, 0, 3, 1, 0, 0, 1, 3, 1, 0, 0] (by kernel_rfl) (by kernel_rfl) I ?_)); refine Kj I (Rm I I) (Kj I (Fa (q := 5) I I u33 I I) (Kj I (Ld I I .tc u31) ?_)); refine Kj I (Rm I I) (Kj I (Rm I I) ?_); refine Kj I (Ib I I I u38 (by omega) (by (rw [Af]; omega))) ?_; refine Kj I (ldm I I u3 I (by assumption)) ?_; refine WJ.set 96 I (v' := .int .i64 ((y : Nat) : Int)) (congrArg (Value.int .i64) (by rw [show (y : Int) = _ from hy])) ?_; refine Kj I (Ib I I I u31 (by omega) (by (rw [Af]; omega))) ?_; refine Kj I (ldm I I u22 I (by assumption)) ?_; refine Jf I I I I I (jQ I I u31 (by kernel_rfl : _ = some (some (.string (S [])), 1, 16)) I (by simp only [List.map]; rfl) I I ?_ (by decide)) ?_
         ·simp [Value.cells]
         intro b99; refine Jg I I I I I (pD I u31 (by kernel_rfl : _ = some (some (.string (S [])), 1, 16)) I .tc I I (fun ext w hS => by (exact hS.os)) (by rfl) (by (refine ⟨hbl, by omega, by omega, by omega⟩)) (by (simp [Value.oneCell']; done))) ?_; rintro ⟨o100, c100, s100⟩ hg100; (try dsimp only at hg100 ⊢); refine Kj I (Rm I I) ?_; refine Jv I I I I I (fun ext => Oc I I (Kv fun w hS => qN (x := v))) ?_; refine Kj I (Rm I I) ?_; refine Jf I I I I I (iD I I u39 (by kernel_rfl : _ = some (some (.agg #[.bool false, .string (S [])]), 2, 24)) (by kernel_rfl) (by decide) I I (by (simp [Value.cells]; done)) (by (exact cY _)) (by decide)) ?_; intro b104; refine Jg I I I I I (ox I u39 (by kernel_rfl : _ = some (some (.agg #[.bool false, .string (S [])]), 2, 24)) (by kernel_rfl) (by decide) .tc I I (fun ext w hS => by (exact hS.os)) (by rfl) (by (refine ⟨hzl, by omega, by omega, by omega⟩)) (by (simp [Value.oneCell']; done))) ?_; rintro ⟨o105, c105, s105⟩ hg105; (try dsimp only at hg105 ⊢); refine Kj I (Ra I I) (Kj I (Ra I I) ?_); refine WJ.nil ?_
         refine Nn (Xd (Xa (Cg (Kq I (Rz I I I (by omega)) (Km I (Nn (Lx ((i + 1, o100, c100, s100, o105, c105, s105)) (by (try dsimp only); omega) (S8 I I I I I I I I) (by refine (Sc ?_ (Sc ?_ (Sc ?_ (S0 _)))) <;> (rfl)) ?_ (by exact fun w h => by dsimp only; rw [yP hid, wN hil, jA, mK, ← show (y : Int) = _ from hy, ← show v = _ from hv, Au]; exact ar _ h)))))))); (try dsimp only); exact ⟨hil, by omega, by omega, az hil hlt (by rw [← show v = _ from hv]; exact hvl2)⟩
       ·refine Cx (Xc (Xc (Xe ?_))); obtain rfl : i = vs.length := by omega
        rw [Ao] at hlt; have hE : shE p k xa d vs = (iO p).2 := by rw [shE, Aa (fun h => h h0), Aa (fun h => h hok), Aa (fun h => h hel), Aa hasn, Aa hlen2, Aa (fun h => h hlt)]
        refine Xa (Cs (Kq I (lda I I .tc u30 I ?_) ?_))
        ·kernel_rfl
        refine Kc I (fun w hS => uV (p := p) (by assumption) (by (exact aZ hD hS))) (Km I (Ye I (Ye I (Ye I (Ka I (Ka I (Ka I (Nt (Cq (Cs (Km I (Yj I (Nt (Ci I (fun hc114 => ?_) (fun hc114 => ?_)))))))))))))))
        ·have hr : shS p k xa d vs = (([], [], []), (iO p).2) := by rw [shS, hE, Ab (by simpa using hc114)]
         refine Cs (Kq I (Kb [[.slice none 0 0], [.slice none 0 0], [.slice none 0 0]] I I) (Km I (Nu I I (Sa I I I .tc) (Ka I (Nt (Ce (Xb ?_))))))); exact WX.retM0 I (.agg I .tc u58 I (by kernel_rfl) (.tmp I .nil)) fun w' hS => iq hr hS
        ·have hr : shS p k xa d vs = (shT p k xa d vs, 0) := by rw [shS, hE, Aa (by simpa using hc114)]
         have hpr := xp h0 hel hasc hok.2 hlen; have hbf : bsL k xa d vs.length = k.z :: xa :: d.map fun q => rD k q.toNat := by rw [bsL, A6 (by omega)]
         have hzf : zsL p vs vs.length = ofZ 1 :: ngN p.lo :: vs.map ngN := by rw [zsL, Ao]
         have hbl : (bsL k xa d vs.length).length = 2 + vs.length := by rw [Am, Am, Af, Bo]; omega
         have hzl : (zsL p vs vs.length).length = 2 + vs.length := by rw [Am, Am, Af, Bo]; omega
         have hit := n4 (l := aR d k.r.length) []; rw [List.nil_append] at hit; rw [← hbf, ← hzf] at hpr; obtain ⟨tg, htg⟩ : ∃ tg, tg = tgS p k xa d vs := ⟨_, rfl⟩; have hPr : bu k.g (bsL k xa d vs.length) (zsL p vs vs.length) = (tg, 0) := by rw [htg, tgS, ← hbf, ← hzf, ← hpr]
         refine WC.set 14 I (v' := .slice (o1.map fun b => ⟨b, 0, none⟩) (bsL k xa d vs.length).length c1) (by rw [hbl]) ?_; refine WC.set 15 I (v' := .slice (o2.map fun b => ⟨b, 0, none⟩) (zsL p vs vs.length).length c2) (by rw [hzl]) ?_; refine Ck (Xa (Cs (Kq I (Fa (q := 1) I I u33 I I) (Kq I (ldp I I .tc u26 I (by kernel_rfl : _ = some 2) (by rfl) (by rfl)) ?_)))); refine Km I (Km I (Kc I (fun w hS => (by have := iy (w := w) (g := k.g) (l := bsL k xa d vs.length) (es := zsL p vs vs.length) (a := o1.map fun b => ⟨b, 0, none⟩) (b := o2.map fun b => ⟨b, 0, none⟩) (c := c1) (d := c2) hS.oc hS.oc (by omega) (by omega) hk8; rw [hPr] at this; exact this)) (Km I (Ye I (Ye I (Ka I (Ka I (Nt (Cq (Cs (Km I (Yj I (Nt (Ci I (fun hc126 => ?_) (fun hc126 => ?_)))))))))))))))
         ·all_goals (exfalso; simp at hc126) -- done
         ·refine Ck (Xa (Cs (Kq I (Fa (q := 1) I I u33 I I) (Kq I (ldp I I .tc u26 I (by kernel_rfl : _ = some 2) (by rfl) (by rfl)) ?_)))); refine Kh I (iA I I u54 (by kernel_rfl : _ = some (some (.agg #[.string (S []), .string (S [])]), 2, 32)) (by kernel_rfl) (by decide) I I (by (simp [Value.cells]; done)) (by (exact cY _)) (by decide)) ?_; intro b131; refine Kq I (Kb [[.slice none 0 0], [.slice none 0 0], [.slice none 0 0]] I I) ?_; refine Kh I (Oz [.slice none 0 0, .slice none 0 0, .slice none 0 0] I) ?_; intro b21; refine Nu I I (Sa I I I .tc) (Nt (Cs (Km I (Kq I (Kb [[.int .i64 0], [.string (S [])], [.slice none 0 0]] I I) ?_)))); refine Kh I (Oz [.int .i64 0, .string (S []), .slice none 0 0] I) ?_; intro b22; refine Nu I I (Sa I I I .tc) (Nt (Cs (Kq I (dh I I I) (Kh I (Oa I (v := .nilFunc) (cs := [.nilFunc]) (by kernel_rfl) I) ?_)))); intro b23; refine Ng I I (st I I I .tc (by kernel_rfl) I ?_ (by (simp only [Av, Aw]; rfl))) ?_
          ·decide
          intro _; refine Nt (Cs (WL.st (fun w h => (show St _ _ (tmE [] (none, 0, [], none, 0, []) :: vrE [] (none, 0, [], none, 0, []) :: lS b22 tg ([] : List Bs).length (none, 0, [], none, 0, []) :: kW b21 (.slice (some ⟨b131, 0, none⟩) 1 1) ([] : List Bs).length (none, 0, [], none, 0, []) :: SCR p k (.slice ra k.r.length rc) b6 b10 b12 b131 b21 b22 b23) _ w from (((h.perm (List.perm_middle (l₁ := [_, _]))).nil 124).nil 122).sub (.cons_cons _ (.cons_cons _ (.cons_cons _ (.cons_cons _ (.cons_cons _ (.cons_cons _ (.cons _ (.cons _ (.cons_cons _ (.cons_cons _ (.cons_cons _ (.cons _ .slnil)))))))))))) (fun _ h => h))) ?_)); refine Kq I (Ld I I .tc zp) ?_; refine Kq I (Fa (q := 0) I I u99 I I) (Kq I (Fa (q := 0) I I u97 I I) (Kf 14 I u30 I I I .tc u22 ?_)); refine Km I (Kh I (aP I I I (by kernel_rfl) I (fun w hS => nw (bd := p.sz) (ba := xa) (bs := []) (vs := []) (o1 := none) (o2 := none) (c1 := 0) (c2 := 0) (p1 := []) (p2 := []) hS I (by simp) ⟨rfl, rfl⟩)) ?_); rintro ⟨oA, cA, pA, oB, cB, pB⟩; refine WL.pu ?_; intro hA; refine Nt (Cs (Kq I (Ld I I .tc zp) ?_)); refine Km I (Kf 4 I u33 I I I .tc u22 ?_)
          refine Kh I (aP I I I (by kernel_rfl) I (fun w hS => (show Calls _ _ _ _ (fun e w' => ∃ g : aG, e = .returned (tup []) ∧ aOk (bsW k xa []).length g ∧ St _ _ (tmE (bsW k xa []) g :: vrE (vsW p []) g :: lS b22 tg (bsW k xa []).length g :: kW b21 (.slice (some ⟨b131, 0, none⟩) 1 1) (bsW k xa []).length g :: SCR p k (.slice ra k.r.length rc) b6 b10 b12 b131 b21 b22 b23) _ w') from nw (bd := (iO p).1.1) (ba := k.s) (bs := [xa]) (vs := [p.sz]) (o1 := oA) (o2 := oB) (c1 := cA) (c2 := cB) (p1 := pA) (p2 := pB) hS I (by simp) hA))) ?_; intro gB; refine WL.pu ?_; intro hB; refine Nt (Cq (Cs (Km I (Kf 5 I u33 I I I .tc u31 ?_)))); refine Yo I u31 (Kh I (Oc I I (fun w hS => lH (a := da) (m := d.length) (c := dc) (n := k.r.length) hS)) ?_); intro g152
          refine Nt (Cb (WC.range (CO := SCO p k xa tg (.slice ra k.r.length rc) (.slice da d.length dc) k.r.length b6 b10 b12 b131 b21 b22 b23 g152.1 g152.2) (pg := fun l g => aOk (bsW k xa l).length g) (inv := fun l x => ∃ r, l ++ x :: r = aR d k.r.length) (after := fun l x => l ++ [x]) (stop := fun _ _ => none) (enc := fun y : Nat => #[Value.int .i64 (y : Int)]) (([] : List Nat)) (gB) ((itL (fun (l : List Nat) x => l ++ [x]) (fun _ _ => (none : Option Code)) (aR d k.r.length) []).1) ((itL (fun (l : List Nat) x => l ++ [x]) (fun _ _ => (none : Option Code)) (aR d k.r.length) []).2) (hB) I (by kernel_rfl) (fun _ => rfl) (by exact fun w h => ar _ h) ?_ (fun l r D w hl' hY hS => vB (J := fun l s => s ++ l = aR d k.r.length) (d := d) (a := da) (c := dc) (n := k.r.length) hY hS hB (List.nil_append _) (fun l x s h => ⟨⟨l, h⟩, fun _ => by rw [Ch]; exact h⟩) hasc hdl (by omega)) ?_ ?_))
          ·intro l r D f a s g x ext wr hl hi hpg hF hS; obtain ⟨rr, hrr⟩ := hi; obtain ⟨hxn, hsn⟩ := n8 hrr; obtain ⟨oT, cT, pT, oV, cV, pV⟩ := g; rw [po]; refine eu (Fr.tm (hF.put (d := 153) rfl _)) hS ?_; refine WR.region (by kernel_rfl) ?_; refine Ka I (Nn (WX.begin hl ?_)); refine Cb (WR.free (K := [⟨some b23, [.func (.func 59) #[] #[.pointer (some ⟨b22, 0, none⟩), .pointer (some ⟨b21, 0, none⟩)]], 125⟩, ⟨some b12, shC p k (.slice ra k.r.length rc), 99⟩, ⟨some b6, ikC k (.slice ra k.r.length rc), 33⟩]) (fs0 := [Fact.sl ra (ak k.r)]) (by kernel_rfl) [1, 2, 3, 4, 0, 5, 6, 7, 8, 9, 10] [] [0, 0, 0, 0, 1, 0, 0, 0, 0, 0, 1] (by kernel_rfl) (by kernel_rfl) I ?_); refine Kj I (Fa (q := 0) I I u99 I I) ?_; refine Kj I (ldp I I .tc u97 I (by kernel_rfl : _ = some 17) (by rfl) (by rfl)) ?_; refine Kj I (Rm I I) ?_; refine Jv I I I I I (fun ext => Oc I I (Kv fun w hS => xn (p := p) (i := x))) ?_; refine Kj I (Ld I I .tc zp) ?_; refine Kj I (Fa (q := 5) I I u33 I I) (Kj I (Ld I I .tc u31) ?_); refine Kj I (Rm I I) ?_; refine Kj I (Ib I I I u31 (by omega) (by (rw [Af]; omega))) ?_; refine Kj I (ldm I I u22 I (by assumption)) ?_; refine WJ.set 163 I (v' := .string (S (rD k x))) (congrArg (fun l => Value.string (S l)) (by rfl)) ?_
           refine Jg I I I I I (fun ext => aP I I I (by kernel_rfl) I (AR fun w hS => nw (bd := lim p x) (ba := rD k x) (bs := bsW k xa s) (vs := vsW p s) (o1 := oT) (o2 := oV) (c1 := cT) (c2 := cV) (p1 := pT) (p2 := pV) hS (by simp) (by simp; omega) hpg)) ?_; intro g164 hg164; refine WJ.nil ?_; refine Nn (Xd ?_)
           exact WX.rnext hl fun w' hS => by
            refine ⟨rfl, g164, fun _ => ?_, ?_⟩
            ·rw [rW]; exact hg164
            ·dsimp only [SCO]; rw [rW, wS]; exact hS
          ·intro D1 g1 hD1 hg1 hcf; rw [hit]; obtain ⟨oT, cT, pT, oV, cV, pV⟩ := g1; dsimp only [SCO, SCR]
           rw [show lS b22 tg (bsW k xa (aR d k.r.length)).length (oT, cT, pT, oV, cV, pV) = lS b22 tg (db (bsW k xa (aR d k.r.length)) 0).length (oT, cT, pT, oV, cV, pV) from by rw [gj],
            show kW b21 (.slice (some ⟨b131, 0, none⟩) 1 1) (bsW k xa (aR d k.r.length)).length (oT, cT, pT, oV, cV, pV) = kW b21 (.slice (some ⟨b131, 0, none⟩) 1 1) (vsW p (aR d k.r.length)).length (oT, cT, pT, oV, cV, pV) from by rw [show (bsW k xa (aR d k.r.length)).length = (vsW p (aR d k.r.length)).length by simp]]
           dsimp only [tmE, vrE, lS, kW]; refine Xd (Xa (Cs (Kq I (lda I I .tc u95 I ?_) ?_)))
           ·kernel_rfl
           refine Kh I (iA I I u56 (by kernel_rfl : _ = some (some (.agg #[.int .i64 0, .string (S []), .slice none 0 0]), 3, 48)) (by kernel_rfl) (by decide) I I (by (simp [Value.cells]; done)) (by (exact cY _)) (by decide)) ?_; intro b166; refine Kq I (Fa (q := 2) I I u58 I I) (Ng I I (st I I I .tc (by kernel_rfl) I ?_ (by (simp only [Av, Aw]; rfl))) ?_)
           ·(simp; done)
           intro _; refine Nt (Cs (Kq I (lda I I .tc u58 I ?_) ?_))
           ·kernel_rfl
           refine Nu I I (Sa I I I .tc) (Ka I (Nt (Ce ?_))); exact WX.retM1 hD1 I (.agg I .tc u58 I (by kernel_rfl) (.tmp I .nil)) fun w' hS => ⟨⟨[k.g], vsW p (aR d k.r.length), [((0, tg, db (bsW k xa (aR d k.r.length)) 0), oT.map fun b => ⟨b, 0, none⟩, cT)], some ⟨b131, 0, none⟩, 1, oV.map fun b => ⟨b, 0, none⟩, cV, some ⟨b166, 0, none⟩, 1⟩, by rw [hr]; rfl, by rw [hr, htg]; rfl, hS.below, Fc hS.osk (Fc hS.ock (Fc hS.osk (Fc hS.ock Fn)))⟩
          ·intro D1 g1 c hD1 hcf; (rw [hit] at hcf; cases hcf)
abbrev wlS (p : PR) (s : SG) (v : Zs) (ms : List Bs) (l : List Nat) : List Zs := (cz (aA s.e) (aA p.lo)).1 :: v :: l.map fun i => aA (ms.getD i default)
theorem qD {p : PR} {s : SG} {v : Zs} {ms : List Bs} {l : List Nat} {x : Nat} : wlS p s v ms (l ++ [x]) = wlS p s v ms l ++ [aA (ms.getD x default)] := by simp [wlS]
theorem wR {p : PR} {s : SG} {v : Zs} {ms : List Bs} : aY (wlS p s v ms []) ++ ([] : List Value) = zc (cz (aA s.e) (aA p.lo)).1 ++ zc v := by simp [wlS]
theorem vw {l : List Zs} {z : Zs} : aY (l ++ [z]) = aY l ++ zc z := by simp
abbrev WCO (p : PR) (s : SG) (v : Zs) (ms : List Bs) (d : List Int) (a b : Option Addr) (c e b8 b15 h1 h2 : Nat) (l : List Nat) (g : Option Nat × Nat × List Value) : List Ent :=
 [⟨some h2, [.int .i64 (ms.length : Int)], 3⟩, ⟨some h1, [.slice b d.length e], 38⟩, ⟨some b15, [.slice (g.1.map fun b => ⟨b, 0, none⟩) (wlS p s v ms l).length g.2.1], 39⟩, ⟨g.1, aY (wlS p s v ms l) ++ g.2.2, 37⟩, ⟨some b8, [.slice a ms.length c], 31⟩]
theorem qK {p : PR} {sg : SG} {v : Zs} {ms : List Bs} {d : List Int} {am b : Option Addr} {c e : Nat} {w : World} {ok : Nat → Prop} (hF1 : (Fact.sl am (ak ms)).holds ok w) (hF2 : (Fact.sl b (dX d)).holds ok w) (hm8 : p.mn.1.1.length ≤ 8) (hml : ms.length ≤ 140737488351232) (hdl : d.length ≤ 140737488351232) (hD : TabD w) :
  Calls Tryz.prog 19 #[prV p, sgV sg, zV v, .slice am ms.length c, .slice b d.length e] w fun e w' => ∃ gx : Rs, e = .returned (.tuple #[gx.val (wiS p sg v ms d).1.length, .int .i64 (wiS p sg v ms d).2]) ∧ (True) ∧ Below w.heap.size w w' ∧ ∀ x ∈ ([Fact.sl gx.a (aY (wiS p sg v ms d).1)] : List Fact), x.holds (fun b => w.heap.size ≤ b) w' := by
 refine jS (S := St (fun _ => True) w [] ([Fact.sl am (ak ms), Fact.sl b (dX d)])) (L := [(0, prV p), (1, sgV sg), (2, zV v), (3, .slice am ms.length c), (4, .slice b d.length e)]) Tryz.func19 rfl Tryz.ntmps19 rfl (Ac rfl (Ac rfl (Ac rfl (Ac rfl (Ac rfl (An _)))))) (St.start (fun _ _ => trivial) (Fc (ah hF1) (Fc (ah hF2) Fn))) ?_
 refine Cs (Kh I (Oy I I) ?_)
 intro b5
 refine Kh I (Oy I I) ?_
 intro b6
 refine Kh I (Oy I I) ?_
 intro b7
 refine Kh I (Oy I I) ?_
 intro b8
 refine Ka I (Ka I (Nt (Cq (Cs (Kq I (lda I I .tc u30 I ?_) ?_)))))
 ·kernel_rfl
 refine Kc I (fun w hS => jK (p := p) (by assumption) (by (exact aZ hD hS))) (Ka I (Nt (Cs (Km I (Yj I (Nt (Ci I (fun hc20 => ?_) (fun hc20 => ?_))))))))
 ·have hr : wiS p sg v ms d = ([], cR p) := by rw [wiS, Ab (by simpa using hc20)]
  refine Cs (Km I (Ka I (Ka I (Nt (Ce (Xb ?_))))))
  exact WX.retM0 rfl (.tmp rfl (.tmp rfl .nil)) fun w' hS => ⟨⟨none, 0, []⟩, by rw [hr]; rfl, trivial, hS.below, by rw [hr]; exact Fc bI Fn⟩
 ·have h0 : cR p = 0 := by simpa using hc20
  refine Ck (Xa (Cq (WC.joinP (σ := Unit) [(4, _), (5, _), (6, _), (7, _), (8, _), (10, _), (11, _)] (fun gq => [(40, .bool (decide (¬ ((okN sg.a ∧ okN sg.e ∧ okN sg.v) ∧ okZ v ∧ ub ms))))]) (fun gq => True) (S7 I I I I I I I) ?_ ?_)))
  ·skip
   refine Cg (Kf 0 I u35 I I I .tc u22 ?_); refine Kf 1 I u35 I I I .tc u22 ?_; refine Kf 2 I u35 I I I .tc u22 ?_; refine Kh I (aQ I I u31 (by kernel_rfl : _ = some (some (.string (S [])), 1, 16)) I (by simp only [List.map]; rfl) I I ?_ (by decide)) ?_
   ·simp [Value.cells]
   intro b28; refine Kc I (fun w hS => iP (l := [sg.a, sg.e, sg.v]) (by (exact hS.os)) (by (simp <;> omega))) (Ns 29 I (v' := .bool (decide (okN sg.a ∧ okN sg.e ∧ okN sg.v))) (congrArg Value.bool (by exact Ag.2 (by simp))) ?_); refine Yt I (Km I (Nc 31 I (fun hg31 => ?_) (fun hg31 => ?_)))
   ·refine T2 I (Kt I (Yp I (Km I (T2 I (Kt I (Yp I (Nn (WX.joinP (()) (S7 I I I I I I I) (by refine (Sc ?_ (S0 _)) <;> ((refine ai rfl ?_; (try dsimp only); (simp [*]; done)))) ?_ (by (exact ar)))))))))); (try dsimp only); done
   ·refine Kq I (lda I I .tc u37 I ?_) ?_
    ·kernel_rfl
    refine Kc I (fun w hS => ep (x := v)) (Yt I (Yq I (Km I (Nc 36 I (fun hg36 => ?_) (fun hg36 => ?_)))))
    ·refine T2 I (Kt I (Yp I (Nn (WX.joinP (()) (S7 I I I I I I I) (by refine (Sc ?_ (S0 _)) <;> ((refine ai rfl ?_; (try dsimp only); (simp [*]; done)))) ?_ (by (exact ar)))))); (try dsimp only); done
    ·refine Kq I (Ld I I .tc u31) ?_; refine Kc I (fun w hS => iP (l := ms) (by (exact hS.sl)) (by assumption)) (Ns 38 I (v' := .bool (decide (ub ms))) (congrArg Value.bool (by rfl)) ?_); refine Yt I (Yq I (Nn (WX.joinP (()) (S7 I I I I I I I) (by refine (Sc ?_ (S0 _)) <;> ((refine ai rfl ?_; (try dsimp only); (simp [*]; done)))) ?_ (by (exact ar))))); (try dsimp only); done
  ·rintro _ hmeet; (try dsimp only at hmeet ⊢); refine Ci I (fun hc40 => ?_) (fun hc40 => ?_)
   ·have hr : wiS p sg v ms d = ([], 3) := by rw [wiS, Aa (fun h => h h0), Ab (show ¬ ((okN sg.a ∧ okN sg.e ∧ okN sg.v) ∧ okZ v ∧ ∀ x ∈ ms, okN x) from hc40)]
    refine Cs (Ka I (Ka I (Nt (Ce (Xb ?_))))); exact WX.retM0 I (.tmp I (.tmp I .nil)) fun w' hS => ⟨⟨none, 0, []⟩, by rw [hr]; rfl, trivial, hS.below, by rw [hr]; exact Fc bI Fn⟩
   ·have hok := Ah.1 hc40; refine Ck (Xa (Cq (WC.joinP (σ := Unit) [(4, _), (5, _), (6, _), (7, _), (8, _), (10, _), (11, _)] (fun gq => [(48, .bool (decide (ms.length < 2 ∨ 18 < ms.length)))]) (fun gq => True) (S7 I I I I I I I) ?_ ?_)))
    ·skip
     refine Cg (Kq I (Ld I I .tc u31) ?_); refine Yo I u31 (Yl I (Km I (Nc 44 I (fun hg44 => ?_) (fun hg44 => ?_))))
     ·refine T2 I (Kt I (Yp I (Nn (WX.joinP (()) (S7 I I I I I I I) (by refine (Sc ?_ (S0 _)) <;> ((exact congrArg (fun b => some (Value.bool b)) (by symm; apply Aq; omega)))) ?_ (fun _ h => h))))); (try dsimp only); done
     ·refine Kq I (Ld I I .tc u31) ?_; refine Yo I u31 (Yg I (Yq I (Nn (WX.joinP (()) (S7 I I I I I I I) (by refine (Sc ?_ (S0 _)) <;> ((refine ai rfl ?_; (try dsimp only); (exact Ag.2 (by omega))))) ?_ (fun _ h => h))))); (try dsimp only); done
    ·rintro _ hmeet; (try dsimp only at hmeet ⊢); refine Ci I (fun hc48 => ?_) (fun hc48 => ?_)
     ·have hr : wiS p sg v ms d = ([], 6) := by rw [wiS, Aa (fun h => h h0), Aa (fun h => h hok), Ab hc48]
      refine Cs (Ka I (Ka I (Nt (Ce (Xb ?_))))); exact WX.retM0 I (.tmp I (.tmp I .nil)) fun w' hS => ⟨⟨none, 0, []⟩, by rw [hr]; rfl, trivial, hS.below, by rw [hr]; exact Fc bI Fn⟩
     ·refine Ck (Xa (Cq (Cs (Km I (Kq I (Ld I I .tc u31) ?_))))); refine Yo I u31 (Kc I (fun w hS => qP (l := d) (n := (ms.length : Int)) (by (exact hS.sl)) (by assumption)) (Yt I (Nt (Ci I (fun hc53 => ?_) (fun hc53 => ?_)))))
      ·have hasc : bL 1 d ms.length = false := by simpa using hc53
       have hr : wiS p sg v ms d = ([], 2) := by rw [wiS, Aa (fun h => h h0), Aa (fun h => h hok), Aa hc48, Ab hasc]
       refine Cs (Ka I (Ka I (Nt (Ce (Xb ?_))))); exact WX.retM0 I (.tmp I (.tmp I .nil)) fun w' hS => ⟨⟨none, 0, []⟩, by rw [hr]; rfl, trivial, hS.below, by rw [hr]; exact Fc bI Fn⟩
      ·have hasc : bL 1 d ms.length = true := by simpa using hc53
       have hr : wiS p sg v ms d = (wlS p sg v ms (aR d ms.length), 0) := by rw [wiS, Aa (fun h => h h0), Aa (fun h => h hok), Aa hc48, Aa (by rw [hasc]; decide)]
       have hit := n4 (l := aR d ms.length) []; rw [List.nil_append] at hit; have hm18 : ms.length ≤ 18 := by omega
       refine Ck (Xa (Cq (WC.free (K := [⟨some b6, [.string (S sg.a), .string (S sg.e), .string (S sg.v)], 35⟩, ⟨some b5, prC p, 30⟩]) (fs0 := []) [0, 1, 2, 3, 4, 5, 6, 7, 8, 10, 11, 9, 12] [] [0, 0, 1, 0, 0, 1, 1, 0, 0, 0, 3, 1, 0] (by kernel_rfl) (by kernel_rfl) I ?_))); refine Kj I (Fa (q := 1) I I u35 I I) (Kj I (Ld I I .tc u22) ?_); refine Jv I I I I I (fun ext => Oc I I (Kv fun w hS => df (a := sg.e))) ?_; refine Kj I (Fa (q := 13) I I u30 I I) (Kj I (Ld I I .tc u22) ?_); refine Jv I I I I I (fun ext => Oc I I (Kv fun w hS => df (a := p.lo))) ?_; refine Jv I I I I I (fun ext => Oc I I (Kv fun w hS => ni (x := aA sg.e) (y := aA p.lo))) ?_; refine Kj I (Rm I I) (Kj I (Re I I I) ?_); refine Jf I I I I I (cm I (v := (.agg #[.bool false, .string (S [])])) (cs := [.bool false, .string (S [])]) (by kernel_rfl) I) ?_; intro b13; refine WJ.st I I I I (ip I I I ?_ ?_ ?_) ?_
       ·kernel_rfl
       ·simp [Value.oneCell']
       ·rfl
       refine Kj I (Re I I I) (Kj I (Ra I I) ?_); refine WJ.nil ?_; refine Nt (Cs (Kq I (lda I I .tc u37 I ?_) ?_))
       ·kernel_rfl
       refine Kq I (lda I I .tc u37 I ?_) ?_
       ·kernel_rfl
       refine Kh I (iA I I u39 (by kernel_rfl : _ = some (some (.agg #[.bool false, .string (S [])]), 2, 24)) (by kernel_rfl) (by decide) I I (by (simp [Value.cells]; done)) (by (simp only [List.map, Value.cells, C7, List.flatMap_nil, Bn, D4]; rfl)) (by decide)) ?_; intro b66; refine Kh I (Oa I (v := (.slice none 0 0)) (cs := [.slice none 0 0]) (by kernel_rfl) I) ?_; intro b15; refine Ng I I (st I I I .tc (by kernel_rfl) I ?_ (by (simp only [Av, Aw]; rfl))) ?_
       ·decide
       intro _; refine Nt (Cq (Cs (Km I (Kq I (Ld I I .tc u31) ?_)))); refine Yo I u31 (Kh I (Oc I I (fun w hS => lH (a := b) (m := d.length) (c := e) (n := ms.length) hS)) ?_); intro g70; refine Nt (Cb (WC.range (CO := WCO p sg v ms d am b c e b8 b15 g70.1 g70.2) (pg := fun l g => g.2.1 * 2 = (wlS p sg v ms l).length * 2 + g.2.2.length) (inv := fun l x => ∃ r, l ++ x :: r = aR d ms.length) (after := fun l x => l ++ [x]) (stop := fun _ _ => none) (enc := fun y : Nat => #[Value.int .i64 (y : Int)]) (([] : List Nat)) ((some b66, 2, [])) ((itL (fun (l : List Nat) x => l ++ [x]) (fun _ _ => (none : Option Code)) (aR d ms.length) []).1) ((itL (fun (l : List Nat) x => l ++ [x]) (fun _ _ => (none : Option Code)) (aR d ms.length) []).2) (rfl) I (by kernel_rfl) (fun _ => rfl) (by exact fun w h => by show St _ _ [⟨some g70.2, _, _⟩, ⟨some g70.1, _, _⟩, ⟨some b15, [.slice (some ⟨b66, 0, none⟩) 2 2], _⟩, ⟨some b66, aY (wlS p sg v ms []) ++ [], _⟩, ⟨some b8, _, _⟩] _ _; rw [wR]; exact ar _ h) ?_ (fun l r D w hl' hY hS => vB (J := fun l s => s ++ l = aR d ms.length) (d := d) (a := b) (c := e) (n := ms.length) hY hS I (List.nil_append _) (fun l x s h => ⟨⟨l, h⟩, fun _ => by rw [Ch]; exact h⟩) hasc hdl hml) ?_ ?_))
       ·intro l r D f a s g x ext wr hl hi hpg hF hS; obtain ⟨rr, hrr⟩ := hi; obtain ⟨hxn, hsn⟩ := n8 hrr; rw [po]; refine eu (Fr.tm (hF.put (d := 71) rfl _)) hS ?_; refine WR.region (by kernel_rfl) ?_; refine Ka I (Nn (WX.begin hl ?_)); refine Cb (WR.free (K := [⟨some b15, [.slice (g.1.map fun b => ⟨b, 0, none⟩) (wlS p sg v ms s).length g.2.1], 39⟩, ⟨some b8, [.slice am ms.length c], 31⟩]) (fs0 := [Fact.sl am (ak ms)]) (by kernel_rfl) [1, 2, 3, 4, 5, 0, 6, 7] [8] [0, 0, 0, 0, 0, 1, 3, 1, 2] (by kernel_rfl) (by kernel_rfl) I ?_); refine Kj I (Ld I I .tc u31) ?_; refine Kj I (Rm I I) ?_; refine Kj I (Ib I I I u31 (by omega) (by (rw [Af]; omega))) ?_; refine Kj I (ldm I I u22 I (by assumption)) ?_; refine Jv I I I I I (fun ext => Oc I I (Kv fun w hS => df (a := ms.getD x default))) ?_; refine Kj I (Ld I I .tc u39) ?_; refine Jf I I I I I (iD I I u39 (by kernel_rfl : _ = some (some (.agg #[.bool false, .string (S [])]), 2, 24)) (by kernel_rfl) (by decide) I I (by (simp [Value.cells]; done)) (by (exact cY _)) (by decide)) ?_; intro b78
        refine Jg I I I I I (ox I u39 (by kernel_rfl : _ = some (some (.agg #[.bool false, .string (S [])]), 2, 24)) (by kernel_rfl) (by decide) .tc I I (fun ext w hS => by (exact hS.os)) (by rfl) (by (refine ⟨?_, ?_, ?_, ?_⟩ <;> first | omega | (rw [aj _ _ 2 (fun _ => rfl)]; done) | ((try simp) <;> omega))) (by (simp [Value.oneCell']; done))) ?_; rintro ⟨o79, c79, s79⟩ hg79; (try dsimp only at hg79 ⊢); refine WJ.nil ?_; refine Ng I I (st I I I .tc (by kernel_rfl) I ?_ (by (simp only [Av, Aw]; rfl))) ?_
        ·(simp; done)
        intro _; refine Nn (Xd ?_)
        exact WX.rnext hl fun w' hS => by
         have e1 : (wlS p sg v ms (s ++ [x])).length = (wlS p sg v ms s).length + 1 := by rw [qD, A2]; rfl
         have e2 : aY (wlS p sg v ms (s ++ [x])) = aY (wlS p sg v ms s) ++ zc (aA (ms.getD x default)) := by rw [qD, vw]
         refine ⟨rfl, (o79, c79, s79), fun _ => ?_, ?_⟩
         ·dsimp only; rw [e1]; exact hg79
         ·show St _ _ (ext ++ [⟨_, _, _⟩, ⟨_, _, _⟩, ⟨some b15, [.slice _ (wlS p sg v ms (s ++ [x])).length _], _⟩, ⟨_, aY (wlS p sg v ms (s ++ [x])) ++ s79, _⟩, ⟨_, _, _⟩]) _ _; rw [e1, e2]; exact hS.sub (C6 _ _) (fun _ h => h)
       ·intro D1 g1 hD1 hg1 hcf; rw [hit]; obtain ⟨o1, cp1, sp1⟩ := g1; dsimp only [WCO]; refine Xd (Xa (Cs (Kq I (Ld I I .tc u39) ?_))); refine Ka I (Ka I (Nt (Ce ?_))); exact WX.retM1 hD1 I (.tmp I (.tmp I .nil)) fun w' hS => ⟨⟨o1, cp1, sp1⟩, by rw [hr]; rfl, trivial, hS.below, by rw [hr]; exact Fc hS.ocf Fn⟩
       ·intro D1 g1 c hD1 hcf; (rw [hit] at hcf; cases hcf)
theorem AG {x y : Zs} (hx : okZ x) (hy : okZ y) : (bV x y).2 = 0 ∨ (bV x y).2 = 5 := by
 rw [bV, Ab ⟨hx, hy⟩]
 simp only
 rw [bO, Ab ⟨hx.1, hy.1⟩]
 split
 ·exact .inl rfl
 ·exact .inr rfl
theorem zt {x y : Zs} (hx : okZ x) (hy : okZ y) : (cz x y).2 = 0 ∨ (cz x y).2 = 5 := by
 obtain ⟨a, ha, rfl⟩ := fN.1 hx
 obtain ⟨b, hb, rfl⟩ := fN.1 hy
 rw [ko ha hb]; split
 ·exact .inl rfl
 ·exact .inr rfl
theorem wB {t : Tp} {n : Bs} (h : (aJ t n).2.2 = 0) : fw t := by
 unfold aJ at h; split at h
 ·rename_i h1; exact absurd h h1
 ·rename_i h1; exact (k9 (Ah.1 h1)).1
theorem fo {w w' : World} {own : List Ent} {T : TypeId} {fs : List Fact} {ok : Nat → Prop} (h : St ok w own fs w') : St ok w [⟨none, [] ++ [], T⟩] [] w' := (h.nil T).sub (Dp _ (List.nil_sublist _)) (fun _ h => by cases h)
abbrev rnV (r : (Bs × Zs × Tp) × Int) (g : Rs) : Value := .tuple #[.string (S r.1.1), zV r.1.2.1, r.1.2.2.v (g.val r.1.2.2.vals.length), .int .i64 r.2]
abbrev rzM (p : PR) (s : SG) (t : Tp) : Zs × Int := bV (aA s.e) (aA (aJ t p.msk).1)
abbrev rzV (p : PR) (s : SG) (t : Tp) : Zs × Int := cz (aA s.v) (rzM p s t).1
theorem qM {p : PR} {k : IK} {s : SG} {t : Tp} {a b : Option Addr} {c d : Nat} {w : World} {ok : Nat → Prop} (hF1 : (Fact.sl a (ak k.r)).holds ok w) (hF2 : (Fact.sl b (ak t.vals)).holds ok w) (hm8 : p.mn.1.1.length ≤ 8) (hk8 : k.g.1.length ≤ 8) (hkl : k.r.length ≤ 100000) (hnl : k.name.length ≤ 140737488351232) (hl : t.vals.length ≤ 100000) (hsd : t.seed.length ≤ 400000) (hT : Tab w) (hD : TabD w) :
  Calls Tryz.prog 13 #[prV p, ikV k (.slice a k.r.length c), sgV s, t.v (.slice b t.vals.length d)] w fun e w' => ∃ g : Rs, e = .returned (rnV (aU p k s t) g) ∧ g.cap = (aU p k s t).1.2.2.vals.length + g.sp.length ∧ St (fun _ => True) w [g.ent (ak (aU p k s t).1.2.2.vals) 22] [] w' := by
 refine En [Fact.sl a (ak k.r), Fact.sl b (ak t.vals)] [(0, prV p), (1, ikV k (.slice a k.r.length c)), (2, sgV s), (3, t.v (.slice b t.vals.length d))] Tryz.func13 I Tryz.ntmps13 I (Ac I (Ac I (Ac I (Ac I (An _))))) (Fc (ah hF1) (Fc (ah hF2) Fn)) (Cs (Kh I (Oy I I) ?_))
 intro b4
 refine Kh I (Oy I I) ?_
 intro b5
 refine Kh I (Oy I I) ?_
 intro b6
 refine Kh I (Oy I I) ?_
 intro b7
 refine Ka I (Kh I (Oz [.bool false, .string (S [])] I) ?_)
 intro b9
 refine Kh I (Oz [.slice none 0 0, .string (S []), .int .i64 0] I) ?_
 intro b10
 refine Ka I (Nt (Cs (Kq I (lda I I .tc u30 I ?_) ?_)))
 ·kernel_rfl
 refine Kq I (lda I I .tc u33 I ?_) ?_
 ·kernel_rfl
 refine Kc I (fun w hS => qL (p := p) (k := k) (by (exact hS.sl)) (by assumption) (by assumption) (by omega) (by assumption) (by (exact aZ hD hS))) (Km I (Ye I (Ye I (Kh I (Oz [.string (S []), .string (S []), .string (S []), .string (S []), .string (S []), .string (S []), .string (S []), .string (S []), .string (S []), .string (S []), .string (S []), .string (S []), .string (S []), .string (S []), .string (S []), .string (S []), .string (S []), .string (S []), .string (S []), .string (S []), .string (S []), .string (S []), .slice none 0 0, .string (S []), .string (S [])] I) ?_))))
 intro b12
 refine Nu I I (Sa I I I .tc) (Ka I (Nt (Cq (Cs (Km I (Yj I (Nt (Ci I (fun hc26 => ?_) (fun hc26 => ?_)))))))))
 ·have hr : aU p k s t = (([], (false, []), dA), cd p k) := by rw [aU, Ab (by simpa using hc26)]
  refine Cs (Kq I (Kb [[.bool false], [.string (S [])]] I I) (Kq I (Kb [[.slice none 0 0], [.string (S [])], [.int .i64 0]] I I) (Km I (Ka I (Nu I I (Sa I I I .tc) (Nu I I (Sa I I I .tc) (Ka I (Nt (Ce (Xb ?_))))))))))
  exact Rn I (.tmp I (.agg I .tc u37 I (by kernel_rfl) (.agg I .tc u41 I (by kernel_rfl) (.tmp I .nil)))) fun w' hS => ⟨⟨none, 0, []⟩, by rw [hr]; rfl, by rw [hr]; rfl, by rw [hr]; exact fo hS⟩
 ·have h0 : cd p k = 0 := by simpa using hc26
  have hg : bc k.g = 0 := (bn h0).2.2.2.2.1
  have hks : elG k.g k.s := (bn h0).2.2.2.2.2.2.2 _ (by simp)
  refine Ck (Xa (Cq (Cs (Kf 0 I u35 I I I .tc u22 ?_))))
  refine Kf 1 I u35 I I I .tc u22 ?_
  refine Kf 2 I u35 I I I .tc u22 ?_
  refine Kh I (aQ I I u31 (by kernel_rfl : _ = some (some (.string (S [])), 1, 16)) I (by simp only [List.map]; rfl) I I ?_ (by decide)) ?_
  ·simp [Value.cells]
  intro b36
  refine Kc I (fun w hS => iP (l := [s.a, s.e, s.v]) (by (exact hS.os)) (by (simp <;> omega))) (Ns 37 I (v' := .bool (decide (okN s.a ∧ okN s.e ∧ okN s.v))) (congrArg Value.bool (by exact Ag.2 (by simp))) ?_)
  refine Yt I (Nt (Ci I (fun hc38 => ?_) (fun hc38 => ?_)))
  ·have hn : ¬ (okN s.a ∧ okN s.e ∧ okN s.v) := by simpa using hc38
   have hr : aU p k s t = (([], (false, []), dA), 3) := by rw [aU, Aa (fun h => h h0), Ab hn]
   refine Cs (Kq I (Kb [[.bool false], [.string (S [])]] I I) (Kq I (Kb [[.slice none 0 0], [.string (S [])], [.int .i64 0]] I I) (Ka I (Nu I I (Sa I I I .tc) (Nu I I (Sa I I I .tc) (Ka I (Nt (Ce (Xb ?_))))))))); exact Rn I (.tmp I (.agg I .tc u37 I (by kernel_rfl) (.agg I .tc u41 I (by kernel_rfl) (.tmp I .nil)))) fun w' hS => ⟨⟨none, 0, []⟩, by rw [hr]; rfl, by rw [hr]; rfl, by rw [hr]; exact fo hS⟩
  ·have hok : okN s.a ∧ okN s.e ∧ okN s.v := by simpa using hc38
   refine Ck (Xa (Cq (Cs (Kq I (Fa (q := 1) I I u33 I I) (Kq I (ldp I I .tc u26 I (by kernel_rfl : _ = some 2) (by rfl) (by rfl)) ?_))))); refine Kf 0 I u35 I I I .tc u22 ?_; refine Kc I (fun w hS => iX (g := k.g) (x := s.a) (by assumption)) (Ns 45 I (v' := .bool (decide (elG k.g s.a))) (congrArg Value.bool (by simp [hg])) ?_); refine Yt I (Nt (Ci I (fun hc46 => ?_) (fun hc46 => ?_)))
   ·have hn : ¬ elG k.g s.a := by simpa using hc46
    have hr : aU p k s t = (([], (false, []), dA), 13) := by rw [aU, Aa (fun h => h h0), Aa (fun h => h hok), Ab hn]
    refine Cs (Kq I (Kb [[.bool false], [.string (S [])]] I I) (Kq I (Kb [[.slice none 0 0], [.string (S [])], [.int .i64 0]] I I) (Ka I (Nu I I (Sa I I I .tc) (Nu I I (Sa I I I .tc) (Ka I (Nt (Ce (Xb ?_))))))))); exact Rn I (.tmp I (.agg I .tc u37 I (by kernel_rfl) (.agg I .tc u41 I (by kernel_rfl) (.tmp I .nil)))) fun w' hS => ⟨⟨none, 0, []⟩, by rw [hr]; rfl, by rw [hr]; rfl, by rw [hr]; exact fo hS⟩
   ·have hel : elG k.g s.a := by simpa using hc46
    refine Ck (Xa (Cs (Kq I (lda I I .tc u41 I ?_) ?_)))
    ·kernel_rfl
    refine Kq I (Fa (q := 0) I I u99 I I) (Kq I (Fa (q := 0) I I u97 I I) (Kf 16 I u30 I I I .tc u22 ?_)); refine Kh I (Oc I I (rz fun w hS => yS (t := t) (n := p.msk) (by (exact hS.sl)) (by assumption) (by assumption) (by (exact et hT hS)))) ?_; intro g55; refine WL.pu ?_; intro hg55; (try dsimp only at hg55 ⊢); refine Km I (Ye I (Ye I (Ye I (Kh I (Oz [.slice none 0 0, .string (S []), .int .i64 0] I) ?_)))); intro b15; refine Ka I (Nu I I (Sa I I I .tc) (Ka I (Nt (Cq (Cs (Km I (Yj I (Nt (Ci I (fun hc60 => ?_) (fun hc60 => ?_))))))))))
    ·have hr : aU p k s t = (([], (false, []), dA), (aJ t p.msk).2.2) := by rw [aU, Aa (fun h => h h0), Aa (fun h => h hok), Aa (fun h => h hel), Ab (by simpa using hc60)]
     refine Cs (Kq I (Kb [[.bool false], [.string (S [])]] I I) (Kq I (Kb [[.slice none 0 0], [.string (S [])], [.int .i64 0]] I I) (Km I (Ka I (Nu I I (Sa I I I .tc) (Nu I I (Sa I I I .tc) (Ka I (Nt (Ce (Xb ?_)))))))))); exact Rn I (.tmp I (.agg I .tc u37 I (by kernel_rfl) (.agg I .tc u41 I (by kernel_rfl) (.tmp I .nil)))) fun w' hS => ⟨⟨none, 0, []⟩, by rw [hr]; rfl, by rw [hr]; rfl, by rw [hr]; exact fo hS⟩
    ·have hb0 : (aJ t p.msk).2.2 = 0 := by simpa using hc60
     have hgt : fw t := wB hb0; have hbk := na hb0 hgt ((cM (bn h0).1).1.1 _ (by simp)); have hzr : okZ (aA (aJ t p.msk).1) := by rw [bR hbk.1]; exact dm hbk.1
     have hze : okZ (aA s.e) := by rw [bR hok.2.1]; exact dm hok.2.1
     have hzv : okZ (aA s.v) := by rw [bR hok.2.2]; exact dm hok.2.2
     have hpr := congrArg Prod.snd (jE hg hel hks g9 hzr); refine Ck (Xa (Cq (Cf [7, 8, 9, 0, 1, 2, 3, 4, 5, 6, 10, 11, 12, 13, 14, 15, 16] [] [0, 0, 0, 0, 0, 0, 3, 1, 0, 1, 3, 1, 0, 0, 0, 0, 0] (by kernel_rfl) (by kernel_rfl) I ?_))); refine Jv I I I I I (fun ext => Oc I I (Kv fun w hS => kK (n := 1) (by omega) (by omega))) ?_; refine Kj I (Rm I I) ?_; refine Jv I I I I I (fun ext => Oc I I (Kv fun w hS => df (a := (aJ t p.msk).1))) ?_; refine Kj I (Fa (q := 1) I I u33 I I) ?_; refine Kj I (ldp I I .tc u26 I (by kernel_rfl : _ = some 2) (by rfl) (by rfl)) ?_; refine Kj I (Fa (q := 0) I I u35 I I) (Kj I (Ld I I .tc u22) ?_); refine Kj I (Fa (q := 4) I I u33 I I) (Kj I (Ld I I .tc u22) ?_); refine Jf I I I I I (jQ I I u31 (by kernel_rfl : _ = some (some (.string (S [])), 1, 16)) I (by simp only [List.map]; rfl) I I ?_ (by decide)) ?_
     ·simp [Value.cells]
     intro b71; refine Jf I I I I I (iD I I u39 (by kernel_rfl : _ = some (some (.agg #[.bool false, .string (S [])]), 2, 24)) (by kernel_rfl) (by decide) I I (by (simp [Value.cells]; done)) (by (simp only [List.map, Value.cells, C7, List.flatMap_nil, Bn, D4]; rfl)) (by decide)) ?_; intro b75; refine Jv I I I I I (fun ext => Oc I I (Kv fun w hS => iy (g := k.g) (l := [s.a, k.s]) (es := [ofZ 1, aA (aJ t p.msk).1]) (by (exact hS.os)) (by (exact hS.os)) (by (simp <;> omega)) (by (simp <;> omega)) (by assumption))) ?_; refine Kj I (Rm I I) (Kj I (Re I I I) (Kj I (Re I I I) (Kj I (Ra I I) (Kj I (Ra I I) ?_)))); refine WJ.nil ?_; refine Nt (Cq (Cs (Km I (Yj I (Nt (Ci I (fun hc80 => ?_) (fun hc80 => ?_)))))))
     ·exact absurd hpr hc80 -- done
     ·refine Ck (Xa (Cs (Kf 1 I u35 I I I .tc u22 ?_))); refine Kc I (fun w hS => df (a := s.e)) (Km I (Kc I (fun w hS => df (a := (aJ t p.msk).1)) (Kc I (fun w hS => pL (x := aA s.e) (y := aA (aJ t p.msk).1)) (Km I (Ye I (Ye I (Kh I (Oz [.bool false, .string (S [])] I) ?_))))))); intro b17; refine Nu I I (Sa I I I .tc) (Ka I (Nt (Cq (Cs (Km I (Yj I (Nt (Ci I (fun hc94 => ?_) (fun hc94 => ?_)))))))))
      ·have hm0 : (rzM p s t).2 ≠ 0 := by simpa using hc94
       have hm5 : (rzM p s t).2 = 5 := (AG hze hzr).resolve_left hm0; have hr : aU p k s t = (([], (false, []), dA), 5) := by rw [aU, Aa (fun h => h h0), Aa (fun h => h hok), Aa (fun h => h hel), Aa (fun h => h hb0), Ab (Or.inl hm0)]
       refine Cs (Kq I (Kb [[.bool false], [.string (S [])]] I I) (Kq I (Kb [[.slice none 0 0], [.string (S [])], [.int .i64 0]] I I) (Km I (Ka I (Nu I I (Sa I I I .tc) (Nu I I (Sa I I I .tc) (Ka I (Nt (Ce (Xb ?_)))))))))); exact Rn I (.tmp I (.agg I .tc u37 I (by kernel_rfl) (.agg I .tc u41 I (by kernel_rfl) (.tmp I .nil)))) fun w' hS => ⟨⟨none, 0, []⟩, by rw [hr, show (bV (aA s.e) (aA (aJ t p.msk).1)).2 = 5 from hm5]; rfl, by rw [hr]; rfl, by rw [hr]; exact fo hS⟩
      ·have hm0 : (rzM p s t).2 = 0 := by simpa using hc94
       have hmz : okZ (rzM p s t).1 := by rw [(nP hze hzr hm0).1]; exact bK.2 (nP hze hzr hm0).2
       refine Ck (Xa (Cq (WC.free (K := [⟨some b17, [.bool (rzM p s t).1.1, .string (S (rzM p s t).1.2)], 37⟩, ⟨some b6, [.string (S s.a), .string (S s.e), .string (S s.v)], 35⟩]) (fs0 := []) [0, 1, 2, 3, 4, 5, 6, 8, 9, 7, 10] [] [0, 0, 1, 0, 1, 0, 0, 0, 3, 1, 0] (by kernel_rfl) (by kernel_rfl) I ?_))); refine Kj I (Fa (q := 2) I I u35 I I) (Kj I (Ld I I .tc u22) ?_); refine Jv I I I I I (fun ext => Oc I I (Kv fun w hS => df (a := s.v))) ?_; refine Kj I (lda I I .tc u37 I ?_) ?_
       ·kernel_rfl
       refine Jv I I I I I (fun ext => Oc I I (Kv fun w hS => ni (x := aA s.v) (y := (rzM p s t).1))) ?_; refine Kj I (Rm I I) (Kj I (Re I I I) ?_); refine Jf I I I I I (cm I (v := (.agg #[.bool false, .string (S [])])) (cs := [.bool false, .string (S [])]) (by kernel_rfl) I) ?_; intro b18; refine WJ.st I I I I (ip I I I ?_ ?_ ?_) ?_
       ·kernel_rfl
       ·simp [Value.oneCell']
       ·rfl
       refine Kj I (Re I I I) (Kj I (Ra I I) ?_); refine WJ.nil ?_; refine Nt (Cq (Cs (Km I (Yj I (Nt (Ci I (fun hc107 => ?_) (fun hc107 => ?_)))))))
       ·have hs0 : (rzV p s t).2 ≠ 0 := by simpa using hc107
        have hs5 : (rzV p s t).2 = 5 := (zt hzv hmz).resolve_left hs0; have hr : aU p k s t = (([], (false, []), dA), 5) := by rw [aU, Aa (fun h => h h0), Aa (fun h => h hok), Aa (fun h => h hel), Aa (fun h => h hb0), Ab (Or.inr hs0)]
        refine Cs (Kq I (Kb [[.bool false], [.string (S [])]] I I) (Kq I (Kb [[.slice none 0 0], [.string (S [])], [.int .i64 0]] I I) (Km I (Ka I (Nu I I (Sa I I I .tc) (Nu I I (Sa I I I .tc) (Ka I (Nt (Ce (Xb ?_)))))))))); exact Rn I (.tmp I (.agg I .tc u37 I (by kernel_rfl) (.agg I .tc u41 I (by kernel_rfl) (.tmp I .nil)))) fun w' hS => ⟨⟨none, 0, []⟩, by rw [hr, show (cz (aA s.v) (rzM p s t).1).2 = 5 from hs5]; rfl, by rw [hr]; rfl, by rw [hr]; exact fo hS⟩
       ·have hs0 : (rzV p s t).2 = 0 := by simpa using hc107
        have hr : aU p k s t = (((bu k.g [s.a, k.s] [ofZ 1, aA (aJ t p.msk).1]).1, (rzV p s t).1, (aJ t p.msk).2.1), 0) := by rw [aU, Aa (fun h => h h0), Aa (fun h => h hok), Aa (fun h => h hel), Aa (fun h => h hb0), Aa (fun h => h.elim (fun h => h hm0) (fun h => h hs0))]
        refine Ck (Xa (Cq (WC.free (K := [⟨some b18, [.bool (rzV p s t).1.1, .string (S (rzV p s t).1.2)], 37⟩, ⟨some b15, [g55.val (aJ t p.msk).2.1.vals.length, .string (S (aJ t p.msk).2.1.seed), .int .i64 (aJ t p.msk).2.1.at_], 41⟩]) (fs0 := []) [0, 1, 3, 4, 2] [5, 6] [0, 0, 0, 0, 1, 2, 2] (by kernel_rfl) (by kernel_rfl) I ?_))); refine Kj I (Rm I I) ?_; refine Kj I (lda I I .tc u37 I ?_) ?_
        ·kernel_rfl
        refine Kj I (Ra I I) ?_; refine WJ.st I I I I (ip I I I ?_ ?_ ?_) ?_
        ·kernel_rfl
        ·simp [Value.oneCell']
        ·rfl
        refine Kj I (lda I I .tc u41 I ?_) ?_
        ·kernel_rfl
        refine WJ.nil ?_; refine Nu I I (Sa I I I .tc) (Ka I (Nt (Ce ?_))); exact Rn I (.tmp I (.agg I .tc u37 I (by kernel_rfl) (.agg I .tc u41 I (by kernel_rfl) (.tmp I .nil)))) fun w' hS => ⟨g55, by rw [hr]; rfl, by rw [hr]; exact hg55, by rw [hr]; exact ar _ hS⟩
end Go.Proofs.YtkdlonihbjhhoaaGreatDoor
