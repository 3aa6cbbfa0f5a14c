/-
  Parts of the walk: Sha8 Siz Siy Siw Sha9 Sha6 Sha3.
-/
import Derived.Test.YtkdlonihbjhhoaaGreatDoorV19
namespace Go.Proofs.YtkdlonihbjhhoaaGreatDoor
open Go.RowKit
set_option linter.unusedSimpArgs false
set_option linter.unusedVariables false
set_option maxHeartbeats 600000
set_option maxRecDepth 20000
abbrev aG : Type := Option Nat × Nat × List Value × Option Nat × Nat × List Value
abbrev kw (bE : Nat) (tg : Bs) (n : Nat) (g : aG) : Ent := ⟨some bE, [.int .i64 0, .string (S tg), .slice (g.1.map fun b => ⟨b, 0, none⟩) n g.2.1], 95⟩
abbrev jN (bS : Nat) (gv : Value) (n : Nat) (g : aG) : Ent := ⟨some bS, [gv, .slice (g.2.2.2.1.map fun b => ⟨b, 0, none⟩) n g.2.2.2.2.1, .slice none 0 0], 58⟩
abbrev tmE (bs : List Bs) (g : aG) : Ent := ⟨g.1, tms (fo bs 0) ++ g.2.2.1, 122⟩
abbrev vrE (vs : List Bs) (g : aG) : Ent := ⟨g.2.2.2.1, vrs vs ++ g.2.2.2.2.2, 124⟩
def aOk (n : Nat) (g : aG) : Prop := g.2.1 * 4 = n * 4 + g.2.2.1.length ∧ g.2.2.2.2.1 = n + g.2.2.2.2.2.length
theorem uE (l : List Tm) : (tms l).length = l.length * 4 := by rw [aj _ _ 4 (fun _ => rfl)]
theorem ut (l : List Bs) : (vrs l).length = l.length := by rw [aj _ _ 1 (fun _ => rfl), Nat.mul_one]
theorem rO (bs : List Bs) (b : Bs) : fo (bs ++ [b]) 0 = fo bs 0 ++ [trm b (bs.length : Int)] := by
 rw [mT]; simp [fo]
theorem uD (l : List Tm) (t : Tm) : tms (l ++ [t]) = tms l ++ tmC t := by simp
theorem us (l : List Bs) (b : Bs) : vrs (l ++ [b]) = vrs l ++ [.string (S b)] := by simp
theorem lV {bd ba tg : Bs} {gv : Value} {bS bE : Nat} {bs vs : List Bs} {o1 o2 : Option Nat} {c1 c2 : Nat} {p1 p2 : List Value} {rr : List Ent} {ok : Nat → Prop} {w0 : World} {fs : List Fact} {w : World} (hS0 : St ok w0 (tmE bs (o1, c1, p1, o2, c2, p2) :: vrE vs (o1, c1, p1, o2, c2, p2) :: kw bE tg bs.length (o1, c1, p1, o2, c2, p2) :: jN bS gv bs.length (o1, c1, p1, o2, c2, p2) :: rr) (fs) w) (hn : vs.length = bs.length) (hb : bs.length ≤ 1000) (hg : aOk bs.length (o1, c1, p1, o2, c2, p2)) :
  Calls Tryz.prog 59 #[.string (S bd), .string (S ba), .pointer (some ⟨bE, 0, none⟩), .pointer (some ⟨bS, 0, none⟩)] w fun e w' => ∃ g' : aG, e = .returned (tup []) ∧ aOk (bs ++ [ba]).length g' ∧ St ok w0 (tmE (bs ++ [ba]) g' :: vrE (vs ++ [bd]) g' :: kw bE tg (bs ++ [ba]).length g' :: jN bS gv (bs ++ [ba]).length g' :: rr) fs w' := by
 obtain ⟨hc1, hc2⟩ := hg
 dsimp only at hc1 hc2
 have hT := uE (fo bs 0)
 rw [gQ] at hT
 have hV := ut vs
 refine enter (S := St ok w0 (tmE bs (o1, c1, p1, o2, c2, p2) :: vrE vs (o1, c1, p1, o2, c2, p2) :: kw bE tg bs.length (o1, c1, p1, o2, c2, p2) :: jN bS gv bs.length (o1, c1, p1, o2, c2, p2) :: rr) (fs)) (L := [(0, .string (S bd)), (1, .string (S ba)), (2, .pointer (some ⟨bE, 0, none⟩)), (3, .pointer (some ⟨bS, 0, none⟩))]) Tryz.func59 rfl Tryz.ntmps59 rfl (Ac rfl (Ac rfl (Ac rfl (Ac rfl (An _))))) hS0 ?_
 dsimp only [kw, jN, tmE, vrE]
 refine Cq ?_
 refine WC.free (K := [⟨some bE, [.int .i64 0, .string (S tg), .slice (o1.map fun b => ⟨b, 0, none⟩) bs.length c1], 95⟩, ⟨some bS, [gv, .slice (o2.map fun b => ⟨b, 0, none⟩) bs.length c2, .slice none 0 0], 58⟩]) (fs0 := []) [6, 0, 1, 2, 3, 4, 5, 7, 8, 9, 10] [11] [0, 0, 0, 0, 0, 0, 1, 0, 3, 1, 0, 2] (by kernel_rfl) (by kernel_rfl) rfl ?_
 refine Jv rfl rfl rfl rfl rfl (fun ext => Oc rfl rfl (Kv fun w hS => jC (n := 1) (by omega) (by omega))) ?_
 (refine Kj rfl (cU rfl rfl u95 rfl (by kernel_rfl) (by (try simp only [sN, Int.reduceToNat, Nat.reduceAdd, Nat.reduceMul, Nat.reduceSub]); rfl)) ?_)
 refine Kj rfl (Ld rfl rfl .tc u93) ?_
 refine Kj rfl (Rm rfl rfl) ?_
 (refine Kj rfl (cU rfl rfl u58 rfl (by kernel_rfl) (by (try simp only [sN, Int.reduceToNat, Nat.reduceAdd, Nat.reduceMul, Nat.reduceSub]); rfl)) ?_)
 refine Kj rfl (Ld rfl rfl .tc u55) ?_
 refine Kj rfl (od rfl rfl u55) (Kj rfl (Kb [[.string (S [])], [.int .i64 0], [.bool false, .string (S [])]] rfl rfl) ?_)
 refine Jf rfl rfl rfl rfl rfl (iL rfl rfl u93 (by kernel_rfl : _ = some (some (.agg #[.string (S []), .int .i64 0, .bool false, .string (S [])]), 4, 48)) (by kernel_rfl) (by decide) rfl rfl (by (simp [Value.cells]; done)) (by (exact cu _)) (by decide)) ?_
 intro b14
 refine Jg rfl rfl rfl rfl rfl (mP rfl u93 (by kernel_rfl : _ = some (some (.agg #[.string (S []), .int .i64 0, .bool false, .string (S [])]), 4, 48)) (by kernel_rfl) (by decide) .tc rfl rfl (fun ext w hS => by (exact hS.os)) (by rfl) (by (refine ⟨hT, by omega, by omega, by omega⟩)) (by (simp [Value.oneCell']; done))) ?_
 rintro ⟨o15, c15, s15⟩ hg15; (try dsimp only at hg15 ⊢)
 (refine Kj rfl (cU rfl rfl u95 rfl (by kernel_rfl) (by (try simp only [sN, Int.reduceToNat, Nat.reduceAdd, Nat.reduceMul, Nat.reduceSub]); rfl)) ?_)
 refine WJ.set 16 rfl (v' := .pointer (some ⟨bE, 2, none⟩)) (by rfl) ?_
 refine WJ.nil ?_
 refine Ng rfl rfl (st rfl rfl rfl .tc (by kernel_rfl) rfl ?_ (by (simp only [List.set_cons_zero, List.set_cons_succ]; rfl))) ?_
 ·(simp; done)
 intro _
 refine Nt (Cg ?_)
 (refine Kq rfl (cU rfl rfl u58 rfl (by kernel_rfl) (by (try simp only [sN, Int.reduceToNat, Nat.reduceAdd, Nat.reduceMul, Nat.reduceSub]); rfl)) ?_)
 refine Kq rfl (Ld rfl rfl .tc u55) ?_
 refine Km rfl (Kq rfl (Kb [[.string (S [])]] rfl rfl) ?_)
 refine Kh rfl (fE rfl rfl u55 (by kernel_rfl : _ = some (some (.agg #[.string (S [])]), 1, 16)) (by kernel_rfl) (by decide) rfl rfl (by (simp [Value.cells]; done)) (by (exact cu _)) (by decide)) ?_
 intro b21
 refine Kh rfl (ug rfl u55 (by kernel_rfl : _ = some (some (.agg #[.string (S [])]), 1, 16)) (by kernel_rfl) (by decide) .tc rfl rfl (fun w hS => by (exact hS.os)) (by rfl) (by (refine ⟨by rw [hV, hn, Nat.mul_one], by omega, by omega, by omega⟩)) (by (simp [Value.oneCell']; done))) ?_
 rintro ⟨o22, c22, s22⟩
 refine WL.pu ?_
 intro hg22; (try dsimp only at hg22 ⊢)
 (refine Kq rfl (cU rfl rfl u58 rfl (by kernel_rfl) (by (try simp only [sN, Int.reduceToNat, Nat.reduceAdd, Nat.reduceMul, Nat.reduceSub]); rfl)) ?_)
 refine Ns 23 rfl (v' := .pointer (some ⟨bS, 1, none⟩)) (by rfl) ?_
 refine Ng rfl rfl (st rfl rfl rfl .tc (by kernel_rfl) rfl ?_ (by (simp only [List.set_cons_zero, List.set_cons_succ]; rfl))) ?_
 ·(simp; done)
 intro _
 refine Nn ?_
 refine WX.ret_normal ?_
 exact Rn rfl .nil fun w' hS => ⟨(o15, c15, s15, o22, c22, s22), rfl, ⟨by dsimp only; rw [List.length_append]; exact hg15, by dsimp only; rw [List.length_append]; simpa using hg22⟩, by
  dsimp only [kw, jN, tmE, vrE]
  rw [rO, uD, us, List.length_append, List.length_singleton]
  exact aq _ hS⟩
theorem oS {a b : Bs} (ha : okN a) (hb : okN b) (h : val a + val b < Big) : addN a b = (ae (val a + val b), 0) := by rw [addN, if_pos ⟨ha, hb⟩, if_pos h]
theorem wV {a b : Bs} (ha : okN a) (hb : okN b) (h : (addN a b).2 = 0) : val a + val b < Big := Decidable.byContradiction fun h1 => by
 rw [addN, if_pos ⟨ha, hb⟩, if_neg h1] at h; exact absurd h (by decide)
theorem kf {a b : Bs} (ha : okN a) (hb : okN b) (h : val a * val b < Big) : bH a b = (ae (val a * val b), 0) := by rw [bH, if_pos ⟨ha, hb⟩, if_pos h]
theorem sX {a b : Bs} (ha : okN a) (hb : okN b) (h : (bH a b).2 = 0) : val a * val b < Big := Decidable.byContradiction fun h1 => by
 rw [bH, if_pos ⟨ha, hb⟩, if_neg h1] at h; exact absurd h (by decide)
abbrev sA (p : PR) := addN p.lo p.sz
abbrev sM (p : PR) := bH (sA p).1 p.msk
abbrev sB2 (p : PR) := addN p.bl p.bl
abbrev sC (p : PR) := addN (sB2 p).1 (sM p).1
abbrev sH (p : PR) := bH p.han p.msk
def szE (p : PR) : Prop := (sA p).2 = 0 ∧ (sM p).2 = 0 ∧ (sB2 p).2 = 0 ∧ (sC p).2 = 0 ∧ (sH p).2 = 0
instance (p : PR) : Decidable (szE p) := inferInstanceAs (Decidable (_ ∧ _))
theorem oZ {p : Nat} {a b : Bs} {er : Int} {rr : List Ent} {ok : Nat → Prop} {w0 : World} {fs : List Fact} {w : World} (hS0 : St ok w0 (⟨some p, [.int .i64 er], 47⟩ :: rr) (fs) w) :
  Calls Tryz.prog 107 #[.string (S a), .string (S b), .pointer (some ⟨p, 0, none⟩)] w fun e w' => e = .returned (.string (S (addN a b).1)) ∧ St ok w0 (⟨some p, [.int .i64 (max er (addN a b).2)], 47⟩ :: rr) (fs) w' := by
 refine enter (S := St ok w0 (⟨some p, [.int .i64 er], 47⟩ :: rr) (fs)) (L := [(0, .string (S a)), (1, .string (S b)), (2, .pointer (some ⟨p, 0, none⟩))]) Tryz.func107 rfl Tryz.ntmps107 rfl (Ac rfl (Ac rfl (Ac rfl (An _)))) hS0 ?_
 refine Cs (Ka rfl (Nt (Cs (Km rfl (Km rfl ?_)))))
 refine Ku rfl (Oc rfl rfl (Kv fun w hS => wW (a := a) (b := b))) ?_
 refine Km rfl (Ye rfl (Ye rfl (Ka rfl (Ka rfl (Nt (Cs (Kq rfl (Ld rfl rfl .tc u47) ?_)))))))
 refine Km rfl (Kq rfl (fZ rfl rfl rfl) ?_)
 refine Ng rfl rfl (st rfl rfl rfl .tc (by kernel_rfl) rfl ?_ (by (simp only [List.set_cons_zero, List.set_cons_succ]; rfl))) ?_
 ·(simp; done)
 intro _
 refine Nt (Cs (Km rfl (Ka rfl (Nt (Ce ?_)))))
 exact Rn rfl (.tmp rfl .nil) fun w' hS => ⟨by rfl, by (exact hS)⟩
theorem lR {p : Nat} {a b : Bs} {er : Int} {rr : List Ent} {ok : Nat → Prop} {w0 : World} {fs : List Fact} {w : World} (hS0 : St ok w0 (⟨some p, [.int .i64 er], 47⟩ :: rr) (fs) w) :
  Calls Tryz.prog 108 #[.string (S a), .string (S b), .pointer (some ⟨p, 0, none⟩)] w fun e w' => e = .returned (.string (S (bH a b).1)) ∧ St ok w0 (⟨some p, [.int .i64 (max er (bH a b).2)], 47⟩ :: rr) (fs) w' := by
 refine enter (S := St ok w0 (⟨some p, [.int .i64 er], 47⟩ :: rr) (fs)) (L := [(0, .string (S a)), (1, .string (S b)), (2, .pointer (some ⟨p, 0, none⟩))]) Tryz.func108 rfl Tryz.ntmps108 rfl (Ac rfl (Ac rfl (Ac rfl (An _)))) hS0 ?_
 refine Cs (Ka rfl (Nt (Cs (Km rfl (Km rfl ?_)))))
 refine Ku rfl (Oc rfl rfl (Kv fun w hS => sY (a := a) (b := b))) ?_
 refine Km rfl (Ye rfl (Ye rfl (Ka rfl (Ka rfl (Nt (Cs (Kq rfl (Ld rfl rfl .tc u47) ?_)))))))
 refine Km rfl (Kq rfl (fZ rfl rfl rfl) ?_)
 refine Ng rfl rfl (st rfl rfl rfl .tc (by kernel_rfl) rfl ?_ (by (simp only [List.set_cons_zero, List.set_cons_succ]; rfl))) ?_
 ·(simp; done)
 intro _
 refine Nt (Cs (Km rfl (Ka rfl (Nt (Ce ?_)))))
 exact Rn rfl (.tmp rfl .nil) fun w' hS => ⟨by rfl, by (exact hS)⟩
abbrev tB (p : PR) := bH (ae 2) p.bl
abbrev tC (p : PR) := addN (tB p).1 (sM p).1
def tE (p : PR) : Prop := (tB p).2 = 0 ∧ (sA p).2 = 0 ∧ (sM p).2 = 0 ∧ (tC p).2 = 0 ∧ (sH p).2 = 0
theorem wG {p : PR} (h : cx p = 0) (h1 : szV p < Big) (h2 : szH p < Big) : tE p ∧ (tC p).1 = ae (szV p) ∧ (sH p).1 = ae (szH p) := by
 obtain ⟨hok, _, hrg⟩ := gk h
 have o : ∀ x ∈ fG p, okN x := hok.1
 have hB8 : 8 < Big := Nat.lt_of_lt_of_le (by decide) gz
 have hlo : okN p.lo := o _ (by simp); have hsz : okN p.sz := o _ (by simp); have hbl : okN p.bl := o _ (by simp); have hmk : okN p.msk := o _ (by simp); have hha : okN p.han := o _ (by simp)
 have hm2 : 2 ≤ val p.msk := hrg.1 _ (by simp)
 unfold szV at h1; unfold szH at h2
 have a0 : val p.lo + val p.sz ≤ (val p.lo + val p.sz) * val p.msk := Nat.le_mul_of_pos_right _ (by omega)
 have eA := oS hlo hsz (by omega)
 have eM : bH (ae (val p.lo + val p.sz)) p.msk = (ae ((val p.lo + val p.sz) * val p.msk), 0) := by
  rw [kf (au (by omega)) hmk (by rw [af]; omega), af]
 have eB : bH (ae 2) p.bl = (ae (2 * val p.bl), 0) := by rw [kf (au (by omega)) hbl (by rw [af]; omega), af]
 have eC : addN (ae (2 * val p.bl)) (ae ((val p.lo + val p.sz) * val p.msk)) = (ae (szV p), 0) := by
  rw [oS (au (by omega)) (au (by omega)) (by rw [af, af]; omega), af, af, szV]
 have eH := kf hha hmk h2
 simp only [tE, sA, sM, tB, tC, sH, eA, eM, eB, eC, eH, szH, and_self]
theorem zt {p : PR} (h : cx p = 0) (he : tE p) : szV p < Big ∧ szH p < Big := by
 obtain ⟨hok, _, hrg⟩ := gk h
 have o : ∀ x ∈ fG p, okN x := hok.1
 have hB8 : 8 < Big := Nat.lt_of_lt_of_le (by decide) gz
 have hlo : okN p.lo := o _ (by simp); have hsz : okN p.sz := o _ (by simp); have hbl : okN p.bl := o _ (by simp); have hmk : okN p.msk := o _ (by simp); have hha : okN p.han := o _ (by simp)
 obtain ⟨hB, hA, hM, hC, hH⟩ := he
 have zA := wV hlo hsz hA
 have eA := oS hlo hsz zA
 simp only [sM, sA, eA] at hM
 have zM := sX (au zA) hmk hM
 have eM := kf (au zA) hmk zM
 rw [af] at zM eM
 have zB := sX (au (by omega)) hbl hB
 have eB := kf (au (by omega)) hbl zB
 rw [af] at zB eB
 simp only [tC, tB, sM, sA, eA, eM, eB] at hC
 have zC := wV (au zB) (au zM) hC
 rw [af, af] at zC
 exact ⟨by rw [szV]; omega, sX hha hmk hH⟩
theorem uj (a b : Bs) : 0 ≤ (addN a b).2 := by unfold addN; split <;> (try split) <;> first | exact Int.le_refl 0 | decide
theorem oz (a b : Bs) : 0 ≤ (bH a b).2 := by unfold bH; split <;> (try split) <;> first | exact Int.le_refl 0 | decide
theorem zz {a b c d e : Int} (ha : 0 ≤ a) (hb : 0 ≤ b) (hc : 0 ≤ c) (hd : 0 ≤ d) (he : 0 ≤ e) : max (max (max (max (max 0 a) b) c) d) e = 0 ↔ a = 0 ∧ b = 0 ∧ c = 0 ∧ d = 0 ∧ e = 0 := by omega
theorem mw {P : Program} {f : FuncId} {args : Array Value} {v : Value} {ok : Nat → Prop} {w0 : World} {ext rr : List Ent} {x x' : Ent} {fs : List Fact}
  (h : ∀ w, St ok w0 (x :: (ext ++ rr)) fs w → Calls P f args w (fun e w' => e = .returned v ∧ St ok w0 (x' :: (ext ++ rr)) fs w')) :
  ∀ w, St ok w0 (ext ++ x :: rr) fs w → Calls P f args w (fun e w' => ∃ _g : Unit, e = .returned v ∧ True ∧ St ok w0 (ext ++ x' :: rr) fs w') :=
 fun w hS => (h w (hS.perm List.perm_middle.symm)).mono fun _ _ ⟨h1, h2⟩ => ⟨(), h1, trivial, h2.perm List.perm_middle⟩
theorem sO {p : PR} {w : World} (hm8 : p.mn.1.1.length ≤ 8) (hD : TabD w) :
  Cw 58 #[prV p] w (.tuple #[.string (S (jd p).1.1), .string (S (jd p).1.2), .int .i64 (jd p).2]) := by
 refine En [] [(0, prV p)] Tryz.func58 rfl Tryz.ntmps58 rfl (Ac rfl (An _)) Fn ?_
 refine Cs ?_
 refine Kh rfl (Oy rfl rfl) ?_
 intro b1
 refine Ka rfl (Ka rfl (Ka rfl (Nt (Cq (Cs ?_)))))
 refine Kq rfl (lda rfl rfl .tc u30 rfl ?_) ?_
 ·kernel_rfl
 refine Ku rfl (Oc rfl rfl (Kv fun w hS => iF (p := p) (by assumption) (by (exact bn hD hS)))) ?_
 refine Ka rfl (Nt (Cs (Km rfl (Yj rfl (Nt ?_)))))
 refine Cd rfl (fun hc14 => ?_) (fun hc14 => ?_)
 ·(try simp only [sB] at hc14)
  refine Cs (Km rfl (Ka rfl (Ka rfl (Ka rfl (Nt (Ce (Xb ?_)))))))
  exact R3 rfl rfl rfl rfl (by rw [jd, if_pos (by simpa using hc14)]; rfl)
 ·(try simp only [sB] at hc14)
  have h0 : cx p = 0 := by simpa using hc14
  have hmx := zz (oz (ae 2) p.bl) (uj p.lo p.sz) (oz (sA p).1 p.msk) (uj (tB p).1 (sM p).1) (oz p.han p.msk)
  refine Ck (Xa (Cs ?_))
  refine Kh rfl (Oa rfl (v := (.int .i64 0)) (cs := [.int .i64 0]) (by kernel_rfl) rfl) ?_
  intro b6
  refine Ng rfl rfl (st rfl rfl rfl .tc (by kernel_rfl) rfl ?_ (by (simp only [List.set_cons_zero, List.set_cons_succ]; rfl))) ?_
  ·decide
  intro _
  refine Nt (Cs (Kq rfl (cE rfl rfl rfl) (Ka rfl (Nt (Cs (Kq rfl (cE rfl rfl rfl) (Ka rfl (Nt (Cq ?_)))))))))
  refine WC.free (K := [⟨some b1, prC p, 30⟩]) (fs0 := []) [2, 1, 3, 4, 5, 7, 8, 9, 10, 11, 12, 6, 13, 14, 15, 0, 16, 17] [] [0, 0, 1, 0, 0, 1, 0, 0, 0, 0, 0, 0, 1, 0, 0, 1, 1, 0] (by kernel_rfl) (by kernel_rfl) rfl ?_
  refine Jv rfl rfl rfl rfl rfl (fun ext => Oc rfl rfl (Kv fun w hS => fF (n := 2) (by omega))) ?_
  refine Kj rfl (Rm rfl rfl) (Kj rfl (Fa (q := 15) rfl rfl u30 rfl rfl) (Kj rfl (Ld rfl rfl .tc u22) ?_))
  refine Jg rfl rfl rfl rfl rfl (fun ext => aL rfl rfl rfl (by kernel_rfl) rfl (mw fun w hS => lR (p := b6) (a := ae 2) (b := p.bl) hS)) ?_
  intro _ _
  refine Kj rfl (Rm rfl rfl) (Kj rfl (Fa (q := 13) rfl rfl u30 rfl rfl) (Kj rfl (Ld rfl rfl .tc u22) ?_))
  refine Kj rfl (Fa (q := 14) rfl rfl u30 rfl rfl) (Kj rfl (Ld rfl rfl .tc u22) ?_)
  refine Jg rfl rfl rfl rfl rfl (fun ext => aL rfl rfl rfl (by kernel_rfl) rfl (mw fun w hS => oZ (p := b6) (a := p.lo) (b := p.sz) hS)) ?_
  intro _ _
  refine Kj rfl (Rm rfl rfl) (Kj rfl (Fa (q := 16) rfl rfl u30 rfl rfl) (Kj rfl (Ld rfl rfl .tc u22) ?_))
  refine Jg rfl rfl rfl rfl rfl (fun ext => aL rfl rfl rfl (by kernel_rfl) rfl (mw fun w hS => lR (p := b6) (a := (sA p).1) (b := p.msk) hS)) ?_
  intro _ _
  refine Kj rfl (Rm rfl rfl) ?_
  refine Jg rfl rfl rfl rfl rfl (fun ext => aL rfl rfl rfl (by kernel_rfl) rfl (mw fun w hS => oZ (p := b6) (a := (tB p).1) (b := (sM p).1) hS)) ?_
  intro _ _
  refine Kj rfl (Ra rfl rfl) ?_
  refine WJ.nil ?_
  refine Nt (Cs (Km rfl (Kq rfl (Fa (q := 12) rfl rfl u30 rfl rfl) (Kq rfl (Ld rfl rfl .tc u22) ?_))))
  refine Kq rfl (Fa (q := 16) rfl rfl u30 rfl rfl) (Kq rfl (Ld rfl rfl .tc u22) ?_)
  refine Kh rfl (aL rfl rfl rfl (by kernel_rfl) rfl (mx fun w hS => lR (p := b6) (a := p.han) (b := p.msk) hS)) ?_
  intro _
  refine Ka rfl (Nt (Cq (Cs (Kq rfl (Ld rfl rfl .tc u47) ?_))))
  refine Yj rfl (Nt ?_)
  refine Cd rfl (fun hc42 => ?_) (fun hc42 => ?_)
  ·(try simp only [sB] at hc42)
   have hn : ¬ (szV p < Big ∧ szH p < Big) := fun h => (by simpa using hc42 : ¬ _) (hmx.2 (wG h0 h.1 h.2).1)
   refine Cs (Ka rfl (Ka rfl (Ka rfl (Nt (Ce (Xb ?_))))))
   exact R3 rfl rfl rfl rfl (by rw [jd, if_neg (fun h => h h0), if_neg hn]; rfl)
  ·(try simp only [sB] at hc42)
   have hy := zt h0 (hmx.1 (by simpa using hc42))
   have he := wG h0 hy.1 hy.2
   refine Ck (Xa (Cs (Km rfl (Km rfl (Ka rfl (Ka rfl (Ka rfl (Nt (Ce ?_)))))))))
   exact R3 rfl rfl rfl rfl (by rw [jd, if_neg (fun h => h h0), if_pos hy, ← he.2.1, ← he.2.2]; rfl)
section
variable {E F R : List Ent} {u v a b c d : Ent}
theorem perm4 : (E ++ (F ++ u :: v :: a :: b :: c :: d :: R)).Perm (a :: b :: c :: d :: (E ++ (F ++ u :: v :: R))) := by
 have h1 : E ++ (F ++ u :: v :: a :: b :: c :: d :: R) = (E ++ F ++ [u, v]) ++ ([a, b, c, d] ++ R) := by simp
 have h2 : a :: b :: c :: d :: (E ++ (F ++ u :: v :: R)) = [a, b, c, d] ++ ((E ++ F ++ [u, v]) ++ R) := by simp
 rw [h1, h2]; exact List.perm_append_comm_assoc _ _ _
theorem xY {P : Program} {f : FuncId} {args : Array Value} {γ : Type} {val : γ → Value} {p : γ → Prop} {ok : Nat → Prop} {w0 : World} {fs : List Fact} {a' b' c' d' : γ → Ent}
  (h : ∀ w, St ok w0 (a :: b :: c :: d :: (E ++ (F ++ u :: v :: R))) fs w → Calls P f args w (fun e w' => ∃ g, e = .returned (val g) ∧ p g ∧ St ok w0 (a' g :: b' g :: c' g :: d' g :: (E ++ (F ++ u :: v :: R))) fs w')) :
  ∀ w, St ok w0 (E ++ (F ++ u :: v :: a :: b :: c :: d :: R)) fs w → Calls P f args w (fun e w' => ∃ g, e = .returned (val g) ∧ p g ∧ St ok w0 (E ++ (F ++ u :: v :: a' g :: b' g :: c' g :: d' g :: R)) fs w') :=
 fun w hS => (h w (hS.perm perm4.symm)).mono fun _ _ ⟨g, h1, h2, h3⟩ => ⟨g, h1, h2, h3.perm perm4⟩
end
theorem qd : ∀ {d : List Int} {last n : Int}, cz last d n = true → last ≤ n → (d.length : Int) ≤ n - last
 | [], _, _, _, h => by simp; omega
 | x :: l, last, n, h, hn => by
  rw [cz, Bool.and_eq_true] at h
  have h1 := of_decide_eq_true h.1
  have h2 := qd h.2 (by omega)
  rw [List.length_cons]; push_cast; omega
abbrev bsW (k : IK) (xa : Bs) (l : List Nat) : List Bs := xa :: k.s :: l.map (rD k)
abbrev vsW (p : PR) (l : List Nat) : List Bs := p.sz :: (jd p).1.1 :: l.map (lim p)
theorem p9 {k : IK} {xa : Bs} {l : List Nat} {x : Nat} : bsW k xa (l ++ [x]) = bsW k xa l ++ [rD k x] := by simp
theorem ur {p : PR} {l : List Nat} {x : Nat} : vsW p (l ++ [x]) = vsW p l ++ [lim p x] := by simp
abbrev bsL (k : IK) (xa : Bs) (d : List Int) (i : Nat) : List Bs := k.z :: xa :: (d.take i).map fun q => rD k q.toNat
abbrev zsL (p : PR) (vs : List Bs) (i : Nat) : List Zs := ofZ 1 :: ngN p.lo :: (vs.take i).map ngN
theorem wB {k : IK} {xa : Bs} {d : List Int} {i : Nat} (h : i < d.length) : bsL k xa d (i + 1) = bsL k xa d i ++ [rD k (d.getD i default).toNat] := by
 rw [bsL, aS h]; simp
theorem un {p : PR} {vs : List Bs} {i : Nat} (h : i < vs.length) : zsL p vs (i + 1) = zsL p vs i ++ [ngN (vs.getD i default)] := by
 rw [zsL, aS h]; simp
theorem qn {l : List Bs} {x : Bs} : ao (l ++ [x]) = ao l ++ [.string (S x)] := by simp
theorem qV {l : List Zs} {z : Zs} : aW (l ++ [z]) = aW l ++ zc z := by simp
abbrev shC (p : PR) (k : IK) (rv : Value) : List Value := [.string (S p.ch), .string (S p.sl), .string (S p.mn.1.1), .string (S p.mn.1.2), .string (S p.mn.2.1), .string (S p.mn.2.2), .string (S p.wh.1.1), .string (S p.wh.1.2), .string (S p.wh.2.1), .string (S p.wh.2.2), .string (S p.sec), .string (S p.attr), .string (S p.han), .string (S p.lo), .string (S p.sz), .string (S p.bl), .string (S p.msk), .string (S k.name), .string (S k.g.1), .string (S k.g.2), .string (S k.z), .string (S k.s), rv, .string (S k.u), .string (S k.h)]
abbrev yz (b10 : Nat) : Ent := ⟨some b10, [.slice none 0 0, .slice none 0 0, .slice none 0 0], 58⟩
theorem uO {p : PR} {k : IK} {xa : Bs} {d : List Int} {vs : List Bs} (h0 : dQ p k = 0) (hxa : elG k.g xa) (hasc : cz 1 d k.r.length = true) (hv : ∀ x ∈ vs, okN x) (hl : vs.length = d.length) :
  (dn k.g (k.z :: xa :: d.map fun i => rD k i.toNat) (ofZ 1 :: ngN p.lo :: vs.map ngN)).2 = 0 := by
 obtain ⟨hR, _, _, _, hg, _, _, hel⟩ := dE h0
 rw [qH hg ?_ ?_ (by simp [hl])]
 ·intro x hx
  rcases List.mem_cons.1 hx with rfl | hx
  ·exact hel _ (by simp)
  ·rcases List.mem_cons.1 hx with rfl | hx
   ·exact hxa
   ·obtain ⟨i, hi, rfl⟩ := List.mem_map.1 hx
    have := iv hasc i hi
    exact yv h0 (by omega)
 ·intro z hz
  rcases List.mem_cons.1 hz with rfl | hz
  ·exact pr
  ·rcases List.mem_cons.1 hz with rfl | hz
   ·exact pz ((gk hR).1.1 _ (by simp))
   ·obtain ⟨x, hx, rfl⟩ := List.mem_map.1 hz
    exact pz (hv x hx)
theorem zs0 {p : PR} {vs : List Bs} : aW (zsL p vs 0) ++ ([] : List Value) = zc (ofZ 1) ++ zc (ngN p.lo) := by simp [zsL]
theorem bs0 {k : IK} {xa : Bs} {d : List Int} : ao (bsL k xa d 0) ++ ([] : List Value) = [.string (S k.z), .string (S xa)] := by simp [bsL]
abbrev SCR (p : PR) (k : IK) (rv : Value) (b6 b10 b12 b131 b21 b22 b23 : Nat) : List Ent :=
 [⟨some b23, [.func (.func 59) #[] #[.pointer (some ⟨b22, 0, none⟩), .pointer (some ⟨b21, 0, none⟩)]], 125⟩, ⟨some b131, ((ikC k rv).drop 1).take 2, 26⟩, ⟨some b12, shC p k rv, 99⟩, yz b10, ⟨some b6, ikC k rv, 33⟩]
abbrev SCO (p : PR) (k : IK) (xa tg : Bs) (rv dv : Value) (nn : Nat) (b6 b10 b12 b131 b21 b22 b23 h1 h2 : Nat) (l : List Nat) (g : aG) : List Ent :=
 ⟨some h2, [.int .i64 (nn : Int)], 3⟩ :: ⟨some h1, [dv], 38⟩ :: tmE (bsW k xa l) g :: vrE (vsW p l) g :: kw b22 tg (bsW k xa l).length g :: jN b21 (.slice (some ⟨b131, 0, none⟩) 1 1) (bsW k xa l).length g :: SCR p k rv b6 b10 b12 b131 b21 b22 b23
theorem xj {p : PR} {k : IK} {xa : Bs} {d : List Int} {vs : List Bs} {ra da va : Option Addr} {rc dc vc : Nat} {w : World} {ok : Nat → Prop} (hF1 : (Fact.sl ra (ao k.r)).holds ok w) (hF2 : (Fact.sl da (dW d)).holds ok w) (hF3 : (Fact.sl va (ao vs)).holds ok w) (hm8 : p.mn.1.1.length ≤ 8) (hk8 : k.g.1.length ≤ 8) (hkl : k.r.length ≤ 100000) (hnl : k.name.length ≤ 140737488351232) (hdl : d.length ≤ 140737488351232) (hvl : vs.length ≤ 140737488351232) (hD : TabD w) :
  Calls Tryz.prog 16 #[prV p, ikV k (.slice ra k.r.length rc), .string (S xa), .slice da d.length dc, .slice va vs.length vc] w fun e w' => ∃ gx : SA, e = .returned (SME gx (shS p k xa d vs).2) ∧ (gx.core = (shS p k xa d vs).1) ∧ Below w.heap.size w w' ∧ ∀ x ∈ (saF gx : List Fact), x.holds (fun b => ok b ∨ w.heap.size ≤ b) w' := by
 refine kx (S := St (fun b => ok b ∨ w.heap.size ≤ b) w [] ([Fact.sl ra (ao k.r), Fact.sl da (dW d), Fact.sl va (ao vs)])) (L := [(0, prV p), (1, ikV k (.slice ra k.r.length rc)), (2, .string (S xa)), (3, .slice da d.length dc), (4, .slice va vs.length vc)]) Tryz.func16 rfl Tryz.ntmps16 rfl (Ac rfl (Ac rfl (Ac rfl (Ac rfl (Ac rfl (An _)))))) (St.start (fun _ h => Or.inr h) (nB (Fc hF1 (Fc hF2 (Fc hF3 Fn))))) ?_
 refine Cs ?_
 refine Kh rfl (Oy rfl rfl) ?_
 intro b5
 refine Kh rfl (Oy rfl rfl) ?_
 intro b6
 refine Kh rfl (Oz [.slice none 0 0, .slice none 0 0, .slice none 0 0] rfl) ?_
 intro b10
 refine Ka rfl (Nt (Cs ?_))
 refine Kq rfl (lda rfl rfl .tc u30 rfl ?_) ?_
 ·kernel_rfl
 refine Kq rfl (lda rfl rfl .tc u33 rfl ?_) ?_
 ·kernel_rfl
 refine Ku rfl (Oc rfl rfl (Kv fun w hS => o6 (p := p) (k := k) (by (exact hS.sl)) (by assumption) (by assumption) (by omega) (by assumption) (by (exact bn hD hS)))) ?_
 refine Km rfl (Ye rfl (Ye rfl ?_))
 refine Kh rfl (Oz [.string (S []), .string (S []), .string (S []), .string (S []), .string (S []), .string (S []), .string (S []), .string (S []), .string (S []), .string (S []), .string (S []), .string (S []), .string (S []), .string (S []), .string (S []), .string (S []), .string (S []), .string (S []), .string (S []), .string (S []), .string (S []), .string (S []), .slice none 0 0, .string (S []), .string (S [])] rfl) ?_
 intro b12
 refine Nu rfl rfl (Sa rfl rfl rfl .tc) ?_
 refine Ka rfl (Nt (Cq (Cs (Km rfl (Yj rfl (Nt ?_))))))
 refine Cd rfl (fun hc32 => ?_) (fun hc32 => ?_)
 ·(try simp only [sB] at hc32)
  have hE : shE p k xa d vs = dQ p k := by rw [shE, if_pos (by simpa using hc32)]
  have hr : shS p k xa d vs = (([], [], []), dQ p k) := by rw [shS, hE, if_pos (by simpa using hc32)]
  refine Cs (Kq rfl (Kb [[.slice none 0 0], [.slice none 0 0], [.slice none 0 0]] rfl rfl) (Km rfl ?_))
  refine Nu rfl rfl (Sa rfl rfl rfl .tc) ?_
  refine Ka rfl (Nt (Ce (Xb ?_)))
  exact WX.retM0 rfl (.agg rfl .tc u58 rfl (by kernel_rfl) (.tmp rfl .nil)) fun w' hS => gC hr hS
 ·(try simp only [sB] at hc32)
  have h0 : dQ p k = 0 := by simpa using hc32
  have hg : bP k.g = 0 := (dE h0).2.2.2.2.1
  have h18 : k.r.length ≤ 18 := (dE h0).2.2.2.2.2.2.1
  refine Ck (Xa (Cq ?_))
  refine WC.joinP (σ := Unit) [(2, _), (3, _), (4, _), (5, _), (6, _), (10, _), (11, _), (12, _)] (fun gq => [(43, .bool (decide (¬ (okN xa ∧ rJ vs))))]) (fun gq => True) (S8 rfl rfl rfl rfl rfl rfl rfl rfl) ?_ ?_
  ·skip
   refine Cg (Km rfl ?_)
   refine Kh rfl (aR rfl rfl u31 (by kernel_rfl : _ = some (some (.string (S [])), 1, 16)) rfl (by simp only [List.map]; rfl) rfl rfl ?_ (by decide)) ?_
   ·simp [Value.cells]
   intro b36
   refine Ku rfl (Oc rfl rfl (Kv fun w hS => gS (l := [xa]) (by (exact hS.os)) (by (simp <;> omega)))) ?_
   refine Ns 37 rfl (v' := .bool (decide (okN xa))) (congrArg Value.bool (by exact decide_eq_decide.2 (by simp))) ?_
   refine Yt rfl (Km rfl ?_)
   refine Nb 39 rfl (fun hg39 => ?_) (fun hg39 => ?_)
   ·(try simp only [sB] at hg39)
    refine Kt rfl (Kt rfl (Kt rfl (Yp rfl (Nn ?_))))
    refine WX.joinP (()) (S8 rfl rfl rfl rfl rfl rfl rfl rfl) (by refine (Sc ?_ (S0 _)) <;> ((refine ai rfl ?_; (try dsimp only); (simp [*]; done)))) ?_ (by (exact aq))
    (try dsimp only)
    done
   ·(try simp only [sB] at hg39)
    refine Km rfl ?_
    refine Ku rfl (Oc rfl rfl (Kv fun w hS => gS (l := vs) (by (exact hS.sl)) (by assumption))) ?_
    refine Ns 41 rfl (v' := .bool (decide (rJ vs))) (congrArg Value.bool (by rfl)) ?_
    refine Yt rfl (Yq rfl (Nn ?_))
    refine WX.joinP (()) (S8 rfl rfl rfl rfl rfl rfl rfl rfl) (by refine (Sc ?_ (S0 _)) <;> ((refine ai rfl ?_; (try dsimp only); (simp [*]; done)))) ?_ (by (exact aq))
    (try dsimp only)
    done
  ·rintro _ hmeet; (try dsimp only at hmeet ⊢)
   refine Cd rfl (fun hc43 => ?_) (fun hc43 => ?_)
   ·(try simp only [sB] at hc43)
    have hE : shE p k xa d vs = 3 := by rw [shE, if_neg (fun h => h h0), if_pos (show ¬ (okN xa ∧ ∀ x ∈ vs, okN x) from hc43)]
    have hr : shS p k xa d vs = (([], [], []), 3) := by rw [shS, hE, if_pos (by decide)]
    refine Cs (Kq rfl (Kb [[.slice none 0 0], [.slice none 0 0], [.slice none 0 0]] rfl rfl) ?_)
    refine Nu rfl rfl (Sa rfl rfl rfl .tc) ?_
    refine Ka rfl (Nt (Ce (Xb ?_)))
    exact WX.retM0 rfl (.agg rfl .tc u58 rfl (by kernel_rfl) (.tmp rfl .nil)) fun w' hS => gC hr hS
   ·(try simp only [sB] at hc43)
    have hok : okN xa ∧ ∀ x ∈ vs, okN x := Decidable.not_not.1 hc43
    refine Ck (Xa (Cq (Cs (Kq rfl (Fa (q := 1) rfl rfl u33 rfl rfl) ?_))))
    refine Kq rfl (ldp rfl rfl .tc u26 rfl (by kernel_rfl : _ = some 2) (by rfl) (by rfl)) ?_
    refine Km rfl ?_
    refine Ku rfl (Oc rfl rfl (Kv fun w hS => gZ (g := k.g) (x := xa) (by assumption))) ?_
    refine Ns 48 rfl (v' := .bool (decide (elG k.g xa))) (congrArg Value.bool (by simp [hg])) ?_
    refine Yt rfl (Nt ?_)
    refine Cd rfl (fun hc49 => ?_) (fun hc49 => ?_)
    ·(try simp only [sB] at hc49)
     have hn : ¬ elG k.g xa := by simpa using hc49
     have hE : shE p k xa d vs = 13 := by rw [shE, if_neg (fun h => h h0), if_neg (fun h => h hok), if_pos hn]
     have hr : shS p k xa d vs = (([], [], []), 13) := by rw [shS, hE, if_pos (by decide)]
     refine Cs (Kq rfl (Kb [[.slice none 0 0], [.slice none 0 0], [.slice none 0 0]] rfl rfl) ?_)
     refine Nu rfl rfl (Sa rfl rfl rfl .tc) ?_
     refine Ka rfl (Nt (Ce (Xb ?_)))
     exact WX.retM0 rfl (.agg rfl .tc u58 rfl (by kernel_rfl) (.tmp rfl .nil)) fun w' hS => gC hr hS
    ·(try simp only [sB] at hc49)
     have hel : elG k.g xa := by simpa using hc49
     refine Ck (Xa (Cq (Cs (Km rfl (Kq rfl (Fa (q := 5) rfl rfl u33 rfl rfl) (Kq rfl (Ld rfl rfl .tc u31) ?_))))))
     refine Yo rfl u31 ?_
     refine Ku rfl (Oc rfl rfl (Kv fun w hS => o9 (l := d) (n := (k.r.length : Int)) (by (exact hS.sl)) (by assumption))) ?_
     refine Yt rfl (Nt ?_)
     refine Cd rfl (fun hc56 => ?_) (fun hc56 => ?_)
     ·(try simp only [sB] at hc56)
      have hasc : cz 1 d k.r.length = false := by simpa using hc56
      have hE : shE p k xa d vs = 2 := by rw [shE, if_neg (fun h => h h0), if_neg (fun h => h hok), if_neg (fun h => h hel), if_pos hasc]
      have hr : shS p k xa d vs = (([], [], []), 2) := by rw [shS, hE, if_pos (by decide)]
      refine Cs (Kq rfl (Kb [[.slice none 0 0], [.slice none 0 0], [.slice none 0 0]] rfl rfl) ?_)
      refine Nu rfl rfl (Sa rfl rfl rfl .tc) ?_
      refine Ka rfl (Nt (Ce (Xb ?_)))
      exact WX.retM0 rfl (.agg rfl .tc u58 rfl (by kernel_rfl) (.tmp rfl .nil)) fun w' hS => gC hr hS
     ·(try simp only [sB] at hc56)
      have hasc : cz 1 d k.r.length = true := by simpa using hc56
      have hasn : ¬ cz 1 d k.r.length = false := by rw [hasc]; decide
      refine Ck (Xa (Cq (Cs (Km rfl (Yo rfl u31 (Km rfl (Yo rfl u38 (Yj rfl (Nt ?_)))))))))
      refine Cd rfl (fun hc62 => ?_) (fun hc62 => ?_)
      ·(try simp only [sB] at hc62)
       have hE : shE p k xa d vs = 6 := by rw [shE, if_neg (fun h => h h0), if_neg (fun h => h hok), if_neg (fun h => h hel), if_neg hasn, if_pos (by omega)]
       have hr : shS p k xa d vs = (([], [], []), 6) := by rw [shS, hE, if_pos (by decide)]
       refine Cs (Kq rfl (Kb [[.slice none 0 0], [.slice none 0 0], [.slice none 0 0]] rfl rfl) ?_)
       refine Nu rfl rfl (Sa rfl rfl rfl .tc) ?_
       refine Ka rfl (Nt (Ce (Xb ?_)))
       exact WX.retM0 rfl (.agg rfl .tc u58 rfl (by kernel_rfl) (.tmp rfl .nil)) fun w' hS => gC hr hS
      ·(try simp only [sB] at hc62)
       have hlen : vs.length = d.length := by omega
       have hlen2 : ¬ vs.length ≠ d.length := by omega
       have hd18 := qd hasc (by have := (dE h0).2.2.2.2.2.1; omega)
       refine Ck (Xa (Cq ?_))
       refine Cf [4, 5, 6, 7, 8, 9, 0, 1, 2, 3, 10, 11, 12] [] [0, 0, 0, 3, 1, 0, 0, 0, 0, 1, 3, 0, 0] (by kernel_rfl) (by kernel_rfl) rfl ?_
       refine Jv rfl rfl rfl rfl rfl (fun ext => Oc rfl rfl (Kv fun w hS => jC (n := 1) (by omega) (by omega))) ?_
       refine Kj rfl (Fa (q := 0) rfl rfl u99 rfl rfl) (Kj rfl (Fa (q := 0) rfl rfl u97 rfl rfl) (Kj rfl (Fa (q := 13) rfl rfl u30 rfl rfl) (Kj rfl (Ld rfl rfl .tc u22) ?_)))
       refine Jv rfl rfl rfl rfl rfl (fun ext => Oc rfl rfl (Kv fun w hS => o7 (x := p.lo))) ?_
       refine Kj rfl (Fa (q := 3) rfl rfl u33 rfl rfl) (Kj rfl (Ld rfl rfl .tc u22) ?_)
       refine Kj rfl (Rm rfl rfl) ?_
       refine Jf rfl rfl rfl rfl rfl (kp rfl rfl u31 (by kernel_rfl : _ = some (some (.string (S [])), 1, 16)) rfl (by simp only [List.map]; rfl) rfl rfl ?_ (by decide)) ?_
       ·simp [Value.cells]
       intro b67
       refine Jf rfl rfl rfl rfl rfl (iL rfl rfl u39 (by kernel_rfl : _ = some (some (.agg #[.bool false, .string (S [])]), 2, 24)) (by kernel_rfl) (by decide) rfl rfl (by (simp [Value.cells]; done)) (by (simp only [List.map, Value.cells, List.flatMap_cons, List.flatMap_nil, List.append_nil, List.toList_toArray]; rfl)) (by decide)) ?_
       intro b74
       refine Kj rfl (Ra rfl rfl) (Kj rfl (Ra rfl rfl) ?_)
       refine WJ.nil ?_
       refine Nt (Cq (Cs (Km rfl (Yo rfl u31 (Km rfl (Nt (Cb ?_)))))))
       refine Lo (σ := Nat × (Option Nat) × Nat × (List Value) × (Option Nat) × Nat × (List Value)) [(2, _), (3, _), (5, _), (6, _), (10, _), (12, _), (75, _), (76, _)] (fun gq => [(77, .int .i64 (gq.1 : Int)), (14, .slice (gq.2.1.map fun b => ⟨b, 0, none⟩) (2 + gq.1) gq.2.2.1), (15, .slice (gq.2.2.2.2.1.map fun b => ⟨b, 0, none⟩) (2 + gq.1) gq.2.2.2.2.2.1)]) (fun gq => gq.1 ≤ vs.length ∧ gq.2.2.1 = 2 + gq.1 + gq.2.2.2.1.length ∧ gq.2.2.2.2.2.1 * 2 = (2 + gq.1) * 2 + gq.2.2.2.2.2.2.length ∧ ∀ x ∈ vs.take gq.1, val x < val p.attr) (fun gq => vs.length - gq.1) (fun gq => [⟨gq.2.2.2.2.1, aW (zsL p vs gq.1) ++ gq.2.2.2.2.2.2, 37⟩, ⟨gq.2.1, ao (bsL k xa d gq.1) ++ gq.2.2.2.1, 22⟩, ⟨some b12, shC p k (.slice ra k.r.length rc), 99⟩, yz b10, ⟨some b6, ikC k (.slice ra k.r.length rc), 33⟩, ⟨some b5, prC p, 30⟩]) (fun gq => [Fact.sl ra (ao k.r), Fact.sl da (dW d), Fact.sl va (ao vs)]) (0, some b67, 2, [], some b74, 2, []) (S8 rfl rfl rfl rfl rfl rfl rfl rfl) (S3 rfl rfl rfl) (by (try dsimp only); exact ⟨Nat.zero_le _, rfl, rfl, by simp⟩) (by exact fun w h => by show St _ _ [⟨some b74, aW (zsL p vs 0) ++ [], _⟩, ⟨some b67, ao (bsL k xa d 0) ++ [], _⟩, _, _, _, _] _ _; rw [zs0, bs0]; exact aq _ h) ?_
       rintro ⟨i, o1, c1, p1, o2, c2, p2⟩ hinv1; (try dsimp only at hinv1 ⊢)
       obtain ⟨hi, hc1, hc2, hlt⟩ := hinv1
       refine Cs (Yl rfl (Nt (Cq ?_)))
       refine Cd rfl (fun hc78 => ?_) (fun hc78 => ?_)
       ·(try simp only [sB] at hc78)
        have hil : i < vs.length := by omega
        have hid : i < d.length := by omega
        obtain ⟨v, hv⟩ : ∃ v, Keep (v = vs.getD i default) := ⟨_, rfl⟩
        have hdi := iv hasc _ (ap d i hid)
        obtain ⟨y, hy⟩ : ∃ y : Nat, Keep ((y : Int) = d.getD i default) := ⟨(d.getD i default).toNat, by show ((d.getD i default).toNat : Int) = _; omega⟩
        have hyl : y < k.r.length := by rw [← show (y : Int) = _ from hy] at hdi; omega
        have hov : okN v := by rw [show v = _ from hv]; exact hok.2 _ (ap vs i hil)
        have hoa : okN p.attr := (gk (dE h0).1).1.1 _ (by simp)
        have hzl : (aW (zsL p vs i)).length = (2 + i) * 2 := by rw [aj _ _ 2 (fun _ => rfl), List.length_cons, List.length_cons, List.length_map, List.length_take]; omega
        have hbl : (ao (bsL k xa d i)).length = 2 + i := by rw [List.length_map, List.length_cons, List.length_cons, List.length_map, List.length_take]; omega
        refine Ck (Xa (Cq (Cb (Cs (Km rfl ?_)))))
        refine Kq rfl (Ib rfl rfl rfl u31 (by omega) (by (rw [List.length_map]; omega))) ?_
        refine Kq rfl (ldm rfl rfl u22 rfl (by assumption)) ?_
        refine Ns 81 rfl (v' := .string (S (v))) (congrArg (fun l => Value.string (S l)) (by rw [show v = _ from hv])) ?_
        refine Ka rfl (Ka rfl (Nt (Cq (Cs (Km rfl (Kq rfl (Fa (q := 0) rfl rfl u99 rfl rfl) (Kq rfl (Fa (q := 0) rfl rfl u97 rfl rfl) (Kq rfl (Fa (q := 11) rfl rfl u30 rfl rfl) (Kq rfl (Ld rfl rfl .tc u22) ?_)))))))))
        refine Ku rfl (Oc rfl rfl (Kv fun w hS => dT (a := v) (b := p.attr))) ?_
        refine Yh rfl (Nt ?_)
        refine Cd rfl (fun hc88 => ?_) (fun hc88 => ?_)
        ·(try simp only [sB] at hc88)
         have hn : ¬ ∀ x ∈ vs, val x < val p.attr := fun h => by
          have h1 := h _ (ap vs i hil)
          rw [← show v = _ from hv] at h1
          rw [az hov hoa, fb] at hc88
          omega
         have hE : shE p k xa d vs = 2 := by rw [shE, if_neg (fun h => h h0), if_neg (fun h => h hok), if_neg (fun h => h hel), if_neg hasn, if_neg hlen2, if_pos hn]
         have hr : shS p k xa d vs = (([], [], []), 2) := by rw [shS, hE, if_pos (by decide)]
         refine Cs (Kq rfl (Kb [[.slice none 0 0], [.slice none 0 0], [.slice none 0 0]] rfl rfl) ?_)
         refine Nu rfl rfl (Sa rfl rfl rfl .tc) ?_
         refine Ka rfl (Nt (Ce (Xb (Xf (Xb (Xb (Xf (Xb ?_))))))))
         exact WX.retM0 rfl (.agg rfl .tc u58 rfl (by kernel_rfl) (.tmp rfl .nil)) fun w' hS => gC hr hS
        ·(try simp only [sB] at hc88)
         have hvl2 : val v < val p.attr := by rw [az hov hoa, aw] at hc88; exact hc88
         refine Ck (Xa ?_)
         refine WC.free (K := [⟨some b6, ikC k (.slice ra k.r.length rc), 33⟩]) (fs0 := [Fact.sl ra (ao k.r), Fact.sl da (dW d), Fact.sl va (ao vs)]) [0, 1, 2, 3, 4, 5, 6, 7, 8, 9, 10, 12, 13, 11, 14, 15, 16, 17] [] [0, 0, 0, 0, 0, 0, 0, 0, 0, 3, 1, 0, 0, 1, 3, 1, 0, 0] (by kernel_rfl) (by kernel_rfl) rfl ?_
         refine Kj rfl (Rm rfl rfl) (Kj rfl (Fa (q := 5) rfl rfl u33 rfl rfl) (Kj rfl (Ld rfl rfl .tc u31) ?_))
         refine Kj rfl (Rm rfl rfl) (Kj rfl (Rm rfl rfl) ?_)
         refine Kj rfl (Ib rfl rfl rfl u38 (by omega) (by (rw [List.length_map]; omega))) ?_
         refine Kj rfl (ldm rfl rfl u3 rfl (by assumption)) ?_
         refine WJ.set 96 rfl (v' := .int .i64 ((y : Nat) : Int)) (congrArg (Value.int .i64) (by rw [show (y : Int) = _ from hy])) ?_
         refine Kj rfl (Ib rfl rfl rfl u31 (by omega) (by (rw [List.length_map]; omega))) ?_
         refine Kj rfl (ldm rfl rfl u22 rfl (by assumption)) ?_
         refine Jf rfl rfl rfl rfl rfl (kp rfl rfl u31 (by kernel_rfl : _ = some (some (.string (S [])), 1, 16)) rfl (by simp only [List.map]; rfl) rfl rfl ?_ (by decide)) ?_
         ·simp [Value.cells]
         intro b99
         refine Jg rfl rfl rfl rfl rfl (nK rfl u31 (by kernel_rfl : _ = some (some (.string (S [])), 1, 16)) rfl .tc rfl rfl (fun ext w hS => by (exact hS.os)) (by rfl) (by (refine ⟨hbl, by omega, by omega, by omega⟩)) (by (simp [Value.oneCell']; done))) ?_
         rintro ⟨o100, c100, s100⟩ hg100; (try dsimp only at hg100 ⊢)
         refine Kj rfl (Rm rfl rfl) ?_
         refine Jv rfl rfl rfl rfl rfl (fun ext => Oc rfl rfl (Kv fun w hS => o7 (x := v))) ?_
         refine Kj rfl (Rm rfl rfl) ?_
         refine Jf rfl rfl rfl rfl rfl (iL rfl rfl u39 (by kernel_rfl : _ = some (some (.agg #[.bool false, .string (S [])]), 2, 24)) (by kernel_rfl) (by decide) rfl rfl (by (simp [Value.cells]; done)) (by (exact cu _)) (by decide)) ?_
         intro b104
         refine Jg rfl rfl rfl rfl rfl (mP rfl u39 (by kernel_rfl : _ = some (some (.agg #[.bool false, .string (S [])]), 2, 24)) (by kernel_rfl) (by decide) .tc rfl rfl (fun ext w hS => by (exact hS.os)) (by rfl) (by (refine ⟨hzl, by omega, by omega, by omega⟩)) (by (simp [Value.oneCell']; done))) ?_
         rintro ⟨o105, c105, s105⟩ hg105; (try dsimp only at hg105 ⊢)
         refine Kj rfl (Ra rfl rfl) (Kj rfl (Ra rfl rfl) ?_)
         refine WJ.nil ?_
         refine Nn (Xd (Xa (Cg (Kq rfl (Rz rfl rfl rfl (by omega)) (Km rfl (Nn ?_))))))
         refine Lx ((i + 1, o100, c100, s100, o105, c105, s105)) (by (try dsimp only); omega) (S8 rfl rfl rfl rfl rfl rfl rfl rfl) (by refine (Sc ?_ (Sc ?_ (Sc ?_ (S0 _)))) <;> (rfl)) ?_ (by exact fun w h => by dsimp only; rw [wB hid, un hil, qn, qV, ← show (y : Int) = _ from hy, ← show v = _ from hv, Int.toNat_natCast]; exact aq _ h)
         (try dsimp only)
         exact ⟨hil, by omega, by omega, ay hil hlt (by rw [← show v = _ from hv]; exact hvl2)⟩
       ·(try simp only [sB] at hc78)
        refine Cx (Xc (Xc (Xe ?_)))
        obtain rfl : i = vs.length := by omega
        rw [List.take_length] at hlt
        have hE : shE p k xa d vs = (jd p).2 := by rw [shE, if_neg (fun h => h h0), if_neg (fun h => h hok), if_neg (fun h => h hel), if_neg hasn, if_neg hlen2, if_neg (fun h => h hlt)]
        refine Xa (Cs ?_)
        refine Kq rfl (lda rfl rfl .tc u30 rfl ?_) ?_
        ·kernel_rfl
        refine Ku rfl (Oc rfl rfl (Kv fun w hS => sO (p := p) (by assumption) (by (exact bn hD hS)))) ?_
        refine Km rfl (Ye rfl (Ye rfl (Ye rfl (Ka rfl (Ka rfl (Ka rfl (Nt (Cq (Cs (Km rfl (Yj rfl (Nt ?_))))))))))))
        refine Cd rfl (fun hc114 => ?_) (fun hc114 => ?_)
        ·(try simp only [sB] at hc114)
         have hr : shS p k xa d vs = (([], [], []), (jd p).2) := by rw [shS, hE, if_pos (by simpa using hc114)]
         refine Cs (Kq rfl (Kb [[.slice none 0 0], [.slice none 0 0], [.slice none 0 0]] rfl rfl) (Km rfl ?_))
         refine Nu rfl rfl (Sa rfl rfl rfl .tc) ?_
         refine Ka rfl (Nt (Ce (Xb ?_)))
         exact WX.retM0 rfl (.agg rfl .tc u58 rfl (by kernel_rfl) (.tmp rfl .nil)) fun w' hS => gC hr hS
        ·(try simp only [sB] at hc114)
         have hr : shS p k xa d vs = (shT p k xa d vs, 0) := by rw [shS, hE, if_neg (by simpa using hc114)]
         have hpr := uO h0 hel hasc hok.2 hlen
         have hbf : bsL k xa d vs.length = k.z :: xa :: d.map fun q => rD k q.toNat := by rw [bsL, List.take_of_length_le (by omega)]
         have hzf : zsL p vs vs.length = ofZ 1 :: ngN p.lo :: vs.map ngN := by rw [zsL, List.take_length]
         have hbl : (bsL k xa d vs.length).length = 2 + vs.length := by rw [List.length_cons, List.length_cons, List.length_map, List.length_take]; omega
         have hzl : (zsL p vs vs.length).length = 2 + vs.length := by rw [List.length_cons, List.length_cons, List.length_map, List.length_take]; omega
         have hit := pJ (l := aM d k.r.length) []
         rw [List.nil_append] at hit
         rw [← hbf, ← hzf] at hpr
         obtain ⟨tg, htg⟩ : ∃ tg, tg = tgS p k xa d vs := ⟨_, rfl⟩
         have hPr : dn k.g (bsL k xa d vs.length) (zsL p vs vs.length) = (tg, 0) := by rw [htg, tgS, ← hbf, ← hzf, ← hpr]
         refine WC.set 14 rfl (v' := .slice (o1.map fun b => ⟨b, 0, none⟩) (bsL k xa d vs.length).length c1) (by rw [hbl]) ?_
         refine WC.set 15 rfl (v' := .slice (o2.map fun b => ⟨b, 0, none⟩) (zsL p vs vs.length).length c2) (by rw [hzl]) ?_
         refine Ck (Xa (Cs (Kq rfl (Fa (q := 1) rfl rfl u33 rfl rfl) ?_)))
         refine Kq rfl (ldp rfl rfl .tc u26 rfl (by kernel_rfl : _ = some 2) (by rfl) (by rfl)) ?_
         refine Km rfl (Km rfl ?_)
         refine Ku rfl (Oc rfl rfl (Kv fun w hS => (by have := gG (w := w) (g := k.g) (l := bsL k xa d vs.length) (es := zsL p vs vs.length) (a := o1.map fun b => ⟨b, 0, none⟩) (b := o2.map fun b => ⟨b, 0, none⟩) (c := c1) (d := c2) hS.oc hS.oc (by omega) (by omega) hk8; rw [hPr] at this; exact this))) ?_
         refine Km rfl (Ye rfl (Ye rfl (Ka rfl (Ka rfl (Nt (Cq (Cs (Km rfl (Yj rfl (Nt ?_))))))))))
         refine Cd rfl (fun hc126 => ?_) (fun hc126 => ?_)
         ·(try simp only [sB] at hc126)
          all_goals (exfalso; simp at hc126) -- done
         ·(try simp only [sB] at hc126)
          refine Ck (Xa (Cs (Kq rfl (Fa (q := 1) rfl rfl u33 rfl rfl) ?_)))
          refine Kq rfl (ldp rfl rfl .tc u26 rfl (by kernel_rfl : _ = some 2) (by rfl) (by rfl)) ?_
          refine Kh rfl (fE rfl rfl u54 (by kernel_rfl : _ = some (some (.agg #[.string (S []), .string (S [])]), 2, 32)) (by kernel_rfl) (by decide) rfl rfl (by (simp [Value.cells]; done)) (by (exact cu _)) (by decide)) ?_
          intro b131
          refine Kq rfl (Kb [[.slice none 0 0], [.slice none 0 0], [.slice none 0 0]] rfl rfl) ?_
          refine Kh rfl (Oz [.slice none 0 0, .slice none 0 0, .slice none 0 0] rfl) ?_
          intro b21
          refine Nu rfl rfl (Sa rfl rfl rfl .tc) ?_
          refine Nt (Cs (Km rfl (Kq rfl (Kb [[.int .i64 0], [.string (S [])], [.slice none 0 0]] rfl rfl) ?_)))
          refine Kh rfl (Oz [.int .i64 0, .string (S []), .slice none 0 0] rfl) ?_
          intro b22
          refine Nu rfl rfl (Sa rfl rfl rfl .tc) ?_
          refine Nt (Cs (Kq rfl (cE rfl rfl rfl) ?_))
          refine Kh rfl (Oa rfl (v := .nilFunc) (cs := [.nilFunc]) (by kernel_rfl) rfl) ?_
          intro b23
          refine Ng rfl rfl (st rfl rfl rfl .tc (by kernel_rfl) rfl ?_ (by (simp only [List.set_cons_zero, List.set_cons_succ]; rfl))) ?_
          ·decide
          intro _
          refine Nt (Cs ?_)
          refine WL.st (fun w h => (show St _ _ (tmE [] (none, 0, [], none, 0, []) :: vrE [] (none, 0, [], none, 0, []) :: kw b22 tg ([] : List Bs).length (none, 0, [], none, 0, []) :: jN b21 (.slice (some ⟨b131, 0, none⟩) 1 1) ([] : List Bs).length (none, 0, [], none, 0, []) :: SCR p k (.slice ra k.r.length rc) b6 b10 b12 b131 b21 b22 b23) _ w from (((h.perm (List.perm_middle (l₁ := [_, _]))).nil 124).nil 122).sub (.cons_cons _ (.cons_cons _ (.cons_cons _ (.cons_cons _ (.cons_cons _ (.cons_cons _ (.cons _ (.cons _ (.cons_cons _ (.cons_cons _ (.cons_cons _ (.cons _ .slnil)))))))))))) (fun _ h => h))) ?_
          refine Kq rfl (Ld rfl rfl .tc w6) ?_
          refine Kq rfl (Fa (q := 0) rfl rfl u99 rfl rfl) (Kq rfl (Fa (q := 0) rfl rfl u97 rfl rfl) (Kq rfl (Fa (q := 14) rfl rfl u30 rfl rfl) (Kq rfl (Ld rfl rfl .tc u22) ?_)))
          refine Km rfl ?_
          refine Kh rfl (aL rfl rfl rfl (by kernel_rfl) rfl (fun w hS => lV (bd := p.sz) (ba := xa) (bs := []) (vs := []) (o1 := none) (o2 := none) (c1 := 0) (c2 := 0) (p1 := []) (p2 := []) hS rfl (by simp) ⟨rfl, rfl⟩)) ?_
          rintro ⟨oA, cA, pA, oB, cB, pB⟩; refine WL.pu ?_; intro hA
          refine Nt (Cs (Kq rfl (Ld rfl rfl .tc w6) ?_))
          refine Km rfl (Kq rfl (Fa (q := 4) rfl rfl u33 rfl rfl) (Kq rfl (Ld rfl rfl .tc u22) ?_))
          refine Kh rfl (aL rfl rfl rfl (by kernel_rfl) rfl (fun w hS => (show Calls _ _ _ _ (fun e w' => ∃ g : aG, e = .returned (tup []) ∧ aOk (bsW k xa []).length g ∧ St _ _ (tmE (bsW k xa []) g :: vrE (vsW p []) g :: kw b22 tg (bsW k xa []).length g :: jN b21 (.slice (some ⟨b131, 0, none⟩) 1 1) (bsW k xa []).length g :: SCR p k (.slice ra k.r.length rc) b6 b10 b12 b131 b21 b22 b23) _ w') from lV (bd := (jd p).1.1) (ba := k.s) (bs := [xa]) (vs := [p.sz]) (o1 := oA) (o2 := oB) (c1 := cA) (c2 := cB) (p1 := pA) (p2 := pB) hS rfl (by simp) hA))) ?_
          intro gB; refine WL.pu ?_; intro hB
          refine Nt (Cq (Cs (Km rfl (Kq rfl (Fa (q := 5) rfl rfl u33 rfl rfl) (Kq rfl (Ld rfl rfl .tc u31) ?_)))))
          refine Yo rfl u31 ?_
          refine Kh rfl (Oc rfl rfl (fun w hS => nx (a := da) (m := d.length) (c := dc) (n := k.r.length) hS)) ?_
          intro g152
          refine Nt (Cb ?_)
          refine WC.range (CO := SCO p k xa tg (.slice ra k.r.length rc) (.slice da d.length dc) k.r.length b6 b10 b12 b131 b21 b22 b23 g152.1 g152.2) (pg := fun l g => aOk (bsW k xa l).length g) (inv := fun l x => ∃ r, l ++ x :: r = aM d k.r.length) (after := fun l x => l ++ [x]) (stop := fun _ _ => none) (enc := fun y : Nat => #[Value.int .i64 (y : Int)]) (([] : List Nat)) (gB) ((itL (fun (l : List Nat) x => l ++ [x]) (fun _ _ => (none : Option Code)) (aM d k.r.length) []).1) ((itL (fun (l : List Nat) x => l ++ [x]) (fun _ _ => (none : Option Code)) (aM d k.r.length) []).2) (hB) rfl (by kernel_rfl) (fun _ => rfl) (by exact fun w h => aq _ h) ?_ (fun l r D w hl' hY hS => wM (J := fun l s => s ++ l = aM d k.r.length) (d := d) (a := da) (c := dc) (n := k.r.length) hY hS hB (List.nil_append _) (fun l x s h => ⟨⟨l, h⟩, fun _ => by rw [List.append_assoc]; exact h⟩) hasc hdl (by omega)) ?_ ?_
          ·intro l r D f a s g x ext wr hl hi hpg hF hS
           obtain ⟨rr, hrr⟩ := hi
           obtain ⟨hxn, hsn⟩ := pM hrr
           obtain ⟨oT, cT, pT, oV, cV, pV⟩ := g
           rw [pO]
           refine ep (Fr.tm (hF.put (d := 153) rfl _)) hS ?_
           refine WR.region (by kernel_rfl) ?_
           refine Ka rfl (Nn ?_)
           refine WX.begin hl ?_
           refine Cb ?_
           refine WR.free (K := [⟨some b23, [.func (.func 59) #[] #[.pointer (some ⟨b22, 0, none⟩), .pointer (some ⟨b21, 0, none⟩)]], 125⟩, ⟨some b12, shC p k (.slice ra k.r.length rc), 99⟩, ⟨some b6, ikC k (.slice ra k.r.length rc), 33⟩]) (fs0 := [Fact.sl ra (ao k.r)]) (by kernel_rfl) [1, 2, 3, 4, 0, 5, 6, 7, 8, 9, 10] [] [0, 0, 0, 0, 1, 0, 0, 0, 0, 0, 1] (by kernel_rfl) (by kernel_rfl) rfl ?_
           refine Kj rfl (Fa (q := 0) rfl rfl u99 rfl rfl) ?_
           refine Kj rfl (ldp rfl rfl .tc u97 rfl (by kernel_rfl : _ = some 17) (by rfl) (by rfl)) ?_
           refine Kj rfl (Rm rfl rfl) ?_
           refine Jv rfl rfl rfl rfl rfl (fun ext => Oc rfl rfl (Kv fun w hS => uM (p := p) (i := x))) ?_
           refine Kj rfl (Ld rfl rfl .tc w6) ?_
           refine Kj rfl (Fa (q := 5) rfl rfl u33 rfl rfl) (Kj rfl (Ld rfl rfl .tc u31) ?_)
           refine Kj rfl (Rm rfl rfl) ?_
           refine Kj rfl (Ib rfl rfl rfl u31 (by omega) (by (rw [List.length_map]; omega))) ?_
           refine Kj rfl (ldm rfl rfl u22 rfl (by assumption)) ?_
           refine WJ.set 163 rfl (v' := .string (S (rD k x))) (congrArg (fun l => Value.string (S l)) (by rfl)) ?_
           refine Jg rfl rfl rfl rfl rfl (fun ext => aL rfl rfl rfl (by kernel_rfl) rfl (xY fun w hS => lV (bd := lim p x) (ba := rD k x) (bs := bsW k xa s) (vs := vsW p s) (o1 := oT) (o2 := oV) (c1 := cT) (c2 := cV) (p1 := pT) (p2 := pV) hS (by simp) (by simp; omega) hpg)) ?_
           intro g164 hg164
           refine WJ.nil ?_
           refine Nn (Xd ?_)
           exact WX.rnext hl fun w' hS => by
            refine ⟨rfl, g164, fun _ => ?_, ?_⟩
            ·rw [p9]; exact hg164
            ·dsimp only [SCO]; rw [p9, ur]; exact hS
          ·intro D1 g1 hD1 hg1 hcf
           rw [hit]
           obtain ⟨oT, cT, pT, oV, cV, pV⟩ := g1
           dsimp only [SCO, SCR]
           rw [show kw b22 tg (bsW k xa (aM d k.r.length)).length (oT, cT, pT, oV, cV, pV) = kw b22 tg (fo (bsW k xa (aM d k.r.length)) 0).length (oT, cT, pT, oV, cV, pV) from by rw [gQ],
            show jN b21 (.slice (some ⟨b131, 0, none⟩) 1 1) (bsW k xa (aM d k.r.length)).length (oT, cT, pT, oV, cV, pV) = jN b21 (.slice (some ⟨b131, 0, none⟩) 1 1) (vsW p (aM d k.r.length)).length (oT, cT, pT, oV, cV, pV) from by rw [show (bsW k xa (aM d k.r.length)).length = (vsW p (aM d k.r.length)).length by simp]]
           dsimp only [tmE, vrE, kw, jN]
           refine Xd (Xa (Cs ?_))
           refine Kq rfl (lda rfl rfl .tc u95 rfl ?_) ?_
           ·kernel_rfl
           refine Kh rfl (fE rfl rfl u56 (by kernel_rfl : _ = some (some (.agg #[.int .i64 0, .string (S []), .slice none 0 0]), 3, 48)) (by kernel_rfl) (by decide) rfl rfl (by (simp [Value.cells]; done)) (by (exact cu _)) (by decide)) ?_
           intro b166
           refine Kq rfl (Fa (q := 2) rfl rfl u58 rfl rfl) ?_
           refine Ng rfl rfl (st rfl rfl rfl .tc (by kernel_rfl) rfl ?_ (by (simp only [List.set_cons_zero, List.set_cons_succ]; rfl))) ?_
           ·(simp; done)
           intro _
           refine Nt (Cs ?_)
           refine Kq rfl (lda rfl rfl .tc u58 rfl ?_) ?_
           ·kernel_rfl
           refine Nu rfl rfl (Sa rfl rfl rfl .tc) ?_
           refine Ka rfl (Nt (Ce ?_))
           exact WX.retM1 hD1 rfl (.agg rfl .tc u58 rfl (by kernel_rfl) (.tmp rfl .nil)) fun w' hS => ⟨⟨[k.g], vsW p (aM d k.r.length), [((0, tg, fo (bsW k xa (aM d k.r.length)) 0), oT.map fun b => ⟨b, 0, none⟩, cT)], some ⟨b131, 0, none⟩, 1, oV.map fun b => ⟨b, 0, none⟩, cV, some ⟨b166, 0, none⟩, 1⟩, by rw [hr]; rfl, by rw [hr, htg]; rfl, hS.below, Fc hS.osk (Fc hS.ock (Fc hS.osk (Fc hS.ock Fn)))⟩
          ·intro D1 g1 c hD1 hcf
           (rw [hit] at hcf; cases hcf)
abbrev wlS (p : PR) (s : SG) (v : Zs) (ms : List Bs) (l : List Nat) : List Zs := (cO (aF s.e) (aF p.lo)).1 :: v :: l.map fun i => aF (ms.getD i default)
theorem lP {p : PR} {s : SG} {v : Zs} {ms : List Bs} {l : List Nat} {x : Nat} : wlS p s v ms (l ++ [x]) = wlS p s v ms l ++ [aF (ms.getD x default)] := by simp [wlS]
theorem oX {p : PR} {s : SG} {v : Zs} {ms : List Bs} : aW (wlS p s v ms []) ++ ([] : List Value) = zc (cO (aF s.e) (aF p.lo)).1 ++ zc v := by simp [wlS]
theorem nu {l : List Zs} {z : Zs} : aW (l ++ [z]) = aW l ++ zc z := by simp
abbrev WCO (p : PR) (s : SG) (v : Zs) (ms : List Bs) (d : List Int) (a b : Option Addr) (c e b8 b15 h1 h2 : Nat) (l : List Nat) (g : Option Nat × Nat × List Value) : List Ent :=
 [⟨some h2, [.int .i64 (ms.length : Int)], 3⟩, ⟨some h1, [.slice b d.length e], 38⟩, ⟨some b15, [.slice (g.1.map fun b => ⟨b, 0, none⟩) (wlS p s v ms l).length g.2.1], 39⟩, ⟨g.1, aW (wlS p s v ms l) ++ g.2.2, 37⟩, ⟨some b8, [.slice a ms.length c], 31⟩]
theorem o5 {p : PR} {sg : SG} {v : Zs} {ms : List Bs} {d : List Int} {am b : Option Addr} {c e : Nat} {w : World} {ok : Nat → Prop} (hF1 : (Fact.sl am (ao ms)).holds ok w) (hF2 : (Fact.sl b (dW d)).holds ok w) (hm8 : p.mn.1.1.length ≤ 8) (hml : ms.length ≤ 140737488351232) (hdl : d.length ≤ 140737488351232) (hD : TabD w) :
  Calls Tryz.prog 19 #[prV p, sgV sg, zV v, .slice am ms.length c, .slice b d.length e] w fun e w' => ∃ gx : Rs, e = .returned (.tuple #[gx.val (wiS p sg v ms d).1.length, .int .i64 (wiS p sg v ms d).2]) ∧ (True) ∧ Below w.heap.size w w' ∧ ∀ x ∈ ([Fact.sl gx.a (aW (wiS p sg v ms d).1)] : List Fact), x.holds (fun b => w.heap.size ≤ b) w' := by
 refine kx (S := St (fun _ => True) w [] ([Fact.sl am (ao ms), Fact.sl b (dW d)])) (L := [(0, prV p), (1, sgV sg), (2, zV v), (3, .slice am ms.length c), (4, .slice b d.length e)]) Tryz.func19 rfl Tryz.ntmps19 rfl (Ac rfl (Ac rfl (Ac rfl (Ac rfl (Ac rfl (An _)))))) (St.start (fun _ _ => trivial) (Fc (ah hF1) (Fc (ah hF2) Fn))) ?_
 refine Cs ?_
 refine Kh rfl (Oy rfl rfl) ?_
 intro b5
 refine Kh rfl (Oy rfl rfl) ?_
 intro b6
 refine Kh rfl (Oy rfl rfl) ?_
 intro b7
 refine Kh rfl (Oy rfl rfl) ?_
 intro b8
 refine Ka rfl (Ka rfl (Nt (Cq (Cs ?_))))
 refine Kq rfl (lda rfl rfl .tc u30 rfl ?_) ?_
 ·kernel_rfl
 refine Ku rfl (Oc rfl rfl (Kv fun w hS => iF (p := p) (by assumption) (by (exact bn hD hS)))) ?_
 refine Ka rfl (Nt (Cs (Km rfl (Yj rfl (Nt ?_)))))
 refine Cd rfl (fun hc20 => ?_) (fun hc20 => ?_)
 ·(try simp only [sB] at hc20)
  have hr : wiS p sg v ms d = ([], cx p) := by rw [wiS, if_pos (by simpa using hc20)]
  refine Cs (Km rfl (Ka rfl (Ka rfl (Nt (Ce (Xb ?_))))))
  exact WX.retM0 rfl (.tmp rfl (.tmp rfl .nil)) fun w' hS => ⟨⟨none, 0, []⟩, by rw [hr]; rfl, trivial, hS.below, by rw [hr]; exact Fc bt Fn⟩
 ·(try simp only [sB] at hc20)
  have h0 : cx p = 0 := by simpa using hc20
  refine Ck (Xa (Cq ?_))
  refine WC.joinP (σ := Unit) [(4, _), (5, _), (6, _), (7, _), (8, _), (10, _), (11, _)] (fun gq => [(40, .bool (decide (¬ ((okN sg.a ∧ okN sg.e ∧ okN sg.v) ∧ okZ v ∧ rJ ms))))]) (fun gq => True) (S7 rfl rfl rfl rfl rfl rfl rfl) ?_ ?_
  ·skip
   refine Cg (Kq rfl (Fa (q := 0) rfl rfl u35 rfl rfl) (Kq rfl (Ld rfl rfl .tc u22) ?_))
   refine Kq rfl (Fa (q := 1) rfl rfl u35 rfl rfl) (Kq rfl (Ld rfl rfl .tc u22) ?_)
   refine Kq rfl (Fa (q := 2) rfl rfl u35 rfl rfl) (Kq rfl (Ld rfl rfl .tc u22) ?_)
   refine Kh rfl (aR rfl rfl u31 (by kernel_rfl : _ = some (some (.string (S [])), 1, 16)) rfl (by simp only [List.map]; rfl) rfl rfl ?_ (by decide)) ?_
   ·simp [Value.cells]
   intro b28
   refine Ku rfl (Oc rfl rfl (Kv fun w hS => gS (l := [sg.a, sg.e, sg.v]) (by (exact hS.os)) (by (simp <;> omega)))) ?_
   refine Ns 29 rfl (v' := .bool (decide (okN sg.a ∧ okN sg.e ∧ okN sg.v))) (congrArg Value.bool (by exact decide_eq_decide.2 (by simp))) ?_
   refine Yt rfl (Km rfl ?_)
   refine Nb 31 rfl (fun hg31 => ?_) (fun hg31 => ?_)
   ·(try simp only [sB] at hg31)
    refine Kt rfl (Kt rfl (Kt rfl (Yp rfl (Km rfl (Kt rfl (Kt rfl (Kt rfl (Yp rfl (Nn ?_)))))))))
    refine WX.joinP (()) (S7 rfl rfl rfl rfl rfl rfl rfl) (by refine (Sc ?_ (S0 _)) <;> ((refine ai rfl ?_; (try dsimp only); (simp [*]; done)))) ?_ (by (exact aq))
    (try dsimp only)
    done
   ·(try simp only [sB] at hg31)
    refine Kq rfl (lda rfl rfl .tc u37 rfl ?_) ?_
    ·kernel_rfl
    refine Ku rfl (Oc rfl rfl (Kv fun w hS => dJ (x := v))) ?_
    refine Yt rfl (Yq rfl (Km rfl ?_))
    refine Nb 36 rfl (fun hg36 => ?_) (fun hg36 => ?_)
    ·(try simp only [sB] at hg36)
     refine Kt rfl (Kt rfl (Kt rfl (Yp rfl (Nn ?_))))
     refine WX.joinP (()) (S7 rfl rfl rfl rfl rfl rfl rfl) (by refine (Sc ?_ (S0 _)) <;> ((refine ai rfl ?_; (try dsimp only); (simp [*]; done)))) ?_ (by (exact aq))
     (try dsimp only)
     done
    ·(try simp only [sB] at hg36)
     refine Kq rfl (Ld rfl rfl .tc u31) ?_
     refine Ku rfl (Oc rfl rfl (Kv fun w hS => gS (l := ms) (by (exact hS.sl)) (by assumption))) ?_
     refine Ns 38 rfl (v' := .bool (decide (rJ ms))) (congrArg Value.bool (by rfl)) ?_
     refine Yt rfl (Yq rfl (Nn ?_))
     refine WX.joinP (()) (S7 rfl rfl rfl rfl rfl rfl rfl) (by refine (Sc ?_ (S0 _)) <;> ((refine ai rfl ?_; (try dsimp only); (simp [*]; done)))) ?_ (by (exact aq))
     (try dsimp only)
     done
  ·rintro _ hmeet; (try dsimp only at hmeet ⊢)
   refine Cd rfl (fun hc40 => ?_) (fun hc40 => ?_)
   ·(try simp only [sB] at hc40)
    have hr : wiS p sg v ms d = ([], 3) := by rw [wiS, if_neg (fun h => h h0), if_pos (show ¬ ((okN sg.a ∧ okN sg.e ∧ okN sg.v) ∧ okZ v ∧ ∀ x ∈ ms, okN x) from hc40)]
    refine Cs (Ka rfl (Ka rfl (Nt (Ce (Xb ?_)))))
    exact WX.retM0 rfl (.tmp rfl (.tmp rfl .nil)) fun w' hS => ⟨⟨none, 0, []⟩, by rw [hr]; rfl, trivial, hS.below, by rw [hr]; exact Fc bt Fn⟩
   ·(try simp only [sB] at hc40)
    have hok := Decidable.not_not.1 hc40
    refine Ck (Xa (Cq ?_))
    refine WC.joinP (σ := Unit) [(4, _), (5, _), (6, _), (7, _), (8, _), (10, _), (11, _)] (fun gq => [(48, .bool (decide (ms.length < 2 ∨ 18 < ms.length)))]) (fun gq => True) (S7 rfl rfl rfl rfl rfl rfl rfl) ?_ ?_
    ·skip
     refine Cg (Kq rfl (Ld rfl rfl .tc u31) ?_)
     refine Yo rfl u31 (Yl rfl (Km rfl ?_))
     refine Nb 44 rfl (fun hg44 => ?_) (fun hg44 => ?_)
     ·(try simp only [sB] at hg44)
      refine Kt rfl (Kt rfl (Kt rfl (Yp rfl (Nn ?_))))
      refine WX.joinP (()) (S7 rfl rfl rfl rfl rfl rfl rfl) (by refine (Sc ?_ (S0 _)) <;> ((exact congrArg (fun b => some (Value.bool b)) (by symm; apply decide_eq_true; omega)))) ?_ (by (exact fun _ h => h))
      (try dsimp only)
      done
     ·(try simp only [sB] at hg44)
      refine Kq rfl (Ld rfl rfl .tc u31) ?_
      refine Yo rfl u31 (Yg rfl (Yq rfl (Nn ?_)))
      refine WX.joinP (()) (S7 rfl rfl rfl rfl rfl rfl rfl) (by refine (Sc ?_ (S0 _)) <;> ((refine ai rfl ?_; (try dsimp only); (exact decide_eq_decide.2 (by omega))))) ?_ (by (exact fun _ h => h))
      (try dsimp only)
      done
    ·rintro _ hmeet; (try dsimp only at hmeet ⊢)
     refine Cd rfl (fun hc48 => ?_) (fun hc48 => ?_)
     ·(try simp only [sB] at hc48)
      have hr : wiS p sg v ms d = ([], 6) := by rw [wiS, if_neg (fun h => h h0), if_neg (fun h => h hok), if_pos hc48]
      refine Cs (Ka rfl (Ka rfl (Nt (Ce (Xb ?_)))))
      exact WX.retM0 rfl (.tmp rfl (.tmp rfl .nil)) fun w' hS => ⟨⟨none, 0, []⟩, by rw [hr]; rfl, trivial, hS.below, by rw [hr]; exact Fc bt Fn⟩
     ·(try simp only [sB] at hc48)
      refine Ck (Xa (Cq (Cs (Km rfl (Kq rfl (Ld rfl rfl .tc u31) ?_)))))
      refine Yo rfl u31 ?_
      refine Ku rfl (Oc rfl rfl (Kv fun w hS => o9 (l := d) (n := (ms.length : Int)) (by (exact hS.sl)) (by assumption))) ?_
      refine Yt rfl (Nt ?_)
      refine Cd rfl (fun hc53 => ?_) (fun hc53 => ?_)
      ·(try simp only [sB] at hc53)
       have hasc : cz 1 d ms.length = false := by simpa using hc53
       have hr : wiS p sg v ms d = ([], 2) := by rw [wiS, if_neg (fun h => h h0), if_neg (fun h => h hok), if_neg hc48, if_pos hasc]
       refine Cs (Ka rfl (Ka rfl (Nt (Ce (Xb ?_)))))
       exact WX.retM0 rfl (.tmp rfl (.tmp rfl .nil)) fun w' hS => ⟨⟨none, 0, []⟩, by rw [hr]; rfl, trivial, hS.below, by rw [hr]; exact Fc bt Fn⟩
      ·(try simp only [sB] at hc53)
       have hasc : cz 1 d ms.length = true := by simpa using hc53
       have hr : wiS p sg v ms d = (wlS p sg v ms (aM d ms.length), 0) := by rw [wiS, if_neg (fun h => h h0), if_neg (fun h => h hok), if_neg hc48, if_neg (by rw [hasc]; decide)]
       have hit := pJ (l := aM d ms.length) []
       rw [List.nil_append] at hit
       have hm18 : ms.length ≤ 18 := by omega
       refine Ck (Xa (Cq ?_))
       refine WC.free (K := [⟨some b6, [.string (S sg.a), .string (S sg.e), .string (S sg.v)], 35⟩, ⟨some b5, prC p, 30⟩]) (fs0 := []) [0, 1, 2, 3, 4, 5, 6, 7, 8, 10, 11, 9, 12] [] [0, 0, 1, 0, 0, 1, 1, 0, 0, 0, 3, 1, 0] (by kernel_rfl) (by kernel_rfl) rfl ?_
       refine Kj rfl (Fa (q := 1) rfl rfl u35 rfl rfl) (Kj rfl (Ld rfl rfl .tc u22) ?_)
       refine Jv rfl rfl rfl rfl rfl (fun ext => Oc rfl rfl (Kv fun w hS => cC (a := sg.e))) ?_
       refine Kj rfl (Fa (q := 13) rfl rfl u30 rfl rfl) (Kj rfl (Ld rfl rfl .tc u22) ?_)
       refine Jv rfl rfl rfl rfl rfl (fun ext => Oc rfl rfl (Kv fun w hS => cC (a := p.lo))) ?_
       refine Jv rfl rfl rfl rfl rfl (fun ext => Oc rfl rfl (Kv fun w hS => lJ (x := aF sg.e) (y := aF p.lo))) ?_
       refine Kj rfl (Rm rfl rfl) (Kj rfl (Re rfl rfl rfl) ?_)
       refine Jf rfl rfl rfl rfl rfl (du rfl (v := (.agg #[.bool false, .string (S [])])) (cs := [.bool false, .string (S [])]) (by kernel_rfl) rfl) ?_
       intro b13
       refine WJ.st rfl rfl rfl rfl (lS rfl rfl rfl ?_ ?_ ?_) ?_
       ·kernel_rfl
       ·simp [Value.oneCell']
       ·rfl
       refine Kj rfl (Re rfl rfl rfl) (Kj rfl (Ra rfl rfl) ?_)
       refine WJ.nil ?_
       refine Nt (Cs ?_)
       refine Kq rfl (lda rfl rfl .tc u37 rfl ?_) ?_
       ·kernel_rfl
       refine Kq rfl (lda rfl rfl .tc u37 rfl ?_) ?_
       ·kernel_rfl
       refine Kh rfl (fE rfl rfl u39 (by kernel_rfl : _ = some (some (.agg #[.bool false, .string (S [])]), 2, 24)) (by kernel_rfl) (by decide) rfl rfl (by (simp [Value.cells]; done)) (by (simp only [List.map, Value.cells, List.flatMap_cons, List.flatMap_nil, List.append_nil, List.toList_toArray]; rfl)) (by decide)) ?_
       intro b66
       refine Kh rfl (Oa rfl (v := (.slice none 0 0)) (cs := [.slice none 0 0]) (by kernel_rfl) rfl) ?_
       intro b15
       refine Ng rfl rfl (st rfl rfl rfl .tc (by kernel_rfl) rfl ?_ (by (simp only [List.set_cons_zero, List.set_cons_succ]; rfl))) ?_
       ·decide
       intro _
       refine Nt (Cq (Cs (Km rfl (Kq rfl (Ld rfl rfl .tc u31) ?_))))
       refine Yo rfl u31 ?_
       refine Kh rfl (Oc rfl rfl (fun w hS => nx (a := b) (m := d.length) (c := e) (n := ms.length) hS)) ?_
       intro g70
       refine Nt (Cb ?_)
       refine WC.range (CO := WCO p sg v ms d am b c e b8 b15 g70.1 g70.2) (pg := fun l g => g.2.1 * 2 = (wlS p sg v ms l).length * 2 + g.2.2.length) (inv := fun l x => ∃ r, l ++ x :: r = aM d ms.length) (after := fun l x => l ++ [x]) (stop := fun _ _ => none) (enc := fun y : Nat => #[Value.int .i64 (y : Int)]) (([] : List Nat)) ((some b66, 2, [])) ((itL (fun (l : List Nat) x => l ++ [x]) (fun _ _ => (none : Option Code)) (aM d ms.length) []).1) ((itL (fun (l : List Nat) x => l ++ [x]) (fun _ _ => (none : Option Code)) (aM d ms.length) []).2) (rfl) rfl (by kernel_rfl) (fun _ => rfl) (by exact fun w h => by show St _ _ [⟨some g70.2, _, _⟩, ⟨some g70.1, _, _⟩, ⟨some b15, [.slice (some ⟨b66, 0, none⟩) 2 2], _⟩, ⟨some b66, aW (wlS p sg v ms []) ++ [], _⟩, ⟨some b8, _, _⟩] _ _; rw [oX]; exact aq _ h) ?_ (fun l r D w hl' hY hS => wM (J := fun l s => s ++ l = aM d ms.length) (d := d) (a := b) (c := e) (n := ms.length) hY hS rfl (List.nil_append _) (fun l x s h => ⟨⟨l, h⟩, fun _ => by rw [List.append_assoc]; exact h⟩) hasc hdl hml) ?_ ?_
       ·intro l r D f a s g x ext wr hl hi hpg hF hS
        obtain ⟨rr, hrr⟩ := hi
        obtain ⟨hxn, hsn⟩ := pM hrr
        rw [pO]
        refine ep (Fr.tm (hF.put (d := 71) rfl _)) hS ?_
        refine WR.region (by kernel_rfl) ?_
        refine Ka rfl (Nn ?_)
        refine WX.begin hl ?_
        refine Cb ?_
        refine WR.free (K := [⟨some b15, [.slice (g.1.map fun b => ⟨b, 0, none⟩) (wlS p sg v ms s).length g.2.1], 39⟩, ⟨some b8, [.slice am ms.length c], 31⟩]) (fs0 := [Fact.sl am (ao ms)]) (by kernel_rfl) [1, 2, 3, 4, 5, 0, 6, 7] [8] [0, 0, 0, 0, 0, 1, 3, 1, 2] (by kernel_rfl) (by kernel_rfl) rfl ?_
        refine Kj rfl (Ld rfl rfl .tc u31) ?_
        refine Kj rfl (Rm rfl rfl) ?_
        refine Kj rfl (Ib rfl rfl rfl u31 (by omega) (by (rw [List.length_map]; omega))) ?_
        refine Kj rfl (ldm rfl rfl u22 rfl (by assumption)) ?_
        refine Jv rfl rfl rfl rfl rfl (fun ext => Oc rfl rfl (Kv fun w hS => cC (a := ms.getD x default))) ?_
        refine Kj rfl (Ld rfl rfl .tc u39) ?_
        refine Jf rfl rfl rfl rfl rfl (iL rfl rfl u39 (by kernel_rfl : _ = some (some (.agg #[.bool false, .string (S [])]), 2, 24)) (by kernel_rfl) (by decide) rfl rfl (by (simp [Value.cells]; done)) (by (exact cu _)) (by decide)) ?_
        intro b78
        refine Jg rfl rfl rfl rfl rfl (mP rfl u39 (by kernel_rfl : _ = some (some (.agg #[.bool false, .string (S [])]), 2, 24)) (by kernel_rfl) (by decide) .tc rfl rfl (fun ext w hS => by (exact hS.os)) (by rfl) (by (refine ⟨?_, ?_, ?_, ?_⟩ <;> first | omega | (rw [aj _ _ 2 (fun _ => rfl)]; done) | ((try simp) <;> omega))) (by (simp [Value.oneCell']; done))) ?_
        rintro ⟨o79, c79, s79⟩ hg79; (try dsimp only at hg79 ⊢)
        refine WJ.nil ?_
        refine Ng rfl rfl (st rfl rfl rfl .tc (by kernel_rfl) rfl ?_ (by (simp only [List.set_cons_zero, List.set_cons_succ]; rfl))) ?_
        ·(simp; done)
        intro _
        refine Nn (Xd ?_)
        exact WX.rnext hl fun w' hS => by
         have e1 : (wlS p sg v ms (s ++ [x])).length = (wlS p sg v ms s).length + 1 := by rw [lP, List.length_append]; rfl
         have e2 : aW (wlS p sg v ms (s ++ [x])) = aW (wlS p sg v ms s) ++ zc (aF (ms.getD x default)) := by rw [lP, nu]
         refine ⟨rfl, (o79, c79, s79), fun _ => ?_, ?_⟩
         ·dsimp only; rw [e1]; exact hg79
         ·show St _ _ (ext ++ [⟨_, _, _⟩, ⟨_, _, _⟩, ⟨some b15, [.slice _ (wlS p sg v ms (s ++ [x])).length _], _⟩, ⟨_, aW (wlS p sg v ms (s ++ [x])) ++ s79, _⟩, ⟨_, _, _⟩]) _ _
          rw [e1, e2]
          exact hS.sub (List.sublist_cons_self _ _) (fun _ h => h)
       ·intro D1 g1 hD1 hg1 hcf
        rw [hit]
        obtain ⟨o1, cp1, sp1⟩ := g1
        dsimp only [WCO]
        refine Xd (Xa (Cs (Kq rfl (Ld rfl rfl .tc u39) ?_)))
        refine Ka rfl (Ka rfl (Nt (Ce ?_)))
        exact WX.retM1 hD1 rfl (.tmp rfl (.tmp rfl .nil)) fun w' hS => ⟨⟨o1, cp1, sp1⟩, by rw [hr]; rfl, trivial, hS.below, by rw [hr]; exact Fc hS.ocf Fn⟩
       ·intro D1 g1 c hD1 hcf
        (rw [hit] at hcf; cases hcf)
theorem xO {x y : Zs} (hx : okZ x) (hy : okZ y) : (dO x y).2 = 0 ∨ (dO x y).2 = 5 := by
 rw [dO, if_pos ⟨hx, hy⟩]
 simp only
 rw [bH, if_pos ⟨hx.1, hy.1⟩]
 split
 ·exact .inl rfl
 ·exact .inr rfl
theorem w9 {x y : Zs} (hx : okZ x) (hy : okZ y) : (cO x y).2 = 0 ∨ (cO x y).2 = 5 := by
 obtain ⟨a, ha, rfl⟩ := js.1 hx
 obtain ⟨b, hb, rfl⟩ := js.1 hy
 rw [o3 ha hb]; split
 ·exact .inl rfl
 ·exact .inr rfl
theorem uc {t : Tp} {n : Bs} (h : (aI t n).2.2 = 0) : eD t := by
 unfold aI at h; split at h
 ·rename_i h1; exact absurd h h1
 ·rename_i h1; exact (nc (Decidable.not_not.1 h1)).1
theorem et {w w' : World} {own : List Ent} {T : TypeId} {fs : List Fact} {ok : Nat → Prop} (h : St ok w own fs w') : St ok w [⟨none, [] ++ [], T⟩] [] w' := (h.nil T).sub (List.Sublist.cons_cons _ (List.nil_sublist _)) (fun _ h => by cases h)
abbrev rnV (r : (Bs × Zs × Tp) × Int) (g : Rs) : Value := .tuple #[.string (S r.1.1), zV r.1.2.1, r.1.2.2.v (g.val r.1.2.2.vals.length), .int .i64 r.2]
abbrev rzM (p : PR) (s : SG) (t : Tp) : Zs × Int := dO (aF s.e) (aF (aI t p.msk).1)
abbrev rzV (p : PR) (s : SG) (t : Tp) : Zs × Int := cO (aF s.v) (rzM p s t).1
theorem uL {p : PR} {k : IK} {s : SG} {t : Tp} {a b : Option Addr} {c d : Nat} {w : World} {ok : Nat → Prop} (hF1 : (Fact.sl a (ao k.r)).holds ok w) (hF2 : (Fact.sl b (ao t.vals)).holds ok w) (hm8 : p.mn.1.1.length ≤ 8) (hk8 : k.g.1.length ≤ 8) (hkl : k.r.length ≤ 100000) (hnl : k.name.length ≤ 140737488351232) (hl : t.vals.length ≤ 100000) (hsd : t.seed.length ≤ 400000) (hT : Tab w) (hD : TabD w) :
  Calls Tryz.prog 13 #[prV p, ikV k (.slice a k.r.length c), sgV s, t.v (.slice b t.vals.length d)] w fun e w' => ∃ g : Rs, e = .returned (rnV (fg p k s t) g) ∧ g.cap = (fg p k s t).1.2.2.vals.length + g.sp.length ∧ St (fun _ => True) w [g.ent (ao (fg p k s t).1.2.2.vals) 22] [] w' := by
 refine En [Fact.sl a (ao k.r), Fact.sl b (ao t.vals)] [(0, prV p), (1, ikV k (.slice a k.r.length c)), (2, sgV s), (3, t.v (.slice b t.vals.length d))] Tryz.func13 rfl Tryz.ntmps13 rfl (Ac rfl (Ac rfl (Ac rfl (Ac rfl (An _))))) (Fc (ah hF1) (Fc (ah hF2) Fn)) ?_
 refine Cs ?_
 refine Kh rfl (Oy rfl rfl) ?_
 intro b4
 refine Kh rfl (Oy rfl rfl) ?_
 intro b5
 refine Kh rfl (Oy rfl rfl) ?_
 intro b6
 refine Kh rfl (Oy rfl rfl) ?_
 intro b7
 refine Ka rfl ?_
 refine Kh rfl (Oz [.bool false, .string (S [])] rfl) ?_
 intro b9
 refine Kh rfl (Oz [.slice none 0 0, .string (S []), .int .i64 0] rfl) ?_
 intro b10
 refine Ka rfl (Nt (Cs ?_))
 refine Kq rfl (lda rfl rfl .tc u30 rfl ?_) ?_
 ·kernel_rfl
 refine Kq rfl (lda rfl rfl .tc u33 rfl ?_) ?_
 ·kernel_rfl
 refine Ku rfl (Oc rfl rfl (Kv fun w hS => o6 (p := p) (k := k) (by (exact hS.sl)) (by assumption) (by assumption) (by omega) (by assumption) (by (exact bn hD hS)))) ?_
 refine Km rfl (Ye rfl (Ye rfl ?_))
 refine Kh rfl (Oz [.string (S []), .string (S []), .string (S []), .string (S []), .string (S []), .string (S []), .string (S []), .string (S []), .string (S []), .string (S []), .string (S []), .string (S []), .string (S []), .string (S []), .string (S []), .string (S []), .string (S []), .string (S []), .string (S []), .string (S []), .string (S []), .string (S []), .slice none 0 0, .string (S []), .string (S [])] rfl) ?_
 intro b12
 refine Nu rfl rfl (Sa rfl rfl rfl .tc) ?_
 refine Ka rfl (Nt (Cq (Cs (Km rfl (Yj rfl (Nt ?_))))))
 refine Cd rfl (fun hc26 => ?_) (fun hc26 => ?_)
 ·(try simp only [sB] at hc26)
  have hr : fg p k s t = (([], (false, []), cS), dQ p k) := by rw [fg, if_pos (by simpa using hc26)]
  refine Cs (Kq rfl (Kb [[.bool false], [.string (S [])]] rfl rfl) (Kq rfl (Kb [[.slice none 0 0], [.string (S [])], [.int .i64 0]] rfl rfl) (Km rfl (Ka rfl ?_))))
  refine Nu rfl rfl (Sa rfl rfl rfl .tc) ?_
  refine Nu rfl rfl (Sa rfl rfl rfl .tc) ?_
  refine Ka rfl (Nt (Ce (Xb ?_)))
  exact Rn rfl (.tmp rfl (.agg rfl .tc u37 rfl (by kernel_rfl) (.agg rfl .tc u41 rfl (by kernel_rfl) (.tmp rfl .nil)))) fun w' hS => ⟨⟨none, 0, []⟩, by rw [hr]; rfl, by rw [hr]; rfl, by rw [hr]; exact et hS⟩
 ·(try simp only [sB] at hc26)
  have h0 : dQ p k = 0 := by simpa using hc26
  have hg : bP k.g = 0 := (dE h0).2.2.2.2.1
  have hks : elG k.g k.s := (dE h0).2.2.2.2.2.2.2 _ (by simp)
  refine Ck (Xa (Cq (Cs (Kq rfl (Fa (q := 0) rfl rfl u35 rfl rfl) (Kq rfl (Ld rfl rfl .tc u22) ?_)))))
  refine Kq rfl (Fa (q := 1) rfl rfl u35 rfl rfl) (Kq rfl (Ld rfl rfl .tc u22) ?_)
  refine Kq rfl (Fa (q := 2) rfl rfl u35 rfl rfl) (Kq rfl (Ld rfl rfl .tc u22) ?_)
  refine Kh rfl (aR rfl rfl u31 (by kernel_rfl : _ = some (some (.string (S [])), 1, 16)) rfl (by simp only [List.map]; rfl) rfl rfl ?_ (by decide)) ?_
  ·simp [Value.cells]
  intro b36
  refine Ku rfl (Oc rfl rfl (Kv fun w hS => gS (l := [s.a, s.e, s.v]) (by (exact hS.os)) (by (simp <;> omega)))) ?_
  refine Ns 37 rfl (v' := .bool (decide (okN s.a ∧ okN s.e ∧ okN s.v))) (congrArg Value.bool (by exact decide_eq_decide.2 (by simp))) ?_
  refine Yt rfl (Nt ?_)
  refine Cd rfl (fun hc38 => ?_) (fun hc38 => ?_)
  ·(try simp only [sB] at hc38)
   have hn : ¬ (okN s.a ∧ okN s.e ∧ okN s.v) := by simpa using hc38
   have hr : fg p k s t = (([], (false, []), cS), 3) := by rw [fg, if_neg (fun h => h h0), if_pos hn]
   refine Cs (Kq rfl (Kb [[.bool false], [.string (S [])]] rfl rfl) (Kq rfl (Kb [[.slice none 0 0], [.string (S [])], [.int .i64 0]] rfl rfl) (Ka rfl ?_)))
   refine Nu rfl rfl (Sa rfl rfl rfl .tc) ?_
   refine Nu rfl rfl (Sa rfl rfl rfl .tc) ?_
   refine Ka rfl (Nt (Ce (Xb ?_)))
   exact Rn rfl (.tmp rfl (.agg rfl .tc u37 rfl (by kernel_rfl) (.agg rfl .tc u41 rfl (by kernel_rfl) (.tmp rfl .nil)))) fun w' hS => ⟨⟨none, 0, []⟩, by rw [hr]; rfl, by rw [hr]; rfl, by rw [hr]; exact et hS⟩
  ·(try simp only [sB] at hc38)
   have hok : okN s.a ∧ okN s.e ∧ okN s.v := by simpa using hc38
   refine Ck (Xa (Cq (Cs (Kq rfl (Fa (q := 1) rfl rfl u33 rfl rfl) ?_))))
   refine Kq rfl (ldp rfl rfl .tc u26 rfl (by kernel_rfl : _ = some 2) (by rfl) (by rfl)) ?_
   refine Kq rfl (Fa (q := 0) rfl rfl u35 rfl rfl) (Kq rfl (Ld rfl rfl .tc u22) ?_)
   refine Ku rfl (Oc rfl rfl (Kv fun w hS => gZ (g := k.g) (x := s.a) (by assumption))) ?_
   refine Ns 45 rfl (v' := .bool (decide (elG k.g s.a))) (congrArg Value.bool (by simp [hg])) ?_
   refine Yt rfl (Nt ?_)
   refine Cd rfl (fun hc46 => ?_) (fun hc46 => ?_)
   ·(try simp only [sB] at hc46)
    have hn : ¬ elG k.g s.a := by simpa using hc46
    have hr : fg p k s t = (([], (false, []), cS), 13) := by rw [fg, if_neg (fun h => h h0), if_neg (fun h => h hok), if_pos hn]
    refine Cs (Kq rfl (Kb [[.bool false], [.string (S [])]] rfl rfl) (Kq rfl (Kb [[.slice none 0 0], [.string (S [])], [.int .i64 0]] rfl rfl) (Ka rfl ?_)))
    refine Nu rfl rfl (Sa rfl rfl rfl .tc) ?_
    refine Nu rfl rfl (Sa rfl rfl rfl .tc) ?_
    refine Ka rfl (Nt (Ce (Xb ?_)))
    exact Rn rfl (.tmp rfl (.agg rfl .tc u37 rfl (by kernel_rfl) (.agg rfl .tc u41 rfl (by kernel_rfl) (.tmp rfl .nil)))) fun w' hS => ⟨⟨none, 0, []⟩, by rw [hr]; rfl, by rw [hr]; rfl, by rw [hr]; exact et hS⟩
   ·(try simp only [sB] at hc46)
    have hel : elG k.g s.a := by simpa using hc46
    refine Ck (Xa (Cs ?_))
    refine Kq rfl (lda rfl rfl .tc u41 rfl ?_) ?_
    ·kernel_rfl
    refine Kq rfl (Fa (q := 0) rfl rfl u99 rfl rfl) (Kq rfl (Fa (q := 0) rfl rfl u97 rfl rfl) (Kq rfl (Fa (q := 16) rfl rfl u30 rfl rfl) (Kq rfl (Ld rfl rfl .tc u22) ?_)))
    refine Kh rfl (Oc rfl rfl (pI fun w hS => wD (t := t) (n := p.msk) (by (exact hS.sl)) (by assumption) (by assumption) (by (exact eP hT hS)))) ?_
    intro g55
    refine WL.pu ?_
    intro hg55; (try dsimp only at hg55 ⊢)
    refine Km rfl (Ye rfl (Ye rfl (Ye rfl ?_)))
    refine Kh rfl (Oz [.slice none 0 0, .string (S []), .int .i64 0] rfl) ?_
    intro b15
    refine Ka rfl ?_
    refine Nu rfl rfl (Sa rfl rfl rfl .tc) ?_
    refine Ka rfl (Nt (Cq (Cs (Km rfl (Yj rfl (Nt ?_))))))
    refine Cd rfl (fun hc60 => ?_) (fun hc60 => ?_)
    ·(try simp only [sB] at hc60)
     have hr : fg p k s t = (([], (false, []), cS), (aI t p.msk).2.2) := by rw [fg, if_neg (fun h => h h0), if_neg (fun h => h hok), if_neg (fun h => h hel), if_pos (by simpa using hc60)]
     refine Cs (Kq rfl (Kb [[.bool false], [.string (S [])]] rfl rfl) (Kq rfl (Kb [[.slice none 0 0], [.string (S [])], [.int .i64 0]] rfl rfl) (Km rfl (Ka rfl ?_))))
     refine Nu rfl rfl (Sa rfl rfl rfl .tc) ?_
     refine Nu rfl rfl (Sa rfl rfl rfl .tc) ?_
     refine Ka rfl (Nt (Ce (Xb ?_)))
     exact Rn rfl (.tmp rfl (.agg rfl .tc u37 rfl (by kernel_rfl) (.agg rfl .tc u41 rfl (by kernel_rfl) (.tmp rfl .nil)))) fun w' hS => ⟨⟨none, 0, []⟩, by rw [hr]; rfl, by rw [hr]; rfl, by rw [hr]; exact et hS⟩
    ·(try simp only [sB] at hc60)
     have hb0 : (aI t p.msk).2.2 = 0 := by simpa using hc60
     have hgt : eD t := uc hb0
     have hbk := ro hb0 hgt ((gk (dE h0).1).1.1 _ (by simp))
     have hzr : okZ (aF (aI t p.msk).1) := by rw [dt hbk.1]; exact ov hbk.1
     have hze : okZ (aF s.e) := by rw [dt hok.2.1]; exact ov hok.2.1
     have hzv : okZ (aF s.v) := by rw [dt hok.2.2]; exact ov hok.2.2
     have hpr := congrArg Prod.snd (qG hg hel hks pr hzr)
     refine Ck (Xa (Cq ?_))
     refine Cf [7, 8, 9, 0, 1, 2, 3, 4, 5, 6, 10, 11, 12, 13, 14, 15, 16] [] [0, 0, 0, 0, 0, 0, 3, 1, 0, 1, 3, 1, 0, 0, 0, 0, 0] (by kernel_rfl) (by kernel_rfl) rfl ?_
     refine Jv rfl rfl rfl rfl rfl (fun ext => Oc rfl rfl (Kv fun w hS => jC (n := 1) (by omega) (by omega))) ?_
     refine Kj rfl (Rm rfl rfl) ?_
     refine Jv rfl rfl rfl rfl rfl (fun ext => Oc rfl rfl (Kv fun w hS => cC (a := (aI t p.msk).1))) ?_
     refine Kj rfl (Fa (q := 1) rfl rfl u33 rfl rfl) ?_
     refine Kj rfl (ldp rfl rfl .tc u26 rfl (by kernel_rfl : _ = some 2) (by rfl) (by rfl)) ?_
     refine Kj rfl (Fa (q := 0) rfl rfl u35 rfl rfl) (Kj rfl (Ld rfl rfl .tc u22) ?_)
     refine Kj rfl (Fa (q := 4) rfl rfl u33 rfl rfl) (Kj rfl (Ld rfl rfl .tc u22) ?_)
     refine Jf rfl rfl rfl rfl rfl (kp rfl rfl u31 (by kernel_rfl : _ = some (some (.string (S [])), 1, 16)) rfl (by simp only [List.map]; rfl) rfl rfl ?_ (by decide)) ?_
     ·simp [Value.cells]
     intro b71
     refine Jf rfl rfl rfl rfl rfl (iL rfl rfl u39 (by kernel_rfl : _ = some (some (.agg #[.bool false, .string (S [])]), 2, 24)) (by kernel_rfl) (by decide) rfl rfl (by (simp [Value.cells]; done)) (by (simp only [List.map, Value.cells, List.flatMap_cons, List.flatMap_nil, List.append_nil, List.toList_toArray]; rfl)) (by decide)) ?_
     intro b75
     refine Jv rfl rfl rfl rfl rfl (fun ext => Oc rfl rfl (Kv fun w hS => gG (g := k.g) (l := [s.a, k.s]) (es := [ofZ 1, aF (aI t p.msk).1]) (by (exact hS.os)) (by (exact hS.os)) (by (simp <;> omega)) (by (simp <;> omega)) (by assumption))) ?_
     refine Kj rfl (Rm rfl rfl) (Kj rfl (Re rfl rfl rfl) (Kj rfl (Re rfl rfl rfl) (Kj rfl (Ra rfl rfl) (Kj rfl (Ra rfl rfl) ?_))))
     refine WJ.nil ?_
     refine Nt (Cq (Cs (Km rfl (Yj rfl (Nt ?_)))))
     refine Cd rfl (fun hc80 => ?_) (fun hc80 => ?_)
     ·(try simp only [sB] at hc80)
      exact absurd hpr hc80 -- done
     ·(try simp only [sB] at hc80)
      refine Ck (Xa (Cs (Kq rfl (Fa (q := 1) rfl rfl u35 rfl rfl) (Kq rfl (Ld rfl rfl .tc u22) ?_))))
      refine Ku rfl (Oc rfl rfl (Kv fun w hS => cC (a := s.e))) ?_
      refine Km rfl ?_
      refine Ku rfl (Oc rfl rfl (Kv fun w hS => cC (a := (aI t p.msk).1))) ?_
      refine Ku rfl (Oc rfl rfl (Kv fun w hS => nR (x := aF s.e) (y := aF (aI t p.msk).1))) ?_
      refine Km rfl (Ye rfl (Ye rfl ?_))
      refine Kh rfl (Oz [.bool false, .string (S [])] rfl) ?_
      intro b17
      refine Nu rfl rfl (Sa rfl rfl rfl .tc) ?_
      refine Ka rfl (Nt (Cq (Cs (Km rfl (Yj rfl (Nt ?_))))))
      refine Cd rfl (fun hc94 => ?_) (fun hc94 => ?_)
      ·(try simp only [sB] at hc94)
       have hm0 : (rzM p s t).2 ≠ 0 := by simpa using hc94
       have hm5 : (rzM p s t).2 = 5 := (xO hze hzr).resolve_left hm0
       have hr : fg p k s t = (([], (false, []), cS), 5) := by rw [fg, if_neg (fun h => h h0), if_neg (fun h => h hok), if_neg (fun h => h hel), if_neg (fun h => h hb0), if_pos (Or.inl hm0)]
       refine Cs (Kq rfl (Kb [[.bool false], [.string (S [])]] rfl rfl) (Kq rfl (Kb [[.slice none 0 0], [.string (S [])], [.int .i64 0]] rfl rfl) (Km rfl (Ka rfl ?_))))
       refine Nu rfl rfl (Sa rfl rfl rfl .tc) ?_
       refine Nu rfl rfl (Sa rfl rfl rfl .tc) ?_
       refine Ka rfl (Nt (Ce (Xb ?_)))
       exact Rn rfl (.tmp rfl (.agg rfl .tc u37 rfl (by kernel_rfl) (.agg rfl .tc u41 rfl (by kernel_rfl) (.tmp rfl .nil)))) fun w' hS => ⟨⟨none, 0, []⟩, by rw [hr, show (dO (aF s.e) (aF (aI t p.msk).1)).2 = 5 from hm5]; rfl, by rw [hr]; rfl, by rw [hr]; exact et hS⟩
      ·(try simp only [sB] at hc94)
       have hm0 : (rzM p s t).2 = 0 := by simpa using hc94
       have hmz : okZ (rzM p s t).1 := by rw [(pE hze hzr hm0).1]; exact cI.2 (pE hze hzr hm0).2
       refine Ck (Xa (Cq ?_))
       refine WC.free (K := [⟨some b17, [.bool (rzM p s t).1.1, .string (S (rzM p s t).1.2)], 37⟩, ⟨some b6, [.string (S s.a), .string (S s.e), .string (S s.v)], 35⟩]) (fs0 := []) [0, 1, 2, 3, 4, 5, 6, 8, 9, 7, 10] [] [0, 0, 1, 0, 1, 0, 0, 0, 3, 1, 0] (by kernel_rfl) (by kernel_rfl) rfl ?_
       refine Kj rfl (Fa (q := 2) rfl rfl u35 rfl rfl) (Kj rfl (Ld rfl rfl .tc u22) ?_)
       refine Jv rfl rfl rfl rfl rfl (fun ext => Oc rfl rfl (Kv fun w hS => cC (a := s.v))) ?_
       refine Kj rfl (lda rfl rfl .tc u37 rfl ?_) ?_
       ·kernel_rfl
       refine Jv rfl rfl rfl rfl rfl (fun ext => Oc rfl rfl (Kv fun w hS => lJ (x := aF s.v) (y := (rzM p s t).1))) ?_
       refine Kj rfl (Rm rfl rfl) (Kj rfl (Re rfl rfl rfl) ?_)
       refine Jf rfl rfl rfl rfl rfl (du rfl (v := (.agg #[.bool false, .string (S [])])) (cs := [.bool false, .string (S [])]) (by kernel_rfl) rfl) ?_
       intro b18
       refine WJ.st rfl rfl rfl rfl (lS rfl rfl rfl ?_ ?_ ?_) ?_
       ·kernel_rfl
       ·simp [Value.oneCell']
       ·rfl
       refine Kj rfl (Re rfl rfl rfl) (Kj rfl (Ra rfl rfl) ?_)
       refine WJ.nil ?_
       refine Nt (Cq (Cs (Km rfl (Yj rfl (Nt ?_)))))
       refine Cd rfl (fun hc107 => ?_) (fun hc107 => ?_)
       ·(try simp only [sB] at hc107)
        have hs0 : (rzV p s t).2 ≠ 0 := by simpa using hc107
        have hs5 : (rzV p s t).2 = 5 := (w9 hzv hmz).resolve_left hs0
        have hr : fg p k s t = (([], (false, []), cS), 5) := by rw [fg, if_neg (fun h => h h0), if_neg (fun h => h hok), if_neg (fun h => h hel), if_neg (fun h => h hb0), if_pos (Or.inr hs0)]
        refine Cs (Kq rfl (Kb [[.bool false], [.string (S [])]] rfl rfl) (Kq rfl (Kb [[.slice none 0 0], [.string (S [])], [.int .i64 0]] rfl rfl) (Km rfl (Ka rfl ?_))))
        refine Nu rfl rfl (Sa rfl rfl rfl .tc) ?_
        refine Nu rfl rfl (Sa rfl rfl rfl .tc) ?_
        refine Ka rfl (Nt (Ce (Xb ?_)))
        exact Rn rfl (.tmp rfl (.agg rfl .tc u37 rfl (by kernel_rfl) (.agg rfl .tc u41 rfl (by kernel_rfl) (.tmp rfl .nil)))) fun w' hS => ⟨⟨none, 0, []⟩, by rw [hr, show (cO (aF s.v) (rzM p s t).1).2 = 5 from hs5]; rfl, by rw [hr]; rfl, by rw [hr]; exact et hS⟩
       ·(try simp only [sB] at hc107)
        have hs0 : (rzV p s t).2 = 0 := by simpa using hc107
        have hr : fg p k s t = (((dn k.g [s.a, k.s] [ofZ 1, aF (aI t p.msk).1]).1, (rzV p s t).1, (aI t p.msk).2.1), 0) := by rw [fg, if_neg (fun h => h h0), if_neg (fun h => h hok), if_neg (fun h => h hel), if_neg (fun h => h hb0), if_neg (fun h => h.elim (fun h => h hm0) (fun h => h hs0))]
        refine Ck (Xa (Cq ?_))
        refine WC.free (K := [⟨some b18, [.bool (rzV p s t).1.1, .string (S (rzV p s t).1.2)], 37⟩, ⟨some b15, [g55.val (aI t p.msk).2.1.vals.length, .string (S (aI t p.msk).2.1.seed), .int .i64 (aI t p.msk).2.1.at_], 41⟩]) (fs0 := []) [0, 1, 3, 4, 2] [5, 6] [0, 0, 0, 0, 1, 2, 2] (by kernel_rfl) (by kernel_rfl) rfl ?_
        refine Kj rfl (Rm rfl rfl) ?_
        refine Kj rfl (lda rfl rfl .tc u37 rfl ?_) ?_
        ·kernel_rfl
        refine Kj rfl (Ra rfl rfl) ?_
        refine WJ.st rfl rfl rfl rfl (lS rfl rfl rfl ?_ ?_ ?_) ?_
        ·kernel_rfl
        ·simp [Value.oneCell']
        ·rfl
        refine Kj rfl (lda rfl rfl .tc u41 rfl ?_) ?_
        ·kernel_rfl
        refine WJ.nil ?_
        refine Nu rfl rfl (Sa rfl rfl rfl .tc) ?_
        refine Ka rfl (Nt (Ce ?_))
        exact Rn rfl (.tmp rfl (.agg rfl .tc u37 rfl (by kernel_rfl) (.agg rfl .tc u41 rfl (by kernel_rfl) (.tmp rfl .nil)))) fun w' hS => ⟨g55, by rw [hr]; rfl, by rw [hr]; exact hg55, by rw [hr]; exact aq _ hS⟩
end Go.Proofs.YtkdlonihbjhhoaaGreatDoor
