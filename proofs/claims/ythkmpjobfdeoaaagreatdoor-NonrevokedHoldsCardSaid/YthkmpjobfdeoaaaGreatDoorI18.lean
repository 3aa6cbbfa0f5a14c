/-
  Parts of the walk: Rpc Rik Siz Siy Siw Lin0 Gpl Hol Lin1.
-/
import Derived.Test.YthkmpjobfdeoaaaGreatDoorI17
namespace Go.Proofs.YthkmpjobfdeoaaaGreatDoor
open Go.RowKit
set_option linter.unusedSimpArgs false
set_option linter.unusedVariables false
set_option maxHeartbeats 600000
set_option maxRecDepth 20000
theorem add_lt {a b : Bs} (ha : okN a) (hb : okN b) (h : val a + val b < Big) : addN a b = (canon (val a + val b), 0) := by rw [addN, if_pos ⟨ha, hb⟩, if_pos h]
theorem add_z {a b : Bs} (ha : okN a) (hb : okN b) (h : (addN a b).2 = 0) : val a + val b < Big := Decidable.byContradiction fun h1 => by
 rw [addN, if_pos ⟨ha, hb⟩, if_neg h1] at h; exact absurd h (by decide)
theorem mul_lt {a b : Bs} (ha : okN a) (hb : okN b) (h : val a * val b < Big) : mulN a b = (canon (val a * val b), 0) := by rw [mulN, if_pos ⟨ha, hb⟩, if_pos h]
theorem mul_z {a b : Bs} (ha : okN a) (hb : okN b) (h : (mulN a b).2 = 0) : val a * val b < Big := Decidable.byContradiction fun h1 => by
 rw [mulN, if_pos ⟨ha, hb⟩, if_neg h1] at h; exact absurd h (by decide)
abbrev sA (p : PR) := addN p.lo p.sz
abbrev sM (p : PR) := mulN (sA p).1 p.msk
abbrev sB2 (p : PR) := addN p.bl p.bl
abbrev sC (p : PR) := addN (sB2 p).1 (sM p).1
abbrev sH (p : PR) := mulN p.han p.msk
def szE (p : PR) : Prop := (sA p).2 = 0 ∧ (sM p).2 = 0 ∧ (sB2 p).2 = 0 ∧ (sC p).2 = 0 ∧ (sH p).2 = 0
instance (p : PR) : Decidable (szE p) := inferInstanceAs (Decidable (_ ∧ _))
theorem szadd_c {p : Nat} {a b : Bs} {er : Int} {rr : List Ent} {ok : Nat → Prop} {w0 : World} {fs : List Fact} {w : World} (hS0 : St ok w0 (⟨some p, [.int .i64 er], 43⟩ :: rr) (fs) w) :
  Calls Tryz.prog 80 #[.string (S a), .string (S b), .pointer (some ⟨p, 0, none⟩)] w fun e w' => e = .returned (.string (S (addN a b).1)) ∧ St ok w0 (⟨some p, [.int .i64 (max er (addN a b).2)], 43⟩ :: rr) (fs) w' := by
 refine enter (S := St ok w0 (⟨some p, [.int .i64 er], 43⟩ :: rr) (fs)) (L := [(0, .string (S a)), (1, .string (S b)), (2, .pointer (some ⟨p, 0, none⟩))]) Tryz.func80 rfl Tryz.ntmps80 rfl (Ac rfl (Ac rfl (Ac rfl (An _)))) hS0 ?_
 refine Cs (Ka rfl (Nt (Cs (Km rfl (Km rfl ?_)))))
 refine Ku rfl (Oc rfl rfl (Kv fun w hS => add_c (a := a) (b := b))) ?_
 refine Km rfl (Kq rfl (Re rfl rfl rfl) (Kq rfl (Re rfl rfl rfl) (Ka rfl (Ka rfl (Nt (Cs (Kq rfl (Ld rfl rfl .tc u43) ?_)))))))
 refine Km rfl (Kq rfl (rd_max2 rfl rfl rfl) ?_)
 refine Ng rfl rfl (st rfl rfl rfl .tc (by kernel_rfl) rfl ?_ (by (simp only [List.set_cons_zero, List.set_cons_succ]; rfl))) ?_
 ·(simp; done)
 intro _
 refine Nt (Cs (Km rfl (Ka rfl (Nt (Ce ?_)))))
 exact Rn rfl (.tmp rfl .nil) fun w' hS => ⟨by rfl, by (exact hS)⟩
theorem szmul_c {p : Nat} {a b : Bs} {er : Int} {rr : List Ent} {ok : Nat → Prop} {w0 : World} {fs : List Fact} {w : World} (hS0 : St ok w0 (⟨some p, [.int .i64 er], 43⟩ :: rr) (fs) w) :
  Calls Tryz.prog 81 #[.string (S a), .string (S b), .pointer (some ⟨p, 0, none⟩)] w fun e w' => e = .returned (.string (S (mulN a b).1)) ∧ St ok w0 (⟨some p, [.int .i64 (max er (mulN a b).2)], 43⟩ :: rr) (fs) w' := by
 refine enter (S := St ok w0 (⟨some p, [.int .i64 er], 43⟩ :: rr) (fs)) (L := [(0, .string (S a)), (1, .string (S b)), (2, .pointer (some ⟨p, 0, none⟩))]) Tryz.func81 rfl Tryz.ntmps81 rfl (Ac rfl (Ac rfl (Ac rfl (An _)))) hS0 ?_
 refine Cs (Ka rfl (Nt (Cs (Km rfl (Km rfl ?_)))))
 refine Ku rfl (Oc rfl rfl (Kv fun w hS => mul_c (a := a) (b := b))) ?_
 refine Km rfl (Kq rfl (Re rfl rfl rfl) (Kq rfl (Re rfl rfl rfl) (Ka rfl (Ka rfl (Nt (Cs (Kq rfl (Ld rfl rfl .tc u43) ?_)))))))
 refine Km rfl (Kq rfl (rd_max2 rfl rfl rfl) ?_)
 refine Ng rfl rfl (st rfl rfl rfl .tc (by kernel_rfl) rfl ?_ (by (simp only [List.set_cons_zero, List.set_cons_succ]; rfl))) ?_
 ·(simp; done)
 intro _
 refine Nt (Cs (Km rfl (Ka rfl (Nt (Ce ?_)))))
 exact Rn rfl (.tmp rfl .nil) fun w' hS => ⟨by rfl, by (exact hS)⟩
abbrev tB (p : PR) := mulN (canon 2) p.bl
abbrev tC (p : PR) := addN (tB p).1 (sM p).1
def tE (p : PR) : Prop := (tB p).2 = 0 ∧ (sA p).2 = 0 ∧ (sM p).2 = 0 ∧ (tC p).2 = 0 ∧ (sH p).2 = 0
theorem t_yes {p : PR} (h : chkR p = 0) (h1 : szV p < Big) (h2 : szH p < Big) : tE p ∧ (tC p).1 = canon (szV p) ∧ (sH p).1 = canon (szH p) := by
 obtain ⟨hok, _, hrg⟩ := chkR_ok h
 have o : ∀ x ∈ nine p, okN x := hok.1
 have hB8 : 8 < Big := Nat.lt_of_lt_of_le (by decide) big64
 have hlo : okN p.lo := o _ (by simp); have hsz : okN p.sz := o _ (by simp); have hbl : okN p.bl := o _ (by simp); have hmk : okN p.msk := o _ (by simp); have hha : okN p.han := o _ (by simp)
 have hm2 : 2 ≤ val p.msk := hrg.1 _ (by simp)
 unfold szV at h1; unfold szH at h2
 have a0 : val p.lo + val p.sz ≤ (val p.lo + val p.sz) * val p.msk := Nat.le_mul_of_pos_right _ (by omega)
 have eA := add_lt hlo hsz (by omega)
 have eM : mulN (canon (val p.lo + val p.sz)) p.msk = (canon ((val p.lo + val p.sz) * val p.msk), 0) := by
  rw [mul_lt (okN_can (by omega)) hmk (by rw [val_canon]; omega), val_canon]
 have eB : mulN (canon 2) p.bl = (canon (2 * val p.bl), 0) := by rw [mul_lt (okN_can (by omega)) hbl (by rw [val_canon]; omega), val_canon]
 have eC : addN (canon (2 * val p.bl)) (canon ((val p.lo + val p.sz) * val p.msk)) = (canon (szV p), 0) := by
  rw [add_lt (okN_can (by omega)) (okN_can (by omega)) (by rw [val_canon, val_canon]; omega), val_canon, val_canon, szV]
 have eH := mul_lt hha hmk h2
 simp only [tE, sA, sM, tB, tC, sH, eA, eM, eB, eC, eH, szH, and_self]
theorem t_no {p : PR} (h : chkR p = 0) (he : tE p) : szV p < Big ∧ szH p < Big := by
 obtain ⟨hok, _, hrg⟩ := chkR_ok h
 have o : ∀ x ∈ nine p, okN x := hok.1
 have hB8 : 8 < Big := Nat.lt_of_lt_of_le (by decide) big64
 have hlo : okN p.lo := o _ (by simp); have hsz : okN p.sz := o _ (by simp); have hbl : okN p.bl := o _ (by simp); have hmk : okN p.msk := o _ (by simp); have hha : okN p.han := o _ (by simp)
 obtain ⟨hB, hA, hM, hC, hH⟩ := he
 have zA := add_z hlo hsz hA
 have eA := add_lt hlo hsz zA
 simp only [sM, sA, eA] at hM
 have zM := mul_z (okN_can zA) hmk hM
 have eM := mul_lt (okN_can zA) hmk zM
 rw [val_canon] at zM eM
 have zB := mul_z (okN_can (by omega)) hbl hB
 have eB := mul_lt (okN_can (by omega)) hbl zB
 rw [val_canon] at zB eB
 simp only [tC, tB, sM, sA, eA, eM, eB] at hC
 have zC := add_z (okN_can zB) (okN_can zM) hC
 rw [val_canon, val_canon] at zC
 exact ⟨by rw [szV]; omega, mul_z hha hmk hH⟩
theorem add_nn (a b : Bs) : 0 ≤ (addN a b).2 := by unfold addN; split <;> (try split) <;> first | exact Int.le_refl 0 | decide
theorem mul_nn (a b : Bs) : 0 ≤ (mulN a b).2 := by unfold mulN; split <;> (try split) <;> first | exact Int.le_refl 0 | decide
theorem max5 {a b c d e : Int} (ha : 0 ≤ a) (hb : 0 ≤ b) (hc : 0 ≤ c) (hd : 0 ≤ d) (he : 0 ≤ e) : max (max (max (max (max 0 a) b) c) d) e = 0 ↔ a = 0 ∧ b = 0 ∧ c = 0 ∧ d = 0 ∧ e = 0 := by omega
theorem keep_u {P : Program} {f : FuncId} {args : Array Value} {v : Value} {ok : Nat → Prop} {w0 : World} {ext rr : List Ent} {x x' : Ent} {fs : List Fact}
  (h : ∀ w, St ok w0 (x :: (ext ++ rr)) fs w → Calls P f args w (fun e w' => e = .returned v ∧ St ok w0 (x' :: (ext ++ rr)) fs w')) :
  ∀ w, St ok w0 (ext ++ x :: rr) fs w → Calls P f args w (fun e w' => ∃ _g : Unit, e = .returned v ∧ True ∧ St ok w0 (ext ++ x' :: rr) fs w') :=
 fun w hS => (h w (hS.perm List.perm_middle.symm)).mono fun _ _ ⟨h1, h2⟩ => ⟨(), h1, trivial, h2.perm List.perm_middle⟩
theorem psizes_c {p : PR} {w : World} (hm8 : p.mn.1.1.length ≤ 8) (hD : TabD w) :
  Cw 39 #[prV p] w (.tuple #[.string (S (sizR p).1.1), .string (S (sizR p).1.2), .int .i64 (sizR p).2]) := by
 refine En [] [(0, prV p)] Tryz.func39 rfl Tryz.ntmps39 rfl (Ac rfl (An _)) Fn ?_
 refine Cs ?_
 refine Kh rfl (Oy rfl rfl) ?_
 intro b1
 refine Ka rfl (Ka rfl (Ka rfl (Nt (Cq (Cs ?_)))))
 refine Kq rfl (lda rfl rfl .tc u30 rfl ?_) ?_
 ·kernel_rfl
 refine Ku rfl (Oc rfl rfl (Kv fun w hS => pcheckR_c (p := p) (by assumption) (by (exact tabd_st hD hS)))) ?_
 refine Ka rfl (Nt (Cs (Km rfl (Kq rfl (rd_neq rfl rfl rfl) (Nt ?_)))))
 refine Cd rfl (fun hc14 => ?_) (fun hc14 => ?_)
 ·(try simp only [sB] at hc14)
  refine Cs (Km rfl (Ka rfl (Ka rfl (Ka rfl (Nt (Ce (Xb ?_)))))))
  exact R3 rfl rfl rfl rfl (by rw [sizR, if_pos (by simpa using hc14)]; rfl)
 ·(try simp only [sB] at hc14)
  have h0 : chkR p = 0 := by simpa using hc14
  have hmx := max5 (mul_nn (canon 2) p.bl) (add_nn p.lo p.sz) (mul_nn (sA p).1 p.msk) (add_nn (tB p).1 (sM p).1) (mul_nn p.han p.msk)
  refine Ck (Xa (Cs ?_))
  refine Kh rfl (Oa rfl (v := (.int .i64 0)) (cs := [.int .i64 0]) (by kernel_rfl) rfl) ?_
  intro b6
  refine Ng rfl rfl (st rfl rfl rfl .tc (by kernel_rfl) rfl ?_ (by (simp only [List.set_cons_zero, List.set_cons_succ]; rfl))) ?_
  ·decide
  intro _
  refine Nt (Cs (Kq rfl (rd_mkf rfl rfl rfl) (Ka rfl (Nt (Cs (Kq rfl (rd_mkf rfl rfl rfl) (Ka rfl (Nt (Cq ?_)))))))))
  refine WC.free (K := [⟨some b1, prC p, 30⟩]) (fs0 := []) [2, 1, 3, 4, 5, 7, 8, 9, 10, 11, 12, 6, 13, 14, 15, 0, 16, 17] [] [0, 0, 1, 0, 0, 1, 0, 0, 0, 0, 0, 0, 1, 0, 0, 1, 1, 0] (by kernel_rfl) (by kernel_rfl) rfl ?_
  refine Jv rfl rfl rfl rfl rfl (fun ext => Oc rfl rfl (Kv fun w hS => of_c (n := 2) (by omega))) ?_
  refine Kj rfl (Rm rfl rfl) (Kj rfl (Fa (q := 15) rfl rfl u30 rfl rfl) (Kj rfl (Ld rfl rfl .tc u22) ?_))
  refine Jg rfl rfl rfl rfl rfl (fun ext => og_callv rfl rfl rfl (by kernel_rfl) rfl (keep_u fun w hS => szmul_c (p := b6) (a := canon 2) (b := p.bl) hS)) ?_
  intro _ _
  refine Kj rfl (Rm rfl rfl) (Kj rfl (Fa (q := 13) rfl rfl u30 rfl rfl) (Kj rfl (Ld rfl rfl .tc u22) ?_))
  refine Kj rfl (Fa (q := 14) rfl rfl u30 rfl rfl) (Kj rfl (Ld rfl rfl .tc u22) ?_)
  refine Jg rfl rfl rfl rfl rfl (fun ext => og_callv rfl rfl rfl (by kernel_rfl) rfl (keep_u fun w hS => szadd_c (p := b6) (a := p.lo) (b := p.sz) hS)) ?_
  intro _ _
  refine Kj rfl (Rm rfl rfl) (Kj rfl (Fa (q := 16) rfl rfl u30 rfl rfl) (Kj rfl (Ld rfl rfl .tc u22) ?_))
  refine Jg rfl rfl rfl rfl rfl (fun ext => og_callv rfl rfl rfl (by kernel_rfl) rfl (keep_u fun w hS => szmul_c (p := b6) (a := (sA p).1) (b := p.msk) hS)) ?_
  intro _ _
  refine Kj rfl (Rm rfl rfl) ?_
  refine Jg rfl rfl rfl rfl rfl (fun ext => og_callv rfl rfl rfl (by kernel_rfl) rfl (keep_u fun w hS => szadd_c (p := b6) (a := (tB p).1) (b := (sM p).1) hS)) ?_
  intro _ _
  refine Kj rfl (Ra rfl rfl) ?_
  refine WJ.nil ?_
  refine Nt (Cs (Km rfl (Kq rfl (Fa (q := 12) rfl rfl u30 rfl rfl) (Kq rfl (Ld rfl rfl .tc u22) ?_))))
  refine Kq rfl (Fa (q := 16) rfl rfl u30 rfl rfl) (Kq rfl (Ld rfl rfl .tc u22) ?_)
  refine Kh rfl (og_callv rfl rfl rfl (by kernel_rfl) rfl (keep_st fun w hS => szmul_c (p := b6) (a := p.han) (b := p.msk) hS)) ?_
  intro _
  refine Ka rfl (Nt (Cq (Cs (Kq rfl (Ld rfl rfl .tc u43) ?_))))
  refine Kq rfl (rd_neq rfl rfl rfl) (Nt ?_)
  refine Cd rfl (fun hc42 => ?_) (fun hc42 => ?_)
  ·(try simp only [sB] at hc42)
   have hn : ¬ (szV p < Big ∧ szH p < Big) := fun h => (by simpa using hc42 : ¬ _) (hmx.2 (t_yes h0 h.1 h.2).1)
   refine Cs (Ka rfl (Ka rfl (Ka rfl (Nt (Ce (Xb ?_))))))
   exact R3 rfl rfl rfl rfl (by rw [sizR, if_neg (fun h => h h0), if_neg hn]; rfl)
  ·(try simp only [sB] at hc42)
   have hy := t_no h0 (hmx.1 (by simpa using hc42))
   have he := t_yes h0 hy.1 hy.2
   refine Ck (Xa (Cs (Km rfl (Km rfl (Ka rfl (Ka rfl (Ka rfl (Nt (Ce ?_)))))))))
   exact R3 rfl rfl rfl rfl (by rw [sizR, if_neg (fun h => h h0), if_pos hy, ← he.2.1, ← he.2.2]; rfl)
abbrev Tm := Bs × Int × Zs
abbrev Qn := Int × Bs × List Tm
abbrev Sm := List Gp × List Bs × List Qn
abbrev tmC (t : Tm) : List Value := [.string (S t.1), .int .i64 t.2.1, .bool t.2.2.1, .string (S t.2.2.2)]
abbrev tms (l : List Tm) : List Value := l.flatMap tmC
abbrev QA := Qn × Option Addr × Nat
abbrev qaC (q : QA) : List Value := [.int .i64 q.1.1, .string (S q.1.2.1), .slice q.2.1 q.1.2.2.length q.2.2]
abbrev qas (l : List QA) : List Value := l.flatMap qaC
abbrev gpC (g : Gp) : List Value := [.string (S g.1), .string (S g.2)]
abbrev gps (l : List Gp) : List Value := l.flatMap gpC
abbrev vrC (v : Bs) : List Value := [.string (S v)]
abbrev vrs (l : List Bs) : List Value := l.flatMap vrC
abbrev qaF (q : QA) : Fact := Fact.sl q.2.1 (tms q.1.2.2)
structure SA where
 gs : List Gp
 vs : List Bs
 es : List QA
 ga : Option Addr
 gc : Nat
 va : Option Addr
 vc : Nat
 ea : Option Addr
 ec : Nat
abbrev SA.core (s : SA) : Sm := (s.gs, s.vs, s.es.map (·.1))
abbrev saV (s : SA) : Value := .agg #[.slice s.ga s.gs.length s.gc, .slice s.va s.vs.length s.vc, .slice s.ea s.es.length s.ec]
abbrev saF (s : SA) : List Fact := Fact.sl s.ga (gps s.gs) :: Fact.sl s.va (vrs s.vs) :: Fact.sl s.ea (qas s.es) :: s.es.map qaF
def saL (s : SA) : Prop := s.gs.length ≤ 100000 ∧ s.vs.length ≤ 100000 ∧ s.es.length ≤ 100000 ∧ (∀ q ∈ s.es, q.1.2.2.length ≤ 100000) ∧ ∀ g ∈ s.gs, g.1.length ≤ 8
def okT (nv : Nat) (t : Tm) : Prop := (0 ≤ t.2.1 ∧ t.2.1 < nv) ∧ okN t.1 ∧ okZ t.2.2
instance (nv : Nat) (t : Tm) : Decidable (okT nv t) := inferInstanceAs (Decidable (_ ∧ _))
def okQh (ng : Nat) (q : Qn) : Prop := (0 ≤ q.1 ∧ q.1 < ng) ∧ okN q.2.1
instance (ng : Nat) (q : Qn) : Decidable (okQh ng q) := inferInstanceAs (Decidable (_ ∧ _))
def okQ (ng nv : Nat) (q : Qn) : Prop := okQh ng q ∧ ∀ t ∈ q.2.2, okT nv t
instance (ng nv : Nat) (q : Qn) : Decidable (okQ ng nv q) := inferInstanceAs (Decidable (_ ∧ _))
def okG (g : Gp) : Prop := okN g.1 ∧ okN g.2
instance (g : Gp) : Decidable (okG g) := inferInstanceAs (Decidable (_ ∧ _))
def formS (s : Sm) : Prop := (∀ g ∈ s.1, okG g) ∧ (∀ v ∈ s.2.1, okN v) ∧ ∀ q ∈ s.2.2, okQ s.1.length s.2.1.length q
instance (s : Sm) : Decidable (formS s) := inferInstanceAs (Decidable (_ ∧ _))
def sizeS (s : Sm) : Prop := (s.1.length ≤ 8 ∧ s.2.1.length ≤ 64 ∧ s.2.2.length ≤ 64) ∧ ∀ q ∈ s.2.2, q.2.2.length ≤ 64
instance (s : Sm) : Decidable (sizeS s) := inferInstanceAs (Decidable (_ ∧ _))
def elQ (gs : List Gp) (q : Qn) : Prop := elG (gs.getD q.1.toNat default) q.2.1 ∧ ∀ t ∈ q.2.2, elG (gs.getD q.1.toNat default) t.1
instance (gs : List Gp) (q : Qn) : Decidable (elQ gs q) := inferInstanceAs (Decidable (_ ∧ _))
def elS (s : Sm) : Prop := (∀ g ∈ s.1, chkG g = 0) ∧ ∀ q ∈ s.2.2, elQ s.1 q
instance (s : Sm) : Decidable (elS s) := inferInstanceAs (Decidable (_ ∧ _))
def ordS (gs : List Gp) : Bs := ((gs.find? fun g => decide (g.2 ≠ [])).map (·.2)).getD []
def kdQ (gs : List Gp) (vs : List Bs) (q : Qn) : Prop := (gs.getD q.1.toNat default).2 ≠ [] ∨ ∀ t ∈ q.2.2, vs.getD t.2.1.toNat default ≠ []
instance (gs : List Gp) (vs : List Bs) (q : Qn) : Decidable (kdQ gs vs q) := inferInstanceAs (Decidable (_ ∨ _))
def kdS (s : Sm) : Prop := (∀ v ∈ s.2.1, v ≠ []) ∨ (ordS s.1 ≠ [] ∧ ∀ g ∈ s.1, ¬ (g.2 ≠ [] ∧ g.2 ≠ ordS s.1)) ∧ ∀ q ∈ s.2.2, kdQ s.1 s.2.1 q
instance (s : Sm) : Decidable (kdS s) := inferInstanceAs (Decidable (_ ∨ _))
def chkS (s : Sm) : Int := if ¬ formS s then 3 else if ¬ sizeS s then 6 else if ¬ elS s then 13 else if ¬ kdS s then 10 else 0
def rdyS (s : Sm) (w : List Zs) : Int := if ¬ formS s then 3 else if ¬ (∀ x ∈ w, okZ x) then 3 else if chkS s ≠ 0 then chkS s else if w.length ≠ s.2.1.length then 6 else 0
def errL : List Int → Int
 | [] => 0
 | e :: l => if e ≠ 0 then e else errL l
abbrev exT (w : List Zs) (t : Tm) : Zs × Int := mulZ t.2.2 (w.getD t.2.1.toNat default)
def exQ (w : List Zs) (q : Qn) : List Zs × Int := if errL (q.2.2.map fun t => (exT w t).2) ≠ 0 then ([], errL (q.2.2.map fun t => (exT w t).2)) else (q.2.2.map fun t => (exT w t).1, 0)
def imQ (gs : List Gp) (w : List Zs) (q : Qn) : Bs × Int := if (exQ w q).2 ≠ 0 then ([], (exQ w q).2) else prodS (gs.getD q.1.toNat default) (q.2.2.map (·.1)) (exQ w q).1
def imS (s : Sm) (w : List Zs) : List Bs × Int := if errL (s.2.2.map fun q => (imQ s.1 w q).2) ≠ 0 then ([], errL (s.2.2.map fun q => (imQ s.1 w q).2)) else (s.2.2.map fun q => (imQ s.1 w q).1, 0)
def inV (q v : Bs) (x : Zs) : Prop := if v = [] then x.1 = false ∧ val x.2 < val q else val x.2 < val v
instance (q v : Bs) (x : Zs) : Decidable (inV q v x) := by unfold inV; infer_instance
def inR (s : Sm) (w : List Zs) : Prop := ∀ i, i < s.2.1.length → inV (ordS s.1) (s.2.1.getD i default) (w.getD i default)
instance (s : Sm) (w : List Zs) : Decidable (inR s w) := inferInstanceAs (Decidable (∀ i, i < s.2.1.length → _))
def hldS (s : Sm) (w : List Zs) : Bool × Int :=
 if rdyS s w ≠ 0 then (false, rdyS s w) else if ¬ inR s w then (false, 0) else if (imS s w).2 ≠ 0 then (false, (imS s w).2) else (decide ((imS s w).1 = s.2.2.map (·.2.1)), 0)
theorem errL_zero {l : List Int} : errL l = 0 ↔ ∀ e ∈ l, e = 0 := by
 induction l with
 | nil => simp [errL]
 | cons e l ih =>
  rw [errL]; split
  ·rename_i h; simp [h]
  ·rename_i h; rw [ih]; simp; intro _; exact Decidable.not_not.1 h
theorem errL_app {a b : List Int} (h : ∀ e ∈ a, e = 0) : errL (a ++ b) = errL b := by
 induction a with
 | nil => rfl
 | cons e l ih => rw [List.cons_append, errL, if_neg (by simp [h e]), ih fun x hx => h x (List.mem_cons_of_mem _ hx)]
theorem take_succ_getD {α : Type} [Inhabited α] {l : List α} {i : Nat} (h : i < l.length) : l.take (i + 1) = l.take i ++ [l.getD i default] := by
 rw [List.take_add_one, List.getElem?_eq_getElem h, List.getD_eq_getElem?_getD, List.getElem?_eq_getElem h]; rfl
theorem split_at {α : Type} [Inhabited α] {l : List α} {i : Nat} (h : i < l.length) : l = l.take i ++ l.getD i default :: l.drop (i + 1) := by
 rw [← List.singleton_append, ← List.append_assoc, ← take_succ_getD h, List.take_append_drop]
theorem errL_at {α : Type} [Inhabited α] {l : List α} {f : α → Int} {i : Nat} (h : i < l.length) (h0 : ∀ x ∈ l.take i, f x = 0) (h1 : f (l.getD i default) ≠ 0) : errL (l.map f) = f (l.getD i default) := by
 conv => lhs; rw [split_at h]
 rw [List.map_append, errL_app (by intro e he; obtain ⟨x, hx, rfl⟩ := List.mem_map.1 he; exact h0 x hx), List.map_cons, errL, if_pos h1]
theorem errL_map {α : Type} {l : List α} {f : α → Int} (h0 : ∀ x ∈ l, f x = 0) : errL (l.map f) = 0 := errL_zero.2 (by simpa using h0)
theorem forall_qa {l : List QA} {p : Qn → Prop} : (∀ q ∈ l.map (·.1), p q) ↔ ∀ q ∈ l, p q.1 := by simp
theorem ordS_at {gs : List Gp} {i : Nat} (h : i < gs.length) (h0 : ∀ g ∈ gs.take i, g.2 = []) (h1 : (gs.getD i default).2 ≠ []) : ordS gs = (gs.getD i default).2 := by
 have e : gs.find? (fun g => decide (g.2 ≠ [])) = some (gs.getD i default) := by
  conv => lhs; rw [split_at h]
  rw [List.find?_append, List.find?_eq_none.2 (by simpa using h0), List.find?_cons_of_pos (by simpa using h1)]; rfl
 rw [ordS, e]; rfl
theorem ordS_nil {gs : List Gp} (h0 : ∀ g ∈ gs, g.2 = []) : ordS gs = [] := by
 rw [ordS, List.find?_eq_none.2 (by simpa using h0)]; rfl
theorem ordS_okN {gs : List Gp} (h : ∀ g ∈ gs, okG g) : okN (ordS gs) := by
 rw [ordS]; cases e : gs.find? (fun g => decide (g.2 ≠ [])) with
 | none => exact okN_nil
 | some g => exact (h g (List.mem_of_find?_eq_some e)).2
abbrev Un (m x : Nat) : Prop := Nat.gcd x m = 1
theorem un_mul {m x y : Nat} (h1 : Un m x) (h2 : Un m y) : Un m (x * y) := Nat.Coprime.mul_left h1 h2
theorem un_pow {m x : Nat} (n : Nat) (h : Un m x) : Un m (x ^ n) := Nat.Coprime.pow_left n h
theorem un_mod {m x : Nat} : Un m (x % m) ↔ Un m x := by unfold Un; rw [← Nat.gcd_rec, Nat.gcd_comm]
theorem un_inv {m x : Nat} (hm : 0 < m) (h : Un m x) : x * invN x m % m = 1 % m := by
 obtain ⟨y, hy⟩ := gcd_unit hm h; exact invN_spec hm hy
theorem un_invU {m x : Nat} (hm : 0 < m) (h : Un m x) : Un m (invN x m) := unit_gcd (x := x) (by rw [Nat.mul_comm]; exact un_inv hm h)
theorem un_bs {m x : Nat} (hm : 0 < m) (h : Un m x) (e : Int) : Un m (if e < 0 then invN x m else x) := by split; exact un_invU hm h; exact h
theorem un_powI {m x : Nat} (hm : 0 < m) (h : Un m x) (e : Int) : Un m (powI m x e) := un_mod.2 (un_pow _ (un_bs hm h e))
theorem un_cancel {m a b c : Nat} (hm : 0 < m) (hc : Un m c) (h : a * c % m = b * c % m) : a % m = b % m := by
 have e := un_inv hm hc
 have h1 : ∀ x, x * c * invN c m % m = x % m := fun x => by rw [Nat.mul_assoc, ← mmr, e, mmr, Nat.mul_one]
 rw [← h1 a, ← h1 b, ← mml (a * c), h, mml]
theorem un_prodL {α : Type} {m : Nat} (f : α → Nat) : ∀ l : List α, (∀ x ∈ l, Un m (f x)) → Un m (prodL f l)
 | [], _ => by simp [prodL, Un]
 | x :: l, h => un_mul (h x (by simp)) (un_prodL f l fun y hy => h y (List.mem_cons_of_mem _ hy))
abbrev Or (m q x : Nat) : Prop := x ^ q % m = 1 % m
theorem or_mul {m q x y : Nat} (h1 : Or m q x) (h2 : Or m q y) : Or m q (x * y) := by
 unfold Or at *; rw [Nat.mul_pow, ← mml, h1, mml, Nat.one_mul, h2]
theorem one_pow_mod (m n : Nat) : (1 % m) ^ n % m = 1 % m := by rw [pow_mod2, Nat.one_pow]
theorem or_pow {m q x : Nat} (n : Nat) (h : Or m q x) : Or m q (x ^ n) := by
 unfold Or at *; rw [← Nat.pow_mul, Nat.mul_comm, Nat.pow_mul, ← pow_mod2, h, one_pow_mod]
theorem or_mod {m q x : Nat} : Or m q (x % m) ↔ Or m q x := by unfold Or; rw [pow_mod2]
theorem or_inv {m q x : Nat} (hm : 0 < m) (hu : Un m x) (h : Or m q x) : Or m q (invN x m) := by
 have e : (x * invN x m) ^ q % m = 1 % m := by rw [← pow_mod2, un_inv hm hu, one_pow_mod]
 unfold Or at *; rw [Nat.mul_pow, ← mml, h, mml, Nat.one_mul] at e; exact e
theorem or_powI {m q x : Nat} (hm : 0 < m) (hu : Un m x) (h : Or m q x) (e : Int) : Or m q (powI m x e) := by
 refine or_mod.2 (or_pow _ ?_); split; exact or_inv hm hu h; exact h
theorem or_prodL {α : Type} {m q : Nat} (f : α → Nat) : ∀ l : List α, (∀ x ∈ l, Or m q (f x)) → Or m q (prodL f l)
 | [], _ => by simp [prodL, Or]
 | x :: l, h => or_mul (h x (by simp)) (or_prodL f l fun y hy => h y (List.mem_cons_of_mem _ hy))
theorem elG_prod {g : Gp} {l : List Bs} {es : List Zs} (h : (prodS g l es).2 = 0) : elG g (prodS g l es).1 := by
 have h0 : chkP g l es (decide (l.length = es.length)) = 0 := by
  unfold prodS at h; split at h
  ·assumption
  ·exact h
 obtain ⟨hok, hokz, hg, hs, hel⟩ := chkP_ok h0
 obtain ⟨hm, hq, hm2, _, _⟩ := chkG_ok hg
 rw [prodS, if_pos h0]
 have hm0 : 0 < val g.1 := by omega
 have hmem : ∀ p ∈ l.zip es, elG g p.1 := fun p hp => hel _ (List.of_mem_zip hp).1
 have hU : Un (val g.1) (prodL (fun p => powI (val g.1) (val p.1) (zv p.2)) (l.zip es)) := un_prodL _ _ fun p hp => un_powI hm0 (elG_gcd hg (hmem p hp)) _
 have hlt : prodL (fun p => powI (val g.1) (val p.1) (zv p.2)) (l.zip es) % val g.1 < val g.1 := Nat.mod_lt _ hm0
 have hbig : prodL (fun p => powI (val g.1) (val p.1) (zv p.2)) (l.zip es) % val g.1 < Big := Nat.lt_trans hlt (okN_val hm)
 refine ⟨okN_can hbig, fun h1 => ?_, by rw [val_canon]; exact hlt, ?_⟩
 ·have h2 : val (canon (prodL (fun p => powI (val g.1) (val p.1) (zv p.2)) (l.zip es) % val g.1)) = 0 := by dsimp only at h1; rw [h1]; rfl
  rw [val_canon] at h2
  have := un_mod.2 hU; rw [h2] at this; simp [Un] at this; omega
 ·rw [val_canon]; split
  ·exact un_mod.2 hU
  ·rename_i hq0
   have : Or (val g.1) (val g.2) (prodL (fun p => powI (val g.1) (val p.1) (zv p.2)) (l.zip es)) := or_prodL _ _ fun p hp => or_powI hm0 (elG_gcd hg (hmem p hp)) (by
    have := (hmem p hp).2.2.2; rw [if_neg hq0] at this; rw [Or, this, Nat.mod_eq_of_lt (by omega)]) _
   have h2 := or_mod.2 this; rw [Or, Nat.mod_eq_of_lt (show 1 < val g.1 by omega)] at h2; exact h2
theorem powI_zero {m x : Nat} : powI m x 0 = 1 % m := by simp [powI]
theorem powI_mod {m x : Nat} (e : Int) : powI m x e % m = powI m x e := by rw [powI, Nat.mod_mod]
theorem powI_shift {m x : Nat} (hm : 0 < m) (h : Un m x) (z : Int) (n : Nat) (hn : 0 ≤ z + n) : powI m x z * x ^ n % m = x ^ (z + n).toNat % m := by
 rw [powI, mml]
 by_cases hz : z < 0
 ·rw [if_pos hz, show n = z.natAbs + (z + n).toNat by omega, Nat.pow_add, ← Nat.mul_assoc, ← Nat.mul_pow, Nat.mul_comm (invN x m) x, ← mml, ← pow_mod2, un_inv hm h, one_pow_mod, mml, Nat.one_mul]
  congr 2; omega
 ·rw [if_neg hz, ← Nat.pow_add]; congr 2; omega
theorem powI_add {m x : Nat} (hm : 0 < m) (h : Un m x) (a b : Int) : powI m x a * powI m x b % m = powI m x (a + b) := by
 rw [← powI_mod (a + b)]
 refine un_cancel hm (un_pow (a.natAbs + b.natAbs) h) ?_
 rw [powI_shift hm h _ _ (by omega), Nat.pow_add, show powI m x a * powI m x b * (x ^ a.natAbs * x ^ b.natAbs) = (powI m x a * x ^ a.natAbs) * (powI m x b * x ^ b.natAbs) by simp only [Nat.mul_comm, Nat.mul_left_comm, Nat.mul_assoc], ← mml, powI_shift hm h _ _ (by omega), mml, ← mmr, powI_shift hm h _ _ (by omega), mmr, ← Nat.pow_add]
 congr 2; omega
theorem powI_npow {m x : Nat} (hm : 0 < m) (h : Un m x) (a : Int) : ∀ n : Nat, powI m x a ^ n % m = powI m x (a * n)
 | 0 => by simp [powI_zero]
 | n + 1 => by
  rw [Nat.pow_succ, ← mml, powI_npow hm h a n, powI_add hm h]; congr 1
  rw [Int.natCast_add, Int.mul_add]; simp
theorem powI_inv {m x : Nat} (hm : 0 < m) (h : Un m x) (a : Int) : invN (powI m x a) m = powI m x (-a) := by
 refine invN_eq (by rw [← powI_mod]; exact Nat.mod_lt _ hm) ?_
 rw [powI_add hm h, show a + -a = 0 by omega, powI_zero]
theorem powI_mul {m x : Nat} (hm : 0 < m) (h : Un m x) (a b : Int) : powI m (powI m x a) b = powI m x (a * b) := by
 conv => lhs; rw [powI]
 by_cases hb : b < 0
 ·rw [if_pos hb, powI_inv hm h, powI_npow hm h]; congr 1
  rw [show (b.natAbs : Int) = -b by omega, Int.neg_mul_neg]
 ·rw [if_neg hb, powI_npow hm h]; congr 1
  rw [show (b.natAbs : Int) = b by omega]
theorem inv_mul {m x y : Nat} (hm : 0 < m) (h1 : Un m x) (h2 : Un m y) : invN (x * y % m) m = invN x m * invN y m % m := by
 rw [invN_mod]
 refine invN_eq (Nat.mod_lt _ hm) ?_
 rw [mmr, show x * y * (invN x m * invN y m) = (x * invN x m) * (y * invN y m) by simp only [Nat.mul_comm, Nat.mul_left_comm, Nat.mul_assoc], ← mml, un_inv hm h1, mml, Nat.one_mul, un_inv hm h2]
theorem powI_base {m x y : Nat} (hm : 0 < m) (h1 : Un m x) (h2 : Un m y) (z : Int) : powI m (x * y % m) z = powI m x z * powI m y z % m := by
 simp only [powI]
 by_cases hz : z < 0
 ·simp only [if_pos hz]; rw [inv_mul hm h1 h2, pow_mod2, Nat.mul_pow, mml, mmr]
 ·simp only [if_neg hz]; rw [pow_mod2, Nat.mul_pow, mml, mmr]
abbrev trm (b : Bs) (v : Int) : Tm := (b, v, ofZ 1)
theorem okZ_one : okZ (ofZ 1) := by decide +kernel
theorem mulZ_one {x : Zs} (h : okZ x) : mulZ (ofZ 1) x = (x, 0) := by
 obtain ⟨n, hn, rfl⟩ := okZ_iff.1 h
 have := mulZ_of (a := 1) (b := n) (by decide +kernel) hn (by rw [Int.one_mul]; exact hn)
 rw [Int.one_mul] at this; exact this
theorem okT_trm {n : Nat} {b : Bs} {v : Int} (hb : okN b) (h0 : 0 ≤ v) (h1 : v < n) : okT n (trm b v) := ⟨⟨h0, h1⟩, hb, okZ_one⟩
theorem prodS_two {g : Gp} {a b : Bs} {x y : Zs} (hg : chkG g = 0) (ha : elG g a) (hb : elG g b) (hx : okZ x) (hy : okZ y) :
  prodS g [a, b] [x, y] = (canon (powI (val g.1) (val a) (zv x) * powI (val g.1) (val b) (zv y) % val g.1), 0) := by
 have h0 : chkP g [a, b] [x, y] (decide ([a, b].length = [x, y].length)) = 0 := by
  have e1 : ∀ z ∈ [a, b], okN z := by intro z hz; simp at hz; rcases hz with rfl | rfl; exact ha.1; exact hb.1
  have e2 : ∀ z ∈ [x, y], okZ z := by intro z hz; simp at hz; rcases hz with rfl | rfl <;> assumption
  have e3 : ∀ z ∈ [a, b], elG g z := by intro z hz; simp at hz; rcases hz with rfl | rfl <;> assumption
  rw [chkP, if_neg (fun h => h e1), if_neg (fun h => h e2), if_neg (fun h => h hg), if_neg (by simp), if_neg (fun h => h e3)]
 rw [prodS, if_pos h0]; simp [prodL]
theorem prodS_one {g : Gp} {a : Bs} {x : Zs} (hg : chkG g = 0) (ha : elG g a) (hx : okZ x) : prodS g [a] [x] = (canon (powI (val g.1) (val a) (zv x)), 0) := by
 have h0 : chkP g [a] [x] (decide ([a].length = [x].length)) = 0 := by
  rw [chkP, if_neg (fun h => h (by simpa using ha.1)), if_neg (fun h => h (by simpa using hx)), if_neg (fun h => h hg), if_neg (by simp), if_neg (fun h => h (by simpa using ha))]
 rw [prodS, if_pos h0]; simp [prodL, powI_mod]
theorem elG_lt {g : Gp} {x : Bs} (hg : chkG g = 0) : 0 < val g.1 := by obtain ⟨_, _, h, _, _⟩ := chkG_ok hg; omega
theorem com_pow {m g h : Nat} {x y z s : Int} (hm : 0 < m) (hg : Un m g) (hh : Un m h) :
  powI m (powI m g x * powI m h y % m) z * powI m h s % m = powI m g (x * z) * powI m h (y * z + s) % m := by
 rw [powI_base hm (un_powI hm hg _) (un_powI hm hh _), powI_mul hm hg, powI_mul hm hh, mml, Nat.mul_assoc, ← mmr, powI_add hm hh]
def saN : SA := ⟨[], [], [], none, 0, none, 0, none, 0⟩
abbrev SME (s : SA) (n : Int) : Value := .tuple #[saV s, .int .i64 n]
section
variable {ok : Nat → Prop} {w0 w : World} {own : List Ent} {fs : List Fact}
theorem St.osk (h : St ok w0 own fs w) {b : Nat} {xs : List Value} {T : TypeId} [hf : HasE own b xs T] : (Fact.sl (some ⟨b, 0, none⟩) xs).holds ok w := by
 obtain ⟨k, hk⟩ := hf.h.get
 have := h.own_ _ (List.mem_of_getElem? hk)
 exact .inr ⟨b, 0, xs.toArray, T, (0, 0), rfl, h.okn b this.1, this.2, fun i hi => by simp⟩
theorem sm_err {r : Sm × Int} {n : Int} (hr : r = (([], [], []), n)) (hS : St (fun b => ok b ∨ w0.heap.size ≤ b) w0 own fs w) :
  ∃ gx : SA, Ending.returned (tup [.agg #[.slice none 0 0, .slice none 0 0, .slice none 0 0], .int .i64 n]) = Ending.returned (SME gx r.2) ∧ (gx.core = r.1) ∧ Below w0.heap.size w0 w ∧ ∀ x ∈ (saF gx : List Fact), x.holds (fun b => ok b ∨ w0.heap.size ≤ b) w := by
 subst hr
 exact ⟨saN, rfl, rfl, hS.below, Fc sl_nilk (Fc sl_nilk (Fc sl_nilk Fn))⟩
end
def ixP {α : Type} (p : α → Bool) (l : List α) : Int := if l.any p = true then (l.findIdx p : Int) else -1
theorem ixP_nonneg {α : Type} {p : α → Bool} {l : List α} : decide (ixP p l ≥ 0) = l.any p := by
 rw [ixP]; split
 ·rename_i h; simp [h]
 ·rename_i h; simpa using h
theorem ixP_none {α : Type} {p : α → Bool} {l : List α} (h : ∀ x ∈ l, p x = false) : ixP p l = -1 := by
 rw [ixP, if_neg (by simpa using h)]
theorem ixP_at {α : Type} [Inhabited α] {p : α → Bool} {l : List α} {i : Nat} (hi : i < l.length) (h0 : ∀ x ∈ l.take i, p x = false) (h1 : p (l.getD i default) = true) : ixP p l = i := by
 have e : l.getD i default = l[i] := by rw [List.getD_eq_getElem?_getD, List.getElem?_eq_getElem hi]; rfl
 rw [ixP, if_pos (List.any_eq_true.2 ⟨_, getD_mem l i hi, h1⟩)]
 congr 1
 rw [List.findIdx_eq hi]
 refine ⟨by rw [← e]; exact h1, fun j hj => ?_⟩
 exact h0 _ (List.mem_take_iff_getElem.2 ⟨j, by omega, rfl⟩)
theorem fncall (v : Value) (cs : Array Value) : (#[] : Array Value) ++ [v].toArray ++ cs = #[v] ++ cs := by simp
theorem ixT_c {l : List Tm} {a : Option Addr} {c : Nat} {fk : FuncId} {cs : Array Value} {p : Tm → Bool} {w : World} {ok : Nat → Prop} (hF1 : (Fact.sl a (l.flatMap tmC)).holds ok w) (hl : l.length ≤ 100000) (hgo : goes Tryz.prog fk = true) (hfn : ∀ x ∈ l, ∀ w', Below w.heap.size w w' → Calls Tryz.prog fk (#[.agg (tmC x).toArray] ++ cs) w' fun e w2 => e = .returned (.bool (p x)) ∧ Below w'.heap.size w' w2) :
  Cw 211 #[.slice a l.length c, .func (.func fk) #[] cs] w (.int .i64 (ixP p l)) := by
 refine En [Fact.sl a (l.flatMap tmC)] [(0, .slice a l.length c), (1, .func (.func fk) #[] cs)] Tryz.func211 rfl Tryz.ntmps211 rfl (Ac rfl (Ac rfl (An _))) (Fc (fact_any hF1) Fn) ?_
 refine Cs (Ka rfl (Nt (Cq (Cs (Km rfl (Kq rfl (rd_len rfl rfl u97) (Km rfl (Nt (Cb ?_)))))))))
 refine Lp (σ := Nat) [(0, _), (1, _), (7, _)] (fun gq => [(8, .int .i64 (gq : Int))]) (fun gq => gq ≤ l.length ∧ ∀ x ∈ l.take gq, p x = false) (fun gq => l.length - gq) (0) (S3 rfl rfl rfl) (S1 rfl) (by (try dsimp only); exact ⟨Nat.zero_le _, by simp⟩) ?_
 rintro i hinv1; (try dsimp only at hinv1 ⊢)
 obtain ⟨hi, hok⟩ := hinv1
 refine Cs (Kq rfl (rd_lss rfl rfl rfl) (Nt (Cq ?_)))
 refine Cd rfl (fun hc9 => ?_) (fun hc9 => ?_)
 ·(try simp only [sB] at hc9)
  have hil : i < l.length := by omega
  refine Ck (Xa (Cq (Cb (Cs (Km rfl (Ka rfl (Nt (Cs (Km rfl (Km rfl (Km rfl ?_)))))))))))
  refine Kq rfl (Ia rfl rfl rfl u97 (by kernel_rfl : _ = some 4) (by omega) (by (rw [flatMap_len _ _ 4 (fun _ => rfl)]; omega))) ?_
  refine Kq rfl (ldma _ rfl rfl u95 rfl (by kernel_rfl : _ = some 4) (fun _ => rfl) (by decide) rfl (by assumption)) ?_
  refine Ku rfl (og_callv rfl rfl rfl hgo (fncall _ _) (Kv fun w hS => hfn (l.getD i default) (getD_mem _ _ hil) w hS.below)) ?_
  refine Nt ?_
  refine Cd rfl (fun hc16 => ?_) (fun hc16 => ?_)
  ·(try simp only [sB] at hc16)
   refine Cs (Km rfl (Ka rfl (Nt (Ce (Xf (Xb (Xb (Xf (Xb ?_)))))))))
   exact R1 rfl rfl (by rw [ixP_at hil hok (by simpa using hc16)]; rfl)
  ·(try simp only [sB] at hc16)
   refine Ck (Xd (Xa (Cg (Kq rfl (Rz rfl rfl rfl (by omega)) (Km rfl (Nn ?_))))))
   refine Ly (i + 1) (by (try dsimp only); omega) (S3 rfl rfl rfl) (by refine (Sc ?_ (S0 _)) <;> (rfl)) ?_ (by (exact fun _ h => h))
   (try dsimp only)
   exact ⟨hil, all_take hil hok (by simpa using hc16)⟩
 ·(try simp only [sB] at hc9)
  refine Cx (Xc (Xc (Xe ?_)))
  obtain rfl : i = l.length := by omega
  rw [List.take_length] at hok
  refine Xa (Cs (Ka rfl (Nt (Ce ?_))))
  exact R1 rfl rfl (by rw [ixP_none hok]; rfl)
theorem cfT_c {l : List Tm} {a : Option Addr} {c : Nat} {fk : FuncId} {cs : Array Value} {p : Tm → Bool} {w : World} {ok : Nat → Prop} (hF1 : (Fact.sl a (l.flatMap tmC)).holds ok w) (hl : l.length ≤ 100000) (hgo : goes Tryz.prog fk = true) (hfn : ∀ x ∈ l, ∀ w', Below w.heap.size w w' → Calls Tryz.prog fk (#[.agg (tmC x).toArray] ++ cs) w' fun e w2 => e = .returned (.bool (p x)) ∧ Below w'.heap.size w' w2) :
  Cw 179 #[.slice a l.length c, .func (.func fk) #[] cs] w (.bool (l.any p)) := by
 refine En [Fact.sl a (l.flatMap tmC)] [(0, .slice a l.length c), (1, .func (.func fk) #[] cs)] Tryz.func179 rfl Tryz.ntmps179 rfl (Ac rfl (Ac rfl (An _))) (Fc (fact_any hF1) Fn) ?_
 refine Cs (Ka rfl (Nt (Cs (Km rfl (Km rfl ?_)))))
 refine Ku rfl (Oc rfl rfl (Kv fun w hS => ixT_c (fk := fk) (cs := cs) (p := p) (by (exact hS.sl)) (by exact hl) (by exact hgo) (by exact fun x hx w' hb => hfn x hx w' (hS.below.trans (hb.mono hS.below.size))))) ?_
 refine Kq rfl (rd_geq rfl rfl rfl) (Ka rfl (Nt (Ce ?_)))
 exact R1 rfl rfl (by rw [ixP_nonneg]; rfl)
theorem ixQ_c {l : List QA} {a : Option Addr} {c : Nat} {fk : FuncId} {cs : Array Value} {p : QA → Bool} {w : World} {ok : Nat → Prop} (hF1 : (Fact.sl a (l.flatMap qaC)).holds ok w) (hl : l.length ≤ 100000) (hgo : goes Tryz.prog fk = true) (hfn : ∀ x ∈ l, ∀ w', Below w.heap.size w w' → Calls Tryz.prog fk (#[.agg (qaC x).toArray] ++ cs) w' fun e w2 => e = .returned (.bool (p x)) ∧ Below w'.heap.size w' w2) :
  Cw 210 #[.slice a l.length c, .func (.func fk) #[] cs] w (.int .i64 (ixP p l)) := by
 refine En [Fact.sl a (l.flatMap qaC)] [(0, .slice a l.length c), (1, .func (.func fk) #[] cs)] Tryz.func210 rfl Tryz.ntmps210 rfl (Ac rfl (Ac rfl (An _))) (Fc (fact_any hF1) Fn) ?_
 refine Cs (Ka rfl (Nt (Cq (Cs (Km rfl (Kq rfl (rd_len rfl rfl u40) (Km rfl (Nt (Cb ?_)))))))))
 refine Lp (σ := Nat) [(0, _), (1, _), (7, _)] (fun gq => [(8, .int .i64 (gq : Int))]) (fun gq => gq ≤ l.length ∧ ∀ x ∈ l.take gq, p x = false) (fun gq => l.length - gq) (0) (S3 rfl rfl rfl) (S1 rfl) (by (try dsimp only); exact ⟨Nat.zero_le _, by simp⟩) ?_
 rintro i hinv1; (try dsimp only at hinv1 ⊢)
 obtain ⟨hi, hok⟩ := hinv1
 refine Cs (Kq rfl (rd_lss rfl rfl rfl) (Nt (Cq ?_)))
 refine Cd rfl (fun hc9 => ?_) (fun hc9 => ?_)
 ·(try simp only [sB] at hc9)
  have hil : i < l.length := by omega
  refine Ck (Xa (Cq (Cb (Cs (Km rfl (Ka rfl (Nt (Cs (Km rfl (Km rfl (Km rfl ?_)))))))))))
  refine Kq rfl (Ia rfl rfl rfl u40 (by kernel_rfl : _ = some 3) (by omega) (by (rw [flatMap_len _ _ 3 (fun _ => rfl)]; omega))) ?_
  refine Kq rfl (ldma _ rfl rfl u99 rfl (by kernel_rfl : _ = some 3) (fun _ => rfl) (by decide) rfl (by assumption)) ?_
  refine Ku rfl (og_callv rfl rfl rfl hgo (fncall _ _) (Kv fun w hS => hfn (l.getD i default) (getD_mem _ _ hil) w hS.below)) ?_
  refine Nt ?_
  refine Cd rfl (fun hc16 => ?_) (fun hc16 => ?_)
  ·(try simp only [sB] at hc16)
   refine Cs (Km rfl (Ka rfl (Nt (Ce (Xf (Xb (Xb (Xf (Xb ?_)))))))))
   exact R1 rfl rfl (by rw [ixP_at hil hok (by simpa using hc16)]; rfl)
  ·(try simp only [sB] at hc16)
   refine Ck (Xd (Xa (Cg (Kq rfl (Rz rfl rfl rfl (by omega)) (Km rfl (Nn ?_))))))
   refine Ly (i + 1) (by (try dsimp only); omega) (S3 rfl rfl rfl) (by refine (Sc ?_ (S0 _)) <;> (rfl)) ?_ (by (exact fun _ h => h))
   (try dsimp only)
   exact ⟨hil, all_take hil hok (by simpa using hc16)⟩
 ·(try simp only [sB] at hc9)
  refine Cx (Xc (Xc (Xe ?_)))
  obtain rfl : i = l.length := by omega
  rw [List.take_length] at hok
  refine Xa (Cs (Ka rfl (Nt (Ce ?_))))
  exact R1 rfl rfl (by rw [ixP_none hok]; rfl)
theorem cfQ_c {l : List QA} {a : Option Addr} {c : Nat} {fk : FuncId} {cs : Array Value} {p : QA → Bool} {w : World} {ok : Nat → Prop} (hF1 : (Fact.sl a (l.flatMap qaC)).holds ok w) (hl : l.length ≤ 100000) (hgo : goes Tryz.prog fk = true) (hfn : ∀ x ∈ l, ∀ w', Below w.heap.size w w' → Calls Tryz.prog fk (#[.agg (qaC x).toArray] ++ cs) w' fun e w2 => e = .returned (.bool (p x)) ∧ Below w'.heap.size w' w2) :
  Cw 177 #[.slice a l.length c, .func (.func fk) #[] cs] w (.bool (l.any p)) := by
 refine En [Fact.sl a (l.flatMap qaC)] [(0, .slice a l.length c), (1, .func (.func fk) #[] cs)] Tryz.func177 rfl Tryz.ntmps177 rfl (Ac rfl (Ac rfl (An _))) (Fc (fact_any hF1) Fn) ?_
 refine Cs (Ka rfl (Nt (Cs (Km rfl (Km rfl ?_)))))
 refine Ku rfl (Oc rfl rfl (Kv fun w hS => ixQ_c (fk := fk) (cs := cs) (p := p) (by (exact hS.sl)) (by exact hl) (by exact hgo) (by exact fun x hx w' hb => hfn x hx w' (hS.below.trans (hb.mono hS.below.size))))) ?_
 refine Kq rfl (rd_geq rfl rfl rfl) (Ka rfl (Nt (Ce ?_)))
 exact R1 rfl rfl (by rw [ixP_nonneg]; rfl)
theorem ixV_c {l : List Bs} {a : Option Addr} {c : Nat} {fk : FuncId} {cs : Array Value} {p : Bs → Bool} {w : World} {ok : Nat → Prop} (hF1 : (Fact.sl a (l.flatMap vrC)).holds ok w) (hl : l.length ≤ 100000) (hgo : goes Tryz.prog fk = true) (hfn : ∀ x ∈ l, ∀ w', Below w.heap.size w w' → Calls Tryz.prog fk (#[.agg (vrC x).toArray] ++ cs) w' fun e w2 => e = .returned (.bool (p x)) ∧ Below w'.heap.size w' w2) :
  Cw 212 #[.slice a l.length c, .func (.func fk) #[] cs] w (.int .i64 (ixP p l)) := by
 refine En [Fact.sl a (l.flatMap vrC)] [(0, .slice a l.length c), (1, .func (.func fk) #[] cs)] Tryz.func212 rfl Tryz.ntmps212 rfl (Ac rfl (Ac rfl (An _))) (Fc (fact_any hF1) Fn) ?_
 refine Cs (Ka rfl (Nt (Cq (Cs (Km rfl (Kq rfl (rd_len rfl rfl u39) (Km rfl (Nt (Cb ?_)))))))))
 refine Lp (σ := Nat) [(0, _), (1, _), (7, _)] (fun gq => [(8, .int .i64 (gq : Int))]) (fun gq => gq ≤ l.length ∧ ∀ x ∈ l.take gq, p x = false) (fun gq => l.length - gq) (0) (S3 rfl rfl rfl) (S1 rfl) (by (try dsimp only); exact ⟨Nat.zero_le _, by simp⟩) ?_
 rintro i hinv1; (try dsimp only at hinv1 ⊢)
 obtain ⟨hi, hok⟩ := hinv1
 refine Cs (Kq rfl (rd_lss rfl rfl rfl) (Nt (Cq ?_)))
 refine Cd rfl (fun hc9 => ?_) (fun hc9 => ?_)
 ·(try simp only [sB] at hc9)
  have hil : i < l.length := by omega
  refine Ck (Xa (Cq (Cb (Cs (Km rfl (Ka rfl (Nt (Cs (Km rfl (Km rfl (Km rfl ?_)))))))))))
  refine Kq rfl (Ib rfl rfl rfl u39 (by omega) (by (rw [flatMap_len _ _ 1 (fun _ => rfl)]; omega))) ?_
  refine Kq rfl (ldma _ rfl rfl u102 rfl (by kernel_rfl : _ = some 1) (fun _ => rfl) (by decide) (Nat.mul_one _).symm (by assumption)) ?_
  refine Ku rfl (og_callv rfl rfl rfl hgo (fncall _ _) (Kv fun w hS => hfn (l.getD i default) (getD_mem _ _ hil) w hS.below)) ?_
  refine Nt ?_
  refine Cd rfl (fun hc16 => ?_) (fun hc16 => ?_)
  ·(try simp only [sB] at hc16)
   refine Cs (Km rfl (Ka rfl (Nt (Ce (Xf (Xb (Xb (Xf (Xb ?_)))))))))
   exact R1 rfl rfl (by rw [ixP_at hil hok (by simpa using hc16)]; rfl)
  ·(try simp only [sB] at hc16)
   refine Ck (Xd (Xa (Cg (Kq rfl (Rz rfl rfl rfl (by omega)) (Km rfl (Nn ?_))))))
   refine Ly (i + 1) (by (try dsimp only); omega) (S3 rfl rfl rfl) (by refine (Sc ?_ (S0 _)) <;> (rfl)) ?_ (by (exact fun _ h => h))
   (try dsimp only)
   exact ⟨hil, all_take hil hok (by simpa using hc16)⟩
 ·(try simp only [sB] at hc9)
  refine Cx (Xc (Xc (Xe ?_)))
  obtain rfl : i = l.length := by omega
  rw [List.take_length] at hok
  refine Xa (Cs (Ka rfl (Nt (Ce ?_))))
  exact R1 rfl rfl (by rw [ixP_none hok]; rfl)
theorem cfV_c {l : List Bs} {a : Option Addr} {c : Nat} {fk : FuncId} {cs : Array Value} {p : Bs → Bool} {w : World} {ok : Nat → Prop} (hF1 : (Fact.sl a (l.flatMap vrC)).holds ok w) (hl : l.length ≤ 100000) (hgo : goes Tryz.prog fk = true) (hfn : ∀ x ∈ l, ∀ w', Below w.heap.size w w' → Calls Tryz.prog fk (#[.agg (vrC x).toArray] ++ cs) w' fun e w2 => e = .returned (.bool (p x)) ∧ Below w'.heap.size w' w2) :
  Cw 181 #[.slice a l.length c, .func (.func fk) #[] cs] w (.bool (l.any p)) := by
 refine En [Fact.sl a (l.flatMap vrC)] [(0, .slice a l.length c), (1, .func (.func fk) #[] cs)] Tryz.func181 rfl Tryz.ntmps181 rfl (Ac rfl (Ac rfl (An _))) (Fc (fact_any hF1) Fn) ?_
 refine Cs (Ka rfl (Nt (Cs (Km rfl (Km rfl ?_)))))
 refine Ku rfl (Oc rfl rfl (Kv fun w hS => ixV_c (fk := fk) (cs := cs) (p := p) (by (exact hS.sl)) (by exact hl) (by exact hgo) (by exact fun x hx w' hb => hfn x hx w' (hS.below.trans (hb.mono hS.below.size))))) ?_
 refine Kq rfl (rd_geq rfl rfl rfl) (Ka rfl (Nt (Ce ?_)))
 exact R1 rfl rfl (by rw [ixP_nonneg]; rfl)
theorem ixG_c {l : List Gp} {a : Option Addr} {c : Nat} {fk : FuncId} {cs : Array Value} {p : Gp → Bool} {w : World} {ok : Nat → Prop} (hF1 : (Fact.sl a (l.flatMap gpC)).holds ok w) (hl : l.length ≤ 100000) (hgo : goes Tryz.prog fk = true) (hfn : ∀ x ∈ l, ∀ w', Below w.heap.size w w' → Calls Tryz.prog fk (#[.agg (gpC x).toArray] ++ cs) w' fun e w2 => e = .returned (.bool (p x)) ∧ Below w'.heap.size w' w2) :
  Cw 213 #[.slice a l.length c, .func (.func fk) #[] cs] w (.int .i64 (ixP p l)) := by
 refine En [Fact.sl a (l.flatMap gpC)] [(0, .slice a l.length c), (1, .func (.func fk) #[] cs)] Tryz.func213 rfl Tryz.ntmps213 rfl (Ac rfl (Ac rfl (An _))) (Fc (fact_any hF1) Fn) ?_
 refine Cs (Ka rfl (Nt (Cq (Cs (Km rfl (Kq rfl (rd_len rfl rfl u38) (Km rfl (Nt (Cb ?_)))))))))
 refine Lp (σ := Nat) [(0, _), (1, _), (7, _)] (fun gq => [(8, .int .i64 (gq : Int))]) (fun gq => gq ≤ l.length ∧ ∀ x ∈ l.take gq, p x = false) (fun gq => l.length - gq) (0) (S3 rfl rfl rfl) (S1 rfl) (by (try dsimp only); exact ⟨Nat.zero_le _, by simp⟩) ?_
 rintro i hinv1; (try dsimp only at hinv1 ⊢)
 obtain ⟨hi, hok⟩ := hinv1
 refine Cs (Kq rfl (rd_lss rfl rfl rfl) (Nt (Cq ?_)))
 refine Cd rfl (fun hc9 => ?_) (fun hc9 => ?_)
 ·(try simp only [sB] at hc9)
  have hil : i < l.length := by omega
  refine Ck (Xa (Cq (Cb (Cs (Km rfl (Ka rfl (Nt (Cs (Km rfl (Km rfl (Km rfl ?_)))))))))))
  refine Kq rfl (Ia rfl rfl rfl u38 (by kernel_rfl : _ = some 2) (by omega) (by (rw [flatMap_len _ _ 2 (fun _ => rfl)]; omega))) ?_
  refine Kq rfl (ldma _ rfl rfl u26 rfl (by kernel_rfl : _ = some 2) (fun _ => rfl) (by decide) rfl (by assumption)) ?_
  refine Ku rfl (og_callv rfl rfl rfl hgo (fncall _ _) (Kv fun w hS => hfn (l.getD i default) (getD_mem _ _ hil) w hS.below)) ?_
  refine Nt ?_
  refine Cd rfl (fun hc16 => ?_) (fun hc16 => ?_)
  ·(try simp only [sB] at hc16)
   refine Cs (Km rfl (Ka rfl (Nt (Ce (Xf (Xb (Xb (Xf (Xb ?_)))))))))
   exact R1 rfl rfl (by rw [ixP_at hil hok (by simpa using hc16)]; rfl)
  ·(try simp only [sB] at hc16)
   refine Ck (Xd (Xa (Cg (Kq rfl (Rz rfl rfl rfl (by omega)) (Km rfl (Nn ?_))))))
   refine Ly (i + 1) (by (try dsimp only); omega) (S3 rfl rfl rfl) (by refine (Sc ?_ (S0 _)) <;> (rfl)) ?_ (by (exact fun _ h => h))
   (try dsimp only)
   exact ⟨hil, all_take hil hok (by simpa using hc16)⟩
 ·(try simp only [sB] at hc9)
  refine Cx (Xc (Xc (Xe ?_)))
  obtain rfl : i = l.length := by omega
  rw [List.take_length] at hok
  refine Xa (Cs (Ka rfl (Nt (Ce ?_))))
  exact R1 rfl rfl (by rw [ixP_none hok]; rfl)
theorem cfG_c {l : List Gp} {a : Option Addr} {c : Nat} {fk : FuncId} {cs : Array Value} {p : Gp → Bool} {w : World} {ok : Nat → Prop} (hF1 : (Fact.sl a (l.flatMap gpC)).holds ok w) (hl : l.length ≤ 100000) (hgo : goes Tryz.prog fk = true) (hfn : ∀ x ∈ l, ∀ w', Below w.heap.size w w' → Calls Tryz.prog fk (#[.agg (gpC x).toArray] ++ cs) w' fun e w2 => e = .returned (.bool (p x)) ∧ Below w'.heap.size w' w2) :
  Cw 183 #[.slice a l.length c, .func (.func fk) #[] cs] w (.bool (l.any p)) := by
 refine En [Fact.sl a (l.flatMap gpC)] [(0, .slice a l.length c), (1, .func (.func fk) #[] cs)] Tryz.func183 rfl Tryz.ntmps183 rfl (Ac rfl (Ac rfl (An _))) (Fc (fact_any hF1) Fn) ?_
 refine Cs (Ka rfl (Nt (Cs (Km rfl (Km rfl ?_)))))
 refine Ku rfl (Oc rfl rfl (Kv fun w hS => ixG_c (fk := fk) (cs := cs) (p := p) (by (exact hS.sl)) (by exact hl) (by exact hgo) (by exact fun x hx w' hb => hfn x hx w' (hS.below.trans (hb.mono hS.below.size))))) ?_
 refine Kq rfl (rd_geq rfl rfl rfl) (Ka rfl (Nt (Ce ?_)))
 exact R1 rfl rfl (by rw [ixP_nonneg]; rfl)
theorem ixZ_c {l : List Zs} {a : Option Addr} {c : Nat} {fk : FuncId} {cs : Array Value} {p : Zs → Bool} {w : World} {ok : Nat → Prop} (hF1 : (Fact.sl a (l.flatMap zc)).holds ok w) (hl : l.length ≤ 100000) (hgo : goes Tryz.prog fk = true) (hfn : ∀ x ∈ l, ∀ w', Below w.heap.size w w' → Calls Tryz.prog fk (#[.agg (zc x).toArray] ++ cs) w' fun e w2 => e = .returned (.bool (p x)) ∧ Below w'.heap.size w' w2) :
  Cw 139 #[.slice a l.length c, .func (.func fk) #[] cs] w (.int .i64 (ixP p l)) := by
 refine En [Fact.sl a (l.flatMap zc)] [(0, .slice a l.length c), (1, .func (.func fk) #[] cs)] Tryz.func139 rfl Tryz.ntmps139 rfl (Ac rfl (Ac rfl (An _))) (Fc (fact_any hF1) Fn) ?_
 refine Cs (Ka rfl (Nt (Cq (Cs (Km rfl (Kq rfl (rd_len rfl rfl u54) (Km rfl (Nt (Cb ?_)))))))))
 refine Lp (σ := Nat) [(0, _), (1, _), (7, _)] (fun gq => [(8, .int .i64 (gq : Int))]) (fun gq => gq ≤ l.length ∧ ∀ x ∈ l.take gq, p x = false) (fun gq => l.length - gq) (0) (S3 rfl rfl rfl) (S1 rfl) (by (try dsimp only); exact ⟨Nat.zero_le _, by simp⟩) ?_
 rintro i hinv1; (try dsimp only at hinv1 ⊢)
 obtain ⟨hi, hok⟩ := hinv1
 refine Cs (Kq rfl (rd_lss rfl rfl rfl) (Nt (Cq ?_)))
 refine Cd rfl (fun hc9 => ?_) (fun hc9 => ?_)
 ·(try simp only [sB] at hc9)
  have hil : i < l.length := by omega
  refine Ck (Xa (Cq (Cb (Cs (Km rfl (Ka rfl (Nt (Cs (Km rfl (Km rfl (Km rfl ?_)))))))))))
  refine Kq rfl (Ia rfl rfl rfl u54 (by kernel_rfl : _ = some 2) (by omega) (by (rw [flatMap_len _ _ 2 (fun _ => rfl)]; omega))) ?_
  refine Kq rfl (ldma _ rfl rfl u50 rfl (by kernel_rfl : _ = some 2) (fun _ => rfl) (by decide) rfl (by assumption)) ?_
  refine Ku rfl (og_callv rfl rfl rfl hgo (fncall _ _) (Kv fun w hS => hfn (l.getD i default) (getD_mem _ _ hil) w hS.below)) ?_
  refine Nt ?_
  refine Cd rfl (fun hc16 => ?_) (fun hc16 => ?_)
  ·(try simp only [sB] at hc16)
   refine Cs (Km rfl (Ka rfl (Nt (Ce (Xf (Xb (Xb (Xf (Xb ?_)))))))))
   exact R1 rfl rfl (by rw [ixP_at hil hok (by simpa using hc16)]; rfl)
  ·(try simp only [sB] at hc16)
   refine Ck (Xd (Xa (Cg (Kq rfl (Rz rfl rfl rfl (by omega)) (Km rfl (Nn ?_))))))
   refine Ly (i + 1) (by (try dsimp only); omega) (S3 rfl rfl rfl) (by refine (Sc ?_ (S0 _)) <;> (rfl)) ?_ (by (exact fun _ h => h))
   (try dsimp only)
   exact ⟨hil, all_take hil hok (by simpa using hc16)⟩
 ·(try simp only [sB] at hc9)
  refine Cx (Xc (Xc (Xe ?_)))
  obtain rfl : i = l.length := by omega
  rw [List.take_length] at hok
  refine Xa (Cs (Ka rfl (Nt (Ce ?_))))
  exact R1 rfl rfl (by rw [ixP_none hok]; rfl)
theorem cfZ_c {l : List Zs} {a : Option Addr} {c : Nat} {fk : FuncId} {cs : Array Value} {p : Zs → Bool} {w : World} {ok : Nat → Prop} (hF1 : (Fact.sl a (l.flatMap zc)).holds ok w) (hl : l.length ≤ 100000) (hgo : goes Tryz.prog fk = true) (hfn : ∀ x ∈ l, ∀ w', Below w.heap.size w w' → Calls Tryz.prog fk (#[.agg (zc x).toArray] ++ cs) w' fun e w2 => e = .returned (.bool (p x)) ∧ Below w'.heap.size w' w2) :
  Cw 92 #[.slice a l.length c, .func (.func fk) #[] cs] w (.bool (l.any p)) := by
 refine En [Fact.sl a (l.flatMap zc)] [(0, .slice a l.length c), (1, .func (.func fk) #[] cs)] Tryz.func92 rfl Tryz.ntmps92 rfl (Ac rfl (Ac rfl (An _))) (Fc (fact_any hF1) Fn) ?_
 refine Cs (Ka rfl (Nt (Cs (Km rfl (Km rfl ?_)))))
 refine Ku rfl (Oc rfl rfl (Kv fun w hS => ixZ_c (fk := fk) (cs := cs) (p := p) (by (exact hS.sl)) (by exact hl) (by exact hgo) (by exact fun x hx w' hb => hfn x hx w' (hS.below.trans (hb.mono hS.below.size))))) ?_
 refine Kq rfl (rd_geq rfl rfl rfl) (Ka rfl (Nt (Ce ?_)))
 exact R1 rfl rfl (by rw [ixP_nonneg]; rfl)
end Go.Proofs.YthkmpjobfdeoaaaGreatDoor
