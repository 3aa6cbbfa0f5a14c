/-
  Parts of the walk: Rpc Rik Siz Siy Siw Lin0 Gpl Hol Lin1.
-/
import Derived.Test.YthkmpjobfdeoaaaGreatDoorH17
namespace Go.Proofs.YthkmpjobfdeoaaaGreatDoor
open Go.RowKit
set_option linter.unusedSimpArgs false
set_option linter.unusedVariables false
set_option maxHeartbeats 600000
set_option maxRecDepth 20000
abbrev sA (p : PR) := addN p.lo p.sz
abbrev sM (p : PR) := mulN (sA p).1 p.msk
abbrev sB2 (p : PR) := addN p.bl p.bl
abbrev sC (p : PR) := addN (sB2 p).1 (sM p).1
abbrev sH (p : PR) := mulN p.han p.msk
def szE (p : PR) : Prop := (sA p).2 = 0 ∧ (sM p).2 = 0 ∧ (sB2 p).2 = 0 ∧ (sC p).2 = 0 ∧ (sH p).2 = 0
instance (p : PR) : Decidable (szE p) := inferInstanceAs (Decidable (_ ∧ _))
abbrev Tm := Bs × Int × Zs
abbrev Qn := Int × Bs × List Tm
abbrev Sm := List Gp × List Bs × List Qn
abbrev QA := Qn × Option Addr × Nat
structure SA where
 gs : List Gp
 vs : List Bs
 es : List QA
 ga : Option Addr
 gc : Nat
 va : Option Addr
 vc : Nat
 ea : Option Addr
 ec : Nat
def okT (nv : Nat) (t : Tm) : Prop := (0 ≤ t.2.1 ∧ t.2.1 < nv) ∧ okN t.1 ∧ okZ t.2.2
instance (nv : Nat) (t : Tm) : Decidable (okT nv t) := inferInstanceAs (Decidable (_ ∧ _))
def okQh (ng : Nat) (q : Qn) : Prop := (0 ≤ q.1 ∧ q.1 < ng) ∧ okN q.2.1
instance (ng : Nat) (q : Qn) : Decidable (okQh ng q) := inferInstanceAs (Decidable (_ ∧ _))
def okQ (ng nv : Nat) (q : Qn) : Prop := okQh ng q ∧ ∀ t ∈ q.2.2, okT nv t
instance (ng nv : Nat) (q : Qn) : Decidable (okQ ng nv q) := inferInstanceAs (Decidable (_ ∧ _))
def okG (g : Gp) : Prop := okN g.1 ∧ okN g.2
instance (g : Gp) : Decidable (okG g) := inferInstanceAs (Decidable (_ ∧ _))
def formS (s : Sm) : Prop := (∀ g ∈ s.1, okG g) ∧ (∀ v ∈ s.2.1, okN v) ∧ ∀ q ∈ s.2.2, okQ s.1.length s.2.1.length q
instance (s : Sm) : Decidable (formS s) := inferInstanceAs (Decidable (_ ∧ _))
def sizeS (s : Sm) : Prop := (s.1.length ≤ 8 ∧ s.2.1.length ≤ 64 ∧ s.2.2.length ≤ 64) ∧ ∀ q ∈ s.2.2, q.2.2.length ≤ 64
instance (s : Sm) : Decidable (sizeS s) := inferInstanceAs (Decidable (_ ∧ _))
def elQ (gs : List Gp) (q : Qn) : Prop := elG (gs.getD q.1.toNat default) q.2.1 ∧ ∀ t ∈ q.2.2, elG (gs.getD q.1.toNat default) t.1
instance (gs : List Gp) (q : Qn) : Decidable (elQ gs q) := inferInstanceAs (Decidable (_ ∧ _))
def elS (s : Sm) : Prop := (∀ g ∈ s.1, chkG g = 0) ∧ ∀ q ∈ s.2.2, elQ s.1 q
instance (s : Sm) : Decidable (elS s) := inferInstanceAs (Decidable (_ ∧ _))
def ordS (gs : List Gp) : Bs := ((gs.find? fun g => decide (g.2 ≠ [])).map (·.2)).getD []
def kdQ (gs : List Gp) (vs : List Bs) (q : Qn) : Prop := (gs.getD q.1.toNat default).2 ≠ [] ∨ ∀ t ∈ q.2.2, vs.getD t.2.1.toNat default ≠ []
instance (gs : List Gp) (vs : List Bs) (q : Qn) : Decidable (kdQ gs vs q) := inferInstanceAs (Decidable (_ ∨ _))
def kdS (s : Sm) : Prop := (∀ v ∈ s.2.1, v ≠ []) ∨ (ordS s.1 ≠ [] ∧ ∀ g ∈ s.1, ¬ (g.2 ≠ [] ∧ g.2 ≠ ordS s.1)) ∧ ∀ q ∈ s.2.2, kdQ s.1 s.2.1 q
instance (s : Sm) : Decidable (kdS s) := inferInstanceAs (Decidable (_ ∨ _))
def inV (q v : Bs) (x : Zs) : Prop := if v = [] then x.1 = false ∧ val x.2 < val q else val x.2 < val v
instance (q v : Bs) (x : Zs) : Decidable (inV q v x) := by unfold inV; infer_instance
def inR (s : Sm) (w : List Zs) : Prop := ∀ i, i < s.2.1.length → inV (ordS s.1) (s.2.1.getD i default) (w.getD i default)
instance (s : Sm) (w : List Zs) : Decidable (inR s w) := inferInstanceAs (Decidable (∀ i, i < s.2.1.length → _))
abbrev Un (m x : Nat) : Prop := Nat.gcd x m = 1
theorem un_pow {m x : Nat} (n : Nat) (h : Un m x) : Un m (x ^ n) := Nat.Coprime.pow_left n h
theorem un_mod {m x : Nat} : Un m (x % m) ↔ Un m x := by unfold Un; rw [← Nat.gcd_rec, Nat.gcd_comm]
theorem un_inv {m x : Nat} (hm : 0 < m) (h : Un m x) : x * invN x m % m = 1 % m := by
 obtain ⟨y, hy⟩ := gcd_unit hm h; exact invN_spec hm hy
theorem un_invU {m x : Nat} (hm : 0 < m) (h : Un m x) : Un m (invN x m) := unit_gcd (x := x) (by rw [Nat.mul_comm]; exact un_inv hm h)
theorem un_bs {m x : Nat} (hm : 0 < m) (h : Un m x) (e : Int) : Un m (if e < 0 then invN x m else x) := by split; exact un_invU hm h; exact h
theorem un_powI {m x : Nat} (hm : 0 < m) (h : Un m x) (e : Int) : Un m (powI m x e) := un_mod.2 (un_pow _ (un_bs hm h e))
theorem un_cancel {m a b c : Nat} (hm : 0 < m) (hc : Un m c) (h : a * c % m = b * c % m) : a % m = b % m := by
 have e := un_inv hm hc
 have h1 : ∀ x, x * c * invN c m % m = x % m := fun x => by rw [Nat.mul_assoc, ← mmr, e, mmr, Nat.mul_one]
 rw [← h1 a, ← h1 b, ← mml (a * c), h, mml]
abbrev Or (m q x : Nat) : Prop := x ^ q % m = 1 % m
theorem one_pow_mod (m n : Nat) : (1 % m) ^ n % m = 1 % m := by rw [pow_mod2, Nat.one_pow]
theorem powI_nat {m x n : Nat} : powI m x (n : Int) = x ^ n % m := by rw [powI, if_neg (by omega), Int.natAbs_natCast]
theorem powI_mod {m x : Nat} (e : Int) : powI m x e % m = powI m x e := by rw [powI, Nat.mod_mod]
theorem okZ_one : okZ (ofZ 1) := by decide +kernel
theorem prodS_two {g : Gp} {a b : Bs} {x y : Zs} (hg : chkG g = 0) (ha : elG g a) (hb : elG g b) (hx : okZ x) (hy : okZ y) :
  prodS g [a, b] [x, y] = (canon (powI (val g.1) (val a) (zv x) * powI (val g.1) (val b) (zv y) % val g.1), 0) := by
 have h0 : chkP g [a, b] [x, y] (decide ([a, b].length = [x, y].length)) = 0 := by
  have e1 : ∀ z ∈ [a, b], okN z := by intro z hz; simp at hz; rcases hz with rfl | rfl; exact ha.1; exact hb.1
  have e2 : ∀ z ∈ [x, y], okZ z := by intro z hz; simp at hz; rcases hz with rfl | rfl <;> assumption
  have e3 : ∀ z ∈ [a, b], elG g z := by intro z hz; simp at hz; rcases hz with rfl | rfl <;> assumption
  rw [chkP, if_neg (fun h => h e1), if_neg (fun h => h e2), if_neg (fun h => h hg), if_neg (by simp), if_neg (fun h => h e3)]
 rw [prodS, if_pos h0]; simp [prodL]
theorem prodS_one {g : Gp} {a : Bs} {x : Zs} (hg : chkG g = 0) (ha : elG g a) (hx : okZ x) : prodS g [a] [x] = (canon (powI (val g.1) (val a) (zv x)), 0) := by
 have h0 : chkP g [a] [x] (decide ([a].length = [x].length)) = 0 := by
  rw [chkP, if_neg (fun h => h (by simpa using ha.1)), if_neg (fun h => h (by simpa using hx)), if_neg (fun h => h hg), if_neg (by simp), if_neg (fun h => h (by simpa using ha))]
 rw [prodS, if_pos h0]; simp [prodL, powI_mod]
theorem elG_lt {g : Gp} {x : Bs} (hg : chkG g = 0) : 0 < val g.1 := by obtain ⟨_, _, h, _, _⟩ := chkG_ok hg; omega
section
variable {ok : Nat → Prop} {w0 w : World} {own : List Ent} {fs : List Fact}
end
end Go.Proofs.YthkmpjobfdeoaaaGreatDoor
