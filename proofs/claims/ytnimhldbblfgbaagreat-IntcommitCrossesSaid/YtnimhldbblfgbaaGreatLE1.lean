/-
  Parts of the walk: Gpl Knp Ile.
-/
import Derived.Test.YtnimhldbblfgbaaGreatL15
namespace Go.Proofs.YtnimhldbblfgbaaGreat
set_option linter.unusedSimpArgs false
set_option linter.unusedVariables false
set_option maxRecDepth 20000
open Go.RowKit
abbrev Un (m x : Nat) : Prop := Nat.gcd x m = 1
theorem un_mul {m x y : Nat} (h1 : Un m x) (h2 : Un m y) : Un m (x * y) := Nat.Coprime.mul_left h1 h2
theorem un_pow {m x : Nat} (n : Nat) (h : Un m x) : Un m (x ^ n) := Nat.Coprime.pow_left n h
theorem un_mod {m x : Nat} : Un m (x % m) ↔ Un m x := by unfold Un; rw [← Nat.gcd_rec, Nat.gcd_comm]
theorem un_inv {m x : Nat} (hm : 0 < m) (h : Un m x) : x * invN x m % m = 1 % m := by
 obtain ⟨y, hy⟩ := gcd_unit hm h; exact invN_spec hm hy
theorem un_invU {m x : Nat} (hm : 0 < m) (h : Un m x) : Un m (invN x m) := unit_gcd (x := x) (by rw [Nat.mul_comm]; exact un_inv hm h)
theorem un_bs {m x : Nat} (hm : 0 < m) (h : Un m x) (e : Int) : Un m (if e < 0 then invN x m else x) := by split; exact un_invU hm h; exact h
theorem un_powI {m x : Nat} (hm : 0 < m) (h : Un m x) (e : Int) : Un m (powI m x e) := un_mod.2 (un_pow _ (un_bs hm h e))
theorem un_cancel {m a b c : Nat} (hm : 0 < m) (hc : Un m c) (h : a * c % m = b * c % m) : a % m = b % m := by
 have e := un_inv hm hc
 have h1 : ∀ x, x * c * invN c m % m = x % m := fun x => by rw [Nat.mul_assoc, ← mmr, e, mmr, Nat.mul_one]
 rw [← h1 a, ← h1 b, ← mml (a * c), h, mml]
theorem un_prodL {α : Type} {m : Nat} (f : α → Nat) : ∀ l : List α, (∀ x ∈ l, Un m (f x)) → Un m (prodL f l)
 | [], _ => by simp [prodL, Un]
 | x :: l, h => un_mul (h x (by simp)) (un_prodL f l fun y hy => h y (List.mem_cons_of_mem _ hy))
/-- of order q -/
abbrev Or (m q x : Nat) : Prop := x ^ q % m = 1 % m
theorem or_mul {m q x y : Nat} (h1 : Or m q x) (h2 : Or m q y) : Or m q (x * y) := by
 unfold Or at *; rw [Nat.mul_pow, ← mml, h1, mml, Nat.one_mul, h2]
theorem one_pow_mod (m n : Nat) : (1 % m) ^ n % m = 1 % m := by rw [pow_mod2, Nat.one_pow]
theorem or_pow {m q x : Nat} (n : Nat) (h : Or m q x) : Or m q (x ^ n) := by
 unfold Or at *; rw [← Nat.pow_mul, Nat.mul_comm, Nat.pow_mul, ← pow_mod2, h, one_pow_mod]
theorem or_mod {m q x : Nat} : Or m q (x % m) ↔ Or m q x := by unfold Or; rw [pow_mod2]
theorem or_inv {m q x : Nat} (hm : 0 < m) (hu : Un m x) (h : Or m q x) : Or m q (invN x m) := by
 have e : (x * invN x m) ^ q % m = 1 % m := by rw [← pow_mod2, un_inv hm hu, one_pow_mod]
 unfold Or at *; rw [Nat.mul_pow, ← mml, h, mml, Nat.one_mul] at e; exact e
theorem or_powI {m q x : Nat} (hm : 0 < m) (hu : Un m x) (h : Or m q x) (e : Int) : Or m q (powI m x e) := by
 refine or_mod.2 (or_pow _ ?_); split; exact or_inv hm hu h; exact h
theorem or_prodL {α : Type} {m q : Nat} (f : α → Nat) : ∀ l : List α, (∀ x ∈ l, Or m q (f x)) → Or m q (prodL f l)
 | [], _ => by simp [prodL, Or]
 | x :: l, h => or_mul (h x (by simp)) (or_prodL f l fun y hy => h y (List.mem_cons_of_mem _ hy))
/-- a product is an element -/
theorem elG_prod {g : Gp} {l : List Bs} {es : List Zs} (h : (prodS g l es).2 = 0) : elG g (prodS g l es).1 := by
 have h0 : chkP g l es (decide (l.length = es.length)) = 0 := by
  unfold prodS at h; split at h
  ·assumption
  ·exact h
 obtain ⟨hok, hokz, hg, hs, hel⟩ := chkP_ok h0
 obtain ⟨hm, hq, hm2, _, _⟩ := chkG_ok hg
 rw [prodS, if_pos h0]
 have hm0 : 0 < val g.1 := by omega
 have hmem : ∀ p ∈ l.zip es, elG g p.1 := fun p hp => hel _ (List.of_mem_zip hp).1
 have hU : Un (val g.1) (prodL (fun p => powI (val g.1) (val p.1) (zv p.2)) (l.zip es)) := un_prodL _ _ fun p hp => un_powI hm0 (elG_gcd hg (hmem p hp)) _
 have hlt : prodL (fun p => powI (val g.1) (val p.1) (zv p.2)) (l.zip es) % val g.1 < val g.1 := Nat.mod_lt _ hm0
 have hbig : prodL (fun p => powI (val g.1) (val p.1) (zv p.2)) (l.zip es) % val g.1 < Big := Nat.lt_trans hlt (okN_val hm)
 refine ⟨okN_can hbig, fun h1 => ?_, by rw [val_canon]; exact hlt, ?_⟩
 ·have h2 : val (canon (prodL (fun p => powI (val g.1) (val p.1) (zv p.2)) (l.zip es) % val g.1)) = 0 := by dsimp only at h1; rw [h1]; rfl
  rw [val_canon] at h2
  have := un_mod.2 hU; rw [h2] at this; simp [Un] at this; omega
 ·rw [val_canon]; split
  ·exact un_mod.2 hU
  ·rename_i hq0
   have : Or (val g.1) (val g.2) (prodL (fun p => powI (val g.1) (val p.1) (zv p.2)) (l.zip es)) := or_prodL _ _ fun p hp => or_powI hm0 (elG_gcd hg (hmem p hp)) (by
    have := (hmem p hp).2.2.2; rw [if_neg hq0] at this; rw [Or, this, Nat.mod_eq_of_lt (by omega)]) _
   have h2 := or_mod.2 this; rw [Or, Nat.mod_eq_of_lt (show 1 < val g.1 by omega)] at h2; exact h2
/-! powers with integers -/
theorem powI_zero {m x : Nat} : powI m x 0 = 1 % m := by simp [powI]
theorem powI_nat {m x n : Nat} : powI m x (n : Int) = x ^ n % m := by rw [powI, if_neg (by omega), Int.natAbs_natCast]
theorem powI_mod {m x : Nat} (e : Int) : powI m x e % m = powI m x e := by rw [powI, Nat.mod_mod]
theorem powI_shift {m x : Nat} (hm : 0 < m) (h : Un m x) (z : Int) (n : Nat) (hn : 0 ≤ z + n) : powI m x z * x ^ n % m = x ^ (z + n).toNat % m := by
 rw [powI, mml]
 by_cases hz : z < 0
 ·rw [if_pos hz, show n = z.natAbs + (z + n).toNat by omega, Nat.pow_add, ← Nat.mul_assoc, ← Nat.mul_pow, Nat.mul_comm (invN x m) x, ← mml, ← pow_mod2, un_inv hm h, one_pow_mod, mml, Nat.one_mul]
  congr 2; omega
 ·rw [if_neg hz, ← Nat.pow_add]; congr 2; omega
theorem powI_add {m x : Nat} (hm : 0 < m) (h : Un m x) (a b : Int) : powI m x a * powI m x b % m = powI m x (a + b) := by
 rw [← powI_mod (a + b)]
 refine un_cancel hm (un_pow (a.natAbs + b.natAbs) h) ?_
 rw [powI_shift hm h _ _ (by omega), Nat.pow_add, show powI m x a * powI m x b * (x ^ a.natAbs * x ^ b.natAbs) = (powI m x a * x ^ a.natAbs) * (powI m x b * x ^ b.natAbs) by simp only [Nat.mul_comm, Nat.mul_left_comm, Nat.mul_assoc], ← mml, powI_shift hm h _ _ (by omega), mml, ← mmr, powI_shift hm h _ _ (by omega), mmr, ← Nat.pow_add]
 congr 2; omega
theorem powI_npow {m x : Nat} (hm : 0 < m) (h : Un m x) (a : Int) : ∀ n : Nat, powI m x a ^ n % m = powI m x (a * n)
 | 0 => by simp [powI_zero]
 | n + 1 => by
  rw [Nat.pow_succ, ← mml, powI_npow hm h a n, powI_add hm h]; congr 1
  rw [Int.natCast_add, Int.mul_add]; simp
theorem powI_inv {m x : Nat} (hm : 0 < m) (h : Un m x) (a : Int) : invN (powI m x a) m = powI m x (-a) := by
 refine invN_eq (by rw [← powI_mod]; exact Nat.mod_lt _ hm) ?_
 rw [powI_add hm h, show a + -a = 0 by omega, powI_zero]
theorem powI_mul {m x : Nat} (hm : 0 < m) (h : Un m x) (a b : Int) : powI m (powI m x a) b = powI m x (a * b) := by
 conv => lhs; rw [powI]
 by_cases hb : b < 0
 ·rw [if_pos hb, powI_inv hm h, powI_npow hm h]; congr 1
  rw [show (b.natAbs : Int) = -b by omega, Int.neg_mul_neg]
 ·rw [if_neg hb, powI_npow hm h]; congr 1
  rw [show (b.natAbs : Int) = b by omega]
theorem inv_mul {m x y : Nat} (hm : 0 < m) (h1 : Un m x) (h2 : Un m y) : invN (x * y % m) m = invN x m * invN y m % m := by
 rw [invN_mod]
 refine invN_eq (Nat.mod_lt _ hm) ?_
 rw [mmr, show x * y * (invN x m * invN y m) = (x * invN x m) * (y * invN y m) by simp only [Nat.mul_comm, Nat.mul_left_comm, Nat.mul_assoc], ← mml, un_inv hm h1, mml, Nat.one_mul, un_inv hm h2]
theorem powI_base {m x y : Nat} (hm : 0 < m) (h1 : Un m x) (h2 : Un m y) (z : Int) : powI m (x * y % m) z = powI m x z * powI m y z % m := by
 simp only [powI]
 by_cases hz : z < 0
 ·simp only [if_pos hz]; rw [inv_mul hm h1 h2, pow_mod2, Nat.mul_pow, mml, mmr]
 ·simp only [if_neg hz]; rw [pow_mod2, Nat.mul_pow, mml, mmr]
end Go.Proofs.YtnimhldbblfgbaaGreat
namespace Go.Proofs.YtnimhldbblfgbaaGreat
set_option linter.unusedSimpArgs false
set_option linter.unusedVariables false
set_option maxRecDepth 20000
open Go.RowKit
theorem okZ_one : okZ (ofZ 1) := by decide +kernel
theorem mulZ_one {x : Zs} (h : okZ x) : mulZ (ofZ 1) x = (x, 0) := by
 obtain ⟨n, hn, rfl⟩ := okZ_iff.1 h
 have := mulZ_of (a := 1) (b := n) (by decide +kernel) hn (by rw [Int.one_mul]; exact hn)
 rw [Int.one_mul] at this; exact this
theorem comS_ok {k : PK} {o : Opn} (h : (comS k o).2 = 0) : okK k ∧ okZ o.1 ∧ okZ o.2 ∧ chkK k = 0 ∧ comS k o = prodS k.1 [k.2.1, k.2.2] [o.1, o.2] := by
 unfold comS at h ⊢
 split at h
 ·simp at h
 ·rename_i h1; split at h
  ·rename_i h2; exact absurd h h2
  ·rename_i h2
   have h1 := Decidable.not_not.1 h1
   exact ⟨h1.1, h1.2.1, h1.2.2, Decidable.not_not.1 h2, by rw [if_neg (fun h => h h1), if_neg h2]⟩
/-- o is within the bounds -/
def withP (o : Opn) (v r : Bs) : Prop := val o.1.2 < val v ∧ val o.2.2 < val r
instance (o : Opn) (v r : Bs) : Decidable (withP o v r) := inferInstanceAs (Decidable (_ ∧ _))
theorem okT_trm {n : Nat} {b : Bs} {v : Int} (hb : okN b) (h0 : 0 ≤ v) (h1 : v < n) : okT n (trm b v) := ⟨⟨h0, h1⟩, hb, okZ_one⟩
theorem exT_trm {w : List Zs} {b : Bs} {v : Int} (h : okZ (w.getD v.toNat default)) : exT w (trm b v) = (w.getD v.toNat default, 0) := mulZ_one h
/-- an equation of two terms -/
theorem imQ_two {gs : List Gp} {w : List Zs} {gr i j : Int} {t a b : Bs} (h1 : okZ (w.getD i.toNat default)) (h2 : okZ (w.getD j.toNat default)) : imQ gs w (gr, t, [trm a i, trm b j]) = prodS (gs.getD gr.toNat default) [a, b] [w.getD i.toNat default, w.getD j.toNat default] := by
 have e : exQ w (gr, t, [trm a i, trm b j]) = ([w.getD i.toNat default, w.getD j.toNat default], 0) := by
  have e1 := exT_trm (b := a) h1; have e2 := exT_trm (b := b) h2
  simp only [exQ, List.map_cons, List.map_nil, e1, e2, errL]; simp
 rw [imQ, e]; simp
theorem kn_chk {k : PK} {c v r : Bs} (hk : chkI k = 0) (hc : okN c) (hec : elG k.1 c) (hv : okN v) (hr : okN r) (hv0 : v ≠ []) (hr0 : r ≠ []) : formS (knQ k c v r) ∧ chkS (knQ k c v r) = 0 := by
 obtain ⟨hok, hg, hel, ho⟩ := chkI_ok hk
 have hf : formS (knQ k c v r) := by
  refine ⟨?_, ?_, ?_⟩
  ·intro g hg; simp [knQ] at hg; subst hg; exact ⟨hok.1, hok.2.1⟩
  ·intro x hx; simp [knQ] at hx; rcases hx with rfl | rfl <;> assumption
  ·intro q hq; simp [knQ] at hq; subst hq
   refine ⟨⟨⟨Int.le_refl 0, by simp [knQ]⟩, hc⟩, ?_⟩
   intro t ht; simp [trm] at ht; rcases ht with rfl | rfl
   ·exact okT_trm hok.2.2.1 (by decide) (by simp [knQ])
   ·exact okT_trm hok.2.2.2 (by decide) (by simp [knQ])
 have hs : sizeS (knQ k c v r) := by simp [sizeS, knQ]
 have he : elS (knQ k c v r) := by
  refine ⟨?_, ?_⟩
  ·intro g hg1; simp [knQ] at hg1; subst hg1; exact hg
  ·intro q hq; simp [knQ] at hq; subst hq
   refine ⟨hec, ?_⟩
   intro t ht; simp [trm] at ht; rcases ht with rfl | rfl
   ·exact hel.1
   ·exact hel.2.1
 have hd : kdS (knQ k c v r) := Or.inl (by intro x hx; simp [knQ] at hx; rcases hx with rfl | rfl <;> assumption)
 exact ⟨hf, by simp [chkS, hf, hs, he, hd]⟩
/-- the statement Knows of a commitment -/
theorem kn_law {k : PK} {o : Opn} {v r : Bs} (hk : chkI k = 0) (h : (comS k o).2 = 0) :
  (knS k (comS k o).1 v r).2 = 3 ∨ (knS k (comS k o).1 v r).2 = 2 ∨ ((knS k (comS k o).1 v r).2 = 0 ∧ okN v ∧ okN r ∧ hldS (knS k (comS k o).1 v r).1 [o.1, o.2] = (decide (withP o v r), 0)) := by
 obtain ⟨hok, hz1, hz2, _, hcm⟩ := comS_ok h
 obtain ⟨_, hg, _, _⟩ := chkI_ok hk
 have hec : elG k.1 (comS k o).1 := by rw [hcm]; exact elG_prod (by rw [← hcm]; exact h)
 obtain ⟨c, hc⟩ : ∃ c, (comS k o).1 = c := ⟨_, rfl⟩
 rw [hc] at hec ⊢
 by_cases h1 : okK k ∧ okN c ∧ okN v ∧ okN r
 ·have hE : knE k c v r = bndE v r := by rw [knE, if_neg (fun h => h h1), if_neg (fun h => h hk), if_neg (fun h => h hec)]
  by_cases h2 : v = [] ∨ r = []
  ·right; left; rw [knS, hE, bndE, if_pos h2]; rfl
  ·right; right
   have e : knS k c v r = (knQ k c v r, 0) := by rw [knS, hE, bndE, if_neg h2]; rfl
   have hv0 : v ≠ [] := fun h => h2 (Or.inl h)
   have hr0 : r ≠ [] := fun h => h2 (Or.inr h)
   obtain ⟨hf, hs⟩ := kn_chk hk h1.2.1 hec h1.2.2.1 h1.2.2.2 hv0 hr0
   rw [e]
   refine ⟨rfl, h1.2.2.1, h1.2.2.2, ?_⟩
   have hrd : rdyS (knQ k c v r) [o.1, o.2] = 0 := by
    rw [rdyS, if_neg (fun h => h hf), if_neg (fun h => h (by intro x hx; simp at hx; rcases hx with rfl | rfl <;> assumption)), if_neg (fun h => h hs), if_neg (fun h => h rfl)]
   have hin : inR (knQ k c v r) [o.1, o.2] ↔ withP o v r := by
    constructor
    ·intro h3
     have a1 := h3 0 (by simp [knQ]); have a2 := h3 1 (by simp [knQ])
     simp [knQ, inV, hv0, hr0] at a1 a2; exact ⟨a1, a2⟩
    ·intro h3 i hi
     simp [knQ] at hi
     rcases i with _ | _ | i
     ·simp [knQ, inV, hv0]; exact h3.1
     ·simp [knQ, inV, hr0]; exact h3.2
     ·omega
   have hI : imQ [k.1] [o.1, o.2] (0, c, [trm k.2.1 0, trm k.2.2 1]) = (c, 0) := by
    rw [imQ_two (by exact hz1) (by exact hz2)]
    show prodS k.1 [k.2.1, k.2.2] [o.1, o.2] = _
    rw [← hcm]; exact Prod.ext hc h
   have him : imS (knQ k c v r) [o.1, o.2] = ([c], 0) := by
    simp only [imS, knQ, List.map_cons, List.map_nil, hI, errL]; simp
   by_cases h3 : inR (knQ k c v r) [o.1, o.2]
   ·rw [hldS, if_neg (fun h => h hrd), if_neg (fun h => h h3), him, if_neg (fun h => h rfl), decide_eq_true (hin.1 h3)]
    exact congrArg (fun b => (b, (0 : Int))) (decide_eq_true rfl)
   ·rw [hldS, if_neg (fun h => h hrd), if_pos h3, decide_eq_false (fun h => h3 (hin.2 h))]
 ·left; rw [knS, show knE k c v r = 3 by rw [knE, if_pos h1]]; rfl
end Go.Proofs.YtnimhldbblfgbaaGreat
namespace Go.Proofs.YtnimhldbblfgbaaGreat
set_option linter.unusedSimpArgs false
set_option linter.unusedVariables false
set_option maxRecDepth 20000
set_option maxHeartbeats 600000
open Go.RowKit
def smP (l : List Opn) : Prop := ∀ o ∈ l, o.1.2.length ≤ 16 ∧ o.2.2.length ≤ 16
instance (l : List Opn) : Decidable (smP l) := inferInstanceAs (Decidable (∀ o ∈ l, _))
theorem small26_c {l : List Opn} {a : Option Addr} {c : Nat} {w : World} {ok : Nat → Prop} (hF1 : (Fact.sl a (l.flatMap opC)).holds ok w) (hl : l.length ≤ 100000) :
  Calls Tryz.prog 21 #[.slice a l.length c] w fun e w' => e = .returned (.bool (decide (smP l))) ∧ Below w.heap.size w w' := by
 refine enter (S := St (fun _ => True) w [] ([Fact.sl a (l.flatMap opC)])) (L := [(0, .slice a l.length c)]) Tryz.func21 rfl Tryz.ntmps21 rfl (args_cons rfl (args_nil _)) (St.start (fun _ _ => trivial) (facts_cons (fact_any hF1) facts_nil)) ?_
 refine WC.sr (Ka rfl (WL.nt (WC.seq (WC.sr (Ka rfl (WL.nt (WC.block ?_)))))))
 refine WC.loopP (σ := Nat) [(0, _)] (fun gq => [(3, .int .i64 (gq : Int))]) (fun gq => gq ≤ l.length ∧ ∀ o ∈ l.take gq, o.1.2.length ≤ 16 ∧ o.2.2.length ≤ 16) (fun gq => l.length - gq) (0) (sub_cons rfl (sub_nil _)) (sub_cons rfl (sub_nil _)) (by (try dsimp only); exact ⟨Nat.zero_le _, by simp⟩) ?_
 rintro i hinv1; (try dsimp only at hinv1 ⊢)
 obtain ⟨hi, hok⟩ := hinv1
 refine WC.seq (WC.sr (Km rfl (Km rfl (Kq rfl (rd_len rfl rfl Tryz.underlying68) (Kq rfl (rd_lss rfl rfl rfl) (WL.nt ?_))))))
 refine WC.cond rfl (fun hc7 => ?_) (fun hc7 => ?_)
 ·(try simp only [sB] at hc7)
  have hil : i < l.length := by omega
  refine WC.skip (WX.then_normal (WC.seq (WC.block (WC.seq ?_))))
  refine WC.free0 [0, 1, 2, 3, 4, 5, 6, 7, 8, 9, 10, 11, 12, 13, 14] [] [0, 0, 0, 0, 0, 0, 0, 0, 0, 0, 0, 0, 3, 1, 0] (by kernel_rfl) (by kernel_rfl) rfl ?_
  refine Kj rfl (rd_move rfl rfl) ?_
  refine Kj rfl (rd_move rfl rfl) ?_
  (refine Kj rfl (iaf rfl rfl rfl Tryz.underlying68 (by kernel_rfl : _ = some 4) ?_ ?_ (by (try simp only [sN, Int.reduceToNat, Nat.reduceAdd, Nat.reduceMul, Nat.reduceSub]); rfl)) ?_; (focus (omega)); (focus ((rw [flatMap_len _ _ 4 (fun _ => rfl)]; omega))))
  (refine Kj rfl (faf rfl rfl Tryz.underlying47 rfl (by kernel_rfl) (by (try simp only [sN, Int.reduceToNat, Nat.reduceAdd, Nat.reduceMul, Nat.reduceSub]); rfl)) ?_)
  (refine Kj rfl (faf rfl rfl Tryz.underlying45 rfl (by kernel_rfl) (by (try simp only [sN, Int.reduceToNat, Nat.reduceAdd, Nat.reduceMul, Nat.reduceSub]); rfl)) ?_)
  refine Kj rfl (ldmf (l := l) (f := opC) (sz := 4) i 1 rfl rfl Tryz.underlying22 rfl (fun _ => rfl) rfl hil (by decide) rfl) ?_
  refine Kj rfl (rd_move rfl rfl) ?_
  refine Kj rfl (rd_move rfl rfl) ?_
  (refine Kj rfl (iaf rfl rfl rfl Tryz.underlying68 (by kernel_rfl : _ = some 4) ?_ ?_ (by (try simp only [sN, Int.reduceToNat, Nat.reduceAdd, Nat.reduceMul, Nat.reduceSub]); rfl)) ?_; (focus (omega)); (focus ((rw [flatMap_len _ _ 4 (fun _ => rfl)]; omega))))
  (refine Kj rfl (faf rfl rfl Tryz.underlying47 rfl (by kernel_rfl) (by (try simp only [sN, Int.reduceToNat, Nat.reduceAdd, Nat.reduceMul, Nat.reduceSub]); rfl)) ?_)
  (refine Kj rfl (rd_fa rfl rfl Tryz.underlying45 rfl (by kernel_rfl) (by (try simp only [sN, Int.reduceToNat, Nat.reduceAdd, Nat.reduceMul, Nat.reduceSub]); rfl)) ?_)
  refine Kj rfl (ldmf (l := l) (f := opC) (sz := 4) i 3 rfl rfl Tryz.underlying22 rfl (fun _ => rfl) rfl hil (by decide) rfl) ?_
  refine WJ.f rfl rfl rfl rfl rfl (fr_bs1 rfl rfl Tryz.underlying60 (by kernel_rfl : _ = some (some (.string (S [])), 1, 16)) rfl (by simp only [List.map]; rfl) rfl rfl ?_ (by decide)) ?_
  ·simp [Value.cells]
  intro b22
  refine WJ.gv rfl rfl rfl rfl rfl (fun ext => og_call rfl rfl (by kernel_rfl) (keep_val fun w hS => short26_c (l := [(l.getD i default).1.2, (l.getD i default).2.2]) (by (exact hS.os)) (by (simp <;> omega)))) ?_
  refine Kj rfl (rd_not rfl rfl) ?_
  refine WJ.nil ?_
  refine WL.nt ?_
  refine WC.cond rfl (fun hc24 => ?_) (fun hc24 => ?_)
  ·(try simp only [sB] at hc24)
   have hn : ¬ smP l := fun h => by
    have h1 := h _ (getD_mem l i hil)
    refine hc24 ?_
    intro x hx; simp at hx; rcases hx with rfl | rfl
    ·exact h1.1
    ·exact h1.2
   refine WC.sr (Ka rfl (WL.nt (WC.ret (WX.block_ret (WX.then_ret (WX.then_ret (WX.block_ret (WX.then_ret ?_))))))))
   exact WX.retN rfl (.tmp rfl .nil) fun w' hS => ⟨by rw [decide_eq_false hn]; rfl, hS.below⟩
  ·(try simp only [sB] at hc24)
   have hy : shP [(l.getD i default).1.2, (l.getD i default).2.2] := hc24
   refine WC.skip (WX.block_normal (WX.then_normal (WC.region (Km rfl ?_))))
   (refine Kq rfl (rd_add64nl rfl rfl rfl ?_) ?_; (focus (omega)))
   refine Ka rfl (WL.nil ?_)
   refine WX.loopP (i + 1) (by (try dsimp only); omega) (sub_cons rfl (sub_nil _)) (by refine (sub_cons ?_ (sub_nil _)) <;> (rfl)) ?_ (by (exact st_sub))
   (try dsimp only)
   exact ⟨hil, all_take hil hok ⟨hy _ (by simp), hy _ (by simp)⟩⟩
 ·(try simp only [sB] at hc7)
  refine WC.exit (WX.then_exit (WX.then_exit (WX.block_exit ?_)))
  obtain rfl : i = l.length := by omega
  rw [List.take_length] at hok
  refine WX.then_normal (WC.sr (Ka rfl (WL.nt (WC.ret ?_))))
  exact WX.retN rfl (.tmp rfl .nil) fun w' hS => ⟨by rw [decide_eq_true (show smP l from hok)]; rfl, hS.below⟩
theorem within26_c {o : Opn} {v r : Bs} {w : World} :
  Calls Tryz.prog 26 #[opV o, .string (S v), .string (S r)] w fun e w' => e = .returned (.bool (decide (cmpN o.1.2 v < 0 ∧ cmpN o.2.2 r < 0))) ∧ Below w.heap.size w w' := by
 refine enter (S := St (fun _ => True) w [] ([])) (L := [(0, opV o), (1, .string (S v)), (2, .string (S r))]) Tryz.func26 rfl Tryz.ntmps26 rfl (args_cons rfl (args_cons rfl (args_cons rfl (args_nil _)))) (St.start (fun _ _ => trivial) facts_nil) ?_
 refine WC.sr ?_
 refine Kh rfl (og_box rfl rfl (by (exact cells_agg _))) ?_
 intro b3
 refine Ka rfl (WL.nt (WC.sr ?_))
 refine Kq rfl (rd_fa (q := 0) rfl rfl Tryz.underlying47 rfl (by kernel_rfl) rfl) ?_
 refine Kq rfl (rd_fa (q := 1) rfl rfl Tryz.underlying45 rfl (by kernel_rfl) rfl) ?_
 refine Kq rfl (ld rfl rfl .tc Tryz.underlying22 rfl (by rfl)) ?_
 refine Km rfl ?_
 refine Kh rfl (og_call rfl rfl (by kernel_rfl) (keep_val fun w hS => Cmp_c (a := o.1.2) (b := v))) ?_
 intro _
 refine Kq rfl (rd_lss rfl rfl rfl) (Km rfl ?_)
 refine WL.bool 13 rfl (fun hg13 => ?_) (fun hg13 => ?_)
 ·(try simp only [sB] at hg13)
  refine Kq rfl (rd_fa (q := 2) rfl rfl Tryz.underlying47 rfl (by kernel_rfl) rfl) ?_
  refine Kq rfl (rd_fa (q := 3) rfl rfl Tryz.underlying45 rfl (by kernel_rfl) rfl) ?_
  refine Kq rfl (ld rfl rfl .tc Tryz.underlying22 rfl (by rfl)) ?_
  refine Km rfl ?_
  refine Kh rfl (og_call rfl rfl (by kernel_rfl) (keep_val fun w hS => Cmp_c (a := o.2.2) (b := r))) ?_
  intro _
  refine Kq rfl (rd_lss rfl rfl rfl) (Kq rfl (rd_pickt rfl rfl rfl) (Ka rfl (WL.nt (WC.ret ?_))))
  exact WX.retN rfl (.tmp rfl .nil) fun w' hS => ⟨by (simp [*, tup]; done), hS.below⟩
 ·(try simp only [sB] at hg13)
  refine Kt rfl (Kt rfl (Kt rfl (Kt rfl (Kt rfl (Kt rfl (Kq rfl (rd_pickf rfl rfl rfl) (Ka rfl (WL.nt (WC.ret ?_)))))))))
  exact WX.retN rfl (.tmp rfl .nil) fun w' hS => ⟨by (simp [*, tup]; omega), hS.below⟩
theorem with_iff {o : Opn} {v r : Bs} (h1 : okZ o.1) (h2 : okZ o.2) (hv : okN v) (hr : okN r) : (cmpN o.1.2 v < 0 ∧ cmpN o.2.2 r < 0) ↔ withP o v r := by
 rw [cmpN_ok h1.1 hv, cmpN_ok h2.1 hr, withP, cmpI_neg, cmpI_neg]
theorem with_dec {o : Opn} {v r : Bs} (h1 : okZ o.1) (h2 : okZ o.2) (hv : okN v) (hr : okN r) : decide (cmpN o.1.2 v < 0 ∧ cmpN o.2.2 r < 0) = decide (withP o v r) := decide_eq_decide.2 (with_iff h1 h2 hv hr)
theorem icknowl_c {k : PK} {o : Opn} {x y : Bs} {w : World} :
  Calls Tryz.prog 5 #[pkV k, opV o, .agg #[.string (S x), .string (S y)]] w fun e w' => e = .returned (.bool true) ∧ Below w.heap.size w w' := by
 refine enter (S := St (fun _ => True) w [] ([])) (L := [(0, pkV k), (1, opV o), (2, .agg #[.string (S x), .string (S y)])]) Tryz.func5 rfl Tryz.ntmps5 rfl (args_cons rfl (args_cons rfl (args_cons rfl (args_nil _)))) (St.start (fun _ _ => trivial) facts_nil) ?_
 refine WC.sr ?_
 refine Kh rfl (og_box rfl rfl (by (exact cells_agg _))) ?_
 intro b3
 refine Kh rfl (og_box rfl rfl (by (exact cells_agg _))) ?_
 intro b4
 refine Kh rfl (og_box rfl rfl (by (exact cells_agg _))) ?_
 intro b5
 refine Ka rfl (WL.nt (WC.seq ?_))
 refine WC.joinP (σ := Unit) [(3, _), (4, _), (5, _)] (fun gq => [(31, .bool (decide (¬ (few14 k ∧ smP [o] ∧ shP [x, y] ∧ chkI k = 0))))]) (fun gq => True) (sub_cons rfl (sub_cons rfl (sub_cons rfl (sub_nil _)))) ?_ ?_
 ·skip
  refine WC.region ?_
  refine Kq rfl (lda rfl rfl .tc Tryz.underlying26 rfl ?_) ?_
  ·kernel_rfl
  refine Kh rfl (og_call rfl rfl (by kernel_rfl) (keep_val fun w hS => few14_c (k := k))) ?_
  intro _
  refine Kq rfl (rd_not rfl rfl) (Km rfl ?_)
  refine WL.bool 16 rfl (fun hg16 => ?_) (fun hg16 => ?_)
  ·(try simp only [sB] at hg16)
   refine Kt rfl (Kt rfl (Kt rfl (Kt rfl (Kq rfl (rd_pickt rfl rfl rfl) (Km rfl (Kt rfl (Kt rfl (Kt rfl (Kq rfl (rd_pickt rfl rfl rfl) (Km rfl (Kt rfl ?_)))))))))))
   refine Kt rfl (Kt rfl (Kq rfl (rd_pickt rfl rfl rfl) (WL.nil ?_)))
   refine WX.joinP (()) (sub_cons rfl (sub_cons rfl (sub_cons rfl (sub_nil _)))) (by refine (sub_cons ?_ (sub_nil _)) <;> ((refine slot_b rfl ?_; (try dsimp only); (simp [*]; done)))) ?_ (by (exact fun _ h => h))
   (try dsimp only)
   done
  ·(try simp only [sB] at hg16)
   refine Kq rfl (lda rfl rfl .tc Tryz.underlying47 rfl ?_) ?_
   ·kernel_rfl
   refine Kh rfl (og_bsN rfl rfl Tryz.underlying68 (by kernel_rfl : _ = some (some (.agg #[.bool false, .string (S []), .bool false, .string (S [])]), 4, 48)) (by kernel_rfl) (by decide) rfl rfl (by (simp [Value.cells]; done)) (by (exact cells_one _)) (by decide)) ?_
   intro b18
   refine Kh rfl (og_call rfl rfl (by kernel_rfl) (keep_val fun w hS => small26_c (l := [o]) (by (exact hS.os)) (by (simp <;> omega)))) ?_
   intro _
   refine Kq rfl (rd_not rfl rfl) (Kq rfl (rd_pickf rfl rfl rfl) (Km rfl ?_))
   refine WL.bool 22 rfl (fun hg22 => ?_) (fun hg22 => ?_)
   ·(try simp only [sB] at hg22)
    refine Kt rfl (Kt rfl (Kt rfl (Kq rfl (rd_pickt rfl rfl rfl) (Km rfl (Kt rfl (Kt rfl (Kt rfl (Kq rfl (rd_pickt rfl rfl rfl) (WL.nil ?_)))))))))
    refine WX.joinP (()) (sub_cons rfl (sub_cons rfl (sub_cons rfl (sub_nil _)))) (by refine (sub_cons ?_ (sub_nil _)) <;> ((refine slot_b rfl ?_; (try dsimp only); (simp [*]; done)))) ?_ (by (exact st_sub))
    (try dsimp only)
    done
   ·(try simp only [sB] at hg22)
    refine Kq rfl (rd_sla rfl rfl Tryz.underlying56 (by kernel_rfl : _ = some 1)) ?_
    refine Kh rfl (og_call rfl rfl (by kernel_rfl) (keep_val fun w hS => short26_c (l := [x, y]) (by (exact hS.os)) (by (simp <;> omega)))) ?_
    intro _
    refine Kq rfl (rd_not rfl rfl) (Kq rfl (rd_pickf rfl rfl rfl) (Km rfl ?_))
    refine WL.bool 27 rfl (fun hg27 => ?_) (fun hg27 => ?_)
    ·(try simp only [sB] at hg27)
     refine Kt rfl (Kt rfl (Kt rfl (Kq rfl (rd_pickt rfl rfl rfl) (WL.nil ?_))))
     refine WX.joinP (()) (sub_cons rfl (sub_cons rfl (sub_cons rfl (sub_nil _)))) (by refine (sub_cons ?_ (sub_nil _)) <;> ((refine slot_b rfl ?_; (try dsimp only); (simp [*]; done)))) ?_ (by (exact st_sub))
     (try dsimp only)
     done
    ·(try simp only [sB] at hg27)
     refine Kq rfl (lda rfl rfl .tc Tryz.underlying26 rfl ?_) ?_
     ·kernel_rfl
     refine Kh rfl (og_call rfl rfl (by kernel_rfl) (keep_val fun w hS => icheck_c (k := k) (by exact (show few14 k by assumption).1))) ?_
     intro _
     refine Kq rfl (rd_neq rfl rfl rfl) (Kq rfl (rd_pickf rfl rfl rfl) (WL.nil ?_))
     refine WX.joinP (()) (sub_cons rfl (sub_cons rfl (sub_cons rfl (sub_nil _)))) (by refine (sub_cons ?_ (sub_nil _)) <;> ((refine slot_b rfl ?_; (try dsimp only); (simp [*]; done)))) ?_ (by (exact st_sub))
     (try dsimp only)
     done
 ·rintro _ hmeet; (try dsimp only at hmeet ⊢)
  refine WC.cond rfl (fun hc31 => ?_) (fun hc31 => ?_)
  ·(try simp only [sB] at hc31)
   refine WC.sr ?_
   refine Kh rfl (og_call rfl rfl (by kernel_rfl) (keep_val fun w hS => awake26_c)) ?_
   intro _
   refine Ka rfl (WL.nt (WC.ret (WX.then_ret ?_)))
   exact WX.retN rfl (.tmp rfl .nil) fun w' hS => ⟨by rfl, hS.below⟩
  ·(try simp only [sB] at hc31)
   obtain ⟨hfw, hsm, hsh, hk⟩ := Decidable.not_not.1 hc31
   have hm8 := hfw.1
   refine WC.skip (WX.then_normal (WC.sr ?_))
   refine Kq rfl (lda rfl rfl .tc Tryz.underlying26 rfl ?_) ?_
   ·kernel_rfl
   refine Kq rfl (lda rfl rfl .tc Tryz.underlying47 rfl ?_) ?_
   ·kernel_rfl
   refine Kh rfl (og_call rfl rfl (by kernel_rfl) (keep_val fun w hS => commit_c (k := k) (o := o) (by assumption))) ?_
   intro _
   refine Km rfl (Kq rfl (rd_extL rfl rfl rfl) (Kq rfl (rd_extL rfl rfl rfl) (Ka rfl (Ka rfl (WL.nt (WC.seq (WC.sr (Km rfl (Kq rfl (rd_neq rfl rfl rfl) (WL.nt ?_))))))))))
   refine WC.cond rfl (fun hc40 => ?_) (fun hc40 => ?_)
   ·(try simp only [sB] at hc40)
    refine WC.sr ?_
    refine Kh rfl (og_call rfl rfl (by kernel_rfl) (keep_val fun w hS => awake26_c)) ?_
    intro _
    refine Ka rfl (WL.nt (WC.ret (WX.then_ret ?_)))
    exact WX.retN rfl (.tmp rfl .nil) fun w' hS => ⟨by rfl, hS.below⟩
   ·(try simp only [sB] at hc40)
    have hc0 : (comS k o).2 = 0 := by simpa using hc40
    have hlw := kn_law (v := x) (r := y) hk hc0
    refine WC.skip (WX.then_normal (WC.sr ?_))
    refine Kq rfl (lda rfl rfl .tc Tryz.underlying26 rfl ?_) ?_
    ·kernel_rfl
    refine Km rfl ?_
    refine Kq rfl (rd_iaa rfl rfl rfl Tryz.underlying56 (by kernel_rfl : _ = some 1) ?_ (by (try simp only [sN, Int.reduceToNat, Nat.reduceAdd, Nat.reduceMul, Nat.reduceSub]); rfl)) ?_
    ·omega
    refine Kq rfl (ld rfl rfl .tc Tryz.underlying22 rfl (by rfl)) ?_
    refine Kq rfl (rd_iaa rfl rfl rfl Tryz.underlying56 (by kernel_rfl : _ = some 1) ?_ (by (try simp only [sN, Int.reduceToNat, Nat.reduceAdd, Nat.reduceMul, Nat.reduceSub]); rfl)) ?_
    ·omega
    refine Kq rfl (ld rfl rfl .tc Tryz.underlying22 rfl (by rfl)) ?_
    refine Kh rfl (og_call rfl rfl (by kernel_rfl) (keep_ff fun w hS => icknows_c (k := k) (c := (comS k o).1) (v := x) (r := y) (by assumption))) ?_
    rintro s49
    refine WL.pu ?_
    intro hg49; (try dsimp only [List.cons_append, List.nil_append] at hg49 ⊢)
    refine Km rfl (Kq rfl (rd_extL rfl rfl rfl) (Kq rfl (rd_extL rfl rfl rfl) ?_))
    refine Kh rfl (og_alloc rfl (v := (.agg #[.slice none 0 0, .slice none 0 0, .slice none 0 0])) (cs := [.slice none 0 0, .slice none 0 0, .slice none 0 0]) (by kernel_rfl) rfl) ?_
    intro b9
    refine WL.g0 rfl rfl (sta rfl rfl rfl .tc ?_ ?_ ?_) ?_
    ·kernel_rfl
    ·simp [Value.oneCell']
    ·rfl
    intro _
    refine Ka rfl (WL.nt (WC.seq (WC.sr (Km rfl (Kq rfl (rd_neq rfl rfl rfl) (WL.nt ?_))))))
    refine WC.cond rfl (fun hc53 => ?_) (fun hc53 => ?_)
    ·(try simp only [sB] at hc53)
     have h32 : (knS k (comS k o).1 x y).2 = 3 ∨ (knS k (comS k o).1 x y).2 = 2 := by
      rcases hlw with h | h | h
      ·exact Or.inl h
      ·exact Or.inr h
      ·exact absurd h.1 hc53
     refine WC.sr ?_
     refine Kh rfl (og_call rfl rfl (by kernel_rfl) (keep_val fun w hS => awake26_c)) ?_
     intro _
     refine Km rfl ?_
     refine WL.bool 55 rfl (fun hg55 => ?_) (fun hg55 => ?_)
     ·(try simp only [sB] at hg55)
      refine Km rfl (Kq rfl (rd_eql rfl rfl rfl) (Km rfl ?_))
      refine WL.bool 58 rfl (fun hg58 => ?_) (fun hg58 => ?_)
      ·(try simp only [sB] at hg58)
       refine Kt rfl (Kt rfl (Kq rfl (rd_pickt rfl rfl rfl) (Kq rfl (rd_pickt rfl rfl rfl) (Ka rfl (WL.nt (WC.ret (WX.then_ret ?_)))))))
       exact WX.retN rfl (.tmp rfl .nil) fun w' hS => ⟨by rfl, hS.below⟩
      ·(try simp only [sB] at hg58)
       refine Km rfl (Kq rfl (rd_eql rfl rfl rfl) (Kq rfl (rd_pickf rfl rfl rfl) (Kq rfl (rd_pickt rfl rfl rfl) (Ka rfl (WL.nt (WC.ret (WX.then_ret ?_)))))))
       exact WX.retN rfl (.tmp rfl .nil) fun w' hS => ⟨by (rcases h32 with h | h <;> simp_all [tup]), hS.below⟩
     ·(try simp only [sB] at hg55)
      refine Kt rfl (Kt rfl (Kt rfl (Kt rfl (Kt rfl (Kt rfl (Kq rfl (rd_pickf rfl rfl rfl) (Ka rfl (WL.nt (WC.ret (WX.then_ret ?_))))))))))
      exact WX.retN rfl (.tmp rfl .nil) fun w' hS => ⟨by (rcases h32 with h | h <;> simp_all [tup]), hS.below⟩
    ·(try simp only [sB] at hc53)
     have h0 : (knS k (comS k o).1 x y).2 = 0 := by simpa using hc53
     obtain ⟨_, hvv, hrr, hH⟩ : (knS k (comS k o).1 x y).2 = 0 ∧ okN x ∧ okN y ∧ hldS (knS k (comS k o).1 x y).1 [o.1, o.2] = (decide (withP o x y), 0) := by
      rcases hlw with h | h | h
      ·rw [h] at h0; cases h0
      ·rw [h] at h0; cases h0
      ·exact h
     obtain ⟨_, hz1, hz2, _, _⟩ := comS_ok hc0
     refine WC.skip (WX.then_normal (WC.sr ?_))
     refine Kq rfl (lda rfl rfl .tc Tryz.underlying35 rfl ?_) ?_
     ·kernel_rfl
     refine Kq rfl (rd_fa (q := 0) rfl rfl Tryz.underlying47 rfl (by kernel_rfl) rfl) ?_
     refine Kq rfl (ldp rfl rfl .tc Tryz.underlying45 rfl (by kernel_rfl : _ = some 2) (by rfl) (by rfl)) ?_
     refine Kq rfl (rd_fa (q := 2) rfl rfl Tryz.underlying47 rfl (by kernel_rfl) rfl) ?_
     refine Kq rfl (ldp rfl rfl .tc Tryz.underlying45 rfl (by kernel_rfl : _ = some 2) (by rfl) (by rfl)) ?_
     refine Kh rfl (og_bsN rfl rfl Tryz.underlying49 (by kernel_rfl : _ = some (some (.agg #[.bool false, .string (S [])]), 2, 24)) (by kernel_rfl) (by decide) rfl rfl (by (simp [Value.cells]; done)) (by (simp only [List.map, Value.cells, List.flatMap_cons, List.flatMap_nil, List.append_nil, List.toList_toArray]; rfl)) (by decide)) ?_
     intro b69
     refine Kh rfl (og_call rfl rfl (by kernel_rfl) (keep_val fun w hS => (by have := holds_c (w := w) (s := s49) (ws := [o.1, o.2]) (a := some ⟨b69, 0, none⟩) (c := 2) hS.sl hS.sl hS.sl hS.os hS.more (saL_kn hm8 hg49) (by simp); rw [hg49, hH] at this; exact this))) ?_
     intro _
     refine Km rfl (Kq rfl (rd_extL rfl rfl rfl) (Kq rfl (rd_extL rfl rfl rfl) (Ka rfl (Ka rfl (WL.nt (WC.sr ?_))))))
     refine Kh rfl (og_call rfl rfl (by kernel_rfl) (keep_val fun w hS => awake26_c)) ?_
     intro _
     refine Km rfl ?_
     refine WL.set 74 rfl (v' := .bool true) (by rfl) ?_
     refine Km rfl (Kq rfl (rd_eql rfl rfl rfl) (Kq rfl (rd_pickt rfl rfl rfl) (Km rfl ?_)))
     refine WL.set 78 rfl (v' := .bool true) (by rfl) ?_
     refine Km rfl ?_
     refine Kq rfl (lda rfl rfl .tc Tryz.underlying47 rfl ?_) ?_
     ·kernel_rfl
     refine Kq rfl (rd_iaa rfl rfl rfl Tryz.underlying56 (by kernel_rfl : _ = some 1) ?_ (by (try simp only [sN, Int.reduceToNat, Nat.reduceAdd, Nat.reduceMul, Nat.reduceSub]); rfl)) ?_
     ·omega
     refine Kq rfl (ld rfl rfl .tc Tryz.underlying22 rfl (by rfl)) ?_
     refine Kq rfl (rd_iaa rfl rfl rfl Tryz.underlying56 (by kernel_rfl : _ = some 1) ?_ (by (try simp only [sN, Int.reduceToNat, Nat.reduceAdd, Nat.reduceMul, Nat.reduceSub]); rfl)) ?_
     ·omega
     refine Kq rfl (ld rfl rfl .tc Tryz.underlying22 rfl (by rfl)) ?_
     refine Kh rfl (og_call rfl rfl (by kernel_rfl) (keep_val fun w hS => (by have := within26_c (w := w) (o := o) (v := x) (r := y); rw [with_dec hz1 hz2 hvv hrr] at this; exact this))) ?_
     intro _
     refine Kq rfl (rd_beq rfl rfl rfl Tryz.underlying4) ?_
     refine Kq rfl (rd_pickt rfl rfl rfl) (Ka rfl (WL.nt (WC.ret ?_)))
     exact WX.retN rfl (.tmp rfl .nil) fun w' hS => ⟨by (simp [tup]; done), hS.below⟩
end Go.Proofs.YtnimhldbblfgbaaGreat
