/-
  Parts of the walk: Pw2 Grp2 Ped Prs Iks Pw3 Eqs Open Opn Opz Non1 Sin Non2 Non3 Sha.
-/
import Derived.Test.YtkdlonihbjhhoaaGreatDoorV12
import Derived.Laws.StructEq
import Derived.ChangeKeysEq
import Derived.ProofKit
import Derived.OpenShut
import Derived.SliceStrings
import Derived.Carry
import Derived.SizedLaws
namespace Go.Proofs.YtkdlonihbjhhoaaGreatDoor
open Go.RowKit
set_option linter.unusedSimpArgs false
set_option linter.unusedVariables false
set_option maxHeartbeats 600000
set_option maxRecDepth 20000
theorem vC {a b m : Bs} (ha : okN a) (hb : okN b) (hm : okN m) (hm0 : m ≠ []) : oC a b m = (ae (val a * val b % val m), 0) := by
 rw [oC, if_pos (kz (by intro y hy; simp at hy; rcases hy with rfl | rfl | rfl <;> assumption) (by simpa using fun h => hm0 h))]
theorem ni {p q : Nat} {out x : Bs} {g : Gp} {en : Ent} {rr : List Ent} {ok : Nat → Prop} {w0 : World} {fs : List Fact} {w : World} (hS0 : St ok w0 (⟨some p, [.string (S out)], 22⟩ :: en :: ⟨some q, [.string (S g.1), .string (S g.2)], 26⟩ :: rr) (fs) w) (ho : okN out) (ho8 : out.length ≤ 8) (hx : okN x) (hx8 : x.length ≤ 8) (hm : okN g.1) (hm0 : g.1 ≠ []) (hm8 : g.1.length ≤ 8) :
  Calls Tryz.prog 92 #[.string (S x), .pointer (some ⟨p, 0, none⟩), .pointer (some ⟨q, 0, none⟩)] w fun e w' => e = .returned (.tuple #[]) ∧ St ok w0 (⟨some p, [.string (S (ae (val out * val x % val g.1)))], 22⟩ :: en :: ⟨some q, [.string (S g.1), .string (S g.2)], 26⟩ :: rr) (fs) w' := by
 refine enter (S := St ok w0 (⟨some p, [.string (S out)], 22⟩ :: en :: ⟨some q, [.string (S g.1), .string (S g.2)], 26⟩ :: rr) (fs)) (L := [(0, .string (S x)), (1, .pointer (some ⟨p, 0, none⟩)), (2, .pointer (some ⟨q, 0, none⟩))]) Tryz.func92 rfl Tryz.ntmps92 rfl (Ac rfl (Ac rfl (Ac rfl (An _)))) hS0 ?_
 refine Cg (Kq rfl (Ld rfl rfl .tc u22) ?_)
 refine Km rfl ?_
 (refine Kq rfl (cU rfl rfl u26 rfl (by kernel_rfl) (by (try simp only [sN, Int.reduceToNat, Nat.reduceAdd, Nat.reduceMul, Nat.reduceSub]); rfl)) ?_)
 refine Kq rfl (Ld rfl rfl .tc u22) ?_
 refine Ku rfl (Oc rfl rfl (Kv fun w hS => (by have := xQ (w := w) (a := out) (b := x) (m := g.1) ho8 hx8 hm8; rw [vC ho hx hm hm0] at this; exact this))) ?_
 refine Km rfl (Ye rfl (Ye rfl ?_))
 refine Ng rfl rfl (st rfl rfl rfl .tc (by kernel_rfl) rfl ?_ (by (simp only [List.set_cons_zero, List.set_cons_succ]; rfl))) ?_
 ·(simp; done)
 intro _
 refine Nn ?_
 refine WX.ret_normal ?_
 exact Rn rfl .nil fun w' hS => ⟨by rfl, by (exact hS)⟩
theorem wg {g : Gp} {x : Bs} (hg : bP g = 0) (h : elG g x) : Nat.gcd (val x) (val g.1) = 1 := by
 obtain ⟨h1, h2, h3, h4, h5⟩ := jy hg
 obtain ⟨_, _, _, h6⟩ := h
 split at h6
 ·exact h6
 ·rename_i hq
  obtain ⟨h7, _⟩ := h5 hq
  refine rL (x := val x ^ (val g.2 - 1)) ?_
  rw [Nat.mul_comm, ← Nat.pow_succ, show (val g.2 - 1).succ = val g.2 by omega, h6, Nat.mod_eq_of_lt (by omega)]
theorem we {g : Gp} {x : Bs} (h : elG g x) (hm8 : g.1.length ≤ 8) : x.length ≤ 8 := by
 rw [← dp h.1]; exact bc.2 (Nat.lt_trans h.2.2.1 (dK hm8))
def bsB (m : Nat) (p : Bs × Zs) : Bs := if p.2.1 = true then ae (gI (val p.1) m) else p.1
def dn (g : Gp) (l : List Bs) (es : List Zs) : Bs × Int :=
 if fN g l es (decide (l.length = es.length)) = 0 then (ae (aJ (fun p => nl (val g.1) (val p.1) (zv p.2)) (l.zip es) % val g.1), 0) else ([], fN g l es (decide (l.length = es.length)))
theorem wt {g : Gp} {l : List Bs} {es : List Zs} {s : Bool} (h : fN g l es s = 0) : (∀ x ∈ l, okN x) ∧ (∀ x ∈ es, okZ x) ∧ bP g = 0 ∧ s = true ∧ (∀ x ∈ l, elG g x) := by
 unfold fN at h
 split at h
 ·simp at h
 ·rename_i h1
  split at h
  ·simp at h
  ·rename_i h2
   split at h
   ·rename_i h3; exact absurd h h3
   ·rename_i h3
    split at h
    ·simp at h
    ·rename_i h4
     split at h
     ·simp at h
     ·rename_i h5; exact ⟨Decidable.not_not.1 h1, Decidable.not_not.1 h2, Decidable.not_not.1 h3, by simpa using h4, Decidable.not_not.1 h5⟩
theorem pv {x : Zs} (h : okZ x) : zv x < 0 ↔ x.1 = true := by
 obtain ⟨s, a⟩ := x
 cases s with
 | false => simp [zv]
 | true =>
  have h0 : val a ≠ 0 := fun h0 => h.2 ⟨rfl, (bg h.1.2).1 h0⟩
  simp [zv]; omega
theorem wX (x : Zs) : (zv x).natAbs = val x.2 := by
 obtain ⟨s, a⟩ := x; cases s <;> simp [zv]
theorem vv {m : Nat} {p : Bs × Zs} (h : okZ p.2) : nl m (val p.1) (zv p.2) = val (bsB m p) ^ val p.2.2 % m := by
 rw [nl, bsB, wX]
 by_cases h1 : p.2.1 = true
 ·rw [if_pos ((pv h).2 h1), if_pos h1, af]
 ·rw [if_neg (fun h2 => h1 ((pv h).1 h2)), if_neg h1]
theorem k8 {α β : Type} (f : β → Nat) (k : α → β) : ∀ l : List α, aJ f (l.map k) = aJ (fun x => f (k x)) l
 | [] => rfl
 | x :: l => by rw [List.map_cons, aJ, aJ, k8 f k l]
def qE (m : Nat) (l : List (Bs × Zs)) : List (Nat × Nat) := l.map fun p => (val (bsB m p), val p.2.2)
theorem vu {m : Nat} {l : List (Bs × Zs)} (h : ∀ p ∈ l, okZ p.2) : aJ (dS 0) (qE m l) % m = aJ (fun p => nl m (val p.1) (zv p.2)) l % m := by
 rw [qE, k8]
 apply iD
 intro p hp
 rw [vv (h p hp), dS, Nat.pow_zero, Nat.div_one, Nat.mod_mod]
theorem qD {m n : Nat} {l : List (Bs × Zs)} (h : ∀ p ∈ l, aC p.2.2 ≤ n) : aJ (dS n) (qE m l) = 1 := by
 apply qI
 intro p hp
 obtain ⟨q, hq, rfl⟩ := List.mem_map.1 hp
 rw [dS, Nat.div_eq_of_lt (Nat.lt_of_lt_of_le (fm _) (Nat.pow_le_pow_right (by decide) (h q hq))), Nat.pow_zero]
theorem km {l : List Bs} {es : List Zs} {i : Nat} (h1 : i < l.length) (h2 : i < es.length) : (l.zip es).getD i default = (l.getD i default, es.getD i default) := by
 simp only [List.getD_eq_getElem?_getD, List.getElem?_zip_eq_some, List.getElem?_eq_getElem h1, List.getElem?_eq_getElem h2, List.getElem?_eq_getElem (show i < (l.zip es).length by simp; omega), List.getElem_zip, Option.getD_some]
theorem f7 {α β : Type} [Inhabited α] [Inhabited β] (f : α → β) (l : List α) (i : Nat) (h : i < l.length) : (l.map f).getD i default = f (l.getD i default) := by
 simp [List.getD_eq_getElem?_getD, List.getElem?_eq_getElem h]
theorem kY (l : List Bs) (i n : Nat) (h : i < l.length) (hn : i < n) : (ao (l.take i) ++ List.replicate (n - i) (Value.string (S []))).set i (Value.string (S (l.getD i default))) = ao (l.take (i + 1)) ++ List.replicate (n - (i + 1)) (Value.string (S [])) := by
 have hl : (ao (l.take i)).length = i := by simp [ao]; omega
 rw [List.set_append_right _ _ (by omega), hl, Nat.sub_self, show n - i = (n - (i + 1)) + 1 by omega, List.replicate_succ, List.set_cons_zero]
 have e : l.take (i + 1) = l.take i ++ [l.getD i default] := by
  rw [List.take_add_one, List.getElem?_eq_getElem h, List.getD_eq_getElem?_getD, List.getElem?_eq_getElem h]; rfl
 rw [e]; simp [ao]
theorem s6 {k : Nat} {m : Bs} (h : k < val m) (hm8 : m.length ≤ 8) : okN (ae k) ∧ (ae k).length ≤ 8 := by
 have h8 : (ae k).length ≤ 8 := bc.2 (Nat.lt_trans h (dK hm8))
 exact ⟨⟨by omega, bD _⟩, h8⟩
theorem ol {α : Type} [Inhabited α] (f : α → Nat) (l : List α) (k : Nat) (h : k < l.length) : aJ f (l.take (k + 1)) = aJ f (l.take k) * f (l.getD k default) := by
 rw [List.take_add_one, List.getElem?_eq_getElem h, g3, List.getD_eq_getElem?_getD, List.getElem?_eq_getElem h]
 simp [aJ]
def qv (n : Nat) (p : Nat × Nat) : Nat := if p.2 / 2 ^ n % 2 = 1 then p.1 else 1
theorem gG {g : Gp} {l : List Bs} {es : List Zs} {a b : Option Addr} {c d : Nat} {w : World} {ok : Nat → Prop} (hF1 : (Fact.sl a (ao l)).holds ok w) (hF2 : (Fact.sl b (aW es)).holds ok w) (hl : l.length ≤ 100000) (hes : es.length ≤ 100000) (hm8 : g.1.length ≤ 8) :
  Cw 43 #[gV g, .slice a l.length c, .slice b es.length d] w (NE (dn g l es)) := by
 refine En [Fact.sl a (ao l), Fact.sl b (aW es)] [(0, gV g), (1, .slice a l.length c), (2, .slice b es.length d)] Tryz.func43 rfl Tryz.ntmps43 rfl (Ac rfl (Ac rfl (Ac rfl (An _)))) (Fc (ah hF1) (Fc (ah hF2) Fn)) ?_
 refine Cs ?_
 refine Kh rfl (Oy rfl rfl) ?_
 intro b3
 refine Ka rfl (Ka rfl (Nt (Cq (Cs ?_))))
 refine Kq rfl (lda rfl rfl .tc u26 rfl ?_) ?_
 ·kernel_rfl
 refine Km rfl (Km rfl (Km rfl (Yo rfl u31 (Km rfl (Yo rfl u39 (Yi rfl ?_))))))
 refine Ns 27 rfl (v' := .bool (decide (l.length = es.length))) (congrArg Value.bool (by exact decide_eq_decide.2 (by omega))) ?_
 refine Ku rfl (Oc rfl rfl (Kv fun w hS => rg (g := g) (l := l) (es := es) (same := decide (l.length = es.length)) (by (exact hS.sl)) (by (exact hS.sl)) (by omega) (by omega) (by assumption))) ?_
 refine Ka rfl (Nt (Cs (Km rfl (Yj rfl (Nt ?_)))))
 refine Cd rfl (fun hc30 => ?_) (fun hc30 => ?_)
 ·(try simp only [sB] at hc30)
  have hr : dn g l es = ([], fN g l es (decide (l.length = es.length))) := by rw [dn, if_neg (by simpa using hc30)]
  refine Cs (Km rfl (Ka rfl (Ka rfl (Nt (Ce (Xb ?_))))))
  exact R2 rfl rfl rfl (by rw [hr]; rfl)
 ·(try simp only [sB] at hc30)
  have h0 : fN g l es (decide (l.length = es.length)) = 0 := by simpa using hc30
  obtain ⟨hok, hokz, hg, hsame, hel⟩ := wt h0
  have hlen : l.length = es.length := by simpa using hsame
  obtain ⟨hm, hq, hm2, _⟩ := jy hg
  have hm0 : g.1 ≠ [] := fun h => by rw [h] at hm2; exact absurd hm2 (by decide)
  have hp := nS hm hm0
  have hm64 := dK hm8
  obtain ⟨Z, hZ⟩ : ∃ Z, Z = l.zip es := ⟨_, rfl⟩
  have hZl : Z.length = l.length := by rw [hZ]; simp; omega
  have hr : dn g l es = (ae (aJ (fun p => nl (val g.1) (val p.1) (zv p.2)) Z % val g.1), 0) := by rw [dn, if_pos h0, hZ]
  obtain ⟨B', hB'⟩ : ∃ B', B' = Z.map (bsB (val g.1)) := ⟨_, rfl⟩
  have hBl : B'.length = l.length := by rw [hB', List.length_map, hZl]
  refine Ck (Xa (Cs (Km rfl (Yo rfl u31 ?_))))
  refine Kh rfl (dN rfl rfl rfl u31 (by kernel_rfl : _ = some (some (.string (S [])), 1, 16)) rfl ?_ (by (try simp only [sN, Int.reduceToNat, Nat.reduceAdd, Nat.reduceMul, Nat.reduceSub]); rfl) (by (try simp only [sN, Int.reduceToNat, Nat.reduceAdd, Nat.reduceMul, Nat.reduceSub]); rfl)) ?_
  ·omega
  intro b34
  refine Ka rfl (Nt (Cs (Ka rfl (Nt (Cq (Cs (Km rfl (Yo rfl u31 (Km rfl (Nt (Cb ?_)))))))))))
  refine Lo (σ := Nat × Nat) [(2, _), (3, _), (9, _), (35, _), (36, _)] (fun gq => [(10, .int .i64 (gq.2 : Int)), (37, .int .i64 (gq.1 : Int))]) (fun gq => gq.1 ≤ l.length ∧ gq.2 ≤ 2000 ∧ ∀ p ∈ Z.take gq.1, aC p.2.2 ≤ gq.2) (fun gq => l.length - gq.1) (fun gq => [⟨some b34, ao (B'.take gq.1) ++ List.replicate (l.length - gq.1) (.string (S [])), 22⟩, ⟨some b3, [.string (S g.1), .string (S g.2)], 26⟩]) (fun gq => [Fact.sl a (ao l), Fact.sl b (aW es)]) (0, 0) (S5 rfl rfl rfl rfl rfl) (S2 rfl rfl) (by (try dsimp only); exact ⟨Nat.zero_le _, Nat.zero_le _, by simp⟩) (by (exact fun _ h => h)) ?_
  rintro ⟨i, most⟩ hinv1; (try dsimp only at hinv1 ⊢)
  obtain ⟨hi, hmo, hbt⟩ := hinv1
  refine Cs (Yl rfl (Nt (Cq ?_)))
  refine Cd rfl (fun hc38 => ?_) (fun hc38 => ?_)
  ·(try simp only [sB] at hc38)
   have hil : i < l.length := by omega
   have hie : i < es.length := by omega
   have hx := hel _ (ap l i hil)
   have hz := hokz _ (ap es i hie)
   have hiZ : i < Z.length := by omega
   have hZi : Z.getD i default = (l.getD i default, es.getD i default) := by rw [hZ]; exact km hil hie
   have hBi : B'.getD i default = bsB (val g.1) (l.getD i default, es.getD i default) := by rw [hB', f7 _ _ _ hiZ, hZi]
   have hgc := wg hg hx
   have hiv := vL hx.1 hm hm0
   rw [if_pos hgc] at hiv
   have hbl := fP hz.1.1
   refine Ck (Xa (Cq (Cb (Cs (Km rfl ?_)))))
   refine Kq rfl (Ib rfl rfl rfl u31 (by omega) (by (rw [List.length_map]; omega))) ?_
   refine Kq rfl (ldm rfl rfl u22 rfl (by assumption)) ?_
   refine Ka rfl (Ka rfl (Nt (Cs (Km rfl (Km rfl (Km rfl ?_))))))
   refine Kq rfl (Ja rfl rfl rfl u31 (by kernel_rfl : _ = some 1) (by omega)) ?_
   refine Ng rfl rfl (st rfl rfl rfl .tc (by kernel_rfl) rfl ?_ (by rfl)) ?_
   ·(simp <;> omega)
   intro _
   refine Nt (Cq (Cs (Km rfl (Km rfl ?_))))
   refine Kq rfl (Ia rfl rfl rfl u39 (by kernel_rfl : _ = some 2) (by omega) (by (rw [aj _ _ 2 (fun _ => rfl)]; omega))) ?_
   (refine Kq rfl (faf rfl rfl u37 rfl (by kernel_rfl) (by (try simp only [sN, Int.reduceToNat, Nat.reduceAdd, Nat.reduceMul, Nat.reduceSub]); rfl)) ?_)
   refine Kq rfl (kO (sz := 2) _ 0 rfl rfl u4 rfl (fun _ => rfl) rfl (by assumption) (by decide) rfl) ?_
   refine Nt ?_
   refine Cd rfl (fun hc50 => ?_) (fun hc50 => ?_)
   ·(try simp only [sB] at hc50)
    have hB2 : B'.getD i default = ae (gI (val (l.getD i default)) (val g.1)) := by rw [hBi]; exact if_pos (by simpa using hc50)
    refine Cs (Km rfl (Kq rfl (Fa (q := 0) rfl rfl u26 rfl rfl) (Kq rfl (Ld rfl rfl .tc u22) ?_)))
    refine Ku rfl (Oc rfl rfl (Kv fun w hS => (by have := xR (w := w) (a := l.getD i default) (m := g.1); rw [hiv] at this; exact this))) ?_
    refine Km rfl (Ye rfl (Ye rfl (Ka rfl (Ka rfl (Nt (Cq (Cs (Km rfl (Yj rfl (Nt ?_))))))))))
    refine Cd rfl (fun hc59 => by exfalso; (try simp only [sB] at hc59); exact hc59 trivial) (fun hc59 => ?_)
    (try simp only [sB] at hc59)
    refine Ck (Xa (Cg (Km rfl (Km rfl (Km rfl ?_)))))
    refine Kq rfl (Ja rfl rfl rfl u31 (by kernel_rfl : _ = some 1) (by omega)) ?_
    refine Ng rfl rfl (st rfl rfl rfl .tc (by kernel_rfl) rfl ?_ (by (simp only [List.set_cons_zero, List.set_cons_succ]; rfl))) ?_
    ·(simp <;> omega)
    intro _
    refine Nt (Cg (Km rfl (Km rfl (Km rfl ?_))))
    refine Kq rfl (Ia rfl rfl rfl u39 (by kernel_rfl : _ = some 2) (by omega) (by (rw [aj _ _ 2 (fun _ => rfl)]; omega))) ?_
    (refine Kq rfl (faf rfl rfl u37 rfl (by kernel_rfl) (by (try simp only [sN, Int.reduceToNat, Nat.reduceAdd, Nat.reduceMul, Nat.reduceSub]); rfl)) ?_)
    refine Kq rfl (kO (sz := 2) _ 1 rfl rfl u22 rfl (fun _ => rfl) rfl (by assumption) (by decide) rfl) ?_
    refine Ku rfl (Oc rfl rfl (Kv fun w hS => mN (a := (es.getD i default).2))) ?_
    refine Ns 71 rfl (v' := .int .i64 ((aC (es.getD i default).2 : Nat) : Int)) (congrArg (Value.int .i64) (by rw [if_pos hz.1])) ?_
    refine Kq rfl (fZ rfl rfl rfl) (Ns 72 rfl (v' := .int .i64 ((max most (aC (es.getD i default).2) : Nat) : Int)) (congrArg (Value.int .i64) (by omega)) (Ka rfl (Nn (Xd (Xa (Cg (Kq rfl (Rz rfl rfl rfl (by omega)) (Km rfl (Nn ?_)))))))))
    refine Lx ((i + 1, max most (aC (es.getD i default).2))) (by (try dsimp only); omega) (S5 rfl rfl rfl rfl rfl) (by refine (Sc ?_ (Sc ?_ (S0 _))) <;> (rfl)) ?_ (by exact fun w h => by rw [← kY B' i l.length (by omega) hil, hB2]; (try rw [List.set_set] at h); exact h)
    (try dsimp only)
    exact ⟨hil, by omega, ay hiZ (fun p hp => Nat.le_trans (hbt p hp) (Nat.le_max_left _ _)) (by rw [hZi]; exact Nat.le_max_right _ _)⟩
   ·(try simp only [sB] at hc50)
    have hB2 : B'.getD i default = l.getD i default := by rw [hBi]; exact if_neg (by simpa using hc50)
    refine Ck (Xa (Cg (Km rfl (Km rfl (Km rfl ?_)))))
    refine Kq rfl (Ia rfl rfl rfl u39 (by kernel_rfl : _ = some 2) (by omega) (by (rw [aj _ _ 2 (fun _ => rfl)]; omega))) ?_
    (refine Kq rfl (faf rfl rfl u37 rfl (by kernel_rfl) (by (try simp only [sN, Int.reduceToNat, Nat.reduceAdd, Nat.reduceMul, Nat.reduceSub]); rfl)) ?_)
    refine Kq rfl (kO (sz := 2) _ 1 rfl rfl u22 rfl (fun _ => rfl) rfl (by assumption) (by decide) rfl) ?_
    refine Ku rfl (Oc rfl rfl (Kv fun w hS => mN (a := (es.getD i default).2))) ?_
    refine Ns 71 rfl (v' := .int .i64 ((aC (es.getD i default).2 : Nat) : Int)) (congrArg (Value.int .i64) (by rw [if_pos hz.1])) ?_
    refine Kq rfl (fZ rfl rfl rfl) (Ns 72 rfl (v' := .int .i64 ((max most (aC (es.getD i default).2) : Nat) : Int)) (congrArg (Value.int .i64) (by omega)) (Ka rfl (Nn (Xd (Xa (Cg (Kq rfl (Rz rfl rfl rfl (by omega)) (Km rfl (Nn ?_)))))))))
    refine Lx ((i + 1, max most (aC (es.getD i default).2))) (by (try dsimp only); omega) (S5 rfl rfl rfl rfl rfl) (by refine (Sc ?_ (Sc ?_ (S0 _))) <;> (rfl)) ?_ (by exact fun w h => by rw [← kY B' i l.length (by omega) hil, hB2]; (try rw [List.set_set] at h); exact h)
    (try dsimp only)
    exact ⟨hil, by omega, ay hiZ (fun p hp => Nat.le_trans (hbt p hp) (Nat.le_max_left _ _)) (by rw [hZi]; exact Nat.le_max_right _ _)⟩
  ·(try simp only [sB] at hc38)
   refine Cx (Xc (Xc (Xe ?_)))
   obtain rfl : i = l.length := by omega
   rw [Nat.sub_self, List.replicate_zero, List.append_nil, List.take_of_length_le (Nat.le_of_eq hBl)]
   rw [List.take_of_length_le (Nat.le_of_eq hZl)] at hbt
   have hBk : ∀ k, k < l.length → okN (B'.getD k default) ∧ (B'.getD k default).length ≤ 8 := fun k hk => by
    have hx := hel _ (ap l k hk)
    rw [hB', f7 _ _ _ (by omega), hZ, km hk (by omega), bsB]
    split
    ·exact s6 (vJ _ hp) hm8
    ·exact ⟨hx.1, we hx hm8⟩
   obtain ⟨PP, hPP⟩ : ∃ PP, PP = qE (val g.1) Z := ⟨_, rfl⟩
   have hPl : PP.length = l.length := by rw [hPP, qE, List.length_map, hZl]
   have hPk : ∀ k, k < l.length → PP.getD k default = (val (B'.getD k default), val (es.getD k default).2) := fun k hk => by
    rw [hPP, hB', f7 _ _ _ (by omega), qE, f7 _ _ _ (by omega), hZ, km hk (by omega)]
   have hst := qD (m := val g.1) hbt
   rw [← hPP] at hst
   have hend := vu (m := val g.1) (l := Z) (fun q hq => by rw [hZ] at hq; exact hokz _ (List.of_mem_zip hq).2)
   rw [← hPP] at hend
   have hmk : ∀ k, okN (ae (k % val g.1)) ∧ (ae (k % val g.1)).length ≤ 8 := fun k => s6 (Nat.mod_lt _ hp) hm8
   refine Xa (Cs ?_)
   refine Ku rfl (Oc rfl rfl (Kv fun w hS => fF (n := 1) (by omega))) ?_
   refine Kh rfl (Oa rfl (v := (.string (S []))) (cs := [.string (S [])]) (by kernel_rfl) rfl) ?_
   intro b15
   refine Ng rfl rfl (st rfl rfl rfl .tc (by kernel_rfl) rfl ?_ (by (simp only [List.set_cons_zero, List.set_cons_succ]; rfl))) ?_
   ·decide
   intro _
   refine Nt (Cs (Kq rfl (cE rfl rfl rfl) (Ka rfl (Nt (Cq (Cs (Km rfl (Kq rfl (aD rfl rfl rfl (by omega)) (Ka rfl (Nt (Cb ?_)))))))))))
   refine Lo (σ := Nat × Int × Bs) [(2, _), (9, _), (15, _), (16, _)] (fun gq => [(17, .int .i64 gq.2.1)]) (fun gq => gq.1 ≤ most ∧ gq.2.1 = (gq.1 : Int) - 1 ∧ gq.2.2 = ae (aJ (dS gq.1) PP % val g.1)) (fun gq => gq.1) (fun gq => [⟨some b15, [.string (S gq.2.2)], 22⟩, ⟨some b34, ao B', 22⟩, ⟨some b3, [.string (S g.1), .string (S g.2)], 26⟩]) (fun gq => [Fact.sl b (aW es)]) (most, (most : Int) - 1, ae 1) (S4 rfl rfl rfl rfl) (S1 rfl) (by (try dsimp only); exact ⟨Nat.le_refl _, rfl, by rw [hst, Nat.mod_eq_of_lt (by omega)]⟩) (by (exact aq)) ?_
   rintro ⟨n, j, out⟩ hinv2; (try dsimp only at hinv2 ⊢)
   obtain ⟨hn, hj, hout⟩ := hinv2
   refine Cq (Cs (Km rfl (Yh rfl (Nt ?_))))
   refine Cd rfl (fun hc79 => ?_) (fun hc79 => ?_)
   ·(try simp only [sB] at hc79)
    obtain ⟨n', rfl⟩ : ∃ n', n = n' + 1 := ⟨n - 1, by omega⟩
    refine WC.set 17 rfl (v' := .int .i64 ((n' : Nat) : Int)) (by rw [hj]; congr 1; omega) ?_
    subst hout
    obtain ⟨Q, hQ⟩ : ∃ Q, Q = aJ (dS (n' + 1)) PP % val g.1 * (aJ (dS (n' + 1)) PP % val g.1) % val g.1 := ⟨_, rfl⟩
    have hQ0 : val (ae (aJ (dS (n' + 1)) PP % val g.1)) * val (ae (aJ (dS (n' + 1)) PP % val g.1)) % val g.1 = Q := by rw [af, hQ]
    refine Ck (Xa (Cq (Cb (Cs (Km rfl (Kq rfl (Ld rfl rfl .tc u22) ?_))))))
    refine Kh rfl (aL rfl rfl rfl (by kernel_rfl) rfl (mx fun w hS => ni (p := b15) (q := b3) (out := ae (aJ (dS (n' + 1)) PP % val g.1)) (x := ae (aJ (dS (n' + 1)) PP % val g.1)) (g := g) hS (by exact (hmk _).1) (by exact (hmk _).2) (by exact (hmk _).1) (by exact (hmk _).2) (by exact hm) (by exact hm0) (by exact hm8))) ?_
    intro _
    refine Nt (Cs (Km rfl (Yo rfl u31 (Km rfl (Nt (Cb ?_))))))
    refine Lo (σ := Nat × Bs) [(2, _), (9, _), (15, _), (16, _), (17, _), (85, _), (86, _)] (fun gq => [(87, .int .i64 (gq.1 : Int))]) (fun gq => gq.1 ≤ l.length ∧ gq.2 = ae (Q * aJ (qv n') (PP.take gq.1) % val g.1)) (fun gq => l.length - gq.1) (fun gq => [⟨some b15, [.string (S gq.2)], 22⟩, ⟨some b34, ao B', 22⟩, ⟨some b3, [.string (S g.1), .string (S g.2)], 26⟩]) (fun gq => [Fact.sl b (aW es)]) (0, ae Q) (S7 rfl rfl rfl rfl rfl rfl rfl) (S1 rfl) (by (try dsimp only); exact ⟨Nat.zero_le _, by rw [List.take_zero, aJ, Nat.mul_one, hQ, Nat.mod_mod]⟩) (by exact fun w h => by rw [hQ0] at h; exact h) ?_
    rintro ⟨k, o⟩ hinv3; (try dsimp only at hinv3 ⊢)
    obtain ⟨hk, ho⟩ := hinv3
    refine Cs (Yl rfl (Nt (Cq ?_)))
    refine Cd rfl (fun hc88 => ?_) (fun hc88 => ?_)
    ·(try simp only [sB] at hc88)
     have hkl : k < l.length := by omega
     have hz := hokz _ (ap es k (by omega))
     subst ho
     have hsu := ol (qv n') PP k (by omega)
     rw [hPk k hkl, qv] at hsu
     refine Ck (Xa (Cq (Cb (Cs (Km rfl ?_)))))
     refine Kq rfl (Ja rfl rfl rfl u31 (by kernel_rfl : _ = some 1) (by omega)) ?_
     refine Kq rfl (ld rfl rfl .tc u22 rfl (fH B' _ k (by omega))) ?_
     refine Ka rfl (Ka rfl (Nt (Cs (Km rfl (Km rfl ?_)))))
     refine Kq rfl (Ia rfl rfl rfl u39 (by kernel_rfl : _ = some 2) (by omega) (by (rw [aj _ _ 2 (fun _ => rfl)]; omega))) ?_
     (refine Kq rfl (faf rfl rfl u37 rfl (by kernel_rfl) (by (try simp only [sN, Int.reduceToNat, Nat.reduceAdd, Nat.reduceMul, Nat.reduceSub]); rfl)) ?_)
     refine Kq rfl (kO (sz := 2) _ 1 rfl rfl u22 rfl (fun _ => rfl) rfl (by omega) (by decide) rfl) ?_
     refine Km rfl ?_
     refine Ku rfl (Oc rfl rfl (Kv fun w hS => mO (a := (es.getD k default).2) (i := n') (by omega))) ?_
     refine Nt ?_
     refine Cd rfl (fun hc98 => ?_) (fun hc98 => ?_)
     ·(try simp only [sB] at hc98)
      have hd : val (es.getD k default).2 / 2 ^ n' % 2 = 1 := by rw [bI hz.1, fQ] at hc98; simpa using hc98
      rw [if_pos hd] at hsu
      refine Cg (Km rfl (Km rfl ?_))
      refine Kh rfl (aL rfl rfl rfl (by kernel_rfl) rfl (mx fun w hS => ni (p := b15) (q := b3) (out := ae (Q * aJ (qv n') (PP.take k) % val g.1)) (x := B'.getD k default) (g := g) hS (by exact (hmk _).1) (by exact (hmk _).2) (by exact (hBk _ hkl).1) (by exact (hBk _ hkl).2) (by exact hm) (by exact hm0) (by exact hm8))) ?_
      intro _
      refine Nn (Xd (Xa (Cg (Kq rfl (Rz rfl rfl rfl (by omega)) (Km rfl (Nn ?_))))))
      refine Lx ((k + 1, ae (Q * aJ (qv n') (PP.take (k + 1)) % val g.1))) (by (try dsimp only); omega) (S7 rfl rfl rfl rfl rfl rfl rfl) (by refine (Sc ?_ (S0 _)) <;> (rfl)) ?_ (by exact fun w h => by rw [hsu, ← Nat.mul_assoc, ← mml (Q * _)]; rw [af] at h; exact h)
      (try dsimp only)
      exact ⟨hkl, rfl⟩
     ·(try simp only [sB] at hc98)
      have hd : ¬ val (es.getD k default).2 / 2 ^ n' % 2 = 1 := by rw [bI hz.1, fQ] at hc98; simpa using hc98
      rw [if_neg hd, Nat.mul_one] at hsu
      refine Ck (Xd (Xa (Cg (Kq rfl (Rz rfl rfl rfl (by omega)) (Km rfl (Nn ?_))))))
      refine Lx ((k + 1, ae (Q * aJ (qv n') (PP.take (k + 1)) % val g.1))) (by (try dsimp only); omega) (S7 rfl rfl rfl rfl rfl rfl rfl) (by refine (Sc ?_ (S0 _)) <;> (rfl)) ?_ (by exact fun w h => by rw [hsu]; exact h)
      (try dsimp only)
      exact ⟨hkl, rfl⟩
    ·(try simp only [sB] at hc88)
     refine Cx (Xc (Xc (Xe ?_)))
     obtain rfl : k = l.length := by omega
     rw [List.take_of_length_le (Nat.le_of_eq hPl)] at ho
     refine Xd (Xa (Cg (Km rfl (Kq rfl (aD rfl rfl rfl (by omega)) (Ka rfl (Nn ?_))))))
     refine Lx ((n', (n' : Int) - 1, o)) (by (try dsimp only); omega) (S4 rfl rfl rfl rfl) (by refine (Sc ?_ (S0 _)) <;> (rfl)) ?_ (by (exact fun _ h => h))
     (try dsimp only)
     exact ⟨by omega, rfl, by rw [ho, hQ]; exact congrArg ae (sP _ _ _)⟩
   ·(try simp only [sB] at hc79)
    refine Cx (Xc (Xc (Xe ?_)))
    obtain rfl : n = 0 := by omega
    rw [hend] at hout
    refine Xa (Cs (Kq rfl (Ld rfl rfl .tc u22) ?_))
    refine Ka rfl (Ka rfl (Nt (Ce ?_)))
    exact R2 rfl rfl rfl (by rw [hr, ← hout]; rfl)
abbrev PK := Gp × Bs × Bs
abbrev Opn := Zs × Zs
def okK (k : PK) : Prop := okN k.1.1 ∧ okN k.1.2 ∧ okN k.2.1 ∧ okN k.2.2
instance (k : PK) : Decidable (okK k) := inferInstanceAs (Decidable (_ ∧ _))
def elK (k : PK) : Prop := elG k.1 k.2.1 ∧ elG k.1 k.2.2 ∧ k.2.1 ≠ ae 1 ∧ k.2.2 ≠ ae 1 ∧ k.2.1 ≠ k.2.2
instance (k : PK) : Decidable (elK k) := inferInstanceAs (Decidable (_ ∧ _))
def ps12 : List Nat := [2, 3, 5, 7, 11, 13, 17, 19, 23, 29, 31, 37]
def tdiv (n : Nat) : List Nat → Option Bool
 | [] => none
 | p :: ps => if n % p = 0 then some (decide (n = p)) else tdiv n ps
def sqs (n : Nat) : Nat → Nat → Bool
 | 0, _ => false
 | s + 1, x => if x = n - 1 then true else sqs n s (x * x % n)
def rV (n a s d : Nat) : Bool := decide (a ^ d % n = 1) || sqs n s (a ^ d % n)
def tzA : Nat → Nat → Nat
 | 0, _ => 0
 | f + 1, n => if n % 2 = 0 then tzA f (n / 2) + 1 else 0
def tz (n : Nat) : Nat := tzA 64 n
theorem mS : ∀ (f n : Nat), 0 < n → n < 2 ^ f → n = n / 2 ^ tzA f n * 2 ^ tzA f n ∧ n / 2 ^ tzA f n % 2 = 1
 | 0, n, h0, h => by omega
 | f + 1, n, h0, h => by
  rw [tzA]
  split
  ·rename_i h1
   obtain ⟨h2, h3⟩ := mS f (n / 2) (by omega) (by rw [Nat.pow_succ] at h; omega)
   rw [Nat.pow_succ, Nat.mul_comm (2 ^ _) 2, ← Nat.div_div_eq_div_mul]
   refine ⟨?_, h3⟩
   rw [Nat.mul_comm 2, ← Nat.mul_assoc, ← h2]; omega
  ·rename_i h1
   rw [Nat.pow_zero, Nat.div_one, Nat.mul_one]; exact ⟨rfl, by omega⟩
theorem py : ∀ (s t d e : Nat), d % 2 = 1 → e % 2 = 1 → d * 2 ^ s = e * 2 ^ t → s = t ∧ d = e
 | 0, 0, d, e, _, _, h => ⟨rfl, by simpa using h⟩
 | 0, t + 1, d, e, h1, _, h => by exfalso; rw [Nat.pow_zero, Nat.mul_one, Nat.pow_succ, ← Nat.mul_assoc] at h; omega
 | s + 1, 0, d, e, _, h2, h => by exfalso; rw [Nat.pow_zero, Nat.mul_one, Nat.pow_succ, ← Nat.mul_assoc] at h; omega
 | s + 1, t + 1, d, e, h1, h2, h => by
  rw [Nat.pow_succ, Nat.pow_succ, ← Nat.mul_assoc, ← Nat.mul_assoc] at h
  obtain ⟨h3, h4⟩ := py s t d e h1 h2 (by omega)
  exact ⟨by omega, h4⟩
def isP (n : Nat) : Bool := if n < 2 then false else match tdiv n ps12 with
 | some b => b
 | none => ps12.all fun a => rV n a (tz (n - 1)) ((n - 1) / 2 ^ tz (n - 1))
theorem nj {x a e m : Nat} (h : e % 2 = 1) (he : 0 < e) : x * a % m * (a * a % m) ^ (e / 2) % m = x * a ^ e % m := by
 have e1 : e = 2 * (e / 2) + 1 := by omega
 rw [mml, Nat.mul_mod, ka, ← Nat.mul_mod]
 conv => rhs; rw [e1]
 rw [Nat.pow_succ, Nat.pow_mul, Nat.pow_two, Nat.mul_assoc, Nat.mul_comm a]
theorem nk {x a e m : Nat} (h : ¬ e % 2 = 1) : x * (a * a % m) ^ (e / 2) % m = x * a ^ e % m := by
 have e1 : e = 2 * (e / 2) := by omega
 rw [Nat.mul_mod, ka, ← Nat.mul_mod]
 conv => rhs; rw [e1]
 rw [Nat.pow_mul, Nat.pow_two]
def pk (k : Nat) : Nat := ps12.getD k 1
abbrev vU (n : Nat) : Value := .int .u64 (n : Int)
theorem xI : ∀ {k : Nat}, k < 12 → ps12[k]? = some (pk k) := fun {k} h => by
 rw [pk, List.getD_eq_getElem?_getD, List.getElem?_eq_getElem (show k < ps12.length from h)]; rfl
theorem l9 {k : Nat} (h : k < 12) : (ps12.map vU)[k]? = some (vU (pk k)) := by rw [List.getElem?_map, xI h]; rfl
theorem pn : ∀ {k : Nat}, k < 12 → 2 ≤ pk k ∧ pk k ≤ 37 := fun {k} h => by
 have : ∀ k : Fin 12, 2 ≤ pk k ∧ pk k ≤ 37 := by decide
 exact this ⟨k, h⟩
theorem pl {k : Nat} (h : k < 12) : ps12.drop k = pk k :: ps12.drop (k + 1) := by
 have : ∀ k : Fin 12, ps12.drop k = pk k :: ps12.drop (k + 1) := by decide
 exact this ⟨k, h⟩
theorem kW (n : Nat) {k : Nat} (h : k < 12) : tdiv n (ps12.drop k) = if n % pk k = 0 then some (decide (n = pk k)) else tdiv n (ps12.drop (k + 1)) := by
 rw [pl h, tdiv]
theorem nM (f : Nat → Bool) {k : Nat} (h : k < 12) : (ps12.drop k).all f = (f (pk k) && (ps12.drop (k + 1)).all f) := by
 rw [pl h, List.all_cons]
theorem ki {n : Nat} {b : Bool} (h2 : ¬ n < 2) (h : tdiv n ps12 = some b) : isP n = b := by rw [isP, if_neg h2, h]
def stN (n a : Nat) : Bool := rV n a (tz (n - 1)) ((n - 1) / 2 ^ tz (n - 1))
theorem ig {n : Nat} (h2 : ¬ n < 2) (h : tdiv n ps12 = none) : isP n = ps12.all (stN n) := by rw [isP, if_neg h2, h]; rfl
theorem iA : ∀ {n : Nat} {l : List Nat}, tdiv n l = none → ∀ p ∈ l, n % p ≠ 0
 | _, [], _, _, h => by cases h
 | n, q :: l, h, p, hp => by
  rw [tdiv] at h
  split at h
  ·cases h
  ·rename_i hq
   rcases List.mem_cons.1 hp with rfl | h2
   ·exact hq
   ·exact iA h p h2
theorem uz {n : Nat} (h0 : 0 < n) (h : n < 18446744073709551616) : n = n / 2 ^ tz n * 2 ^ tz n ∧ n / 2 ^ tz n % 2 = 1 := mS 64 n h0 h
theorem rN : ∀ (f n : Nat), tzA f n ≤ f
 | 0, _ => Nat.le_refl _
 | f + 1, n => by rw [tzA]; split <;> have := rN f (n / 2) <;> omega
theorem yn (n : Nat) : tz n ≤ 64 := rN 64 n
theorem w7 {n : Nat} (h : n % 2 = 0) : 1 ≤ tz n := by rw [tz, tzA, if_pos h]; omega
theorem uy {n s d : Nat} (h0 : 0 < n) (h : n < 18446744073709551616) (hd : d % 2 = 1) (he : d * 2 ^ s = n) : s = tz n ∧ d = n / 2 ^ tz n := by
 obtain ⟨h1, h2⟩ := uz h0 h
 exact py s (tz n) d (n / 2 ^ tz n) hd h2 (he.trans h1)
theorem lT {n s x : Nat} (hs : 0 < s) (h : x = n - 1) : sqs n s x = true := by
 obtain ⟨s, rfl⟩ : ∃ t, s = t + 1 := ⟨s - 1, by omega⟩
 rw [sqs, if_pos h]
theorem jO {n s x : Nat} (hs : 0 < s) (h : x ≠ n - 1) : sqs n s x = sqs n (s - 1) (x * x % n) := by
 obtain ⟨s, rfl⟩ : ∃ t, s = t + 1 := ⟨s - 1, by omega⟩
 rw [sqs, if_neg h]; rfl
theorem rS {n : Nat} (h2 : ¬ n < 2) (h : tdiv n ps12 = none) : 37 < n := Nat.lt_of_not_le fun h1 => by
 have : ∀ m : Fin 38, 2 ≤ m.val → tdiv m.val ps12 ≠ none := by decide
 exact this ⟨n, by omega⟩ (by show 2 ≤ n; omega) h
structure IK where
 name : Bs
 g : Gp
 z : Bs
 s : Bs
 r : List Bs
 u : Bs
 h : Bs
abbrev ikV (k : IK) (r : Value) : Value := .agg #[.string (S k.name), .string (S k.g.1), .string (S k.g.2), .string (S k.z), .string (S k.s), r, .string (S k.u), .string (S k.h)]
structure PR where
 ch : Bs
 sl : Bs
 mn : PK
 wh : PK
 sec : Bs
 attr : Bs
 han : Bs
 lo : Bs
 sz : Bs
 bl : Bs
 msk : Bs
abbrev prC (p : PR) : List Value := [.string (S p.ch), .string (S p.sl), .string (S p.mn.1.1), .string (S p.mn.1.2), .string (S p.mn.2.1), .string (S p.mn.2.2), .string (S p.wh.1.1), .string (S p.wh.1.2), .string (S p.wh.2.1), .string (S p.wh.2.2), .string (S p.sec), .string (S p.attr), .string (S p.han), .string (S p.lo), .string (S p.sz), .string (S p.bl), .string (S p.msk)]
abbrev prV (p : PR) : Value := .agg #[.string (S p.ch), .string (S p.sl), .string (S p.mn.1.1), .string (S p.mn.1.2), .string (S p.mn.2.1), .string (S p.mn.2.2), .string (S p.wh.1.1), .string (S p.wh.1.2), .string (S p.wh.2.1), .string (S p.wh.2.2), .string (S p.sec), .string (S p.attr), .string (S p.han), .string (S p.lo), .string (S p.sz), .string (S p.bl), .string (S p.msk)]
abbrev fG (p : PR) : List Bs := [p.ch, p.sl, p.sec, p.attr, p.han, p.lo, p.sz, p.bl, p.msk]
def okR (p : PR) : Prop := (∀ x ∈ fG p, okN x) ∧ okK p.mn ∧ okK p.wh
instance (p : PR) : Decidable (okR p) := inferInstanceAs (Decidable (_ ∧ _))
def aX (g : Gp) : Int :=
 if ¬ (okN g.1 ∧ okN g.2) then 3 else if 8 < g.1.length then 5 else if isP (val g.1) = false then 12 else if 8 < g.2.length then 13
 else if isP (val g.2) = false then 12 else if (val g.1 - 1) % val g.2 ≠ 0 then 13 else 0
def iK (g : Gp) (x : Bs) : Prop := ji g x ∧ x ≠ ae 1
instance (g : Gp) (x : Bs) : Decidable (iK g x) := inferInstanceAs (Decidable (_ ∧ _))
def dz (g : Gp) (x : Bs) : Prop := jh g x ∧ x ≠ ae 1
instance (g : Gp) (x : Bs) : Decidable (dz g x) := inferInstanceAs (Decidable (_ ∧ _))
def ny (p : PR) : Prop := aX p.mn.1 = 0 ∧ iK p.mn.1 p.mn.2.1 ∧ iK p.mn.1 p.mn.2.2 ∧ dz p.wh.1 p.wh.2.1 ∧ dz p.wh.1 p.wh.2.2
instance (p : PR) : Decidable (ny p) := inferInstanceAs (Decidable (_ ∧ _))
def na (p : PR) : Prop := (∀ x ∈ fG p, 2 ≤ val x) ∧ 8 * val p.attr ≤ val p.mn.1.2 ∧ val p.ch ≤ val p.mn.1.2 ∧ val p.sec ≤ val p.mn.1.2
instance (p : PR) : Decidable (na p) := inferInstanceAs (Decidable (_ ∧ _))
def cx (p : PR) : Int := if ¬ okR p then 3 else if ¬ ny p then 13 else if ¬ na p then 2 else 0
def szV (p : PR) : Nat := 2 * val p.bl + (val p.lo + val p.sz) * val p.msk
def szH (p : PR) : Nat := val p.han * val p.msk
def jd (p : PR) : (Bs × Bs) × Int := if cx p ≠ 0 then (([], []), cx p) else if szV p < Big ∧ szH p < Big then ((ae (szV p), ae (szH p)), 0) else (([], []), 5)
def yD (c : UInt8) : Prop := (97 ≤ c.toNat ∧ c.toNat ≤ 122) ∨ (65 ≤ c.toNat ∧ c.toNat ≤ 90)
instance (c : UInt8) : Decidable (yD c) := inferInstanceAs (Decidable (_ ∨ _))
def yV (c : UInt8) : Prop := c.toNat = 95 ∨ (48 ≤ c.toNat ∧ c.toNat ≤ 57)
instance (c : UInt8) : Decidable (yV c) := inferInstanceAs (Decidable (_ ∨ _))
def nmB (i : Nat) (c : UInt8) : Prop := yD c ∨ (i ≠ 0 ∧ yV c)
instance (i : Nat) (c : UInt8) : Decidable (nmB i c) := inferInstanceAs (Decidable (_ ∨ _))
def iX (s : Bs) : Prop := (∀ i, i < s.length → nmB i (s.getD i default)) ∧ s ≠ [] ∧ s.length ≤ 32
instance (s : Bs) : Decidable (iX s) := inferInstanceAs (Decidable (_ ∧ _))
abbrev bsK (k : IK) : List Bs := [k.s, k.z, k.u, k.h] ++ k.r
def dQ (p : PR) (k : IK) : Int :=
 if cx p ≠ 0 then cx p else if ¬ ((okN k.g.1 ∧ okN k.g.2) ∧ ∀ x ∈ bsK k, okN x) then 3 else if ¬ iX k.name then 1
 else if k.g.2 ≠ [] ∨ bP k.g ≠ 0 then 13 else if k.r.length < 2 ∨ 18 < k.r.length then 6
 else if ¬ ((∀ x ∈ bsK k, elG k.g x) ∧ k.s ≠ ae 1) then 13 else 0
theorem dE {p : PR} {k : IK} (h : dQ p k = 0) : cx p = 0 ∧ (okN k.g.1 ∧ okN k.g.2) ∧ (∀ x ∈ bsK k, okN x) ∧ k.g.2 = [] ∧ bP k.g = 0 ∧ 2 ≤ k.r.length ∧ k.r.length ≤ 18 ∧ (∀ x ∈ bsK k, elG k.g x) := by
 unfold dQ at h
 split at h
 ·rename_i h1; exact absurd h h1
 ·rename_i h1; split at h
  ·simp at h
  ·rename_i h2; split at h
   ·simp at h
   ·split at h
    ·simp at h
    ·rename_i h4; split at h
     ·simp at h
     ·rename_i h5; split at h
      ·simp at h
      ·rename_i h6
       have h2 := Decidable.not_not.1 h2; have h6 := Decidable.not_not.1 h6
       refine ⟨Decidable.not_not.1 h1, h2.1, h2.2, Decidable.byContradiction fun h => h4 (Or.inl h), Decidable.byContradiction fun h => h4 (Or.inr h), by omega, by omega, h6.1⟩
theorem gk {p : PR} (h : cx p = 0) : okR p ∧ ny p ∧ na p := by
 unfold cx at h
 split at h
 ·simp at h
 ·rename_i h1; split at h
  ·simp at h
  ·rename_i h2; split at h
   ·simp at h
   ·rename_i h3; exact ⟨Decidable.not_not.1 h1, Decidable.not_not.1 h2, Decidable.not_not.1 h3⟩
section
variable {ds : List Deferred} {P : Program} {o : Oper} {n : Nat} {L : ak} {Z : World → Prop} {x y : Operand} {t t2 : TypeId} {xs ys : Array Value} {b : Bool}
theorem sw (hop : o.op = .binOp .neq t x y t2) (hx : ag L x = some (.agg xs)) (hy : ag L y = some (.agg ys)) (hg : P.eqGuardType P.depth t = false) (hr : ∀ w : World, (binOp .eql t (.agg xs) (.agg ys)).run P w = .ok (.bool b) w) : Rd ds P o n L Z (.bool (!b)) :=
 aV hop hx hy (fun w => run_eqGuard_agg w _ _ _ _ _ _ hg) fun w => by
  have := hr w
  rw [run_eql_struct] at this
  rw [run_neq_struct]
  cases h : (Op.equalIn 10000 t (.agg xs) (.agg ys)).run P w with
  | ok c w' => rw [h] at this; simp at this ⊢; exact ⟨by rw [this.1], this.2⟩
  | halt c w' => rw [h] at this; simp at this
end
theorem i1 (p q : Bool) (a b : Bs) (w : World) : (binOp .eql 37 (.agg #[.bool p, .string (S a)]) (.agg #[.bool q, .string (S b)])).run Tryz.prog w = .ok (.bool (decide (p = q ∧ a = b))) w := by
 rw [run_eql_struct, run_equalIn_agg w _ _ _ _ (by kernel_rfl) (by kernel_rfl)]
 have h1 : Tryz.prog.underlying 4 = some .bool := by kernel_rfl
 have h2 : Tryz.prog.underlying 22 = some .string := by kernel_rfl
 have hf : (Tryz.prog.fieldsOf 37).toList = [⟨"Neg", 4, 0, false, "", "", 0⟩, ⟨"Abs", 22, 1, false, "", "", 8⟩] := by kernel_rfl
 have e1 : ∀ (u v : Value) (w : World), (part 4 #[u, v] 0).run Tryz.prog w = .ok u w := fun u v w => run_part_plain w (by kernel_rfl) rfl
 have e2 : ∀ (u v : Value) (w : World), (part 22 #[u, v] 1).run Tryz.prog w = .ok v w := fun u v w => run_part_plain w (by kernel_rfl) rfl
 have hb : ∀ (w : World), (Op.equalIn 9999 4 (.bool p) (.bool q)).run Tryz.prog w = .ok (p == q) w := fun w => run_equalIn_bool' w 9998 _ p q h1
 have hs : ∀ (w : World), (Op.equalIn 9999 22 (.string (S a)) (.string (S b))).run Tryz.prog w = .ok (decide (a = b)) w := fun w => by
  rw [run_equalIn_string w 9998 _ _ _ h2, nX]
 rw [hf]
 simp only [Op.eqFields, Sem.run_bind, e1, e2, hb, hs, Result.andThen_ok, Sem.run_ite, Sem.run_pure]
 cases p <;> cases q <;> by_cases h : a = b <;> simp [h]
end Go.Proofs.YtkdlonihbjhhoaaGreatDoor
namespace Go.Proofs.YtkdlonihbjhhoaaGreatDoor
set_option linter.unusedSimpArgs false
set_option linter.unusedVariables false
open Go.ChangeShapes Go.WideShapes Go.ChangeAt Go.RowKit
section
variable {H : Type} {enc : TypeId × Value → H} {P : Program} {w : World} {spare : Nat → Bool} {held : Bool}
theorem kA {b i : Nat} {v : Value} (h : w.cell? ⟨b, i, none⟩ = some v) : ∃ cs T fz, w.heap[b]? = some (.cells cs T fz) ∧ cs[i]? = some v := by
 unfold World.cell? at h
 split at h
 ·rename_i cs T fz hb
  refine ⟨cs, T, fz, hb, ?_⟩
  simpa using h
 ·simp at h
theorem qu {a : Addr} {xs : List Value} (h : ∀ i v, xs[i]? = some v → w.cell? (a.add i) = some v) : (Fact.sl (some a) xs).holds (fun _ => True) w := by
 cases xs with
 | nil => exact .inl rfl
 | cons x xs =>
  right
  obtain ⟨b, off, spot⟩ := a
  have hspot : spot = none := by simpa [Addr.add] using World.cell?_spot (h 0 x rfl)
  subst hspot
  have h0 := h 0 x rfl
  rw [Addr.add_lit] at h0
  obtain ⟨cs, T, fz, hb, _⟩ := kA h0
  refine ⟨b, off, cs, T, fz, rfl, trivial, hb, fun i hi => ?_⟩
  have h1 := h i _ (List.getElem?_eq_getElem hi)
  rw [Addr.add_lit] at h1
  obtain ⟨cs', T', fz', hb', h2⟩ := kA h1
  rw [hb] at hb'; cases hb'
  rw [h2, List.getElem?_eq_getElem hi]
end
end Go.Proofs.YtkdlonihbjhhoaaGreatDoor
namespace Go.Proofs.YtkdlonihbjhhoaaGreatDoor
set_option linter.unusedSimpArgs false
set_option linter.unusedVariables false
open Go.ChangeShapes Go.WideShapes Go.ChangeAt Go.RowKit
structure Sl (α : Type) where
 a : Option Addr
 l : List α
 cap : Nat
abbrev Sl.val {α : Type} (s : Sl α) : Value := .slice s.a s.l.length s.cap
section
variable {H : Type} {enc : TypeId × Value → H} {P : Program} {w : World} {spare : Nat → Bool} {held : Bool} {fuel : Nat} {t e : TypeId} {cs : List Value} {x : DataW H × List MemPlace}
theorem op_int {k : IntKind} (ht : P.underlying t = some (.int k)) (h : DataW.trod enc P w 0 spare held fuel t cs = some x) : ∃ n : Int, cs = [.int k n] ∧ (Lit.int k n).wf = true := by
 cases fuel with
 | zero => simp [DataW.trod] at h
 | succ n =>
  simp only [DataW.trod, ht] at h
  split at h <;> simp_all
theorem op_bool (ht : P.underlying t = some .bool) (h : DataW.trod enc P w 0 spare held fuel t cs = some x) : ∃ b : Bool, cs = [.bool b] := by
 cases fuel with
 | zero => simp [DataW.trod] at h
 | succ n =>
  simp only [DataW.trod, ht] at h
  split at h <;> simp_all
theorem np {α β : Type} {f : α → Option β} : ∀ {l : List α} {r : List β}, l.mapM f = some r → ∀ y ∈ l, ∃ z, f y = some z
 | [], _, _, y, hy => by cases hy
 | a :: l, r, h, y, hy => by
  rw [List.mapM_cons] at h
  cases hf : f a with
  | none => simp [hf] at h
  | some z =>
   cases hr : l.mapM f with
   | none => simp [hf, hr] at h
   | some r' =>
    rcases List.mem_cons.1 hy with rfl | hy
    ·exact ⟨z, hf⟩
    ·exact np hr y hy
theorem op_struct {fs : Array Field} (ht : P.underlying t = some (.struct fs)) (h : DataW.trod enc P w 0 spare held fuel t cs = some x) :
  cs.length = P.cellsOf t ∧ ∃ m, ∀ f ∈ fs.toList, ∃ y, DataW.trod enc P w 0 spare held m f.type ((cs.drop f.offset).take (P.cellsOf f.type)) = some y := by
 cases fuel with
 | zero => simp [DataW.trod] at h
 | succ n =>
  simp only [DataW.trod, ht] at h
  split at h
  ·rename_i hl
   refine ⟨hl, n, fun f hf => ?_⟩
   obtain ⟨xs, hxs, _⟩ := Option.map_eq_some_iff.1 h
   exact np hxs f hf
  ·cases h
theorem cells?_get {a : Addr} {n : Nat} {ys : List Value} (h : w.cells? 0 a n = some ys) : ys.length = n ∧ ∀ i v, ys[i]? = some v → w.cell? (a.add i) = some v := by
 unfold World.cells? at h
 simp only [Nat.zero_le, if_true] at h
 have key : ∀ (l : List Nat) (ys : List Value), (l.mapM fun i => w.cell? (a.add i)) = some ys → ys.length = l.length ∧ ∀ (i : Nat) (v : Value), ys[i]? = some v → ∃ j : Nat, l[i]? = some j ∧ w.cell? (a.add j) = some v := by
  intro l
  induction l with
  | nil => intro ys h; simp at h; subst h; simp
  | cons j l ih =>
   intro ys h
   rw [List.mapM_cons] at h
   cases hf : w.cell? (a.add j) with
   | none => simp [hf] at h
   | some z =>
    cases hr : l.mapM fun i => w.cell? (a.add i) with
    | none => simp [hf, hr] at h
    | some r' =>
     simp [hf, hr] at h
     subst h
     obtain ⟨h1, h2⟩ := ih r' hr
     refine ⟨by simp [h1], fun i v hi => ?_⟩
     cases i with
     | zero => simp at hi; subst hi; exact ⟨j, rfl, hf⟩
     | succ i => simp at hi; simpa using h2 i v hi
 obtain ⟨h1, h2⟩ := key _ _ h
 refine ⟨by simpa using h1, fun i v hi => ?_⟩
 obtain ⟨j, hj, hc⟩ := h2 i v hi
 have : i < n := by
  have := (List.getElem?_eq_some_iff.1 hj).1
  simpa using this
 rw [List.getElem?_range this] at hj
 cases hj
 exact hc
theorem x8 {α : Type} (f : α → Value) (l : List α) : l.flatMap (fun x => [f x]) = l.map f := by induction l with | nil => rfl | cons x l ih => simp [ih]
theorem sl_map {α : Type} {a : Option Addr} {l : List α} {f : α → Value} {ok : Nat → Prop} (h : (Fact.sl a (l.flatMap fun x => [f x])).holds ok w) : (Fact.sl a (l.map f)).holds ok w := by rw [x8] at h; exact h
end
end Go.Proofs.YtkdlonihbjhhoaaGreatDoor
namespace Go.Proofs.YtkdlonihbjhhoaaGreatDoor
set_option linter.unusedSimpArgs false
set_option linter.unusedVariables false
open Go.ChangeShapes Go.WideShapes Go.ChangeAt Go.RowKit
def Wt {H : Type} (P : Program) (t : TypeId) (d : DataW H) : Prop := ∀ n ∈ d.weights P t, n ≤ 140737488351232
theorem wt_all {H : Type} {P : Program} {ts : List TypeId} {ds : List (DataW H)} (h : (DataW.weightsEach P ts ds).all (· ≤ reachBytes) = true) {j : Nat} {t : TypeId} {d : DataW H} (ht : ts[j]? = some t) (hd : ds[j]? = some d) : Wt P t d := fun n hn => by
 have := List.all_eq_true.1 h n (DataW.weights_mem_each ht hd n hn)
 exact of_decide_eq_true this
theorem fl {H : Type} {P : Program} {e : TypeId} {d : DataW H} {n : Nat} : ∀ {l : List (DataW H)}, d ∈ l → n ∈ d.weights P e → n ∈ DataW.weightsAll P e l
 | [], h, _ => by cases h
 | x :: l, h, hn => by
  simp only [DataW.weightsAll, List.mem_append]
  rcases List.mem_cons.1 h with rfl | h
  ·exact .inl hn
  ·exact .inr (fl h hn)
theorem kh {α β : Type} {f : α → Option β} : ∀ {l : List α} {r : List β}, l.mapM f = some r → ∀ (i : Nat) y, l[i]? = some y → ∃ z, f y = some z ∧ r[i]? = some z
 | [], _, _, i, y, hy => by simp at hy
 | a :: l, r, h, i, y, hy => by
  rw [List.mapM_cons] at h
  cases hf : f a with
  | none => simp [hf] at h
  | some z =>
   cases hr : l.mapM f with
   | none => simp [hf, hr] at h
   | some r' =>
    simp [hf, hr] at h
    subst h
    cases i with
    | zero => simp at hy; subst hy; exact ⟨z, hf, rfl⟩
    | succ i => simp at hy; simpa using kh hr i y hy
theorem ib {α β : Type} {f : α → Option β} : ∀ {l : List α} {r : List β}, l.mapM f = some r → r.length = l.length
 | [], r, h => by simp at h; subst h; rfl
 | a :: l, r, h => by
  rw [List.mapM_cons] at h
  cases hf : f a with
  | none => simp [hf] at h
  | some z =>
   cases hr : l.mapM f with
   | none => simp [hf, hr] at h
   | some r' => simp [hf, hr] at h; subst h; simp [ib hr]
section
variable {H : Type} {enc : TypeId × Value → H} {P : Program} {w : World} {spare : Nat → Bool} {held : Bool} {fuel : Nat} {t e : TypeId} {cs : List Value} {x : DataW H × List MemPlace}
theorem vB (ht : P.underlying t = some .string) (h : DataW.trod enc P w 0 spare held fuel t cs = some x) (hz : Wt P t x.1) : ∃ s : List UInt8, cs = [.string (S s)] ∧ s.length ≤ 140737488351232 := by
 cases fuel with
 | zero => simp [DataW.trod] at h
 | succ n =>
  simp only [DataW.trod, ht] at h
  split at h <;> simp_all
  rename_i s
  obtain ⟨h1, rfl⟩ := h
  refine ⟨s.data.toList, (mQ s).symm, hz _ ?_⟩
  simp [DataW.weights]
end
end Go.Proofs.YtkdlonihbjhhoaaGreatDoor
namespace Go.Proofs.YtkdlonihbjhhoaaGreatDoor
open Go.RowKit
set_option linter.unusedSimpArgs false
set_option linter.unusedVariables false
set_option maxHeartbeats 600000
set_option maxRecDepth 20000
def yk (k : IK) (x : Bs) (ws : List Zs) (n : Nat) : Prop := (okN k.g.1 ∧ okN k.g.2 ∧ okN k.h ∧ okN x) ∧ ∀ z ∈ ws.take n, okZ z
instance (k : IK) (x : Bs) (ws : List Zs) (n : Nat) : Decidable (yk k x ws n) := inferInstanceAs (Decidable (_ ∧ _))
def lU (n : Int) (l : List Bs) : Prop := ∀ x ∈ l, (x.length : Int) ≤ n
instance (n : Int) (l : List Bs) : Decidable (lU n l) := inferInstanceAs (Decidable (∀ x ∈ l, _))
def zG (k : IK) : Prop := lU 8 [k.g.1, k.g.2] ∧ lU 9 [k.z, k.s, k.u, k.h] ∧ (k.r.length : Int) ≤ 6 ∧ lU 9 k.r ∧ (k.name.length : Int) ≤ 60
instance (k : IK) : Decidable (zG k) := inferInstanceAs (Decidable (_ ∧ _))
end Go.Proofs.YtkdlonihbjhhoaaGreatDoor
namespace Go.Proofs.YtkdlonihbjhhoaaGreatDoor
set_option linter.unusedSimpArgs false
set_option linter.unusedVariables false
set_option maxRecDepth 20000
abbrev W := BitVec 32
def rr (x : W) (n : Nat) : W := x >>> n ||| x <<< (32 - n)
def u32 (x : W) : Value := .int .u32 (x.toNat : Int)
def s0 (x : W) : W := (rr x 7 ^^^ rr x 18) ^^^ x >>> 3
def s1 (y : W) : W := (rr y 17 ^^^ rr y 19) ^^^ y >>> 10
def qi (a b c d : UInt8) : W := BitVec.ofNat 32 (a.toNat * 16777216 + b.toNat * 65536 + c.toNat * 256 + d.toNat)
def bM : List UInt8 → List W
 | a :: b :: c :: d :: r => qi a b c d :: bM r
 | _ => []
def pC (w : List W) : W := ((w.getD (w.length - 16) 0 + s0 (w.getD (w.length - 15) 0)) + w.getD (w.length - 7) 0) + s1 (w.getD (w.length - 2) 0)
def cd : Nat → List W → List W
 | 0, w => w
 | n + 1, w => cd n w ++ [pC (cd n w)]
def tt (e f g h k w : W) : W := (((h + ((rr e 6 ^^^ rr e 11) ^^^ rr e 25)) + ((e &&& f) ^^^ (~~~e &&& g))) + k) + w
def uu (a b c : W) : W := ((rr a 2 ^^^ rr a 13) ^^^ rr a 22) + (((a &&& b) ^^^ (a &&& c)) ^^^ (b &&& c))
def rnd (k w : W) : List W → List W
 | [a, b, c, d, e, f, g, h] => [tt e f g h k w + uu a b c, a, b, c, d + tt e f g h k w, e, f, g]
 | l => l
def eR (ks ws : List W) : Nat → List W → List W
 | 0, x => x
 | n + 1, x => rnd (ks.getD n 0) (ws.getD n 0) (eR ks ws n x)
def KK : List W := [0x428a2f98#32, 0x71374491#32, 0xb5c0fbcf#32, 0xe9b5dba5#32, 0x3956c25b#32, 0x59f111f1#32, 0x923f82a4#32, 0xab1c5ed5#32,
 0xd807aa98#32, 0x12835b01#32, 0x243185be#32, 0x550c7dc3#32, 0x72be5d74#32, 0x80deb1fe#32, 0x9bdc06a7#32, 0xc19bf174#32,
 0xe49b69c1#32, 0xefbe4786#32, 0x0fc19dc6#32, 0x240ca1cc#32, 0x2de92c6f#32, 0x4a7484aa#32, 0x5cb0a9dc#32, 0x76f988da#32,
 0x983e5152#32, 0xa831c66d#32, 0xb00327c8#32, 0xbf597fc7#32, 0xc6e00bf3#32, 0xd5a79147#32, 0x06ca6351#32, 0x14292967#32,
 0x27b70a85#32, 0x2e1b2138#32, 0x4d2c6dfc#32, 0x53380d13#32, 0x650a7354#32, 0x766a0abb#32, 0x81c2c92e#32, 0x92722c85#32,
 0xa2bfe8a1#32, 0xa81a664b#32, 0xc24b8b70#32, 0xc76c51a3#32, 0xd192e819#32, 0xd6990624#32, 0xf40e3585#32, 0x106aa070#32,
 0x19a4c116#32, 0x1e376c08#32, 0x2748774c#32, 0x34b0bcb5#32, 0x391c0cb3#32, 0x4ed8aa4a#32, 0x5b9cca4f#32, 0x682e6ff3#32,
 0x748f82ee#32, 0x78a5636f#32, 0x84c87814#32, 0x8cc70208#32, 0x90befffa#32, 0xa4506ceb#32, 0xbef9a3f7#32, 0xc67178f2#32]
def H0 : List W := [0x6a09e667#32, 0xbb67ae85#32, 0x3c6ef372#32, 0xa54ff53a#32, 0x510e527f#32, 0x9b05688c#32, 0x1f83d9ab#32, 0x5be0cd19#32]
def gN : List W → List W → List W
 | a :: x, b :: y => (a + b) :: gN x y
 | _, _ => []
def eJ (x : List W) (blk : List UInt8) : List W := gN (eR KK (cd 48 (bM blk)) 64 x) x
def gK : Nat → List W → List UInt8 → List W
 | 0, x, _ => x
 | n + 1, x, m => gK n (eJ x (m.take 64)) (m.drop 64)
def bf (n i : Nat) : UInt8 := UInt8.ofNat (n / 2 ^ (8 * i) % 256)
def mv (n : Nat) : List UInt8 := [bf n 7, bf n 6, bf n 5, bf n 4, bf n 3, bf n 2, bf n 1, bf n 0]
def cR (n : Nat) : Nat := (119 - n % 64) % 64
def pad (s : List UInt8) : List UInt8 := s ++ [128] ++ List.replicate (cR s.length) 0 ++ mv (8 * s.length)
def oL (x : W) : List UInt8 := [bf x.toNat 3, bf x.toNat 2, bf x.toNat 1, bf x.toNat 0]
def me (x : List W) : List UInt8 := x.flatMap oL
def sha (s : List UInt8) : List UInt8 := me (gK ((pad s).length / 64) H0 (pad s))
def dA (key : List UInt8) : List UInt8 := if key.length > 64 then sha key else key
def lL (key : List UInt8) (x : UInt8) : List UInt8 := (key ++ List.replicate (64 - key.length) 0).map (· ^^^ x)
def mac (key s : List UInt8) : List UInt8 := sha (lL (dA key) 92 ++ sha (lL (dA key) 54 ++ s))
theorem lM (n : Nat) : IntKind.u32.wrap (n : Int) = ((BitVec.ofNat 32 n).toNat : Int) := by
 rw [IntKind.wrap_u32]; simp [BitVec.toNat_ofNat]
theorem zl (x y : W) : IntKind.u32.wrap ((x.toNat : Int) + (y.toNat : Int)) = ((x + y).toNat : Int) := by
 rw [IntKind.wrap_u32, BitVec.toNat_add]; omega
theorem f6 (x : W) : BitVec.ofInt 32 (x.toNat : Int) = x := by
 apply BitVec.eq_of_toNat_eq; simp
theorem wF (x y : W) : bits .xor .u32 (x.toNat : Int) (y.toNat : Int) = ((x ^^^ y).toNat : Int) := by
 unfold bits
 show IntKind.u32.wrap ((BitVec.ofInt 32 (x.toNat : Int) ^^^ BitVec.ofInt 32 (y.toNat : Int)).toNat : Int) = _
 rw [f6, f6, lM]; simp
theorem zj (x y : W) : bits .and .u32 (x.toNat : Int) (y.toNat : Int) = ((x &&& y).toNat : Int) := by
 unfold bits
 show IntKind.u32.wrap ((BitVec.ofInt 32 (x.toNat : Int) &&& BitVec.ofInt 32 (y.toNat : Int)).toNat : Int) = _
 rw [f6, f6, lM]; simp
theorem vA (x y : W) : bits .or .u32 (x.toNat : Int) (y.toNat : Int) = ((x ||| y).toNat : Int) := by
 unfold bits
 show IntKind.u32.wrap ((BitVec.ofInt 32 (x.toNat : Int) ||| BitVec.ofInt 32 (y.toNat : Int)).toNat : Int) = _
 rw [f6, f6, lM]; simp
theorem yY (x : W) : bits .xor .u32 (if IntKind.u32.signed then -1 else IntKind.u32.max) (x.toNat : Int) = ((~~~x).toNat : Int) := by
 have e : (if IntKind.u32.signed then -1 else IntKind.u32.max) = ((BitVec.allOnes 32).toNat : Int) := by decide
 rw [e, wF, BitVec.allOnes_xor]
theorem o8 (x : W) (n : Nat) (h : n ≤ 32) : IntKind.u32.wrap ((x.toNat : Int) * 2 ^ n) = ((x <<< n).toNat : Int) := by
 rw [IntKind.wrap_u32, BitVec.toNat_shiftLeft, Nat.shiftLeft_eq]
 have : ((2 : Int) ^ n) = ((2 ^ n : Nat) : Int) := by simp
 rw [this]; omega
theorem wH (x : W) (n : Nat) : (x.toNat : Int).fdiv (2 ^ n) = ((x >>> n).toNat : Int) := by
 rw [BitVec.toNat_ushiftRight, Nat.shiftRight_eq_div_pow]
 have : ((2 : Int) ^ n) = ((2 ^ n : Nat) : Int) := by simp
 rw [this, Int.fdiv_eq_ediv_of_nonneg _ (Int.natCast_nonneg _)]; exact (Int.natCast_ediv _ _).symm
theorem yp (x : W) (n : Nat) (h0 : 0 < n) (h : n < 32) : bits .or .u32 (IntKind.u32.wrap ((x.toNat : Int) * 2 ^ (32 - n))) ((x.toNat : Int).fdiv (2 ^ n)) = ((rr x n).toNat : Int) := by
 rw [o8 x (32 - n) (by omega), wH, vA, rr, BitVec.or_comm]
theorem zk (n : Nat) (h0 : 0 < n) (h : n < 32) : bits .and .u64 (IntKind.u64.wrap (0 - (n : Int))) 31 = 32 - (n : Int) := by
 have : ∀ k : Fin 32, 0 < k.val → bits .and .u64 (IntKind.u64.wrap (0 - (k.val : Int))) 31 = 32 - (k.val : Int) := by decide
 exact this ⟨n, h⟩ h0
theorem tw {α : Type} (l : List α) (f : α → Value) (z : Value) (n k : Nat) (x : α) (hk : k < n) (hx : l[k]? = some x) :
  ((l.take k).map f ++ List.replicate (n - k) z).set k (f x) = (l.take (k + 1)).map f ++ List.replicate (n - (k + 1)) z := by
 have hl : k < l.length := (List.getElem?_eq_some_iff.1 hx).1
 have hlen : ((l.take k).map f).length = k := by simp; omega
 rw [List.set_append_right _ _ (by omega), hlen, Nat.sub_self, List.take_add_one, hx]
 have : n - k = (n - (k + 1)) + 1 := by omega
 rw [this, List.replicate_succ]
 simp
theorem kT : ∀ (k : Nat) (bs : List UInt8) (c0 c1 c2 c3 : UInt8), bs[4 * k]? = some c0 → bs[4 * k + 1]? = some c1 → bs[4 * k + 2]? = some c2 → bs[4 * k + 3]? = some c3 → (bM bs)[k]? = some (qi c0 c1 c2 c3)
 | 0, bs, c0, c1, c2, c3, h0, h1, h2, h3 => by
  match bs, h0, h1, h2, h3 with
  | a :: b :: c :: d :: r, h0, h1, h2, h3 => simp at h0 h1 h2 h3; simp [bM, h0, h1, h2, h3]
 | k + 1, bs, c0, c1, c2, c3, h0, h1, h2, h3 => by
  match bs, h3 with
  | a :: b :: c :: d :: r, h3 =>
   have e : ∀ q, (a :: b :: c :: d :: r)[4 * (k + 1) + q]? = r[4 * k + q]? := fun q => by
    rw [show 4 * (k + 1) + q = (4 * k + q) + 4 by omega]; simp
   have e0 := e 0
   simp only [Nat.add_zero] at e0
   simp only [bM, List.getElem?_cons_succ]
   exact kT k r c0 c1 c2 c3 (e0 ▸ h0) (e 1 ▸ h1) (e 2 ▸ h2) (e 3 ▸ h3)
  | [], h3 => simp at h3
  | [_], h3 => simp at h3
  | [_, _], h3 => simp at h3
  | [_, _, _], h3 => simp at h3
theorem iz : ∀ (n : Nat) (bs : List UInt8), bs.length = 4 * n → (bM bs).length = n
 | 0, bs, h => by have : bs = [] := List.eq_nil_of_length_eq_zero (by omega); subst this; rfl
 | n + 1, bs, h => by
  match bs, h with
  | a :: b :: c :: d :: r, h => simp only [bM, List.length_cons]; rw [iz n r (by simp at h; omega)]
  | [], h => simp at h
  | [_], h => simp at h; omega
  | [_, _], h => simp at h; omega
  | [_, _, _], h => simp at h; omega
theorem cZ (n : Nat) (w : List W) : (cd n w).length = w.length + n := by
 induction n with
 | zero => rfl
 | succ n ih => simp [cd, ih]; omega
theorem uw (c : UInt8) : IntKind.u32.wrap (c.toNat : Int) = ((BitVec.ofNat 32 c.toNat).toNat : Int) := lM c.toNat
theorem wZ (c0 c1 c2 c3 : UInt8) : ((BitVec.ofNat 32 c0.toNat <<< 24 ||| BitVec.ofNat 32 c1.toNat <<< 16) ||| BitVec.ofNat 32 c2.toNat <<< 8) ||| BitVec.ofNat 32 c3.toNat = qi c0 c1 c2 c3 := by
 have h0 := c0.toNat_lt; have h1 := c1.toNat_lt; have h2 := c2.toNat_lt; have h3 := c3.toNat_lt
 apply BitVec.eq_of_toNat_eq
 simp only [qi, BitVec.toNat_or, BitVec.toNat_shiftLeft, BitVec.toNat_ofNat, Nat.shiftLeft_eq]
 rw [Nat.mod_eq_of_lt (by omega : c0.toNat < 2 ^ 32), Nat.mod_eq_of_lt (by omega : c1.toNat < 2 ^ 32), Nat.mod_eq_of_lt (by omega : c2.toNat < 2 ^ 32), Nat.mod_eq_of_lt (by omega : c3.toNat < 2 ^ 32)]
 rw [Nat.mod_eq_of_lt (by omega : c0.toNat * 2 ^ 24 < 2 ^ 32), Nat.mod_eq_of_lt (by omega : c1.toNat * 2 ^ 16 < 2 ^ 32), Nat.mod_eq_of_lt (by omega : c2.toNat * 2 ^ 8 < 2 ^ 32), Nat.mod_eq_of_lt (by omega)]
 have e1 := Nat.two_pow_add_eq_or_of_lt (i := 24) (b := c1.toNat * 2 ^ 16) (by omega) c0.toNat
 have e2 := Nat.two_pow_add_eq_or_of_lt (i := 16) (b := c2.toNat * 2 ^ 8) (by omega) (c0.toNat * 2 ^ 8 + c1.toNat)
 have e3 := Nat.two_pow_add_eq_or_of_lt (i := 8) (b := c3.toNat) (by omega) (c0.toNat * 2 ^ 16 + c1.toNat * 2 ^ 8 + c2.toNat)
 rw [Nat.mul_comm c0.toNat, ← e1]
 rw [show 2 ^ 24 * c0.toNat + c1.toNat * 2 ^ 16 = 2 ^ 16 * (c0.toNat * 2 ^ 8 + c1.toNat) by omega, ← e2]
 rw [show 2 ^ 16 * (c0.toNat * 2 ^ 8 + c1.toNat) + c2.toNat * 2 ^ 8 = 2 ^ 8 * (c0.toNat * 2 ^ 16 + c1.toNat * 2 ^ 8 + c2.toNat) by omega, ← e3]
 first | done | omega
theorem qh (c0 c1 c2 c3 : UInt8) : bits .or .u32 (bits .or .u32 (bits .or .u32 (IntKind.u32.wrap (IntKind.u32.wrap (c0.toNat : Int) * 2 ^ (min (Int.toNat 24) IntKind.u32.bits))) (IntKind.u32.wrap (IntKind.u32.wrap (c1.toNat : Int) * 2 ^ (min (Int.toNat 16) IntKind.u32.bits)))) (IntKind.u32.wrap (IntKind.u32.wrap (c2.toNat : Int) * 2 ^ (min (Int.toNat 8) IntKind.u32.bits)))) (IntKind.u32.wrap (c3.toNat : Int)) = ((qi c0 c1 c2 c3).toNat : Int) := by
 have m1 : min (Int.toNat 24) IntKind.u32.bits = 24 := by decide
 have m2 : min (Int.toNat 16) IntKind.u32.bits = 16 := by decide
 have m3 : min (Int.toNat 8) IntKind.u32.bits = 8 := by decide
 rw [m1, m2, m3, uw, uw, uw, uw, o8 _ 24 (by omega), o8 _ 16 (by omega), o8 _ 8 (by omega), vA, vA, vA, wZ]
section
variable {ds : List Deferred} {ρ : Option Nat} {P : Program} {o : Oper} {n : Nat} {L : ak} {Z : World → Prop} {x y : Operand} {t t2 : TypeId} {a b : W}
theorem cG (hop : o.op = .binOp .add t x y t2) (hx : ag L x = some (u32 a)) (hy : ag L y = some (u32 b)) : Rd ds P o n L Z (u32 (a + b)) := by
 have := og (ds := ds) (P := P) (n := n) (St := Z) hop hx hy; rwa [zl] at this
theorem cF (hop : o.op = .binOp .xor t x y t2) (hx : ag L x = some (u32 a)) (hy : ag L y = some (u32 b)) : Rd ds P o n L Z (u32 (a ^^^ b)) := by
 have := jV (ds := ds) (P := P) (n := n) (St := Z) hop hx hy; rwa [wF] at this
theorem gY (hop : o.op = .binOp .and t x y t2) (hx : ag L x = some (u32 a)) (hy : ag L y = some (u32 b)) : Rd ds P o n L Z (u32 (a &&& b)) := by
 have := l6 (ds := ds) (P := P) (n := n) (St := Z) hop hx hy; rwa [zj] at this
theorem vq (hop : o.op = .unOp .xor t x) (hx : ag L x = some (u32 a)) : Rd ds P o n L Z (u32 (~~~a)) := by
 have := xC (ds := ds) (P := P) (n := n) (St := Z) hop hx; rwa [yY] at this
theorem gX {k' : IntKind} {c : Nat} (hop : o.op = .binOp .shr t x y t2) (hx : ag L x = some (u32 a)) (hy : ag L y = some (.int k' (@OfNat.ofNat Int c instOfNat))) (hc : c ≤ 32) : Rd ds P o n L Z (u32 (a >>> c)) := by
 have := gF (ds := ds) (P := P) (n := n) (St := Z) hop hx hy (Int.natCast_nonneg c)
 have e : min (@OfNat.ofNat Int c instOfNat).toNat IntKind.u32.bits = c := by
  show min c 32 = c; omega
 rwa [e, wH] at this
end
theorem eO (l : List W) : ∀ v ∈ l.map u32, v.oneCell' = true := fun v hv => by obtain ⟨c, _, rfl⟩ := List.mem_map.1 hv; rfl
theorem ia {α : Type} (l : List α) (f : α → Value) (r : List Value) (i : Nat) (x : α) (h : l[i]? = some x) : (l.map f ++ r)[i]? = some (f x) := by
 have : i < l.length := (List.getElem?_eq_some_iff.1 h).1
 rw [List.getElem?_append_left (by simpa using this), List.getElem?_map, h]; rfl
theorem ce {α : Type} (l : List α) (i : Nat) (z : α) (h : i < l.length) : l[i]? = some (l.getD i z) := by simp [h]
theorem uZ (k w : W) (x : List W) (h : x.length = 8) : (rnd k w x).length = 8 := by
 match x, h with
 | [a, b, c, d, e, f, g, i], _ => rfl
theorem gE (ks ws : List W) (n : Nat) (x : List W) (h : x.length = 8) : (eR ks ws n x).length = 8 := by
 induction n with
 | zero => exact h
 | succ n ih => exact uZ _ _ _ ih
theorem yT (x : List W) (h : x.length = 8) : ∃ a b c d e f g i, x = [a, b, c, d, e, f, g, i] := by
 match x, h with
 | [a, b, c, d, e, f, g, i], _ => exact ⟨a, b, c, d, e, f, g, i, rfl⟩
theorem iy : ∀ (x y : List W), x.length = y.length → (gN x y).length = x.length
 | [], [], _ => rfl
 | a :: x, b :: y, h => by simp only [gN, List.length_cons]; rw [iy x y (by simpa using h)]
theorem nN : ∀ (x y : List W) (k : Nat) (a b : W), x[k]? = some a → y[k]? = some b → (gN x y)[k]? = some (a + b)
 | a' :: x, b' :: y, 0, a, b, h1, h2 => by simp at h1 h2; simp [gN, h1, h2]
 | a' :: x, b' :: y, k + 1, a, b, h1, h2 => by simp at h1 h2; simp only [gN, List.getElem?_cons_succ]; exact nN x y k a b h1 h2
theorem uk (x y : List W) (k : Nat) (a b : W) (hl : x.length = y.length) (h1 : x[k]? = some a) (h2 : y[k]? = some b) :
  (((gN x y).take k ++ x.drop k).map u32).set k (u32 (a + b)) = ((gN x y).take (k + 1) ++ x.drop (k + 1)).map u32 := by
 have hk : k < x.length := (List.getElem?_eq_some_iff.1 h1).1
 have hal := iy x y hl
 rw [← List.map_set]
 congr 1
 have hlen : ((gN x y).take k).length = k := by simp; omega
 rw [List.set_append_right _ _ (by omega), hlen, Nat.sub_self, List.take_add_one, nN x y k a b h1 h2]
 have hd : (x.drop k).set 0 (a + b) = (a + b) :: x.drop (k + 1) := by rw [List.drop_eq_getElem_cons hk]; rfl
 rw [hd]; simp
end Go.Proofs.YtkdlonihbjhhoaaGreatDoor
