/-
  Parts of the walk: Mo1 Mo2 Mo3 Grp1 Int4.
-/
import Derived.Test.YthkmpjobfdeoaaaGreatDoorJ11
namespace Go.Proofs.YthkmpjobfdeoaaaGreatDoor
open Go.RowKit
set_option linter.unusedSimpArgs false
set_option linter.unusedVariables false
set_option maxHeartbeats 600000
set_option maxRecDepth 20000
def chkM (l ms : List Bs) : Int := if ∀ x ∈ l ++ ms, okN x then (if [] ∈ ms then 11 else 0) else 3
theorem getD_mem {α : Type} [Inhabited α] (l : List α) (i : Nat) (h : i < l.length) : l.getD i default ∈ l := by
 rw [List.getD_eq_getElem?_getD, List.getElem?_eq_getElem h]; exact List.getElem_mem h
theorem all_take {α : Type} [Inhabited α] {p : α → Prop} {l : List α} {i : Nat} (h : i < l.length) (ht : ∀ x ∈ l.take i, p x) (hx : p (l.getD i default)) : ∀ x ∈ l.take (i + 1), p x := by
 intro x hm
 rw [List.take_add_one, List.getElem?_eq_getElem h] at hm
 rcases List.mem_append.1 hm with h1 | h1
 ·exact ht x h1
 ·simp at h1; subst h1
  rwa [List.getD_eq_getElem?_getD, List.getElem?_eq_getElem h] at hx
theorem strs_app (a b : List Bs) : strs a ++ strs b = strs (a ++ b) := by simp [strs]
theorem check_c {l ms : List Bs} {a b : Option Addr} {c : Nat} {w : World} {ok : Nat → Prop} (hF1 : (Fact.sl a (strs l)).holds ok w) (hF2 : (Fact.sl b (strs ms)).holds ok w) (hl : l.length ≤ 1000) (hms : ms.length ≤ 1000) (hl0 : 0 < l.length) (hms0 : 0 < ms.length) :
  Cw 96 #[.slice a l.length l.length, .slice b ms.length c] w (.int .i64 (chkM l ms)) := by
 refine En [Fact.sl a (strs l), Fact.sl b (strs ms)] [(0, .slice a l.length l.length), (1, .slice b ms.length c)] Tryz.func96 rfl Tryz.ntmps96 rfl (Ac rfl (Ac rfl (An _))) (Fc (fact_any hF1) (Fc (fact_any hF2) Fn)) ?_
 refine Cs (Ka rfl (Nt (Cq (Cs (Km rfl (Km rfl ?_))))))
 refine Kh rfl (appsl rfl u31 (by kernel_rfl : _ = some (some (.string (S [])), 1, 16)) rfl rfl rfl (fun w hS => by (exact hS.sl)) (by simp) ?_) ?_
 ·(refine ⟨?_, ?_, ?_, ?_, ?_⟩ <;> (try simp) <;> omega)
 rintro ⟨o11, c11, s11⟩
 refine WL.pu ?_
 intro hg11; (try dsimp only at hg11 ⊢)
 rw [strs_app]
 refine Kq rfl (rd_len rfl rfl u31) (Km rfl (Nt (Cb ?_)))
 refine Lp (σ := Nat) [(1, _), (11, _), (12, _)] (fun gq => [(13, .int .i64 (gq : Int))]) (fun gq => gq ≤ (l ++ ms).length ∧ ∀ x ∈ (l ++ ms).take gq, okN x) (fun gq => (l ++ ms).length - gq) (0) (S3 rfl rfl rfl) (S1 rfl) (by (try dsimp only); exact ⟨Nat.zero_le _, by simp⟩) ?_
 rintro i hinv1; (try dsimp only at hinv1 ⊢)
 obtain ⟨hi, hok⟩ := hinv1
 refine Cs (Kq rfl (rd_lss rfl rfl rfl) (Nt (Cq ?_)))
 refine Cd rfl (fun hc14 => ?_) (fun hc14 => ?_)
 ·(try simp only [sB] at hc14)
  have hil : i < (l ++ ms).length := by (rw [List.length_append]; omega)
  refine Ck (Xa (Cq (Cb (Cs ?_))))
  refine Kq rfl (iao rfl rfl rfl u31 (by kernel_rfl : _ = some 1) (by omega) (by (simp <;> omega)) (by (try simp only [sN, Int.reduceToNat, Nat.reduceAdd, Nat.reduceMul, Nat.reduceSub]); rfl)) ?_
  refine Kq rfl (ldom rfl rfl u22 rfl (by assumption)) (Ka rfl (Nt (Cs (Km rfl ?_))))
  refine Ku rfl (Oc rfl rfl (Kv fun w hS => valid_c (a := (l ++ ms).getD i default))) ?_
  refine Kq rfl (Rt rfl rfl) (Nt ?_)
  refine Cd rfl (fun hc19 => ?_) (fun hc19 => ?_)
  ·(try simp only [sB] at hc19)
   refine Cs (Ka rfl (Nt (Ce (Xf (Xb (Xb (Xf (Xb ?_))))))))
   exact R1 rfl rfl (by rw [chkM, if_neg (fun h => absurd (h _ (getD_mem _ _ hil)) (by simpa using hc19))]; rfl)
  ·(try simp only [sB] at hc19)
   refine Ck (Xd (Xa (Cg (Kq rfl (Rz rfl rfl rfl (by omega)) (Km rfl (Nn ?_))))))
   refine Ly (i + 1) (by rw [List.length_append] at hil ⊢; omega) (S3 rfl rfl rfl) (by refine (Sc ?_ (S0 _)) <;> (rfl)) ?_ (by (exact fun _ h => h))
   (try dsimp only)
   exact ⟨hil, all_take hil hok (by simpa using hc19)⟩
 ·(try simp only [sB] at hc14)
  refine Cx (Xc (Xc (Xe ?_)))
  have hall : ∀ x ∈ l ++ ms, okN x := by
   have e : i = (l ++ ms).length := by rw [List.length_append] at hi ⊢; omega
   subst e; rw [List.take_length] at hok; exact hok
  refine Xa (Cq (Cs (Km rfl (Kq rfl (rd_len rfl rfl u31) (Km rfl (Nt (Cb ?_)))))))
  refine Lp (σ := Nat) [(21, _), (22, _)] (fun gq => [(23, .int .i64 (gq : Int))]) (fun gq => gq ≤ ms.length ∧ ∀ x ∈ ms.take gq, x ≠ []) (fun gq => ms.length - gq) (0) (S2 rfl rfl) (S1 rfl) (by (try dsimp only); exact ⟨Nat.zero_le _, by simp⟩) ?_
  rintro i2 hinv2; (try dsimp only at hinv2 ⊢)
  obtain ⟨hi2, hne⟩ := hinv2
  refine Cs (Kq rfl (rd_lss rfl rfl rfl) (Nt (Cq ?_)))
  refine Cd rfl (fun hc24 => ?_) (fun hc24 => ?_)
  ·(try simp only [sB] at hc24)
   have hil2 : i2 < ms.length := by omega
   refine Ck (Xa (Cq (Cb (Cs ?_))))
   refine Kq rfl (Ib rfl rfl rfl u31 (by omega) (by (rw [List.length_map]; omega))) ?_
   refine Kq rfl (ldm rfl rfl u22 rfl (by assumption)) ?_
   refine Ka rfl (Nt (Cs (Km rfl (Kq rfl (rd_seq rfl rfl rfl) (Nt ?_)))))
   refine Cd rfl (fun hc28 => ?_) (fun hc28 => ?_)
   ·(try simp only [sB] at hc28)
    have hmem : [] ∈ ms := by
     have e : ms.getD i2 default = [] := by simpa using hc28
     rw [← e]; exact getD_mem _ _ hil2
    refine Cs (Ka rfl (Nt (Ce (Xf (Xb (Xb (Xf (Xb ?_))))))))
    exact R1 rfl rfl (by rw [chkM, if_pos hall, if_pos hmem]; rfl)
   ·(try simp only [sB] at hc28)
    refine Ck (Xd (Xa (Cg (Kq rfl (Rz rfl rfl rfl (by omega)) (Km rfl (Nn ?_))))))
    refine Ly (i2 + 1) (by (try dsimp only); omega) (S2 rfl rfl) (by refine (Sc ?_ (S0 _)) <;> (rfl)) ?_ (by (exact fun _ h => h))
    (try dsimp only)
    exact ⟨hil2, all_take hil2 hne (by simpa using hc28)⟩
  ·(try simp only [sB] at hc24)
   refine Cx (Xc (Xc (Xe ?_)))
   obtain rfl : i2 = ms.length := by omega
   rw [List.take_length] at hne
   refine Xa (Cs (Ka rfl (Nt (Ce ?_))))
   exact R1 rfl rfl (by rw [chkM, if_pos hall, if_neg (fun h => hne _ h rfl)]; rfl)
theorem chk_ok {l ms : List Bs} (h : chkM l ms = 0) : (∀ x ∈ l ++ ms, okN x) ∧ [] ∉ ms := by
 unfold chkM at h
 split at h
 ·rename_i h1
  split at h
  ·simp at h
  ·rename_i h2; exact ⟨h1, h2⟩
 ·simp at h
theorem chk_zero {l ms : List Bs} (h : ∀ x ∈ l ++ ms, okN x) (h2 : [] ∉ ms) : chkM l ms = 0 := by rw [chkM, if_pos h, if_neg h2]
theorem vpos {m : Bs} (h : okN m) (h0 : m ≠ []) : 0 < val m := Nat.pos_of_ne_zero fun e => h0 ((val_eq_zero h.2).1 e)
theorem reduced_c {a m : Bs} {w : World} (ha : okN a) (hm : okN m) (hm0 : m ≠ []) :
  Cw 98 #[.string (S a), .string (S m)] w (.string (S (canon (val a % val m)))) := by
 refine En [] [(0, .string (S a)), (1, .string (S m))] Tryz.func98 rfl Tryz.ntmps98 rfl (Ac rfl (Ac rfl (An _))) Fn ?_
 refine Cs (Ka rfl (Nt (Cs (Km rfl (Km rfl ?_)))))
 refine Ku rfl (Oc rfl rfl (Kv fun w hS => (by have := divmod_c (w := w) (a := a) (b := m); rw [divN_ok ha hm hm0] at this; exact this))) ?_
 refine Km rfl (Kq rfl (Re rfl rfl rfl) (Kq rfl (Re rfl rfl rfl) (Kq rfl (Re rfl rfl rfl) (Ka rfl (Ka rfl (Ka rfl (Nt (Cs (Km rfl (Ka rfl (Nt (Ce ?_))))))))))))
 exact R1 rfl rfl (by rfl)
theorem small_ok {a : Bs} (h : okN a) (h8 : a.length ≤ 8) : smallN a = (val a, true) := by rw [smallN, if_pos ⟨h, h8⟩]
theorem times_eq (x y z : Nat) : (x % z * (y % z) / 18446744073709551616 * 18446744073709551616 + x % z * (y % z) % 18446744073709551616) % z = x * y % z := by
 rw [Nat.mul_comm (_ / _), Nat.div_add_mod, ← Nat.mul_mod]
theorem times_c {a b m : Bs} {w : World} (ha : okN a) (hb : okN b) (hm : okN m) (hm0 : m ≠ []) (ha8 : a.length ≤ 8) (hb8 : b.length ≤ 8) (hm8 : m.length ≤ 8) :
  Cw 100 #[.string (S a), .string (S b), .string (S m)] w (.string (S (canon (val a * val b % val m)))) := by
 have hp := vpos hm hm0
 have ha64 := val_8 ha8; have hb64 := val_8 hb8; have hm64 := val_8 hm8
 have h1 := Nat.mod_lt (val a) hp; have h2 := Nat.mod_lt (val b) hp; have h3 := Nat.mod_lt (val a * val b) hp
 have hml : val a % val m * (val b % val m) < 18446744073709551616 * 18446744073709551616 := Nat.mul_lt_mul'' (by omega) (by omega)
 have hhi : val a % val m * (val b % val m) / 18446744073709551616 < 18446744073709551616 := by rw [Nat.div_lt_iff_lt_mul (by decide)]; exact hml
 have hlo : val a % val m * (val b % val m) % 18446744073709551616 < 18446744073709551616 := Nat.mod_lt _ (by decide)
 refine En [] [(0, .string (S a)), (1, .string (S b)), (2, .string (S m))] Tryz.func100 rfl Tryz.ntmps100 rfl (Ac rfl (Ac rfl (Ac rfl (An _)))) Fn ?_
 refine Cs (Ka rfl (Nt (Cq (Cs (Km rfl (Kq rfl (rd_slen rfl rfl u22) (Kq rfl (rd_leq rfl rfl rfl) ?_)))))))
 refine Ns 17 rfl (v' := .bool true) (by rw [decide_eq_true (by omega)]) ?_
 refine Km rfl (Km rfl (Kq rfl (rd_slen rfl rfl u22) (Kq rfl (rd_leq rfl rfl rfl) ?_)))
 refine Ns 21 rfl (v' := .bool true) (by rw [decide_eq_true (by omega)]) ?_
 refine Kq rfl (Rp rfl rfl rfl) (Km rfl (Km rfl (Kq rfl (rd_slen rfl rfl u22) (Kq rfl (rd_leq rfl rfl rfl) ?_))))
 refine Ns 26 rfl (v' := .bool true) (by rw [decide_eq_true (by omega)]) ?_
 refine Kq rfl (Rp rfl rfl rfl) (Nt ?_)
 refine Cd rfl (fun _ => ?_) (fun h => by cases h)
 refine Cs (Km rfl ?_)
 refine Ku rfl (Oc rfl rfl (Kv fun w hS => (by have := small_c (w := w) (a := a) (by omega); rw [small_ok ha ha8] at this; exact this))) ?_
 refine Km rfl (Kq rfl (Re rfl rfl rfl) (Kq rfl (Re rfl rfl rfl) (Ka rfl (Ka rfl (Nt (Cs (Km rfl ?_)))))))
 refine Ku rfl (Oc rfl rfl (Kv fun w hS => (by have := small_c (w := w) (a := b) (by omega); rw [small_ok hb hb8] at this; exact this))) ?_
 refine Km rfl (Kq rfl (Re rfl rfl rfl) (Kq rfl (Re rfl rfl rfl) (Ka rfl (Ka rfl (Nt (Cs (Km rfl ?_)))))))
 refine Ku rfl (Oc rfl rfl (Kv fun w hS => (by have := small_c (w := w) (a := m) (by omega); rw [small_ok hm hm8] at this; exact this))) ?_
 refine Km rfl (Kq rfl (Re rfl rfl rfl) (Kq rfl (Re rfl rfl rfl) (Ka rfl (Ka rfl (Nt (Cq ?_))))))
 refine Cf [0, 1, 2, 3, 4, 5, 6, 7, 8, 9, 10, 11] [] [0, 0, 0, 0, 0, 0, 1, 0, 0, 0, 0, 0] (by kernel_rfl) (by kernel_rfl) rfl ?_
 refine Kj rfl (Rm rfl rfl) (Kj rfl (Rm rfl rfl) ?_)
 refine Kj rfl (rd_remW rfl rfl rfl ?_) ?_
 ·assumption
 refine Kj rfl (Rm rfl rfl) (Kj rfl (Rm rfl rfl) ?_)
 refine Kj rfl (rd_remW rfl rfl rfl ?_) ?_
 ·assumption
 refine Jv rfl rfl rfl rfl rfl (fun ext => Oc rfl rfl (Kv fun w hS => mul64_c (x := val a % val m) (y := val b % val m) (by omega) (by omega))) ?_
 refine Kj rfl (Rm rfl rfl) (Kj rfl (Re rfl rfl rfl) (Kj rfl (Re rfl rfl rfl) (Kj rfl (Ra rfl rfl) (Kj rfl (Ra rfl rfl) ?_))))
 refine WJ.nil ?_
 refine Nt (Cs (Km rfl (Km rfl (Km rfl ?_))))
 refine Ku rfl (Oc rfl rfl (Kv fun w hS => rem64_c (u := val a % val m * (val b % val m) / 18446744073709551616) (lo := val a % val m * (val b % val m) % 18446744073709551616) (y := val m) (by assumption) (by assumption) (by assumption) (by assumption))) ?_
 refine Ns 56 rfl (v' := .int .u64 ((val a * val b % val m : Nat) : Int)) (congrArg (Value.int .u64) (by rw [times_eq])) ?_
 refine Ku rfl (Oc rfl rfl (Kv fun w hS => of_c (n := val a * val b % val m) (by omega))) ?_
 refine Ka rfl (Nt (Ce (Xb ?_)))
 exact R1 rfl rfl (by rfl)
def mulM (a b m : Bs) : Bs × Int := if chkM [a, b] [m] = 0 then (canon (val a * val b % val m), 0) else ([], chkM [a, b] [m])
theorem chk2 {a b m : Bs} (h : chkM [a, b] [m] = 0) : okN a ∧ okN b ∧ okN m ∧ m ≠ [] := by
 obtain ⟨h1, h2⟩ := chk_ok h
 exact ⟨h1 a (by simp), h1 b (by simp), h1 m (by simp), fun e => h2 (by simp [e])⟩
theorem mmul_c {a b m : Bs} {w : World} (ha8 : a.length ≤ 8) (hb8 : b.length ≤ 8) (hm8 : m.length ≤ 8) :
  Cw 53 #[.string (S a), .string (S b), .string (S m)] w (NE (mulM a b m)) := by
 refine En [] [(0, .string (S a)), (1, .string (S b)), (2, .string (S m))] Tryz.func53 rfl Tryz.ntmps53 rfl (Ac rfl (Ac rfl (Ac rfl (An _)))) Fn ?_
 refine Cs (Ka rfl (Ka rfl (Nt (Cq (Cs (Km rfl (Km rfl ?_)))))))
 refine Kh rfl (og_bs1 rfl rfl u31 (by kernel_rfl : _ = some (some (.string (S [])), 1, 16)) rfl (by simp only [List.map]; rfl) rfl rfl ?_ (by decide)) ?_
 ·simp [Value.cells]
 intro b11
 refine Km rfl ?_
 refine Kh rfl (og_bs1 rfl rfl u31 (by kernel_rfl : _ = some (some (.string (S [])), 1, 16)) rfl (by simp only [List.map]; rfl) rfl rfl ?_ (by decide)) ?_
 ·simp [Value.cells]
 intro b13
 refine Ku rfl (Oc rfl rfl (Kv fun w hS => check_c (l := [a, b]) (ms := [m]) (by (exact hS.os)) (by (exact hS.os)) (by (simp <;> omega)) (by (simp <;> omega)) (by (simp <;> omega)) (by (simp <;> omega)))) ?_
 refine Ka rfl (Nt (Cs (Km rfl (Kq rfl (rd_neq rfl rfl rfl) (Nt ?_)))))
 refine Cd rfl (fun hc16 => ?_) (fun hc16 => ?_)
 ·(try simp only [sB] at hc16)
  have hr : mulM a b m = ([], chkM [a, b] [m]) := by rw [mulM, if_neg (by simpa using hc16)]
  refine Cs (Km rfl (Ka rfl (Ka rfl (Nt (Ce (Xb ?_))))))
  exact R2 rfl rfl rfl (by rw [hr]; rfl)
 ·(try simp only [sB] at hc16)
  have h0 : chkM [a, b] [m] = 0 := by simpa using hc16
  have hr : mulM a b m = (canon (val a * val b % val m), 0) := by rw [mulM, if_pos h0]
  obtain ⟨ha, hb, hm, hm0⟩ := chk2 h0
  refine Ck (Xa (Cs (Km rfl (Km rfl (Km rfl ?_)))))
  refine Ku rfl (Oc rfl rfl (Kv fun w hS => times_c (a := a) (b := b) (m := m) (by exact ha) (by exact hb) (by exact hm) (by exact hm0) (by exact ha8) (by exact hb8) (by exact hm8))) ?_
  refine Ka rfl (Ka rfl (Nt (Ce ?_)))
  exact R2 rfl rfl rfl (by rw [hr]; rfl)
def itD {σ : Type} (x : Bs) (after : σ → Bool → σ) : Nat → σ → σ
 | 0, s => s
 | n + 1, s => itD x after n (after s (bitA x n))
theorem digits_c {x : Bs} {own0 : List Ent} {ok : Nat → Prop} {w0 : World} {fs : List Fact} {w : World} (hS0 : St ok w0 (own0) (fs) w) :
  Calls Tryz.prog 203 #[.string (S x)] w fun e w' => ∃ g : Nat, e = .returned (.func (.func 229) #[] #[.pointer (some ⟨g, 0, none⟩)]) ∧ St ok w0 (⟨some g, [.string (S x)], 22⟩ :: own0) fs w' := by
 refine enter (S := St ok w0 (own0) (fs)) (L := [(0, .string (S x))]) Tryz.func203 rfl Tryz.ntmps203 rfl (Ac rfl (An _)) hS0 ?_
 refine Cs ?_
 refine Kh rfl (Oy rfl rfl) ?_
 intro b1
 refine Ka rfl (Nt (Cs (Kq rfl (rd_mkf rfl rfl rfl) (Ka rfl (Nt (Ce ?_))))))
 exact Rn rfl (.tmp rfl .nil) fun w' hS => ⟨b1, rfl, hS⟩
theorem dig_i {σ γ : Type} {CO : σ → γ → List Ent} {pg : σ → γ → Prop} {inv : σ → Bool → Prop} {after : σ → Bool → σ} {stop : σ → Bool → Option Code} {l : Nat} {r : Loop} {ok : Nat → Prop} {w0 : World} {fs : List Fact} {w : World} {x : Bs} {b1 : Nat} {s0 : σ} [∀ s g, HasE (CO s g) b1 [.string (S x)] 22] {g0 : γ} (hY : YOk Tryz.prog l r ok w0 fs CO pg inv after stop (fun y : Bool => #[Value.bool y])) (hS0 : St ok w0 (CO s0 g0) (Fact.lp l (rcd r none) :: fs) w) (hg0 : pg s0 g0) (hx : okN x) (hinv : ∀ s y, inv s y) (hst : ∀ s y, stop s y = none) :
  Calls Tryz.prog 229 #[.func (.yield l) #[] #[], .pointer (some ⟨b1, 0, none⟩)] w fun e w' => (∃ v, e = .returned v) ∧ ∃ g', ((none : Option Code) = none → pg (itD x after (bitsN x) s0) g') ∧ St ok w0 (CO (itD x after (bitsN x) s0) g') (Fact.lp l (rcd r ((none : Option Code))) :: fs) w' := by
 have hbl := bitsN_le hx.1
 refine enter (S := St ok w0 (CO s0 g0) (Fact.lp l (rcd r none) :: fs)) (L := [(0, .func (.yield l) #[] #[]), (1, .pointer (some ⟨b1, 0, none⟩))]) Tryz.func229 rfl Tryz.ntmps229 rfl (Ac rfl (Ac rfl (An _))) hS0 ?_
 refine Cs (Kq rfl (Ld rfl rfl .tc u22) ?_)
 refine Ku rfl (Oc rfl rfl (Kv fun w hS => bits_c (a := x))) ?_
 refine Ns 5 rfl (v' := .int .i64 ((bitsN x : Nat) : Int)) (congrArg (Value.int .i64) (by rw [if_pos hx])) ?_
 refine Kq rfl (rd_sub64 rfl rfl rfl (by omega)) (Ka rfl (Nt (Cb ?_)))
 refine Lo (σ := Nat × Int × σ × γ) [(0, _), (1, _)] (fun gq => [(3, .int .i64 gq.2.1)]) (fun gq => gq.1 ≤ bitsN x ∧ gq.2.1 = (gq.1 : Int) - 1 ∧ pg gq.2.2.1 gq.2.2.2 ∧ itD x after gq.1 gq.2.2.1 = itD x after (bitsN x) s0) (fun gq => gq.1) (fun gq => CO gq.2.2.1 gq.2.2.2) (fun gq => Fact.lp l (rcd r none) :: fs) (bitsN x, (bitsN x : Int) - 1, s0, g0) (S2 rfl rfl) (S1 rfl) (by (try dsimp only); exact ⟨Nat.le_refl _, rfl, hg0, rfl⟩) (by (exact fun _ h => h)) ?_
 rintro ⟨n, j, s, g⟩ hinv1; (try dsimp only at hinv1 ⊢)
 obtain ⟨hn, hj, hgs, hi⟩ := hinv1
 refine Cq (Cs (Km rfl (Kq rfl (rd_geq rfl rfl rfl) (Nt ?_))))
 refine Cd rfl (fun hc8 => ?_) (fun hc8 => ?_)
 ·(try simp only [sB] at hc8)
  obtain ⟨m, rfl⟩ : ∃ m, n = m + 1 := ⟨n - 1, by omega⟩
  refine WC.set 3 rfl (v' := .int .i64 ((m : Nat) : Int)) (by rw [hj]; congr 1; omega) ?_
  refine Ck (Xa (Cq (Cb (Cs (Km rfl (Kq rfl (Ld rfl rfl .tc u22) ?_))))))
  refine Km rfl ?_
  refine Ku rfl (Oc rfl rfl (Kv fun w hS => bitn_c (a := x) (i := m) (by omega))) ?_
  refine Kh rfl (og_yield hY [] (bitA x m) rfl rfl rfl rfl (hinv _ _) (hgs)) ?_
  intro gy; refine WL.pu ?_; intro hgy; (refine WL.app0 ?_)
  refine Kq rfl (Rt rfl rfl) (Nt ?_)
  refine Cd rfl (fun hc16 => by exfalso; (try simp only [sB] at hc16); simp [hst] at hc16) (fun hc16 => ?_)
  (try simp only [sB] at hc16)
  refine Ck (Xd (Xa (Cg (Km rfl (Kq rfl (rd_sub64 rfl rfl rfl (by omega)) (Ka rfl (Nn ?_)))))))
  rw [hst]
  refine Lx ((m, (m : Int) - 1, after s (bitA x m), gy)) (by (try dsimp only); omega) (S2 rfl rfl) (by refine (Sc ?_ (S0 _)) <;> (rfl)) ?_ (by (exact fun _ h => h))
  (try dsimp only)
  exact ⟨by omega, rfl, hgy (hst _ _), hi⟩
 ·(try simp only [sB] at hc8)
  refine Cx (Xc (Xc (Xe ?_)))
  obtain rfl : n = 0 := by omega
  have hfin : s = itD x after (bitsN x) s0 := hi
  refine WX.ret_normal ?_
  exact Rn rfl .nil fun w' hS => ⟨⟨_, rfl⟩, g, fun _ => hfin ▸ hgs, by rw [← hfin]; exact st_sub _ hS⟩
def expA (m a : Nat) (s : Bs) (y : Bool) : Bs := if y then canon (val (canon (val s * val s % m)) * a % m) else canon (val s * val s % m)
theorem itD_exp {x : Bs} (hx : okN x) (m a : Nat) : ∀ n : Nat, itD x (expA m a) n (canon (a ^ (val x / 2 ^ n) % m)) = canon (a ^ val x % m)
 | 0 => by rw [itD, Nat.pow_zero, Nat.div_one]
 | n + 1 => by
  rw [itD, show expA m a (canon (a ^ (val x / 2 ^ (n + 1)) % m)) (bitA x n) = canon (a ^ (val x / 2 ^ n) % m) from ?_, itD_exp hx m a n]
  rw [bitA_nat hx, bitN, expA, val_canon, val_canon]
  by_cases h : val x / 2 ^ n % 2 = 1
  ·rw [decide_eq_true h, if_pos rfl, exp_step1 h]
  ·rw [decide_eq_false h, if_neg (by simp), exp_step0 (by omega)]
theorem itD_all {x : Bs} (hx : okN x) (m a : Nat) : itD x (expA m a) (bitsN x) (canon (1 % m)) = canon (a ^ val x % m) := by
 have := itD_exp hx m a (bitsN x)
 rwa [Nat.div_eq_of_lt (val_bits x), Nat.pow_zero] at this
theorem expA_bd {m a : Nat} (hm : 0 < m) (hm8 : m ≤ 18446744073709551616) (s : Bs) (y : Bool) : val (expA m a s y) < m ∧ okN (expA m a s y) ∧ (expA m a s y).length ≤ 8 := by
 have key : ∀ k, k < m → val (canon k) < m ∧ okN (canon k) ∧ (canon k).length ≤ 8 := fun k hk => by
  have h8 : (canon k).length ≤ 8 := canon_len_le.2 (by show k < 18446744073709551616; omega)
  exact ⟨by rw [val_canon]; exact hk, ⟨by omega, can_canon _⟩, h8⟩
 rw [expA]; split <;> exact key _ (Nat.mod_lt _ hm)
def mexpM (a x m : Bs) : Bs × Int := if chkM [a, x] [m] = 0 then (canon (val a ^ val x % val m), 0) else ([], chkM [a, x] [m])
abbrev XCO (b9 g b5 b3 : Nat) (x m a : Bs) (s : Bs) (_ : Unit) : List Ent := [⟨some g, [.string (S x)], 22⟩, ⟨some b9, [.string (S s)], 22⟩, ⟨some b5, [.string (S m)], 22⟩, ⟨some b3, [.string (S a)], 22⟩]
theorem mexp_c {a x m : Bs} {w : World} (hm8 : m.length ≤ 8) :
  Cw 165 #[.string (S a), .string (S x), .string (S m)] w (NE (mexpM a x m)) := by
 refine enterM (S := St (fun _ => True) w [] ([])) (L := [(0, .string (S a)), (1, .string (S x)), (2, .string (S m))]) Tryz.func165 rfl Tryz.ntmps165 rfl (Ac rfl (Ac rfl (Ac rfl (An _)))) (St.start (fun _ _ => trivial) Fn) ?_
 refine Cs ?_
 refine Kh rfl (Oy rfl rfl) ?_
 intro b3
 refine Kh rfl (Oy rfl rfl) ?_
 intro b5
 refine Ka rfl (Ka rfl (Nt (Cq (Cs (Kq rfl (Ld rfl rfl .tc u22) ?_)))))
 refine Km rfl ?_
 refine Kh rfl (og_bs1 rfl rfl u31 (by kernel_rfl : _ = some (some (.string (S [])), 1, 16)) rfl (by simp only [List.map]; rfl) rfl rfl ?_ (by decide)) ?_
 ·simp [Value.cells]
 intro b13
 refine Kq rfl (Ld rfl rfl .tc u22) ?_
 refine Kh rfl (og_bs1 rfl rfl u31 (by kernel_rfl : _ = some (some (.string (S [])), 1, 16)) rfl (by simp only [List.map]; rfl) rfl rfl ?_ (by decide)) ?_
 ·simp [Value.cells]
 intro b15
 refine Ku rfl (Oc rfl rfl (Kv fun w hS => check_c (l := [a, x]) (ms := [m]) (by (exact hS.os)) (by (exact hS.os)) (by (simp <;> omega)) (by (simp <;> omega)) (by (simp <;> omega)) (by (simp <;> omega)))) ?_
 refine Ka rfl (Nt (Cs (Km rfl (Kq rfl (rd_neq rfl rfl rfl) (Nt ?_)))))
 refine Cd rfl (fun hc18 => ?_) (fun hc18 => ?_)
 ·(try simp only [sB] at hc18)
  have hr : mexpM a x m = ([], chkM [a, x] [m]) := by rw [mexpM, if_neg (by simpa using hc18)]
  refine Cs (Km rfl (Ka rfl (Ka rfl (Nt (Ce (Xb ?_))))))
  exact WX.retM0 rfl (.tmp rfl (.tmp rfl .nil)) fun w' hS => ⟨by rw [hr]; rfl, hS.below⟩
 ·(try simp only [sB] at hc18)
  have h0 : chkM [a, x] [m] = 0 := by simpa using hc18
  have hr : mexpM a x m = (canon (val a ^ val x % val m), 0) := by rw [mexpM, if_pos h0]
  obtain ⟨ha, hx, hm, hm0⟩ := chk2 h0
  have hp := vpos hm hm0
  have hm64 := val_8 hm8
  obtain ⟨A, hA⟩ : ∃ A, A = canon (val a % val m) := ⟨_, rfl⟩
  have hAv : val A = val a % val m := by rw [hA, val_canon]
  have hA8 : A.length ≤ 8 := by rw [hA]; exact canon_len_le.2 (by have := Nat.mod_lt (val a) hp; show _ < 18446744073709551616; omega)
  have hAk : okN A := by rw [hA]; exact ⟨by rw [← hA]; omega, can_canon _⟩
  have hone : okN [1] := ⟨by decide, by decide⟩
  have hit := itD_all hx (val m) (val A)
  rw [hAv, pow_mod2, ← hAv] at hit
  have h1k : okN (canon (1 % val m)) ∧ (canon (1 % val m)).length ≤ 8 := by
   have h8 : (canon (1 % val m)).length ≤ 8 := canon_len_le.2 (by have := Nat.mod_lt 1 hp; show _ < 18446744073709551616; omega)
   exact ⟨⟨by omega, can_canon _⟩, h8⟩
  refine Ck (Xa (Cs (Kq rfl (Ld rfl rfl .tc u22) ?_)))
  refine Kq rfl (Ld rfl rfl .tc u22) ?_
  refine Ku rfl (Oc rfl rfl (Kv fun w hS => reduced_c (a := a) (m := m) (by exact ha) (by exact hm) (by exact hm0))) ?_
  refine Ns 22 rfl (v' := .string (S (A))) (congrArg (fun l => Value.string (S l)) (by rw [hA])) ?_
  refine Ng rfl rfl (st rfl rfl rfl .tc (by kernel_rfl) rfl ?_ (by (simp only [List.set_cons_zero, List.set_cons_succ]; rfl))) ?_
  ·(simp; done)
  intro _
  refine Nt (Cs (Kq rfl (Ld rfl rfl .tc u22) ?_))
  refine Ku rfl (Oc rfl rfl (Kv fun w hS => reduced_c (a := [1]) (m := m) (by exact hone) (by exact hm) (by exact hm0))) ?_
  refine Ns 24 rfl (v' := .string (S (canon (1 % val m)))) (congrArg (fun l => Value.string (S l)) (by rfl)) ?_
  refine Kh rfl (Oa rfl (v := (.string (S []))) (cs := [.string (S [])]) (by kernel_rfl) rfl) ?_
  intro b9
  refine Ng rfl rfl (st rfl rfl rfl .tc (by kernel_rfl) rfl ?_ (by (simp only [List.set_cons_zero, List.set_cons_succ]; rfl))) ?_
  ·decide
  intro _
  refine Nt (Cq (Cs (Km rfl ?_)))
  refine Kh rfl (Oc rfl rfl (fun w hS => digits_c (x := x) hS)) ?_
  intro g26
  refine Nt (Cb ?_)
  refine WC.range (CO := XCO b9 g26 b5 b3 x m A) (pg := fun s _ => okN s ∧ s.length ≤ 8) (inv := fun s y => True) (after := expA (val m) (val A)) (stop := fun _ _ => none) (enc := fun y : Bool => #[Value.bool y]) (canon (1 % val m)) (()) (itD x (expA (val m) (val A)) (bitsN x) (canon (1 % val m))) ((none : Option Code)) (h1k) rfl (by kernel_rfl) (fun _ => rfl) (by exact st_sub) ?_ (fun l r D w hl hY hS => dig_i (x := x) hY hS h1k hx (fun s y => trivial) (fun s y => rfl)) ?_ ?_
  ·intro l r D f a s g x ext wr hl hi hpg hF hS
   rw [fold1]
   refine round_of (Fr.tm (hF.put (d := 27) rfl _)) hS ?_
   refine WR.region (by kernel_rfl) ?_
   refine Ka rfl (Nn ?_)
   refine WX.begin hl ?_
   have hbd := expA_bd (a := val A) hp (by omega) s
   have hsq : okN (canon (val s * val s % val m)) ∧ (canon (val s * val s % val m)).length ≤ 8 := (hbd false).2
   refine Cb ?_
   refine WR.sr (by kernel_rfl) ?_
   refine Kq rfl (Ld rfl rfl .tc u22) ?_
   refine Kq rfl (Ld rfl rfl .tc u22) ?_
   refine Kq rfl (Ld rfl rfl .tc u22) ?_
   refine Ku rfl (Oc rfl rfl (Kv fun w hS => times_c (a := s) (b := s) (m := m) (by exact hpg.1) (by exact hpg.1) (by exact hm) (by exact hm0) (by exact hpg.2) (by exact hpg.2) (by exact hm8))) ?_
   refine Ng rfl rfl (st rfl rfl rfl .tc (by kernel_rfl) rfl ?_ (by (simp only [List.set_cons_zero, List.set_cons_succ]; rfl))) ?_
   ·(simp; done)
   intro _
   refine Nt ?_
   refine WR.sr (by kernel_rfl) ?_
   refine Km rfl (Nt ?_)
   refine Cd rfl (fun hc32 => ?_) (fun hc32 => ?_)
   ·(try simp only [sB] at hc32)
    refine WR.region (by kernel_rfl) ?_
    refine Kq rfl (Ld rfl rfl .tc u22) ?_
    refine Kq rfl (Ld rfl rfl .tc u22) ?_
    refine Kq rfl (Ld rfl rfl .tc u22) ?_
    refine Ku rfl (Oc rfl rfl (Kv fun w hS => times_c (a := canon (val s * val s % val m)) (b := A) (m := m) (by exact hsq.1) (by exact hAk) (by exact hm) (by exact hm0) (by exact hsq.2) (by exact hA8) (by exact hm8))) ?_
    refine Ng rfl rfl (st rfl rfl rfl .tc (by kernel_rfl) rfl ?_ (by (simp only [List.set_cons_zero, List.set_cons_succ]; rfl))) ?_
    ·(simp; done)
    intro _
    refine Nn (Xd ?_)
    exact WX.rnext hl fun w' hS => by
     obtain rfl : x = true := by simpa using hc32
     exact ⟨rfl, (), fun _ => (hbd true).2, hS⟩
   ·(try simp only [sB] at hc32)
    refine Ck (Xd ?_)
    exact WX.rnext hl fun w' hS => by
     obtain rfl : x = false := by simpa using hc32
     exact ⟨rfl, (), fun _ => (hbd false).2, hS⟩
  ·intro D1 g1 hD1 hg1 hcf
   refine Xd (Xa (Cs (Kq rfl (Ld rfl rfl .tc u22) ?_)))
   refine Ka rfl (Ka rfl (Nt (Ce ?_)))
   exact WX.retM1 hD1 rfl (.tmp rfl (.tmp rfl .nil)) fun w' hS => ⟨by rw [hr, ← hit]; rfl, hS.below⟩
  ·intro D1 g1 c hD1 hcf
   cases hcf
theorem one_canon : canon 1 = [1] := by decide +kernel
theorem canon_one {n : Nat} : canon n = [1] ↔ n = 1 := by rw [← one_canon, canon_inj]
theorem rcheck_c {l : List Bs} {m : Bs} {a : Option Addr} {c : Nat} {w : World} {ok : Nat → Prop} (hF1 : (Fact.sl a (strs (l ++ [m]))).holds ok w) (hl : l.length ≤ 1000) :
  Cw 156 #[.slice a (l ++ [m]).length c] w (.int .i64 (chkM l [m])) := by
 have hlen : (l ++ [m]).length = l.length + 1 := by simp
 refine En ([Fact.sl a (strs (l ++ [m]))]) [(0, .slice a (l ++ [m]).length c)] Tryz.func156 rfl Tryz.ntmps156 rfl (Ac rfl (An _)) (Fc (fact_any hF1) Fn) ?_
 refine Cs (Ka rfl (Nt (Cq (Cs (Ka rfl (Nt (Cb ?_)))))))
 refine Lp (σ := Nat) [(0, _)] (fun gq => [(3, .int .i64 (gq : Int))]) (fun gq => gq ≤ (l ++ [m]).length ∧ ∀ x ∈ (l ++ [m]).take gq, okN x) (fun gq => (l ++ [m]).length - gq) (0) (S1 rfl) (S1 rfl) (by (try dsimp only); exact ⟨Nat.zero_le _, by simp⟩) ?_
 rintro i hinv1; (try dsimp only at hinv1 ⊢)
 obtain ⟨hi, hok⟩ := hinv1
 refine Cq (Cs (Km rfl (Km rfl (Kq rfl (rd_len rfl rfl u31) (Kq rfl (rd_lss rfl rfl rfl) (Nt ?_))))))
 refine Cd rfl (fun hc7 => ?_) (fun hc7 => ?_)
 ·(try simp only [sB] at hc7)
  have hil : i < (l ++ [m]).length := by omega
  refine Ck (Xa (Cq (Cb (Cs (Km rfl (Km rfl ?_))))))
  refine Kq rfl (Ib rfl rfl rfl u31 (by omega) (by (rw [List.length_map]; omega))) ?_
  refine Kq rfl (ldm rfl rfl u22 rfl (by assumption)) ?_
  refine Ku rfl (Oc rfl rfl (Kv fun w hS => rvalid_c (a := (l ++ [m]).getD i default))) ?_
  refine Kq rfl (Rt rfl rfl) (Nt ?_)
  refine Cd rfl (fun hc15 => ?_) (fun hc15 => ?_)
  ·(try simp only [sB] at hc15)
   refine Cs (Ka rfl (Nt (Ce (Xf (Xb (Xb (Xf (Xb ?_))))))))
   exact R1 rfl rfl (by rw [chkM, if_neg (fun h => absurd (h _ (getD_mem _ _ hil)) (by simpa using hc15))]; rfl)
  ·(try simp only [sB] at hc15)
   refine Ck (Xd (Xa (Cg (Km rfl (Kq rfl (Rz rfl rfl rfl (by omega)) (Ka rfl (Nn ?_)))))))
   refine Ly (i + 1) (by (try dsimp only); omega) (S1 rfl) (by refine (Sc ?_ (S0 _)) <;> (rfl)) ?_ (by (exact fun _ h => h))
   (try dsimp only)
   exact ⟨hil, all_take hil hok (by simpa using hc15)⟩
 ·(try simp only [sB] at hc7)
  refine Cx (Xc (Xc (Xe ?_)))
  have hall : ∀ x ∈ l ++ [m], okN x := by
   have e : i = (l ++ [m]).length := by omega
   subst e; rw [List.take_length] at hok; exact hok
  have hgl : (l ++ [m]).getD l.length default = m := by simp
  refine Xa (Cq (Cs (Km rfl (Km rfl (Kq rfl (rd_len rfl rfl u31) (Kq rfl (rd_sub64nl rfl rfl rfl (by omega)) ?_))))))
  refine Kq rfl (Ib rfl rfl rfl u31 (by omega) (by (rw [List.length_map]; omega))) ?_
  refine Kq rfl (ldm rfl rfl u22 rfl (by omega)) ?_
  refine Ns 21 rfl (v' := .string (S (m))) (congrArg (fun l => Value.string (S l)) (by rw [hlen]; simp)) ?_
  refine Kq rfl (rd_seq rfl rfl rfl) (Nt ?_)
  refine Cd rfl (fun hc22 => ?_) (fun hc22 => ?_)
  ·(try simp only [sB] at hc22)
   have hm0 : m = [] := by simpa using hc22
   refine Cs (Ka rfl (Nt (Ce (Xb ?_))))
   exact R1 rfl rfl (by rw [chkM, if_pos hall, if_pos (by rw [hm0]; simp)]; rfl)
  ·(try simp only [sB] at hc22)
   have hm0 : m ≠ [] := by simpa using hc22
   refine Ck (Xa (Cs (Ka rfl (Nt (Ce ?_)))))
   exact R1 rfl rfl (by rw [chkM, if_pos hall, if_neg (by simpa using fun h => hm0 h)]; rfl)
theorem rmod_c {a m : Bs} {w : World} (ha : okN a) (hm : okN m) (hm0 : m ≠ []) :
  Cw 198 #[.string (S a), .string (S m)] w (.string (S (canon (val a % val m)))) := by
 refine En [] [(0, .string (S a)), (1, .string (S m))] Tryz.func198 rfl Tryz.ntmps198 rfl (Ac rfl (Ac rfl (An _))) Fn ?_
 refine Cs (Ka rfl (Nt (Cs (Km rfl (Km rfl ?_)))))
 refine Ku rfl (Oc rfl rfl (Kv fun w hS => (by have := rdivmod_c (w := w) (a := a) (b := m); rw [divN_ok ha hm hm0] at this; exact this))) ?_
 refine Km rfl (Kq rfl (Re rfl rfl rfl) (Kq rfl (Re rfl rfl rfl) (Kq rfl (Re rfl rfl rfl) (Ka rfl (Ka rfl (Ka rfl (Nt (Cs (Km rfl (Ka rfl (Nt (Ce ?_))))))))))))
 exact R1 rfl rfl (by rfl)
theorem small_canon {n : Nat} (h : n < 18446744073709551616) : smallN (canon n) = (n, true) := by
 have h8 : (canon n).length ≤ 8 := canon_len_le.2 h
 rw [small_ok ⟨by omega, can_canon _⟩ h8, val_canon]
theorem rtimes3_c {a b m : Bs} {w : World} (ha : okN a) (hb : okN b) (hm : okN m) (hm0 : m ≠ []) (hm8 : m.length ≤ 8) :
  Cw 157 #[.string (S a), .string (S b), .string (S m)] w (.string (S (canon (val a * val b % val m)))) := by
 have hp := vpos hm hm0
 have hm64 := val_8 hm8
 have h1 := Nat.mod_lt (val a) hp; have h2 := Nat.mod_lt (val b) hp; have h3 := Nat.mod_lt (val a * val b) hp
 have hBB : 18446744073709551616 * 18446744073709551616 ≤ Big := by show 256 ^ 16 ≤ 256 ^ 128; exact Nat.pow_le_pow_right (by decide) (by decide)
 have hml : val a % val m * (val b % val m) < 18446744073709551616 * 18446744073709551616 := Nat.mul_lt_mul'' (by omega) (by omega)
 have hmB := okN_val hm
 have hmu : mulN (canon (val a % val m)) (canon (val b % val m)) = (canon (val a % val m * (val b % val m)), 0) := by
  rw [mulN_of (by omega) (by omega), if_pos (by omega)]
 have hko : okN (canon (val a % val m * (val b % val m))) := okN_can (by omega)
 refine En [] [(0, .string (S a)), (1, .string (S b)), (2, .string (S m))] Tryz.func157 rfl Tryz.ntmps157 rfl (Ac rfl (Ac rfl (Ac rfl (An _)))) Fn ?_
 refine Cs (Ka rfl (Nt (Cs (Km rfl ?_))))
 refine Ku rfl (Oc rfl rfl (Kv fun w hS => (by have := rsmall_c (w := w) (a := m); rw [small_ok hm hm8] at this; exact this))) ?_
 refine Km rfl (Kq rfl (Re rfl rfl rfl) (Kq rfl (Re rfl rfl rfl) (Ka rfl (Ka rfl (Nt (Cq (Cs (Km rfl (Km rfl ?_)))))))))
 refine Nb 21 rfl (fun hg21 => ?_) (fun hg21 => ?_)
 ·(try simp only [sB] at hg21)
  refine Km rfl (Kq rfl (rd_lss rfl rfl rfl) (Kq rfl (Rp rfl rfl rfl) (Nt ?_)))
  refine Cd rfl (fun hc24 => ?_) (fun hc24 => ?_)
  ·(try simp only [sB] at hc24)
   refine Cs (Km rfl (Km rfl ?_))
   refine Ku rfl (Oc rfl rfl (Kv fun w hS => rmod_c (a := a) (m := m) (by exact ha) (by exact hm) (by exact hm0))) ?_
   refine Ku rfl (Oc rfl rfl (Kv fun w hS => (by have := rsmall_c (w := w) (a := canon (val a % val m)); rw [small_canon (by omega)] at this; exact this))) ?_
   refine Km rfl (Kq rfl (Re rfl rfl rfl) (Kq rfl (Re rfl rfl rfl) (Ka rfl (Ka rfl (Nt (Cs (Km rfl (Km rfl ?_))))))))
   refine Ku rfl (Oc rfl rfl (Kv fun w hS => rmod_c (a := b) (m := m) (by exact hb) (by exact hm) (by exact hm0))) ?_
   refine Ku rfl (Oc rfl rfl (Kv fun w hS => (by have := rsmall_c (w := w) (a := canon (val b % val m)); rw [small_canon (by omega)] at this; exact this))) ?_
   refine Km rfl (Kq rfl (Re rfl rfl rfl) (Kq rfl (Re rfl rfl rfl) (Ka rfl (Ka rfl (Nt (Cs (Km rfl (Km rfl ?_))))))))
   refine Kq rfl (rd_mulW rfl rfl rfl (by exact Nat.lt_of_le_of_lt (Nat.mul_le_mul (by omega : _ ≤ 2147483647) (by omega : _ ≤ 2147483647)) (by decide))) ?_
   refine Km rfl ?_
   refine Kq rfl (rd_remW rfl rfl rfl ?_) ?_
   ·assumption
   refine Ns 43 rfl (v' := .int .u64 ((val a * val b % val m : Nat) : Int)) (congrArg (Value.int .u64) (by rw [← Nat.mul_mod])) ?_
   refine Ku rfl (Oc rfl rfl (Kv fun w hS => rof_c (n := val a * val b % val m) (by omega))) ?_
   refine Ka rfl (Nt (Ce (Xb ?_)))
   exact R1 rfl rfl (by rfl)
  ·(try simp only [sB] at hc24)
   refine Ck (Xa (Cs (Km rfl (Km rfl ?_))))
   refine Ku rfl (Oc rfl rfl (Kv fun w hS => rmod_c (a := a) (m := m) (by exact ha) (by exact hm) (by exact hm0))) ?_
   refine Km rfl (Km rfl ?_)
   refine Ku rfl (Oc rfl rfl (Kv fun w hS => rmod_c (a := b) (m := m) (by exact hb) (by exact hm) (by exact hm0))) ?_
   refine Ku rfl (Oc rfl rfl (Kv fun w hS => (by have := rmul_c (w := w) (a := canon (val a % val m)) (b := canon (val b % val m)); rw [hmu] at this; exact this))) ?_
   refine Km rfl (Kq rfl (Re rfl rfl rfl) (Kq rfl (Re rfl rfl rfl) (Ka rfl (Ka rfl (Nt (Cs (Km rfl (Km rfl ?_))))))))
   refine Ku rfl (Oc rfl rfl (Kv fun w hS => rmod_c (a := canon (val a % val m * (val b % val m))) (m := m) (by exact hko) (by exact hm) (by exact hm0))) ?_
   refine Ns 57 rfl (v' := .string (S (canon (val a * val b % val m)))) (congrArg (fun l => Value.string (S l)) (by rw [val_canon, ← Nat.mul_mod])) ?_
   refine Ka rfl (Nt (Ce ?_))
   exact R1 rfl rfl (by rfl)
 ·(try simp only [sB] at hg21)
  refine Kt rfl (Kt rfl (Kq rfl (Rq rfl rfl rfl) (Nt ?_)))
  refine Cd rfl (fun h => by cases h) (fun _ => ?_)
  refine Ck (Xa (Cs (Km rfl (Km rfl ?_))))
  refine Ku rfl (Oc rfl rfl (Kv fun w hS => rmod_c (a := a) (m := m) (by exact ha) (by exact hm) (by exact hm0))) ?_
  refine Km rfl (Km rfl ?_)
  refine Ku rfl (Oc rfl rfl (Kv fun w hS => rmod_c (a := b) (m := m) (by exact hb) (by exact hm) (by exact hm0))) ?_
  refine Ku rfl (Oc rfl rfl (Kv fun w hS => (by have := rmul_c (w := w) (a := canon (val a % val m)) (b := canon (val b % val m)); rw [hmu] at this; exact this))) ?_
  refine Km rfl (Kq rfl (Re rfl rfl rfl) (Kq rfl (Re rfl rfl rfl) (Ka rfl (Ka rfl (Nt (Cs (Km rfl (Km rfl ?_))))))))
  refine Ku rfl (Oc rfl rfl (Kv fun w hS => rmod_c (a := canon (val a % val m * (val b % val m))) (m := m) (by exact hko) (by exact hm) (by exact hm0))) ?_
  refine Ns 57 rfl (v' := .string (S (canon (val a * val b % val m)))) (congrArg (fun l => Value.string (S l)) (by rw [val_canon, ← Nat.mul_mod])) ?_
  refine Ka rfl (Nt (Ce ?_))
  exact R1 rfl rfl (by rfl)
theorem rmmul_c {a b m : Bs} {w : World} (hm8 : m.length ≤ 8) :
  Cw 112 #[.string (S a), .string (S b), .string (S m)] w (NE (mulM a b m)) := by
 refine En [] [(0, .string (S a)), (1, .string (S b)), (2, .string (S m))] Tryz.func112 rfl Tryz.ntmps112 rfl (Ac rfl (Ac rfl (Ac rfl (An _)))) Fn ?_
 refine Cs (Ka rfl (Ka rfl (Nt (Cq (Cs (Km rfl (Km rfl (Km rfl ?_))))))))
 refine Kh rfl (og_bs1 rfl rfl u31 (by kernel_rfl : _ = some (some (.string (S [])), 1, 16)) rfl (by simp only [List.map]; rfl) rfl rfl ?_ (by decide)) ?_
 ·simp [Value.cells]
 intro b12
 refine Ku rfl (Oc rfl rfl (Kv fun w hS => rcheck_c (l := [a, b]) (m := m) (by (exact hS.os)) (by (simp <;> omega)))) ?_
 refine Ka rfl (Nt (Cs (Km rfl (Kq rfl (rd_neq rfl rfl rfl) (Nt ?_)))))
 refine Cd rfl (fun hc15 => ?_) (fun hc15 => ?_)
 ·(try simp only [sB] at hc15)
  have hr : mulM a b m = ([], chkM [a, b] [m]) := by rw [mulM, if_neg (by simpa using hc15)]
  refine Cs (Km rfl (Ka rfl (Ka rfl (Nt (Ce (Xb ?_))))))
  exact R2 rfl rfl rfl (by rw [hr]; rfl)
 ·(try simp only [sB] at hc15)
  have h0 : chkM [a, b] [m] = 0 := by simpa using hc15
  have hr : mulM a b m = (canon (val a * val b % val m), 0) := by rw [mulM, if_pos h0]
  obtain ⟨ha, hb, hm, hm0⟩ := chk2 h0
  refine Ck (Xa (Cs (Km rfl (Km rfl (Km rfl ?_)))))
  refine Ku rfl (Oc rfl rfl (Kv fun w hS => rtimes3_c (a := a) (b := b) (m := m) (by exact ha) (by exact hb) (by exact hm) (by exact hm0) (by exact hm8))) ?_
  refine Ka rfl (Ka rfl (Nt (Ce ?_)))
  exact R2 rfl rfl rfl (by rw [hr]; rfl)
theorem rraise_c {a x m : Bs} {w : World} (ha : okN a) (hx : okN x) (hm : okN m) (hm0 : m ≠ []) (hm8 : m.length ≤ 8) :
  Cw 200 #[.string (S a), .string (S x), .string (S m)] w (.string (S (canon (val a ^ val x % val m)))) := by
 have hp := vpos hm hm0
 have hm64 := val_8 hm8
 have hmB := okN_val hm
 have hbl := bitsN_le hx.1
 have hB1 : 1 < Big := Nat.lt_of_lt_of_le (by decide) big64
 have hko : ∀ k, okN (canon (k % val m)) := fun k => okN_can (by have := Nat.mod_lt k hp; omega)
 refine En [] [(0, .string (S a)), (1, .string (S x)), (2, .string (S m))] Tryz.func200 rfl Tryz.ntmps200 rfl (Ac rfl (Ac rfl (Ac rfl (An _)))) Fn ?_
 refine Cs (Ka rfl (Nt (Cs ?_)))
 refine Ku rfl (Oc rfl rfl (Kv fun w hS => rof_c (n := 1) (by omega))) ?_
 refine Km rfl ?_
 refine Ku rfl (Oc rfl rfl (Kv fun w hS => rmod_c (a := canon 1) (m := m) (by exact okN_can hB1) (by exact hm) (by exact hm0))) ?_
 refine Ns 11 rfl (v' := .string (S (canon (val a ^ (val x / 2 ^ bitsN x) % val m)))) (congrArg (fun l => Value.string (S l)) (by rw [val_canon, Nat.div_eq_of_lt (val_bits x), Nat.pow_zero])) ?_
 refine Ka rfl (Nt (Cq (Cs (Km rfl ?_))))
 refine Ku rfl (Oc rfl rfl (Kv fun w hS => rbits_c (a := x))) ?_
 refine Ns 13 rfl (v' := .int .i64 ((bitsN x : Nat) : Int)) (congrArg (Value.int .i64) (by rw [if_pos hx])) ?_
 refine Kq rfl (rd_sub64 rfl rfl rfl (by omega)) (Ka rfl (Nt (Cb ?_)))
 refine Lp (σ := Nat × Int) [(0, _), (1, _), (2, _)] (fun gq => [(7, .string (S (canon (val a ^ (val x / 2 ^ gq.1) % val m)))), (8, .int .i64 gq.2)]) (fun gq => gq.1 ≤ bitsN x ∧ gq.2 = (gq.1 : Int) - 1) (fun gq => gq.1) (bitsN x, (bitsN x : Int) - 1) (S3 rfl rfl rfl) (S2 rfl rfl) (by (try dsimp only); exact ⟨Nat.le_refl _, rfl⟩) ?_
 rintro ⟨n, j⟩ hinv1; (try dsimp only at hinv1 ⊢)
 obtain ⟨hn, hj⟩ := hinv1
 refine Cq (Cs (Km rfl (Kq rfl (rd_geq rfl rfl rfl) (Nt ?_))))
 refine Cd rfl (fun hc16 => ?_) (fun hc16 => ?_)
 ·(try simp only [sB] at hc16)
  obtain ⟨k, rfl⟩ : ∃ k, n = k + 1 := ⟨n - 1, by omega⟩
  refine WC.set 8 rfl (v' := .int .i64 ((k : Nat) : Int)) (by rw [hj]; congr 1; omega) ?_
  refine Ck (Xa (Cq (Cb (Cs (Km rfl (Km rfl (Km rfl ?_)))))))
  refine Ku rfl (Oc rfl rfl (Kv fun w hS => rtimes3_c (a := canon (val a ^ (val x / 2 ^ (k + 1)) % val m)) (b := canon (val a ^ (val x / 2 ^ (k + 1)) % val m)) (m := m) (by exact hko _) (by exact hko _) (by exact hm) (by exact hm0) (by exact hm8))) ?_
  refine Ka rfl (Nt (Cs (Km rfl (Km rfl ?_))))
  refine Ku rfl (Oc rfl rfl (Kv fun w hS => rbit_c (a := x) (i := k) (by omega))) ?_
  refine Nt ?_
  refine Cd rfl (fun hc25 => ?_) (fun hc25 => ?_)
  ·(try simp only [sB] at hc25)
   have hd : val x / 2 ^ k % 2 = 1 := by rw [bitA_nat hx, bitN] at hc25; simpa using hc25
   refine Cg (Km rfl (Km rfl (Km rfl ?_)))
   refine Ku rfl (Oc rfl rfl (Kv fun w hS => rtimes3_c (a := canon (val (canon (val a ^ (val x / 2 ^ (k + 1)) % val m)) * val (canon (val a ^ (val x / 2 ^ (k + 1)) % val m)) % val m)) (b := a) (m := m) (by exact hko _) (by exact ha) (by exact hm) (by exact hm0) (by exact hm8))) ?_
   refine Ns 29 rfl (v' := .string (S (canon (val a ^ (val x / 2 ^ k) % val m)))) (congrArg (fun l => Value.string (S l)) (by rw [val_canon, val_canon, exp_step1 hd])) ?_
   refine Ka rfl (Nn (Xd (Xa (Cg (Km rfl (Kq rfl (rd_sub64 rfl rfl rfl (by omega)) (Ka rfl (Nn ?_))))))))
   refine Ly ((k, (k : Int) - 1)) (by (try dsimp only); omega) (S3 rfl rfl rfl) (by refine (Sc ?_ (Sc ?_ (S0 _))) <;> (rfl)) ?_ (by (exact fun _ h => h))
   (try dsimp only)
   exact ⟨by omega, rfl⟩
  ·(try simp only [sB] at hc25)
   have hd : val x / 2 ^ k % 2 = 0 := by
    rw [bitA_nat hx, bitN] at hc25
    have : ¬ val x / 2 ^ k % 2 = 1 := by simpa using hc25
    omega
   rw [val_canon, exp_step0 hd]
   refine Ck (Xd (Xa (Cg (Km rfl (Kq rfl (rd_sub64 rfl rfl rfl (by omega)) (Ka rfl (Nn ?_)))))))
   refine Ly ((k, (k : Int) - 1)) (by (try dsimp only); omega) (S3 rfl rfl rfl) (by refine (Sc ?_ (Sc ?_ (S0 _))) <;> (rfl)) ?_ (by (exact fun _ h => h))
   (try dsimp only)
   exact ⟨by omega, rfl⟩
 ·(try simp only [sB] at hc16)
  refine Cx (Xc (Xc (Xe ?_)))
  obtain rfl : n = 0 := by omega
  rw [Nat.pow_zero, Nat.div_one]
  refine Xa (Cs (Km rfl (Ka rfl (Nt (Ce ?_)))))
  exact R1 rfl rfl (by rfl)
theorem rmexp_c {a x m : Bs} {w : World} (hm8 : m.length ≤ 8) :
  Cw 176 #[.string (S a), .string (S x), .string (S m)] w (NE (mexpM a x m)) := by
 refine En [] [(0, .string (S a)), (1, .string (S x)), (2, .string (S m))] Tryz.func176 rfl Tryz.ntmps176 rfl (Ac rfl (Ac rfl (Ac rfl (An _)))) Fn ?_
 refine Cs (Ka rfl (Ka rfl (Nt (Cq (Cs (Km rfl (Km rfl (Km rfl ?_))))))))
 refine Kh rfl (og_bs1 rfl rfl u31 (by kernel_rfl : _ = some (some (.string (S [])), 1, 16)) rfl (by simp only [List.map]; rfl) rfl rfl ?_ (by decide)) ?_
 ·simp [Value.cells]
 intro b12
 refine Ku rfl (Oc rfl rfl (Kv fun w hS => rcheck_c (l := [a, x]) (m := m) (by (exact hS.os)) (by (simp <;> omega)))) ?_
 refine Ka rfl (Nt (Cs (Km rfl (Kq rfl (rd_neq rfl rfl rfl) (Nt ?_)))))
 refine Cd rfl (fun hc15 => ?_) (fun hc15 => ?_)
 ·(try simp only [sB] at hc15)
  have hr : mexpM a x m = ([], chkM [a, x] [m]) := by rw [mexpM, if_neg (by simpa using hc15)]
  refine Cs (Km rfl (Ka rfl (Ka rfl (Nt (Ce (Xb ?_))))))
  exact R2 rfl rfl rfl (by rw [hr]; rfl)
 ·(try simp only [sB] at hc15)
  have h0 : chkM [a, x] [m] = 0 := by simpa using hc15
  have hr : mexpM a x m = (canon (val a ^ val x % val m), 0) := by rw [mexpM, if_pos h0]
  obtain ⟨ha, hx, hm, hm0⟩ := chk2 h0
  refine Ck (Xa (Cs (Km rfl (Km rfl (Km rfl ?_)))))
  refine Ku rfl (Oc rfl rfl (Kv fun w hS => rraise_c (a := a) (x := x) (m := m) (by exact ha) (by exact hx) (by exact hm) (by exact hm0) (by exact hm8))) ?_
  refine Ka rfl (Ka rfl (Nt (Ce ?_)))
  exact R2 rfl rfl rfl (by rw [hr]; rfl)
abbrev Gp := Bs × Bs
abbrev gV (g : Gp) : Value := .agg #[.string (S g.1), .string (S g.2)]
def chkG (g : Gp) : Int :=
 if okN g.1 ∧ okN g.2 then
  (if g.2 = [] then (if val g.1 % 2 = 1 ∧ 8 < val g.1 then 0 else 13)
   else if val g.1 ≤ 1 ∨ val g.2 < 2 ∨ (val g.1 - 1) % val g.2 ≠ 0 then 13 else 0)
 else 3
theorem cmpI_le (a b : Nat) : cmpI a b ≤ 0 ↔ a ≤ b := by
 have h := cmpI_neg b a
 unfold cmpI at *
 constructor
 ·intro h1; split at h1 <;> (try split at h1) <;> omega
 ·intro h1; split <;> (try split) <;> omega
theorem cmpI_ge (a b : Nat) : 0 ≤ cmpI a b ↔ b ≤ a := by
 have h := cmpI_neg a b; omega
theorem odd_bit {a : Bs} (h : okN a) : bitA a 0 = decide (val a % 2 = 1) := by
 have := bitA_nat (i := 0) h
 rw [show ((0 : Nat) : Int) = 0 from rfl] at this
 rw [this, bitN, Nat.pow_zero, Nat.div_one]
theorem pcheck_c {g : Gp} {w : World} :
  Cw 60 #[gV g] w (.int .i64 (chkG g)) := by
 have hB8 : 8 < Big := Nat.lt_of_lt_of_le (by decide) big64
 refine En [] [(0, gV g)] Tryz.func60 rfl Tryz.ntmps60 rfl (Ac rfl (An _)) Fn ?_
 refine Cs ?_
 refine Kh rfl (Oy rfl rfl) ?_
 intro b1
 refine Ka rfl (Nt (Cq ?_))
 refine WC.joinP (σ := Unit) [(1, _)] (fun gq => [(17, .bool (decide (¬ (okN g.1 ∧ okN g.2))))]) (fun gq => True) (S1 rfl) ?_ ?_
 ·skip
  refine Cg (Kq rfl (Fa (q := 0) rfl rfl u26 rfl rfl) (Kq rfl (Ld rfl rfl .tc u22) ?_))
  refine Ku rfl (Oc rfl rfl (Kv fun w hS => valid_c (a := g.1))) ?_
  refine Kq rfl (Rt rfl rfl) (Km rfl ?_)
  refine Nb 12 rfl (fun hg12 => ?_) (fun hg12 => ?_)
  ·(try simp only [sB] at hg12)
   refine Kt rfl (Kt rfl (Kt rfl (Kt rfl (Kq rfl (Rp rfl rfl rfl) (Nn ?_)))))
   refine WX.joinP (()) (S1 rfl) (by refine (Sc ?_ (S0 _)) <;> ((refine slot_b rfl ?_; (try dsimp only); (simp [*]; done)))) ?_ (by (exact fun _ h => h))
   (try dsimp only)
   done
  ·(try simp only [sB] at hg12)
   refine Kq rfl (Fa (q := 1) rfl rfl u26 rfl rfl) (Kq rfl (Ld rfl rfl .tc u22) ?_)
   refine Ku rfl (Oc rfl rfl (Kv fun w hS => valid_c (a := g.2))) ?_
   refine Kq rfl (Rt rfl rfl) (Kq rfl (Rq rfl rfl rfl) (Nn ?_))
   refine WX.joinP (()) (S1 rfl) (by refine (Sc ?_ (S0 _)) <;> ((refine slot_b rfl ?_; (try dsimp only); (simp [*]; done)))) ?_ (by (exact fun _ h => h))
   (try dsimp only)
   done
 ·rintro _ hmeet; (try dsimp only at hmeet ⊢)
  refine Cd rfl (fun hc17 => ?_) (fun hc17 => ?_)
  ·(try simp only [sB] at hc17)
   have hr : chkG g = 3 := by rw [chkG, if_neg hc17]
   refine Cs (Ka rfl (Nt (Ce (Xb ?_))))
   exact R1 rfl rfl (by rw [hr]; rfl)
  ·(try simp only [sB] at hc17)
   have hok : okN g.1 ∧ okN g.2 := by simpa using hc17
   have hb1 := okN_val hok.1; have hb2 := okN_val hok.2
   have hv2 : val g.2 = 0 ↔ g.2 = [] := val_eq_zero hok.2.2
   refine Ck (Xa (Cq (Cs (Kq rfl (Fa (q := 1) rfl rfl u26 rfl rfl) (Kq rfl (Ld rfl rfl .tc u22) ?_)))))
   refine Kq rfl (rd_seq rfl rfl rfl) (Nt ?_)
   refine Cd rfl (fun hc20 => ?_) (fun hc20 => ?_)
   ·(try simp only [sB] at hc20)
    have hq : g.2 = [] := by simpa using hc20
    refine Cq ?_
    refine WC.joinP (σ := Unit) [] (fun gq => [(31, .bool (decide (¬ (val g.1 % 2 = 1 ∧ 8 < val g.1))))]) (fun gq => True) (S0 _) ?_ ?_
    ·skip
     refine Cf [0, 1, 2, 3, 4, 7, 5, 6, 8, 9, 10] [] [0, 0, 1, 0, 0, 0, 0, 1, 1, 0, 0] (by kernel_rfl) (by kernel_rfl) rfl ?_
     refine Kj rfl (Fa (q := 0) rfl rfl u26 rfl rfl) (Kj rfl (Ld rfl rfl .tc u22) ?_)
     refine Jv rfl rfl rfl rfl rfl (fun ext => Oc rfl rfl (Kv fun w hS => bitn_c (a := g.1) (i := 0) (by omega))) ?_
     refine WJ.set 23 rfl (v' := .bool (decide (val g.1 % 2 = 1))) (congrArg Value.bool (by exact odd_bit hok.1)) ?_
     refine Kj rfl (Rt rfl rfl) (Kj rfl (Rm rfl rfl) ?_)
     refine WJ.bool 25 rfl (fun hg25 => ?_) (fun hg25 => ?_)
     ·(try simp only [sB] at hg25)
      refine Js rfl rfl rfl rfl (Js rfl rfl rfl rfl (Js rfl rfl rfl rfl (Js rfl rfl rfl rfl (Js rfl rfl rfl rfl (Kj rfl (Rp rfl rfl rfl) ?_)))))
      refine WJ.nil ?_
      refine Nn ?_
      refine WX.joinP (()) (S0 _) (by refine (Sc ?_ (S0 _)) <;> ((refine slot_b rfl ?_; (try dsimp only); (simp [*]; done)))) ?_ (by (exact fun _ h => h))
      (try dsimp only)
      done
     ·(try simp only [sB] at hg25)
      refine Jv rfl rfl rfl rfl rfl (fun ext => Oc rfl rfl (Kv fun w hS => of_c (n := 8) (by omega))) ?_
      refine Kj rfl (Fa (q := 0) rfl rfl u26 rfl rfl) (Kj rfl (Ld rfl rfl .tc u22) ?_)
      refine Jv rfl rfl rfl rfl rfl (fun ext => Oc rfl rfl (Kv fun w hS => Cmp_c (a := g.1) (b := canon 8))) ?_
      refine Kj rfl (rd_leq rfl rfl rfl) ?_
      refine WJ.set 30 rfl (v' := .bool (decide (val g.1 ≤ 8))) (congrArg Value.bool (by rw [cmpN_ok hok.1 (okN_can hB8), val_canon]; exact decide_eq_decide.2 (cmpI_le _ _))) ?_
      refine Kj rfl (Rq rfl rfl rfl) ?_
      refine WJ.nil ?_
      refine Nn ?_
      refine WX.joinP (()) (S0 _) (by refine (Sc ?_ (S0 _)) <;> ((refine slot_b rfl ?_; (try dsimp only); (exact decide_eq_decide.2 (by omega))))) ?_ (by (exact fun _ h => h))
      (try dsimp only)
      done
    ·rintro _ hmeet; (try dsimp only at hmeet ⊢)
     refine Cd rfl (fun hc31 => ?_) (fun hc31 => ?_)
     ·(try simp only [sB] at hc31)
      have hr : chkG g = 13 := by rw [chkG, if_pos hok, if_pos hq, if_neg hc31]
      refine Cs (Ka rfl (Nt (Ce (Xb (Xb ?_)))))
      exact R1 rfl rfl (by rw [hr]; rfl)
     ·(try simp only [sB] at hc31)
      have hr : chkG g = 0 := by rw [chkG, if_pos hok, if_pos hq, if_pos (by simpa using hc31)]
      refine Ck (Xa (Cs (Ka rfl (Nt (Ce (Xb ?_))))))
      exact R1 rfl rfl (by rw [hr]; rfl)
   ·(try simp only [sB] at hc20)
    have hq : g.2 ≠ [] := by simpa using hc20
    have hsb : subN g.1 (canon 1) = if val g.1 < 1 then ([], 2) else (canon (val g.1 - 1), 0) := by rw [subN, if_pos ⟨hok.1, okN_can (by omega)⟩, val_canon]
    have hqp : 0 < val g.2 := by rcases Nat.eq_zero_or_pos (val g.2) with h | h; exact absurd (hv2.1 h) hq; exact h
    refine Ck (Xa (Cq ?_))
    refine Cf [2, 0, 1, 3, 4, 5, 6, 7, 8] [] [0, 0, 1, 1, 0, 0, 0, 0, 0] (by kernel_rfl) (by kernel_rfl) rfl ?_
    refine Jv rfl rfl rfl rfl rfl (fun ext => Oc rfl rfl (Kv fun w hS => of_c (n := 1) (by omega))) ?_
    refine Kj rfl (Fa (q := 0) rfl rfl u26 rfl rfl) (Kj rfl (Ld rfl rfl .tc u22) ?_)
    refine Jv rfl rfl rfl rfl rfl (fun ext => Oc rfl rfl (Kv fun w hS => sub_c (a := g.1) (b := canon 1))) ?_
    refine Kj rfl (Rm rfl rfl) (Kj rfl (Re rfl rfl rfl) (Kj rfl (Re rfl rfl rfl) (Kj rfl (Ra rfl rfl) (Kj rfl (Ra rfl rfl) ?_))))
    refine WJ.nil ?_
    refine Nt (Cq ?_)
    refine WC.joinP (σ := Unit) [(1, _), (3, _)] (fun gq => [(51, .bool (decide (val g.1 ≤ 1 ∨ val g.2 < 2)))]) (fun gq => True) (S2 rfl rfl) ?_ ?_
    ·skip
     refine Cf [0, 1, 2, 3, 4, 5, 6, 9, 7, 8, 10, 11, 12] [] [0, 0, 0, 0, 0, 0, 0, 0, 0, 1, 1, 0, 0] (by kernel_rfl) (by kernel_rfl) rfl ?_
     refine Kj rfl (Rm rfl rfl) (Kj rfl (rd_neq rfl rfl rfl) ?_)
     refine WJ.set 40 rfl (v' := .bool (decide (val g.1 < 1))) (congrArg Value.bool (by rw [hsb]; split <;> simp <;> omega)) ?_
     refine Kj rfl (Rm rfl rfl) ?_
     refine WJ.bool 41 rfl (fun hg41 => ?_) (fun hg41 => ?_)
     ·(try simp only [sB] at hg41)
      refine Js rfl rfl rfl rfl (Js rfl rfl rfl rfl (Kj rfl (Rp rfl rfl rfl) (Kj rfl (Rm rfl rfl) (Js rfl rfl rfl rfl (Js rfl rfl rfl rfl (Js rfl rfl rfl rfl (Js rfl rfl rfl rfl (Js rfl rfl rfl rfl (Kj rfl (Rp rfl rfl rfl) ?_)))))))))
      refine WJ.nil ?_
      refine Nn ?_
      refine WX.joinP (()) (S2 rfl rfl) (by refine (Sc ?_ (S0 _)) <;> ((exact congrArg (fun b => some (Value.bool b)) (by symm; apply decide_eq_true; omega)))) ?_ (by (exact fun _ h => h))
      (try dsimp only)
      done
     ·(try simp only [sB] at hg41)
      refine Kj rfl (Rm rfl rfl) (Kj rfl (rd_seq rfl rfl rfl) ?_)
      refine WJ.set 43 rfl (v' := .bool (decide (val g.1 ≤ 1))) (congrArg Value.bool (by rw [hsb]; split <;> simp [canon_nil] <;> omega)) ?_
      refine Kj rfl (Rq rfl rfl rfl) (Kj rfl (Rm rfl rfl) ?_)
      refine WJ.bool 45 rfl (fun hg45 => ?_) (fun hg45 => ?_)
      ·(try simp only [sB] at hg45)
       refine Js rfl rfl rfl rfl (Js rfl rfl rfl rfl (Js rfl rfl rfl rfl (Js rfl rfl rfl rfl (Js rfl rfl rfl rfl (Kj rfl (Rp rfl rfl rfl) ?_)))))
       refine WJ.nil ?_
       refine Nn ?_
       refine WX.joinP (()) (S2 rfl rfl) (by refine (Sc ?_ (S0 _)) <;> ((refine slot_b rfl ?_; (try dsimp only); (simp [*]; done)))) ?_ (by (exact fun _ h => h))
       (try dsimp only)
       done
      ·(try simp only [sB] at hg45)
       refine Jv rfl rfl rfl rfl rfl (fun ext => Oc rfl rfl (Kv fun w hS => of_c (n := 2) (by omega))) ?_
       refine Kj rfl (Fa (q := 1) rfl rfl u26 rfl rfl) (Kj rfl (Ld rfl rfl .tc u22) ?_)
       refine Jv rfl rfl rfl rfl rfl (fun ext => Oc rfl rfl (Kv fun w hS => Cmp_c (a := g.2) (b := canon 2))) ?_
       refine Kj rfl (rd_lss rfl rfl rfl) ?_
       refine WJ.set 50 rfl (v' := .bool (decide (val g.2 < 2))) (congrArg Value.bool (by rw [cmpN_ok hok.2 (okN_can (by omega)), val_canon]; exact decide_eq_decide.2 (cmpI_neg _ _))) ?_
       refine Kj rfl (Rq rfl rfl rfl) ?_
       refine WJ.nil ?_
       refine Nn ?_
       refine WX.joinP (()) (S2 rfl rfl) (by refine (Sc ?_ (S0 _)) <;> ((refine slot_b rfl ?_; (try dsimp only); (exact decide_eq_decide.2 (by omega))))) ?_ (by (exact fun _ h => h))
       (try dsimp only)
       done
    ·rintro _ hmeet; (try dsimp only at hmeet ⊢)
     refine Cd rfl (fun hc51 => ?_) (fun hc51 => ?_)
     ·(try simp only [sB] at hc51)
      have hr : chkG g = 13 := by rw [chkG, if_pos hok, if_neg hq, if_pos (by omega)]
      refine Cs (Ka rfl (Nt (Ce (Xb ?_))))
      exact R1 rfl rfl (by rw [hr]; rfl)
     ·(try simp only [sB] at hc51)
      have hs1 : (subN g.1 (canon 1)).1 = canon (val g.1 - 1) := by rw [hsb, if_neg (by omega)]
      have hdv : divN (canon (val g.1 - 1)) g.2 = ((canon ((val g.1 - 1) / val g.2), canon ((val g.1 - 1) % val g.2)), 0) := by rw [divN_ok (okN_can (by omega)) hok.2 hq, val_canon]
      rw [hs1]
      refine Ck (Xa (Cq (Cs (Km rfl (Kq rfl (Fa (q := 1) rfl rfl u26 rfl rfl) (Kq rfl (Ld rfl rfl .tc u22) ?_))))))
      refine Ku rfl (Oc rfl rfl (Kv fun w hS => (by have := divmod_c (w := w) (a := canon (val g.1 - 1)) (b := g.2); rw [hdv] at this; exact this))) ?_
      refine Km rfl (Kq rfl (Re rfl rfl rfl) (Kq rfl (Re rfl rfl rfl) (Kq rfl (Re rfl rfl rfl) (Ka rfl (Ka rfl (Ka rfl (Nt (Cs (Km rfl (Kq rfl (rd_neq rfl rfl rfl) ?_))))))))))
      refine Ns 61 rfl (v' := .bool false) (by rfl) ?_
      refine Km rfl (Km rfl (Kq rfl (rd_sne rfl rfl rfl) ?_))
      refine Ns 64 rfl (v' := .bool (decide ((val g.1 - 1) % val g.2 ≠ 0))) (congrArg Value.bool (by simp [canon_nil])) ?_
      refine Kq rfl (Rq rfl rfl rfl) (Nt ?_)
      refine Cd rfl (fun hc65 => ?_) (fun hc65 => ?_)
      ·(try simp only [sB] at hc65)
       have hr : chkG g = 13 := by rw [chkG, if_pos hok, if_neg hq, if_pos (Or.inr (Or.inr hc65))]
       refine Cs (Ka rfl (Nt (Ce (Xb ?_))))
       exact R1 rfl rfl (by rw [hr]; rfl)
      ·(try simp only [sB] at hc65)
       have hr : chkG g = 0 := by rw [chkG, if_pos hok, if_neg hq, if_neg (fun h => by rcases h with h | h | h; omega; omega; exact hc65 h)]
       refine Ck (Xa (Cs (Ka rfl (Nt (Ce ?_)))))
       exact R1 rfl rfl (by rw [hr]; rfl)
theorem pform_c {g : Gp} {w : World} :
  Cw 162 #[gV g] w (.bool (decide (okN g.1 ∧ okN g.2))) := by
 refine En [] [(0, gV g)] Tryz.func162 rfl Tryz.ntmps162 rfl (Ac rfl (An _)) Fn ?_
 refine Cs ?_
 refine Kh rfl (Oy rfl rfl) ?_
 intro b1
 refine Ka rfl (Nt (Cs (Kq rfl (Fa (q := 0) rfl rfl u26 rfl rfl) (Kq rfl (Ld rfl rfl .tc u22) ?_))))
 refine Ku rfl (Oc rfl rfl (Kv fun w hS => valid_c (a := g.1))) ?_
 refine Km rfl ?_
 refine Nb 6 rfl (fun hg6 => ?_) (fun hg6 => ?_)
 ·(try simp only [sB] at hg6)
  refine Kq rfl (Fa (q := 1) rfl rfl u26 rfl rfl) (Kq rfl (Ld rfl rfl .tc u22) ?_)
  refine Ku rfl (Oc rfl rfl (Kv fun w hS => valid_c (a := g.2))) ?_
  refine Kq rfl (Rp rfl rfl rfl) (Ka rfl (Nt (Ce ?_)))
  exact R1 rfl rfl (by (simp [*, tup]; done))
 ·(try simp only [sB] at hg6)
  refine Kt rfl (Kt rfl (Kt rfl (Kq rfl (Rq rfl rfl rfl) (Ka rfl (Nt (Ce ?_))))))
  exact R1 rfl rfl (by (simp [*, tup]; done))
def hasP (g : Gp) (x : Bs) : Prop := okN g.1 ∧ okN g.2 ∧ okN x ∧ g.2 ≠ [] ∧ x ≠ [] ∧ val x < val g.1 ∧ val x ^ val g.2 % val g.1 = 1
instance (g : Gp) (x : Bs) : Decidable (hasP g x) := inferInstanceAs (Decidable (_ ∧ _))
theorem mexp_ok {a x m : Bs} (ha : okN a) (hx : okN x) (hm : okN m) (hm0 : m ≠ []) : mexpM a x m = (canon (val a ^ val x % val m), 0) := by
 rw [mexpM, if_pos (chk_zero (by intro y hy; simp at hy; rcases hy with rfl | rfl | rfl <;> assumption) (by simpa using fun h => hm0 h))]
theorem okN_nil : okN [] := ⟨by decide, by decide⟩
theorem pos_of_ne {x : Bs} (h : okN x) (h0 : x ≠ []) : 0 < val x := vpos h h0
theorem phas_c {g : Gp} {x : Bs} {w : World} (hm8 : g.1.length ≤ 8) :
  Cw 120 #[gV g, .string (S x)] w (.bool (decide (hasP g x))) := by
 refine En [] [(0, gV g), (1, .string (S x))] Tryz.func120 rfl Tryz.ntmps120 rfl (Ac rfl (Ac rfl (An _))) Fn ?_
 refine Cs ?_
 refine Kh rfl (Oy rfl rfl) ?_
 intro b2
 refine Ka rfl (Nt (Cq ?_))
 refine WC.joinP (σ := Unit) [(1, _), (2, _)] (fun gq => [(32, .bool (decide (¬ ((okN g.1 ∧ okN g.2) ∧ okN x ∧ g.2 ≠ [] ∧ x ≠ [] ∧ val x < val g.1))))]) (fun gq => True) (S2 rfl rfl) ?_ ?_
 ·skip
  refine Cg ?_
  refine Kq rfl (lda rfl rfl .tc u26 rfl ?_) ?_
  ·kernel_rfl
  refine Ku rfl (Oc rfl rfl (Kv fun w hS => pform_c (g := g))) ?_
  refine Kq rfl (Rt rfl rfl) (Km rfl ?_)
  refine Nb 12 rfl (fun hg12 => ?_) (fun hg12 => ?_)
  ·(try simp only [sB] at hg12)
   refine Kt rfl (Kt rfl (Kt rfl (Kq rfl (Rp rfl rfl rfl) (Km rfl (Kt rfl (Kt rfl (Kt rfl (Kq rfl (Rp rfl rfl rfl) (Km rfl (Kt rfl (Kt rfl (Kq rfl (Rp rfl rfl rfl) (Km rfl (Kt rfl (Kt rfl (Kt rfl (Kt rfl (Kt rfl (Kq rfl (Rp rfl rfl rfl) (Nn ?_))))))))))))))))))))
   refine WX.joinP (()) (S2 rfl rfl) (by refine (Sc ?_ (S0 _)) <;> ((refine slot_b rfl ?_; (try dsimp only); (simp [*]; done)))) ?_ (by (exact fun _ h => h))
   (try dsimp only)
   done
  ·(try simp only [sB] at hg12)
   refine Km rfl ?_
   refine Ku rfl (Oc rfl rfl (Kv fun w hS => valid_c (a := x))) ?_
   refine Kq rfl (Rt rfl rfl) (Kq rfl (Rq rfl rfl rfl) (Km rfl ?_))
   refine Nb 17 rfl (fun hg17 => ?_) (fun hg17 => ?_)
   ·(try simp only [sB] at hg17)
    refine Kt rfl (Kt rfl (Kt rfl (Kq rfl (Rp rfl rfl rfl) (Km rfl (Kt rfl (Kt rfl (Kq rfl (Rp rfl rfl rfl) (Km rfl (Kt rfl (Kt rfl (Kt rfl (Kt rfl (Kt rfl (Kq rfl (Rp rfl rfl rfl) (Nn ?_)))))))))))))))
    refine WX.joinP (()) (S2 rfl rfl) (by refine (Sc ?_ (S0 _)) <;> ((refine slot_b rfl ?_; (try dsimp only); (simp [*]; done)))) ?_ (by (exact fun _ h => h))
    (try dsimp only)
    done
   ·(try simp only [sB] at hg17)
    refine Kq rfl (Fa (q := 1) rfl rfl u26 rfl rfl) (Kq rfl (Ld rfl rfl .tc u22) ?_)
    refine Kq rfl (rd_seq rfl rfl rfl) (Kq rfl (Rq rfl rfl rfl) (Km rfl ?_))
    refine Nb 22 rfl (fun hg22 => ?_) (fun hg22 => ?_)
    ·(try simp only [sB] at hg22)
     refine Kt rfl (Kt rfl (Kq rfl (Rp rfl rfl rfl) (Km rfl (Kt rfl (Kt rfl (Kt rfl (Kt rfl (Kt rfl (Kq rfl (Rp rfl rfl rfl) (Nn ?_))))))))))
     refine WX.joinP (()) (S2 rfl rfl) (by refine (Sc ?_ (S0 _)) <;> ((refine slot_b rfl ?_; (try dsimp only); (simp [*]; done)))) ?_ (by (exact fun _ h => h))
     (try dsimp only)
     done
    ·(try simp only [sB] at hg22)
     refine Km rfl (Kq rfl (rd_seq rfl rfl rfl) (Kq rfl (Rq rfl rfl rfl) (Km rfl ?_)))
     refine Nb 26 rfl (fun hg26 => ?_) (fun hg26 => ?_)
     ·(try simp only [sB] at hg26)
      refine Kt rfl (Kt rfl (Kt rfl (Kt rfl (Kt rfl (Kq rfl (Rp rfl rfl rfl) (Nn ?_))))))
      refine WX.joinP (()) (S2 rfl rfl) (by refine (Sc ?_ (S0 _)) <;> ((refine slot_b rfl ?_; (try dsimp only); (simp [*]; done)))) ?_ (by (exact fun _ h => h))
      (try dsimp only)
      done
     ·(try simp only [sB] at hg26)
      refine Km rfl (Kq rfl (Fa (q := 0) rfl rfl u26 rfl rfl) (Kq rfl (Ld rfl rfl .tc u22) ?_))
      refine Ku rfl (Oc rfl rfl (Kv fun w hS => Cmp_c (a := x) (b := g.1))) ?_
      refine Kq rfl (rd_geq rfl rfl rfl) ?_
      refine Ns 31 rfl (v' := .bool (decide (val g.1 ≤ val x))) (congrArg Value.bool (by rw [cmpN_ok hg17 hg12.1]; exact decide_eq_decide.2 (cmpI_ge _ _))) ?_
      refine Kq rfl (Rq rfl rfl rfl) (Nn ?_)
      refine WX.joinP (()) (S2 rfl rfl) (by refine (Sc ?_ (S0 _)) <;> ((refine slot_b rfl ?_; (try dsimp only); (simp [*]; done)))) ?_ (by (exact fun _ h => h))
      (try dsimp only)
      done
 ·rintro _ hmeet; (try dsimp only at hmeet ⊢)
  refine Cd rfl (fun hc32 => ?_) (fun hc32 => ?_)
  ·(try simp only [sB] at hc32)
   have hr : ¬ hasP g x := fun h => hc32 ⟨⟨h.1, h.2.1⟩, h.2.2.1, h.2.2.2.1, h.2.2.2.2.1, h.2.2.2.2.2.1⟩
   refine Cs (Ka rfl (Nt (Ce (Xb ?_))))
   exact R1 rfl rfl (by (simp [*, tup]; done))
  ·(try simp only [sB] at hc32)
   have hok : (okN g.1 ∧ okN g.2) ∧ okN x ∧ g.2 ≠ [] ∧ x ≠ [] ∧ val x < val g.1 := Decidable.not_not.1 hc32
   obtain ⟨⟨hm, hq⟩, hx, hq0, hx0, hlt⟩ := hok
   have hxp := pos_of_ne hx hx0
   have hm0 : g.1 ≠ [] := fun h => by rw [h] at hlt; exact absurd hlt (Nat.not_lt_zero _)
   have he1 := mexp_ok hx hq hm hm0
   have he2 := mexp_ok hx okN_nil hm hm0
   have h1m : val x ^ val [] % val g.1 = 1 := by rw [show val [] = 0 from rfl, Nat.pow_zero, Nat.mod_eq_of_lt (by omega)]
   have hr : hasP g x ↔ val x ^ val g.2 % val g.1 = 1 := ⟨fun h => h.2.2.2.2.2.2, fun h => ⟨hm, hq, hx, hq0, hx0, hlt, h⟩⟩
   refine Ck (Xa (Cs (Km rfl (Kq rfl (Fa (q := 1) rfl rfl u26 rfl rfl) (Kq rfl (Ld rfl rfl .tc u22) ?_)))))
   refine Kq rfl (Fa (q := 0) rfl rfl u26 rfl rfl) (Kq rfl (Ld rfl rfl .tc u22) ?_)
   refine Ku rfl (Oc rfl rfl (Kv fun w hS => (by have := mexp_c (w := w) (a := x) (x := g.2) (m := g.1) hm8; rw [he1] at this; exact this))) ?_
   refine Km rfl (Kq rfl (Re rfl rfl rfl) (Kq rfl (Re rfl rfl rfl) (Ka rfl (Ka rfl (Nt (Cs (Km rfl (Kq rfl (Fa (q := 0) rfl rfl u26 rfl rfl) (Kq rfl (Ld rfl rfl .tc u22) ?_)))))))))
   refine Ku rfl (Oc rfl rfl (Kv fun w hS => (by have := mexp_c (w := w) (a := x) (x := []) (m := g.1) hm8; rw [he2, h1m] at this; exact this))) ?_
   refine Km rfl (Kq rfl (Re rfl rfl rfl) (Kq rfl (Re rfl rfl rfl) (Ka rfl (Ka rfl (Nt (Cs (Km rfl (Kq rfl (rd_eql rfl rfl rfl) ?_))))))))
   refine Ns 50 rfl (v' := .bool true) (by rfl) ?_
   refine Km rfl (Km rfl (Km rfl (Kq rfl (rd_seq rfl rfl rfl) ?_)))
   refine Ns 54 rfl (v' := .bool (decide (hasP g x))) (congrArg Value.bool (by simp [hr, canon_inj])) ?_
   refine Kq rfl (Rp rfl rfl rfl) (Ka rfl (Nt (Ce ?_)))
   exact R1 rfl rfl (by rfl)
def goodR (g : Gp) : Prop := okN g.1 ∧ g.2 = [] ∧ val g.1 % 2 = 1 ∧ 8 < val g.1
instance (g : Gp) : Decidable (goodR g) := inferInstanceAs (Decidable (_ ∧ _))
theorem rgood_c {g : Gp} {w : World} :
  Cw 159 #[gV g] w (.bool (decide (goodR g))) := by
 have hB8 : 8 < Big := Nat.lt_of_lt_of_le (by decide) big64
 refine En [] [(0, gV g)] Tryz.func159 rfl Tryz.ntmps159 rfl (Ac rfl (An _)) Fn ?_
 refine Cs ?_
 refine Kh rfl (Oy rfl rfl) ?_
 intro b1
 refine Ka rfl (Nt (Cq ?_))
 refine Cf [0, 1, 2, 3, 4, 5, 6, 7, 8, 9, 10, 11, 12, 13, 16, 14, 15, 17, 18, 19, 20] [] [0, 0, 1, 0, 0, 0, 0, 0, 0, 0, 0, 1, 0, 0, 0, 0, 1, 1, 0, 0, 0] (by kernel_rfl) (by kernel_rfl) rfl ?_
 refine Kj rfl (Fa (q := 0) rfl rfl u26 rfl rfl) (Kj rfl (Ld rfl rfl .tc u22) ?_)
 refine Jv rfl rfl rfl rfl rfl (fun ext => Oc rfl rfl (Kv fun w hS => valid_c (a := g.1))) ?_
 refine Kj rfl (Rm rfl rfl) ?_
 refine WJ.bool 6 rfl (fun hg6 => ?_) (fun hg6 => ?_)
 ·(try simp only [sB] at hg6)
  refine Kj rfl (Fa (q := 1) rfl rfl u26 rfl rfl) (Kj rfl (Ld rfl rfl .tc u22) ?_)
  refine Kj rfl (rd_seq rfl rfl rfl) (Kj rfl (Rp rfl rfl rfl) (Kj rfl (Rm rfl rfl) ?_))
  refine WJ.bool 11 rfl (fun hg11 => ?_) (fun hg11 => ?_)
  ·(try simp only [sB] at hg11)
   refine Kj rfl (Fa (q := 0) rfl rfl u26 rfl rfl) (Kj rfl (Ld rfl rfl .tc u22) ?_)
   refine Jv rfl rfl rfl rfl rfl (fun ext => Oc rfl rfl (Kv fun w hS => bitn_c (a := g.1) (i := 0) (by omega))) ?_
   refine WJ.set 14 rfl (v' := .bool (decide (val g.1 % 2 = 1))) (congrArg Value.bool (by exact odd_bit hg6)) ?_
   refine Kj rfl (Rp rfl rfl rfl) (Kj rfl (Rm rfl rfl) ?_)
   refine WJ.bool 16 rfl (fun hg16 => ?_) (fun hg16 => ?_)
   ·(try simp only [sB] at hg16)
    refine Jv rfl rfl rfl rfl rfl (fun ext => Oc rfl rfl (Kv fun w hS => of_c (n := 8) (by omega))) ?_
    refine Kj rfl (Fa (q := 0) rfl rfl u26 rfl rfl) (Kj rfl (Ld rfl rfl .tc u22) ?_)
    refine Jv rfl rfl rfl rfl rfl (fun ext => Oc rfl rfl (Kv fun w hS => Cmp_c (a := g.1) (b := canon 8))) ?_
    refine Kj rfl (rd_gtr rfl rfl rfl) ?_
    refine WJ.set 21 rfl (v' := .bool (decide (8 < val g.1))) (congrArg Value.bool (by rw [cmpN_ok hg6 (okN_can hB8), val_canon]; exact decide_eq_decide.2 (by have := cmpI_le (val g.1) 8; omega))) ?_
    refine Kj rfl (Rp rfl rfl rfl) (Kj rfl (Ra rfl rfl) ?_)
    refine WJ.nil ?_
    refine Nt (Ce ?_)
    exact R1 rfl rfl (by (simp [*, tup, goodR]; done))
   ·(try simp only [sB] at hg16)
    refine Js rfl rfl rfl rfl (Js rfl rfl rfl rfl (Js rfl rfl rfl rfl (Js rfl rfl rfl rfl (Js rfl rfl rfl rfl (Kj rfl (Rq rfl rfl rfl) (Kj rfl (Ra rfl rfl) ?_))))))
    refine WJ.nil ?_
    refine Nt (Ce ?_)
    exact R1 rfl rfl (by (simp [*, tup, goodR]; done))
  ·(try simp only [sB] at hg11)
   refine Js rfl rfl rfl rfl (Js rfl rfl rfl rfl (Js rfl rfl rfl rfl (Kj rfl (Rq rfl rfl rfl) (Kj rfl (Rm rfl rfl) (Js rfl rfl rfl rfl (Js rfl rfl rfl rfl (Js rfl rfl rfl rfl (Js rfl rfl rfl rfl (Js rfl rfl rfl rfl (Kj rfl (Rq rfl rfl rfl) (Kj rfl (Ra rfl rfl) ?_)))))))))))
   refine WJ.nil ?_
   refine Nt (Ce ?_)
   exact R1 rfl rfl (by (simp [*, tup, goodR]; done))
 ·(try simp only [sB] at hg6)
  refine Js rfl rfl rfl rfl (Js rfl rfl rfl rfl (Js rfl rfl rfl rfl (Kj rfl (Rq rfl rfl rfl) (Kj rfl (Rm rfl rfl) (Js rfl rfl rfl rfl (Js rfl rfl rfl rfl (Js rfl rfl rfl rfl (Kj rfl (Rq rfl rfl rfl) (Kj rfl (Rm rfl rfl) (Js rfl rfl rfl rfl (Js rfl rfl rfl rfl (Js rfl rfl rfl rfl (Js rfl rfl rfl rfl (Js rfl rfl rfl rfl (Kj rfl (Rq rfl rfl rfl) (Kj rfl (Ra rfl rfl) ?_))))))))))))))))
  refine WJ.nil ?_
  refine Nt (Ce ?_)
  exact R1 rfl rfl (by (simp [*, tup, goodR]; done))
theorem rsone_c {w : World} :
  Cw 161 #[] w (.string (S (canon 1))) := by
 refine En [] [] Tryz.func161 rfl Tryz.ntmps161 rfl (An _) Fn ?_
 refine Cs (Ka rfl (Nt (Cs ?_)))
 refine Ku rfl (Oc rfl rfl (Kv fun w hS => of_c (n := 1) (by omega))) ?_
 refine Ka rfl (Nt (Ce ?_))
 exact R1 rfl rfl (by rfl)
def hasR (g : Gp) (x : Bs) : Prop := goodR g ∧ okN x ∧ x ≠ [] ∧ val x < val g.1 ∧ Nat.gcd (val x) (val g.1) = 1
instance (g : Gp) (x : Bs) : Decidable (hasR g x) := inferInstanceAs (Decidable (_ ∧ _))
theorem rshas_c {g : Gp} {x : Bs} {w : World} :
  Cw 116 #[gV g, .string (S x)] w (.bool (decide (hasR g x))) := by
 refine En [] [(0, gV g), (1, .string (S x))] Tryz.func116 rfl Tryz.ntmps116 rfl (Ac rfl (Ac rfl (An _))) Fn ?_
 refine Cs ?_
 refine Kh rfl (Oy rfl rfl) ?_
 intro b2
 refine Ka rfl (Nt (Cq ?_))
 refine WC.joinP (σ := Unit) [(1, _), (2, _)] (fun gq => [(25, .bool (decide (¬ (goodR g ∧ okN x ∧ x ≠ [] ∧ val x < val g.1))))]) (fun gq => True) (S2 rfl rfl) ?_ ?_
 ·skip
  refine Cg ?_
  refine Kq rfl (lda rfl rfl .tc u26 rfl ?_) ?_
  ·kernel_rfl
  refine Ku rfl (Oc rfl rfl (Kv fun w hS => rgood_c (g := g))) ?_
  refine Kq rfl (Rt rfl rfl) (Km rfl ?_)
  refine Nb 10 rfl (fun hg10 => ?_) (fun hg10 => ?_)
  ·(try simp only [sB] at hg10)
   refine Kt rfl (Kt rfl (Kt rfl (Kq rfl (Rp rfl rfl rfl) (Km rfl (Kt rfl (Kt rfl (Kq rfl (Rp rfl rfl rfl) (Km rfl (Kt rfl (Kt rfl (Kt rfl (Kt rfl (Kt rfl (Kq rfl (Rp rfl rfl rfl) (Nn ?_)))))))))))))))
   refine WX.joinP (()) (S2 rfl rfl) (by refine (Sc ?_ (S0 _)) <;> ((refine slot_b rfl ?_; (try dsimp only); (simp [*]; done)))) ?_ (by (exact fun _ h => h))
   (try dsimp only)
   done
  ·(try simp only [sB] at hg10)
   refine Km rfl ?_
   refine Ku rfl (Oc rfl rfl (Kv fun w hS => valid_c (a := x))) ?_
   refine Kq rfl (Rt rfl rfl) (Kq rfl (Rq rfl rfl rfl) (Km rfl ?_))
   refine Nb 15 rfl (fun hg15 => ?_) (fun hg15 => ?_)
   ·(try simp only [sB] at hg15)
    refine Kt rfl (Kt rfl (Kq rfl (Rp rfl rfl rfl) (Km rfl (Kt rfl (Kt rfl (Kt rfl (Kt rfl (Kt rfl (Kq rfl (Rp rfl rfl rfl) (Nn ?_))))))))))
    refine WX.joinP (()) (S2 rfl rfl) (by refine (Sc ?_ (S0 _)) <;> ((refine slot_b rfl ?_; (try dsimp only); (simp [*]; done)))) ?_ (by (exact fun _ h => h))
    (try dsimp only)
    done
   ·(try simp only [sB] at hg15)
    refine Km rfl (Kq rfl (rd_seq rfl rfl rfl) (Kq rfl (Rq rfl rfl rfl) (Km rfl ?_)))
    refine Nb 19 rfl (fun hg19 => ?_) (fun hg19 => ?_)
    ·(try simp only [sB] at hg19)
     refine Kt rfl (Kt rfl (Kt rfl (Kt rfl (Kt rfl (Kq rfl (Rp rfl rfl rfl) (Nn ?_))))))
     refine WX.joinP (()) (S2 rfl rfl) (by refine (Sc ?_ (S0 _)) <;> ((refine slot_b rfl ?_; (try dsimp only); (simp [*]; done)))) ?_ (by (exact fun _ h => h))
     (try dsimp only)
     done
    ·(try simp only [sB] at hg19)
     refine Km rfl (Kq rfl (Fa (q := 0) rfl rfl u26 rfl rfl) (Kq rfl (Ld rfl rfl .tc u22) ?_))
     refine Ku rfl (Oc rfl rfl (Kv fun w hS => Cmp_c (a := x) (b := g.1))) ?_
     refine Kq rfl (rd_geq rfl rfl rfl) ?_
     refine Ns 24 rfl (v' := .bool (decide (val g.1 ≤ val x))) (congrArg Value.bool (by rw [cmpN_ok hg15 hg10.1]; exact decide_eq_decide.2 (cmpI_ge _ _))) ?_
     refine Kq rfl (Rq rfl rfl rfl) (Nn ?_)
     refine WX.joinP (()) (S2 rfl rfl) (by refine (Sc ?_ (S0 _)) <;> ((refine slot_b rfl ?_; (try dsimp only); (simp [*]; done)))) ?_ (by (exact fun _ h => h))
     (try dsimp only)
     done
 ·rintro _ hmeet; (try dsimp only at hmeet ⊢)
  refine Cd rfl (fun hc25 => ?_) (fun hc25 => ?_)
  ·(try simp only [sB] at hc25)
   have hr : ¬ hasR g x := fun h => hc25 ⟨h.1, h.2.1, h.2.2.1, h.2.2.2.1⟩
   refine Cs (Ka rfl (Nt (Ce (Xb ?_))))
   exact R1 rfl rfl (by (simp [*, tup]; done))
  ·(try simp only [sB] at hc25)
   have hok : goodR g ∧ okN x ∧ x ≠ [] ∧ val x < val g.1 := Decidable.not_not.1 hc25
   have hgc : gcdN x g.1 = (canon (Nat.gcd (val x) (val g.1)), 0) := by rw [gcdN, if_pos ⟨hok.2.1, hok.1.1⟩]
   have hr : hasR g x ↔ Nat.gcd (val x) (val g.1) = 1 := ⟨fun h => h.2.2.2.2, fun h => ⟨hok.1, hok.2.1, hok.2.2.1, hok.2.2.2, h⟩⟩
   refine Ck (Xa (Cs (Km rfl (Kq rfl (Fa (q := 0) rfl rfl u26 rfl rfl) (Kq rfl (Ld rfl rfl .tc u22) ?_)))))
   refine Ku rfl (Oc rfl rfl (Kv fun w hS => (by have := gcd_c (w := w) (a := x) (b := g.1); rw [hgc] at this; exact this))) ?_
   refine Km rfl (Kq rfl (Re rfl rfl rfl) (Kq rfl (Re rfl rfl rfl) (Ka rfl (Ka rfl (Nt (Cs (Km rfl ?_)))))))
   refine Ku rfl (Oc rfl rfl (Kv fun w hS => rsone_c)) ?_
   refine Kq rfl (rd_seq rfl rfl rfl) ?_
   refine Ns 35 rfl (v' := .bool (decide (hasR g x))) (congrArg Value.bool (by simp [hr, canon_inj])) ?_
   refine Ka rfl (Nt (Ce ?_))
   exact R1 rfl rfl (by rfl)
def elG (g : Gp) (x : Bs) : Prop := okN x ∧ x ≠ [] ∧ val x < val g.1 ∧ (if g.2 = [] then Nat.gcd (val x) (val g.1) = 1 else val x ^ val g.2 % val g.1 = 1)
instance (g : Gp) (x : Bs) : Decidable (elG g x) := inferInstanceAs (Decidable (_ ∧ _))
theorem chkG_ok {g : Gp} (h : chkG g = 0) : okN g.1 ∧ okN g.2 ∧ 2 ≤ val g.1 ∧ (g.2 = [] → goodR g) ∧ (g.2 ≠ [] → 2 ≤ val g.2 ∧ (val g.1 - 1) % val g.2 = 0) := by
 unfold chkG at h
 split at h
 ·rename_i h1
  split at h
  ·rename_i h2
   split at h
   ·rename_i h3; exact ⟨h1.1, h1.2, by omega, fun _ => ⟨h1.1, h2, h3.1, h3.2⟩, fun hn => absurd h2 hn⟩
   ·simp at h
  ·rename_i h2
   split at h
   ·simp at h
   ·rename_i h3; exact ⟨h1.1, h1.2, by omega, fun hn => absurd hn h2, fun _ => ⟨by omega, by omega⟩⟩
 ·simp at h
theorem elG_P {g : Gp} {x : Bs} (h : chkG g = 0) (hq : g.2 ≠ []) : hasP g x ↔ elG g x := by
 obtain ⟨h1, h2, h3, h4, h5⟩ := chkG_ok h
 rw [hasP, elG, if_neg hq]
 exact ⟨fun ⟨_, _, a, _, b, c, d⟩ => ⟨a, b, c, d⟩, fun ⟨a, b, c, d⟩ => ⟨h1, h2, a, hq, b, c, d⟩⟩
theorem elG_R {g : Gp} {x : Bs} (h : chkG g = 0) (hq : g.2 = []) : hasR g x ↔ elG g x := by
 obtain ⟨h1, h2, h3, h4, h5⟩ := chkG_ok h
 rw [hasR, elG, if_pos hq]
 exact ⟨fun ⟨_, a, b, c, d⟩ => ⟨a, b, c, d⟩, fun ⟨a, b, c, d⟩ => ⟨h4 hq, a, b, c, d⟩⟩
theorem pwhas0_c {g : Gp} {x : Bs} {w : World} (hg : chkG g = 0) (hm8 : g.1.length ≤ 8) :
  Cw 75 #[gV g, .string (S x)] w (.bool (decide (elG g x))) := by
 refine En [] [(0, gV g), (1, .string (S x))] Tryz.func75 rfl Tryz.ntmps75 rfl (Ac rfl (Ac rfl (An _))) Fn ?_
 refine Cs ?_
 refine Kh rfl (Oy rfl rfl) ?_
 intro b2
 refine Ka rfl (Nt (Cq (Cs (Kq rfl (Fa (q := 1) rfl rfl u26 rfl rfl) (Kq rfl (Ld rfl rfl .tc u22) ?_)))))
 refine Kq rfl (rd_sne rfl rfl rfl) (Nt ?_)
 refine Cd rfl (fun hc7 => ?_) (fun hc7 => ?_)
 ·(try simp only [sB] at hc7)
  have hq : g.2 ≠ [] := by simpa using hc7
  have hr := elG_P (x := x) hg hq
  refine Cs ?_
  refine Kq rfl (lda rfl rfl .tc u26 rfl ?_) ?_
  ·kernel_rfl
  refine Km rfl ?_
  refine Ku rfl (Oc rfl rfl (Kv fun w hS => phas_c (g := g) (x := x) (by assumption))) ?_
  refine Ka rfl (Nt (Ce (Xb ?_)))
  exact R1 rfl rfl (by simp only [hr]; rfl)
 ·(try simp only [sB] at hc7)
  have hq : g.2 = [] := by simpa using hc7
  have hr := elG_R (x := x) hg hq
  refine Ck (Xa (Cs ?_))
  refine Kq rfl (lda rfl rfl .tc u26 rfl ?_) ?_
  ·kernel_rfl
  refine Km rfl ?_
  refine Ku rfl (Oc rfl rfl (Kv fun w hS => rshas_c (g := g) (x := x))) ?_
  refine Ka rfl (Nt (Ce ?_))
  exact R1 rfl rfl (by simp only [hr]; rfl)
theorem pwhas_c {g : Gp} {x : Bs} {w : World} (hm8 : g.1.length ≤ 8) :
  Cw 27 #[gV g, .string (S x)] w (.bool (decide (chkG g = 0 ∧ elG g x))) := by
 refine En [] [(0, gV g), (1, .string (S x))] Tryz.func27 rfl Tryz.ntmps27 rfl (Ac rfl (Ac rfl (An _))) Fn ?_
 refine Cs ?_
 refine Kh rfl (Oy rfl rfl) ?_
 intro b2
 refine Ka rfl (Nt (Cs ?_))
 refine Kq rfl (lda rfl rfl .tc u26 rfl ?_) ?_
 ·kernel_rfl
 refine Ku rfl (Oc rfl rfl (Kv fun w hS => pcheck_c (g := g))) ?_
 refine Kq rfl (rd_eql rfl rfl rfl) (Km rfl ?_)
 refine Nb 8 rfl (fun hg8 => ?_) (fun hg8 => ?_)
 ·(try simp only [sB] at hg8)
  refine Kq rfl (lda rfl rfl .tc u26 rfl ?_) ?_
  ·kernel_rfl
  refine Km rfl ?_
  refine Ku rfl (Oc rfl rfl (Kv fun w hS => pwhas0_c (g := g) (x := x) (by assumption) (by assumption))) ?_
  refine Kq rfl (Rp rfl rfl rfl) (Ka rfl (Nt (Ce ?_)))
  exact R1 rfl rfl (by (simp [*, tup]; done))
 ·(try simp only [sB] at hg8)
  refine Kt rfl (Kt rfl (Kt rfl (Kq rfl (Rq rfl rfl rfl) (Ka rfl (Nt (Ce ?_))))))
  exact R1 rfl rfl (by (simp [*, tup]; done))
theorem rpform_c {g : Gp} {w : World} :
  Cw 168 #[gV g] w (.bool (decide (okN g.1 ∧ okN g.2))) := by
 refine En [] [(0, gV g)] Tryz.func168 rfl Tryz.ntmps168 rfl (Ac rfl (An _)) Fn ?_
 refine Cs ?_
 refine Kh rfl (Oy rfl rfl) ?_
 intro b1
 refine Ka rfl (Nt (Cs (Kq rfl (Fa (q := 0) rfl rfl u26 rfl rfl) (Kq rfl (Ld rfl rfl .tc u22) ?_))))
 refine Ku rfl (Oc rfl rfl (Kv fun w hS => rvalid_c (a := g.1))) ?_
 refine Km rfl ?_
 refine Nb 6 rfl (fun hg6 => ?_) (fun hg6 => ?_)
 ·(try simp only [sB] at hg6)
  refine Kq rfl (Fa (q := 1) rfl rfl u26 rfl rfl) (Kq rfl (Ld rfl rfl .tc u22) ?_)
  refine Ku rfl (Oc rfl rfl (Kv fun w hS => rvalid_c (a := g.2))) ?_
  refine Kq rfl (Rp rfl rfl rfl) (Ka rfl (Nt (Ce ?_)))
  exact R1 rfl rfl (by (simp [*, tup]; done))
 ·(try simp only [sB] at hg6)
  refine Kt rfl (Kt rfl (Kt rfl (Kq rfl (Rq rfl rfl rfl) (Ka rfl (Nt (Ce ?_))))))
  exact R1 rfl rfl (by (simp [*, tup]; done))
theorem rphas_c {g : Gp} {x : Bs} {w : World} (hm8 : g.1.length ≤ 8) :
  Cw 133 #[gV g, .string (S x)] w (.bool (decide (hasP g x))) := by
 refine En [] [(0, gV g), (1, .string (S x))] Tryz.func133 rfl Tryz.ntmps133 rfl (Ac rfl (Ac rfl (An _))) Fn ?_
 refine Cs ?_
 refine Kh rfl (Oy rfl rfl) ?_
 intro b2
 refine Ka rfl (Nt (Cq ?_))
 refine WC.joinP (σ := Unit) [(1, _), (2, _)] (fun gq => [(30, .bool (decide (¬ ((okN g.1 ∧ okN g.2) ∧ okN x ∧ g.2 ≠ [] ∧ x ≠ [] ∧ val x < val g.1))))]) (fun gq => True) (S2 rfl rfl) ?_ ?_
 ·skip
  refine Cg ?_
  refine Kq rfl (lda rfl rfl .tc u26 rfl ?_) ?_
  ·kernel_rfl
  refine Ku rfl (Oc rfl rfl (Kv fun w hS => rpform_c (g := g))) ?_
  refine Kq rfl (Rt rfl rfl) (Km rfl ?_)
  refine Nb 10 rfl (fun hg10 => ?_) (fun hg10 => ?_)
  ·(try simp only [sB] at hg10)
   refine Kt rfl (Kt rfl (Kt rfl (Kq rfl (Rp rfl rfl rfl) (Km rfl (Kt rfl (Kt rfl (Kt rfl (Kq rfl (Rp rfl rfl rfl) (Km rfl (Kt rfl (Kt rfl (Kq rfl (Rp rfl rfl rfl) (Km rfl (Kt rfl (Kt rfl (Kt rfl (Kt rfl (Kt rfl (Kq rfl (Rp rfl rfl rfl) (Nn ?_))))))))))))))))))))
   refine WX.joinP (()) (S2 rfl rfl) (by refine (Sc ?_ (S0 _)) <;> ((refine slot_b rfl ?_; (try dsimp only); (simp [*]; done)))) ?_ (by (exact fun _ h => h))
   (try dsimp only)
   done
  ·(try simp only [sB] at hg10)
   refine Km rfl ?_
   refine Ku rfl (Oc rfl rfl (Kv fun w hS => rvalid_c (a := x))) ?_
   refine Kq rfl (Rt rfl rfl) (Kq rfl (Rq rfl rfl rfl) (Km rfl ?_))
   refine Nb 15 rfl (fun hg15 => ?_) (fun hg15 => ?_)
   ·(try simp only [sB] at hg15)
    refine Kt rfl (Kt rfl (Kt rfl (Kq rfl (Rp rfl rfl rfl) (Km rfl (Kt rfl (Kt rfl (Kq rfl (Rp rfl rfl rfl) (Km rfl (Kt rfl (Kt rfl (Kt rfl (Kt rfl (Kt rfl (Kq rfl (Rp rfl rfl rfl) (Nn ?_)))))))))))))))
    refine WX.joinP (()) (S2 rfl rfl) (by refine (Sc ?_ (S0 _)) <;> ((refine slot_b rfl ?_; (try dsimp only); (simp [*]; done)))) ?_ (by (exact fun _ h => h))
    (try dsimp only)
    done
   ·(try simp only [sB] at hg15)
    refine Kq rfl (Fa (q := 1) rfl rfl u26 rfl rfl) (Kq rfl (Ld rfl rfl .tc u22) ?_)
    refine Kq rfl (rd_seq rfl rfl rfl) (Kq rfl (Rq rfl rfl rfl) (Km rfl ?_))
    refine Nb 20 rfl (fun hg20 => ?_) (fun hg20 => ?_)
    ·(try simp only [sB] at hg20)
     refine Kt rfl (Kt rfl (Kq rfl (Rp rfl rfl rfl) (Km rfl (Kt rfl (Kt rfl (Kt rfl (Kt rfl (Kt rfl (Kq rfl (Rp rfl rfl rfl) (Nn ?_))))))))))
     refine WX.joinP (()) (S2 rfl rfl) (by refine (Sc ?_ (S0 _)) <;> ((refine slot_b rfl ?_; (try dsimp only); (simp [*]; done)))) ?_ (by (exact fun _ h => h))
     (try dsimp only)
     done
    ·(try simp only [sB] at hg20)
     refine Km rfl (Kq rfl (rd_seq rfl rfl rfl) (Kq rfl (Rq rfl rfl rfl) (Km rfl ?_)))
     refine Nb 24 rfl (fun hg24 => ?_) (fun hg24 => ?_)
     ·(try simp only [sB] at hg24)
      refine Kt rfl (Kt rfl (Kt rfl (Kt rfl (Kt rfl (Kq rfl (Rp rfl rfl rfl) (Nn ?_))))))
      refine WX.joinP (()) (S2 rfl rfl) (by refine (Sc ?_ (S0 _)) <;> ((refine slot_b rfl ?_; (try dsimp only); (simp [*]; done)))) ?_ (by (exact fun _ h => h))
      (try dsimp only)
      done
     ·(try simp only [sB] at hg24)
      refine Km rfl (Kq rfl (Fa (q := 0) rfl rfl u26 rfl rfl) (Kq rfl (Ld rfl rfl .tc u22) ?_))
      refine Ku rfl (Oc rfl rfl (Kv fun w hS => order_c (a := x) (b := g.1) (by exact hg15.2) (by exact hg10.1.2) (by have := hg15.1; omega))) ?_
      refine Kq rfl (rd_geq rfl rfl rfl) ?_
      refine Ns 29 rfl (v' := .bool (decide (val g.1 ≤ val x))) (congrArg Value.bool (by exact decide_eq_decide.2 (cmpI_ge _ _))) ?_
      refine Kq rfl (Rq rfl rfl rfl) (Nn ?_)
      refine WX.joinP (()) (S2 rfl rfl) (by refine (Sc ?_ (S0 _)) <;> ((refine slot_b rfl ?_; (try dsimp only); (simp [*]; done)))) ?_ (by (exact fun _ h => h))
      (try dsimp only)
      done
 ·rintro _ hmeet; (try dsimp only at hmeet ⊢)
  refine Cd rfl (fun hc30 => ?_) (fun hc30 => ?_)
  ·(try simp only [sB] at hc30)
   have hr : ¬ hasP g x := fun h => hc30 ⟨⟨h.1, h.2.1⟩, h.2.2.1, h.2.2.2.1, h.2.2.2.2.1, h.2.2.2.2.2.1⟩
   refine Cs (Ka rfl (Nt (Ce (Xb ?_))))
   exact R1 rfl rfl (by (simp [*, tup]; done))
  ·(try simp only [sB] at hc30)
   have hok : (okN g.1 ∧ okN g.2) ∧ okN x ∧ g.2 ≠ [] ∧ x ≠ [] ∧ val x < val g.1 := Decidable.not_not.1 hc30
   obtain ⟨⟨hm, hq⟩, hx, hq0, hx0, hlt⟩ := hok
   have hm0 : g.1 ≠ [] := fun h => by rw [h] at hlt; exact absurd hlt (Nat.not_lt_zero _)
   have he1 := mexp_ok hx hq hm hm0
   have hr : hasP g x ↔ val x ^ val g.2 % val g.1 = 1 := ⟨fun h => h.2.2.2.2.2.2, fun h => ⟨hm, hq, hx, hq0, hx0, hlt, h⟩⟩
   refine Ck (Xa (Cs (Km rfl (Kq rfl (Fa (q := 1) rfl rfl u26 rfl rfl) (Kq rfl (Ld rfl rfl .tc u22) ?_)))))
   refine Kq rfl (Fa (q := 0) rfl rfl u26 rfl rfl) (Kq rfl (Ld rfl rfl .tc u22) ?_)
   refine Ku rfl (Oc rfl rfl (Kv fun w hS => (by have := rmexp_c (w := w) (a := x) (x := g.2) (m := g.1) hm8; rw [he1] at this; exact this))) ?_
   refine Km rfl (Kq rfl (Re rfl rfl rfl) (Kq rfl (Re rfl rfl rfl) (Ka rfl (Ka rfl (Nt (Cs (Km rfl (Kq rfl (rd_seq rfl rfl rfl) ?_))))))))
   refine Ns 41 rfl (v' := .bool (decide (hasP g x))) (congrArg Value.bool (by simp [hr, canon_one])) ?_
   refine Ka rfl (Nt (Ce ?_))
   exact R1 rfl rfl (by rfl)
def extS (x y : Zs) (q : Bs) : Zs := (subZ x (mulZ (fromZ q) y).1).1
theorem ext1_c {x y : Zs} {q : Bs} {p : Nat} {w : World} {ok : Nat → Prop} (hF1 : (Fact.sl (some ⟨p, 0, none⟩) [.string (S q)]).holds ok w) :
  Cw 143 #[.agg #[.bool x.1, .string (S x.2), .bool y.1, .string (S y.2)], .pointer (some ⟨p, 0, none⟩)] w (.agg #[.bool y.1, .string (S y.2), .bool (extS x y q).1, .string (S (extS x y q).2)]) := by
 refine En [Fact.sl (some ⟨p, 0, none⟩) [.string (S q)]] [(0, .agg #[.bool x.1, .string (S x.2), .bool y.1, .string (S y.2)]), (1, .pointer (some ⟨p, 0, none⟩))] Tryz.func143 rfl Tryz.ntmps143 rfl (Ac rfl (Ac rfl (An _))) (Fc (fact_any hF1) Fn) ?_
 refine Cs ?_
 refine Kh rfl (Oy rfl rfl) ?_
 intro b2
 refine Kh rfl (Oz [.bool false, .string (S []), .bool false, .string (S [])] rfl) ?_
 intro b3
 refine Nt (Cq ?_)
 refine Cf [0, 1, 2, 3, 4, 5, 6, 8, 9, 7, 10] [] [0, 1, 0, 0, 1, 0, 0, 0, 3, 1, 0] (by kernel_rfl) (by kernel_rfl) rfl ?_
 refine Kj rfl (ldt (a := some ⟨p, 0, none⟩) (q := 0) rfl rfl u22 rfl rfl) ?_
 refine Jv rfl rfl rfl rfl rfl (fun ext => Oc rfl rfl (Kv fun w hS => zfrom_c (a := q))) ?_
 refine Kj rfl (Jb rfl rfl rfl u51 (by kernel_rfl : _ = some 2) ?_) ?_
 ·omega
 refine Kj rfl (ldp rfl rfl .tc u50 rfl (by kernel_rfl : _ = some 2) (by rfl) (by rfl)) ?_
 refine Jv rfl rfl rfl rfl rfl (fun ext => Oc rfl rfl (Kv fun w hS => zmul_c (x := fromZ q) (y := y))) ?_
 refine Kj rfl (Rm rfl rfl) (Kj rfl (Re rfl rfl rfl) ?_)
 refine Jf rfl rfl rfl rfl rfl (fr_alloc rfl (v := (.agg #[.bool false, .string (S [])])) (cs := [.bool false, .string (S [])]) (by kernel_rfl) rfl) ?_
 intro b4
 refine WJ.st rfl rfl rfl rfl (staJ rfl rfl rfl ?_ ?_ ?_) ?_
 ·kernel_rfl
 ·simp [Value.oneCell']
 ·rfl
 refine Kj rfl (Re rfl rfl rfl) (Kj rfl (Ra rfl rfl) ?_)
 refine WJ.nil ?_
 refine Nt (Cs ?_)
 refine Kq rfl (Jb rfl rfl rfl u51 (by kernel_rfl : _ = some 2) ?_) ?_
 ·omega
 refine Kq rfl (ldp rfl rfl .tc u50 rfl (by kernel_rfl : _ = some 2) (by rfl) (by rfl)) ?_
 refine Kq rfl (lda rfl rfl .tc u50 rfl ?_) ?_
 ·kernel_rfl
 refine Ku rfl (Oc rfl rfl (Kv fun w hS => zsub_c (x := x) (y := (mulZ (fromZ q) y).1))) ?_
 refine Km rfl (Kq rfl (Re rfl rfl rfl) (Kq rfl (Re rfl rfl rfl) ?_))
 refine Kh rfl (Oz [.bool false, .string (S [])] rfl) ?_
 intro b6
 refine Nu rfl rfl (Sa rfl rfl rfl .tc) ?_
 refine Ka rfl (Nt (Cs ?_))
 refine Kq rfl (Jb rfl rfl rfl u51 (by kernel_rfl : _ = some 2) ?_) ?_
 ·omega
 refine Kq rfl (ldp rfl rfl .tc u50 rfl (by kernel_rfl : _ = some 2) (by rfl) (by rfl)) ?_
 refine Kq rfl (lda rfl rfl .tc u50 rfl ?_) ?_
 ·kernel_rfl
 refine Kq rfl (Kb [[.bool false, .string (S [])], [.bool false, .string (S [])]] rfl rfl) ?_
 refine Nu rfl rfl (Sa rfl rfl rfl .tc) ?_
 refine Nt (Ce ?_)
 exact Rn rfl (.agg rfl .tc u51 rfl (by kernel_rfl) .nil) fun w' hS => ⟨by rfl, hS.below⟩
theorem extS_of {x y : Int} {q : Nat} (hx : x.natAbs < Big) (hy : y.natAbs < Big) (hq : q < Big) (hm : q * y.natAbs < Big) (hs : (x - q * y).natAbs < Big) : extS (ofZ x) (ofZ y) (canon q) = ofZ (x - q * y) := by
 have hm' : ((q : Int) * y).natAbs < Big := by rw [Int.natAbs_mul, Int.natAbs_natCast]; exact hm
 rw [extS, fromZ_of hq, mulZ_of (by rw [Int.natAbs_natCast]; exact hq) hy hm', subZ_ok hx hm' hs]
set_option maxHeartbeats 6000000 in
theorem zext_c {a b : Bs} {w : World} {ok : Nat → Prop} (ha : okN a) (hb : okN b) (hb0 : b ≠ []) :
  Calls Tryz.prog 97 #[.string (S a), .string (S b)] w fun e w' => ∃ gx : Int × Zs, e = .returned (.tuple #[.string (S (canon (Nat.gcd (val a) (val b)))), zV (ofZ gx.1), zV gx.2, .int .i64 0]) ∧ (((val a : Int) * gx.1) % (val b) = (Nat.gcd (val a) (val b) : Int) % (val b) ∧ (Nat.gcd (val a) (val b) = 1 → 0 ≤ gx.1) ∧ gx.1.natAbs < Big) ∧ Below w.heap.size w w' ∧ ∀ x ∈ ([] : List Fact), x.holds (fun b => ok b ∨ w.heap.size ≤ b) w' := by
 have hvb : 0 < val b := Nat.pos_of_ne_zero fun e => hb0 ((val_eq_zero hb.2).1 e)
 have hbB := okN_val hb; have haB := okN_val ha
 have hB1 : 1 < Big := Nat.lt_of_lt_of_le (by decide) big64
 refine enter (S := St (fun b => ok b ∨ w.heap.size ≤ b) w [] ([])) (L := [(0, .string (S a)), (1, .string (S b))]) Tryz.func97 rfl Tryz.ntmps97 rfl (Ac rfl (Ac rfl (An _))) (St.start (fun _ h => Or.inr h) (facts_or Fn)) ?_
 refine Cs (Ka rfl ?_)
 refine Kh rfl (Oz [.bool false, .string (S [])] rfl) ?_
 intro b5
 refine Kh rfl (Oz [.bool false, .string (S [])] rfl) ?_
 intro b6
 refine Ka rfl (Nt (Cq (Cs (Km rfl ?_))))
 refine Ku rfl (Oc rfl rfl (Kv fun w hS => valid_c)) ?_
 refine Ns 23 rfl (v' := .bool true) (by rw [decide_eq_true ha]) ?_
 refine Kq rfl (Rt rfl rfl) (Km rfl (Km rfl ?_))
 refine Ku rfl (Oc rfl rfl (Kv fun w hS => valid_c)) ?_
 refine Ns 27 rfl (v' := .bool true) (by rw [decide_eq_true hb]) ?_
 refine Kq rfl (Rt rfl rfl) (Kq rfl (Rq rfl rfl rfl) (Nt ?_))
 refine Cd rfl (fun h => by cases h) (fun _ => ?_)
 refine Ck (Xa (Cq (Cs (Km rfl (Kq rfl (rd_seq rfl rfl rfl) (Nt ?_))))))
 refine Cd rfl (fun hc33 => by exfalso; (try simp only [sB] at hc33); simp_all) (fun hc33 => ?_)
 (try simp only [sB] at hc33)
 refine Ck (Xa (Cs (Km rfl (Km rfl (Kq rfl (Kb [[.string (S [])], [.string (S [])]] rfl rfl) ?_)))))
 refine Kh rfl (Oz [.string (S []), .string (S [])] rfl) ?_
 intro b8
 refine Nu rfl rfl (Sa rfl rfl rfl .tc) ?_
 refine Nt (Cs ?_)
 refine Ku rfl (Oc rfl rfl (Kv fun w hS => zof_c (n := 1) (by omega) (by omega))) ?_
 refine Ku rfl (Oc rfl rfl (Kv fun w hS => zof_c (n := 0) (by omega) (by omega))) ?_
 refine Kq rfl (Kb [[.bool false, .string (S [])], [.bool false, .string (S [])]] rfl rfl) ?_
 refine Ku rfl (Oc rfl rfl (Kv fun w hS => zof_c (n := 0) (by omega) (by omega))) ?_
 refine Ku rfl (Oc rfl rfl (Kv fun w hS => zof_c (n := 1) (by omega) (by omega))) ?_
 refine Kq rfl (Kb [[.bool false, .string (S [])], [.bool false, .string (S [])]] rfl rfl) ?_
 refine Kh rfl (Oz [.bool false, .string (S []), .bool false, .string (S [])] rfl) ?_
 intro b9
 refine Kh rfl (Oz [.bool false, .string (S []), .bool false, .string (S [])] rfl) ?_
 intro b10
 refine Nu rfl rfl (Sa rfl rfl rfl .tc) ?_
 refine Nu rfl rfl (Sa rfl rfl rfl .tc) ?_
 refine Nt (Cq (Cb ?_))
 refine Lo (σ := Nat × Nat × Int × Int × Int × Int) [(0, _), (1, _), (5, _), (6, _), (8, _), (9, _), (10, _)] (fun gq => []) (fun gq => Euc (val a) (val b) gq.1 gq.2.1 gq.2.2.1 gq.2.2.2.1 gq.2.2.2.2.1 gq.2.2.2.2.2 ∧ gq.1 < Big ∧ gq.2.1 < Big ∧ gq.2.2.1.natAbs ≤ val b ∧ gq.2.2.2.1.natAbs ≤ val b ∧ gq.2.2.2.2.1.natAbs ≤ max (val a) 1 ∧ gq.2.2.2.2.2.natAbs ≤ max (val a) 1) (fun gq => gq.2.1) (fun gq => [⟨some b10, [.bool (ofZ gq.2.2.2.2.1).1, .string (S (ofZ gq.2.2.2.2.1).2), .bool (ofZ gq.2.2.2.2.2).1, .string (S (ofZ gq.2.2.2.2.2).2)], 51⟩, ⟨some b9, [.bool (ofZ gq.2.2.1).1, .string (S (ofZ gq.2.2.1).2), .bool (ofZ gq.2.2.2.1).1, .string (S (ofZ gq.2.2.2.1).2)], 51⟩, ⟨some b8, [.string (S (canon gq.1)), .string (S (canon gq.2.1))], 100⟩, ⟨some b6, [.bool false, .string (S [])], 50⟩, ⟨some b5, [.bool false, .string (S [])], 50⟩]) (fun gq => []) (val a, val b, 1, 0, 0, 1) (S7 rfl rfl rfl rfl rfl rfl rfl) (S0 _) (by (try dsimp only); exact ⟨euc_start _ _, haB, hbB, by omega, by omega, by omega, by omega⟩) (by exact fun w h => by rw [ok_canon ha, ok_canon hb]; exact h) ?_
 rintro ⟨r0, r1, x0, x1, y0, y1⟩ hinv1; (try dsimp only at hinv1 ⊢)
 obtain ⟨hE, hr0, hr1, hx0, hx1, hy0, hy1⟩ := hinv1
 refine Cq (Cs ?_)
 refine Kq rfl (Jb rfl rfl rfl u100 (by kernel_rfl : _ = some 1) ?_) ?_
 ·omega
 refine Kq rfl (Ld rfl rfl .tc u22) ?_
 refine Kq rfl (rd_sne rfl rfl rfl) (Nt ?_)
 refine Cd rfl (fun hc48 => ?_) (fun hc48 => ?_)
 ·(try simp only [sB] at hc48)
  have hr1p : 0 < r1 := by
   rcases Nat.eq_zero_or_pos r1 with h | h
   ·subst h; simp [canon_zero] at hc48
   ·exact h
  have hE' := euc_step hE hr1p
  obtain ⟨hm1, hm2⟩ := euc_mul hE hr1p
  obtain ⟨hl1, hl2⟩ := euc_le hE' hr1p
  have hdv := divN_of hr0 hr1 hr1p
  have hdl := Nat.div_le_self r0 r1
  have hml := Nat.mod_lt r0 hr1p
  have hex := extS_of (x := x0) (y := x1) (q := r0 / r1) (by omega) (by omega) (by omega) (by omega) (by omega)
  have hey := extS_of (x := y0) (y := y1) (q := r0 / r1) (by omega) (by omega) (by omega) (by omega) (by omega)
  refine Ck (Xa (Cb (Cs ?_)))
  refine Kq rfl (Jb rfl rfl rfl u100 (by kernel_rfl : _ = some 1) ?_) ?_
  ·omega
  refine Kq rfl (Ld rfl rfl .tc u22) ?_
  refine Kq rfl (Jb rfl rfl rfl u100 (by kernel_rfl : _ = some 1) ?_) ?_
  ·omega
  refine Kq rfl (Ld rfl rfl .tc u22) ?_
  refine Ku rfl (Oc rfl rfl (Kv fun w hS => (by have := divmod_c (w := w) (a := canon r0) (b := canon r1); rw [hdv] at this; exact this))) ?_
  refine Km rfl (Kq rfl (Re rfl rfl rfl) (Kq rfl (Re rfl rfl rfl) (Kq rfl (Re rfl rfl rfl) ?_)))
  refine Kh rfl (Oa rfl (v := (.string (S []))) (cs := [.string (S [])]) (by kernel_rfl) rfl) ?_
  intro b11
  refine Ng rfl rfl (st rfl rfl rfl .tc (by kernel_rfl) rfl ?_ (by (simp only [List.set_cons_zero, List.set_cons_succ]; rfl))) ?_
  ·decide
  intro _
  refine Ka rfl (Ka rfl (Nt (Cs (Kq rfl (rd_mkf rfl rfl rfl) (Ka rfl (Nt (Cs ?_)))))))
  refine Kq rfl (Jb rfl rfl rfl u100 (by kernel_rfl : _ = some 1) ?_) ?_
  ·omega
  refine Kq rfl (Ld rfl rfl .tc u22) ?_
  refine Km rfl (Kq rfl (Kb [[.string (S [])], [.string (S [])]] rfl rfl) ?_)
  refine Nu rfl rfl (Sa rfl rfl rfl .tc) ?_
  refine Nt ?_
  refine Cf [0, 1, 2, 3, 4, 5] [6, 7] [0, 0, 1, 0, 0, 1, 2, 2] (by kernel_rfl) (by kernel_rfl) rfl ?_
  refine Kj rfl (Rm rfl rfl) ?_
  refine Kj rfl (lda rfl rfl .tc u51 rfl ?_) ?_
  ·kernel_rfl
  refine Jv rfl rfl rfl rfl rfl (fun ext => og_callv rfl rfl rfl (by kernel_rfl) rfl (Kv fun w hS => ext1_c (x := ofZ x0) (y := ofZ x1) (q := canon (r0 / r1)) (p := b11) (by (exact hS.os)))) ?_
  refine Kj rfl (Rm rfl rfl) ?_
  refine Kj rfl (lda rfl rfl .tc u51 rfl ?_) ?_
  ·kernel_rfl
  refine Jv rfl rfl rfl rfl rfl (fun ext => og_callv rfl rfl rfl (by kernel_rfl) rfl (Kv fun w hS => ext1_c (x := ofZ y0) (y := ofZ y1) (q := canon (r0 / r1)) (p := b11) (by (exact hS.os)))) ?_
  refine WJ.nil ?_
  refine Nu rfl rfl (Sa rfl rfl rfl .tc) ?_
  refine Nu rfl rfl (Sa rfl rfl rfl .tc) ?_
  refine Nn (Xd ?_)
  refine Lx ((r1, r0 % r1, x1, x0 - (r0 / r1 : Nat) * x1, y1, y0 - (r0 / r1 : Nat) * y1)) (by (try dsimp only); exact hml) (S7 rfl rfl rfl rfl rfl rfl rfl) (S0 _) ?_ (by rw [← hex, ← hey]; exact st_sub)
  (try dsimp only)
  exact ⟨hE', hr1, by omega, hx1, hl1, hy1, by omega⟩
 ·(try simp only [sB] at hc48)
  refine Cx (Xc (Xc (Xe ?_)))
  obtain rfl : r1 = 0 := by
   rcases Nat.eq_zero_or_pos r1 with h | h
   ·exact h
   ·exfalso; have : canon r1 ≠ [] := by rw [ne_eq, canon_nil]; omega
    simp_all
  obtain rfl : r0 = Nat.gcd (val a) (val b) := by rw [← hE.gc, Nat.gcd_zero_right]
  obtain ⟨gd, hg⟩ : ∃ gd, gd = Nat.gcd (val a) (val b) := ⟨_, rfl⟩
  have hg0 : 0 < gd := by rw [hg]; exact Nat.gcd_pos_of_pos_right _ hvb
  have hda : val a = val a / gd * gd := by rw [Nat.div_mul_cancel]; rw [hg]; exact Nat.gcd_dvd_left _ _
  have hdb : val b = val b / gd * gd := by rw [Nat.div_mul_cancel]; rw [hg]; exact Nat.gcd_dvd_right _ _
  have he0 := hE.e0
  rw [← hg] at he0 hr0 ⊢
  have hbl := Nat.div_le_self (val b) gd; have hal := Nat.div_le_self (val a) gd
  have hdvb : divN b (canon gd) = ((canon (val b / gd), canon (val b % gd)), 0) := by rw [divN_ok hb (okN_can (by omega)) (by rw [ne_eq, canon_nil]; omega), val_canon]
  have hdva : divN a (canon gd) = ((canon (val a / gd), canon (val a % gd)), 0) := by rw [divN_ok ha (okN_can (by omega)) (by rw [ne_eq, canon_nil]; omega), val_canon]
  have key : ∀ (X : Int) (q : Int), X * val a = x0 * val a + q * val b → ((val a : Int) * X) % (val b) = (gd : Int) % (val b) := fun X q h => by
   have e : (val a : Int) * X = gd + val b * (q - y0) := by
    rw [Int.mul_comm (val a : Int) X, h, ← he0, Int.mul_sub, Int.mul_comm q, Int.mul_comm x0]; omega
   rw [e, Int.add_mul_emod_self_left]
  refine Xa (Cs ?_)
  refine Kq rfl (Jb rfl rfl rfl u100 (by kernel_rfl : _ = some 1) ?_) ?_
  ·omega
  refine Kq rfl (Ld rfl rfl .tc u22) ?_
  refine Ka rfl (Nt ?_)
  refine WC.joinO (σ := Int × Zs) [(5, _), (6, _), (9, _), (10, _), (15, _)] (fun gq => []) (fun gq => ((val a : Int) * gq.1) % (val b) = (gd : Int) % (val b) ∧ (gd = 1 → 0 ≤ gq.1) ∧ gq.1.natAbs < Big) (fun gq => [⟨some b10, [.bool gq.2.1, .string (S gq.2.2), .bool (ofZ y1).1, .string (S (ofZ y1).2)], 51⟩, ⟨some b9, [.bool (ofZ gq.1).1, .string (S (ofZ gq.1).2), .bool (ofZ x1).1, .string (S (ofZ x1).2)], 51⟩, ⟨some b6, [.bool false, .string (S [])], 50⟩, ⟨some b5, [.bool false, .string (S [])], 50⟩]) (fun gq => []) (S5 rfl rfl rfl rfl rfl) ?_ ?_
  ·skip
   refine Cs ?_
   refine Kq rfl (Jb rfl rfl rfl u51 (by kernel_rfl : _ = some 2) ?_) ?_
   ·omega
   (refine Kq rfl (rd_fa rfl rfl u50 rfl (by kernel_rfl) (by (try simp only [sN, Int.reduceToNat, Nat.reduceAdd, Nat.reduceMul, Nat.reduceSub]); rfl)) ?_)
   refine Kq rfl (Ld rfl rfl .tc u4) ?_
   refine Nt ?_
   refine Cd rfl (fun hc73 => ?_) (fun hc73 => ?_)
   ·(try simp only [sB] at hc73)
    have hneg : x0 < 0 := by rw [ofZ_eq] at hc73; simpa using hc73
    have aux : ∀ u : Nat, u ≤ val b → (x0 + (u : Int)).natAbs < Big := fun u hu => by omega
    have hadx : addZ (ofZ x0) (ofZ ((val b / gd : Nat) : Int)) = (ofZ (x0 + (val b / gd : Nat)), 0) := by
     rw [addZ_of (by omega) (by rw [Int.natAbs_natCast]; exact Nat.lt_of_le_of_lt hbl hbB), if_pos (aux _ hbl)]
    refine Cs (Km rfl (Km rfl ?_))
    refine Ku rfl (Oc rfl rfl (Kv fun w hS => (by have := divmod_c (w := w) (a := b) (b := canon gd); rw [hdvb] at this; exact this))) ?_
    refine Km rfl (Kq rfl (Re rfl rfl rfl) (Kq rfl (Re rfl rfl rfl) (Kq rfl (Re rfl rfl rfl) (Ka rfl (Ka rfl (Ka rfl (Nt (Cs (Km rfl (Km rfl ?_))))))))))
    refine Ku rfl (Oc rfl rfl (Kv fun w hS => (by have := divmod_c (w := w) (a := a) (b := canon gd); rw [hdva] at this; exact this))) ?_
    refine Km rfl (Kq rfl (Re rfl rfl rfl) (Kq rfl (Re rfl rfl rfl) (Kq rfl (Re rfl rfl rfl) (Ka rfl (Ka rfl (Ka rfl (Nt (Cq ?_))))))))
    refine WC.ordersP [(5, _), (6, _), (9, _), (10, _), (15, _), (19, _)] ([⟨some b10, [.bool (ofZ y0).1, .string (S (ofZ y0).2), .bool (ofZ y1).1, .string (S (ofZ y1).2)], 51⟩, ⟨some b9, [.bool (ofZ (x0 + (val b / gd : Nat))).1, .string (S (ofZ (x0 + (val b / gd : Nat))).2), .bool (ofZ x1).1, .string (S (ofZ x1).2)], 51⟩, ⟨some b8, [.string (S (canon gd)), .string (S (canon 0))], 100⟩, ⟨some b6, [.bool false, .string (S [])], 50⟩, ⟨some b5, [.bool false, .string (S [])], 50⟩]) ([]) (S6 rfl rfl rfl rfl rfl rfl) [[0, 1, 2, 3, 4, 5, 6, 7, 8, 9], [0, 1, 2, 3, 4, 5, 6, 8, 7, 9], [0, 1, 2, 3, 4, 5, 6, 8, 9, 7], [0, 1, 2, 3, 4, 5, 7, 6, 8, 9], [0, 2, 1, 3, 4, 5, 6, 7, 8, 9], [0, 2, 1, 3, 4, 5, 6, 8, 7, 9], [0, 2, 1, 3, 4, 5, 6, 8, 9, 7], [0, 2, 1, 3, 4, 5, 7, 6, 8, 9], [0, 2, 3, 1, 4, 5, 6, 7, 8, 9], [0, 2, 3, 1, 4, 5, 6, 8, 7, 9], [0, 2, 3, 1, 4, 5, 6, 8, 9, 7], [0, 2, 3, 1, 4, 5, 7, 6, 8, 9], [2, 0, 1, 3, 4, 5, 6, 7, 8, 9], [2, 0, 1, 3, 4, 5, 6, 8, 7, 9], [2, 0, 1, 3, 4, 5, 6, 8, 9, 7], [2, 0, 1, 3, 4, 5, 7, 6, 8, 9], [2, 0, 3, 1, 4, 5, 6, 7, 8, 9], [2, 0, 3, 1, 4, 5, 6, 8, 7, 9], [2, 0, 3, 1, 4, 5, 6, 8, 9, 7], [2, 0, 3, 1, 4, 5, 7, 6, 8, 9], [2, 3, 0, 1, 4, 5, 6, 7, 8, 9], [2, 3, 0, 1, 4, 5, 6, 8, 7, 9], [2, 3, 0, 1, 4, 5, 6, 8, 9, 7], [2, 3, 0, 1, 4, 5, 7, 6, 8, 9]] (by kernel_rfl) (by kernel_rfl) (by simp only [pickOps, List.map, List.getElem?_cons_zero, List.getElem?_cons_succ]; rfl) ?_ ?_
    ·repeat' (first | exact AllL.nil | refine AllL.cons ?_ ?_)
     all_goals (repeat (first | (refine Km rfl ?_) | (refine Kq rfl (Jb rfl rfl rfl u51 (by kernel_rfl : _ = some 2) ?_) ?_; focus omega) | (refine Kq rfl (ldp rfl rfl .tc u50 rfl (by kernel_rfl : _ = some 2) (by rfl) (by rfl)) ?_) | (refine Kh rfl (Oc rfl rfl (Kv fun w hS => (by have := zfrom_c (w := w) (a := canon (val b / gd)); rw [fromZ_of (Nat.lt_of_le_of_lt hbl hbB)] at this; exact this))) ?_; intro _) | (refine Kh rfl (Oc rfl rfl (Kv fun w hS => (by have := zadd_c (w := w) (x := ofZ x0) (y := ofZ ((val b / gd : Nat) : Int)); rw [hadx] at this; exact this))) ?_; intro _) | (refine Kq rfl (Re rfl rfl rfl) ?_) | (refine Ng rfl rfl (stp rfl rfl rfl .tc (by kernel_rfl) (by simp [Value.oneCell']) (by (simp; done)) rfl) ?_; intro _)))
     all_goals (refine Nn ?_; exact WX.midP () (S6 rfl rfl rfl rfl rfl rfl) (by (exact fun _ h => h)))
    refine Xa ?_
    refine WC.ordersP [(5, _), (6, _), (9, _), (10, _), (15, _)] ([⟨some b10, [.bool (subZ (ofZ y0) (ofZ ((val a / gd : Nat) : Int))).1.1, .string (S (subZ (ofZ y0) (ofZ ((val a / gd : Nat) : Int))).1.2), .bool (ofZ y1).1, .string (S (ofZ y1).2)], 51⟩, ⟨some b9, [.bool (ofZ (x0 + (val b / gd : Nat))).1, .string (S (ofZ (x0 + (val b / gd : Nat))).2), .bool (ofZ x1).1, .string (S (ofZ x1).2)], 51⟩, ⟨some b8, [.string (S (canon gd)), .string (S (canon 0))], 100⟩, ⟨some b6, [.bool false, .string (S [])], 50⟩, ⟨some b5, [.bool false, .string (S [])], 50⟩]) ([]) (S5 rfl rfl rfl rfl rfl) [[0, 1, 2, 3, 4, 5, 6, 7, 8, 9], [0, 1, 2, 3, 4, 5, 6, 8, 7, 9], [0, 1, 2, 3, 4, 5, 6, 8, 9, 7], [0, 1, 2, 3, 4, 5, 7, 6, 8, 9], [0, 2, 1, 3, 4, 5, 6, 7, 8, 9], [0, 2, 1, 3, 4, 5, 6, 8, 7, 9], [0, 2, 1, 3, 4, 5, 6, 8, 9, 7], [0, 2, 1, 3, 4, 5, 7, 6, 8, 9], [0, 2, 3, 1, 4, 5, 6, 7, 8, 9], [0, 2, 3, 1, 4, 5, 6, 8, 7, 9], [0, 2, 3, 1, 4, 5, 6, 8, 9, 7], [0, 2, 3, 1, 4, 5, 7, 6, 8, 9], [2, 0, 1, 3, 4, 5, 6, 7, 8, 9], [2, 0, 1, 3, 4, 5, 6, 8, 7, 9], [2, 0, 1, 3, 4, 5, 6, 8, 9, 7], [2, 0, 1, 3, 4, 5, 7, 6, 8, 9], [2, 0, 3, 1, 4, 5, 6, 7, 8, 9], [2, 0, 3, 1, 4, 5, 6, 8, 7, 9], [2, 0, 3, 1, 4, 5, 6, 8, 9, 7], [2, 0, 3, 1, 4, 5, 7, 6, 8, 9], [2, 3, 0, 1, 4, 5, 6, 7, 8, 9], [2, 3, 0, 1, 4, 5, 6, 8, 7, 9], [2, 3, 0, 1, 4, 5, 6, 8, 9, 7], [2, 3, 0, 1, 4, 5, 7, 6, 8, 9]] (by kernel_rfl) (by kernel_rfl) (by simp only [pickOps, List.map, List.getElem?_cons_zero, List.getElem?_cons_succ]; rfl) ?_ ?_
    ·repeat' (first | exact AllL.nil | refine AllL.cons ?_ ?_)
     all_goals (repeat (first | (refine Km rfl ?_) | (refine Kq rfl (Jb rfl rfl rfl u51 (by kernel_rfl : _ = some 2) ?_) ?_; focus omega) | (refine Kq rfl (ldp rfl rfl .tc u50 rfl (by kernel_rfl : _ = some 2) (by rfl) (by rfl)) ?_) | (refine Kh rfl (Oc rfl rfl (Kv fun w hS => (by have := zfrom_c (w := w) (a := canon (val a / gd)); rw [fromZ_of (Nat.lt_of_le_of_lt hal haB)] at this; exact this))) ?_; intro _) | (refine Kh rfl (Oc rfl rfl (Kv fun w hS => zsub_c (x := ofZ y0) (y := ofZ ((val a / gd : Nat) : Int)))) ?_; intro _) | (refine Kq rfl (Re rfl rfl rfl) ?_) | (refine Ng rfl rfl (stp rfl rfl rfl .tc (by kernel_rfl) (by simp [Value.oneCell']) (by (simp; done)) rfl) ?_; intro _)))
     all_goals (refine Nn ?_; exact WX.midP () (S5 rfl rfl rfl rfl rfl) (by (exact fun _ h => h)))
    refine WX.joinO (((x0 + (val b / gd : Nat)), (subZ (ofZ y0) (ofZ ((val a / gd : Nat) : Int))).1)) (S5 rfl rfl rfl rfl rfl) (S0 _) ?_ (by (exact st_sub))
    (try dsimp only)
    exact ⟨key _ (val a / gd : Nat) (by
     rw [Int.add_mul]; congr 1
     have e : val b / gd * val a = val a / gd * val b := by
      conv => lhs; rw [hda]
      conv => rhs; rw [hdb]
      ac_rfl
     exact_mod_cast e), fun h => by rw [h, Nat.div_one]; omega, aux _ hbl⟩
   ·(try simp only [sB] at hc73)
    have hnn : 0 ≤ x0 := by rw [ofZ_eq] at hc73; simpa using hc73
    refine Ck ?_
    refine WX.joinO ((x0, ofZ y0)) (S5 rfl rfl rfl rfl rfl) (S0 _) ?_ (by (exact st_sub))
    (try dsimp only)
    exact ⟨key _ 0 (by omega), fun _ => hnn, by omega⟩
  ·rintro ⟨X, Y⟩ hmeet; (try dsimp only at hmeet ⊢)
   refine Cq ?_
   refine WC.free (K := [⟨some b10, [.bool Y.1, .string (S Y.2), .bool (ofZ y1).1, .string (S (ofZ y1).2)], 51⟩, ⟨some b9, [.bool (ofZ X).1, .string (S (ofZ X).2), .bool (ofZ x1).1, .string (S (ofZ x1).2)], 51⟩]) (fs0 := []) [0, 1, 2, 5, 6, 3, 4] [7, 8] [0, 0, 0, 0, 0, 0, 1, 2, 2] (by kernel_rfl) (by kernel_rfl) rfl ?_
   refine Kj rfl (Rm rfl rfl) ?_
   refine Kj rfl (Jb rfl rfl rfl u51 (by kernel_rfl : _ = some 2) ?_) ?_
   ·omega
   refine Kj rfl (ldp rfl rfl .tc u50 rfl (by kernel_rfl : _ = some 2) (by rfl) (by rfl)) ?_
   refine Kj rfl (Ra rfl rfl) ?_
   refine WJ.st rfl rfl rfl rfl (staJ rfl rfl rfl ?_ ?_ ?_) ?_
   ·kernel_rfl
   ·simp [Value.oneCell']
   ·rfl
   refine Kj rfl (Jb rfl rfl rfl u51 (by kernel_rfl : _ = some 2) ?_) ?_
   ·omega
   refine Kj rfl (ldp rfl rfl .tc u50 rfl (by kernel_rfl : _ = some 2) (by rfl) (by rfl)) ?_
   refine WJ.nil ?_
   refine Nu rfl rfl (Sa rfl rfl rfl .tc) ?_
   refine Ka rfl (Nt (Ce ?_))
   exact Rn rfl (.tmp rfl (.agg rfl .tc u50 rfl (by kernel_rfl) (.agg rfl .tc u50 rfl (by kernel_rfl) (.tmp rfl .nil)))) fun w' hS => ⟨(X, Y), rfl, hmeet, hS.below, fun _ h => by cases h⟩
end Go.Proofs.YthkmpjobfdeoaaaGreatDoor
