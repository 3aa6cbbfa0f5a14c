/-
  Parts of the walk: Mo4 Pw1 Pw2 Grp2 Ped Prs Iks Pw3 Eqs Open Opn.
-/
import Derived.Test.YthkmpjobfdeoaaaGreatDoorJ12
import Derived.Laws.StructEq
import Derived.ChangeKeysEq
import Derived.ProofKit
import Derived.OpenShut
import Derived.SliceStrings
import Derived.Carry
namespace Go.Proofs.YthkmpjobfdeoaaaGreatDoor
open Go.RowKit
set_option linter.unusedSimpArgs false
set_option linter.unusedVariables false
set_option maxHeartbeats 600000
set_option maxRecDepth 20000
def invM (a m : Bs) : Bs × Int := if chkM [a] [m] = 0 then (if Nat.gcd (val a) (val m) = 1 then (canon (invN (val a) (val m)), 0) else ([], 9)) else ([], chkM [a] [m])
theorem chk1 {a m : Bs} (h : chkM [a] [m] = 0) : okN a ∧ okN m ∧ m ≠ [] := by
 obtain ⟨h1, h2⟩ := chk_ok h
 exact ⟨h1 a (by simp), h1 m (by simp), fun e => h2 (by simp [e])⟩
theorem gcd_mod (a m : Nat) : Nat.gcd (a % m) m = Nat.gcd a m := by rw [Nat.gcd_comm, gcd_rec']
theorem inv_of_coef {a m : Nat} {X : Int} (hm : 0 < m) (h : ((a : Int) * X) % m = (1 : Int) % m) (h0 : 0 ≤ X) : invN a m = X.natAbs % m := by
 obtain ⟨x, rfl⟩ : ∃ x : Nat, X = x := ⟨X.toNat, by omega⟩
 rw [Int.natAbs_natCast]
 apply invN_eq (Nat.mod_lt _ hm)
 rw [mmr]
 exact_mod_cast h
theorem minv_c {a m : Bs} {w : World} :
  Cw 50 #[.string (S a), .string (S m)] w (NE (invM a m)) := by
 refine En [] [(0, .string (S a)), (1, .string (S m))] Tryz.func50 rfl Tryz.ntmps50 rfl (Ac rfl (Ac rfl (An _))) Fn ?_
 refine Cs (Ka rfl (Ka rfl (Nt (Cq (Cs (Km rfl ?_))))))
 refine Kh rfl (og_bs1 rfl rfl u31 (by kernel_rfl : _ = some (some (.string (S [])), 1, 16)) rfl (by simp only [List.map]; rfl) rfl rfl ?_ (by decide)) ?_
 ·simp [Value.cells]
 intro b12
 refine Km rfl ?_
 refine Kh rfl (og_bs1 rfl rfl u31 (by kernel_rfl : _ = some (some (.string (S [])), 1, 16)) rfl (by simp only [List.map]; rfl) rfl rfl ?_ (by decide)) ?_
 ·simp [Value.cells]
 intro b14
 refine Ku rfl (Oc rfl rfl (Kv fun w hS => check_c (l := [a]) (ms := [m]) (by (exact hS.os)) (by (exact hS.os)) (by (simp <;> omega)) (by (simp <;> omega)) (by (simp <;> omega)) (by (simp <;> omega)))) ?_
 refine Ka rfl (Nt (Cs (Km rfl (Kq rfl (rd_neq rfl rfl rfl) (Nt ?_)))))
 refine Cd rfl (fun hc17 => ?_) (fun hc17 => ?_)
 ·(try simp only [sB] at hc17)
  have hr : invM a m = ([], chkM [a] [m]) := by rw [invM, if_neg (by simpa using hc17)]
  refine Cs (Km rfl (Ka rfl (Ka rfl (Nt (Ce (Xb ?_))))))
  exact R2 rfl rfl rfl (by rw [hr]; rfl)
 ·(try simp only [sB] at hc17)
  have h0 : chkM [a] [m] = 0 := by simpa using hc17
  obtain ⟨ha, hm, hm0⟩ := chk1 h0
  have hp := vpos hm hm0
  have hmB := okN_val hm
  have hak : okN (canon (val a % val m)) := okN_can (by have := Nat.mod_lt (val a) hp; omega)
  have hvk : val (canon (val a % val m)) = val a % val m := val_canon _
  refine Ck (Xa (Cs (Km rfl (Km rfl ?_))))
  refine Ku rfl (Oc rfl rfl (Kv fun w hS => reduced_c (a := a) (m := m) (by exact ha) (by exact hm) (by exact hm0))) ?_
  refine Km rfl ?_
  refine Kh rfl (Oc rfl rfl (keep_ff fun w hS => zext_c (a := canon (val a % val m)) (b := m) (by exact hak) (by exact hm) (by exact hm0))) ?_
  rintro ⟨X24, Y24⟩
  refine WL.pu ?_
  intro hg24; (try dsimp only [List.cons_append, List.nil_append] at hg24 ⊢)
  refine Km rfl (Kq rfl (Re rfl rfl rfl) (Kq rfl (Re rfl rfl rfl) (Kq rfl (Re rfl rfl rfl) (Kq rfl (Re rfl rfl rfl) ?_))))
  refine Kh rfl (Oz [.bool false, .string (S [])] rfl) ?_
  intro b8
  refine Kh rfl (Oz [.bool false, .string (S [])] rfl) ?_
  intro b9
  refine Ka rfl ?_
  refine Nu rfl rfl (Sa rfl rfl rfl .tc) ?_
  refine Nu rfl rfl (Sa rfl rfl rfl .tc) ?_
  refine Ka rfl (Nt (Cq (Cs (Km rfl (Kq rfl (rd_neq rfl rfl rfl) (Nt ?_))))))
  refine Cd rfl (fun hc30 => by exfalso; (try simp only [sB] at hc30); exact hc30 trivial) (fun hc30 => ?_)
  (try simp only [sB] at hc30)
  refine Ck (Xa (Cq (Cs (Km rfl (Kq rfl (rd_sne rfl rfl rfl) (Nt ?_))))))
  refine Cd rfl (fun hc33 => ?_) (fun hc33 => ?_)
  ·(try simp only [sB] at hc33)
   have hr : invM a m = ([], 9) := by
    have h1 : ¬ Nat.gcd (val a) (val m) = 1 := fun h => by
     rw [hvk, gcd_mod, h, one_canon] at hc33; exact hc33 rfl
    rw [invM, if_pos h0, if_neg h1]
   refine Cs (Ka rfl (Ka rfl (Nt (Ce (Xb ?_)))))
   exact R2 rfl rfl rfl (by rw [hr]; rfl)
  ·(try simp only [sB] at hc33)
   have hg1 : Nat.gcd (val a) (val m) = 1 := by
    rw [hvk, gcd_mod] at hc33; exact canon_one.1 (by simpa using hc33)
   obtain ⟨hq1, hq2, hq3⟩ := hg24
   rw [hvk, gcd_mod, hg1] at hq1
   rw [hvk, gcd_mod] at hq2
   have hiv := inv_of_coef hp hq1 (hq2 hg1)
   rw [invN_mod] at hiv
   have hr : invM a m = (canon (invN (val a) (val m)), 0) := by rw [invM, if_pos h0, if_pos hg1]
   have hXa : (ofZ X24).2 = canon X24.natAbs := by rw [ofZ_eq]
   refine Ck (Xa (Cs (Kq rfl (Fa (q := 1) rfl rfl u50 rfl rfl) (Kq rfl (Ld rfl rfl .tc u22) ?_))))
   refine Km rfl ?_
   refine Ku rfl (Oc rfl rfl (Kv fun w hS => reduced_c (a := (ofZ X24).2) (m := m) (by rw [hXa]; exact okN_can hq3) (by exact hm) (by exact hm0))) ?_
   refine Ka rfl (Ka rfl (Nt (Ce ?_)))
   exact R2 rfl rfl rfl (by rw [hr, hiv, hXa, val_canon]; rfl)
theorem rinv_c {a m : Bs} {w : World} :
  Cw 199 #[.string (S a), .string (S m)] w (NE (invM a m)) := by
 refine En [] [(0, .string (S a)), (1, .string (S m))] Tryz.func199 rfl Tryz.ntmps199 rfl (Ac rfl (Ac rfl (An _))) Fn ?_
 refine Cs (Ka rfl (Ka rfl (Nt (Cq (Cs (Km rfl (Km rfl ?_)))))))
 refine Kh rfl (og_bs1 rfl rfl u31 (by kernel_rfl : _ = some (some (.string (S [])), 1, 16)) rfl (by simp only [List.map]; rfl) rfl rfl ?_ (by decide)) ?_
 ·simp [Value.cells]
 intro b15
 refine Ku rfl (Oc rfl rfl (Kv fun w hS => rcheck_c (l := [a]) (m := m) (by (exact hS.os)) (by (simp <;> omega)))) ?_
 refine Ka rfl (Nt (Cs (Km rfl (Kq rfl (rd_neq rfl rfl rfl) (Nt ?_)))))
 refine Cd rfl (fun hc18 => ?_) (fun hc18 => ?_)
 ·(try simp only [sB] at hc18)
  have hr : invM a m = ([], chkM [a] [m]) := by rw [invM, if_neg (by simpa using hc18)]
  refine Cs (Km rfl (Ka rfl (Ka rfl (Nt (Ce (Xb ?_))))))
  exact R2 rfl rfl rfl (by rw [hr]; rfl)
 ·(try simp only [sB] at hc18)
  have h0 : chkM [a] [m] = 0 := by simpa using hc18
  obtain ⟨ha, hm, hm0⟩ := chk1 h0
  have hp := vpos hm hm0
  have hmB := okN_val hm
  have hB1 : 1 < Big := Nat.lt_of_lt_of_le (by decide) big64
  have hak : okN (canon (val a % val m)) := okN_can (by have := Nat.mod_lt (val a) hp; omega)
  have hvk : val (canon (val a % val m)) = val a % val m := val_canon _
  obtain ⟨X, hX⟩ : ∃ X : Int, X = (bezI (val a % val m) (val m)).1 := ⟨_, rfl⟩
  have hbz := bez_eq (val m) (val a % val m)
  rw [gcd_mod, ← hX] at hbz
  refine Ck (Xa (Cs (Km rfl (Km rfl ?_))))
  refine Ku rfl (Oc rfl rfl (Kv fun w hS => rmod_c (a := a) (m := m) (by exact ha) (by exact hm) (by exact hm0))) ?_
  refine Km rfl ?_
  refine Kh rfl (Oc rfl rfl (keep_ff fun w hS => rext_c (a := canon (val a % val m)) (b := m) (by exact hak) (by exact hm) (by exact hm0))) ?_
  rintro Y25
  refine WL.pu ?_
  intro hg25; (try dsimp only [List.cons_append, List.nil_append] at hg25 ⊢)
  refine Km rfl (Kq rfl (Re rfl rfl rfl) (Kq rfl (Re rfl rfl rfl) (Kq rfl (Re rfl rfl rfl) (Kq rfl (Re rfl rfl rfl) ?_))))
  refine Kh rfl (Oz [.bool false, .string (S [])] rfl) ?_
  intro b8
  refine Kh rfl (Oz [.bool false, .string (S [])] rfl) ?_
  intro b9
  refine Ka rfl ?_
  refine Nu rfl rfl (Sa rfl rfl rfl .tc) ?_
  refine Nu rfl rfl (Sa rfl rfl rfl .tc) ?_
  refine Ka rfl (Nt (Cq (Cs (Km rfl ?_))))
  refine Ku rfl (Oc rfl rfl (Kv fun w hS => rof_c (n := 1) (by omega))) ?_
  refine Kq rfl (rd_sne rfl rfl rfl) (Nt ?_)
  refine Cd rfl (fun hc32 => ?_) (fun hc32 => ?_)
  ·(try simp only [sB] at hc32)
   have hr : invM a m = ([], 9) := by
    have h1 : ¬ Nat.gcd (val a) (val m) = 1 := fun h => by
     rw [hvk, gcd_mod, h] at hc32; exact hc32 rfl
    rw [invM, if_pos h0, if_neg h1]
   refine Cs (Ka rfl (Ka rfl (Nt (Ce (Xb ?_)))))
   exact R2 rfl rfl rfl (by rw [hr]; rfl)
  ·(try simp only [sB] at hc32)
   have hg1 : Nat.gcd (val a) (val m) = 1 := by
    rw [hvk, gcd_mod] at hc32; exact canon_inj.1 (by simpa using hc32)
   have hiv : invN (val a) (val m) = (X % (val m : Int)).toNat := by
    have h1 := Int.emod_nonneg X (b := (val m : Int)) (by omega)
    have h2 := Int.emod_lt_of_pos X (b := (val m : Int)) (by omega)
    have h3 := inv_of_coef (a := val a % val m) (X := X % (val m : Int)) hp (by
     rw [hg1] at hbz
     rw [Int.mul_emod, Int.emod_emod_of_dvd _ (Int.dvd_refl _), ← Int.mul_emod]
     have e : ((val a % val m : Nat) : Int) * X = 1 + val m * (-(bezI (val a % val m) (val m)).2) := by rw [Int.mul_neg]; omega
     rw [e, Int.add_mul_emod_self_left]) h1
    rw [invN_mod] at h3
    rw [h3, Nat.mod_eq_of_lt (by omega)]; omega
   have hr : invM a m = (canon (X % (val m : Int)).toNat, 0) := by rw [invM, if_pos h0, if_pos hg1, hiv]
   have hXl : (X % (val m : Int)).toNat < val m := by have h2 := Int.emod_lt_of_pos X (b := (val m : Int)) (by omega); omega
   have hmz : modZ (ofZ (((X % (val m : Int)).toNat : Nat) : Int)) m = (canon (X % (val m : Int)).toNat, 0) := by
    have hd := dm_rest (n := (((X % (val m : Int)).toNat : Nat) : Int)) (m := val m) (by omega) hmB hp
    rw [modZ, if_pos ⟨okZ_ofZ.2 (by omega), hm⟩, fromZ_ok hm]
    rw [ok_canon hm] at hd
    rw [hd.1, hd.2, Int.emod_eq_of_lt (by omega) (by omega), Int.toNat_natCast]
   refine Ck (Xa (Cs ?_))
   refine Kq rfl (lda rfl rfl .tc u50 rfl ?_) ?_
   ·kernel_rfl
   refine Km rfl ?_
   refine Ku rfl (Oc rfl rfl (Kv fun w hS => (by have := rzmod_c (w := w) (x := ofZ (((X % (val m : Int)).toNat : Nat) : Int)) (m := m); rw [hmz] at this; rw [hvk, gcd_mod, hg1, Nat.div_one, ← hX]; exact this))) ?_
   refine Km rfl (Kq rfl (Re rfl rfl rfl) (Kq rfl (Re rfl rfl rfl) (Ka rfl (Ka rfl (Nt (Cs (Km rfl (Ka rfl (Ka rfl (Nt (Ce ?_)))))))))))
   exact R2 rfl rfl rfl (by rw [hr]; rfl)
def powM (a : Bs) (x : Zs) (m : Bs) : Bs × Int :=
 if okN a ∧ okZ x ∧ okN m then (if m = [] then ([], 11) else if x.1 = true then (if Nat.gcd (val a) (val m) = 1 then (canon (invN (val a) (val m) ^ val x.2 % val m), 0) else ([], 9)) else (canon (val a ^ val x.2 % val m), 0)) else ([], 3)
theorem invM_ok {a m : Bs} (ha : okN a) (hm : okN m) (hm0 : m ≠ []) : invM a m = if Nat.gcd (val a) (val m) = 1 then (canon (invN (val a) (val m)), 0) else ([], 9) := by
 rw [invM, if_pos (chk_zero (by intro x hx; simp at hx; rcases hx with rfl | rfl <;> assumption) (by simpa using fun h => hm0 h))]
theorem rpower_c {a : Bs} {x : Zs} {m : Bs} {w : World} (hm8 : m.length ≤ 8) :
  Cw 158 #[.string (S a), zV x, .string (S m)] w (NE (powM a x m)) := by
 refine En [] [(0, .string (S a)), (1, zV x), (2, .string (S m))] Tryz.func158 rfl Tryz.ntmps158 rfl (Ac rfl (Ac rfl (Ac rfl (An _)))) Fn ?_
 refine Cs ?_
 refine Kh rfl (Oy rfl rfl) ?_
 intro b4
 refine Ka rfl (Ka rfl (Nt (Cq ?_)))
 refine WC.joinP (σ := Unit) [(0, _), (2, _), (4, _)] (fun gq => [(22, .bool (decide (¬ (okN a ∧ okZ x ∧ okN m))))]) (fun gq => True) (S3 rfl rfl rfl) ?_ ?_
 ·skip
  refine Cg (Km rfl ?_)
  refine Ku rfl (Oc rfl rfl (Kv fun w hS => rvalid_c (a := a))) ?_
  refine Kq rfl (Rt rfl rfl) (Km rfl ?_)
  refine Nb 13 rfl (fun hg13 => ?_) (fun hg13 => ?_)
  ·(try simp only [sB] at hg13)
   refine Kt rfl (Kt rfl (Kt rfl (Kq rfl (Rp rfl rfl rfl) (Km rfl (Kt rfl (Kt rfl (Kt rfl (Kq rfl (Rp rfl rfl rfl) (Nn ?_)))))))))
   refine WX.joinP (()) (S3 rfl rfl rfl) (by refine (Sc ?_ (S0 _)) <;> ((refine slot_b rfl ?_; (try dsimp only); (simp [*]; done)))) ?_ (by (exact fun _ h => h))
   (try dsimp only)
   done
  ·(try simp only [sB] at hg13)
   refine Kq rfl (lda rfl rfl .tc u50 rfl ?_) ?_
   ·kernel_rfl
   refine Ku rfl (Oc rfl rfl (Kv fun w hS => rzvalid_c (x := x))) ?_
   refine Kq rfl (Rt rfl rfl) (Kq rfl (Rq rfl rfl rfl) (Km rfl ?_))
   refine Nb 18 rfl (fun hg18 => ?_) (fun hg18 => ?_)
   ·(try simp only [sB] at hg18)
    refine Kt rfl (Kt rfl (Kt rfl (Kq rfl (Rp rfl rfl rfl) (Nn ?_))))
    refine WX.joinP (()) (S3 rfl rfl rfl) (by refine (Sc ?_ (S0 _)) <;> ((refine slot_b rfl ?_; (try dsimp only); (simp [*]; done)))) ?_ (by (exact fun _ h => h))
    (try dsimp only)
    done
   ·(try simp only [sB] at hg18)
    refine Km rfl ?_
    refine Ku rfl (Oc rfl rfl (Kv fun w hS => rvalid_c (a := m))) ?_
    refine Kq rfl (Rt rfl rfl) (Kq rfl (Rq rfl rfl rfl) (Nn ?_))
    refine WX.joinP (()) (S3 rfl rfl rfl) (by refine (Sc ?_ (S0 _)) <;> ((refine slot_b rfl ?_; (try dsimp only); (simp [*]; done)))) ?_ (by (exact fun _ h => h))
    (try dsimp only)
    done
 ·rintro _ hmeet; (try dsimp only at hmeet ⊢)
  refine Cd rfl (fun hc22 => ?_) (fun hc22 => ?_)
  ·(try simp only [sB] at hc22)
   have hr : powM a x m = ([], 3) := by rw [powM, if_neg hc22]
   refine Cs (Ka rfl (Ka rfl (Nt (Ce (Xb ?_)))))
   exact R2 rfl rfl rfl (by rw [hr]; rfl)
  ·(try simp only [sB] at hc22)
   have hok : okN a ∧ okZ x ∧ okN m := by simpa using hc22
   refine Ck (Xa (Cq (Cs (Km rfl (Kq rfl (rd_seq rfl rfl rfl) (Nt ?_))))))
   refine Cd rfl (fun hc24 => ?_) (fun hc24 => ?_)
   ·(try simp only [sB] at hc24)
    have hr : powM a x m = ([], 11) := by rw [powM, if_pos hok, if_pos (by simpa using hc24)]
    refine Cs (Ka rfl (Ka rfl (Nt (Ce (Xb ?_)))))
    exact R2 rfl rfl rfl (by rw [hr]; rfl)
   ·(try simp only [sB] at hc24)
    have hm0 : m ≠ [] := by simpa using hc24
    have hp := vpos hok.2.2 hm0
    have hin := invM_ok hok.1 hok.2.2 hm0
    have hmB := okN_val hok.2.2
    have hik : okN (canon (invN (val a) (val m))) := okN_can (by have := invN_lt (val a) hp; omega)
    refine Ck (Xa (Cq (Cs (Kq rfl (Fa (q := 0) rfl rfl u50 rfl rfl) (Kq rfl (Ld rfl rfl .tc u4) ?_)))))
    refine Nt ?_
    refine Cd rfl (fun hc26 => ?_) (fun hc26 => ?_)
    ·(try simp only [sB] at hc26)
     have hneg : x.1 = true := by simpa using hc26
     refine Cs (Km rfl (Km rfl ?_))
     refine Ku rfl (Oc rfl rfl (Kv fun w hS => rinv_c (a := a) (m := m))) ?_
     refine Km rfl (Kq rfl (Re rfl rfl rfl) (Kq rfl (Re rfl rfl rfl) (Ka rfl (Ka rfl (Nt (Cq (Cs (Km rfl (Kq rfl (rd_neq rfl rfl rfl) (Nt ?_))))))))))
     refine Cd rfl (fun hc34 => ?_) (fun hc34 => ?_)
     ·(try simp only [sB] at hc34)
      have hg : ¬ Nat.gcd (val a) (val m) = 1 := fun h => hc34 (by rw [hin, if_pos h])
      have hr : powM a x m = ([], 9) := by rw [powM, if_pos hok, if_neg hm0, if_pos hneg, if_neg hg]
      refine Cs (Km rfl (Ka rfl (Ka rfl (Nt (Ce (Xb (Xb ?_)))))))
      exact R2 rfl rfl rfl (by rw [hr, hin, if_neg hg]; rfl)
     ·(try simp only [sB] at hc34)
      have hg : Nat.gcd (val a) (val m) = 1 := Decidable.byContradiction fun h => by rw [hin, if_neg h] at hc34; simp at hc34
      have hr : powM a x m = (canon (invN (val a) (val m) ^ val x.2 % val m), 0) := by rw [powM, if_pos hok, if_neg hm0, if_pos hneg, if_pos hg]
      have hi1 : (invM a m).1 = canon (invN (val a) (val m)) := by rw [hin, if_pos hg]
      rw [hi1]
      refine Ck (Xa (Cg (Km rfl (Ka rfl (Nt (Cs (Km rfl (Kq rfl (Fa (q := 1) rfl rfl u50 rfl rfl) (Kq rfl (Ld rfl rfl .tc u22) ?_)))))))))
      refine Km rfl ?_
      refine Ku rfl (Oc rfl rfl (Kv fun w hS => rraise_c (by (exact hik)) (by exact hok.2.1.1) (by exact hok.2.2) (by exact hm0) (by exact hm8))) ?_
      refine Ka rfl (Ka rfl (Nt (Ce ?_)))
      exact R2 rfl rfl rfl (by rw [hr]; (try rw [val_canon]); rfl)
    ·(try simp only [sB] at hc26)
     have hnn : ¬ x.1 = true := by simpa using hc26
     have hr : powM a x m = (canon (val a ^ val x.2 % val m), 0) := by rw [powM, if_pos hok, if_neg hm0, if_neg hnn]
     refine Ck (Xa (Cs (Km rfl (Kq rfl (Fa (q := 1) rfl rfl u50 rfl rfl) (Kq rfl (Ld rfl rfl .tc u22) ?_)))))
     refine Km rfl ?_
     refine Ku rfl (Oc rfl rfl (Kv fun w hS => rraise_c (by (exact hok.1)) (by exact hok.2.1.1) (by exact hok.2.2) (by exact hm0) (by exact hm8))) ?_
     refine Ka rfl (Ka rfl (Nt (Ce ?_)))
     exact R2 rfl rfl rfl (by rw [hr]; (try rw [val_canon]); rfl)
abbrev zc (z : Zs) : List Value := [.bool z.1, .string (S z.2)]
abbrev ints (l : List Zs) : List Value := l.flatMap zc
def chkP (g : Gp) (l : List Bs) (es : List Zs) (same : Bool) : Int :=
 if ¬ (∀ x ∈ l, okN x) then 3 else if ¬ (∀ x ∈ es, okZ x) then 3 else if chkG g ≠ 0 then chkG g else if same = false then 6 else if ¬ (∀ x ∈ l, elG g x) then 13 else 0
theorem checked_c {g : Gp} {l : List Bs} {es : List Zs} {same : Bool} {a b : Option Addr} {c d : Nat} {w : World} {ok : Nat → Prop} (hF1 : (Fact.sl a (strs l)).holds ok w) (hF2 : (Fact.sl b (ints es)).holds ok w) (hl : l.length ≤ 1000000) (hes : es.length ≤ 1000000) (hm8 : g.1.length ≤ 8) :
  Cw 49 #[gV g, .slice a l.length c, .slice b es.length d, .bool same] w (.int .i64 (chkP g l es same)) := by
 refine En [Fact.sl a (strs l), Fact.sl b (ints es)] [(0, gV g), (1, .slice a l.length c), (2, .slice b es.length d), (3, .bool same)] Tryz.func49 rfl Tryz.ntmps49 rfl (Ac rfl (Ac rfl (Ac rfl (Ac rfl (An _))))) (Fc (fact_any hF1) (Fc (fact_any hF2) Fn)) ?_
 refine Cs ?_
 refine Kh rfl (Oy rfl rfl) ?_
 intro b4
 refine Ka rfl (Nt (Cq (Cs (Km rfl (Kq rfl (rd_len rfl rfl u31) (Km rfl (Nt (Cb ?_))))))))
 refine Lp (σ := Nat) [(1, _), (2, _), (3, _), (4, _), (16, _), (17, _)] (fun gq => [(18, .int .i64 (gq : Int))]) (fun gq => gq ≤ l.length ∧ ∀ x ∈ l.take gq, okN x) (fun gq => l.length - gq) (0) (S6 rfl rfl rfl rfl rfl rfl) (S1 rfl) (by (try dsimp only); exact ⟨Nat.zero_le _, by simp⟩) ?_
 rintro i hinv1; (try dsimp only at hinv1 ⊢)
 obtain ⟨hi, hok⟩ := hinv1
 refine Cs (Kq rfl (rd_lss rfl rfl rfl) (Nt (Cq ?_)))
 refine Cd rfl (fun hc19 => ?_) (fun hc19 => ?_)
 ·(try simp only [sB] at hc19)
  have hil : i < l.length := by omega
  refine Ck (Xa (Cq (Cb (Cs ?_))))
  refine Kq rfl (Ib rfl rfl rfl u31 (by omega) (by (rw [List.length_map]; omega))) ?_
  refine Kq rfl (ldm rfl rfl u22 rfl (by assumption)) ?_
  refine Ka rfl (Nt (Cs (Km rfl ?_)))
  refine Ku rfl (Oc rfl rfl (Kv fun w hS => valid_c (a := l.getD i default))) ?_
  refine Kq rfl (Rt rfl rfl) (Nt ?_)
  refine Cd rfl (fun hc24 => ?_) (fun hc24 => ?_)
  ·(try simp only [sB] at hc24)
   refine Cs (Ka rfl (Nt (Ce (Xf (Xb (Xb (Xf (Xb ?_))))))))
   exact R1 rfl rfl (by rw [chkP, if_pos (fun h => absurd (h _ (getD_mem _ _ hil)) (by simpa using hc24))]; rfl)
  ·(try simp only [sB] at hc24)
   refine Ck (Xd (Xa (Cg (Kq rfl (Rz rfl rfl rfl (by omega)) (Km rfl (Nn ?_))))))
   refine Ly (i + 1) (by (try dsimp only); omega) (S6 rfl rfl rfl rfl rfl rfl) (by refine (Sc ?_ (S0 _)) <;> (rfl)) ?_ (by (exact fun _ h => h))
   (try dsimp only)
   exact ⟨hil, all_take hil hok (by simpa using hc24)⟩
 ·(try simp only [sB] at hc19)
  refine Cx (Xc (Xc (Xe ?_)))
  obtain rfl : i = l.length := by omega
  rw [List.take_length] at hok
  refine Xa (Cq (Cs (Km rfl (Kq rfl (rd_len rfl rfl u54) (Km rfl (Nt (Cb ?_)))))))
  refine Lo (σ := Nat) [(1, _), (3, _), (4, _), (26, _), (27, _)] (fun gq => [(28, .int .i64 (gq : Int))]) (fun gq => gq ≤ es.length ∧ ∀ x ∈ es.take gq, okZ x) (fun gq => es.length - gq) (fun gq => [⟨some b4, [.string (S g.1), .string (S g.2)], 26⟩]) (fun gq => [Fact.sl a (strs l), Fact.sl b (ints es)]) (0) (S5 rfl rfl rfl rfl rfl) (S1 rfl) (by (try dsimp only); exact ⟨Nat.zero_le _, by simp⟩) (by (exact fun _ h => h)) ?_
  rintro k hinv2; (try dsimp only at hinv2 ⊢)
  obtain ⟨hk, hokz⟩ := hinv2
  refine Cs (Kq rfl (rd_lss rfl rfl rfl) (Nt (Cq ?_)))
  refine Cd rfl (fun hc29 => ?_) (fun hc29 => ?_)
  ·(try simp only [sB] at hc29)
   have hkl : k < es.length := by omega
   refine Ck (Xa (Cq (Cb (Cs ?_))))
   refine Kq rfl (Ia rfl rfl rfl u54 (by kernel_rfl : _ = some 2) (by omega) (by (rw [flatMap_len _ _ 2 (fun _ => rfl)]; omega))) ?_
   refine Kq rfl (ldma _ rfl rfl u50 rfl (by kernel_rfl : _ = some 2) (fun _ => rfl) (by decide) rfl (by assumption)) ?_
   refine Kh rfl (Oz [.bool false, .string (S [])] rfl) ?_
   intro b12
   refine Nu rfl rfl (Sa rfl rfl rfl .tc) ?_
   refine Nt (Cs ?_)
   refine Kq rfl (lda rfl rfl .tc u50 rfl ?_) ?_
   ·kernel_rfl
   refine Ku rfl (Oc rfl rfl (Kv fun w hS => zvalid_c (x := es.getD k default))) ?_
   refine Kq rfl (Rt rfl rfl) (Nt ?_)
   refine Cd rfl (fun hc34 => ?_) (fun hc34 => ?_)
   ·(try simp only [sB] at hc34)
    refine Cs (Ka rfl (Nt (Ce (Xf (Xb (Xb (Xf (Xb ?_))))))))
    exact R1 rfl rfl (by rw [chkP, if_neg (fun h => h hok), if_pos (fun h => absurd (h _ (getD_mem _ _ hkl)) (by simpa using hc34))]; rfl)
   ·(try simp only [sB] at hc34)
    refine Ck (Xd (Xa (Cg (Kq rfl (Rz rfl rfl rfl (by omega)) (Km rfl (Nn ?_))))))
    refine Lx (k + 1) (by (try dsimp only); omega) (S5 rfl rfl rfl rfl rfl) (by refine (Sc ?_ (S0 _)) <;> (rfl)) ?_ (by (exact st_sub))
    (try dsimp only)
    exact ⟨hkl, all_take hkl hokz (by simpa using hc34)⟩
  ·(try simp only [sB] at hc29)
   refine Cx (Xc (Xc (Xe ?_)))
   obtain rfl : k = es.length := by omega
   rw [List.take_length] at hokz
   refine Xa (Cq (Cs ?_))
   refine Kq rfl (lda rfl rfl .tc u26 rfl ?_) ?_
   ·kernel_rfl
   refine Ku rfl (Oc rfl rfl (Kv fun w hS => pcheck_c (g := g))) ?_
   refine Ka rfl (Nt (Cs (Km rfl (Kq rfl (rd_neq rfl rfl rfl) (Nt ?_)))))
   refine Cd rfl (fun hc39 => ?_) (fun hc39 => ?_)
   ·(try simp only [sB] at hc39)
    refine Cs (Km rfl (Ka rfl (Nt (Ce (Xb ?_)))))
    exact R1 rfl rfl (by rw [chkP, if_neg (fun h => h hok), if_neg (fun h => h hokz), if_pos (by simpa using hc39)]; rfl)
   ·(try simp only [sB] at hc39)
    have hg : chkG g = 0 := by simpa using hc39
    refine Ck (Xa (Cq (Cs (Km rfl (Kq rfl (Rt rfl rfl) (Nt ?_))))))
    refine Cd rfl (fun hc42 => ?_) (fun hc42 => ?_)
    ·(try simp only [sB] at hc42)
     refine Cs (Ka rfl (Nt (Ce (Xb ?_))))
     exact R1 rfl rfl (by rw [chkP, if_neg (fun h => h hok), if_neg (fun h => h hokz), if_neg (fun h => h hg), if_pos (by simpa using hc42)]; rfl)
    ·(try simp only [sB] at hc42)
     refine Ck (Xa (Cq (Cs (Km rfl (Kq rfl (rd_len rfl rfl u31) (Km rfl (Nt (Cb ?_))))))))
     refine Lp (σ := Nat) [(4, _), (43, _), (44, _)] (fun gq => [(45, .int .i64 (gq : Int))]) (fun gq => gq ≤ l.length ∧ ∀ x ∈ l.take gq, elG g x) (fun gq => l.length - gq) (0) (S3 rfl rfl rfl) (S1 rfl) (by (try dsimp only); exact ⟨Nat.zero_le _, by simp⟩) ?_
     rintro i3 hinv3; (try dsimp only at hinv3 ⊢)
     obtain ⟨hi3, hel⟩ := hinv3
     refine Cs (Kq rfl (rd_lss rfl rfl rfl) (Nt (Cq ?_)))
     refine Cd rfl (fun hc46 => ?_) (fun hc46 => ?_)
     ·(try simp only [sB] at hc46)
      have hil3 : i3 < l.length := by omega
      refine Ck (Xa (Cq (Cb (Cs ?_))))
      refine Kq rfl (Ib rfl rfl rfl u31 (by omega) (by (rw [List.length_map]; omega))) ?_
      refine Kq rfl (ldm rfl rfl u22 rfl (by assumption)) ?_
      refine Ka rfl (Nt (Cs ?_))
      refine Kq rfl (lda rfl rfl .tc u26 rfl ?_) ?_
      ·kernel_rfl
      refine Km rfl ?_
      refine Ku rfl (Oc rfl rfl (Kv fun w hS => pwhas0_c (g := g) (x := l.getD i3 default) (by exact hg) (by exact hm8))) ?_
      refine Kq rfl (Rt rfl rfl) (Nt ?_)
      refine Cd rfl (fun hc52 => ?_) (fun hc52 => ?_)
      ·(try simp only [sB] at hc52)
       refine Cs (Ka rfl (Nt (Ce (Xf (Xb (Xb (Xf (Xb ?_))))))))
       exact R1 rfl rfl (by rw [chkP, if_neg (fun h => h hok), if_neg (fun h => h hokz), if_neg (fun h => h hg), if_neg (by simpa using hc42), if_pos (fun h => absurd (h _ (getD_mem _ _ hil3)) (by simpa using hc52))]; rfl)
      ·(try simp only [sB] at hc52)
       refine Ck (Xd (Xa (Cg (Kq rfl (Rz rfl rfl rfl (by omega)) (Km rfl (Nn ?_))))))
       refine Ly (i3 + 1) (by (try dsimp only); omega) (S3 rfl rfl rfl) (by refine (Sc ?_ (S0 _)) <;> (rfl)) ?_ (by (exact fun _ h => h))
       (try dsimp only)
       exact ⟨hil3, all_take hil3 hel (by simpa using hc52)⟩
     ·(try simp only [sB] at hc46)
      refine Cx (Xc (Xc (Xe ?_)))
      obtain rfl : i3 = l.length := by omega
      rw [List.take_length] at hel
      refine Xa (Cs (Ka rfl (Nt (Ce ?_))))
      exact R1 rfl rfl (by rw [chkP, if_neg (fun h => h hok), if_neg (fun h => h hokz), if_neg (fun h => h hg), if_neg (by simpa using hc42), if_neg (fun h => h hel)]; rfl)
theorem mulM_ok {a b m : Bs} (ha : okN a) (hb : okN b) (hm : okN m) (hm0 : m ≠ []) : mulM a b m = (canon (val a * val b % val m), 0) := by
 rw [mulM, if_pos (chk_zero (by intro y hy; simp at hy; rcases hy with rfl | rfl | rfl <;> assumption) (by simpa using fun h => hm0 h))]
theorem ptimes_c {p q : Nat} {out x : Bs} {g : Gp} {en : Ent} {rr : List Ent} {ok : Nat → Prop} {w0 : World} {fs : List Fact} {w : World} (hS0 : St ok w0 (⟨some p, [.string (S out)], 22⟩ :: en :: ⟨some q, [.string (S g.1), .string (S g.2)], 26⟩ :: rr) (fs) w) (ho : okN out) (ho8 : out.length ≤ 8) (hx : okN x) (hx8 : x.length ≤ 8) (hm : okN g.1) (hm0 : g.1 ≠ []) (hm8 : g.1.length ≤ 8) :
  Calls Tryz.prog 52 #[.string (S x), .pointer (some ⟨p, 0, none⟩), .pointer (some ⟨q, 0, none⟩)] w fun e w' => e = .returned (.tuple #[]) ∧ St ok w0 (⟨some p, [.string (S (canon (val out * val x % val g.1)))], 22⟩ :: en :: ⟨some q, [.string (S g.1), .string (S g.2)], 26⟩ :: rr) (fs) w' := by
 refine enter (S := St ok w0 (⟨some p, [.string (S out)], 22⟩ :: en :: ⟨some q, [.string (S g.1), .string (S g.2)], 26⟩ :: rr) (fs)) (L := [(0, .string (S x)), (1, .pointer (some ⟨p, 0, none⟩)), (2, .pointer (some ⟨q, 0, none⟩))]) Tryz.func52 rfl Tryz.ntmps52 rfl (Ac rfl (Ac rfl (Ac rfl (An _)))) hS0 ?_
 refine Cg (Kq rfl (Ld rfl rfl .tc u22) ?_)
 refine Km rfl ?_
 (refine Kq rfl (rd_fa rfl rfl u26 rfl (by kernel_rfl) (by (try simp only [sN, Int.reduceToNat, Nat.reduceAdd, Nat.reduceMul, Nat.reduceSub]); rfl)) ?_)
 refine Kq rfl (Ld rfl rfl .tc u22) ?_
 refine Ku rfl (Oc rfl rfl (Kv fun w hS => (by have := mmul_c (w := w) (a := out) (b := x) (m := g.1) ho8 hx8 hm8; rw [mulM_ok ho hx hm hm0] at this; exact this))) ?_
 refine Km rfl (Kq rfl (Re rfl rfl rfl) (Kq rfl (Re rfl rfl rfl) ?_))
 refine Ng rfl rfl (st rfl rfl rfl .tc (by kernel_rfl) rfl ?_ (by (simp only [List.set_cons_zero, List.set_cons_succ]; rfl))) ?_
 ·(simp; done)
 intro _
 refine Nn ?_
 refine WX.ret_normal ?_
 exact Rn rfl .nil fun w' hS => ⟨by rfl, by (exact hS)⟩
theorem elG_gcd {g : Gp} {x : Bs} (hg : chkG g = 0) (h : elG g x) : Nat.gcd (val x) (val g.1) = 1 := by
 obtain ⟨h1, h2, h3, h4, h5⟩ := chkG_ok hg
 obtain ⟨_, _, _, h6⟩ := h
 split at h6
 ·exact h6
 ·rename_i hq
  obtain ⟨h7, _⟩ := h5 hq
  refine unit_gcd (x := val x ^ (val g.2 - 1)) ?_
  rw [Nat.mul_comm, ← Nat.pow_succ, show (val g.2 - 1).succ = val g.2 by omega, h6, Nat.mod_eq_of_lt (by omega)]
theorem elG_len {g : Gp} {x : Bs} (h : elG g x) (hm8 : g.1.length ≤ 8) : x.length ≤ 8 := by
 rw [← ok_canon h.1]; exact canon_len_le.2 (Nat.lt_trans h.2.2.1 (val_8 hm8))
def bsB (m : Nat) (p : Bs × Zs) : Bs := if p.2.1 = true then canon (invN (val p.1) m) else p.1
def prodS (g : Gp) (l : List Bs) (es : List Zs) : Bs × Int :=
 if chkP g l es (decide (l.length = es.length)) = 0 then (canon (prodL (fun p => powI (val g.1) (val p.1) (zv p.2)) (l.zip es) % val g.1), 0) else ([], chkP g l es (decide (l.length = es.length)))
theorem chkP_ok {g : Gp} {l : List Bs} {es : List Zs} {s : Bool} (h : chkP g l es s = 0) : (∀ x ∈ l, okN x) ∧ (∀ x ∈ es, okZ x) ∧ chkG g = 0 ∧ s = true ∧ (∀ x ∈ l, elG g x) := by
 unfold chkP at h
 split at h
 ·simp at h
 ·rename_i h1
  split at h
  ·simp at h
  ·rename_i h2
   split at h
   ·rename_i h3; exact absurd h h3
   ·rename_i h3
    split at h
    ·simp at h
    ·rename_i h4
     split at h
     ·simp at h
     ·rename_i h5; exact ⟨Decidable.not_not.1 h1, Decidable.not_not.1 h2, Decidable.not_not.1 h3, by simpa using h4, Decidable.not_not.1 h5⟩
theorem okZ_neg {x : Zs} (h : okZ x) : zv x < 0 ↔ x.1 = true := by
 obtain ⟨s, a⟩ := x
 cases s with
 | false => simp [zv]
 | true =>
  have h0 : val a ≠ 0 := fun h0 => h.2 ⟨rfl, (val_eq_zero h.1.2).1 h0⟩
  simp [zv]; omega
theorem zv_abs (x : Zs) : (zv x).natAbs = val x.2 := by
 obtain ⟨s, a⟩ := x; cases s <;> simp [zv]
theorem powI_bs {m : Nat} {p : Bs × Zs} (h : okZ p.2) : powI m (val p.1) (zv p.2) = val (bsB m p) ^ val p.2.2 % m := by
 rw [powI, bsB, zv_abs]
 by_cases h1 : p.2.1 = true
 ·rw [if_pos ((okZ_neg h).2 h1), if_pos h1, val_canon]
 ·rw [if_neg (fun h2 => h1 ((okZ_neg h).1 h2)), if_neg h1]
theorem prodL_map {α β : Type} (f : β → Nat) (k : α → β) : ∀ l : List α, prodL f (l.map k) = prodL (fun x => f (k x)) l
 | [] => rfl
 | x :: l => by rw [List.map_cons, prodL, prodL, prodL_map f k l]
def prsP (m : Nat) (l : List (Bs × Zs)) : List (Nat × Nat) := l.map fun p => (val (bsB m p), val p.2.2)
theorem prs_end {m : Nat} {l : List (Bs × Zs)} (h : ∀ p ∈ l, okZ p.2) : prodL (atBit 0) (prsP m l) % m = prodL (fun p => powI m (val p.1) (zv p.2)) l % m := by
 rw [prsP, prodL_map]
 apply prodL_mod
 intro p hp
 rw [powI_bs (h p hp), atBit, Nat.pow_zero, Nat.div_one, Nat.mod_mod]
theorem prs_start {m n : Nat} {l : List (Bs × Zs)} (h : ∀ p ∈ l, bitsN p.2.2 ≤ n) : prodL (atBit n) (prsP m l) = 1 := by
 apply prodL_one
 intro p hp
 obtain ⟨q, hq, rfl⟩ := List.mem_map.1 hp
 rw [atBit, Nat.div_eq_of_lt (Nat.lt_of_lt_of_le (val_bits _) (Nat.pow_le_pow_right (by decide) (h q hq))), Nat.pow_zero]
theorem getD_zip {l : List Bs} {es : List Zs} {i : Nat} (h1 : i < l.length) (h2 : i < es.length) : (l.zip es).getD i default = (l.getD i default, es.getD i default) := by
 simp only [List.getD_eq_getElem?_getD, List.getElem?_zip_eq_some, List.getElem?_eq_getElem h1, List.getElem?_eq_getElem h2, List.getElem?_eq_getElem (show i < (l.zip es).length by simp; omega), List.getElem_zip, Option.getD_some]
theorem map_getD2 {α β : Type} [Inhabited α] [Inhabited β] (f : α → β) (l : List α) (i : Nat) (h : i < l.length) : (l.map f).getD i default = f (l.getD i default) := by
 simp [List.getD_eq_getElem?_getD, List.getElem?_eq_getElem h]
theorem strs_fill (l : List Bs) (i n : Nat) (h : i < l.length) (hn : i < n) : (strs (l.take i) ++ List.replicate (n - i) (Value.string (S []))).set i (Value.string (S (l.getD i default))) = strs (l.take (i + 1)) ++ List.replicate (n - (i + 1)) (Value.string (S [])) := by
 have hl : (strs (l.take i)).length = i := by simp [strs]; omega
 rw [List.set_append_right _ _ (by omega), hl, Nat.sub_self, show n - i = (n - (i + 1)) + 1 by omega, List.replicate_succ, List.set_cons_zero]
 have e : l.take (i + 1) = l.take i ++ [l.getD i default] := by
  rw [List.take_add_one, List.getElem?_eq_getElem h, List.getD_eq_getElem?_getD, List.getElem?_eq_getElem h]; rfl
 rw [e]; simp [strs]
theorem lt_len {k : Nat} {m : Bs} (h : k < val m) (hm8 : m.length ≤ 8) : okN (canon k) ∧ (canon k).length ≤ 8 := by
 have h8 : (canon k).length ≤ 8 := canon_len_le.2 (Nat.lt_trans h (val_8 hm8))
 exact ⟨⟨by omega, can_canon _⟩, h8⟩
theorem prodL_succ {α : Type} [Inhabited α] (f : α → Nat) (l : List α) (k : Nat) (h : k < l.length) : prodL f (l.take (k + 1)) = prodL f (l.take k) * f (l.getD k default) := by
 rw [List.take_add_one, List.getElem?_eq_getElem h, prodL_append, List.getD_eq_getElem?_getD, List.getElem?_eq_getElem h]
 simp [prodL]
def selB (n : Nat) (p : Nat × Nat) : Nat := if p.2 / 2 ^ n % 2 = 1 then p.1 else 1
theorem pproduct_c {g : Gp} {l : List Bs} {es : List Zs} {a b : Option Addr} {c d : Nat} {w : World} {ok : Nat → Prop} (hF1 : (Fact.sl a (strs l)).holds ok w) (hF2 : (Fact.sl b (ints es)).holds ok w) (hl : l.length ≤ 100000) (hes : es.length ≤ 100000) (hm8 : g.1.length ≤ 8) :
  Cw 16 #[gV g, .slice a l.length c, .slice b es.length d] w (NE (prodS g l es)) := by
 refine En [Fact.sl a (strs l), Fact.sl b (ints es)] [(0, gV g), (1, .slice a l.length c), (2, .slice b es.length d)] Tryz.func16 rfl Tryz.ntmps16 rfl (Ac rfl (Ac rfl (Ac rfl (An _)))) (Fc (fact_any hF1) (Fc (fact_any hF2) Fn)) ?_
 refine Cs ?_
 refine Kh rfl (Oy rfl rfl) ?_
 intro b3
 refine Ka rfl (Ka rfl (Nt (Cq (Cs ?_))))
 refine Kq rfl (lda rfl rfl .tc u26 rfl ?_) ?_
 ·kernel_rfl
 refine Km rfl (Km rfl (Km rfl (Kq rfl (rd_len rfl rfl u31) (Km rfl (Kq rfl (rd_len rfl rfl u54) (Kq rfl (rd_eql rfl rfl rfl) ?_))))))
 refine Ns 27 rfl (v' := .bool (decide (l.length = es.length))) (congrArg Value.bool (by exact decide_eq_decide.2 (by omega))) ?_
 refine Ku rfl (Oc rfl rfl (Kv fun w hS => checked_c (g := g) (l := l) (es := es) (same := decide (l.length = es.length)) (by (exact hS.sl)) (by (exact hS.sl)) (by omega) (by omega) (by assumption))) ?_
 refine Ka rfl (Nt (Cs (Km rfl (Kq rfl (rd_neq rfl rfl rfl) (Nt ?_)))))
 refine Cd rfl (fun hc30 => ?_) (fun hc30 => ?_)
 ·(try simp only [sB] at hc30)
  have hr : prodS g l es = ([], chkP g l es (decide (l.length = es.length))) := by rw [prodS, if_neg (by simpa using hc30)]
  refine Cs (Km rfl (Ka rfl (Ka rfl (Nt (Ce (Xb ?_))))))
  exact R2 rfl rfl rfl (by rw [hr]; rfl)
 ·(try simp only [sB] at hc30)
  have h0 : chkP g l es (decide (l.length = es.length)) = 0 := by simpa using hc30
  obtain ⟨hok, hokz, hg, hsame, hel⟩ := chkP_ok h0
  have hlen : l.length = es.length := by simpa using hsame
  obtain ⟨hm, hq, hm2, _⟩ := chkG_ok hg
  have hm0 : g.1 ≠ [] := fun h => by rw [h] at hm2; exact absurd hm2 (by decide)
  have hp := vpos hm hm0
  have hm64 := val_8 hm8
  obtain ⟨Z, hZ⟩ : ∃ Z, Z = l.zip es := ⟨_, rfl⟩
  have hZl : Z.length = l.length := by rw [hZ]; simp; omega
  have hr : prodS g l es = (canon (prodL (fun p => powI (val g.1) (val p.1) (zv p.2)) Z % val g.1), 0) := by rw [prodS, if_pos h0, hZ]
  obtain ⟨B', hB'⟩ : ∃ B', B' = Z.map (bsB (val g.1)) := ⟨_, rfl⟩
  have hBl : B'.length = l.length := by rw [hB', List.length_map, hZl]
  refine Ck (Xa (Cs (Km rfl (Kq rfl (rd_len rfl rfl u31) ?_))))
  refine Kh rfl (og_mk rfl rfl rfl u31 (by kernel_rfl : _ = some (some (.string (S [])), 1, 16)) rfl ?_ (by (try simp only [sN, Int.reduceToNat, Nat.reduceAdd, Nat.reduceMul, Nat.reduceSub]); rfl) (by (try simp only [sN, Int.reduceToNat, Nat.reduceAdd, Nat.reduceMul, Nat.reduceSub]); rfl)) ?_
  ·omega
  intro b34
  refine Ka rfl (Nt (Cs (Ka rfl (Nt (Cq (Cs (Km rfl (Kq rfl (rd_len rfl rfl u31) (Km rfl (Nt (Cb ?_)))))))))))
  refine Lo (σ := Nat × Nat) [(2, _), (3, _), (9, _), (35, _), (36, _)] (fun gq => [(10, .int .i64 (gq.2 : Int)), (37, .int .i64 (gq.1 : Int))]) (fun gq => gq.1 ≤ l.length ∧ gq.2 ≤ 2000 ∧ ∀ p ∈ Z.take gq.1, bitsN p.2.2 ≤ gq.2) (fun gq => l.length - gq.1) (fun gq => [⟨some b34, strs (B'.take gq.1) ++ List.replicate (l.length - gq.1) (.string (S [])), 22⟩, ⟨some b3, [.string (S g.1), .string (S g.2)], 26⟩]) (fun gq => [Fact.sl a (strs l), Fact.sl b (ints es)]) (0, 0) (S5 rfl rfl rfl rfl rfl) (S2 rfl rfl) (by (try dsimp only); exact ⟨Nat.zero_le _, Nat.zero_le _, by simp⟩) (by (exact fun _ h => h)) ?_
  rintro ⟨i, most⟩ hinv1; (try dsimp only at hinv1 ⊢)
  obtain ⟨hi, hmo, hbt⟩ := hinv1
  refine Cs (Kq rfl (rd_lss rfl rfl rfl) (Nt (Cq ?_)))
  refine Cd rfl (fun hc38 => ?_) (fun hc38 => ?_)
  ·(try simp only [sB] at hc38)
   have hil : i < l.length := by omega
   have hie : i < es.length := by omega
   have hx := hel _ (getD_mem l i hil)
   have hz := hokz _ (getD_mem es i hie)
   have hiZ : i < Z.length := by omega
   have hZi : Z.getD i default = (l.getD i default, es.getD i default) := by rw [hZ]; exact getD_zip hil hie
   have hBi : B'.getD i default = bsB (val g.1) (l.getD i default, es.getD i default) := by rw [hB', map_getD2 _ _ _ hiZ, hZi]
   have hgc := elG_gcd hg hx
   have hiv := invM_ok hx.1 hm hm0
   rw [if_pos hgc] at hiv
   have hbl := bitsN_le hz.1.1
   refine Ck (Xa (Cq (Cb (Cs (Km rfl ?_)))))
   refine Kq rfl (Ib rfl rfl rfl u31 (by omega) (by (rw [List.length_map]; omega))) ?_
   refine Kq rfl (ldm rfl rfl u22 rfl (by assumption)) ?_
   refine Ka rfl (Ka rfl (Nt (Cs (Km rfl (Km rfl (Km rfl ?_))))))
   refine Kq rfl (Ja rfl rfl rfl u31 (by kernel_rfl : _ = some 1) (by omega)) ?_
   refine Ng rfl rfl (st rfl rfl rfl .tc (by kernel_rfl) rfl ?_ (by rfl)) ?_
   ·(simp <;> omega)
   intro _
   refine Nt (Cq (Cs (Km rfl (Km rfl ?_))))
   refine Kq rfl (Ia rfl rfl rfl u54 (by kernel_rfl : _ = some 2) (by omega) (by (rw [flatMap_len _ _ 2 (fun _ => rfl)]; omega))) ?_
   (refine Kq rfl (faf rfl rfl u50 rfl (by kernel_rfl) (by (try simp only [sN, Int.reduceToNat, Nat.reduceAdd, Nat.reduceMul, Nat.reduceSub]); rfl)) ?_)
   refine Kq rfl (ldmf (sz := 2) _ 0 rfl rfl u4 rfl (fun _ => rfl) rfl (by assumption) (by decide) rfl) ?_
   refine Nt ?_
   refine Cd rfl (fun hc50 => ?_) (fun hc50 => ?_)
   ·(try simp only [sB] at hc50)
    have hB2 : B'.getD i default = canon (invN (val (l.getD i default)) (val g.1)) := by rw [hBi]; exact if_pos (by simpa using hc50)
    refine Cs (Km rfl (Kq rfl (Fa (q := 0) rfl rfl u26 rfl rfl) (Kq rfl (Ld rfl rfl .tc u22) ?_)))
    refine Ku rfl (Oc rfl rfl (Kv fun w hS => (by have := minv_c (w := w) (a := l.getD i default) (m := g.1); rw [hiv] at this; exact this))) ?_
    refine Km rfl (Kq rfl (Re rfl rfl rfl) (Kq rfl (Re rfl rfl rfl) (Ka rfl (Ka rfl (Nt (Cq (Cs (Km rfl (Kq rfl (rd_neq rfl rfl rfl) (Nt ?_))))))))))
    refine Cd rfl (fun hc59 => by exfalso; (try simp only [sB] at hc59); exact hc59 trivial) (fun hc59 => ?_)
    (try simp only [sB] at hc59)
    refine Ck (Xa (Cg (Km rfl (Km rfl (Km rfl ?_)))))
    refine Kq rfl (Ja rfl rfl rfl u31 (by kernel_rfl : _ = some 1) (by omega)) ?_
    refine Ng rfl rfl (st rfl rfl rfl .tc (by kernel_rfl) rfl ?_ (by (simp only [List.set_cons_zero, List.set_cons_succ]; rfl))) ?_
    ·(simp <;> omega)
    intro _
    refine Nt (Cg (Km rfl (Km rfl (Km rfl ?_))))
    refine Kq rfl (Ia rfl rfl rfl u54 (by kernel_rfl : _ = some 2) (by omega) (by (rw [flatMap_len _ _ 2 (fun _ => rfl)]; omega))) ?_
    (refine Kq rfl (faf rfl rfl u50 rfl (by kernel_rfl) (by (try simp only [sN, Int.reduceToNat, Nat.reduceAdd, Nat.reduceMul, Nat.reduceSub]); rfl)) ?_)
    refine Kq rfl (ldmf (sz := 2) _ 1 rfl rfl u22 rfl (fun _ => rfl) rfl (by assumption) (by decide) rfl) ?_
    refine Ku rfl (Oc rfl rfl (Kv fun w hS => bits_c (a := (es.getD i default).2))) ?_
    refine Ns 71 rfl (v' := .int .i64 ((bitsN (es.getD i default).2 : Nat) : Int)) (congrArg (Value.int .i64) (by rw [if_pos hz.1])) ?_
    refine Kq rfl (rd_max2 rfl rfl rfl) (Ns 72 rfl (v' := .int .i64 ((max most (bitsN (es.getD i default).2) : Nat) : Int)) (congrArg (Value.int .i64) (by omega)) (Ka rfl (Nn (Xd (Xa (Cg (Kq rfl (Rz rfl rfl rfl (by omega)) (Km rfl (Nn ?_)))))))))
    refine Lx ((i + 1, max most (bitsN (es.getD i default).2))) (by (try dsimp only); omega) (S5 rfl rfl rfl rfl rfl) (by refine (Sc ?_ (Sc ?_ (S0 _))) <;> (rfl)) ?_ (by exact fun w h => by rw [← strs_fill B' i l.length (by omega) hil, hB2]; (try rw [List.set_set] at h); exact h)
    (try dsimp only)
    exact ⟨hil, by omega, all_take hiZ (fun p hp => Nat.le_trans (hbt p hp) (Nat.le_max_left _ _)) (by rw [hZi]; exact Nat.le_max_right _ _)⟩
   ·(try simp only [sB] at hc50)
    have hB2 : B'.getD i default = l.getD i default := by rw [hBi]; exact if_neg (by simpa using hc50)
    refine Ck (Xa (Cg (Km rfl (Km rfl (Km rfl ?_)))))
    refine Kq rfl (Ia rfl rfl rfl u54 (by kernel_rfl : _ = some 2) (by omega) (by (rw [flatMap_len _ _ 2 (fun _ => rfl)]; omega))) ?_
    (refine Kq rfl (faf rfl rfl u50 rfl (by kernel_rfl) (by (try simp only [sN, Int.reduceToNat, Nat.reduceAdd, Nat.reduceMul, Nat.reduceSub]); rfl)) ?_)
    refine Kq rfl (ldmf (sz := 2) _ 1 rfl rfl u22 rfl (fun _ => rfl) rfl (by assumption) (by decide) rfl) ?_
    refine Ku rfl (Oc rfl rfl (Kv fun w hS => bits_c (a := (es.getD i default).2))) ?_
    refine Ns 71 rfl (v' := .int .i64 ((bitsN (es.getD i default).2 : Nat) : Int)) (congrArg (Value.int .i64) (by rw [if_pos hz.1])) ?_
    refine Kq rfl (rd_max2 rfl rfl rfl) (Ns 72 rfl (v' := .int .i64 ((max most (bitsN (es.getD i default).2) : Nat) : Int)) (congrArg (Value.int .i64) (by omega)) (Ka rfl (Nn (Xd (Xa (Cg (Kq rfl (Rz rfl rfl rfl (by omega)) (Km rfl (Nn ?_)))))))))
    refine Lx ((i + 1, max most (bitsN (es.getD i default).2))) (by (try dsimp only); omega) (S5 rfl rfl rfl rfl rfl) (by refine (Sc ?_ (Sc ?_ (S0 _))) <;> (rfl)) ?_ (by exact fun w h => by rw [← strs_fill B' i l.length (by omega) hil, hB2]; (try rw [List.set_set] at h); exact h)
    (try dsimp only)
    exact ⟨hil, by omega, all_take hiZ (fun p hp => Nat.le_trans (hbt p hp) (Nat.le_max_left _ _)) (by rw [hZi]; exact Nat.le_max_right _ _)⟩
  ·(try simp only [sB] at hc38)
   refine Cx (Xc (Xc (Xe ?_)))
   obtain rfl : i = l.length := by omega
   rw [Nat.sub_self, List.replicate_zero, List.append_nil, List.take_of_length_le (Nat.le_of_eq hBl)]
   rw [List.take_of_length_le (Nat.le_of_eq hZl)] at hbt
   have hBk : ∀ k, k < l.length → okN (B'.getD k default) ∧ (B'.getD k default).length ≤ 8 := fun k hk => by
    have hx := hel _ (getD_mem l k hk)
    rw [hB', map_getD2 _ _ _ (by omega), hZ, getD_zip hk (by omega), bsB]
    split
    ·exact lt_len (invN_lt _ hp) hm8
    ·exact ⟨hx.1, elG_len hx hm8⟩
   obtain ⟨PP, hPP⟩ : ∃ PP, PP = prsP (val g.1) Z := ⟨_, rfl⟩
   have hPl : PP.length = l.length := by rw [hPP, prsP, List.length_map, hZl]
   have hPk : ∀ k, k < l.length → PP.getD k default = (val (B'.getD k default), val (es.getD k default).2) := fun k hk => by
    rw [hPP, hB', map_getD2 _ _ _ (by omega), prsP, map_getD2 _ _ _ (by omega), hZ, getD_zip hk (by omega)]
   have hst := prs_start (m := val g.1) hbt
   rw [← hPP] at hst
   have hend := prs_end (m := val g.1) (l := Z) (fun q hq => by rw [hZ] at hq; exact hokz _ (List.of_mem_zip hq).2)
   rw [← hPP] at hend
   have hmk : ∀ k, okN (canon (k % val g.1)) ∧ (canon (k % val g.1)).length ≤ 8 := fun k => lt_len (Nat.mod_lt _ hp) hm8
   refine Xa (Cs ?_)
   refine Ku rfl (Oc rfl rfl (Kv fun w hS => of_c (n := 1) (by omega))) ?_
   refine Kh rfl (Oa rfl (v := (.string (S []))) (cs := [.string (S [])]) (by kernel_rfl) rfl) ?_
   intro b15
   refine Ng rfl rfl (st rfl rfl rfl .tc (by kernel_rfl) rfl ?_ (by (simp only [List.set_cons_zero, List.set_cons_succ]; rfl))) ?_
   ·decide
   intro _
   refine Nt (Cs (Kq rfl (rd_mkf rfl rfl rfl) (Ka rfl (Nt (Cq (Cs (Km rfl (Kq rfl (rd_sub64 rfl rfl rfl (by omega)) (Ka rfl (Nt (Cb ?_)))))))))))
   refine Lo (σ := Nat × Int × Bs) [(2, _), (9, _), (15, _), (16, _)] (fun gq => [(17, .int .i64 gq.2.1)]) (fun gq => gq.1 ≤ most ∧ gq.2.1 = (gq.1 : Int) - 1 ∧ gq.2.2 = canon (prodL (atBit gq.1) PP % val g.1)) (fun gq => gq.1) (fun gq => [⟨some b15, [.string (S gq.2.2)], 22⟩, ⟨some b34, strs B', 22⟩, ⟨some b3, [.string (S g.1), .string (S g.2)], 26⟩]) (fun gq => [Fact.sl b (ints es)]) (most, (most : Int) - 1, canon 1) (S4 rfl rfl rfl rfl) (S1 rfl) (by (try dsimp only); exact ⟨Nat.le_refl _, rfl, by rw [hst, Nat.mod_eq_of_lt (by omega)]⟩) (by (exact st_sub)) ?_
   rintro ⟨n, j, out⟩ hinv2; (try dsimp only at hinv2 ⊢)
   obtain ⟨hn, hj, hout⟩ := hinv2
   refine Cq (Cs (Km rfl (Kq rfl (rd_geq rfl rfl rfl) (Nt ?_))))
   refine Cd rfl (fun hc79 => ?_) (fun hc79 => ?_)
   ·(try simp only [sB] at hc79)
    obtain ⟨n', rfl⟩ : ∃ n', n = n' + 1 := ⟨n - 1, by omega⟩
    refine WC.set 17 rfl (v' := .int .i64 ((n' : Nat) : Int)) (by rw [hj]; congr 1; omega) ?_
    subst hout
    obtain ⟨Q, hQ⟩ : ∃ Q, Q = prodL (atBit (n' + 1)) PP % val g.1 * (prodL (atBit (n' + 1)) PP % val g.1) % val g.1 := ⟨_, rfl⟩
    have hQ0 : val (canon (prodL (atBit (n' + 1)) PP % val g.1)) * val (canon (prodL (atBit (n' + 1)) PP % val g.1)) % val g.1 = Q := by rw [val_canon, hQ]
    refine Ck (Xa (Cq (Cb (Cs (Km rfl (Kq rfl (Ld rfl rfl .tc u22) ?_))))))
    refine Kh rfl (og_callv rfl rfl rfl (by kernel_rfl) rfl (keep_st fun w hS => ptimes_c (p := b15) (q := b3) (out := canon (prodL (atBit (n' + 1)) PP % val g.1)) (x := canon (prodL (atBit (n' + 1)) PP % val g.1)) (g := g) hS (by exact (hmk _).1) (by exact (hmk _).2) (by exact (hmk _).1) (by exact (hmk _).2) (by exact hm) (by exact hm0) (by exact hm8))) ?_
    intro _
    refine Nt (Cs (Km rfl (Kq rfl (rd_len rfl rfl u31) (Km rfl (Nt (Cb ?_))))))
    refine Lo (σ := Nat × Bs) [(2, _), (9, _), (15, _), (16, _), (17, _), (85, _), (86, _)] (fun gq => [(87, .int .i64 (gq.1 : Int))]) (fun gq => gq.1 ≤ l.length ∧ gq.2 = canon (Q * prodL (selB n') (PP.take gq.1) % val g.1)) (fun gq => l.length - gq.1) (fun gq => [⟨some b15, [.string (S gq.2)], 22⟩, ⟨some b34, strs B', 22⟩, ⟨some b3, [.string (S g.1), .string (S g.2)], 26⟩]) (fun gq => [Fact.sl b (ints es)]) (0, canon Q) (S7 rfl rfl rfl rfl rfl rfl rfl) (S1 rfl) (by (try dsimp only); exact ⟨Nat.zero_le _, by rw [List.take_zero, prodL, Nat.mul_one, hQ, Nat.mod_mod]⟩) (by exact fun w h => by rw [hQ0] at h; exact h) ?_
    rintro ⟨k, o⟩ hinv3; (try dsimp only at hinv3 ⊢)
    obtain ⟨hk, ho⟩ := hinv3
    refine Cs (Kq rfl (rd_lss rfl rfl rfl) (Nt (Cq ?_)))
    refine Cd rfl (fun hc88 => ?_) (fun hc88 => ?_)
    ·(try simp only [sB] at hc88)
     have hkl : k < l.length := by omega
     have hz := hokz _ (getD_mem es k (by omega))
     subst ho
     have hsu := prodL_succ (selB n') PP k (by omega)
     rw [hPk k hkl, selB] at hsu
     refine Ck (Xa (Cq (Cb (Cs (Km rfl ?_)))))
     refine Kq rfl (Ja rfl rfl rfl u31 (by kernel_rfl : _ = some 1) (by omega)) ?_
     refine Kq rfl (ld rfl rfl .tc u22 rfl (map_getD B' _ k (by omega))) ?_
     refine Ka rfl (Ka rfl (Nt (Cs (Km rfl (Km rfl ?_)))))
     refine Kq rfl (Ia rfl rfl rfl u54 (by kernel_rfl : _ = some 2) (by omega) (by (rw [flatMap_len _ _ 2 (fun _ => rfl)]; omega))) ?_
     (refine Kq rfl (faf rfl rfl u50 rfl (by kernel_rfl) (by (try simp only [sN, Int.reduceToNat, Nat.reduceAdd, Nat.reduceMul, Nat.reduceSub]); rfl)) ?_)
     refine Kq rfl (ldmf (sz := 2) _ 1 rfl rfl u22 rfl (fun _ => rfl) rfl (by omega) (by decide) rfl) ?_
     refine Km rfl ?_
     refine Ku rfl (Oc rfl rfl (Kv fun w hS => bitn_c (a := (es.getD k default).2) (i := n') (by omega))) ?_
     refine Nt ?_
     refine Cd rfl (fun hc98 => ?_) (fun hc98 => ?_)
     ·(try simp only [sB] at hc98)
      have hd : val (es.getD k default).2 / 2 ^ n' % 2 = 1 := by rw [bitA_nat hz.1, bitN] at hc98; simpa using hc98
      rw [if_pos hd] at hsu
      refine Cg (Km rfl (Km rfl ?_))
      refine Kh rfl (og_callv rfl rfl rfl (by kernel_rfl) rfl (keep_st fun w hS => ptimes_c (p := b15) (q := b3) (out := canon (Q * prodL (selB n') (PP.take k) % val g.1)) (x := B'.getD k default) (g := g) hS (by exact (hmk _).1) (by exact (hmk _).2) (by exact (hBk _ hkl).1) (by exact (hBk _ hkl).2) (by exact hm) (by exact hm0) (by exact hm8))) ?_
      intro _
      refine Nn (Xd (Xa (Cg (Kq rfl (Rz rfl rfl rfl (by omega)) (Km rfl (Nn ?_))))))
      refine Lx ((k + 1, canon (Q * prodL (selB n') (PP.take (k + 1)) % val g.1))) (by (try dsimp only); omega) (S7 rfl rfl rfl rfl rfl rfl rfl) (by refine (Sc ?_ (S0 _)) <;> (rfl)) ?_ (by exact fun w h => by rw [hsu, ← Nat.mul_assoc, ← mml (Q * _)]; rw [val_canon] at h; exact h)
      (try dsimp only)
      exact ⟨hkl, rfl⟩
     ·(try simp only [sB] at hc98)
      have hd : ¬ val (es.getD k default).2 / 2 ^ n' % 2 = 1 := by rw [bitA_nat hz.1, bitN] at hc98; simpa using hc98
      rw [if_neg hd, Nat.mul_one] at hsu
      refine Ck (Xd (Xa (Cg (Kq rfl (Rz rfl rfl rfl (by omega)) (Km rfl (Nn ?_))))))
      refine Lx ((k + 1, canon (Q * prodL (selB n') (PP.take (k + 1)) % val g.1))) (by (try dsimp only); omega) (S7 rfl rfl rfl rfl rfl rfl rfl) (by refine (Sc ?_ (S0 _)) <;> (rfl)) ?_ (by exact fun w h => by rw [hsu]; exact h)
      (try dsimp only)
      exact ⟨hkl, rfl⟩
    ·(try simp only [sB] at hc88)
     refine Cx (Xc (Xc (Xe ?_)))
     obtain rfl : k = l.length := by omega
     rw [List.take_of_length_le (Nat.le_of_eq hPl)] at ho
     refine Xd (Xa (Cg (Km rfl (Kq rfl (rd_sub64 rfl rfl rfl (by omega)) (Ka rfl (Nn ?_))))))
     refine Lx ((n', (n' : Int) - 1, o)) (by (try dsimp only); omega) (S4 rfl rfl rfl rfl) (by refine (Sc ?_ (S0 _)) <;> (rfl)) ?_ (by (exact fun _ h => h))
     (try dsimp only)
     exact ⟨by omega, rfl, by rw [ho, hQ]; exact congrArg canon (prod_bit _ _ _)⟩
   ·(try simp only [sB] at hc79)
    refine Cx (Xc (Xc (Xe ?_)))
    obtain rfl : n = 0 := by omega
    rw [hend] at hout
    refine Xa (Cs (Kq rfl (Ld rfl rfl .tc u22) ?_))
    refine Ka rfl (Ka rfl (Nt (Ce ?_)))
    exact R2 rfl rfl rfl (by rw [hr, ← hout]; rfl)
theorem last_mod2 {s : Bs} (h : s ≠ []) : (s.getD (s.length - 1) default).toNat % 2 = val s % 2 := by
 have hl := List.length_pos_iff.2 h
 have := val_digit s 0 hl
 rw [Nat.pow_zero, Nat.div_one, Nat.sub_zero] at this
 omega
theorem eq_one {s : Bs} (h : okN s) : s = [1] ↔ val s = 1 := by
 rw [← canon_one, ok_canon h]
theorem eq_nil {s : Bs} (h : okN s) : s = [] ↔ val s = 0 := (val_eq_zero h.2).symm
theorem rgcheck_c {g : Gp} {w : World} :
  Cw 85 #[gV g] w (.int .i64 (chkG g)) := by
 have hB8 : 8 < Big := Nat.lt_of_lt_of_le (by decide) big64
 refine En [] [(0, gV g)] Tryz.func85 rfl Tryz.ntmps85 rfl (Ac rfl (An _)) Fn ?_
 refine Cs ?_
 refine Kh rfl (Oy rfl rfl) ?_
 intro b1
 refine Ka rfl (Nt (Cq ?_))
 refine WC.joinP (σ := Unit) [(1, _)] (fun gq => [(14, .bool (decide (¬ (okN g.1 ∧ okN g.2))))]) (fun gq => True) (S1 rfl) ?_ ?_
 ·skip
  refine Cg (Kq rfl (Fa (q := 0) rfl rfl u26 rfl rfl) (Kq rfl (Ld rfl rfl .tc u22) ?_))
  refine Ku rfl (Oc rfl rfl (Kv fun w hS => rvalid_c (a := g.1))) ?_
  refine Kq rfl (Rt rfl rfl) (Km rfl ?_)
  refine Nb 9 rfl (fun hg9 => ?_) (fun hg9 => ?_)
  ·(try simp only [sB] at hg9)
   refine Kt rfl (Kt rfl (Kt rfl (Kt rfl (Kq rfl (Rp rfl rfl rfl) (Nn ?_)))))
   refine WX.joinP (()) (S1 rfl) (by refine (Sc ?_ (S0 _)) <;> ((refine slot_b rfl ?_; (try dsimp only); (simp [*]; done)))) ?_ (by (exact fun _ h => h))
   (try dsimp only)
   done
  ·(try simp only [sB] at hg9)
   refine Kq rfl (Fa (q := 1) rfl rfl u26 rfl rfl) (Kq rfl (Ld rfl rfl .tc u22) ?_)
   refine Ku rfl (Oc rfl rfl (Kv fun w hS => rvalid_c (a := g.2))) ?_
   refine Kq rfl (Rt rfl rfl) (Kq rfl (Rq rfl rfl rfl) (Nn ?_))
   refine WX.joinP (()) (S1 rfl) (by refine (Sc ?_ (S0 _)) <;> ((refine slot_b rfl ?_; (try dsimp only); (simp [*]; done)))) ?_ (by (exact fun _ h => h))
   (try dsimp only)
   done
 ·rintro _ hmeet; (try dsimp only at hmeet ⊢)
  refine Cd rfl (fun hc14 => ?_) (fun hc14 => ?_)
  ·(try simp only [sB] at hc14)
   have hr : chkG g = 3 := by rw [chkG, if_neg hc14]
   refine Cs (Ka rfl (Nt (Ce (Xb ?_))))
   exact R1 rfl rfl (by rw [hr]; rfl)
  ·(try simp only [sB] at hc14)
   have hok : okN g.1 ∧ okN g.2 := by simpa using hc14
   have hb1 := okN_val hok.1; have hb2 := okN_val hok.2
   have hv2 : val g.2 = 0 ↔ g.2 = [] := val_eq_zero hok.2.2
   have hl1 := hok.1.1
   refine Ck (Xa (Cq (Cs (Kq rfl (Fa (q := 1) rfl rfl u26 rfl rfl) (Kq rfl (Ld rfl rfl .tc u22) ?_)))))
   refine Kq rfl (rd_seq rfl rfl rfl) (Nt ?_)
   refine Cd rfl (fun hc17 => ?_) (fun hc17 => ?_)
   ·(try simp only [sB] at hc17)
    have hq : g.2 = [] := by simpa using hc17
    have hlp : val g.1 = 0 ∨ 0 < g.1.length := by
     by_cases h : g.1 = []
     ·exact .inl (by rw [h]; rfl)
     ·exact .inr (List.length_pos_iff.2 h)
    have hlm : val g.1 = 0 ∨ (g.1.getD (g.1.length - 1) default).toNat % 2 = val g.1 % 2 := by
     by_cases h : g.1 = []
     ·exact .inl (by rw [h]; rfl)
     ·exact .inr (last_mod2 h)
    refine Cq ?_
    refine WC.joinP (σ := Unit) [] (fun gq => [(37, .bool (decide (¬ (val g.1 % 2 = 1 ∧ 8 < val g.1))))]) (fun gq => True) (S0 _) ?_ ?_
    ·skip
     refine Cg (Kq rfl (Fa (q := 0) rfl rfl u26 rfl rfl) (Kq rfl (Ld rfl rfl .tc u22) ?_))
     refine Kq rfl (rd_seq rfl rfl rfl) ?_
     refine Ns 20 rfl (v' := .bool (decide (val g.1 = 0))) (congrArg Value.bool (by exact decide_eq_decide.2 (by rw [← eq_nil hok.1]))) ?_
     refine Km rfl ?_
     refine Nb 21 rfl (fun hg21 => ?_) (fun hg21 => ?_)
     ·(try simp only [sB] at hg21)
      refine Kt rfl (Kt rfl (Kt rfl (Kt rfl (Kt rfl (Kt rfl (Kt rfl (Kt rfl (Kt rfl (Kq rfl (Rp rfl rfl rfl) (Km rfl (Kt rfl (Kt rfl (Kt rfl (Kt rfl (Kq rfl (Rp rfl rfl rfl) (Nn ?_))))))))))))))))
      refine WX.joinP (()) (S0 _) (by refine (Sc ?_ (S0 _)) <;> ((refine slot_b rfl ?_; (try dsimp only); (simp [*]; done)))) ?_ (by (exact fun _ h => h))
      (try dsimp only)
      done
     ·(try simp only [sB] at hg21)
      refine Kq rfl (Fa (q := 0) rfl rfl u26 rfl rfl) (Kq rfl (Ld rfl rfl .tc u22) ?_)
      refine Kq rfl (Fa (q := 0) rfl rfl u26 rfl rfl) (Kq rfl (Ld rfl rfl .tc u22) ?_)
      refine Kq rfl (rd_slen rfl rfl u22) (Kq rfl (rd_sub64nl rfl rfl rfl (by omega)) ?_)
      refine Kq rfl (rd_sidxD rfl rfl rfl u22 ?_) ?_
      ·omega
      refine Kq rfl (rd_remN rfl rfl rfl (by decide)) (Kq rfl (rd_eql rfl rfl rfl) ?_)
      refine Ns 30 rfl (v' := .bool (decide (val g.1 % 2 = 0))) (congrArg Value.bool (by exact decide_eq_decide.2 (by rw [Int.toNat_natCast]; omega))) ?_
      refine Kq rfl (Rq rfl rfl rfl) (Km rfl ?_)
      refine Nb 32 rfl (fun hg32 => ?_) (fun hg32 => ?_)
      ·(try simp only [sB] at hg32)
       refine Kt rfl (Kt rfl (Kt rfl (Kt rfl (Kq rfl (Rp rfl rfl rfl) (Nn ?_)))))
       refine WX.joinP (()) (S0 _) (by refine (Sc ?_ (S0 _)) <;> ((refine slot_b rfl ?_; (try dsimp only); (simp [*]; done)))) ?_ (by (exact fun _ h => h))
       (try dsimp only)
       done
      ·(try simp only [sB] at hg32)
       refine Kq rfl (Fa (q := 0) rfl rfl u26 rfl rfl) (Kq rfl (Ld rfl rfl .tc u22) ?_)
       refine Ku rfl (Oc rfl rfl (Kv fun w hS => order_c (a := g.1) (b := [8]) (by exact hok.1.2) (by decide) (by omega))) ?_
       refine Kq rfl (rd_leq rfl rfl rfl) ?_
       refine Ns 36 rfl (v' := .bool (decide (val g.1 ≤ 8))) (congrArg Value.bool (by exact decide_eq_decide.2 (cmpI_le _ _))) ?_
       refine Kq rfl (Rq rfl rfl rfl) (Nn ?_)
       refine WX.joinP (()) (S0 _) (by refine (Sc ?_ (S0 _)) <;> ((refine slot_b rfl ?_; (try dsimp only); (exact decide_eq_decide.2 (by omega))))) ?_ (by (exact fun _ h => h))
       (try dsimp only)
       done
    ·rintro _ hmeet; (try dsimp only at hmeet ⊢)
     refine Cd rfl (fun hc37 => ?_) (fun hc37 => ?_)
     ·(try simp only [sB] at hc37)
      have hr : chkG g = 13 := by rw [chkG, if_pos hok, if_pos hq, if_neg hc37]
      refine Cs (Ka rfl (Nt (Ce (Xb (Xb ?_)))))
      exact R1 rfl rfl (by rw [hr]; rfl)
     ·(try simp only [sB] at hc37)
      have hr : chkG g = 0 := by rw [chkG, if_pos hok, if_pos hq, if_pos (by simpa using hc37)]
      refine Ck (Xa (Cs (Ka rfl (Nt (Ce (Xb ?_))))))
      exact R1 rfl rfl (by rw [hr]; rfl)
   ·(try simp only [sB] at hc17)
    have hq : g.2 ≠ [] := by simpa using hc17
    have hqp : 0 < val g.2 := by rcases Nat.eq_zero_or_pos (val g.2) with h | h; exact absurd (hv2.1 h) hq; exact h
    refine Ck (Xa (Cq ?_))
    refine WC.joinP (σ := Unit) [(1, _)] (fun gq => [(50, .bool (decide (val g.1 ≤ 1 ∨ val g.2 < 2)))]) (fun gq => True) (S1 rfl) ?_ ?_
    ·skip
     refine Cg (Kq rfl (Fa (q := 0) rfl rfl u26 rfl rfl) (Kq rfl (Ld rfl rfl .tc u22) ?_))
     refine Kq rfl (rd_seq rfl rfl rfl) ?_
     refine Ns 40 rfl (v' := .bool (decide (val g.1 = 0))) (congrArg Value.bool (by exact decide_eq_decide.2 (by rw [← eq_nil hok.1]))) ?_
     refine Km rfl ?_
     refine Nb 41 rfl (fun hg41 => ?_) (fun hg41 => ?_)
     ·(try simp only [sB] at hg41)
      refine Kt rfl (Kt rfl (Kt rfl (Kq rfl (Rp rfl rfl rfl) (Km rfl (Kt rfl (Kt rfl (Kt rfl (Kq rfl (Rp rfl rfl rfl) (Nn ?_)))))))))
      refine WX.joinP (()) (S1 rfl) (by refine (Sc ?_ (S0 _)) <;> ((refine slot_b rfl ?_; (try dsimp only); (simp [*]; done)))) ?_ (by (exact fun _ h => h))
      (try dsimp only)
      done
     ·(try simp only [sB] at hg41)
      refine Kq rfl (Fa (q := 0) rfl rfl u26 rfl rfl) (Kq rfl (Ld rfl rfl .tc u22) ?_)
      refine Kq rfl (rd_seq rfl rfl rfl) ?_
      refine Ns 44 rfl (v' := .bool (decide (val g.1 = 1))) (congrArg Value.bool (by exact decide_eq_decide.2 (by rw [← eq_one hok.1]))) ?_
      refine Kq rfl (Rq rfl rfl rfl) (Km rfl ?_)
      refine Nb 46 rfl (fun hg46 => ?_) (fun hg46 => ?_)
      ·(try simp only [sB] at hg46)
       refine Kt rfl (Kt rfl (Kt rfl (Kq rfl (Rp rfl rfl rfl) (Nn ?_))))
       refine WX.joinP (()) (S1 rfl) (by refine (Sc ?_ (S0 _)) <;> ((refine slot_b rfl ?_; (try dsimp only); (simp [*]; done)))) ?_ (by (exact fun _ h => h))
       (try dsimp only)
       done
      ·(try simp only [sB] at hg46)
       refine Kq rfl (Fa (q := 1) rfl rfl u26 rfl rfl) (Kq rfl (Ld rfl rfl .tc u22) ?_)
       refine Kq rfl (rd_seq rfl rfl rfl) ?_
       refine Ns 49 rfl (v' := .bool (decide (val g.2 = 1))) (congrArg Value.bool (by exact decide_eq_decide.2 (by rw [← eq_one hok.2]))) ?_
       refine Kq rfl (Rq rfl rfl rfl) (Nn ?_)
       refine WX.joinP (()) (S1 rfl) (by refine (Sc ?_ (S0 _)) <;> ((refine slot_b rfl ?_; (try dsimp only); (exact decide_eq_decide.2 (by omega))))) ?_ (by (exact fun _ h => h))
       (try dsimp only)
       done
    ·rintro _ hmeet; (try dsimp only at hmeet ⊢)
     refine Cd rfl (fun hc50 => ?_) (fun hc50 => ?_)
     ·(try simp only [sB] at hc50)
      have hr : chkG g = 13 := by rw [chkG, if_pos hok, if_neg hq, if_pos (by omega)]
      refine Cs (Ka rfl (Nt (Ce (Xb ?_))))
      exact R1 rfl rfl (by rw [hr]; rfl)
     ·(try simp only [sB] at hc50)
      refine Ck (Xa (Cq (Cq ?_)))
      refine Cf [0, 1, 2, 3, 4, 5, 6, 7, 8, 9, 10] [] [0, 0, 1, 0, 0, 1, 0, 0, 0, 0, 0] (by kernel_rfl) (by kernel_rfl) rfl ?_
      refine Kj rfl (Fa (q := 0) rfl rfl u26 rfl rfl) (Kj rfl (Ld rfl rfl .tc u22) ?_)
      refine Jv rfl rfl rfl rfl rfl (fun ext => Oc rfl rfl (Kv fun w hS => minus_c (a := g.1) (b := [1]) (by show 1 ≤ val g.1; omega) (by omega) (by decide))) ?_
      refine WJ.set 54 rfl (v' := .string (S (canon (val g.1 - 1)))) (congrArg (fun l => Value.string (S l)) (by rfl)) ?_
      refine Kj rfl (Fa (q := 1) rfl rfl u26 rfl rfl) (Kj rfl (Ld rfl rfl .tc u22) ?_)
      refine Jv rfl rfl rfl rfl rfl (fun ext => Oc rfl rfl (Kv fun w hS => rover_c (a := canon (val g.1 - 1)) (b := g.2) (by exact okN_can (by omega)) (by exact hok.2) (by exact hq))) ?_
      refine Kj rfl (Rm rfl rfl) (Kj rfl (Re rfl rfl rfl) (Kj rfl (Re rfl rfl rfl) (Kj rfl (Ra rfl rfl) (Kj rfl (Ra rfl rfl) ?_))))
      refine WJ.nil ?_
      refine Nt (Cs (Km rfl (Kq rfl (rd_sne rfl rfl rfl) ?_)))
      refine Ns 61 rfl (v' := .bool (decide ((val g.1 - 1) % val g.2 ≠ 0))) (congrArg Value.bool (by simp [canon_nil, val_canon])) ?_
      refine Nt ?_
      refine Cd rfl (fun hc61 => ?_) (fun hc61 => ?_)
      ·(try simp only [sB] at hc61)
       have hr : chkG g = 13 := by rw [chkG, if_pos hok, if_neg hq, if_pos (Or.inr (Or.inr hc61))]
       refine Cs (Ka rfl (Nt (Ce (Xb ?_))))
       exact R1 rfl rfl (by rw [hr]; rfl)
      ·(try simp only [sB] at hc61)
       have hr : chkG g = 0 := by rw [chkG, if_pos hok, if_neg hq, if_neg (fun h => by rcases h with h | h | h; omega; omega; exact hc61 h)]
       refine Ck (Xa (Cs (Ka rfl (Nt (Ce ?_)))))
       exact R1 rfl rfl (by rw [hr]; rfl)
theorem rghas0_c {g : Gp} {x : Bs} {w : World} (hg : chkG g = 0) (hx : okN x) (hm8 : g.1.length ≤ 8) :
  Cw 86 #[gV g, .string (S x)] w (.bool (decide (elG g x))) := by
 obtain ⟨hm, hqk, h2, _⟩ := chkG_ok hg
 have hl := hm.1
 refine En [] [(0, gV g), (1, .string (S x))] Tryz.func86 rfl Tryz.ntmps86 rfl (Ac rfl (Ac rfl (An _))) Fn ?_
 refine Cs ?_
 refine Kh rfl (Oy rfl rfl) ?_
 intro b2
 refine Ka rfl (Nt (Cq (Cs (Kq rfl (Fa (q := 1) rfl rfl u26 rfl rfl) (Kq rfl (Ld rfl rfl .tc u22) ?_)))))
 refine Kq rfl (rd_sne rfl rfl rfl) (Nt ?_)
 refine Cd rfl (fun hc7 => ?_) (fun hc7 => ?_)
 ·(try simp only [sB] at hc7)
  have hq : g.2 ≠ [] := by simpa using hc7
  have hr := elG_P (x := x) hg hq
  refine Cs ?_
  refine Kq rfl (lda rfl rfl .tc u26 rfl ?_) ?_
  ·kernel_rfl
  refine Km rfl ?_
  refine Ku rfl (Oc rfl rfl (Kv fun w hS => rphas_c (g := g) (x := x) (by assumption))) ?_
  refine Ka rfl (Nt (Ce (Xb ?_)))
  exact R1 rfl rfl (by simp only [hr]; rfl)
 ·(try simp only [sB] at hc7)
  have hq : g.2 = [] := by simpa using hc7
  have hr : elG g x ↔ x ≠ [] ∧ val x < val g.1 ∧ Nat.gcd (val x) (val g.1) = 1 := by
   rw [elG, if_pos hq]; exact ⟨fun h => h.2, fun h => ⟨hx, h⟩⟩
  refine Ck (Xa (Cs (Km rfl (Kq rfl (rd_sne rfl rfl rfl) (Km rfl ?_)))))
  refine Nb 13 rfl (fun hg13 => ?_) (fun hg13 => ?_)
  ·(try simp only [sB] at hg13)
   refine Km rfl (Kq rfl (Fa (q := 0) rfl rfl u26 rfl rfl) (Kq rfl (Ld rfl rfl .tc u22) ?_))
   refine Ku rfl (Oc rfl rfl (Kv fun w hS => order_c (a := x) (b := g.1) (by exact hx.2) (by exact hm.2) (by have := hx.1; omega))) ?_
   refine Kq rfl (rd_lss rfl rfl rfl) ?_
   refine Ns 18 rfl (v' := .bool (decide (val x < val g.1))) (congrArg Value.bool (by exact decide_eq_decide.2 (cmpI_neg _ _))) ?_
   refine Kq rfl (Rp rfl rfl rfl) (Km rfl ?_)
   refine Nb 20 rfl (fun hg20 => ?_) (fun hg20 => ?_)
   ·(try simp only [sB] at hg20)
    refine Km rfl (Kq rfl (Fa (q := 0) rfl rfl u26 rfl rfl) (Kq rfl (Ld rfl rfl .tc u22) ?_))
    refine Ku rfl (Oc rfl rfl (Kv fun w hS => rcommon_c (a := x) (b := g.1) (by exact hx) (by exact hm))) ?_
    refine Kq rfl (rd_seq rfl rfl rfl) ?_
    refine Ns 25 rfl (v' := .bool (decide (Nat.gcd (val x) (val g.1) = 1))) (congrArg Value.bool (by simp [canon_one])) ?_
    refine Kq rfl (Rp rfl rfl rfl) (Ka rfl (Nt (Ce ?_)))
    exact R1 rfl rfl (by rw [show decide (elG g x) = decide (x ≠ [] ∧ val x < val g.1 ∧ Nat.gcd (val x) (val g.1) = 1) from decide_eq_decide.2 hr]; (simp [*, tup]; done))
   ·(try simp only [sB] at hg20)
    refine Kt rfl (Kt rfl (Kt rfl (Kt rfl (Kt rfl (Kq rfl (Rq rfl rfl rfl) (Ka rfl (Nt (Ce ?_))))))))
    exact R1 rfl rfl (by rw [show decide (elG g x) = decide (x ≠ [] ∧ val x < val g.1 ∧ Nat.gcd (val x) (val g.1) = 1) from decide_eq_decide.2 hr]; (simp [*, tup]; done))
  ·(try simp only [sB] at hg13)
   refine Kt rfl (Kt rfl (Kt rfl (Kt rfl (Kt rfl (Kq rfl (Rq rfl rfl rfl) (Km rfl (Kt rfl (Kt rfl (Kt rfl (Kt rfl (Kt rfl (Kq rfl (Rq rfl rfl rfl) (Ka rfl (Nt (Ce ?_)))))))))))))))
   exact R1 rfl rfl (by rw [show decide (elG g x) = decide (x ≠ [] ∧ val x < val g.1 ∧ Nat.gcd (val x) (val g.1) = 1) from decide_eq_decide.2 hr]; (simp [*, tup]; done))
theorem rghas_c {g : Gp} {x : Bs} {w : World} (hm8 : g.1.length ≤ 8) :
  Cw 43 #[gV g, .string (S x)] w (.bool (decide (chkG g = 0 ∧ elG g x))) := by
 refine En [] [(0, gV g), (1, .string (S x))] Tryz.func43 rfl Tryz.ntmps43 rfl (Ac rfl (Ac rfl (An _))) Fn ?_
 refine Cs ?_
 refine Kh rfl (Oy rfl rfl) ?_
 intro b2
 refine Ka rfl (Nt (Cs ?_))
 refine Kq rfl (lda rfl rfl .tc u26 rfl ?_) ?_
 ·kernel_rfl
 refine Ku rfl (Oc rfl rfl (Kv fun w hS => rgcheck_c (g := g))) ?_
 refine Kq rfl (rd_eql rfl rfl rfl) (Km rfl ?_)
 refine Nb 8 rfl (fun hg8 => ?_) (fun hg8 => ?_)
 ·(try simp only [sB] at hg8)
  refine Km rfl ?_
  refine Ku rfl (Oc rfl rfl (Kv fun w hS => rvalid_c (a := x))) ?_
  refine Kq rfl (Rp rfl rfl rfl) (Km rfl ?_)
  refine Nb 12 rfl (fun hg12 => ?_) (fun hg12 => ?_)
  ·(try simp only [sB] at hg12)
   refine Kq rfl (lda rfl rfl .tc u26 rfl ?_) ?_
   ·kernel_rfl
   refine Km rfl ?_
   refine Ku rfl (Oc rfl rfl (Kv fun w hS => rghas0_c (g := g) (x := x) (by assumption) (by assumption) (by assumption))) ?_
   refine Kq rfl (Rp rfl rfl rfl) (Ka rfl (Nt (Ce ?_)))
   exact R1 rfl rfl (by (simp [*, tup, elG]; done))
  ·(try simp only [sB] at hg12)
   refine Kt rfl (Kt rfl (Kt rfl (Kq rfl (Rq rfl rfl rfl) (Ka rfl (Nt (Ce ?_))))))
   exact R1 rfl rfl (by (simp [*, tup, elG]; done))
 ·(try simp only [sB] at hg8)
  refine Kt rfl (Kt rfl (Kq rfl (Rq rfl rfl rfl) (Km rfl (Kt rfl (Kt rfl (Kt rfl (Kq rfl (Rq rfl rfl rfl) (Ka rfl (Nt (Ce ?_))))))))))
  exact R1 rfl rfl (by (simp [*, tup, elG]; done))
abbrev PK := Gp × Bs × Bs
abbrev Opn := Zs × Zs
def okK (k : PK) : Prop := okN k.1.1 ∧ okN k.1.2 ∧ okN k.2.1 ∧ okN k.2.2
instance (k : PK) : Decidable (okK k) := inferInstanceAs (Decidable (_ ∧ _))
def elK (k : PK) : Prop := elG k.1 k.2.1 ∧ elG k.1 k.2.2 ∧ k.2.1 ≠ canon 1 ∧ k.2.2 ≠ canon 1 ∧ k.2.1 ≠ k.2.2
instance (k : PK) : Decidable (elK k) := inferInstanceAs (Decidable (_ ∧ _))
def ps12 : List Nat := [2, 3, 5, 7, 11, 13, 17, 19, 23, 29, 31, 37]
def tdiv (n : Nat) : List Nat → Option Bool
 | [] => none
 | p :: ps => if n % p = 0 then some (decide (n = p)) else tdiv n ps
def sqs (n : Nat) : Nat → Nat → Bool
 | 0, _ => false
 | s + 1, x => if x = n - 1 then true else sqs n s (x * x % n)
def strN (n a s d : Nat) : Bool := decide (a ^ d % n = 1) || sqs n s (a ^ d % n)
def tzA : Nat → Nat → Nat
 | 0, _ => 0
 | f + 1, n => if n % 2 = 0 then tzA f (n / 2) + 1 else 0
def tz (n : Nat) : Nat := tzA 64 n
theorem tzA_spec : ∀ (f n : Nat), 0 < n → n < 2 ^ f → n = n / 2 ^ tzA f n * 2 ^ tzA f n ∧ n / 2 ^ tzA f n % 2 = 1
 | 0, n, h0, h => by omega
 | f + 1, n, h0, h => by
  rw [tzA]
  split
  ·rename_i h1
   obtain ⟨h2, h3⟩ := tzA_spec f (n / 2) (by omega) (by rw [Nat.pow_succ] at h; omega)
   rw [Nat.pow_succ, Nat.mul_comm (2 ^ _) 2, ← Nat.div_div_eq_div_mul]
   refine ⟨?_, h3⟩
   rw [Nat.mul_comm 2, ← Nat.mul_assoc, ← h2]; omega
  ·rename_i h1
   rw [Nat.pow_zero, Nat.div_one, Nat.mul_one]; exact ⟨rfl, by omega⟩
theorem odd_pow : ∀ (s t d e : Nat), d % 2 = 1 → e % 2 = 1 → d * 2 ^ s = e * 2 ^ t → s = t ∧ d = e
 | 0, 0, d, e, _, _, h => ⟨rfl, by simpa using h⟩
 | 0, t + 1, d, e, h1, _, h => by exfalso; rw [Nat.pow_zero, Nat.mul_one, Nat.pow_succ, ← Nat.mul_assoc] at h; omega
 | s + 1, 0, d, e, _, h2, h => by exfalso; rw [Nat.pow_zero, Nat.mul_one, Nat.pow_succ, ← Nat.mul_assoc] at h; omega
 | s + 1, t + 1, d, e, h1, h2, h => by
  rw [Nat.pow_succ, Nat.pow_succ, ← Nat.mul_assoc, ← Nat.mul_assoc] at h
  obtain ⟨h3, h4⟩ := odd_pow s t d e h1 h2 (by omega)
  exact ⟨by omega, h4⟩
def isP (n : Nat) : Bool := if n < 2 then false else match tdiv n ps12 with
 | some b => b
 | none => ps12.all fun a => strN n a (tz (n - 1)) ((n - 1) / 2 ^ tz (n - 1))
theorem pow_low1 {x a e m : Nat} (h : e % 2 = 1) (he : 0 < e) : x * a % m * (a * a % m) ^ (e / 2) % m = x * a ^ e % m := by
 have e1 : e = 2 * (e / 2) + 1 := by omega
 rw [mml, Nat.mul_mod, pow_mod2, ← Nat.mul_mod]
 conv => rhs; rw [e1]
 rw [Nat.pow_succ, Nat.pow_mul, Nat.pow_two, Nat.mul_assoc, Nat.mul_comm a]
theorem pow_low0 {x a e m : Nat} (h : ¬ e % 2 = 1) : x * (a * a % m) ^ (e / 2) % m = x * a ^ e % m := by
 have e1 : e = 2 * (e / 2) := by omega
 rw [Nat.mul_mod, pow_mod2, ← Nat.mul_mod]
 conv => rhs; rw [e1]
 rw [Nat.pow_mul, Nat.pow_two]
def pk (k : Nat) : Nat := ps12.getD k 1
abbrev vU (n : Nat) : Value := .int .u64 (n : Int)
theorem pk_get : ∀ {k : Nat}, k < 12 → ps12[k]? = some (pk k) := fun {k} h => by
 rw [pk, List.getD_eq_getElem?_getD, List.getElem?_eq_getElem (show k < ps12.length from h)]; rfl
theorem pk_cell {k : Nat} (h : k < 12) : (ps12.map vU)[k]? = some (vU (pk k)) := by rw [List.getElem?_map, pk_get h]; rfl
theorem pk_bd : ∀ {k : Nat}, k < 12 → 2 ≤ pk k ∧ pk k ≤ 37 := fun {k} h => by
 have : ∀ k : Fin 12, 2 ≤ pk k ∧ pk k ≤ 37 := by decide
 exact this ⟨k, h⟩
theorem ps_drop {k : Nat} (h : k < 12) : ps12.drop k = pk k :: ps12.drop (k + 1) := by
 have : ∀ k : Fin 12, ps12.drop k = pk k :: ps12.drop (k + 1) := by decide
 exact this ⟨k, h⟩
theorem tdiv_drop (n : Nat) {k : Nat} (h : k < 12) : tdiv n (ps12.drop k) = if n % pk k = 0 then some (decide (n = pk k)) else tdiv n (ps12.drop (k + 1)) := by
 rw [ps_drop h, tdiv]
theorem all_drop (f : Nat → Bool) {k : Nat} (h : k < 12) : (ps12.drop k).all f = (f (pk k) && (ps12.drop (k + 1)).all f) := by
 rw [ps_drop h, List.all_cons]
theorem isP_some {n : Nat} {b : Bool} (h2 : ¬ n < 2) (h : tdiv n ps12 = some b) : isP n = b := by rw [isP, if_neg h2, h]
def stN (n a : Nat) : Bool := strN n a (tz (n - 1)) ((n - 1) / 2 ^ tz (n - 1))
theorem isP_none {n : Nat} (h2 : ¬ n < 2) (h : tdiv n ps12 = none) : isP n = ps12.all (stN n) := by rw [isP, if_neg h2, h]; rfl
theorem tdiv_none : ∀ {n : Nat} {l : List Nat}, tdiv n l = none → ∀ p ∈ l, n % p ≠ 0
 | _, [], _, _, h => by cases h
 | n, q :: l, h, p, hp => by
  rw [tdiv] at h
  split at h
  ·cases h
  ·rename_i hq
   rcases List.mem_cons.1 hp with rfl | h2
   ·exact hq
   ·exact tdiv_none h p h2
theorem tz_spec {n : Nat} (h0 : 0 < n) (h : n < 18446744073709551616) : n = n / 2 ^ tz n * 2 ^ tz n ∧ n / 2 ^ tz n % 2 = 1 := tzA_spec 64 n h0 h
theorem tzA_le : ∀ (f n : Nat), tzA f n ≤ f
 | 0, _ => Nat.le_refl _
 | f + 1, n => by rw [tzA]; split <;> have := tzA_le f (n / 2) <;> omega
theorem tz_le (n : Nat) : tz n ≤ 64 := tzA_le 64 n
theorem tz_pos {n : Nat} (h : n % 2 = 0) : 1 ≤ tz n := by rw [tz, tzA, if_pos h]; omega
theorem tz_uniq {n s d : Nat} (h0 : 0 < n) (h : n < 18446744073709551616) (hd : d % 2 = 1) (he : d * 2 ^ s = n) : s = tz n ∧ d = n / 2 ^ tz n := by
 obtain ⟨h1, h2⟩ := tz_spec h0 h
 exact odd_pow s (tz n) d (n / 2 ^ tz n) hd h2 (he.trans h1)
theorem sqs_hit {n s x : Nat} (hs : 0 < s) (h : x = n - 1) : sqs n s x = true := by
 obtain ⟨s, rfl⟩ : ∃ t, s = t + 1 := ⟨s - 1, by omega⟩
 rw [sqs, if_pos h]
theorem sqs_miss {n s x : Nat} (hs : 0 < s) (h : x ≠ n - 1) : sqs n s x = sqs n (s - 1) (x * x % n) := by
 obtain ⟨s, rfl⟩ : ∃ t, s = t + 1 := ⟨s - 1, by omega⟩
 rw [sqs, if_neg h]; rfl
theorem tdiv_big {n : Nat} (h2 : ¬ n < 2) (h : tdiv n ps12 = none) : 37 < n := Nat.lt_of_not_le fun h1 => by
 have : ∀ m : Fin 38, 2 ≤ m.val → tdiv m.val ps12 ≠ none := by decide
 exact this ⟨n, by omega⟩ (by show 2 ≤ n; omega) h
structure IK where
 name : Bs
 g : Gp
 z : Bs
 s : Bs
 r : List Bs
 u : Bs
 h : Bs
abbrev ikV (k : IK) (r : Value) : Value := .agg #[.string (S k.name), .string (S k.g.1), .string (S k.g.2), .string (S k.z), .string (S k.s), r, .string (S k.u), .string (S k.h)]
def witS (u m : Bs) : List Zs × Int := if okN u ∧ okN m then (if (mulN u m).2 = 0 then ([fromZ u, fromZ (mulN u m).1], 0) else ([], (mulN u m).2)) else ([], 3)
def unmS (k : IK) (x : Bs) (w : List Zs) : (Bs × Bs) × Int :=
 if ¬ (okN k.g.1 ∧ okN k.g.2 ∧ okN k.h ∧ okN x) then (([], []), 3)
 else if ¬ (∀ z ∈ w, okZ z) then (([], []), 3)
 else if chkG k.g ≠ 0 then (([], []), chkG k.g)
 else if ¬ (elG k.g k.h ∧ elG k.g x) then (([], []), 13)
 else if w.length ≠ 2 then (([], []), 6)
 else if (w.getD 0 default).1 = true ∨ (w.getD 0 default).2 = [] then (([], []), 2)
 else if (divZ (w.getD 1 default) (w.getD 0 default)).2 ≠ 0 then (([], []), 17)
 else (((prodS k.g [x, k.h] [ofZ 1, negZ (divZ (w.getD 1 default) (w.getD 0 default)).1]).1, (w.getD 0 default).2), 0)
structure PR where
 ch : Bs
 sl : Bs
 mn : PK
 wh : PK
 sec : Bs
 attr : Bs
 han : Bs
 lo : Bs
 sz : Bs
 bl : Bs
 msk : Bs
abbrev prC (p : PR) : List Value := [.string (S p.ch), .string (S p.sl), .string (S p.mn.1.1), .string (S p.mn.1.2), .string (S p.mn.2.1), .string (S p.mn.2.2), .string (S p.wh.1.1), .string (S p.wh.1.2), .string (S p.wh.2.1), .string (S p.wh.2.2), .string (S p.sec), .string (S p.attr), .string (S p.han), .string (S p.lo), .string (S p.sz), .string (S p.bl), .string (S p.msk)]
abbrev prV (p : PR) : Value := .agg #[.string (S p.ch), .string (S p.sl), .string (S p.mn.1.1), .string (S p.mn.1.2), .string (S p.mn.2.1), .string (S p.mn.2.2), .string (S p.wh.1.1), .string (S p.wh.1.2), .string (S p.wh.2.1), .string (S p.wh.2.2), .string (S p.sec), .string (S p.attr), .string (S p.han), .string (S p.lo), .string (S p.sz), .string (S p.bl), .string (S p.msk)]
abbrev nine (p : PR) : List Bs := [p.ch, p.sl, p.sec, p.attr, p.han, p.lo, p.sz, p.bl, p.msk]
def okR (p : PR) : Prop := (∀ x ∈ nine p, okN x) ∧ okK p.mn ∧ okK p.wh
instance (p : PR) : Decidable (okR p) := inferInstanceAs (Decidable (_ ∧ _))
def chkP9 (g : Gp) : Int :=
 if ¬ (okN g.1 ∧ okN g.2) then 3 else if 8 < g.1.length then 5 else if isP (val g.1) = false then 12 else if 8 < g.2.length then 13
 else if isP (val g.2) = false then 12 else if (val g.1 - 1) % val g.2 ≠ 0 then 13 else 0
def genP (g : Gp) (x : Bs) : Prop := hasP g x ∧ x ≠ canon 1
instance (g : Gp) (x : Bs) : Decidable (genP g x) := inferInstanceAs (Decidable (_ ∧ _))
def unitR (g : Gp) (x : Bs) : Prop := hasR g x ∧ x ≠ canon 1
instance (g : Gp) (x : Bs) : Decidable (unitR g x) := inferInstanceAs (Decidable (_ ∧ _))
def grpR (p : PR) : Prop := chkP9 p.mn.1 = 0 ∧ genP p.mn.1 p.mn.2.1 ∧ genP p.mn.1 p.mn.2.2 ∧ unitR p.wh.1 p.wh.2.1 ∧ unitR p.wh.1 p.wh.2.2
instance (p : PR) : Decidable (grpR p) := inferInstanceAs (Decidable (_ ∧ _))
def rngR (p : PR) : Prop := (∀ x ∈ nine p, 2 ≤ val x) ∧ 8 * val p.attr ≤ val p.mn.1.2 ∧ val p.ch ≤ val p.mn.1.2 ∧ val p.sec ≤ val p.mn.1.2
instance (p : PR) : Decidable (rngR p) := inferInstanceAs (Decidable (_ ∧ _))
def chkR (p : PR) : Int := if ¬ okR p then 3 else if ¬ grpR p then 13 else if ¬ rngR p then 2 else 0
def letB (c : UInt8) : Prop := (97 ≤ c.toNat ∧ c.toNat ≤ 122) ∨ (65 ≤ c.toNat ∧ c.toNat ≤ 90)
instance (c : UInt8) : Decidable (letB c) := inferInstanceAs (Decidable (_ ∨ _))
def digB (c : UInt8) : Prop := c.toNat = 95 ∨ (48 ≤ c.toNat ∧ c.toNat ≤ 57)
instance (c : UInt8) : Decidable (digB c) := inferInstanceAs (Decidable (_ ∨ _))
def nmB (i : Nat) (c : UInt8) : Prop := letB c ∨ (i ≠ 0 ∧ digB c)
instance (i : Nat) (c : UInt8) : Decidable (nmB i c) := inferInstanceAs (Decidable (_ ∨ _))
def nameS (s : Bs) : Prop := (∀ i, i < s.length → nmB i (s.getD i default)) ∧ s ≠ [] ∧ s.length ≤ 32
instance (s : Bs) : Decidable (nameS s) := inferInstanceAs (Decidable (_ ∧ _))
abbrev bsK (k : IK) : List Bs := [k.s, k.z, k.u, k.h] ++ k.r
def chkN (p : PR) (k : IK) : Int :=
 if chkR p ≠ 0 then chkR p else if ¬ ((okN k.g.1 ∧ okN k.g.2) ∧ ∀ x ∈ bsK k, okN x) then 3 else if ¬ nameS k.name then 1
 else if k.g.2 ≠ [] ∨ chkG k.g ≠ 0 then 13 else if k.r.length < 2 ∨ 18 < k.r.length then 6
 else if ¬ ((∀ x ∈ bsK k, elG k.g x) ∧ k.s ≠ canon 1) then 13 else 0
theorem chkN_ok {p : PR} {k : IK} (h : chkN p k = 0) : chkR p = 0 ∧ (okN k.g.1 ∧ okN k.g.2) ∧ (∀ x ∈ bsK k, okN x) ∧ k.g.2 = [] ∧ chkG k.g = 0 ∧ 2 ≤ k.r.length ∧ k.r.length ≤ 18 ∧ (∀ x ∈ bsK k, elG k.g x) := by
 unfold chkN at h
 split at h
 ·rename_i h1; exact absurd h h1
 ·rename_i h1; split at h
  ·simp at h
  ·rename_i h2; split at h
   ·simp at h
   ·split at h
    ·simp at h
    ·rename_i h4; split at h
     ·simp at h
     ·rename_i h5; split at h
      ·simp at h
      ·rename_i h6
       have h2 := Decidable.not_not.1 h2; have h6 := Decidable.not_not.1 h6
       refine ⟨Decidable.not_not.1 h1, h2.1, h2.2, Decidable.byContradiction fun h => h4 (Or.inl h), Decidable.byContradiction fun h => h4 (Or.inr h), by omega, by omega, h6.1⟩
theorem powM_ok {x : Bs} {z : Zs} {m : Bs} (hx : okN x) (hz : okZ z) (hm : okN m) (hm0 : m ≠ []) (hg : Nat.gcd (val x) (val m) = 1) : powM x z m = (canon (powI (val m) (val x) (zv z)), 0) := by
 rw [powM, if_pos ⟨hx, hz, hm⟩, if_neg hm0, powI, zv_abs]
 by_cases h : z.1 = true
 ·rw [if_pos h, if_pos hg, if_pos ((okZ_neg hz).2 h)]
 ·rw [if_neg h, if_neg (fun h2 => h ((okZ_neg hz).1 h2))]
theorem rraw_c {g : Gp} {x : Bs} {z : Zs} {w : World} (hm8 : g.1.length ≤ 8) :
  Cw 113 #[gV g, .string (S x), zV z] w (.string (S (powM x z g.1).1)) := by
 refine En [] [(0, gV g), (1, .string (S x)), (2, zV z)] Tryz.func113 rfl Tryz.ntmps113 rfl (Ac rfl (Ac rfl (Ac rfl (An _)))) Fn ?_
 refine Cs ?_
 refine Kh rfl (Oy rfl rfl) ?_
 intro b3
 refine Kh rfl (Oy rfl rfl) ?_
 intro b5
 refine Ka rfl (Nt (Cs (Km rfl ?_)))
 refine Kq rfl (lda rfl rfl .tc u50 rfl ?_) ?_
 ·kernel_rfl
 refine Kq rfl (Fa (q := 0) rfl rfl u26 rfl rfl) (Kq rfl (Ld rfl rfl .tc u22) ?_)
 refine Ku rfl (Oc rfl rfl (Kv fun w hS => rpower_c (a := x) (x := z) (m := g.1) (by assumption))) ?_
 refine Km rfl (Kq rfl (Re rfl rfl rfl) (Kq rfl (Re rfl rfl rfl) (Ka rfl (Ka rfl (Nt (Cs (Km rfl (Ka rfl (Nt (Ce ?_))))))))))
 exact R1 rfl rfl (by rfl)
theorem rproduct_c {g : Gp} {l : List Bs} {es : List Zs} {a b : Option Addr} {c d : Nat} {w : World} {ok : Nat → Prop} (hF1 : (Fact.sl a (strs l)).holds ok w) (hF2 : (Fact.sl b (ints es)).holds ok w) (hl : l.length ≤ 100000) (hes : es.length ≤ 100000) (hm8 : g.1.length ≤ 8) :
  Cw 70 #[gV g, .slice a l.length c, .slice b es.length d] w (NE (prodS g l es)) := by
 have hnz : ∀ x : Int, chkP g l es (decide (l.length = es.length)) = x → x ≠ 0 → prodS g l es = ([], x) := fun x h h0 => by rw [prodS, if_neg (by rw [h]; exact h0), h]
 refine En [Fact.sl a (strs l), Fact.sl b (ints es)] [(0, gV g), (1, .slice a l.length c), (2, .slice b es.length d)] Tryz.func70 rfl Tryz.ntmps70 rfl (Ac rfl (Ac rfl (Ac rfl (An _)))) (Fc (fact_any hF1) (Fc (fact_any hF2) Fn)) ?_
 refine Cs ?_
 refine Kh rfl (Oy rfl rfl) ?_
 intro b3
 refine Ka rfl (Ka rfl (Nt (Cq (Cs (Ka rfl (Nt (Cb ?_)))))))
 refine Lp (σ := Nat) [(1, _), (2, _), (3, _)] (fun gq => [(8, .int .i64 (gq : Int))]) (fun gq => gq ≤ l.length ∧ ∀ x ∈ l.take gq, okN x) (fun gq => l.length - gq) (0) (S3 rfl rfl rfl) (S1 rfl) (by (try dsimp only); exact ⟨Nat.zero_le _, by simp⟩) ?_
 rintro i hinv1; (try dsimp only at hinv1 ⊢)
 obtain ⟨hi, hok⟩ := hinv1
 refine Cq (Cs (Km rfl (Km rfl (Kq rfl (rd_len rfl rfl u31) (Kq rfl (rd_lss rfl rfl rfl) (Nt ?_))))))
 refine Cd rfl (fun hc17 => ?_) (fun hc17 => ?_)
 ·(try simp only [sB] at hc17)
  have hil : i < l.length := by omega
  refine Ck (Xa (Cq (Cb (Cs (Km rfl (Km rfl ?_))))))
  refine Kq rfl (Ib rfl rfl rfl u31 (by omega) (by (rw [List.length_map]; omega))) ?_
  refine Kq rfl (ldm rfl rfl u22 rfl (by assumption)) ?_
  refine Ku rfl (Oc rfl rfl (Kv fun w hS => rvalid_c (a := l.getD i default))) ?_
  refine Kq rfl (Rt rfl rfl) (Nt ?_)
  refine Cd rfl (fun hc25 => ?_) (fun hc25 => ?_)
  ·(try simp only [sB] at hc25)
   refine Cs (Ka rfl (Ka rfl (Nt (Ce (Xf (Xb (Xb (Xf (Xb ?_)))))))))
   exact R2 rfl rfl rfl (by rw [hnz 3 (by rw [chkP, if_pos (fun h => absurd (h _ (getD_mem _ _ hil)) (by simpa using hc25))]) (by decide)]; rfl)
  ·(try simp only [sB] at hc25)
   refine Ck (Xd (Xa (Cg (Km rfl (Kq rfl (Rz rfl rfl rfl (by omega)) (Ka rfl (Nn ?_)))))))
   refine Ly (i + 1) (by (try dsimp only); omega) (S3 rfl rfl rfl) (by refine (Sc ?_ (S0 _)) <;> (rfl)) ?_ (by (exact fun _ h => h))
   (try dsimp only)
   exact ⟨hil, all_take hil hok (by simpa using hc25)⟩
 ·(try simp only [sB] at hc17)
  refine Cx (Xc (Xc (Xe ?_)))
  obtain rfl : i = l.length := by omega
  rw [List.take_length] at hok
  refine Xa (Cq (Cs (Ka rfl (Nt (Cb ?_)))))
  refine Lp (σ := Nat) [(1, _), (2, _), (3, _)] (fun gq => [(9, .int .i64 (gq : Int))]) (fun gq => gq ≤ es.length ∧ ∀ x ∈ es.take gq, okZ x) (fun gq => es.length - gq) (0) (S3 rfl rfl rfl) (S1 rfl) (by (try dsimp only); exact ⟨Nat.zero_le _, by simp⟩) ?_
  rintro k hinv2; (try dsimp only at hinv2 ⊢)
  obtain ⟨hk, hokz⟩ := hinv2
  refine Cq (Cs (Km rfl (Km rfl (Kq rfl (rd_len rfl rfl u54) (Kq rfl (rd_lss rfl rfl rfl) (Nt ?_))))))
  refine Cd rfl (fun hc29 => ?_) (fun hc29 => ?_)
  ·(try simp only [sB] at hc29)
   have hkl : k < es.length := by omega
   refine Ck (Xa (Cq (Cb (Cs (Km rfl (Km rfl ?_))))))
   refine Kq rfl (Ia rfl rfl rfl u54 (by kernel_rfl : _ = some 2) (by omega) (by (rw [flatMap_len _ _ 2 (fun _ => rfl)]; omega))) ?_
   refine Kq rfl (ldma _ rfl rfl u50 rfl (by kernel_rfl : _ = some 2) (fun _ => rfl) (by decide) rfl (by assumption)) ?_
   refine Ku rfl (Oc rfl rfl (Kv fun w hS => rzvalid_c (x := es.getD k default))) ?_
   refine Kq rfl (Rt rfl rfl) (Nt ?_)
   refine Cd rfl (fun hc37 => ?_) (fun hc37 => ?_)
   ·(try simp only [sB] at hc37)
    refine Cs (Ka rfl (Ka rfl (Nt (Ce (Xf (Xb (Xb (Xf (Xb ?_)))))))))
    exact R2 rfl rfl rfl (by rw [hnz 3 (by rw [chkP, if_neg (fun h => h hok), if_pos (fun h => absurd (h _ (getD_mem _ _ hkl)) (by simpa using hc37))]) (by decide)]; rfl)
   ·(try simp only [sB] at hc37)
    refine Ck (Xd (Xa (Cg (Km rfl (Kq rfl (Rz rfl rfl rfl (by omega)) (Ka rfl (Nn ?_)))))))
    refine Ly (k + 1) (by (try dsimp only); omega) (S3 rfl rfl rfl) (by refine (Sc ?_ (S0 _)) <;> (rfl)) ?_ (by (exact fun _ h => h))
    (try dsimp only)
    exact ⟨hkl, all_take hkl hokz (by simpa using hc37)⟩
  ·(try simp only [sB] at hc29)
   refine Cx (Xc (Xc (Xe ?_)))
   obtain rfl : k = es.length := by omega
   rw [List.take_length] at hokz
   refine Xa (Cq (Cs ?_))
   refine Kq rfl (lda rfl rfl .tc u26 rfl ?_) ?_
   ·kernel_rfl
   refine Ku rfl (Oc rfl rfl (Kv fun w hS => rgcheck_c (g := g))) ?_
   refine Ka rfl (Nt (Cs (Km rfl (Kq rfl (rd_neq rfl rfl rfl) (Nt ?_)))))
   refine Cd rfl (fun hc41 => ?_) (fun hc41 => ?_)
   ·(try simp only [sB] at hc41)
    have hgn : chkG g ≠ 0 := by simpa using hc41
    refine Cs (Km rfl (Ka rfl (Ka rfl (Nt (Ce (Xb ?_))))))
    exact R2 rfl rfl rfl (by rw [hnz (chkG g) (by rw [chkP, if_neg (fun h => h hok), if_neg (fun h => h hokz), if_pos hgn]) hgn]; rfl)
   ·(try simp only [sB] at hc41)
    have hg : chkG g = 0 := by simpa using hc41
    obtain ⟨hm, hq, hm2, _⟩ := chkG_ok hg
    have hm0 : g.1 ≠ [] := fun h => by rw [h] at hm2; exact absurd hm2 (by decide)
    have hp := vpos hm hm0
    have hm64 := val_8 hm8
    refine Ck (Xa (Cq (Cs (Km rfl (Kq rfl (rd_len rfl rfl u31) (Km rfl (Kq rfl (rd_len rfl rfl u54) (Kq rfl (rd_neq rfl rfl rfl) ?_))))))))
    refine Ns 47 rfl (v' := .bool (decide (l.length ≠ es.length))) (congrArg Value.bool (by simp; omega)) ?_
    refine Nt ?_
    refine Cd rfl (fun hc47 => ?_) (fun hc47 => ?_)
    ·(try simp only [sB] at hc47)
     refine Cs (Ka rfl (Ka rfl (Nt (Ce (Xb ?_)))))
     exact R2 rfl rfl rfl (by rw [hnz 6 (by rw [chkP, if_neg (fun h => h hok), if_neg (fun h => h hokz), if_neg (fun h => h hg), if_pos (decide_eq_false hc47)]) (by decide)]; rfl)
    ·(try simp only [sB] at hc47)
     have hlen : l.length = es.length := by omega
     refine Ck (Xa (Cq (Cs (Ka rfl (Nt (Cb ?_))))))
     refine Lp (σ := Nat) [(1, _), (2, _), (3, _)] (fun gq => [(11, .int .i64 (gq : Int))]) (fun gq => gq ≤ l.length ∧ ∀ x ∈ l.take gq, elG g x) (fun gq => l.length - gq) (0) (S3 rfl rfl rfl) (S1 rfl) (by (try dsimp only); exact ⟨Nat.zero_le _, by simp⟩) ?_
     rintro i3 hinv3; (try dsimp only at hinv3 ⊢)
     obtain ⟨hi3, hel⟩ := hinv3
     refine Cq (Cs (Km rfl (Km rfl (Kq rfl (rd_len rfl rfl u31) (Kq rfl (rd_lss rfl rfl rfl) (Nt ?_))))))
     refine Cd rfl (fun hc51 => ?_) (fun hc51 => ?_)
     ·(try simp only [sB] at hc51)
      have hil3 : i3 < l.length := by omega
      refine Ck (Xa (Cq (Cb (Cq ?_))))
      refine Cf [0, 1, 2, 3, 4, 5, 6] [] [0, 0, 0, 0, 0, 1, 0] (by kernel_rfl) (by kernel_rfl) rfl ?_
      refine Kj rfl (lda rfl rfl .tc u26 rfl ?_) ?_
      ·kernel_rfl
      refine Kj rfl (Rm rfl rfl) (Kj rfl (Rm rfl rfl) ?_)
      refine Kj rfl (Ib rfl rfl rfl u31 (by omega) (by (rw [List.length_map]; omega))) ?_
      refine Kj rfl (ldm rfl rfl u22 rfl (by assumption)) ?_
      refine Jv rfl rfl rfl rfl rfl (fun ext => Oc rfl rfl (Kv fun w hS => rghas0_c (g := g) (x := l.getD i3 default) (by exact hg) (by exact hok _ (getD_mem _ _ hil3)) (by exact hm8))) ?_
      refine Kj rfl (Rt rfl rfl) ?_
      refine WJ.nil ?_
      refine Nt ?_
      refine Cd rfl (fun hc60 => ?_) (fun hc60 => ?_)
      ·(try simp only [sB] at hc60)
       refine Cs (Ka rfl (Ka rfl (Nt (Ce (Xf (Xb (Xb (Xf (Xb ?_)))))))))
       exact R2 rfl rfl rfl (by rw [hnz 13 (by rw [chkP, if_neg (fun h => h hok), if_neg (fun h => h hokz), if_neg (fun h => h hg), if_neg (by simp [hlen]), if_pos (fun h => absurd (h _ (getD_mem _ _ hil3)) (by simpa using hc60))]) (by decide)]; rfl)
      ·(try simp only [sB] at hc60)
       refine Ck (Xd (Xa (Cg (Km rfl (Kq rfl (Rz rfl rfl rfl (by omega)) (Ka rfl (Nn ?_)))))))
       refine Ly (i3 + 1) (by (try dsimp only); omega) (S3 rfl rfl rfl) (by refine (Sc ?_ (S0 _)) <;> (rfl)) ?_ (by (exact fun _ h => h))
       (try dsimp only)
       exact ⟨hil3, all_take hil3 hel (by simpa using hc60)⟩
     ·(try simp only [sB] at hc51)
      refine Cx (Xc (Xc (Xe ?_)))
      obtain rfl : i3 = l.length := by omega
      rw [List.take_length] at hel
      have h0 : chkP g l es (decide (l.length = es.length)) = 0 := by rw [chkP, if_neg (fun h => h hok), if_neg (fun h => h hokz), if_neg (fun h => h hg), if_neg (by simp [hlen]), if_neg (fun h => h hel)]
      obtain ⟨Z, hZ⟩ : ∃ Z, Z = l.zip es := ⟨_, rfl⟩
      have hZl : Z.length = l.length := by rw [hZ]; simp; omega
      have hr : prodS g l es = (canon (prodL (fun p => powI (val g.1) (val p.1) (zv p.2)) Z % val g.1), 0) := by rw [prodS, if_pos h0, hZ]
      have hmk : ∀ k, okN (canon (k % val g.1)) ∧ (canon (k % val g.1)).length ≤ 8 := fun k => lt_len (Nat.mod_lt _ hp) hm8
      refine Xa (Cs (Ka rfl ?_))
      refine Ns 12 rfl (v' := .string (S (canon (prodL (fun p => powI (val g.1) (val p.1) (zv p.2)) (Z.take 0) % val g.1)))) (congrArg (fun l => Value.string (S l)) (by rw [List.take_zero, prodL, Nat.mod_eq_of_lt (by omega), one_canon])) ?_
      refine Nt (Cq (Cs (Ka rfl (Nt (Cb ?_)))))
      refine Lp (σ := Nat) [(1, _), (2, _), (3, _)] (fun gq => [(12, .string (S (canon (prodL (fun p => powI (val g.1) (val p.1) (zv p.2)) (Z.take gq) % val g.1)))), (13, .int .i64 (gq : Int))]) (fun gq => gq ≤ l.length) (fun gq => l.length - gq) (0) (S3 rfl rfl rfl) (S2 rfl rfl) (by (try dsimp only); omega) ?_
      rintro i4 hinv4; (try dsimp only at hinv4 ⊢)
      obtain hi4 := hinv4
      refine Cq (Cs (Km rfl (Km rfl (Kq rfl (rd_len rfl rfl u31) (Kq rfl (rd_lss rfl rfl rfl) (Nt ?_))))))
      refine Cd rfl (fun hc64 => ?_) (fun hc64 => ?_)
      ·(try simp only [sB] at hc64)
       have hil4 : i4 < l.length := by omega
       have hx := hel _ (getD_mem l i4 hil4)
       have hz := hokz _ (getD_mem es i4 (by omega))
       have hpw := powM_ok hx.1 hz hm hm0 (elG_gcd hg hx)
       have hpl : powI (val g.1) (val (l.getD i4 default)) (zv (es.getD i4 default)) < val g.1 := Nat.mod_lt _ hp
       have hpk := lt_len hpl hm8
       have hsu := prodL_succ (fun p => powI (val g.1) (val p.1) (zv p.2)) Z i4 (by omega)
       rw [show Z.getD i4 default = (l.getD i4 default, es.getD i4 default) by rw [hZ]; exact getD_zip hil4 (by omega)] at hsu
       have hmm := mulM_ok (hmk (prodL (fun p => powI (val g.1) (val p.1) (zv p.2)) (Z.take i4))).1 hpk.1 hm hm0
       rw [val_canon, val_canon, mml, ← hsu] at hmm
       refine Ck (Xa (Cq (Cb ?_)))
       refine Cf [1, 2, 3, 4, 5, 6, 7, 8, 9, 10, 0, 11, 12, 13, 14, 15, 16, 17] [] [0, 0, 0, 0, 0, 0, 0, 0, 0, 0, 1, 0, 0, 1, 0, 0, 0, 0] (by kernel_rfl) (by kernel_rfl) rfl ?_
       refine Kj rfl (lda rfl rfl .tc u26 rfl ?_) ?_
       ·kernel_rfl
       refine Kj rfl (Rm rfl rfl) (Kj rfl (Rm rfl rfl) ?_)
       refine Kj rfl (Ib rfl rfl rfl u31 (by omega) (by (rw [List.length_map]; omega))) ?_
       refine Kj rfl (ldm rfl rfl u22 rfl (by assumption)) ?_
       refine Kj rfl (Rm rfl rfl) (Kj rfl (Rm rfl rfl) ?_)
       refine Kj rfl (Ia rfl rfl rfl u54 (by kernel_rfl : _ = some 2) (by omega) (by (rw [flatMap_len _ _ 2 (fun _ => rfl)]; omega))) ?_
       refine Kj rfl (ldma _ rfl rfl u50 rfl (by kernel_rfl : _ = some 2) (fun _ => rfl) (by decide) rfl (by omega)) ?_
       refine Jv rfl rfl rfl rfl rfl (fun ext => Oc rfl rfl (Kv fun w hS => (by have := rraw_c (w := w) (g := g) (x := l.getD i4 default) (z := es.getD i4 default) hm8; rw [hpw] at this; exact this))) ?_
       refine Kj rfl (Rm rfl rfl) (Kj rfl (Fa (q := 0) rfl rfl u26 rfl rfl) (Kj rfl (Ld rfl rfl .tc u22) ?_))
       refine Jv rfl rfl rfl rfl rfl (fun ext => Oc rfl rfl (Kv fun w hS => (by have := rmmul_c (w := w) (a := canon (prodL (fun p => powI (val g.1) (val p.1) (zv p.2)) (Z.take i4) % val g.1)) (b := canon (powI (val g.1) (val (l.getD i4 default)) (zv (es.getD i4 default)))) (m := g.1) hm8; rw [hmm] at this; exact this))) ?_
       refine Kj rfl (Rm rfl rfl) (Kj rfl (Re rfl rfl rfl) (Kj rfl (Re rfl rfl rfl) (Kj rfl (Ra rfl rfl) ?_)))
       refine WJ.nil ?_
       refine Nn (Xd (Xa (Cg (Km rfl (Kq rfl (Rz rfl rfl rfl (by omega)) (Ka rfl (Nn ?_)))))))
       refine Ly (i4 + 1) (by (try dsimp only); omega) (S3 rfl rfl rfl) (by refine (Sc ?_ (Sc ?_ (S0 _))) <;> (rfl)) ?_ (by (exact fun _ h => h))
       (try dsimp only)
       omega
      ·(try simp only [sB] at hc64)
       refine Cx (Xc (Xc (Xe ?_)))
       obtain rfl : i4 = l.length := by omega
       rw [List.take_of_length_le (Nat.le_of_eq hZl)]
       refine Xa (Cs (Km rfl (Ka rfl (Ka rfl (Nt (Ce ?_))))))
       exact R2 rfl rfl rfl (by rw [hr]; rfl)
section
variable {ds : List Deferred} {P : Program} {o : Oper} {n : Nat} {L : Slots} {Z : World → Prop} {x y : Operand} {t t2 : TypeId} {xs ys : Array Value} {b : Bool}
theorem rd_neA (hop : o.op = .binOp .neq t x y t2) (hx : oper L x = some (.agg xs)) (hy : oper L y = some (.agg ys)) (hg : P.eqGuardType P.depth t = false) (hr : ∀ w : World, (binOp .eql t (.agg xs) (.agg ys)).run P w = .ok (.bool b) w) : Rd ds P o n L Z (.bool (!b)) :=
 run_bin hop hx hy (fun w => run_eqGuard_agg w _ _ _ _ _ _ hg) fun w => by
  have := hr w
  rw [run_eql_struct] at this
  rw [run_neq_struct]
  cases h : (Op.equalIn 10000 t (.agg xs) (.agg ys)).run P w with
  | ok c w' => rw [h] at this; simp at this ⊢; exact ⟨by rw [this.1], this.2⟩
  | halt c w' => rw [h] at this; simp at this
end
theorem eql_api_Int (p q : Bool) (a b : Bs) (w : World) : (binOp .eql 50 (.agg #[.bool p, .string (S a)]) (.agg #[.bool q, .string (S b)])).run Tryz.prog w = .ok (.bool (decide (p = q ∧ a = b))) w := by
 rw [run_eql_struct, run_equalIn_agg w _ _ _ _ (by kernel_rfl) (by kernel_rfl)]
 have h1 : Tryz.prog.underlying 4 = some .bool := by kernel_rfl
 have h2 : Tryz.prog.underlying 22 = some .string := by kernel_rfl
 have hf : (Tryz.prog.fieldsOf 50).toList = [⟨"Neg", 4, 0, false, "", "", 0⟩, ⟨"Abs", 22, 1, false, "", "", 8⟩] := by kernel_rfl
 have e1 : ∀ (u v : Value) (w : World), (part 4 #[u, v] 0).run Tryz.prog w = .ok u w := fun u v w => run_part_plain w (by kernel_rfl) rfl
 have e2 : ∀ (u v : Value) (w : World), (part 22 #[u, v] 1).run Tryz.prog w = .ok v w := fun u v w => run_part_plain w (by kernel_rfl) rfl
 have hb : ∀ (w : World), (Op.equalIn 9999 4 (.bool p) (.bool q)).run Tryz.prog w = .ok (p == q) w := fun w => run_equalIn_bool' w 9998 _ p q h1
 have hs : ∀ (w : World), (Op.equalIn 9999 22 (.string (S a)) (.string (S b))).run Tryz.prog w = .ok (decide (a = b)) w := fun w => by
  rw [run_equalIn_string w 9998 _ _ _ h2, str_eq]
 rw [hf]
 simp only [Op.eqFields, Sem.run_bind, e1, e2, hb, hs, Result.andThen_ok, Sem.run_ite, Sem.run_pure]
 cases p <;> cases q <;> by_cases h : a = b <;> simp [h]
end Go.Proofs.YthkmpjobfdeoaaaGreatDoor
namespace Go.Proofs.YthkmpjobfdeoaaaGreatDoor
set_option linter.unusedSimpArgs false
set_option linter.unusedVariables false
open Go.ChangeShapes Go.WideShapes Go.ChangeAt Go.RowKit
section
variable {H : Type} {enc : TypeId × Value → H} {P : Program} {w : World} {spare : Nat → Bool} {held : Bool}
theorem cell_block {b i : Nat} {v : Value} (h : w.cell? ⟨b, i, none⟩ = some v) : ∃ cs T fz, w.heap[b]? = some (.cells cs T fz) ∧ cs[i]? = some v := by
 unfold World.cell? at h
 split at h
 ·rename_i cs T fz hb
  refine ⟨cs, T, fz, hb, ?_⟩
  simpa using h
 ·simp at h
theorem slfact_of {a : Addr} {xs : List Value} (h : ∀ i v, xs[i]? = some v → w.cell? (a.add i) = some v) : (Fact.sl (some a) xs).holds (fun _ => True) w := by
 cases xs with
 | nil => exact .inl rfl
 | cons x xs =>
  right
  obtain ⟨b, off, spot⟩ := a
  have hspot : spot = none := by simpa [Addr.add] using World.cell?_spot (h 0 x rfl)
  subst hspot
  have h0 := h 0 x rfl
  rw [Addr.add_lit] at h0
  obtain ⟨cs, T, fz, hb, _⟩ := cell_block h0
  refine ⟨b, off, cs, T, fz, rfl, trivial, hb, fun i hi => ?_⟩
  have h1 := h i _ (List.getElem?_eq_getElem hi)
  rw [Addr.add_lit] at h1
  obtain ⟨cs', T', fz', hb', h2⟩ := cell_block h1
  rw [hb] at hb'; cases hb'
  rw [h2, List.getElem?_eq_getElem hi]
end
end Go.Proofs.YthkmpjobfdeoaaaGreatDoor
namespace Go.Proofs.YthkmpjobfdeoaaaGreatDoor
set_option linter.unusedSimpArgs false
set_option linter.unusedVariables false
open Go.ChangeShapes Go.WideShapes Go.ChangeAt Go.RowKit
structure Sl (α : Type) where
 a : Option Addr
 l : List α
 cap : Nat
abbrev Sl.val {α : Type} (s : Sl α) : Value := .slice s.a s.l.length s.cap
section
variable {H : Type} {enc : TypeId × Value → H} {P : Program} {w : World} {spare : Nat → Bool} {held : Bool} {fuel : Nat} {t e : TypeId} {cs : List Value} {x : DataW H × List MemPlace}
theorem op_int {k : IntKind} (ht : P.underlying t = some (.int k)) (h : DataW.trod enc P w 0 spare held fuel t cs = some x) : ∃ n : Int, cs = [.int k n] ∧ (Lit.int k n).wf = true := by
 cases fuel with
 | zero => simp [DataW.trod] at h
 | succ n =>
  simp only [DataW.trod, ht] at h
  split at h <;> simp_all
theorem mapM_all {α β : Type} {f : α → Option β} : ∀ {l : List α} {r : List β}, l.mapM f = some r → ∀ y ∈ l, ∃ z, f y = some z
 | [], _, _, y, hy => by cases hy
 | a :: l, r, h, y, hy => by
  rw [List.mapM_cons] at h
  cases hf : f a with
  | none => simp [hf] at h
  | some z =>
   cases hr : l.mapM f with
   | none => simp [hf, hr] at h
   | some r' =>
    rcases List.mem_cons.1 hy with rfl | hy
    ·exact ⟨z, hf⟩
    ·exact mapM_all hr y hy
theorem op_struct {fs : Array Field} (ht : P.underlying t = some (.struct fs)) (h : DataW.trod enc P w 0 spare held fuel t cs = some x) :
  cs.length = P.cellsOf t ∧ ∃ m, ∀ f ∈ fs.toList, ∃ y, DataW.trod enc P w 0 spare held m f.type ((cs.drop f.offset).take (P.cellsOf f.type)) = some y := by
 cases fuel with
 | zero => simp [DataW.trod] at h
 | succ n =>
  simp only [DataW.trod, ht] at h
  split at h
  ·rename_i hl
   refine ⟨hl, n, fun f hf => ?_⟩
   obtain ⟨xs, hxs, _⟩ := Option.map_eq_some_iff.1 h
   exact mapM_all hxs f hf
  ·cases h
theorem cells?_get {a : Addr} {n : Nat} {ys : List Value} (h : w.cells? 0 a n = some ys) : ys.length = n ∧ ∀ i v, ys[i]? = some v → w.cell? (a.add i) = some v := by
 unfold World.cells? at h
 simp only [Nat.zero_le, if_true] at h
 have key : ∀ (l : List Nat) (ys : List Value), (l.mapM fun i => w.cell? (a.add i)) = some ys → ys.length = l.length ∧ ∀ (i : Nat) (v : Value), ys[i]? = some v → ∃ j : Nat, l[i]? = some j ∧ w.cell? (a.add j) = some v := by
  intro l
  induction l with
  | nil => intro ys h; simp at h; subst h; simp
  | cons j l ih =>
   intro ys h
   rw [List.mapM_cons] at h
   cases hf : w.cell? (a.add j) with
   | none => simp [hf] at h
   | some z =>
    cases hr : l.mapM fun i => w.cell? (a.add i) with
    | none => simp [hf, hr] at h
    | some r' =>
     simp [hf, hr] at h
     subst h
     obtain ⟨h1, h2⟩ := ih r' hr
     refine ⟨by simp [h1], fun i v hi => ?_⟩
     cases i with
     | zero => simp at hi; subst hi; exact ⟨j, rfl, hf⟩
     | succ i => simp at hi; simpa using h2 i v hi
 obtain ⟨h1, h2⟩ := key _ _ h
 refine ⟨by simpa using h1, fun i v hi => ?_⟩
 obtain ⟨j, hj, hc⟩ := h2 i v hi
 have : i < n := by
  have := (List.getElem?_eq_some_iff.1 hj).1
  simpa using this
 rw [List.getElem?_range this] at hj
 cases hj
 exact hc
theorem fm_one {α : Type} (f : α → Value) (l : List α) : l.flatMap (fun x => [f x]) = l.map f := by induction l with | nil => rfl | cons x l ih => simp [ih]
theorem sl_map {α : Type} {a : Option Addr} {l : List α} {f : α → Value} {ok : Nat → Prop} (h : (Fact.sl a (l.flatMap fun x => [f x])).holds ok w) : (Fact.sl a (l.map f)).holds ok w := by rw [fm_one] at h; exact h
end
end Go.Proofs.YthkmpjobfdeoaaaGreatDoor
