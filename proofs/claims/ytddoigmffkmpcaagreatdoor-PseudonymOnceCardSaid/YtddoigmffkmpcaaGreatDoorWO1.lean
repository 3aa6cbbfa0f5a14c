/-
  Parts of the walk: Pso Pwo.
-/
import Derived.Test.YtddoigmffkmpcaaGreatDoorI17
namespace Go.Proofs.YtddoigmffkmpcaaGreatDoor
open Go.RowKit
set_option linter.unusedSimpArgs false
set_option linter.unusedVariables false
set_option maxHeartbeats 600000
set_option maxRecDepth 20000
theorem small_primeB : ((List.range 201).all fun q => !isP q || (List.range (q + 1)).all fun d => d == 0 || q % d != 0 || d == 1 || d == q) = true := by decide +kernel
theorem small_prime (q : Nat) (h1 : q ≤ 200) (h2 : isP q = true) (d : Nat) (h3 : d ≤ q) (h4 : 0 < d) (h5 : q % d = 0) : d = 1 ∨ d = q := by
 have a := List.all_eq_true.1 small_primeB q (List.mem_range.2 (by omega))
 rw [h2, Bool.not_true, Bool.false_or] at a
 have b := List.all_eq_true.1 a d (List.mem_range.2 (by omega))
 simp [h5] at b; omega
theorem hshF_ne {g : Gp} {l : Bs} : ∀ (f c x : Nat), hshF g l f c = some x → x ≠ 0 ∧ x ≠ 1
 | 0, c, x, h => by cases h
 | f + 1, c, x, h => by
  unfold hshF at h; split at h
  ·rename_i h1; injection h with h; subst h; exact h1
  ·exact hshF_ne f (c + 1) x h
theorem hsh_ne {g : Gp} {l : Bs} (h : (hshS g l).2 = 0) : val (hshS g l).1 ≠ 1 := by
 unfold hshS at h ⊢
 split at h
 ·simp at h
 ·rename_i h1; rw [if_neg h1]; split at h
  ·simp at h
  ·rename_i h2; rw [if_neg h2]; split at h
   ·simp at h
   ·rename_i h3; rw [if_neg h3]
    cases hf : hshF g l 64 0 with
    | none => rw [hf] at h; simp at h
    | some x => simp only [val_canon]; exact (hshF_ne _ _ _ hf).2
theorem bse_ne {k : PK} {s : Bs} (h : (bseS k s).2 = 0) : val (bseS k s).1 ≠ 1 := by
 unfold bseS at h ⊢
 split at h
 ·rename_i h1; exact absurd h h1
 ·rename_i h1; rw [if_neg h1]; split at h
  ·simp at h
  ·rename_i h2; rw [if_neg h2]; split at h
   ·simp at h
   ·rename_i h3; rw [if_neg h3]; split at h
    ·simp at h
    ·rename_i h4; rw [if_neg h4]; exact hsh_ne h
theorem nym_of {k : PK} {s : Bs} {x : Nat} (hb : (bseS k s).2 = 0) (hx : x < Big) : nymS k s (canon x) = (canon (val (bseS k s).1 ^ x % val k.1.1), 0) ∧ elG k.1 (nymS k s (canon x)).1 := by
 obtain ⟨hg, hq, hB⟩ := bse_ok hb
 have hxo : okN (canon x) := okN_can hx
 have hz : okZ (false, canon x) := ⟨hxo, fun h => by cases h.1⟩
 have hP := prodS_one hg hB hz
 rw [show zv (false, canon x) = (val (canon x) : Int) from rfl, val_canon, powI_nat] at hP
 have hN : nymS k s (canon x) = (canon (val (bseS k s).1 ^ x % val k.1.1), 0) := by
  rw [nymS, if_neg (fun h => h hxo), if_neg (fun h => h hb), fromZ_ok hxo, hP]
 have := elG_prod (g := k.1) (l := [(bseS k s).1]) (es := [(false, canon x)]) (by rw [hP])
 rw [hP] at this
 exact ⟨hN, by rw [hN]; exact this⟩
theorem ps_inj {k : PK} {s : Bs} {x y : Nat} (hb : (bseS k s).2 = 0) (hq : val k.1.2 ≤ 200) (hp : isP (val k.1.2) = true) (hx : x < val k.1.2) (hy : y < val k.1.2) (h : (nymS k s (canon x)).1 = (nymS k s (canon y)).1) : x = y := by
 obtain ⟨hg, hq0, hB⟩ := bse_ok hb
 have hBig : 200 < Big := by decide +kernel
 have hqp : 0 < val k.1.2 := pos_of_ne (chkG_ok hg).2.1 hq0
 have hm2 := (chkG_ok hg).2.2.1
 rw [(nym_of hb (by omega)).1, (nym_of hb (by omega)).1] at h
 have h : val (bseS k s).1 ^ x % val k.1.1 = val (bseS k s).1 ^ y % val k.1.1 := canon_inj.1 h
 have h1 : val (bseS k s).1 ^ val k.1.2 % val k.1.1 = 1 % val k.1.1 := by
  have h2 := hB.2.2.2; rw [if_neg hq0] at h2
  rw [h2, Nat.mod_eq_of_lt (by omega)]
 obtain ⟨d, hd, hdq, hk⟩ := period (by omega) (elG_gcd hg hB) hqp h1
 have hdl : d ≤ val k.1.2 := Nat.le_of_dvd hqp (Nat.dvd_of_mod_eq_zero hdq)
 rcases small_prime _ hq hp d hdl hd hdq with rfl | rfl
 ·exfalso
  have := (hk 1 0).2 (by rw [Nat.mod_one])
  rw [Nat.pow_one, Nat.pow_zero, Nat.mod_eq_of_lt hB.2.2.1, Nat.mod_eq_of_lt (by omega)] at this
  exact bse_ne hb this
 ·have := (hk x y).1 h
  rwa [Nat.mod_eq_of_lt hx, Nat.mod_eq_of_lt hy] at this
theorem small_ordo {k : PK} {s : Bs} {l : List Bs} (h : sml k s l) (hb : (bseS k s).2 = 0) : smallN k.1.2 = (val k.1.2, true) := by
 have h8 := h.1 k.1.2 (by simp [smL])
 rw [smallN, if_pos ⟨(chkG_ok (bse_ok hb).1).2.1, by omega⟩]
theorem p9_prime {g : Gp} (h : chkP9 g = 0) : isP (val g.2) = true := by
 cases hp : isP (val g.2)
 ·exfalso
  unfold chkP9 at h
  split at h
  ·simp at h
  ·split at h
   ·simp at h
   ·split at h
    ·simp at h
    ·split at h
     ·simp at h
     ·simp at h
 ·rfl
abbrev nyL (k : PK) (s : Bs) (j : Nat) : List (Bs × Value) := (List.range j).map fun i => ((nymS k s (canon i)).1, Value.bool true)
theorem nyL_succ (k : PK) (s : Bs) (j : Nat) : nyL k s (j + 1) = nyL k s j ++ [((nymS k s (canon j)).1, Value.bool true)] := by
 simp only [nyL, List.range_succ, List.map_append, List.map_cons, List.map_nil]
theorem psonce_l {k : PK} {s : Bs} {w : World} (hT : Tab w) (hD : TabD w) :
  Cw 5 #[pkV k, .string (S s)] w (.bool true) := by
 refine En [] [(0, pkV k), (1, .string (S s))] Tryz.func5 rfl Tryz.ntmps5 rfl (Ac rfl (Ac rfl (An _))) Fn ?_
 refine Cs ?_
 refine Kh rfl (Oy rfl rfl) ?_
 intro b2
 refine Ka rfl (Nt (Cq ?_))
 refine WC.joinP (σ := Unit) [(1, _), (2, _)] (fun gq => [(25, .bool (decide (¬ (sml k s [] ∧ valP k ∧ (bseS k s).2 = 0))))]) (fun gq => True) (S2 rfl rfl) ?_ ?_
 ·skip
  refine Cg ?_
  refine Kq rfl (lda rfl rfl .tc u26 rfl ?_) ?_
  ·kernel_rfl
  refine Km rfl ?_
  refine Ku rfl (Oc rfl rfl (Kv fun w hS => small48n_c (k := k) (s := s))) ?_
  refine Kq rfl (Rt rfl rfl) (Km rfl ?_)
  refine Nb 15 rfl (fun hg15 => ?_) (fun hg15 => ?_)
  ·(try simp only [sB] at hg15)
   refine Kt rfl (Kt rfl (Kt rfl (Kq rfl (Rp rfl rfl rfl) (Km rfl (Kt rfl (Kt rfl (Kt rfl (Kt rfl (Kq rfl (Rp rfl rfl rfl) (Nn ?_))))))))))
   refine WX.joinP (()) (S2 rfl rfl) (by refine (Sc ?_ (S0 _)) <;> ((refine slot_b rfl ?_; (try dsimp only); (simp [*]; done)))) ?_ (by (exact fun _ h => h))
   (try dsimp only)
   done
  ·(try simp only [sB] at hg15)
   refine Kq rfl (lda rfl rfl .tc u26 rfl ?_) ?_
   ·kernel_rfl
   refine Ku rfl (Oc rfl rfl (Kv fun w hS => valid48_c (k := k) (by exact (sml_b (show sml k s [] by assumption)).1) (by exact tabd_st hD hS))) ?_
   refine Kq rfl (Rt rfl rfl) (Kq rfl (Rq rfl rfl rfl) (Km rfl ?_))
   refine Nb 20 rfl (fun hg20 => ?_) (fun hg20 => ?_)
   ·(try simp only [sB] at hg20)
    refine Kt rfl (Kt rfl (Kt rfl (Kt rfl (Kq rfl (Rp rfl rfl rfl) (Nn ?_)))))
    refine WX.joinP (()) (S2 rfl rfl) (by refine (Sc ?_ (S0 _)) <;> ((refine slot_b rfl ?_; (try dsimp only); (simp [*]; done)))) ?_ (by (exact fun _ h => h))
    (try dsimp only)
    done
   ·(try simp only [sB] at hg20)
    refine Kq rfl (lda rfl rfl .tc u26 rfl ?_) ?_
    ·kernel_rfl
    refine Km rfl ?_
    refine Ku rfl (Oc rfl rfl (Kv fun w hS => based48_c (k := k) (s := s) (by exact (sml_b (show sml k s [] by assumption)).1) (by (have := (sml_b (show sml k s [] by assumption)).2; omega)))) ?_
    refine Kq rfl (Rt rfl rfl) (Kq rfl (Rq rfl rfl rfl) (Nn ?_))
    refine WX.joinP (()) (S2 rfl rfl) (by refine (Sc ?_ (S0 _)) <;> ((refine slot_b rfl ?_; (try dsimp only); (simp [*]; done)))) ?_ (by (exact fun _ h => h))
    (try dsimp only)
    done
 ·rintro _ hmeet; (try dsimp only at hmeet ⊢)
  refine Cd rfl (fun hc25 => ?_) (fun hc25 => ?_)
  ·(try simp only [sB] at hc25)
   refine Cs ?_
   refine Ku rfl (Oc rfl rfl (Kv fun w hS => awake48_c (by (exact tab_st hT hS)))) ?_
   refine Ka rfl (Nt (Ce (Xb ?_)))
   exact R1 rfl rfl (by rfl)
  ·(try simp only [sB] at hc25)
   obtain ⟨hsm, hvl, hb⟩ := Decidable.not_not.1 hc25
   obtain ⟨hm8, hs2⟩ := sml_b hsm
   have hso := small_ordo hsm hb
   have hg := (bse_ok hb).1
   obtain ⟨q, hq⟩ : ∃ q, Keep (q = val k.1.2) := ⟨_, rfl⟩
   refine Ck (Xa (Cs (Kq rfl (Fa (q := 0) rfl rfl u26 rfl rfl) (Kq rfl (Fa (q := 1) rfl rfl u24 rfl rfl) (Kq rfl (Ld rfl rfl .tc u22) ?_)))))
   refine Ku rfl (Oc rfl rfl (Kv fun w hS => (by have := rsmall_c (w := w) (a := k.1.2); rw [hso, ← show q = _ from hq] at this; exact this))) ?_
   refine Km rfl (Kq rfl (Re rfl rfl rfl) (Kq rfl (Re rfl rfl rfl) (Ka rfl (Ka rfl (Nt (Cq (Cs (Km rfl (Kq rfl (rd_gtr rfl rfl rfl) (Nt ?_))))))))))
   refine Cd rfl (fun hc35 => ?_) (fun hc35 => ?_)
   ·(try simp only [sB] at hc35)
    refine Cs ?_
    refine Ku rfl (Oc rfl rfl (Kv fun w hS => awake48_c (by (exact tab_st hT hS)))) ?_
    refine Ka rfl (Nt (Ce (Xb ?_)))
    exact R1 rfl rfl (by rfl)
   ·(try simp only [sB] at hc35)
    have hq2 : q ≤ 200 := by omega
    have h200 : 200 < Big := by decide +kernel
    have hinj : ∀ x y, x < q → y < q → (nymS k s (canon x)).1 = (nymS k s (canon y)).1 → x = y := fun x y hx hy h =>
     ps_inj hb (by rw [← show q = _ from hq]; exact hq2) (p9_prime hvl.2) (by rw [← show q = _ from hq]; exact hx) (by rw [← show q = _ from hq]; exact hy) h
    refine Ck (Xa (Cs ?_))
    refine Kh rfl (og_mkmap rfl) ?_
    intro b37
    refine WL.pu ?_
    intro hb37; (try dsimp only at hb37 ⊢)
    refine Ka rfl (Nt (Cq (Cs (Km rfl (Km rfl (Nt (Cb ?_)))))))
    refine Lo (σ := Nat) [(1, _), (2, _), (5, _), (7, _), (38, _)] (fun gq => [(39, .int .u64 (gq : Int))]) (fun gq => gq ≤ q) (fun gq => q - gq) (fun gq => [⟨some b2, [.string (S k.1.1), .string (S k.1.2), .string (S k.2.1), .string (S k.2.2)], 26⟩]) (fun gq => [Fact.mp b37 (nyL k s gq)]) (0) (S5 rfl rfl rfl rfl rfl) (S1 rfl) (by (try dsimp only); exact Nat.zero_le _) (by (exact fun _ h => h)) ?_
    rintro j hinv1; (try dsimp only at hinv1 ⊢)
    obtain hj := hinv1
    refine Cs (Kq rfl (rd_lss rfl rfl rfl) (Nt (Cq ?_)))
    refine Cd rfl (fun hc40 => ?_) (fun hc40 => ?_)
    ·(try simp only [sB] at hc40)
     have hjq : j < q := by omega
     have hny := nym_of (k := k) (s := s) (x := j) hb (by omega)
     have hnn : ∀ p ∈ nyL k s j, p.1 ≠ (nymS k s (canon j)).1 := fun p hp h => by
      obtain ⟨i, hi, rfl⟩ := List.mem_map.1 hp
      have hij := List.mem_range.1 hi
      have := hinj i j (by omega) hjq h
      omega
     have hn0 : (nymS k s (canon j)).2 = 0 := by rw [hny.1]
     have hnE := hny.2
     refine Ck (Xa (Cq (Cb (Cs (Km rfl (Ka rfl (Nt (Cq ?_))))))))
     refine Cf [2, 3, 0, 1, 4, 5, 6, 7, 8, 9] [] [0, 0, 0, 1, 1, 0, 0, 0, 0, 0] (by kernel_rfl) (by kernel_rfl) rfl ?_
     refine Kj rfl (Rm rfl rfl) ?_
     refine Jv rfl rfl rfl rfl rfl (fun ext => Oc rfl rfl (Kv fun w hS => rof_c (n := j) (by omega))) ?_
     refine Kj rfl (lda rfl rfl .tc u26 rfl ?_) ?_
     ·kernel_rfl
     refine Kj rfl (Rm rfl rfl) ?_
     refine Jv rfl rfl rfl rfl rfl (fun ext => Oc rfl rfl (Kv fun w hS => psnym_c (k := k) (s := s) (x := canon j) (by exact hm8) (by omega) (by exact tab_st hT hS))) ?_
     refine Kj rfl (Rm rfl rfl) (Kj rfl (Re rfl rfl rfl) (Kj rfl (Re rfl rfl rfl) (Kj rfl (Ra rfl rfl) (Kj rfl (Ra rfl rfl) ?_))))
     refine WJ.nil ?_
     refine Nt (Cq ?_)
     refine WC.joinP (σ := Unit) [(1, _), (2, _), (5, _), (7, _), (9, _), (38, _), (39, _)] (fun gq => [(63, .bool false)]) (fun gq => True) (S7 rfl rfl rfl rfl rfl rfl rfl) ?_ ?_
     ·skip
      refine Cg (Km rfl (Kq rfl (rd_neq rfl rfl rfl) (Km rfl ?_)))
      refine Nb 52 rfl (fun hg52 => ?_) (fun hg52 => ?_)
      ·(try simp only [sB] at hg52)
       refine Kt rfl (Kt rfl (Kt rfl (Kq rfl (Rp rfl rfl rfl) (Km rfl (Kt rfl (Kt rfl (Kt rfl (Kt rfl (Kt rfl (Kq rfl (Rp rfl rfl rfl) (Nn ?_)))))))))))
       refine WX.joinP (()) (S7 rfl rfl rfl rfl rfl rfl rfl) (by refine (Sc ?_ (S0 _)) <;> ((refine congrArg (fun b => some (Value.bool b)) ?_; simp [*]; omega))) ?_ (by (exact fun _ h => h))
       (try dsimp only)
       done
      ·(try simp only [sB] at hg52)
       refine Km rfl (Km rfl ?_)
       refine Kq rfl (rd_lookN (zv := (.bool false)) rfl rfl rfl Tryz.underlying52 u22 (by kernel_rfl) ?_) ?_
       ·assumption
       refine Kq rfl (Rq rfl rfl rfl) (Km rfl ?_)
       refine Nb 57 rfl (fun hg57 => ?_) (fun hg57 => ?_)
       ·(try simp only [sB] at hg57)
        refine Kt rfl (Kt rfl (Kt rfl (Kt rfl (Kt rfl (Kq rfl (Rp rfl rfl rfl) (Nn ?_))))))
        refine WX.joinP (()) (S7 rfl rfl rfl rfl rfl rfl rfl) (by refine (Sc ?_ (S0 _)) <;> ((refine slot_b rfl ?_; (try dsimp only); (simp [*]; done)))) ?_ (by (exact fun _ h => h))
        (try dsimp only)
        done
       ·(try simp only [sB] at hg57)
        refine Kq rfl (Fa (q := 0) rfl rfl u26 rfl rfl) ?_
        refine Kq rfl (ldp rfl rfl .tc u24 rfl (by kernel_rfl : _ = some 2) (by rfl) (by rfl)) ?_
        refine Km rfl ?_
        refine Ku rfl (Oc rfl rfl (Kv fun w hS => pwhas_c (g := k.1) (x := (nymS k s (canon j)).1) (by assumption))) ?_
        refine Ns 61 rfl (v' := .bool (true)) (congrArg Value.bool (by simp [hg, hnE])) ?_
        refine Kq rfl (Rt rfl rfl) (Kq rfl (Rq rfl rfl rfl) (Nn ?_))
        refine WX.joinP (()) (S7 rfl rfl rfl rfl rfl rfl rfl) (by refine (Sc ?_ (S0 _)) <;> (rfl)) ?_ (by (exact fun _ h => h))
        (try dsimp only)
        done
     ·rintro _ hmeet; (try dsimp only at hmeet ⊢)
      refine Cd rfl (fun h => by cases h) (fun _ => ?_)
      refine Ck (Xa (Cg (Km rfl (Km rfl ?_))))
      refine Ng rfl rfl (og_mapN rfl (by assumption) rfl rfl rfl Tryz.underlying52 u22 ?_) ?_
      ·assumption
      intro _
      refine Nn (Xd (Xa (Cg (Kq rfl (rd_addW (c := 1) rfl rfl rfl (by omega)) (Km rfl (Nn ?_))))))
      refine Lx (j + 1) (by (try dsimp only); omega) (S5 rfl rfl rfl rfl rfl) (by refine (Sc ?_ (S0 _)) <;> (rfl)) ?_ (by exact fun w h => by rw [nyL_succ]; exact h)
      (try dsimp only)
      omega
    ·(try simp only [sB] at hc40)
     refine Cx (Xc (Xc (Xe ?_)))
     obtain rfl : j = q := by omega
     have hln : (nyL k s j).length = j := by simp [nyL]
     refine Xa (Cs (Km rfl (Kq rfl (rd_lenm rfl rfl Tryz.underlying52) (Kq rfl (rd_convW rfl rfl u3 u49 (by omega)) (Km rfl (Kq rfl (rd_eql rfl rfl rfl) (Km rfl ?_)))))))
     refine Ns 72 rfl (v' := .bool true) (by (exact congrArg Value.bool (by simp [*]; done))) ?_
     refine Ku rfl (Oc rfl rfl (Kv fun w hS => awake48_c (by (exact tab_st hT hS)))) ?_
     refine Kq rfl (Rp rfl rfl rfl) (Ka rfl (Nt (Ce ?_)))
     exact R1 rfl rfl (by rfl)
end Go.Proofs.YtddoigmffkmpcaaGreatDoor
