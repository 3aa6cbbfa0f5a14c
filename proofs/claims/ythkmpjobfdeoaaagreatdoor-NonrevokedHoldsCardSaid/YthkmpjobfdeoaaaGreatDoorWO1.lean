/-
  Parts of the walk: Nlo.
-/
import Derived.Test.YthkmpjobfdeoaaaGreatDoorI22
namespace Go.Proofs.YthkmpjobfdeoaaaGreatDoor
open Go.RowKit
set_option linter.unusedSimpArgs false
set_option linter.unusedVariables false
set_option maxHeartbeats 600000
set_option maxRecDepth 20000
theorem witS_len2 (u m : Bs) : (witS u m).1.length ≤ 2 := by
 unfold witS; split
 ·split <;> simp
 ·simp
theorem big_18 : 256 ^ 17 < Big := by decide +kernel
theorem few_siz {p : PR} (hf : fewR p) (h : chkR p = 0) : (sizR p).2 = 0 := by
 have hb : ∀ x ∈ nine p, val x < 256 ^ 8 := fun x hx => by
  have h1 := val_lt x
  have h2 := hf.2 x hx
  exact Nat.lt_of_lt_of_le h1 (Nat.pow_le_pow_right (by decide) (by omega))
 have hbl : val p.bl < 256 ^ 8 := hb _ (by simp)
 have hlo : val p.lo < 256 ^ 8 := hb _ (by simp)
 have hsz : val p.sz < 256 ^ 8 := hb _ (by simp)
 have hmk : val p.msk < 256 ^ 8 := hb _ (by simp)
 have hha : val p.han < 256 ^ 8 := hb _ (by simp)
 have hB := big_18
 have hV : szV p < Big := by
  have h1 : (val p.lo + val p.sz) * val p.msk ≤ (256 ^ 8 + 256 ^ 8) * 256 ^ 8 := Nat.mul_le_mul (by omega) (by omega)
  have h2 : (256 ^ 8 + 256 ^ 8) * 256 ^ 8 + 2 * 256 ^ 8 ≤ 256 ^ 17 := by decide
  unfold szV; omega
 have hH : szH p < Big := by
  have h1 : val p.han * val p.msk ≤ 256 ^ 8 * 256 ^ 8 := Nat.mul_le_mul (by omega) (by omega)
  have h2 : 256 ^ 8 * 256 ^ 8 ≤ 256 ^ 17 := by decide
  unfold szH; omega
 rw [sizR, if_neg (fun hh => hh h), if_pos ⟨hV, hH⟩]
theorem nholds_l {q : NC} {t : Tp} {a b : Option Addr} {c d : Nat} {w : World} {ok : Nat → Prop} (hF1 : (Fact.sl a (strs q.k.r)).holds ok w) (hF2 : (Fact.sl b (strs t.vals)).holds ok w) (hl : q.k.r.length ≤ 140737488351232) (htl : t.vals.length ≤ 140737488351232) (hT : Tab w) (hD : TabD w) :
  Cw 8 #[ncV q (.slice a q.k.r.length c), t.v (.slice b t.vals.length d)] w (.bool true) := by
 refine En [Fact.sl a (strs q.k.r), Fact.sl b (strs t.vals)] [(0, ncV q (.slice a q.k.r.length c)), (1, t.v (.slice b t.vals.length d))] Tryz.func8 rfl Tryz.ntmps8 rfl (Ac rfl (Ac rfl (An _))) (Fc (fact_any hF1) (Fc (fact_any hF2) Fn)) ?_
 refine Cs ?_
 refine Kh rfl (Oy rfl rfl) ?_
 intro b2
 refine Kh rfl (Oy rfl rfl) ?_
 intro b3
 refine Ka rfl (Nt (Cq ?_))
 refine WC.joinP (σ := Unit) [(2, _), (3, _)] (fun gq => [(46, .bool (decide (¬ (fewN q ∧ fewT t ∧ accS q.k q.acc q.u q.w = 0 ∧ cmpN q.u q.p.han < 0))))]) (fun gq => True) (S2 rfl rfl) ?_ ?_
 ·skip
  refine Cg ?_
  refine Kq rfl (lda rfl rfl .tc u35 rfl ?_) ?_
  ·kernel_rfl
  refine Ku rfl (Oc rfl rfl (Kv fun w hS => few38_c (q := q) (by (exact hS.sl)) (by assumption))) ?_
  refine Kq rfl (Rt rfl rfl) (Km rfl ?_)
  refine Nb 21 rfl (fun hg21 => ?_) (fun hg21 => ?_)
  ·(try simp only [sB] at hg21)
   refine Kt rfl (Kt rfl (Kt rfl (Kq rfl (Rp rfl rfl rfl) (Km rfl (Kt rfl (Kt rfl (Kt rfl (Kt rfl (Kt rfl (Kt rfl (Kt rfl (Kt rfl (Kt rfl (Kt rfl (Kq rfl (Rp rfl rfl rfl) (Km rfl (Kt rfl (Kt rfl (Kt rfl (Kt rfl (Kt rfl (Kt rfl (Kt rfl (Kq rfl (Rp rfl rfl rfl) (Nn ?_)))))))))))))))))))))))))
   refine WX.joinP (()) (S2 rfl rfl) (by refine (Sc ?_ (S0 _)) <;> ((refine slot_b rfl ?_; (try dsimp only); (simp [*]; done)))) ?_ (by (exact fun _ h => h))
   (try dsimp only)
   done
  ·(try simp only [sB] at hg21)
   refine Kq rfl (lda rfl rfl .tc u66 rfl ?_) ?_
   ·kernel_rfl
   refine Ku rfl (Oc rfl rfl (Kv fun w hS => fewT_c (t := t) (by (exact hS.sl)) (by omega))) ?_
   refine Kq rfl (Rt rfl rfl) (Kq rfl (Rq rfl rfl rfl) (Km rfl ?_))
   refine Nb 26 rfl (fun hg26 => ?_) (fun hg26 => ?_)
   ·(try simp only [sB] at hg26)
    refine Kt rfl (Kt rfl (Kt rfl (Kt rfl (Kt rfl (Kt rfl (Kt rfl (Kt rfl (Kt rfl (Kt rfl (Kq rfl (Rp rfl rfl rfl) (Km rfl (Kt rfl (Kt rfl (Kt rfl (Kt rfl (Kt rfl (Kt rfl (Kt rfl (Kq rfl (Rp rfl rfl rfl) (Nn ?_))))))))))))))))))))
    refine WX.joinP (()) (S2 rfl rfl) (by refine (Sc ?_ (S0 _)) <;> ((refine slot_b rfl ?_; (try dsimp only); (simp [*]; done)))) ?_ (by (exact fun _ h => h))
    (try dsimp only)
    done
   ·(try simp only [sB] at hg26)
    refine Kq rfl (Fa (q := 17) rfl rfl u35 rfl rfl) ?_
    refine Kq rfl (ldp rfl rfl .tc u33 rfl (by kernel_rfl : _ = some 8) (by rfl) (by rfl)) ?_
    refine Kq rfl (Fa (q := 25) rfl rfl u35 rfl rfl) (Kq rfl (Ld rfl rfl .tc u22) ?_)
    refine Kq rfl (Fa (q := 27) rfl rfl u35 rfl rfl) (Kq rfl (Ld rfl rfl .tc u22) ?_)
    refine Kq rfl (Fa (q := 26) rfl rfl u35 rfl rfl) (Kq rfl (Ld rfl rfl .tc u22) ?_)
    refine Ku rfl (Oc rfl rfl (Kv fun w hS => acheck_c (k := q.k) (acc := q.acc) (u := q.u) (wt := q.w) (a := a) (c := c) (by exact (fewN_b (show fewN q by assumption)).2.1))) ?_
    refine Kq rfl (rd_neq rfl rfl rfl) (Kq rfl (Rq rfl rfl rfl) (Km rfl ?_))
    refine Nb 38 rfl (fun hg38 => ?_) (fun hg38 => ?_)
    ·(try simp only [sB] at hg38)
     refine Kt rfl (Kt rfl (Kt rfl (Kt rfl (Kt rfl (Kt rfl (Kt rfl (Kq rfl (Rp rfl rfl rfl) (Nn ?_))))))))
     refine WX.joinP (()) (S2 rfl rfl) (by refine (Sc ?_ (S0 _)) <;> ((refine slot_b rfl ?_; (try dsimp only); (simp [*]; done)))) ?_ (by (exact fun _ h => h))
     (try dsimp only)
     done
    ·(try simp only [sB] at hg38)
     refine Kq rfl (Fa (q := 27) rfl rfl u35 rfl rfl) (Kq rfl (Ld rfl rfl .tc u22) ?_)
     refine Kq rfl (Fa (q := 0) rfl rfl u35 rfl rfl) (Kq rfl (Fa (q := 12) rfl rfl u30 rfl rfl) (Kq rfl (Ld rfl rfl .tc u22) ?_))
     refine Ku rfl (Oc rfl rfl (Kv fun w hS => Cmp_c (a := q.u) (b := q.p.han))) ?_
     refine Kq rfl (rd_geq rfl rfl rfl) (Kq rfl (Rq rfl rfl rfl) (Nn ?_))
     refine WX.joinP (()) (S2 rfl rfl) (by refine (Sc ?_ (S0 _)) <;> ((refine slot_b rfl ?_; (try dsimp only); (simp [*]; done)))) ?_ (by (exact fun _ h => h))
     (try dsimp only)
     done
 ·rintro _ hmeet; (try dsimp only at hmeet ⊢)
  refine Cd rfl (fun hc46 => ?_) (fun hc46 => ?_)
  ·(try simp only [sB] at hc46)
   refine Cs ?_
   refine Ku rfl (Oc rfl rfl (Kv fun w hS => awake38_c)) ?_
   refine Ka rfl (Nt (Ce (Xb ?_)))
   exact R1 rfl rfl (by rfl)
  ·(try simp only [sB] at hc46)
   obtain ⟨hfw, hft, hac, hcu⟩ := Decidable.not_not.1 hc46
   obtain ⟨hm8, hk8, hkl, hnl⟩ := fewN_b hfw
   have hv := hft.1; have hse := hft.2.1
   obtain ⟨r, hr⟩ : ∃ r, Keep (r = mskS q.p q.k q.w t) := ⟨_, rfl⟩
   have hrv : r.1.2.2.vals.length ≤ t.vals.length := by rw [show r = _ from hr]; exact msk_vals q.p q.k q.w t
   refine Ck (Xa (Cs (Kq rfl (Fa (q := 0) rfl rfl u35 rfl rfl) ?_)))
   refine Kq rfl (ldp rfl rfl .tc u30 rfl (by kernel_rfl : _ = some 17) (by rfl) (by rfl)) ?_
   refine Kq rfl (Fa (q := 17) rfl rfl u35 rfl rfl) ?_
   refine Kq rfl (ldp rfl rfl .tc u33 rfl (by kernel_rfl : _ = some 8) (by rfl) (by rfl)) ?_
   refine Kq rfl (Fa (q := 26) rfl rfl u35 rfl rfl) (Kq rfl (Ld rfl rfl .tc u22) ?_)
   refine Kq rfl (lda rfl rfl .tc u66 rfl ?_) ?_
   ·kernel_rfl
   refine Kh rfl (Oc rfl rfl (keep_f1 (val := fun g => .tuple #[.string (S r.1.1), .string (S r.1.2.1), r.1.2.2.v (g.val r.1.2.2.vals.length), .int .i64 r.2]) (p := fun g => g.cap = r.1.2.2.vals.length + g.sp.length) (xs := strs r.1.2.2.vals) (T := 22) fun w hS => (by have := nmask_c (w := w) (p := q.p) (k := q.k) (x := q.w) (t := t) (a := a) (b := b) (c := c) (d := d) hS.sl hS.sl hm8 hk8 hkl hnl (by omega) (by omega) (tab_st hT hS) (tabd_st hD hS); rw [← show r = _ from hr] at this; exact this))) ?_
   intro g22; refine WL.pu ?_; intro hg22; (try dsimp only at hg22 ⊢)
   refine Km rfl (Kq rfl (Re rfl rfl rfl) (Kq rfl (Re rfl rfl rfl) (Kq rfl (Re rfl rfl rfl) (Kq rfl (Re rfl rfl rfl) ?_))))
   refine Kh rfl (Oz [.slice none 0 0, .string (S []), .int .i64 0] rfl) ?_
   intro b7
   refine Ka rfl (Ka rfl ?_)
   refine Nu rfl rfl (Sa rfl rfl rfl .tc) ?_
   refine Ka rfl (Nt (Cq (Cs (Km rfl (Kq rfl (rd_neq rfl rfl rfl) (Nt ?_))))))
   refine Cd rfl (fun hc62 => ?_) (fun hc62 => ?_)
   ·(try simp only [sB] at hc62)
    refine Cs ?_
    refine Ku rfl (Oc rfl rfl (Kv fun w hS => awake38_c)) ?_
    refine Ka rfl (Nt (Ce (Xb ?_)))
    exact R1 rfl rfl (by rfl)
   ·(try simp only [sB] at hc62)
    have hr2 : r.2 = 0 := by simpa using hc62
    have hm0 : (mskS q.p q.k q.w t).2 = 0 := by rw [← show r = _ from hr]; exact hr2
    obtain ⟨a1, a2, a3, a4, a5⟩ := nrm_holds hac hcu hm0 (few_siz hfw.1 (chkN_ok (msk_ok hm0).1).1)
    rw [← show r = _ from hr] at a1 a2 a3 a4 a5
    refine Ck (Xa (Cs (Kq rfl (Fa (q := 0) rfl rfl u35 rfl rfl) ?_)))
    refine Kq rfl (ldp rfl rfl .tc u30 rfl (by kernel_rfl : _ = some 17) (by rfl) (by rfl)) ?_
    refine Kq rfl (Fa (q := 17) rfl rfl u35 rfl rfl) ?_
    refine Kq rfl (ldp rfl rfl .tc u33 rfl (by kernel_rfl : _ = some 8) (by rfl) (by rfl)) ?_
    refine Kq rfl (Fa (q := 25) rfl rfl u35 rfl rfl) (Kq rfl (Ld rfl rfl .tc u22) ?_)
    refine Km rfl ?_
    refine Kh rfl (Oc rfl rfl (keep_ff fun w hS => nstate_c (p := q.p) (k := q.k) (acc := q.acc) (x := r.1.1) (by (exact hS.slo)) (by assumption) (by assumption) (by assumption) (by assumption) (by (exact tabd_st hD hS)))) ?_
    rintro s1
    refine WL.pu ?_
    intro hg72; (try dsimp only [List.cons_append, List.nil_append] at hg72 ⊢)
    refine Km rfl (Kq rfl (Re rfl rfl rfl) (Kq rfl (Re rfl rfl rfl) ?_))
    refine Kh rfl (Oz [.slice none 0 0, .slice none 0 0, .slice none 0 0] rfl) ?_
    intro b9
    refine Nu rfl rfl (Sa rfl rfl rfl .tc) ?_
    refine Ka rfl (Nt (Cs (Kq rfl (Fa (q := 27) rfl rfl u35 rfl rfl) (Kq rfl (Ld rfl rfl .tc u22) ?_))))
    refine Km rfl ?_
    refine Kh rfl (Oc rfl rfl (keep_f1 fun w hS => wit_c (u := q.u) (m := r.1.2.1))) ?_
    intro g79
    refine WL.pu ?_
    intro hg79; (try dsimp only at hg79 ⊢)
    refine Km rfl (Kq rfl (Re rfl rfl rfl) (Kq rfl (Re rfl rfl rfl) (Ka rfl (Ka rfl (Nt (Cq ?_))))))
    refine WC.joinP (σ := Unit) [(2, _), (5, _), (6, _), (9, _), (11, _)] (fun gq => [(87, .bool (decide (¬ ((nrS q.p q.k q.acc r.1.1).2 = 0 ∧ (witS q.u r.1.2.1).2 = 0))))]) (fun gq => True) (S5 rfl rfl rfl rfl rfl) ?_ ?_
    ·skip
     refine Cg (Km rfl (Kq rfl (rd_neq rfl rfl rfl) (Km rfl ?_)))
     refine Nb 84 rfl (fun hg84 => ?_) (fun hg84 => ?_)
     ·(try simp only [sB] at hg84)
      refine Kt rfl (Kt rfl (Kq rfl (Rp rfl rfl rfl) (Nn ?_)))
      refine WX.joinP (()) (S5 rfl rfl rfl rfl rfl) (by refine (Sc ?_ (S0 _)) <;> ((exact congrArg (fun b => some (Value.bool b)) (by symm; apply decide_eq_true; omega)))) ?_ (by (exact fun _ h => h))
      (try dsimp only)
      done
     ·(try simp only [sB] at hg84)
      refine Km rfl (Kq rfl (rd_neq rfl rfl rfl) (Kq rfl (Rq rfl rfl rfl) (Nn ?_)))
      refine WX.joinP (()) (S5 rfl rfl rfl rfl rfl) (by refine (Sc ?_ (S0 _)) <;> ((refine slot_b rfl ?_; (try dsimp only); (simp [*]; done)))) ?_ (by (exact fun _ h => h))
      (try dsimp only)
      done
    ·rintro _ hmeet; (try dsimp only at hmeet ⊢)
     refine Cd rfl (fun hc87 => by exfalso; (try simp only [sB] at hc87); exact hc87 ⟨by rw [a1], a2⟩) (fun hc87 => ?_)
     (try simp only [sB] at hc87)
     refine Ck (Xa (Cs ?_))
     refine Kq rfl (lda rfl rfl .tc u42 rfl ?_) ?_
     ·kernel_rfl
     refine Km rfl ?_
     refine Ku rfl (Oc rfl rfl (Kv fun w hS => (by have := holds_c (w := w) (s := s1) (ws := (witS q.u r.1.2.1).1) (a := g79.a) (c := g79.cap) hS.sl hS.sl hS.sl hS.sl hS.more (saL_nr hk8 hg72) (by have := witS_len2 q.u r.1.2.1; omega); rw [hg72, a1, a3] at this; exact this))) ?_
     refine Km rfl (Kq rfl (Re rfl rfl rfl) (Kq rfl (Re rfl rfl rfl) (Ka rfl (Ka rfl (Nt (Cs (Kq rfl (Fa (q := 17) rfl rfl u35 rfl rfl) ?_)))))))
     refine Kq rfl (ldp rfl rfl .tc u33 rfl (by kernel_rfl : _ = some 8) (by rfl) (by rfl)) ?_
     refine Km rfl (Km rfl ?_)
     refine Ku rfl (Oc rfl rfl (Kv fun w hS => (by have := unm_c (w := w) (k := q.k) (rv := .slice a q.k.r.length c) (x := r.1.1) (ws := (witS q.u r.1.2.1).1) (a := g79.a) (c := g79.cap) hS.sl (by have := witS_len2 q.u r.1.2.1; omega) hk8; rw [a4] at this; exact this))) ?_
     refine Km rfl (Kq rfl (Re rfl rfl rfl) (Kq rfl (Re rfl rfl rfl) (Kq rfl (Re rfl rfl rfl) (Ka rfl (Ka rfl (Ka rfl (Nt (Cs ?_))))))))
     refine Ku rfl (Oc rfl rfl (Kv fun w hS => awake38_c)) ?_
     refine Km rfl ?_
     refine Ns 104 rfl (v' := .bool true) (by rfl) ?_
     refine Km rfl (Kq rfl (rd_eql rfl rfl rfl) (Kq rfl (Rp rfl rfl rfl) (Km rfl ?_)))
     refine Ns 108 rfl (v' := .bool true) (by rfl) ?_
     refine Km rfl (Kq rfl (Rp rfl rfl rfl) (Km rfl ?_))
     refine Ns 111 rfl (v' := .bool true) (by rfl) ?_
     refine Km rfl (Kq rfl (rd_eql rfl rfl rfl) (Kq rfl (Rp rfl rfl rfl) (Km rfl ?_)))
     refine Ns 115 rfl (v' := .bool true) (by rfl) ?_
     refine Km rfl (Kq rfl (Fa (q := 26) rfl rfl u35 rfl rfl) (Kq rfl (Ld rfl rfl .tc u22) ?_))
     refine Kq rfl (rd_seq rfl rfl rfl) (Kq rfl (Rp rfl rfl rfl) (Km rfl ?_))
     refine Ns 121 rfl (v' := .bool true) (by (exact congrArg Value.bool (by simp [*]; done))) ?_
     refine Km rfl (Kq rfl (Fa (q := 27) rfl rfl u35 rfl rfl) (Kq rfl (Ld rfl rfl .tc u22) ?_))
     refine Kq rfl (rd_seq rfl rfl rfl) (Kq rfl (Rp rfl rfl rfl) (Km rfl ?_))
     refine Ns 127 rfl (v' := .bool true) (by (exact congrArg Value.bool (by simp [*]; done))) ?_
     refine Km rfl (Kq rfl (Fa (q := 0) rfl rfl u35 rfl rfl) (Kq rfl (Fa (q := 16) rfl rfl u30 rfl rfl) (Kq rfl (Ld rfl rfl .tc u22) ?_)))
     refine Ku rfl (Oc rfl rfl (Kv fun w hS => Cmp_c (a := r.1.2.1) (b := q.p.msk))) ?_
     refine Kq rfl (rd_lss rfl rfl rfl) (Kq rfl (Rp rfl rfl rfl) (Ka rfl (Nt (Ce ?_))))
     exact R1 rfl rfl (by (simp [*, tup]; done))
end Go.Proofs.YthkmpjobfdeoaaaGreatDoor
