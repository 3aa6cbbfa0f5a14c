/-
  Parts of the walk: Elb.
-/
import Derived.Test.YtmkghgoibnncbaaGreatDoorK19
namespace Go.Proofs.YtmkghgoibnncbaaGreatDoor
open Go.RowKit
set_option linter.unusedSimpArgs false
set_option linter.unusedVariables false
set_option maxHeartbeats 600000
set_option maxRecDepth 20000
theorem back_all {k : PK} {m s : Bs} {t : Tp} {a : Cp} {r : (Cp × Bs × Tp) × Int} (hr : r = encS k m t) (h1 : r.2 = 0) (h2 : (decS k s r.1.1).2 = 0) (hl : t.vals.length ≤ 1000000) :
  (decS k s r.1.1).1 = m ∧ cmpN r.1.2.1 k.1.2 < 0 ∧ (decS k s a).2 = (mulC k r.1.1 a).2 ∧
  ((decS k s a).2 = 0 → (mulS k.1 m (decS k s a).1).2 = 0 ∧ decS k s (mulC k r.1.1 a).1 = ((mulS k.1 m (decS k s a).1).1, 0) ∧
   ((refS k a r.1.2.2).2 = 0 ∨ (refS k a r.1.2.2).2 = 2 ∨ (refS k a r.1.2.2).2 = 14) ∧ ((refS k a r.1.2.2).2 = 0 → decS k s (refS k a r.1.2.2).1.1 = decS k s a)) := by
 subst hr
 obtain ⟨hY, _, _, _, _, ho, hlt⟩ := back0 h1
 refine ⟨(back1 h1 h2).1, ?_, back2 h1 h2, fun h3 => ⟨(back3 h1 h2 h3).1, (back3 h1 h2 h3).2, back4 h1 h2 h3 hl, fun h4 => back5 h1 h2 h3 h4⟩⟩
 rw [cmpN_ok ho (chkY_ok hY).1.2.1, cmpI_neg]; exact hlt
theorem elback_l {q : EC} {t : Tp} {a : Option Addr} {cap : Nat} {w : World} {ok : Nat → Prop} (hF1 : (Fact.sl a (strs t.vals)).holds ok w) (hl : t.vals.length ≤ 9223372036854775807) (hT : Tab w) :
  Cw 9 #[ecV q, t.v (.slice a t.vals.length cap)] w (.bool true) := by
 refine En [Fact.sl a (strs t.vals)] [(0, ecV q), (1, t.v (.slice a t.vals.length cap))] Tryz.func9 rfl Tryz.ntmps9 rfl (Ac rfl (Ac rfl (An _))) (Fc (fact_any hF1) Fn) ?_
 refine Cs ?_
 refine Kh rfl (Oy rfl rfl) ?_
 intro b2
 refine Kh rfl (Oy rfl rfl) ?_
 intro b3
 refine Ka rfl (Nt (Cq ?_))
 refine WC.joinP (σ := Unit) [(2, _), (3, _)] (fun gq => [(28, .bool (decide (¬ (fewE q ∧ fewT t))))]) (fun gq => True) (S2 rfl rfl) ?_ ?_
 ·skip
  refine Cg ?_
  refine Kq rfl (lda rfl rfl .tc u30 rfl ?_) ?_
  ·kernel_rfl
  refine Ku rfl (Oc rfl rfl (Kv fun w hS => few50_c (q := q))) ?_
  refine Kq rfl (Rt rfl rfl) (Km rfl ?_)
  refine Nb 24 rfl (fun hg24 => ?_) (fun hg24 => ?_)
  ·(try simp only [sB] at hg24)
   refine Kt rfl (Kt rfl (Kt rfl (Kq rfl (Rp rfl rfl rfl) (Nn ?_))))
   refine WX.joinP (()) (S2 rfl rfl) (by refine (Sc ?_ (S0 _)) <;> ((refine slot_b rfl ?_; (try dsimp only); (simp [*]; done)))) ?_ (by (exact fun _ h => h))
   (try dsimp only)
   done
  ·(try simp only [sB] at hg24)
   refine Kq rfl (lda rfl rfl .tc u33 rfl ?_) ?_
   ·kernel_rfl
   refine Ku rfl (Oc rfl rfl (Kv fun w hS => fewT_c (t := t) (by (exact hS.sl)) (by assumption))) ?_
   refine Kq rfl (Rt rfl rfl) (Kq rfl (Rq rfl rfl rfl) (Nn ?_))
   refine WX.joinP (()) (S2 rfl rfl) (by refine (Sc ?_ (S0 _)) <;> ((refine slot_b rfl ?_; (try dsimp only); (simp [*]; done)))) ?_ (by (exact fun _ h => h))
   (try dsimp only)
   done
 ·rintro _ hmeet; (try dsimp only at hmeet ⊢)
  refine Cd rfl (fun hc28 => ?_) (fun hc28 => ?_)
  ·(try simp only [sB] at hc28)
   refine Cs ?_
   refine Ku rfl (Oc rfl rfl (Kv fun w hS => awake50_c (by (exact tab_st hT hS)))) ?_
   refine Ka rfl (Nt (Ce (Xb ?_)))
   exact R1 rfl rfl (by rfl)
  ·(try simp only [sB] at hc28)
   obtain ⟨hfw, hft⟩ := Decidable.not_not.1 hc28
   have hm8 := hfw.2
   have hv := hft.1; have hse := hft.2.1
   obtain ⟨r, hr⟩ : ∃ r, Keep (r = encS q.k q.m t) := ⟨_, rfl⟩
   have hrv : r.1.2.2.vals.length ≤ t.vals.length := by rw [show r = _ from hr]; exact enc_vals q.k q.m t
   have hrs : r.1.2.2.seed.length ≤ t.seed.length := by rw [show r = _ from hr]; exact enc_seed q.k q.m t
   refine Ck (Xa (Cs ?_))
   refine Kq rfl (Fa (q := 0) rfl rfl u30 rfl rfl) ?_
   refine Kq rfl (ldp rfl rfl .tc u26 rfl (by kernel_rfl : _ = some 4) (by rfl) (by rfl)) ?_
   refine Kq rfl (Fa (q := 5) rfl rfl u30 rfl rfl) ?_
   refine Kq rfl (Ld rfl rfl .tc u22) ?_
   refine Kq rfl (lda rfl rfl .tc u33 rfl ?_) ?_
   ·kernel_rfl
   refine Kh rfl (Oc rfl rfl (keep_f1 (val := fun g => .tuple #[cpV r.1.1, .string (S r.1.2.1), r.1.2.2.v (g.val r.1.2.2.vals.length), .int .i64 r.2]) (p := fun g => g.cap = r.1.2.2.vals.length + g.sp.length) (xs := strs r.1.2.2.vals) (T := 22) fun w hS => (by have := elenc_c (w := w) (k := q.k) (m := q.m) (t := t) (a := a) (cap := cap) hS.sl (by omega) (by omega) hm8 (tab_st hT hS); rw [← show r = _ from hr] at this; exact this))) ?_
   intro g36; refine WL.pu ?_; intro hg36
   refine Km rfl (Kq rfl (Re rfl rfl rfl) (Kq rfl (Re rfl rfl rfl) (Kq rfl (Re rfl rfl rfl) (Kq rfl (Re rfl rfl rfl) ?_))))
   refine Kh rfl (Oz [.string (S []), .string (S [])] rfl) ?_
   intro b5
   refine Kh rfl (Oz [.slice none 0 0, .string (S []), .int .i64 0] rfl) ?_
   intro b7
   refine Nu rfl rfl (Sa rfl rfl rfl .tc) ?_
   refine Ka rfl ?_
   refine Nu rfl rfl (Sa rfl rfl rfl .tc) ?_
   refine Ka rfl (Nt (Cs ?_))
   refine Kq rfl (Fa (q := 0) rfl rfl u30 rfl rfl) ?_
   refine Kq rfl (ldp rfl rfl .tc u26 rfl (by kernel_rfl : _ = some 4) (by rfl) (by rfl)) ?_
   refine Kq rfl (Fa (q := 4) rfl rfl u30 rfl rfl) ?_
   refine Kq rfl (Ld rfl rfl .tc u22) ?_
   refine Kq rfl (lda rfl rfl .tc u28 rfl ?_) ?_
   ·kernel_rfl
   refine Ku rfl (Oc rfl rfl (Kv fun w hS => eldecrypt_c (k := q.k) (s := q.s) (c := r.1.1) (by assumption))) ?_
   refine Km rfl (Kq rfl (Re rfl rfl rfl) (Kq rfl (Re rfl rfl rfl) (Ka rfl (Ka rfl (Nt (Cq ?_))))))
   refine WC.joinP (σ := Unit) [(2, _), (5, _), (6, _), (7, _), (9, _)] (fun gq => [(55, .bool (decide (¬ (r.2 = 0 ∧ (decS q.k q.s r.1.1).2 = 0))))]) (fun gq => True) (S5 rfl rfl rfl rfl rfl) ?_ ?_
   ·skip
    refine Cg (Km rfl (Kq rfl (rd_neq rfl rfl rfl) (Km rfl ?_)))
    refine Nb 52 rfl (fun hg52 => ?_) (fun hg52 => ?_)
    ·(try simp only [sB] at hg52)
     refine Kt rfl (Kt rfl (Kq rfl (Rp rfl rfl rfl) (Nn ?_)))
     refine WX.joinP (()) (S5 rfl rfl rfl rfl rfl) (by refine (Sc ?_ (S0 _)) <;> ((refine slot_b rfl ?_; (try dsimp only); (simp [*]; done)))) ?_ (by (exact fun _ h => h))
     (try dsimp only)
     done
    ·(try simp only [sB] at hg52)
     refine Km rfl (Kq rfl (rd_neq rfl rfl rfl) (Kq rfl (Rq rfl rfl rfl) (Nn ?_)))
     refine WX.joinP (()) (S5 rfl rfl rfl rfl rfl) (by refine (Sc ?_ (S0 _)) <;> ((refine slot_b rfl ?_; (try dsimp only); (simp [*]; done)))) ?_ (by (exact fun _ h => h))
     (try dsimp only)
     done
   ·rintro _ hmeet; (try dsimp only at hmeet ⊢)
    refine Cd rfl (fun hc55 => ?_) (fun hc55 => ?_)
    ·(try simp only [sB] at hc55)
     refine Cs ?_
     refine Ku rfl (Oc rfl rfl (Kv fun w hS => awake50_c (by (exact tab_st hT hS)))) ?_
     refine Ka rfl (Nt (Ce (Xb ?_)))
     exact R1 rfl rfl (by rfl)
    ·(try simp only [sB] at hc55)
     obtain ⟨h1, h2⟩ := Decidable.not_not.1 hc55
     obtain ⟨hd1, hd2, hd3, hd4⟩ := back_all (a := q.a) (show r = _ from hr) h1 h2 (by omega)
     refine Ck (Xa (Cq (Cs (Km rfl ?_))))
     refine Kq rfl (Fa (q := 5) rfl rfl u30 rfl rfl) ?_
     refine Kq rfl (Ld rfl rfl .tc u22) ?_
     refine Kq rfl (rd_sne rfl rfl rfl) ?_
     refine Ns 60 rfl (v' := .bool false) (by exact congrArg Value.bool (by rw [hd1]; simp)) ?_
     refine Km rfl (Km rfl ?_)
     refine Kq rfl (Fa (q := 0) rfl rfl u30 rfl rfl) ?_
     refine Kq rfl (Fa (q := 0) rfl rfl u26 rfl rfl) ?_
     refine Kq rfl (Fa (q := 1) rfl rfl u24 rfl rfl) ?_
     refine Kq rfl (Ld rfl rfl .tc u22) ?_
     refine Ku rfl (Oc rfl rfl (Kv fun w hS => Cmp_c (a := r.1.2.1) (b := q.k.1.2))) ?_
     refine Kq rfl (rd_geq rfl rfl rfl) (Kq rfl (Rq rfl rfl rfl) ?_)
     refine Ns 69 rfl (v' := .bool false) (by exact congrArg Value.bool (decide_eq_false (by omega))) ?_
     refine Nt ?_
     refine Cd rfl (fun h => by cases h) (fun _ => ?_)
     refine Ck (Xa (Cs ?_))
     refine Kq rfl (Fa (q := 0) rfl rfl u30 rfl rfl) ?_
     refine Kq rfl (ldp rfl rfl .tc u26 rfl (by kernel_rfl : _ = some 4) (by rfl) (by rfl)) ?_
     refine Kq rfl (Fa (q := 4) rfl rfl u30 rfl rfl) ?_
     refine Kq rfl (Ld rfl rfl .tc u22) ?_
     refine Kq rfl (Fa (q := 6) rfl rfl u30 rfl rfl) ?_
     refine Kq rfl (ldp rfl rfl .tc u28 rfl (by kernel_rfl : _ = some 2) (by rfl) (by rfl)) ?_
     refine Ku rfl (Oc rfl rfl (Kv fun w hS => eldecrypt_c (k := q.k) (s := q.s) (c := q.a) (by assumption))) ?_
     refine Km rfl (Kq rfl (Re rfl rfl rfl) (Kq rfl (Re rfl rfl rfl) (Ka rfl (Ka rfl (Nt (Cs ?_))))))
     refine Kq rfl (Fa (q := 0) rfl rfl u30 rfl rfl) ?_
     refine Kq rfl (ldp rfl rfl .tc u26 rfl (by kernel_rfl : _ = some 4) (by rfl) (by rfl)) ?_
     refine Kq rfl (lda rfl rfl .tc u28 rfl ?_) ?_
     ·kernel_rfl
     refine Kq rfl (Fa (q := 6) rfl rfl u30 rfl rfl) ?_
     refine Kq rfl (ldp rfl rfl .tc u28 rfl (by kernel_rfl : _ = some 2) (by rfl) (by rfl)) ?_
     refine Ku rfl (Oc rfl rfl (Kv fun w hS => elmulc_c (k := q.k) (a := r.1.1) (b := q.a) (by assumption))) ?_
     refine Km rfl (Kq rfl (Re rfl rfl rfl) (Kq rfl (Re rfl rfl rfl) ?_))
     refine Kh rfl (Oz [.string (S []), .string (S [])] rfl) ?_
     intro b12
     refine Nu rfl rfl (Sa rfl rfl rfl .tc) ?_
     refine Ka rfl (Nt (Cq ?_))
     refine WC.joinP (σ := Unit) [(2, _), (7, _), (9, _), (10, _), (11, _), (12, _), (13, _)] (fun gq => [(94, .bool (decide (¬ ((decS q.k q.s q.a).2 = 0 ∧ (mulC q.k r.1.1 q.a).2 = 0))))]) (fun gq => True) (S7 rfl rfl rfl rfl rfl rfl rfl) ?_ ?_
     ·skip
      refine Cg (Km rfl (Kq rfl (rd_neq rfl rfl rfl) (Km rfl ?_)))
      refine Nb 91 rfl (fun hg91 => ?_) (fun hg91 => ?_)
      ·(try simp only [sB] at hg91)
       refine Kt rfl (Kt rfl (Kq rfl (Rp rfl rfl rfl) (Nn ?_)))
       refine WX.joinP (()) (S7 rfl rfl rfl rfl rfl rfl rfl) (by refine (Sc ?_ (S0 _)) <;> ((exact congrArg (fun b => some (Value.bool b)) (by symm; apply decide_eq_true; omega)))) ?_ (by (exact fun _ h => h))
       (try dsimp only)
       done
      ·(try simp only [sB] at hg91)
       refine Km rfl (Kq rfl (rd_neq rfl rfl rfl) (Kq rfl (Rq rfl rfl rfl) (Nn ?_)))
       refine WX.joinP (()) (S7 rfl rfl rfl rfl rfl rfl rfl) (by refine (Sc ?_ (S0 _)) <;> ((refine slot_b rfl ?_; (try dsimp only); (simp [*]; done)))) ?_ (by (exact fun _ h => h))
       (try dsimp only)
       done
     ·rintro _ hmeet; (try dsimp only at hmeet ⊢)
      refine Cd rfl (fun hc94 => ?_) (fun hc94 => ?_)
      ·(try simp only [sB] at hc94)
       refine Cs ?_
       refine Ku rfl (Oc rfl rfl (Kv fun w hS => awake50_c (by (exact tab_st hT hS)))) ?_
       refine Ns 95 rfl (v' := .bool true) (by rfl) ?_
       refine Km rfl (Km rfl (Km rfl (Kq rfl (rd_eql rfl rfl rfl) (Kq rfl (Rp rfl rfl rfl) ?_))))
       refine Ns 100 rfl (v' := .bool true) (by exact congrArg Value.bool (decide_eq_true hd3)) ?_
       refine Ka rfl (Nt (Ce (Xb ?_)))
       exact R1 rfl rfl (by rfl)
      ·(try simp only [sB] at hc94)
       obtain ⟨h3, h4⟩ := Decidable.not_not.1 hc94
       obtain ⟨hc1, hc2, hc3, hc4⟩ := hd4 h3
       obtain ⟨z, hz⟩ : ∃ z, Keep (z = refS q.k q.a r.1.2.2) := ⟨_, rfl⟩
       have hzv : z.1.2.vals.length ≤ r.1.2.2.vals.length := by rw [show z = _ from hz]; exact ref_vals q.k q.a r.1.2.2
       rw [← show z = _ from hz] at hc3 hc4
       refine Ck (Xa (Cs ?_))
       refine Kq rfl (Fa (q := 0) rfl rfl u30 rfl rfl) ?_
       refine Kq rfl (ldp rfl rfl .tc u26 rfl (by kernel_rfl : _ = some 4) (by rfl) (by rfl)) ?_
       refine Kq rfl (Fa (q := 4) rfl rfl u30 rfl rfl) ?_
       refine Kq rfl (Ld rfl rfl .tc u22) ?_
       refine Kq rfl (lda rfl rfl .tc u28 rfl ?_) ?_
       ·kernel_rfl
       refine Ku rfl (Oc rfl rfl (Kv fun w hS => (by have := eldecrypt_c (w := w) (k := q.k) (s := q.s) (c := (mulC q.k r.1.1 q.a).1) hm8; rw [hc2] at this; exact this))) ?_
       refine Km rfl (Kq rfl (Re rfl rfl rfl) (Kq rfl (Re rfl rfl rfl) (Ka rfl (Ka rfl (Nt (Cs ?_))))))
       refine Kq rfl (Fa (q := 0) rfl rfl u30 rfl rfl) ?_
       refine Kq rfl (Fa (q := 0) rfl rfl u26 rfl rfl) ?_
       refine Kq rfl (ldp rfl rfl .tc u24 rfl (by kernel_rfl : _ = some 2) (by rfl) (by rfl)) ?_
       refine Km rfl (Km rfl ?_)
       refine Ku rfl (Oc rfl rfl (Kv fun w hS => (by have := pmulg_c (w := w) (g := q.k.1) (a := (decS q.k q.s r.1.1).1) (b := (decS q.k q.s q.a).1) hm8; rw [hd1] at this ⊢; exact this))) ?_
       refine Km rfl (Kq rfl (Re rfl rfl rfl) (Kq rfl (Re rfl rfl rfl) (Ka rfl (Ka rfl (Nt (Cq (Cs (Km rfl (Kq rfl (rd_neq rfl rfl rfl) ?_)))))))))
       refine Ns 120 rfl (v' := .bool false) (by exact congrArg Value.bool (by simp)) ?_
       refine Km rfl (Km rfl (Kq rfl (rd_neq rfl rfl rfl) (Kq rfl (Rq rfl rfl rfl) ?_)))
       refine Ns 124 rfl (v' := .bool false) (by exact congrArg Value.bool (by simp [hc1])) ?_
       refine Km rfl (Km rfl (Km rfl (Kq rfl (rd_sne rfl rfl rfl) (Kq rfl (Rq rfl rfl rfl) ?_))))
       refine Ns 129 rfl (v' := .bool false) (by exact congrArg Value.bool (by simp)) ?_
       refine Nt ?_
       refine Cd rfl (fun h => by cases h) (fun _ => ?_)
       refine Ck (Xa (Cs ?_))
       refine Kq rfl (Fa (q := 0) rfl rfl u30 rfl rfl) ?_
       refine Kq rfl (ldp rfl rfl .tc u26 rfl (by kernel_rfl : _ = some 4) (by rfl) (by rfl)) ?_
       refine Kq rfl (Fa (q := 6) rfl rfl u30 rfl rfl) ?_
       refine Kq rfl (ldp rfl rfl .tc u28 rfl (by kernel_rfl : _ = some 2) (by rfl) (by rfl)) ?_
       refine Kq rfl (lda rfl rfl .tc u33 rfl ?_) ?_
       ·kernel_rfl
       refine Kh rfl (Oc rfl rfl (keep_f1 (val := fun g => .tuple #[cpV z.1.1, z.1.2.v (g.val z.1.2.vals.length), .int .i64 z.2]) (p := fun g => g.cap = z.1.2.vals.length + g.sp.length) (xs := strs z.1.2.vals) (T := 22) fun w hS => (by have := elref_c (w := w) (k := q.k) (c := q.a) (t := r.1.2.2) (a := g36.a) (cap := g36.cap) hS.sl (by omega) (by omega) hm8 (tab_st hT hS); rw [← show z = _ from hz] at this; exact this))) ?_
       intro g136; refine WL.pu ?_; intro hg136
       refine Km rfl (Kq rfl (Re rfl rfl rfl) (Kq rfl (Re rfl rfl rfl) (Kq rfl (Re rfl rfl rfl) ?_)))
       refine Kh rfl (Oz [.string (S []), .string (S [])] rfl) ?_
       intro b18
       refine Kh rfl (Oz [.slice none 0 0, .string (S []), .int .i64 0] rfl) ?_
       intro b19
       refine Nu rfl rfl (Sa rfl rfl rfl .tc) ?_
       refine Nu rfl rfl (Sa rfl rfl rfl .tc) ?_
       refine Ka rfl (Nt (Cq (Cs (Km rfl (Kq rfl (rd_neq rfl rfl rfl) (Nt ?_))))))
       refine Cd rfl (fun hc141 => ?_) (fun hc141 => ?_)
       ·(try simp only [sB] at hc141)
        refine Cs ?_
        refine Ku rfl (Oc rfl rfl (Kv fun w hS => awake50_c (by (exact tab_st hT hS)))) ?_
        refine Ns 142 rfl (v' := .bool true) (by rfl) ?_
        refine Km rfl (Km rfl (Kq rfl (rd_eql rfl rfl rfl) (Km rfl ?_)))
        refine Nb 146 rfl (fun hg146 => ?_) (fun hg146 => ?_)
        ·(try simp only [sB] at hg146)
         refine Kt rfl (Kt rfl (Kq rfl (Rp rfl rfl rfl) (Kq rfl (Rp rfl rfl rfl) ?_)))
         refine Ns 150 rfl (v' := .bool true) (by rfl) ?_
         refine Ka rfl (Nt (Ce (Xb ?_)))
         exact R1 rfl rfl (by rfl)
        ·(try simp only [sB] at hg146)
         refine Km rfl (Kq rfl (rd_eql rfl rfl rfl) (Kq rfl (Rq rfl rfl rfl) (Kq rfl (Rp rfl rfl rfl) ?_)))
         refine Ns 150 rfl (v' := .bool true) (by (exact congrArg Value.bool (by simp; omega))) ?_
         refine Ka rfl (Nt (Ce (Xb ?_)))
         exact R1 rfl rfl (by rfl)
       ·(try simp only [sB] at hc141)
        have h5 : z.2 = 0 := by simpa using hc141
        refine Ck (Xa (Cs ?_))
        refine Kq rfl (Fa (q := 0) rfl rfl u30 rfl rfl) ?_
        refine Kq rfl (ldp rfl rfl .tc u26 rfl (by kernel_rfl : _ = some 4) (by rfl) (by rfl)) ?_
        refine Kq rfl (Fa (q := 4) rfl rfl u30 rfl rfl) ?_
        refine Kq rfl (Ld rfl rfl .tc u22) ?_
        refine Kq rfl (lda rfl rfl .tc u28 rfl ?_) ?_
        ·kernel_rfl
        refine Ku rfl (Oc rfl rfl (Kv fun w hS => (by have := eldecrypt_c (w := w) (k := q.k) (s := q.s) (c := z.1.1) hm8; rw [hc4 h5] at this; exact this))) ?_
        refine Km rfl (Kq rfl (Re rfl rfl rfl) (Kq rfl (Re rfl rfl rfl) (Ka rfl (Ka rfl (Nt (Cs ?_))))))
        refine Ku rfl (Oc rfl rfl (Kv fun w hS => awake50_c (by (exact tab_st hT hS)))) ?_
        refine Km rfl ?_
        refine Ns 161 rfl (v' := .bool true) (by rfl) ?_
        refine Km rfl (Kq rfl (rd_eql rfl rfl rfl) (Kq rfl (Rp rfl rfl rfl) (Km rfl ?_)))
        refine Ns 165 rfl (v' := .bool true) (by (exact congrArg Value.bool (by simp [h3]))) ?_
        refine Km rfl (Km rfl (Kq rfl (rd_seq rfl rfl rfl) (Kq rfl (Rp rfl rfl rfl) (Ka rfl (Nt (Ce ?_))))))
        exact R1 rfl rfl (by (simp [tup]; done))
end Go.Proofs.YtmkghgoibnncbaaGreatDoor
