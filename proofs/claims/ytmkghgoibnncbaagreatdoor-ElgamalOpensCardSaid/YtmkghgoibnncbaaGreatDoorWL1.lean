/-
  Parts of the walk: Ell.
-/
import Derived.Test.YtmkghgoibnncbaaGreatDoorK19
namespace Go.Proofs.YtmkghgoibnncbaaGreatDoor
open Go.RowKit
set_option linter.unusedSimpArgs false
set_option linter.unusedVariables false
set_option maxHeartbeats 600000
set_option maxRecDepth 20000
theorem open_law {k : PK} {s b v : Bs} {c : Cp} {w0 w1 : Zs} (h1 : (stS k c b v).2 = 0) (h2 : (decS k s c).2 = 0) (hH : (hldS (stS k c b v).1 [w0, w1]).1 = true) : prodS k.1 [b] [w0] = ((decS k s c).1, 0) := by
 have hE : stE k c b v = 0 := by
  unfold stS at h1; split at h1
  ·exact h1
  ·rename_i h; exact Decidable.not_not.1 h
 rw [stS, if_neg (fun h => h hE)] at hH
 unfold decS at h2 ⊢
 split at h2
 ·rename_i h; exact absurd h2 h
 ·rename_i h; rw [if_neg h]; split at h2
  ·simp at h2
  ·rename_i h3; rw [if_neg h3]; exact st_open hE (Decidable.not_not.1 h3) hH
theorem eldecrypts_l {q : EC} {w : World} (hT : Tab w) :
  Cw 4 #[ecV q] w (.bool true) := by
 refine En [] [(0, ecV q)] Tryz.func4 rfl Tryz.ntmps4 rfl (Ac rfl (An _)) Fn ?_
 refine Cs ?_
 refine Kh rfl (Oy rfl rfl) ?_
 intro b1
 refine Ka rfl (Nt (Cq (Cs ?_)))
 refine Kq rfl (lda rfl rfl .tc u30 rfl ?_) ?_
 ·kernel_rfl
 refine Ku rfl (Oc rfl rfl (Kv fun w hS => few50_c (q := q))) ?_
 refine Kq rfl (Rt rfl rfl) (Nt ?_)
 refine Cd rfl (fun hc9 => ?_) (fun hc9 => ?_)
 ·(try simp only [sB] at hc9)
  refine Cs ?_
  refine Ku rfl (Oc rfl rfl (Kv fun w hS => awake50_c (by (exact tab_st hT hS)))) ?_
  refine Ka rfl (Nt (Ce (Xb ?_)))
  exact R1 rfl rfl (by rfl)
 ·(try simp only [sB] at hc9)
  have hfw : fewE q := by simpa using hc9
  have hm8 := hfw.2
  refine Ck (Xa (Cs ?_))
  refine Kq rfl (Fa (q := 0) rfl rfl u30 rfl rfl) ?_
  refine Kq rfl (ldp rfl rfl .tc u26 rfl (by kernel_rfl : _ = some 4) (by rfl) (by rfl)) ?_
  refine Kq rfl (Fa (q := 4) rfl rfl u30 rfl rfl) ?_
  refine Kq rfl (Ld rfl rfl .tc u22) ?_
  refine Kq rfl (Fa (q := 6) rfl rfl u30 rfl rfl) ?_
  refine Kq rfl (ldp rfl rfl .tc u28 rfl (by kernel_rfl : _ = some 2) (by rfl) (by rfl)) ?_
  refine Ku rfl (Oc rfl rfl (Kv fun w hS => eldecrypt_c (k := q.k) (s := q.s) (c := q.a) (by assumption))) ?_
  refine Km rfl (Kq rfl (Re rfl rfl rfl) (Kq rfl (Re rfl rfl rfl) (Ka rfl (Ka rfl (Nt (Cs ?_))))))
  refine Kq rfl (Fa (q := 0) rfl rfl u30 rfl rfl) ?_
  refine Kq rfl (ldp rfl rfl .tc u26 rfl (by kernel_rfl : _ = some 4) (by rfl) (by rfl)) ?_
  refine Kq rfl (Fa (q := 4) rfl rfl u30 rfl rfl) ?_
  refine Kq rfl (Ld rfl rfl .tc u22) ?_
  refine Kq rfl (Fa (q := 6) rfl rfl u30 rfl rfl) ?_
  refine Kq rfl (ldp rfl rfl .tc u28 rfl (by kernel_rfl : _ = some 2) (by rfl) (by rfl)) ?_
  refine Ku rfl (Oc rfl rfl (Kv fun w hS => reldec_c (k := q.k) (s := q.s) (c := q.a) (by assumption))) ?_
  refine Km rfl (Kq rfl (Re rfl rfl rfl) (Kq rfl (Re rfl rfl rfl) (Ka rfl (Ka rfl (Nt (Cs ?_))))))
  refine Ku rfl (Oc rfl rfl (Kv fun w hS => awake50_c (by (exact tab_st hT hS)))) ?_
  refine Km rfl ?_
  refine Ns 32 rfl (v' := .bool true) (by rfl) ?_
  refine Km rfl (Km rfl (Kq rfl (rd_seq rfl rfl rfl) (Kq rfl (Rp rfl rfl rfl) (Km rfl ?_))))
  refine Ns 37 rfl (v' := .bool true) (by (exact congrArg Value.bool (by simp [*]; done))) ?_
  refine Km rfl (Km rfl (Kq rfl (rd_eql rfl rfl rfl) (Kq rfl (Rp rfl rfl rfl) (Ka rfl (Nt (Ce ?_))))))
  exact R1 rfl rfl (by (simp [tup]; done))
theorem elstates_l {q : EC} {v : Bs} {w : World} (hT : Tab w) :
  Cw 5 #[ecV q, .string (S v)] w (.bool true) := by
 refine En [] [(0, ecV q), (1, .string (S v))] Tryz.func5 rfl Tryz.ntmps5 rfl (Ac rfl (Ac rfl (An _))) Fn ?_
 refine Cs ?_
 refine Kh rfl (Oy rfl rfl) ?_
 intro b2
 refine Ka rfl (Nt (Cq ?_))
 refine WC.joinP (σ := Unit) [(1, _), (2, _)] (fun gq => [(16, .bool (decide (¬ (fewE q ∧ (v.length : Int) ≤ 16))))]) (fun gq => True) (S2 rfl rfl) ?_ ?_
 ·skip
  refine Cg ?_
  refine Kq rfl (lda rfl rfl .tc u30 rfl ?_) ?_
  ·kernel_rfl
  refine Ku rfl (Oc rfl rfl (Kv fun w hS => few50_c (q := q))) ?_
  refine Kq rfl (Rt rfl rfl) (Km rfl ?_)
  refine Nb 12 rfl (fun hg12 => ?_) (fun hg12 => ?_)
  ·(try simp only [sB] at hg12)
   refine Kt rfl (Kt rfl (Kt rfl (Kq rfl (Rp rfl rfl rfl) (Nn ?_))))
   refine WX.joinP (()) (S2 rfl rfl) (by refine (Sc ?_ (S0 _)) <;> ((refine slot_b rfl ?_; (try dsimp only); (simp [*]; done)))) ?_ (by (exact fun _ h => h))
   (try dsimp only)
   done
  ·(try simp only [sB] at hg12)
   refine Km rfl (Kq rfl (rd_slen rfl rfl u22) (Kq rfl (rd_gtr rfl rfl rfl) (Kq rfl (Rq rfl rfl rfl) (Nn ?_))))
   refine WX.joinP (()) (S2 rfl rfl) (by refine (Sc ?_ (S0 _)) <;> ((refine slot_b rfl ?_; (try dsimp only); (simp [*]; done)))) ?_ (by (exact fun _ h => h))
   (try dsimp only)
   done
 ·rintro _ hmeet; (try dsimp only at hmeet ⊢)
  refine Cd rfl (fun hc16 => ?_) (fun hc16 => ?_)
  ·(try simp only [sB] at hc16)
   refine Cs ?_
   refine Ku rfl (Oc rfl rfl (Kv fun w hS => awake50_c (by (exact tab_st hT hS)))) ?_
   refine Ka rfl (Nt (Ce (Xb ?_)))
   exact R1 rfl rfl (by rfl)
  ·(try simp only [sB] at hc16)
   obtain ⟨hfw, hv⟩ := Decidable.not_not.1 hc16
   have hm8 := hfw.2
   refine Ck (Xa (Cs ?_))
   refine Kq rfl (Fa (q := 0) rfl rfl u30 rfl rfl) ?_
   refine Kq rfl (ldp rfl rfl .tc u26 rfl (by kernel_rfl : _ = some 4) (by rfl) (by rfl)) ?_
   refine Kq rfl (Fa (q := 6) rfl rfl u30 rfl rfl) ?_
   refine Kq rfl (ldp rfl rfl .tc u28 rfl (by kernel_rfl : _ = some 2) (by rfl) (by rfl)) ?_
   refine Kq rfl (Fa (q := 5) rfl rfl u30 rfl rfl) ?_
   refine Kq rfl (Ld rfl rfl .tc u22) ?_
   refine Km rfl ?_
   refine Kh rfl (Oc rfl rfl (keep_ff fun w hS => elstate_c (k := q.k) (c := q.a) (b := q.m) (v := v) (by assumption))) ?_
   rintro s1
   refine WL.pu ?_
   intro hg26; (try dsimp only [List.cons_append, List.nil_append] at hg26 ⊢)
   refine Km rfl (Kq rfl (Re rfl rfl rfl) (Kq rfl (Re rfl rfl rfl) ?_))
   refine Kh rfl (Oz [.slice none 0 0, .slice none 0 0, .slice none 0 0] rfl) ?_
   intro b5
   refine Nu rfl rfl (Sa rfl rfl rfl .tc) ?_
   refine Ka rfl (Nt (Cs ?_))
   refine Kq rfl (Fa (q := 0) rfl rfl u30 rfl rfl) ?_
   refine Kq rfl (ldp rfl rfl .tc u26 rfl (by kernel_rfl : _ = some 4) (by rfl) (by rfl)) ?_
   refine Kq rfl (Fa (q := 6) rfl rfl u30 rfl rfl) ?_
   refine Kq rfl (ldp rfl rfl .tc u28 rfl (by kernel_rfl : _ = some 2) (by rfl) (by rfl)) ?_
   refine Kq rfl (Fa (q := 5) rfl rfl u30 rfl rfl) ?_
   refine Kq rfl (Ld rfl rfl .tc u22) ?_
   refine Km rfl ?_
   refine Kh rfl (Oc rfl rfl (keep_ff fun w hS => relstate_c (k := q.k) (c := q.a) (b := q.m) (v := v) (by assumption))) ?_
   rintro s2
   refine WL.pu ?_
   intro hg37; (try dsimp only [List.cons_append, List.nil_append] at hg37 ⊢)
   refine Km rfl (Kq rfl (Re rfl rfl rfl) (Kq rfl (Re rfl rfl rfl) ?_))
   refine Kh rfl (Oz [.slice none 0 0, .slice none 0 0, .slice none 0 0] rfl) ?_
   intro b7
   refine Nu rfl rfl (Sa rfl rfl rfl .tc) ?_
   refine Ka rfl (Nt (Cs ?_))
   refine Ku rfl (Oc rfl rfl (Kv fun w hS => awake50_c (by (exact tab_st hT hS)))) ?_
   refine Km rfl ?_
   refine Ns 41 rfl (v' := .bool true) (by rfl) ?_
   refine Kq rfl (lda rfl rfl .tc u52 rfl ?_) ?_
   ·kernel_rfl
   refine Kq rfl (lda rfl rfl .tc u52 rfl ?_) ?_
   ·kernel_rfl
   refine Ku rfl (Oc rfl rfl (Kv fun w hS => (by have := ssame_c (s := s1) (t := s2) hS.sl hS.sl hS.sl hS.sl hS.sl hS.sl (fun f hf => (List.mem_append.1 hf).elim (hS.more f) (hS.more f)) (saL_st hm8 hg26) (saL_st hm8 hg37); rw [decide_eq_true (hg26.trans hg37.symm)] at this; exact this))) ?_
   refine Kq rfl (Rp rfl rfl rfl) (Km rfl ?_)
   refine Ns 46 rfl (v' := .bool true) (by rfl) ?_
   refine Km rfl (Km rfl (Kq rfl (rd_eql rfl rfl rfl) (Kq rfl (Rp rfl rfl rfl) (Ka rfl (Nt (Ce ?_))))))
   exact R1 rfl rfl (by (simp [tup]; done))
theorem elopens_l {q : EC} {v : Bs} {w0 w1 : Zs} {w : World} (hT : Tab w) :
  Cw 7 #[ecV q, .string (S v), .agg #[.bool w0.1, .string (S w0.2), .bool w1.1, .string (S w1.2)]] w (.bool true) := by
 refine En [] [(0, ecV q), (1, .string (S v)), (2, .agg #[.bool w0.1, .string (S w0.2), .bool w1.1, .string (S w1.2)])] Tryz.func7 rfl Tryz.ntmps7 rfl (Ac rfl (Ac rfl (Ac rfl (An _)))) Fn ?_
 refine Cs ?_
 refine Kh rfl (Oy rfl rfl) ?_
 intro b3
 refine Kh rfl (Oy rfl rfl) ?_
 intro b5
 refine Ka rfl (Nt (Cq ?_))
 refine WC.joinP (σ := Unit) [(1, _), (3, _), (5, _)] (fun gq => [(36, .bool (decide (¬ (fewE q ∧ (v.length : Int) ≤ 16 ∧ (w0.2.length : Int) ≤ 16 ∧ (w1.2.length : Int) ≤ 16))))]) (fun gq => True) (S3 rfl rfl rfl) ?_ ?_
 ·skip
  refine Cg ?_
  refine Kq rfl (lda rfl rfl .tc u30 rfl ?_) ?_
  ·kernel_rfl
  refine Ku rfl (Oc rfl rfl (Kv fun w hS => few50_c (q := q))) ?_
  refine Kq rfl (Rt rfl rfl) (Km rfl ?_)
  refine Nb 18 rfl (fun hg18 => ?_) (fun hg18 => ?_)
  ·(try simp only [sB] at hg18)
   refine Kt rfl (Kt rfl (Kt rfl (Kq rfl (Rp rfl rfl rfl) (Km rfl (Kt rfl (Kt rfl (Kt rfl (Kt rfl (Kt rfl (Kq rfl (Rp rfl rfl rfl) (Km rfl ?_)))))))))))
   refine Kt rfl (Kt rfl (Kt rfl (Kt rfl (Kt rfl (Kq rfl (Rp rfl rfl rfl) (Nn ?_))))))
   refine WX.joinP (()) (S3 rfl rfl rfl) (by refine (Sc ?_ (S0 _)) <;> ((refine slot_b rfl ?_; (try dsimp only); (simp [*]; done)))) ?_ (by (exact fun _ h => h))
   (try dsimp only)
   done
  ·(try simp only [sB] at hg18)
   refine Km rfl (Kq rfl (rd_slen rfl rfl u22) (Kq rfl (rd_gtr rfl rfl rfl) (Kq rfl (Rq rfl rfl rfl) (Km rfl ?_))))
   refine Nb 23 rfl (fun hg23 => ?_) (fun hg23 => ?_)
   ·(try simp only [sB] at hg23)
    refine Kt rfl (Kt rfl (Kt rfl (Kt rfl (Kt rfl (Kq rfl (Rp rfl rfl rfl) (Km rfl (Kt rfl (Kt rfl (Kt rfl (Kt rfl (Kt rfl ?_)))))))))))
    refine Kq rfl (Rp rfl rfl rfl) (Nn ?_)
    refine WX.joinP (()) (S3 rfl rfl rfl) (by refine (Sc ?_ (S0 _)) <;> ((refine slot_b rfl ?_; (try dsimp only); (simp [*]; done)))) ?_ (by (exact fun _ h => h))
    (try dsimp only)
    done
   ·(try simp only [sB] at hg23)
    refine Kq rfl (Jb rfl rfl rfl u73 (by kernel_rfl : _ = some 2) ?_) ?_
    ·omega
    (refine Kq rfl (rd_fa rfl rfl u64 rfl (by kernel_rfl) (by (try simp only [sN, Int.reduceToNat, Nat.reduceAdd, Nat.reduceMul, Nat.reduceSub]); rfl)) ?_)
    refine Kq rfl (Ld rfl rfl .tc u22) ?_
    refine Kq rfl (rd_slen rfl rfl u22) (Kq rfl (rd_gtr rfl rfl rfl) (Kq rfl (Rq rfl rfl rfl) (Km rfl ?_)))
    refine Nb 30 rfl (fun hg30 => ?_) (fun hg30 => ?_)
    ·(try simp only [sB] at hg30)
     refine Kt rfl (Kt rfl (Kt rfl (Kt rfl (Kt rfl (Kq rfl (Rp rfl rfl rfl) (Nn ?_))))))
     refine WX.joinP (()) (S3 rfl rfl rfl) (by refine (Sc ?_ (S0 _)) <;> ((refine slot_b rfl ?_; (try dsimp only); (simp [*]; done)))) ?_ (by (exact fun _ h => h))
     (try dsimp only)
     done
    ·(try simp only [sB] at hg30)
     refine Kq rfl (Jb rfl rfl rfl u73 (by kernel_rfl : _ = some 2) ?_) ?_
     ·omega
     (refine Kq rfl (rd_fa rfl rfl u64 rfl (by kernel_rfl) (by (try simp only [sN, Int.reduceToNat, Nat.reduceAdd, Nat.reduceMul, Nat.reduceSub]); rfl)) ?_)
     refine Kq rfl (Ld rfl rfl .tc u22) ?_
     refine Kq rfl (rd_slen rfl rfl u22) (Kq rfl (rd_gtr rfl rfl rfl) (Kq rfl (Rq rfl rfl rfl) (Nn ?_)))
     refine WX.joinP (()) (S3 rfl rfl rfl) (by refine (Sc ?_ (S0 _)) <;> ((refine slot_b rfl ?_; (try dsimp only); (simp [*]; done)))) ?_ (by (exact fun _ h => h))
     (try dsimp only)
     done
 ·rintro _ hmeet; (try dsimp only at hmeet ⊢)
  refine Cd rfl (fun hc36 => ?_) (fun hc36 => ?_)
  ·(try simp only [sB] at hc36)
   refine Cs ?_
   refine Ku rfl (Oc rfl rfl (Kv fun w hS => awake50_c (by (exact tab_st hT hS)))) ?_
   refine Ka rfl (Nt (Ce (Xb ?_)))
   exact R1 rfl rfl (by rfl)
  ·(try simp only [sB] at hc36)
   obtain ⟨hfw, _, _, _⟩ := Decidable.not_not.1 hc36
   have hm8 := hfw.2
   refine Ck (Xa (Cs ?_))
   refine Kq rfl (Fa (q := 0) rfl rfl u30 rfl rfl) ?_
   refine Kq rfl (ldp rfl rfl .tc u26 rfl (by kernel_rfl : _ = some 4) (by rfl) (by rfl)) ?_
   refine Kq rfl (Fa (q := 6) rfl rfl u30 rfl rfl) ?_
   refine Kq rfl (ldp rfl rfl .tc u28 rfl (by kernel_rfl : _ = some 2) (by rfl) (by rfl)) ?_
   refine Kq rfl (Fa (q := 5) rfl rfl u30 rfl rfl) ?_
   refine Kq rfl (Ld rfl rfl .tc u22) ?_
   refine Km rfl ?_
   refine Kh rfl (Oc rfl rfl (keep_ff fun w hS => elstate_c (k := q.k) (c := q.a) (b := q.m) (v := v) (by assumption))) ?_
   rintro s1
   refine WL.pu ?_
   intro hg46; (try dsimp only [List.cons_append, List.nil_append] at hg46 ⊢)
   refine Km rfl (Kq rfl (Re rfl rfl rfl) (Kq rfl (Re rfl rfl rfl) ?_))
   refine Kh rfl (Oz [.slice none 0 0, .slice none 0 0, .slice none 0 0] rfl) ?_
   intro b7
   refine Nu rfl rfl (Sa rfl rfl rfl .tc) ?_
   refine Ka rfl (Nt (Cs ?_))
   refine Kq rfl (Fa (q := 0) rfl rfl u30 rfl rfl) ?_
   refine Kq rfl (ldp rfl rfl .tc u26 rfl (by kernel_rfl : _ = some 4) (by rfl) (by rfl)) ?_
   refine Kq rfl (Fa (q := 4) rfl rfl u30 rfl rfl) ?_
   refine Kq rfl (Ld rfl rfl .tc u22) ?_
   refine Kq rfl (Fa (q := 6) rfl rfl u30 rfl rfl) ?_
   refine Kq rfl (ldp rfl rfl .tc u28 rfl (by kernel_rfl : _ = some 2) (by rfl) (by rfl)) ?_
   refine Ku rfl (Oc rfl rfl (Kv fun w hS => eldecrypt_c (k := q.k) (s := q.s) (c := q.a) (by assumption))) ?_
   refine Km rfl (Kq rfl (Re rfl rfl rfl) (Kq rfl (Re rfl rfl rfl) (Ka rfl (Ka rfl (Nt (Cq ?_))))))
   refine WC.joinP (σ := Unit) [(3, _), (5, _), (7, _), (9, _)] (fun gq => [(64, .bool (decide (¬ ((stS q.k q.a q.m v).2 = 0 ∧ (decS q.k q.s q.a).2 = 0))))]) (fun gq => True) (S4 rfl rfl rfl rfl) ?_ ?_
   ·skip
    refine Cg (Km rfl (Kq rfl (rd_neq rfl rfl rfl) (Km rfl ?_)))
    refine Nb 61 rfl (fun hg61 => ?_) (fun hg61 => ?_)
    ·(try simp only [sB] at hg61)
     refine Kt rfl (Kt rfl (Kq rfl (Rp rfl rfl rfl) (Nn ?_)))
     refine WX.joinP (()) (S4 rfl rfl rfl rfl) (by refine (Sc ?_ (S0 _)) <;> ((refine slot_b rfl ?_; (try dsimp only); (simp [*]; done)))) ?_ (by (exact fun _ h => h))
     (try dsimp only)
     done
    ·(try simp only [sB] at hg61)
     refine Km rfl (Kq rfl (rd_neq rfl rfl rfl) (Kq rfl (Rq rfl rfl rfl) (Nn ?_)))
     refine WX.joinP (()) (S4 rfl rfl rfl rfl) (by refine (Sc ?_ (S0 _)) <;> ((refine slot_b rfl ?_; (try dsimp only); (simp [*]; done)))) ?_ (by (exact fun _ h => h))
     (try dsimp only)
     done
   ·rintro _ hmeet; (try dsimp only at hmeet ⊢)
    refine Cd rfl (fun hc64 => ?_) (fun hc64 => ?_)
    ·(try simp only [sB] at hc64)
     refine Cs ?_
     refine Ku rfl (Oc rfl rfl (Kv fun w hS => awake50_c (by (exact tab_st hT hS)))) ?_
     refine Ka rfl (Nt (Ce (Xb ?_)))
     exact R1 rfl rfl (by rfl)
    ·(try simp only [sB] at hc64)
     obtain ⟨h1, h2⟩ := Decidable.not_not.1 hc64
     refine Ck (Xa (Cq ?_))
     refine Cf [0, 1, 2, 3, 4, 5, 6, 7] [] [0, 0, 1, 0, 0, 0, 0, 0] (by kernel_rfl) (by kernel_rfl) rfl ?_
     refine Kj rfl (lda rfl rfl .tc u52 rfl ?_) ?_
     ·kernel_rfl
     refine Kj rfl (rd_sla rfl rfl u73 (by kernel_rfl : _ = some 2)) ?_
     refine Jv rfl rfl rfl rfl rfl (fun ext => Oc rfl rfl (Kv fun w hS => (by have := holds_c (w := w) (s := s1) (ws := [w0, w1]) (a := some ⟨b5, 0, none⟩) (c := 2) hS.sl hS.sl hS.sl hS.os hS.more (saL_st hm8 hg46) (by simp); rw [hg46] at this; exact this))) ?_
     refine Kj rfl (Rm rfl rfl) ?_
     refine Kj rfl (Re rfl rfl rfl) ?_
     refine Kj rfl (Re rfl rfl rfl) ?_
     refine Kj rfl (Ra rfl rfl) ?_
     refine Kj rfl (Ra rfl rfl) ?_
     refine WJ.nil ?_
     refine Nt (Cq ?_)
     refine WC.joinP (σ := Unit) [(3, _), (5, _), (9, _)] (fun gq => [(77, .bool (decide (¬ ((hldS (stS q.k q.a q.m v).1 [w0, w1]).2 = 0 ∧ (hldS (stS q.k q.a q.m v).1 [w0, w1]).1 = true))))]) (fun gq => True) (S3 rfl rfl rfl) ?_ ?_
     ·skip
      refine Cg (Km rfl (Kq rfl (rd_neq rfl rfl rfl) (Km rfl ?_)))
      refine Nb 74 rfl (fun hg74 => ?_) (fun hg74 => ?_)
      ·(try simp only [sB] at hg74)
       refine Kt rfl (Kt rfl (Kq rfl (Rp rfl rfl rfl) (Nn ?_)))
       refine WX.joinP (()) (S3 rfl rfl rfl) (by refine (Sc ?_ (S0 _)) <;> ((refine slot_b rfl ?_; (try dsimp only); (simp [*]; done)))) ?_ (by (exact fun _ h => h))
       (try dsimp only)
       done
      ·(try simp only [sB] at hg74)
       refine Km rfl (Kq rfl (Rt rfl rfl) (Kq rfl (Rq rfl rfl rfl) (Nn ?_)))
       refine WX.joinP (()) (S3 rfl rfl rfl) (by refine (Sc ?_ (S0 _)) <;> ((refine slot_b rfl ?_; (try dsimp only); (simp [*]; done)))) ?_ (by (exact fun _ h => h))
       (try dsimp only)
       done
     ·rintro _ hmeet; (try dsimp only at hmeet ⊢)
      refine Cd rfl (fun hc77 => ?_) (fun hc77 => ?_)
      ·(try simp only [sB] at hc77)
       refine Cs ?_
       refine Ku rfl (Oc rfl rfl (Kv fun w hS => awake50_c (by (exact tab_st hT hS)))) ?_
       refine Ka rfl (Nt (Ce (Xb ?_)))
       exact R1 rfl rfl (by rfl)
      ·(try simp only [sB] at hc77)
       obtain ⟨_, hH⟩ := Decidable.not_not.1 hc77
       have hP := open_law h1 h2 hH
       refine Ck (Xa (Cs ?_))
       refine Kq rfl (Fa (q := 0) rfl rfl u30 rfl rfl) ?_
       refine Kq rfl (Fa (q := 0) rfl rfl u26 rfl rfl) ?_
       refine Kq rfl (ldp rfl rfl .tc u24 rfl (by kernel_rfl : _ = some 2) (by rfl) (by rfl)) ?_
       refine Kq rfl (Fa (q := 5) rfl rfl u30 rfl rfl) ?_
       refine Kq rfl (Ld rfl rfl .tc u22) ?_
       refine Kq rfl (Jb rfl rfl rfl u73 (by kernel_rfl : _ = some 2) ?_) ?_
       ·omega
       refine Kq rfl (ldp rfl rfl .tc u64 rfl (by kernel_rfl : _ = some 2) (by rfl) (by rfl)) ?_
       refine Ku rfl (Oc rfl rfl (Kv fun w hS => (by have := pexp_c (w := w) (g := q.k.1) (x := q.m) (z := w0) hm8; rw [hP] at this; exact this))) ?_
       refine Km rfl (Kq rfl (Re rfl rfl rfl) (Kq rfl (Re rfl rfl rfl) (Ka rfl (Ka rfl (Nt (Cs ?_))))))
       refine Ku rfl (Oc rfl rfl (Kv fun w hS => awake50_c (by (exact tab_st hT hS)))) ?_
       refine Km rfl ?_
       refine Ns 91 rfl (v' := .bool true) (by rfl) ?_
       refine Km rfl (Kq rfl (rd_eql rfl rfl rfl) (Kq rfl (Rp rfl rfl rfl) (Km rfl ?_)))
       refine Ns 95 rfl (v' := .bool true) (by rfl) ?_
       refine Km rfl (Km rfl (Kq rfl (rd_seq rfl rfl rfl) (Kq rfl (Rp rfl rfl rfl) (Ka rfl (Nt (Ce ?_))))))
       exact R1 rfl rfl (by (simp [tup]; done))
end Go.Proofs.YtmkghgoibnncbaaGreatDoor
