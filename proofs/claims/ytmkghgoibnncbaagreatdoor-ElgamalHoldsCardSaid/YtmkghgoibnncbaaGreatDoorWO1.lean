/-
  Parts of the walk: Elo.
-/
import Derived.Test.YtmkghgoibnncbaaGreatDoorK19
namespace Go.Proofs.YtmkghgoibnncbaaGreatDoor
open Go.RowKit
set_option linter.unusedSimpArgs false
set_option linter.unusedVariables false
set_option maxHeartbeats 600000
set_option maxRecDepth 20000
theorem hold_all {k : PK} {b mm : Bs} {t : Tp} {n : Nat} {r : (Cp × Bs × Tp) × Int} (hY : chkY k = 0) (hb : elG k.1 b) (hn : n < 65536) (hmm : mm = canon (powI (val k.1.1) (val b) n)) (hr : r = encS k mm t) (h1 : r.2 = 0) :
  stS k r.1.1 b (canon (n + 1)) = (stQ k r.1.1 b (canon (n + 1)), 0) ∧ hldS (stQ k r.1.1 b (canon (n + 1))) [ofZ n, fromZ r.1.2.1] = (true, 0) := by
 subst hr
 obtain ⟨_, _, _, _, _, ho, hlt⟩ := back0 h1
 obtain ⟨_, _, e⟩ := encS_ok h1
 rw [e] at ho hlt ⊢
 obtain ⟨_, h2, h3⟩ := st_enc (x := n) hY hb ho hlt hn
 subst hmm
 refine ⟨?_, h3⟩
 rw [stS, if_neg (fun h => h h2)]
theorem elholds_l {q : EC} {n : Nat} {t : Tp} {a : Option Addr} {cap : Nat} {w : World} {ok : Nat → Prop} (hF1 : (Fact.sl a (strs t.vals)).holds ok w) (hl : t.vals.length ≤ 9223372036854775807) (hn : n < 65536) (hT : Tab w) :
  Cw 6 #[ecV q, .int .u16 (n : Int), t.v (.slice a t.vals.length cap)] w (.bool true) := by
 refine En [Fact.sl a (strs t.vals)] [(0, ecV q), (1, .int .u16 (n : Int)), (2, t.v (.slice a t.vals.length cap))] Tryz.func6 rfl Tryz.ntmps6 rfl (Ac rfl (Ac rfl (Ac rfl (An _)))) (Fc (fact_any hF1) Fn) ?_
 refine Cs ?_
 refine Kh rfl (Oy rfl rfl) ?_
 intro b3
 refine Kh rfl (Oy rfl rfl) ?_
 intro b5
 refine Ka rfl (Nt (Cq ?_))
 refine WC.joinP (σ := Unit) [(1, _), (3, _), (5, _)] (fun gq => [(39, .bool (decide (¬ (fewE q ∧ fewT t ∧ chkY q.k = 0 ∧ chkG q.k.1 = 0 ∧ elG q.k.1 q.m))))]) (fun gq => True) (S3 rfl rfl rfl) ?_ ?_
 ·skip
  refine Cg ?_
  refine Kq rfl (lda rfl rfl .tc u30 rfl ?_) ?_
  ·kernel_rfl
  refine Ku rfl (Oc rfl rfl (Kv fun w hS => few50_c (q := q))) ?_
  refine Kq rfl (Rt rfl rfl) (Km rfl ?_)
  refine Nb 20 rfl (fun hg20 => ?_) (fun hg20 => ?_)
  ·(try simp only [sB] at hg20)
   refine Kt rfl (Kt rfl (Kt rfl (Kq rfl (Rp rfl rfl rfl) (Km rfl (Kt rfl (Kt rfl (Kt rfl (Kt rfl (Kq rfl (Rp rfl rfl rfl) (Km rfl (Kt rfl ?_)))))))))))
   refine Kt rfl (Kt rfl (Kt rfl (Kt rfl (Kt rfl (Kt rfl (Kq rfl (Rp rfl rfl rfl) (Nn ?_)))))))
   refine WX.joinP (()) (S3 rfl rfl rfl) (by refine (Sc ?_ (S0 _)) <;> ((refine slot_b rfl ?_; (try dsimp only); (simp [*]; done)))) ?_ (by (exact fun _ h => h))
   (try dsimp only)
   done
  ·(try simp only [sB] at hg20)
   refine Kq rfl (lda rfl rfl .tc u33 rfl ?_) ?_
   ·kernel_rfl
   refine Ku rfl (Oc rfl rfl (Kv fun w hS => fewT_c (t := t) (by (exact hS.sl)) (by assumption))) ?_
   refine Kq rfl (Rt rfl rfl) (Kq rfl (Rq rfl rfl rfl) (Km rfl ?_))
   refine Nb 25 rfl (fun hg25 => ?_) (fun hg25 => ?_)
   ·(try simp only [sB] at hg25)
    refine Kt rfl (Kt rfl (Kt rfl (Kt rfl (Kq rfl (Rp rfl rfl rfl) (Km rfl (Kt rfl (Kt rfl (Kt rfl (Kt rfl (Kt rfl (Kt rfl ?_)))))))))))
    refine Kt rfl (Kq rfl (Rp rfl rfl rfl) (Nn ?_))
    refine WX.joinP (()) (S3 rfl rfl rfl) (by refine (Sc ?_ (S0 _)) <;> ((refine slot_b rfl ?_; (try dsimp only); (simp [*]; done)))) ?_ (by (exact fun _ h => h))
    (try dsimp only)
    done
   ·(try simp only [sB] at hg25)
    refine Kq rfl (Fa (q := 0) rfl rfl u30 rfl rfl) ?_
    refine Kq rfl (ldp rfl rfl .tc u26 rfl (by kernel_rfl : _ = some 4) (by rfl) (by rfl)) ?_
    refine Ku rfl (Oc rfl rfl (Kv fun w hS => schcheck_c (k := q.k) (by exact (show fewE q by assumption).2))) ?_
    refine Kq rfl (rd_neq rfl rfl rfl) (Kq rfl (Rq rfl rfl rfl) (Km rfl ?_))
    refine Nb 31 rfl (fun hg31 => ?_) (fun hg31 => ?_)
    ·(try simp only [sB] at hg31)
     refine Kt rfl (Kt rfl (Kt rfl (Kt rfl (Kt rfl (Kt rfl (Kt rfl (Kq rfl (Rp rfl rfl rfl) (Nn ?_))))))))
     refine WX.joinP (()) (S3 rfl rfl rfl) (by refine (Sc ?_ (S0 _)) <;> ((refine slot_b rfl ?_; (try dsimp only); (simp [*]; done)))) ?_ (by (exact fun _ h => h))
     (try dsimp only)
     done
    ·(try simp only [sB] at hg31)
     refine Kq rfl (Fa (q := 0) rfl rfl u30 rfl rfl) ?_
     refine Kq rfl (Fa (q := 0) rfl rfl u26 rfl rfl) ?_
     refine Kq rfl (ldp rfl rfl .tc u24 rfl (by kernel_rfl : _ = some 2) (by rfl) (by rfl)) ?_
     refine Kq rfl (Fa (q := 5) rfl rfl u30 rfl rfl) ?_
     refine Kq rfl (Ld rfl rfl .tc u22) ?_
     refine Ku rfl (Oc rfl rfl (Kv fun w hS => pwhas_c (g := q.k.1) (x := q.m) (by exact (show fewE q by assumption).2))) ?_
     refine Kq rfl (Rt rfl rfl) (Kq rfl (Rq rfl rfl rfl) (Nn ?_))
     refine WX.joinP (()) (S3 rfl rfl rfl) (by refine (Sc ?_ (S0 _)) <;> ((refine slot_b rfl ?_; (try dsimp only); (simp [*]; done)))) ?_ (by (exact fun _ h => h))
     (try dsimp only)
     done
 ·rintro _ hmeet; (try dsimp only at hmeet ⊢)
  refine Cd rfl (fun hc39 => ?_) (fun hc39 => ?_)
  ·(try simp only [sB] at hc39)
   refine Cs ?_
   refine Ku rfl (Oc rfl rfl (Kv fun w hS => awake50_c (by (exact tab_st hT hS)))) ?_
   refine Ka rfl (Nt (Ce (Xb ?_)))
   exact R1 rfl rfl (by rfl)
  ·(try simp only [sB] at hc39)
   obtain ⟨hfw, hft, hY, hg, hb⟩ := Decidable.not_not.1 hc39
   have hm8 := hfw.2
   have hv := hft.1; have hse := hft.2.1
   obtain ⟨mm, hmm⟩ : ∃ mm, mm = canon (powI (val q.k.1.1) (val q.m) n) := ⟨_, rfl⟩
   have hp : prodS q.k.1 [q.m] [ofZ n] = (mm, 0) := by
    have hz : okZ (ofZ n) := okZ_ofZ.2 (by have : 65536 < Big := by decide +kernel
                                           rw [Int.natAbs_natCast]; omega)
    rw [prodS_one hg hb hz, zv_ofZ, ← hmm]
   obtain ⟨r, hr⟩ : ∃ r, r = encS q.k mm t := ⟨_, rfl⟩
   have hrv : r.1.2.2.vals.length ≤ t.vals.length := by rw [hr]; exact enc_vals q.k mm t
   refine Ck (Xa (Cq ?_))
   refine Cf [5, 6, 7, 0, 1, 2, 3, 4, 8, 9, 10, 11, 12, 13] [] [0, 0, 0, 0, 0, 0, 0, 1, 1, 0, 0, 0, 0, 0] (by kernel_rfl) (by kernel_rfl) rfl ?_
   refine Kj rfl (Rm rfl rfl) ?_
   refine Kj rfl (rd_convW rfl rfl Tryz.underlying59 u2 (by omega)) ?_
   refine Jv rfl rfl rfl rfl rfl (fun ext => Oc rfl rfl (Kv fun w hS => zof_c (n := n) (by omega) (by omega))) ?_
   refine Kj rfl (Fa (q := 0) rfl rfl u30 rfl rfl) ?_
   refine Kj rfl (Fa (q := 0) rfl rfl u26 rfl rfl) ?_
   refine Kj rfl (ldp rfl rfl .tc u24 rfl (by kernel_rfl : _ = some 2) (by rfl) (by rfl)) ?_
   refine Kj rfl (Fa (q := 5) rfl rfl u30 rfl rfl) ?_
   refine Kj rfl (Ld rfl rfl .tc u22) ?_
   refine Jv rfl rfl rfl rfl rfl (fun ext => Oc rfl rfl (Kv fun w hS => (by have := pexp_c (w := w) (g := q.k.1) (x := q.m) (z := ofZ n) hm8; rw [hp] at this; exact this))) ?_
   refine Kj rfl (Rm rfl rfl) ?_
   refine Kj rfl (Re rfl rfl rfl) ?_
   refine Kj rfl (Re rfl rfl rfl) ?_
   refine Kj rfl (Ra rfl rfl) ?_
   refine Kj rfl (Ra rfl rfl) ?_
   refine WJ.nil ?_
   refine Nt (Cs ?_)
   refine Kq rfl (Fa (q := 0) rfl rfl u30 rfl rfl) ?_
   refine Kq rfl (ldp rfl rfl .tc u26 rfl (by kernel_rfl : _ = some 4) (by rfl) (by rfl)) ?_
   refine Km rfl ?_
   refine Kq rfl (lda rfl rfl .tc u33 rfl ?_) ?_
   ·kernel_rfl
   refine Kh rfl (Oc rfl rfl (keep_f1 (val := fun g => .tuple #[cpV r.1.1, .string (S r.1.2.1), r.1.2.2.v (g.val r.1.2.2.vals.length), .int .i64 r.2]) (p := fun g => g.cap = r.1.2.2.vals.length + g.sp.length) (xs := strs r.1.2.2.vals) (T := 22) fun w hS => (by have := elenc_c (w := w) (k := q.k) (m := mm) (t := t) (a := a) (cap := cap) hS.sl (by omega) (by omega) hm8 (tab_st hT hS); rw [← hr] at this; exact this))) ?_
   intro g58; refine WL.pu ?_; intro hg58
   refine Km rfl (Kq rfl (Re rfl rfl rfl) (Kq rfl (Re rfl rfl rfl) (Kq rfl (Re rfl rfl rfl) (Kq rfl (Re rfl rfl rfl) ?_))))
   refine Kh rfl (Oz [.string (S []), .string (S [])] rfl) ?_
   intro b9
   refine Kh rfl (Oz [.slice none 0 0, .string (S []), .int .i64 0] rfl) ?_
   intro b11
   refine Nu rfl rfl (Sa rfl rfl rfl .tc) ?_
   refine Ka rfl ?_
   refine Nu rfl rfl (Sa rfl rfl rfl .tc) ?_
   refine Ka rfl (Nt (Cq (Cs (Km rfl (Kq rfl (rd_neq rfl rfl rfl) (Nt ?_))))))
   refine Cd rfl (fun hc64 => ?_) (fun hc64 => ?_)
   ·(try simp only [sB] at hc64)
    refine Cs ?_
    refine Ku rfl (Oc rfl rfl (Kv fun w hS => awake50_c (by (exact tab_st hT hS)))) ?_
    refine Km rfl ?_
    refine Ns 66 rfl (v' := .bool true) (by rfl) ?_
    refine Km rfl (Kq rfl (rd_eql rfl rfl rfl) (Kq rfl (Rp rfl rfl rfl) (Ka rfl (Nt (Ce (Xb ?_))))))
    exact R1 rfl rfl (by rfl)
   ·(try simp only [sB] at hc64)
    have h1 : r.2 = 0 := by simpa using hc64
    obtain ⟨hs1, hs2⟩ := hold_all hY hb hn hmm hr h1
    refine Ck (Xa (Cq ?_))
    refine Cf [5, 6, 7, 8, 0, 1, 2, 3, 4, 9, 10, 11, 13, 14, 12, 15] [] [0, 0, 0, 0, 0, 0, 0, 0, 1, 1, 0, 0, 0, 3, 1, 0] (by kernel_rfl) (by kernel_rfl) rfl ?_
    refine Kj rfl (Rm rfl rfl) ?_
    refine Kj rfl (rd_convW rfl rfl Tryz.underlying59 u67 (by omega)) ?_
    refine Kj rfl (rd_addW (c := 1) rfl rfl rfl (by omega)) ?_
    refine WJ.set 78 rfl (v' := .int .u64 ((n + 1 : Nat) : Int)) (congrArg (Value.int .u64) (by omega)) ?_
    refine Jv rfl rfl rfl rfl rfl (fun ext => Oc rfl rfl (Kv fun w hS => of_c (n := n + 1) (by omega))) ?_
    refine Kj rfl (Fa (q := 0) rfl rfl u30 rfl rfl) ?_
    refine Kj rfl (ldp rfl rfl .tc u26 rfl (by kernel_rfl : _ = some 4) (by rfl) (by rfl)) ?_
    refine Kj rfl (lda rfl rfl .tc u28 rfl ?_) ?_
    ·kernel_rfl
    refine Kj rfl (Fa (q := 5) rfl rfl u30 rfl rfl) ?_
    refine Kj rfl (Ld rfl rfl .tc u22) ?_
    refine Jg rfl rfl rfl rfl rfl (fun ext => Oc rfl rfl (keep_ff fun w hS => elstate_c (k := q.k) (c := r.1.1) (b := q.m) (v := canon (n + 1)) (by assumption))) ?_
    rintro s80 hg80; (try dsimp only [List.cons_append, List.nil_append] at hg80 ⊢)
    refine Kj rfl (Rm rfl rfl) ?_
    refine Kj rfl (Re rfl rfl rfl) ?_
    refine Jf rfl rfl rfl rfl rfl (fr_alloc rfl (v := (.agg #[.slice none 0 0, .slice none 0 0, .slice none 0 0])) (cs := [.slice none 0 0, .slice none 0 0, .slice none 0 0]) (by kernel_rfl) rfl) ?_
    intro b13
    refine WJ.st rfl rfl rfl rfl (staJ rfl rfl rfl ?_ ?_ ?_) ?_
    ·kernel_rfl
    ·simp [Value.oneCell']
    ·rfl
    refine Kj rfl (Re rfl rfl rfl) ?_
    refine Kj rfl (Ra rfl rfl) ?_
    refine WJ.nil ?_
    refine Nt (Cq ?_)
    refine Cf [1, 2, 3, 4, 5, 0, 6, 7, 8, 9, 10, 11, 12] [] [0, 0, 0, 1, 0, 1, 3, 1, 0, 0, 0, 0, 0] (by kernel_rfl) (by kernel_rfl) rfl ?_
    refine Kj rfl (Rm rfl rfl) ?_
    refine Kj rfl (rd_convW rfl rfl Tryz.underlying59 u2 (by omega)) ?_
    refine Jv rfl rfl rfl rfl rfl (fun ext => Oc rfl rfl (Kv fun w hS => zof_c (n := n) (by omega) (by omega))) ?_
    refine Kj rfl (Rm rfl rfl) ?_
    refine Jv rfl rfl rfl rfl rfl (fun ext => Oc rfl rfl (Kv fun w hS => zfrom_c (a := r.1.2.1))) ?_
    have hc9 : s80.core = stQ q.k r.1.1 q.m (canon (n + 1)) := hg80.trans (congrArg (·.1) hs1)
    refine Kj rfl (lda rfl rfl .tc u52 rfl ?_) ?_
    ·kernel_rfl
    refine Jf rfl rfl rfl rfl rfl (fr_bsN rfl rfl u71 (by kernel_rfl : _ = some (some (.agg #[.bool false, .string (S [])]), 2, 24)) (by kernel_rfl) (by decide) rfl rfl (by (simp [Value.cells]; done)) (by (simp only [List.map, Value.cells, List.flatMap_cons, List.flatMap_nil, List.append_nil, List.toList_toArray]; rfl)) (by decide)) ?_
    intro b90
    refine Jv rfl rfl rfl rfl rfl (fun ext => Oc rfl rfl (Kv fun w hS => (by have := holds_c (w := w) (s := s80) (ws := [ofZ n, fromZ r.1.2.1]) (a := some ⟨b90, 0, none⟩) (c := 2) hS.sl hS.sl hS.sl hS.os hS.more (saL_st hm8 hg80) (by simp); rw [hc9, hs2] at this; exact this))) ?_
    refine Kj rfl (Rm rfl rfl) ?_
    refine Kj rfl (Re rfl rfl rfl) ?_
    refine Kj rfl (Re rfl rfl rfl) ?_
    refine Kj rfl (Ra rfl rfl) ?_
    refine Kj rfl (Ra rfl rfl) ?_
    refine WJ.nil ?_
    refine Nt (Cs ?_)
    refine Ku rfl (Oc rfl rfl (Kv fun w hS => awake50_c (by (exact tab_st hT hS)))) ?_
    refine Km rfl ?_
    refine Ns 95 rfl (v' := .bool true) (by rfl) ?_
    refine Km rfl (Kq rfl (rd_eql rfl rfl rfl) (Kq rfl (Rp rfl rfl rfl) (Km rfl ?_)))
    refine Ns 99 rfl (v' := .bool true) (by rfl) ?_
    refine Km rfl (Kq rfl (rd_eql rfl rfl rfl) (Kq rfl (Rp rfl rfl rfl) ?_))
    refine Ns 102 rfl (v' := .bool true) (by exact congrArg Value.bool (by rw [hs1]; rfl)) ?_
    refine Km rfl (Km rfl (Kq rfl (rd_eql rfl rfl rfl) (Kq rfl (Rp rfl rfl rfl) (Km rfl ?_))))
    refine Ns 107 rfl (v' := .bool true) (by rfl) ?_
    refine Km rfl (Kq rfl (Rp rfl rfl rfl) (Ka rfl (Nt (Ce ?_))))
    exact R1 rfl rfl (by rfl)
theorem wf_u16 {n : Int} (h : (Lit.int .u16 n).wf = true) : 0 ≤ n ∧ n ≤ 65535 := by
 have e1 : IntKind.u16.min = 0 := by decide
 have e2 : IntKind.u16.max = 65535 := by decide
 simp [Lit.wf, e1, e2] at h; omega
theorem elholds_i {q : EC} {z : Int} {t : Tp} {a : Option Addr} {cap : Nat} {w : World} {ok : Nat → Prop} (hF1 : (Fact.sl a (strs t.vals)).holds ok w) (hl : t.vals.length ≤ 9223372036854775807) (hz : (Lit.int .u16 z).wf = true) (hT : Tab w) :
  Cw 6 #[ecV q, .int .u16 z, t.v (.slice a t.vals.length cap)] w (.bool true) :=
 by obtain ⟨h0, h1⟩ := wf_u16 hz; obtain ⟨n, rfl⟩ := Int.eq_ofNat_of_zero_le h0; exact elholds_l hF1 hl (by omega) hT
end Go.Proofs.YtmkghgoibnncbaaGreatDoor
