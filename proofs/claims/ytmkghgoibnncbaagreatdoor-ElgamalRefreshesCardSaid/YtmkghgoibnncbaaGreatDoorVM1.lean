/-
  Parts of the walk: Elm.
-/
import Derived.Test.YtmkghgoibnncbaaGreatDoorJ19
namespace Go.Proofs.YtmkghgoibnncbaaGreatDoor
open Go.RowKit
set_option linter.unusedSimpArgs false
set_option linter.unusedVariables false
set_option maxHeartbeats 600000
set_option maxRecDepth 20000
theorem elencrypts_l {q : EC} {t : Tp} {a : Option Addr} {cap : Nat} {w : World} {ok : Nat → Prop} (hF1 : (Fact.sl a (strs t.vals)).holds ok w) (hl : t.vals.length ≤ 9223372036854775807) (hT : Tab w) :
  Cw 3 #[ecV q, t.v (.slice a t.vals.length cap)] w (.bool true) := by
 refine En [Fact.sl a (strs t.vals)] [(0, ecV q), (1, t.v (.slice a t.vals.length cap))] Tryz.func3 rfl Tryz.ntmps3 rfl (Ac rfl (Ac rfl (An _))) (Fc (fact_any hF1) Fn) ?_
 refine Cs ?_
 refine Kh rfl (Oy rfl rfl) ?_
 intro b2
 refine Kh rfl (Oy rfl rfl) ?_
 intro b3
 refine Ka rfl (Nt (Cq ?_))
 refine WC.joinP (σ := Unit) [(2, _), (3, _)] (fun gq => [(20, .bool (decide (¬ (fewE q ∧ fewT t))))]) (fun gq => True) (S2 rfl rfl) ?_ ?_
 ·skip
  refine Cg ?_
  refine Kq rfl (lda rfl rfl .tc u30 rfl ?_) ?_
  ·kernel_rfl
  refine Ku rfl (Oc rfl rfl (Kv fun w hS => few50_c (q := q))) ?_
  refine Kq rfl (Rt rfl rfl) (Km rfl ?_)
  refine Nb 16 rfl (fun hg16 => ?_) (fun hg16 => ?_)
  ·(try simp only [sB] at hg16)
   refine Kt rfl (Kt rfl (Kt rfl (Kq rfl (Rp rfl rfl rfl) (Nn ?_))))
   refine WX.joinP (()) (S2 rfl rfl) (by refine (Sc ?_ (S0 _)) <;> ((refine slot_b rfl ?_; (try dsimp only); (simp [*]; done)))) ?_ (by (exact fun _ h => h))
   (try dsimp only)
   done
  ·(try simp only [sB] at hg16)
   refine Kq rfl (lda rfl rfl .tc u33 rfl ?_) ?_
   ·kernel_rfl
   refine Ku rfl (Oc rfl rfl (Kv fun w hS => fewT_c (t := t) (by (exact hS.sl)) (by assumption))) ?_
   refine Kq rfl (Rt rfl rfl) (Kq rfl (Rq rfl rfl rfl) (Nn ?_))
   refine WX.joinP (()) (S2 rfl rfl) (by refine (Sc ?_ (S0 _)) <;> ((refine slot_b rfl ?_; (try dsimp only); (simp [*]; done)))) ?_ (by (exact fun _ h => h))
   (try dsimp only)
   done
 ·rintro _ hmeet; (try dsimp only at hmeet ⊢)
  refine Cd rfl (fun hc20 => ?_) (fun hc20 => ?_)
  ·(try simp only [sB] at hc20)
   refine Cs ?_
   refine Ku rfl (Oc rfl rfl (Kv fun w hS => awake50_c (by (exact tab_st hT hS)))) ?_
   refine Ka rfl (Nt (Ce (Xb ?_)))
   exact R1 rfl rfl (by rfl)
  ·(try simp only [sB] at hc20)
   obtain ⟨hfw, hft⟩ := Decidable.not_not.1 hc20
   have hm8 := hfw.2
   have hv := hft.1; have hse := hft.2.1
   obtain ⟨r, hr⟩ : ∃ r, r = encS q.k q.m t := ⟨_, rfl⟩
   have hrv : r.1.2.2.vals.length ≤ t.vals.length := by rw [hr]; exact enc_vals q.k q.m t
   refine Ck (Xa (Cs (Kq rfl (Fa (q := 0) rfl rfl u30 rfl rfl) ?_)))
   refine Kq rfl (ldp rfl rfl .tc u26 rfl (by kernel_rfl : _ = some 4) (by rfl) (by rfl)) ?_
   refine Kq rfl (Fa (q := 5) rfl rfl u30 rfl rfl) (Kq rfl (Ld rfl rfl .tc u22) ?_)
   refine Kq rfl (lda rfl rfl .tc u33 rfl ?_) ?_
   ·kernel_rfl
   refine Kh rfl (Oc rfl rfl (keep_f1 (val := fun g => .tuple #[cpV r.1.1, .string (S r.1.2.1), r.1.2.2.v (g.val r.1.2.2.vals.length), .int .i64 r.2]) (p := fun g => g.cap = r.1.2.2.vals.length + g.sp.length) (xs := strs r.1.2.2.vals) (T := 22) fun w hS => (by have := elenc_c (w := w) (k := q.k) (m := q.m) (t := t) (a := a) (cap := cap) hS.sl (by omega) (by omega) hm8 (tab_st hT hS); rw [← hr] at this; exact this))) ?_
   intro g28; refine WL.pu ?_; intro hg28
   refine Km rfl (Kq rfl (Re rfl rfl rfl) (Kq rfl (Re rfl rfl rfl) (Kq rfl (Re rfl rfl rfl) (Kq rfl (Re rfl rfl rfl) ?_))))
   refine Kh rfl (Oz [.string (S []), .string (S [])] rfl) ?_
   intro b5
   refine Kh rfl (Oz [.slice none 0 0, .string (S []), .int .i64 0] rfl) ?_
   intro b7
   refine Nu rfl rfl (Sa rfl rfl rfl .tc) ?_
   refine Ka rfl ?_
   refine Nu rfl rfl (Sa rfl rfl rfl .tc) ?_
   refine Ka rfl (Nt (Cs (Kq rfl (Fa (q := 0) rfl rfl u30 rfl rfl) ?_)))
   refine Kq rfl (ldp rfl rfl .tc u26 rfl (by kernel_rfl : _ = some 4) (by rfl) (by rfl)) ?_
   refine Kq rfl (Fa (q := 5) rfl rfl u30 rfl rfl) (Kq rfl (Ld rfl rfl .tc u22) ?_)
   refine Kq rfl (lda rfl rfl .tc u33 rfl ?_) ?_
   ·kernel_rfl
   refine Kh rfl (Oc rfl rfl (keep_f1 (val := fun g => .tuple #[cpV r.1.1, .string (S r.1.2.1), r.1.2.2.v (g.val r.1.2.2.vals.length), .int .i64 r.2]) (p := fun g => g.cap = r.1.2.2.vals.length + g.sp.length) (xs := strs r.1.2.2.vals) (T := 22) fun w hS => (by have := relenc_c (w := w) (k := q.k) (m := q.m) (t := t) (a := a) (cap := cap) hS.sl (by omega) (by omega) hm8; rw [← hr] at this; exact this))) ?_
   intro g39; refine WL.pu ?_; intro hg39
   refine Km rfl (Kq rfl (Re rfl rfl rfl) (Kq rfl (Re rfl rfl rfl) (Kq rfl (Re rfl rfl rfl) (Kq rfl (Re rfl rfl rfl) ?_))))
   refine Kh rfl (Oz [.string (S []), .string (S [])] rfl) ?_
   intro b9
   refine Kh rfl (Oz [.slice none 0 0, .string (S []), .int .i64 0] rfl) ?_
   intro b11
   refine Nu rfl rfl (Sa rfl rfl rfl .tc) ?_
   refine Ka rfl ?_
   refine Nu rfl rfl (Sa rfl rfl rfl .tc) ?_
   refine Ka rfl (Nt (Cs ?_))
   refine Ku rfl (Oc rfl rfl (Kv fun w hS => awake50_c (by (exact tab_st hT hS)))) ?_
   refine Km rfl ?_
   refine Ns 45 rfl (v' := .bool true) (by rfl) ?_
   refine Kq rfl (lda rfl rfl .tc u28 rfl ?_) ?_
   ·kernel_rfl
   refine Kq rfl (lda rfl rfl .tc u28 rfl ?_) ?_
   ·kernel_rfl
   refine Kq rfl (rd_eqA rfl rfl rfl (by kernel_rfl) (fun w => eql_api_Cipher _ _ _ _ w)) ?_
   refine Kq rfl (Rp rfl rfl rfl) (Km rfl ?_)
   refine Ns 50 rfl (v' := .bool true) (by (exact congrArg Value.bool (by simp [*]; done))) ?_
   refine Km rfl (Km rfl (Kq rfl (rd_seq rfl rfl rfl) (Kq rfl (Rp rfl rfl rfl) (Km rfl ?_))))
   refine Ns 55 rfl (v' := .bool true) (by (exact congrArg Value.bool (by simp [*]; done))) ?_
   refine Kq rfl (lda rfl rfl .tc u33 rfl ?_) ?_
   ·kernel_rfl
   refine Kq rfl (lda rfl rfl .tc u33 rfl ?_) ?_
   ·kernel_rfl
   refine Ku rfl (Oc rfl rfl (Kv fun w hS => sameT_c (t := r.1.2.2) (u := r.1.2.2) (by (exact hS.sl)) (by (exact hS.sl)) (by omega) (by omega))) ?_
   refine Kq rfl (Rp rfl rfl rfl) (Km rfl ?_)
   refine Ns 60 rfl (v' := .bool true) (by (exact congrArg Value.bool (by simp [*]; done))) ?_
   refine Km rfl (Km rfl (Kq rfl (rd_eql rfl rfl rfl) (Kq rfl (Rp rfl rfl rfl) (Ka rfl (Nt (Ce ?_))))))
   exact R1 rfl rfl (by (simp [tup]; done))
theorem elrefreshes_l {q : EC} {t : Tp} {a : Option Addr} {cap : Nat} {w : World} {ok : Nat → Prop} (hF1 : (Fact.sl a (strs t.vals)).holds ok w) (hl : t.vals.length ≤ 9223372036854775807) (hT : Tab w) :
  Cw 8 #[ecV q, t.v (.slice a t.vals.length cap)] w (.bool true) := by
 refine En [Fact.sl a (strs t.vals)] [(0, ecV q), (1, t.v (.slice a t.vals.length cap))] Tryz.func8 rfl Tryz.ntmps8 rfl (Ac rfl (Ac rfl (An _))) (Fc (fact_any hF1) Fn) ?_
 refine Cs ?_
 refine Kh rfl (Oy rfl rfl) ?_
 intro b2
 refine Kh rfl (Oy rfl rfl) ?_
 intro b3
 refine Ka rfl (Nt (Cq ?_))
 refine WC.joinP (σ := Unit) [(2, _), (3, _)] (fun gq => [(22, .bool (decide (¬ (fewE q ∧ fewT t))))]) (fun gq => True) (S2 rfl rfl) ?_ ?_
 ·skip
  refine Cg ?_
  refine Kq rfl (lda rfl rfl .tc u30 rfl ?_) ?_
  ·kernel_rfl
  refine Ku rfl (Oc rfl rfl (Kv fun w hS => few50_c (q := q))) ?_
  refine Kq rfl (Rt rfl rfl) (Km rfl ?_)
  refine Nb 18 rfl (fun hg18 => ?_) (fun hg18 => ?_)
  ·(try simp only [sB] at hg18)
   refine Kt rfl (Kt rfl (Kt rfl (Kq rfl (Rp rfl rfl rfl) (Nn ?_))))
   refine WX.joinP (()) (S2 rfl rfl) (by refine (Sc ?_ (S0 _)) <;> ((refine slot_b rfl ?_; (try dsimp only); (simp [*]; done)))) ?_ (by (exact fun _ h => h))
   (try dsimp only)
   done
  ·(try simp only [sB] at hg18)
   refine Kq rfl (lda rfl rfl .tc u33 rfl ?_) ?_
   ·kernel_rfl
   refine Ku rfl (Oc rfl rfl (Kv fun w hS => fewT_c (t := t) (by (exact hS.sl)) (by assumption))) ?_
   refine Kq rfl (Rt rfl rfl) (Kq rfl (Rq rfl rfl rfl) (Nn ?_))
   refine WX.joinP (()) (S2 rfl rfl) (by refine (Sc ?_ (S0 _)) <;> ((refine slot_b rfl ?_; (try dsimp only); (simp [*]; done)))) ?_ (by (exact fun _ h => h))
   (try dsimp only)
   done
 ·rintro _ hmeet; (try dsimp only at hmeet ⊢)
  refine Cd rfl (fun hc22 => ?_) (fun hc22 => ?_)
  ·(try simp only [sB] at hc22)
   refine Cs ?_
   refine Ku rfl (Oc rfl rfl (Kv fun w hS => awake50_c (by (exact tab_st hT hS)))) ?_
   refine Ka rfl (Nt (Ce (Xb ?_)))
   exact R1 rfl rfl (by rfl)
  ·(try simp only [sB] at hc22)
   obtain ⟨hfw, hft⟩ := Decidable.not_not.1 hc22
   have hm8 := hfw.2
   have hv := hft.1; have hse := hft.2.1
   obtain ⟨r, hr⟩ : ∃ r, r = refS q.k q.a t := ⟨_, rfl⟩
   have hrv : r.1.2.vals.length ≤ t.vals.length := by rw [hr]; exact ref_vals q.k q.a t
   refine Ck (Xa (Cs (Kq rfl (Fa (q := 0) rfl rfl u30 rfl rfl) ?_)))
   refine Kq rfl (ldp rfl rfl .tc u26 rfl (by kernel_rfl : _ = some 4) (by rfl) (by rfl)) ?_
   refine Kq rfl (Fa (q := 6) rfl rfl u30 rfl rfl) ?_
   refine Kq rfl (ldp rfl rfl .tc u28 rfl (by kernel_rfl : _ = some 2) (by rfl) (by rfl)) ?_
   refine Kq rfl (lda rfl rfl .tc u33 rfl ?_) ?_
   ·kernel_rfl
   refine Kh rfl (Oc rfl rfl (keep_f1 (val := fun g => .tuple #[cpV r.1.1, r.1.2.v (g.val r.1.2.vals.length), .int .i64 r.2]) (p := fun g => g.cap = r.1.2.vals.length + g.sp.length) (xs := strs r.1.2.vals) (T := 22) fun w hS => (by have := elref_c (w := w) (k := q.k) (c := q.a) (t := t) (a := a) (cap := cap) hS.sl (by omega) (by omega) hm8 (tab_st hT hS); rw [← hr] at this; exact this))) ?_
   intro g30; refine WL.pu ?_; intro hg30
   refine Km rfl (Kq rfl (Re rfl rfl rfl) (Kq rfl (Re rfl rfl rfl) (Kq rfl (Re rfl rfl rfl) ?_)))
   refine Kh rfl (Oz [.string (S []), .string (S [])] rfl) ?_
   intro b5
   refine Kh rfl (Oz [.slice none 0 0, .string (S []), .int .i64 0] rfl) ?_
   intro b6
   refine Nu rfl rfl (Sa rfl rfl rfl .tc) ?_
   refine Nu rfl rfl (Sa rfl rfl rfl .tc) ?_
   refine Ka rfl (Nt (Cs (Kq rfl (Fa (q := 0) rfl rfl u30 rfl rfl) ?_)))
   refine Kq rfl (ldp rfl rfl .tc u26 rfl (by kernel_rfl : _ = some 4) (by rfl) (by rfl)) ?_
   refine Kq rfl (Fa (q := 6) rfl rfl u30 rfl rfl) ?_
   refine Kq rfl (ldp rfl rfl .tc u28 rfl (by kernel_rfl : _ = some 2) (by rfl) (by rfl)) ?_
   refine Kq rfl (lda rfl rfl .tc u33 rfl ?_) ?_
   ·kernel_rfl
   refine Kh rfl (Oc rfl rfl (keep_f1 (val := fun g => .tuple #[cpV r.1.1, r.1.2.v (g.val r.1.2.vals.length), .int .i64 r.2]) (p := fun g => g.cap = r.1.2.vals.length + g.sp.length) (xs := strs r.1.2.vals) (T := 22) fun w hS => (by have := relref_c (w := w) (k := q.k) (c := q.a) (t := t) (a := a) (cap := cap) hS.sl (by omega) (by omega) hm8; rw [← hr] at this; exact this))) ?_
   intro g40; refine WL.pu ?_; intro hg40
   refine Km rfl (Kq rfl (Re rfl rfl rfl) (Kq rfl (Re rfl rfl rfl) (Kq rfl (Re rfl rfl rfl) ?_)))
   refine Kh rfl (Oz [.string (S []), .string (S [])] rfl) ?_
   intro b8
   refine Kh rfl (Oz [.slice none 0 0, .string (S []), .int .i64 0] rfl) ?_
   intro b9
   refine Nu rfl rfl (Sa rfl rfl rfl .tc) ?_
   refine Nu rfl rfl (Sa rfl rfl rfl .tc) ?_
   refine Ka rfl (Nt (Cs (Kq rfl (Fa (q := 0) rfl rfl u30 rfl rfl) ?_)))
   refine Kq rfl (ldp rfl rfl .tc u26 rfl (by kernel_rfl : _ = some 4) (by rfl) (by rfl)) ?_
   refine Kq rfl (Fa (q := 6) rfl rfl u30 rfl rfl) ?_
   refine Kq rfl (ldp rfl rfl .tc u28 rfl (by kernel_rfl : _ = some 2) (by rfl) (by rfl)) ?_
   refine Kq rfl (Fa (q := 8) rfl rfl u30 rfl rfl) ?_
   refine Kq rfl (ldp rfl rfl .tc u28 rfl (by kernel_rfl : _ = some 2) (by rfl) (by rfl)) ?_
   refine Ku rfl (Oc rfl rfl (Kv fun w hS => elmulc_c (k := q.k) (a := q.a) (b := q.b) (by assumption))) ?_
   refine Km rfl (Kq rfl (Re rfl rfl rfl) (Kq rfl (Re rfl rfl rfl) ?_))
   refine Kh rfl (Oz [.string (S []), .string (S [])] rfl) ?_
   intro b11
   refine Nu rfl rfl (Sa rfl rfl rfl .tc) ?_
   refine Ka rfl (Nt (Cs (Kq rfl (Fa (q := 0) rfl rfl u30 rfl rfl) ?_)))
   refine Kq rfl (ldp rfl rfl .tc u26 rfl (by kernel_rfl : _ = some 4) (by rfl) (by rfl)) ?_
   refine Kq rfl (Fa (q := 6) rfl rfl u30 rfl rfl) ?_
   refine Kq rfl (ldp rfl rfl .tc u28 rfl (by kernel_rfl : _ = some 2) (by rfl) (by rfl)) ?_
   refine Kq rfl (Fa (q := 8) rfl rfl u30 rfl rfl) ?_
   refine Kq rfl (ldp rfl rfl .tc u28 rfl (by kernel_rfl : _ = some 2) (by rfl) (by rfl)) ?_
   refine Ku rfl (Oc rfl rfl (Kv fun w hS => relmul_c (k := q.k) (a := q.a) (b := q.b) (by assumption))) ?_
   refine Km rfl (Kq rfl (Re rfl rfl rfl) (Kq rfl (Re rfl rfl rfl) ?_))
   refine Kh rfl (Oz [.string (S []), .string (S [])] rfl) ?_
   intro b13
   refine Nu rfl rfl (Sa rfl rfl rfl .tc) ?_
   refine Ka rfl (Nt (Cs ?_))
   refine Ku rfl (Oc rfl rfl (Kv fun w hS => awake50_c (by (exact tab_st hT hS)))) ?_
   refine Km rfl ?_
   refine Ns 65 rfl (v' := .bool true) (by rfl) ?_
   refine Kq rfl (lda rfl rfl .tc u28 rfl ?_) ?_
   ·kernel_rfl
   refine Kq rfl (lda rfl rfl .tc u28 rfl ?_) ?_
   ·kernel_rfl
   refine Kq rfl (rd_eqA rfl rfl rfl (by kernel_rfl) (fun w => eql_api_Cipher _ _ _ _ w)) ?_
   refine Kq rfl (Rp rfl rfl rfl) (Km rfl ?_)
   refine Ns 70 rfl (v' := .bool true) (by (exact congrArg Value.bool (by simp [*]; done))) ?_
   refine Kq rfl (lda rfl rfl .tc u33 rfl ?_) ?_
   ·kernel_rfl
   refine Kq rfl (lda rfl rfl .tc u33 rfl ?_) ?_
   ·kernel_rfl
   refine Ku rfl (Oc rfl rfl (Kv fun w hS => sameT_c (t := r.1.2) (u := r.1.2) (by (exact hS.sl)) (by (exact hS.sl)) (by omega) (by omega))) ?_
   refine Kq rfl (Rp rfl rfl rfl) (Km rfl ?_)
   refine Ns 75 rfl (v' := .bool true) (by (exact congrArg Value.bool (by simp [*]; done))) ?_
   refine Km rfl (Km rfl (Kq rfl (rd_eql rfl rfl rfl) (Kq rfl (Rp rfl rfl rfl) (Km rfl ?_))))
   refine Ns 80 rfl (v' := .bool true) (by (exact congrArg Value.bool (by simp [*]; done))) ?_
   refine Kq rfl (lda rfl rfl .tc u28 rfl ?_) ?_
   ·kernel_rfl
   refine Kq rfl (lda rfl rfl .tc u28 rfl ?_) ?_
   ·kernel_rfl
   refine Kq rfl (rd_eqA rfl rfl rfl (by kernel_rfl) (fun w => eql_api_Cipher _ _ _ _ w)) ?_
   refine Kq rfl (Rp rfl rfl rfl) (Km rfl ?_)
   refine Ns 85 rfl (v' := .bool true) (by (exact congrArg Value.bool (by simp [*]; done))) ?_
   refine Km rfl (Km rfl (Kq rfl (rd_eql rfl rfl rfl) (Kq rfl (Rp rfl rfl rfl) (Ka rfl (Nt (Ce ?_))))))
   exact R1 rfl rfl (by (simp [tup]; done))
end Go.Proofs.YtmkghgoibnncbaaGreatDoor
