/-
  Parts of the walk: Coi5 Coi6 Elk Pw3.
-/
import Derived.Test.YtmkghgoibnncbaaGreatDoorJ16
namespace Go.Proofs.YtmkghgoibnncbaaGreatDoor
open Go.RowKit
set_option linter.unusedSimpArgs false
set_option linter.unusedVariables false
set_option maxHeartbeats 600000
set_option maxRecDepth 20000
def zeroT : Tp := ⟨[], [], 0⟩
def findA (t : Tp) (n : Bs) : Nat → Nat → Option Bs
 | 0, _ => none
 | f + 1, a => if cmpN (attS t.seed t.at_.toNat a (bitsN n)) n < 0 then some (attS t.seed t.at_.toNat a (bitsN n)) else findA t n f (a + 1)
def drawS (t : Tp) (n : Bs) : Bs × Tp × Int :=
 if t.at_ < t.vals.length then (if 0 ≤ cmpN (t.vals.getD t.at_.toNat default) n then ([], zeroT, 2) else (t.vals.getD t.at_.toNat default, ⟨t.vals, t.seed, t.at_ + 1⟩, 0))
 else if t.seed = [] ∨ t.at_ = 2147483647 then ([], zeroT, 14)
 else match findA t n 256 0 with
  | some x => (x, ⟨t.vals, t.seed, t.at_ + 1⟩, 0)
  | none => ([], zeroT, 14)
theorem draw0 {r : Bs × Tp × Int} {n : Int} {ok : Nat → Prop} {w0 w : World} {own : List Ent} {fs : List Fact} {T : TypeId} (hr : r = ([], zeroT, n)) (hS : St ok w0 own fs w) :
  ∃ g : Rs, Ending.returned (tup [.string (S []), .agg #[.slice none 0 0, .string (S []), .int .i64 0], .int .i64 n]) = Ending.returned (.tuple #[.string (S r.1), r.2.1.v (g.val r.2.1.vals.length), .int .i64 r.2.2]) ∧ g.cap = r.2.1.vals.length + g.sp.length ∧ St ok w0 [g.ent (strs r.2.1.vals) T] [] w := by
 subst hr
 exact ⟨⟨none, 0, []⟩, rfl, rfl, (hS.nil T).sub (List.singleton_sublist.2 (by simp [Rs.ent, zeroT])) (fun _ h => by cases h)⟩
theorem drawN {r : Bs × Tp × Int} {t : Tp} {x : Bs} {q : Rs} {ok : Nat → Prop} {w0 w : World} {own : List Ent} {fs : List Fact} {T : TypeId} (hr : r = (x, ⟨t.vals, t.seed, t.at_ + 1⟩, 0)) (hq : q.cap = t.vals.length + q.sp.length) (hS : St ok w0 own fs w) (hm : q.ent (strs t.vals) T ∈ own) :
  ∃ g : Rs, Ending.returned (tup [.string (S x), .agg #[q.val t.vals.length, .string (S t.seed), .int .i64 (t.at_ + 1)], .int .i64 0]) = Ending.returned (.tuple #[.string (S r.1), r.2.1.v (g.val r.2.1.vals.length), .int .i64 r.2.2]) ∧ g.cap = r.2.1.vals.length + g.sp.length ∧ St ok w0 [g.ent (strs r.2.1.vals) T] [] w := by
 subst hr
 exact ⟨q, rfl, hq, hS.sub (List.singleton_sublist.2 hm) (fun _ h => by cases h)⟩
theorem findA_hit {t : Tp} {n : Bs} {a : Nat} (h : a < 256) (hc : cmpN (attS t.seed t.at_.toNat a (bitsN n)) n < 0) : findA t n (256 - a) a = some (attS t.seed t.at_.toNat a (bitsN n)) := by
 rw [show 256 - a = (255 - a) + 1 by omega, findA, if_pos hc]
theorem findA_miss {t : Tp} {n : Bs} {a : Nat} (h : a < 256) (hc : ¬ cmpN (attS t.seed t.at_.toNat a (bitsN n)) n < 0) : findA t n (256 - a) a = findA t n (256 - (a + 1)) (a + 1) := by
 rw [show 256 - a = (256 - (a + 1)) + 1 by omega, findA, if_neg hc]
theorem rdraw_c {t : Tp} {n : Bs} {a : Option Addr} {cap : Nat} {w : World} {ok : Nat → Prop} (hF1 : (Fact.sl a (strs t.vals)).holds ok w) (hl : t.vals.length ≤ 100000) (hg : goodT t) (hn : okN n) (hn0 : n ≠ []) (hsd : t.seed.length ≤ 400000) :
  Calls Tryz.prog 104 #[t.v (.slice a t.vals.length cap), .string (S n)] w fun e w' => ∃ g : Rs, e = .returned (.tuple #[.string (S (drawS t n).1), (drawS t n).2.1.v (g.val (drawS t n).2.1.vals.length), .int .i64 (drawS t n).2.2]) ∧ g.cap = (drawS t n).2.1.vals.length + g.sp.length ∧ St (fun _ => True) w [g.ent (strs (drawS t n).2.1.vals) 22] [] w' := by
 have hg1 := hg.1; have hg2 := hg.2.1
 have hbp := bitsN_pos hn hn0
 have hbl := bitsN_le hn.1
 obtain ⟨p, hp⟩ : ∃ p : Nat, t.at_ = (p : Int) := ⟨t.at_.toNat, by omega⟩
 refine En [Fact.sl a (strs t.vals)] [(0, t.v (.slice a t.vals.length cap)), (1, .string (S n))] Tryz.func104 rfl Tryz.ntmps104 rfl (Ac rfl (Ac rfl (An _))) (Fc (fact_any hF1) Fn) ?_
 refine Cs ?_
 refine Kh rfl (Oy rfl rfl) ?_
 intro b2
 refine Ka rfl ?_
 refine Kh rfl (Oz [.slice none 0 0, .string (S []), .int .i64 0] rfl) ?_
 intro b5
 refine Ka rfl (Nt (Cs (Kq rfl (Fa (q := 1) rfl rfl u33 rfl rfl) (Kq rfl (Ld rfl rfl .tc u9) ?_))))
 refine Kq rfl (Fa (q := 2) rfl rfl u33 rfl rfl) (Kq rfl (Ld rfl rfl .tc u3) ?_)
 refine Kq rfl (rd_add64 rfl rfl rfl (by omega)) (Kq rfl (Kb [[.slice none 0 0], [.string (S [])], [.int .i64 0]] rfl rfl) ?_)
 refine Kh rfl (Oz [.slice none 0 0, .string (S []), .int .i64 0] rfl) ?_
 intro b7
 refine Nu rfl rfl (Sa rfl rfl rfl .tc) ?_
 refine Nt (Cs (Kq rfl (Fa (q := 0) rfl rfl u33 rfl rfl) (Kq rfl (Ld rfl rfl .tc u31) ?_)))
 refine Kq rfl (Fa (q := 0) rfl rfl u33 rfl rfl) (Kq rfl (Ld rfl rfl .tc u31) ?_)
 (refine WL.st (fun w h => h.nil 22) ?_; refine Kh rfl (appg (ob := none) (xs := []) (sp := []) rfl u31 (by kernel_rfl : _ = some (some (.string (S [])), 1, 16)) rfl .tc rfl rfl (fun w hS => by (exact hS.sl)) (by simp) ?_ ?_) ?_; (focus ((refine ⟨?_, ?_, ?_, ?_⟩ <;> (try simp) <;> omega))); (focus ((simp [Value.oneCell']; done))))
 rintro ⟨o20, c20, s20⟩
 refine WL.pu ?_
 intro hg20; (try dsimp only at hg20 ⊢)
 refine Ns 20 rfl (v' := .slice (o20.map fun b => ⟨b, 0, none⟩) t.vals.length c20) (by rw [Nat.zero_add]) ?_
 simp only [List.nil_append]
 have hq : (⟨o20, c20, s20⟩ : Rs).cap = t.vals.length + (⟨o20, c20, s20⟩ : Rs).sp.length := by show c20 = t.vals.length + s20.length; omega
 refine Kq rfl (Fa (q := 0) rfl rfl u33 rfl rfl) ?_
 refine Ng rfl rfl (st rfl rfl rfl .tc (by kernel_rfl) rfl ?_ (by (simp only [List.set_cons_zero, List.set_cons_succ]; rfl))) ?_
 ·(simp; done)
 intro _
 refine Nt (Cq (Cs (Kq rfl (Fa (q := 2) rfl rfl u33 rfl rfl) (Kq rfl (Ld rfl rfl .tc u3) ?_))))
 refine Kq rfl (Fa (q := 0) rfl rfl u33 rfl rfl) (Kq rfl (Ld rfl rfl .tc u31) ?_)
 refine Kq rfl (rd_len rfl rfl u31) (Kq rfl (rd_lss rfl rfl rfl) (Nt ?_))
 refine Cd rfl (fun hc27 => ?_) (fun hc27 => ?_)
 ·(try simp only [sB] at hc27)
  have h27 : t.at_ < t.vals.length := hc27
  refine Cq (Cs (Kq rfl (Fa (q := 0) rfl rfl u33 rfl rfl) (Kq rfl (Ld rfl rfl .tc u31) ?_)))
  refine Kq rfl (Fa (q := 2) rfl rfl u33 rfl rfl) (Kq rfl (Ld rfl rfl .tc u3) ?_)
  refine Kq rfl (Ib rfl rfl rfl u31 (by omega) (by (rw [List.length_map]; omega))) ?_
  refine Kq rfl (ldm rfl rfl u22 rfl (by omega)) ?_
  refine Km rfl ?_
  refine Ku rfl (Oc rfl rfl (Kv fun w hS => rCmp_c (a := t.vals.getD t.at_.toNat default) (b := n))) ?_
  refine Kq rfl (rd_geq rfl rfl rfl) (Nt ?_)
  refine Cd rfl (fun hc36 => ?_) (fun hc36 => ?_)
  ·(try simp only [sB] at hc36)
   refine Cs (Kq rfl (Kb [[.slice none 0 0], [.string (S [])], [.int .i64 0]] rfl rfl) (Ka rfl ?_))
   refine Nu rfl rfl (Sa rfl rfl rfl .tc) ?_
   refine Ka rfl (Nt (Ce (Xb (Xb ?_))))
   exact Rn rfl (.tmp rfl (.agg rfl .tc u33 rfl (by kernel_rfl) (.tmp rfl .nil))) fun w' hS => draw0 (by rw [drawS, if_pos h27, if_pos hc36]) hS
  ·(try simp only [sB] at hc36)
   refine Ck (Xa (Cq ?_))
   refine Cf [0, 1, 2, 3, 4, 5, 6, 7] [8, 9] [0, 0, 0, 0, 0, 0, 0, 0, 2, 2] (by kernel_rfl) (by kernel_rfl) rfl ?_
   refine Kj rfl (Fa (q := 0) rfl rfl u33 rfl rfl) (Kj rfl (Ld rfl rfl .tc u31) ?_)
   refine Kj rfl (Fa (q := 2) rfl rfl u33 rfl rfl) (Kj rfl (Ld rfl rfl .tc u3) ?_)
   refine Kj rfl (Ib rfl rfl rfl u31 (by omega) (by (rw [List.length_map]; omega))) ?_
   refine Kj rfl (ldm rfl rfl u22 rfl (by omega)) ?_
   refine Kj rfl (lda rfl rfl .tc u33 rfl ?_) ?_
   ·kernel_rfl
   refine Kj rfl (Ra rfl rfl) ?_
   refine WJ.nil ?_
   refine Nu rfl rfl (Sa rfl rfl rfl .tc) ?_
   refine Ka rfl (Nt (Ce (Xb ?_)))
   exact Rn rfl (.tmp rfl (.agg rfl .tc u33 rfl (by kernel_rfl) (.tmp rfl .nil))) fun w' hS => drawN (q := ⟨o20, c20, s20⟩) (by rw [drawS, if_pos h27, if_neg (by omega)]) hq hS (by simp [Rs.ent])
 ·(try simp only [sB] at hc27)
  have h27 : ¬ t.at_ < t.vals.length := by omega
  refine Ck (Xa (Cq (Cs (Kq rfl (Fa (q := 1) rfl rfl u33 rfl rfl) (Kq rfl (Ld rfl rfl .tc u9) ?_)))))
  refine Kq rfl (rd_seq rfl rfl rfl) (Km rfl ?_)
  refine Nb 48 rfl (fun hg48 => ?_) (fun hg48 => ?_)
  ·(try simp only [sB] at hg48)
   refine Kt rfl (Kt rfl (Kt rfl (Kq rfl (Rp rfl rfl rfl) (Nt ?_))))
   refine Cd rfl (fun _ => ?_) (fun h => by cases h)
   refine Cs (Kq rfl (Kb [[.slice none 0 0], [.string (S [])], [.int .i64 0]] rfl rfl) (Ka rfl ?_))
   refine Nu rfl rfl (Sa rfl rfl rfl .tc) ?_
   refine Ka rfl (Nt (Ce (Xb ?_)))
   exact Rn rfl (.tmp rfl (.agg rfl .tc u33 rfl (by kernel_rfl) (.tmp rfl .nil))) fun w' hS => draw0 (by rw [drawS, if_neg h27, if_pos (by simp_all)]) hS
  ·(try simp only [sB] at hg48)
   refine Kq rfl (Fa (q := 2) rfl rfl u33 rfl rfl) (Kq rfl (Ld rfl rfl .tc u3) ?_)
   refine Kq rfl (rd_eql rfl rfl rfl) (Kq rfl (Rq rfl rfl rfl) (Nt ?_))
   refine Cd rfl (fun hc52 => ?_) (fun hc52 => ?_)
   ·(try simp only [sB] at hc52)
    refine Cs (Kq rfl (Kb [[.slice none 0 0], [.string (S [])], [.int .i64 0]] rfl rfl) (Ka rfl ?_))
    refine Nu rfl rfl (Sa rfl rfl rfl .tc) ?_
    refine Ka rfl (Nt (Ce (Xb ?_)))
    exact Rn rfl (.tmp rfl (.agg rfl .tc u33 rfl (by kernel_rfl) (.tmp rfl .nil))) fun w' hS => draw0 (by rw [drawS, if_neg h27, if_pos (by simp_all)]) hS
   ·(try simp only [sB] at hc52)
    have h52 : ¬ (t.seed = [] ∨ t.at_ = 2147483647) := by simp_all
    refine Ck (Xa (Cq (Cs (Ka rfl (Nt (Cb ?_))))))
    refine Lp (σ := Nat) [(1, _), (2, _), (5, _), (7, _)] (fun gq => [(8, .int .i64 (gq : Int))]) (fun gq => gq ≤ 256 ∧ findA t n (256 - gq) gq = findA t n 256 0) (fun gq => 256 - gq) (0) (S4 rfl rfl rfl rfl) (S1 rfl) (by (try dsimp only); exact ⟨by omega, rfl⟩) ?_
    rintro k hinv1; (try dsimp only at hinv1 ⊢)
    obtain ⟨hk, hfi⟩ := hinv1
    refine Cq (Cs (Km rfl (Kq rfl (rd_lss rfl rfl rfl) (Nt ?_))))
    refine Cd rfl (fun hc55 => ?_) (fun hc55 => ?_)
    ·(try simp only [sB] at hc55)
     refine Ck (Xa (Cq (Cb (Cq ?_))))
     refine Cf [5, 6, 0, 1, 2, 3, 4, 7, 8] [] [0, 0, 0, 0, 0, 0, 1, 1, 0] (by kernel_rfl) (by kernel_rfl) rfl ?_
     refine Kj rfl (Rm rfl rfl) ?_
     refine Jv rfl rfl rfl rfl rfl (fun ext => Oc rfl rfl (Kv fun w hS => rbits_c (a := n))) ?_
     refine WJ.set 64 rfl (v' := .int .i64 ((bitsN n : Nat) : Int)) (congrArg (Value.int .i64) (by rw [if_pos hn])) ?_
     refine Kj rfl (Fa (q := 1) rfl rfl u33 rfl rfl) (Kj rfl (Ld rfl rfl .tc u9) ?_)
     refine Kj rfl (Fa (q := 2) rfl rfl u33 rfl rfl) (Kj rfl (Ld rfl rfl .tc u3) ?_)
     refine WJ.set 61 rfl (v' := .int .i64 (((t.at_.toNat : Nat) : Int))) (congrArg (Value.int .i64) (by omega)) ?_
     refine Kj rfl (Rm rfl rfl) ?_
     refine Jv rfl rfl rfl rfl rfl (fun ext => Oc rfl rfl (Kv fun w hS => rattempt_c (sd := t.seed) (at_ := t.at_.toNat) (a := k) (nb := bitsN n) (by assumption) (by omega) (by omega) (by assumption) (by omega))) ?_
     refine Kj rfl (Ra rfl rfl) ?_
     refine WJ.nil ?_
     refine Nt (Cs (Km rfl (Km rfl ?_)))
     refine Ku rfl (Oc rfl rfl (Kv fun w hS => rCmp_c (a := attS t.seed t.at_.toNat k (bitsN n)) (b := n))) ?_
     refine Kq rfl (rd_lss rfl rfl rfl) (Nt ?_)
     refine Cd rfl (fun hc69 => ?_) (fun hc69 => ?_)
     ·(try simp only [sB] at hc69)
      refine Cq ?_
      refine Cf [0, 1, 2] [3, 4] [0, 0, 0, 2, 2] (by kernel_rfl) (by kernel_rfl) rfl ?_
      refine Kj rfl (Rm rfl rfl) ?_
      refine Kj rfl (lda rfl rfl .tc u33 rfl ?_) ?_
      ·kernel_rfl
      refine Kj rfl (Ra rfl rfl) ?_
      refine WJ.nil ?_
      refine Nu rfl rfl (Sa rfl rfl rfl .tc) ?_
      refine Ka rfl (Nt (Ce (Xf (Xb (Xb (Xf (Xb ?_)))))))
      exact Rn rfl (.tmp rfl (.agg rfl .tc u33 rfl (by kernel_rfl) (.tmp rfl .nil))) fun w' hS => drawN (q := ⟨o20, c20, s20⟩) (by rw [drawS, if_neg h27, if_neg h52, ← hfi, findA_hit (by omega) hc69]) hq hS (by simp [Rs.ent])
     ·(try simp only [sB] at hc69)
      refine Ck (Xd (Xa (Cg (Km rfl (Kq rfl (Rz rfl rfl rfl (by omega)) (Ka rfl (Nn ?_)))))))
      refine Ly (k + 1) (by (try dsimp only); omega) (S4 rfl rfl rfl rfl) (by refine (Sc ?_ (S0 _)) <;> (rfl)) ?_ (by (exact fun _ h => h))
      (try dsimp only)
      exact ⟨by omega, by rw [← findA_miss (by omega) (by omega)]; exact hfi⟩
    ·(try simp only [sB] at hc55)
     refine Cx (Xc (Xc (Xe ?_)))
     obtain rfl : k = 256 := by omega
     refine Xa (Cs (Kq rfl (Kb [[.slice none 0 0], [.string (S [])], [.int .i64 0]] rfl rfl) (Ka rfl ?_)))
     refine Nu rfl rfl (Sa rfl rfl rfl .tc) ?_
     refine Ka rfl (Nt (Ce ?_))
     exact Rn rfl (.tmp rfl (.agg rfl .tc u33 rfl (by kernel_rfl) (.tmp rfl .nil))) fun w' hS => draw0 (by rw [drawS, if_neg h27, if_neg h52, ← hfi]; rfl) hS
theorem draw_c {t : Tp} {n : Bs} {a : Option Addr} {cap : Nat} {w : World} {ok : Nat → Prop} (hF1 : (Fact.sl a (strs t.vals)).holds ok w) (hl : t.vals.length ≤ 100000) (hg : goodT t) (hn : okN n) (hn0 : n ≠ []) (hsd : t.seed.length ≤ 400000) (hT : Tab w) :
  Calls Tryz.prog 101 #[t.v (.slice a t.vals.length cap), .string (S n)] w fun e w' => ∃ g : Rs, e = .returned (.tuple #[.string (S (drawS t n).1), (drawS t n).2.1.v (g.val (drawS t n).2.1.vals.length), .int .i64 (drawS t n).2.2]) ∧ g.cap = (drawS t n).2.1.vals.length + g.sp.length ∧ St (fun _ => True) w [g.ent (strs (drawS t n).2.1.vals) 22] [] w' := by
 have hg1 := hg.1; have hg2 := hg.2.1
 have hbp := bitsN_pos hn hn0
 have hbl := bitsN_le hn.1
 have hq : (⟨some 0, t.vals.length, []⟩ : Rs).cap = t.vals.length + (⟨some 0, t.vals.length, []⟩ : Rs).sp.length := rfl
 refine En [Fact.sl a (strs t.vals)] [(0, t.v (.slice a t.vals.length cap)), (1, .string (S n))] Tryz.func101 rfl Tryz.ntmps101 rfl (Ac rfl (Ac rfl (An _))) (Fc (fact_any hF1) Fn) ?_
 refine Cs ?_
 refine Kh rfl (Oy rfl rfl) ?_
 intro b2
 refine Ka rfl ?_
 refine Kh rfl (Oz [.slice none 0 0, .string (S []), .int .i64 0] rfl) ?_
 intro b5
 refine Ka rfl (Nt (Cq (Cs (Kq rfl (Fa (q := 2) rfl rfl u33 rfl rfl) (Kq rfl (Ld rfl rfl .tc u3) ?_)))))
 refine Kq rfl (Fa (q := 0) rfl rfl u33 rfl rfl) (Kq rfl (Ld rfl rfl .tc u31) ?_)
 refine Kq rfl (rd_len rfl rfl u31) (Kq rfl (rd_lss rfl rfl rfl) (Km rfl ?_))
 refine Nb 16 rfl (fun hg16 => ?_) (fun hg16 => ?_)
 ·(try simp only [sB] at hg16)
  refine Kq rfl (Fa (q := 0) rfl rfl u33 rfl rfl) (Kq rfl (Ld rfl rfl .tc u31) ?_)
  refine Kq rfl (Fa (q := 2) rfl rfl u33 rfl rfl) (Kq rfl (Ld rfl rfl .tc u3) ?_)
  refine Kq rfl (Ib rfl rfl rfl u31 (by omega) (by (rw [List.length_map]; omega))) ?_
  refine Kq rfl (ldm rfl rfl u22 rfl (by omega)) ?_
  refine Km rfl ?_
  refine Ku rfl (Oc rfl rfl (Kv fun w hS => Cmp_c (a := t.vals.getD t.at_.toNat default) (b := n))) ?_
  refine Kq rfl (rd_geq rfl rfl rfl) (Kq rfl (Rp rfl rfl rfl) (Nt ?_))
  refine Cd rfl (fun hc26 => ?_) (fun hc26 => ?_)
  ·(try simp only [sB] at hc26)
   refine Cs (Kq rfl (Kb [[.slice none 0 0], [.string (S [])], [.int .i64 0]] rfl rfl) (Ka rfl ?_))
   refine Nu rfl rfl (Sa rfl rfl rfl .tc) ?_
   refine Ka rfl (Nt (Ce (Xb ?_)))
   exact Rn rfl (.tmp rfl (.agg rfl .tc u33 rfl (by kernel_rfl) (.tmp rfl .nil))) fun w' hS => draw0 (by rw [drawS, if_pos (by omega), if_pos hc26]) hS
  ·(try simp only [sB] at hc26)
   refine Ck (Xa (Cq (Cs (Kq rfl (Fa (q := 2) rfl rfl u33 rfl rfl) (Kq rfl (Ld rfl rfl .tc u3) ?_)))))
   refine Kq rfl (Fa (q := 0) rfl rfl u33 rfl rfl) (Kq rfl (Ld rfl rfl .tc u31) ?_)
   refine Kq rfl (rd_len rfl rfl u31) (Kq rfl (rd_geq rfl rfl rfl) (Km rfl ?_))
   refine Nb 34 rfl (fun hg34 => ?_) (fun hg34 => ?_)
   ·(try simp only [sB] at hg34)
    refine Kq rfl (Fa (q := 1) rfl rfl u33 rfl rfl) (Kq rfl (Ld rfl rfl .tc u9) ?_)
    refine Kq rfl (rd_seq rfl rfl rfl) (Kq rfl (Rp rfl rfl rfl) (Km rfl ?_))
    refine Nb 39 rfl (fun hg39 => ?_) (fun hg39 => ?_)
    ·(try simp only [sB] at hg39)
     refine Kt rfl (Kt rfl (Kt rfl (Kq rfl (Rp rfl rfl rfl) (Nt ?_))))
     refine Cd rfl (fun _ => ?_) (fun h => by cases h)
     refine Cs (Kq rfl (Kb [[.slice none 0 0], [.string (S [])], [.int .i64 0]] rfl rfl) (Ka rfl ?_))
     refine Nu rfl rfl (Sa rfl rfl rfl .tc) ?_
     refine Ka rfl (Nt (Ce (Xb ?_)))
     (exfalso; omega)
    ·(try simp only [sB] at hg39)
     refine Kq rfl (Fa (q := 2) rfl rfl u33 rfl rfl) (Kq rfl (Ld rfl rfl .tc u3) ?_)
     refine Kq rfl (rd_eql rfl rfl rfl) (Kq rfl (Rq rfl rfl rfl) (Nt ?_))
     refine Cd rfl (fun hc43 => ?_) (fun hc43 => ?_)
     ·(try simp only [sB] at hc43)
      refine Cs (Kq rfl (Kb [[.slice none 0 0], [.string (S [])], [.int .i64 0]] rfl rfl) (Ka rfl ?_))
      refine Nu rfl rfl (Sa rfl rfl rfl .tc) ?_
      refine Ka rfl (Nt (Ce (Xb ?_)))
      (exfalso; omega)
     ·(try simp only [sB] at hc43)
      refine Ck (Xa (Cq ?_))
      refine Cf [0, 1, 2, 3, 4, 5, 6, 7, 8, 9, 10] [11] [0, 0, 0, 3, 0, 0, 0, 0, 0, 0, 3, 2] (by kernel_rfl) (by kernel_rfl) rfl ?_
      refine Kj rfl (Fa (q := 0) rfl rfl u33 rfl rfl) (Kj rfl (Ld rfl rfl .tc u31) ?_)
      refine Kj rfl (rd_len rfl rfl u31) ?_
      refine Jf rfl rfl rfl rfl rfl (fr_mk rfl rfl rfl u31 (by kernel_rfl : _ = some (some (.string (S [])), 1, 16)) rfl ?_ (by (try simp only [sN, Int.reduceToNat, Nat.reduceAdd, Nat.reduceMul, Nat.reduceSub]); rfl) (by (try simp only [sN, Int.reduceToNat, Nat.reduceAdd, Nat.reduceMul, Nat.reduceSub]); rfl)) ?_
      ·omega
      intro b48
      refine Kj rfl (Fa (q := 1) rfl rfl u33 rfl rfl) (Kj rfl (Ld rfl rfl .tc u9) ?_)
      refine Kj rfl (Fa (q := 2) rfl rfl u33 rfl rfl) (Kj rfl (Ld rfl rfl .tc u3) ?_)
      refine Kj rfl (rd_add64 rfl rfl rfl (by omega)) (Kj rfl (Kb [[.slice none 0 0], [.string (S [])], [.int .i64 0]] rfl rfl) ?_)
      refine Jf rfl rfl rfl rfl rfl (fr_alloc rfl (v := (.agg #[.slice none 0 0, .string (S []), .int .i64 0])) (cs := [.slice none 0 0, .string (S []), .int .i64 0]) (by kernel_rfl) rfl) ?_
      intro b7
      refine WJ.nil ?_
      refine Nu rfl rfl (Sa rfl rfl rfl .tc) ?_
      refine Nt (Cs (Kq rfl (Fa (q := 0) rfl rfl u33 rfl rfl) (Kq rfl (Ld rfl rfl .tc u31) ?_)))
      refine Kq rfl (Fa (q := 0) rfl rfl u33 rfl rfl) (Kq rfl (Ld rfl rfl .tc u31) ?_)
      refine Kh rfl (cpyl rfl rfl rfl .tc u31 (by kernel_rfl) (m := t.vals.length) (by simp) (by simp) (fun w hS => hS.sl) (by intro u hu; obtain ⟨_, _, rfl⟩ := List.mem_map.1 hu; rfl) (by simp) (ys := strs t.vals) (by simp)) ?_
      intro _
      refine Nt (Cq (Cs (Kq rfl (Fa (q := 2) rfl rfl u33 rfl rfl) (Kq rfl (Ld rfl rfl .tc u3) ?_))))
      refine Kq rfl (Fa (q := 0) rfl rfl u33 rfl rfl) (Kq rfl (Ld rfl rfl .tc u31) ?_)
      refine Kq rfl (rd_len rfl rfl u31) (Kq rfl (rd_lss rfl rfl rfl) (Nt ?_))
      refine Cd rfl (fun hc65 => ?_) (fun hc65 => ?_)
      ·(try simp only [sB] at hc65)
       refine Cq ?_
       refine Cf [0, 1, 2, 3, 4, 5, 6, 7] [8, 9] [0, 0, 0, 0, 0, 0, 0, 0, 2, 2] (by kernel_rfl) (by kernel_rfl) rfl ?_
       refine Kj rfl (Fa (q := 0) rfl rfl u33 rfl rfl) (Kj rfl (Ld rfl rfl .tc u31) ?_)
       refine Kj rfl (Fa (q := 2) rfl rfl u33 rfl rfl) (Kj rfl (Ld rfl rfl .tc u3) ?_)
       refine Kj rfl (Ib rfl rfl rfl u31 (by omega) (by (rw [List.length_map]; omega))) ?_
       refine Kj rfl (ldm rfl rfl u22 rfl (by omega)) ?_
       refine Kj rfl (lda rfl rfl .tc u33 rfl ?_) ?_
       ·kernel_rfl
       refine Kj rfl (Ra rfl rfl) ?_
       refine WJ.nil ?_
       refine Nu rfl rfl (Sa rfl rfl rfl .tc) ?_
       refine Ka rfl (Nt (Ce (Xb ?_)))
       (exfalso; omega)
      ·(try simp only [sB] at hc65)
       have h27 : ¬ t.at_ < t.vals.length := by omega
       have h52 : ¬ (t.seed = [] ∨ t.at_ = 2147483647) := by (exfalso; omega)
       refine Ck (Xa (Cq (Cs (Km rfl (Nt (Cb ?_))))))
       refine Lp (σ := Nat) [(1, _), (2, _), (5, _), (7, _)] (fun gq => [(73, .int .i64 (gq : Int))]) (fun gq => gq ≤ 256 ∧ findA t n (256 - gq) gq = findA t n 256 0) (fun gq => 256 - gq) (0) (S4 rfl rfl rfl rfl) (S1 rfl) (by (try dsimp only); exact ⟨by omega, rfl⟩) ?_
       rintro k hinv1; (try dsimp only at hinv1 ⊢)
       obtain ⟨hk, hfi⟩ := hinv1
       refine Cs (Kq rfl (rd_lss rfl rfl rfl) (Nt (Cq ?_)))
       refine Cd rfl (fun hc74 => ?_) (fun hc74 => ?_)
       ·(try simp only [sB] at hc74)
        refine Ck (Xa (Cq (Cb (Cs (Km rfl (Ka rfl (Nt (Cq ?_))))))))
        refine Cf [2, 3, 0, 1, 4, 5] [] [0, 0, 0, 1, 1, 0] (by kernel_rfl) (by kernel_rfl) rfl ?_
        refine Kj rfl (Rm rfl rfl) ?_
        refine Jv rfl rfl rfl rfl rfl (fun ext => Oc rfl rfl (Kv fun w hS => bits_c (a := n))) ?_
        refine WJ.set 79 rfl (v' := .int .i64 ((bitsN n : Nat) : Int)) (congrArg (Value.int .i64) (by rw [if_pos hn])) ?_
        refine Kj rfl (lda rfl rfl .tc u33 rfl ?_) ?_
        ·kernel_rfl
        refine WJ.set 76 rfl (v' := .agg #[.slice a t.vals.length cap, .string (S t.seed), .int .i64 ((t.at_.toNat : Nat) : Int)]) (by rw [Int.toNat_of_nonneg hg1]) ?_
        refine Kj rfl (Rm rfl rfl) ?_
        refine Jv rfl rfl rfl rfl rfl (fun ext => Oc rfl rfl (Kv fun w hS => attempt_c (sd := t.seed) (at_ := t.at_.toNat) (aa := k) (nb := bitsN n) (by assumption) (by omega) (by omega) (by assumption) (by omega) (by (exact tab_st hT hS)))) ?_
        refine Kj rfl (Ra rfl rfl) ?_
        refine WJ.nil ?_
        refine Nt (Cs (Km rfl (Km rfl ?_)))
        refine Ku rfl (Oc rfl rfl (Kv fun w hS => Cmp_c (a := attS t.seed t.at_.toNat k (bitsN n)) (b := n))) ?_
        refine Kq rfl (rd_lss rfl rfl rfl) (Nt ?_)
        refine Cd rfl (fun hc84 => ?_) (fun hc84 => ?_)
        ·(try simp only [sB] at hc84)
         refine Cq ?_
         refine Cf [0, 1, 2] [3, 4] [0, 0, 0, 2, 2] (by kernel_rfl) (by kernel_rfl) rfl ?_
         refine Kj rfl (Rm rfl rfl) ?_
         refine Kj rfl (lda rfl rfl .tc u33 rfl ?_) ?_
         ·kernel_rfl
         refine Kj rfl (Ra rfl rfl) ?_
         refine WJ.nil ?_
         refine Nu rfl rfl (Sa rfl rfl rfl .tc) ?_
         refine Ka rfl (Nt (Ce (Xf (Xb (Xb (Xf (Xb ?_)))))))
         exact Rn rfl (.tmp rfl (.agg rfl .tc u33 rfl (by kernel_rfl) (.tmp rfl .nil))) fun w' hS => drawN (q := ⟨some b48, t.vals.length, []⟩) (by rw [drawS, if_neg h27, if_neg h52, ← hfi, findA_hit (by omega) hc84]) rfl hS (by simp [Rs.ent])
        ·(try simp only [sB] at hc84)
         refine Ck (Xd (Xa (Cg (Kq rfl (Rz rfl rfl rfl (by omega)) (Km rfl (Nn ?_))))))
         refine Ly (k + 1) (by (try dsimp only); omega) (S4 rfl rfl rfl rfl) (by refine (Sc ?_ (S0 _)) <;> (rfl)) ?_ (by (exact fun _ h => h))
         (try dsimp only)
         exact ⟨by omega, by rw [← findA_miss (by omega) (by omega)]; exact hfi⟩
       ·(try simp only [sB] at hc74)
        refine Cx (Xc (Xc (Xe ?_)))
        obtain rfl : k = 256 := by omega
        refine Xa (Cs (Kq rfl (Kb [[.slice none 0 0], [.string (S [])], [.int .i64 0]] rfl rfl) (Ka rfl ?_)))
        refine Nu rfl rfl (Sa rfl rfl rfl .tc) ?_
        refine Ka rfl (Nt (Ce ?_))
        exact Rn rfl (.tmp rfl (.agg rfl .tc u33 rfl (by kernel_rfl) (.tmp rfl .nil))) fun w' hS => draw0 (by rw [drawS, if_neg h27, if_neg h52, ← hfi]; rfl) hS
   ·(try simp only [sB] at hg34)
    refine Kt rfl (Kt rfl (Kt rfl (Kq rfl (Rq rfl rfl rfl) (Km rfl (Kq rfl (Fa (q := 2) rfl rfl u33 rfl rfl) (Kq rfl (Ld rfl rfl .tc u3) ?_))))))
    refine Kq rfl (rd_eql rfl rfl rfl) (Kq rfl (Rq rfl rfl rfl) (Nt ?_))
    refine Cd rfl (fun hc43 => ?_) (fun hc43 => ?_)
    ·(try simp only [sB] at hc43)
     refine Cs (Kq rfl (Kb [[.slice none 0 0], [.string (S [])], [.int .i64 0]] rfl rfl) (Ka rfl ?_))
     refine Nu rfl rfl (Sa rfl rfl rfl .tc) ?_
     refine Ka rfl (Nt (Ce (Xb ?_)))
     (exfalso; omega)
    ·(try simp only [sB] at hc43)
     refine Ck (Xa (Cq ?_))
     refine Cf [0, 1, 2, 3, 4, 5, 6, 7, 8, 9, 10] [11] [0, 0, 0, 3, 0, 0, 0, 0, 0, 0, 3, 2] (by kernel_rfl) (by kernel_rfl) rfl ?_
     refine Kj rfl (Fa (q := 0) rfl rfl u33 rfl rfl) (Kj rfl (Ld rfl rfl .tc u31) ?_)
     refine Kj rfl (rd_len rfl rfl u31) ?_
     refine Jf rfl rfl rfl rfl rfl (fr_mk rfl rfl rfl u31 (by kernel_rfl : _ = some (some (.string (S [])), 1, 16)) rfl ?_ (by (try simp only [sN, Int.reduceToNat, Nat.reduceAdd, Nat.reduceMul, Nat.reduceSub]); rfl) (by (try simp only [sN, Int.reduceToNat, Nat.reduceAdd, Nat.reduceMul, Nat.reduceSub]); rfl)) ?_
     ·omega
     intro b48
     refine Kj rfl (Fa (q := 1) rfl rfl u33 rfl rfl) (Kj rfl (Ld rfl rfl .tc u9) ?_)
     refine Kj rfl (Fa (q := 2) rfl rfl u33 rfl rfl) (Kj rfl (Ld rfl rfl .tc u3) ?_)
     refine Kj rfl (rd_add64 rfl rfl rfl (by omega)) (Kj rfl (Kb [[.slice none 0 0], [.string (S [])], [.int .i64 0]] rfl rfl) ?_)
     refine Jf rfl rfl rfl rfl rfl (fr_alloc rfl (v := (.agg #[.slice none 0 0, .string (S []), .int .i64 0])) (cs := [.slice none 0 0, .string (S []), .int .i64 0]) (by kernel_rfl) rfl) ?_
     intro b7
     refine WJ.nil ?_
     refine Nu rfl rfl (Sa rfl rfl rfl .tc) ?_
     refine Nt (Cs (Kq rfl (Fa (q := 0) rfl rfl u33 rfl rfl) (Kq rfl (Ld rfl rfl .tc u31) ?_)))
     refine Kq rfl (Fa (q := 0) rfl rfl u33 rfl rfl) (Kq rfl (Ld rfl rfl .tc u31) ?_)
     refine Kh rfl (cpyl rfl rfl rfl .tc u31 (by kernel_rfl) (m := t.vals.length) (by simp) (by simp) (fun w hS => hS.sl) (by intro u hu; obtain ⟨_, _, rfl⟩ := List.mem_map.1 hu; rfl) (by simp) (ys := strs t.vals) (by simp)) ?_
     intro _
     refine Nt (Cq (Cs (Kq rfl (Fa (q := 2) rfl rfl u33 rfl rfl) (Kq rfl (Ld rfl rfl .tc u3) ?_))))
     refine Kq rfl (Fa (q := 0) rfl rfl u33 rfl rfl) (Kq rfl (Ld rfl rfl .tc u31) ?_)
     refine Kq rfl (rd_len rfl rfl u31) (Kq rfl (rd_lss rfl rfl rfl) (Nt ?_))
     refine Cd rfl (fun hc65 => ?_) (fun hc65 => ?_)
     ·(try simp only [sB] at hc65)
      refine Cq ?_
      refine Cf [0, 1, 2, 3, 4, 5, 6, 7] [8, 9] [0, 0, 0, 0, 0, 0, 0, 0, 2, 2] (by kernel_rfl) (by kernel_rfl) rfl ?_
      refine Kj rfl (Fa (q := 0) rfl rfl u33 rfl rfl) (Kj rfl (Ld rfl rfl .tc u31) ?_)
      refine Kj rfl (Fa (q := 2) rfl rfl u33 rfl rfl) (Kj rfl (Ld rfl rfl .tc u3) ?_)
      refine Kj rfl (Ib rfl rfl rfl u31 (by omega) (by (rw [List.length_map]; omega))) ?_
      refine Kj rfl (ldm rfl rfl u22 rfl (by omega)) ?_
      refine Kj rfl (lda rfl rfl .tc u33 rfl ?_) ?_
      ·kernel_rfl
      refine Kj rfl (Ra rfl rfl) ?_
      refine WJ.nil ?_
      refine Nu rfl rfl (Sa rfl rfl rfl .tc) ?_
      refine Ka rfl (Nt (Ce (Xb ?_)))
      (exact Rn rfl (.tmp rfl (.agg rfl .tc u33 rfl (by kernel_rfl) (.tmp rfl .nil))) fun w' hS => drawN (q := ⟨some b48, t.vals.length, []⟩) (by rw [drawS, if_pos (by omega), if_neg (by omega)]) rfl hS (by simp [Rs.ent]))
     ·(try simp only [sB] at hc65)
      have h27 : ¬ t.at_ < t.vals.length := by omega
      have h52 : ¬ (t.seed = [] ∨ t.at_ = 2147483647) := by (exfalso; omega)
      refine Ck (Xa (Cq (Cs (Km rfl (Nt (Cb ?_))))))
      refine Lp (σ := Nat) [(1, _), (2, _), (5, _), (7, _)] (fun gq => [(73, .int .i64 (gq : Int))]) (fun gq => gq ≤ 256 ∧ findA t n (256 - gq) gq = findA t n 256 0) (fun gq => 256 - gq) (0) (S4 rfl rfl rfl rfl) (S1 rfl) (by (try dsimp only); exact ⟨by omega, rfl⟩) ?_
      rintro k hinv1; (try dsimp only at hinv1 ⊢)
      obtain ⟨hk, hfi⟩ := hinv1
      refine Cs (Kq rfl (rd_lss rfl rfl rfl) (Nt (Cq ?_)))
      refine Cd rfl (fun hc74 => ?_) (fun hc74 => ?_)
      ·(try simp only [sB] at hc74)
       refine Ck (Xa (Cq (Cb (Cs (Km rfl (Ka rfl (Nt (Cq ?_))))))))
       refine Cf [2, 3, 0, 1, 4, 5] [] [0, 0, 0, 1, 1, 0] (by kernel_rfl) (by kernel_rfl) rfl ?_
       refine Kj rfl (Rm rfl rfl) ?_
       refine Jv rfl rfl rfl rfl rfl (fun ext => Oc rfl rfl (Kv fun w hS => bits_c (a := n))) ?_
       refine WJ.set 79 rfl (v' := .int .i64 ((bitsN n : Nat) : Int)) (congrArg (Value.int .i64) (by rw [if_pos hn])) ?_
       refine Kj rfl (lda rfl rfl .tc u33 rfl ?_) ?_
       ·kernel_rfl
       refine WJ.set 76 rfl (v' := .agg #[.slice a t.vals.length cap, .string (S t.seed), .int .i64 ((t.at_.toNat : Nat) : Int)]) (by rw [Int.toNat_of_nonneg hg1]) ?_
       refine Kj rfl (Rm rfl rfl) ?_
       refine Jv rfl rfl rfl rfl rfl (fun ext => Oc rfl rfl (Kv fun w hS => attempt_c (sd := t.seed) (at_ := t.at_.toNat) (aa := k) (nb := bitsN n) (by assumption) (by omega) (by omega) (by assumption) (by omega) (by (exact tab_st hT hS)))) ?_
       refine Kj rfl (Ra rfl rfl) ?_
       refine WJ.nil ?_
       refine Nt (Cs (Km rfl (Km rfl ?_)))
       refine Ku rfl (Oc rfl rfl (Kv fun w hS => Cmp_c (a := attS t.seed t.at_.toNat k (bitsN n)) (b := n))) ?_
       refine Kq rfl (rd_lss rfl rfl rfl) (Nt ?_)
       refine Cd rfl (fun hc84 => ?_) (fun hc84 => ?_)
       ·(try simp only [sB] at hc84)
        refine Cq ?_
        refine Cf [0, 1, 2] [3, 4] [0, 0, 0, 2, 2] (by kernel_rfl) (by kernel_rfl) rfl ?_
        refine Kj rfl (Rm rfl rfl) ?_
        refine Kj rfl (lda rfl rfl .tc u33 rfl ?_) ?_
        ·kernel_rfl
        refine Kj rfl (Ra rfl rfl) ?_
        refine WJ.nil ?_
        refine Nu rfl rfl (Sa rfl rfl rfl .tc) ?_
        refine Ka rfl (Nt (Ce (Xf (Xb (Xb (Xf (Xb ?_)))))))
        exact Rn rfl (.tmp rfl (.agg rfl .tc u33 rfl (by kernel_rfl) (.tmp rfl .nil))) fun w' hS => drawN (q := ⟨some b48, t.vals.length, []⟩) (by rw [drawS, if_neg h27, if_neg h52, ← hfi, findA_hit (by omega) hc84]) rfl hS (by simp [Rs.ent])
       ·(try simp only [sB] at hc84)
        refine Ck (Xd (Xa (Cg (Kq rfl (Rz rfl rfl rfl (by omega)) (Km rfl (Nn ?_))))))
        refine Ly (k + 1) (by (try dsimp only); omega) (S4 rfl rfl rfl rfl) (by refine (Sc ?_ (S0 _)) <;> (rfl)) ?_ (by (exact fun _ h => h))
        (try dsimp only)
        exact ⟨by omega, by rw [← findA_miss (by omega) (by omega)]; exact hfi⟩
      ·(try simp only [sB] at hc74)
       refine Cx (Xc (Xc (Xe ?_)))
       obtain rfl : k = 256 := by omega
       refine Xa (Cs (Kq rfl (Kb [[.slice none 0 0], [.string (S [])], [.int .i64 0]] rfl rfl) (Ka rfl ?_)))
       refine Nu rfl rfl (Sa rfl rfl rfl .tc) ?_
       refine Ka rfl (Nt (Ce ?_))
       exact Rn rfl (.tmp rfl (.agg rfl .tc u33 rfl (by kernel_rfl) (.tmp rfl .nil))) fun w' hS => draw0 (by rw [drawS, if_neg h27, if_neg h52, ← hfi]; rfl) hS
 ·(try simp only [sB] at hg16)
  refine Kt rfl (Kt rfl (Kt rfl (Kt rfl (Kt rfl (Kt rfl (Kt rfl (Kt rfl (Kt rfl (Kq rfl (Rq rfl rfl rfl) (Nt ?_))))))))))
  refine Cd rfl (fun h => by cases h) (fun _ => ?_)
  refine Ck (Xa (Cq (Cs (Kq rfl (Fa (q := 2) rfl rfl u33 rfl rfl) (Kq rfl (Ld rfl rfl .tc u3) ?_)))))
  refine Kq rfl (Fa (q := 0) rfl rfl u33 rfl rfl) (Kq rfl (Ld rfl rfl .tc u31) ?_)
  refine Kq rfl (rd_len rfl rfl u31) (Kq rfl (rd_geq rfl rfl rfl) (Km rfl ?_))
  refine Nb 34 rfl (fun hg34 => ?_) (fun hg34 => ?_)
  ·(try simp only [sB] at hg34)
   refine Kq rfl (Fa (q := 1) rfl rfl u33 rfl rfl) (Kq rfl (Ld rfl rfl .tc u9) ?_)
   refine Kq rfl (rd_seq rfl rfl rfl) (Kq rfl (Rp rfl rfl rfl) (Km rfl ?_))
   refine Nb 39 rfl (fun hg39 => ?_) (fun hg39 => ?_)
   ·(try simp only [sB] at hg39)
    refine Kt rfl (Kt rfl (Kt rfl (Kq rfl (Rp rfl rfl rfl) (Nt ?_))))
    refine Cd rfl (fun _ => ?_) (fun h => by cases h)
    refine Cs (Kq rfl (Kb [[.slice none 0 0], [.string (S [])], [.int .i64 0]] rfl rfl) (Ka rfl ?_))
    refine Nu rfl rfl (Sa rfl rfl rfl .tc) ?_
    refine Ka rfl (Nt (Ce (Xb ?_)))
    (exact Rn rfl (.tmp rfl (.agg rfl .tc u33 rfl (by kernel_rfl) (.tmp rfl .nil))) fun w' hS => draw0 (by rw [drawS, if_neg (by omega), if_pos (by (left; assumption))]) hS)
   ·(try simp only [sB] at hg39)
    refine Kq rfl (Fa (q := 2) rfl rfl u33 rfl rfl) (Kq rfl (Ld rfl rfl .tc u3) ?_)
    refine Kq rfl (rd_eql rfl rfl rfl) (Kq rfl (Rq rfl rfl rfl) (Nt ?_))
    refine Cd rfl (fun hc43 => ?_) (fun hc43 => ?_)
    ·(try simp only [sB] at hc43)
     refine Cs (Kq rfl (Kb [[.slice none 0 0], [.string (S [])], [.int .i64 0]] rfl rfl) (Ka rfl ?_))
     refine Nu rfl rfl (Sa rfl rfl rfl .tc) ?_
     refine Ka rfl (Nt (Ce (Xb ?_)))
     (exact Rn rfl (.tmp rfl (.agg rfl .tc u33 rfl (by kernel_rfl) (.tmp rfl .nil))) fun w' hS => draw0 (by rw [drawS, if_neg (by omega), if_pos (by (right; omega))]) hS)
    ·(try simp only [sB] at hc43)
     refine Ck (Xa (Cq ?_))
     refine Cf [0, 1, 2, 3, 4, 5, 6, 7, 8, 9, 10] [11] [0, 0, 0, 3, 0, 0, 0, 0, 0, 0, 3, 2] (by kernel_rfl) (by kernel_rfl) rfl ?_
     refine Kj rfl (Fa (q := 0) rfl rfl u33 rfl rfl) (Kj rfl (Ld rfl rfl .tc u31) ?_)
     refine Kj rfl (rd_len rfl rfl u31) ?_
     refine Jf rfl rfl rfl rfl rfl (fr_mk rfl rfl rfl u31 (by kernel_rfl : _ = some (some (.string (S [])), 1, 16)) rfl ?_ (by (try simp only [sN, Int.reduceToNat, Nat.reduceAdd, Nat.reduceMul, Nat.reduceSub]); rfl) (by (try simp only [sN, Int.reduceToNat, Nat.reduceAdd, Nat.reduceMul, Nat.reduceSub]); rfl)) ?_
     ·omega
     intro b48
     refine Kj rfl (Fa (q := 1) rfl rfl u33 rfl rfl) (Kj rfl (Ld rfl rfl .tc u9) ?_)
     refine Kj rfl (Fa (q := 2) rfl rfl u33 rfl rfl) (Kj rfl (Ld rfl rfl .tc u3) ?_)
     refine Kj rfl (rd_add64 rfl rfl rfl (by omega)) (Kj rfl (Kb [[.slice none 0 0], [.string (S [])], [.int .i64 0]] rfl rfl) ?_)
     refine Jf rfl rfl rfl rfl rfl (fr_alloc rfl (v := (.agg #[.slice none 0 0, .string (S []), .int .i64 0])) (cs := [.slice none 0 0, .string (S []), .int .i64 0]) (by kernel_rfl) rfl) ?_
     intro b7
     refine WJ.nil ?_
     refine Nu rfl rfl (Sa rfl rfl rfl .tc) ?_
     refine Nt (Cs (Kq rfl (Fa (q := 0) rfl rfl u33 rfl rfl) (Kq rfl (Ld rfl rfl .tc u31) ?_)))
     refine Kq rfl (Fa (q := 0) rfl rfl u33 rfl rfl) (Kq rfl (Ld rfl rfl .tc u31) ?_)
     refine Kh rfl (cpyl rfl rfl rfl .tc u31 (by kernel_rfl) (m := t.vals.length) (by simp) (by simp) (fun w hS => hS.sl) (by intro u hu; obtain ⟨_, _, rfl⟩ := List.mem_map.1 hu; rfl) (by simp) (ys := strs t.vals) (by simp)) ?_
     intro _
     refine Nt (Cq (Cs (Kq rfl (Fa (q := 2) rfl rfl u33 rfl rfl) (Kq rfl (Ld rfl rfl .tc u3) ?_))))
     refine Kq rfl (Fa (q := 0) rfl rfl u33 rfl rfl) (Kq rfl (Ld rfl rfl .tc u31) ?_)
     refine Kq rfl (rd_len rfl rfl u31) (Kq rfl (rd_lss rfl rfl rfl) (Nt ?_))
     refine Cd rfl (fun hc65 => ?_) (fun hc65 => ?_)
     ·(try simp only [sB] at hc65)
      refine Cq ?_
      refine Cf [0, 1, 2, 3, 4, 5, 6, 7] [8, 9] [0, 0, 0, 0, 0, 0, 0, 0, 2, 2] (by kernel_rfl) (by kernel_rfl) rfl ?_
      refine Kj rfl (Fa (q := 0) rfl rfl u33 rfl rfl) (Kj rfl (Ld rfl rfl .tc u31) ?_)
      refine Kj rfl (Fa (q := 2) rfl rfl u33 rfl rfl) (Kj rfl (Ld rfl rfl .tc u3) ?_)
      refine Kj rfl (Ib rfl rfl rfl u31 (by omega) (by (rw [List.length_map]; omega))) ?_
      refine Kj rfl (ldm rfl rfl u22 rfl (by omega)) ?_
      refine Kj rfl (lda rfl rfl .tc u33 rfl ?_) ?_
      ·kernel_rfl
      refine Kj rfl (Ra rfl rfl) ?_
      refine WJ.nil ?_
      refine Nu rfl rfl (Sa rfl rfl rfl .tc) ?_
      refine Ka rfl (Nt (Ce (Xb ?_)))
      (exfalso; omega)
     ·(try simp only [sB] at hc65)
      have h27 : ¬ t.at_ < t.vals.length := by omega
      have h52 : ¬ (t.seed = [] ∨ t.at_ = 2147483647) := by (rintro (h | h) <;> contradiction)
      refine Ck (Xa (Cq (Cs (Km rfl (Nt (Cb ?_))))))
      refine Lp (σ := Nat) [(1, _), (2, _), (5, _), (7, _)] (fun gq => [(73, .int .i64 (gq : Int))]) (fun gq => gq ≤ 256 ∧ findA t n (256 - gq) gq = findA t n 256 0) (fun gq => 256 - gq) (0) (S4 rfl rfl rfl rfl) (S1 rfl) (by (try dsimp only); exact ⟨by omega, rfl⟩) ?_
      rintro k hinv1; (try dsimp only at hinv1 ⊢)
      obtain ⟨hk, hfi⟩ := hinv1
      refine Cs (Kq rfl (rd_lss rfl rfl rfl) (Nt (Cq ?_)))
      refine Cd rfl (fun hc74 => ?_) (fun hc74 => ?_)
      ·(try simp only [sB] at hc74)
       refine Ck (Xa (Cq (Cb (Cs (Km rfl (Ka rfl (Nt (Cq ?_))))))))
       refine Cf [2, 3, 0, 1, 4, 5] [] [0, 0, 0, 1, 1, 0] (by kernel_rfl) (by kernel_rfl) rfl ?_
       refine Kj rfl (Rm rfl rfl) ?_
       refine Jv rfl rfl rfl rfl rfl (fun ext => Oc rfl rfl (Kv fun w hS => bits_c (a := n))) ?_
       refine WJ.set 79 rfl (v' := .int .i64 ((bitsN n : Nat) : Int)) (congrArg (Value.int .i64) (by rw [if_pos hn])) ?_
       refine Kj rfl (lda rfl rfl .tc u33 rfl ?_) ?_
       ·kernel_rfl
       refine WJ.set 76 rfl (v' := .agg #[.slice a t.vals.length cap, .string (S t.seed), .int .i64 ((t.at_.toNat : Nat) : Int)]) (by rw [Int.toNat_of_nonneg hg1]) ?_
       refine Kj rfl (Rm rfl rfl) ?_
       refine Jv rfl rfl rfl rfl rfl (fun ext => Oc rfl rfl (Kv fun w hS => attempt_c (sd := t.seed) (at_ := t.at_.toNat) (aa := k) (nb := bitsN n) (by assumption) (by omega) (by omega) (by assumption) (by omega) (by (exact tab_st hT hS)))) ?_
       refine Kj rfl (Ra rfl rfl) ?_
       refine WJ.nil ?_
       refine Nt (Cs (Km rfl (Km rfl ?_)))
       refine Ku rfl (Oc rfl rfl (Kv fun w hS => Cmp_c (a := attS t.seed t.at_.toNat k (bitsN n)) (b := n))) ?_
       refine Kq rfl (rd_lss rfl rfl rfl) (Nt ?_)
       refine Cd rfl (fun hc84 => ?_) (fun hc84 => ?_)
       ·(try simp only [sB] at hc84)
        refine Cq ?_
        refine Cf [0, 1, 2] [3, 4] [0, 0, 0, 2, 2] (by kernel_rfl) (by kernel_rfl) rfl ?_
        refine Kj rfl (Rm rfl rfl) ?_
        refine Kj rfl (lda rfl rfl .tc u33 rfl ?_) ?_
        ·kernel_rfl
        refine Kj rfl (Ra rfl rfl) ?_
        refine WJ.nil ?_
        refine Nu rfl rfl (Sa rfl rfl rfl .tc) ?_
        refine Ka rfl (Nt (Ce (Xf (Xb (Xb (Xf (Xb ?_)))))))
        exact Rn rfl (.tmp rfl (.agg rfl .tc u33 rfl (by kernel_rfl) (.tmp rfl .nil))) fun w' hS => drawN (q := ⟨some b48, t.vals.length, []⟩) (by rw [drawS, if_neg h27, if_neg h52, ← hfi, findA_hit (by omega) hc84]) rfl hS (by simp [Rs.ent])
       ·(try simp only [sB] at hc84)
        refine Ck (Xd (Xa (Cg (Kq rfl (Rz rfl rfl rfl (by omega)) (Km rfl (Nn ?_))))))
        refine Ly (k + 1) (by (try dsimp only); omega) (S4 rfl rfl rfl rfl) (by refine (Sc ?_ (S0 _)) <;> (rfl)) ?_ (by (exact fun _ h => h))
        (try dsimp only)
        exact ⟨by omega, by rw [← findA_miss (by omega) (by omega)]; exact hfi⟩
      ·(try simp only [sB] at hc74)
       refine Cx (Xc (Xc (Xe ?_)))
       obtain rfl : k = 256 := by omega
       refine Xa (Cs (Kq rfl (Kb [[.slice none 0 0], [.string (S [])], [.int .i64 0]] rfl rfl) (Ka rfl ?_)))
       refine Nu rfl rfl (Sa rfl rfl rfl .tc) ?_
       refine Ka rfl (Nt (Ce ?_))
       exact Rn rfl (.tmp rfl (.agg rfl .tc u33 rfl (by kernel_rfl) (.tmp rfl .nil))) fun w' hS => draw0 (by rw [drawS, if_neg h27, if_neg h52, ← hfi]; rfl) hS
  ·(try simp only [sB] at hg34)
   refine Kt rfl (Kt rfl (Kt rfl (Kq rfl (Rq rfl rfl rfl) (Km rfl (Kq rfl (Fa (q := 2) rfl rfl u33 rfl rfl) (Kq rfl (Ld rfl rfl .tc u3) ?_))))))
   refine Kq rfl (rd_eql rfl rfl rfl) (Kq rfl (Rq rfl rfl rfl) (Nt ?_))
   refine Cd rfl (fun hc43 => ?_) (fun hc43 => ?_)
   ·(try simp only [sB] at hc43)
    refine Cs (Kq rfl (Kb [[.slice none 0 0], [.string (S [])], [.int .i64 0]] rfl rfl) (Ka rfl ?_))
    refine Nu rfl rfl (Sa rfl rfl rfl .tc) ?_
    refine Ka rfl (Nt (Ce (Xb ?_)))
    (exfalso; omega)
   ·(try simp only [sB] at hc43)
    refine Ck (Xa (Cq ?_))
    refine Cf [0, 1, 2, 3, 4, 5, 6, 7, 8, 9, 10] [11] [0, 0, 0, 3, 0, 0, 0, 0, 0, 0, 3, 2] (by kernel_rfl) (by kernel_rfl) rfl ?_
    refine Kj rfl (Fa (q := 0) rfl rfl u33 rfl rfl) (Kj rfl (Ld rfl rfl .tc u31) ?_)
    refine Kj rfl (rd_len rfl rfl u31) ?_
    refine Jf rfl rfl rfl rfl rfl (fr_mk rfl rfl rfl u31 (by kernel_rfl : _ = some (some (.string (S [])), 1, 16)) rfl ?_ (by (try simp only [sN, Int.reduceToNat, Nat.reduceAdd, Nat.reduceMul, Nat.reduceSub]); rfl) (by (try simp only [sN, Int.reduceToNat, Nat.reduceAdd, Nat.reduceMul, Nat.reduceSub]); rfl)) ?_
    ·omega
    intro b48
    refine Kj rfl (Fa (q := 1) rfl rfl u33 rfl rfl) (Kj rfl (Ld rfl rfl .tc u9) ?_)
    refine Kj rfl (Fa (q := 2) rfl rfl u33 rfl rfl) (Kj rfl (Ld rfl rfl .tc u3) ?_)
    refine Kj rfl (rd_add64 rfl rfl rfl (by omega)) (Kj rfl (Kb [[.slice none 0 0], [.string (S [])], [.int .i64 0]] rfl rfl) ?_)
    refine Jf rfl rfl rfl rfl rfl (fr_alloc rfl (v := (.agg #[.slice none 0 0, .string (S []), .int .i64 0])) (cs := [.slice none 0 0, .string (S []), .int .i64 0]) (by kernel_rfl) rfl) ?_
    intro b7
    refine WJ.nil ?_
    refine Nu rfl rfl (Sa rfl rfl rfl .tc) ?_
    refine Nt (Cs (Kq rfl (Fa (q := 0) rfl rfl u33 rfl rfl) (Kq rfl (Ld rfl rfl .tc u31) ?_)))
    refine Kq rfl (Fa (q := 0) rfl rfl u33 rfl rfl) (Kq rfl (Ld rfl rfl .tc u31) ?_)
    refine Kh rfl (cpyl rfl rfl rfl .tc u31 (by kernel_rfl) (m := t.vals.length) (by simp) (by simp) (fun w hS => hS.sl) (by intro u hu; obtain ⟨_, _, rfl⟩ := List.mem_map.1 hu; rfl) (by simp) (ys := strs t.vals) (by simp)) ?_
    intro _
    refine Nt (Cq (Cs (Kq rfl (Fa (q := 2) rfl rfl u33 rfl rfl) (Kq rfl (Ld rfl rfl .tc u3) ?_))))
    refine Kq rfl (Fa (q := 0) rfl rfl u33 rfl rfl) (Kq rfl (Ld rfl rfl .tc u31) ?_)
    refine Kq rfl (rd_len rfl rfl u31) (Kq rfl (rd_lss rfl rfl rfl) (Nt ?_))
    refine Cd rfl (fun hc65 => ?_) (fun hc65 => ?_)
    ·(try simp only [sB] at hc65)
     refine Cq ?_
     refine Cf [0, 1, 2, 3, 4, 5, 6, 7] [8, 9] [0, 0, 0, 0, 0, 0, 0, 0, 2, 2] (by kernel_rfl) (by kernel_rfl) rfl ?_
     refine Kj rfl (Fa (q := 0) rfl rfl u33 rfl rfl) (Kj rfl (Ld rfl rfl .tc u31) ?_)
     refine Kj rfl (Fa (q := 2) rfl rfl u33 rfl rfl) (Kj rfl (Ld rfl rfl .tc u3) ?_)
     refine Kj rfl (Ib rfl rfl rfl u31 (by omega) (by (rw [List.length_map]; omega))) ?_
     refine Kj rfl (ldm rfl rfl u22 rfl (by omega)) ?_
     refine Kj rfl (lda rfl rfl .tc u33 rfl ?_) ?_
     ·kernel_rfl
     refine Kj rfl (Ra rfl rfl) ?_
     refine WJ.nil ?_
     refine Nu rfl rfl (Sa rfl rfl rfl .tc) ?_
     refine Ka rfl (Nt (Ce (Xb ?_)))
     (exfalso; omega)
    ·(try simp only [sB] at hc65)
     have h27 : ¬ t.at_ < t.vals.length := by omega
     have h52 : ¬ (t.seed = [] ∨ t.at_ = 2147483647) := by (exfalso; omega)
     refine Ck (Xa (Cq (Cs (Km rfl (Nt (Cb ?_))))))
     refine Lp (σ := Nat) [(1, _), (2, _), (5, _), (7, _)] (fun gq => [(73, .int .i64 (gq : Int))]) (fun gq => gq ≤ 256 ∧ findA t n (256 - gq) gq = findA t n 256 0) (fun gq => 256 - gq) (0) (S4 rfl rfl rfl rfl) (S1 rfl) (by (try dsimp only); exact ⟨by omega, rfl⟩) ?_
     rintro k hinv1; (try dsimp only at hinv1 ⊢)
     obtain ⟨hk, hfi⟩ := hinv1
     refine Cs (Kq rfl (rd_lss rfl rfl rfl) (Nt (Cq ?_)))
     refine Cd rfl (fun hc74 => ?_) (fun hc74 => ?_)
     ·(try simp only [sB] at hc74)
      refine Ck (Xa (Cq (Cb (Cs (Km rfl (Ka rfl (Nt (Cq ?_))))))))
      refine Cf [2, 3, 0, 1, 4, 5] [] [0, 0, 0, 1, 1, 0] (by kernel_rfl) (by kernel_rfl) rfl ?_
      refine Kj rfl (Rm rfl rfl) ?_
      refine Jv rfl rfl rfl rfl rfl (fun ext => Oc rfl rfl (Kv fun w hS => bits_c (a := n))) ?_
      refine WJ.set 79 rfl (v' := .int .i64 ((bitsN n : Nat) : Int)) (congrArg (Value.int .i64) (by rw [if_pos hn])) ?_
      refine Kj rfl (lda rfl rfl .tc u33 rfl ?_) ?_
      ·kernel_rfl
      refine WJ.set 76 rfl (v' := .agg #[.slice a t.vals.length cap, .string (S t.seed), .int .i64 ((t.at_.toNat : Nat) : Int)]) (by rw [Int.toNat_of_nonneg hg1]) ?_
      refine Kj rfl (Rm rfl rfl) ?_
      refine Jv rfl rfl rfl rfl rfl (fun ext => Oc rfl rfl (Kv fun w hS => attempt_c (sd := t.seed) (at_ := t.at_.toNat) (aa := k) (nb := bitsN n) (by assumption) (by omega) (by omega) (by assumption) (by omega) (by (exact tab_st hT hS)))) ?_
      refine Kj rfl (Ra rfl rfl) ?_
      refine WJ.nil ?_
      refine Nt (Cs (Km rfl (Km rfl ?_)))
      refine Ku rfl (Oc rfl rfl (Kv fun w hS => Cmp_c (a := attS t.seed t.at_.toNat k (bitsN n)) (b := n))) ?_
      refine Kq rfl (rd_lss rfl rfl rfl) (Nt ?_)
      refine Cd rfl (fun hc84 => ?_) (fun hc84 => ?_)
      ·(try simp only [sB] at hc84)
       refine Cq ?_
       refine Cf [0, 1, 2] [3, 4] [0, 0, 0, 2, 2] (by kernel_rfl) (by kernel_rfl) rfl ?_
       refine Kj rfl (Rm rfl rfl) ?_
       refine Kj rfl (lda rfl rfl .tc u33 rfl ?_) ?_
       ·kernel_rfl
       refine Kj rfl (Ra rfl rfl) ?_
       refine WJ.nil ?_
       refine Nu rfl rfl (Sa rfl rfl rfl .tc) ?_
       refine Ka rfl (Nt (Ce (Xf (Xb (Xb (Xf (Xb ?_)))))))
       exact Rn rfl (.tmp rfl (.agg rfl .tc u33 rfl (by kernel_rfl) (.tmp rfl .nil))) fun w' hS => drawN (q := ⟨some b48, t.vals.length, []⟩) (by rw [drawS, if_neg h27, if_neg h52, ← hfi, findA_hit (by omega) hc84]) rfl hS (by simp [Rs.ent])
      ·(try simp only [sB] at hc84)
       refine Ck (Xd (Xa (Cg (Kq rfl (Rz rfl rfl rfl (by omega)) (Km rfl (Nn ?_))))))
       refine Ly (k + 1) (by (try dsimp only); omega) (S4 rfl rfl rfl rfl) (by refine (Sc ?_ (S0 _)) <;> (rfl)) ?_ (by (exact fun _ h => h))
       (try dsimp only)
       exact ⟨by omega, by rw [← findA_miss (by omega) (by omega)]; exact hfi⟩
     ·(try simp only [sB] at hc74)
      refine Cx (Xc (Xc (Xe ?_)))
      obtain rfl : k = 256 := by omega
      refine Xa (Cs (Kq rfl (Kb [[.slice none 0 0], [.string (S [])], [.int .i64 0]] rfl rfl) (Ka rfl ?_)))
      refine Nu rfl rfl (Sa rfl rfl rfl .tc) ?_
      refine Ka rfl (Nt (Ce ?_))
      exact Rn rfl (.tmp rfl (.agg rfl .tc u33 rfl (by kernel_rfl) (.tmp rfl .nil))) fun w' hS => draw0 (by rw [drawS, if_neg h27, if_neg h52, ← hfi]; rfl) hS
def readyS (t : Tp) (n : Bs) : Int := if goodT t ∧ okN n then (if n = [] then 11 else 0) else 3
theorem tready_c {t : Tp} {n : Bs} {a : Option Addr} {cap : Nat} {w : World} {ok : Nat → Prop} (hF1 : (Fact.sl a (strs t.vals)).holds ok w) (hl : t.vals.length ≤ 100000) :
  Cw 100 #[t.v (.slice a t.vals.length cap), .string (S n)] w (.int .i64 (readyS t n)) := by
 refine En [Fact.sl a (strs t.vals)] [(0, t.v (.slice a t.vals.length cap)), (1, .string (S n))] Tryz.func100 rfl Tryz.ntmps100 rfl (Ac rfl (Ac rfl (An _))) (Fc (fact_any hF1) Fn) ?_
 refine Cs ?_
 refine Kh rfl (Oy rfl rfl) ?_
 intro b2
 refine Ka rfl (Nt (Cq (Cs ?_)))
 refine Kq rfl (lda rfl rfl .tc u33 rfl ?_) ?_
 ·kernel_rfl
 refine Ku rfl (Oc rfl rfl (Kv fun w hS => good_c (t := t) (by (exact hS.sl)) (by omega))) ?_
 refine Kq rfl (Rt rfl rfl) (Km rfl ?_)
 refine Nb 8 rfl (fun hg8 => ?_) (fun hg8 => ?_)
 ·(try simp only [sB] at hg8)
  refine Kt rfl (Kt rfl (Kt rfl (Kq rfl (Rp rfl rfl rfl) (Nt ?_))))
  refine Cd rfl (fun _ => ?_) (fun h => by cases h)
  refine Cs (Ka rfl (Nt (Ce (Xb ?_))))
  exact R1 rfl rfl (by rw [readyS, if_neg (by simp_all)]; rfl)
 ·(try simp only [sB] at hg8)
  refine Km rfl ?_
  refine Ku rfl (Oc rfl rfl (Kv fun w hS => valid_c)) ?_
  refine Kq rfl (Rt rfl rfl) (Kq rfl (Rq rfl rfl rfl) (Nt ?_))
  refine Cd rfl (fun hc12 => ?_) (fun hc12 => ?_)
  ·(try simp only [sB] at hc12)
   refine Cs (Ka rfl (Nt (Ce (Xb ?_))))
   exact R1 rfl rfl (by rw [readyS, if_neg (by simp_all)]; rfl)
  ·(try simp only [sB] at hc12)
   have hgn : goodT t ∧ okN n := by simp_all
   refine Ck (Xa (Cq (Cs (Km rfl (Kq rfl (rd_seq rfl rfl rfl) (Nt ?_))))))
   refine Cd rfl (fun hc14 => ?_) (fun hc14 => ?_)
   ·(try simp only [sB] at hc14)
    refine Cs (Ka rfl (Nt (Ce (Xb ?_))))
    exact R1 rfl rfl (by rw [readyS, if_pos hgn, if_pos (by simpa using hc14)]; rfl)
   ·(try simp only [sB] at hc14)
    refine Ck (Xa (Cs (Ka rfl (Nt (Ce ?_)))))
    exact R1 rfl rfl (by rw [readyS, if_pos hgn, if_neg (by simpa using hc14)]; rfl)
def belowS (t : Tp) (n : Bs) : Bs × Tp × Int := if readyS t n ≠ 0 then ([], zeroT, readyS t n) else drawS t n
theorem ready_ok {t : Tp} {n : Bs} (h : readyS t n = 0) : goodT t ∧ okN n ∧ n ≠ [] := by
 unfold readyS at h
 split at h
 ·rename_i h1
  split at h
  ·cases h
  ·rename_i h2; exact ⟨h1.1, h1.2, h2⟩
 ·cases h
theorem below_c {t : Tp} {n : Bs} {a : Option Addr} {cap : Nat} {w : World} {ok : Nat → Prop} (hF1 : (Fact.sl a (strs t.vals)).holds ok w) (hl : t.vals.length ≤ 100000) (hsd : t.seed.length ≤ 400000) (hT : Tab w) :
  Calls Tryz.prog 48 #[t.v (.slice a t.vals.length cap), .string (S n)] w fun e w' => ∃ g : Rs, e = .returned (.tuple #[.string (S (belowS t n).1), (belowS t n).2.1.v (g.val (belowS t n).2.1.vals.length), .int .i64 (belowS t n).2.2]) ∧ g.cap = (belowS t n).2.1.vals.length + g.sp.length ∧ St (fun _ => True) w [g.ent (strs (belowS t n).2.1.vals) 22] [] w' := by
 refine En [Fact.sl a (strs t.vals)] [(0, t.v (.slice a t.vals.length cap)), (1, .string (S n))] Tryz.func48 rfl Tryz.ntmps48 rfl (Ac rfl (Ac rfl (An _))) (Fc (fact_any hF1) Fn) ?_
 refine Cs ?_
 refine Kh rfl (Oy rfl rfl) ?_
 intro b2
 refine Ka rfl ?_
 refine Kh rfl (Oz [.slice none 0 0, .string (S []), .int .i64 0] rfl) ?_
 intro b5
 refine Ka rfl (Nt (Cq (Cs ?_)))
 refine Kq rfl (lda rfl rfl .tc u33 rfl ?_) ?_
 ·kernel_rfl
 refine Km rfl ?_
 refine Ku rfl (Oc rfl rfl (Kv fun w hS => tready_c (t := t) (n := n) (by (exact hS.sl)) (by assumption))) ?_
 refine Ka rfl (Nt (Cs (Km rfl (Kq rfl (rd_neq rfl rfl rfl) (Nt ?_)))))
 refine Cd rfl (fun hc12 => ?_) (fun hc12 => ?_)
 ·(try simp only [sB] at hc12)
  have hr : belowS t n = ([], zeroT, readyS t n) := by rw [belowS, if_pos (by simpa using hc12)]
  refine Cs (Kq rfl (Kb [[.slice none 0 0], [.string (S [])], [.int .i64 0]] rfl rfl) (Km rfl (Ka rfl ?_)))
  refine Nu rfl rfl (Sa rfl rfl rfl .tc) ?_
  refine Ka rfl (Nt (Ce (Xb ?_)))
  exact Rn rfl (.tmp rfl (.agg rfl .tc u33 rfl (by kernel_rfl) (.tmp rfl .nil))) fun w' hS => draw0 hr hS
 ·(try simp only [sB] at hc12)
  have hrd : readyS t n = 0 := by simpa using hc12
  have hr : belowS t n = drawS t n := by rw [belowS, if_neg (by simp [hrd])]
  obtain ⟨k1, k2, k3⟩ := ready_ok hrd
  refine Ck (Xa (Cs ?_))
  refine Kq rfl (lda rfl rfl .tc u33 rfl ?_) ?_
  ·kernel_rfl
  refine Km rfl ?_
  refine Kh rfl (Oc rfl rfl (keep_o1 fun w hS => draw_c (t := t) (n := n) (by (exact hS.sl)) (by assumption) (by assumption) (by assumption) (by assumption) (by assumption) (by (exact tab_st hT hS)))) ?_
  intro g17
  refine WL.pu ?_
  intro hg17; (try dsimp only at hg17 ⊢)
  refine Kq rfl (Re rfl rfl rfl) (Kq rfl (Re rfl rfl rfl) (Kq rfl (Re rfl rfl rfl) (Ka rfl ?_)))
  refine Nu rfl rfl (Sa rfl rfl rfl .tc) ?_
  refine Ka rfl (Nt (Ce ?_))
  exact Rn rfl (.tmp rfl (.agg rfl .tc u33 rfl (by kernel_rfl) (.tmp rfl .nil))) fun w' hS => ⟨g17, by rw [hr]; rfl, by rw [hr]; exact hg17, by rw [hr]; exact st_sub _ hS⟩
theorem rbelow_c {t : Tp} {n : Bs} {a : Option Addr} {cap : Nat} {w : World} {ok : Nat → Prop} (hF1 : (Fact.sl a (strs t.vals)).holds ok w) (hl : t.vals.length ≤ 100000) (hsd : t.seed.length ≤ 400000) :
  Calls Tryz.prog 52 #[t.v (.slice a t.vals.length cap), .string (S n)] w fun e w' => ∃ g : Rs, e = .returned (.tuple #[.string (S (belowS t n).1), (belowS t n).2.1.v (g.val (belowS t n).2.1.vals.length), .int .i64 (belowS t n).2.2]) ∧ g.cap = (belowS t n).2.1.vals.length + g.sp.length ∧ St (fun _ => True) w [g.ent (strs (belowS t n).2.1.vals) 22] [] w' := by
 refine En [Fact.sl a (strs t.vals)] [(0, t.v (.slice a t.vals.length cap)), (1, .string (S n))] Tryz.func52 rfl Tryz.ntmps52 rfl (Ac rfl (Ac rfl (An _))) (Fc (fact_any hF1) Fn) ?_
 refine Cs ?_
 refine Kh rfl (Oy rfl rfl) ?_
 intro b2
 refine Ka rfl ?_
 refine Kh rfl (Oz [.slice none 0 0, .string (S []), .int .i64 0] rfl) ?_
 intro b5
 refine Ka rfl (Nt (Cq (Cs ?_)))
 refine Kq rfl (lda rfl rfl .tc u33 rfl ?_) ?_
 ·kernel_rfl
 refine Ku rfl (Oc rfl rfl (Kv fun w hS => rtgood_c (t := t) (by (exact hS.sl)) (by omega))) ?_
 refine Kq rfl (Rt rfl rfl) (Km rfl ?_)
 refine Nb 10 rfl (fun hg10 => ?_) (fun hg10 => ?_)
 ·(try simp only [sB] at hg10)
  refine Kt rfl (Kt rfl (Kt rfl (Kq rfl (Rp rfl rfl rfl) (Nt ?_))))
  refine Cd rfl (fun _ => ?_) (fun h => by cases h)
  refine Cs (Kq rfl (Kb [[.slice none 0 0], [.string (S [])], [.int .i64 0]] rfl rfl) (Ka rfl ?_))
  refine Nu rfl rfl (Sa rfl rfl rfl .tc) ?_
  refine Ka rfl (Nt (Ce (Xb ?_)))
  exact Rn rfl (.tmp rfl (.agg rfl .tc u33 rfl (by kernel_rfl) (.tmp rfl .nil))) fun w' hS => draw0 (by rw [belowS, show readyS t n = 3 from by rw [readyS, if_neg (by simp_all)], if_pos (by decide)]) hS
 ·(try simp only [sB] at hg10)
  refine Km rfl ?_
  refine Ku rfl (Oc rfl rfl (Kv fun w hS => rvalid_c)) ?_
  refine Kq rfl (Rt rfl rfl) (Kq rfl (Rq rfl rfl rfl) (Nt ?_))
  refine Cd rfl (fun hc14 => ?_) (fun hc14 => ?_)
  ·(try simp only [sB] at hc14)
   refine Cs (Kq rfl (Kb [[.slice none 0 0], [.string (S [])], [.int .i64 0]] rfl rfl) (Ka rfl ?_))
   refine Nu rfl rfl (Sa rfl rfl rfl .tc) ?_
   refine Ka rfl (Nt (Ce (Xb ?_)))
   exact Rn rfl (.tmp rfl (.agg rfl .tc u33 rfl (by kernel_rfl) (.tmp rfl .nil))) fun w' hS => draw0 (by rw [belowS, show readyS t n = 3 from by rw [readyS, if_neg (by simp_all)], if_pos (by decide)]) hS
  ·(try simp only [sB] at hc14)
   have hgn : goodT t ∧ okN n := by simp_all
   refine Ck (Xa (Cq (Cs (Km rfl (Kq rfl (rd_seq rfl rfl rfl) (Nt ?_))))))
   refine Cd rfl (fun hc17 => ?_) (fun hc17 => ?_)
   ·(try simp only [sB] at hc17)
    refine Cs (Kq rfl (Kb [[.slice none 0 0], [.string (S [])], [.int .i64 0]] rfl rfl) (Ka rfl ?_))
    refine Nu rfl rfl (Sa rfl rfl rfl .tc) ?_
    refine Ka rfl (Nt (Ce (Xb ?_)))
    exact Rn rfl (.tmp rfl (.agg rfl .tc u33 rfl (by kernel_rfl) (.tmp rfl .nil))) fun w' hS => draw0 (by rw [belowS, show readyS t n = 11 from by rw [readyS, if_pos hgn, if_pos (by simpa using hc17)], if_pos (by decide)]) hS
   ·(try simp only [sB] at hc17)
    have k3 : n ≠ [] := by simpa using hc17
    have hr : belowS t n = drawS t n := by rw [belowS, show readyS t n = 0 from by rw [readyS, if_pos hgn, if_neg k3], if_neg (by simp)]
    have k1 := hgn.1; have k2 := hgn.2
    refine Ck (Xa (Cs ?_))
    refine Kq rfl (lda rfl rfl .tc u33 rfl ?_) ?_
    ·kernel_rfl
    refine Km rfl ?_
    refine Kh rfl (Oc rfl rfl (keep_o1 fun w hS => rdraw_c (t := t) (n := n) (by (exact hS.sl)) (by assumption) (by assumption) (by assumption) (by assumption) (by assumption))) ?_
    intro g21
    refine WL.pu ?_
    intro hg21; (try dsimp only at hg21 ⊢)
    refine Kq rfl (Re rfl rfl rfl) (Kq rfl (Re rfl rfl rfl) (Kq rfl (Re rfl rfl rfl) (Ka rfl ?_)))
    refine Nu rfl rfl (Sa rfl rfl rfl .tc) ?_
    refine Ka rfl (Nt (Ce ?_))
    exact Rn rfl (.tmp rfl (.agg rfl .tc u33 rfl (by kernel_rfl) (.tmp rfl .nil))) fun w' hS => ⟨g21, by rw [hr]; rfl, by rw [hr]; exact hg21, by rw [hr]; exact st_sub _ hS⟩
def decS (k : PK) (s : Bs) (c : Cp) : Bs × Int :=
 if rdyY k (decide (okN s)) [c.1, c.2] ≠ 0 then ([], rdyY k (decide (okN s)) [c.1, c.2]) else if ¬ isS k s then ([], 1) else (decC k s c, 0)
def mulC (k : PK) (a b : Cp) : Cp × Int :=
 if rdyY k true [a.1, a.2, b.1, b.2] ≠ 0 then (([], []), rdyY k true [a.1, a.2, b.1, b.2]) else ((canon (val a.1 * val b.1 % val k.1.1), canon (val a.2 * val b.2 % val k.1.1)), 0)
theorem cmpN_oklE {a b : Bs} (h : cmpN a b < 0) : okN a := by
 unfold cmpN at h; split at h
 ·rename_i h1; exact h1.1
 ·omega
theorem findA_okNE {t : Tp} {n : Bs} : ∀ (f a : Nat) (x : Bs), findA t n f a = some x → okN x
 | 0, a, x, h => by cases h
 | f + 1, a, x, h => by
  unfold findA at h; split at h
  ·rename_i h1; injection h with h; subst h; exact cmpN_oklE h1
  ·exact findA_okNE f (a + 1) x h
theorem draw_okNE {t : Tp} {n : Bs} (hg : goodT t) (h : (drawS t n).2.2 = 0) : okN (drawS t n).1 := by
 unfold drawS at h ⊢
 split
 ·rename_i h1
  rw [if_pos h1] at h
  split
  ·rename_i h2; rw [if_pos h2] at h; cases h
  ·exact hg.2.2 _ (getD_memB _ _ (by have := hg.1; omega))
 ·rename_i h1
  rw [if_neg h1] at h
  split
  ·rename_i h2; rw [if_pos h2] at h; cases h
  ·rename_i h2
   rw [if_neg h2] at h
   cases hf : findA t n 256 0 with
   | none => rw [hf] at h; cases h
   | some x => exact findA_okNE _ _ _ hf
theorem findA_ltE {t : Tp} {n : Bs} : ∀ (f a : Nat) (x : Bs), findA t n f a = some x → cmpN x n < 0
 | 0, a, x, h => by cases h
 | f + 1, a, x, h => by
  unfold findA at h; split at h
  ·rename_i h1; injection h with h; subst h; exact h1
  ·exact findA_ltE f (a + 1) x h
theorem draw_ltE {t : Tp} {n : Bs} (h : (drawS t n).2.2 = 0) : cmpN (drawS t n).1 n < 0 := by
 unfold drawS at h ⊢
 split
 ·rename_i h1
  rw [if_pos h1] at h
  split
  ·rename_i h2; rw [if_pos h2] at h; cases h
  ·rename_i h2; show cmpN (t.vals.getD t.at_.toNat default) n < 0; omega
 ·rename_i h1
  rw [if_neg h1] at h
  split
  ·rename_i h2; rw [if_pos h2] at h; cases h
  ·rename_i h2
   rw [if_neg h2] at h
   cases hf : findA t n 256 0 with
   | none => rw [hf] at h; cases h
   | some x => exact findA_ltE _ _ _ hf
theorem below_okN {t : Tp} {n : Bs} (h : (belowS t n).2.2 = 0) (ht : goodT t) (hn : okN n) : okN (belowS t n).1 ∧ val (belowS t n).1 < val n := by
 unfold belowS at h ⊢; split at h
 ·rename_i h1; exact absurd h h1
 ·rename_i h1; rw [if_neg h1]
  have a := draw_okNE ht h; have b := draw_ltE h
  rw [cmpN_ok a hn, cmpI_neg] at b; exact ⟨a, b⟩
def encS (k : PK) (m : Bs) (t : Tp) : (Cp × Bs × Tp) × Int :=
 if rdyY k (decide (goodT t)) [m] ≠ 0 then ((([], []), [], zeroT), rdyY k (decide (goodT t)) [m])
 else if (belowS t k.1.2).2.2 ≠ 0 then ((([], []), [], zeroT), (belowS t k.1.2).2.2)
 else ((mskN k (canon 1, m) (val (belowS t k.1.2).1), (belowS t k.1.2).1, (belowS t k.1.2).2.1), 0)
def refS (k : PK) (c : Cp) (t : Tp) : (Cp × Tp) × Int :=
 if rdyY k (decide (goodT t)) [c.1, c.2] ≠ 0 then ((([], []), zeroT), rdyY k (decide (goodT t)) [c.1, c.2])
 else if (belowS t k.1.2).2.2 ≠ 0 then ((([], []), zeroT), (belowS t k.1.2).2.2)
 else ((mskN k c (val (belowS t k.1.2).1), (belowS t k.1.2).2.1), 0)
theorem el_one {k : PK} (hY : chkY k = 0) : elG k.1 (canon 1) := by
 obtain ⟨_, hg, _, _, _, _⟩ := chkY_ok hY
 obtain ⟨_, _, h2, _, _⟩ := chkG_ok hg
 exact elG_can hg (by omega) (by simp [Un]) (fun _ => by rw [Nat.one_pow, Nat.mod_eq_of_lt (by omega)])
section
variable {k : PK} {m s : Bs} {t : Tp} {a : Cp}
end
theorem draw_valsE (t : Tp) (n : Bs) : (drawS t n).2.1.vals.length ≤ t.vals.length := by
 unfold drawS; repeat' split
 all_goals simp [zeroT]
theorem below_valsE (t : Tp) (n : Bs) : (belowS t n).2.1.vals.length ≤ t.vals.length := by
 unfold belowS; split
 ·simp [zeroT]
 ·exact draw_valsE t n
theorem enc_vals (k : PK) (m : Bs) (t : Tp) : (encS k m t).1.2.2.vals.length ≤ t.vals.length := by
 unfold encS; split
 ·simp [zeroT]
 ·split
  ·simp [zeroT]
  ·exact below_valsE t k.1.2
theorem ref_vals (k : PK) (c : Cp) (t : Tp) : (refS k c t).1.2.vals.length ≤ t.vals.length := by
 unfold refS; split
 ·simp [zeroT]
 ·split
  ·simp [zeroT]
  ·exact below_valsE t k.1.2
theorem powM_ok {x : Bs} {z : Zs} {m : Bs} (hx : okN x) (hz : okZ z) (hm : okN m) (hm0 : m ≠ []) (hg : Nat.gcd (val x) (val m) = 1) : powM x z m = (canon (powI (val m) (val x) (zv z)), 0) := by
 rw [powM, if_pos ⟨hx, hz, hm⟩, if_neg hm0, powI, zv_abs]
 by_cases h : z.1 = true
 ·rw [if_pos h, if_pos hg, if_pos ((okZ_neg hz).2 h)]
 ·rw [if_neg h, if_neg (fun h2 => h ((okZ_neg hz).1 h2))]
theorem rraw_c {g : Gp} {x : Bs} {z : Zs} {w : World} (hm8 : g.1.length ≤ 8) :
  Cw 114 #[gV g, .string (S x), zV z] w (.string (S (powM x z g.1).1)) := by
 refine En [] [(0, gV g), (1, .string (S x)), (2, zV z)] Tryz.func114 rfl Tryz.ntmps114 rfl (Ac rfl (Ac rfl (Ac rfl (An _)))) Fn ?_
 refine Cs ?_
 refine Kh rfl (Oy rfl rfl) ?_
 intro b3
 refine Kh rfl (Oy rfl rfl) ?_
 intro b5
 refine Ka rfl (Nt (Cs (Km rfl ?_)))
 refine Kq rfl (lda rfl rfl .tc u64 rfl ?_) ?_
 ·kernel_rfl
 refine Kq rfl (Fa (q := 0) rfl rfl u24 rfl rfl) (Kq rfl (Ld rfl rfl .tc u22) ?_)
 refine Ku rfl (Oc rfl rfl (Kv fun w hS => rpower_c (a := x) (x := z) (m := g.1) (by assumption))) ?_
 refine Km rfl (Kq rfl (Re rfl rfl rfl) (Kq rfl (Re rfl rfl rfl) (Ka rfl (Ka rfl (Nt (Cs (Km rfl (Ka rfl (Nt (Ce ?_))))))))))
 exact R1 rfl rfl (by rfl)
theorem rproduct_c {g : Gp} {l : List Bs} {es : List Zs} {a b : Option Addr} {c d : Nat} {w : World} {ok : Nat → Prop} (hF1 : (Fact.sl a (strs l)).holds ok w) (hF2 : (Fact.sl b (ints es)).holds ok w) (hl : l.length ≤ 100000) (hes : es.length ≤ 100000) (hm8 : g.1.length ≤ 8) :
  Cw 60 #[gV g, .slice a l.length c, .slice b es.length d] w (NE (prodS g l es)) := by
 have hnz : ∀ x : Int, chkP g l es (decide (l.length = es.length)) = x → x ≠ 0 → prodS g l es = ([], x) := fun x h h0 => by rw [prodS, if_neg (by rw [h]; exact h0), h]
 refine En [Fact.sl a (strs l), Fact.sl b (ints es)] [(0, gV g), (1, .slice a l.length c), (2, .slice b es.length d)] Tryz.func60 rfl Tryz.ntmps60 rfl (Ac rfl (Ac rfl (Ac rfl (An _)))) (Fc (fact_any hF1) (Fc (fact_any hF2) Fn)) ?_
 refine Cs ?_
 refine Kh rfl (Oy rfl rfl) ?_
 intro b3
 refine Ka rfl (Ka rfl (Nt (Cq (Cs (Ka rfl (Nt (Cb ?_)))))))
 refine Lp (σ := Nat) [(1, _), (2, _), (3, _)] (fun gq => [(8, .int .i64 (gq : Int))]) (fun gq => gq ≤ l.length ∧ ∀ x ∈ l.take gq, okN x) (fun gq => l.length - gq) (0) (S3 rfl rfl rfl) (S1 rfl) (by (try dsimp only); exact ⟨Nat.zero_le _, by simp⟩) ?_
 rintro i hinv1; (try dsimp only at hinv1 ⊢)
 obtain ⟨hi, hok⟩ := hinv1
 refine Cq (Cs (Km rfl (Km rfl (Kq rfl (rd_len rfl rfl u31) (Kq rfl (rd_lss rfl rfl rfl) (Nt ?_))))))
 refine Cd rfl (fun hc17 => ?_) (fun hc17 => ?_)
 ·(try simp only [sB] at hc17)
  have hil : i < l.length := by omega
  refine Ck (Xa (Cq (Cb (Cs (Km rfl (Km rfl ?_))))))
  refine Kq rfl (Ib rfl rfl rfl u31 (by omega) (by (rw [List.length_map]; omega))) ?_
  refine Kq rfl (ldm rfl rfl u22 rfl (by assumption)) ?_
  refine Ku rfl (Oc rfl rfl (Kv fun w hS => rvalid_c (a := l.getD i default))) ?_
  refine Kq rfl (Rt rfl rfl) (Nt ?_)
  refine Cd rfl (fun hc25 => ?_) (fun hc25 => ?_)
  ·(try simp only [sB] at hc25)
   refine Cs (Ka rfl (Ka rfl (Nt (Ce (Xf (Xb (Xb (Xf (Xb ?_)))))))))
   exact R2 rfl rfl rfl (by rw [hnz 3 (by rw [chkP, if_pos (fun h => absurd (h _ (getD_mem _ _ hil)) (by simpa using hc25))]) (by decide)]; rfl)
  ·(try simp only [sB] at hc25)
   refine Ck (Xd (Xa (Cg (Km rfl (Kq rfl (Rz rfl rfl rfl (by omega)) (Ka rfl (Nn ?_)))))))
   refine Ly (i + 1) (by (try dsimp only); omega) (S3 rfl rfl rfl) (by refine (Sc ?_ (S0 _)) <;> (rfl)) ?_ (by (exact fun _ h => h))
   (try dsimp only)
   exact ⟨hil, all_take hil hok (by simpa using hc25)⟩
 ·(try simp only [sB] at hc17)
  refine Cx (Xc (Xc (Xe ?_)))
  obtain rfl : i = l.length := by omega
  rw [List.take_length] at hok
  refine Xa (Cq (Cs (Ka rfl (Nt (Cb ?_)))))
  refine Lp (σ := Nat) [(1, _), (2, _), (3, _)] (fun gq => [(9, .int .i64 (gq : Int))]) (fun gq => gq ≤ es.length ∧ ∀ x ∈ es.take gq, okZ x) (fun gq => es.length - gq) (0) (S3 rfl rfl rfl) (S1 rfl) (by (try dsimp only); exact ⟨Nat.zero_le _, by simp⟩) ?_
  rintro k hinv2; (try dsimp only at hinv2 ⊢)
  obtain ⟨hk, hokz⟩ := hinv2
  refine Cq (Cs (Km rfl (Km rfl (Kq rfl (rd_len rfl rfl u71) (Kq rfl (rd_lss rfl rfl rfl) (Nt ?_))))))
  refine Cd rfl (fun hc29 => ?_) (fun hc29 => ?_)
  ·(try simp only [sB] at hc29)
   have hkl : k < es.length := by omega
   refine Ck (Xa (Cq (Cb (Cs (Km rfl (Km rfl ?_))))))
   refine Kq rfl (Ia rfl rfl rfl u71 (by kernel_rfl : _ = some 2) (by omega) (by (rw [flatMap_len _ _ 2 (fun _ => rfl)]; omega))) ?_
   refine Kq rfl (ldma _ rfl rfl u64 rfl (by kernel_rfl : _ = some 2) (fun _ => rfl) (by decide) rfl (by assumption)) ?_
   refine Ku rfl (Oc rfl rfl (Kv fun w hS => rzvalid_c (x := es.getD k default))) ?_
   refine Kq rfl (Rt rfl rfl) (Nt ?_)
   refine Cd rfl (fun hc37 => ?_) (fun hc37 => ?_)
   ·(try simp only [sB] at hc37)
    refine Cs (Ka rfl (Ka rfl (Nt (Ce (Xf (Xb (Xb (Xf (Xb ?_)))))))))
    exact R2 rfl rfl rfl (by rw [hnz 3 (by rw [chkP, if_neg (fun h => h hok), if_pos (fun h => absurd (h _ (getD_mem _ _ hkl)) (by simpa using hc37))]) (by decide)]; rfl)
   ·(try simp only [sB] at hc37)
    refine Ck (Xd (Xa (Cg (Km rfl (Kq rfl (Rz rfl rfl rfl (by omega)) (Ka rfl (Nn ?_)))))))
    refine Ly (k + 1) (by (try dsimp only); omega) (S3 rfl rfl rfl) (by refine (Sc ?_ (S0 _)) <;> (rfl)) ?_ (by (exact fun _ h => h))
    (try dsimp only)
    exact ⟨hkl, all_take hkl hokz (by simpa using hc37)⟩
  ·(try simp only [sB] at hc29)
   refine Cx (Xc (Xc (Xe ?_)))
   obtain rfl : k = es.length := by omega
   rw [List.take_length] at hokz
   refine Xa (Cq (Cs ?_))
   refine Kq rfl (lda rfl rfl .tc u24 rfl ?_) ?_
   ·kernel_rfl
   refine Ku rfl (Oc rfl rfl (Kv fun w hS => rgcheck_c (g := g))) ?_
   refine Ka rfl (Nt (Cs (Km rfl (Kq rfl (rd_neq rfl rfl rfl) (Nt ?_)))))
   refine Cd rfl (fun hc41 => ?_) (fun hc41 => ?_)
   ·(try simp only [sB] at hc41)
    have hgn : chkG g ≠ 0 := by simpa using hc41
    refine Cs (Km rfl (Ka rfl (Ka rfl (Nt (Ce (Xb ?_))))))
    exact R2 rfl rfl rfl (by rw [hnz (chkG g) (by rw [chkP, if_neg (fun h => h hok), if_neg (fun h => h hokz), if_pos hgn]) hgn]; rfl)
   ·(try simp only [sB] at hc41)
    have hg : chkG g = 0 := by simpa using hc41
    obtain ⟨hm, hq, hm2, _⟩ := chkG_ok hg
    have hm0 : g.1 ≠ [] := fun h => by rw [h] at hm2; exact absurd hm2 (by decide)
    have hp := vpos hm hm0
    have hm64 := val_8 hm8
    refine Ck (Xa (Cq (Cs (Km rfl (Kq rfl (rd_len rfl rfl u31) (Km rfl (Kq rfl (rd_len rfl rfl u71) (Kq rfl (rd_neq rfl rfl rfl) ?_))))))))
    refine Ns 47 rfl (v' := .bool (decide (l.length ≠ es.length))) (congrArg Value.bool (by simp; omega)) ?_
    refine Nt ?_
    refine Cd rfl (fun hc47 => ?_) (fun hc47 => ?_)
    ·(try simp only [sB] at hc47)
     refine Cs (Ka rfl (Ka rfl (Nt (Ce (Xb ?_)))))
     exact R2 rfl rfl rfl (by rw [hnz 6 (by rw [chkP, if_neg (fun h => h hok), if_neg (fun h => h hokz), if_neg (fun h => h hg), if_pos (decide_eq_false hc47)]) (by decide)]; rfl)
    ·(try simp only [sB] at hc47)
     have hlen : l.length = es.length := by omega
     refine Ck (Xa (Cq (Cs (Ka rfl (Nt (Cb ?_))))))
     refine Lp (σ := Nat) [(1, _), (2, _), (3, _)] (fun gq => [(11, .int .i64 (gq : Int))]) (fun gq => gq ≤ l.length ∧ ∀ x ∈ l.take gq, elG g x) (fun gq => l.length - gq) (0) (S3 rfl rfl rfl) (S1 rfl) (by (try dsimp only); exact ⟨Nat.zero_le _, by simp⟩) ?_
     rintro i3 hinv3; (try dsimp only at hinv3 ⊢)
     obtain ⟨hi3, hel⟩ := hinv3
     refine Cq (Cs (Km rfl (Km rfl (Kq rfl (rd_len rfl rfl u31) (Kq rfl (rd_lss rfl rfl rfl) (Nt ?_))))))
     refine Cd rfl (fun hc51 => ?_) (fun hc51 => ?_)
     ·(try simp only [sB] at hc51)
      have hil3 : i3 < l.length := by omega
      refine Ck (Xa (Cq (Cb (Cq ?_))))
      refine Cf [0, 1, 2, 3, 4, 5, 6] [] [0, 0, 0, 0, 0, 1, 0] (by kernel_rfl) (by kernel_rfl) rfl ?_
      refine Kj rfl (lda rfl rfl .tc u24 rfl ?_) ?_
      ·kernel_rfl
      refine Kj rfl (Rm rfl rfl) (Kj rfl (Rm rfl rfl) ?_)
      refine Kj rfl (Ib rfl rfl rfl u31 (by omega) (by (rw [List.length_map]; omega))) ?_
      refine Kj rfl (ldm rfl rfl u22 rfl (by assumption)) ?_
      refine Jv rfl rfl rfl rfl rfl (fun ext => Oc rfl rfl (Kv fun w hS => rghas0_c (g := g) (x := l.getD i3 default) (by exact hg) (by exact hok _ (getD_mem _ _ hil3)) (by exact hm8))) ?_
      refine Kj rfl (Rt rfl rfl) ?_
      refine WJ.nil ?_
      refine Nt ?_
      refine Cd rfl (fun hc60 => ?_) (fun hc60 => ?_)
      ·(try simp only [sB] at hc60)
       refine Cs (Ka rfl (Ka rfl (Nt (Ce (Xf (Xb (Xb (Xf (Xb ?_)))))))))
       exact R2 rfl rfl rfl (by rw [hnz 13 (by rw [chkP, if_neg (fun h => h hok), if_neg (fun h => h hokz), if_neg (fun h => h hg), if_neg (by simp [hlen]), if_pos (fun h => absurd (h _ (getD_mem _ _ hil3)) (by simpa using hc60))]) (by decide)]; rfl)
      ·(try simp only [sB] at hc60)
       refine Ck (Xd (Xa (Cg (Km rfl (Kq rfl (Rz rfl rfl rfl (by omega)) (Ka rfl (Nn ?_)))))))
       refine Ly (i3 + 1) (by (try dsimp only); omega) (S3 rfl rfl rfl) (by refine (Sc ?_ (S0 _)) <;> (rfl)) ?_ (by (exact fun _ h => h))
       (try dsimp only)
       exact ⟨hil3, all_take hil3 hel (by simpa using hc60)⟩
     ·(try simp only [sB] at hc51)
      refine Cx (Xc (Xc (Xe ?_)))
      obtain rfl : i3 = l.length := by omega
      rw [List.take_length] at hel
      have h0 : chkP g l es (decide (l.length = es.length)) = 0 := by rw [chkP, if_neg (fun h => h hok), if_neg (fun h => h hokz), if_neg (fun h => h hg), if_neg (by simp [hlen]), if_neg (fun h => h hel)]
      obtain ⟨Z, hZ⟩ : ∃ Z, Z = l.zip es := ⟨_, rfl⟩
      have hZl : Z.length = l.length := by rw [hZ]; simp; omega
      have hr : prodS g l es = (canon (prodL (fun p => powI (val g.1) (val p.1) (zv p.2)) Z % val g.1), 0) := by rw [prodS, if_pos h0, hZ]
      have hmk : ∀ k, okN (canon (k % val g.1)) ∧ (canon (k % val g.1)).length ≤ 8 := fun k => lt_len (Nat.mod_lt _ hp) hm8
      refine Xa (Cs (Ka rfl ?_))
      refine Ns 12 rfl (v' := .string (S (canon (prodL (fun p => powI (val g.1) (val p.1) (zv p.2)) (Z.take 0) % val g.1)))) (congrArg (fun l => Value.string (S l)) (by rw [List.take_zero, prodL, Nat.mod_eq_of_lt (by omega), one_canon])) ?_
      refine Nt (Cq (Cs (Ka rfl (Nt (Cb ?_)))))
      refine Lp (σ := Nat) [(1, _), (2, _), (3, _)] (fun gq => [(12, .string (S (canon (prodL (fun p => powI (val g.1) (val p.1) (zv p.2)) (Z.take gq) % val g.1)))), (13, .int .i64 (gq : Int))]) (fun gq => gq ≤ l.length) (fun gq => l.length - gq) (0) (S3 rfl rfl rfl) (S2 rfl rfl) (by (try dsimp only); omega) ?_
      rintro i4 hinv4; (try dsimp only at hinv4 ⊢)
      obtain hi4 := hinv4
      refine Cq (Cs (Km rfl (Km rfl (Kq rfl (rd_len rfl rfl u31) (Kq rfl (rd_lss rfl rfl rfl) (Nt ?_))))))
      refine Cd rfl (fun hc64 => ?_) (fun hc64 => ?_)
      ·(try simp only [sB] at hc64)
       have hil4 : i4 < l.length := by omega
       have hx := hel _ (getD_mem l i4 hil4)
       have hz := hokz _ (getD_mem es i4 (by omega))
       have hpw := powM_ok hx.1 hz hm hm0 (elG_gcd hg hx)
       have hpl : powI (val g.1) (val (l.getD i4 default)) (zv (es.getD i4 default)) < val g.1 := Nat.mod_lt _ hp
       have hpk := lt_len hpl hm8
       have hsu := prodL_succ (fun p => powI (val g.1) (val p.1) (zv p.2)) Z i4 (by omega)
       rw [show Z.getD i4 default = (l.getD i4 default, es.getD i4 default) by rw [hZ]; exact getD_zip hil4 (by omega)] at hsu
       have hmm := mulM_ok (hmk (prodL (fun p => powI (val g.1) (val p.1) (zv p.2)) (Z.take i4))).1 hpk.1 hm hm0
       rw [val_canon, val_canon, mml, ← hsu] at hmm
       refine Ck (Xa (Cq (Cb ?_)))
       refine Cf [1, 2, 3, 4, 5, 6, 7, 8, 9, 10, 0, 11, 12, 13, 14, 15, 16, 17] [] [0, 0, 0, 0, 0, 0, 0, 0, 0, 0, 1, 0, 0, 1, 0, 0, 0, 0] (by kernel_rfl) (by kernel_rfl) rfl ?_
       refine Kj rfl (lda rfl rfl .tc u24 rfl ?_) ?_
       ·kernel_rfl
       refine Kj rfl (Rm rfl rfl) (Kj rfl (Rm rfl rfl) ?_)
       refine Kj rfl (Ib rfl rfl rfl u31 (by omega) (by (rw [List.length_map]; omega))) ?_
       refine Kj rfl (ldm rfl rfl u22 rfl (by assumption)) ?_
       refine Kj rfl (Rm rfl rfl) (Kj rfl (Rm rfl rfl) ?_)
       refine Kj rfl (Ia rfl rfl rfl u71 (by kernel_rfl : _ = some 2) (by omega) (by (rw [flatMap_len _ _ 2 (fun _ => rfl)]; omega))) ?_
       refine Kj rfl (ldma _ rfl rfl u64 rfl (by kernel_rfl : _ = some 2) (fun _ => rfl) (by decide) rfl (by omega)) ?_
       refine Jv rfl rfl rfl rfl rfl (fun ext => Oc rfl rfl (Kv fun w hS => (by have := rraw_c (w := w) (g := g) (x := l.getD i4 default) (z := es.getD i4 default) hm8; rw [hpw] at this; exact this))) ?_
       refine Kj rfl (Rm rfl rfl) (Kj rfl (Fa (q := 0) rfl rfl u24 rfl rfl) (Kj rfl (Ld rfl rfl .tc u22) ?_))
       refine Jv rfl rfl rfl rfl rfl (fun ext => Oc rfl rfl (Kv fun w hS => (by have := rmmul_c (w := w) (a := canon (prodL (fun p => powI (val g.1) (val p.1) (zv p.2)) (Z.take i4) % val g.1)) (b := canon (powI (val g.1) (val (l.getD i4 default)) (zv (es.getD i4 default)))) (m := g.1) hm8; rw [hmm] at this; exact this))) ?_
       refine Kj rfl (Rm rfl rfl) (Kj rfl (Re rfl rfl rfl) (Kj rfl (Re rfl rfl rfl) (Kj rfl (Ra rfl rfl) ?_)))
       refine WJ.nil ?_
       refine Nn (Xd (Xa (Cg (Km rfl (Kq rfl (Rz rfl rfl rfl (by omega)) (Ka rfl (Nn ?_)))))))
       refine Ly (i4 + 1) (by (try dsimp only); omega) (S3 rfl rfl rfl) (by refine (Sc ?_ (Sc ?_ (S0 _))) <;> (rfl)) ?_ (by (exact fun _ h => h))
       (try dsimp only)
       omega
      ·(try simp only [sB] at hc64)
       refine Cx (Xc (Xc (Xe ?_)))
       obtain rfl : i4 = l.length := by omega
       rw [List.take_of_length_le (Nat.le_of_eq hZl)]
       refine Xa (Cs (Km rfl (Ka rfl (Ka rfl (Nt (Ce ?_))))))
       exact R2 rfl rfl rfl (by rw [hr]; rfl)
end Go.Proofs.YtmkghgoibnncbaaGreatDoor
