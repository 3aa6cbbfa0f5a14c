/-
  Parts of the walk: Coi5 Coi6 Cbl Nrm Nmk Fpa Eqt Lsm.
-/
import Derived.Test.YthkmpjobfdeoaaaGreatDoorJ20
namespace Go.Proofs.YthkmpjobfdeoaaaGreatDoor
open Go.RowKit
set_option linter.unusedSimpArgs false
set_option linter.unusedVariables false
set_option maxHeartbeats 600000
set_option maxRecDepth 20000
def zeroT : Tp := ⟨[], [], 0⟩
def findA (t : Tp) (n : Bs) : Nat → Nat → Option Bs
 | 0, _ => none
 | f + 1, a => if cmpN (attS t.seed t.at_.toNat a (bitsN n)) n < 0 then some (attS t.seed t.at_.toNat a (bitsN n)) else findA t n f (a + 1)
def drawS (t : Tp) (n : Bs) : Bs × Tp × Int :=
 if t.at_ < t.vals.length then (if 0 ≤ cmpN (t.vals.getD t.at_.toNat default) n then ([], zeroT, 2) else (t.vals.getD t.at_.toNat default, ⟨t.vals, t.seed, t.at_ + 1⟩, 0))
 else if t.seed = [] ∨ t.at_ = 2147483647 then ([], zeroT, 14)
 else match findA t n 256 0 with
  | some x => (x, ⟨t.vals, t.seed, t.at_ + 1⟩, 0)
  | none => ([], zeroT, 14)
theorem draw0 {r : Bs × Tp × Int} {n : Int} {ok : Nat → Prop} {w0 w : World} {own : List Ent} {fs : List Fact} {T : TypeId} (hr : r = ([], zeroT, n)) (hS : St ok w0 own fs w) :
  ∃ g : Rs, Ending.returned (tup [.string (S []), .agg #[.slice none 0 0, .string (S []), .int .i64 0], .int .i64 n]) = Ending.returned (.tuple #[.string (S r.1), r.2.1.v (g.val r.2.1.vals.length), .int .i64 r.2.2]) ∧ g.cap = r.2.1.vals.length + g.sp.length ∧ St ok w0 [g.ent (strs r.2.1.vals) T] [] w := by
 subst hr
 exact ⟨⟨none, 0, []⟩, rfl, rfl, (hS.nil T).sub (List.singleton_sublist.2 (by simp [Rs.ent, zeroT])) (fun _ h => by cases h)⟩
theorem drawN {r : Bs × Tp × Int} {t : Tp} {x : Bs} {q : Rs} {ok : Nat → Prop} {w0 w : World} {own : List Ent} {fs : List Fact} {T : TypeId} (hr : r = (x, ⟨t.vals, t.seed, t.at_ + 1⟩, 0)) (hq : q.cap = t.vals.length + q.sp.length) (hS : St ok w0 own fs w) (hm : q.ent (strs t.vals) T ∈ own) :
  ∃ g : Rs, Ending.returned (tup [.string (S x), .agg #[q.val t.vals.length, .string (S t.seed), .int .i64 (t.at_ + 1)], .int .i64 0]) = Ending.returned (.tuple #[.string (S r.1), r.2.1.v (g.val r.2.1.vals.length), .int .i64 r.2.2]) ∧ g.cap = r.2.1.vals.length + g.sp.length ∧ St ok w0 [g.ent (strs r.2.1.vals) T] [] w := by
 subst hr
 exact ⟨q, rfl, hq, hS.sub (List.singleton_sublist.2 hm) (fun _ h => by cases h)⟩
theorem findA_hit {t : Tp} {n : Bs} {a : Nat} (h : a < 256) (hc : cmpN (attS t.seed t.at_.toNat a (bitsN n)) n < 0) : findA t n (256 - a) a = some (attS t.seed t.at_.toNat a (bitsN n)) := by
 rw [show 256 - a = (255 - a) + 1 by omega, findA, if_pos hc]
theorem findA_miss {t : Tp} {n : Bs} {a : Nat} (h : a < 256) (hc : ¬ cmpN (attS t.seed t.at_.toNat a (bitsN n)) n < 0) : findA t n (256 - a) a = findA t n (256 - (a + 1)) (a + 1) := by
 rw [show 256 - a = (256 - (a + 1)) + 1 by omega, findA, if_neg hc]
theorem rdraw_c {t : Tp} {n : Bs} {a : Option Addr} {cap : Nat} {w : World} {ok : Nat → Prop} (hF1 : (Fact.sl a (strs t.vals)).holds ok w) (hl : t.vals.length ≤ 100000) (hg : goodT t) (hn : okN n) (hn0 : n ≠ []) (hsd : t.seed.length ≤ 400000) :
  Calls Tryz.prog 110 #[t.v (.slice a t.vals.length cap), .string (S n)] w fun e w' => ∃ g : Rs, e = .returned (.tuple #[.string (S (drawS t n).1), (drawS t n).2.1.v (g.val (drawS t n).2.1.vals.length), .int .i64 (drawS t n).2.2]) ∧ g.cap = (drawS t n).2.1.vals.length + g.sp.length ∧ St (fun _ => True) w [g.ent (strs (drawS t n).2.1.vals) 22] [] w' := by
 have hg1 := hg.1; have hg2 := hg.2.1
 have hbp := bitsN_pos hn hn0
 have hbl := bitsN_le hn.1
 obtain ⟨p, hp⟩ : ∃ p : Nat, t.at_ = (p : Int) := ⟨t.at_.toNat, by omega⟩
 refine En [Fact.sl a (strs t.vals)] [(0, t.v (.slice a t.vals.length cap)), (1, .string (S n))] Tryz.func110 rfl Tryz.ntmps110 rfl (Ac rfl (Ac rfl (An _))) (Fc (fact_any hF1) Fn) ?_
 refine Cs ?_
 refine Kh rfl (Oy rfl rfl) ?_
 intro b2
 refine Ka rfl ?_
 refine Kh rfl (Oz [.slice none 0 0, .string (S []), .int .i64 0] rfl) ?_
 intro b5
 refine Ka rfl (Nt (Cs (Kq rfl (Fa (q := 1) rfl rfl u66 rfl rfl) (Kq rfl (Ld rfl rfl .tc u9) ?_))))
 refine Kq rfl (Fa (q := 2) rfl rfl u66 rfl rfl) (Kq rfl (Ld rfl rfl .tc u3) ?_)
 refine Kq rfl (rd_add64 rfl rfl rfl (by omega)) (Kq rfl (Kb [[.slice none 0 0], [.string (S [])], [.int .i64 0]] rfl rfl) ?_)
 refine Kh rfl (Oz [.slice none 0 0, .string (S []), .int .i64 0] rfl) ?_
 intro b7
 refine Nu rfl rfl (Sa rfl rfl rfl .tc) ?_
 refine Nt (Cs (Kq rfl (Fa (q := 0) rfl rfl u66 rfl rfl) (Kq rfl (Ld rfl rfl .tc u31) ?_)))
 refine Kq rfl (Fa (q := 0) rfl rfl u66 rfl rfl) (Kq rfl (Ld rfl rfl .tc u31) ?_)
 (refine WL.st (fun w h => h.nil 22) ?_; refine Kh rfl (appg (ob := none) (xs := []) (sp := []) rfl u31 (by kernel_rfl : _ = some (some (.string (S [])), 1, 16)) rfl .tc rfl rfl (fun w hS => by (exact hS.sl)) (by simp) ?_ ?_) ?_; (focus ((refine ⟨?_, ?_, ?_, ?_⟩ <;> (try simp) <;> omega))); (focus ((simp [Value.oneCell']; done))))
 rintro ⟨o20, c20, s20⟩
 refine WL.pu ?_
 intro hg20; (try dsimp only at hg20 ⊢)
 refine Ns 20 rfl (v' := .slice (o20.map fun b => ⟨b, 0, none⟩) t.vals.length c20) (by rw [Nat.zero_add]) ?_
 simp only [List.nil_append]
 have hq : (⟨o20, c20, s20⟩ : Rs).cap = t.vals.length + (⟨o20, c20, s20⟩ : Rs).sp.length := by show c20 = t.vals.length + s20.length; omega
 refine Kq rfl (Fa (q := 0) rfl rfl u66 rfl rfl) ?_
 refine Ng rfl rfl (st rfl rfl rfl .tc (by kernel_rfl) rfl ?_ (by (simp only [List.set_cons_zero, List.set_cons_succ]; rfl))) ?_
 ·(simp; done)
 intro _
 refine Nt (Cq (Cs (Kq rfl (Fa (q := 2) rfl rfl u66 rfl rfl) (Kq rfl (Ld rfl rfl .tc u3) ?_))))
 refine Kq rfl (Fa (q := 0) rfl rfl u66 rfl rfl) (Kq rfl (Ld rfl rfl .tc u31) ?_)
 refine Kq rfl (rd_len rfl rfl u31) (Kq rfl (rd_lss rfl rfl rfl) (Nt ?_))
 refine Cd rfl (fun hc27 => ?_) (fun hc27 => ?_)
 ·(try simp only [sB] at hc27)
  have h27 : t.at_ < t.vals.length := hc27
  refine Cq (Cs (Kq rfl (Fa (q := 0) rfl rfl u66 rfl rfl) (Kq rfl (Ld rfl rfl .tc u31) ?_)))
  refine Kq rfl (Fa (q := 2) rfl rfl u66 rfl rfl) (Kq rfl (Ld rfl rfl .tc u3) ?_)
  refine Kq rfl (Ib rfl rfl rfl u31 (by omega) (by (rw [List.length_map]; omega))) ?_
  refine Kq rfl (ldm rfl rfl u22 rfl (by omega)) ?_
  refine Km rfl ?_
  refine Ku rfl (Oc rfl rfl (Kv fun w hS => rCmp_c (a := t.vals.getD t.at_.toNat default) (b := n))) ?_
  refine Kq rfl (rd_geq rfl rfl rfl) (Nt ?_)
  refine Cd rfl (fun hc36 => ?_) (fun hc36 => ?_)
  ·(try simp only [sB] at hc36)
   refine Cs (Kq rfl (Kb [[.slice none 0 0], [.string (S [])], [.int .i64 0]] rfl rfl) (Ka rfl ?_))
   refine Nu rfl rfl (Sa rfl rfl rfl .tc) ?_
   refine Ka rfl (Nt (Ce (Xb (Xb ?_))))
   exact Rn rfl (.tmp rfl (.agg rfl .tc u66 rfl (by kernel_rfl) (.tmp rfl .nil))) fun w' hS => draw0 (by rw [drawS, if_pos h27, if_pos hc36]) hS
  ·(try simp only [sB] at hc36)
   refine Ck (Xa (Cq ?_))
   refine Cf [0, 1, 2, 3, 4, 5, 6, 7] [8, 9] [0, 0, 0, 0, 0, 0, 0, 0, 2, 2] (by kernel_rfl) (by kernel_rfl) rfl ?_
   refine Kj rfl (Fa (q := 0) rfl rfl u66 rfl rfl) (Kj rfl (Ld rfl rfl .tc u31) ?_)
   refine Kj rfl (Fa (q := 2) rfl rfl u66 rfl rfl) (Kj rfl (Ld rfl rfl .tc u3) ?_)
   refine Kj rfl (Ib rfl rfl rfl u31 (by omega) (by (rw [List.length_map]; omega))) ?_
   refine Kj rfl (ldm rfl rfl u22 rfl (by omega)) ?_
   refine Kj rfl (lda rfl rfl .tc u66 rfl ?_) ?_
   ·kernel_rfl
   refine Kj rfl (Ra rfl rfl) ?_
   refine WJ.nil ?_
   refine Nu rfl rfl (Sa rfl rfl rfl .tc) ?_
   refine Ka rfl (Nt (Ce (Xb ?_)))
   exact Rn rfl (.tmp rfl (.agg rfl .tc u66 rfl (by kernel_rfl) (.tmp rfl .nil))) fun w' hS => drawN (q := ⟨o20, c20, s20⟩) (by rw [drawS, if_pos h27, if_neg (by omega)]) hq hS (by simp [Rs.ent])
 ·(try simp only [sB] at hc27)
  have h27 : ¬ t.at_ < t.vals.length := by omega
  refine Ck (Xa (Cq (Cs (Kq rfl (Fa (q := 1) rfl rfl u66 rfl rfl) (Kq rfl (Ld rfl rfl .tc u9) ?_)))))
  refine Kq rfl (rd_seq rfl rfl rfl) (Km rfl ?_)
  refine Nb 48 rfl (fun hg48 => ?_) (fun hg48 => ?_)
  ·(try simp only [sB] at hg48)
   refine Kt rfl (Kt rfl (Kt rfl (Kq rfl (Rp rfl rfl rfl) (Nt ?_))))
   refine Cd rfl (fun _ => ?_) (fun h => by cases h)
   refine Cs (Kq rfl (Kb [[.slice none 0 0], [.string (S [])], [.int .i64 0]] rfl rfl) (Ka rfl ?_))
   refine Nu rfl rfl (Sa rfl rfl rfl .tc) ?_
   refine Ka rfl (Nt (Ce (Xb ?_)))
   exact Rn rfl (.tmp rfl (.agg rfl .tc u66 rfl (by kernel_rfl) (.tmp rfl .nil))) fun w' hS => draw0 (by rw [drawS, if_neg h27, if_pos (by simp_all)]) hS
  ·(try simp only [sB] at hg48)
   refine Kq rfl (Fa (q := 2) rfl rfl u66 rfl rfl) (Kq rfl (Ld rfl rfl .tc u3) ?_)
   refine Kq rfl (rd_eql rfl rfl rfl) (Kq rfl (Rq rfl rfl rfl) (Nt ?_))
   refine Cd rfl (fun hc52 => ?_) (fun hc52 => ?_)
   ·(try simp only [sB] at hc52)
    refine Cs (Kq rfl (Kb [[.slice none 0 0], [.string (S [])], [.int .i64 0]] rfl rfl) (Ka rfl ?_))
    refine Nu rfl rfl (Sa rfl rfl rfl .tc) ?_
    refine Ka rfl (Nt (Ce (Xb ?_)))
    exact Rn rfl (.tmp rfl (.agg rfl .tc u66 rfl (by kernel_rfl) (.tmp rfl .nil))) fun w' hS => draw0 (by rw [drawS, if_neg h27, if_pos (by simp_all)]) hS
   ·(try simp only [sB] at hc52)
    have h52 : ¬ (t.seed = [] ∨ t.at_ = 2147483647) := by simp_all
    refine Ck (Xa (Cq (Cs (Ka rfl (Nt (Cb ?_))))))
    refine Lp (σ := Nat) [(1, _), (2, _), (5, _), (7, _)] (fun gq => [(8, .int .i64 (gq : Int))]) (fun gq => gq ≤ 256 ∧ findA t n (256 - gq) gq = findA t n 256 0) (fun gq => 256 - gq) (0) (S4 rfl rfl rfl rfl) (S1 rfl) (by (try dsimp only); exact ⟨by omega, rfl⟩) ?_
    rintro k hinv1; (try dsimp only at hinv1 ⊢)
    obtain ⟨hk, hfi⟩ := hinv1
    refine Cq (Cs (Km rfl (Kq rfl (rd_lss rfl rfl rfl) (Nt ?_))))
    refine Cd rfl (fun hc55 => ?_) (fun hc55 => ?_)
    ·(try simp only [sB] at hc55)
     refine Ck (Xa (Cq (Cb (Cq ?_))))
     refine Cf [5, 6, 0, 1, 2, 3, 4, 7, 8] [] [0, 0, 0, 0, 0, 0, 1, 1, 0] (by kernel_rfl) (by kernel_rfl) rfl ?_
     refine Kj rfl (Rm rfl rfl) ?_
     refine Jv rfl rfl rfl rfl rfl (fun ext => Oc rfl rfl (Kv fun w hS => rbits_c (a := n))) ?_
     refine WJ.set 64 rfl (v' := .int .i64 ((bitsN n : Nat) : Int)) (congrArg (Value.int .i64) (by rw [if_pos hn])) ?_
     refine Kj rfl (Fa (q := 1) rfl rfl u66 rfl rfl) (Kj rfl (Ld rfl rfl .tc u9) ?_)
     refine Kj rfl (Fa (q := 2) rfl rfl u66 rfl rfl) (Kj rfl (Ld rfl rfl .tc u3) ?_)
     refine WJ.set 61 rfl (v' := .int .i64 (((t.at_.toNat : Nat) : Int))) (congrArg (Value.int .i64) (by omega)) ?_
     refine Kj rfl (Rm rfl rfl) ?_
     refine Jv rfl rfl rfl rfl rfl (fun ext => Oc rfl rfl (Kv fun w hS => rattempt_c (sd := t.seed) (at_ := t.at_.toNat) (a := k) (nb := bitsN n) (by assumption) (by omega) (by omega) (by assumption) (by omega))) ?_
     refine Kj rfl (Ra rfl rfl) ?_
     refine WJ.nil ?_
     refine Nt (Cs (Km rfl (Km rfl ?_)))
     refine Ku rfl (Oc rfl rfl (Kv fun w hS => rCmp_c (a := attS t.seed t.at_.toNat k (bitsN n)) (b := n))) ?_
     refine Kq rfl (rd_lss rfl rfl rfl) (Nt ?_)
     refine Cd rfl (fun hc69 => ?_) (fun hc69 => ?_)
     ·(try simp only [sB] at hc69)
      refine Cq ?_
      refine Cf [0, 1, 2] [3, 4] [0, 0, 0, 2, 2] (by kernel_rfl) (by kernel_rfl) rfl ?_
      refine Kj rfl (Rm rfl rfl) ?_
      refine Kj rfl (lda rfl rfl .tc u66 rfl ?_) ?_
      ·kernel_rfl
      refine Kj rfl (Ra rfl rfl) ?_
      refine WJ.nil ?_
      refine Nu rfl rfl (Sa rfl rfl rfl .tc) ?_
      refine Ka rfl (Nt (Ce (Xf (Xb (Xb (Xf (Xb ?_)))))))
      exact Rn rfl (.tmp rfl (.agg rfl .tc u66 rfl (by kernel_rfl) (.tmp rfl .nil))) fun w' hS => drawN (q := ⟨o20, c20, s20⟩) (by rw [drawS, if_neg h27, if_neg h52, ← hfi, findA_hit (by omega) hc69]) hq hS (by simp [Rs.ent])
     ·(try simp only [sB] at hc69)
      refine Ck (Xd (Xa (Cg (Km rfl (Kq rfl (Rz rfl rfl rfl (by omega)) (Ka rfl (Nn ?_)))))))
      refine Ly (k + 1) (by (try dsimp only); omega) (S4 rfl rfl rfl rfl) (by refine (Sc ?_ (S0 _)) <;> (rfl)) ?_ (by (exact fun _ h => h))
      (try dsimp only)
      exact ⟨by omega, by rw [← findA_miss (by omega) (by omega)]; exact hfi⟩
    ·(try simp only [sB] at hc55)
     refine Cx (Xc (Xc (Xe ?_)))
     obtain rfl : k = 256 := by omega
     refine Xa (Cs (Kq rfl (Kb [[.slice none 0 0], [.string (S [])], [.int .i64 0]] rfl rfl) (Ka rfl ?_)))
     refine Nu rfl rfl (Sa rfl rfl rfl .tc) ?_
     refine Ka rfl (Nt (Ce ?_))
     exact Rn rfl (.tmp rfl (.agg rfl .tc u66 rfl (by kernel_rfl) (.tmp rfl .nil))) fun w' hS => draw0 (by rw [drawS, if_neg h27, if_neg h52, ← hfi]; rfl) hS
theorem draw_c {t : Tp} {n : Bs} {a : Option Addr} {cap : Nat} {w : World} {ok : Nat → Prop} (hF1 : (Fact.sl a (strs t.vals)).holds ok w) (hl : t.vals.length ≤ 100000) (hg : goodT t) (hn : okN n) (hn0 : n ≠ []) (hsd : t.seed.length ≤ 400000) (hT : Tab w) :
  Calls Tryz.prog 109 #[t.v (.slice a t.vals.length cap), .string (S n)] w fun e w' => ∃ g : Rs, e = .returned (.tuple #[.string (S (drawS t n).1), (drawS t n).2.1.v (g.val (drawS t n).2.1.vals.length), .int .i64 (drawS t n).2.2]) ∧ g.cap = (drawS t n).2.1.vals.length + g.sp.length ∧ St (fun _ => True) w [g.ent (strs (drawS t n).2.1.vals) 22] [] w' := by
 have hg1 := hg.1; have hg2 := hg.2.1
 have hbp := bitsN_pos hn hn0
 have hbl := bitsN_le hn.1
 have hq : (⟨some 0, t.vals.length, []⟩ : Rs).cap = t.vals.length + (⟨some 0, t.vals.length, []⟩ : Rs).sp.length := rfl
 refine En [Fact.sl a (strs t.vals)] [(0, t.v (.slice a t.vals.length cap)), (1, .string (S n))] Tryz.func109 rfl Tryz.ntmps109 rfl (Ac rfl (Ac rfl (An _))) (Fc (fact_any hF1) Fn) ?_
 refine Cs ?_
 refine Kh rfl (Oy rfl rfl) ?_
 intro b2
 refine Ka rfl ?_
 refine Kh rfl (Oz [.slice none 0 0, .string (S []), .int .i64 0] rfl) ?_
 intro b5
 refine Ka rfl (Nt (Cq ?_))
 refine WC.joinP (σ := Unit) [(1, _), (2, _), (5, _)] (fun gq => [(26, .bool (decide (t.at_ < t.vals.length ∧ 0 ≤ cmpN (t.vals.getD t.at_.toNat default) n)))]) (fun gq => True) (S3 rfl rfl rfl) ?_ ?_
 ·skip
  refine Cg (Kq rfl (Fa (q := 2) rfl rfl u66 rfl rfl) (Kq rfl (Ld rfl rfl .tc u3) ?_))
  refine Kq rfl (Fa (q := 0) rfl rfl u66 rfl rfl) (Kq rfl (Ld rfl rfl .tc u31) ?_)
  refine Kq rfl (rd_len rfl rfl u31) (Kq rfl (rd_lss rfl rfl rfl) (Km rfl ?_))
  refine Nb 16 rfl (fun hg16 => ?_) (fun hg16 => ?_)
  ·(try simp only [sB] at hg16)
   refine Kq rfl (Fa (q := 0) rfl rfl u66 rfl rfl) (Kq rfl (Ld rfl rfl .tc u31) ?_)
   refine Kq rfl (Fa (q := 2) rfl rfl u66 rfl rfl) (Kq rfl (Ld rfl rfl .tc u3) ?_)
   refine Kq rfl (Ib rfl rfl rfl u31 (by omega) (by (rw [List.length_map]; omega))) ?_
   refine Kq rfl (ldm rfl rfl u22 rfl (by omega)) ?_
   refine Km rfl ?_
   refine Ku rfl (Oc rfl rfl (Kv fun w hS => Cmp_c (a := t.vals.getD t.at_.toNat default) (b := n))) ?_
   refine Kq rfl (rd_geq rfl rfl rfl) (Kq rfl (Rp rfl rfl rfl) (Nn ?_))
   refine WX.joinP (()) (S3 rfl rfl rfl) (by refine (Sc ?_ (S0 _)) <;> ((refine slot_b rfl ?_; (try dsimp only); (exact decide_eq_decide.2 (by omega))))) ?_ (by (exact fun _ h => h))
   (try dsimp only)
   done
  ·(try simp only [sB] at hg16)
   refine Kt rfl (Kt rfl (Kt rfl (Kt rfl (Kt rfl (Kt rfl (Kt rfl (Kt rfl (Kt rfl (Kq rfl (Rq rfl rfl rfl) (Nn ?_))))))))))
   refine WX.joinP (()) (S3 rfl rfl rfl) (by refine (Sc ?_ (S0 _)) <;> ((exact congrArg (fun b => some (Value.bool b)) (by symm; apply decide_eq_false; omega)))) ?_ (by (exact fun _ h => h))
   (try dsimp only)
   done
 ·rintro _ hmeet; (try dsimp only at hmeet ⊢)
  refine Cd rfl (fun hc26 => ?_) (fun hc26 => ?_)
  ·(try simp only [sB] at hc26)
   refine Cs (Kq rfl (Kb [[.slice none 0 0], [.string (S [])], [.int .i64 0]] rfl rfl) (Ka rfl ?_))
   refine Nu rfl rfl (Sa rfl rfl rfl .tc) ?_
   refine Ka rfl (Nt (Ce (Xb ?_)))
   exact Rn rfl (.tmp rfl (.agg rfl .tc u66 rfl (by kernel_rfl) (.tmp rfl .nil))) fun w' hS => draw0 (by rw [drawS, if_pos hc26.1, if_pos hc26.2]) hS
  ·(try simp only [sB] at hc26)
   refine Ck (Xa (Cq ?_))
   refine WC.joinP (σ := Unit) [(1, _), (2, _), (5, _)] (fun gq => [(43, .bool (decide (((t.vals.length : Int) ≤ t.at_ ∧ t.seed = []) ∨ t.at_ = 2147483647)))]) (fun gq => True) (S3 rfl rfl rfl) ?_ ?_
   ·skip
    refine Cg (Kq rfl (Fa (q := 2) rfl rfl u66 rfl rfl) (Kq rfl (Ld rfl rfl .tc u3) ?_))
    refine Kq rfl (Fa (q := 0) rfl rfl u66 rfl rfl) (Kq rfl (Ld rfl rfl .tc u31) ?_)
    refine Kq rfl (rd_len rfl rfl u31) (Kq rfl (rd_geq rfl rfl rfl) (Km rfl ?_))
    refine Nb 34 rfl (fun hg34 => ?_) (fun hg34 => ?_)
    ·(try simp only [sB] at hg34)
     refine Kq rfl (Fa (q := 1) rfl rfl u66 rfl rfl) (Kq rfl (Ld rfl rfl .tc u9) ?_)
     refine Kq rfl (rd_seq rfl rfl rfl) (Kq rfl (Rp rfl rfl rfl) (Km rfl ?_))
     refine Nb 39 rfl (fun hg39 => ?_) (fun hg39 => ?_)
     ·(try simp only [sB] at hg39)
      refine Kt rfl (Kt rfl (Kt rfl (Kq rfl (Rp rfl rfl rfl) (Nn ?_))))
      refine WX.joinP (()) (S3 rfl rfl rfl) (by refine (Sc ?_ (S0 _)) <;> ((refine slot_b rfl ?_; (try dsimp only); (simp [*]; done)))) ?_ (by (exact fun _ h => h))
      (try dsimp only)
      done
     ·(try simp only [sB] at hg39)
      refine Kq rfl (Fa (q := 2) rfl rfl u66 rfl rfl) (Kq rfl (Ld rfl rfl .tc u3) ?_)
      refine Kq rfl (rd_eql rfl rfl rfl) (Kq rfl (Rq rfl rfl rfl) (Nn ?_))
      refine WX.joinP (()) (S3 rfl rfl rfl) (by refine (Sc ?_ (S0 _)) <;> ((refine slot_b rfl ?_; (try dsimp only); (simp [*]; done)))) ?_ (by (exact fun _ h => h))
      (try dsimp only)
      done
    ·(try simp only [sB] at hg34)
     refine Kt rfl (Kt rfl (Kt rfl (Kq rfl (Rq rfl rfl rfl) (Km rfl (Kq rfl (Fa (q := 2) rfl rfl u66 rfl rfl) (Kq rfl (Ld rfl rfl .tc u3) ?_))))))
     refine Kq rfl (rd_eql rfl rfl rfl) (Kq rfl (Rq rfl rfl rfl) (Nn ?_))
     refine WX.joinP (()) (S3 rfl rfl rfl) (by refine (Sc ?_ (S0 _)) <;> ((refine slot_b rfl ?_; (try dsimp only); (exact decide_eq_decide.2 (by omega))))) ?_ (by (exact fun _ h => h))
     (try dsimp only)
     done
   ·rintro _ hmeet; (try dsimp only at hmeet ⊢)
    refine Cd rfl (fun hc43 => ?_) (fun hc43 => ?_)
    ·(try simp only [sB] at hc43)
     refine Cs (Kq rfl (Kb [[.slice none 0 0], [.string (S [])], [.int .i64 0]] rfl rfl) (Ka rfl ?_))
     refine Nu rfl rfl (Sa rfl rfl rfl .tc) ?_
     refine Ka rfl (Nt (Ce (Xb ?_)))
     exact Rn rfl (.tmp rfl (.agg rfl .tc u66 rfl (by kernel_rfl) (.tmp rfl .nil))) fun w' hS => draw0 (by rcases hc43 with h | h; rw [drawS, if_neg (by omega), if_pos (Or.inl h.2)]; rw [drawS, if_neg (by omega), if_pos (Or.inr h)]) hS
    ·(try simp only [sB] at hc43)
     refine Ck (Xa (Cq ?_))
     refine Cf [0, 1, 2, 3, 4, 5, 6, 7, 8, 9, 10] [11] [0, 0, 0, 3, 0, 0, 0, 0, 0, 0, 3, 2] (by kernel_rfl) (by kernel_rfl) rfl ?_
     refine Kj rfl (Fa (q := 0) rfl rfl u66 rfl rfl) (Kj rfl (Ld rfl rfl .tc u31) ?_)
     refine Kj rfl (rd_len rfl rfl u31) ?_
     refine Jf rfl rfl rfl rfl rfl (fr_mk rfl rfl rfl u31 (by kernel_rfl : _ = some (some (.string (S [])), 1, 16)) rfl ?_ (by (try simp only [sN, Int.reduceToNat, Nat.reduceAdd, Nat.reduceMul, Nat.reduceSub]); rfl) (by (try simp only [sN, Int.reduceToNat, Nat.reduceAdd, Nat.reduceMul, Nat.reduceSub]); rfl)) ?_
     ·omega
     intro b48
     refine Kj rfl (Fa (q := 1) rfl rfl u66 rfl rfl) (Kj rfl (Ld rfl rfl .tc u9) ?_)
     refine Kj rfl (Fa (q := 2) rfl rfl u66 rfl rfl) (Kj rfl (Ld rfl rfl .tc u3) ?_)
     refine Kj rfl (rd_add64 rfl rfl rfl (by omega)) (Kj rfl (Kb [[.slice none 0 0], [.string (S [])], [.int .i64 0]] rfl rfl) ?_)
     refine Jf rfl rfl rfl rfl rfl (fr_alloc rfl (v := (.agg #[.slice none 0 0, .string (S []), .int .i64 0])) (cs := [.slice none 0 0, .string (S []), .int .i64 0]) (by kernel_rfl) rfl) ?_
     intro b7
     refine WJ.nil ?_
     refine Nu rfl rfl (Sa rfl rfl rfl .tc) ?_
     refine Nt (Cs (Kq rfl (Fa (q := 0) rfl rfl u66 rfl rfl) (Kq rfl (Ld rfl rfl .tc u31) ?_)))
     refine Kq rfl (Fa (q := 0) rfl rfl u66 rfl rfl) (Kq rfl (Ld rfl rfl .tc u31) ?_)
     refine Kh rfl (cpyl rfl rfl rfl .tc u31 (by kernel_rfl) (m := t.vals.length) (by simp) (by simp) (fun w hS => hS.sl) (by intro u hu; obtain ⟨_, _, rfl⟩ := List.mem_map.1 hu; rfl) (by simp) (ys := strs t.vals) (by simp)) ?_
     intro _
     refine Nt (Cq (Cs (Kq rfl (Fa (q := 2) rfl rfl u66 rfl rfl) (Kq rfl (Ld rfl rfl .tc u3) ?_))))
     refine Kq rfl (Fa (q := 0) rfl rfl u66 rfl rfl) (Kq rfl (Ld rfl rfl .tc u31) ?_)
     refine Kq rfl (rd_len rfl rfl u31) (Kq rfl (rd_lss rfl rfl rfl) (Nt ?_))
     refine Cd rfl (fun hc65 => ?_) (fun hc65 => ?_)
     ·(try simp only [sB] at hc65)
      refine Cq ?_
      refine Cf [0, 1, 2, 3, 4, 5, 6, 7] [8, 9] [0, 0, 0, 0, 0, 0, 0, 0, 2, 2] (by kernel_rfl) (by kernel_rfl) rfl ?_
      refine Kj rfl (Fa (q := 0) rfl rfl u66 rfl rfl) (Kj rfl (Ld rfl rfl .tc u31) ?_)
      refine Kj rfl (Fa (q := 2) rfl rfl u66 rfl rfl) (Kj rfl (Ld rfl rfl .tc u3) ?_)
      refine Kj rfl (Ib rfl rfl rfl u31 (by omega) (by (rw [List.length_map]; omega))) ?_
      refine Kj rfl (ldm rfl rfl u22 rfl (by omega)) ?_
      refine Kj rfl (lda rfl rfl .tc u66 rfl ?_) ?_
      ·kernel_rfl
      refine Kj rfl (Ra rfl rfl) ?_
      refine WJ.nil ?_
      refine Nu rfl rfl (Sa rfl rfl rfl .tc) ?_
      refine Ka rfl (Nt (Ce (Xb ?_)))
      exact Rn rfl (.tmp rfl (.agg rfl .tc u66 rfl (by kernel_rfl) (.tmp rfl .nil))) fun w' hS => drawN (q := ⟨some b48, t.vals.length, []⟩) (by rw [drawS, if_pos (by omega), if_neg (fun h => hc26 ⟨by omega, h⟩)]) rfl hS (by simp [Rs.ent])
     ·(try simp only [sB] at hc65)
      have h27 : ¬ t.at_ < t.vals.length := by omega
      have h52 : ¬ (t.seed = [] ∨ t.at_ = 2147483647) := fun h => hc43 (h.elim (fun h => Or.inl ⟨by omega, h⟩) Or.inr)
      refine Ck (Xa (Cq (Cs (Km rfl (Nt (Cb ?_))))))
      refine Lp (σ := Nat) [(1, _), (2, _), (5, _), (7, _)] (fun gq => [(73, .int .i64 (gq : Int))]) (fun gq => gq ≤ 256 ∧ findA t n (256 - gq) gq = findA t n 256 0) (fun gq => 256 - gq) (0) (S4 rfl rfl rfl rfl) (S1 rfl) (by (try dsimp only); exact ⟨by omega, rfl⟩) ?_
      rintro k hinv1; (try dsimp only at hinv1 ⊢)
      obtain ⟨hk, hfi⟩ := hinv1
      refine Cs (Kq rfl (rd_lss rfl rfl rfl) (Nt (Cq ?_)))
      refine Cd rfl (fun hc74 => ?_) (fun hc74 => ?_)
      ·(try simp only [sB] at hc74)
       refine Ck (Xa (Cq (Cb (Cs (Km rfl (Ka rfl (Nt (Cq ?_))))))))
       refine Cf [2, 3, 0, 1, 4, 5] [] [0, 0, 0, 1, 1, 0] (by kernel_rfl) (by kernel_rfl) rfl ?_
       refine Kj rfl (Rm rfl rfl) ?_
       refine Jv rfl rfl rfl rfl rfl (fun ext => Oc rfl rfl (Kv fun w hS => bits_c (a := n))) ?_
       refine WJ.set 79 rfl (v' := .int .i64 ((bitsN n : Nat) : Int)) (congrArg (Value.int .i64) (by rw [if_pos hn])) ?_
       refine Kj rfl (lda rfl rfl .tc u66 rfl ?_) ?_
       ·kernel_rfl
       refine WJ.set 76 rfl (v' := .agg #[.slice a t.vals.length cap, .string (S t.seed), .int .i64 ((t.at_.toNat : Nat) : Int)]) (by rw [Int.toNat_of_nonneg hg1]) ?_
       refine Kj rfl (Rm rfl rfl) ?_
       refine Jv rfl rfl rfl rfl rfl (fun ext => Oc rfl rfl (Kv fun w hS => attempt_c (sd := t.seed) (at_ := t.at_.toNat) (aa := k) (nb := bitsN n) (by assumption) (by omega) (by omega) (by assumption) (by omega) (by (exact tab_st hT hS)))) ?_
       refine Kj rfl (Ra rfl rfl) ?_
       refine WJ.nil ?_
       refine Nt (Cs (Km rfl (Km rfl ?_)))
       refine Ku rfl (Oc rfl rfl (Kv fun w hS => Cmp_c (a := attS t.seed t.at_.toNat k (bitsN n)) (b := n))) ?_
       refine Kq rfl (rd_lss rfl rfl rfl) (Nt ?_)
       refine Cd rfl (fun hc84 => ?_) (fun hc84 => ?_)
       ·(try simp only [sB] at hc84)
        refine Cq ?_
        refine Cf [0, 1, 2] [3, 4] [0, 0, 0, 2, 2] (by kernel_rfl) (by kernel_rfl) rfl ?_
        refine Kj rfl (Rm rfl rfl) ?_
        refine Kj rfl (lda rfl rfl .tc u66 rfl ?_) ?_
        ·kernel_rfl
        refine Kj rfl (Ra rfl rfl) ?_
        refine WJ.nil ?_
        refine Nu rfl rfl (Sa rfl rfl rfl .tc) ?_
        refine Ka rfl (Nt (Ce (Xf (Xb (Xb (Xf (Xb ?_)))))))
        exact Rn rfl (.tmp rfl (.agg rfl .tc u66 rfl (by kernel_rfl) (.tmp rfl .nil))) fun w' hS => drawN (q := ⟨some b48, t.vals.length, []⟩) (by rw [drawS, if_neg h27, if_neg h52, ← hfi, findA_hit (by omega) hc84]) rfl hS (by simp [Rs.ent])
       ·(try simp only [sB] at hc84)
        refine Ck (Xd (Xa (Cg (Kq rfl (Rz rfl rfl rfl (by omega)) (Km rfl (Nn ?_))))))
        refine Ly (k + 1) (by (try dsimp only); omega) (S4 rfl rfl rfl rfl) (by refine (Sc ?_ (S0 _)) <;> (rfl)) ?_ (by (exact fun _ h => h))
        (try dsimp only)
        exact ⟨by omega, by rw [← findA_miss (by omega) (by omega)]; exact hfi⟩
      ·(try simp only [sB] at hc74)
       refine Cx (Xc (Xc (Xe ?_)))
       obtain rfl : k = 256 := by omega
       refine Xa (Cs (Kq rfl (Kb [[.slice none 0 0], [.string (S [])], [.int .i64 0]] rfl rfl) (Ka rfl ?_)))
       refine Nu rfl rfl (Sa rfl rfl rfl .tc) ?_
       refine Ka rfl (Nt (Ce ?_))
       exact Rn rfl (.tmp rfl (.agg rfl .tc u66 rfl (by kernel_rfl) (.tmp rfl .nil))) fun w' hS => draw0 (by rw [drawS, if_neg h27, if_neg h52, ← hfi]; rfl) hS
def readyS (t : Tp) (n : Bs) : Int := if goodT t ∧ okN n then (if n = [] then 11 else 0) else 3
theorem tready_c {t : Tp} {n : Bs} {a : Option Addr} {cap : Nat} {w : World} {ok : Nat → Prop} (hF1 : (Fact.sl a (strs t.vals)).holds ok w) (hl : t.vals.length ≤ 100000) :
  Cw 108 #[t.v (.slice a t.vals.length cap), .string (S n)] w (.int .i64 (readyS t n)) := by
 refine En [Fact.sl a (strs t.vals)] [(0, t.v (.slice a t.vals.length cap)), (1, .string (S n))] Tryz.func108 rfl Tryz.ntmps108 rfl (Ac rfl (Ac rfl (An _))) (Fc (fact_any hF1) Fn) ?_
 refine Cs ?_
 refine Kh rfl (Oy rfl rfl) ?_
 intro b2
 refine Ka rfl (Nt (Cq (Cs ?_)))
 refine Kq rfl (lda rfl rfl .tc u66 rfl ?_) ?_
 ·kernel_rfl
 refine Ku rfl (Oc rfl rfl (Kv fun w hS => good_c (t := t) (by (exact hS.sl)) (by omega))) ?_
 refine Kq rfl (Rt rfl rfl) (Km rfl ?_)
 refine Nb 8 rfl (fun hg8 => ?_) (fun hg8 => ?_)
 ·(try simp only [sB] at hg8)
  refine Kt rfl (Kt rfl (Kt rfl (Kq rfl (Rp rfl rfl rfl) (Nt ?_))))
  refine Cd rfl (fun _ => ?_) (fun h => by cases h)
  refine Cs (Ka rfl (Nt (Ce (Xb ?_))))
  exact R1 rfl rfl (by rw [readyS, if_neg (by simp_all)]; rfl)
 ·(try simp only [sB] at hg8)
  refine Km rfl ?_
  refine Ku rfl (Oc rfl rfl (Kv fun w hS => valid_c)) ?_
  refine Kq rfl (Rt rfl rfl) (Kq rfl (Rq rfl rfl rfl) (Nt ?_))
  refine Cd rfl (fun hc12 => ?_) (fun hc12 => ?_)
  ·(try simp only [sB] at hc12)
   refine Cs (Ka rfl (Nt (Ce (Xb ?_))))
   exact R1 rfl rfl (by rw [readyS, if_neg (by simp_all)]; rfl)
  ·(try simp only [sB] at hc12)
   have hgn : goodT t ∧ okN n := by simp_all
   refine Ck (Xa (Cq (Cs (Km rfl (Kq rfl (rd_seq rfl rfl rfl) (Nt ?_))))))
   refine Cd rfl (fun hc14 => ?_) (fun hc14 => ?_)
   ·(try simp only [sB] at hc14)
    refine Cs (Ka rfl (Nt (Ce (Xb ?_))))
    exact R1 rfl rfl (by rw [readyS, if_pos hgn, if_pos (by simpa using hc14)]; rfl)
   ·(try simp only [sB] at hc14)
    refine Ck (Xa (Cs (Ka rfl (Nt (Ce ?_)))))
    exact R1 rfl rfl (by rw [readyS, if_pos hgn, if_neg (by simpa using hc14)]; rfl)
def belowS (t : Tp) (n : Bs) : Bs × Tp × Int := if readyS t n ≠ 0 then ([], zeroT, readyS t n) else drawS t n
theorem ready_ok {t : Tp} {n : Bs} (h : readyS t n = 0) : goodT t ∧ okN n ∧ n ≠ [] := by
 unfold readyS at h
 split at h
 ·rename_i h1
  split at h
  ·cases h
  ·rename_i h2; exact ⟨h1.1, h1.2, h2⟩
 ·cases h
theorem below_c {t : Tp} {n : Bs} {a : Option Addr} {cap : Nat} {w : World} {ok : Nat → Prop} (hF1 : (Fact.sl a (strs t.vals)).holds ok w) (hl : t.vals.length ≤ 100000) (hsd : t.seed.length ≤ 400000) (hT : Tab w) :
  Calls Tryz.prog 66 #[t.v (.slice a t.vals.length cap), .string (S n)] w fun e w' => ∃ g : Rs, e = .returned (.tuple #[.string (S (belowS t n).1), (belowS t n).2.1.v (g.val (belowS t n).2.1.vals.length), .int .i64 (belowS t n).2.2]) ∧ g.cap = (belowS t n).2.1.vals.length + g.sp.length ∧ St (fun _ => True) w [g.ent (strs (belowS t n).2.1.vals) 22] [] w' := by
 refine En [Fact.sl a (strs t.vals)] [(0, t.v (.slice a t.vals.length cap)), (1, .string (S n))] Tryz.func66 rfl Tryz.ntmps66 rfl (Ac rfl (Ac rfl (An _))) (Fc (fact_any hF1) Fn) ?_
 refine Cs ?_
 refine Kh rfl (Oy rfl rfl) ?_
 intro b2
 refine Ka rfl ?_
 refine Kh rfl (Oz [.slice none 0 0, .string (S []), .int .i64 0] rfl) ?_
 intro b5
 refine Ka rfl (Nt (Cq (Cs ?_)))
 refine Kq rfl (lda rfl rfl .tc u66 rfl ?_) ?_
 ·kernel_rfl
 refine Km rfl ?_
 refine Ku rfl (Oc rfl rfl (Kv fun w hS => tready_c (t := t) (n := n) (by (exact hS.sl)) (by assumption))) ?_
 refine Ka rfl (Nt (Cs (Km rfl (Kq rfl (rd_neq rfl rfl rfl) (Nt ?_)))))
 refine Cd rfl (fun hc12 => ?_) (fun hc12 => ?_)
 ·(try simp only [sB] at hc12)
  have hr : belowS t n = ([], zeroT, readyS t n) := by rw [belowS, if_pos (by simpa using hc12)]
  refine Cs (Kq rfl (Kb [[.slice none 0 0], [.string (S [])], [.int .i64 0]] rfl rfl) (Km rfl (Ka rfl ?_)))
  refine Nu rfl rfl (Sa rfl rfl rfl .tc) ?_
  refine Ka rfl (Nt (Ce (Xb ?_)))
  exact Rn rfl (.tmp rfl (.agg rfl .tc u66 rfl (by kernel_rfl) (.tmp rfl .nil))) fun w' hS => draw0 hr hS
 ·(try simp only [sB] at hc12)
  have hrd : readyS t n = 0 := by simpa using hc12
  have hr : belowS t n = drawS t n := by rw [belowS, if_neg (by simp [hrd])]
  obtain ⟨k1, k2, k3⟩ := ready_ok hrd
  refine Ck (Xa (Cs ?_))
  refine Kq rfl (lda rfl rfl .tc u66 rfl ?_) ?_
  ·kernel_rfl
  refine Km rfl ?_
  refine Kh rfl (Oc rfl rfl (keep_o1 fun w hS => draw_c (t := t) (n := n) (by (exact hS.sl)) (by assumption) (by assumption) (by assumption) (by assumption) (by assumption) (by (exact tab_st hT hS)))) ?_
  intro g17
  refine WL.pu ?_
  intro hg17; (try dsimp only at hg17 ⊢)
  refine Kq rfl (Re rfl rfl rfl) (Kq rfl (Re rfl rfl rfl) (Kq rfl (Re rfl rfl rfl) (Ka rfl ?_)))
  refine Nu rfl rfl (Sa rfl rfl rfl .tc) ?_
  refine Ka rfl (Nt (Ce ?_))
  exact Rn rfl (.tmp rfl (.agg rfl .tc u66 rfl (by kernel_rfl) (.tmp rfl .nil))) fun w' hS => ⟨g17, by rw [hr]; rfl, by rw [hr]; exact hg17, by rw [hr]; exact st_sub _ hS⟩
theorem rbelow_c {t : Tp} {n : Bs} {a : Option Addr} {cap : Nat} {w : World} {ok : Nat → Prop} (hF1 : (Fact.sl a (strs t.vals)).holds ok w) (hl : t.vals.length ≤ 100000) (hsd : t.seed.length ≤ 400000) :
  Calls Tryz.prog 69 #[t.v (.slice a t.vals.length cap), .string (S n)] w fun e w' => ∃ g : Rs, e = .returned (.tuple #[.string (S (belowS t n).1), (belowS t n).2.1.v (g.val (belowS t n).2.1.vals.length), .int .i64 (belowS t n).2.2]) ∧ g.cap = (belowS t n).2.1.vals.length + g.sp.length ∧ St (fun _ => True) w [g.ent (strs (belowS t n).2.1.vals) 22] [] w' := by
 refine En [Fact.sl a (strs t.vals)] [(0, t.v (.slice a t.vals.length cap)), (1, .string (S n))] Tryz.func69 rfl Tryz.ntmps69 rfl (Ac rfl (Ac rfl (An _))) (Fc (fact_any hF1) Fn) ?_
 refine Cs ?_
 refine Kh rfl (Oy rfl rfl) ?_
 intro b2
 refine Ka rfl ?_
 refine Kh rfl (Oz [.slice none 0 0, .string (S []), .int .i64 0] rfl) ?_
 intro b5
 refine Ka rfl (Nt (Cq (Cs ?_)))
 refine Kq rfl (lda rfl rfl .tc u66 rfl ?_) ?_
 ·kernel_rfl
 refine Ku rfl (Oc rfl rfl (Kv fun w hS => rtgood_c (t := t) (by (exact hS.sl)) (by omega))) ?_
 refine Kq rfl (Rt rfl rfl) (Km rfl ?_)
 refine Nb 10 rfl (fun hg10 => ?_) (fun hg10 => ?_)
 ·(try simp only [sB] at hg10)
  refine Kt rfl (Kt rfl (Kt rfl (Kq rfl (Rp rfl rfl rfl) (Nt ?_))))
  refine Cd rfl (fun _ => ?_) (fun h => by cases h)
  refine Cs (Kq rfl (Kb [[.slice none 0 0], [.string (S [])], [.int .i64 0]] rfl rfl) (Ka rfl ?_))
  refine Nu rfl rfl (Sa rfl rfl rfl .tc) ?_
  refine Ka rfl (Nt (Ce (Xb ?_)))
  exact Rn rfl (.tmp rfl (.agg rfl .tc u66 rfl (by kernel_rfl) (.tmp rfl .nil))) fun w' hS => draw0 (by rw [belowS, show readyS t n = 3 from by rw [readyS, if_neg (by simp_all)], if_pos (by decide)]) hS
 ·(try simp only [sB] at hg10)
  refine Km rfl ?_
  refine Ku rfl (Oc rfl rfl (Kv fun w hS => rvalid_c)) ?_
  refine Kq rfl (Rt rfl rfl) (Kq rfl (Rq rfl rfl rfl) (Nt ?_))
  refine Cd rfl (fun hc14 => ?_) (fun hc14 => ?_)
  ·(try simp only [sB] at hc14)
   refine Cs (Kq rfl (Kb [[.slice none 0 0], [.string (S [])], [.int .i64 0]] rfl rfl) (Ka rfl ?_))
   refine Nu rfl rfl (Sa rfl rfl rfl .tc) ?_
   refine Ka rfl (Nt (Ce (Xb ?_)))
   exact Rn rfl (.tmp rfl (.agg rfl .tc u66 rfl (by kernel_rfl) (.tmp rfl .nil))) fun w' hS => draw0 (by rw [belowS, show readyS t n = 3 from by rw [readyS, if_neg (by simp_all)], if_pos (by decide)]) hS
  ·(try simp only [sB] at hc14)
   have hgn : goodT t ∧ okN n := by simp_all
   refine Ck (Xa (Cq (Cs (Km rfl (Kq rfl (rd_seq rfl rfl rfl) (Nt ?_))))))
   refine Cd rfl (fun hc17 => ?_) (fun hc17 => ?_)
   ·(try simp only [sB] at hc17)
    refine Cs (Kq rfl (Kb [[.slice none 0 0], [.string (S [])], [.int .i64 0]] rfl rfl) (Ka rfl ?_))
    refine Nu rfl rfl (Sa rfl rfl rfl .tc) ?_
    refine Ka rfl (Nt (Ce (Xb ?_)))
    exact Rn rfl (.tmp rfl (.agg rfl .tc u66 rfl (by kernel_rfl) (.tmp rfl .nil))) fun w' hS => draw0 (by rw [belowS, show readyS t n = 11 from by rw [readyS, if_pos hgn, if_pos (by simpa using hc17)], if_pos (by decide)]) hS
   ·(try simp only [sB] at hc17)
    have k3 : n ≠ [] := by simpa using hc17
    have hr : belowS t n = drawS t n := by rw [belowS, show readyS t n = 0 from by rw [readyS, if_pos hgn, if_neg k3], if_neg (by simp)]
    have k1 := hgn.1; have k2 := hgn.2
    refine Ck (Xa (Cs ?_))
    refine Kq rfl (lda rfl rfl .tc u66 rfl ?_) ?_
    ·kernel_rfl
    refine Km rfl ?_
    refine Kh rfl (Oc rfl rfl (keep_o1 fun w hS => rdraw_c (t := t) (n := n) (by (exact hS.sl)) (by assumption) (by assumption) (by assumption) (by assumption) (by assumption))) ?_
    intro g21
    refine WL.pu ?_
    intro hg21; (try dsimp only at hg21 ⊢)
    refine Kq rfl (Re rfl rfl rfl) (Kq rfl (Re rfl rfl rfl) (Kq rfl (Re rfl rfl rfl) (Ka rfl ?_)))
    refine Nu rfl rfl (Sa rfl rfl rfl .tc) ?_
    refine Ka rfl (Nt (Ce ?_))
    exact Rn rfl (.tmp rfl (.agg rfl .tc u66 rfl (by kernel_rfl) (.tmp rfl .nil))) fun w' hS => ⟨g21, by rw [hr]; rfl, by rw [hr]; exact hg21, by rw [hr]; exact st_sub _ hS⟩
theorem draw_valsE (t : Tp) (n : Bs) : (drawS t n).2.1.vals.length ≤ t.vals.length := by
 unfold drawS; repeat' split
 all_goals simp [zeroT]
theorem below_valsE (t : Tp) (n : Bs) : (belowS t n).2.1.vals.length ≤ t.vals.length := by
 unfold belowS; split
 ·simp [zeroT]
 ·exact draw_valsE t n
def mskS (p : PR) (k : IK) (w : Bs) (t : Tp) : (Bs × Bs × Tp) × Int :=
 if chkN p k ≠ 0 then (([], [], zeroT), chkN p k) else if ¬ (okN w ∧ goodT t) then (([], [], zeroT), 3) else if ¬ elG k.g w then (([], [], zeroT), 13)
 else if (belowS t p.msk).2.2 ≠ 0 then (([], [], zeroT), (belowS t p.msk).2.2)
 else (((prodS k.g [w, k.h] [ofZ 1, fromZ (belowS t p.msk).1]).1, (belowS t p.msk).1, (belowS t p.msk).2.1), 0)
theorem new_nilM {w w' : World} {own : List Ent} {T : TypeId} {fs : List Fact} {ok : Nat → Prop} (h : St ok w own fs w') : St ok w [⟨none, [] ++ [], T⟩] [] w' := (h.nil T).sub (List.Sublist.cons_cons _ (List.nil_sublist _)) (fun _ h => by cases h)
theorem nmask_c {p : PR} {k : IK} {x : Bs} {t : Tp} {a b : Option Addr} {c d : Nat} {w : World} {ok : Nat → Prop} (hF1 : (Fact.sl a (strs k.r)).holds ok w) (hF2 : (Fact.sl b (strs t.vals)).holds ok w) (hm8 : p.mn.1.1.length ≤ 8) (hk8 : k.g.1.length ≤ 8) (hkl : k.r.length ≤ 100000) (hnl : k.name.length ≤ 140737488351232) (hl : t.vals.length ≤ 100000) (hsd : t.seed.length ≤ 400000) (hT : Tab w) (hD : TabD w) :
  Calls Tryz.prog 22 #[prV p, ikV k (.slice a k.r.length c), .string (S x), t.v (.slice b t.vals.length d)] w fun e w' => ∃ g : Rs, e = .returned (.tuple #[.string (S (mskS p k x t).1.1), .string (S (mskS p k x t).1.2.1), (mskS p k x t).1.2.2.v (g.val (mskS p k x t).1.2.2.vals.length), .int .i64 (mskS p k x t).2]) ∧ g.cap = (mskS p k x t).1.2.2.vals.length + g.sp.length ∧ St (fun _ => True) w [g.ent (strs (mskS p k x t).1.2.2.vals) 22] [] w' := by
 refine En [Fact.sl a (strs k.r), Fact.sl b (strs t.vals)] [(0, prV p), (1, ikV k (.slice a k.r.length c)), (2, .string (S x)), (3, t.v (.slice b t.vals.length d))] Tryz.func22 rfl Tryz.ntmps22 rfl (Ac rfl (Ac rfl (Ac rfl (Ac rfl (An _))))) (Fc (fact_any hF1) (Fc (fact_any hF2) Fn)) ?_
 refine Cs ?_
 refine Kh rfl (Oy rfl rfl) ?_
 intro b4
 refine Kh rfl (Oy rfl rfl) ?_
 intro b5
 refine Kh rfl (Oy rfl rfl) ?_
 intro b7
 refine Ka rfl (Ka rfl ?_)
 refine Kh rfl (Oz [.slice none 0 0, .string (S []), .int .i64 0] rfl) ?_
 intro b10
 refine Ka rfl (Nt (Cq (Cs ?_)))
 refine Kq rfl (lda rfl rfl .tc u30 rfl ?_) ?_
 ·kernel_rfl
 refine Kq rfl (lda rfl rfl .tc u33 rfl ?_) ?_
 ·kernel_rfl
 refine Ku rfl (Oc rfl rfl (Kv fun w hS => icheck_c (p := p) (k := k) (by (exact hS.sl)) (by assumption) (by assumption) (by omega) (by assumption) (by (exact tabd_st hD hS)))) ?_
 refine Ka rfl (Nt (Cs (Km rfl (Kq rfl (rd_neq rfl rfl rfl) (Nt ?_)))))
 refine Cd rfl (fun hc21 => ?_) (fun hc21 => ?_)
 ·(try simp only [sB] at hc21)
  have hr : mskS p k x t = (([], [], zeroT), chkN p k) := by rw [mskS, if_pos (by simpa using hc21)]
  refine Cs (Kq rfl (Kb [[.slice none 0 0], [.string (S [])], [.int .i64 0]] rfl rfl) (Km rfl (Ka rfl (Ka rfl ?_))))
  refine Nu rfl rfl (Sa rfl rfl rfl .tc) ?_
  refine Ka rfl (Nt (Ce (Xb ?_)))
  exact Rn rfl (.tmp rfl (.tmp rfl (.agg rfl .tc u66 rfl (by kernel_rfl) (.tmp rfl .nil)))) fun w' hS => ⟨⟨none, 0, []⟩, by rw [hr]; rfl, by rw [hr]; rfl, by rw [hr]; exact new_nilM hS⟩
 ·(try simp only [sB] at hc21)
  have h0 : chkN p k = 0 := by simpa using hc21
  have hg : chkG k.g = 0 := (chkN_ok h0).2.2.2.2.1
  refine Ck (Xa (Cq ?_))
  refine WC.joinP (σ := Unit) [(2, _), (4, _), (5, _), (7, _), (10, _)] (fun gq => [(31, .bool (decide (¬ (okN x ∧ goodT t))))]) (fun gq => True) (S5 rfl rfl rfl rfl rfl) ?_ ?_
  ·skip
   refine Cg (Km rfl ?_)
   refine Ku rfl (Oc rfl rfl (Kv fun w hS => valid_c (a := x))) ?_
   refine Kq rfl (Rt rfl rfl) (Km rfl ?_)
   refine Nb 27 rfl (fun hg27 => ?_) (fun hg27 => ?_)
   ·(try simp only [sB] at hg27)
    refine Kt rfl (Kt rfl (Kt rfl (Kq rfl (Rp rfl rfl rfl) (Nn ?_))))
    refine WX.joinP (()) (S5 rfl rfl rfl rfl rfl) (by refine (Sc ?_ (S0 _)) <;> ((refine slot_b rfl ?_; (try dsimp only); (simp [*]; done)))) ?_ (by (exact fun _ h => h))
    (try dsimp only)
    done
   ·(try simp only [sB] at hg27)
    refine Kq rfl (lda rfl rfl .tc u66 rfl ?_) ?_
    ·kernel_rfl
    refine Ku rfl (Oc rfl rfl (Kv fun w hS => ntape_c (t := t) (by (exact hS.sl)) (by omega))) ?_
    refine Kq rfl (Rt rfl rfl) (Kq rfl (Rq rfl rfl rfl) (Nn ?_))
    refine WX.joinP (()) (S5 rfl rfl rfl rfl rfl) (by refine (Sc ?_ (S0 _)) <;> ((refine slot_b rfl ?_; (try dsimp only); (simp [*]; done)))) ?_ (by (exact fun _ h => h))
    (try dsimp only)
    done
  ·rintro _ hmeet; (try dsimp only at hmeet ⊢)
   refine Cd rfl (fun hc31 => ?_) (fun hc31 => ?_)
   ·(try simp only [sB] at hc31)
    have hr : mskS p k x t = (([], [], zeroT), 3) := by rw [mskS, if_neg (fun h => h h0), if_pos hc31]
    refine Cs (Kq rfl (Kb [[.slice none 0 0], [.string (S [])], [.int .i64 0]] rfl rfl) (Ka rfl (Ka rfl ?_)))
    refine Nu rfl rfl (Sa rfl rfl rfl .tc) ?_
    refine Ka rfl (Nt (Ce (Xb ?_)))
    exact Rn rfl (.tmp rfl (.tmp rfl (.agg rfl .tc u66 rfl (by kernel_rfl) (.tmp rfl .nil)))) fun w' hS => ⟨⟨none, 0, []⟩, by rw [hr]; rfl, by rw [hr]; rfl, by rw [hr]; exact new_nilM hS⟩
   ·(try simp only [sB] at hc31)
    have hok : okN x ∧ goodT t := Decidable.not_not.1 hc31
    refine Ck (Xa (Cq (Cs (Kq rfl (Fa (q := 1) rfl rfl u33 rfl rfl) ?_))))
    refine Kq rfl (ldp rfl rfl .tc u26 rfl (by kernel_rfl : _ = some 2) (by rfl) (by rfl)) ?_
    refine Km rfl ?_
    refine Ku rfl (Oc rfl rfl (Kv fun w hS => pwhas_c (g := k.g) (x := x) (by assumption))) ?_
    refine Kq rfl (Rt rfl rfl) (Nt ?_)
    refine Cd rfl (fun hc37 => ?_) (fun hc37 => ?_)
    ·(try simp only [sB] at hc37)
     have hn : ¬ elG k.g x := fun h => by simp [hg, h] at hc37
     have hr : mskS p k x t = (([], [], zeroT), 13) := by rw [mskS, if_neg (fun h => h h0), if_neg (fun h => h hok), if_pos hn]
     refine Cs (Kq rfl (Kb [[.slice none 0 0], [.string (S [])], [.int .i64 0]] rfl rfl) (Ka rfl (Ka rfl ?_)))
     refine Nu rfl rfl (Sa rfl rfl rfl .tc) ?_
     refine Ka rfl (Nt (Ce (Xb ?_)))
     exact Rn rfl (.tmp rfl (.tmp rfl (.agg rfl .tc u66 rfl (by kernel_rfl) (.tmp rfl .nil)))) fun w' hS => ⟨⟨none, 0, []⟩, by rw [hr]; rfl, by rw [hr]; rfl, by rw [hr]; exact new_nilM hS⟩
    ·(try simp only [sB] at hc37)
     have hel : elG k.g x := hc37.2
     refine Ck (Xa (Cs ?_))
     refine Kq rfl (lda rfl rfl .tc u66 rfl ?_) ?_
     ·kernel_rfl
     refine Kq rfl (Fa (q := 16) rfl rfl u30 rfl rfl) (Kq rfl (Ld rfl rfl .tc u22) ?_)
     refine Kh rfl (Oc rfl rfl (keep_o1 fun w hS => below_c (t := t) (n := p.msk) (by (exact hS.sl)) (by assumption) (by assumption) (by (exact tab_st hT hS)))) ?_
     intro g43
     refine WL.pu ?_
     intro hg43; (try dsimp only at hg43 ⊢)
     refine Km rfl (Kq rfl (Re rfl rfl rfl) (Kq rfl (Re rfl rfl rfl) (Kq rfl (Re rfl rfl rfl) (Ka rfl ?_))))
     refine Nu rfl rfl (Sa rfl rfl rfl .tc) ?_
     refine Ka rfl (Nt (Cq (Cs (Km rfl (Kq rfl (rd_neq rfl rfl rfl) (Nt ?_))))))
     refine Cd rfl (fun hc48 => ?_) (fun hc48 => ?_)
     ·(try simp only [sB] at hc48)
      have hr : mskS p k x t = (([], [], zeroT), (belowS t p.msk).2.2) := by rw [mskS, if_neg (fun h => h h0), if_neg (fun h => h hok), if_neg (fun h => h hel), if_pos (by simpa using hc48)]
      refine Cs (Kq rfl (Kb [[.slice none 0 0], [.string (S [])], [.int .i64 0]] rfl rfl) (Km rfl (Ka rfl (Ka rfl ?_))))
      refine Nu rfl rfl (Sa rfl rfl rfl .tc) ?_
      refine Ka rfl (Nt (Ce (Xb ?_)))
      exact Rn rfl (.tmp rfl (.tmp rfl (.agg rfl .tc u66 rfl (by kernel_rfl) (.tmp rfl .nil)))) fun w' hS => ⟨⟨none, 0, []⟩, by rw [hr]; rfl, by rw [hr]; rfl, by rw [hr]; exact new_nilM hS⟩
     ·(try simp only [sB] at hc48)
      have hb0 : (belowS t p.msk).2.2 = 0 := by simpa using hc48
      have hr : mskS p k x t = (((prodS k.g [x, k.h] [ofZ 1, fromZ (belowS t p.msk).1]).1, (belowS t p.msk).1, (belowS t p.msk).2.1), 0) := by rw [mskS, if_neg (fun h => h h0), if_neg (fun h => h hok), if_neg (fun h => h hel), if_neg (fun h => h hb0)]
      refine Ck (Xa (Cq ?_))
      refine Cf [6, 7, 8, 0, 1, 2, 3, 4, 5, 9, 10, 11, 12, 13, 14, 15] [] [0, 0, 0, 0, 0, 3, 1, 0, 1, 3, 1, 0, 0, 0, 0, 0] (by kernel_rfl) (by kernel_rfl) rfl ?_
      refine Jv rfl rfl rfl rfl rfl (fun ext => Oc rfl rfl (Kv fun w hS => zof_c (n := 1) (by omega) (by omega))) ?_
      refine Kj rfl (Rm rfl rfl) ?_
      refine Jv rfl rfl rfl rfl rfl (fun ext => Oc rfl rfl (Kv fun w hS => zfrom_c (a := (belowS t p.msk).1))) ?_
      refine Kj rfl (Fa (q := 1) rfl rfl u33 rfl rfl) ?_
      refine Kj rfl (ldp rfl rfl .tc u26 rfl (by kernel_rfl : _ = some 2) (by rfl) (by rfl)) ?_
      refine Kj rfl (Rm rfl rfl) (Kj rfl (Fa (q := 7) rfl rfl u33 rfl rfl) (Kj rfl (Ld rfl rfl .tc u22) ?_))
      refine Jf rfl rfl rfl rfl rfl (fr_bs1 rfl rfl u31 (by kernel_rfl : _ = some (some (.string (S [])), 1, 16)) rfl (by simp only [List.map]; rfl) rfl rfl ?_ (by decide)) ?_
      ·simp [Value.cells]
      intro b57
      refine Jf rfl rfl rfl rfl rfl (fr_bsN rfl rfl u54 (by kernel_rfl : _ = some (some (.agg #[.bool false, .string (S [])]), 2, 24)) (by kernel_rfl) (by decide) rfl rfl (by (simp [Value.cells]; done)) (by (simp only [List.map, Value.cells, List.flatMap_cons, List.flatMap_nil, List.append_nil, List.toList_toArray]; rfl)) (by decide)) ?_
      intro b61
      refine Jv rfl rfl rfl rfl rfl (fun ext => Oc rfl rfl (Kv fun w hS => pproduct_c (g := k.g) (l := [x, k.h]) (es := [ofZ 1, fromZ (belowS t p.msk).1]) (by (exact hS.os)) (by (exact hS.os)) (by (simp <;> omega)) (by (simp <;> omega)) (by assumption))) ?_
      refine Kj rfl (Rm rfl rfl) (Kj rfl (Re rfl rfl rfl) (Kj rfl (Re rfl rfl rfl) (Kj rfl (Ra rfl rfl) (Kj rfl (Ra rfl rfl) ?_))))
      refine WJ.nil ?_
      refine Nt (Cq ?_)
      refine Cf [0, 1, 2, 3, 4] [5, 6] [0, 0, 0, 0, 0, 2, 2] (by kernel_rfl) (by kernel_rfl) rfl ?_
      refine Kj rfl (Rm rfl rfl) (Kj rfl (Rm rfl rfl) ?_)
      refine Kj rfl (lda rfl rfl .tc u66 rfl ?_) ?_
      ·kernel_rfl
      refine Kj rfl (Ra rfl rfl) (Kj rfl (Ra rfl rfl) ?_)
      refine WJ.nil ?_
      refine Nu rfl rfl (Sa rfl rfl rfl .tc) ?_
      refine Ka rfl (Nt (Ce ?_))
      exact Rn rfl (.tmp rfl (.tmp rfl (.agg rfl .tc u66 rfl (by kernel_rfl) (.tmp rfl .nil)))) fun w' hS => ⟨g43, by rw [hr]; rfl, by rw [hr]; exact hg43, by rw [hr]; exact st_sub _ hS⟩
theorem rnmask_c {p : PR} {k : IK} {x : Bs} {t : Tp} {a b : Option Addr} {c d : Nat} {w : World} {ok : Nat → Prop} (hF1 : (Fact.sl a (strs k.r)).holds ok w) (hF2 : (Fact.sl b (strs t.vals)).holds ok w) (hm8 : p.mn.1.1.length ≤ 8) (hk8 : k.g.1.length ≤ 8) (hkl : k.r.length ≤ 100000) (hnl : k.name.length ≤ 140737488351232) (hl : t.vals.length ≤ 100000) (hsd : t.seed.length ≤ 400000) :
  Calls Tryz.prog 23 #[prV p, ikV k (.slice a k.r.length c), .string (S x), t.v (.slice b t.vals.length d)] w fun e w' => ∃ g : Rs, e = .returned (.tuple #[.string (S (mskS p k x t).1.1), .string (S (mskS p k x t).1.2.1), (mskS p k x t).1.2.2.v (g.val (mskS p k x t).1.2.2.vals.length), .int .i64 (mskS p k x t).2]) ∧ g.cap = (mskS p k x t).1.2.2.vals.length + g.sp.length ∧ St (fun _ => True) w [g.ent (strs (mskS p k x t).1.2.2.vals) 22] [] w' := by
 refine En [Fact.sl a (strs k.r), Fact.sl b (strs t.vals)] [(0, prV p), (1, ikV k (.slice a k.r.length c)), (2, .string (S x)), (3, t.v (.slice b t.vals.length d))] Tryz.func23 rfl Tryz.ntmps23 rfl (Ac rfl (Ac rfl (Ac rfl (Ac rfl (An _))))) (Fc (fact_any hF1) (Fc (fact_any hF2) Fn)) ?_
 refine Cs ?_
 refine Kh rfl (Oy rfl rfl) ?_
 intro b4
 refine Kh rfl (Oy rfl rfl) ?_
 intro b5
 refine Kh rfl (Oy rfl rfl) ?_
 intro b7
 refine Ka rfl (Ka rfl ?_)
 refine Kh rfl (Oz [.slice none 0 0, .string (S []), .int .i64 0] rfl) ?_
 intro b10
 refine Ka rfl (Nt (Cq (Cs ?_)))
 refine Kq rfl (lda rfl rfl .tc u30 rfl ?_) ?_
 ·kernel_rfl
 refine Kq rfl (lda rfl rfl .tc u33 rfl ?_) ?_
 ·kernel_rfl
 refine Ku rfl (Oc rfl rfl (Kv fun w hS => richeck_c (p := p) (k := k) (by (exact hS.sl)) (by assumption) (by assumption) (by assumption) (by assumption))) ?_
 refine Ka rfl (Nt (Cs (Km rfl (Kq rfl (rd_neq rfl rfl rfl) (Nt ?_)))))
 refine Cd rfl (fun hc22 => ?_) (fun hc22 => ?_)
 ·(try simp only [sB] at hc22)
  have hr : mskS p k x t = (([], [], zeroT), chkN p k) := by rw [mskS, if_pos (by simpa using hc22)]
  refine Cs (Kq rfl (Kb [[.slice none 0 0], [.string (S [])], [.int .i64 0]] rfl rfl) (Km rfl (Ka rfl (Ka rfl ?_))))
  refine Nu rfl rfl (Sa rfl rfl rfl .tc) ?_
  refine Ka rfl (Nt (Ce (Xb ?_)))
  exact Rn rfl (.tmp rfl (.tmp rfl (.agg rfl .tc u66 rfl (by kernel_rfl) (.tmp rfl .nil)))) fun w' hS => ⟨⟨none, 0, []⟩, by rw [hr]; rfl, by rw [hr]; rfl, by rw [hr]; exact new_nilM hS⟩
 ·(try simp only [sB] at hc22)
  have h0 : chkN p k = 0 := by simpa using hc22
  have hg : chkG k.g = 0 := (chkN_ok h0).2.2.2.2.1
  refine Ck (Xa (Cq ?_))
  refine WC.joinP (σ := Unit) [(2, _), (4, _), (5, _), (7, _), (10, _)] (fun gq => [(32, .bool (decide (¬ (okN x ∧ goodT t))))]) (fun gq => True) (S5 rfl rfl rfl rfl rfl) ?_ ?_
  ·skip
   refine Cg (Km rfl ?_)
   refine Ku rfl (Oc rfl rfl (Kv fun w hS => rvalid_c (a := x))) ?_
   refine Kq rfl (Rt rfl rfl) (Km rfl ?_)
   refine Nb 28 rfl (fun hg28 => ?_) (fun hg28 => ?_)
   ·(try simp only [sB] at hg28)
    refine Kt rfl (Kt rfl (Kt rfl (Kq rfl (Rp rfl rfl rfl) (Nn ?_))))
    refine WX.joinP (()) (S5 rfl rfl rfl rfl rfl) (by refine (Sc ?_ (S0 _)) <;> ((refine slot_b rfl ?_; (try dsimp only); (simp [*]; done)))) ?_ (by (exact fun _ h => h))
    (try dsimp only)
    done
   ·(try simp only [sB] at hg28)
    refine Kq rfl (lda rfl rfl .tc u66 rfl ?_) ?_
    ·kernel_rfl
    refine Ku rfl (Oc rfl rfl (Kv fun w hS => rtgood_c (t := t) (by (exact hS.sl)) (by omega))) ?_
    refine Kq rfl (Rt rfl rfl) (Kq rfl (Rq rfl rfl rfl) (Nn ?_))
    refine WX.joinP (()) (S5 rfl rfl rfl rfl rfl) (by refine (Sc ?_ (S0 _)) <;> ((refine slot_b rfl ?_; (try dsimp only); (simp [*]; done)))) ?_ (by (exact fun _ h => h))
    (try dsimp only)
    done
  ·rintro _ hmeet; (try dsimp only at hmeet ⊢)
   refine Cd rfl (fun hc32 => ?_) (fun hc32 => ?_)
   ·(try simp only [sB] at hc32)
    have hr : mskS p k x t = (([], [], zeroT), 3) := by rw [mskS, if_neg (fun h => h h0), if_pos hc32]
    refine Cs (Kq rfl (Kb [[.slice none 0 0], [.string (S [])], [.int .i64 0]] rfl rfl) (Ka rfl (Ka rfl ?_)))
    refine Nu rfl rfl (Sa rfl rfl rfl .tc) ?_
    refine Ka rfl (Nt (Ce (Xb ?_)))
    exact Rn rfl (.tmp rfl (.tmp rfl (.agg rfl .tc u66 rfl (by kernel_rfl) (.tmp rfl .nil)))) fun w' hS => ⟨⟨none, 0, []⟩, by rw [hr]; rfl, by rw [hr]; rfl, by rw [hr]; exact new_nilM hS⟩
   ·(try simp only [sB] at hc32)
    have hok : okN x ∧ goodT t := Decidable.not_not.1 hc32
    refine Ck (Xa (Cq (Cs (Kq rfl (Fa (q := 1) rfl rfl u33 rfl rfl) ?_))))
    refine Kq rfl (ldp rfl rfl .tc u26 rfl (by kernel_rfl : _ = some 2) (by rfl) (by rfl)) ?_
    refine Km rfl ?_
    refine Ku rfl (Oc rfl rfl (Kv fun w hS => rghas_c (g := k.g) (x := x) (by assumption))) ?_
    refine Kq rfl (Rt rfl rfl) (Nt ?_)
    refine Cd rfl (fun hc38 => ?_) (fun hc38 => ?_)
    ·(try simp only [sB] at hc38)
     have hn : ¬ elG k.g x := fun h => by simp [hg, h] at hc38
     have hr : mskS p k x t = (([], [], zeroT), 13) := by rw [mskS, if_neg (fun h => h h0), if_neg (fun h => h hok), if_pos hn]
     refine Cs (Kq rfl (Kb [[.slice none 0 0], [.string (S [])], [.int .i64 0]] rfl rfl) (Ka rfl (Ka rfl ?_)))
     refine Nu rfl rfl (Sa rfl rfl rfl .tc) ?_
     refine Ka rfl (Nt (Ce (Xb ?_)))
     exact Rn rfl (.tmp rfl (.tmp rfl (.agg rfl .tc u66 rfl (by kernel_rfl) (.tmp rfl .nil)))) fun w' hS => ⟨⟨none, 0, []⟩, by rw [hr]; rfl, by rw [hr]; rfl, by rw [hr]; exact new_nilM hS⟩
    ·(try simp only [sB] at hc38)
     have hel : elG k.g x := hc38.2
     refine Ck (Xa (Cs ?_))
     refine Kq rfl (lda rfl rfl .tc u66 rfl ?_) ?_
     ·kernel_rfl
     refine Kq rfl (Fa (q := 16) rfl rfl u30 rfl rfl) (Kq rfl (Ld rfl rfl .tc u22) ?_)
     refine Kh rfl (Oc rfl rfl (keep_o1 fun w hS => rbelow_c (t := t) (n := p.msk) (by (exact hS.sl)) (by assumption) (by assumption))) ?_
     intro g44
     refine WL.pu ?_
     intro hg44; (try dsimp only at hg44 ⊢)
     refine Km rfl (Kq rfl (Re rfl rfl rfl) (Kq rfl (Re rfl rfl rfl) (Kq rfl (Re rfl rfl rfl) ?_)))
     refine Kh rfl (Oz [.slice none 0 0, .string (S []), .int .i64 0] rfl) ?_
     intro b14
     refine Ka rfl ?_
     refine Nu rfl rfl (Sa rfl rfl rfl .tc) ?_
     refine Ka rfl (Nt (Cq (Cs (Km rfl (Kq rfl (rd_neq rfl rfl rfl) (Nt ?_))))))
     refine Cd rfl (fun hc49 => ?_) (fun hc49 => ?_)
     ·(try simp only [sB] at hc49)
      have hr : mskS p k x t = (([], [], zeroT), (belowS t p.msk).2.2) := by rw [mskS, if_neg (fun h => h h0), if_neg (fun h => h hok), if_neg (fun h => h hel), if_pos (by simpa using hc49)]
      refine Cs (Kq rfl (Kb [[.slice none 0 0], [.string (S [])], [.int .i64 0]] rfl rfl) (Km rfl (Ka rfl (Ka rfl ?_))))
      refine Nu rfl rfl (Sa rfl rfl rfl .tc) ?_
      refine Ka rfl (Nt (Ce (Xb ?_)))
      exact Rn rfl (.tmp rfl (.tmp rfl (.agg rfl .tc u66 rfl (by kernel_rfl) (.tmp rfl .nil)))) fun w' hS => ⟨⟨none, 0, []⟩, by rw [hr]; rfl, by rw [hr]; rfl, by rw [hr]; exact new_nilM hS⟩
     ·(try simp only [sB] at hc49)
      have hb0 : (belowS t p.msk).2.2 = 0 := by simpa using hc49
      have hr : mskS p k x t = (((prodS k.g [x, k.h] [ofZ 1, fromZ (belowS t p.msk).1]).1, (belowS t p.msk).1, (belowS t p.msk).2.1), 0) := by rw [mskS, if_neg (fun h => h h0), if_neg (fun h => h hok), if_neg (fun h => h hel), if_neg (fun h => h hb0)]
      refine Ck (Xa (Cq ?_))
      refine Cf [6, 7, 8, 0, 1, 2, 3, 4, 5, 9, 10, 11, 12, 13, 14, 15] [] [0, 0, 0, 0, 0, 3, 1, 0, 1, 3, 1, 0, 0, 0, 0, 0] (by kernel_rfl) (by kernel_rfl) rfl ?_
      refine Jv rfl rfl rfl rfl rfl (fun ext => Oc rfl rfl (Kv fun w hS => rzof_c (n := 1) (by omega) (by omega))) ?_
      refine Kj rfl (Rm rfl rfl) ?_
      refine Jv rfl rfl rfl rfl rfl (fun ext => Oc rfl rfl (Kv fun w hS => rfrom_c (a := (belowS t p.msk).1))) ?_
      refine Kj rfl (Fa (q := 1) rfl rfl u33 rfl rfl) ?_
      refine Kj rfl (ldp rfl rfl .tc u26 rfl (by kernel_rfl : _ = some 2) (by rfl) (by rfl)) ?_
      refine Kj rfl (Rm rfl rfl) (Kj rfl (Fa (q := 7) rfl rfl u33 rfl rfl) (Kj rfl (Ld rfl rfl .tc u22) ?_))
      refine Jf rfl rfl rfl rfl rfl (fr_bs1 rfl rfl u31 (by kernel_rfl : _ = some (some (.string (S [])), 1, 16)) rfl (by simp only [List.map]; rfl) rfl rfl ?_ (by decide)) ?_
      ·simp [Value.cells]
      intro b58
      refine Jf rfl rfl rfl rfl rfl (fr_bsN rfl rfl u54 (by kernel_rfl : _ = some (some (.agg #[.bool false, .string (S [])]), 2, 24)) (by kernel_rfl) (by decide) rfl rfl (by (simp [Value.cells]; done)) (by (simp only [List.map, Value.cells, List.flatMap_cons, List.flatMap_nil, List.append_nil, List.toList_toArray]; rfl)) (by decide)) ?_
      intro b62
      refine Jv rfl rfl rfl rfl rfl (fun ext => Oc rfl rfl (Kv fun w hS => rproduct_c (g := k.g) (l := [x, k.h]) (es := [ofZ 1, fromZ (belowS t p.msk).1]) (by (exact hS.os)) (by (exact hS.os)) (by (simp <;> omega)) (by (simp <;> omega)) (by assumption))) ?_
      refine Kj rfl (Rm rfl rfl) (Kj rfl (Re rfl rfl rfl) (Kj rfl (Re rfl rfl rfl) (Kj rfl (Ra rfl rfl) (Kj rfl (Ra rfl rfl) ?_))))
      refine WJ.nil ?_
      refine Nt (Cq ?_)
      refine Cf [0, 1, 2, 3, 4] [5, 6] [0, 0, 0, 0, 0, 2, 2] (by kernel_rfl) (by kernel_rfl) rfl ?_
      refine Kj rfl (Rm rfl rfl) (Kj rfl (Rm rfl rfl) ?_)
      refine Kj rfl (lda rfl rfl .tc u66 rfl ?_) ?_
      ·kernel_rfl
      refine Kj rfl (Ra rfl rfl) (Kj rfl (Ra rfl rfl) ?_)
      refine WJ.nil ?_
      refine Nu rfl rfl (Sa rfl rfl rfl .tc) ?_
      refine Ka rfl (Nt (Ce ?_))
      exact Rn rfl (.tmp rfl (.tmp rfl (.agg rfl .tc u66 rfl (by kernel_rfl) (.tmp rfl .nil)))) fun w' hS => ⟨g44, by rw [hr]; rfl, by rw [hr]; exact hg44, by rw [hr]; exact st_sub _ hS⟩
def fewR (p : PR) : Prop := (∀ k ∈ [p.mn, p.wh], shortP 8 (pk4 k)) ∧ shortP 8 (nine p)
instance (p : PR) : Decidable (fewR p) := inferInstanceAs (Decidable (_ ∧ _))
theorem fewpar_c {p : PR} {w : World} :
  Cw 33 #[prV p] w (.bool (decide (fewR p))) := by
 refine En [] [(0, prV p)] Tryz.func33 rfl Tryz.ntmps33 rfl (Ac rfl (An _)) Fn ?_
 refine Cs ?_
 refine Kh rfl (Oy rfl rfl) ?_
 intro b1
 refine Ka rfl (Nt (Cq (Cs (Kq rfl (Fa (q := 2) rfl rfl u30 rfl rfl) ?_))))
 refine Kq rfl (ldp rfl rfl .tc u28 rfl (by kernel_rfl : _ = some 4) (by rfl) (by rfl)) ?_
 refine Kq rfl (Fa (q := 6) rfl rfl u30 rfl rfl) ?_
 refine Kq rfl (ldp rfl rfl .tc u28 rfl (by kernel_rfl : _ = some 4) (by rfl) (by rfl)) ?_
 refine Kh rfl (og_bsN rfl rfl u138 (by kernel_rfl : _ = some (some (.agg #[.string (S []), .string (S []), .string (S []), .string (S [])]), 4, 64)) (by kernel_rfl) (by decide) rfl rfl (by (simp [Value.cells]; done)) (by (simp only [List.map, Value.cells, List.flatMap_cons, List.flatMap_nil, List.append_nil, List.toList_toArray]; rfl)) (by decide)) ?_
 intro b9
 refine WL.st (fun w h => h.freeze (off := 0) (xs := ([p.mn, p.wh] : List PK).flatMap pkc) (fun i hi => by rw [Nat.zero_add]; rfl)) ?_
 refine Kq rfl (rd_len rfl rfl u138) (Km rfl (Nt (Cb ?_)))
 refine Lp (σ := Nat) [(1, _), (9, _), (10, _)] (fun gq => [(11, .int .i64 (gq : Int))]) (fun gq => gq ≤ 2 ∧ ∀ k ∈ ([p.mn, p.wh] : List PK).take gq, shortP 8 (pk4 k)) (fun gq => 2 - gq) (0) (S3 rfl rfl rfl) (S1 rfl) (by (try dsimp only); exact ⟨Nat.zero_le _, by simp⟩) ?_
 rintro i hinv1; (try dsimp only at hinv1 ⊢)
 obtain ⟨hi, hok⟩ := hinv1
 refine Cs (Kq rfl (rd_lss rfl rfl rfl) (Nt (Cq ?_)))
 refine Cd rfl (fun hc12 => ?_) (fun hc12 => ?_)
 ·(try simp only [sB] at hc12)
  have hi2 : i < ([p.mn, p.wh] : List PK).length := by show i < 2; omega
  have htk := take1 hi2
  obtain ⟨k, hk⟩ : ∃ k, Keep (k = ([p.mn, p.wh] : List PK).getD i default) := ⟨_, rfl⟩
  have hkm : k ∈ [p.mn, p.wh] := by rw [show k = _ from hk]; exact getD_mem _ i hi2
  rw [← show k = _ from hk] at htk
  refine Ck (Xa (Cq (Cb (Cs ?_))))
  refine Kq rfl (Ja rfl rfl rfl u138 (by kernel_rfl : _ = some 4) (by omega)) ?_
  refine Kq rfl (ldfa (off0 := 0) (m := i * 4) (ys := pkc (([p.mn, p.wh] : List PK).getD i default)) rfl rfl .tc u28 rfl (by kernel_rfl : _ = some 4) (Nat.zero_add _).symm (by exact flatMap_at [p.mn, p.wh] pkc 4 (fun _ => rfl) i hi2) rfl (by decide)) ?_
  refine Ns 14 rfl (v' := .agg (pkc k).toArray) (by rw [show k = _ from hk]) ?_
  refine Kh rfl (Oz [.string (S []), .string (S []), .string (S []), .string (S [])] rfl) ?_
  intro b4
  refine Nu rfl rfl (Sa rfl rfl rfl .tc) ?_
  refine Nt (Cs (Kq rfl (Fa (q := 0) rfl rfl u28 rfl rfl) (Kq rfl (Fa (q := 0) rfl rfl u26 rfl rfl) (Kq rfl (Ld rfl rfl .tc u22) ?_))))
  refine Kq rfl (Fa (q := 0) rfl rfl u28 rfl rfl) (Kq rfl (Fa (q := 1) rfl rfl u26 rfl rfl) (Kq rfl (Ld rfl rfl .tc u22) ?_))
  refine Kq rfl (Fa (q := 2) rfl rfl u28 rfl rfl) (Kq rfl (Ld rfl rfl .tc u22) ?_)
  refine Kq rfl (Fa (q := 3) rfl rfl u28 rfl rfl) (Kq rfl (Ld rfl rfl .tc u22) ?_)
  refine Kh rfl (og_bs1 rfl rfl u31 (by kernel_rfl : _ = some (some (.string (S [])), 1, 16)) rfl (by simp only [List.map]; rfl) rfl rfl ?_ (by decide)) ?_
  ·simp [Value.cells]
  intro b25
  refine Ku rfl (Oc rfl rfl (Kv fun w hS => short30_c (n := 8) (l := pk4 k) (by (exact hS.os)) (by (simp <;> omega)))) ?_
  refine Kq rfl (Rt rfl rfl) (Nt ?_)
  refine Cd rfl (fun hc27 => ?_) (fun hc27 => ?_)
  ·(try simp only [sB] at hc27)
   have hn : ¬ fewR p := fun h => (by simpa using hc27 : ¬ shortP 8 (pk4 k)) (h.1 k hkm)
   refine Cs (Ka rfl (Nt (Ce (Xf (Xb (Xb (Xf (Xb ?_))))))))
   exact R1 rfl rfl (by rw [decide_eq_false hn]; rfl)
  ·(try simp only [sB] at hc27)
   have hy : shortP 8 (pk4 k) := by simpa using hc27
   refine Ck (Xd (Xa (Cg (Kq rfl (Rz rfl rfl rfl (by omega)) (Km rfl (Nn ?_))))))
   refine Ly (i + 1) (by (try dsimp only); omega) (S3 rfl rfl rfl) (by refine (Sc ?_ (S0 _)) <;> (rfl)) ?_ (by (exact st_sub))
   (try dsimp only)
   exact ⟨by have : i < 2 := hi2; omega, fun x hx => by rw [htk] at hx; rcases List.mem_append.1 hx with h | h; exact hok x h; rw [List.mem_singleton.1 h]; exact hy⟩
 ·(try simp only [sB] at hc12)
  refine Cx (Xc (Xc (Xe ?_)))
  obtain rfl : i = 2 := by omega
  have hall : ∀ k ∈ [p.mn, p.wh], shortP 8 (pk4 k) := hok
  refine Xa (Cs (Kq rfl (Fa (q := 0) rfl rfl u30 rfl rfl) (Kq rfl (Fa (q := 0) rfl rfl u24 rfl rfl) (Kq rfl (Ld rfl rfl .tc u22) ?_))))
  refine Kq rfl (Fa (q := 0) rfl rfl u30 rfl rfl) (Kq rfl (Fa (q := 1) rfl rfl u24 rfl rfl) (Kq rfl (Ld rfl rfl .tc u22) ?_))
  refine Kq rfl (Fa (q := 10) rfl rfl u30 rfl rfl) (Kq rfl (Ld rfl rfl .tc u22) ?_)
  refine Kq rfl (Fa (q := 11) rfl rfl u30 rfl rfl) (Kq rfl (Ld rfl rfl .tc u22) ?_)
  refine Kq rfl (Fa (q := 12) rfl rfl u30 rfl rfl) (Kq rfl (Ld rfl rfl .tc u22) ?_)
  refine Kq rfl (Fa (q := 13) rfl rfl u30 rfl rfl) (Kq rfl (Ld rfl rfl .tc u22) ?_)
  refine Kq rfl (Fa (q := 14) rfl rfl u30 rfl rfl) (Kq rfl (Ld rfl rfl .tc u22) ?_)
  refine Kq rfl (Fa (q := 15) rfl rfl u30 rfl rfl) (Kq rfl (Ld rfl rfl .tc u22) ?_)
  refine Kq rfl (Fa (q := 16) rfl rfl u30 rfl rfl) (Kq rfl (Ld rfl rfl .tc u22) ?_)
  refine Kh rfl (og_bs1 rfl rfl u31 (by kernel_rfl : _ = some (some (.string (S [])), 1, 16)) rfl (by simp only [List.map]; rfl) rfl rfl ?_ (by decide)) ?_
  ·simp [Value.cells]
  intro b49
  refine Ku rfl (Oc rfl rfl (Kv fun w hS => short30_c (n := 8) (l := nine p) (by (exact hS.os)) (by (simp <;> omega)))) ?_
  refine Ka rfl (Nt (Ce ?_))
  exact R1 rfl rfl (by rw [show decide (fewR p) = decide (shortP 8 (nine p)) from decide_eq_decide.2 ⟨fun h => h.2, fun h => ⟨hall, h⟩⟩]; rfl)
instance : DecidableEq Tm := inferInstanceAs (DecidableEq (Bs × Int × Bool × Bs))
instance : DecidableEq Qn := inferInstanceAs (DecidableEq (Int × Bs × List Tm))
instance : DecidableEq Sm := inferInstanceAs (DecidableEq (List (Bs × Bs) × List Bs × List Qn))
end Go.Proofs.YthkmpjobfdeoaaaGreatDoor
