/-
  Parts of the walk: Lsm Sin Ila Ilb Eqo Kel Laid Open Opn Opz.
-/
import Derived.Test.YtmkghgoibnncbaaGreatDoorY17
import Derived.Lib.LaidTab
import Derived.ProofKit
import Derived.OpenShut
import Derived.SliceStrings
import Derived.Carry
import Derived.SizedLaws
namespace Go.Proofs.YtmkghgoibnncbaaGreatDoor
open Go.RowKit
set_option linter.unusedSimpArgs false
set_option linter.unusedVariables false
set_option maxHeartbeats 600000
set_option maxRecDepth 20000
instance : DecidableEq Tm := inferInstanceAs (DecidableEq (Bs × Int × Bool × Bs))
instance : DecidableEq Qn := inferInstanceAs (DecidableEq (Int × Bs × List Tm))
instance : DecidableEq Sm := inferInstanceAs (DecidableEq (List (Bs × Bs) × List Bs × List Qn))
theorem same_c {x y : List Zs} {a b : Option Addr} {c d : Nat} {w : World} {ok : Nat → Prop} (hF1 : (Fact.sl a (ints x)).holds ok w) (hF2 : (Fact.sl b (ints y)).holds ok w) (hx : x.length ≤ 100000) :
  Cw 88 #[.slice a x.length c, .slice b y.length d] w (.bool (decide (x = y))) := by
 refine En [Fact.sl a (ints x), Fact.sl b (ints y)] [(0, .slice a x.length c), (1, .slice b y.length d)] Tryz.func88 rfl Tryz.ntmps88 rfl (Ac rfl (Ac rfl (An _))) (Fc (fact_any hF1) (Fc (fact_any hF2) Fn)) ?_
 refine Cs (Ka rfl (Nt (Cq (Cs (Km rfl (Kq rfl (rd_len rfl rfl u71) (Km rfl (Kq rfl (rd_len rfl rfl u71) (Kq rfl (rd_neq rfl rfl rfl) (Nt ?_))))))))))
 refine Cd rfl (fun hc10 => ?_) (fun hc10 => ?_)
 ·(try simp only [sB] at hc10)
  have hne : ¬ x = y := fun h => by rw [h] at hc10; omega
  refine Cs (Ka rfl (Nt (Ce (Xb ?_))))
  exact R1 rfl rfl (by rw [decide_eq_false hne]; rfl)
 ·(try simp only [sB] at hc10)
  have hle : x.length = y.length := by omega
  refine Ck (Xa (Cq (Cs (Ka rfl (Nt (Cb ?_))))))
  refine Lp (σ := Nat) [(0, _), (1, _)] (fun gq => [(5, .int .i64 (gq : Int))]) (fun gq => gq ≤ x.length ∧ x.take gq = y.take gq) (fun gq => x.length - gq) (0) (S2 rfl rfl) (S1 rfl) (by (try dsimp only); exact ⟨Nat.zero_le _, by simp⟩) ?_
  rintro i hinv1; (try dsimp only at hinv1 ⊢)
  obtain ⟨hi, ht⟩ := hinv1
  refine Cq (Cs (Km rfl (Km rfl (Kq rfl (rd_len rfl rfl u71) (Kq rfl (rd_lss rfl rfl rfl) (Nt ?_))))))
  refine Cd rfl (fun hc14 => ?_) (fun hc14 => ?_)
  ·(try simp only [sB] at hc14)
   have hil : i < x.length := by omega
   have hiy : i < y.length := by omega
   have hyt : ∀ l : List Zs, i < l.length → l.take (i + 1) = l.take i ++ [l.getD i default] := fun l h => by
    rw [List.take_add_one, List.getElem?_eq_getElem h, List.getD_eq_getElem?_getD, List.getElem?_eq_getElem h]; rfl
   refine Ck (Xa (Cq (Cb (Cq ?_))))
   refine Cf [0, 1, 2, 3, 4, 5, 6, 7, 8] [] [0, 0, 0, 0, 0, 0, 0, 0, 0] (by kernel_rfl) (by kernel_rfl) rfl ?_
   refine Kj rfl (Rm rfl rfl) (Kj rfl (Rm rfl rfl) ?_)
   refine Kj rfl (Ia rfl rfl rfl u71 (by kernel_rfl : _ = some 2) (by omega) (by (rw [flatMap_len _ _ 2 (fun _ => rfl)]; omega))) ?_
   refine Kj rfl (ldma _ rfl rfl u64 rfl (by kernel_rfl : _ = some 2) (fun _ => rfl) (by decide) rfl (by assumption)) ?_
   refine Kj rfl (Rm rfl rfl) (Kj rfl (Rm rfl rfl) ?_)
   refine Kj rfl (Ia rfl rfl rfl u71 (by kernel_rfl : _ = some 2) (by omega) (by (rw [flatMap_len _ _ 2 (fun _ => rfl)]; omega))) ?_
   refine Kj rfl (ldma _ rfl rfl u64 rfl (by kernel_rfl : _ = some 2) (fun _ => rfl) (by decide) rfl (by assumption)) ?_
   refine Kj rfl (rd_neA rfl rfl rfl (by kernel_rfl) (fun w => eql_api_Int _ _ _ _ w)) ?_
   refine WJ.nil ?_
   refine Nt ?_
   refine Cd rfl (fun hc25 => ?_) (fun hc25 => ?_)
   ·(try simp only [sB] at hc25)
    have hne : ¬ x = y := fun h => by rw [h] at hc25; simp at hc25
    refine Cs (Ka rfl (Nt (Ce (Xf (Xb (Xb (Xf (Xb ?_))))))))
    exact R1 rfl rfl (by rw [decide_eq_false hne]; rfl)
   ·(try simp only [sB] at hc25)
    refine Ck (Xd (Xa (Cg (Km rfl (Kq rfl (Rz rfl rfl rfl (by omega)) (Ka rfl (Nn ?_)))))))
    refine Ly (i + 1) (by (try dsimp only); omega) (S2 rfl rfl) (by refine (Sc ?_ (S0 _)) <;> (rfl)) ?_ (by (exact fun _ h => h))
    (try dsimp only)
    exact ⟨hil, by
     rw [hyt x hil, hyt y hiy, ht]; congr 2; exact Prod.ext_iff.2 (by simpa using hc25)⟩
  ·(try simp only [sB] at hc14)
   refine Cx (Xc (Xc (Xe ?_)))
   obtain rfl : i = x.length := by omega
   have heq : x = y := by rw [List.take_length, hle, List.take_length] at ht; exact ht
   refine Xa (Cs (Ka rfl (Nt (Ce ?_))))
   exact R1 rfl rfl (by rw [decide_eq_true heq]; rfl)
def few14 (k : PK) : Prop := k.1.1.length ≤ 8 ∧ k.1.2.length ≤ 8 ∧ k.2.1.length ≤ 9 ∧ k.2.2.length ≤ 9
instance (k : PK) : Decidable (few14 k) := inferInstanceAs (Decidable (_ ∧ _))
theorem few14_c {k : PK} {w : World} :
  Cw 35 #[pkV k] w (.bool (decide (few14 k))) := by
 refine En [] [(0, pkV k)] Tryz.func35 rfl Tryz.ntmps35 rfl (Ac rfl (An _)) Fn ?_
 refine Cs ?_
 refine Kh rfl (Oy rfl rfl) ?_
 intro b1
 refine Ka rfl (Nt (Cs (Kq rfl (Fa (q := 0) rfl rfl u86 rfl rfl) (Kq rfl (Fa (q := 0) rfl rfl u24 rfl rfl) (Kq rfl (Ld rfl rfl .tc u22) ?_)))))
 refine Kq rfl (rd_slen rfl rfl u22) (Kq rfl (rd_leq rfl rfl rfl) (Km rfl ?_))
 refine Nb 8 rfl (fun hg8 => ?_) (fun hg8 => ?_)
 ·(try simp only [sB] at hg8)
  refine Kq rfl (Fa (q := 0) rfl rfl u86 rfl rfl) (Kq rfl (Fa (q := 1) rfl rfl u24 rfl rfl) (Kq rfl (Ld rfl rfl .tc u22) ?_))
  refine Kq rfl (rd_slen rfl rfl u22) (Kq rfl (rd_leq rfl rfl rfl) (Kq rfl (Rp rfl rfl rfl) (Km rfl ?_)))
  refine Nb 15 rfl (fun hg15 => ?_) (fun hg15 => ?_)
  ·(try simp only [sB] at hg15)
   refine Kq rfl (Fa (q := 2) rfl rfl u86 rfl rfl) (Kq rfl (Ld rfl rfl .tc u22) ?_)
   refine Kq rfl (rd_slen rfl rfl u22) (Kq rfl (rd_leq rfl rfl rfl) (Kq rfl (Rp rfl rfl rfl) (Km rfl ?_)))
   refine Nb 21 rfl (fun hg21 => ?_) (fun hg21 => ?_)
   ·(try simp only [sB] at hg21)
    refine Kq rfl (Fa (q := 3) rfl rfl u86 rfl rfl) (Kq rfl (Ld rfl rfl .tc u22) ?_)
    refine Kq rfl (rd_slen rfl rfl u22) (Kq rfl (rd_leq rfl rfl rfl) (Kq rfl (Rp rfl rfl rfl) (Ka rfl (Nt (Ce ?_)))))
    exact R1 rfl rfl (by (simp only [tup, few14]; (refine congrArg (fun b => Ending.returned (Value.bool b)) (decide_eq_decide.2 ?_); omega)))
   ·(try simp only [sB] at hg21)
    refine Kt rfl (Kt rfl (Kt rfl (Kt rfl (Kq rfl (Rq rfl rfl rfl) (Ka rfl (Nt (Ce ?_)))))))
    exact R1 rfl rfl (by (simp only [tup, few14]; (refine congrArg (fun b => Ending.returned (Value.bool b)) (decide_eq_false ?_).symm; omega)))
  ·(try simp only [sB] at hg15)
   refine Kt rfl (Kt rfl (Kt rfl (Kt rfl (Kq rfl (Rq rfl rfl rfl) (Km rfl (Kt rfl (Kt rfl (Kt rfl (Kt rfl (Kq rfl (Rq rfl rfl rfl) (Ka rfl (Nt (Ce ?_)))))))))))))
   exact R1 rfl rfl (by (simp only [tup, few14]; (refine congrArg (fun b => Ending.returned (Value.bool b)) (decide_eq_false ?_).symm; omega)))
 ·(try simp only [sB] at hg8)
  refine Kt rfl (Kt rfl (Kt rfl (Kt rfl (Kt rfl (Kq rfl (Rq rfl rfl rfl) (Km rfl (Kt rfl (Kt rfl (Kt rfl (Kt rfl (Kq rfl (Rq rfl rfl rfl) (Km rfl (Kt rfl (Kt rfl (Kt rfl (Kt rfl (Kq rfl (Rq rfl rfl rfl) (Ka rfl (Nt (Ce ?_))))))))))))))))))))
  exact R1 rfl rfl (by (simp only [tup, few14]; (refine congrArg (fun b => Ending.returned (Value.bool b)) (decide_eq_false ?_).symm; omega)))
def shP (l : List Bs) : Prop := ∀ x ∈ l, x.length ≤ 16
instance (l : List Bs) : Decidable (shP l) := inferInstanceAs (Decidable (∀ x ∈ l, _))
theorem short26_c {l : List Bs} {a : Option Addr} {c : Nat} {w : World} {ok : Nat → Prop} (hF1 : (Fact.sl a (strs l)).holds ok w) (hl : l.length ≤ 140737488351232) :
  Cw 36 #[.slice a l.length c] w (.bool (decide (shP l))) := by
 refine En [Fact.sl a (strs l)] [(0, .slice a l.length c)] Tryz.func36 rfl Tryz.ntmps36 rfl (Ac rfl (An _)) (Fc (fact_any hF1) Fn) ?_
 refine Cs (Ka rfl (Nt (Cq (Cs (Ka rfl (Nt (Cb ?_)))))))
 refine Lp (σ := Nat) [(0, _)] (fun gq => [(3, .int .i64 (gq : Int))]) (fun gq => gq ≤ l.length ∧ ∀ x ∈ l.take gq, x.length ≤ 16) (fun gq => l.length - gq) (0) (S1 rfl) (S1 rfl) (by (try dsimp only); exact ⟨Nat.zero_le _, by simp⟩) ?_
 rintro i hinv1; (try dsimp only at hinv1 ⊢)
 obtain ⟨hi, hok⟩ := hinv1
 refine Cq (Cs (Km rfl (Km rfl (Kq rfl (rd_len rfl rfl u31) (Kq rfl (rd_lss rfl rfl rfl) (Nt ?_))))))
 refine Cd rfl (fun hc7 => ?_) (fun hc7 => ?_)
 ·(try simp only [sB] at hc7)
  have hil : i < l.length := by omega
  obtain ⟨y, hy⟩ : ∃ y, Keep (y = l.getD i default) := ⟨_, rfl⟩
  refine Ck (Xa (Cq (Cb (Cs (Km rfl (Km rfl ?_))))))
  refine Kq rfl (Ib rfl rfl rfl u31 (by omega) (by (rw [List.length_map]; omega))) ?_
  refine Kq rfl (ldm rfl rfl u22 rfl (by assumption)) ?_
  refine Ns 13 rfl (v' := .string (S (y))) (congrArg (fun l => Value.string (S l)) (by rw [show y = _ from hy])) ?_
  refine Kq rfl (rd_slen rfl rfl u22) (Kq rfl (rd_gtr rfl rfl rfl) (Nt ?_))
  refine Cd rfl (fun hc15 => ?_) (fun hc15 => ?_)
  ·(try simp only [sB] at hc15)
   have hn : ¬ shP l := fun h => by have := h _ (getD_mem l i hil); rw [← show y = _ from hy] at this; omega
   refine Cs (Ka rfl (Nt (Ce (Xf (Xb (Xb (Xf (Xb ?_))))))))
   exact R1 rfl rfl (by rw [decide_eq_false hn]; rfl)
  ·(try simp only [sB] at hc15)
   refine Ck (Xd (Xa (Cg (Km rfl (Kq rfl (Rz rfl rfl rfl (by omega)) (Ka rfl (Nn ?_)))))))
   refine Ly (i + 1) (by (try dsimp only); omega) (S1 rfl) (by refine (Sc ?_ (S0 _)) <;> (rfl)) ?_ (by (exact fun _ h => h))
   (try dsimp only)
   exact ⟨hil, all_take hil hok (by rw [← show y = _ from hy]; omega)⟩
 ·(try simp only [sB] at hc7)
  refine Cx (Xc (Xc (Xe ?_)))
  obtain rfl : i = l.length := by omega
  rw [List.take_length] at hok
  refine Xa (Cs (Ka rfl (Nt (Ce ?_))))
  exact R1 rfl rfl (by rw [decide_eq_true (show shP l from hok)]; rfl)
structure IC where
 k : PK
 a : Bs
 b : Bs
 c : Bs
 v : Bs
 r : Bs
abbrev icV (c : IC) : Value := .agg #[.string (S c.k.1.1), .string (S c.k.1.2), .string (S c.k.2.1), .string (S c.k.2.2), .string (S c.a), .string (S c.b), .string (S c.c), .string (S c.v), .string (S c.r)]
def fewC (c : IC) : Prop := few14 c.k ∧ shP [c.a, c.b, c.c] ∧ c.v.length ≤ 140 ∧ c.r.length ≤ 140
instance (c : IC) : Decidable (fewC c) := inferInstanceAs (Decidable (_ ∧ _))
def kS : PK := ((canon 77, []), canon 4, canon 9)
theorem example26_c {w : World} :
  Cw 84 #[] w (pkV kS) := by
 refine En [] [] Tryz.func84 rfl Tryz.ntmps84 rfl (An _) Fn ?_
 refine Cs ?_
 refine Kh rfl (Oz [.string (S []), .string (S []), .string (S []), .string (S [])] rfl) ?_
 intro b0
 refine Nt (Cs ?_)
 refine Ku rfl (Oc rfl rfl (Kv fun w hS => of_c (n := 77) (by omega))) ?_
 refine Kq rfl (Kb [[.string (S [])], [.string (S [])]] rfl rfl) ?_
 refine Ku rfl (Oc rfl rfl (Kv fun w hS => of_c (n := 4) (by omega))) ?_
 refine Ku rfl (Oc rfl rfl (Kv fun w hS => of_c (n := 9) (by omega))) ?_
 refine Kq rfl (Kb [[.string (S []), .string (S [])], [.string (S [])], [.string (S [])]] rfl rfl) ?_
 refine Nu rfl rfl (Sa rfl rfl rfl .tc) ?_
 refine Nt (Ce ?_)
 exact Rn rfl (.agg rfl .tc u86 rfl (by kernel_rfl) .nil) fun w' hS => ⟨by rfl, hS.below⟩
theorem open26_c {m r : Int} {w : World} (h1 : -9223372036854775808 ≤ m ∧ m ≤ 9223372036854775807) (h2 : -9223372036854775808 ≤ r ∧ r ≤ 9223372036854775807) :
  Cw 86 #[.int .i64 m, .int .i64 r] w (opV (ofZ m, ofZ r)) := by
 refine En [] [(0, .int .i64 m), (1, .int .i64 r)] Tryz.func86 rfl Tryz.ntmps86 rfl (Ac rfl (Ac rfl (An _))) Fn ?_
 refine Cs ?_
 refine Kh rfl (Oz [.bool false, .string (S []), .bool false, .string (S [])] rfl) ?_
 intro b4
 refine Nt (Cs (Km rfl ?_))
 refine Ku rfl (Oc rfl rfl (Kv fun w hS => zof_c (n := m) (by exact h1.1) (by exact h1.2))) ?_
 refine Km rfl ?_
 refine Ku rfl (Oc rfl rfl (Kv fun w hS => zof_c (n := r) (by exact h2.1) (by exact h2.2))) ?_
 refine Kq rfl (Kb [[.bool false, .string (S [])], [.bool false, .string (S [])]] rfl rfl) ?_
 refine Nu rfl rfl (Sa rfl rfl rfl .tc) ?_
 refine Nt (Ce ?_)
 exact Rn rfl (.agg rfl .tc u92 rfl (by kernel_rfl) .nil) fun w' hS => ⟨by rfl, hS.below⟩
def saC (m : Sm) : Prop := m.1.length ≤ 100000 ∧ m.2.1.length ≤ 100000 ∧ m.2.2.length ≤ 100000 ∧ (∀ q ∈ m.2.2, q.2.2.length ≤ 100000) ∧ ∀ g ∈ m.1, g.1.length ≤ 8
instance (m : Sm) : Decidable (saC m) := inferInstanceAs (Decidable (_ ∧ _))
theorem saL_core {s : SA} (h : saC s.core) : saL s := ⟨h.1, h.2.1, by have := h.2.2.1; simpa using this, forall_qa.1 h.2.2.2.1, h.2.2.2.2⟩
theorem aw1 : knS kS (canon 67) (canon 5) (canon 3) = (knQ kS (canon 67) (canon 5) (canon 3), 0) := by decide +kernel
theorem aw2 : hldS (knQ kS (canon 67) (canon 5) (canon 3)) [ofZ 2, ofZ 1] = (true, 0) := by decide +kernel
theorem aw3 : pwS (ofZ 2, ofZ 1) (ofZ 3, ofZ 2) (ofZ 6, ofZ 5) = ([ofZ 3, ofZ 2, ofZ 2], 0) := by decide +kernel
theorem aw4 : prS kS (canon 67) (canon 1) (canon 4) (canon 5) (canon 3) = (prQ kS (canon 67) (canon 1) (canon 4) (canon 5) (canon 3) (canon 18), 0) := by decide +kernel
theorem infR : ∀ {a b : List Fact} {x : Fact}, InF b x → InF (a ++ b) x
 | [], _, _, h => h
 | _ :: a, _, _, h => .there (infR h)
instance (priority := low) hasF_app {a b : List Fact} {x : Option Addr} {xs : List Value} [h : HasF b x xs] : HasF (a ++ b) x xs := ⟨infR h.h⟩
theorem awake26_c {w : World} :
  Cw 37 #[] w (.bool true) := by
 refine En [] [] Tryz.func37 rfl Tryz.ntmps37 rfl (An _) Fn ?_
 refine Cs (Ka rfl (Nt (Cs ?_)))
 refine Ku rfl (Oc rfl rfl (Kv fun w hS => example26_c)) ?_
 refine Ku rfl (Oc rfl rfl (Kv fun w hS => of_c (n := 67) (by omega))) ?_
 refine Ku rfl (Oc rfl rfl (Kv fun w hS => of_c (n := 5) (by omega))) ?_
 refine Ku rfl (Oc rfl rfl (Kv fun w hS => of_c (n := 3) (by omega))) ?_
 refine Kh rfl (Oc rfl rfl (keep_ff fun w hS => icknows_c (k := kS) (c := canon 67) (v := canon 5) (r := canon 3) (by decide +kernel))) ?_
 rintro s14
 refine WL.pu ?_
 intro hg14; (try dsimp only [List.cons_append, List.nil_append] at hg14 ⊢)
 refine Km rfl (Kq rfl (Re rfl rfl rfl) (Kq rfl (Re rfl rfl rfl) ?_))
 refine Kh rfl (Oz [.slice none 0 0, .slice none 0 0, .slice none 0 0] rfl) ?_
 intro b1
 refine Nu rfl rfl (Sa rfl rfl rfl .tc) ?_
 refine Ka rfl (Nt (Cq ?_))
 refine Cf [1, 2, 0, 3, 4, 5, 6, 7, 8, 9] [] [0, 1, 1, 3, 1, 0, 0, 0, 0, 0] (by kernel_rfl) (by kernel_rfl) rfl ?_
 refine Jv rfl rfl rfl rfl rfl (fun ext => Oc rfl rfl (Kv fun w hS => zof_c (n := 2) (by omega) (by omega))) ?_
 refine Jv rfl rfl rfl rfl rfl (fun ext => Oc rfl rfl (Kv fun w hS => zof_c (n := 1) (by omega) (by omega))) ?_
 have hc9 : s14.core = knQ kS (canon 67) (canon 5) (canon 3) := hg14.trans (congrArg (·.1) aw1)
 refine Kj rfl (lda rfl rfl .tc u52 rfl ?_) ?_
 ·kernel_rfl
 refine Jf rfl rfl rfl rfl rfl (fr_bsN rfl rfl u71 (by kernel_rfl : _ = some (some (.agg #[.bool false, .string (S [])]), 2, 24)) (by kernel_rfl) (by decide) rfl rfl (by (simp [Value.cells]; done)) (by (simp only [List.map, Value.cells, List.flatMap_cons, List.flatMap_nil, List.append_nil, List.toList_toArray]; rfl)) (by decide)) ?_
 intro b21
 refine Jv rfl rfl rfl rfl rfl (fun ext => Oc rfl rfl (Kv fun w hS => (by have := holds_c (w := w) (s := s14) (ws := [ofZ 2, ofZ 1]) (a := some ⟨b21, 0, none⟩) (c := 2) hS.sl hS.sl hS.sl hS.os hS.more (saL_core (by rw [hc9]; decide +kernel)) (by decide); rw [hc9, aw2] at this; exact this))) ?_
 refine Kj rfl (Rm rfl rfl) (Kj rfl (Re rfl rfl rfl) (Kj rfl (Re rfl rfl rfl) (Kj rfl (Ra rfl rfl) (Kj rfl (Ra rfl rfl) ?_))))
 refine WJ.nil ?_
 refine Nt (Cs ?_)
 refine Ku rfl (Oc rfl rfl (Kv fun w hS => open26_c (m := 2) (r := 1) (by omega) (by omega))) ?_
 refine Ku rfl (Oc rfl rfl (Kv fun w hS => open26_c (m := 3) (r := 2) (by omega) (by omega))) ?_
 refine Ku rfl (Oc rfl rfl (Kv fun w hS => open26_c (m := 6) (r := 5) (by omega) (by omega))) ?_
 refine Kh rfl (Oc rfl rfl (keep_f1 (val := fun g => .tuple #[g.val 3, .int .i64 0]) (p := fun g => g.cap = 3 + g.sp.length) (xs := ints [ofZ 3, ofZ 2, ofZ 2]) (T := 64) fun w hS => (by have := icpw_c (w := w) (a := (ofZ 2, ofZ 1)) (b := (ofZ 3, ofZ 2)) (c := (ofZ 6, ofZ 5)); rw [aw3] at this; exact this))) ?_
 intro g25; refine WL.pu ?_; intro hg25
 refine Km rfl (Kq rfl (Re rfl rfl rfl) (Kq rfl (Re rfl rfl rfl) (Ka rfl (Ka rfl (Nt (Cs ?_))))))
 refine Ku rfl (Oc rfl rfl (Kv fun w hS => example26_c)) ?_
 refine Ku rfl (Oc rfl rfl (Kv fun w hS => of_c (n := 67) (by omega))) ?_
 refine Ku rfl (Oc rfl rfl (Kv fun w hS => of_c (n := 1) (by omega))) ?_
 refine Ku rfl (Oc rfl rfl (Kv fun w hS => of_c (n := 4) (by omega))) ?_
 refine Ku rfl (Oc rfl rfl (Kv fun w hS => of_c (n := 5) (by omega))) ?_
 refine Ku rfl (Oc rfl rfl (Kv fun w hS => of_c (n := 3) (by omega))) ?_
 refine Kh rfl (Oc rfl rfl (keep_ff fun w hS => icprod_c (k := kS) (a := canon 67) (b := canon 1) (c := canon 4) (v := canon 5) (r := canon 3) (by decide +kernel))) ?_
 rintro s39
 refine WL.pu ?_
 intro hg39; (try dsimp only [List.cons_append, List.nil_append] at hg39 ⊢)
 refine Km rfl (Kq rfl (Re rfl rfl rfl) (Kq rfl (Re rfl rfl rfl) ?_))
 refine Kh rfl (Oz [.slice none 0 0, .slice none 0 0, .slice none 0 0] rfl) ?_
 intro b7
 refine Nu rfl rfl (Sa rfl rfl rfl .tc) ?_
 refine Ka rfl (Nt (Cq ?_))
 refine Cf [0, 1, 2, 3, 4, 5, 6, 7, 8, 9, 10, 11, 12, 13, 15, 16, 17, 14, 18, 19, 20, 21, 22, 23, 24, 25, 26, 27, 28, 29, 30, 31, 37, 32, 33, 34, 35, 36, 38, 39, 40] [] [0, 0, 0, 0, 0, 0, 0, 0, 0, 0, 0, 0, 0, 0, 0, 1, 1, 1, 3, 1, 0, 0, 0, 0, 0, 0, 0, 0, 0, 0, 0, 0, 0, 0, 0, 0, 0, 1, 0, 0, 0] (by kernel_rfl) (by kernel_rfl) rfl ?_
 have hc32 : s39.core = prQ kS (canon 67) (canon 1) (canon 4) (canon 5) (canon 3) (canon 18) := hg39.trans (congrArg (·.1) aw4)
 obtain ⟨gs, vs, es, ga, gc, va, vc, ea, ec⟩ := s39
 obtain rfl : vs = [canon 5, canon 3, canon 18] := congrArg (·.2.1) hc32
 refine Kj rfl (Rm rfl rfl) (Kj rfl (rd_eql rfl rfl rfl) ?_)
 refine WJ.set 43 rfl (v' := .bool true) (by rw [aw1]; rfl) ?_
 refine Kj rfl (Rm rfl rfl) (Kj rfl (Rm rfl rfl) (Kj rfl (rd_eql rfl rfl rfl) (Kj rfl (Rp rfl rfl rfl) (Kj rfl (Rm rfl rfl) ?_))))
 refine WJ.set 48 rfl (v' := .bool true) (by rfl) ?_
 refine Kj rfl (Rm rfl rfl) (Kj rfl (Rp rfl rfl rfl) (Kj rfl (Rm rfl rfl) ?_))
 refine WJ.set 51 rfl (v' := .bool true) (by rfl) ?_
 refine Kj rfl (Rm rfl rfl) (Kj rfl (rd_eql rfl rfl rfl) (Kj rfl (Rp rfl rfl rfl) (Kj rfl (Rm rfl rfl) ?_)))
 refine WJ.set 55 rfl (v' := .bool true) (by rfl) ?_
 refine Jv rfl rfl rfl rfl rfl (fun ext => Oc rfl rfl (Kv fun w hS => zof_c (n := 3) (by omega) (by omega))) ?_
 refine Jv rfl rfl rfl rfl rfl (fun ext => Oc rfl rfl (Kv fun w hS => zof_c (n := 2) (by omega) (by omega))) ?_
 refine Jv rfl rfl rfl rfl rfl (fun ext => Oc rfl rfl (Kv fun w hS => zof_c (n := 2) (by omega) (by omega))) ?_
 refine Kj rfl (Rm rfl rfl) ?_
 refine Jf rfl rfl rfl rfl rfl (fr_bsN rfl rfl u71 (by kernel_rfl : _ = some (some (.agg #[.bool false, .string (S [])]), 2, 24)) (by kernel_rfl) (by decide) rfl rfl (by (simp [Value.cells]; done)) (by (simp only [List.map, Value.cells, List.flatMap_cons, List.flatMap_nil, List.append_nil, List.toList_toArray]; rfl)) (by decide)) ?_
 intro b60
 refine Jv rfl rfl rfl rfl rfl (fun ext => Oc rfl rfl (Kv fun w hS => same_c (x := [ofZ 3, ofZ 2, ofZ 2]) (y := [ofZ 3, ofZ 2, ofZ 2]) (by (exact hS.sl)) (by (exact hS.os)) (by (simp <;> omega)))) ?_
 refine Kj rfl (Rp rfl rfl rfl) (Kj rfl (Rm rfl rfl) ?_)
 refine WJ.set 63 rfl (v' := .bool true) (by rfl) ?_
 refine Kj rfl (Rm rfl rfl) (Kj rfl (rd_eql rfl rfl rfl) ?_)
 refine WJ.set 65 rfl (v' := .bool true) (by rw [aw4]; rfl) ?_
 refine Kj rfl (Rp rfl rfl rfl) (Kj rfl (Rm rfl rfl) (Kj rfl (Fa (q := 1) rfl rfl u52 rfl rfl) (Kj rfl (Ld rfl rfl .tc u49) ?_)))
 refine Kj rfl (rd_len rfl rfl u49) (Kj rfl (rd_eql rfl rfl rfl) (Kj rfl (Rp rfl rfl rfl) (Kj rfl (Rm rfl rfl) ?_)))
 refine WJ.set 73 rfl (v' := .bool true) (by rfl) ?_
 refine Jv rfl rfl rfl rfl rfl (fun ext => Oc rfl rfl (Kv fun w hS => of_c (n := 18) (by omega))) ?_
 refine Kj rfl (Fa (q := 1) rfl rfl u52 rfl rfl) (Kj rfl (Ld rfl rfl .tc u49) ?_)
 refine Kj rfl (Ib rfl rfl rfl u49 (by (simp <;> omega)) (by (simp <;> omega))) ?_
 (refine Kj rfl (rd_fa rfl rfl u117 rfl (by kernel_rfl) (by (try simp only [sN, Int.reduceToNat, Nat.reduceAdd, Nat.reduceMul, Nat.reduceSub]); rfl)) ?_)
 refine Kj rfl (ldmf (l := [canon 5, canon 3, canon 18]) (f := vrC) (sz := 1) 2 0 rfl rfl u22 rfl (fun _ => rfl) rfl (by decide) (by decide) rfl) ?_
 refine Kj rfl (rd_seq rfl rfl rfl) (Kj rfl (Rp rfl rfl rfl) (Kj rfl (Ra rfl rfl) ?_))
 refine WJ.nil ?_
 refine Nt (Ce ?_)
 exact R1 rfl rfl (by rfl)
theorem eql_api_Opening (p : Bool) (a : Bs) (q : Bool) (b : Bs) (p' : Bool) (a' : Bs) (q' : Bool) (b' : Bs) (w : World) : (binOp .eql 92 (.agg #[.bool p, .string (S a), .bool q, .string (S b)]) (.agg #[.bool p', .string (S a'), .bool q', .string (S b')])).run Tryz.prog w = .ok (.bool (decide ((p = p' ∧ a = a') ∧ q = q' ∧ b = b'))) w := by
 rw [run_eql_struct, run_equalIn_agg w _ _ _ _ (by kernel_rfl) (by kernel_rfl)]
 have hf : (Tryz.prog.fieldsOf 92).toList = [⟨"Value", 64, 0, false, "", "", 0⟩, ⟨"Random", 64, 2, false, "", "", 24⟩] := by kernel_rfl
 have hs : (Tryz.prog.info? 64).map (·.size) = some 2 := by kernel_rfl
 have e1 : ∀ (u v x y : Value) (w : World), (part 64 #[u, v, x, y] 0).run Tryz.prog w = .ok (.agg #[u, v]) w := fun u v x y w => by
  obtain ⟨i, hi1, hi2⟩ := Option.map_eq_some_iff.1 hs
  simp [part, isAgg, run_underlying u64, run_sizeOf w hi1, hi2]
 have e2 : ∀ (u v x y : Value) (w : World), (part 64 #[u, v, x, y] 2).run Tryz.prog w = .ok (.agg #[x, y]) w := fun u v x y w => by
  obtain ⟨i, hi1, hi2⟩ := Option.map_eq_some_iff.1 hs
  simp [part, isAgg, run_underlying u64, run_sizeOf w hi1, hi2]
 rw [hf]
 simp only [Op.eqFields, Sem.run_bind, e1, e2, eq_int, Result.andThen_ok, Sem.run_ite, Sem.run_pure]
 by_cases h1 : p = p' ∧ a = a' <;> by_cases h2 : q = q' ∧ b = b' <;> simp [h1, h2]
theorem draw_valsK (t : Tp) (n : Bs) : (drawS t n).2.1.vals.length ≤ t.vals.length := by
 unfold drawS; repeat' split
 all_goals simp [zeroT]
theorem rnd_vals (k : PK) (m : Zs) (v : Bs) (t : Tp) : (rndS k m v t).1.2.2.vals.length ≤ t.vals.length := by
 unfold rndS; split
 ·simp [zeroT]
 ·split
  ·simp [zeroT]
  ·split
   ·simp [zeroT]
   ·show (belowS t v).2.1.vals.length ≤ _
    unfold belowS; split
    ·simp [zeroT]
    ·exact draw_valsK t v
theorem ickeys_l {q : IC} {m : Zs} {t : Tp} {a : Option Addr} {cap : Nat} {w : World} {ok : Nat → Prop} (hF1 : (Fact.sl a (strs t.vals)).holds ok w) (hl : t.vals.length ≤ 9223372036854775807) (hT : Tab w) :
  Cw 10 #[icV q, zV m, t.v (.slice a t.vals.length cap)] w (.bool true) := by
 refine En [Fact.sl a (strs t.vals)] [(0, icV q), (1, zV m), (2, t.v (.slice a t.vals.length cap))] Tryz.func10 rfl Tryz.ntmps10 rfl (Ac rfl (Ac rfl (Ac rfl (An _)))) (Fc (fact_any hF1) Fn) ?_
 refine Cs ?_
 refine Kh rfl (Oy rfl rfl) ?_
 intro b3
 refine Kh rfl (Oy rfl rfl) ?_
 intro b4
 refine Kh rfl (Oy rfl rfl) ?_
 intro b5
 refine Ka rfl (Nt (Cq ?_))
 refine WC.joinP (σ := Unit) [(3, _), (4, _), (5, _)] (fun gq => [(32, .bool (decide (¬ (few14 q.k ∧ shP [m.2, q.v] ∧ fewT t))))]) (fun gq => True) (S3 rfl rfl rfl) ?_ ?_
 ·skip
  refine Cg (Kq rfl (Fa (q := 0) rfl rfl u88 rfl rfl) ?_)
  refine Kq rfl (ldp rfl rfl .tc u86 rfl (by kernel_rfl : _ = some 4) (by rfl) (by rfl)) ?_
  refine Ku rfl (Oc rfl rfl (Kv fun w hS => few14_c (k := q.k))) ?_
  refine Kq rfl (Rt rfl rfl) (Km rfl ?_)
  refine Nb 19 rfl (fun hg19 => ?_) (fun hg19 => ?_)
  ·(try simp only [sB] at hg19)
   refine Kt rfl (Kt rfl (Kt rfl (Kt rfl (Kt rfl (Kt rfl (Kt rfl (Kq rfl (Rp rfl rfl rfl) (Km rfl (Kt rfl (Kt rfl (Kt rfl (Kq rfl (Rp rfl rfl rfl) (Nn ?_)))))))))))))
   refine WX.joinP (()) (S3 rfl rfl rfl) (by refine (Sc ?_ (S0 _)) <;> ((refine slot_b rfl ?_; (try dsimp only); (simp [*]; done)))) ?_ (by (exact fun _ h => h))
   (try dsimp only)
   done
  ·(try simp only [sB] at hg19)
   refine Kq rfl (Fa (q := 1) rfl rfl u64 rfl rfl) (Kq rfl (Ld rfl rfl .tc u22) ?_)
   refine Kq rfl (Fa (q := 7) rfl rfl u88 rfl rfl) (Kq rfl (Ld rfl rfl .tc u22) ?_)
   refine Kh rfl (og_bs1 rfl rfl u31 (by kernel_rfl : _ = some (some (.string (S [])), 1, 16)) rfl (by simp only [List.map]; rfl) rfl rfl ?_ (by decide)) ?_
   ·simp [Value.cells]
   intro b24
   refine Ku rfl (Oc rfl rfl (Kv fun w hS => short26_c (l := [m.2, q.v]) (by (exact hS.os)) (by (simp <;> omega)))) ?_
   refine Kq rfl (Rt rfl rfl) (Kq rfl (Rq rfl rfl rfl) (Km rfl ?_))
   refine Nb 28 rfl (fun hg28 => ?_) (fun hg28 => ?_)
   ·(try simp only [sB] at hg28)
    refine Kt rfl (Kt rfl (Kt rfl (Kq rfl (Rp rfl rfl rfl) (Nn ?_))))
    refine WX.joinP (()) (S3 rfl rfl rfl) (by refine (Sc ?_ (S0 _)) <;> ((refine slot_b rfl ?_; (try dsimp only); (simp [*]; done)))) ?_ (by (exact st_sub))
    (try dsimp only)
    done
   ·(try simp only [sB] at hg28)
    refine Kq rfl (lda rfl rfl .tc u33 rfl ?_) ?_
    ·kernel_rfl
    refine Ku rfl (Oc rfl rfl (Kv fun w hS => fewT_c (t := t) (by (exact hS.sl)) (by assumption))) ?_
    refine Kq rfl (Rt rfl rfl) (Kq rfl (Rq rfl rfl rfl) (Nn ?_))
    refine WX.joinP (()) (S3 rfl rfl rfl) (by refine (Sc ?_ (S0 _)) <;> ((refine slot_b rfl ?_; (try dsimp only); (simp [*]; done)))) ?_ (by (exact st_sub))
    (try dsimp only)
    done
 ·rintro _ hmeet; (try dsimp only at hmeet ⊢)
  refine Cd rfl (fun hc32 => ?_) (fun hc32 => ?_)
  ·(try simp only [sB] at hc32)
   refine Cs ?_
   refine Ku rfl (Oc rfl rfl (Kv fun w hS => awake26_c)) ?_
   refine Ka rfl (Nt (Ce (Xb ?_)))
   exact R1 rfl rfl (by rfl)
  ·(try simp only [sB] at hc32)
   obtain ⟨hfw, _, hft⟩ := Decidable.not_not.1 hc32
   have hm8 := hfw.1
   have hv := hft.1; have hse := hft.2.1
   obtain ⟨r, hr⟩ : ∃ r, r = rndS q.k m q.v t := ⟨_, rfl⟩
   have hrv : r.1.2.2.vals.length ≤ t.vals.length := by rw [hr]; exact rnd_vals q.k m q.v t
   refine Ck (Xa (Cs (Kq rfl (Fa (q := 0) rfl rfl u88 rfl rfl) ?_)))
   refine Kq rfl (ldp rfl rfl .tc u86 rfl (by kernel_rfl : _ = some 4) (by rfl) (by rfl)) ?_
   refine Kq rfl (lda rfl rfl .tc u64 rfl ?_) ?_
   ·kernel_rfl
   refine Kq rfl (Fa (q := 7) rfl rfl u88 rfl rfl) (Kq rfl (Ld rfl rfl .tc u22) ?_)
   refine Kq rfl (lda rfl rfl .tc u33 rfl ?_) ?_
   ·kernel_rfl
   refine Kh rfl (Oc rfl rfl (keep_f1 (val := fun g => .tuple #[.string (S r.1.1), opV r.1.2.1, r.1.2.2.v (g.val r.1.2.2.vals.length), .int .i64 r.2]) (p := fun g => g.cap = r.1.2.2.vals.length + g.sp.length) (xs := strs r.1.2.2.vals) (T := 22) fun w hS => (by have := icrandom_c (w := w) (k := q.k) (m := m) (v := q.v) (t := t) (a := a) (cap := cap) hS.sl (by omega) (by omega) hm8 (tab_st hT hS); rw [← hr] at this; exact this))) ?_
   intro g41; refine WL.pu ?_; intro hg41
   refine Km rfl (Kq rfl (Re rfl rfl rfl) (Kq rfl (Re rfl rfl rfl) (Kq rfl (Re rfl rfl rfl) (Kq rfl (Re rfl rfl rfl) ?_))))
   refine Kh rfl (Oz [.bool false, .string (S []), .bool false, .string (S [])] rfl) ?_
   intro b8
   refine Kh rfl (Oz [.slice none 0 0, .string (S []), .int .i64 0] rfl) ?_
   intro b9
   refine Ka rfl ?_
   refine Nu rfl rfl (Sa rfl rfl rfl .tc) ?_
   refine Nu rfl rfl (Sa rfl rfl rfl .tc) ?_
   refine Ka rfl (Nt (Cs (Kq rfl (Fa (q := 0) rfl rfl u88 rfl rfl) ?_)))
   refine Kq rfl (ldp rfl rfl .tc u86 rfl (by kernel_rfl : _ = some 4) (by rfl) (by rfl)) ?_
   refine Kq rfl (lda rfl rfl .tc u64 rfl ?_) ?_
   ·kernel_rfl
   refine Kq rfl (Fa (q := 7) rfl rfl u88 rfl rfl) (Kq rfl (Ld rfl rfl .tc u22) ?_)
   refine Kq rfl (lda rfl rfl .tc u33 rfl ?_) ?_
   ·kernel_rfl
   refine Kh rfl (Oc rfl rfl (keep_f1 (val := fun g => .tuple #[.string (S r.1.1), opV r.1.2.1, r.1.2.2.v (g.val r.1.2.2.vals.length), .int .i64 r.2]) (p := fun g => g.cap = r.1.2.2.vals.length + g.sp.length) (xs := strs r.1.2.2.vals) (T := 22) fun w hS => (by have := ricrandom_c (w := w) (k := q.k) (m := m) (v := q.v) (t := t) (a := a) (cap := cap) hS.sl (by omega) (by omega) hm8; rw [← hr] at this; exact this))) ?_
   intro g53; refine WL.pu ?_; intro hg53
   refine Km rfl (Kq rfl (Re rfl rfl rfl) (Kq rfl (Re rfl rfl rfl) (Kq rfl (Re rfl rfl rfl) (Kq rfl (Re rfl rfl rfl) ?_))))
   refine Kh rfl (Oz [.bool false, .string (S []), .bool false, .string (S [])] rfl) ?_
   intro b12
   refine Kh rfl (Oz [.slice none 0 0, .string (S []), .int .i64 0] rfl) ?_
   intro b13
   refine Ka rfl ?_
   refine Nu rfl rfl (Sa rfl rfl rfl .tc) ?_
   refine Nu rfl rfl (Sa rfl rfl rfl .tc) ?_
   refine Ka rfl (Nt (Cq ?_))
   refine Cf [0, 1, 2, 3, 4, 5, 6, 7, 8, 9, 10, 11, 12, 13, 14, 15, 16, 17, 18, 19, 20, 21, 22, 23, 24, 25, 26, 27, 28, 29, 30] [] [1, 0, 0, 0, 1, 0, 0, 1, 0, 0, 0, 0, 0, 0, 0, 0, 0, 0, 0, 0, 0, 0, 0, 1, 0, 0, 0, 0, 0, 0, 0] (by kernel_rfl) (by kernel_rfl) rfl ?_
   refine Jv rfl rfl rfl rfl rfl (fun ext => Oc rfl rfl (Kv fun w hS => awake26_c)) ?_
   refine Kj rfl (Rm rfl rfl) ?_
   refine WJ.set 59 rfl (v' := .bool true) (by rfl) ?_
   refine Kj rfl (Fa (q := 0) rfl rfl u88 rfl rfl) ?_
   refine Kj rfl (ldp rfl rfl .tc u86 rfl (by kernel_rfl : _ = some 4) (by rfl) (by rfl)) ?_
   refine Jv rfl rfl rfl rfl rfl (fun ext => Oc rfl rfl (Kv fun w hS => icheck_c (k := q.k) (by assumption))) ?_
   refine Kj rfl (Fa (q := 0) rfl rfl u88 rfl rfl) ?_
   refine Kj rfl (ldp rfl rfl .tc u86 rfl (by kernel_rfl : _ = some 4) (by rfl) (by rfl)) ?_
   refine Jv rfl rfl rfl rfl rfl (fun ext => Oc rfl rfl (Kv fun w hS => richeck_c (k := q.k) (by assumption))) ?_
   refine Kj rfl (rd_eql rfl rfl rfl) (Kj rfl (Rp rfl rfl rfl) (Kj rfl (Rm rfl rfl) ?_))
   refine WJ.set 68 rfl (v' := .bool true) (by (exact congrArg Value.bool (by simp [*]; done))) ?_
   refine Kj rfl (Rm rfl rfl) (Kj rfl (Rm rfl rfl) (Kj rfl (rd_seq rfl rfl rfl) (Kj rfl (Rp rfl rfl rfl) (Kj rfl (Rm rfl rfl) ?_))))
   refine WJ.set 73 rfl (v' := .bool true) (by (exact congrArg Value.bool (by simp [*]; done))) ?_
   refine Kj rfl (lda rfl rfl .tc u92 rfl ?_) ?_
   ·kernel_rfl
   refine Kj rfl (lda rfl rfl .tc u92 rfl ?_) ?_
   ·kernel_rfl
   refine Kj rfl (rd_eqA rfl rfl rfl (by kernel_rfl) (fun w => eql_api_Opening _ _ _ _ _ _ _ _ w)) ?_
   refine Kj rfl (Rp rfl rfl rfl) (Kj rfl (Rm rfl rfl) ?_)
   refine WJ.set 78 rfl (v' := .bool true) (by (exact congrArg Value.bool (by simp [*]; done))) ?_
   refine Kj rfl (lda rfl rfl .tc u33 rfl ?_) ?_
   ·kernel_rfl
   refine Kj rfl (lda rfl rfl .tc u33 rfl ?_) ?_
   ·kernel_rfl
   refine Jv rfl rfl rfl rfl rfl (fun ext => Oc rfl rfl (Kv fun w hS => sameT_c (t := r.1.2.2) (u := r.1.2.2) (by (exact hS.sl)) (by (exact hS.sl)) (by omega) (by omega))) ?_
   refine Kj rfl (Rp rfl rfl rfl) (Kj rfl (Rm rfl rfl) ?_)
   refine WJ.set 83 rfl (v' := .bool true) (by (exact congrArg Value.bool (by simp [*]; done))) ?_
   refine Kj rfl (Rm rfl rfl) (Kj rfl (Rm rfl rfl) (Kj rfl (rd_eql rfl rfl rfl) (Kj rfl (Rp rfl rfl rfl) (Kj rfl (Ra rfl rfl) ?_))))
   refine WJ.nil ?_
   refine Nt (Ce ?_)
   exact R1 rfl rfl (by (simp [tup]; done))
theorem laidVars_tail {P : Program} {w : World} {x : String × DataW Unit} {r : List (String × DataW Unit)} {ps : List MemPlace} (h : DataW.LaidVars P w (x :: r) ps) : ∃ q, DataW.LaidVars P w r q := by
 obtain ⟨n, d⟩ := x
 obtain ⟨g, t, cs, fuel, p, q, _, _, _, _, h, _⟩ := h
 exact ⟨q, h⟩
theorem tab_of_vars {P : Program} {W : World} {name : String} {k : IntKind} {zs : List Int} {rest : List (String × DataW Unit)} {ps : List MemPlace} {t e : TypeId} {n : Nat}
  (hty : ((P.globalNamed name).bind fun g => (P.globals[g]?).map (·.type)) = some t) (ht : P.underlying t = some (.array n e)) (he : P.underlying e = some (.int k)) (hce : P.cellsOf e = 1) (hct : P.cellsOf t = n)
  (h : DataW.LaidVars P W ((name, Lib.tabData k zs) :: rest) ps) : Lib.TabIs P W name k zs := by
 obtain ⟨g', t', cs, fuel, p, q, hg', ht', hvar, hd, _, _⟩ := h
 rw [hg', Option.bind_some] at hty
 obtain rfl := Option.some.inj (hty.symm.trans ht')
 unfold Lib.TabIs
 rw [hvar, ← Lib.cells_of_tab ht he hce hct hd]
theorem wf_u8 {n : Int} (h : (Lit.int .u8 n).wf = true) : 0 ≤ n ∧ n ≤ 255 := by
 have e1 : IntKind.u8.min = 0 := by decide
 have e2 : IntKind.u8.max = 255 := by decide
 simp [Lit.wf, e1, e2] at h; omega
theorem wf_i64 {n : Int} (h : (Lit.int .i64 n).wf = true) : -9223372036854775808 ≤ n ∧ n ≤ 9223372036854775807 := by
 have e1 : IntKind.i64.min = -9223372036854775808 := by decide
 have e2 : IntKind.i64.max = 9223372036854775807 := by decide
 simp [Lit.wf, e1, e2] at h; omega
end Go.Proofs.YtmkghgoibnncbaaGreatDoor
namespace Go.Proofs.YtmkghgoibnncbaaGreatDoor
set_option linter.unusedSimpArgs false
set_option linter.unusedVariables false
open Go.ChangeShapes Go.WideShapes Go.ChangeAt Go.RowKit
section
variable {H : Type} {enc : TypeId × Value → H} {P : Program} {w : World} {spare : Nat → Bool} {held : Bool}
theorem cell_block {b i : Nat} {v : Value} (h : w.cell? ⟨b, i, none⟩ = some v) : ∃ cs T fz, w.heap[b]? = some (.cells cs T fz) ∧ cs[i]? = some v := by
 unfold World.cell? at h
 split at h
 ·rename_i cs T fz hb
  refine ⟨cs, T, fz, hb, ?_⟩
  simpa using h
 ·simp at h
theorem slfact_of {a : Addr} {xs : List Value} (h : ∀ i v, xs[i]? = some v → w.cell? (a.add i) = some v) : (Fact.sl (some a) xs).holds (fun _ => True) w := by
 cases xs with
 | nil => exact .inl rfl
 | cons x xs =>
  right
  obtain ⟨b, off, spot⟩ := a
  have hspot : spot = none := by simpa [Addr.add] using World.cell?_spot (h 0 x rfl)
  subst hspot
  have h0 := h 0 x rfl
  rw [Addr.add_lit] at h0
  obtain ⟨cs, T, fz, hb, _⟩ := cell_block h0
  refine ⟨b, off, cs, T, fz, rfl, trivial, hb, fun i hi => ?_⟩
  have h1 := h i _ (List.getElem?_eq_getElem hi)
  rw [Addr.add_lit] at h1
  obtain ⟨cs', T', fz', hb', h2⟩ := cell_block h1
  rw [hb] at hb'; cases hb'
  rw [h2, List.getElem?_eq_getElem hi]
end
end Go.Proofs.YtmkghgoibnncbaaGreatDoor
namespace Go.Proofs.YtmkghgoibnncbaaGreatDoor
set_option linter.unusedSimpArgs false
set_option linter.unusedVariables false
open Go.ChangeShapes Go.WideShapes Go.ChangeAt Go.RowKit
structure Sl (α : Type) where
 a : Option Addr
 l : List α
 cap : Nat
abbrev Sl.val {α : Type} (s : Sl α) : Value := .slice s.a s.l.length s.cap
section
variable {H : Type} {enc : TypeId × Value → H} {P : Program} {w : World} {spare : Nat → Bool} {held : Bool} {fuel : Nat} {t e : TypeId} {cs : List Value} {x : DataW H × List MemPlace}
theorem op_int {k : IntKind} (ht : P.underlying t = some (.int k)) (h : DataW.trod enc P w 0 spare held fuel t cs = some x) : ∃ n : Int, cs = [.int k n] ∧ (Lit.int k n).wf = true := by
 cases fuel with
 | zero => simp [DataW.trod] at h
 | succ n =>
  simp only [DataW.trod, ht] at h
  split at h <;> simp_all
theorem op_bool (ht : P.underlying t = some .bool) (h : DataW.trod enc P w 0 spare held fuel t cs = some x) : ∃ b : Bool, cs = [.bool b] := by
 cases fuel with
 | zero => simp [DataW.trod] at h
 | succ n =>
  simp only [DataW.trod, ht] at h
  split at h <;> simp_all
theorem mapM_all {α β : Type} {f : α → Option β} : ∀ {l : List α} {r : List β}, l.mapM f = some r → ∀ y ∈ l, ∃ z, f y = some z
 | [], _, _, y, hy => by cases hy
 | a :: l, r, h, y, hy => by
  rw [List.mapM_cons] at h
  cases hf : f a with
  | none => simp [hf] at h
  | some z =>
   cases hr : l.mapM f with
   | none => simp [hf, hr] at h
   | some r' =>
    rcases List.mem_cons.1 hy with rfl | hy
    ·exact ⟨z, hf⟩
    ·exact mapM_all hr y hy
theorem op_struct {fs : Array Field} (ht : P.underlying t = some (.struct fs)) (h : DataW.trod enc P w 0 spare held fuel t cs = some x) :
  cs.length = P.cellsOf t ∧ ∃ m, ∀ f ∈ fs.toList, ∃ y, DataW.trod enc P w 0 spare held m f.type ((cs.drop f.offset).take (P.cellsOf f.type)) = some y := by
 cases fuel with
 | zero => simp [DataW.trod] at h
 | succ n =>
  simp only [DataW.trod, ht] at h
  split at h
  ·rename_i hl
   refine ⟨hl, n, fun f hf => ?_⟩
   obtain ⟨xs, hxs, _⟩ := Option.map_eq_some_iff.1 h
   exact mapM_all hxs f hf
  ·cases h
theorem cells?_get {a : Addr} {n : Nat} {ys : List Value} (h : w.cells? 0 a n = some ys) : ys.length = n ∧ ∀ i v, ys[i]? = some v → w.cell? (a.add i) = some v := by
 unfold World.cells? at h
 simp only [Nat.zero_le, if_true] at h
 have key : ∀ (l : List Nat) (ys : List Value), (l.mapM fun i => w.cell? (a.add i)) = some ys → ys.length = l.length ∧ ∀ (i : Nat) (v : Value), ys[i]? = some v → ∃ j : Nat, l[i]? = some j ∧ w.cell? (a.add j) = some v := by
  intro l
  induction l with
  | nil => intro ys h; simp at h; subst h; simp
  | cons j l ih =>
   intro ys h
   rw [List.mapM_cons] at h
   cases hf : w.cell? (a.add j) with
   | none => simp [hf] at h
   | some z =>
    cases hr : l.mapM fun i => w.cell? (a.add i) with
    | none => simp [hf, hr] at h
    | some r' =>
     simp [hf, hr] at h
     subst h
     obtain ⟨h1, h2⟩ := ih r' hr
     refine ⟨by simp [h1], fun i v hi => ?_⟩
     cases i with
     | zero => simp at hi; subst hi; exact ⟨j, rfl, hf⟩
     | succ i => simp at hi; simpa using h2 i v hi
 obtain ⟨h1, h2⟩ := key _ _ h
 refine ⟨by simpa using h1, fun i v hi => ?_⟩
 obtain ⟨j, hj, hc⟩ := h2 i v hi
 have : i < n := by
  have := (List.getElem?_eq_some_iff.1 hj).1
  simpa using this
 rw [List.getElem?_range this] at hj
 cases hj
 exact hc
theorem fm_one {α : Type} (f : α → Value) (l : List α) : l.flatMap (fun x => [f x]) = l.map f := by induction l with | nil => rfl | cons x l ih => simp [ih]
theorem sl_map {α : Type} {a : Option Addr} {l : List α} {f : α → Value} {ok : Nat → Prop} (h : (Fact.sl a (l.flatMap fun x => [f x])).holds ok w) : (Fact.sl a (l.map f)).holds ok w := by rw [fm_one] at h; exact h
end
end Go.Proofs.YtmkghgoibnncbaaGreatDoor
namespace Go.Proofs.YtmkghgoibnncbaaGreatDoor
set_option linter.unusedSimpArgs false
set_option linter.unusedVariables false
open Go.ChangeShapes Go.WideShapes Go.ChangeAt Go.RowKit
def Wt {H : Type} (P : Program) (t : TypeId) (d : DataW H) : Prop := ∀ n ∈ d.weights P t, n ≤ 140737488351232
theorem wt_all {H : Type} {P : Program} {ts : List TypeId} {ds : List (DataW H)} (h : (DataW.weightsEach P ts ds).all (· ≤ reachBytes) = true) {j : Nat} {t : TypeId} {d : DataW H} (ht : ts[j]? = some t) (hd : ds[j]? = some d) : Wt P t d := fun n hn => by
 have := List.all_eq_true.1 h n (DataW.weights_mem_each ht hd n hn)
 exact of_decide_eq_true this
theorem weightsAll_mem {H : Type} {P : Program} {e : TypeId} {d : DataW H} {n : Nat} : ∀ {l : List (DataW H)}, d ∈ l → n ∈ d.weights P e → n ∈ DataW.weightsAll P e l
 | [], h, _ => by cases h
 | x :: l, h, hn => by
  simp only [DataW.weightsAll, List.mem_append]
  rcases List.mem_cons.1 h with rfl | h
  ·exact .inl hn
  ·exact .inr (weightsAll_mem h hn)
theorem mapM_get {α β : Type} {f : α → Option β} : ∀ {l : List α} {r : List β}, l.mapM f = some r → ∀ (i : Nat) y, l[i]? = some y → ∃ z, f y = some z ∧ r[i]? = some z
 | [], _, _, i, y, hy => by simp at hy
 | a :: l, r, h, i, y, hy => by
  rw [List.mapM_cons] at h
  cases hf : f a with
  | none => simp [hf] at h
  | some z =>
   cases hr : l.mapM f with
   | none => simp [hf, hr] at h
   | some r' =>
    simp [hf, hr] at h
    subst h
    cases i with
    | zero => simp at hy; subst hy; exact ⟨z, hf, rfl⟩
    | succ i => simp at hy; simpa using mapM_get hr i y hy
theorem mapM_len {α β : Type} {f : α → Option β} : ∀ {l : List α} {r : List β}, l.mapM f = some r → r.length = l.length
 | [], r, h => by simp at h; subst h; rfl
 | a :: l, r, h => by
  rw [List.mapM_cons] at h
  cases hf : f a with
  | none => simp [hf] at h
  | some z =>
   cases hr : l.mapM f with
   | none => simp [hf, hr] at h
   | some r' => simp [hf, hr] at h; subst h; simp [mapM_len hr]
section
variable {H : Type} {enc : TypeId × Value → H} {P : Program} {w : World} {spare : Nat → Bool} {held : Bool} {fuel : Nat} {t e : TypeId} {cs : List Value} {x : DataW H × List MemPlace}
theorem opz_str (ht : P.underlying t = some .string) (h : DataW.trod enc P w 0 spare held fuel t cs = some x) (hz : Wt P t x.1) : ∃ s : List UInt8, cs = [.string (S s)] ∧ s.length ≤ 140737488351232 := by
 cases fuel with
 | zero => simp [DataW.trod] at h
 | succ n =>
  simp only [DataW.trod, ht] at h
  split at h <;> simp_all
  rename_i s
  obtain ⟨h1, rfl⟩ := h
  refine ⟨s.data.toList, (S_data s).symm, hz _ ?_⟩
  simp [DataW.weights]
theorem opz_struct {fs : Array Field} (ht : P.underlying t = some (.struct fs)) (h : DataW.trod enc P w 0 spare held fuel t cs = some x) (hz : Wt P t x.1) :
  cs.length = P.cellsOf t ∧ ∃ m, ∀ (j : Nat) f, fs.toList[j]? = some f → ∃ y, DataW.trod enc P w 0 spare held m f.type ((cs.drop f.offset).take (P.cellsOf f.type)) = some y ∧ Wt P f.type y.1 := by
 cases fuel with
 | zero => simp [DataW.trod] at h
 | succ n =>
  simp only [DataW.trod, ht] at h
  split at h
  ·rename_i hl
   refine ⟨hl, n, fun j f hf => ?_⟩
   obtain ⟨xs, hxs, rfl⟩ := Option.map_eq_some_iff.1 h
   obtain ⟨z, h1, h2⟩ := mapM_get hxs j f hf
   refine ⟨z, h1, fun n hn => hz n ?_⟩
   simp only [DataW.weights, ht]
   exact DataW.weights_mem_each (j := j) (by rw [List.getElem?_map, hf]; rfl) (by rw [List.getElem?_map, h2]; rfl) n hn
  ·cases h
theorem opz_slice {α : Type} [Inhabited α] {cells : α → List Value} {F : α → Prop} (sz bz : Nat) (hbz : P.bytesOf e = bz) (ht : P.underlying t = some (.slice e)) (hc : P.cellsOf e = sz) (hsz : ∀ a, (cells a).length = sz)
  (hel : ∀ m cs (y : DataW H × List MemPlace), DataW.trod enc P w 0 (fun _ => true) held m e cs = some y → Wt P e y.1 → ∃ a : α, cs = cells a ∧ F a) (h : DataW.trod enc P w 0 (fun _ => true) held fuel t cs = some x) (hz : Wt P t x.1) :
  ∃ s : Sl α, cs = [s.val] ∧ s.l.length ≤ s.cap ∧ s.cap * bz ≤ 140737488351232 ∧ (Fact.sl s.a (s.l.flatMap cells)).holds (fun _ => True) w ∧ ∀ y ∈ s.l, F y := by
 cases fuel with
 | zero => simp [DataW.trod] at h
 | succ n =>
  simp only [DataW.trod, ht] at h
  split at h
  all_goals (try (rename_i hq; cases hq; done))
  all_goals (try (cases h; done))
  all_goals (try (rename_i hq _; cases hq; done))
  ·exact ⟨⟨none, [], 0⟩, rfl, Nat.le_refl _, by simp, .inl rfl, by simp⟩
  ·rename_i e' a len cap he
   cases he
   split at h <;> try cases h
   rename_i hb
   obtain ⟨elems, hm, h'⟩ := Option.bind_eq_some_iff.1 h
   simp only [if_true] at h'
   obtain ⟨rest, hr, rfl⟩ := Option.map_eq_some_iff.1 h'
   have hzl : ∀ n ∈ (DataW.slice (elems.map (·.1)) (rest.map (·.1))).weights P t, n ≤ 140737488351232 := hz
   simp only [DataW.weights, ht] at hzl
   have hcb : cap * bz ≤ 140737488351232 := by
    have h1 := hzl _ (List.mem_cons_self)
    have h2 := mapM_len hm
    have h3 := mapM_len hr
    simp only [List.length_map, List.length_range] at h1 h2 h3
    rw [hbz, h2, h3, show len + (cap - len) = cap by omega] at h1
    exact h1
   have hall : ∀ i, i < len → ∃ ys : List Value, w.cells? 0 (a.add (i * sz)) sz = some ys ∧ ∃ q : α, ys = cells q ∧ F q := fun i hi => by
    obtain ⟨z, hz1, hz2⟩ := mapM_get hm i i (List.getElem?_range hi)
    obtain ⟨ys, h1, h2⟩ := Option.bind_eq_some_iff.1 hz1
    rw [hc] at h1
    obtain ⟨q, hq, hF⟩ := hel _ _ _ h2 (fun n hn => hzl n (List.mem_cons_of_mem _ (List.mem_append_left _ (weightsAll_mem (List.mem_map.2 ⟨z, List.mem_of_getElem? hz2, rfl⟩) hn))))
    exact ⟨ys, h1, q, hq, hF⟩
   have hlist : ∀ k, k ≤ len → ∃ l : List α, l.length = k ∧ (∀ y ∈ l, F y) ∧ ∀ i, i < k → w.cells? 0 (a.add (i * sz)) sz = some (cells (l.getD i default)) := by
    intro k
    induction k with
    | zero => intro _; exact ⟨[], rfl, by simp, fun i hi => by omega⟩
    | succ k ih =>
     intro hk
     obtain ⟨l, h1, h2, h3⟩ := ih (by omega)
     obtain ⟨ys, hy, q, rfl, hF⟩ := hall k (by omega)
     refine ⟨l ++ [q], by simp [h1], fun y hy' => ?_, fun i hi => ?_⟩
     ·rcases List.mem_append.1 hy' with h | h
      ·exact h2 y h
      ·simp at h; subst h; exact hF
     ·by_cases hik : i = k
      ·subst hik; rw [hy]; simp [List.getD, ← h1]
      ·rw [h3 i (by omega)]; simp only [List.getD]; rw [List.getElem?_append_left (by omega)]
   obtain ⟨l, h1, h2, h3⟩ := hlist len (Nat.le_refl _)
   refine ⟨⟨some a, l, cap⟩, by simp [h1], by simp [h1]; exact hb.2.1, hcb, slfact_of fun i v hv => ?_, h2⟩
   have hlen := flatMap_len l cells sz hsz
   have hi : i < l.length * sz := by rw [← hlen]; exact (List.getElem?_eq_some_iff.1 hv).1
   have hs0 : 0 < sz := by rcases Nat.eq_zero_or_pos sz with h0 | h0; · subst h0; omega
                           ·exact h0
   have hj : i / sz < l.length := Nat.div_lt_of_lt_mul (by rw [Nat.mul_comm]; exact hi)
   obtain ⟨_, h5⟩ := cells?_get (h3 (i / sz) (by omega))
   have h6 := h5 (i % sz) v (by
    rw [← flatMap_at l cells sz hsz (i / sz) hj, List.getElem?_take, if_pos (Nat.mod_lt _ hs0), List.getElem?_drop, Nat.mul_comm, Nat.div_add_mod]; exact hv)
   have e1 : (a.add (i / sz * sz)).add (i % sz) = a.add i := by
    have h7 : i / sz * sz + i % sz = i := by rw [Nat.mul_comm]; exact Nat.div_add_mod i sz
    have h8 : ∀ p q : Nat, (a.add p).add q = a.add (p + q) := fun p q => by by_cases hp : p = 0 <;> by_cases hq : q = 0 <;> simp [Addr.add, hp, hq, Nat.add_assoc]
    rw [h8, h7]
   rw [e1] at h6; exact h6
end
end Go.Proofs.YtmkghgoibnncbaaGreatDoor
