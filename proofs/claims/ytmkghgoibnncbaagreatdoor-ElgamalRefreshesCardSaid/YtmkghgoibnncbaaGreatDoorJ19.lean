/-
  Parts of the walk: Ela Laid Open Opn Opz.
-/
import Derived.Test.YtmkghgoibnncbaaGreatDoorJ18
import Derived.Lib.LaidTab
import Derived.ProofKit
import Derived.OpenShut
import Derived.SliceStrings
import Derived.Carry
import Derived.SizedLaws
namespace Go.Proofs.YtmkghgoibnncbaaGreatDoor
open Go.RowKit
set_option linter.unusedSimpArgs false
set_option linter.unusedVariables false
set_option maxHeartbeats 600000
set_option maxRecDepth 20000
structure EC where
 k : PK
 s : Bs
 m : Bs
 a : Cp
 b : Cp
abbrev ecV (q : EC) : Value := .agg #[.string (S q.k.1.1), .string (S q.k.1.2), .string (S q.k.2.1), .string (S q.k.2.2), .string (S q.s), .string (S q.m), .string (S q.a.1), .string (S q.a.2), .string (S q.b.1), .string (S q.b.2)]
abbrev ecL (q : EC) : List Bs := [q.k.1.1, q.k.1.2, q.s, q.m, q.k.2.1, q.k.2.2, q.a.1, q.a.2, q.b.1, q.b.2]
def fewE (q : EC) : Prop := (∀ x ∈ ecL q, x.length ≤ 9) ∧ q.k.1.1.length ≤ 8
instance (q : EC) : Decidable (fewE q) := inferInstanceAs (Decidable (_ ∧ _))
theorem few50_c {q : EC} {w : World} :
  Cw 11 #[ecV q] w (.bool (decide (fewE q))) := by
 refine En [] [(0, ecV q)] Tryz.func11 rfl Tryz.ntmps11 rfl (Ac rfl (An _)) Fn ?_
 refine Cs ?_
 refine Kh rfl (Oy rfl rfl) ?_
 intro b1
 refine Ka rfl (Nt (Cq (Cs (Kq rfl (Fa (q := 0) rfl rfl u30 rfl rfl) (Kq rfl (Fa (q := 0) rfl rfl u26 rfl rfl) (Kq rfl (Fa (q := 0) rfl rfl u24 rfl rfl) (Kq rfl (Ld rfl rfl .tc u22) ?_)))))))
 refine Kq rfl (Fa (q := 0) rfl rfl u30 rfl rfl) (Kq rfl (Fa (q := 0) rfl rfl u26 rfl rfl) (Kq rfl (Fa (q := 1) rfl rfl u24 rfl rfl) (Kq rfl (Ld rfl rfl .tc u22) ?_)))
 refine Kq rfl (Fa (q := 4) rfl rfl u30 rfl rfl) (Kq rfl (Ld rfl rfl .tc u22) ?_)
 refine Kq rfl (Fa (q := 5) rfl rfl u30 rfl rfl) (Kq rfl (Ld rfl rfl .tc u22) ?_)
 refine Kq rfl (Fa (q := 0) rfl rfl u30 rfl rfl) (Kq rfl (Fa (q := 2) rfl rfl u26 rfl rfl) (Kq rfl (Ld rfl rfl .tc u22) ?_))
 refine Kq rfl (Fa (q := 0) rfl rfl u30 rfl rfl) (Kq rfl (Fa (q := 3) rfl rfl u26 rfl rfl) (Kq rfl (Ld rfl rfl .tc u22) ?_))
 refine Kq rfl (Fa (q := 6) rfl rfl u30 rfl rfl) (Kq rfl (Fa (q := 6) rfl rfl u28 rfl rfl) (Kq rfl (Ld rfl rfl .tc u22) ?_))
 refine Kq rfl (Fa (q := 6) rfl rfl u30 rfl rfl) (Kq rfl (Fa (q := 7) rfl rfl u28 rfl rfl) (Kq rfl (Ld rfl rfl .tc u22) ?_))
 refine Kq rfl (Fa (q := 8) rfl rfl u30 rfl rfl) (Kq rfl (Fa (q := 8) rfl rfl u28 rfl rfl) (Kq rfl (Ld rfl rfl .tc u22) ?_))
 refine Kq rfl (Fa (q := 8) rfl rfl u30 rfl rfl) (Kq rfl (Fa (q := 9) rfl rfl u28 rfl rfl) (Kq rfl (Ld rfl rfl .tc u22) ?_))
 refine Kh rfl (og_bs1 rfl rfl u31 (by kernel_rfl : _ = some (some (.string (S [])), 1, 16)) rfl (by simp only [List.map]; rfl) rfl rfl ?_ (by decide)) ?_
 ·simp [Value.cells]
 intro b35
 refine WL.st (fun w h => h.freeze (off := 0) (xs := strs (ecL q)) (fun i hi => by rw [Nat.zero_add]; rfl)) ?_
 refine Kq rfl (rd_len rfl rfl u31) (Km rfl (Nt (Cb ?_)))
 refine Lp (σ := Nat) [(1, _), (35, _), (36, _)] (fun gq => [(37, .int .i64 (gq : Int))]) (fun gq => gq ≤ 10 ∧ ∀ x ∈ (ecL q).take gq, x.length ≤ 9) (fun gq => 10 - gq) (0) (S3 rfl rfl rfl) (S1 rfl) (by (try dsimp only); exact ⟨Nat.zero_le _, by simp⟩) ?_
 rintro i hinv1; (try dsimp only at hinv1 ⊢)
 obtain ⟨hi, hok⟩ := hinv1
 refine Cs (Kq rfl (rd_lss rfl rfl rfl) (Nt (Cq ?_)))
 refine Cd rfl (fun hc38 => ?_) (fun hc38 => ?_)
 ·(try simp only [sB] at hc38)
  have hil : i < (ecL q).length := by show i < 10; omega
  obtain ⟨y, hy⟩ : ∃ y, Keep (y = (ecL q).getD i default) := ⟨_, rfl⟩
  refine Ck (Xa (Cq (Cb (Cs ?_))))
  refine Kq rfl (Ja rfl rfl rfl u31 (by kernel_rfl : _ = some 1) (by omega)) ?_
  refine Kq rfl (ldf (off0 := 0) (m := i) rfl rfl .tc u22 rfl (Nat.zero_add _).symm (map_getD (ecL q) (fun s : Bs => Value.string (S s)) i hil)) ?_
  refine Ns 40 rfl (v' := .string (S (y))) (congrArg (fun l => Value.string (S l)) (by rw [show y = _ from hy])) ?_
  refine Ka rfl (Nt (Cs (Km rfl (Kq rfl (rd_slen rfl rfl u22) (Kq rfl (rd_gtr rfl rfl rfl) (Nt ?_))))))
  refine Cd rfl (fun hc43 => ?_) (fun hc43 => ?_)
  ·(try simp only [sB] at hc43)
   have hn : ¬ fewE q := fun h => by have := h.1 _ (getD_mem (ecL q) i hil); rw [← show y = _ from hy] at this; omega
   refine Cs (Ka rfl (Nt (Ce (Xf (Xb (Xb (Xf (Xb ?_))))))))
   exact R1 rfl rfl (by rw [decide_eq_false hn]; rfl)
  ·(try simp only [sB] at hc43)
   refine Ck (Xd (Xa (Cg (Kq rfl (Rz rfl rfl rfl (by omega)) (Km rfl (Nn ?_))))))
   refine Ly (i + 1) (by (try dsimp only); omega) (S3 rfl rfl rfl) (by refine (Sc ?_ (S0 _)) <;> (rfl)) ?_ (by (exact fun _ h => h))
   (try dsimp only)
   exact ⟨hil, all_take hil hok (by rw [← show y = _ from hy]; omega)⟩
 ·(try simp only [sB] at hc38)
  refine Cx (Xc (Xc (Xe ?_)))
  obtain rfl : i = 10 := by omega
  have hall : ∀ x ∈ ecL q, x.length ≤ 9 := hok
  refine Xa (Cs (Kq rfl (Fa (q := 0) rfl rfl u30 rfl rfl) (Kq rfl (Fa (q := 0) rfl rfl u26 rfl rfl) (Kq rfl (Fa (q := 0) rfl rfl u24 rfl rfl) (Kq rfl (Ld rfl rfl .tc u22) ?_)))))
  refine Kq rfl (rd_slen rfl rfl u22) (Kq rfl (rd_leq rfl rfl rfl) (Ka rfl (Nt (Ce ?_))))
  exact R1 rfl rfl (by refine congrArg (fun b => Ending.returned (Value.bool b)) (decide_eq_decide.2 ⟨fun h => ⟨hall, by omega⟩, fun h => ?_⟩); have := h.2; omega)
theorem saL_st {s : SA} {k : PK} {c : Cp} {b v : Bs} (hm8 : k.1.1.length ≤ 8) (h : s.core = (stS k c b v).1) : saL s := by
 have hc : s.gs.length ≤ 100000 ∧ s.vs.length ≤ 100000 ∧ s.core.2.2.length ≤ 100000 ∧ (∀ q ∈ s.core.2.2, q.2.2.length ≤ 100000) ∧ ∀ g ∈ s.gs, g.1.length ≤ 8 := by
  have e1 : s.gs = (stS k c b v).1.1 := congrArg (·.1) h
  have e2 : s.vs = (stS k c b v).1.2.1 := congrArg (·.2.1) h
  rw [e1, e2, h, stS]; split
  ·exact ⟨Nat.zero_le _, Nat.zero_le _, Nat.zero_le _, by simp, by simp⟩
  ·exact ⟨by simp [stQ], by simp [stQ], by simp [stQ], by simp [stQ], by simpa [stQ] using hm8⟩
 exact ⟨hc.1, hc.2.1, by have := hc.2.2.1; simpa using this, forall_qa.1 hc.2.2.2.1, hc.2.2.2.2⟩
theorem infR : ∀ {a b : List Fact} {x : Fact}, InF b x → InF (a ++ b) x
 | [], _, _, h => h
 | _ :: a, _, _, h => .there (infR h)
instance (priority := low) SubL.app {α : Type} (x y z : List α) [h : SubL x z] : SubL x (y ++ z) := ⟨h.h.trans (List.sublist_append_right _ _)⟩
instance (priority := low) hasF_app {a b : List Fact} {x : Option Addr} {xs : List Value} [h : HasF b x xs] : HasF (a ++ b) x xs := ⟨infR h.h⟩
def exY : PK := ((canon 23, canon 11), canon 4, canon 18)
theorem key50_c {w : World} :
  Cw 42 #[] w (pkV exY) := by
 refine En [] [] Tryz.func42 rfl Tryz.ntmps42 rfl (An _) Fn ?_
 refine Cs ?_
 refine Kh rfl (Oz [.string (S []), .string (S []), .string (S []), .string (S [])] rfl) ?_
 intro b0
 refine Nt (Cs ?_)
 refine Ku rfl (Oc rfl rfl (Kv fun w hS => of_c (n := 23) (by omega))) ?_
 refine Ku rfl (Oc rfl rfl (Kv fun w hS => of_c (n := 11) (by omega))) ?_
 refine Kq rfl (Kb [[.string (S [])], [.string (S [])]] rfl rfl) ?_
 refine Ku rfl (Oc rfl rfl (Kv fun w hS => of_c (n := 4) (by omega))) ?_
 refine Ku rfl (Oc rfl rfl (Kv fun w hS => of_c (n := 18) (by omega))) ?_
 refine Kq rfl (Kb [[.string (S []), .string (S [])], [.string (S [])], [.string (S [])]] rfl rfl) ?_
 refine Nu rfl rfl (Sa rfl rfl rfl .tc) ?_
 refine Nt (Ce ?_)
 exact Rn rfl (.agg rfl .tc u26 rfl (by kernel_rfl) .nil) fun w' hS => ⟨by rfl, hS.below⟩
theorem cipher50_c {a b : Nat} {w : World} (ha : a < 18446744073709551616) (hb : b < 18446744073709551616) :
  Cw 44 #[.int .u64 (a : Int), .int .u64 (b : Int)] w (cpV (canon a, canon b)) := by
 refine En [] [(0, .int .u64 (a : Int)), (1, .int .u64 (b : Int))] Tryz.func44 rfl Tryz.ntmps44 rfl (Ac rfl (Ac rfl (An _))) Fn ?_
 refine Cs ?_
 refine Kh rfl (Oz [.string (S []), .string (S [])] rfl) ?_
 intro b4
 refine Nt (Cs (Km rfl ?_))
 refine Ku rfl (Oc rfl rfl (Kv fun w hS => of_c (n := a) (by assumption))) ?_
 refine Km rfl ?_
 refine Ku rfl (Oc rfl rfl (Kv fun w hS => of_c (n := b) (by assumption))) ?_
 refine Kq rfl (Kb [[.string (S [])], [.string (S [])]] rfl rfl) ?_
 refine Nu rfl rfl (Sa rfl rfl rfl .tc) ?_
 refine Nt (Ce ?_)
 exact Rn rfl (.agg rfl .tc u28 rfl (by kernel_rfl) .nil) fun w' hS => ⟨by rfl, hS.below⟩
theorem tape50_c {n : Nat} {w : World} (hn : n < 18446744073709551616) :
  Calls Tryz.prog 43 #[.int .u64 (n : Int)] w fun e w' => ∃ g : Rs, e = .returned ((⟨[canon n], [], 0⟩ : Tp).v (g.val 1)) ∧ g.cap = 1 + g.sp.length ∧ St (fun _ => True) w [g.ent (strs [canon n]) 22] [] w' := by
 refine En [] [(0, .int .u64 (n : Int))] Tryz.func43 rfl Tryz.ntmps43 rfl (Ac rfl (An _)) Fn ?_
 refine Cs ?_
 refine Kh rfl (Oz [.slice none 0 0, .string (S []), .int .i64 0] rfl) ?_
 intro b2
 refine Nt (Cs (Km rfl ?_))
 refine Ku rfl (Oc rfl rfl (Kv fun w hS => of_c (n := n) (by assumption))) ?_
 refine Kh rfl (og_bs1 rfl rfl u31 (by kernel_rfl : _ = some (some (.string (S [])), 1, 16)) rfl (by simp only [List.map]; rfl) rfl rfl ?_ (by decide)) ?_
 ·simp [Value.cells]
 intro b5
 refine Kq rfl (Kb [[.slice none 0 0], [.string (S [])], [.int .i64 0]] rfl rfl) ?_
 refine Nu rfl rfl (Sa rfl rfl rfl .tc) ?_
 refine Nt (Ce ?_)
 exact Rn rfl (.agg rfl .tc u33 rfl (by kernel_rfl) .nil) fun w' hS => ⟨⟨some b5, 1, []⟩, rfl, rfl, hS.sub (List.Sublist.cons_cons _ (List.nil_sublist _)) (fun _ h => by cases h)⟩
theorem aw_enc : encS exY (canon 8) ⟨[canon 2], [], 0⟩ = (((canon 16, canon 16), canon 2, ⟨[canon 2], [], 1⟩), 0) := by decide +kernel
theorem aw_dec : decS exY (canon 3) (canon 16, canon 16) = (canon 8, 0) := by decide +kernel
theorem aw_ref : refS exY (canon 16, canon 16) ⟨[canon 1], [], 0⟩ = (((canon 18, canon 12), ⟨[canon 1], [], 1⟩), 0) := by decide +kernel
theorem aw_st : stS exY (canon 18, canon 12) (canon 2) (canon 5) = (stQ exY (canon 18, canon 12) (canon 2) (canon 5), 0) := by decide +kernel
theorem aw_hd : hldS (stQ exY (canon 18, canon 12) (canon 2) (canon 5)) [ofZ 3, ofZ 3] = (true, 0) := by decide +kernel
theorem aw_m8 : exY.1.1.length ≤ 8 := by decide +kernel
theorem awake50_c {w : World} (hT : Tab w) :
  Cw 13 #[] w (.bool true) := by
 refine En [] [] Tryz.func13 rfl Tryz.ntmps13 rfl (An _) Fn ?_
 refine Cs (Ka rfl (Nt (Cs ?_)))
 refine Ku rfl (Oc rfl rfl (Kv fun w hS => key50_c)) ?_
 refine Ku rfl (Oc rfl rfl (Kv fun w hS => of_c (n := 8) (by omega))) ?_
 refine Kh rfl (Oc rfl rfl (keep_f1 fun w hS => tape50_c (n := 2) (by omega))) ?_
 intro g17
 refine WL.pu ?_
 intro hg17; (try dsimp only at hg17 ⊢)
 refine Kh rfl (Oc rfl rfl (keep_f1 (val := fun g => .tuple #[cpV (canon 16, canon 16), .string (S (canon 2)), (⟨[canon 2], [], 1⟩ : Tp).v (g.val 1), .int .i64 0]) (p := fun g => g.cap = 1 + g.sp.length) (xs := strs [canon 2]) (T := 22) fun w hS => (by have := elenc_c (w := w) (k := exY) (m := canon 8) (t := ⟨[canon 2], [], 0⟩) (a := g17.a) (cap := g17.cap) hS.sl (by decide) (by decide) aw_m8 (tab_st hT hS); rw [aw_enc] at this; exact this))) ?_
 intro g18; refine WL.pu ?_; intro hg18
 refine Km rfl (Kq rfl (Re rfl rfl rfl) (Kq rfl (Re rfl rfl rfl) (Kq rfl (Re rfl rfl rfl) (Kq rfl (Re rfl rfl rfl) ?_))))
 refine Kh rfl (Oz [.string (S []), .string (S [])] rfl) ?_
 intro b1
 refine Kh rfl (Oz [.slice none 0 0, .string (S []), .int .i64 0] rfl) ?_
 intro b3
 refine Nu rfl rfl (Sa rfl rfl rfl .tc) ?_
 refine Ka rfl ?_
 refine Nu rfl rfl (Sa rfl rfl rfl .tc) ?_
 refine Ka rfl (Nt (Cs ?_))
 refine Ku rfl (Oc rfl rfl (Kv fun w hS => key50_c)) ?_
 refine Ku rfl (Oc rfl rfl (Kv fun w hS => of_c (n := 3) (by omega))) ?_
 refine Ku rfl (Oc rfl rfl (Kv fun w hS => cipher50_c (a := 16) (b := 16) (by omega) (by omega))) ?_
 refine Ku rfl (Oc rfl rfl (Kv fun w hS => (by have := eldecrypt_c (w := w) (k := exY) (s := canon 3) (c := (canon 16, canon 16)) aw_m8; rw [aw_dec] at this; exact this))) ?_
 refine Km rfl (Kq rfl (Re rfl rfl rfl) (Kq rfl (Re rfl rfl rfl) (Ka rfl (Ka rfl (Nt (Cq ?_))))))
 refine Cf [0, 2, 1, 3, 4, 5, 8, 9, 10, 6, 11, 7, 12] [] [1, 0, 1, 1, 0, 0, 0, 0, 3, 3, 1, 1, 0] (by kernel_rfl) (by kernel_rfl) rfl ?_
 refine Jv rfl rfl rfl rfl rfl (fun ext => Oc rfl rfl (Kv fun w hS => key50_c)) ?_
 refine Jg rfl rfl rfl rfl rfl (fun ext => Oc rfl rfl (keep_f1 fun w hS => tape50_c (n := 1) (by omega))) ?_
 intro g33 hg33; (try dsimp only at hg33 ⊢)
 refine Kj rfl (lda rfl rfl .tc u28 rfl ?_) ?_
 ·kernel_rfl
 refine Jg rfl rfl rfl rfl rfl (fun ext => Oc rfl rfl (keep_f1 (val := fun g => .tuple #[cpV (canon 18, canon 12), (⟨[canon 1], [], 1⟩ : Tp).v (g.val 1), .int .i64 0]) (p := fun g => g.cap = 1 + g.sp.length) (xs := strs [canon 1]) (T := 22) fun w hS => (by have := elref_c (w := w) (k := exY) (c := (canon 16, canon 16)) (t := ⟨[canon 1], [], 0⟩) (a := g33.a) (cap := g33.cap) hS.sl (by decide) (by decide) aw_m8 (tab_st hT hS); rw [aw_ref] at this; exact this))) ?_
 intro g34 hg34
 refine Kj rfl (Rm rfl rfl) (Kj rfl (Re rfl rfl rfl) ?_)
 refine Jf rfl rfl rfl rfl rfl (fr_alloc rfl (v := (.agg #[.string (S []), .string (S [])])) (cs := [.string (S []), .string (S [])]) (by kernel_rfl) rfl) ?_
 intro b7
 refine Jf rfl rfl rfl rfl rfl (fr_alloc rfl (v := (.agg #[.slice none 0 0, .string (S []), .int .i64 0])) (cs := [.slice none 0 0, .string (S []), .int .i64 0]) (by kernel_rfl) rfl) ?_
 intro b8
 refine WJ.st rfl rfl rfl rfl (staJ rfl rfl rfl ?_ ?_ ?_) ?_
 ·kernel_rfl
 ·simp [Value.oneCell']
 ·rfl
 refine Kj rfl (Re rfl rfl rfl) ?_
 refine WJ.st rfl rfl rfl rfl (staJ rfl rfl rfl ?_ ?_ ?_) ?_
 ·kernel_rfl
 ·simp [Value.oneCell']
 ·rfl
 refine Kj rfl (Re rfl rfl rfl) (Kj rfl (Ra rfl rfl) ?_)
 refine WJ.nil ?_
 refine Nt (Cq ?_)
 refine Cf [0, 2, 3, 1, 4, 5, 6, 8, 9, 7, 10] [] [1, 0, 1, 1, 1, 0, 0, 0, 3, 1, 0] (by kernel_rfl) (by kernel_rfl) rfl ?_
 refine Jv rfl rfl rfl rfl rfl (fun ext => Oc rfl rfl (Kv fun w hS => key50_c)) ?_
 refine Jv rfl rfl rfl rfl rfl (fun ext => Oc rfl rfl (Kv fun w hS => of_c (n := 2) (by omega))) ?_
 refine Jv rfl rfl rfl rfl rfl (fun ext => Oc rfl rfl (Kv fun w hS => of_c (n := 5) (by omega))) ?_
 refine Kj rfl (lda rfl rfl .tc u28 rfl ?_) ?_
 ·kernel_rfl
 refine Jg rfl rfl rfl rfl rfl (fun ext => Oc rfl rfl (keep_ff fun w hS => elstate_c (k := exY) (c := (canon 18, canon 12)) (b := canon 2) (v := canon 5) (by exact aw_m8))) ?_
 rintro s43 hg43; (try dsimp only [List.cons_append, List.nil_append] at hg43 ⊢)
 refine Kj rfl (Rm rfl rfl) (Kj rfl (Re rfl rfl rfl) ?_)
 refine Jf rfl rfl rfl rfl rfl (fr_alloc rfl (v := (.agg #[.slice none 0 0, .slice none 0 0, .slice none 0 0])) (cs := [.slice none 0 0, .slice none 0 0, .slice none 0 0]) (by kernel_rfl) rfl) ?_
 intro b10
 refine WJ.st rfl rfl rfl rfl (staJ rfl rfl rfl ?_ ?_ ?_) ?_
 ·kernel_rfl
 ·simp [Value.oneCell']
 ·rfl
 refine Kj rfl (Re rfl rfl rfl) (Kj rfl (Ra rfl rfl) ?_)
 refine WJ.nil ?_
 refine Nt (Cq ?_)
 refine Cf [1, 2, 0, 3, 4, 5, 6, 7, 8, 9] [] [0, 1, 1, 3, 1, 0, 0, 0, 0, 0] (by kernel_rfl) (by kernel_rfl) rfl ?_
 refine Jv rfl rfl rfl rfl rfl (fun ext => Oc rfl rfl (Kv fun w hS => zof_c (n := 3) (by omega) (by omega))) ?_
 refine Jv rfl rfl rfl rfl rfl (fun ext => Oc rfl rfl (Kv fun w hS => zof_c (n := 3) (by omega) (by omega))) ?_
 have hc9 : s43.core = stQ exY (canon 18, canon 12) (canon 2) (canon 5) := hg43.trans (congrArg (·.1) aw_st)
 refine Kj rfl (lda rfl rfl .tc u52 rfl ?_) ?_
 ·kernel_rfl
 refine Jf rfl rfl rfl rfl rfl (fr_bsN rfl rfl u71 (by kernel_rfl : _ = some (some (.agg #[.bool false, .string (S [])]), 2, 24)) (by kernel_rfl) (by decide) rfl rfl (by (simp [Value.cells]; done)) (by (simp only [List.map, Value.cells, List.flatMap_cons, List.flatMap_nil, List.append_nil, List.toList_toArray]; rfl)) (by decide)) ?_
 intro b50
 refine Jv rfl rfl rfl rfl rfl (fun ext => Oc rfl rfl (Kv fun w hS => (by have := holds_c (w := w) (s := s43) (ws := [ofZ 3, ofZ 3]) (a := some ⟨b50, 0, none⟩) (c := 2) hS.sl hS.sl hS.sl hS.os hS.more (saL_st aw_m8 hg43) (by decide); rw [hc9, aw_hd] at this; exact this))) ?_
 refine Kj rfl (Rm rfl rfl) (Kj rfl (Re rfl rfl rfl) (Kj rfl (Re rfl rfl rfl) (Kj rfl (Ra rfl rfl) (Kj rfl (Ra rfl rfl) ?_))))
 refine WJ.nil ?_
 refine Nt (Cq ?_)
 refine Cf [0, 1, 2, 4, 3, 5, 6, 7, 9, 8, 10, 11, 12, 13, 14, 15, 16, 18, 17, 19, 20, 21, 22, 23, 24, 25, 27, 26, 28, 29, 30, 31, 32, 33, 34, 35, 36, 37, 38, 39, 40, 41] [] [0, 0, 0, 0, 1, 0, 0, 0, 0, 1, 0, 0, 0, 0, 0, 0, 0, 0, 1, 0, 0, 0, 0, 0, 0, 0, 0, 1, 0, 0, 0, 0, 0, 0, 0, 0, 0, 0, 0, 0, 0, 0] (by kernel_rfl) (by kernel_rfl) rfl ?_
 refine Kj rfl (Rm rfl rfl) (Kj rfl (rd_eql rfl rfl rfl) (Kj rfl (Rm rfl rfl) ?_))
 refine WJ.set 56 rfl (v' := .bool true) (by rfl) ?_
 refine Jv rfl rfl rfl rfl rfl (fun ext => Oc rfl rfl (Kv fun w hS => cipher50_c (a := 16) (b := 16) (by omega) (by omega))) ?_
 refine Kj rfl (lda rfl rfl .tc u28 rfl ?_) ?_
 ·kernel_rfl
 refine Kj rfl (rd_eqA rfl rfl rfl (by kernel_rfl) (fun w => eql_api_Cipher _ _ _ _ w)) ?_
 refine Kj rfl (Rp rfl rfl rfl) (Kj rfl (Rm rfl rfl) ?_)
 refine WJ.set 61 rfl (v' := .bool true) (by rfl) ?_
 refine Jv rfl rfl rfl rfl rfl (fun ext => Oc rfl rfl (Kv fun w hS => of_c (n := 2) (by omega))) ?_
 refine Kj rfl (Rm rfl rfl) (Kj rfl (rd_seq rfl rfl rfl) (Kj rfl (Rp rfl rfl rfl) (Kj rfl (Rm rfl rfl) ?_)))
 refine WJ.set 66 rfl (v' := .bool true) (by rfl) ?_
 refine Kj rfl (Rm rfl rfl) (Kj rfl (rd_eql rfl rfl rfl) (Kj rfl (Rp rfl rfl rfl) (Kj rfl (Rm rfl rfl) ?_)))
 refine WJ.set 70 rfl (v' := .bool true) (by rfl) ?_
 refine Jv rfl rfl rfl rfl rfl (fun ext => Oc rfl rfl (Kv fun w hS => of_c (n := 8) (by omega))) ?_
 refine Kj rfl (Rm rfl rfl) (Kj rfl (rd_seq rfl rfl rfl) (Kj rfl (Rp rfl rfl rfl) (Kj rfl (Rm rfl rfl) ?_)))
 refine WJ.set 75 rfl (v' := .bool true) (by rfl) ?_
 refine Kj rfl (Rm rfl rfl) (Kj rfl (rd_eql rfl rfl rfl) (Kj rfl (Rp rfl rfl rfl) (Kj rfl (Rm rfl rfl) ?_)))
 refine WJ.set 79 rfl (v' := .bool true) (by rfl) ?_
 refine Jv rfl rfl rfl rfl rfl (fun ext => Oc rfl rfl (Kv fun w hS => cipher50_c (a := 18) (b := 12) (by omega) (by omega))) ?_
 refine Kj rfl (lda rfl rfl .tc u28 rfl ?_) ?_
 ·kernel_rfl
 refine Kj rfl (rd_eqA rfl rfl rfl (by kernel_rfl) (fun w => eql_api_Cipher _ _ _ _ w)) ?_
 refine Kj rfl (Rp rfl rfl rfl) (Kj rfl (Rm rfl rfl) ?_)
 refine WJ.set 84 rfl (v' := .bool true) (by rfl) ?_
 refine Kj rfl (Rm rfl rfl) (Kj rfl (rd_eql rfl rfl rfl) ?_)
 refine WJ.set 86 rfl (v' := .bool true) (by rw [aw_st]; rfl) ?_
 refine Kj rfl (Rp rfl rfl rfl) (Kj rfl (Rm rfl rfl) (Kj rfl (Rm rfl rfl) (Kj rfl (rd_eql rfl rfl rfl) (Kj rfl (Rp rfl rfl rfl) (Kj rfl (Rm rfl rfl) ?_)))))
 refine WJ.set 92 rfl (v' := .bool true) (by rfl) ?_
 refine Kj rfl (Rm rfl rfl) (Kj rfl (Rp rfl rfl rfl) (Kj rfl (Ra rfl rfl) ?_))
 refine WJ.nil ?_
 refine Nt (Ce ?_)
 exact R1 rfl rfl (by rfl)
theorem laidVars_tail {P : Program} {w : World} {x : String × DataW Unit} {r : List (String × DataW Unit)} {ps : List MemPlace} (h : DataW.LaidVars P w (x :: r) ps) : ∃ q, DataW.LaidVars P w r q := by
 obtain ⟨n, d⟩ := x
 obtain ⟨g, t, cs, fuel, p, q, _, _, _, _, h, _⟩ := h
 exact ⟨q, h⟩
theorem tab_of_vars {P : Program} {W : World} {name : String} {k : IntKind} {zs : List Int} {rest : List (String × DataW Unit)} {ps : List MemPlace} {t e : TypeId} {n : Nat}
  (hty : ((P.globalNamed name).bind fun g => (P.globals[g]?).map (·.type)) = some t) (ht : P.underlying t = some (.array n e)) (he : P.underlying e = some (.int k)) (hce : P.cellsOf e = 1) (hct : P.cellsOf t = n)
  (h : DataW.LaidVars P W ((name, Lib.tabData k zs) :: rest) ps) : Lib.TabIs P W name k zs := by
 obtain ⟨g', t', cs, fuel, p, q, hg', ht', hvar, hd, _, _⟩ := h
 rw [hg', Option.bind_some] at hty
 obtain rfl := Option.some.inj (hty.symm.trans ht')
 unfold Lib.TabIs
 rw [hvar, ← Lib.cells_of_tab ht he hce hct hd]
theorem wf_u8 {n : Int} (h : (Lit.int .u8 n).wf = true) : 0 ≤ n ∧ n ≤ 255 := by
 have e1 : IntKind.u8.min = 0 := by decide
 have e2 : IntKind.u8.max = 255 := by decide
 simp [Lit.wf, e1, e2] at h; omega
theorem wf_i64 {n : Int} (h : (Lit.int .i64 n).wf = true) : -9223372036854775808 ≤ n ∧ n ≤ 9223372036854775807 := by
 have e1 : IntKind.i64.min = -9223372036854775808 := by decide
 have e2 : IntKind.i64.max = 9223372036854775807 := by decide
 simp [Lit.wf, e1, e2] at h; omega
end Go.Proofs.YtmkghgoibnncbaaGreatDoor
namespace Go.Proofs.YtmkghgoibnncbaaGreatDoor
set_option linter.unusedSimpArgs false
set_option linter.unusedVariables false
open Go.ChangeShapes Go.WideShapes Go.ChangeAt Go.RowKit
section
variable {H : Type} {enc : TypeId × Value → H} {P : Program} {w : World} {spare : Nat → Bool} {held : Bool}
theorem cell_block {b i : Nat} {v : Value} (h : w.cell? ⟨b, i, none⟩ = some v) : ∃ cs T fz, w.heap[b]? = some (.cells cs T fz) ∧ cs[i]? = some v := by
 unfold World.cell? at h
 split at h
 ·rename_i cs T fz hb
  refine ⟨cs, T, fz, hb, ?_⟩
  simpa using h
 ·simp at h
theorem slfact_of {a : Addr} {xs : List Value} (h : ∀ i v, xs[i]? = some v → w.cell? (a.add i) = some v) : (Fact.sl (some a) xs).holds (fun _ => True) w := by
 cases xs with
 | nil => exact .inl rfl
 | cons x xs =>
  right
  obtain ⟨b, off, spot⟩ := a
  have hspot : spot = none := by simpa [Addr.add] using World.cell?_spot (h 0 x rfl)
  subst hspot
  have h0 := h 0 x rfl
  rw [Addr.add_lit] at h0
  obtain ⟨cs, T, fz, hb, _⟩ := cell_block h0
  refine ⟨b, off, cs, T, fz, rfl, trivial, hb, fun i hi => ?_⟩
  have h1 := h i _ (List.getElem?_eq_getElem hi)
  rw [Addr.add_lit] at h1
  obtain ⟨cs', T', fz', hb', h2⟩ := cell_block h1
  rw [hb] at hb'; cases hb'
  rw [h2, List.getElem?_eq_getElem hi]
end
end Go.Proofs.YtmkghgoibnncbaaGreatDoor
namespace Go.Proofs.YtmkghgoibnncbaaGreatDoor
set_option linter.unusedSimpArgs false
set_option linter.unusedVariables false
open Go.ChangeShapes Go.WideShapes Go.ChangeAt Go.RowKit
structure Sl (α : Type) where
 a : Option Addr
 l : List α
 cap : Nat
abbrev Sl.val {α : Type} (s : Sl α) : Value := .slice s.a s.l.length s.cap
section
variable {H : Type} {enc : TypeId × Value → H} {P : Program} {w : World} {spare : Nat → Bool} {held : Bool} {fuel : Nat} {t e : TypeId} {cs : List Value} {x : DataW H × List MemPlace}
theorem op_int {k : IntKind} (ht : P.underlying t = some (.int k)) (h : DataW.trod enc P w 0 spare held fuel t cs = some x) : ∃ n : Int, cs = [.int k n] ∧ (Lit.int k n).wf = true := by
 cases fuel with
 | zero => simp [DataW.trod] at h
 | succ n =>
  simp only [DataW.trod, ht] at h
  split at h <;> simp_all
theorem mapM_all {α β : Type} {f : α → Option β} : ∀ {l : List α} {r : List β}, l.mapM f = some r → ∀ y ∈ l, ∃ z, f y = some z
 | [], _, _, y, hy => by cases hy
 | a :: l, r, h, y, hy => by
  rw [List.mapM_cons] at h
  cases hf : f a with
  | none => simp [hf] at h
  | some z =>
   cases hr : l.mapM f with
   | none => simp [hf, hr] at h
   | some r' =>
    rcases List.mem_cons.1 hy with rfl | hy
    ·exact ⟨z, hf⟩
    ·exact mapM_all hr y hy
theorem op_struct {fs : Array Field} (ht : P.underlying t = some (.struct fs)) (h : DataW.trod enc P w 0 spare held fuel t cs = some x) :
  cs.length = P.cellsOf t ∧ ∃ m, ∀ f ∈ fs.toList, ∃ y, DataW.trod enc P w 0 spare held m f.type ((cs.drop f.offset).take (P.cellsOf f.type)) = some y := by
 cases fuel with
 | zero => simp [DataW.trod] at h
 | succ n =>
  simp only [DataW.trod, ht] at h
  split at h
  ·rename_i hl
   refine ⟨hl, n, fun f hf => ?_⟩
   obtain ⟨xs, hxs, _⟩ := Option.map_eq_some_iff.1 h
   exact mapM_all hxs f hf
  ·cases h
theorem cells?_get {a : Addr} {n : Nat} {ys : List Value} (h : w.cells? 0 a n = some ys) : ys.length = n ∧ ∀ i v, ys[i]? = some v → w.cell? (a.add i) = some v := by
 unfold World.cells? at h
 simp only [Nat.zero_le, if_true] at h
 have key : ∀ (l : List Nat) (ys : List Value), (l.mapM fun i => w.cell? (a.add i)) = some ys → ys.length = l.length ∧ ∀ (i : Nat) (v : Value), ys[i]? = some v → ∃ j : Nat, l[i]? = some j ∧ w.cell? (a.add j) = some v := by
  intro l
  induction l with
  | nil => intro ys h; simp at h; subst h; simp
  | cons j l ih =>
   intro ys h
   rw [List.mapM_cons] at h
   cases hf : w.cell? (a.add j) with
   | none => simp [hf] at h
   | some z =>
    cases hr : l.mapM fun i => w.cell? (a.add i) with
    | none => simp [hf, hr] at h
    | some r' =>
     simp [hf, hr] at h
     subst h
     obtain ⟨h1, h2⟩ := ih r' hr
     refine ⟨by simp [h1], fun i v hi => ?_⟩
     cases i with
     | zero => simp at hi; subst hi; exact ⟨j, rfl, hf⟩
     | succ i => simp at hi; simpa using h2 i v hi
 obtain ⟨h1, h2⟩ := key _ _ h
 refine ⟨by simpa using h1, fun i v hi => ?_⟩
 obtain ⟨j, hj, hc⟩ := h2 i v hi
 have : i < n := by
  have := (List.getElem?_eq_some_iff.1 hj).1
  simpa using this
 rw [List.getElem?_range this] at hj
 cases hj
 exact hc
theorem fm_one {α : Type} (f : α → Value) (l : List α) : l.flatMap (fun x => [f x]) = l.map f := by induction l with | nil => rfl | cons x l ih => simp [ih]
theorem sl_map {α : Type} {a : Option Addr} {l : List α} {f : α → Value} {ok : Nat → Prop} (h : (Fact.sl a (l.flatMap fun x => [f x])).holds ok w) : (Fact.sl a (l.map f)).holds ok w := by rw [fm_one] at h; exact h
end
end Go.Proofs.YtmkghgoibnncbaaGreatDoor
namespace Go.Proofs.YtmkghgoibnncbaaGreatDoor
set_option linter.unusedSimpArgs false
set_option linter.unusedVariables false
open Go.ChangeShapes Go.WideShapes Go.ChangeAt Go.RowKit
def Wt {H : Type} (P : Program) (t : TypeId) (d : DataW H) : Prop := ∀ n ∈ d.weights P t, n ≤ 140737488351232
theorem wt_all {H : Type} {P : Program} {ts : List TypeId} {ds : List (DataW H)} (h : (DataW.weightsEach P ts ds).all (· ≤ reachBytes) = true) {j : Nat} {t : TypeId} {d : DataW H} (ht : ts[j]? = some t) (hd : ds[j]? = some d) : Wt P t d := fun n hn => by
 have := List.all_eq_true.1 h n (DataW.weights_mem_each ht hd n hn)
 exact of_decide_eq_true this
theorem weightsAll_mem {H : Type} {P : Program} {e : TypeId} {d : DataW H} {n : Nat} : ∀ {l : List (DataW H)}, d ∈ l → n ∈ d.weights P e → n ∈ DataW.weightsAll P e l
 | [], h, _ => by cases h
 | x :: l, h, hn => by
  simp only [DataW.weightsAll, List.mem_append]
  rcases List.mem_cons.1 h with rfl | h
  ·exact .inl hn
  ·exact .inr (weightsAll_mem h hn)
theorem mapM_get {α β : Type} {f : α → Option β} : ∀ {l : List α} {r : List β}, l.mapM f = some r → ∀ (i : Nat) y, l[i]? = some y → ∃ z, f y = some z ∧ r[i]? = some z
 | [], _, _, i, y, hy => by simp at hy
 | a :: l, r, h, i, y, hy => by
  rw [List.mapM_cons] at h
  cases hf : f a with
  | none => simp [hf] at h
  | some z =>
   cases hr : l.mapM f with
   | none => simp [hf, hr] at h
   | some r' =>
    simp [hf, hr] at h
    subst h
    cases i with
    | zero => simp at hy; subst hy; exact ⟨z, hf, rfl⟩
    | succ i => simp at hy; simpa using mapM_get hr i y hy
theorem mapM_len {α β : Type} {f : α → Option β} : ∀ {l : List α} {r : List β}, l.mapM f = some r → r.length = l.length
 | [], r, h => by simp at h; subst h; rfl
 | a :: l, r, h => by
  rw [List.mapM_cons] at h
  cases hf : f a with
  | none => simp [hf] at h
  | some z =>
   cases hr : l.mapM f with
   | none => simp [hf, hr] at h
   | some r' => simp [hf, hr] at h; subst h; simp [mapM_len hr]
section
variable {H : Type} {enc : TypeId × Value → H} {P : Program} {w : World} {spare : Nat → Bool} {held : Bool} {fuel : Nat} {t e : TypeId} {cs : List Value} {x : DataW H × List MemPlace}
theorem opz_str (ht : P.underlying t = some .string) (h : DataW.trod enc P w 0 spare held fuel t cs = some x) (hz : Wt P t x.1) : ∃ s : List UInt8, cs = [.string (S s)] ∧ s.length ≤ 140737488351232 := by
 cases fuel with
 | zero => simp [DataW.trod] at h
 | succ n =>
  simp only [DataW.trod, ht] at h
  split at h <;> simp_all
  rename_i s
  obtain ⟨h1, rfl⟩ := h
  refine ⟨s.data.toList, (S_data s).symm, hz _ ?_⟩
  simp [DataW.weights]
theorem opz_struct {fs : Array Field} (ht : P.underlying t = some (.struct fs)) (h : DataW.trod enc P w 0 spare held fuel t cs = some x) (hz : Wt P t x.1) :
  cs.length = P.cellsOf t ∧ ∃ m, ∀ (j : Nat) f, fs.toList[j]? = some f → ∃ y, DataW.trod enc P w 0 spare held m f.type ((cs.drop f.offset).take (P.cellsOf f.type)) = some y ∧ Wt P f.type y.1 := by
 cases fuel with
 | zero => simp [DataW.trod] at h
 | succ n =>
  simp only [DataW.trod, ht] at h
  split at h
  ·rename_i hl
   refine ⟨hl, n, fun j f hf => ?_⟩
   obtain ⟨xs, hxs, rfl⟩ := Option.map_eq_some_iff.1 h
   obtain ⟨z, h1, h2⟩ := mapM_get hxs j f hf
   refine ⟨z, h1, fun n hn => hz n ?_⟩
   simp only [DataW.weights, ht]
   exact DataW.weights_mem_each (j := j) (by rw [List.getElem?_map, hf]; rfl) (by rw [List.getElem?_map, h2]; rfl) n hn
  ·cases h
theorem opz_slice {α : Type} [Inhabited α] {cells : α → List Value} {F : α → Prop} (sz bz : Nat) (hbz : P.bytesOf e = bz) (ht : P.underlying t = some (.slice e)) (hc : P.cellsOf e = sz) (hsz : ∀ a, (cells a).length = sz)
  (hel : ∀ m cs (y : DataW H × List MemPlace), DataW.trod enc P w 0 (fun _ => true) held m e cs = some y → Wt P e y.1 → ∃ a : α, cs = cells a ∧ F a) (h : DataW.trod enc P w 0 (fun _ => true) held fuel t cs = some x) (hz : Wt P t x.1) :
  ∃ s : Sl α, cs = [s.val] ∧ s.l.length ≤ s.cap ∧ s.cap * bz ≤ 140737488351232 ∧ (Fact.sl s.a (s.l.flatMap cells)).holds (fun _ => True) w ∧ ∀ y ∈ s.l, F y := by
 cases fuel with
 | zero => simp [DataW.trod] at h
 | succ n =>
  simp only [DataW.trod, ht] at h
  split at h
  all_goals (try (rename_i hq; cases hq; done))
  all_goals (try (cases h; done))
  all_goals (try (rename_i hq _; cases hq; done))
  ·exact ⟨⟨none, [], 0⟩, rfl, Nat.le_refl _, by simp, .inl rfl, by simp⟩
  ·rename_i e' a len cap he
   cases he
   split at h <;> try cases h
   rename_i hb
   obtain ⟨elems, hm, h'⟩ := Option.bind_eq_some_iff.1 h
   simp only [if_true] at h'
   obtain ⟨rest, hr, rfl⟩ := Option.map_eq_some_iff.1 h'
   have hzl : ∀ n ∈ (DataW.slice (elems.map (·.1)) (rest.map (·.1))).weights P t, n ≤ 140737488351232 := hz
   simp only [DataW.weights, ht] at hzl
   have hcb : cap * bz ≤ 140737488351232 := by
    have h1 := hzl _ (List.mem_cons_self)
    have h2 := mapM_len hm
    have h3 := mapM_len hr
    simp only [List.length_map, List.length_range] at h1 h2 h3
    rw [hbz, h2, h3, show len + (cap - len) = cap by omega] at h1
    exact h1
   have hall : ∀ i, i < len → ∃ ys : List Value, w.cells? 0 (a.add (i * sz)) sz = some ys ∧ ∃ q : α, ys = cells q ∧ F q := fun i hi => by
    obtain ⟨z, hz1, hz2⟩ := mapM_get hm i i (List.getElem?_range hi)
    obtain ⟨ys, h1, h2⟩ := Option.bind_eq_some_iff.1 hz1
    rw [hc] at h1
    obtain ⟨q, hq, hF⟩ := hel _ _ _ h2 (fun n hn => hzl n (List.mem_cons_of_mem _ (List.mem_append_left _ (weightsAll_mem (List.mem_map.2 ⟨z, List.mem_of_getElem? hz2, rfl⟩) hn))))
    exact ⟨ys, h1, q, hq, hF⟩
   have hlist : ∀ k, k ≤ len → ∃ l : List α, l.length = k ∧ (∀ y ∈ l, F y) ∧ ∀ i, i < k → w.cells? 0 (a.add (i * sz)) sz = some (cells (l.getD i default)) := by
    intro k
    induction k with
    | zero => intro _; exact ⟨[], rfl, by simp, fun i hi => by omega⟩
    | succ k ih =>
     intro hk
     obtain ⟨l, h1, h2, h3⟩ := ih (by omega)
     obtain ⟨ys, hy, q, rfl, hF⟩ := hall k (by omega)
     refine ⟨l ++ [q], by simp [h1], fun y hy' => ?_, fun i hi => ?_⟩
     ·rcases List.mem_append.1 hy' with h | h
      ·exact h2 y h
      ·simp at h; subst h; exact hF
     ·by_cases hik : i = k
      ·subst hik; rw [hy]; simp [List.getD, ← h1]
      ·rw [h3 i (by omega)]; simp only [List.getD]; rw [List.getElem?_append_left (by omega)]
   obtain ⟨l, h1, h2, h3⟩ := hlist len (Nat.le_refl _)
   refine ⟨⟨some a, l, cap⟩, by simp [h1], by simp [h1]; exact hb.2.1, hcb, slfact_of fun i v hv => ?_, h2⟩
   have hlen := flatMap_len l cells sz hsz
   have hi : i < l.length * sz := by rw [← hlen]; exact (List.getElem?_eq_some_iff.1 hv).1
   have hs0 : 0 < sz := by rcases Nat.eq_zero_or_pos sz with h0 | h0; · subst h0; omega
                           ·exact h0
   have hj : i / sz < l.length := Nat.div_lt_of_lt_mul (by rw [Nat.mul_comm]; exact hi)
   obtain ⟨_, h5⟩ := cells?_get (h3 (i / sz) (by omega))
   have h6 := h5 (i % sz) v (by
    rw [← flatMap_at l cells sz hsz (i / sz) hj, List.getElem?_take, if_pos (Nat.mod_lt _ hs0), List.getElem?_drop, Nat.mul_comm, Nat.div_add_mod]; exact hv)
   have e1 : (a.add (i / sz * sz)).add (i % sz) = a.add i := by
    have h7 : i / sz * sz + i % sz = i := by rw [Nat.mul_comm]; exact Nat.div_add_mod i sz
    have h8 : ∀ p q : Nat, (a.add p).add q = a.add (p + q) := fun p q => by by_cases hp : p = 0 <;> by_cases hq : q = 0 <;> simp [Addr.add, hp, hq, Nat.add_assoc]
    rw [h8, h7]
   rw [e1] at h6; exact h6
end
end Go.Proofs.YtmkghgoibnncbaaGreatDoor
