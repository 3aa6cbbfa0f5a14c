/-
  Parts of the walk: Coi1 Isn Tz Prm Prn.
-/
import Derived.Test.YthkmpjobfdeoaaaGreatDoorJ15
namespace Go.Proofs.YthkmpjobfdeoaaaGreatDoor
open Go.RowKit
set_option linter.unusedSimpArgs false
set_option linter.unusedVariables false
set_option maxHeartbeats 600000
set_option maxRecDepth 20000
structure Tp where
 vals : List Bs
 seed : Bs
 at_ : Int
deriving DecidableEq
abbrev Tp.v (t : Tp) (x : Value) : Value := .agg #[x, .string (S t.seed), .int .i64 t.at_]
def goodT (t : Tp) : Prop := 0 ≤ t.at_ ∧ t.at_ ≤ 2147483647 ∧ ∀ s ∈ t.vals, okN s
instance (t : Tp) : Decidable (goodT t) := inferInstanceAs (Decidable (_ ∧ _ ∧ _))
theorem getD_memB (l : List Bs) (k : Nat) (h : k < l.length) : l.getD k default ∈ l := by
 rw [List.getD_eq_getElem?_getD, List.getElem?_eq_getElem h]; exact List.getElem_mem h
theorem all_takeB {l : List Bs} {k : Nat} {p : Bs → Prop} (h : k < l.length) (h1 : ∀ s ∈ l.take k, p s) (h2 : p (l.getD k default)) : ∀ s ∈ l.take (k + 1), p s := by
 intro s hs
 rw [List.take_add_one, List.getElem?_eq_getElem h] at hs
 rw [List.getD_eq_getElem?_getD, List.getElem?_eq_getElem h] at h2
 rcases List.mem_append.1 hs with hs | hs
 ·exact h1 s hs
 ·simp at hs; subst hs; exact h2
theorem bad_c {a : Bs} {w : World} :
  Cw 192 #[.string (S a)] w (.bool (!decide (okN a))) := by
 refine En [] [(0, .string (S a))] Tryz.func192 rfl Tryz.ntmps192 rfl (Ac rfl (An _)) Fn ?_
 refine Cs (Ka rfl (Nt (Cs (Km rfl ?_))))
 refine Ku rfl (Oc rfl rfl (Kv fun w hS => valid_c)) ?_
 refine Kq rfl (Rt rfl rfl) (Ka rfl (Nt (Ce ?_)))
 exact R1 rfl rfl (by rfl)
theorem idxf_c {l : List Bs} {a : Option Addr} {cap : Nat} {w : World} {ok : Nat → Prop} (hF1 : (Fact.sl a (strs l)).holds ok w) (hl : l.length ≤ 9223372036854775807) :
  Calls Tryz.prog 216 #[.slice a l.length cap, .func (.func 192) #[] #[]] w fun e w' => ∃ r : Int, e = .returned (.int .i64 r) ∧ (0 ≤ r ↔ ¬ ∀ s ∈ l, okN s) ∧ Below w.heap.size w w' := by
 refine En [Fact.sl a (strs l)] [(0, .slice a l.length cap), (1, .func (.func 192) #[] #[])] Tryz.func216 rfl Tryz.ntmps216 rfl (Ac rfl (Ac rfl (An _))) (Fc (fact_any hF1) Fn) ?_
 refine Cs (Ka rfl (Nt (Cq (Cs (Km rfl (Kq rfl (rd_len rfl rfl u31) (Km rfl (Nt (Cb ?_)))))))))
 refine Lp (σ := Nat) [(0, _), (1, _), (7, _)] (fun gq => [(8, .int .i64 (gq : Int))]) (fun gq => gq ≤ l.length ∧ ∀ s ∈ l.take gq, okN s) (fun gq => l.length - gq) (0) (S3 rfl rfl rfl) (S1 rfl) (by (try dsimp only); exact ⟨Nat.zero_le _, fun s h => by simp at h⟩) ?_
 rintro k hinv1; (try dsimp only at hinv1 ⊢)
 obtain ⟨hk, hks⟩ := hinv1
 refine Cs (Kq rfl (rd_lss rfl rfl rfl) (Nt (Cq ?_)))
 refine Cd rfl (fun hc9 => ?_) (fun hc9 => ?_)
 ·(try simp only [sB] at hc9)
  refine Ck (Xa (Cq (Cb (Cs (Km rfl (Ka rfl (Nt (Cs (Km rfl (Km rfl (Km rfl ?_)))))))))))
  refine Kq rfl (Ib rfl rfl rfl u31 (by omega) (by (rw [List.length_map]; omega))) ?_
  refine Kq rfl (ldm rfl rfl u22 rfl (by omega)) ?_
  refine Ku rfl (og_callv rfl rfl rfl (by kernel_rfl) rfl (Kv fun w hS => bad_c (a := l.getD k default))) ?_
  refine Nt ?_
  refine Cd rfl (fun hc16 => ?_) (fun hc16 => ?_)
  ·(try simp only [sB] at hc16)
   refine Cs (Km rfl (Ka rfl (Nt (Ce (Xf (Xb (Xb (Xf (Xb ?_)))))))))
   exact Rn rfl (.tmp rfl .nil) fun w' hS => ⟨_, rfl, ⟨fun _ h => by have := h _ (getD_memB l k (by omega)); simp_all, fun _ => by omega⟩, hS.below⟩
  ·(try simp only [sB] at hc16)
   refine Ck (Xd (Xa (Cg (Kq rfl (Rz rfl rfl rfl (by omega)) (Km rfl (Nn ?_))))))
   refine Ly (k + 1) (by (try dsimp only); omega) (S3 rfl rfl rfl) (by refine (Sc ?_ (S0 _)) <;> (rfl)) ?_ (by (exact fun _ h => h))
   (try dsimp only)
   exact ⟨by omega, all_takeB (by omega) hks (by simpa using hc16)⟩
 ·(try simp only [sB] at hc9)
  refine Cx (Xc (Xc (Xe ?_)))
  obtain rfl : k = l.length := by omega
  rw [List.take_of_length_le (Nat.le_refl _)] at hks
  refine Xa (Cs (Ka rfl (Nt (Ce ?_))))
  exact Rn rfl (.tmp rfl .nil) fun w' hS => ⟨-1, rfl, ⟨fun h => by omega, fun h => absurd hks h⟩, hS.below⟩
theorem keep_ex {P : Program} {f : FuncId} {args : Array Value} {ok : Nat → Prop} {w0 : World} {own : List Ent} {fs : List Fact} {γ : Type} {val : γ → Value} {p : γ → Prop} (h : ∀ w, St ok w0 own fs w → Calls P f args w (fun e w' => ∃ r : γ, e = .returned (val r) ∧ p r ∧ Below w.heap.size w w')) :
  ∀ w, St ok w0 own fs w → Calls P f args w (fun e w' => ∃ g, e = .returned (val g) ∧ (p g ∧ St ok w0 own fs w')) :=
 fun w hS => (h w hS).mono fun e w' ⟨r, h1, h2, h3⟩ => ⟨r, h1, h2, hS.keep h3⟩
theorem contf_c {l : List Bs} {a : Option Addr} {cap : Nat} {w : World} {ok : Nat → Prop} (hF1 : (Fact.sl a (strs l)).holds ok w) (hl : l.length ≤ 9223372036854775807) :
  Cw 191 #[.slice a l.length cap, .func (.func 192) #[] #[]] w (.bool (decide (¬ ∀ s ∈ l, okN s))) := by
 refine En [Fact.sl a (strs l)] [(0, .slice a l.length cap), (1, .func (.func 192) #[] #[])] Tryz.func191 rfl Tryz.ntmps191 rfl (Ac rfl (Ac rfl (An _))) (Fc (fact_any hF1) Fn) ?_
 refine Cs (Ka rfl (Nt (Cs (Km rfl (Km rfl ?_)))))
 refine Kh rfl (Oc rfl rfl (keep_ex fun w hS => idxf_c (l := l) (a := a) (cap := cap) (w := w) hS.sl hl)) ?_
 intro r; refine WL.pu ?_; intro hr
 refine Kq rfl (rd_geq rfl rfl rfl) (Ka rfl (Nt (Ce ?_)))
 exact Rn rfl (.tmp rfl .nil) fun w' hS => ⟨congrArg (fun b => Ending.returned (.bool b)) (decide_eq_decide.2 hr), hS.below⟩
theorem good_c {t : Tp} {a : Option Addr} {cap : Nat} {w : World} {ok : Nat → Prop} (hF1 : (Fact.sl a (strs t.vals)).holds ok w) (hl : t.vals.length ≤ 9223372036854775807) :
  Cw 151 #[t.v (.slice a t.vals.length cap)] w (.bool (decide (goodT t))) := by
 refine En [Fact.sl a (strs t.vals)] [(0, t.v (.slice a t.vals.length cap))] Tryz.func151 rfl Tryz.ntmps151 rfl (Ac rfl (An _)) (Fc (fact_any hF1) Fn) ?_
 refine Cs ?_
 refine Kh rfl (Oy rfl rfl) ?_
 intro b1
 refine Ka rfl (Nt (Cs (Kq rfl (Fa (q := 2) rfl rfl u66 rfl rfl) (Kq rfl (Ld rfl rfl .tc u3) ?_))))
 refine Kq rfl (rd_geq rfl rfl rfl) (Km rfl ?_)
 refine Nb 6 rfl (fun hg6 => ?_) (fun hg6 => ?_)
 ·(try simp only [sB] at hg6)
  refine Kq rfl (Fa (q := 2) rfl rfl u66 rfl rfl) (Kq rfl (Ld rfl rfl .tc u3) ?_)
  refine Kq rfl (rd_leq rfl rfl rfl) (Kq rfl (Rp rfl rfl rfl) (Km rfl ?_))
  refine Nb 11 rfl (fun hg11 => ?_) (fun hg11 => ?_)
  ·(try simp only [sB] at hg11)
   refine Kq rfl (Fa (q := 0) rfl rfl u66 rfl rfl) (Kq rfl (Ld rfl rfl .tc u31) ?_)
   refine Ku rfl (Oc rfl rfl (Kv fun w hS => contf_c (l := t.vals) (by (exact hS.sl)) (by assumption))) ?_
   refine Kq rfl (Rt rfl rfl) (Kq rfl (Rp rfl rfl rfl) (Ka rfl (Nt (Ce ?_))))
   exact Rn rfl (.tmp rfl .nil) fun w' hS => ⟨congrArg (fun b => Ending.returned (.bool b)) (by rw [Bool.eq_iff_iff]; simp only [Bool.not_eq_true', decide_eq_false_iff_not, decide_eq_true_eq, Classical.not_not, Bool.false_eq_true]; unfold goodT; (exact ⟨fun h => ⟨by omega, by omega, h⟩, fun h => h.2.2⟩)), hS.below⟩
  ·(try simp only [sB] at hg11)
   refine Kt rfl (Kt rfl (Kt rfl (Kt rfl (Kq rfl (Rq rfl rfl rfl) (Ka rfl (Nt (Ce ?_)))))))
   exact Rn rfl (.tmp rfl .nil) fun w' hS => ⟨congrArg (fun b => Ending.returned (.bool b)) (by rw [Bool.eq_iff_iff]; simp only [Bool.not_eq_true', decide_eq_false_iff_not, decide_eq_true_eq, Classical.not_not, Bool.false_eq_true]; unfold goodT; (exact ⟨fun h => h.elim, fun h => by omega⟩)), hS.below⟩
 ·(try simp only [sB] at hg6)
  refine Kt rfl (Kt rfl (Kt rfl (Kq rfl (Rq rfl rfl rfl) (Km rfl (Kt rfl (Kt rfl (Kt rfl (Kt rfl (Kq rfl (Rq rfl rfl rfl) (Ka rfl (Nt (Ce ?_))))))))))))
  exact Rn rfl (.tmp rfl .nil) fun w' hS => ⟨congrArg (fun b => Ending.returned (.bool b)) (by rw [Bool.eq_iff_iff]; simp only [Bool.not_eq_true', decide_eq_false_iff_not, decide_eq_true_eq, Classical.not_not, Bool.false_eq_true]; unfold goodT; (exact ⟨fun h => h.elim, fun h => by omega⟩)), hS.below⟩
theorem rtgood_c {t : Tp} {a : Option Addr} {cap : Nat} {w : World} {ok : Nat → Prop} (hF1 : (Fact.sl a (strs t.vals)).holds ok w) (hl : t.vals.length ≤ 9223372036854775807) :
  Cw 68 #[t.v (.slice a t.vals.length cap)] w (.bool (decide (goodT t))) := by
 refine En [Fact.sl a (strs t.vals)] [(0, t.v (.slice a t.vals.length cap))] Tryz.func68 rfl Tryz.ntmps68 rfl (Ac rfl (An _)) (Fc (fact_any hF1) Fn) ?_
 refine Cs ?_
 refine Kh rfl (Oy rfl rfl) ?_
 intro b1
 refine Ka rfl (Nt (Cq (Cs (Ka rfl (Nt (Cb ?_))))))
 refine Lp (σ := Nat) [(1, _)] (fun gq => [(3, .int .i64 (gq : Int))]) (fun gq => gq ≤ t.vals.length ∧ ∀ s ∈ t.vals.take gq, okN s) (fun gq => t.vals.length - gq) (0) (S1 rfl) (S1 rfl) (by (try dsimp only); exact ⟨Nat.zero_le _, fun s h => by simp at h⟩) ?_
 rintro k hinv1; (try dsimp only at hinv1 ⊢)
 obtain ⟨hk, hks⟩ := hinv1
 refine Cq (Cs (Km rfl (Kq rfl (Fa (q := 0) rfl rfl u66 rfl rfl) (Kq rfl (Ld rfl rfl .tc u31) ?_))))
 refine Kq rfl (rd_len rfl rfl u31) (Kq rfl (rd_lss rfl rfl rfl) (Nt ?_))
 refine Cd rfl (fun hc8 => ?_) (fun hc8 => ?_)
 ·(try simp only [sB] at hc8)
  refine Ck (Xa (Cq (Cb (Cs (Kq rfl (Fa (q := 0) rfl rfl u66 rfl rfl) (Kq rfl (Ld rfl rfl .tc u31) ?_))))))
  refine Km rfl ?_
  refine Kq rfl (Ib rfl rfl rfl u31 (by omega) (by (rw [List.length_map]; omega))) ?_
  refine Kq rfl (ldm rfl rfl u22 rfl (by omega)) ?_
  refine Ku rfl (Oc rfl rfl (Kv fun w hS => rvalid_c (a := t.vals.getD k default))) ?_
  refine Kq rfl (Rt rfl rfl) (Nt ?_)
  refine Cd rfl (fun hc17 => ?_) (fun hc17 => ?_)
  ·(try simp only [sB] at hc17)
   refine Cs (Ka rfl (Nt (Ce (Xf (Xb (Xb (Xf (Xb ?_))))))))
   exact Rn rfl (.tmp rfl .nil) fun w' hS => ⟨congrArg (fun b => Ending.returned (.bool b)) (by symm; rw [decide_eq_false_iff_not]; intro h; have := h.2.2 _ (getD_memB t.vals k (by omega)); simp_all), hS.below⟩
  ·(try simp only [sB] at hc17)
   refine Ck (Xd (Xa (Cg (Km rfl (Kq rfl (Rz rfl rfl rfl (by omega)) (Ka rfl (Nn ?_)))))))
   refine Ly (k + 1) (by (try dsimp only); omega) (S1 rfl) (by refine (Sc ?_ (S0 _)) <;> (rfl)) ?_ (by (exact fun _ h => h))
   (try dsimp only)
   exact ⟨by omega, all_takeB (by omega) hks (by simpa using hc17)⟩
 ·(try simp only [sB] at hc8)
  refine Cx (Xc (Xc (Xe ?_)))
  obtain rfl : k = t.vals.length := by omega
  rw [List.take_of_length_le (Nat.le_refl _)] at hks
  refine Xa (Cs (Kq rfl (Fa (q := 2) rfl rfl u66 rfl rfl) (Kq rfl (Ld rfl rfl .tc u3) ?_)))
  refine Kq rfl (rd_geq rfl rfl rfl) (Km rfl ?_)
  refine Nb 21 rfl (fun hg21 => ?_) (fun hg21 => ?_)
  ·(try simp only [sB] at hg21)
   refine Kq rfl (Fa (q := 2) rfl rfl u66 rfl rfl) (Kq rfl (Ld rfl rfl .tc u3) ?_)
   refine Kq rfl (rd_leq rfl rfl rfl) (Kq rfl (Rp rfl rfl rfl) (Ka rfl (Nt (Ce ?_))))
   exact Rn rfl (.tmp rfl .nil) fun w' hS => ⟨congrArg (fun b => Ending.returned (.bool b)) (by rw [Bool.eq_iff_iff]; simp only [decide_eq_true_eq, Bool.false_eq_true]; unfold goodT; (exact ⟨fun h => ⟨by omega, by omega, hks⟩, fun h => by omega⟩)), hS.below⟩
  ·(try simp only [sB] at hg21)
   refine Kt rfl (Kt rfl (Kt rfl (Kq rfl (Rq rfl rfl rfl) (Ka rfl (Nt (Ce ?_))))))
   exact Rn rfl (.tmp rfl .nil) fun w' hS => ⟨congrArg (fun b => Ending.returned (.bool b)) (by rw [Bool.eq_iff_iff]; simp only [decide_eq_true_eq, Bool.false_eq_true]; unfold goodT; (exact ⟨fun h => h.elim, fun h => by omega⟩)), hS.below⟩
theorem take_sameL {l m : List Bs} {k : Nat} (h1 : k < l.length) (h2 : k < m.length) (h : l.take k = m.take k) (h3 : l.getD k default = m.getD k default) : l.take (k + 1) = m.take (k + 1) := by
 rw [List.getD_eq_getElem?_getD, List.getD_eq_getElem?_getD, List.getElem?_eq_getElem h1, List.getElem?_eq_getElem h2] at h3
 rw [List.take_add_one, List.take_add_one, h, List.getElem?_eq_getElem h1, List.getElem?_eq_getElem h2]
 rw [Option.toList, Option.toList]; simp only [Option.getD] at h3; rw [h3]
theorem Tp.eq_iff (a b : Tp) : a = b ↔ a.seed = b.seed ∧ a.at_ = b.at_ ∧ a.vals = b.vals := by
 cases a; cases b; simp only [Tp.mk.injEq]; constructor
 ·rintro ⟨h1, h2, h3⟩; exact ⟨h2, h3, h1⟩
 ·rintro ⟨h1, h2, h3⟩; exact ⟨h3, h1, h2⟩
theorem sameT_c {t u : Tp} {a b : Option Addr} {ca cb : Nat} {w : World} {ok : Nat → Prop} (hF1 : (Fact.sl a (strs t.vals)).holds ok w) (hF2 : (Fact.sl b (strs u.vals)).holds ok w) (hl : t.vals.length ≤ 1000000) (hm : u.vals.length ≤ 1000000) :
  Cw 24 #[t.v (.slice a t.vals.length ca), u.v (.slice b u.vals.length cb)] w (.bool (decide (t = u))) := by
 refine En [Fact.sl a (strs t.vals), Fact.sl b (strs u.vals)] [(0, t.v (.slice a t.vals.length ca)), (1, u.v (.slice b u.vals.length cb))] Tryz.func24 rfl Tryz.ntmps24 rfl (Ac rfl (Ac rfl (An _))) (Fc (fact_any hF1) (Fc (fact_any hF2) Fn)) ?_
 refine Cs ?_
 refine Kh rfl (Oy rfl rfl) ?_
 intro b2
 refine Kh rfl (Oy rfl rfl) ?_
 intro b3
 refine Ka rfl (Nt (Cq (Cs (Kq rfl (Fa (q := 1) rfl rfl u66 rfl rfl) (Kq rfl (Ld rfl rfl .tc u9) ?_)))))
 refine Kq rfl (Fa (q := 1) rfl rfl u66 rfl rfl) (Kq rfl (Ld rfl rfl .tc u9) ?_)
 refine Kq rfl (rd_sne rfl rfl rfl) (Km rfl ?_)
 refine Nb 11 rfl (fun hg11 => ?_) (fun hg11 => ?_)
 ·(try simp only [sB] at hg11)
  refine Kt rfl (Kt rfl (Kt rfl (Kt rfl (Kt rfl (Kq rfl (Rp rfl rfl rfl) (Km rfl (Kt rfl (Kt rfl (Kt rfl (Kt rfl (Kt rfl (Kt rfl (Kt rfl (Kq rfl (Rp rfl rfl rfl) (Nt ?_)))))))))))))))
  refine Cd rfl (fun _ => ?_) (fun h => by cases h)
  refine Cs (Ka rfl (Nt (Ce (Xb ?_))))
  exact Rn rfl (.tmp rfl .nil) fun w' hS => ⟨congrArg (fun b => Ending.returned (.bool b)) (by symm; rw [decide_eq_false_iff_not]; rintro rfl; simp_all), hS.below⟩
 ·(try simp only [sB] at hg11)
  refine Kq rfl (Fa (q := 2) rfl rfl u66 rfl rfl) (Kq rfl (Ld rfl rfl .tc u3) ?_)
  refine Kq rfl (Fa (q := 2) rfl rfl u66 rfl rfl) (Kq rfl (Ld rfl rfl .tc u3) ?_)
  refine Kq rfl (rd_neq rfl rfl rfl) (Kq rfl (Rq rfl rfl rfl) (Km rfl ?_))
  refine Nb 18 rfl (fun hg18 => ?_) (fun hg18 => ?_)
  ·(try simp only [sB] at hg18)
   refine Kt rfl (Kt rfl (Kt rfl (Kt rfl (Kt rfl (Kt rfl (Kt rfl (Kq rfl (Rp rfl rfl rfl) (Nt ?_))))))))
   refine Cd rfl (fun _ => ?_) (fun h => by cases h)
   refine Cs (Ka rfl (Nt (Ce (Xb ?_))))
   exact Rn rfl (.tmp rfl .nil) fun w' hS => ⟨congrArg (fun b => Ending.returned (.bool b)) (by symm; rw [decide_eq_false_iff_not]; rintro rfl; simp_all), hS.below⟩
  ·(try simp only [sB] at hg18)
   refine Kq rfl (Fa (q := 0) rfl rfl u66 rfl rfl) (Kq rfl (Ld rfl rfl .tc u31) ?_)
   refine Kq rfl (rd_len rfl rfl u31) (Kq rfl (Fa (q := 0) rfl rfl u66 rfl rfl) (Kq rfl (Ld rfl rfl .tc u31) ?_))
   refine Kq rfl (rd_len rfl rfl u31) (Kq rfl (rd_neq rfl rfl rfl) (Kq rfl (Rq rfl rfl rfl) (Nt ?_)))
   refine Cd rfl (fun hc26 => ?_) (fun hc26 => ?_)
   ·(try simp only [sB] at hc26)
    refine Cs (Ka rfl (Nt (Ce (Xb ?_))))
    exact Rn rfl (.tmp rfl .nil) fun w' hS => ⟨congrArg (fun b => Ending.returned (.bool b)) (by symm; rw [decide_eq_false_iff_not]; rintro rfl; simp_all), hS.below⟩
   ·(try simp only [sB] at hc26)
    have hsd : t.seed = u.seed := by simp_all
    have hat : t.at_ = u.at_ := by simp_all
    have hln : t.vals.length = u.vals.length := by omega
    refine Ck (Xa (Cq (Cs (Ka rfl (Nt (Cb ?_))))))
    refine Lp (σ := Nat) [(2, _), (3, _)] (fun gq => [(5, .int .i64 (gq : Int))]) (fun gq => gq ≤ t.vals.length ∧ t.vals.take gq = u.vals.take gq) (fun gq => t.vals.length - gq) (0) (S2 rfl rfl) (S1 rfl) (by (try dsimp only); exact ⟨Nat.zero_le _, by simp⟩) ?_
    rintro k hinv1; (try dsimp only at hinv1 ⊢)
    obtain ⟨hk, hkk⟩ := hinv1
    refine Cq (Cs (Km rfl (Kq rfl (Fa (q := 0) rfl rfl u66 rfl rfl) (Kq rfl (Ld rfl rfl .tc u31) ?_))))
    refine Kq rfl (rd_len rfl rfl u31) (Kq rfl (rd_lss rfl rfl rfl) (Nt ?_))
    refine Cd rfl (fun hc31 => ?_) (fun hc31 => ?_)
    ·(try simp only [sB] at hc31)
     refine Ck (Xa (Cq (Cb (Cq ?_))))
     refine Cf [0, 1, 2, 3, 4, 5, 6, 7, 8, 9, 10] [] [0, 0, 0, 0, 0, 0, 0, 0, 0, 0, 0] (by kernel_rfl) (by kernel_rfl) rfl ?_
     refine Kj rfl (Fa (q := 0) rfl rfl u66 rfl rfl) (Kj rfl (Ld rfl rfl .tc u31) ?_)
     refine Kj rfl (Rm rfl rfl) ?_
     refine Kj rfl (Ib rfl rfl rfl u31 (by omega) (by (rw [List.length_map]; omega))) ?_
     refine Kj rfl (ldm rfl rfl u22 rfl (by omega)) ?_
     refine Kj rfl (Fa (q := 0) rfl rfl u66 rfl rfl) (Kj rfl (Ld rfl rfl .tc u31) ?_)
     refine Kj rfl (Rm rfl rfl) ?_
     refine Kj rfl (Ib rfl rfl rfl u31 (by omega) (by (rw [List.length_map]; omega))) ?_
     refine Kj rfl (ldm rfl rfl u22 rfl (by omega)) ?_
     refine Kj rfl (rd_sne rfl rfl rfl) ?_
     refine WJ.nil ?_
     refine Nt ?_
     refine Cd rfl (fun hc44 => ?_) (fun hc44 => ?_)
     ·(try simp only [sB] at hc44)
      refine Cs (Ka rfl (Nt (Ce (Xf (Xb (Xb (Xf (Xb ?_))))))))
      exact Rn rfl (.tmp rfl .nil) fun w' hS => ⟨congrArg (fun b => Ending.returned (.bool b)) (by symm; rw [decide_eq_false_iff_not]; intro h; rw [h] at hc44; simp at hc44), hS.below⟩
     ·(try simp only [sB] at hc44)
      refine Ck (Xd (Xa (Cg (Km rfl (Kq rfl (Rz rfl rfl rfl (by omega)) (Ka rfl (Nn ?_)))))))
      refine Ly (k + 1) (by (try dsimp only); omega) (S2 rfl rfl) (by refine (Sc ?_ (S0 _)) <;> (rfl)) ?_ (by (exact fun _ h => h))
      (try dsimp only)
      exact ⟨by omega, take_sameL (by omega) (by omega) hkk (by simpa using hc44)⟩
    ·(try simp only [sB] at hc31)
     refine Cx (Xc (Xc (Xe ?_)))
     obtain rfl : k = t.vals.length := by omega
     rw [List.take_of_length_le (Nat.le_refl _), List.take_of_length_le (by omega)] at hkk
     refine Xa (Cs (Ka rfl (Nt (Ce ?_))))
     exact Rn rfl (.tmp rfl .nil) fun w' hS => ⟨congrArg (fun b => Ending.returned (.bool b)) (by symm; rw [decide_eq_true_eq, Tp.eq_iff]; exact ⟨hsd, hat, hkk⟩), hS.below⟩
def fewT (t : Tp) : Prop := t.vals.length ≤ 40 ∧ t.seed.length ≤ 100 ∧ ∀ s ∈ t.vals, s.length ≤ 140
instance (t : Tp) : Decidable (fewT t) := inferInstanceAs (Decidable (_ ∧ _ ∧ _))
theorem fewT_c {t : Tp} {a : Option Addr} {cap : Nat} {w : World} {ok : Nat → Prop} (hF1 : (Fact.sl a (strs t.vals)).holds ok w) (hl : t.vals.length ≤ 9223372036854775807) :
  Cw 21 #[t.v (.slice a t.vals.length cap)] w (.bool (decide (fewT t))) := by
 refine En [Fact.sl a (strs t.vals)] [(0, t.v (.slice a t.vals.length cap))] Tryz.func21 rfl Tryz.ntmps21 rfl (Ac rfl (An _)) (Fc (fact_any hF1) Fn) ?_
 refine Cs ?_
 refine Kh rfl (Oy rfl rfl) ?_
 intro b1
 refine Ka rfl (Nt (Cq (Cs (Ka rfl (Nt (Cb ?_))))))
 refine Lp (σ := Nat) [(1, _)] (fun gq => [(3, .int .i64 (gq : Int))]) (fun gq => gq ≤ t.vals.length ∧ gq ≤ 40 ∧ ∀ s ∈ t.vals.take gq, s.length ≤ 140) (fun gq => t.vals.length - gq) (0) (S1 rfl) (S1 rfl) (by (try dsimp only); exact ⟨Nat.zero_le _, by omega, fun s h => by simp at h⟩) ?_
 rintro k hinv1; (try dsimp only at hinv1 ⊢)
 obtain ⟨hk, hk4, hks⟩ := hinv1
 refine Cq (Cs (Km rfl (Kq rfl (Fa (q := 0) rfl rfl u66 rfl rfl) (Kq rfl (Ld rfl rfl .tc u31) ?_))))
 refine Kq rfl (rd_len rfl rfl u31) (Kq rfl (rd_lss rfl rfl rfl) (Km rfl ?_))
 refine Nb 9 rfl (fun hg9 => ?_) (fun hg9 => ?_)
 ·(try simp only [sB] at hg9)
  refine Km rfl (Kq rfl (rd_lss rfl rfl rfl) (Kq rfl (Rp rfl rfl rfl) (Nt ?_)))
  refine Cd rfl (fun hc12 => ?_) (fun hc12 => ?_)
  ·(try simp only [sB] at hc12)
   refine Ck (Xa (Cq (Cb (Cs (Kq rfl (Fa (q := 0) rfl rfl u66 rfl rfl) (Kq rfl (Ld rfl rfl .tc u31) ?_))))))
   refine Km rfl ?_
   refine Kq rfl (Ib rfl rfl rfl u31 (by omega) (by (rw [List.length_map]; omega))) ?_
   refine Kq rfl (ldm rfl rfl u22 rfl (by omega)) ?_
   refine Kq rfl (rd_slen rfl rfl u22) (Kq rfl (rd_gtr rfl rfl rfl) (Nt ?_))
   refine Cd rfl (fun hc21 => ?_) (fun hc21 => ?_)
   ·(try simp only [sB] at hc21)
    refine Cs (Ka rfl (Nt (Ce (Xf (Xb (Xb (Xf (Xb ?_))))))))
    exact Rn rfl (.tmp rfl .nil) fun w' hS => ⟨congrArg (fun b => Ending.returned (.bool b)) (by symm; rw [decide_eq_false_iff_not]; intro h; have := h.2.2 _ (getD_memB t.vals k (by omega)); omega), hS.below⟩
   ·(try simp only [sB] at hc21)
    refine Ck (Xd (Xa (Cg (Km rfl (Kq rfl (Rz rfl rfl rfl (by omega)) (Ka rfl (Nn ?_)))))))
    refine Ly (k + 1) (by (try dsimp only); omega) (S1 rfl) (by refine (Sc ?_ (S0 _)) <;> (rfl)) ?_ (by (exact fun _ h => h))
    (try dsimp only)
    exact ⟨by omega, by omega, all_takeB (by omega) hks (by omega)⟩
  ·(try simp only [sB] at hc12)
   refine Cx (Xc (Xc (Xe (Xa (Cs (Kq rfl (Fa (q := 0) rfl rfl u66 rfl rfl) (Kq rfl (Ld rfl rfl .tc u31) ?_)))))))
   refine Kq rfl (rd_len rfl rfl u31) (Kq rfl (rd_leq rfl rfl rfl) (Km rfl ?_))
   refine Nb 26 rfl (fun hg26 => ?_) (fun hg26 => ?_)
   ·(try simp only [sB] at hg26)
    refine Kq rfl (Fa (q := 1) rfl rfl u66 rfl rfl) (Kq rfl (Ld rfl rfl .tc u9) ?_)
    refine Kq rfl (rd_slen rfl rfl u9) (Kq rfl (rd_leq rfl rfl rfl) (Kq rfl (Rp rfl rfl rfl) (Ka rfl (Nt (Ce ?_)))))
    exact Rn rfl (.tmp rfl .nil) fun w' hS => ⟨congrArg (fun b => Ending.returned (.bool b)) (by rw [Bool.eq_iff_iff]; simp only [decide_eq_true_eq, Bool.false_eq_true]; unfold fewT; (exact ⟨fun h => ⟨by omega, by omega, by rw [List.take_of_length_le (by omega)] at hks; exact hks⟩, fun h => by omega⟩)), hS.below⟩
   ·(try simp only [sB] at hg26)
    refine Kt rfl (Kt rfl (Kt rfl (Kt rfl (Kq rfl (Rq rfl rfl rfl) (Ka rfl (Nt (Ce ?_)))))))
    exact Rn rfl (.tmp rfl .nil) fun w' hS => ⟨congrArg (fun b => Ending.returned (.bool b)) (by rw [Bool.eq_iff_iff]; simp only [decide_eq_true_eq, Bool.false_eq_true]; unfold fewT; (exact ⟨fun h => h.elim, fun h => by omega⟩)), hS.below⟩
 ·(try simp only [sB] at hg9)
  refine Kt rfl (Kt rfl (Kq rfl (Rq rfl rfl rfl) (Nt ?_)))
  refine Cd rfl (fun h => by cases h) (fun _ => ?_)
  refine Cx (Xc (Xc (Xe (Xa (Cs (Kq rfl (Fa (q := 0) rfl rfl u66 rfl rfl) (Kq rfl (Ld rfl rfl .tc u31) ?_)))))))
  refine Kq rfl (rd_len rfl rfl u31) (Kq rfl (rd_leq rfl rfl rfl) (Km rfl ?_))
  refine Nb 26 rfl (fun hg26 => ?_) (fun hg26 => ?_)
  ·(try simp only [sB] at hg26)
   refine Kq rfl (Fa (q := 1) rfl rfl u66 rfl rfl) (Kq rfl (Ld rfl rfl .tc u9) ?_)
   refine Kq rfl (rd_slen rfl rfl u9) (Kq rfl (rd_leq rfl rfl rfl) (Kq rfl (Rp rfl rfl rfl) (Ka rfl (Nt (Ce ?_)))))
   exact Rn rfl (.tmp rfl .nil) fun w' hS => ⟨congrArg (fun b => Ending.returned (.bool b)) (by rw [Bool.eq_iff_iff]; simp only [decide_eq_true_eq, Bool.false_eq_true]; unfold fewT; (exact ⟨fun h => ⟨by omega, by omega, by rw [List.take_of_length_le (by omega)] at hks; exact hks⟩, fun h => by omega⟩)), hS.below⟩
  ·(try simp only [sB] at hg26)
   refine Kt rfl (Kt rfl (Kt rfl (Kt rfl (Kq rfl (Rq rfl rfl rfl) (Ka rfl (Nt (Ce ?_)))))))
   exact Rn rfl (.tmp rfl .nil) fun w' hS => ⟨congrArg (fun b => Ending.returned (.bool b)) (by rw [Bool.eq_iff_iff]; simp only [decide_eq_true_eq, Bool.false_eq_true]; unfold fewT; (exact ⟨fun h => h.elim, fun h => by omega⟩)), hS.below⟩
theorem isname_c {s : Bs} {w : World} (hl : s.length ≤ 140737488351232) :
  Cw 74 #[.string (S s)] w (.bool (decide (nameS s))) := by
 refine En [] [(0, .string (S s))] Tryz.func74 rfl Tryz.ntmps74 rfl (Ac rfl (An _)) Fn ?_
 refine Cs (Ka rfl (Nt (Cq (Cs (Km rfl (Kq rfl (rd_slen rfl rfl u9) (Km rfl (Nt (Cb ?_)))))))))
 refine Lp (σ := Nat) [(0, _), (7, _)] (fun gq => [(8, .int .i64 (gq : Int))]) (fun gq => gq ≤ s.length ∧ ∀ j, j < gq → nmB j (s.getD j default)) (fun gq => s.length - gq) (0) (S2 rfl rfl) (S1 rfl) (by (try dsimp only); exact ⟨Nat.zero_le _, fun j h => absurd h (by omega)⟩) ?_
 rintro i hinv1; (try dsimp only at hinv1 ⊢)
 obtain ⟨hi, hok⟩ := hinv1
 refine Cs (Kq rfl (rd_lss rfl rfl rfl) (Nt (Cq ?_)))
 refine Cd rfl (fun hc9 => ?_) (fun hc9 => ?_)
 ·(try simp only [sB] at hc9)
  have hil : i < s.length := by omega
  obtain ⟨c, hc⟩ : ∃ c, Keep (c = s.getD i default) := ⟨_, rfl⟩
  refine Ck (Xa (Cq (Cb (Cs (Km rfl (Ka rfl (Nt (Cs (Km rfl (Km rfl ?_))))))))))
  refine Kq rfl (rd_sidxD rfl rfl rfl u9 ?_) ?_
  ·omega
  refine Ns 13 rfl (v' := .int .u8 (c.toNat : Int)) (by rw [show c = _ from hc, Int.toNat_natCast]) ?_
  refine Ka rfl (Nt ?_)
  refine WC.joinP (σ := Unit) [(0, _), (3, _), (4, _), (7, _), (8, _)] (fun gq => [(5, .bool (decide ((97 ≤ c.toNat ∧ c.toNat ≤ 122) ∨ (65 ≤ c.toNat ∧ c.toNat ≤ 90))))]) (fun gq => True) (S5 rfl rfl rfl rfl rfl) ?_ ?_
  ·skip
   refine Cg (Km rfl (Kq rfl (rd_geq rfl rfl rfl) (Km rfl ?_)))
   refine Nb 16 rfl (fun hg16 => ?_) (fun hg16 => ?_)
   ·(try simp only [sB] at hg16)
    refine Km rfl (Kq rfl (rd_leq rfl rfl rfl) (Kq rfl (Rp rfl rfl rfl) (Km rfl ?_)))
    refine Nb 20 rfl (fun hg20 => ?_) (fun hg20 => ?_)
    ·(try simp only [sB] at hg20)
     refine Kt rfl (Kt rfl (Kt rfl (Kt rfl (Kt rfl (Kt rfl (Kq rfl (Rp rfl rfl rfl) (Ka rfl (Nn ?_))))))))
     refine WX.joinP (()) (S5 rfl rfl rfl rfl rfl) (by refine (Sc ?_ (S0 _)) <;> ((exact congrArg (fun b => some (Value.bool b)) (by symm; apply decide_eq_true; omega)))) ?_ (by (exact fun _ h => h))
     (try dsimp only)
     done
    ·(try simp only [sB] at hg20)
     refine Km rfl (Kq rfl (rd_geq rfl rfl rfl) (Km rfl ?_))
     refine Nb 23 rfl (fun hg23 => ?_) (fun hg23 => ?_)
     ·(try simp only [sB] at hg23)
      refine Km rfl (Kq rfl (rd_leq rfl rfl rfl) (Kq rfl (Rp rfl rfl rfl) (Kq rfl (Rq rfl rfl rfl) (Ka rfl (Nn ?_)))))
      refine WX.joinP (()) (S5 rfl rfl rfl rfl rfl) (by refine (Sc ?_ (S0 _)) <;> ((refine slot_b rfl ?_; (try dsimp only); (exact decide_eq_decide.2 (by omega))))) ?_ (by (exact fun _ h => h))
      (try dsimp only)
      done
     ·(try simp only [sB] at hg23)
      refine Kt rfl (Kt rfl (Kq rfl (Rq rfl rfl rfl) (Kq rfl (Rq rfl rfl rfl) (Ka rfl (Nn ?_)))))
      refine WX.joinP (()) (S5 rfl rfl rfl rfl rfl) (by refine (Sc ?_ (S0 _)) <;> ((exact congrArg (fun b => some (Value.bool b)) (by symm; apply decide_eq_false; omega)))) ?_ (by (exact fun _ h => h))
      (try dsimp only)
      done
   ·(try simp only [sB] at hg16)
    refine Kt rfl (Kt rfl (Kq rfl (Rq rfl rfl rfl) (Km rfl (Km rfl (Kq rfl (rd_geq rfl rfl rfl) (Km rfl ?_))))))
    refine Nb 23 rfl (fun hg23 => ?_) (fun hg23 => ?_)
    ·(try simp only [sB] at hg23)
     refine Km rfl (Kq rfl (rd_leq rfl rfl rfl) (Kq rfl (Rp rfl rfl rfl) (Kq rfl (Rq rfl rfl rfl) (Ka rfl (Nn ?_)))))
     refine WX.joinP (()) (S5 rfl rfl rfl rfl rfl) (by refine (Sc ?_ (S0 _)) <;> ((refine slot_b rfl ?_; (try dsimp only); (exact decide_eq_decide.2 (by omega))))) ?_ (by (exact fun _ h => h))
     (try dsimp only)
     done
    ·(try simp only [sB] at hg23)
     refine Kt rfl (Kt rfl (Kq rfl (Rq rfl rfl rfl) (Kq rfl (Rq rfl rfl rfl) (Ka rfl (Nn ?_)))))
     refine WX.joinP (()) (S5 rfl rfl rfl rfl rfl) (by refine (Sc ?_ (S0 _)) <;> ((exact congrArg (fun b => some (Value.bool b)) (by symm; apply decide_eq_false; omega)))) ?_ (by (exact fun _ h => h))
     (try dsimp only)
     done
  ·rintro _ hmeet; (try dsimp only at hmeet ⊢)
   refine WC.joinP (σ := Unit) [(0, _), (7, _), (8, _)] (fun gq => [(45, .bool (decide (¬ (((97 ≤ c.toNat ∧ c.toNat ≤ 122) ∨ (65 ≤ c.toNat ∧ c.toNat ≤ 90)) ∨ (i ≠ 0 ∧ (c.toNat = 95 ∨ (48 ≤ c.toNat ∧ c.toNat ≤ 57)))))))]) (fun gq => True) (S3 rfl rfl rfl) ?_ ?_
   ·skip
    refine Cg (Km rfl (Kq rfl (Rt rfl rfl) (Km rfl ?_)))
    refine Nb 30 rfl (fun hg30 => ?_) (fun hg30 => ?_)
    ·(try simp only [sB] at hg30)
     refine Km rfl (Kq rfl (rd_eql rfl rfl rfl) (Km rfl ?_))
     refine Nb 33 rfl (fun hg33 => ?_) (fun hg33 => ?_)
     ·(try simp only [sB] at hg33)
      refine Kt rfl (Kt rfl (Kt rfl (Kt rfl (Kt rfl (Kt rfl (Kt rfl (Kt rfl (Kt rfl (Kt rfl (Kq rfl (Rp rfl rfl rfl) (Kq rfl (Rp rfl rfl rfl) (Nn ?_))))))))))))
      refine WX.joinP (()) (S3 rfl rfl rfl) (by refine (Sc ?_ (S0 _)) <;> ((exact congrArg (fun b => some (Value.bool b)) (by symm; apply decide_eq_true; omega)))) ?_ (by (exact fun _ h => h))
      (try dsimp only)
      done
     ·(try simp only [sB] at hg33)
      refine Km rfl (Kq rfl (rd_neq rfl rfl rfl) (Km rfl ?_))
      refine Nb 36 rfl (fun hg36 => ?_) (fun hg36 => ?_)
      ·(try simp only [sB] at hg36)
       refine Km rfl (Kq rfl (rd_lss rfl rfl rfl) (Km rfl ?_))
       refine Nb 39 rfl (fun hg39 => ?_) (fun hg39 => ?_)
       ·(try simp only [sB] at hg39)
        refine Kt rfl (Kt rfl (Kq rfl (Rp rfl rfl rfl) (Kq rfl (Rp rfl rfl rfl) (Kq rfl (Rq rfl rfl rfl) (Kq rfl (Rp rfl rfl rfl) (Nn ?_))))))
        refine WX.joinP (()) (S3 rfl rfl rfl) (by refine (Sc ?_ (S0 _)) <;> ((exact congrArg (fun b => some (Value.bool b)) (by symm; apply decide_eq_true; omega)))) ?_ (by (exact fun _ h => h))
        (try dsimp only)
        done
       ·(try simp only [sB] at hg39)
        refine Km rfl (Kq rfl (rd_gtr rfl rfl rfl) (Kq rfl (Rq rfl rfl rfl) (Kq rfl (Rp rfl rfl rfl) (Kq rfl (Rq rfl rfl rfl) (Kq rfl (Rp rfl rfl rfl) (Nn ?_))))))
        refine WX.joinP (()) (S3 rfl rfl rfl) (by refine (Sc ?_ (S0 _)) <;> ((refine slot_b rfl ?_; (try dsimp only); (exact decide_eq_decide.2 (by omega))))) ?_ (by (exact fun _ h => h))
        (try dsimp only)
        done
      ·(try simp only [sB] at hg36)
       refine Kt rfl (Kt rfl (Kt rfl (Kt rfl (Kt rfl (Kt rfl (Kq rfl (Rq rfl rfl rfl) (Kq rfl (Rq rfl rfl rfl) (Kq rfl (Rp rfl rfl rfl) (Nn ?_)))))))))
       refine WX.joinP (()) (S3 rfl rfl rfl) (by refine (Sc ?_ (S0 _)) <;> ((exact congrArg (fun b => some (Value.bool b)) (by symm; apply decide_eq_false; omega)))) ?_ (by (exact fun _ h => h))
       (try dsimp only)
       done
    ·(try simp only [sB] at hg30)
     refine Kt rfl (Kt rfl (Kt rfl (Kt rfl (Kt rfl (Kt rfl (Kt rfl (Kt rfl (Kt rfl (Kt rfl (Kt rfl (Kt rfl (Kt rfl (Kt rfl (Kq rfl (Rq rfl rfl rfl) (Nn ?_)))))))))))))))
     refine WX.joinP (()) (S3 rfl rfl rfl) (by refine (Sc ?_ (S0 _)) <;> ((refine slot_b rfl ?_; (try dsimp only); (simp [*]; done)))) ?_ (by (exact fun _ h => h))
     (try dsimp only)
     done
   ·rintro _ hmeet; (try dsimp only at hmeet ⊢)
    refine Cd rfl (fun hc45 => ?_) (fun hc45 => ?_)
    ·(try simp only [sB] at hc45)
     have hno : ¬ nameS s := fun h => hc45 (by have := h.1 i hil; rw [← show c = _ from hc] at this; exact this)
     refine Cs (Ka rfl (Nt (Ce (Xf (Xb (Xb (Xf (Xb ?_))))))))
     exact R1 rfl rfl (by rw [decide_eq_false hno]; rfl)
    ·(try simp only [sB] at hc45)
     have hyes : nmB i (s.getD i default) := by rw [← show c = _ from hc]; exact Decidable.not_not.1 hc45
     refine Ck (Xd (Xa (Cg (Kq rfl (Rz rfl rfl rfl (by omega)) (Km rfl (Nn ?_))))))
     refine Ly (i + 1) (by (try dsimp only); omega) (S2 rfl rfl) (by refine (Sc ?_ (S0 _)) <;> (rfl)) ?_ (by (exact fun _ h => h))
     (try dsimp only)
     exact ⟨by omega, fun j hj => by rcases Nat.lt_or_eq_of_le (Nat.le_of_lt_succ hj) with h | rfl; exact hok j h; exact hyes⟩
 ·(try simp only [sB] at hc9)
  refine Cx (Xc (Xc (Xe ?_)))
  obtain rfl : i = s.length := by omega
  have hq : nameS s ↔ (s ≠ [] ∧ s.length ≤ 32) := ⟨fun h => h.2, fun h => ⟨hok, h⟩⟩
  refine Xa (Cs (Km rfl (Kq rfl (rd_sne rfl rfl rfl) (Km rfl ?_))))
  refine Nb 49 rfl (fun hg49 => ?_) (fun hg49 => ?_)
  ·(try simp only [sB] at hg49)
   refine Km rfl (Kq rfl (rd_slen rfl rfl u9) (Kq rfl (rd_leq rfl rfl rfl) (Kq rfl (Rp rfl rfl rfl) (Ka rfl (Nt (Ce ?_))))))
   exact R1 rfl rfl (by (rw [show decide (nameS s) = decide ((s.length : Int) ≤ 32) from decide_eq_decide.2 ⟨fun h => by have := h.2.2; omega, fun h => ⟨hok, by simpa using hg49, by omega⟩⟩]; rfl))
  ·(try simp only [sB] at hg49)
   refine Kt rfl (Kt rfl (Kt rfl (Kq rfl (Rq rfl rfl rfl) (Ka rfl (Nt (Ce ?_))))))
   exact R1 rfl rfl (by (rw [decide_eq_false (show ¬ nameS s from fun h => h.2.1 (by simpa using hg49))]; rfl))
theorem rname_c {s : Bs} {w : World} (hl : s.length ≤ 140737488351232) :
  Cw 84 #[.string (S s)] w (.bool (decide (nameS s))) := by
 refine En [] [(0, .string (S s))] Tryz.func84 rfl Tryz.ntmps84 rfl (Ac rfl (An _)) Fn ?_
 refine Cs (Ka rfl (Nt (Cq (Cs (Ka rfl (Nt (Cb ?_)))))))
 refine Lp (σ := Nat) [(0, _)] (fun gq => [(3, .int .i64 (gq : Int))]) (fun gq => gq ≤ s.length ∧ ∀ j, j < gq → nmB j (s.getD j default)) (fun gq => s.length - gq) (0) (S1 rfl) (S1 rfl) (by (try dsimp only); exact ⟨Nat.zero_le _, fun j h => absurd h (by omega)⟩) ?_
 rintro i hinv1; (try dsimp only at hinv1 ⊢)
 obtain ⟨hi, hok⟩ := hinv1
 refine Cq (Cs (Km rfl (Km rfl (Kq rfl (rd_slen rfl rfl u9) (Kq rfl (rd_lss rfl rfl rfl) (Nt ?_))))))
 refine Cd rfl (fun hc9 => ?_) (fun hc9 => ?_)
 ·(try simp only [sB] at hc9)
  have hil : i < s.length := by omega
  obtain ⟨c, hc⟩ : ∃ c, Keep (c = s.getD i default) := ⟨_, rfl⟩
  refine Ck (Xa (Cq (Cb (Cs (Km rfl (Km rfl ?_))))))
  refine Kq rfl (rd_sidxD rfl rfl rfl u9 ?_) ?_
  ·omega
  refine Ns 14 rfl (v' := .int .u8 (c.toNat : Int)) (by rw [show c = _ from hc, Int.toNat_natCast]) ?_
  refine Ka rfl (Nt ?_)
  refine WC.joinP (σ := Unit) [(0, _), (3, _), (4, _)] (fun gq => [(5, .bool (decide ((97 ≤ c.toNat ∧ c.toNat ≤ 122) ∨ (65 ≤ c.toNat ∧ c.toNat ≤ 90))))]) (fun gq => True) (S3 rfl rfl rfl) ?_ ?_
  ·skip
   refine Cg (Km rfl (Kq rfl (rd_geq rfl rfl rfl) (Km rfl ?_)))
   refine Nb 17 rfl (fun hg17 => ?_) (fun hg17 => ?_)
   ·(try simp only [sB] at hg17)
    refine Km rfl (Kq rfl (rd_leq rfl rfl rfl) (Kq rfl (Rp rfl rfl rfl) (Km rfl ?_)))
    refine Nb 21 rfl (fun hg21 => ?_) (fun hg21 => ?_)
    ·(try simp only [sB] at hg21)
     refine Kt rfl (Kt rfl (Kt rfl (Kt rfl (Kt rfl (Kt rfl (Kq rfl (Rp rfl rfl rfl) (Ka rfl (Nn ?_))))))))
     refine WX.joinP (()) (S3 rfl rfl rfl) (by refine (Sc ?_ (S0 _)) <;> ((exact congrArg (fun b => some (Value.bool b)) (by symm; apply decide_eq_true; omega)))) ?_ (by (exact fun _ h => h))
     (try dsimp only)
     done
    ·(try simp only [sB] at hg21)
     refine Km rfl (Kq rfl (rd_geq rfl rfl rfl) (Km rfl ?_))
     refine Nb 24 rfl (fun hg24 => ?_) (fun hg24 => ?_)
     ·(try simp only [sB] at hg24)
      refine Km rfl (Kq rfl (rd_leq rfl rfl rfl) (Kq rfl (Rp rfl rfl rfl) (Kq rfl (Rq rfl rfl rfl) (Ka rfl (Nn ?_)))))
      refine WX.joinP (()) (S3 rfl rfl rfl) (by refine (Sc ?_ (S0 _)) <;> ((refine slot_b rfl ?_; (try dsimp only); (exact decide_eq_decide.2 (by omega))))) ?_ (by (exact fun _ h => h))
      (try dsimp only)
      done
     ·(try simp only [sB] at hg24)
      refine Kt rfl (Kt rfl (Kq rfl (Rq rfl rfl rfl) (Kq rfl (Rq rfl rfl rfl) (Ka rfl (Nn ?_)))))
      refine WX.joinP (()) (S3 rfl rfl rfl) (by refine (Sc ?_ (S0 _)) <;> ((exact congrArg (fun b => some (Value.bool b)) (by symm; apply decide_eq_false; omega)))) ?_ (by (exact fun _ h => h))
      (try dsimp only)
      done
   ·(try simp only [sB] at hg17)
    refine Kt rfl (Kt rfl (Kq rfl (Rq rfl rfl rfl) (Km rfl (Km rfl (Kq rfl (rd_geq rfl rfl rfl) (Km rfl ?_))))))
    refine Nb 24 rfl (fun hg24 => ?_) (fun hg24 => ?_)
    ·(try simp only [sB] at hg24)
     refine Km rfl (Kq rfl (rd_leq rfl rfl rfl) (Kq rfl (Rp rfl rfl rfl) (Kq rfl (Rq rfl rfl rfl) (Ka rfl (Nn ?_)))))
     refine WX.joinP (()) (S3 rfl rfl rfl) (by refine (Sc ?_ (S0 _)) <;> ((refine slot_b rfl ?_; (try dsimp only); (exact decide_eq_decide.2 (by omega))))) ?_ (by (exact fun _ h => h))
     (try dsimp only)
     done
    ·(try simp only [sB] at hg24)
     refine Kt rfl (Kt rfl (Kq rfl (Rq rfl rfl rfl) (Kq rfl (Rq rfl rfl rfl) (Ka rfl (Nn ?_)))))
     refine WX.joinP (()) (S3 rfl rfl rfl) (by refine (Sc ?_ (S0 _)) <;> ((exact congrArg (fun b => some (Value.bool b)) (by symm; apply decide_eq_false; omega)))) ?_ (by (exact fun _ h => h))
     (try dsimp only)
     done
  ·rintro _ hmeet; (try dsimp only at hmeet ⊢)
   refine WC.joinP (σ := Unit) [(0, _), (3, _)] (fun gq => [(46, .bool (decide (¬ (((97 ≤ c.toNat ∧ c.toNat ≤ 122) ∨ (65 ≤ c.toNat ∧ c.toNat ≤ 90)) ∨ (i ≠ 0 ∧ (c.toNat = 95 ∨ (48 ≤ c.toNat ∧ c.toNat ≤ 57)))))))]) (fun gq => True) (S2 rfl rfl) ?_ ?_
   ·skip
    refine Cg (Km rfl (Kq rfl (Rt rfl rfl) (Km rfl ?_)))
    refine Nb 31 rfl (fun hg31 => ?_) (fun hg31 => ?_)
    ·(try simp only [sB] at hg31)
     refine Km rfl (Kq rfl (rd_eql rfl rfl rfl) (Km rfl ?_))
     refine Nb 34 rfl (fun hg34 => ?_) (fun hg34 => ?_)
     ·(try simp only [sB] at hg34)
      refine Kt rfl (Kt rfl (Kt rfl (Kt rfl (Kt rfl (Kt rfl (Kt rfl (Kt rfl (Kt rfl (Kt rfl (Kq rfl (Rp rfl rfl rfl) (Kq rfl (Rp rfl rfl rfl) (Nn ?_))))))))))))
      refine WX.joinP (()) (S2 rfl rfl) (by refine (Sc ?_ (S0 _)) <;> ((exact congrArg (fun b => some (Value.bool b)) (by symm; apply decide_eq_true; omega)))) ?_ (by (exact fun _ h => h))
      (try dsimp only)
      done
     ·(try simp only [sB] at hg34)
      refine Km rfl (Kq rfl (rd_neq rfl rfl rfl) (Km rfl ?_))
      refine Nb 37 rfl (fun hg37 => ?_) (fun hg37 => ?_)
      ·(try simp only [sB] at hg37)
       refine Km rfl (Kq rfl (rd_lss rfl rfl rfl) (Km rfl ?_))
       refine Nb 40 rfl (fun hg40 => ?_) (fun hg40 => ?_)
       ·(try simp only [sB] at hg40)
        refine Kt rfl (Kt rfl (Kq rfl (Rp rfl rfl rfl) (Kq rfl (Rp rfl rfl rfl) (Kq rfl (Rq rfl rfl rfl) (Kq rfl (Rp rfl rfl rfl) (Nn ?_))))))
        refine WX.joinP (()) (S2 rfl rfl) (by refine (Sc ?_ (S0 _)) <;> ((exact congrArg (fun b => some (Value.bool b)) (by symm; apply decide_eq_true; omega)))) ?_ (by (exact fun _ h => h))
        (try dsimp only)
        done
       ·(try simp only [sB] at hg40)
        refine Km rfl (Kq rfl (rd_gtr rfl rfl rfl) (Kq rfl (Rq rfl rfl rfl) (Kq rfl (Rp rfl rfl rfl) (Kq rfl (Rq rfl rfl rfl) (Kq rfl (Rp rfl rfl rfl) (Nn ?_))))))
        refine WX.joinP (()) (S2 rfl rfl) (by refine (Sc ?_ (S0 _)) <;> ((refine slot_b rfl ?_; (try dsimp only); (exact decide_eq_decide.2 (by omega))))) ?_ (by (exact fun _ h => h))
        (try dsimp only)
        done
      ·(try simp only [sB] at hg37)
       refine Kt rfl (Kt rfl (Kt rfl (Kt rfl (Kt rfl (Kt rfl (Kq rfl (Rq rfl rfl rfl) (Kq rfl (Rq rfl rfl rfl) (Kq rfl (Rp rfl rfl rfl) (Nn ?_)))))))))
       refine WX.joinP (()) (S2 rfl rfl) (by refine (Sc ?_ (S0 _)) <;> ((exact congrArg (fun b => some (Value.bool b)) (by symm; apply decide_eq_false; omega)))) ?_ (by (exact fun _ h => h))
       (try dsimp only)
       done
    ·(try simp only [sB] at hg31)
     refine Kt rfl (Kt rfl (Kt rfl (Kt rfl (Kt rfl (Kt rfl (Kt rfl (Kt rfl (Kt rfl (Kt rfl (Kt rfl (Kt rfl (Kt rfl (Kt rfl (Kq rfl (Rq rfl rfl rfl) (Nn ?_)))))))))))))))
     refine WX.joinP (()) (S2 rfl rfl) (by refine (Sc ?_ (S0 _)) <;> ((refine slot_b rfl ?_; (try dsimp only); (simp [*]; done)))) ?_ (by (exact fun _ h => h))
     (try dsimp only)
     done
   ·rintro _ hmeet; (try dsimp only at hmeet ⊢)
    refine Cd rfl (fun hc46 => ?_) (fun hc46 => ?_)
    ·(try simp only [sB] at hc46)
     have hno : ¬ nameS s := fun h => hc46 (by have := h.1 i hil; rw [← show c = _ from hc] at this; exact this)
     refine Cs (Ka rfl (Nt (Ce (Xf (Xb (Xb (Xf (Xb ?_))))))))
     exact R1 rfl rfl (by rw [decide_eq_false hno]; rfl)
    ·(try simp only [sB] at hc46)
     have hyes : nmB i (s.getD i default) := by rw [← show c = _ from hc]; exact Decidable.not_not.1 hc46
     refine Ck (Xd (Xa (Cg (Km rfl (Kq rfl (Rz rfl rfl rfl (by omega)) (Ka rfl (Nn ?_)))))))
     refine Ly (i + 1) (by (try dsimp only); omega) (S1 rfl) (by refine (Sc ?_ (S0 _)) <;> (rfl)) ?_ (by (exact fun _ h => h))
     (try dsimp only)
     exact ⟨by omega, fun j hj => by rcases Nat.lt_or_eq_of_le (Nat.le_of_lt_succ hj) with h | rfl; exact hok j h; exact hyes⟩
 ·(try simp only [sB] at hc9)
  refine Cx (Xc (Xc (Xe ?_)))
  obtain rfl : i = s.length := by omega
  have hq : nameS s ↔ (s ≠ [] ∧ s.length ≤ 32) := ⟨fun h => h.2, fun h => ⟨hok, h⟩⟩
  refine Xa (Cs (Km rfl (Kq rfl (rd_sne rfl rfl rfl) (Km rfl ?_))))
  refine Nb 49 rfl (fun hg49 => ?_) (fun hg49 => ?_)
  ·(try simp only [sB] at hg49)
   refine Km rfl (Kq rfl (rd_slen rfl rfl u9) (Kq rfl (rd_leq rfl rfl rfl) (Kq rfl (Rp rfl rfl rfl) (Ka rfl (Nt (Ce ?_))))))
   exact R1 rfl rfl (by (rw [show decide (nameS s) = decide ((s.length : Int) ≤ 32) from decide_eq_decide.2 ⟨fun h => by have := h.2.2; omega, fun h => ⟨hok, by simpa using hg49, by omega⟩⟩]; rfl))
  ·(try simp only [sB] at hg49)
   refine Kt rfl (Kt rfl (Kt rfl (Kq rfl (Rq rfl rfl rfl) (Ka rfl (Nt (Ce ?_))))))
   exact R1 rfl rfl (by (rw [decide_eq_false (show ¬ nameS s from fun h => h.2.1 (by simpa using hg49))]; rfl))
def vldL (l : List Bs) : Prop := ∀ x ∈ l, okN x
instance (l : List Bs) : Decidable (vldL l) := inferInstanceAs (Decidable (∀ x ∈ l, _))
theorem ntape_c {t : Tp} {a : Option Addr} {c : Nat} {w : World} {ok : Nat → Prop} (hF1 : (Fact.sl a (strs t.vals)).holds ok w) (hl : t.vals.length ≤ 140737488351232) :
  Cw 65 #[t.v (.slice a t.vals.length c)] w (.bool (decide (goodT t))) := by
 refine En [Fact.sl a (strs t.vals)] [(0, t.v (.slice a t.vals.length c))] Tryz.func65 rfl Tryz.ntmps65 rfl (Ac rfl (An _)) (Fc (fact_any hF1) Fn) ?_
 refine Cs ?_
 refine Kh rfl (Oy rfl rfl) ?_
 intro b1
 refine Ka rfl (Nt (Cq (Cs (Kq rfl (Fa (q := 0) rfl rfl u66 rfl rfl) (Kq rfl (Ld rfl rfl .tc u31) ?_)))))
 refine Kq rfl (rd_len rfl rfl u31) (Km rfl (Nt (Cb ?_)))
 refine Lp (σ := Nat) [(1, _), (6, _), (7, _)] (fun gq => [(8, .int .i64 (gq : Int))]) (fun gq => gq ≤ t.vals.length ∧ ∀ x ∈ t.vals.take gq, okN x) (fun gq => t.vals.length - gq) (0) (S3 rfl rfl rfl) (S1 rfl) (by (try dsimp only); exact ⟨Nat.zero_le _, by simp⟩) ?_
 rintro i hinv1; (try dsimp only at hinv1 ⊢)
 obtain ⟨hi, hok⟩ := hinv1
 refine Cs (Kq rfl (rd_lss rfl rfl rfl) (Nt (Cq ?_)))
 refine Cd rfl (fun hc9 => ?_) (fun hc9 => ?_)
 ·(try simp only [sB] at hc9)
  have hil : i < t.vals.length := by omega
  obtain ⟨y, hy⟩ : ∃ y, Keep (y = t.vals.getD i default) := ⟨_, rfl⟩
  refine Ck (Xa (Cq (Cb (Cs ?_))))
  refine Kq rfl (Ib rfl rfl rfl u31 (by omega) (by (rw [List.length_map]; omega))) ?_
  refine Kq rfl (ldm rfl rfl u22 rfl (by assumption)) ?_
  refine Ns 11 rfl (v' := .string (S (y))) (congrArg (fun l => Value.string (S l)) (by rw [show y = _ from hy])) ?_
  refine Ka rfl (Nt (Cs (Km rfl ?_)))
  refine Ku rfl (Oc rfl rfl (Kv fun w hS => valid_c (a := y))) ?_
  refine Kq rfl (Rt rfl rfl) (Nt ?_)
  refine Cd rfl (fun hc14 => ?_) (fun hc14 => ?_)
  ·(try simp only [sB] at hc14)
   have hyn : ¬ okN y := by simpa using hc14
   have hn : ¬ goodT t := fun h => hyn (by rw [show y = _ from hy]; exact h.2.2 _ (getD_mem t.vals i hil))
   refine Cs (Ka rfl (Nt (Ce (Xf (Xb (Xb (Xf (Xb ?_))))))))
   exact R1 rfl rfl (by rw [decide_eq_false hn]; rfl)
  ·(try simp only [sB] at hc14)
   have hyy : okN y := by simpa using hc14
   refine Ck (Xd (Xa (Cg (Kq rfl (Rz rfl rfl rfl (by omega)) (Km rfl (Nn ?_))))))
   refine Ly (i + 1) (by (try dsimp only); omega) (S3 rfl rfl rfl) (by refine (Sc ?_ (S0 _)) <;> (rfl)) ?_ (by (exact fun _ h => h))
   (try dsimp only)
   exact ⟨hil, all_take hil hok (by rw [← show y = _ from hy]; exact hyy)⟩
 ·(try simp only [sB] at hc9)
  refine Cx (Xc (Xc (Xe ?_)))
  obtain rfl : i = t.vals.length := by omega
  rw [List.take_length] at hok
  refine Xa (Cs (Kq rfl (Fa (q := 2) rfl rfl u66 rfl rfl) (Kq rfl (Ld rfl rfl .tc u3) ?_)))
  refine Kq rfl (rd_geq rfl rfl rfl) (Km rfl ?_)
  refine Nb 19 rfl (fun hg19 => ?_) (fun hg19 => ?_)
  ·(try simp only [sB] at hg19)
   refine Kq rfl (Fa (q := 2) rfl rfl u66 rfl rfl) (Kq rfl (Ld rfl rfl .tc u3) ?_)
   refine Kq rfl (rd_leq rfl rfl rfl) (Kq rfl (Rp rfl rfl rfl) (Ka rfl (Nt (Ce ?_))))
   exact R1 rfl rfl (by (rw [show decide (goodT t) = decide (t.at_ ≤ 2147483647) from decide_eq_decide.2 ⟨fun h => h.2.1, fun h => ⟨by omega, h, hok⟩⟩]; rfl))
  ·(try simp only [sB] at hg19)
   refine Kt rfl (Kt rfl (Kt rfl (Kq rfl (Rq rfl rfl rfl) (Ka rfl (Nt (Ce ?_))))))
   exact R1 rfl rfl (by (rw [decide_eq_false (show ¬ goodT t from fun h => by have := h.1; omega)]; rfl))
abbrev TabD (w : World) : Prop := Go.Proofs.TabAt (renTz.g 1) Lib.deBruijn64tab w
theorem tabd_below {w w' : World} (h : TabD w) (hb : Below w.heap.size w w') : TabD w' := by
 intro j hj
 have h1 := h j hj
 have hlt : renTz.g 1 < w.heap.size := by
  rcases Nat.lt_or_ge (renTz.g 1) w.heap.size with q | q
  ·exact q
  ·unfold World.cell? at h1; rw [Array.getElem?_eq_none q] at h1; cases h1
 unfold World.cell? at h1 ⊢
 rw [hb.block _ hlt]; exact h1
theorem tabd_st {ok : Nat → Prop} {w0 w : World} {own : List Ent} {fs : List Fact} (h : TabD w0) (hS : St ok w0 own fs w) : TabD w := tabd_below h hS.below
theorem ctz_tzA : ∀ (f n : Nat), Lib.ctzFrom f n = tzA f n
 | 0, _ => rfl
 | f + 1, n => by
  rw [Lib.ctzFrom, tzA, ctz_tzA f]
  by_cases h : n % 2 = 1
  ·rw [if_pos h, if_neg (by omega)]
  ·rw [if_neg h, if_pos (by omega), Nat.add_comm]
theorem ctz_tz {n : Nat} (h : 0 < n) : Lib.ctz 64 n = tz n := by rw [Lib.ctz, if_neg (by omega), ctz_tzA]; rfl
theorem tz_c {n : Nat} {w : World} (hn0 : 0 < n) (hn : n < 18446744073709551616) (hD : TabD w) :
  Cw 226 #[.int .u64 (n : Int)] w (.int .i64 ((tz n : Nat) : Int)) :=
 (tz_any n hn w (fun _ => hD)).mono fun _ _ ⟨h1, h2⟩ => ⟨by rw [h1, ctz_tz hn0], by rw [h2]; exact Below.refl _ _⟩
theorem pmul_c {a b m : Nat} {w : World} (ha : a < m) (hb : b < m) (hm : m < 18446744073709551616) :
  Cw 228 #[.int .u64 (a : Int), .int .u64 (b : Int), .int .u64 (m : Int)] w (.int .u64 ((a * b % m : Nat) : Int)) := by
 have hml : a * b < m * 18446744073709551616 := Nat.mul_lt_mul'' ha (Nat.lt_trans hb hm)
 have hhi : a * b / 18446744073709551616 < m := by rw [Nat.div_lt_iff_lt_mul (by decide)]; exact hml
 have hlo : a * b % 18446744073709551616 < 18446744073709551616 := Nat.mod_lt _ (by decide)
 have hd : a * b / 18446744073709551616 * 18446744073709551616 + a * b % 18446744073709551616 = a * b := by rw [Nat.mul_comm]; exact Nat.div_add_mod _ _
 refine En [] [(0, .int .u64 (a : Int)), (1, .int .u64 (b : Int)), (2, .int .u64 (m : Int))] Tryz.func228 rfl Tryz.ntmps228 rfl (Ac rfl (Ac rfl (Ac rfl (An _)))) Fn ?_
 refine Cs (Ka rfl (Nt (Cs (Km rfl (Km rfl ?_)))))
 refine Ku rfl (Oc rfl rfl (Kv fun w hS => mul64_c (x := a) (y := b) (by omega) (by omega))) ?_
 refine Km rfl (Kq rfl (Re rfl rfl rfl) (Kq rfl (Re rfl rfl rfl) (Ka rfl (Ka rfl (Nt (Cs (Km rfl (Km rfl (Km rfl ?_)))))))))
 refine Ku rfl (Oc rfl rfl (Kv fun w hS => div64_c (u := a * b / 18446744073709551616) (lo := a * b % 18446744073709551616) (y := m) (by assumption) (by assumption) (by assumption))) ?_
 refine Km rfl (Kq rfl (Re rfl rfl rfl) (Kq rfl (Re rfl rfl rfl) (Ka rfl (Ka rfl (Nt (Cs (Km rfl (Ka rfl (Nt (Ce ?_))))))))))
 exact R1 rfl rfl (by rw [hd]; rfl)
theorem ppow_c {a e0 m : Nat} {w : World} (ha : a < m) (he : e0 < 18446744073709551616) (hm : m < 18446744073709551616) :
  Cw 227 #[.int .u64 (a : Int), .int .u64 (e0 : Int), .int .u64 (m : Int)] w (.int .u64 ((a ^ e0 % m : Nat) : Int)) := by
 have hm0 : 0 < m := by omega
 refine En [] [(0, .int .u64 (a : Int)), (1, .int .u64 (e0 : Int)), (2, .int .u64 (m : Int))] Tryz.func227 rfl Tryz.ntmps227 rfl (Ac rfl (Ac rfl (Ac rfl (An _)))) Fn ?_
 refine Cs (Ka rfl (Nt (Cs (Km rfl ?_))))
 refine Kq rfl (rd_remW (a := 1) rfl rfl rfl ?_) ?_
 ·assumption
 refine Ka rfl (Nt (Cq (Cb ?_)))
 refine Lp (σ := Nat × Nat × Nat) [(2, _)] (fun gq => [(0, .int .u64 (gq.2.1 : Int)), (1, .int .u64 (gq.1 : Int)), (7, .int .u64 (gq.2.2 : Int))]) (fun gq => gq.1 < 18446744073709551616 ∧ gq.2.1 < m ∧ gq.2.2 < m ∧ gq.2.2 * gq.2.1 ^ gq.1 % m = a ^ e0 % m) (fun gq => gq.1) (e0, a, 1 % m) (S1 rfl) (S3 rfl rfl rfl) (by (try dsimp only); exact ⟨he, ha, Nat.mod_lt _ hm0, by rw [mml, Nat.one_mul]⟩) ?_
 rintro ⟨n, b, x⟩ hinv1; (try dsimp only at hinv1 ⊢)
 obtain ⟨hn, hb, hx, hi⟩ := hinv1
 refine Cq (Cs (Km rfl (Kq rfl (rd_gtr rfl rfl rfl) (Nt ?_))))
 refine Cd rfl (fun hc11 => ?_) (fun hc11 => ?_)
 ·(try simp only [sB] at hc11)
  have hnp : 0 < n := by omega
  refine Ck (Xa (Cq (Cb (Cq (Cs (Km rfl ?_))))))
  refine Kq rfl (rd_remW (c := 2) rfl rfl rfl ?_) ?_
  ·omega
  refine Kq rfl (rd_eql rfl rfl rfl) (Nt ?_)
  refine Cd rfl (fun hc16 => ?_) (fun hc16 => ?_)
  ·(try simp only [sB] at hc16)
   refine Cg (Km rfl (Km rfl (Km rfl ?_)))
   refine Ku rfl (Oc rfl rfl (Kv fun w hS => pmul_c (a := x) (b := b) (m := m) (by assumption) (by assumption) (by assumption))) ?_
   refine Ka rfl (Nt (Cg (Km rfl (Km rfl (Km rfl ?_)))))
   refine Ku rfl (Oc rfl rfl (Kv fun w hS => pmul_c (a := b) (b := b) (m := m) (by assumption) (by assumption) (by assumption))) ?_
   refine Ka rfl (Nn (Xd (Xa (Cg (Km rfl ?_)))))
   refine Kq rfl (rd_quoW (c := 2) rfl rfl rfl ?_) ?_
   ·omega
   refine Ka rfl (Nn ?_)
   refine Ly ((n / 2, b * b % m, x * b % m)) (by (try dsimp only); omega) (S1 rfl) (by refine (Sc ?_ (Sc ?_ (Sc ?_ (S0 _)))) <;> (rfl)) ?_ (by (exact fun _ h => h))
   (try dsimp only)
   exact ⟨by omega, Nat.mod_lt _ hm0, Nat.mod_lt _ hm0, by rw [pow_low1 (by omega) hnp, hi]⟩
  ·(try simp only [sB] at hc16)
   refine Ck (Xa (Cg (Km rfl (Km rfl (Km rfl ?_)))))
   refine Ku rfl (Oc rfl rfl (Kv fun w hS => pmul_c (a := b) (b := b) (m := m) (by assumption) (by assumption) (by assumption))) ?_
   refine Ka rfl (Nn (Xd (Xa (Cg (Km rfl ?_)))))
   refine Kq rfl (rd_quoW (c := 2) rfl rfl rfl ?_) ?_
   ·omega
   refine Ka rfl (Nn ?_)
   refine Ly ((n / 2, b * b % m, x)) (by (try dsimp only); omega) (S1 rfl) (by refine (Sc ?_ (Sc ?_ (Sc ?_ (S0 _)))) <;> (rfl)) ?_ (by (exact fun _ h => h))
   (try dsimp only)
   exact ⟨by omega, Nat.mod_lt _ hm0, hx, by rw [pow_low0 (by omega), hi]⟩
 ·(try simp only [sB] at hc11)
  refine Cx (Xc (Xc (Xe ?_)))
  obtain rfl : n = 0 := by omega
  rw [Nat.pow_zero, Nat.mul_one, Nat.mod_eq_of_lt hx] at hi
  refine Xa (Cs (Km rfl (Ka rfl (Nt (Ce ?_)))))
  exact R1 rfl rfl (by rw [hi]; rfl)
theorem addmod_c {a b m : Nat} {w : World} (ha : a < m) (hb : b < m) (hm : m < 18446744073709551616) :
  Cw 250 #[.int .u64 (a : Int), .int .u64 (b : Int), .int .u64 (m : Int)] w (.int .u64 (((a + b) % m : Nat) : Int)) := by
 refine En [] [(0, .int .u64 (a : Int)), (1, .int .u64 (b : Int)), (2, .int .u64 (m : Int))] Tryz.func250 rfl Tryz.ntmps250 rfl (Ac rfl (Ac rfl (Ac rfl (An _)))) Fn ?_
 refine Cs (Ka rfl (Nt (Cq (Cs (Km rfl (Km rfl (Km rfl (Kq rfl (rd_subW rfl rfl rfl (by omega)) (Kq rfl (rd_geq rfl rfl rfl) (Nt ?_))))))))))
 refine Cd rfl (fun hc11 => ?_) (fun hc11 => ?_)
 ·(try simp only [sB] at hc11)
  have hr : (a + b) % m = a - (m - b) := by
   rw [show a + b = m + (a - (m - b)) by omega, Nat.add_mod_left, Nat.mod_eq_of_lt (by omega)]
  refine Cs (Km rfl (Km rfl (Km rfl (Kq rfl (rd_subW rfl rfl rfl (by omega)) (Kq rfl (rd_subW rfl rfl rfl (by omega)) (Ka rfl (Nt (Ce (Xb ?_)))))))))
  exact R1 rfl rfl (by rw [hr]; rfl)
 ·(try simp only [sB] at hc11)
  have hr : (a + b) % m = a + b := Nat.mod_eq_of_lt (by omega)
  refine Ck (Xa (Cs (Km rfl (Km rfl (Kq rfl (rd_addW rfl rfl rfl (by omega)) (Ka rfl (Nt (Ce ?_))))))))
  exact R1 rfl rfl (by rw [hr]; rfl)
theorem mulmod_c {a b0 m : Nat} {w : World} (ha : a < m) (hb : b0 < m) (hm : m < 18446744073709551616) :
  Cw 241 #[.int .u64 (a : Int), .int .u64 (b0 : Int), .int .u64 (m : Int)] w (.int .u64 ((a * b0 % m : Nat) : Int)) := by
 refine En [] [(0, .int .u64 (a : Int)), (1, .int .u64 (b0 : Int)), (2, .int .u64 (m : Int))] Tryz.func241 rfl Tryz.ntmps241 rfl (Ac rfl (Ac rfl (Ac rfl (An _)))) Fn ?_
 refine Cs (Ka rfl (Nt (Cq (Cs (Km rfl (Kq rfl (rd_lss rfl rfl rfl) (Nt ?_)))))))
 refine Cd rfl (fun hc9 => ?_) (fun hc9 => ?_)
 ·(try simp only [sB] at hc9)
  have hml : a * b0 < 18446744073709551616 := Nat.lt_of_lt_of_le (Nat.mul_lt_mul'' (by omega : a < 4294967296) (by omega : b0 < 4294967296)) (by decide)
  refine Cs (Km rfl (Km rfl (Kq rfl (rd_mulW rfl rfl rfl (by assumption)) (Km rfl ?_))))
  refine Kq rfl (rd_remW rfl rfl rfl ?_) ?_
  ·omega
  refine Ka rfl (Nt (Ce (Xb ?_)))
  exact R1 rfl rfl (by rfl)
 ·(try simp only [sB] at hc9)
  refine Ck (Xa (Cs (Ka rfl (Nt (Cq (Cb ?_))))))
  refine Lp (σ := Nat × Nat × Nat) [(2, _)] (fun gq => [(0, .int .u64 (gq.2.1 : Int)), (1, .int .u64 (gq.1 : Int)), (7, .int .u64 (gq.2.2 : Int))]) (fun gq => gq.1 < 18446744073709551616 ∧ gq.2.1 < m ∧ gq.2.2 < m ∧ (gq.2.2 + gq.2.1 * gq.1) % m = a * b0 % m) (fun gq => gq.1) (b0, a, 0) (S1 rfl) (S3 rfl rfl rfl) (by (try dsimp only); exact ⟨by omega, ha, by omega, by rw [Nat.zero_add]⟩) ?_
  rintro ⟨n, b, x⟩ hinv1; (try dsimp only at hinv1 ⊢)
  obtain ⟨hn, hb2, hx, hi⟩ := hinv1
  refine Cq (Cs (Km rfl (Kq rfl (rd_gtr rfl rfl rfl) (Nt ?_))))
  refine Cd rfl (fun hc16 => ?_) (fun hc16 => ?_)
  ·(try simp only [sB] at hc16)
   have hnp : 0 < n := by omega
   refine Ck (Xa (Cb (Cq (Cs (Km rfl ?_)))))
   refine Kq rfl (rd_remW (c := 2) rfl rfl rfl ?_) ?_
   ·omega
   refine Kq rfl (rd_eql rfl rfl rfl) (Nt ?_)
   refine Cd rfl (fun hc19 => ?_) (fun hc19 => ?_)
   ·(try simp only [sB] at hc19)
    refine Cg (Km rfl (Km rfl (Km rfl ?_)))
    refine Ku rfl (Oc rfl rfl (Kv fun w hS => addmod_c (a := x) (b := b) (m := m) (by assumption) (by assumption) (by assumption))) ?_
    refine Ka rfl (Nt (Cs (Km rfl (Km rfl (Km rfl ?_)))))
    refine Ku rfl (Oc rfl rfl (Kv fun w hS => addmod_c (a := b) (b := b) (m := m) (by assumption) (by assumption) (by assumption))) ?_
    refine Ka rfl (Nt (Cg (Km rfl ?_)))
    refine Kq rfl (rd_quoW (c := 2) rfl rfl rfl ?_) ?_
    ·omega
    refine Ka rfl (Nn (Xd ?_))
    refine Ly ((n / 2, (b + b) % m, (x + b) % m)) (by (try dsimp only); omega) (S1 rfl) (by refine (Sc ?_ (Sc ?_ (Sc ?_ (S0 _)))) <;> (rfl)) ?_ (by (exact fun _ h => h))
    (try dsimp only)
    exact ⟨by omega, Nat.mod_lt _ (by omega), Nat.mod_lt _ (by omega), by
     rw [← hi, Nat.add_mod, Nat.mod_mod, mml, ← Nat.add_mod]; congr 1
     have e : n = 2 * (n / 2) + 1 := by omega
     conv => rhs; rw [e]
     rw [Nat.mul_add, Nat.mul_one, ← Nat.two_mul, Nat.mul_assoc, Nat.mul_left_comm]; omega⟩
   ·(try simp only [sB] at hc19)
    refine Ck (Xa (Cs (Km rfl (Km rfl (Km rfl ?_)))))
    refine Ku rfl (Oc rfl rfl (Kv fun w hS => addmod_c (a := b) (b := b) (m := m) (by assumption) (by assumption) (by assumption))) ?_
    refine Ka rfl (Nt (Cg (Km rfl ?_)))
    refine Kq rfl (rd_quoW (c := 2) rfl rfl rfl ?_) ?_
    ·omega
    refine Ka rfl (Nn (Xd ?_))
    refine Ly ((n / 2, (b + b) % m, x)) (by (try dsimp only); omega) (S1 rfl) (by refine (Sc ?_ (Sc ?_ (Sc ?_ (S0 _)))) <;> (rfl)) ?_ (by (exact fun _ h => h))
    (try dsimp only)
    exact ⟨by omega, Nat.mod_lt _ (by omega), hx, by
     rw [← hi, Nat.add_mod, mml, ← Nat.add_mod]; congr 1
     have e : n = 2 * (n / 2) := by omega
     conv => rhs; rw [e]
     rw [← Nat.two_mul, Nat.mul_assoc, Nat.mul_left_comm]⟩
  ·(try simp only [sB] at hc16)
   refine Cx (Xc (Xc (Xe ?_)))
   obtain rfl : n = 0 := by omega
   rw [Nat.mul_zero, Nat.add_zero, Nat.mod_eq_of_lt hx] at hi
   refine Xa (Cs (Km rfl (Ka rfl (Nt (Ce ?_)))))
   exact R1 rfl rfl (by rw [hi]; rfl)
theorem expmod_c {a e0 m : Nat} {w : World} (ha : a < m) (he : e0 < 18446744073709551616) (hm : m < 18446744073709551616) :
  Cw 240 #[.int .u64 (a : Int), .int .u64 (e0 : Int), .int .u64 (m : Int)] w (.int .u64 ((a ^ e0 % m : Nat) : Int)) := by
 have hm0 : 0 < m := by omega
 refine En [] [(0, .int .u64 (a : Int)), (1, .int .u64 (e0 : Int)), (2, .int .u64 (m : Int))] Tryz.func240 rfl Tryz.ntmps240 rfl (Ac rfl (Ac rfl (Ac rfl (An _)))) Fn ?_
 refine Cs (Ka rfl (Nt (Cs (Km rfl ?_))))
 refine Kq rfl (rd_remW (a := 1) rfl rfl rfl ?_) ?_
 ·assumption
 refine Ka rfl (Nt (Cq (Cb ?_)))
 refine Lp (σ := Nat × Nat × Nat) [(2, _)] (fun gq => [(0, .int .u64 (gq.2.1 : Int)), (1, .int .u64 (gq.1 : Int)), (7, .int .u64 (gq.2.2 : Int))]) (fun gq => gq.1 < 18446744073709551616 ∧ gq.2.1 < m ∧ gq.2.2 < m ∧ gq.2.2 * gq.2.1 ^ gq.1 % m = a ^ e0 % m) (fun gq => gq.1) (e0, a, 1 % m) (S1 rfl) (S3 rfl rfl rfl) (by (try dsimp only); exact ⟨he, ha, Nat.mod_lt _ hm0, by rw [mml, Nat.one_mul]⟩) ?_
 rintro ⟨n, b, x⟩ hinv1; (try dsimp only at hinv1 ⊢)
 obtain ⟨hn, hb, hx, hi⟩ := hinv1
 refine Cq (Cs (Km rfl (Kq rfl (rd_gtr rfl rfl rfl) (Nt ?_))))
 refine Cd rfl (fun hc11 => ?_) (fun hc11 => ?_)
 ·(try simp only [sB] at hc11)
  have hnp : 0 < n := by omega
  refine Ck (Xa (Cb (Cq (Cs (Km rfl ?_)))))
  refine Kq rfl (rd_remW (c := 2) rfl rfl rfl ?_) ?_
  ·omega
  refine Kq rfl (rd_eql rfl rfl rfl) (Nt ?_)
  refine Cd rfl (fun hc14 => ?_) (fun hc14 => ?_)
  ·(try simp only [sB] at hc14)
   refine Cg (Km rfl (Km rfl (Km rfl ?_)))
   refine Ku rfl (Oc rfl rfl (Kv fun w hS => mulmod_c (a := x) (b0 := b) (m := m) (by assumption) (by assumption) (by assumption))) ?_
   refine Ka rfl (Nt (Cs (Km rfl (Km rfl (Km rfl ?_)))))
   refine Ku rfl (Oc rfl rfl (Kv fun w hS => mulmod_c (a := b) (b0 := b) (m := m) (by assumption) (by assumption) (by assumption))) ?_
   refine Ka rfl (Nt (Cg (Km rfl ?_)))
   refine Kq rfl (rd_quoW (c := 2) rfl rfl rfl ?_) ?_
   ·omega
   refine Ka rfl (Nn (Xd ?_))
   refine Ly ((n / 2, b * b % m, x * b % m)) (by (try dsimp only); omega) (S1 rfl) (by refine (Sc ?_ (Sc ?_ (Sc ?_ (S0 _)))) <;> (rfl)) ?_ (by (exact fun _ h => h))
   (try dsimp only)
   exact ⟨by omega, Nat.mod_lt _ hm0, Nat.mod_lt _ hm0, by rw [pow_low1 (by omega) hnp, hi]⟩
  ·(try simp only [sB] at hc14)
   refine Ck (Xa (Cs (Km rfl (Km rfl (Km rfl ?_)))))
   refine Ku rfl (Oc rfl rfl (Kv fun w hS => mulmod_c (a := b) (b0 := b) (m := m) (by assumption) (by assumption) (by assumption))) ?_
   refine Ka rfl (Nt (Cg (Km rfl ?_)))
   refine Kq rfl (rd_quoW (c := 2) rfl rfl rfl ?_) ?_
   ·omega
   refine Ka rfl (Nn (Xd ?_))
   refine Ly ((n / 2, b * b % m, x)) (by (try dsimp only); omega) (S1 rfl) (by refine (Sc ?_ (Sc ?_ (Sc ?_ (S0 _)))) <;> (rfl)) ?_ (by (exact fun _ h => h))
   (try dsimp only)
   exact ⟨by omega, Nat.mod_lt _ hm0, hx, by rw [pow_low0 (by omega), hi]⟩
 ·(try simp only [sB] at hc11)
  refine Cx (Xc (Xc (Xe ?_)))
  obtain rfl : n = 0 := by omega
  rw [Nat.pow_zero, Nat.mul_one, Nat.mod_eq_of_lt hx] at hi
  refine Xa (Cs (Km rfl (Ka rfl (Nt (Ce ?_)))))
  exact R1 rfl rfl (by rw [hi]; rfl)
theorem pbases_c {w : World} :
  Cw 225 #[] w (.agg (ps12.map vU).toArray) := by
 refine En [] [] Tryz.func225 rfl Tryz.ntmps225 rfl (An _) Fn ?_
 refine Cs ?_
 refine Kh rfl (Oz [.int .u64 0, .int .u64 0, .int .u64 0, .int .u64 0, .int .u64 0, .int .u64 0, .int .u64 0, .int .u64 0, .int .u64 0, .int .u64 0, .int .u64 0, .int .u64 0] rfl) ?_
 intro b0
 refine Nt (Cs ?_)
 refine Kq rfl (rd_build rfl rfl (v := .agg #[.int .u64 2, .int .u64 3, .int .u64 5, .int .u64 7, .int .u64 11, .int .u64 13, .int .u64 17, .int .u64 19, .int .u64 23, .int .u64 29, .int .u64 31, .int .u64 37]) (fun w => by kernel_rfl)) ?_
 refine Nu rfl rfl (Sa rfl rfl rfl .tc) ?_
 refine Nt (Ce ?_)
 exact WX.ret1c (cs := ps12.map vU) rfl rfl .here u236 rfl (by kernel_rfl) fun w' hS => ⟨rfl, hS.below⟩
theorem pis_c {n : Nat} {w : World} (hn : n < 18446744073709551616) (hD : TabD w) :
  Cw 202 #[.int .u64 (n : Int)] w (.bool (isP n)) := by
 refine En [] [(0, .int .u64 (n : Int))] Tryz.func202 rfl Tryz.ntmps202 rfl (Ac rfl (An _)) Fn ?_
 refine Cs (Ka rfl (Nt ?_))
 refine WC.scope ?_
 refine Cq (Cs (Km rfl (Kq rfl (rd_lss rfl rfl rfl) (Nt ?_))))
 refine Cd rfl (fun hc12 => ?_) (fun hc12 => ?_)
 ·(try simp only [sB] at hc12)
  refine Cs (Ka rfl (Nt (Ce (Xb ?_))))
  refine WX.scope_ret ?_
  exact R1 rfl rfl (by rw [isP, if_pos (by omega)]; rfl)
 ·(try simp only [sB] at hc12)
  have hn2 : ¬ n < 2 := by omega
  refine Ck (Xa (Cq (Cs ?_)))
  refine Ku rfl (Oc rfl rfl (Kv fun w hS => pbases_c)) ?_
  refine Km rfl (Nt (Cb ?_))
  refine Lp (σ := Nat) [(0, _), (13, _)] (fun gq => [(14, .int .i64 (gq : Int))]) (fun gq => gq ≤ 12 ∧ tdiv n (ps12.drop gq) = tdiv n ps12) (fun gq => 12 - gq) (0) (S2 rfl rfl) (S1 rfl) (by (try dsimp only); exact ⟨by omega, rfl⟩) ?_
  rintro k hinv1; (try dsimp only at hinv1 ⊢)
  obtain ⟨hk, htd⟩ := hinv1
  refine Cs (Kq rfl (rd_lss rfl rfl rfl) (Nt (Cq ?_)))
  refine Cd rfl (fun hc15 => ?_) (fun hc15 => ?_)
  ·(try simp only [sB] at hc15)
   have hk12 : k < 12 := by omega
   have hpb := pk_bd hk12
   rw [tdiv_drop n hk12] at htd
   refine Ck (Xa (Cq (Cb (Cs ?_))))
   refine Kq rfl (rd_aidx rfl rfl rfl u236 u74 rfl (by kernel_rfl) ?_ (by (rw [Int.toNat_natCast]; exact pk_cell hk12))) ?_
   ·omega
   refine Ka rfl (Nt (Cs (Km rfl (Km rfl ?_))))
   refine Kq rfl (rd_remW rfl rfl rfl ?_) ?_
   ·omega
   refine Kq rfl (rd_eql rfl rfl rfl) (Nt ?_)
   refine Cd rfl (fun hc20 => ?_) (fun hc20 => ?_)
   ·(try simp only [sB] at hc20)
    rw [if_pos (by omega)] at htd
    refine Cs (Km rfl (Km rfl (Kq rfl (rd_eql rfl rfl rfl) (Ka rfl (Nt (Ce (Xf (Xb (Xb (Xf (Xb ?_)))))))))))
    refine WX.scope_ret ?_
    exact R1 rfl rfl (by rw [isP_some hn2 htd.symm]; exact congrArg Ending.returned (congrArg Value.bool (decide_eq_decide.2 (by omega))))
   ·(try simp only [sB] at hc20)
    rw [if_neg (by omega)] at htd
    refine Ck (Xd (Xa (Cg (Kq rfl (Rz rfl rfl rfl (by omega)) (Km rfl (Nn ?_))))))
    refine Ly (k + 1) (by (try dsimp only); omega) (S2 rfl rfl) (by refine (Sc ?_ (S0 _)) <;> (rfl)) ?_ (by (exact fun _ h => h))
    (try dsimp only)
    exact ⟨by omega, htd⟩
  ·(try simp only [sB] at hc15)
   refine Cx (Xc (Xc (Xe ?_)))
   obtain rfl : k = 12 := by omega
   have hno : tdiv n ps12 = none := htd.symm
   have hodd := tdiv_none hno 2 (by decide)
   have htp := tz_pos (n := n - 1) (by omega)
   have htl := tz_le (n - 1)
   obtain ⟨s, hs⟩ : ∃ s, s = tz (n - 1) := ⟨_, rfl⟩
   obtain ⟨d, hd⟩ : ∃ d, d = (n - 1) / 2 ^ s := ⟨_, rfl⟩
   have hdn : d < 18446744073709551616 := by rw [hd]; exact Nat.lt_of_le_of_lt (Nat.div_le_self _ _) (by omega)
   have hst : ∀ a, stN n a = strN n a s d := fun a => by rw [hd, hs]; rfl
   refine Xa (Cs (Km rfl (Kq rfl (rd_subW (c := 1) rfl rfl rfl (by omega)) ?_)))
   refine Ku rfl (Oc rfl rfl (Kv fun w hS => tz_c (n := n - 1) (by omega) (by omega) (by (exact tabd_st hD hS)))) ?_
   refine Ns 27 rfl (v' := .int .i64 ((s : Nat) : Int)) (congrArg (Value.int .i64) (by rw [hs])) ?_
   refine Ka rfl (Nt (Cs (Km rfl (Kq rfl (rd_subW (c := 1) rfl rfl rfl (by omega)) (Km rfl ?_)))))
   refine Kq rfl (rd_shrW rfl rfl rfl (by (show _ ≤ 64; omega))) ?_
   refine Ns 31 rfl (v' := .int .u64 ((d : Nat) : Int)) (congrArg (Value.int .u64) (by rw [hd])) ?_
   refine Ka rfl (Nt (Cq ?_))
   refine WC.label ?_
   refine Xa (Cq (Cs ?_))
   refine Ku rfl (Oc rfl rfl (Kv fun w hS => pbases_c)) ?_
   refine Km rfl (Nt (Cb ?_))
   refine Lp (σ := Nat) [(0, _), (5, _), (6, _), (32, _)] (fun gq => [(33, .int .i64 (gq : Int))]) (fun gq => gq ≤ 12 ∧ (ps12.drop gq).all (stN n) = ps12.all (stN n)) (fun gq => 12 - gq) (0) (S4 rfl rfl rfl rfl) (S1 rfl) (by (try dsimp only); exact ⟨by omega, rfl⟩) ?_
   rintro j hinv2; (try dsimp only at hinv2 ⊢)
   obtain ⟨hj, hall⟩ := hinv2
   refine Cs (Kq rfl (rd_lss rfl rfl rfl) (Nt (Cq ?_)))
   refine Cd rfl (fun hc34 => ?_) (fun hc34 => ?_)
   ·(try simp only [sB] at hc34)
    have hj12 : j < 12 := by omega
    have hjb := pk_bd hj12
    rw [all_drop _ hj12] at hall
    have hjn : pk j % n < n := Nat.mod_lt _ (by omega)
    obtain ⟨x0, hx0⟩ : ∃ x, x = pk j ^ d % n := ⟨_, rfl⟩
    have hpx : (pk j % n) ^ d % n = x0 := by rw [hx0]; exact (Nat.pow_mod (pk j) d n).symm
    have hxl : x0 < n := by rw [hx0]; exact Nat.mod_lt _ (by omega)
    have hsj : stN n (pk j) = (decide (x0 = 1) || sqs n s x0) := by rw [hst, strN, ← hx0]
    refine Ck (Xa (Cq (Cb (Cs ?_))))
    refine Kq rfl (rd_aidx rfl rfl rfl u236 u74 rfl (by kernel_rfl) ?_ (by (rw [Int.toNat_natCast]; exact pk_cell hj12))) ?_
    ·omega
    refine Ka rfl (Nt (Cs (Km rfl (Km rfl ?_))))
    refine Kq rfl (rd_remW rfl rfl rfl ?_) ?_
    ·omega
    refine Km rfl (Km rfl ?_)
    refine Ku rfl (Oc rfl rfl (Kv fun w hS => ppow_c (a := pk j % n) (e0 := d) (m := n) (by assumption) (by assumption) (by assumption))) ?_
    refine Ns 41 rfl (v' := .int .u64 ((x0 : Nat) : Int)) (congrArg (Value.int .u64) (by rw [hpx])) ?_
    refine Ka rfl (Nt (Cq (Cs (Km rfl (Kq rfl (rd_eql rfl rfl rfl) (Km rfl ?_))))))
    refine Nb 44 rfl (fun hg44 => ?_) (fun hg44 => ?_)
    ·(try simp only [sB] at hg44)
     refine Kt rfl (Kt rfl (Kt rfl (Kt rfl (Kq rfl (Rp rfl rfl rfl) (Nt ?_)))))
     refine Cd rfl (fun _ => ?_) (fun h => by cases h)
     have hstr : stN n (pk j) = true := by rw [hsj, decide_eq_true (by omega)]; rfl
     refine Cx (Xc (Xe (Xa (Cg (Kq rfl (Rz rfl rfl rfl (by omega)) (Km rfl (Nn ?_)))))))
     refine Ly (j + 1) (by (try dsimp only); omega) (S4 rfl rfl rfl rfl) (by refine (Sc ?_ (S0 _)) <;> (rfl)) ?_ (by (exact fun _ h => h))
     (try dsimp only)
     exact ⟨by omega, by rw [← hall, hstr, Bool.true_and]⟩
    ·(try simp only [sB] at hg44)
     refine Km rfl (Km rfl (Kq rfl (rd_subW (c := 1) rfl rfl rfl (by omega)) (Kq rfl (rd_eql rfl rfl rfl) (Kq rfl (Rq rfl rfl rfl) (Nt ?_)))))
     refine Cd rfl (fun hc49 => ?_) (fun hc49 => ?_)
     ·(try simp only [sB] at hc49)
      have hstr : stN n (pk j) = true := by rw [hsj, sqs_hit (by omega) (by omega), Bool.or_true]
      refine Cx (Xc (Xe (Xa (Cg (Kq rfl (Rz rfl rfl rfl (by omega)) (Km rfl (Nn ?_)))))))
      refine Ly (j + 1) (by (try dsimp only); omega) (S4 rfl rfl rfl rfl) (by refine (Sc ?_ (S0 _)) <;> (rfl)) ?_ (by (exact fun _ h => h))
      (try dsimp only)
      exact ⟨by omega, by rw [← hall, hstr, Bool.true_and]⟩
     ·(try simp only [sB] at hc49)
      have hx1 : ¬ x0 = 1 := by omega
      have hxm : x0 ≠ n - 1 := by omega
      rw [decide_eq_false hx1, Bool.false_or] at hsj
      refine Ck (Xa (Cq (Cs (Ka rfl (Nt (Cb ?_))))))
      refine Lp (σ := Nat × Nat) [(0, _), (5, _), (6, _), (32, _), (33, _)] (fun gq => [(10, .int .i64 (gq.1 : Int)), (9, .int .u64 (gq.2 : Int))]) (fun gq => 1 ≤ gq.1 ∧ gq.1 ≤ s ∧ gq.2 < n ∧ gq.2 ≠ n - 1 ∧ sqs n (s - gq.1 + 1) gq.2 = sqs n s x0) (fun gq => s - gq.1) (1, x0) (S5 rfl rfl rfl rfl rfl) (S2 rfl rfl) (by (try dsimp only); exact ⟨by omega, by omega, hxl, hxm, by rw [Nat.sub_add_cancel (by omega)]⟩) ?_
      rintro ⟨i, x⟩ hinv3; (try dsimp only at hinv3 ⊢)
      obtain ⟨hi1, his, hxn, hxm1, hsq⟩ := hinv3
      refine Cq (Cs (Km rfl (Km rfl (Kq rfl (rd_lss rfl rfl rfl) (Nt ?_)))))
      refine Cd rfl (fun hc52 => ?_) (fun hc52 => ?_)
      ·(try simp only [sB] at hc52)
       rw [sqs_miss (by omega) hxm1, Nat.add_sub_cancel] at hsq
       have hx2 : x * x % n < n := Nat.mod_lt _ (by omega)
       refine Ck (Xa (Cq (Cb (Cs (Km rfl (Km rfl (Km rfl ?_)))))))
       refine Ku rfl (Oc rfl rfl (Kv fun w hS => pmul_c (a := x) (b := x) (m := n) (by assumption) (by assumption) (by assumption))) ?_
       refine Ka rfl (Nt (Cs (Km rfl (Km rfl (Kq rfl (rd_subW (c := 1) rfl rfl rfl (by omega)) (Kq rfl (rd_eql rfl rfl rfl) (Nt ?_)))))))
       refine Cd rfl (fun hc62 => ?_) (fun hc62 => ?_)
       ·(try simp only [sB] at hc62)
        have hstr : stN n (pk j) = true := by rw [hsj, ← hsq]; exact sqs_hit (by omega) (by omega)
        refine Cx ?_
        refine WX.block_other rfl ?_
        refine Xc (Xc ?_)
        refine WX.block_other rfl ?_
        refine Xc (Xe (Xa (Cg (Kq rfl (Rz rfl rfl rfl (by omega)) (Km rfl (Nn ?_))))))
        refine Ly (j + 1) (by (try dsimp only); omega) (S4 rfl rfl rfl rfl) (by refine (Sc ?_ (S0 _)) <;> (rfl)) ?_ (by (exact fun _ h => h))
        (try dsimp only)
        exact ⟨by omega, by rw [← hall, hstr, Bool.true_and]⟩
       ·(try simp only [sB] at hc62)
        refine Ck (Xd (Xa (Cg (Km rfl (Kq rfl (Rz rfl rfl rfl (by omega)) (Ka rfl (Nn ?_)))))))
        refine Ly ((i + 1, x * x % n)) (by (try dsimp only); omega) (S5 rfl rfl rfl rfl rfl) (by refine (Sc ?_ (Sc ?_ (S0 _))) <;> (rfl)) ?_ (by (exact fun _ h => h))
        (try dsimp only)
        exact ⟨by omega, by omega, hx2, by omega, by rw [← hsq, show s - (i + 1) + 1 = s - i by omega]⟩
      ·(try simp only [sB] at hc52)
       refine Cx (Xc (Xc (Xe ?_)))
       have hstr : stN n (pk j) = false := by rw [hsj, ← hsq, show s - i = 0 by omega, sqs_miss (by omega) hxm1]; rfl
       refine Xa (Cs (Ka rfl (Nt (Ce (Xf (Xb (Xb (Xf (Xb ?_)))))))))
       refine WX.scope_ret ?_
       exact R1 rfl rfl (by rw [isP_none hn2 hno, ← hall, hstr]; rfl)
   ·(try simp only [sB] at hc34)
    refine Cx (Xc (Xc (Xe ?_)))
    obtain rfl : j = 12 := by omega
    refine Xa (Cs (Ka rfl (Nt (Ce ?_))))
    refine WX.scope_ret ?_
    exact R1 rfl rfl (by rw [isP_none hn2 hno, ← hall]; rfl)
theorem smallN_lt (a : Bs) : (smallN a).1 < 18446744073709551616 := by
 rw [smallN]; split
 ·rename_i h; exact val_8 h.2
 ·decide
def primeS (a : Bs) : Bool × Int := if ¬ okN a then (false, 3) else if 8 < a.length then (false, 5) else (isP (val a), 0)
def errS (a : Bs) : Int := if okN a then if 8 < a.length then 5 else 0 else 3
theorem primeS_ok {a : Bs} (h : errS a = 0) : primeS a = (isP (smallN a).1, 0) := by
 unfold errS at h; split at h
 ·rename_i h1; split at h
  ·simp at h
  ·rename_i h2; rw [primeS, if_neg (fun h => h h1), if_neg h2, smallN, if_pos ⟨h1, by omega⟩]
 ·simp at h
theorem primeS_no {a : Bs} (h : ¬ errS a = 0) : primeS a = (false, errS a) := by
 by_cases h1 : okN a
 ·by_cases h2 : 8 < a.length
  ·rw [primeS, if_neg (fun h => h h1), if_pos h2, errS, if_pos h1, if_pos h2]
  ·exact absurd (by rw [errS, if_pos h1, if_neg h2]) h
 ·rw [primeS, if_pos h1, errS, if_neg h1]
theorem prime_ok {a : Bs} (h : okN a) (h8 : a.length ≤ 8) : primeS a = (isP (val a), 0) := by rw [primeS, if_neg (fun h1 => h1 h), if_neg (by omega)]
theorem psmall_c {a : Bs} {w : World} :
  Cw 201 #[.string (S a)] w (.tuple #[.int .u64 ((smallN a).1 : Int), .int .i64 (errS a)]) := by
 refine En [] [(0, .string (S a))] Tryz.func201 rfl Tryz.ntmps201 rfl (Ac rfl (An _)) Fn ?_
 refine Cs (Ka rfl (Ka rfl (Nt (Cq (Cs (Km rfl ?_))))))
 refine Ku rfl (Oc rfl rfl (Kv fun w hS => valid_c (a := a))) ?_
 refine Kq rfl (Rt rfl rfl) (Nt ?_)
 refine Cd rfl (fun hc8 => ?_) (fun hc8 => ?_)
 ·(try simp only [sB] at hc8)
  refine Cs (Ka rfl (Ka rfl (Nt (Ce (Xb ?_)))))
  exact R2 rfl rfl rfl (by rw [smallN, if_neg (fun h => hc8 h.1), errS, if_neg hc8]; rfl)
 ·(try simp only [sB] at hc8)
  have hok : okN a := by simpa using hc8
  have hal := hok.1
  refine Ck (Xa (Cs (Km rfl ?_)))
  refine Ku rfl (Oc rfl rfl (Kv fun w hS => small_c (a := a) (by omega))) ?_
  refine Km rfl (Kq rfl (Re rfl rfl rfl) (Kq rfl (Re rfl rfl rfl) (Ka rfl (Ka rfl (Nt (Cq (Cs (Km rfl (Kq rfl (Rt rfl rfl) (Nt ?_))))))))))
  refine Cd rfl (fun hc15 => ?_) (fun hc15 => ?_)
  ·(try simp only [sB] at hc15)
   have h8 : ¬ a.length ≤ 8 := fun h => by simp [smallN, hok, h] at hc15
   refine Cs (Ka rfl (Ka rfl (Nt (Ce (Xb ?_)))))
   exact R2 rfl rfl rfl (by rw [smallN, if_neg (fun h => h8 h.2), errS, if_pos hok, if_pos (by omega)]; rfl)
  ·(try simp only [sB] at hc15)
   have h8 : a.length ≤ 8 := Decidable.byContradiction fun h => by simp [smallN, hok, h] at hc15
   refine Ck (Xa (Cs (Km rfl (Ka rfl (Ka rfl (Nt (Ce ?_)))))))
   exact R2 rfl rfl rfl (by rw [errS, if_pos hok, if_neg (by omega)]; rfl)
theorem prime_c {a : Bs} {w : World} (hD : TabD w) :
  Cw 163 #[.string (S a)] w (.tuple #[.bool (primeS a).1, .int .i64 (primeS a).2]) := by
 have hsl := smallN_lt a
 refine En [] [(0, .string (S a))] Tryz.func163 rfl Tryz.ntmps163 rfl (Ac rfl (An _)) Fn ?_
 refine Cs (Ka rfl (Ka rfl (Nt (Cs (Km rfl ?_)))))
 refine Ku rfl (Oc rfl rfl (Kv fun w hS => psmall_c (a := a))) ?_
 refine Km rfl (Kq rfl (Re rfl rfl rfl) (Kq rfl (Re rfl rfl rfl) (Ka rfl (Ka rfl (Nt (Cs (Km rfl (Kq rfl (rd_eql rfl rfl rfl) (Km rfl ?_)))))))))
 refine Nb 13 rfl (fun hg13 => ?_) (fun hg13 => ?_)
 ·(try simp only [sB] at hg13)
  refine Km rfl ?_
  refine Ku rfl (Oc rfl rfl (Kv fun w hS => pis_c (n := (smallN a).1) (by assumption) (by (exact tabd_st hD hS)))) ?_
  refine Kq rfl (Rp rfl rfl rfl) (Km rfl (Ka rfl (Ka rfl (Nt (Ce ?_)))))
  exact R2 rfl rfl rfl (by (rw [primeS_ok hg13, hg13]; rfl))
 ·(try simp only [sB] at hg13)
  refine Kt rfl (Kt rfl (Kq rfl (Rq rfl rfl rfl) (Km rfl (Ka rfl (Ka rfl (Nt (Ce ?_)))))))
  exact R2 rfl rfl rfl (by (rw [primeS_no hg13]; rfl))
theorem rformed_c {a : Bs} {w : World} :
  Cw 205 #[.string (S a)] w (.bool (decide (okN a))) := by
 have hci := rcan a
 refine En [] [(0, .string (S a))] Tryz.func205 rfl Tryz.ntmps205 rfl (Ac rfl (An _)) Fn ?_
 refine Cs (Ka rfl (Nt (Cs (Km rfl (Kq rfl (rd_slen rfl rfl u22) (Kq rfl (rd_leq rfl rfl rfl) (Km rfl ?_)))))))
 refine Nb 6 rfl (fun hg6 => ?_) (fun hg6 => ?_)
 ·(try simp only [sB] at hg6)
  refine Km rfl (Kq rfl (rd_slen rfl rfl u22) (Kq rfl (rd_eql rfl rfl rfl) (Km rfl ?_)))
  refine Nb 10 rfl (fun hg10 => ?_) (fun hg10 => ?_)
  ·(try simp only [sB] at hg10)
   refine Kt rfl (Kt rfl (Kt rfl (Kq rfl (Rp rfl rfl rfl) (Kq rfl (Rp rfl rfl rfl) (Ka rfl (Nt (Ce ?_)))))))
   exact Rn rfl (.tmp rfl .nil) fun w' hS => ⟨congrArg (fun b => Ending.returned (.bool b)) (by
    first
     | (symm; rw [decide_eq_true_eq, hci]; exact ⟨by omega, .inl (by simp_all)⟩)
     | (symm; rw [decide_eq_false_iff_not, hci]; rintro ⟨h, _⟩; omega)
     | (show (!decide ((((a.getD 0 default).toNat : Nat) : Int) = 0)) = _
        rw [Bool.eq_iff_iff]; simp only [Bool.not_eq_true', decide_eq_false_iff_not, decide_eq_true_eq, hci]
        exact ⟨fun h => ⟨by omega, .inr (by omega)⟩, fun h => by have := h.2.resolve_left (by simp_all); omega⟩)), hS.below⟩
  ·(try simp only [sB] at hg10)
   refine Km rfl ?_
   refine Kq rfl (rd_sidxD rfl rfl rfl u22 ?_) ?_
   ·omega
   refine Kq rfl (rd_neq rfl rfl rfl) (Kq rfl (Rq rfl rfl rfl) (Kq rfl (Rp rfl rfl rfl) (Ka rfl (Nt (Ce ?_)))))
   exact Rn rfl (.tmp rfl .nil) fun w' hS => ⟨congrArg (fun b => Ending.returned (.bool b)) (by
    first
     | (symm; rw [decide_eq_true_eq, hci]; exact ⟨by omega, .inl (by simp_all)⟩)
     | (symm; rw [decide_eq_false_iff_not, hci]; rintro ⟨h, _⟩; omega)
     | (show (!decide ((((a.getD 0 default).toNat : Nat) : Int) = 0)) = _
        rw [Bool.eq_iff_iff]; simp only [Bool.not_eq_true', decide_eq_false_iff_not, decide_eq_true_eq, hci]
        exact ⟨fun h => ⟨by omega, .inr (by omega)⟩, fun h => by have := h.2.resolve_left (by simp_all); omega⟩)), hS.below⟩
 ·(try simp only [sB] at hg6)
  refine Kt rfl (Kt rfl (Kt rfl (Kt rfl (Kt rfl (Kt rfl (Kt rfl (Kt rfl (Kq rfl (Rq rfl rfl rfl) (Ka rfl (Nt (Ce ?_)))))))))))
  exact Rn rfl (.tmp rfl .nil) fun w' hS => ⟨congrArg (fun b => Ending.returned (.bool b)) (by
   first
    | (symm; rw [decide_eq_true_eq, hci]; exact ⟨by omega, .inl (by simp_all)⟩)
    | (symm; rw [decide_eq_false_iff_not, hci]; rintro ⟨h, _⟩; omega)
    | (show (!decide ((((a.getD 0 default).toNat : Nat) : Int) = 0)) = _
       rw [Bool.eq_iff_iff]; simp only [Bool.not_eq_true', decide_eq_false_iff_not, decide_eq_true_eq, hci]
       exact ⟨fun h => ⟨by omega, .inr (by omega)⟩, fun h => by have := h.2.resolve_left (by simp_all); omega⟩)), hS.below⟩
theorem rU_c {a : Bs} {w : World} (ha : okN a) :
  Cw 206 #[.string (S a)] w (.tuple #[.int .u64 ((val a % 18446744073709551616 : Nat) : Int), .bool (decide (a.length ≤ 8))]) := by
 have hal := ha.1
 refine En [] [(0, .string (S a))] Tryz.func206 rfl Tryz.ntmps206 rfl (Ac rfl (An _)) Fn ?_
 refine Cs (Ka rfl (Ka rfl (Nt (Cs (Ka rfl (Nt (Cq (Cs (Ka rfl (Nt (Cb ?_)))))))))))
 refine Lp (σ := Nat) [(0, _)] (fun gq => [(4, .int .u64 ((val (a.take gq) % 18446744073709551616 : Nat) : Int)), (5, .int .i64 (gq : Int))]) (fun gq => gq ≤ a.length) (fun gq => a.length - gq) (0) (S1 rfl) (S2 rfl rfl) (by (try dsimp only); omega) ?_
 rintro k hinv1; (try dsimp only at hinv1 ⊢)
 obtain hk := hinv1
 refine Cq (Cs (Km rfl (Km rfl (Kq rfl (rd_slen rfl rfl u22) (Kq rfl (rd_lss rfl rfl rfl) (Nt ?_))))))
 refine Cd rfl (fun hc9 => ?_) (fun hc9 => ?_)
 ·(try simp only [sB] at hc9)
  have hc8 := (a.getD k default).toNat_lt
  have hs1 := val_take_succ a k (by omega)
  refine Ck (Xa (Cq (Cb (Cg (Km rfl (Kq rfl (rd_mulM (c := 256) rfl rfl rfl) (Km rfl (Km rfl (Kq rfl (rd_sidxN rfl rfl rfl u22 (by omega)) (Kq rfl (rd_conv8 rfl rfl u5 u74 (by decide)) (Kq rfl (rd_addW rfl rfl rfl (by omega)) (Ns 18 rfl (v' := .int .u64 ((val (a.take (k + 1)) % 18446744073709551616 : Nat) : Int)) (congrArg (Value.int .u64) (by omega)) (Ka rfl (Nn (Xd (Xa (Cg (Km rfl (Kq rfl (Rz rfl rfl rfl (by omega)) (Ka rfl (Nn ?_)))))))))))))))))))))
  refine Ly (k + 1) (by (try dsimp only); omega) (S1 rfl) (by refine (Sc ?_ (Sc ?_ (S0 _))) <;> (rfl)) ?_ (by (exact fun _ h => h))
  (try dsimp only)
  omega
 ·(try simp only [sB] at hc9)
  refine Cx (Xc (Xc (Xe ?_)))
  obtain rfl : k = a.length := by omega
  refine Xa (Cs (Km rfl (Km rfl (Kq rfl (rd_slen rfl rfl u22) (Kq rfl (rd_leq rfl rfl rfl) (Ka rfl (Ka rfl (Nt (Ce ?_)))))))))
  exact R2 rfl rfl rfl (by rw [List.take_length, show decide ((a.length : Int) ≤ 8) = decide (a.length ≤ 8) from decide_eq_decide.2 (by omega)]; rfl)
theorem rstrong_c {n a : Nat} {w : World} (hn3 : 3 ≤ n) (hno : n % 2 = 1) (ha0 : 0 < a) (ha : a < n) (hn : n < 18446744073709551616) :
  Cw 230 #[.int .u64 (n : Int), .int .u64 (a : Int)] w (.bool (stN n a)) := by
 refine En [] [(0, .int .u64 (n : Int)), (1, .int .u64 (a : Int))] Tryz.func230 rfl Tryz.ntmps230 rfl (Ac rfl (Ac rfl (An _))) Fn ?_
 refine Cs (Ka rfl (Nt (Cq (Cs (Km rfl (Kq rfl (rd_lss rfl rfl rfl) (Km rfl ?_)))))))
 refine Nb 11 rfl (fun hg11 => ?_) (fun hg11 => ?_)
 ·(try simp only [sB] at hg11)
  refine Kt rfl (Kt rfl (Kt rfl (Kq rfl (Rp rfl rfl rfl) (Nt ?_))))
  refine Cd rfl (fun _ => ?_) (fun h => by cases h)
  have hbad : False := by omega
  refine Cs (Km rfl (Kq rfl (rd_eql rfl rfl rfl) (Ka rfl (Nt (Ce (Xb ?_))))))
  exact R1 rfl rfl (by exact hbad.elim)
 ·(try simp only [sB] at hg11)
  refine Km rfl ?_
  refine Kq rfl (rd_remW (c := 2) rfl rfl rfl ?_) ?_
  ·omega
  refine Kq rfl (rd_eql rfl rfl rfl) (Kq rfl (Rq rfl rfl rfl) (Nt ?_))
  refine Cd rfl (fun hc15 => ?_) (fun hc15 => ?_)
  ·(try simp only [sB] at hc15)
   have hbad : False := by omega
   refine Cs (Km rfl (Kq rfl (rd_eql rfl rfl rfl) (Ka rfl (Nt (Ce (Xb ?_))))))
   exact R1 rfl rfl (by exact hbad.elim)
  ·(try simp only [sB] at hc15)
   refine Ck (Xa (Cq (Cs (Km rfl (Kq rfl (rd_eql rfl rfl rfl) (Nt ?_))))))
   refine Cd rfl (fun hc19 => ?_) (fun hc19 => ?_)
   ·(try simp only [sB] at hc19)
    have hbad : False := by omega
    refine Cs (Ka rfl (Nt (Ce (Xb ?_))))
    exact R1 rfl rfl (by exact hbad.elim)
   ·(try simp only [sB] at hc19)
    refine Ck (Xa (Cs (Km rfl (Kq rfl (rd_subW (c := 1) rfl rfl rfl (by omega)) (Ka rfl (Ka rfl (Nt (Cq (Cb ?_)))))))))
    refine Lp (σ := Nat × Nat) [(0, _), (1, _)] (fun gq => [(5, .int .u64 (gq.1 : Int)), (6, .int .i64 (gq.2 : Int))]) (fun gq => 0 < gq.1 ∧ gq.1 < 18446744073709551616 ∧ gq.1 * 2 ^ gq.2 = n - 1 ∧ gq.2 ≤ 64) (fun gq => gq.1) (n - 1, 0) (S2 rfl rfl) (S2 rfl rfl) (by (try dsimp only); exact ⟨by omega, by omega, by rw [Nat.pow_zero, Nat.mul_one], by omega⟩) ?_
    rintro ⟨d, s⟩ hinv1; (try dsimp only at hinv1 ⊢)
    obtain ⟨hd0, hdl, hds, hs⟩ := hinv1
    refine Cq (Cs (Km rfl ?_))
    refine Kq rfl (rd_remW (c := 2) rfl rfl rfl ?_) ?_
    ·omega
    refine Kq rfl (rd_eql rfl rfl rfl) (Nt ?_)
    refine Cd rfl (fun hc24 => ?_) (fun hc24 => ?_)
    ·(try simp only [sB] at hc24)
     have hdn : d / 2 * 2 ^ (s + 1) = n - 1 := by rw [← hds, Nat.pow_succ, Nat.mul_comm (2 ^ s), ← Nat.mul_assoc]; congr 1; omega
     have hs64 : s + 1 ≤ 64 := Nat.le_of_lt_succ ((Nat.pow_lt_pow_iff_right (by decide : 1 < 2)).1 (show 2 ^ (s + 1) < 2 ^ 65 from by
      have h1 : 1 * 2 ^ (s + 1) ≤ d / 2 * 2 ^ (s + 1) := Nat.mul_le_mul_right _ (by omega)
      rw [hdn] at h1; omega))
     refine Ck (Xa (Cb (Cs (Km rfl ?_))))
     refine Kq rfl (rd_quoW (c := 2) rfl rfl rfl ?_) ?_
     ·omega
     refine Ka rfl (Nt (Cg (Km rfl (Kq rfl (Rz rfl rfl rfl (by omega)) (Ka rfl (Nn (Xd ?_)))))))
     refine Ly ((d / 2, s + 1)) (by (try dsimp only); omega) (S2 rfl rfl) (by refine (Sc ?_ (Sc ?_ (S0 _))) <;> (rfl)) ?_ (by (exact fun _ h => h))
     (try dsimp only)
     exact ⟨by omega, by omega, hdn, hs64⟩
    ·(try simp only [sB] at hc24)
     refine Cx (Xc (Xc (Xe ?_)))
     obtain ⟨hs1, hd1⟩ := tz_uniq (n := n - 1) (by omega) (by omega) (by omega) hds
     obtain ⟨x0, hx0⟩ : ∃ x, x = a ^ d % n := ⟨_, rfl⟩
     have hxl : x0 < n := by rw [hx0]; exact Nat.mod_lt _ (by omega)
     have hst : stN n a = (decide (x0 = 1) || sqs n s x0) := by rw [stN, ← hd1, ← hs1, strN, ← hx0]
     refine Xa (Cs (Km rfl (Km rfl (Km rfl ?_))))
     refine Ku rfl (Oc rfl rfl (Kv fun w hS => expmod_c (a := a) (e0 := d) (m := n) (by assumption) (by assumption) (by assumption))) ?_
     refine Ns 32 rfl (v' := .int .u64 ((x0 : Nat) : Int)) (congrArg (Value.int .u64) (by rw [hx0])) ?_
     refine Ka rfl (Nt (Cq (Cs (Km rfl (Kq rfl (rd_eql rfl rfl rfl) (Nt ?_))))))
     refine Cd rfl (fun hc34 => ?_) (fun hc34 => ?_)
     ·(try simp only [sB] at hc34)
      refine Cs (Ka rfl (Nt (Ce (Xb ?_))))
      exact R1 rfl rfl (by rw [hst, decide_eq_true (by omega)]; rfl)
     ·(try simp only [sB] at hc34)
      have hx1 : ¬ x0 = 1 := by omega
      rw [decide_eq_false hx1, Bool.false_or] at hst
      refine Ck (Xa (Cq (Cs (Ka rfl (Nt (Cb ?_))))))
      refine Lp (σ := Nat × Nat) [(0, _), (6, _)] (fun gq => [(8, .int .i64 (gq.1 : Int)), (7, .int .u64 (gq.2 : Int))]) (fun gq => gq.1 ≤ s ∧ gq.2 < n ∧ sqs n (s - gq.1) gq.2 = sqs n s x0) (fun gq => s - gq.1) (0, x0) (S2 rfl rfl) (S2 rfl rfl) (by (try dsimp only); exact ⟨by omega, hxl, rfl⟩) ?_
      rintro ⟨i, x⟩ hinv2; (try dsimp only at hinv2 ⊢)
      obtain ⟨his, hxn, hsq⟩ := hinv2
      refine Cq (Cs (Km rfl (Km rfl (Kq rfl (rd_lss rfl rfl rfl) (Nt ?_)))))
      refine Cd rfl (fun hc37 => ?_) (fun hc37 => ?_)
      ·(try simp only [sB] at hc37)
       have hx2 : x * x % n < n := Nat.mod_lt _ (by omega)
       refine Ck (Xa (Cq (Cb (Cq (Cs (Km rfl (Km rfl (Kq rfl (rd_subW (c := 1) rfl rfl rfl (by omega)) (Kq rfl (rd_eql rfl rfl rfl) (Nt ?_))))))))))
       refine Cd rfl (fun hc43 => ?_) (fun hc43 => ?_)
       ·(try simp only [sB] at hc43)
        rw [sqs_hit (by omega) (by omega)] at hsq
        refine Cs (Ka rfl (Nt (Ce (Xb (Xf (Xb (Xb (Xf (Xb ?_)))))))))
        exact R1 rfl rfl (by rw [hst, ← hsq]; rfl)
       ·(try simp only [sB] at hc43)
        rw [sqs_miss (by omega) (by omega)] at hsq
        refine Ck (Xa (Cg (Km rfl (Km rfl (Km rfl ?_)))))
        refine Ku rfl (Oc rfl rfl (Kv fun w hS => mulmod_c (a := x) (b0 := x) (m := n) (by assumption) (by assumption) (by assumption))) ?_
        refine Ka rfl (Nn (Xd (Xa (Cg (Km rfl (Kq rfl (Rz rfl rfl rfl (by omega)) (Ka rfl (Nn ?_))))))))
        refine Ly ((i + 1, x * x % n)) (by (try dsimp only); omega) (S2 rfl rfl) (by refine (Sc ?_ (Sc ?_ (S0 _))) <;> (rfl)) ?_ (by (exact fun _ h => h))
        (try dsimp only)
        exact ⟨by omega, hx2, by rw [← hsq, Nat.sub_sub]⟩
      ·(try simp only [sB] at hc37)
       refine Cx (Xc (Xc (Xe ?_)))
       obtain rfl : i = s := by omega
       refine Xa (Cs (Ka rfl (Nt (Ce ?_))))
       exact R1 rfl rfl (by rw [hst, ← hsq, Nat.sub_self]; rfl)
theorem pk_lit {k : Nat} (h : k < 12) : ([.int .u64 2, .int .u64 3, .int .u64 5, .int .u64 7, .int .u64 11, .int .u64 13, .int .u64 17, .int .u64 19, .int .u64 23, .int .u64 29, .int .u64 31, .int .u64 37] : List Value)[k]? = some (vU (pk k)) := pk_cell h
theorem risU_c {n : Nat} {w : World} (hn : n < 18446744073709551616) :
  Cw 207 #[.int .u64 (n : Int)] w (.bool (isP n)) := by
 refine En [] [(0, .int .u64 (n : Int))] Tryz.func207 rfl Tryz.ntmps207 rfl (Ac rfl (An _)) Fn ?_
 refine Cs (Ka rfl (Nt (Cq (Cs (Km rfl (Kq rfl (rd_lss rfl rfl rfl) (Nt ?_)))))))
 refine Cd rfl (fun hc7 => ?_) (fun hc7 => ?_)
 ·(try simp only [sB] at hc7)
  refine Cs (Ka rfl (Nt (Ce (Xb ?_))))
  exact R1 rfl rfl (by rw [isP, if_pos (by omega)]; rfl)
 ·(try simp only [sB] at hc7)
  have hn2 : ¬ n < 2 := by omega
  refine Ck (Xa (Cs ?_))
  refine Kh rfl (og_bs1 rfl rfl u239 (by kernel_rfl : _ = some (some (.int .u64 0), 1, 8)) rfl (by simp only [List.map]; rfl) rfl rfl ?_ (by decide)) ?_
  ·simp [Value.cells]
  intro b8
  refine Ka rfl (Nt (Cq (Cs (Ka rfl (Nt (Cb ?_))))))
  refine Lp (σ := Nat) [(0, _), (3, _)] (fun gq => [(4, .int .i64 (gq : Int))]) (fun gq => gq ≤ 12 ∧ tdiv n (ps12.drop gq) = tdiv n ps12) (fun gq => 12 - gq) (0) (S2 rfl rfl) (S1 rfl) (by (try dsimp only); exact ⟨by omega, rfl⟩) ?_
  rintro k hinv1; (try dsimp only at hinv1 ⊢)
  obtain ⟨hk, htd⟩ := hinv1
  refine Cq (Cs (Km rfl (Km rfl (Kq rfl (rd_len rfl rfl u239) (Kq rfl (rd_lss rfl rfl rfl) (Nt ?_))))))
  refine Cd rfl (fun hc12 => ?_) (fun hc12 => ?_)
  ·(try simp only [sB] at hc12)
   have hk12 : k < 12 := by omega
   have hpb := pk_bd hk12
   rw [tdiv_drop n hk12] at htd
   refine Ck (Xa (Cq (Cb (Cq (Cs (Km rfl (Km rfl (Km rfl ?_))))))))
   refine Kq rfl (Ja rfl rfl rfl u239 (by kernel_rfl : _ = some 1) (by omega)) ?_
   refine Kq rfl (ld rfl rfl .tc u74 rfl (pk_lit hk12)) ?_
   refine Kq rfl (rd_eql rfl rfl rfl) (Nt ?_)
   refine Cd rfl (fun hc20 => ?_) (fun hc20 => ?_)
   ·(try simp only [sB] at hc20)
    rw [if_pos (by rw [show n = pk k by omega]; exact Nat.mod_self _), decide_eq_true (by omega)] at htd
    refine Cs (Ka rfl (Nt (Ce (Xb (Xf (Xb (Xb (Xf (Xb ?_)))))))))
    exact R1 rfl rfl (by rw [isP_some hn2 htd.symm]; rfl)
   ·(try simp only [sB] at hc20)
    refine Ck (Xa (Cs (Km rfl (Km rfl (Km rfl ?_)))))
    refine Kq rfl (Ja rfl rfl rfl u239 (by kernel_rfl : _ = some 1) (by omega)) ?_
    refine Kq rfl (ld rfl rfl .tc u74 rfl (pk_lit hk12)) ?_
    refine Kq rfl (rd_remW rfl rfl rfl ?_) ?_
    ·omega
    refine Kq rfl (rd_eql rfl rfl rfl) (Nt ?_)
    refine Cd rfl (fun hc27 => ?_) (fun hc27 => ?_)
    ·(try simp only [sB] at hc27)
     rw [if_pos (by omega), decide_eq_false (by omega)] at htd
     refine Cs (Ka rfl (Nt (Ce (Xf (Xb (Xb (Xf (Xb ?_))))))))
     exact R1 rfl rfl (by rw [isP_some hn2 htd.symm]; rfl)
    ·(try simp only [sB] at hc27)
     rw [if_neg (by omega)] at htd
     refine Ck (Xd (Xa (Cg (Km rfl (Kq rfl (Rz rfl rfl rfl (by omega)) (Ka rfl (Nn ?_)))))))
     refine Ly (k + 1) (by (try dsimp only); omega) (S2 rfl rfl) (by refine (Sc ?_ (S0 _)) <;> (rfl)) ?_ (by (exact fun _ h => h))
     (try dsimp only)
     exact ⟨by omega, htd⟩
  ·(try simp only [sB] at hc12)
   refine Cx (Xc (Xc (Xe ?_)))
   obtain rfl : k = 12 := by omega
   have hno : tdiv n ps12 = none := htd.symm
   have hodd := tdiv_none hno 2 (by decide)
   have h37 := tdiv_big hn2 hno
   refine Xa (Cq (Cs (Ka rfl (Nt (Cb ?_)))))
   refine Lp (σ := Nat) [(0, _), (3, _)] (fun gq => [(5, .int .i64 (gq : Int))]) (fun gq => gq ≤ 12 ∧ (ps12.drop gq).all (stN n) = ps12.all (stN n)) (fun gq => 12 - gq) (0) (S2 rfl rfl) (S1 rfl) (by (try dsimp only); exact ⟨by omega, rfl⟩) ?_
   rintro j hinv2; (try dsimp only at hinv2 ⊢)
   obtain ⟨hj, hall⟩ := hinv2
   refine Cq (Cs (Km rfl (Km rfl (Kq rfl (rd_len rfl rfl u239) (Kq rfl (rd_lss rfl rfl rfl) (Nt ?_))))))
   refine Cd rfl (fun hc31 => ?_) (fun hc31 => ?_)
   ·(try simp only [sB] at hc31)
    have hj12 : j < 12 := by omega
    have hjb := pk_bd hj12
    rw [all_drop _ hj12] at hall
    refine Ck (Xa (Cq (Cb (Cs (Km rfl (Km rfl (Km rfl ?_)))))))
    refine Kq rfl (Ja rfl rfl rfl u239 (by kernel_rfl : _ = some 1) (by omega)) ?_
    refine Kq rfl (ld rfl rfl .tc u74 rfl (pk_lit hj12)) ?_
    refine Ku rfl (Oc rfl rfl (Kv fun w hS => rstrong_c (n := n) (a := pk j) (by omega) (by omega) (by omega) (by omega) (by assumption))) ?_
    refine Kq rfl (Rt rfl rfl) (Nt ?_)
    refine Cd rfl (fun hc40 => ?_) (fun hc40 => ?_)
    ·(try simp only [sB] at hc40)
     have hstr : stN n (pk j) = false := by simpa using hc40
     refine Cs (Ka rfl (Nt (Ce (Xf (Xb (Xb (Xf (Xb ?_))))))))
     exact R1 rfl rfl (by rw [isP_none hn2 hno, ← hall, hstr]; rfl)
    ·(try simp only [sB] at hc40)
     have hstr : stN n (pk j) = true := by simpa using hc40
     refine Ck (Xd (Xa (Cg (Km rfl (Kq rfl (Rz rfl rfl rfl (by omega)) (Ka rfl (Nn ?_)))))))
     refine Ly (j + 1) (by (try dsimp only); omega) (S2 rfl rfl) (by refine (Sc ?_ (S0 _)) <;> (rfl)) ?_ (by (exact fun _ h => h))
     (try dsimp only)
     exact ⟨by omega, by rw [← hall, hstr, Bool.true_and]⟩
   ·(try simp only [sB] at hc31)
    refine Cx (Xc (Xc (Xe ?_)))
    obtain rfl : j = 12 := by omega
    refine Xa (Cs (Ka rfl (Nt (Ce ?_))))
    exact R1 rfl rfl (by rw [isP_none hn2 hno, ← hall]; rfl)
theorem rprime_c {a : Bs} {w : World} :
  Cw 169 #[.string (S a)] w (.tuple #[.bool (primeS a).1, .int .i64 (primeS a).2]) := by
 refine En [] [(0, .string (S a))] Tryz.func169 rfl Tryz.ntmps169 rfl (Ac rfl (An _)) Fn ?_
 refine Cs (Ka rfl (Ka rfl (Nt (Cq (Cs (Km rfl ?_))))))
 refine Ku rfl (Oc rfl rfl (Kv fun w hS => rformed_c (a := a))) ?_
 refine Kq rfl (Rt rfl rfl) (Nt ?_)
 refine Cd rfl (fun hc8 => ?_) (fun hc8 => ?_)
 ·(try simp only [sB] at hc8)
  refine Cs (Ka rfl (Ka rfl (Nt (Ce (Xb ?_)))))
  exact R2 rfl rfl rfl (by rw [primeS, if_pos hc8]; rfl)
 ·(try simp only [sB] at hc8)
  have hok : okN a := by simpa using hc8
  refine Ck (Xa (Cs (Km rfl ?_)))
  refine Ku rfl (Oc rfl rfl (Kv fun w hS => rU_c (a := a) (by assumption))) ?_
  refine Km rfl (Kq rfl (Re rfl rfl rfl) (Kq rfl (Re rfl rfl rfl) (Ka rfl (Ka rfl (Nt (Cq (Cs (Km rfl (Kq rfl (Rt rfl rfl) (Nt ?_))))))))))
  refine Cd rfl (fun hc15 => ?_) (fun hc15 => ?_)
  ·(try simp only [sB] at hc15)
   refine Cs (Ka rfl (Ka rfl (Nt (Ce (Xb ?_)))))
   exact R2 rfl rfl rfl (by rw [primeS, if_neg (fun h => h hok), if_pos (by omega)]; rfl)
  ·(try simp only [sB] at hc15)
   have h8 : a.length ≤ 8 := by omega
   have hv8 := val_8 h8
   refine Ck (Xa (Cs (Km rfl ?_)))
   refine Ku rfl (Oc rfl rfl (Kv fun w hS => risU_c (n := val a % 18446744073709551616) (by omega))) ?_
   refine Ka rfl (Ka rfl (Nt (Ce ?_)))
   exact R2 rfl rfl rfl (by rw [prime_ok hok h8, Nat.mod_eq_of_lt hv8]; rfl)
end Go.Proofs.YthkmpjobfdeoaaaGreatDoor
