/-
  Parts of the walk: Coi1 Isn Tz Prm Prn.
-/
import Derived.Test.YthkmpjobfdeoaaaGreatDoorH15
namespace Go.Proofs.YthkmpjobfdeoaaaGreatDoor
open Go.RowKit
set_option linter.unusedSimpArgs false
set_option linter.unusedVariables false
set_option maxHeartbeats 600000
set_option maxRecDepth 20000
structure Tp where
 vals : List Bs
 seed : Bs
 at_ : Int
deriving DecidableEq
abbrev Tp.v (t : Tp) (x : Value) : Value := .agg #[x, .string (S t.seed), .int .i64 t.at_]
def goodT (t : Tp) : Prop := 0 ≤ t.at_ ∧ t.at_ ≤ 2147483647 ∧ ∀ s ∈ t.vals, okN s
instance (t : Tp) : Decidable (goodT t) := inferInstanceAs (Decidable (_ ∧ _ ∧ _))
theorem getD_memB (l : List Bs) (k : Nat) (h : k < l.length) : l.getD k default ∈ l := by
 rw [List.getD_eq_getElem?_getD, List.getElem?_eq_getElem h]; exact List.getElem_mem h
theorem all_takeB {l : List Bs} {k : Nat} {p : Bs → Prop} (h : k < l.length) (h1 : ∀ s ∈ l.take k, p s) (h2 : p (l.getD k default)) : ∀ s ∈ l.take (k + 1), p s := by
 intro s hs
 rw [List.take_add_one, List.getElem?_eq_getElem h] at hs
 rw [List.getD_eq_getElem?_getD, List.getElem?_eq_getElem h] at h2
 rcases List.mem_append.1 hs with hs | hs
 ·exact h1 s hs
 ·simp at hs; subst hs; exact h2
theorem bad_c {a : Bs} {w : World} :
  Cw 192 #[.string (S a)] w (.bool (!decide (okN a))) := by
 refine En [] [(0, .string (S a))] Tryz.func192 rfl Tryz.ntmps192 rfl (Ac rfl (An _)) Fn ?_
 refine Cs (Ka rfl (Nt (Cs (Km rfl ?_))))
 refine Ku rfl (Oc rfl rfl (Kv fun w hS => valid_c)) ?_
 refine Kq rfl (Rt rfl rfl) (Ka rfl (Nt (Ce ?_)))
 exact R1 rfl rfl (by rfl)
theorem idxf_c {l : List Bs} {a : Option Addr} {cap : Nat} {w : World} {ok : Nat → Prop} (hF1 : (Fact.sl a (strs l)).holds ok w) (hl : l.length ≤ 9223372036854775807) :
  Calls Tryz.prog 216 #[.slice a l.length cap, .func (.func 192) #[] #[]] w fun e w' => ∃ r : Int, e = .returned (.int .i64 r) ∧ (0 ≤ r ↔ ¬ ∀ s ∈ l, okN s) ∧ Below w.heap.size w w' := by
 refine En [Fact.sl a (strs l)] [(0, .slice a l.length cap), (1, .func (.func 192) #[] #[])] Tryz.func216 rfl Tryz.ntmps216 rfl (Ac rfl (Ac rfl (An _))) (Fc (fact_any hF1) Fn) ?_
 refine Cs (Ka rfl (Nt (Cq (Cs (Km rfl (Kq rfl (rd_len rfl rfl u31) (Km rfl (Nt (Cb ?_)))))))))
 refine Lp (σ := Nat) [(0, _), (1, _), (7, _)] (fun gq => [(8, .int .i64 (gq : Int))]) (fun gq => gq ≤ l.length ∧ ∀ s ∈ l.take gq, okN s) (fun gq => l.length - gq) (0) (S3 rfl rfl rfl) (S1 rfl) (by (try dsimp only); exact ⟨Nat.zero_le _, fun s h => by simp at h⟩) ?_
 rintro k hinv1; (try dsimp only at hinv1 ⊢)
 obtain ⟨hk, hks⟩ := hinv1
 refine Cs (Kq rfl (rd_lss rfl rfl rfl) (Nt (Cq ?_)))
 refine Cd rfl (fun hc9 => ?_) (fun hc9 => ?_)
 ·(try simp only [sB] at hc9)
  refine Ck (Xa (Cq (Cb (Cs (Km rfl (Ka rfl (Nt (Cs (Km rfl (Km rfl (Km rfl ?_)))))))))))
  refine Kq rfl (Ib rfl rfl rfl u31 (by omega) (by (rw [List.length_map]; omega))) ?_
  refine Kq rfl (ldm rfl rfl u22 rfl (by omega)) ?_
  refine Ku rfl (og_callv rfl rfl rfl (by kernel_rfl) rfl (Kv fun w hS => bad_c (a := l.getD k default))) ?_
  refine Nt ?_
  refine Cd rfl (fun hc16 => ?_) (fun hc16 => ?_)
  ·(try simp only [sB] at hc16)
   refine Cs (Km rfl (Ka rfl (Nt (Ce (Xf (Xb (Xb (Xf (Xb ?_)))))))))
   exact Rn rfl (.tmp rfl .nil) fun w' hS => ⟨_, rfl, ⟨fun _ h => by have := h _ (getD_memB l k (by omega)); simp_all, fun _ => by omega⟩, hS.below⟩
  ·(try simp only [sB] at hc16)
   refine Ck (Xd (Xa (Cg (Kq rfl (Rz rfl rfl rfl (by omega)) (Km rfl (Nn ?_))))))
   refine Ly (k + 1) (by (try dsimp only); omega) (S3 rfl rfl rfl) (by refine (Sc ?_ (S0 _)) <;> (rfl)) ?_ (by (exact fun _ h => h))
   (try dsimp only)
   exact ⟨by omega, all_takeB (by omega) hks (by simpa using hc16)⟩
 ·(try simp only [sB] at hc9)
  refine Cx (Xc (Xc (Xe ?_)))
  obtain rfl : k = l.length := by omega
  rw [List.take_of_length_le (Nat.le_refl _)] at hks
  refine Xa (Cs (Ka rfl (Nt (Ce ?_))))
  exact Rn rfl (.tmp rfl .nil) fun w' hS => ⟨-1, rfl, ⟨fun h => by omega, fun h => absurd hks h⟩, hS.below⟩
theorem keep_ex {P : Program} {f : FuncId} {args : Array Value} {ok : Nat → Prop} {w0 : World} {own : List Ent} {fs : List Fact} {γ : Type} {val : γ → Value} {p : γ → Prop} (h : ∀ w, St ok w0 own fs w → Calls P f args w (fun e w' => ∃ r : γ, e = .returned (val r) ∧ p r ∧ Below w.heap.size w w')) :
  ∀ w, St ok w0 own fs w → Calls P f args w (fun e w' => ∃ g, e = .returned (val g) ∧ (p g ∧ St ok w0 own fs w')) :=
 fun w hS => (h w hS).mono fun e w' ⟨r, h1, h2, h3⟩ => ⟨r, h1, h2, hS.keep h3⟩
theorem contf_c {l : List Bs} {a : Option Addr} {cap : Nat} {w : World} {ok : Nat → Prop} (hF1 : (Fact.sl a (strs l)).holds ok w) (hl : l.length ≤ 9223372036854775807) :
  Cw 191 #[.slice a l.length cap, .func (.func 192) #[] #[]] w (.bool (decide (¬ ∀ s ∈ l, okN s))) := by
 refine En [Fact.sl a (strs l)] [(0, .slice a l.length cap), (1, .func (.func 192) #[] #[])] Tryz.func191 rfl Tryz.ntmps191 rfl (Ac rfl (Ac rfl (An _))) (Fc (fact_any hF1) Fn) ?_
 refine Cs (Ka rfl (Nt (Cs (Km rfl (Km rfl ?_)))))
 refine Kh rfl (Oc rfl rfl (keep_ex fun w hS => idxf_c (l := l) (a := a) (cap := cap) (w := w) hS.sl hl)) ?_
 intro r; refine WL.pu ?_; intro hr
 refine Kq rfl (rd_geq rfl rfl rfl) (Ka rfl (Nt (Ce ?_)))
 exact Rn rfl (.tmp rfl .nil) fun w' hS => ⟨congrArg (fun b => Ending.returned (.bool b)) (decide_eq_decide.2 hr), hS.below⟩
theorem good_c {t : Tp} {a : Option Addr} {cap : Nat} {w : World} {ok : Nat → Prop} (hF1 : (Fact.sl a (strs t.vals)).holds ok w) (hl : t.vals.length ≤ 9223372036854775807) :
  Cw 151 #[t.v (.slice a t.vals.length cap)] w (.bool (decide (goodT t))) := by
 refine En [Fact.sl a (strs t.vals)] [(0, t.v (.slice a t.vals.length cap))] Tryz.func151 rfl Tryz.ntmps151 rfl (Ac rfl (An _)) (Fc (fact_any hF1) Fn) ?_
 refine Cs ?_
 refine Kh rfl (Oy rfl rfl) ?_
 intro b1
 refine Ka rfl (Nt (Cs (Kq rfl (Fa (q := 2) rfl rfl u66 rfl rfl) (Kq rfl (Ld rfl rfl .tc u3) ?_))))
 refine Kq rfl (rd_geq rfl rfl rfl) (Km rfl ?_)
 refine Nb 6 rfl (fun hg6 => ?_) (fun hg6 => ?_)
 ·(try simp only [sB] at hg6)
  refine Kq rfl (Fa (q := 2) rfl rfl u66 rfl rfl) (Kq rfl (Ld rfl rfl .tc u3) ?_)
  refine Kq rfl (rd_leq rfl rfl rfl) (Kq rfl (Rp rfl rfl rfl) (Km rfl ?_))
  refine Nb 11 rfl (fun hg11 => ?_) (fun hg11 => ?_)
  ·(try simp only [sB] at hg11)
   refine Kq rfl (Fa (q := 0) rfl rfl u66 rfl rfl) (Kq rfl (Ld rfl rfl .tc u31) ?_)
   refine Ku rfl (Oc rfl rfl (Kv fun w hS => contf_c (l := t.vals) (by (exact hS.sl)) (by assumption))) ?_
   refine Kq rfl (Rt rfl rfl) (Kq rfl (Rp rfl rfl rfl) (Ka rfl (Nt (Ce ?_))))
   exact Rn rfl (.tmp rfl .nil) fun w' hS => ⟨congrArg (fun b => Ending.returned (.bool b)) (by rw [Bool.eq_iff_iff]; simp only [Bool.not_eq_true', decide_eq_false_iff_not, decide_eq_true_eq, Classical.not_not, Bool.false_eq_true]; unfold goodT; (exact ⟨fun h => ⟨by omega, by omega, h⟩, fun h => h.2.2⟩)), hS.below⟩
  ·(try simp only [sB] at hg11)
   refine Kt rfl (Kt rfl (Kt rfl (Kt rfl (Kq rfl (Rq rfl rfl rfl) (Ka rfl (Nt (Ce ?_)))))))
   exact Rn rfl (.tmp rfl .nil) fun w' hS => ⟨congrArg (fun b => Ending.returned (.bool b)) (by rw [Bool.eq_iff_iff]; simp only [Bool.not_eq_true', decide_eq_false_iff_not, decide_eq_true_eq, Classical.not_not, Bool.false_eq_true]; unfold goodT; (exact ⟨fun h => h.elim, fun h => by omega⟩)), hS.below⟩
 ·(try simp only [sB] at hg6)
  refine Kt rfl (Kt rfl (Kt rfl (Kq rfl (Rq rfl rfl rfl) (Km rfl (Kt rfl (Kt rfl (Kt rfl (Kt rfl (Kq rfl (Rq rfl rfl rfl) (Ka rfl (Nt (Ce ?_))))))))))))
  exact Rn rfl (.tmp rfl .nil) fun w' hS => ⟨congrArg (fun b => Ending.returned (.bool b)) (by rw [Bool.eq_iff_iff]; simp only [Bool.not_eq_true', decide_eq_false_iff_not, decide_eq_true_eq, Classical.not_not, Bool.false_eq_true]; unfold goodT; (exact ⟨fun h => h.elim, fun h => by omega⟩)), hS.below⟩
def fewT (t : Tp) : Prop := t.vals.length ≤ 40 ∧ t.seed.length ≤ 100 ∧ ∀ s ∈ t.vals, s.length ≤ 140
instance (t : Tp) : Decidable (fewT t) := inferInstanceAs (Decidable (_ ∧ _ ∧ _))
theorem isname_c {s : Bs} {w : World} (hl : s.length ≤ 140737488351232) :
  Cw 74 #[.string (S s)] w (.bool (decide (nameS s))) := by
 refine En [] [(0, .string (S s))] Tryz.func74 rfl Tryz.ntmps74 rfl (Ac rfl (An _)) Fn ?_
 refine Cs (Ka rfl (Nt (Cq (Cs (Km rfl (Kq rfl (rd_slen rfl rfl u9) (Km rfl (Nt (Cb ?_)))))))))
 refine Lp (σ := Nat) [(0, _), (7, _)] (fun gq => [(8, .int .i64 (gq : Int))]) (fun gq => gq ≤ s.length ∧ ∀ j, j < gq → nmB j (s.getD j default)) (fun gq => s.length - gq) (0) (S2 rfl rfl) (S1 rfl) (by (try dsimp only); exact ⟨Nat.zero_le _, fun j h => absurd h (by omega)⟩) ?_
 rintro i hinv1; (try dsimp only at hinv1 ⊢)
 obtain ⟨hi, hok⟩ := hinv1
 refine Cs (Kq rfl (rd_lss rfl rfl rfl) (Nt (Cq ?_)))
 refine Cd rfl (fun hc9 => ?_) (fun hc9 => ?_)
 ·(try simp only [sB] at hc9)
  have hil : i < s.length := by omega
  obtain ⟨c, hc⟩ : ∃ c, Keep (c = s.getD i default) := ⟨_, rfl⟩
  refine Ck (Xa (Cq (Cb (Cs (Km rfl (Ka rfl (Nt (Cs (Km rfl (Km rfl ?_))))))))))
  refine Kq rfl (rd_sidxD rfl rfl rfl u9 ?_) ?_
  ·omega
  refine Ns 13 rfl (v' := .int .u8 (c.toNat : Int)) (by rw [show c = _ from hc, Int.toNat_natCast]) ?_
  refine Ka rfl (Nt ?_)
  refine WC.joinP (σ := Unit) [(0, _), (3, _), (4, _), (7, _), (8, _)] (fun gq => [(5, .bool (decide ((97 ≤ c.toNat ∧ c.toNat ≤ 122) ∨ (65 ≤ c.toNat ∧ c.toNat ≤ 90))))]) (fun gq => True) (S5 rfl rfl rfl rfl rfl) ?_ ?_
  ·skip
   refine Cg (Km rfl (Kq rfl (rd_geq rfl rfl rfl) (Km rfl ?_)))
   refine Nb 16 rfl (fun hg16 => ?_) (fun hg16 => ?_)
   ·(try simp only [sB] at hg16)
    refine Km rfl (Kq rfl (rd_leq rfl rfl rfl) (Kq rfl (Rp rfl rfl rfl) (Km rfl ?_)))
    refine Nb 20 rfl (fun hg20 => ?_) (fun hg20 => ?_)
    ·(try simp only [sB] at hg20)
     refine Kt rfl (Kt rfl (Kt rfl (Kt rfl (Kt rfl (Kt rfl (Kq rfl (Rp rfl rfl rfl) (Ka rfl (Nn ?_))))))))
     refine WX.joinP (()) (S5 rfl rfl rfl rfl rfl) (by refine (Sc ?_ (S0 _)) <;> ((exact congrArg (fun b => some (Value.bool b)) (by symm; apply decide_eq_true; omega)))) ?_ (by (exact fun _ h => h))
     (try dsimp only)
     done
    ·(try simp only [sB] at hg20)
     refine Km rfl (Kq rfl (rd_geq rfl rfl rfl) (Km rfl ?_))
     refine Nb 23 rfl (fun hg23 => ?_) (fun hg23 => ?_)
     ·(try simp only [sB] at hg23)
      refine Km rfl (Kq rfl (rd_leq rfl rfl rfl) (Kq rfl (Rp rfl rfl rfl) (Kq rfl (Rq rfl rfl rfl) (Ka rfl (Nn ?_)))))
      refine WX.joinP (()) (S5 rfl rfl rfl rfl rfl) (by refine (Sc ?_ (S0 _)) <;> ((refine slot_b rfl ?_; (try dsimp only); (exact decide_eq_decide.2 (by omega))))) ?_ (by (exact fun _ h => h))
      (try dsimp only)
      done
     ·(try simp only [sB] at hg23)
      refine Kt rfl (Kt rfl (Kq rfl (Rq rfl rfl rfl) (Kq rfl (Rq rfl rfl rfl) (Ka rfl (Nn ?_)))))
      refine WX.joinP (()) (S5 rfl rfl rfl rfl rfl) (by refine (Sc ?_ (S0 _)) <;> ((exact congrArg (fun b => some (Value.bool b)) (by symm; apply decide_eq_false; omega)))) ?_ (by (exact fun _ h => h))
      (try dsimp only)
      done
   ·(try simp only [sB] at hg16)
    refine Kt rfl (Kt rfl (Kq rfl (Rq rfl rfl rfl) (Km rfl (Km rfl (Kq rfl (rd_geq rfl rfl rfl) (Km rfl ?_))))))
    refine Nb 23 rfl (fun hg23 => ?_) (fun hg23 => ?_)
    ·(try simp only [sB] at hg23)
     refine Km rfl (Kq rfl (rd_leq rfl rfl rfl) (Kq rfl (Rp rfl rfl rfl) (Kq rfl (Rq rfl rfl rfl) (Ka rfl (Nn ?_)))))
     refine WX.joinP (()) (S5 rfl rfl rfl rfl rfl) (by refine (Sc ?_ (S0 _)) <;> ((refine slot_b rfl ?_; (try dsimp only); (exact decide_eq_decide.2 (by omega))))) ?_ (by (exact fun _ h => h))
     (try dsimp only)
     done
    ·(try simp only [sB] at hg23)
     refine Kt rfl (Kt rfl (Kq rfl (Rq rfl rfl rfl) (Kq rfl (Rq rfl rfl rfl) (Ka rfl (Nn ?_)))))
     refine WX.joinP (()) (S5 rfl rfl rfl rfl rfl) (by refine (Sc ?_ (S0 _)) <;> ((exact congrArg (fun b => some (Value.bool b)) (by symm; apply decide_eq_false; omega)))) ?_ (by (exact fun _ h => h))
     (try dsimp only)
     done
  ·rintro _ hmeet; (try dsimp only at hmeet ⊢)
   refine WC.joinP (σ := Unit) [(0, _), (7, _), (8, _)] (fun gq => [(45, .bool (decide (¬ (((97 ≤ c.toNat ∧ c.toNat ≤ 122) ∨ (65 ≤ c.toNat ∧ c.toNat ≤ 90)) ∨ (i ≠ 0 ∧ (c.toNat = 95 ∨ (48 ≤ c.toNat ∧ c.toNat ≤ 57)))))))]) (fun gq => True) (S3 rfl rfl rfl) ?_ ?_
   ·skip
    refine Cg (Km rfl (Kq rfl (Rt rfl rfl) (Km rfl ?_)))
    refine Nb 30 rfl (fun hg30 => ?_) (fun hg30 => ?_)
    ·(try simp only [sB] at hg30)
     refine Km rfl (Kq rfl (rd_eql rfl rfl rfl) (Km rfl ?_))
     refine Nb 33 rfl (fun hg33 => ?_) (fun hg33 => ?_)
     ·(try simp only [sB] at hg33)
      refine Kt rfl (Kt rfl (Kt rfl (Kt rfl (Kt rfl (Kt rfl (Kt rfl (Kt rfl (Kt rfl (Kt rfl (Kq rfl (Rp rfl rfl rfl) (Kq rfl (Rp rfl rfl rfl) (Nn ?_))))))))))))
      refine WX.joinP (()) (S3 rfl rfl rfl) (by refine (Sc ?_ (S0 _)) <;> ((exact congrArg (fun b => some (Value.bool b)) (by symm; apply decide_eq_true; omega)))) ?_ (by (exact fun _ h => h))
      (try dsimp only)
      done
     ·(try simp only [sB] at hg33)
      refine Km rfl (Kq rfl (rd_neq rfl rfl rfl) (Km rfl ?_))
      refine Nb 36 rfl (fun hg36 => ?_) (fun hg36 => ?_)
      ·(try simp only [sB] at hg36)
       refine Km rfl (Kq rfl (rd_lss rfl rfl rfl) (Km rfl ?_))
       refine Nb 39 rfl (fun hg39 => ?_) (fun hg39 => ?_)
       ·(try simp only [sB] at hg39)
        refine Kt rfl (Kt rfl (Kq rfl (Rp rfl rfl rfl) (Kq rfl (Rp rfl rfl rfl) (Kq rfl (Rq rfl rfl rfl) (Kq rfl (Rp rfl rfl rfl) (Nn ?_))))))
        refine WX.joinP (()) (S3 rfl rfl rfl) (by refine (Sc ?_ (S0 _)) <;> ((exact congrArg (fun b => some (Value.bool b)) (by symm; apply decide_eq_true; omega)))) ?_ (by (exact fun _ h => h))
        (try dsimp only)
        done
       ·(try simp only [sB] at hg39)
        refine Km rfl (Kq rfl (rd_gtr rfl rfl rfl) (Kq rfl (Rq rfl rfl rfl) (Kq rfl (Rp rfl rfl rfl) (Kq rfl (Rq rfl rfl rfl) (Kq rfl (Rp rfl rfl rfl) (Nn ?_))))))
        refine WX.joinP (()) (S3 rfl rfl rfl) (by refine (Sc ?_ (S0 _)) <;> ((refine slot_b rfl ?_; (try dsimp only); (exact decide_eq_decide.2 (by omega))))) ?_ (by (exact fun _ h => h))
        (try dsimp only)
        done
      ·(try simp only [sB] at hg36)
       refine Kt rfl (Kt rfl (Kt rfl (Kt rfl (Kt rfl (Kt rfl (Kq rfl (Rq rfl rfl rfl) (Kq rfl (Rq rfl rfl rfl) (Kq rfl (Rp rfl rfl rfl) (Nn ?_)))))))))
       refine WX.joinP (()) (S3 rfl rfl rfl) (by refine (Sc ?_ (S0 _)) <;> ((exact congrArg (fun b => some (Value.bool b)) (by symm; apply decide_eq_false; omega)))) ?_ (by (exact fun _ h => h))
       (try dsimp only)
       done
    ·(try simp only [sB] at hg30)
     refine Kt rfl (Kt rfl (Kt rfl (Kt rfl (Kt rfl (Kt rfl (Kt rfl (Kt rfl (Kt rfl (Kt rfl (Kt rfl (Kt rfl (Kt rfl (Kt rfl (Kq rfl (Rq rfl rfl rfl) (Nn ?_)))))))))))))))
     refine WX.joinP (()) (S3 rfl rfl rfl) (by refine (Sc ?_ (S0 _)) <;> ((refine slot_b rfl ?_; (try dsimp only); (simp [*]; done)))) ?_ (by (exact fun _ h => h))
     (try dsimp only)
     done
   ·rintro _ hmeet; (try dsimp only at hmeet ⊢)
    refine Cd rfl (fun hc45 => ?_) (fun hc45 => ?_)
    ·(try simp only [sB] at hc45)
     have hno : ¬ nameS s := fun h => hc45 (by have := h.1 i hil; rw [← show c = _ from hc] at this; exact this)
     refine Cs (Ka rfl (Nt (Ce (Xf (Xb (Xb (Xf (Xb ?_))))))))
     exact R1 rfl rfl (by rw [decide_eq_false hno]; rfl)
    ·(try simp only [sB] at hc45)
     have hyes : nmB i (s.getD i default) := by rw [← show c = _ from hc]; exact Decidable.not_not.1 hc45
     refine Ck (Xd (Xa (Cg (Kq rfl (Rz rfl rfl rfl (by omega)) (Km rfl (Nn ?_))))))
     refine Ly (i + 1) (by (try dsimp only); omega) (S2 rfl rfl) (by refine (Sc ?_ (S0 _)) <;> (rfl)) ?_ (by (exact fun _ h => h))
     (try dsimp only)
     exact ⟨by omega, fun j hj => by rcases Nat.lt_or_eq_of_le (Nat.le_of_lt_succ hj) with h | rfl; exact hok j h; exact hyes⟩
 ·(try simp only [sB] at hc9)
  refine Cx (Xc (Xc (Xe ?_)))
  obtain rfl : i = s.length := by omega
  have hq : nameS s ↔ (s ≠ [] ∧ s.length ≤ 32) := ⟨fun h => h.2, fun h => ⟨hok, h⟩⟩
  refine Xa (Cs (Km rfl (Kq rfl (rd_sne rfl rfl rfl) (Km rfl ?_))))
  refine Nb 49 rfl (fun hg49 => ?_) (fun hg49 => ?_)
  ·(try simp only [sB] at hg49)
   refine Km rfl (Kq rfl (rd_slen rfl rfl u9) (Kq rfl (rd_leq rfl rfl rfl) (Kq rfl (Rp rfl rfl rfl) (Ka rfl (Nt (Ce ?_))))))
   exact R1 rfl rfl (by (rw [show decide (nameS s) = decide ((s.length : Int) ≤ 32) from decide_eq_decide.2 ⟨fun h => by have := h.2.2; omega, fun h => ⟨hok, by simpa using hg49, by omega⟩⟩]; rfl))
  ·(try simp only [sB] at hg49)
   refine Kt rfl (Kt rfl (Kt rfl (Kq rfl (Rq rfl rfl rfl) (Ka rfl (Nt (Ce ?_))))))
   exact R1 rfl rfl (by (rw [decide_eq_false (show ¬ nameS s from fun h => h.2.1 (by simpa using hg49))]; rfl))
def vldL (l : List Bs) : Prop := ∀ x ∈ l, okN x
instance (l : List Bs) : Decidable (vldL l) := inferInstanceAs (Decidable (∀ x ∈ l, _))
theorem ntape_c {t : Tp} {a : Option Addr} {c : Nat} {w : World} {ok : Nat → Prop} (hF1 : (Fact.sl a (strs t.vals)).holds ok w) (hl : t.vals.length ≤ 140737488351232) :
  Cw 65 #[t.v (.slice a t.vals.length c)] w (.bool (decide (goodT t))) := by
 refine En [Fact.sl a (strs t.vals)] [(0, t.v (.slice a t.vals.length c))] Tryz.func65 rfl Tryz.ntmps65 rfl (Ac rfl (An _)) (Fc (fact_any hF1) Fn) ?_
 refine Cs ?_
 refine Kh rfl (Oy rfl rfl) ?_
 intro b1
 refine Ka rfl (Nt (Cq (Cs (Kq rfl (Fa (q := 0) rfl rfl u66 rfl rfl) (Kq rfl (Ld rfl rfl .tc u31) ?_)))))
 refine Kq rfl (rd_len rfl rfl u31) (Km rfl (Nt (Cb ?_)))
 refine Lp (σ := Nat) [(1, _), (6, _), (7, _)] (fun gq => [(8, .int .i64 (gq : Int))]) (fun gq => gq ≤ t.vals.length ∧ ∀ x ∈ t.vals.take gq, okN x) (fun gq => t.vals.length - gq) (0) (S3 rfl rfl rfl) (S1 rfl) (by (try dsimp only); exact ⟨Nat.zero_le _, by simp⟩) ?_
 rintro i hinv1; (try dsimp only at hinv1 ⊢)
 obtain ⟨hi, hok⟩ := hinv1
 refine Cs (Kq rfl (rd_lss rfl rfl rfl) (Nt (Cq ?_)))
 refine Cd rfl (fun hc9 => ?_) (fun hc9 => ?_)
 ·(try simp only [sB] at hc9)
  have hil : i < t.vals.length := by omega
  obtain ⟨y, hy⟩ : ∃ y, Keep (y = t.vals.getD i default) := ⟨_, rfl⟩
  refine Ck (Xa (Cq (Cb (Cs ?_))))
  refine Kq rfl (Ib rfl rfl rfl u31 (by omega) (by (rw [List.length_map]; omega))) ?_
  refine Kq rfl (ldm rfl rfl u22 rfl (by assumption)) ?_
  refine Ns 11 rfl (v' := .string (S (y))) (congrArg (fun l => Value.string (S l)) (by rw [show y = _ from hy])) ?_
  refine Ka rfl (Nt (Cs (Km rfl ?_)))
  refine Ku rfl (Oc rfl rfl (Kv fun w hS => valid_c (a := y))) ?_
  refine Kq rfl (Rt rfl rfl) (Nt ?_)
  refine Cd rfl (fun hc14 => ?_) (fun hc14 => ?_)
  ·(try simp only [sB] at hc14)
   have hyn : ¬ okN y := by simpa using hc14
   have hn : ¬ goodT t := fun h => hyn (by rw [show y = _ from hy]; exact h.2.2 _ (getD_mem t.vals i hil))
   refine Cs (Ka rfl (Nt (Ce (Xf (Xb (Xb (Xf (Xb ?_))))))))
   exact R1 rfl rfl (by rw [decide_eq_false hn]; rfl)
  ·(try simp only [sB] at hc14)
   have hyy : okN y := by simpa using hc14
   refine Ck (Xd (Xa (Cg (Kq rfl (Rz rfl rfl rfl (by omega)) (Km rfl (Nn ?_))))))
   refine Ly (i + 1) (by (try dsimp only); omega) (S3 rfl rfl rfl) (by refine (Sc ?_ (S0 _)) <;> (rfl)) ?_ (by (exact fun _ h => h))
   (try dsimp only)
   exact ⟨hil, all_take hil hok (by rw [← show y = _ from hy]; exact hyy)⟩
 ·(try simp only [sB] at hc9)
  refine Cx (Xc (Xc (Xe ?_)))
  obtain rfl : i = t.vals.length := by omega
  rw [List.take_length] at hok
  refine Xa (Cs (Kq rfl (Fa (q := 2) rfl rfl u66 rfl rfl) (Kq rfl (Ld rfl rfl .tc u3) ?_)))
  refine Kq rfl (rd_geq rfl rfl rfl) (Km rfl ?_)
  refine Nb 19 rfl (fun hg19 => ?_) (fun hg19 => ?_)
  ·(try simp only [sB] at hg19)
   refine Kq rfl (Fa (q := 2) rfl rfl u66 rfl rfl) (Kq rfl (Ld rfl rfl .tc u3) ?_)
   refine Kq rfl (rd_leq rfl rfl rfl) (Kq rfl (Rp rfl rfl rfl) (Ka rfl (Nt (Ce ?_))))
   exact R1 rfl rfl (by (rw [show decide (goodT t) = decide (t.at_ ≤ 2147483647) from decide_eq_decide.2 ⟨fun h => h.2.1, fun h => ⟨by omega, h, hok⟩⟩]; rfl))
  ·(try simp only [sB] at hg19)
   refine Kt rfl (Kt rfl (Kt rfl (Kq rfl (Rq rfl rfl rfl) (Ka rfl (Nt (Ce ?_))))))
   exact R1 rfl rfl (by (rw [decide_eq_false (show ¬ goodT t from fun h => by have := h.1; omega)]; rfl))
abbrev TabD (w : World) : Prop := Go.Proofs.TabAt (renTz.g 1) Lib.deBruijn64tab w
theorem tabd_below {w w' : World} (h : TabD w) (hb : Below w.heap.size w w') : TabD w' := by
 intro j hj
 have h1 := h j hj
 have hlt : renTz.g 1 < w.heap.size := by
  rcases Nat.lt_or_ge (renTz.g 1) w.heap.size with q | q
  ·exact q
  ·unfold World.cell? at h1; rw [Array.getElem?_eq_none q] at h1; cases h1
 unfold World.cell? at h1 ⊢
 rw [hb.block _ hlt]; exact h1
theorem tabd_st {ok : Nat → Prop} {w0 w : World} {own : List Ent} {fs : List Fact} (h : TabD w0) (hS : St ok w0 own fs w) : TabD w := tabd_below h hS.below
theorem ctz_tzA : ∀ (f n : Nat), Lib.ctzFrom f n = tzA f n
 | 0, _ => rfl
 | f + 1, n => by
  rw [Lib.ctzFrom, tzA, ctz_tzA f]
  by_cases h : n % 2 = 1
  ·rw [if_pos h, if_neg (by omega)]
  ·rw [if_neg h, if_pos (by omega), Nat.add_comm]
theorem ctz_tz {n : Nat} (h : 0 < n) : Lib.ctz 64 n = tz n := by rw [Lib.ctz, if_neg (by omega), ctz_tzA]; rfl
theorem tz_c {n : Nat} {w : World} (hn0 : 0 < n) (hn : n < 18446744073709551616) (hD : TabD w) :
  Cw 226 #[.int .u64 (n : Int)] w (.int .i64 ((tz n : Nat) : Int)) :=
 (tz_any n hn w (fun _ => hD)).mono fun _ _ ⟨h1, h2⟩ => ⟨by rw [h1, ctz_tz hn0], by rw [h2]; exact Below.refl _ _⟩
theorem pmul_c {a b m : Nat} {w : World} (ha : a < m) (hb : b < m) (hm : m < 18446744073709551616) :
  Cw 228 #[.int .u64 (a : Int), .int .u64 (b : Int), .int .u64 (m : Int)] w (.int .u64 ((a * b % m : Nat) : Int)) := by
 have hml : a * b < m * 18446744073709551616 := Nat.mul_lt_mul'' ha (Nat.lt_trans hb hm)
 have hhi : a * b / 18446744073709551616 < m := by rw [Nat.div_lt_iff_lt_mul (by decide)]; exact hml
 have hlo : a * b % 18446744073709551616 < 18446744073709551616 := Nat.mod_lt _ (by decide)
 have hd : a * b / 18446744073709551616 * 18446744073709551616 + a * b % 18446744073709551616 = a * b := by rw [Nat.mul_comm]; exact Nat.div_add_mod _ _
 refine En [] [(0, .int .u64 (a : Int)), (1, .int .u64 (b : Int)), (2, .int .u64 (m : Int))] Tryz.func228 rfl Tryz.ntmps228 rfl (Ac rfl (Ac rfl (Ac rfl (An _)))) Fn ?_
 refine Cs (Ka rfl (Nt (Cs (Km rfl (Km rfl ?_)))))
 refine Ku rfl (Oc rfl rfl (Kv fun w hS => mul64_c (x := a) (y := b) (by omega) (by omega))) ?_
 refine Km rfl (Kq rfl (Re rfl rfl rfl) (Kq rfl (Re rfl rfl rfl) (Ka rfl (Ka rfl (Nt (Cs (Km rfl (Km rfl (Km rfl ?_)))))))))
 refine Ku rfl (Oc rfl rfl (Kv fun w hS => div64_c (u := a * b / 18446744073709551616) (lo := a * b % 18446744073709551616) (y := m) (by assumption) (by assumption) (by assumption))) ?_
 refine Km rfl (Kq rfl (Re rfl rfl rfl) (Kq rfl (Re rfl rfl rfl) (Ka rfl (Ka rfl (Nt (Cs (Km rfl (Ka rfl (Nt (Ce ?_))))))))))
 exact R1 rfl rfl (by rw [hd]; rfl)
theorem ppow_c {a e0 m : Nat} {w : World} (ha : a < m) (he : e0 < 18446744073709551616) (hm : m < 18446744073709551616) :
  Cw 227 #[.int .u64 (a : Int), .int .u64 (e0 : Int), .int .u64 (m : Int)] w (.int .u64 ((a ^ e0 % m : Nat) : Int)) := by
 have hm0 : 0 < m := by omega
 refine En [] [(0, .int .u64 (a : Int)), (1, .int .u64 (e0 : Int)), (2, .int .u64 (m : Int))] Tryz.func227 rfl Tryz.ntmps227 rfl (Ac rfl (Ac rfl (Ac rfl (An _)))) Fn ?_
 refine Cs (Ka rfl (Nt (Cs (Km rfl ?_))))
 refine Kq rfl (rd_remW (a := 1) rfl rfl rfl ?_) ?_
 ·assumption
 refine Ka rfl (Nt (Cq (Cb ?_)))
 refine Lp (σ := Nat × Nat × Nat) [(2, _)] (fun gq => [(0, .int .u64 (gq.2.1 : Int)), (1, .int .u64 (gq.1 : Int)), (7, .int .u64 (gq.2.2 : Int))]) (fun gq => gq.1 < 18446744073709551616 ∧ gq.2.1 < m ∧ gq.2.2 < m ∧ gq.2.2 * gq.2.1 ^ gq.1 % m = a ^ e0 % m) (fun gq => gq.1) (e0, a, 1 % m) (S1 rfl) (S3 rfl rfl rfl) (by (try dsimp only); exact ⟨he, ha, Nat.mod_lt _ hm0, by rw [mml, Nat.one_mul]⟩) ?_
 rintro ⟨n, b, x⟩ hinv1; (try dsimp only at hinv1 ⊢)
 obtain ⟨hn, hb, hx, hi⟩ := hinv1
 refine Cq (Cs (Km rfl (Kq rfl (rd_gtr rfl rfl rfl) (Nt ?_))))
 refine Cd rfl (fun hc11 => ?_) (fun hc11 => ?_)
 ·(try simp only [sB] at hc11)
  have hnp : 0 < n := by omega
  refine Ck (Xa (Cq (Cb (Cq (Cs (Km rfl ?_))))))
  refine Kq rfl (rd_remW (c := 2) rfl rfl rfl ?_) ?_
  ·omega
  refine Kq rfl (rd_eql rfl rfl rfl) (Nt ?_)
  refine Cd rfl (fun hc16 => ?_) (fun hc16 => ?_)
  ·(try simp only [sB] at hc16)
   refine Cg (Km rfl (Km rfl (Km rfl ?_)))
   refine Ku rfl (Oc rfl rfl (Kv fun w hS => pmul_c (a := x) (b := b) (m := m) (by assumption) (by assumption) (by assumption))) ?_
   refine Ka rfl (Nt (Cg (Km rfl (Km rfl (Km rfl ?_)))))
   refine Ku rfl (Oc rfl rfl (Kv fun w hS => pmul_c (a := b) (b := b) (m := m) (by assumption) (by assumption) (by assumption))) ?_
   refine Ka rfl (Nn (Xd (Xa (Cg (Km rfl ?_)))))
   refine Kq rfl (rd_quoW (c := 2) rfl rfl rfl ?_) ?_
   ·omega
   refine Ka rfl (Nn ?_)
   refine Ly ((n / 2, b * b % m, x * b % m)) (by (try dsimp only); omega) (S1 rfl) (by refine (Sc ?_ (Sc ?_ (Sc ?_ (S0 _)))) <;> (rfl)) ?_ (by (exact fun _ h => h))
   (try dsimp only)
   exact ⟨by omega, Nat.mod_lt _ hm0, Nat.mod_lt _ hm0, by rw [pow_low1 (by omega) hnp, hi]⟩
  ·(try simp only [sB] at hc16)
   refine Ck (Xa (Cg (Km rfl (Km rfl (Km rfl ?_)))))
   refine Ku rfl (Oc rfl rfl (Kv fun w hS => pmul_c (a := b) (b := b) (m := m) (by assumption) (by assumption) (by assumption))) ?_
   refine Ka rfl (Nn (Xd (Xa (Cg (Km rfl ?_)))))
   refine Kq rfl (rd_quoW (c := 2) rfl rfl rfl ?_) ?_
   ·omega
   refine Ka rfl (Nn ?_)
   refine Ly ((n / 2, b * b % m, x)) (by (try dsimp only); omega) (S1 rfl) (by refine (Sc ?_ (Sc ?_ (Sc ?_ (S0 _)))) <;> (rfl)) ?_ (by (exact fun _ h => h))
   (try dsimp only)
   exact ⟨by omega, Nat.mod_lt _ hm0, hx, by rw [pow_low0 (by omega), hi]⟩
 ·(try simp only [sB] at hc11)
  refine Cx (Xc (Xc (Xe ?_)))
  obtain rfl : n = 0 := by omega
  rw [Nat.pow_zero, Nat.mul_one, Nat.mod_eq_of_lt hx] at hi
  refine Xa (Cs (Km rfl (Ka rfl (Nt (Ce ?_)))))
  exact R1 rfl rfl (by rw [hi]; rfl)
theorem pbases_c {w : World} :
  Cw 225 #[] w (.agg (ps12.map vU).toArray) := by
 refine En [] [] Tryz.func225 rfl Tryz.ntmps225 rfl (An _) Fn ?_
 refine Cs ?_
 refine Kh rfl (Oz [.int .u64 0, .int .u64 0, .int .u64 0, .int .u64 0, .int .u64 0, .int .u64 0, .int .u64 0, .int .u64 0, .int .u64 0, .int .u64 0, .int .u64 0, .int .u64 0] rfl) ?_
 intro b0
 refine Nt (Cs ?_)
 refine Kq rfl (rd_build rfl rfl (v := .agg #[.int .u64 2, .int .u64 3, .int .u64 5, .int .u64 7, .int .u64 11, .int .u64 13, .int .u64 17, .int .u64 19, .int .u64 23, .int .u64 29, .int .u64 31, .int .u64 37]) (fun w => by kernel_rfl)) ?_
 refine Nu rfl rfl (Sa rfl rfl rfl .tc) ?_
 refine Nt (Ce ?_)
 exact WX.ret1c (cs := ps12.map vU) rfl rfl .here u236 rfl (by kernel_rfl) fun w' hS => ⟨rfl, hS.below⟩
theorem pis_c {n : Nat} {w : World} (hn : n < 18446744073709551616) (hD : TabD w) :
  Cw 202 #[.int .u64 (n : Int)] w (.bool (isP n)) := by
 refine En [] [(0, .int .u64 (n : Int))] Tryz.func202 rfl Tryz.ntmps202 rfl (Ac rfl (An _)) Fn ?_
 refine Cs (Ka rfl (Nt ?_))
 refine WC.scope ?_
 refine Cq (Cs (Km rfl (Kq rfl (rd_lss rfl rfl rfl) (Nt ?_))))
 refine Cd rfl (fun hc12 => ?_) (fun hc12 => ?_)
 ·(try simp only [sB] at hc12)
  refine Cs (Ka rfl (Nt (Ce (Xb ?_))))
  refine WX.scope_ret ?_
  exact R1 rfl rfl (by rw [isP, if_pos (by omega)]; rfl)
 ·(try simp only [sB] at hc12)
  have hn2 : ¬ n < 2 := by omega
  refine Ck (Xa (Cq (Cs ?_)))
  refine Ku rfl (Oc rfl rfl (Kv fun w hS => pbases_c)) ?_
  refine Km rfl (Nt (Cb ?_))
  refine Lp (σ := Nat) [(0, _), (13, _)] (fun gq => [(14, .int .i64 (gq : Int))]) (fun gq => gq ≤ 12 ∧ tdiv n (ps12.drop gq) = tdiv n ps12) (fun gq => 12 - gq) (0) (S2 rfl rfl) (S1 rfl) (by (try dsimp only); exact ⟨by omega, rfl⟩) ?_
  rintro k hinv1; (try dsimp only at hinv1 ⊢)
  obtain ⟨hk, htd⟩ := hinv1
  refine Cs (Kq rfl (rd_lss rfl rfl rfl) (Nt (Cq ?_)))
  refine Cd rfl (fun hc15 => ?_) (fun hc15 => ?_)
  ·(try simp only [sB] at hc15)
   have hk12 : k < 12 := by omega
   have hpb := pk_bd hk12
   rw [tdiv_drop n hk12] at htd
   refine Ck (Xa (Cq (Cb (Cs ?_))))
   refine Kq rfl (rd_aidx rfl rfl rfl u236 u74 rfl (by kernel_rfl) ?_ (by (rw [Int.toNat_natCast]; exact pk_cell hk12))) ?_
   ·omega
   refine Ka rfl (Nt (Cs (Km rfl (Km rfl ?_))))
   refine Kq rfl (rd_remW rfl rfl rfl ?_) ?_
   ·omega
   refine Kq rfl (rd_eql rfl rfl rfl) (Nt ?_)
   refine Cd rfl (fun hc20 => ?_) (fun hc20 => ?_)
   ·(try simp only [sB] at hc20)
    rw [if_pos (by omega)] at htd
    refine Cs (Km rfl (Km rfl (Kq rfl (rd_eql rfl rfl rfl) (Ka rfl (Nt (Ce (Xf (Xb (Xb (Xf (Xb ?_)))))))))))
    refine WX.scope_ret ?_
    exact R1 rfl rfl (by rw [isP_some hn2 htd.symm]; exact congrArg Ending.returned (congrArg Value.bool (decide_eq_decide.2 (by omega))))
   ·(try simp only [sB] at hc20)
    rw [if_neg (by omega)] at htd
    refine Ck (Xd (Xa (Cg (Kq rfl (Rz rfl rfl rfl (by omega)) (Km rfl (Nn ?_))))))
    refine Ly (k + 1) (by (try dsimp only); omega) (S2 rfl rfl) (by refine (Sc ?_ (S0 _)) <;> (rfl)) ?_ (by (exact fun _ h => h))
    (try dsimp only)
    exact ⟨by omega, htd⟩
  ·(try simp only [sB] at hc15)
   refine Cx (Xc (Xc (Xe ?_)))
   obtain rfl : k = 12 := by omega
   have hno : tdiv n ps12 = none := htd.symm
   have hodd := tdiv_none hno 2 (by decide)
   have htp := tz_pos (n := n - 1) (by omega)
   have htl := tz_le (n - 1)
   obtain ⟨s, hs⟩ : ∃ s, s = tz (n - 1) := ⟨_, rfl⟩
   obtain ⟨d, hd⟩ : ∃ d, d = (n - 1) / 2 ^ s := ⟨_, rfl⟩
   have hdn : d < 18446744073709551616 := by rw [hd]; exact Nat.lt_of_le_of_lt (Nat.div_le_self _ _) (by omega)
   have hst : ∀ a, stN n a = strN n a s d := fun a => by rw [hd, hs]; rfl
   refine Xa (Cs (Km rfl (Kq rfl (rd_subW (c := 1) rfl rfl rfl (by omega)) ?_)))
   refine Ku rfl (Oc rfl rfl (Kv fun w hS => tz_c (n := n - 1) (by omega) (by omega) (by (exact tabd_st hD hS)))) ?_
   refine Ns 27 rfl (v' := .int .i64 ((s : Nat) : Int)) (congrArg (Value.int .i64) (by rw [hs])) ?_
   refine Ka rfl (Nt (Cs (Km rfl (Kq rfl (rd_subW (c := 1) rfl rfl rfl (by omega)) (Km rfl ?_)))))
   refine Kq rfl (rd_shrW rfl rfl rfl (by (show _ ≤ 64; omega))) ?_
   refine Ns 31 rfl (v' := .int .u64 ((d : Nat) : Int)) (congrArg (Value.int .u64) (by rw [hd])) ?_
   refine Ka rfl (Nt (Cq ?_))
   refine WC.label ?_
   refine Xa (Cq (Cs ?_))
   refine Ku rfl (Oc rfl rfl (Kv fun w hS => pbases_c)) ?_
   refine Km rfl (Nt (Cb ?_))
   refine Lp (σ := Nat) [(0, _), (5, _), (6, _), (32, _)] (fun gq => [(33, .int .i64 (gq : Int))]) (fun gq => gq ≤ 12 ∧ (ps12.drop gq).all (stN n) = ps12.all (stN n)) (fun gq => 12 - gq) (0) (S4 rfl rfl rfl rfl) (S1 rfl) (by (try dsimp only); exact ⟨by omega, rfl⟩) ?_
   rintro j hinv2; (try dsimp only at hinv2 ⊢)
   obtain ⟨hj, hall⟩ := hinv2
   refine Cs (Kq rfl (rd_lss rfl rfl rfl) (Nt (Cq ?_)))
   refine Cd rfl (fun hc34 => ?_) (fun hc34 => ?_)
   ·(try simp only [sB] at hc34)
    have hj12 : j < 12 := by omega
    have hjb := pk_bd hj12
    rw [all_drop _ hj12] at hall
    have hjn : pk j % n < n := Nat.mod_lt _ (by omega)
    obtain ⟨x0, hx0⟩ : ∃ x, x = pk j ^ d % n := ⟨_, rfl⟩
    have hpx : (pk j % n) ^ d % n = x0 := by rw [hx0]; exact (Nat.pow_mod (pk j) d n).symm
    have hxl : x0 < n := by rw [hx0]; exact Nat.mod_lt _ (by omega)
    have hsj : stN n (pk j) = (decide (x0 = 1) || sqs n s x0) := by rw [hst, strN, ← hx0]
    refine Ck (Xa (Cq (Cb (Cs ?_))))
    refine Kq rfl (rd_aidx rfl rfl rfl u236 u74 rfl (by kernel_rfl) ?_ (by (rw [Int.toNat_natCast]; exact pk_cell hj12))) ?_
    ·omega
    refine Ka rfl (Nt (Cs (Km rfl (Km rfl ?_))))
    refine Kq rfl (rd_remW rfl rfl rfl ?_) ?_
    ·omega
    refine Km rfl (Km rfl ?_)
    refine Ku rfl (Oc rfl rfl (Kv fun w hS => ppow_c (a := pk j % n) (e0 := d) (m := n) (by assumption) (by assumption) (by assumption))) ?_
    refine Ns 41 rfl (v' := .int .u64 ((x0 : Nat) : Int)) (congrArg (Value.int .u64) (by rw [hpx])) ?_
    refine Ka rfl (Nt (Cq (Cs (Km rfl (Kq rfl (rd_eql rfl rfl rfl) (Km rfl ?_))))))
    refine Nb 44 rfl (fun hg44 => ?_) (fun hg44 => ?_)
    ·(try simp only [sB] at hg44)
     refine Kt rfl (Kt rfl (Kt rfl (Kt rfl (Kq rfl (Rp rfl rfl rfl) (Nt ?_)))))
     refine Cd rfl (fun _ => ?_) (fun h => by cases h)
     have hstr : stN n (pk j) = true := by rw [hsj, decide_eq_true (by omega)]; rfl
     refine Cx (Xc (Xe (Xa (Cg (Kq rfl (Rz rfl rfl rfl (by omega)) (Km rfl (Nn ?_)))))))
     refine Ly (j + 1) (by (try dsimp only); omega) (S4 rfl rfl rfl rfl) (by refine (Sc ?_ (S0 _)) <;> (rfl)) ?_ (by (exact fun _ h => h))
     (try dsimp only)
     exact ⟨by omega, by rw [← hall, hstr, Bool.true_and]⟩
    ·(try simp only [sB] at hg44)
     refine Km rfl (Km rfl (Kq rfl (rd_subW (c := 1) rfl rfl rfl (by omega)) (Kq rfl (rd_eql rfl rfl rfl) (Kq rfl (Rq rfl rfl rfl) (Nt ?_)))))
     refine Cd rfl (fun hc49 => ?_) (fun hc49 => ?_)
     ·(try simp only [sB] at hc49)
      have hstr : stN n (pk j) = true := by rw [hsj, sqs_hit (by omega) (by omega), Bool.or_true]
      refine Cx (Xc (Xe (Xa (Cg (Kq rfl (Rz rfl rfl rfl (by omega)) (Km rfl (Nn ?_)))))))
      refine Ly (j + 1) (by (try dsimp only); omega) (S4 rfl rfl rfl rfl) (by refine (Sc ?_ (S0 _)) <;> (rfl)) ?_ (by (exact fun _ h => h))
      (try dsimp only)
      exact ⟨by omega, by rw [← hall, hstr, Bool.true_and]⟩
     ·(try simp only [sB] at hc49)
      have hx1 : ¬ x0 = 1 := by omega
      have hxm : x0 ≠ n - 1 := by omega
      rw [decide_eq_false hx1, Bool.false_or] at hsj
      refine Ck (Xa (Cq (Cs (Ka rfl (Nt (Cb ?_))))))
      refine Lp (σ := Nat × Nat) [(0, _), (5, _), (6, _), (32, _), (33, _)] (fun gq => [(10, .int .i64 (gq.1 : Int)), (9, .int .u64 (gq.2 : Int))]) (fun gq => 1 ≤ gq.1 ∧ gq.1 ≤ s ∧ gq.2 < n ∧ gq.2 ≠ n - 1 ∧ sqs n (s - gq.1 + 1) gq.2 = sqs n s x0) (fun gq => s - gq.1) (1, x0) (S5 rfl rfl rfl rfl rfl) (S2 rfl rfl) (by (try dsimp only); exact ⟨by omega, by omega, hxl, hxm, by rw [Nat.sub_add_cancel (by omega)]⟩) ?_
      rintro ⟨i, x⟩ hinv3; (try dsimp only at hinv3 ⊢)
      obtain ⟨hi1, his, hxn, hxm1, hsq⟩ := hinv3
      refine Cq (Cs (Km rfl (Km rfl (Kq rfl (rd_lss rfl rfl rfl) (Nt ?_)))))
      refine Cd rfl (fun hc52 => ?_) (fun hc52 => ?_)
      ·(try simp only [sB] at hc52)
       rw [sqs_miss (by omega) hxm1, Nat.add_sub_cancel] at hsq
       have hx2 : x * x % n < n := Nat.mod_lt _ (by omega)
       refine Ck (Xa (Cq (Cb (Cs (Km rfl (Km rfl (Km rfl ?_)))))))
       refine Ku rfl (Oc rfl rfl (Kv fun w hS => pmul_c (a := x) (b := x) (m := n) (by assumption) (by assumption) (by assumption))) ?_
       refine Ka rfl (Nt (Cs (Km rfl (Km rfl (Kq rfl (rd_subW (c := 1) rfl rfl rfl (by omega)) (Kq rfl (rd_eql rfl rfl rfl) (Nt ?_)))))))
       refine Cd rfl (fun hc62 => ?_) (fun hc62 => ?_)
       ·(try simp only [sB] at hc62)
        have hstr : stN n (pk j) = true := by rw [hsj, ← hsq]; exact sqs_hit (by omega) (by omega)
        refine Cx ?_
        refine WX.block_other rfl ?_
        refine Xc (Xc ?_)
        refine WX.block_other rfl ?_
        refine Xc (Xe (Xa (Cg (Kq rfl (Rz rfl rfl rfl (by omega)) (Km rfl (Nn ?_))))))
        refine Ly (j + 1) (by (try dsimp only); omega) (S4 rfl rfl rfl rfl) (by refine (Sc ?_ (S0 _)) <;> (rfl)) ?_ (by (exact fun _ h => h))
        (try dsimp only)
        exact ⟨by omega, by rw [← hall, hstr, Bool.true_and]⟩
       ·(try simp only [sB] at hc62)
        refine Ck (Xd (Xa (Cg (Km rfl (Kq rfl (Rz rfl rfl rfl (by omega)) (Ka rfl (Nn ?_)))))))
        refine Ly ((i + 1, x * x % n)) (by (try dsimp only); omega) (S5 rfl rfl rfl rfl rfl) (by refine (Sc ?_ (Sc ?_ (S0 _))) <;> (rfl)) ?_ (by (exact fun _ h => h))
        (try dsimp only)
        exact ⟨by omega, by omega, hx2, by omega, by rw [← hsq, show s - (i + 1) + 1 = s - i by omega]⟩
      ·(try simp only [sB] at hc52)
       refine Cx (Xc (Xc (Xe ?_)))
       have hstr : stN n (pk j) = false := by rw [hsj, ← hsq, show s - i = 0 by omega, sqs_miss (by omega) hxm1]; rfl
       refine Xa (Cs (Ka rfl (Nt (Ce (Xf (Xb (Xb (Xf (Xb ?_)))))))))
       refine WX.scope_ret ?_
       exact R1 rfl rfl (by rw [isP_none hn2 hno, ← hall, hstr]; rfl)
   ·(try simp only [sB] at hc34)
    refine Cx (Xc (Xc (Xe ?_)))
    obtain rfl : j = 12 := by omega
    refine Xa (Cs (Ka rfl (Nt (Ce ?_))))
    refine WX.scope_ret ?_
    exact R1 rfl rfl (by rw [isP_none hn2 hno, ← hall]; rfl)
theorem smallN_lt (a : Bs) : (smallN a).1 < 18446744073709551616 := by
 rw [smallN]; split
 ·rename_i h; exact val_8 h.2
 ·decide
def primeS (a : Bs) : Bool × Int := if ¬ okN a then (false, 3) else if 8 < a.length then (false, 5) else (isP (val a), 0)
def errS (a : Bs) : Int := if okN a then if 8 < a.length then 5 else 0 else 3
theorem primeS_ok {a : Bs} (h : errS a = 0) : primeS a = (isP (smallN a).1, 0) := by
 unfold errS at h; split at h
 ·rename_i h1; split at h
  ·simp at h
  ·rename_i h2; rw [primeS, if_neg (fun h => h h1), if_neg h2, smallN, if_pos ⟨h1, by omega⟩]
 ·simp at h
theorem primeS_no {a : Bs} (h : ¬ errS a = 0) : primeS a = (false, errS a) := by
 by_cases h1 : okN a
 ·by_cases h2 : 8 < a.length
  ·rw [primeS, if_neg (fun h => h h1), if_pos h2, errS, if_pos h1, if_pos h2]
  ·exact absurd (by rw [errS, if_pos h1, if_neg h2]) h
 ·rw [primeS, if_pos h1, errS, if_neg h1]
theorem prime_ok {a : Bs} (h : okN a) (h8 : a.length ≤ 8) : primeS a = (isP (val a), 0) := by rw [primeS, if_neg (fun h1 => h1 h), if_neg (by omega)]
theorem psmall_c {a : Bs} {w : World} :
  Cw 201 #[.string (S a)] w (.tuple #[.int .u64 ((smallN a).1 : Int), .int .i64 (errS a)]) := by
 refine En [] [(0, .string (S a))] Tryz.func201 rfl Tryz.ntmps201 rfl (Ac rfl (An _)) Fn ?_
 refine Cs (Ka rfl (Ka rfl (Nt (Cq (Cs (Km rfl ?_))))))
 refine Ku rfl (Oc rfl rfl (Kv fun w hS => valid_c (a := a))) ?_
 refine Kq rfl (Rt rfl rfl) (Nt ?_)
 refine Cd rfl (fun hc8 => ?_) (fun hc8 => ?_)
 ·(try simp only [sB] at hc8)
  refine Cs (Ka rfl (Ka rfl (Nt (Ce (Xb ?_)))))
  exact R2 rfl rfl rfl (by rw [smallN, if_neg (fun h => hc8 h.1), errS, if_neg hc8]; rfl)
 ·(try simp only [sB] at hc8)
  have hok : okN a := by simpa using hc8
  have hal := hok.1
  refine Ck (Xa (Cs (Km rfl ?_)))
  refine Ku rfl (Oc rfl rfl (Kv fun w hS => small_c (a := a) (by omega))) ?_
  refine Km rfl (Kq rfl (Re rfl rfl rfl) (Kq rfl (Re rfl rfl rfl) (Ka rfl (Ka rfl (Nt (Cq (Cs (Km rfl (Kq rfl (Rt rfl rfl) (Nt ?_))))))))))
  refine Cd rfl (fun hc15 => ?_) (fun hc15 => ?_)
  ·(try simp only [sB] at hc15)
   have h8 : ¬ a.length ≤ 8 := fun h => by simp [smallN, hok, h] at hc15
   refine Cs (Ka rfl (Ka rfl (Nt (Ce (Xb ?_)))))
   exact R2 rfl rfl rfl (by rw [smallN, if_neg (fun h => h8 h.2), errS, if_pos hok, if_pos (by omega)]; rfl)
  ·(try simp only [sB] at hc15)
   have h8 : a.length ≤ 8 := Decidable.byContradiction fun h => by simp [smallN, hok, h] at hc15
   refine Ck (Xa (Cs (Km rfl (Ka rfl (Ka rfl (Nt (Ce ?_)))))))
   exact R2 rfl rfl rfl (by rw [errS, if_pos hok, if_neg (by omega)]; rfl)
theorem prime_c {a : Bs} {w : World} (hD : TabD w) :
  Cw 163 #[.string (S a)] w (.tuple #[.bool (primeS a).1, .int .i64 (primeS a).2]) := by
 have hsl := smallN_lt a
 refine En [] [(0, .string (S a))] Tryz.func163 rfl Tryz.ntmps163 rfl (Ac rfl (An _)) Fn ?_
 refine Cs (Ka rfl (Ka rfl (Nt (Cs (Km rfl ?_)))))
 refine Ku rfl (Oc rfl rfl (Kv fun w hS => psmall_c (a := a))) ?_
 refine Km rfl (Kq rfl (Re rfl rfl rfl) (Kq rfl (Re rfl rfl rfl) (Ka rfl (Ka rfl (Nt (Cs (Km rfl (Kq rfl (rd_eql rfl rfl rfl) (Km rfl ?_)))))))))
 refine Nb 13 rfl (fun hg13 => ?_) (fun hg13 => ?_)
 ·(try simp only [sB] at hg13)
  refine Km rfl ?_
  refine Ku rfl (Oc rfl rfl (Kv fun w hS => pis_c (n := (smallN a).1) (by assumption) (by (exact tabd_st hD hS)))) ?_
  refine Kq rfl (Rp rfl rfl rfl) (Km rfl (Ka rfl (Ka rfl (Nt (Ce ?_)))))
  exact R2 rfl rfl rfl (by (rw [primeS_ok hg13, hg13]; rfl))
 ·(try simp only [sB] at hg13)
  refine Kt rfl (Kt rfl (Kq rfl (Rq rfl rfl rfl) (Km rfl (Ka rfl (Ka rfl (Nt (Ce ?_)))))))
  exact R2 rfl rfl rfl (by (rw [primeS_no hg13]; rfl))
end Go.Proofs.YthkmpjobfdeoaaaGreatDoor
