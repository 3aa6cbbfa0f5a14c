/-
  Parts of the walk: Ric Kew Icc Ick Icw Lin5 Lin6 Eqt.
-/
import Derived.Test.YtmkghgoibnncbaaGreatDoorY16
namespace Go.Proofs.YtmkghgoibnncbaaGreatDoor
open Go.RowKit
set_option linter.unusedSimpArgs false
set_option linter.unusedVariables false
set_option maxHeartbeats 600000
set_option maxRecDepth 20000
theorem icform_c {k : PK} {w : World} :
  Cw 94 #[pkV k] w (.bool (decide (okK k))) := by
 refine En [] [(0, pkV k)] Tryz.func94 rfl Tryz.ntmps94 rfl (Ac rfl (An _)) Fn ?_
 refine Cs ?_
 refine Kh rfl (Oy rfl rfl) ?_
 intro b1
 refine Ka rfl (Nt (Cs (Kq rfl (Fa (q := 0) rfl rfl u86 rfl rfl) (Kq rfl (Fa (q := 0) rfl rfl u24 rfl rfl) (Kq rfl (Ld rfl rfl .tc u22) ?_)))))
 refine Ku rfl (Oc rfl rfl (Kv fun w hS => rvalid_c (a := k.1.1))) ?_
 refine Km rfl ?_
 refine Nb 7 rfl (fun hg7 => ?_) (fun hg7 => ?_)
 ·(try simp only [sB] at hg7)
  refine Kq rfl (Fa (q := 0) rfl rfl u86 rfl rfl) (Kq rfl (Fa (q := 1) rfl rfl u24 rfl rfl) (Kq rfl (Ld rfl rfl .tc u22) ?_))
  refine Ku rfl (Oc rfl rfl (Kv fun w hS => rvalid_c (a := k.1.2))) ?_
  refine Kq rfl (Rp rfl rfl rfl) (Km rfl ?_)
  refine Nb 13 rfl (fun hg13 => ?_) (fun hg13 => ?_)
  ·(try simp only [sB] at hg13)
   refine Kq rfl (Fa (q := 2) rfl rfl u86 rfl rfl) (Kq rfl (Ld rfl rfl .tc u22) ?_)
   refine Ku rfl (Oc rfl rfl (Kv fun w hS => rvalid_c (a := k.2.1))) ?_
   refine Kq rfl (Rp rfl rfl rfl) (Km rfl ?_)
   refine Nb 18 rfl (fun hg18 => ?_) (fun hg18 => ?_)
   ·(try simp only [sB] at hg18)
    refine Kq rfl (Fa (q := 3) rfl rfl u86 rfl rfl) (Kq rfl (Ld rfl rfl .tc u22) ?_)
    refine Ku rfl (Oc rfl rfl (Kv fun w hS => rvalid_c (a := k.2.2))) ?_
    refine Kq rfl (Rp rfl rfl rfl) (Ka rfl (Nt (Ce ?_)))
    exact R1 rfl rfl (by simp [*, tup, okK])
   ·(try simp only [sB] at hg18)
    refine Kt rfl (Kt rfl (Kt rfl (Kq rfl (Rq rfl rfl rfl) (Ka rfl (Nt (Ce ?_))))))
    exact R1 rfl rfl (by simp [*, tup, okK])
  ·(try simp only [sB] at hg13)
   refine Kt rfl (Kt rfl (Kt rfl (Kq rfl (Rq rfl rfl rfl) (Km rfl (Kt rfl (Kt rfl (Kt rfl (Kq rfl (Rq rfl rfl rfl) (Ka rfl (Nt (Ce ?_)))))))))))
   exact R1 rfl rfl (by simp [*, tup, okK])
 ·(try simp only [sB] at hg7)
  refine Kt rfl (Kt rfl (Kt rfl (Kt rfl (Kq rfl (Rq rfl rfl rfl) (Km rfl (Kt rfl (Kt rfl (Kt rfl (Kq rfl (Rq rfl rfl rfl) (Km rfl (Kt rfl (Kt rfl (Kt rfl (Kq rfl (Rq rfl rfl rfl) (Ka rfl (Nt (Ce ?_)))))))))))))))))
  exact R1 rfl rfl (by simp [*, tup, okK])
theorem rpdvalid_c {o : Opn} {w : World} :
  Cw 151 #[opV o] w (.bool (decide (okZ o.1 ∧ okZ o.2))) := by
 refine En [] [(0, opV o)] Tryz.func151 rfl Tryz.ntmps151 rfl (Ac rfl (An _)) Fn ?_
 refine Cs ?_
 refine Kh rfl (Oy rfl rfl) ?_
 intro b1
 refine Ka rfl (Nt (Cs (Kq rfl (Fa (q := 0) rfl rfl u92 rfl rfl) ?_)))
 refine Kq rfl (ldp rfl rfl .tc u64 rfl (by kernel_rfl : _ = some 2) (by rfl) (by rfl)) ?_
 refine Ku rfl (Oc rfl rfl (Kv fun w hS => rzvalid_c (x := o.1))) ?_
 refine Km rfl ?_
 refine Nb 6 rfl (fun hg6 => ?_) (fun hg6 => ?_)
 ·(try simp only [sB] at hg6)
  refine Kq rfl (Fa (q := 2) rfl rfl u92 rfl rfl) ?_
  refine Kq rfl (ldp rfl rfl .tc u64 rfl (by kernel_rfl : _ = some 2) (by rfl) (by rfl)) ?_
  refine Ku rfl (Oc rfl rfl (Kv fun w hS => rzvalid_c (x := o.2))) ?_
  refine Kq rfl (Rp rfl rfl rfl) (Ka rfl (Nt (Ce ?_)))
  exact R1 rfl rfl (by (simp [*, tup]; done))
 ·(try simp only [sB] at hg6)
  refine Kt rfl (Kt rfl (Kt rfl (Kq rfl (Rq rfl rfl rfl) (Ka rfl (Nt (Ce ?_))))))
  exact R1 rfl rfl (by (simp [*, tup]; done))
theorem rcommit_c {k : PK} {o : Opn} {w : World} (hm8 : k.1.1.length ≤ 8) :
  Cw 97 #[pkV k, opV o] w (NE (comS k o)) := by
 refine En [] [(0, pkV k), (1, opV o)] Tryz.func97 rfl Tryz.ntmps97 rfl (Ac rfl (Ac rfl (An _))) Fn ?_
 refine Cs ?_
 refine Kh rfl (Oy rfl rfl) ?_
 intro b2
 refine Kh rfl (Oy rfl rfl) ?_
 intro b3
 refine Ka rfl (Ka rfl (Nt (Cq ?_)))
 refine WC.joinP (σ := Unit) [(2, _), (3, _)] (fun gq => [(14, .bool (decide (¬ (okK k ∧ okZ o.1 ∧ okZ o.2))))]) (fun gq => True) (S2 rfl rfl) ?_ ?_
 ·skip
  refine Cg ?_
  refine Kq rfl (lda rfl rfl .tc u86 rfl ?_) ?_
  ·kernel_rfl
  refine Ku rfl (Oc rfl rfl (Kv fun w hS => rpdform_c (k := k))) ?_
  refine Kq rfl (Rt rfl rfl) (Km rfl ?_)
  refine Nb 10 rfl (fun hg10 => ?_) (fun hg10 => ?_)
  ·(try simp only [sB] at hg10)
   refine Kt rfl (Kt rfl (Kt rfl (Kq rfl (Rp rfl rfl rfl) (Nn ?_))))
   refine WX.joinP (()) (S2 rfl rfl) (by refine (Sc ?_ (S0 _)) <;> ((refine slot_b rfl ?_; (try dsimp only); (simp [*]; done)))) ?_ (by (exact fun _ h => h))
   (try dsimp only)
   done
  ·(try simp only [sB] at hg10)
   refine Kq rfl (lda rfl rfl .tc u92 rfl ?_) ?_
   ·kernel_rfl
   refine Ku rfl (Oc rfl rfl (Kv fun w hS => rpdvalid_c (o := o))) ?_
   refine Kq rfl (Rt rfl rfl) (Kq rfl (Rq rfl rfl rfl) (Nn ?_))
   refine WX.joinP (()) (S2 rfl rfl) (by refine (Sc ?_ (S0 _)) <;> ((refine slot_b rfl ?_; (try dsimp only); (simp [*]; done)))) ?_ (by (exact fun _ h => h))
   (try dsimp only)
   done
 ·rintro _ hmeet; (try dsimp only at hmeet ⊢)
  refine Cd rfl (fun hc14 => ?_) (fun hc14 => ?_)
  ·(try simp only [sB] at hc14)
   refine Cs (Ka rfl (Ka rfl (Nt (Ce (Xb ?_)))))
   exact R2 rfl rfl rfl (by rw [comS, if_pos hc14]; rfl)
  ·(try simp only [sB] at hc14)
   have hok : okK k ∧ okZ o.1 ∧ okZ o.2 := Decidable.not_not.1 hc14
   refine Ck (Xa (Cq (Cs ?_)))
   refine Kq rfl (lda rfl rfl .tc u86 rfl ?_) ?_
   ·kernel_rfl
   refine Ku rfl (Oc rfl rfl (Kv fun w hS => rpdcheck_c (k := k) (by assumption))) ?_
   refine Ka rfl (Nt (Cs (Km rfl (Kq rfl (rd_neq rfl rfl rfl) (Nt ?_)))))
   refine Cd rfl (fun hc18 => ?_) (fun hc18 => ?_)
   ·(try simp only [sB] at hc18)
    refine Cs (Km rfl (Ka rfl (Ka rfl (Nt (Ce (Xb ?_))))))
    exact R2 rfl rfl rfl (by rw [comS, if_neg (fun h => h hok), if_pos (by simpa using hc18)]; rfl)
   ·(try simp only [sB] at hc18)
    have hk : chkK k = 0 := by simpa using hc18
    refine Ck (Xa (Cs (Kq rfl (Fa (q := 0) rfl rfl u86 rfl rfl) ?_)))
    refine Kq rfl (ldp rfl rfl .tc u24 rfl (by kernel_rfl : _ = some 2) (by rfl) (by rfl)) ?_
    refine Kq rfl (Fa (q := 2) rfl rfl u86 rfl rfl) (Kq rfl (Ld rfl rfl .tc u22) ?_)
    refine Kq rfl (Fa (q := 3) rfl rfl u86 rfl rfl) (Kq rfl (Ld rfl rfl .tc u22) ?_)
    refine Kh rfl (og_bs1 rfl rfl u31 (by kernel_rfl : _ = some (some (.string (S [])), 1, 16)) rfl (by simp only [List.map]; rfl) rfl rfl ?_ (by decide)) ?_
    ·simp [Value.cells]
    intro b26
    refine Kq rfl (Fa (q := 0) rfl rfl u92 rfl rfl) ?_
    refine Kq rfl (ldp rfl rfl .tc u64 rfl (by kernel_rfl : _ = some 2) (by rfl) (by rfl)) ?_
    refine Kq rfl (Fa (q := 2) rfl rfl u92 rfl rfl) ?_
    refine Kq rfl (ldp rfl rfl .tc u64 rfl (by kernel_rfl : _ = some 2) (by rfl) (by rfl)) ?_
    refine Kh rfl (og_bsN rfl rfl u71 (by kernel_rfl : _ = some (some (.agg #[.bool false, .string (S [])]), 2, 24)) (by kernel_rfl) (by decide) rfl rfl (by (simp [Value.cells]; done)) (by (simp only [List.map, Value.cells, List.flatMap_cons, List.flatMap_nil, List.append_nil, List.toList_toArray]; rfl)) (by decide)) ?_
    intro b31
    refine Ku rfl (Oc rfl rfl (Kv fun w hS => rproduct_c (g := k.1) (l := [k.2.1, k.2.2]) (es := [o.1, o.2]) (by (exact hS.os)) (by (exact hS.os)) (by (simp <;> omega)) (by (simp <;> omega)) (by assumption))) ?_
    refine Kq rfl (Re rfl rfl rfl) (Kq rfl (Re rfl rfl rfl) (Ka rfl (Ka rfl (Nt (Ce ?_)))))
    exact R2 rfl rfl rfl (by rw [comS, if_neg (fun h => h hok), if_neg (fun h => h hk)]; rfl)
theorem icrnd1_c {x : Int} {w : World} :
  Cw 89 #[.int .i64 x] w (.tuple #[.string (S []), opV ((false, []), (false, [])), zeroT.v (.slice none 0 0), .int .i64 x]) := by
 refine En [] [(0, .int .i64 x)] Tryz.func89 rfl Tryz.ntmps89 rfl (Ac rfl (An _)) Fn ?_
 refine Cs (Ka rfl ?_)
 refine Kh rfl (Oz [.bool false, .string (S []), .bool false, .string (S [])] rfl) ?_
 intro b3
 refine Kh rfl (Oz [.slice none 0 0, .string (S []), .int .i64 0] rfl) ?_
 intro b4
 refine Ka rfl (Nt (Cs (Kq rfl (Kb [[.bool false, .string (S [])], [.bool false, .string (S [])]] rfl rfl) (Kq rfl (Kb [[.slice none 0 0], [.string (S [])], [.int .i64 0]] rfl rfl) (Km rfl (Ka rfl ?_))))))
 refine Nu rfl rfl (Sa rfl rfl rfl .tc) ?_
 refine Nu rfl rfl (Sa rfl rfl rfl .tc) ?_
 refine Ka rfl (Nt (Ce ?_))
 exact Rn rfl (.tmp rfl (.agg rfl .tc u92 rfl (by kernel_rfl) (.agg rfl .tc u33 rfl (by kernel_rfl) (.tmp rfl .nil)))) fun w' hS => ⟨by rfl, hS.below⟩
theorem new_nilK {w w' : World} {own : List Ent} {T : TypeId} {fs : List Fact} {ok : Nat → Prop} (h : St ok w own fs w') : St ok w [⟨none, [] ++ [], T⟩] [] w' := (h.nil T).sub (List.Sublist.cons_cons _ (List.nil_sublist _)) (fun _ h => by cases h)
def rokA (k : PK) (v : Bs) (t : Tp) : Prop := okK k ∧ okN v ∧ ∀ s ∈ t.vals, okN s
instance (k : PK) (v : Bs) (t : Tp) : Decidable (rokA k v t) := inferInstanceAs (Decidable (_ ∧ _))
theorem if3 {p : Prop} [Decidable p] : (!decide ((if p then (0 : Int) else 3) = 0)) = decide (¬ p) := by by_cases h : p <;> simp [h]
def rokK (k : PK) (m : Zs) (v : Bs) (t : Tp) : Prop := rokA k v t ∧ okZ m ∧ 0 ≤ t.at_ ∧ t.at_ ≤ 2147483647
theorem rok_iff {k : PK} {m : Zs} {v : Bs} {t : Tp} : rokK k m v t ↔ okK k ∧ okN v ∧ okZ m ∧ goodT t := by
 unfold rokK rokA goodT; constructor
 ·rintro ⟨⟨a, b, c⟩, d, e, f⟩; exact ⟨a, b, d, e, f, c⟩
 ·rintro ⟨a, b, d, e, f, c⟩; exact ⟨⟨a, b, c⟩, d, e, f⟩
theorem icrandom_c {k : PK} {m : Zs} {v : Bs} {t : Tp} {a : Option Addr} {cap : Nat} {w : World} {ok : Nat → Prop} (hF1 : (Fact.sl a (strs t.vals)).holds ok w) (hl : t.vals.length ≤ 90000) (hsd : t.seed.length ≤ 400000) (hm8 : k.1.1.length ≤ 8) (hT : Tab w) :
  Calls Tryz.prog 38 #[pkV k, zV m, .string (S v), t.v (.slice a t.vals.length cap)] w fun e w' => ∃ g : Rs, e = .returned (.tuple #[.string (S (rndS k m v t).1.1), opV (rndS k m v t).1.2.1, (rndS k m v t).1.2.2.v (g.val (rndS k m v t).1.2.2.vals.length), .int .i64 (rndS k m v t).2]) ∧ g.cap = (rndS k m v t).1.2.2.vals.length + g.sp.length ∧ St (fun _ => True) w [g.ent (strs (rndS k m v t).1.2.2.vals) 22] [] w' := by
 refine En [Fact.sl a (strs t.vals)] [(0, pkV k), (1, zV m), (2, .string (S v)), (3, t.v (.slice a t.vals.length cap))] Tryz.func38 rfl Tryz.ntmps38 rfl (Ac rfl (Ac rfl (Ac rfl (Ac rfl (An _))))) (Fc (fact_any hF1) Fn) ?_
 refine Cs ?_
 refine Kh rfl (Oy rfl rfl) ?_
 intro b4
 refine Kh rfl (Oy rfl rfl) ?_
 intro b5
 refine Kh rfl (Oy rfl rfl) ?_
 intro b7
 refine Ka rfl ?_
 refine Kh rfl (Oz [.bool false, .string (S []), .bool false, .string (S [])] rfl) ?_
 intro b9
 refine Kh rfl (Oz [.slice none 0 0, .string (S []), .int .i64 0] rfl) ?_
 intro b10
 refine Ka rfl (Nt (Cs (Ka rfl (Nt (Cq ?_)))))
 refine WC.joinP (σ := Unit) [(2, _), (4, _), (5, _), (7, _), (9, _), (10, _), (12, _)] (fun gq => [(42, .bool (decide (¬ (rokA k v t ∧ okZ m ∧ 0 ≤ t.at_ ∧ t.at_ ≤ 2147483647))))]) (fun gq => True) (S7 rfl rfl rfl rfl rfl rfl rfl) ?_ ?_
 ·skip
  refine Cf [0, 1, 2, 3, 4, 5, 6, 7, 8, 9, 10, 11, 12, 13, 14, 15, 16, 17, 18, 19, 20, 21, 22, 23, 24] [] [0, 1, 0, 3, 1, 0, 0, 1, 1, 0, 0, 0, 1, 0, 0, 0, 0, 0, 0, 0, 0, 0, 0, 0, 0] (by kernel_rfl) (by kernel_rfl) rfl ?_
  refine Kj rfl (lda rfl rfl .tc u86 rfl ?_) ?_
  ·kernel_rfl
  refine Jg rfl rfl rfl rfl rfl (fun ext => Oc rfl rfl (keep_o1J fun w hS => icnum_c (k := k))) ?_
  intro g19 hg19; (try dsimp only at hg19 ⊢)
  refine Kj rfl (Rm rfl rfl) ?_
  refine Jf rfl rfl rfl rfl rfl (fr_bs1 rfl rfl u31 (by kernel_rfl : _ = some (some (.string (S [])), 1, 16)) rfl (by simp only [List.map]; rfl) rfl rfl ?_ (by decide)) ?_
  ·simp [Value.cells]
  intro b21
  refine Jg rfl rfl rfl rfl rfl (appgJ rfl u31 (by kernel_rfl : _ = some (some (.string (S [])), 1, 16)) rfl .tc rfl rfl (fun ext w hS => by (exact hS.os)) (by rfl) (by (refine ⟨?_, ?_, ?_, ?_⟩ <;> (try simp) <;> omega)) (by (simp [Value.oneCell']; done))) ?_
  rintro ⟨o22, c22, s22⟩ hg22; (try dsimp only at hg22 ⊢)
  refine Kj rfl (Fa (q := 0) rfl rfl u33 rfl rfl) (Kj rfl (Ld rfl rfl .tc u31) ?_)
  refine Jg rfl rfl rfl rfl rfl (appgJ rfl u31 (by kernel_rfl : _ = some (some (.string (S [])), 1, 16)) rfl .tc rfl rfl (fun ext w hS => by (exact hS.sl)) (by simp) (by (refine ⟨?_, ?_, ?_, ?_⟩ <;> (try simp) <;> omega)) (by (simp [Value.oneCell']; done))) ?_
  rintro ⟨o25, c25, s25⟩ hg25; (try dsimp only at hg25 ⊢)
  refine WJ.set 25 rfl (v' := .slice (o25.map fun b => ⟨b, 0, none⟩) ([k.1.1, k.1.2, k.2.1, k.2.2, v] ++ t.vals).length c25) (by refine congrArg (fun q => Value.slice _ q _) ?_; (try simp); omega) ?_
  refine Jv rfl rfl rfl rfl rfl (fun ext => Oc rfl rfl (Kv fun w hS => icfmd_c (l := [k.1.1, k.1.2, k.2.1, k.2.2, v] ++ t.vals) (by (exact hS.oc)) (by (simp <;> omega)))) ?_
  refine WJ.set 26 rfl (v' := .int .i64 (if rokA k v t then 0 else 3)) (congrArg (Value.int .i64) (by simp [rokA, okK, and_assoc, or_imp, forall_and])) ?_
  refine Kj rfl (rd_neq rfl rfl rfl) ?_
  refine WJ.set 27 rfl (v' := .bool (decide (¬ rokA k v t))) (congrArg Value.bool (by exact if3 (p := rokA k v t))) ?_
  refine Kj rfl (Rm rfl rfl) ?_
  refine WJ.bool 28 rfl (fun hg28 => ?_) (fun hg28 => ?_)
  ·(try simp only [sB] at hg28)
   refine Js rfl rfl rfl rfl (Js rfl rfl rfl rfl (Js rfl rfl rfl rfl (Kj rfl (Rp rfl rfl rfl) (Kj rfl (Rm rfl rfl) (Js rfl rfl rfl rfl (Js rfl rfl rfl rfl (Js rfl rfl rfl rfl (Kj rfl (Rp rfl rfl rfl) (Kj rfl (Rm rfl rfl) (Js rfl rfl rfl rfl (Js rfl rfl rfl rfl (Js rfl rfl rfl rfl (Kj rfl (Rp rfl rfl rfl) ?_)))))))))))))
   refine WJ.nil ?_
   refine Nn ?_
   refine WX.joinP (()) (S7 rfl rfl rfl rfl rfl rfl rfl) (by refine (Sc ?_ (S0 _)) <;> ((refine slot_b rfl ?_; (try dsimp only); (simp [*]; done)))) ?_ (by (exact st_sub))
   (try dsimp only)
   done
  ·(try simp only [sB] at hg28)
   refine Kj rfl (lda rfl rfl .tc u64 rfl ?_) ?_
   ·kernel_rfl
   refine Jv rfl rfl rfl rfl rfl (fun ext => Oc rfl rfl (Kv fun w hS => zvalid_c (x := m))) ?_
   refine Kj rfl (Rt rfl rfl) (Kj rfl (Rq rfl rfl rfl) (Kj rfl (Rm rfl rfl) ?_))
   refine WJ.bool 33 rfl (fun hg33 => ?_) (fun hg33 => ?_)
   ·(try simp only [sB] at hg33)
    refine Js rfl rfl rfl rfl (Js rfl rfl rfl rfl (Js rfl rfl rfl rfl (Kj rfl (Rp rfl rfl rfl) (Kj rfl (Rm rfl rfl) (Js rfl rfl rfl rfl (Js rfl rfl rfl rfl (Js rfl rfl rfl rfl (Kj rfl (Rp rfl rfl rfl) ?_))))))))
    refine WJ.nil ?_
    refine Nn ?_
    refine WX.joinP (()) (S7 rfl rfl rfl rfl rfl rfl rfl) (by refine (Sc ?_ (S0 _)) <;> ((refine slot_b rfl ?_; (try dsimp only); (simp [*]; done)))) ?_ (by (exact st_sub))
    (try dsimp only)
    done
   ·(try simp only [sB] at hg33)
    refine Kj rfl (Fa (q := 2) rfl rfl u33 rfl rfl) (Kj rfl (Ld rfl rfl .tc u3) ?_)
    refine Kj rfl (rd_lss rfl rfl rfl) (Kj rfl (Rq rfl rfl rfl) (Kj rfl (Rm rfl rfl) ?_))
    refine WJ.bool 38 rfl (fun hg38 => ?_) (fun hg38 => ?_)
    ·(try simp only [sB] at hg38)
     refine Js rfl rfl rfl rfl (Js rfl rfl rfl rfl (Js rfl rfl rfl rfl (Kj rfl (Rp rfl rfl rfl) ?_)))
     refine WJ.nil ?_
     refine Nn ?_
     refine WX.joinP (()) (S7 rfl rfl rfl rfl rfl rfl rfl) (by refine (Sc ?_ (S0 _)) <;> ((refine slot_b rfl ?_; (try dsimp only); (simp [*]; done)))) ?_ (by (exact st_sub))
     (try dsimp only)
     done
    ·(try simp only [sB] at hg38)
     refine Kj rfl (Fa (q := 2) rfl rfl u33 rfl rfl) (Kj rfl (Ld rfl rfl .tc u3) ?_)
     refine Kj rfl (rd_gtr rfl rfl rfl) (Kj rfl (Rq rfl rfl rfl) ?_)
     refine WJ.nil ?_
     refine Nn ?_
     refine WX.joinP (()) (S7 rfl rfl rfl rfl rfl rfl rfl) (by refine (Sc ?_ (S0 _)) <;> ((refine slot_b rfl ?_; (try dsimp only); (simp [*]; done)))) ?_ (by (exact st_sub))
     (try dsimp only)
     done
 ·rintro _ hmeet; (try dsimp only at hmeet ⊢)
  refine Cd rfl (fun hc42 => ?_) (fun hc42 => ?_)
  ·(try simp only [sB] at hc42)
   have hr : rndS k m v t = (([], ((false, []), (false, [])), zeroT), 3) := by rw [rndS, if_pos (fun h => hc42 (rok_iff.2 h))]
   refine Cs (Km rfl ?_)
   refine Ku rfl (og_callv rfl rfl rfl (by kernel_rfl) rfl (Kv fun w hS => icrnd1_c (x := 3))) ?_
   refine Kq rfl (Re rfl rfl rfl) (Kq rfl (Re rfl rfl rfl) (Kq rfl (Re rfl rfl rfl) (Kq rfl (Re rfl rfl rfl) (Ka rfl ?_))))
   refine Nu rfl rfl (Sa rfl rfl rfl .tc) ?_
   refine Nu rfl rfl (Sa rfl rfl rfl .tc) ?_
   refine Ka rfl (Nt (Ce (Xb ?_)))
   exact Rn rfl (.tmp rfl (.agg rfl .tc u92 rfl (by kernel_rfl) (.agg rfl .tc u33 rfl (by kernel_rfl) (.tmp rfl .nil)))) fun w' hS => ⟨⟨none, 0, []⟩, by rw [hr]; rfl, by rw [hr]; rfl, by rw [hr]; exact new_nilK hS⟩
  ·(try simp only [sB] at hc42)
   have hok := rok_iff.1 (Classical.not_not.1 hc42)
   refine Ck (Xa (Cq (Cs ?_)))
   refine Kq rfl (lda rfl rfl .tc u86 rfl ?_) ?_
   ·kernel_rfl
   refine Ku rfl (Oc rfl rfl (Kv fun w hS => icheck_c (k := k) (by assumption))) ?_
   refine Ka rfl (Nt (Cs (Km rfl (Kq rfl (rd_neq rfl rfl rfl) (Nt ?_)))))
   refine Cd rfl (fun hc52 => ?_) (fun hc52 => ?_)
   ·(try simp only [sB] at hc52)
    have hr : rndS k m v t = (([], ((false, []), (false, [])), zeroT), chkI k) := by rw [rndS, if_neg (fun h => h hok), if_pos hc52]
    refine Cs (Km rfl (Km rfl ?_))
    refine Ku rfl (og_callv rfl rfl rfl (by kernel_rfl) rfl (Kv fun w hS => icrnd1_c (x := chkI k))) ?_
    refine Kq rfl (Re rfl rfl rfl) (Kq rfl (Re rfl rfl rfl) (Kq rfl (Re rfl rfl rfl) (Kq rfl (Re rfl rfl rfl) (Ka rfl ?_))))
    refine Nu rfl rfl (Sa rfl rfl rfl .tc) ?_
    refine Nu rfl rfl (Sa rfl rfl rfl .tc) ?_
    refine Ka rfl (Nt (Ce (Xb ?_)))
    exact Rn rfl (.tmp rfl (.agg rfl .tc u92 rfl (by kernel_rfl) (.agg rfl .tc u33 rfl (by kernel_rfl) (.tmp rfl .nil)))) fun w' hS => ⟨⟨none, 0, []⟩, by rw [hr]; rfl, by rw [hr]; rfl, by rw [hr]; exact new_nilK hS⟩
   ·(try simp only [sB] at hc52)
    have hk : chkI k = 0 := by simpa using hc52
    refine Ck (Xa (Cs ?_))
    refine Kq rfl (lda rfl rfl .tc u33 rfl ?_) ?_
    ·kernel_rfl
    refine Km rfl ?_
    refine Kh rfl (Oc rfl rfl (keep_o1 fun w hS => below_c (t := t) (n := v) (by (exact hS.sl)) (by omega) (by assumption) (by (exact tab_st hT hS)))) ?_
    intro g63
    refine WL.pu ?_
    intro hg63; (try dsimp only at hg63 ⊢)
    refine Km rfl (Kq rfl (Re rfl rfl rfl) (Kq rfl (Re rfl rfl rfl) (Kq rfl (Re rfl rfl rfl) (Ka rfl ?_))))
    refine Nu rfl rfl (Sa rfl rfl rfl .tc) ?_
    refine Ka rfl (Nt (Cq (Cs (Km rfl (Kq rfl (rd_neq rfl rfl rfl) (Nt ?_))))))
    refine Cd rfl (fun hc68 => ?_) (fun hc68 => ?_)
    ·(try simp only [sB] at hc68)
     have hr : rndS k m v t = (([], ((false, []), (false, [])), zeroT), (belowS t v).2.2) := by rw [rndS, if_neg (fun h => h hok), if_neg (fun h => h hk), if_pos hc68]
     refine Cs (Km rfl (Km rfl ?_))
     refine Ku rfl (og_callv rfl rfl rfl (by kernel_rfl) rfl (Kv fun w hS => icrnd1_c (x := (belowS t v).2.2))) ?_
     refine Kq rfl (Re rfl rfl rfl) (Kq rfl (Re rfl rfl rfl) (Kq rfl (Re rfl rfl rfl) (Kq rfl (Re rfl rfl rfl) (Ka rfl ?_))))
     refine Nu rfl rfl (Sa rfl rfl rfl .tc) ?_
     refine Nu rfl rfl (Sa rfl rfl rfl .tc) ?_
     refine Ka rfl (Nt (Ce (Xb ?_)))
     exact Rn rfl (.tmp rfl (.agg rfl .tc u92 rfl (by kernel_rfl) (.agg rfl .tc u33 rfl (by kernel_rfl) (.tmp rfl .nil)))) fun w' hS => ⟨⟨none, 0, []⟩, by rw [hr]; rfl, by rw [hr]; rfl, by rw [hr]; exact new_nilK hS⟩
    ·(try simp only [sB] at hc68)
     have hb0 : (belowS t v).2.2 = 0 := by simpa using hc68
     have hr : rndS k m v t = (((comS k (m, fromZ (belowS t v).1)).1, (m, fromZ (belowS t v).1), (belowS t v).2.1), 0) := by rw [rndS, if_neg (fun h => h hok), if_neg (fun h => h hk), if_neg (fun h => h hb0)]
     have hbk := below_okN hb0 hok.2.2.2 hok.2.1
     refine Ck (Xa (Cq ?_))
     refine Cf [1, 2, 0, 3, 4] [5] [0, 0, 1, 0, 3, 2] (by kernel_rfl) (by kernel_rfl) rfl ?_
     refine Kj rfl (Rm rfl rfl) ?_
     refine Jv rfl rfl rfl rfl rfl (fun ext => Oc rfl rfl (Kv fun w hS => zfrom_c (a := (belowS t v).1))) ?_
     refine Kj rfl (lda rfl rfl .tc u64 rfl ?_) ?_
     ·kernel_rfl
     refine Kj rfl (Kb [[.bool false, .string (S [])], [.bool false, .string (S [])]] rfl rfl) ?_
     refine Jf rfl rfl rfl rfl rfl (fr_alloc rfl (v := (.agg #[.bool false, .string (S []), .bool false, .string (S [])])) (cs := [.bool false, .string (S []), .bool false, .string (S [])]) (by kernel_rfl) rfl) ?_
     intro b16
     refine WJ.nil ?_
     refine Nu rfl rfl (Sa rfl rfl rfl .tc) ?_
     refine Nt (Cs ?_)
     refine Kq rfl (lda rfl rfl .tc u86 rfl ?_) ?_
     ·kernel_rfl
     refine Kq rfl (lda rfl rfl .tc u92 rfl ?_) ?_
     ·kernel_rfl
     refine Ku rfl (Oc rfl rfl (Kv fun w hS => commit_c (k := k) (o := (m, fromZ (belowS t v).1)) (by assumption))) ?_
     refine Km rfl (Kq rfl (Re rfl rfl rfl) (Kq rfl (Re rfl rfl rfl) (Ka rfl (Ka rfl (Nt (Cq (Cs (Km rfl (Kq rfl (rd_neq rfl rfl rfl) (Nt ?_))))))))))
     refine Cd rfl (fun hc87 => by exfalso; (try simp only [sB] at hc87); exact hc87 (rnd_com hk hok.2.2.1 hbk.1)) (fun hc87 => ?_)
     (try simp only [sB] at hc87)
     refine Ck (Xa (Cq ?_))
     refine WC.free (K := [⟨some b16, [.bool m.1, .string (S m.2), .bool (fromZ (belowS t v).1).1, .string (S (fromZ (belowS t v).1).2)], 92⟩, ⟨some b7, [g63.val (belowS t v).2.1.vals.length, .string (S (belowS t v).2.1.seed), .int .i64 (belowS t v).2.1.at_], 33⟩]) (fs0 := []) [0, 1, 3, 4, 2] [5, 6] [0, 0, 0, 0, 1, 2, 2] (by kernel_rfl) (by kernel_rfl) rfl ?_
     refine Kj rfl (Rm rfl rfl) ?_
     refine Kj rfl (lda rfl rfl .tc u92 rfl ?_) ?_
     ·kernel_rfl
     refine Kj rfl (Ra rfl rfl) ?_
     refine WJ.st rfl rfl rfl rfl (staJ rfl rfl rfl ?_ ?_ ?_) ?_
     ·kernel_rfl
     ·simp [Value.oneCell']
     ·rfl
     refine Kj rfl (lda rfl rfl .tc u33 rfl ?_) ?_
     ·kernel_rfl
     refine WJ.nil ?_
     refine Nu rfl rfl (Sa rfl rfl rfl .tc) ?_
     refine Ka rfl (Nt (Ce ?_))
     exact Rn rfl (.tmp rfl (.agg rfl .tc u92 rfl (by kernel_rfl) (.agg rfl .tc u33 rfl (by kernel_rfl) (.tmp rfl .nil)))) fun w' hS => ⟨g63, by rw [hr]; rfl, by rw [hr]; exact hg63, by rw [hr]; exact st_sub _ hS⟩
theorem ricrandom_c {k : PK} {m : Zs} {v : Bs} {t : Tp} {a : Option Addr} {cap : Nat} {w : World} {ok : Nat → Prop} (hF1 : (Fact.sl a (strs t.vals)).holds ok w) (hl : t.vals.length ≤ 90000) (hsd : t.seed.length ≤ 400000) (hm8 : k.1.1.length ≤ 8) :
  Calls Tryz.prog 39 #[pkV k, zV m, .string (S v), t.v (.slice a t.vals.length cap)] w fun e w' => ∃ g : Rs, e = .returned (.tuple #[.string (S (rndS k m v t).1.1), opV (rndS k m v t).1.2.1, (rndS k m v t).1.2.2.v (g.val (rndS k m v t).1.2.2.vals.length), .int .i64 (rndS k m v t).2]) ∧ g.cap = (rndS k m v t).1.2.2.vals.length + g.sp.length ∧ St (fun _ => True) w [g.ent (strs (rndS k m v t).1.2.2.vals) 22] [] w' := by
 refine En [Fact.sl a (strs t.vals)] [(0, pkV k), (1, zV m), (2, .string (S v)), (3, t.v (.slice a t.vals.length cap))] Tryz.func39 rfl Tryz.ntmps39 rfl (Ac rfl (Ac rfl (Ac rfl (Ac rfl (An _))))) (Fc (fact_any hF1) Fn) ?_
 refine Cs ?_
 refine Kh rfl (Oy rfl rfl) ?_
 intro b4
 refine Kh rfl (Oy rfl rfl) ?_
 intro b5
 refine Kh rfl (Oy rfl rfl) ?_
 intro b7
 refine Ka rfl ?_
 refine Kh rfl (Oz [.bool false, .string (S []), .bool false, .string (S [])] rfl) ?_
 intro b9
 refine Kh rfl (Oz [.slice none 0 0, .string (S []), .int .i64 0] rfl) ?_
 intro b10
 refine Ka rfl (Nt (Cq ?_))
 refine WC.joinP (σ := Unit) [(2, _), (4, _), (5, _), (7, _), (9, _), (10, _)] (fun gq => [(36, .bool (decide (¬ (okK k ∧ okZ m ∧ okN v ∧ goodT t))))]) (fun gq => True) (S6 rfl rfl rfl rfl rfl rfl) ?_ ?_
 ·skip
  refine Cg ?_
  refine Kq rfl (lda rfl rfl .tc u86 rfl ?_) ?_
  ·kernel_rfl
  refine Ku rfl (Oc rfl rfl (Kv fun w hS => icform_c (k := k))) ?_
  refine Kq rfl (Rt rfl rfl) (Km rfl ?_)
  refine Nb 22 rfl (fun hg22 => ?_) (fun hg22 => ?_)
  ·(try simp only [sB] at hg22)
   refine Kt rfl (Kt rfl (Kt rfl (Kq rfl (Rp rfl rfl rfl) (Km rfl (Kt rfl (Kt rfl (Kt rfl (Kq rfl (Rp rfl rfl rfl) (Km rfl (Kt rfl (Kt rfl (Kt rfl (Kq rfl (Rp rfl rfl rfl) (Nn ?_))))))))))))))
   refine WX.joinP (()) (S6 rfl rfl rfl rfl rfl rfl) (by refine (Sc ?_ (S0 _)) <;> ((refine slot_b rfl ?_; (try dsimp only); (simp [*]; done)))) ?_ (by (exact fun _ h => h))
   (try dsimp only)
   done
  ·(try simp only [sB] at hg22)
   refine Kq rfl (lda rfl rfl .tc u64 rfl ?_) ?_
   ·kernel_rfl
   refine Ku rfl (Oc rfl rfl (Kv fun w hS => rzvalid_c (x := m))) ?_
   refine Kq rfl (Rt rfl rfl) (Kq rfl (Rq rfl rfl rfl) (Km rfl ?_))
   refine Nb 27 rfl (fun hg27 => ?_) (fun hg27 => ?_)
   ·(try simp only [sB] at hg27)
    refine Kt rfl (Kt rfl (Kt rfl (Kq rfl (Rp rfl rfl rfl) (Km rfl (Kt rfl (Kt rfl (Kt rfl (Kq rfl (Rp rfl rfl rfl) (Nn ?_)))))))))
    refine WX.joinP (()) (S6 rfl rfl rfl rfl rfl rfl) (by refine (Sc ?_ (S0 _)) <;> ((refine slot_b rfl ?_; (try dsimp only); (simp [*]; done)))) ?_ (by (exact fun _ h => h))
    (try dsimp only)
    done
   ·(try simp only [sB] at hg27)
    refine Km rfl ?_
    refine Ku rfl (Oc rfl rfl (Kv fun w hS => rvalid_c (a := v))) ?_
    refine Kq rfl (Rt rfl rfl) (Kq rfl (Rq rfl rfl rfl) (Km rfl ?_))
    refine Nb 32 rfl (fun hg32 => ?_) (fun hg32 => ?_)
    ·(try simp only [sB] at hg32)
     refine Kt rfl (Kt rfl (Kt rfl (Kq rfl (Rp rfl rfl rfl) (Nn ?_))))
     refine WX.joinP (()) (S6 rfl rfl rfl rfl rfl rfl) (by refine (Sc ?_ (S0 _)) <;> ((refine slot_b rfl ?_; (try dsimp only); (simp [*]; done)))) ?_ (by (exact fun _ h => h))
     (try dsimp only)
     done
    ·(try simp only [sB] at hg32)
     refine Kq rfl (lda rfl rfl .tc u33 rfl ?_) ?_
     ·kernel_rfl
     refine Ku rfl (Oc rfl rfl (Kv fun w hS => rtgood_c (t := t) (by (exact hS.sl)) (by omega))) ?_
     refine Kq rfl (Rt rfl rfl) (Kq rfl (Rq rfl rfl rfl) (Nn ?_))
     refine WX.joinP (()) (S6 rfl rfl rfl rfl rfl rfl) (by refine (Sc ?_ (S0 _)) <;> ((refine slot_b rfl ?_; (try dsimp only); (simp [*]; done)))) ?_ (by (exact fun _ h => h))
     (try dsimp only)
     done
 ·rintro _ hmeet; (try dsimp only at hmeet ⊢)
  refine Cd rfl (fun hc36 => ?_) (fun hc36 => ?_)
  ·(try simp only [sB] at hc36)
   have hr : rndS k m v t = (([], ((false, []), (false, [])), zeroT), 3) := by rw [rndS, if_pos (fun h => hc36 ⟨h.1, h.2.2.1, h.2.1, h.2.2.2⟩)]
   refine Cs (Kq rfl (Kb [[.bool false, .string (S [])], [.bool false, .string (S [])]] rfl rfl) (Kq rfl (Kb [[.slice none 0 0], [.string (S [])], [.int .i64 0]] rfl rfl) (Ka rfl ?_)))
   refine Nu rfl rfl (Sa rfl rfl rfl .tc) ?_
   refine Nu rfl rfl (Sa rfl rfl rfl .tc) ?_
   refine Ka rfl (Nt (Ce (Xb ?_)))
   exact Rn rfl (.tmp rfl (.agg rfl .tc u92 rfl (by kernel_rfl) (.agg rfl .tc u33 rfl (by kernel_rfl) (.tmp rfl .nil)))) fun w' hS => ⟨⟨none, 0, []⟩, by rw [hr]; rfl, by rw [hr]; rfl, by rw [hr]; exact new_nilK hS⟩
  ·(try simp only [sB] at hc36)
   have hok : okK k ∧ okN v ∧ okZ m ∧ goodT t := by have h := Decidable.not_not.1 hc36; exact ⟨h.1, h.2.2.1, h.2.1, h.2.2.2⟩
   refine Ck (Xa (Cq (Cs ?_)))
   refine Kq rfl (lda rfl rfl .tc u86 rfl ?_) ?_
   ·kernel_rfl
   refine Ku rfl (Oc rfl rfl (Kv fun w hS => richeck_c (k := k) (by assumption))) ?_
   refine Ka rfl (Nt (Cs (Km rfl (Kq rfl (rd_neq rfl rfl rfl) (Nt ?_)))))
   refine Cd rfl (fun hc42 => ?_) (fun hc42 => ?_)
   ·(try simp only [sB] at hc42)
    have hr : rndS k m v t = (([], ((false, []), (false, [])), zeroT), chkI k) := by rw [rndS, if_neg (fun h => h hok), if_pos hc42]
    refine Cs (Kq rfl (Kb [[.bool false, .string (S [])], [.bool false, .string (S [])]] rfl rfl) (Kq rfl (Kb [[.slice none 0 0], [.string (S [])], [.int .i64 0]] rfl rfl) (Km rfl (Ka rfl ?_))))
    refine Nu rfl rfl (Sa rfl rfl rfl .tc) ?_
    refine Nu rfl rfl (Sa rfl rfl rfl .tc) ?_
    refine Ka rfl (Nt (Ce (Xb ?_)))
    exact Rn rfl (.tmp rfl (.agg rfl .tc u92 rfl (by kernel_rfl) (.agg rfl .tc u33 rfl (by kernel_rfl) (.tmp rfl .nil)))) fun w' hS => ⟨⟨none, 0, []⟩, by rw [hr]; rfl, by rw [hr]; rfl, by rw [hr]; exact new_nilK hS⟩
   ·(try simp only [sB] at hc42)
    have hk : chkI k = 0 := by simpa using hc42
    refine Ck (Xa (Cs ?_))
    refine Kq rfl (lda rfl rfl .tc u33 rfl ?_) ?_
    ·kernel_rfl
    refine Km rfl ?_
    refine Kh rfl (Oc rfl rfl (keep_o1 fun w hS => rbelow_c (t := t) (n := v) (by (exact hS.sl)) (by omega) (by assumption))) ?_
    intro g49
    refine WL.pu ?_
    intro hg49; (try dsimp only at hg49 ⊢)
    refine Km rfl (Kq rfl (Re rfl rfl rfl) (Kq rfl (Re rfl rfl rfl) (Kq rfl (Re rfl rfl rfl) ?_)))
    refine Kh rfl (Oz [.slice none 0 0, .string (S []), .int .i64 0] rfl) ?_
    intro b14
    refine Ka rfl ?_
    refine Nu rfl rfl (Sa rfl rfl rfl .tc) ?_
    refine Ka rfl (Nt (Cq (Cs (Km rfl (Kq rfl (rd_neq rfl rfl rfl) (Nt ?_))))))
    refine Cd rfl (fun hc54 => ?_) (fun hc54 => ?_)
    ·(try simp only [sB] at hc54)
     have hr : rndS k m v t = (([], ((false, []), (false, [])), zeroT), (belowS t v).2.2) := by rw [rndS, if_neg (fun h => h hok), if_neg (fun h => h hk), if_pos hc54]
     refine Cs (Kq rfl (Kb [[.bool false, .string (S [])], [.bool false, .string (S [])]] rfl rfl) (Kq rfl (Kb [[.slice none 0 0], [.string (S [])], [.int .i64 0]] rfl rfl) (Km rfl (Ka rfl ?_))))
     refine Nu rfl rfl (Sa rfl rfl rfl .tc) ?_
     refine Nu rfl rfl (Sa rfl rfl rfl .tc) ?_
     refine Ka rfl (Nt (Ce (Xb ?_)))
     exact Rn rfl (.tmp rfl (.agg rfl .tc u92 rfl (by kernel_rfl) (.agg rfl .tc u33 rfl (by kernel_rfl) (.tmp rfl .nil)))) fun w' hS => ⟨⟨none, 0, []⟩, by rw [hr]; rfl, by rw [hr]; rfl, by rw [hr]; exact new_nilK hS⟩
    ·(try simp only [sB] at hc54)
     have hb0 : (belowS t v).2.2 = 0 := by simpa using hc54
     have hr : rndS k m v t = (((comS k (m, fromZ (belowS t v).1)).1, (m, fromZ (belowS t v).1), (belowS t v).2.1), 0) := by rw [rndS, if_neg (fun h => h hok), if_neg (fun h => h hk), if_neg (fun h => h hb0)]
     refine Ck (Xa (Cq ?_))
     refine Cf [1, 2, 0, 3, 4] [5] [0, 0, 1, 0, 3, 2] (by kernel_rfl) (by kernel_rfl) rfl ?_
     refine Kj rfl (Rm rfl rfl) ?_
     refine Jv rfl rfl rfl rfl rfl (fun ext => Oc rfl rfl (Kv fun w hS => rfrom_c (a := (belowS t v).1))) ?_
     refine Kj rfl (lda rfl rfl .tc u64 rfl ?_) ?_
     ·kernel_rfl
     refine Kj rfl (Kb [[.bool false, .string (S [])], [.bool false, .string (S [])]] rfl rfl) ?_
     refine Jf rfl rfl rfl rfl rfl (fr_alloc rfl (v := (.agg #[.bool false, .string (S []), .bool false, .string (S [])])) (cs := [.bool false, .string (S []), .bool false, .string (S [])]) (by kernel_rfl) rfl) ?_
     intro b16
     refine WJ.nil ?_
     refine Nu rfl rfl (Sa rfl rfl rfl .tc) ?_
     refine Nt (Cs ?_)
     refine Kq rfl (lda rfl rfl .tc u86 rfl ?_) ?_
     ·kernel_rfl
     refine Kq rfl (lda rfl rfl .tc u92 rfl ?_) ?_
     ·kernel_rfl
     refine Ku rfl (Oc rfl rfl (Kv fun w hS => rcommit_c (k := k) (o := (m, fromZ (belowS t v).1)) (by assumption))) ?_
     refine Km rfl (Kq rfl (Re rfl rfl rfl) (Kq rfl (Re rfl rfl rfl) (Ka rfl (Ka rfl (Nt (Cq ?_))))))
     refine WC.free (K := [⟨some b16, [.bool m.1, .string (S m.2), .bool (if okN (belowS t v).1 then (false, (belowS t v).1) else (false, []) : Zs).1, .string (S (if okN (belowS t v).1 then (false, (belowS t v).1) else (false, []) : Zs).2)], 92⟩, ⟨some b14, [g49.val (belowS t v).2.1.vals.length, .string (S (belowS t v).2.1.seed), .int .i64 (belowS t v).2.1.at_], 33⟩]) (fs0 := []) [0, 1, 3, 4, 2] [5, 6] [0, 0, 0, 0, 1, 2, 2] (by kernel_rfl) (by kernel_rfl) rfl ?_
     refine Kj rfl (Rm rfl rfl) ?_
     refine Kj rfl (lda rfl rfl .tc u92 rfl ?_) ?_
     ·kernel_rfl
     refine Kj rfl (Ra rfl rfl) ?_
     refine WJ.st rfl rfl rfl rfl (staJ rfl rfl rfl ?_ ?_ ?_) ?_
     ·kernel_rfl
     ·simp [Value.oneCell']
     ·rfl
     refine Kj rfl (lda rfl rfl .tc u33 rfl ?_) ?_
     ·kernel_rfl
     refine WJ.nil ?_
     refine Nu rfl rfl (Sa rfl rfl rfl .tc) ?_
     refine Ka rfl (Nt (Ce ?_))
     exact Rn rfl (.tmp rfl (.agg rfl .tc u92 rfl (by kernel_rfl) (.agg rfl .tc u33 rfl (by kernel_rfl) (.tmp rfl .nil)))) fun w' hS => ⟨g49, by rw [hr]; rfl, by rw [hr]; exact hg49, by rw [hr]; exact st_sub _ hS⟩
theorem kn1_c {k : PK} {c v r : Bs} {p0 p1 p2 p3 : Nat} {w : World} {ok : Nat → Prop} (hF1 : (Fact.sl (some ⟨p0, 0, none⟩) [.string (S k.1.1), .string (S k.1.2), .string (S k.2.1), .string (S k.2.2)]).holds ok w) (hF2 : (Fact.sl (some ⟨p1, 0, none⟩) [.string (S c)]).holds ok w) (hF3 : (Fact.sl (some ⟨p2, 0, none⟩) [.string (S v)]).holds ok w) (hF4 : (Fact.sl (some ⟨p3, 0, none⟩) [.string (S r)]).holds ok w) :
  Cw 132 #[.pointer (some ⟨p0, 0, none⟩), .pointer (some ⟨p1, 0, none⟩), .pointer (some ⟨p2, 0, none⟩), .pointer (some ⟨p3, 0, none⟩)] w (.int .i64 (if okK k ∧ okN c ∧ okN v ∧ okN r then 0 else 3)) := by
 refine En [Fact.sl (some ⟨p0, 0, none⟩) [.string (S k.1.1), .string (S k.1.2), .string (S k.2.1), .string (S k.2.2)], Fact.sl (some ⟨p1, 0, none⟩) [.string (S c)], Fact.sl (some ⟨p2, 0, none⟩) [.string (S v)], Fact.sl (some ⟨p3, 0, none⟩) [.string (S r)]] [(0, .pointer (some ⟨p0, 0, none⟩)), (1, .pointer (some ⟨p1, 0, none⟩)), (2, .pointer (some ⟨p2, 0, none⟩)), (3, .pointer (some ⟨p3, 0, none⟩))] Tryz.func132 rfl Tryz.ntmps132 rfl (Ac rfl (Ac rfl (Ac rfl (Ac rfl (An _))))) (Fc (fact_any hF1) (Fc (fact_any hF2) (Fc (fact_any hF3) (Fc (fact_any hF4) Fn)))) ?_
 refine Cs (Ka rfl (Nt (Cq ?_)))
 refine Cf [0, 1, 2, 3, 4, 5, 6, 7, 8] [] [0, 1, 0, 0, 0, 3, 1, 1, 0] (by kernel_rfl) (by kernel_rfl) rfl ?_
 refine Kj rfl (ldfa (m := 0) rfl rfl .tc u86 rfl (by kernel_rfl : _ = some 4) rfl rfl rfl (by decide)) ?_
 refine Jg rfl rfl rfl rfl rfl (fun ext => Oc rfl rfl (keep_o1J fun w hS => icnum_c (k := k))) ?_
 intro g6 hg6; (try dsimp only at hg6 ⊢)
 refine Kj rfl (ldf (m := 0) rfl rfl .tc u22 rfl rfl rfl) ?_
 refine Kj rfl (ldf (m := 0) rfl rfl .tc u22 rfl rfl rfl) ?_
 refine Kj rfl (ldf (m := 0) rfl rfl .tc u22 rfl rfl rfl) ?_
 refine Jf rfl rfl rfl rfl rfl (fr_bs1 rfl rfl u31 (by kernel_rfl : _ = some (some (.string (S [])), 1, 16)) rfl (by simp only [List.map]; rfl) rfl rfl ?_ (by decide)) ?_
 ·simp [Value.cells]
 intro b10
 refine Jg rfl rfl rfl rfl rfl (appgJ rfl u31 (by kernel_rfl : _ = some (some (.string (S [])), 1, 16)) rfl .tc rfl rfl (fun ext w hS => by (exact hS.os)) (by rfl) (by (refine ⟨?_, ?_, ?_, ?_⟩ <;> (try simp) <;> omega)) (by (simp [Value.oneCell']; done))) ?_
 rintro ⟨o11, c11, s11⟩ hg11; (try dsimp only at hg11 ⊢)
 refine Jv rfl rfl rfl rfl rfl (fun ext => Oc rfl rfl (Kv fun w hS => icfmd_c (l := [k.1.1, k.1.2, k.2.1, k.2.2, c, v, r]) (by (exact hS.oc)) (by (simp <;> omega)))) ?_
 refine Kj rfl (Ra rfl rfl) ?_
 refine WJ.nil ?_
 refine Nt (Ce ?_)
 exact R1 rfl rfl (by simp [tup, okK, and_assoc])
theorem pr1_c {k : PK} {a b c v r : Bs} {p0 p1 p2 p3 p4 p5 : Nat} {w : World} {ok : Nat → Prop} (hF1 : (Fact.sl (some ⟨p0, 0, none⟩) [.string (S k.1.1), .string (S k.1.2), .string (S k.2.1), .string (S k.2.2)]).holds ok w) (hF2 : (Fact.sl (some ⟨p1, 0, none⟩) [.string (S a)]).holds ok w) (hF3 : (Fact.sl (some ⟨p2, 0, none⟩) [.string (S b)]).holds ok w) (hF4 : (Fact.sl (some ⟨p3, 0, none⟩) [.string (S c)]).holds ok w) (hF5 : (Fact.sl (some ⟨p4, 0, none⟩) [.string (S v)]).holds ok w) (hF6 : (Fact.sl (some ⟨p5, 0, none⟩) [.string (S r)]).holds ok w) :
  Cw 141 #[.pointer (some ⟨p0, 0, none⟩), .pointer (some ⟨p1, 0, none⟩), .pointer (some ⟨p2, 0, none⟩), .pointer (some ⟨p3, 0, none⟩), .pointer (some ⟨p4, 0, none⟩), .pointer (some ⟨p5, 0, none⟩)] w (.int .i64 (if okK k ∧ okN a ∧ okN b ∧ okN c ∧ okN v ∧ okN r then 0 else 3)) := by
 refine En [Fact.sl (some ⟨p0, 0, none⟩) [.string (S k.1.1), .string (S k.1.2), .string (S k.2.1), .string (S k.2.2)], Fact.sl (some ⟨p1, 0, none⟩) [.string (S a)], Fact.sl (some ⟨p2, 0, none⟩) [.string (S b)], Fact.sl (some ⟨p3, 0, none⟩) [.string (S c)], Fact.sl (some ⟨p4, 0, none⟩) [.string (S v)], Fact.sl (some ⟨p5, 0, none⟩) [.string (S r)]] [(0, .pointer (some ⟨p0, 0, none⟩)), (1, .pointer (some ⟨p1, 0, none⟩)), (2, .pointer (some ⟨p2, 0, none⟩)), (3, .pointer (some ⟨p3, 0, none⟩)), (4, .pointer (some ⟨p4, 0, none⟩)), (5, .pointer (some ⟨p5, 0, none⟩))] Tryz.func141 rfl Tryz.ntmps141 rfl (Ac rfl (Ac rfl (Ac rfl (Ac rfl (Ac rfl (Ac rfl (An _))))))) (Fc (fact_any hF1) (Fc (fact_any hF2) (Fc (fact_any hF3) (Fc (fact_any hF4) (Fc (fact_any hF5) (Fc (fact_any hF6) Fn)))))) ?_
 refine Cs (Ka rfl (Nt (Cq ?_)))
 refine Cf [0, 1, 2, 3, 4, 5, 6, 7, 8, 9, 10] [] [0, 1, 0, 0, 0, 0, 0, 3, 1, 1, 0] (by kernel_rfl) (by kernel_rfl) rfl ?_
 refine Kj rfl (ldfa (m := 0) rfl rfl .tc u86 rfl (by kernel_rfl : _ = some 4) rfl rfl rfl (by decide)) ?_
 refine Jg rfl rfl rfl rfl rfl (fun ext => Oc rfl rfl (keep_o1J fun w hS => icnum_c (k := k))) ?_
 intro g8 hg8; (try dsimp only at hg8 ⊢)
 refine Kj rfl (ldf (m := 0) rfl rfl .tc u22 rfl rfl rfl) ?_
 refine Kj rfl (ldf (m := 0) rfl rfl .tc u22 rfl rfl rfl) ?_
 refine Kj rfl (ldf (m := 0) rfl rfl .tc u22 rfl rfl rfl) ?_
 refine Kj rfl (ldf (m := 0) rfl rfl .tc u22 rfl rfl rfl) ?_
 refine Kj rfl (ldf (m := 0) rfl rfl .tc u22 rfl rfl rfl) ?_
 refine Jf rfl rfl rfl rfl rfl (fr_bs1 rfl rfl u31 (by kernel_rfl : _ = some (some (.string (S [])), 1, 16)) rfl (by simp only [List.map]; rfl) rfl rfl ?_ (by decide)) ?_
 ·simp [Value.cells]
 intro b14
 refine Jg rfl rfl rfl rfl rfl (appgJ rfl u31 (by kernel_rfl : _ = some (some (.string (S [])), 1, 16)) rfl .tc rfl rfl (fun ext w hS => by (exact hS.os)) (by rfl) (by (refine ⟨?_, ?_, ?_, ?_⟩ <;> (try simp) <;> omega)) (by (simp [Value.oneCell']; done))) ?_
 rintro ⟨o15, c15, s15⟩ hg15; (try dsimp only at hg15 ⊢)
 refine Jv rfl rfl rfl rfl rfl (fun ext => Oc rfl rfl (Kv fun w hS => icfmd_c (l := [k.1.1, k.1.2, k.2.1, k.2.2, a, b, c, v, r]) (by (exact hS.oc)) (by (simp <;> omega)))) ?_
 refine Kj rfl (Ra rfl rfl) ?_
 refine WJ.nil ?_
 refine Nt (Ce ?_)
 exact R1 rfl rfl (by simp [tup, okK, and_assoc])
theorem kn2_c {k : PK} {p0 : Nat} {w : World} {ok : Nat → Prop} (hF1 : (Fact.sl (some ⟨p0, 0, none⟩) [.string (S k.1.1), .string (S k.1.2), .string (S k.2.1), .string (S k.2.2)]).holds ok w) (hm8 : k.1.1.length ≤ 8) :
  Cw 133 #[.pointer (some ⟨p0, 0, none⟩)] w (.int .i64 (chkI k)) := by
 refine En [Fact.sl (some ⟨p0, 0, none⟩) [.string (S k.1.1), .string (S k.1.2), .string (S k.2.1), .string (S k.2.2)]] [(0, .pointer (some ⟨p0, 0, none⟩))] Tryz.func133 rfl Tryz.ntmps133 rfl (Ac rfl (An _)) (Fc (fact_any hF1) Fn) ?_
 refine Cs (Ka rfl (Nt (Cs ?_)))
 refine Kq rfl (ldfa (m := 0) rfl rfl .tc u86 rfl (by kernel_rfl : _ = some 4) rfl rfl rfl (by decide)) ?_
 refine Ku rfl (Oc rfl rfl (Kv fun w hS => icheck_c (k := k) (by assumption))) ?_
 refine Ka rfl (Nt (Ce ?_))
 exact R1 rfl rfl (by rfl)
theorem pr2_c {k : PK} {p0 : Nat} {w : World} {ok : Nat → Prop} (hF1 : (Fact.sl (some ⟨p0, 0, none⟩) [.string (S k.1.1), .string (S k.1.2), .string (S k.2.1), .string (S k.2.2)]).holds ok w) (hm8 : k.1.1.length ≤ 8) :
  Cw 142 #[.pointer (some ⟨p0, 0, none⟩)] w (.int .i64 (chkI k)) := by
 refine En [Fact.sl (some ⟨p0, 0, none⟩) [.string (S k.1.1), .string (S k.1.2), .string (S k.2.1), .string (S k.2.2)]] [(0, .pointer (some ⟨p0, 0, none⟩))] Tryz.func142 rfl Tryz.ntmps142 rfl (Ac rfl (An _)) (Fc (fact_any hF1) Fn) ?_
 refine Cs (Ka rfl (Nt (Cs ?_)))
 refine Kq rfl (ldfa (m := 0) rfl rfl .tc u86 rfl (by kernel_rfl : _ = some 4) rfl rfl rfl (by decide)) ?_
 refine Ku rfl (Oc rfl rfl (Kv fun w hS => icheck_c (k := k) (by assumption))) ?_
 refine Ka rfl (Nt (Ce ?_))
 exact R1 rfl rfl (by rfl)
theorem kn3_c {k : PK} {c : Bs} {p0 p1 : Nat} {w : World} {ok : Nat → Prop} (hF1 : (Fact.sl (some ⟨p0, 0, none⟩) [.string (S k.1.1), .string (S k.1.2), .string (S k.2.1), .string (S k.2.2)]).holds ok w) (hF2 : (Fact.sl (some ⟨p1, 0, none⟩) [.string (S c)]).holds ok w) (hg : chkG k.1 = 0) (hm8 : k.1.1.length ≤ 8) :
  Cw 134 #[.pointer (some ⟨p0, 0, none⟩), .pointer (some ⟨p1, 0, none⟩)] w (.int .i64 (if elG k.1 c then 0 else 13)) := by
 refine En [Fact.sl (some ⟨p0, 0, none⟩) [.string (S k.1.1), .string (S k.1.2), .string (S k.2.1), .string (S k.2.2)], Fact.sl (some ⟨p1, 0, none⟩) [.string (S c)]] [(0, .pointer (some ⟨p0, 0, none⟩)), (1, .pointer (some ⟨p1, 0, none⟩))] Tryz.func134 rfl Tryz.ntmps134 rfl (Ac rfl (Ac rfl (An _))) (Fc (fact_any hF1) (Fc (fact_any hF2) Fn)) ?_
 refine Cs (Ka rfl (Nt (Cs ?_)))
 refine Kq rfl (ldfa (m := 0) rfl rfl .tc u86 rfl (by kernel_rfl : _ = some 4) rfl rfl rfl (by decide)) ?_
 refine Kq rfl (ldf (m := 0) rfl rfl .tc u22 rfl rfl rfl) ?_
 refine Kh rfl (og_bs1 rfl rfl u31 (by kernel_rfl : _ = some (some (.string (S [])), 1, 16)) rfl (by simp only [List.map]; rfl) rfl rfl ?_ (by decide)) ?_
 ·simp [Value.cells]
 intro b5
 refine Ku rfl (Oc rfl rfl (Kv fun w hS => icels_c (k := k) (l := [c]) (by (exact hS.os)) (by (simp <;> omega)) (by assumption) (by assumption))) ?_
 refine Ka rfl (Nt (Ce ?_))
 exact R1 rfl rfl (by simp [tup])
theorem pr3_c {k : PK} {a b c : Bs} {p0 p1 p2 p3 : Nat} {w : World} {ok : Nat → Prop} (hF1 : (Fact.sl (some ⟨p0, 0, none⟩) [.string (S k.1.1), .string (S k.1.2), .string (S k.2.1), .string (S k.2.2)]).holds ok w) (hF2 : (Fact.sl (some ⟨p1, 0, none⟩) [.string (S a)]).holds ok w) (hF3 : (Fact.sl (some ⟨p2, 0, none⟩) [.string (S b)]).holds ok w) (hF4 : (Fact.sl (some ⟨p3, 0, none⟩) [.string (S c)]).holds ok w) (hg : chkG k.1 = 0) (hm8 : k.1.1.length ≤ 8) :
  Cw 143 #[.pointer (some ⟨p0, 0, none⟩), .pointer (some ⟨p1, 0, none⟩), .pointer (some ⟨p2, 0, none⟩), .pointer (some ⟨p3, 0, none⟩)] w (.int .i64 (if elG k.1 a ∧ elG k.1 b ∧ elG k.1 c then 0 else 13)) := by
 refine En [Fact.sl (some ⟨p0, 0, none⟩) [.string (S k.1.1), .string (S k.1.2), .string (S k.2.1), .string (S k.2.2)], Fact.sl (some ⟨p1, 0, none⟩) [.string (S a)], Fact.sl (some ⟨p2, 0, none⟩) [.string (S b)], Fact.sl (some ⟨p3, 0, none⟩) [.string (S c)]] [(0, .pointer (some ⟨p0, 0, none⟩)), (1, .pointer (some ⟨p1, 0, none⟩)), (2, .pointer (some ⟨p2, 0, none⟩)), (3, .pointer (some ⟨p3, 0, none⟩))] Tryz.func143 rfl Tryz.ntmps143 rfl (Ac rfl (Ac rfl (Ac rfl (Ac rfl (An _))))) (Fc (fact_any hF1) (Fc (fact_any hF2) (Fc (fact_any hF3) (Fc (fact_any hF4) Fn)))) ?_
 refine Cs (Ka rfl (Nt (Cs ?_)))
 refine Kq rfl (ldfa (m := 0) rfl rfl .tc u86 rfl (by kernel_rfl : _ = some 4) rfl rfl rfl (by decide)) ?_
 refine Kq rfl (ldf (m := 0) rfl rfl .tc u22 rfl rfl rfl) ?_
 refine Kq rfl (ldf (m := 0) rfl rfl .tc u22 rfl rfl rfl) ?_
 refine Kq rfl (ldf (m := 0) rfl rfl .tc u22 rfl rfl rfl) ?_
 refine Kh rfl (og_bs1 rfl rfl u31 (by kernel_rfl : _ = some (some (.string (S [])), 1, 16)) rfl (by simp only [List.map]; rfl) rfl rfl ?_ (by decide)) ?_
 ·simp [Value.cells]
 intro b9
 refine Ku rfl (Oc rfl rfl (Kv fun w hS => icels_c (k := k) (l := [a, b, c]) (by (exact hS.os)) (by (simp <;> omega)) (by assumption) (by assumption))) ?_
 refine Ka rfl (Nt (Ce ?_))
 exact R1 rfl rfl (by simp [tup])
theorem kn4_c {v r : Bs} {p0 p1 : Nat} {w : World} {ok : Nat → Prop} (hF1 : (Fact.sl (some ⟨p0, 0, none⟩) [.string (S v)]).holds ok w) (hF2 : (Fact.sl (some ⟨p1, 0, none⟩) [.string (S r)]).holds ok w) :
  Cw 136 #[.pointer (some ⟨p0, 0, none⟩), .pointer (some ⟨p1, 0, none⟩)] w (.int .i64 (bndE v r)) := by
 refine En [Fact.sl (some ⟨p0, 0, none⟩) [.string (S v)], Fact.sl (some ⟨p1, 0, none⟩) [.string (S r)]] [(0, .pointer (some ⟨p0, 0, none⟩)), (1, .pointer (some ⟨p1, 0, none⟩))] Tryz.func136 rfl Tryz.ntmps136 rfl (Ac rfl (Ac rfl (An _))) (Fc (fact_any hF1) (Fc (fact_any hF2) Fn)) ?_
 refine Cs (Ka rfl (Nt (Cs (Kq rfl (ldf (m := 0) rfl rfl .tc u22 rfl rfl rfl) ?_))))
 refine Kq rfl (ldf (m := 0) rfl rfl .tc u22 rfl rfl rfl) ?_
 refine Ku rfl (Oc rfl rfl (Kv fun w hS => icready_c (v := v) (r := r))) ?_
 refine Ka rfl (Nt (Ce ?_))
 exact R1 rfl rfl (by rfl)
theorem pr4_c {v r : Bs} {p0 p1 : Nat} {w : World} {ok : Nat → Prop} (hF1 : (Fact.sl (some ⟨p0, 0, none⟩) [.string (S v)]).holds ok w) (hF2 : (Fact.sl (some ⟨p1, 0, none⟩) [.string (S r)]).holds ok w) :
  Cw 144 #[.pointer (some ⟨p0, 0, none⟩), .pointer (some ⟨p1, 0, none⟩)] w (.int .i64 (bndE v r)) := by
 refine En [Fact.sl (some ⟨p0, 0, none⟩) [.string (S v)], Fact.sl (some ⟨p1, 0, none⟩) [.string (S r)]] [(0, .pointer (some ⟨p0, 0, none⟩)), (1, .pointer (some ⟨p1, 0, none⟩))] Tryz.func144 rfl Tryz.ntmps144 rfl (Ac rfl (Ac rfl (An _))) (Fc (fact_any hF1) (Fc (fact_any hF2) Fn)) ?_
 refine Cs (Ka rfl (Nt (Cs (Kq rfl (ldf (m := 0) rfl rfl .tc u22 rfl rfl rfl) ?_))))
 refine Kq rfl (ldf (m := 0) rfl rfl .tc u22 rfl rfl rfl) ?_
 refine Ku rfl (Oc rfl rfl (Kv fun w hS => icready_c (v := v) (r := r))) ?_
 refine Ka rfl (Nt (Ce ?_))
 exact R1 rfl rfl (by rfl)
def crossX (v r : Bs) : Bs := if (mulN v r).2 ≠ 0 then (mulN v r).1 else (crossS v r).1
theorem pr5_c {v r x : Bs} {p0 p1 p2 : Nat} {ee : Ent} {rr : List Ent} {ok : Nat → Prop} {w0 : World} {fs : List Fact} {w : World} (hS0 : St ok w0 (⟨some p2, [.string (S x)], 22⟩ :: ee :: ⟨some p1, [.string (S r)], 22⟩ :: ⟨some p0, [.string (S v)], 22⟩ :: rr) (fs) w) :
  Calls Tryz.prog 145 #[.pointer (some ⟨p0, 0, none⟩), .pointer (some ⟨p1, 0, none⟩), .pointer (some ⟨p2, 0, none⟩)] w fun e w' => e = .returned (.int .i64 (crossS v r).2) ∧ St ok w0 (⟨some p2, [.string (S (crossX v r))], 22⟩ :: ee :: ⟨some p1, [.string (S r)], 22⟩ :: ⟨some p0, [.string (S v)], 22⟩ :: rr) (fs) w' := by
 refine enter (S := St ok w0 (⟨some p2, [.string (S x)], 22⟩ :: ee :: ⟨some p1, [.string (S r)], 22⟩ :: ⟨some p0, [.string (S v)], 22⟩ :: rr) (fs)) (L := [(0, .pointer (some ⟨p0, 0, none⟩)), (1, .pointer (some ⟨p1, 0, none⟩)), (2, .pointer (some ⟨p2, 0, none⟩))]) Tryz.func145 rfl Tryz.ntmps145 rfl (Ac rfl (Ac rfl (Ac rfl (An _)))) hS0 ?_
 refine Cs (Ka rfl (Nt (Cq (Cs (Kq rfl (Ld rfl rfl .tc u22) ?_)))))
 refine Kq rfl (Ld rfl rfl .tc u22) ?_
 refine Ku rfl (Oc rfl rfl (Kv fun w hS => mul_c (a := v) (b := r))) ?_
 refine Km rfl (Kq rfl (Re rfl rfl rfl) (Kq rfl (Re rfl rfl rfl) ?_))
 refine Ng rfl rfl (st rfl rfl rfl .tc (by kernel_rfl) rfl ?_ (by (simp only [List.set_cons_zero, List.set_cons_succ]; rfl))) ?_
 ·(simp; done)
 intro _
 refine Ka rfl (Nt (Cs (Km rfl (Kq rfl (rd_eql rfl rfl rfl) (Nt ?_)))))
 refine Cd rfl (fun hc11 => ?_) (fun hc11 => ?_)
 ·(try simp only [sB] at hc11)
  have h0 : ¬ (mulN v r).2 ≠ 0 := by simpa using hc11
  have hr : (crossS v r).2 = (addN (mulN v r).1 r).2 := by rw [crossS, if_neg h0]
  have hX : crossX v r = (addN (mulN v r).1 r).1 := by rw [crossX, if_neg h0, crossS, if_neg h0]
  refine Cg (Kq rfl (Ld rfl rfl .tc u22) ?_)
  refine Kq rfl (Ld rfl rfl .tc u22) ?_
  refine Ku rfl (Oc rfl rfl (Kv fun w hS => add_c (a := (mulN v r).1) (b := r))) ?_
  refine Km rfl (Kq rfl (Re rfl rfl rfl) (Kq rfl (Re rfl rfl rfl) ?_))
  refine Ng rfl rfl (st rfl rfl rfl .tc (by kernel_rfl) rfl ?_ (by (simp only [List.set_cons_zero, List.set_cons_succ]; rfl))) ?_
  ·(simp; done)
  intro _
  refine Ka rfl (Nt (Cs (Km rfl (Ka rfl (Nt (Ce ?_))))))
  exact Rn rfl (.tmp rfl .nil) fun w' hS => ⟨by rw [hr]; rfl, by rw [hX]; exact hS⟩
 ·(try simp only [sB] at hc11)
  have h0 : (mulN v r).2 ≠ 0 := by simpa using hc11
  have hr : (crossS v r).2 = (mulN v r).2 := by rw [crossS, if_pos h0]
  have hX : crossX v r = (mulN v r).1 := by rw [crossX, if_pos h0]
  refine Ck (Xa (Cs (Km rfl (Ka rfl (Nt (Ce ?_))))))
  exact Rn rfl (.tmp rfl .nil) fun w' hS => ⟨by rw [hr]; rfl, by rw [hX]; exact hS⟩
theorem keepC {P : Program} {f : FuncId} {args : Array Value} {v : Value} {ok : Nat → Prop} {w0 w : World} {own : List Ent} {fs : List Fact} (h : Calls P f args w (fun e w' => e = .returned v ∧ Below w.heap.size w w')) (hS : St ok w0 own fs w) : Calls P f args w (fun e w' => e = .returned v ∧ St ok w0 own fs w') := h.mono fun _ _ ⟨h, hb⟩ => ⟨h, hS.keep hb⟩
theorem kn_err (k : PK) (c v r : Bs) : errL [if okK k ∧ okN c ∧ okN v ∧ okN r then 0 else 3, chkI k, if elG k.1 c then 0 else 13, bndE v r] = knE k c v r := by
 by_cases h1 : okK k ∧ okN c ∧ okN v ∧ okN r
 ·by_cases h2 : chkI k = 0
  ·by_cases h3 : elG k.1 c
   ·by_cases h4 : bndE v r = 0 <;> simp [errL, knE, h1, h2, h3, h4]
   ·simp [errL, knE, h1, h2, h3]
  ·simp [errL, knE, h1, h2]
 ·simp [errL, knE, h1]
theorem pr_err (k : PK) (a b c v r : Bs) : errL [if okK k ∧ okN a ∧ okN b ∧ okN c ∧ okN v ∧ okN r then 0 else 3, chkI k, if elG k.1 a ∧ elG k.1 b ∧ elG k.1 c then 0 else 13, bndE v r, (crossS v r).2] = prE k a b c v r := by
 by_cases h1 : okK k ∧ okN a ∧ okN b ∧ okN c ∧ okN v ∧ okN r
 ·by_cases h2 : chkI k = 0
  ·by_cases h3 : elG k.1 a ∧ elG k.1 b ∧ elG k.1 c
   ·by_cases h4 : bndE v r = 0
    ·by_cases h5 : (crossS v r).2 = 0 <;> simp [errL, prE, h1, h2, h3, h4, h5]
    ·simp [errL, prE, h1, h2, h3, h4]
   ·simp [errL, prE, h1, h2, h3]
  ·simp [errL, prE, h1, h2]
 ·simp [errL, prE, h1]
def knL (p0 p1 p2 p3 : Nat) : List (Nat × Array Value) := [(132, #[.pointer (some ⟨p0, 0, none⟩), .pointer (some ⟨p1, 0, none⟩), .pointer (some ⟨p2, 0, none⟩), .pointer (some ⟨p3, 0, none⟩)]), (133, #[.pointer (some ⟨p0, 0, none⟩)]), (134, #[.pointer (some ⟨p0, 0, none⟩), .pointer (some ⟨p1, 0, none⟩)]), (136, #[.pointer (some ⟨p2, 0, none⟩), .pointer (some ⟨p3, 0, none⟩)])]
theorem icknows_c {k : PK} {c v r : Bs} {w : World} {ok : Nat → Prop} (hm8 : k.1.1.length ≤ 8) :
  Calls Tryz.prog 83 #[pkV k, .string (S c), .string (S v), .string (S r)] w fun e w' => ∃ gx : SA, e = .returned (SME gx (knS k c v r).2) ∧ (gx.core = (knS k c v r).1) ∧ Below w.heap.size w w' ∧ ∀ x ∈ (saF gx : List Fact), x.holds (fun b => ok b ∨ w.heap.size ≤ b) w' := by
 refine enter (S := St (fun b => ok b ∨ w.heap.size ≤ b) w [] ([])) (L := [(0, pkV k), (1, .string (S c)), (2, .string (S v)), (3, .string (S r))]) Tryz.func83 rfl Tryz.ntmps83 rfl (Ac rfl (Ac rfl (Ac rfl (Ac rfl (An _))))) (St.start (fun _ h => Or.inr h) (facts_or Fn)) ?_
 refine Cs ?_
 refine Kh rfl (Oy rfl rfl) ?_
 intro b4
 refine Kh rfl (Oy rfl rfl) ?_
 intro b5
 refine Kh rfl (Oy rfl rfl) ?_
 intro b6
 refine Kh rfl (Oy rfl rfl) ?_
 intro b7
 refine Kh rfl (Oz [.slice none 0 0, .slice none 0 0, .slice none 0 0] rfl) ?_
 intro b8
 refine Ka rfl (Nt (Cs (Kq rfl (rd_mkf rfl rfl rfl) (Kq rfl (rd_mkf rfl rfl rfl) (Kq rfl (rd_mkf rfl rfl rfl) (Kq rfl (rd_mkf rfl rfl rfl) ?_))))))
 refine Kh rfl (og_bs1 rfl rfl u209 (by kernel_rfl : _ = some (some .nilFunc, 1, 8)) rfl (by simp only [List.map]; rfl) rfl rfl ?_ (by decide)) ?_
 ·simp [Value.cells]
 intro b15
 refine WL.st (fun w h => h.freeze (off := 0) (xs := (knL b4 b5 b6 b7).map fnV) (fun i hi => by rw [Nat.zero_add]; rfl)) ?_
 refine Kh rfl (Oc rfl rfl (keep_st fun w hS => (first_c (l := (knL b4 b5 b6 b7)) (rs := [if okK k ∧ okN c ∧ okN v ∧ okN r then 0 else 3, chkI k, if elG k.1 c then 0 else 13, bndE v r]) (a := some ⟨b15, 0, none⟩) (c := 4) (ow := fun _ => _) hS (show (4 : Nat) ≤ 1000 by decide) rfl (fun i hi => by rcases i with _ | _ | _ | _ | i; kernel_rfl; kernel_rfl; kernel_rfl; kernel_rfl; exact absurd hi (by simp [knL])) (fun i hi h0 w' hS => by rcases i with _ | _ | _ | _ | i; exact keepC (kn1_c hS.os hS.os hS.os hS.os) hS; exact keepC (kn2_c hS.os hm8) hS; exact keepC (kn3_c hS.os hS.os (chkI_ok (h0 1 (by decide))).2.1 hm8) hS; exact keepC (kn4_c hS.os hS.os) hS; exact absurd hi (by simp [knL]))).mono fun _ _ ⟨h, _, _, hS⟩ => ⟨by rw [h, kn_err], hS⟩)) ?_
 intro g16
 refine Ka rfl (Nt (Cq (Cs (Km rfl (Kq rfl (rd_neq rfl rfl rfl) (Nt ?_))))))
 refine Cd rfl (fun hc18 => ?_) (fun hc18 => ?_)
 ·(try simp only [sB] at hc18)
  have hr : knS k c v r = (([], [], []), knE k c v r) := by rw [knS, if_pos hc18]
  refine Cs (Kq rfl (Kb [[.slice none 0 0], [.slice none 0 0], [.slice none 0 0]] rfl rfl) (Km rfl ?_))
  refine Nu rfl rfl (Sa rfl rfl rfl .tc) ?_
  refine Ka rfl (Nt (Ce (Xb ?_)))
  exact Rn rfl (.agg rfl .tc u52 rfl (by kernel_rfl) (.tmp rfl .nil)) fun w' hS => sm_err hr hS
 ·(try simp only [sB] at hc18)
  have hr : knS k c v r = (knQ k c v r, 0) := by rw [knS, if_neg (fun h => h hc18)]
  refine Ck (Xa (Cq ?_))
  refine Cf [3, 4, 5, 6, 7, 8, 9, 10, 11, 12, 13, 14, 15, 0, 1, 2, 16, 17] [18, 19] [0, 0, 3, 0, 0, 0, 1, 0, 0, 0, 0, 0, 0, 0, 3, 1, 3, 0, 2, 2] (by kernel_rfl) (by kernel_rfl) rfl ?_
  refine Kj rfl (Ld rfl rfl .tc u22) ?_
  refine Kj rfl (Ld rfl rfl .tc u22) ?_
  refine Kj rfl (Kb [[.string (S [])], [.string (S [])], [.string (S [])]] rfl rfl) ?_
  refine Jg rfl rfl rfl rfl rfl (fun ext => Oc rfl rfl (keep_f1 fun w hS => icvars_c (x := v) (y := r) (z := []) (n := 2) (by omega))) ?_
  intro g27 hg27; (try dsimp only at hg27 ⊢)
  refine Kj rfl (Ld rfl rfl .tc u22) ?_
  refine Kj rfl (Fa (q := 2) rfl rfl u86 rfl rfl) (Kj rfl (Ld rfl rfl .tc u22) ?_)
  refine Kj rfl (Kb [[.string (S [])], [.int .i64 0]] rfl rfl) (Kj rfl (Fa (q := 3) rfl rfl u86 rfl rfl) (Kj rfl (Ld rfl rfl .tc u22) ?_))
  refine Kj rfl (Kb [[.string (S [])], [.int .i64 0]] rfl rfl) ?_
  refine Jf rfl rfl rfl rfl rfl (fr_bsN rfl rfl u210 (by kernel_rfl : _ = some (some (.agg #[.string (S []), .int .i64 0]), 2, 24)) (by kernel_rfl) (by decide) rfl rfl (by (simp [Value.cells]; done)) (by (simp only [List.map, Value.cells, List.flatMap_cons, List.flatMap_nil, List.append_nil, List.toList_toArray]; rfl)) (by decide)) ?_
  intro b35
  refine Jg rfl rfl rfl rfl rfl (fun ext => Oc rfl rfl (keep_fr fun w hS => iceq_c (gr := 0) (t := c) (l := [(k.2.1, 0), (k.2.2, 1)]) (by (exact hS.os)) (by (simp <;> omega)))) ?_
  rintro q36 hg36; (try dsimp only [List.cons_append, List.nil_append] at hg36 ⊢)
  refine Kj rfl (Fa (q := 0) rfl rfl u86 rfl rfl) ?_
  refine Kj rfl (ldp rfl rfl .tc u24 rfl (by kernel_rfl : _ = some 2) (by rfl) (by rfl)) ?_
  refine Jf rfl rfl rfl rfl rfl (fr_bsN rfl rfl u48 (by kernel_rfl : _ = some (some (.agg #[.string (S []), .string (S [])]), 2, 32)) (by kernel_rfl) (by decide) rfl rfl (by (simp [Value.cells]; done)) (by (exact cells_one _)) (by decide)) ?_
  intro b23
  refine Jf rfl rfl rfl rfl rfl (fr_bsN rfl rfl u50 (by kernel_rfl : _ = some (some (.agg #[.int .i64 0, .string (S []), .slice none 0 0]), 3, 48)) (by kernel_rfl) (by decide) rfl rfl (by (simp [Value.cells]; done)) (by (exact cells_one _)) (by decide)) ?_
  intro b37
  refine Kj rfl (Kb [[.slice none 0 0], [.slice none 0 0], [.slice none 0 0]] rfl rfl) ?_
  refine WJ.nil ?_
  refine Nu rfl rfl (Sa rfl rfl rfl .tc) ?_
  refine Ka rfl (Nt (Ce ?_))
  exact Rn rfl (.agg rfl .tc u52 rfl (by kernel_rfl) (.tmp rfl .nil)) fun w' hS => ⟨⟨[k.1], [v, r], [q36], some ⟨b23, 0, none⟩, 1, g27.a, g27.cap, some ⟨b37, 0, none⟩, 1⟩, by rw [hr]; rfl, by rw [hr]; simp [knQ, hg36], hS.below, Fc hS.osk (Fc hS.slk (Fc hS.osk (Fc hS.slk Fn)))⟩
def prL (p0 p1 p2 p3 p4 p5 p6 : Nat) : List (Nat × Array Value) := [(141, #[.pointer (some ⟨p0, 0, none⟩), .pointer (some ⟨p1, 0, none⟩), .pointer (some ⟨p2, 0, none⟩), .pointer (some ⟨p3, 0, none⟩), .pointer (some ⟨p4, 0, none⟩), .pointer (some ⟨p5, 0, none⟩)]), (142, #[.pointer (some ⟨p0, 0, none⟩)]), (143, #[.pointer (some ⟨p0, 0, none⟩), .pointer (some ⟨p1, 0, none⟩), .pointer (some ⟨p2, 0, none⟩), .pointer (some ⟨p3, 0, none⟩)]), (144, #[.pointer (some ⟨p4, 0, none⟩), .pointer (some ⟨p5, 0, none⟩)]), (145, #[.pointer (some ⟨p4, 0, none⟩), .pointer (some ⟨p5, 0, none⟩), .pointer (some ⟨p6, 0, none⟩)])]
def crN (v r : Bs) : Nat → Bs
 | 5 => crossX v r
 | _ => []
theorem keep_n {P : Program} {ok : Nat → Prop} {w0 : World} {own : List Ent} {fs : List Fact} {f : FuncId} {args : Array Value} {val : Value} {p : Nat → Prop} {ow : Nat → List Ent} (h : ∀ w, St ok w0 own fs w → Calls P f args w (fun e w' => e = .returned val ∧ ∃ n, p n ∧ St ok w0 (ow n) fs w')) :
  ∀ w, St ok w0 own fs w → Calls P f args w (fun e w' => ∃ n : Nat, e = .returned val ∧ p n ∧ St ok w0 (ow n) fs w') := fun w hS => (h w hS).mono fun _ _ ⟨he, n, hp, hS⟩ => ⟨n, he, hp, hS⟩
theorem prE_ok {k : PK} {a b c v r : Bs} (h : prE k a b c v r = 0) : (crossS v r).2 = 0 := by
 unfold prE at h; split at h
 ·simp at h
 ·split at h
  ·rename_i h1; exact absurd h h1
  ·split at h
   ·simp at h
   ·split at h
    ·rename_i h1; exact absurd h h1
    ·exact h
theorem crN_ok {v r : Bs} (h : (crossS v r).2 = 0) : crN v r 5 = (crossS v r).1 := by
 show crossX v r = _
 rw [crossX, if_neg]
 intro h1; unfold crossS at h; rw [if_pos h1] at h; exact h1 h
theorem icprod_c {k : PK} {a b c v r : Bs} {w : World} {ok : Nat → Prop} (hm8 : k.1.1.length ≤ 8) :
  Calls Tryz.prog 87 #[pkV k, .string (S a), .string (S b), .string (S c), .string (S v), .string (S r)] w fun e w' => ∃ gx : SA, e = .returned (SME gx (prS k a b c v r).2) ∧ (gx.core = (prS k a b c v r).1) ∧ Below w.heap.size w w' ∧ ∀ x ∈ (saF gx : List Fact), x.holds (fun b => ok b ∨ w.heap.size ≤ b) w' := by
 refine enter (S := St (fun b => ok b ∨ w.heap.size ≤ b) w [] ([])) (L := [(0, pkV k), (1, .string (S a)), (2, .string (S b)), (3, .string (S c)), (4, .string (S v)), (5, .string (S r))]) Tryz.func87 rfl Tryz.ntmps87 rfl (Ac rfl (Ac rfl (Ac rfl (Ac rfl (Ac rfl (Ac rfl (An _))))))) (St.start (fun _ h => Or.inr h) (facts_or Fn)) ?_
 refine Cs ?_
 refine Kh rfl (Oy rfl rfl) ?_
 intro b6
 refine Kh rfl (Oy rfl rfl) ?_
 intro b7
 refine Kh rfl (Oy rfl rfl) ?_
 intro b8
 refine Kh rfl (Oy rfl rfl) ?_
 intro b9
 refine Kh rfl (Oy rfl rfl) ?_
 intro b10
 refine Kh rfl (Oy rfl rfl) ?_
 intro b11
 refine Kh rfl (Oz [.slice none 0 0, .slice none 0 0, .slice none 0 0] rfl) ?_
 intro b12
 refine Ka rfl (Nt (Cs ?_))
 refine Kh rfl (Oa rfl (v := (.string (S []))) (cs := [.string (S [])]) (by kernel_rfl) rfl) ?_
 intro b14
 refine Nt (Cs (Kq rfl (rd_mkf rfl rfl rfl) (Kq rfl (rd_mkf rfl rfl rfl) (Kq rfl (rd_mkf rfl rfl rfl) (Kq rfl (rd_mkf rfl rfl rfl) (Kq rfl (rd_mkf rfl rfl rfl) ?_))))))
 refine Kh rfl (og_bs1 rfl rfl u209 (by kernel_rfl : _ = some (some .nilFunc, 1, 8)) rfl (by simp only [List.map]; rfl) rfl rfl ?_ (by decide)) ?_
 ·simp [Value.cells]
 intro b21
 refine WL.st (fun w h => h.freeze (off := 0) (xs := (prL b6 b7 b8 b9 b10 b11 b14).map fnV) (fun i hi => by rw [Nat.zero_add]; rfl)) ?_
 refine Kh rfl (Oc rfl rfl (keep_n (p := fun n => prE k a b c v r = 0 → n = 5) (ow := fun n => ⟨some b14, [.string (S (crN v r n))], 22⟩ :: _) fun w hS => (first_c (l := (prL b6 b7 b8 b9 b10 b11 b14)) (rs := [if okK k ∧ okN a ∧ okN b ∧ okN c ∧ okN v ∧ okN r then 0 else 3, chkI k, if elG k.1 a ∧ elG k.1 b ∧ elG k.1 c then 0 else 13, bndE v r, (crossS v r).2]) (a := some ⟨b21, 0, none⟩) (c := 5) (ow := fun n => ⟨some b14, [.string (S (crN v r n))], 22⟩ :: _) hS (show (5 : Nat) ≤ 1000 by decide) rfl (fun i hi => by rcases i with _ | _ | _ | _ | _ | i; kernel_rfl; kernel_rfl; kernel_rfl; kernel_rfl; kernel_rfl; exact absurd hi (by simp [prL])) (fun i hi h0 w' hS => by rcases i with _ | _ | _ | _ | _ | i; exact keepC (pr1_c hS.os hS.os hS.os hS.os hS.os hS.os) hS; exact keepC (pr2_c hS.os hm8) hS; exact keepC (pr3_c hS.os hS.os hS.os hS.os (chkI_ok (h0 1 (by decide))).2.1 hm8) hS; exact keepC (pr4_c hS.os hS.os) hS; exact pr5_c hS; exact absurd hi (by simp [prL]))).mono fun _ _ ⟨h, n, hn, hS⟩ => ⟨by rw [h, pr_err], n, fun h0 => hn (by rw [pr_err]; exact h0), hS⟩)) ?_
 intro n22; refine WL.pu ?_; intro hn22
 refine Ka rfl (Nt (Cq (Cs (Km rfl (Kq rfl (rd_neq rfl rfl rfl) (Nt ?_))))))
 refine Cd rfl (fun hc24 => ?_) (fun hc24 => ?_)
 ·(try simp only [sB] at hc24)
  have hr : prS k a b c v r = (([], [], []), prE k a b c v r) := by rw [prS, if_pos hc24]
  refine Cs (Kq rfl (Kb [[.slice none 0 0], [.slice none 0 0], [.slice none 0 0]] rfl rfl) (Km rfl ?_))
  refine Nu rfl rfl (Sa rfl rfl rfl .tc) ?_
  refine Ka rfl (Nt (Ce (Xb ?_)))
  exact Rn rfl (.agg rfl .tc u52 rfl (by kernel_rfl) (.tmp rfl .nil)) fun w' hS => sm_err hr hS
 ·(try simp only [sB] at hc24)
  have hr : prS k a b c v r = (prQ k a b c v r (crossS v r).1, 0) := by rw [prS, if_neg (fun h => h hc24)]
  obtain rfl := hn22 hc24
  rw [crN_ok (prE_ok hc24)]
  refine Ck (Xa (Cq ?_))
  refine Cf [3, 4, 5, 6, 7, 8, 9, 10, 11, 12, 13, 14, 15, 16, 17, 18, 19, 20, 21, 22, 23, 24, 0, 1, 2, 25, 26] [27, 28] [0, 0, 3, 0, 0, 0, 0, 1, 0, 0, 0, 0, 0, 0, 0, 3, 1, 0, 0, 0, 0, 0, 0, 3, 1, 3, 0, 2, 2] (by kernel_rfl) (by kernel_rfl) rfl ?_
  refine Kj rfl (Ld rfl rfl .tc u22) ?_
  refine Kj rfl (Ld rfl rfl .tc u22) ?_
  refine Kj rfl (Ld rfl rfl .tc u22) ?_
  refine Kj rfl (Kb [[.string (S [])], [.string (S [])], [.string (S [])]] rfl rfl) ?_
  refine Jg rfl rfl rfl rfl rfl (fun ext => Oc rfl rfl (keep_f1 fun w hS => icvars_c (x := v) (y := r) (z := (crossS v r).1) (n := 3) (by omega))) ?_
  intro g34 hg34; (try dsimp only at hg34 ⊢)
  refine Kj rfl (Ld rfl rfl .tc u22) ?_
  refine Kj rfl (Fa (q := 2) rfl rfl u86 rfl rfl) (Kj rfl (Ld rfl rfl .tc u22) ?_)
  refine Kj rfl (Kb [[.string (S [])], [.int .i64 0]] rfl rfl) (Kj rfl (Fa (q := 3) rfl rfl u86 rfl rfl) (Kj rfl (Ld rfl rfl .tc u22) ?_))
  refine Kj rfl (Kb [[.string (S [])], [.int .i64 0]] rfl rfl) ?_
  refine Jf rfl rfl rfl rfl rfl (fr_bsN rfl rfl u210 (by kernel_rfl : _ = some (some (.agg #[.string (S []), .int .i64 0]), 2, 24)) (by kernel_rfl) (by decide) rfl rfl (by (simp [Value.cells]; done)) (by (simp only [List.map, Value.cells, List.flatMap_cons, List.flatMap_nil, List.append_nil, List.toList_toArray]; rfl)) (by decide)) ?_
  intro b42
  refine Jg rfl rfl rfl rfl rfl (fun ext => Oc rfl rfl (keep_fr fun w hS => iceq_c (gr := 0) (t := b) (l := [(k.2.1, 0), (k.2.2, 1)]) (by (exact hS.os)) (by (simp <;> omega)))) ?_
  rintro q43 hg43; (try dsimp only [List.cons_append, List.nil_append] at hg43 ⊢)
  refine Kj rfl (Ld rfl rfl .tc u22) ?_
  refine Kj rfl (Ld rfl rfl .tc u22) ?_
  refine Kj rfl (Kb [[.string (S [])], [.int .i64 0]] rfl rfl) (Kj rfl (Fa (q := 3) rfl rfl u86 rfl rfl) (Kj rfl (Ld rfl rfl .tc u22) ?_))
  refine Kj rfl (Kb [[.string (S [])], [.int .i64 0]] rfl rfl) ?_
  refine Jf rfl rfl rfl rfl rfl (fr_bsN rfl rfl u210 (by kernel_rfl : _ = some (some (.agg #[.string (S []), .int .i64 0]), 2, 24)) (by kernel_rfl) (by decide) rfl rfl (by (simp [Value.cells]; done)) (by (simp only [List.map, Value.cells, List.flatMap_cons, List.flatMap_nil, List.append_nil, List.toList_toArray]; rfl)) (by decide)) ?_
  intro b50
  refine Jg rfl rfl rfl rfl rfl (fun ext => Oc rfl rfl (keep_fr fun w hS => iceq_c (gr := 0) (t := c) (l := [(a, 0), (k.2.2, 2)]) (by (exact hS.os)) (by (simp <;> omega)))) ?_
  rintro q51 hg51; (try dsimp only [List.cons_append, List.nil_append] at hg51 ⊢)
  refine Kj rfl (Fa (q := 0) rfl rfl u86 rfl rfl) ?_
  refine Kj rfl (ldp rfl rfl .tc u24 rfl (by kernel_rfl : _ = some 2) (by rfl) (by rfl)) ?_
  refine Jf rfl rfl rfl rfl rfl (fr_bsN rfl rfl u48 (by kernel_rfl : _ = some (some (.agg #[.string (S []), .string (S [])]), 2, 32)) (by kernel_rfl) (by decide) rfl rfl (by (simp [Value.cells]; done)) (by (exact cells_one _)) (by decide)) ?_
  intro b29
  refine Jf rfl rfl rfl rfl rfl (fr_bsN rfl rfl u50 (by kernel_rfl : _ = some (some (.agg #[.int .i64 0, .string (S []), .slice none 0 0]), 3, 48)) (by kernel_rfl) (by decide) rfl rfl (by (simp [Value.cells]; done)) (by (simp only [List.map, Value.cells, List.flatMap_cons, List.flatMap_nil, List.append_nil, List.toList_toArray]; rfl)) (by decide)) ?_
  intro b52
  refine Kj rfl (Kb [[.slice none 0 0], [.slice none 0 0], [.slice none 0 0]] rfl rfl) ?_
  refine WJ.nil ?_
  refine Nu rfl rfl (Sa rfl rfl rfl .tc) ?_
  refine Ka rfl (Nt (Ce ?_))
  exact Rn rfl (.agg rfl .tc u52 rfl (by kernel_rfl) (.tmp rfl .nil)) fun w' hS => ⟨⟨[k.1], [v, r, (crossS v r).1], [q43, q51], some ⟨b29, 0, none⟩, 1, g34.a, g34.cap, some ⟨b52, 0, none⟩, 2⟩, by rw [hr]; rfl, by rw [hr]; simp [prQ, hg43, hg51], hS.below, Fc hS.osk (Fc hS.slk (Fc hS.osk (Fc hS.slk (Fc hS.slk Fn))))⟩
theorem rd_aidN {ds : List Deferred} {P : Program} {o : Oper} {n : Nat} {L : Slots} {ok : Nat → Prop} {w0 : World} {own : List Ent} {fs : List Fact} {x y : Operand} {t e : TypeId} {k : IntKind} {i : Int} {len sz : Nat} {cs ys : List Value} {d : TypeDesc} (hop : o.op = .index t x y) (hx : oper L x = some (.agg cs.toArray)) (hy : oper L y = some (.int k i)) (hu : P.underlying t = some (.array len e)) (hd : P.underlying e = some d) (ha : isAggD d = true) (hs : (P.info? e).map (·.size) = some sz) (hb : 0 ≤ i ∧ i < (len : Int)) (hv : (cs.drop (i.toNat * sz)).take sz = ys) : Rd ds P o n L (St ok w0 own fs) (.agg ys.toArray) :=
 rd_run fun a hF w hS => by
  have e1 : cs.toArray.extract (i.toNat * sz) (i.toNat * sz + sz) = ys.toArray := by
   apply Array.ext'; rw [← hv]; simp [Array.toList_extract, List.extract_eq_take_drop]
  have e2 : cs.toArray.extract (sz * i.toNat) (sz * i.toNat + sz) = ys.toArray := by rw [Nat.mul_comm]; exact e1
  simp [execOp, hop, hF.eval hx, hF.eval hy, Instr.index, asIntOf, run_underlying hu, hb, size_run hs, part, run_isAgg hd, ha, e1, e2, -List.extract_toArray]
abbrev opC (o : Opn) : List Value := [.bool o.1.1, .string (S o.1.2), .bool o.2.1, .string (S o.2.2)]
theorem pw_bad {a b c : Opn} {i : Nat} (hi : i < [a, b, c].length) (h : ¬ (okZ ([a, b, c].getD i default).1 ∧ okZ ([a, b, c].getD i default).2)) : pwS a b c = ([], 3) := by
 rw [pwS, if_pos (fun h2 => h (h2 _ (getD_mem _ _ hi)))]
theorem new_nilS {w w' : World} {own : List Ent} {T : TypeId} {fs : List Fact} {ok : Nat → Prop} (h : St ok w own fs w') : St ok w [⟨none, [] ++ [], T⟩] [] w' := (h.nil T).sub (List.Sublist.cons_cons _ (List.nil_sublist _)) (fun _ h => by cases h)
theorem pw_err {a b c : Opn} {n : Int} {w w' : World} {own : List Ent} {fs : List Fact} (hr : pwS a b c = ([], n)) (hS : St (fun _ => True) w own fs w') :
  ∃ g : Rs, Ending.returned (tup [.slice none 0 0, .int .i64 n]) = Ending.returned (.tuple #[g.val (pwS a b c).1.length, .int .i64 (pwS a b c).2]) ∧ g.cap = (pwS a b c).1.length + g.sp.length ∧ St (fun _ => True) w [g.ent (ints (pwS a b c).1) 64] [] w' := by
 rw [hr]; exact ⟨⟨none, 0, []⟩, rfl, rfl, new_nilS hS⟩
theorem pw_all {a b c : Opn} (h : ∀ o ∈ [a, b, c], okZ o.1 ∧ okZ o.2) : pwS a b c = if (mulZ a.1 b.1).2 ≠ 0 ∨ (mulZ a.1 b.1).1 ≠ c.1 then ([], 1)
 else if (mulZ b.1 a.2).2 ≠ 0 then ([], (mulZ b.1 a.2).2)
 else if (subZ c.2 (mulZ b.1 a.2).1).2 ≠ 0 then ([], (subZ c.2 (mulZ b.1 a.2).1).2)
 else ([b.1, b.2, (subZ c.2 (mulZ b.1 a.2).1).1], 0) := by rw [pwS, if_neg (fun h2 => h2 h)]
theorem icpw_c {a b c : Opn} {w : World} :
  Calls Tryz.prog 85 #[opV a, opV b, opV c] w fun e w' => ∃ g : Rs, e = .returned (.tuple #[g.val (pwS a b c).1.length, .int .i64 (pwS a b c).2]) ∧ g.cap = (pwS a b c).1.length + g.sp.length ∧ St (fun _ => True) w [g.ent (ints (pwS a b c).1) 64] [] w' := by
 refine En [] [(0, opV a), (1, opV b), (2, opV c)] Tryz.func85 rfl Tryz.ntmps85 rfl (Ac rfl (Ac rfl (Ac rfl (An _)))) Fn ?_
 refine Cs ?_
 refine Kh rfl (Oy rfl rfl) ?_
 intro b3
 refine Kh rfl (Oy rfl rfl) ?_
 intro b4
 refine Kh rfl (Oy rfl rfl) ?_
 intro b5
 refine Ka rfl (Ka rfl (Nt (Cq (Cs ?_))))
 refine Kq rfl (lda rfl rfl .tc u92 rfl ?_) ?_
 ·kernel_rfl
 refine Kq rfl (lda rfl rfl .tc u92 rfl ?_) ?_
 ·kernel_rfl
 refine Kq rfl (lda rfl rfl .tc u92 rfl ?_) ?_
 ·kernel_rfl
 refine Kq rfl (Kb [[.bool false, .string (S []), .bool false, .string (S [])], [.bool false, .string (S []), .bool false, .string (S [])], [.bool false, .string (S []), .bool false, .string (S [])]] rfl rfl) (Km rfl (Nt (Cb ?_)))
 refine Lp (σ := Nat) [(3, _), (4, _), (5, _), (17, _)] (fun gq => [(18, .int .i64 (gq : Int))]) (fun gq => gq ≤ 3 ∧ ∀ o ∈ [a, b, c].take gq, okZ o.1 ∧ okZ o.2) (fun gq => 3 - gq) (0) (S4 rfl rfl rfl rfl) (S1 rfl) (by (try dsimp only); exact ⟨Nat.zero_le _, by simp⟩) ?_
 rintro i hinv1; (try dsimp only at hinv1 ⊢)
 obtain ⟨hi, hok⟩ := hinv1
 refine Cs (Kq rfl (rd_lss rfl rfl rfl) (Nt (Cq ?_)))
 refine Cd rfl (fun hc19 => ?_) (fun hc19 => ?_)
 ·(try simp only [sB] at hc19)
  have hil : i < [a, b, c].length := by show i < 3; omega
  refine Ck (Xa (Cq (Cb (Cs ?_))))
  refine Kq rfl (rd_aidN (sz := 4) (ys := opC ([a, b, c].getD i default)) rfl rfl rfl u181 u92 rfl (by kernel_rfl) (by omega) (by rw [Int.toNat_natCast]; exact flatMap_at [a, b, c] opC 4 (fun _ => rfl) i hil)) ?_
  refine Kh rfl (Oz [.bool false, .string (S []), .bool false, .string (S [])] rfl) ?_
  intro b9
  refine Nu rfl rfl (Sa rfl rfl rfl .tc) ?_
  refine Nt ?_
  refine WC.joinP (σ := Unit) [(3, _), (4, _), (5, _), (17, _), (18, _)] (fun gq => [(30, .bool (decide (¬ (okZ ([a, b, c].getD i default).1 ∧ okZ ([a, b, c].getD i default).2))))]) (fun gq => True) (S5 rfl rfl rfl rfl rfl) ?_ ?_
  ·skip
   refine Cg (Kq rfl (Fa (q := 0) rfl rfl u92 rfl rfl) ?_)
   refine Kq rfl (ldp rfl rfl .tc u64 rfl (by kernel_rfl : _ = some 2) (by rfl) (by rfl)) ?_
   refine Ku rfl (Oc rfl rfl (Kv fun w hS => zvalid_c (x := ([a, b, c].getD i default).1))) ?_
   refine Kq rfl (Rt rfl rfl) (Km rfl ?_)
   refine Nb 25 rfl (fun hg25 => ?_) (fun hg25 => ?_)
   ·(try simp only [sB] at hg25)
    refine Kt rfl (Kt rfl (Kt rfl (Kt rfl (Kq rfl (Rp rfl rfl rfl) (Nn ?_)))))
    refine WX.joinP (()) (S5 rfl rfl rfl rfl rfl) (by refine (Sc ?_ (S0 _)) <;> ((refine congrArg (fun b => some (Value.bool b)) ?_; simp [*, -List.getD_eq_getElem?_getD]; done))) ?_ (by (exact fun _ h => h))
    (try dsimp only)
    done
   ·(try simp only [sB] at hg25)
    refine Kq rfl (Fa (q := 2) rfl rfl u92 rfl rfl) ?_
    refine Kq rfl (ldp rfl rfl .tc u64 rfl (by kernel_rfl : _ = some 2) (by rfl) (by rfl)) ?_
    refine Ku rfl (Oc rfl rfl (Kv fun w hS => zvalid_c (x := ([a, b, c].getD i default).2))) ?_
    refine Kq rfl (Rt rfl rfl) (Kq rfl (Rq rfl rfl rfl) (Nn ?_))
    refine WX.joinP (()) (S5 rfl rfl rfl rfl rfl) (by refine (Sc ?_ (S0 _)) <;> ((refine congrArg (fun b => some (Value.bool b)) ?_; simp [*, -List.getD_eq_getElem?_getD]; done))) ?_ (by (exact fun _ h => h))
    (try dsimp only)
    done
  ·rintro _ hmeet; (try dsimp only at hmeet ⊢)
   refine Cd rfl (fun hc30 => ?_) (fun hc30 => ?_)
   ·(try simp only [sB] at hc30)
    refine Cs (Ka rfl (Ka rfl (Nt (Ce (Xf (Xb (Xb (Xf (Xb ?_)))))))))
    exact Rn rfl (.tmp rfl (.tmp rfl .nil)) fun w' hS => pw_err (pw_bad hil hc30) hS
   ·(try simp only [sB] at hc30)
    refine Ck (Xd (Xa (Cg (Kq rfl (Rz rfl rfl rfl (by omega)) (Km rfl (Nn ?_))))))
    refine Ly (i + 1) (by (try dsimp only); omega) (S4 rfl rfl rfl rfl) (by refine (Sc ?_ (S0 _)) <;> (rfl)) ?_ (by (exact st_sub))
    (try dsimp only)
    exact ⟨hil, all_take hil hok (Decidable.not_not.1 hc30)⟩
 ·(try simp only [sB] at hc19)
  refine Cx (Xc (Xc (Xe ?_)))
  obtain rfl : i = 3 := by omega
  have hr0 := pw_all hok
  refine Xa (Cq (Cs (Kq rfl (Fa (q := 0) rfl rfl u92 rfl rfl) ?_)))
  refine Kq rfl (ldp rfl rfl .tc u64 rfl (by kernel_rfl : _ = some 2) (by rfl) (by rfl)) ?_
  refine Kq rfl (Fa (q := 0) rfl rfl u92 rfl rfl) ?_
  refine Kq rfl (ldp rfl rfl .tc u64 rfl (by kernel_rfl : _ = some 2) (by rfl) (by rfl)) ?_
  refine Ku rfl (Oc rfl rfl (Kv fun w hS => zmul_c (x := a.1) (y := b.1))) ?_
  refine Km rfl (Kq rfl (Re rfl rfl rfl) (Kq rfl (Re rfl rfl rfl) ?_))
  refine Kh rfl (Oz [.bool false, .string (S [])] rfl) ?_
  intro b10
  refine Nu rfl rfl (Sa rfl rfl rfl .tc) ?_
  refine Ka rfl (Nt ?_)
  refine WC.joinP (σ := Unit) [(3, _), (4, _), (5, _)] (fun gq => [(47, .bool (decide ((mulZ a.1 b.1).2 ≠ 0 ∨ ¬ ((mulZ a.1 b.1).1.1 = c.1.1 ∧ (mulZ a.1 b.1).1.2 = c.1.2))))]) (fun gq => True) (S3 rfl rfl rfl) ?_ ?_
  ·skip
   refine Cg (Km rfl (Kq rfl (rd_neq rfl rfl rfl) (Km rfl ?_)))
   refine Nb 42 rfl (fun hg42 => ?_) (fun hg42 => ?_)
   ·(try simp only [sB] at hg42)
    refine Kt rfl (Kt rfl (Kt rfl (Kt rfl (Kq rfl (Rp rfl rfl rfl) (Nn ?_)))))
    refine WX.joinP (()) (S3 rfl rfl rfl) (by refine (Sc ?_ (S0 _)) <;> ((refine slot_b rfl ?_; (try dsimp only); (simp [*]; done)))) ?_ (by (exact fun _ h => h))
    (try dsimp only)
    done
   ·(try simp only [sB] at hg42)
    refine Kq rfl (lda rfl rfl .tc u64 rfl ?_) ?_
    ·kernel_rfl
    refine Kq rfl (Fa (q := 0) rfl rfl u92 rfl rfl) ?_
    refine Kq rfl (ldp rfl rfl .tc u64 rfl (by kernel_rfl : _ = some 2) (by rfl) (by rfl)) ?_
    refine Kq rfl (rd_neA rfl rfl rfl (by kernel_rfl) (fun w => eql_api_Int _ _ _ _ w)) ?_
    refine Kq rfl (Rq rfl rfl rfl) (Nn ?_)
    refine WX.joinP (()) (S3 rfl rfl rfl) (by refine (Sc ?_ (S0 _)) <;> ((refine slot_b rfl ?_; (try dsimp only); (simp [*]; done)))) ?_ (by (exact fun _ h => h))
    (try dsimp only)
    done
  ·rintro _ hmeet; (try dsimp only at hmeet ⊢)
   refine Cd rfl (fun hc47 => ?_) (fun hc47 => ?_)
   ·(try simp only [sB] at hc47)
    have hr : pwS a b c = ([], 1) := by
     rw [hr0, if_pos (hc47.imp id fun h h2 => h (by rw [h2]; exact ⟨rfl, rfl⟩))]
    refine Cs (Ka rfl (Ka rfl (Nt (Ce (Xb ?_)))))
    exact Rn rfl (.tmp rfl (.tmp rfl .nil)) fun w' hS => pw_err hr hS
   ·(try simp only [sB] at hc47)
    have hne : ¬ ((mulZ a.1 b.1).2 ≠ 0 ∨ (mulZ a.1 b.1).1 ≠ c.1) := fun h => hc47 (h.imp id fun h h2 => h (Prod.ext h2.1 h2.2))
    rw [if_neg hne] at hr0
    refine Ck (Xa (Cs (Kq rfl (Fa (q := 0) rfl rfl u92 rfl rfl) ?_)))
    refine Kq rfl (ldp rfl rfl .tc u64 rfl (by kernel_rfl : _ = some 2) (by rfl) (by rfl)) ?_
    refine Kq rfl (Fa (q := 2) rfl rfl u92 rfl rfl) ?_
    refine Kq rfl (ldp rfl rfl .tc u64 rfl (by kernel_rfl : _ = some 2) (by rfl) (by rfl)) ?_
    refine Ku rfl (Oc rfl rfl (Kv fun w hS => zmul_c (x := b.1) (y := a.2))) ?_
    refine Km rfl (Kq rfl (Re rfl rfl rfl) (Kq rfl (Re rfl rfl rfl) ?_))
    refine Kh rfl (Oz [.bool false, .string (S [])] rfl) ?_
    intro b12
    refine Nu rfl rfl (Sa rfl rfl rfl .tc) ?_
    refine Ka rfl (Nt (Cq (Cs (Km rfl (Kq rfl (rd_neq rfl rfl rfl) (Nt ?_))))))
    refine Cd rfl (fun hc57 => ?_) (fun hc57 => ?_)
    ·(try simp only [sB] at hc57)
     rw [if_pos hc57] at hr0
     refine Cs (Km rfl (Ka rfl (Ka rfl (Nt (Ce (Xb ?_))))))
     exact Rn rfl (.tmp rfl (.tmp rfl .nil)) fun w' hS => pw_err hr0 hS
    ·(try simp only [sB] at hc57)
     rw [if_neg (fun h => h hc57)] at hr0
     refine Ck (Xa (Cq (Cs (Kq rfl (Fa (q := 2) rfl rfl u92 rfl rfl) ?_))))
     refine Kq rfl (ldp rfl rfl .tc u64 rfl (by kernel_rfl : _ = some 2) (by rfl) (by rfl)) ?_
     refine Kq rfl (lda rfl rfl .tc u64 rfl ?_) ?_
     ·kernel_rfl
     refine Ku rfl (Oc rfl rfl (Kv fun w hS => zsub_c (x := c.2) (y := (mulZ b.1 a.2).1))) ?_
     refine Km rfl (Kq rfl (Re rfl rfl rfl) (Kq rfl (Re rfl rfl rfl) ?_))
     refine Nu rfl rfl (Sa rfl rfl rfl .tc) ?_
     refine Ka rfl (Nt (Cs (Km rfl (Kq rfl (rd_neq rfl rfl rfl) (Nt ?_)))))
     refine Cd rfl (fun hc67 => ?_) (fun hc67 => ?_)
     ·(try simp only [sB] at hc67)
      rw [if_pos hc67] at hr0
      refine Cs (Km rfl (Ka rfl (Ka rfl (Nt (Ce (Xb ?_))))))
      exact Rn rfl (.tmp rfl (.tmp rfl .nil)) fun w' hS => pw_err hr0 hS
     ·(try simp only [sB] at hc67)
      rw [if_neg (fun h => h hc67)] at hr0
      refine Ck (Xa (Cs (Kq rfl (Fa (q := 0) rfl rfl u92 rfl rfl) ?_)))
      refine Kq rfl (ldp rfl rfl .tc u64 rfl (by kernel_rfl : _ = some 2) (by rfl) (by rfl)) ?_
      refine Kq rfl (Fa (q := 2) rfl rfl u92 rfl rfl) ?_
      refine Kq rfl (ldp rfl rfl .tc u64 rfl (by kernel_rfl : _ = some 2) (by rfl) (by rfl)) ?_
      refine Kq rfl (lda rfl rfl .tc u64 rfl ?_) ?_
      ·kernel_rfl
      refine Kh rfl (og_bsN rfl rfl u71 (by kernel_rfl : _ = some (some (.agg #[.bool false, .string (S [])]), 2, 24)) (by kernel_rfl) (by decide) rfl rfl (by (simp [Value.cells]; done)) (by (simp only [List.map, Value.cells, List.flatMap_cons, List.flatMap_nil, List.append_nil, List.toList_toArray]; rfl)) (by decide)) ?_
      intro b74
      refine Ka rfl (Ka rfl (Nt (Ce ?_)))
      exact Rn rfl (.tmp rfl (.tmp rfl .nil)) fun w' hS => ⟨⟨some b74, 3, []⟩, by rw [hr0]; rfl, by rw [hr0]; rfl, by rw [hr0]; exact hS.sub (List.Sublist.cons_cons _ (List.nil_sublist _)) (fun _ h => h)⟩
theorem imS_at {s : SA} {ws : List Zs} {i : Nat} (h : i < s.es.length) (h0 : ∀ q ∈ s.es.take i, (imQ s.gs ws q.1).2 = 0) (h1 : (imQ s.gs ws (s.es.getD i default).1).2 ≠ 0) : imS s.core ws = ([], (imQ s.gs ws (s.es.getD i default).1).2) := by
 have e : errL (s.core.2.2.map fun q => (imQ s.core.1 ws q).2) = (imQ s.gs ws (s.es.getD i default).1).2 := by
  rw [← errL_at (f := fun q : QA => (imQ s.gs ws q.1).2) h h0 h1, List.map_map]; rfl
 rw [imS, e, if_pos h1]
theorem imS_ok {s : SA} {ws : List Zs} (h0 : ∀ q ∈ s.es, (imQ s.gs ws q.1).2 = 0) : imS s.core ws = (s.es.map fun q => (imQ s.gs ws q.1).1, 0) := by
 have e : errL (s.core.2.2.map fun q => (imQ s.core.1 ws q).2) = 0 := errL_map fun q hq => by
  obtain ⟨x, hx, rfl⟩ := List.mem_map.1 hq; exact h0 x hx
 rw [imS, e, if_neg (fun h => h rfl), List.map_map]; rfl
theorem imQ_err {gs : List Gp} {ws : List Zs} {q : Qn} (h : (exQ ws q).2 ≠ 0) : imQ gs ws q = ([], (exQ ws q).2) := by rw [imQ, if_pos h]
theorem imQ_ok {gs : List Gp} {ws : List Zs} {q : Qn} (h : (exQ ws q).2 = 0) : imQ gs ws q = prodS (gs.getD q.1.toNat default) (bsQ ws q) (exQ ws q).1 := by rw [imQ, bsQ, if_neg (fun h2 => h2 h), if_neg (fun h2 => h2 h)]
theorem qs_strs {l : List QA} (f : QA → Bs) {i : Nat} (h : i < l.length) : strs ((l.take (i + 1)).map f) = strs ((l.take i).map f) ++ [.string (S (f (l.getD i default)))] := by
 rw [take_succ_getD h, List.map_append]; simp [strs]
theorem bsQ_len {ws : List Zs} {q : Qn} : (bsQ ws q).length ≤ q.2.2.length := by rw [bsQ]; split <;> simp
theorem exQ_len {ws : List Zs} {q : Qn} : (exQ ws q).1.length ≤ q.2.2.length := by rw [exQ]; split <;> simp
theorem images_c {s : SA} {ws : List Zs} {a : Option Addr} {c : Nat} {w : World} {ok : Nat → Prop} (hF1 : (Fact.sl s.ga (gps s.gs)).holds ok w) (hF2 : (Fact.sl s.ea (qas s.es)).holds ok w) (hF3 : (Fact.sl a (ints ws)).holds ok w) (hM : ∀ f ∈ (s.es.map qaF), f.holds ok w) (hs : saL s) (hw : ws.length = s.vs.length) (hfo : formS s.core) :
  Calls Tryz.prog 74 #[saV s, .slice a ws.length c] w fun e w' => ∃ gx : Rs, e = .returned (.tuple #[gx.val (imS s.core ws).1.length, .int .i64 (imS s.core ws).2]) ∧ (True) ∧ Below w.heap.size w w' ∧ ∀ x ∈ ([Fact.sl gx.a (strs (imS s.core ws).1)] : List Fact), x.holds (fun b => w.heap.size ≤ b) w' := by
 obtain ⟨hlg, hlv, hle, hlt, hlm⟩ := hs
 refine En (Fact.sl s.ga (gps s.gs) :: Fact.sl s.ea (qas s.es) :: Fact.sl a (ints ws) :: (s.es.map qaF)) [(0, saV s), (1, .slice a ws.length c)] Tryz.func74 rfl Tryz.ntmps74 rfl (Ac rfl (Ac rfl (An _))) (Fc (fact_any hF1) (Fc (fact_any hF2) (Fc (fact_any hF3) (facts_more hM)))) ?_
 refine Cs ?_
 refine Kh rfl (Oy rfl rfl) ?_
 intro b2
 refine Kh rfl (Oy rfl rfl) ?_
 intro b3
 refine Ka rfl (Ka rfl (Nt (Cs (Kq rfl (rd_mkf rfl rfl rfl) (Ka rfl (Nt (Cs (Ka rfl (Nt (Cq (Cs (Kq rfl (Fa (q := 2) rfl rfl u52 rfl rfl) (Kq rfl (Ld rfl rfl .tc u50) ?_)))))))))))))
 refine Kq rfl (rd_len rfl rfl u50) (Km rfl (Nt (Cb ?_)))
 refine Lo (σ := Nat × (Option Nat) × Nat × (List Value)) [(2, _), (6, _), (16, _), (17, _)] (fun gq => [(7, .slice (gq.2.1.map fun b => ⟨b, 0, none⟩) gq.1 gq.2.2.1), (18, .int .i64 (gq.1 : Int))]) (fun gq => (gq.1 ≤ s.es.length ∧ gq.2.2.1 = gq.1 + gq.2.2.2.length) ∧ ∀ q ∈ s.es.take gq.1, (imQ s.gs ws q.1).2 = 0) (fun gq => s.es.length - gq.1) (fun gq => [⟨gq.2.1, strs ((s.es.take gq.1).map fun q => (imQ s.gs ws q.1).1) ++ gq.2.2.2, 22⟩, ⟨some b3, [.slice a ws.length c], 71⟩, ⟨some b2, [.slice s.ga s.gs.length s.gc, .slice s.va s.vs.length s.vc, .slice s.ea s.es.length s.ec], 52⟩]) (fun gq => (Fact.sl s.ga (gps s.gs) :: Fact.sl s.ea (qas s.es) :: Fact.sl a (ints ws) :: s.es.map qaF)) (0, none, 0, []) (S4 rfl rfl rfl rfl) (S2 rfl rfl) (by (try dsimp only); exact ⟨⟨Nat.zero_le _, rfl⟩, by simp⟩) (by exact fun w h => h.nil _) ?_
 rintro ⟨i, o, cp, sp⟩ hinv1; (try dsimp only at hinv1 ⊢)
 obtain ⟨⟨hi, hcp⟩, hok⟩ := hinv1
 refine Cs (Kq rfl (rd_lss rfl rfl rfl) (Nt (Cq ?_)))
 refine Cd rfl (fun hc19 => ?_) (fun hc19 => ?_)
 ·(try simp only [sB] at hc19)
  have hil : i < s.es.length := by omega
  have him := getD_mem s.es i hil
  have hlt1 := hlt _ him
  have hfq := hfo.2.2 _ (List.mem_map_of_mem him)
  have hgl : (s.es.getD i default).1.1.toNat < s.gs.length := by have := hfq.1.1.1; have := hfq.1.1.2; simp only [SA.core] at this; omega
  have hg8 := hlm _ (getD_mem _ _ hgl)
  have hq0 := hfq.1.1.1
  refine Ck (Xa (Cq (Cb (Cs ?_))))
  refine Kq rfl (Ia rfl rfl rfl u50 (by kernel_rfl : _ = some 3) (by omega) (by (rw [flatMap_len _ _ 3 (fun _ => rfl)]; omega))) ?_
  refine Kq rfl (ldma _ rfl rfl u123 rfl (by kernel_rfl : _ = some 3) (fun _ => rfl) (by decide) rfl (by assumption)) ?_
  refine Kh rfl (Oz [.int .i64 0, .string (S []), .slice none 0 0] rfl) ?_
  intro b9
  refine Nu rfl rfl (Sa rfl rfl rfl .tc) ?_
  refine Nt (Cs (Km rfl ?_))
  refine Kq rfl (lda rfl rfl .tc u123 rfl ?_) ?_
  ·kernel_rfl
  refine Kh rfl (og_callv rfl rfl rfl (by kernel_rfl) rfl (keep_fr fun w hS => collect_c (q := s.es.getD i default) (ws := ws) (p := b3) (a := a) (c := c) hS.os hS.sl (hS.more (more := s.es.map qaF) _ (List.mem_map_of_mem him)) (by omega) (by exact hlt1) (by exact fun t ht => by have h1 := (hfq.2 t ht).1; refine ⟨h1.1, ?_⟩; rw [hw]; exact h1.2))) ?_
  rintro ⟨gb25, ge25⟩
  refine WL.pu ?_
  intro hg25; (try dsimp only at hg25 ⊢)
  refine WL.fa2 ?_
  refine Km rfl (Kq rfl (Re rfl rfl rfl) (Kq rfl (Re rfl rfl rfl) (Kq rfl (Re rfl rfl rfl) (Ka rfl (Ka rfl (Ka rfl (Nt (Cq (Cs (Km rfl (Kq rfl (rd_neq rfl rfl rfl) (Nt ?_))))))))))))
  refine Cd rfl (fun hc30 => ?_) (fun hc30 => ?_)
  ·(try simp only [sB] at hc30)
   have hr : imQ s.gs ws (s.es.getD i default).1 = ([], (exQ ws (s.es.getD i default).1).2) := imQ_err hc30
   refine Cs (Km rfl (Ka rfl (Ka rfl (Nt (Ce (Xb (Xf (Xb (Xb (Xf (Xb ?_)))))))))))
   exact Rn rfl (.tmp rfl (.tmp rfl .nil)) fun w' hS => ⟨⟨none, 0, []⟩, by rw [imS_at hil hok (by rw [hr]; exact hc30), hr]; rfl, trivial, hS.below, by rw [imS_at hil hok (by rw [hr]; exact hc30)]; exact Fc sl_nilk Fn⟩
  ·(try simp only [sB] at hc30)
   have hr : imQ s.gs ws (s.es.getD i default).1 = prodS (s.gs.getD (s.es.getD i default).1.1.toNat default) (bsQ ws (s.es.getD i default).1) (exQ ws (s.es.getD i default).1).1 := imQ_ok hc30
   refine Ck (Xa (Cs (Kq rfl (Fa (q := 0) rfl rfl u52 rfl rfl) (Kq rfl (Ld rfl rfl .tc u48) ?_))))
   refine Kq rfl (Fa (q := 0) rfl rfl u123 rfl rfl) (Kq rfl (Ld rfl rfl .tc u3) ?_)
   refine Kq rfl (Ia rfl rfl rfl u48 (by kernel_rfl : _ = some 2) (by omega) (by (rw [flatMap_len _ _ 2 (fun _ => rfl)]; omega))) ?_
   refine Kq rfl (ldma _ rfl rfl u24 rfl (by kernel_rfl : _ = some 2) (fun _ => rfl) (by decide) rfl (by assumption)) ?_
   refine Km rfl (Km rfl ?_)
   refine Ku rfl (Oc rfl rfl (Kv fun w hS => pproduct_c (g := s.gs.getD (s.es.getD i default).1.1.toNat default) (l := bsQ ws (s.es.getD i default).1) (es := (exQ ws (s.es.getD i default).1).1) (by (exact hS.sl)) (by (exact hS.sl)) (by exact Nat.le_trans bsQ_len hlt1) (by exact Nat.le_trans exQ_len hlt1) (by exact hg8))) ?_
   refine Km rfl (Kq rfl (Re rfl rfl rfl) (Kq rfl (Re rfl rfl rfl) (Ka rfl (Ka rfl (Nt (Cq (Cs (Km rfl (Kq rfl (rd_neq rfl rfl rfl) (Nt ?_))))))))))
   refine Cd rfl (fun hc45 => ?_) (fun hc45 => ?_)
   ·(try simp only [sB] at hc45)
    refine Cs (Km rfl (Ka rfl (Ka rfl (Nt (Ce (Xb (Xf (Xb (Xb (Xf (Xb ?_)))))))))))
    exact Rn rfl (.tmp rfl (.tmp rfl .nil)) fun w' hS => ⟨⟨none, 0, []⟩, by rw [imS_at hil hok (by rw [hr]; exact hc45), hr]; rfl, trivial, hS.below, by rw [imS_at hil hok (by rw [hr]; exact hc45)]; exact Fc sl_nilk Fn⟩
   ·(try simp only [sB] at hc45)
    have hx0 : (imQ s.gs ws (s.es.getD i default).1).2 = 0 := by rw [hr]; simpa using hc45
    have hls : (strs ((s.es.take i).map fun q => (imQ s.gs ws q.1).1)).length = i := by simp [strs]; omega
    refine Ck (Xa (Cg (Km rfl (Km rfl ?_))))
    refine Kh rfl (og_bs1 rfl rfl u31 (by kernel_rfl : _ = some (some (.string (S [])), 1, 16)) rfl (by simp only [List.map]; rfl) rfl rfl ?_ (by decide)) ?_
    ·simp [Value.cells]
    intro b49
    refine Kh rfl (appg rfl u31 (by kernel_rfl : _ = some (some (.string (S [])), 1, 16)) rfl .tc rfl rfl (fun w hS => by (exact hS.os)) (by rfl) (by refine ⟨?_, ?_, ?_, ?_⟩ <;> first | exact hls | (try simp) <;> omega) (by (simp [Value.oneCell']; done))) ?_
    rintro ⟨o50, c50, s50⟩
    refine WL.pu ?_
    intro hg50; (try dsimp only at hg50 ⊢)
    refine Ka rfl (Nn (Xd (Xa (Cg (Kq rfl (Rz rfl rfl rfl (by omega)) (Km rfl (Nn ?_)))))))
    refine Lx ((i + 1, o50, c50, s50)) (by (try dsimp only); omega) (S4 rfl rfl rfl rfl) (by refine (Sc ?_ (Sc ?_ (S0 _))) <;> (rfl)) ?_ (by exact fun w h => by rw [qs_strs _ hil, hr]; exact st_sub _ h)
    (try dsimp only)
    exact ⟨⟨hil, by omega⟩, all_take hil hok hx0⟩
 ·(try simp only [sB] at hc19)
  refine Cx (Xc (Xc (Xe ?_)))
  obtain rfl : i = s.es.length := by omega
  rw [List.take_length] at hok
  rw [List.take_length]
  refine Xa (Cs (Km rfl (Ka rfl (Ka rfl (Nt (Ce ?_))))))
  exact Rn rfl (.tmp rfl (.tmp rfl .nil)) fun w' hS => ⟨⟨o, cp, sp⟩, by rw [imS_ok hok, List.length_map]; rfl, trivial, hS.below, by rw [imS_ok hok]; exact Fc hS.ocf Fn⟩
theorem rdy_ok {s : Sm} {ws : List Zs} (h : rdyS s ws = 0) : formS s ∧ (∀ x ∈ ws, okZ x) ∧ chkS s = 0 ∧ ws.length = s.2.1.length := by
 unfold rdyS at h
 split at h
 ·simp at h
 ·rename_i h1; split at h
  ·simp at h
  ·rename_i h2; split at h
   ·rename_i h3; exact absurd h h3
   ·rename_i h3; split at h
    ·simp at h
    ·rename_i h4; exact ⟨Decidable.not_not.1 h1, Decidable.not_not.1 h2, Decidable.not_not.1 h3, Decidable.not_not.1 h4⟩
theorem imS_len {s : Sm} {ws : List Zs} (h : (imS s ws).2 = 0) : (imS s ws).1.length = s.2.2.length := by
 unfold imS at h ⊢; split at h
 ·rename_i h1; exact absurd h h1
 ·rename_i h1; rw [if_neg h1]; simp
theorem ext_all {α : Type} [Inhabited α] {x y : List α} (hl : x.length = y.length) (h : ∀ i, i < x.length → x.getD i default = y.getD i default) : x = y := by
 refine List.ext_getElem hl fun i h1 h2 => ?_
 have := h i h1
 rw [List.getD_eq_getElem?_getD, List.getD_eq_getElem?_getD, List.getElem?_eq_getElem h1, List.getElem?_eq_getElem h2] at this; exact this
theorem tgt_getD (l : List QA) (i : Nat) (h : i < l.length) : ((l.map (·.1)).map (·.2.1)).getD i default = (l.getD i default).1.2.1 := by
 rw [List.getD_eq_getElem?_getD, List.getD_eq_getElem?_getD, List.getElem?_map, List.getElem?_map, List.getElem?_eq_getElem h]; rfl
theorem holds_c {s : SA} {ws : List Zs} {a : Option Addr} {c : Nat} {w : World} {ok : Nat → Prop} (hF1 : (Fact.sl s.ga (gps s.gs)).holds ok w) (hF2 : (Fact.sl s.va (vrs s.vs)).holds ok w) (hF3 : (Fact.sl s.ea (qas s.es)).holds ok w) (hF4 : (Fact.sl a (ints ws)).holds ok w) (hM : ∀ f ∈ (s.es.map qaF), f.holds ok w) (hs : saL s) (hw : ws.length ≤ 100000) :
  Cw 27 #[saV s, .slice a ws.length c] w (.tuple #[.bool (hldS s.core ws).1, .int .i64 (hldS s.core ws).2]) := by
 have hs' := hs
 obtain ⟨hlg, hlv, hle, hlt, hlm⟩ := hs
 refine En (Fact.sl s.ga (gps s.gs) :: Fact.sl s.va (vrs s.vs) :: Fact.sl s.ea (qas s.es) :: Fact.sl a (ints ws) :: (s.es.map qaF)) [(0, saV s), (1, .slice a ws.length c)] Tryz.func27 rfl Tryz.ntmps27 rfl (Ac rfl (Ac rfl (An _))) (Fc (fact_any hF1) (Fc (fact_any hF2) (Fc (fact_any hF3) (Fc (fact_any hF4) (facts_more hM))))) ?_
 refine Cs ?_
 refine Kh rfl (Oy rfl rfl) ?_
 intro b2
 refine Ka rfl (Ka rfl (Nt (Cq (Cs ?_))))
 refine Kq rfl (lda rfl rfl .tc u52 rfl ?_) ?_
 ·kernel_rfl
 refine Km rfl ?_
 refine Ku rfl (Oc rfl rfl (Kv fun w hS => ready_c (s := s) (ws := ws) (by (exact hS.sl)) (by (exact hS.sl)) (by (exact hS.sl)) (by (exact hS.sl)) (by (exact hS.more)) (by exact hs') (by exact hw))) ?_
 refine Ka rfl (Nt (Cs (Km rfl (Kq rfl (rd_neq rfl rfl rfl) (Nt ?_)))))
 refine Cd rfl (fun hc15 => ?_) (fun hc15 => ?_)
 ·(try simp only [sB] at hc15)
  have hr : hldS s.core ws = (false, rdyS s.core ws) := by rw [hldS, if_pos hc15]
  refine Cs (Km rfl (Ka rfl (Ka rfl (Nt (Ce (Xb ?_))))))
  exact R2 rfl rfl rfl (by rw [hr]; rfl)
 ·(try simp only [sB] at hc15)
  have h0 : rdyS s.core ws = 0 := by simpa using hc15
  obtain ⟨hfo, hz, hk, hwl⟩ := rdy_ok h0
  refine Ck (Xa (Cq (Cs ?_)))
  refine Kq rfl (lda rfl rfl .tc u52 rfl ?_) ?_
  ·kernel_rfl
  refine Km rfl ?_
  refine Ku rfl (Oc rfl rfl (Kv fun w hS => inrange_c (s := s) (ws := ws) (by (exact hS.sl)) (by (exact hS.sl)) (by (exact hS.sl)) (by exact hs') (by exact hwl) (by exact hfo) (by exact hz))) ?_
  refine Kq rfl (Rt rfl rfl) (Nt ?_)
  refine Cd rfl (fun hc20 => ?_) (fun hc20 => ?_)
  ·(try simp only [sB] at hc20)
   have hr : hldS s.core ws = (false, 0) := by rw [hldS, if_neg (fun h => h h0), if_pos (by simpa using hc20)]
   refine Cs (Ka rfl (Ka rfl (Nt (Ce (Xb ?_)))))
   exact R2 rfl rfl rfl (by rw [hr]; rfl)
  ·(try simp only [sB] at hc20)
   have hin : inR s.core ws := by simpa using hc20
   refine Ck (Xa (Cs ?_))
   refine Kq rfl (lda rfl rfl .tc u52 rfl ?_) ?_
   ·kernel_rfl
   refine Km rfl ?_
   refine Kh rfl (Oc rfl rfl (keep_fr fun w hS => images_c (s := s) (ws := ws) (by (exact hS.sl)) (by (exact hS.sl)) (by (exact hS.sl)) (by (exact hS.more)) (by exact hs') (by exact hwl) (by exact hfo))) ?_
   rintro g24
   refine WL.pu ?_
   intro hg24; (try dsimp only [List.cons_append, List.nil_append] at hg24 ⊢)
   refine Km rfl (Kq rfl (Re rfl rfl rfl) (Kq rfl (Re rfl rfl rfl) (Ka rfl (Ka rfl (Nt (Cq (Cs (Km rfl (Kq rfl (rd_neq rfl rfl rfl) (Nt ?_))))))))))
   refine Cd rfl (fun hc28 => ?_) (fun hc28 => ?_)
   ·(try simp only [sB] at hc28)
    have hr : hldS s.core ws = (false, (imS s.core ws).2) := by rw [hldS, if_neg (fun h => h h0), if_neg (fun h => h hin), if_pos hc28]
    refine Cs (Km rfl (Ka rfl (Ka rfl (Nt (Ce (Xb ?_))))))
    exact R2 rfl rfl rfl (by rw [hr]; rfl)
   ·(try simp only [sB] at hc28)
    have hi0 : (imS s.core ws).2 = 0 := by simpa using hc28
    have hlI : (imS s.core ws).1.length = s.es.length := by rw [imS_len hi0]; simp
    have hr : hldS s.core ws = (decide ((imS s.core ws).1 = s.core.2.2.map (·.2.1)), 0) := by rw [hldS, if_neg (fun h => h h0), if_neg (fun h => h hin), if_neg (fun h => h hi0)]
    refine Ck (Xa (Cq (Cs (Kq rfl (Fa (q := 2) rfl rfl u52 rfl rfl) (Kq rfl (Ld rfl rfl .tc u50) ?_)))))
    refine Kq rfl (rd_len rfl rfl u50) (Km rfl (Nt (Cb ?_)))
    refine Lp (σ := Nat) [(7, _), (31, _), (32, _)] (fun gq => [(33, .int .i64 (gq : Int))]) (fun gq => gq ≤ s.es.length ∧ ∀ j, j < gq → (imS s.core ws).1.getD j default = (s.es.getD j default).1.2.1) (fun gq => s.es.length - gq) (0) (S3 rfl rfl rfl) (S1 rfl) (by (try dsimp only); exact ⟨Nat.zero_le _, fun _ h => absurd h (Nat.not_lt_zero _)⟩) ?_
    rintro i hinv1; (try dsimp only at hinv1 ⊢)
    obtain ⟨hi, hok⟩ := hinv1
    refine Cs (Kq rfl (rd_lss rfl rfl rfl) (Nt (Cq ?_)))
    refine Cd rfl (fun hc34 => ?_) (fun hc34 => ?_)
    ·(try simp only [sB] at hc34)
     have hil : i < s.es.length := by omega
     have hil2 : i < (imS s.core ws).1.length := by omega
     refine Ck (Xa (Cq (Cb (Cs (Km rfl ?_)))))
     refine Kq rfl (Ia rfl rfl rfl u50 (by kernel_rfl : _ = some 3) (by omega) (by (rw [flatMap_len _ _ 3 (fun _ => rfl)]; omega))) ?_
     refine Kq rfl (ldma _ rfl rfl u123 rfl (by kernel_rfl : _ = some 3) (fun _ => rfl) (by decide) rfl (by assumption)) ?_
     refine Kh rfl (Oz [.int .i64 0, .string (S []), .slice none 0 0] rfl) ?_
     intro b10
     refine Ka rfl ?_
     refine Nu rfl rfl (Sa rfl rfl rfl .tc) ?_
     refine Nt (Cq ?_)
     refine Cf [0, 1, 2, 3, 4, 5, 6] [] [0, 0, 0, 0, 0, 0, 0] (by kernel_rfl) (by kernel_rfl) rfl ?_
     refine Kj rfl (Rm rfl rfl) (Kj rfl (Rm rfl rfl) ?_)
     refine Kj rfl (Ib rfl rfl rfl u31 (by omega) (by (rw [List.length_map]; omega))) ?_
     refine Kj rfl (ldm rfl rfl u22 rfl (by assumption)) ?_
     refine Kj rfl (Fa (q := 1) rfl rfl u123 rfl rfl) (Kj rfl (Ld rfl rfl .tc u22) ?_)
     refine Kj rfl (rd_sne rfl rfl rfl) ?_
     refine WJ.nil ?_
     refine Nt ?_
     refine Cd rfl (fun hc44 => ?_) (fun hc44 => ?_)
     ·(try simp only [sB] at hc44)
      have hne : ¬ (imS s.core ws).1 = s.core.2.2.map (·.2.1) := fun h => by
       have h1 := tgt_getD s.es i hil
       exact absurd ((congrArg (fun l : List Bs => l.getD i default) h).trans h1) (by simpa using hc44)
      refine Cs (Ka rfl (Ka rfl (Nt (Ce (Xf (Xb (Xb (Xf (Xb ?_)))))))))
      exact R2 rfl rfl rfl (by rw [hr, decide_eq_false hne]; rfl)
     ·(try simp only [sB] at hc44)
      refine Ck (Xd (Xa (Cg (Kq rfl (Rz rfl rfl rfl (by omega)) (Km rfl (Nn ?_))))))
      refine Ly (i + 1) (by (try dsimp only); omega) (S3 rfl rfl rfl) (by refine (Sc ?_ (S0 _)) <;> (rfl)) ?_ (by (exact st_sub))
      (try dsimp only)
      exact ⟨hil, fun j hj => by rcases Nat.lt_succ_iff_lt_or_eq.1 hj with h | h; exact hok j h; subst h; simpa using hc44⟩
    ·(try simp only [sB] at hc34)
     refine Cx (Xc (Xc (Xe ?_)))
     obtain rfl : i = s.es.length := by omega
     have heq : (imS s.core ws).1 = s.core.2.2.map (·.2.1) := ext_all (by rw [hlI]; simp) fun j hj => by
      have h1 := tgt_getD s.es j (by omega)
      rw [hok j (by omega)]; exact h1.symm
     refine Xa (Cs (Ka rfl (Ka rfl (Nt (Ce ?_)))))
     exact R2 rfl rfl rfl (by rw [hr, decide_eq_true heq]; rfl)
theorem und_string : Tryz.prog.underlying 22 = some .string := by kernel_rfl
theorem part_nat (cs : Array Value) (k : Nat) (v : Value) (w : World) (h : cs[k]? = some v) : (part 22 cs k).run Tryz.prog w = .ok v w := run_part_plain w (by kernel_rfl) h
theorem pn21 (u v : Value) (w : World) : (part 22 #[u, v] 1).run Tryz.prog w = .ok v w := part_nat _ _ _ w rfl
theorem eq_nat (d : Nat) (a b : Bs) (w : World) : (Op.equalIn (d + 1) 22 (.string (S a)) (.string (S b))).run Tryz.prog w = .ok (decide (a = b)) w := by
 rw [run_equalIn_string w d _ _ _ und_string, str_eq]
theorem eq_int (d : Nat) (p q : Bool) (a b : Bs) (w : World) : (Op.equalIn (d + 2) 64 (.agg #[.bool p, .string (S a)]) (.agg #[.bool q, .string (S b)])).run Tryz.prog w = .ok (decide (p = q ∧ a = b)) w := by
 rw [run_equalIn_agg w _ _ _ _ (by kernel_rfl) (by kernel_rfl)]
 have h1 : Tryz.prog.underlying 4 = some .bool := by kernel_rfl
 have hf : (Tryz.prog.fieldsOf 64).toList = [⟨"Neg", 4, 0, false, "", "", 0⟩, ⟨"Abs", 22, 1, false, "", "", 8⟩] := by kernel_rfl
 have e1 : ∀ (u v : Value) (w : World), (part 4 #[u, v] 0).run Tryz.prog w = .ok u w := fun u v w => run_part_plain w (by kernel_rfl) rfl
 have hb : ∀ (w : World), (Op.equalIn (d + 1) 4 (.bool p) (.bool q)).run Tryz.prog w = .ok (p == q) w := fun w => run_equalIn_bool' w d _ p q h1
 rw [hf]
 simp only [Op.eqFields, Sem.run_bind, e1, pn21, hb, eq_nat, Result.andThen_ok, Sem.run_ite, Sem.run_pure]
 cases p <;> cases q <;> by_cases h : a = b <;> simp [h]
end Go.Proofs.YtmkghgoibnncbaaGreatDoor
