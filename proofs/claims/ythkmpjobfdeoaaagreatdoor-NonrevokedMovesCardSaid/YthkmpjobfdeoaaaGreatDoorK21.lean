/-
  Parts of the walk: Coi5 Coi6 Cbl Nrm Nmk Fpa Eqt Lsm.
-/
import Derived.Test.YthkmpjobfdeoaaaGreatDoorK20
namespace Go.Proofs.YthkmpjobfdeoaaaGreatDoor
open Go.RowKit
set_option linter.unusedSimpArgs false
set_option linter.unusedVariables false
set_option maxHeartbeats 600000
set_option maxRecDepth 20000
def fewR (p : PR) : Prop := (∀ k ∈ [p.mn, p.wh], shortP 8 (pk4 k)) ∧ shortP 8 (nine p)
instance (p : PR) : Decidable (fewR p) := inferInstanceAs (Decidable (_ ∧ _))
theorem fewpar_c {p : PR} {w : World} :
  Cw 33 #[prV p] w (.bool (decide (fewR p))) := by
 refine En [] [(0, prV p)] Tryz.func33 rfl Tryz.ntmps33 rfl (Ac rfl (An _)) Fn ?_
 refine Cs ?_
 refine Kh rfl (Oy rfl rfl) ?_
 intro b1
 refine Ka rfl (Nt (Cq (Cs (Kq rfl (Fa (q := 2) rfl rfl u30 rfl rfl) ?_))))
 refine Kq rfl (ldp rfl rfl .tc u28 rfl (by kernel_rfl : _ = some 4) (by rfl) (by rfl)) ?_
 refine Kq rfl (Fa (q := 6) rfl rfl u30 rfl rfl) ?_
 refine Kq rfl (ldp rfl rfl .tc u28 rfl (by kernel_rfl : _ = some 4) (by rfl) (by rfl)) ?_
 refine Kh rfl (og_bsN rfl rfl u138 (by kernel_rfl : _ = some (some (.agg #[.string (S []), .string (S []), .string (S []), .string (S [])]), 4, 64)) (by kernel_rfl) (by decide) rfl rfl (by (simp [Value.cells]; done)) (by (simp only [List.map, Value.cells, List.flatMap_cons, List.flatMap_nil, List.append_nil, List.toList_toArray]; rfl)) (by decide)) ?_
 intro b9
 refine WL.st (fun w h => h.freeze (off := 0) (xs := ([p.mn, p.wh] : List PK).flatMap pkc) (fun i hi => by rw [Nat.zero_add]; rfl)) ?_
 refine Kq rfl (rd_len rfl rfl u138) (Km rfl (Nt (Cb ?_)))
 refine Lp (σ := Nat) [(1, _), (9, _), (10, _)] (fun gq => [(11, .int .i64 (gq : Int))]) (fun gq => gq ≤ 2 ∧ ∀ k ∈ ([p.mn, p.wh] : List PK).take gq, shortP 8 (pk4 k)) (fun gq => 2 - gq) (0) (S3 rfl rfl rfl) (S1 rfl) (by (try dsimp only); exact ⟨Nat.zero_le _, by simp⟩) ?_
 rintro i hinv1; (try dsimp only at hinv1 ⊢)
 obtain ⟨hi, hok⟩ := hinv1
 refine Cs (Kq rfl (rd_lss rfl rfl rfl) (Nt (Cq ?_)))
 refine Cd rfl (fun hc12 => ?_) (fun hc12 => ?_)
 ·(try simp only [sB] at hc12)
  have hi2 : i < ([p.mn, p.wh] : List PK).length := by show i < 2; omega
  have htk := take1 hi2
  obtain ⟨k, hk⟩ : ∃ k, Keep (k = ([p.mn, p.wh] : List PK).getD i default) := ⟨_, rfl⟩
  have hkm : k ∈ [p.mn, p.wh] := by rw [show k = _ from hk]; exact getD_mem _ i hi2
  rw [← show k = _ from hk] at htk
  refine Ck (Xa (Cq (Cb (Cs ?_))))
  refine Kq rfl (Ja rfl rfl rfl u138 (by kernel_rfl : _ = some 4) (by omega)) ?_
  refine Kq rfl (ldfa (off0 := 0) (m := i * 4) (ys := pkc (([p.mn, p.wh] : List PK).getD i default)) rfl rfl .tc u28 rfl (by kernel_rfl : _ = some 4) (Nat.zero_add _).symm (by exact flatMap_at [p.mn, p.wh] pkc 4 (fun _ => rfl) i hi2) rfl (by decide)) ?_
  refine Ns 14 rfl (v' := .agg (pkc k).toArray) (by rw [show k = _ from hk]) ?_
  refine Kh rfl (Oz [.string (S []), .string (S []), .string (S []), .string (S [])] rfl) ?_
  intro b4
  refine Nu rfl rfl (Sa rfl rfl rfl .tc) ?_
  refine Nt (Cs (Kq rfl (Fa (q := 0) rfl rfl u28 rfl rfl) (Kq rfl (Fa (q := 0) rfl rfl u26 rfl rfl) (Kq rfl (Ld rfl rfl .tc u22) ?_))))
  refine Kq rfl (Fa (q := 0) rfl rfl u28 rfl rfl) (Kq rfl (Fa (q := 1) rfl rfl u26 rfl rfl) (Kq rfl (Ld rfl rfl .tc u22) ?_))
  refine Kq rfl (Fa (q := 2) rfl rfl u28 rfl rfl) (Kq rfl (Ld rfl rfl .tc u22) ?_)
  refine Kq rfl (Fa (q := 3) rfl rfl u28 rfl rfl) (Kq rfl (Ld rfl rfl .tc u22) ?_)
  refine Kh rfl (og_bs1 rfl rfl u31 (by kernel_rfl : _ = some (some (.string (S [])), 1, 16)) rfl (by simp only [List.map]; rfl) rfl rfl ?_ (by decide)) ?_
  ·simp [Value.cells]
  intro b25
  refine Ku rfl (Oc rfl rfl (Kv fun w hS => short30_c (n := 8) (l := pk4 k) (by (exact hS.os)) (by (simp <;> omega)))) ?_
  refine Kq rfl (Rt rfl rfl) (Nt ?_)
  refine Cd rfl (fun hc27 => ?_) (fun hc27 => ?_)
  ·(try simp only [sB] at hc27)
   have hn : ¬ fewR p := fun h => (by simpa using hc27 : ¬ shortP 8 (pk4 k)) (h.1 k hkm)
   refine Cs (Ka rfl (Nt (Ce (Xf (Xb (Xb (Xf (Xb ?_))))))))
   exact R1 rfl rfl (by rw [decide_eq_false hn]; rfl)
  ·(try simp only [sB] at hc27)
   have hy : shortP 8 (pk4 k) := by simpa using hc27
   refine Ck (Xd (Xa (Cg (Kq rfl (Rz rfl rfl rfl (by omega)) (Km rfl (Nn ?_))))))
   refine Ly (i + 1) (by (try dsimp only); omega) (S3 rfl rfl rfl) (by refine (Sc ?_ (S0 _)) <;> (rfl)) ?_ (by (exact st_sub))
   (try dsimp only)
   exact ⟨by have : i < 2 := hi2; omega, fun x hx => by rw [htk] at hx; rcases List.mem_append.1 hx with h | h; exact hok x h; rw [List.mem_singleton.1 h]; exact hy⟩
 ·(try simp only [sB] at hc12)
  refine Cx (Xc (Xc (Xe ?_)))
  obtain rfl : i = 2 := by omega
  have hall : ∀ k ∈ [p.mn, p.wh], shortP 8 (pk4 k) := hok
  refine Xa (Cs (Kq rfl (Fa (q := 0) rfl rfl u30 rfl rfl) (Kq rfl (Fa (q := 0) rfl rfl u24 rfl rfl) (Kq rfl (Ld rfl rfl .tc u22) ?_))))
  refine Kq rfl (Fa (q := 0) rfl rfl u30 rfl rfl) (Kq rfl (Fa (q := 1) rfl rfl u24 rfl rfl) (Kq rfl (Ld rfl rfl .tc u22) ?_))
  refine Kq rfl (Fa (q := 10) rfl rfl u30 rfl rfl) (Kq rfl (Ld rfl rfl .tc u22) ?_)
  refine Kq rfl (Fa (q := 11) rfl rfl u30 rfl rfl) (Kq rfl (Ld rfl rfl .tc u22) ?_)
  refine Kq rfl (Fa (q := 12) rfl rfl u30 rfl rfl) (Kq rfl (Ld rfl rfl .tc u22) ?_)
  refine Kq rfl (Fa (q := 13) rfl rfl u30 rfl rfl) (Kq rfl (Ld rfl rfl .tc u22) ?_)
  refine Kq rfl (Fa (q := 14) rfl rfl u30 rfl rfl) (Kq rfl (Ld rfl rfl .tc u22) ?_)
  refine Kq rfl (Fa (q := 15) rfl rfl u30 rfl rfl) (Kq rfl (Ld rfl rfl .tc u22) ?_)
  refine Kq rfl (Fa (q := 16) rfl rfl u30 rfl rfl) (Kq rfl (Ld rfl rfl .tc u22) ?_)
  refine Kh rfl (og_bs1 rfl rfl u31 (by kernel_rfl : _ = some (some (.string (S [])), 1, 16)) rfl (by simp only [List.map]; rfl) rfl rfl ?_ (by decide)) ?_
  ·simp [Value.cells]
  intro b49
  refine Ku rfl (Oc rfl rfl (Kv fun w hS => short30_c (n := 8) (l := nine p) (by (exact hS.os)) (by (simp <;> omega)))) ?_
  refine Ka rfl (Nt (Ce ?_))
  exact R1 rfl rfl (by rw [show decide (fewR p) = decide (shortP 8 (nine p)) from decide_eq_decide.2 ⟨fun h => h.2, fun h => ⟨hall, h⟩⟩]; rfl)
theorem und_string : Tryz.prog.underlying 22 = some .string := by kernel_rfl
theorem part_nat (cs : Array Value) (k : Nat) (v : Value) (w : World) (h : cs[k]? = some v) : (part 22 cs k).run Tryz.prog w = .ok v w := run_part_plain w (by kernel_rfl) h
theorem pn1 (u : Value) (w : World) : (part 22 #[u] 0).run Tryz.prog w = .ok u w := part_nat _ _ _ w rfl
theorem pn20 (u v : Value) (w : World) : (part 22 #[u, v] 0).run Tryz.prog w = .ok u w := part_nat _ _ _ w rfl
theorem pn21 (u v : Value) (w : World) : (part 22 #[u, v] 1).run Tryz.prog w = .ok v w := part_nat _ _ _ w rfl
theorem pn40 (u v x y : Value) (w : World) : (part 22 #[u, v, x, y] 0).run Tryz.prog w = .ok u w := part_nat _ _ _ w rfl
theorem eq_nat (d : Nat) (a b : Bs) (w : World) : (Op.equalIn (d + 1) 22 (.string (S a)) (.string (S b))).run Tryz.prog w = .ok (decide (a = b)) w := by
 rw [run_equalIn_string w d _ _ _ und_string, str_eq]
theorem eql_api_Group (a b c d : Bs) (w : World) : (binOp .eql 26 (.agg #[.string (S a), .string (S b)]) (.agg #[.string (S c), .string (S d)])).run Tryz.prog w = .ok (.bool (decide (a = c ∧ b = d))) w := by
 rw [run_eql_struct, run_equalIn_agg w _ _ _ _ (by kernel_rfl) (by kernel_rfl)]
 have hf : (Tryz.prog.fieldsOf 26).toList = [⟨"Modulus", 22, 0, false, "", "", 0⟩, ⟨"Order", 22, 1, false, "", "", 16⟩] := by kernel_rfl
 rw [hf]
 simp only [Op.eqFields, Sem.run_bind, pn20, pn21, eq_nat, Result.andThen_ok, Sem.run_ite, Sem.run_pure]
 by_cases h1 : a = c <;> by_cases h2 : b = d <;> simp [h1, h2]
theorem eql_api_Variable (a b : Bs) (w : World) : (binOp .eql 102 (.agg #[.string (S a)]) (.agg #[.string (S b)])).run Tryz.prog w = .ok (.bool (decide (a = b))) w := by
 rw [run_eql_struct, run_equalIn_agg w _ _ _ _ (by kernel_rfl) (by kernel_rfl)]
 have hf : (Tryz.prog.fieldsOf 102).toList = [⟨"Bound", 22, 0, false, "", "", 0⟩] := by kernel_rfl
 rw [hf]
 simp only [Op.eqFields, Sem.run_bind, pn1, eq_nat, Result.andThen_ok, Sem.run_ite, Sem.run_pure]
 by_cases h1 : a = b <;> simp [h1]
theorem eq_int (d : Nat) (p q : Bool) (a b : Bs) (w : World) : (Op.equalIn (d + 2) 50 (.agg #[.bool p, .string (S a)]) (.agg #[.bool q, .string (S b)])).run Tryz.prog w = .ok (decide (p = q ∧ a = b)) w := by
 rw [run_equalIn_agg w _ _ _ _ (by kernel_rfl) (by kernel_rfl)]
 have h1 : Tryz.prog.underlying 4 = some .bool := by kernel_rfl
 have hf : (Tryz.prog.fieldsOf 50).toList = [⟨"Neg", 4, 0, false, "", "", 0⟩, ⟨"Abs", 22, 1, false, "", "", 8⟩] := by kernel_rfl
 have e1 : ∀ (u v : Value) (w : World), (part 4 #[u, v] 0).run Tryz.prog w = .ok u w := fun u v w => run_part_plain w (by kernel_rfl) rfl
 have hb : ∀ (w : World), (Op.equalIn (d + 1) 4 (.bool p) (.bool q)).run Tryz.prog w = .ok (p == q) w := fun w => run_equalIn_bool' w d _ p q h1
 rw [hf]
 simp only [Op.eqFields, Sem.run_bind, e1, pn21, hb, eq_nat, Result.andThen_ok, Sem.run_ite, Sem.run_pure]
 cases p <;> cases q <;> by_cases h : a = b <;> simp [h]
theorem eql_api_Term (a : Bs) (m : Int) (p : Bool) (c : Bs) (a' : Bs) (m' : Int) (p' : Bool) (c' : Bs) (w : World) : (binOp .eql 95 (.agg #[.string (S a), .int .i64 m, .bool p, .string (S c)]) (.agg #[.string (S a'), .int .i64 m', .bool p', .string (S c')])).run Tryz.prog w = .ok (.bool (decide (a = a' ∧ m = m' ∧ p = p' ∧ c = c'))) w := by
 rw [run_eql_struct, run_equalIn_agg w _ _ _ _ (by kernel_rfl) (by kernel_rfl)]
 have hf : (Tryz.prog.fieldsOf 95).toList = [⟨"Base", 22, 0, false, "", "", 0⟩, ⟨"Var", 3, 1, false, "", "", 16⟩, ⟨"Coef", 50, 2, false, "", "", 24⟩] := by kernel_rfl
 have hi : Tryz.prog.underlying 3 = some (.int .i64) := by kernel_rfl
 have e1 : ∀ (u v x y : Value) (w : World), (part 3 #[u, v, x, y] 1).run Tryz.prog w = .ok v w := fun u v x y w => run_part_plain w (by kernel_rfl) rfl
 have hz : ∃ d, Tryz.prog.underlying 50 = some d ∧ isAggD d = true := ⟨_, u50, rfl⟩
 have hs : (Tryz.prog.info? 50).map (·.size) = some 2 := by kernel_rfl
 have e2 : ∀ (u v x y : Value) (w : World), (part 50 #[u, v, x, y] 2).run Tryz.prog w = .ok (.agg #[x, y]) w := fun u v x y w => by
  obtain ⟨i, hi1, hi2⟩ := Option.map_eq_some_iff.1 hs
  simp [part, isAgg, run_underlying u50, run_sizeOf w hi1, hi2]
 have hm : ∀ (w : World), (Op.equalIn 9999 3 (.int .i64 m) (.int .i64 m')).run Tryz.prog w = .ok (m == m') w := fun w => run_equalIn_int w 9998 _ .i64 .i64 m m' hi
 rw [hf]
 simp only [Op.eqFields, Sem.run_bind, e1, e2, hm, pn40, eq_int, eq_nat, Result.andThen_ok, Sem.run_ite, Sem.run_pure]
 by_cases h1 : a = a' <;> by_cases h2 : m = m' <;> by_cases h3 : p = p' ∧ c = c' <;> simp [h1, h2, h3]
theorem ext_getD {α : Type} [Inhabited α] {x y : List α} (hl : x.length = y.length) {i : Nat} (hi : i < x.length) (ht : x.take i = y.take i) (he : x.getD i default = y.getD i default) : x.take (i + 1) = y.take (i + 1) := by
 rw [take_succ_getD hi, take_succ_getD (by omega), ht, he]
theorem ext_take {α : Type} {x y : List α} (hl : x.length = y.length) (ht : x.take x.length = y.take x.length) : x = y := by
 rw [List.take_length, hl, List.take_length] at ht; exact ht
theorem core_es {s t : SA} (h : s.core = t.core) : s.es.map (·.1) = t.es.map (·.1) := congrArg (·.2.2) h
theorem core_len {s t : SA} (h : s.core = t.core) : (s.gs.length : Int) = t.gs.length ∧ (s.vs.length : Int) = t.vs.length ∧ (s.es.length : Int) = t.es.length := by
 have h1 : s.gs = t.gs := congrArg (·.1) h
 have h2 : s.vs = t.vs := congrArg (·.2.1) h
 have h4 : s.es.length = t.es.length := by simpa using congrArg List.length (core_es h)
 exact ⟨by rw [h1], by rw [h2], by rw [h4]⟩
theorem core_q {s t : SA} (h : s.core = t.core) (k : Nat) : (s.es.getD k default).1 = (t.es.getD k default).1 := by
 rw [← qa_getD, ← qa_getD, core_es h]
instance : DecidableEq Tm := inferInstanceAs (DecidableEq (Bs × Int × Bool × Bs))
instance : DecidableEq Qn := inferInstanceAs (DecidableEq (Int × Bs × List Tm))
instance : DecidableEq Sm := inferInstanceAs (DecidableEq (List (Bs × Bs) × List Bs × List Qn))
theorem ssame_c {s t : SA} {w : World} {ok : Nat → Prop} (hF1 : (Fact.sl s.ga (gps s.gs)).holds ok w) (hF2 : (Fact.sl s.va (vrs s.vs)).holds ok w) (hF3 : (Fact.sl s.ea (qas s.es)).holds ok w) (hF4 : (Fact.sl t.ga (gps t.gs)).holds ok w) (hF5 : (Fact.sl t.va (vrs t.vs)).holds ok w) (hF6 : (Fact.sl t.ea (qas t.es)).holds ok w) (hM : ∀ f ∈ (s.es.map qaF ++ t.es.map qaF), f.holds ok w) (hs : saL s) (ht : saL t) :
  Cw 13 #[saV s, saV t] w (.bool (decide (s.core = t.core))) := by
 obtain ⟨hlg, hlv, hle, hlt, hlm⟩ := hs
 obtain ⟨hkg, hkv, hke, hkt, hkm⟩ := ht
 refine En (Fact.sl s.ga (gps s.gs) :: Fact.sl s.va (vrs s.vs) :: Fact.sl s.ea (qas s.es) :: Fact.sl t.ga (gps t.gs) :: Fact.sl t.va (vrs t.vs) :: Fact.sl t.ea (qas t.es) :: (s.es.map qaF ++ t.es.map qaF)) [(0, saV s), (1, saV t)] Tryz.func13 rfl Tryz.ntmps13 rfl (Ac rfl (Ac rfl (An _))) (Fc (fact_any hF1) (Fc (fact_any hF2) (Fc (fact_any hF3) (Fc (fact_any hF4) (Fc (fact_any hF5) (Fc (fact_any hF6) (facts_more hM))))))) ?_
 refine Cs ?_
 refine Kh rfl (Oy rfl rfl) ?_
 intro b2
 refine Kh rfl (Oy rfl rfl) ?_
 intro b3
 refine Ka rfl (Nt (Cq ?_))
 refine WC.joinP (σ := Unit) [(2, _), (3, _)] (fun gq => [(35, .bool (decide (¬ ((s.gs.length : Int) = t.gs.length ∧ (s.vs.length : Int) = t.vs.length ∧ (s.es.length : Int) = t.es.length))))]) (fun gq => True) (S2 rfl rfl) ?_ ?_
 ·skip
  refine Cg (Kq rfl (Fa (q := 0) rfl rfl u42 rfl rfl) (Kq rfl (Ld rfl rfl .tc u38) ?_))
  refine Kq rfl (rd_len rfl rfl u38) (Kq rfl (Fa (q := 0) rfl rfl u42 rfl rfl) (Kq rfl (Ld rfl rfl .tc u38) ?_))
  refine Kq rfl (rd_len rfl rfl u38) (Kq rfl (rd_neq rfl rfl rfl) (Km rfl ?_))
  refine Nb 18 rfl (fun hg18 => ?_) (fun hg18 => ?_)
  ·(try simp only [sB] at hg18)
   refine Kt rfl (Kt rfl (Kt rfl (Kt rfl (Kt rfl (Kt rfl (Kt rfl (Kq rfl (Rp rfl rfl rfl) (Km rfl (Kt rfl (Kt rfl (Kt rfl (Kt rfl (Kt rfl (Kt rfl (Kt rfl (Kq rfl (Rp rfl rfl rfl) (Nn ?_)))))))))))))))))
   refine WX.joinP (()) (S2 rfl rfl) (by refine (Sc ?_ (S0 _)) <;> ((refine slot_b rfl ?_; (try dsimp only); (simp [*]; done)))) ?_ (by (exact fun _ h => h))
   (try dsimp only)
   done
  ·(try simp only [sB] at hg18)
   refine Kq rfl (Fa (q := 1) rfl rfl u42 rfl rfl) (Kq rfl (Ld rfl rfl .tc u39) ?_)
   refine Kq rfl (rd_len rfl rfl u39) (Kq rfl (Fa (q := 1) rfl rfl u42 rfl rfl) (Kq rfl (Ld rfl rfl .tc u39) ?_))
   refine Kq rfl (rd_len rfl rfl u39) (Kq rfl (rd_neq rfl rfl rfl) (Kq rfl (Rq rfl rfl rfl) (Km rfl ?_)))
   refine Nb 27 rfl (fun hg27 => ?_) (fun hg27 => ?_)
   ·(try simp only [sB] at hg27)
    refine Kt rfl (Kt rfl (Kt rfl (Kt rfl (Kt rfl (Kt rfl (Kt rfl (Kq rfl (Rp rfl rfl rfl) (Nn ?_))))))))
    refine WX.joinP (()) (S2 rfl rfl) (by refine (Sc ?_ (S0 _)) <;> ((refine slot_b rfl ?_; (try dsimp only); (simp [*]; done)))) ?_ (by (exact fun _ h => h))
    (try dsimp only)
    done
   ·(try simp only [sB] at hg27)
    refine Kq rfl (Fa (q := 2) rfl rfl u42 rfl rfl) (Kq rfl (Ld rfl rfl .tc u40) ?_)
    refine Kq rfl (rd_len rfl rfl u40) (Kq rfl (Fa (q := 2) rfl rfl u42 rfl rfl) (Kq rfl (Ld rfl rfl .tc u40) ?_))
    refine Kq rfl (rd_len rfl rfl u40) (Kq rfl (rd_neq rfl rfl rfl) (Kq rfl (Rq rfl rfl rfl) (Nn ?_)))
    refine WX.joinP (()) (S2 rfl rfl) (by refine (Sc ?_ (S0 _)) <;> ((refine slot_b rfl ?_; (try dsimp only); (simp [*]; done)))) ?_ (by (exact fun _ h => h))
    (try dsimp only)
    done
 ·rintro _ hmeet; (try dsimp only at hmeet ⊢)
  refine Cd rfl (fun hc35 => ?_) (fun hc35 => ?_)
  ·(try simp only [sB] at hc35)
   refine Cs (Ka rfl (Nt (Ce (Xb ?_))))
   exact R1 rfl rfl (by rw [decide_eq_false (fun h => hc35 (core_len h))]; rfl)
  ·(try simp only [sB] at hc35)
   obtain ⟨hgl0, hvl0, hel0⟩ := Decidable.not_not.1 hc35
   have hgl : s.gs.length = t.gs.length := by omega
   have hvl : s.vs.length = t.vs.length := by omega
   have hel : s.es.length = t.es.length := by omega
   refine Ck (Xa (Cq (Cs (Ka rfl (Nt (Cb ?_))))))
   refine Lp (σ := Nat) [(2, _), (3, _)] (fun gq => [(5, .int .i64 (gq : Int))]) (fun gq => gq ≤ s.gs.length ∧ s.gs.take gq = t.gs.take gq) (fun gq => s.gs.length - gq) (0) (S2 rfl rfl) (S1 rfl) (by (try dsimp only); exact ⟨Nat.zero_le _, by simp⟩) ?_
   rintro i hinv1; (try dsimp only at hinv1 ⊢)
   obtain ⟨hi, hti⟩ := hinv1
   refine Cq (Cs (Km rfl (Kq rfl (Fa (q := 0) rfl rfl u42 rfl rfl) (Kq rfl (Ld rfl rfl .tc u38) ?_))))
   refine Kq rfl (rd_len rfl rfl u38) (Kq rfl (rd_lss rfl rfl rfl) (Nt ?_))
   refine Cd rfl (fun hc40 => ?_) (fun hc40 => ?_)
   ·(try simp only [sB] at hc40)
    have hil : i < s.gs.length := by omega
    have hil2 : i < t.gs.length := by omega
    refine Ck (Xa (Cq (Cb (Cq ?_))))
    refine Cf [0, 1, 2, 3, 4, 5, 6, 7, 8, 9, 10] [] [0, 0, 0, 0, 0, 0, 0, 0, 0, 0, 0] (by kernel_rfl) (by kernel_rfl) rfl ?_
    refine Kj rfl (Fa (q := 0) rfl rfl u42 rfl rfl) (Kj rfl (Ld rfl rfl .tc u38) ?_)
    refine Kj rfl (Rm rfl rfl) ?_
    refine Kj rfl (Ia rfl rfl rfl u38 (by kernel_rfl : _ = some 2) (by omega) (by (rw [flatMap_len _ _ 2 (fun _ => rfl)]; omega))) ?_
    refine Kj rfl (ldma _ rfl rfl u26 rfl (by kernel_rfl : _ = some 2) (fun _ => rfl) (by decide) rfl (by assumption)) ?_
    refine Kj rfl (Fa (q := 0) rfl rfl u42 rfl rfl) (Kj rfl (Ld rfl rfl .tc u38) ?_)
    refine Kj rfl (Rm rfl rfl) ?_
    refine Kj rfl (Ia rfl rfl rfl u38 (by kernel_rfl : _ = some 2) (by omega) (by (rw [flatMap_len _ _ 2 (fun _ => rfl)]; omega))) ?_
    refine Kj rfl (ldma _ rfl rfl u26 rfl (by kernel_rfl : _ = some 2) (fun _ => rfl) (by decide) rfl (by assumption)) ?_
    refine Kj rfl (rd_neA rfl rfl rfl (by kernel_rfl) (fun w => eql_api_Group _ _ _ _ w)) ?_
    refine WJ.nil ?_
    refine Nt ?_
    refine Cd rfl (fun hc53 => ?_) (fun hc53 => ?_)
    ·(try simp only [sB] at hc53)
     refine Cs (Ka rfl (Nt (Ce (Xf (Xb (Xb (Xf (Xb ?_))))))))
     exact R1 rfl rfl (by rw [decide_eq_false (fun h => by have h1 : s.gs = t.gs := congrArg (·.1) h; rw [h1] at hc53; simp at hc53)]; rfl)
    ·(try simp only [sB] at hc53)
     refine Ck (Xd (Xa (Cg (Km rfl (Kq rfl (Rz rfl rfl rfl (by omega)) (Ka rfl (Nn ?_)))))))
     refine Ly (i + 1) (by (try dsimp only); omega) (S2 rfl rfl) (by refine (Sc ?_ (S0 _)) <;> (rfl)) ?_ (by (exact fun _ h => h))
     (try dsimp only)
     exact ⟨hil, ext_getD hgl hil hti (Prod.ext_iff.2 (by simpa using hc53))⟩
   ·(try simp only [sB] at hc40)
    refine Cx (Xc (Xc (Xe ?_)))
    obtain rfl : i = s.gs.length := by omega
    have heg := ext_take hgl hti
    refine Xa (Cq (Cs (Ka rfl (Nt (Cb ?_)))))
    refine Lp (σ := Nat) [(2, _), (3, _)] (fun gq => [(6, .int .i64 (gq : Int))]) (fun gq => gq ≤ s.vs.length ∧ s.vs.take gq = t.vs.take gq) (fun gq => s.vs.length - gq) (0) (S2 rfl rfl) (S1 rfl) (by (try dsimp only); exact ⟨Nat.zero_le _, by simp⟩) ?_
    rintro j hinv2; (try dsimp only at hinv2 ⊢)
    obtain ⟨hj, htj⟩ := hinv2
    refine Cq (Cs (Km rfl (Kq rfl (Fa (q := 1) rfl rfl u42 rfl rfl) (Kq rfl (Ld rfl rfl .tc u39) ?_))))
    refine Kq rfl (rd_len rfl rfl u39) (Kq rfl (rd_lss rfl rfl rfl) (Nt ?_))
    refine Cd rfl (fun hc58 => ?_) (fun hc58 => ?_)
    ·(try simp only [sB] at hc58)
     have hjl : j < s.vs.length := by omega
     have hjl2 : j < t.vs.length := by omega
     refine Ck (Xa (Cq (Cb (Cq ?_))))
     refine Cf [0, 1, 2, 3, 4, 5, 6, 7, 8, 9, 10] [] [0, 0, 0, 0, 0, 0, 0, 0, 0, 0, 0] (by kernel_rfl) (by kernel_rfl) rfl ?_
     refine Kj rfl (Fa (q := 1) rfl rfl u42 rfl rfl) (Kj rfl (Ld rfl rfl .tc u39) ?_)
     refine Kj rfl (Rm rfl rfl) ?_
     refine Kj rfl (Ib rfl rfl rfl u39 (by omega) (by (rw [flatMap_len _ _ 1 (fun _ => rfl)]; omega))) ?_
     refine Kj rfl (ldma _ rfl rfl u102 rfl (by kernel_rfl : _ = some 1) (fun _ => rfl) (by decide) (Nat.mul_one _).symm (by assumption)) ?_
     refine Kj rfl (Fa (q := 1) rfl rfl u42 rfl rfl) (Kj rfl (Ld rfl rfl .tc u39) ?_)
     refine Kj rfl (Rm rfl rfl) ?_
     refine Kj rfl (Ib rfl rfl rfl u39 (by omega) (by (rw [flatMap_len _ _ 1 (fun _ => rfl)]; omega))) ?_
     refine Kj rfl (ldma _ rfl rfl u102 rfl (by kernel_rfl : _ = some 1) (fun _ => rfl) (by decide) (Nat.mul_one _).symm (by assumption)) ?_
     refine Kj rfl (rd_neA rfl rfl rfl (by kernel_rfl) (fun w => eql_api_Variable _ _ w)) ?_
     refine WJ.nil ?_
     refine Nt ?_
     refine Cd rfl (fun hc71 => ?_) (fun hc71 => ?_)
     ·(try simp only [sB] at hc71)
      refine Cs (Ka rfl (Nt (Ce (Xf (Xb (Xb (Xf (Xb ?_))))))))
      exact R1 rfl rfl (by rw [decide_eq_false (fun h => by have h1 : s.vs = t.vs := congrArg (·.2.1) h; rw [h1] at hc71; simp at hc71)]; rfl)
     ·(try simp only [sB] at hc71)
      refine Ck (Xd (Xa (Cg (Km rfl (Kq rfl (Rz rfl rfl rfl (by omega)) (Ka rfl (Nn ?_)))))))
      refine Ly (j + 1) (by (try dsimp only); omega) (S2 rfl rfl) (by refine (Sc ?_ (S0 _)) <;> (rfl)) ?_ (by (exact fun _ h => h))
      (try dsimp only)
      exact ⟨hjl, ext_getD hvl hjl htj (by simpa using hc71)⟩
    ·(try simp only [sB] at hc58)
     refine Cx (Xc (Xc (Xe ?_)))
     obtain rfl : j = s.vs.length := by omega
     have hev := ext_take hvl htj
     refine Xa (Cq (Cs (Ka rfl (Nt (Cb ?_)))))
     refine Lp (σ := Nat) [(2, _), (3, _)] (fun gq => [(7, .int .i64 (gq : Int))]) (fun gq => gq ≤ s.es.length ∧ (s.es.map (·.1)).take gq = (t.es.map (·.1)).take gq) (fun gq => s.es.length - gq) (0) (S2 rfl rfl) (S1 rfl) (by (try dsimp only); exact ⟨Nat.zero_le _, by simp⟩) ?_
     rintro k hinv3; (try dsimp only at hinv3 ⊢)
     obtain ⟨hk, htk⟩ := hinv3
     refine Cq (Cs (Km rfl (Kq rfl (Fa (q := 2) rfl rfl u42 rfl rfl) (Kq rfl (Ld rfl rfl .tc u40) ?_))))
     refine Kq rfl (rd_len rfl rfl u40) (Kq rfl (rd_lss rfl rfl rfl) (Nt ?_))
     refine Cd rfl (fun hc76 => ?_) (fun hc76 => ?_)
     ·(try simp only [sB] at hc76)
      have hkl : k < s.es.length := by omega
      have hkl2 : k < t.es.length := by omega
      have hm1 := getD_mem s.es k hkl
      have hm2 := getD_mem t.es k hkl2
      have hlt1 := hlt _ hm1
      have hlt2 := hkt _ hm2
      refine Ck (Xa (Cq (Cb (Cq ?_))))
      refine Cf [0, 1, 2, 3, 4, 10, 11, 12, 5, 6, 7, 8, 9, 13] [] [0, 0, 0, 0, 0, 0, 0, 0, 0, 0, 3, 3, 1, 1] (by kernel_rfl) (by kernel_rfl) rfl ?_
      refine Kj rfl (Fa (q := 2) rfl rfl u42 rfl rfl) (Kj rfl (Ld rfl rfl .tc u40) ?_)
      refine Kj rfl (Rm rfl rfl) ?_
      refine Kj rfl (Ia rfl rfl rfl u40 (by kernel_rfl : _ = some 3) (by omega) (by (rw [flatMap_len _ _ 3 (fun _ => rfl)]; omega))) ?_
      refine Kj rfl (ldma _ rfl rfl u99 rfl (by kernel_rfl : _ = some 3) (fun _ => rfl) (by decide) rfl (by assumption)) ?_
      refine Jf rfl rfl rfl rfl rfl (fr_alloc rfl (v := (.agg #[.int .i64 0, .string (S []), .slice none 0 0])) (cs := [.int .i64 0, .string (S []), .slice none 0 0]) (by kernel_rfl) rfl) ?_
      intro b8
      refine Jf rfl rfl rfl rfl rfl (fr_alloc rfl (v := (.agg #[.int .i64 0, .string (S []), .slice none 0 0])) (cs := [.int .i64 0, .string (S []), .slice none 0 0]) (by kernel_rfl) rfl) ?_
      intro b9
      refine WJ.st rfl rfl rfl rfl (staJ rfl rfl rfl ?_ ?_ ?_) ?_
      ·kernel_rfl
      ·simp [Value.oneCell']
      ·rfl
      refine Kj rfl (Fa (q := 2) rfl rfl u42 rfl rfl) (Kj rfl (Ld rfl rfl .tc u40) ?_)
      refine Kj rfl (Rm rfl rfl) ?_
      refine Kj rfl (Ia rfl rfl rfl u40 (by kernel_rfl : _ = some 3) (by omega) (by (rw [flatMap_len _ _ 3 (fun _ => rfl)]; omega))) ?_
      refine Kj rfl (ldma _ rfl rfl u99 rfl (by kernel_rfl : _ = some 3) (fun _ => rfl) (by decide) rfl (by assumption)) ?_
      refine WJ.st rfl rfl rfl rfl (staJ rfl rfl rfl ?_ ?_ ?_) ?_
      ·kernel_rfl
      ·simp [Value.oneCell']
      ·rfl
      refine WJ.nil ?_
      refine Nt (Cq ?_)
      refine WC.joinP (σ := Unit) [(2, _), (3, _), (7, _), (8, _), (9, _)] (fun gq => [(109, .bool (decide (¬ ((s.es.getD k default).1.1 = (t.es.getD k default).1.1 ∧ (s.es.getD k default).1.2.1 = (t.es.getD k default).1.2.1 ∧ ((s.es.getD k default).1.2.2.length : Int) = (t.es.getD k default).1.2.2.length))))]) (fun gq => True) (S5 rfl rfl rfl rfl rfl) ?_ ?_
      ·skip
       refine Cg (Kq rfl (Fa (q := 0) rfl rfl u99 rfl rfl) (Kq rfl (Ld rfl rfl .tc u3) ?_))
       refine Kq rfl (Fa (q := 0) rfl rfl u99 rfl rfl) (Kq rfl (Ld rfl rfl .tc u3) ?_)
       refine Kq rfl (rd_neq rfl rfl rfl) (Km rfl ?_)
       refine Nb 94 rfl (fun hg94 => ?_) (fun hg94 => ?_)
       ·(try simp only [sB] at hg94)
        refine Kt rfl (Kt rfl (Kt rfl (Kt rfl (Kt rfl (Kq rfl (Rp rfl rfl rfl) (Km rfl (Kt rfl (Kt rfl (Kt rfl (Kt rfl (Kt rfl (Kt rfl (Kt rfl (Kq rfl (Rp rfl rfl rfl) (Nn ?_)))))))))))))))
        refine WX.joinP (()) (S5 rfl rfl rfl rfl rfl) (by refine (Sc ?_ (S0 _)) <;> ((exact congrArg (fun b => some (Value.bool b)) (by symm; apply decide_eq_true; omega)))) ?_ (by (exact fun _ h => h))
        (try dsimp only)
        done
       ·(try simp only [sB] at hg94)
        refine Kq rfl (Fa (q := 1) rfl rfl u99 rfl rfl) (Kq rfl (Ld rfl rfl .tc u22) ?_)
        refine Kq rfl (Fa (q := 1) rfl rfl u99 rfl rfl) (Kq rfl (Ld rfl rfl .tc u22) ?_)
        refine Kq rfl (rd_sne rfl rfl rfl) (Kq rfl (Rq rfl rfl rfl) (Km rfl ?_))
        refine Nb 101 rfl (fun hg101 => ?_) (fun hg101 => ?_)
        ·(try simp only [sB] at hg101)
         refine Kt rfl (Kt rfl (Kt rfl (Kt rfl (Kt rfl (Kt rfl (Kt rfl (Kq rfl (Rp rfl rfl rfl) (Nn ?_))))))))
         refine WX.joinP (()) (S5 rfl rfl rfl rfl rfl) (by refine (Sc ?_ (S0 _)) <;> ((refine congrArg (fun b => some (Value.bool b)) ?_; simp [*, -List.getD_eq_getElem?_getD]; done))) ?_ (by (exact fun _ h => h))
         (try dsimp only)
         done
        ·(try simp only [sB] at hg101)
         refine Kq rfl (Fa (q := 2) rfl rfl u99 rfl rfl) (Kq rfl (Ld rfl rfl .tc u97) ?_)
         refine Kq rfl (rd_len rfl rfl u97) (Kq rfl (Fa (q := 2) rfl rfl u99 rfl rfl) (Kq rfl (Ld rfl rfl .tc u97) ?_))
         refine Kq rfl (rd_len rfl rfl u97) (Kq rfl (rd_neq rfl rfl rfl) (Kq rfl (Rq rfl rfl rfl) (Nn ?_)))
         refine WX.joinP (()) (S5 rfl rfl rfl rfl rfl) (by refine (Sc ?_ (S0 _)) <;> ((refine congrArg (fun b => some (Value.bool b)) ?_; simp [*, -List.getD_eq_getElem?_getD]; done))) ?_ (by (exact fun _ h => h))
         (try dsimp only)
         done
      ·rintro _ hmeet; (try dsimp only at hmeet ⊢)
       refine Cd rfl (fun hc109 => ?_) (fun hc109 => ?_)
       ·(try simp only [sB] at hc109)
        refine Cs (Ka rfl (Nt (Ce (Xb (Xf (Xb (Xb (Xf (Xb ?_)))))))))
        exact R1 rfl rfl (by rw [decide_eq_false (fun h => hc109 (by rw [core_q h]; exact ⟨rfl, rfl, rfl⟩))]; rfl)
       ·(try simp only [sB] at hc109)
        obtain ⟨hq1, hq2, hq30⟩ := Decidable.not_not.1 hc109
        have hq3 : (s.es.getD k default).1.2.2.length = (t.es.getD k default).1.2.2.length := by omega
        refine Ck (Xa (Cs ?_))
        refine WL.st (fun w h => st_addm (more := s.es.map qaF ++ t.es.map qaF) (f := qaF (t.es.getD k default)) (st_addm (more := s.es.map qaF ++ t.es.map qaF) (f := qaF (s.es.getD k default)) h (List.mem_append_left _ (List.mem_map_of_mem hm1))) (List.mem_append_right _ (List.mem_map_of_mem hm2))) ?_
        refine Ka rfl (Nt (Cb ?_))
        refine Lp (σ := Nat) [(2, _), (3, _), (7, _), (8, _), (9, _)] (fun gq => [(10, .int .i64 (gq : Int))]) (fun gq => gq ≤ (s.es.getD k default).1.2.2.length ∧ (s.es.getD k default).1.2.2.take gq = (t.es.getD k default).1.2.2.take gq) (fun gq => (s.es.getD k default).1.2.2.length - gq) (0) (S5 rfl rfl rfl rfl rfl) (S1 rfl) (by (try dsimp only); exact ⟨Nat.zero_le _, by simp⟩) ?_
        rintro m hinv4; (try dsimp only at hinv4 ⊢)
        obtain ⟨hm, htm⟩ := hinv4
        refine Cq (Cs (Km rfl (Kq rfl (Fa (q := 2) rfl rfl u99 rfl rfl) (Kq rfl (Ld rfl rfl .tc u97) ?_))))
        refine Kq rfl (rd_len rfl rfl u97) (Kq rfl (rd_lss rfl rfl rfl) (Nt ?_))
        refine Cd rfl (fun hc114 => ?_) (fun hc114 => ?_)
        ·(try simp only [sB] at hc114)
         have hml : m < (s.es.getD k default).1.2.2.length := by omega
         have hml2 : m < (t.es.getD k default).1.2.2.length := by omega
         refine Ck (Xa (Cq (Cb (Cq ?_))))
         refine Cf [0, 1, 2, 3, 4, 5, 6, 7, 8, 9, 10] [] [0, 0, 0, 0, 0, 0, 0, 0, 0, 0, 0] (by kernel_rfl) (by kernel_rfl) rfl ?_
         refine Kj rfl (Fa (q := 2) rfl rfl u99 rfl rfl) (Kj rfl (Ld rfl rfl .tc u97) ?_)
         refine Kj rfl (Rm rfl rfl) ?_
         refine Kj rfl (Ia rfl rfl rfl u97 (by kernel_rfl : _ = some 4) (by omega) (by (rw [flatMap_len _ _ 4 (fun _ => rfl)]; omega))) ?_
         refine Kj rfl (ldma _ rfl rfl u95 rfl (by kernel_rfl : _ = some 4) (fun _ => rfl) (by decide) rfl (by assumption)) ?_
         refine Kj rfl (Fa (q := 2) rfl rfl u99 rfl rfl) (Kj rfl (Ld rfl rfl .tc u97) ?_)
         refine Kj rfl (Rm rfl rfl) ?_
         refine Kj rfl (Ia rfl rfl rfl u97 (by kernel_rfl : _ = some 4) (by omega) (by (rw [flatMap_len _ _ 4 (fun _ => rfl)]; omega))) ?_
         refine Kj rfl (ldma _ rfl rfl u95 rfl (by kernel_rfl : _ = some 4) (fun _ => rfl) (by decide) rfl (by assumption)) ?_
         refine Kj rfl (rd_neA rfl rfl rfl (by kernel_rfl) (fun w => eql_api_Term _ _ _ _ _ _ _ _ w)) ?_
         refine WJ.nil ?_
         refine Nt ?_
         refine Cd rfl (fun hc127 => ?_) (fun hc127 => ?_)
         ·(try simp only [sB] at hc127)
          refine Cs (Ka rfl (Nt (Ce (Xf (Xb (Xb (Xf (Xf (Xb (Xb (Xf (Xb ?_))))))))))))
          exact R1 rfl rfl (by rw [decide_eq_false (fun h => by rw [core_q h] at hc127; simp at hc127)]; rfl)
         ·(try simp only [sB] at hc127)
          refine Ck (Xd (Xa (Cg (Km rfl (Kq rfl (Rz rfl rfl rfl (by omega)) (Ka rfl (Nn ?_)))))))
          refine Ly (m + 1) (by (try dsimp only); omega) (S5 rfl rfl rfl rfl rfl) (by refine (Sc ?_ (S0 _)) <;> (rfl)) ?_ (by (exact fun _ h => h))
          (try dsimp only)
          exact ⟨hml, ext_getD hq3 hml htm (by simpa [Prod.ext_iff] using hc127)⟩
        ·(try simp only [sB] at hc114)
         refine Cx (Xc (Xc (Xe ?_)))
         obtain rfl : m = (s.es.getD k default).1.2.2.length := by omega
         have het := ext_take hq3 htm
         refine Xd (Xa (Cg (Km rfl (Kq rfl (Rz rfl rfl rfl (by omega)) (Ka rfl (Nn ?_))))))
         refine Ly (k + 1) (by (try dsimp only); omega) (S2 rfl rfl) (by refine (Sc ?_ (S0 _)) <;> (rfl)) ?_ (by (exact st_sub))
         (try dsimp only)
         exact ⟨hkl, ext_getD (by simpa using hel) (by simpa using hkl) htk (by rw [qa_getD, qa_getD]; exact Prod.ext hq1 (Prod.ext hq2 het))⟩
     ·(try simp only [sB] at hc76)
      refine Cx (Xc (Xc (Xe ?_)))
      obtain rfl : k = s.es.length := by omega
      have hee : s.es.map (·.1) = t.es.map (·.1) := by
       have := htk; rw [List.take_of_length_le (by simp), List.take_of_length_le (by simp [hel])] at this; exact this
      refine Xa (Cs (Ka rfl (Nt (Ce ?_))))
      exact R1 rfl rfl (by rw [decide_eq_true (show s.core = t.core by simp only [SA.core, heg, hev, hee])]; rfl)
end Go.Proofs.YthkmpjobfdeoaaaGreatDoor
