/-
  Parts of the walk: Lin2 Lin3 Lin4 Icm Pw3.
-/
import Derived.Test.YtmkghgoibnncbaaGreatDoorY15
namespace Go.Proofs.YtmkghgoibnncbaaGreatDoor
open Go.RowKit
set_option linter.unusedSimpArgs false
set_option linter.unusedVariables false
set_option maxHeartbeats 600000
set_option maxRecDepth 20000
theorem fact_keep {f : Fact} {w w' : World} (h : f.holds (fun _ => True) w) (hb : Below w.heap.size w w') : f.holds (fun _ => True) w' := f.stable h hb.size fun b hlt _ => hb.block b hlt
theorem fnc0 (v : Value) : #[v] ++ (#[] : Array Value) = #[v] := by simp
theorem fnc1 (v u : Value) : #[v] ++ (#[u] : Array Value) = #[v, u] := by simp
theorem st_addm {ok : Nat → Prop} {w0 w : World} {own : List Ent} {fs more : List Fact} {f : Fact} (h : St ok w0 own fs w) [hm : HasM fs more] (hf : f ∈ more) : St ok w0 own (f :: fs) w := h.add (h.fact f (hm.h f hf))
theorem lorder_c {s : SA} {w : World} {ok : Nat → Prop} (hF1 : (Fact.sl s.ga (gps s.gs)).holds ok w) (hs : saL s) :
  Cw 124 #[saV s] w (.string (S (ordS s.gs))) := by
 obtain ⟨hlg, hlv, hle, hlt, hlm⟩ := hs
 refine En [Fact.sl s.ga (gps s.gs)] [(0, saV s)] Tryz.func124 rfl Tryz.ntmps124 rfl (Ac rfl (An _)) (Fc (fact_any hF1) Fn) ?_
 refine Cs ?_
 refine Kh rfl (Oy rfl rfl) ?_
 intro b1
 refine Ka rfl (Nt (Cq (Cs (Kq rfl (Fa (q := 0) rfl rfl u52 rfl rfl) (Kq rfl (Ld rfl rfl .tc u48) ?_)))))
 refine Kq rfl (rd_len rfl rfl u48) (Km rfl (Nt (Cb ?_)))
 refine Lp (σ := Nat) [(6, _), (7, _)] (fun gq => [(8, .int .i64 (gq : Int))]) (fun gq => gq ≤ s.gs.length ∧ ∀ g ∈ s.gs.take gq, g.2 = []) (fun gq => s.gs.length - gq) (0) (S2 rfl rfl) (S1 rfl) (by (try dsimp only); exact ⟨Nat.zero_le _, by simp⟩) ?_
 rintro i hinv1; (try dsimp only at hinv1 ⊢)
 obtain ⟨hi, hok⟩ := hinv1
 refine Cs (Kq rfl (rd_lss rfl rfl rfl) (Nt (Cq ?_)))
 refine Cd rfl (fun hc9 => ?_) (fun hc9 => ?_)
 ·(try simp only [sB] at hc9)
  have hil : i < s.gs.length := by omega
  refine Ck (Xa (Cq (Cb (Cs ?_))))
  refine Kq rfl (Ia rfl rfl rfl u48 (by kernel_rfl : _ = some 2) (by omega) (by (rw [flatMap_len _ _ 2 (fun _ => rfl)]; omega))) ?_
  refine Kq rfl (ldma _ rfl rfl u24 rfl (by kernel_rfl : _ = some 2) (fun _ => rfl) (by decide) rfl (by assumption)) ?_
  refine Kh rfl (Oz [.string (S []), .string (S [])] rfl) ?_
  intro b4
  refine Nu rfl rfl (Sa rfl rfl rfl .tc) ?_
  refine Nt (Cs (Kq rfl (Fa (q := 1) rfl rfl u24 rfl rfl) (Kq rfl (Ld rfl rfl .tc u22) ?_)))
  refine Kq rfl (rd_sne rfl rfl rfl) (Nt ?_)
  refine Cd rfl (fun hc14 => ?_) (fun hc14 => ?_)
  ·(try simp only [sB] at hc14)
   refine Cs (Kq rfl (Fa (q := 1) rfl rfl u24 rfl rfl) (Kq rfl (Ld rfl rfl .tc u22) ?_))
   refine Ka rfl (Nt (Ce (Xf (Xb (Xb (Xf (Xb ?_)))))))
   exact R1 rfl rfl (by rw [ordS_at hil hok (by simpa using hc14)]; rfl)
  ·(try simp only [sB] at hc14)
   refine Ck (Xd (Xa (Cg (Kq rfl (Rz rfl rfl rfl (by omega)) (Km rfl (Nn ?_))))))
   refine Ly (i + 1) (by (try dsimp only); omega) (S2 rfl rfl) (by refine (Sc ?_ (S0 _)) <;> (rfl)) ?_ (by (exact st_sub))
   (try dsimp only)
   exact ⟨hil, all_take hil hok (by simpa using hc14)⟩
 ·(try simp only [sB] at hc9)
  refine Cx (Xc (Xc (Xe ?_)))
  obtain rfl : i = s.gs.length := by omega
  rw [List.take_length] at hok
  refine Xa (Cs (Ka rfl (Nt (Ce ?_))))
  exact R1 rfl rfl (by rw [ordS_nil hok]; rfl)
theorem form_c {s : SA} {w : World} {ok : Nat → Prop} (hF1 : (Fact.sl s.ga (gps s.gs)).holds ok w) (hF2 : (Fact.sl s.va (vrs s.vs)).holds ok w) (hF3 : (Fact.sl s.ea (qas s.es)).holds ok w) (hM : ∀ f ∈ (s.es.map qaF), f.holds ok w) (hs : saL s) :
  Cw 120 #[saV s] w (.int .i64 (if formS s.core then 0 else 3)) := by
 obtain ⟨hlg, hlv, hle, hlt, hlm⟩ := hs
 refine En (Fact.sl s.ga (gps s.gs) :: Fact.sl s.va (vrs s.vs) :: Fact.sl s.ea (qas s.es) :: (s.es.map qaF)) [(0, saV s)] Tryz.func120 rfl Tryz.ntmps120 rfl (Ac rfl (An _)) (Fc (fact_any hF1) (Fc (fact_any hF2) (Fc (fact_any hF3) (facts_more hM)))) ?_
 refine Cs ?_
 refine Kh rfl (Oy rfl rfl) ?_
 intro b1
 refine Ka rfl (Nt (Cq (Cs (Kq rfl (Fa (q := 0) rfl rfl u52 rfl rfl) (Kq rfl (Ld rfl rfl .tc u48) ?_)))))
 refine Kq rfl (rd_len rfl rfl u48) (Km rfl (Nt (Cb ?_)))
 refine Lp (σ := Nat) [(1, _), (12, _), (13, _)] (fun gq => [(14, .int .i64 (gq : Int))]) (fun gq => gq ≤ s.gs.length ∧ ∀ g ∈ s.gs.take gq, okG g) (fun gq => s.gs.length - gq) (0) (S3 rfl rfl rfl) (S1 rfl) (by (try dsimp only); exact ⟨Nat.zero_le _, by simp⟩) ?_
 rintro i hinv1; (try dsimp only at hinv1 ⊢)
 obtain ⟨hi, hok⟩ := hinv1
 refine Cs (Kq rfl (rd_lss rfl rfl rfl) (Nt (Cq ?_)))
 refine Cd rfl (fun hc15 => ?_) (fun hc15 => ?_)
 ·(try simp only [sB] at hc15)
  have hil : i < s.gs.length := by omega
  refine Ck (Xa (Cq (Cb (Cs ?_))))
  refine Kq rfl (Ia rfl rfl rfl u48 (by kernel_rfl : _ = some 2) (by omega) (by (rw [flatMap_len _ _ 2 (fun _ => rfl)]; omega))) ?_
  refine Kq rfl (ldma _ rfl rfl u24 rfl (by kernel_rfl : _ = some 2) (fun _ => rfl) (by decide) rfl (by assumption)) ?_
  refine Kh rfl (Oz [.string (S []), .string (S [])] rfl) ?_
  intro b4
  refine Nu rfl rfl (Sa rfl rfl rfl .tc) ?_
  refine Nt ?_
  refine WC.joinP (σ := Unit) [(1, _), (12, _), (13, _), (14, _)] (fun gq => [(27, .bool (decide (¬ (okN (s.gs.getD i default).1 ∧ okN (s.gs.getD i default).2))))]) (fun gq => True) (S4 rfl rfl rfl rfl) ?_ ?_
  ·skip
   refine Cg (Kq rfl (Fa (q := 0) rfl rfl u24 rfl rfl) (Kq rfl (Ld rfl rfl .tc u22) ?_))
   refine Ku rfl (Oc rfl rfl (Kv fun w hS => valid_c (a := (s.gs.getD i default).1))) ?_
   refine Kq rfl (Rt rfl rfl) (Km rfl ?_)
   refine Nb 22 rfl (fun hg22 => ?_) (fun hg22 => ?_)
   ·(try simp only [sB] at hg22)
    refine Kt rfl (Kt rfl (Kt rfl (Kt rfl (Kq rfl (Rp rfl rfl rfl) (Nn ?_)))))
    refine WX.joinP (()) (S4 rfl rfl rfl rfl) (by refine (Sc ?_ (S0 _)) <;> ((refine congrArg (fun b => some (Value.bool b)) ?_; simp [*, -List.getD_eq_getElem?_getD]; done))) ?_ (by (exact fun _ h => h))
    (try dsimp only)
    done
   ·(try simp only [sB] at hg22)
    refine Kq rfl (Fa (q := 1) rfl rfl u24 rfl rfl) (Kq rfl (Ld rfl rfl .tc u22) ?_)
    refine Ku rfl (Oc rfl rfl (Kv fun w hS => valid_c (a := (s.gs.getD i default).2))) ?_
    refine Kq rfl (Rt rfl rfl) (Kq rfl (Rq rfl rfl rfl) (Nn ?_))
    refine WX.joinP (()) (S4 rfl rfl rfl rfl) (by refine (Sc ?_ (S0 _)) <;> ((refine congrArg (fun b => some (Value.bool b)) ?_; simp [*, -List.getD_eq_getElem?_getD]; done))) ?_ (by (exact fun _ h => h))
    (try dsimp only)
    done
  ·rintro _ hmeet; (try dsimp only at hmeet ⊢)
   refine Cd rfl (fun hc27 => ?_) (fun hc27 => ?_)
   ·(try simp only [sB] at hc27)
    refine Cs (Ka rfl (Nt (Ce (Xf (Xb (Xb (Xf (Xb ?_))))))))
    exact R1 rfl rfl (by rw [if_neg (fun h => absurd (h.1 _ (getD_mem _ _ hil)) hc27)]; rfl)
   ·(try simp only [sB] at hc27)
    refine Ck (Xd (Xa (Cg (Kq rfl (Rz rfl rfl rfl (by omega)) (Km rfl (Nn ?_))))))
    refine Ly (i + 1) (by (try dsimp only); omega) (S3 rfl rfl rfl) (by refine (Sc ?_ (S0 _)) <;> (rfl)) ?_ (by (exact st_sub))
    (try dsimp only)
    exact ⟨hil, all_take hil hok (Decidable.not_not.1 hc27)⟩
 ·(try simp only [sB] at hc15)
  refine Cx (Xc (Xc (Xe ?_)))
  obtain rfl : i = s.gs.length := by omega
  rw [List.take_length] at hok
  refine Xa (Cq (Cs (Kq rfl (Fa (q := 1) rfl rfl u52 rfl rfl) (Kq rfl (Ld rfl rfl .tc u49) ?_))))
  refine Kq rfl (rd_len rfl rfl u49) (Km rfl (Nt (Cb ?_)))
  refine Lp (σ := Nat) [(1, _), (30, _), (31, _)] (fun gq => [(32, .int .i64 (gq : Int))]) (fun gq => gq ≤ s.vs.length ∧ ∀ v ∈ s.vs.take gq, okN v) (fun gq => s.vs.length - gq) (0) (S3 rfl rfl rfl) (S1 rfl) (by (try dsimp only); exact ⟨Nat.zero_le _, by simp⟩) ?_
  rintro j hinv2; (try dsimp only at hinv2 ⊢)
  obtain ⟨hj, hov⟩ := hinv2
  refine Cs (Kq rfl (rd_lss rfl rfl rfl) (Nt (Cq ?_)))
  refine Cd rfl (fun hc33 => ?_) (fun hc33 => ?_)
  ·(try simp only [sB] at hc33)
   have hjl : j < s.vs.length := by omega
   refine Ck (Xa (Cq (Cb (Cs ?_))))
   refine Kq rfl (Ib rfl rfl rfl u49 (by omega) (by (rw [flatMap_len _ _ 1 (fun _ => rfl)]; omega))) ?_
   refine Kq rfl (ldma _ rfl rfl u117 rfl (by kernel_rfl : _ = some 1) (fun _ => rfl) (by decide) (Nat.mul_one _).symm (by assumption)) ?_
   refine Kh rfl (Oz [.string (S [])] rfl) ?_
   intro b6
   refine Nu rfl rfl (Sa rfl rfl rfl .tc) ?_
   refine Nt (Cs (Kq rfl (Fa (q := 0) rfl rfl u117 rfl rfl) (Kq rfl (Ld rfl rfl .tc u22) ?_)))
   refine Ku rfl (Oc rfl rfl (Kv fun w hS => valid_c (a := s.vs.getD j default))) ?_
   refine Kq rfl (Rt rfl rfl) (Nt ?_)
   refine Cd rfl (fun hc39 => ?_) (fun hc39 => ?_)
   ·(try simp only [sB] at hc39)
    refine Cs (Ka rfl (Nt (Ce (Xf (Xb (Xb (Xf (Xb ?_))))))))
    exact R1 rfl rfl (by rw [if_neg (fun h => absurd (h.2.1 _ (getD_mem _ _ hjl)) (by simpa using hc39))]; rfl)
   ·(try simp only [sB] at hc39)
    refine Ck (Xd (Xa (Cg (Kq rfl (Rz rfl rfl rfl (by omega)) (Km rfl (Nn ?_))))))
    refine Ly (j + 1) (by (try dsimp only); omega) (S3 rfl rfl rfl) (by refine (Sc ?_ (S0 _)) <;> (rfl)) ?_ (by (exact st_sub))
    (try dsimp only)
    exact ⟨hjl, all_take hjl hov (by simpa using hc39)⟩
  ·(try simp only [sB] at hc33)
   refine Cx (Xc (Xc (Xe ?_)))
   obtain rfl : j = s.vs.length := by omega
   rw [List.take_length] at hov
   refine Xa (Cq (Cs (Kq rfl (Fa (q := 2) rfl rfl u52 rfl rfl) (Kq rfl (Ld rfl rfl .tc u50) ?_))))
   refine Kq rfl (rd_len rfl rfl u50) (Km rfl (Nt (Cb ?_)))
   refine Lp (σ := Nat) [(1, _), (42, _), (43, _)] (fun gq => [(44, .int .i64 (gq : Int))]) (fun gq => gq ≤ s.es.length ∧ ∀ q ∈ s.es.take gq, okQ s.gs.length s.vs.length q.1) (fun gq => s.es.length - gq) (0) (S3 rfl rfl rfl) (S1 rfl) (by (try dsimp only); exact ⟨Nat.zero_le _, by simp⟩) ?_
   rintro k hinv3; (try dsimp only at hinv3 ⊢)
   obtain ⟨hk, hoq⟩ := hinv3
   refine Cs (Kq rfl (rd_lss rfl rfl rfl) (Nt (Cq ?_)))
   refine Cd rfl (fun hc45 => ?_) (fun hc45 => ?_)
   ·(try simp only [sB] at hc45)
    have hkl : k < s.es.length := by omega
    have hkm := getD_mem s.es k hkl
    have hlt1 := hlt _ hkm
    refine Ck (Xa (Cq (Cb (Cs ?_))))
    refine Kq rfl (Ia rfl rfl rfl u50 (by kernel_rfl : _ = some 3) (by omega) (by (rw [flatMap_len _ _ 3 (fun _ => rfl)]; omega))) ?_
    refine Kq rfl (ldma _ rfl rfl u123 rfl (by kernel_rfl : _ = some 3) (fun _ => rfl) (by decide) rfl (by assumption)) ?_
    refine Kh rfl (Oz [.int .i64 0, .string (S []), .slice none 0 0] rfl) ?_
    intro b8
    refine Nu rfl rfl (Sa rfl rfl rfl .tc) ?_
    refine Nt (Cq ?_)
    refine WC.joinP (σ := Unit) [(1, _), (8, _), (42, _), (43, _), (44, _)] (fun gq => [(64, .bool (decide (¬ ((0 ≤ (s.es.getD k default).1.1 ∧ (s.es.getD k default).1.1 < (s.gs.length : Int)) ∧ okN (s.es.getD k default).1.2.1))))]) (fun gq => True) (S5 rfl rfl rfl rfl rfl) ?_ ?_
    ·skip
     refine Cg (Kq rfl (Fa (q := 0) rfl rfl u123 rfl rfl) (Kq rfl (Ld rfl rfl .tc u3) ?_))
     refine Kq rfl (rd_lss rfl rfl rfl) (Km rfl ?_)
     refine Nb 51 rfl (fun hg51 => ?_) (fun hg51 => ?_)
     ·(try simp only [sB] at hg51)
      refine Kt rfl (Kt rfl (Kt rfl (Kt rfl (Kt rfl (Kt rfl (Kq rfl (Rp rfl rfl rfl) (Km rfl (Kt rfl (Kt rfl (Kt rfl (Kt rfl (Kq rfl (Rp rfl rfl rfl) (Nn ?_)))))))))))))
      refine WX.joinP (()) (S5 rfl rfl rfl rfl rfl) (by refine (Sc ?_ (S0 _)) <;> ((exact congrArg (fun b => some (Value.bool b)) (by symm; apply decide_eq_true; omega)))) ?_ (by (exact fun _ h => h))
      (try dsimp only)
      done
     ·(try simp only [sB] at hg51)
      refine Kq rfl (Fa (q := 0) rfl rfl u123 rfl rfl) (Kq rfl (Ld rfl rfl .tc u3) ?_)
      refine Kq rfl (Fa (q := 0) rfl rfl u52 rfl rfl) (Kq rfl (Ld rfl rfl .tc u48) ?_)
      refine Kq rfl (rd_len rfl rfl u48) (Kq rfl (rd_geq rfl rfl rfl) (Kq rfl (Rq rfl rfl rfl) (Km rfl ?_)))
      refine Nb 59 rfl (fun hg59 => ?_) (fun hg59 => ?_)
      ·(try simp only [sB] at hg59)
       refine Kt rfl (Kt rfl (Kt rfl (Kt rfl (Kq rfl (Rp rfl rfl rfl) (Nn ?_)))))
       refine WX.joinP (()) (S5 rfl rfl rfl rfl rfl) (by refine (Sc ?_ (S0 _)) <;> ((exact congrArg (fun b => some (Value.bool b)) (by symm; apply decide_eq_true; omega)))) ?_ (by (exact fun _ h => h))
       (try dsimp only)
       done
      ·(try simp only [sB] at hg59)
       refine Kq rfl (Fa (q := 1) rfl rfl u123 rfl rfl) (Kq rfl (Ld rfl rfl .tc u22) ?_)
       refine Ku rfl (Oc rfl rfl (Kv fun w hS => valid_c (a := (s.es.getD k default).1.2.1))) ?_
       refine Kq rfl (Rt rfl rfl) (Kq rfl (Rq rfl rfl rfl) (Nn ?_))
       refine WX.joinP (()) (S5 rfl rfl rfl rfl rfl) (by refine (Sc ?_ (S0 _)) <;> ((refine congrArg (fun b => some (Value.bool b)) ?_; simp [*, -List.getD_eq_getElem?_getD]; done))) ?_ (by (exact fun _ h => h))
       (try dsimp only)
       done
    ·rintro _ hmeet; (try dsimp only at hmeet ⊢)
     refine Cd rfl (fun hc64 => ?_) (fun hc64 => ?_)
     ·(try simp only [sB] at hc64)
      refine Cs (Ka rfl (Nt (Ce (Xb (Xf (Xb (Xb (Xf (Xb ?_)))))))))
      exact R1 rfl rfl (by rw [if_neg (fun h => absurd (h.2.2 _ (List.mem_map_of_mem hkm)).1 hc64)]; rfl)
     ·(try simp only [sB] at hc64)
      refine Ck (Xa (Cs (Kq rfl (Fa (q := 2) rfl rfl u123 rfl rfl) ?_)))
      refine WL.st (fun w h => st_addm (more := s.es.map qaF) (f := qaF (s.es.getD k default)) h (List.mem_map_of_mem hkm)) ?_
      refine Kq rfl (Ld rfl rfl .tc u121) ?_
      refine Kq rfl (rd_len rfl rfl u121) (Km rfl (Nt (Cb ?_)))
      refine Lp (σ := Nat) [(1, _), (42, _), (43, _), (44, _), (66, _), (67, _)] (fun gq => [(68, .int .i64 (gq : Int))]) (fun gq => gq ≤ (s.es.getD k default).1.2.2.length ∧ ∀ t ∈ (s.es.getD k default).1.2.2.take gq, okT s.vs.length t) (fun gq => (s.es.getD k default).1.2.2.length - gq) (0) (S6 rfl rfl rfl rfl rfl rfl) (S1 rfl) (by (try dsimp only); exact ⟨Nat.zero_le _, by simp⟩) ?_
      rintro m hinv4; (try dsimp only at hinv4 ⊢)
      obtain ⟨hm, hot⟩ := hinv4
      refine Cs (Kq rfl (rd_lss rfl rfl rfl) (Nt (Cq ?_)))
      refine Cd rfl (fun hc69 => ?_) (fun hc69 => ?_)
      ·(try simp only [sB] at hc69)
       have hml : m < (s.es.getD k default).1.2.2.length := by omega
       refine Ck (Xa (Cq (Cb (Cs ?_))))
       refine Kq rfl (Ia rfl rfl rfl u121 (by kernel_rfl : _ = some 4) (by omega) (by (rw [flatMap_len _ _ 4 (fun _ => rfl)]; omega))) ?_
       refine Kq rfl (ldma _ rfl rfl u119 rfl (by kernel_rfl : _ = some 4) (fun _ => rfl) (by decide) rfl (by assumption)) ?_
       refine Kh rfl (Oz [.string (S []), .int .i64 0, .bool false, .string (S [])] rfl) ?_
       intro b10
       refine Nu rfl rfl (Sa rfl rfl rfl .tc) ?_
       refine Nt ?_
       refine WC.joinP (σ := Unit) [(1, _), (42, _), (43, _), (44, _), (66, _), (67, _), (68, _)] (fun gq => [(94, .bool (decide (¬ ((0 ≤ ((s.es.getD k default).1.2.2.getD m default).2.1 ∧ ((s.es.getD k default).1.2.2.getD m default).2.1 < (s.vs.length : Int)) ∧ okN ((s.es.getD k default).1.2.2.getD m default).1 ∧ okZ ((s.es.getD k default).1.2.2.getD m default).2.2))))]) (fun gq => True) (S7 rfl rfl rfl rfl rfl rfl rfl) ?_ ?_
       ·skip
        refine Cg (Kq rfl (Fa (q := 1) rfl rfl u119 rfl rfl) (Kq rfl (Ld rfl rfl .tc u3) ?_))
        refine Kq rfl (rd_lss rfl rfl rfl) (Km rfl ?_)
        refine Nb 75 rfl (fun hg75 => ?_) (fun hg75 => ?_)
        ·(try simp only [sB] at hg75)
         refine Kt rfl (Kt rfl (Kt rfl (Kt rfl (Kt rfl (Kt rfl (Kq rfl (Rp rfl rfl rfl) (Km rfl (Kt rfl (Kt rfl (Kt rfl (Kt rfl (Kq rfl (Rp rfl rfl rfl) (Km rfl (Kt rfl (Kt rfl (Kt rfl (Kt rfl (Kq rfl (Rp rfl rfl rfl) (Nn ?_)))))))))))))))))))
         refine WX.joinP (()) (S7 rfl rfl rfl rfl rfl rfl rfl) (by refine (Sc ?_ (S0 _)) <;> ((exact congrArg (fun b => some (Value.bool b)) (by symm; apply decide_eq_true; omega)))) ?_ (by (exact fun _ h => h))
         (try dsimp only)
         done
        ·(try simp only [sB] at hg75)
         refine Kq rfl (Fa (q := 1) rfl rfl u119 rfl rfl) (Kq rfl (Ld rfl rfl .tc u3) ?_)
         refine Kq rfl (Fa (q := 1) rfl rfl u52 rfl rfl) (Kq rfl (Ld rfl rfl .tc u49) ?_)
         refine Kq rfl (rd_len rfl rfl u49) (Kq rfl (rd_geq rfl rfl rfl) (Kq rfl (Rq rfl rfl rfl) (Km rfl ?_)))
         refine Nb 83 rfl (fun hg83 => ?_) (fun hg83 => ?_)
         ·(try simp only [sB] at hg83)
          refine Kt rfl (Kt rfl (Kt rfl (Kt rfl (Kq rfl (Rp rfl rfl rfl) (Km rfl (Kt rfl (Kt rfl (Kt rfl (Kt rfl (Kq rfl (Rp rfl rfl rfl) (Nn ?_)))))))))))
          refine WX.joinP (()) (S7 rfl rfl rfl rfl rfl rfl rfl) (by refine (Sc ?_ (S0 _)) <;> ((exact congrArg (fun b => some (Value.bool b)) (by symm; apply decide_eq_true; omega)))) ?_ (by (exact fun _ h => h))
          (try dsimp only)
          done
         ·(try simp only [sB] at hg83)
          refine Kq rfl (Fa (q := 0) rfl rfl u119 rfl rfl) (Kq rfl (Ld rfl rfl .tc u22) ?_)
          refine Ku rfl (Oc rfl rfl (Kv fun w hS => valid_c (a := ((s.es.getD k default).1.2.2.getD m default).1))) ?_
          refine Kq rfl (Rt rfl rfl) (Kq rfl (Rq rfl rfl rfl) (Km rfl ?_))
          refine Nb 89 rfl (fun hg89 => ?_) (fun hg89 => ?_)
          ·(try simp only [sB] at hg89)
           refine Kt rfl (Kt rfl (Kt rfl (Kt rfl (Kq rfl (Rp rfl rfl rfl) (Nn ?_)))))
           refine WX.joinP (()) (S7 rfl rfl rfl rfl rfl rfl rfl) (by refine (Sc ?_ (S0 _)) <;> ((refine congrArg (fun b => some (Value.bool b)) ?_; simp [*, -List.getD_eq_getElem?_getD]; done))) ?_ (by (exact fun _ h => h))
           (try dsimp only)
           done
          ·(try simp only [sB] at hg89)
           refine Kq rfl (Fa (q := 2) rfl rfl u119 rfl rfl) ?_
           refine Kq rfl (ldp rfl rfl .tc u64 rfl (by kernel_rfl : _ = some 2) (by rfl) (by rfl)) ?_
           refine Ku rfl (Oc rfl rfl (Kv fun w hS => zvalid_c (x := ((s.es.getD k default).1.2.2.getD m default).2.2))) ?_
           refine Kq rfl (Rt rfl rfl) (Kq rfl (Rq rfl rfl rfl) (Nn ?_))
           refine WX.joinP (()) (S7 rfl rfl rfl rfl rfl rfl rfl) (by refine (Sc ?_ (S0 _)) <;> ((refine congrArg (fun b => some (Value.bool b)) ?_; simp [*, -List.getD_eq_getElem?_getD]; done))) ?_ (by (exact fun _ h => h))
           (try dsimp only)
           done
       ·rintro _ hmeet; (try dsimp only at hmeet ⊢)
        refine Cd rfl (fun hc94 => ?_) (fun hc94 => ?_)
        ·(try simp only [sB] at hc94)
         refine Cs (Ka rfl (Nt (Ce (Xf (Xb (Xb (Xf (Xf (Xb (Xb (Xf (Xb ?_))))))))))))
         exact R1 rfl rfl (by rw [if_neg (fun h => absurd ((h.2.2 _ (List.mem_map_of_mem hkm)).2 _ (getD_mem _ _ hml)) hc94)]; rfl)
        ·(try simp only [sB] at hc94)
         refine Ck (Xd (Xa (Cg (Kq rfl (Rz rfl rfl rfl (by omega)) (Km rfl (Nn ?_))))))
         refine Ly (m + 1) (by (try dsimp only); omega) (S6 rfl rfl rfl rfl rfl rfl) (by refine (Sc ?_ (S0 _)) <;> (rfl)) ?_ (by (exact st_sub))
         (try dsimp only)
         exact ⟨hml, all_take hml hot (Decidable.not_not.1 hc94)⟩
      ·(try simp only [sB] at hc69)
       refine Cx (Xc (Xc (Xe ?_)))
       obtain rfl : m = (s.es.getD k default).1.2.2.length := by omega
       rw [List.take_length] at hot
       refine Xd (Xa (Cg (Kq rfl (Rz rfl rfl rfl (by omega)) (Km rfl (Nn ?_)))))
       refine Ly (k + 1) (by (try dsimp only); omega) (S3 rfl rfl rfl) (by refine (Sc ?_ (S0 _)) <;> (rfl)) ?_ (by (exact st_sub))
       (try dsimp only)
       exact ⟨hkl, all_take hkl hoq ⟨Decidable.not_not.1 hc64, hot⟩⟩
   ·(try simp only [sB] at hc45)
    refine Cx (Xc (Xc (Xe ?_)))
    obtain rfl : k = s.es.length := by omega
    rw [List.take_length] at hoq
    refine Xa (Cs (Ka rfl (Nt (Ce ?_))))
    exact R1 rfl rfl (by rw [if_pos ⟨hok, hov, forall_qa.2 hoq⟩]; rfl)
theorem szq_c {q : QA} {w : World} :
  Cw 216 #[.agg #[.int .i64 q.1.1, .string (S q.1.2.1), .slice q.2.1 q.1.2.2.length q.2.2]] w (.bool (decide (q.1.2.2.length > 64))) := by
 refine En [] [(0, .agg #[.int .i64 q.1.1, .string (S q.1.2.1), .slice q.2.1 q.1.2.2.length q.2.2])] Tryz.func216 rfl Tryz.ntmps216 rfl (Ac rfl (An _)) Fn ?_
 refine Cs ?_
 refine Kh rfl (Oy rfl rfl) ?_
 intro b1
 refine Ka rfl (Nt (Cs (Kq rfl (Fa (q := 2) rfl rfl u123 rfl rfl) (Kq rfl (Ld rfl rfl .tc u121) ?_))))
 refine Kq rfl (rd_len rfl rfl u121) (Kq rfl (rd_gtr rfl rfl rfl) (Ka rfl (Nt (Ce ?_))))
 exact R1 rfl rfl (by simp [tup]; omega)
theorem sizes_c {s : SA} {w : World} {ok : Nat → Prop} (hF1 : (Fact.sl s.ga (gps s.gs)).holds ok w) (hF2 : (Fact.sl s.va (vrs s.vs)).holds ok w) (hF3 : (Fact.sl s.ea (qas s.es)).holds ok w) (hs : saL s) :
  Cw 177 #[saV s] w (.int .i64 (if sizeS s.core then 0 else 6)) := by
 obtain ⟨hlg, hlv, hle, hlt, hlm⟩ := hs
 refine En [Fact.sl s.ga (gps s.gs), Fact.sl s.va (vrs s.vs), Fact.sl s.ea (qas s.es)] [(0, saV s)] Tryz.func177 rfl Tryz.ntmps177 rfl (Ac rfl (An _)) (Fc (fact_any hF1) (Fc (fact_any hF2) (Fc (fact_any hF3) Fn))) ?_
 refine Cs ?_
 refine Kh rfl (Oy rfl rfl) ?_
 intro b1
 refine Ka rfl (Nt (Cq ?_))
 refine WC.joinP (σ := Unit) [(1, _)] (fun gq => [(18, .bool (decide (¬ (s.gs.length ≤ 8 ∧ s.vs.length ≤ 64 ∧ s.es.length ≤ 64))))]) (fun gq => True) (S1 rfl) ?_ ?_
 ·skip
  refine Cg (Kq rfl (Fa (q := 0) rfl rfl u52 rfl rfl) (Kq rfl (Ld rfl rfl .tc u48) ?_))
  refine Kq rfl (rd_len rfl rfl u48) (Kq rfl (rd_gtr rfl rfl rfl) (Km rfl ?_))
  refine Nb 7 rfl (fun hg7 => ?_) (fun hg7 => ?_)
  ·(try simp only [sB] at hg7)
   refine Kt rfl (Kt rfl (Kt rfl (Kt rfl (Kq rfl (Rp rfl rfl rfl) (Km rfl (Kt rfl (Kt rfl (Kt rfl (Kt rfl (Kq rfl (Rp rfl rfl rfl) (Nn ?_)))))))))))
   refine WX.joinP (()) (S1 rfl) (by refine (Sc ?_ (S0 _)) <;> ((exact congrArg (fun b => some (Value.bool b)) (by symm; apply decide_eq_true; omega)))) ?_ (by (exact fun _ h => h))
   (try dsimp only)
   done
  ·(try simp only [sB] at hg7)
   refine Kq rfl (Fa (q := 1) rfl rfl u52 rfl rfl) (Kq rfl (Ld rfl rfl .tc u49) ?_)
   refine Kq rfl (rd_len rfl rfl u49) (Kq rfl (rd_gtr rfl rfl rfl) (Kq rfl (Rq rfl rfl rfl) (Km rfl ?_)))
   refine Nb 13 rfl (fun hg13 => ?_) (fun hg13 => ?_)
   ·(try simp only [sB] at hg13)
    refine Kt rfl (Kt rfl (Kt rfl (Kt rfl (Kq rfl (Rp rfl rfl rfl) (Nn ?_)))))
    refine WX.joinP (()) (S1 rfl) (by refine (Sc ?_ (S0 _)) <;> ((exact congrArg (fun b => some (Value.bool b)) (by symm; apply decide_eq_true; omega)))) ?_ (by (exact fun _ h => h))
    (try dsimp only)
    done
   ·(try simp only [sB] at hg13)
    refine Kq rfl (Fa (q := 2) rfl rfl u52 rfl rfl) (Kq rfl (Ld rfl rfl .tc u50) ?_)
    refine Kq rfl (rd_len rfl rfl u50) (Kq rfl (rd_gtr rfl rfl rfl) (Kq rfl (Rq rfl rfl rfl) (Nn ?_)))
    refine WX.joinP (()) (S1 rfl) (by refine (Sc ?_ (S0 _)) <;> ((refine slot_b rfl ?_; (try dsimp only); (exact decide_eq_decide.2 (by omega))))) ?_ (by (exact fun _ h => h))
    (try dsimp only)
    done
 ·rintro _ hmeet; (try dsimp only at hmeet ⊢)
  refine Cd rfl (fun hc18 => ?_) (fun hc18 => ?_)
  ·(try simp only [sB] at hc18)
   have hr : ¬ sizeS s.core := fun h => hc18 (by simpa using h.1)
   refine Cs (Ka rfl (Nt (Ce (Xb ?_))))
   exact R1 rfl rfl (by rw [if_neg hr]; rfl)
  ·(try simp only [sB] at hc18)
   refine Ck (Xa (Cq (Cs (Kq rfl (Fa (q := 2) rfl rfl u52 rfl rfl) (Kq rfl (Ld rfl rfl .tc u50) ?_)))))
   refine Ku rfl (Oc rfl rfl (Kv fun w hS => cfQ_c (l := s.es) (fk := 216) (cs := #[]) (p := fun q => decide (q.1.2.2.length > 64)) (by (exact hS.sl)) (by exact hle) (by kernel_rfl) (by exact fun x hx w' hb => by rw [fnc0]; exact szq_c))) ?_
   refine Nt ?_
   refine Cd rfl (fun hc21 => ?_) (fun hc21 => ?_)
   ·(try simp only [sB] at hc21)
    have hr : ¬ sizeS s.core := fun h => by
     obtain ⟨q, hq, hq2⟩ := List.any_eq_true.1 hc21
     have := h.2 _ (List.mem_map_of_mem hq); simp at hq2; omega
    refine Cs (Ka rfl (Nt (Ce (Xb ?_))))
    exact R1 rfl rfl (by rw [if_neg hr]; rfl)
   ·(try simp only [sB] at hc21)
    have hr : sizeS s.core := ⟨by simpa using hc18, forall_qa.2 fun q hq => by
     have := List.any_eq_false.1 hc21 q hq; simpa using this⟩
    refine Ck (Xa (Cs (Ka rfl (Nt (Ce ?_)))))
    exact R1 rfl rfl (by rw [if_pos hr]; rfl)
theorem any_dec {α : Type} (l : List α) (p : α → Prop) [DecidablePred p] : (l.any fun x => decide (¬ p x)) = decide (¬ ∀ x ∈ l, p x) := by rw [Bool.eq_iff_iff]; simp
theorem any_dec' {α : Type} (l : List α) (p : α → Prop) [DecidablePred p] : (l.any fun x => decide (p x)) = decide (¬ ∀ x ∈ l, ¬ p x) := by rw [Bool.eq_iff_iff]; simp
instance hasM_appL {a b : List Fact} : HasM (a ++ b) a := ⟨fun _ h => List.mem_append_left _ h⟩
instance hasM_appR {a b c : List Fact} [h : HasM b c] : HasM (a ++ b) c := ⟨fun _ hh => List.mem_append_right _ (h.h _ hh)⟩
theorem elt_c {t : Tm} {g : Gp} {p : Nat} {w : World} {ok : Nat → Prop} (hF1 : (Fact.sl (some ⟨p, 0, none⟩) (gpC g)).holds ok w) (hg : chkG g = 0) (hm8 : g.1.length ≤ 8) :
  Cw 218 #[.agg #[.string (S t.1), .int .i64 t.2.1, .bool t.2.2.1, .string (S t.2.2.2)], .pointer (some ⟨p, 0, none⟩)] w (.bool (decide (¬ elG g t.1))) := by
 refine En [Fact.sl (some ⟨p, 0, none⟩) (gpC g)] [(0, .agg #[.string (S t.1), .int .i64 t.2.1, .bool t.2.2.1, .string (S t.2.2.2)]), (1, .pointer (some ⟨p, 0, none⟩))] Tryz.func218 rfl Tryz.ntmps218 rfl (Ac rfl (Ac rfl (An _))) (Fc (fact_any hF1) Fn) ?_
 refine Cs ?_
 refine Kh rfl (Oy rfl rfl) ?_
 intro b2
 refine Ka rfl (Nt (Cs ?_))
 refine Kq rfl (ldfa (m := 0) rfl rfl .tc u24 rfl (by kernel_rfl : _ = some 2) rfl rfl rfl (by decide)) ?_
 refine Kq rfl (Fa (q := 0) rfl rfl u119 rfl rfl) (Kq rfl (Ld rfl rfl .tc u22) ?_)
 refine Ku rfl (Oc rfl rfl (Kv fun w hS => pwhas_c (g := g) (x := t.1) (by assumption))) ?_
 refine Ns 7 rfl (v' := .bool (decide (elG g t.1))) (congrArg Value.bool (by simp [hg])) ?_
 refine Kq rfl (Rt rfl rfl) (Ka rfl (Nt (Ce ?_)))
 exact R1 rfl rfl (by (simp [tup]; done))
theorem elems_c {s : SA} {w : World} {ok : Nat → Prop} (hF1 : (Fact.sl s.ga (gps s.gs)).holds ok w) (hF2 : (Fact.sl s.ea (qas s.es)).holds ok w) (hM : ∀ f ∈ (s.es.map qaF), f.holds ok w) (hs : saL s) (hfo : formS s.core) :
  Cw 178 #[saV s] w (.int .i64 (if elS s.core then 0 else 13)) := by
 obtain ⟨hlg, hlv, hle, hlt, hlm⟩ := hs
 refine En (Fact.sl s.ga (gps s.gs) :: Fact.sl s.ea (qas s.es) :: (s.es.map qaF)) [(0, saV s)] Tryz.func178 rfl Tryz.ntmps178 rfl (Ac rfl (An _)) (Fc (fact_any hF1) (Fc (fact_any hF2) (facts_more hM))) ?_
 refine Cs ?_
 refine Kh rfl (Oy rfl rfl) ?_
 intro b1
 refine Ka rfl (Nt (Cq (Cs (Kq rfl (Fa (q := 0) rfl rfl u52 rfl rfl) (Kq rfl (Ld rfl rfl .tc u48) ?_)))))
 refine Kq rfl (rd_len rfl rfl u48) (Km rfl (Nt (Cb ?_)))
 refine Lp (σ := Nat) [(1, _), (9, _), (10, _)] (fun gq => [(11, .int .i64 (gq : Int))]) (fun gq => gq ≤ s.gs.length ∧ ∀ g ∈ s.gs.take gq, chkG g = 0) (fun gq => s.gs.length - gq) (0) (S3 rfl rfl rfl) (S1 rfl) (by (try dsimp only); exact ⟨Nat.zero_le _, by simp⟩) ?_
 rintro i hinv1; (try dsimp only at hinv1 ⊢)
 obtain ⟨hi, hok⟩ := hinv1
 refine Cs (Kq rfl (rd_lss rfl rfl rfl) (Nt (Cq ?_)))
 refine Cd rfl (fun hc12 => ?_) (fun hc12 => ?_)
 ·(try simp only [sB] at hc12)
  have hil : i < s.gs.length := by omega
  refine Ck (Xa (Cq (Cb (Cs ?_))))
  refine Kq rfl (Ia rfl rfl rfl u48 (by kernel_rfl : _ = some 2) (by omega) (by (rw [flatMap_len _ _ 2 (fun _ => rfl)]; omega))) ?_
  refine Kq rfl (ldma _ rfl rfl u24 rfl (by kernel_rfl : _ = some 2) (fun _ => rfl) (by decide) rfl (by assumption)) ?_
  refine Kh rfl (Oz [.string (S []), .string (S [])] rfl) ?_
  intro b4
  refine Nu rfl rfl (Sa rfl rfl rfl .tc) ?_
  refine Nt (Cs ?_)
  refine Kq rfl (lda rfl rfl .tc u24 rfl ?_) ?_
  ·kernel_rfl
  refine Ku rfl (Oc rfl rfl (Kv fun w hS => pcheck_c (g := s.gs.getD i default))) ?_
  refine Kq rfl (rd_neq rfl rfl rfl) (Nt ?_)
  refine Cd rfl (fun hc17 => ?_) (fun hc17 => ?_)
  ·(try simp only [sB] at hc17)
   refine Cs (Ka rfl (Nt (Ce (Xf (Xb (Xb (Xf (Xb ?_))))))))
   exact R1 rfl rfl (by rw [if_neg (fun h => absurd (h.1 _ (getD_mem _ _ hil)) (by simpa using hc17))]; rfl)
  ·(try simp only [sB] at hc17)
   refine Ck (Xd (Xa (Cg (Kq rfl (Rz rfl rfl rfl (by omega)) (Km rfl (Nn ?_))))))
   refine Ly (i + 1) (by (try dsimp only); omega) (S3 rfl rfl rfl) (by refine (Sc ?_ (S0 _)) <;> (rfl)) ?_ (by (exact st_sub))
   (try dsimp only)
   exact ⟨hil, all_take hil hok (by simpa using hc17)⟩
 ·(try simp only [sB] at hc12)
  refine Cx (Xc (Xc (Xe ?_)))
  obtain rfl : i = s.gs.length := by omega
  rw [List.take_length] at hok
  refine Xa (Cq (Cs (Kq rfl (Fa (q := 2) rfl rfl u52 rfl rfl) (Kq rfl (Ld rfl rfl .tc u50) ?_))))
  refine Kq rfl (rd_len rfl rfl u50) (Km rfl (Nt (Cb ?_)))
  refine Lp (σ := Nat) [(1, _), (20, _), (21, _)] (fun gq => [(22, .int .i64 (gq : Int))]) (fun gq => gq ≤ s.es.length ∧ ∀ q ∈ s.es.take gq, elQ s.gs q.1) (fun gq => s.es.length - gq) (0) (S3 rfl rfl rfl) (S1 rfl) (by (try dsimp only); exact ⟨Nat.zero_le _, by simp⟩) ?_
  rintro k hinv2; (try dsimp only at hinv2 ⊢)
  obtain ⟨hk, hoq⟩ := hinv2
  refine Cs (Kq rfl (rd_lss rfl rfl rfl) (Nt (Cq ?_)))
  refine Cd rfl (fun hc23 => ?_) (fun hc23 => ?_)
  ·(try simp only [sB] at hc23)
   have hkl : k < s.es.length := by omega
   have hkm := getD_mem s.es k hkl
   have hlt1 := hlt _ hkm
   have hfq := (hfo.2.2 _ (List.mem_map_of_mem hkm)).1.1
   have hgl : (s.es.getD k default).1.1.toNat < s.gs.length := by have := hfq.1; have := hfq.2; simp only [SA.core] at this; omega
   have hg0 := hok _ (getD_mem _ _ hgl)
   have hg8 := hlm _ (getD_mem _ _ hgl)
   refine Ck (Xa (Cq (Cb (Cs ?_))))
   refine Kq rfl (Ia rfl rfl rfl u50 (by kernel_rfl : _ = some 3) (by omega) (by (rw [flatMap_len _ _ 3 (fun _ => rfl)]; omega))) ?_
   refine Kq rfl (ldma _ rfl rfl u123 rfl (by kernel_rfl : _ = some 3) (fun _ => rfl) (by decide) rfl (by assumption)) ?_
   refine Kh rfl (Oz [.int .i64 0, .string (S []), .slice none 0 0] rfl) ?_
   intro b6
   refine Nu rfl rfl (Sa rfl rfl rfl .tc) ?_
   refine Nt (Cs (Kq rfl (Fa (q := 0) rfl rfl u52 rfl rfl) (Kq rfl (Ld rfl rfl .tc u48) ?_)))
   refine Kq rfl (Fa (q := 0) rfl rfl u123 rfl rfl) (Kq rfl (Ld rfl rfl .tc u3) ?_)
   refine Kq rfl (Ia rfl rfl rfl u48 (by kernel_rfl : _ = some 2) (by assumption) (by (rw [flatMap_len _ _ 2 (fun _ => rfl)]; omega))) ?_
   refine Kq rfl (ldma _ rfl rfl u24 rfl (by kernel_rfl : _ = some 2) (fun _ => rfl) (by decide) rfl (by assumption)) ?_
   refine Kh rfl (Oz [.string (S []), .string (S [])] rfl) ?_
   intro b7
   refine Nu rfl rfl (Sa rfl rfl rfl .tc) ?_
   refine Nt ?_
   refine WC.joinP (σ := Unit) [(1, _), (20, _), (21, _), (22, _)] (fun gq => [(42, .bool (decide (¬ (elG (s.gs.getD (s.es.getD k default).1.1.toNat default) (s.es.getD k default).1.2.1 ∧ ∀ t ∈ (s.es.getD k default).1.2.2, elG (s.gs.getD (s.es.getD k default).1.1.toNat default) t.1))))]) (fun gq => True) (S4 rfl rfl rfl rfl) ?_ ?_
   ·skip
    refine Cg ?_
    refine Kq rfl (lda rfl rfl .tc u24 rfl ?_) ?_
    ·kernel_rfl
    refine Kq rfl (Fa (q := 1) rfl rfl u123 rfl rfl) (Kq rfl (Ld rfl rfl .tc u22) ?_)
    refine Ku rfl (Oc rfl rfl (Kv fun w hS => pwhas_c (g := s.gs.getD (s.es.getD k default).1.1.toNat default) (x := (s.es.getD k default).1.2.1) (by exact hg8))) ?_
    refine Ns 35 rfl (v' := .bool (decide (elG (s.gs.getD (s.es.getD k default).1.1.toNat default) (s.es.getD k default).1.2.1))) (congrArg Value.bool (by exact decide_eq_decide.2 ⟨fun h => h.2, fun h => ⟨hg0, h⟩⟩)) ?_
    refine Kq rfl (Rt rfl rfl) (Km rfl ?_)
    refine Nb 37 rfl (fun hg37 => ?_) (fun hg37 => ?_)
    ·(try simp only [sB] at hg37)
     refine Kt rfl (Kt rfl (Kt rfl (Kt rfl (Kq rfl (Rp rfl rfl rfl) (Nn ?_)))))
     refine WX.joinP (()) (S4 rfl rfl rfl rfl) (by refine (Sc ?_ (S0 _)) <;> ((refine congrArg (fun b => some (Value.bool b)) ?_; simp [*, -List.getD_eq_getElem?_getD]; done))) ?_ (by (exact fun _ h => h))
     (try dsimp only)
     done
    ·(try simp only [sB] at hg37)
     refine Kq rfl (Fa (q := 2) rfl rfl u123 rfl rfl) (Kq rfl (Ld rfl rfl .tc u121) ?_)
     refine Kq rfl (rd_mkf rfl rfl rfl) ?_
     refine Ku rfl (Oc rfl rfl (Kv fun w hS => cfT_c (l := (s.es.getD k default).1.2.2) (fk := 218) (p := fun t => decide (¬ elG (s.gs.getD (s.es.getD k default).1.1.toNat default) t.1)) (hS.more (more := s.es.map qaF) _ (List.mem_map_of_mem hkm)) (by exact hlt1) (by kernel_rfl) (by exact fun x hx w' hb => by rw [fnc1]; exact elt_c (fact_keep hS.os hb) hg0 hg8))) ?_
     refine Ns 41 rfl (v' := .bool (decide (¬ ∀ t ∈ (s.es.getD k default).1.2.2, elG (s.gs.getD (s.es.getD k default).1.1.toNat default) t.1))) (congrArg Value.bool (by exact any_dec _ _)) ?_
     refine Kq rfl (Rq rfl rfl rfl) (Nn ?_)
     refine WX.joinP (()) (S4 rfl rfl rfl rfl) (by refine (Sc ?_ (S0 _)) <;> ((refine congrArg (fun b => some (Value.bool b)) ?_; simp [*, -List.getD_eq_getElem?_getD]; done))) ?_ (by (exact fun _ h => h))
     (try dsimp only)
     done
   ·rintro _ hmeet; (try dsimp only at hmeet ⊢)
    refine Cd rfl (fun hc42 => ?_) (fun hc42 => ?_)
    ·(try simp only [sB] at hc42)
     refine Cs (Ka rfl (Nt (Ce (Xf (Xb (Xb (Xf (Xb ?_))))))))
     exact R1 rfl rfl (by rw [if_neg (fun h => absurd (h.2 _ (List.mem_map_of_mem hkm)) hc42)]; rfl)
    ·(try simp only [sB] at hc42)
     refine Ck (Xd (Xa (Cg (Kq rfl (Rz rfl rfl rfl (by omega)) (Km rfl (Nn ?_))))))
     refine Ly (k + 1) (by (try dsimp only); omega) (S3 rfl rfl rfl) (by refine (Sc ?_ (S0 _)) <;> (rfl)) ?_ (by (exact st_sub))
     (try dsimp only)
     exact ⟨hkl, all_take hkl hoq (Decidable.not_not.1 hc42)⟩
  ·(try simp only [sB] at hc23)
   refine Cx (Xc (Xc (Xe ?_)))
   obtain rfl : k = s.es.length := by omega
   rw [List.take_length] at hoq
   refine Xa (Cs (Ka rfl (Nt (Ce ?_))))
   exact R1 rfl rfl (by rw [if_pos ⟨hok, forall_qa.2 hoq⟩]; rfl)
theorem kdv_c {v : Bs} {w : World} :
  Cw 220 #[.agg #[.string (S v)]] w (.bool (decide (v = []))) := by
 refine En [] [(0, .agg #[.string (S v)])] Tryz.func220 rfl Tryz.ntmps220 rfl (Ac rfl (An _)) Fn ?_
 refine Cs ?_
 refine Kh rfl (Oy rfl rfl) ?_
 intro b1
 refine Ka rfl (Nt (Cs (Kq rfl (Fa (q := 0) rfl rfl u117 rfl rfl) (Kq rfl (Ld rfl rfl .tc u22) ?_))))
 refine Kq rfl (rd_seq rfl rfl rfl) (Ka rfl (Nt (Ce ?_)))
 exact R1 rfl rfl (by rfl)
theorem kdg_c {g : Gp} {n : Bs} {p : Nat} {w : World} {ok : Nat → Prop} (hF1 : (Fact.sl (some ⟨p, 0, none⟩) [.string (S n)]).holds ok w) :
  Cw 222 #[.agg #[.string (S g.1), .string (S g.2)], .pointer (some ⟨p, 0, none⟩)] w (.bool (decide (g.2 ≠ [] ∧ g.2 ≠ n))) := by
 refine En [Fact.sl (some ⟨p, 0, none⟩) [.string (S n)]] [(0, .agg #[.string (S g.1), .string (S g.2)]), (1, .pointer (some ⟨p, 0, none⟩))] Tryz.func222 rfl Tryz.ntmps222 rfl (Ac rfl (Ac rfl (An _))) (Fc (fact_any hF1) Fn) ?_
 refine Cs ?_
 refine Kh rfl (Oy rfl rfl) ?_
 intro b2
 refine Ka rfl (Nt (Cs (Kq rfl (Fa (q := 1) rfl rfl u24 rfl rfl) (Kq rfl (Ld rfl rfl .tc u22) ?_))))
 refine Kq rfl (rd_sne rfl rfl rfl) (Km rfl ?_)
 refine Nb 7 rfl (fun hg7 => ?_) (fun hg7 => ?_)
 ·(try simp only [sB] at hg7)
  refine Kq rfl (Fa (q := 1) rfl rfl u24 rfl rfl) (Kq rfl (Ld rfl rfl .tc u22) ?_)
  refine Kq rfl (ldf (m := 0) rfl rfl .tc u22 rfl rfl rfl) ?_
  refine Kq rfl (rd_sne rfl rfl rfl) (Kq rfl (Rp rfl rfl rfl) (Ka rfl (Nt (Ce ?_))))
  exact R1 rfl rfl (by (simp [*, tup]; done))
 ·(try simp only [sB] at hg7)
  refine Kt rfl (Kt rfl (Kt rfl (Kt rfl (Kq rfl (Rq rfl rfl rfl) (Ka rfl (Nt (Ce ?_)))))))
  exact R1 rfl rfl (by (simp [*, tup]; done))
theorem kdt_c {t : Tm} {s : SA} {p : Nat} {w : World} {ok : Nat → Prop} (hF1 : (Fact.sl (some ⟨p, 0, none⟩) [.slice s.ga s.gs.length s.gc, .slice s.va s.vs.length s.vc, .slice s.ea s.es.length s.ec]).holds ok w) (hF2 : (Fact.sl s.va (vrs s.vs)).holds ok w) (ht0 : 0 ≤ t.2.1) (ht1 : t.2.1 < s.vs.length) (hlv : s.vs.length ≤ 100000) :
  Cw 223 #[.agg #[.string (S t.1), .int .i64 t.2.1, .bool t.2.2.1, .string (S t.2.2.2)], .pointer (some ⟨p, 0, none⟩)] w (.bool (decide (s.vs.getD t.2.1.toNat default = []))) := by
 refine En [Fact.sl (some ⟨p, 0, none⟩) [.slice s.ga s.gs.length s.gc, .slice s.va s.vs.length s.vc, .slice s.ea s.es.length s.ec], Fact.sl s.va (vrs s.vs)] [(0, .agg #[.string (S t.1), .int .i64 t.2.1, .bool t.2.2.1, .string (S t.2.2.2)]), (1, .pointer (some ⟨p, 0, none⟩))] Tryz.func223 rfl Tryz.ntmps223 rfl (Ac rfl (Ac rfl (An _))) (Fc (fact_any hF1) (Fc (fact_any hF2) Fn)) ?_
 refine Cs ?_
 refine Kh rfl (Oy rfl rfl) ?_
 intro b2
 refine Ka rfl (Nt (Cs ?_))
 (refine Kq rfl (rd_fa rfl rfl u52 rfl (by kernel_rfl) (by (try simp only [sN, Int.reduceToNat, Nat.reduceAdd, Nat.reduceMul, Nat.reduceSub]); rfl)) ?_)
 refine Kq rfl (ldf (m := 1) rfl rfl .tc u49 rfl rfl rfl) ?_
 refine Kq rfl (Fa (q := 1) rfl rfl u119 rfl rfl) (Kq rfl (Ld rfl rfl .tc u3) ?_)
 refine Kq rfl (Ib rfl rfl rfl u49 (by omega) (by (rw [flatMap_len _ _ 1 (fun _ => rfl)]; omega))) ?_
 (refine Kq rfl (faf rfl rfl u117 rfl (by kernel_rfl) (by (try simp only [sN, Int.reduceToNat, Nat.reduceAdd, Nat.reduceMul, Nat.reduceSub]); rfl)) ?_)
 refine Kq rfl (ldmf (l := s.vs) (f := vrC) (sz := 1) t.2.1.toNat 0 rfl rfl u22 rfl (fun _ => rfl) (Nat.mul_one _).symm (by omega) (by decide) rfl) ?_
 refine Kq rfl (rd_seq rfl rfl rfl) (Ka rfl (Nt (Ce ?_)))
 exact R1 rfl rfl (by rfl)
theorem kinds_c {s : SA} {w : World} {ok : Nat → Prop} (hF1 : (Fact.sl s.ga (gps s.gs)).holds ok w) (hF2 : (Fact.sl s.va (vrs s.vs)).holds ok w) (hF3 : (Fact.sl s.ea (qas s.es)).holds ok w) (hM : ∀ f ∈ (s.es.map qaF), f.holds ok w) (hs : saL s) (hfo : formS s.core) :
  Cw 179 #[saV s] w (.int .i64 (if kdS s.core then 0 else 10)) := by
 have hs' := hs
 obtain ⟨hlg, hlv, hle, hlt, hlm⟩ := hs
 refine En (Fact.sl s.ga (gps s.gs) :: Fact.sl s.va (vrs s.vs) :: Fact.sl s.ea (qas s.es) :: (s.es.map qaF)) [(0, saV s)] Tryz.func179 rfl Tryz.ntmps179 rfl (Ac rfl (An _)) (Fc (fact_any hF1) (Fc (fact_any hF2) (Fc (fact_any hF3) (facts_more hM)))) ?_
 refine Cs ?_
 refine Kh rfl (Oy rfl rfl) ?_
 intro b1
 refine Ka rfl (Nt (Cq (Cs (Kq rfl (Fa (q := 1) rfl rfl u52 rfl rfl) (Kq rfl (Ld rfl rfl .tc u49) ?_)))))
 refine Ku rfl (Oc rfl rfl (Kv fun w hS => cfV_c (l := s.vs) (fk := 220) (cs := #[]) (p := fun v => decide (v = [])) (by (exact hS.sl)) (by exact hlv) (by kernel_rfl) (by exact fun x hx w' hb => by rw [fnc0]; exact kdv_c))) ?_
 refine Ns 8 rfl (v' := .bool (decide (¬ ∀ v ∈ s.vs, v ≠ []))) (congrArg Value.bool (by exact any_dec' _ _)) ?_
 refine Kq rfl (Rt rfl rfl) (Nt ?_)
 refine Cd rfl (fun hc9 => ?_) (fun hc9 => ?_)
 ·(try simp only [sB] at hc9)
  have hr : kdS s.core := Or.inl (by (exact Decidable.not_not.1 hc9))
  refine Cs (Ka rfl (Nt (Ce (Xb ?_))))
  exact R1 rfl rfl (by rw [if_pos hr]; rfl)
 ·(try simp only [sB] at hc9)
  have hnv : ¬ ∀ v ∈ s.vs, v ≠ [] := hc9
  refine Ck (Xa (Cs ?_))
  refine Kq rfl (lda rfl rfl .tc u52 rfl ?_) ?_
  ·kernel_rfl
  refine Ku rfl (Oc rfl rfl (Kv fun w hS => lorder_c (s := s) (by (exact hS.sl)) (by exact hs'))) ?_
  refine Kh rfl (Oa rfl (v := (.string (S []))) (cs := [.string (S [])]) (by kernel_rfl) rfl) ?_
  intro b3
  refine Ng rfl rfl (st rfl rfl rfl .tc (by kernel_rfl) rfl ?_ (by (simp only [List.set_cons_zero, List.set_cons_succ]; rfl))) ?_
  ·decide
  intro _
  refine Nt (Cq ?_)
  refine WC.joinP (σ := Unit) [(1, _)] (fun gq => [(19, .bool (decide (¬ (ordS s.gs ≠ [] ∧ ∀ g ∈ s.gs, ¬ (g.2 ≠ [] ∧ g.2 ≠ ordS s.gs)))))]) (fun gq => True) (S1 rfl) ?_ ?_
  ·skip
   refine Cg (Kq rfl (Ld rfl rfl .tc u22) ?_)
   refine Kq rfl (rd_seq rfl rfl rfl) (Km rfl ?_)
   refine Nb 14 rfl (fun hg14 => ?_) (fun hg14 => ?_)
   ·(try simp only [sB] at hg14)
    refine Kt rfl (Kt rfl (Kt rfl (Kt rfl (Kq rfl (Rp rfl rfl rfl) (Nn ?_)))))
    refine WX.joinP (()) (S1 rfl) (by refine (Sc ?_ (S0 _)) <;> ((refine slot_b rfl ?_; (try dsimp only); (simp [*]; done)))) ?_ (by (exact fun _ h => h))
    (try dsimp only)
    done
   ·(try simp only [sB] at hg14)
    refine Kq rfl (Fa (q := 0) rfl rfl u52 rfl rfl) (Kq rfl (Ld rfl rfl .tc u48) ?_)
    refine Kq rfl (rd_mkf rfl rfl rfl) ?_
    refine Ku rfl (Oc rfl rfl (Kv fun w hS => cfG_c (l := s.gs) (fk := 222) (p := fun g => decide (g.2 ≠ [] ∧ g.2 ≠ ordS s.gs)) (by (exact hS.sl)) (by exact hlg) (by kernel_rfl) (by exact fun x hx w' hb => by rw [fnc1]; exact kdg_c (fact_keep hS.os hb)))) ?_
    refine Ns 18 rfl (v' := .bool (decide (¬ ∀ g ∈ s.gs, ¬ (g.2 ≠ [] ∧ g.2 ≠ ordS s.gs)))) (congrArg Value.bool (by exact any_dec' _ _)) ?_
    refine Kq rfl (Rq rfl rfl rfl) (Nn ?_)
    refine WX.joinP (()) (S1 rfl) (by refine (Sc ?_ (S0 _)) <;> ((refine slot_b rfl ?_; (try dsimp only); (simp [*]; done)))) ?_ (by (exact fun _ h => h))
    (try dsimp only)
    done
  ·rintro _ hmeet; (try dsimp only at hmeet ⊢)
   refine Cd rfl (fun hc19 => ?_) (fun hc19 => ?_)
   ·(try simp only [sB] at hc19)
    refine Cs (Ka rfl (Nt (Ce (Xb ?_))))
    exact R1 rfl rfl (by rw [if_neg (fun h => h.elim hnv fun h => hc19 h.1)]; rfl)
   ·(try simp only [sB] at hc19)
    refine Ck (Xa (Cq (Cs (Kq rfl (Fa (q := 2) rfl rfl u52 rfl rfl) (Kq rfl (Ld rfl rfl .tc u50) ?_)))))
    refine Kq rfl (rd_len rfl rfl u50) (Km rfl (Nt (Cb ?_)))
    refine Lp (σ := Nat) [(1, _), (21, _), (22, _)] (fun gq => [(23, .int .i64 (gq : Int))]) (fun gq => gq ≤ s.es.length ∧ ∀ q ∈ s.es.take gq, kdQ s.gs s.vs q.1) (fun gq => s.es.length - gq) (0) (S3 rfl rfl rfl) (S1 rfl) (by (try dsimp only); exact ⟨Nat.zero_le _, by simp⟩) ?_
    rintro k hinv1; (try dsimp only at hinv1 ⊢)
    obtain ⟨hk, hoq⟩ := hinv1
    refine Cs (Kq rfl (rd_lss rfl rfl rfl) (Nt (Cq ?_)))
    refine Cd rfl (fun hc24 => ?_) (fun hc24 => ?_)
    ·(try simp only [sB] at hc24)
     have hkl : k < s.es.length := by omega
     have hkm := getD_mem s.es k hkl
     have hlt1 := hlt _ hkm
     have hfq := hfo.2.2 _ (List.mem_map_of_mem hkm)
     have hgl : (s.es.getD k default).1.1.toNat < s.gs.length := by have := hfq.1.1.1; have := hfq.1.1.2; simp only [SA.core] at this; omega
     have hq0 := hfq.1.1.1
     refine Ck (Xa (Cq (Cb (Cs ?_))))
     refine Kq rfl (Ia rfl rfl rfl u50 (by kernel_rfl : _ = some 3) (by omega) (by (rw [flatMap_len _ _ 3 (fun _ => rfl)]; omega))) ?_
     refine Kq rfl (ldma _ rfl rfl u123 rfl (by kernel_rfl : _ = some 3) (fun _ => rfl) (by decide) rfl (by assumption)) ?_
     refine Kh rfl (Oz [.int .i64 0, .string (S []), .slice none 0 0] rfl) ?_
     intro b5
     refine Nu rfl rfl (Sa rfl rfl rfl .tc) ?_
     refine Nt (Cq (Cs (Kq rfl (Fa (q := 0) rfl rfl u52 rfl rfl) (Kq rfl (Ld rfl rfl .tc u48) ?_))))
     refine Kq rfl (Fa (q := 0) rfl rfl u123 rfl rfl) (Kq rfl (Ld rfl rfl .tc u3) ?_)
     refine Kq rfl (Ia rfl rfl rfl u48 (by kernel_rfl : _ = some 2) (by omega) (by (rw [flatMap_len _ _ 2 (fun _ => rfl)]; omega))) ?_
     (refine Kq rfl (faf rfl rfl u24 rfl (by kernel_rfl) (by (try simp only [sN, Int.reduceToNat, Nat.reduceAdd, Nat.reduceMul, Nat.reduceSub]); rfl)) ?_)
     refine Kq rfl (ldmf (sz := 2) _ 1 rfl rfl u22 rfl (fun _ => rfl) rfl (by assumption) (by decide) rfl) ?_
     refine Kq rfl (rd_sne rfl rfl rfl) (Nt ?_)
     refine Cd rfl (fun hc34 => ?_) (fun hc34 => ?_)
     ·(try simp only [sB] at hc34)
      refine Cx (Xc (Xe (Xa (Cg (Kq rfl (Rz rfl rfl rfl (by omega)) (Km rfl (Nn ?_)))))))
      refine Ly (k + 1) (by (try dsimp only); omega) (S3 rfl rfl rfl) (by refine (Sc ?_ (S0 _)) <;> (rfl)) ?_ (by (exact st_sub))
      (try dsimp only)
      exact ⟨hkl, all_take hkl hoq (by (exact Or.inl (by simpa using hc34)))⟩
     ·(try simp only [sB] at hc34)
      refine Ck (Xa (Cs (Kq rfl (Fa (q := 2) rfl rfl u123 rfl rfl) (Kq rfl (Ld rfl rfl .tc u121) ?_))))
      refine Kq rfl (rd_mkf rfl rfl rfl) ?_
      refine Ku rfl (Oc rfl rfl (Kv fun w hS => cfT_c (l := (s.es.getD k default).1.2.2) (fk := 223) (p := fun t => decide (s.vs.getD t.2.1.toNat default = [])) (hS.more (more := s.es.map qaF) _ (List.mem_map_of_mem hkm)) (by exact hlt1) (by kernel_rfl) (by exact fun x hx w' hb => by rw [fnc1]; exact kdt_c (fact_keep hS.os hb) (fact_keep hS.sl hb) (hfq.2 x hx).1.1 (hfq.2 x hx).1.2 hlv))) ?_
      refine Ns 38 rfl (v' := .bool (decide (¬ ∀ t ∈ (s.es.getD k default).1.2.2, s.vs.getD t.2.1.toNat default ≠ []))) (congrArg Value.bool (by exact any_dec' _ _)) ?_
      refine Nt ?_
      refine Cd rfl (fun hc38 => ?_) (fun hc38 => ?_)
      ·(try simp only [sB] at hc38)
       refine Cs (Ka rfl (Nt (Ce (Xf (Xb (Xb (Xf (Xb ?_))))))))
       exact R1 rfl rfl (by rw [if_neg (fun h => h.elim hnv fun h => (h.2 _ (List.mem_map_of_mem hkm)).elim (fun h => h (by simpa using hc34)) fun h => hc38 h)]; rfl)
      ·(try simp only [sB] at hc38)
       refine Ck (Xd (Xa (Cg (Kq rfl (Rz rfl rfl rfl (by omega)) (Km rfl (Nn ?_))))))
       refine Ly (k + 1) (by (try dsimp only); omega) (S3 rfl rfl rfl) (by refine (Sc ?_ (S0 _)) <;> (rfl)) ?_ (by (exact st_sub))
       (try dsimp only)
       exact ⟨hkl, all_take hkl hoq (by (exact Or.inr (by simpa using hc38)))⟩
    ·(try simp only [sB] at hc24)
     refine Cx (Xc (Xc (Xe ?_)))
     obtain rfl : k = s.es.length := by omega
     rw [List.take_length] at hoq
     refine Xa (Cs (Ka rfl (Nt (Ce ?_))))
     exact R1 rfl rfl (by rw [if_pos (show kdS s.core from Or.inr ⟨Decidable.not_not.1 hc19, forall_qa.2 hoq⟩)]; rfl)
def chkF (i : Nat) : Nat := [120, 177, 178, 179].getD i default
def chkE (s : Sm) (i : Nat) : Int := [if formS s then 0 else 3, if sizeS s then 0 else 6, if elS s then 0 else 13, if kdS s then 0 else 10].getD i default
theorem chkF_goes {i : Nat} (h : i < 4) : goes Tryz.prog (chkF i) = true := by
 rcases i with _ | _ | _ | _ | i
 ·kernel_rfl
 ·kernel_rfl
 ·kernel_rfl
 ·kernel_rfl
 ·omega
theorem chkE_form {s : Sm} (h : chkE s 0 = 0) : formS s := by
 have h1 : (if formS s then (0 : Int) else 3) = 0 := h
 split at h1
 ·assumption
 ·simp at h1
theorem chkF_c {s : SA} {w : World} {ok : Nat → Prop} (h1 : (Fact.sl s.ga (gps s.gs)).holds ok w) (h2 : (Fact.sl s.va (vrs s.vs)).holds ok w) (h3 : (Fact.sl s.ea (qas s.es)).holds ok w) (hM : ∀ f ∈ s.es.map qaF, f.holds ok w) (hs : saL s) {i : Nat} (hi : i < 4) (h0 : ∀ j, j < i → chkE s.core j = 0) :
  Calls Tryz.prog (chkF i) #[saV s] w fun e w' => e = .returned (.int .i64 (chkE s.core i)) ∧ Below w.heap.size w w' := by
 rcases i with _ | _ | _ | _ | i
 ·exact form_c h1 h2 h3 hM hs
 ·exact sizes_c h1 h2 h3 hs
 ·exact elems_c h1 h3 hM hs (chkE_form (h0 0 (by decide)))
 ·exact kinds_c h1 h2 h3 hM hs (chkE_form (h0 0 (by decide)))
 ·omega
theorem chkS_at {s : Sm} {i : Nat} (hi : i < 4) (h0 : ∀ j, j < i → chkE s j = 0) (h1 : chkE s i ≠ 0) : chkS s = chkE s i := by
 have a0 := h0 0; have a1 := h0 1; have a2 := h0 2
 simp only [chkE, List.getD_cons_zero, List.getD_cons_succ] at a0 a1 a2
 unfold chkS
 rcases i with _ | _ | _ | _ | i
 ·simp only [chkE, List.getD_cons_zero] at h1 ⊢; by_cases h : formS s <;> simp [h] at h1 ⊢
 ·have f0 : formS s := Decidable.byContradiction fun h => by simp [h] at a0
  simp only [chkE, List.getD_cons_zero, List.getD_cons_succ] at h1 ⊢; by_cases h : sizeS s <;> simp [h, f0] at h1 ⊢
 ·have f0 : formS s := Decidable.byContradiction fun h => by simp [h] at a0
  have f1 : sizeS s := Decidable.byContradiction fun h => by simp [h] at a1
  simp only [chkE, List.getD_cons_zero, List.getD_cons_succ] at h1 ⊢; by_cases h : elS s <;> simp [h, f0, f1] at h1 ⊢
 ·have f0 : formS s := Decidable.byContradiction fun h => by simp [h] at a0
  have f1 : sizeS s := Decidable.byContradiction fun h => by simp [h] at a1
  have f2 : elS s := Decidable.byContradiction fun h => by simp [h] at a2
  simp only [chkE, List.getD_cons_zero, List.getD_cons_succ] at h1 ⊢; by_cases h : kdS s <;> simp [h, f0, f1, f2] at h1 ⊢
 ·omega
theorem chkS_ok {s : Sm} (h0 : ∀ j, j < 4 → chkE s j = 0) : chkS s = 0 := by
 have a0 := h0 0 (by decide); have a1 := h0 1 (by decide); have a2 := h0 2 (by decide); have a3 := h0 3 (by decide)
 simp only [chkE, List.getD_cons_zero, List.getD_cons_succ] at a0 a1 a2 a3
 have f0 : formS s := Decidable.byContradiction fun h => by simp [h] at a0
 have f1 : sizeS s := Decidable.byContradiction fun h => by simp [h] at a1
 have f2 : elS s := Decidable.byContradiction fun h => by simp [h] at a2
 have f3 : kdS s := Decidable.byContradiction fun h => by simp [h] at a3
 simp [chkS, f0, f1, f2, f3]
theorem fncall0 (v : Value) : (#[] : Array Value) ++ [v].toArray ++ #[] = #[v] := by simp
theorem lcheck_c {s : SA} {w : World} {ok : Nat → Prop} (hF1 : (Fact.sl s.ga (gps s.gs)).holds ok w) (hF2 : (Fact.sl s.va (vrs s.vs)).holds ok w) (hF3 : (Fact.sl s.ea (qas s.es)).holds ok w) (hM : ∀ f ∈ (s.es.map qaF), f.holds ok w) (hs : saL s) :
  Cw 123 #[saV s] w (.int .i64 (chkS s.core)) := by
 refine En (Fact.sl s.ga (gps s.gs) :: Fact.sl s.va (vrs s.vs) :: Fact.sl s.ea (qas s.es) :: (s.es.map qaF)) [(0, saV s)] Tryz.func123 rfl Tryz.ntmps123 rfl (Ac rfl (An _)) (Fc (fact_any hF1) (Fc (fact_any hF2) (Fc (fact_any hF3) (facts_more hM)))) ?_
 refine Cs ?_
 refine Kh rfl (Oy rfl rfl) ?_
 intro b1
 refine Ka rfl (Nt (Cq (Cs (Kq rfl (Kb [[.nilFunc], [.nilFunc], [.nilFunc], [.nilFunc]] rfl rfl) (Km rfl (Nt (Cb ?_)))))))
 refine Lp (σ := Nat) [(1, _), (6, _)] (fun gq => [(7, .int .i64 (gq : Int))]) (fun gq => gq ≤ 4 ∧ ∀ j, j < gq → chkE s.core j = 0) (fun gq => 4 - gq) (0) (S2 rfl rfl) (S1 rfl) (by (try dsimp only); exact ⟨Nat.zero_le _, fun _ h => absurd h (Nat.not_lt_zero _)⟩) ?_
 rintro i hinv1; (try dsimp only at hinv1 ⊢)
 obtain ⟨hi, hok⟩ := hinv1
 refine Cs (Kq rfl (rd_lss rfl rfl rfl) (Nt (Cq ?_)))
 refine Cd rfl (fun hc8 => ?_) (fun hc8 => ?_)
 ·(try simp only [sB] at hc8)
  have hil : i < 4 := by omega
  refine Ck (Xa (Cq (Cb (Cs ?_))))
  refine Kq rfl (rd_aidx rfl rfl rfl u197 u161 rfl (by kernel_rfl) ?_ (by rw [Int.toNat_natCast]; exact map_getD [120, 177, 178, 179] (fun k : Nat => Value.func (.func k) #[] #[]) i hil)) ?_
  ·omega
  refine Ka rfl (Nt (Cs (Km rfl ?_)))
  refine Kq rfl (lda rfl rfl .tc u52 rfl ?_) ?_
  ·kernel_rfl
  refine Ku rfl (og_callv rfl rfl rfl (chkF_goes hil) (fncall0 _) (Kv fun w hS => chkF_c hS.sl hS.sl hS.sl hS.more hs hil hok)) ?_
  refine Ka rfl (Nt (Cs (Km rfl (Kq rfl (rd_neq rfl rfl rfl) (Nt ?_)))))
  refine Cd rfl (fun hc14 => ?_) (fun hc14 => ?_)
  ·(try simp only [sB] at hc14)
   have hr := chkS_at hil hok hc14
   refine Cs (Km rfl (Ka rfl (Nt (Ce (Xf (Xb (Xb (Xf (Xb ?_)))))))))
   exact R1 rfl rfl (by rw [hr]; rfl)
  ·(try simp only [sB] at hc14)
   refine Ck (Xd (Xa (Cg (Kq rfl (Rz rfl rfl rfl (by omega)) (Km rfl (Nn ?_))))))
   refine Ly (i + 1) (by (try dsimp only); omega) (S2 rfl rfl) (by refine (Sc ?_ (S0 _)) <;> (rfl)) ?_ (by (exact fun _ h => h))
   (try dsimp only)
   exact ⟨hil, fun j hj => by rcases Nat.lt_succ_iff_lt_or_eq.1 hj with h | h; exact hok j h; subst h; simpa using hc14⟩
 ·(try simp only [sB] at hc8)
  refine Cx (Xc (Xc (Xe ?_)))
  obtain rfl : i = 4 := by omega
  refine Xa (Cs (Ka rfl (Nt (Ce ?_))))
  exact R1 rfl rfl (by rw [chkS_ok hok]; rfl)
theorem rdx_c {x : Zs} {w : World} :
  Cw 122 #[.agg #[.bool x.1, .string (S x.2)]] w (.bool (decide (¬ okZ x))) := by
 refine En [] [(0, .agg #[.bool x.1, .string (S x.2)])] Tryz.func122 rfl Tryz.ntmps122 rfl (Ac rfl (An _)) Fn ?_
 refine Cs ?_
 refine Kh rfl (Oy rfl rfl) ?_
 intro b1
 refine Ka rfl (Nt (Cs ?_))
 refine Kq rfl (lda rfl rfl .tc u64 rfl ?_) ?_
 ·kernel_rfl
 refine Ku rfl (Oc rfl rfl (Kv fun w hS => zvalid_c (x := x))) ?_
 refine Kq rfl (Rt rfl rfl) (Ka rfl (Nt (Ce ?_)))
 exact R1 rfl rfl (by (simp [tup]; done))
theorem ready_c {s : SA} {ws : List Zs} {a : Option Addr} {c : Nat} {w : World} {ok : Nat → Prop} (hF1 : (Fact.sl s.ga (gps s.gs)).holds ok w) (hF2 : (Fact.sl s.va (vrs s.vs)).holds ok w) (hF3 : (Fact.sl s.ea (qas s.es)).holds ok w) (hF4 : (Fact.sl a (ints ws)).holds ok w) (hM : ∀ f ∈ (s.es.map qaF), f.holds ok w) (hs : saL s) (hw : ws.length ≤ 100000) :
  Cw 72 #[saV s, .slice a ws.length c] w (.int .i64 (rdyS s.core ws)) := by
 refine En (Fact.sl s.ga (gps s.gs) :: Fact.sl s.va (vrs s.vs) :: Fact.sl s.ea (qas s.es) :: Fact.sl a (ints ws) :: (s.es.map qaF)) [(0, saV s), (1, .slice a ws.length c)] Tryz.func72 rfl Tryz.ntmps72 rfl (Ac rfl (Ac rfl (An _))) (Fc (fact_any hF1) (Fc (fact_any hF2) (Fc (fact_any hF3) (Fc (fact_any hF4) (facts_more hM))))) ?_
 refine Cs ?_
 refine Kh rfl (Oy rfl rfl) ?_
 intro b2
 refine Ka rfl (Nt (Cq ?_))
 refine WC.joinP (σ := Unit) [(1, _), (2, _)] (fun gq => [(12, .bool (decide (¬ (formS s.core ∧ ∀ x ∈ ws, okZ x))))]) (fun gq => True) (S2 rfl rfl) ?_ ?_
 ·skip
  refine Cg ?_
  refine Kq rfl (lda rfl rfl .tc u52 rfl ?_) ?_
  ·kernel_rfl
  refine Ku rfl (Oc rfl rfl (Kv fun w hS => form_c (s := s) (by (exact hS.sl)) (by (exact hS.sl)) (by (exact hS.sl)) (by (exact hS.more)) (by exact hs))) ?_
  refine Kq rfl (rd_neq rfl rfl rfl) ?_
  refine Ns 8 rfl (v' := .bool (decide (¬ formS s.core))) (congrArg Value.bool (by split <;> simp_all)) ?_
  refine Km rfl ?_
  refine Nb 9 rfl (fun hg9 => ?_) (fun hg9 => ?_)
  ·(try simp only [sB] at hg9)
   refine Kt rfl (Kt rfl (Kq rfl (Rp rfl rfl rfl) (Nn ?_)))
   refine WX.joinP (()) (S2 rfl rfl) (by refine (Sc ?_ (S0 _)) <;> ((refine slot_b rfl ?_; (try dsimp only); (simp [*]; done)))) ?_ (by (exact fun _ h => h))
   (try dsimp only)
   done
  ·(try simp only [sB] at hg9)
   refine Km rfl ?_
   refine Ku rfl (Oc rfl rfl (Kv fun w hS => cfZ_c (l := ws) (fk := 122) (cs := #[]) (p := fun x => decide (¬ okZ x)) (by (exact hS.sl)) (by exact hw) (by kernel_rfl) (by exact fun x hx w' hb => by rw [fnc0]; exact rdx_c))) ?_
   refine Ns 11 rfl (v' := .bool (decide (¬ ∀ x ∈ ws, okZ x))) (congrArg Value.bool (by exact any_dec _ _)) ?_
   refine Kq rfl (Rq rfl rfl rfl) (Nn ?_)
   refine WX.joinP (()) (S2 rfl rfl) (by refine (Sc ?_ (S0 _)) <;> ((refine slot_b rfl ?_; (try dsimp only); (simp [*]; done)))) ?_ (by (exact fun _ h => h))
   (try dsimp only)
   done
 ·rintro _ hmeet; (try dsimp only at hmeet ⊢)
  refine Cd rfl (fun hc12 => ?_) (fun hc12 => ?_)
  ·(try simp only [sB] at hc12)
   have hr : rdyS s.core ws = 3 := by
    rw [rdyS]; by_cases h : formS s.core
    ·rw [if_neg (fun h2 => h2 h), if_pos (fun h2 => hc12 ⟨h, h2⟩)]
    ·rw [if_pos h]
   refine Cs (Ka rfl (Nt (Ce (Xb ?_))))
   exact R1 rfl rfl (by rw [hr]; rfl)
  ·(try simp only [sB] at hc12)
   obtain ⟨hf1, hz1⟩ := Decidable.not_not.1 hc12
   refine Ck (Xa (Cq (Cs ?_)))
   refine Kq rfl (lda rfl rfl .tc u52 rfl ?_) ?_
   ·kernel_rfl
   refine Ku rfl (Oc rfl rfl (Kv fun w hS => lcheck_c (s := s) (by (exact hS.sl)) (by (exact hS.sl)) (by (exact hS.sl)) (by (exact hS.more)) (by exact hs))) ?_
   refine Ka rfl (Nt (Cs (Km rfl (Kq rfl (rd_neq rfl rfl rfl) (Nt ?_)))))
   refine Cd rfl (fun hc16 => ?_) (fun hc16 => ?_)
   ·(try simp only [sB] at hc16)
    refine Cs (Km rfl (Ka rfl (Nt (Ce (Xb ?_)))))
    exact R1 rfl rfl (by rw [rdyS, if_neg (fun h => h hf1), if_neg (fun h => h hz1), if_pos (by simpa using hc16)]; rfl)
   ·(try simp only [sB] at hc16)
    have hk0 : chkS s.core = 0 := by simpa using hc16
    refine Ck (Xa (Cq (Cs (Km rfl (Kq rfl (rd_len rfl rfl u71) (Kq rfl (Fa (q := 1) rfl rfl u52 rfl rfl) (Kq rfl (Ld rfl rfl .tc u49) ?_)))))))
    refine Kq rfl (rd_len rfl rfl u49) (Kq rfl (rd_neq rfl rfl rfl) (Nt ?_))
    refine Cd rfl (fun hc23 => ?_) (fun hc23 => ?_)
    ·(try simp only [sB] at hc23)
     refine Cs (Ka rfl (Nt (Ce (Xb ?_))))
     exact R1 rfl rfl (by rw [rdyS, if_neg (fun h => h hf1), if_neg (fun h => h hz1), if_neg (fun h => h hk0), if_pos (fun h => hc23 (by rw [h]))]; rfl)
    ·(try simp only [sB] at hc23)
     refine Ck (Xa (Cs (Ka rfl (Nt (Ce ?_)))))
     exact R1 rfl rfl (by rw [rdyS, if_neg (fun h => h hf1), if_neg (fun h => h hz1), if_neg (fun h => h hk0), if_neg (fun h => h (show ws.length = s.vs.length by omega))]; rfl)
section
variable {P : Program} {ok : Nat → Prop} {w0 w : World} {own : List Ent} {fs : List Fact} {γ : Type} {f : FuncId} {args : Array Value} {val : γ → Value} {p : γ → Prop} {F : γ → List Fact} {xs : List Value}
theorem keep_fr (h : ∀ w, St ok w0 own fs w → Calls P f args w (fun e w' => ∃ g, e = .returned (val g) ∧ p g ∧ Below w.heap.size w w' ∧ ∀ x ∈ F g, x.holds (fun b => w.heap.size ≤ b) w')) :
  ∀ w, St ok w0 own fs w → Calls P f args w (fun e w' => ∃ g, e = .returned (val g) ∧ p g ∧ St ok w0 own (F g ++ fs) w') :=
 keep_ff fun w hS => (h w hS).mono fun _ w' ⟨g, he, hp, hb, hF⟩ => ⟨g, he, hp, hb, fun x hx => x.mono (fun _ h => .inr h) (hF x hx)⟩
theorem St.ocf (h : St ok w0 own fs w) {ob : Option Nat} {sp : List Value} {T : TypeId} {C : Ent → List Ent} [hf : HasC own ob (xs ++ sp) T C] : (Fact.sl (ob.map fun b => ⟨b, 0, none⟩) xs).holds (fun b => w0.heap.size ≤ b) w := by
 obtain ⟨k, hk, _⟩ := hf.h.get
 have := h.own_ _ (List.mem_of_getElem? hk)
 cases ob with
 | none => exact .inl (by have h1 : xs ++ sp = [] := this; simp at h1; exact h1.1)
 | some b =>
  refine .inr ⟨b, 0, (xs ++ sp).toArray, T, (0, 0), rfl, this.1, this.2, fun i hi => ?_⟩
  rw [Nat.zero_add, List.getElem?_toArray, List.getElem?_append_left hi]
end
section
variable {ds : List Deferred} {P : Program} {ops l : List Oper} {Q : Exit → Act → World → Prop} {n : Nat} {L : Slots} {ok : Nat → Prop} {w0 : World} {own : List Ent} {fs : List Fact} {x y : Fact}
theorem WL.fa2 (k : WL ds P ops Q n l L (St ok w0 own (x :: y :: fs))) : WL ds P ops Q n l L (St ok w0 own ([x, y] ++ fs)) := k
end
def bsQ (ws : List Zs) (q : Qn) : List Bs := if (exQ ws q).2 ≠ 0 then [] else q.2.2.map (·.1)
theorem exQ_at {ws : List Zs} {q : Qn} {i : Nat} (h : i < q.2.2.length) (h0 : ∀ t ∈ q.2.2.take i, (exT ws t).2 = 0) (h1 : (exT ws (q.2.2.getD i default)).2 ≠ 0) : exQ ws q = ([], (exT ws (q.2.2.getD i default)).2) := by
 rw [exQ, errL_at h h0 h1, if_pos h1]
theorem exQ_ok {ws : List Zs} {q : Qn} (h0 : ∀ t ∈ q.2.2, (exT ws t).2 = 0) : exQ ws q = (q.2.2.map fun t => (exT ws t).1, 0) := by
 rw [exQ, errL_map h0, if_neg (by decide)]
theorem ts_strs {l : List Tm} {i : Nat} (h : i < l.length) : strs ((l.take (i + 1)).map (·.1)) = strs ((l.take i).map (·.1)) ++ [.string (S (l.getD i default).1)] := by
 rw [take_succ_getD h, List.map_append]; simp [strs]
theorem ts_ints {l : List Tm} (f : Tm → Zs) {i : Nat} (h : i < l.length) : ints ((l.take (i + 1)).map f) = ints ((l.take i).map f) ++ zc (f (l.getD i default)) := by
 rw [take_succ_getD h, List.map_append]; simp
theorem bsQ_at {ws : List Zs} {q : Qn} {i : Nat} (h : i < q.2.2.length) (h0 : ∀ t ∈ q.2.2.take i, (exT ws t).2 = 0) (h1 : (exT ws (q.2.2.getD i default)).2 ≠ 0) : bsQ ws q = [] := by
 rw [bsQ, exQ_at h h0 h1, if_pos h1]
theorem collect_c {q : QA} {ws : List Zs} {p : Nat} {a : Option Addr} {c : Nat} {w : World} {ok : Nat → Prop} (hF1 : (Fact.sl (some ⟨p, 0, none⟩) [.slice a ws.length c]).holds ok w) (hF2 : (Fact.sl a (ints ws)).holds ok w) (hF3 : (Fact.sl q.2.1 (tms q.1.2.2)).holds ok w) (hw : ws.length ≤ 100000) (hl : q.1.2.2.length ≤ 100000) (ht : ∀ t ∈ q.1.2.2, 0 ≤ t.2.1 ∧ t.2.1 < ws.length) :
  Calls Tryz.prog 125 #[.agg #[.int .i64 q.1.1, .string (S q.1.2.1), .slice q.2.1 q.1.2.2.length q.2.2], .pointer (some ⟨p, 0, none⟩)] w fun e w' => ∃ gx : Rs × Rs, e = .returned (.tuple #[gx.1.val (bsQ ws q.1).length, gx.2.val (exQ ws q.1).1.length, .int .i64 (exQ ws q.1).2]) ∧ (True) ∧ Below w.heap.size w w' ∧ ∀ x ∈ ([Fact.sl gx.1.a (strs (bsQ ws q.1)), Fact.sl gx.2.a (ints (exQ ws q.1).1)] : List Fact), x.holds (fun b => w.heap.size ≤ b) w' := by
 refine En [Fact.sl (some ⟨p, 0, none⟩) [.slice a ws.length c], Fact.sl a (ints ws), Fact.sl q.2.1 (tms q.1.2.2)] [(0, .agg #[.int .i64 q.1.1, .string (S q.1.2.1), .slice q.2.1 q.1.2.2.length q.2.2]), (1, .pointer (some ⟨p, 0, none⟩))] Tryz.func125 rfl Tryz.ntmps125 rfl (Ac rfl (Ac rfl (An _))) (Fc (fact_any hF1) (Fc (fact_any hF2) (Fc (fact_any hF3) Fn))) ?_
 refine Cs ?_
 refine Kh rfl (Oy rfl rfl) ?_
 intro b2
 refine Ka rfl (Ka rfl (Ka rfl (Nt (Cs (Ka rfl (Nt (Cs (Ka rfl (Nt (Cq (Cs (Kq rfl (Fa (q := 2) rfl rfl u123 rfl rfl) (Kq rfl (Ld rfl rfl .tc u121) ?_)))))))))))))
 refine Kq rfl (rd_len rfl rfl u121) (Km rfl (Nt (Cb ?_)))
 refine Lo (σ := Nat × (Option Nat) × Nat × (List Value) × (Option Nat) × Nat × (List Value)) [(1, _), (13, _), (14, _)] (fun gq => [(6, .slice (gq.2.1.map fun b => ⟨b, 0, none⟩) gq.1 gq.2.2.1), (7, .slice (gq.2.2.2.2.1.map fun b => ⟨b, 0, none⟩) gq.1 gq.2.2.2.2.2.1), (15, .int .i64 (gq.1 : Int))]) (fun gq => (gq.1 ≤ q.1.2.2.length ∧ gq.2.2.1 = gq.1 + gq.2.2.2.1.length ∧ gq.2.2.2.2.2.1 * 2 = gq.1 * 2 + gq.2.2.2.2.2.2.length) ∧ ∀ t ∈ q.1.2.2.take gq.1, (exT ws t).2 = 0) (fun gq => q.1.2.2.length - gq.1) (fun gq => [⟨gq.2.2.2.2.1, ints ((q.1.2.2.take gq.1).map fun t => (exT ws t).1) ++ gq.2.2.2.2.2.2, 64⟩, ⟨gq.2.1, strs ((q.1.2.2.take gq.1).map (·.1)) ++ gq.2.2.2.1, 22⟩, ⟨some b2, [.int .i64 q.1.1, .string (S q.1.2.1), .slice q.2.1 q.1.2.2.length q.2.2], 123⟩]) (fun gq => [Fact.sl (some ⟨p, 0, none⟩) [.slice a ws.length c], Fact.sl a (ints ws), Fact.sl q.2.1 (tms q.1.2.2)]) (0, none, 0, [], none, 0, []) (S3 rfl rfl rfl) (S3 rfl rfl rfl) (by (try dsimp only); exact ⟨⟨Nat.zero_le _, rfl, rfl⟩, by simp⟩) (by exact fun w h => (h.nil _).nil _) ?_
 rintro ⟨i, o, cp, sp, o2, cp2, sp2⟩ hinv1; (try dsimp only at hinv1 ⊢)
 obtain ⟨⟨hi, hcp, hcp2⟩, hok⟩ := hinv1
 refine Cs (Kq rfl (rd_lss rfl rfl rfl) (Nt (Cq ?_)))
 refine Cd rfl (fun hc16 => ?_) (fun hc16 => ?_)
 ·(try simp only [sB] at hc16)
  have hil : i < q.1.2.2.length := by omega
  have htm := ht _ (getD_mem _ _ hil)
  have htl : (q.1.2.2.getD i default).2.1.toNat < ws.length := by omega
  refine Ck (Xa (Cq (Cb (Cs ?_))))
  refine Kq rfl (Ia rfl rfl rfl u121 (by kernel_rfl : _ = some 4) (by omega) (by (rw [flatMap_len _ _ 4 (fun _ => rfl)]; omega))) ?_
  refine Kq rfl (ldma _ rfl rfl u119 rfl (by kernel_rfl : _ = some 4) (fun _ => rfl) (by decide) rfl (by assumption)) ?_
  refine Kh rfl (Oz [.string (S []), .int .i64 0, .bool false, .string (S [])] rfl) ?_
  intro b9
  refine Nu rfl rfl (Sa rfl rfl rfl .tc) ?_
  refine Nt (Cq ?_)
  refine Cf [0, 1, 2, 3, 4, 5, 6, 7, 8, 9, 11, 12, 10, 13] [] [0, 0, 0, 0, 0, 0, 0, 1, 0, 0, 0, 3, 1, 0] (by kernel_rfl) (by kernel_rfl) rfl ?_
  refine Kj rfl (Fa (q := 2) rfl rfl u119 rfl rfl) ?_
  refine Kj rfl (ldp rfl rfl .tc u64 rfl (by kernel_rfl : _ = some 2) (by rfl) (by rfl)) ?_
  refine Kj rfl (ldf (m := 0) rfl rfl .tc u71 rfl rfl rfl) ?_
  refine Kj rfl (Fa (q := 1) rfl rfl u119 rfl rfl) (Kj rfl (Ld rfl rfl .tc u3) ?_)
  refine Kj rfl (Ia rfl rfl rfl u71 (by kernel_rfl : _ = some 2) (by assumption) (by (rw [flatMap_len _ _ 2 (fun _ => rfl)]; omega))) ?_
  refine Kj rfl (ldma _ rfl rfl u64 rfl (by kernel_rfl : _ = some 2) (fun _ => rfl) (by decide) rfl (by assumption)) ?_
  refine Jv rfl rfl rfl rfl rfl (fun ext => Oc rfl rfl (Kv fun w hS => zmul_c (x := (q.1.2.2.getD i default).2.2) (y := ws.getD (q.1.2.2.getD i default).2.1.toNat default))) ?_
  refine Kj rfl (Rm rfl rfl) (Kj rfl (Re rfl rfl rfl) ?_)
  refine Jf rfl rfl rfl rfl rfl (fr_alloc rfl (v := (.agg #[.bool false, .string (S [])])) (cs := [.bool false, .string (S [])]) (by kernel_rfl) rfl) ?_
  intro b10
  refine WJ.st rfl rfl rfl rfl (staJ rfl rfl rfl ?_ ?_ ?_) ?_
  ·kernel_rfl
  ·simp [Value.oneCell']
  ·rfl
  refine Kj rfl (Re rfl rfl rfl) (Kj rfl (Ra rfl rfl) ?_)
  refine WJ.nil ?_
  refine Nt (Cq (Cs (Km rfl (Kq rfl (rd_neq rfl rfl rfl) (Nt ?_)))))
  refine Cd rfl (fun hc31 => ?_) (fun hc31 => ?_)
  ·(try simp only [sB] at hc31)
   refine Cs (Km rfl (Ka rfl (Ka rfl (Ka rfl (Nt (Ce (Xb (Xf (Xb (Xb (Xf (Xb ?_))))))))))))
   exact Rn rfl (.tmp rfl (.tmp rfl (.tmp rfl .nil))) fun w' hS => ⟨(⟨none, 0, []⟩, ⟨none, 0, []⟩), by rw [bsQ_at hil hok hc31, exQ_at hil hok hc31]; rfl, trivial, hS.below, by rw [bsQ_at hil hok hc31, exQ_at hil hok hc31]; exact Fc sl_nilk (Fc sl_nilk Fn)⟩
  ·(try simp only [sB] at hc31)
   have hx0 : (exT ws (q.1.2.2.getD i default)).2 = 0 := by simpa [exT] using hc31
   have hln : (ints ((q.1.2.2.take i).map fun t => (exT ws t).1)).length = i * 2 := by rw [flatMap_len _ _ 2 (fun _ => rfl), List.length_map, List.length_take]; omega
   have hls : (strs ((q.1.2.2.take i).map (·.1))).length = i := by simp [strs]; omega
   refine Ck (Xa ?_)
   refine WC.free (K := [⟨some b10, [.bool (mulZ (q.1.2.2.getD i default).2.2 (ws.getD (q.1.2.2.getD i default).2.1.toNat default)).1.1, .string (S (mulZ (q.1.2.2.getD i default).2.2 (ws.getD (q.1.2.2.getD i default).2.1.toNat default)).1.2)], 64⟩, ⟨some b9, [.string (S (q.1.2.2.getD i default).1), .int .i64 (q.1.2.2.getD i default).2.1, .bool (q.1.2.2.getD i default).2.2.1, .string (S (q.1.2.2.getD i default).2.2.2)], 119⟩]) (fs0 := []) [0, 1, 2, 3, 4, 5, 6, 7, 8, 9, 10] [] [0, 0, 0, 3, 1, 0, 0, 3, 1, 0, 0] (by kernel_rfl) (by kernel_rfl) rfl ?_
   refine Kj rfl (Rm rfl rfl) (Kj rfl (Fa (q := 0) rfl rfl u119 rfl rfl) (Kj rfl (Ld rfl rfl .tc u22) ?_))
   refine Jf rfl rfl rfl rfl rfl (fr_bs1 rfl rfl u31 (by kernel_rfl : _ = some (some (.string (S [])), 1, 16)) rfl (by simp only [List.map]; rfl) rfl rfl ?_ (by decide)) ?_
   ·simp [Value.cells]
   intro b36
   refine Jg rfl rfl rfl rfl rfl (appgJ rfl u31 (by kernel_rfl : _ = some (some (.string (S [])), 1, 16)) rfl .tc rfl rfl (fun ext w hS => by (exact hS.os)) (by rfl) (by refine ⟨?_, ?_, ?_, ?_⟩ <;> first | exact hls | (try simp) <;> omega) (by (simp [Value.oneCell']; done))) ?_
   rintro ⟨o37, c37, s37⟩ hg37; (try dsimp only at hg37 ⊢)
   refine Kj rfl (Rm rfl rfl) ?_
   refine Kj rfl (lda rfl rfl .tc u64 rfl ?_) ?_
   ·kernel_rfl
   refine Jf rfl rfl rfl rfl rfl (fr_bsN rfl rfl u71 (by kernel_rfl : _ = some (some (.agg #[.bool false, .string (S [])]), 2, 24)) (by kernel_rfl) (by decide) rfl rfl (by (simp [Value.cells]; done)) (by (exact cells_one _)) (by decide)) ?_
   intro b40
   refine Jg rfl rfl rfl rfl rfl (appgNJ rfl u71 (by kernel_rfl : _ = some (some (.agg #[.bool false, .string (S [])]), 2, 24)) (by kernel_rfl) (by decide) .tc rfl rfl (fun ext w hS => by (exact hS.os)) (by rfl) (by refine ⟨?_, ?_, ?_, ?_⟩ <;> first | exact hln | omega) (by (simp [Value.oneCell']; done))) ?_
   rintro ⟨o41, c41, s41⟩ hg41; (try dsimp only at hg41 ⊢)
   refine Kj rfl (Ra rfl rfl) (Kj rfl (Ra rfl rfl) ?_)
   refine WJ.nil ?_
   refine Nn (Xd (Xa (Cg (Kq rfl (Rz rfl rfl rfl (by omega)) (Km rfl (Nn ?_))))))
   refine Lx ((i + 1, o37, c37, s37, o41, c41, s41)) (by (try dsimp only); omega) (S3 rfl rfl rfl) (by refine (Sc ?_ (Sc ?_ (Sc ?_ (S0 _)))) <;> (rfl)) ?_ (by exact fun w h => by rw [ts_strs hil, ts_ints _ hil]; exact st_sub _ h)
   (try dsimp only)
   exact ⟨⟨hil, by omega, by omega⟩, all_take hil hok hx0⟩
 ·(try simp only [sB] at hc16)
  refine Cx (Xc (Xc (Xe ?_)))
  obtain rfl : i = q.1.2.2.length := by omega
  rw [List.take_length] at hok
  rw [List.take_length]
  refine Xa (Cs (Km rfl (Km rfl (Ka rfl (Ka rfl (Ka rfl (Nt (Ce ?_))))))))
  exact Rn rfl (.tmp rfl (.tmp rfl (.tmp rfl .nil))) fun w' hS => ⟨(⟨o, cp, sp⟩, ⟨o2, cp2, sp2⟩), by rw [bsQ, exQ_ok hok, if_neg (fun h => h rfl), List.length_map, List.length_map]; rfl, trivial, hS.below, by rw [bsQ, exQ_ok hok, if_neg (fun h => h rfl)]; exact Fc hS.ocf (Fc hS.ocf Fn)⟩
theorem inrange_c {s : SA} {ws : List Zs} {a : Option Addr} {c : Nat} {w : World} {ok : Nat → Prop} (hF1 : (Fact.sl s.ga (gps s.gs)).holds ok w) (hF2 : (Fact.sl s.va (vrs s.vs)).holds ok w) (hF3 : (Fact.sl a (ints ws)).holds ok w) (hs : saL s) (hw : ws.length = s.vs.length) (hfo : formS s.core) (hz : ∀ x ∈ ws, okZ x) :
  Cw 73 #[saV s, .slice a ws.length c] w (.bool (decide (inR s.core ws))) := by
 have hs' := hs
 obtain ⟨hlg, hlv, hle, hlt, hlm⟩ := hs
 have hoo : okN (ordS s.gs) := ordS_okN hfo.1
 refine En [Fact.sl s.ga (gps s.gs), Fact.sl s.va (vrs s.vs), Fact.sl a (ints ws)] [(0, saV s), (1, .slice a ws.length c)] Tryz.func73 rfl Tryz.ntmps73 rfl (Ac rfl (Ac rfl (An _))) (Fc (fact_any hF1) (Fc (fact_any hF2) (Fc (fact_any hF3) Fn))) ?_
 refine Cs ?_
 refine Kh rfl (Oy rfl rfl) ?_
 intro b2
 refine Ka rfl (Nt (Cq (Cs (Kq rfl (Fa (q := 1) rfl rfl u52 rfl rfl) (Kq rfl (Ld rfl rfl .tc u49) ?_)))))
 refine Kq rfl (rd_len rfl rfl u49) (Km rfl (Nt (Cb ?_)))
 refine Lp (σ := Nat) [(1, _), (2, _), (9, _), (10, _)] (fun gq => [(11, .int .i64 (gq : Int))]) (fun gq => gq ≤ s.vs.length ∧ ∀ j, j < gq → inV (ordS s.gs) (s.vs.getD j default) (ws.getD j default)) (fun gq => s.vs.length - gq) (0) (S4 rfl rfl rfl rfl) (S1 rfl) (by (try dsimp only); exact ⟨Nat.zero_le _, fun _ h => absurd h (Nat.not_lt_zero _)⟩) ?_
 rintro i hinv1; (try dsimp only at hinv1 ⊢)
 obtain ⟨hi, hok⟩ := hinv1
 refine Cs (Kq rfl (rd_lss rfl rfl rfl) (Nt (Cq ?_)))
 refine Cd rfl (fun hc12 => ?_) (fun hc12 => ?_)
 ·(try simp only [sB] at hc12)
  have hil : i < s.vs.length := by omega
  have hwl : i < ws.length := by omega
  have hov : okN (s.vs.getD i default) := hfo.2.1 _ (getD_mem _ _ hil)
  have hoz := (hz _ (getD_mem _ _ hwl)).1
  refine Ck (Xa (Cq (Cb (Cs (Km rfl ?_)))))
  refine Kq rfl (Ib rfl rfl rfl u49 (by omega) (by (rw [flatMap_len _ _ 1 (fun _ => rfl)]; omega))) ?_
  refine Kq rfl (ldma _ rfl rfl u117 rfl (by kernel_rfl : _ = some 1) (fun _ => rfl) (by decide) (Nat.mul_one _).symm (by assumption)) ?_
  refine Kh rfl (Oz [.string (S [])] rfl) ?_
  intro b6
  refine Ka rfl ?_
  refine Nu rfl rfl (Sa rfl rfl rfl .tc) ?_
  refine Nt (Cs (Kq rfl (Fa (q := 0) rfl rfl u117 rfl rfl) (Kq rfl (Ld rfl rfl .tc u22) ?_)))
  refine Ka rfl (Nt (Cq (Cs (Km rfl (Kq rfl (rd_seq rfl rfl rfl) (Nt ?_))))))
  refine Cd rfl (fun hc19 => ?_) (fun hc19 => ?_)
  ·(try simp only [sB] at hc19)
   have hv0 : s.vs.getD i default = [] := by simpa using hc19
   refine Cs ?_
   refine Kq rfl (lda rfl rfl .tc u52 rfl ?_) ?_
   ·kernel_rfl
   refine Ku rfl (Oc rfl rfl (Kv fun w hS => lorder_c (s := s) (by (exact hS.sl)) (by exact hs'))) ?_
   refine Ka rfl (Nt (Cs (Km rfl (Km rfl ?_))))
   refine Kq rfl (Ia rfl rfl rfl u71 (by kernel_rfl : _ = some 2) (by omega) (by (rw [flatMap_len _ _ 2 (fun _ => rfl)]; omega))) ?_
   (refine Kq rfl (faf rfl rfl u64 rfl (by kernel_rfl) (by (try simp only [sN, Int.reduceToNat, Nat.reduceAdd, Nat.reduceMul, Nat.reduceSub]); rfl)) ?_)
   refine Kq rfl (ldmf (sz := 2) _ 0 rfl rfl u4 rfl (fun _ => rfl) rfl (by assumption) (by decide) rfl) ?_
   refine Nt ?_
   refine Cd rfl (fun hc26 => ?_) (fun hc26 => ?_)
   ·(try simp only [sB] at hc26)
    have hn : ¬ inR s.core ws := fun h => by
     have h1 := h i hil; rw [inV, if_pos hv0] at h1; rw [h1.1] at hc26; cases hc26
    refine Cs (Ka rfl (Nt (Ce (Xb (Xf (Xb (Xb (Xf (Xb ?_)))))))))
    exact R1 rfl rfl (by rw [decide_eq_false hn]; rfl)
   ·(try simp only [sB] at hc26)
    refine Ck (Xa (Cs (Km rfl (Km rfl ?_))))
    refine Kq rfl (Ia rfl rfl rfl u71 (by kernel_rfl : _ = some 2) (by omega) (by (rw [flatMap_len _ _ 2 (fun _ => rfl)]; omega))) ?_
    (refine Kq rfl (faf rfl rfl u64 rfl (by kernel_rfl) (by (try simp only [sN, Int.reduceToNat, Nat.reduceAdd, Nat.reduceMul, Nat.reduceSub]); rfl)) ?_)
    refine Kq rfl (ldmf (sz := 2) _ 1 rfl rfl u22 rfl (fun _ => rfl) rfl (by assumption) (by decide) rfl) ?_
    refine Km rfl ?_
    refine Ku rfl (Oc rfl rfl (Kv fun w hS => Cmp_c (a := (ws.getD i default).2))) ?_
    refine Kq rfl (rd_geq rfl rfl rfl) (Nt ?_)
    refine Cd rfl (fun hc34 => ?_) (fun hc34 => ?_)
    ·(try simp only [sB] at hc34)
     have hn : ¬ inR s.core ws := fun h => by
      have h1 := h i hil; rw [inV] at h1; simp only [SA.core] at h1
      (rw [if_pos hv0] at h1; rw [cmpN_ok hoz hoo] at hc34; have := (cmpI_ge _ _).1 hc34; have h2 := h1.2; omega)
     refine Cs (Ka rfl (Nt (Ce (Xf (Xb (Xb (Xf (Xb ?_))))))))
     exact R1 rfl rfl (by rw [decide_eq_false hn]; rfl)
    ·(try simp only [sB] at hc34)
     have hlt : inV (ordS s.gs) (s.vs.getD i default) (ws.getD i default) := by
      rw [inV]; (rw [if_pos hv0]; rw [cmpN_ok hoz hoo, ] at hc34; exact ⟨by simpa using hc26, (cmpI_neg _ _).1 (by omega)⟩)
     refine Ck (Xd (Xa (Cg (Kq rfl (Rz rfl rfl rfl (by omega)) (Km rfl (Nn ?_))))))
     refine Ly (i + 1) (by (try dsimp only); omega) (S4 rfl rfl rfl rfl) (by refine (Sc ?_ (S0 _)) <;> (rfl)) ?_ (by (exact st_sub))
     (try dsimp only)
     exact ⟨hil, fun j hj => by rcases Nat.lt_succ_iff_lt_or_eq.1 hj with h | h; exact hok j h; subst h; exact hlt⟩
  ·(try simp only [sB] at hc19)
   have hv0 : s.vs.getD i default ≠ [] := by simpa using hc19
   refine Ck (Xa (Cs (Km rfl (Km rfl ?_))))
   refine Kq rfl (Ia rfl rfl rfl u71 (by kernel_rfl : _ = some 2) (by omega) (by (rw [flatMap_len _ _ 2 (fun _ => rfl)]; omega))) ?_
   (refine Kq rfl (faf rfl rfl u64 rfl (by kernel_rfl) (by (try simp only [sN, Int.reduceToNat, Nat.reduceAdd, Nat.reduceMul, Nat.reduceSub]); rfl)) ?_)
   refine Kq rfl (ldmf (sz := 2) _ 1 rfl rfl u22 rfl (fun _ => rfl) rfl (by assumption) (by decide) rfl) ?_
   refine Km rfl ?_
   refine Ku rfl (Oc rfl rfl (Kv fun w hS => Cmp_c (a := (ws.getD i default).2))) ?_
   refine Kq rfl (rd_geq rfl rfl rfl) (Nt ?_)
   refine Cd rfl (fun hc34 => ?_) (fun hc34 => ?_)
   ·(try simp only [sB] at hc34)
    have hn : ¬ inR s.core ws := fun h => by
     have h1 := h i hil; rw [inV] at h1; simp only [SA.core] at h1
     (rw [if_neg hv0] at h1; rw [cmpN_ok hoz hov] at hc34; have := (cmpI_ge _ _).1 hc34; omega)
    refine Cs (Ka rfl (Nt (Ce (Xf (Xb (Xb (Xf (Xb ?_))))))))
    exact R1 rfl rfl (by rw [decide_eq_false hn]; rfl)
   ·(try simp only [sB] at hc34)
    have hlt : inV (ordS s.gs) (s.vs.getD i default) (ws.getD i default) := by
     rw [inV]; (rw [if_neg hv0]; rw [cmpN_ok hoz hov] at hc34; exact (cmpI_neg _ _).1 (by omega))
    refine Ck (Xd (Xa (Cg (Kq rfl (Rz rfl rfl rfl (by omega)) (Km rfl (Nn ?_))))))
    refine Ly (i + 1) (by (try dsimp only); omega) (S4 rfl rfl rfl rfl) (by refine (Sc ?_ (S0 _)) <;> (rfl)) ?_ (by (exact st_sub))
    (try dsimp only)
    exact ⟨hil, fun j hj => by rcases Nat.lt_succ_iff_lt_or_eq.1 hj with h | h; exact hok j h; subst h; exact hlt⟩
 ·(try simp only [sB] at hc12)
  refine Cx (Xc (Xc (Xe ?_)))
  obtain rfl : i = s.vs.length := by omega
  refine Xa (Cs (Ka rfl (Nt (Ce ?_))))
  exact R1 rfl rfl (by rw [decide_eq_true (show inR s.core ws from fun j hj => hok j hj)]; rfl)
instance (priority := low) SubL.app {α : Type} (x y z : List α) [h : SubL x z] : SubL x (y ++ z) := ⟨h.h.trans (List.sublist_append_right _ _)⟩
theorem icfmd_c {l : List Bs} {a : Option Addr} {c : Nat} {w : World} {ok : Nat → Prop} (hF1 : (Fact.sl a (strs l)).holds ok w) (hl : l.length ≤ 100000) :
  Cw 90 #[.slice a l.length c] w (.int .i64 (if ∀ x ∈ l, okN x then 0 else 3)) := by
 refine En [Fact.sl a (strs l)] [(0, .slice a l.length c)] Tryz.func90 rfl Tryz.ntmps90 rfl (Ac rfl (An _)) (Fc (fact_any hF1) Fn) ?_
 refine Cs (Ka rfl (Nt (Cq (Cs (Km rfl (Kq rfl (rd_len rfl rfl u31) (Km rfl (Nt (Cb ?_)))))))))
 refine Lp (σ := Nat) [(5, _), (6, _)] (fun gq => [(7, .int .i64 (gq : Int))]) (fun gq => gq ≤ l.length ∧ ∀ x ∈ l.take gq, okN x) (fun gq => l.length - gq) (0) (S2 rfl rfl) (S1 rfl) (by (try dsimp only); exact ⟨Nat.zero_le _, by simp⟩) ?_
 rintro i hinv1; (try dsimp only at hinv1 ⊢)
 obtain ⟨hi, hok⟩ := hinv1
 refine Cs (Kq rfl (rd_lss rfl rfl rfl) (Nt (Cq ?_)))
 refine Cd rfl (fun hc8 => ?_) (fun hc8 => ?_)
 ·(try simp only [sB] at hc8)
  have hil : i < l.length := by omega
  refine Ck (Xa (Cq (Cb (Cs ?_))))
  refine Kq rfl (Ib rfl rfl rfl u31 (by omega) (by (rw [List.length_map]; omega))) ?_
  refine Kq rfl (ldm rfl rfl u22 rfl (by assumption)) ?_
  refine Ka rfl (Nt (Cs (Km rfl ?_)))
  refine Ku rfl (Oc rfl rfl (Kv fun w hS => valid_c (a := l.getD i default))) ?_
  refine Kq rfl (Rt rfl rfl) (Nt ?_)
  refine Cd rfl (fun hc13 => ?_) (fun hc13 => ?_)
  ·(try simp only [sB] at hc13)
   refine Cs (Ka rfl (Nt (Ce (Xf (Xb (Xb (Xf (Xb ?_))))))))
   exact R1 rfl rfl (by rw [if_neg (fun h => absurd (h _ (getD_mem _ _ hil)) (by simpa using hc13))]; rfl)
  ·(try simp only [sB] at hc13)
   refine Ck (Xd (Xa (Cg (Kq rfl (Rz rfl rfl rfl (by omega)) (Km rfl (Nn ?_))))))
   refine Ly (i + 1) (by (try dsimp only); omega) (S2 rfl rfl) (by refine (Sc ?_ (S0 _)) <;> (rfl)) ?_ (by (exact fun _ h => h))
   (try dsimp only)
   exact ⟨hil, all_take hil hok (by simpa using hc13)⟩
 ·(try simp only [sB] at hc8)
  refine Cx (Xc (Xc (Xe ?_)))
  obtain rfl : i = l.length := by omega
  rw [List.take_length] at hok
  refine Xa (Cs (Ka rfl (Nt (Ce ?_))))
  exact R1 rfl rfl (by rw [if_pos hok]; rfl)
theorem icnum_c {k : PK} {w : World} :
  Calls Tryz.prog 91 #[pkV k] w fun e w' => ∃ g : Rs, e = .returned (g.val 4) ∧ g.cap = 4 + g.sp.length ∧ St (fun _ => True) w [g.ent (strs [k.1.1, k.1.2, k.2.1, k.2.2]) 22] [] w' := by
 refine En [] [(0, pkV k)] Tryz.func91 rfl Tryz.ntmps91 rfl (Ac rfl (An _)) Fn ?_
 refine Cs ?_
 refine Kh rfl (Oy rfl rfl) ?_
 intro b1
 refine Ka rfl (Nt (Cs (Kq rfl (Fa (q := 0) rfl rfl u86 rfl rfl) (Kq rfl (Fa (q := 0) rfl rfl u24 rfl rfl) (Kq rfl (Ld rfl rfl .tc u22) ?_)))))
 refine Kq rfl (Fa (q := 0) rfl rfl u86 rfl rfl) (Kq rfl (Fa (q := 1) rfl rfl u24 rfl rfl) (Kq rfl (Ld rfl rfl .tc u22) ?_))
 refine Kq rfl (Fa (q := 2) rfl rfl u86 rfl rfl) (Kq rfl (Ld rfl rfl .tc u22) ?_)
 refine Kq rfl (Fa (q := 3) rfl rfl u86 rfl rfl) (Kq rfl (Ld rfl rfl .tc u22) ?_)
 refine Kh rfl (og_bs1 rfl rfl u31 (by kernel_rfl : _ = some (some (.string (S [])), 1, 16)) rfl (by simp only [List.map]; rfl) rfl rfl ?_ (by decide)) ?_
 ·simp [Value.cells]
 intro b13
 refine Ka rfl (Nt (Ce ?_))
 exact Rn rfl (.tmp rfl .nil) fun w' hS => ⟨⟨some b13, 4, []⟩, rfl, rfl, hS.sub (List.Sublist.cons_cons _ (List.nil_sublist _)) (fun _ h => h)⟩
theorem icels_c {k : PK} {l : List Bs} {a : Option Addr} {c : Nat} {w : World} {ok : Nat → Prop} (hF1 : (Fact.sl a (strs l)).holds ok w) (hl : l.length ≤ 100000) (hg : chkG k.1 = 0) (hm8 : k.1.1.length ≤ 8) :
  Cw 135 #[pkV k, .slice a l.length c] w (.int .i64 (if ∀ x ∈ l, elG k.1 x then 0 else 13)) := by
 refine En [Fact.sl a (strs l)] [(0, pkV k), (1, .slice a l.length c)] Tryz.func135 rfl Tryz.ntmps135 rfl (Ac rfl (Ac rfl (An _))) (Fc (fact_any hF1) Fn) ?_
 refine Cs ?_
 refine Kh rfl (Oy rfl rfl) ?_
 intro b2
 refine Ka rfl (Nt (Cq (Cs (Km rfl (Kq rfl (rd_len rfl rfl u31) (Km rfl (Nt (Cb ?_))))))))
 refine Lp (σ := Nat) [(2, _), (7, _), (8, _)] (fun gq => [(9, .int .i64 (gq : Int))]) (fun gq => gq ≤ l.length ∧ ∀ x ∈ l.take gq, elG k.1 x) (fun gq => l.length - gq) (0) (S3 rfl rfl rfl) (S1 rfl) (by (try dsimp only); exact ⟨Nat.zero_le _, by simp⟩) ?_
 rintro i hinv1; (try dsimp only at hinv1 ⊢)
 obtain ⟨hi, hok⟩ := hinv1
 refine Cs (Kq rfl (rd_lss rfl rfl rfl) (Nt (Cq ?_)))
 refine Cd rfl (fun hc10 => ?_) (fun hc10 => ?_)
 ·(try simp only [sB] at hc10)
  have hil : i < l.length := by omega
  refine Ck (Xa (Cq (Cb (Cs ?_))))
  refine Kq rfl (Ib rfl rfl rfl u31 (by omega) (by (rw [List.length_map]; omega))) ?_
  refine Kq rfl (ldm rfl rfl u22 rfl (by assumption)) ?_
  refine Ka rfl (Nt (Cs (Kq rfl (Fa (q := 0) rfl rfl u86 rfl rfl) ?_)))
  refine Kq rfl (ldp rfl rfl .tc u24 rfl (by kernel_rfl : _ = some 2) (by rfl) (by rfl)) ?_
  refine Km rfl ?_
  refine Ku rfl (Oc rfl rfl (Kv fun w hS => pwhas_c (g := k.1) (x := l.getD i default) (by assumption))) ?_
  refine Ns 16 rfl (v' := .bool (decide (elG k.1 (l.getD i default)))) (congrArg Value.bool (by simp [hg])) ?_
  refine Kq rfl (Rt rfl rfl) (Nt ?_)
  refine Cd rfl (fun hc17 => ?_) (fun hc17 => ?_)
  ·(try simp only [sB] at hc17)
   refine Cs (Ka rfl (Nt (Ce (Xf (Xb (Xb (Xf (Xb ?_))))))))
   exact R1 rfl rfl (by rw [if_neg (fun h => absurd (h _ (getD_mem _ _ hil)) (by simpa using hc17))]; rfl)
  ·(try simp only [sB] at hc17)
   refine Ck (Xd (Xa (Cg (Kq rfl (Rz rfl rfl rfl (by omega)) (Km rfl (Nn ?_))))))
   refine Ly (i + 1) (by (try dsimp only); omega) (S3 rfl rfl rfl) (by refine (Sc ?_ (S0 _)) <;> (rfl)) ?_ (by (exact fun _ h => h))
   (try dsimp only)
   exact ⟨hil, all_take hil hok (by simpa using hc17)⟩
 ·(try simp only [sB] at hc10)
  refine Cx (Xc (Xc (Xe ?_)))
  obtain rfl : i = l.length := by omega
  rw [List.take_length] at hok
  refine Xa (Cs (Ka rfl (Nt (Ce ?_))))
  exact R1 rfl rfl (by rw [if_pos hok]; rfl)
theorem icready_c {v r : Bs} {w : World} :
  Cw 137 #[.string (S v), .string (S r)] w (.int .i64 (bndE v r)) := by
 refine En [] [(0, .string (S v)), (1, .string (S r))] Tryz.func137 rfl Tryz.ntmps137 rfl (Ac rfl (Ac rfl (An _))) Fn ?_
 refine Cs (Ka rfl (Nt (Cq ?_)))
 refine WC.joinP (σ := Unit) [] (fun gq => [(10, .bool (decide (v = [] ∨ r = [])))]) (fun gq => True) (S0 _) ?_ ?_
 ·skip
  refine Cg (Km rfl (Kq rfl (rd_seq rfl rfl rfl) (Km rfl ?_)))
  refine Nb 7 rfl (fun hg7 => ?_) (fun hg7 => ?_)
  ·(try simp only [sB] at hg7)
   refine Kt rfl (Kt rfl (Kq rfl (Rp rfl rfl rfl) (Nn ?_)))
   refine WX.joinP (()) (S0 _) (by refine (Sc ?_ (S0 _)) <;> ((refine slot_b rfl ?_; (try dsimp only); (simp [*]; done)))) ?_ (by (exact fun _ h => h))
   (try dsimp only)
   done
  ·(try simp only [sB] at hg7)
   refine Km rfl (Kq rfl (rd_seq rfl rfl rfl) (Kq rfl (Rq rfl rfl rfl) (Nn ?_)))
   refine WX.joinP (()) (S0 _) (by refine (Sc ?_ (S0 _)) <;> ((refine slot_b rfl ?_; (try dsimp only); (simp [*]; done)))) ?_ (by (exact fun _ h => h))
   (try dsimp only)
   done
 ·rintro _ hmeet; (try dsimp only at hmeet ⊢)
  refine Cd rfl (fun hc10 => ?_) (fun hc10 => ?_)
  ·(try simp only [sB] at hc10)
   refine Cs (Ka rfl (Nt (Ce (Xb ?_))))
   exact R1 rfl rfl (by rw [bndE, if_pos hc10]; rfl)
  ·(try simp only [sB] at hc10)
   refine Ck (Xa (Cs (Ka rfl (Nt (Ce ?_)))))
   exact R1 rfl rfl (by rw [bndE, if_neg hc10]; rfl)
theorem icvars_c {x y z : Bs} {n : Nat} {w : World} (hn : n ≤ 3) :
  Calls Tryz.prog 138 #[.agg #[.string (S x), .string (S y), .string (S z)], .int .i64 n] w fun e w' => ∃ g : Rs, e = .returned (g.val n) ∧ g.cap = n + g.sp.length ∧ St (fun _ => True) w [g.ent (vrs ([x, y, z].take n)) 117] [] w' := by
 refine En [] [(0, .agg #[.string (S x), .string (S y), .string (S z)]), (1, .int .i64 n)] Tryz.func138 rfl Tryz.ntmps138 rfl (Ac rfl (Ac rfl (An _))) Fn ?_
 refine Cs ?_
 refine Kh rfl (Oy rfl rfl) ?_
 intro b2
 refine Ka rfl (Nt (Cs (Ka rfl (Nt (Cq (Cs ?_))))))
 refine WL.st (fun w h => h.freeze (off := 0) (xs := strs [x, y, z]) (fun i hi => by rw [Nat.zero_add]; rfl)) ?_
 refine Km rfl ?_
 refine Kq rfl (rd_slat rfl rfl rfl u177 (by kernel_rfl : _ = some 1) ?_ (by (try simp only [sN, Int.reduceToNat, Nat.reduceAdd, Nat.reduceMul, Nat.reduceSub]); rfl)) ?_
 ·omega
 refine Kq rfl (rd_len rfl rfl u31) (Km rfl (Nt (Cb ?_)))
 refine Lo (σ := Nat × (Option Nat) × Nat × (List Value)) [(9, _), (10, _)] (fun gq => [(5, .slice (gq.2.1.map fun b => ⟨b, 0, none⟩) gq.1 gq.2.2.1), (11, .int .i64 (gq.1 : Int))]) (fun gq => gq.1 ≤ n ∧ gq.2.2.1 = gq.1 + gq.2.2.2.length) (fun gq => n - gq.1) (fun gq => [⟨gq.2.1, vrs ([x, y, z].take gq.1) ++ gq.2.2.2, 117⟩]) (fun gq => [Fact.sl (some ⟨b2, 0, none⟩) (strs [x, y, z])]) (0, none, 0, []) (S2 rfl rfl) (S2 rfl rfl) (by (try dsimp only); exact ⟨Nat.zero_le _, rfl⟩) (by exact fun w h => h.nil _) ?_
 rintro ⟨i, o, cp, sp⟩ hinv1; (try dsimp only at hinv1 ⊢)
 obtain ⟨hi, hcp⟩ := hinv1
 refine Cs (Kq rfl (rd_lss rfl rfl rfl) (Nt (Cq ?_)))
 refine Cd rfl (fun hc12 => ?_) (fun hc12 => ?_)
 ·(try simp only [sB] at hc12)
  have hil : i < n := by omega
  have hi3 : i < [x, y, z].length := by show i < 3; omega
  have hls : (vrs ([x, y, z].take i)).length = i := by rw [flatMap_len _ _ 1 (fun _ => rfl), List.length_take]; simp; omega
  refine Ck (Xa (Cq (Cb (Cs ?_))))
  refine Kq rfl (Ja rfl rfl rfl u31 (by kernel_rfl : _ = some 1) (by omega)) ?_
  refine Kq rfl (ldf (m := i) rfl rfl .tc u22 rfl (Nat.zero_add _).symm (map_getD [x, y, z] (fun s : Bs => Value.string (S s)) i hi3)) ?_
  refine Ka rfl (Nt (Cg (Km rfl (Km rfl (Kq rfl (Kb [[.string (S [])]] rfl rfl) ?_)))))
  refine Kh rfl (og_bsN rfl rfl u49 (by kernel_rfl : _ = some (some (.agg #[.string (S [])]), 1, 16)) (by kernel_rfl) (by decide) rfl rfl (by (simp [Value.cells]; done)) (by (exact cells_one _)) (by decide)) ?_
  intro b18
  refine Kh rfl (appgN rfl u49 (by kernel_rfl : _ = some (some (.agg #[.string (S [])]), 1, 16)) (by kernel_rfl) (by decide) .tc rfl rfl (fun w hS => by (exact hS.os)) (by rfl) (by refine ⟨?_, ?_, ?_, ?_⟩ <;> omega) (by (simp [Value.oneCell']; done))) ?_
  rintro ⟨o19, c19, s19⟩
  refine WL.pu ?_
  intro hg19; (try dsimp only at hg19 ⊢)
  refine Ka rfl (Nn (Xd (Xa (Cg (Kq rfl (Rz rfl rfl rfl (by omega)) (Km rfl (Nn ?_)))))))
  refine Lx ((i + 1, o19, c19, s19)) (by (try dsimp only); omega) (S2 rfl rfl) (by refine (Sc ?_ (Sc ?_ (S0 _))) <;> (rfl)) ?_ (by exact fun w h => by rw [take_succ_getD hi3, show vrs ([x, y, z].take i ++ [[x, y, z].getD i default]) = vrs ([x, y, z].take i) ++ vrC ([x, y, z].getD i default) by simp]; exact st_sub _ h)
  (try dsimp only)
  exact ⟨hil, by omega⟩
 ·(try simp only [sB] at hc12)
  refine Cx (Xc (Xc (Xe ?_)))
  obtain rfl : i = n := by omega
  refine Xa (Cs (Km rfl (Ka rfl (Nt (Ce ?_)))))
  exact Rn rfl (.tmp rfl .nil) fun w' hS => ⟨⟨o, cp, sp⟩, rfl, hcp, hS.sub (List.Sublist.refl _) (fun _ h => by cases h)⟩
theorem iceq_c {gr : Int} {t : Bs} {l : List (Bs × Int)} {a : Option Addr} {c : Nat} {w : World} {ok : Nat → Prop} (hF1 : (Fact.sl a (l.flatMap fun p => [.string (S p.1), .int .i64 p.2])).holds ok w) (hl : l.length ≤ 1000) :
  Calls Tryz.prog 139 #[.int .i64 gr, .string (S t), .slice a l.length c] w fun e w' => ∃ gx : QA, e = .returned (.agg (qaC gx).toArray) ∧ (gx.1 = (gr, t, l.map fun p => trm p.1 p.2)) ∧ Below w.heap.size w w' ∧ ∀ x ∈ ([qaF gx] : List Fact), x.holds (fun b => w.heap.size ≤ b) w' := by
 refine En [Fact.sl a (l.flatMap fun p => [.string (S p.1), .int .i64 p.2])] [(0, .int .i64 gr), (1, .string (S t)), (2, .slice a l.length c)] Tryz.func139 rfl Tryz.ntmps139 rfl (Ac rfl (Ac rfl (Ac rfl (An _)))) (Fc (fact_any hF1) Fn) ?_
 refine Cs ?_
 refine Kh rfl (Oz [.int .i64 0, .string (S []), .slice none 0 0] rfl) ?_
 intro b6
 refine Nt (Cs (Km rfl (Km rfl (Kq rfl (Kb [[.int .i64 0], [.string (S [])], [.slice none 0 0]] rfl rfl) ?_))))
 refine Kh rfl (Oz [.int .i64 0, .string (S []), .slice none 0 0] rfl) ?_
 intro b7
 refine Nu rfl rfl (Sa rfl rfl rfl .tc) ?_
 refine Nt (Cq (Cs (Km rfl (Kq rfl (rd_len rfl rfl u210) (Km rfl (Nt (Cb ?_)))))))
 refine Lo (σ := Nat × (Option Nat) × Nat × (List Value)) [(6, _), (7, _), (13, _), (14, _)] (fun gq => [(15, .int .i64 (gq.1 : Int))]) (fun gq => gq.1 ≤ l.length ∧ gq.2.2.1 * 4 = gq.1 * 4 + gq.2.2.2.length) (fun gq => l.length - gq.1) (fun gq => [⟨gq.2.1, tms ((l.take gq.1).map fun p => trm p.1 p.2) ++ gq.2.2.2, 119⟩, ⟨some b7, [.int .i64 gr, .string (S t), .slice (gq.2.1.map fun b => ⟨b, 0, none⟩) gq.1 gq.2.2.1], 123⟩, ⟨some b6, [.int .i64 0, .string (S []), .slice none 0 0], 123⟩]) (fun gq => [Fact.sl a (l.flatMap fun p => [.string (S p.1), .int .i64 p.2])]) (0, none, 0, []) (S4 rfl rfl rfl rfl) (S1 rfl) (by (try dsimp only); exact ⟨Nat.zero_le _, rfl⟩) (by exact fun w h => h.nil _) ?_
 rintro ⟨i, o, cp, sp⟩ hinv1; (try dsimp only at hinv1 ⊢)
 obtain ⟨hi, hcp⟩ := hinv1
 refine Cs (Kq rfl (rd_lss rfl rfl rfl) (Nt (Cq ?_)))
 refine Cd rfl (fun hc16 => ?_) (fun hc16 => ?_)
 ·(try simp only [sB] at hc16)
  have hil : i < l.length := by omega
  have hln : (tms ((l.take i).map fun p => trm p.1 p.2)).length = i * 4 := by rw [flatMap_len _ _ 4 (fun _ => rfl), List.length_map, List.length_take]; omega
  refine Ck (Xa (Cq (Cb (Cs ?_))))
  refine Kq rfl (Ia rfl rfl rfl u210 (by kernel_rfl : _ = some 2) (by omega) (by (rw [flatMap_len _ _ 2 (fun _ => rfl)]; omega))) ?_
  refine Kq rfl (ldma _ rfl rfl u180 rfl (by kernel_rfl : _ = some 2) (fun _ => rfl) (by decide) rfl (by assumption)) ?_
  refine Kh rfl (Oz [.string (S []), .int .i64 0] rfl) ?_
  intro b9
  refine Nu rfl rfl (Sa rfl rfl rfl .tc) ?_
  refine Nt ?_
  refine WC.free (K := [⟨some b9, [.string (S (l.getD i default).1), .int .i64 (l.getD i default).2], 180⟩, ⟨some b7, [.int .i64 gr, .string (S t), .slice (o.map fun b => ⟨b, 0, none⟩) i cp], 123⟩]) (fs0 := []) [6, 0, 1, 2, 3, 4, 5, 7, 8, 9, 10] [11] [0, 0, 0, 0, 0, 0, 1, 0, 3, 1, 0, 2] (by kernel_rfl) (by kernel_rfl) rfl ?_
  refine Jv rfl rfl rfl rfl rfl (fun ext => Oc rfl rfl (Kv fun w hS => zof_c (n := 1) (by omega) (by omega))) ?_
  refine Kj rfl (Fa (q := 2) rfl rfl u123 rfl rfl) (Kj rfl (Ld rfl rfl .tc u121) ?_)
  refine Kj rfl (Fa (q := 0) rfl rfl u180 rfl rfl) (Kj rfl (Ld rfl rfl .tc u22) ?_)
  refine Kj rfl (Fa (q := 1) rfl rfl u180 rfl rfl) (Kj rfl (Ld rfl rfl .tc u3) ?_)
  refine Kj rfl (Kb [[.string (S [])], [.int .i64 0], [.bool false, .string (S [])]] rfl rfl) ?_
  refine Jf rfl rfl rfl rfl rfl (fr_bsN rfl rfl u121 (by kernel_rfl : _ = some (some (.agg #[.string (S []), .int .i64 0, .bool false, .string (S [])]), 4, 48)) (by kernel_rfl) (by decide) rfl rfl (by (simp [Value.cells]; done)) (by (exact cells_one _)) (by decide)) ?_
  intro b27
  refine Jg rfl rfl rfl rfl rfl (appgNJ rfl u121 (by kernel_rfl : _ = some (some (.agg #[.string (S []), .int .i64 0, .bool false, .string (S [])]), 4, 48)) (by kernel_rfl) (by decide) .tc rfl rfl (fun ext w hS => by (exact hS.os)) (by rfl) (by refine ⟨?_, ?_, ?_, ?_⟩ <;> first | exact hln | omega) (by (simp [Value.oneCell']; done))) ?_
  rintro ⟨o28, c28, s28⟩ hg28; (try dsimp only at hg28 ⊢)
  refine Kj rfl (Fa (q := 2) rfl rfl u123 rfl rfl) ?_
  refine WJ.nil ?_
  refine Ng rfl rfl (st rfl rfl rfl .tc (by kernel_rfl) rfl ?_ (by (simp only [List.set_cons_zero, List.set_cons_succ]; rfl))) ?_
  ·(simp; done)
  intro _
  refine Nn (Xd (Xa (Cg (Kq rfl (Rz rfl rfl rfl (by omega)) (Km rfl (Nn ?_))))))
  refine Lx ((i + 1, o28, c28, s28)) (by (try dsimp only); omega) (S4 rfl rfl rfl rfl) (by refine (Sc ?_ (S0 _)) <;> (rfl)) ?_ (by exact fun w h => by rw [take_succ_getD hil, List.map_append, show tms ((l.take i).map (fun p => trm p.1 p.2) ++ [l.getD i default].map (fun p => trm p.1 p.2)) = tms ((l.take i).map fun p => trm p.1 p.2) ++ tmC (trm (l.getD i default).1 (l.getD i default).2) by simp]; exact st_sub _ h)
  (try dsimp only)
  exact ⟨hil, by omega⟩
 ·(try simp only [sB] at hc16)
  refine Cx (Xc (Xc (Xe ?_)))
  obtain rfl : i = l.length := by omega
  rw [List.take_length]
  refine Xa (Cs ?_)
  refine Kq rfl (lda rfl rfl .tc u123 rfl ?_) ?_
  ·kernel_rfl
  refine Nu rfl rfl (Sa rfl rfl rfl .tc) ?_
  refine Nt (Ce ?_)
  exact Rn rfl (.agg rfl .tc u123 rfl (by kernel_rfl) .nil) fun w' hS => ⟨((gr, t, l.map fun p => trm p.1 p.2), o.map (fun b => ⟨b, 0, none⟩), cp), by simp only [qaC, List.length_map]; rfl, rfl, hS.below, Fc (f := Fact.sl (o.map fun b => ⟨b, 0, none⟩) (tms (l.map fun p : Bs × Int => trm p.1 p.2))) hS.ocf Fn⟩
abbrev fnV (p : Nat × Array Value) : Value := .func (.func p.1) #[] p.2
theorem fncallN (cs : Array Value) : (#[] : Array Value) ++ ([] : List Value).toArray ++ cs = cs := by simp
theorem errL_get {rs : List Int} {i : Nat} (hi : i < rs.length) (h0 : ∀ j, j < i → rs.getD j default = 0) (h1 : rs.getD i default ≠ 0) : errL rs = rs.getD i default := by
 have := errL_at (l := rs) (f := id) hi (fun x hx => by
  obtain ⟨j, hj, rfl⟩ := List.mem_take_iff_getElem.1 hx
  have := h0 j (by omega); rw [List.getD_eq_getElem?_getD, List.getElem?_eq_getElem (by omega)] at this; exact this) h1
 simpa using this
theorem errL_all {rs : List Int} (h0 : ∀ j, j < rs.length → rs.getD j default = 0) : errL rs = 0 := by
 refine errL_zero.2 fun x hx => ?_
 obtain ⟨j, hj, rfl⟩ := List.mem_iff_getElem.1 hx
 have := h0 j hj; rw [List.getD_eq_getElem?_getD, List.getElem?_eq_getElem hj] at this; exact this
theorem first_c {l : List (Nat × Array Value)} {rs : List Int} {a : Option Addr} {c : Nat} {ow : Nat → List Ent} {ok : Nat → Prop} {w0 : World} {fs : List Fact} {w : World} (hS0 : St ok w0 (ow 0) (Fact.sl a (l.map fnV) :: fs) w) (hl : l.length ≤ 1000) (hrs : rs.length = l.length) (hgo : ∀ i, i < l.length → goes Tryz.prog (l.getD i default).1 = true) (hfn : ∀ i, i < l.length → (∀ j, j < i → rs.getD j default = 0) → ∀ w', St ok w0 (ow i) (Fact.sl a (l.map fnV) :: fs) w' → Calls Tryz.prog (l.getD i default).1 (l.getD i default).2 w' fun e w2 => e = .returned (.int .i64 (rs.getD i default)) ∧ St ok w0 (ow (i + 1)) (Fact.sl a (l.map fnV) :: fs) w2) :
  Calls Tryz.prog 131 #[.slice a l.length c] w fun e w' => e = .returned (.int .i64 (errL rs)) ∧ ∃ n, (errL rs = 0 → n = l.length) ∧ St ok w0 (ow n) (Fact.sl a (l.map fnV) :: fs) w' := by
 refine enter (S := St ok w0 (ow 0) (Fact.sl a (l.map fnV) :: fs)) (L := [(0, .slice a l.length c)]) Tryz.func131 rfl Tryz.ntmps131 rfl (Ac rfl (An _)) hS0 ?_
 refine Cs (Ka rfl (Nt (Cq (Cs (Km rfl (Kq rfl (rd_len rfl rfl u209) (Km rfl (Nt (Cb ?_)))))))))
 refine Lo (σ := Nat) [(6, _), (7, _)] (fun gq => [(8, .int .i64 (gq : Int))]) (fun gq => gq ≤ l.length ∧ ∀ j, j < gq → rs.getD j default = 0) (fun gq => l.length - gq) (fun gq => (ow gq)) (fun gq => (Fact.sl a (l.map fnV) :: fs)) (0) (S2 rfl rfl) (S1 rfl) (by (try dsimp only); exact ⟨Nat.zero_le _, fun _ h => absurd h (Nat.not_lt_zero _)⟩) (by exact fun w h => h) ?_
 rintro i hinv1; (try dsimp only at hinv1 ⊢)
 obtain ⟨hi, hok⟩ := hinv1
 refine Cs (Kq rfl (rd_lss rfl rfl rfl) (Nt (Cq ?_)))
 refine Cd rfl (fun hc9 => ?_) (fun hc9 => ?_)
 ·(try simp only [sB] at hc9)
  have hil : i < l.length := by omega
  refine Ck (Xa (Cq (Cb (Cs ?_))))
  refine Kq rfl (Ib rfl rfl rfl u209 (by omega) (by (rw [List.length_map]; omega))) ?_
  refine Kq rfl (ldm rfl rfl u173 rfl (by assumption)) ?_
  refine Ka rfl (Nt (Cs (Km rfl ?_)))
  refine Kh rfl (og_callv rfl rfl rfl (hgo i hil) (fncallN _) (keep_st fun w hS => hfn i hil hok w hS)) ?_
  intro g13
  refine Ka rfl (Nt (Cs (Km rfl (Kq rfl (rd_neq rfl rfl rfl) (Nt ?_)))))
  refine Cd rfl (fun hc15 => ?_) (fun hc15 => ?_)
  ·(try simp only [sB] at hc15)
   refine Cs (Km rfl (Ka rfl (Nt (Ce (Xf (Xb (Xb (Xf (Xb ?_)))))))))
   exact Rn rfl (.tmp rfl .nil) fun w' hS => (by exact ⟨by rw [errL_get (by omega) hok hc15]; rfl, i + 1, fun h => absurd h (by rw [errL_get (by omega) hok hc15]; exact hc15), hS⟩)
  ·(try simp only [sB] at hc15)
   refine Ck (Xd (Xa (Cg (Kq rfl (Rz rfl rfl rfl (by omega)) (Km rfl (Nn ?_))))))
   refine Lx (i + 1) (by (try dsimp only); omega) (S2 rfl rfl) (by refine (Sc ?_ (S0 _)) <;> (rfl)) ?_ (by exact fun w h => h)
   (try dsimp only)
   exact ⟨hil, fun j hj => by rcases Nat.lt_succ_iff_lt_or_eq.1 hj with h | h; exact hok j h; subst h; simpa using hc15⟩
 ·(try simp only [sB] at hc9)
  refine Cx (Xc (Xc (Xe ?_)))
  obtain rfl : i = l.length := by omega
  refine Xa (Cs (Ka rfl (Nt (Ce ?_))))
  exact Rn rfl (.tmp rfl .nil) fun w' hS => (by exact ⟨by rw [errL_all (fun j hj => hok j (by omega))]; rfl, l.length, fun _ => rfl, hS⟩)
theorem powM_ok {x : Bs} {z : Zs} {m : Bs} (hx : okN x) (hz : okZ z) (hm : okN m) (hm0 : m ≠ []) (hg : Nat.gcd (val x) (val m) = 1) : powM x z m = (canon (powI (val m) (val x) (zv z)), 0) := by
 rw [powM, if_pos ⟨hx, hz, hm⟩, if_neg hm0, powI, zv_abs]
 by_cases h : z.1 = true
 ·rw [if_pos h, if_pos hg, if_pos ((okZ_neg hz).2 h)]
 ·rw [if_neg h, if_neg (fun h2 => h ((okZ_neg hz).1 h2))]
theorem rraw_c {g : Gp} {x : Bs} {z : Zs} {w : World} (hm8 : g.1.length ≤ 8) :
  Cw 114 #[gV g, .string (S x), zV z] w (.string (S (powM x z g.1).1)) := by
 refine En [] [(0, gV g), (1, .string (S x)), (2, zV z)] Tryz.func114 rfl Tryz.ntmps114 rfl (Ac rfl (Ac rfl (Ac rfl (An _)))) Fn ?_
 refine Cs ?_
 refine Kh rfl (Oy rfl rfl) ?_
 intro b3
 refine Kh rfl (Oy rfl rfl) ?_
 intro b5
 refine Ka rfl (Nt (Cs (Km rfl ?_)))
 refine Kq rfl (lda rfl rfl .tc u64 rfl ?_) ?_
 ·kernel_rfl
 refine Kq rfl (Fa (q := 0) rfl rfl u24 rfl rfl) (Kq rfl (Ld rfl rfl .tc u22) ?_)
 refine Ku rfl (Oc rfl rfl (Kv fun w hS => rpower_c (a := x) (x := z) (m := g.1) (by assumption))) ?_
 refine Km rfl (Kq rfl (Re rfl rfl rfl) (Kq rfl (Re rfl rfl rfl) (Ka rfl (Ka rfl (Nt (Cs (Km rfl (Ka rfl (Nt (Ce ?_))))))))))
 exact R1 rfl rfl (by rfl)
theorem rproduct_c {g : Gp} {l : List Bs} {es : List Zs} {a b : Option Addr} {c d : Nat} {w : World} {ok : Nat → Prop} (hF1 : (Fact.sl a (strs l)).holds ok w) (hF2 : (Fact.sl b (ints es)).holds ok w) (hl : l.length ≤ 100000) (hes : es.length ≤ 100000) (hm8 : g.1.length ≤ 8) :
  Cw 60 #[gV g, .slice a l.length c, .slice b es.length d] w (NE (prodS g l es)) := by
 have hnz : ∀ x : Int, chkP g l es (decide (l.length = es.length)) = x → x ≠ 0 → prodS g l es = ([], x) := fun x h h0 => by rw [prodS, if_neg (by rw [h]; exact h0), h]
 refine En [Fact.sl a (strs l), Fact.sl b (ints es)] [(0, gV g), (1, .slice a l.length c), (2, .slice b es.length d)] Tryz.func60 rfl Tryz.ntmps60 rfl (Ac rfl (Ac rfl (Ac rfl (An _)))) (Fc (fact_any hF1) (Fc (fact_any hF2) Fn)) ?_
 refine Cs ?_
 refine Kh rfl (Oy rfl rfl) ?_
 intro b3
 refine Ka rfl (Ka rfl (Nt (Cq (Cs (Ka rfl (Nt (Cb ?_)))))))
 refine Lp (σ := Nat) [(1, _), (2, _), (3, _)] (fun gq => [(8, .int .i64 (gq : Int))]) (fun gq => gq ≤ l.length ∧ ∀ x ∈ l.take gq, okN x) (fun gq => l.length - gq) (0) (S3 rfl rfl rfl) (S1 rfl) (by (try dsimp only); exact ⟨Nat.zero_le _, by simp⟩) ?_
 rintro i hinv1; (try dsimp only at hinv1 ⊢)
 obtain ⟨hi, hok⟩ := hinv1
 refine Cq (Cs (Km rfl (Km rfl (Kq rfl (rd_len rfl rfl u31) (Kq rfl (rd_lss rfl rfl rfl) (Nt ?_))))))
 refine Cd rfl (fun hc17 => ?_) (fun hc17 => ?_)
 ·(try simp only [sB] at hc17)
  have hil : i < l.length := by omega
  refine Ck (Xa (Cq (Cb (Cs (Km rfl (Km rfl ?_))))))
  refine Kq rfl (Ib rfl rfl rfl u31 (by omega) (by (rw [List.length_map]; omega))) ?_
  refine Kq rfl (ldm rfl rfl u22 rfl (by assumption)) ?_
  refine Ku rfl (Oc rfl rfl (Kv fun w hS => rvalid_c (a := l.getD i default))) ?_
  refine Kq rfl (Rt rfl rfl) (Nt ?_)
  refine Cd rfl (fun hc25 => ?_) (fun hc25 => ?_)
  ·(try simp only [sB] at hc25)
   refine Cs (Ka rfl (Ka rfl (Nt (Ce (Xf (Xb (Xb (Xf (Xb ?_)))))))))
   exact R2 rfl rfl rfl (by rw [hnz 3 (by rw [chkP, if_pos (fun h => absurd (h _ (getD_mem _ _ hil)) (by simpa using hc25))]) (by decide)]; rfl)
  ·(try simp only [sB] at hc25)
   refine Ck (Xd (Xa (Cg (Km rfl (Kq rfl (Rz rfl rfl rfl (by omega)) (Ka rfl (Nn ?_)))))))
   refine Ly (i + 1) (by (try dsimp only); omega) (S3 rfl rfl rfl) (by refine (Sc ?_ (S0 _)) <;> (rfl)) ?_ (by (exact fun _ h => h))
   (try dsimp only)
   exact ⟨hil, all_take hil hok (by simpa using hc25)⟩
 ·(try simp only [sB] at hc17)
  refine Cx (Xc (Xc (Xe ?_)))
  obtain rfl : i = l.length := by omega
  rw [List.take_length] at hok
  refine Xa (Cq (Cs (Ka rfl (Nt (Cb ?_)))))
  refine Lp (σ := Nat) [(1, _), (2, _), (3, _)] (fun gq => [(9, .int .i64 (gq : Int))]) (fun gq => gq ≤ es.length ∧ ∀ x ∈ es.take gq, okZ x) (fun gq => es.length - gq) (0) (S3 rfl rfl rfl) (S1 rfl) (by (try dsimp only); exact ⟨Nat.zero_le _, by simp⟩) ?_
  rintro k hinv2; (try dsimp only at hinv2 ⊢)
  obtain ⟨hk, hokz⟩ := hinv2
  refine Cq (Cs (Km rfl (Km rfl (Kq rfl (rd_len rfl rfl u71) (Kq rfl (rd_lss rfl rfl rfl) (Nt ?_))))))
  refine Cd rfl (fun hc29 => ?_) (fun hc29 => ?_)
  ·(try simp only [sB] at hc29)
   have hkl : k < es.length := by omega
   refine Ck (Xa (Cq (Cb (Cs (Km rfl (Km rfl ?_))))))
   refine Kq rfl (Ia rfl rfl rfl u71 (by kernel_rfl : _ = some 2) (by omega) (by (rw [flatMap_len _ _ 2 (fun _ => rfl)]; omega))) ?_
   refine Kq rfl (ldma _ rfl rfl u64 rfl (by kernel_rfl : _ = some 2) (fun _ => rfl) (by decide) rfl (by assumption)) ?_
   refine Ku rfl (Oc rfl rfl (Kv fun w hS => rzvalid_c (x := es.getD k default))) ?_
   refine Kq rfl (Rt rfl rfl) (Nt ?_)
   refine Cd rfl (fun hc37 => ?_) (fun hc37 => ?_)
   ·(try simp only [sB] at hc37)
    refine Cs (Ka rfl (Ka rfl (Nt (Ce (Xf (Xb (Xb (Xf (Xb ?_)))))))))
    exact R2 rfl rfl rfl (by rw [hnz 3 (by rw [chkP, if_neg (fun h => h hok), if_pos (fun h => absurd (h _ (getD_mem _ _ hkl)) (by simpa using hc37))]) (by decide)]; rfl)
   ·(try simp only [sB] at hc37)
    refine Ck (Xd (Xa (Cg (Km rfl (Kq rfl (Rz rfl rfl rfl (by omega)) (Ka rfl (Nn ?_)))))))
    refine Ly (k + 1) (by (try dsimp only); omega) (S3 rfl rfl rfl) (by refine (Sc ?_ (S0 _)) <;> (rfl)) ?_ (by (exact fun _ h => h))
    (try dsimp only)
    exact ⟨hkl, all_take hkl hokz (by simpa using hc37)⟩
  ·(try simp only [sB] at hc29)
   refine Cx (Xc (Xc (Xe ?_)))
   obtain rfl : k = es.length := by omega
   rw [List.take_length] at hokz
   refine Xa (Cq (Cs ?_))
   refine Kq rfl (lda rfl rfl .tc u24 rfl ?_) ?_
   ·kernel_rfl
   refine Ku rfl (Oc rfl rfl (Kv fun w hS => rgcheck_c (g := g))) ?_
   refine Ka rfl (Nt (Cs (Km rfl (Kq rfl (rd_neq rfl rfl rfl) (Nt ?_)))))
   refine Cd rfl (fun hc41 => ?_) (fun hc41 => ?_)
   ·(try simp only [sB] at hc41)
    have hgn : chkG g ≠ 0 := by simpa using hc41
    refine Cs (Km rfl (Ka rfl (Ka rfl (Nt (Ce (Xb ?_))))))
    exact R2 rfl rfl rfl (by rw [hnz (chkG g) (by rw [chkP, if_neg (fun h => h hok), if_neg (fun h => h hokz), if_pos hgn]) hgn]; rfl)
   ·(try simp only [sB] at hc41)
    have hg : chkG g = 0 := by simpa using hc41
    obtain ⟨hm, hq, hm2, _⟩ := chkG_ok hg
    have hm0 : g.1 ≠ [] := fun h => by rw [h] at hm2; exact absurd hm2 (by decide)
    have hp := vpos hm hm0
    have hm64 := val_8 hm8
    refine Ck (Xa (Cq (Cs (Km rfl (Kq rfl (rd_len rfl rfl u31) (Km rfl (Kq rfl (rd_len rfl rfl u71) (Kq rfl (rd_neq rfl rfl rfl) ?_))))))))
    refine Ns 47 rfl (v' := .bool (decide (l.length ≠ es.length))) (congrArg Value.bool (by simp; omega)) ?_
    refine Nt ?_
    refine Cd rfl (fun hc47 => ?_) (fun hc47 => ?_)
    ·(try simp only [sB] at hc47)
     refine Cs (Ka rfl (Ka rfl (Nt (Ce (Xb ?_)))))
     exact R2 rfl rfl rfl (by rw [hnz 6 (by rw [chkP, if_neg (fun h => h hok), if_neg (fun h => h hokz), if_neg (fun h => h hg), if_pos (decide_eq_false hc47)]) (by decide)]; rfl)
    ·(try simp only [sB] at hc47)
     have hlen : l.length = es.length := by omega
     refine Ck (Xa (Cq (Cs (Ka rfl (Nt (Cb ?_))))))
     refine Lp (σ := Nat) [(1, _), (2, _), (3, _)] (fun gq => [(11, .int .i64 (gq : Int))]) (fun gq => gq ≤ l.length ∧ ∀ x ∈ l.take gq, elG g x) (fun gq => l.length - gq) (0) (S3 rfl rfl rfl) (S1 rfl) (by (try dsimp only); exact ⟨Nat.zero_le _, by simp⟩) ?_
     rintro i3 hinv3; (try dsimp only at hinv3 ⊢)
     obtain ⟨hi3, hel⟩ := hinv3
     refine Cq (Cs (Km rfl (Km rfl (Kq rfl (rd_len rfl rfl u31) (Kq rfl (rd_lss rfl rfl rfl) (Nt ?_))))))
     refine Cd rfl (fun hc51 => ?_) (fun hc51 => ?_)
     ·(try simp only [sB] at hc51)
      have hil3 : i3 < l.length := by omega
      refine Ck (Xa (Cq (Cb (Cq ?_))))
      refine Cf [0, 1, 2, 3, 4, 5, 6] [] [0, 0, 0, 0, 0, 1, 0] (by kernel_rfl) (by kernel_rfl) rfl ?_
      refine Kj rfl (lda rfl rfl .tc u24 rfl ?_) ?_
      ·kernel_rfl
      refine Kj rfl (Rm rfl rfl) (Kj rfl (Rm rfl rfl) ?_)
      refine Kj rfl (Ib rfl rfl rfl u31 (by omega) (by (rw [List.length_map]; omega))) ?_
      refine Kj rfl (ldm rfl rfl u22 rfl (by assumption)) ?_
      refine Jv rfl rfl rfl rfl rfl (fun ext => Oc rfl rfl (Kv fun w hS => rghas0_c (g := g) (x := l.getD i3 default) (by exact hg) (by exact hok _ (getD_mem _ _ hil3)) (by exact hm8))) ?_
      refine Kj rfl (Rt rfl rfl) ?_
      refine WJ.nil ?_
      refine Nt ?_
      refine Cd rfl (fun hc60 => ?_) (fun hc60 => ?_)
      ·(try simp only [sB] at hc60)
       refine Cs (Ka rfl (Ka rfl (Nt (Ce (Xf (Xb (Xb (Xf (Xb ?_)))))))))
       exact R2 rfl rfl rfl (by rw [hnz 13 (by rw [chkP, if_neg (fun h => h hok), if_neg (fun h => h hokz), if_neg (fun h => h hg), if_neg (by simp [hlen]), if_pos (fun h => absurd (h _ (getD_mem _ _ hil3)) (by simpa using hc60))]) (by decide)]; rfl)
      ·(try simp only [sB] at hc60)
       refine Ck (Xd (Xa (Cg (Km rfl (Kq rfl (Rz rfl rfl rfl (by omega)) (Ka rfl (Nn ?_)))))))
       refine Ly (i3 + 1) (by (try dsimp only); omega) (S3 rfl rfl rfl) (by refine (Sc ?_ (S0 _)) <;> (rfl)) ?_ (by (exact fun _ h => h))
       (try dsimp only)
       exact ⟨hil3, all_take hil3 hel (by simpa using hc60)⟩
     ·(try simp only [sB] at hc51)
      refine Cx (Xc (Xc (Xe ?_)))
      obtain rfl : i3 = l.length := by omega
      rw [List.take_length] at hel
      have h0 : chkP g l es (decide (l.length = es.length)) = 0 := by rw [chkP, if_neg (fun h => h hok), if_neg (fun h => h hokz), if_neg (fun h => h hg), if_neg (by simp [hlen]), if_neg (fun h => h hel)]
      obtain ⟨Z, hZ⟩ : ∃ Z, Z = l.zip es := ⟨_, rfl⟩
      have hZl : Z.length = l.length := by rw [hZ]; simp; omega
      have hr : prodS g l es = (canon (prodL (fun p => powI (val g.1) (val p.1) (zv p.2)) Z % val g.1), 0) := by rw [prodS, if_pos h0, hZ]
      have hmk : ∀ k, okN (canon (k % val g.1)) ∧ (canon (k % val g.1)).length ≤ 8 := fun k => lt_len (Nat.mod_lt _ hp) hm8
      refine Xa (Cs (Ka rfl ?_))
      refine Ns 12 rfl (v' := .string (S (canon (prodL (fun p => powI (val g.1) (val p.1) (zv p.2)) (Z.take 0) % val g.1)))) (congrArg (fun l => Value.string (S l)) (by rw [List.take_zero, prodL, Nat.mod_eq_of_lt (by omega), one_canon])) ?_
      refine Nt (Cq (Cs (Ka rfl (Nt (Cb ?_)))))
      refine Lp (σ := Nat) [(1, _), (2, _), (3, _)] (fun gq => [(12, .string (S (canon (prodL (fun p => powI (val g.1) (val p.1) (zv p.2)) (Z.take gq) % val g.1)))), (13, .int .i64 (gq : Int))]) (fun gq => gq ≤ l.length) (fun gq => l.length - gq) (0) (S3 rfl rfl rfl) (S2 rfl rfl) (by (try dsimp only); omega) ?_
      rintro i4 hinv4; (try dsimp only at hinv4 ⊢)
      obtain hi4 := hinv4
      refine Cq (Cs (Km rfl (Km rfl (Kq rfl (rd_len rfl rfl u31) (Kq rfl (rd_lss rfl rfl rfl) (Nt ?_))))))
      refine Cd rfl (fun hc64 => ?_) (fun hc64 => ?_)
      ·(try simp only [sB] at hc64)
       have hil4 : i4 < l.length := by omega
       have hx := hel _ (getD_mem l i4 hil4)
       have hz := hokz _ (getD_mem es i4 (by omega))
       have hpw := powM_ok hx.1 hz hm hm0 (elG_gcd hg hx)
       have hpl : powI (val g.1) (val (l.getD i4 default)) (zv (es.getD i4 default)) < val g.1 := Nat.mod_lt _ hp
       have hpk := lt_len hpl hm8
       have hsu := prodL_succ (fun p => powI (val g.1) (val p.1) (zv p.2)) Z i4 (by omega)
       rw [show Z.getD i4 default = (l.getD i4 default, es.getD i4 default) by rw [hZ]; exact getD_zip hil4 (by omega)] at hsu
       have hmm := mulM_ok (hmk (prodL (fun p => powI (val g.1) (val p.1) (zv p.2)) (Z.take i4))).1 hpk.1 hm hm0
       rw [val_canon, val_canon, mml, ← hsu] at hmm
       refine Ck (Xa (Cq (Cb ?_)))
       refine Cf [1, 2, 3, 4, 5, 6, 7, 8, 9, 10, 0, 11, 12, 13, 14, 15, 16, 17] [] [0, 0, 0, 0, 0, 0, 0, 0, 0, 0, 1, 0, 0, 1, 0, 0, 0, 0] (by kernel_rfl) (by kernel_rfl) rfl ?_
       refine Kj rfl (lda rfl rfl .tc u24 rfl ?_) ?_
       ·kernel_rfl
       refine Kj rfl (Rm rfl rfl) (Kj rfl (Rm rfl rfl) ?_)
       refine Kj rfl (Ib rfl rfl rfl u31 (by omega) (by (rw [List.length_map]; omega))) ?_
       refine Kj rfl (ldm rfl rfl u22 rfl (by assumption)) ?_
       refine Kj rfl (Rm rfl rfl) (Kj rfl (Rm rfl rfl) ?_)
       refine Kj rfl (Ia rfl rfl rfl u71 (by kernel_rfl : _ = some 2) (by omega) (by (rw [flatMap_len _ _ 2 (fun _ => rfl)]; omega))) ?_
       refine Kj rfl (ldma _ rfl rfl u64 rfl (by kernel_rfl : _ = some 2) (fun _ => rfl) (by decide) rfl (by omega)) ?_
       refine Jv rfl rfl rfl rfl rfl (fun ext => Oc rfl rfl (Kv fun w hS => (by have := rraw_c (w := w) (g := g) (x := l.getD i4 default) (z := es.getD i4 default) hm8; rw [hpw] at this; exact this))) ?_
       refine Kj rfl (Rm rfl rfl) (Kj rfl (Fa (q := 0) rfl rfl u24 rfl rfl) (Kj rfl (Ld rfl rfl .tc u22) ?_))
       refine Jv rfl rfl rfl rfl rfl (fun ext => Oc rfl rfl (Kv fun w hS => (by have := rmmul_c (w := w) (a := canon (prodL (fun p => powI (val g.1) (val p.1) (zv p.2)) (Z.take i4) % val g.1)) (b := canon (powI (val g.1) (val (l.getD i4 default)) (zv (es.getD i4 default)))) (m := g.1) hm8; rw [hmm] at this; exact this))) ?_
       refine Kj rfl (Rm rfl rfl) (Kj rfl (Re rfl rfl rfl) (Kj rfl (Re rfl rfl rfl) (Kj rfl (Ra rfl rfl) ?_)))
       refine WJ.nil ?_
       refine Nn (Xd (Xa (Cg (Km rfl (Kq rfl (Rz rfl rfl rfl (by omega)) (Ka rfl (Nn ?_)))))))
       refine Ly (i4 + 1) (by (try dsimp only); omega) (S3 rfl rfl rfl) (by refine (Sc ?_ (Sc ?_ (S0 _))) <;> (rfl)) ?_ (by (exact fun _ h => h))
       (try dsimp only)
       omega
      ·(try simp only [sB] at hc64)
       refine Cx (Xc (Xc (Xe ?_)))
       obtain rfl : i4 = l.length := by omega
       rw [List.take_of_length_le (Nat.le_of_eq hZl)]
       refine Xa (Cs (Km rfl (Ka rfl (Ka rfl (Nt (Ce ?_))))))
       exact R2 rfl rfl rfl (by rw [hr]; rfl)
end Go.Proofs.YtmkghgoibnncbaaGreatDoor
