/-
  Parts of the walk: Lin2 Lin3 Lin4 Lin5 Lin6 Nrs Egp.
-/
import Derived.Test.YthkmpjobfdeoaaaGreatDoorI18
namespace Go.Proofs.YthkmpjobfdeoaaaGreatDoor
open Go.RowKit
set_option linter.unusedSimpArgs false
set_option linter.unusedVariables false
set_option maxHeartbeats 600000
set_option maxRecDepth 20000
theorem fact_keep {f : Fact} {w w' : World} (h : f.holds (fun _ => True) w) (hb : Below w.heap.size w w') : f.holds (fun _ => True) w' := f.stable h hb.size fun b hlt _ => hb.block b hlt
theorem fnc0 (v : Value) : #[v] ++ (#[] : Array Value) = #[v] := by simp
theorem fnc1 (v u : Value) : #[v] ++ (#[u] : Array Value) = #[v, u] := by simp
theorem st_addm {ok : Nat → Prop} {w0 w : World} {own : List Ent} {fs more : List Fact} {f : Fact} (h : St ok w0 own fs w) [hm : HasM fs more] (hf : f ∈ more) : St ok w0 own (f :: fs) w := h.add (h.fact f (hm.h f hf))
theorem lorder_c {s : SA} {w : World} {ok : Nat → Prop} (hF1 : (Fact.sl s.ga (gps s.gs)).holds ok w) (hs : saL s) :
  Cw 123 #[saV s] w (.string (S (ordS s.gs))) := by
 obtain ⟨hlg, hlv, hle, hlt, hlm⟩ := hs
 refine En [Fact.sl s.ga (gps s.gs)] [(0, saV s)] Tryz.func123 rfl Tryz.ntmps123 rfl (Ac rfl (An _)) (Fc (fact_any hF1) Fn) ?_
 refine Cs ?_
 refine Kh rfl (Oy rfl rfl) ?_
 intro b1
 refine Ka rfl (Nt (Cq (Cs (Kq rfl (Fa (q := 0) rfl rfl u42 rfl rfl) (Kq rfl (Ld rfl rfl .tc u38) ?_)))))
 refine Kq rfl (rd_len rfl rfl u38) (Km rfl (Nt (Cb ?_)))
 refine Lp (σ := Nat) [(6, _), (7, _)] (fun gq => [(8, .int .i64 (gq : Int))]) (fun gq => gq ≤ s.gs.length ∧ ∀ g ∈ s.gs.take gq, g.2 = []) (fun gq => s.gs.length - gq) (0) (S2 rfl rfl) (S1 rfl) (by (try dsimp only); exact ⟨Nat.zero_le _, by simp⟩) ?_
 rintro i hinv1; (try dsimp only at hinv1 ⊢)
 obtain ⟨hi, hok⟩ := hinv1
 refine Cs (Kq rfl (rd_lss rfl rfl rfl) (Nt (Cq ?_)))
 refine Cd rfl (fun hc9 => ?_) (fun hc9 => ?_)
 ·(try simp only [sB] at hc9)
  have hil : i < s.gs.length := by omega
  refine Ck (Xa (Cq (Cb (Cs ?_))))
  refine Kq rfl (Ia rfl rfl rfl u38 (by kernel_rfl : _ = some 2) (by omega) (by (rw [flatMap_len _ _ 2 (fun _ => rfl)]; omega))) ?_
  refine Kq rfl (ldma _ rfl rfl u26 rfl (by kernel_rfl : _ = some 2) (fun _ => rfl) (by decide) rfl (by assumption)) ?_
  refine Kh rfl (Oz [.string (S []), .string (S [])] rfl) ?_
  intro b4
  refine Nu rfl rfl (Sa rfl rfl rfl .tc) ?_
  refine Nt (Cs (Kq rfl (Fa (q := 1) rfl rfl u26 rfl rfl) (Kq rfl (Ld rfl rfl .tc u22) ?_)))
  refine Kq rfl (rd_sne rfl rfl rfl) (Nt ?_)
  refine Cd rfl (fun hc14 => ?_) (fun hc14 => ?_)
  ·(try simp only [sB] at hc14)
   refine Cs (Kq rfl (Fa (q := 1) rfl rfl u26 rfl rfl) (Kq rfl (Ld rfl rfl .tc u22) ?_))
   refine Ka rfl (Nt (Ce (Xf (Xb (Xb (Xf (Xb ?_)))))))
   exact R1 rfl rfl (by rw [ordS_at hil hok (by simpa using hc14)]; rfl)
  ·(try simp only [sB] at hc14)
   refine Ck (Xd (Xa (Cg (Kq rfl (Rz rfl rfl rfl (by omega)) (Km rfl (Nn ?_))))))
   refine Ly (i + 1) (by (try dsimp only); omega) (S2 rfl rfl) (by refine (Sc ?_ (S0 _)) <;> (rfl)) ?_ (by (exact st_sub))
   (try dsimp only)
   exact ⟨hil, all_take hil hok (by simpa using hc14)⟩
 ·(try simp only [sB] at hc9)
  refine Cx (Xc (Xc (Xe ?_)))
  obtain rfl : i = s.gs.length := by omega
  rw [List.take_length] at hok
  refine Xa (Cs (Ka rfl (Nt (Ce ?_))))
  exact R1 rfl rfl (by rw [ordS_nil hok]; rfl)
theorem form_c {s : SA} {w : World} {ok : Nat → Prop} (hF1 : (Fact.sl s.ga (gps s.gs)).holds ok w) (hF2 : (Fact.sl s.va (vrs s.vs)).holds ok w) (hF3 : (Fact.sl s.ea (qas s.es)).holds ok w) (hM : ∀ f ∈ (s.es.map qaF), f.holds ok w) (hs : saL s) :
  Cw 91 #[saV s] w (.int .i64 (if formS s.core then 0 else 3)) := by
 obtain ⟨hlg, hlv, hle, hlt, hlm⟩ := hs
 refine En (Fact.sl s.ga (gps s.gs) :: Fact.sl s.va (vrs s.vs) :: Fact.sl s.ea (qas s.es) :: (s.es.map qaF)) [(0, saV s)] Tryz.func91 rfl Tryz.ntmps91 rfl (Ac rfl (An _)) (Fc (fact_any hF1) (Fc (fact_any hF2) (Fc (fact_any hF3) (facts_more hM)))) ?_
 refine Cs ?_
 refine Kh rfl (Oy rfl rfl) ?_
 intro b1
 refine Ka rfl (Nt (Cq (Cs (Kq rfl (Fa (q := 0) rfl rfl u42 rfl rfl) (Kq rfl (Ld rfl rfl .tc u38) ?_)))))
 refine Kq rfl (rd_len rfl rfl u38) (Km rfl (Nt (Cb ?_)))
 refine Lp (σ := Nat) [(1, _), (12, _), (13, _)] (fun gq => [(14, .int .i64 (gq : Int))]) (fun gq => gq ≤ s.gs.length ∧ ∀ g ∈ s.gs.take gq, okG g) (fun gq => s.gs.length - gq) (0) (S3 rfl rfl rfl) (S1 rfl) (by (try dsimp only); exact ⟨Nat.zero_le _, by simp⟩) ?_
 rintro i hinv1; (try dsimp only at hinv1 ⊢)
 obtain ⟨hi, hok⟩ := hinv1
 refine Cs (Kq rfl (rd_lss rfl rfl rfl) (Nt (Cq ?_)))
 refine Cd rfl (fun hc15 => ?_) (fun hc15 => ?_)
 ·(try simp only [sB] at hc15)
  have hil : i < s.gs.length := by omega
  refine Ck (Xa (Cq (Cb (Cs ?_))))
  refine Kq rfl (Ia rfl rfl rfl u38 (by kernel_rfl : _ = some 2) (by omega) (by (rw [flatMap_len _ _ 2 (fun _ => rfl)]; omega))) ?_
  refine Kq rfl (ldma _ rfl rfl u26 rfl (by kernel_rfl : _ = some 2) (fun _ => rfl) (by decide) rfl (by assumption)) ?_
  refine Kh rfl (Oz [.string (S []), .string (S [])] rfl) ?_
  intro b4
  refine Nu rfl rfl (Sa rfl rfl rfl .tc) ?_
  refine Nt ?_
  refine WC.joinP (σ := Unit) [(1, _), (12, _), (13, _), (14, _)] (fun gq => [(27, .bool (decide (¬ (okN (s.gs.getD i default).1 ∧ okN (s.gs.getD i default).2))))]) (fun gq => True) (S4 rfl rfl rfl rfl) ?_ ?_
  ·skip
   refine Cg (Kq rfl (Fa (q := 0) rfl rfl u26 rfl rfl) (Kq rfl (Ld rfl rfl .tc u22) ?_))
   refine Ku rfl (Oc rfl rfl (Kv fun w hS => valid_c (a := (s.gs.getD i default).1))) ?_
   refine Kq rfl (Rt rfl rfl) (Km rfl ?_)
   refine Nb 22 rfl (fun hg22 => ?_) (fun hg22 => ?_)
   ·(try simp only [sB] at hg22)
    refine Kt rfl (Kt rfl (Kt rfl (Kt rfl (Kq rfl (Rp rfl rfl rfl) (Nn ?_)))))
    refine WX.joinP (()) (S4 rfl rfl rfl rfl) (by refine (Sc ?_ (S0 _)) <;> ((refine congrArg (fun b => some (Value.bool b)) ?_; simp [*, -List.getD_eq_getElem?_getD]; done))) ?_ (by (exact fun _ h => h))
    (try dsimp only)
    done
   ·(try simp only [sB] at hg22)
    refine Kq rfl (Fa (q := 1) rfl rfl u26 rfl rfl) (Kq rfl (Ld rfl rfl .tc u22) ?_)
    refine Ku rfl (Oc rfl rfl (Kv fun w hS => valid_c (a := (s.gs.getD i default).2))) ?_
    refine Kq rfl (Rt rfl rfl) (Kq rfl (Rq rfl rfl rfl) (Nn ?_))
    refine WX.joinP (()) (S4 rfl rfl rfl rfl) (by refine (Sc ?_ (S0 _)) <;> ((refine congrArg (fun b => some (Value.bool b)) ?_; simp [*, -List.getD_eq_getElem?_getD]; done))) ?_ (by (exact fun _ h => h))
    (try dsimp only)
    done
  ·rintro _ hmeet; (try dsimp only at hmeet ⊢)
   refine Cd rfl (fun hc27 => ?_) (fun hc27 => ?_)
   ·(try simp only [sB] at hc27)
    refine Cs (Ka rfl (Nt (Ce (Xf (Xb (Xb (Xf (Xb ?_))))))))
    exact R1 rfl rfl (by rw [if_neg (fun h => absurd (h.1 _ (getD_mem _ _ hil)) hc27)]; rfl)
   ·(try simp only [sB] at hc27)
    refine Ck (Xd (Xa (Cg (Kq rfl (Rz rfl rfl rfl (by omega)) (Km rfl (Nn ?_))))))
    refine Ly (i + 1) (by (try dsimp only); omega) (S3 rfl rfl rfl) (by refine (Sc ?_ (S0 _)) <;> (rfl)) ?_ (by (exact st_sub))
    (try dsimp only)
    exact ⟨hil, all_take hil hok (Decidable.not_not.1 hc27)⟩
 ·(try simp only [sB] at hc15)
  refine Cx (Xc (Xc (Xe ?_)))
  obtain rfl : i = s.gs.length := by omega
  rw [List.take_length] at hok
  refine Xa (Cq (Cs (Kq rfl (Fa (q := 1) rfl rfl u42 rfl rfl) (Kq rfl (Ld rfl rfl .tc u39) ?_))))
  refine Kq rfl (rd_len rfl rfl u39) (Km rfl (Nt (Cb ?_)))
  refine Lp (σ := Nat) [(1, _), (30, _), (31, _)] (fun gq => [(32, .int .i64 (gq : Int))]) (fun gq => gq ≤ s.vs.length ∧ ∀ v ∈ s.vs.take gq, okN v) (fun gq => s.vs.length - gq) (0) (S3 rfl rfl rfl) (S1 rfl) (by (try dsimp only); exact ⟨Nat.zero_le _, by simp⟩) ?_
  rintro j hinv2; (try dsimp only at hinv2 ⊢)
  obtain ⟨hj, hov⟩ := hinv2
  refine Cs (Kq rfl (rd_lss rfl rfl rfl) (Nt (Cq ?_)))
  refine Cd rfl (fun hc33 => ?_) (fun hc33 => ?_)
  ·(try simp only [sB] at hc33)
   have hjl : j < s.vs.length := by omega
   refine Ck (Xa (Cq (Cb (Cs ?_))))
   refine Kq rfl (Ib rfl rfl rfl u39 (by omega) (by (rw [flatMap_len _ _ 1 (fun _ => rfl)]; omega))) ?_
   refine Kq rfl (ldma _ rfl rfl u102 rfl (by kernel_rfl : _ = some 1) (fun _ => rfl) (by decide) (Nat.mul_one _).symm (by assumption)) ?_
   refine Kh rfl (Oz [.string (S [])] rfl) ?_
   intro b6
   refine Nu rfl rfl (Sa rfl rfl rfl .tc) ?_
   refine Nt (Cs (Kq rfl (Fa (q := 0) rfl rfl u102 rfl rfl) (Kq rfl (Ld rfl rfl .tc u22) ?_)))
   refine Ku rfl (Oc rfl rfl (Kv fun w hS => valid_c (a := s.vs.getD j default))) ?_
   refine Kq rfl (Rt rfl rfl) (Nt ?_)
   refine Cd rfl (fun hc39 => ?_) (fun hc39 => ?_)
   ·(try simp only [sB] at hc39)
    refine Cs (Ka rfl (Nt (Ce (Xf (Xb (Xb (Xf (Xb ?_))))))))
    exact R1 rfl rfl (by rw [if_neg (fun h => absurd (h.2.1 _ (getD_mem _ _ hjl)) (by simpa using hc39))]; rfl)
   ·(try simp only [sB] at hc39)
    refine Ck (Xd (Xa (Cg (Kq rfl (Rz rfl rfl rfl (by omega)) (Km rfl (Nn ?_))))))
    refine Ly (j + 1) (by (try dsimp only); omega) (S3 rfl rfl rfl) (by refine (Sc ?_ (S0 _)) <;> (rfl)) ?_ (by (exact st_sub))
    (try dsimp only)
    exact ⟨hjl, all_take hjl hov (by simpa using hc39)⟩
  ·(try simp only [sB] at hc33)
   refine Cx (Xc (Xc (Xe ?_)))
   obtain rfl : j = s.vs.length := by omega
   rw [List.take_length] at hov
   refine Xa (Cq (Cs (Kq rfl (Fa (q := 2) rfl rfl u42 rfl rfl) (Kq rfl (Ld rfl rfl .tc u40) ?_))))
   refine Kq rfl (rd_len rfl rfl u40) (Km rfl (Nt (Cb ?_)))
   refine Lp (σ := Nat) [(1, _), (42, _), (43, _)] (fun gq => [(44, .int .i64 (gq : Int))]) (fun gq => gq ≤ s.es.length ∧ ∀ q ∈ s.es.take gq, okQ s.gs.length s.vs.length q.1) (fun gq => s.es.length - gq) (0) (S3 rfl rfl rfl) (S1 rfl) (by (try dsimp only); exact ⟨Nat.zero_le _, by simp⟩) ?_
   rintro k hinv3; (try dsimp only at hinv3 ⊢)
   obtain ⟨hk, hoq⟩ := hinv3
   refine Cs (Kq rfl (rd_lss rfl rfl rfl) (Nt (Cq ?_)))
   refine Cd rfl (fun hc45 => ?_) (fun hc45 => ?_)
   ·(try simp only [sB] at hc45)
    have hkl : k < s.es.length := by omega
    have hkm := getD_mem s.es k hkl
    have hlt1 := hlt _ hkm
    refine Ck (Xa (Cq (Cb (Cs ?_))))
    refine Kq rfl (Ia rfl rfl rfl u40 (by kernel_rfl : _ = some 3) (by omega) (by (rw [flatMap_len _ _ 3 (fun _ => rfl)]; omega))) ?_
    refine Kq rfl (ldma _ rfl rfl u99 rfl (by kernel_rfl : _ = some 3) (fun _ => rfl) (by decide) rfl (by assumption)) ?_
    refine Kh rfl (Oz [.int .i64 0, .string (S []), .slice none 0 0] rfl) ?_
    intro b8
    refine Nu rfl rfl (Sa rfl rfl rfl .tc) ?_
    refine Nt (Cq ?_)
    refine WC.joinP (σ := Unit) [(1, _), (8, _), (42, _), (43, _), (44, _)] (fun gq => [(64, .bool (decide (¬ ((0 ≤ (s.es.getD k default).1.1 ∧ (s.es.getD k default).1.1 < (s.gs.length : Int)) ∧ okN (s.es.getD k default).1.2.1))))]) (fun gq => True) (S5 rfl rfl rfl rfl rfl) ?_ ?_
    ·skip
     refine Cg (Kq rfl (Fa (q := 0) rfl rfl u99 rfl rfl) (Kq rfl (Ld rfl rfl .tc u3) ?_))
     refine Kq rfl (rd_lss rfl rfl rfl) (Km rfl ?_)
     refine Nb 51 rfl (fun hg51 => ?_) (fun hg51 => ?_)
     ·(try simp only [sB] at hg51)
      refine Kt rfl (Kt rfl (Kt rfl (Kt rfl (Kt rfl (Kt rfl (Kq rfl (Rp rfl rfl rfl) (Km rfl (Kt rfl (Kt rfl (Kt rfl (Kt rfl (Kq rfl (Rp rfl rfl rfl) (Nn ?_)))))))))))))
      refine WX.joinP (()) (S5 rfl rfl rfl rfl rfl) (by refine (Sc ?_ (S0 _)) <;> ((exact congrArg (fun b => some (Value.bool b)) (by symm; apply decide_eq_true; omega)))) ?_ (by (exact fun _ h => h))
      (try dsimp only)
      done
     ·(try simp only [sB] at hg51)
      refine Kq rfl (Fa (q := 0) rfl rfl u99 rfl rfl) (Kq rfl (Ld rfl rfl .tc u3) ?_)
      refine Kq rfl (Fa (q := 0) rfl rfl u42 rfl rfl) (Kq rfl (Ld rfl rfl .tc u38) ?_)
      refine Kq rfl (rd_len rfl rfl u38) (Kq rfl (rd_geq rfl rfl rfl) (Kq rfl (Rq rfl rfl rfl) (Km rfl ?_)))
      refine Nb 59 rfl (fun hg59 => ?_) (fun hg59 => ?_)
      ·(try simp only [sB] at hg59)
       refine Kt rfl (Kt rfl (Kt rfl (Kt rfl (Kq rfl (Rp rfl rfl rfl) (Nn ?_)))))
       refine WX.joinP (()) (S5 rfl rfl rfl rfl rfl) (by refine (Sc ?_ (S0 _)) <;> ((exact congrArg (fun b => some (Value.bool b)) (by symm; apply decide_eq_true; omega)))) ?_ (by (exact fun _ h => h))
       (try dsimp only)
       done
      ·(try simp only [sB] at hg59)
       refine Kq rfl (Fa (q := 1) rfl rfl u99 rfl rfl) (Kq rfl (Ld rfl rfl .tc u22) ?_)
       refine Ku rfl (Oc rfl rfl (Kv fun w hS => valid_c (a := (s.es.getD k default).1.2.1))) ?_
       refine Kq rfl (Rt rfl rfl) (Kq rfl (Rq rfl rfl rfl) (Nn ?_))
       refine WX.joinP (()) (S5 rfl rfl rfl rfl rfl) (by refine (Sc ?_ (S0 _)) <;> ((refine congrArg (fun b => some (Value.bool b)) ?_; simp [*, -List.getD_eq_getElem?_getD]; done))) ?_ (by (exact fun _ h => h))
       (try dsimp only)
       done
    ·rintro _ hmeet; (try dsimp only at hmeet ⊢)
     refine Cd rfl (fun hc64 => ?_) (fun hc64 => ?_)
     ·(try simp only [sB] at hc64)
      refine Cs (Ka rfl (Nt (Ce (Xb (Xf (Xb (Xb (Xf (Xb ?_)))))))))
      exact R1 rfl rfl (by rw [if_neg (fun h => absurd (h.2.2 _ (List.mem_map_of_mem hkm)).1 hc64)]; rfl)
     ·(try simp only [sB] at hc64)
      refine Ck (Xa (Cs (Kq rfl (Fa (q := 2) rfl rfl u99 rfl rfl) ?_)))
      refine WL.st (fun w h => st_addm (more := s.es.map qaF) (f := qaF (s.es.getD k default)) h (List.mem_map_of_mem hkm)) ?_
      refine Kq rfl (Ld rfl rfl .tc u97) ?_
      refine Kq rfl (rd_len rfl rfl u97) (Km rfl (Nt (Cb ?_)))
      refine Lp (σ := Nat) [(1, _), (42, _), (43, _), (44, _), (66, _), (67, _)] (fun gq => [(68, .int .i64 (gq : Int))]) (fun gq => gq ≤ (s.es.getD k default).1.2.2.length ∧ ∀ t ∈ (s.es.getD k default).1.2.2.take gq, okT s.vs.length t) (fun gq => (s.es.getD k default).1.2.2.length - gq) (0) (S6 rfl rfl rfl rfl rfl rfl) (S1 rfl) (by (try dsimp only); exact ⟨Nat.zero_le _, by simp⟩) ?_
      rintro m hinv4; (try dsimp only at hinv4 ⊢)
      obtain ⟨hm, hot⟩ := hinv4
      refine Cs (Kq rfl (rd_lss rfl rfl rfl) (Nt (Cq ?_)))
      refine Cd rfl (fun hc69 => ?_) (fun hc69 => ?_)
      ·(try simp only [sB] at hc69)
       have hml : m < (s.es.getD k default).1.2.2.length := by omega
       refine Ck (Xa (Cq (Cb (Cs ?_))))
       refine Kq rfl (Ia rfl rfl rfl u97 (by kernel_rfl : _ = some 4) (by omega) (by (rw [flatMap_len _ _ 4 (fun _ => rfl)]; omega))) ?_
       refine Kq rfl (ldma _ rfl rfl u95 rfl (by kernel_rfl : _ = some 4) (fun _ => rfl) (by decide) rfl (by assumption)) ?_
       refine Kh rfl (Oz [.string (S []), .int .i64 0, .bool false, .string (S [])] rfl) ?_
       intro b10
       refine Nu rfl rfl (Sa rfl rfl rfl .tc) ?_
       refine Nt ?_
       refine WC.joinP (σ := Unit) [(1, _), (42, _), (43, _), (44, _), (66, _), (67, _), (68, _)] (fun gq => [(94, .bool (decide (¬ ((0 ≤ ((s.es.getD k default).1.2.2.getD m default).2.1 ∧ ((s.es.getD k default).1.2.2.getD m default).2.1 < (s.vs.length : Int)) ∧ okN ((s.es.getD k default).1.2.2.getD m default).1 ∧ okZ ((s.es.getD k default).1.2.2.getD m default).2.2))))]) (fun gq => True) (S7 rfl rfl rfl rfl rfl rfl rfl) ?_ ?_
       ·skip
        refine Cg (Kq rfl (Fa (q := 1) rfl rfl u95 rfl rfl) (Kq rfl (Ld rfl rfl .tc u3) ?_))
        refine Kq rfl (rd_lss rfl rfl rfl) (Km rfl ?_)
        refine Nb 75 rfl (fun hg75 => ?_) (fun hg75 => ?_)
        ·(try simp only [sB] at hg75)
         refine Kt rfl (Kt rfl (Kt rfl (Kt rfl (Kt rfl (Kt rfl (Kq rfl (Rp rfl rfl rfl) (Km rfl (Kt rfl (Kt rfl (Kt rfl (Kt rfl (Kq rfl (Rp rfl rfl rfl) (Km rfl (Kt rfl (Kt rfl (Kt rfl (Kt rfl (Kq rfl (Rp rfl rfl rfl) (Nn ?_)))))))))))))))))))
         refine WX.joinP (()) (S7 rfl rfl rfl rfl rfl rfl rfl) (by refine (Sc ?_ (S0 _)) <;> ((exact congrArg (fun b => some (Value.bool b)) (by symm; apply decide_eq_true; omega)))) ?_ (by (exact fun _ h => h))
         (try dsimp only)
         done
        ·(try simp only [sB] at hg75)
         refine Kq rfl (Fa (q := 1) rfl rfl u95 rfl rfl) (Kq rfl (Ld rfl rfl .tc u3) ?_)
         refine Kq rfl (Fa (q := 1) rfl rfl u42 rfl rfl) (Kq rfl (Ld rfl rfl .tc u39) ?_)
         refine Kq rfl (rd_len rfl rfl u39) (Kq rfl (rd_geq rfl rfl rfl) (Kq rfl (Rq rfl rfl rfl) (Km rfl ?_)))
         refine Nb 83 rfl (fun hg83 => ?_) (fun hg83 => ?_)
         ·(try simp only [sB] at hg83)
          refine Kt rfl (Kt rfl (Kt rfl (Kt rfl (Kq rfl (Rp rfl rfl rfl) (Km rfl (Kt rfl (Kt rfl (Kt rfl (Kt rfl (Kq rfl (Rp rfl rfl rfl) (Nn ?_)))))))))))
          refine WX.joinP (()) (S7 rfl rfl rfl rfl rfl rfl rfl) (by refine (Sc ?_ (S0 _)) <;> ((exact congrArg (fun b => some (Value.bool b)) (by symm; apply decide_eq_true; omega)))) ?_ (by (exact fun _ h => h))
          (try dsimp only)
          done
         ·(try simp only [sB] at hg83)
          refine Kq rfl (Fa (q := 0) rfl rfl u95 rfl rfl) (Kq rfl (Ld rfl rfl .tc u22) ?_)
          refine Ku rfl (Oc rfl rfl (Kv fun w hS => valid_c (a := ((s.es.getD k default).1.2.2.getD m default).1))) ?_
          refine Kq rfl (Rt rfl rfl) (Kq rfl (Rq rfl rfl rfl) (Km rfl ?_))
          refine Nb 89 rfl (fun hg89 => ?_) (fun hg89 => ?_)
          ·(try simp only [sB] at hg89)
           refine Kt rfl (Kt rfl (Kt rfl (Kt rfl (Kq rfl (Rp rfl rfl rfl) (Nn ?_)))))
           refine WX.joinP (()) (S7 rfl rfl rfl rfl rfl rfl rfl) (by refine (Sc ?_ (S0 _)) <;> ((refine congrArg (fun b => some (Value.bool b)) ?_; simp [*, -List.getD_eq_getElem?_getD]; done))) ?_ (by (exact fun _ h => h))
           (try dsimp only)
           done
          ·(try simp only [sB] at hg89)
           refine Kq rfl (Fa (q := 2) rfl rfl u95 rfl rfl) ?_
           refine Kq rfl (ldp rfl rfl .tc u50 rfl (by kernel_rfl : _ = some 2) (by rfl) (by rfl)) ?_
           refine Ku rfl (Oc rfl rfl (Kv fun w hS => zvalid_c (x := ((s.es.getD k default).1.2.2.getD m default).2.2))) ?_
           refine Kq rfl (Rt rfl rfl) (Kq rfl (Rq rfl rfl rfl) (Nn ?_))
           refine WX.joinP (()) (S7 rfl rfl rfl rfl rfl rfl rfl) (by refine (Sc ?_ (S0 _)) <;> ((refine congrArg (fun b => some (Value.bool b)) ?_; simp [*, -List.getD_eq_getElem?_getD]; done))) ?_ (by (exact fun _ h => h))
           (try dsimp only)
           done
       ·rintro _ hmeet; (try dsimp only at hmeet ⊢)
        refine Cd rfl (fun hc94 => ?_) (fun hc94 => ?_)
        ·(try simp only [sB] at hc94)
         refine Cs (Ka rfl (Nt (Ce (Xf (Xb (Xb (Xf (Xf (Xb (Xb (Xf (Xb ?_))))))))))))
         exact R1 rfl rfl (by rw [if_neg (fun h => absurd ((h.2.2 _ (List.mem_map_of_mem hkm)).2 _ (getD_mem _ _ hml)) hc94)]; rfl)
        ·(try simp only [sB] at hc94)
         refine Ck (Xd (Xa (Cg (Kq rfl (Rz rfl rfl rfl (by omega)) (Km rfl (Nn ?_))))))
         refine Ly (m + 1) (by (try dsimp only); omega) (S6 rfl rfl rfl rfl rfl rfl) (by refine (Sc ?_ (S0 _)) <;> (rfl)) ?_ (by (exact st_sub))
         (try dsimp only)
         exact ⟨hml, all_take hml hot (Decidable.not_not.1 hc94)⟩
      ·(try simp only [sB] at hc69)
       refine Cx (Xc (Xc (Xe ?_)))
       obtain rfl : m = (s.es.getD k default).1.2.2.length := by omega
       rw [List.take_length] at hot
       refine Xd (Xa (Cg (Kq rfl (Rz rfl rfl rfl (by omega)) (Km rfl (Nn ?_)))))
       refine Ly (k + 1) (by (try dsimp only); omega) (S3 rfl rfl rfl) (by refine (Sc ?_ (S0 _)) <;> (rfl)) ?_ (by (exact st_sub))
       (try dsimp only)
       exact ⟨hkl, all_take hkl hoq ⟨Decidable.not_not.1 hc64, hot⟩⟩
   ·(try simp only [sB] at hc45)
    refine Cx (Xc (Xc (Xe ?_)))
    obtain rfl : k = s.es.length := by omega
    rw [List.take_length] at hoq
    refine Xa (Cs (Ka rfl (Nt (Ce ?_))))
    exact R1 rfl rfl (by rw [if_pos ⟨hok, hov, forall_qa.2 hoq⟩]; rfl)
theorem szq_c {q : QA} {w : World} :
  Cw 178 #[.agg #[.int .i64 q.1.1, .string (S q.1.2.1), .slice q.2.1 q.1.2.2.length q.2.2]] w (.bool (decide (q.1.2.2.length > 64))) := by
 refine En [] [(0, .agg #[.int .i64 q.1.1, .string (S q.1.2.1), .slice q.2.1 q.1.2.2.length q.2.2])] Tryz.func178 rfl Tryz.ntmps178 rfl (Ac rfl (An _)) Fn ?_
 refine Cs ?_
 refine Kh rfl (Oy rfl rfl) ?_
 intro b1
 refine Ka rfl (Nt (Cs (Kq rfl (Fa (q := 2) rfl rfl u99 rfl rfl) (Kq rfl (Ld rfl rfl .tc u97) ?_))))
 refine Kq rfl (rd_len rfl rfl u97) (Kq rfl (rd_gtr rfl rfl rfl) (Ka rfl (Nt (Ce ?_))))
 exact R1 rfl rfl (by simp [tup]; omega)
theorem sizes_c {s : SA} {w : World} {ok : Nat → Prop} (hF1 : (Fact.sl s.ga (gps s.gs)).holds ok w) (hF2 : (Fact.sl s.va (vrs s.vs)).holds ok w) (hF3 : (Fact.sl s.ea (qas s.es)).holds ok w) (hs : saL s) :
  Cw 140 #[saV s] w (.int .i64 (if sizeS s.core then 0 else 6)) := by
 obtain ⟨hlg, hlv, hle, hlt, hlm⟩ := hs
 refine En [Fact.sl s.ga (gps s.gs), Fact.sl s.va (vrs s.vs), Fact.sl s.ea (qas s.es)] [(0, saV s)] Tryz.func140 rfl Tryz.ntmps140 rfl (Ac rfl (An _)) (Fc (fact_any hF1) (Fc (fact_any hF2) (Fc (fact_any hF3) Fn))) ?_
 refine Cs ?_
 refine Kh rfl (Oy rfl rfl) ?_
 intro b1
 refine Ka rfl (Nt (Cq ?_))
 refine WC.joinP (σ := Unit) [(1, _)] (fun gq => [(18, .bool (decide (¬ (s.gs.length ≤ 8 ∧ s.vs.length ≤ 64 ∧ s.es.length ≤ 64))))]) (fun gq => True) (S1 rfl) ?_ ?_
 ·skip
  refine Cg (Kq rfl (Fa (q := 0) rfl rfl u42 rfl rfl) (Kq rfl (Ld rfl rfl .tc u38) ?_))
  refine Kq rfl (rd_len rfl rfl u38) (Kq rfl (rd_gtr rfl rfl rfl) (Km rfl ?_))
  refine Nb 7 rfl (fun hg7 => ?_) (fun hg7 => ?_)
  ·(try simp only [sB] at hg7)
   refine Kt rfl (Kt rfl (Kt rfl (Kt rfl (Kq rfl (Rp rfl rfl rfl) (Km rfl (Kt rfl (Kt rfl (Kt rfl (Kt rfl (Kq rfl (Rp rfl rfl rfl) (Nn ?_)))))))))))
   refine WX.joinP (()) (S1 rfl) (by refine (Sc ?_ (S0 _)) <;> ((exact congrArg (fun b => some (Value.bool b)) (by symm; apply decide_eq_true; omega)))) ?_ (by (exact fun _ h => h))
   (try dsimp only)
   done
  ·(try simp only [sB] at hg7)
   refine Kq rfl (Fa (q := 1) rfl rfl u42 rfl rfl) (Kq rfl (Ld rfl rfl .tc u39) ?_)
   refine Kq rfl (rd_len rfl rfl u39) (Kq rfl (rd_gtr rfl rfl rfl) (Kq rfl (Rq rfl rfl rfl) (Km rfl ?_)))
   refine Nb 13 rfl (fun hg13 => ?_) (fun hg13 => ?_)
   ·(try simp only [sB] at hg13)
    refine Kt rfl (Kt rfl (Kt rfl (Kt rfl (Kq rfl (Rp rfl rfl rfl) (Nn ?_)))))
    refine WX.joinP (()) (S1 rfl) (by refine (Sc ?_ (S0 _)) <;> ((exact congrArg (fun b => some (Value.bool b)) (by symm; apply decide_eq_true; omega)))) ?_ (by (exact fun _ h => h))
    (try dsimp only)
    done
   ·(try simp only [sB] at hg13)
    refine Kq rfl (Fa (q := 2) rfl rfl u42 rfl rfl) (Kq rfl (Ld rfl rfl .tc u40) ?_)
    refine Kq rfl (rd_len rfl rfl u40) (Kq rfl (rd_gtr rfl rfl rfl) (Kq rfl (Rq rfl rfl rfl) (Nn ?_)))
    refine WX.joinP (()) (S1 rfl) (by refine (Sc ?_ (S0 _)) <;> ((refine slot_b rfl ?_; (try dsimp only); (exact decide_eq_decide.2 (by omega))))) ?_ (by (exact fun _ h => h))
    (try dsimp only)
    done
 ·rintro _ hmeet; (try dsimp only at hmeet ⊢)
  refine Cd rfl (fun hc18 => ?_) (fun hc18 => ?_)
  ·(try simp only [sB] at hc18)
   have hr : ¬ sizeS s.core := fun h => hc18 (by simpa using h.1)
   refine Cs (Ka rfl (Nt (Ce (Xb ?_))))
   exact R1 rfl rfl (by rw [if_neg hr]; rfl)
  ·(try simp only [sB] at hc18)
   refine Ck (Xa (Cq (Cs (Kq rfl (Fa (q := 2) rfl rfl u42 rfl rfl) (Kq rfl (Ld rfl rfl .tc u40) ?_)))))
   refine Ku rfl (Oc rfl rfl (Kv fun w hS => cfQ_c (l := s.es) (fk := 178) (cs := #[]) (p := fun q => decide (q.1.2.2.length > 64)) (by (exact hS.sl)) (by exact hle) (by kernel_rfl) (by exact fun x hx w' hb => by rw [fnc0]; exact szq_c))) ?_
   refine Nt ?_
   refine Cd rfl (fun hc21 => ?_) (fun hc21 => ?_)
   ·(try simp only [sB] at hc21)
    have hr : ¬ sizeS s.core := fun h => by
     obtain ⟨q, hq, hq2⟩ := List.any_eq_true.1 hc21
     have := h.2 _ (List.mem_map_of_mem hq); simp at hq2; omega
    refine Cs (Ka rfl (Nt (Ce (Xb ?_))))
    exact R1 rfl rfl (by rw [if_neg hr]; rfl)
   ·(try simp only [sB] at hc21)
    have hr : sizeS s.core := ⟨by simpa using hc18, forall_qa.2 fun q hq => by
     have := List.any_eq_false.1 hc21 q hq; simpa using this⟩
    refine Ck (Xa (Cs (Ka rfl (Nt (Ce ?_)))))
    exact R1 rfl rfl (by rw [if_pos hr]; rfl)
theorem any_dec {α : Type} (l : List α) (p : α → Prop) [DecidablePred p] : (l.any fun x => decide (¬ p x)) = decide (¬ ∀ x ∈ l, p x) := by rw [Bool.eq_iff_iff]; simp
theorem any_dec' {α : Type} (l : List α) (p : α → Prop) [DecidablePred p] : (l.any fun x => decide (p x)) = decide (¬ ∀ x ∈ l, ¬ p x) := by rw [Bool.eq_iff_iff]; simp
instance hasM_appL {a b : List Fact} : HasM (a ++ b) a := ⟨fun _ h => List.mem_append_left _ h⟩
instance hasM_appR {a b c : List Fact} [h : HasM b c] : HasM (a ++ b) c := ⟨fun _ hh => List.mem_append_right _ (h.h _ hh)⟩
theorem elt_c {t : Tm} {g : Gp} {p : Nat} {w : World} {ok : Nat → Prop} (hF1 : (Fact.sl (some ⟨p, 0, none⟩) (gpC g)).holds ok w) (hg : chkG g = 0) (hm8 : g.1.length ≤ 8) :
  Cw 180 #[.agg #[.string (S t.1), .int .i64 t.2.1, .bool t.2.2.1, .string (S t.2.2.2)], .pointer (some ⟨p, 0, none⟩)] w (.bool (decide (¬ elG g t.1))) := by
 refine En [Fact.sl (some ⟨p, 0, none⟩) (gpC g)] [(0, .agg #[.string (S t.1), .int .i64 t.2.1, .bool t.2.2.1, .string (S t.2.2.2)]), (1, .pointer (some ⟨p, 0, none⟩))] Tryz.func180 rfl Tryz.ntmps180 rfl (Ac rfl (Ac rfl (An _))) (Fc (fact_any hF1) Fn) ?_
 refine Cs ?_
 refine Kh rfl (Oy rfl rfl) ?_
 intro b2
 refine Ka rfl (Nt (Cs ?_))
 refine Kq rfl (ldfa (m := 0) rfl rfl .tc u26 rfl (by kernel_rfl : _ = some 2) rfl rfl rfl (by decide)) ?_
 refine Kq rfl (Fa (q := 0) rfl rfl u95 rfl rfl) (Kq rfl (Ld rfl rfl .tc u22) ?_)
 refine Ku rfl (Oc rfl rfl (Kv fun w hS => pwhas_c (g := g) (x := t.1) (by assumption))) ?_
 refine Ns 7 rfl (v' := .bool (decide (elG g t.1))) (congrArg Value.bool (by simp [hg])) ?_
 refine Kq rfl (Rt rfl rfl) (Ka rfl (Nt (Ce ?_)))
 exact R1 rfl rfl (by (simp [tup]; done))
theorem elems_c {s : SA} {w : World} {ok : Nat → Prop} (hF1 : (Fact.sl s.ga (gps s.gs)).holds ok w) (hF2 : (Fact.sl s.ea (qas s.es)).holds ok w) (hM : ∀ f ∈ (s.es.map qaF), f.holds ok w) (hs : saL s) (hfo : formS s.core) :
  Cw 141 #[saV s] w (.int .i64 (if elS s.core then 0 else 13)) := by
 obtain ⟨hlg, hlv, hle, hlt, hlm⟩ := hs
 refine En (Fact.sl s.ga (gps s.gs) :: Fact.sl s.ea (qas s.es) :: (s.es.map qaF)) [(0, saV s)] Tryz.func141 rfl Tryz.ntmps141 rfl (Ac rfl (An _)) (Fc (fact_any hF1) (Fc (fact_any hF2) (facts_more hM))) ?_
 refine Cs ?_
 refine Kh rfl (Oy rfl rfl) ?_
 intro b1
 refine Ka rfl (Nt (Cq (Cs (Kq rfl (Fa (q := 0) rfl rfl u42 rfl rfl) (Kq rfl (Ld rfl rfl .tc u38) ?_)))))
 refine Kq rfl (rd_len rfl rfl u38) (Km rfl (Nt (Cb ?_)))
 refine Lp (σ := Nat) [(1, _), (9, _), (10, _)] (fun gq => [(11, .int .i64 (gq : Int))]) (fun gq => gq ≤ s.gs.length ∧ ∀ g ∈ s.gs.take gq, chkG g = 0) (fun gq => s.gs.length - gq) (0) (S3 rfl rfl rfl) (S1 rfl) (by (try dsimp only); exact ⟨Nat.zero_le _, by simp⟩) ?_
 rintro i hinv1; (try dsimp only at hinv1 ⊢)
 obtain ⟨hi, hok⟩ := hinv1
 refine Cs (Kq rfl (rd_lss rfl rfl rfl) (Nt (Cq ?_)))
 refine Cd rfl (fun hc12 => ?_) (fun hc12 => ?_)
 ·(try simp only [sB] at hc12)
  have hil : i < s.gs.length := by omega
  refine Ck (Xa (Cq (Cb (Cs ?_))))
  refine Kq rfl (Ia rfl rfl rfl u38 (by kernel_rfl : _ = some 2) (by omega) (by (rw [flatMap_len _ _ 2 (fun _ => rfl)]; omega))) ?_
  refine Kq rfl (ldma _ rfl rfl u26 rfl (by kernel_rfl : _ = some 2) (fun _ => rfl) (by decide) rfl (by assumption)) ?_
  refine Kh rfl (Oz [.string (S []), .string (S [])] rfl) ?_
  intro b4
  refine Nu rfl rfl (Sa rfl rfl rfl .tc) ?_
  refine Nt (Cs ?_)
  refine Kq rfl (lda rfl rfl .tc u26 rfl ?_) ?_
  ·kernel_rfl
  refine Ku rfl (Oc rfl rfl (Kv fun w hS => pcheck_c (g := s.gs.getD i default))) ?_
  refine Kq rfl (rd_neq rfl rfl rfl) (Nt ?_)
  refine Cd rfl (fun hc17 => ?_) (fun hc17 => ?_)
  ·(try simp only [sB] at hc17)
   refine Cs (Ka rfl (Nt (Ce (Xf (Xb (Xb (Xf (Xb ?_))))))))
   exact R1 rfl rfl (by rw [if_neg (fun h => absurd (h.1 _ (getD_mem _ _ hil)) (by simpa using hc17))]; rfl)
  ·(try simp only [sB] at hc17)
   refine Ck (Xd (Xa (Cg (Kq rfl (Rz rfl rfl rfl (by omega)) (Km rfl (Nn ?_))))))
   refine Ly (i + 1) (by (try dsimp only); omega) (S3 rfl rfl rfl) (by refine (Sc ?_ (S0 _)) <;> (rfl)) ?_ (by (exact st_sub))
   (try dsimp only)
   exact ⟨hil, all_take hil hok (by simpa using hc17)⟩
 ·(try simp only [sB] at hc12)
  refine Cx (Xc (Xc (Xe ?_)))
  obtain rfl : i = s.gs.length := by omega
  rw [List.take_length] at hok
  refine Xa (Cq (Cs (Kq rfl (Fa (q := 2) rfl rfl u42 rfl rfl) (Kq rfl (Ld rfl rfl .tc u40) ?_))))
  refine Kq rfl (rd_len rfl rfl u40) (Km rfl (Nt (Cb ?_)))
  refine Lp (σ := Nat) [(1, _), (20, _), (21, _)] (fun gq => [(22, .int .i64 (gq : Int))]) (fun gq => gq ≤ s.es.length ∧ ∀ q ∈ s.es.take gq, elQ s.gs q.1) (fun gq => s.es.length - gq) (0) (S3 rfl rfl rfl) (S1 rfl) (by (try dsimp only); exact ⟨Nat.zero_le _, by simp⟩) ?_
  rintro k hinv2; (try dsimp only at hinv2 ⊢)
  obtain ⟨hk, hoq⟩ := hinv2
  refine Cs (Kq rfl (rd_lss rfl rfl rfl) (Nt (Cq ?_)))
  refine Cd rfl (fun hc23 => ?_) (fun hc23 => ?_)
  ·(try simp only [sB] at hc23)
   have hkl : k < s.es.length := by omega
   have hkm := getD_mem s.es k hkl
   have hlt1 := hlt _ hkm
   have hfq := (hfo.2.2 _ (List.mem_map_of_mem hkm)).1.1
   have hgl : (s.es.getD k default).1.1.toNat < s.gs.length := by have := hfq.1; have := hfq.2; simp only [SA.core] at this; omega
   have hg0 := hok _ (getD_mem _ _ hgl)
   have hg8 := hlm _ (getD_mem _ _ hgl)
   refine Ck (Xa (Cq (Cb (Cs ?_))))
   refine Kq rfl (Ia rfl rfl rfl u40 (by kernel_rfl : _ = some 3) (by omega) (by (rw [flatMap_len _ _ 3 (fun _ => rfl)]; omega))) ?_
   refine Kq rfl (ldma _ rfl rfl u99 rfl (by kernel_rfl : _ = some 3) (fun _ => rfl) (by decide) rfl (by assumption)) ?_
   refine Kh rfl (Oz [.int .i64 0, .string (S []), .slice none 0 0] rfl) ?_
   intro b6
   refine Nu rfl rfl (Sa rfl rfl rfl .tc) ?_
   refine Nt (Cs (Kq rfl (Fa (q := 0) rfl rfl u42 rfl rfl) (Kq rfl (Ld rfl rfl .tc u38) ?_)))
   refine Kq rfl (Fa (q := 0) rfl rfl u99 rfl rfl) (Kq rfl (Ld rfl rfl .tc u3) ?_)
   refine Kq rfl (Ia rfl rfl rfl u38 (by kernel_rfl : _ = some 2) (by assumption) (by (rw [flatMap_len _ _ 2 (fun _ => rfl)]; omega))) ?_
   refine Kq rfl (ldma _ rfl rfl u26 rfl (by kernel_rfl : _ = some 2) (fun _ => rfl) (by decide) rfl (by assumption)) ?_
   refine Kh rfl (Oz [.string (S []), .string (S [])] rfl) ?_
   intro b7
   refine Nu rfl rfl (Sa rfl rfl rfl .tc) ?_
   refine Nt ?_
   refine WC.joinP (σ := Unit) [(1, _), (20, _), (21, _), (22, _)] (fun gq => [(42, .bool (decide (¬ (elG (s.gs.getD (s.es.getD k default).1.1.toNat default) (s.es.getD k default).1.2.1 ∧ ∀ t ∈ (s.es.getD k default).1.2.2, elG (s.gs.getD (s.es.getD k default).1.1.toNat default) t.1))))]) (fun gq => True) (S4 rfl rfl rfl rfl) ?_ ?_
   ·skip
    refine Cg ?_
    refine Kq rfl (lda rfl rfl .tc u26 rfl ?_) ?_
    ·kernel_rfl
    refine Kq rfl (Fa (q := 1) rfl rfl u99 rfl rfl) (Kq rfl (Ld rfl rfl .tc u22) ?_)
    refine Ku rfl (Oc rfl rfl (Kv fun w hS => pwhas_c (g := s.gs.getD (s.es.getD k default).1.1.toNat default) (x := (s.es.getD k default).1.2.1) (by exact hg8))) ?_
    refine Ns 35 rfl (v' := .bool (decide (elG (s.gs.getD (s.es.getD k default).1.1.toNat default) (s.es.getD k default).1.2.1))) (congrArg Value.bool (by exact decide_eq_decide.2 ⟨fun h => h.2, fun h => ⟨hg0, h⟩⟩)) ?_
    refine Kq rfl (Rt rfl rfl) (Km rfl ?_)
    refine Nb 37 rfl (fun hg37 => ?_) (fun hg37 => ?_)
    ·(try simp only [sB] at hg37)
     refine Kt rfl (Kt rfl (Kt rfl (Kt rfl (Kq rfl (Rp rfl rfl rfl) (Nn ?_)))))
     refine WX.joinP (()) (S4 rfl rfl rfl rfl) (by refine (Sc ?_ (S0 _)) <;> ((refine congrArg (fun b => some (Value.bool b)) ?_; simp [*, -List.getD_eq_getElem?_getD]; done))) ?_ (by (exact fun _ h => h))
     (try dsimp only)
     done
    ·(try simp only [sB] at hg37)
     refine Kq rfl (Fa (q := 2) rfl rfl u99 rfl rfl) (Kq rfl (Ld rfl rfl .tc u97) ?_)
     refine Kq rfl (rd_mkf rfl rfl rfl) ?_
     refine Ku rfl (Oc rfl rfl (Kv fun w hS => cfT_c (l := (s.es.getD k default).1.2.2) (fk := 180) (p := fun t => decide (¬ elG (s.gs.getD (s.es.getD k default).1.1.toNat default) t.1)) (hS.more (more := s.es.map qaF) _ (List.mem_map_of_mem hkm)) (by exact hlt1) (by kernel_rfl) (by exact fun x hx w' hb => by rw [fnc1]; exact elt_c (fact_keep hS.os hb) hg0 hg8))) ?_
     refine Ns 41 rfl (v' := .bool (decide (¬ ∀ t ∈ (s.es.getD k default).1.2.2, elG (s.gs.getD (s.es.getD k default).1.1.toNat default) t.1))) (congrArg Value.bool (by exact any_dec _ _)) ?_
     refine Kq rfl (Rq rfl rfl rfl) (Nn ?_)
     refine WX.joinP (()) (S4 rfl rfl rfl rfl) (by refine (Sc ?_ (S0 _)) <;> ((refine congrArg (fun b => some (Value.bool b)) ?_; simp [*, -List.getD_eq_getElem?_getD]; done))) ?_ (by (exact fun _ h => h))
     (try dsimp only)
     done
   ·rintro _ hmeet; (try dsimp only at hmeet ⊢)
    refine Cd rfl (fun hc42 => ?_) (fun hc42 => ?_)
    ·(try simp only [sB] at hc42)
     refine Cs (Ka rfl (Nt (Ce (Xf (Xb (Xb (Xf (Xb ?_))))))))
     exact R1 rfl rfl (by rw [if_neg (fun h => absurd (h.2 _ (List.mem_map_of_mem hkm)) hc42)]; rfl)
    ·(try simp only [sB] at hc42)
     refine Ck (Xd (Xa (Cg (Kq rfl (Rz rfl rfl rfl (by omega)) (Km rfl (Nn ?_))))))
     refine Ly (k + 1) (by (try dsimp only); omega) (S3 rfl rfl rfl) (by refine (Sc ?_ (S0 _)) <;> (rfl)) ?_ (by (exact st_sub))
     (try dsimp only)
     exact ⟨hkl, all_take hkl hoq (Decidable.not_not.1 hc42)⟩
  ·(try simp only [sB] at hc23)
   refine Cx (Xc (Xc (Xe ?_)))
   obtain rfl : k = s.es.length := by omega
   rw [List.take_length] at hoq
   refine Xa (Cs (Ka rfl (Nt (Ce ?_))))
   exact R1 rfl rfl (by rw [if_pos ⟨hok, forall_qa.2 hoq⟩]; rfl)
theorem kdv_c {v : Bs} {w : World} :
  Cw 182 #[.agg #[.string (S v)]] w (.bool (decide (v = []))) := by
 refine En [] [(0, .agg #[.string (S v)])] Tryz.func182 rfl Tryz.ntmps182 rfl (Ac rfl (An _)) Fn ?_
 refine Cs ?_
 refine Kh rfl (Oy rfl rfl) ?_
 intro b1
 refine Ka rfl (Nt (Cs (Kq rfl (Fa (q := 0) rfl rfl u102 rfl rfl) (Kq rfl (Ld rfl rfl .tc u22) ?_))))
 refine Kq rfl (rd_seq rfl rfl rfl) (Ka rfl (Nt (Ce ?_)))
 exact R1 rfl rfl (by rfl)
theorem kdg_c {g : Gp} {n : Bs} {p : Nat} {w : World} {ok : Nat → Prop} (hF1 : (Fact.sl (some ⟨p, 0, none⟩) [.string (S n)]).holds ok w) :
  Cw 184 #[.agg #[.string (S g.1), .string (S g.2)], .pointer (some ⟨p, 0, none⟩)] w (.bool (decide (g.2 ≠ [] ∧ g.2 ≠ n))) := by
 refine En [Fact.sl (some ⟨p, 0, none⟩) [.string (S n)]] [(0, .agg #[.string (S g.1), .string (S g.2)]), (1, .pointer (some ⟨p, 0, none⟩))] Tryz.func184 rfl Tryz.ntmps184 rfl (Ac rfl (Ac rfl (An _))) (Fc (fact_any hF1) Fn) ?_
 refine Cs ?_
 refine Kh rfl (Oy rfl rfl) ?_
 intro b2
 refine Ka rfl (Nt (Cs (Kq rfl (Fa (q := 1) rfl rfl u26 rfl rfl) (Kq rfl (Ld rfl rfl .tc u22) ?_))))
 refine Kq rfl (rd_sne rfl rfl rfl) (Km rfl ?_)
 refine Nb 7 rfl (fun hg7 => ?_) (fun hg7 => ?_)
 ·(try simp only [sB] at hg7)
  refine Kq rfl (Fa (q := 1) rfl rfl u26 rfl rfl) (Kq rfl (Ld rfl rfl .tc u22) ?_)
  refine Kq rfl (ldf (m := 0) rfl rfl .tc u22 rfl rfl rfl) ?_
  refine Kq rfl (rd_sne rfl rfl rfl) (Kq rfl (Rp rfl rfl rfl) (Ka rfl (Nt (Ce ?_))))
  exact R1 rfl rfl (by (simp [*, tup]; done))
 ·(try simp only [sB] at hg7)
  refine Kt rfl (Kt rfl (Kt rfl (Kt rfl (Kq rfl (Rq rfl rfl rfl) (Ka rfl (Nt (Ce ?_)))))))
  exact R1 rfl rfl (by (simp [*, tup]; done))
theorem kdt_c {t : Tm} {s : SA} {p : Nat} {w : World} {ok : Nat → Prop} (hF1 : (Fact.sl (some ⟨p, 0, none⟩) [.slice s.ga s.gs.length s.gc, .slice s.va s.vs.length s.vc, .slice s.ea s.es.length s.ec]).holds ok w) (hF2 : (Fact.sl s.va (vrs s.vs)).holds ok w) (ht0 : 0 ≤ t.2.1) (ht1 : t.2.1 < s.vs.length) (hlv : s.vs.length ≤ 100000) :
  Cw 185 #[.agg #[.string (S t.1), .int .i64 t.2.1, .bool t.2.2.1, .string (S t.2.2.2)], .pointer (some ⟨p, 0, none⟩)] w (.bool (decide (s.vs.getD t.2.1.toNat default = []))) := by
 refine En [Fact.sl (some ⟨p, 0, none⟩) [.slice s.ga s.gs.length s.gc, .slice s.va s.vs.length s.vc, .slice s.ea s.es.length s.ec], Fact.sl s.va (vrs s.vs)] [(0, .agg #[.string (S t.1), .int .i64 t.2.1, .bool t.2.2.1, .string (S t.2.2.2)]), (1, .pointer (some ⟨p, 0, none⟩))] Tryz.func185 rfl Tryz.ntmps185 rfl (Ac rfl (Ac rfl (An _))) (Fc (fact_any hF1) (Fc (fact_any hF2) Fn)) ?_
 refine Cs ?_
 refine Kh rfl (Oy rfl rfl) ?_
 intro b2
 refine Ka rfl (Nt (Cs ?_))
 (refine Kq rfl (rd_fa rfl rfl u42 rfl (by kernel_rfl) (by (try simp only [sN, Int.reduceToNat, Nat.reduceAdd, Nat.reduceMul, Nat.reduceSub]); rfl)) ?_)
 refine Kq rfl (ldf (m := 1) rfl rfl .tc u39 rfl rfl rfl) ?_
 refine Kq rfl (Fa (q := 1) rfl rfl u95 rfl rfl) (Kq rfl (Ld rfl rfl .tc u3) ?_)
 refine Kq rfl (Ib rfl rfl rfl u39 (by omega) (by (rw [flatMap_len _ _ 1 (fun _ => rfl)]; omega))) ?_
 (refine Kq rfl (faf rfl rfl u102 rfl (by kernel_rfl) (by (try simp only [sN, Int.reduceToNat, Nat.reduceAdd, Nat.reduceMul, Nat.reduceSub]); rfl)) ?_)
 refine Kq rfl (ldmf (l := s.vs) (f := vrC) (sz := 1) t.2.1.toNat 0 rfl rfl u22 rfl (fun _ => rfl) (Nat.mul_one _).symm (by omega) (by decide) rfl) ?_
 refine Kq rfl (rd_seq rfl rfl rfl) (Ka rfl (Nt (Ce ?_)))
 exact R1 rfl rfl (by rfl)
theorem kinds_c {s : SA} {w : World} {ok : Nat → Prop} (hF1 : (Fact.sl s.ga (gps s.gs)).holds ok w) (hF2 : (Fact.sl s.va (vrs s.vs)).holds ok w) (hF3 : (Fact.sl s.ea (qas s.es)).holds ok w) (hM : ∀ f ∈ (s.es.map qaF), f.holds ok w) (hs : saL s) (hfo : formS s.core) :
  Cw 142 #[saV s] w (.int .i64 (if kdS s.core then 0 else 10)) := by
 have hs' := hs
 obtain ⟨hlg, hlv, hle, hlt, hlm⟩ := hs
 refine En (Fact.sl s.ga (gps s.gs) :: Fact.sl s.va (vrs s.vs) :: Fact.sl s.ea (qas s.es) :: (s.es.map qaF)) [(0, saV s)] Tryz.func142 rfl Tryz.ntmps142 rfl (Ac rfl (An _)) (Fc (fact_any hF1) (Fc (fact_any hF2) (Fc (fact_any hF3) (facts_more hM)))) ?_
 refine Cs ?_
 refine Kh rfl (Oy rfl rfl) ?_
 intro b1
 refine Ka rfl (Nt (Cq (Cs (Kq rfl (Fa (q := 1) rfl rfl u42 rfl rfl) (Kq rfl (Ld rfl rfl .tc u39) ?_)))))
 refine Ku rfl (Oc rfl rfl (Kv fun w hS => cfV_c (l := s.vs) (fk := 182) (cs := #[]) (p := fun v => decide (v = [])) (by (exact hS.sl)) (by exact hlv) (by kernel_rfl) (by exact fun x hx w' hb => by rw [fnc0]; exact kdv_c))) ?_
 refine Ns 8 rfl (v' := .bool (decide (¬ ∀ v ∈ s.vs, v ≠ []))) (congrArg Value.bool (by exact any_dec' _ _)) ?_
 refine Kq rfl (Rt rfl rfl) (Nt ?_)
 refine Cd rfl (fun hc9 => ?_) (fun hc9 => ?_)
 ·(try simp only [sB] at hc9)
  have hr : kdS s.core := Or.inl (by (exact Decidable.not_not.1 hc9))
  refine Cs (Ka rfl (Nt (Ce (Xb ?_))))
  exact R1 rfl rfl (by rw [if_pos hr]; rfl)
 ·(try simp only [sB] at hc9)
  have hnv : ¬ ∀ v ∈ s.vs, v ≠ [] := hc9
  refine Ck (Xa (Cs ?_))
  refine Kq rfl (lda rfl rfl .tc u42 rfl ?_) ?_
  ·kernel_rfl
  refine Ku rfl (Oc rfl rfl (Kv fun w hS => lorder_c (s := s) (by (exact hS.sl)) (by exact hs'))) ?_
  refine Kh rfl (Oa rfl (v := (.string (S []))) (cs := [.string (S [])]) (by kernel_rfl) rfl) ?_
  intro b3
  refine Ng rfl rfl (st rfl rfl rfl .tc (by kernel_rfl) rfl ?_ (by (simp only [List.set_cons_zero, List.set_cons_succ]; rfl))) ?_
  ·decide
  intro _
  refine Nt (Cq ?_)
  refine WC.joinP (σ := Unit) [(1, _)] (fun gq => [(19, .bool (decide (¬ (ordS s.gs ≠ [] ∧ ∀ g ∈ s.gs, ¬ (g.2 ≠ [] ∧ g.2 ≠ ordS s.gs)))))]) (fun gq => True) (S1 rfl) ?_ ?_
  ·skip
   refine Cg (Kq rfl (Ld rfl rfl .tc u22) ?_)
   refine Kq rfl (rd_seq rfl rfl rfl) (Km rfl ?_)
   refine Nb 14 rfl (fun hg14 => ?_) (fun hg14 => ?_)
   ·(try simp only [sB] at hg14)
    refine Kt rfl (Kt rfl (Kt rfl (Kt rfl (Kq rfl (Rp rfl rfl rfl) (Nn ?_)))))
    refine WX.joinP (()) (S1 rfl) (by refine (Sc ?_ (S0 _)) <;> ((refine slot_b rfl ?_; (try dsimp only); (simp [*]; done)))) ?_ (by (exact fun _ h => h))
    (try dsimp only)
    done
   ·(try simp only [sB] at hg14)
    refine Kq rfl (Fa (q := 0) rfl rfl u42 rfl rfl) (Kq rfl (Ld rfl rfl .tc u38) ?_)
    refine Kq rfl (rd_mkf rfl rfl rfl) ?_
    refine Ku rfl (Oc rfl rfl (Kv fun w hS => cfG_c (l := s.gs) (fk := 184) (p := fun g => decide (g.2 ≠ [] ∧ g.2 ≠ ordS s.gs)) (by (exact hS.sl)) (by exact hlg) (by kernel_rfl) (by exact fun x hx w' hb => by rw [fnc1]; exact kdg_c (fact_keep hS.os hb)))) ?_
    refine Ns 18 rfl (v' := .bool (decide (¬ ∀ g ∈ s.gs, ¬ (g.2 ≠ [] ∧ g.2 ≠ ordS s.gs)))) (congrArg Value.bool (by exact any_dec' _ _)) ?_
    refine Kq rfl (Rq rfl rfl rfl) (Nn ?_)
    refine WX.joinP (()) (S1 rfl) (by refine (Sc ?_ (S0 _)) <;> ((refine slot_b rfl ?_; (try dsimp only); (simp [*]; done)))) ?_ (by (exact fun _ h => h))
    (try dsimp only)
    done
  ·rintro _ hmeet; (try dsimp only at hmeet ⊢)
   refine Cd rfl (fun hc19 => ?_) (fun hc19 => ?_)
   ·(try simp only [sB] at hc19)
    refine Cs (Ka rfl (Nt (Ce (Xb ?_))))
    exact R1 rfl rfl (by rw [if_neg (fun h => h.elim hnv fun h => hc19 h.1)]; rfl)
   ·(try simp only [sB] at hc19)
    refine Ck (Xa (Cq (Cs (Kq rfl (Fa (q := 2) rfl rfl u42 rfl rfl) (Kq rfl (Ld rfl rfl .tc u40) ?_)))))
    refine Kq rfl (rd_len rfl rfl u40) (Km rfl (Nt (Cb ?_)))
    refine Lp (σ := Nat) [(1, _), (21, _), (22, _)] (fun gq => [(23, .int .i64 (gq : Int))]) (fun gq => gq ≤ s.es.length ∧ ∀ q ∈ s.es.take gq, kdQ s.gs s.vs q.1) (fun gq => s.es.length - gq) (0) (S3 rfl rfl rfl) (S1 rfl) (by (try dsimp only); exact ⟨Nat.zero_le _, by simp⟩) ?_
    rintro k hinv1; (try dsimp only at hinv1 ⊢)
    obtain ⟨hk, hoq⟩ := hinv1
    refine Cs (Kq rfl (rd_lss rfl rfl rfl) (Nt (Cq ?_)))
    refine Cd rfl (fun hc24 => ?_) (fun hc24 => ?_)
    ·(try simp only [sB] at hc24)
     have hkl : k < s.es.length := by omega
     have hkm := getD_mem s.es k hkl
     have hlt1 := hlt _ hkm
     have hfq := hfo.2.2 _ (List.mem_map_of_mem hkm)
     have hgl : (s.es.getD k default).1.1.toNat < s.gs.length := by have := hfq.1.1.1; have := hfq.1.1.2; simp only [SA.core] at this; omega
     have hq0 := hfq.1.1.1
     refine Ck (Xa (Cq (Cb (Cs ?_))))
     refine Kq rfl (Ia rfl rfl rfl u40 (by kernel_rfl : _ = some 3) (by omega) (by (rw [flatMap_len _ _ 3 (fun _ => rfl)]; omega))) ?_
     refine Kq rfl (ldma _ rfl rfl u99 rfl (by kernel_rfl : _ = some 3) (fun _ => rfl) (by decide) rfl (by assumption)) ?_
     refine Kh rfl (Oz [.int .i64 0, .string (S []), .slice none 0 0] rfl) ?_
     intro b5
     refine Nu rfl rfl (Sa rfl rfl rfl .tc) ?_
     refine Nt (Cq (Cs (Kq rfl (Fa (q := 0) rfl rfl u42 rfl rfl) (Kq rfl (Ld rfl rfl .tc u38) ?_))))
     refine Kq rfl (Fa (q := 0) rfl rfl u99 rfl rfl) (Kq rfl (Ld rfl rfl .tc u3) ?_)
     refine Kq rfl (Ia rfl rfl rfl u38 (by kernel_rfl : _ = some 2) (by omega) (by (rw [flatMap_len _ _ 2 (fun _ => rfl)]; omega))) ?_
     (refine Kq rfl (faf rfl rfl u26 rfl (by kernel_rfl) (by (try simp only [sN, Int.reduceToNat, Nat.reduceAdd, Nat.reduceMul, Nat.reduceSub]); rfl)) ?_)
     refine Kq rfl (ldmf (sz := 2) _ 1 rfl rfl u22 rfl (fun _ => rfl) rfl (by assumption) (by decide) rfl) ?_
     refine Kq rfl (rd_sne rfl rfl rfl) (Nt ?_)
     refine Cd rfl (fun hc34 => ?_) (fun hc34 => ?_)
     ·(try simp only [sB] at hc34)
      refine Cx (Xc (Xe (Xa (Cg (Kq rfl (Rz rfl rfl rfl (by omega)) (Km rfl (Nn ?_)))))))
      refine Ly (k + 1) (by (try dsimp only); omega) (S3 rfl rfl rfl) (by refine (Sc ?_ (S0 _)) <;> (rfl)) ?_ (by (exact st_sub))
      (try dsimp only)
      exact ⟨hkl, all_take hkl hoq (by (exact Or.inl (by simpa using hc34)))⟩
     ·(try simp only [sB] at hc34)
      refine Ck (Xa (Cs (Kq rfl (Fa (q := 2) rfl rfl u99 rfl rfl) (Kq rfl (Ld rfl rfl .tc u97) ?_))))
      refine Kq rfl (rd_mkf rfl rfl rfl) ?_
      refine Ku rfl (Oc rfl rfl (Kv fun w hS => cfT_c (l := (s.es.getD k default).1.2.2) (fk := 185) (p := fun t => decide (s.vs.getD t.2.1.toNat default = [])) (hS.more (more := s.es.map qaF) _ (List.mem_map_of_mem hkm)) (by exact hlt1) (by kernel_rfl) (by exact fun x hx w' hb => by rw [fnc1]; exact kdt_c (fact_keep hS.os hb) (fact_keep hS.sl hb) (hfq.2 x hx).1.1 (hfq.2 x hx).1.2 hlv))) ?_
      refine Ns 38 rfl (v' := .bool (decide (¬ ∀ t ∈ (s.es.getD k default).1.2.2, s.vs.getD t.2.1.toNat default ≠ []))) (congrArg Value.bool (by exact any_dec' _ _)) ?_
      refine Nt ?_
      refine Cd rfl (fun hc38 => ?_) (fun hc38 => ?_)
      ·(try simp only [sB] at hc38)
       refine Cs (Ka rfl (Nt (Ce (Xf (Xb (Xb (Xf (Xb ?_))))))))
       exact R1 rfl rfl (by rw [if_neg (fun h => h.elim hnv fun h => (h.2 _ (List.mem_map_of_mem hkm)).elim (fun h => h (by simpa using hc34)) fun h => hc38 h)]; rfl)
      ·(try simp only [sB] at hc38)
       refine Ck (Xd (Xa (Cg (Kq rfl (Rz rfl rfl rfl (by omega)) (Km rfl (Nn ?_))))))
       refine Ly (k + 1) (by (try dsimp only); omega) (S3 rfl rfl rfl) (by refine (Sc ?_ (S0 _)) <;> (rfl)) ?_ (by (exact st_sub))
       (try dsimp only)
       exact ⟨hkl, all_take hkl hoq (by (exact Or.inr (by simpa using hc38)))⟩
    ·(try simp only [sB] at hc24)
     refine Cx (Xc (Xc (Xe ?_)))
     obtain rfl : k = s.es.length := by omega
     rw [List.take_length] at hoq
     refine Xa (Cs (Ka rfl (Nt (Ce ?_))))
     exact R1 rfl rfl (by rw [if_pos (show kdS s.core from Or.inr ⟨Decidable.not_not.1 hc19, forall_qa.2 hoq⟩)]; rfl)
def chkF (i : Nat) : Nat := [91, 140, 141, 142].getD i default
def chkE (s : Sm) (i : Nat) : Int := [if formS s then 0 else 3, if sizeS s then 0 else 6, if elS s then 0 else 13, if kdS s then 0 else 10].getD i default
theorem chkF_goes {i : Nat} (h : i < 4) : goes Tryz.prog (chkF i) = true := by
 rcases i with _ | _ | _ | _ | i
 ·kernel_rfl
 ·kernel_rfl
 ·kernel_rfl
 ·kernel_rfl
 ·omega
theorem chkE_form {s : Sm} (h : chkE s 0 = 0) : formS s := by
 have h1 : (if formS s then (0 : Int) else 3) = 0 := h
 split at h1
 ·assumption
 ·simp at h1
theorem chkF_c {s : SA} {w : World} {ok : Nat → Prop} (h1 : (Fact.sl s.ga (gps s.gs)).holds ok w) (h2 : (Fact.sl s.va (vrs s.vs)).holds ok w) (h3 : (Fact.sl s.ea (qas s.es)).holds ok w) (hM : ∀ f ∈ s.es.map qaF, f.holds ok w) (hs : saL s) {i : Nat} (hi : i < 4) (h0 : ∀ j, j < i → chkE s.core j = 0) :
  Calls Tryz.prog (chkF i) #[saV s] w fun e w' => e = .returned (.int .i64 (chkE s.core i)) ∧ Below w.heap.size w w' := by
 rcases i with _ | _ | _ | _ | i
 ·exact form_c h1 h2 h3 hM hs
 ·exact sizes_c h1 h2 h3 hs
 ·exact elems_c h1 h3 hM hs (chkE_form (h0 0 (by decide)))
 ·exact kinds_c h1 h2 h3 hM hs (chkE_form (h0 0 (by decide)))
 ·omega
theorem chkS_at {s : Sm} {i : Nat} (hi : i < 4) (h0 : ∀ j, j < i → chkE s j = 0) (h1 : chkE s i ≠ 0) : chkS s = chkE s i := by
 have a0 := h0 0; have a1 := h0 1; have a2 := h0 2
 simp only [chkE, List.getD_cons_zero, List.getD_cons_succ] at a0 a1 a2
 unfold chkS
 rcases i with _ | _ | _ | _ | i
 ·simp only [chkE, List.getD_cons_zero] at h1 ⊢; by_cases h : formS s <;> simp [h] at h1 ⊢
 ·have f0 : formS s := Decidable.byContradiction fun h => by simp [h] at a0
  simp only [chkE, List.getD_cons_zero, List.getD_cons_succ] at h1 ⊢; by_cases h : sizeS s <;> simp [h, f0] at h1 ⊢
 ·have f0 : formS s := Decidable.byContradiction fun h => by simp [h] at a0
  have f1 : sizeS s := Decidable.byContradiction fun h => by simp [h] at a1
  simp only [chkE, List.getD_cons_zero, List.getD_cons_succ] at h1 ⊢; by_cases h : elS s <;> simp [h, f0, f1] at h1 ⊢
 ·have f0 : formS s := Decidable.byContradiction fun h => by simp [h] at a0
  have f1 : sizeS s := Decidable.byContradiction fun h => by simp [h] at a1
  have f2 : elS s := Decidable.byContradiction fun h => by simp [h] at a2
  simp only [chkE, List.getD_cons_zero, List.getD_cons_succ] at h1 ⊢; by_cases h : kdS s <;> simp [h, f0, f1, f2] at h1 ⊢
 ·omega
theorem chkS_ok {s : Sm} (h0 : ∀ j, j < 4 → chkE s j = 0) : chkS s = 0 := by
 have a0 := h0 0 (by decide); have a1 := h0 1 (by decide); have a2 := h0 2 (by decide); have a3 := h0 3 (by decide)
 simp only [chkE, List.getD_cons_zero, List.getD_cons_succ] at a0 a1 a2 a3
 have f0 : formS s := Decidable.byContradiction fun h => by simp [h] at a0
 have f1 : sizeS s := Decidable.byContradiction fun h => by simp [h] at a1
 have f2 : elS s := Decidable.byContradiction fun h => by simp [h] at a2
 have f3 : kdS s := Decidable.byContradiction fun h => by simp [h] at a3
 simp [chkS, f0, f1, f2, f3]
theorem fncall0 (v : Value) : (#[] : Array Value) ++ [v].toArray ++ #[] = #[v] := by simp
theorem lcheck_c {s : SA} {w : World} {ok : Nat → Prop} (hF1 : (Fact.sl s.ga (gps s.gs)).holds ok w) (hF2 : (Fact.sl s.va (vrs s.vs)).holds ok w) (hF3 : (Fact.sl s.ea (qas s.es)).holds ok w) (hM : ∀ f ∈ (s.es.map qaF), f.holds ok w) (hs : saL s) :
  Cw 94 #[saV s] w (.int .i64 (chkS s.core)) := by
 refine En (Fact.sl s.ga (gps s.gs) :: Fact.sl s.va (vrs s.vs) :: Fact.sl s.ea (qas s.es) :: (s.es.map qaF)) [(0, saV s)] Tryz.func94 rfl Tryz.ntmps94 rfl (Ac rfl (An _)) (Fc (fact_any hF1) (Fc (fact_any hF2) (Fc (fact_any hF3) (facts_more hM)))) ?_
 refine Cs ?_
 refine Kh rfl (Oy rfl rfl) ?_
 intro b1
 refine Ka rfl (Nt (Cq (Cs (Kq rfl (Kb [[.nilFunc], [.nilFunc], [.nilFunc], [.nilFunc]] rfl rfl) (Km rfl (Nt (Cb ?_)))))))
 refine Lp (σ := Nat) [(1, _), (6, _)] (fun gq => [(7, .int .i64 (gq : Int))]) (fun gq => gq ≤ 4 ∧ ∀ j, j < gq → chkE s.core j = 0) (fun gq => 4 - gq) (0) (S2 rfl rfl) (S1 rfl) (by (try dsimp only); exact ⟨Nat.zero_le _, fun _ h => absurd h (Nat.not_lt_zero _)⟩) ?_
 rintro i hinv1; (try dsimp only at hinv1 ⊢)
 obtain ⟨hi, hok⟩ := hinv1
 refine Cs (Kq rfl (rd_lss rfl rfl rfl) (Nt (Cq ?_)))
 refine Cd rfl (fun hc8 => ?_) (fun hc8 => ?_)
 ·(try simp only [sB] at hc8)
  have hil : i < 4 := by omega
  refine Ck (Xa (Cq (Cb (Cs ?_))))
  refine Kq rfl (rd_aidx rfl rfl rfl u177 u146 rfl (by kernel_rfl) ?_ (by rw [Int.toNat_natCast]; exact map_getD [91, 140, 141, 142] (fun k : Nat => Value.func (.func k) #[] #[]) i hil)) ?_
  ·omega
  refine Ka rfl (Nt (Cs (Km rfl ?_)))
  refine Kq rfl (lda rfl rfl .tc u42 rfl ?_) ?_
  ·kernel_rfl
  refine Ku rfl (og_callv rfl rfl rfl (chkF_goes hil) (fncall0 _) (Kv fun w hS => chkF_c hS.sl hS.sl hS.sl hS.more hs hil hok)) ?_
  refine Ka rfl (Nt (Cs (Km rfl (Kq rfl (rd_neq rfl rfl rfl) (Nt ?_)))))
  refine Cd rfl (fun hc14 => ?_) (fun hc14 => ?_)
  ·(try simp only [sB] at hc14)
   have hr := chkS_at hil hok hc14
   refine Cs (Km rfl (Ka rfl (Nt (Ce (Xf (Xb (Xb (Xf (Xb ?_)))))))))
   exact R1 rfl rfl (by rw [hr]; rfl)
  ·(try simp only [sB] at hc14)
   refine Ck (Xd (Xa (Cg (Kq rfl (Rz rfl rfl rfl (by omega)) (Km rfl (Nn ?_))))))
   refine Ly (i + 1) (by (try dsimp only); omega) (S2 rfl rfl) (by refine (Sc ?_ (S0 _)) <;> (rfl)) ?_ (by (exact fun _ h => h))
   (try dsimp only)
   exact ⟨hil, fun j hj => by rcases Nat.lt_succ_iff_lt_or_eq.1 hj with h | h; exact hok j h; subst h; simpa using hc14⟩
 ·(try simp only [sB] at hc8)
  refine Cx (Xc (Xc (Xe ?_)))
  obtain rfl : i = 4 := by omega
  refine Xa (Cs (Ka rfl (Nt (Ce ?_))))
  exact R1 rfl rfl (by rw [chkS_ok hok]; rfl)
theorem rdx_c {x : Zs} {w : World} :
  Cw 93 #[.agg #[.bool x.1, .string (S x.2)]] w (.bool (decide (¬ okZ x))) := by
 refine En [] [(0, .agg #[.bool x.1, .string (S x.2)])] Tryz.func93 rfl Tryz.ntmps93 rfl (Ac rfl (An _)) Fn ?_
 refine Cs ?_
 refine Kh rfl (Oy rfl rfl) ?_
 intro b1
 refine Ka rfl (Nt (Cs ?_))
 refine Kq rfl (lda rfl rfl .tc u50 rfl ?_) ?_
 ·kernel_rfl
 refine Ku rfl (Oc rfl rfl (Kv fun w hS => zvalid_c (x := x))) ?_
 refine Kq rfl (Rt rfl rfl) (Ka rfl (Nt (Ce ?_)))
 exact R1 rfl rfl (by (simp [tup]; done))
theorem ready_c {s : SA} {ws : List Zs} {a : Option Addr} {c : Nat} {w : World} {ok : Nat → Prop} (hF1 : (Fact.sl s.ga (gps s.gs)).holds ok w) (hF2 : (Fact.sl s.va (vrs s.vs)).holds ok w) (hF3 : (Fact.sl s.ea (qas s.es)).holds ok w) (hF4 : (Fact.sl a (ints ws)).holds ok w) (hM : ∀ f ∈ (s.es.map qaF), f.holds ok w) (hs : saL s) (hw : ws.length ≤ 100000) :
  Cw 46 #[saV s, .slice a ws.length c] w (.int .i64 (rdyS s.core ws)) := by
 refine En (Fact.sl s.ga (gps s.gs) :: Fact.sl s.va (vrs s.vs) :: Fact.sl s.ea (qas s.es) :: Fact.sl a (ints ws) :: (s.es.map qaF)) [(0, saV s), (1, .slice a ws.length c)] Tryz.func46 rfl Tryz.ntmps46 rfl (Ac rfl (Ac rfl (An _))) (Fc (fact_any hF1) (Fc (fact_any hF2) (Fc (fact_any hF3) (Fc (fact_any hF4) (facts_more hM))))) ?_
 refine Cs ?_
 refine Kh rfl (Oy rfl rfl) ?_
 intro b2
 refine Ka rfl (Nt (Cq ?_))
 refine WC.joinP (σ := Unit) [(1, _), (2, _)] (fun gq => [(12, .bool (decide (¬ (formS s.core ∧ ∀ x ∈ ws, okZ x))))]) (fun gq => True) (S2 rfl rfl) ?_ ?_
 ·skip
  refine Cg ?_
  refine Kq rfl (lda rfl rfl .tc u42 rfl ?_) ?_
  ·kernel_rfl
  refine Ku rfl (Oc rfl rfl (Kv fun w hS => form_c (s := s) (by (exact hS.sl)) (by (exact hS.sl)) (by (exact hS.sl)) (by (exact hS.more)) (by exact hs))) ?_
  refine Kq rfl (rd_neq rfl rfl rfl) ?_
  refine Ns 8 rfl (v' := .bool (decide (¬ formS s.core))) (congrArg Value.bool (by split <;> simp_all)) ?_
  refine Km rfl ?_
  refine Nb 9 rfl (fun hg9 => ?_) (fun hg9 => ?_)
  ·(try simp only [sB] at hg9)
   refine Kt rfl (Kt rfl (Kq rfl (Rp rfl rfl rfl) (Nn ?_)))
   refine WX.joinP (()) (S2 rfl rfl) (by refine (Sc ?_ (S0 _)) <;> ((refine slot_b rfl ?_; (try dsimp only); (simp [*]; done)))) ?_ (by (exact fun _ h => h))
   (try dsimp only)
   done
  ·(try simp only [sB] at hg9)
   refine Km rfl ?_
   refine Ku rfl (Oc rfl rfl (Kv fun w hS => cfZ_c (l := ws) (fk := 93) (cs := #[]) (p := fun x => decide (¬ okZ x)) (by (exact hS.sl)) (by exact hw) (by kernel_rfl) (by exact fun x hx w' hb => by rw [fnc0]; exact rdx_c))) ?_
   refine Ns 11 rfl (v' := .bool (decide (¬ ∀ x ∈ ws, okZ x))) (congrArg Value.bool (by exact any_dec _ _)) ?_
   refine Kq rfl (Rq rfl rfl rfl) (Nn ?_)
   refine WX.joinP (()) (S2 rfl rfl) (by refine (Sc ?_ (S0 _)) <;> ((refine slot_b rfl ?_; (try dsimp only); (simp [*]; done)))) ?_ (by (exact fun _ h => h))
   (try dsimp only)
   done
 ·rintro _ hmeet; (try dsimp only at hmeet ⊢)
  refine Cd rfl (fun hc12 => ?_) (fun hc12 => ?_)
  ·(try simp only [sB] at hc12)
   have hr : rdyS s.core ws = 3 := by
    rw [rdyS]; by_cases h : formS s.core
    ·rw [if_neg (fun h2 => h2 h), if_pos (fun h2 => hc12 ⟨h, h2⟩)]
    ·rw [if_pos h]
   refine Cs (Ka rfl (Nt (Ce (Xb ?_))))
   exact R1 rfl rfl (by rw [hr]; rfl)
  ·(try simp only [sB] at hc12)
   obtain ⟨hf1, hz1⟩ := Decidable.not_not.1 hc12
   refine Ck (Xa (Cq (Cs ?_)))
   refine Kq rfl (lda rfl rfl .tc u42 rfl ?_) ?_
   ·kernel_rfl
   refine Ku rfl (Oc rfl rfl (Kv fun w hS => lcheck_c (s := s) (by (exact hS.sl)) (by (exact hS.sl)) (by (exact hS.sl)) (by (exact hS.more)) (by exact hs))) ?_
   refine Ka rfl (Nt (Cs (Km rfl (Kq rfl (rd_neq rfl rfl rfl) (Nt ?_)))))
   refine Cd rfl (fun hc16 => ?_) (fun hc16 => ?_)
   ·(try simp only [sB] at hc16)
    refine Cs (Km rfl (Ka rfl (Nt (Ce (Xb ?_)))))
    exact R1 rfl rfl (by rw [rdyS, if_neg (fun h => h hf1), if_neg (fun h => h hz1), if_pos (by simpa using hc16)]; rfl)
   ·(try simp only [sB] at hc16)
    have hk0 : chkS s.core = 0 := by simpa using hc16
    refine Ck (Xa (Cq (Cs (Km rfl (Kq rfl (rd_len rfl rfl u54) (Kq rfl (Fa (q := 1) rfl rfl u42 rfl rfl) (Kq rfl (Ld rfl rfl .tc u39) ?_)))))))
    refine Kq rfl (rd_len rfl rfl u39) (Kq rfl (rd_neq rfl rfl rfl) (Nt ?_))
    refine Cd rfl (fun hc23 => ?_) (fun hc23 => ?_)
    ·(try simp only [sB] at hc23)
     refine Cs (Ka rfl (Nt (Ce (Xb ?_))))
     exact R1 rfl rfl (by rw [rdyS, if_neg (fun h => h hf1), if_neg (fun h => h hz1), if_neg (fun h => h hk0), if_pos (fun h => hc23 (by rw [h]))]; rfl)
    ·(try simp only [sB] at hc23)
     refine Ck (Xa (Cs (Ka rfl (Nt (Ce ?_)))))
     exact R1 rfl rfl (by rw [rdyS, if_neg (fun h => h hf1), if_neg (fun h => h hz1), if_neg (fun h => h hk0), if_neg (fun h => h (show ws.length = s.vs.length by omega))]; rfl)
section
variable {P : Program} {ok : Nat → Prop} {w0 w : World} {own : List Ent} {fs : List Fact} {γ : Type} {f : FuncId} {args : Array Value} {val : γ → Value} {p : γ → Prop} {F : γ → List Fact} {xs : List Value}
theorem keep_fr (h : ∀ w, St ok w0 own fs w → Calls P f args w (fun e w' => ∃ g, e = .returned (val g) ∧ p g ∧ Below w.heap.size w w' ∧ ∀ x ∈ F g, x.holds (fun b => w.heap.size ≤ b) w')) :
  ∀ w, St ok w0 own fs w → Calls P f args w (fun e w' => ∃ g, e = .returned (val g) ∧ p g ∧ St ok w0 own (F g ++ fs) w') :=
 keep_ff fun w hS => (h w hS).mono fun _ w' ⟨g, he, hp, hb, hF⟩ => ⟨g, he, hp, hb, fun x hx => x.mono (fun _ h => .inr h) (hF x hx)⟩
theorem St.ocf (h : St ok w0 own fs w) {ob : Option Nat} {sp : List Value} {T : TypeId} {C : Ent → List Ent} [hf : HasC own ob (xs ++ sp) T C] : (Fact.sl (ob.map fun b => ⟨b, 0, none⟩) xs).holds (fun b => w0.heap.size ≤ b) w := by
 obtain ⟨k, hk, _⟩ := hf.h.get
 have := h.own_ _ (List.mem_of_getElem? hk)
 cases ob with
 | none => exact .inl (by have h1 : xs ++ sp = [] := this; simp at h1; exact h1.1)
 | some b =>
  refine .inr ⟨b, 0, (xs ++ sp).toArray, T, (0, 0), rfl, this.1, this.2, fun i hi => ?_⟩
  rw [Nat.zero_add, List.getElem?_toArray, List.getElem?_append_left hi]
end
section
variable {ds : List Deferred} {P : Program} {ops l : List Oper} {Q : Exit → Act → World → Prop} {n : Nat} {L : Slots} {ok : Nat → Prop} {w0 : World} {own : List Ent} {fs : List Fact} {x y : Fact}
theorem WL.fa2 (k : WL ds P ops Q n l L (St ok w0 own (x :: y :: fs))) : WL ds P ops Q n l L (St ok w0 own ([x, y] ++ fs)) := k
end
def bsQ (ws : List Zs) (q : Qn) : List Bs := if (exQ ws q).2 ≠ 0 then [] else q.2.2.map (·.1)
theorem exQ_at {ws : List Zs} {q : Qn} {i : Nat} (h : i < q.2.2.length) (h0 : ∀ t ∈ q.2.2.take i, (exT ws t).2 = 0) (h1 : (exT ws (q.2.2.getD i default)).2 ≠ 0) : exQ ws q = ([], (exT ws (q.2.2.getD i default)).2) := by
 rw [exQ, errL_at h h0 h1, if_pos h1]
theorem exQ_ok {ws : List Zs} {q : Qn} (h0 : ∀ t ∈ q.2.2, (exT ws t).2 = 0) : exQ ws q = (q.2.2.map fun t => (exT ws t).1, 0) := by
 rw [exQ, errL_map h0, if_neg (by decide)]
theorem ts_strs {l : List Tm} {i : Nat} (h : i < l.length) : strs ((l.take (i + 1)).map (·.1)) = strs ((l.take i).map (·.1)) ++ [.string (S (l.getD i default).1)] := by
 rw [take_succ_getD h, List.map_append]; simp [strs]
theorem ts_ints {l : List Tm} (f : Tm → Zs) {i : Nat} (h : i < l.length) : ints ((l.take (i + 1)).map f) = ints ((l.take i).map f) ++ zc (f (l.getD i default)) := by
 rw [take_succ_getD h, List.map_append]; simp
theorem bsQ_at {ws : List Zs} {q : Qn} {i : Nat} (h : i < q.2.2.length) (h0 : ∀ t ∈ q.2.2.take i, (exT ws t).2 = 0) (h1 : (exT ws (q.2.2.getD i default)).2 ≠ 0) : bsQ ws q = [] := by
 rw [bsQ, exQ_at h h0 h1, if_pos h1]
theorem collect_c {q : QA} {ws : List Zs} {p : Nat} {a : Option Addr} {c : Nat} {w : World} {ok : Nat → Prop} (hF1 : (Fact.sl (some ⟨p, 0, none⟩) [.slice a ws.length c]).holds ok w) (hF2 : (Fact.sl a (ints ws)).holds ok w) (hF3 : (Fact.sl q.2.1 (tms q.1.2.2)).holds ok w) (hw : ws.length ≤ 100000) (hl : q.1.2.2.length ≤ 100000) (ht : ∀ t ∈ q.1.2.2, 0 ≤ t.2.1 ∧ t.2.1 < ws.length) :
  Calls Tryz.prog 95 #[.agg #[.int .i64 q.1.1, .string (S q.1.2.1), .slice q.2.1 q.1.2.2.length q.2.2], .pointer (some ⟨p, 0, none⟩)] w fun e w' => ∃ gx : Rs × Rs, e = .returned (.tuple #[gx.1.val (bsQ ws q.1).length, gx.2.val (exQ ws q.1).1.length, .int .i64 (exQ ws q.1).2]) ∧ (True) ∧ Below w.heap.size w w' ∧ ∀ x ∈ ([Fact.sl gx.1.a (strs (bsQ ws q.1)), Fact.sl gx.2.a (ints (exQ ws q.1).1)] : List Fact), x.holds (fun b => w.heap.size ≤ b) w' := by
 refine En [Fact.sl (some ⟨p, 0, none⟩) [.slice a ws.length c], Fact.sl a (ints ws), Fact.sl q.2.1 (tms q.1.2.2)] [(0, .agg #[.int .i64 q.1.1, .string (S q.1.2.1), .slice q.2.1 q.1.2.2.length q.2.2]), (1, .pointer (some ⟨p, 0, none⟩))] Tryz.func95 rfl Tryz.ntmps95 rfl (Ac rfl (Ac rfl (An _))) (Fc (fact_any hF1) (Fc (fact_any hF2) (Fc (fact_any hF3) Fn))) ?_
 refine Cs ?_
 refine Kh rfl (Oy rfl rfl) ?_
 intro b2
 refine Ka rfl (Ka rfl (Ka rfl (Nt (Cs (Ka rfl (Nt (Cs (Ka rfl (Nt (Cq (Cs (Kq rfl (Fa (q := 2) rfl rfl u99 rfl rfl) (Kq rfl (Ld rfl rfl .tc u97) ?_)))))))))))))
 refine Kq rfl (rd_len rfl rfl u97) (Km rfl (Nt (Cb ?_)))
 refine Lo (σ := Nat × (Option Nat) × Nat × (List Value) × (Option Nat) × Nat × (List Value)) [(1, _), (13, _), (14, _)] (fun gq => [(6, .slice (gq.2.1.map fun b => ⟨b, 0, none⟩) gq.1 gq.2.2.1), (7, .slice (gq.2.2.2.2.1.map fun b => ⟨b, 0, none⟩) gq.1 gq.2.2.2.2.2.1), (15, .int .i64 (gq.1 : Int))]) (fun gq => (gq.1 ≤ q.1.2.2.length ∧ gq.2.2.1 = gq.1 + gq.2.2.2.1.length ∧ gq.2.2.2.2.2.1 * 2 = gq.1 * 2 + gq.2.2.2.2.2.2.length) ∧ ∀ t ∈ q.1.2.2.take gq.1, (exT ws t).2 = 0) (fun gq => q.1.2.2.length - gq.1) (fun gq => [⟨gq.2.2.2.2.1, ints ((q.1.2.2.take gq.1).map fun t => (exT ws t).1) ++ gq.2.2.2.2.2.2, 50⟩, ⟨gq.2.1, strs ((q.1.2.2.take gq.1).map (·.1)) ++ gq.2.2.2.1, 22⟩, ⟨some b2, [.int .i64 q.1.1, .string (S q.1.2.1), .slice q.2.1 q.1.2.2.length q.2.2], 99⟩]) (fun gq => [Fact.sl (some ⟨p, 0, none⟩) [.slice a ws.length c], Fact.sl a (ints ws), Fact.sl q.2.1 (tms q.1.2.2)]) (0, none, 0, [], none, 0, []) (S3 rfl rfl rfl) (S3 rfl rfl rfl) (by (try dsimp only); exact ⟨⟨Nat.zero_le _, rfl, rfl⟩, by simp⟩) (by exact fun w h => (h.nil _).nil _) ?_
 rintro ⟨i, o, cp, sp, o2, cp2, sp2⟩ hinv1; (try dsimp only at hinv1 ⊢)
 obtain ⟨⟨hi, hcp, hcp2⟩, hok⟩ := hinv1
 refine Cs (Kq rfl (rd_lss rfl rfl rfl) (Nt (Cq ?_)))
 refine Cd rfl (fun hc16 => ?_) (fun hc16 => ?_)
 ·(try simp only [sB] at hc16)
  have hil : i < q.1.2.2.length := by omega
  have htm := ht _ (getD_mem _ _ hil)
  have htl : (q.1.2.2.getD i default).2.1.toNat < ws.length := by omega
  refine Ck (Xa (Cq (Cb (Cs ?_))))
  refine Kq rfl (Ia rfl rfl rfl u97 (by kernel_rfl : _ = some 4) (by omega) (by (rw [flatMap_len _ _ 4 (fun _ => rfl)]; omega))) ?_
  refine Kq rfl (ldma _ rfl rfl u95 rfl (by kernel_rfl : _ = some 4) (fun _ => rfl) (by decide) rfl (by assumption)) ?_
  refine Kh rfl (Oz [.string (S []), .int .i64 0, .bool false, .string (S [])] rfl) ?_
  intro b9
  refine Nu rfl rfl (Sa rfl rfl rfl .tc) ?_
  refine Nt (Cq ?_)
  refine Cf [0, 1, 2, 3, 4, 5, 6, 7, 8, 9, 11, 12, 10, 13] [] [0, 0, 0, 0, 0, 0, 0, 1, 0, 0, 0, 3, 1, 0] (by kernel_rfl) (by kernel_rfl) rfl ?_
  refine Kj rfl (Fa (q := 2) rfl rfl u95 rfl rfl) ?_
  refine Kj rfl (ldp rfl rfl .tc u50 rfl (by kernel_rfl : _ = some 2) (by rfl) (by rfl)) ?_
  refine Kj rfl (ldf (m := 0) rfl rfl .tc u54 rfl rfl rfl) ?_
  refine Kj rfl (Fa (q := 1) rfl rfl u95 rfl rfl) (Kj rfl (Ld rfl rfl .tc u3) ?_)
  refine Kj rfl (Ia rfl rfl rfl u54 (by kernel_rfl : _ = some 2) (by assumption) (by (rw [flatMap_len _ _ 2 (fun _ => rfl)]; omega))) ?_
  refine Kj rfl (ldma _ rfl rfl u50 rfl (by kernel_rfl : _ = some 2) (fun _ => rfl) (by decide) rfl (by assumption)) ?_
  refine Jv rfl rfl rfl rfl rfl (fun ext => Oc rfl rfl (Kv fun w hS => zmul_c (x := (q.1.2.2.getD i default).2.2) (y := ws.getD (q.1.2.2.getD i default).2.1.toNat default))) ?_
  refine Kj rfl (Rm rfl rfl) (Kj rfl (Re rfl rfl rfl) ?_)
  refine Jf rfl rfl rfl rfl rfl (fr_alloc rfl (v := (.agg #[.bool false, .string (S [])])) (cs := [.bool false, .string (S [])]) (by kernel_rfl) rfl) ?_
  intro b10
  refine WJ.st rfl rfl rfl rfl (staJ rfl rfl rfl ?_ ?_ ?_) ?_
  ·kernel_rfl
  ·simp [Value.oneCell']
  ·rfl
  refine Kj rfl (Re rfl rfl rfl) (Kj rfl (Ra rfl rfl) ?_)
  refine WJ.nil ?_
  refine Nt (Cq (Cs (Km rfl (Kq rfl (rd_neq rfl rfl rfl) (Nt ?_)))))
  refine Cd rfl (fun hc31 => ?_) (fun hc31 => ?_)
  ·(try simp only [sB] at hc31)
   refine Cs (Km rfl (Ka rfl (Ka rfl (Ka rfl (Nt (Ce (Xb (Xf (Xb (Xb (Xf (Xb ?_))))))))))))
   exact Rn rfl (.tmp rfl (.tmp rfl (.tmp rfl .nil))) fun w' hS => ⟨(⟨none, 0, []⟩, ⟨none, 0, []⟩), by rw [bsQ_at hil hok hc31, exQ_at hil hok hc31]; rfl, trivial, hS.below, by rw [bsQ_at hil hok hc31, exQ_at hil hok hc31]; exact Fc sl_nilk (Fc sl_nilk Fn)⟩
  ·(try simp only [sB] at hc31)
   have hx0 : (exT ws (q.1.2.2.getD i default)).2 = 0 := by simpa [exT] using hc31
   have hln : (ints ((q.1.2.2.take i).map fun t => (exT ws t).1)).length = i * 2 := by rw [flatMap_len _ _ 2 (fun _ => rfl), List.length_map, List.length_take]; omega
   have hls : (strs ((q.1.2.2.take i).map (·.1))).length = i := by simp [strs]; omega
   refine Ck (Xa ?_)
   refine WC.free (K := [⟨some b10, [.bool (mulZ (q.1.2.2.getD i default).2.2 (ws.getD (q.1.2.2.getD i default).2.1.toNat default)).1.1, .string (S (mulZ (q.1.2.2.getD i default).2.2 (ws.getD (q.1.2.2.getD i default).2.1.toNat default)).1.2)], 50⟩, ⟨some b9, [.string (S (q.1.2.2.getD i default).1), .int .i64 (q.1.2.2.getD i default).2.1, .bool (q.1.2.2.getD i default).2.2.1, .string (S (q.1.2.2.getD i default).2.2.2)], 95⟩]) (fs0 := []) [0, 1, 2, 3, 4, 5, 6, 7, 8, 9, 10] [] [0, 0, 0, 3, 1, 0, 0, 3, 1, 0, 0] (by kernel_rfl) (by kernel_rfl) rfl ?_
   refine Kj rfl (Rm rfl rfl) (Kj rfl (Fa (q := 0) rfl rfl u95 rfl rfl) (Kj rfl (Ld rfl rfl .tc u22) ?_))
   refine Jf rfl rfl rfl rfl rfl (fr_bs1 rfl rfl u31 (by kernel_rfl : _ = some (some (.string (S [])), 1, 16)) rfl (by simp only [List.map]; rfl) rfl rfl ?_ (by decide)) ?_
   ·simp [Value.cells]
   intro b36
   refine Jg rfl rfl rfl rfl rfl (appgJ rfl u31 (by kernel_rfl : _ = some (some (.string (S [])), 1, 16)) rfl .tc rfl rfl (fun ext w hS => by (exact hS.os)) (by rfl) (by refine ⟨?_, ?_, ?_, ?_⟩ <;> first | exact hls | (try simp) <;> omega) (by (simp [Value.oneCell']; done))) ?_
   rintro ⟨o37, c37, s37⟩ hg37; (try dsimp only at hg37 ⊢)
   refine Kj rfl (Rm rfl rfl) ?_
   refine Kj rfl (lda rfl rfl .tc u50 rfl ?_) ?_
   ·kernel_rfl
   refine Jf rfl rfl rfl rfl rfl (fr_bsN rfl rfl u54 (by kernel_rfl : _ = some (some (.agg #[.bool false, .string (S [])]), 2, 24)) (by kernel_rfl) (by decide) rfl rfl (by (simp [Value.cells]; done)) (by (exact cells_one _)) (by decide)) ?_
   intro b40
   refine Jg rfl rfl rfl rfl rfl (appgNJ rfl u54 (by kernel_rfl : _ = some (some (.agg #[.bool false, .string (S [])]), 2, 24)) (by kernel_rfl) (by decide) .tc rfl rfl (fun ext w hS => by (exact hS.os)) (by rfl) (by refine ⟨?_, ?_, ?_, ?_⟩ <;> first | exact hln | omega) (by (simp [Value.oneCell']; done))) ?_
   rintro ⟨o41, c41, s41⟩ hg41; (try dsimp only at hg41 ⊢)
   refine Kj rfl (Ra rfl rfl) (Kj rfl (Ra rfl rfl) ?_)
   refine WJ.nil ?_
   refine Nn (Xd (Xa (Cg (Kq rfl (Rz rfl rfl rfl (by omega)) (Km rfl (Nn ?_))))))
   refine Lx ((i + 1, o37, c37, s37, o41, c41, s41)) (by (try dsimp only); omega) (S3 rfl rfl rfl) (by refine (Sc ?_ (Sc ?_ (Sc ?_ (S0 _)))) <;> (rfl)) ?_ (by exact fun w h => by rw [ts_strs hil, ts_ints _ hil]; exact st_sub _ h)
   (try dsimp only)
   exact ⟨⟨hil, by omega, by omega⟩, all_take hil hok hx0⟩
 ·(try simp only [sB] at hc16)
  refine Cx (Xc (Xc (Xe ?_)))
  obtain rfl : i = q.1.2.2.length := by omega
  rw [List.take_length] at hok
  rw [List.take_length]
  refine Xa (Cs (Km rfl (Km rfl (Ka rfl (Ka rfl (Ka rfl (Nt (Ce ?_))))))))
  exact Rn rfl (.tmp rfl (.tmp rfl (.tmp rfl .nil))) fun w' hS => ⟨(⟨o, cp, sp⟩, ⟨o2, cp2, sp2⟩), by rw [bsQ, exQ_ok hok, if_neg (fun h => h rfl), List.length_map, List.length_map]; rfl, trivial, hS.below, by rw [bsQ, exQ_ok hok, if_neg (fun h => h rfl)]; exact Fc hS.ocf (Fc hS.ocf Fn)⟩
theorem inrange_c {s : SA} {ws : List Zs} {a : Option Addr} {c : Nat} {w : World} {ok : Nat → Prop} (hF1 : (Fact.sl s.ga (gps s.gs)).holds ok w) (hF2 : (Fact.sl s.va (vrs s.vs)).holds ok w) (hF3 : (Fact.sl a (ints ws)).holds ok w) (hs : saL s) (hw : ws.length = s.vs.length) (hfo : formS s.core) (hz : ∀ x ∈ ws, okZ x) :
  Cw 78 #[saV s, .slice a ws.length c] w (.bool (decide (inR s.core ws))) := by
 have hs' := hs
 obtain ⟨hlg, hlv, hle, hlt, hlm⟩ := hs
 have hoo : okN (ordS s.gs) := ordS_okN hfo.1
 refine En [Fact.sl s.ga (gps s.gs), Fact.sl s.va (vrs s.vs), Fact.sl a (ints ws)] [(0, saV s), (1, .slice a ws.length c)] Tryz.func78 rfl Tryz.ntmps78 rfl (Ac rfl (Ac rfl (An _))) (Fc (fact_any hF1) (Fc (fact_any hF2) (Fc (fact_any hF3) Fn))) ?_
 refine Cs ?_
 refine Kh rfl (Oy rfl rfl) ?_
 intro b2
 refine Ka rfl (Nt (Cq (Cs (Kq rfl (Fa (q := 1) rfl rfl u42 rfl rfl) (Kq rfl (Ld rfl rfl .tc u39) ?_)))))
 refine Kq rfl (rd_len rfl rfl u39) (Km rfl (Nt (Cb ?_)))
 refine Lp (σ := Nat) [(1, _), (2, _), (9, _), (10, _)] (fun gq => [(11, .int .i64 (gq : Int))]) (fun gq => gq ≤ s.vs.length ∧ ∀ j, j < gq → inV (ordS s.gs) (s.vs.getD j default) (ws.getD j default)) (fun gq => s.vs.length - gq) (0) (S4 rfl rfl rfl rfl) (S1 rfl) (by (try dsimp only); exact ⟨Nat.zero_le _, fun _ h => absurd h (Nat.not_lt_zero _)⟩) ?_
 rintro i hinv1; (try dsimp only at hinv1 ⊢)
 obtain ⟨hi, hok⟩ := hinv1
 refine Cs (Kq rfl (rd_lss rfl rfl rfl) (Nt (Cq ?_)))
 refine Cd rfl (fun hc12 => ?_) (fun hc12 => ?_)
 ·(try simp only [sB] at hc12)
  have hil : i < s.vs.length := by omega
  have hwl : i < ws.length := by omega
  have hov : okN (s.vs.getD i default) := hfo.2.1 _ (getD_mem _ _ hil)
  have hoz := (hz _ (getD_mem _ _ hwl)).1
  refine Ck (Xa (Cq (Cb (Cs (Km rfl ?_)))))
  refine Kq rfl (Ib rfl rfl rfl u39 (by omega) (by (rw [flatMap_len _ _ 1 (fun _ => rfl)]; omega))) ?_
  refine Kq rfl (ldma _ rfl rfl u102 rfl (by kernel_rfl : _ = some 1) (fun _ => rfl) (by decide) (Nat.mul_one _).symm (by assumption)) ?_
  refine Kh rfl (Oz [.string (S [])] rfl) ?_
  intro b6
  refine Ka rfl ?_
  refine Nu rfl rfl (Sa rfl rfl rfl .tc) ?_
  refine Nt (Cs (Kq rfl (Fa (q := 0) rfl rfl u102 rfl rfl) (Kq rfl (Ld rfl rfl .tc u22) ?_)))
  refine Ka rfl (Nt (Cq (Cs (Km rfl (Kq rfl (rd_seq rfl rfl rfl) (Nt ?_))))))
  refine Cd rfl (fun hc19 => ?_) (fun hc19 => ?_)
  ·(try simp only [sB] at hc19)
   have hv0 : s.vs.getD i default = [] := by simpa using hc19
   refine Cs ?_
   refine Kq rfl (lda rfl rfl .tc u42 rfl ?_) ?_
   ·kernel_rfl
   refine Ku rfl (Oc rfl rfl (Kv fun w hS => lorder_c (s := s) (by (exact hS.sl)) (by exact hs'))) ?_
   refine Ka rfl (Nt (Cs (Km rfl (Km rfl ?_))))
   refine Kq rfl (Ia rfl rfl rfl u54 (by kernel_rfl : _ = some 2) (by omega) (by (rw [flatMap_len _ _ 2 (fun _ => rfl)]; omega))) ?_
   (refine Kq rfl (faf rfl rfl u50 rfl (by kernel_rfl) (by (try simp only [sN, Int.reduceToNat, Nat.reduceAdd, Nat.reduceMul, Nat.reduceSub]); rfl)) ?_)
   refine Kq rfl (ldmf (sz := 2) _ 0 rfl rfl u4 rfl (fun _ => rfl) rfl (by assumption) (by decide) rfl) ?_
   refine Nt ?_
   refine Cd rfl (fun hc26 => ?_) (fun hc26 => ?_)
   ·(try simp only [sB] at hc26)
    have hn : ¬ inR s.core ws := fun h => by
     have h1 := h i hil; rw [inV, if_pos hv0] at h1; rw [h1.1] at hc26; cases hc26
    refine Cs (Ka rfl (Nt (Ce (Xb (Xf (Xb (Xb (Xf (Xb ?_)))))))))
    exact R1 rfl rfl (by rw [decide_eq_false hn]; rfl)
   ·(try simp only [sB] at hc26)
    refine Ck (Xa (Cs (Km rfl (Km rfl ?_))))
    refine Kq rfl (Ia rfl rfl rfl u54 (by kernel_rfl : _ = some 2) (by omega) (by (rw [flatMap_len _ _ 2 (fun _ => rfl)]; omega))) ?_
    (refine Kq rfl (faf rfl rfl u50 rfl (by kernel_rfl) (by (try simp only [sN, Int.reduceToNat, Nat.reduceAdd, Nat.reduceMul, Nat.reduceSub]); rfl)) ?_)
    refine Kq rfl (ldmf (sz := 2) _ 1 rfl rfl u22 rfl (fun _ => rfl) rfl (by assumption) (by decide) rfl) ?_
    refine Km rfl ?_
    refine Ku rfl (Oc rfl rfl (Kv fun w hS => Cmp_c (a := (ws.getD i default).2))) ?_
    refine Kq rfl (rd_geq rfl rfl rfl) (Nt ?_)
    refine Cd rfl (fun hc34 => ?_) (fun hc34 => ?_)
    ·(try simp only [sB] at hc34)
     have hn : ¬ inR s.core ws := fun h => by
      have h1 := h i hil; rw [inV] at h1; simp only [SA.core] at h1
      (rw [if_pos hv0] at h1; rw [cmpN_ok hoz hoo] at hc34; have := (cmpI_ge _ _).1 hc34; have h2 := h1.2; omega)
     refine Cs (Ka rfl (Nt (Ce (Xf (Xb (Xb (Xf (Xb ?_))))))))
     exact R1 rfl rfl (by rw [decide_eq_false hn]; rfl)
    ·(try simp only [sB] at hc34)
     have hlt : inV (ordS s.gs) (s.vs.getD i default) (ws.getD i default) := by
      rw [inV]; (rw [if_pos hv0]; rw [cmpN_ok hoz hoo, ] at hc34; exact ⟨by simpa using hc26, (cmpI_neg _ _).1 (by omega)⟩)
     refine Ck (Xd (Xa (Cg (Kq rfl (Rz rfl rfl rfl (by omega)) (Km rfl (Nn ?_))))))
     refine Ly (i + 1) (by (try dsimp only); omega) (S4 rfl rfl rfl rfl) (by refine (Sc ?_ (S0 _)) <;> (rfl)) ?_ (by (exact st_sub))
     (try dsimp only)
     exact ⟨hil, fun j hj => by rcases Nat.lt_succ_iff_lt_or_eq.1 hj with h | h; exact hok j h; subst h; exact hlt⟩
  ·(try simp only [sB] at hc19)
   have hv0 : s.vs.getD i default ≠ [] := by simpa using hc19
   refine Ck (Xa (Cs (Km rfl (Km rfl ?_))))
   refine Kq rfl (Ia rfl rfl rfl u54 (by kernel_rfl : _ = some 2) (by omega) (by (rw [flatMap_len _ _ 2 (fun _ => rfl)]; omega))) ?_
   (refine Kq rfl (faf rfl rfl u50 rfl (by kernel_rfl) (by (try simp only [sN, Int.reduceToNat, Nat.reduceAdd, Nat.reduceMul, Nat.reduceSub]); rfl)) ?_)
   refine Kq rfl (ldmf (sz := 2) _ 1 rfl rfl u22 rfl (fun _ => rfl) rfl (by assumption) (by decide) rfl) ?_
   refine Km rfl ?_
   refine Ku rfl (Oc rfl rfl (Kv fun w hS => Cmp_c (a := (ws.getD i default).2))) ?_
   refine Kq rfl (rd_geq rfl rfl rfl) (Nt ?_)
   refine Cd rfl (fun hc34 => ?_) (fun hc34 => ?_)
   ·(try simp only [sB] at hc34)
    have hn : ¬ inR s.core ws := fun h => by
     have h1 := h i hil; rw [inV] at h1; simp only [SA.core] at h1
     (rw [if_neg hv0] at h1; rw [cmpN_ok hoz hov] at hc34; have := (cmpI_ge _ _).1 hc34; omega)
    refine Cs (Ka rfl (Nt (Ce (Xf (Xb (Xb (Xf (Xb ?_))))))))
    exact R1 rfl rfl (by rw [decide_eq_false hn]; rfl)
   ·(try simp only [sB] at hc34)
    have hlt : inV (ordS s.gs) (s.vs.getD i default) (ws.getD i default) := by
     rw [inV]; (rw [if_neg hv0]; rw [cmpN_ok hoz hov] at hc34; exact (cmpI_neg _ _).1 (by omega))
    refine Ck (Xd (Xa (Cg (Kq rfl (Rz rfl rfl rfl (by omega)) (Km rfl (Nn ?_))))))
    refine Ly (i + 1) (by (try dsimp only); omega) (S4 rfl rfl rfl rfl) (by refine (Sc ?_ (S0 _)) <;> (rfl)) ?_ (by (exact st_sub))
    (try dsimp only)
    exact ⟨hil, fun j hj => by rcases Nat.lt_succ_iff_lt_or_eq.1 hj with h | h; exact hok j h; subst h; exact hlt⟩
 ·(try simp only [sB] at hc12)
  refine Cx (Xc (Xc (Xe ?_)))
  obtain rfl : i = s.vs.length := by omega
  refine Xa (Cs (Ka rfl (Nt (Ce ?_))))
  exact R1 rfl rfl (by rw [decide_eq_true (show inR s.core ws from fun j hj => hok j hj)]; rfl)
theorem imS_at {s : SA} {ws : List Zs} {i : Nat} (h : i < s.es.length) (h0 : ∀ q ∈ s.es.take i, (imQ s.gs ws q.1).2 = 0) (h1 : (imQ s.gs ws (s.es.getD i default).1).2 ≠ 0) : imS s.core ws = ([], (imQ s.gs ws (s.es.getD i default).1).2) := by
 have e : errL (s.core.2.2.map fun q => (imQ s.core.1 ws q).2) = (imQ s.gs ws (s.es.getD i default).1).2 := by
  rw [← errL_at (f := fun q : QA => (imQ s.gs ws q.1).2) h h0 h1, List.map_map]; rfl
 rw [imS, e, if_pos h1]
theorem imS_ok {s : SA} {ws : List Zs} (h0 : ∀ q ∈ s.es, (imQ s.gs ws q.1).2 = 0) : imS s.core ws = (s.es.map fun q => (imQ s.gs ws q.1).1, 0) := by
 have e : errL (s.core.2.2.map fun q => (imQ s.core.1 ws q).2) = 0 := errL_map fun q hq => by
  obtain ⟨x, hx, rfl⟩ := List.mem_map.1 hq; exact h0 x hx
 rw [imS, e, if_neg (fun h => h rfl), List.map_map]; rfl
theorem imQ_err {gs : List Gp} {ws : List Zs} {q : Qn} (h : (exQ ws q).2 ≠ 0) : imQ gs ws q = ([], (exQ ws q).2) := by rw [imQ, if_pos h]
theorem imQ_ok {gs : List Gp} {ws : List Zs} {q : Qn} (h : (exQ ws q).2 = 0) : imQ gs ws q = prodS (gs.getD q.1.toNat default) (bsQ ws q) (exQ ws q).1 := by rw [imQ, bsQ, if_neg (fun h2 => h2 h), if_neg (fun h2 => h2 h)]
theorem qs_strs {l : List QA} (f : QA → Bs) {i : Nat} (h : i < l.length) : strs ((l.take (i + 1)).map f) = strs ((l.take i).map f) ++ [.string (S (f (l.getD i default)))] := by
 rw [take_succ_getD h, List.map_append]; simp [strs]
theorem bsQ_len {ws : List Zs} {q : Qn} : (bsQ ws q).length ≤ q.2.2.length := by rw [bsQ]; split <;> simp
theorem exQ_len {ws : List Zs} {q : Qn} : (exQ ws q).1.length ≤ q.2.2.length := by rw [exQ]; split <;> simp
theorem images_c {s : SA} {ws : List Zs} {a : Option Addr} {c : Nat} {w : World} {ok : Nat → Prop} (hF1 : (Fact.sl s.ga (gps s.gs)).holds ok w) (hF2 : (Fact.sl s.ea (qas s.es)).holds ok w) (hF3 : (Fact.sl a (ints ws)).holds ok w) (hM : ∀ f ∈ (s.es.map qaF), f.holds ok w) (hs : saL s) (hw : ws.length = s.vs.length) (hfo : formS s.core) :
  Calls Tryz.prog 47 #[saV s, .slice a ws.length c] w fun e w' => ∃ gx : Rs, e = .returned (.tuple #[gx.val (imS s.core ws).1.length, .int .i64 (imS s.core ws).2]) ∧ (True) ∧ Below w.heap.size w w' ∧ ∀ x ∈ ([Fact.sl gx.a (strs (imS s.core ws).1)] : List Fact), x.holds (fun b => w.heap.size ≤ b) w' := by
 obtain ⟨hlg, hlv, hle, hlt, hlm⟩ := hs
 refine En (Fact.sl s.ga (gps s.gs) :: Fact.sl s.ea (qas s.es) :: Fact.sl a (ints ws) :: (s.es.map qaF)) [(0, saV s), (1, .slice a ws.length c)] Tryz.func47 rfl Tryz.ntmps47 rfl (Ac rfl (Ac rfl (An _))) (Fc (fact_any hF1) (Fc (fact_any hF2) (Fc (fact_any hF3) (facts_more hM)))) ?_
 refine Cs ?_
 refine Kh rfl (Oy rfl rfl) ?_
 intro b2
 refine Kh rfl (Oy rfl rfl) ?_
 intro b3
 refine Ka rfl (Ka rfl (Nt (Cs (Kq rfl (rd_mkf rfl rfl rfl) (Ka rfl (Nt (Cs (Ka rfl (Nt (Cq (Cs (Kq rfl (Fa (q := 2) rfl rfl u42 rfl rfl) (Kq rfl (Ld rfl rfl .tc u40) ?_)))))))))))))
 refine Kq rfl (rd_len rfl rfl u40) (Km rfl (Nt (Cb ?_)))
 refine Lo (σ := Nat × (Option Nat) × Nat × (List Value)) [(2, _), (6, _), (16, _), (17, _)] (fun gq => [(7, .slice (gq.2.1.map fun b => ⟨b, 0, none⟩) gq.1 gq.2.2.1), (18, .int .i64 (gq.1 : Int))]) (fun gq => (gq.1 ≤ s.es.length ∧ gq.2.2.1 = gq.1 + gq.2.2.2.length) ∧ ∀ q ∈ s.es.take gq.1, (imQ s.gs ws q.1).2 = 0) (fun gq => s.es.length - gq.1) (fun gq => [⟨gq.2.1, strs ((s.es.take gq.1).map fun q => (imQ s.gs ws q.1).1) ++ gq.2.2.2, 22⟩, ⟨some b3, [.slice a ws.length c], 54⟩, ⟨some b2, [.slice s.ga s.gs.length s.gc, .slice s.va s.vs.length s.vc, .slice s.ea s.es.length s.ec], 42⟩]) (fun gq => (Fact.sl s.ga (gps s.gs) :: Fact.sl s.ea (qas s.es) :: Fact.sl a (ints ws) :: s.es.map qaF)) (0, none, 0, []) (S4 rfl rfl rfl rfl) (S2 rfl rfl) (by (try dsimp only); exact ⟨⟨Nat.zero_le _, rfl⟩, by simp⟩) (by exact fun w h => h.nil _) ?_
 rintro ⟨i, o, cp, sp⟩ hinv1; (try dsimp only at hinv1 ⊢)
 obtain ⟨⟨hi, hcp⟩, hok⟩ := hinv1
 refine Cs (Kq rfl (rd_lss rfl rfl rfl) (Nt (Cq ?_)))
 refine Cd rfl (fun hc19 => ?_) (fun hc19 => ?_)
 ·(try simp only [sB] at hc19)
  have hil : i < s.es.length := by omega
  have him := getD_mem s.es i hil
  have hlt1 := hlt _ him
  have hfq := hfo.2.2 _ (List.mem_map_of_mem him)
  have hgl : (s.es.getD i default).1.1.toNat < s.gs.length := by have := hfq.1.1.1; have := hfq.1.1.2; simp only [SA.core] at this; omega
  have hg8 := hlm _ (getD_mem _ _ hgl)
  have hq0 := hfq.1.1.1
  refine Ck (Xa (Cq (Cb (Cs ?_))))
  refine Kq rfl (Ia rfl rfl rfl u40 (by kernel_rfl : _ = some 3) (by omega) (by (rw [flatMap_len _ _ 3 (fun _ => rfl)]; omega))) ?_
  refine Kq rfl (ldma _ rfl rfl u99 rfl (by kernel_rfl : _ = some 3) (fun _ => rfl) (by decide) rfl (by assumption)) ?_
  refine Kh rfl (Oz [.int .i64 0, .string (S []), .slice none 0 0] rfl) ?_
  intro b9
  refine Nu rfl rfl (Sa rfl rfl rfl .tc) ?_
  refine Nt (Cs (Km rfl ?_))
  refine Kq rfl (lda rfl rfl .tc u99 rfl ?_) ?_
  ·kernel_rfl
  refine Kh rfl (og_callv rfl rfl rfl (by kernel_rfl) rfl (keep_fr fun w hS => collect_c (q := s.es.getD i default) (ws := ws) (p := b3) (a := a) (c := c) hS.os hS.sl (hS.more (more := s.es.map qaF) _ (List.mem_map_of_mem him)) (by omega) (by exact hlt1) (by exact fun t ht => by have h1 := (hfq.2 t ht).1; refine ⟨h1.1, ?_⟩; rw [hw]; exact h1.2))) ?_
  rintro ⟨gb25, ge25⟩
  refine WL.pu ?_
  intro hg25; (try dsimp only at hg25 ⊢)
  refine WL.fa2 ?_
  refine Km rfl (Kq rfl (Re rfl rfl rfl) (Kq rfl (Re rfl rfl rfl) (Kq rfl (Re rfl rfl rfl) (Ka rfl (Ka rfl (Ka rfl (Nt (Cq (Cs (Km rfl (Kq rfl (rd_neq rfl rfl rfl) (Nt ?_))))))))))))
  refine Cd rfl (fun hc30 => ?_) (fun hc30 => ?_)
  ·(try simp only [sB] at hc30)
   have hr : imQ s.gs ws (s.es.getD i default).1 = ([], (exQ ws (s.es.getD i default).1).2) := imQ_err hc30
   refine Cs (Km rfl (Ka rfl (Ka rfl (Nt (Ce (Xb (Xf (Xb (Xb (Xf (Xb ?_)))))))))))
   exact Rn rfl (.tmp rfl (.tmp rfl .nil)) fun w' hS => ⟨⟨none, 0, []⟩, by rw [imS_at hil hok (by rw [hr]; exact hc30), hr]; rfl, trivial, hS.below, by rw [imS_at hil hok (by rw [hr]; exact hc30)]; exact Fc sl_nilk Fn⟩
  ·(try simp only [sB] at hc30)
   have hr : imQ s.gs ws (s.es.getD i default).1 = prodS (s.gs.getD (s.es.getD i default).1.1.toNat default) (bsQ ws (s.es.getD i default).1) (exQ ws (s.es.getD i default).1).1 := imQ_ok hc30
   refine Ck (Xa (Cs (Kq rfl (Fa (q := 0) rfl rfl u42 rfl rfl) (Kq rfl (Ld rfl rfl .tc u38) ?_))))
   refine Kq rfl (Fa (q := 0) rfl rfl u99 rfl rfl) (Kq rfl (Ld rfl rfl .tc u3) ?_)
   refine Kq rfl (Ia rfl rfl rfl u38 (by kernel_rfl : _ = some 2) (by omega) (by (rw [flatMap_len _ _ 2 (fun _ => rfl)]; omega))) ?_
   refine Kq rfl (ldma _ rfl rfl u26 rfl (by kernel_rfl : _ = some 2) (fun _ => rfl) (by decide) rfl (by assumption)) ?_
   refine Km rfl (Km rfl ?_)
   refine Ku rfl (Oc rfl rfl (Kv fun w hS => pproduct_c (g := s.gs.getD (s.es.getD i default).1.1.toNat default) (l := bsQ ws (s.es.getD i default).1) (es := (exQ ws (s.es.getD i default).1).1) (by (exact hS.sl)) (by (exact hS.sl)) (by exact Nat.le_trans bsQ_len hlt1) (by exact Nat.le_trans exQ_len hlt1) (by exact hg8))) ?_
   refine Km rfl (Kq rfl (Re rfl rfl rfl) (Kq rfl (Re rfl rfl rfl) (Ka rfl (Ka rfl (Nt (Cq (Cs (Km rfl (Kq rfl (rd_neq rfl rfl rfl) (Nt ?_))))))))))
   refine Cd rfl (fun hc45 => ?_) (fun hc45 => ?_)
   ·(try simp only [sB] at hc45)
    refine Cs (Km rfl (Ka rfl (Ka rfl (Nt (Ce (Xb (Xf (Xb (Xb (Xf (Xb ?_)))))))))))
    exact Rn rfl (.tmp rfl (.tmp rfl .nil)) fun w' hS => ⟨⟨none, 0, []⟩, by rw [imS_at hil hok (by rw [hr]; exact hc45), hr]; rfl, trivial, hS.below, by rw [imS_at hil hok (by rw [hr]; exact hc45)]; exact Fc sl_nilk Fn⟩
   ·(try simp only [sB] at hc45)
    have hx0 : (imQ s.gs ws (s.es.getD i default).1).2 = 0 := by rw [hr]; simpa using hc45
    have hls : (strs ((s.es.take i).map fun q => (imQ s.gs ws q.1).1)).length = i := by simp [strs]; omega
    refine Ck (Xa (Cg (Km rfl (Km rfl ?_))))
    refine Kh rfl (og_bs1 rfl rfl u31 (by kernel_rfl : _ = some (some (.string (S [])), 1, 16)) rfl (by simp only [List.map]; rfl) rfl rfl ?_ (by decide)) ?_
    ·simp [Value.cells]
    intro b49
    refine Kh rfl (appg rfl u31 (by kernel_rfl : _ = some (some (.string (S [])), 1, 16)) rfl .tc rfl rfl (fun w hS => by (exact hS.os)) (by rfl) (by refine ⟨?_, ?_, ?_, ?_⟩ <;> first | exact hls | (try simp) <;> omega) (by (simp [Value.oneCell']; done))) ?_
    rintro ⟨o50, c50, s50⟩
    refine WL.pu ?_
    intro hg50; (try dsimp only at hg50 ⊢)
    refine Ka rfl (Nn (Xd (Xa (Cg (Kq rfl (Rz rfl rfl rfl (by omega)) (Km rfl (Nn ?_)))))))
    refine Lx ((i + 1, o50, c50, s50)) (by (try dsimp only); omega) (S4 rfl rfl rfl rfl) (by refine (Sc ?_ (Sc ?_ (S0 _))) <;> (rfl)) ?_ (by exact fun w h => by rw [qs_strs _ hil, hr]; exact st_sub _ h)
    (try dsimp only)
    exact ⟨⟨hil, by omega⟩, all_take hil hok hx0⟩
 ·(try simp only [sB] at hc19)
  refine Cx (Xc (Xc (Xe ?_)))
  obtain rfl : i = s.es.length := by omega
  rw [List.take_length] at hok
  rw [List.take_length]
  refine Xa (Cs (Km rfl (Ka rfl (Ka rfl (Nt (Ce ?_))))))
  exact Rn rfl (.tmp rfl (.tmp rfl .nil)) fun w' hS => ⟨⟨o, cp, sp⟩, by rw [imS_ok hok, List.length_map]; rfl, trivial, hS.below, by rw [imS_ok hok]; exact Fc hS.ocf Fn⟩
theorem rdy_ok {s : Sm} {ws : List Zs} (h : rdyS s ws = 0) : formS s ∧ (∀ x ∈ ws, okZ x) ∧ chkS s = 0 ∧ ws.length = s.2.1.length := by
 unfold rdyS at h
 split at h
 ·simp at h
 ·rename_i h1; split at h
  ·simp at h
  ·rename_i h2; split at h
   ·rename_i h3; exact absurd h h3
   ·rename_i h3; split at h
    ·simp at h
    ·rename_i h4; exact ⟨Decidable.not_not.1 h1, Decidable.not_not.1 h2, Decidable.not_not.1 h3, Decidable.not_not.1 h4⟩
theorem imS_len {s : Sm} {ws : List Zs} (h : (imS s ws).2 = 0) : (imS s ws).1.length = s.2.2.length := by
 unfold imS at h ⊢; split at h
 ·rename_i h1; exact absurd h h1
 ·rename_i h1; rw [if_neg h1]; simp
theorem ext_all {α : Type} [Inhabited α] {x y : List α} (hl : x.length = y.length) (h : ∀ i, i < x.length → x.getD i default = y.getD i default) : x = y := by
 refine List.ext_getElem hl fun i h1 h2 => ?_
 have := h i h1
 rw [List.getD_eq_getElem?_getD, List.getD_eq_getElem?_getD, List.getElem?_eq_getElem h1, List.getElem?_eq_getElem h2] at this; exact this
theorem tgt_getD (l : List QA) (i : Nat) (h : i < l.length) : ((l.map (·.1)).map (·.2.1)).getD i default = (l.getD i default).1.2.1 := by
 rw [List.getD_eq_getElem?_getD, List.getD_eq_getElem?_getD, List.getElem?_map, List.getElem?_map, List.getElem?_eq_getElem h]; rfl
theorem holds_c {s : SA} {ws : List Zs} {a : Option Addr} {c : Nat} {w : World} {ok : Nat → Prop} (hF1 : (Fact.sl s.ga (gps s.gs)).holds ok w) (hF2 : (Fact.sl s.va (vrs s.vs)).holds ok w) (hF3 : (Fact.sl s.ea (qas s.es)).holds ok w) (hF4 : (Fact.sl a (ints ws)).holds ok w) (hM : ∀ f ∈ (s.es.map qaF), f.holds ok w) (hs : saL s) (hw : ws.length ≤ 100000) :
  Cw 32 #[saV s, .slice a ws.length c] w (.tuple #[.bool (hldS s.core ws).1, .int .i64 (hldS s.core ws).2]) := by
 have hs' := hs
 obtain ⟨hlg, hlv, hle, hlt, hlm⟩ := hs
 refine En (Fact.sl s.ga (gps s.gs) :: Fact.sl s.va (vrs s.vs) :: Fact.sl s.ea (qas s.es) :: Fact.sl a (ints ws) :: (s.es.map qaF)) [(0, saV s), (1, .slice a ws.length c)] Tryz.func32 rfl Tryz.ntmps32 rfl (Ac rfl (Ac rfl (An _))) (Fc (fact_any hF1) (Fc (fact_any hF2) (Fc (fact_any hF3) (Fc (fact_any hF4) (facts_more hM))))) ?_
 refine Cs ?_
 refine Kh rfl (Oy rfl rfl) ?_
 intro b2
 refine Ka rfl (Ka rfl (Nt (Cq (Cs ?_))))
 refine Kq rfl (lda rfl rfl .tc u42 rfl ?_) ?_
 ·kernel_rfl
 refine Km rfl ?_
 refine Ku rfl (Oc rfl rfl (Kv fun w hS => ready_c (s := s) (ws := ws) (by (exact hS.sl)) (by (exact hS.sl)) (by (exact hS.sl)) (by (exact hS.sl)) (by (exact hS.more)) (by exact hs') (by exact hw))) ?_
 refine Ka rfl (Nt (Cs (Km rfl (Kq rfl (rd_neq rfl rfl rfl) (Nt ?_)))))
 refine Cd rfl (fun hc15 => ?_) (fun hc15 => ?_)
 ·(try simp only [sB] at hc15)
  have hr : hldS s.core ws = (false, rdyS s.core ws) := by rw [hldS, if_pos hc15]
  refine Cs (Km rfl (Ka rfl (Ka rfl (Nt (Ce (Xb ?_))))))
  exact R2 rfl rfl rfl (by rw [hr]; rfl)
 ·(try simp only [sB] at hc15)
  have h0 : rdyS s.core ws = 0 := by simpa using hc15
  obtain ⟨hfo, hz, hk, hwl⟩ := rdy_ok h0
  refine Ck (Xa (Cq (Cs ?_)))
  refine Kq rfl (lda rfl rfl .tc u42 rfl ?_) ?_
  ·kernel_rfl
  refine Km rfl ?_
  refine Ku rfl (Oc rfl rfl (Kv fun w hS => inrange_c (s := s) (ws := ws) (by (exact hS.sl)) (by (exact hS.sl)) (by (exact hS.sl)) (by exact hs') (by exact hwl) (by exact hfo) (by exact hz))) ?_
  refine Kq rfl (Rt rfl rfl) (Nt ?_)
  refine Cd rfl (fun hc20 => ?_) (fun hc20 => ?_)
  ·(try simp only [sB] at hc20)
   have hr : hldS s.core ws = (false, 0) := by rw [hldS, if_neg (fun h => h h0), if_pos (by simpa using hc20)]
   refine Cs (Ka rfl (Ka rfl (Nt (Ce (Xb ?_)))))
   exact R2 rfl rfl rfl (by rw [hr]; rfl)
  ·(try simp only [sB] at hc20)
   have hin : inR s.core ws := by simpa using hc20
   refine Ck (Xa (Cs ?_))
   refine Kq rfl (lda rfl rfl .tc u42 rfl ?_) ?_
   ·kernel_rfl
   refine Km rfl ?_
   refine Kh rfl (Oc rfl rfl (keep_fr fun w hS => images_c (s := s) (ws := ws) (by (exact hS.sl)) (by (exact hS.sl)) (by (exact hS.sl)) (by (exact hS.more)) (by exact hs') (by exact hwl) (by exact hfo))) ?_
   rintro g24
   refine WL.pu ?_
   intro hg24; (try dsimp only [List.cons_append, List.nil_append] at hg24 ⊢)
   refine Km rfl (Kq rfl (Re rfl rfl rfl) (Kq rfl (Re rfl rfl rfl) (Ka rfl (Ka rfl (Nt (Cq (Cs (Km rfl (Kq rfl (rd_neq rfl rfl rfl) (Nt ?_))))))))))
   refine Cd rfl (fun hc28 => ?_) (fun hc28 => ?_)
   ·(try simp only [sB] at hc28)
    have hr : hldS s.core ws = (false, (imS s.core ws).2) := by rw [hldS, if_neg (fun h => h h0), if_neg (fun h => h hin), if_pos hc28]
    refine Cs (Km rfl (Ka rfl (Ka rfl (Nt (Ce (Xb ?_))))))
    exact R2 rfl rfl rfl (by rw [hr]; rfl)
   ·(try simp only [sB] at hc28)
    have hi0 : (imS s.core ws).2 = 0 := by simpa using hc28
    have hlI : (imS s.core ws).1.length = s.es.length := by rw [imS_len hi0]; simp
    have hr : hldS s.core ws = (decide ((imS s.core ws).1 = s.core.2.2.map (·.2.1)), 0) := by rw [hldS, if_neg (fun h => h h0), if_neg (fun h => h hin), if_neg (fun h => h hi0)]
    refine Ck (Xa (Cq (Cs (Kq rfl (Fa (q := 2) rfl rfl u42 rfl rfl) (Kq rfl (Ld rfl rfl .tc u40) ?_)))))
    refine Kq rfl (rd_len rfl rfl u40) (Km rfl (Nt (Cb ?_)))
    refine Lp (σ := Nat) [(7, _), (31, _), (32, _)] (fun gq => [(33, .int .i64 (gq : Int))]) (fun gq => gq ≤ s.es.length ∧ ∀ j, j < gq → (imS s.core ws).1.getD j default = (s.es.getD j default).1.2.1) (fun gq => s.es.length - gq) (0) (S3 rfl rfl rfl) (S1 rfl) (by (try dsimp only); exact ⟨Nat.zero_le _, fun _ h => absurd h (Nat.not_lt_zero _)⟩) ?_
    rintro i hinv1; (try dsimp only at hinv1 ⊢)
    obtain ⟨hi, hok⟩ := hinv1
    refine Cs (Kq rfl (rd_lss rfl rfl rfl) (Nt (Cq ?_)))
    refine Cd rfl (fun hc34 => ?_) (fun hc34 => ?_)
    ·(try simp only [sB] at hc34)
     have hil : i < s.es.length := by omega
     have hil2 : i < (imS s.core ws).1.length := by omega
     refine Ck (Xa (Cq (Cb (Cs (Km rfl ?_)))))
     refine Kq rfl (Ia rfl rfl rfl u40 (by kernel_rfl : _ = some 3) (by omega) (by (rw [flatMap_len _ _ 3 (fun _ => rfl)]; omega))) ?_
     refine Kq rfl (ldma _ rfl rfl u99 rfl (by kernel_rfl : _ = some 3) (fun _ => rfl) (by decide) rfl (by assumption)) ?_
     refine Kh rfl (Oz [.int .i64 0, .string (S []), .slice none 0 0] rfl) ?_
     intro b10
     refine Ka rfl ?_
     refine Nu rfl rfl (Sa rfl rfl rfl .tc) ?_
     refine Nt (Cq ?_)
     refine Cf [0, 1, 2, 3, 4, 5, 6] [] [0, 0, 0, 0, 0, 0, 0] (by kernel_rfl) (by kernel_rfl) rfl ?_
     refine Kj rfl (Rm rfl rfl) (Kj rfl (Rm rfl rfl) ?_)
     refine Kj rfl (Ib rfl rfl rfl u31 (by omega) (by (rw [List.length_map]; omega))) ?_
     refine Kj rfl (ldm rfl rfl u22 rfl (by assumption)) ?_
     refine Kj rfl (Fa (q := 1) rfl rfl u99 rfl rfl) (Kj rfl (Ld rfl rfl .tc u22) ?_)
     refine Kj rfl (rd_sne rfl rfl rfl) ?_
     refine WJ.nil ?_
     refine Nt ?_
     refine Cd rfl (fun hc44 => ?_) (fun hc44 => ?_)
     ·(try simp only [sB] at hc44)
      have hne : ¬ (imS s.core ws).1 = s.core.2.2.map (·.2.1) := fun h => by
       have h1 := tgt_getD s.es i hil
       exact absurd ((congrArg (fun l : List Bs => l.getD i default) h).trans h1) (by simpa using hc44)
      refine Cs (Ka rfl (Ka rfl (Nt (Ce (Xf (Xb (Xb (Xf (Xb ?_)))))))))
      exact R2 rfl rfl rfl (by rw [hr, decide_eq_false hne]; rfl)
     ·(try simp only [sB] at hc44)
      refine Ck (Xd (Xa (Cg (Kq rfl (Rz rfl rfl rfl (by omega)) (Km rfl (Nn ?_))))))
      refine Ly (i + 1) (by (try dsimp only); omega) (S3 rfl rfl rfl) (by refine (Sc ?_ (S0 _)) <;> (rfl)) ?_ (by (exact st_sub))
      (try dsimp only)
      exact ⟨hil, fun j hj => by rcases Nat.lt_succ_iff_lt_or_eq.1 hj with h | h; exact hok j h; subst h; simpa using hc44⟩
    ·(try simp only [sB] at hc34)
     refine Cx (Xc (Xc (Xe ?_)))
     obtain rfl : i = s.es.length := by omega
     have heq : (imS s.core ws).1 = s.core.2.2.map (·.2.1) := ext_all (by rw [hlI]; simp) fun j hj => by
      have h1 := tgt_getD s.es j (by omega)
      rw [hok j (by omega)]; exact h1.symm
     refine Xa (Cs (Ka rfl (Ka rfl (Nt (Ce ?_)))))
     exact R2 rfl rfl rfl (by rw [hr, decide_eq_true heq]; rfl)
def nrQ (g : Gp) (h acc x hb z : Bs) : Sm := ([g], [hb, z], [(0, acc, [trm x 0, (h, 1, ofZ (-1))])])
theorem mulZ_neg {x : Zs} (h : okZ x) : mulZ (ofZ (-1)) x = (ofZ (-(zv x)), 0) := by
 obtain ⟨n, hn, rfl⟩ := okZ_iff.1 h
 have := mulZ_of (a := -1) (b := n) (by decide +kernel) hn (by rw [Int.neg_one_mul, Int.natAbs_neg]; exact hn)
 rw [zv_ofZ]; rw [Int.neg_one_mul] at this; exact this
theorem okZ_negz {x : Zs} (h : okZ x) : okZ (ofZ (-(zv x))) := okZ_ofZ.2 (by rw [Int.natAbs_neg]; exact okZ_zv h)
theorem nr_im {g : Gp} {h acc x hb z : Bs} {a b : Zs} (hg : chkG g = 0) (hx : elG g x) (hh : elG g h) (ha : okZ a) (hb2 : okZ b) :
  imS (nrQ g h acc x hb z) [a, b] = ([canon (powI (val g.1) (val x) (zv a) * powI (val g.1) (val h) (-(zv b)) % val g.1)], 0) := by
 have e1 : exT [a, b] (trm x 0) = (a, 0) := mulZ_one ha
 have e2 : exT [a, b] (h, 1, ofZ (-1)) = (ofZ (-(zv b)), 0) := mulZ_neg hb2
 have e : exQ [a, b] (0, acc, [trm x 0, (h, 1, ofZ (-1))]) = ([a, ofZ (-(zv b))], 0) := by
  simp only [exQ, List.map_cons, List.map_nil, e1, e2, errL]; simp
 have i : imQ [g] [a, b] (0, acc, [trm x 0, (h, 1, ofZ (-1))]) = prodS g [x, h] [a, ofZ (-(zv b))] := by
  rw [imQ, e]; simp
 have p := prodS_two hg hx hh ha (okZ_negz hb2)
 rw [zv_ofZ] at p
 simp only [imS, nrQ, List.map_cons, List.map_nil, i, p, errL]; simp
theorem powI_one {m x : Nat} : powI m x 1 = x % m := by rw [powI, if_neg (by decide)]; simp
end Go.Proofs.YthkmpjobfdeoaaaGreatDoor
