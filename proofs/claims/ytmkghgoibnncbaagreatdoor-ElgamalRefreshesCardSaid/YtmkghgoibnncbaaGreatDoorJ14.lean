/-
  Parts of the walk: Lin3 Lin4 Lin5 Lin6 Elt Sha.
-/
import Derived.Test.YtmkghgoibnncbaaGreatDoorJ13
namespace Go.Proofs.YtmkghgoibnncbaaGreatDoor
open Go.RowKit
set_option linter.unusedSimpArgs false
set_option linter.unusedVariables false
set_option maxHeartbeats 600000
set_option maxRecDepth 20000
theorem any_dec {α : Type} (l : List α) (p : α → Prop) [DecidablePred p] : (l.any fun x => decide (¬ p x)) = decide (¬ ∀ x ∈ l, p x) := by rw [Bool.eq_iff_iff]; simp
theorem any_dec' {α : Type} (l : List α) (p : α → Prop) [DecidablePred p] : (l.any fun x => decide (p x)) = decide (¬ ∀ x ∈ l, ¬ p x) := by rw [Bool.eq_iff_iff]; simp
instance hasM_appL {a b : List Fact} : HasM (a ++ b) a := ⟨fun _ h => List.mem_append_left _ h⟩
instance hasM_appR {a b c : List Fact} [h : HasM b c] : HasM (a ++ b) c := ⟨fun _ hh => List.mem_append_right _ (h.h _ hh)⟩
theorem elt_c {t : Tm} {g : Gp} {p : Nat} {w : World} {ok : Nat → Prop} (hF1 : (Fact.sl (some ⟨p, 0, none⟩) (gpC g)).holds ok w) (hg : chkG g = 0) (hm8 : g.1.length ≤ 8) :
  Cw 218 #[.agg #[.string (S t.1), .int .i64 t.2.1, .bool t.2.2.1, .string (S t.2.2.2)], .pointer (some ⟨p, 0, none⟩)] w (.bool (decide (¬ elG g t.1))) := by
 refine En [Fact.sl (some ⟨p, 0, none⟩) (gpC g)] [(0, .agg #[.string (S t.1), .int .i64 t.2.1, .bool t.2.2.1, .string (S t.2.2.2)]), (1, .pointer (some ⟨p, 0, none⟩))] Tryz.func218 rfl Tryz.ntmps218 rfl (Ac rfl (Ac rfl (An _))) (Fc (fact_any hF1) Fn) ?_
 refine Cs ?_
 refine Kh rfl (Oy rfl rfl) ?_
 intro b2
 refine Ka rfl (Nt (Cs ?_))
 refine Kq rfl (ldfa (m := 0) rfl rfl .tc u24 rfl (by kernel_rfl : _ = some 2) rfl rfl rfl (by decide)) ?_
 refine Kq rfl (Fa (q := 0) rfl rfl u119 rfl rfl) (Kq rfl (Ld rfl rfl .tc u22) ?_)
 refine Ku rfl (Oc rfl rfl (Kv fun w hS => pwhas_c (g := g) (x := t.1) (by assumption))) ?_
 refine Ns 7 rfl (v' := .bool (decide (elG g t.1))) (congrArg Value.bool (by simp [hg])) ?_
 refine Kq rfl (Rt rfl rfl) (Ka rfl (Nt (Ce ?_)))
 exact R1 rfl rfl (by (simp [tup]; done))
theorem elems_c {s : SA} {w : World} {ok : Nat → Prop} (hF1 : (Fact.sl s.ga (gps s.gs)).holds ok w) (hF2 : (Fact.sl s.ea (qas s.es)).holds ok w) (hM : ∀ f ∈ (s.es.map qaF), f.holds ok w) (hs : saL s) (hfo : formS s.core) :
  Cw 178 #[saV s] w (.int .i64 (if elS s.core then 0 else 13)) := by
 obtain ⟨hlg, hlv, hle, hlt, hlm⟩ := hs
 refine En (Fact.sl s.ga (gps s.gs) :: Fact.sl s.ea (qas s.es) :: (s.es.map qaF)) [(0, saV s)] Tryz.func178 rfl Tryz.ntmps178 rfl (Ac rfl (An _)) (Fc (fact_any hF1) (Fc (fact_any hF2) (facts_more hM))) ?_
 refine Cs ?_
 refine Kh rfl (Oy rfl rfl) ?_
 intro b1
 refine Ka rfl (Nt (Cq (Cs (Kq rfl (Fa (q := 0) rfl rfl u52 rfl rfl) (Kq rfl (Ld rfl rfl .tc u48) ?_)))))
 refine Kq rfl (rd_len rfl rfl u48) (Km rfl (Nt (Cb ?_)))
 refine Lp (σ := Nat) [(1, _), (9, _), (10, _)] (fun gq => [(11, .int .i64 (gq : Int))]) (fun gq => gq ≤ s.gs.length ∧ ∀ g ∈ s.gs.take gq, chkG g = 0) (fun gq => s.gs.length - gq) (0) (S3 rfl rfl rfl) (S1 rfl) (by (try dsimp only); exact ⟨Nat.zero_le _, by simp⟩) ?_
 rintro i hinv1; (try dsimp only at hinv1 ⊢)
 obtain ⟨hi, hok⟩ := hinv1
 refine Cs (Kq rfl (rd_lss rfl rfl rfl) (Nt (Cq ?_)))
 refine Cd rfl (fun hc12 => ?_) (fun hc12 => ?_)
 ·(try simp only [sB] at hc12)
  have hil : i < s.gs.length := by omega
  refine Ck (Xa (Cq (Cb (Cs ?_))))
  refine Kq rfl (Ia rfl rfl rfl u48 (by kernel_rfl : _ = some 2) (by omega) (by (rw [flatMap_len _ _ 2 (fun _ => rfl)]; omega))) ?_
  refine Kq rfl (ldma _ rfl rfl u24 rfl (by kernel_rfl : _ = some 2) (fun _ => rfl) (by decide) rfl (by assumption)) ?_
  refine Kh rfl (Oz [.string (S []), .string (S [])] rfl) ?_
  intro b4
  refine Nu rfl rfl (Sa rfl rfl rfl .tc) ?_
  refine Nt (Cs ?_)
  refine Kq rfl (lda rfl rfl .tc u24 rfl ?_) ?_
  ·kernel_rfl
  refine Ku rfl (Oc rfl rfl (Kv fun w hS => pcheck_c (g := s.gs.getD i default))) ?_
  refine Kq rfl (rd_neq rfl rfl rfl) (Nt ?_)
  refine Cd rfl (fun hc17 => ?_) (fun hc17 => ?_)
  ·(try simp only [sB] at hc17)
   refine Cs (Ka rfl (Nt (Ce (Xf (Xb (Xb (Xf (Xb ?_))))))))
   exact R1 rfl rfl (by rw [if_neg (fun h => absurd (h.1 _ (getD_mem _ _ hil)) (by simpa using hc17))]; rfl)
  ·(try simp only [sB] at hc17)
   refine Ck (Xd (Xa (Cg (Kq rfl (Rz rfl rfl rfl (by omega)) (Km rfl (Nn ?_))))))
   refine Ly (i + 1) (by (try dsimp only); omega) (S3 rfl rfl rfl) (by refine (Sc ?_ (S0 _)) <;> (rfl)) ?_ (by (exact st_sub))
   (try dsimp only)
   exact ⟨hil, all_take hil hok (by simpa using hc17)⟩
 ·(try simp only [sB] at hc12)
  refine Cx (Xc (Xc (Xe ?_)))
  obtain rfl : i = s.gs.length := by omega
  rw [List.take_length] at hok
  refine Xa (Cq (Cs (Kq rfl (Fa (q := 2) rfl rfl u52 rfl rfl) (Kq rfl (Ld rfl rfl .tc u50) ?_))))
  refine Kq rfl (rd_len rfl rfl u50) (Km rfl (Nt (Cb ?_)))
  refine Lp (σ := Nat) [(1, _), (20, _), (21, _)] (fun gq => [(22, .int .i64 (gq : Int))]) (fun gq => gq ≤ s.es.length ∧ ∀ q ∈ s.es.take gq, elQ s.gs q.1) (fun gq => s.es.length - gq) (0) (S3 rfl rfl rfl) (S1 rfl) (by (try dsimp only); exact ⟨Nat.zero_le _, by simp⟩) ?_
  rintro k hinv2; (try dsimp only at hinv2 ⊢)
  obtain ⟨hk, hoq⟩ := hinv2
  refine Cs (Kq rfl (rd_lss rfl rfl rfl) (Nt (Cq ?_)))
  refine Cd rfl (fun hc23 => ?_) (fun hc23 => ?_)
  ·(try simp only [sB] at hc23)
   have hkl : k < s.es.length := by omega
   have hkm := getD_mem s.es k hkl
   have hlt1 := hlt _ hkm
   have hfq := (hfo.2.2 _ (List.mem_map_of_mem hkm)).1.1
   have hgl : (s.es.getD k default).1.1.toNat < s.gs.length := by have := hfq.1; have := hfq.2; simp only [SA.core] at this; omega
   have hg0 := hok _ (getD_mem _ _ hgl)
   have hg8 := hlm _ (getD_mem _ _ hgl)
   refine Ck (Xa (Cq (Cb (Cs ?_))))
   refine Kq rfl (Ia rfl rfl rfl u50 (by kernel_rfl : _ = some 3) (by omega) (by (rw [flatMap_len _ _ 3 (fun _ => rfl)]; omega))) ?_
   refine Kq rfl (ldma _ rfl rfl u123 rfl (by kernel_rfl : _ = some 3) (fun _ => rfl) (by decide) rfl (by assumption)) ?_
   refine Kh rfl (Oz [.int .i64 0, .string (S []), .slice none 0 0] rfl) ?_
   intro b6
   refine Nu rfl rfl (Sa rfl rfl rfl .tc) ?_
   refine Nt (Cs (Kq rfl (Fa (q := 0) rfl rfl u52 rfl rfl) (Kq rfl (Ld rfl rfl .tc u48) ?_)))
   refine Kq rfl (Fa (q := 0) rfl rfl u123 rfl rfl) (Kq rfl (Ld rfl rfl .tc u3) ?_)
   refine Kq rfl (Ia rfl rfl rfl u48 (by kernel_rfl : _ = some 2) (by assumption) (by (rw [flatMap_len _ _ 2 (fun _ => rfl)]; omega))) ?_
   refine Kq rfl (ldma _ rfl rfl u24 rfl (by kernel_rfl : _ = some 2) (fun _ => rfl) (by decide) rfl (by assumption)) ?_
   refine Kh rfl (Oz [.string (S []), .string (S [])] rfl) ?_
   intro b7
   refine Nu rfl rfl (Sa rfl rfl rfl .tc) ?_
   refine Nt ?_
   refine WC.joinP (σ := Unit) [(1, _), (20, _), (21, _), (22, _)] (fun gq => [(42, .bool (decide (¬ (elG (s.gs.getD (s.es.getD k default).1.1.toNat default) (s.es.getD k default).1.2.1 ∧ ∀ t ∈ (s.es.getD k default).1.2.2, elG (s.gs.getD (s.es.getD k default).1.1.toNat default) t.1))))]) (fun gq => True) (S4 rfl rfl rfl rfl) ?_ ?_
   ·skip
    refine Cg ?_
    refine Kq rfl (lda rfl rfl .tc u24 rfl ?_) ?_
    ·kernel_rfl
    refine Kq rfl (Fa (q := 1) rfl rfl u123 rfl rfl) (Kq rfl (Ld rfl rfl .tc u22) ?_)
    refine Ku rfl (Oc rfl rfl (Kv fun w hS => pwhas_c (g := s.gs.getD (s.es.getD k default).1.1.toNat default) (x := (s.es.getD k default).1.2.1) (by exact hg8))) ?_
    refine Ns 35 rfl (v' := .bool (decide (elG (s.gs.getD (s.es.getD k default).1.1.toNat default) (s.es.getD k default).1.2.1))) (congrArg Value.bool (by exact decide_eq_decide.2 ⟨fun h => h.2, fun h => ⟨hg0, h⟩⟩)) ?_
    refine Kq rfl (Rt rfl rfl) (Km rfl ?_)
    refine Nb 37 rfl (fun hg37 => ?_) (fun hg37 => ?_)
    ·(try simp only [sB] at hg37)
     refine Kt rfl (Kt rfl (Kt rfl (Kt rfl (Kq rfl (Rp rfl rfl rfl) (Nn ?_)))))
     refine WX.joinP (()) (S4 rfl rfl rfl rfl) (by refine (Sc ?_ (S0 _)) <;> ((refine congrArg (fun b => some (Value.bool b)) ?_; simp [*, -List.getD_eq_getElem?_getD]; done))) ?_ (by (exact fun _ h => h))
     (try dsimp only)
     done
    ·(try simp only [sB] at hg37)
     refine Kq rfl (Fa (q := 2) rfl rfl u123 rfl rfl) (Kq rfl (Ld rfl rfl .tc u121) ?_)
     refine Kq rfl (rd_mkf rfl rfl rfl) ?_
     refine Ku rfl (Oc rfl rfl (Kv fun w hS => cfT_c (l := (s.es.getD k default).1.2.2) (fk := 218) (p := fun t => decide (¬ elG (s.gs.getD (s.es.getD k default).1.1.toNat default) t.1)) (hS.more (more := s.es.map qaF) _ (List.mem_map_of_mem hkm)) (by exact hlt1) (by kernel_rfl) (by exact fun x hx w' hb => by rw [fnc1]; exact elt_c (fact_keep hS.os hb) hg0 hg8))) ?_
     refine Ns 41 rfl (v' := .bool (decide (¬ ∀ t ∈ (s.es.getD k default).1.2.2, elG (s.gs.getD (s.es.getD k default).1.1.toNat default) t.1))) (congrArg Value.bool (by exact any_dec _ _)) ?_
     refine Kq rfl (Rq rfl rfl rfl) (Nn ?_)
     refine WX.joinP (()) (S4 rfl rfl rfl rfl) (by refine (Sc ?_ (S0 _)) <;> ((refine congrArg (fun b => some (Value.bool b)) ?_; simp [*, -List.getD_eq_getElem?_getD]; done))) ?_ (by (exact fun _ h => h))
     (try dsimp only)
     done
   ·rintro _ hmeet; (try dsimp only at hmeet ⊢)
    refine Cd rfl (fun hc42 => ?_) (fun hc42 => ?_)
    ·(try simp only [sB] at hc42)
     refine Cs (Ka rfl (Nt (Ce (Xf (Xb (Xb (Xf (Xb ?_))))))))
     exact R1 rfl rfl (by rw [if_neg (fun h => absurd (h.2 _ (List.mem_map_of_mem hkm)) hc42)]; rfl)
    ·(try simp only [sB] at hc42)
     refine Ck (Xd (Xa (Cg (Kq rfl (Rz rfl rfl rfl (by omega)) (Km rfl (Nn ?_))))))
     refine Ly (k + 1) (by (try dsimp only); omega) (S3 rfl rfl rfl) (by refine (Sc ?_ (S0 _)) <;> (rfl)) ?_ (by (exact st_sub))
     (try dsimp only)
     exact ⟨hkl, all_take hkl hoq (Decidable.not_not.1 hc42)⟩
  ·(try simp only [sB] at hc23)
   refine Cx (Xc (Xc (Xe ?_)))
   obtain rfl : k = s.es.length := by omega
   rw [List.take_length] at hoq
   refine Xa (Cs (Ka rfl (Nt (Ce ?_))))
   exact R1 rfl rfl (by rw [if_pos ⟨hok, forall_qa.2 hoq⟩]; rfl)
theorem kdv_c {v : Bs} {w : World} :
  Cw 220 #[.agg #[.string (S v)]] w (.bool (decide (v = []))) := by
 refine En [] [(0, .agg #[.string (S v)])] Tryz.func220 rfl Tryz.ntmps220 rfl (Ac rfl (An _)) Fn ?_
 refine Cs ?_
 refine Kh rfl (Oy rfl rfl) ?_
 intro b1
 refine Ka rfl (Nt (Cs (Kq rfl (Fa (q := 0) rfl rfl u117 rfl rfl) (Kq rfl (Ld rfl rfl .tc u22) ?_))))
 refine Kq rfl (rd_seq rfl rfl rfl) (Ka rfl (Nt (Ce ?_)))
 exact R1 rfl rfl (by rfl)
theorem kdg_c {g : Gp} {n : Bs} {p : Nat} {w : World} {ok : Nat → Prop} (hF1 : (Fact.sl (some ⟨p, 0, none⟩) [.string (S n)]).holds ok w) :
  Cw 222 #[.agg #[.string (S g.1), .string (S g.2)], .pointer (some ⟨p, 0, none⟩)] w (.bool (decide (g.2 ≠ [] ∧ g.2 ≠ n))) := by
 refine En [Fact.sl (some ⟨p, 0, none⟩) [.string (S n)]] [(0, .agg #[.string (S g.1), .string (S g.2)]), (1, .pointer (some ⟨p, 0, none⟩))] Tryz.func222 rfl Tryz.ntmps222 rfl (Ac rfl (Ac rfl (An _))) (Fc (fact_any hF1) Fn) ?_
 refine Cs ?_
 refine Kh rfl (Oy rfl rfl) ?_
 intro b2
 refine Ka rfl (Nt (Cs (Kq rfl (Fa (q := 1) rfl rfl u24 rfl rfl) (Kq rfl (Ld rfl rfl .tc u22) ?_))))
 refine Kq rfl (rd_sne rfl rfl rfl) (Km rfl ?_)
 refine Nb 7 rfl (fun hg7 => ?_) (fun hg7 => ?_)
 ·(try simp only [sB] at hg7)
  refine Kq rfl (Fa (q := 1) rfl rfl u24 rfl rfl) (Kq rfl (Ld rfl rfl .tc u22) ?_)
  refine Kq rfl (ldf (m := 0) rfl rfl .tc u22 rfl rfl rfl) ?_
  refine Kq rfl (rd_sne rfl rfl rfl) (Kq rfl (Rp rfl rfl rfl) (Ka rfl (Nt (Ce ?_))))
  exact R1 rfl rfl (by (simp [*, tup]; done))
 ·(try simp only [sB] at hg7)
  refine Kt rfl (Kt rfl (Kt rfl (Kt rfl (Kq rfl (Rq rfl rfl rfl) (Ka rfl (Nt (Ce ?_)))))))
  exact R1 rfl rfl (by (simp [*, tup]; done))
theorem kdt_c {t : Tm} {s : SA} {p : Nat} {w : World} {ok : Nat → Prop} (hF1 : (Fact.sl (some ⟨p, 0, none⟩) [.slice s.ga s.gs.length s.gc, .slice s.va s.vs.length s.vc, .slice s.ea s.es.length s.ec]).holds ok w) (hF2 : (Fact.sl s.va (vrs s.vs)).holds ok w) (ht0 : 0 ≤ t.2.1) (ht1 : t.2.1 < s.vs.length) (hlv : s.vs.length ≤ 100000) :
  Cw 223 #[.agg #[.string (S t.1), .int .i64 t.2.1, .bool t.2.2.1, .string (S t.2.2.2)], .pointer (some ⟨p, 0, none⟩)] w (.bool (decide (s.vs.getD t.2.1.toNat default = []))) := by
 refine En [Fact.sl (some ⟨p, 0, none⟩) [.slice s.ga s.gs.length s.gc, .slice s.va s.vs.length s.vc, .slice s.ea s.es.length s.ec], Fact.sl s.va (vrs s.vs)] [(0, .agg #[.string (S t.1), .int .i64 t.2.1, .bool t.2.2.1, .string (S t.2.2.2)]), (1, .pointer (some ⟨p, 0, none⟩))] Tryz.func223 rfl Tryz.ntmps223 rfl (Ac rfl (Ac rfl (An _))) (Fc (fact_any hF1) (Fc (fact_any hF2) Fn)) ?_
 refine Cs ?_
 refine Kh rfl (Oy rfl rfl) ?_
 intro b2
 refine Ka rfl (Nt (Cs ?_))
 (refine Kq rfl (rd_fa rfl rfl u52 rfl (by kernel_rfl) (by (try simp only [sN, Int.reduceToNat, Nat.reduceAdd, Nat.reduceMul, Nat.reduceSub]); rfl)) ?_)
 refine Kq rfl (ldf (m := 1) rfl rfl .tc u49 rfl rfl rfl) ?_
 refine Kq rfl (Fa (q := 1) rfl rfl u119 rfl rfl) (Kq rfl (Ld rfl rfl .tc u3) ?_)
 refine Kq rfl (Ib rfl rfl rfl u49 (by omega) (by (rw [flatMap_len _ _ 1 (fun _ => rfl)]; omega))) ?_
 (refine Kq rfl (faf rfl rfl u117 rfl (by kernel_rfl) (by (try simp only [sN, Int.reduceToNat, Nat.reduceAdd, Nat.reduceMul, Nat.reduceSub]); rfl)) ?_)
 refine Kq rfl (ldmf (l := s.vs) (f := vrC) (sz := 1) t.2.1.toNat 0 rfl rfl u22 rfl (fun _ => rfl) (Nat.mul_one _).symm (by omega) (by decide) rfl) ?_
 refine Kq rfl (rd_seq rfl rfl rfl) (Ka rfl (Nt (Ce ?_)))
 exact R1 rfl rfl (by rfl)
theorem kinds_c {s : SA} {w : World} {ok : Nat → Prop} (hF1 : (Fact.sl s.ga (gps s.gs)).holds ok w) (hF2 : (Fact.sl s.va (vrs s.vs)).holds ok w) (hF3 : (Fact.sl s.ea (qas s.es)).holds ok w) (hM : ∀ f ∈ (s.es.map qaF), f.holds ok w) (hs : saL s) (hfo : formS s.core) :
  Cw 179 #[saV s] w (.int .i64 (if kdS s.core then 0 else 10)) := by
 have hs' := hs
 obtain ⟨hlg, hlv, hle, hlt, hlm⟩ := hs
 refine En (Fact.sl s.ga (gps s.gs) :: Fact.sl s.va (vrs s.vs) :: Fact.sl s.ea (qas s.es) :: (s.es.map qaF)) [(0, saV s)] Tryz.func179 rfl Tryz.ntmps179 rfl (Ac rfl (An _)) (Fc (fact_any hF1) (Fc (fact_any hF2) (Fc (fact_any hF3) (facts_more hM)))) ?_
 refine Cs ?_
 refine Kh rfl (Oy rfl rfl) ?_
 intro b1
 refine Ka rfl (Nt (Cq (Cs (Kq rfl (Fa (q := 1) rfl rfl u52 rfl rfl) (Kq rfl (Ld rfl rfl .tc u49) ?_)))))
 refine Ku rfl (Oc rfl rfl (Kv fun w hS => cfV_c (l := s.vs) (fk := 220) (cs := #[]) (p := fun v => decide (v = [])) (by (exact hS.sl)) (by exact hlv) (by kernel_rfl) (by exact fun x hx w' hb => by rw [fnc0]; exact kdv_c))) ?_
 refine Ns 8 rfl (v' := .bool (decide (¬ ∀ v ∈ s.vs, v ≠ []))) (congrArg Value.bool (by exact any_dec' _ _)) ?_
 refine Kq rfl (Rt rfl rfl) (Nt ?_)
 refine Cd rfl (fun hc9 => ?_) (fun hc9 => ?_)
 ·(try simp only [sB] at hc9)
  have hr : kdS s.core := Or.inl (by (exact Decidable.not_not.1 hc9))
  refine Cs (Ka rfl (Nt (Ce (Xb ?_))))
  exact R1 rfl rfl (by rw [if_pos hr]; rfl)
 ·(try simp only [sB] at hc9)
  have hnv : ¬ ∀ v ∈ s.vs, v ≠ [] := hc9
  refine Ck (Xa (Cs ?_))
  refine Kq rfl (lda rfl rfl .tc u52 rfl ?_) ?_
  ·kernel_rfl
  refine Ku rfl (Oc rfl rfl (Kv fun w hS => lorder_c (s := s) (by (exact hS.sl)) (by exact hs'))) ?_
  refine Kh rfl (Oa rfl (v := (.string (S []))) (cs := [.string (S [])]) (by kernel_rfl) rfl) ?_
  intro b3
  refine Ng rfl rfl (st rfl rfl rfl .tc (by kernel_rfl) rfl ?_ (by (simp only [List.set_cons_zero, List.set_cons_succ]; rfl))) ?_
  ·decide
  intro _
  refine Nt (Cq ?_)
  refine WC.joinP (σ := Unit) [(1, _)] (fun gq => [(19, .bool (decide (¬ (ordS s.gs ≠ [] ∧ ∀ g ∈ s.gs, ¬ (g.2 ≠ [] ∧ g.2 ≠ ordS s.gs)))))]) (fun gq => True) (S1 rfl) ?_ ?_
  ·skip
   refine Cg (Kq rfl (Ld rfl rfl .tc u22) ?_)
   refine Kq rfl (rd_seq rfl rfl rfl) (Km rfl ?_)
   refine Nb 14 rfl (fun hg14 => ?_) (fun hg14 => ?_)
   ·(try simp only [sB] at hg14)
    refine Kt rfl (Kt rfl (Kt rfl (Kt rfl (Kq rfl (Rp rfl rfl rfl) (Nn ?_)))))
    refine WX.joinP (()) (S1 rfl) (by refine (Sc ?_ (S0 _)) <;> ((refine slot_b rfl ?_; (try dsimp only); (simp [*]; done)))) ?_ (by (exact fun _ h => h))
    (try dsimp only)
    done
   ·(try simp only [sB] at hg14)
    refine Kq rfl (Fa (q := 0) rfl rfl u52 rfl rfl) (Kq rfl (Ld rfl rfl .tc u48) ?_)
    refine Kq rfl (rd_mkf rfl rfl rfl) ?_
    refine Ku rfl (Oc rfl rfl (Kv fun w hS => cfG_c (l := s.gs) (fk := 222) (p := fun g => decide (g.2 ≠ [] ∧ g.2 ≠ ordS s.gs)) (by (exact hS.sl)) (by exact hlg) (by kernel_rfl) (by exact fun x hx w' hb => by rw [fnc1]; exact kdg_c (fact_keep hS.os hb)))) ?_
    refine Ns 18 rfl (v' := .bool (decide (¬ ∀ g ∈ s.gs, ¬ (g.2 ≠ [] ∧ g.2 ≠ ordS s.gs)))) (congrArg Value.bool (by exact any_dec' _ _)) ?_
    refine Kq rfl (Rq rfl rfl rfl) (Nn ?_)
    refine WX.joinP (()) (S1 rfl) (by refine (Sc ?_ (S0 _)) <;> ((refine slot_b rfl ?_; (try dsimp only); (simp [*]; done)))) ?_ (by (exact fun _ h => h))
    (try dsimp only)
    done
  ·rintro _ hmeet; (try dsimp only at hmeet ⊢)
   refine Cd rfl (fun hc19 => ?_) (fun hc19 => ?_)
   ·(try simp only [sB] at hc19)
    refine Cs (Ka rfl (Nt (Ce (Xb ?_))))
    exact R1 rfl rfl (by rw [if_neg (fun h => h.elim hnv fun h => hc19 h.1)]; rfl)
   ·(try simp only [sB] at hc19)
    refine Ck (Xa (Cq (Cs (Kq rfl (Fa (q := 2) rfl rfl u52 rfl rfl) (Kq rfl (Ld rfl rfl .tc u50) ?_)))))
    refine Kq rfl (rd_len rfl rfl u50) (Km rfl (Nt (Cb ?_)))
    refine Lp (σ := Nat) [(1, _), (21, _), (22, _)] (fun gq => [(23, .int .i64 (gq : Int))]) (fun gq => gq ≤ s.es.length ∧ ∀ q ∈ s.es.take gq, kdQ s.gs s.vs q.1) (fun gq => s.es.length - gq) (0) (S3 rfl rfl rfl) (S1 rfl) (by (try dsimp only); exact ⟨Nat.zero_le _, by simp⟩) ?_
    rintro k hinv1; (try dsimp only at hinv1 ⊢)
    obtain ⟨hk, hoq⟩ := hinv1
    refine Cs (Kq rfl (rd_lss rfl rfl rfl) (Nt (Cq ?_)))
    refine Cd rfl (fun hc24 => ?_) (fun hc24 => ?_)
    ·(try simp only [sB] at hc24)
     have hkl : k < s.es.length := by omega
     have hkm := getD_mem s.es k hkl
     have hlt1 := hlt _ hkm
     have hfq := hfo.2.2 _ (List.mem_map_of_mem hkm)
     have hgl : (s.es.getD k default).1.1.toNat < s.gs.length := by have := hfq.1.1.1; have := hfq.1.1.2; simp only [SA.core] at this; omega
     have hq0 := hfq.1.1.1
     refine Ck (Xa (Cq (Cb (Cs ?_))))
     refine Kq rfl (Ia rfl rfl rfl u50 (by kernel_rfl : _ = some 3) (by omega) (by (rw [flatMap_len _ _ 3 (fun _ => rfl)]; omega))) ?_
     refine Kq rfl (ldma _ rfl rfl u123 rfl (by kernel_rfl : _ = some 3) (fun _ => rfl) (by decide) rfl (by assumption)) ?_
     refine Kh rfl (Oz [.int .i64 0, .string (S []), .slice none 0 0] rfl) ?_
     intro b5
     refine Nu rfl rfl (Sa rfl rfl rfl .tc) ?_
     refine Nt (Cq (Cs (Kq rfl (Fa (q := 0) rfl rfl u52 rfl rfl) (Kq rfl (Ld rfl rfl .tc u48) ?_))))
     refine Kq rfl (Fa (q := 0) rfl rfl u123 rfl rfl) (Kq rfl (Ld rfl rfl .tc u3) ?_)
     refine Kq rfl (Ia rfl rfl rfl u48 (by kernel_rfl : _ = some 2) (by omega) (by (rw [flatMap_len _ _ 2 (fun _ => rfl)]; omega))) ?_
     (refine Kq rfl (faf rfl rfl u24 rfl (by kernel_rfl) (by (try simp only [sN, Int.reduceToNat, Nat.reduceAdd, Nat.reduceMul, Nat.reduceSub]); rfl)) ?_)
     refine Kq rfl (ldmf (sz := 2) _ 1 rfl rfl u22 rfl (fun _ => rfl) rfl (by assumption) (by decide) rfl) ?_
     refine Kq rfl (rd_sne rfl rfl rfl) (Nt ?_)
     refine Cd rfl (fun hc34 => ?_) (fun hc34 => ?_)
     ·(try simp only [sB] at hc34)
      refine Cx (Xc (Xe (Xa (Cg (Kq rfl (Rz rfl rfl rfl (by omega)) (Km rfl (Nn ?_)))))))
      refine Ly (k + 1) (by (try dsimp only); omega) (S3 rfl rfl rfl) (by refine (Sc ?_ (S0 _)) <;> (rfl)) ?_ (by (exact st_sub))
      (try dsimp only)
      exact ⟨hkl, all_take hkl hoq (by (exact Or.inl (by simpa using hc34)))⟩
     ·(try simp only [sB] at hc34)
      refine Ck (Xa (Cs (Kq rfl (Fa (q := 2) rfl rfl u123 rfl rfl) (Kq rfl (Ld rfl rfl .tc u121) ?_))))
      refine Kq rfl (rd_mkf rfl rfl rfl) ?_
      refine Ku rfl (Oc rfl rfl (Kv fun w hS => cfT_c (l := (s.es.getD k default).1.2.2) (fk := 223) (p := fun t => decide (s.vs.getD t.2.1.toNat default = [])) (hS.more (more := s.es.map qaF) _ (List.mem_map_of_mem hkm)) (by exact hlt1) (by kernel_rfl) (by exact fun x hx w' hb => by rw [fnc1]; exact kdt_c (fact_keep hS.os hb) (fact_keep hS.sl hb) (hfq.2 x hx).1.1 (hfq.2 x hx).1.2 hlv))) ?_
      refine Ns 38 rfl (v' := .bool (decide (¬ ∀ t ∈ (s.es.getD k default).1.2.2, s.vs.getD t.2.1.toNat default ≠ []))) (congrArg Value.bool (by exact any_dec' _ _)) ?_
      refine Nt ?_
      refine Cd rfl (fun hc38 => ?_) (fun hc38 => ?_)
      ·(try simp only [sB] at hc38)
       refine Cs (Ka rfl (Nt (Ce (Xf (Xb (Xb (Xf (Xb ?_))))))))
       exact R1 rfl rfl (by rw [if_neg (fun h => h.elim hnv fun h => (h.2 _ (List.mem_map_of_mem hkm)).elim (fun h => h (by simpa using hc34)) fun h => hc38 h)]; rfl)
      ·(try simp only [sB] at hc38)
       refine Ck (Xd (Xa (Cg (Kq rfl (Rz rfl rfl rfl (by omega)) (Km rfl (Nn ?_))))))
       refine Ly (k + 1) (by (try dsimp only); omega) (S3 rfl rfl rfl) (by refine (Sc ?_ (S0 _)) <;> (rfl)) ?_ (by (exact st_sub))
       (try dsimp only)
       exact ⟨hkl, all_take hkl hoq (by (exact Or.inr (by simpa using hc38)))⟩
    ·(try simp only [sB] at hc24)
     refine Cx (Xc (Xc (Xe ?_)))
     obtain rfl : k = s.es.length := by omega
     rw [List.take_length] at hoq
     refine Xa (Cs (Ka rfl (Nt (Ce ?_))))
     exact R1 rfl rfl (by rw [if_pos (show kdS s.core from Or.inr ⟨Decidable.not_not.1 hc19, forall_qa.2 hoq⟩)]; rfl)
def chkF (i : Nat) : Nat := [120, 177, 178, 179].getD i default
def chkE (s : Sm) (i : Nat) : Int := [if formS s then 0 else 3, if sizeS s then 0 else 6, if elS s then 0 else 13, if kdS s then 0 else 10].getD i default
theorem chkF_goes {i : Nat} (h : i < 4) : goes Tryz.prog (chkF i) = true := by
 rcases i with _ | _ | _ | _ | i
 ·kernel_rfl
 ·kernel_rfl
 ·kernel_rfl
 ·kernel_rfl
 ·omega
theorem chkE_form {s : Sm} (h : chkE s 0 = 0) : formS s := by
 have h1 : (if formS s then (0 : Int) else 3) = 0 := h
 split at h1
 ·assumption
 ·simp at h1
theorem chkF_c {s : SA} {w : World} {ok : Nat → Prop} (h1 : (Fact.sl s.ga (gps s.gs)).holds ok w) (h2 : (Fact.sl s.va (vrs s.vs)).holds ok w) (h3 : (Fact.sl s.ea (qas s.es)).holds ok w) (hM : ∀ f ∈ s.es.map qaF, f.holds ok w) (hs : saL s) {i : Nat} (hi : i < 4) (h0 : ∀ j, j < i → chkE s.core j = 0) :
  Calls Tryz.prog (chkF i) #[saV s] w fun e w' => e = .returned (.int .i64 (chkE s.core i)) ∧ Below w.heap.size w w' := by
 rcases i with _ | _ | _ | _ | i
 ·exact form_c h1 h2 h3 hM hs
 ·exact sizes_c h1 h2 h3 hs
 ·exact elems_c h1 h3 hM hs (chkE_form (h0 0 (by decide)))
 ·exact kinds_c h1 h2 h3 hM hs (chkE_form (h0 0 (by decide)))
 ·omega
theorem chkS_at {s : Sm} {i : Nat} (hi : i < 4) (h0 : ∀ j, j < i → chkE s j = 0) (h1 : chkE s i ≠ 0) : chkS s = chkE s i := by
 have a0 := h0 0; have a1 := h0 1; have a2 := h0 2
 simp only [chkE, List.getD_cons_zero, List.getD_cons_succ] at a0 a1 a2
 unfold chkS
 rcases i with _ | _ | _ | _ | i
 ·simp only [chkE, List.getD_cons_zero] at h1 ⊢; by_cases h : formS s <;> simp [h] at h1 ⊢
 ·have f0 : formS s := Decidable.byContradiction fun h => by simp [h] at a0
  simp only [chkE, List.getD_cons_zero, List.getD_cons_succ] at h1 ⊢; by_cases h : sizeS s <;> simp [h, f0] at h1 ⊢
 ·have f0 : formS s := Decidable.byContradiction fun h => by simp [h] at a0
  have f1 : sizeS s := Decidable.byContradiction fun h => by simp [h] at a1
  simp only [chkE, List.getD_cons_zero, List.getD_cons_succ] at h1 ⊢; by_cases h : elS s <;> simp [h, f0, f1] at h1 ⊢
 ·have f0 : formS s := Decidable.byContradiction fun h => by simp [h] at a0
  have f1 : sizeS s := Decidable.byContradiction fun h => by simp [h] at a1
  have f2 : elS s := Decidable.byContradiction fun h => by simp [h] at a2
  simp only [chkE, List.getD_cons_zero, List.getD_cons_succ] at h1 ⊢; by_cases h : kdS s <;> simp [h, f0, f1, f2] at h1 ⊢
 ·omega
theorem chkS_ok {s : Sm} (h0 : ∀ j, j < 4 → chkE s j = 0) : chkS s = 0 := by
 have a0 := h0 0 (by decide); have a1 := h0 1 (by decide); have a2 := h0 2 (by decide); have a3 := h0 3 (by decide)
 simp only [chkE, List.getD_cons_zero, List.getD_cons_succ] at a0 a1 a2 a3
 have f0 : formS s := Decidable.byContradiction fun h => by simp [h] at a0
 have f1 : sizeS s := Decidable.byContradiction fun h => by simp [h] at a1
 have f2 : elS s := Decidable.byContradiction fun h => by simp [h] at a2
 have f3 : kdS s := Decidable.byContradiction fun h => by simp [h] at a3
 simp [chkS, f0, f1, f2, f3]
theorem fncall0 (v : Value) : (#[] : Array Value) ++ [v].toArray ++ #[] = #[v] := by simp
theorem lcheck_c {s : SA} {w : World} {ok : Nat → Prop} (hF1 : (Fact.sl s.ga (gps s.gs)).holds ok w) (hF2 : (Fact.sl s.va (vrs s.vs)).holds ok w) (hF3 : (Fact.sl s.ea (qas s.es)).holds ok w) (hM : ∀ f ∈ (s.es.map qaF), f.holds ok w) (hs : saL s) :
  Cw 123 #[saV s] w (.int .i64 (chkS s.core)) := by
 refine En (Fact.sl s.ga (gps s.gs) :: Fact.sl s.va (vrs s.vs) :: Fact.sl s.ea (qas s.es) :: (s.es.map qaF)) [(0, saV s)] Tryz.func123 rfl Tryz.ntmps123 rfl (Ac rfl (An _)) (Fc (fact_any hF1) (Fc (fact_any hF2) (Fc (fact_any hF3) (facts_more hM)))) ?_
 refine Cs ?_
 refine Kh rfl (Oy rfl rfl) ?_
 intro b1
 refine Ka rfl (Nt (Cq (Cs (Kq rfl (Kb [[.nilFunc], [.nilFunc], [.nilFunc], [.nilFunc]] rfl rfl) (Km rfl (Nt (Cb ?_)))))))
 refine Lp (σ := Nat) [(1, _), (6, _)] (fun gq => [(7, .int .i64 (gq : Int))]) (fun gq => gq ≤ 4 ∧ ∀ j, j < gq → chkE s.core j = 0) (fun gq => 4 - gq) (0) (S2 rfl rfl) (S1 rfl) (by (try dsimp only); exact ⟨Nat.zero_le _, fun _ h => absurd h (Nat.not_lt_zero _)⟩) ?_
 rintro i hinv1; (try dsimp only at hinv1 ⊢)
 obtain ⟨hi, hok⟩ := hinv1
 refine Cs (Kq rfl (rd_lss rfl rfl rfl) (Nt (Cq ?_)))
 refine Cd rfl (fun hc8 => ?_) (fun hc8 => ?_)
 ·(try simp only [sB] at hc8)
  have hil : i < 4 := by omega
  refine Ck (Xa (Cq (Cb (Cs ?_))))
  refine Kq rfl (rd_aidx rfl rfl rfl u197 u161 rfl (by kernel_rfl) ?_ (by rw [Int.toNat_natCast]; exact map_getD [120, 177, 178, 179] (fun k : Nat => Value.func (.func k) #[] #[]) i hil)) ?_
  ·omega
  refine Ka rfl (Nt (Cs (Km rfl ?_)))
  refine Kq rfl (lda rfl rfl .tc u52 rfl ?_) ?_
  ·kernel_rfl
  refine Ku rfl (og_callv rfl rfl rfl (chkF_goes hil) (fncall0 _) (Kv fun w hS => chkF_c hS.sl hS.sl hS.sl hS.more hs hil hok)) ?_
  refine Ka rfl (Nt (Cs (Km rfl (Kq rfl (rd_neq rfl rfl rfl) (Nt ?_)))))
  refine Cd rfl (fun hc14 => ?_) (fun hc14 => ?_)
  ·(try simp only [sB] at hc14)
   have hr := chkS_at hil hok hc14
   refine Cs (Km rfl (Ka rfl (Nt (Ce (Xf (Xb (Xb (Xf (Xb ?_)))))))))
   exact R1 rfl rfl (by rw [hr]; rfl)
  ·(try simp only [sB] at hc14)
   refine Ck (Xd (Xa (Cg (Kq rfl (Rz rfl rfl rfl (by omega)) (Km rfl (Nn ?_))))))
   refine Ly (i + 1) (by (try dsimp only); omega) (S2 rfl rfl) (by refine (Sc ?_ (S0 _)) <;> (rfl)) ?_ (by (exact fun _ h => h))
   (try dsimp only)
   exact ⟨hil, fun j hj => by rcases Nat.lt_succ_iff_lt_or_eq.1 hj with h | h; exact hok j h; subst h; simpa using hc14⟩
 ·(try simp only [sB] at hc8)
  refine Cx (Xc (Xc (Xe ?_)))
  obtain rfl : i = 4 := by omega
  refine Xa (Cs (Ka rfl (Nt (Ce ?_))))
  exact R1 rfl rfl (by rw [chkS_ok hok]; rfl)
theorem rdx_c {x : Zs} {w : World} :
  Cw 122 #[.agg #[.bool x.1, .string (S x.2)]] w (.bool (decide (¬ okZ x))) := by
 refine En [] [(0, .agg #[.bool x.1, .string (S x.2)])] Tryz.func122 rfl Tryz.ntmps122 rfl (Ac rfl (An _)) Fn ?_
 refine Cs ?_
 refine Kh rfl (Oy rfl rfl) ?_
 intro b1
 refine Ka rfl (Nt (Cs ?_))
 refine Kq rfl (lda rfl rfl .tc u64 rfl ?_) ?_
 ·kernel_rfl
 refine Ku rfl (Oc rfl rfl (Kv fun w hS => zvalid_c (x := x))) ?_
 refine Kq rfl (Rt rfl rfl) (Ka rfl (Nt (Ce ?_)))
 exact R1 rfl rfl (by (simp [tup]; done))
theorem ready_c {s : SA} {ws : List Zs} {a : Option Addr} {c : Nat} {w : World} {ok : Nat → Prop} (hF1 : (Fact.sl s.ga (gps s.gs)).holds ok w) (hF2 : (Fact.sl s.va (vrs s.vs)).holds ok w) (hF3 : (Fact.sl s.ea (qas s.es)).holds ok w) (hF4 : (Fact.sl a (ints ws)).holds ok w) (hM : ∀ f ∈ (s.es.map qaF), f.holds ok w) (hs : saL s) (hw : ws.length ≤ 100000) :
  Cw 72 #[saV s, .slice a ws.length c] w (.int .i64 (rdyS s.core ws)) := by
 refine En (Fact.sl s.ga (gps s.gs) :: Fact.sl s.va (vrs s.vs) :: Fact.sl s.ea (qas s.es) :: Fact.sl a (ints ws) :: (s.es.map qaF)) [(0, saV s), (1, .slice a ws.length c)] Tryz.func72 rfl Tryz.ntmps72 rfl (Ac rfl (Ac rfl (An _))) (Fc (fact_any hF1) (Fc (fact_any hF2) (Fc (fact_any hF3) (Fc (fact_any hF4) (facts_more hM))))) ?_
 refine Cs ?_
 refine Kh rfl (Oy rfl rfl) ?_
 intro b2
 refine Ka rfl (Nt (Cq ?_))
 refine WC.joinP (σ := Unit) [(1, _), (2, _)] (fun gq => [(12, .bool (decide (¬ (formS s.core ∧ ∀ x ∈ ws, okZ x))))]) (fun gq => True) (S2 rfl rfl) ?_ ?_
 ·skip
  refine Cg ?_
  refine Kq rfl (lda rfl rfl .tc u52 rfl ?_) ?_
  ·kernel_rfl
  refine Ku rfl (Oc rfl rfl (Kv fun w hS => form_c (s := s) (by (exact hS.sl)) (by (exact hS.sl)) (by (exact hS.sl)) (by (exact hS.more)) (by exact hs))) ?_
  refine Kq rfl (rd_neq rfl rfl rfl) ?_
  refine Ns 8 rfl (v' := .bool (decide (¬ formS s.core))) (congrArg Value.bool (by split <;> simp_all)) ?_
  refine Km rfl ?_
  refine Nb 9 rfl (fun hg9 => ?_) (fun hg9 => ?_)
  ·(try simp only [sB] at hg9)
   refine Kt rfl (Kt rfl (Kq rfl (Rp rfl rfl rfl) (Nn ?_)))
   refine WX.joinP (()) (S2 rfl rfl) (by refine (Sc ?_ (S0 _)) <;> ((refine slot_b rfl ?_; (try dsimp only); (simp [*]; done)))) ?_ (by (exact fun _ h => h))
   (try dsimp only)
   done
  ·(try simp only [sB] at hg9)
   refine Km rfl ?_
   refine Ku rfl (Oc rfl rfl (Kv fun w hS => cfZ_c (l := ws) (fk := 122) (cs := #[]) (p := fun x => decide (¬ okZ x)) (by (exact hS.sl)) (by exact hw) (by kernel_rfl) (by exact fun x hx w' hb => by rw [fnc0]; exact rdx_c))) ?_
   refine Ns 11 rfl (v' := .bool (decide (¬ ∀ x ∈ ws, okZ x))) (congrArg Value.bool (by exact any_dec _ _)) ?_
   refine Kq rfl (Rq rfl rfl rfl) (Nn ?_)
   refine WX.joinP (()) (S2 rfl rfl) (by refine (Sc ?_ (S0 _)) <;> ((refine slot_b rfl ?_; (try dsimp only); (simp [*]; done)))) ?_ (by (exact fun _ h => h))
   (try dsimp only)
   done
 ·rintro _ hmeet; (try dsimp only at hmeet ⊢)
  refine Cd rfl (fun hc12 => ?_) (fun hc12 => ?_)
  ·(try simp only [sB] at hc12)
   have hr : rdyS s.core ws = 3 := by
    rw [rdyS]; by_cases h : formS s.core
    ·rw [if_neg (fun h2 => h2 h), if_pos (fun h2 => hc12 ⟨h, h2⟩)]
    ·rw [if_pos h]
   refine Cs (Ka rfl (Nt (Ce (Xb ?_))))
   exact R1 rfl rfl (by rw [hr]; rfl)
  ·(try simp only [sB] at hc12)
   obtain ⟨hf1, hz1⟩ := Decidable.not_not.1 hc12
   refine Ck (Xa (Cq (Cs ?_)))
   refine Kq rfl (lda rfl rfl .tc u52 rfl ?_) ?_
   ·kernel_rfl
   refine Ku rfl (Oc rfl rfl (Kv fun w hS => lcheck_c (s := s) (by (exact hS.sl)) (by (exact hS.sl)) (by (exact hS.sl)) (by (exact hS.more)) (by exact hs))) ?_
   refine Ka rfl (Nt (Cs (Km rfl (Kq rfl (rd_neq rfl rfl rfl) (Nt ?_)))))
   refine Cd rfl (fun hc16 => ?_) (fun hc16 => ?_)
   ·(try simp only [sB] at hc16)
    refine Cs (Km rfl (Ka rfl (Nt (Ce (Xb ?_)))))
    exact R1 rfl rfl (by rw [rdyS, if_neg (fun h => h hf1), if_neg (fun h => h hz1), if_pos (by simpa using hc16)]; rfl)
   ·(try simp only [sB] at hc16)
    have hk0 : chkS s.core = 0 := by simpa using hc16
    refine Ck (Xa (Cq (Cs (Km rfl (Kq rfl (rd_len rfl rfl u71) (Kq rfl (Fa (q := 1) rfl rfl u52 rfl rfl) (Kq rfl (Ld rfl rfl .tc u49) ?_)))))))
    refine Kq rfl (rd_len rfl rfl u49) (Kq rfl (rd_neq rfl rfl rfl) (Nt ?_))
    refine Cd rfl (fun hc23 => ?_) (fun hc23 => ?_)
    ·(try simp only [sB] at hc23)
     refine Cs (Ka rfl (Nt (Ce (Xb ?_))))
     exact R1 rfl rfl (by rw [rdyS, if_neg (fun h => h hf1), if_neg (fun h => h hz1), if_neg (fun h => h hk0), if_pos (fun h => hc23 (by rw [h]))]; rfl)
    ·(try simp only [sB] at hc23)
     refine Ck (Xa (Cs (Ka rfl (Nt (Ce ?_)))))
     exact R1 rfl rfl (by rw [rdyS, if_neg (fun h => h hf1), if_neg (fun h => h hz1), if_neg (fun h => h hk0), if_neg (fun h => h (show ws.length = s.vs.length by omega))]; rfl)
section
variable {P : Program} {ok : Nat → Prop} {w0 w : World} {own : List Ent} {fs : List Fact} {γ : Type} {f : FuncId} {args : Array Value} {val : γ → Value} {p : γ → Prop} {F : γ → List Fact} {xs : List Value}
theorem keep_fr (h : ∀ w, St ok w0 own fs w → Calls P f args w (fun e w' => ∃ g, e = .returned (val g) ∧ p g ∧ Below w.heap.size w w' ∧ ∀ x ∈ F g, x.holds (fun b => w.heap.size ≤ b) w')) :
  ∀ w, St ok w0 own fs w → Calls P f args w (fun e w' => ∃ g, e = .returned (val g) ∧ p g ∧ St ok w0 own (F g ++ fs) w') :=
 keep_ff fun w hS => (h w hS).mono fun _ w' ⟨g, he, hp, hb, hF⟩ => ⟨g, he, hp, hb, fun x hx => x.mono (fun _ h => .inr h) (hF x hx)⟩
theorem St.ocf (h : St ok w0 own fs w) {ob : Option Nat} {sp : List Value} {T : TypeId} {C : Ent → List Ent} [hf : HasC own ob (xs ++ sp) T C] : (Fact.sl (ob.map fun b => ⟨b, 0, none⟩) xs).holds (fun b => w0.heap.size ≤ b) w := by
 obtain ⟨k, hk, _⟩ := hf.h.get
 have := h.own_ _ (List.mem_of_getElem? hk)
 cases ob with
 | none => exact .inl (by have h1 : xs ++ sp = [] := this; simp at h1; exact h1.1)
 | some b =>
  refine .inr ⟨b, 0, (xs ++ sp).toArray, T, (0, 0), rfl, this.1, this.2, fun i hi => ?_⟩
  rw [Nat.zero_add, List.getElem?_toArray, List.getElem?_append_left hi]
end
section
variable {ds : List Deferred} {P : Program} {ops l : List Oper} {Q : Exit → Act → World → Prop} {n : Nat} {L : Slots} {ok : Nat → Prop} {w0 : World} {own : List Ent} {fs : List Fact} {x y : Fact}
theorem WL.fa2 (k : WL ds P ops Q n l L (St ok w0 own (x :: y :: fs))) : WL ds P ops Q n l L (St ok w0 own ([x, y] ++ fs)) := k
end
def bsQ (ws : List Zs) (q : Qn) : List Bs := if (exQ ws q).2 ≠ 0 then [] else q.2.2.map (·.1)
theorem exQ_at {ws : List Zs} {q : Qn} {i : Nat} (h : i < q.2.2.length) (h0 : ∀ t ∈ q.2.2.take i, (exT ws t).2 = 0) (h1 : (exT ws (q.2.2.getD i default)).2 ≠ 0) : exQ ws q = ([], (exT ws (q.2.2.getD i default)).2) := by
 rw [exQ, errL_at h h0 h1, if_pos h1]
theorem exQ_ok {ws : List Zs} {q : Qn} (h0 : ∀ t ∈ q.2.2, (exT ws t).2 = 0) : exQ ws q = (q.2.2.map fun t => (exT ws t).1, 0) := by
 rw [exQ, errL_map h0, if_neg (by decide)]
theorem ts_strs {l : List Tm} {i : Nat} (h : i < l.length) : strs ((l.take (i + 1)).map (·.1)) = strs ((l.take i).map (·.1)) ++ [.string (S (l.getD i default).1)] := by
 rw [take_succ_getD h, List.map_append]; simp [strs]
theorem ts_ints {l : List Tm} (f : Tm → Zs) {i : Nat} (h : i < l.length) : ints ((l.take (i + 1)).map f) = ints ((l.take i).map f) ++ zc (f (l.getD i default)) := by
 rw [take_succ_getD h, List.map_append]; simp
theorem bsQ_at {ws : List Zs} {q : Qn} {i : Nat} (h : i < q.2.2.length) (h0 : ∀ t ∈ q.2.2.take i, (exT ws t).2 = 0) (h1 : (exT ws (q.2.2.getD i default)).2 ≠ 0) : bsQ ws q = [] := by
 rw [bsQ, exQ_at h h0 h1, if_pos h1]
theorem collect_c {q : QA} {ws : List Zs} {p : Nat} {a : Option Addr} {c : Nat} {w : World} {ok : Nat → Prop} (hF1 : (Fact.sl (some ⟨p, 0, none⟩) [.slice a ws.length c]).holds ok w) (hF2 : (Fact.sl a (ints ws)).holds ok w) (hF3 : (Fact.sl q.2.1 (tms q.1.2.2)).holds ok w) (hw : ws.length ≤ 100000) (hl : q.1.2.2.length ≤ 100000) (ht : ∀ t ∈ q.1.2.2, 0 ≤ t.2.1 ∧ t.2.1 < ws.length) :
  Calls Tryz.prog 125 #[.agg #[.int .i64 q.1.1, .string (S q.1.2.1), .slice q.2.1 q.1.2.2.length q.2.2], .pointer (some ⟨p, 0, none⟩)] w fun e w' => ∃ gx : Rs × Rs, e = .returned (.tuple #[gx.1.val (bsQ ws q.1).length, gx.2.val (exQ ws q.1).1.length, .int .i64 (exQ ws q.1).2]) ∧ (True) ∧ Below w.heap.size w w' ∧ ∀ x ∈ ([Fact.sl gx.1.a (strs (bsQ ws q.1)), Fact.sl gx.2.a (ints (exQ ws q.1).1)] : List Fact), x.holds (fun b => w.heap.size ≤ b) w' := by
 refine En [Fact.sl (some ⟨p, 0, none⟩) [.slice a ws.length c], Fact.sl a (ints ws), Fact.sl q.2.1 (tms q.1.2.2)] [(0, .agg #[.int .i64 q.1.1, .string (S q.1.2.1), .slice q.2.1 q.1.2.2.length q.2.2]), (1, .pointer (some ⟨p, 0, none⟩))] Tryz.func125 rfl Tryz.ntmps125 rfl (Ac rfl (Ac rfl (An _))) (Fc (fact_any hF1) (Fc (fact_any hF2) (Fc (fact_any hF3) Fn))) ?_
 refine Cs ?_
 refine Kh rfl (Oy rfl rfl) ?_
 intro b2
 refine Ka rfl (Ka rfl (Ka rfl (Nt (Cs (Ka rfl (Nt (Cs (Ka rfl (Nt (Cq (Cs (Kq rfl (Fa (q := 2) rfl rfl u123 rfl rfl) (Kq rfl (Ld rfl rfl .tc u121) ?_)))))))))))))
 refine Kq rfl (rd_len rfl rfl u121) (Km rfl (Nt (Cb ?_)))
 refine Lo (σ := Nat × (Option Nat) × Nat × (List Value) × (Option Nat) × Nat × (List Value)) [(1, _), (13, _), (14, _)] (fun gq => [(6, .slice (gq.2.1.map fun b => ⟨b, 0, none⟩) gq.1 gq.2.2.1), (7, .slice (gq.2.2.2.2.1.map fun b => ⟨b, 0, none⟩) gq.1 gq.2.2.2.2.2.1), (15, .int .i64 (gq.1 : Int))]) (fun gq => (gq.1 ≤ q.1.2.2.length ∧ gq.2.2.1 = gq.1 + gq.2.2.2.1.length ∧ gq.2.2.2.2.2.1 * 2 = gq.1 * 2 + gq.2.2.2.2.2.2.length) ∧ ∀ t ∈ q.1.2.2.take gq.1, (exT ws t).2 = 0) (fun gq => q.1.2.2.length - gq.1) (fun gq => [⟨gq.2.2.2.2.1, ints ((q.1.2.2.take gq.1).map fun t => (exT ws t).1) ++ gq.2.2.2.2.2.2, 64⟩, ⟨gq.2.1, strs ((q.1.2.2.take gq.1).map (·.1)) ++ gq.2.2.2.1, 22⟩, ⟨some b2, [.int .i64 q.1.1, .string (S q.1.2.1), .slice q.2.1 q.1.2.2.length q.2.2], 123⟩]) (fun gq => [Fact.sl (some ⟨p, 0, none⟩) [.slice a ws.length c], Fact.sl a (ints ws), Fact.sl q.2.1 (tms q.1.2.2)]) (0, none, 0, [], none, 0, []) (S3 rfl rfl rfl) (S3 rfl rfl rfl) (by (try dsimp only); exact ⟨⟨Nat.zero_le _, rfl, rfl⟩, by simp⟩) (by exact fun w h => (h.nil _).nil _) ?_
 rintro ⟨i, o, cp, sp, o2, cp2, sp2⟩ hinv1; (try dsimp only at hinv1 ⊢)
 obtain ⟨⟨hi, hcp, hcp2⟩, hok⟩ := hinv1
 refine Cs (Kq rfl (rd_lss rfl rfl rfl) (Nt (Cq ?_)))
 refine Cd rfl (fun hc16 => ?_) (fun hc16 => ?_)
 ·(try simp only [sB] at hc16)
  have hil : i < q.1.2.2.length := by omega
  have htm := ht _ (getD_mem _ _ hil)
  have htl : (q.1.2.2.getD i default).2.1.toNat < ws.length := by omega
  refine Ck (Xa (Cq (Cb (Cs ?_))))
  refine Kq rfl (Ia rfl rfl rfl u121 (by kernel_rfl : _ = some 4) (by omega) (by (rw [flatMap_len _ _ 4 (fun _ => rfl)]; omega))) ?_
  refine Kq rfl (ldma _ rfl rfl u119 rfl (by kernel_rfl : _ = some 4) (fun _ => rfl) (by decide) rfl (by assumption)) ?_
  refine Kh rfl (Oz [.string (S []), .int .i64 0, .bool false, .string (S [])] rfl) ?_
  intro b9
  refine Nu rfl rfl (Sa rfl rfl rfl .tc) ?_
  refine Nt (Cq ?_)
  refine Cf [0, 1, 2, 3, 4, 5, 6, 7, 8, 9, 11, 12, 10, 13] [] [0, 0, 0, 0, 0, 0, 0, 1, 0, 0, 0, 3, 1, 0] (by kernel_rfl) (by kernel_rfl) rfl ?_
  refine Kj rfl (Fa (q := 2) rfl rfl u119 rfl rfl) ?_
  refine Kj rfl (ldp rfl rfl .tc u64 rfl (by kernel_rfl : _ = some 2) (by rfl) (by rfl)) ?_
  refine Kj rfl (ldf (m := 0) rfl rfl .tc u71 rfl rfl rfl) ?_
  refine Kj rfl (Fa (q := 1) rfl rfl u119 rfl rfl) (Kj rfl (Ld rfl rfl .tc u3) ?_)
  refine Kj rfl (Ia rfl rfl rfl u71 (by kernel_rfl : _ = some 2) (by assumption) (by (rw [flatMap_len _ _ 2 (fun _ => rfl)]; omega))) ?_
  refine Kj rfl (ldma _ rfl rfl u64 rfl (by kernel_rfl : _ = some 2) (fun _ => rfl) (by decide) rfl (by assumption)) ?_
  refine Jv rfl rfl rfl rfl rfl (fun ext => Oc rfl rfl (Kv fun w hS => zmul_c (x := (q.1.2.2.getD i default).2.2) (y := ws.getD (q.1.2.2.getD i default).2.1.toNat default))) ?_
  refine Kj rfl (Rm rfl rfl) (Kj rfl (Re rfl rfl rfl) ?_)
  refine Jf rfl rfl rfl rfl rfl (fr_alloc rfl (v := (.agg #[.bool false, .string (S [])])) (cs := [.bool false, .string (S [])]) (by kernel_rfl) rfl) ?_
  intro b10
  refine WJ.st rfl rfl rfl rfl (staJ rfl rfl rfl ?_ ?_ ?_) ?_
  ·kernel_rfl
  ·simp [Value.oneCell']
  ·rfl
  refine Kj rfl (Re rfl rfl rfl) (Kj rfl (Ra rfl rfl) ?_)
  refine WJ.nil ?_
  refine Nt (Cq (Cs (Km rfl (Kq rfl (rd_neq rfl rfl rfl) (Nt ?_)))))
  refine Cd rfl (fun hc31 => ?_) (fun hc31 => ?_)
  ·(try simp only [sB] at hc31)
   refine Cs (Km rfl (Ka rfl (Ka rfl (Ka rfl (Nt (Ce (Xb (Xf (Xb (Xb (Xf (Xb ?_))))))))))))
   exact Rn rfl (.tmp rfl (.tmp rfl (.tmp rfl .nil))) fun w' hS => ⟨(⟨none, 0, []⟩, ⟨none, 0, []⟩), by rw [bsQ_at hil hok hc31, exQ_at hil hok hc31]; rfl, trivial, hS.below, by rw [bsQ_at hil hok hc31, exQ_at hil hok hc31]; exact Fc sl_nilk (Fc sl_nilk Fn)⟩
  ·(try simp only [sB] at hc31)
   have hx0 : (exT ws (q.1.2.2.getD i default)).2 = 0 := by simpa [exT] using hc31
   have hln : (ints ((q.1.2.2.take i).map fun t => (exT ws t).1)).length = i * 2 := by rw [flatMap_len _ _ 2 (fun _ => rfl), List.length_map, List.length_take]; omega
   have hls : (strs ((q.1.2.2.take i).map (·.1))).length = i := by simp [strs]; omega
   refine Ck (Xa ?_)
   refine WC.free (K := [⟨some b10, [.bool (mulZ (q.1.2.2.getD i default).2.2 (ws.getD (q.1.2.2.getD i default).2.1.toNat default)).1.1, .string (S (mulZ (q.1.2.2.getD i default).2.2 (ws.getD (q.1.2.2.getD i default).2.1.toNat default)).1.2)], 64⟩, ⟨some b9, [.string (S (q.1.2.2.getD i default).1), .int .i64 (q.1.2.2.getD i default).2.1, .bool (q.1.2.2.getD i default).2.2.1, .string (S (q.1.2.2.getD i default).2.2.2)], 119⟩]) (fs0 := []) [0, 1, 2, 3, 4, 5, 6, 7, 8, 9, 10] [] [0, 0, 0, 3, 1, 0, 0, 3, 1, 0, 0] (by kernel_rfl) (by kernel_rfl) rfl ?_
   refine Kj rfl (Rm rfl rfl) (Kj rfl (Fa (q := 0) rfl rfl u119 rfl rfl) (Kj rfl (Ld rfl rfl .tc u22) ?_))
   refine Jf rfl rfl rfl rfl rfl (fr_bs1 rfl rfl u31 (by kernel_rfl : _ = some (some (.string (S [])), 1, 16)) rfl (by simp only [List.map]; rfl) rfl rfl ?_ (by decide)) ?_
   ·simp [Value.cells]
   intro b36
   refine Jg rfl rfl rfl rfl rfl (appgJ rfl u31 (by kernel_rfl : _ = some (some (.string (S [])), 1, 16)) rfl .tc rfl rfl (fun ext w hS => by (exact hS.os)) (by rfl) (by refine ⟨?_, ?_, ?_, ?_⟩ <;> first | exact hls | (try simp) <;> omega) (by (simp [Value.oneCell']; done))) ?_
   rintro ⟨o37, c37, s37⟩ hg37; (try dsimp only at hg37 ⊢)
   refine Kj rfl (Rm rfl rfl) ?_
   refine Kj rfl (lda rfl rfl .tc u64 rfl ?_) ?_
   ·kernel_rfl
   refine Jf rfl rfl rfl rfl rfl (fr_bsN rfl rfl u71 (by kernel_rfl : _ = some (some (.agg #[.bool false, .string (S [])]), 2, 24)) (by kernel_rfl) (by decide) rfl rfl (by (simp [Value.cells]; done)) (by (exact cells_one _)) (by decide)) ?_
   intro b40
   refine Jg rfl rfl rfl rfl rfl (appgNJ rfl u71 (by kernel_rfl : _ = some (some (.agg #[.bool false, .string (S [])]), 2, 24)) (by kernel_rfl) (by decide) .tc rfl rfl (fun ext w hS => by (exact hS.os)) (by rfl) (by refine ⟨?_, ?_, ?_, ?_⟩ <;> first | exact hln | omega) (by (simp [Value.oneCell']; done))) ?_
   rintro ⟨o41, c41, s41⟩ hg41; (try dsimp only at hg41 ⊢)
   refine Kj rfl (Ra rfl rfl) (Kj rfl (Ra rfl rfl) ?_)
   refine WJ.nil ?_
   refine Nn (Xd (Xa (Cg (Kq rfl (Rz rfl rfl rfl (by omega)) (Km rfl (Nn ?_))))))
   refine Lx ((i + 1, o37, c37, s37, o41, c41, s41)) (by (try dsimp only); omega) (S3 rfl rfl rfl) (by refine (Sc ?_ (Sc ?_ (Sc ?_ (S0 _)))) <;> (rfl)) ?_ (by exact fun w h => by rw [ts_strs hil, ts_ints _ hil]; exact st_sub _ h)
   (try dsimp only)
   exact ⟨⟨hil, by omega, by omega⟩, all_take hil hok hx0⟩
 ·(try simp only [sB] at hc16)
  refine Cx (Xc (Xc (Xe ?_)))
  obtain rfl : i = q.1.2.2.length := by omega
  rw [List.take_length] at hok
  rw [List.take_length]
  refine Xa (Cs (Km rfl (Km rfl (Ka rfl (Ka rfl (Ka rfl (Nt (Ce ?_))))))))
  exact Rn rfl (.tmp rfl (.tmp rfl (.tmp rfl .nil))) fun w' hS => ⟨(⟨o, cp, sp⟩, ⟨o2, cp2, sp2⟩), by rw [bsQ, exQ_ok hok, if_neg (fun h => h rfl), List.length_map, List.length_map]; rfl, trivial, hS.below, by rw [bsQ, exQ_ok hok, if_neg (fun h => h rfl)]; exact Fc hS.ocf (Fc hS.ocf Fn)⟩
theorem inrange_c {s : SA} {ws : List Zs} {a : Option Addr} {c : Nat} {w : World} {ok : Nat → Prop} (hF1 : (Fact.sl s.ga (gps s.gs)).holds ok w) (hF2 : (Fact.sl s.va (vrs s.vs)).holds ok w) (hF3 : (Fact.sl a (ints ws)).holds ok w) (hs : saL s) (hw : ws.length = s.vs.length) (hfo : formS s.core) (hz : ∀ x ∈ ws, okZ x) :
  Cw 73 #[saV s, .slice a ws.length c] w (.bool (decide (inR s.core ws))) := by
 have hs' := hs
 obtain ⟨hlg, hlv, hle, hlt, hlm⟩ := hs
 have hoo : okN (ordS s.gs) := ordS_okN hfo.1
 refine En [Fact.sl s.ga (gps s.gs), Fact.sl s.va (vrs s.vs), Fact.sl a (ints ws)] [(0, saV s), (1, .slice a ws.length c)] Tryz.func73 rfl Tryz.ntmps73 rfl (Ac rfl (Ac rfl (An _))) (Fc (fact_any hF1) (Fc (fact_any hF2) (Fc (fact_any hF3) Fn))) ?_
 refine Cs ?_
 refine Kh rfl (Oy rfl rfl) ?_
 intro b2
 refine Ka rfl (Nt (Cq (Cs (Kq rfl (Fa (q := 1) rfl rfl u52 rfl rfl) (Kq rfl (Ld rfl rfl .tc u49) ?_)))))
 refine Kq rfl (rd_len rfl rfl u49) (Km rfl (Nt (Cb ?_)))
 refine Lp (σ := Nat) [(1, _), (2, _), (9, _), (10, _)] (fun gq => [(11, .int .i64 (gq : Int))]) (fun gq => gq ≤ s.vs.length ∧ ∀ j, j < gq → inV (ordS s.gs) (s.vs.getD j default) (ws.getD j default)) (fun gq => s.vs.length - gq) (0) (S4 rfl rfl rfl rfl) (S1 rfl) (by (try dsimp only); exact ⟨Nat.zero_le _, fun _ h => absurd h (Nat.not_lt_zero _)⟩) ?_
 rintro i hinv1; (try dsimp only at hinv1 ⊢)
 obtain ⟨hi, hok⟩ := hinv1
 refine Cs (Kq rfl (rd_lss rfl rfl rfl) (Nt (Cq ?_)))
 refine Cd rfl (fun hc12 => ?_) (fun hc12 => ?_)
 ·(try simp only [sB] at hc12)
  have hil : i < s.vs.length := by omega
  have hwl : i < ws.length := by omega
  have hov : okN (s.vs.getD i default) := hfo.2.1 _ (getD_mem _ _ hil)
  have hoz := (hz _ (getD_mem _ _ hwl)).1
  refine Ck (Xa (Cq (Cb (Cs (Km rfl ?_)))))
  refine Kq rfl (Ib rfl rfl rfl u49 (by omega) (by (rw [flatMap_len _ _ 1 (fun _ => rfl)]; omega))) ?_
  refine Kq rfl (ldma _ rfl rfl u117 rfl (by kernel_rfl : _ = some 1) (fun _ => rfl) (by decide) (Nat.mul_one _).symm (by assumption)) ?_
  refine Kh rfl (Oz [.string (S [])] rfl) ?_
  intro b6
  refine Ka rfl ?_
  refine Nu rfl rfl (Sa rfl rfl rfl .tc) ?_
  refine Nt (Cs (Kq rfl (Fa (q := 0) rfl rfl u117 rfl rfl) (Kq rfl (Ld rfl rfl .tc u22) ?_)))
  refine Ka rfl (Nt (Cq (Cs (Km rfl (Kq rfl (rd_seq rfl rfl rfl) (Nt ?_))))))
  refine Cd rfl (fun hc19 => ?_) (fun hc19 => ?_)
  ·(try simp only [sB] at hc19)
   have hv0 : s.vs.getD i default = [] := by simpa using hc19
   refine Cs ?_
   refine Kq rfl (lda rfl rfl .tc u52 rfl ?_) ?_
   ·kernel_rfl
   refine Ku rfl (Oc rfl rfl (Kv fun w hS => lorder_c (s := s) (by (exact hS.sl)) (by exact hs'))) ?_
   refine Ka rfl (Nt (Cs (Km rfl (Km rfl ?_))))
   refine Kq rfl (Ia rfl rfl rfl u71 (by kernel_rfl : _ = some 2) (by omega) (by (rw [flatMap_len _ _ 2 (fun _ => rfl)]; omega))) ?_
   (refine Kq rfl (faf rfl rfl u64 rfl (by kernel_rfl) (by (try simp only [sN, Int.reduceToNat, Nat.reduceAdd, Nat.reduceMul, Nat.reduceSub]); rfl)) ?_)
   refine Kq rfl (ldmf (sz := 2) _ 0 rfl rfl u4 rfl (fun _ => rfl) rfl (by assumption) (by decide) rfl) ?_
   refine Nt ?_
   refine Cd rfl (fun hc26 => ?_) (fun hc26 => ?_)
   ·(try simp only [sB] at hc26)
    have hn : ¬ inR s.core ws := fun h => by
     have h1 := h i hil; rw [inV, if_pos hv0] at h1; rw [h1.1] at hc26; cases hc26
    refine Cs (Ka rfl (Nt (Ce (Xb (Xf (Xb (Xb (Xf (Xb ?_)))))))))
    exact R1 rfl rfl (by rw [decide_eq_false hn]; rfl)
   ·(try simp only [sB] at hc26)
    refine Ck (Xa (Cs (Km rfl (Km rfl ?_))))
    refine Kq rfl (Ia rfl rfl rfl u71 (by kernel_rfl : _ = some 2) (by omega) (by (rw [flatMap_len _ _ 2 (fun _ => rfl)]; omega))) ?_
    (refine Kq rfl (faf rfl rfl u64 rfl (by kernel_rfl) (by (try simp only [sN, Int.reduceToNat, Nat.reduceAdd, Nat.reduceMul, Nat.reduceSub]); rfl)) ?_)
    refine Kq rfl (ldmf (sz := 2) _ 1 rfl rfl u22 rfl (fun _ => rfl) rfl (by assumption) (by decide) rfl) ?_
    refine Km rfl ?_
    refine Ku rfl (Oc rfl rfl (Kv fun w hS => Cmp_c (a := (ws.getD i default).2))) ?_
    refine Kq rfl (rd_geq rfl rfl rfl) (Nt ?_)
    refine Cd rfl (fun hc34 => ?_) (fun hc34 => ?_)
    ·(try simp only [sB] at hc34)
     have hn : ¬ inR s.core ws := fun h => by
      have h1 := h i hil; rw [inV] at h1; simp only [SA.core] at h1
      (rw [if_pos hv0] at h1; rw [cmpN_ok hoz hoo] at hc34; have := (cmpI_ge _ _).1 hc34; have h2 := h1.2; omega)
     refine Cs (Ka rfl (Nt (Ce (Xf (Xb (Xb (Xf (Xb ?_))))))))
     exact R1 rfl rfl (by rw [decide_eq_false hn]; rfl)
    ·(try simp only [sB] at hc34)
     have hlt : inV (ordS s.gs) (s.vs.getD i default) (ws.getD i default) := by
      rw [inV]; (rw [if_pos hv0]; rw [cmpN_ok hoz hoo, ] at hc34; exact ⟨by simpa using hc26, (cmpI_neg _ _).1 (by omega)⟩)
     refine Ck (Xd (Xa (Cg (Kq rfl (Rz rfl rfl rfl (by omega)) (Km rfl (Nn ?_))))))
     refine Ly (i + 1) (by (try dsimp only); omega) (S4 rfl rfl rfl rfl) (by refine (Sc ?_ (S0 _)) <;> (rfl)) ?_ (by (exact st_sub))
     (try dsimp only)
     exact ⟨hil, fun j hj => by rcases Nat.lt_succ_iff_lt_or_eq.1 hj with h | h; exact hok j h; subst h; exact hlt⟩
  ·(try simp only [sB] at hc19)
   have hv0 : s.vs.getD i default ≠ [] := by simpa using hc19
   refine Ck (Xa (Cs (Km rfl (Km rfl ?_))))
   refine Kq rfl (Ia rfl rfl rfl u71 (by kernel_rfl : _ = some 2) (by omega) (by (rw [flatMap_len _ _ 2 (fun _ => rfl)]; omega))) ?_
   (refine Kq rfl (faf rfl rfl u64 rfl (by kernel_rfl) (by (try simp only [sN, Int.reduceToNat, Nat.reduceAdd, Nat.reduceMul, Nat.reduceSub]); rfl)) ?_)
   refine Kq rfl (ldmf (sz := 2) _ 1 rfl rfl u22 rfl (fun _ => rfl) rfl (by assumption) (by decide) rfl) ?_
   refine Km rfl ?_
   refine Ku rfl (Oc rfl rfl (Kv fun w hS => Cmp_c (a := (ws.getD i default).2))) ?_
   refine Kq rfl (rd_geq rfl rfl rfl) (Nt ?_)
   refine Cd rfl (fun hc34 => ?_) (fun hc34 => ?_)
   ·(try simp only [sB] at hc34)
    have hn : ¬ inR s.core ws := fun h => by
     have h1 := h i hil; rw [inV] at h1; simp only [SA.core] at h1
     (rw [if_neg hv0] at h1; rw [cmpN_ok hoz hov] at hc34; have := (cmpI_ge _ _).1 hc34; omega)
    refine Cs (Ka rfl (Nt (Ce (Xf (Xb (Xb (Xf (Xb ?_))))))))
    exact R1 rfl rfl (by rw [decide_eq_false hn]; rfl)
   ·(try simp only [sB] at hc34)
    have hlt : inV (ordS s.gs) (s.vs.getD i default) (ws.getD i default) := by
     rw [inV]; (rw [if_neg hv0]; rw [cmpN_ok hoz hov] at hc34; exact (cmpI_neg _ _).1 (by omega))
    refine Ck (Xd (Xa (Cg (Kq rfl (Rz rfl rfl rfl (by omega)) (Km rfl (Nn ?_))))))
    refine Ly (i + 1) (by (try dsimp only); omega) (S4 rfl rfl rfl rfl) (by refine (Sc ?_ (S0 _)) <;> (rfl)) ?_ (by (exact st_sub))
    (try dsimp only)
    exact ⟨hil, fun j hj => by rcases Nat.lt_succ_iff_lt_or_eq.1 hj with h | h; exact hok j h; subst h; exact hlt⟩
 ·(try simp only [sB] at hc12)
  refine Cx (Xc (Xc (Xe ?_)))
  obtain rfl : i = s.vs.length := by omega
  refine Xa (Cs (Ka rfl (Nt (Ce ?_))))
  exact R1 rfl rfl (by rw [decide_eq_true (show inR s.core ws from fun j hj => hok j hj)]; rfl)
theorem imS_at {s : SA} {ws : List Zs} {i : Nat} (h : i < s.es.length) (h0 : ∀ q ∈ s.es.take i, (imQ s.gs ws q.1).2 = 0) (h1 : (imQ s.gs ws (s.es.getD i default).1).2 ≠ 0) : imS s.core ws = ([], (imQ s.gs ws (s.es.getD i default).1).2) := by
 have e : errL (s.core.2.2.map fun q => (imQ s.core.1 ws q).2) = (imQ s.gs ws (s.es.getD i default).1).2 := by
  rw [← errL_at (f := fun q : QA => (imQ s.gs ws q.1).2) h h0 h1, List.map_map]; rfl
 rw [imS, e, if_pos h1]
theorem imS_ok {s : SA} {ws : List Zs} (h0 : ∀ q ∈ s.es, (imQ s.gs ws q.1).2 = 0) : imS s.core ws = (s.es.map fun q => (imQ s.gs ws q.1).1, 0) := by
 have e : errL (s.core.2.2.map fun q => (imQ s.core.1 ws q).2) = 0 := errL_map fun q hq => by
  obtain ⟨x, hx, rfl⟩ := List.mem_map.1 hq; exact h0 x hx
 rw [imS, e, if_neg (fun h => h rfl), List.map_map]; rfl
theorem imQ_err {gs : List Gp} {ws : List Zs} {q : Qn} (h : (exQ ws q).2 ≠ 0) : imQ gs ws q = ([], (exQ ws q).2) := by rw [imQ, if_pos h]
theorem imQ_ok {gs : List Gp} {ws : List Zs} {q : Qn} (h : (exQ ws q).2 = 0) : imQ gs ws q = prodS (gs.getD q.1.toNat default) (bsQ ws q) (exQ ws q).1 := by rw [imQ, bsQ, if_neg (fun h2 => h2 h), if_neg (fun h2 => h2 h)]
theorem qs_strs {l : List QA} (f : QA → Bs) {i : Nat} (h : i < l.length) : strs ((l.take (i + 1)).map f) = strs ((l.take i).map f) ++ [.string (S (f (l.getD i default)))] := by
 rw [take_succ_getD h, List.map_append]; simp [strs]
theorem bsQ_len {ws : List Zs} {q : Qn} : (bsQ ws q).length ≤ q.2.2.length := by rw [bsQ]; split <;> simp
theorem exQ_len {ws : List Zs} {q : Qn} : (exQ ws q).1.length ≤ q.2.2.length := by rw [exQ]; split <;> simp
theorem images_c {s : SA} {ws : List Zs} {a : Option Addr} {c : Nat} {w : World} {ok : Nat → Prop} (hF1 : (Fact.sl s.ga (gps s.gs)).holds ok w) (hF2 : (Fact.sl s.ea (qas s.es)).holds ok w) (hF3 : (Fact.sl a (ints ws)).holds ok w) (hM : ∀ f ∈ (s.es.map qaF), f.holds ok w) (hs : saL s) (hw : ws.length = s.vs.length) (hfo : formS s.core) :
  Calls Tryz.prog 74 #[saV s, .slice a ws.length c] w fun e w' => ∃ gx : Rs, e = .returned (.tuple #[gx.val (imS s.core ws).1.length, .int .i64 (imS s.core ws).2]) ∧ (True) ∧ Below w.heap.size w w' ∧ ∀ x ∈ ([Fact.sl gx.a (strs (imS s.core ws).1)] : List Fact), x.holds (fun b => w.heap.size ≤ b) w' := by
 obtain ⟨hlg, hlv, hle, hlt, hlm⟩ := hs
 refine En (Fact.sl s.ga (gps s.gs) :: Fact.sl s.ea (qas s.es) :: Fact.sl a (ints ws) :: (s.es.map qaF)) [(0, saV s), (1, .slice a ws.length c)] Tryz.func74 rfl Tryz.ntmps74 rfl (Ac rfl (Ac rfl (An _))) (Fc (fact_any hF1) (Fc (fact_any hF2) (Fc (fact_any hF3) (facts_more hM)))) ?_
 refine Cs ?_
 refine Kh rfl (Oy rfl rfl) ?_
 intro b2
 refine Kh rfl (Oy rfl rfl) ?_
 intro b3
 refine Ka rfl (Ka rfl (Nt (Cs (Kq rfl (rd_mkf rfl rfl rfl) (Ka rfl (Nt (Cs (Ka rfl (Nt (Cq (Cs (Kq rfl (Fa (q := 2) rfl rfl u52 rfl rfl) (Kq rfl (Ld rfl rfl .tc u50) ?_)))))))))))))
 refine Kq rfl (rd_len rfl rfl u50) (Km rfl (Nt (Cb ?_)))
 refine Lo (σ := Nat × (Option Nat) × Nat × (List Value)) [(2, _), (6, _), (16, _), (17, _)] (fun gq => [(7, .slice (gq.2.1.map fun b => ⟨b, 0, none⟩) gq.1 gq.2.2.1), (18, .int .i64 (gq.1 : Int))]) (fun gq => (gq.1 ≤ s.es.length ∧ gq.2.2.1 = gq.1 + gq.2.2.2.length) ∧ ∀ q ∈ s.es.take gq.1, (imQ s.gs ws q.1).2 = 0) (fun gq => s.es.length - gq.1) (fun gq => [⟨gq.2.1, strs ((s.es.take gq.1).map fun q => (imQ s.gs ws q.1).1) ++ gq.2.2.2, 22⟩, ⟨some b3, [.slice a ws.length c], 71⟩, ⟨some b2, [.slice s.ga s.gs.length s.gc, .slice s.va s.vs.length s.vc, .slice s.ea s.es.length s.ec], 52⟩]) (fun gq => (Fact.sl s.ga (gps s.gs) :: Fact.sl s.ea (qas s.es) :: Fact.sl a (ints ws) :: s.es.map qaF)) (0, none, 0, []) (S4 rfl rfl rfl rfl) (S2 rfl rfl) (by (try dsimp only); exact ⟨⟨Nat.zero_le _, rfl⟩, by simp⟩) (by exact fun w h => h.nil _) ?_
 rintro ⟨i, o, cp, sp⟩ hinv1; (try dsimp only at hinv1 ⊢)
 obtain ⟨⟨hi, hcp⟩, hok⟩ := hinv1
 refine Cs (Kq rfl (rd_lss rfl rfl rfl) (Nt (Cq ?_)))
 refine Cd rfl (fun hc19 => ?_) (fun hc19 => ?_)
 ·(try simp only [sB] at hc19)
  have hil : i < s.es.length := by omega
  have him := getD_mem s.es i hil
  have hlt1 := hlt _ him
  have hfq := hfo.2.2 _ (List.mem_map_of_mem him)
  have hgl : (s.es.getD i default).1.1.toNat < s.gs.length := by have := hfq.1.1.1; have := hfq.1.1.2; simp only [SA.core] at this; omega
  have hg8 := hlm _ (getD_mem _ _ hgl)
  have hq0 := hfq.1.1.1
  refine Ck (Xa (Cq (Cb (Cs ?_))))
  refine Kq rfl (Ia rfl rfl rfl u50 (by kernel_rfl : _ = some 3) (by omega) (by (rw [flatMap_len _ _ 3 (fun _ => rfl)]; omega))) ?_
  refine Kq rfl (ldma _ rfl rfl u123 rfl (by kernel_rfl : _ = some 3) (fun _ => rfl) (by decide) rfl (by assumption)) ?_
  refine Kh rfl (Oz [.int .i64 0, .string (S []), .slice none 0 0] rfl) ?_
  intro b9
  refine Nu rfl rfl (Sa rfl rfl rfl .tc) ?_
  refine Nt (Cs (Km rfl ?_))
  refine Kq rfl (lda rfl rfl .tc u123 rfl ?_) ?_
  ·kernel_rfl
  refine Kh rfl (og_callv rfl rfl rfl (by kernel_rfl) rfl (keep_fr fun w hS => collect_c (q := s.es.getD i default) (ws := ws) (p := b3) (a := a) (c := c) hS.os hS.sl (hS.more (more := s.es.map qaF) _ (List.mem_map_of_mem him)) (by omega) (by exact hlt1) (by exact fun t ht => by have h1 := (hfq.2 t ht).1; refine ⟨h1.1, ?_⟩; rw [hw]; exact h1.2))) ?_
  rintro ⟨gb25, ge25⟩
  refine WL.pu ?_
  intro hg25; (try dsimp only at hg25 ⊢)
  refine WL.fa2 ?_
  refine Km rfl (Kq rfl (Re rfl rfl rfl) (Kq rfl (Re rfl rfl rfl) (Kq rfl (Re rfl rfl rfl) (Ka rfl (Ka rfl (Ka rfl (Nt (Cq (Cs (Km rfl (Kq rfl (rd_neq rfl rfl rfl) (Nt ?_))))))))))))
  refine Cd rfl (fun hc30 => ?_) (fun hc30 => ?_)
  ·(try simp only [sB] at hc30)
   have hr : imQ s.gs ws (s.es.getD i default).1 = ([], (exQ ws (s.es.getD i default).1).2) := imQ_err hc30
   refine Cs (Km rfl (Ka rfl (Ka rfl (Nt (Ce (Xb (Xf (Xb (Xb (Xf (Xb ?_)))))))))))
   exact Rn rfl (.tmp rfl (.tmp rfl .nil)) fun w' hS => ⟨⟨none, 0, []⟩, by rw [imS_at hil hok (by rw [hr]; exact hc30), hr]; rfl, trivial, hS.below, by rw [imS_at hil hok (by rw [hr]; exact hc30)]; exact Fc sl_nilk Fn⟩
  ·(try simp only [sB] at hc30)
   have hr : imQ s.gs ws (s.es.getD i default).1 = prodS (s.gs.getD (s.es.getD i default).1.1.toNat default) (bsQ ws (s.es.getD i default).1) (exQ ws (s.es.getD i default).1).1 := imQ_ok hc30
   refine Ck (Xa (Cs (Kq rfl (Fa (q := 0) rfl rfl u52 rfl rfl) (Kq rfl (Ld rfl rfl .tc u48) ?_))))
   refine Kq rfl (Fa (q := 0) rfl rfl u123 rfl rfl) (Kq rfl (Ld rfl rfl .tc u3) ?_)
   refine Kq rfl (Ia rfl rfl rfl u48 (by kernel_rfl : _ = some 2) (by omega) (by (rw [flatMap_len _ _ 2 (fun _ => rfl)]; omega))) ?_
   refine Kq rfl (ldma _ rfl rfl u24 rfl (by kernel_rfl : _ = some 2) (fun _ => rfl) (by decide) rfl (by assumption)) ?_
   refine Km rfl (Km rfl ?_)
   refine Ku rfl (Oc rfl rfl (Kv fun w hS => pproduct_c (g := s.gs.getD (s.es.getD i default).1.1.toNat default) (l := bsQ ws (s.es.getD i default).1) (es := (exQ ws (s.es.getD i default).1).1) (by (exact hS.sl)) (by (exact hS.sl)) (by exact Nat.le_trans bsQ_len hlt1) (by exact Nat.le_trans exQ_len hlt1) (by exact hg8))) ?_
   refine Km rfl (Kq rfl (Re rfl rfl rfl) (Kq rfl (Re rfl rfl rfl) (Ka rfl (Ka rfl (Nt (Cq (Cs (Km rfl (Kq rfl (rd_neq rfl rfl rfl) (Nt ?_))))))))))
   refine Cd rfl (fun hc45 => ?_) (fun hc45 => ?_)
   ·(try simp only [sB] at hc45)
    refine Cs (Km rfl (Ka rfl (Ka rfl (Nt (Ce (Xb (Xf (Xb (Xb (Xf (Xb ?_)))))))))))
    exact Rn rfl (.tmp rfl (.tmp rfl .nil)) fun w' hS => ⟨⟨none, 0, []⟩, by rw [imS_at hil hok (by rw [hr]; exact hc45), hr]; rfl, trivial, hS.below, by rw [imS_at hil hok (by rw [hr]; exact hc45)]; exact Fc sl_nilk Fn⟩
   ·(try simp only [sB] at hc45)
    have hx0 : (imQ s.gs ws (s.es.getD i default).1).2 = 0 := by rw [hr]; simpa using hc45
    have hls : (strs ((s.es.take i).map fun q => (imQ s.gs ws q.1).1)).length = i := by simp [strs]; omega
    refine Ck (Xa (Cg (Km rfl (Km rfl ?_))))
    refine Kh rfl (og_bs1 rfl rfl u31 (by kernel_rfl : _ = some (some (.string (S [])), 1, 16)) rfl (by simp only [List.map]; rfl) rfl rfl ?_ (by decide)) ?_
    ·simp [Value.cells]
    intro b49
    refine Kh rfl (appg rfl u31 (by kernel_rfl : _ = some (some (.string (S [])), 1, 16)) rfl .tc rfl rfl (fun w hS => by (exact hS.os)) (by rfl) (by refine ⟨?_, ?_, ?_, ?_⟩ <;> first | exact hls | (try simp) <;> omega) (by (simp [Value.oneCell']; done))) ?_
    rintro ⟨o50, c50, s50⟩
    refine WL.pu ?_
    intro hg50; (try dsimp only at hg50 ⊢)
    refine Ka rfl (Nn (Xd (Xa (Cg (Kq rfl (Rz rfl rfl rfl (by omega)) (Km rfl (Nn ?_)))))))
    refine Lx ((i + 1, o50, c50, s50)) (by (try dsimp only); omega) (S4 rfl rfl rfl rfl) (by refine (Sc ?_ (Sc ?_ (S0 _))) <;> (rfl)) ?_ (by exact fun w h => by rw [qs_strs _ hil, hr]; exact st_sub _ h)
    (try dsimp only)
    exact ⟨⟨hil, by omega⟩, all_take hil hok hx0⟩
 ·(try simp only [sB] at hc19)
  refine Cx (Xc (Xc (Xe ?_)))
  obtain rfl : i = s.es.length := by omega
  rw [List.take_length] at hok
  rw [List.take_length]
  refine Xa (Cs (Km rfl (Ka rfl (Ka rfl (Nt (Ce ?_))))))
  exact Rn rfl (.tmp rfl (.tmp rfl .nil)) fun w' hS => ⟨⟨o, cp, sp⟩, by rw [imS_ok hok, List.length_map]; rfl, trivial, hS.below, by rw [imS_ok hok]; exact Fc hS.ocf Fn⟩
theorem rdy_ok {s : Sm} {ws : List Zs} (h : rdyS s ws = 0) : formS s ∧ (∀ x ∈ ws, okZ x) ∧ chkS s = 0 ∧ ws.length = s.2.1.length := by
 unfold rdyS at h
 split at h
 ·simp at h
 ·rename_i h1; split at h
  ·simp at h
  ·rename_i h2; split at h
   ·rename_i h3; exact absurd h h3
   ·rename_i h3; split at h
    ·simp at h
    ·rename_i h4; exact ⟨Decidable.not_not.1 h1, Decidable.not_not.1 h2, Decidable.not_not.1 h3, Decidable.not_not.1 h4⟩
theorem imS_len {s : Sm} {ws : List Zs} (h : (imS s ws).2 = 0) : (imS s ws).1.length = s.2.2.length := by
 unfold imS at h ⊢; split at h
 ·rename_i h1; exact absurd h h1
 ·rename_i h1; rw [if_neg h1]; simp
theorem ext_all {α : Type} [Inhabited α] {x y : List α} (hl : x.length = y.length) (h : ∀ i, i < x.length → x.getD i default = y.getD i default) : x = y := by
 refine List.ext_getElem hl fun i h1 h2 => ?_
 have := h i h1
 rw [List.getD_eq_getElem?_getD, List.getD_eq_getElem?_getD, List.getElem?_eq_getElem h1, List.getElem?_eq_getElem h2] at this; exact this
theorem tgt_getD (l : List QA) (i : Nat) (h : i < l.length) : ((l.map (·.1)).map (·.2.1)).getD i default = (l.getD i default).1.2.1 := by
 rw [List.getD_eq_getElem?_getD, List.getD_eq_getElem?_getD, List.getElem?_map, List.getElem?_map, List.getElem?_eq_getElem h]; rfl
theorem holds_c {s : SA} {ws : List Zs} {a : Option Addr} {c : Nat} {w : World} {ok : Nat → Prop} (hF1 : (Fact.sl s.ga (gps s.gs)).holds ok w) (hF2 : (Fact.sl s.va (vrs s.vs)).holds ok w) (hF3 : (Fact.sl s.ea (qas s.es)).holds ok w) (hF4 : (Fact.sl a (ints ws)).holds ok w) (hM : ∀ f ∈ (s.es.map qaF), f.holds ok w) (hs : saL s) (hw : ws.length ≤ 100000) :
  Cw 27 #[saV s, .slice a ws.length c] w (.tuple #[.bool (hldS s.core ws).1, .int .i64 (hldS s.core ws).2]) := by
 have hs' := hs
 obtain ⟨hlg, hlv, hle, hlt, hlm⟩ := hs
 refine En (Fact.sl s.ga (gps s.gs) :: Fact.sl s.va (vrs s.vs) :: Fact.sl s.ea (qas s.es) :: Fact.sl a (ints ws) :: (s.es.map qaF)) [(0, saV s), (1, .slice a ws.length c)] Tryz.func27 rfl Tryz.ntmps27 rfl (Ac rfl (Ac rfl (An _))) (Fc (fact_any hF1) (Fc (fact_any hF2) (Fc (fact_any hF3) (Fc (fact_any hF4) (facts_more hM))))) ?_
 refine Cs ?_
 refine Kh rfl (Oy rfl rfl) ?_
 intro b2
 refine Ka rfl (Ka rfl (Nt (Cq (Cs ?_))))
 refine Kq rfl (lda rfl rfl .tc u52 rfl ?_) ?_
 ·kernel_rfl
 refine Km rfl ?_
 refine Ku rfl (Oc rfl rfl (Kv fun w hS => ready_c (s := s) (ws := ws) (by (exact hS.sl)) (by (exact hS.sl)) (by (exact hS.sl)) (by (exact hS.sl)) (by (exact hS.more)) (by exact hs') (by exact hw))) ?_
 refine Ka rfl (Nt (Cs (Km rfl (Kq rfl (rd_neq rfl rfl rfl) (Nt ?_)))))
 refine Cd rfl (fun hc15 => ?_) (fun hc15 => ?_)
 ·(try simp only [sB] at hc15)
  have hr : hldS s.core ws = (false, rdyS s.core ws) := by rw [hldS, if_pos hc15]
  refine Cs (Km rfl (Ka rfl (Ka rfl (Nt (Ce (Xb ?_))))))
  exact R2 rfl rfl rfl (by rw [hr]; rfl)
 ·(try simp only [sB] at hc15)
  have h0 : rdyS s.core ws = 0 := by simpa using hc15
  obtain ⟨hfo, hz, hk, hwl⟩ := rdy_ok h0
  refine Ck (Xa (Cq (Cs ?_)))
  refine Kq rfl (lda rfl rfl .tc u52 rfl ?_) ?_
  ·kernel_rfl
  refine Km rfl ?_
  refine Ku rfl (Oc rfl rfl (Kv fun w hS => inrange_c (s := s) (ws := ws) (by (exact hS.sl)) (by (exact hS.sl)) (by (exact hS.sl)) (by exact hs') (by exact hwl) (by exact hfo) (by exact hz))) ?_
  refine Kq rfl (Rt rfl rfl) (Nt ?_)
  refine Cd rfl (fun hc20 => ?_) (fun hc20 => ?_)
  ·(try simp only [sB] at hc20)
   have hr : hldS s.core ws = (false, 0) := by rw [hldS, if_neg (fun h => h h0), if_pos (by simpa using hc20)]
   refine Cs (Ka rfl (Ka rfl (Nt (Ce (Xb ?_)))))
   exact R2 rfl rfl rfl (by rw [hr]; rfl)
  ·(try simp only [sB] at hc20)
   have hin : inR s.core ws := by simpa using hc20
   refine Ck (Xa (Cs ?_))
   refine Kq rfl (lda rfl rfl .tc u52 rfl ?_) ?_
   ·kernel_rfl
   refine Km rfl ?_
   refine Kh rfl (Oc rfl rfl (keep_fr fun w hS => images_c (s := s) (ws := ws) (by (exact hS.sl)) (by (exact hS.sl)) (by (exact hS.sl)) (by (exact hS.more)) (by exact hs') (by exact hwl) (by exact hfo))) ?_
   rintro g24
   refine WL.pu ?_
   intro hg24; (try dsimp only [List.cons_append, List.nil_append] at hg24 ⊢)
   refine Km rfl (Kq rfl (Re rfl rfl rfl) (Kq rfl (Re rfl rfl rfl) (Ka rfl (Ka rfl (Nt (Cq (Cs (Km rfl (Kq rfl (rd_neq rfl rfl rfl) (Nt ?_))))))))))
   refine Cd rfl (fun hc28 => ?_) (fun hc28 => ?_)
   ·(try simp only [sB] at hc28)
    have hr : hldS s.core ws = (false, (imS s.core ws).2) := by rw [hldS, if_neg (fun h => h h0), if_neg (fun h => h hin), if_pos hc28]
    refine Cs (Km rfl (Ka rfl (Ka rfl (Nt (Ce (Xb ?_))))))
    exact R2 rfl rfl rfl (by rw [hr]; rfl)
   ·(try simp only [sB] at hc28)
    have hi0 : (imS s.core ws).2 = 0 := by simpa using hc28
    have hlI : (imS s.core ws).1.length = s.es.length := by rw [imS_len hi0]; simp
    have hr : hldS s.core ws = (decide ((imS s.core ws).1 = s.core.2.2.map (·.2.1)), 0) := by rw [hldS, if_neg (fun h => h h0), if_neg (fun h => h hin), if_neg (fun h => h hi0)]
    refine Ck (Xa (Cq (Cs (Kq rfl (Fa (q := 2) rfl rfl u52 rfl rfl) (Kq rfl (Ld rfl rfl .tc u50) ?_)))))
    refine Kq rfl (rd_len rfl rfl u50) (Km rfl (Nt (Cb ?_)))
    refine Lp (σ := Nat) [(7, _), (31, _), (32, _)] (fun gq => [(33, .int .i64 (gq : Int))]) (fun gq => gq ≤ s.es.length ∧ ∀ j, j < gq → (imS s.core ws).1.getD j default = (s.es.getD j default).1.2.1) (fun gq => s.es.length - gq) (0) (S3 rfl rfl rfl) (S1 rfl) (by (try dsimp only); exact ⟨Nat.zero_le _, fun _ h => absurd h (Nat.not_lt_zero _)⟩) ?_
    rintro i hinv1; (try dsimp only at hinv1 ⊢)
    obtain ⟨hi, hok⟩ := hinv1
    refine Cs (Kq rfl (rd_lss rfl rfl rfl) (Nt (Cq ?_)))
    refine Cd rfl (fun hc34 => ?_) (fun hc34 => ?_)
    ·(try simp only [sB] at hc34)
     have hil : i < s.es.length := by omega
     have hil2 : i < (imS s.core ws).1.length := by omega
     refine Ck (Xa (Cq (Cb (Cs (Km rfl ?_)))))
     refine Kq rfl (Ia rfl rfl rfl u50 (by kernel_rfl : _ = some 3) (by omega) (by (rw [flatMap_len _ _ 3 (fun _ => rfl)]; omega))) ?_
     refine Kq rfl (ldma _ rfl rfl u123 rfl (by kernel_rfl : _ = some 3) (fun _ => rfl) (by decide) rfl (by assumption)) ?_
     refine Kh rfl (Oz [.int .i64 0, .string (S []), .slice none 0 0] rfl) ?_
     intro b10
     refine Ka rfl ?_
     refine Nu rfl rfl (Sa rfl rfl rfl .tc) ?_
     refine Nt (Cq ?_)
     refine Cf [0, 1, 2, 3, 4, 5, 6] [] [0, 0, 0, 0, 0, 0, 0] (by kernel_rfl) (by kernel_rfl) rfl ?_
     refine Kj rfl (Rm rfl rfl) (Kj rfl (Rm rfl rfl) ?_)
     refine Kj rfl (Ib rfl rfl rfl u31 (by omega) (by (rw [List.length_map]; omega))) ?_
     refine Kj rfl (ldm rfl rfl u22 rfl (by assumption)) ?_
     refine Kj rfl (Fa (q := 1) rfl rfl u123 rfl rfl) (Kj rfl (Ld rfl rfl .tc u22) ?_)
     refine Kj rfl (rd_sne rfl rfl rfl) ?_
     refine WJ.nil ?_
     refine Nt ?_
     refine Cd rfl (fun hc44 => ?_) (fun hc44 => ?_)
     ·(try simp only [sB] at hc44)
      have hne : ¬ (imS s.core ws).1 = s.core.2.2.map (·.2.1) := fun h => by
       have h1 := tgt_getD s.es i hil
       exact absurd ((congrArg (fun l : List Bs => l.getD i default) h).trans h1) (by simpa using hc44)
      refine Cs (Ka rfl (Ka rfl (Nt (Ce (Xf (Xb (Xb (Xf (Xb ?_)))))))))
      exact R2 rfl rfl rfl (by rw [hr, decide_eq_false hne]; rfl)
     ·(try simp only [sB] at hc44)
      refine Ck (Xd (Xa (Cg (Kq rfl (Rz rfl rfl rfl (by omega)) (Km rfl (Nn ?_))))))
      refine Ly (i + 1) (by (try dsimp only); omega) (S3 rfl rfl rfl) (by refine (Sc ?_ (S0 _)) <;> (rfl)) ?_ (by (exact st_sub))
      (try dsimp only)
      exact ⟨hil, fun j hj => by rcases Nat.lt_succ_iff_lt_or_eq.1 hj with h | h; exact hok j h; subst h; simpa using hc44⟩
    ·(try simp only [sB] at hc34)
     refine Cx (Xc (Xc (Xe ?_)))
     obtain rfl : i = s.es.length := by omega
     have heq : (imS s.core ws).1 = s.core.2.2.map (·.2.1) := ext_all (by rw [hlI]; simp) fun j hj => by
      have h1 := tgt_getD s.es j (by omega)
      rw [hok j (by omega)]; exact h1.symm
     refine Xa (Cs (Ka rfl (Ka rfl (Nt (Ce ?_)))))
     exact R2 rfl rfl rfl (by rw [hr, decide_eq_true heq]; rfl)
def stQ (k : PK) (c : Cp) (b v : Bs) : Sm := ([k.1], [v, []], [(0, c.1, [trm k.2.1 1]), (0, c.2, [trm b 0, trm k.2.2 1])])
def stE (k : PK) (c : Cp) (b v : Bs) : Int := rdyY k (decide (okN v)) [c.1, c.2, b]
def stS (k : PK) (c : Cp) (b v : Bs) : Sm × Int := if stE k c b v ≠ 0 then (([], [], []), stE k c b v) else (stQ k c b v, 0)
end Go.Proofs.YtmkghgoibnncbaaGreatDoor
namespace Go.Proofs.YtmkghgoibnncbaaGreatDoor
set_option linter.unusedSimpArgs false
set_option linter.unusedVariables false
set_option maxRecDepth 20000
abbrev W := BitVec 32
def rr (x : W) (n : Nat) : W := x >>> n ||| x <<< (32 - n)
def u32 (x : W) : Value := .int .u32 (x.toNat : Int)
def s0 (x : W) : W := (rr x 7 ^^^ rr x 18) ^^^ x >>> 3
def s1 (y : W) : W := (rr y 17 ^^^ rr y 19) ^^^ y >>> 10
def word (a b c d : UInt8) : W := BitVec.ofNat 32 (a.toNat * 16777216 + b.toNat * 65536 + c.toNat * 256 + d.toNat)
def words : List UInt8 → List W
 | a :: b :: c :: d :: r => word a b c d :: words r
 | _ => []
def nextW (w : List W) : W := ((w.getD (w.length - 16) 0 + s0 (w.getD (w.length - 15) 0)) + w.getD (w.length - 7) 0) + s1 (w.getD (w.length - 2) 0)
def sched : Nat → List W → List W
 | 0, w => w
 | n + 1, w => sched n w ++ [nextW (sched n w)]
def tt (e f g h k w : W) : W := (((h + ((rr e 6 ^^^ rr e 11) ^^^ rr e 25)) + ((e &&& f) ^^^ (~~~e &&& g))) + k) + w
def uu (a b c : W) : W := ((rr a 2 ^^^ rr a 13) ^^^ rr a 22) + (((a &&& b) ^^^ (a &&& c)) ^^^ (b &&& c))
def rnd (k w : W) : List W → List W
 | [a, b, c, d, e, f, g, h] => [tt e f g h k w + uu a b c, a, b, c, d + tt e f g h k w, e, f, g]
 | l => l
def rounds (ks ws : List W) : Nat → List W → List W
 | 0, x => x
 | n + 1, x => rnd (ks.getD n 0) (ws.getD n 0) (rounds ks ws n x)
def KK : List W := [0x428a2f98#32, 0x71374491#32, 0xb5c0fbcf#32, 0xe9b5dba5#32, 0x3956c25b#32, 0x59f111f1#32, 0x923f82a4#32, 0xab1c5ed5#32,
 0xd807aa98#32, 0x12835b01#32, 0x243185be#32, 0x550c7dc3#32, 0x72be5d74#32, 0x80deb1fe#32, 0x9bdc06a7#32, 0xc19bf174#32,
 0xe49b69c1#32, 0xefbe4786#32, 0x0fc19dc6#32, 0x240ca1cc#32, 0x2de92c6f#32, 0x4a7484aa#32, 0x5cb0a9dc#32, 0x76f988da#32,
 0x983e5152#32, 0xa831c66d#32, 0xb00327c8#32, 0xbf597fc7#32, 0xc6e00bf3#32, 0xd5a79147#32, 0x06ca6351#32, 0x14292967#32,
 0x27b70a85#32, 0x2e1b2138#32, 0x4d2c6dfc#32, 0x53380d13#32, 0x650a7354#32, 0x766a0abb#32, 0x81c2c92e#32, 0x92722c85#32,
 0xa2bfe8a1#32, 0xa81a664b#32, 0xc24b8b70#32, 0xc76c51a3#32, 0xd192e819#32, 0xd6990624#32, 0xf40e3585#32, 0x106aa070#32,
 0x19a4c116#32, 0x1e376c08#32, 0x2748774c#32, 0x34b0bcb5#32, 0x391c0cb3#32, 0x4ed8aa4a#32, 0x5b9cca4f#32, 0x682e6ff3#32,
 0x748f82ee#32, 0x78a5636f#32, 0x84c87814#32, 0x8cc70208#32, 0x90befffa#32, 0xa4506ceb#32, 0xbef9a3f7#32, 0xc67178f2#32]
def H0 : List W := [0x6a09e667#32, 0xbb67ae85#32, 0x3c6ef372#32, 0xa54ff53a#32, 0x510e527f#32, 0x9b05688c#32, 0x1f83d9ab#32, 0x5be0cd19#32]
def addW : List W → List W → List W
 | a :: x, b :: y => (a + b) :: addW x y
 | _, _ => []
def compress (x : List W) (blk : List UInt8) : List W := addW (rounds KK (sched 48 (words blk)) 64 x) x
def chunks : Nat → List W → List UInt8 → List W
 | 0, x, _ => x
 | n + 1, x, m => chunks n (compress x (m.take 64)) (m.drop 64)
def byteAt (n i : Nat) : UInt8 := UInt8.ofNat (n / 2 ^ (8 * i) % 256)
def len8 (n : Nat) : List UInt8 := [byteAt n 7, byteAt n 6, byteAt n 5, byteAt n 4, byteAt n 3, byteAt n 2, byteAt n 1, byteAt n 0]
def zeros (n : Nat) : Nat := (119 - n % 64) % 64
def pad (s : List UInt8) : List UInt8 := s ++ [128] ++ List.replicate (zeros s.length) 0 ++ len8 (8 * s.length)
def bytes4 (x : W) : List UInt8 := [byteAt x.toNat 3, byteAt x.toNat 2, byteAt x.toNat 1, byteAt x.toNat 0]
def outW (x : List W) : List UInt8 := x.flatMap bytes4
def sha (s : List UInt8) : List UInt8 := outW (chunks ((pad s).length / 64) H0 (pad s))
def keyOf (key : List UInt8) : List UInt8 := if key.length > 64 then sha key else key
def xorKey (key : List UInt8) (x : UInt8) : List UInt8 := (key ++ List.replicate (64 - key.length) 0).map (· ^^^ x)
def mac (key s : List UInt8) : List UInt8 := sha (xorKey (keyOf key) 92 ++ sha (xorKey (keyOf key) 54 ++ s))
theorem wrap_W (n : Nat) : IntKind.u32.wrap (n : Int) = ((BitVec.ofNat 32 n).toNat : Int) := by
 rw [IntKind.wrap_u32]; simp [BitVec.toNat_ofNat]
theorem add_W (x y : W) : IntKind.u32.wrap ((x.toNat : Int) + (y.toNat : Int)) = ((x + y).toNat : Int) := by
 rw [IntKind.wrap_u32, BitVec.toNat_add]; omega
theorem ofInt_W (x : W) : BitVec.ofInt 32 (x.toNat : Int) = x := by
 apply BitVec.eq_of_toNat_eq; simp
theorem xor_W (x y : W) : bits .xor .u32 (x.toNat : Int) (y.toNat : Int) = ((x ^^^ y).toNat : Int) := by
 unfold bits
 show IntKind.u32.wrap ((BitVec.ofInt 32 (x.toNat : Int) ^^^ BitVec.ofInt 32 (y.toNat : Int)).toNat : Int) = _
 rw [ofInt_W, ofInt_W, wrap_W]; simp
theorem and_W (x y : W) : bits .and .u32 (x.toNat : Int) (y.toNat : Int) = ((x &&& y).toNat : Int) := by
 unfold bits
 show IntKind.u32.wrap ((BitVec.ofInt 32 (x.toNat : Int) &&& BitVec.ofInt 32 (y.toNat : Int)).toNat : Int) = _
 rw [ofInt_W, ofInt_W, wrap_W]; simp
theorem or_W (x y : W) : bits .or .u32 (x.toNat : Int) (y.toNat : Int) = ((x ||| y).toNat : Int) := by
 unfold bits
 show IntKind.u32.wrap ((BitVec.ofInt 32 (x.toNat : Int) ||| BitVec.ofInt 32 (y.toNat : Int)).toNat : Int) = _
 rw [ofInt_W, ofInt_W, wrap_W]; simp
theorem com_W (x : W) : bits .xor .u32 (if IntKind.u32.signed then -1 else IntKind.u32.max) (x.toNat : Int) = ((~~~x).toNat : Int) := by
 have e : (if IntKind.u32.signed then -1 else IntKind.u32.max) = ((BitVec.allOnes 32).toNat : Int) := by decide
 rw [e, xor_W, BitVec.allOnes_xor]
theorem shl_W (x : W) (n : Nat) (h : n ≤ 32) : IntKind.u32.wrap ((x.toNat : Int) * 2 ^ n) = ((x <<< n).toNat : Int) := by
 rw [IntKind.wrap_u32, BitVec.toNat_shiftLeft, Nat.shiftLeft_eq]
 have : ((2 : Int) ^ n) = ((2 ^ n : Nat) : Int) := by simp
 rw [this]; omega
theorem shr_W (x : W) (n : Nat) : (x.toNat : Int).fdiv (2 ^ n) = ((x >>> n).toNat : Int) := by
 rw [BitVec.toNat_ushiftRight, Nat.shiftRight_eq_div_pow]
 have : ((2 : Int) ^ n) = ((2 ^ n : Nat) : Int) := by simp
 rw [this, Int.fdiv_eq_ediv_of_nonneg _ (Int.natCast_nonneg _)]; exact (Int.natCast_ediv _ _).symm
theorem rot_W (x : W) (n : Nat) (h0 : 0 < n) (h : n < 32) : bits .or .u32 (IntKind.u32.wrap ((x.toNat : Int) * 2 ^ (32 - n))) ((x.toNat : Int).fdiv (2 ^ n)) = ((rr x n).toNat : Int) := by
 rw [shl_W x (32 - n) (by omega), shr_W, or_W, rr, BitVec.or_comm]
theorem and31 (n : Nat) (h0 : 0 < n) (h : n < 32) : bits .and .u64 (IntKind.u64.wrap (0 - (n : Int))) 31 = 32 - (n : Int) := by
 have : ∀ k : Fin 32, 0 < k.val → bits .and .u64 (IntKind.u64.wrap (0 - (k.val : Int))) 31 = 32 - (k.val : Int) := by decide
 exact this ⟨n, h⟩ h0
theorem fill_set {α : Type} (l : List α) (f : α → Value) (z : Value) (n k : Nat) (x : α) (hk : k < n) (hx : l[k]? = some x) :
  ((l.take k).map f ++ List.replicate (n - k) z).set k (f x) = (l.take (k + 1)).map f ++ List.replicate (n - (k + 1)) z := by
 have hl : k < l.length := (List.getElem?_eq_some_iff.1 hx).1
 have hlen : ((l.take k).map f).length = k := by simp; omega
 rw [List.set_append_right _ _ (by omega), hlen, Nat.sub_self, List.take_add_one, hx]
 have : n - k = (n - (k + 1)) + 1 := by omega
 rw [this, List.replicate_succ]
 simp
theorem words_get : ∀ (k : Nat) (bs : List UInt8) (c0 c1 c2 c3 : UInt8), bs[4 * k]? = some c0 → bs[4 * k + 1]? = some c1 → bs[4 * k + 2]? = some c2 → bs[4 * k + 3]? = some c3 → (words bs)[k]? = some (word c0 c1 c2 c3)
 | 0, bs, c0, c1, c2, c3, h0, h1, h2, h3 => by
  match bs, h0, h1, h2, h3 with
  | a :: b :: c :: d :: r, h0, h1, h2, h3 => simp at h0 h1 h2 h3; simp [words, h0, h1, h2, h3]
 | k + 1, bs, c0, c1, c2, c3, h0, h1, h2, h3 => by
  match bs, h3 with
  | a :: b :: c :: d :: r, h3 =>
   have e : ∀ q, (a :: b :: c :: d :: r)[4 * (k + 1) + q]? = r[4 * k + q]? := fun q => by
    rw [show 4 * (k + 1) + q = (4 * k + q) + 4 by omega]; simp
   have e0 := e 0
   simp only [Nat.add_zero] at e0
   simp only [words, List.getElem?_cons_succ]
   exact words_get k r c0 c1 c2 c3 (e0 ▸ h0) (e 1 ▸ h1) (e 2 ▸ h2) (e 3 ▸ h3)
  | [], h3 => simp at h3
  | [_], h3 => simp at h3
  | [_, _], h3 => simp at h3
  | [_, _, _], h3 => simp at h3
theorem words_len : ∀ (n : Nat) (bs : List UInt8), bs.length = 4 * n → (words bs).length = n
 | 0, bs, h => by have : bs = [] := List.eq_nil_of_length_eq_zero (by omega); subst this; rfl
 | n + 1, bs, h => by
  match bs, h with
  | a :: b :: c :: d :: r, h => simp only [words, List.length_cons]; rw [words_len n r (by simp at h; omega)]
  | [], h => simp at h
  | [_], h => simp at h; omega
  | [_, _], h => simp at h; omega
  | [_, _, _], h => simp at h; omega
theorem sched_len (n : Nat) (w : List W) : (sched n w).length = w.length + n := by
 induction n with
 | zero => rfl
 | succ n ih => simp [sched, ih]; omega
theorem u8_W (c : UInt8) : IntKind.u32.wrap (c.toNat : Int) = ((BitVec.ofNat 32 c.toNat).toNat : Int) := wrap_W c.toNat
theorem word_W (c0 c1 c2 c3 : UInt8) : ((BitVec.ofNat 32 c0.toNat <<< 24 ||| BitVec.ofNat 32 c1.toNat <<< 16) ||| BitVec.ofNat 32 c2.toNat <<< 8) ||| BitVec.ofNat 32 c3.toNat = word c0 c1 c2 c3 := by
 have h0 := c0.toNat_lt; have h1 := c1.toNat_lt; have h2 := c2.toNat_lt; have h3 := c3.toNat_lt
 apply BitVec.eq_of_toNat_eq
 simp only [word, BitVec.toNat_or, BitVec.toNat_shiftLeft, BitVec.toNat_ofNat, Nat.shiftLeft_eq]
 rw [Nat.mod_eq_of_lt (by omega : c0.toNat < 2 ^ 32), Nat.mod_eq_of_lt (by omega : c1.toNat < 2 ^ 32), Nat.mod_eq_of_lt (by omega : c2.toNat < 2 ^ 32), Nat.mod_eq_of_lt (by omega : c3.toNat < 2 ^ 32)]
 rw [Nat.mod_eq_of_lt (by omega : c0.toNat * 2 ^ 24 < 2 ^ 32), Nat.mod_eq_of_lt (by omega : c1.toNat * 2 ^ 16 < 2 ^ 32), Nat.mod_eq_of_lt (by omega : c2.toNat * 2 ^ 8 < 2 ^ 32), Nat.mod_eq_of_lt (by omega)]
 have e1 := Nat.two_pow_add_eq_or_of_lt (i := 24) (b := c1.toNat * 2 ^ 16) (by omega) c0.toNat
 have e2 := Nat.two_pow_add_eq_or_of_lt (i := 16) (b := c2.toNat * 2 ^ 8) (by omega) (c0.toNat * 2 ^ 8 + c1.toNat)
 have e3 := Nat.two_pow_add_eq_or_of_lt (i := 8) (b := c3.toNat) (by omega) (c0.toNat * 2 ^ 16 + c1.toNat * 2 ^ 8 + c2.toNat)
 rw [Nat.mul_comm c0.toNat, ← e1]
 rw [show 2 ^ 24 * c0.toNat + c1.toNat * 2 ^ 16 = 2 ^ 16 * (c0.toNat * 2 ^ 8 + c1.toNat) by omega, ← e2]
 rw [show 2 ^ 16 * (c0.toNat * 2 ^ 8 + c1.toNat) + c2.toNat * 2 ^ 8 = 2 ^ 8 * (c0.toNat * 2 ^ 16 + c1.toNat * 2 ^ 8 + c2.toNat) by omega, ← e3]
 first | done | omega
theorem word_bits (c0 c1 c2 c3 : UInt8) : bits .or .u32 (bits .or .u32 (bits .or .u32 (IntKind.u32.wrap (IntKind.u32.wrap (c0.toNat : Int) * 2 ^ (min (Int.toNat 24) IntKind.u32.bits))) (IntKind.u32.wrap (IntKind.u32.wrap (c1.toNat : Int) * 2 ^ (min (Int.toNat 16) IntKind.u32.bits)))) (IntKind.u32.wrap (IntKind.u32.wrap (c2.toNat : Int) * 2 ^ (min (Int.toNat 8) IntKind.u32.bits)))) (IntKind.u32.wrap (c3.toNat : Int)) = ((word c0 c1 c2 c3).toNat : Int) := by
 have m1 : min (Int.toNat 24) IntKind.u32.bits = 24 := by decide
 have m2 : min (Int.toNat 16) IntKind.u32.bits = 16 := by decide
 have m3 : min (Int.toNat 8) IntKind.u32.bits = 8 := by decide
 rw [m1, m2, m3, u8_W, u8_W, u8_W, u8_W, shl_W _ 24 (by omega), shl_W _ 16 (by omega), shl_W _ 8 (by omega), or_W, or_W, or_W, word_W]
section
variable {ds : List Deferred} {ρ : Option Nat} {P : Program} {o : Oper} {n : Nat} {L : Slots} {Z : World → Prop} {x y : Operand} {t t2 : TypeId} {a b : W}
theorem rdW_add (hop : o.op = .binOp .add t x y t2) (hx : oper L x = some (u32 a)) (hy : oper L y = some (u32 b)) : Rd ds P o n L Z (u32 (a + b)) := by
 have := rd_add (ds := ds) (P := P) (n := n) (St := Z) hop hx hy; rwa [add_W] at this
theorem rdW_xor (hop : o.op = .binOp .xor t x y t2) (hx : oper L x = some (u32 a)) (hy : oper L y = some (u32 b)) : Rd ds P o n L Z (u32 (a ^^^ b)) := by
 have := rd_xor (ds := ds) (P := P) (n := n) (St := Z) hop hx hy; rwa [xor_W] at this
theorem rdW_and (hop : o.op = .binOp .and t x y t2) (hx : oper L x = some (u32 a)) (hy : oper L y = some (u32 b)) : Rd ds P o n L Z (u32 (a &&& b)) := by
 have := rd_and (ds := ds) (P := P) (n := n) (St := Z) hop hx hy; rwa [and_W] at this
theorem rdW_or (hop : o.op = .binOp .or t x y t2) (hx : oper L x = some (u32 a)) (hy : oper L y = some (u32 b)) : Rd ds P o n L Z (u32 (a ||| b)) := by
 have := rd_or (ds := ds) (P := P) (n := n) (St := Z) hop hx hy; rwa [or_W] at this
theorem rdW_com (hop : o.op = .unOp .xor t x) (hx : oper L x = some (u32 a)) : Rd ds P o n L Z (u32 (~~~a)) := by
 have := rd_com (ds := ds) (P := P) (n := n) (St := Z) hop hx; rwa [com_W] at this
theorem rdW_shr {k' : IntKind} {c : Nat} (hop : o.op = .binOp .shr t x y t2) (hx : oper L x = some (u32 a)) (hy : oper L y = some (.int k' (@OfNat.ofNat Int c instOfNat))) (hc : c ≤ 32) : Rd ds P o n L Z (u32 (a >>> c)) := by
 have := rd_shr (ds := ds) (P := P) (n := n) (St := Z) hop hx hy (Int.natCast_nonneg c)
 have e : min (@OfNat.ofNat Int c instOfNat).toNat IntKind.u32.bits = c := by
  show min c 32 = c; omega
 rwa [e, shr_W] at this
end
theorem u32_one (l : List W) : ∀ v ∈ l.map u32, v.oneCell' = true := fun v hv => by obtain ⟨c, _, rfl⟩ := List.mem_map.1 hv; rfl
theorem map_cell {α : Type} (l : List α) (f : α → Value) (r : List Value) (i : Nat) (x : α) (h : l[i]? = some x) : (l.map f ++ r)[i]? = some (f x) := by
 have : i < l.length := (List.getElem?_eq_some_iff.1 h).1
 rw [List.getElem?_append_left (by simpa using this), List.getElem?_map, h]; rfl
theorem get_getD {α : Type} (l : List α) (i : Nat) (z : α) (h : i < l.length) : l[i]? = some (l.getD i z) := by simp [h]
theorem rnd_len (k w : W) (x : List W) (h : x.length = 8) : (rnd k w x).length = 8 := by
 match x, h with
 | [a, b, c, d, e, f, g, i], _ => rfl
theorem rounds_len (ks ws : List W) (n : Nat) (x : List W) (h : x.length = 8) : (rounds ks ws n x).length = 8 := by
 induction n with
 | zero => exact h
 | succ n ih => exact rnd_len _ _ _ ih
theorem eight (x : List W) (h : x.length = 8) : ∃ a b c d e f g i, x = [a, b, c, d, e, f, g, i] := by
 match x, h with
 | [a, b, c, d, e, f, g, i], _ => exact ⟨a, b, c, d, e, f, g, i, rfl⟩
theorem addW_len : ∀ (x y : List W), x.length = y.length → (addW x y).length = x.length
 | [], [], _ => rfl
 | a :: x, b :: y, h => by simp only [addW, List.length_cons]; rw [addW_len x y (by simpa using h)]
theorem addW_get : ∀ (x y : List W) (k : Nat) (a b : W), x[k]? = some a → y[k]? = some b → (addW x y)[k]? = some (a + b)
 | a' :: x, b' :: y, 0, a, b, h1, h2 => by simp at h1 h2; simp [addW, h1, h2]
 | a' :: x, b' :: y, k + 1, a, b, h1, h2 => by simp at h1 h2; simp only [addW, List.getElem?_cons_succ]; exact addW_get x y k a b h1 h2
theorem addW_set (x y : List W) (k : Nat) (a b : W) (hl : x.length = y.length) (h1 : x[k]? = some a) (h2 : y[k]? = some b) :
  (((addW x y).take k ++ x.drop k).map u32).set k (u32 (a + b)) = ((addW x y).take (k + 1) ++ x.drop (k + 1)).map u32 := by
 have hk : k < x.length := (List.getElem?_eq_some_iff.1 h1).1
 have hal := addW_len x y hl
 rw [← List.map_set]
 congr 1
 have hlen : ((addW x y).take k).length = k := by simp; omega
 rw [List.set_append_right _ _ (by omega), hlen, Nat.sub_self, List.take_add_one, addW_get x y k a b h1 h2]
 have hd : (x.drop k).set 0 (a + b) = (a + b) :: x.drop (k + 1) := by rw [List.drop_eq_getElem_cons hk]; rfl
 rw [hd]; simp
def pick4 (c0 c1 c2 c3 : UInt8) : Nat → UInt8
 | 0 => c0
 | 1 => c1
 | 2 => c2
 | _ => c3
def part4 (c0 c1 c2 c3 : UInt8) : Nat → W
 | 0 => 0
 | n + 1 => part4 c0 c1 c2 c3 n * 256 + BitVec.ofNat 32 (pick4 c0 c1 c2 c3 n).toNat
theorem part4_succ (c0 c1 c2 c3 : UInt8) (j : Nat) (_h : j < 4) : part4 c0 c1 c2 c3 (j + 1) = part4 c0 c1 c2 c3 j * 256 + BitVec.ofNat 32 (pick4 c0 c1 c2 c3 j).toNat := rfl
theorem part4_word (c0 c1 c2 c3 : UInt8) : part4 c0 c1 c2 c3 4 = word c0 c1 c2 c3 := by
 apply BitVec.eq_of_toNat_eq
 have h0 := c0.toNat_lt; have h1 := c1.toNat_lt; have h2 := c2.toNat_lt; have h3 := c3.toNat_lt
 simp only [part4, pick4, word, BitVec.toNat_add, BitVec.toNat_mul, BitVec.toNat_ofNat, BitVec.ofNat_eq_ofNat]
 omega
theorem mul_W (x y : W) : IntKind.u32.wrap ((x.toNat : Int) * (y.toNat : Int)) = ((x * y).toNat : Int) := by
 rw [IntKind.wrap_u32, BitVec.toNat_mul, ← Int.natCast_mul]; omega
theorem set_zero4 (ws : List W) (hw : ws.length = 16) (k : Nat) (hk : k < 16) : ((ws.take k).map u32 ++ List.replicate (64 - k) (u32 0)).set k (u32 0) = (ws.take k).map u32 ++ List.replicate (64 - k) (u32 0) := by
 have hl : ((ws.take k).map u32).length = k := by simp; omega
 rw [List.set_append_right _ _ (by omega), hl, Nat.sub_self, show 64 - k = (63 - k) + 1 by omega, List.replicate_succ]
 rfl
end Go.Proofs.YtmkghgoibnncbaaGreatDoor
