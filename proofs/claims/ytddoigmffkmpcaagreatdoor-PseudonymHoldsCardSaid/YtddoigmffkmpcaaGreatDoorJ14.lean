/-
  Parts of the walk: Lin5 Lin6 Nrh Psn Hash1 Hash2 Hash3 Sum.
-/
import Derived.Test.YtddoigmffkmpcaaGreatDoorJ13
import Derived.Test.YtddoigmffkmpcaaGreatDoorProg
namespace Go.Proofs.YtddoigmffkmpcaaGreatDoor
open Go.RowKit
set_option linter.unusedSimpArgs false
set_option linter.unusedVariables false
set_option maxHeartbeats 600000
set_option maxRecDepth 20000
theorem imS_at {s : SA} {ws : List Zs} {i : Nat} (h : i < s.es.length) (h0 : ∀ q ∈ s.es.take i, (imQ s.gs ws q.1).2 = 0) (h1 : (imQ s.gs ws (s.es.getD i default).1).2 ≠ 0) : imS s.core ws = ([], (imQ s.gs ws (s.es.getD i default).1).2) := by
 have e : errL (s.core.2.2.map fun q => (imQ s.core.1 ws q).2) = (imQ s.gs ws (s.es.getD i default).1).2 := by
  rw [← errL_at (f := fun q : QA => (imQ s.gs ws q.1).2) h h0 h1, List.map_map]; rfl
 rw [imS, e, if_pos h1]
theorem imS_ok {s : SA} {ws : List Zs} (h0 : ∀ q ∈ s.es, (imQ s.gs ws q.1).2 = 0) : imS s.core ws = (s.es.map fun q => (imQ s.gs ws q.1).1, 0) := by
 have e : errL (s.core.2.2.map fun q => (imQ s.core.1 ws q).2) = 0 := errL_map fun q hq => by
  obtain ⟨x, hx, rfl⟩ := List.mem_map.1 hq; exact h0 x hx
 rw [imS, e, if_neg (fun h => h rfl), List.map_map]; rfl
theorem imQ_err {gs : List Gp} {ws : List Zs} {q : Qn} (h : (exQ ws q).2 ≠ 0) : imQ gs ws q = ([], (exQ ws q).2) := by rw [imQ, if_pos h]
theorem imQ_ok {gs : List Gp} {ws : List Zs} {q : Qn} (h : (exQ ws q).2 = 0) : imQ gs ws q = prodS (gs.getD q.1.toNat default) (bsQ ws q) (exQ ws q).1 := by rw [imQ, bsQ, if_neg (fun h2 => h2 h), if_neg (fun h2 => h2 h)]
theorem qs_strs {l : List QA} (f : QA → Bs) {i : Nat} (h : i < l.length) : strs ((l.take (i + 1)).map f) = strs ((l.take i).map f) ++ [.string (S (f (l.getD i default)))] := by
 rw [take_succ_getD h, List.map_append]; simp [strs]
theorem bsQ_len {ws : List Zs} {q : Qn} : (bsQ ws q).length ≤ q.2.2.length := by rw [bsQ]; split <;> simp
theorem exQ_len {ws : List Zs} {q : Qn} : (exQ ws q).1.length ≤ q.2.2.length := by rw [exQ]; split <;> simp
theorem images_c {s : SA} {ws : List Zs} {a : Option Addr} {c : Nat} {w : World} {ok : Nat → Prop} (hF1 : (Fact.sl s.ga (gps s.gs)).holds ok w) (hF2 : (Fact.sl s.ea (qas s.es)).holds ok w) (hF3 : (Fact.sl a (ints ws)).holds ok w) (hM : ∀ f ∈ (s.es.map qaF), f.holds ok w) (hs : saL s) (hw : ws.length = s.vs.length) (hfo : formS s.core) :
  Calls Tryz.prog 36 #[saV s, .slice a ws.length c] w fun e w' => ∃ gx : Rs, e = .returned (.tuple #[gx.val (imS s.core ws).1.length, .int .i64 (imS s.core ws).2]) ∧ (True) ∧ Below w.heap.size w w' ∧ ∀ x ∈ ([Fact.sl gx.a (strs (imS s.core ws).1)] : List Fact), x.holds (fun b => w.heap.size ≤ b) w' := by
 obtain ⟨hlg, hlv, hle, hlt, hlm⟩ := hs
 refine En (Fact.sl s.ga (gps s.gs) :: Fact.sl s.ea (qas s.es) :: Fact.sl a (ints ws) :: (s.es.map qaF)) [(0, saV s), (1, .slice a ws.length c)] Tryz.func36 rfl Tryz.ntmps36 rfl (Ac rfl (Ac rfl (An _))) (Fc (fact_any hF1) (Fc (fact_any hF2) (Fc (fact_any hF3) (facts_more hM)))) ?_
 refine Cs ?_
 refine Kh rfl (Oy rfl rfl) ?_
 intro b2
 refine Kh rfl (Oy rfl rfl) ?_
 intro b3
 refine Ka rfl (Ka rfl (Nt (Cs (Kq rfl (rd_mkf rfl rfl rfl) (Ka rfl (Nt (Cs (Ka rfl (Nt (Cq (Cs (Kq rfl (Fa (q := 2) rfl rfl u41 rfl rfl) (Kq rfl (Ld rfl rfl .tc u39) ?_)))))))))))))
 refine Kq rfl (rd_len rfl rfl u39) (Km rfl (Nt (Cb ?_)))
 refine Lo (σ := Nat × (Option Nat) × Nat × (List Value)) [(2, _), (6, _), (16, _), (17, _)] (fun gq => [(7, .slice (gq.2.1.map fun b => ⟨b, 0, none⟩) gq.1 gq.2.2.1), (18, .int .i64 (gq.1 : Int))]) (fun gq => (gq.1 ≤ s.es.length ∧ gq.2.2.1 = gq.1 + gq.2.2.2.length) ∧ ∀ q ∈ s.es.take gq.1, (imQ s.gs ws q.1).2 = 0) (fun gq => s.es.length - gq.1) (fun gq => [⟨gq.2.1, strs ((s.es.take gq.1).map fun q => (imQ s.gs ws q.1).1) ++ gq.2.2.2, 22⟩, ⟨some b3, [.slice a ws.length c], 62⟩, ⟨some b2, [.slice s.ga s.gs.length s.gc, .slice s.va s.vs.length s.vc, .slice s.ea s.es.length s.ec], 41⟩]) (fun gq => (Fact.sl s.ga (gps s.gs) :: Fact.sl s.ea (qas s.es) :: Fact.sl a (ints ws) :: s.es.map qaF)) (0, none, 0, []) (S4 rfl rfl rfl rfl) (S2 rfl rfl) (by (try dsimp only); exact ⟨⟨Nat.zero_le _, rfl⟩, by simp⟩) (by exact fun w h => h.nil _) ?_
 rintro ⟨i, o, cp, sp⟩ hinv1; (try dsimp only at hinv1 ⊢)
 obtain ⟨⟨hi, hcp⟩, hok⟩ := hinv1
 refine Cs (Kq rfl (rd_lss rfl rfl rfl) (Nt (Cq ?_)))
 refine Cd rfl (fun hc19 => ?_) (fun hc19 => ?_)
 ·(try simp only [sB] at hc19)
  have hil : i < s.es.length := by omega
  have him := getD_mem s.es i hil
  have hlt1 := hlt _ him
  have hfq := hfo.2.2 _ (List.mem_map_of_mem him)
  have hgl : (s.es.getD i default).1.1.toNat < s.gs.length := by have := hfq.1.1.1; have := hfq.1.1.2; simp only [SA.core] at this; omega
  have hg8 := hlm _ (getD_mem _ _ hgl)
  have hq0 := hfq.1.1.1
  refine Ck (Xa (Cq (Cb (Cs ?_))))
  refine Kq rfl (Ia rfl rfl rfl u39 (by kernel_rfl : _ = some 3) (by omega) (by (rw [flatMap_len _ _ 3 (fun _ => rfl)]; omega))) ?_
  refine Kq rfl (ldma _ rfl rfl u77 rfl (by kernel_rfl : _ = some 3) (fun _ => rfl) (by decide) rfl (by assumption)) ?_
  refine Kh rfl (Oz [.int .i64 0, .string (S []), .slice none 0 0] rfl) ?_
  intro b9
  refine Nu rfl rfl (Sa rfl rfl rfl .tc) ?_
  refine Nt (Cs (Km rfl ?_))
  refine Kq rfl (lda rfl rfl .tc u77 rfl ?_) ?_
  ·kernel_rfl
  refine Kh rfl (og_callv rfl rfl rfl (by kernel_rfl) rfl (keep_fr fun w hS => collect_c (q := s.es.getD i default) (ws := ws) (p := b3) (a := a) (c := c) hS.os hS.sl (hS.more (more := s.es.map qaF) _ (List.mem_map_of_mem him)) (by omega) (by exact hlt1) (by exact fun t ht => by have h1 := (hfq.2 t ht).1; refine ⟨h1.1, ?_⟩; rw [hw]; exact h1.2))) ?_
  rintro ⟨gb25, ge25⟩
  refine WL.pu ?_
  intro hg25; (try dsimp only at hg25 ⊢)
  refine WL.fa2 ?_
  refine Km rfl (Kq rfl (Re rfl rfl rfl) (Kq rfl (Re rfl rfl rfl) (Kq rfl (Re rfl rfl rfl) (Ka rfl (Ka rfl (Ka rfl (Nt (Cq (Cs (Km rfl (Kq rfl (rd_neq rfl rfl rfl) (Nt ?_))))))))))))
  refine Cd rfl (fun hc30 => ?_) (fun hc30 => ?_)
  ·(try simp only [sB] at hc30)
   have hr : imQ s.gs ws (s.es.getD i default).1 = ([], (exQ ws (s.es.getD i default).1).2) := imQ_err hc30
   refine Cs (Km rfl (Ka rfl (Ka rfl (Nt (Ce (Xb (Xf (Xb (Xb (Xf (Xb ?_)))))))))))
   exact Rn rfl (.tmp rfl (.tmp rfl .nil)) fun w' hS => ⟨⟨none, 0, []⟩, by rw [imS_at hil hok (by rw [hr]; exact hc30), hr]; rfl, trivial, hS.below, by rw [imS_at hil hok (by rw [hr]; exact hc30)]; exact Fc sl_nilk Fn⟩
  ·(try simp only [sB] at hc30)
   have hr : imQ s.gs ws (s.es.getD i default).1 = prodS (s.gs.getD (s.es.getD i default).1.1.toNat default) (bsQ ws (s.es.getD i default).1) (exQ ws (s.es.getD i default).1).1 := imQ_ok hc30
   refine Ck (Xa (Cs (Kq rfl (Fa (q := 0) rfl rfl u41 rfl rfl) (Kq rfl (Ld rfl rfl .tc u37) ?_))))
   refine Kq rfl (Fa (q := 0) rfl rfl u77 rfl rfl) (Kq rfl (Ld rfl rfl .tc u3) ?_)
   refine Kq rfl (Ia rfl rfl rfl u37 (by kernel_rfl : _ = some 2) (by omega) (by (rw [flatMap_len _ _ 2 (fun _ => rfl)]; omega))) ?_
   refine Kq rfl (ldma _ rfl rfl u24 rfl (by kernel_rfl : _ = some 2) (fun _ => rfl) (by decide) rfl (by assumption)) ?_
   refine Km rfl (Km rfl ?_)
   refine Ku rfl (Oc rfl rfl (Kv fun w hS => pproduct_c (g := s.gs.getD (s.es.getD i default).1.1.toNat default) (l := bsQ ws (s.es.getD i default).1) (es := (exQ ws (s.es.getD i default).1).1) (by (exact hS.sl)) (by (exact hS.sl)) (by exact Nat.le_trans bsQ_len hlt1) (by exact Nat.le_trans exQ_len hlt1) (by exact hg8))) ?_
   refine Km rfl (Kq rfl (Re rfl rfl rfl) (Kq rfl (Re rfl rfl rfl) (Ka rfl (Ka rfl (Nt (Cq (Cs (Km rfl (Kq rfl (rd_neq rfl rfl rfl) (Nt ?_))))))))))
   refine Cd rfl (fun hc45 => ?_) (fun hc45 => ?_)
   ·(try simp only [sB] at hc45)
    refine Cs (Km rfl (Ka rfl (Ka rfl (Nt (Ce (Xb (Xf (Xb (Xb (Xf (Xb ?_)))))))))))
    exact Rn rfl (.tmp rfl (.tmp rfl .nil)) fun w' hS => ⟨⟨none, 0, []⟩, by rw [imS_at hil hok (by rw [hr]; exact hc45), hr]; rfl, trivial, hS.below, by rw [imS_at hil hok (by rw [hr]; exact hc45)]; exact Fc sl_nilk Fn⟩
   ·(try simp only [sB] at hc45)
    have hx0 : (imQ s.gs ws (s.es.getD i default).1).2 = 0 := by rw [hr]; simpa using hc45
    have hls : (strs ((s.es.take i).map fun q => (imQ s.gs ws q.1).1)).length = i := by simp [strs]; omega
    refine Ck (Xa (Cg (Km rfl (Km rfl ?_))))
    refine Kh rfl (og_bs1 rfl rfl u64 (by kernel_rfl : _ = some (some (.string (S [])), 1, 16)) rfl (by simp only [List.map]; rfl) rfl rfl ?_ (by decide)) ?_
    ·simp [Value.cells]
    intro b49
    refine Kh rfl (appg rfl u64 (by kernel_rfl : _ = some (some (.string (S [])), 1, 16)) rfl .tc rfl rfl (fun w hS => by (exact hS.os)) (by rfl) (by refine ⟨?_, ?_, ?_, ?_⟩ <;> first | exact hls | (try simp) <;> omega) (by (simp [Value.oneCell']; done))) ?_
    rintro ⟨o50, c50, s50⟩
    refine WL.pu ?_
    intro hg50; (try dsimp only at hg50 ⊢)
    refine Ka rfl (Nn (Xd (Xa (Cg (Kq rfl (Rz rfl rfl rfl (by omega)) (Km rfl (Nn ?_)))))))
    refine Lx ((i + 1, o50, c50, s50)) (by (try dsimp only); omega) (S4 rfl rfl rfl rfl) (by refine (Sc ?_ (Sc ?_ (S0 _))) <;> (rfl)) ?_ (by exact fun w h => by rw [qs_strs _ hil, hr]; exact st_sub _ h)
    (try dsimp only)
    exact ⟨⟨hil, by omega⟩, all_take hil hok hx0⟩
 ·(try simp only [sB] at hc19)
  refine Cx (Xc (Xc (Xe ?_)))
  obtain rfl : i = s.es.length := by omega
  rw [List.take_length] at hok
  rw [List.take_length]
  refine Xa (Cs (Km rfl (Ka rfl (Ka rfl (Nt (Ce ?_))))))
  exact Rn rfl (.tmp rfl (.tmp rfl .nil)) fun w' hS => ⟨⟨o, cp, sp⟩, by rw [imS_ok hok, List.length_map]; rfl, trivial, hS.below, by rw [imS_ok hok]; exact Fc hS.ocf Fn⟩
theorem rdy_ok {s : Sm} {ws : List Zs} (h : rdyS s ws = 0) : formS s ∧ (∀ x ∈ ws, okZ x) ∧ chkS s = 0 ∧ ws.length = s.2.1.length := by
 unfold rdyS at h
 split at h
 ·simp at h
 ·rename_i h1; split at h
  ·simp at h
  ·rename_i h2; split at h
   ·rename_i h3; exact absurd h h3
   ·rename_i h3; split at h
    ·simp at h
    ·rename_i h4; exact ⟨Decidable.not_not.1 h1, Decidable.not_not.1 h2, Decidable.not_not.1 h3, Decidable.not_not.1 h4⟩
theorem imS_len {s : Sm} {ws : List Zs} (h : (imS s ws).2 = 0) : (imS s ws).1.length = s.2.2.length := by
 unfold imS at h ⊢; split at h
 ·rename_i h1; exact absurd h h1
 ·rename_i h1; rw [if_neg h1]; simp
theorem ext_all {α : Type} [Inhabited α] {x y : List α} (hl : x.length = y.length) (h : ∀ i, i < x.length → x.getD i default = y.getD i default) : x = y := by
 refine List.ext_getElem hl fun i h1 h2 => ?_
 have := h i h1
 rw [List.getD_eq_getElem?_getD, List.getD_eq_getElem?_getD, List.getElem?_eq_getElem h1, List.getElem?_eq_getElem h2] at this; exact this
theorem tgt_getD (l : List QA) (i : Nat) (h : i < l.length) : ((l.map (·.1)).map (·.2.1)).getD i default = (l.getD i default).1.2.1 := by
 rw [List.getD_eq_getElem?_getD, List.getD_eq_getElem?_getD, List.getElem?_map, List.getElem?_map, List.getElem?_eq_getElem h]; rfl
theorem holds_c {s : SA} {ws : List Zs} {a : Option Addr} {c : Nat} {w : World} {ok : Nat → Prop} (hF1 : (Fact.sl s.ga (gps s.gs)).holds ok w) (hF2 : (Fact.sl s.va (vrs s.vs)).holds ok w) (hF3 : (Fact.sl s.ea (qas s.es)).holds ok w) (hF4 : (Fact.sl a (ints ws)).holds ok w) (hM : ∀ f ∈ (s.es.map qaF), f.holds ok w) (hs : saL s) (hw : ws.length ≤ 100000) :
  Cw 20 #[saV s, .slice a ws.length c] w (.tuple #[.bool (hldS s.core ws).1, .int .i64 (hldS s.core ws).2]) := by
 have hs' := hs
 obtain ⟨hlg, hlv, hle, hlt, hlm⟩ := hs
 refine En (Fact.sl s.ga (gps s.gs) :: Fact.sl s.va (vrs s.vs) :: Fact.sl s.ea (qas s.es) :: Fact.sl a (ints ws) :: (s.es.map qaF)) [(0, saV s), (1, .slice a ws.length c)] Tryz.func20 rfl Tryz.ntmps20 rfl (Ac rfl (Ac rfl (An _))) (Fc (fact_any hF1) (Fc (fact_any hF2) (Fc (fact_any hF3) (Fc (fact_any hF4) (facts_more hM))))) ?_
 refine Cs ?_
 refine Kh rfl (Oy rfl rfl) ?_
 intro b2
 refine Ka rfl (Ka rfl (Nt (Cq (Cs ?_))))
 refine Kq rfl (lda rfl rfl .tc u41 rfl ?_) ?_
 ·kernel_rfl
 refine Km rfl ?_
 refine Ku rfl (Oc rfl rfl (Kv fun w hS => ready_c (s := s) (ws := ws) (by (exact hS.sl)) (by (exact hS.sl)) (by (exact hS.sl)) (by (exact hS.sl)) (by (exact hS.more)) (by exact hs') (by exact hw))) ?_
 refine Ka rfl (Nt (Cs (Km rfl (Kq rfl (rd_neq rfl rfl rfl) (Nt ?_)))))
 refine Cd rfl (fun hc15 => ?_) (fun hc15 => ?_)
 ·(try simp only [sB] at hc15)
  have hr : hldS s.core ws = (false, rdyS s.core ws) := by rw [hldS, if_pos hc15]
  refine Cs (Km rfl (Ka rfl (Ka rfl (Nt (Ce (Xb ?_))))))
  exact R2 rfl rfl rfl (by rw [hr]; rfl)
 ·(try simp only [sB] at hc15)
  have h0 : rdyS s.core ws = 0 := by simpa using hc15
  obtain ⟨hfo, hz, hk, hwl⟩ := rdy_ok h0
  refine Ck (Xa (Cq (Cs ?_)))
  refine Kq rfl (lda rfl rfl .tc u41 rfl ?_) ?_
  ·kernel_rfl
  refine Km rfl ?_
  refine Ku rfl (Oc rfl rfl (Kv fun w hS => inrange_c (s := s) (ws := ws) (by (exact hS.sl)) (by (exact hS.sl)) (by (exact hS.sl)) (by exact hs') (by exact hwl) (by exact hfo) (by exact hz))) ?_
  refine Kq rfl (Rt rfl rfl) (Nt ?_)
  refine Cd rfl (fun hc20 => ?_) (fun hc20 => ?_)
  ·(try simp only [sB] at hc20)
   have hr : hldS s.core ws = (false, 0) := by rw [hldS, if_neg (fun h => h h0), if_pos (by simpa using hc20)]
   refine Cs (Ka rfl (Ka rfl (Nt (Ce (Xb ?_)))))
   exact R2 rfl rfl rfl (by rw [hr]; rfl)
  ·(try simp only [sB] at hc20)
   have hin : inR s.core ws := by simpa using hc20
   refine Ck (Xa (Cs ?_))
   refine Kq rfl (lda rfl rfl .tc u41 rfl ?_) ?_
   ·kernel_rfl
   refine Km rfl ?_
   refine Kh rfl (Oc rfl rfl (keep_fr fun w hS => images_c (s := s) (ws := ws) (by (exact hS.sl)) (by (exact hS.sl)) (by (exact hS.sl)) (by (exact hS.more)) (by exact hs') (by exact hwl) (by exact hfo))) ?_
   rintro g24
   refine WL.pu ?_
   intro hg24; (try dsimp only [List.cons_append, List.nil_append] at hg24 ⊢)
   refine Km rfl (Kq rfl (Re rfl rfl rfl) (Kq rfl (Re rfl rfl rfl) (Ka rfl (Ka rfl (Nt (Cq (Cs (Km rfl (Kq rfl (rd_neq rfl rfl rfl) (Nt ?_))))))))))
   refine Cd rfl (fun hc28 => ?_) (fun hc28 => ?_)
   ·(try simp only [sB] at hc28)
    have hr : hldS s.core ws = (false, (imS s.core ws).2) := by rw [hldS, if_neg (fun h => h h0), if_neg (fun h => h hin), if_pos hc28]
    refine Cs (Km rfl (Ka rfl (Ka rfl (Nt (Ce (Xb ?_))))))
    exact R2 rfl rfl rfl (by rw [hr]; rfl)
   ·(try simp only [sB] at hc28)
    have hi0 : (imS s.core ws).2 = 0 := by simpa using hc28
    have hlI : (imS s.core ws).1.length = s.es.length := by rw [imS_len hi0]; simp
    have hr : hldS s.core ws = (decide ((imS s.core ws).1 = s.core.2.2.map (·.2.1)), 0) := by rw [hldS, if_neg (fun h => h h0), if_neg (fun h => h hin), if_neg (fun h => h hi0)]
    refine Ck (Xa (Cq (Cs (Kq rfl (Fa (q := 2) rfl rfl u41 rfl rfl) (Kq rfl (Ld rfl rfl .tc u39) ?_)))))
    refine Kq rfl (rd_len rfl rfl u39) (Km rfl (Nt (Cb ?_)))
    refine Lp (σ := Nat) [(7, _), (31, _), (32, _)] (fun gq => [(33, .int .i64 (gq : Int))]) (fun gq => gq ≤ s.es.length ∧ ∀ j, j < gq → (imS s.core ws).1.getD j default = (s.es.getD j default).1.2.1) (fun gq => s.es.length - gq) (0) (S3 rfl rfl rfl) (S1 rfl) (by (try dsimp only); exact ⟨Nat.zero_le _, fun _ h => absurd h (Nat.not_lt_zero _)⟩) ?_
    rintro i hinv1; (try dsimp only at hinv1 ⊢)
    obtain ⟨hi, hok⟩ := hinv1
    refine Cs (Kq rfl (rd_lss rfl rfl rfl) (Nt (Cq ?_)))
    refine Cd rfl (fun hc34 => ?_) (fun hc34 => ?_)
    ·(try simp only [sB] at hc34)
     have hil : i < s.es.length := by omega
     have hil2 : i < (imS s.core ws).1.length := by omega
     refine Ck (Xa (Cq (Cb (Cs (Km rfl ?_)))))
     refine Kq rfl (Ia rfl rfl rfl u39 (by kernel_rfl : _ = some 3) (by omega) (by (rw [flatMap_len _ _ 3 (fun _ => rfl)]; omega))) ?_
     refine Kq rfl (ldma _ rfl rfl u77 rfl (by kernel_rfl : _ = some 3) (fun _ => rfl) (by decide) rfl (by assumption)) ?_
     refine Kh rfl (Oz [.int .i64 0, .string (S []), .slice none 0 0] rfl) ?_
     intro b10
     refine Ka rfl ?_
     refine Nu rfl rfl (Sa rfl rfl rfl .tc) ?_
     refine Nt (Cq ?_)
     refine Cf [0, 1, 2, 3, 4, 5, 6] [] [0, 0, 0, 0, 0, 0, 0] (by kernel_rfl) (by kernel_rfl) rfl ?_
     refine Kj rfl (Rm rfl rfl) (Kj rfl (Rm rfl rfl) ?_)
     refine Kj rfl (Ib rfl rfl rfl u64 (by omega) (by (rw [List.length_map]; omega))) ?_
     refine Kj rfl (ldm rfl rfl u22 rfl (by assumption)) ?_
     refine Kj rfl (Fa (q := 1) rfl rfl u77 rfl rfl) (Kj rfl (Ld rfl rfl .tc u22) ?_)
     refine Kj rfl (rd_sne rfl rfl rfl) ?_
     refine WJ.nil ?_
     refine Nt ?_
     refine Cd rfl (fun hc44 => ?_) (fun hc44 => ?_)
     ·(try simp only [sB] at hc44)
      have hne : ¬ (imS s.core ws).1 = s.core.2.2.map (·.2.1) := fun h => by
       have h1 := tgt_getD s.es i hil
       exact absurd ((congrArg (fun l : List Bs => l.getD i default) h).trans h1) (by simpa using hc44)
      refine Cs (Ka rfl (Ka rfl (Nt (Ce (Xf (Xb (Xb (Xf (Xb ?_)))))))))
      exact R2 rfl rfl rfl (by rw [hr, decide_eq_false hne]; rfl)
     ·(try simp only [sB] at hc44)
      refine Ck (Xd (Xa (Cg (Kq rfl (Rz rfl rfl rfl (by omega)) (Km rfl (Nn ?_))))))
      refine Ly (i + 1) (by (try dsimp only); omega) (S3 rfl rfl rfl) (by refine (Sc ?_ (S0 _)) <;> (rfl)) ?_ (by (exact st_sub))
      (try dsimp only)
      exact ⟨hil, fun j hj => by rcases Nat.lt_succ_iff_lt_or_eq.1 hj with h | h; exact hok j h; subst h; simpa using hc44⟩
    ·(try simp only [sB] at hc34)
     refine Cx (Xc (Xc (Xe ?_)))
     obtain rfl : i = s.es.length := by omega
     have heq : (imS s.core ws).1 = s.core.2.2.map (·.2.1) := ext_all (by rw [hlI]; simp) fun j hj => by
      have h1 := tgt_getD s.es j (by omega)
      rw [hok j (by omega)]; exact h1.symm
     refine Xa (Cs (Ka rfl (Ka rfl (Nt (Ce ?_)))))
     exact R2 rfl rfl rfl (by rw [hr, decide_eq_true heq]; rfl)
theorem pow_red {M h d : Nat} (h1 : h ^ d % M = 1 % M) (r : Nat) : h ^ r % M = h ^ (r % d) % M := by
 conv => lhs; rw [← Nat.div_add_mod r d, Nat.pow_add, Nat.pow_mul, ← mml, ← pow_mod2, h1, one_pow_mod, mml, Nat.one_mul]
def hshL (l : Bs) (c : Nat) : Bs := sha (Lib.decDigits c ++ 58 :: l)
def cofG (g : Gp) : Nat := (val g.1 - 1) / val g.2
def hshV (g : Gp) (l : Bs) (c : Nat) : Nat := val (hshL l c) ^ cofG g % val g.1
def hshF (g : Gp) (l : Bs) : Nat → Nat → Option Nat
 | 0, _ => none
 | f + 1, c => if hshV g l c ≠ 0 ∧ hshV g l c ≠ 1 then some (hshV g l c) else hshF g l f (c + 1)
def hshS (g : Gp) (l : Bs) : Bs × Int :=
 if ¬ (okN g.1 ∧ okN g.2) then ([], 3) else if g.1 = [] ∨ g.2 = [] then ([], 11) else if (val g.1 - 1) % val g.2 ≠ 0 then ([], 13)
 else match hshF g l 64 0 with
  | some x => (canon x, 0)
  | none => ([], 13)
def scoB : Bs := [115, 99, 111, 112, 101, 46]
def bseS (k : PK) (s : Bs) : Bs × Int :=
 if chkK k ≠ 0 then ([], chkK k) else if k.1.2 = [] then ([], 1) else if 65536 < s.length then ([], 5)
 else if (hshS k.1 (scoB ++ s)).2 = 0 ∧ ¬ elG k.1 (hshS k.1 (scoB ++ s)).1 then ([], 13) else hshS k.1 (scoB ++ s)
def nymS (k : PK) (s x : Bs) : Bs × Int := if ¬ okN x then ([], 3) else if (bseS k s).2 ≠ 0 then ([], (bseS k s).2) else prodS k.1 [(bseS k s).1] [fromZ x]
def psE (k : PK) (s n b : Bs) : Int := if ¬ (okN n ∧ okN b) then 3 else if (bseS k s).2 ≠ 0 then (bseS k s).2 else if ¬ elG k.1 n then 13 else 0
def psQ (k : PK) (s n b : Bs) : Sm := ([k.1], [b], [(0, n, [trm (bseS k s).1 0])])
def psS (k : PK) (s n b : Bs) : Sm × Int := if psE k s n b ≠ 0 then (([], [], []), psE k s n b) else (psQ k s n b, 0)
theorem bse_ok {k : PK} {s : Bs} (h : (bseS k s).2 = 0) : chkG k.1 = 0 ∧ k.1.2 ≠ [] ∧ elG k.1 (bseS k s).1 := by
 unfold bseS at h ⊢
 split at h
 ·rename_i h1; exact absurd h h1
 ·rename_i h1; rw [if_neg h1]; split at h
  ·simp at h
  ·rename_i h2; rw [if_neg h2]; split at h
   ·simp at h
   ·rename_i h3; rw [if_neg h3]; split at h
    ·simp at h
    ·rename_i h4; rw [if_neg h4]
     have h1 := Decidable.not_not.1 h1
     refine ⟨?_, h2, Decidable.byContradiction fun h5 => h4 ⟨h, h5⟩⟩
     unfold chkK at h1; split at h1
     ·simp at h1
     ·split at h1
      ·rename_i h6; exact absurd h1 h6
      ·rename_i h6; exact Decidable.not_not.1 h6
theorem one_hold {g : Gp} {B n b x : Bs} (hg : chkG g = 0) (hq : g.2 ≠ []) (hB : elG g B) (hn : elG g n) (hbo : okN b) (hx : okN x) (hr : if b = [] then val x < val g.2 else val x < val b) (hp : canon (powI (val g.1) (val B) (val x)) = n) :
  hldS ([g], [b], [(0, n, [trm B 0])]) [(false, x)] = (true, 0) := by
 obtain ⟨hg1, hg2, _⟩ := chkG_ok hg
 have hz : okZ (false, x) := ⟨hx, fun h => by cases h.1⟩
 have hord : ordS [g] = g.2 := by simp [ordS, List.find?, hq]
 generalize hM : (([g], [b], [(0, n, [trm B 0])]) : Sm) = M
 have hf : formS M := by
  subst hM
  refine ⟨?_, ?_, ?_⟩
  ·intro y hy; simp at hy; subst hy; exact ⟨hg1, hg2⟩
  ·intro y hy; simp at hy; subst hy; exact hbo
  ·intro q hq; simp at hq; subst hq
   refine ⟨⟨⟨Int.le_refl 0, by simp⟩, hn.1⟩, ?_⟩
   intro t ht; simp at ht; subst ht
   exact okT_trm hB.1 (by decide) (by simp)
 have hs : sizeS M := by subst hM; simp [sizeS]
 have he : elS M := by
  subst hM
  refine ⟨?_, ?_⟩
  ·intro y hy; simp at hy; subst hy; exact hg
  ·intro q hq; simp at hq; subst hq
   refine ⟨hn, ?_⟩
   intro t ht; simp at ht; subst ht; exact hB
 have hd : kdS M := by
  subst hM
  refine Or.inr ⟨⟨by rw [hord]; exact hq, ?_⟩, ?_⟩
  ·intro y hy; rw [hord]; simp at hy; subst hy; exact fun h => h.2 rfl
  ·intro q hq1; simp at hq1; subst hq1; exact Or.inl hq
 have hck : chkS M = 0 := by simp [chkS, hf, hs, he, hd]
 have hrd : rdyS M [(false, x)] = 0 := by
  rw [rdyS, if_neg (fun h => h hf), if_neg (fun h => h (by intro y hy; simp at hy; subst hy; exact hz)), if_neg (fun h => h hck), if_neg]
  subst hM; simp
 have hin : inR M [(false, x)] := by
  subst hM
  intro i hi
  have hi : i < 1 := hi
  obtain rfl : i = 0 := by omega
  simp only [List.getD_cons_zero, hord]
  rw [inV]; by_cases hb : b = []
  ·rw [if_pos hb] at hr ⊢; exact ⟨rfl, hr⟩
  ·rw [if_neg hb] at hr ⊢; exact hr
 have hI : imQ [g] [((false, x) : Zs)] (0, n, [trm B 0]) = prodS g [B] [(false, x)] := imQ_one (by exact hz)
 have hP := prodS_one hg hB hz
 rw [show zv (false, x) = (val x : Int) from rfl, hp] at hP
 have him : imS M [(false, x)] = ([n], 0) := by
  subst hM
  simp only [imS, List.map_cons, List.map_nil, hI, hP, errL]; simp
 rw [hldS, if_neg (fun h => h hrd), if_neg (fun h => h hin), him, if_neg (fun h => h rfl)]
 refine congrArg (fun b => (b, (0 : Int))) (decide_eq_true ?_)
 subst hM; rfl
theorem psS_of {k : PK} {s n b : Bs} (hb : (bseS k s).2 = 0) (hn : elG k.1 n) (hbo : okN b) : psS k s n b = (psQ k s n b, 0) := by
 have hE : psE k s n b = 0 := by rw [psE, if_neg (fun h => h ⟨hn.1, hbo⟩), if_neg (fun h => h hb), if_neg (fun h => h hn)]
 rw [psS, if_neg (fun h => h hE)]
theorem ps_holds {k : PK} {s : Bs} {x y : Nat} (hb : (bseS k s).2 = 0) (hx : x < 4294967296) (hy : y < 4294967296) :
  (nymS k s (canon x)).2 = 0 ∧ (psS k s (nymS k s (canon x)).1 (canon (x + y + 1))).2 = 0 ∧
  hldS (psS k s (nymS k s (canon x)).1 (canon (x + y + 1))).1 [(false, canon x)] = (true, 0) ∧
  (psS k s (nymS k s (canon x)).1 []).2 = 0 ∧ hldS (psS k s (nymS k s (canon x)).1 []).1 [(false, canon (x % val k.1.2))] = (true, 0) := by
 obtain ⟨hg, hq, hB⟩ := bse_ok hb
 have hBig : 4294967296 * 3 < Big := by decide +kernel
 have hxo : okN (canon x) := okN_can (by omega)
 have hqp : 0 < val k.1.2 := pos_of_ne (chkG_ok hg).2.1 hq
 have hml := Nat.mod_lt x hqp
 have hmle := Nat.mod_le x (val k.1.2)
 have hz : okZ (false, canon x) := ⟨hxo, fun h => by cases h.1⟩
 have hP := prodS_one hg hB hz
 rw [show zv (false, canon x) = (val (canon x) : Int) from rfl, val_canon] at hP
 have hN : nymS k s (canon x) = (canon (powI (val k.1.1) (val (bseS k s).1) (x : Int)), 0) := by
  rw [nymS, if_neg (fun h => h hxo), if_neg (fun h => h hb), fromZ_ok hxo, hP]
 have hne : elG k.1 (nymS k s (canon x)).1 := by
  have := elG_prod (g := k.1) (l := [(bseS k s).1]) (es := [(false, canon x)]) (by rw [hP])
  rw [hP] at this; rw [hN]; exact this
 have hbo : okN (canon (x + y + 1)) := okN_can (by omega)
 rw [psS_of hb hne hbo, psS_of hb hne okN_nil]
 rw [hN] at hne ⊢; simp only at hne ⊢
 refine ⟨trivial, trivial, ?_, trivial, ?_⟩
 ·refine one_hold hg hq hB hne hbo hxo ?_ (by rw [val_canon])
  rw [if_neg (fun h => by rw [canon_nil] at h; omega), val_canon, val_canon]; omega
 ·refine one_hold hg hq hB hne okN_nil (okN_can (by omega)) ?_ ?_
  ·rw [if_pos rfl, val_canon]; exact hml
  ·rw [val_canon, powI_nat, powI_nat]
   have h1 : val (bseS k s).1 ^ val k.1.2 % val k.1.1 = 1 % val k.1.1 := by
    have h2 := hB.2.2.2; rw [if_neg hq] at h2
    rw [h2, Nat.mod_eq_of_lt (by have := (chkG_ok hg).2.2.1; omega)]
   rw [pow_red h1 x]
theorem rot_ok (x : W) (n : Nat) (h0 : 0 < n) (h : n < 32) (w : World) : Cw 165 #[u32 x, .int .i64 (0 - (n : Int))] w (u32 (rr x n)) := by
 refine enter (S := St (fun _ => True) w [] []) (L := [(0, u32 x), (1, .int .i64 (0 - (n : Int)))]) Tryz.func165 rfl Tryz.ntmps165 rfl (Ac rfl (Ac rfl (An _))) (St.start (fun _ _ => trivial) (by simp)) ?_
 refine Cq (Cg (Ka rfl (Nn (Xa (Cq (Cg (Km rfl (Kq rfl (rd_conv rfl rfl u3 u124) (Kq rfl (rd_and rfl rfl rfl) (Ns 8 rfl (congrArg (Value.int .u64) (and31 n h0 h)) (Ka rfl (Nn (Xa (Cq (Cg (Km rfl (Km rfl (Kq rfl (rd_shl rfl rfl rfl (by omega)) ?_))))))))))))))))))
 refine Ns 11 rfl (v' := .int .u32 (IntKind.u32.wrap ((x.toNat : Int) * 2 ^ (32 - n)))) (by congr 3; simp [IntKind.bits]; try omega) ?_
 refine Km rfl (Km rfl (Kq rfl (rd_sub rfl rfl rfl) ?_))
 refine Ns 14 rfl (v' := .int .u64 (n : Int)) (congrArg (Value.int .u64) (by rw [IntKind.wrap_u64]; omega)) ?_
 refine Kq rfl (rd_shr rfl rfl rfl (by omega)) ?_
 refine Ns 15 rfl (v' := .int .u32 ((x.toNat : Int).fdiv (2 ^ n))) (by congr 3; simp [IntKind.bits]; try omega) ?_
 refine Kq rfl (rd_or rfl rfl rfl) (Ns 16 rfl (v' := u32 (rr x n)) (congrArg (Value.int .u32) (rot_W x n h0 h)) (Ka rfl (Nn (Xa (Ce ?_)))))
 exact WX.ret1 rfl rfl fun w' hS => ⟨rfl, hS.below⟩
theorem turn_ok (x : W) (n : Nat) (h0 : 0 < n) (h : n < 32) (w : World) : Cw 145 #[u32 x, .int .i64 (n : Int)] w (u32 (rr x n)) := by
 refine enter (S := St (fun _ => True) w [] []) (L := [(0, u32 x), (1, .int .i64 (n : Int))]) Tryz.func145 rfl Tryz.ntmps145 rfl (Ac rfl (Ac rfl (An _))) (St.start (fun _ _ => trivial) (by simp)) ?_
 refine Cq (Cg (Ka rfl (Nn (Xa (Cq (Cg (Km rfl (Km rfl ?_))))))))
 refine Kq rfl (rd_neg64 rfl rfl ?_) ?_
 ·omega
 refine Ku rfl (Oc rfl rfl (Kv fun w _ => rot_ok x n h0 h w)) ?_
 refine Ka rfl (Nn (Xa (Ce ?_)))
 exact WX.ret1 rfl rfl fun w' hS => ⟨rfl, hS.below⟩
theorem turn_lit (x : W) (n : Nat) (h0 : 0 < n) (h : n < 32) (w : World) : Cw 145 #[u32 x, .int .i64 (@OfNat.ofNat Int n instOfNat)] w (u32 (rr x n)) := turn_ok x n h0 h w
theorem sched_set (j : Nat) (ws : List W) (hw : ws.length = 16) (hj : j < 48) : ((sched j ws).map u32 ++ List.replicate (48 - j) (u32 0)).set (16 + j) (u32 (nextW (sched j ws))) = (sched (j + 1) ws).map u32 ++ List.replicate (48 - (j + 1)) (u32 0) := by
 have hl : ((sched j ws).map u32).length = 16 + j := by rw [List.length_map, sched_len, hw]
 rw [List.set_append_right _ _ (by omega), hl, Nat.sub_self, show 48 - j = (48 - (j + 1)) + 1 by omega, List.replicate_succ]
 simp [sched]
theorem first_ok (w : World) : Cw 107 #[] w (.agg (H0.map u32).toArray) := by
 refine enter (S := St (fun _ => True) w [] []) (L := []) Tryz.func107 rfl Tryz.ntmps107 rfl (An _) (St.start (fun _ _ => trivial) (by simp)) ?_
 refine Cq (Cg ?_)
 refine Kh rfl (Oz [.int .u32 0, .int .u32 0, .int .u32 0, .int .u32 0, .int .u32 0, .int .u32 0, .int .u32 0, .int .u32 0] rfl) ?_
 intro b0
 refine Nn (Xa (Cq (Cg ?_)))
 refine Kq rfl (rd_build rfl rfl (v := .agg #[.int .u32 1779033703, .int .u32 3144134277, .int .u32 1013904242, .int .u32 2773480762, .int .u32 1359893119, .int .u32 2600822924, .int .u32 528734635, .int .u32 1541459225]) (fun w => by kernel_rfl)) ?_
 refine Nu rfl rfl (Sa rfl rfl rfl .tc) ?_
 refine Nn (Xa (Ce ?_))
 exact WX.ret1c (cs := H0.map u32) rfl rfl .here u139 rfl (by kernel_rfl) fun w' hS => ⟨rfl, hS.below⟩
theorem constants_ok (w : World) : Cw 143 #[] w (.agg (KK.map u32).toArray) := by
 refine enter (S := St (fun _ => True) w [] []) (L := []) Tryz.func143 rfl Tryz.ntmps143 rfl (An _) (St.start (fun _ _ => trivial) (by simp)) ?_
 refine Cq (Cg ?_)
 refine Kh rfl (Oa rfl (v := (.agg (List.replicate 64 (.int .u32 0)).toArray)) (cs := (List.replicate 64 (.int .u32 0))) (by kernel_rfl) rfl) ?_
 intro b0
 refine Nn (Xa (Cq (Cg ?_)))
 refine Kq rfl (rd_build rfl rfl (v := .agg #[.int .u32 1116352408, .int .u32 1899447441, .int .u32 3049323471, .int .u32 3921009573, .int .u32 961987163, .int .u32 1508970993, .int .u32 2453635748, .int .u32 2870763221, .int .u32 3624381080, .int .u32 310598401, .int .u32 607225278, .int .u32 1426881987, .int .u32 1925078388, .int .u32 2162078206, .int .u32 2614888103, .int .u32 3248222580, .int .u32 3835390401, .int .u32 4022224774, .int .u32 264347078, .int .u32 604807628, .int .u32 770255983, .int .u32 1249150122, .int .u32 1555081692, .int .u32 1996064986, .int .u32 2554220882, .int .u32 2821834349, .int .u32 2952996808, .int .u32 3210313671, .int .u32 3336571891, .int .u32 3584528711, .int .u32 113926993, .int .u32 338241895, .int .u32 666307205, .int .u32 773529912, .int .u32 1294757372, .int .u32 1396182291, .int .u32 1695183700, .int .u32 1986661051, .int .u32 2177026350, .int .u32 2456956037, .int .u32 2730485921, .int .u32 2820302411, .int .u32 3259730800, .int .u32 3345764771, .int .u32 3516065817, .int .u32 3600352804, .int .u32 4094571909, .int .u32 275423344, .int .u32 430227734, .int .u32 506948616, .int .u32 659060556, .int .u32 883997877, .int .u32 958139571, .int .u32 1322822218, .int .u32 1537002063, .int .u32 1747873779, .int .u32 1955562222, .int .u32 2024104815, .int .u32 2227730452, .int .u32 2361852424, .int .u32 2428436474, .int .u32 2756734187, .int .u32 3204031479, .int .u32 3329325298]) (fun w => by kernel_rfl)) ?_
 refine Nu rfl rfl (Sa rfl rfl rfl .tc) ?_
 refine Nn (Xa (Ce ?_))
 exact WX.ret1c (cs := KK.map u32) rfl rfl .here u171 rfl (by kernel_rfl) fun w' hS => ⟨rfl, hS.below⟩
theorem schedule_ok (bs : List UInt8) (hbs : bs.length = 64) (b off cap : Nat) (hcap : 64 ≤ cap) (w : World) (hf : (Fact.sl (some ⟨b, off, none⟩) (bs.map B)).holds (fun _ => True) w) :
  Cw 144 #[.slice (some ⟨b, off, none⟩) 64 cap] w (.agg ((sched 48 (words bs)).map u32).toArray) := by
 have hwl := words_len 16 bs hbs
 refine enter (S := St (fun _ => True) w [] [Fact.sl (some ⟨b, off, none⟩) (bs.map B)]) (L := [(0, .slice (some ⟨b, off, none⟩) 64 cap)]) Tryz.func144 rfl Tryz.ntmps144 rfl (Ac rfl (An _)) (St.start (fun _ _ => trivial) (by simpa using hf)) ?_
 refine Cq (Cg ?_)
 refine Kh rfl (Oa rfl (v := (.agg (List.replicate 64 (.int .u32 0)).toArray)) (cs := (List.replicate 64 (.int .u32 0))) (by kernel_rfl) rfl) ?_
 intro b2
 refine Nn (Xa (Cq (Cg ?_)))
 refine Kh rfl (Oa rfl (v := (.agg (List.replicate 64 (.int .u32 0)).toArray)) (cs := (List.replicate 64 (.int .u32 0))) (by kernel_rfl) rfl) ?_
 intro b3
 refine Nn (Xa (Cq (Cq (Cg (Km rfl (Nn (Xa (Cb ?_))))))))
 refine WC.loop (σ := Nat) (fun k => [(0, .slice (some ⟨b, off, none⟩) 64 cap), (2, .pointer (some ⟨b2, 0, none⟩)), (3, .pointer (some ⟨b3, 0, none⟩)), (9, .int .i64 (k : Int))]) (fun k w' => k ≤ 16 ∧ St (fun _ => True) w [⟨some b3, ((words bs).take k).map u32 ++ List.replicate (64 - k) (u32 0), 171⟩, ⟨some b2, List.replicate 64 (u32 0), 171⟩] [Fact.sl (some ⟨b, off, none⟩) (bs.map B)] w') (fun k => 16 - k) 0 (by repeat (first | exact S0 _ | refine Sc rfl ?_)) (fun w' h => ⟨by omega, h⟩) ?_
 intro k; refine WC.pu ?_; intro hk
 refine Cq (Cg (Kq rfl (rd_lss rfl rfl rfl) (Nn (Xa (Cq ?_)))))
 refine Cd rfl (fun hc10 => ?_) (fun hc10 => ?_)
 ·(try simp only [decide_eq_true_eq, decide_eq_false_iff_not, Bool.not_eq_true', Bool.not_eq_false', Bool.not_not, Int.not_lt, Int.not_le] at hc10)
  obtain ⟨c0, hc0⟩ : ∃ c, bs[4 * k]? = some c := ⟨_, List.getElem?_eq_getElem (by omega)⟩
  obtain ⟨c1, hc1⟩ : ∃ c, bs[4 * k + 1]? = some c := ⟨_, List.getElem?_eq_getElem (by omega)⟩
  obtain ⟨c2, hc2⟩ : ∃ c, bs[4 * k + 2]? = some c := ⟨_, List.getElem?_eq_getElem (by omega)⟩
  obtain ⟨c3, hc3⟩ : ∃ c, bs[4 * k + 3]? = some c := ⟨_, List.getElem?_eq_getElem (by omega)⟩
  refine Ck (Xa (Cq (Cb (Cq (Cg (Km rfl (Ka rfl (Nn (Xa (Cq (Cg (Km rfl (Km rfl ?_)))))))))))))
  first
   | (refine Kq rfl (rd_mul64ln rfl rfl rfl ?_) ?_; focus (omega))
   | (refine Kq rfl (rd_mul64 rfl rfl rfl ?_) ?_; focus (omega))
  refine Km rfl ?_
  first
   | (refine Kq rfl (rd_mul64ln rfl rfl rfl ?_) ?_; focus (omega))
   | (refine Kq rfl (rd_mul64 rfl rfl rfl ?_) ?_; focus (omega))
  first
   | (refine Kq rfl (Rz rfl rfl rfl ?_) ?_; focus (omega))
   | (refine Kq rfl (rd_add64 rfl rfl rfl ?_) ?_; focus (omega))
  refine Kq rfl (rd_slbn rfl rfl rfl rfl u83 (by kernel_rfl : _ = some 1) ?_ (by (try simp only [Int.toNat_natCast, Nat.mul_one, Nat.zero_add, Nat.add_zero, Nat.zero_mul, Int.reduceToNat, Nat.reduceAdd, Nat.reduceMul, Nat.reduceSub, Nat.sub_zero]); rfl) (by (try simp only [Int.toNat_natCast, Nat.mul_one, Nat.zero_add, Nat.add_zero, Nat.zero_mul, Int.reduceToNat, Nat.reduceAdd, Nat.reduceMul, Nat.reduceSub, Nat.sub_zero]); rfl) (by (try simp only [Int.toNat_natCast, Nat.mul_one, Nat.zero_add, Nat.add_zero, Nat.zero_mul, Int.reduceToNat, Nat.reduceAdd, Nat.reduceMul, Nat.reduceSub, Nat.sub_zero]); rfl)) ?_
  ·omega
  refine Ka rfl (Nn (Xa ?_))
  refine WC.mix [0, 0, 0, 0, 0, 0, 0, 0, 0, 0, 0, 0, 0, 0, 0, 0, 0, 0, 0, 0, 0, 0, 0, 0, 2] (by kernel_rfl) (by kernel_rfl) (fun w h => h.draw) ?_
  refine WM.r rfl rfl rfl (Rm rfl rfl) ?_
  refine WM.r rfl rfl rfl (Rm rfl rfl) ?_
  refine WM.r rfl rfl rfl (Ja rfl rfl rfl u83 (by kernel_rfl : _ = some 1) ?_) ?_
  ·omega
  refine WM.r rfl rfl rfl (ldf rfl rfl (by first | exact .here | exact .t1 | exact .t2 | exact .t3 | exact .t4 | exact .t5 | exact .t6 | exact .t7) u5 rfl (m := 4 * k) (by omega) (by rw [List.getElem?_map, hc0]; rfl)) ?_
  refine WM.r rfl rfl rfl (rd_conv rfl rfl u5 u56) ?_
  refine WM.r rfl rfl rfl (rd_shl rfl rfl rfl ?_) ?_
  ·first | decide | omega
  refine WM.r rfl rfl rfl (Rm rfl rfl) ?_
  refine WM.r rfl rfl rfl (Ja rfl rfl rfl u83 (by kernel_rfl : _ = some 1) ?_) ?_
  ·omega
  refine WM.r rfl rfl rfl (ldf rfl rfl (by first | exact .here | exact .t1 | exact .t2 | exact .t3 | exact .t4 | exact .t5 | exact .t6 | exact .t7) u5 rfl (m := 4 * k + 1) (by omega) (by rw [List.getElem?_map, hc1]; rfl)) ?_
  refine WM.r rfl rfl rfl (rd_conv rfl rfl u5 u56) ?_
  refine WM.r rfl rfl rfl (rd_shl rfl rfl rfl ?_) ?_
  ·first | decide | omega
  refine WM.r rfl rfl rfl (rd_or rfl rfl rfl) ?_
  refine WM.r rfl rfl rfl (Rm rfl rfl) ?_
  refine WM.r rfl rfl rfl (Ja rfl rfl rfl u83 (by kernel_rfl : _ = some 1) ?_) ?_
  ·omega
  refine WM.r rfl rfl rfl (ldf rfl rfl (by first | exact .here | exact .t1 | exact .t2 | exact .t3 | exact .t4 | exact .t5 | exact .t6 | exact .t7) u5 rfl (m := 4 * k + 2) (by omega) (by rw [List.getElem?_map, hc2]; rfl)) ?_
  refine WM.r rfl rfl rfl (rd_conv rfl rfl u5 u56) ?_
  refine WM.r rfl rfl rfl (rd_shl rfl rfl rfl ?_) ?_
  ·first | decide | omega
  refine WM.r rfl rfl rfl (rd_or rfl rfl rfl) ?_
  refine WM.r rfl rfl rfl (Rm rfl rfl) ?_
  refine WM.r rfl rfl rfl (Ja rfl rfl rfl u83 (by kernel_rfl : _ = some 1) ?_) ?_
  ·omega
  refine WM.r rfl rfl rfl (ldf rfl rfl (by first | exact .here | exact .t1 | exact .t2 | exact .t3 | exact .t4 | exact .t5 | exact .t6 | exact .t7) u5 rfl (m := 4 * k + 3) (by omega) (by rw [List.getElem?_map, hc3]; rfl)) ?_
  refine WM.r rfl rfl rfl (rd_conv rfl rfl u5 u56) ?_
  refine WM.r rfl rfl rfl (rd_or rfl rfl rfl) ?_
  refine WM.set 41 rfl (v' := u32 (word c0 c1 c2 c3)) (congrArg (Value.int .u32) (word_bits c0 c1 c2 c3)) ?_
  refine WM.r rfl rfl rfl (Jb rfl rfl rfl u171 (by kernel_rfl : _ = some 1) ?_) ?_
  ·omega
  refine WM.h0 rfl rfl (st rfl rfl rfl (by first | exact .here | exact .t1 | exact .t2 | exact .t3 | exact .t4 | exact .t5 | exact .t6 | exact .t7) (by kernel_rfl) rfl ?_ rfl) ?_
  ·first | decide | (simp; done) | (simp; omega)
  intro _
  refine WM.nil ?_
  refine Xd (Xa (Cg ?_))
  first
   | (refine Kq rfl (Rz rfl rfl rfl ?_) ?_; focus (omega))
   | (refine Kq rfl (rd_add64 rfl rfl rfl ?_) ?_; focus (omega))
  refine Km rfl (Nn ?_)
  exact WX.loop (k + 1) (by omega) (by repeat (first | exact S0 _ | refine Sc rfl ?_)) (fun w' h => ⟨by omega, by rw [fill_set (words bs) u32 (u32 0) 64 k _ (by omega) (words_get k bs c0 c1 c2 c3 hc0 hc1 hc2 hc3)] at h; exact h⟩)
 ·(try simp only [decide_eq_true_eq, decide_eq_false_iff_not, Bool.not_eq_true', Bool.not_eq_false', Bool.not_not, Int.not_lt, Int.not_le] at hc10)
  refine Cx (Xc (Xc (Xe ?_)))
  obtain rfl : k = 16 := by omega
  refine Xa (Cq (Cq (Cg (Ka rfl (Nn (Xa (Cb ?_)))))))
  refine WC.loop (σ := Nat) (fun j => [(2, .pointer (some ⟨b2, 0, none⟩)), (3, .pointer (some ⟨b3, 0, none⟩)), (6, .int .i64 ((16 + j : Nat) : Int))]) (fun j w' => j ≤ 48 ∧ St (fun _ => True) w [⟨some b3, (sched j (words bs)).map u32 ++ List.replicate (48 - j) (u32 0), 171⟩, ⟨some b2, List.replicate 64 (u32 0), 171⟩] [] w') (fun j => 48 - j) 0 (by repeat (first | exact S0 _ | refine Sc rfl ?_)) (fun w' h => ⟨by omega, by rw [List.take_of_length_le (by omega)] at h; exact h.sub (List.Sublist.refl _) (by simp)⟩) ?_
  intro j; refine WC.pu ?_; intro hj
  refine Cq (Cq (Cg (Km rfl (Kq rfl (rd_lss rfl rfl rfl) (Nn (Xa ?_))))))
  refine Cd rfl (fun hc45 => ?_) (fun hc45 => ?_)
  ·(try simp only [decide_eq_true_eq, decide_eq_false_iff_not, Bool.not_eq_true', Bool.not_eq_false', Bool.not_not, Int.not_lt, Int.not_le] at hc45)
   have hsl := sched_len j (words bs)
   rw [hwl] at hsl
   refine Ck (Xa (Cq (Cb (Cq ?_))))
   refine WC.mix [0, 0, 0, 0, 0, 0, 0, 0, 0, 0] (by kernel_rfl) (by kernel_rfl) (fun w h => h.draw) ?_
   refine WM.r rfl rfl rfl (Rm rfl rfl) ?_
   first
    | (refine WM.r rfl rfl rfl (rd_sub64nl rfl rfl rfl ?_) ?_; focus (omega))
    | (refine WM.r rfl rfl rfl (rd_sub64 rfl rfl rfl ?_) ?_; focus (omega))
   refine WM.r rfl rfl rfl (Jb rfl rfl rfl u171 (by kernel_rfl : _ = some 1) ?_) ?_
   ·omega
   refine WM.r rfl rfl rfl (ld rfl rfl (by first | exact .here | exact .t1 | exact .t2 | exact .t3 | exact .t4 | exact .t5 | exact .t6 | exact .t7) u56 rfl (by exact map_cell _ u32 _ _ _ (get_getD (sched j (words bs)) _ 0 (by omega)))) ?_
   refine WM.r rfl rfl rfl (Rm rfl rfl) ?_
   first
    | (refine WM.r rfl rfl rfl (rd_sub64nl rfl rfl rfl ?_) ?_; focus (omega))
    | (refine WM.r rfl rfl rfl (rd_sub64 rfl rfl rfl ?_) ?_; focus (omega))
   refine WM.r rfl rfl rfl (Jb rfl rfl rfl u171 (by kernel_rfl : _ = some 1) ?_) ?_
   ·omega
   refine WM.r rfl rfl rfl (ld rfl rfl (by first | exact .here | exact .t1 | exact .t2 | exact .t3 | exact .t4 | exact .t5 | exact .t6 | exact .t7) u56 rfl (by exact map_cell _ u32 _ _ _ (get_getD (sched j (words bs)) _ 0 (by omega)))) ?_
   refine WM.r rfl rfl rfl (Ra rfl rfl) ?_
   refine WM.r rfl rfl rfl (Ra rfl rfl) ?_
   refine WM.nil ?_
   refine Xa ?_
   refine WC.mix [0, 0, 0, 0, 0, 0, 1, 0, 1, 0, 0, 0, 0, 0, 0, 0, 0, 0, 0, 0, 1, 0, 1, 0, 0, 0, 0, 0, 0, 2] (by kernel_rfl) (by kernel_rfl) (fun w h => h.draw) ?_
   refine WM.r rfl rfl rfl (Rm rfl rfl) ?_
   refine WM.r rfl rfl rfl (Rm rfl rfl) ?_
   first
    | (refine WM.r rfl rfl rfl (rd_sub64nl rfl rfl rfl ?_) ?_; focus (omega))
    | (refine WM.r rfl rfl rfl (rd_sub64 rfl rfl rfl ?_) ?_; focus (omega))
   refine WM.r rfl rfl rfl (Jb rfl rfl rfl u171 (by kernel_rfl : _ = some 1) ?_) ?_
   ·omega
   refine WM.r rfl rfl rfl (ld rfl rfl (by first | exact .here | exact .t1 | exact .t2 | exact .t3 | exact .t4 | exact .t5 | exact .t6 | exact .t7) u56 rfl (by exact map_cell _ u32 _ _ _ (get_getD (sched j (words bs)) _ 0 (by omega)))) ?_
   refine WM.r rfl rfl rfl (Rm rfl rfl) ?_
   refine WM.g rfl rfl rfl (Oc rfl rfl (Kv fun w _ => turn_lit _ _ (by decide) (by decide) w)) (fun _ _ h => by first | exact h | exact ⟨_, h⟩ | exact ⟨_, h.2⟩ | exact h.2 | exact h.sub (by repeat (first | exact List.Sublist.refl _ | apply List.Sublist.cons)) (fun _ h => by simp [*]) | exact h.2.sub (by repeat (first | exact List.Sublist.refl _ | apply List.Sublist.cons)) (fun _ h => by simp [*])) ?_
   intro _
   refine WM.r rfl rfl rfl (Rm rfl rfl) ?_
   refine WM.g rfl rfl rfl (Oc rfl rfl (Kv fun w _ => turn_lit _ _ (by decide) (by decide) w)) (fun _ _ h => by first | exact h | exact ⟨_, h⟩ | exact ⟨_, h.2⟩ | exact h.2 | exact h.sub (by repeat (first | exact List.Sublist.refl _ | apply List.Sublist.cons)) (fun _ h => by simp [*]) | exact h.2.sub (by repeat (first | exact List.Sublist.refl _ | apply List.Sublist.cons)) (fun _ h => by simp [*])) ?_
   intro _
   refine WM.r rfl rfl rfl (rdW_xor rfl rfl rfl) ?_
   refine WM.r rfl rfl rfl (Rm rfl rfl) ?_
   refine WM.r rfl rfl rfl (rdW_shr rfl rfl rfl (by decide)) ?_
   refine WM.r rfl rfl rfl (rdW_xor rfl rfl rfl) ?_
   refine WM.r rfl rfl rfl (rdW_add rfl rfl rfl) ?_
   refine WM.r rfl rfl rfl (Rm rfl rfl) ?_
   first
    | (refine WM.r rfl rfl rfl (rd_sub64nl rfl rfl rfl ?_) ?_; focus (omega))
    | (refine WM.r rfl rfl rfl (rd_sub64 rfl rfl rfl ?_) ?_; focus (omega))
   refine WM.r rfl rfl rfl (Jb rfl rfl rfl u171 (by kernel_rfl : _ = some 1) ?_) ?_
   ·omega
   refine WM.r rfl rfl rfl (ld rfl rfl (by first | exact .here | exact .t1 | exact .t2 | exact .t3 | exact .t4 | exact .t5 | exact .t6 | exact .t7) u56 rfl (by exact map_cell _ u32 _ _ _ (get_getD (sched j (words bs)) _ 0 (by omega)))) ?_
   refine WM.r rfl rfl rfl (rdW_add rfl rfl rfl) ?_
   refine WM.r rfl rfl rfl (Rm rfl rfl) ?_
   refine WM.g rfl rfl rfl (Oc rfl rfl (Kv fun w _ => turn_lit _ _ (by decide) (by decide) w)) (fun _ _ h => by first | exact h | exact ⟨_, h⟩ | exact ⟨_, h.2⟩ | exact h.2 | exact h.sub (by repeat (first | exact List.Sublist.refl _ | apply List.Sublist.cons)) (fun _ h => by simp [*]) | exact h.2.sub (by repeat (first | exact List.Sublist.refl _ | apply List.Sublist.cons)) (fun _ h => by simp [*])) ?_
   intro _
   refine WM.r rfl rfl rfl (Rm rfl rfl) ?_
   refine WM.g rfl rfl rfl (Oc rfl rfl (Kv fun w _ => turn_lit _ _ (by decide) (by decide) w)) (fun _ _ h => by first | exact h | exact ⟨_, h⟩ | exact ⟨_, h.2⟩ | exact h.2 | exact h.sub (by repeat (first | exact List.Sublist.refl _ | apply List.Sublist.cons)) (fun _ h => by simp [*]) | exact h.2.sub (by repeat (first | exact List.Sublist.refl _ | apply List.Sublist.cons)) (fun _ h => by simp [*])) ?_
   intro _
   refine WM.r rfl rfl rfl (rdW_xor rfl rfl rfl) ?_
   refine WM.r rfl rfl rfl (Rm rfl rfl) ?_
   refine WM.r rfl rfl rfl (rdW_shr rfl rfl rfl (by decide)) ?_
   refine WM.r rfl rfl rfl (rdW_xor rfl rfl rfl) ?_
   refine WM.r rfl rfl rfl (rdW_add rfl rfl rfl) ?_
   refine WM.set 83 rfl (v' := u32 (nextW (sched j (words bs)))) (by unfold nextW; rw [hsl]; rfl) ?_
   refine WM.r rfl rfl rfl (Jb rfl rfl rfl u171 (by kernel_rfl : _ = some 1) ?_) ?_
   ·omega
   refine WM.h0 rfl rfl (st rfl rfl rfl (by first | exact .here | exact .t1 | exact .t2 | exact .t3 | exact .t4 | exact .t5 | exact .t6 | exact .t7) (by kernel_rfl) rfl ?_ rfl) ?_
   ·simp [hsl]; omega
   intro _
   refine WM.nil ?_
   refine Xd (Xa (Cg (Km rfl ?_)))
   first
    | (refine Kq rfl (Rz rfl rfl rfl ?_) ?_; focus (omega))
    | (refine Kq rfl (rd_add64 rfl rfl rfl ?_) ?_; focus (omega))
   refine Ka rfl (Nn ?_)
   exact WX.loop (j + 1) (by omega) (by repeat (first | exact S0 _ | refine Sc rfl ?_)) (fun w' h => ⟨by omega, by rw [sched_set j (words bs) hwl (by omega)] at h; exact h⟩)
  ·(try simp only [decide_eq_true_eq, decide_eq_false_iff_not, Bool.not_eq_true', Bool.not_eq_false', Bool.not_not, Int.not_lt, Int.not_le] at hc45)
   refine Cx (Xc (Xc (Xe ?_)))
   obtain rfl : j = 48 := by omega
   refine WX.st (S' := St (fun _ => True) w [⟨some b3, (sched 48 (words bs)).map u32, 171⟩, ⟨some b2, List.replicate 64 (u32 0), 171⟩] []) (fun w' h => by rw [Nat.sub_self, List.replicate_zero, List.append_nil] at h; exact h) ?_
   refine Xa (Cq (Cg ?_))
   refine Kq rfl (lda rfl rfl (by first | exact .here | exact .t1 | exact .t2 | exact .t3 | exact .t4 | exact .t5 | exact .t6 | exact .t7) u171 rfl ?_) ?_
   ·rw [List.length_map, sched_len, hwl]; kernel_rfl
   refine Ng rfl rfl (sta rfl rfl rfl (by first | exact .here | exact .t1 | exact .t2 | exact .t3 | exact .t4 | exact .t5 | exact .t6 | exact .t7) ?_ ?_ ?_) ?_
   ·rw [List.length_map, sched_len, hwl]; kernel_rfl
   ·exact u32_one _
   ·rw [List.length_map, sched_len, hwl, List.length_replicate]
   intro _
   refine Nn (Xa (Ce ?_))
   exact WX.ret1c rfl rfl (by first | exact .here | exact .t1 | exact .t2 | exact .t3) u171 rfl (by rw [List.length_map, sched_len, hwl]; kernel_rfl) fun w' hS => ⟨rfl, hS.below⟩
theorem St.sl_of {ok : Nat → Prop} {w0 w : World} {own : List Ent} {fs : List Fact} {b off : Nat} {cs xs : List Value} {T : TypeId} (hk : InE own ⟨some b, cs, T⟩) (hx : (cs.drop off).take xs.length = xs) (h : St ok w0 own fs w) : (Fact.sl (some ⟨b, off, none⟩) xs).holds (fun _ => True) w := by
 obtain ⟨kk, hk⟩ := hk.get
 exact h.own_sl hk (fun i hi => by rw [← hx, List.getElem?_take, if_pos hi, List.getElem?_drop])
theorem after_ok (x0 : List W) (hx0 : x0.length = 8) (bs : List UInt8) (hbs : bs.length = 64) (b off cap : Nat) (hcap : 64 ≤ cap) (w : World) (hf : (Fact.sl (some ⟨b, off, none⟩) (bs.map B)).holds (fun _ => True) w) :
  Cw 108 #[.agg (x0.map u32).toArray, .slice (some ⟨b, off, none⟩) 64 cap] w (.agg ((compress x0 bs).map u32).toArray) := by
 have hwl := words_len 16 bs hbs
 have hsl := sched_len 48 (words bs)
 rw [hwl] at hsl
 obtain ⟨ws, hws⟩ : ∃ ws, sched 48 (words bs) = ws := ⟨_, rfl⟩
 have hsch := schedule_ok bs hbs b off cap hcap
 rw [hws] at hsl hsch
 show Calls _ _ _ _ fun e w' => e = .returned (.agg ((addW (rounds KK (sched 48 (words bs)) 64 x0) x0).map u32).toArray) ∧ _
 rw [hws]
 refine enter (S := St (fun _ => True) w [] [Fact.sl (some ⟨b, off, none⟩) (bs.map B)]) (L := [(0, .agg (x0.map u32).toArray), (1, .slice (some ⟨b, off, none⟩) 64 cap)]) Tryz.func108 rfl Tryz.ntmps108 rfl (Ac rfl (Ac rfl (An _))) (St.start (fun _ _ => trivial) (by simpa using hf)) ?_
 refine Cq (Cg ?_)
 refine Kh rfl (Ob rfl rfl (cs := x0.map u32) rfl) ?_
 intro b2
 refine Kh rfl (Oz [.int .u32 0, .int .u32 0, .int .u32 0, .int .u32 0, .int .u32 0, .int .u32 0, .int .u32 0, .int .u32 0] rfl) ?_
 intro b4
 refine Nn (Xa (Cq (Cg ?_)))
 refine Ku rfl (Oc rfl rfl (Kv fun w _ => constants_ok w)) ?_
 refine Km rfl ?_
 refine Ku rfl (Oc rfl rfl (Kv fun w hS => hsch w (hS.holds_any (k := 0) rfl))) ?_
 refine Kh rfl (Oa rfl (v := (.agg (List.replicate 64 (.int .u32 0)).toArray)) (cs := (List.replicate 64 (.int .u32 0))) (by kernel_rfl) rfl) ?_
 intro b5
 refine Kh rfl (Oa rfl (v := (.agg (List.replicate 64 (.int .u32 0)).toArray)) (cs := (List.replicate 64 (.int .u32 0))) (by kernel_rfl) rfl) ?_
 intro b6
 refine Ng rfl rfl (sta rfl rfl rfl (by first | exact .here | exact .t1 | exact .t2 | exact .t3 | exact .t4 | exact .t5 | exact .t6 | exact .t7) ?_ ?_ ?_) ?_
 ·kernel_rfl
 ·exact u32_one _
 ·first | rfl | simp
 intro _
 refine Ng rfl rfl (sta rfl rfl rfl (by first | exact .here | exact .t1 | exact .t2 | exact .t3 | exact .t4 | exact .t5 | exact .t6 | exact .t7) ?_ ?_ ?_) ?_
 ·rw [List.length_map, hsl]; kernel_rfl
 ·exact u32_one _
 ·simp [hsl]
 intro _
 refine Nn (Xa (Cq (Cg ?_)))
 refine Kq rfl (lda rfl rfl (by first | exact .here | exact .t1 | exact .t2 | exact .t3 | exact .t4 | exact .t5 | exact .t6 | exact .t7) u139 rfl ?_) ?_
 ·rw [List.length_map, hx0]; kernel_rfl
 refine Kh rfl (Oz [.int .u32 0, .int .u32 0, .int .u32 0, .int .u32 0, .int .u32 0, .int .u32 0, .int .u32 0, .int .u32 0] rfl) ?_
 intro b7
 refine Ng rfl rfl (sta rfl rfl rfl (by first | exact .here | exact .t1 | exact .t2 | exact .t3 | exact .t4 | exact .t5 | exact .t6 | exact .t7) ?_ ?_ ?_) ?_
 ·rw [List.length_map, hx0]; kernel_rfl
 ·exact u32_one _
 ·simp [hx0]
 intro _
 refine Nn (Xa (Cq (Cq (Cg (Km rfl (Nn (Xa (Cb ?_))))))))
 refine WC.loop (σ := Nat) (fun k => [(2, .pointer (some ⟨b2, 0, none⟩)), (4, .pointer (some ⟨b4, 0, none⟩)), (5, .pointer (some ⟨b5, 0, none⟩)), (6, .pointer (some ⟨b6, 0, none⟩)), (7, .pointer (some ⟨b7, 0, none⟩)), (22, .int .i64 (k : Int))]) (fun k w' => k ≤ 64 ∧ St (fun _ => True) w [⟨some b7, (rounds KK ws k x0).map u32, 139⟩, ⟨some b6, ws.map u32, 171⟩, ⟨some b5, KK.map u32, 171⟩, ⟨some b4, List.replicate 8 (u32 0), 139⟩, ⟨some b2, x0.map u32, 139⟩] [] w') (fun k => 64 - k) 0 (by repeat (first | exact S0 _ | refine Sc rfl ?_)) (fun w' h => ⟨by omega, h.sub (List.Sublist.refl _) (by simp)⟩) ?_
 intro k; refine WC.pu ?_; intro hk
 refine Cq (Cg (Kq rfl (rd_lss rfl rfl rfl) (Nn (Xa (Cq ?_)))))
 refine Cd rfl (fun hc23 => ?_) (fun hc23 => ?_)
 ·(try simp only [decide_eq_true_eq, decide_eq_false_iff_not, Bool.not_eq_true', Bool.not_eq_false', Bool.not_not, Int.not_lt, Int.not_le] at hc23)
  obtain ⟨xa, xb, xc, xd, xe, xf, xg, xh, hX⟩ := eight (rounds KK ws k x0) (rounds_len _ _ _ _ hx0)
  rw [hX]
  have hkk : KK.length = 64 := rfl
  refine Ck (Xa (Cq (Cb (Cq (Cg (Km rfl (Ka rfl (Nn (Xa (Cq ?_))))))))))
  refine WC.mix [0, 0, 0, 0, 0, 0, 0, 0, 0, 0, 0, 0, 0, 0, 0, 0, 0, 0] (by kernel_rfl) (by kernel_rfl) (fun w h => h.draw) ?_
  refine WM.r rfl rfl rfl (Jb rfl rfl rfl u139 (by kernel_rfl : _ = some 1) ?_) ?_
  ·omega
  refine WM.r rfl rfl rfl (ld rfl rfl (by first | exact .here | exact .t1 | exact .t2 | exact .t3 | exact .t4 | exact .t5 | exact .t6 | exact .t7) u56 rfl (by rfl)) ?_
  refine WM.r rfl rfl rfl (Jb rfl rfl rfl u139 (by kernel_rfl : _ = some 1) ?_) ?_
  ·omega
  refine WM.r rfl rfl rfl (ld rfl rfl (by first | exact .here | exact .t1 | exact .t2 | exact .t3 | exact .t4 | exact .t5 | exact .t6 | exact .t7) u56 rfl (by rfl)) ?_
  refine WM.r rfl rfl rfl (Jb rfl rfl rfl u139 (by kernel_rfl : _ = some 1) ?_) ?_
  ·omega
  refine WM.r rfl rfl rfl (ld rfl rfl (by first | exact .here | exact .t1 | exact .t2 | exact .t3 | exact .t4 | exact .t5 | exact .t6 | exact .t7) u56 rfl (by rfl)) ?_
  refine WM.r rfl rfl rfl (Jb rfl rfl rfl u139 (by kernel_rfl : _ = some 1) ?_) ?_
  ·omega
  refine WM.r rfl rfl rfl (ld rfl rfl (by first | exact .here | exact .t1 | exact .t2 | exact .t3 | exact .t4 | exact .t5 | exact .t6 | exact .t7) u56 rfl (by rfl)) ?_
  refine WM.r rfl rfl rfl (Jb rfl rfl rfl u139 (by kernel_rfl : _ = some 1) ?_) ?_
  ·omega
  refine WM.r rfl rfl rfl (ld rfl rfl (by first | exact .here | exact .t1 | exact .t2 | exact .t3 | exact .t4 | exact .t5 | exact .t6 | exact .t7) u56 rfl (by rfl)) ?_
  refine WM.r rfl rfl rfl (Jb rfl rfl rfl u139 (by kernel_rfl : _ = some 1) ?_) ?_
  ·omega
  refine WM.r rfl rfl rfl (ld rfl rfl (by first | exact .here | exact .t1 | exact .t2 | exact .t3 | exact .t4 | exact .t5 | exact .t6 | exact .t7) u56 rfl (by rfl)) ?_
  refine WM.r rfl rfl rfl (Ra rfl rfl) ?_
  refine WM.r rfl rfl rfl (Ra rfl rfl) ?_
  refine WM.r rfl rfl rfl (Ra rfl rfl) ?_
  refine WM.r rfl rfl rfl (Ra rfl rfl) ?_
  refine WM.r rfl rfl rfl (Ra rfl rfl) ?_
  refine WM.r rfl rfl rfl (Ra rfl rfl) ?_
  refine WM.nil ?_
  refine Xa (Cq ?_)
  refine WC.mix [0, 0, 0, 1, 0, 1, 0, 0, 1, 0, 0, 0, 0, 0, 0, 0, 0, 0, 0, 0, 0, 0, 0, 0, 0, 0, 0, 0, 0] (by kernel_rfl) (by kernel_rfl) (fun w h => h.draw) ?_
  refine WM.r rfl rfl rfl (Jb rfl rfl rfl u139 (by kernel_rfl : _ = some 1) ?_) ?_
  ·omega
  refine WM.r rfl rfl rfl (ld rfl rfl (by first | exact .here | exact .t1 | exact .t2 | exact .t3 | exact .t4 | exact .t5 | exact .t6 | exact .t7) u56 rfl (by rfl)) ?_
  refine WM.r rfl rfl rfl (Rm rfl rfl) ?_
  refine WM.g rfl rfl rfl (Oc rfl rfl (Kv fun w _ => turn_lit _ _ (by decide) (by decide) w)) (fun _ _ h => by first | exact h | exact ⟨_, h⟩ | exact ⟨_, h.2⟩ | exact h.2 | exact h.sub (by repeat (first | exact List.Sublist.refl _ | apply List.Sublist.cons)) (fun _ h => by simp [*]) | exact h.2.sub (by repeat (first | exact List.Sublist.refl _ | apply List.Sublist.cons)) (fun _ h => by simp [*])) ?_
  intro _
  refine WM.r rfl rfl rfl (Rm rfl rfl) ?_
  refine WM.g rfl rfl rfl (Oc rfl rfl (Kv fun w _ => turn_lit _ _ (by decide) (by decide) w)) (fun _ _ h => by first | exact h | exact ⟨_, h⟩ | exact ⟨_, h.2⟩ | exact h.2 | exact h.sub (by repeat (first | exact List.Sublist.refl _ | apply List.Sublist.cons)) (fun _ h => by simp [*]) | exact h.2.sub (by repeat (first | exact List.Sublist.refl _ | apply List.Sublist.cons)) (fun _ h => by simp [*])) ?_
  intro _
  refine WM.r rfl rfl rfl (rdW_xor rfl rfl rfl) ?_
  refine WM.r rfl rfl rfl (Rm rfl rfl) ?_
  refine WM.g rfl rfl rfl (Oc rfl rfl (Kv fun w _ => turn_lit _ _ (by decide) (by decide) w)) (fun _ _ h => by first | exact h | exact ⟨_, h⟩ | exact ⟨_, h.2⟩ | exact h.2 | exact h.sub (by repeat (first | exact List.Sublist.refl _ | apply List.Sublist.cons)) (fun _ h => by simp [*]) | exact h.2.sub (by repeat (first | exact List.Sublist.refl _ | apply List.Sublist.cons)) (fun _ h => by simp [*])) ?_
  intro _
  refine WM.r rfl rfl rfl (rdW_xor rfl rfl rfl) ?_
  refine WM.r rfl rfl rfl (rdW_add rfl rfl rfl) ?_
  refine WM.r rfl rfl rfl (Rm rfl rfl) ?_
  refine WM.r rfl rfl rfl (Rm rfl rfl) ?_
  refine WM.r rfl rfl rfl (rdW_and rfl rfl rfl) ?_
  refine WM.r rfl rfl rfl (Rm rfl rfl) ?_
  refine WM.r rfl rfl rfl (rdW_com rfl rfl) ?_
  refine WM.r rfl rfl rfl (Rm rfl rfl) ?_
  refine WM.r rfl rfl rfl (rdW_and rfl rfl rfl) ?_
  refine WM.r rfl rfl rfl (rdW_xor rfl rfl rfl) ?_
  refine WM.r rfl rfl rfl (rdW_add rfl rfl rfl) ?_
  refine WM.r rfl rfl rfl (Rm rfl rfl) ?_
  refine WM.r rfl rfl rfl (Jb rfl rfl rfl u171 (by kernel_rfl : _ = some 1) ?_) ?_
  ·omega
  refine WM.r rfl rfl rfl (ld rfl rfl (by first | exact .here | exact .t1 | exact .t2 | exact .t3 | exact .t4 | exact .t5 | exact .t6 | exact .t7) u56 rfl (by rw [List.getElem?_map, get_getD KK k 0 (by omega)]; rfl)) ?_
  refine WM.r rfl rfl rfl (rdW_add rfl rfl rfl) ?_
  refine WM.r rfl rfl rfl (Rm rfl rfl) ?_
  refine WM.r rfl rfl rfl (Jb rfl rfl rfl u171 (by kernel_rfl : _ = some 1) ?_) ?_
  ·omega
  refine WM.r rfl rfl rfl (ld rfl rfl (by first | exact .here | exact .t1 | exact .t2 | exact .t3 | exact .t4 | exact .t5 | exact .t6 | exact .t7) u56 rfl (by rw [List.getElem?_map, get_getD ws k 0 (by omega)]; rfl)) ?_
  refine WM.r rfl rfl rfl (rdW_add rfl rfl rfl) ?_
  refine WM.r rfl rfl rfl (Ra rfl rfl) ?_
  refine WM.nil ?_
  refine Xa (Cq (Cg (Km rfl ?_)))
  refine Ku rfl (Oc rfl rfl (Kv fun w _ => turn_lit _ _ (by decide) (by decide) w)) ?_
  refine Km rfl ?_
  refine Ku rfl (Oc rfl rfl (Kv fun w _ => turn_lit _ _ (by decide) (by decide) w)) ?_
  refine Kq rfl (rdW_xor rfl rfl rfl) (Km rfl ?_)
  refine Ku rfl (Oc rfl rfl (Kv fun w _ => turn_lit _ _ (by decide) (by decide) w)) ?_
  refine Kq rfl (rdW_xor rfl rfl rfl) (Km rfl (Km rfl (Kq rfl (rdW_and rfl rfl rfl) (Km rfl (Km rfl (Kq rfl (rdW_and rfl rfl rfl) (Kq rfl (rdW_xor rfl rfl rfl) (Km rfl (Km rfl (Kq rfl (rdW_and rfl rfl rfl) (Kq rfl (rdW_xor rfl rfl rfl) (Kq rfl (rdW_add rfl rfl rfl) (Ka rfl (Nn (Xa (Cq ?_))))))))))))))))
  refine WC.mix [0, 0, 2] (by kernel_rfl) (by kernel_rfl) (fun w h => h.draw) ?_
  refine WM.r rfl rfl rfl (rd_slaf rfl rfl rfl u139 (by kernel_rfl : _ = some 1) ?_ (by (try simp only [Int.toNat_natCast, Nat.mul_one, Nat.zero_add, Nat.add_zero, Nat.zero_mul, Int.reduceToNat, Nat.reduceAdd, Nat.reduceMul, Nat.reduceSub, Nat.sub_zero]); rfl) (by (try simp only [Int.toNat_natCast, Nat.mul_one, Nat.zero_add, Nat.add_zero, Nat.zero_mul, Int.reduceToNat, Nat.reduceAdd, Nat.reduceMul, Nat.reduceSub, Nat.sub_zero]); rfl) (by (try simp only [Int.toNat_natCast, Nat.mul_one, Nat.zero_add, Nat.add_zero, Nat.zero_mul, Int.reduceToNat, Nat.reduceAdd, Nat.reduceMul, Nat.reduceSub, Nat.sub_zero]); rfl)) ?_
  ·omega
  refine WM.r rfl rfl rfl (rd_slat rfl rfl rfl u139 (by kernel_rfl : _ = some 1) ?_ (by (try simp only [Int.toNat_natCast, Nat.mul_one, Nat.zero_add, Nat.add_zero, Nat.zero_mul, Int.reduceToNat, Nat.reduceAdd, Nat.reduceMul, Nat.reduceSub, Nat.sub_zero]); rfl)) ?_
  ·omega
  refine WM.h rfl rfl rfl (cpyl rfl rfl rfl (by first | exact .here | exact .t1 | exact .t2 | exact .t3 | exact .t4 | exact .t5 | exact .t6 | exact .t7) u122 (by kernel_rfl) (by rfl) (by rfl) (fun w' h => h.sl_of (xs := [u32 xa, u32 xb, u32 xc, u32 xd, u32 xe, u32 xf, u32 xg]) (by first | exact .here | exact .t1 | exact .t2 | exact .t3) rfl) (by simp [u32, Value.oneCell']) (by simp) (ys := [u32 xa, u32 xa, u32 xb, u32 xc, u32 xd, u32 xe, u32 xf, u32 xg]) rfl) ?_
  intro _
  refine WM.nil ?_
  refine Xa (Cq (Cg ?_))
  refine Kq rfl (Jb rfl rfl rfl u139 (by kernel_rfl : _ = some 1) ?_) ?_
  ·omega
  refine Kq rfl (ld rfl rfl (by first | exact .here | exact .t1 | exact .t2 | exact .t3 | exact .t4 | exact .t5 | exact .t6 | exact .t7) u56 rfl (by rfl)) ?_
  refine Km rfl (Kq rfl (rdW_add rfl rfl rfl) ?_)
  refine Kq rfl (Jb rfl rfl rfl u139 (by kernel_rfl : _ = some 1) ?_) ?_
  ·omega
  refine Ng rfl rfl (st rfl rfl rfl (by first | exact .here | exact .t1 | exact .t2 | exact .t3 | exact .t4 | exact .t5 | exact .t6 | exact .t7) (by kernel_rfl) rfl ?_ rfl) ?_
  ·first | decide | (simp; done) | (simp; omega)
  intro _
  refine Nn (Xa (Cg (Km rfl (Km rfl (Kq rfl (rdW_add rfl rfl rfl) ?_)))))
  refine Kq rfl (Jb rfl rfl rfl u139 (by kernel_rfl : _ = some 1) ?_) ?_
  ·omega
  refine Ng rfl rfl (st rfl rfl rfl (by first | exact .here | exact .t1 | exact .t2 | exact .t3 | exact .t4 | exact .t5 | exact .t6 | exact .t7) (by kernel_rfl) rfl ?_ rfl) ?_
  ·first | decide | (simp; done) | (simp; omega)
  intro _
  refine Nn (Xd (Xa (Cg ?_)))
  first
   | (refine Kq rfl (Rz rfl rfl rfl ?_) ?_; focus (omega))
   | (refine Kq rfl (rd_add64 rfl rfl rfl ?_) ?_; focus (omega))
  refine Km rfl (Nn ?_)
  exact WX.loop (k + 1) (by omega) (by repeat (first | exact S0 _ | refine Sc rfl ?_)) (fun w' h => ⟨by omega, by rw [show rounds KK ws (k + 1) x0 = rnd (KK.getD k 0) (ws.getD k 0) (rounds KK ws k x0) from rfl, hX]; exact h⟩)
 ·(try simp only [decide_eq_true_eq, decide_eq_false_iff_not, Bool.not_eq_true', Bool.not_eq_false', Bool.not_not, Int.not_lt, Int.not_le] at hc23)
  refine Cx (Xc (Xc (Xe ?_)))
  obtain rfl : k = 64 := by omega
  have hrl := rounds_len KK ws 64 x0 hx0
  obtain ⟨X, hX⟩ : ∃ X, rounds KK ws 64 x0 = X := ⟨_, rfl⟩
  rw [hX] at hrl ⊢
  have hadl := addW_len X x0 (by omega)
  refine Xa (Cq (Cq (Cg (Km rfl (Nn (Xa (Cb ?_)))))))
  refine WC.loop (σ := Nat) (fun k => [(2, .pointer (some ⟨b2, 0, none⟩)), (4, .pointer (some ⟨b4, 0, none⟩)), (7, .pointer (some ⟨b7, 0, none⟩)), (98, .int .i64 (k : Int))]) (fun k w' => k ≤ 8 ∧ St (fun _ => True) w [⟨some b7, ((addW X x0).take k ++ X.drop k).map u32, 139⟩, ⟨some b4, List.replicate 8 (u32 0), 139⟩, ⟨some b2, x0.map u32, 139⟩] [] w') (fun k => 8 - k) 0 (by repeat (first | exact S0 _ | refine Sc rfl ?_)) (fun w' h => ⟨by omega, h.sub (by repeat first | exact List.Sublist.refl _ | apply List.Sublist.cons_cons | apply List.Sublist.cons) (by simp)⟩) ?_
  intro q; refine WC.pu ?_; intro hq
  refine Cq (Cg (Kq rfl (rd_lss rfl rfl rfl) (Nn (Xa (Cq ?_)))))
  refine Cd rfl (fun hc99 => ?_) (fun hc99 => ?_)
  ·(try simp only [decide_eq_true_eq, decide_eq_false_iff_not, Bool.not_eq_true', Bool.not_eq_false', Bool.not_not, Int.not_lt, Int.not_le] at hc99)
   have hXq := get_getD X q 0 (by omega)
   have hxq := get_getD x0 q 0 (by omega)
   refine Ck (Xa (Cq (Cb (Cq (Cg (Km rfl (Ka rfl (Nn (Xa ?_)))))))))
   refine WC.mix [0, 0, 0, 0, 0, 0, 0, 0, 2] (by kernel_rfl) (by kernel_rfl) (fun w h => h.draw) ?_
   refine WM.r rfl rfl rfl (Rm rfl rfl) ?_
   refine WM.r rfl rfl rfl (Jb rfl rfl rfl u139 (by kernel_rfl : _ = some 1) ?_) ?_
   ·omega
   refine WM.r rfl rfl rfl (ld rfl rfl (by first | exact .here | exact .t1 | exact .t2 | exact .t3 | exact .t4 | exact .t5 | exact .t6 | exact .t7) u56 rfl (by rw [List.getElem?_map, List.getElem?_append_right (by simp; omega), List.getElem?_drop, List.length_take, hadl, show q + (q - min q X.length) = q by omega, hXq]; rfl)) ?_
   refine WM.r rfl rfl rfl (Rm rfl rfl) ?_
   refine WM.r rfl rfl rfl (Jb rfl rfl rfl u139 (by kernel_rfl : _ = some 1) ?_) ?_
   ·omega
   refine WM.r rfl rfl rfl (ld rfl rfl (by first | exact .here | exact .t1 | exact .t2 | exact .t3 | exact .t4 | exact .t5 | exact .t6 | exact .t7) u56 rfl (by rw [List.getElem?_map, hxq]; rfl)) ?_
   refine WM.r rfl rfl rfl (rdW_add rfl rfl rfl) ?_
   refine WM.r rfl rfl rfl (Jb rfl rfl rfl u139 (by kernel_rfl : _ = some 1) ?_) ?_
   ·omega
   refine WM.h0 rfl rfl (st rfl rfl rfl (by first | exact .here | exact .t1 | exact .t2 | exact .t3 | exact .t4 | exact .t5 | exact .t6 | exact .t7) (by kernel_rfl) rfl ?_ rfl) ?_
   ·simp; omega
   intro _
   refine WM.nil ?_
   refine Xd (Xa (Cg ?_))
   first
    | (refine Kq rfl (Rz rfl rfl rfl ?_) ?_; focus (omega))
    | (refine Kq rfl (rd_add64 rfl rfl rfl ?_) ?_; focus (omega))
   refine Km rfl (Nn ?_)
   exact WX.loop (q + 1) (by omega) (by repeat (first | exact S0 _ | refine Sc rfl ?_)) (fun w' h => ⟨by omega, by rw [addW_set X x0 q _ _ (by omega) hXq hxq] at h; exact h⟩)
  ·(try simp only [decide_eq_true_eq, decide_eq_false_iff_not, Bool.not_eq_true', Bool.not_eq_false', Bool.not_not, Int.not_lt, Int.not_le] at hc99)
   refine Cx (Xc (Xc (Xe ?_)))
   obtain rfl : q = 8 := by omega
   have hfin : (addW X x0).take 8 ++ X.drop 8 = addW X x0 := by rw [List.take_of_length_le (by omega), List.drop_eq_nil_of_le (by omega), List.append_nil]
   rw [hfin]
   have hal : (addW X x0).length = 8 := by omega
   refine Xa (Cq (Cg ?_))
   refine Kq rfl (lda rfl rfl (by first | exact .here | exact .t1 | exact .t2 | exact .t3 | exact .t4 | exact .t5 | exact .t6 | exact .t7) u139 rfl ?_) ?_
   ·rw [List.length_map, hal]; kernel_rfl
   refine Ng rfl rfl (sta rfl rfl rfl (by first | exact .here | exact .t1 | exact .t2 | exact .t3 | exact .t4 | exact .t5 | exact .t6 | exact .t7) ?_ ?_ ?_) ?_
   ·rw [List.length_map, hal]; kernel_rfl
   ·exact u32_one _
   ·rw [List.length_map, hal]; rfl
   intro _
   refine Nn (Xa (Ce ?_))
   exact WX.ret1c rfl rfl (by first | exact .here | exact .t1 | exact .t2 | exact .t3) u139 rfl (by rw [List.length_map, hal]; kernel_rfl) fun w' hS => ⟨rfl, hS.below⟩
theorem St.snoc {ok : Nat → Prop} {w0 w : World} {r : List Ent} {fs : List Fact} {b b2 : Nat} {e : TypeId} {m : List UInt8} {c : UInt8} {v : Value} {sp : List Value} (h : St ok w0 (⟨some b2, [v], e⟩ :: ⟨some b, (m.map B ++ [v]) ++ sp, e⟩ :: r) fs w) (hv : v = B c) : St ok w0 (⟨some b, (m ++ [c]).map B ++ sp, e⟩ :: r) fs w := by
 subst hv
 rw [List.map_append]
 exact h.sub (List.sublist_cons_self _ _) (fun _ h => h)
theorem byte_shr (M q : Nat) (hM : M < 18446744073709551616) (hq : q ≤ 7) : IntKind.u8.wrap ((M : Int).fdiv (2 ^ (min (56 - 8 * (q : Int)).toNat IntKind.u64.bits))) = ((byteAt M (7 - q)).toNat : Int) := by
 have e1 : min (56 - 8 * (q : Int)).toNat IntKind.u64.bits = 8 * (7 - q) := by simp [IntKind.bits]; omega
 rw [e1]
 have e2 : ((2 : Int) ^ (8 * (7 - q))) = ((2 ^ (8 * (7 - q)) : Nat) : Int) := by simp
 rw [e2, Int.fdiv_eq_ediv_of_nonneg _ (Int.natCast_nonneg _), ← Int.natCast_ediv, IntKind.wrap_u8, byteAt]
 rw [UInt8.toNat_ofNat']
 generalize M / 2 ^ (8 * (7 - q)) = z
 omega
theorem byte_W (x : W) (i : Nat) : IntKind.u8.wrap ((x >>> (8 * i)).toNat : Int) = ((byteAt x.toNat i).toNat : Int) := by
 rw [BitVec.toNat_ushiftRight, Nat.shiftRight_eq_div_pow, IntKind.wrap_u8, byteAt, UInt8.toNat_ofNat']
 generalize x.toNat / 2 ^ (8 * i) = z
 omega
theorem byte_W0 (x : W) : IntKind.u8.wrap (x.toNat : Int) = ((byteAt x.toNat 0).toNat : Int) := by
 have := byte_W x 0; simpa using this
theorem len8_take (M q : Nat) (hq : q ≤ 7) : (len8 M).take (q + 1) = (len8 M).take q ++ [byteAt M (7 - q)] := by
 have : q = 0 ∨ q = 1 ∨ q = 2 ∨ q = 3 ∨ q = 4 ∨ q = 5 ∨ q = 6 ∨ q = 7 := by omega
 rcases this with rfl | rfl | rfl | rfl | rfl | rfl | rfl | rfl <;> rfl
theorem pad_len (l : List UInt8) : ∃ n, (pad l).length = 64 * n := by
 refine ⟨(l.length + 1 + zeros l.length + 8) / 64, ?_⟩
 have : (pad l).length = l.length + 1 + zeros l.length + 8 := by simp [pad, len8]; omega
 rw [this]; unfold zeros; omega
theorem chunks_succ (n : Nat) (x : List W) (m : List UInt8) : chunks (n + 1) x m = chunks n (compress x (m.take 64)) (m.drop 64) := rfl
theorem compress_len (x : List W) (b : List UInt8) (h : x.length = 8) : (compress x b).length = 8 := by
 unfold compress
 have := rounds_len KK (sched 48 (words b)) 64 x h
 rw [addW_len _ _ (by omega)]; exact this
theorem outW_take (X : List W) (k : Nat) (h : k < X.length) : outW (X.take (k + 1)) = outW (X.take k) ++ bytes4 (X.getD k 0) := by
 have hx := get_getD X k 0 h
 rw [List.take_add_one, hx]
 simp [outW]
theorem outW_len (X : List W) : (outW X).length = 4 * X.length := by
 induction X with
 | nil => rfl
 | cons x X ih => simp only [outW, List.flatMap_cons, List.length_append, List.length_cons] at *; rw [ih]; simp [bytes4]; omega
structure G4 where
 k : Nat
 ob : Option Nat
 cap : Nat
 spare : List Value
structure G3 where
 q : Nat
 ad : Option Addr
 x : List W
theorem sum_ok (l : List UInt8) (hl : l.length ≤ 1000000) (w : World) :
  Cw 73 #[.string (S l)] w (.string (S (sha l))) := by
 have hz : zeros l.length = (119 - l.length % 64) % 64 := rfl
 have hpl : (pad l).length = l.length + 1 + zeros l.length + 8 := by simp [pad, len8]; omega
 refine enter (S := St (fun _ => True) w [] []) (L := [(0, .string (S l))]) Tryz.func73 rfl Tryz.ntmps73 rfl (Ac rfl (An _)) (St.start (fun _ _ => trivial) (by simp)) ?_
 refine Cq (Cg (Ka rfl (Nn (Xa (Cq (Cg (Km rfl (Kq rfl (rd_slen rfl rfl u9) (Km rfl (Kq rfl (rd_slen rfl rfl u9) ?_))))))))))
 first
  | (refine Kq rfl (Rz rfl rfl rfl ?_) ?_; focus (omega))
  | (refine Kq rfl (rd_add64 rfl rfl rfl ?_) ?_; focus (omega))
 refine Kh rfl (og_mk rfl rfl rfl u83 (by kernel_rfl : _ = some (some (.int .u8 0), 1, 1)) rfl ?_ (by (try simp only [Int.toNat_natCast, Nat.mul_one, Nat.zero_add, Nat.add_zero, Nat.zero_mul, Int.reduceToNat, Nat.reduceAdd, Nat.reduceMul, Nat.reduceSub, Nat.sub_zero]); rfl) (by (try simp only [Int.toNat_natCast, Nat.mul_one, Nat.zero_add, Nat.add_zero, Nat.zero_mul, Int.reduceToNat, Nat.reduceAdd, Nat.reduceMul, Nat.reduceSub, Nat.sub_zero]); rfl)) ?_
 ·omega
 intro b15
 refine Ka rfl (Nn (Xa (Cq (Cg (Km rfl (Km rfl ?_))))))
 refine Kh rfl (cpys rfl rfl rfl (by first | exact .here | exact .t1 | exact .t2 | exact .t3 | exact .t4 | exact .t5 | exact .t6 | exact .t7) u83 (by kernel_rfl) (m := l.length) (by simp) (by simp) (ys := l.map B ++ List.replicate 72 (B 0)) (by simp [B])) ?_
 intro _
 refine Nn (Xa (Cq (Cg (Km rfl ?_))))
 refine Kh rfl (og_bs1 rfl rfl u83 (by kernel_rfl : _ = some (some (.int .u8 0), 1, 1)) rfl (by simp only [List.map]; rfl) rfl rfl ?_ (by decide)) ?_
 ·simp [Value.cells]
 intro b20
 refine Kh rfl (app rfl u83 (by kernel_rfl : _ = some (some (.int .u8 0), 1, 1)) rfl (by first | exact .here | exact .t1 | exact .t2 | exact .t3 | exact .t4 | exact .t5 | exact .t6 | exact .t7) (by rfl) (by rfl) (by first | exact .here | exact .t1 | exact .t2 | exact .t3 | exact .t4 | exact .t5 | exact .t6 | exact .t7) (by rfl) ?_ ?_) ?_
 ·(refine ⟨?_, ?_, ?_, ?_, ?_⟩ <;> (try simp) <;> omega)
 ·simp [Value.oneCell']
 intro g21
 refine WL.pu ?_
 intro hg21
 refine WL.st (S' := St (fun _ => True) w [⟨some g21.b, (l ++ [128]).map B ++ g21.spare, 5⟩] []) (fun w' h => h.snoc rfl) ?_
 refine Ka rfl (Nn (Xa (Cq (Cb ?_))))
 refine WC.loop (σ := Nat × App) (fun p => [(0, .string (S l)), (3, .slice (some ⟨p.2.b, 0, none⟩) (l.length + 1 + p.1) p.2.cap)]) (fun p w' => (p.1 ≤ zeros l.length ∧ p.2.cap = l.length + 1 + p.1 + p.2.spare.length) ∧ St (fun _ => True) w [⟨some p.2.b, (l ++ [128] ++ List.replicate p.1 0).map B ++ p.2.spare, 5⟩] [] w') (fun p => zeros l.length - p.1) (0, g21) (by repeat (first | exact S0 _ | refine Sc rfl ?_)) (fun w' h => ⟨⟨by simp, by simpa using hg21.2⟩, by simpa using h⟩) ?_
 rintro ⟨j, g⟩; dsimp only; refine WC.pu ?_; rintro ⟨hj, hg⟩
 refine Cq (Cq (Cg (Km rfl (Kq rfl (rd_len rfl rfl u83) ?_))))
 first
  | (refine Kq rfl (rd_rem64nl rfl rfl rfl ?_) ?_; focus (omega))
  | (refine Kq rfl (rd_rem64 rfl rfl rfl ?_) ?_; focus (omega))
 refine Kq rfl (rd_neq rfl rfl rfl) (Nn (Xa ?_))
 refine Cd rfl (fun hc25 => ?_) (fun hc25 => ?_)
 ·(try simp only [decide_eq_true_eq, decide_eq_false_iff_not, Bool.not_eq_true', Bool.not_eq_false', Bool.not_not, Int.not_lt, Int.not_le] at hc25)
  refine Ck (Xa (Cb (Cg (Km rfl ?_))))
  refine Kh rfl (og_bs1 rfl rfl u83 (by kernel_rfl : _ = some (some (.int .u8 0), 1, 1)) rfl (by simp only [List.map]; rfl) rfl rfl ?_ (by decide)) ?_
  ·simp [Value.cells]
  intro b27
  refine Kh rfl (app rfl u83 (by kernel_rfl : _ = some (some (.int .u8 0), 1, 1)) rfl (by first | exact .here | exact .t1 | exact .t2 | exact .t3 | exact .t4 | exact .t5 | exact .t6 | exact .t7) (by rfl) (by rfl) (by first | exact .here | exact .t1 | exact .t2 | exact .t3 | exact .t4 | exact .t5 | exact .t6 | exact .t7) (by rfl) ?_ ?_) ?_
  ·(refine ⟨?_, ?_, ?_, ?_, ?_⟩ <;> (try simp) <;> omega)
  ·simp [Value.oneCell']
  intro g28
  refine WL.pu ?_
  intro hg28
  refine WL.st (S' := St (fun _ => True) w [⟨some g28.b, (l ++ [128] ++ List.replicate (j + 1) 0).map B ++ g28.spare, 5⟩] []) (fun w' h => by have := h.snoc (c := 0) rfl; rw [List.append_assoc, ← List.replicate_succ'] at this; exact this) ?_
  refine Ka rfl (Nn (Xd ?_))
  exact WX.loop (j + 1, g28) (by show zeros l.length - (j + 1) < zeros l.length - j; omega) (by repeat (first | exact S0 _ | refine Sc rfl ?_)) (fun w' h => ⟨⟨by show j + 1 ≤ _; omega, by have := hg28.2; show g28.cap = _; omega⟩, h⟩)
 ·(try simp only [decide_eq_true_eq, decide_eq_false_iff_not, Bool.not_eq_true', Bool.not_eq_false', Bool.not_not, Int.not_lt, Int.not_le] at hc25)
  refine Cx (Xc (Xc (Xe ?_)))
  obtain rfl : j = zeros l.length := by omega
  refine Xa (Cq (Cg (Km rfl (Kq rfl (rd_slen rfl rfl u9) (Kq rfl (rd_conv rfl rfl u3 u49) (Kq rfl (rd_mul rfl rfl rfl) ?_))))))
  refine Ns 32 rfl (v' := .int .u64 ((8 * l.length : Nat) : Int)) (congrArg (Value.int .u64) (by rw [IntKind.wrap_u64, IntKind.wrap_u64]; omega)) ?_
  refine Ka rfl (Nn (Xa (Cq (Cq (Cg (Ka rfl (Nn (Xa (Cb ?_)))))))))
  refine WC.loop (σ := Nat × App) (fun p => [(4, .int .u64 ((8 * l.length : Nat) : Int)), (5, .int .i64 (56 - 8 * (p.1 : Int))), (3, .slice (some ⟨p.2.b, 0, none⟩) (l.length + 1 + zeros l.length + p.1) p.2.cap)]) (fun p w' => (p.1 ≤ 8 ∧ p.2.cap = l.length + 1 + zeros l.length + p.1 + p.2.spare.length) ∧ St (fun _ => True) w [⟨some p.2.b, (l ++ [128] ++ List.replicate (zeros l.length) 0 ++ (len8 (8 * l.length)).take p.1).map B ++ p.2.spare, 5⟩] [] w') (fun p => 8 - p.1) (0, g) (by repeat (first | exact S0 _ | refine Sc rfl ?_)) (fun w' h => ⟨⟨by simp, by simpa using hg⟩, by simpa using h⟩) ?_
  rintro ⟨q, g2⟩; dsimp only; refine WC.pu ?_; rintro ⟨hq, hg2⟩
  refine Cq (Cq (Cg (Km rfl (Kq rfl (rd_geq rfl rfl rfl) (Nn (Xa ?_))))))
  refine Cd rfl (fun hc34 => ?_) (fun hc34 => ?_)
  ·(try simp only [decide_eq_true_eq, decide_eq_false_iff_not, Bool.not_eq_true', Bool.not_eq_false', Bool.not_not, Int.not_lt, Int.not_le] at hc34)
   refine Ck (Xa (Cq (Cb (Cg (Km rfl (Km rfl (Km rfl ?_)))))))
   refine Kq rfl (rd_shr rfl rfl rfl ?_) ?_
   ·first | decide | omega
   refine Kq rfl (rd_conv rfl rfl u49 u5) (Ns 41 rfl (v' := B (byteAt (8 * l.length) (7 - q))) (congrArg (Value.int .u8) (byte_shr (8 * l.length) q (by omega) (by omega))) ?_)
   refine Kh rfl (og_bs1 rfl rfl u83 (by kernel_rfl : _ = some (some (.int .u8 0), 1, 1)) rfl (by simp only [List.map]; rfl) rfl rfl ?_ (by decide)) ?_
   ·simp [B, Value.cells]
   intro b42
   refine Kh rfl (app rfl u83 (by kernel_rfl : _ = some (some (.int .u8 0), 1, 1)) rfl (by first | exact .here | exact .t1 | exact .t2 | exact .t3 | exact .t4 | exact .t5 | exact .t6 | exact .t7) (by rfl) (by rfl) (by first | exact .here | exact .t1 | exact .t2 | exact .t3 | exact .t4 | exact .t5 | exact .t6 | exact .t7) (by rfl) ?_ ?_) ?_
   ·(refine ⟨?_, ?_, ?_, ?_, ?_⟩ <;> (try simp [len8]) <;> omega)
   ·simp [B, Value.oneCell']
   intro g43
   refine WL.pu ?_
   intro hg43
   refine WL.st (S' := St (fun _ => True) w [⟨some g43.b, (l ++ [128] ++ List.replicate (zeros l.length) 0 ++ (len8 (8 * l.length)).take (q + 1)).map B ++ g43.spare, 5⟩] []) (fun w' h => by have := h.snoc (c := byteAt (8 * l.length) (7 - q)) rfl; rw [List.append_assoc, ← len8_take _ q (by omega)] at this; exact this) ?_
   refine Ka rfl (Nn (Xd (Xa (Cg (Km rfl ?_)))))
   first
    | (refine Kq rfl (rd_sub64nl rfl rfl rfl ?_) ?_; focus (omega))
    | (refine Kq rfl (rd_sub64 rfl rfl rfl ?_) ?_; focus (omega))
   refine Ka rfl (Nn ?_)
   exact WX.loop (q + 1, g43) (by show 8 - (q + 1) < 8 - q; omega) (by repeat (first | exact S0 _ | refine Sc rfl ?_ | refine Sc (by show some (Value.int _ _) = some (Value.int _ _); congr 2; omega) ?_)) (fun w' h => ⟨⟨by show q + 1 ≤ _; omega, by have := hg43.2; show g43.cap = _; omega⟩, h⟩)
  ·(try simp only [decide_eq_true_eq, decide_eq_false_iff_not, Bool.not_eq_true', Bool.not_eq_false', Bool.not_not, Int.not_lt, Int.not_le] at hc34)
   refine Cx (Xc (Xc (Xe ?_)))
   obtain rfl : q = 8 := by omega
   obtain ⟨m, hm⟩ : ∃ m, pad l = m := ⟨_, rfl⟩
   have hmm : l ++ [128] ++ List.replicate (zeros l.length) 0 ++ (len8 (8 * l.length)).take 8 = m := by rw [← hm]; rfl
   rw [hmm]
   obtain ⟨nb, hnb⟩ := pad_len l
   have hlen : l.length + 1 + zeros l.length + 8 = 64 * nb := by omega
   rw [hm] at hnb
   refine Xa (Cq (Cg ?_))
   refine Ku rfl (Oc rfl rfl (Kv fun w _ => first_ok w)) ?_
   refine Kh rfl (Oz [.int .u32 0, .int .u32 0, .int .u32 0, .int .u32 0, .int .u32 0, .int .u32 0, .int .u32 0, .int .u32 0] rfl) ?_
   intro b6
   refine Ng rfl rfl (sta rfl rfl rfl (by first | exact .here | exact .t1 | exact .t2 | exact .t3 | exact .t4 | exact .t5 | exact .t6 | exact .t7) ?_ ?_ ?_) ?_
   ·kernel_rfl
   ·exact u32_one _
   ·first | rfl | simp
   intro _
   refine Nn (Xa (Cq (Cb ?_)))
   refine WC.loop (σ := G3) (fun p => [(6, .pointer (some ⟨b6, 0, none⟩)), (3, .slice p.ad (l.length + 1 + zeros l.length + 8 - 64 * p.q) (g2.cap - 64 * p.q))]) (fun p w' => ((p.q ≤ nb ∧ p.x.length = 8) ∧ (p.q < nb → p.ad = some ⟨g2.b, 64 * p.q, none⟩) ∧ chunks nb H0 m = chunks (nb - p.q) p.x (m.drop (64 * p.q))) ∧ St (fun _ => True) w [⟨some b6, p.x.map u32, 139⟩, ⟨some g2.b, m.map B ++ g2.spare, 5⟩] [] w') (fun p => nb - p.q) ⟨0, some ⟨g2.b, 0, none⟩, H0⟩ (by repeat (first | exact S0 _ | refine Sc rfl ?_)) (fun w' h => ⟨⟨⟨by simp, rfl⟩, fun _ => rfl, by simp⟩, h⟩) ?_
   rintro ⟨q, ad, x⟩; dsimp only; refine WC.pu ?_; rintro ⟨⟨hq, hx⟩, had, hch⟩
   refine Cq (Cq (Cg (Km rfl (Kq rfl (rd_len rfl rfl u83) (Kq rfl (rd_gtr rfl rfl rfl) (Nn (Xa ?_)))))))
   refine Cd rfl (fun hc47 => ?_) (fun hc47 => ?_)
   ·(try simp only [decide_eq_true_eq, decide_eq_false_iff_not, Bool.not_eq_true', Bool.not_eq_false', Bool.not_not, Int.not_lt, Int.not_le] at hc47)
    have hqn : q < nb := by omega
    obtain rfl := had hqn
    have hblk : (m.drop (64 * q)).length = 64 * nb - 64 * q := by simp [hnb]
    refine Ck (Xa (Cq (Cb ?_)))
    refine WC.mix [0, 0, 0, 1, 2] (by kernel_rfl) (by kernel_rfl) (fun w h => h.draw) ?_
    refine WM.r rfl rfl rfl (lda rfl rfl (by first | exact .here | exact .t1 | exact .t2 | exact .t3 | exact .t4 | exact .t5 | exact .t6 | exact .t7) u139 rfl ?_) ?_
    ·rw [List.length_map, hx]; kernel_rfl
    refine WM.r rfl rfl rfl (Rm rfl rfl) ?_
    refine WM.r rfl rfl rfl (rd_slt rfl rfl rfl u83 (by kernel_rfl : _ = some 1) ?_ (by (try simp only [Int.toNat_natCast, Nat.mul_one, Nat.zero_add, Nat.add_zero, Nat.zero_mul, Int.reduceToNat, Nat.reduceAdd, Nat.reduceMul, Nat.reduceSub, Nat.sub_zero]); rfl)) ?_
    ·omega
    refine WM.g rfl rfl rfl (Oc rfl rfl (Kv fun w hS => after_ok x hx ((m.drop (64 * q)).take 64) (by simp; omega) g2.b (64 * q) (g2.cap - 64 * q) (by omega) w (hS.sl_of (cs := m.map B ++ g2.spare) (by first | exact .here | exact .t1 | exact .t2) (by rw [List.drop_append_of_le_length (by simp; omega), List.take_append_of_le_length (by simp; omega), ← List.map_drop, ← List.map_take]; congr 1; simp; try omega)))) (fun _ _ h => by first | exact h | exact ⟨_, h⟩ | exact ⟨_, h.2⟩ | exact h.2 | exact h.sub (by repeat (first | exact List.Sublist.refl _ | apply List.Sublist.cons)) (fun _ h => by simp [*]) | exact h.2.sub (by repeat (first | exact List.Sublist.refl _ | apply List.Sublist.cons)) (fun _ h => by simp [*])) ?_
    intro _
    refine WM.h0 rfl rfl (sta rfl rfl rfl (by first | exact .here | exact .t1 | exact .t2 | exact .t3 | exact .t4 | exact .t5 | exact .t6 | exact .t7) ?_ ?_ ?_) ?_
    ·rw [List.length_map, compress_len _ _ hx]; kernel_rfl
    ·exact u32_one _
    ·rw [List.length_map, compress_len _ _ hx, List.length_map, hx]
    intro _
    refine WM.nil ?_
    refine Xd (Xa (Cg (Km rfl ?_)))
    refine Kq rfl (rd_slf rfl rfl rfl u83 (by kernel_rfl : _ = some 1) ?_ (by (try simp only [Int.toNat_natCast, Nat.mul_one, Nat.zero_add, Nat.add_zero, Nat.zero_mul, Int.reduceToNat, Nat.reduceAdd, Nat.reduceMul, Nat.reduceSub, Nat.sub_zero]); rfl) (by (try simp only [Int.toNat_natCast, Nat.mul_one, Nat.zero_add, Nat.add_zero, Nat.zero_mul, Int.reduceToNat, Nat.reduceAdd, Nat.reduceMul, Nat.reduceSub, Nat.sub_zero]); rfl) (by (try simp only [Int.toNat_natCast, Nat.mul_one, Nat.zero_add, Nat.add_zero, Nat.zero_mul, Int.reduceToNat, Nat.reduceAdd, Nat.reduceMul, Nat.reduceSub, Nat.sub_zero]); rfl)) ?_
    ·omega
    refine Ka rfl (Nn ?_)
    exact WX.loop ⟨q + 1, cut (some ⟨g2.b, 64 * q, none⟩) 64 (g2.cap - 64 * q) 1, compress x ((m.drop (64 * q)).take 64)⟩ (by show nb - (q + 1) < nb - q; omega) (by repeat (first | exact S0 _ | refine Sc (by show some (Value.slice _ _ _) = some (Value.slice _ _ _); congr 2 <;> omega) ?_ | refine Sc rfl ?_)) (fun w' h => ⟨⟨⟨by show q + 1 ≤ nb; omega, compress_len _ _ hx⟩, fun (hlt : q + 1 < nb) => by show cut _ _ _ _ = some ⟨g2.b, 64 * (q + 1), none⟩; rw [cut, if_neg (by omega), Option.map_some, Addr.add_lit]; congr 2; try omega, by rw [hch, show nb - q = (nb - (q + 1)) + 1 by omega, chunks_succ, List.drop_drop]; congr 1⟩, h⟩)
   ·(try simp only [decide_eq_true_eq, decide_eq_false_iff_not, Bool.not_eq_true', Bool.not_eq_false', Bool.not_not, Int.not_lt, Int.not_le] at hc47)
    refine Cx (Xc (Xc (Xe ?_)))
    obtain rfl : q = nb := by omega
    have hfin : sha l = outW x := by rw [sha, hm, hnb, Nat.mul_div_cancel_left _ (by omega), hch, Nat.sub_self]; rfl
    refine Xa (Cq (Cg (Ka rfl (Nn (Xa (Cq (Cq (Cg ?_))))))))
    refine Kq rfl (lda rfl rfl (by first | exact .here | exact .t1 | exact .t2 | exact .t3 | exact .t4 | exact .t5 | exact .t6 | exact .t7) u139 rfl ?_) ?_
    ·rw [List.length_map, hx]; kernel_rfl
    refine Km rfl (Nn (Xa (Cb ?_)))
    refine WC.loop (σ := G4) (fun p => [(54, .agg (x.map u32).toArray), (55, .int .i64 (p.k : Int)), (7, .slice (p.ob.map fun b => ⟨b, 0, none⟩) (4 * p.k) p.cap)]) (fun p w' => (p.k ≤ 8 ∧ (p.k = 0 ∨ ∃ b, p.ob = some b) ∧ p.cap = 4 * p.k + p.spare.length) ∧ St (fun _ => True) w [⟨p.ob, (outW (x.take p.k)).map B ++ p.spare, 5⟩] [] w') (fun p => 8 - p.k) ⟨0, none, 0, []⟩ (by repeat (first | exact S0 _ | refine Sc rfl ?_)) (fun w' h => ⟨⟨by simp, .inl rfl, rfl⟩, (h.sub (own' := []) (fs' := []) (by simp) (by simp)).nil _⟩) ?_
    rintro ⟨k, ob, cap4, sp4⟩; dsimp only; refine WC.pu ?_; rintro ⟨hk, hob, hcap4⟩
    refine Cq (Cg (Kq rfl (rd_lss rfl rfl rfl) (Nn (Xa (Cq ?_)))))
    refine Cd rfl (fun hc56 => ?_) (fun hc56 => ?_)
    ·(try simp only [decide_eq_true_eq, decide_eq_false_iff_not, Bool.not_eq_true', Bool.not_eq_false', Bool.not_not, Int.not_lt, Int.not_le] at hc56)
     refine Ck (Xa (Cq (Cb (Cq (Cg ?_)))))
     refine Kq rfl (rd_aidx rfl rfl rfl u139 u56 rfl (by kernel_rfl) ?_ (by rw [List.getElem?_map, get_getD x _ 0 (by omega)]; rfl)) ?_
     ·omega
     refine Ka rfl (Nn (Xa (Cg (Km rfl (Km rfl (Kq rfl (rdW_shr rfl rfl rfl (by decide)) (Kq rfl (rd_conv rfl rfl u56 u5) (Ns 61 rfl (v' := B (byteAt (x.getD k 0).toNat 3)) (congrArg (Value.int .u8) (byte_W (x.getD k 0) 3)) (Km rfl (Kq rfl (rdW_shr rfl rfl rfl (by decide)) (Kq rfl (rd_conv rfl rfl u56 u5) (Ns 64 rfl (v' := B (byteAt (x.getD k 0).toNat 2)) (congrArg (Value.int .u8) (byte_W (x.getD k 0) 2)) (Km rfl (Kq rfl (rdW_shr rfl rfl rfl (by decide)) (Kq rfl (rd_conv rfl rfl u56 u5) (Ns 67 rfl (v' := B (byteAt (x.getD k 0).toNat 1)) (congrArg (Value.int .u8) (byte_W (x.getD k 0) 1)) (Km rfl (Kq rfl (rd_conv rfl rfl u56 u5) ?_))))))))))))))))))
     refine Ns 69 rfl (v' := B (byteAt (x.getD k 0).toNat 0)) (congrArg (Value.int .u8) (byte_W0 (x.getD k 0))) ?_
     refine Kh rfl (og_bs1 rfl rfl u83 (by kernel_rfl : _ = some (some (.int .u8 0), 1, 1)) rfl (by simp only [List.map]; rfl) rfl rfl ?_ (by decide)) ?_
     ·simp [B, Value.cells]
     intro b70
     refine Kh rfl (app rfl u83 (by kernel_rfl : _ = some (some (.int .u8 0), 1, 1)) rfl (by first | exact .here | exact .t1 | exact .t2 | exact .t3 | exact .t4 | exact .t5 | exact .t6 | exact .t7) (by rfl) (by rfl) (by first | exact .here | exact .t1 | exact .t2 | exact .t3 | exact .t4 | exact .t5 | exact .t6 | exact .t7) (by rfl) ?_ ?_) ?_
     ·(refine ⟨?_, ?_, ?_, ?_, ?_⟩ <;> (try simp [outW_len]) <;> omega)
     ·simp [B, Value.oneCell']
     intro g71
     refine WL.pu ?_
     intro hg71
     refine Ka rfl (Nn (Xd (Xa (Cg ?_))))
     first
      | (refine Kq rfl (Rz rfl rfl rfl ?_) ?_; focus (omega))
      | (refine Kq rfl (rd_add64 rfl rfl rfl ?_) ?_; focus (omega))
     refine Km rfl (Nn ?_)
     exact WX.loop ⟨k + 1, some g71.b, g71.cap, g71.spare⟩ (by show 8 - (k + 1) < 8 - k; omega) (by repeat (first | exact S0 _ | refine Sc rfl ?_)) (fun w' h => ⟨⟨by show k + 1 ≤ 8; omega, .inr ⟨_, rfl⟩, by have := hg71.2; show g71.cap = _; omega⟩, by rw [outW_take x k (by omega), List.map_append]; exact h.sub (List.sublist_cons_self _ _) (fun _ h => h)⟩)
    ·(try simp only [decide_eq_true_eq, decide_eq_false_iff_not, Bool.not_eq_true', Bool.not_eq_false', Bool.not_not, Int.not_lt, Int.not_le] at hc56)
     refine Cx (Xc (Xc (Xe ?_)))
     obtain rfl : k = 8 := by omega
     obtain ⟨b9, rfl⟩ : ∃ b, ob = some b := by rcases hob with h | h; omega; exact h
     rw [List.take_of_length_le (by omega)]
     refine Xa (Cq (Cg (Km rfl ?_)))
     refine Kq rfl (b2s (l := outW x) rfl rfl (by first | exact .here | exact .t1 | exact .t2 | exact .t3 | exact .t4 | exact .t5 | exact .t6 | exact .t7) u83 u5 u9 ?_ ?_) ?_
     ·simp [outW_len, hx]
     ·simp [outW_len, hx]
     refine Ka rfl (Nn (Xa (Ce ?_)))
     refine WX.ret1 rfl rfl fun w' hS => ⟨by rw [hfin], hS.below⟩
theorem sha_len (l : List UInt8) : (sha l).length = 32 := by
 have : ∀ (n : Nat) (x : List W) (m : List UInt8), x.length = 8 → (chunks n x m).length = 8 := by
  intro n
  induction n with
  | zero => intro x m h; exact h
  | succ n ih => intro x m h; exact ih _ _ (compress_len _ _ h)
 rw [sha, outW_len, this _ _ _ rfl]
theorem sum_c {s : Bs} {w : World} (hs : s.length ≤ 1000000) :
  Cw 73 #[.string (S s)] w (.string (S (sha s))) :=
 sum_ok s hs w
end Go.Proofs.YtddoigmffkmpcaaGreatDoor
