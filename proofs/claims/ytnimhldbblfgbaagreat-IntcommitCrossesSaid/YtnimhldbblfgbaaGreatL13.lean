/-
  Parts of the walk: Lin4 Icm Icc.
-/
import Derived.Test.YtnimhldbblfgbaaGreatL12
namespace Go.Proofs.YtnimhldbblfgbaaGreat
set_option linter.unusedSimpArgs false
set_option linter.unusedVariables false
set_option maxRecDepth 20000
set_option maxHeartbeats 600000
open Go.RowKit
section
variable {P : Program} {ok : Nat → Prop} {w0 w : World} {own : List Ent} {fs : List Fact} {γ : Type} {f : FuncId} {args : Array Value} {val : γ → Value} {p : γ → Prop} {F : γ → List Fact} {xs : List Value}
theorem keep_fr (h : ∀ w, St ok w0 own fs w → Calls P f args w (fun e w' => ∃ g, e = .returned (val g) ∧ p g ∧ Below w.heap.size w w' ∧ ∀ x ∈ F g, x.holds (fun b => w.heap.size ≤ b) w')) :
  ∀ w, St ok w0 own fs w → Calls P f args w (fun e w' => ∃ g, e = .returned (val g) ∧ p g ∧ St ok w0 own (F g ++ fs) w') :=
 keep_ff fun w hS => (h w hS).mono fun _ w' ⟨g, he, hp, hb, hF⟩ => ⟨g, he, hp, hb, fun x hx => x.mono (fun _ h => .inr h) (hF x hx)⟩
theorem St.ocf (h : St ok w0 own fs w) {ob : Option Nat} {sp : List Value} {T : TypeId} {C : Ent → List Ent} [hf : HasC own ob (xs ++ sp) T C] : (Fact.sl (ob.map fun b => ⟨b, 0, none⟩) xs).holds (fun b => w0.heap.size ≤ b) w := by
 obtain ⟨k, hk, _⟩ := hf.h.get
 have := h.own_ _ (List.mem_of_getElem? hk)
 cases ob with
 | none => exact .inl (by have h1 : xs ++ sp = [] := this; simp at h1; exact h1.1)
 | some b =>
  refine .inr ⟨b, 0, (xs ++ sp).toArray, T, (0, 0), rfl, this.1, this.2, fun i hi => ?_⟩
  rw [Nat.zero_add, List.getElem?_toArray, List.getElem?_append_left hi]
end
section
variable {ds : List Deferred} {P : Program} {ops l : List Oper} {Q : Exit → Act → World → Prop} {n : Nat} {L : Slots} {ok : Nat → Prop} {w0 : World} {own : List Ent} {fs : List Fact} {x y : Fact}
theorem WL.fa1 (k : WL ds P ops Q n l L (St ok w0 own (x :: fs))) : WL ds P ops Q n l L (St ok w0 own ([x] ++ fs)) := k
theorem WL.fa2 (k : WL ds P ops Q n l L (St ok w0 own (x :: y :: fs))) : WL ds P ops Q n l L (St ok w0 own ([x, y] ++ fs)) := k
end
def bsQ (ws : List Zs) (q : Qn) : List Bs := if (exQ ws q).2 ≠ 0 then [] else q.2.2.map (·.1)
theorem exQ_at {ws : List Zs} {q : Qn} {i : Nat} (h : i < q.2.2.length) (h0 : ∀ t ∈ q.2.2.take i, (exT ws t).2 = 0) (h1 : (exT ws (q.2.2.getD i default)).2 ≠ 0) : exQ ws q = ([], (exT ws (q.2.2.getD i default)).2) := by
 rw [exQ, errL_at h h0 h1, if_pos h1]
theorem exQ_ok {ws : List Zs} {q : Qn} (h0 : ∀ t ∈ q.2.2, (exT ws t).2 = 0) : exQ ws q = (q.2.2.map fun t => (exT ws t).1, 0) := by
 rw [exQ, errL_map h0, if_neg (by decide)]
theorem ts_strs {l : List Tm} {i : Nat} (h : i < l.length) : strs ((l.take (i + 1)).map (·.1)) = strs ((l.take i).map (·.1)) ++ [.string (S (l.getD i default).1)] := by
 rw [take_succ_getD h, List.map_append]; simp [strs]
theorem ts_ints {l : List Tm} (f : Tm → Zs) {i : Nat} (h : i < l.length) : ints ((l.take (i + 1)).map f) = ints ((l.take i).map f) ++ zc (f (l.getD i default)) := by
 rw [take_succ_getD h, List.map_append]; simp
theorem bsQ_at {ws : List Zs} {q : Qn} {i : Nat} (h : i < q.2.2.length) (h0 : ∀ t ∈ q.2.2.take i, (exT ws t).2 = 0) (h1 : (exT ws (q.2.2.getD i default)).2 ≠ 0) : bsQ ws q = [] := by
 rw [bsQ, exQ_at h h0 h1, if_pos h1]
theorem collect_c {q : QA} {ws : List Zs} {p : Nat} {a : Option Addr} {c : Nat} {w : World} {ok : Nat → Prop} (hF1 : (Fact.sl (some ⟨p, 0, none⟩) [.slice a ws.length c]).holds ok w) (hF2 : (Fact.sl a (ints ws)).holds ok w) (hF3 : (Fact.sl q.2.1 (tms q.1.2.2)).holds ok w) (hw : ws.length ≤ 100000) (hl : q.1.2.2.length ≤ 100000) (ht : ∀ t ∈ q.1.2.2, 0 ≤ t.2.1 ∧ t.2.1 < ws.length) :
  Calls Tryz.prog 118 #[.agg #[.int .i64 q.1.1, .string (S q.1.2.1), .slice q.2.1 q.1.2.2.length q.2.2], .pointer (some ⟨p, 0, none⟩)] w fun e w' => ∃ gx : Rs × Rs, e = .returned (.tuple #[gx.1.val (bsQ ws q.1).length, gx.2.val (exQ ws q.1).1.length, .int .i64 (exQ ws q.1).2]) ∧ (True) ∧ Below w.heap.size w w' ∧ ∀ x ∈ ([Fact.sl gx.1.a (strs (bsQ ws q.1)), Fact.sl gx.2.a (ints (exQ ws q.1).1)] : List Fact), x.holds (fun b => w.heap.size ≤ b) w' := by
 refine enter (S := St (fun _ => True) w [] ([Fact.sl (some ⟨p, 0, none⟩) [.slice a ws.length c], Fact.sl a (ints ws), Fact.sl q.2.1 (tms q.1.2.2)])) (L := [(0, .agg #[.int .i64 q.1.1, .string (S q.1.2.1), .slice q.2.1 q.1.2.2.length q.2.2]), (1, .pointer (some ⟨p, 0, none⟩))]) Tryz.func118 rfl Tryz.ntmps118 rfl (args_cons rfl (args_cons rfl (args_nil _))) (St.start (fun _ _ => trivial) (facts_cons (fact_any hF1) (facts_cons (fact_any hF2) (facts_cons (fact_any hF3) facts_nil)))) ?_
 refine WC.sr ?_
 refine Kh rfl (og_box rfl rfl (by (exact cells_agg _))) ?_
 intro b2
 refine Ka rfl (Ka rfl (Ka rfl (WL.nt (WC.sr (Ka rfl (WL.nt (WC.sr (Ka rfl (WL.nt (WC.seq (WC.sr ?_)))))))))))
 refine Kq rfl (rd_fa (q := 2) rfl rfl Tryz.underlying102 rfl (by kernel_rfl) rfl) ?_
 refine Kq rfl (ld rfl rfl .tc Tryz.underlying100 rfl (by rfl)) ?_
 refine Kq rfl (rd_len rfl rfl Tryz.underlying100) (Km rfl (WL.nt (WC.block ?_)))
 refine WC.loopO (σ := Nat × (Option Nat) × Nat × (List Value) × (Option Nat) × Nat × (List Value)) [(1, _), (13, _), (14, _)] (fun gq => [(6, .slice (gq.2.1.map fun b => ⟨b, 0, none⟩) gq.1 gq.2.2.1), (7, .slice (gq.2.2.2.2.1.map fun b => ⟨b, 0, none⟩) gq.1 gq.2.2.2.2.2.1), (15, .int .i64 (gq.1 : Int))]) (fun gq => (gq.1 ≤ q.1.2.2.length ∧ gq.2.2.1 = gq.1 + gq.2.2.2.1.length ∧ gq.2.2.2.2.2.1 * 2 = gq.1 * 2 + gq.2.2.2.2.2.2.length) ∧ ∀ t ∈ q.1.2.2.take gq.1, (exT ws t).2 = 0) (fun gq => q.1.2.2.length - gq.1) (fun gq => [⟨gq.2.2.2.2.1, ints ((q.1.2.2.take gq.1).map fun t => (exT ws t).1) ++ gq.2.2.2.2.2.2, 45⟩, ⟨gq.2.1, strs ((q.1.2.2.take gq.1).map (·.1)) ++ gq.2.2.2.1, 22⟩, ⟨some b2, [.int .i64 q.1.1, .string (S q.1.2.1), .slice q.2.1 q.1.2.2.length q.2.2], 102⟩]) (fun gq => [Fact.sl (some ⟨p, 0, none⟩) [.slice a ws.length c], Fact.sl a (ints ws), Fact.sl q.2.1 (tms q.1.2.2)]) (0, none, 0, [], none, 0, []) (sub_cons rfl (sub_cons rfl (sub_cons rfl (sub_nil _)))) (sub_cons rfl (sub_cons rfl (sub_cons rfl (sub_nil _)))) (by (try dsimp only); exact ⟨⟨Nat.zero_le _, rfl, rfl⟩, by simp⟩) (by exact fun w h => (h.nil _).nil _) ?_
 rintro ⟨i, o, cp, sp, o2, cp2, sp2⟩ hinv1; (try dsimp only at hinv1 ⊢)
 obtain ⟨⟨hi, hcp, hcp2⟩, hok⟩ := hinv1
 refine WC.sr (Kq rfl (rd_lss rfl rfl rfl) (WL.nt (WC.seq ?_)))
 refine WC.cond rfl (fun hc16 => ?_) (fun hc16 => ?_)
 ·(try simp only [sB] at hc16)
  have hil : i < q.1.2.2.length := by omega
  have htm := ht _ (getD_mem _ _ hil)
  have htl : (q.1.2.2.getD i default).2.1.toNat < ws.length := by omega
  refine WC.skip (WX.then_normal (WC.seq (WC.block (WC.sr ?_))))
  (refine Kq rfl (iaf rfl rfl rfl Tryz.underlying100 (by kernel_rfl : _ = some 4) ?_ ?_ (by (try simp only [sN, Int.reduceToNat, Nat.reduceAdd, Nat.reduceMul, Nat.reduceSub]); rfl)) ?_; (focus (omega)); (focus ((rw [flatMap_len _ _ 4 (fun _ => rfl)]; omega))))
  (refine Kq rfl (ldma _ rfl rfl Tryz.underlying110 rfl (by kernel_rfl : _ = some 4) (fun _ => rfl) (by decide) rfl ?_) ?_; (focus (assumption)))
  refine Kh rfl (og_alloc rfl (v := (.agg #[.string (S []), .int .i64 0, .bool false, .string (S [])])) (cs := [.string (S []), .int .i64 0, .bool false, .string (S [])]) (by kernel_rfl) rfl) ?_
  intro b9
  refine WL.g0 rfl rfl (sta rfl rfl rfl .tc ?_ ?_ ?_) ?_
  ·kernel_rfl
  ·simp [Value.oneCell']
  ·rfl
  intro _
  refine WL.nt (WC.seq ?_)
  refine WC.free0 [0, 1, 2, 3, 4, 5, 6, 7, 8, 9, 11, 12, 10, 13] [] [0, 0, 0, 0, 0, 0, 0, 1, 0, 0, 0, 3, 1, 0] (by kernel_rfl) (by kernel_rfl) rfl ?_
  refine Kj rfl (rd_fa (q := 2) rfl rfl Tryz.underlying110 rfl (by kernel_rfl) rfl) ?_
  refine Kj rfl (ldp rfl rfl .tc Tryz.underlying45 rfl (by kernel_rfl : _ = some 2) (by rfl) (by rfl)) ?_
  refine Kj rfl (ldf (m := 0) rfl rfl .tc Tryz.underlying49 rfl rfl rfl) ?_
  refine Kj rfl (rd_fa (q := 1) rfl rfl Tryz.underlying110 rfl (by kernel_rfl) rfl) ?_
  refine Kj rfl (ld rfl rfl .tc Tryz.underlying3 rfl (by rfl)) ?_
  (refine Kj rfl (iaf rfl rfl rfl Tryz.underlying49 (by kernel_rfl : _ = some 2) ?_ ?_ (by (try simp only [sN, Int.reduceToNat, Nat.reduceAdd, Nat.reduceMul, Nat.reduceSub]); rfl)) ?_; (focus (assumption)); (focus ((rw [flatMap_len _ _ 2 (fun _ => rfl)]; omega))))
  (refine Kj rfl (ldma _ rfl rfl Tryz.underlying45 rfl (by kernel_rfl : _ = some 2) (fun _ => rfl) (by decide) rfl ?_) ?_; (focus (assumption)))
  refine WJ.gv rfl rfl rfl rfl rfl (fun ext => og_call rfl rfl (by kernel_rfl) (keep_val fun w hS => zmul_c (x := (q.1.2.2.getD i default).2.2) (y := ws.getD (q.1.2.2.getD i default).2.1.toNat default))) ?_
  refine Kj rfl (rd_move rfl rfl) ?_
  refine Kj rfl (rd_extL rfl rfl rfl) ?_
  refine WJ.f rfl rfl rfl rfl rfl (fr_alloc rfl (v := (.agg #[.bool false, .string (S [])])) (cs := [.bool false, .string (S [])]) (by kernel_rfl) rfl) ?_
  intro b10
  refine WJ.st rfl rfl rfl rfl (staJ rfl rfl rfl ?_ ?_ ?_) ?_
  ·kernel_rfl
  ·simp [Value.oneCell']
  ·rfl
  refine Kj rfl (rd_extL rfl rfl rfl) ?_
  refine Kj rfl (rd_assign rfl rfl) ?_
  refine WJ.nil ?_
  refine WL.nt (WC.seq (WC.sr (Km rfl (Kq rfl (rd_neq rfl rfl rfl) (WL.nt ?_)))))
  refine WC.cond rfl (fun hc31 => ?_) (fun hc31 => ?_)
  ·(try simp only [sB] at hc31)
   refine WC.sr (Km rfl (Ka rfl (Ka rfl (Ka rfl (WL.nt (WC.ret (WX.then_ret (WX.block_ret (WX.then_ret (WX.then_ret (WX.block_ret ?_)))))))))))
   refine WX.then_ret ?_
   exact WX.retN rfl (.tmp rfl (.tmp rfl (.tmp rfl .nil))) fun w' hS => ⟨(⟨none, 0, []⟩, ⟨none, 0, []⟩), by rw [bsQ_at hil hok hc31, exQ_at hil hok hc31]; rfl, trivial, hS.below, by rw [bsQ_at hil hok hc31, exQ_at hil hok hc31]; exact facts_cons sl_nilk (facts_cons sl_nilk facts_nil)⟩
  ·(try simp only [sB] at hc31)
   have hx0 : (exT ws (q.1.2.2.getD i default)).2 = 0 := by simpa [exT] using hc31
   have hln : (ints ((q.1.2.2.take i).map fun t => (exT ws t).1)).length = i * 2 := by rw [flatMap_len _ _ 2 (fun _ => rfl), List.length_map, List.length_take]; omega
   have hls : (strs ((q.1.2.2.take i).map (·.1))).length = i := by simp [strs]; omega
   refine WC.skip (WX.then_normal ?_)
   refine WC.free (K := [⟨some b10, [.bool (mulZ (q.1.2.2.getD i default).2.2 (ws.getD (q.1.2.2.getD i default).2.1.toNat default)).1.1, .string (S (mulZ (q.1.2.2.getD i default).2.2 (ws.getD (q.1.2.2.getD i default).2.1.toNat default)).1.2)], 45⟩, ⟨some b9, [.string (S (q.1.2.2.getD i default).1), .int .i64 (q.1.2.2.getD i default).2.1, .bool (q.1.2.2.getD i default).2.2.1, .string (S (q.1.2.2.getD i default).2.2.2)], 110⟩]) (fs0 := []) [0, 1, 2, 3, 4, 5, 6, 7, 8, 9, 10] [] [0, 0, 0, 3, 1, 0, 0, 3, 1, 0, 0] (by kernel_rfl) (by kernel_rfl) rfl ?_
   refine Kj rfl (rd_move rfl rfl) ?_
   refine Kj rfl (rd_fa (q := 0) rfl rfl Tryz.underlying110 rfl (by kernel_rfl) rfl) ?_
   refine Kj rfl (ld rfl rfl .tc Tryz.underlying22 rfl (by rfl)) ?_
   refine WJ.f rfl rfl rfl rfl rfl (fr_bs1 rfl rfl Tryz.underlying60 (by kernel_rfl : _ = some (some (.string (S [])), 1, 16)) rfl (by simp only [List.map]; rfl) rfl rfl ?_ (by decide)) ?_
   ·simp [Value.cells]
   intro b36
   (refine WJ.g rfl rfl rfl rfl rfl (appgJ rfl Tryz.underlying60 (by kernel_rfl : _ = some (some (.string (S [])), 1, 16)) rfl .tc rfl rfl (fun ext w hS => by (exact hS.os)) (by rfl) ?_ ?_) ?_; (focus (refine ⟨?_, ?_, ?_, ?_⟩ <;> first | exact hls | (try simp) <;> omega)); (focus ((simp [Value.oneCell']; done))))
   rintro ⟨o37, c37, s37⟩ hg37; (try dsimp only at hg37 ⊢)
   refine Kj rfl (rd_move rfl rfl) ?_
   refine Kj rfl (lda rfl rfl .tc Tryz.underlying45 rfl ?_) ?_
   ·kernel_rfl
   refine WJ.f rfl rfl rfl rfl rfl (fr_bsN rfl rfl Tryz.underlying49 (by kernel_rfl : _ = some (some (.agg #[.bool false, .string (S [])]), 2, 24)) (by kernel_rfl) (by decide) rfl rfl (by (simp [Value.cells]; done)) (by (exact cells_one _)) (by decide)) ?_
   intro b40
   (refine WJ.g rfl rfl rfl rfl rfl (appgNJ rfl Tryz.underlying49 (by kernel_rfl : _ = some (some (.agg #[.bool false, .string (S [])]), 2, 24)) (by kernel_rfl) (by decide) .tc rfl rfl (fun ext w hS => by (exact hS.os)) (by rfl) ?_ ?_) ?_; (focus (refine ⟨?_, ?_, ?_, ?_⟩ <;> first | exact hln | omega)); (focus ((simp [Value.oneCell']; done))))
   rintro ⟨o41, c41, s41⟩ hg41; (try dsimp only at hg41 ⊢)
   refine Kj rfl (rd_assign rfl rfl) ?_
   refine Kj rfl (rd_assign rfl rfl) ?_
   refine WJ.nil ?_
   refine WL.nil (WX.block_normal (WX.then_normal (WC.region ?_)))
   (refine Kq rfl (rd_add64nl rfl rfl rfl ?_) ?_; (focus (omega)))
   refine Km rfl (WL.nil ?_)
   refine WX.loopO ((i + 1, o37, c37, s37, o41, c41, s41)) (by (try dsimp only); omega) (sub_cons rfl (sub_cons rfl (sub_cons rfl (sub_nil _)))) (by refine (sub_cons ?_ (sub_cons ?_ (sub_cons ?_ (sub_nil _)))) <;> (rfl)) ?_ (by exact fun w h => by rw [ts_strs hil, ts_ints _ hil]; exact st_sub _ h)
   (try dsimp only)
   exact ⟨⟨hil, by omega, by omega⟩, all_take hil hok hx0⟩
 ·(try simp only [sB] at hc16)
  refine WC.exit (WX.then_exit (WX.then_exit (WX.block_exit ?_)))
  obtain rfl : i = q.1.2.2.length := by omega
  rw [List.take_length] at hok
  rw [List.take_length]
  refine WX.then_normal (WC.sr (Km rfl (Km rfl (Ka rfl (Ka rfl (Ka rfl (WL.nt (WC.ret ?_))))))))
  exact WX.retN rfl (.tmp rfl (.tmp rfl (.tmp rfl .nil))) fun w' hS => ⟨(⟨o, cp, sp⟩, ⟨o2, cp2, sp2⟩), by rw [bsQ, exQ_ok hok, if_neg (fun h => h rfl), List.length_map, List.length_map]; rfl, trivial, hS.below, by rw [bsQ, exQ_ok hok, if_neg (fun h => h rfl)]; exact facts_cons hS.ocf (facts_cons hS.ocf facts_nil)⟩
theorem inrange_c {s : SA} {ws : List Zs} {a : Option Addr} {c : Nat} {w : World} {ok : Nat → Prop} (hF1 : (Fact.sl s.ga (gps s.gs)).holds ok w) (hF2 : (Fact.sl s.va (vrs s.vs)).holds ok w) (hF3 : (Fact.sl a (ints ws)).holds ok w) (hs : saL s) (hw : ws.length = s.vs.length) (hfo : formS s.core) (hz : ∀ x ∈ ws, okZ x) :
  Calls Tryz.prog 74 #[saV s, .slice a ws.length c] w fun e w' => e = .returned (.bool (decide (inR s.core ws))) ∧ Below w.heap.size w w' := by
 have hs' := hs
 obtain ⟨hlg, hlv, hle, hlt, hlm⟩ := hs
 have hoo : okN (ordS s.gs) := ordS_okN hfo.1
 refine enter (S := St (fun _ => True) w [] ([Fact.sl s.ga (gps s.gs), Fact.sl s.va (vrs s.vs), Fact.sl a (ints ws)])) (L := [(0, saV s), (1, .slice a ws.length c)]) Tryz.func74 rfl Tryz.ntmps74 rfl (args_cons rfl (args_cons rfl (args_nil _))) (St.start (fun _ _ => trivial) (facts_cons (fact_any hF1) (facts_cons (fact_any hF2) (facts_cons (fact_any hF3) facts_nil)))) ?_
 refine WC.sr ?_
 refine Kh rfl (og_box rfl rfl (by (exact cells_agg _))) ?_
 intro b2
 refine Ka rfl (WL.nt (WC.seq (WC.sr ?_)))
 refine Kq rfl (rd_fa (q := 1) rfl rfl Tryz.underlying35 rfl (by kernel_rfl) rfl) ?_
 refine Kq rfl (ld rfl rfl .tc Tryz.underlying32 rfl (by rfl)) ?_
 refine Kq rfl (rd_len rfl rfl Tryz.underlying32) (Km rfl (WL.nt (WC.block ?_)))
 refine WC.loopP (σ := Nat) [(1, _), (2, _), (9, _), (10, _)] (fun gq => [(11, .int .i64 (gq : Int))]) (fun gq => gq ≤ s.vs.length ∧ ∀ j, j < gq → inV (ordS s.gs) (s.vs.getD j default) (ws.getD j default)) (fun gq => s.vs.length - gq) (0) (sub_cons rfl (sub_cons rfl (sub_cons rfl (sub_cons rfl (sub_nil _))))) (sub_cons rfl (sub_nil _)) (by (try dsimp only); exact ⟨Nat.zero_le _, fun _ h => absurd h (Nat.not_lt_zero _)⟩) ?_
 rintro i hinv1; (try dsimp only at hinv1 ⊢)
 obtain ⟨hi, hok⟩ := hinv1
 refine WC.sr (Kq rfl (rd_lss rfl rfl rfl) (WL.nt (WC.seq ?_)))
 refine WC.cond rfl (fun hc12 => ?_) (fun hc12 => ?_)
 ·(try simp only [sB] at hc12)
  have hil : i < s.vs.length := by omega
  have hwl : i < ws.length := by omega
  have hov : okN (s.vs.getD i default) := hfo.2.1 _ (getD_mem _ _ hil)
  have hoz := (hz _ (getD_mem _ _ hwl)).1
  refine WC.skip (WX.then_normal (WC.seq (WC.block (WC.sr (Km rfl ?_)))))
  (refine Kq rfl (iaf rfl rfl rfl Tryz.underlying32 (by kernel_rfl : _ = some 1) ?_ ?_ (by (try simp only [sN, Int.reduceToNat, Nat.reduceAdd, Nat.reduceMul, Nat.reduceSub]); rfl)) ?_; (focus (omega)); (focus ((rw [flatMap_len _ _ 1 (fun _ => rfl)]; omega))))
  (refine Kq rfl (ldma _ rfl rfl Tryz.underlying91 rfl (by kernel_rfl : _ = some 1) (fun _ => rfl) (by decide) (Nat.mul_one _).symm ?_) ?_; (focus (assumption)))
  refine Kh rfl (og_alloc rfl (v := (.agg #[.string (S [])])) (cs := [.string (S [])]) (by kernel_rfl) rfl) ?_
  intro b6
  refine Ka rfl ?_
  refine WL.g0 rfl rfl (sta rfl rfl rfl .tc ?_ ?_ ?_) ?_
  ·kernel_rfl
  ·simp [Value.oneCell']
  ·rfl
  intro _
  refine WL.nt (WC.sr ?_)
  refine Kq rfl (rd_fa (q := 0) rfl rfl Tryz.underlying91 rfl (by kernel_rfl) rfl) ?_
  refine Kq rfl (ld rfl rfl .tc Tryz.underlying22 rfl (by rfl)) ?_
  refine Ka rfl (WL.nt (WC.seq (WC.sr (Km rfl (Kq rfl (rd_seq rfl rfl rfl) (WL.nt ?_))))))
  refine WC.cond rfl (fun hc19 => ?_) (fun hc19 => ?_)
  ·(try simp only [sB] at hc19)
   have hv0 : s.vs.getD i default = [] := by simpa using hc19
   refine WC.sr ?_
   refine Kq rfl (lda rfl rfl .tc Tryz.underlying35 rfl ?_) ?_
   ·kernel_rfl
   refine Kh rfl (og_call rfl rfl (by kernel_rfl) (keep_val fun w hS => lorder_c (s := s) (by (exact hS.sl)) (by exact hs'))) ?_
   intro _
   refine Ka rfl (WL.nt (WC.sr (Km rfl (Km rfl ?_))))
   (refine Kq rfl (iaf rfl rfl rfl Tryz.underlying49 (by kernel_rfl : _ = some 2) ?_ ?_ (by (try simp only [sN, Int.reduceToNat, Nat.reduceAdd, Nat.reduceMul, Nat.reduceSub]); rfl)) ?_; (focus (omega)); (focus ((rw [flatMap_len _ _ 2 (fun _ => rfl)]; omega))))
   (refine Kq rfl (faf rfl rfl Tryz.underlying45 rfl (by kernel_rfl) (by (try simp only [sN, Int.reduceToNat, Nat.reduceAdd, Nat.reduceMul, Nat.reduceSub]); rfl)) ?_)
   (refine Kq rfl (ldmf (sz := 2) _ 0 rfl rfl Tryz.underlying4 rfl (fun _ => rfl) rfl ?_ (by decide) rfl) ?_; (focus (assumption)))
   refine WL.nt ?_
   refine WC.cond rfl (fun hc26 => ?_) (fun hc26 => ?_)
   ·(try simp only [sB] at hc26)
    have hn : ¬ inR s.core ws := fun h => by
     have h1 := h i hil; rw [inV, if_pos hv0] at h1; rw [h1.1] at hc26; cases hc26
    refine WC.sr (Ka rfl (WL.nt (WC.ret (WX.then_ret (WX.block_ret (WX.then_ret (WX.then_ret (WX.block_ret (WX.then_ret ?_)))))))))
    exact WX.retN rfl (.tmp rfl .nil) fun w' hS => ⟨by rw [decide_eq_false hn]; rfl, hS.below⟩
   ·(try simp only [sB] at hc26)
    refine WC.skip (WX.then_normal (WC.sr (Km rfl (Km rfl ?_))))
    (refine Kq rfl (iaf rfl rfl rfl Tryz.underlying49 (by kernel_rfl : _ = some 2) ?_ ?_ (by (try simp only [sN, Int.reduceToNat, Nat.reduceAdd, Nat.reduceMul, Nat.reduceSub]); rfl)) ?_; (focus (omega)); (focus ((rw [flatMap_len _ _ 2 (fun _ => rfl)]; omega))))
    (refine Kq rfl (faf rfl rfl Tryz.underlying45 rfl (by kernel_rfl) (by (try simp only [sN, Int.reduceToNat, Nat.reduceAdd, Nat.reduceMul, Nat.reduceSub]); rfl)) ?_)
    (refine Kq rfl (ldmf (sz := 2) _ 1 rfl rfl Tryz.underlying22 rfl (fun _ => rfl) rfl ?_ (by decide) rfl) ?_; (focus (assumption)))
    refine Km rfl ?_
    refine Kh rfl (og_call rfl rfl (by kernel_rfl) (keep_val fun w hS => Cmp_c (a := (ws.getD i default).2))) ?_
    intro _
    refine Kq rfl (rd_geq rfl rfl rfl) (WL.nt ?_)
    refine WC.cond rfl (fun hc34 => ?_) (fun hc34 => ?_)
    ·(try simp only [sB] at hc34)
     have hn : ¬ inR s.core ws := fun h => by
      have h1 := h i hil; rw [inV] at h1; simp only [SA.core] at h1
      (rw [if_pos hv0] at h1; rw [cmpN_ok hoz hoo] at hc34; have := (cmpI_ge _ _).1 hc34; have h2 := h1.2; omega)
     refine WC.sr (Ka rfl (WL.nt (WC.ret (WX.block_ret (WX.then_ret (WX.then_ret (WX.block_ret (WX.then_ret ?_))))))))
     exact WX.retN rfl (.tmp rfl .nil) fun w' hS => ⟨by rw [decide_eq_false hn]; rfl, hS.below⟩
    ·(try simp only [sB] at hc34)
     have hlt : inV (ordS s.gs) (s.vs.getD i default) (ws.getD i default) := by
      rw [inV]; (rw [if_pos hv0]; rw [cmpN_ok hoz hoo, ] at hc34; exact ⟨by simpa using hc26, (cmpI_neg _ _).1 (by omega)⟩)
     refine WC.skip (WX.block_normal (WX.then_normal (WC.region ?_)))
     (refine Kq rfl (rd_add64nl rfl rfl rfl ?_) ?_; (focus (omega)))
     refine Km rfl (WL.nil ?_)
     refine WX.loopP (i + 1) (by (try dsimp only); omega) (sub_cons rfl (sub_cons rfl (sub_cons rfl (sub_cons rfl (sub_nil _))))) (by refine (sub_cons ?_ (sub_nil _)) <;> (rfl)) ?_ (by (exact st_sub))
     (try dsimp only)
     exact ⟨hil, fun j hj => by rcases Nat.lt_succ_iff_lt_or_eq.1 hj with h | h; exact hok j h; subst h; exact hlt⟩
  ·(try simp only [sB] at hc19)
   have hv0 : s.vs.getD i default ≠ [] := by simpa using hc19
   refine WC.skip (WX.then_normal (WC.sr (Km rfl (Km rfl ?_))))
   (refine Kq rfl (iaf rfl rfl rfl Tryz.underlying49 (by kernel_rfl : _ = some 2) ?_ ?_ (by (try simp only [sN, Int.reduceToNat, Nat.reduceAdd, Nat.reduceMul, Nat.reduceSub]); rfl)) ?_; (focus (omega)); (focus ((rw [flatMap_len _ _ 2 (fun _ => rfl)]; omega))))
   (refine Kq rfl (faf rfl rfl Tryz.underlying45 rfl (by kernel_rfl) (by (try simp only [sN, Int.reduceToNat, Nat.reduceAdd, Nat.reduceMul, Nat.reduceSub]); rfl)) ?_)
   (refine Kq rfl (ldmf (sz := 2) _ 1 rfl rfl Tryz.underlying22 rfl (fun _ => rfl) rfl ?_ (by decide) rfl) ?_; (focus (assumption)))
   refine Km rfl ?_
   refine Kh rfl (og_call rfl rfl (by kernel_rfl) (keep_val fun w hS => Cmp_c (a := (ws.getD i default).2))) ?_
   intro _
   refine Kq rfl (rd_geq rfl rfl rfl) (WL.nt ?_)
   refine WC.cond rfl (fun hc34 => ?_) (fun hc34 => ?_)
   ·(try simp only [sB] at hc34)
    have hn : ¬ inR s.core ws := fun h => by
     have h1 := h i hil; rw [inV] at h1; simp only [SA.core] at h1
     (rw [if_neg hv0] at h1; rw [cmpN_ok hoz hov] at hc34; have := (cmpI_ge _ _).1 hc34; omega)
    refine WC.sr (Ka rfl (WL.nt (WC.ret (WX.block_ret (WX.then_ret (WX.then_ret (WX.block_ret (WX.then_ret ?_))))))))
    exact WX.retN rfl (.tmp rfl .nil) fun w' hS => ⟨by rw [decide_eq_false hn]; rfl, hS.below⟩
   ·(try simp only [sB] at hc34)
    have hlt : inV (ordS s.gs) (s.vs.getD i default) (ws.getD i default) := by
     rw [inV]; (rw [if_neg hv0]; rw [cmpN_ok hoz hov] at hc34; exact (cmpI_neg _ _).1 (by omega))
    refine WC.skip (WX.block_normal (WX.then_normal (WC.region ?_)))
    (refine Kq rfl (rd_add64nl rfl rfl rfl ?_) ?_; (focus (omega)))
    refine Km rfl (WL.nil ?_)
    refine WX.loopP (i + 1) (by (try dsimp only); omega) (sub_cons rfl (sub_cons rfl (sub_cons rfl (sub_cons rfl (sub_nil _))))) (by refine (sub_cons ?_ (sub_nil _)) <;> (rfl)) ?_ (by (exact st_sub))
    (try dsimp only)
    exact ⟨hil, fun j hj => by rcases Nat.lt_succ_iff_lt_or_eq.1 hj with h | h; exact hok j h; subst h; exact hlt⟩
 ·(try simp only [sB] at hc12)
  refine WC.exit (WX.then_exit (WX.then_exit (WX.block_exit ?_)))
  obtain rfl : i = s.vs.length := by omega
  refine WX.then_normal (WC.sr (Ka rfl (WL.nt (WC.ret ?_))))
  exact WX.retN rfl (.tmp rfl .nil) fun w' hS => ⟨by rw [decide_eq_true (show inR s.core ws from fun j hj => hok j hj)]; rfl, hS.below⟩
end Go.Proofs.YtnimhldbblfgbaaGreat
namespace Go.Proofs.YtnimhldbblfgbaaGreat
set_option linter.unusedSimpArgs false
set_option linter.unusedVariables false
set_option maxRecDepth 20000
set_option maxHeartbeats 600000
open Go.RowKit
instance (priority := low) SubL.app {α : Type} (x y z : List α) [h : SubL x z] : SubL x (y ++ z) := ⟨h.h.trans (List.sublist_append_right _ _)⟩
theorem icfmd_c {l : List Bs} {a : Option Addr} {c : Nat} {w : World} {ok : Nat → Prop} (hF1 : (Fact.sl a (strs l)).holds ok w) (hl : l.length ≤ 100000) :
  Calls Tryz.prog 43 #[.slice a l.length c] w fun e w' => e = .returned (.int .i64 (if ∀ x ∈ l, okN x then 0 else 3)) ∧ Below w.heap.size w w' := by
 refine enter (S := St (fun _ => True) w [] ([Fact.sl a (strs l)])) (L := [(0, .slice a l.length c)]) Tryz.func43 rfl Tryz.ntmps43 rfl (args_cons rfl (args_nil _)) (St.start (fun _ _ => trivial) (facts_cons (fact_any hF1) facts_nil)) ?_
 refine WC.sr (Ka rfl (WL.nt (WC.seq (WC.sr (Km rfl (Kq rfl (rd_len rfl rfl Tryz.underlying60) (Km rfl (WL.nt (WC.block ?_)))))))))
 refine WC.loopP (σ := Nat) [(5, _), (6, _)] (fun gq => [(7, .int .i64 (gq : Int))]) (fun gq => gq ≤ l.length ∧ ∀ x ∈ l.take gq, okN x) (fun gq => l.length - gq) (0) (sub_cons rfl (sub_cons rfl (sub_nil _))) (sub_cons rfl (sub_nil _)) (by (try dsimp only); exact ⟨Nat.zero_le _, by simp⟩) ?_
 rintro i hinv1; (try dsimp only at hinv1 ⊢)
 obtain ⟨hi, hok⟩ := hinv1
 refine WC.sr (Kq rfl (rd_lss rfl rfl rfl) (WL.nt (WC.seq ?_)))
 refine WC.cond rfl (fun hc8 => ?_) (fun hc8 => ?_)
 ·(try simp only [sB] at hc8)
  have hil : i < l.length := by omega
  refine WC.skip (WX.then_normal (WC.seq (WC.block (WC.sr ?_))))
  (refine Kq rfl (iaf rfl rfl rfl Tryz.underlying60 (by kernel_rfl : _ = some 1) ?_ ?_ (by (try simp only [sN, Int.reduceToNat, Nat.reduceAdd, Nat.reduceMul, Nat.reduceSub]); rfl)) ?_; (focus (omega)); (focus ((rw [List.length_map]; omega))))
  (refine Kq rfl (ldm rfl rfl Tryz.underlying22 rfl ?_) ?_; (focus (assumption)))
  refine Ka rfl (WL.nt (WC.sr (Km rfl ?_)))
  refine Kh rfl (og_call rfl rfl (by kernel_rfl) (keep_val fun w hS => valid_c (a := l.getD i default))) ?_
  intro _
  refine Kq rfl (rd_not rfl rfl) (WL.nt ?_)
  refine WC.cond rfl (fun hc13 => ?_) (fun hc13 => ?_)
  ·(try simp only [sB] at hc13)
   refine WC.sr (Ka rfl (WL.nt (WC.ret (WX.block_ret (WX.then_ret (WX.then_ret (WX.block_ret (WX.then_ret ?_))))))))
   exact WX.retN rfl (.tmp rfl .nil) fun w' hS => ⟨by rw [if_neg (fun h => absurd (h _ (getD_mem _ _ hil)) (by simpa using hc13))]; rfl, hS.below⟩
  ·(try simp only [sB] at hc13)
   refine WC.skip (WX.block_normal (WX.then_normal (WC.region ?_)))
   (refine Kq rfl (rd_add64nl rfl rfl rfl ?_) ?_; (focus (omega)))
   refine Km rfl (WL.nil ?_)
   refine WX.loopP (i + 1) (by (try dsimp only); omega) (sub_cons rfl (sub_cons rfl (sub_nil _))) (by refine (sub_cons ?_ (sub_nil _)) <;> (rfl)) ?_ (by (exact fun _ h => h))
   (try dsimp only)
   exact ⟨hil, all_take hil hok (by simpa using hc13)⟩
 ·(try simp only [sB] at hc8)
  refine WC.exit (WX.then_exit (WX.then_exit (WX.block_exit ?_)))
  obtain rfl : i = l.length := by omega
  rw [List.take_length] at hok
  refine WX.then_normal (WC.sr (Ka rfl (WL.nt (WC.ret ?_))))
  exact WX.retN rfl (.tmp rfl .nil) fun w' hS => ⟨by rw [if_pos hok]; rfl, hS.below⟩
theorem icnum_c {k : PK} {w : World} :
  Calls Tryz.prog 44 #[pkV k] w fun e w' => ∃ g : Rs, e = .returned (g.val 4) ∧ g.cap = 4 + g.sp.length ∧ St (fun _ => True) w [g.ent (strs [k.1.1, k.1.2, k.2.1, k.2.2]) 22] [] w' := by
 refine enter (S := St (fun _ => True) w [] ([])) (L := [(0, pkV k)]) Tryz.func44 rfl Tryz.ntmps44 rfl (args_cons rfl (args_nil _)) (St.start (fun _ _ => trivial) facts_nil) ?_
 refine WC.sr ?_
 refine Kh rfl (og_box rfl rfl (by (exact cells_agg _))) ?_
 intro b1
 refine Ka rfl (WL.nt (WC.sr ?_))
 refine Kq rfl (rd_fa (q := 0) rfl rfl Tryz.underlying26 rfl (by kernel_rfl) rfl) ?_
 refine Kq rfl (rd_fa (q := 0) rfl rfl Tryz.underlying24 rfl (by kernel_rfl) rfl) ?_
 refine Kq rfl (ld rfl rfl .tc Tryz.underlying22 rfl (by rfl)) ?_
 refine Kq rfl (rd_fa (q := 0) rfl rfl Tryz.underlying26 rfl (by kernel_rfl) rfl) ?_
 refine Kq rfl (rd_fa (q := 1) rfl rfl Tryz.underlying24 rfl (by kernel_rfl) rfl) ?_
 refine Kq rfl (ld rfl rfl .tc Tryz.underlying22 rfl (by rfl)) ?_
 refine Kq rfl (rd_fa (q := 2) rfl rfl Tryz.underlying26 rfl (by kernel_rfl) rfl) ?_
 refine Kq rfl (ld rfl rfl .tc Tryz.underlying22 rfl (by rfl)) ?_
 refine Kq rfl (rd_fa (q := 3) rfl rfl Tryz.underlying26 rfl (by kernel_rfl) rfl) ?_
 refine Kq rfl (ld rfl rfl .tc Tryz.underlying22 rfl (by rfl)) ?_
 refine Kh rfl (og_bs1 rfl rfl Tryz.underlying60 (by kernel_rfl : _ = some (some (.string (S [])), 1, 16)) rfl (by simp only [List.map]; rfl) rfl rfl ?_ (by decide)) ?_
 ·simp [Value.cells]
 intro b13
 refine Ka rfl (WL.nt (WC.ret ?_))
 exact WX.retN rfl (.tmp rfl .nil) fun w' hS => ⟨⟨some b13, 4, []⟩, rfl, rfl, hS.sub (List.Sublist.cons_cons _ (List.nil_sublist _)) (fun _ h => h)⟩
theorem icels_c {k : PK} {l : List Bs} {a : Option Addr} {c : Nat} {w : World} {ok : Nat → Prop} (hF1 : (Fact.sl a (strs l)).holds ok w) (hl : l.length ≤ 100000) (hg : chkG k.1 = 0) (hm8 : k.1.1.length ≤ 8) :
  Calls Tryz.prog 47 #[pkV k, .slice a l.length c] w fun e w' => e = .returned (.int .i64 (if ∀ x ∈ l, elG k.1 x then 0 else 13)) ∧ Below w.heap.size w w' := by
 refine enter (S := St (fun _ => True) w [] ([Fact.sl a (strs l)])) (L := [(0, pkV k), (1, .slice a l.length c)]) Tryz.func47 rfl Tryz.ntmps47 rfl (args_cons rfl (args_cons rfl (args_nil _))) (St.start (fun _ _ => trivial) (facts_cons (fact_any hF1) facts_nil)) ?_
 refine WC.sr ?_
 refine Kh rfl (og_box rfl rfl (by (exact cells_agg _))) ?_
 intro b2
 refine Ka rfl (WL.nt (WC.seq (WC.sr (Km rfl (Kq rfl (rd_len rfl rfl Tryz.underlying60) (Km rfl (WL.nt (WC.block ?_))))))))
 refine WC.loopP (σ := Nat) [(2, _), (7, _), (8, _)] (fun gq => [(9, .int .i64 (gq : Int))]) (fun gq => gq ≤ l.length ∧ ∀ x ∈ l.take gq, elG k.1 x) (fun gq => l.length - gq) (0) (sub_cons rfl (sub_cons rfl (sub_cons rfl (sub_nil _)))) (sub_cons rfl (sub_nil _)) (by (try dsimp only); exact ⟨Nat.zero_le _, by simp⟩) ?_
 rintro i hinv1; (try dsimp only at hinv1 ⊢)
 obtain ⟨hi, hok⟩ := hinv1
 refine WC.sr (Kq rfl (rd_lss rfl rfl rfl) (WL.nt (WC.seq ?_)))
 refine WC.cond rfl (fun hc10 => ?_) (fun hc10 => ?_)
 ·(try simp only [sB] at hc10)
  have hil : i < l.length := by omega
  refine WC.skip (WX.then_normal (WC.seq (WC.block (WC.sr ?_))))
  (refine Kq rfl (iaf rfl rfl rfl Tryz.underlying60 (by kernel_rfl : _ = some 1) ?_ ?_ (by (try simp only [sN, Int.reduceToNat, Nat.reduceAdd, Nat.reduceMul, Nat.reduceSub]); rfl)) ?_; (focus (omega)); (focus ((rw [List.length_map]; omega))))
  (refine Kq rfl (ldm rfl rfl Tryz.underlying22 rfl ?_) ?_; (focus (assumption)))
  refine Ka rfl (WL.nt (WC.sr ?_))
  refine Kq rfl (rd_fa (q := 0) rfl rfl Tryz.underlying26 rfl (by kernel_rfl) rfl) ?_
  refine Kq rfl (ldp rfl rfl .tc Tryz.underlying24 rfl (by kernel_rfl : _ = some 2) (by rfl) (by rfl)) ?_
  refine Km rfl ?_
  refine Kh rfl (og_call rfl rfl (by kernel_rfl) (keep_val fun w hS => pwhas_c (g := k.1) (x := l.getD i default) (by assumption))) ?_
  intro _
  refine WL.set 16 rfl (v' := .bool (decide (elG k.1 (l.getD i default)))) (congrArg Value.bool (by simp [hg])) ?_
  refine Kq rfl (rd_not rfl rfl) (WL.nt ?_)
  refine WC.cond rfl (fun hc17 => ?_) (fun hc17 => ?_)
  ·(try simp only [sB] at hc17)
   refine WC.sr (Ka rfl (WL.nt (WC.ret (WX.block_ret (WX.then_ret (WX.then_ret (WX.block_ret (WX.then_ret ?_))))))))
   exact WX.retN rfl (.tmp rfl .nil) fun w' hS => ⟨by rw [if_neg (fun h => absurd (h _ (getD_mem _ _ hil)) (by simpa using hc17))]; rfl, hS.below⟩
  ·(try simp only [sB] at hc17)
   refine WC.skip (WX.block_normal (WX.then_normal (WC.region ?_)))
   (refine Kq rfl (rd_add64nl rfl rfl rfl ?_) ?_; (focus (omega)))
   refine Km rfl (WL.nil ?_)
   refine WX.loopP (i + 1) (by (try dsimp only); omega) (sub_cons rfl (sub_cons rfl (sub_cons rfl (sub_nil _)))) (by refine (sub_cons ?_ (sub_nil _)) <;> (rfl)) ?_ (by (exact fun _ h => h))
   (try dsimp only)
   exact ⟨hil, all_take hil hok (by simpa using hc17)⟩
 ·(try simp only [sB] at hc10)
  refine WC.exit (WX.then_exit (WX.then_exit (WX.block_exit ?_)))
  obtain rfl : i = l.length := by omega
  rw [List.take_length] at hok
  refine WX.then_normal (WC.sr (Ka rfl (WL.nt (WC.ret ?_))))
  exact WX.retN rfl (.tmp rfl .nil) fun w' hS => ⟨by rw [if_pos hok]; rfl, hS.below⟩
theorem icready_c {v r : Bs} {w : World} :
  Calls Tryz.prog 49 #[.string (S v), .string (S r)] w fun e w' => e = .returned (.int .i64 (bndE v r)) ∧ Below w.heap.size w w' := by
 refine enter (S := St (fun _ => True) w [] ([])) (L := [(0, .string (S v)), (1, .string (S r))]) Tryz.func49 rfl Tryz.ntmps49 rfl (args_cons rfl (args_cons rfl (args_nil _))) (St.start (fun _ _ => trivial) facts_nil) ?_
 refine WC.sr (Ka rfl (WL.nt (WC.seq ?_)))
 refine WC.joinP (σ := Unit) [] (fun gq => [(10, .bool (decide (v = [] ∨ r = [])))]) (fun gq => True) (sub_nil _) ?_ ?_
 ·skip
  refine WC.region (Km rfl (Kq rfl (rd_seq rfl rfl rfl) (Km rfl ?_)))
  refine WL.bool 7 rfl (fun hg7 => ?_) (fun hg7 => ?_)
  ·(try simp only [sB] at hg7)
   refine Kt rfl (Kt rfl (Kq rfl (rd_pickt rfl rfl rfl) (WL.nil ?_)))
   refine WX.joinP (()) (sub_nil _) (by refine (sub_cons ?_ (sub_nil _)) <;> ((refine slot_b rfl ?_; (try dsimp only); (simp [*]; done)))) ?_ (by (exact fun _ h => h))
   (try dsimp only)
   done
  ·(try simp only [sB] at hg7)
   refine Km rfl (Kq rfl (rd_seq rfl rfl rfl) (Kq rfl (rd_pickf rfl rfl rfl) (WL.nil ?_)))
   refine WX.joinP (()) (sub_nil _) (by refine (sub_cons ?_ (sub_nil _)) <;> ((refine slot_b rfl ?_; (try dsimp only); (simp [*]; done)))) ?_ (by (exact fun _ h => h))
   (try dsimp only)
   done
 ·rintro _ hmeet; (try dsimp only at hmeet ⊢)
  refine WC.cond rfl (fun hc10 => ?_) (fun hc10 => ?_)
  ·(try simp only [sB] at hc10)
   refine WC.sr (Ka rfl (WL.nt (WC.ret (WX.then_ret ?_))))
   exact WX.retN rfl (.tmp rfl .nil) fun w' hS => ⟨by rw [bndE, if_pos hc10]; rfl, hS.below⟩
  ·(try simp only [sB] at hc10)
   refine WC.skip (WX.then_normal (WC.sr (Ka rfl (WL.nt (WC.ret ?_)))))
   exact WX.retN rfl (.tmp rfl .nil) fun w' hS => ⟨by rw [bndE, if_neg hc10]; rfl, hS.below⟩
theorem icvars_c {x y z : Bs} {n : Nat} {w : World} (hn : n ≤ 3) :
  Calls Tryz.prog 50 #[.agg #[.string (S x), .string (S y), .string (S z)], .int .i64 n] w fun e w' => ∃ g : Rs, e = .returned (g.val n) ∧ g.cap = n + g.sp.length ∧ St (fun _ => True) w [g.ent (vrs ([x, y, z].take n)) 91] [] w' := by
 refine enter (S := St (fun _ => True) w [] ([])) (L := [(0, .agg #[.string (S x), .string (S y), .string (S z)]), (1, .int .i64 n)]) Tryz.func50 rfl Tryz.ntmps50 rfl (args_cons rfl (args_cons rfl (args_nil _))) (St.start (fun _ _ => trivial) facts_nil) ?_
 refine WC.sr ?_
 refine Kh rfl (og_box rfl rfl (by (exact cells_agg _))) ?_
 intro b2
 refine Ka rfl (WL.nt (WC.sr (Ka rfl (WL.nt (WC.seq (WC.sr ?_))))))
 refine WL.st (fun w h => h.freeze (off := 0) (xs := strs [x, y, z]) (fun i hi => by rw [Nat.zero_add]; rfl)) ?_
 refine Km rfl ?_
 refine Kq rfl (rd_slat rfl rfl rfl Tryz.underlying99 (by kernel_rfl : _ = some 1) ?_ (by (try simp only [sN, Int.reduceToNat, Nat.reduceAdd, Nat.reduceMul, Nat.reduceSub]); rfl)) ?_
 ·omega
 refine Kq rfl (rd_len rfl rfl Tryz.underlying60) (Km rfl (WL.nt (WC.block ?_)))
 refine WC.loopO (σ := Nat × (Option Nat) × Nat × (List Value)) [(9, _), (10, _)] (fun gq => [(5, .slice (gq.2.1.map fun b => ⟨b, 0, none⟩) gq.1 gq.2.2.1), (11, .int .i64 (gq.1 : Int))]) (fun gq => gq.1 ≤ n ∧ gq.2.2.1 = gq.1 + gq.2.2.2.length) (fun gq => n - gq.1) (fun gq => [⟨gq.2.1, vrs ([x, y, z].take gq.1) ++ gq.2.2.2, 91⟩]) (fun gq => [Fact.sl (some ⟨b2, 0, none⟩) (strs [x, y, z])]) (0, none, 0, []) (sub_cons rfl (sub_cons rfl (sub_nil _))) (sub_cons rfl (sub_cons rfl (sub_nil _))) (by (try dsimp only); exact ⟨Nat.zero_le _, rfl⟩) (by exact fun w h => h.nil _) ?_
 rintro ⟨i, o, cp, sp⟩ hinv1; (try dsimp only at hinv1 ⊢)
 obtain ⟨hi, hcp⟩ := hinv1
 refine WC.sr (Kq rfl (rd_lss rfl rfl rfl) (WL.nt (WC.seq ?_)))
 refine WC.cond rfl (fun hc12 => ?_) (fun hc12 => ?_)
 ·(try simp only [sB] at hc12)
  have hil : i < n := by omega
  have hi3 : i < [x, y, z].length := by show i < 3; omega
  have hls : (vrs ([x, y, z].take i)).length = i := by rw [flatMap_len _ _ 1 (fun _ => rfl), List.length_take]; simp; omega
  refine WC.skip (WX.then_normal (WC.seq (WC.block (WC.sr ?_))))
  (refine Kq rfl (rd_ia rfl rfl rfl Tryz.underlying60 (by kernel_rfl : _ = some 1) ?_ (by (try simp only [sN, Int.reduceToNat, Nat.reduceAdd, Nat.reduceMul, Nat.reduceSub]); rfl)) ?_; (focus (omega)))
  refine Kq rfl (ldf (m := i) rfl rfl .tc Tryz.underlying22 rfl (Nat.zero_add _).symm (map_getD [x, y, z] (fun s : Bs => Value.string (S s)) i hi3)) ?_
  refine Ka rfl (WL.nt (WC.region (Km rfl (Km rfl ?_))))
  refine Kq rfl (rd_bld [[.string (S [])]] rfl rfl (by simp only [bld, fldv, Nat.beq, Value.cells, cond_true, cond_false, List.nil_append, List.cons_append, List.append_nil]; rfl) (fun w => by kernel_rfl)) ?_
  refine Kh rfl (og_bsN rfl rfl Tryz.underlying32 (by kernel_rfl : _ = some (some (.agg #[.string (S [])]), 1, 16)) (by kernel_rfl) (by decide) rfl rfl (by (simp [Value.cells]; done)) (by (exact cells_one _)) (by decide)) ?_
  intro b18
  (refine Kh rfl (appgN rfl Tryz.underlying32 (by kernel_rfl : _ = some (some (.agg #[.string (S [])]), 1, 16)) (by kernel_rfl) (by decide) .tc rfl rfl (fun w hS => by (exact hS.os)) (by rfl) ?_ ?_) ?_; (focus (refine ⟨?_, ?_, ?_, ?_⟩ <;> omega)); (focus ((simp [Value.oneCell']; done))))
  rintro ⟨o19, c19, s19⟩
  refine WL.pu ?_
  intro hg19; (try dsimp only at hg19 ⊢)
  refine Ka rfl (WL.nil (WX.block_normal (WX.then_normal (WC.region ?_))))
  (refine Kq rfl (rd_add64nl rfl rfl rfl ?_) ?_; (focus (omega)))
  refine Km rfl (WL.nil ?_)
  refine WX.loopO ((i + 1, o19, c19, s19)) (by (try dsimp only); omega) (sub_cons rfl (sub_cons rfl (sub_nil _))) (by refine (sub_cons ?_ (sub_cons ?_ (sub_nil _))) <;> (rfl)) ?_ (by exact fun w h => by rw [take_succ_getD hi3, show vrs ([x, y, z].take i ++ [[x, y, z].getD i default]) = vrs ([x, y, z].take i) ++ vrC ([x, y, z].getD i default) by simp]; exact st_sub _ h)
  (try dsimp only)
  exact ⟨hil, by omega⟩
 ·(try simp only [sB] at hc12)
  refine WC.exit (WX.then_exit (WX.then_exit (WX.block_exit ?_)))
  obtain rfl : i = n := by omega
  refine WX.then_normal (WC.sr (Km rfl (Ka rfl (WL.nt (WC.ret ?_)))))
  exact WX.retN rfl (.tmp rfl .nil) fun w' hS => ⟨⟨o, cp, sp⟩, rfl, hcp, hS.sub (List.Sublist.refl _) (fun _ h => by cases h)⟩
theorem iceq_c {gr : Int} {t : Bs} {l : List (Bs × Int)} {a : Option Addr} {c : Nat} {w : World} {ok : Nat → Prop} (hF1 : (Fact.sl a (l.flatMap fun p => [.string (S p.1), .int .i64 p.2])).holds ok w) (hl : l.length ≤ 1000) :
  Calls Tryz.prog 51 #[.int .i64 gr, .string (S t), .slice a l.length c] w fun e w' => ∃ gx : QA, e = .returned (.agg (qaC gx).toArray) ∧ (gx.1 = (gr, t, l.map fun p => trm p.1 p.2)) ∧ Below w.heap.size w w' ∧ ∀ x ∈ ([qaF gx] : List Fact), x.holds (fun b => w.heap.size ≤ b) w' := by
 refine enter (S := St (fun _ => True) w [] ([Fact.sl a (l.flatMap fun p => [.string (S p.1), .int .i64 p.2])])) (L := [(0, .int .i64 gr), (1, .string (S t)), (2, .slice a l.length c)]) Tryz.func51 rfl Tryz.ntmps51 rfl (args_cons rfl (args_cons rfl (args_cons rfl (args_nil _)))) (St.start (fun _ _ => trivial) (facts_cons (fact_any hF1) facts_nil)) ?_
 refine WC.sr ?_
 refine Kh rfl (og_alloc rfl (v := (.agg #[.int .i64 0, .string (S []), .slice none 0 0])) (cs := [.int .i64 0, .string (S []), .slice none 0 0]) (by kernel_rfl) rfl) ?_
 intro b6
 refine WL.nt (WC.sr (Km rfl (Km rfl ?_)))
 refine Kq rfl (rd_bld [[.int .i64 0], [.string (S [])], [.slice none 0 0]] rfl rfl (by simp only [bld, fldv, Nat.beq, Value.cells, cond_true, cond_false, List.nil_append, List.cons_append, List.append_nil]; rfl) (fun w => by kernel_rfl)) ?_
 refine Kh rfl (og_alloc rfl (v := (.agg #[.int .i64 0, .string (S []), .slice none 0 0])) (cs := [.int .i64 0, .string (S []), .slice none 0 0]) (by kernel_rfl) rfl) ?_
 intro b7
 refine WL.g0 rfl rfl (sta rfl rfl rfl .tc ?_ ?_ ?_) ?_
 ·kernel_rfl
 ·simp [Value.oneCell']
 ·rfl
 intro _
 refine WL.nt (WC.seq (WC.sr (Km rfl (Kq rfl (rd_len rfl rfl Tryz.underlying136) (Km rfl (WL.nt (WC.block ?_)))))))
 refine WC.loopO (σ := Nat × (Option Nat) × Nat × (List Value)) [(6, _), (7, _), (13, _), (14, _)] (fun gq => [(15, .int .i64 (gq.1 : Int))]) (fun gq => gq.1 ≤ l.length ∧ gq.2.2.1 * 4 = gq.1 * 4 + gq.2.2.2.length) (fun gq => l.length - gq.1) (fun gq => [⟨gq.2.1, tms ((l.take gq.1).map fun p => trm p.1 p.2) ++ gq.2.2.2, 110⟩, ⟨some b7, [.int .i64 gr, .string (S t), .slice (gq.2.1.map fun b => ⟨b, 0, none⟩) gq.1 gq.2.2.1], 102⟩, ⟨some b6, [.int .i64 0, .string (S []), .slice none 0 0], 102⟩]) (fun gq => [Fact.sl a (l.flatMap fun p => [.string (S p.1), .int .i64 p.2])]) (0, none, 0, []) (sub_cons rfl (sub_cons rfl (sub_cons rfl (sub_cons rfl (sub_nil _))))) (sub_cons rfl (sub_nil _)) (by (try dsimp only); exact ⟨Nat.zero_le _, rfl⟩) (by exact fun w h => h.nil _) ?_
 rintro ⟨i, o, cp, sp⟩ hinv1; (try dsimp only at hinv1 ⊢)
 obtain ⟨hi, hcp⟩ := hinv1
 refine WC.sr (Kq rfl (rd_lss rfl rfl rfl) (WL.nt (WC.seq ?_)))
 refine WC.cond rfl (fun hc16 => ?_) (fun hc16 => ?_)
 ·(try simp only [sB] at hc16)
  have hil : i < l.length := by omega
  have hln : (tms ((l.take i).map fun p => trm p.1 p.2)).length = i * 4 := by rw [flatMap_len _ _ 4 (fun _ => rfl), List.length_map, List.length_take]; omega
  refine WC.skip (WX.then_normal (WC.seq (WC.block (WC.sr ?_))))
  (refine Kq rfl (iaf rfl rfl rfl Tryz.underlying136 (by kernel_rfl : _ = some 2) ?_ ?_ (by (try simp only [sN, Int.reduceToNat, Nat.reduceAdd, Nat.reduceMul, Nat.reduceSub]); rfl)) ?_; (focus (omega)); (focus ((rw [flatMap_len _ _ 2 (fun _ => rfl)]; omega))))
  (refine Kq rfl (ldma _ rfl rfl Tryz.underlying105 rfl (by kernel_rfl : _ = some 2) (fun _ => rfl) (by decide) rfl ?_) ?_; (focus (assumption)))
  refine Kh rfl (og_alloc rfl (v := (.agg #[.string (S []), .int .i64 0])) (cs := [.string (S []), .int .i64 0]) (by kernel_rfl) rfl) ?_
  intro b9
  refine WL.g0 rfl rfl (sta rfl rfl rfl .tc ?_ ?_ ?_) ?_
  ·kernel_rfl
  ·simp [Value.oneCell']
  ·rfl
  intro _
  refine WL.nt ?_
  refine WC.free (K := [⟨some b9, [.string (S (l.getD i default).1), .int .i64 (l.getD i default).2], 105⟩, ⟨some b7, [.int .i64 gr, .string (S t), .slice (o.map fun b => ⟨b, 0, none⟩) i cp], 102⟩]) (fs0 := []) [6, 0, 1, 2, 3, 4, 5, 7, 8, 9, 10] [11] [0, 0, 0, 0, 0, 0, 1, 0, 3, 1, 0, 2] (by kernel_rfl) (by kernel_rfl) rfl ?_
  refine WJ.gv rfl rfl rfl rfl rfl (fun ext => og_call rfl rfl (by kernel_rfl) (keep_val fun w hS => zof_c (n := 1) (by omega) (by omega))) ?_
  refine Kj rfl (rd_fa (q := 2) rfl rfl Tryz.underlying102 rfl (by kernel_rfl) rfl) ?_
  refine Kj rfl (ld rfl rfl .tc Tryz.underlying100 rfl (by rfl)) ?_
  refine Kj rfl (rd_fa (q := 0) rfl rfl Tryz.underlying105 rfl (by kernel_rfl) rfl) ?_
  refine Kj rfl (ld rfl rfl .tc Tryz.underlying22 rfl (by rfl)) ?_
  refine Kj rfl (rd_fa (q := 1) rfl rfl Tryz.underlying105 rfl (by kernel_rfl) rfl) ?_
  refine Kj rfl (ld rfl rfl .tc Tryz.underlying3 rfl (by rfl)) ?_
  refine Kj rfl (rd_bld [[.string (S [])], [.int .i64 0], [.bool false, .string (S [])]] rfl rfl (by simp only [bld, fldv, Nat.beq, Value.cells, cond_true, cond_false, List.nil_append, List.cons_append, List.append_nil]; rfl) (fun w => by kernel_rfl)) ?_
  refine WJ.f rfl rfl rfl rfl rfl (fr_bsN rfl rfl Tryz.underlying100 (by kernel_rfl : _ = some (some (.agg #[.string (S []), .int .i64 0, .bool false, .string (S [])]), 4, 48)) (by kernel_rfl) (by decide) rfl rfl (by (simp [Value.cells]; done)) (by (exact cells_one _)) (by decide)) ?_
  intro b27
  (refine WJ.g rfl rfl rfl rfl rfl (appgNJ rfl Tryz.underlying100 (by kernel_rfl : _ = some (some (.agg #[.string (S []), .int .i64 0, .bool false, .string (S [])]), 4, 48)) (by kernel_rfl) (by decide) .tc rfl rfl (fun ext w hS => by (exact hS.os)) (by rfl) ?_ ?_) ?_; (focus (refine ⟨?_, ?_, ?_, ?_⟩ <;> first | exact hln | omega)); (focus ((simp [Value.oneCell']; done))))
  rintro ⟨o28, c28, s28⟩ hg28; (try dsimp only at hg28 ⊢)
  refine Kj rfl (rd_fa (q := 2) rfl rfl Tryz.underlying102 rfl (by kernel_rfl) rfl) ?_
  refine WJ.nil ?_
  refine WL.g0 rfl rfl (st rfl rfl rfl .tc (by kernel_rfl) rfl ?_ (by (simp only [List.set_cons_zero, List.set_cons_succ]; rfl))) ?_
  ·(simp; done)
  intro _
  refine WL.nil (WX.block_normal (WX.then_normal (WC.region ?_)))
  (refine Kq rfl (rd_add64nl rfl rfl rfl ?_) ?_; (focus (omega)))
  refine Km rfl (WL.nil ?_)
  refine WX.loopO ((i + 1, o28, c28, s28)) (by (try dsimp only); omega) (sub_cons rfl (sub_cons rfl (sub_cons rfl (sub_cons rfl (sub_nil _))))) (by refine (sub_cons ?_ (sub_nil _)) <;> (rfl)) ?_ (by exact fun w h => by rw [take_succ_getD hil, List.map_append, show tms ((l.take i).map (fun p => trm p.1 p.2) ++ [l.getD i default].map (fun p => trm p.1 p.2)) = tms ((l.take i).map fun p => trm p.1 p.2) ++ tmC (trm (l.getD i default).1 (l.getD i default).2) by simp]; exact st_sub _ h)
  (try dsimp only)
  exact ⟨hil, by omega⟩
 ·(try simp only [sB] at hc16)
  refine WC.exit (WX.then_exit (WX.then_exit (WX.block_exit ?_)))
  obtain rfl : i = l.length := by omega
  rw [List.take_length]
  refine WX.then_normal (WC.sr ?_)
  refine Kq rfl (lda rfl rfl .tc Tryz.underlying102 rfl ?_) ?_
  ·kernel_rfl
  refine WL.g0 rfl rfl (sta rfl rfl rfl .tc ?_ ?_ ?_) ?_
  ·kernel_rfl
  ·simp [Value.oneCell']
  ·rfl
  intro _
  refine WL.nt (WC.ret ?_)
  exact WX.retN rfl (.agg rfl .tc Tryz.underlying102 rfl (by kernel_rfl) .nil) fun w' hS => ⟨((gr, t, l.map fun p => trm p.1 p.2), o.map (fun b => ⟨b, 0, none⟩), cp), by simp only [qaC, List.length_map]; rfl, rfl, hS.below, facts_cons (f := Fact.sl (o.map fun b => ⟨b, 0, none⟩) (tms (l.map fun p : Bs × Int => trm p.1 p.2))) hS.ocf facts_nil⟩
abbrev fnV (p : Nat × Array Value) : Value := .func (.func p.1) #[] p.2
theorem fncallN (cs : Array Value) : (#[] : Array Value) ++ ([] : List Value).toArray ++ cs = cs := by simp
theorem errL_get {rs : List Int} {i : Nat} (hi : i < rs.length) (h0 : ∀ j, j < i → rs.getD j default = 0) (h1 : rs.getD i default ≠ 0) : errL rs = rs.getD i default := by
 have := errL_at (l := rs) (f := id) hi (fun x hx => by
  obtain ⟨j, hj, rfl⟩ := List.mem_take_iff_getElem.1 hx
  have := h0 j (by omega); rw [List.getD_eq_getElem?_getD, List.getElem?_eq_getElem (by omega)] at this; exact this) h1
 simpa using this
theorem errL_all {rs : List Int} (h0 : ∀ j, j < rs.length → rs.getD j default = 0) : errL rs = 0 := by
 refine errL_zero.2 fun x hx => ?_
 obtain ⟨j, hj, rfl⟩ := List.mem_iff_getElem.1 hx
 have := h0 j hj; rw [List.getD_eq_getElem?_getD, List.getElem?_eq_getElem hj] at this; exact this
theorem first_c {l : List (Nat × Array Value)} {rs : List Int} {a : Option Addr} {c : Nat} {ow : Nat → List Ent} {ok : Nat → Prop} {w0 : World} {fs : List Fact} {w : World} (hS0 : St ok w0 (ow 0) (Fact.sl a (l.map fnV) :: fs) w) (hl : l.length ≤ 1000) (hrs : rs.length = l.length) (hgo : ∀ i, i < l.length → goes Tryz.prog (l.getD i default).1 = true) (hfn : ∀ i, i < l.length → (∀ j, j < i → rs.getD j default = 0) → ∀ w', St ok w0 (ow i) (Fact.sl a (l.map fnV) :: fs) w' → Calls Tryz.prog (l.getD i default).1 (l.getD i default).2 w' fun e w2 => e = .returned (.int .i64 (rs.getD i default)) ∧ St ok w0 (ow (i + 1)) (Fact.sl a (l.map fnV) :: fs) w2) :
  Calls Tryz.prog 41 #[.slice a l.length c] w fun e w' => e = .returned (.int .i64 (errL rs)) ∧ ∃ n, (errL rs = 0 → n = l.length) ∧ St ok w0 (ow n) (Fact.sl a (l.map fnV) :: fs) w' := by
 refine enter (S := St ok w0 (ow 0) (Fact.sl a (l.map fnV) :: fs)) (L := [(0, .slice a l.length c)]) Tryz.func41 rfl Tryz.ntmps41 rfl (args_cons rfl (args_nil _)) hS0 ?_
 refine WC.sr (Ka rfl (WL.nt (WC.seq (WC.sr (Km rfl (Kq rfl (rd_len rfl rfl Tryz.underlying135) (Km rfl (WL.nt (WC.block ?_)))))))))
 refine WC.loopO (σ := Nat) [(6, _), (7, _)] (fun gq => [(8, .int .i64 (gq : Int))]) (fun gq => gq ≤ l.length ∧ ∀ j, j < gq → rs.getD j default = 0) (fun gq => l.length - gq) (fun gq => (ow gq)) (fun gq => (Fact.sl a (l.map fnV) :: fs)) (0) (sub_cons rfl (sub_cons rfl (sub_nil _))) (sub_cons rfl (sub_nil _)) (by (try dsimp only); exact ⟨Nat.zero_le _, fun _ h => absurd h (Nat.not_lt_zero _)⟩) (by exact fun w h => h) ?_
 rintro i hinv1; (try dsimp only at hinv1 ⊢)
 obtain ⟨hi, hok⟩ := hinv1
 refine WC.sr (Kq rfl (rd_lss rfl rfl rfl) (WL.nt (WC.seq ?_)))
 refine WC.cond rfl (fun hc9 => ?_) (fun hc9 => ?_)
 ·(try simp only [sB] at hc9)
  have hil : i < l.length := by omega
  refine WC.skip (WX.then_normal (WC.seq (WC.block (WC.sr ?_))))
  (refine Kq rfl (iaf rfl rfl rfl Tryz.underlying135 (by kernel_rfl : _ = some 1) ?_ ?_ (by (try simp only [sN, Int.reduceToNat, Nat.reduceAdd, Nat.reduceMul, Nat.reduceSub]); rfl)) ?_; (focus (omega)); (focus ((rw [List.length_map]; omega))))
  (refine Kq rfl (ldm rfl rfl Tryz.underlying95 rfl ?_) ?_; (focus (assumption)))
  refine Ka rfl (WL.nt (WC.sr (Km rfl ?_)))
  refine Kh rfl (og_callv rfl rfl rfl (hgo i hil) (fncallN _) (keep_st fun w hS => hfn i hil hok w hS)) ?_
  intro g13
  refine Ka rfl (WL.nt (WC.sr (Km rfl (Kq rfl (rd_neq rfl rfl rfl) (WL.nt ?_)))))
  refine WC.cond rfl (fun hc15 => ?_) (fun hc15 => ?_)
  ·(try simp only [sB] at hc15)
   refine WC.sr (Km rfl (Ka rfl (WL.nt (WC.ret (WX.block_ret (WX.then_ret (WX.then_ret (WX.block_ret (WX.then_ret ?_)))))))))
   exact WX.retN rfl (.tmp rfl .nil) fun w' hS => (by exact ⟨by rw [errL_get (by omega) hok hc15]; rfl, i + 1, fun h => absurd h (by rw [errL_get (by omega) hok hc15]; exact hc15), hS⟩)
  ·(try simp only [sB] at hc15)
   refine WC.skip (WX.block_normal (WX.then_normal (WC.region ?_)))
   (refine Kq rfl (rd_add64nl rfl rfl rfl ?_) ?_; (focus (omega)))
   refine Km rfl (WL.nil ?_)
   refine WX.loopO (i + 1) (by (try dsimp only); omega) (sub_cons rfl (sub_cons rfl (sub_nil _))) (by refine (sub_cons ?_ (sub_nil _)) <;> (rfl)) ?_ (by exact fun w h => h)
   (try dsimp only)
   exact ⟨hil, fun j hj => by rcases Nat.lt_succ_iff_lt_or_eq.1 hj with h | h; exact hok j h; subst h; simpa using hc15⟩
 ·(try simp only [sB] at hc9)
  refine WC.exit (WX.then_exit (WX.then_exit (WX.block_exit ?_)))
  obtain rfl : i = l.length := by omega
  refine WX.then_normal (WC.sr (Ka rfl (WL.nt (WC.ret ?_))))
  exact WX.retN rfl (.tmp rfl .nil) fun w' hS => (by exact ⟨by rw [errL_all (fun j hj => hok j (by omega))]; rfl, l.length, fun _ => rfl, hS⟩)
end Go.Proofs.YtnimhldbblfgbaaGreat
namespace Go.Proofs.YtnimhldbblfgbaaGreat
set_option linter.unusedSimpArgs false
set_option linter.unusedVariables false
set_option maxRecDepth 20000
set_option maxHeartbeats 600000
open Go.RowKit
theorem kn1_c {k : PK} {c v r : Bs} {p0 p1 p2 p3 : Nat} {w : World} {ok : Nat → Prop} (hF1 : (Fact.sl (some ⟨p0, 0, none⟩) [.string (S k.1.1), .string (S k.1.2), .string (S k.2.1), .string (S k.2.2)]).holds ok w) (hF2 : (Fact.sl (some ⟨p1, 0, none⟩) [.string (S c)]).holds ok w) (hF3 : (Fact.sl (some ⟨p2, 0, none⟩) [.string (S v)]).holds ok w) (hF4 : (Fact.sl (some ⟨p3, 0, none⟩) [.string (S r)]).holds ok w) :
  Calls Tryz.prog 42 #[.pointer (some ⟨p0, 0, none⟩), .pointer (some ⟨p1, 0, none⟩), .pointer (some ⟨p2, 0, none⟩), .pointer (some ⟨p3, 0, none⟩)] w fun e w' => e = .returned (.int .i64 (if okK k ∧ okN c ∧ okN v ∧ okN r then 0 else 3)) ∧ Below w.heap.size w w' := by
 refine enter (S := St (fun _ => True) w [] ([Fact.sl (some ⟨p0, 0, none⟩) [.string (S k.1.1), .string (S k.1.2), .string (S k.2.1), .string (S k.2.2)], Fact.sl (some ⟨p1, 0, none⟩) [.string (S c)], Fact.sl (some ⟨p2, 0, none⟩) [.string (S v)], Fact.sl (some ⟨p3, 0, none⟩) [.string (S r)]])) (L := [(0, .pointer (some ⟨p0, 0, none⟩)), (1, .pointer (some ⟨p1, 0, none⟩)), (2, .pointer (some ⟨p2, 0, none⟩)), (3, .pointer (some ⟨p3, 0, none⟩))]) Tryz.func42 rfl Tryz.ntmps42 rfl (args_cons rfl (args_cons rfl (args_cons rfl (args_cons rfl (args_nil _))))) (St.start (fun _ _ => trivial) (facts_cons (fact_any hF1) (facts_cons (fact_any hF2) (facts_cons (fact_any hF3) (facts_cons (fact_any hF4) facts_nil))))) ?_
 refine WC.sr (Ka rfl (WL.nt (WC.seq ?_)))
 refine WC.free0 [0, 1, 2, 3, 4, 5, 6, 7, 8] [] [0, 1, 0, 0, 0, 3, 1, 1, 0] (by kernel_rfl) (by kernel_rfl) rfl ?_
 refine Kj rfl (ldfa (m := 0) rfl rfl .tc Tryz.underlying26 rfl (by kernel_rfl : _ = some 4) rfl rfl rfl (by decide)) ?_
 refine WJ.g rfl rfl rfl rfl rfl (fun ext => og_call rfl rfl (by kernel_rfl) (keep_o1J fun w hS => icnum_c (k := k))) ?_
 intro g6 hg6; (try dsimp only at hg6 ⊢)
 refine Kj rfl (ldf (m := 0) rfl rfl .tc Tryz.underlying22 rfl rfl rfl) ?_
 refine Kj rfl (ldf (m := 0) rfl rfl .tc Tryz.underlying22 rfl rfl rfl) ?_
 refine Kj rfl (ldf (m := 0) rfl rfl .tc Tryz.underlying22 rfl rfl rfl) ?_
 refine WJ.f rfl rfl rfl rfl rfl (fr_bs1 rfl rfl Tryz.underlying60 (by kernel_rfl : _ = some (some (.string (S [])), 1, 16)) rfl (by simp only [List.map]; rfl) rfl rfl ?_ (by decide)) ?_
 ·simp [Value.cells]
 intro b10
 (refine WJ.g rfl rfl rfl rfl rfl (appgJ rfl Tryz.underlying60 (by kernel_rfl : _ = some (some (.string (S [])), 1, 16)) rfl .tc rfl rfl (fun ext w hS => by (exact hS.os)) (by rfl) ?_ ?_) ?_; (focus ((refine ⟨?_, ?_, ?_, ?_⟩ <;> (try simp) <;> omega))); (focus ((simp [Value.oneCell']; done))))
 rintro ⟨o11, c11, s11⟩ hg11; (try dsimp only at hg11 ⊢)
 refine WJ.gv rfl rfl rfl rfl rfl (fun ext => og_call rfl rfl (by kernel_rfl) (keep_val fun w hS => icfmd_c (l := [k.1.1, k.1.2, k.2.1, k.2.2, c, v, r]) (by (exact hS.oc)) (by (simp <;> omega)))) ?_
 refine Kj rfl (rd_assign rfl rfl) ?_
 refine WJ.nil ?_
 refine WL.nt (WC.ret ?_)
 exact WX.retN rfl (.tmp rfl .nil) fun w' hS => ⟨by simp [tup, okK, and_assoc], hS.below⟩
theorem pr1_c {k : PK} {a b c v r : Bs} {p0 p1 p2 p3 p4 p5 : Nat} {w : World} {ok : Nat → Prop} (hF1 : (Fact.sl (some ⟨p0, 0, none⟩) [.string (S k.1.1), .string (S k.1.2), .string (S k.2.1), .string (S k.2.2)]).holds ok w) (hF2 : (Fact.sl (some ⟨p1, 0, none⟩) [.string (S a)]).holds ok w) (hF3 : (Fact.sl (some ⟨p2, 0, none⟩) [.string (S b)]).holds ok w) (hF4 : (Fact.sl (some ⟨p3, 0, none⟩) [.string (S c)]).holds ok w) (hF5 : (Fact.sl (some ⟨p4, 0, none⟩) [.string (S v)]).holds ok w) (hF6 : (Fact.sl (some ⟨p5, 0, none⟩) [.string (S r)]).holds ok w) :
  Calls Tryz.prog 58 #[.pointer (some ⟨p0, 0, none⟩), .pointer (some ⟨p1, 0, none⟩), .pointer (some ⟨p2, 0, none⟩), .pointer (some ⟨p3, 0, none⟩), .pointer (some ⟨p4, 0, none⟩), .pointer (some ⟨p5, 0, none⟩)] w fun e w' => e = .returned (.int .i64 (if okK k ∧ okN a ∧ okN b ∧ okN c ∧ okN v ∧ okN r then 0 else 3)) ∧ Below w.heap.size w w' := by
 refine enter (S := St (fun _ => True) w [] ([Fact.sl (some ⟨p0, 0, none⟩) [.string (S k.1.1), .string (S k.1.2), .string (S k.2.1), .string (S k.2.2)], Fact.sl (some ⟨p1, 0, none⟩) [.string (S a)], Fact.sl (some ⟨p2, 0, none⟩) [.string (S b)], Fact.sl (some ⟨p3, 0, none⟩) [.string (S c)], Fact.sl (some ⟨p4, 0, none⟩) [.string (S v)], Fact.sl (some ⟨p5, 0, none⟩) [.string (S r)]])) (L := [(0, .pointer (some ⟨p0, 0, none⟩)), (1, .pointer (some ⟨p1, 0, none⟩)), (2, .pointer (some ⟨p2, 0, none⟩)), (3, .pointer (some ⟨p3, 0, none⟩)), (4, .pointer (some ⟨p4, 0, none⟩)), (5, .pointer (some ⟨p5, 0, none⟩))]) Tryz.func58 rfl Tryz.ntmps58 rfl (args_cons rfl (args_cons rfl (args_cons rfl (args_cons rfl (args_cons rfl (args_cons rfl (args_nil _))))))) (St.start (fun _ _ => trivial) (facts_cons (fact_any hF1) (facts_cons (fact_any hF2) (facts_cons (fact_any hF3) (facts_cons (fact_any hF4) (facts_cons (fact_any hF5) (facts_cons (fact_any hF6) facts_nil))))))) ?_
 refine WC.sr (Ka rfl (WL.nt (WC.seq ?_)))
 refine WC.free0 [0, 1, 2, 3, 4, 5, 6, 7, 8, 9, 10] [] [0, 1, 0, 0, 0, 0, 0, 3, 1, 1, 0] (by kernel_rfl) (by kernel_rfl) rfl ?_
 refine Kj rfl (ldfa (m := 0) rfl rfl .tc Tryz.underlying26 rfl (by kernel_rfl : _ = some 4) rfl rfl rfl (by decide)) ?_
 refine WJ.g rfl rfl rfl rfl rfl (fun ext => og_call rfl rfl (by kernel_rfl) (keep_o1J fun w hS => icnum_c (k := k))) ?_
 intro g8 hg8; (try dsimp only at hg8 ⊢)
 refine Kj rfl (ldf (m := 0) rfl rfl .tc Tryz.underlying22 rfl rfl rfl) ?_
 refine Kj rfl (ldf (m := 0) rfl rfl .tc Tryz.underlying22 rfl rfl rfl) ?_
 refine Kj rfl (ldf (m := 0) rfl rfl .tc Tryz.underlying22 rfl rfl rfl) ?_
 refine Kj rfl (ldf (m := 0) rfl rfl .tc Tryz.underlying22 rfl rfl rfl) ?_
 refine Kj rfl (ldf (m := 0) rfl rfl .tc Tryz.underlying22 rfl rfl rfl) ?_
 refine WJ.f rfl rfl rfl rfl rfl (fr_bs1 rfl rfl Tryz.underlying60 (by kernel_rfl : _ = some (some (.string (S [])), 1, 16)) rfl (by simp only [List.map]; rfl) rfl rfl ?_ (by decide)) ?_
 ·simp [Value.cells]
 intro b14
 (refine WJ.g rfl rfl rfl rfl rfl (appgJ rfl Tryz.underlying60 (by kernel_rfl : _ = some (some (.string (S [])), 1, 16)) rfl .tc rfl rfl (fun ext w hS => by (exact hS.os)) (by rfl) ?_ ?_) ?_; (focus ((refine ⟨?_, ?_, ?_, ?_⟩ <;> (try simp) <;> omega))); (focus ((simp [Value.oneCell']; done))))
 rintro ⟨o15, c15, s15⟩ hg15; (try dsimp only at hg15 ⊢)
 refine WJ.gv rfl rfl rfl rfl rfl (fun ext => og_call rfl rfl (by kernel_rfl) (keep_val fun w hS => icfmd_c (l := [k.1.1, k.1.2, k.2.1, k.2.2, a, b, c, v, r]) (by (exact hS.oc)) (by (simp <;> omega)))) ?_
 refine Kj rfl (rd_assign rfl rfl) ?_
 refine WJ.nil ?_
 refine WL.nt (WC.ret ?_)
 exact WX.retN rfl (.tmp rfl .nil) fun w' hS => ⟨by simp [tup, okK, and_assoc], hS.below⟩
theorem eq1_c {m : PK} {k : PK} {a b v r : Bs} {p0 p1 p2 p3 p4 p5 : Nat} {w : World} {ok : Nat → Prop} (hF1 : (Fact.sl (some ⟨p0, 0, none⟩) [.string (S m.1.1), .string (S m.1.2), .string (S m.2.1), .string (S m.2.2)]).holds ok w) (hF2 : (Fact.sl (some ⟨p1, 0, none⟩) [.string (S k.1.1), .string (S k.1.2), .string (S k.2.1), .string (S k.2.2)]).holds ok w) (hF3 : (Fact.sl (some ⟨p2, 0, none⟩) [.string (S a)]).holds ok w) (hF4 : (Fact.sl (some ⟨p3, 0, none⟩) [.string (S b)]).holds ok w) (hF5 : (Fact.sl (some ⟨p4, 0, none⟩) [.string (S v)]).holds ok w) (hF6 : (Fact.sl (some ⟨p5, 0, none⟩) [.string (S r)]).holds ok w) :
  Calls Tryz.prog 80 #[.pointer (some ⟨p0, 0, none⟩), .pointer (some ⟨p1, 0, none⟩), .pointer (some ⟨p2, 0, none⟩), .pointer (some ⟨p3, 0, none⟩), .pointer (some ⟨p4, 0, none⟩), .pointer (some ⟨p5, 0, none⟩)] w fun e w' => e = .returned (.int .i64 (if okK m ∧ okK k ∧ okN a ∧ okN b ∧ okN v ∧ okN r then 0 else 3)) ∧ Below w.heap.size w w' := by
 refine enter (S := St (fun _ => True) w [] ([Fact.sl (some ⟨p0, 0, none⟩) [.string (S m.1.1), .string (S m.1.2), .string (S m.2.1), .string (S m.2.2)], Fact.sl (some ⟨p1, 0, none⟩) [.string (S k.1.1), .string (S k.1.2), .string (S k.2.1), .string (S k.2.2)], Fact.sl (some ⟨p2, 0, none⟩) [.string (S a)], Fact.sl (some ⟨p3, 0, none⟩) [.string (S b)], Fact.sl (some ⟨p4, 0, none⟩) [.string (S v)], Fact.sl (some ⟨p5, 0, none⟩) [.string (S r)]])) (L := [(0, .pointer (some ⟨p0, 0, none⟩)), (1, .pointer (some ⟨p1, 0, none⟩)), (2, .pointer (some ⟨p2, 0, none⟩)), (3, .pointer (some ⟨p3, 0, none⟩)), (4, .pointer (some ⟨p4, 0, none⟩)), (5, .pointer (some ⟨p5, 0, none⟩))]) Tryz.func80 rfl Tryz.ntmps80 rfl (args_cons rfl (args_cons rfl (args_cons rfl (args_cons rfl (args_cons rfl (args_cons rfl (args_nil _))))))) (St.start (fun _ _ => trivial) (facts_cons (fact_any hF1) (facts_cons (fact_any hF2) (facts_cons (fact_any hF3) (facts_cons (fact_any hF4) (facts_cons (fact_any hF5) (facts_cons (fact_any hF6) facts_nil))))))) ?_
 refine WC.sr (Ka rfl (WL.nt (WC.seq ?_)))
 refine WC.free0 [0, 1, 2, 3, 4, 5, 6, 7, 8, 9, 10, 11, 12] [] [0, 1, 0, 1, 1, 0, 0, 0, 0, 3, 1, 1, 0] (by kernel_rfl) (by kernel_rfl) rfl ?_
 refine Kj rfl (ldfa (m := 0) rfl rfl .tc Tryz.underlying26 rfl (by kernel_rfl : _ = some 4) rfl rfl rfl (by decide)) ?_
 refine WJ.g rfl rfl rfl rfl rfl (fun ext => og_call rfl rfl (by kernel_rfl) (keep_o1J fun w hS => icnum_c (k := m))) ?_
 intro g8 hg8; (try dsimp only at hg8 ⊢)
 refine Kj rfl (ldfa (m := 0) rfl rfl .tc Tryz.underlying26 rfl (by kernel_rfl : _ = some 4) rfl rfl rfl (by decide)) ?_
 refine WJ.g rfl rfl rfl rfl rfl (fun ext => og_call rfl rfl (by kernel_rfl) (keep_o1J fun w hS => icnum_c (k := k))) ?_
 intro g10 hg10; (try dsimp only at hg10 ⊢)
 (refine WJ.g rfl rfl rfl rfl rfl (appgJ rfl Tryz.underlying60 (by kernel_rfl : _ = some (some (.string (S [])), 1, 16)) rfl .tc rfl rfl (fun ext w hS => by (exact hS.oc)) (by rfl) ?_ ?_) ?_; (focus ((refine ⟨?_, ?_, ?_, ?_⟩ <;> (try simp) <;> omega))); (focus ((simp [Value.oneCell']; done))))
 rintro ⟨o11, c11, s11⟩ hg11; (try dsimp only at hg11 ⊢)
 refine Kj rfl (ldf (m := 0) rfl rfl .tc Tryz.underlying22 rfl rfl rfl) ?_
 refine Kj rfl (ldf (m := 0) rfl rfl .tc Tryz.underlying22 rfl rfl rfl) ?_
 refine Kj rfl (ldf (m := 0) rfl rfl .tc Tryz.underlying22 rfl rfl rfl) ?_
 refine Kj rfl (ldf (m := 0) rfl rfl .tc Tryz.underlying22 rfl rfl rfl) ?_
 refine WJ.f rfl rfl rfl rfl rfl (fr_bs1 rfl rfl Tryz.underlying60 (by kernel_rfl : _ = some (some (.string (S [])), 1, 16)) rfl (by simp only [List.map]; rfl) rfl rfl ?_ (by decide)) ?_
 ·simp [Value.cells]
 intro b16
 (refine WJ.g rfl rfl rfl rfl rfl (appgJ rfl Tryz.underlying60 (by kernel_rfl : _ = some (some (.string (S [])), 1, 16)) rfl .tc rfl rfl (fun ext w hS => by (exact hS.os)) (by rfl) ?_ ?_) ?_; (focus ((refine ⟨?_, ?_, ?_, ?_⟩ <;> (try simp) <;> omega))); (focus ((simp [Value.oneCell']; done))))
 rintro ⟨o17, c17, s17⟩ hg17; (try dsimp only at hg17 ⊢)
 refine WJ.gv rfl rfl rfl rfl rfl (fun ext => og_call rfl rfl (by kernel_rfl) (keep_val fun w hS => icfmd_c (l := [m.1.1, m.1.2, m.2.1, m.2.2, k.1.1, k.1.2, k.2.1, k.2.2, a, b, v, r]) (by (exact hS.oc)) (by (simp <;> omega)))) ?_
 refine Kj rfl (rd_assign rfl rfl) ?_
 refine WJ.nil ?_
 refine WL.nt (WC.ret ?_)
 exact WX.retN rfl (.tmp rfl .nil) fun w' hS => ⟨by simp [tup, okK, and_assoc], hS.below⟩
theorem kn2_c {k : PK} {p0 : Nat} {w : World} {ok : Nat → Prop} (hF1 : (Fact.sl (some ⟨p0, 0, none⟩) [.string (S k.1.1), .string (S k.1.2), .string (S k.2.1), .string (S k.2.2)]).holds ok w) (hm8 : k.1.1.length ≤ 8) :
  Calls Tryz.prog 45 #[.pointer (some ⟨p0, 0, none⟩)] w fun e w' => e = .returned (.int .i64 (chkI k)) ∧ Below w.heap.size w w' := by
 refine enter (S := St (fun _ => True) w [] ([Fact.sl (some ⟨p0, 0, none⟩) [.string (S k.1.1), .string (S k.1.2), .string (S k.2.1), .string (S k.2.2)]])) (L := [(0, .pointer (some ⟨p0, 0, none⟩))]) Tryz.func45 rfl Tryz.ntmps45 rfl (args_cons rfl (args_nil _)) (St.start (fun _ _ => trivial) (facts_cons (fact_any hF1) facts_nil)) ?_
 refine WC.sr (Ka rfl (WL.nt (WC.sr ?_)))
 refine Kq rfl (ldfa (m := 0) rfl rfl .tc Tryz.underlying26 rfl (by kernel_rfl : _ = some 4) rfl rfl rfl (by decide)) ?_
 refine Kh rfl (og_call rfl rfl (by kernel_rfl) (keep_val fun w hS => icheck_c (k := k) (by assumption))) ?_
 intro _
 refine Ka rfl (WL.nt (WC.ret ?_))
 exact WX.retN rfl (.tmp rfl .nil) fun w' hS => ⟨by rfl, hS.below⟩
theorem pr2_c {k : PK} {p0 : Nat} {w : World} {ok : Nat → Prop} (hF1 : (Fact.sl (some ⟨p0, 0, none⟩) [.string (S k.1.1), .string (S k.1.2), .string (S k.2.1), .string (S k.2.2)]).holds ok w) (hm8 : k.1.1.length ≤ 8) :
  Calls Tryz.prog 59 #[.pointer (some ⟨p0, 0, none⟩)] w fun e w' => e = .returned (.int .i64 (chkI k)) ∧ Below w.heap.size w w' := by
 refine enter (S := St (fun _ => True) w [] ([Fact.sl (some ⟨p0, 0, none⟩) [.string (S k.1.1), .string (S k.1.2), .string (S k.2.1), .string (S k.2.2)]])) (L := [(0, .pointer (some ⟨p0, 0, none⟩))]) Tryz.func59 rfl Tryz.ntmps59 rfl (args_cons rfl (args_nil _)) (St.start (fun _ _ => trivial) (facts_cons (fact_any hF1) facts_nil)) ?_
 refine WC.sr (Ka rfl (WL.nt (WC.sr ?_)))
 refine Kq rfl (ldfa (m := 0) rfl rfl .tc Tryz.underlying26 rfl (by kernel_rfl : _ = some 4) rfl rfl rfl (by decide)) ?_
 refine Kh rfl (og_call rfl rfl (by kernel_rfl) (keep_val fun w hS => icheck_c (k := k) (by assumption))) ?_
 intro _
 refine Ka rfl (WL.nt (WC.ret ?_))
 exact WX.retN rfl (.tmp rfl .nil) fun w' hS => ⟨by rfl, hS.below⟩
theorem eq2_c {k : PK} {p0 : Nat} {w : World} {ok : Nat → Prop} (hF1 : (Fact.sl (some ⟨p0, 0, none⟩) [.string (S k.1.1), .string (S k.1.2), .string (S k.2.1), .string (S k.2.2)]).holds ok w) (hm8 : k.1.1.length ≤ 8) :
  Calls Tryz.prog 81 #[.pointer (some ⟨p0, 0, none⟩)] w fun e w' => e = .returned (.int .i64 (chkK k)) ∧ Below w.heap.size w w' := by
 refine enter (S := St (fun _ => True) w [] ([Fact.sl (some ⟨p0, 0, none⟩) [.string (S k.1.1), .string (S k.1.2), .string (S k.2.1), .string (S k.2.2)]])) (L := [(0, .pointer (some ⟨p0, 0, none⟩))]) Tryz.func81 rfl Tryz.ntmps81 rfl (args_cons rfl (args_nil _)) (St.start (fun _ _ => trivial) (facts_cons (fact_any hF1) facts_nil)) ?_
 refine WC.sr (Ka rfl (WL.nt (WC.sr ?_)))
 refine Kq rfl (ldfa (m := 0) rfl rfl .tc Tryz.underlying26 rfl (by kernel_rfl : _ = some 4) rfl rfl rfl (by decide)) ?_
 refine Kh rfl (og_call rfl rfl (by kernel_rfl) (keep_val fun w hS => pdcheck_c (k := k) (by assumption))) ?_
 intro _
 refine Ka rfl (WL.nt (WC.ret ?_))
 exact WX.retN rfl (.tmp rfl .nil) fun w' hS => ⟨by rfl, hS.below⟩
theorem kn3_c {k : PK} {c : Bs} {p0 p1 : Nat} {w : World} {ok : Nat → Prop} (hF1 : (Fact.sl (some ⟨p0, 0, none⟩) [.string (S k.1.1), .string (S k.1.2), .string (S k.2.1), .string (S k.2.2)]).holds ok w) (hF2 : (Fact.sl (some ⟨p1, 0, none⟩) [.string (S c)]).holds ok w) (hg : chkG k.1 = 0) (hm8 : k.1.1.length ≤ 8) :
  Calls Tryz.prog 46 #[.pointer (some ⟨p0, 0, none⟩), .pointer (some ⟨p1, 0, none⟩)] w fun e w' => e = .returned (.int .i64 (if elG k.1 c then 0 else 13)) ∧ Below w.heap.size w w' := by
 refine enter (S := St (fun _ => True) w [] ([Fact.sl (some ⟨p0, 0, none⟩) [.string (S k.1.1), .string (S k.1.2), .string (S k.2.1), .string (S k.2.2)], Fact.sl (some ⟨p1, 0, none⟩) [.string (S c)]])) (L := [(0, .pointer (some ⟨p0, 0, none⟩)), (1, .pointer (some ⟨p1, 0, none⟩))]) Tryz.func46 rfl Tryz.ntmps46 rfl (args_cons rfl (args_cons rfl (args_nil _))) (St.start (fun _ _ => trivial) (facts_cons (fact_any hF1) (facts_cons (fact_any hF2) facts_nil))) ?_
 refine WC.sr (Ka rfl (WL.nt (WC.sr ?_)))
 refine Kq rfl (ldfa (m := 0) rfl rfl .tc Tryz.underlying26 rfl (by kernel_rfl : _ = some 4) rfl rfl rfl (by decide)) ?_
 refine Kq rfl (ldf (m := 0) rfl rfl .tc Tryz.underlying22 rfl rfl rfl) ?_
 refine Kh rfl (og_bs1 rfl rfl Tryz.underlying60 (by kernel_rfl : _ = some (some (.string (S [])), 1, 16)) rfl (by simp only [List.map]; rfl) rfl rfl ?_ (by decide)) ?_
 ·simp [Value.cells]
 intro b5
 refine Kh rfl (og_call rfl rfl (by kernel_rfl) (keep_val fun w hS => icels_c (k := k) (l := [c]) (by (exact hS.os)) (by (simp <;> omega)) (by assumption) (by assumption))) ?_
 intro _
 refine Ka rfl (WL.nt (WC.ret ?_))
 exact WX.retN rfl (.tmp rfl .nil) fun w' hS => ⟨by simp [tup], hS.below⟩
theorem pr3_c {k : PK} {a b c : Bs} {p0 p1 p2 p3 : Nat} {w : World} {ok : Nat → Prop} (hF1 : (Fact.sl (some ⟨p0, 0, none⟩) [.string (S k.1.1), .string (S k.1.2), .string (S k.2.1), .string (S k.2.2)]).holds ok w) (hF2 : (Fact.sl (some ⟨p1, 0, none⟩) [.string (S a)]).holds ok w) (hF3 : (Fact.sl (some ⟨p2, 0, none⟩) [.string (S b)]).holds ok w) (hF4 : (Fact.sl (some ⟨p3, 0, none⟩) [.string (S c)]).holds ok w) (hg : chkG k.1 = 0) (hm8 : k.1.1.length ≤ 8) :
  Calls Tryz.prog 60 #[.pointer (some ⟨p0, 0, none⟩), .pointer (some ⟨p1, 0, none⟩), .pointer (some ⟨p2, 0, none⟩), .pointer (some ⟨p3, 0, none⟩)] w fun e w' => e = .returned (.int .i64 (if elG k.1 a ∧ elG k.1 b ∧ elG k.1 c then 0 else 13)) ∧ Below w.heap.size w w' := by
 refine enter (S := St (fun _ => True) w [] ([Fact.sl (some ⟨p0, 0, none⟩) [.string (S k.1.1), .string (S k.1.2), .string (S k.2.1), .string (S k.2.2)], Fact.sl (some ⟨p1, 0, none⟩) [.string (S a)], Fact.sl (some ⟨p2, 0, none⟩) [.string (S b)], Fact.sl (some ⟨p3, 0, none⟩) [.string (S c)]])) (L := [(0, .pointer (some ⟨p0, 0, none⟩)), (1, .pointer (some ⟨p1, 0, none⟩)), (2, .pointer (some ⟨p2, 0, none⟩)), (3, .pointer (some ⟨p3, 0, none⟩))]) Tryz.func60 rfl Tryz.ntmps60 rfl (args_cons rfl (args_cons rfl (args_cons rfl (args_cons rfl (args_nil _))))) (St.start (fun _ _ => trivial) (facts_cons (fact_any hF1) (facts_cons (fact_any hF2) (facts_cons (fact_any hF3) (facts_cons (fact_any hF4) facts_nil))))) ?_
 refine WC.sr (Ka rfl (WL.nt (WC.sr ?_)))
 refine Kq rfl (ldfa (m := 0) rfl rfl .tc Tryz.underlying26 rfl (by kernel_rfl : _ = some 4) rfl rfl rfl (by decide)) ?_
 refine Kq rfl (ldf (m := 0) rfl rfl .tc Tryz.underlying22 rfl rfl rfl) ?_
 refine Kq rfl (ldf (m := 0) rfl rfl .tc Tryz.underlying22 rfl rfl rfl) ?_
 refine Kq rfl (ldf (m := 0) rfl rfl .tc Tryz.underlying22 rfl rfl rfl) ?_
 refine Kh rfl (og_bs1 rfl rfl Tryz.underlying60 (by kernel_rfl : _ = some (some (.string (S [])), 1, 16)) rfl (by simp only [List.map]; rfl) rfl rfl ?_ (by decide)) ?_
 ·simp [Value.cells]
 intro b9
 refine Kh rfl (og_call rfl rfl (by kernel_rfl) (keep_val fun w hS => icels_c (k := k) (l := [a, b, c]) (by (exact hS.os)) (by (simp <;> omega)) (by assumption) (by assumption))) ?_
 intro _
 refine Ka rfl (WL.nt (WC.ret ?_))
 exact WX.retN rfl (.tmp rfl .nil) fun w' hS => ⟨by simp [tup], hS.below⟩
theorem eq4_c {k : PK} {c : Bs} {p0 p1 : Nat} {w : World} {ok : Nat → Prop} (hF1 : (Fact.sl (some ⟨p0, 0, none⟩) [.string (S k.1.1), .string (S k.1.2), .string (S k.2.1), .string (S k.2.2)]).holds ok w) (hF2 : (Fact.sl (some ⟨p1, 0, none⟩) [.string (S c)]).holds ok w) (hg : chkG k.1 = 0) (hm8 : k.1.1.length ≤ 8) :
  Calls Tryz.prog 83 #[.pointer (some ⟨p0, 0, none⟩), .pointer (some ⟨p1, 0, none⟩)] w fun e w' => e = .returned (.int .i64 (if elG k.1 c then 0 else 13)) ∧ Below w.heap.size w w' := by
 refine enter (S := St (fun _ => True) w [] ([Fact.sl (some ⟨p0, 0, none⟩) [.string (S k.1.1), .string (S k.1.2), .string (S k.2.1), .string (S k.2.2)], Fact.sl (some ⟨p1, 0, none⟩) [.string (S c)]])) (L := [(0, .pointer (some ⟨p0, 0, none⟩)), (1, .pointer (some ⟨p1, 0, none⟩))]) Tryz.func83 rfl Tryz.ntmps83 rfl (args_cons rfl (args_cons rfl (args_nil _))) (St.start (fun _ _ => trivial) (facts_cons (fact_any hF1) (facts_cons (fact_any hF2) facts_nil))) ?_
 refine WC.sr (Ka rfl (WL.nt (WC.sr ?_)))
 refine Kq rfl (ldfa (m := 0) rfl rfl .tc Tryz.underlying26 rfl (by kernel_rfl : _ = some 4) rfl rfl rfl (by decide)) ?_
 refine Kq rfl (ldf (m := 0) rfl rfl .tc Tryz.underlying22 rfl rfl rfl) ?_
 refine Kh rfl (og_bs1 rfl rfl Tryz.underlying60 (by kernel_rfl : _ = some (some (.string (S [])), 1, 16)) rfl (by simp only [List.map]; rfl) rfl rfl ?_ (by decide)) ?_
 ·simp [Value.cells]
 intro b5
 refine Kh rfl (og_call rfl rfl (by kernel_rfl) (keep_val fun w hS => icels_c (k := k) (l := [c]) (by (exact hS.os)) (by (simp <;> omega)) (by assumption) (by assumption))) ?_
 intro _
 refine Ka rfl (WL.nt (WC.ret ?_))
 exact WX.retN rfl (.tmp rfl .nil) fun w' hS => ⟨by simp [tup], hS.below⟩
theorem eq5_c {k : PK} {c : Bs} {p0 p1 : Nat} {w : World} {ok : Nat → Prop} (hF1 : (Fact.sl (some ⟨p0, 0, none⟩) [.string (S k.1.1), .string (S k.1.2), .string (S k.2.1), .string (S k.2.2)]).holds ok w) (hF2 : (Fact.sl (some ⟨p1, 0, none⟩) [.string (S c)]).holds ok w) (hg : chkG k.1 = 0) (hm8 : k.1.1.length ≤ 8) :
  Calls Tryz.prog 84 #[.pointer (some ⟨p0, 0, none⟩), .pointer (some ⟨p1, 0, none⟩)] w fun e w' => e = .returned (.int .i64 (if elG k.1 c then 0 else 13)) ∧ Below w.heap.size w w' := by
 refine enter (S := St (fun _ => True) w [] ([Fact.sl (some ⟨p0, 0, none⟩) [.string (S k.1.1), .string (S k.1.2), .string (S k.2.1), .string (S k.2.2)], Fact.sl (some ⟨p1, 0, none⟩) [.string (S c)]])) (L := [(0, .pointer (some ⟨p0, 0, none⟩)), (1, .pointer (some ⟨p1, 0, none⟩))]) Tryz.func84 rfl Tryz.ntmps84 rfl (args_cons rfl (args_cons rfl (args_nil _))) (St.start (fun _ _ => trivial) (facts_cons (fact_any hF1) (facts_cons (fact_any hF2) facts_nil))) ?_
 refine WC.sr (Ka rfl (WL.nt (WC.sr ?_)))
 refine Kq rfl (ldfa (m := 0) rfl rfl .tc Tryz.underlying26 rfl (by kernel_rfl : _ = some 4) rfl rfl rfl (by decide)) ?_
 refine Kq rfl (ldf (m := 0) rfl rfl .tc Tryz.underlying22 rfl rfl rfl) ?_
 refine Kh rfl (og_bs1 rfl rfl Tryz.underlying60 (by kernel_rfl : _ = some (some (.string (S [])), 1, 16)) rfl (by simp only [List.map]; rfl) rfl rfl ?_ (by decide)) ?_
 ·simp [Value.cells]
 intro b5
 refine Kh rfl (og_call rfl rfl (by kernel_rfl) (keep_val fun w hS => icels_c (k := k) (l := [c]) (by (exact hS.os)) (by (simp <;> omega)) (by assumption) (by assumption))) ?_
 intro _
 refine Ka rfl (WL.nt (WC.ret ?_))
 exact WX.retN rfl (.tmp rfl .nil) fun w' hS => ⟨by simp [tup], hS.below⟩
theorem kn4_c {v r : Bs} {p0 p1 : Nat} {w : World} {ok : Nat → Prop} (hF1 : (Fact.sl (some ⟨p0, 0, none⟩) [.string (S v)]).holds ok w) (hF2 : (Fact.sl (some ⟨p1, 0, none⟩) [.string (S r)]).holds ok w) :
  Calls Tryz.prog 48 #[.pointer (some ⟨p0, 0, none⟩), .pointer (some ⟨p1, 0, none⟩)] w fun e w' => e = .returned (.int .i64 (bndE v r)) ∧ Below w.heap.size w w' := by
 refine enter (S := St (fun _ => True) w [] ([Fact.sl (some ⟨p0, 0, none⟩) [.string (S v)], Fact.sl (some ⟨p1, 0, none⟩) [.string (S r)]])) (L := [(0, .pointer (some ⟨p0, 0, none⟩)), (1, .pointer (some ⟨p1, 0, none⟩))]) Tryz.func48 rfl Tryz.ntmps48 rfl (args_cons rfl (args_cons rfl (args_nil _))) (St.start (fun _ _ => trivial) (facts_cons (fact_any hF1) (facts_cons (fact_any hF2) facts_nil))) ?_
 refine WC.sr (Ka rfl (WL.nt (WC.sr ?_)))
 refine Kq rfl (ldf (m := 0) rfl rfl .tc Tryz.underlying22 rfl rfl rfl) ?_
 refine Kq rfl (ldf (m := 0) rfl rfl .tc Tryz.underlying22 rfl rfl rfl) ?_
 refine Kh rfl (og_call rfl rfl (by kernel_rfl) (keep_val fun w hS => icready_c (v := v) (r := r))) ?_
 intro _
 refine Ka rfl (WL.nt (WC.ret ?_))
 exact WX.retN rfl (.tmp rfl .nil) fun w' hS => ⟨by rfl, hS.below⟩
theorem pr4_c {v r : Bs} {p0 p1 : Nat} {w : World} {ok : Nat → Prop} (hF1 : (Fact.sl (some ⟨p0, 0, none⟩) [.string (S v)]).holds ok w) (hF2 : (Fact.sl (some ⟨p1, 0, none⟩) [.string (S r)]).holds ok w) :
  Calls Tryz.prog 61 #[.pointer (some ⟨p0, 0, none⟩), .pointer (some ⟨p1, 0, none⟩)] w fun e w' => e = .returned (.int .i64 (bndE v r)) ∧ Below w.heap.size w w' := by
 refine enter (S := St (fun _ => True) w [] ([Fact.sl (some ⟨p0, 0, none⟩) [.string (S v)], Fact.sl (some ⟨p1, 0, none⟩) [.string (S r)]])) (L := [(0, .pointer (some ⟨p0, 0, none⟩)), (1, .pointer (some ⟨p1, 0, none⟩))]) Tryz.func61 rfl Tryz.ntmps61 rfl (args_cons rfl (args_cons rfl (args_nil _))) (St.start (fun _ _ => trivial) (facts_cons (fact_any hF1) (facts_cons (fact_any hF2) facts_nil))) ?_
 refine WC.sr (Ka rfl (WL.nt (WC.sr ?_)))
 refine Kq rfl (ldf (m := 0) rfl rfl .tc Tryz.underlying22 rfl rfl rfl) ?_
 refine Kq rfl (ldf (m := 0) rfl rfl .tc Tryz.underlying22 rfl rfl rfl) ?_
 refine Kh rfl (og_call rfl rfl (by kernel_rfl) (keep_val fun w hS => icready_c (v := v) (r := r))) ?_
 intro _
 refine Ka rfl (WL.nt (WC.ret ?_))
 exact WX.retN rfl (.tmp rfl .nil) fun w' hS => ⟨by rfl, hS.below⟩
theorem eq6_c {v r : Bs} {p0 p1 : Nat} {w : World} {ok : Nat → Prop} (hF1 : (Fact.sl (some ⟨p0, 0, none⟩) [.string (S v)]).holds ok w) (hF2 : (Fact.sl (some ⟨p1, 0, none⟩) [.string (S r)]).holds ok w) :
  Calls Tryz.prog 85 #[.pointer (some ⟨p0, 0, none⟩), .pointer (some ⟨p1, 0, none⟩)] w fun e w' => e = .returned (.int .i64 (bndE v r)) ∧ Below w.heap.size w w' := by
 refine enter (S := St (fun _ => True) w [] ([Fact.sl (some ⟨p0, 0, none⟩) [.string (S v)], Fact.sl (some ⟨p1, 0, none⟩) [.string (S r)]])) (L := [(0, .pointer (some ⟨p0, 0, none⟩)), (1, .pointer (some ⟨p1, 0, none⟩))]) Tryz.func85 rfl Tryz.ntmps85 rfl (args_cons rfl (args_cons rfl (args_nil _))) (St.start (fun _ _ => trivial) (facts_cons (fact_any hF1) (facts_cons (fact_any hF2) facts_nil))) ?_
 refine WC.sr (Ka rfl (WL.nt (WC.sr ?_)))
 refine Kq rfl (ldf (m := 0) rfl rfl .tc Tryz.underlying22 rfl rfl rfl) ?_
 refine Kq rfl (ldf (m := 0) rfl rfl .tc Tryz.underlying22 rfl rfl rfl) ?_
 refine Kh rfl (og_call rfl rfl (by kernel_rfl) (keep_val fun w hS => icready_c (v := v) (r := r))) ?_
 intro _
 refine Ka rfl (WL.nt (WC.ret ?_))
 exact WX.retN rfl (.tmp rfl .nil) fun w' hS => ⟨by rfl, hS.below⟩
theorem eq3_c {m k : PK} {p0 p1 : Nat} {w : World} {ok : Nat → Prop} (hF1 : (Fact.sl (some ⟨p0, 0, none⟩) [.string (S m.1.1), .string (S m.1.2), .string (S m.2.1), .string (S m.2.2)]).holds ok w) (hF2 : (Fact.sl (some ⟨p1, 0, none⟩) [.string (S k.1.1), .string (S k.1.2), .string (S k.2.1), .string (S k.2.2)]).holds ok w) (hm8 : k.1.1.length ≤ 8) :
  Calls Tryz.prog 82 #[.pointer (some ⟨p0, 0, none⟩), .pointer (some ⟨p1, 0, none⟩)] w fun e w' => e = .returned (.int .i64 (if m.1.2 = [] then 10 else chkI k)) ∧ Below w.heap.size w w' := by
 refine enter (S := St (fun _ => True) w [] ([Fact.sl (some ⟨p0, 0, none⟩) [.string (S m.1.1), .string (S m.1.2), .string (S m.2.1), .string (S m.2.2)], Fact.sl (some ⟨p1, 0, none⟩) [.string (S k.1.1), .string (S k.1.2), .string (S k.2.1), .string (S k.2.2)]])) (L := [(0, .pointer (some ⟨p0, 0, none⟩)), (1, .pointer (some ⟨p1, 0, none⟩))]) Tryz.func82 rfl Tryz.ntmps82 rfl (args_cons rfl (args_cons rfl (args_nil _))) (St.start (fun _ _ => trivial) (facts_cons (fact_any hF1) (facts_cons (fact_any hF2) facts_nil))) ?_
 refine WC.sr (Ka rfl (WL.nt (WC.seq (WC.sr ?_))))
 (refine Kq rfl (rd_fa rfl rfl Tryz.underlying26 rfl (by kernel_rfl) (by (try simp only [sN, Int.reduceToNat, Nat.reduceAdd, Nat.reduceMul, Nat.reduceSub]); rfl)) ?_)
 (refine Kq rfl (rd_fa rfl rfl Tryz.underlying24 rfl (by kernel_rfl) (by (try simp only [sN, Int.reduceToNat, Nat.reduceAdd, Nat.reduceMul, Nat.reduceSub]); rfl)) ?_)
 refine Kq rfl (ldf (off0 := 0) (m := 1) rfl rfl .tc Tryz.underlying22 rfl rfl rfl) ?_
 refine Kq rfl (rd_seq rfl rfl rfl) (WL.nt ?_)
 refine WC.cond rfl (fun hc6 => ?_) (fun hc6 => ?_)
 ·(try simp only [sB] at hc6)
  refine WC.sr (Ka rfl (WL.nt (WC.ret (WX.then_ret ?_))))
  exact WX.retN rfl (.tmp rfl .nil) fun w' hS => ⟨by rw [if_pos (by simpa using hc6)]; rfl, hS.below⟩
 ·(try simp only [sB] at hc6)
  refine WC.skip (WX.then_normal (WC.sr ?_))
  refine Kq rfl (ldfa (m := 0) rfl rfl .tc Tryz.underlying26 rfl (by kernel_rfl : _ = some 4) rfl rfl rfl (by decide)) ?_
  refine Kh rfl (og_call rfl rfl (by kernel_rfl) (keep_val fun w hS => icheck_c (k := k) (by assumption))) ?_
  intro _
  refine Ka rfl (WL.nt (WC.ret ?_))
  exact WX.retN rfl (.tmp rfl .nil) fun w' hS => ⟨by rw [if_neg (by simpa using hc6)]; rfl, hS.below⟩
def crossX (v r : Bs) : Bs := if (mulN v r).2 ≠ 0 then (mulN v r).1 else (crossS v r).1
theorem pr5_c {v r x : Bs} {p0 p1 p2 : Nat} {ee : Ent} {rr : List Ent} {ok : Nat → Prop} {w0 : World} {fs : List Fact} {w : World} (hS0 : St ok w0 (⟨some p2, [.string (S x)], 22⟩ :: ee :: ⟨some p1, [.string (S r)], 22⟩ :: ⟨some p0, [.string (S v)], 22⟩ :: rr) (fs) w) :
  Calls Tryz.prog 62 #[.pointer (some ⟨p0, 0, none⟩), .pointer (some ⟨p1, 0, none⟩), .pointer (some ⟨p2, 0, none⟩)] w fun e w' => e = .returned (.int .i64 (crossS v r).2) ∧ St ok w0 (⟨some p2, [.string (S (crossX v r))], 22⟩ :: ee :: ⟨some p1, [.string (S r)], 22⟩ :: ⟨some p0, [.string (S v)], 22⟩ :: rr) (fs) w' := by
 refine enter (S := St ok w0 (⟨some p2, [.string (S x)], 22⟩ :: ee :: ⟨some p1, [.string (S r)], 22⟩ :: ⟨some p0, [.string (S v)], 22⟩ :: rr) (fs)) (L := [(0, .pointer (some ⟨p0, 0, none⟩)), (1, .pointer (some ⟨p1, 0, none⟩)), (2, .pointer (some ⟨p2, 0, none⟩))]) Tryz.func62 rfl Tryz.ntmps62 rfl (args_cons rfl (args_cons rfl (args_cons rfl (args_nil _)))) hS0 ?_
 refine WC.sr (Ka rfl (WL.nt (WC.seq (WC.sr ?_))))
 refine Kq rfl (ld rfl rfl .tc Tryz.underlying22 rfl (by rfl)) ?_
 refine Kq rfl (ld rfl rfl .tc Tryz.underlying22 rfl (by rfl)) ?_
 refine Kh rfl (og_call rfl rfl (by kernel_rfl) (keep_val fun w hS => mul_c (a := v) (b := r))) ?_
 intro _
 refine Km rfl (Kq rfl (rd_extL rfl rfl rfl) (Kq rfl (rd_extL rfl rfl rfl) ?_))
 refine WL.g0 rfl rfl (st rfl rfl rfl .tc (by kernel_rfl) rfl ?_ (by (simp only [List.set_cons_zero, List.set_cons_succ]; rfl))) ?_
 ·(simp; done)
 intro _
 refine Ka rfl (WL.nt (WC.sr (Km rfl (Kq rfl (rd_eql rfl rfl rfl) (WL.nt ?_)))))
 refine WC.cond rfl (fun hc11 => ?_) (fun hc11 => ?_)
 ·(try simp only [sB] at hc11)
  have h0 : ¬ (mulN v r).2 ≠ 0 := by simpa using hc11
  have hr : (crossS v r).2 = (addN (mulN v r).1 r).2 := by rw [crossS, if_neg h0]
  have hX : crossX v r = (addN (mulN v r).1 r).1 := by rw [crossX, if_neg h0, crossS, if_neg h0]
  refine WC.region ?_
  refine Kq rfl (ld rfl rfl .tc Tryz.underlying22 rfl (by rfl)) ?_
  refine Kq rfl (ld rfl rfl .tc Tryz.underlying22 rfl (by rfl)) ?_
  refine Kh rfl (og_call rfl rfl (by kernel_rfl) (keep_val fun w hS => add_c (a := (mulN v r).1) (b := r))) ?_
  intro _
  refine Km rfl (Kq rfl (rd_extL rfl rfl rfl) (Kq rfl (rd_extL rfl rfl rfl) ?_))
  refine WL.g0 rfl rfl (st rfl rfl rfl .tc (by kernel_rfl) rfl ?_ (by (simp only [List.set_cons_zero, List.set_cons_succ]; rfl))) ?_
  ·(simp; done)
  intro _
  refine Ka rfl (WL.nt (WC.sr (Km rfl (Ka rfl (WL.nt (WC.ret ?_))))))
  exact WX.retN rfl (.tmp rfl .nil) fun w' hS => ⟨by rw [hr]; rfl, by rw [hX]; exact hS⟩
 ·(try simp only [sB] at hc11)
  have h0 : (mulN v r).2 ≠ 0 := by simpa using hc11
  have hr : (crossS v r).2 = (mulN v r).2 := by rw [crossS, if_pos h0]
  have hX : crossX v r = (mulN v r).1 := by rw [crossX, if_pos h0]
  refine WC.skip (WX.then_normal (WC.sr (Km rfl (Ka rfl (WL.nt (WC.ret ?_))))))
  exact WX.retN rfl (.tmp rfl .nil) fun w' hS => ⟨by rw [hr]; rfl, by rw [hX]; exact hS⟩
end Go.Proofs.YtnimhldbblfgbaaGreat
