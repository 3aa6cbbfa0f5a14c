/-
  Parts of the walk: Elg Elh Eli Eqt Eqc Lsm.
-/
import Derived.Test.YtmkghgoibnncbaaGreatDoorJ17
namespace Go.Proofs.YtmkghgoibnncbaaGreatDoor
open Go.RowKit
set_option linter.unusedSimpArgs false
set_option linter.unusedVariables false
set_option maxHeartbeats 600000
set_option maxRecDepth 20000
abbrev cpV (c : Cp) : Value := .agg #[.string (S c.1), .string (S c.2)]
abbrev CE (r : Cp × Int) : Value := .tuple #[cpV r.1, .int .i64 r.2]
theorem eldecrypt_c {k : PK} {s : Bs} {c : Cp} {w : World} (hm8 : k.1.1.length ≤ 8) :
  Cw 17 #[pkV k, .string (S s), cpV c] w (NE (decS k s c)) := by
 refine En [] [(0, pkV k), (1, .string (S s)), (2, cpV c)] Tryz.func17 rfl Tryz.ntmps17 rfl (Ac rfl (Ac rfl (Ac rfl (An _)))) Fn ?_
 refine Cs ?_
 refine Kh rfl (Oy rfl rfl) ?_
 intro b3
 refine Kh rfl (Oy rfl rfl) ?_
 intro b4
 refine Kh rfl (Oy rfl rfl) ?_
 intro b5
 refine Ka rfl (Ka rfl (Nt (Cq (Cs ?_))))
 refine Kq rfl (lda rfl rfl .tc u26 rfl ?_) ?_
 ·kernel_rfl
 refine Kq rfl (rd_mkf rfl rfl rfl) (Kq rfl (Fa (q := 0) rfl rfl u28 rfl rfl) (Kq rfl (Ld rfl rfl .tc u22) ?_))
 refine Kq rfl (Fa (q := 1) rfl rfl u28 rfl rfl) (Kq rfl (Ld rfl rfl .tc u22) ?_)
 refine Kh rfl (og_bs1 rfl rfl u31 (by kernel_rfl : _ = some (some (.string (S [])), 1, 16)) rfl (by simp only [List.map]; rfl) rfl rfl ?_ (by decide)) ?_
 ·simp [Value.cells]
 intro b17
 refine Ku rfl (Oc rfl rfl (Kv fun w hS => elready_c (k := k) (fk := 55) (okb := decide (okN s)) (l := [c.1, c.2]) (by (exact hS.os)) (by simp) (by exact hm8) (by kernel_rfl) (by exact fun w' hb => eldec1_c (fact_keep hS.os hb)))) ?_
 refine Ka rfl (Nt (Cs (Km rfl (Kq rfl (rd_neq rfl rfl rfl) (Nt ?_)))))
 refine Cd rfl (fun hc20 => ?_) (fun hc20 => ?_)
 ·(try simp only [sB] at hc20)
  refine Cs (Km rfl (Ka rfl (Ka rfl (Nt (Ce (Xb ?_))))))
  exact R2 rfl rfl rfl (by rw [decS, if_pos (by simpa using hc20)]; rfl)
 ·(try simp only [sB] at hc20)
  have h0 : rdyY k (decide (okN s)) [c.1, c.2] = 0 := by simpa using hc20
  obtain ⟨hY, hs, hel⟩ := rdyY_ok h0
  have hs : okN s := of_decide_eq_true hs
  obtain ⟨_, hg, _, _, _, _⟩ := chkY_ok hY
  have h1 : elG k.1 c.1 := hel _ (by simp)
  have h2 : elG k.1 c.2 := hel _ (by simp)
  refine Ck (Xa (Cq ?_))
  refine WC.joinP (σ := Unit) [(3, _), (4, _), (5, _)] (fun gq => [(41, .bool (decide (s = [] ∨ 0 ≤ cmpN s k.1.2 ∨ (prodS k.1 [k.2.1] [(false, s)]).1 ≠ k.2.2)))]) (fun gq => True) (S3 rfl rfl rfl) ?_ ?_
  ·skip
   refine Cf [0, 1, 2, 3, 4, 5, 6, 7, 8, 9, 10, 11, 12, 13, 14, 15, 16, 17, 18, 19] [] [0, 0, 0, 0, 0, 0, 0, 1, 0, 0, 0, 0, 0, 0, 0, 1, 0, 0, 0, 0] (by kernel_rfl) (by kernel_rfl) rfl ?_
   refine Kj rfl (Ld rfl rfl .tc u22) ?_
   refine Kj rfl (rd_seq rfl rfl rfl) (Kj rfl (Rm rfl rfl) ?_)
   refine WJ.bool 24 rfl (fun hg24 => ?_) (fun hg24 => ?_)
   ·(try simp only [sB] at hg24)
    refine Js rfl rfl rfl rfl (Js rfl rfl rfl rfl (Js rfl rfl rfl rfl (Js rfl rfl rfl rfl (Js rfl rfl rfl rfl (Js rfl rfl rfl rfl (Kj rfl (Rp rfl rfl rfl) (Kj rfl (Rm rfl rfl) (Js rfl rfl rfl rfl (Js rfl rfl rfl rfl (Js rfl rfl rfl rfl (Js rfl rfl rfl rfl (Js rfl rfl rfl rfl (Js rfl rfl rfl rfl (Js rfl rfl rfl rfl (Js rfl rfl rfl rfl (Kj rfl (Rp rfl rfl rfl) ?_))))))))))))))))
    refine WJ.nil ?_
    refine Nn ?_
    refine WX.joinP (()) (S3 rfl rfl rfl) (by refine (Sc ?_ (S0 _)) <;> ((refine slot_b rfl ?_; (try dsimp only); (simp [*]; done)))) ?_ (by (exact fun _ h => h))
    (try dsimp only)
    done
   ·(try simp only [sB] at hg24)
    refine Kj rfl (Ld rfl rfl .tc u22) ?_
    refine Kj rfl (Fa (q := 0) rfl rfl u26 rfl rfl) (Kj rfl (Fa (q := 1) rfl rfl u24 rfl rfl) (Kj rfl (Ld rfl rfl .tc u22) ?_))
    refine Jv rfl rfl rfl rfl rfl (fun ext => Oc rfl rfl (Kv fun w hS => Cmp_c (a := s) (b := k.1.2))) ?_
    refine Kj rfl (rd_geq rfl rfl rfl) (Kj rfl (Rq rfl rfl rfl) (Kj rfl (Rm rfl rfl) ?_))
    refine WJ.bool 32 rfl (fun hg32 => ?_) (fun hg32 => ?_)
    ·(try simp only [sB] at hg32)
     refine Js rfl rfl rfl rfl (Js rfl rfl rfl rfl (Js rfl rfl rfl rfl (Js rfl rfl rfl rfl (Js rfl rfl rfl rfl (Js rfl rfl rfl rfl (Js rfl rfl rfl rfl (Js rfl rfl rfl rfl (Kj rfl (Rp rfl rfl rfl) ?_))))))))
     refine WJ.nil ?_
     refine Nn ?_
     refine WX.joinP (()) (S3 rfl rfl rfl) (by refine (Sc ?_ (S0 _)) <;> ((refine slot_b rfl ?_; (try dsimp only); (simp [*]; done)))) ?_ (by (exact fun _ h => h))
     (try dsimp only)
     done
    ·(try simp only [sB] at hg32)
     refine Kj rfl (lda rfl rfl .tc u26 rfl ?_) ?_
     ·kernel_rfl
     refine Kj rfl (Fa (q := 2) rfl rfl u26 rfl rfl) (Kj rfl (Ld rfl rfl .tc u22) ?_)
     refine Kj rfl (Ld rfl rfl .tc u22) ?_
     refine Jv rfl rfl rfl rfl rfl (fun ext => Oc rfl rfl (Kv fun w hS => elexp_c (k := k) (b := k.2.1) (z := s) (by assumption))) ?_
     refine Kj rfl (Fa (q := 3) rfl rfl u26 rfl rfl) (Kj rfl (Ld rfl rfl .tc u22) ?_)
     refine Kj rfl (rd_sne rfl rfl rfl) (Kj rfl (Rq rfl rfl rfl) ?_)
     refine WJ.nil ?_
     refine Nn ?_
     refine WX.joinP (()) (S3 rfl rfl rfl) (by refine (Sc ?_ (S0 _)) <;> ((refine congrArg (fun b => some (Value.bool b)) ?_; simp [*]; omega))) ?_ (by (exact fun _ h => h))
     (try dsimp only)
     done
  ·rintro _ hmeet; (try dsimp only at hmeet ⊢)
   refine Cd rfl (fun hc41 => ?_) (fun hc41 => ?_)
   ·(try simp only [sB] at hc41)
    have hn : ¬ isS k s := fun h => (isS_iff hY hs).1 h hc41
    refine Cs (Ka rfl (Ka rfl (Nt (Ce (Xb ?_)))))
    exact R2 rfl rfl rfl (by rw [decS, if_neg (fun h => h h0), if_pos hn]; rfl)
   ·(try simp only [sB] at hc41)
    have hi : isS k s := (isS_iff hY hs).2 hc41
    refine Ck (Xa (Cs (Kq rfl (Fa (q := 0) rfl rfl u26 rfl rfl) ?_)))
    refine Kq rfl (ldp rfl rfl .tc u24 rfl (by kernel_rfl : _ = some 2) (by rfl) (by rfl)) ?_
    refine Kq rfl (Fa (q := 1) rfl rfl u28 rfl rfl) (Kq rfl (Ld rfl rfl .tc u22) ?_)
    refine Kq rfl (Fa (q := 0) rfl rfl u28 rfl rfl) (Kq rfl (Ld rfl rfl .tc u22) ?_)
    refine Kh rfl (og_bs1 rfl rfl u31 (by kernel_rfl : _ = some (some (.string (S [])), 1, 16)) rfl (by simp only [List.map]; rfl) rfl rfl ?_ (by decide)) ?_
    ·simp [Value.cells]
    intro b49
    refine Kq rfl (Kb [[.bool false], [.string (S [])]] rfl rfl) (Kq rfl (Ld rfl rfl .tc u22) ?_)
    refine Kq rfl (Kb [[.bool false], [.string (S [])]] rfl rfl) ?_
    refine Kh rfl (og_bsN rfl rfl u71 (by kernel_rfl : _ = some (some (.agg #[.bool false, .string (S [])]), 2, 24)) (by kernel_rfl) (by decide) rfl rfl (by (simp [Value.cells]; done)) (by (simp only [List.map, Value.cells, List.flatMap_cons, List.flatMap_nil, List.append_nil, List.toList_toArray]; rfl)) (by decide)) ?_
    intro b53
    refine Ku rfl (Oc rfl rfl (Kv fun w hS => (by have := pproduct_c (w := w) (g := k.1) (l := [c.2, c.1]) (es := [(false, canon 1), (true, s)]) (a := some ⟨b49, 0, none⟩) (b := some ⟨b53, 0, none⟩) (c := 2) (d := 2) hS.os hS.os (by simp) (by simp) hm8; rw [dec_code hg h1 h2 hs hi.1] at this; exact this))) ?_
    refine Km rfl (Kq rfl (Re rfl rfl rfl) (Kq rfl (Re rfl rfl rfl) (Ka rfl (Ka rfl (Nt (Cs (Km rfl (Ka rfl (Ka rfl (Nt (Ce ?_)))))))))))
    exact R2 rfl rfl rfl (by rw [decS, if_neg (fun h => h h0), if_neg (fun h => h hi)]; rfl)
theorem elmulc_c {k : PK} {a b : Cp} {w : World} (hm8 : k.1.1.length ≤ 8) :
  Cw 31 #[pkV k, cpV a, cpV b] w (CE (mulC k a b)) := by
 refine En [] [(0, pkV k), (1, cpV a), (2, cpV b)] Tryz.func31 rfl Tryz.ntmps31 rfl (Ac rfl (Ac rfl (Ac rfl (An _)))) Fn ?_
 refine Cs ?_
 refine Kh rfl (Oy rfl rfl) ?_
 intro b3
 refine Kh rfl (Oy rfl rfl) ?_
 intro b4
 refine Kh rfl (Oy rfl rfl) ?_
 intro b5
 refine Kh rfl (Oz [.string (S []), .string (S [])] rfl) ?_
 intro b6
 refine Ka rfl (Nt (Cq (Cs ?_)))
 refine Kq rfl (lda rfl rfl .tc u26 rfl ?_) ?_
 ·kernel_rfl
 refine Kq rfl (Fa (q := 0) rfl rfl u28 rfl rfl) (Kq rfl (Ld rfl rfl .tc u22) ?_)
 refine Kq rfl (Fa (q := 1) rfl rfl u28 rfl rfl) (Kq rfl (Ld rfl rfl .tc u22) ?_)
 refine Kq rfl (Fa (q := 0) rfl rfl u28 rfl rfl) (Kq rfl (Ld rfl rfl .tc u22) ?_)
 refine Kq rfl (Fa (q := 1) rfl rfl u28 rfl rfl) (Kq rfl (Ld rfl rfl .tc u22) ?_)
 refine Kh rfl (og_bs1 rfl rfl u31 (by kernel_rfl : _ = some (some (.string (S [])), 1, 16)) rfl (by simp only [List.map]; rfl) rfl rfl ?_ (by decide)) ?_
 ·simp [Value.cells]
 intro b18
 refine Ku rfl (Oc rfl rfl (Kv fun w hS => elready_c (k := k) (fk := 77) (cs := #[]) (okb := true) (l := [a.1, a.2, b.1, b.2]) (by (exact hS.os)) (by simp) (by exact hm8) (by kernel_rfl) (by exact fun w' hb => elalways_c))) ?_
 refine Ka rfl (Nt (Cs (Km rfl (Kq rfl (rd_neq rfl rfl rfl) (Nt ?_)))))
 refine Cd rfl (fun hc21 => ?_) (fun hc21 => ?_)
 ·(try simp only [sB] at hc21)
  refine Cs (Kq rfl (Kb [[.string (S [])], [.string (S [])]] rfl rfl) (Km rfl ?_))
  refine Nu rfl rfl (Sa rfl rfl rfl .tc) ?_
  refine Ka rfl (Nt (Ce (Xb ?_)))
  exact Rn rfl (.agg rfl .tc u28 rfl (by kernel_rfl) (.tmp rfl .nil)) fun w' hS => ⟨by rw [mulC, if_pos (by simpa using hc21)]; rfl, hS.below⟩
 ·(try simp only [sB] at hc21)
  have h0 : rdyY k true [a.1, a.2, b.1, b.2] = 0 := by simpa using hc21
  obtain ⟨hY, _, hel⟩ := rdyY_ok h0
  obtain ⟨_, hg, _, _, _, _⟩ := chkY_ok hY
  have hr : mulC k a b = ((canon (val a.1 * val b.1 % val k.1.1), canon (val a.2 * val b.2 % val k.1.1)), 0) := by rw [mulC, if_neg (fun h => h h0)]
  refine Ck (Xa (Cq ?_))
  refine Cf [0, 1, 2, 3, 4, 5, 6, 7, 8, 9, 10, 11, 12] [13, 14] [0, 0, 0, 0, 0, 1, 0, 0, 0, 0, 0, 1, 0, 2, 2] (by kernel_rfl) (by kernel_rfl) rfl ?_
  refine Kj rfl (lda rfl rfl .tc u26 rfl ?_) ?_
  ·kernel_rfl
  refine Kj rfl (Fa (q := 0) rfl rfl u28 rfl rfl) (Kj rfl (Ld rfl rfl .tc u22) ?_)
  refine Kj rfl (Fa (q := 0) rfl rfl u28 rfl rfl) (Kj rfl (Ld rfl rfl .tc u22) ?_)
  refine Jv rfl rfl rfl rfl rfl (fun ext => Oc rfl rfl (Kv fun w hS => (by have := elmul_c (w := w) (k := k) (a := a.1) (b := b.1) hm8; rw [mulS_ok hg (hel _ (by simp)) (hel _ (by simp))] at this; exact this))) ?_
  refine Kj rfl (lda rfl rfl .tc u26 rfl ?_) ?_
  ·kernel_rfl
  refine Kj rfl (Fa (q := 1) rfl rfl u28 rfl rfl) (Kj rfl (Ld rfl rfl .tc u22) ?_)
  refine Kj rfl (Fa (q := 1) rfl rfl u28 rfl rfl) (Kj rfl (Ld rfl rfl .tc u22) ?_)
  refine Jv rfl rfl rfl rfl rfl (fun ext => Oc rfl rfl (Kv fun w hS => (by have := elmul_c (w := w) (k := k) (a := a.2) (b := b.2) hm8; rw [mulS_ok hg (hel _ (by simp)) (hel _ (by simp))] at this; exact this))) ?_
  refine Kj rfl (Kb [[.string (S [])], [.string (S [])]] rfl rfl) ?_
  refine WJ.nil ?_
  refine Nu rfl rfl (Sa rfl rfl rfl .tc) ?_
  refine Ka rfl (Nt (Ce ?_))
  exact Rn rfl (.agg rfl .tc u28 rfl (by kernel_rfl) (.tmp rfl .nil)) fun w' hS => ⟨by rw [hr]; rfl, hS.below⟩
theorem elstate_c {k : PK} {c : Cp} {b v : Bs} {w : World} {ok : Nat → Prop} (hm8 : k.1.1.length ≤ 8) :
  Calls Tryz.prog 19 #[pkV k, cpV c, .string (S b), .string (S v)] w fun e w' => ∃ gx : SA, e = .returned (SME gx (stS k c b v).2) ∧ (gx.core = (stS k c b v).1) ∧ Below w.heap.size w w' ∧ ∀ x ∈ (saF gx : List Fact), x.holds (fun b => ok b ∨ w.heap.size ≤ b) w' := by
 refine enter (S := St (fun b => ok b ∨ w.heap.size ≤ b) w [] ([])) (L := [(0, pkV k), (1, cpV c), (2, .string (S b)), (3, .string (S v))]) Tryz.func19 rfl Tryz.ntmps19 rfl (Ac rfl (Ac rfl (Ac rfl (Ac rfl (An _))))) (St.start (fun _ h => Or.inr h) (facts_or Fn)) ?_
 refine Cs ?_
 refine Kh rfl (Oy rfl rfl) ?_
 intro b4
 refine Kh rfl (Oy rfl rfl) ?_
 intro b5
 refine Kh rfl (Oy rfl rfl) ?_
 intro b7
 refine Kh rfl (Oz [.slice none 0 0, .slice none 0 0, .slice none 0 0] rfl) ?_
 intro b8
 refine Ka rfl (Nt (Cq (Cs ?_)))
 refine Kq rfl (lda rfl rfl .tc u26 rfl ?_) ?_
 ·kernel_rfl
 refine Kq rfl (rd_mkf rfl rfl rfl) (Kq rfl (Fa (q := 0) rfl rfl u28 rfl rfl) (Kq rfl (Ld rfl rfl .tc u22) ?_))
 refine Kq rfl (Fa (q := 1) rfl rfl u28 rfl rfl) (Kq rfl (Ld rfl rfl .tc u22) ?_)
 refine Km rfl ?_
 refine Kh rfl (og_bs1 rfl rfl u31 (by kernel_rfl : _ = some (some (.string (S [])), 1, 16)) rfl (by simp only [List.map]; rfl) rfl rfl ?_ (by decide)) ?_
 ·simp [Value.cells]
 intro b18
 refine Ku rfl (Oc rfl rfl (Kv fun w hS => elready_c (k := k) (fk := 64) (okb := decide (okN v)) (l := [c.1, c.2, b]) (by (exact hS.os)) (by simp) (by exact hm8) (by kernel_rfl) (by exact fun w' hb => elst1_c (fact_keep hS.os hb)))) ?_
 refine Ka rfl (Nt (Cs (Km rfl (Kq rfl (rd_neq rfl rfl rfl) (Nt ?_)))))
 refine Cd rfl (fun hc21 => ?_) (fun hc21 => ?_)
 ·(try simp only [sB] at hc21)
  have hr : stS k c b v = (([], [], []), stE k c b v) := by rw [stS, if_pos (show stE k c b v ≠ 0 from hc21)]
  refine Cs (Kq rfl (Kb [[.slice none 0 0], [.slice none 0 0], [.slice none 0 0]] rfl rfl) (Km rfl ?_))
  refine Nu rfl rfl (Sa rfl rfl rfl .tc) ?_
  refine Ka rfl (Nt (Ce (Xb ?_)))
  exact Rn rfl (.agg rfl .tc u52 rfl (by kernel_rfl) (.tmp rfl .nil)) fun w' hS => sm_err hr hS
 ·(try simp only [sB] at hc21)
  have h9 : rdyY k (decide (okN v)) [c.1, c.2, b] = 0 := by simpa using hc21
  have hr : stS k c b v = (stQ k c b v, 0) := by rw [stS, if_neg (fun h => h (show stE k c b v = 0 from h9))]
  refine Ck (Xa (Cq ?_))
  refine Cf [9, 10, 11, 16, 17, 18, 19, 20, 0, 1, 2, 3, 4, 5, 6, 7, 8, 12, 13, 14, 15, 21, 22, 23, 24] [25, 26] [0, 0, 3, 0, 0, 0, 3, 0, 0, 0, 0, 1, 3, 0, 0, 0, 0, 1, 0, 0, 1, 3, 0, 3, 0, 2, 2] (by kernel_rfl) (by kernel_rfl) rfl ?_
  refine Kj rfl (Fa (q := 2) rfl rfl u26 rfl rfl) (Kj rfl (Ld rfl rfl .tc u22) ?_)
  refine Jv rfl rfl rfl rfl rfl (fun ext => Oc rfl rfl (Kv fun w hS => elterm_c (b := k.2.1) (v := 1))) ?_
  refine Kj rfl (Rm rfl rfl) ?_
  refine Jv rfl rfl rfl rfl rfl (fun ext => Oc rfl rfl (Kv fun w hS => elterm_c (b := b) (v := 0))) ?_
  refine Kj rfl (Fa (q := 3) rfl rfl u26 rfl rfl) (Kj rfl (Ld rfl rfl .tc u22) ?_)
  refine Jv rfl rfl rfl rfl rfl (fun ext => Oc rfl rfl (Kv fun w hS => elterm_c (b := k.2.2) (v := 1))) ?_
  refine Kj rfl (Fa (q := 0) rfl rfl u26 rfl rfl) ?_
  refine Kj rfl (ldp rfl rfl .tc u24 rfl (by kernel_rfl : _ = some 2) (by rfl) (by rfl)) ?_
  refine Jf rfl rfl rfl rfl rfl (fr_bsN rfl rfl u48 (by kernel_rfl : _ = some (some (.agg #[.string (S []), .string (S [])]), 2, 32)) (by kernel_rfl) (by decide) rfl rfl (by (simp [Value.cells]; done)) (by (exact cells_one _)) (by decide)) ?_
  intro b26
  refine Kj rfl (Ld rfl rfl .tc u22) ?_
  refine Kj rfl (Kb [[.string (S [])]] rfl rfl) (Kj rfl (Kb [[.string (S [])]] rfl rfl) ?_)
  refine Jf rfl rfl rfl rfl rfl (fr_bsN rfl rfl u49 (by kernel_rfl : _ = some (some (.agg #[.string (S [])]), 1, 16)) (by kernel_rfl) (by decide) rfl rfl (by (simp [Value.cells]; done)) (by (simp only [List.map, Value.cells, List.flatMap_cons, List.flatMap_nil, List.append_nil, List.toList_toArray]; rfl)) (by decide)) ?_
  intro b30
  refine Kj rfl (Fa (q := 0) rfl rfl u28 rfl rfl) (Kj rfl (Ld rfl rfl .tc u22) ?_)
  refine Jf rfl rfl rfl rfl rfl (fr_bsN rfl rfl u121 (by kernel_rfl : _ = some (some (.agg #[.string (S []), .int .i64 0, .bool false, .string (S [])]), 4, 48)) (by kernel_rfl) (by decide) rfl rfl (by (simp [Value.cells]; done)) (by (exact cells_one _)) (by decide)) ?_
  intro b36
  refine Kj rfl (Kb [[.int .i64 0], [.string (S [])], [.slice none 0 0]] rfl rfl) (Kj rfl (Fa (q := 1) rfl rfl u28 rfl rfl) (Kj rfl (Ld rfl rfl .tc u22) ?_))
  refine Jf rfl rfl rfl rfl rfl (fr_bsN rfl rfl u121 (by kernel_rfl : _ = some (some (.agg #[.string (S []), .int .i64 0, .bool false, .string (S [])]), 4, 48)) (by kernel_rfl) (by decide) rfl rfl (by (simp [Value.cells]; done)) (by (simp only [List.map, Value.cells, List.flatMap_cons, List.flatMap_nil, List.append_nil, List.toList_toArray]; rfl)) (by decide)) ?_
  intro b45
  refine Kj rfl (Kb [[.int .i64 0], [.string (S [])], [.slice none 0 0]] rfl rfl) ?_
  refine Jf rfl rfl rfl rfl rfl (fr_bsN rfl rfl u50 (by kernel_rfl : _ = some (some (.agg #[.int .i64 0, .string (S []), .slice none 0 0]), 3, 48)) (by kernel_rfl) (by decide) rfl rfl (by (simp [Value.cells]; done)) (by (simp only [List.map, Value.cells, List.flatMap_cons, List.flatMap_nil, List.append_nil, List.toList_toArray]; rfl)) (by decide)) ?_
  intro b47
  refine Kj rfl (Kb [[.slice none 0 0], [.slice none 0 0], [.slice none 0 0]] rfl rfl) ?_
  refine WJ.nil ?_
  refine Nu rfl rfl (Sa rfl rfl rfl .tc) ?_
  refine Ka rfl (Nt (Ce ?_))
  exact Rn rfl (.agg rfl .tc u52 rfl (by kernel_rfl) (.tmp rfl .nil)) fun w' hS => ⟨⟨[k.1], [v, []], [((0, c.1, [trm k.2.1 1]), some ⟨b36, 0, none⟩, 1), ((0, c.2, [trm b 0, trm k.2.2 1]), some ⟨b45, 0, none⟩, 2)], some ⟨b26, 0, none⟩, 1, some ⟨b30, 0, none⟩, 2, some ⟨b47, 0, none⟩, 2⟩, by rw [hr]; rfl, by rw [hr]; rfl, hS.below, Fc hS.osk (Fc hS.osk (Fc hS.osk (Fc hS.osk (Fc hS.osk Fn))))⟩
theorem rmulg_c {g : Gp} {a b : Bs} {w : World} (hm8 : g.1.length ≤ 8) :
  Cw 79 #[gV g, .string (S a), .string (S b)] w (NE (mulS g a b)) := by
 refine En [] [(0, gV g), (1, .string (S a)), (2, .string (S b))] Tryz.func79 rfl Tryz.ntmps79 rfl (Ac rfl (Ac rfl (Ac rfl (An _)))) Fn ?_
 refine Cs ?_
 refine Kh rfl (Oy rfl rfl) ?_
 intro b3
 refine Ka rfl (Ka rfl (Nt (Cq ?_)))
 refine WC.joinP (σ := Unit) [(1, _), (2, _), (3, _)] (fun gq => [(18, .bool (decide (¬ (okN a ∧ okN b))))]) (fun gq => True) (S3 rfl rfl rfl) ?_ ?_
 ·skip
  refine Cg (Km rfl ?_)
  refine Ku rfl (Oc rfl rfl (Kv fun w hS => rvalid_c (a := a))) ?_
  refine Kq rfl (Rt rfl rfl) (Km rfl ?_)
  refine Nb 14 rfl (fun hg14 => ?_) (fun hg14 => ?_)
  ·(try simp only [sB] at hg14)
   refine Kt rfl (Kt rfl (Kt rfl (Kq rfl (Rp rfl rfl rfl) (Nn ?_))))
   refine WX.joinP (()) (S3 rfl rfl rfl) (by refine (Sc ?_ (S0 _)) <;> ((refine slot_b rfl ?_; (try dsimp only); (simp [*]; done)))) ?_ (by (exact fun _ h => h))
   (try dsimp only)
   done
  ·(try simp only [sB] at hg14)
   refine Km rfl ?_
   refine Ku rfl (Oc rfl rfl (Kv fun w hS => rvalid_c (a := b))) ?_
   refine Kq rfl (Rt rfl rfl) (Kq rfl (Rq rfl rfl rfl) (Nn ?_))
   refine WX.joinP (()) (S3 rfl rfl rfl) (by refine (Sc ?_ (S0 _)) <;> ((refine slot_b rfl ?_; (try dsimp only); (simp [*]; done)))) ?_ (by (exact fun _ h => h))
   (try dsimp only)
   done
 ·rintro _ hmeet; (try dsimp only at hmeet ⊢)
  refine Cd rfl (fun hc18 => ?_) (fun hc18 => ?_)
  ·(try simp only [sB] at hc18)
   have hr : mulS g a b = ([], 3) := by
    have e : chkP g [a, b] [] true = 3 := by rw [chkP, if_pos (fun h => hc18 ⟨h a (by simp), h b (by simp)⟩)]
    rw [mulS, e, if_pos (by decide)]
   refine Cs (Ka rfl (Ka rfl (Nt (Ce (Xb ?_)))))
   exact R2 rfl rfl rfl (by rw [hr]; rfl)
  ·(try simp only [sB] at hc18)
   have hab := Decidable.not_not.1 hc18
   have e1 : ∀ z ∈ [a, b], okN z := by intro z hz; simp at hz; rcases hz with rfl | rfl; exact hab.1; exact hab.2
   refine Ck (Xa (Cq (Cs ?_)))
   refine Kq rfl (lda rfl rfl .tc u24 rfl ?_) ?_
   ·kernel_rfl
   refine Ku rfl (Oc rfl rfl (Kv fun w hS => rgcheck_c (g := g))) ?_
   refine Ka rfl (Nt (Cs (Km rfl (Kq rfl (rd_neq rfl rfl rfl) (Nt ?_)))))
   refine Cd rfl (fun hc22 => ?_) (fun hc22 => ?_)
   ·(try simp only [sB] at hc22)
    have hr : mulS g a b = ([], chkG g) := by
     have e : chkP g [a, b] [] true = chkG g := by rw [chkP, if_neg (fun h => h e1), if_neg (fun h => h (by simp)), if_pos hc22]
     rw [mulS, e, if_pos hc22]
    refine Cs (Km rfl (Ka rfl (Ka rfl (Nt (Ce (Xb ?_))))))
    exact R2 rfl rfl rfl (by rw [hr]; rfl)
   ·(try simp only [sB] at hc22)
    have hg : chkG g = 0 := by simpa using hc22
    refine Ck (Xa (Cq ?_))
    refine WC.joinP (σ := Unit) [(1, _), (2, _), (3, _)] (fun gq => [(33, .bool (decide (¬ (elG g a ∧ elG g b))))]) (fun gq => True) (S3 rfl rfl rfl) ?_ ?_
    ·skip
     refine Cg ?_
     refine Kq rfl (lda rfl rfl .tc u24 rfl ?_) ?_
     ·kernel_rfl
     refine Km rfl ?_
     refine Ku rfl (Oc rfl rfl (Kv fun w hS => rghas0_c (g := g) (x := a) (by exact hg) (by exact hab.1) (by exact hm8))) ?_
     refine Kq rfl (Rt rfl rfl) (Km rfl ?_)
     refine Nb 28 rfl (fun hg28 => ?_) (fun hg28 => ?_)
     ·(try simp only [sB] at hg28)
      refine Kt rfl (Kt rfl (Kt rfl (Kt rfl (Kq rfl (Rp rfl rfl rfl) (Nn ?_)))))
      refine WX.joinP (()) (S3 rfl rfl rfl) (by refine (Sc ?_ (S0 _)) <;> ((refine slot_b rfl ?_; (try dsimp only); (simp [*]; done)))) ?_ (by (exact fun _ h => h))
      (try dsimp only)
      done
     ·(try simp only [sB] at hg28)
      refine Kq rfl (lda rfl rfl .tc u24 rfl ?_) ?_
      ·kernel_rfl
      refine Km rfl ?_
      refine Ku rfl (Oc rfl rfl (Kv fun w hS => rghas0_c (g := g) (x := b) (by exact hg) (by exact hab.2) (by exact hm8))) ?_
      refine Kq rfl (Rt rfl rfl) (Kq rfl (Rq rfl rfl rfl) (Nn ?_))
      refine WX.joinP (()) (S3 rfl rfl rfl) (by refine (Sc ?_ (S0 _)) <;> ((refine slot_b rfl ?_; (try dsimp only); (simp [*]; done)))) ?_ (by (exact fun _ h => h))
      (try dsimp only)
      done
    ·rintro _ hmeet; (try dsimp only at hmeet ⊢)
     refine Cd rfl (fun hc33 => ?_) (fun hc33 => ?_)
     ·(try simp only [sB] at hc33)
      have hr : mulS g a b = ([], 13) := by
       have e : chkP g [a, b] [] true = 13 := by rw [chkP, if_neg (fun h => h e1), if_neg (fun h => h (by simp)), if_neg (fun h => h hg), if_neg (by simp), if_pos (fun h => hc33 ⟨h a (by simp), h b (by simp)⟩)]
       rw [mulS, e, if_pos (by decide)]
      refine Cs (Ka rfl (Ka rfl (Nt (Ce (Xb ?_)))))
      exact R2 rfl rfl rfl (by rw [hr]; rfl)
     ·(try simp only [sB] at hc33)
      obtain ⟨hea, heb⟩ := Decidable.not_not.1 hc33
      have hr := mulS_ok hg hea heb
      obtain ⟨hgm, _, hgm2, _, _⟩ := chkG_ok hg
      have hmm : mulM a b g.1 = (canon (val a * val b % val g.1), 0) := mulM_ok hea.1 heb.1 hgm (fun h => by rw [h] at hgm2; exact absurd hgm2 (by decide))
      refine Ck (Xa (Cs (Km rfl (Km rfl (Kq rfl (Fa (q := 0) rfl rfl u24 rfl rfl) (Kq rfl (Ld rfl rfl .tc u22) ?_))))))
      refine Ku rfl (Oc rfl rfl (Kv fun w hS => rmmul_c (by assumption))) ?_
      refine Km rfl (Kq rfl (Re rfl rfl rfl) (Kq rfl (Re rfl rfl rfl) (Ka rfl (Ka rfl (Nt (Cs (Km rfl (Ka rfl (Ka rfl (Nt (Ce ?_)))))))))))
      exact R2 rfl rfl rfl (by rw [hr, hmm]; rfl)
theorem eltimes_c {k : PK} {x b z : Bs} {w : World} (hm8 : k.1.1.length ≤ 8) :
  Cw 53 #[pkV k, .string (S x), .string (S b), .string (S z)] w (.string (S (prodS k.1 [x, b] [ofZ 1, fromZ z]).1)) := by
 refine En [] [(0, pkV k), (1, .string (S x)), (2, .string (S b)), (3, .string (S z))] Tryz.func53 rfl Tryz.ntmps53 rfl (Ac rfl (Ac rfl (Ac rfl (Ac rfl (An _))))) Fn ?_
 refine Cs ?_
 refine Kh rfl (Oy rfl rfl) ?_
 intro b4
 refine Ka rfl (Nt (Cq ?_))
 refine Cf [5, 6, 7, 0, 1, 2, 3, 4, 8, 9, 10, 11, 12, 13, 14] [] [0, 0, 0, 0, 3, 1, 0, 1, 3, 1, 0, 0, 0, 0, 0] (by kernel_rfl) (by kernel_rfl) rfl ?_
 refine Jv rfl rfl rfl rfl rfl (fun ext => Oc rfl rfl (Kv fun w hS => rzof_c (n := 1) (by omega) (by omega))) ?_
 refine Kj rfl (Rm rfl rfl) ?_
 refine Jv rfl rfl rfl rfl rfl (fun ext => Oc rfl rfl (Kv fun w hS => rfrom_c (a := z))) ?_
 refine Kj rfl (Fa (q := 0) rfl rfl u26 rfl rfl) ?_
 refine Kj rfl (ldp rfl rfl .tc u24 rfl (by kernel_rfl : _ = some 2) (by rfl) (by rfl)) ?_
 refine Kj rfl (Rm rfl rfl) (Kj rfl (Rm rfl rfl) ?_)
 refine Jf rfl rfl rfl rfl rfl (fr_bs1 rfl rfl u31 (by kernel_rfl : _ = some (some (.string (S [])), 1, 16)) rfl (by simp only [List.map]; rfl) rfl rfl ?_ (by decide)) ?_
 ·simp [Value.cells]
 intro b16
 refine Jf rfl rfl rfl rfl rfl (fr_bsN rfl rfl u71 (by kernel_rfl : _ = some (some (.agg #[.bool false, .string (S [])]), 2, 24)) (by kernel_rfl) (by decide) rfl rfl (by (simp [Value.cells]; done)) (by (simp only [List.map, Value.cells, List.flatMap_cons, List.flatMap_nil, List.append_nil, List.toList_toArray]; rfl)) (by decide)) ?_
 intro b20
 refine Jv rfl rfl rfl rfl rfl (fun ext => Oc rfl rfl (Kv fun w hS => rproduct_c (g := k.1) (l := [x, b]) (es := [ofZ 1, fromZ z]) (by (exact hS.os)) (by (exact hS.os)) (by (simp <;> omega)) (by (simp <;> omega)) (by assumption))) ?_
 refine Kj rfl (Rm rfl rfl) (Kj rfl (Re rfl rfl rfl) (Kj rfl (Re rfl rfl rfl) (Kj rfl (Ra rfl rfl) (Kj rfl (Ra rfl rfl) ?_))))
 refine WJ.nil ?_
 refine Nt (Cs (Km rfl (Ka rfl (Nt (Ce ?_)))))
 exact R1 rfl rfl (by rfl)
def rdA (t : Bool) (l : List Bs) (i : Nat) : Bool := t && (l.take i).all fun x => decide (okN x)
theorem rdA_succ {t : Bool} {l : List Bs} {i : Nat} (h : i < l.length) : rdA t l (i + 1) = (rdA t l i && decide (okN (l.getD i default))) := by
 rw [rdA, rdA, take_succ_getD h, List.all_append]; simp [Bool.and_assoc]
theorem rdA_zero {t : Bool} {l : List Bs} : rdA t l 0 = t := by simp [rdA]
theorem rdA_all {t : Bool} {l : List Bs} : rdA t l l.length = true ↔ t = true ∧ ∀ x ∈ l, okN x := by simp [rdA]
theorem relready_c {k : PK} {l1 l2 : List Bs} {t : Bool} {a1 a2 : Option Addr} {c1 c2 : Nat} {w : World} {ok : Nat → Prop} (hF1 : (Fact.sl a1 (strs l1)).holds ok w) (hF2 : (Fact.sl a2 (strs l2)).holds ok w) (hl1 : l1.length ≤ 1000) (hl2 : l2.length ≤ 1000) (hm8 : k.1.1.length ≤ 8) :
  Cw 50 #[pkV k, .slice a1 l1.length c1, .slice a2 l2.length c2, .bool t] w (.int .i64 (rdyY k (decide (t = true ∧ ∀ x ∈ l1, okN x)) l2)) := by
 refine En [Fact.sl a1 (strs l1), Fact.sl a2 (strs l2)] [(0, pkV k), (1, .slice a1 l1.length c1), (2, .slice a2 l2.length c2), (3, .bool t)] Tryz.func50 rfl Tryz.ntmps50 rfl (Ac rfl (Ac rfl (Ac rfl (Ac rfl (An _))))) (Fc (fact_any hF1) (Fc (fact_any hF2) Fn)) ?_
 refine Cs ?_
 refine Kh rfl (Oy rfl rfl) ?_
 intro b4
 refine Ka rfl (Nt (Cq (Cs ?_)))
 refine Kq rfl (lda rfl rfl .tc u26 rfl ?_) ?_
 ·kernel_rfl
 refine Ku rfl (Oc rfl rfl (Kv fun w hS => rschcheck_c (k := k) (by assumption))) ?_
 refine Ka rfl (Nt (Cs (Km rfl (Kq rfl (rd_neq rfl rfl rfl) (Nt ?_)))))
 refine Cd rfl (fun hc17 => ?_) (fun hc17 => ?_)
 ·(try simp only [sB] at hc17)
  refine Cs (Km rfl (Ka rfl (Nt (Ce (Xb ?_)))))
  exact R1 rfl rfl (by rw [rdyY, if_pos (by simpa using hc17)]; rfl)
 ·(try simp only [sB] at hc17)
  have hY : chkY k = 0 := by simpa using hc17
  have hg := (chkY_ok hY).2.1
  refine Ck (Xa (Cs (Km rfl ?_)))
  refine Ns 19 rfl (v' := .bool (rdA t l1 0)) (congrArg Value.bool (by rw [rdA_zero])) ?_
  refine Ka rfl (Nt (Cq (Cs (Ka rfl (Nt (Cb ?_))))))
  refine Lp (σ := Nat) [(1, _), (2, _), (4, _)] (fun gq => [(10, .bool (rdA t l1 gq)), (11, .int .i64 (gq : Int))]) (fun gq => gq ≤ l1.length) (fun gq => l1.length - gq) (0) (S3 rfl rfl rfl) (S2 rfl rfl) (by (try dsimp only); exact Nat.zero_le _) ?_
  rintro i hinv1; (try dsimp only at hinv1 ⊢)
  obtain hi := hinv1
  refine Cq (Cs (Km rfl (Km rfl (Kq rfl (rd_len rfl rfl u31) (Kq rfl (rd_lss rfl rfl rfl) (Nt ?_))))))
  refine Cd rfl (fun hc23 => ?_) (fun hc23 => ?_)
  ·(try simp only [sB] at hc23)
   have hil : i < l1.length := by omega
   refine Ck (Xa (Cq (Cb (Cg (Km rfl (Km rfl ?_))))))
   refine Nb 27 rfl (fun hg27 => ?_) (fun hg27 => ?_)
   ·(try simp only [sB] at hg27)
    refine Km rfl (Km rfl ?_)
    refine Kq rfl (Ib rfl rfl rfl u31 (by omega) (by (rw [List.length_map]; omega))) ?_
    refine Kq rfl (ldm rfl rfl u22 rfl (by assumption)) ?_
    refine Ku rfl (Oc rfl rfl (Kv fun w hS => rvalid_c (a := l1.getD i default))) ?_
    refine Kq rfl (Rp rfl rfl rfl) ?_
    refine Ns 33 rfl (v' := .bool (rdA t l1 (i + 1))) (congrArg Value.bool (by rw [rdA_succ hil]; simp [*])) ?_
    refine Ka rfl (Nn (Xd (Xa (Cg (Km rfl (Kq rfl (Rz rfl rfl rfl (by omega)) (Ka rfl (Nn ?_))))))))
    refine Ly (i + 1) (by (try dsimp only); omega) (S3 rfl rfl rfl) (by refine (Sc ?_ (Sc ?_ (S0 _))) <;> (rfl)) ?_ (by (exact fun _ h => h))
    (try dsimp only)
    exact hil
   ·(try simp only [sB] at hg27)
    refine Kt rfl (Kt rfl (Kt rfl (Kt rfl (Kt rfl (Kq rfl (Rq rfl rfl rfl) ?_)))))
    refine Ns 33 rfl (v' := .bool (rdA t l1 (i + 1))) (congrArg Value.bool (by rw [rdA_succ hil]; simp [*])) ?_
    refine Ka rfl (Nn (Xd (Xa (Cg (Km rfl (Kq rfl (Rz rfl rfl rfl (by omega)) (Ka rfl (Nn ?_))))))))
    refine Ly (i + 1) (by (try dsimp only); omega) (S3 rfl rfl rfl) (by refine (Sc ?_ (Sc ?_ (S0 _))) <;> (rfl)) ?_ (by (exact fun _ h => h))
    (try dsimp only)
    exact hil
  ·(try simp only [sB] at hc23)
   refine Cx (Xc (Xc (Xe ?_)))
   obtain rfl : i = l1.length := by omega
   rw [← rdA_zero (t := rdA t l1 l1.length) (l := l2)]
   refine Xa (Cq (Cs (Ka rfl (Nt (Cb ?_)))))
   refine Lp (σ := Nat) [(2, _), (4, _)] (fun gq => [(10, .bool (rdA (rdA t l1 l1.length) l2 gq)), (12, .int .i64 (gq : Int))]) (fun gq => gq ≤ l2.length) (fun gq => l2.length - gq) (0) (S2 rfl rfl) (S2 rfl rfl) (by (try dsimp only); exact Nat.zero_le _) ?_
   rintro j hinv2; (try dsimp only at hinv2 ⊢)
   obtain hj := hinv2
   refine Cq (Cs (Km rfl (Km rfl (Kq rfl (rd_len rfl rfl u31) (Kq rfl (rd_lss rfl rfl rfl) (Nt ?_))))))
   refine Cd rfl (fun hc37 => ?_) (fun hc37 => ?_)
   ·(try simp only [sB] at hc37)
    have hjl : j < l2.length := by omega
    refine Ck (Xa (Cq (Cb (Cg (Km rfl (Km rfl ?_))))))
    refine Nb 41 rfl (fun hg41 => ?_) (fun hg41 => ?_)
    ·(try simp only [sB] at hg41)
     refine Km rfl (Km rfl ?_)
     refine Kq rfl (Ib rfl rfl rfl u31 (by omega) (by (rw [List.length_map]; omega))) ?_
     refine Kq rfl (ldm rfl rfl u22 rfl (by assumption)) ?_
     refine Ku rfl (Oc rfl rfl (Kv fun w hS => rvalid_c (a := l2.getD j default))) ?_
     refine Kq rfl (Rp rfl rfl rfl) ?_
     refine Ns 47 rfl (v' := .bool (rdA (rdA t l1 l1.length) l2 (j + 1))) (congrArg Value.bool (by rw [rdA_succ hjl]; simp [*])) ?_
     refine Ka rfl (Nn (Xd (Xa (Cg (Km rfl (Kq rfl (Rz rfl rfl rfl (by omega)) (Ka rfl (Nn ?_))))))))
     refine Ly (j + 1) (by (try dsimp only); omega) (S2 rfl rfl) (by refine (Sc ?_ (Sc ?_ (S0 _))) <;> (rfl)) ?_ (by (exact fun _ h => h))
     (try dsimp only)
     exact hjl
    ·(try simp only [sB] at hg41)
     refine Kt rfl (Kt rfl (Kt rfl (Kt rfl (Kt rfl (Kq rfl (Rq rfl rfl rfl) ?_)))))
     refine Ns 47 rfl (v' := .bool (rdA (rdA t l1 l1.length) l2 (j + 1))) (congrArg Value.bool (by rw [rdA_succ hjl]; simp [*])) ?_
     refine Ka rfl (Nn (Xd (Xa (Cg (Km rfl (Kq rfl (Rz rfl rfl rfl (by omega)) (Ka rfl (Nn ?_))))))))
     refine Ly (j + 1) (by (try dsimp only); omega) (S2 rfl rfl) (by refine (Sc ?_ (Sc ?_ (S0 _))) <;> (rfl)) ?_ (by (exact fun _ h => h))
     (try dsimp only)
     exact hjl
   ·(try simp only [sB] at hc37)
    refine Cx (Xc (Xc (Xe ?_)))
    obtain rfl : j = l2.length := by omega
    refine Xa (Cq (Cs (Km rfl (Kq rfl (Rt rfl rfl) (Nt ?_)))))
    refine Cd rfl (fun hc49 => ?_) (fun hc49 => ?_)
    ·(try simp only [sB] at hc49)
     have hn : ¬ ((∀ x ∈ l2, okN x) ∧ decide (t = true ∧ ∀ x ∈ l1, okN x) = true) := fun h => by
      have h9 := rdA_all.2 ⟨rdA_all.2 (of_decide_eq_true h.2), h.1⟩
      rw [h9] at hc49; simp at hc49
     refine Cs (Ka rfl (Nt (Ce (Xb ?_))))
     exact R1 rfl rfl (by rw [rdyY, if_neg (fun h => h hY), if_pos hn]; rfl)
    ·(try simp only [sB] at hc49)
     have hn : (∀ x ∈ l2, okN x) ∧ decide (t = true ∧ ∀ x ∈ l1, okN x) = true := by
      have h9 := rdA_all.1 (by simpa using hc49)
      exact ⟨h9.2, decide_eq_true (rdA_all.1 h9.1)⟩
     refine Ck (Xa (Cq (Cs (Ka rfl (Nt (Cb ?_))))))
     refine Lp (σ := Nat) [(2, _), (4, _)] (fun gq => [(13, .int .i64 (gq : Int))]) (fun gq => gq ≤ l2.length ∧ ∀ x ∈ l2.take gq, elG k.1 x) (fun gq => l2.length - gq) (0) (S2 rfl rfl) (S1 rfl) (by (try dsimp only); exact ⟨Nat.zero_le _, by simp⟩) ?_
     rintro n hinv3; (try dsimp only at hinv3 ⊢)
     obtain ⟨hn3, hel⟩ := hinv3
     refine Cq (Cs (Km rfl (Km rfl (Kq rfl (rd_len rfl rfl u31) (Kq rfl (rd_lss rfl rfl rfl) (Nt ?_))))))
     refine Cd rfl (fun hc53 => ?_) (fun hc53 => ?_)
     ·(try simp only [sB] at hc53)
      have hnl : n < l2.length := by omega
      refine Ck (Xa (Cq (Cb (Cq ?_))))
      refine Cf [0, 1, 2, 3, 4, 5, 6, 7] [] [0, 0, 0, 0, 0, 0, 1, 0] (by kernel_rfl) (by kernel_rfl) rfl ?_
      refine Kj rfl (Fa (q := 0) rfl rfl u26 rfl rfl) ?_
      refine Kj rfl (ldp rfl rfl .tc u24 rfl (by kernel_rfl : _ = some 2) (by rfl) (by rfl)) ?_
      refine Kj rfl (Rm rfl rfl) (Kj rfl (Rm rfl rfl) ?_)
      refine Kj rfl (Ib rfl rfl rfl u31 (by omega) (by (rw [List.length_map]; omega))) ?_
      refine Kj rfl (ldm rfl rfl u22 rfl (by assumption)) ?_
      refine Jv rfl rfl rfl rfl rfl (fun ext => Oc rfl rfl (Kv fun w hS => rghas_c (g := k.1) (x := l2.getD n default) (by assumption))) ?_
      refine WJ.set 62 rfl (v' := .bool (decide (elG k.1 (l2.getD n default)))) (congrArg Value.bool (by simp [hg])) ?_
      refine Kj rfl (Rt rfl rfl) ?_
      refine WJ.nil ?_
      refine Nt ?_
      refine Cd rfl (fun hc63 => ?_) (fun hc63 => ?_)
      ·(try simp only [sB] at hc63)
       refine Cs (Ka rfl (Nt (Ce (Xf (Xb (Xb (Xf (Xb ?_))))))))
       exact R1 rfl rfl (by rw [rdyY, if_neg (fun h => h hY), if_neg (fun h => h hn), if_pos (fun h => absurd (h _ (getD_mem _ _ hnl)) (by simpa using hc63))]; rfl)
      ·(try simp only [sB] at hc63)
       refine Ck (Xd (Xa (Cg (Km rfl (Kq rfl (Rz rfl rfl rfl (by omega)) (Ka rfl (Nn ?_)))))))
       refine Ly (n + 1) (by (try dsimp only); omega) (S2 rfl rfl) (by refine (Sc ?_ (S0 _)) <;> (rfl)) ?_ (by (exact fun _ h => h))
       (try dsimp only)
       exact ⟨hnl, all_take hnl hel (by simpa using hc63)⟩
     ·(try simp only [sB] at hc53)
      refine Cx (Xc (Xc (Xe ?_)))
      obtain rfl : n = l2.length := by omega
      rw [List.take_length] at hel
      refine Xa (Cs (Ka rfl (Nt (Ce ?_))))
      exact R1 rfl rfl (by rw [rdyY, if_neg (fun h => h hY), if_neg (fun h => h hn), if_neg (fun h => h hel)]; rfl)
theorem relmul_c {k : PK} {a b : Cp} {w : World} (hm8 : k.1.1.length ≤ 8) :
  Cw 32 #[pkV k, cpV a, cpV b] w (CE (mulC k a b)) := by
 refine En [] [(0, pkV k), (1, cpV a), (2, cpV b)] Tryz.func32 rfl Tryz.ntmps32 rfl (Ac rfl (Ac rfl (Ac rfl (An _)))) Fn ?_
 refine Cs ?_
 refine Kh rfl (Oy rfl rfl) ?_
 intro b3
 refine Kh rfl (Oy rfl rfl) ?_
 intro b4
 refine Kh rfl (Oy rfl rfl) ?_
 intro b5
 refine Kh rfl (Oz [.string (S []), .string (S [])] rfl) ?_
 intro b6
 refine Ka rfl (Nt (Cq (Cs ?_)))
 refine Kq rfl (lda rfl rfl .tc u26 rfl ?_) ?_
 ·kernel_rfl
 refine Kq rfl (Fa (q := 0) rfl rfl u28 rfl rfl) (Kq rfl (Ld rfl rfl .tc u22) ?_)
 refine Kq rfl (Fa (q := 1) rfl rfl u28 rfl rfl) (Kq rfl (Ld rfl rfl .tc u22) ?_)
 refine Kq rfl (Fa (q := 0) rfl rfl u28 rfl rfl) (Kq rfl (Ld rfl rfl .tc u22) ?_)
 refine Kq rfl (Fa (q := 1) rfl rfl u28 rfl rfl) (Kq rfl (Ld rfl rfl .tc u22) ?_)
 refine Kh rfl (og_bs1 rfl rfl u31 (by kernel_rfl : _ = some (some (.string (S [])), 1, 16)) rfl (by simp only [List.map]; rfl) rfl rfl ?_ (by decide)) ?_
 ·simp [Value.cells]
 intro b22
 refine Ku rfl (Oc rfl rfl (Kv fun w hS => relready_c (k := k) (l1 := []) (l2 := [a.1, a.2, b.1, b.2]) (t := true) (by (exact sl_nil)) (by (exact hS.os)) (by (simp <;> omega)) (by (simp <;> omega)) (by assumption))) ?_
 refine Ns 23 rfl (v' := .int .i64 (rdyY k true [a.1, a.2, b.1, b.2])) (congrArg (Value.int .i64) (by simp)) ?_
 refine Ka rfl (Nt (Cs (Km rfl (Kq rfl (rd_neq rfl rfl rfl) (Nt ?_)))))
 refine Cd rfl (fun hc25 => ?_) (fun hc25 => ?_)
 ·(try simp only [sB] at hc25)
  refine Cs (Kq rfl (Kb [[.string (S [])], [.string (S [])]] rfl rfl) (Km rfl ?_))
  refine Nu rfl rfl (Sa rfl rfl rfl .tc) ?_
  refine Ka rfl (Nt (Ce (Xb ?_)))
  exact Rn rfl (.agg rfl .tc u28 rfl (by kernel_rfl) (.tmp rfl .nil)) fun w' hS => ⟨by rw [mulC, if_pos (by simpa using hc25)]; rfl, hS.below⟩
 ·(try simp only [sB] at hc25)
  have h0 : rdyY k true [a.1, a.2, b.1, b.2] = 0 := by simpa using hc25
  obtain ⟨hY, _, hel⟩ := rdyY_ok h0
  obtain ⟨_, hg, _, _, _, _⟩ := chkY_ok hY
  have hr : mulC k a b = ((canon (val a.1 * val b.1 % val k.1.1), canon (val a.2 * val b.2 % val k.1.1)), 0) := by rw [mulC, if_neg (fun h => h h0)]
  refine Ck (Xa (Cs (Kq rfl (Fa (q := 0) rfl rfl u26 rfl rfl) ?_)))
  refine Kq rfl (ldp rfl rfl .tc u24 rfl (by kernel_rfl : _ = some 2) (by rfl) (by rfl)) ?_
  refine Kq rfl (Fa (q := 0) rfl rfl u28 rfl rfl) (Kq rfl (Ld rfl rfl .tc u22) ?_)
  refine Kq rfl (Fa (q := 0) rfl rfl u28 rfl rfl) (Kq rfl (Ld rfl rfl .tc u22) ?_)
  refine Ku rfl (Oc rfl rfl (Kv fun w hS => (by have := rmulg_c (w := w) (g := k.1) (a := a.1) (b := b.1) hm8; rw [mulS_ok hg (hel _ (by simp)) (hel _ (by simp))] at this; exact this))) ?_
  refine Km rfl (Kq rfl (Re rfl rfl rfl) (Kq rfl (Re rfl rfl rfl) (Ka rfl (Ka rfl (Nt (Cs (Kq rfl (Fa (q := 0) rfl rfl u26 rfl rfl) ?_)))))))
  refine Kq rfl (ldp rfl rfl .tc u24 rfl (by kernel_rfl : _ = some 2) (by rfl) (by rfl)) ?_
  refine Kq rfl (Fa (q := 1) rfl rfl u28 rfl rfl) (Kq rfl (Ld rfl rfl .tc u22) ?_)
  refine Kq rfl (Fa (q := 1) rfl rfl u28 rfl rfl) (Kq rfl (Ld rfl rfl .tc u22) ?_)
  refine Ku rfl (Oc rfl rfl (Kv fun w hS => (by have := rmulg_c (w := w) (g := k.1) (a := a.2) (b := b.2) hm8; rw [mulS_ok hg (hel _ (by simp)) (hel _ (by simp))] at this; exact this))) ?_
  refine Km rfl (Kq rfl (Re rfl rfl rfl) (Kq rfl (Re rfl rfl rfl) (Ka rfl (Ka rfl (Nt (Cs (Km rfl (Km rfl (Kq rfl (Kb [[.string (S [])], [.string (S [])]] rfl rfl) ?_)))))))))
  refine Nu rfl rfl (Sa rfl rfl rfl .tc) ?_
  refine Ka rfl (Nt (Ce ?_))
  exact Rn rfl (.agg rfl .tc u28 rfl (by kernel_rfl) (.tmp rfl .nil)) fun w' hS => ⟨by rw [hr]; rfl, hS.below⟩
theorem elgood_c {t : Tp} {a : Option Addr} {c : Nat} {w : World} {ok : Nat → Prop} (hF1 : (Fact.sl a (strs t.vals)).holds ok w) (hl : t.vals.length ≤ 100000) :
  Cw 47 #[t.v (.slice a t.vals.length c)] w (.bool (decide (goodT t))) := by
 refine En [Fact.sl a (strs t.vals)] [(0, t.v (.slice a t.vals.length c))] Tryz.func47 rfl Tryz.ntmps47 rfl (Ac rfl (An _)) (Fc (fact_any hF1) Fn) ?_
 refine Cs ?_
 refine Kh rfl (Oy rfl rfl) ?_
 intro b1
 refine Ka rfl (Nt (Cs (Kq rfl (Fa (q := 0) rfl rfl u33 rfl rfl) (Kq rfl (Ld rfl rfl .tc u31) ?_))))
 refine Ku rfl (Oc rfl rfl (Kv fun w hS => elformed_c (l := t.vals) (by (exact hS.sl)) (by assumption))) ?_
 refine Km rfl ?_
 refine Nb 6 rfl (fun hg6 => ?_) (fun hg6 => ?_)
 ·(try simp only [sB] at hg6)
  refine Kq rfl (Fa (q := 2) rfl rfl u33 rfl rfl) (Kq rfl (Ld rfl rfl .tc u3) ?_)
  refine Kq rfl (rd_geq rfl rfl rfl) (Kq rfl (Rp rfl rfl rfl) (Km rfl ?_))
  refine Nb 11 rfl (fun hg11 => ?_) (fun hg11 => ?_)
  ·(try simp only [sB] at hg11)
   refine Kq rfl (Fa (q := 2) rfl rfl u33 rfl rfl) (Kq rfl (Ld rfl rfl .tc u3) ?_)
   refine Kq rfl (rd_leq rfl rfl rfl) (Kq rfl (Rp rfl rfl rfl) (Ka rfl (Nt (Ce ?_))))
   exact R1 rfl rfl (by simp only [tup]; refine congrArg (fun b => Ending.returned (Value.bool b)) ?_; (exact decide_eq_decide.2 ⟨fun h => ⟨by omega, by omega, by assumption⟩, fun h => by have h2 := h.2.1; omega⟩))
  ·(try simp only [sB] at hg11)
   refine Kt rfl (Kt rfl (Kt rfl (Kq rfl (Rq rfl rfl rfl) (Ka rfl (Nt (Ce ?_))))))
   exact R1 rfl rfl (by simp only [tup]; refine congrArg (fun b => Ending.returned (Value.bool b)) ?_; (exact (decide_eq_false (fun h => by have h1 := h.1; have h2 := h.2.1; omega)).symm))
 ·(try simp only [sB] at hg6)
  refine Kt rfl (Kt rfl (Kt rfl (Kq rfl (Rq rfl rfl rfl) (Km rfl (Kt rfl (Kt rfl (Kt rfl (Kq rfl (Rq rfl rfl rfl) (Ka rfl (Nt (Ce ?_)))))))))))
  exact R1 rfl rfl (by simp only [tup]; refine congrArg (fun b => Ending.returned (Value.bool b)) ?_; (exact (decide_eq_false (fun h => absurd h.2.2 (by assumption))).symm))
theorem elenc1_c {t : Tp} {a : Option Addr} {c p : Nat} {w : World} {ok : Nat → Prop} (hF1 : (Fact.sl (some ⟨p, 0, none⟩) [.slice a t.vals.length c, .string (S t.seed), .int .i64 t.at_]).holds ok w) (hF2 : (Fact.sl a (strs t.vals)).holds ok w) (hl : t.vals.length ≤ 100000) :
  Cw 46 #[.pointer (some ⟨p, 0, none⟩)] w (.bool (decide (goodT t))) := by
 refine En [Fact.sl (some ⟨p, 0, none⟩) [.slice a t.vals.length c, .string (S t.seed), .int .i64 t.at_], Fact.sl a (strs t.vals)] [(0, .pointer (some ⟨p, 0, none⟩))] Tryz.func46 rfl Tryz.ntmps46 rfl (Ac rfl (An _)) (Fc (fact_any hF1) (Fc (fact_any hF2) Fn)) ?_
 refine Cs (Ka rfl (Nt (Cs ?_)))
 refine Kq rfl (ldfa (m := 0) rfl rfl .tc u33 rfl (by kernel_rfl : _ = some 3) rfl rfl rfl (by decide)) ?_
 refine Ku rfl (Oc rfl rfl (Kv fun w hS => elgood_c (t := t) (by (exact hS.sl)) (by assumption))) ?_
 refine Ka rfl (Nt (Ce ?_))
 exact R1 rfl rfl (by rfl)
theorem elref1_c {t : Tp} {a : Option Addr} {c p : Nat} {w : World} {ok : Nat → Prop} (hF1 : (Fact.sl (some ⟨p, 0, none⟩) [.slice a t.vals.length c, .string (S t.seed), .int .i64 t.at_]).holds ok w) (hF2 : (Fact.sl a (strs t.vals)).holds ok w) (hl : t.vals.length ≤ 100000) :
  Cw 76 #[.pointer (some ⟨p, 0, none⟩)] w (.bool (decide (goodT t))) := by
 refine En [Fact.sl (some ⟨p, 0, none⟩) [.slice a t.vals.length c, .string (S t.seed), .int .i64 t.at_], Fact.sl a (strs t.vals)] [(0, .pointer (some ⟨p, 0, none⟩))] Tryz.func76 rfl Tryz.ntmps76 rfl (Ac rfl (An _)) (Fc (fact_any hF1) (Fc (fact_any hF2) Fn)) ?_
 refine Cs (Ka rfl (Nt (Cs ?_)))
 refine Kq rfl (ldfa (m := 0) rfl rfl .tc u33 rfl (by kernel_rfl : _ = some 3) rfl rfl rfl (by decide)) ?_
 refine Ku rfl (Oc rfl rfl (Kv fun w hS => elgood_c (t := t) (by (exact hS.sl)) (by assumption))) ?_
 refine Ka rfl (Nt (Ce ?_))
 exact R1 rfl rfl (by rfl)
theorem elmask_ok {k : PK} {c : Cp} {r : Bs} {w : World} (hm8 : k.1.1.length ≤ 8) (hY : chkY k = 0) (h1 : elG k.1 c.1) (h2 : elG k.1 c.2) (hr : okN r) :
  Cw 49 #[pkV k, cpV c, .string (S r)] w (cpV (mskN k c (val r))) := by
 have := elmask_c (w := w) (k := k) (c := c) (r := r) hm8
 have e := msk_code hY h1 h2 hr
 have e1 : (mulS k.1 c.1 (prodS k.1 [k.2.1] [(false, r)]).1).1 = (mskN k c (val r)).1 := congrArg Prod.fst e
 have e2 : (mulS k.1 c.2 (prodS k.1 [k.2.2] [(false, r)]).1).1 = (mskN k c (val r)).2 := congrArg Prod.snd e
 rw [e1, e2] at this; exact this
theorem new_nilE {w w' : World} {own : List Ent} {T : TypeId} {fs : List Fact} {ok : Nat → Prop} (h : St ok w own fs w') : St ok w [⟨none, [] ++ [], T⟩] [] w' := (h.nil T).sub (List.Sublist.cons_cons _ (List.nil_sublist _)) (fun _ h => by cases h)
theorem elenc_c {k : PK} {m : Bs} {t : Tp} {a : Option Addr} {cap : Nat} {w : World} {ok : Nat → Prop} (hF1 : (Fact.sl a (strs t.vals)).holds ok w) (hl : t.vals.length ≤ 100000) (hsd : t.seed.length ≤ 400000) (hm8 : k.1.1.length ≤ 8) (hT : Tab w) :
  Calls Tryz.prog 14 #[pkV k, .string (S m), t.v (.slice a t.vals.length cap)] w fun e w' => ∃ g : Rs, e = .returned (.tuple #[cpV (encS k m t).1.1, .string (S (encS k m t).1.2.1), (encS k m t).1.2.2.v (g.val (encS k m t).1.2.2.vals.length), .int .i64 (encS k m t).2]) ∧ g.cap = (encS k m t).1.2.2.vals.length + g.sp.length ∧ St (fun _ => True) w [g.ent (strs (encS k m t).1.2.2.vals) 22] [] w' := by
 refine En [Fact.sl a (strs t.vals)] [(0, pkV k), (1, .string (S m)), (2, t.v (.slice a t.vals.length cap))] Tryz.func14 rfl Tryz.ntmps14 rfl (Ac rfl (Ac rfl (Ac rfl (An _)))) (Fc (fact_any hF1) Fn) ?_
 refine Cs ?_
 refine Kh rfl (Oy rfl rfl) ?_
 intro b3
 refine Kh rfl (Oy rfl rfl) ?_
 intro b5
 refine Kh rfl (Oz [.string (S []), .string (S [])] rfl) ?_
 intro b6
 refine Ka rfl ?_
 refine Kh rfl (Oz [.slice none 0 0, .string (S []), .int .i64 0] rfl) ?_
 intro b8
 refine Ka rfl (Nt (Cq (Cs ?_)))
 refine Kq rfl (lda rfl rfl .tc u26 rfl ?_) ?_
 ·kernel_rfl
 refine Kq rfl (rd_mkf rfl rfl rfl) (Km rfl ?_)
 refine Kh rfl (og_bs1 rfl rfl u31 (by kernel_rfl : _ = some (some (.string (S [])), 1, 16)) rfl (by simp only [List.map]; rfl) rfl rfl ?_ (by decide)) ?_
 ·simp [Value.cells]
 intro b17
 refine Ku rfl (Oc rfl rfl (Kv fun w hS => elready_c (k := k) (fk := 46) (okb := decide (goodT t)) (l := [m]) (by (exact hS.os)) (by (simp; done)) (by exact hm8) (by kernel_rfl) (by exact fun w' hb => elenc1_c (fact_keep hS.os hb) (fact_keep hS.sl hb) hl))) ?_
 refine Ka rfl (Nt (Cs (Km rfl (Kq rfl (rd_neq rfl rfl rfl) (Nt ?_)))))
 refine Cd rfl (fun hc20 => ?_) (fun hc20 => ?_)
 ·(try simp only [sB] at hc20)
  have hr : encS k m t = ((([], []), [], zeroT), rdyY k (decide (goodT t)) [m]) := by rw [encS, if_pos hc20]
  refine Cs (Kq rfl (Kb [[.string (S [])], [.string (S [])]] rfl rfl) (Kq rfl (Kb [[.slice none 0 0], [.string (S [])], [.int .i64 0]] rfl rfl) (Km rfl ?_)))
  refine Nu rfl rfl (Sa rfl rfl rfl .tc) ?_
  refine Ka rfl ?_
  refine Nu rfl rfl (Sa rfl rfl rfl .tc) ?_
  refine Ka rfl (Nt (Ce (Xb ?_)))
  exact Rn rfl (.agg rfl .tc u28 rfl (by kernel_rfl) (.tmp rfl (.agg rfl .tc u33 rfl (by kernel_rfl) (.tmp rfl .nil)))) fun w' hS => ⟨⟨none, 0, []⟩, by rw [hr]; rfl, by rw [hr]; rfl, by rw [hr]; exact new_nilE hS⟩
 ·(try simp only [sB] at hc20)
  have h0 : rdyY k (decide (goodT t)) [m] = 0 := by simpa using hc20
  obtain ⟨hY, hgt, hel⟩ := rdyY_ok h0
  have hgt : goodT t := of_decide_eq_true hgt
  have hem : elG k.1 m := hel _ (by simp)
  refine Ck (Xa (Cs ?_))
  refine Kq rfl (lda rfl rfl .tc u33 rfl ?_) ?_
  ·kernel_rfl
  refine Kq rfl (Fa (q := 0) rfl rfl u26 rfl rfl) (Kq rfl (Fa (q := 1) rfl rfl u24 rfl rfl) (Kq rfl (Ld rfl rfl .tc u22) ?_))
  refine Kh rfl (Oc rfl rfl (keep_o1 fun w hS => below_c (t := t) (n := k.1.2) (by (exact hS.sl)) (by assumption) (by assumption) (by (exact tab_st hT hS)))) ?_
  intro g29
  refine WL.pu ?_
  intro hg29; (try dsimp only at hg29 ⊢)
  refine Km rfl (Kq rfl (Re rfl rfl rfl) (Kq rfl (Re rfl rfl rfl) (Kq rfl (Re rfl rfl rfl) ?_)))
  refine Kh rfl (Oz [.slice none 0 0, .string (S []), .int .i64 0] rfl) ?_
  intro b12
  refine Ka rfl ?_
  refine Nu rfl rfl (Sa rfl rfl rfl .tc) ?_
  refine Ka rfl (Nt (Cq (Cs (Km rfl (Kq rfl (rd_neq rfl rfl rfl) (Nt ?_))))))
  refine Cd rfl (fun hc34 => ?_) (fun hc34 => ?_)
  ·(try simp only [sB] at hc34)
   have hr : encS k m t = ((([], []), [], zeroT), (belowS t k.1.2).2.2) := by rw [encS, if_neg (fun h => h h0), if_pos hc34]
   refine Cs (Kq rfl (Kb [[.string (S [])], [.string (S [])]] rfl rfl) (Kq rfl (Kb [[.slice none 0 0], [.string (S [])], [.int .i64 0]] rfl rfl) (Km rfl ?_)))
   refine Nu rfl rfl (Sa rfl rfl rfl .tc) ?_
   refine Ka rfl ?_
   refine Nu rfl rfl (Sa rfl rfl rfl .tc) ?_
   refine Ka rfl (Nt (Ce (Xb ?_)))
   exact Rn rfl (.agg rfl .tc u28 rfl (by kernel_rfl) (.tmp rfl (.agg rfl .tc u33 rfl (by kernel_rfl) (.tmp rfl .nil)))) fun w' hS => ⟨⟨none, 0, []⟩, by rw [hr]; rfl, by rw [hr]; rfl, by rw [hr]; exact new_nilE hS⟩
  ·(try simp only [sB] at hc34)
   have hb0 : (belowS t k.1.2).2.2 = 0 := by simpa using hc34
   have hr : encS k m t = ((mskN k ([1], m) (val (belowS t k.1.2).1), (belowS t k.1.2).1, (belowS t k.1.2).2.1), 0) := by rw [encS, if_neg (fun h => h h0), if_neg (fun h => h hb0), c1E]
   have hbk := below_okN hb0 hgt (chkY_ok hY).1.2.1
   refine Ck (Xa (Cq ?_))
   refine WC.free (K := [⟨some b12, [g29.val (belowS t k.1.2).2.1.vals.length, .string (S (belowS t k.1.2).2.1.seed), .int .i64 (belowS t k.1.2).2.1.at_], 33⟩, ⟨some b3, [.string (S k.1.1), .string (S k.1.2), .string (S k.2.1), .string (S k.2.2)], 26⟩]) (fs0 := []) [0, 1, 2, 3, 4, 7, 5, 6, 8] [9, 10] [0, 0, 0, 0, 1, 0, 0, 1, 0, 2, 2] (by kernel_rfl) (by kernel_rfl) rfl ?_
   refine Kj rfl (lda rfl rfl .tc u26 rfl ?_) ?_
   ·kernel_rfl
   refine Kj rfl (Rm rfl rfl) (Kj rfl (Kb [[.string (S [])], [.string (S [])]] rfl rfl) (Kj rfl (Rm rfl rfl) ?_))
   refine Jv rfl rfl rfl rfl rfl (fun ext => Oc rfl rfl (Kv fun w hS => (by have := elmask_ok (w := w) (k := k) (c := (canon 1, m)) (r := (belowS t k.1.2).1) hm8 hY (el_one hY) hem hbk.1; rw [c1E] at this; exact this))) ?_
   refine WJ.st rfl rfl rfl rfl (staJ rfl rfl rfl ?_ ?_ ?_) ?_
   ·kernel_rfl
   ·simp [Value.oneCell']
   ·rfl
   refine Kj rfl (Rm rfl rfl) ?_
   refine Kj rfl (lda rfl rfl .tc u33 rfl ?_) ?_
   ·kernel_rfl
   refine Kj rfl (Ra rfl rfl) ?_
   refine WJ.nil ?_
   refine Nu rfl rfl (Sa rfl rfl rfl .tc) ?_
   refine Ka rfl (Nt (Ce ?_))
   exact Rn rfl (.agg rfl .tc u28 rfl (by kernel_rfl) (.tmp rfl (.agg rfl .tc u33 rfl (by kernel_rfl) (.tmp rfl .nil)))) fun w' hS => ⟨g29, by rw [hr]; rfl, by rw [hr]; exact hg29, by rw [hr]; exact st_sub _ hS⟩
theorem elref_c {k : PK} {c : Cp} {t : Tp} {a : Option Addr} {cap : Nat} {w : World} {ok : Nat → Prop} (hF1 : (Fact.sl a (strs t.vals)).holds ok w) (hl : t.vals.length ≤ 100000) (hsd : t.seed.length ≤ 400000) (hm8 : k.1.1.length ≤ 8) (hT : Tab w) :
  Calls Tryz.prog 29 #[pkV k, cpV c, t.v (.slice a t.vals.length cap)] w fun e w' => ∃ g : Rs, e = .returned (.tuple #[cpV (refS k c t).1.1, (refS k c t).1.2.v (g.val (refS k c t).1.2.vals.length), .int .i64 (refS k c t).2]) ∧ g.cap = (refS k c t).1.2.vals.length + g.sp.length ∧ St (fun _ => True) w [g.ent (strs (refS k c t).1.2.vals) 22] [] w' := by
 refine En [Fact.sl a (strs t.vals)] [(0, pkV k), (1, cpV c), (2, t.v (.slice a t.vals.length cap))] Tryz.func29 rfl Tryz.ntmps29 rfl (Ac rfl (Ac rfl (Ac rfl (An _)))) (Fc (fact_any hF1) Fn) ?_
 refine Cs ?_
 refine Kh rfl (Oy rfl rfl) ?_
 intro b3
 refine Kh rfl (Oy rfl rfl) ?_
 intro b4
 refine Kh rfl (Oy rfl rfl) ?_
 intro b5
 refine Kh rfl (Oz [.string (S []), .string (S [])] rfl) ?_
 intro b6
 refine Kh rfl (Oz [.slice none 0 0, .string (S []), .int .i64 0] rfl) ?_
 intro b7
 refine Ka rfl (Nt (Cq (Cs ?_)))
 refine Kq rfl (lda rfl rfl .tc u26 rfl ?_) ?_
 ·kernel_rfl
 refine Kq rfl (rd_mkf rfl rfl rfl) (Kq rfl (Fa (q := 0) rfl rfl u28 rfl rfl) (Kq rfl (Ld rfl rfl .tc u22) ?_))
 refine Kq rfl (Fa (q := 1) rfl rfl u28 rfl rfl) (Kq rfl (Ld rfl rfl .tc u22) ?_)
 refine Kh rfl (og_bs1 rfl rfl u31 (by kernel_rfl : _ = some (some (.string (S [])), 1, 16)) rfl (by simp only [List.map]; rfl) rfl rfl ?_ (by decide)) ?_
 ·simp [Value.cells]
 intro b19
 refine Ku rfl (Oc rfl rfl (Kv fun w hS => elready_c (k := k) (fk := 76) (okb := decide (goodT t)) (l := [c.1, c.2]) (by (exact hS.os)) (by (simp; done)) (by exact hm8) (by kernel_rfl) (by exact fun w' hb => elref1_c (fact_keep hS.os hb) (fact_keep hS.sl hb) hl))) ?_
 refine Ka rfl (Nt (Cs (Km rfl (Kq rfl (rd_neq rfl rfl rfl) (Nt ?_)))))
 refine Cd rfl (fun hc22 => ?_) (fun hc22 => ?_)
 ·(try simp only [sB] at hc22)
  have hr : refS k c t = ((([], []), zeroT), rdyY k (decide (goodT t)) [c.1, c.2]) := by rw [refS, if_pos hc22]
  refine Cs (Kq rfl (Kb [[.string (S [])], [.string (S [])]] rfl rfl) (Kq rfl (Kb [[.slice none 0 0], [.string (S [])], [.int .i64 0]] rfl rfl) (Km rfl ?_)))
  refine Nu rfl rfl (Sa rfl rfl rfl .tc) ?_
  refine Nu rfl rfl (Sa rfl rfl rfl .tc) ?_
  refine Ka rfl (Nt (Ce (Xb ?_)))
  exact Rn rfl (.agg rfl .tc u28 rfl (by kernel_rfl) (.agg rfl .tc u33 rfl (by kernel_rfl) (.tmp rfl .nil))) fun w' hS => ⟨⟨none, 0, []⟩, by rw [hr]; rfl, by rw [hr]; rfl, by rw [hr]; exact new_nilE hS⟩
 ·(try simp only [sB] at hc22)
  have h0 : rdyY k (decide (goodT t)) [c.1, c.2] = 0 := by simpa using hc22
  obtain ⟨hY, hgt, hel⟩ := rdyY_ok h0
  have hgt : goodT t := of_decide_eq_true hgt
  have he1 : elG k.1 c.1 := hel _ (by simp)
  have he2 : elG k.1 c.2 := hel _ (by simp)
  refine Ck (Xa (Cs ?_))
  refine Kq rfl (lda rfl rfl .tc u33 rfl ?_) ?_
  ·kernel_rfl
  refine Kq rfl (Fa (q := 0) rfl rfl u26 rfl rfl) (Kq rfl (Fa (q := 1) rfl rfl u24 rfl rfl) (Kq rfl (Ld rfl rfl .tc u22) ?_))
  refine Kh rfl (Oc rfl rfl (keep_o1 fun w hS => below_c (t := t) (n := k.1.2) (by (exact hS.sl)) (by assumption) (by assumption) (by (exact tab_st hT hS)))) ?_
  intro g31
  refine WL.pu ?_
  intro hg31; (try dsimp only at hg31 ⊢)
  refine Km rfl (Kq rfl (Re rfl rfl rfl) (Kq rfl (Re rfl rfl rfl) (Kq rfl (Re rfl rfl rfl) ?_)))
  refine Kh rfl (Oz [.slice none 0 0, .string (S []), .int .i64 0] rfl) ?_
  intro b11
  refine Ka rfl ?_
  refine Nu rfl rfl (Sa rfl rfl rfl .tc) ?_
  refine Ka rfl (Nt (Cq (Cs (Km rfl (Kq rfl (rd_neq rfl rfl rfl) (Nt ?_))))))
  refine Cd rfl (fun hc36 => ?_) (fun hc36 => ?_)
  ·(try simp only [sB] at hc36)
   have hr : refS k c t = ((([], []), zeroT), (belowS t k.1.2).2.2) := by rw [refS, if_neg (fun h => h h0), if_pos hc36]
   refine Cs (Kq rfl (Kb [[.string (S [])], [.string (S [])]] rfl rfl) (Kq rfl (Kb [[.slice none 0 0], [.string (S [])], [.int .i64 0]] rfl rfl) (Km rfl ?_)))
   refine Nu rfl rfl (Sa rfl rfl rfl .tc) ?_
   refine Nu rfl rfl (Sa rfl rfl rfl .tc) ?_
   refine Ka rfl (Nt (Ce (Xb ?_)))
   exact Rn rfl (.agg rfl .tc u28 rfl (by kernel_rfl) (.agg rfl .tc u33 rfl (by kernel_rfl) (.tmp rfl .nil))) fun w' hS => ⟨⟨none, 0, []⟩, by rw [hr]; rfl, by rw [hr]; rfl, by rw [hr]; exact new_nilE hS⟩
  ·(try simp only [sB] at hc36)
   have hb0 : (belowS t k.1.2).2.2 = 0 := by simpa using hc36
   have hr : refS k c t = ((mskN k c (val (belowS t k.1.2).1), (belowS t k.1.2).2.1), 0) := by rw [refS, if_neg (fun h => h h0), if_neg (fun h => h hb0)]
   have hbk := below_okN hb0 hgt (chkY_ok hY).1.2.1
   refine Ck (Xa (Cq ?_))
   refine WC.free (K := [⟨some b11, [g31.val (belowS t k.1.2).2.1.vals.length, .string (S (belowS t k.1.2).2.1.seed), .int .i64 (belowS t k.1.2).2.1.at_], 33⟩, ⟨some b4, [.string (S c.1), .string (S c.2)], 28⟩, ⟨some b3, [.string (S k.1.1), .string (S k.1.2), .string (S k.2.1), .string (S k.2.2)], 26⟩]) (fs0 := []) [0, 1, 2, 3, 5, 4] [6, 7] [0, 0, 0, 1, 0, 1, 2, 2] (by kernel_rfl) (by kernel_rfl) rfl ?_
   refine Kj rfl (lda rfl rfl .tc u26 rfl ?_) ?_
   ·kernel_rfl
   refine Kj rfl (lda rfl rfl .tc u28 rfl ?_) ?_
   ·kernel_rfl
   refine Kj rfl (Rm rfl rfl) ?_
   refine Jv rfl rfl rfl rfl rfl (fun ext => Oc rfl rfl (Kv fun w hS => elmask_ok (w := w) (k := k) (c := c) (r := (belowS t k.1.2).1) hm8 hY he1 he2 hbk.1)) ?_
   refine WJ.st rfl rfl rfl rfl (staJ rfl rfl rfl ?_ ?_ ?_) ?_
   ·kernel_rfl
   ·simp [Value.oneCell']
   ·rfl
   refine Kj rfl (lda rfl rfl .tc u33 rfl ?_) ?_
   ·kernel_rfl
   refine WJ.nil ?_
   refine Nu rfl rfl (Sa rfl rfl rfl .tc) ?_
   refine Ka rfl (Nt (Ce ?_))
   exact Rn rfl (.agg rfl .tc u28 rfl (by kernel_rfl) (.agg rfl .tc u33 rfl (by kernel_rfl) (.tmp rfl .nil))) fun w' hS => ⟨g31, by rw [hr]; rfl, by rw [hr]; exact hg31, by rw [hr]; exact st_sub _ hS⟩
theorem eltimes_ok {k : PK} {x b r : Bs} {w : World} (hm8 : k.1.1.length ≤ 8) (hg : chkG k.1 = 0) (hx : elG k.1 x) (hb : elG k.1 b) (hr : okN r) :
  Cw 53 #[pkV k, .string (S x), .string (S b), .string (S r)] w (.string (S (canon (val x * powI (val k.1.1) (val b) (val r) % val k.1.1)))) := by
 have := eltimes_c (w := w) (k := k) (x := x) (b := b) (z := r) hm8
 rw [msk_ref hg hx hb hr] at this; exact this
theorem new_nilR {w w' : World} {own : List Ent} {T : TypeId} {fs : List Fact} {ok : Nat → Prop} (h : St ok w own fs w') : St ok w [⟨none, [] ++ [], T⟩] [] w' := (h.nil T).sub (List.Sublist.cons_cons _ (List.nil_sublist _)) (fun _ h => by cases h)
theorem relenc_c {k : PK} {m : Bs} {t : Tp} {a : Option Addr} {cap : Nat} {w : World} {ok : Nat → Prop} (hF1 : (Fact.sl a (strs t.vals)).holds ok w) (hl : t.vals.length ≤ 100000) (hsd : t.seed.length ≤ 400000) (hm8 : k.1.1.length ≤ 8) :
  Calls Tryz.prog 15 #[pkV k, .string (S m), t.v (.slice a t.vals.length cap)] w fun e w' => ∃ g : Rs, e = .returned (.tuple #[cpV (encS k m t).1.1, .string (S (encS k m t).1.2.1), (encS k m t).1.2.2.v (g.val (encS k m t).1.2.2.vals.length), .int .i64 (encS k m t).2]) ∧ g.cap = (encS k m t).1.2.2.vals.length + g.sp.length ∧ St (fun _ => True) w [g.ent (strs (encS k m t).1.2.2.vals) 22] [] w' := by
 refine En [Fact.sl a (strs t.vals)] [(0, pkV k), (1, .string (S m)), (2, t.v (.slice a t.vals.length cap))] Tryz.func15 rfl Tryz.ntmps15 rfl (Ac rfl (Ac rfl (Ac rfl (An _)))) (Fc (fact_any hF1) Fn) ?_
 refine Cs ?_
 refine Kh rfl (Oy rfl rfl) ?_
 intro b3
 refine Kh rfl (Oy rfl rfl) ?_
 intro b5
 refine Kh rfl (Oz [.string (S []), .string (S [])] rfl) ?_
 intro b6
 refine Ka rfl ?_
 refine Kh rfl (Oz [.slice none 0 0, .string (S []), .int .i64 0] rfl) ?_
 intro b8
 refine Ka rfl (Nt (Cq (Cq ?_)))
 refine Cf [3, 4, 0, 1, 2, 5, 6] [] [0, 0, 3, 0, 1, 1, 0] (by kernel_rfl) (by kernel_rfl) rfl ?_
 refine Kj rfl (lda rfl rfl .tc u33 rfl ?_) ?_
 ·kernel_rfl
 refine Jv rfl rfl rfl rfl rfl (fun ext => Oc rfl rfl (Kv fun w hS => rtgood_c (t := t) (by (exact hS.sl)) (by omega))) ?_
 refine Kj rfl (lda rfl rfl .tc u26 rfl ?_) ?_
 ·kernel_rfl
 refine Kj rfl (Rm rfl rfl) ?_
 refine Jf rfl rfl rfl rfl rfl (fr_bs1 rfl rfl u31 (by kernel_rfl : _ = some (some (.string (S [])), 1, 16)) rfl (by simp only [List.map]; rfl) rfl rfl ?_ (by decide)) ?_
 ·simp [Value.cells]
 intro b16
 refine Jv rfl rfl rfl rfl rfl (fun ext => Oc rfl rfl (Kv fun w hS => relready_c (k := k) (l1 := []) (l2 := [m]) (t := decide (goodT t)) (by (exact sl_nil)) (by (exact hS.os)) (by (simp <;> omega)) (by (simp <;> omega)) (by assumption))) ?_
 refine WJ.set 19 rfl (v' := .int .i64 (rdyY k (decide (goodT t)) [m])) (congrArg (Value.int .i64) (by simp)) ?_
 refine Kj rfl (Ra rfl rfl) ?_
 refine WJ.nil ?_
 refine Nt (Cs (Km rfl (Kq rfl (rd_neq rfl rfl rfl) (Nt ?_))))
 refine Cd rfl (fun hc21 => ?_) (fun hc21 => ?_)
 ·(try simp only [sB] at hc21)
  have hr : encS k m t = ((([], []), [], zeroT), rdyY k (decide (goodT t)) [m]) := by rw [encS, if_pos hc21]
  refine Cs (Kq rfl (Kb [[.string (S [])], [.string (S [])]] rfl rfl) (Kq rfl (Kb [[.slice none 0 0], [.string (S [])], [.int .i64 0]] rfl rfl) (Km rfl ?_)))
  refine Nu rfl rfl (Sa rfl rfl rfl .tc) ?_
  refine Ka rfl ?_
  refine Nu rfl rfl (Sa rfl rfl rfl .tc) ?_
  refine Ka rfl (Nt (Ce (Xb ?_)))
  exact Rn rfl (.agg rfl .tc u28 rfl (by kernel_rfl) (.tmp rfl (.agg rfl .tc u33 rfl (by kernel_rfl) (.tmp rfl .nil)))) fun w' hS => ⟨⟨none, 0, []⟩, by rw [hr]; rfl, by rw [hr]; rfl, by rw [hr]; exact new_nilR hS⟩
 ·(try simp only [sB] at hc21)
  have h0 : rdyY k (decide (goodT t)) [m] = 0 := by simpa using hc21
  obtain ⟨hY, hgt, hel⟩ := rdyY_ok h0
  have hgt : goodT t := of_decide_eq_true hgt
  have hem : elG k.1 m := hel _ (by simp)
  obtain ⟨_, hg, _, ⟨hG, _⟩, hYe, _⟩ := chkY_ok hY
  refine Ck (Xa (Cs ?_))
  refine Kq rfl (lda rfl rfl .tc u33 rfl ?_) ?_
  ·kernel_rfl
  refine Kq rfl (Fa (q := 0) rfl rfl u26 rfl rfl) (Kq rfl (Fa (q := 1) rfl rfl u24 rfl rfl) (Kq rfl (Ld rfl rfl .tc u22) ?_))
  refine Kh rfl (Oc rfl rfl (keep_o1 fun w hS => rbelow_c (t := t) (n := k.1.2) (by (exact hS.sl)) (by assumption) (by assumption))) ?_
  intro g30
  refine WL.pu ?_
  intro hg30; (try dsimp only at hg30 ⊢)
  refine Km rfl (Kq rfl (Re rfl rfl rfl) (Kq rfl (Re rfl rfl rfl) (Kq rfl (Re rfl rfl rfl) ?_)))
  refine Kh rfl (Oz [.slice none 0 0, .string (S []), .int .i64 0] rfl) ?_
  intro b12
  refine Ka rfl ?_
  refine Nu rfl rfl (Sa rfl rfl rfl .tc) ?_
  refine Ka rfl (Nt (Cq (Cs (Km rfl (Kq rfl (rd_neq rfl rfl rfl) (Nt ?_))))))
  refine Cd rfl (fun hc35 => ?_) (fun hc35 => ?_)
  ·(try simp only [sB] at hc35)
   have hr : encS k m t = ((([], []), [], zeroT), (belowS t k.1.2).2.2) := by rw [encS, if_neg (fun h => h h0), if_pos hc35]
   refine Cs (Kq rfl (Kb [[.string (S [])], [.string (S [])]] rfl rfl) (Kq rfl (Kb [[.slice none 0 0], [.string (S [])], [.int .i64 0]] rfl rfl) (Km rfl ?_)))
   refine Nu rfl rfl (Sa rfl rfl rfl .tc) ?_
   refine Ka rfl ?_
   refine Nu rfl rfl (Sa rfl rfl rfl .tc) ?_
   refine Ka rfl (Nt (Ce (Xb ?_)))
   exact Rn rfl (.agg rfl .tc u28 rfl (by kernel_rfl) (.tmp rfl (.agg rfl .tc u33 rfl (by kernel_rfl) (.tmp rfl .nil)))) fun w' hS => ⟨⟨none, 0, []⟩, by rw [hr]; rfl, by rw [hr]; rfl, by rw [hr]; exact new_nilR hS⟩
  ·(try simp only [sB] at hc35)
   have hb0 : (belowS t k.1.2).2.2 = 0 := by simpa using hc35
   have hr : encS k m t = ((mskN k (canon 1, m) (val (belowS t k.1.2).1), (belowS t k.1.2).1, (belowS t k.1.2).2.1), 0) := by rw [encS, if_neg (fun h => h h0), if_neg (fun h => h hb0)]
   have hbk := below_okN hb0 hgt (chkY_ok hY).1.2.1
   refine Ck (Xa (Cq ?_))
   refine WC.free (K := [⟨some b12, [g30.val (belowS t k.1.2).2.1.vals.length, .string (S (belowS t k.1.2).2.1.seed), .int .i64 (belowS t k.1.2).2.1.at_], 33⟩, ⟨some b3, [.string (S k.1.1), .string (S k.1.2), .string (S k.2.1), .string (S k.2.2)], 26⟩]) (fs0 := []) [1, 0, 2, 3, 4, 5, 6, 7, 8, 9, 10, 11, 12, 15, 13, 14, 16] [17, 18] [0, 1, 0, 0, 0, 1, 0, 0, 0, 0, 0, 1, 0, 0, 0, 1, 0, 2, 2] (by kernel_rfl) (by kernel_rfl) rfl ?_
   refine Jv rfl rfl rfl rfl rfl (fun ext => Oc rfl rfl (Kv fun w hS => rof_c (n := 1) (by omega))) ?_
   refine Kj rfl (lda rfl rfl .tc u26 rfl ?_) ?_
   ·kernel_rfl
   refine Kj rfl (Fa (q := 2) rfl rfl u26 rfl rfl) (Kj rfl (Ld rfl rfl .tc u22) ?_)
   refine Kj rfl (Rm rfl rfl) ?_
   refine Jv rfl rfl rfl rfl rfl (fun ext => Oc rfl rfl (Kv fun w hS => eltimes_ok (w := w) (k := k) (x := canon 1) (b := k.2.1) (r := (belowS t k.1.2).1) hm8 hg (el_one hY) hG hbk.1)) ?_
   refine Kj rfl (lda rfl rfl .tc u26 rfl ?_) ?_
   ·kernel_rfl
   refine Kj rfl (Rm rfl rfl) (Kj rfl (Fa (q := 3) rfl rfl u26 rfl rfl) (Kj rfl (Ld rfl rfl .tc u22) ?_))
   refine Kj rfl (Rm rfl rfl) ?_
   refine Jv rfl rfl rfl rfl rfl (fun ext => Oc rfl rfl (Kv fun w hS => eltimes_ok (w := w) (k := k) (x := m) (b := k.2.2) (r := (belowS t k.1.2).1) hm8 hg hem hYe hbk.1)) ?_
   refine Kj rfl (Kb [[.string (S [])], [.string (S [])]] rfl rfl) ?_
   refine WJ.st rfl rfl rfl rfl (staJ rfl rfl rfl ?_ ?_ ?_) ?_
   ·kernel_rfl
   ·simp [Value.oneCell']
   ·rfl
   refine Kj rfl (Rm rfl rfl) ?_
   refine Kj rfl (lda rfl rfl .tc u33 rfl ?_) ?_
   ·kernel_rfl
   refine Kj rfl (Ra rfl rfl) ?_
   refine WJ.nil ?_
   refine Nu rfl rfl (Sa rfl rfl rfl .tc) ?_
   refine Ka rfl (Nt (Ce ?_))
   exact Rn rfl (.agg rfl .tc u28 rfl (by kernel_rfl) (.tmp rfl (.agg rfl .tc u33 rfl (by kernel_rfl) (.tmp rfl .nil)))) fun w' hS => ⟨g30, by rw [hr]; rfl, by rw [hr]; exact hg30, by rw [hr]; exact st_sub _ hS⟩
theorem relref_c {k : PK} {c : Cp} {t : Tp} {a : Option Addr} {cap : Nat} {w : World} {ok : Nat → Prop} (hF1 : (Fact.sl a (strs t.vals)).holds ok w) (hl : t.vals.length ≤ 100000) (hsd : t.seed.length ≤ 400000) (hm8 : k.1.1.length ≤ 8) :
  Calls Tryz.prog 30 #[pkV k, cpV c, t.v (.slice a t.vals.length cap)] w fun e w' => ∃ g : Rs, e = .returned (.tuple #[cpV (refS k c t).1.1, (refS k c t).1.2.v (g.val (refS k c t).1.2.vals.length), .int .i64 (refS k c t).2]) ∧ g.cap = (refS k c t).1.2.vals.length + g.sp.length ∧ St (fun _ => True) w [g.ent (strs (refS k c t).1.2.vals) 22] [] w' := by
 refine En [Fact.sl a (strs t.vals)] [(0, pkV k), (1, cpV c), (2, t.v (.slice a t.vals.length cap))] Tryz.func30 rfl Tryz.ntmps30 rfl (Ac rfl (Ac rfl (Ac rfl (An _)))) (Fc (fact_any hF1) Fn) ?_
 refine Cs ?_
 refine Kh rfl (Oy rfl rfl) ?_
 intro b3
 refine Kh rfl (Oy rfl rfl) ?_
 intro b4
 refine Kh rfl (Oy rfl rfl) ?_
 intro b5
 refine Kh rfl (Oz [.string (S []), .string (S [])] rfl) ?_
 intro b6
 refine Kh rfl (Oz [.slice none 0 0, .string (S []), .int .i64 0] rfl) ?_
 intro b7
 refine Ka rfl (Nt (Cq (Cq ?_)))
 refine Cf [6, 7, 0, 1, 2, 3, 4, 5, 8, 9] [] [0, 0, 0, 0, 0, 3, 0, 1, 1, 0] (by kernel_rfl) (by kernel_rfl) rfl ?_
 refine Kj rfl (lda rfl rfl .tc u33 rfl ?_) ?_
 ·kernel_rfl
 refine Jv rfl rfl rfl rfl rfl (fun ext => Oc rfl rfl (Kv fun w hS => rtgood_c (t := t) (by (exact hS.sl)) (by omega))) ?_
 refine Kj rfl (lda rfl rfl .tc u26 rfl ?_) ?_
 ·kernel_rfl
 refine Kj rfl (Fa (q := 0) rfl rfl u28 rfl rfl) (Kj rfl (Ld rfl rfl .tc u22) ?_)
 refine Kj rfl (Fa (q := 1) rfl rfl u28 rfl rfl) (Kj rfl (Ld rfl rfl .tc u22) ?_)
 refine Jf rfl rfl rfl rfl rfl (fr_bs1 rfl rfl u31 (by kernel_rfl : _ = some (some (.string (S [])), 1, 16)) rfl (by simp only [List.map]; rfl) rfl rfl ?_ (by decide)) ?_
 ·simp [Value.cells]
 intro b18
 refine Jv rfl rfl rfl rfl rfl (fun ext => Oc rfl rfl (Kv fun w hS => relready_c (k := k) (l1 := []) (l2 := [c.1, c.2]) (t := decide (goodT t)) (by (exact sl_nil)) (by (exact hS.os)) (by (simp <;> omega)) (by (simp <;> omega)) (by assumption))) ?_
 refine WJ.set 21 rfl (v' := .int .i64 (rdyY k (decide (goodT t)) [c.1, c.2])) (congrArg (Value.int .i64) (by simp)) ?_
 refine Kj rfl (Ra rfl rfl) ?_
 refine WJ.nil ?_
 refine Nt (Cs (Km rfl (Kq rfl (rd_neq rfl rfl rfl) (Nt ?_))))
 refine Cd rfl (fun hc23 => ?_) (fun hc23 => ?_)
 ·(try simp only [sB] at hc23)
  have hr : refS k c t = ((([], []), zeroT), rdyY k (decide (goodT t)) [c.1, c.2]) := by rw [refS, if_pos hc23]
  refine Cs (Kq rfl (Kb [[.string (S [])], [.string (S [])]] rfl rfl) (Kq rfl (Kb [[.slice none 0 0], [.string (S [])], [.int .i64 0]] rfl rfl) (Km rfl ?_)))
  refine Nu rfl rfl (Sa rfl rfl rfl .tc) ?_
  refine Nu rfl rfl (Sa rfl rfl rfl .tc) ?_
  refine Ka rfl (Nt (Ce (Xb ?_)))
  exact Rn rfl (.agg rfl .tc u28 rfl (by kernel_rfl) (.agg rfl .tc u33 rfl (by kernel_rfl) (.tmp rfl .nil))) fun w' hS => ⟨⟨none, 0, []⟩, by rw [hr]; rfl, by rw [hr]; rfl, by rw [hr]; exact new_nilR hS⟩
 ·(try simp only [sB] at hc23)
  have h0 : rdyY k (decide (goodT t)) [c.1, c.2] = 0 := by simpa using hc23
  obtain ⟨hY, hgt, hel⟩ := rdyY_ok h0
  have hgt : goodT t := of_decide_eq_true hgt
  have he1 : elG k.1 c.1 := hel _ (by simp)
  have he2 : elG k.1 c.2 := hel _ (by simp)
  obtain ⟨_, hg, _, ⟨hG, _⟩, hYe, _⟩ := chkY_ok hY
  refine Ck (Xa (Cs ?_))
  refine Kq rfl (lda rfl rfl .tc u33 rfl ?_) ?_
  ·kernel_rfl
  refine Kq rfl (Fa (q := 0) rfl rfl u26 rfl rfl) (Kq rfl (Fa (q := 1) rfl rfl u24 rfl rfl) (Kq rfl (Ld rfl rfl .tc u22) ?_))
  refine Kh rfl (Oc rfl rfl (keep_o1 fun w hS => rbelow_c (t := t) (n := k.1.2) (by (exact hS.sl)) (by assumption) (by assumption))) ?_
  intro g32
  refine WL.pu ?_
  intro hg32; (try dsimp only at hg32 ⊢)
  refine Km rfl (Kq rfl (Re rfl rfl rfl) (Kq rfl (Re rfl rfl rfl) (Kq rfl (Re rfl rfl rfl) ?_)))
  refine Kh rfl (Oz [.slice none 0 0, .string (S []), .int .i64 0] rfl) ?_
  intro b11
  refine Ka rfl ?_
  refine Nu rfl rfl (Sa rfl rfl rfl .tc) ?_
  refine Ka rfl (Nt (Cq (Cs (Km rfl (Kq rfl (rd_neq rfl rfl rfl) (Nt ?_))))))
  refine Cd rfl (fun hc37 => ?_) (fun hc37 => ?_)
  ·(try simp only [sB] at hc37)
   have hr : refS k c t = ((([], []), zeroT), (belowS t k.1.2).2.2) := by rw [refS, if_neg (fun h => h h0), if_pos hc37]
   refine Cs (Kq rfl (Kb [[.string (S [])], [.string (S [])]] rfl rfl) (Kq rfl (Kb [[.slice none 0 0], [.string (S [])], [.int .i64 0]] rfl rfl) (Km rfl ?_)))
   refine Nu rfl rfl (Sa rfl rfl rfl .tc) ?_
   refine Nu rfl rfl (Sa rfl rfl rfl .tc) ?_
   refine Ka rfl (Nt (Ce (Xb ?_)))
   exact Rn rfl (.agg rfl .tc u28 rfl (by kernel_rfl) (.agg rfl .tc u33 rfl (by kernel_rfl) (.tmp rfl .nil))) fun w' hS => ⟨⟨none, 0, []⟩, by rw [hr]; rfl, by rw [hr]; rfl, by rw [hr]; exact new_nilR hS⟩
  ·(try simp only [sB] at hc37)
   have hb0 : (belowS t k.1.2).2.2 = 0 := by simpa using hc37
   have hr : refS k c t = ((mskN k c (val (belowS t k.1.2).1), (belowS t k.1.2).2.1), 0) := by rw [refS, if_neg (fun h => h h0), if_neg (fun h => h hb0)]
   have hbk := below_okN hb0 hgt (chkY_ok hY).1.2.1
   refine Ck (Xa (Cq ?_))
   refine WC.free (K := [⟨some b11, [g32.val (belowS t k.1.2).2.1.vals.length, .string (S (belowS t k.1.2).2.1.seed), .int .i64 (belowS t k.1.2).2.1.at_], 33⟩, ⟨some b4, [.string (S c.1), .string (S c.2)], 28⟩, ⟨some b3, [.string (S k.1.1), .string (S k.1.2), .string (S k.2.1), .string (S k.2.2)], 26⟩]) (fs0 := []) [0, 1, 2, 3, 4, 5, 6, 7, 8, 9, 10, 11, 12, 13, 14, 16, 15] [17, 18] [0, 0, 0, 0, 0, 0, 1, 0, 0, 0, 0, 0, 0, 1, 0, 0, 1, 2, 2] (by kernel_rfl) (by kernel_rfl) rfl ?_
   refine Kj rfl (lda rfl rfl .tc u26 rfl ?_) ?_
   ·kernel_rfl
   refine Kj rfl (Fa (q := 0) rfl rfl u28 rfl rfl) (Kj rfl (Ld rfl rfl .tc u22) ?_)
   refine Kj rfl (Fa (q := 2) rfl rfl u26 rfl rfl) (Kj rfl (Ld rfl rfl .tc u22) ?_)
   refine Kj rfl (Rm rfl rfl) ?_
   refine Jv rfl rfl rfl rfl rfl (fun ext => Oc rfl rfl (Kv fun w hS => eltimes_ok (w := w) (k := k) (x := c.1) (b := k.2.1) (r := (belowS t k.1.2).1) hm8 hg he1 hG hbk.1)) ?_
   refine Kj rfl (lda rfl rfl .tc u26 rfl ?_) ?_
   ·kernel_rfl
   refine Kj rfl (Fa (q := 1) rfl rfl u28 rfl rfl) (Kj rfl (Ld rfl rfl .tc u22) ?_)
   refine Kj rfl (Fa (q := 3) rfl rfl u26 rfl rfl) (Kj rfl (Ld rfl rfl .tc u22) ?_)
   refine Kj rfl (Rm rfl rfl) ?_
   refine Jv rfl rfl rfl rfl rfl (fun ext => Oc rfl rfl (Kv fun w hS => eltimes_ok (w := w) (k := k) (x := c.2) (b := k.2.2) (r := (belowS t k.1.2).1) hm8 hg he2 hYe hbk.1)) ?_
   refine Kj rfl (Kb [[.string (S [])], [.string (S [])]] rfl rfl) ?_
   refine WJ.st rfl rfl rfl rfl (staJ rfl rfl rfl ?_ ?_ ?_) ?_
   ·kernel_rfl
   ·simp [Value.oneCell']
   ·rfl
   refine Kj rfl (lda rfl rfl .tc u33 rfl ?_) ?_
   ·kernel_rfl
   refine WJ.nil ?_
   refine Nu rfl rfl (Sa rfl rfl rfl .tc) ?_
   refine Ka rfl (Nt (Ce ?_))
   exact Rn rfl (.agg rfl .tc u28 rfl (by kernel_rfl) (.agg rfl .tc u33 rfl (by kernel_rfl) (.tmp rfl .nil))) fun w' hS => ⟨g32, by rw [hr]; rfl, by rw [hr]; exact hg32, by rw [hr]; exact st_sub _ hS⟩
theorem und_string : Tryz.prog.underlying 22 = some .string := by kernel_rfl
theorem part_nat (cs : Array Value) (k : Nat) (v : Value) (w : World) (h : cs[k]? = some v) : (part 22 cs k).run Tryz.prog w = .ok v w := run_part_plain w (by kernel_rfl) h
theorem pn20 (u v : Value) (w : World) : (part 22 #[u, v] 0).run Tryz.prog w = .ok u w := part_nat _ _ _ w rfl
theorem pn21 (u v : Value) (w : World) : (part 22 #[u, v] 1).run Tryz.prog w = .ok v w := part_nat _ _ _ w rfl
theorem eq_nat (d : Nat) (a b : Bs) (w : World) : (Op.equalIn (d + 1) 22 (.string (S a)) (.string (S b))).run Tryz.prog w = .ok (decide (a = b)) w := by
 rw [run_equalIn_string w d _ _ _ und_string, str_eq]
theorem eql_api_Cipher (a b c d : Bs) (w : World) : (binOp .eql 28 (.agg #[.string (S a), .string (S b)]) (.agg #[.string (S c), .string (S d)])).run Tryz.prog w = .ok (.bool (decide (a = c ∧ b = d))) w := by
 rw [run_eql_struct, run_equalIn_agg w _ _ _ _ (by kernel_rfl) (by kernel_rfl)]
 have hf : (Tryz.prog.fieldsOf 28).toList = [⟨"A", 22, 0, false, "", "", 0⟩, ⟨"B", 22, 1, false, "", "", 16⟩] := by kernel_rfl
 rw [hf]
 simp only [Op.eqFields, Sem.run_bind, pn20, pn21, eq_nat, Result.andThen_ok, Sem.run_ite, Sem.run_pure]
 by_cases h1 : a = c <;> by_cases h2 : b = d <;> simp [h1, h2]
instance : DecidableEq Tm := inferInstanceAs (DecidableEq (Bs × Int × Bool × Bs))
instance : DecidableEq Qn := inferInstanceAs (DecidableEq (Int × Bs × List Tm))
instance : DecidableEq Sm := inferInstanceAs (DecidableEq (List (Bs × Bs) × List Bs × List Qn))
end Go.Proofs.YtmkghgoibnncbaaGreatDoor
