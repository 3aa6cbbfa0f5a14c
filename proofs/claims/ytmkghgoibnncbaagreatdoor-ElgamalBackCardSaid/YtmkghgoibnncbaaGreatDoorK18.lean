/-
  Parts of the walk: Elg Elh Eli Eqt Eqc.
-/
import Derived.Test.YtmkghgoibnncbaaGreatDoorK17
namespace Go.Proofs.YtmkghgoibnncbaaGreatDoor
open Go.RowKit
set_option linter.unusedSimpArgs false
set_option linter.unusedVariables false
set_option maxHeartbeats 600000
set_option maxRecDepth 20000
abbrev cpV (c : Cp) : Value := .agg #[.string (S c.1), .string (S c.2)]
abbrev CE (r : Cp × Int) : Value := .tuple #[cpV r.1, .int .i64 r.2]
theorem eldecrypt_c {k : PK} {s : Bs} {c : Cp} {w : World} (hm8 : k.1.1.length ≤ 8) :
  Cw 17 #[pkV k, .string (S s), cpV c] w (NE (decS k s c)) := by
 refine En [] [(0, pkV k), (1, .string (S s)), (2, cpV c)] Tryz.func17 rfl Tryz.ntmps17 rfl (Ac rfl (Ac rfl (Ac rfl (An _)))) Fn ?_
 refine Cs ?_
 refine Kh rfl (Oy rfl rfl) ?_
 intro b3
 refine Kh rfl (Oy rfl rfl) ?_
 intro b4
 refine Kh rfl (Oy rfl rfl) ?_
 intro b5
 refine Ka rfl (Ka rfl (Nt (Cq (Cs ?_))))
 refine Kq rfl (lda rfl rfl .tc u26 rfl ?_) ?_
 ·kernel_rfl
 refine Kq rfl (rd_mkf rfl rfl rfl) ?_
 refine Kq rfl (Fa (q := 0) rfl rfl u28 rfl rfl) ?_
 refine Kq rfl (Ld rfl rfl .tc u22) ?_
 refine Kq rfl (Fa (q := 1) rfl rfl u28 rfl rfl) ?_
 refine Kq rfl (Ld rfl rfl .tc u22) ?_
 refine Kh rfl (og_bs1 rfl rfl u31 (by kernel_rfl : _ = some (some (.string (S [])), 1, 16)) rfl (by simp only [List.map]; rfl) rfl rfl ?_ (by decide)) ?_
 ·simp [Value.cells]
 intro b17
 refine Ku rfl (Oc rfl rfl (Kv fun w hS => elready_c (k := k) (fk := 55) (okb := decide (okN s)) (l := [c.1, c.2]) (by (exact hS.os)) (by simp) (by exact hm8) (by kernel_rfl) (by exact fun w' hb => eldec1_c (fact_keep hS.os hb)))) ?_
 refine Ka rfl (Nt (Cs (Km rfl (Kq rfl (rd_neq rfl rfl rfl) (Nt ?_)))))
 refine Cd rfl (fun hc20 => ?_) (fun hc20 => ?_)
 ·(try simp only [sB] at hc20)
  refine Cs (Km rfl (Ka rfl (Ka rfl (Nt (Ce (Xb ?_))))))
  exact R2 rfl rfl rfl (by rw [decS, if_pos (by simpa using hc20)]; rfl)
 ·(try simp only [sB] at hc20)
  have h0 : rdyY k (decide (okN s)) [c.1, c.2] = 0 := by simpa using hc20
  obtain ⟨hY, hs, hel⟩ := rdyY_ok h0
  have hs : okN s := of_decide_eq_true hs
  obtain ⟨_, hg, _, _, _, _⟩ := chkY_ok hY
  have h1 : elG k.1 c.1 := hel _ (by simp)
  have h2 : elG k.1 c.2 := hel _ (by simp)
  refine Ck (Xa (Cq ?_))
  refine WC.joinP (σ := Unit) [(3, _), (4, _), (5, _)] (fun gq => [(41, .bool (decide (s = [] ∨ 0 ≤ cmpN s k.1.2 ∨ (prodS k.1 [k.2.1] [(false, s)]).1 ≠ k.2.2)))]) (fun gq => True) (S3 rfl rfl rfl) ?_ ?_
  ·skip
   refine Cf [0, 1, 2, 3, 4, 5, 6, 7, 8, 9, 10, 11, 12, 13, 14, 15, 16, 17, 18, 19] [] [0, 0, 0, 0, 0, 0, 0, 1, 0, 0, 0, 0, 0, 0, 0, 1, 0, 0, 0, 0] (by kernel_rfl) (by kernel_rfl) rfl ?_
   refine Kj rfl (Ld rfl rfl .tc u22) ?_
   refine Kj rfl (rd_seq rfl rfl rfl) ?_
   refine Kj rfl (Rm rfl rfl) ?_
   refine WJ.bool 24 rfl (fun hg24 => ?_) (fun hg24 => ?_)
   ·(try simp only [sB] at hg24)
    refine Js rfl rfl rfl rfl ?_
    refine Js rfl rfl rfl rfl ?_
    refine Js rfl rfl rfl rfl ?_
    refine Js rfl rfl rfl rfl ?_
    refine Js rfl rfl rfl rfl ?_
    refine Js rfl rfl rfl rfl ?_
    refine Kj rfl (Rp rfl rfl rfl) ?_
    refine Kj rfl (Rm rfl rfl) ?_
    refine Js rfl rfl rfl rfl ?_
    refine Js rfl rfl rfl rfl ?_
    refine Js rfl rfl rfl rfl ?_
    refine Js rfl rfl rfl rfl ?_
    refine Js rfl rfl rfl rfl ?_
    refine Js rfl rfl rfl rfl ?_
    refine Js rfl rfl rfl rfl ?_
    refine Js rfl rfl rfl rfl ?_
    refine Kj rfl (Rp rfl rfl rfl) ?_
    refine WJ.nil ?_
    refine Nn ?_
    refine WX.joinP (()) (S3 rfl rfl rfl) (by refine (Sc ?_ (S0 _)) <;> ((refine slot_b rfl ?_; (try dsimp only); (simp [*]; done)))) ?_ (by (exact fun _ h => h))
    (try dsimp only)
    done
   ·(try simp only [sB] at hg24)
    refine Kj rfl (Ld rfl rfl .tc u22) ?_
    refine Kj rfl (Fa (q := 0) rfl rfl u26 rfl rfl) ?_
    refine Kj rfl (Fa (q := 1) rfl rfl u24 rfl rfl) ?_
    refine Kj rfl (Ld rfl rfl .tc u22) ?_
    refine Jv rfl rfl rfl rfl rfl (fun ext => Oc rfl rfl (Kv fun w hS => Cmp_c (a := s) (b := k.1.2))) ?_
    refine Kj rfl (rd_geq rfl rfl rfl) ?_
    refine Kj rfl (Rq rfl rfl rfl) ?_
    refine Kj rfl (Rm rfl rfl) ?_
    refine WJ.bool 32 rfl (fun hg32 => ?_) (fun hg32 => ?_)
    ·(try simp only [sB] at hg32)
     refine Js rfl rfl rfl rfl ?_
     refine Js rfl rfl rfl rfl ?_
     refine Js rfl rfl rfl rfl ?_
     refine Js rfl rfl rfl rfl ?_
     refine Js rfl rfl rfl rfl ?_
     refine Js rfl rfl rfl rfl ?_
     refine Js rfl rfl rfl rfl ?_
     refine Js rfl rfl rfl rfl ?_
     refine Kj rfl (Rp rfl rfl rfl) ?_
     refine WJ.nil ?_
     refine Nn ?_
     refine WX.joinP (()) (S3 rfl rfl rfl) (by refine (Sc ?_ (S0 _)) <;> ((refine slot_b rfl ?_; (try dsimp only); (simp [*]; done)))) ?_ (by (exact fun _ h => h))
     (try dsimp only)
     done
    ·(try simp only [sB] at hg32)
     refine Kj rfl (lda rfl rfl .tc u26 rfl ?_) ?_
     ·kernel_rfl
     refine Kj rfl (Fa (q := 2) rfl rfl u26 rfl rfl) ?_
     refine Kj rfl (Ld rfl rfl .tc u22) ?_
     refine Kj rfl (Ld rfl rfl .tc u22) ?_
     refine Jv rfl rfl rfl rfl rfl (fun ext => Oc rfl rfl (Kv fun w hS => elexp_c (k := k) (b := k.2.1) (z := s) (by assumption))) ?_
     refine Kj rfl (Fa (q := 3) rfl rfl u26 rfl rfl) ?_
     refine Kj rfl (Ld rfl rfl .tc u22) ?_
     refine Kj rfl (rd_sne rfl rfl rfl) ?_
     refine Kj rfl (Rq rfl rfl rfl) ?_
     refine WJ.nil ?_
     refine Nn ?_
     refine WX.joinP (()) (S3 rfl rfl rfl) (by refine (Sc ?_ (S0 _)) <;> ((refine congrArg (fun b => some (Value.bool b)) ?_; simp [*]; omega))) ?_ (by (exact fun _ h => h))
     (try dsimp only)
     done
  ·rintro _ hmeet; (try dsimp only at hmeet ⊢)
   refine Cd rfl (fun hc41 => ?_) (fun hc41 => ?_)
   ·(try simp only [sB] at hc41)
    have hn : ¬ isS k s := fun h => (isS_iff hY hs).1 h hc41
    refine Cs (Ka rfl (Ka rfl (Nt (Ce (Xb ?_)))))
    exact R2 rfl rfl rfl (by rw [decS, if_neg (fun h => h h0), if_pos hn]; rfl)
   ·(try simp only [sB] at hc41)
    have hi : isS k s := (isS_iff hY hs).2 hc41
    refine Ck (Xa (Cs ?_))
    refine Kq rfl (Fa (q := 0) rfl rfl u26 rfl rfl) ?_
    refine Kq rfl (ldp rfl rfl .tc u24 rfl (by kernel_rfl : _ = some 2) (by rfl) (by rfl)) ?_
    refine Kq rfl (Fa (q := 1) rfl rfl u28 rfl rfl) ?_
    refine Kq rfl (Ld rfl rfl .tc u22) ?_
    refine Kq rfl (Fa (q := 0) rfl rfl u28 rfl rfl) ?_
    refine Kq rfl (Ld rfl rfl .tc u22) ?_
    refine Kh rfl (og_bs1 rfl rfl u31 (by kernel_rfl : _ = some (some (.string (S [])), 1, 16)) rfl (by simp only [List.map]; rfl) rfl rfl ?_ (by decide)) ?_
    ·simp [Value.cells]
    intro b49
    refine Kq rfl (Kb [[.bool false], [.string (S [])]] rfl rfl) ?_
    refine Kq rfl (Ld rfl rfl .tc u22) ?_
    refine Kq rfl (Kb [[.bool false], [.string (S [])]] rfl rfl) ?_
    refine Kh rfl (og_bsN rfl rfl u71 (by kernel_rfl : _ = some (some (.agg #[.bool false, .string (S [])]), 2, 24)) (by kernel_rfl) (by decide) rfl rfl (by (simp [Value.cells]; done)) (by (simp only [List.map, Value.cells, List.flatMap_cons, List.flatMap_nil, List.append_nil, List.toList_toArray]; rfl)) (by decide)) ?_
    intro b53
    refine Ku rfl (Oc rfl rfl (Kv fun w hS => (by have := pproduct_c (w := w) (g := k.1) (l := [c.2, c.1]) (es := [(false, canon 1), (true, s)]) (a := some ⟨b49, 0, none⟩) (b := some ⟨b53, 0, none⟩) (c := 2) (d := 2) hS.os hS.os (by simp) (by simp) hm8; rw [dec_code hg h1 h2 hs hi.1] at this; exact this))) ?_
    refine Km rfl (Kq rfl (Re rfl rfl rfl) (Kq rfl (Re rfl rfl rfl) (Ka rfl (Ka rfl (Nt (Cs (Km rfl (Ka rfl (Ka rfl (Nt (Ce ?_)))))))))))
    exact R2 rfl rfl rfl (by rw [decS, if_neg (fun h => h h0), if_neg (fun h => h hi)]; rfl)
theorem elmulc_c {k : PK} {a b : Cp} {w : World} (hm8 : k.1.1.length ≤ 8) :
  Cw 31 #[pkV k, cpV a, cpV b] w (CE (mulC k a b)) := by
 refine En [] [(0, pkV k), (1, cpV a), (2, cpV b)] Tryz.func31 rfl Tryz.ntmps31 rfl (Ac rfl (Ac rfl (Ac rfl (An _)))) Fn ?_
 refine Cs ?_
 refine Kh rfl (Oy rfl rfl) ?_
 intro b3
 refine Kh rfl (Oy rfl rfl) ?_
 intro b4
 refine Kh rfl (Oy rfl rfl) ?_
 intro b5
 refine Kh rfl (Oz [.string (S []), .string (S [])] rfl) ?_
 intro b6
 refine Ka rfl (Nt (Cq (Cs ?_)))
 refine Kq rfl (lda rfl rfl .tc u26 rfl ?_) ?_
 ·kernel_rfl
 refine Kq rfl (Fa (q := 0) rfl rfl u28 rfl rfl) ?_
 refine Kq rfl (Ld rfl rfl .tc u22) ?_
 refine Kq rfl (Fa (q := 1) rfl rfl u28 rfl rfl) ?_
 refine Kq rfl (Ld rfl rfl .tc u22) ?_
 refine Kq rfl (Fa (q := 0) rfl rfl u28 rfl rfl) ?_
 refine Kq rfl (Ld rfl rfl .tc u22) ?_
 refine Kq rfl (Fa (q := 1) rfl rfl u28 rfl rfl) ?_
 refine Kq rfl (Ld rfl rfl .tc u22) ?_
 refine Kh rfl (og_bs1 rfl rfl u31 (by kernel_rfl : _ = some (some (.string (S [])), 1, 16)) rfl (by simp only [List.map]; rfl) rfl rfl ?_ (by decide)) ?_
 ·simp [Value.cells]
 intro b18
 refine Ku rfl (Oc rfl rfl (Kv fun w hS => elready_c (k := k) (fk := 77) (cs := #[]) (okb := true) (l := [a.1, a.2, b.1, b.2]) (by (exact hS.os)) (by simp) (by exact hm8) (by kernel_rfl) (by exact fun w' hb => elalways_c))) ?_
 refine Ka rfl (Nt (Cs (Km rfl (Kq rfl (rd_neq rfl rfl rfl) (Nt ?_)))))
 refine Cd rfl (fun hc21 => ?_) (fun hc21 => ?_)
 ·(try simp only [sB] at hc21)
  refine Cs ?_
  refine Kq rfl (Kb [[.string (S [])], [.string (S [])]] rfl rfl) ?_
  refine Km rfl ?_
  refine Nu rfl rfl (Sa rfl rfl rfl .tc) ?_
  refine Ka rfl (Nt (Ce (Xb ?_)))
  exact Rn rfl (.agg rfl .tc u28 rfl (by kernel_rfl) (.tmp rfl .nil)) fun w' hS => ⟨by rw [mulC, if_pos (by simpa using hc21)]; rfl, hS.below⟩
 ·(try simp only [sB] at hc21)
  have h0 : rdyY k true [a.1, a.2, b.1, b.2] = 0 := by simpa using hc21
  obtain ⟨hY, _, hel⟩ := rdyY_ok h0
  obtain ⟨_, hg, _, _, _, _⟩ := chkY_ok hY
  have hr : mulC k a b = ((canon (val a.1 * val b.1 % val k.1.1), canon (val a.2 * val b.2 % val k.1.1)), 0) := by rw [mulC, if_neg (fun h => h h0)]
  refine Ck (Xa (Cq ?_))
  refine Cf [0, 1, 2, 3, 4, 5, 6, 7, 8, 9, 10, 11, 12] [13, 14] [0, 0, 0, 0, 0, 1, 0, 0, 0, 0, 0, 1, 0, 2, 2] (by kernel_rfl) (by kernel_rfl) rfl ?_
  refine Kj rfl (lda rfl rfl .tc u26 rfl ?_) ?_
  ·kernel_rfl
  refine Kj rfl (Fa (q := 0) rfl rfl u28 rfl rfl) ?_
  refine Kj rfl (Ld rfl rfl .tc u22) ?_
  refine Kj rfl (Fa (q := 0) rfl rfl u28 rfl rfl) ?_
  refine Kj rfl (Ld rfl rfl .tc u22) ?_
  refine Jv rfl rfl rfl rfl rfl (fun ext => Oc rfl rfl (Kv fun w hS => (by have := elmul_c (w := w) (k := k) (a := a.1) (b := b.1) hm8; rw [mulS_ok hg (hel _ (by simp)) (hel _ (by simp))] at this; exact this))) ?_
  refine Kj rfl (lda rfl rfl .tc u26 rfl ?_) ?_
  ·kernel_rfl
  refine Kj rfl (Fa (q := 1) rfl rfl u28 rfl rfl) ?_
  refine Kj rfl (Ld rfl rfl .tc u22) ?_
  refine Kj rfl (Fa (q := 1) rfl rfl u28 rfl rfl) ?_
  refine Kj rfl (Ld rfl rfl .tc u22) ?_
  refine Jv rfl rfl rfl rfl rfl (fun ext => Oc rfl rfl (Kv fun w hS => (by have := elmul_c (w := w) (k := k) (a := a.2) (b := b.2) hm8; rw [mulS_ok hg (hel _ (by simp)) (hel _ (by simp))] at this; exact this))) ?_
  refine Kj rfl (Kb [[.string (S [])], [.string (S [])]] rfl rfl) ?_
  refine WJ.nil ?_
  refine Nu rfl rfl (Sa rfl rfl rfl .tc) ?_
  refine Ka rfl (Nt (Ce ?_))
  exact Rn rfl (.agg rfl .tc u28 rfl (by kernel_rfl) (.tmp rfl .nil)) fun w' hS => ⟨by rw [hr]; rfl, hS.below⟩
theorem elstate_c {k : PK} {c : Cp} {b v : Bs} {w : World} {ok : Nat → Prop} (hm8 : k.1.1.length ≤ 8) :
  Calls Tryz.prog 19 #[pkV k, cpV c, .string (S b), .string (S v)] w fun e w' => ∃ gx : SA, e = .returned (SME gx (stS k c b v).2) ∧ (gx.core = (stS k c b v).1) ∧ Below w.heap.size w w' ∧ ∀ x ∈ (saF gx : List Fact), x.holds (fun b => ok b ∨ w.heap.size ≤ b) w' := by
 refine enter (S := St (fun b => ok b ∨ w.heap.size ≤ b) w [] ([])) (L := [(0, pkV k), (1, cpV c), (2, .string (S b)), (3, .string (S v))]) Tryz.func19 rfl Tryz.ntmps19 rfl (Ac rfl (Ac rfl (Ac rfl (Ac rfl (An _))))) (St.start (fun _ h => Or.inr h) (facts_or Fn)) ?_
 refine Cs ?_
 refine Kh rfl (Oy rfl rfl) ?_
 intro b4
 refine Kh rfl (Oy rfl rfl) ?_
 intro b5
 refine Kh rfl (Oy rfl rfl) ?_
 intro b7
 refine Kh rfl (Oz [.slice none 0 0, .slice none 0 0, .slice none 0 0] rfl) ?_
 intro b8
 refine Ka rfl (Nt (Cq (Cs ?_)))
 refine Kq rfl (lda rfl rfl .tc u26 rfl ?_) ?_
 ·kernel_rfl
 refine Kq rfl (rd_mkf rfl rfl rfl) ?_
 refine Kq rfl (Fa (q := 0) rfl rfl u28 rfl rfl) ?_
 refine Kq rfl (Ld rfl rfl .tc u22) ?_
 refine Kq rfl (Fa (q := 1) rfl rfl u28 rfl rfl) ?_
 refine Kq rfl (Ld rfl rfl .tc u22) ?_
 refine Km rfl ?_
 refine Kh rfl (og_bs1 rfl rfl u31 (by kernel_rfl : _ = some (some (.string (S [])), 1, 16)) rfl (by simp only [List.map]; rfl) rfl rfl ?_ (by decide)) ?_
 ·simp [Value.cells]
 intro b18
 refine Ku rfl (Oc rfl rfl (Kv fun w hS => elready_c (k := k) (fk := 64) (okb := decide (okN v)) (l := [c.1, c.2, b]) (by (exact hS.os)) (by simp) (by exact hm8) (by kernel_rfl) (by exact fun w' hb => elst1_c (fact_keep hS.os hb)))) ?_
 refine Ka rfl (Nt (Cs (Km rfl (Kq rfl (rd_neq rfl rfl rfl) (Nt ?_)))))
 refine Cd rfl (fun hc21 => ?_) (fun hc21 => ?_)
 ·(try simp only [sB] at hc21)
  have hr : stS k c b v = (([], [], []), stE k c b v) := by rw [stS, if_pos (show stE k c b v ≠ 0 from hc21)]
  refine Cs ?_
  refine Kq rfl (Kb [[.slice none 0 0], [.slice none 0 0], [.slice none 0 0]] rfl rfl) ?_
  refine Km rfl ?_
  refine Nu rfl rfl (Sa rfl rfl rfl .tc) ?_
  refine Ka rfl (Nt (Ce (Xb ?_)))
  exact Rn rfl (.agg rfl .tc u52 rfl (by kernel_rfl) (.tmp rfl .nil)) fun w' hS => sm_err hr hS
 ·(try simp only [sB] at hc21)
  have h9 : rdyY k (decide (okN v)) [c.1, c.2, b] = 0 := by simpa using hc21
  have hr : stS k c b v = (stQ k c b v, 0) := by rw [stS, if_neg (fun h => h (show stE k c b v = 0 from h9))]
  refine Ck (Xa (Cq ?_))
  refine Cf [9, 10, 11, 16, 17, 18, 19, 20, 0, 1, 2, 3, 4, 5, 6, 7, 8, 12, 13, 14, 15, 21, 22, 23, 24] [25, 26] [0, 0, 3, 0, 0, 0, 3, 0, 0, 0, 0, 1, 3, 0, 0, 0, 0, 1, 0, 0, 1, 3, 0, 3, 0, 2, 2] (by kernel_rfl) (by kernel_rfl) rfl ?_
  refine Kj rfl (Fa (q := 2) rfl rfl u26 rfl rfl) ?_
  refine Kj rfl (Ld rfl rfl .tc u22) ?_
  refine Jv rfl rfl rfl rfl rfl (fun ext => Oc rfl rfl (Kv fun w hS => elterm_c (b := k.2.1) (v := 1))) ?_
  refine Kj rfl (Rm rfl rfl) ?_
  refine Jv rfl rfl rfl rfl rfl (fun ext => Oc rfl rfl (Kv fun w hS => elterm_c (b := b) (v := 0))) ?_
  refine Kj rfl (Fa (q := 3) rfl rfl u26 rfl rfl) ?_
  refine Kj rfl (Ld rfl rfl .tc u22) ?_
  refine Jv rfl rfl rfl rfl rfl (fun ext => Oc rfl rfl (Kv fun w hS => elterm_c (b := k.2.2) (v := 1))) ?_
  refine Kj rfl (Fa (q := 0) rfl rfl u26 rfl rfl) ?_
  refine Kj rfl (ldp rfl rfl .tc u24 rfl (by kernel_rfl : _ = some 2) (by rfl) (by rfl)) ?_
  refine Jf rfl rfl rfl rfl rfl (fr_bsN rfl rfl u48 (by kernel_rfl : _ = some (some (.agg #[.string (S []), .string (S [])]), 2, 32)) (by kernel_rfl) (by decide) rfl rfl (by (simp [Value.cells]; done)) (by (exact cells_one _)) (by decide)) ?_
  intro b26
  refine Kj rfl (Ld rfl rfl .tc u22) ?_
  refine Kj rfl (Kb [[.string (S [])]] rfl rfl) ?_
  refine Kj rfl (Kb [[.string (S [])]] rfl rfl) ?_
  refine Jf rfl rfl rfl rfl rfl (fr_bsN rfl rfl u49 (by kernel_rfl : _ = some (some (.agg #[.string (S [])]), 1, 16)) (by kernel_rfl) (by decide) rfl rfl (by (simp [Value.cells]; done)) (by (simp only [List.map, Value.cells, List.flatMap_cons, List.flatMap_nil, List.append_nil, List.toList_toArray]; rfl)) (by decide)) ?_
  intro b30
  refine Kj rfl (Fa (q := 0) rfl rfl u28 rfl rfl) ?_
  refine Kj rfl (Ld rfl rfl .tc u22) ?_
  refine Jf rfl rfl rfl rfl rfl (fr_bsN rfl rfl u121 (by kernel_rfl : _ = some (some (.agg #[.string (S []), .int .i64 0, .bool false, .string (S [])]), 4, 48)) (by kernel_rfl) (by decide) rfl rfl (by (simp [Value.cells]; done)) (by (exact cells_one _)) (by decide)) ?_
  intro b36
  refine Kj rfl (Kb [[.int .i64 0], [.string (S [])], [.slice none 0 0]] rfl rfl) ?_
  refine Kj rfl (Fa (q := 1) rfl rfl u28 rfl rfl) ?_
  refine Kj rfl (Ld rfl rfl .tc u22) ?_
  refine Jf rfl rfl rfl rfl rfl (fr_bsN rfl rfl u121 (by kernel_rfl : _ = some (some (.agg #[.string (S []), .int .i64 0, .bool false, .string (S [])]), 4, 48)) (by kernel_rfl) (by decide) rfl rfl (by (simp [Value.cells]; done)) (by (simp only [List.map, Value.cells, List.flatMap_cons, List.flatMap_nil, List.append_nil, List.toList_toArray]; rfl)) (by decide)) ?_
  intro b45
  refine Kj rfl (Kb [[.int .i64 0], [.string (S [])], [.slice none 0 0]] rfl rfl) ?_
  refine Jf rfl rfl rfl rfl rfl (fr_bsN rfl rfl u50 (by kernel_rfl : _ = some (some (.agg #[.int .i64 0, .string (S []), .slice none 0 0]), 3, 48)) (by kernel_rfl) (by decide) rfl rfl (by (simp [Value.cells]; done)) (by (simp only [List.map, Value.cells, List.flatMap_cons, List.flatMap_nil, List.append_nil, List.toList_toArray]; rfl)) (by decide)) ?_
  intro b47
  refine Kj rfl (Kb [[.slice none 0 0], [.slice none 0 0], [.slice none 0 0]] rfl rfl) ?_
  refine WJ.nil ?_
  refine Nu rfl rfl (Sa rfl rfl rfl .tc) ?_
  refine Ka rfl (Nt (Ce ?_))
  exact Rn rfl (.agg rfl .tc u52 rfl (by kernel_rfl) (.tmp rfl .nil)) fun w' hS => ⟨⟨[k.1], [v, []], [((0, c.1, [trm k.2.1 1]), some ⟨b36, 0, none⟩, 1), ((0, c.2, [trm b 0, trm k.2.2 1]), some ⟨b45, 0, none⟩, 2)], some ⟨b26, 0, none⟩, 1, some ⟨b30, 0, none⟩, 2, some ⟨b47, 0, none⟩, 2⟩, by rw [hr]; rfl, by rw [hr]; rfl, hS.below, Fc hS.osk (Fc hS.osk (Fc hS.osk (Fc hS.osk (Fc hS.osk Fn))))⟩
theorem eltimes_c {k : PK} {x b z : Bs} {w : World} (hm8 : k.1.1.length ≤ 8) :
  Cw 53 #[pkV k, .string (S x), .string (S b), .string (S z)] w (.string (S (prodS k.1 [x, b] [ofZ 1, fromZ z]).1)) := by
 refine En [] [(0, pkV k), (1, .string (S x)), (2, .string (S b)), (3, .string (S z))] Tryz.func53 rfl Tryz.ntmps53 rfl (Ac rfl (Ac rfl (Ac rfl (Ac rfl (An _))))) Fn ?_
 refine Cs ?_
 refine Kh rfl (Oy rfl rfl) ?_
 intro b4
 refine Ka rfl (Nt (Cq ?_))
 refine Cf [5, 6, 7, 0, 1, 2, 3, 4, 8, 9, 10, 11, 12, 13, 14] [] [0, 0, 0, 0, 3, 1, 0, 1, 3, 1, 0, 0, 0, 0, 0] (by kernel_rfl) (by kernel_rfl) rfl ?_
 refine Jv rfl rfl rfl rfl rfl (fun ext => Oc rfl rfl (Kv fun w hS => rzof_c (n := 1) (by omega) (by omega))) ?_
 refine Kj rfl (Rm rfl rfl) ?_
 refine Jv rfl rfl rfl rfl rfl (fun ext => Oc rfl rfl (Kv fun w hS => rfrom_c (a := z))) ?_
 refine Kj rfl (Fa (q := 0) rfl rfl u26 rfl rfl) ?_
 refine Kj rfl (ldp rfl rfl .tc u24 rfl (by kernel_rfl : _ = some 2) (by rfl) (by rfl)) ?_
 refine Kj rfl (Rm rfl rfl) ?_
 refine Kj rfl (Rm rfl rfl) ?_
 refine Jf rfl rfl rfl rfl rfl (fr_bs1 rfl rfl u31 (by kernel_rfl : _ = some (some (.string (S [])), 1, 16)) rfl (by simp only [List.map]; rfl) rfl rfl ?_ (by decide)) ?_
 ·simp [Value.cells]
 intro b16
 refine Jf rfl rfl rfl rfl rfl (fr_bsN rfl rfl u71 (by kernel_rfl : _ = some (some (.agg #[.bool false, .string (S [])]), 2, 24)) (by kernel_rfl) (by decide) rfl rfl (by (simp [Value.cells]; done)) (by (simp only [List.map, Value.cells, List.flatMap_cons, List.flatMap_nil, List.append_nil, List.toList_toArray]; rfl)) (by decide)) ?_
 intro b20
 refine Jv rfl rfl rfl rfl rfl (fun ext => Oc rfl rfl (Kv fun w hS => rproduct_c (g := k.1) (l := [x, b]) (es := [ofZ 1, fromZ z]) (by (exact hS.os)) (by (exact hS.os)) (by (simp <;> omega)) (by (simp <;> omega)) (by assumption))) ?_
 refine Kj rfl (Rm rfl rfl) ?_
 refine Kj rfl (Re rfl rfl rfl) ?_
 refine Kj rfl (Re rfl rfl rfl) ?_
 refine Kj rfl (Ra rfl rfl) ?_
 refine Kj rfl (Ra rfl rfl) ?_
 refine WJ.nil ?_
 refine Nt (Cs (Km rfl (Ka rfl (Nt (Ce ?_)))))
 exact R1 rfl rfl (by rfl)
def rdA (t : Bool) (l : List Bs) (i : Nat) : Bool := t && (l.take i).all fun x => decide (okN x)
theorem rdA_succ {t : Bool} {l : List Bs} {i : Nat} (h : i < l.length) : rdA t l (i + 1) = (rdA t l i && decide (okN (l.getD i default))) := by
 rw [rdA, rdA, take_succ_getD h, List.all_append]; simp [Bool.and_assoc]
theorem rdA_zero {t : Bool} {l : List Bs} : rdA t l 0 = t := by simp [rdA]
theorem rdA_all {t : Bool} {l : List Bs} : rdA t l l.length = true ↔ t = true ∧ ∀ x ∈ l, okN x := by simp [rdA]
theorem relready_c {k : PK} {l1 l2 : List Bs} {t : Bool} {a1 a2 : Option Addr} {c1 c2 : Nat} {w : World} {ok : Nat → Prop} (hF1 : (Fact.sl a1 (strs l1)).holds ok w) (hF2 : (Fact.sl a2 (strs l2)).holds ok w) (hl1 : l1.length ≤ 1000) (hl2 : l2.length ≤ 1000) (hm8 : k.1.1.length ≤ 8) :
  Cw 50 #[pkV k, .slice a1 l1.length c1, .slice a2 l2.length c2, .bool t] w (.int .i64 (rdyY k (decide (t = true ∧ ∀ x ∈ l1, okN x)) l2)) := by
 refine En [Fact.sl a1 (strs l1), Fact.sl a2 (strs l2)] [(0, pkV k), (1, .slice a1 l1.length c1), (2, .slice a2 l2.length c2), (3, .bool t)] Tryz.func50 rfl Tryz.ntmps50 rfl (Ac rfl (Ac rfl (Ac rfl (Ac rfl (An _))))) (Fc (fact_any hF1) (Fc (fact_any hF2) Fn)) ?_
 refine Cs ?_
 refine Kh rfl (Oy rfl rfl) ?_
 intro b4
 refine Ka rfl (Nt (Cq (Cs ?_)))
 refine Kq rfl (lda rfl rfl .tc u26 rfl ?_) ?_
 ·kernel_rfl
 refine Ku rfl (Oc rfl rfl (Kv fun w hS => rschcheck_c (k := k) (by assumption))) ?_
 refine Ka rfl (Nt (Cs (Km rfl (Kq rfl (rd_neq rfl rfl rfl) (Nt ?_)))))
 refine Cd rfl (fun hc17 => ?_) (fun hc17 => ?_)
 ·(try simp only [sB] at hc17)
  refine Cs (Km rfl (Ka rfl (Nt (Ce (Xb ?_)))))
  exact R1 rfl rfl (by rw [rdyY, if_pos (by simpa using hc17)]; rfl)
 ·(try simp only [sB] at hc17)
  have hY : chkY k = 0 := by simpa using hc17
  have hg := (chkY_ok hY).2.1
  refine Ck (Xa (Cs (Km rfl ?_)))
  refine Ns 19 rfl (v' := .bool (rdA t l1 0)) (congrArg Value.bool (by rw [rdA_zero])) ?_
  refine Ka rfl (Nt (Cq (Cs (Ka rfl (Nt (Cb ?_))))))
  refine Lp (σ := Nat) [(1, _), (2, _), (4, _)] (fun gq => [(10, .bool (rdA t l1 gq)), (11, .int .i64 (gq : Int))]) (fun gq => gq ≤ l1.length) (fun gq => l1.length - gq) (0) (S3 rfl rfl rfl) (S2 rfl rfl) (by (try dsimp only); exact Nat.zero_le _) ?_
  rintro i hinv1; (try dsimp only at hinv1 ⊢)
  obtain hi := hinv1
  refine Cq (Cs (Km rfl (Km rfl (Kq rfl (rd_len rfl rfl u31) (Kq rfl (rd_lss rfl rfl rfl) (Nt ?_))))))
  refine Cd rfl (fun hc23 => ?_) (fun hc23 => ?_)
  ·(try simp only [sB] at hc23)
   have hil : i < l1.length := by omega
   refine Ck (Xa (Cq (Cb (Cg (Km rfl (Km rfl ?_))))))
   refine Nb 27 rfl (fun hg27 => ?_) (fun hg27 => ?_)
   ·(try simp only [sB] at hg27)
    refine Km rfl (Km rfl ?_)
    refine Kq rfl (Ib rfl rfl rfl u31 (by omega) (by (rw [List.length_map]; omega))) ?_
    refine Kq rfl (ldm rfl rfl u22 rfl (by assumption)) ?_
    refine Ku rfl (Oc rfl rfl (Kv fun w hS => rvalid_c (a := l1.getD i default))) ?_
    refine Kq rfl (Rp rfl rfl rfl) ?_
    refine Ns 33 rfl (v' := .bool (rdA t l1 (i + 1))) (congrArg Value.bool (by rw [rdA_succ hil]; simp [*])) ?_
    refine Ka rfl (Nn (Xd (Xa (Cg (Km rfl ?_)))))
    refine Kq rfl (Rz rfl rfl rfl (by omega)) ?_
    refine Ka rfl (Nn ?_)
    refine Ly (i + 1) (by (try dsimp only); omega) (S3 rfl rfl rfl) (by refine (Sc ?_ (Sc ?_ (S0 _))) <;> (rfl)) ?_ (by (exact fun _ h => h))
    (try dsimp only)
    exact hil
   ·(try simp only [sB] at hg27)
    refine Kt rfl (Kt rfl (Kt rfl (Kt rfl (Kt rfl (Kq rfl (Rq rfl rfl rfl) ?_)))))
    refine Ns 33 rfl (v' := .bool (rdA t l1 (i + 1))) (congrArg Value.bool (by rw [rdA_succ hil]; simp [*])) ?_
    refine Ka rfl (Nn (Xd (Xa (Cg (Km rfl ?_)))))
    refine Kq rfl (Rz rfl rfl rfl (by omega)) ?_
    refine Ka rfl (Nn ?_)
    refine Ly (i + 1) (by (try dsimp only); omega) (S3 rfl rfl rfl) (by refine (Sc ?_ (Sc ?_ (S0 _))) <;> (rfl)) ?_ (by (exact fun _ h => h))
    (try dsimp only)
    exact hil
  ·(try simp only [sB] at hc23)
   refine Cx (Xc (Xc (Xe ?_)))
   obtain rfl : i = l1.length := by omega
   rw [← rdA_zero (t := rdA t l1 l1.length) (l := l2)]
   refine Xa (Cq (Cs (Ka rfl (Nt (Cb ?_)))))
   refine Lp (σ := Nat) [(2, _), (4, _)] (fun gq => [(10, .bool (rdA (rdA t l1 l1.length) l2 gq)), (12, .int .i64 (gq : Int))]) (fun gq => gq ≤ l2.length) (fun gq => l2.length - gq) (0) (S2 rfl rfl) (S2 rfl rfl) (by (try dsimp only); exact Nat.zero_le _) ?_
   rintro j hinv2; (try dsimp only at hinv2 ⊢)
   obtain hj := hinv2
   refine Cq (Cs (Km rfl (Km rfl (Kq rfl (rd_len rfl rfl u31) (Kq rfl (rd_lss rfl rfl rfl) (Nt ?_))))))
   refine Cd rfl (fun hc37 => ?_) (fun hc37 => ?_)
   ·(try simp only [sB] at hc37)
    have hjl : j < l2.length := by omega
    refine Ck (Xa (Cq (Cb (Cg (Km rfl (Km rfl ?_))))))
    refine Nb 41 rfl (fun hg41 => ?_) (fun hg41 => ?_)
    ·(try simp only [sB] at hg41)
     refine Km rfl (Km rfl ?_)
     refine Kq rfl (Ib rfl rfl rfl u31 (by omega) (by (rw [List.length_map]; omega))) ?_
     refine Kq rfl (ldm rfl rfl u22 rfl (by assumption)) ?_
     refine Ku rfl (Oc rfl rfl (Kv fun w hS => rvalid_c (a := l2.getD j default))) ?_
     refine Kq rfl (Rp rfl rfl rfl) ?_
     refine Ns 47 rfl (v' := .bool (rdA (rdA t l1 l1.length) l2 (j + 1))) (congrArg Value.bool (by rw [rdA_succ hjl]; simp [*])) ?_
     refine Ka rfl (Nn (Xd (Xa (Cg (Km rfl ?_)))))
     refine Kq rfl (Rz rfl rfl rfl (by omega)) ?_
     refine Ka rfl (Nn ?_)
     refine Ly (j + 1) (by (try dsimp only); omega) (S2 rfl rfl) (by refine (Sc ?_ (Sc ?_ (S0 _))) <;> (rfl)) ?_ (by (exact fun _ h => h))
     (try dsimp only)
     exact hjl
    ·(try simp only [sB] at hg41)
     refine Kt rfl (Kt rfl (Kt rfl (Kt rfl (Kt rfl (Kq rfl (Rq rfl rfl rfl) ?_)))))
     refine Ns 47 rfl (v' := .bool (rdA (rdA t l1 l1.length) l2 (j + 1))) (congrArg Value.bool (by rw [rdA_succ hjl]; simp [*])) ?_
     refine Ka rfl (Nn (Xd (Xa (Cg (Km rfl ?_)))))
     refine Kq rfl (Rz rfl rfl rfl (by omega)) ?_
     refine Ka rfl (Nn ?_)
     refine Ly (j + 1) (by (try dsimp only); omega) (S2 rfl rfl) (by refine (Sc ?_ (Sc ?_ (S0 _))) <;> (rfl)) ?_ (by (exact fun _ h => h))
     (try dsimp only)
     exact hjl
   ·(try simp only [sB] at hc37)
    refine Cx (Xc (Xc (Xe ?_)))
    obtain rfl : j = l2.length := by omega
    refine Xa (Cq (Cs (Km rfl (Kq rfl (Rt rfl rfl) (Nt ?_)))))
    refine Cd rfl (fun hc49 => ?_) (fun hc49 => ?_)
    ·(try simp only [sB] at hc49)
     have hn : ¬ ((∀ x ∈ l2, okN x) ∧ decide (t = true ∧ ∀ x ∈ l1, okN x) = true) := fun h => by
      have h9 := rdA_all.2 ⟨rdA_all.2 (of_decide_eq_true h.2), h.1⟩
      rw [h9] at hc49; simp at hc49
     refine Cs (Ka rfl (Nt (Ce (Xb ?_))))
     exact R1 rfl rfl (by rw [rdyY, if_neg (fun h => h hY), if_pos hn]; rfl)
    ·(try simp only [sB] at hc49)
     have hn : (∀ x ∈ l2, okN x) ∧ decide (t = true ∧ ∀ x ∈ l1, okN x) = true := by
      have h9 := rdA_all.1 (by simpa using hc49)
      exact ⟨h9.2, decide_eq_true (rdA_all.1 h9.1)⟩
     refine Ck (Xa (Cq (Cs (Ka rfl (Nt (Cb ?_))))))
     refine Lp (σ := Nat) [(2, _), (4, _)] (fun gq => [(13, .int .i64 (gq : Int))]) (fun gq => gq ≤ l2.length ∧ ∀ x ∈ l2.take gq, elG k.1 x) (fun gq => l2.length - gq) (0) (S2 rfl rfl) (S1 rfl) (by (try dsimp only); exact ⟨Nat.zero_le _, by simp⟩) ?_
     rintro n hinv3; (try dsimp only at hinv3 ⊢)
     obtain ⟨hn3, hel⟩ := hinv3
     refine Cq (Cs (Km rfl (Km rfl (Kq rfl (rd_len rfl rfl u31) (Kq rfl (rd_lss rfl rfl rfl) (Nt ?_))))))
     refine Cd rfl (fun hc53 => ?_) (fun hc53 => ?_)
     ·(try simp only [sB] at hc53)
      have hnl : n < l2.length := by omega
      refine Ck (Xa (Cq (Cb (Cq ?_))))
      refine Cf [0, 1, 2, 3, 4, 5, 6, 7] [] [0, 0, 0, 0, 0, 0, 1, 0] (by kernel_rfl) (by kernel_rfl) rfl ?_
      refine Kj rfl (Fa (q := 0) rfl rfl u26 rfl rfl) ?_
      refine Kj rfl (ldp rfl rfl .tc u24 rfl (by kernel_rfl : _ = some 2) (by rfl) (by rfl)) ?_
      refine Kj rfl (Rm rfl rfl) ?_
      refine Kj rfl (Rm rfl rfl) ?_
      refine Kj rfl (Ib rfl rfl rfl u31 (by omega) (by (rw [List.length_map]; omega))) ?_
      refine Kj rfl (ldm rfl rfl u22 rfl (by assumption)) ?_
      refine Jv rfl rfl rfl rfl rfl (fun ext => Oc rfl rfl (Kv fun w hS => rghas_c (g := k.1) (x := l2.getD n default) (by assumption))) ?_
      refine WJ.set 62 rfl (v' := .bool (decide (elG k.1 (l2.getD n default)))) (congrArg Value.bool (by simp [hg])) ?_
      refine Kj rfl (Rt rfl rfl) ?_
      refine WJ.nil ?_
      refine Nt ?_
      refine Cd rfl (fun hc63 => ?_) (fun hc63 => ?_)
      ·(try simp only [sB] at hc63)
       refine Cs (Ka rfl (Nt (Ce (Xf (Xb (Xb (Xf (Xb ?_))))))))
       exact R1 rfl rfl (by rw [rdyY, if_neg (fun h => h hY), if_neg (fun h => h hn), if_pos (fun h => absurd (h _ (getD_mem _ _ hnl)) (by simpa using hc63))]; rfl)
      ·(try simp only [sB] at hc63)
       refine Ck (Xd (Xa (Cg (Km rfl ?_))))
       refine Kq rfl (Rz rfl rfl rfl (by omega)) ?_
       refine Ka rfl (Nn ?_)
       refine Ly (n + 1) (by (try dsimp only); omega) (S2 rfl rfl) (by refine (Sc ?_ (S0 _)) <;> (rfl)) ?_ (by (exact fun _ h => h))
       (try dsimp only)
       exact ⟨hnl, all_take hnl hel (by simpa using hc63)⟩
     ·(try simp only [sB] at hc53)
      refine Cx (Xc (Xc (Xe ?_)))
      obtain rfl : n = l2.length := by omega
      rw [List.take_length] at hel
      refine Xa (Cs (Ka rfl (Nt (Ce ?_))))
      exact R1 rfl rfl (by rw [rdyY, if_neg (fun h => h hY), if_neg (fun h => h hn), if_neg (fun h => h hel)]; rfl)
theorem elsecret_c {k : PK} {s : Bs} {w : World} (hm8 : k.1.1.length ≤ 8) (hY : chkY k = 0) (hs : okN s) :
  Cw 59 #[pkV k, .string (S s)] w (.bool (decide (isS k s))) := by
 refine En [] [(0, pkV k), (1, .string (S s))] Tryz.func59 rfl Tryz.ntmps59 rfl (Ac rfl (Ac rfl (An _))) Fn ?_
 refine Cs ?_
 refine Kh rfl (Oy rfl rfl) ?_
 intro b2
 refine Ka rfl (Nt (Cq ?_))
 refine Cf [0, 1, 2, 3, 4, 5, 6, 7, 8, 9, 10, 12, 11, 13, 14, 15, 16, 17, 18, 19, 20, 21] [] [0, 0, 0, 0, 0, 0, 0, 1, 0, 0, 0, 0, 1, 0, 0, 0, 1, 0, 0, 0, 0, 0] (by kernel_rfl) (by kernel_rfl) rfl ?_
 refine Kj rfl (Rm rfl rfl) ?_
 refine Kj rfl (rd_sne rfl rfl rfl) ?_
 refine Kj rfl (Rm rfl rfl) ?_
 refine WJ.bool 7 rfl (fun hg7 => ?_) (fun hg7 => ?_)
 ·(try simp only [sB] at hg7)
  refine Kj rfl (Rm rfl rfl) ?_
  refine Kj rfl (Fa (q := 0) rfl rfl u26 rfl rfl) ?_
  refine Kj rfl (Fa (q := 1) rfl rfl u24 rfl rfl) ?_
  refine Kj rfl (Ld rfl rfl .tc u22) ?_
  refine Jv rfl rfl rfl rfl rfl (fun ext => Oc rfl rfl (Kv fun w hS => rCmp_c (a := s) (b := k.1.2))) ?_
  refine Kj rfl (rd_lss rfl rfl rfl) ?_
  refine Kj rfl (Rp rfl rfl rfl) ?_
  refine Kj rfl (Rm rfl rfl) ?_
  refine WJ.bool 15 rfl (fun hg15 => ?_) (fun hg15 => ?_)
  ·(try simp only [sB] at hg15)
   refine Jv rfl rfl rfl rfl rfl (fun ext => Oc rfl rfl (Kv fun w hS => rof_c (n := 1) (by omega))) ?_
   refine Kj rfl (lda rfl rfl .tc u26 rfl ?_) ?_
   ·kernel_rfl
   refine Kj rfl (Fa (q := 2) rfl rfl u26 rfl rfl) ?_
   refine Kj rfl (Ld rfl rfl .tc u22) ?_
   refine Kj rfl (Rm rfl rfl) ?_
   refine Jv rfl rfl rfl rfl rfl (fun ext => Oc rfl rfl (Kv fun w hS => eltimes_c (k := k) (x := canon 1) (b := k.2.1) (z := s) (by assumption))) ?_
   refine Kj rfl (Fa (q := 3) rfl rfl u26 rfl rfl) ?_
   refine Kj rfl (Ld rfl rfl .tc u22) ?_
   refine Kj rfl (rd_seq rfl rfl rfl) ?_
   refine Kj rfl (Rp rfl rfl rfl) ?_
   refine Kj rfl (Ra rfl rfl) ?_
   refine WJ.nil ?_
   refine Nt (Ce ?_)
   exact R1 rfl rfl (by simp only [tup]; refine congrArg (fun b => Ending.returned (Value.bool b)) ?_; (exact decide_eq_decide.2 ((isS_ref hY hs).trans ⟨fun h => h.2.2, fun h => ⟨by assumption, by omega, h⟩⟩).symm))
  ·(try simp only [sB] at hg15)
   refine Js rfl rfl rfl rfl ?_
   refine Js rfl rfl rfl rfl ?_
   refine Js rfl rfl rfl rfl ?_
   refine Js rfl rfl rfl rfl ?_
   refine Js rfl rfl rfl rfl ?_
   refine Js rfl rfl rfl rfl ?_
   refine Js rfl rfl rfl rfl ?_
   refine Js rfl rfl rfl rfl ?_
   refine Js rfl rfl rfl rfl ?_
   refine Kj rfl (Rq rfl rfl rfl) ?_
   refine Kj rfl (Ra rfl rfl) ?_
   refine WJ.nil ?_
   refine Nt (Ce ?_)
   exact R1 rfl rfl (by simp only [tup]; refine congrArg (fun b => Ending.returned (Value.bool b)) ?_; (exact (decide_eq_false (fun h => by have := ((isS_ref hY hs).1 h).2.1; omega)).symm))
 ·(try simp only [sB] at hg7)
  refine Js rfl rfl rfl rfl ?_
  refine Js rfl rfl rfl rfl ?_
  refine Js rfl rfl rfl rfl ?_
  refine Js rfl rfl rfl rfl ?_
  refine Js rfl rfl rfl rfl ?_
  refine Js rfl rfl rfl rfl ?_
  refine Kj rfl (Rq rfl rfl rfl) ?_
  refine Kj rfl (Rm rfl rfl) ?_
  refine Js rfl rfl rfl rfl ?_
  refine Js rfl rfl rfl rfl ?_
  refine Js rfl rfl rfl rfl ?_
  refine Js rfl rfl rfl rfl ?_
  refine Js rfl rfl rfl rfl ?_
  refine Js rfl rfl rfl rfl ?_
  refine Js rfl rfl rfl rfl ?_
  refine Js rfl rfl rfl rfl ?_
  refine Js rfl rfl rfl rfl ?_
  refine Kj rfl (Rq rfl rfl rfl) ?_
  refine Kj rfl (Ra rfl rfl) ?_
  refine WJ.nil ?_
  refine Nt (Ce ?_)
  exact R1 rfl rfl (by simp only [tup]; refine congrArg (fun b => Ending.returned (Value.bool b)) ?_; (exact (decide_eq_false (fun h => h.1 (by assumption))).symm))
theorem reldec_c {k : PK} {s : Bs} {c : Cp} {w : World} (hm8 : k.1.1.length ≤ 8) :
  Cw 18 #[pkV k, .string (S s), cpV c] w (NE (decS k s c)) := by
 refine En [] [(0, pkV k), (1, .string (S s)), (2, cpV c)] Tryz.func18 rfl Tryz.ntmps18 rfl (Ac rfl (Ac rfl (Ac rfl (An _)))) Fn ?_
 refine Cs ?_
 refine Kh rfl (Oy rfl rfl) ?_
 intro b3
 refine Kh rfl (Oy rfl rfl) ?_
 intro b5
 refine Ka rfl (Ka rfl (Nt (Cq (Cs ?_))))
 refine Kq rfl (lda rfl rfl .tc u26 rfl ?_) ?_
 ·kernel_rfl
 refine Km rfl ?_
 refine Kh rfl (og_bs1 rfl rfl u31 (by kernel_rfl : _ = some (some (.string (S [])), 1, 16)) rfl (by simp only [List.map]; rfl) rfl rfl ?_ (by decide)) ?_
 ·simp [Value.cells]
 intro b11
 refine Kq rfl (Fa (q := 0) rfl rfl u28 rfl rfl) ?_
 refine Kq rfl (Ld rfl rfl .tc u22) ?_
 refine Kq rfl (Fa (q := 1) rfl rfl u28 rfl rfl) ?_
 refine Kq rfl (Ld rfl rfl .tc u22) ?_
 refine Kh rfl (og_bs1 rfl rfl u31 (by kernel_rfl : _ = some (some (.string (S [])), 1, 16)) rfl (by simp only [List.map]; rfl) rfl rfl ?_ (by decide)) ?_
 ·simp [Value.cells]
 intro b16
 refine Ku rfl (Oc rfl rfl (Kv fun w hS => relready_c (k := k) (l1 := [s]) (l2 := [c.1, c.2]) (t := true) (by (exact hS.os)) (by (exact hS.os)) (by (simp <;> omega)) (by (simp <;> omega)) (by assumption))) ?_
 refine Ns 17 rfl (v' := .int .i64 (rdyY k (decide (okN s)) [c.1, c.2])) (congrArg (Value.int .i64) (by simp)) ?_
 refine Ka rfl (Nt (Cs (Km rfl (Kq rfl (rd_neq rfl rfl rfl) (Nt ?_)))))
 refine Cd rfl (fun hc19 => ?_) (fun hc19 => ?_)
 ·(try simp only [sB] at hc19)
  refine Cs (Km rfl (Ka rfl (Ka rfl (Nt (Ce (Xb ?_))))))
  exact R2 rfl rfl rfl (by rw [decS, if_pos (by simpa using hc19)]; rfl)
 ·(try simp only [sB] at hc19)
  have h0 : rdyY k (decide (okN s)) [c.1, c.2] = 0 := by simpa using hc19
  obtain ⟨hY, hs, hel⟩ := rdyY_ok h0
  have hs : okN s := of_decide_eq_true hs
  obtain ⟨_, hg, _, _, _, _⟩ := chkY_ok hY
  have h1 : elG k.1 c.1 := hel _ (by simp)
  have h2 : elG k.1 c.2 := hel _ (by simp)
  refine Ck (Xa (Cq (Cs ?_)))
  refine Kq rfl (lda rfl rfl .tc u26 rfl ?_) ?_
  ·kernel_rfl
  refine Km rfl ?_
  refine Ku rfl (Oc rfl rfl (Kv fun w hS => elsecret_c (k := k) (s := s) (by exact hm8) (by exact hY) (by exact hs))) ?_
  refine Kq rfl (Rt rfl rfl) (Nt ?_)
  refine Cd rfl (fun hc24 => ?_) (fun hc24 => ?_)
  ·(try simp only [sB] at hc24)
   have hn : ¬ isS k s := by simpa using hc24
   refine Cs (Ka rfl (Ka rfl (Nt (Ce (Xb ?_)))))
   exact R2 rfl rfl rfl (by rw [decS, if_neg (fun h => h h0), if_pos hn]; rfl)
  ·(try simp only [sB] at hc24)
   have hi : isS k s := by simpa using hc24
   refine Ck (Xa (Cq ?_))
   refine Cf [7, 8, 9, 10, 0, 1, 2, 3, 4, 5, 6, 11, 12, 13, 14, 15, 16] [] [0, 0, 0, 0, 0, 0, 3, 1, 0, 1, 1, 3, 1, 0, 0, 0, 0] (by kernel_rfl) (by kernel_rfl) rfl ?_
   refine Jv rfl rfl rfl rfl rfl (fun ext => Oc rfl rfl (Kv fun w hS => rzof_c (n := 1) (by omega) (by omega))) ?_
   refine Kj rfl (Rm rfl rfl) ?_
   refine Jv rfl rfl rfl rfl rfl (fun ext => Oc rfl rfl (Kv fun w hS => rfrom_c (a := s))) ?_
   refine Jv rfl rfl rfl rfl rfl (fun ext => Oc rfl rfl (Kv fun w hS => rzneg_c (x := fromZ s))) ?_
   refine Kj rfl (Fa (q := 0) rfl rfl u26 rfl rfl) ?_
   refine Kj rfl (ldp rfl rfl .tc u24 rfl (by kernel_rfl : _ = some 2) (by rfl) (by rfl)) ?_
   refine Kj rfl (Fa (q := 1) rfl rfl u28 rfl rfl) ?_
   refine Kj rfl (Ld rfl rfl .tc u22) ?_
   refine Kj rfl (Fa (q := 0) rfl rfl u28 rfl rfl) ?_
   refine Kj rfl (Ld rfl rfl .tc u22) ?_
   refine Jf rfl rfl rfl rfl rfl (fr_bs1 rfl rfl u31 (by kernel_rfl : _ = some (some (.string (S [])), 1, 16)) rfl (by simp only [List.map]; rfl) rfl rfl ?_ (by decide)) ?_
   ·simp [Value.cells]
   intro b31
   refine Jf rfl rfl rfl rfl rfl (fr_bsN rfl rfl u71 (by kernel_rfl : _ = some (some (.agg #[.bool false, .string (S [])]), 2, 24)) (by kernel_rfl) (by decide) rfl rfl (by (simp [Value.cells]; done)) (by (simp only [List.map, Value.cells, List.flatMap_cons, List.flatMap_nil, List.append_nil, List.toList_toArray]; rfl)) (by decide)) ?_
   intro b36
   refine Jv rfl rfl rfl rfl rfl (fun ext => Oc rfl rfl (Kv fun w hS => (by have := rproduct_c (w := w) (g := k.1) (l := [c.2, c.1]) (es := [ofZ 1, negZ (fromZ s)]) (a := some ⟨b31, 0, none⟩) (b := some ⟨b36, 0, none⟩) (c := 2) (d := 2) hS.os hS.os (by simp) (by simp) hm8; rw [dec_ref hg h1 h2 hs hi.1] at this; exact this))) ?_
   refine Kj rfl (Re rfl rfl rfl) ?_
   refine Kj rfl (Re rfl rfl rfl) ?_
   refine Kj rfl (Ra rfl rfl) ?_
   refine Kj rfl (Ra rfl rfl) ?_
   refine WJ.nil ?_
   refine Nt (Ce ?_)
   exact R2 rfl rfl rfl (by rw [decS, if_neg (fun h => h h0), if_neg (fun h => h hi)]; rfl)
theorem relstate_c {k : PK} {c : Cp} {b v : Bs} {w : World} {ok : Nat → Prop} (hm8 : k.1.1.length ≤ 8) :
  Calls Tryz.prog 20 #[pkV k, cpV c, .string (S b), .string (S v)] w fun e w' => ∃ gx : SA, e = .returned (SME gx (stS k c b v).2) ∧ (gx.core = (stS k c b v).1) ∧ Below w.heap.size w w' ∧ ∀ x ∈ (saF gx : List Fact), x.holds (fun b => ok b ∨ w.heap.size ≤ b) w' := by
 refine enter (S := St (fun b => ok b ∨ w.heap.size ≤ b) w [] ([])) (L := [(0, pkV k), (1, cpV c), (2, .string (S b)), (3, .string (S v))]) Tryz.func20 rfl Tryz.ntmps20 rfl (Ac rfl (Ac rfl (Ac rfl (Ac rfl (An _))))) (St.start (fun _ h => Or.inr h) (facts_or Fn)) ?_
 refine Cs ?_
 refine Kh rfl (Oy rfl rfl) ?_
 intro b4
 refine Kh rfl (Oy rfl rfl) ?_
 intro b5
 refine Kh rfl (Oz [.slice none 0 0, .slice none 0 0, .slice none 0 0] rfl) ?_
 intro b8
 refine Ka rfl (Nt (Cq (Cs ?_)))
 refine Kq rfl (lda rfl rfl .tc u26 rfl ?_) ?_
 ·kernel_rfl
 refine Km rfl ?_
 refine Kh rfl (og_bs1 rfl rfl u31 (by kernel_rfl : _ = some (some (.string (S [])), 1, 16)) rfl (by simp only [List.map]; rfl) rfl rfl ?_ (by decide)) ?_
 ·simp [Value.cells]
 intro b14
 refine Kq rfl (Fa (q := 0) rfl rfl u28 rfl rfl) ?_
 refine Kq rfl (Ld rfl rfl .tc u22) ?_
 refine Kq rfl (Fa (q := 1) rfl rfl u28 rfl rfl) ?_
 refine Kq rfl (Ld rfl rfl .tc u22) ?_
 refine Km rfl ?_
 refine Kh rfl (og_bs1 rfl rfl u31 (by kernel_rfl : _ = some (some (.string (S [])), 1, 16)) rfl (by simp only [List.map]; rfl) rfl rfl ?_ (by decide)) ?_
 ·simp [Value.cells]
 intro b20
 refine Ku rfl (Oc rfl rfl (Kv fun w hS => relready_c (k := k) (l1 := [v]) (l2 := [c.1, c.2, b]) (t := true) (by (exact hS.os)) (by (exact hS.os)) (by (simp <;> omega)) (by (simp <;> omega)) (by assumption))) ?_
 refine Ns 21 rfl (v' := .int .i64 (rdyY k (decide (okN v)) [c.1, c.2, b])) (congrArg (Value.int .i64) (by simp)) ?_
 refine Ka rfl (Nt (Cs (Km rfl (Kq rfl (rd_neq rfl rfl rfl) (Nt ?_)))))
 refine Cd rfl (fun hc23 => ?_) (fun hc23 => ?_)
 ·(try simp only [sB] at hc23)
  have hr : stS k c b v = (([], [], []), stE k c b v) := by rw [stS, if_pos (show stE k c b v ≠ 0 from hc23)]
  refine Cs ?_
  refine Kq rfl (Kb [[.slice none 0 0], [.slice none 0 0], [.slice none 0 0]] rfl rfl) ?_
  refine Km rfl ?_
  refine Nu rfl rfl (Sa rfl rfl rfl .tc) ?_
  refine Ka rfl (Nt (Ce (Xb ?_)))
  exact Rn rfl (.agg rfl .tc u52 rfl (by kernel_rfl) (.tmp rfl .nil)) fun w' hS => sm_err hr hS
 ·(try simp only [sB] at hc23)
  have h9 : rdyY k (decide (okN v)) [c.1, c.2, b] = 0 := by simpa using hc23
  have hr : stS k c b v = (stQ k c b v, 0) := by rw [stS, if_neg (fun h => h (show stE k c b v = 0 from h9))]
  refine Ck (Xa (Cs ?_))
  refine Ku rfl (Oc rfl rfl (Kv fun w hS => rzof_c (n := 1) (by omega) (by omega))) ?_
  refine Kh rfl (Oz [.bool false, .string (S [])] rfl) ?_
  intro b11
  refine Nu rfl rfl (Sa rfl rfl rfl .tc) ?_
  refine Nt (Cs ?_)
  refine Kq rfl (Fa (q := 0) rfl rfl u26 rfl rfl) ?_
  refine Kq rfl (ldp rfl rfl .tc u24 rfl (by kernel_rfl : _ = some 2) (by rfl) (by rfl)) ?_
  refine Kh rfl (og_bsN rfl rfl u48 (by kernel_rfl : _ = some (some (.agg #[.string (S []), .string (S [])]), 2, 32)) (by kernel_rfl) (by decide) rfl rfl (by (simp [Value.cells]; done)) (by (exact cells_one _)) (by decide)) ?_
  intro b29
  refine Km rfl ?_
  refine Kq rfl (Kb [[.string (S [])]] rfl rfl) ?_
  refine Kq rfl (Kb [[.string (S [])]] rfl rfl) ?_
  refine Kh rfl (og_bsN rfl rfl u49 (by kernel_rfl : _ = some (some (.agg #[.string (S [])]), 1, 16)) (by kernel_rfl) (by decide) rfl rfl (by (simp [Value.cells]; done)) (by (simp only [List.map, Value.cells, List.flatMap_cons, List.flatMap_nil, List.append_nil, List.toList_toArray]; rfl)) (by decide)) ?_
  intro b33
  refine Kq rfl (Fa (q := 0) rfl rfl u28 rfl rfl) ?_
  refine Kq rfl (Ld rfl rfl .tc u22) ?_
  refine Kq rfl (Fa (q := 2) rfl rfl u26 rfl rfl) ?_
  refine Kq rfl (Ld rfl rfl .tc u22) ?_
  refine Kq rfl (lda rfl rfl .tc u64 rfl ?_) ?_
  ·kernel_rfl
  refine Kq rfl (Kb [[.string (S [])], [.int .i64 0], [.bool false, .string (S [])]] rfl rfl) ?_
  refine Kh rfl (og_bsN rfl rfl u121 (by kernel_rfl : _ = some (some (.agg #[.string (S []), .int .i64 0, .bool false, .string (S [])]), 4, 48)) (by kernel_rfl) (by decide) rfl rfl (by (simp [Value.cells]; done)) (by (exact cells_one _)) (by decide)) ?_
  intro b40
  refine Kq rfl (Kb [[.int .i64 0], [.string (S [])], [.slice none 0 0]] rfl rfl) ?_
  refine Kq rfl (Fa (q := 1) rfl rfl u28 rfl rfl) ?_
  refine Kq rfl (Ld rfl rfl .tc u22) ?_
  refine Km rfl ?_
  refine Kq rfl (lda rfl rfl .tc u64 rfl ?_) ?_
  ·kernel_rfl
  refine Kq rfl (Kb [[.string (S [])], [.int .i64 0], [.bool false, .string (S [])]] rfl rfl) ?_
  refine Kq rfl (Fa (q := 3) rfl rfl u26 rfl rfl) ?_
  refine Kq rfl (Ld rfl rfl .tc u22) ?_
  refine Kq rfl (lda rfl rfl .tc u64 rfl ?_) ?_
  ·kernel_rfl
  refine Kq rfl (Kb [[.string (S [])], [.int .i64 0], [.bool false, .string (S [])]] rfl rfl) ?_
  refine Kh rfl (og_bsN rfl rfl u121 (by kernel_rfl : _ = some (some (.agg #[.string (S []), .int .i64 0, .bool false, .string (S [])]), 4, 48)) (by kernel_rfl) (by decide) rfl rfl (by (simp [Value.cells]; done)) (by (simp only [List.map, Value.cells, List.flatMap_cons, List.flatMap_nil, List.append_nil, List.toList_toArray]; rfl)) (by decide)) ?_
  intro b51
  refine Kq rfl (Kb [[.int .i64 0], [.string (S [])], [.slice none 0 0]] rfl rfl) ?_
  refine Kh rfl (og_bsN rfl rfl u50 (by kernel_rfl : _ = some (some (.agg #[.int .i64 0, .string (S []), .slice none 0 0]), 3, 48)) (by kernel_rfl) (by decide) rfl rfl (by (simp [Value.cells]; done)) (by (simp only [List.map, Value.cells, List.flatMap_cons, List.flatMap_nil, List.append_nil, List.toList_toArray]; rfl)) (by decide)) ?_
  intro b53
  refine Kq rfl (Kb [[.slice none 0 0], [.slice none 0 0], [.slice none 0 0]] rfl rfl) ?_
  refine Nu rfl rfl (Sa rfl rfl rfl .tc) ?_
  refine Ka rfl (Nt (Ce ?_))
  exact Rn rfl (.agg rfl .tc u52 rfl (by kernel_rfl) (.tmp rfl .nil)) fun w' hS => ⟨⟨[k.1], [v, []], [((0, c.1, [trm k.2.1 1]), some ⟨b40, 0, none⟩, 1), ((0, c.2, [trm b 0, trm k.2.2 1]), some ⟨b51, 0, none⟩, 2)], some ⟨b29, 0, none⟩, 1, some ⟨b33, 0, none⟩, 2, some ⟨b53, 0, none⟩, 2⟩, by rw [hr]; rfl, by rw [hr]; rfl, hS.below, Fc hS.osk (Fc hS.osk (Fc hS.osk (Fc hS.osk (Fc hS.osk Fn))))⟩
theorem elgood_c {t : Tp} {a : Option Addr} {c : Nat} {w : World} {ok : Nat → Prop} (hF1 : (Fact.sl a (strs t.vals)).holds ok w) (hl : t.vals.length ≤ 100000) :
  Cw 47 #[t.v (.slice a t.vals.length c)] w (.bool (decide (goodT t))) := by
 refine En [Fact.sl a (strs t.vals)] [(0, t.v (.slice a t.vals.length c))] Tryz.func47 rfl Tryz.ntmps47 rfl (Ac rfl (An _)) (Fc (fact_any hF1) Fn) ?_
 refine Cs ?_
 refine Kh rfl (Oy rfl rfl) ?_
 intro b1
 refine Ka rfl (Nt (Cs ?_))
 refine Kq rfl (Fa (q := 0) rfl rfl u33 rfl rfl) ?_
 refine Kq rfl (Ld rfl rfl .tc u31) ?_
 refine Ku rfl (Oc rfl rfl (Kv fun w hS => elformed_c (l := t.vals) (by (exact hS.sl)) (by assumption))) ?_
 refine Km rfl ?_
 refine Nb 6 rfl (fun hg6 => ?_) (fun hg6 => ?_)
 ·(try simp only [sB] at hg6)
  refine Kq rfl (Fa (q := 2) rfl rfl u33 rfl rfl) ?_
  refine Kq rfl (Ld rfl rfl .tc u3) ?_
  refine Kq rfl (rd_geq rfl rfl rfl) (Kq rfl (Rp rfl rfl rfl) (Km rfl ?_))
  refine Nb 11 rfl (fun hg11 => ?_) (fun hg11 => ?_)
  ·(try simp only [sB] at hg11)
   refine Kq rfl (Fa (q := 2) rfl rfl u33 rfl rfl) ?_
   refine Kq rfl (Ld rfl rfl .tc u3) ?_
   refine Kq rfl (rd_leq rfl rfl rfl) (Kq rfl (Rp rfl rfl rfl) (Ka rfl (Nt (Ce ?_))))
   exact R1 rfl rfl (by simp only [tup]; refine congrArg (fun b => Ending.returned (Value.bool b)) ?_; (exact decide_eq_decide.2 ⟨fun h => ⟨by omega, by omega, by assumption⟩, fun h => by have h2 := h.2.1; omega⟩))
  ·(try simp only [sB] at hg11)
   refine Kt rfl (Kt rfl (Kt rfl (Kq rfl (Rq rfl rfl rfl) (Ka rfl (Nt (Ce ?_))))))
   exact R1 rfl rfl (by simp only [tup]; refine congrArg (fun b => Ending.returned (Value.bool b)) ?_; (exact (decide_eq_false (fun h => by have h1 := h.1; have h2 := h.2.1; omega)).symm))
 ·(try simp only [sB] at hg6)
  refine Kt rfl (Kt rfl (Kt rfl (Kq rfl (Rq rfl rfl rfl) (Km rfl (Kt rfl (Kt rfl (Kt rfl (Kq rfl (Rq rfl rfl rfl) (Ka rfl (Nt (Ce ?_)))))))))))
  exact R1 rfl rfl (by simp only [tup]; refine congrArg (fun b => Ending.returned (Value.bool b)) ?_; (exact (decide_eq_false (fun h => absurd h.2.2 (by assumption))).symm))
theorem elenc1_c {t : Tp} {a : Option Addr} {c p : Nat} {w : World} {ok : Nat → Prop} (hF1 : (Fact.sl (some ⟨p, 0, none⟩) [.slice a t.vals.length c, .string (S t.seed), .int .i64 t.at_]).holds ok w) (hF2 : (Fact.sl a (strs t.vals)).holds ok w) (hl : t.vals.length ≤ 100000) :
  Cw 46 #[.pointer (some ⟨p, 0, none⟩)] w (.bool (decide (goodT t))) := by
 refine En [Fact.sl (some ⟨p, 0, none⟩) [.slice a t.vals.length c, .string (S t.seed), .int .i64 t.at_], Fact.sl a (strs t.vals)] [(0, .pointer (some ⟨p, 0, none⟩))] Tryz.func46 rfl Tryz.ntmps46 rfl (Ac rfl (An _)) (Fc (fact_any hF1) (Fc (fact_any hF2) Fn)) ?_
 refine Cs (Ka rfl (Nt (Cs ?_)))
 refine Kq rfl (ldfa (m := 0) rfl rfl .tc u33 rfl (by kernel_rfl : _ = some 3) rfl rfl rfl (by decide)) ?_
 refine Ku rfl (Oc rfl rfl (Kv fun w hS => elgood_c (t := t) (by (exact hS.sl)) (by assumption))) ?_
 refine Ka rfl (Nt (Ce ?_))
 exact R1 rfl rfl (by rfl)
theorem elref1_c {t : Tp} {a : Option Addr} {c p : Nat} {w : World} {ok : Nat → Prop} (hF1 : (Fact.sl (some ⟨p, 0, none⟩) [.slice a t.vals.length c, .string (S t.seed), .int .i64 t.at_]).holds ok w) (hF2 : (Fact.sl a (strs t.vals)).holds ok w) (hl : t.vals.length ≤ 100000) :
  Cw 76 #[.pointer (some ⟨p, 0, none⟩)] w (.bool (decide (goodT t))) := by
 refine En [Fact.sl (some ⟨p, 0, none⟩) [.slice a t.vals.length c, .string (S t.seed), .int .i64 t.at_], Fact.sl a (strs t.vals)] [(0, .pointer (some ⟨p, 0, none⟩))] Tryz.func76 rfl Tryz.ntmps76 rfl (Ac rfl (An _)) (Fc (fact_any hF1) (Fc (fact_any hF2) Fn)) ?_
 refine Cs (Ka rfl (Nt (Cs ?_)))
 refine Kq rfl (ldfa (m := 0) rfl rfl .tc u33 rfl (by kernel_rfl : _ = some 3) rfl rfl rfl (by decide)) ?_
 refine Ku rfl (Oc rfl rfl (Kv fun w hS => elgood_c (t := t) (by (exact hS.sl)) (by assumption))) ?_
 refine Ka rfl (Nt (Ce ?_))
 exact R1 rfl rfl (by rfl)
theorem elmask_ok {k : PK} {c : Cp} {r : Bs} {w : World} (hm8 : k.1.1.length ≤ 8) (hY : chkY k = 0) (h1 : elG k.1 c.1) (h2 : elG k.1 c.2) (hr : okN r) :
  Cw 49 #[pkV k, cpV c, .string (S r)] w (cpV (mskN k c (val r))) := by
 have := elmask_c (w := w) (k := k) (c := c) (r := r) hm8
 have e := msk_code hY h1 h2 hr
 have e1 : (mulS k.1 c.1 (prodS k.1 [k.2.1] [(false, r)]).1).1 = (mskN k c (val r)).1 := congrArg Prod.fst e
 have e2 : (mulS k.1 c.2 (prodS k.1 [k.2.2] [(false, r)]).1).1 = (mskN k c (val r)).2 := congrArg Prod.snd e
 rw [e1, e2] at this; exact this
theorem new_nilE {w w' : World} {own : List Ent} {T : TypeId} {fs : List Fact} {ok : Nat → Prop} (h : St ok w own fs w') : St ok w [⟨none, [] ++ [], T⟩] [] w' := (h.nil T).sub (List.Sublist.cons_cons _ (List.nil_sublist _)) (fun _ h => by cases h)
theorem elenc_c {k : PK} {m : Bs} {t : Tp} {a : Option Addr} {cap : Nat} {w : World} {ok : Nat → Prop} (hF1 : (Fact.sl a (strs t.vals)).holds ok w) (hl : t.vals.length ≤ 100000) (hsd : t.seed.length ≤ 400000) (hm8 : k.1.1.length ≤ 8) (hT : Tab w) :
  Calls Tryz.prog 14 #[pkV k, .string (S m), t.v (.slice a t.vals.length cap)] w fun e w' => ∃ g : Rs, e = .returned (.tuple #[cpV (encS k m t).1.1, .string (S (encS k m t).1.2.1), (encS k m t).1.2.2.v (g.val (encS k m t).1.2.2.vals.length), .int .i64 (encS k m t).2]) ∧ g.cap = (encS k m t).1.2.2.vals.length + g.sp.length ∧ St (fun _ => True) w [g.ent (strs (encS k m t).1.2.2.vals) 22] [] w' := by
 refine En [Fact.sl a (strs t.vals)] [(0, pkV k), (1, .string (S m)), (2, t.v (.slice a t.vals.length cap))] Tryz.func14 rfl Tryz.ntmps14 rfl (Ac rfl (Ac rfl (Ac rfl (An _)))) (Fc (fact_any hF1) Fn) ?_
 refine Cs ?_
 refine Kh rfl (Oy rfl rfl) ?_
 intro b3
 refine Kh rfl (Oy rfl rfl) ?_
 intro b5
 refine Kh rfl (Oz [.string (S []), .string (S [])] rfl) ?_
 intro b6
 refine Ka rfl ?_
 refine Kh rfl (Oz [.slice none 0 0, .string (S []), .int .i64 0] rfl) ?_
 intro b8
 refine Ka rfl (Nt (Cq (Cs ?_)))
 refine Kq rfl (lda rfl rfl .tc u26 rfl ?_) ?_
 ·kernel_rfl
 refine Kq rfl (rd_mkf rfl rfl rfl) ?_
 refine Km rfl ?_
 refine Kh rfl (og_bs1 rfl rfl u31 (by kernel_rfl : _ = some (some (.string (S [])), 1, 16)) rfl (by simp only [List.map]; rfl) rfl rfl ?_ (by decide)) ?_
 ·simp [Value.cells]
 intro b17
 refine Ku rfl (Oc rfl rfl (Kv fun w hS => elready_c (k := k) (fk := 46) (okb := decide (goodT t)) (l := [m]) (by (exact hS.os)) (by (simp; done)) (by exact hm8) (by kernel_rfl) (by exact fun w' hb => elenc1_c (fact_keep hS.os hb) (fact_keep hS.sl hb) hl))) ?_
 refine Ka rfl (Nt (Cs (Km rfl (Kq rfl (rd_neq rfl rfl rfl) (Nt ?_)))))
 refine Cd rfl (fun hc20 => ?_) (fun hc20 => ?_)
 ·(try simp only [sB] at hc20)
  have hr : encS k m t = ((([], []), [], zeroT), rdyY k (decide (goodT t)) [m]) := by rw [encS, if_pos hc20]
  refine Cs ?_
  refine Kq rfl (Kb [[.string (S [])], [.string (S [])]] rfl rfl) ?_
  refine Kq rfl (Kb [[.slice none 0 0], [.string (S [])], [.int .i64 0]] rfl rfl) ?_
  refine Km rfl ?_
  refine Nu rfl rfl (Sa rfl rfl rfl .tc) ?_
  refine Ka rfl ?_
  refine Nu rfl rfl (Sa rfl rfl rfl .tc) ?_
  refine Ka rfl (Nt (Ce (Xb ?_)))
  exact Rn rfl (.agg rfl .tc u28 rfl (by kernel_rfl) (.tmp rfl (.agg rfl .tc u33 rfl (by kernel_rfl) (.tmp rfl .nil)))) fun w' hS => ⟨⟨none, 0, []⟩, by rw [hr]; rfl, by rw [hr]; rfl, by rw [hr]; exact new_nilE hS⟩
 ·(try simp only [sB] at hc20)
  have h0 : rdyY k (decide (goodT t)) [m] = 0 := by simpa using hc20
  obtain ⟨hY, hgt, hel⟩ := rdyY_ok h0
  have hgt : goodT t := of_decide_eq_true hgt
  have hem : elG k.1 m := hel _ (by simp)
  refine Ck (Xa (Cs ?_))
  refine Kq rfl (lda rfl rfl .tc u33 rfl ?_) ?_
  ·kernel_rfl
  refine Kq rfl (Fa (q := 0) rfl rfl u26 rfl rfl) ?_
  refine Kq rfl (Fa (q := 1) rfl rfl u24 rfl rfl) ?_
  refine Kq rfl (Ld rfl rfl .tc u22) ?_
  refine Kh rfl (Oc rfl rfl (keep_o1 fun w hS => below_c (t := t) (n := k.1.2) (by (exact hS.sl)) (by assumption) (by assumption) (by (exact tab_st hT hS)))) ?_
  intro g29
  refine WL.pu ?_
  intro hg29; (try dsimp only at hg29 ⊢)
  refine Km rfl (Kq rfl (Re rfl rfl rfl) (Kq rfl (Re rfl rfl rfl) (Kq rfl (Re rfl rfl rfl) ?_)))
  refine Kh rfl (Oz [.slice none 0 0, .string (S []), .int .i64 0] rfl) ?_
  intro b12
  refine Ka rfl ?_
  refine Nu rfl rfl (Sa rfl rfl rfl .tc) ?_
  refine Ka rfl (Nt (Cq (Cs (Km rfl (Kq rfl (rd_neq rfl rfl rfl) (Nt ?_))))))
  refine Cd rfl (fun hc34 => ?_) (fun hc34 => ?_)
  ·(try simp only [sB] at hc34)
   have hr : encS k m t = ((([], []), [], zeroT), (belowS t k.1.2).2.2) := by rw [encS, if_neg (fun h => h h0), if_pos hc34]
   refine Cs ?_
   refine Kq rfl (Kb [[.string (S [])], [.string (S [])]] rfl rfl) ?_
   refine Kq rfl (Kb [[.slice none 0 0], [.string (S [])], [.int .i64 0]] rfl rfl) ?_
   refine Km rfl ?_
   refine Nu rfl rfl (Sa rfl rfl rfl .tc) ?_
   refine Ka rfl ?_
   refine Nu rfl rfl (Sa rfl rfl rfl .tc) ?_
   refine Ka rfl (Nt (Ce (Xb ?_)))
   exact Rn rfl (.agg rfl .tc u28 rfl (by kernel_rfl) (.tmp rfl (.agg rfl .tc u33 rfl (by kernel_rfl) (.tmp rfl .nil)))) fun w' hS => ⟨⟨none, 0, []⟩, by rw [hr]; rfl, by rw [hr]; rfl, by rw [hr]; exact new_nilE hS⟩
  ·(try simp only [sB] at hc34)
   have hb0 : (belowS t k.1.2).2.2 = 0 := by simpa using hc34
   have hr : encS k m t = ((mskN k ([1], m) (val (belowS t k.1.2).1), (belowS t k.1.2).1, (belowS t k.1.2).2.1), 0) := by rw [encS, if_neg (fun h => h h0), if_neg (fun h => h hb0), c1E]
   have hbk := below_okN hb0 hgt (chkY_ok hY).1.2.1
   refine Ck (Xa (Cq ?_))
   refine WC.free (K := [⟨some b12, [g29.val (belowS t k.1.2).2.1.vals.length, .string (S (belowS t k.1.2).2.1.seed), .int .i64 (belowS t k.1.2).2.1.at_], 33⟩, ⟨some b3, [.string (S k.1.1), .string (S k.1.2), .string (S k.2.1), .string (S k.2.2)], 26⟩]) (fs0 := []) [0, 1, 2, 3, 4, 7, 5, 6, 8] [9, 10] [0, 0, 0, 0, 1, 0, 0, 1, 0, 2, 2] (by kernel_rfl) (by kernel_rfl) rfl ?_
   refine Kj rfl (lda rfl rfl .tc u26 rfl ?_) ?_
   ·kernel_rfl
   refine Kj rfl (Rm rfl rfl) ?_
   refine Kj rfl (Kb [[.string (S [])], [.string (S [])]] rfl rfl) ?_
   refine Kj rfl (Rm rfl rfl) ?_
   refine Jv rfl rfl rfl rfl rfl (fun ext => Oc rfl rfl (Kv fun w hS => (by have := elmask_ok (w := w) (k := k) (c := (canon 1, m)) (r := (belowS t k.1.2).1) hm8 hY (el_one hY) hem hbk.1; rw [c1E] at this; exact this))) ?_
   refine WJ.st rfl rfl rfl rfl (staJ rfl rfl rfl ?_ ?_ ?_) ?_
   ·kernel_rfl
   ·simp [Value.oneCell']
   ·rfl
   refine Kj rfl (Rm rfl rfl) ?_
   refine Kj rfl (lda rfl rfl .tc u33 rfl ?_) ?_
   ·kernel_rfl
   refine Kj rfl (Ra rfl rfl) ?_
   refine WJ.nil ?_
   refine Nu rfl rfl (Sa rfl rfl rfl .tc) ?_
   refine Ka rfl (Nt (Ce ?_))
   exact Rn rfl (.agg rfl .tc u28 rfl (by kernel_rfl) (.tmp rfl (.agg rfl .tc u33 rfl (by kernel_rfl) (.tmp rfl .nil)))) fun w' hS => ⟨g29, by rw [hr]; rfl, by rw [hr]; exact hg29, by rw [hr]; exact st_sub _ hS⟩
theorem elref_c {k : PK} {c : Cp} {t : Tp} {a : Option Addr} {cap : Nat} {w : World} {ok : Nat → Prop} (hF1 : (Fact.sl a (strs t.vals)).holds ok w) (hl : t.vals.length ≤ 100000) (hsd : t.seed.length ≤ 400000) (hm8 : k.1.1.length ≤ 8) (hT : Tab w) :
  Calls Tryz.prog 29 #[pkV k, cpV c, t.v (.slice a t.vals.length cap)] w fun e w' => ∃ g : Rs, e = .returned (.tuple #[cpV (refS k c t).1.1, (refS k c t).1.2.v (g.val (refS k c t).1.2.vals.length), .int .i64 (refS k c t).2]) ∧ g.cap = (refS k c t).1.2.vals.length + g.sp.length ∧ St (fun _ => True) w [g.ent (strs (refS k c t).1.2.vals) 22] [] w' := by
 refine En [Fact.sl a (strs t.vals)] [(0, pkV k), (1, cpV c), (2, t.v (.slice a t.vals.length cap))] Tryz.func29 rfl Tryz.ntmps29 rfl (Ac rfl (Ac rfl (Ac rfl (An _)))) (Fc (fact_any hF1) Fn) ?_
 refine Cs ?_
 refine Kh rfl (Oy rfl rfl) ?_
 intro b3
 refine Kh rfl (Oy rfl rfl) ?_
 intro b4
 refine Kh rfl (Oy rfl rfl) ?_
 intro b5
 refine Kh rfl (Oz [.string (S []), .string (S [])] rfl) ?_
 intro b6
 refine Kh rfl (Oz [.slice none 0 0, .string (S []), .int .i64 0] rfl) ?_
 intro b7
 refine Ka rfl (Nt (Cq (Cs ?_)))
 refine Kq rfl (lda rfl rfl .tc u26 rfl ?_) ?_
 ·kernel_rfl
 refine Kq rfl (rd_mkf rfl rfl rfl) ?_
 refine Kq rfl (Fa (q := 0) rfl rfl u28 rfl rfl) ?_
 refine Kq rfl (Ld rfl rfl .tc u22) ?_
 refine Kq rfl (Fa (q := 1) rfl rfl u28 rfl rfl) ?_
 refine Kq rfl (Ld rfl rfl .tc u22) ?_
 refine Kh rfl (og_bs1 rfl rfl u31 (by kernel_rfl : _ = some (some (.string (S [])), 1, 16)) rfl (by simp only [List.map]; rfl) rfl rfl ?_ (by decide)) ?_
 ·simp [Value.cells]
 intro b19
 refine Ku rfl (Oc rfl rfl (Kv fun w hS => elready_c (k := k) (fk := 76) (okb := decide (goodT t)) (l := [c.1, c.2]) (by (exact hS.os)) (by (simp; done)) (by exact hm8) (by kernel_rfl) (by exact fun w' hb => elref1_c (fact_keep hS.os hb) (fact_keep hS.sl hb) hl))) ?_
 refine Ka rfl (Nt (Cs (Km rfl (Kq rfl (rd_neq rfl rfl rfl) (Nt ?_)))))
 refine Cd rfl (fun hc22 => ?_) (fun hc22 => ?_)
 ·(try simp only [sB] at hc22)
  have hr : refS k c t = ((([], []), zeroT), rdyY k (decide (goodT t)) [c.1, c.2]) := by rw [refS, if_pos hc22]
  refine Cs ?_
  refine Kq rfl (Kb [[.string (S [])], [.string (S [])]] rfl rfl) ?_
  refine Kq rfl (Kb [[.slice none 0 0], [.string (S [])], [.int .i64 0]] rfl rfl) ?_
  refine Km rfl ?_
  refine Nu rfl rfl (Sa rfl rfl rfl .tc) ?_
  refine Nu rfl rfl (Sa rfl rfl rfl .tc) ?_
  refine Ka rfl (Nt (Ce (Xb ?_)))
  exact Rn rfl (.agg rfl .tc u28 rfl (by kernel_rfl) (.agg rfl .tc u33 rfl (by kernel_rfl) (.tmp rfl .nil))) fun w' hS => ⟨⟨none, 0, []⟩, by rw [hr]; rfl, by rw [hr]; rfl, by rw [hr]; exact new_nilE hS⟩
 ·(try simp only [sB] at hc22)
  have h0 : rdyY k (decide (goodT t)) [c.1, c.2] = 0 := by simpa using hc22
  obtain ⟨hY, hgt, hel⟩ := rdyY_ok h0
  have hgt : goodT t := of_decide_eq_true hgt
  have he1 : elG k.1 c.1 := hel _ (by simp)
  have he2 : elG k.1 c.2 := hel _ (by simp)
  refine Ck (Xa (Cs ?_))
  refine Kq rfl (lda rfl rfl .tc u33 rfl ?_) ?_
  ·kernel_rfl
  refine Kq rfl (Fa (q := 0) rfl rfl u26 rfl rfl) ?_
  refine Kq rfl (Fa (q := 1) rfl rfl u24 rfl rfl) ?_
  refine Kq rfl (Ld rfl rfl .tc u22) ?_
  refine Kh rfl (Oc rfl rfl (keep_o1 fun w hS => below_c (t := t) (n := k.1.2) (by (exact hS.sl)) (by assumption) (by assumption) (by (exact tab_st hT hS)))) ?_
  intro g31
  refine WL.pu ?_
  intro hg31; (try dsimp only at hg31 ⊢)
  refine Km rfl (Kq rfl (Re rfl rfl rfl) (Kq rfl (Re rfl rfl rfl) (Kq rfl (Re rfl rfl rfl) ?_)))
  refine Kh rfl (Oz [.slice none 0 0, .string (S []), .int .i64 0] rfl) ?_
  intro b11
  refine Ka rfl ?_
  refine Nu rfl rfl (Sa rfl rfl rfl .tc) ?_
  refine Ka rfl (Nt (Cq (Cs (Km rfl (Kq rfl (rd_neq rfl rfl rfl) (Nt ?_))))))
  refine Cd rfl (fun hc36 => ?_) (fun hc36 => ?_)
  ·(try simp only [sB] at hc36)
   have hr : refS k c t = ((([], []), zeroT), (belowS t k.1.2).2.2) := by rw [refS, if_neg (fun h => h h0), if_pos hc36]
   refine Cs ?_
   refine Kq rfl (Kb [[.string (S [])], [.string (S [])]] rfl rfl) ?_
   refine Kq rfl (Kb [[.slice none 0 0], [.string (S [])], [.int .i64 0]] rfl rfl) ?_
   refine Km rfl ?_
   refine Nu rfl rfl (Sa rfl rfl rfl .tc) ?_
   refine Nu rfl rfl (Sa rfl rfl rfl .tc) ?_
   refine Ka rfl (Nt (Ce (Xb ?_)))
   exact Rn rfl (.agg rfl .tc u28 rfl (by kernel_rfl) (.agg rfl .tc u33 rfl (by kernel_rfl) (.tmp rfl .nil))) fun w' hS => ⟨⟨none, 0, []⟩, by rw [hr]; rfl, by rw [hr]; rfl, by rw [hr]; exact new_nilE hS⟩
  ·(try simp only [sB] at hc36)
   have hb0 : (belowS t k.1.2).2.2 = 0 := by simpa using hc36
   have hr : refS k c t = ((mskN k c (val (belowS t k.1.2).1), (belowS t k.1.2).2.1), 0) := by rw [refS, if_neg (fun h => h h0), if_neg (fun h => h hb0)]
   have hbk := below_okN hb0 hgt (chkY_ok hY).1.2.1
   refine Ck (Xa (Cq ?_))
   refine WC.free (K := [⟨some b11, [g31.val (belowS t k.1.2).2.1.vals.length, .string (S (belowS t k.1.2).2.1.seed), .int .i64 (belowS t k.1.2).2.1.at_], 33⟩, ⟨some b4, [.string (S c.1), .string (S c.2)], 28⟩, ⟨some b3, [.string (S k.1.1), .string (S k.1.2), .string (S k.2.1), .string (S k.2.2)], 26⟩]) (fs0 := []) [0, 1, 2, 3, 5, 4] [6, 7] [0, 0, 0, 1, 0, 1, 2, 2] (by kernel_rfl) (by kernel_rfl) rfl ?_
   refine Kj rfl (lda rfl rfl .tc u26 rfl ?_) ?_
   ·kernel_rfl
   refine Kj rfl (lda rfl rfl .tc u28 rfl ?_) ?_
   ·kernel_rfl
   refine Kj rfl (Rm rfl rfl) ?_
   refine Jv rfl rfl rfl rfl rfl (fun ext => Oc rfl rfl (Kv fun w hS => elmask_ok (w := w) (k := k) (c := c) (r := (belowS t k.1.2).1) hm8 hY he1 he2 hbk.1)) ?_
   refine WJ.st rfl rfl rfl rfl (staJ rfl rfl rfl ?_ ?_ ?_) ?_
   ·kernel_rfl
   ·simp [Value.oneCell']
   ·rfl
   refine Kj rfl (lda rfl rfl .tc u33 rfl ?_) ?_
   ·kernel_rfl
   refine WJ.nil ?_
   refine Nu rfl rfl (Sa rfl rfl rfl .tc) ?_
   refine Ka rfl (Nt (Ce ?_))
   exact Rn rfl (.agg rfl .tc u28 rfl (by kernel_rfl) (.agg rfl .tc u33 rfl (by kernel_rfl) (.tmp rfl .nil))) fun w' hS => ⟨g31, by rw [hr]; rfl, by rw [hr]; exact hg31, by rw [hr]; exact st_sub _ hS⟩
theorem und_string : Tryz.prog.underlying 22 = some .string := by kernel_rfl
theorem part_nat (cs : Array Value) (k : Nat) (v : Value) (w : World) (h : cs[k]? = some v) : (part 22 cs k).run Tryz.prog w = .ok v w := run_part_plain w (by kernel_rfl) h
theorem pn1 (u : Value) (w : World) : (part 22 #[u] 0).run Tryz.prog w = .ok u w := part_nat _ _ _ w rfl
theorem pn20 (u v : Value) (w : World) : (part 22 #[u, v] 0).run Tryz.prog w = .ok u w := part_nat _ _ _ w rfl
theorem pn21 (u v : Value) (w : World) : (part 22 #[u, v] 1).run Tryz.prog w = .ok v w := part_nat _ _ _ w rfl
theorem pn40 (u v x y : Value) (w : World) : (part 22 #[u, v, x, y] 0).run Tryz.prog w = .ok u w := part_nat _ _ _ w rfl
theorem eq_nat (d : Nat) (a b : Bs) (w : World) : (Op.equalIn (d + 1) 22 (.string (S a)) (.string (S b))).run Tryz.prog w = .ok (decide (a = b)) w := by
 rw [run_equalIn_string w d _ _ _ und_string, str_eq]
theorem eql_api_Group (a b c d : Bs) (w : World) : (binOp .eql 24 (.agg #[.string (S a), .string (S b)]) (.agg #[.string (S c), .string (S d)])).run Tryz.prog w = .ok (.bool (decide (a = c ∧ b = d))) w := by
 rw [run_eql_struct, run_equalIn_agg w _ _ _ _ (by kernel_rfl) (by kernel_rfl)]
 have hf : (Tryz.prog.fieldsOf 24).toList = [⟨"Modulus", 22, 0, false, "", "", 0⟩, ⟨"Order", 22, 1, false, "", "", 16⟩] := by kernel_rfl
 rw [hf]
 simp only [Op.eqFields, Sem.run_bind, pn20, pn21, eq_nat, Result.andThen_ok, Sem.run_ite, Sem.run_pure]
 by_cases h1 : a = c <;> by_cases h2 : b = d <;> simp [h1, h2]
theorem eql_api_Variable (a b : Bs) (w : World) : (binOp .eql 117 (.agg #[.string (S a)]) (.agg #[.string (S b)])).run Tryz.prog w = .ok (.bool (decide (a = b))) w := by
 rw [run_eql_struct, run_equalIn_agg w _ _ _ _ (by kernel_rfl) (by kernel_rfl)]
 have hf : (Tryz.prog.fieldsOf 117).toList = [⟨"Bound", 22, 0, false, "", "", 0⟩] := by kernel_rfl
 rw [hf]
 simp only [Op.eqFields, Sem.run_bind, pn1, eq_nat, Result.andThen_ok, Sem.run_ite, Sem.run_pure]
 by_cases h1 : a = b <;> simp [h1]
theorem eq_int (d : Nat) (p q : Bool) (a b : Bs) (w : World) : (Op.equalIn (d + 2) 64 (.agg #[.bool p, .string (S a)]) (.agg #[.bool q, .string (S b)])).run Tryz.prog w = .ok (decide (p = q ∧ a = b)) w := by
 rw [run_equalIn_agg w _ _ _ _ (by kernel_rfl) (by kernel_rfl)]
 have h1 : Tryz.prog.underlying 4 = some .bool := by kernel_rfl
 have hf : (Tryz.prog.fieldsOf 64).toList = [⟨"Neg", 4, 0, false, "", "", 0⟩, ⟨"Abs", 22, 1, false, "", "", 8⟩] := by kernel_rfl
 have e1 : ∀ (u v : Value) (w : World), (part 4 #[u, v] 0).run Tryz.prog w = .ok u w := fun u v w => run_part_plain w (by kernel_rfl) rfl
 have hb : ∀ (w : World), (Op.equalIn (d + 1) 4 (.bool p) (.bool q)).run Tryz.prog w = .ok (p == q) w := fun w => run_equalIn_bool' w d _ p q h1
 rw [hf]
 simp only [Op.eqFields, Sem.run_bind, e1, pn21, hb, eq_nat, Result.andThen_ok, Sem.run_ite, Sem.run_pure]
 cases p <;> cases q <;> by_cases h : a = b <;> simp [h]
theorem eql_api_Term (a : Bs) (m : Int) (p : Bool) (c : Bs) (a' : Bs) (m' : Int) (p' : Bool) (c' : Bs) (w : World) : (binOp .eql 119 (.agg #[.string (S a), .int .i64 m, .bool p, .string (S c)]) (.agg #[.string (S a'), .int .i64 m', .bool p', .string (S c')])).run Tryz.prog w = .ok (.bool (decide (a = a' ∧ m = m' ∧ p = p' ∧ c = c'))) w := by
 rw [run_eql_struct, run_equalIn_agg w _ _ _ _ (by kernel_rfl) (by kernel_rfl)]
 have hf : (Tryz.prog.fieldsOf 119).toList = [⟨"Base", 22, 0, false, "", "", 0⟩, ⟨"Var", 3, 1, false, "", "", 16⟩, ⟨"Coef", 64, 2, false, "", "", 24⟩] := by kernel_rfl
 have hi : Tryz.prog.underlying 3 = some (.int .i64) := by kernel_rfl
 have e1 : ∀ (u v x y : Value) (w : World), (part 3 #[u, v, x, y] 1).run Tryz.prog w = .ok v w := fun u v x y w => run_part_plain w (by kernel_rfl) rfl
 have hz : ∃ d, Tryz.prog.underlying 64 = some d ∧ isAggD d = true := ⟨_, u64, rfl⟩
 have hs : (Tryz.prog.info? 64).map (·.size) = some 2 := by kernel_rfl
 have e2 : ∀ (u v x y : Value) (w : World), (part 64 #[u, v, x, y] 2).run Tryz.prog w = .ok (.agg #[x, y]) w := fun u v x y w => by
  obtain ⟨i, hi1, hi2⟩ := Option.map_eq_some_iff.1 hs
  simp [part, isAgg, run_underlying u64, run_sizeOf w hi1, hi2]
 have hm : ∀ (w : World), (Op.equalIn 9999 3 (.int .i64 m) (.int .i64 m')).run Tryz.prog w = .ok (m == m') w := fun w => run_equalIn_int w 9998 _ .i64 .i64 m m' hi
 rw [hf]
 simp only [Op.eqFields, Sem.run_bind, e1, e2, hm, pn40, eq_int, eq_nat, Result.andThen_ok, Sem.run_ite, Sem.run_pure]
 by_cases h1 : a = a' <;> by_cases h2 : m = m' <;> by_cases h3 : p = p' ∧ c = c' <;> simp [h1, h2, h3]
theorem eql_api_Cipher (a b c d : Bs) (w : World) : (binOp .eql 28 (.agg #[.string (S a), .string (S b)]) (.agg #[.string (S c), .string (S d)])).run Tryz.prog w = .ok (.bool (decide (a = c ∧ b = d))) w := by
 rw [run_eql_struct, run_equalIn_agg w _ _ _ _ (by kernel_rfl) (by kernel_rfl)]
 have hf : (Tryz.prog.fieldsOf 28).toList = [⟨"A", 22, 0, false, "", "", 0⟩, ⟨"B", 22, 1, false, "", "", 16⟩] := by kernel_rfl
 rw [hf]
 simp only [Op.eqFields, Sem.run_bind, pn20, pn21, eq_nat, Result.andThen_ok, Sem.run_ite, Sem.run_pure]
 by_cases h1 : a = c <;> by_cases h2 : b = d <;> simp [h1, h2]
end Go.Proofs.YtmkghgoibnncbaaGreatDoor
