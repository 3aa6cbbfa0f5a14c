/-
  The program's attempt at a coin.
-/
import Derived.Test.YtikcjkifhliidaaDoorCoi3
import Derived.Test.YtikcjkifhliidaaDoorApps
namespace Go.Proofs.YtikcjkifhliidaaDoor
set_option linter.unusedSimpArgs false
set_option linter.unusedVariables false
set_option maxRecDepth 20000
set_option maxHeartbeats 600000
open Go.RowKit

def afterA (s x : Bs) : Bs := s ++ x
def stopA (Z : Nat) (s x : Bs) : Option Code := if Z ≤ s.length + x.length then some (.exit 0) else none
theorem itB_att (sd : Bs) (at_ a Z : Nat) (hZ : 1 ≤ Z) : ∀ (d b : Nat), b + d = (Z + 31) / 32 → 1 ≤ d → itB sd at_ a afterA (stopA Z) d b (blks sd at_ a b) = (blks sd at_ a ((Z + 31) / 32), some (.exit 0))
  | 0, b, h, h1 => by omega
  | d + 1, b, h, h1 => by
    have hl := blks_len sd at_ a b
    have hm : (blkB sd at_ a b).length = 32 := mac_len _ _
    rw [itB]
    by_cases hd : d = 0
    · subst hd
      have hs : stopA Z (blks sd at_ a b) (blkB sd at_ a b) = some (.exit 0) := by rw [stopA, if_pos (by omega)]
      rw [hs]; simp only [Option.isSome_some, if_true]; rw [← h]; rfl
    · have hs : stopA Z (blks sd at_ a b) (blkB sd at_ a b) = none := by rw [stopA, if_neg (by omega)]
      rw [hs, if_neg (by simp)]
      exact itB_att sd at_ a Z hZ d (b + 1) (by omega) (by omega)
abbrev ACO (x : Value) (sd : Bs) (at_ a Z : Nat) (g : Nat × Nat) (b8 b7 b3 : Nat) (s : Bs) (q : Option Nat × List Value) : List Ent :=
  [⟨q.1, s.map B ++ q.2, 5⟩, ⟨some g.2, [.int .i64 (a : Int)], 3⟩, ⟨some g.1, [x, .string (S sd), .int .i64 (at_ : Int)], 24⟩, ⟨some b8, [.slice (q.1.map fun b => ⟨b, 0, none⟩) s.length (s.length + q.2.length)], 73⟩, ⟨some b7, [.int .i64 (Z : Int)], 3⟩, ⟨some b3, [x, .string (S sd), .int .i64 (at_ : Int)], 24⟩]
theorem mask8 (c : UInt8) (d : Nat) (hd : d ≤ 7) : bits .and .u8 (c.toNat : Int) (Int.fdiv 255 (2 ^ (min ((d : Nat) : Int).toNat IntKind.u8.bits))) = ((UInt8.ofNat (c.toNat % 2 ^ (8 - d))).toNat : Int) := by
  have h1 := c.toNat_lt
  have e : Int.fdiv 255 (2 ^ (min ((d : Nat) : Int).toNat IntKind.u8.bits)) = ((2 ^ (8 - d) - 1 : Nat) : Int) := by
    have key : ∀ q, q ≤ 7 → Int.fdiv 255 (2 ^ (min ((q : Nat) : Int).toNat IntKind.u8.bits)) = ((2 ^ (8 - q) - 1 : Nat) : Int) := by decide
    exact key d hd
  have h2 : 2 ^ (8 - d) ≤ 2 ^ 8 := Nat.pow_le_pow_right (by decide) (by omega)
  have h3 : c.toNat % 2 ^ (8 - d) < 256 := Nat.lt_of_le_of_lt (Nat.mod_le _ _) h1
  rw [e, u8_and_nat _ _ (by omega) (by omega), Nat.and_two_pow_sub_one_eq_mod, UInt8.toNat_ofNat', Nat.mod_eq_of_lt (a := c.toNat % 2 ^ (8 - d)) (b := 2 ^ 8) (by omega)]
theorem attempt_c {vx : Value} {sd : Bs} {at_ aa nb : Nat} {w : World} (hsd : sd.length ≤ 400000) (hat : at_ ≤ 4294967296) (ha : aa ≤ 1000) (hnb : 1 ≤ nb) (hnb2 : nb ≤ 100000) (hT : Tab w) :
    Calls Tryd.prog 51 #[.agg #[vx, .string (S sd), .int .i64 (at_ : Int)], .int .i64 (aa : Int), .int .i64 (nb : Int)] w fun e w' => e = .returned (.string (S (attS sd at_ aa nb))) ∧ Below w.heap.size w w' := by
  obtain ⟨Z, hZ⟩ : ∃ Z : Nat, Z = sizeB nb := ⟨_, rfl⟩
  have hZ1 : Z = (nb + 7) / 8 := hZ
  have hZ0 : 1 ≤ Z := by omega
  have hZl : Z ≤ 20000 := by omega
  have hit := itB_att sd at_ aa Z hZ0 ((Z + 31) / 32) 0 (by omega) (by omega)
  change itB sd at_ aa afterA (stopA Z) ((Z + 31) / 32) 0 [] = _ at hit
  refine enterM (S := St (fun _ => True) w [] ([])) (L := [(0, .agg #[vx, .string (S sd), .int .i64 (at_ : Int)]), (1, .int .i64 (aa : Int)), (2, .int .i64 (nb : Int))]) Tryd.func51 rfl Tryd.ntmps51 rfl (args_cons rfl (args_cons rfl (args_cons rfl (args_nil _)))) (St.start (fun _ _ => trivial) facts_nil) ?_
  refine WC.sr ?_
  refine WL.g rfl rfl rfl (og_box rfl rfl (by (exact cells_agg _))) ?_
  intro b3
  refine WL.r rfl rfl rfl (rd_assign rfl rfl) ?_
  refine WL.nt ?_
  refine WC.sr ?_
  refine WL.r rfl rfl rfl (rd_move rfl rfl) ?_
  (refine WL.r rfl rfl rfl (rd_add64nl rfl rfl rfl ?_) ?_; (focus (omega)))
  (refine WL.r rfl rfl rfl (rd_quo64nl rfl rfl rfl ?_) ?_; (focus (omega)))
  refine WL.set 12 rfl (v' := .int .i64 ((Z : Nat) : Int)) (congrArg (Value.int .i64) (by omega)) ?_
  refine WL.g rfl rfl rfl (og_alloc rfl (v := (.int .i64 0)) (cs := [.int .i64 0]) (by kernel_rfl) rfl) ?_
  intro b7
  refine WL.g0 rfl rfl (st rfl rfl rfl .tc (by kernel_rfl) rfl ?_ (by (simp only [List.set_cons_zero, List.set_cons_succ]; rfl))) ?_
  · decide
  intro _
  refine WL.nt ?_
  refine WC.sr ?_
  refine WL.g rfl rfl rfl (og_alloc rfl (v := (.slice none 0 0)) (cs := [.slice none 0 0]) (by kernel_rfl) rfl) ?_
  intro b8
  refine WL.nt ?_
  refine WC.seq ?_
  refine WC.sr ?_
  refine WL.r rfl rfl rfl (lda rfl rfl .tc Tryd.underlying24 rfl ?_) ?_
  · kernel_rfl
  refine WL.r rfl rfl rfl (rd_move rfl rfl) ?_
  refine WL.g rfl rfl rfl (og_call rfl rfl (by kernel_rfl) (fun w hS => blocks_c (t := ⟨[], sd, (at_ : Int)⟩) hS)) ?_
  intro g15
  refine WL.nt ?_
  refine WC.block ?_
  refine WC.range (CO := ACO vx sd at_ aa Z g15 b8 b7 b3) (pg := fun s q => s.length ≤ 30000 ∧ (q.1 = none ∨ 0 < s.length + q.2.length)) (inv := fun s y => y.length = 32) (after := afterA) (stop := stopA Z) (enc := fun s : Bs => #[Value.string (S s)]) ([]) ((none, [])) ((itB sd at_ aa afterA (stopA Z) ((Z + 31) / 32) 0 []).1) ((itB sd at_ aa afterA (stopA Z) ((Z + 31) / 32) 0 []).2) (⟨Nat.zero_le _, .inl rfl⟩) rfl (by kernel_rfl) (fun _ => rfl) (by exact fun w h => h.nil _) ?_ (fun l r D w hl hY hS => blk_i (K := (Z + 31) / 32) (sd := sd) (at_ := at_) (a := aa) (x := vx) hY hS ⟨Nat.zero_le _, .inl rfl⟩ hsd hat ha (by omega) (fun s y h => h) (by rw [hit]; rfl) hT) ?_ ?_
  · intro l r D f a s g x ext wr hl hi hpg hF hS
    rw [fold1]
    refine round_of (Fr.tm (hF.put (d := 16) rfl _)) hS ?_
    refine WR.region (by kernel_rfl) ?_
    refine WL.r rfl rfl rfl (rd_assign rfl rfl) ?_
    refine WL.nil ?_
    refine WX.begin hl ?_
    refine WC.block ?_
    refine WR.sr (by kernel_rfl) ?_
    refine WL.r rfl rfl rfl (ld rfl rfl .tc Tryd.underlying73 rfl (by rfl)) ?_
    refine WL.r rfl rfl rfl (rd_move rfl rfl) ?_
    refine WL.g rfl rfl rfl (apps rfl Tryd.underlying73 Tryd.underlying9 (by kernel_rfl) .tc rfl rfl ?_) ?_
    · exact ⟨by simp, rfl, by have hi' : x.length = 32 := hi; omega, hpg.2⟩
    rintro ⟨o19, c19, s19⟩
    refine WL.pu ?_
    intro hg19; (try dsimp only at hg19 ⊢)
    refine WL.g0 rfl rfl (st rfl rfl rfl .tc (by kernel_rfl) rfl ?_ (by (simp only [List.set_cons_zero, List.set_cons_succ]; rfl))) ?_
    · (simp; done)
    intro _
    refine WL.nt ?_
    refine WR.sr (by kernel_rfl) ?_
    refine WL.r rfl rfl rfl (ld rfl rfl .tc Tryd.underlying73 rfl (by rfl)) ?_
    refine WL.r rfl rfl rfl (rd_len rfl rfl Tryd.underlying73) ?_
    refine WL.r rfl rfl rfl (ld rfl rfl .tc Tryd.underlying3 rfl (by rfl)) ?_
    refine WL.r rfl rfl rfl (rd_geq rfl rfl rfl) ?_
    refine WL.nt ?_
    refine WC.cond rfl (fun hc23 => ?_) (fun hc23 => ?_)
    · (try simp only [sB] at hc23)
      refine WC.exit ?_
      refine WX.block_other rfl ?_
      exact WX.rexit hl fun w' hS => by
        have hi' : x.length = 32 := hi
        have h2 : stopA Z s x = some (.exit 0) := by rw [stopA, if_pos (by omega)]
        rw [h2]
        refine ⟨rfl, (o19, s19), fun h => (by cases h), ?_⟩
        simp only [ACO, afterA, List.map_append, List.length_append]
        rw [hg19.1] at hS
        exact hS
    · (try simp only [sB] at hc23)
      refine WC.skip ?_
      refine WX.block_normal ?_
      exact WX.rnext hl fun w' hS => by
        have hi' : x.length = 32 := hi
        have h2 : stopA Z s x = none := by rw [stopA, if_neg (by omega)]
        rw [h2]
        refine ⟨rfl, (o19, s19), fun _ => ⟨by simp only [afterA, List.length_append]; omega, by simp only [afterA, List.length_append]; rw [← hg19.1]; exact hg19.2⟩, ?_⟩
        simp only [ACO, afterA, List.map_append, List.length_append]
        rw [hg19.1] at hS
        exact hS
  · intro D1 g1 hD1 hg1 hcf
    exfalso; rw [hit] at hcf; cases hcf -- done
  · intro D1 g1 c hD1 hcf
    obtain rfl : c = .exit 0 := by (rw [hit] at hcf; cases hcf; rfl)
    refine WC.exit ?_
    refine WX.block_exit ?_
    rw [hit]; dsimp only [ACO]
    have hbl := blks_len sd at_ aa ((Z + 31) / 32)
    have hby : bytesB sd at_ aa nb = (blks sd at_ aa ((Z + 31) / 32)).take Z := by rw [bytesB, ← hZ]
    generalize blks sd at_ aa ((Z + 31) / 32) = X at *
    obtain ⟨c, X', rfl⟩ : ∃ c X', X = c :: X' := by cases X with
      | nil => simp at hbl; omega
      | cons c X' => exact ⟨c, X', rfl⟩
    obtain ⟨q1, q2⟩ := g1
    dsimp only
    have hcl : X'.length + 1 = 32 * ((Z + 31) / 32) := hbl
    refine WX.then_normal ?_
    refine WC.sr ?_
    refine WL.know (p := ∃ bb, q1 = some bb) (fun w h => by obtain ⟨b, hb, _⟩ := h.ocx (ob := q1) (cs := List.map B (c :: X') ++ q2) .tc (by simp); exact ⟨b, hb⟩) ?_
    rintro ⟨bb, rfl⟩
    dsimp only [Option.map_some]
    refine WL.r rfl rfl rfl (ld rfl rfl .tc Tryd.underlying73 rfl (by rfl)) ?_
    refine WL.r rfl rfl rfl (ld rfl rfl .tc Tryd.underlying3 rfl (by rfl)) ?_
    refine WL.r rfl rfl rfl (rd_slt rfl rfl rfl Tryd.underlying73 (by kernel_rfl : _ = some 1) ?_ (by (try simp only [sN, Int.reduceToNat, Nat.reduceAdd, Nat.reduceMul, Nat.reduceSub]); rfl)) ?_
    · omega
    refine WL.g0 rfl rfl (st rfl rfl rfl .tc (by kernel_rfl) rfl ?_ (by (simp only [List.set_cons_zero, List.set_cons_succ]; rfl))) ?_
    · (simp; done)
    intro _
    refine WL.nt ?_
    refine WC.seq ?_
    refine WC.sr ?_
    refine WL.r rfl rfl rfl (ld rfl rfl .tc Tryd.underlying3 rfl (by rfl)) ?_
    refine WL.r rfl rfl rfl (rd_gtr rfl rfl rfl) ?_
    refine WL.nt ?_
    refine WC.cond rfl (fun hc28 => ?_) (fun hc28 => by exfalso; (try simp only [sB] at hc28); omega)
    (try simp only [sB] at hc28)
    refine WC.free0 [0, 1, 2, 3, 4, 5, 6, 7, 8, 9] [10] [0, 0, 0, 0, 0, 0, 0, 0, 0, 0, 2] (by kernel_rfl) (by kernel_rfl) rfl ?_
    refine WJ.r rfl rfl rfl rfl rfl (ld rfl rfl .tc Tryd.underlying73 rfl (by rfl)) ?_
    (refine WJ.r rfl rfl rfl rfl rfl (rd_ia rfl rfl rfl Tryd.underlying73 (by kernel_rfl : _ = some 1) ?_ (by (try simp only [sN, Int.reduceToNat, Nat.reduceAdd, Nat.reduceMul, Nat.reduceSub]); rfl)) ?_; (focus (omega)))
    (refine WJ.r rfl rfl rfl rfl rfl (ld rfl rfl .tc Tryd.underlying5 rfl (by rfl)) ?_)
    refine WJ.r rfl rfl rfl rfl rfl (ld rfl rfl .tc Tryd.underlying3 rfl (by rfl)) ?_
    (refine WJ.r rfl rfl rfl rfl rfl (rd_mul64ln rfl rfl rfl ?_) ?_; (focus (omega)))
    refine WJ.r rfl rfl rfl rfl rfl (rd_move rfl rfl) ?_
    (refine WJ.r rfl rfl rfl rfl rfl (rd_sub64n rfl rfl rfl ?_) ?_; (focus (omega)))
    refine WJ.r rfl rfl rfl rfl rfl (rd_shr rfl rfl rfl ?_) ?_
    · omega
    refine WJ.r rfl rfl rfl rfl rfl (rd_and rfl rfl rfl) ?_
    refine WJ.set 37 rfl (v' := B (UInt8.ofNat (c.toNat % 2 ^ (8 - (8 * Z - nb))))) (by exact congrArg (Value.int .u8) (mask8 c (8 * Z - nb) (by omega))) ?_
    (refine WJ.r rfl rfl rfl rfl rfl (rd_ia rfl rfl rfl Tryd.underlying73 (by kernel_rfl : _ = some 1) ?_ (by (try simp only [sN, Int.reduceToNat, Nat.reduceAdd, Nat.reduceMul, Nat.reduceSub]); rfl)) ?_; (focus (omega)))
    refine WJ.nil ?_
    refine WL.g0 rfl rfl (st rfl rfl rfl .tc (by kernel_rfl) rfl ?_ (by rfl)) ?_
    · (simp; done)
    intro _
    refine WL.nil ?_
    obtain ⟨y, hy⟩ : ∃ y : Bs, y = (UInt8.ofNat (c.toNat % 2 ^ (8 - (8 * Z - nb))) :: X').take Z := ⟨_, rfl⟩
    have hyl : y.length = Z := by rw [hy, List.length_take, List.length_cons]; omega
    have hya : canon (val y) = attS sd at_ aa nb := by
      have := att_end (sd := sd) (at_ := at_) (a := aa) (nb := nb) (X := c :: X') (x := c.toNat % 2 ^ (8 - (8 * Z - nb))) hZ hZ0 hby (by simp only [List.length_cons]; omega) rfl (by omega) (by omega)
      rw [← this, hy]; obtain ⟨q, rfl⟩ : ∃ q, Z = q + 1 := ⟨Z - 1, by omega⟩; rfl
    refine WX.then_normal ?_
    refine WC.seq ?_
    refine WC.block ?_
    refine WC.loopO (σ := Bs × (Option Addr) × Nat) [(6, _), (8, _)] (fun g => []) (fun g => trimB g.1 = trimB y ∧ g.1.length ≤ g.2.2 ∧ g.1.length ≤ Z) (fun g => g.1.length) (fun g => [⟨some b8, [.slice g.2.1 g.1.length g.2.2], 73⟩]) (fun g => [Fact.sl g.2.1 (g.1.map B), Fact.dfr D1]) (y, some ⟨bb, 0, none⟩, (c :: X').length + q2.length) (sub_cons rfl (sub_cons rfl (sub_nil _))) (sub_nil _) (by (try dsimp only); exact ⟨rfl, by rw [hyl]; simp only [List.length_cons]; omega, by omega⟩) (by exact fun w h => by dsimp only; rw [hyl]; exact st_sub _ (h.freeze (off := 0) (xs := y.map B) (fun i hi => by
        have hi' : i < Z := by rw [List.length_map, hyl] at hi; exact hi
        show ((B (UInt8.ofNat (c.toNat % 2 ^ (8 - (8 * Z - nb)))) :: (X'.map B ++ q2)) : List Value)[0 + i]? = _
        rw [hy, List.map_take, List.getElem?_take, if_pos hi', Nat.zero_add]
        show (((UInt8.ofNat (c.toNat % 2 ^ (8 - (8 * Z - nb))) :: X').map B ++ q2) : List Value)[i]? = _
        rw [List.getElem?_append_left (by simp; omega)]))) ?_
    rintro ⟨t, a', cp⟩ hinv1; (try dsimp only at hinv1 ⊢)
    obtain ⟨ht, htc, htb⟩ := hinv1
    refine WC.seq ?_
    refine WC.sr ?_
    refine WL.r rfl rfl rfl (ld rfl rfl .tc Tryd.underlying73 rfl (by rfl)) ?_
    refine WL.r rfl rfl rfl (rd_len rfl rfl Tryd.underlying73) ?_
    refine WL.r rfl rfl rfl (rd_gtr rfl rfl rfl) ?_
    refine WL.r rfl rfl rfl (rd_move rfl rfl) ?_
    refine WL.bool 42 rfl (fun hg42 => ?_) (fun hg42 => ?_)
    · (try simp only [sB] at hg42)
      refine WL.r rfl rfl rfl (ld rfl rfl .tc Tryd.underlying73 rfl (by rfl)) ?_
      (refine WL.r rfl rfl rfl (iaf rfl rfl rfl Tryd.underlying73 (by kernel_rfl : _ = some 1) ?_ ?_ (by (try simp only [sN, Int.reduceToNat, Nat.reduceAdd, Nat.reduceMul, Nat.reduceSub]); rfl)) ?_; (focus (omega)); (focus ((rw [List.length_map]; omega))))
      (refine WL.r rfl rfl rfl (ldm rfl rfl Tryd.underlying5 rfl ?_) ?_; (focus (omega)))
      refine WL.r rfl rfl rfl (rd_eql rfl rfl rfl) ?_
      refine WL.r rfl rfl rfl (rd_pickt rfl rfl rfl) ?_
      refine WL.nt ?_
      refine WC.cond rfl (fun hc47 => ?_) (fun hc47 => ?_)
      · (try simp only [sB] at hc47)
        have hz : (t.getD 0 default).toNat = 0 := by (simp at hc47; exact hc47)
        refine WC.skip ?_
        refine WX.then_normal ?_
        refine WC.block ?_
        refine WC.region ?_
        refine WL.r rfl rfl rfl (ld rfl rfl .tc Tryd.underlying73 rfl (by rfl)) ?_
        (refine WL.r rfl rfl rfl (rd_slf rfl rfl rfl Tryd.underlying73 (by kernel_rfl : _ = some 1) ?_ (by (try simp only [sN, Int.reduceToNat, Nat.reduceAdd, Nat.reduceMul, Nat.reduceSub]); rfl) (by (try simp only [sN, Int.reduceToNat, Nat.reduceAdd, Nat.reduceMul, Nat.reduceSub]); rfl) (by (try simp only [sN, Int.reduceToNat, Nat.reduceAdd, Nat.reduceMul, Nat.reduceSub]); rfl)) ?_; (focus (omega)))
        refine WL.set 49 rfl (v' := .slice (cut a' 1 cp 1) (t.drop 1).length (cp - 1)) (by rw [List.length_drop]) ?_
        refine WL.g0 rfl rfl (st rfl rfl rfl .tc (by kernel_rfl) rfl ?_ (by (simp only [List.set_cons_zero, List.set_cons_succ]; rfl))) ?_
        · (simp; done)
        intro _
        refine WL.nil ?_
        refine WX.block_normal ?_
        refine WX.loopO ((t.drop 1, cut a' 1 cp 1, cp - 1)) (by simp only [List.length_drop]; omega) (sub_cons rfl (sub_cons rfl (sub_nil _))) (sub_nil _) ?_ (by exact fun w h => (h.add (f := Fact.sl (cut a' 1 cp 1) ((t.drop 1).map B)) (sl_cutM 1 htc (h.fact (Fact.sl a' (t.map B)) (by simp)))).sub (List.Sublist.refl _) (fun f hf => by simp only [List.mem_cons, List.not_mem_nil, or_false] at hf ⊢; rcases hf with h | h <;> simp [h]))
        (try dsimp only)
        exact ⟨by rw [← trimB_zero (by omega) hz]; exact ht, by simp only [List.length_drop]; omega, by simp only [List.length_drop]; omega⟩
      · (try simp only [sB] at hc47)
        refine WC.exit ?_
        refine WX.then_exit ?_
        refine WX.then_exit ?_
        refine WX.block_exit ?_
        refine WX.then_normal ?_
        refine WC.sr ?_
        refine WL.r rfl rfl rfl (ld rfl rfl .tc Tryd.underlying73 rfl (by rfl)) ?_
        refine WL.r rfl rfl rfl (b2sf rfl rfl .tc Tryd.underlying73 Tryd.underlying5 Tryd.underlying33 ?_) ?_
        · rfl
        refine WL.r rfl rfl rfl (rd_assign rfl rfl) ?_
        refine WL.nt ?_
        refine WC.ret ?_
        exact WX.retM1 hD1 rfl (.tmp rfl .nil) fun w' hS => ⟨by rw [← hya, show canon (val y) = t from by rw [← trim_canon, ← ht, trimB_stop (by (exact .inr (fun h0 => hc47 (by show ((t.getD 0 default).toNat : Int) = 0; omega))))]]; rfl, hS.below⟩
    · (try simp only [sB] at hg42)
      refine WL.s rfl rfl rfl ?_
      refine WL.s rfl rfl rfl ?_
      refine WL.s rfl rfl rfl ?_
      refine WL.s rfl rfl rfl ?_
      refine WL.r rfl rfl rfl (rd_pickf rfl rfl rfl) ?_
      refine WL.nt ?_
      refine WC.cond rfl (fun h => by cases h) (fun _ => ?_)
      refine WC.exit ?_
      refine WX.then_exit ?_
      refine WX.then_exit ?_
      refine WX.block_exit ?_
      refine WX.then_normal ?_
      refine WC.sr ?_
      refine WL.r rfl rfl rfl (ld rfl rfl .tc Tryd.underlying73 rfl (by rfl)) ?_
      refine WL.r rfl rfl rfl (b2sf rfl rfl .tc Tryd.underlying73 Tryd.underlying5 Tryd.underlying33 ?_) ?_
      · rfl
      refine WL.r rfl rfl rfl (rd_assign rfl rfl) ?_
      refine WL.nt ?_
      refine WC.ret ?_
      exact WX.retM1 hD1 rfl (.tmp rfl .nil) fun w' hS => ⟨by rw [← hya, show canon (val y) = t from by rw [← trim_canon, ← ht, trimB_stop (by (exact .inl (by omega)))]]; rfl, hS.below⟩
end Go.Proofs.YtikcjkifhliidaaDoor
