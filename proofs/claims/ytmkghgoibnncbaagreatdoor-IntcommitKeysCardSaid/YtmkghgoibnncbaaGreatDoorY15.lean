/-
  Parts of the walk: Coi4 Coi5 Coi6 Key Lin1 Eqs.
-/
import Derived.Test.YtmkghgoibnncbaaGreatDoorY14
import Derived.Laws.StructEq
import Derived.ChangeKeysEq
namespace Go.Proofs.YtmkghgoibnncbaaGreatDoor
open Go.RowKit
set_option linter.unusedSimpArgs false
set_option linter.unusedVariables false
set_option maxHeartbeats 600000
set_option maxRecDepth 20000
def afterA (s x : Bs) : Bs := s ++ x
def stopA (Z : Nat) (s x : Bs) : Option Code := if Z ≤ s.length + x.length then some (.exit 0) else none
theorem itB_att (sd : Bs) (at_ a Z : Nat) (hZ : 1 ≤ Z) : ∀ (d b : Nat), b + d = (Z + 31) / 32 → 1 ≤ d → itB sd at_ a afterA (stopA Z) d b (blks sd at_ a b) = (blks sd at_ a ((Z + 31) / 32), some (.exit 0))
 | 0, b, h, h1 => by omega
 | d + 1, b, h, h1 => by
  have hl := blks_len sd at_ a b
  have hm : (blkB sd at_ a b).length = 32 := mac_len _ _
  rw [itB]
  by_cases hd : d = 0
  ·subst hd
   have hs : stopA Z (blks sd at_ a b) (blkB sd at_ a b) = some (.exit 0) := by rw [stopA, if_pos (by omega)]
   rw [hs]; simp only [Option.isSome_some, if_true]; rw [← h]; rfl
  ·have hs : stopA Z (blks sd at_ a b) (blkB sd at_ a b) = none := by rw [stopA, if_neg (by omega)]
   rw [hs, if_neg (by simp)]
   exact itB_att sd at_ a Z hZ d (b + 1) (by omega) (by omega)
abbrev ACO (x : Value) (sd : Bs) (at_ a Z : Nat) (g : Nat × Nat) (b8 b7 b3 : Nat) (s : Bs) (q : Option Nat × List Value) : List Ent :=
 [⟨q.1, s.map B ++ q.2, 5⟩, ⟨some g.2, [.int .i64 (a : Int)], 3⟩, ⟨some g.1, [x, .string (S sd), .int .i64 (at_ : Int)], 33⟩, ⟨some b8, [.slice (q.1.map fun b => ⟨b, 0, none⟩) s.length (s.length + q.2.length)], 128⟩, ⟨some b7, [.int .i64 (Z : Int)], 3⟩, ⟨some b3, [x, .string (S sd), .int .i64 (at_ : Int)], 33⟩]
theorem mask8 (c : UInt8) (d : Nat) (hd : d ≤ 7) : bits .and .u8 (c.toNat : Int) (Int.fdiv 255 (2 ^ (min ((d : Nat) : Int).toNat IntKind.u8.bits))) = ((UInt8.ofNat (c.toNat % 2 ^ (8 - d))).toNat : Int) := by
 have h1 := c.toNat_lt
 have e : Int.fdiv 255 (2 ^ (min ((d : Nat) : Int).toNat IntKind.u8.bits)) = ((2 ^ (8 - d) - 1 : Nat) : Int) := by
  have key : ∀ q, q ≤ 7 → Int.fdiv 255 (2 ^ (min ((q : Nat) : Int).toNat IntKind.u8.bits)) = ((2 ^ (8 - q) - 1 : Nat) : Int) := by decide
  exact key d hd
 have h2 : 2 ^ (8 - d) ≤ 2 ^ 8 := Nat.pow_le_pow_right (by decide) (by omega)
 have h3 : c.toNat % 2 ^ (8 - d) < 256 := Nat.lt_of_le_of_lt (Nat.mod_le _ _) h1
 rw [e, u8_and_nat _ _ (by omega) (by omega), Nat.and_two_pow_sub_one_eq_mod, UInt8.toNat_ofNat', Nat.mod_eq_of_lt (a := c.toNat % 2 ^ (8 - d)) (b := 2 ^ 8) (by omega)]
theorem attempt_c {vx : Value} {sd : Bs} {at_ aa nb : Nat} {w : World} (hsd : sd.length ≤ 400000) (hat : at_ ≤ 4294967296) (ha : aa ≤ 1000) (hnb : 1 ≤ nb) (hnb2 : nb ≤ 100000) (hT : Tab w) :
  Cw 153 #[.agg #[vx, .string (S sd), .int .i64 (at_ : Int)], .int .i64 (aa : Int), .int .i64 (nb : Int)] w (.string (S (attS sd at_ aa nb))) := by
 obtain ⟨Z, hZ⟩ : ∃ Z : Nat, Z = sizeB nb := ⟨_, rfl⟩
 have hZ1 : Z = (nb + 7) / 8 := hZ
 have hZ0 : 1 ≤ Z := by omega
 have hZl : Z ≤ 20000 := by omega
 have hit := itB_att sd at_ aa Z hZ0 ((Z + 31) / 32) 0 (by omega) (by omega)
 change itB sd at_ aa afterA (stopA Z) ((Z + 31) / 32) 0 [] = _ at hit
 refine enterM (S := St (fun _ => True) w [] ([])) (L := [(0, .agg #[vx, .string (S sd), .int .i64 (at_ : Int)]), (1, .int .i64 (aa : Int)), (2, .int .i64 (nb : Int))]) Tryz.func153 rfl Tryz.ntmps153 rfl (Ac rfl (Ac rfl (Ac rfl (An _)))) (St.start (fun _ _ => trivial) Fn) ?_
 refine Cs ?_
 refine Kh rfl (Oy rfl rfl) ?_
 intro b3
 refine Ka rfl (Nt (Cs (Km rfl (Kq rfl (Rz rfl rfl rfl (by omega)) (Kq rfl (rd_quo64nl rfl rfl rfl (by omega)) (Ns 12 rfl (v' := .int .i64 ((Z : Nat) : Int)) (congrArg (Value.int .i64) (by omega)) ?_))))))
 refine Kh rfl (Oa rfl (v := (.int .i64 0)) (cs := [.int .i64 0]) (by kernel_rfl) rfl) ?_
 intro b7
 refine Ng rfl rfl (st rfl rfl rfl .tc (by kernel_rfl) rfl ?_ (by (simp only [List.set_cons_zero, List.set_cons_succ]; rfl))) ?_
 ·decide
 intro _
 refine Nt (Cs ?_)
 refine Kh rfl (Oa rfl (v := (.slice none 0 0)) (cs := [.slice none 0 0]) (by kernel_rfl) rfl) ?_
 intro b8
 refine Nt (Cq (Cs ?_))
 refine Kq rfl (lda rfl rfl .tc u33 rfl ?_) ?_
 ·kernel_rfl
 refine Km rfl ?_
 refine Kh rfl (Oc rfl rfl (fun w hS => blocks_c (t := ⟨[], sd, (at_ : Int)⟩) hS)) ?_
 intro g15
 refine Nt (Cb ?_)
 refine WC.range (CO := ACO vx sd at_ aa Z g15 b8 b7 b3) (pg := fun s q => s.length ≤ 30000 ∧ (q.1 = none ∨ 0 < s.length + q.2.length)) (inv := fun s y => y.length = 32) (after := afterA) (stop := stopA Z) (enc := fun s : Bs => #[Value.string (S s)]) ([]) ((none, [])) ((itB sd at_ aa afterA (stopA Z) ((Z + 31) / 32) 0 []).1) ((itB sd at_ aa afterA (stopA Z) ((Z + 31) / 32) 0 []).2) (⟨Nat.zero_le _, .inl rfl⟩) rfl (by kernel_rfl) (fun _ => rfl) (by exact fun w h => h.nil _) ?_ (fun l r D w hl hY hS => blk_i (K := (Z + 31) / 32) (sd := sd) (at_ := at_) (a := aa) (x := vx) hY hS ⟨Nat.zero_le _, .inl rfl⟩ hsd hat ha (by omega) (fun s y h => h) (by rw [hit]; rfl) hT) ?_ ?_
 ·intro l r D f a s g x ext wr hl hi hpg hF hS
  rw [fold1]
  refine round_of (Fr.tm (hF.put (d := 16) rfl _)) hS ?_
  refine WR.region (by kernel_rfl) ?_
  refine Ka rfl (Nn ?_)
  refine WX.begin hl ?_
  refine Cb ?_
  refine WR.sr (by kernel_rfl) ?_
  refine Kq rfl (Ld rfl rfl .tc u128) ?_
  refine Km rfl ?_
  refine Kh rfl (apps rfl u128 u9 (by kernel_rfl) .tc rfl rfl ?_) ?_
  ·exact ⟨by simp, rfl, by have hi' : x.length = 32 := hi; omega, hpg.2⟩
  rintro ⟨o19, c19, s19⟩
  refine WL.pu ?_
  intro hg19; (try dsimp only at hg19 ⊢)
  refine Ng rfl rfl (st rfl rfl rfl .tc (by kernel_rfl) rfl ?_ (by (simp only [List.set_cons_zero, List.set_cons_succ]; rfl))) ?_
  ·(simp; done)
  intro _
  refine Nt ?_
  refine WR.sr (by kernel_rfl) ?_
  refine Kq rfl (Ld rfl rfl .tc u128) ?_
  refine Kq rfl (rd_len rfl rfl u128) (Kq rfl (Ld rfl rfl .tc u3) ?_)
  refine Kq rfl (rd_geq rfl rfl rfl) (Nt ?_)
  refine Cd rfl (fun hc23 => ?_) (fun hc23 => ?_)
  ·(try simp only [sB] at hc23)
   refine Cx ?_
   refine WX.block_other rfl ?_
   exact WX.rexit hl fun w' hS => by
    have hi' : x.length = 32 := hi
    have h2 : stopA Z s x = some (.exit 0) := by rw [stopA, if_pos (by omega)]
    rw [h2]
    refine ⟨rfl, (o19, s19), fun h => (by cases h), ?_⟩
    simp only [ACO, afterA, List.map_append, List.length_append]
    rw [hg19.1] at hS
    exact hS
  ·(try simp only [sB] at hc23)
   refine Ck (Xd ?_)
   exact WX.rnext hl fun w' hS => by
    have hi' : x.length = 32 := hi
    have h2 : stopA Z s x = none := by rw [stopA, if_neg (by omega)]
    rw [h2]
    refine ⟨rfl, (o19, s19), fun _ => ⟨by simp only [afterA, List.length_append]; omega, by simp only [afterA, List.length_append]; rw [← hg19.1]; exact hg19.2⟩, ?_⟩
    simp only [ACO, afterA, List.map_append, List.length_append]
    rw [hg19.1] at hS
    exact hS
 ·intro D1 g1 hD1 hg1 hcf
  exfalso; rw [hit] at hcf; cases hcf -- done
 ·intro D1 g1 c hD1 hcf
  obtain rfl : c = .exit 0 := by (rw [hit] at hcf; cases hcf; rfl)
  refine Cx (Xe ?_)
  rw [hit]; dsimp only [ACO]
  have hbl := blks_len sd at_ aa ((Z + 31) / 32)
  have hby : bytesB sd at_ aa nb = (blks sd at_ aa ((Z + 31) / 32)).take Z := by rw [bytesB, ← hZ]
  generalize blks sd at_ aa ((Z + 31) / 32) = X at *
  obtain ⟨c, X', rfl⟩ : ∃ c X', X = c :: X' := by cases X with
   | nil => simp at hbl; omega
   | cons c X' => exact ⟨c, X', rfl⟩
  obtain ⟨q1, q2⟩ := g1
  dsimp only
  have hcl : X'.length + 1 = 32 * ((Z + 31) / 32) := hbl
  refine Xa (Cs ?_)
  refine WL.know (p := ∃ bb, q1 = some bb) (fun w h => by obtain ⟨b, hb, _⟩ := h.ocx (ob := q1) (cs := List.map B (c :: X') ++ q2) .tc (by simp); exact ⟨b, hb⟩) ?_
  rintro ⟨bb, rfl⟩
  dsimp only [Option.map_some]
  refine Kq rfl (Ld rfl rfl .tc u128) ?_
  refine Kq rfl (Ld rfl rfl .tc u3) ?_
  refine Kq rfl (rd_slt rfl rfl rfl u128 (by kernel_rfl : _ = some 1) ?_ (by (try simp only [sN, Int.reduceToNat, Nat.reduceAdd, Nat.reduceMul, Nat.reduceSub]); rfl)) ?_
  ·omega
  refine Ng rfl rfl (st rfl rfl rfl .tc (by kernel_rfl) rfl ?_ (by (simp only [List.set_cons_zero, List.set_cons_succ]; rfl))) ?_
  ·(simp; done)
  intro _
  refine Nt (Cq (Cs (Kq rfl (Ld rfl rfl .tc u3) ?_)))
  refine Kq rfl (rd_gtr rfl rfl rfl) (Nt ?_)
  refine Cd rfl (fun hc28 => ?_) (fun hc28 => by exfalso; (try simp only [sB] at hc28); omega)
  (try simp only [sB] at hc28)
  refine Cf [0, 1, 2, 3, 4, 5, 6, 7, 8, 9] [10] [0, 0, 0, 0, 0, 0, 0, 0, 0, 0, 2] (by kernel_rfl) (by kernel_rfl) rfl ?_
  refine Kj rfl (Ld rfl rfl .tc u128) ?_
  refine Kj rfl (Ja rfl rfl rfl u128 (by kernel_rfl : _ = some 1) (by omega)) ?_
  refine Kj rfl (Ld rfl rfl .tc u5) ?_
  refine Kj rfl (Ld rfl rfl .tc u3) ?_
  refine Kj rfl (rd_mul64ln rfl rfl rfl (by omega)) (Kj rfl (Rm rfl rfl) (Kj rfl (rd_sub64n rfl rfl rfl (by omega)) ?_))
  refine Kj rfl (rd_shr rfl rfl rfl ?_) ?_
  ·omega
  refine Kj rfl (rd_and rfl rfl rfl) ?_
  refine WJ.set 37 rfl (v' := B (UInt8.ofNat (c.toNat % 2 ^ (8 - (8 * Z - nb))))) (by exact congrArg (Value.int .u8) (mask8 c (8 * Z - nb) (by omega))) ?_
  refine Kj rfl (Ja rfl rfl rfl u128 (by kernel_rfl : _ = some 1) (by omega)) ?_
  refine WJ.nil ?_
  refine Ng rfl rfl (st rfl rfl rfl .tc (by kernel_rfl) rfl ?_ (by rfl)) ?_
  ·(simp; done)
  intro _
  refine Nn ?_
  obtain ⟨y, hy⟩ : ∃ y : Bs, y = (UInt8.ofNat (c.toNat % 2 ^ (8 - (8 * Z - nb))) :: X').take Z := ⟨_, rfl⟩
  have hyl : y.length = Z := by rw [hy, List.length_take, List.length_cons]; omega
  have hya : canon (val y) = attS sd at_ aa nb := by
   have := att_end (sd := sd) (at_ := at_) (a := aa) (nb := nb) (X := c :: X') (x := c.toNat % 2 ^ (8 - (8 * Z - nb))) hZ hZ0 hby (by simp only [List.length_cons]; omega) rfl (by omega) (by omega)
   rw [← this, hy]; obtain ⟨q, rfl⟩ : ∃ q, Z = q + 1 := ⟨Z - 1, by omega⟩; rfl
  refine Xa (Cq (Cb ?_))
  refine Lo (σ := Bs × (Option Addr) × Nat) [(8, _)] (fun gq => []) (fun gq => trimB gq.1 = trimB y ∧ gq.1.length ≤ gq.2.2 ∧ gq.1.length ≤ Z) (fun gq => gq.1.length) (fun gq => [⟨some b8, [.slice gq.2.1 gq.1.length gq.2.2], 128⟩]) (fun gq => [Fact.sl gq.2.1 (gq.1.map B), Fact.dfr D1]) (y, some ⟨bb, 0, none⟩, (c :: X').length + q2.length) (S1 rfl) (S0 _) (by (try dsimp only); exact ⟨rfl, by rw [hyl]; simp only [List.length_cons]; omega, by omega⟩) (by exact fun w h => by dsimp only; rw [hyl]; exact st_sub _ (h.freeze (off := 0) (xs := y.map B) (fun i hi => by
    have hi' : i < Z := by rw [List.length_map, hyl] at hi; exact hi
    show ((B (UInt8.ofNat (c.toNat % 2 ^ (8 - (8 * Z - nb)))) :: (X'.map B ++ q2)) : List Value)[0 + i]? = _
    rw [hy, List.map_take, List.getElem?_take, if_pos hi', Nat.zero_add]
    show (((UInt8.ofNat (c.toNat % 2 ^ (8 - (8 * Z - nb))) :: X').map B ++ q2) : List Value)[i]? = _
    rw [List.getElem?_append_left (by simp; omega)]))) ?_
  rintro ⟨t, a', cp⟩ hinv1; (try dsimp only at hinv1 ⊢)
  obtain ⟨ht, htc, htb⟩ := hinv1
  refine Cq (Cs (Kq rfl (Ld rfl rfl .tc u128) ?_))
  refine Kq rfl (rd_len rfl rfl u128) (Kq rfl (rd_gtr rfl rfl rfl) (Km rfl ?_))
  refine Nb 42 rfl (fun hg42 => ?_) (fun hg42 => ?_)
  ·(try simp only [sB] at hg42)
   refine Kq rfl (Ld rfl rfl .tc u128) ?_
   refine Kq rfl (Ib rfl rfl rfl u128 (by omega) (by (rw [List.length_map]; omega))) ?_
   refine Kq rfl (ldm rfl rfl u5 rfl (by omega)) ?_
   refine Kq rfl (rd_eql rfl rfl rfl) (Kq rfl (Rp rfl rfl rfl) (Nt ?_))
   refine Cd rfl (fun hc47 => ?_) (fun hc47 => ?_)
   ·(try simp only [sB] at hc47)
    have hz : (t.getD 0 default).toNat = 0 := by (simp at hc47; exact hc47)
    refine Ck (Xa (Cb (Cg (Kq rfl (Ld rfl rfl .tc u128) ?_))))
    refine Kq rfl (rd_slf rfl rfl rfl u128 (by kernel_rfl : _ = some 1) (by omega) (by (try simp only [sN, Int.reduceToNat, Nat.reduceAdd, Nat.reduceMul, Nat.reduceSub]); rfl) (by (try simp only [sN, Int.reduceToNat, Nat.reduceAdd, Nat.reduceMul, Nat.reduceSub]); rfl) (by (try simp only [sN, Int.reduceToNat, Nat.reduceAdd, Nat.reduceMul, Nat.reduceSub]); rfl)) ?_
    refine Ns 49 rfl (v' := .slice (cut a' 1 cp 1) (t.drop 1).length (cp - 1)) (by rw [List.length_drop]) ?_
    refine Ng rfl rfl (st rfl rfl rfl .tc (by kernel_rfl) rfl ?_ (by (simp only [List.set_cons_zero, List.set_cons_succ]; rfl))) ?_
    ·(simp; done)
    intro _
    refine Nn (Xd ?_)
    refine Lx ((t.drop 1, cut a' 1 cp 1, cp - 1)) (by simp only [List.length_drop]; omega) (S1 rfl) (S0 _) ?_ (by exact fun w h => (h.add (f := Fact.sl (cut a' 1 cp 1) ((t.drop 1).map B)) (sl_cutM 1 htc (h.fact (Fact.sl a' (t.map B)) (by simp)))).sub (List.Sublist.refl _) (fun f hf => by simp only [List.mem_cons, List.not_mem_nil, or_false] at hf ⊢; rcases hf with h | h <;> simp [h]))
    (try dsimp only)
    exact ⟨by rw [← trimB_zero (by omega) hz]; exact ht, by simp only [List.length_drop]; omega, by simp only [List.length_drop]; omega⟩
   ·(try simp only [sB] at hc47)
    refine Cx (Xc (Xc (Xe (Xa (Cs (Kq rfl (Ld rfl rfl .tc u128) ?_))))))
    refine Kq rfl (b2sf rfl rfl .tc u128 u5 u22 ?_) ?_
    ·rfl
    refine Ka rfl (Nt (Ce ?_))
    exact WX.retM1 hD1 rfl (.tmp rfl .nil) fun w' hS => ⟨by rw [← hya, show canon (val y) = t from by rw [← trim_canon, ← ht, trimB_stop (by (exact .inr (fun h0 => hc47 (by show ((t.getD 0 default).toNat : Int) = 0; omega))))]]; rfl, hS.below⟩
  ·(try simp only [sB] at hg42)
   refine Kt rfl (Kt rfl (Kt rfl (Kt rfl (Kq rfl (Rq rfl rfl rfl) (Nt ?_)))))
   refine Cd rfl (fun h => by cases h) (fun _ => ?_)
   refine Cx (Xc (Xc (Xe (Xa (Cs (Kq rfl (Ld rfl rfl .tc u128) ?_))))))
   refine Kq rfl (b2sf rfl rfl .tc u128 u5 u22 ?_) ?_
   ·rfl
   refine Ka rfl (Nt (Ce ?_))
   exact WX.retM1 hD1 rfl (.tmp rfl .nil) fun w' hS => ⟨by rw [← hya, show canon (val y) = t from by rw [← trim_canon, ← ht, trimB_stop (by (exact .inl (by omega)))]]; rfl, hS.below⟩
def zeroT : Tp := ⟨[], [], 0⟩
def findA (t : Tp) (n : Bs) : Nat → Nat → Option Bs
 | 0, _ => none
 | f + 1, a => if cmpN (attS t.seed t.at_.toNat a (bitsN n)) n < 0 then some (attS t.seed t.at_.toNat a (bitsN n)) else findA t n f (a + 1)
def drawS (t : Tp) (n : Bs) : Bs × Tp × Int :=
 if t.at_ < t.vals.length then (if 0 ≤ cmpN (t.vals.getD t.at_.toNat default) n then ([], zeroT, 2) else (t.vals.getD t.at_.toNat default, ⟨t.vals, t.seed, t.at_ + 1⟩, 0))
 else if t.seed = [] ∨ t.at_ = 2147483647 then ([], zeroT, 14)
 else match findA t n 256 0 with
  | some x => (x, ⟨t.vals, t.seed, t.at_ + 1⟩, 0)
  | none => ([], zeroT, 14)
theorem draw0 {r : Bs × Tp × Int} {n : Int} {ok : Nat → Prop} {w0 w : World} {own : List Ent} {fs : List Fact} {T : TypeId} (hr : r = ([], zeroT, n)) (hS : St ok w0 own fs w) :
  ∃ g : Rs, Ending.returned (tup [.string (S []), .agg #[.slice none 0 0, .string (S []), .int .i64 0], .int .i64 n]) = Ending.returned (.tuple #[.string (S r.1), r.2.1.v (g.val r.2.1.vals.length), .int .i64 r.2.2]) ∧ g.cap = r.2.1.vals.length + g.sp.length ∧ St ok w0 [g.ent (strs r.2.1.vals) T] [] w := by
 subst hr
 exact ⟨⟨none, 0, []⟩, rfl, rfl, (hS.nil T).sub (List.singleton_sublist.2 (by simp [Rs.ent, zeroT])) (fun _ h => by cases h)⟩
theorem drawN {r : Bs × Tp × Int} {t : Tp} {x : Bs} {q : Rs} {ok : Nat → Prop} {w0 w : World} {own : List Ent} {fs : List Fact} {T : TypeId} (hr : r = (x, ⟨t.vals, t.seed, t.at_ + 1⟩, 0)) (hq : q.cap = t.vals.length + q.sp.length) (hS : St ok w0 own fs w) (hm : q.ent (strs t.vals) T ∈ own) :
  ∃ g : Rs, Ending.returned (tup [.string (S x), .agg #[q.val t.vals.length, .string (S t.seed), .int .i64 (t.at_ + 1)], .int .i64 0]) = Ending.returned (.tuple #[.string (S r.1), r.2.1.v (g.val r.2.1.vals.length), .int .i64 r.2.2]) ∧ g.cap = r.2.1.vals.length + g.sp.length ∧ St ok w0 [g.ent (strs r.2.1.vals) T] [] w := by
 subst hr
 exact ⟨q, rfl, hq, hS.sub (List.singleton_sublist.2 hm) (fun _ h => by cases h)⟩
theorem findA_hit {t : Tp} {n : Bs} {a : Nat} (h : a < 256) (hc : cmpN (attS t.seed t.at_.toNat a (bitsN n)) n < 0) : findA t n (256 - a) a = some (attS t.seed t.at_.toNat a (bitsN n)) := by
 rw [show 256 - a = (255 - a) + 1 by omega, findA, if_pos hc]
theorem findA_miss {t : Tp} {n : Bs} {a : Nat} (h : a < 256) (hc : ¬ cmpN (attS t.seed t.at_.toNat a (bitsN n)) n < 0) : findA t n (256 - a) a = findA t n (256 - (a + 1)) (a + 1) := by
 rw [show 256 - a = (256 - (a + 1)) + 1 by omega, findA, if_neg hc]
theorem rdraw_c {t : Tp} {n : Bs} {a : Option Addr} {cap : Nat} {w : World} {ok : Nat → Prop} (hF1 : (Fact.sl a (strs t.vals)).holds ok w) (hl : t.vals.length ≤ 100000) (hg : goodT t) (hn : okN n) (hn0 : n ≠ []) (hsd : t.seed.length ≤ 400000) :
  Calls Tryz.prog 104 #[t.v (.slice a t.vals.length cap), .string (S n)] w fun e w' => ∃ g : Rs, e = .returned (.tuple #[.string (S (drawS t n).1), (drawS t n).2.1.v (g.val (drawS t n).2.1.vals.length), .int .i64 (drawS t n).2.2]) ∧ g.cap = (drawS t n).2.1.vals.length + g.sp.length ∧ St (fun _ => True) w [g.ent (strs (drawS t n).2.1.vals) 22] [] w' := by
 have hg1 := hg.1; have hg2 := hg.2.1
 have hbp := bitsN_pos hn hn0
 have hbl := bitsN_le hn.1
 obtain ⟨p, hp⟩ : ∃ p : Nat, t.at_ = (p : Int) := ⟨t.at_.toNat, by omega⟩
 refine En [Fact.sl a (strs t.vals)] [(0, t.v (.slice a t.vals.length cap)), (1, .string (S n))] Tryz.func104 rfl Tryz.ntmps104 rfl (Ac rfl (Ac rfl (An _))) (Fc (fact_any hF1) Fn) ?_
 refine Cs ?_
 refine Kh rfl (Oy rfl rfl) ?_
 intro b2
 refine Ka rfl ?_
 refine Kh rfl (Oz [.slice none 0 0, .string (S []), .int .i64 0] rfl) ?_
 intro b5
 refine Ka rfl (Nt (Cs (Kq rfl (Fa (q := 1) rfl rfl u33 rfl rfl) (Kq rfl (Ld rfl rfl .tc u9) ?_))))
 refine Kq rfl (Fa (q := 2) rfl rfl u33 rfl rfl) (Kq rfl (Ld rfl rfl .tc u3) ?_)
 refine Kq rfl (rd_add64 rfl rfl rfl (by omega)) (Kq rfl (Kb [[.slice none 0 0], [.string (S [])], [.int .i64 0]] rfl rfl) ?_)
 refine Kh rfl (Oz [.slice none 0 0, .string (S []), .int .i64 0] rfl) ?_
 intro b7
 refine Nu rfl rfl (Sa rfl rfl rfl .tc) ?_
 refine Nt (Cs (Kq rfl (Fa (q := 0) rfl rfl u33 rfl rfl) (Kq rfl (Ld rfl rfl .tc u31) ?_)))
 refine Kq rfl (Fa (q := 0) rfl rfl u33 rfl rfl) (Kq rfl (Ld rfl rfl .tc u31) ?_)
 (refine WL.st (fun w h => h.nil 22) ?_; refine Kh rfl (appg (ob := none) (xs := []) (sp := []) rfl u31 (by kernel_rfl : _ = some (some (.string (S [])), 1, 16)) rfl .tc rfl rfl (fun w hS => by (exact hS.sl)) (by simp) ?_ ?_) ?_; (focus ((refine ⟨?_, ?_, ?_, ?_⟩ <;> (try simp) <;> omega))); (focus ((simp [Value.oneCell']; done))))
 rintro ⟨o20, c20, s20⟩
 refine WL.pu ?_
 intro hg20; (try dsimp only at hg20 ⊢)
 refine Ns 20 rfl (v' := .slice (o20.map fun b => ⟨b, 0, none⟩) t.vals.length c20) (by rw [Nat.zero_add]) ?_
 simp only [List.nil_append]
 have hq : (⟨o20, c20, s20⟩ : Rs).cap = t.vals.length + (⟨o20, c20, s20⟩ : Rs).sp.length := by show c20 = t.vals.length + s20.length; omega
 refine Kq rfl (Fa (q := 0) rfl rfl u33 rfl rfl) ?_
 refine Ng rfl rfl (st rfl rfl rfl .tc (by kernel_rfl) rfl ?_ (by (simp only [List.set_cons_zero, List.set_cons_succ]; rfl))) ?_
 ·(simp; done)
 intro _
 refine Nt (Cq (Cs (Kq rfl (Fa (q := 2) rfl rfl u33 rfl rfl) (Kq rfl (Ld rfl rfl .tc u3) ?_))))
 refine Kq rfl (Fa (q := 0) rfl rfl u33 rfl rfl) (Kq rfl (Ld rfl rfl .tc u31) ?_)
 refine Kq rfl (rd_len rfl rfl u31) (Kq rfl (rd_lss rfl rfl rfl) (Nt ?_))
 refine Cd rfl (fun hc27 => ?_) (fun hc27 => ?_)
 ·(try simp only [sB] at hc27)
  have h27 : t.at_ < t.vals.length := hc27
  refine Cq (Cs (Kq rfl (Fa (q := 0) rfl rfl u33 rfl rfl) (Kq rfl (Ld rfl rfl .tc u31) ?_)))
  refine Kq rfl (Fa (q := 2) rfl rfl u33 rfl rfl) (Kq rfl (Ld rfl rfl .tc u3) ?_)
  refine Kq rfl (Ib rfl rfl rfl u31 (by omega) (by (rw [List.length_map]; omega))) ?_
  refine Kq rfl (ldm rfl rfl u22 rfl (by omega)) ?_
  refine Km rfl ?_
  refine Ku rfl (Oc rfl rfl (Kv fun w hS => rCmp_c (a := t.vals.getD t.at_.toNat default) (b := n))) ?_
  refine Kq rfl (rd_geq rfl rfl rfl) (Nt ?_)
  refine Cd rfl (fun hc36 => ?_) (fun hc36 => ?_)
  ·(try simp only [sB] at hc36)
   refine Cs (Kq rfl (Kb [[.slice none 0 0], [.string (S [])], [.int .i64 0]] rfl rfl) (Ka rfl ?_))
   refine Nu rfl rfl (Sa rfl rfl rfl .tc) ?_
   refine Ka rfl (Nt (Ce (Xb (Xb ?_))))
   exact Rn rfl (.tmp rfl (.agg rfl .tc u33 rfl (by kernel_rfl) (.tmp rfl .nil))) fun w' hS => draw0 (by rw [drawS, if_pos h27, if_pos hc36]) hS
  ·(try simp only [sB] at hc36)
   refine Ck (Xa (Cq ?_))
   refine Cf [0, 1, 2, 3, 4, 5, 6, 7] [8, 9] [0, 0, 0, 0, 0, 0, 0, 0, 2, 2] (by kernel_rfl) (by kernel_rfl) rfl ?_
   refine Kj rfl (Fa (q := 0) rfl rfl u33 rfl rfl) (Kj rfl (Ld rfl rfl .tc u31) ?_)
   refine Kj rfl (Fa (q := 2) rfl rfl u33 rfl rfl) (Kj rfl (Ld rfl rfl .tc u3) ?_)
   refine Kj rfl (Ib rfl rfl rfl u31 (by omega) (by (rw [List.length_map]; omega))) ?_
   refine Kj rfl (ldm rfl rfl u22 rfl (by omega)) ?_
   refine Kj rfl (lda rfl rfl .tc u33 rfl ?_) ?_
   ·kernel_rfl
   refine Kj rfl (Ra rfl rfl) ?_
   refine WJ.nil ?_
   refine Nu rfl rfl (Sa rfl rfl rfl .tc) ?_
   refine Ka rfl (Nt (Ce (Xb ?_)))
   exact Rn rfl (.tmp rfl (.agg rfl .tc u33 rfl (by kernel_rfl) (.tmp rfl .nil))) fun w' hS => drawN (q := ⟨o20, c20, s20⟩) (by rw [drawS, if_pos h27, if_neg (by omega)]) hq hS (by simp [Rs.ent])
 ·(try simp only [sB] at hc27)
  have h27 : ¬ t.at_ < t.vals.length := by omega
  refine Ck (Xa (Cq (Cs (Kq rfl (Fa (q := 1) rfl rfl u33 rfl rfl) (Kq rfl (Ld rfl rfl .tc u9) ?_)))))
  refine Kq rfl (rd_seq rfl rfl rfl) (Km rfl ?_)
  refine Nb 48 rfl (fun hg48 => ?_) (fun hg48 => ?_)
  ·(try simp only [sB] at hg48)
   refine Kt rfl (Kt rfl (Kt rfl (Kq rfl (Rp rfl rfl rfl) (Nt ?_))))
   refine Cd rfl (fun _ => ?_) (fun h => by cases h)
   refine Cs (Kq rfl (Kb [[.slice none 0 0], [.string (S [])], [.int .i64 0]] rfl rfl) (Ka rfl ?_))
   refine Nu rfl rfl (Sa rfl rfl rfl .tc) ?_
   refine Ka rfl (Nt (Ce (Xb ?_)))
   exact Rn rfl (.tmp rfl (.agg rfl .tc u33 rfl (by kernel_rfl) (.tmp rfl .nil))) fun w' hS => draw0 (by rw [drawS, if_neg h27, if_pos (by simp_all)]) hS
  ·(try simp only [sB] at hg48)
   refine Kq rfl (Fa (q := 2) rfl rfl u33 rfl rfl) (Kq rfl (Ld rfl rfl .tc u3) ?_)
   refine Kq rfl (rd_eql rfl rfl rfl) (Kq rfl (Rq rfl rfl rfl) (Nt ?_))
   refine Cd rfl (fun hc52 => ?_) (fun hc52 => ?_)
   ·(try simp only [sB] at hc52)
    refine Cs (Kq rfl (Kb [[.slice none 0 0], [.string (S [])], [.int .i64 0]] rfl rfl) (Ka rfl ?_))
    refine Nu rfl rfl (Sa rfl rfl rfl .tc) ?_
    refine Ka rfl (Nt (Ce (Xb ?_)))
    exact Rn rfl (.tmp rfl (.agg rfl .tc u33 rfl (by kernel_rfl) (.tmp rfl .nil))) fun w' hS => draw0 (by rw [drawS, if_neg h27, if_pos (by simp_all)]) hS
   ·(try simp only [sB] at hc52)
    have h52 : ¬ (t.seed = [] ∨ t.at_ = 2147483647) := by simp_all
    refine Ck (Xa (Cq (Cs (Ka rfl (Nt (Cb ?_))))))
    refine Lp (σ := Nat) [(1, _), (2, _), (5, _), (7, _)] (fun gq => [(8, .int .i64 (gq : Int))]) (fun gq => gq ≤ 256 ∧ findA t n (256 - gq) gq = findA t n 256 0) (fun gq => 256 - gq) (0) (S4 rfl rfl rfl rfl) (S1 rfl) (by (try dsimp only); exact ⟨by omega, rfl⟩) ?_
    rintro k hinv1; (try dsimp only at hinv1 ⊢)
    obtain ⟨hk, hfi⟩ := hinv1
    refine Cq (Cs (Km rfl (Kq rfl (rd_lss rfl rfl rfl) (Nt ?_))))
    refine Cd rfl (fun hc55 => ?_) (fun hc55 => ?_)
    ·(try simp only [sB] at hc55)
     refine Ck (Xa (Cq (Cb (Cq ?_))))
     refine Cf [5, 6, 0, 1, 2, 3, 4, 7, 8] [] [0, 0, 0, 0, 0, 0, 1, 1, 0] (by kernel_rfl) (by kernel_rfl) rfl ?_
     refine Kj rfl (Rm rfl rfl) ?_
     refine Jv rfl rfl rfl rfl rfl (fun ext => Oc rfl rfl (Kv fun w hS => rbits_c (a := n))) ?_
     refine WJ.set 64 rfl (v' := .int .i64 ((bitsN n : Nat) : Int)) (congrArg (Value.int .i64) (by rw [if_pos hn])) ?_
     refine Kj rfl (Fa (q := 1) rfl rfl u33 rfl rfl) (Kj rfl (Ld rfl rfl .tc u9) ?_)
     refine Kj rfl (Fa (q := 2) rfl rfl u33 rfl rfl) (Kj rfl (Ld rfl rfl .tc u3) ?_)
     refine WJ.set 61 rfl (v' := .int .i64 (((t.at_.toNat : Nat) : Int))) (congrArg (Value.int .i64) (by omega)) ?_
     refine Kj rfl (Rm rfl rfl) ?_
     refine Jv rfl rfl rfl rfl rfl (fun ext => Oc rfl rfl (Kv fun w hS => rattempt_c (sd := t.seed) (at_ := t.at_.toNat) (a := k) (nb := bitsN n) (by assumption) (by omega) (by omega) (by assumption) (by omega))) ?_
     refine Kj rfl (Ra rfl rfl) ?_
     refine WJ.nil ?_
     refine Nt (Cs (Km rfl (Km rfl ?_)))
     refine Ku rfl (Oc rfl rfl (Kv fun w hS => rCmp_c (a := attS t.seed t.at_.toNat k (bitsN n)) (b := n))) ?_
     refine Kq rfl (rd_lss rfl rfl rfl) (Nt ?_)
     refine Cd rfl (fun hc69 => ?_) (fun hc69 => ?_)
     ·(try simp only [sB] at hc69)
      refine Cq ?_
      refine Cf [0, 1, 2] [3, 4] [0, 0, 0, 2, 2] (by kernel_rfl) (by kernel_rfl) rfl ?_
      refine Kj rfl (Rm rfl rfl) ?_
      refine Kj rfl (lda rfl rfl .tc u33 rfl ?_) ?_
      ·kernel_rfl
      refine Kj rfl (Ra rfl rfl) ?_
      refine WJ.nil ?_
      refine Nu rfl rfl (Sa rfl rfl rfl .tc) ?_
      refine Ka rfl (Nt (Ce (Xf (Xb (Xb (Xf (Xb ?_)))))))
      exact Rn rfl (.tmp rfl (.agg rfl .tc u33 rfl (by kernel_rfl) (.tmp rfl .nil))) fun w' hS => drawN (q := ⟨o20, c20, s20⟩) (by rw [drawS, if_neg h27, if_neg h52, ← hfi, findA_hit (by omega) hc69]) hq hS (by simp [Rs.ent])
     ·(try simp only [sB] at hc69)
      refine Ck (Xd (Xa (Cg (Km rfl (Kq rfl (Rz rfl rfl rfl (by omega)) (Ka rfl (Nn ?_)))))))
      refine Ly (k + 1) (by (try dsimp only); omega) (S4 rfl rfl rfl rfl) (by refine (Sc ?_ (S0 _)) <;> (rfl)) ?_ (by (exact fun _ h => h))
      (try dsimp only)
      exact ⟨by omega, by rw [← findA_miss (by omega) (by omega)]; exact hfi⟩
    ·(try simp only [sB] at hc55)
     refine Cx (Xc (Xc (Xe ?_)))
     obtain rfl : k = 256 := by omega
     refine Xa (Cs (Kq rfl (Kb [[.slice none 0 0], [.string (S [])], [.int .i64 0]] rfl rfl) (Ka rfl ?_)))
     refine Nu rfl rfl (Sa rfl rfl rfl .tc) ?_
     refine Ka rfl (Nt (Ce ?_))
     exact Rn rfl (.tmp rfl (.agg rfl .tc u33 rfl (by kernel_rfl) (.tmp rfl .nil))) fun w' hS => draw0 (by rw [drawS, if_neg h27, if_neg h52, ← hfi]; rfl) hS
theorem draw_c {t : Tp} {n : Bs} {a : Option Addr} {cap : Nat} {w : World} {ok : Nat → Prop} (hF1 : (Fact.sl a (strs t.vals)).holds ok w) (hl : t.vals.length ≤ 100000) (hg : goodT t) (hn : okN n) (hn0 : n ≠ []) (hsd : t.seed.length ≤ 400000) (hT : Tab w) :
  Calls Tryz.prog 101 #[t.v (.slice a t.vals.length cap), .string (S n)] w fun e w' => ∃ g : Rs, e = .returned (.tuple #[.string (S (drawS t n).1), (drawS t n).2.1.v (g.val (drawS t n).2.1.vals.length), .int .i64 (drawS t n).2.2]) ∧ g.cap = (drawS t n).2.1.vals.length + g.sp.length ∧ St (fun _ => True) w [g.ent (strs (drawS t n).2.1.vals) 22] [] w' := by
 have hg1 := hg.1; have hg2 := hg.2.1
 have hbp := bitsN_pos hn hn0
 have hbl := bitsN_le hn.1
 have hq : (⟨some 0, t.vals.length, []⟩ : Rs).cap = t.vals.length + (⟨some 0, t.vals.length, []⟩ : Rs).sp.length := rfl
 refine En [Fact.sl a (strs t.vals)] [(0, t.v (.slice a t.vals.length cap)), (1, .string (S n))] Tryz.func101 rfl Tryz.ntmps101 rfl (Ac rfl (Ac rfl (An _))) (Fc (fact_any hF1) Fn) ?_
 refine Cs ?_
 refine Kh rfl (Oy rfl rfl) ?_
 intro b2
 refine Ka rfl ?_
 refine Kh rfl (Oz [.slice none 0 0, .string (S []), .int .i64 0] rfl) ?_
 intro b5
 refine Ka rfl (Nt (Cq (Cs (Kq rfl (Fa (q := 2) rfl rfl u33 rfl rfl) (Kq rfl (Ld rfl rfl .tc u3) ?_)))))
 refine Kq rfl (Fa (q := 0) rfl rfl u33 rfl rfl) (Kq rfl (Ld rfl rfl .tc u31) ?_)
 refine Kq rfl (rd_len rfl rfl u31) (Kq rfl (rd_lss rfl rfl rfl) (Km rfl ?_))
 refine Nb 16 rfl (fun hg16 => ?_) (fun hg16 => ?_)
 ·(try simp only [sB] at hg16)
  refine Kq rfl (Fa (q := 0) rfl rfl u33 rfl rfl) (Kq rfl (Ld rfl rfl .tc u31) ?_)
  refine Kq rfl (Fa (q := 2) rfl rfl u33 rfl rfl) (Kq rfl (Ld rfl rfl .tc u3) ?_)
  refine Kq rfl (Ib rfl rfl rfl u31 (by omega) (by (rw [List.length_map]; omega))) ?_
  refine Kq rfl (ldm rfl rfl u22 rfl (by omega)) ?_
  refine Km rfl ?_
  refine Ku rfl (Oc rfl rfl (Kv fun w hS => Cmp_c (a := t.vals.getD t.at_.toNat default) (b := n))) ?_
  refine Kq rfl (rd_geq rfl rfl rfl) (Kq rfl (Rp rfl rfl rfl) (Nt ?_))
  refine Cd rfl (fun hc26 => ?_) (fun hc26 => ?_)
  ·(try simp only [sB] at hc26)
   refine Cs (Kq rfl (Kb [[.slice none 0 0], [.string (S [])], [.int .i64 0]] rfl rfl) (Ka rfl ?_))
   refine Nu rfl rfl (Sa rfl rfl rfl .tc) ?_
   refine Ka rfl (Nt (Ce (Xb ?_)))
   exact Rn rfl (.tmp rfl (.agg rfl .tc u33 rfl (by kernel_rfl) (.tmp rfl .nil))) fun w' hS => draw0 (by rw [drawS, if_pos (by omega), if_pos hc26]) hS
  ·(try simp only [sB] at hc26)
   refine Ck (Xa (Cq (Cs (Kq rfl (Fa (q := 2) rfl rfl u33 rfl rfl) (Kq rfl (Ld rfl rfl .tc u3) ?_)))))
   refine Kq rfl (Fa (q := 0) rfl rfl u33 rfl rfl) (Kq rfl (Ld rfl rfl .tc u31) ?_)
   refine Kq rfl (rd_len rfl rfl u31) (Kq rfl (rd_geq rfl rfl rfl) (Km rfl ?_))
   refine Nb 34 rfl (fun hg34 => ?_) (fun hg34 => ?_)
   ·(try simp only [sB] at hg34)
    refine Kq rfl (Fa (q := 1) rfl rfl u33 rfl rfl) (Kq rfl (Ld rfl rfl .tc u9) ?_)
    refine Kq rfl (rd_seq rfl rfl rfl) (Kq rfl (Rp rfl rfl rfl) (Km rfl ?_))
    refine Nb 39 rfl (fun hg39 => ?_) (fun hg39 => ?_)
    ·(try simp only [sB] at hg39)
     refine Kt rfl (Kt rfl (Kt rfl (Kq rfl (Rp rfl rfl rfl) (Nt ?_))))
     refine Cd rfl (fun _ => ?_) (fun h => by cases h)
     refine Cs (Kq rfl (Kb [[.slice none 0 0], [.string (S [])], [.int .i64 0]] rfl rfl) (Ka rfl ?_))
     refine Nu rfl rfl (Sa rfl rfl rfl .tc) ?_
     refine Ka rfl (Nt (Ce (Xb ?_)))
     (exfalso; omega)
    ·(try simp only [sB] at hg39)
     refine Kq rfl (Fa (q := 2) rfl rfl u33 rfl rfl) (Kq rfl (Ld rfl rfl .tc u3) ?_)
     refine Kq rfl (rd_eql rfl rfl rfl) (Kq rfl (Rq rfl rfl rfl) (Nt ?_))
     refine Cd rfl (fun hc43 => ?_) (fun hc43 => ?_)
     ·(try simp only [sB] at hc43)
      refine Cs (Kq rfl (Kb [[.slice none 0 0], [.string (S [])], [.int .i64 0]] rfl rfl) (Ka rfl ?_))
      refine Nu rfl rfl (Sa rfl rfl rfl .tc) ?_
      refine Ka rfl (Nt (Ce (Xb ?_)))
      (exfalso; omega)
     ·(try simp only [sB] at hc43)
      refine Ck (Xa (Cq ?_))
      refine Cf [0, 1, 2, 3, 4, 5, 6, 7, 8, 9, 10] [11] [0, 0, 0, 3, 0, 0, 0, 0, 0, 0, 3, 2] (by kernel_rfl) (by kernel_rfl) rfl ?_
      refine Kj rfl (Fa (q := 0) rfl rfl u33 rfl rfl) (Kj rfl (Ld rfl rfl .tc u31) ?_)
      refine Kj rfl (rd_len rfl rfl u31) ?_
      refine Jf rfl rfl rfl rfl rfl (fr_mk rfl rfl rfl u31 (by kernel_rfl : _ = some (some (.string (S [])), 1, 16)) rfl ?_ (by (try simp only [sN, Int.reduceToNat, Nat.reduceAdd, Nat.reduceMul, Nat.reduceSub]); rfl) (by (try simp only [sN, Int.reduceToNat, Nat.reduceAdd, Nat.reduceMul, Nat.reduceSub]); rfl)) ?_
      ·omega
      intro b48
      refine Kj rfl (Fa (q := 1) rfl rfl u33 rfl rfl) (Kj rfl (Ld rfl rfl .tc u9) ?_)
      refine Kj rfl (Fa (q := 2) rfl rfl u33 rfl rfl) (Kj rfl (Ld rfl rfl .tc u3) ?_)
      refine Kj rfl (rd_add64 rfl rfl rfl (by omega)) (Kj rfl (Kb [[.slice none 0 0], [.string (S [])], [.int .i64 0]] rfl rfl) ?_)
      refine Jf rfl rfl rfl rfl rfl (fr_alloc rfl (v := (.agg #[.slice none 0 0, .string (S []), .int .i64 0])) (cs := [.slice none 0 0, .string (S []), .int .i64 0]) (by kernel_rfl) rfl) ?_
      intro b7
      refine WJ.nil ?_
      refine Nu rfl rfl (Sa rfl rfl rfl .tc) ?_
      refine Nt (Cs (Kq rfl (Fa (q := 0) rfl rfl u33 rfl rfl) (Kq rfl (Ld rfl rfl .tc u31) ?_)))
      refine Kq rfl (Fa (q := 0) rfl rfl u33 rfl rfl) (Kq rfl (Ld rfl rfl .tc u31) ?_)
      refine Kh rfl (cpyl rfl rfl rfl .tc u31 (by kernel_rfl) (m := t.vals.length) (by simp) (by simp) (fun w hS => hS.sl) (by intro u hu; obtain ⟨_, _, rfl⟩ := List.mem_map.1 hu; rfl) (by simp) (ys := strs t.vals) (by simp)) ?_
      intro _
      refine Nt (Cq (Cs (Kq rfl (Fa (q := 2) rfl rfl u33 rfl rfl) (Kq rfl (Ld rfl rfl .tc u3) ?_))))
      refine Kq rfl (Fa (q := 0) rfl rfl u33 rfl rfl) (Kq rfl (Ld rfl rfl .tc u31) ?_)
      refine Kq rfl (rd_len rfl rfl u31) (Kq rfl (rd_lss rfl rfl rfl) (Nt ?_))
      refine Cd rfl (fun hc65 => ?_) (fun hc65 => ?_)
      ·(try simp only [sB] at hc65)
       refine Cq ?_
       refine Cf [0, 1, 2, 3, 4, 5, 6, 7] [8, 9] [0, 0, 0, 0, 0, 0, 0, 0, 2, 2] (by kernel_rfl) (by kernel_rfl) rfl ?_
       refine Kj rfl (Fa (q := 0) rfl rfl u33 rfl rfl) (Kj rfl (Ld rfl rfl .tc u31) ?_)
       refine Kj rfl (Fa (q := 2) rfl rfl u33 rfl rfl) (Kj rfl (Ld rfl rfl .tc u3) ?_)
       refine Kj rfl (Ib rfl rfl rfl u31 (by omega) (by (rw [List.length_map]; omega))) ?_
       refine Kj rfl (ldm rfl rfl u22 rfl (by omega)) ?_
       refine Kj rfl (lda rfl rfl .tc u33 rfl ?_) ?_
       ·kernel_rfl
       refine Kj rfl (Ra rfl rfl) ?_
       refine WJ.nil ?_
       refine Nu rfl rfl (Sa rfl rfl rfl .tc) ?_
       refine Ka rfl (Nt (Ce (Xb ?_)))
       (exfalso; omega)
      ·(try simp only [sB] at hc65)
       have h27 : ¬ t.at_ < t.vals.length := by omega
       have h52 : ¬ (t.seed = [] ∨ t.at_ = 2147483647) := by (exfalso; omega)
       refine Ck (Xa (Cq (Cs (Km rfl (Nt (Cb ?_))))))
       refine Lp (σ := Nat) [(1, _), (2, _), (5, _), (7, _)] (fun gq => [(73, .int .i64 (gq : Int))]) (fun gq => gq ≤ 256 ∧ findA t n (256 - gq) gq = findA t n 256 0) (fun gq => 256 - gq) (0) (S4 rfl rfl rfl rfl) (S1 rfl) (by (try dsimp only); exact ⟨by omega, rfl⟩) ?_
       rintro k hinv1; (try dsimp only at hinv1 ⊢)
       obtain ⟨hk, hfi⟩ := hinv1
       refine Cs (Kq rfl (rd_lss rfl rfl rfl) (Nt (Cq ?_)))
       refine Cd rfl (fun hc74 => ?_) (fun hc74 => ?_)
       ·(try simp only [sB] at hc74)
        refine Ck (Xa (Cq (Cb (Cs (Km rfl (Ka rfl (Nt (Cq ?_))))))))
        refine Cf [2, 3, 0, 1, 4, 5] [] [0, 0, 0, 1, 1, 0] (by kernel_rfl) (by kernel_rfl) rfl ?_
        refine Kj rfl (Rm rfl rfl) ?_
        refine Jv rfl rfl rfl rfl rfl (fun ext => Oc rfl rfl (Kv fun w hS => bits_c (a := n))) ?_
        refine WJ.set 79 rfl (v' := .int .i64 ((bitsN n : Nat) : Int)) (congrArg (Value.int .i64) (by rw [if_pos hn])) ?_
        refine Kj rfl (lda rfl rfl .tc u33 rfl ?_) ?_
        ·kernel_rfl
        refine WJ.set 76 rfl (v' := .agg #[.slice a t.vals.length cap, .string (S t.seed), .int .i64 ((t.at_.toNat : Nat) : Int)]) (by rw [Int.toNat_of_nonneg hg1]) ?_
        refine Kj rfl (Rm rfl rfl) ?_
        refine Jv rfl rfl rfl rfl rfl (fun ext => Oc rfl rfl (Kv fun w hS => attempt_c (sd := t.seed) (at_ := t.at_.toNat) (aa := k) (nb := bitsN n) (by assumption) (by omega) (by omega) (by assumption) (by omega) (by (exact tab_st hT hS)))) ?_
        refine Kj rfl (Ra rfl rfl) ?_
        refine WJ.nil ?_
        refine Nt (Cs (Km rfl (Km rfl ?_)))
        refine Ku rfl (Oc rfl rfl (Kv fun w hS => Cmp_c (a := attS t.seed t.at_.toNat k (bitsN n)) (b := n))) ?_
        refine Kq rfl (rd_lss rfl rfl rfl) (Nt ?_)
        refine Cd rfl (fun hc84 => ?_) (fun hc84 => ?_)
        ·(try simp only [sB] at hc84)
         refine Cq ?_
         refine Cf [0, 1, 2] [3, 4] [0, 0, 0, 2, 2] (by kernel_rfl) (by kernel_rfl) rfl ?_
         refine Kj rfl (Rm rfl rfl) ?_
         refine Kj rfl (lda rfl rfl .tc u33 rfl ?_) ?_
         ·kernel_rfl
         refine Kj rfl (Ra rfl rfl) ?_
         refine WJ.nil ?_
         refine Nu rfl rfl (Sa rfl rfl rfl .tc) ?_
         refine Ka rfl (Nt (Ce (Xf (Xb (Xb (Xf (Xb ?_)))))))
         exact Rn rfl (.tmp rfl (.agg rfl .tc u33 rfl (by kernel_rfl) (.tmp rfl .nil))) fun w' hS => drawN (q := ⟨some b48, t.vals.length, []⟩) (by rw [drawS, if_neg h27, if_neg h52, ← hfi, findA_hit (by omega) hc84]) rfl hS (by simp [Rs.ent])
        ·(try simp only [sB] at hc84)
         refine Ck (Xd (Xa (Cg (Kq rfl (Rz rfl rfl rfl (by omega)) (Km rfl (Nn ?_))))))
         refine Ly (k + 1) (by (try dsimp only); omega) (S4 rfl rfl rfl rfl) (by refine (Sc ?_ (S0 _)) <;> (rfl)) ?_ (by (exact fun _ h => h))
         (try dsimp only)
         exact ⟨by omega, by rw [← findA_miss (by omega) (by omega)]; exact hfi⟩
       ·(try simp only [sB] at hc74)
        refine Cx (Xc (Xc (Xe ?_)))
        obtain rfl : k = 256 := by omega
        refine Xa (Cs (Kq rfl (Kb [[.slice none 0 0], [.string (S [])], [.int .i64 0]] rfl rfl) (Ka rfl ?_)))
        refine Nu rfl rfl (Sa rfl rfl rfl .tc) ?_
        refine Ka rfl (Nt (Ce ?_))
        exact Rn rfl (.tmp rfl (.agg rfl .tc u33 rfl (by kernel_rfl) (.tmp rfl .nil))) fun w' hS => draw0 (by rw [drawS, if_neg h27, if_neg h52, ← hfi]; rfl) hS
   ·(try simp only [sB] at hg34)
    refine Kt rfl (Kt rfl (Kt rfl (Kq rfl (Rq rfl rfl rfl) (Km rfl (Kq rfl (Fa (q := 2) rfl rfl u33 rfl rfl) (Kq rfl (Ld rfl rfl .tc u3) ?_))))))
    refine Kq rfl (rd_eql rfl rfl rfl) (Kq rfl (Rq rfl rfl rfl) (Nt ?_))
    refine Cd rfl (fun hc43 => ?_) (fun hc43 => ?_)
    ·(try simp only [sB] at hc43)
     refine Cs (Kq rfl (Kb [[.slice none 0 0], [.string (S [])], [.int .i64 0]] rfl rfl) (Ka rfl ?_))
     refine Nu rfl rfl (Sa rfl rfl rfl .tc) ?_
     refine Ka rfl (Nt (Ce (Xb ?_)))
     (exfalso; omega)
    ·(try simp only [sB] at hc43)
     refine Ck (Xa (Cq ?_))
     refine Cf [0, 1, 2, 3, 4, 5, 6, 7, 8, 9, 10] [11] [0, 0, 0, 3, 0, 0, 0, 0, 0, 0, 3, 2] (by kernel_rfl) (by kernel_rfl) rfl ?_
     refine Kj rfl (Fa (q := 0) rfl rfl u33 rfl rfl) (Kj rfl (Ld rfl rfl .tc u31) ?_)
     refine Kj rfl (rd_len rfl rfl u31) ?_
     refine Jf rfl rfl rfl rfl rfl (fr_mk rfl rfl rfl u31 (by kernel_rfl : _ = some (some (.string (S [])), 1, 16)) rfl ?_ (by (try simp only [sN, Int.reduceToNat, Nat.reduceAdd, Nat.reduceMul, Nat.reduceSub]); rfl) (by (try simp only [sN, Int.reduceToNat, Nat.reduceAdd, Nat.reduceMul, Nat.reduceSub]); rfl)) ?_
     ·omega
     intro b48
     refine Kj rfl (Fa (q := 1) rfl rfl u33 rfl rfl) (Kj rfl (Ld rfl rfl .tc u9) ?_)
     refine Kj rfl (Fa (q := 2) rfl rfl u33 rfl rfl) (Kj rfl (Ld rfl rfl .tc u3) ?_)
     refine Kj rfl (rd_add64 rfl rfl rfl (by omega)) (Kj rfl (Kb [[.slice none 0 0], [.string (S [])], [.int .i64 0]] rfl rfl) ?_)
     refine Jf rfl rfl rfl rfl rfl (fr_alloc rfl (v := (.agg #[.slice none 0 0, .string (S []), .int .i64 0])) (cs := [.slice none 0 0, .string (S []), .int .i64 0]) (by kernel_rfl) rfl) ?_
     intro b7
     refine WJ.nil ?_
     refine Nu rfl rfl (Sa rfl rfl rfl .tc) ?_
     refine Nt (Cs (Kq rfl (Fa (q := 0) rfl rfl u33 rfl rfl) (Kq rfl (Ld rfl rfl .tc u31) ?_)))
     refine Kq rfl (Fa (q := 0) rfl rfl u33 rfl rfl) (Kq rfl (Ld rfl rfl .tc u31) ?_)
     refine Kh rfl (cpyl rfl rfl rfl .tc u31 (by kernel_rfl) (m := t.vals.length) (by simp) (by simp) (fun w hS => hS.sl) (by intro u hu; obtain ⟨_, _, rfl⟩ := List.mem_map.1 hu; rfl) (by simp) (ys := strs t.vals) (by simp)) ?_
     intro _
     refine Nt (Cq (Cs (Kq rfl (Fa (q := 2) rfl rfl u33 rfl rfl) (Kq rfl (Ld rfl rfl .tc u3) ?_))))
     refine Kq rfl (Fa (q := 0) rfl rfl u33 rfl rfl) (Kq rfl (Ld rfl rfl .tc u31) ?_)
     refine Kq rfl (rd_len rfl rfl u31) (Kq rfl (rd_lss rfl rfl rfl) (Nt ?_))
     refine Cd rfl (fun hc65 => ?_) (fun hc65 => ?_)
     ·(try simp only [sB] at hc65)
      refine Cq ?_
      refine Cf [0, 1, 2, 3, 4, 5, 6, 7] [8, 9] [0, 0, 0, 0, 0, 0, 0, 0, 2, 2] (by kernel_rfl) (by kernel_rfl) rfl ?_
      refine Kj rfl (Fa (q := 0) rfl rfl u33 rfl rfl) (Kj rfl (Ld rfl rfl .tc u31) ?_)
      refine Kj rfl (Fa (q := 2) rfl rfl u33 rfl rfl) (Kj rfl (Ld rfl rfl .tc u3) ?_)
      refine Kj rfl (Ib rfl rfl rfl u31 (by omega) (by (rw [List.length_map]; omega))) ?_
      refine Kj rfl (ldm rfl rfl u22 rfl (by omega)) ?_
      refine Kj rfl (lda rfl rfl .tc u33 rfl ?_) ?_
      ·kernel_rfl
      refine Kj rfl (Ra rfl rfl) ?_
      refine WJ.nil ?_
      refine Nu rfl rfl (Sa rfl rfl rfl .tc) ?_
      refine Ka rfl (Nt (Ce (Xb ?_)))
      (exact Rn rfl (.tmp rfl (.agg rfl .tc u33 rfl (by kernel_rfl) (.tmp rfl .nil))) fun w' hS => drawN (q := ⟨some b48, t.vals.length, []⟩) (by rw [drawS, if_pos (by omega), if_neg (by omega)]) rfl hS (by simp [Rs.ent]))
     ·(try simp only [sB] at hc65)
      have h27 : ¬ t.at_ < t.vals.length := by omega
      have h52 : ¬ (t.seed = [] ∨ t.at_ = 2147483647) := by (exfalso; omega)
      refine Ck (Xa (Cq (Cs (Km rfl (Nt (Cb ?_))))))
      refine Lp (σ := Nat) [(1, _), (2, _), (5, _), (7, _)] (fun gq => [(73, .int .i64 (gq : Int))]) (fun gq => gq ≤ 256 ∧ findA t n (256 - gq) gq = findA t n 256 0) (fun gq => 256 - gq) (0) (S4 rfl rfl rfl rfl) (S1 rfl) (by (try dsimp only); exact ⟨by omega, rfl⟩) ?_
      rintro k hinv1; (try dsimp only at hinv1 ⊢)
      obtain ⟨hk, hfi⟩ := hinv1
      refine Cs (Kq rfl (rd_lss rfl rfl rfl) (Nt (Cq ?_)))
      refine Cd rfl (fun hc74 => ?_) (fun hc74 => ?_)
      ·(try simp only [sB] at hc74)
       refine Ck (Xa (Cq (Cb (Cs (Km rfl (Ka rfl (Nt (Cq ?_))))))))
       refine Cf [2, 3, 0, 1, 4, 5] [] [0, 0, 0, 1, 1, 0] (by kernel_rfl) (by kernel_rfl) rfl ?_
       refine Kj rfl (Rm rfl rfl) ?_
       refine Jv rfl rfl rfl rfl rfl (fun ext => Oc rfl rfl (Kv fun w hS => bits_c (a := n))) ?_
       refine WJ.set 79 rfl (v' := .int .i64 ((bitsN n : Nat) : Int)) (congrArg (Value.int .i64) (by rw [if_pos hn])) ?_
       refine Kj rfl (lda rfl rfl .tc u33 rfl ?_) ?_
       ·kernel_rfl
       refine WJ.set 76 rfl (v' := .agg #[.slice a t.vals.length cap, .string (S t.seed), .int .i64 ((t.at_.toNat : Nat) : Int)]) (by rw [Int.toNat_of_nonneg hg1]) ?_
       refine Kj rfl (Rm rfl rfl) ?_
       refine Jv rfl rfl rfl rfl rfl (fun ext => Oc rfl rfl (Kv fun w hS => attempt_c (sd := t.seed) (at_ := t.at_.toNat) (aa := k) (nb := bitsN n) (by assumption) (by omega) (by omega) (by assumption) (by omega) (by (exact tab_st hT hS)))) ?_
       refine Kj rfl (Ra rfl rfl) ?_
       refine WJ.nil ?_
       refine Nt (Cs (Km rfl (Km rfl ?_)))
       refine Ku rfl (Oc rfl rfl (Kv fun w hS => Cmp_c (a := attS t.seed t.at_.toNat k (bitsN n)) (b := n))) ?_
       refine Kq rfl (rd_lss rfl rfl rfl) (Nt ?_)
       refine Cd rfl (fun hc84 => ?_) (fun hc84 => ?_)
       ·(try simp only [sB] at hc84)
        refine Cq ?_
        refine Cf [0, 1, 2] [3, 4] [0, 0, 0, 2, 2] (by kernel_rfl) (by kernel_rfl) rfl ?_
        refine Kj rfl (Rm rfl rfl) ?_
        refine Kj rfl (lda rfl rfl .tc u33 rfl ?_) ?_
        ·kernel_rfl
        refine Kj rfl (Ra rfl rfl) ?_
        refine WJ.nil ?_
        refine Nu rfl rfl (Sa rfl rfl rfl .tc) ?_
        refine Ka rfl (Nt (Ce (Xf (Xb (Xb (Xf (Xb ?_)))))))
        exact Rn rfl (.tmp rfl (.agg rfl .tc u33 rfl (by kernel_rfl) (.tmp rfl .nil))) fun w' hS => drawN (q := ⟨some b48, t.vals.length, []⟩) (by rw [drawS, if_neg h27, if_neg h52, ← hfi, findA_hit (by omega) hc84]) rfl hS (by simp [Rs.ent])
       ·(try simp only [sB] at hc84)
        refine Ck (Xd (Xa (Cg (Kq rfl (Rz rfl rfl rfl (by omega)) (Km rfl (Nn ?_))))))
        refine Ly (k + 1) (by (try dsimp only); omega) (S4 rfl rfl rfl rfl) (by refine (Sc ?_ (S0 _)) <;> (rfl)) ?_ (by (exact fun _ h => h))
        (try dsimp only)
        exact ⟨by omega, by rw [← findA_miss (by omega) (by omega)]; exact hfi⟩
      ·(try simp only [sB] at hc74)
       refine Cx (Xc (Xc (Xe ?_)))
       obtain rfl : k = 256 := by omega
       refine Xa (Cs (Kq rfl (Kb [[.slice none 0 0], [.string (S [])], [.int .i64 0]] rfl rfl) (Ka rfl ?_)))
       refine Nu rfl rfl (Sa rfl rfl rfl .tc) ?_
       refine Ka rfl (Nt (Ce ?_))
       exact Rn rfl (.tmp rfl (.agg rfl .tc u33 rfl (by kernel_rfl) (.tmp rfl .nil))) fun w' hS => draw0 (by rw [drawS, if_neg h27, if_neg h52, ← hfi]; rfl) hS
 ·(try simp only [sB] at hg16)
  refine Kt rfl (Kt rfl (Kt rfl (Kt rfl (Kt rfl (Kt rfl (Kt rfl (Kt rfl (Kt rfl (Kq rfl (Rq rfl rfl rfl) (Nt ?_))))))))))
  refine Cd rfl (fun h => by cases h) (fun _ => ?_)
  refine Ck (Xa (Cq (Cs (Kq rfl (Fa (q := 2) rfl rfl u33 rfl rfl) (Kq rfl (Ld rfl rfl .tc u3) ?_)))))
  refine Kq rfl (Fa (q := 0) rfl rfl u33 rfl rfl) (Kq rfl (Ld rfl rfl .tc u31) ?_)
  refine Kq rfl (rd_len rfl rfl u31) (Kq rfl (rd_geq rfl rfl rfl) (Km rfl ?_))
  refine Nb 34 rfl (fun hg34 => ?_) (fun hg34 => ?_)
  ·(try simp only [sB] at hg34)
   refine Kq rfl (Fa (q := 1) rfl rfl u33 rfl rfl) (Kq rfl (Ld rfl rfl .tc u9) ?_)
   refine Kq rfl (rd_seq rfl rfl rfl) (Kq rfl (Rp rfl rfl rfl) (Km rfl ?_))
   refine Nb 39 rfl (fun hg39 => ?_) (fun hg39 => ?_)
   ·(try simp only [sB] at hg39)
    refine Kt rfl (Kt rfl (Kt rfl (Kq rfl (Rp rfl rfl rfl) (Nt ?_))))
    refine Cd rfl (fun _ => ?_) (fun h => by cases h)
    refine Cs (Kq rfl (Kb [[.slice none 0 0], [.string (S [])], [.int .i64 0]] rfl rfl) (Ka rfl ?_))
    refine Nu rfl rfl (Sa rfl rfl rfl .tc) ?_
    refine Ka rfl (Nt (Ce (Xb ?_)))
    (exact Rn rfl (.tmp rfl (.agg rfl .tc u33 rfl (by kernel_rfl) (.tmp rfl .nil))) fun w' hS => draw0 (by rw [drawS, if_neg (by omega), if_pos (by (left; assumption))]) hS)
   ·(try simp only [sB] at hg39)
    refine Kq rfl (Fa (q := 2) rfl rfl u33 rfl rfl) (Kq rfl (Ld rfl rfl .tc u3) ?_)
    refine Kq rfl (rd_eql rfl rfl rfl) (Kq rfl (Rq rfl rfl rfl) (Nt ?_))
    refine Cd rfl (fun hc43 => ?_) (fun hc43 => ?_)
    ·(try simp only [sB] at hc43)
     refine Cs (Kq rfl (Kb [[.slice none 0 0], [.string (S [])], [.int .i64 0]] rfl rfl) (Ka rfl ?_))
     refine Nu rfl rfl (Sa rfl rfl rfl .tc) ?_
     refine Ka rfl (Nt (Ce (Xb ?_)))
     (exact Rn rfl (.tmp rfl (.agg rfl .tc u33 rfl (by kernel_rfl) (.tmp rfl .nil))) fun w' hS => draw0 (by rw [drawS, if_neg (by omega), if_pos (by (right; omega))]) hS)
    ·(try simp only [sB] at hc43)
     refine Ck (Xa (Cq ?_))
     refine Cf [0, 1, 2, 3, 4, 5, 6, 7, 8, 9, 10] [11] [0, 0, 0, 3, 0, 0, 0, 0, 0, 0, 3, 2] (by kernel_rfl) (by kernel_rfl) rfl ?_
     refine Kj rfl (Fa (q := 0) rfl rfl u33 rfl rfl) (Kj rfl (Ld rfl rfl .tc u31) ?_)
     refine Kj rfl (rd_len rfl rfl u31) ?_
     refine Jf rfl rfl rfl rfl rfl (fr_mk rfl rfl rfl u31 (by kernel_rfl : _ = some (some (.string (S [])), 1, 16)) rfl ?_ (by (try simp only [sN, Int.reduceToNat, Nat.reduceAdd, Nat.reduceMul, Nat.reduceSub]); rfl) (by (try simp only [sN, Int.reduceToNat, Nat.reduceAdd, Nat.reduceMul, Nat.reduceSub]); rfl)) ?_
     ·omega
     intro b48
     refine Kj rfl (Fa (q := 1) rfl rfl u33 rfl rfl) (Kj rfl (Ld rfl rfl .tc u9) ?_)
     refine Kj rfl (Fa (q := 2) rfl rfl u33 rfl rfl) (Kj rfl (Ld rfl rfl .tc u3) ?_)
     refine Kj rfl (rd_add64 rfl rfl rfl (by omega)) (Kj rfl (Kb [[.slice none 0 0], [.string (S [])], [.int .i64 0]] rfl rfl) ?_)
     refine Jf rfl rfl rfl rfl rfl (fr_alloc rfl (v := (.agg #[.slice none 0 0, .string (S []), .int .i64 0])) (cs := [.slice none 0 0, .string (S []), .int .i64 0]) (by kernel_rfl) rfl) ?_
     intro b7
     refine WJ.nil ?_
     refine Nu rfl rfl (Sa rfl rfl rfl .tc) ?_
     refine Nt (Cs (Kq rfl (Fa (q := 0) rfl rfl u33 rfl rfl) (Kq rfl (Ld rfl rfl .tc u31) ?_)))
     refine Kq rfl (Fa (q := 0) rfl rfl u33 rfl rfl) (Kq rfl (Ld rfl rfl .tc u31) ?_)
     refine Kh rfl (cpyl rfl rfl rfl .tc u31 (by kernel_rfl) (m := t.vals.length) (by simp) (by simp) (fun w hS => hS.sl) (by intro u hu; obtain ⟨_, _, rfl⟩ := List.mem_map.1 hu; rfl) (by simp) (ys := strs t.vals) (by simp)) ?_
     intro _
     refine Nt (Cq (Cs (Kq rfl (Fa (q := 2) rfl rfl u33 rfl rfl) (Kq rfl (Ld rfl rfl .tc u3) ?_))))
     refine Kq rfl (Fa (q := 0) rfl rfl u33 rfl rfl) (Kq rfl (Ld rfl rfl .tc u31) ?_)
     refine Kq rfl (rd_len rfl rfl u31) (Kq rfl (rd_lss rfl rfl rfl) (Nt ?_))
     refine Cd rfl (fun hc65 => ?_) (fun hc65 => ?_)
     ·(try simp only [sB] at hc65)
      refine Cq ?_
      refine Cf [0, 1, 2, 3, 4, 5, 6, 7] [8, 9] [0, 0, 0, 0, 0, 0, 0, 0, 2, 2] (by kernel_rfl) (by kernel_rfl) rfl ?_
      refine Kj rfl (Fa (q := 0) rfl rfl u33 rfl rfl) (Kj rfl (Ld rfl rfl .tc u31) ?_)
      refine Kj rfl (Fa (q := 2) rfl rfl u33 rfl rfl) (Kj rfl (Ld rfl rfl .tc u3) ?_)
      refine Kj rfl (Ib rfl rfl rfl u31 (by omega) (by (rw [List.length_map]; omega))) ?_
      refine Kj rfl (ldm rfl rfl u22 rfl (by omega)) ?_
      refine Kj rfl (lda rfl rfl .tc u33 rfl ?_) ?_
      ·kernel_rfl
      refine Kj rfl (Ra rfl rfl) ?_
      refine WJ.nil ?_
      refine Nu rfl rfl (Sa rfl rfl rfl .tc) ?_
      refine Ka rfl (Nt (Ce (Xb ?_)))
      (exfalso; omega)
     ·(try simp only [sB] at hc65)
      have h27 : ¬ t.at_ < t.vals.length := by omega
      have h52 : ¬ (t.seed = [] ∨ t.at_ = 2147483647) := by (rintro (h | h) <;> contradiction)
      refine Ck (Xa (Cq (Cs (Km rfl (Nt (Cb ?_))))))
      refine Lp (σ := Nat) [(1, _), (2, _), (5, _), (7, _)] (fun gq => [(73, .int .i64 (gq : Int))]) (fun gq => gq ≤ 256 ∧ findA t n (256 - gq) gq = findA t n 256 0) (fun gq => 256 - gq) (0) (S4 rfl rfl rfl rfl) (S1 rfl) (by (try dsimp only); exact ⟨by omega, rfl⟩) ?_
      rintro k hinv1; (try dsimp only at hinv1 ⊢)
      obtain ⟨hk, hfi⟩ := hinv1
      refine Cs (Kq rfl (rd_lss rfl rfl rfl) (Nt (Cq ?_)))
      refine Cd rfl (fun hc74 => ?_) (fun hc74 => ?_)
      ·(try simp only [sB] at hc74)
       refine Ck (Xa (Cq (Cb (Cs (Km rfl (Ka rfl (Nt (Cq ?_))))))))
       refine Cf [2, 3, 0, 1, 4, 5] [] [0, 0, 0, 1, 1, 0] (by kernel_rfl) (by kernel_rfl) rfl ?_
       refine Kj rfl (Rm rfl rfl) ?_
       refine Jv rfl rfl rfl rfl rfl (fun ext => Oc rfl rfl (Kv fun w hS => bits_c (a := n))) ?_
       refine WJ.set 79 rfl (v' := .int .i64 ((bitsN n : Nat) : Int)) (congrArg (Value.int .i64) (by rw [if_pos hn])) ?_
       refine Kj rfl (lda rfl rfl .tc u33 rfl ?_) ?_
       ·kernel_rfl
       refine WJ.set 76 rfl (v' := .agg #[.slice a t.vals.length cap, .string (S t.seed), .int .i64 ((t.at_.toNat : Nat) : Int)]) (by rw [Int.toNat_of_nonneg hg1]) ?_
       refine Kj rfl (Rm rfl rfl) ?_
       refine Jv rfl rfl rfl rfl rfl (fun ext => Oc rfl rfl (Kv fun w hS => attempt_c (sd := t.seed) (at_ := t.at_.toNat) (aa := k) (nb := bitsN n) (by assumption) (by omega) (by omega) (by assumption) (by omega) (by (exact tab_st hT hS)))) ?_
       refine Kj rfl (Ra rfl rfl) ?_
       refine WJ.nil ?_
       refine Nt (Cs (Km rfl (Km rfl ?_)))
       refine Ku rfl (Oc rfl rfl (Kv fun w hS => Cmp_c (a := attS t.seed t.at_.toNat k (bitsN n)) (b := n))) ?_
       refine Kq rfl (rd_lss rfl rfl rfl) (Nt ?_)
       refine Cd rfl (fun hc84 => ?_) (fun hc84 => ?_)
       ·(try simp only [sB] at hc84)
        refine Cq ?_
        refine Cf [0, 1, 2] [3, 4] [0, 0, 0, 2, 2] (by kernel_rfl) (by kernel_rfl) rfl ?_
        refine Kj rfl (Rm rfl rfl) ?_
        refine Kj rfl (lda rfl rfl .tc u33 rfl ?_) ?_
        ·kernel_rfl
        refine Kj rfl (Ra rfl rfl) ?_
        refine WJ.nil ?_
        refine Nu rfl rfl (Sa rfl rfl rfl .tc) ?_
        refine Ka rfl (Nt (Ce (Xf (Xb (Xb (Xf (Xb ?_)))))))
        exact Rn rfl (.tmp rfl (.agg rfl .tc u33 rfl (by kernel_rfl) (.tmp rfl .nil))) fun w' hS => drawN (q := ⟨some b48, t.vals.length, []⟩) (by rw [drawS, if_neg h27, if_neg h52, ← hfi, findA_hit (by omega) hc84]) rfl hS (by simp [Rs.ent])
       ·(try simp only [sB] at hc84)
        refine Ck (Xd (Xa (Cg (Kq rfl (Rz rfl rfl rfl (by omega)) (Km rfl (Nn ?_))))))
        refine Ly (k + 1) (by (try dsimp only); omega) (S4 rfl rfl rfl rfl) (by refine (Sc ?_ (S0 _)) <;> (rfl)) ?_ (by (exact fun _ h => h))
        (try dsimp only)
        exact ⟨by omega, by rw [← findA_miss (by omega) (by omega)]; exact hfi⟩
      ·(try simp only [sB] at hc74)
       refine Cx (Xc (Xc (Xe ?_)))
       obtain rfl : k = 256 := by omega
       refine Xa (Cs (Kq rfl (Kb [[.slice none 0 0], [.string (S [])], [.int .i64 0]] rfl rfl) (Ka rfl ?_)))
       refine Nu rfl rfl (Sa rfl rfl rfl .tc) ?_
       refine Ka rfl (Nt (Ce ?_))
       exact Rn rfl (.tmp rfl (.agg rfl .tc u33 rfl (by kernel_rfl) (.tmp rfl .nil))) fun w' hS => draw0 (by rw [drawS, if_neg h27, if_neg h52, ← hfi]; rfl) hS
  ·(try simp only [sB] at hg34)
   refine Kt rfl (Kt rfl (Kt rfl (Kq rfl (Rq rfl rfl rfl) (Km rfl (Kq rfl (Fa (q := 2) rfl rfl u33 rfl rfl) (Kq rfl (Ld rfl rfl .tc u3) ?_))))))
   refine Kq rfl (rd_eql rfl rfl rfl) (Kq rfl (Rq rfl rfl rfl) (Nt ?_))
   refine Cd rfl (fun hc43 => ?_) (fun hc43 => ?_)
   ·(try simp only [sB] at hc43)
    refine Cs (Kq rfl (Kb [[.slice none 0 0], [.string (S [])], [.int .i64 0]] rfl rfl) (Ka rfl ?_))
    refine Nu rfl rfl (Sa rfl rfl rfl .tc) ?_
    refine Ka rfl (Nt (Ce (Xb ?_)))
    (exfalso; omega)
   ·(try simp only [sB] at hc43)
    refine Ck (Xa (Cq ?_))
    refine Cf [0, 1, 2, 3, 4, 5, 6, 7, 8, 9, 10] [11] [0, 0, 0, 3, 0, 0, 0, 0, 0, 0, 3, 2] (by kernel_rfl) (by kernel_rfl) rfl ?_
    refine Kj rfl (Fa (q := 0) rfl rfl u33 rfl rfl) (Kj rfl (Ld rfl rfl .tc u31) ?_)
    refine Kj rfl (rd_len rfl rfl u31) ?_
    refine Jf rfl rfl rfl rfl rfl (fr_mk rfl rfl rfl u31 (by kernel_rfl : _ = some (some (.string (S [])), 1, 16)) rfl ?_ (by (try simp only [sN, Int.reduceToNat, Nat.reduceAdd, Nat.reduceMul, Nat.reduceSub]); rfl) (by (try simp only [sN, Int.reduceToNat, Nat.reduceAdd, Nat.reduceMul, Nat.reduceSub]); rfl)) ?_
    ·omega
    intro b48
    refine Kj rfl (Fa (q := 1) rfl rfl u33 rfl rfl) (Kj rfl (Ld rfl rfl .tc u9) ?_)
    refine Kj rfl (Fa (q := 2) rfl rfl u33 rfl rfl) (Kj rfl (Ld rfl rfl .tc u3) ?_)
    refine Kj rfl (rd_add64 rfl rfl rfl (by omega)) (Kj rfl (Kb [[.slice none 0 0], [.string (S [])], [.int .i64 0]] rfl rfl) ?_)
    refine Jf rfl rfl rfl rfl rfl (fr_alloc rfl (v := (.agg #[.slice none 0 0, .string (S []), .int .i64 0])) (cs := [.slice none 0 0, .string (S []), .int .i64 0]) (by kernel_rfl) rfl) ?_
    intro b7
    refine WJ.nil ?_
    refine Nu rfl rfl (Sa rfl rfl rfl .tc) ?_
    refine Nt (Cs (Kq rfl (Fa (q := 0) rfl rfl u33 rfl rfl) (Kq rfl (Ld rfl rfl .tc u31) ?_)))
    refine Kq rfl (Fa (q := 0) rfl rfl u33 rfl rfl) (Kq rfl (Ld rfl rfl .tc u31) ?_)
    refine Kh rfl (cpyl rfl rfl rfl .tc u31 (by kernel_rfl) (m := t.vals.length) (by simp) (by simp) (fun w hS => hS.sl) (by intro u hu; obtain ⟨_, _, rfl⟩ := List.mem_map.1 hu; rfl) (by simp) (ys := strs t.vals) (by simp)) ?_
    intro _
    refine Nt (Cq (Cs (Kq rfl (Fa (q := 2) rfl rfl u33 rfl rfl) (Kq rfl (Ld rfl rfl .tc u3) ?_))))
    refine Kq rfl (Fa (q := 0) rfl rfl u33 rfl rfl) (Kq rfl (Ld rfl rfl .tc u31) ?_)
    refine Kq rfl (rd_len rfl rfl u31) (Kq rfl (rd_lss rfl rfl rfl) (Nt ?_))
    refine Cd rfl (fun hc65 => ?_) (fun hc65 => ?_)
    ·(try simp only [sB] at hc65)
     refine Cq ?_
     refine Cf [0, 1, 2, 3, 4, 5, 6, 7] [8, 9] [0, 0, 0, 0, 0, 0, 0, 0, 2, 2] (by kernel_rfl) (by kernel_rfl) rfl ?_
     refine Kj rfl (Fa (q := 0) rfl rfl u33 rfl rfl) (Kj rfl (Ld rfl rfl .tc u31) ?_)
     refine Kj rfl (Fa (q := 2) rfl rfl u33 rfl rfl) (Kj rfl (Ld rfl rfl .tc u3) ?_)
     refine Kj rfl (Ib rfl rfl rfl u31 (by omega) (by (rw [List.length_map]; omega))) ?_
     refine Kj rfl (ldm rfl rfl u22 rfl (by omega)) ?_
     refine Kj rfl (lda rfl rfl .tc u33 rfl ?_) ?_
     ·kernel_rfl
     refine Kj rfl (Ra rfl rfl) ?_
     refine WJ.nil ?_
     refine Nu rfl rfl (Sa rfl rfl rfl .tc) ?_
     refine Ka rfl (Nt (Ce (Xb ?_)))
     (exfalso; omega)
    ·(try simp only [sB] at hc65)
     have h27 : ¬ t.at_ < t.vals.length := by omega
     have h52 : ¬ (t.seed = [] ∨ t.at_ = 2147483647) := by (exfalso; omega)
     refine Ck (Xa (Cq (Cs (Km rfl (Nt (Cb ?_))))))
     refine Lp (σ := Nat) [(1, _), (2, _), (5, _), (7, _)] (fun gq => [(73, .int .i64 (gq : Int))]) (fun gq => gq ≤ 256 ∧ findA t n (256 - gq) gq = findA t n 256 0) (fun gq => 256 - gq) (0) (S4 rfl rfl rfl rfl) (S1 rfl) (by (try dsimp only); exact ⟨by omega, rfl⟩) ?_
     rintro k hinv1; (try dsimp only at hinv1 ⊢)
     obtain ⟨hk, hfi⟩ := hinv1
     refine Cs (Kq rfl (rd_lss rfl rfl rfl) (Nt (Cq ?_)))
     refine Cd rfl (fun hc74 => ?_) (fun hc74 => ?_)
     ·(try simp only [sB] at hc74)
      refine Ck (Xa (Cq (Cb (Cs (Km rfl (Ka rfl (Nt (Cq ?_))))))))
      refine Cf [2, 3, 0, 1, 4, 5] [] [0, 0, 0, 1, 1, 0] (by kernel_rfl) (by kernel_rfl) rfl ?_
      refine Kj rfl (Rm rfl rfl) ?_
      refine Jv rfl rfl rfl rfl rfl (fun ext => Oc rfl rfl (Kv fun w hS => bits_c (a := n))) ?_
      refine WJ.set 79 rfl (v' := .int .i64 ((bitsN n : Nat) : Int)) (congrArg (Value.int .i64) (by rw [if_pos hn])) ?_
      refine Kj rfl (lda rfl rfl .tc u33 rfl ?_) ?_
      ·kernel_rfl
      refine WJ.set 76 rfl (v' := .agg #[.slice a t.vals.length cap, .string (S t.seed), .int .i64 ((t.at_.toNat : Nat) : Int)]) (by rw [Int.toNat_of_nonneg hg1]) ?_
      refine Kj rfl (Rm rfl rfl) ?_
      refine Jv rfl rfl rfl rfl rfl (fun ext => Oc rfl rfl (Kv fun w hS => attempt_c (sd := t.seed) (at_ := t.at_.toNat) (aa := k) (nb := bitsN n) (by assumption) (by omega) (by omega) (by assumption) (by omega) (by (exact tab_st hT hS)))) ?_
      refine Kj rfl (Ra rfl rfl) ?_
      refine WJ.nil ?_
      refine Nt (Cs (Km rfl (Km rfl ?_)))
      refine Ku rfl (Oc rfl rfl (Kv fun w hS => Cmp_c (a := attS t.seed t.at_.toNat k (bitsN n)) (b := n))) ?_
      refine Kq rfl (rd_lss rfl rfl rfl) (Nt ?_)
      refine Cd rfl (fun hc84 => ?_) (fun hc84 => ?_)
      ·(try simp only [sB] at hc84)
       refine Cq ?_
       refine Cf [0, 1, 2] [3, 4] [0, 0, 0, 2, 2] (by kernel_rfl) (by kernel_rfl) rfl ?_
       refine Kj rfl (Rm rfl rfl) ?_
       refine Kj rfl (lda rfl rfl .tc u33 rfl ?_) ?_
       ·kernel_rfl
       refine Kj rfl (Ra rfl rfl) ?_
       refine WJ.nil ?_
       refine Nu rfl rfl (Sa rfl rfl rfl .tc) ?_
       refine Ka rfl (Nt (Ce (Xf (Xb (Xb (Xf (Xb ?_)))))))
       exact Rn rfl (.tmp rfl (.agg rfl .tc u33 rfl (by kernel_rfl) (.tmp rfl .nil))) fun w' hS => drawN (q := ⟨some b48, t.vals.length, []⟩) (by rw [drawS, if_neg h27, if_neg h52, ← hfi, findA_hit (by omega) hc84]) rfl hS (by simp [Rs.ent])
      ·(try simp only [sB] at hc84)
       refine Ck (Xd (Xa (Cg (Kq rfl (Rz rfl rfl rfl (by omega)) (Km rfl (Nn ?_))))))
       refine Ly (k + 1) (by (try dsimp only); omega) (S4 rfl rfl rfl rfl) (by refine (Sc ?_ (S0 _)) <;> (rfl)) ?_ (by (exact fun _ h => h))
       (try dsimp only)
       exact ⟨by omega, by rw [← findA_miss (by omega) (by omega)]; exact hfi⟩
     ·(try simp only [sB] at hc74)
      refine Cx (Xc (Xc (Xe ?_)))
      obtain rfl : k = 256 := by omega
      refine Xa (Cs (Kq rfl (Kb [[.slice none 0 0], [.string (S [])], [.int .i64 0]] rfl rfl) (Ka rfl ?_)))
      refine Nu rfl rfl (Sa rfl rfl rfl .tc) ?_
      refine Ka rfl (Nt (Ce ?_))
      exact Rn rfl (.tmp rfl (.agg rfl .tc u33 rfl (by kernel_rfl) (.tmp rfl .nil))) fun w' hS => draw0 (by rw [drawS, if_neg h27, if_neg h52, ← hfi]; rfl) hS
def readyS (t : Tp) (n : Bs) : Int := if goodT t ∧ okN n then (if n = [] then 11 else 0) else 3
theorem tready_c {t : Tp} {n : Bs} {a : Option Addr} {cap : Nat} {w : World} {ok : Nat → Prop} (hF1 : (Fact.sl a (strs t.vals)).holds ok w) (hl : t.vals.length ≤ 100000) :
  Cw 100 #[t.v (.slice a t.vals.length cap), .string (S n)] w (.int .i64 (readyS t n)) := by
 refine En [Fact.sl a (strs t.vals)] [(0, t.v (.slice a t.vals.length cap)), (1, .string (S n))] Tryz.func100 rfl Tryz.ntmps100 rfl (Ac rfl (Ac rfl (An _))) (Fc (fact_any hF1) Fn) ?_
 refine Cs ?_
 refine Kh rfl (Oy rfl rfl) ?_
 intro b2
 refine Ka rfl (Nt (Cq (Cs ?_)))
 refine Kq rfl (lda rfl rfl .tc u33 rfl ?_) ?_
 ·kernel_rfl
 refine Ku rfl (Oc rfl rfl (Kv fun w hS => good_c (t := t) (by (exact hS.sl)) (by omega))) ?_
 refine Kq rfl (Rt rfl rfl) (Km rfl ?_)
 refine Nb 8 rfl (fun hg8 => ?_) (fun hg8 => ?_)
 ·(try simp only [sB] at hg8)
  refine Kt rfl (Kt rfl (Kt rfl (Kq rfl (Rp rfl rfl rfl) (Nt ?_))))
  refine Cd rfl (fun _ => ?_) (fun h => by cases h)
  refine Cs (Ka rfl (Nt (Ce (Xb ?_))))
  exact R1 rfl rfl (by rw [readyS, if_neg (by simp_all)]; rfl)
 ·(try simp only [sB] at hg8)
  refine Km rfl ?_
  refine Ku rfl (Oc rfl rfl (Kv fun w hS => valid_c)) ?_
  refine Kq rfl (Rt rfl rfl) (Kq rfl (Rq rfl rfl rfl) (Nt ?_))
  refine Cd rfl (fun hc12 => ?_) (fun hc12 => ?_)
  ·(try simp only [sB] at hc12)
   refine Cs (Ka rfl (Nt (Ce (Xb ?_))))
   exact R1 rfl rfl (by rw [readyS, if_neg (by simp_all)]; rfl)
  ·(try simp only [sB] at hc12)
   have hgn : goodT t ∧ okN n := by simp_all
   refine Ck (Xa (Cq (Cs (Km rfl (Kq rfl (rd_seq rfl rfl rfl) (Nt ?_))))))
   refine Cd rfl (fun hc14 => ?_) (fun hc14 => ?_)
   ·(try simp only [sB] at hc14)
    refine Cs (Ka rfl (Nt (Ce (Xb ?_))))
    exact R1 rfl rfl (by rw [readyS, if_pos hgn, if_pos (by simpa using hc14)]; rfl)
   ·(try simp only [sB] at hc14)
    refine Ck (Xa (Cs (Ka rfl (Nt (Ce ?_)))))
    exact R1 rfl rfl (by rw [readyS, if_pos hgn, if_neg (by simpa using hc14)]; rfl)
def belowS (t : Tp) (n : Bs) : Bs × Tp × Int := if readyS t n ≠ 0 then ([], zeroT, readyS t n) else drawS t n
theorem ready_ok {t : Tp} {n : Bs} (h : readyS t n = 0) : goodT t ∧ okN n ∧ n ≠ [] := by
 unfold readyS at h
 split at h
 ·rename_i h1
  split at h
  ·cases h
  ·rename_i h2; exact ⟨h1.1, h1.2, h2⟩
 ·cases h
theorem below_c {t : Tp} {n : Bs} {a : Option Addr} {cap : Nat} {w : World} {ok : Nat → Prop} (hF1 : (Fact.sl a (strs t.vals)).holds ok w) (hl : t.vals.length ≤ 100000) (hsd : t.seed.length ≤ 400000) (hT : Tab w) :
  Calls Tryz.prog 48 #[t.v (.slice a t.vals.length cap), .string (S n)] w fun e w' => ∃ g : Rs, e = .returned (.tuple #[.string (S (belowS t n).1), (belowS t n).2.1.v (g.val (belowS t n).2.1.vals.length), .int .i64 (belowS t n).2.2]) ∧ g.cap = (belowS t n).2.1.vals.length + g.sp.length ∧ St (fun _ => True) w [g.ent (strs (belowS t n).2.1.vals) 22] [] w' := by
 refine En [Fact.sl a (strs t.vals)] [(0, t.v (.slice a t.vals.length cap)), (1, .string (S n))] Tryz.func48 rfl Tryz.ntmps48 rfl (Ac rfl (Ac rfl (An _))) (Fc (fact_any hF1) Fn) ?_
 refine Cs ?_
 refine Kh rfl (Oy rfl rfl) ?_
 intro b2
 refine Ka rfl ?_
 refine Kh rfl (Oz [.slice none 0 0, .string (S []), .int .i64 0] rfl) ?_
 intro b5
 refine Ka rfl (Nt (Cq (Cs ?_)))
 refine Kq rfl (lda rfl rfl .tc u33 rfl ?_) ?_
 ·kernel_rfl
 refine Km rfl ?_
 refine Ku rfl (Oc rfl rfl (Kv fun w hS => tready_c (t := t) (n := n) (by (exact hS.sl)) (by assumption))) ?_
 refine Ka rfl (Nt (Cs (Km rfl (Kq rfl (rd_neq rfl rfl rfl) (Nt ?_)))))
 refine Cd rfl (fun hc12 => ?_) (fun hc12 => ?_)
 ·(try simp only [sB] at hc12)
  have hr : belowS t n = ([], zeroT, readyS t n) := by rw [belowS, if_pos (by simpa using hc12)]
  refine Cs (Kq rfl (Kb [[.slice none 0 0], [.string (S [])], [.int .i64 0]] rfl rfl) (Km rfl (Ka rfl ?_)))
  refine Nu rfl rfl (Sa rfl rfl rfl .tc) ?_
  refine Ka rfl (Nt (Ce (Xb ?_)))
  exact Rn rfl (.tmp rfl (.agg rfl .tc u33 rfl (by kernel_rfl) (.tmp rfl .nil))) fun w' hS => draw0 hr hS
 ·(try simp only [sB] at hc12)
  have hrd : readyS t n = 0 := by simpa using hc12
  have hr : belowS t n = drawS t n := by rw [belowS, if_neg (by simp [hrd])]
  obtain ⟨k1, k2, k3⟩ := ready_ok hrd
  refine Ck (Xa (Cs ?_))
  refine Kq rfl (lda rfl rfl .tc u33 rfl ?_) ?_
  ·kernel_rfl
  refine Km rfl ?_
  refine Kh rfl (Oc rfl rfl (keep_o1 fun w hS => draw_c (t := t) (n := n) (by (exact hS.sl)) (by assumption) (by assumption) (by assumption) (by assumption) (by assumption) (by (exact tab_st hT hS)))) ?_
  intro g17
  refine WL.pu ?_
  intro hg17; (try dsimp only at hg17 ⊢)
  refine Kq rfl (Re rfl rfl rfl) (Kq rfl (Re rfl rfl rfl) (Kq rfl (Re rfl rfl rfl) (Ka rfl ?_)))
  refine Nu rfl rfl (Sa rfl rfl rfl .tc) ?_
  refine Ka rfl (Nt (Ce ?_))
  exact Rn rfl (.tmp rfl (.agg rfl .tc u33 rfl (by kernel_rfl) (.tmp rfl .nil))) fun w' hS => ⟨g17, by rw [hr]; rfl, by rw [hr]; exact hg17, by rw [hr]; exact st_sub _ hS⟩
theorem rbelow_c {t : Tp} {n : Bs} {a : Option Addr} {cap : Nat} {w : World} {ok : Nat → Prop} (hF1 : (Fact.sl a (strs t.vals)).holds ok w) (hl : t.vals.length ≤ 100000) (hsd : t.seed.length ≤ 400000) :
  Calls Tryz.prog 52 #[t.v (.slice a t.vals.length cap), .string (S n)] w fun e w' => ∃ g : Rs, e = .returned (.tuple #[.string (S (belowS t n).1), (belowS t n).2.1.v (g.val (belowS t n).2.1.vals.length), .int .i64 (belowS t n).2.2]) ∧ g.cap = (belowS t n).2.1.vals.length + g.sp.length ∧ St (fun _ => True) w [g.ent (strs (belowS t n).2.1.vals) 22] [] w' := by
 refine En [Fact.sl a (strs t.vals)] [(0, t.v (.slice a t.vals.length cap)), (1, .string (S n))] Tryz.func52 rfl Tryz.ntmps52 rfl (Ac rfl (Ac rfl (An _))) (Fc (fact_any hF1) Fn) ?_
 refine Cs ?_
 refine Kh rfl (Oy rfl rfl) ?_
 intro b2
 refine Ka rfl ?_
 refine Kh rfl (Oz [.slice none 0 0, .string (S []), .int .i64 0] rfl) ?_
 intro b5
 refine Ka rfl (Nt (Cq (Cs ?_)))
 refine Kq rfl (lda rfl rfl .tc u33 rfl ?_) ?_
 ·kernel_rfl
 refine Ku rfl (Oc rfl rfl (Kv fun w hS => rtgood_c (t := t) (by (exact hS.sl)) (by omega))) ?_
 refine Kq rfl (Rt rfl rfl) (Km rfl ?_)
 refine Nb 10 rfl (fun hg10 => ?_) (fun hg10 => ?_)
 ·(try simp only [sB] at hg10)
  refine Kt rfl (Kt rfl (Kt rfl (Kq rfl (Rp rfl rfl rfl) (Nt ?_))))
  refine Cd rfl (fun _ => ?_) (fun h => by cases h)
  refine Cs (Kq rfl (Kb [[.slice none 0 0], [.string (S [])], [.int .i64 0]] rfl rfl) (Ka rfl ?_))
  refine Nu rfl rfl (Sa rfl rfl rfl .tc) ?_
  refine Ka rfl (Nt (Ce (Xb ?_)))
  exact Rn rfl (.tmp rfl (.agg rfl .tc u33 rfl (by kernel_rfl) (.tmp rfl .nil))) fun w' hS => draw0 (by rw [belowS, show readyS t n = 3 from by rw [readyS, if_neg (by simp_all)], if_pos (by decide)]) hS
 ·(try simp only [sB] at hg10)
  refine Km rfl ?_
  refine Ku rfl (Oc rfl rfl (Kv fun w hS => rvalid_c)) ?_
  refine Kq rfl (Rt rfl rfl) (Kq rfl (Rq rfl rfl rfl) (Nt ?_))
  refine Cd rfl (fun hc14 => ?_) (fun hc14 => ?_)
  ·(try simp only [sB] at hc14)
   refine Cs (Kq rfl (Kb [[.slice none 0 0], [.string (S [])], [.int .i64 0]] rfl rfl) (Ka rfl ?_))
   refine Nu rfl rfl (Sa rfl rfl rfl .tc) ?_
   refine Ka rfl (Nt (Ce (Xb ?_)))
   exact Rn rfl (.tmp rfl (.agg rfl .tc u33 rfl (by kernel_rfl) (.tmp rfl .nil))) fun w' hS => draw0 (by rw [belowS, show readyS t n = 3 from by rw [readyS, if_neg (by simp_all)], if_pos (by decide)]) hS
  ·(try simp only [sB] at hc14)
   have hgn : goodT t ∧ okN n := by simp_all
   refine Ck (Xa (Cq (Cs (Km rfl (Kq rfl (rd_seq rfl rfl rfl) (Nt ?_))))))
   refine Cd rfl (fun hc17 => ?_) (fun hc17 => ?_)
   ·(try simp only [sB] at hc17)
    refine Cs (Kq rfl (Kb [[.slice none 0 0], [.string (S [])], [.int .i64 0]] rfl rfl) (Ka rfl ?_))
    refine Nu rfl rfl (Sa rfl rfl rfl .tc) ?_
    refine Ka rfl (Nt (Ce (Xb ?_)))
    exact Rn rfl (.tmp rfl (.agg rfl .tc u33 rfl (by kernel_rfl) (.tmp rfl .nil))) fun w' hS => draw0 (by rw [belowS, show readyS t n = 11 from by rw [readyS, if_pos hgn, if_pos (by simpa using hc17)], if_pos (by decide)]) hS
   ·(try simp only [sB] at hc17)
    have k3 : n ≠ [] := by simpa using hc17
    have hr : belowS t n = drawS t n := by rw [belowS, show readyS t n = 0 from by rw [readyS, if_pos hgn, if_neg k3], if_neg (by simp)]
    have k1 := hgn.1; have k2 := hgn.2
    refine Ck (Xa (Cs ?_))
    refine Kq rfl (lda rfl rfl .tc u33 rfl ?_) ?_
    ·kernel_rfl
    refine Km rfl ?_
    refine Kh rfl (Oc rfl rfl (keep_o1 fun w hS => rdraw_c (t := t) (n := n) (by (exact hS.sl)) (by assumption) (by assumption) (by assumption) (by assumption) (by assumption))) ?_
    intro g21
    refine WL.pu ?_
    intro hg21; (try dsimp only at hg21 ⊢)
    refine Kq rfl (Re rfl rfl rfl) (Kq rfl (Re rfl rfl rfl) (Kq rfl (Re rfl rfl rfl) (Ka rfl ?_)))
    refine Nu rfl rfl (Sa rfl rfl rfl .tc) ?_
    refine Ka rfl (Nt (Ce ?_))
    exact Rn rfl (.tmp rfl (.agg rfl .tc u33 rfl (by kernel_rfl) (.tmp rfl .nil))) fun w' hS => ⟨g21, by rw [hr]; rfl, by rw [hr]; exact hg21, by rw [hr]; exact st_sub _ hS⟩
theorem cmpN_oklE {a b : Bs} (h : cmpN a b < 0) : okN a := by
 unfold cmpN at h; split at h
 ·rename_i h1; exact h1.1
 ·omega
theorem findA_okNE {t : Tp} {n : Bs} : ∀ (f a : Nat) (x : Bs), findA t n f a = some x → okN x
 | 0, a, x, h => by cases h
 | f + 1, a, x, h => by
  unfold findA at h; split at h
  ·rename_i h1; injection h with h; subst h; exact cmpN_oklE h1
  ·exact findA_okNE f (a + 1) x h
theorem draw_okNE {t : Tp} {n : Bs} (hg : goodT t) (h : (drawS t n).2.2 = 0) : okN (drawS t n).1 := by
 unfold drawS at h ⊢
 split
 ·rename_i h1
  rw [if_pos h1] at h
  split
  ·rename_i h2; rw [if_pos h2] at h; cases h
  ·exact hg.2.2 _ (getD_memB _ _ (by have := hg.1; omega))
 ·rename_i h1
  rw [if_neg h1] at h
  split
  ·rename_i h2; rw [if_pos h2] at h; cases h
  ·rename_i h2
   rw [if_neg h2] at h
   cases hf : findA t n 256 0 with
   | none => rw [hf] at h; cases h
   | some x => exact findA_okNE _ _ _ hf
theorem findA_ltE {t : Tp} {n : Bs} : ∀ (f a : Nat) (x : Bs), findA t n f a = some x → cmpN x n < 0
 | 0, a, x, h => by cases h
 | f + 1, a, x, h => by
  unfold findA at h; split at h
  ·rename_i h1; injection h with h; subst h; exact h1
  ·exact findA_ltE f (a + 1) x h
theorem draw_ltE {t : Tp} {n : Bs} (h : (drawS t n).2.2 = 0) : cmpN (drawS t n).1 n < 0 := by
 unfold drawS at h ⊢
 split
 ·rename_i h1
  rw [if_pos h1] at h
  split
  ·rename_i h2; rw [if_pos h2] at h; cases h
  ·rename_i h2; show cmpN (t.vals.getD t.at_.toNat default) n < 0; omega
 ·rename_i h1
  rw [if_neg h1] at h
  split
  ·rename_i h2; rw [if_pos h2] at h; cases h
  ·rename_i h2
   rw [if_neg h2] at h
   cases hf : findA t n 256 0 with
   | none => rw [hf] at h; cases h
   | some x => exact findA_ltE _ _ _ hf
theorem below_okN {t : Tp} {n : Bs} (h : (belowS t n).2.2 = 0) (ht : goodT t) (hn : okN n) : okN (belowS t n).1 ∧ val (belowS t n).1 < val n := by
 unfold belowS at h ⊢; split at h
 ·rename_i h1; exact absurd h h1
 ·rename_i h1; rw [if_neg h1]
  have a := draw_okNE ht h; have b := draw_ltE h
  rw [cmpN_ok a hn, cmpI_neg] at b; exact ⟨a, b⟩
def rndS (k : PK) (m : Zs) (v : Bs) (t : Tp) : (Bs × Opn × Tp) × Int :=
 if ¬ (okK k ∧ okN v ∧ okZ m ∧ goodT t) then (([], ((false, []), (false, [])), zeroT), 3)
 else if chkI k ≠ 0 then (([], ((false, []), (false, [])), zeroT), chkI k)
 else if (belowS t v).2.2 ≠ 0 then (([], ((false, []), (false, [])), zeroT), (belowS t v).2.2)
 else (((comS k (m, fromZ (belowS t v).1)).1, (m, fromZ (belowS t v).1), (belowS t v).2.1), 0)
theorem rnd_com {k : PK} {m : Zs} {r : Bs} (hk : chkI k = 0) (hm : okZ m) (hr : okN r) : (comS k (m, fromZ r)).2 = 0 := by
 obtain ⟨hok, hg, hel, _⟩ := chkI_ok hk
 have hz : okZ (false, r) := ⟨hr, fun h => by cases h.1⟩
 have hkk : chkK k = 0 := by
  unfold chkI at hk; split at hk
  ·exact hk
  ·rename_i h1; exact Decidable.not_not.1 h1
 rw [fromZ_ok hr, comS, if_neg (fun h => h ⟨hok, hm, hz⟩), if_neg (fun h => h hkk)]
 rw [prodS_two hg hel.1 hel.2.1 hm hz]
def ixP {α : Type} (p : α → Bool) (l : List α) : Int := if l.any p = true then (l.findIdx p : Int) else -1
theorem ixP_nonneg {α : Type} {p : α → Bool} {l : List α} : decide (ixP p l ≥ 0) = l.any p := by
 rw [ixP]; split
 ·rename_i h; simp [h]
 ·rename_i h; simpa using h
theorem ixP_none {α : Type} {p : α → Bool} {l : List α} (h : ∀ x ∈ l, p x = false) : ixP p l = -1 := by
 rw [ixP, if_neg (by simpa using h)]
theorem ixP_at {α : Type} [Inhabited α] {p : α → Bool} {l : List α} {i : Nat} (hi : i < l.length) (h0 : ∀ x ∈ l.take i, p x = false) (h1 : p (l.getD i default) = true) : ixP p l = i := by
 have e : l.getD i default = l[i] := by rw [List.getD_eq_getElem?_getD, List.getElem?_eq_getElem hi]; rfl
 rw [ixP, if_pos (List.any_eq_true.2 ⟨_, getD_mem l i hi, h1⟩)]
 congr 1
 rw [List.findIdx_eq hi]
 refine ⟨by rw [← e]; exact h1, fun j hj => ?_⟩
 exact h0 _ (List.mem_take_iff_getElem.2 ⟨j, by omega, rfl⟩)
theorem fncall (v : Value) (cs : Array Value) : (#[] : Array Value) ++ [v].toArray ++ cs = #[v] ++ cs := by simp
theorem ixT_c {l : List Tm} {a : Option Addr} {c : Nat} {fk : FuncId} {cs : Array Value} {p : Tm → Bool} {w : World} {ok : Nat → Prop} (hF1 : (Fact.sl a (l.flatMap tmC)).holds ok w) (hl : l.length ≤ 100000) (hgo : goes Tryz.prog fk = true) (hfn : ∀ x ∈ l, ∀ w', Below w.heap.size w w' → Calls Tryz.prog fk (#[.agg (tmC x).toArray] ++ cs) w' fun e w2 => e = .returned (.bool (p x)) ∧ Below w'.heap.size w' w2) :
  Cw 243 #[.slice a l.length c, .func (.func fk) #[] cs] w (.int .i64 (ixP p l)) := by
 refine En [Fact.sl a (l.flatMap tmC)] [(0, .slice a l.length c), (1, .func (.func fk) #[] cs)] Tryz.func243 rfl Tryz.ntmps243 rfl (Ac rfl (Ac rfl (An _))) (Fc (fact_any hF1) Fn) ?_
 refine Cs (Ka rfl (Nt (Cq (Cs (Km rfl (Kq rfl (rd_len rfl rfl u121) (Km rfl (Nt (Cb ?_)))))))))
 refine Lp (σ := Nat) [(0, _), (1, _), (7, _)] (fun gq => [(8, .int .i64 (gq : Int))]) (fun gq => gq ≤ l.length ∧ ∀ x ∈ l.take gq, p x = false) (fun gq => l.length - gq) (0) (S3 rfl rfl rfl) (S1 rfl) (by (try dsimp only); exact ⟨Nat.zero_le _, by simp⟩) ?_
 rintro i hinv1; (try dsimp only at hinv1 ⊢)
 obtain ⟨hi, hok⟩ := hinv1
 refine Cs (Kq rfl (rd_lss rfl rfl rfl) (Nt (Cq ?_)))
 refine Cd rfl (fun hc9 => ?_) (fun hc9 => ?_)
 ·(try simp only [sB] at hc9)
  have hil : i < l.length := by omega
  refine Ck (Xa (Cq (Cb (Cs (Km rfl (Ka rfl (Nt (Cs (Km rfl (Km rfl (Km rfl ?_)))))))))))
  refine Kq rfl (Ia rfl rfl rfl u121 (by kernel_rfl : _ = some 4) (by omega) (by (rw [flatMap_len _ _ 4 (fun _ => rfl)]; omega))) ?_
  refine Kq rfl (ldma _ rfl rfl u119 rfl (by kernel_rfl : _ = some 4) (fun _ => rfl) (by decide) rfl (by assumption)) ?_
  refine Ku rfl (og_callv rfl rfl rfl hgo (fncall _ _) (Kv fun w hS => hfn (l.getD i default) (getD_mem _ _ hil) w hS.below)) ?_
  refine Nt ?_
  refine Cd rfl (fun hc16 => ?_) (fun hc16 => ?_)
  ·(try simp only [sB] at hc16)
   refine Cs (Km rfl (Ka rfl (Nt (Ce (Xf (Xb (Xb (Xf (Xb ?_)))))))))
   exact R1 rfl rfl (by rw [ixP_at hil hok (by simpa using hc16)]; rfl)
  ·(try simp only [sB] at hc16)
   refine Ck (Xd (Xa (Cg (Kq rfl (Rz rfl rfl rfl (by omega)) (Km rfl (Nn ?_))))))
   refine Ly (i + 1) (by (try dsimp only); omega) (S3 rfl rfl rfl) (by refine (Sc ?_ (S0 _)) <;> (rfl)) ?_ (by (exact fun _ h => h))
   (try dsimp only)
   exact ⟨hil, all_take hil hok (by simpa using hc16)⟩
 ·(try simp only [sB] at hc9)
  refine Cx (Xc (Xc (Xe ?_)))
  obtain rfl : i = l.length := by omega
  rw [List.take_length] at hok
  refine Xa (Cs (Ka rfl (Nt (Ce ?_))))
  exact R1 rfl rfl (by rw [ixP_none hok]; rfl)
theorem cfT_c {l : List Tm} {a : Option Addr} {c : Nat} {fk : FuncId} {cs : Array Value} {p : Tm → Bool} {w : World} {ok : Nat → Prop} (hF1 : (Fact.sl a (l.flatMap tmC)).holds ok w) (hl : l.length ≤ 100000) (hgo : goes Tryz.prog fk = true) (hfn : ∀ x ∈ l, ∀ w', Below w.heap.size w w' → Calls Tryz.prog fk (#[.agg (tmC x).toArray] ++ cs) w' fun e w2 => e = .returned (.bool (p x)) ∧ Below w'.heap.size w' w2) :
  Cw 217 #[.slice a l.length c, .func (.func fk) #[] cs] w (.bool (l.any p)) := by
 refine En [Fact.sl a (l.flatMap tmC)] [(0, .slice a l.length c), (1, .func (.func fk) #[] cs)] Tryz.func217 rfl Tryz.ntmps217 rfl (Ac rfl (Ac rfl (An _))) (Fc (fact_any hF1) Fn) ?_
 refine Cs (Ka rfl (Nt (Cs (Km rfl (Km rfl ?_)))))
 refine Ku rfl (Oc rfl rfl (Kv fun w hS => ixT_c (fk := fk) (cs := cs) (p := p) (by (exact hS.sl)) (by exact hl) (by exact hgo) (by exact fun x hx w' hb => hfn x hx w' (hS.below.trans (hb.mono hS.below.size))))) ?_
 refine Kq rfl (rd_geq rfl rfl rfl) (Ka rfl (Nt (Ce ?_)))
 exact R1 rfl rfl (by rw [ixP_nonneg]; rfl)
theorem ixQ_c {l : List QA} {a : Option Addr} {c : Nat} {fk : FuncId} {cs : Array Value} {p : QA → Bool} {w : World} {ok : Nat → Prop} (hF1 : (Fact.sl a (l.flatMap qaC)).holds ok w) (hl : l.length ≤ 100000) (hgo : goes Tryz.prog fk = true) (hfn : ∀ x ∈ l, ∀ w', Below w.heap.size w w' → Calls Tryz.prog fk (#[.agg (qaC x).toArray] ++ cs) w' fun e w2 => e = .returned (.bool (p x)) ∧ Below w'.heap.size w' w2) :
  Cw 242 #[.slice a l.length c, .func (.func fk) #[] cs] w (.int .i64 (ixP p l)) := by
 refine En [Fact.sl a (l.flatMap qaC)] [(0, .slice a l.length c), (1, .func (.func fk) #[] cs)] Tryz.func242 rfl Tryz.ntmps242 rfl (Ac rfl (Ac rfl (An _))) (Fc (fact_any hF1) Fn) ?_
 refine Cs (Ka rfl (Nt (Cq (Cs (Km rfl (Kq rfl (rd_len rfl rfl u50) (Km rfl (Nt (Cb ?_)))))))))
 refine Lp (σ := Nat) [(0, _), (1, _), (7, _)] (fun gq => [(8, .int .i64 (gq : Int))]) (fun gq => gq ≤ l.length ∧ ∀ x ∈ l.take gq, p x = false) (fun gq => l.length - gq) (0) (S3 rfl rfl rfl) (S1 rfl) (by (try dsimp only); exact ⟨Nat.zero_le _, by simp⟩) ?_
 rintro i hinv1; (try dsimp only at hinv1 ⊢)
 obtain ⟨hi, hok⟩ := hinv1
 refine Cs (Kq rfl (rd_lss rfl rfl rfl) (Nt (Cq ?_)))
 refine Cd rfl (fun hc9 => ?_) (fun hc9 => ?_)
 ·(try simp only [sB] at hc9)
  have hil : i < l.length := by omega
  refine Ck (Xa (Cq (Cb (Cs (Km rfl (Ka rfl (Nt (Cs (Km rfl (Km rfl (Km rfl ?_)))))))))))
  refine Kq rfl (Ia rfl rfl rfl u50 (by kernel_rfl : _ = some 3) (by omega) (by (rw [flatMap_len _ _ 3 (fun _ => rfl)]; omega))) ?_
  refine Kq rfl (ldma _ rfl rfl u123 rfl (by kernel_rfl : _ = some 3) (fun _ => rfl) (by decide) rfl (by assumption)) ?_
  refine Ku rfl (og_callv rfl rfl rfl hgo (fncall _ _) (Kv fun w hS => hfn (l.getD i default) (getD_mem _ _ hil) w hS.below)) ?_
  refine Nt ?_
  refine Cd rfl (fun hc16 => ?_) (fun hc16 => ?_)
  ·(try simp only [sB] at hc16)
   refine Cs (Km rfl (Ka rfl (Nt (Ce (Xf (Xb (Xb (Xf (Xb ?_)))))))))
   exact R1 rfl rfl (by rw [ixP_at hil hok (by simpa using hc16)]; rfl)
  ·(try simp only [sB] at hc16)
   refine Ck (Xd (Xa (Cg (Kq rfl (Rz rfl rfl rfl (by omega)) (Km rfl (Nn ?_))))))
   refine Ly (i + 1) (by (try dsimp only); omega) (S3 rfl rfl rfl) (by refine (Sc ?_ (S0 _)) <;> (rfl)) ?_ (by (exact fun _ h => h))
   (try dsimp only)
   exact ⟨hil, all_take hil hok (by simpa using hc16)⟩
 ·(try simp only [sB] at hc9)
  refine Cx (Xc (Xc (Xe ?_)))
  obtain rfl : i = l.length := by omega
  rw [List.take_length] at hok
  refine Xa (Cs (Ka rfl (Nt (Ce ?_))))
  exact R1 rfl rfl (by rw [ixP_none hok]; rfl)
theorem cfQ_c {l : List QA} {a : Option Addr} {c : Nat} {fk : FuncId} {cs : Array Value} {p : QA → Bool} {w : World} {ok : Nat → Prop} (hF1 : (Fact.sl a (l.flatMap qaC)).holds ok w) (hl : l.length ≤ 100000) (hgo : goes Tryz.prog fk = true) (hfn : ∀ x ∈ l, ∀ w', Below w.heap.size w w' → Calls Tryz.prog fk (#[.agg (qaC x).toArray] ++ cs) w' fun e w2 => e = .returned (.bool (p x)) ∧ Below w'.heap.size w' w2) :
  Cw 215 #[.slice a l.length c, .func (.func fk) #[] cs] w (.bool (l.any p)) := by
 refine En [Fact.sl a (l.flatMap qaC)] [(0, .slice a l.length c), (1, .func (.func fk) #[] cs)] Tryz.func215 rfl Tryz.ntmps215 rfl (Ac rfl (Ac rfl (An _))) (Fc (fact_any hF1) Fn) ?_
 refine Cs (Ka rfl (Nt (Cs (Km rfl (Km rfl ?_)))))
 refine Ku rfl (Oc rfl rfl (Kv fun w hS => ixQ_c (fk := fk) (cs := cs) (p := p) (by (exact hS.sl)) (by exact hl) (by exact hgo) (by exact fun x hx w' hb => hfn x hx w' (hS.below.trans (hb.mono hS.below.size))))) ?_
 refine Kq rfl (rd_geq rfl rfl rfl) (Ka rfl (Nt (Ce ?_)))
 exact R1 rfl rfl (by rw [ixP_nonneg]; rfl)
theorem ixV_c {l : List Bs} {a : Option Addr} {c : Nat} {fk : FuncId} {cs : Array Value} {p : Bs → Bool} {w : World} {ok : Nat → Prop} (hF1 : (Fact.sl a (l.flatMap vrC)).holds ok w) (hl : l.length ≤ 100000) (hgo : goes Tryz.prog fk = true) (hfn : ∀ x ∈ l, ∀ w', Below w.heap.size w w' → Calls Tryz.prog fk (#[.agg (vrC x).toArray] ++ cs) w' fun e w2 => e = .returned (.bool (p x)) ∧ Below w'.heap.size w' w2) :
  Cw 244 #[.slice a l.length c, .func (.func fk) #[] cs] w (.int .i64 (ixP p l)) := by
 refine En [Fact.sl a (l.flatMap vrC)] [(0, .slice a l.length c), (1, .func (.func fk) #[] cs)] Tryz.func244 rfl Tryz.ntmps244 rfl (Ac rfl (Ac rfl (An _))) (Fc (fact_any hF1) Fn) ?_
 refine Cs (Ka rfl (Nt (Cq (Cs (Km rfl (Kq rfl (rd_len rfl rfl u49) (Km rfl (Nt (Cb ?_)))))))))
 refine Lp (σ := Nat) [(0, _), (1, _), (7, _)] (fun gq => [(8, .int .i64 (gq : Int))]) (fun gq => gq ≤ l.length ∧ ∀ x ∈ l.take gq, p x = false) (fun gq => l.length - gq) (0) (S3 rfl rfl rfl) (S1 rfl) (by (try dsimp only); exact ⟨Nat.zero_le _, by simp⟩) ?_
 rintro i hinv1; (try dsimp only at hinv1 ⊢)
 obtain ⟨hi, hok⟩ := hinv1
 refine Cs (Kq rfl (rd_lss rfl rfl rfl) (Nt (Cq ?_)))
 refine Cd rfl (fun hc9 => ?_) (fun hc9 => ?_)
 ·(try simp only [sB] at hc9)
  have hil : i < l.length := by omega
  refine Ck (Xa (Cq (Cb (Cs (Km rfl (Ka rfl (Nt (Cs (Km rfl (Km rfl (Km rfl ?_)))))))))))
  refine Kq rfl (Ib rfl rfl rfl u49 (by omega) (by (rw [flatMap_len _ _ 1 (fun _ => rfl)]; omega))) ?_
  refine Kq rfl (ldma _ rfl rfl u117 rfl (by kernel_rfl : _ = some 1) (fun _ => rfl) (by decide) (Nat.mul_one _).symm (by assumption)) ?_
  refine Ku rfl (og_callv rfl rfl rfl hgo (fncall _ _) (Kv fun w hS => hfn (l.getD i default) (getD_mem _ _ hil) w hS.below)) ?_
  refine Nt ?_
  refine Cd rfl (fun hc16 => ?_) (fun hc16 => ?_)
  ·(try simp only [sB] at hc16)
   refine Cs (Km rfl (Ka rfl (Nt (Ce (Xf (Xb (Xb (Xf (Xb ?_)))))))))
   exact R1 rfl rfl (by rw [ixP_at hil hok (by simpa using hc16)]; rfl)
  ·(try simp only [sB] at hc16)
   refine Ck (Xd (Xa (Cg (Kq rfl (Rz rfl rfl rfl (by omega)) (Km rfl (Nn ?_))))))
   refine Ly (i + 1) (by (try dsimp only); omega) (S3 rfl rfl rfl) (by refine (Sc ?_ (S0 _)) <;> (rfl)) ?_ (by (exact fun _ h => h))
   (try dsimp only)
   exact ⟨hil, all_take hil hok (by simpa using hc16)⟩
 ·(try simp only [sB] at hc9)
  refine Cx (Xc (Xc (Xe ?_)))
  obtain rfl : i = l.length := by omega
  rw [List.take_length] at hok
  refine Xa (Cs (Ka rfl (Nt (Ce ?_))))
  exact R1 rfl rfl (by rw [ixP_none hok]; rfl)
theorem cfV_c {l : List Bs} {a : Option Addr} {c : Nat} {fk : FuncId} {cs : Array Value} {p : Bs → Bool} {w : World} {ok : Nat → Prop} (hF1 : (Fact.sl a (l.flatMap vrC)).holds ok w) (hl : l.length ≤ 100000) (hgo : goes Tryz.prog fk = true) (hfn : ∀ x ∈ l, ∀ w', Below w.heap.size w w' → Calls Tryz.prog fk (#[.agg (vrC x).toArray] ++ cs) w' fun e w2 => e = .returned (.bool (p x)) ∧ Below w'.heap.size w' w2) :
  Cw 219 #[.slice a l.length c, .func (.func fk) #[] cs] w (.bool (l.any p)) := by
 refine En [Fact.sl a (l.flatMap vrC)] [(0, .slice a l.length c), (1, .func (.func fk) #[] cs)] Tryz.func219 rfl Tryz.ntmps219 rfl (Ac rfl (Ac rfl (An _))) (Fc (fact_any hF1) Fn) ?_
 refine Cs (Ka rfl (Nt (Cs (Km rfl (Km rfl ?_)))))
 refine Ku rfl (Oc rfl rfl (Kv fun w hS => ixV_c (fk := fk) (cs := cs) (p := p) (by (exact hS.sl)) (by exact hl) (by exact hgo) (by exact fun x hx w' hb => hfn x hx w' (hS.below.trans (hb.mono hS.below.size))))) ?_
 refine Kq rfl (rd_geq rfl rfl rfl) (Ka rfl (Nt (Ce ?_)))
 exact R1 rfl rfl (by rw [ixP_nonneg]; rfl)
theorem ixG_c {l : List Gp} {a : Option Addr} {c : Nat} {fk : FuncId} {cs : Array Value} {p : Gp → Bool} {w : World} {ok : Nat → Prop} (hF1 : (Fact.sl a (l.flatMap gpC)).holds ok w) (hl : l.length ≤ 100000) (hgo : goes Tryz.prog fk = true) (hfn : ∀ x ∈ l, ∀ w', Below w.heap.size w w' → Calls Tryz.prog fk (#[.agg (gpC x).toArray] ++ cs) w' fun e w2 => e = .returned (.bool (p x)) ∧ Below w'.heap.size w' w2) :
  Cw 245 #[.slice a l.length c, .func (.func fk) #[] cs] w (.int .i64 (ixP p l)) := by
 refine En [Fact.sl a (l.flatMap gpC)] [(0, .slice a l.length c), (1, .func (.func fk) #[] cs)] Tryz.func245 rfl Tryz.ntmps245 rfl (Ac rfl (Ac rfl (An _))) (Fc (fact_any hF1) Fn) ?_
 refine Cs (Ka rfl (Nt (Cq (Cs (Km rfl (Kq rfl (rd_len rfl rfl u48) (Km rfl (Nt (Cb ?_)))))))))
 refine Lp (σ := Nat) [(0, _), (1, _), (7, _)] (fun gq => [(8, .int .i64 (gq : Int))]) (fun gq => gq ≤ l.length ∧ ∀ x ∈ l.take gq, p x = false) (fun gq => l.length - gq) (0) (S3 rfl rfl rfl) (S1 rfl) (by (try dsimp only); exact ⟨Nat.zero_le _, by simp⟩) ?_
 rintro i hinv1; (try dsimp only at hinv1 ⊢)
 obtain ⟨hi, hok⟩ := hinv1
 refine Cs (Kq rfl (rd_lss rfl rfl rfl) (Nt (Cq ?_)))
 refine Cd rfl (fun hc9 => ?_) (fun hc9 => ?_)
 ·(try simp only [sB] at hc9)
  have hil : i < l.length := by omega
  refine Ck (Xa (Cq (Cb (Cs (Km rfl (Ka rfl (Nt (Cs (Km rfl (Km rfl (Km rfl ?_)))))))))))
  refine Kq rfl (Ia rfl rfl rfl u48 (by kernel_rfl : _ = some 2) (by omega) (by (rw [flatMap_len _ _ 2 (fun _ => rfl)]; omega))) ?_
  refine Kq rfl (ldma _ rfl rfl u24 rfl (by kernel_rfl : _ = some 2) (fun _ => rfl) (by decide) rfl (by assumption)) ?_
  refine Ku rfl (og_callv rfl rfl rfl hgo (fncall _ _) (Kv fun w hS => hfn (l.getD i default) (getD_mem _ _ hil) w hS.below)) ?_
  refine Nt ?_
  refine Cd rfl (fun hc16 => ?_) (fun hc16 => ?_)
  ·(try simp only [sB] at hc16)
   refine Cs (Km rfl (Ka rfl (Nt (Ce (Xf (Xb (Xb (Xf (Xb ?_)))))))))
   exact R1 rfl rfl (by rw [ixP_at hil hok (by simpa using hc16)]; rfl)
  ·(try simp only [sB] at hc16)
   refine Ck (Xd (Xa (Cg (Kq rfl (Rz rfl rfl rfl (by omega)) (Km rfl (Nn ?_))))))
   refine Ly (i + 1) (by (try dsimp only); omega) (S3 rfl rfl rfl) (by refine (Sc ?_ (S0 _)) <;> (rfl)) ?_ (by (exact fun _ h => h))
   (try dsimp only)
   exact ⟨hil, all_take hil hok (by simpa using hc16)⟩
 ·(try simp only [sB] at hc9)
  refine Cx (Xc (Xc (Xe ?_)))
  obtain rfl : i = l.length := by omega
  rw [List.take_length] at hok
  refine Xa (Cs (Ka rfl (Nt (Ce ?_))))
  exact R1 rfl rfl (by rw [ixP_none hok]; rfl)
theorem cfG_c {l : List Gp} {a : Option Addr} {c : Nat} {fk : FuncId} {cs : Array Value} {p : Gp → Bool} {w : World} {ok : Nat → Prop} (hF1 : (Fact.sl a (l.flatMap gpC)).holds ok w) (hl : l.length ≤ 100000) (hgo : goes Tryz.prog fk = true) (hfn : ∀ x ∈ l, ∀ w', Below w.heap.size w w' → Calls Tryz.prog fk (#[.agg (gpC x).toArray] ++ cs) w' fun e w2 => e = .returned (.bool (p x)) ∧ Below w'.heap.size w' w2) :
  Cw 221 #[.slice a l.length c, .func (.func fk) #[] cs] w (.bool (l.any p)) := by
 refine En [Fact.sl a (l.flatMap gpC)] [(0, .slice a l.length c), (1, .func (.func fk) #[] cs)] Tryz.func221 rfl Tryz.ntmps221 rfl (Ac rfl (Ac rfl (An _))) (Fc (fact_any hF1) Fn) ?_
 refine Cs (Ka rfl (Nt (Cs (Km rfl (Km rfl ?_)))))
 refine Ku rfl (Oc rfl rfl (Kv fun w hS => ixG_c (fk := fk) (cs := cs) (p := p) (by (exact hS.sl)) (by exact hl) (by exact hgo) (by exact fun x hx w' hb => hfn x hx w' (hS.below.trans (hb.mono hS.below.size))))) ?_
 refine Kq rfl (rd_geq rfl rfl rfl) (Ka rfl (Nt (Ce ?_)))
 exact R1 rfl rfl (by rw [ixP_nonneg]; rfl)
theorem ixZ_c {l : List Zs} {a : Option Addr} {c : Nat} {fk : FuncId} {cs : Array Value} {p : Zs → Bool} {w : World} {ok : Nat → Prop} (hF1 : (Fact.sl a (l.flatMap zc)).holds ok w) (hl : l.length ≤ 100000) (hgo : goes Tryz.prog fk = true) (hfn : ∀ x ∈ l, ∀ w', Below w.heap.size w w' → Calls Tryz.prog fk (#[.agg (zc x).toArray] ++ cs) w' fun e w2 => e = .returned (.bool (p x)) ∧ Below w'.heap.size w' w2) :
  Cw 176 #[.slice a l.length c, .func (.func fk) #[] cs] w (.int .i64 (ixP p l)) := by
 refine En [Fact.sl a (l.flatMap zc)] [(0, .slice a l.length c), (1, .func (.func fk) #[] cs)] Tryz.func176 rfl Tryz.ntmps176 rfl (Ac rfl (Ac rfl (An _))) (Fc (fact_any hF1) Fn) ?_
 refine Cs (Ka rfl (Nt (Cq (Cs (Km rfl (Kq rfl (rd_len rfl rfl u71) (Km rfl (Nt (Cb ?_)))))))))
 refine Lp (σ := Nat) [(0, _), (1, _), (7, _)] (fun gq => [(8, .int .i64 (gq : Int))]) (fun gq => gq ≤ l.length ∧ ∀ x ∈ l.take gq, p x = false) (fun gq => l.length - gq) (0) (S3 rfl rfl rfl) (S1 rfl) (by (try dsimp only); exact ⟨Nat.zero_le _, by simp⟩) ?_
 rintro i hinv1; (try dsimp only at hinv1 ⊢)
 obtain ⟨hi, hok⟩ := hinv1
 refine Cs (Kq rfl (rd_lss rfl rfl rfl) (Nt (Cq ?_)))
 refine Cd rfl (fun hc9 => ?_) (fun hc9 => ?_)
 ·(try simp only [sB] at hc9)
  have hil : i < l.length := by omega
  refine Ck (Xa (Cq (Cb (Cs (Km rfl (Ka rfl (Nt (Cs (Km rfl (Km rfl (Km rfl ?_)))))))))))
  refine Kq rfl (Ia rfl rfl rfl u71 (by kernel_rfl : _ = some 2) (by omega) (by (rw [flatMap_len _ _ 2 (fun _ => rfl)]; omega))) ?_
  refine Kq rfl (ldma _ rfl rfl u64 rfl (by kernel_rfl : _ = some 2) (fun _ => rfl) (by decide) rfl (by assumption)) ?_
  refine Ku rfl (og_callv rfl rfl rfl hgo (fncall _ _) (Kv fun w hS => hfn (l.getD i default) (getD_mem _ _ hil) w hS.below)) ?_
  refine Nt ?_
  refine Cd rfl (fun hc16 => ?_) (fun hc16 => ?_)
  ·(try simp only [sB] at hc16)
   refine Cs (Km rfl (Ka rfl (Nt (Ce (Xf (Xb (Xb (Xf (Xb ?_)))))))))
   exact R1 rfl rfl (by rw [ixP_at hil hok (by simpa using hc16)]; rfl)
  ·(try simp only [sB] at hc16)
   refine Ck (Xd (Xa (Cg (Kq rfl (Rz rfl rfl rfl (by omega)) (Km rfl (Nn ?_))))))
   refine Ly (i + 1) (by (try dsimp only); omega) (S3 rfl rfl rfl) (by refine (Sc ?_ (S0 _)) <;> (rfl)) ?_ (by (exact fun _ h => h))
   (try dsimp only)
   exact ⟨hil, all_take hil hok (by simpa using hc16)⟩
 ·(try simp only [sB] at hc9)
  refine Cx (Xc (Xc (Xe ?_)))
  obtain rfl : i = l.length := by omega
  rw [List.take_length] at hok
  refine Xa (Cs (Ka rfl (Nt (Ce ?_))))
  exact R1 rfl rfl (by rw [ixP_none hok]; rfl)
theorem cfZ_c {l : List Zs} {a : Option Addr} {c : Nat} {fk : FuncId} {cs : Array Value} {p : Zs → Bool} {w : World} {ok : Nat → Prop} (hF1 : (Fact.sl a (l.flatMap zc)).holds ok w) (hl : l.length ≤ 100000) (hgo : goes Tryz.prog fk = true) (hfn : ∀ x ∈ l, ∀ w', Below w.heap.size w w' → Calls Tryz.prog fk (#[.agg (zc x).toArray] ++ cs) w' fun e w2 => e = .returned (.bool (p x)) ∧ Below w'.heap.size w' w2) :
  Cw 121 #[.slice a l.length c, .func (.func fk) #[] cs] w (.bool (l.any p)) := by
 refine En [Fact.sl a (l.flatMap zc)] [(0, .slice a l.length c), (1, .func (.func fk) #[] cs)] Tryz.func121 rfl Tryz.ntmps121 rfl (Ac rfl (Ac rfl (An _))) (Fc (fact_any hF1) Fn) ?_
 refine Cs (Ka rfl (Nt (Cs (Km rfl (Km rfl ?_)))))
 refine Ku rfl (Oc rfl rfl (Kv fun w hS => ixZ_c (fk := fk) (cs := cs) (p := p) (by (exact hS.sl)) (by exact hl) (by exact hgo) (by exact fun x hx w' hb => hfn x hx w' (hS.below.trans (hb.mono hS.below.size))))) ?_
 refine Kq rfl (rd_geq rfl rfl rfl) (Ka rfl (Nt (Ce ?_)))
 exact R1 rfl rfl (by rw [ixP_nonneg]; rfl)
section
variable {ds : List Deferred} {P : Program} {o : Oper} {n : Nat} {L : Slots} {Z : World → Prop} {x y : Operand} {t t2 : TypeId} {xs ys : Array Value} {b : Bool}
theorem rd_eqA (hop : o.op = .binOp .eql t x y t2) (hx : oper L x = some (.agg xs)) (hy : oper L y = some (.agg ys)) (hg : P.eqGuardType P.depth t = false) (hr : ∀ w : World, (binOp .eql t (.agg xs) (.agg ys)).run P w = .ok (.bool b) w) : Rd ds P o n L Z (.bool b) :=
 run_bin hop hx hy (fun w => run_eqGuard_agg w _ _ _ _ _ _ hg) hr
theorem rd_neA (hop : o.op = .binOp .neq t x y t2) (hx : oper L x = some (.agg xs)) (hy : oper L y = some (.agg ys)) (hg : P.eqGuardType P.depth t = false) (hr : ∀ w : World, (binOp .eql t (.agg xs) (.agg ys)).run P w = .ok (.bool b) w) : Rd ds P o n L Z (.bool (!b)) :=
 run_bin hop hx hy (fun w => run_eqGuard_agg w _ _ _ _ _ _ hg) fun w => by
  have := hr w
  rw [run_eql_struct] at this
  rw [run_neq_struct]
  cases h : (Op.equalIn 10000 t (.agg xs) (.agg ys)).run P w with
  | ok c w' => rw [h] at this; simp at this ⊢; exact ⟨by rw [this.1], this.2⟩
  | halt c w' => rw [h] at this; simp at this
end
theorem eql_api_Int (p q : Bool) (a b : Bs) (w : World) : (binOp .eql 64 (.agg #[.bool p, .string (S a)]) (.agg #[.bool q, .string (S b)])).run Tryz.prog w = .ok (.bool (decide (p = q ∧ a = b))) w := by
 rw [run_eql_struct, run_equalIn_agg w _ _ _ _ (by kernel_rfl) (by kernel_rfl)]
 have h1 : Tryz.prog.underlying 4 = some .bool := by kernel_rfl
 have h2 : Tryz.prog.underlying 22 = some .string := by kernel_rfl
 have hf : (Tryz.prog.fieldsOf 64).toList = [⟨"Neg", 4, 0, false, "", "", 0⟩, ⟨"Abs", 22, 1, false, "", "", 8⟩] := by kernel_rfl
 have e1 : ∀ (u v : Value) (w : World), (part 4 #[u, v] 0).run Tryz.prog w = .ok u w := fun u v w => run_part_plain w (by kernel_rfl) rfl
 have e2 : ∀ (u v : Value) (w : World), (part 22 #[u, v] 1).run Tryz.prog w = .ok v w := fun u v w => run_part_plain w (by kernel_rfl) rfl
 have hb : ∀ (w : World), (Op.equalIn 9999 4 (.bool p) (.bool q)).run Tryz.prog w = .ok (p == q) w := fun w => run_equalIn_bool' w 9998 _ p q h1
 have hs : ∀ (w : World), (Op.equalIn 9999 22 (.string (S a)) (.string (S b))).run Tryz.prog w = .ok (decide (a = b)) w := fun w => by
  rw [run_equalIn_string w 9998 _ _ _ h2, str_eq]
 rw [hf]
 simp only [Op.eqFields, Sem.run_bind, e1, e2, hb, hs, Result.andThen_ok, Sem.run_ite, Sem.run_pure]
 cases p <;> cases q <;> by_cases h : a = b <;> simp [h]
end Go.Proofs.YtmkghgoibnncbaaGreatDoor
