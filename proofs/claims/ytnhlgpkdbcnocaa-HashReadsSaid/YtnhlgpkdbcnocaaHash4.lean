/-
  The walks of package hash: Hex and Mac.
-/
import Derived.Test.YtnhlgpkdbcnocaaBuild
import Derived.Laws.BitsAllLaws
namespace Go.Proofs.Ytnhlgpkdbcnocaa
set_option linter.unusedSimpArgs false
set_option linter.unusedVariables false
open Go.RowKit

def hexTab : List UInt8 := [48, 49, 50, 51, 52, 53, 54, 55, 56, 57, 97, 98, 99, 100, 101, 102]
theorem hexTab_get (n : Nat) (h : n < 16) : hexTab[n]? = some (hexDigit n) := by
  have : ∀ k : Fin 16, hexTab[k.val]? = some (hexDigit k.val) := by decide
  exact this ⟨n, h⟩
theorem u8_shr4 (c : UInt8) : ((c.toNat : Int).fdiv (2 ^ (min (Int.toNat 4) IntKind.u8.bits))) = ((c.toNat / 16 : Nat) : Int) := by
  have e : min (Int.toNat 4) IntKind.u8.bits = 4 := by decide
  rw [e, Int.fdiv_eq_ediv_of_nonneg _ (by decide)]; exact (Int.natCast_ediv _ _).symm
theorem u8_low4 (c : UInt8) : bits .and .u8 (c.toNat : Int) 15 = ((c.toNat % 16 : Nat) : Int) := by
  have := c.toNat_lt
  have h := u8_and_nat c.toNat 15 (by omega) (by omega)
  rw [Nat.and_two_pow_sub_one_eq_mod c.toNat 4] at h
  exact h
theorem hexs_take (l : List UInt8) (k : Nat) (c : UInt8) (h : l[k]? = some c) : hexs (l.take (k + 1)) = hexs (l.take k) ++ [hexDigit (c.toNat / 16)] ++ [hexDigit (c.toNat % 16)] := by
  rw [List.take_add_one, h]; simp [hexs]
theorem hexs_len (l : List UInt8) : (hexs l).length = 2 * l.length := by
  induction l with
  | nil => rfl
  | cons c l ih => simp only [hexs, List.flatMap_cons, List.length_append, List.length_cons, List.length_nil] at *; omega

/-- a builder that has been written to k times two bytes -/
structure GB where
  k : Nat
  p : Option Addr
  ob : Option Nat
  cap : Nat
  sp : List Value

theorem hex_ok (l : List UInt8) (hl : l.length ≤ 1000000) (w : World) :
    Calls Try.prog 12 #[.string (S l)] w fun e w' => e = .returned (.string (S (hexs l))) ∧ Below w.heap.size w w' := by
  refine enter (S := St (fun _ => True) w [] []) (L := [(0, .string (S l))]) Try.func12 rfl Try.ntmps12 rfl (args_cons rfl (args_nil _)) (St.start (fun _ _ => trivial) (by simp)) ?_
  refine WC.seq ?_
  refine WC.region ?_
  refine WL.r rfl rfl rfl (rd_assign rfl rfl) ?_
  refine WL.nil ?_
  refine WX.then_normal ?_
  refine WC.seq ?_
  refine WC.region ?_
  refine WL.g rfl rfl rfl (og_alloc rfl (v := (.agg #[.pointer none, .slice none 0 0])) (cs := [.pointer none, .slice none 0 0]) (by kernel_rfl) rfl) ?_
  intro b3
  refine WL.nil ?_
  refine WX.then_normal ?_
  refine WC.seq ?_
  refine WC.seq ?_
  refine WC.region ?_
  refine WL.r rfl rfl rfl (rd_move rfl rfl) ?_
  refine WL.r rfl rfl rfl (rd_slen rfl rfl Try.underlying9) ?_
  refine WL.r rfl rfl rfl (rd_move rfl rfl) ?_
  refine WL.nil ?_
  refine WX.then_normal ?_
  refine WC.block ?_
  refine WC.loop (σ := GB) (fun g => [(0, .string (S l)), (3, .pointer (some ⟨b3, 0, none⟩)), (6, .int .i64 (l.length : Int)), (7, .int .i64 (g.k : Int))]) (fun g w' => ((g.k ≤ l.length ∧ (g.p = none ∨ g.p = some ⟨b3, 0, none⟩)) ∧ g.cap = 2 * g.k + g.sp.length ∧ (g.k = 0 ∧ g.ob = none ∧ g.cap = 0 ∨ 0 < g.k ∧ g.p = some ⟨b3, 0, none⟩ ∧ ∃ b, g.ob = some b)) ∧ St (fun _ => True) w [⟨some b3, [.pointer g.p, .slice (g.ob.map fun b => ⟨b, 0, none⟩) (hexs (l.take g.k)).length g.cap], 41⟩, ⟨g.ob, (hexs (l.take g.k)).map B ++ g.sp, 5⟩] [] w') (fun g => l.length - g.k) ⟨0, none, none, 0, []⟩ (by repeat (first | exact sub_nil _ | refine sub_cons rfl ?_)) (fun w' h => ⟨⟨⟨by simp, .inl rfl⟩, rfl, .inl ⟨rfl, rfl, rfl⟩⟩, st_swap (h.nil _)⟩) ?_
  rintro ⟨k, p, ob, cap, sp⟩; dsimp only; refine WC.pu ?_; rintro ⟨⟨hk, hp⟩, hcap, hcase⟩
  have hhl : (hexs (l.take k)).length = 2 * k := by rw [hexs_len, List.length_take]; omega
  refine WC.seq ?_
  refine WC.region ?_
  refine WL.r rfl rfl rfl (rd_lss rfl rfl rfl) ?_
  refine WL.nil ?_
  refine WX.then_normal ?_
  refine WC.seq ?_
  refine WC.cond rfl (fun hc8 => ?_) (fun hc8 => ?_)
  · (try simp only [decide_eq_true_eq, decide_eq_false_iff_not, Bool.not_eq_true', Bool.not_eq_false', Bool.not_not, Int.not_lt, Int.not_le] at hc8)
    obtain ⟨c, hc⟩ : ∃ c, l[k]? = some c := ⟨_, List.getElem?_eq_getElem (by omega)⟩
    have hcl := c.toNat_lt
    refine WC.skip ?_
    refine WX.then_normal ?_
    refine WC.seq ?_
    refine WC.block ?_
    refine WC.seq ?_
    refine WC.region ?_
    refine WL.r rfl rfl rfl (rd_move rfl rfl) ?_
    refine WL.r rfl rfl rfl (rd_assign rfl rfl) ?_
    refine WL.nil ?_
    refine WX.then_normal ?_
    refine WC.seq ?_
    refine WC.region ?_
    refine WL.r rfl rfl rfl (rd_move rfl rfl) ?_
    refine WL.r rfl rfl rfl (rd_move rfl rfl) ?_
    refine WL.r rfl rfl rfl (rd_sidx rfl rfl rfl Try.underlying9 ?_ (by rw [Int.toNat_natCast]; exact hc)) ?_
    · omega
    refine WL.r rfl rfl rfl (rd_shr rfl rfl rfl ?_) ?_
    · first | decide | omega
    refine WL.set 13 rfl (v' := .int .u8 ((c.toNat / 16 : Nat) : Int)) (congrArg (Value.int .u8) (u8_shr4 c)) ?_
    refine WL.r rfl rfl rfl (rd_sidx (a := hexTab) rfl rfl rfl Try.underlying9 (by omega) (by rw [Int.toNat_natCast]; exact hexTab_get _ (by omega))) ?_
    refine WL.g rfl rfl rfl (og_call rfl rfl (by kernel_rfl) (fun w hS => wb_ok b3 p hp ob (hexs (l.take k)) sp cap (hexDigit (c.toNat / 16)) (by omega) (by omega) w hS)) ?_
    intro g1; refine WL.pu ?_; intro hg1
    refine WL.nil ?_
    refine WX.then_normal ?_
    refine WC.region ?_
    refine WL.r rfl rfl rfl (rd_move rfl rfl) ?_
    refine WL.r rfl rfl rfl (rd_move rfl rfl) ?_
    refine WL.r rfl rfl rfl (rd_sidx rfl rfl rfl Try.underlying9 ?_ (by rw [Int.toNat_natCast]; exact hc)) ?_
    · omega
    refine WL.r rfl rfl rfl (rd_and rfl rfl rfl) ?_
    refine WL.set 19 rfl (v' := .int .u8 ((c.toNat % 16 : Nat) : Int)) (congrArg (Value.int .u8) (u8_low4 c)) ?_
    refine WL.r rfl rfl rfl (rd_sidx (a := hexTab) rfl rfl rfl Try.underlying9 (by omega) (by rw [Int.toNat_natCast]; exact hexTab_get _ (by omega))) ?_
    refine WL.g rfl rfl rfl (og_call rfl rfl (by kernel_rfl) (fun w hS => wb_ok b3 (some ⟨b3, 0, none⟩) (.inr rfl) (some g1.b) (hexs (l.take k) ++ [hexDigit (c.toNat / 16)]) g1.spare g1.cap (hexDigit (c.toNat % 16)) (by simp; omega) (by simp; omega) w (by rw [List.length_append]; exact hS))) ?_
    intro g2; refine WL.pu ?_; intro hg2
    refine WL.nil ?_
    refine WX.block_normal ?_
    refine WX.then_normal ?_
    refine WC.region ?_
    first
      | (refine WL.r rfl rfl rfl (rd_add64nl rfl rfl rfl ?_) ?_; focus (omega))
      | (refine WL.r rfl rfl rfl (rd_add64 rfl rfl rfl ?_) ?_; focus (omega))
    refine WL.r rfl rfl rfl (rd_move rfl rfl) ?_
    refine WL.nil ?_
    exact WX.loop ⟨k + 1, some ⟨b3, 0, none⟩, some g2.b, g2.cap, g2.spare⟩ (by show l.length - (k + 1) < l.length - k; omega) (by repeat (first | exact sub_nil _ | refine sub_cons rfl ?_)) (fun w' h => ⟨⟨⟨by show k + 1 ≤ _; omega, .inr rfl⟩, by show g2.cap = 2 * (k + 1) + g2.spare.length; simp at hg2; omega, .inr ⟨Nat.succ_pos _, rfl, _, rfl⟩⟩, by rw [hexs_take l k c hc, List.length_append]; exact h⟩)
  · (try simp only [decide_eq_true_eq, decide_eq_false_iff_not, Bool.not_eq_true', Bool.not_eq_false', Bool.not_not, Int.not_lt, Int.not_le] at hc8)
    refine WC.exit ?_
    refine WX.then_exit ?_
    refine WX.then_exit ?_
    refine WX.block_exit ?_
    obtain rfl : k = l.length := by omega
    rw [List.take_of_length_le (Nat.le_refl _)]
    rw [List.take_of_length_le (Nat.le_refl _)] at hhl
    have hstr : ∀ w', St (fun _ => True) w [⟨some b3, [.pointer p, .slice (ob.map fun b => ⟨b, 0, none⟩) (hexs l).length cap], 41⟩, ⟨ob, (hexs l).map B ++ sp, 5⟩] [] w' → Calls Try.prog 22 #[.pointer (some ⟨b3, 0, none⟩)] w' fun e w2 => ∃ _g : Unit, e = .returned (.string (S (hexs l))) ∧ St (fun _ => True) w [] [] w2 := by
      intro w' hS'
      rcases hcase with ⟨h0, rfl, rfl⟩ | ⟨h0, rfl, b, rfl⟩
      · have hl0 : l = [] := List.eq_nil_of_length_eq_zero h0
        subst hl0
        exact (str_nil b3 p w' hS').mono fun _ _ ⟨g, he, hs⟩ => ⟨g, he, hs.sub (List.nil_sublist _) (fun _ h => h)⟩
      · exact (str_some b3 b (hexs l) sp cap (by intro e; rw [e] at hhl; simp at hhl; omega) (by omega) (by omega) w' hS').mono fun _ _ ⟨g, he, hs⟩ => ⟨g, he, hs.sub (List.nil_sublist _) (fun _ h => h)⟩
    refine WX.then_normal ?_
    refine WC.seq ?_
    refine WC.region ?_
    refine WL.g rfl rfl rfl (og_call rfl rfl (by kernel_rfl) (hstr)) ?_
    intro _
    refine WL.r rfl rfl rfl (rd_assign rfl rfl) ?_
    refine WL.nil ?_
    refine WX.then_normal ?_
    refine WC.ret ?_
    exact WX.ret1 rfl rfl fun w' hS => ⟨rfl, hS.below⟩

/-! Mac -/
theorem xor_u8 (c : UInt8) (x : UInt8) : bits .xor .u8 (c.toNat : Int) (x.toNat : Int) = ((c ^^^ x).toNat : Int) := by
  have h1 := c.toNat_lt; have h2 := x.toNat_lt
  rw [u8_xor_nat _ _ h1 h2, UInt8.toNat_xor]
theorem map_step (K : List UInt8) (f : UInt8 → UInt8) (k : Nat) (c : UInt8) (h : K[k]? = some c) :
    (((K.take k).map f ++ K.drop k).map B).set k (B (f c)) = ((K.take (k + 1)).map f ++ K.drop (k + 1)).map B := by
  have hk : k < K.length := (List.getElem?_eq_some_iff.1 h).1
  rw [← List.map_set]
  congr 1
  have hlen : ((K.take k).map f).length = k := by simp; omega
  have hd : (K.drop k).set 0 (f c) = f c :: K.drop (k + 1) := by rw [List.drop_eq_getElem_cons hk]; rfl
  rw [List.set_append_right _ _ (by omega), hlen, Nat.sub_self, hd, List.take_add_one, h]
  simp
theorem map_here (K : List UInt8) (f : UInt8 → UInt8) (k : Nat) (c : UInt8) (h : K[k]? = some c) : (((K.take k).map f ++ K.drop k).map B)[k]? = some (B c) := by
  have hk : k < K.length := (List.getElem?_eq_some_iff.1 h).1
  have hlen : ((K.take k).map f).length = k := by simp; omega
  rw [List.getElem?_map, List.getElem?_append_right (by omega), hlen, Nat.sub_self, List.getElem?_drop, Nat.add_zero, h]; rfl
theorem sha_len (l : List UInt8) : (sha l).length = 32 := by
  have : ∀ (n : Nat) (x : List W) (m : List UInt8), x.length = 8 → (chunks n x m).length = 8 := by
    intro n
    induction n with
    | zero => intro x m h; exact h
    | succ n ih => intro x m h; exact ih _ _ (compress_len _ _ h)
  rw [sha, outW_len, this _ _ _ rfl]
theorem keyOf_len (key : List UInt8) : (keyOf key).length ≤ 64 := by
  unfold keyOf; split
  · rw [sha_len]; omega
  · omega

theorem mac_ok (key s : List UInt8) (hk : key.length ≤ 500000) (hs : s.length ≤ 500000) (w : World) :
    Calls Try.prog 14 #[.string (S key), .string (S s)] w fun e w' => e = .returned (.string (S (mac key s))) ∧ Below w.heap.size w w' := by
  have hkl := keyOf_len key
  obtain ⟨K, hK⟩ : ∃ K, keyOf key ++ List.replicate (64 - (keyOf key).length) 0 = K := ⟨_, rfl⟩
  have hKl : K.length = 64 := by rw [← hK]; simp; omega
  have hx1 : xorKey (keyOf key) 92 = K.map (· ^^^ 92) := by rw [← hK]; rfl
  have hx2 : xorKey (keyOf key) 54 = K.map (· ^^^ 54) := by rw [← hK]; rfl
  refine enter (S := St (fun _ => True) w [] []) (L := [(0, .string (S key)), (1, .string (S s))]) Try.func14 rfl Try.ntmps14 rfl (args_cons rfl (args_cons rfl (args_nil _))) (St.start (fun _ _ => trivial) (by simp)) ?_
  refine WC.seq ?_
  refine WC.region ?_
  refine WL.r rfl rfl rfl (rd_assign rfl rfl) ?_
  refine WL.nil ?_
  refine WX.then_normal ?_
  refine WC.seq ?_
  refine WC.seq ?_
  refine WC.region ?_
  refine WL.r rfl rfl rfl (rd_move rfl rfl) ?_
  refine WL.r rfl rfl rfl (rd_slen rfl rfl Try.underlying9) ?_
  refine WL.r rfl rfl rfl (rd_gtr rfl rfl rfl) ?_
  refine WL.nil ?_
  refine WX.then_normal ?_
  refine WC.cond rfl (fun hc10 => ?_) (fun hc10 => ?_)
  · (try simp only [decide_eq_true_eq, decide_eq_false_iff_not, Bool.not_eq_true', Bool.not_eq_false', Bool.not_not, Int.not_lt, Int.not_le] at hc10)
    refine WC.region ?_
    refine WL.r rfl rfl rfl (rd_move rfl rfl) ?_
    refine WL.g rfl rfl rfl (og_call rfl rfl (by kernel_rfl) (keep_val fun w _ => sum_ok _ (by omega) w)) ?_
    intro _
    refine WL.r rfl rfl rfl (rd_assign rfl rfl) ?_
    refine WL.set 0 rfl (v' := .string (S (keyOf key))) (by rw [keyOf, if_pos (by omega)]) ?_
    refine WL.nil ?_
    refine WX.then_normal ?_
    refine WC.seq ?_
    refine WC.region ?_
    refine WL.g rfl rfl rfl (og_alloc rfl (v := (.agg (List.replicate 64 (.int .u8 0)).toArray)) (cs := (List.replicate 64 (.int .u8 0))) (by kernel_rfl) rfl) ?_
    intro b5
    refine WL.g rfl rfl rfl (og_alloc rfl (v := (.agg (List.replicate 64 (.int .u8 0)).toArray)) (cs := (List.replicate 64 (.int .u8 0))) (by kernel_rfl) rfl) ?_
    intro b6
    refine WL.nil ?_
    refine WX.then_normal ?_
    refine WC.seq ?_
    refine WC.region ?_
    refine WL.r rfl rfl rfl (rd_sla rfl rfl Try.underlying46 (by kernel_rfl : _ = some 1)) ?_
    refine WL.r rfl rfl rfl (rd_move rfl rfl) ?_
    refine WL.g rfl rfl rfl (cpys rfl rfl rfl (by first | exact .here | exact .t1 | exact .t2 | exact .t3 | exact .t4 | exact .t5 | exact .t6 | exact .t7) Try.underlying27 (by kernel_rfl) (m := (keyOf key).length) (by omega) (by simp; omega) (ys := K.map B) (by rw [← hK, List.take_zero, List.nil_append, Nat.zero_add, List.take_length, List.drop_replicate, List.map_append, List.map_replicate]; rfl)) ?_
    intro _
    refine WL.nil ?_
    refine WX.then_normal ?_
    refine WC.seq ?_
    refine WC.region ?_
    refine WL.r rfl rfl rfl (rd_sla rfl rfl Try.underlying46 (by kernel_rfl : _ = some 1)) ?_
    refine WL.r rfl rfl rfl (rd_move rfl rfl) ?_
    refine WL.g rfl rfl rfl (cpys rfl rfl rfl (by first | exact .here | exact .t1 | exact .t2 | exact .t3 | exact .t4 | exact .t5 | exact .t6 | exact .t7) Try.underlying27 (by kernel_rfl) (m := (keyOf key).length) (by omega) (by simp; omega) (ys := K.map B) (by rw [← hK, List.take_zero, List.nil_append, Nat.zero_add, List.take_length, List.drop_replicate, List.map_append, List.map_replicate]; rfl)) ?_
    intro _
    refine WL.nil ?_
    refine WX.then_normal ?_
    refine WC.seq ?_
    refine WC.seq ?_
    refine WC.region ?_
    refine WL.r rfl rfl rfl (rd_move rfl rfl) ?_
    refine WL.nil ?_
    refine WX.then_normal ?_
    refine WC.block ?_
    refine WC.loop (σ := Nat) (fun k => [(1, .string (S s)), (5, .pointer (some ⟨b5, 0, none⟩)), (6, .pointer (some ⟨b6, 0, none⟩)), (19, .int .i64 (k : Int))]) (fun k w' => k ≤ 64 ∧ St (fun _ => True) w [⟨some b6, ((K.take k).map (· ^^^ 92) ++ K.drop k).map B, 46⟩, ⟨some b5, ((K.take k).map (· ^^^ 54) ++ K.drop k).map B, 46⟩] [] w') (fun k => 64 - k) 0 (by repeat (first | exact sub_nil _ | refine sub_cons rfl ?_)) (fun w' h => ⟨by omega, h⟩) ?_
    intro k; refine WC.pu ?_; intro hk
    refine WC.seq ?_
    refine WC.region ?_
    refine WL.r rfl rfl rfl (rd_lss rfl rfl rfl) ?_
    refine WL.nil ?_
    refine WX.then_normal ?_
    refine WC.seq ?_
    refine WC.cond rfl (fun hc20 => ?_) (fun hc20 => ?_)
    · (try simp only [decide_eq_true_eq, decide_eq_false_iff_not, Bool.not_eq_true', Bool.not_eq_false', Bool.not_not, Int.not_lt, Int.not_le] at hc20)
      obtain ⟨c, hc⟩ : ∃ c, K[k]? = some c := ⟨_, List.getElem?_eq_getElem (by omega)⟩
      refine WC.skip ?_
      refine WX.then_normal ?_
      refine WC.seq ?_
      refine WC.block ?_
      refine WC.seq ?_
      refine WC.region ?_
      refine WL.r rfl rfl rfl (rd_move rfl rfl) ?_
      refine WL.r rfl rfl rfl (rd_assign rfl rfl) ?_
      refine WL.nil ?_
      refine WX.then_normal ?_
      refine WC.seq ?_
      refine WC.region ?_
      refine WL.r rfl rfl rfl (rd_move rfl rfl) ?_
      refine WL.r rfl rfl rfl (rd_iaa rfl rfl rfl Try.underlying46 (by kernel_rfl : _ = some 1) ?_ (by (try simp only [Int.toNat_natCast, Nat.mul_one, Nat.zero_add, Nat.add_zero, Nat.zero_mul, Int.reduceToNat, Nat.reduceAdd, Nat.reduceMul, Nat.reduceSub, Nat.sub_zero]); rfl)) ?_
      · omega
      refine WL.r rfl rfl rfl (ld rfl rfl (by first | exact .here | exact .t1 | exact .t2 | exact .t3 | exact .t4 | exact .t5 | exact .t6 | exact .t7) Try.underlying5 rfl (by exact map_here K (· ^^^ 54) k c hc)) ?_
      refine WL.r rfl rfl rfl (rd_xor rfl rfl rfl) ?_
      refine WL.set 25 rfl (v' := B (c ^^^ 54)) (congrArg (Value.int .u8) (xor_u8 c 54)) ?_
      refine WL.r rfl rfl rfl (rd_iaa rfl rfl rfl Try.underlying46 (by kernel_rfl : _ = some 1) ?_ (by (try simp only [Int.toNat_natCast, Nat.mul_one, Nat.zero_add, Nat.add_zero, Nat.zero_mul, Int.reduceToNat, Nat.reduceAdd, Nat.reduceMul, Nat.reduceSub, Nat.sub_zero]); rfl)) ?_
      · omega
      refine WL.g0 rfl rfl (st rfl rfl rfl (by first | exact .here | exact .t1 | exact .t2 | exact .t3 | exact .t4 | exact .t5 | exact .t6 | exact .t7) (by kernel_rfl) rfl ?_ rfl) ?_
      · simp; omega
      intro _
      refine WL.nil ?_
      refine WX.then_normal ?_
      refine WC.region ?_
      refine WL.r rfl rfl rfl (rd_move rfl rfl) ?_
      refine WL.r rfl rfl rfl (rd_iaa rfl rfl rfl Try.underlying46 (by kernel_rfl : _ = some 1) ?_ (by (try simp only [Int.toNat_natCast, Nat.mul_one, Nat.zero_add, Nat.add_zero, Nat.zero_mul, Int.reduceToNat, Nat.reduceAdd, Nat.reduceMul, Nat.reduceSub, Nat.sub_zero]); rfl)) ?_
      · omega
      refine WL.r rfl rfl rfl (ld rfl rfl (by first | exact .here | exact .t1 | exact .t2 | exact .t3 | exact .t4 | exact .t5 | exact .t6 | exact .t7) Try.underlying5 rfl (by exact map_here K (· ^^^ 92) k c hc)) ?_
      refine WL.r rfl rfl rfl (rd_xor rfl rfl rfl) ?_
      refine WL.set 30 rfl (v' := B (c ^^^ 92)) (congrArg (Value.int .u8) (xor_u8 c 92)) ?_
      refine WL.r rfl rfl rfl (rd_iaa rfl rfl rfl Try.underlying46 (by kernel_rfl : _ = some 1) ?_ (by (try simp only [Int.toNat_natCast, Nat.mul_one, Nat.zero_add, Nat.add_zero, Nat.zero_mul, Int.reduceToNat, Nat.reduceAdd, Nat.reduceMul, Nat.reduceSub, Nat.sub_zero]); rfl)) ?_
      · omega
      refine WL.g0 rfl rfl (st rfl rfl rfl (by first | exact .here | exact .t1 | exact .t2 | exact .t3 | exact .t4 | exact .t5 | exact .t6 | exact .t7) (by kernel_rfl) rfl ?_ rfl) ?_
      · simp; omega
      intro _
      refine WL.nil ?_
      refine WX.block_normal ?_
      refine WX.then_normal ?_
      refine WC.region ?_
      first
        | (refine WL.r rfl rfl rfl (rd_add64nl rfl rfl rfl ?_) ?_; focus (omega))
        | (refine WL.r rfl rfl rfl (rd_add64 rfl rfl rfl ?_) ?_; focus (omega))
      refine WL.r rfl rfl rfl (rd_move rfl rfl) ?_
      refine WL.nil ?_
      exact WX.loop (k + 1) (by omega) (by repeat (first | exact sub_nil _ | refine sub_cons rfl ?_)) (fun w' h => ⟨by omega, by rw [map_step K (· ^^^ 54) k c hc, map_step K (· ^^^ 92) k c hc] at h; exact h⟩)
    · (try simp only [decide_eq_true_eq, decide_eq_false_iff_not, Bool.not_eq_true', Bool.not_eq_false', Bool.not_not, Int.not_lt, Int.not_le] at hc20)
      refine WC.exit ?_
      refine WX.then_exit ?_
      refine WX.then_exit ?_
      refine WX.block_exit ?_
      obtain rfl : k = 64 := by omega
      rw [List.take_of_length_le (by omega), List.drop_eq_nil_of_le (by omega), List.append_nil, List.append_nil]
      refine WX.then_normal ?_
      refine WC.seq ?_
      refine WC.mix [0, 0, 0, 0, 0, 0, 1, 0, 1, 0] (by kernel_rfl) (by kernel_rfl) (fun w h => h.draw) ?_
      refine WM.r rfl rfl rfl (rd_sla rfl rfl Try.underlying46 (by kernel_rfl : _ = some 1)) ?_
      refine WM.r rfl rfl rfl (b2s (l := K.map (· ^^^ 92)) rfl rfl (by first | exact .here | exact .t1 | exact .t2 | exact .t3 | exact .t4 | exact .t5 | exact .t6 | exact .t7) Try.underlying27 Try.underlying5 Try.underlying9 ?_ ?_) ?_
      · rw [List.drop_zero, List.take_of_length_le (by simp [hKl])]
      · simp [hKl]
      refine WM.r rfl rfl rfl (rd_sla rfl rfl Try.underlying46 (by kernel_rfl : _ = some 1)) ?_
      refine WM.r rfl rfl rfl (b2s (l := K.map (· ^^^ 54)) rfl rfl (by first | exact .here | exact .t1 | exact .t2 | exact .t3 | exact .t4 | exact .t5 | exact .t6 | exact .t7) Try.underlying27 Try.underlying5 Try.underlying9 ?_ ?_) ?_
      · rw [List.drop_zero, List.take_of_length_le (by simp [hKl])]
      · simp [hKl]
      refine WM.r rfl rfl rfl (rd_move rfl rfl) ?_
      refine WM.r rfl rfl rfl (rd_cat rfl rfl rfl ?_) ?_
      · simp [hKl]; omega
      refine WM.g rfl rfl rfl (og_call rfl rfl (by kernel_rfl) (keep_val fun w _ => sum_ok _ (by simp [hKl]; omega) w)) (fun _ _ h => by first | exact h | exact h.2 | exact h.sub (by repeat (first | exact List.Sublist.refl _ | apply List.Sublist.cons)) (fun _ h => by simp [*]) | exact h.2.sub (by repeat (first | exact List.Sublist.refl _ | apply List.Sublist.cons)) (fun _ h => by simp [*])) ?_
      intro _
      refine WM.r rfl rfl rfl (rd_cat rfl rfl rfl ?_) ?_
      · simp [hKl, sha_len]
      refine WM.g rfl rfl rfl (og_call rfl rfl (by kernel_rfl) (keep_val fun w _ => sum_ok _ (by simp [hKl, sha_len]) w)) (fun _ _ h => by first | exact h | exact h.2 | exact h.sub (by repeat (first | exact List.Sublist.refl _ | apply List.Sublist.cons)) (fun _ h => by simp [*]) | exact h.2.sub (by repeat (first | exact List.Sublist.refl _ | apply List.Sublist.cons)) (fun _ h => by simp [*])) ?_
      intro _
      refine WM.r rfl rfl rfl (rd_assign rfl rfl) ?_
      refine WM.nil ?_
      refine WX.then_normal ?_
      refine WC.ret ?_
      exact WX.ret1 rfl rfl fun w' hS => ⟨by rw [mac, hx1, hx2], hS.below⟩
  · (try simp only [decide_eq_true_eq, decide_eq_false_iff_not, Bool.not_eq_true', Bool.not_eq_false', Bool.not_not, Int.not_lt, Int.not_le] at hc10)
    refine WC.set 0 rfl (v' := .string (S (keyOf key))) (by rw [keyOf, if_neg (by omega)]) ?_
    refine WC.skip ?_
    refine WX.then_normal ?_
    refine WC.seq ?_
    refine WC.region ?_
    refine WL.g rfl rfl rfl (og_alloc rfl (v := (.agg (List.replicate 64 (.int .u8 0)).toArray)) (cs := (List.replicate 64 (.int .u8 0))) (by kernel_rfl) rfl) ?_
    intro b5
    refine WL.g rfl rfl rfl (og_alloc rfl (v := (.agg (List.replicate 64 (.int .u8 0)).toArray)) (cs := (List.replicate 64 (.int .u8 0))) (by kernel_rfl) rfl) ?_
    intro b6
    refine WL.nil ?_
    refine WX.then_normal ?_
    refine WC.seq ?_
    refine WC.region ?_
    refine WL.r rfl rfl rfl (rd_sla rfl rfl Try.underlying46 (by kernel_rfl : _ = some 1)) ?_
    refine WL.r rfl rfl rfl (rd_move rfl rfl) ?_
    refine WL.g rfl rfl rfl (cpys rfl rfl rfl (by first | exact .here | exact .t1 | exact .t2 | exact .t3 | exact .t4 | exact .t5 | exact .t6 | exact .t7) Try.underlying27 (by kernel_rfl) (m := (keyOf key).length) (by omega) (by simp; omega) (ys := K.map B) (by rw [← hK, List.take_zero, List.nil_append, Nat.zero_add, List.take_length, List.drop_replicate, List.map_append, List.map_replicate]; rfl)) ?_
    intro _
    refine WL.nil ?_
    refine WX.then_normal ?_
    refine WC.seq ?_
    refine WC.region ?_
    refine WL.r rfl rfl rfl (rd_sla rfl rfl Try.underlying46 (by kernel_rfl : _ = some 1)) ?_
    refine WL.r rfl rfl rfl (rd_move rfl rfl) ?_
    refine WL.g rfl rfl rfl (cpys rfl rfl rfl (by first | exact .here | exact .t1 | exact .t2 | exact .t3 | exact .t4 | exact .t5 | exact .t6 | exact .t7) Try.underlying27 (by kernel_rfl) (m := (keyOf key).length) (by omega) (by simp; omega) (ys := K.map B) (by rw [← hK, List.take_zero, List.nil_append, Nat.zero_add, List.take_length, List.drop_replicate, List.map_append, List.map_replicate]; rfl)) ?_
    intro _
    refine WL.nil ?_
    refine WX.then_normal ?_
    refine WC.seq ?_
    refine WC.seq ?_
    refine WC.region ?_
    refine WL.r rfl rfl rfl (rd_move rfl rfl) ?_
    refine WL.nil ?_
    refine WX.then_normal ?_
    refine WC.block ?_
    refine WC.loop (σ := Nat) (fun k => [(1, .string (S s)), (5, .pointer (some ⟨b5, 0, none⟩)), (6, .pointer (some ⟨b6, 0, none⟩)), (19, .int .i64 (k : Int))]) (fun k w' => k ≤ 64 ∧ St (fun _ => True) w [⟨some b6, ((K.take k).map (· ^^^ 92) ++ K.drop k).map B, 46⟩, ⟨some b5, ((K.take k).map (· ^^^ 54) ++ K.drop k).map B, 46⟩] [] w') (fun k => 64 - k) 0 (by repeat (first | exact sub_nil _ | refine sub_cons rfl ?_)) (fun w' h => ⟨by omega, h⟩) ?_
    intro k; refine WC.pu ?_; intro hk
    refine WC.seq ?_
    refine WC.region ?_
    refine WL.r rfl rfl rfl (rd_lss rfl rfl rfl) ?_
    refine WL.nil ?_
    refine WX.then_normal ?_
    refine WC.seq ?_
    refine WC.cond rfl (fun hc20 => ?_) (fun hc20 => ?_)
    · (try simp only [decide_eq_true_eq, decide_eq_false_iff_not, Bool.not_eq_true', Bool.not_eq_false', Bool.not_not, Int.not_lt, Int.not_le] at hc20)
      obtain ⟨c, hc⟩ : ∃ c, K[k]? = some c := ⟨_, List.getElem?_eq_getElem (by omega)⟩
      refine WC.skip ?_
      refine WX.then_normal ?_
      refine WC.seq ?_
      refine WC.block ?_
      refine WC.seq ?_
      refine WC.region ?_
      refine WL.r rfl rfl rfl (rd_move rfl rfl) ?_
      refine WL.r rfl rfl rfl (rd_assign rfl rfl) ?_
      refine WL.nil ?_
      refine WX.then_normal ?_
      refine WC.seq ?_
      refine WC.region ?_
      refine WL.r rfl rfl rfl (rd_move rfl rfl) ?_
      refine WL.r rfl rfl rfl (rd_iaa rfl rfl rfl Try.underlying46 (by kernel_rfl : _ = some 1) ?_ (by (try simp only [Int.toNat_natCast, Nat.mul_one, Nat.zero_add, Nat.add_zero, Nat.zero_mul, Int.reduceToNat, Nat.reduceAdd, Nat.reduceMul, Nat.reduceSub, Nat.sub_zero]); rfl)) ?_
      · omega
      refine WL.r rfl rfl rfl (ld rfl rfl (by first | exact .here | exact .t1 | exact .t2 | exact .t3 | exact .t4 | exact .t5 | exact .t6 | exact .t7) Try.underlying5 rfl (by exact map_here K (· ^^^ 54) k c hc)) ?_
      refine WL.r rfl rfl rfl (rd_xor rfl rfl rfl) ?_
      refine WL.set 25 rfl (v' := B (c ^^^ 54)) (congrArg (Value.int .u8) (xor_u8 c 54)) ?_
      refine WL.r rfl rfl rfl (rd_iaa rfl rfl rfl Try.underlying46 (by kernel_rfl : _ = some 1) ?_ (by (try simp only [Int.toNat_natCast, Nat.mul_one, Nat.zero_add, Nat.add_zero, Nat.zero_mul, Int.reduceToNat, Nat.reduceAdd, Nat.reduceMul, Nat.reduceSub, Nat.sub_zero]); rfl)) ?_
      · omega
      refine WL.g0 rfl rfl (st rfl rfl rfl (by first | exact .here | exact .t1 | exact .t2 | exact .t3 | exact .t4 | exact .t5 | exact .t6 | exact .t7) (by kernel_rfl) rfl ?_ rfl) ?_
      · simp; omega
      intro _
      refine WL.nil ?_
      refine WX.then_normal ?_
      refine WC.region ?_
      refine WL.r rfl rfl rfl (rd_move rfl rfl) ?_
      refine WL.r rfl rfl rfl (rd_iaa rfl rfl rfl Try.underlying46 (by kernel_rfl : _ = some 1) ?_ (by (try simp only [Int.toNat_natCast, Nat.mul_one, Nat.zero_add, Nat.add_zero, Nat.zero_mul, Int.reduceToNat, Nat.reduceAdd, Nat.reduceMul, Nat.reduceSub, Nat.sub_zero]); rfl)) ?_
      · omega
      refine WL.r rfl rfl rfl (ld rfl rfl (by first | exact .here | exact .t1 | exact .t2 | exact .t3 | exact .t4 | exact .t5 | exact .t6 | exact .t7) Try.underlying5 rfl (by exact map_here K (· ^^^ 92) k c hc)) ?_
      refine WL.r rfl rfl rfl (rd_xor rfl rfl rfl) ?_
      refine WL.set 30 rfl (v' := B (c ^^^ 92)) (congrArg (Value.int .u8) (xor_u8 c 92)) ?_
      refine WL.r rfl rfl rfl (rd_iaa rfl rfl rfl Try.underlying46 (by kernel_rfl : _ = some 1) ?_ (by (try simp only [Int.toNat_natCast, Nat.mul_one, Nat.zero_add, Nat.add_zero, Nat.zero_mul, Int.reduceToNat, Nat.reduceAdd, Nat.reduceMul, Nat.reduceSub, Nat.sub_zero]); rfl)) ?_
      · omega
      refine WL.g0 rfl rfl (st rfl rfl rfl (by first | exact .here | exact .t1 | exact .t2 | exact .t3 | exact .t4 | exact .t5 | exact .t6 | exact .t7) (by kernel_rfl) rfl ?_ rfl) ?_
      · simp; omega
      intro _
      refine WL.nil ?_
      refine WX.block_normal ?_
      refine WX.then_normal ?_
      refine WC.region ?_
      first
        | (refine WL.r rfl rfl rfl (rd_add64nl rfl rfl rfl ?_) ?_; focus (omega))
        | (refine WL.r rfl rfl rfl (rd_add64 rfl rfl rfl ?_) ?_; focus (omega))
      refine WL.r rfl rfl rfl (rd_move rfl rfl) ?_
      refine WL.nil ?_
      exact WX.loop (k + 1) (by omega) (by repeat (first | exact sub_nil _ | refine sub_cons rfl ?_)) (fun w' h => ⟨by omega, by rw [map_step K (· ^^^ 54) k c hc, map_step K (· ^^^ 92) k c hc] at h; exact h⟩)
    · (try simp only [decide_eq_true_eq, decide_eq_false_iff_not, Bool.not_eq_true', Bool.not_eq_false', Bool.not_not, Int.not_lt, Int.not_le] at hc20)
      refine WC.exit ?_
      refine WX.then_exit ?_
      refine WX.then_exit ?_
      refine WX.block_exit ?_
      obtain rfl : k = 64 := by omega
      rw [List.take_of_length_le (by omega), List.drop_eq_nil_of_le (by omega), List.append_nil, List.append_nil]
      refine WX.then_normal ?_
      refine WC.seq ?_
      refine WC.mix [0, 0, 0, 0, 0, 0, 1, 0, 1, 0] (by kernel_rfl) (by kernel_rfl) (fun w h => h.draw) ?_
      refine WM.r rfl rfl rfl (rd_sla rfl rfl Try.underlying46 (by kernel_rfl : _ = some 1)) ?_
      refine WM.r rfl rfl rfl (b2s (l := K.map (· ^^^ 92)) rfl rfl (by first | exact .here | exact .t1 | exact .t2 | exact .t3 | exact .t4 | exact .t5 | exact .t6 | exact .t7) Try.underlying27 Try.underlying5 Try.underlying9 ?_ ?_) ?_
      · rw [List.drop_zero, List.take_of_length_le (by simp [hKl])]
      · simp [hKl]
      refine WM.r rfl rfl rfl (rd_sla rfl rfl Try.underlying46 (by kernel_rfl : _ = some 1)) ?_
      refine WM.r rfl rfl rfl (b2s (l := K.map (· ^^^ 54)) rfl rfl (by first | exact .here | exact .t1 | exact .t2 | exact .t3 | exact .t4 | exact .t5 | exact .t6 | exact .t7) Try.underlying27 Try.underlying5 Try.underlying9 ?_ ?_) ?_
      · rw [List.drop_zero, List.take_of_length_le (by simp [hKl])]
      · simp [hKl]
      refine WM.r rfl rfl rfl (rd_move rfl rfl) ?_
      refine WM.r rfl rfl rfl (rd_cat rfl rfl rfl ?_) ?_
      · simp [hKl]; omega
      refine WM.g rfl rfl rfl (og_call rfl rfl (by kernel_rfl) (keep_val fun w _ => sum_ok _ (by simp [hKl]; omega) w)) (fun _ _ h => by first | exact h | exact h.2 | exact h.sub (by repeat (first | exact List.Sublist.refl _ | apply List.Sublist.cons)) (fun _ h => by simp [*]) | exact h.2.sub (by repeat (first | exact List.Sublist.refl _ | apply List.Sublist.cons)) (fun _ h => by simp [*])) ?_
      intro _
      refine WM.r rfl rfl rfl (rd_cat rfl rfl rfl ?_) ?_
      · simp [hKl, sha_len]
      refine WM.g rfl rfl rfl (og_call rfl rfl (by kernel_rfl) (keep_val fun w _ => sum_ok _ (by simp [hKl, sha_len]) w)) (fun _ _ h => by first | exact h | exact h.2 | exact h.sub (by repeat (first | exact List.Sublist.refl _ | apply List.Sublist.cons)) (fun _ h => by simp [*]) | exact h.2.sub (by repeat (first | exact List.Sublist.refl _ | apply List.Sublist.cons)) (fun _ h => by simp [*])) ?_
      intro _
      refine WM.r rfl rfl rfl (rd_assign rfl rfl) ?_
      refine WM.nil ?_
      refine WX.then_normal ?_
      refine WC.ret ?_
      exact WX.ret1 rfl rfl fun w' hS => ⟨by rw [mac, hx1, hx2], hS.below⟩
end Go.Proofs.Ytnhlgpkdbcnocaa
