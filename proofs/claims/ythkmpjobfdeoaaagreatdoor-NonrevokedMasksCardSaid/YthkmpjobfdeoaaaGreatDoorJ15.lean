/-
  Parts of the walk: Hash3 Ref1 Ref2 Mac.
-/
import Derived.Test.YthkmpjobfdeoaaaGreatDoorJ14
import Derived.Laws.BitsAllLaws
namespace Go.Proofs.YthkmpjobfdeoaaaGreatDoor
open Go.RowKit
set_option linter.unusedSimpArgs false
set_option linter.unusedVariables false
set_option maxHeartbeats 600000
set_option maxRecDepth 20000
theorem St.snoc {ok : Nat → Prop} {w0 w : World} {r : List Ent} {fs : List Fact} {b b2 : Nat} {e : TypeId} {m : List UInt8} {c : UInt8} {v : Value} {sp : List Value} (h : St ok w0 (⟨some b2, [v], e⟩ :: ⟨some b, (m.map B ++ [v]) ++ sp, e⟩ :: r) fs w) (hv : v = B c) : St ok w0 (⟨some b, (m ++ [c]).map B ++ sp, e⟩ :: r) fs w := by
 subst hv
 rw [List.map_append]
 exact h.sub (List.sublist_cons_self _ _) (fun _ h => h)
theorem byte_shr (M q : Nat) (hM : M < 18446744073709551616) (hq : q ≤ 7) : IntKind.u8.wrap ((M : Int).fdiv (2 ^ (min (56 - 8 * (q : Int)).toNat IntKind.u64.bits))) = ((byteAt M (7 - q)).toNat : Int) := by
 have e1 : min (56 - 8 * (q : Int)).toNat IntKind.u64.bits = 8 * (7 - q) := by simp [IntKind.bits]; omega
 rw [e1]
 have e2 : ((2 : Int) ^ (8 * (7 - q))) = ((2 ^ (8 * (7 - q)) : Nat) : Int) := by simp
 rw [e2, Int.fdiv_eq_ediv_of_nonneg _ (Int.natCast_nonneg _), ← Int.natCast_ediv, IntKind.wrap_u8, byteAt]
 rw [UInt8.toNat_ofNat']
 generalize M / 2 ^ (8 * (7 - q)) = z
 omega
theorem byte_W (x : W) (i : Nat) : IntKind.u8.wrap ((x >>> (8 * i)).toNat : Int) = ((byteAt x.toNat i).toNat : Int) := by
 rw [BitVec.toNat_ushiftRight, Nat.shiftRight_eq_div_pow, IntKind.wrap_u8, byteAt, UInt8.toNat_ofNat']
 generalize x.toNat / 2 ^ (8 * i) = z
 omega
theorem byte_W0 (x : W) : IntKind.u8.wrap (x.toNat : Int) = ((byteAt x.toNat 0).toNat : Int) := by
 have := byte_W x 0; simpa using this
theorem len8_take (M q : Nat) (hq : q ≤ 7) : (len8 M).take (q + 1) = (len8 M).take q ++ [byteAt M (7 - q)] := by
 have : q = 0 ∨ q = 1 ∨ q = 2 ∨ q = 3 ∨ q = 4 ∨ q = 5 ∨ q = 6 ∨ q = 7 := by omega
 rcases this with rfl | rfl | rfl | rfl | rfl | rfl | rfl | rfl <;> rfl
theorem pad_len (l : List UInt8) : ∃ n, (pad l).length = 64 * n := by
 refine ⟨(l.length + 1 + zeros l.length + 8) / 64, ?_⟩
 have : (pad l).length = l.length + 1 + zeros l.length + 8 := by simp [pad, len8]; omega
 rw [this]; unfold zeros; omega
theorem chunks_succ (n : Nat) (x : List W) (m : List UInt8) : chunks (n + 1) x m = chunks n (compress x (m.take 64)) (m.drop 64) := rfl
theorem compress_len (x : List W) (b : List UInt8) (h : x.length = 8) : (compress x b).length = 8 := by
 unfold compress
 have := rounds_len KK (sched 48 (words b)) 64 x h
 rw [addW_len _ _ (by omega)]; exact this
theorem outW_take (X : List W) (k : Nat) (h : k < X.length) : outW (X.take (k + 1)) = outW (X.take k) ++ bytes4 (X.getD k 0) := by
 have hx := get_getD X k 0 h
 rw [List.take_add_one, hx]
 simp [outW]
theorem outW_len (X : List W) : (outW X).length = 4 * X.length := by
 induction X with
 | nil => rfl
 | cons x X ih => simp only [outW, List.flatMap_cons, List.length_append, List.length_cons] at *; rw [ih]; simp [bytes4]; omega
structure G4 where
 k : Nat
 ob : Option Nat
 cap : Nat
 spare : List Value
structure G3 where
 q : Nat
 ad : Option Addr
 x : List W
theorem sum_ok (l : List UInt8) (hl : l.length ≤ 1000000) (w : World) :
  Cw 233 #[.string (S l)] w (.string (S (sha l))) := by
 have hz : zeros l.length = (119 - l.length % 64) % 64 := rfl
 have hpl : (pad l).length = l.length + 1 + zeros l.length + 8 := by simp [pad, len8]; omega
 refine enter (S := St (fun _ => True) w [] []) (L := [(0, .string (S l))]) Tryz.func233 rfl Tryz.ntmps233 rfl (Ac rfl (An _)) (St.start (fun _ _ => trivial) (by simp)) ?_
 refine Cq (Cg (Ka rfl (Nn (Xa (Cq (Cg (Km rfl (Kq rfl (rd_slen rfl rfl u9) (Km rfl (Kq rfl (rd_slen rfl rfl u9) ?_))))))))))
 first
  | (refine Kq rfl (Rz rfl rfl rfl ?_) ?_; focus (omega))
  | (refine Kq rfl (rd_add64 rfl rfl rfl ?_) ?_; focus (omega))
 refine Kh rfl (og_mk rfl rfl rfl u136 (by kernel_rfl : _ = some (some (.int .u8 0), 1, 1)) rfl ?_ (by (try simp only [Int.toNat_natCast, Nat.mul_one, Nat.zero_add, Nat.add_zero, Nat.zero_mul, Int.reduceToNat, Nat.reduceAdd, Nat.reduceMul, Nat.reduceSub, Nat.sub_zero]); rfl) (by (try simp only [Int.toNat_natCast, Nat.mul_one, Nat.zero_add, Nat.add_zero, Nat.zero_mul, Int.reduceToNat, Nat.reduceAdd, Nat.reduceMul, Nat.reduceSub, Nat.sub_zero]); rfl)) ?_
 ·omega
 intro b15
 refine Ka rfl (Nn (Xa (Cq (Cg (Km rfl (Km rfl ?_))))))
 refine Kh rfl (cpys rfl rfl rfl (by first | exact .here | exact .t1 | exact .t2 | exact .t3 | exact .t4 | exact .t5 | exact .t6 | exact .t7) u136 (by kernel_rfl) (m := l.length) (by simp) (by simp) (ys := l.map B ++ List.replicate 72 (B 0)) (by simp [B])) ?_
 intro _
 refine Nn (Xa (Cq (Cg (Km rfl ?_))))
 refine Kh rfl (og_bs1 rfl rfl u136 (by kernel_rfl : _ = some (some (.int .u8 0), 1, 1)) rfl (by simp only [List.map]; rfl) rfl rfl ?_ (by decide)) ?_
 ·simp [Value.cells]
 intro b20
 refine Kh rfl (app rfl u136 (by kernel_rfl : _ = some (some (.int .u8 0), 1, 1)) rfl (by first | exact .here | exact .t1 | exact .t2 | exact .t3 | exact .t4 | exact .t5 | exact .t6 | exact .t7) (by rfl) (by rfl) (by first | exact .here | exact .t1 | exact .t2 | exact .t3 | exact .t4 | exact .t5 | exact .t6 | exact .t7) (by rfl) ?_ ?_) ?_
 ·(refine ⟨?_, ?_, ?_, ?_, ?_⟩ <;> (try simp) <;> omega)
 ·simp [Value.oneCell']
 intro g21
 refine WL.pu ?_
 intro hg21
 refine WL.st (S' := St (fun _ => True) w [⟨some g21.b, (l ++ [128]).map B ++ g21.spare, 5⟩] []) (fun w' h => h.snoc rfl) ?_
 refine Ka rfl (Nn (Xa (Cq (Cb ?_))))
 refine WC.loop (σ := Nat × App) (fun p => [(0, .string (S l)), (3, .slice (some ⟨p.2.b, 0, none⟩) (l.length + 1 + p.1) p.2.cap)]) (fun p w' => (p.1 ≤ zeros l.length ∧ p.2.cap = l.length + 1 + p.1 + p.2.spare.length) ∧ St (fun _ => True) w [⟨some p.2.b, (l ++ [128] ++ List.replicate p.1 0).map B ++ p.2.spare, 5⟩] [] w') (fun p => zeros l.length - p.1) (0, g21) (by repeat (first | exact S0 _ | refine Sc rfl ?_)) (fun w' h => ⟨⟨by simp, by simpa using hg21.2⟩, by simpa using h⟩) ?_
 rintro ⟨j, g⟩; dsimp only; refine WC.pu ?_; rintro ⟨hj, hg⟩
 refine Cq (Cq (Cg (Km rfl (Kq rfl (rd_len rfl rfl u136) ?_))))
 first
  | (refine Kq rfl (rd_rem64nl rfl rfl rfl ?_) ?_; focus (omega))
  | (refine Kq rfl (rd_rem64 rfl rfl rfl ?_) ?_; focus (omega))
 refine Kq rfl (rd_neq rfl rfl rfl) (Nn (Xa ?_))
 refine Cd rfl (fun hc25 => ?_) (fun hc25 => ?_)
 ·(try simp only [decide_eq_true_eq, decide_eq_false_iff_not, Bool.not_eq_true', Bool.not_eq_false', Bool.not_not, Int.not_lt, Int.not_le] at hc25)
  refine Ck (Xa (Cb (Cg (Km rfl ?_))))
  refine Kh rfl (og_bs1 rfl rfl u136 (by kernel_rfl : _ = some (some (.int .u8 0), 1, 1)) rfl (by simp only [List.map]; rfl) rfl rfl ?_ (by decide)) ?_
  ·simp [Value.cells]
  intro b27
  refine Kh rfl (app rfl u136 (by kernel_rfl : _ = some (some (.int .u8 0), 1, 1)) rfl (by first | exact .here | exact .t1 | exact .t2 | exact .t3 | exact .t4 | exact .t5 | exact .t6 | exact .t7) (by rfl) (by rfl) (by first | exact .here | exact .t1 | exact .t2 | exact .t3 | exact .t4 | exact .t5 | exact .t6 | exact .t7) (by rfl) ?_ ?_) ?_
  ·(refine ⟨?_, ?_, ?_, ?_, ?_⟩ <;> (try simp) <;> omega)
  ·simp [Value.oneCell']
  intro g28
  refine WL.pu ?_
  intro hg28
  refine WL.st (S' := St (fun _ => True) w [⟨some g28.b, (l ++ [128] ++ List.replicate (j + 1) 0).map B ++ g28.spare, 5⟩] []) (fun w' h => by have := h.snoc (c := 0) rfl; rw [List.append_assoc, ← List.replicate_succ'] at this; exact this) ?_
  refine Ka rfl (Nn (Xd ?_))
  exact WX.loop (j + 1, g28) (by show zeros l.length - (j + 1) < zeros l.length - j; omega) (by repeat (first | exact S0 _ | refine Sc rfl ?_)) (fun w' h => ⟨⟨by show j + 1 ≤ _; omega, by have := hg28.2; show g28.cap = _; omega⟩, h⟩)
 ·(try simp only [decide_eq_true_eq, decide_eq_false_iff_not, Bool.not_eq_true', Bool.not_eq_false', Bool.not_not, Int.not_lt, Int.not_le] at hc25)
  refine Cx (Xc (Xc (Xe ?_)))
  obtain rfl : j = zeros l.length := by omega
  refine Xa (Cq (Cg (Km rfl (Kq rfl (rd_slen rfl rfl u9) (Kq rfl (rd_conv rfl rfl u3 u74) (Kq rfl (rd_mul rfl rfl rfl) ?_))))))
  refine Ns 32 rfl (v' := .int .u64 ((8 * l.length : Nat) : Int)) (congrArg (Value.int .u64) (by rw [IntKind.wrap_u64, IntKind.wrap_u64]; omega)) ?_
  refine Ka rfl (Nn (Xa (Cq (Cq (Cg (Ka rfl (Nn (Xa (Cb ?_)))))))))
  refine WC.loop (σ := Nat × App) (fun p => [(4, .int .u64 ((8 * l.length : Nat) : Int)), (5, .int .i64 (56 - 8 * (p.1 : Int))), (3, .slice (some ⟨p.2.b, 0, none⟩) (l.length + 1 + zeros l.length + p.1) p.2.cap)]) (fun p w' => (p.1 ≤ 8 ∧ p.2.cap = l.length + 1 + zeros l.length + p.1 + p.2.spare.length) ∧ St (fun _ => True) w [⟨some p.2.b, (l ++ [128] ++ List.replicate (zeros l.length) 0 ++ (len8 (8 * l.length)).take p.1).map B ++ p.2.spare, 5⟩] [] w') (fun p => 8 - p.1) (0, g) (by repeat (first | exact S0 _ | refine Sc rfl ?_)) (fun w' h => ⟨⟨by simp, by simpa using hg⟩, by simpa using h⟩) ?_
  rintro ⟨q, g2⟩; dsimp only; refine WC.pu ?_; rintro ⟨hq, hg2⟩
  refine Cq (Cq (Cg (Km rfl (Kq rfl (rd_geq rfl rfl rfl) (Nn (Xa ?_))))))
  refine Cd rfl (fun hc34 => ?_) (fun hc34 => ?_)
  ·(try simp only [decide_eq_true_eq, decide_eq_false_iff_not, Bool.not_eq_true', Bool.not_eq_false', Bool.not_not, Int.not_lt, Int.not_le] at hc34)
   refine Ck (Xa (Cq (Cb (Cg (Km rfl (Km rfl (Km rfl ?_)))))))
   refine Kq rfl (rd_shr rfl rfl rfl ?_) ?_
   ·first | decide | omega
   refine Kq rfl (rd_conv rfl rfl u74 u5) (Ns 41 rfl (v' := B (byteAt (8 * l.length) (7 - q))) (congrArg (Value.int .u8) (byte_shr (8 * l.length) q (by omega) (by omega))) ?_)
   refine Kh rfl (og_bs1 rfl rfl u136 (by kernel_rfl : _ = some (some (.int .u8 0), 1, 1)) rfl (by simp only [List.map]; rfl) rfl rfl ?_ (by decide)) ?_
   ·simp [B, Value.cells]
   intro b42
   refine Kh rfl (app rfl u136 (by kernel_rfl : _ = some (some (.int .u8 0), 1, 1)) rfl (by first | exact .here | exact .t1 | exact .t2 | exact .t3 | exact .t4 | exact .t5 | exact .t6 | exact .t7) (by rfl) (by rfl) (by first | exact .here | exact .t1 | exact .t2 | exact .t3 | exact .t4 | exact .t5 | exact .t6 | exact .t7) (by rfl) ?_ ?_) ?_
   ·(refine ⟨?_, ?_, ?_, ?_, ?_⟩ <;> (try simp [len8]) <;> omega)
   ·simp [B, Value.oneCell']
   intro g43
   refine WL.pu ?_
   intro hg43
   refine WL.st (S' := St (fun _ => True) w [⟨some g43.b, (l ++ [128] ++ List.replicate (zeros l.length) 0 ++ (len8 (8 * l.length)).take (q + 1)).map B ++ g43.spare, 5⟩] []) (fun w' h => by have := h.snoc (c := byteAt (8 * l.length) (7 - q)) rfl; rw [List.append_assoc, ← len8_take _ q (by omega)] at this; exact this) ?_
   refine Ka rfl (Nn (Xd (Xa (Cg (Km rfl ?_)))))
   first
    | (refine Kq rfl (rd_sub64nl rfl rfl rfl ?_) ?_; focus (omega))
    | (refine Kq rfl (rd_sub64 rfl rfl rfl ?_) ?_; focus (omega))
   refine Ka rfl (Nn ?_)
   exact WX.loop (q + 1, g43) (by show 8 - (q + 1) < 8 - q; omega) (by repeat (first | exact S0 _ | refine Sc rfl ?_ | refine Sc (by show some (Value.int _ _) = some (Value.int _ _); congr 2; omega) ?_)) (fun w' h => ⟨⟨by show q + 1 ≤ _; omega, by have := hg43.2; show g43.cap = _; omega⟩, h⟩)
  ·(try simp only [decide_eq_true_eq, decide_eq_false_iff_not, Bool.not_eq_true', Bool.not_eq_false', Bool.not_not, Int.not_lt, Int.not_le] at hc34)
   refine Cx (Xc (Xc (Xe ?_)))
   obtain rfl : q = 8 := by omega
   obtain ⟨m, hm⟩ : ∃ m, pad l = m := ⟨_, rfl⟩
   have hmm : l ++ [128] ++ List.replicate (zeros l.length) 0 ++ (len8 (8 * l.length)).take 8 = m := by rw [← hm]; rfl
   rw [hmm]
   obtain ⟨nb, hnb⟩ := pad_len l
   have hlen : l.length + 1 + zeros l.length + 8 = 64 * nb := by omega
   rw [hm] at hnb
   refine Xa (Cq (Cg ?_))
   refine Ku rfl (Oc rfl rfl (Kv fun w _ => first_ok w)) ?_
   refine Kh rfl (Oz [.int .u32 0, .int .u32 0, .int .u32 0, .int .u32 0, .int .u32 0, .int .u32 0, .int .u32 0, .int .u32 0] rfl) ?_
   intro b6
   refine Ng rfl rfl (sta rfl rfl rfl (by first | exact .here | exact .t1 | exact .t2 | exact .t3 | exact .t4 | exact .t5 | exact .t6 | exact .t7) ?_ ?_ ?_) ?_
   ·kernel_rfl
   ·exact u32_one _
   ·first | rfl | simp
   intro _
   refine Nn (Xa (Cq (Cb ?_)))
   refine WC.loop (σ := G3) (fun p => [(6, .pointer (some ⟨b6, 0, none⟩)), (3, .slice p.ad (l.length + 1 + zeros l.length + 8 - 64 * p.q) (g2.cap - 64 * p.q))]) (fun p w' => ((p.q ≤ nb ∧ p.x.length = 8) ∧ (p.q < nb → p.ad = some ⟨g2.b, 64 * p.q, none⟩) ∧ chunks nb H0 m = chunks (nb - p.q) p.x (m.drop (64 * p.q))) ∧ St (fun _ => True) w [⟨some b6, p.x.map u32, 251⟩, ⟨some g2.b, m.map B ++ g2.spare, 5⟩] [] w') (fun p => nb - p.q) ⟨0, some ⟨g2.b, 0, none⟩, H0⟩ (by repeat (first | exact S0 _ | refine Sc rfl ?_)) (fun w' h => ⟨⟨⟨by simp, rfl⟩, fun _ => rfl, by simp⟩, h⟩) ?_
   rintro ⟨q, ad, x⟩; dsimp only; refine WC.pu ?_; rintro ⟨⟨hq, hx⟩, had, hch⟩
   refine Cq (Cq (Cg (Km rfl (Kq rfl (rd_len rfl rfl u136) (Kq rfl (rd_gtr rfl rfl rfl) (Nn (Xa ?_)))))))
   refine Cd rfl (fun hc47 => ?_) (fun hc47 => ?_)
   ·(try simp only [decide_eq_true_eq, decide_eq_false_iff_not, Bool.not_eq_true', Bool.not_eq_false', Bool.not_not, Int.not_lt, Int.not_le] at hc47)
    have hqn : q < nb := by omega
    obtain rfl := had hqn
    have hblk : (m.drop (64 * q)).length = 64 * nb - 64 * q := by simp [hnb]
    refine Ck (Xa (Cq (Cb ?_)))
    refine WC.mix [0, 0, 0, 1, 2] (by kernel_rfl) (by kernel_rfl) (fun w h => h.draw) ?_
    refine WM.r rfl rfl rfl (lda rfl rfl (by first | exact .here | exact .t1 | exact .t2 | exact .t3 | exact .t4 | exact .t5 | exact .t6 | exact .t7) u251 rfl ?_) ?_
    ·rw [List.length_map, hx]; kernel_rfl
    refine WM.r rfl rfl rfl (Rm rfl rfl) ?_
    refine WM.r rfl rfl rfl (rd_slt rfl rfl rfl u136 (by kernel_rfl : _ = some 1) ?_ (by (try simp only [Int.toNat_natCast, Nat.mul_one, Nat.zero_add, Nat.add_zero, Nat.zero_mul, Int.reduceToNat, Nat.reduceAdd, Nat.reduceMul, Nat.reduceSub, Nat.sub_zero]); rfl)) ?_
    ·omega
    refine WM.g rfl rfl rfl (Oc rfl rfl (Kv fun w hS => after_ok x hx ((m.drop (64 * q)).take 64) (by simp; omega) g2.b (64 * q) (g2.cap - 64 * q) (by omega) w (hS.sl_of (cs := m.map B ++ g2.spare) (by first | exact .here | exact .t1 | exact .t2) (by rw [List.drop_append_of_le_length (by simp; omega), List.take_append_of_le_length (by simp; omega), ← List.map_drop, ← List.map_take]; congr 1; simp; try omega)))) (fun _ _ h => by first | exact h | exact ⟨_, h⟩ | exact ⟨_, h.2⟩ | exact h.2 | exact h.sub (by repeat (first | exact List.Sublist.refl _ | apply List.Sublist.cons)) (fun _ h => by simp [*]) | exact h.2.sub (by repeat (first | exact List.Sublist.refl _ | apply List.Sublist.cons)) (fun _ h => by simp [*])) ?_
    intro _
    refine WM.h0 rfl rfl (sta rfl rfl rfl (by first | exact .here | exact .t1 | exact .t2 | exact .t3 | exact .t4 | exact .t5 | exact .t6 | exact .t7) ?_ ?_ ?_) ?_
    ·rw [List.length_map, compress_len _ _ hx]; kernel_rfl
    ·exact u32_one _
    ·rw [List.length_map, compress_len _ _ hx, List.length_map, hx]
    intro _
    refine WM.nil ?_
    refine Xd (Xa (Cg (Km rfl ?_)))
    refine Kq rfl (rd_slf rfl rfl rfl u136 (by kernel_rfl : _ = some 1) ?_ (by (try simp only [Int.toNat_natCast, Nat.mul_one, Nat.zero_add, Nat.add_zero, Nat.zero_mul, Int.reduceToNat, Nat.reduceAdd, Nat.reduceMul, Nat.reduceSub, Nat.sub_zero]); rfl) (by (try simp only [Int.toNat_natCast, Nat.mul_one, Nat.zero_add, Nat.add_zero, Nat.zero_mul, Int.reduceToNat, Nat.reduceAdd, Nat.reduceMul, Nat.reduceSub, Nat.sub_zero]); rfl) (by (try simp only [Int.toNat_natCast, Nat.mul_one, Nat.zero_add, Nat.add_zero, Nat.zero_mul, Int.reduceToNat, Nat.reduceAdd, Nat.reduceMul, Nat.reduceSub, Nat.sub_zero]); rfl)) ?_
    ·omega
    refine Ka rfl (Nn ?_)
    exact WX.loop ⟨q + 1, cut (some ⟨g2.b, 64 * q, none⟩) 64 (g2.cap - 64 * q) 1, compress x ((m.drop (64 * q)).take 64)⟩ (by show nb - (q + 1) < nb - q; omega) (by repeat (first | exact S0 _ | refine Sc (by show some (Value.slice _ _ _) = some (Value.slice _ _ _); congr 2 <;> omega) ?_ | refine Sc rfl ?_)) (fun w' h => ⟨⟨⟨by show q + 1 ≤ nb; omega, compress_len _ _ hx⟩, fun (hlt : q + 1 < nb) => by show cut _ _ _ _ = some ⟨g2.b, 64 * (q + 1), none⟩; rw [cut, if_neg (by omega), Option.map_some, Addr.add_lit]; congr 2; try omega, by rw [hch, show nb - q = (nb - (q + 1)) + 1 by omega, chunks_succ, List.drop_drop]; congr 1⟩, h⟩)
   ·(try simp only [decide_eq_true_eq, decide_eq_false_iff_not, Bool.not_eq_true', Bool.not_eq_false', Bool.not_not, Int.not_lt, Int.not_le] at hc47)
    refine Cx (Xc (Xc (Xe ?_)))
    obtain rfl : q = nb := by omega
    have hfin : sha l = outW x := by rw [sha, hm, hnb, Nat.mul_div_cancel_left _ (by omega), hch, Nat.sub_self]; rfl
    refine Xa (Cq (Cg (Ka rfl (Nn (Xa (Cq (Cq (Cg ?_))))))))
    refine Kq rfl (lda rfl rfl (by first | exact .here | exact .t1 | exact .t2 | exact .t3 | exact .t4 | exact .t5 | exact .t6 | exact .t7) u251 rfl ?_) ?_
    ·rw [List.length_map, hx]; kernel_rfl
    refine Km rfl (Nn (Xa (Cb ?_)))
    refine WC.loop (σ := G4) (fun p => [(54, .agg (x.map u32).toArray), (55, .int .i64 (p.k : Int)), (7, .slice (p.ob.map fun b => ⟨b, 0, none⟩) (4 * p.k) p.cap)]) (fun p w' => (p.k ≤ 8 ∧ (p.k = 0 ∨ ∃ b, p.ob = some b) ∧ p.cap = 4 * p.k + p.spare.length) ∧ St (fun _ => True) w [⟨p.ob, (outW (x.take p.k)).map B ++ p.spare, 5⟩] [] w') (fun p => 8 - p.k) ⟨0, none, 0, []⟩ (by repeat (first | exact S0 _ | refine Sc rfl ?_)) (fun w' h => ⟨⟨by simp, .inl rfl, rfl⟩, (h.sub (own' := []) (fs' := []) (by simp) (by simp)).nil _⟩) ?_
    rintro ⟨k, ob, cap4, sp4⟩; dsimp only; refine WC.pu ?_; rintro ⟨hk, hob, hcap4⟩
    refine Cq (Cg (Kq rfl (rd_lss rfl rfl rfl) (Nn (Xa (Cq ?_)))))
    refine Cd rfl (fun hc56 => ?_) (fun hc56 => ?_)
    ·(try simp only [decide_eq_true_eq, decide_eq_false_iff_not, Bool.not_eq_true', Bool.not_eq_false', Bool.not_not, Int.not_lt, Int.not_le] at hc56)
     refine Ck (Xa (Cq (Cb (Cq (Cg ?_)))))
     refine Kq rfl (rd_aidx rfl rfl rfl u251 u206 rfl (by kernel_rfl) ?_ (by rw [List.getElem?_map, get_getD x _ 0 (by omega)]; rfl)) ?_
     ·omega
     refine Ka rfl (Nn (Xa (Cg (Km rfl (Km rfl (Kq rfl (rdW_shr rfl rfl rfl (by decide)) (Kq rfl (rd_conv rfl rfl u206 u5) (Ns 61 rfl (v' := B (byteAt (x.getD k 0).toNat 3)) (congrArg (Value.int .u8) (byte_W (x.getD k 0) 3)) (Km rfl (Kq rfl (rdW_shr rfl rfl rfl (by decide)) (Kq rfl (rd_conv rfl rfl u206 u5) (Ns 64 rfl (v' := B (byteAt (x.getD k 0).toNat 2)) (congrArg (Value.int .u8) (byte_W (x.getD k 0) 2)) (Km rfl (Kq rfl (rdW_shr rfl rfl rfl (by decide)) (Kq rfl (rd_conv rfl rfl u206 u5) (Ns 67 rfl (v' := B (byteAt (x.getD k 0).toNat 1)) (congrArg (Value.int .u8) (byte_W (x.getD k 0) 1)) (Km rfl (Kq rfl (rd_conv rfl rfl u206 u5) ?_))))))))))))))))))
     refine Ns 69 rfl (v' := B (byteAt (x.getD k 0).toNat 0)) (congrArg (Value.int .u8) (byte_W0 (x.getD k 0))) ?_
     refine Kh rfl (og_bs1 rfl rfl u136 (by kernel_rfl : _ = some (some (.int .u8 0), 1, 1)) rfl (by simp only [List.map]; rfl) rfl rfl ?_ (by decide)) ?_
     ·simp [B, Value.cells]
     intro b70
     refine Kh rfl (app rfl u136 (by kernel_rfl : _ = some (some (.int .u8 0), 1, 1)) rfl (by first | exact .here | exact .t1 | exact .t2 | exact .t3 | exact .t4 | exact .t5 | exact .t6 | exact .t7) (by rfl) (by rfl) (by first | exact .here | exact .t1 | exact .t2 | exact .t3 | exact .t4 | exact .t5 | exact .t6 | exact .t7) (by rfl) ?_ ?_) ?_
     ·(refine ⟨?_, ?_, ?_, ?_, ?_⟩ <;> (try simp [outW_len]) <;> omega)
     ·simp [B, Value.oneCell']
     intro g71
     refine WL.pu ?_
     intro hg71
     refine Ka rfl (Nn (Xd (Xa (Cg ?_))))
     first
      | (refine Kq rfl (Rz rfl rfl rfl ?_) ?_; focus (omega))
      | (refine Kq rfl (rd_add64 rfl rfl rfl ?_) ?_; focus (omega))
     refine Km rfl (Nn ?_)
     exact WX.loop ⟨k + 1, some g71.b, g71.cap, g71.spare⟩ (by show 8 - (k + 1) < 8 - k; omega) (by repeat (first | exact S0 _ | refine Sc rfl ?_)) (fun w' h => ⟨⟨by show k + 1 ≤ 8; omega, .inr ⟨_, rfl⟩, by have := hg71.2; show g71.cap = _; omega⟩, by rw [outW_take x k (by omega), List.map_append]; exact h.sub (List.sublist_cons_self _ _) (fun _ h => h)⟩)
    ·(try simp only [decide_eq_true_eq, decide_eq_false_iff_not, Bool.not_eq_true', Bool.not_eq_false', Bool.not_not, Int.not_lt, Int.not_le] at hc56)
     refine Cx (Xc (Xc (Xe ?_)))
     obtain rfl : k = 8 := by omega
     obtain ⟨b9, rfl⟩ : ∃ b, ob = some b := by rcases hob with h | h; omega; exact h
     rw [List.take_of_length_le (by omega)]
     refine Xa (Cq (Cg (Km rfl ?_)))
     refine Kq rfl (b2s (l := outW x) rfl rfl (by first | exact .here | exact .t1 | exact .t2 | exact .t3 | exact .t4 | exact .t5 | exact .t6 | exact .t7) u136 u5 u9 ?_ ?_) ?_
     ·simp [outW_len, hx]
     ·simp [outW_len, hx]
     refine Ka rfl (Nn (Xa (Ce ?_)))
     refine WX.ret1 rfl rfl fun w' hS => ⟨by rw [hfin], hS.below⟩
theorem sha_len (l : List UInt8) : (sha l).length = 32 := by
 have : ∀ (n : Nat) (x : List W) (m : List UInt8), x.length = 8 → (chunks n x m).length = 8 := by
  intro n
  induction n with
  | zero => intro x m h; exact h
  | succ n ih => intro x m h; exact ih _ _ (compress_len _ _ h)
 rw [sha, outW_len, this _ _ _ rfl]
theorem keyOf_len (key : List UInt8) : (keyOf key).length ≤ 64 := by
 unfold keyOf; split
 ·rw [sha_len]; omega
 ·omega
theorem right_ok (x : W) (n : Nat) (h0 : 0 < n) (h : n < 32) (w : World) : Cw 247 #[u32 x, .int .i64 (n : Int)] w (u32 (rr x n)) := by
 refine enter (S := St (fun _ => True) w [] []) (L := [(0, u32 x), (1, .int .i64 (n : Int))]) Tryz.func247 rfl Tryz.ntmps247 rfl (Ac rfl (Ac rfl (An _))) (St.start (fun _ _ => trivial) (by simp)) ?_
 refine Cq (Cg (Ka rfl (Nn (Xa (Cq ?_)))))
 refine WC.mix [0, 0, 0, 0, 0, 0, 0, 0, 0] (by kernel_rfl) (by kernel_rfl) (fun w h => h.draw) ?_
 refine WM.r rfl rfl rfl (Rm rfl rfl) ?_
 refine WM.r rfl rfl rfl (Rm rfl rfl) ?_
 refine WM.r rfl rfl rfl (rd_shr rfl rfl rfl ?_) ?_
 ·first | decide | omega
 refine WM.set 7 rfl (v' := u32 (x >>> n)) (congrArg (Value.int .u32) (by rw [Int.toNat_natCast, show min n IntKind.u32.bits = n by simp [IntKind.bits]; omega, shr_W])) ?_
 refine WM.r rfl rfl rfl (Rm rfl rfl) ?_
 refine WM.r rfl rfl rfl (Rm rfl rfl) ?_
 first
  | (refine WM.r rfl rfl rfl (rd_sub64ln rfl rfl rfl ?_) ?_; focus (omega))
  | (refine WM.r rfl rfl rfl (rd_sub64 rfl rfl rfl ?_) ?_; focus (omega))
 refine WM.r rfl rfl rfl (rd_shl rfl rfl rfl ?_) ?_
 ·first | decide | omega
 refine WM.set 11 rfl (v' := u32 (x <<< (32 - n))) (congrArg (Value.int .u32) (by rw [Int.toNat_natCast, show min (32 - n) IntKind.u32.bits = 32 - n by simp [IntKind.bits], shl_W _ _ (by omega)])) ?_
 refine WM.r rfl rfl rfl (rdW_or rfl rfl rfl) ?_
 refine WM.r rfl rfl rfl (Ra rfl rfl) ?_
 refine WM.nil ?_
 refine Xa (Ce ?_)
 exact WX.ret1 rfl rfl fun w' hS => ⟨rfl, hS.below⟩
theorem right_lit (x : W) (n : Nat) (h0 : 0 < n) (h : n < 32) (w : World) : Cw 247 #[u32 x, .int .i64 (@OfNat.ofNat Int n instOfNat)] w (u32 (rr x n)) := right_ok x n h0 h w
theorem rconst_ok (ok : Nat → Prop) (w : World) (hok : ∀ b, w.heap.size ≤ b → ok b) : Calls Tryz.prog 246 #[] w fun e w' => ∃ b : Nat, e = .returned (.slice (some ⟨b, 0, none⟩) 64 64) ∧ Below w.heap.size w w' ∧ ∀ x ∈ [Fact.sl (some ⟨b, 0, none⟩) (KK.map u32)], x.holds ok w' := by
 refine enter (S := St ok w [] []) (L := []) Tryz.func246 rfl Tryz.ntmps246 rfl (An _) (St.start hok (by simp)) ?_
 refine Cq (Cg (Ka rfl (Nn (Xa (Cq (Cg ?_))))))
 refine Kh rfl (og_bs rfl rfl u181 (cs := KK.map u32) (fun w => by kernel_rfl)) ?_
 intro b1
 refine Ka rfl (Nn (Xa (Ce ?_)))
 refine WX.ret1 rfl rfl fun w' hS => ⟨b1, rfl, hS.below, ?_⟩
 have h2 := (st_freeze (sp := []) (by rw [List.append_nil]; exact hS) : St ok w [] [Fact.sl (some ⟨b1, 0, none⟩) (KK.map u32)] w')
 intro x hx; simp only [List.mem_singleton] at hx; subst hx; exact Fact.mono _ (fun _ hb => hb.1) (h2.holds (k := 0) rfl)
theorem len8_drop (M q : Nat) (hq : q ≤ 7) : (len8 M).drop (7 - q) = byteAt M q :: (len8 M).drop (8 - q) := by
 have : q = 0 ∨ q = 1 ∨ q = 2 ∨ q = 3 ∨ q = 4 ∨ q = 5 ∨ q = 6 ∨ q = 7 := by omega
 rcases this with rfl | rfl | rfl | rfl | rfl | rfl | rfl | rfl <;> rfl
theorem len8_set (M q : Nat) (hq : q ≤ 7) : ((List.replicate (8 - q) 0 ++ (len8 M).drop (8 - q)).map B).set (7 - q) (B (byteAt M q)) = (List.replicate (8 - (q + 1)) 0 ++ (len8 M).drop (8 - (q + 1))).map B := by
 rw [← List.map_set]
 congr 1
 rw [show 8 - (q + 1) = 7 - q by omega, len8_drop M q hq, show 8 - q = (7 - q) + 1 by omega, List.replicate_succ', List.append_assoc, List.set_append_right _ _ (by simp)]
 simp
theorem byte_mod (M q : Nat) : ((M / 256 ^ q % 256 : Nat) : Int) = ((byteAt M q).toNat : Int) := by
 rw [byteAt, UInt8.toNat_ofNat', show (2 : Nat) ^ (8 * q) = 256 ^ q by rw [Nat.pow_mul]]
 omega
theorem padded_ok (l : List UInt8) (hl : l.length ≤ 1000000) (w : World) :
  Cw 234 #[.string (S l)] w (.string (S (pad l))) := by
 have hz : zeros l.length = (119 - l.length % 64) % 64 := rfl
 refine enter (S := St (fun _ => True) w [] []) (L := [(0, .string (S l))]) Tryz.func234 rfl Tryz.ntmps234 rfl (Ac rfl (An _)) (St.start (fun _ _ => trivial) (by simp)) ?_
 refine Cq (Cg (Ka rfl (Nn (Xa (Cq (Cg (Km rfl (Kq rfl (rd_slen rfl rfl u9) (Ka rfl (Nn (Xa (Cq (Cg (Km rfl ?_))))))))))))))
 refine Kq rfl (rd_cat (b := [128]) rfl rfl rfl (by simp; omega)) ?_
 refine Ka rfl (Nn (Xa (Cq (Cb ?_))))
 refine WC.loop (σ := Nat) (fun j => [(0, .string (S (l ++ [128] ++ List.replicate j 0))), (3, .int .i64 (l.length : Int))]) (fun j w' => j ≤ zeros l.length ∧ St (fun _ => True) w [] [] w') (fun j => zeros l.length - j) 0 (by repeat (first | exact S0 _ | refine Sc (by simp; rfl) ?_ | refine Sc rfl ?_)) (fun w' h => ⟨by omega, h⟩) ?_
 intro j; refine WC.pu ?_; intro hj
 have hlen : (l ++ [128] ++ List.replicate j 0).length = l.length + 1 + j := by simp; omega
 refine Cq (Cq (Cg (Km rfl (Kq rfl (rd_slen rfl rfl u9) ?_))))
 first
  | (refine Kq rfl (rd_rem64nl rfl rfl rfl ?_) ?_; focus (omega))
  | (refine Kq rfl (rd_rem64 rfl rfl rfl ?_) ?_; focus (omega))
 refine Kq rfl (rd_neq rfl rfl rfl) (Nn (Xa ?_))
 refine Cd rfl (fun hc14 => ?_) (fun hc14 => ?_)
 ·(try simp only [decide_eq_true_eq, decide_eq_false_iff_not, Bool.not_eq_true', Bool.not_eq_false', Bool.not_not, Int.not_lt, Int.not_le] at hc14)
  refine Ck (Xa (Cb (Cg (Km rfl ?_))))
  refine Kq rfl (rd_cat (b := [0]) rfl rfl rfl (by rw [hlen]; simp; omega)) ?_
  refine Ka rfl (Nn (Xd ?_))
  exact WX.loop (j + 1) (by omega) (by repeat (first | exact S0 _ | refine Sc rfl ?_ | refine Sc (by rw [List.replicate_succ', ← List.append_assoc]; rfl) ?_)) (fun w' h => ⟨by omega, h⟩)
 ·(try simp only [decide_eq_true_eq, decide_eq_false_iff_not, Bool.not_eq_true', Bool.not_eq_false', Bool.not_not, Int.not_lt, Int.not_le] at hc14)
  refine Cx (Xc (Xc (Xe ?_)))
  obtain rfl : j = zeros l.length := by omega
  refine Xa (Cq (Cg ?_))
  refine Kh rfl (og_mk rfl rfl rfl u136 (by kernel_rfl : _ = some (some (.int .u8 0), 1, 1)) rfl ?_ (by (try simp only [Int.toNat_natCast, Nat.mul_one, Nat.zero_add, Nat.add_zero, Nat.zero_mul, Int.reduceToNat, Nat.reduceAdd, Nat.reduceMul, Nat.reduceSub, Nat.sub_zero]); rfl) (by (try simp only [Int.toNat_natCast, Nat.mul_one, Nat.zero_add, Nat.add_zero, Nat.zero_mul, Int.reduceToNat, Nat.reduceAdd, Nat.reduceMul, Nat.reduceSub, Nat.sub_zero]); rfl)) ?_
  ·decide
  intro b17
  refine Ka rfl (Nn (Xa (Cq (Cg (Km rfl (Kq rfl (rd_conv rfl rfl u3 u74) (Kq rfl (rd_mul rfl rfl rfl) ?_)))))))
  refine Ns 20 rfl (v' := .int .u64 ((8 * l.length / 256 ^ 0 : Nat) : Int)) (congrArg (Value.int .u64) (by rw [IntKind.wrap_u64, IntKind.wrap_u64, Nat.pow_zero, Nat.div_one]; omega)) ?_
  refine Ka rfl (Nn (Xa (Cq (Cq (Cg (Ka rfl (Nn (Xa (Cb ?_)))))))))
  refine WC.loop (σ := Nat) (fun q => [(0, .string (S (l ++ [128] ++ List.replicate (zeros l.length) 0))), (4, .slice (some ⟨b17, 0, none⟩) 8 8), (5, .int .u64 ((8 * l.length / 256 ^ q : Nat) : Int)), (6, .int .i64 (7 - (q : Int)))]) (fun q w' => q ≤ 8 ∧ St (fun _ => True) w [⟨some b17, (List.replicate (8 - q) 0 ++ (len8 (8 * l.length)).drop (8 - q)).map B, 5⟩] [] w') (fun q => 8 - q) 0 (by repeat (first | exact S0 _ | refine Sc rfl ?_)) (fun w' h => ⟨by omega, h⟩) ?_
  intro q; refine WC.pu ?_; intro hq
  have hdv : 8 * l.length / 256 ^ q ≤ 8 * l.length := Nat.div_le_self _ _
  refine Cq (Cq (Cg (Km rfl (Kq rfl (rd_geq rfl rfl rfl) (Nn (Xa ?_))))))
  refine Cd rfl (fun hc22 => ?_) (fun hc22 => ?_)
  ·(try simp only [decide_eq_true_eq, decide_eq_false_iff_not, Bool.not_eq_true', Bool.not_eq_false', Bool.not_not, Int.not_lt, Int.not_le] at hc22)
   refine Ck (Xa (Cq (Cb (Cq (Cg (Km rfl (Km rfl (Km rfl (Kq rfl (rd_remN rfl rfl rfl (by decide)) (Kq rfl (rd_conv rfl rfl u74 u5) ?_))))))))))
   refine Ns 29 rfl (v' := B (byteAt (8 * l.length) q)) (congrArg (Value.int .u8) (by rw [byte_mod, IntWalk.u8_in _ (by have := (byteAt (8 * l.length) q).toNat_lt; omega)])) ?_
   refine Kq rfl (rd_ia rfl rfl rfl u136 (by kernel_rfl : _ = some 1) (by omega) (q := 7 - q) (by omega)) ?_
   refine Ng rfl rfl (st rfl rfl rfl (by first | exact .here | exact .t1 | exact .t2 | exact .t3 | exact .t4 | exact .t5 | exact .t6 | exact .t7) (by kernel_rfl) rfl ?_ rfl) ?_
   ·simp [len8]; omega
   intro _
   refine Nn (Xa (Cg (Km rfl ?_)))
   refine Kq rfl (rd_quoN rfl rfl rfl (by decide) ?_) ?_
   ·(have h9 := hdv; generalize 8 * l.length / 256 ^ q = z at h9 ⊢; exact IntWalk.u64_in _ ⟨by omega, by omega⟩)
   refine Ns 32 rfl (v' := .int .u64 ((8 * l.length / 256 ^ (q + 1) : Nat) : Int)) (by rw [Nat.pow_succ, ← Nat.div_div_eq_div_mul]) ?_
   refine Ka rfl (Nn (Xd (Xa (Cg (Km rfl ?_)))))
   first
    | (refine Kq rfl (rd_sub64nl rfl rfl rfl ?_) ?_; focus (omega))
    | (refine Kq rfl (rd_sub64 rfl rfl rfl ?_) ?_; focus (omega))
   refine Ka rfl (Nn ?_)
   exact WX.loop (q + 1) (by omega) (by repeat (first | exact S0 _ | refine Sc rfl ?_ | refine Sc (by show some (Value.int _ _) = some (Value.int _ _); congr 2; omega) ?_)) (fun w' h => ⟨by omega, by rw [len8_set (8 * l.length) q (by omega)] at h; exact h⟩)
  ·(try simp only [decide_eq_true_eq, decide_eq_false_iff_not, Bool.not_eq_true', Bool.not_eq_false', Bool.not_not, Int.not_lt, Int.not_le] at hc22)
   refine Cx (Xc (Xc (Xe ?_)))
   obtain rfl : q = 8 := by omega
   refine Xa (Cq (Cg (Km rfl (Km rfl ?_))))
   refine Kq rfl (b2s (l := len8 (8 * l.length)) rfl rfl (by first | exact .here | exact .t1 | exact .t2 | exact .t3 | exact .t4 | exact .t5 | exact .t6 | exact .t7) u136 u5 u9 ?_ ?_) ?_
   ·rfl
   ·rfl
   refine Kq rfl (rd_cat rfl rfl rfl ?_) ?_
   ·simp [len8]; omega
   refine Ka rfl (Nn (Xa (Ce ?_)))
   exact WX.ret1 rfl rfl fun w' hS => ⟨rfl, hS.below⟩
theorem rsched_ok (bs : List UInt8) (hbs : bs.length = 64) (ok : Nat → Prop) (w : World) (hok : ∀ b, w.heap.size ≤ b → ok b) :
  Calls Tryz.prog 245 #[.string (S bs)] w fun e w' => ∃ b : Nat, e = .returned (.slice (some ⟨b, 0, none⟩) 64 64) ∧ Below w.heap.size w w' ∧ ∀ x ∈ [Fact.sl (some ⟨b, 0, none⟩) ((sched 48 (words bs)).map u32)], x.holds ok w' := by
 have hwl := words_len 16 bs hbs
 refine enter (S := St ok w [] []) (L := [(0, .string (S bs))]) Tryz.func245 rfl Tryz.ntmps245 rfl (Ac rfl (An _)) (St.start hok (by simp)) ?_
 refine Cq (Cg (Ka rfl (Nn (Xa (Cq (Cg ?_))))))
 refine Kh rfl (og_mk rfl rfl rfl u181 (by kernel_rfl : _ = some (some (.int .u32 0), 1, 4)) rfl ?_ (by (try simp only [Int.toNat_natCast, Nat.mul_one, Nat.zero_add, Nat.add_zero, Nat.zero_mul, Int.reduceToNat, Nat.reduceAdd, Nat.reduceMul, Nat.reduceSub, Nat.sub_zero]); rfl) (by (try simp only [Int.toNat_natCast, Nat.mul_one, Nat.zero_add, Nat.add_zero, Nat.zero_mul, Int.reduceToNat, Nat.reduceAdd, Nat.reduceMul, Nat.reduceSub, Nat.sub_zero]); rfl)) ?_
 ·decide
 intro b11
 refine Ka rfl (Nn (Xa (Cq (Cq (Cg (Ka rfl (Nn (Xa (Cb ?_)))))))))
 refine WC.loop (σ := Nat) (fun k => [(0, .string (S bs)), (3, .slice (some ⟨b11, 0, none⟩) 64 64), (4, .int .i64 (k : Int))]) (fun k w' => k ≤ 16 ∧ St ok w [⟨some b11, ((words bs).take k).map u32 ++ List.replicate (64 - k) (u32 0), 206⟩] [] w') (fun k => 16 - k) 0 (by repeat (first | exact S0 _ | refine Sc rfl ?_)) (fun w' h => ⟨by omega, h⟩) ?_
 intro k; refine WC.pu ?_; intro hk
 refine Cq (Cq (Cg (Km rfl (Kq rfl (rd_lss rfl rfl rfl) (Nn (Xa ?_))))))
 refine Cd rfl (fun hc13 => ?_) (fun hc13 => ?_)
 ·(try simp only [decide_eq_true_eq, decide_eq_false_iff_not, Bool.not_eq_true', Bool.not_eq_false', Bool.not_not, Int.not_lt, Int.not_le] at hc13)
  obtain ⟨c0, hc0⟩ : ∃ c, bs[4 * k]? = some c := ⟨_, List.getElem?_eq_getElem (by omega)⟩
  obtain ⟨c1, hc1⟩ : ∃ c, bs[4 * k + 1]? = some c := ⟨_, List.getElem?_eq_getElem (by omega)⟩
  obtain ⟨c2, hc2⟩ : ∃ c, bs[4 * k + 2]? = some c := ⟨_, List.getElem?_eq_getElem (by omega)⟩
  obtain ⟨c3, hc3⟩ : ∃ c, bs[4 * k + 3]? = some c := ⟨_, List.getElem?_eq_getElem (by omega)⟩
  have hwk := words_get k bs c0 c1 c2 c3 hc0 hc1 hc2 hc3
  refine Ck (Xa (Cq (Cb (Cq (Cg (Ka rfl (Nn (Xa (Cb ?_)))))))))
  refine WC.loop (σ := Nat) (fun j => [(0, .string (S bs)), (3, .slice (some ⟨b11, 0, none⟩) 64 64), (4, .int .i64 (k : Int)), (5, .int .i64 (j : Int))]) (fun j w' => j ≤ 4 ∧ St ok w [⟨some b11, (((words bs).take k).map u32 ++ List.replicate (64 - k) (u32 0)).set k (u32 (part4 c0 c1 c2 c3 j)), 206⟩] [] w') (fun j => 4 - j) 0 (by repeat (first | exact S0 _ | refine Sc rfl ?_)) (fun w' h => ⟨by omega, by rw [show part4 c0 c1 c2 c3 0 = 0 from rfl, set_zero4 (words bs) hwl k (by omega)]; exact h⟩) ?_
  intro j; refine WC.pu ?_; intro hj
  refine Cq (Cq (Cg (Km rfl (Kq rfl (rd_lss rfl rfl rfl) (Nn (Xa ?_))))))
  refine Cd rfl (fun hc17 => ?_) (fun hc17 => ?_)
  ·(try simp only [decide_eq_true_eq, decide_eq_false_iff_not, Bool.not_eq_true', Bool.not_eq_false', Bool.not_not, Int.not_lt, Int.not_le] at hc17)
   have hcj : bs[4 * k + j]? = some (pick4 c0 c1 c2 c3 j) := by
    have : j = 0 ∨ j = 1 ∨ j = 2 ∨ j = 3 := by omega
    rcases this with rfl | rfl | rfl | rfl
    ·exact hc0
    ·exact hc1
    ·exact hc2
    ·exact hc3
   refine Ck (Xa (Cq (Cb ?_)))
   refine WC.mix [0, 0, 0, 0, 0, 0, 0, 0, 0, 0, 0, 0, 0, 0, 0, 0, 2] (by kernel_rfl) (by kernel_rfl) (fun w h => h.draw) ?_
   refine WM.r rfl rfl rfl (Rm rfl rfl) ?_
   refine WM.r rfl rfl rfl (Rm rfl rfl) ?_
   refine WM.r rfl rfl rfl (Rm rfl rfl) ?_
   refine WM.r rfl rfl rfl (Rm rfl rfl) ?_
   refine WM.r rfl rfl rfl (Ja rfl rfl rfl u181 (by kernel_rfl : _ = some 1) ?_) ?_
   ·omega
   refine WM.r rfl rfl rfl (ld rfl rfl (by first | exact .here | exact .t1 | exact .t2 | exact .t3 | exact .t4 | exact .t5 | exact .t6 | exact .t7) u206 rfl (by rw [List.getElem?_set_self (by simp; omega)])) ?_
   refine WM.r rfl rfl rfl (rd_mul rfl rfl rfl) ?_
   refine WM.set 26 rfl (v' := u32 (part4 c0 c1 c2 c3 j * 256)) (congrArg (Value.int .u32) (mul_W _ 256)) ?_
   refine WM.r rfl rfl rfl (Rm rfl rfl) ?_
   refine WM.r rfl rfl rfl (Rm rfl rfl) ?_
   first
    | (refine WM.r rfl rfl rfl (rd_mul64ln rfl rfl rfl ?_) ?_; focus (omega))
    | (refine WM.r rfl rfl rfl (rd_mul64 rfl rfl rfl ?_) ?_; focus (omega))
   refine WM.r rfl rfl rfl (Rm rfl rfl) ?_
   first
    | (refine WM.r rfl rfl rfl (rd_add64n rfl rfl rfl ?_) ?_; focus (omega))
    | (refine WM.r rfl rfl rfl (rd_add64 rfl rfl rfl ?_) ?_; focus (omega))
   refine WM.r rfl rfl rfl (rd_sidx rfl rfl rfl u9 ?_ (by rw [Int.toNat_natCast]; exact hcj)) ?_
   ·omega
   refine WM.r rfl rfl rfl (rd_conv rfl rfl u5 u206) ?_
   refine WM.set 33 rfl (v' := u32 (BitVec.ofNat 32 (pick4 c0 c1 c2 c3 j).toNat)) (congrArg (Value.int .u32) (u8_W _)) ?_
   refine WM.r rfl rfl rfl (rdW_add rfl rfl rfl) ?_
   refine WM.r rfl rfl rfl (Ja rfl rfl rfl u181 (by kernel_rfl : _ = some 1) ?_) ?_
   ·omega
   refine WM.h0 rfl rfl (st rfl rfl rfl (by first | exact .here | exact .t1 | exact .t2 | exact .t3 | exact .t4 | exact .t5 | exact .t6 | exact .t7) (by kernel_rfl) rfl ?_ rfl) ?_
   ·simp; omega
   intro _
   refine WM.nil ?_
   refine Xd (Xa (Cg (Km rfl ?_)))
   first
    | (refine Kq rfl (Rz rfl rfl rfl ?_) ?_; focus (omega))
    | (refine Kq rfl (rd_add64 rfl rfl rfl ?_) ?_; focus (omega))
   refine Ka rfl (Nn ?_)
   exact WX.loop (j + 1) (by omega) (by repeat (first | exact S0 _ | refine Sc rfl ?_)) (fun w' h => ⟨by omega, by rw [List.set_set] at h; rw [part4_succ c0 c1 c2 c3 j (by omega)]; exact h⟩)
  ·(try simp only [decide_eq_true_eq, decide_eq_false_iff_not, Bool.not_eq_true', Bool.not_eq_false', Bool.not_not, Int.not_lt, Int.not_le] at hc17)
   refine Cx (Xc (Xc (Xe ?_)))
   obtain rfl : j = 4 := by omega
   refine Xd (Xa (Cg (Km rfl ?_)))
   first
    | (refine Kq rfl (Rz rfl rfl rfl ?_) ?_; focus (omega))
    | (refine Kq rfl (rd_add64 rfl rfl rfl ?_) ?_; focus (omega))
   refine Ka rfl (Nn ?_)
   exact WX.loop (k + 1) (by omega) (by repeat (first | exact S0 _ | refine Sc rfl ?_)) (fun w' h => ⟨by omega, by rw [part4_word, fill_set (words bs) u32 (u32 0) 64 k _ (by omega) hwk] at h; exact h⟩)
 ·(try simp only [decide_eq_true_eq, decide_eq_false_iff_not, Bool.not_eq_true', Bool.not_eq_false', Bool.not_not, Int.not_lt, Int.not_le] at hc13)
  refine Cx (Xc (Xc (Xe ?_)))
  obtain rfl : k = 16 := by omega
  refine Xa (Cq (Cq (Cg (Ka rfl (Nn (Xa (Cb ?_)))))))
  refine WC.loop (σ := Nat) (fun j => [(3, .slice (some ⟨b11, 0, none⟩) 64 64), (6, .int .i64 ((16 + j : Nat) : Int))]) (fun j w' => j ≤ 48 ∧ St ok w [⟨some b11, (sched j (words bs)).map u32 ++ List.replicate (48 - j) (u32 0), 206⟩] [] w') (fun j => 48 - j) 0 (by repeat (first | exact S0 _ | refine Sc rfl ?_)) (fun w' h => ⟨by omega, by rw [List.take_of_length_le (by omega)] at h; exact h⟩) ?_
  intro j; refine WC.pu ?_; intro hj
  refine Cq (Cq (Cg (Km rfl (Kq rfl (rd_lss rfl rfl rfl) (Nn (Xa ?_))))))
  refine Cd rfl (fun hc37 => ?_) (fun hc37 => ?_)
  ·(try simp only [decide_eq_true_eq, decide_eq_false_iff_not, Bool.not_eq_true', Bool.not_eq_false', Bool.not_not, Int.not_lt, Int.not_le] at hc37)
   have hsl := sched_len j (words bs)
   rw [hwl] at hsl
   refine Ck (Xa (Cq (Cb (Cq ?_))))
   refine WC.mix [0, 0, 0, 0, 0, 0, 0, 0, 0, 0, 0, 0] (by kernel_rfl) (by kernel_rfl) (fun w h => h.draw) ?_
   refine WM.r rfl rfl rfl (Rm rfl rfl) ?_
   refine WM.r rfl rfl rfl (Rm rfl rfl) ?_
   first
    | (refine WM.r rfl rfl rfl (rd_sub64nl rfl rfl rfl ?_) ?_; focus (omega))
    | (refine WM.r rfl rfl rfl (rd_sub64 rfl rfl rfl ?_) ?_; focus (omega))
   refine WM.r rfl rfl rfl (Ja rfl rfl rfl u181 (by kernel_rfl : _ = some 1) ?_) ?_
   ·omega
   refine WM.r rfl rfl rfl (ld rfl rfl (by first | exact .here | exact .t1 | exact .t2 | exact .t3 | exact .t4 | exact .t5 | exact .t6 | exact .t7) u206 rfl (by exact map_cell _ u32 _ _ _ (get_getD (sched j (words bs)) _ 0 (by omega)))) ?_
   refine WM.r rfl rfl rfl (Rm rfl rfl) ?_
   refine WM.r rfl rfl rfl (Rm rfl rfl) ?_
   first
    | (refine WM.r rfl rfl rfl (rd_sub64nl rfl rfl rfl ?_) ?_; focus (omega))
    | (refine WM.r rfl rfl rfl (rd_sub64 rfl rfl rfl ?_) ?_; focus (omega))
   refine WM.r rfl rfl rfl (Ja rfl rfl rfl u181 (by kernel_rfl : _ = some 1) ?_) ?_
   ·omega
   refine WM.r rfl rfl rfl (ld rfl rfl (by first | exact .here | exact .t1 | exact .t2 | exact .t3 | exact .t4 | exact .t5 | exact .t6 | exact .t7) u206 rfl (by exact map_cell _ u32 _ _ _ (get_getD (sched j (words bs)) _ 0 (by omega)))) ?_
   refine WM.r rfl rfl rfl (Ra rfl rfl) ?_
   refine WM.r rfl rfl rfl (Ra rfl rfl) ?_
   refine WM.nil ?_
   refine Xa (Cq (Cg (Km rfl ?_)))
   refine Ku rfl (Oc rfl rfl (Kv fun w _ => right_lit _ _ (by decide) (by decide) w)) ?_
   refine Km rfl ?_
   refine Ku rfl (Oc rfl rfl (Kv fun w _ => right_lit _ _ (by decide) (by decide) w)) ?_
   refine Kq rfl (rdW_xor rfl rfl rfl) (Km rfl (Kq rfl (rdW_shr rfl rfl rfl (by decide)) (Kq rfl (rdW_xor rfl rfl rfl) (Ka rfl (Nn (Xa (Cq (Cg (Km rfl ?_)))))))))
   refine Ku rfl (Oc rfl rfl (Kv fun w _ => right_lit _ _ (by decide) (by decide) w)) ?_
   refine Km rfl ?_
   refine Ku rfl (Oc rfl rfl (Kv fun w _ => right_lit _ _ (by decide) (by decide) w)) ?_
   refine Kq rfl (rdW_xor rfl rfl rfl) (Km rfl (Kq rfl (rdW_shr rfl rfl rfl (by decide)) (Kq rfl (rdW_xor rfl rfl rfl) (Ka rfl (Nn (Xa ?_))))))
   refine WC.mix [0, 0, 0, 0, 0, 0, 0, 0, 0, 0, 0, 0, 0, 0, 0, 0, 0, 0, 2] (by kernel_rfl) (by kernel_rfl) (fun w h => h.draw) ?_
   refine WM.r rfl rfl rfl (Rm rfl rfl) ?_
   refine WM.r rfl rfl rfl (Rm rfl rfl) ?_
   refine WM.r rfl rfl rfl (Rm rfl rfl) ?_
   refine WM.r rfl rfl rfl (Rm rfl rfl) ?_
   first
    | (refine WM.r rfl rfl rfl (rd_sub64nl rfl rfl rfl ?_) ?_; focus (omega))
    | (refine WM.r rfl rfl rfl (rd_sub64 rfl rfl rfl ?_) ?_; focus (omega))
   refine WM.r rfl rfl rfl (Ja rfl rfl rfl u181 (by kernel_rfl : _ = some 1) ?_) ?_
   ·omega
   refine WM.r rfl rfl rfl (ld rfl rfl (by first | exact .here | exact .t1 | exact .t2 | exact .t3 | exact .t4 | exact .t5 | exact .t6 | exact .t7) u206 rfl (by exact map_cell _ u32 _ _ _ (get_getD (sched j (words bs)) _ 0 (by omega)))) ?_
   refine WM.r rfl rfl rfl (Rm rfl rfl) ?_
   refine WM.r rfl rfl rfl (rdW_add rfl rfl rfl) ?_
   refine WM.r rfl rfl rfl (Rm rfl rfl) ?_
   refine WM.r rfl rfl rfl (Rm rfl rfl) ?_
   first
    | (refine WM.r rfl rfl rfl (rd_sub64nl rfl rfl rfl ?_) ?_; focus (omega))
    | (refine WM.r rfl rfl rfl (rd_sub64 rfl rfl rfl ?_) ?_; focus (omega))
   refine WM.r rfl rfl rfl (Ja rfl rfl rfl u181 (by kernel_rfl : _ = some 1) ?_) ?_
   ·omega
   refine WM.r rfl rfl rfl (ld rfl rfl (by first | exact .here | exact .t1 | exact .t2 | exact .t3 | exact .t4 | exact .t5 | exact .t6 | exact .t7) u206 rfl (by exact map_cell _ u32 _ _ _ (get_getD (sched j (words bs)) _ 0 (by omega)))) ?_
   refine WM.r rfl rfl rfl (rdW_add rfl rfl rfl) ?_
   refine WM.r rfl rfl rfl (Rm rfl rfl) ?_
   refine WM.r rfl rfl rfl (rdW_add rfl rfl rfl) ?_
   refine WM.set 82 rfl (v' := u32 (nextW (sched j (words bs)))) (by unfold nextW; rw [hsl]; rfl) ?_
   refine WM.r rfl rfl rfl (Ja rfl rfl rfl u181 (by kernel_rfl : _ = some 1) ?_) ?_
   ·omega
   refine WM.h0 rfl rfl (st rfl rfl rfl (by first | exact .here | exact .t1 | exact .t2 | exact .t3 | exact .t4 | exact .t5 | exact .t6 | exact .t7) (by kernel_rfl) rfl ?_ rfl) ?_
   ·simp [hsl]; omega
   intro _
   refine WM.nil ?_
   refine Xd (Xa (Cg (Km rfl ?_)))
   first
    | (refine Kq rfl (Rz rfl rfl rfl ?_) ?_; focus (omega))
    | (refine Kq rfl (rd_add64 rfl rfl rfl ?_) ?_; focus (omega))
   refine Ka rfl (Nn ?_)
   exact WX.loop (j + 1) (by omega) (by repeat (first | exact S0 _ | refine Sc rfl ?_)) (fun w' h => ⟨by omega, by rw [sched_set j (words bs) hwl (by omega)] at h; exact h⟩)
  ·(try simp only [decide_eq_true_eq, decide_eq_false_iff_not, Bool.not_eq_true', Bool.not_eq_false', Bool.not_not, Int.not_lt, Int.not_le] at hc37)
   refine Cx (Xc (Xc (Xe ?_)))
   obtain rfl : j = 48 := by omega
   rw [Nat.sub_self, List.replicate_zero]
   refine Xa (Cq (Cg (Km rfl (Ka rfl (Nn (Xa (Ce ?_)))))))
   refine WX.ret1 rfl rfl fun w' hS => ⟨b11, rfl, hS.below, ?_⟩
   have h2 := st_freeze hS
   intro x hx; simp only [List.mem_singleton] at hx; subst hx; exact Fact.mono _ (fun _ hb => hb.1) (h2.holds (k := 0) rfl)
structure GC where
 k : Nat
 b : Nat
 cap : Nat
 sp : List Value
theorem rcompress_ok (x0 : List W) (hx0 : x0.length = 8) (bs : List UInt8) (hbs : bs.length = 64) (ad : Option Addr) (cap0 : Nat) (ok : Nat → Prop) (w : World) (hok : ∀ b, w.heap.size ≤ b → ok b) (hf : (Fact.sl ad (x0.map u32)).holds (fun _ => True) w) :
  Calls Tryz.prog 235 #[.slice ad 8 cap0, .string (S bs)] w fun e w' => ∃ g : GC, e = .returned (.slice (some ⟨g.b, 0, none⟩) 8 g.cap) ∧ Below w.heap.size w w' ∧ ∀ x ∈ [Fact.sl (some ⟨g.b, 0, none⟩) ((compress x0 bs).map u32)], x.holds ok w' := by
 obtain ⟨ad, rfl⟩ : ∃ a, ad = some a := by
  rcases hf with h | ⟨b, off, cs, T, fz, h, _⟩
  ·simp at h; subst h; simp at hx0
  ·exact ⟨_, h⟩
 obtain ⟨b0, off0, rfl⟩ : ∃ b0 off0, ad = ⟨b0, off0, none⟩ := by
  rcases hf with h | ⟨b, off, cs, T, fz, h, _⟩
  ·simp at h; subst h; simp at hx0
  ·exact ⟨b, off, Option.some.inj h⟩
 have hwl := words_len 16 bs hbs
 have hsl := sched_len 48 (words bs)
 rw [hwl] at hsl
 have hsch := rsched_ok bs hbs
 obtain ⟨ws, hws⟩ : ∃ ws, sched 48 (words bs) = ws := ⟨_, rfl⟩
 have hcomp : compress x0 bs = addW (rounds KK ws 64 x0) x0 := by rw [← hws]; rfl
 rw [hws] at hsl hsch
 rw [hcomp]
 have hkk : KK.length = 64 := rfl
 refine Calls.mono (R := fun e w' => ∃ g : GC, e = .returned (.slice (some ⟨g.b, 0, none⟩) 8 g.cap) ∧ St (fun b => ok b ∨ b < w.heap.size) w [] [Fact.sl (some ⟨g.b, 0, none⟩) ((addW (rounds KK ws 64 x0) x0).map u32)] w' ∧ (Fact.sl (some ⟨g.b, 0, none⟩) ((addW (rounds KK ws 64 x0) x0).map u32)).holds (fun b => w.heap.size ≤ b) w') ?_ (fun e w' ⟨g, he, hS, hh⟩ => ⟨g, he, hS.below, fun x hx => by simp only [List.mem_singleton] at hx; subst hx; exact Fact.mono _ (fun b hb => hok b hb) hh⟩)
 refine enter (S := St (fun b => ok b ∨ b < w.heap.size) w [] [Fact.sl (some ⟨b0, off0, none⟩) (x0.map u32)]) (L := [(0, .slice (some ⟨b0, off0, none⟩) 8 cap0), (1, .string (S bs))]) Tryz.func235 rfl Tryz.ntmps235 rfl (Ac rfl (Ac rfl (An _))) (St.start (fun b hb => .inl (hok b hb)) (by intro f hf'; simp only [List.mem_singleton] at hf'; subst hf'; exact Fact.mono _ (fun b hb => .inr hb.2) (Fact.here _ hf))) ?_
 refine Cq (Cg (Ka rfl (Nn (Xa (Cq (Cg (Km rfl ?_)))))))
 refine Kh rfl (Oc rfl rfl (keep_fact (F := fun b : Nat => [Fact.sl (some ⟨b, 0, none⟩) (ws.map u32)]) fun w hS => hsch _ w hS.fresh)) ?_
 intro bw
 refine Kh rfl (Oc rfl rfl (keep_fact (F := fun b : Nat => [Fact.sl (some ⟨b, 0, none⟩) (KK.map u32)]) fun w hS => rconst_ok _ w hS.fresh)) ?_
 intro bk
 refine Ka rfl (Ka rfl (Nn (Xa (Cq (Cg ?_)))))
 refine Kh rfl (og_bs1 rfl rfl u181 (by kernel_rfl : _ = some (some (.int .u32 0), 1, 4)) rfl (by simp only [List.map]; rfl) rfl rfl ?_ (by decide)) ?_
 ·simp
 intro b21
 refine Km rfl ?_
 refine WL.st (S' := St (fun b => ok b ∨ b < w.heap.size) w [⟨some b21, [] ++ [], 206⟩] [Fact.sl (some ⟨bk, 0, none⟩) (KK.map u32), Fact.sl (some ⟨bw, 0, none⟩) (ws.map u32), Fact.sl (some ⟨b0, off0, none⟩) (x0.map u32)]) (fun _ h => h) ?_
 refine Kh rfl (appx rfl u181 (by kernel_rfl : _ = some (some (.int .u32 0), 1, 4)) rfl (ob := some b21) .here (by rfl) (by rfl) (fun w hS => hS.holds_any (k := 2) rfl) (by simp [hx0]) (by simp) (u32_one _)) ?_
 intro g23
 refine WL.pu ?_
 intro hg23
 refine Ka rfl (Nn (Xa (Cq (Cq (Cg (Ka rfl (Nn (Xa (Cb ?_)))))))))
 refine WC.loop (σ := GC) (fun g => [(0, .slice (some ⟨b0, off0, none⟩) 8 cap0), (5, .slice (some ⟨bw, 0, none⟩) 64 64), (6, .slice (some ⟨bk, 0, none⟩) 64 64), (7, .slice (some ⟨g.b, 0, none⟩) 8 g.cap), (8, .int .i64 (g.k : Int))]) (fun g w' => (g.k ≤ 64 ∧ g.cap = 8 + g.sp.length) ∧ St (fun b => ok b ∨ b < w.heap.size) w [⟨some g.b, (rounds KK ws g.k x0).map u32 ++ g.sp, 206⟩] [Fact.sl (some ⟨bk, 0, none⟩) (KK.map u32), Fact.sl (some ⟨bw, 0, none⟩) (ws.map u32), Fact.sl (some ⟨b0, off0, none⟩) (x0.map u32)] w') (fun g => 64 - g.k) ⟨0, g23.b, g23.cap, g23.spare⟩ (by repeat (first | exact S0 _ | refine Sc rfl ?_)) (fun w' h => ⟨⟨by simp, by have := hg23.2; show g23.cap = 8 + g23.spare.length; omega⟩, h⟩) ?_
 rintro ⟨k, bv, capv, sp⟩; dsimp only; refine WC.pu ?_; rintro ⟨hk, hcapv⟩
 refine Cq (Cq (Cg (Km rfl (Kq rfl (rd_lss rfl rfl rfl) (Nn (Xa ?_))))))
 refine Cd rfl (fun hc25 => ?_) (fun hc25 => ?_)
 ·(try simp only [decide_eq_true_eq, decide_eq_false_iff_not, Bool.not_eq_true', Bool.not_eq_false', Bool.not_not, Int.not_lt, Int.not_le] at hc25)
  obtain ⟨xa, xb, xc, xd, xe, xf, xg, xh, hX⟩ := eight (rounds KK ws k x0) (rounds_len _ _ _ _ hx0)
  rw [hX]
  refine Ck (Xa (Cq (Cb (Cq ?_))))
  refine WC.mix [0, 0, 0, 0, 0, 0, 0, 0, 0, 0, 0, 0, 0, 0, 0, 0, 0, 0, 0, 0, 0, 0, 0, 0] (by kernel_rfl) (by kernel_rfl) (fun w h => h.draw) ?_
  refine WM.r rfl rfl rfl (Rm rfl rfl) ?_
  refine WM.r rfl rfl rfl (Ja rfl rfl rfl u181 (by kernel_rfl : _ = some 1) ?_) ?_
  ·omega
  refine WM.r rfl rfl rfl (ld rfl rfl (by first | exact .here | exact .t1 | exact .t2 | exact .t3 | exact .t4 | exact .t5 | exact .t6 | exact .t7) u206 rfl (by rfl)) ?_
  refine WM.r rfl rfl rfl (Rm rfl rfl) ?_
  refine WM.r rfl rfl rfl (Ja rfl rfl rfl u181 (by kernel_rfl : _ = some 1) ?_) ?_
  ·omega
  refine WM.r rfl rfl rfl (ld rfl rfl (by first | exact .here | exact .t1 | exact .t2 | exact .t3 | exact .t4 | exact .t5 | exact .t6 | exact .t7) u206 rfl (by rfl)) ?_
  refine WM.r rfl rfl rfl (Rm rfl rfl) ?_
  refine WM.r rfl rfl rfl (Ja rfl rfl rfl u181 (by kernel_rfl : _ = some 1) ?_) ?_
  ·omega
  refine WM.r rfl rfl rfl (ld rfl rfl (by first | exact .here | exact .t1 | exact .t2 | exact .t3 | exact .t4 | exact .t5 | exact .t6 | exact .t7) u206 rfl (by rfl)) ?_
  refine WM.r rfl rfl rfl (Rm rfl rfl) ?_
  refine WM.r rfl rfl rfl (Ja rfl rfl rfl u181 (by kernel_rfl : _ = some 1) ?_) ?_
  ·omega
  refine WM.r rfl rfl rfl (ld rfl rfl (by first | exact .here | exact .t1 | exact .t2 | exact .t3 | exact .t4 | exact .t5 | exact .t6 | exact .t7) u206 rfl (by rfl)) ?_
  refine WM.r rfl rfl rfl (Rm rfl rfl) ?_
  refine WM.r rfl rfl rfl (Ja rfl rfl rfl u181 (by kernel_rfl : _ = some 1) ?_) ?_
  ·omega
  refine WM.r rfl rfl rfl (ld rfl rfl (by first | exact .here | exact .t1 | exact .t2 | exact .t3 | exact .t4 | exact .t5 | exact .t6 | exact .t7) u206 rfl (by rfl)) ?_
  refine WM.r rfl rfl rfl (Rm rfl rfl) ?_
  refine WM.r rfl rfl rfl (Ja rfl rfl rfl u181 (by kernel_rfl : _ = some 1) ?_) ?_
  ·omega
  refine WM.r rfl rfl rfl (ld rfl rfl (by first | exact .here | exact .t1 | exact .t2 | exact .t3 | exact .t4 | exact .t5 | exact .t6 | exact .t7) u206 rfl (by rfl)) ?_
  refine WM.r rfl rfl rfl (Ra rfl rfl) ?_
  refine WM.r rfl rfl rfl (Ra rfl rfl) ?_
  refine WM.r rfl rfl rfl (Ra rfl rfl) ?_
  refine WM.r rfl rfl rfl (Ra rfl rfl) ?_
  refine WM.r rfl rfl rfl (Ra rfl rfl) ?_
  refine WM.r rfl rfl rfl (Ra rfl rfl) ?_
  refine WM.nil ?_
  refine Xa (Cq ?_)
  refine WC.mix [0, 0, 0, 0, 1, 0, 1, 0, 0, 1, 0, 0, 0, 0, 0, 0, 0, 0, 0, 0, 0, 0, 0, 0, 0, 0, 0, 0, 0, 0, 0, 0] (by kernel_rfl) (by kernel_rfl) (fun w h => h.draw) ?_
  refine WM.r rfl rfl rfl (Rm rfl rfl) ?_
  refine WM.r rfl rfl rfl (Ja rfl rfl rfl u181 (by kernel_rfl : _ = some 1) ?_) ?_
  ·omega
  refine WM.r rfl rfl rfl (ld rfl rfl (by first | exact .here | exact .t1 | exact .t2 | exact .t3 | exact .t4 | exact .t5 | exact .t6 | exact .t7) u206 rfl (by rfl)) ?_
  refine WM.r rfl rfl rfl (Rm rfl rfl) ?_
  refine WM.g rfl rfl rfl (Oc rfl rfl (Kv fun w _ => right_lit _ _ (by decide) (by decide) w)) (fun _ _ h => by first | exact h | exact ⟨_, h⟩ | exact ⟨_, h.2⟩ | exact h.2 | exact h.sub (by repeat (first | exact List.Sublist.refl _ | apply List.Sublist.cons)) (fun _ h => by simp [*]) | exact h.2.sub (by repeat (first | exact List.Sublist.refl _ | apply List.Sublist.cons)) (fun _ h => by simp [*])) ?_
  intro _
  refine WM.r rfl rfl rfl (Rm rfl rfl) ?_
  refine WM.g rfl rfl rfl (Oc rfl rfl (Kv fun w _ => right_lit _ _ (by decide) (by decide) w)) (fun _ _ h => by first | exact h | exact ⟨_, h⟩ | exact ⟨_, h.2⟩ | exact h.2 | exact h.sub (by repeat (first | exact List.Sublist.refl _ | apply List.Sublist.cons)) (fun _ h => by simp [*]) | exact h.2.sub (by repeat (first | exact List.Sublist.refl _ | apply List.Sublist.cons)) (fun _ h => by simp [*])) ?_
  intro _
  refine WM.r rfl rfl rfl (rdW_xor rfl rfl rfl) ?_
  refine WM.r rfl rfl rfl (Rm rfl rfl) ?_
  refine WM.g rfl rfl rfl (Oc rfl rfl (Kv fun w _ => right_lit _ _ (by decide) (by decide) w)) (fun _ _ h => by first | exact h | exact ⟨_, h⟩ | exact ⟨_, h.2⟩ | exact h.2 | exact h.sub (by repeat (first | exact List.Sublist.refl _ | apply List.Sublist.cons)) (fun _ h => by simp [*]) | exact h.2.sub (by repeat (first | exact List.Sublist.refl _ | apply List.Sublist.cons)) (fun _ h => by simp [*])) ?_
  intro _
  refine WM.r rfl rfl rfl (rdW_xor rfl rfl rfl) ?_
  refine WM.r rfl rfl rfl (rdW_add rfl rfl rfl) ?_
  refine WM.r rfl rfl rfl (Rm rfl rfl) ?_
  refine WM.r rfl rfl rfl (Rm rfl rfl) ?_
  refine WM.r rfl rfl rfl (rdW_and rfl rfl rfl) ?_
  refine WM.r rfl rfl rfl (Rm rfl rfl) ?_
  refine WM.r rfl rfl rfl (rdW_com rfl rfl) ?_
  refine WM.r rfl rfl rfl (Rm rfl rfl) ?_
  refine WM.r rfl rfl rfl (rdW_and rfl rfl rfl) ?_
  refine WM.r rfl rfl rfl (rdW_xor rfl rfl rfl) ?_
  refine WM.r rfl rfl rfl (rdW_add rfl rfl rfl) ?_
  refine WM.r rfl rfl rfl (Rm rfl rfl) ?_
  refine WM.r rfl rfl rfl (Rm rfl rfl) ?_
  refine WM.r rfl rfl rfl (Ja rfl rfl rfl u181 (by kernel_rfl : _ = some 1) ?_) ?_
  ·omega
  refine WM.r rfl rfl rfl (ldf rfl rfl (by first | exact .here | exact .t1 | exact .t2 | exact .t3 | exact .t4 | exact .t5 | exact .t6 | exact .t7) u206 rfl (m := k) (by omega) (by rw [List.getElem?_map, get_getD KK k 0 (by omega)]; rfl)) ?_
  refine WM.r rfl rfl rfl (rdW_add rfl rfl rfl) ?_
  refine WM.r rfl rfl rfl (Rm rfl rfl) ?_
  refine WM.r rfl rfl rfl (Rm rfl rfl) ?_
  refine WM.r rfl rfl rfl (Ja rfl rfl rfl u181 (by kernel_rfl : _ = some 1) ?_) ?_
  ·omega
  refine WM.r rfl rfl rfl (ldf rfl rfl (by first | exact .here | exact .t1 | exact .t2 | exact .t3 | exact .t4 | exact .t5 | exact .t6 | exact .t7) u206 rfl (m := k) (by omega) (by rw [List.getElem?_map, get_getD ws k 0 (by omega)]; rfl)) ?_
  refine WM.r rfl rfl rfl (rdW_add rfl rfl rfl) ?_
  refine WM.r rfl rfl rfl (Ra rfl rfl) ?_
  refine WM.nil ?_
  refine Xa (Cq (Cg (Km rfl ?_)))
  refine Ku rfl (Oc rfl rfl (Kv fun w _ => right_lit _ _ (by decide) (by decide) w)) ?_
  refine Km rfl ?_
  refine Ku rfl (Oc rfl rfl (Kv fun w _ => right_lit _ _ (by decide) (by decide) w)) ?_
  refine Kq rfl (rdW_xor rfl rfl rfl) (Km rfl ?_)
  refine Ku rfl (Oc rfl rfl (Kv fun w _ => right_lit _ _ (by decide) (by decide) w)) ?_
  refine Kq rfl (rdW_xor rfl rfl rfl) (Km rfl (Km rfl (Kq rfl (rdW_and rfl rfl rfl) (Km rfl (Km rfl (Kq rfl (rdW_and rfl rfl rfl) (Kq rfl (rdW_xor rfl rfl rfl) (Km rfl (Km rfl (Kq rfl (rdW_and rfl rfl rfl) (Kq rfl (rdW_xor rfl rfl rfl) (Kq rfl (rdW_add rfl rfl rfl) (Ka rfl (Nn (Xa (Cg (Km rfl (Km rfl (Kq rfl (rdW_add rfl rfl rfl) (Km rfl (Km rfl (Km rfl (Km rfl ?_)))))))))))))))))))))))
  refine Kq rfl (Ja rfl rfl rfl u181 (by kernel_rfl : _ = some 1) ?_) ?_
  ·omega
  refine Kq rfl (ld rfl rfl (by first | exact .here | exact .t1 | exact .t2 | exact .t3 | exact .t4 | exact .t5 | exact .t6 | exact .t7) u206 rfl (by rfl)) ?_
  refine Km rfl (Kq rfl (rdW_add rfl rfl rfl) (Km rfl (Km rfl (Km rfl ?_))))
  refine Kh rfl (og_bs1 rfl rfl u181 (by kernel_rfl : _ = some (some (.int .u32 0), 1, 4)) rfl (by simp only [List.map]; rfl) rfl rfl ?_ (by decide)) ?_
  ·simp [u32, Value.cells]
  intro b111
  refine Ka rfl (Nn (Xd (Xa (Cg (Km rfl ?_)))))
  first
   | (refine Kq rfl (Rz rfl rfl rfl ?_) ?_; focus (omega))
   | (refine Kq rfl (rd_add64 rfl rfl rfl ?_) ?_; focus (omega))
  refine Ka rfl (Nn ?_)
  exact WX.loop ⟨k + 1, b111, 8, []⟩ (by show 64 - (k + 1) < 64 - k; omega) (by repeat (first | exact S0 _ | refine Sc rfl ?_)) (fun w' h => ⟨⟨by show k + 1 ≤ 64; omega, rfl⟩, by rw [show rounds KK ws (k + 1) x0 = rnd (KK.getD k 0) (ws.getD k 0) (rounds KK ws k x0) from rfl, hX]; exact h.sub (List.Sublist.cons_cons _ (List.nil_sublist _)) (fun _ h => h)⟩)
 ·(try simp only [decide_eq_true_eq, decide_eq_false_iff_not, Bool.not_eq_true', Bool.not_eq_false', Bool.not_not, Int.not_lt, Int.not_le] at hc25)
  refine Cx (Xc (Xc (Xe ?_)))
  obtain rfl : k = 64 := by omega
  have hrl := rounds_len KK ws 64 x0 hx0
  obtain ⟨X, hX⟩ : ∃ X, rounds KK ws 64 x0 = X := ⟨_, rfl⟩
  rw [hX] at hrl ⊢
  have hadl := addW_len X x0 (by omega)
  refine Xa (Cq (Cq (Cg (Ka rfl (Nn (Xa (Cb ?_)))))))
  refine WC.loop (σ := Nat) (fun k => [(0, .slice (some ⟨b0, off0, none⟩) 8 cap0), (7, .slice (some ⟨bv, 0, none⟩) 8 capv), (17, .int .i64 (k : Int))]) (fun k w' => k ≤ 8 ∧ St (fun b => ok b ∨ b < w.heap.size) w [⟨some bv, ((addW X x0).take k ++ X.drop k).map u32 ++ sp, 206⟩] [Fact.sl (some ⟨b0, off0, none⟩) (x0.map u32)] w') (fun k => 8 - k) 0 (by repeat (first | exact S0 _ | refine Sc rfl ?_)) (fun w' h => ⟨by omega, h.sub (List.Sublist.refl _) (by simp)⟩) ?_
  intro q; refine WC.pu ?_; intro hq
  refine Cq (Cq (Cg (Km rfl (Kq rfl (rd_lss rfl rfl rfl) (Nn (Xa ?_))))))
  refine Cd rfl (fun hc113 => ?_) (fun hc113 => ?_)
  ·(try simp only [decide_eq_true_eq, decide_eq_false_iff_not, Bool.not_eq_true', Bool.not_eq_false', Bool.not_not, Int.not_lt, Int.not_le] at hc113)
   have hXq := get_getD X q 0 (by omega)
   have hxq := get_getD x0 q 0 (by omega)
   have hcell : (((addW X x0).take q ++ X.drop q).map u32 ++ sp)[q]? = some (u32 (X.getD q 0)) := map_cell _ u32 _ _ _ (by rw [List.getElem?_append_right (by simp; omega), List.getElem?_drop, List.length_take, hadl, show q + (q - min q X.length) = q by omega, hXq])
   refine Ck (Xa (Cq (Cb ?_)))
   refine WC.mix [0, 0, 0, 0, 0, 0, 0, 0, 0, 0, 2] (by kernel_rfl) (by kernel_rfl) (fun w h => h.draw) ?_
   refine WM.r rfl rfl rfl (Rm rfl rfl) ?_
   refine WM.r rfl rfl rfl (Rm rfl rfl) ?_
   refine WM.r rfl rfl rfl (Ja rfl rfl rfl u181 (by kernel_rfl : _ = some 1) ?_) ?_
   ·omega
   refine WM.r rfl rfl rfl (ld rfl rfl (by first | exact .here | exact .t1 | exact .t2 | exact .t3 | exact .t4 | exact .t5 | exact .t6 | exact .t7) u206 rfl (by exact hcell)) ?_
   refine WM.r rfl rfl rfl (Rm rfl rfl) ?_
   refine WM.r rfl rfl rfl (Rm rfl rfl) ?_
   refine WM.r rfl rfl rfl (Ja rfl rfl rfl u181 (by kernel_rfl : _ = some 1) ?_) ?_
   ·omega
   refine WM.r rfl rfl rfl (ldf rfl rfl (by first | exact .here | exact .t1 | exact .t2 | exact .t3 | exact .t4 | exact .t5 | exact .t6 | exact .t7) u206 rfl (m := q) (by omega) (by rw [List.getElem?_map, hxq]; rfl)) ?_
   refine WM.r rfl rfl rfl (rdW_add rfl rfl rfl) ?_
   refine WM.r rfl rfl rfl (Ja rfl rfl rfl u181 (by kernel_rfl : _ = some 1) ?_) ?_
   ·omega
   refine WM.h0 rfl rfl (st rfl rfl rfl (by first | exact .here | exact .t1 | exact .t2 | exact .t3 | exact .t4 | exact .t5 | exact .t6 | exact .t7) (by kernel_rfl) rfl ?_ rfl) ?_
   ·simp; omega
   intro _
   refine WM.nil ?_
   refine Xd (Xa (Cg (Km rfl ?_)))
   first
    | (refine Kq rfl (Rz rfl rfl rfl ?_) ?_; focus (omega))
    | (refine Kq rfl (rd_add64 rfl rfl rfl ?_) ?_; focus (omega))
   refine Ka rfl (Nn ?_)
   exact WX.loop (q + 1) (by omega) (by repeat (first | exact S0 _ | refine Sc rfl ?_)) (fun w' h => ⟨by omega, by rw [List.set_append_left _ _ (by simp; omega), addW_set X x0 q _ _ (by omega) hXq hxq] at h; exact h⟩)
  ·(try simp only [decide_eq_true_eq, decide_eq_false_iff_not, Bool.not_eq_true', Bool.not_eq_false', Bool.not_not, Int.not_lt, Int.not_le] at hc113)
   refine Cx (Xc (Xc (Xe ?_)))
   obtain rfl : q = 8 := by omega
   have hfin : (addW X x0).take 8 ++ X.drop 8 = addW X x0 := by rw [List.take_of_length_le (by omega), List.drop_eq_nil_of_le (by omega), List.append_nil]
   rw [hfin]
   refine Xa (Cq (Cg (Km rfl (Ka rfl (Nn (Xa (Ce ?_)))))))
   refine WX.ret1 rfl rfl fun w' hS => ⟨⟨0, bv, capv, []⟩, rfl, ?_, ?_⟩
   ·exact (st_freeze hS).sub (List.Sublist.refl _) (by simp)
   ·exact .inr ⟨bv, 0, _, _, (0, 0), rfl, (hS.own_ ⟨some bv, (addW X x0).map u32 ++ sp, 206⟩ (by simp)).1, (hS.own_ ⟨some bv, (addW X x0).map u32 ++ sp, 206⟩ (by simp)).2, fun i hi => by rw [Nat.zero_add, List.getElem?_toArray, List.getElem?_append_left hi]⟩
structure G3r where
 q : Nat
 b : Nat
 cap : Nat
 x : List W
theorem rsum_ok (l : List UInt8) (hl : l.length ≤ 1000000) (w : World) :
  Cw 220 #[.string (S l)] w (.string (S (sha l))) := by
 have hz : zeros l.length = (119 - l.length % 64) % 64 := rfl
 have hpl : (pad l).length = l.length + 1 + zeros l.length + 8 := by simp [pad, len8]; omega
 obtain ⟨nb, hnb⟩ := pad_len l
 obtain ⟨m, hm⟩ : ∃ m, pad l = m := ⟨_, rfl⟩
 have hpad := padded_ok l hl
 rw [hm] at hnb hpl hpad
 refine enter (S := St (fun _ => True) w [] []) (L := [(0, .string (S l))]) Tryz.func220 rfl Tryz.ntmps220 rfl (Ac rfl (An _)) (St.start (fun _ _ => trivial) (by simp)) ?_
 refine Cq (Cg (Ka rfl (Nn (Xa (Cq (Cg ?_))))))
 refine Kh rfl (og_bs rfl rfl u181 (cs := H0.map u32) (fun w => by kernel_rfl)) ?_
 intro b9
 refine WL.st (S' := St (fun _ => True) w [] [Fact.sl (some ⟨b9, 0, none⟩) (H0.map u32)]) (fun _ h => st_freeze (sp := []) (by rw [List.append_nil]; exact h)) ?_
 refine Ka rfl (Nn (Xa (Cq (Cg (Km rfl ?_)))))
 refine Ku rfl (Oc rfl rfl (Kv fun w _ => hpad w)) ?_
 refine Ka rfl (Nn (Xa (Cq (Cq (Cg (Ka rfl (Nn (Xa (Cb ?_)))))))))
 refine WC.loop (σ := G3r) (fun p => [(3, .slice (some ⟨p.b, 0, none⟩) 8 p.cap), (4, .string (S m)), (5, .int .i64 ((64 * p.q : Nat) : Int))]) (fun p w' => ((p.q ≤ nb ∧ p.x.length = 8) ∧ chunks nb H0 m = chunks (nb - p.q) p.x (m.drop (64 * p.q))) ∧ St (fun _ => True) w [] [Fact.sl (some ⟨p.b, 0, none⟩) (p.x.map u32)] w') (fun p => nb - p.q) ⟨0, b9, 8, H0⟩ (by repeat (first | exact S0 _ | refine Sc rfl ?_)) (fun w' h => ⟨⟨⟨by simp, rfl⟩, by simp⟩, h⟩) ?_
 rintro ⟨q, bv, capv, x⟩; dsimp only; refine WC.pu ?_; rintro ⟨⟨hq, hx⟩, hch⟩
 refine Cq (Cq (Cg (Km rfl (Km rfl (Kq rfl (rd_slen rfl rfl u9) (Kq rfl (rd_lss rfl rfl rfl) (Nn (Xa ?_))))))))
 refine Cd rfl (fun hc15 => ?_) (fun hc15 => ?_)
 ·(try simp only [decide_eq_true_eq, decide_eq_false_iff_not, Bool.not_eq_true', Bool.not_eq_false', Bool.not_not, Int.not_lt, Int.not_le] at hc15)
  have hqn : q < nb := by omega
  refine Ck (Xa (Cq (Cb (Cg (Km rfl (Km rfl (Km rfl (Km rfl ?_))))))))
  first
   | (refine Kq rfl (Rz rfl rfl rfl ?_) ?_; focus (omega))
   | (refine Kq rfl (rd_add64 rfl rfl rfl ?_) ?_; focus (omega))
  refine Kq rfl (rd_ss rfl rfl rfl rfl u9 ?_) ?_
  ·(try simp only [List.length_append, List.length_cons, List.length_nil]); omega
  refine Ns 23 rfl (v' := .string (S ((m.drop (64 * q)).take 64))) (by rw [Int.toNat_natCast, Int.toNat_natCast, show 64 * q + 64 - 64 * q = 64 by omega]) ?_
  refine Kh rfl (Oc rfl rfl (keep_fact (F := fun g : GC => [Fact.sl (some ⟨g.b, 0, none⟩) ((compress x ((m.drop (64 * q)).take 64)).map u32)]) fun w hS => rcompress_ok x hx ((m.drop (64 * q)).take 64) (by simp; omega) _ _ _ w hS.fresh (hS.holds_any (k := 0) rfl))) ?_
  intro gc
  refine Ka rfl (Nn (Xd (Xa (Cg (Km rfl ?_)))))
  first
   | (refine Kq rfl (Rz rfl rfl rfl ?_) ?_; focus (omega))
   | (refine Kq rfl (rd_add64 rfl rfl rfl ?_) ?_; focus (omega))
  refine Ka rfl (Nn ?_)
  exact WX.loop ⟨q + 1, gc.b, gc.cap, compress x ((m.drop (64 * q)).take 64)⟩ (by show nb - (q + 1) < nb - q; omega) (by repeat (first | exact S0 _ | refine Sc rfl ?_)) (fun w' h => ⟨⟨⟨by show q + 1 ≤ nb; omega, compress_len _ _ hx⟩, by rw [hch, show nb - q = (nb - (q + 1)) + 1 by omega, chunks_succ, List.drop_drop]; congr 1⟩, h.sub (List.Sublist.refl _) (by simp)⟩)
 ·(try simp only [decide_eq_true_eq, decide_eq_false_iff_not, Bool.not_eq_true', Bool.not_eq_false', Bool.not_not, Int.not_lt, Int.not_le] at hc15)
  refine Cx (Xc (Xc (Xe ?_)))
  obtain rfl : q = nb := by omega
  have hfin : sha l = outW x := by rw [sha, hm, hnb, Nat.mul_div_cancel_left _ (by omega), hch, Nat.sub_self]; rfl
  refine Xa (Cq (Cg (Ka rfl (Nn (Xa (Cq (Cq (Cg (Ka rfl (Nn (Xa (Cb ?_))))))))))))
  refine WC.loop (σ := G4) (fun p => [(3, .slice (some ⟨bv, 0, none⟩) 8 capv), (7, .int .i64 (p.k : Int)), (6, .slice (p.ob.map fun b => ⟨b, 0, none⟩) (4 * p.k) p.cap)]) (fun p w' => (p.k ≤ 8 ∧ (p.k = 0 ∨ ∃ b, p.ob = some b) ∧ p.cap = 4 * p.k + p.spare.length) ∧ St (fun _ => True) w [⟨p.ob, (outW (x.take p.k)).map B ++ p.spare, 5⟩] [Fact.sl (some ⟨bv, 0, none⟩) (x.map u32)] w') (fun p => 8 - p.k) ⟨0, none, 0, []⟩ (by repeat (first | exact S0 _ | refine Sc rfl ?_)) (fun w' h => ⟨⟨by simp, .inl rfl, rfl⟩, h.nil _⟩) ?_
  rintro ⟨k, ob, cap4, sp4⟩; dsimp only; refine WC.pu ?_; rintro ⟨hk, hob, hcap4⟩
  refine Cq (Cq (Cg (Km rfl (Kq rfl (rd_lss rfl rfl rfl) (Nn (Xa ?_))))))
  refine Cd rfl (fun hc26 => ?_) (fun hc26 => ?_)
  ·(try simp only [decide_eq_true_eq, decide_eq_false_iff_not, Bool.not_eq_true', Bool.not_eq_false', Bool.not_not, Int.not_lt, Int.not_le] at hc26)
   refine Ck (Xa (Cq (Cb (Cq (Cg (Km rfl (Km rfl ?_)))))))
   refine Kq rfl (Ja rfl rfl rfl u181 (by kernel_rfl : _ = some 1) ?_) ?_
   ·omega
   refine Kq rfl (ldf rfl rfl (by first | exact .here | exact .t1 | exact .t2 | exact .t3 | exact .t4 | exact .t5 | exact .t6 | exact .t7) u206 rfl (m := k) (by omega) (by rw [List.getElem?_map, get_getD x _ 0 (by omega)]; rfl)) ?_
   refine Ka rfl (Nn (Xa (Cg (Km rfl (Km rfl (Kq rfl (rdW_shr rfl rfl rfl (by decide)) (Kq rfl (rd_conv rfl rfl u206 u5) (Ns 36 rfl (v' := B (byteAt (x.getD k 0).toNat 3)) (congrArg (Value.int .u8) (byte_W (x.getD k 0) 3)) (Km rfl (Kq rfl (rdW_shr rfl rfl rfl (by decide)) (Kq rfl (rd_conv rfl rfl u206 u5) (Ns 39 rfl (v' := B (byteAt (x.getD k 0).toNat 2)) (congrArg (Value.int .u8) (byte_W (x.getD k 0) 2)) (Km rfl (Kq rfl (rdW_shr rfl rfl rfl (by decide)) (Kq rfl (rd_conv rfl rfl u206 u5) (Ns 42 rfl (v' := B (byteAt (x.getD k 0).toNat 1)) (congrArg (Value.int .u8) (byte_W (x.getD k 0) 1)) (Km rfl (Kq rfl (rd_conv rfl rfl u206 u5) ?_))))))))))))))))))
   refine Ns 44 rfl (v' := B (byteAt (x.getD k 0).toNat 0)) (congrArg (Value.int .u8) (byte_W0 (x.getD k 0))) ?_
   refine Kh rfl (og_bs1 rfl rfl u136 (by kernel_rfl : _ = some (some (.int .u8 0), 1, 1)) rfl (by simp only [List.map]; rfl) rfl rfl ?_ (by decide)) ?_
   ·simp [B, Value.cells]
   intro b45
   refine Kh rfl (app rfl u136 (by kernel_rfl : _ = some (some (.int .u8 0), 1, 1)) rfl (by first | exact .here | exact .t1 | exact .t2 | exact .t3 | exact .t4 | exact .t5 | exact .t6 | exact .t7) (by rfl) (by rfl) (by first | exact .here | exact .t1 | exact .t2 | exact .t3 | exact .t4 | exact .t5 | exact .t6 | exact .t7) (by rfl) ?_ ?_) ?_
   ·(refine ⟨?_, ?_, ?_, ?_, ?_⟩ <;> (try simp [outW_len]) <;> omega)
   ·simp [B, Value.oneCell']
   intro g46
   refine WL.pu ?_
   intro hg46
   refine Ka rfl (Nn (Xd (Xa (Cg (Km rfl ?_)))))
   first
    | (refine Kq rfl (Rz rfl rfl rfl ?_) ?_; focus (omega))
    | (refine Kq rfl (rd_add64 rfl rfl rfl ?_) ?_; focus (omega))
   refine Ka rfl (Nn ?_)
   exact WX.loop ⟨k + 1, some g46.b, g46.cap, g46.spare⟩ (by show 8 - (k + 1) < 8 - k; omega) (by repeat (first | exact S0 _ | refine Sc rfl ?_)) (fun w' h => ⟨⟨by show k + 1 ≤ 8; omega, .inr ⟨_, rfl⟩, by have := hg46.2; show g46.cap = _; omega⟩, by rw [outW_take x k (by omega), List.map_append]; exact h.sub (List.sublist_cons_self _ _) (fun _ h => h)⟩)
  ·(try simp only [decide_eq_true_eq, decide_eq_false_iff_not, Bool.not_eq_true', Bool.not_eq_false', Bool.not_not, Int.not_lt, Int.not_le] at hc26)
   refine Cx (Xc (Xc (Xe ?_)))
   obtain rfl : k = 8 := by omega
   obtain ⟨b9', rfl⟩ : ∃ b, ob = some b := by rcases hob with h | h; omega; exact h
   rw [List.take_of_length_le (by omega)]
   refine Xa (Cq (Cg (Km rfl ?_)))
   refine Kq rfl (b2s (l := outW x) rfl rfl (by first | exact .here | exact .t1 | exact .t2 | exact .t3 | exact .t4 | exact .t5 | exact .t6 | exact .t7) u136 u5 u9 ?_ ?_) ?_
   ·simp [outW_len, hx]
   ·simp [outW_len, hx]
   refine Ka rfl (Nn (Xa (Ce ?_)))
   refine WX.ret1 rfl rfl fun w' hS => ⟨by rw [hfin], hS.below⟩
theorem xor_u8 (c : UInt8) (x : UInt8) : bits .xor .u8 (c.toNat : Int) (x.toNat : Int) = ((c ^^^ x).toNat : Int) := by
 have h1 := c.toNat_lt; have h2 := x.toNat_lt
 rw [u8_xor_nat _ _ h1 h2, UInt8.toNat_xor]
theorem map_step (K : List UInt8) (f : UInt8 → UInt8) (k : Nat) (c : UInt8) (h : K[k]? = some c) :
  (((K.take k).map f ++ K.drop k).map B).set k (B (f c)) = ((K.take (k + 1)).map f ++ K.drop (k + 1)).map B := by
 have hk : k < K.length := (List.getElem?_eq_some_iff.1 h).1
 rw [← List.map_set]
 congr 1
 have hlen : ((K.take k).map f).length = k := by simp; omega
 have hd : (K.drop k).set 0 (f c) = f c :: K.drop (k + 1) := by rw [List.drop_eq_getElem_cons hk]; rfl
 rw [List.set_append_right _ _ (by omega), hlen, Nat.sub_self, hd, List.take_add_one, h]
 simp
theorem map_here (K : List UInt8) (f : UInt8 → UInt8) (k : Nat) (c : UInt8) (h : K[k]? = some c) : (((K.take k).map f ++ K.drop k).map B)[k]? = some (B c) := by
 have hk : k < K.length := (List.getElem?_eq_some_iff.1 h).1
 have hlen : ((K.take k).map f).length = k := by simp; omega
 rw [List.getElem?_map, List.getElem?_append_right (by omega), hlen, Nat.sub_self, List.getElem?_drop, Nat.add_zero, h]; rfl
theorem mac_ok (key s : List UInt8) (hk : key.length ≤ 500000) (hs : s.length ≤ 500000) (w : World) :
  Cw 219 #[.string (S key), .string (S s)] w (.string (S (mac key s))) := by
 have hkl := keyOf_len key
 obtain ⟨K, hK⟩ : ∃ K, keyOf key ++ List.replicate (64 - (keyOf key).length) 0 = K := ⟨_, rfl⟩
 have hKl : K.length = 64 := by rw [← hK]; simp; omega
 have hx1 : xorKey (keyOf key) 92 = K.map (· ^^^ 92) := by rw [← hK]; rfl
 have hx2 : xorKey (keyOf key) 54 = K.map (· ^^^ 54) := by rw [← hK]; rfl
 refine enter (S := St (fun _ => True) w [] []) (L := [(0, .string (S key)), (1, .string (S s))]) Tryz.func219 rfl Tryz.ntmps219 rfl (Ac rfl (Ac rfl (An _))) (St.start (fun _ _ => trivial) (by simp)) ?_
 refine Cq (Cg (Ka rfl (Nn (Xa (Cq (Cq (Cg (Km rfl (Kq rfl (rd_slen rfl rfl u9) (Kq rfl (rd_gtr rfl rfl rfl) (Nn (Xa ?_))))))))))))
 refine Cd rfl (fun hc10 => ?_) (fun hc10 => ?_)
 ·(try simp only [sB] at hc10)
  refine Cg (Km rfl ?_)
  refine Ku rfl (Oc rfl rfl (Kv fun w _ => sum_ok _ (by omega) w)) ?_
  refine Ka rfl ?_
  refine Ns 0 rfl (v' := .string (S (keyOf key))) (by rw [keyOf, if_pos (by omega)]) ?_
  refine Nn (Xa (Cq (Cg ?_)))
  refine Kh rfl (Oa rfl (v := (.agg (List.replicate 64 (.int .u8 0)).toArray)) (cs := (List.replicate 64 (.int .u8 0))) (by kernel_rfl) rfl) ?_
  intro b5
  refine Kh rfl (Oa rfl (v := (.agg (List.replicate 64 (.int .u8 0)).toArray)) (cs := (List.replicate 64 (.int .u8 0))) (by kernel_rfl) rfl) ?_
  intro b6
  refine Nn (Xa (Cq (Cg ?_)))
  refine Kq rfl (rd_sla rfl rfl u241 (by kernel_rfl : _ = some 1)) ?_
  refine Km rfl ?_
  refine Kh rfl (cpys rfl rfl rfl (by first | exact .here | exact .t1 | exact .t2 | exact .t3 | exact .t4 | exact .t5 | exact .t6 | exact .t7) u136 (by kernel_rfl) (m := (keyOf key).length) (by omega) (by simp; omega) (ys := K.map B) (by rw [← hK, List.take_zero, List.nil_append, Nat.zero_add, List.take_length, List.drop_replicate, List.map_append, List.map_replicate]; rfl)) ?_
  intro _
  refine Nn (Xa (Cq (Cg ?_)))
  refine Kq rfl (rd_sla rfl rfl u241 (by kernel_rfl : _ = some 1)) ?_
  refine Km rfl ?_
  refine Kh rfl (cpys rfl rfl rfl (by first | exact .here | exact .t1 | exact .t2 | exact .t3 | exact .t4 | exact .t5 | exact .t6 | exact .t7) u136 (by kernel_rfl) (m := (keyOf key).length) (by omega) (by simp; omega) (ys := K.map B) (by rw [← hK, List.take_zero, List.nil_append, Nat.zero_add, List.take_length, List.drop_replicate, List.map_append, List.map_replicate]; rfl)) ?_
  intro _
  refine Nn (Xa (Cq (Cq (Cg (Km rfl (Nn (Xa (Cb ?_))))))))
  refine WC.loop (σ := Nat) (fun k => [(1, .string (S s)), (5, .pointer (some ⟨b5, 0, none⟩)), (6, .pointer (some ⟨b6, 0, none⟩)), (19, .int .i64 (k : Int))]) (fun k w' => k ≤ 64 ∧ St (fun _ => True) w [⟨some b6, ((K.take k).map (· ^^^ 92) ++ K.drop k).map B, 241⟩, ⟨some b5, ((K.take k).map (· ^^^ 54) ++ K.drop k).map B, 241⟩] [] w') (fun k => 64 - k) 0 (by repeat (first | exact S0 _ | refine Sc rfl ?_)) (fun w' h => ⟨by omega, h⟩) ?_
  intro k; refine WC.pu ?_; intro hk
  refine Cq (Cg (Kq rfl (rd_lss rfl rfl rfl) (Nn (Xa (Cq ?_)))))
  refine Cd rfl (fun hc20 => ?_) (fun hc20 => ?_)
  ·(try simp only [sB] at hc20)
   obtain ⟨c, hc⟩ : ∃ c, K[k]? = some c := ⟨_, List.getElem?_eq_getElem (by omega)⟩
   refine Ck (Xa (Cq (Cb (Cq (Cg (Km rfl (Ka rfl (Nn (Xa (Cq (Cg (Km rfl ?_))))))))))))
   refine Kq rfl (Jb rfl rfl rfl u241 (by kernel_rfl : _ = some 1) ?_) ?_
   ·omega
   refine Kq rfl (ld rfl rfl (by first | exact .here | exact .t1 | exact .t2 | exact .t3 | exact .t4 | exact .t5 | exact .t6 | exact .t7) u5 rfl (by exact map_here K (· ^^^ 54) k c hc)) ?_
   refine Kq rfl (rd_xor rfl rfl rfl) (Ns 25 rfl (v' := B (c ^^^ 54)) (congrArg (Value.int .u8) (xor_u8 c 54)) ?_)
   refine Kq rfl (Jb rfl rfl rfl u241 (by kernel_rfl : _ = some 1) ?_) ?_
   ·omega
   refine Ng rfl rfl (st rfl rfl rfl (by first | exact .here | exact .t1 | exact .t2 | exact .t3 | exact .t4 | exact .t5 | exact .t6 | exact .t7) (by kernel_rfl) rfl ?_ rfl) ?_
   ·simp; omega
   intro _
   refine Nn (Xa (Cg (Km rfl ?_)))
   refine Kq rfl (Jb rfl rfl rfl u241 (by kernel_rfl : _ = some 1) ?_) ?_
   ·omega
   refine Kq rfl (ld rfl rfl (by first | exact .here | exact .t1 | exact .t2 | exact .t3 | exact .t4 | exact .t5 | exact .t6 | exact .t7) u5 rfl (by exact map_here K (· ^^^ 92) k c hc)) ?_
   refine Kq rfl (rd_xor rfl rfl rfl) (Ns 30 rfl (v' := B (c ^^^ 92)) (congrArg (Value.int .u8) (xor_u8 c 92)) ?_)
   refine Kq rfl (Jb rfl rfl rfl u241 (by kernel_rfl : _ = some 1) ?_) ?_
   ·omega
   refine Ng rfl rfl (st rfl rfl rfl (by first | exact .here | exact .t1 | exact .t2 | exact .t3 | exact .t4 | exact .t5 | exact .t6 | exact .t7) (by kernel_rfl) rfl ?_ rfl) ?_
   ·simp; omega
   intro _
   refine Nn (Xd (Xa (Cg ?_)))
   first
    | (refine Kq rfl (Rz rfl rfl rfl ?_) ?_; focus (omega))
    | (refine Kq rfl (rd_add64 rfl rfl rfl ?_) ?_; focus (omega))
   refine Km rfl (Nn ?_)
   exact WX.loop (k + 1) (by omega) (by repeat (first | exact S0 _ | refine Sc rfl ?_)) (fun w' h => ⟨by omega, by rw [map_step K (· ^^^ 54) k c hc, map_step K (· ^^^ 92) k c hc] at h; exact h⟩)
  ·(try simp only [sB] at hc20)
   refine Cx (Xc (Xc (Xe ?_)))
   obtain rfl : k = 64 := by omega
   rw [List.take_of_length_le (by omega), List.drop_eq_nil_of_le (by omega), List.append_nil, List.append_nil]
   refine Xa (Cq ?_)
   refine WC.mix [0, 0, 0, 0, 0, 0, 1, 0, 1, 0] (by kernel_rfl) (by kernel_rfl) (fun w h => h.draw) ?_
   refine WM.r rfl rfl rfl (rd_sla rfl rfl u241 (by kernel_rfl : _ = some 1)) ?_
   refine WM.r rfl rfl rfl (b2s (l := K.map (· ^^^ 92)) rfl rfl (by first | exact .here | exact .t1 | exact .t2 | exact .t3 | exact .t4 | exact .t5 | exact .t6 | exact .t7) u136 u5 u9 ?_ ?_) ?_
   ·rw [List.drop_zero, List.take_of_length_le (by simp [hKl])]
   ·simp [hKl]
   refine WM.r rfl rfl rfl (rd_sla rfl rfl u241 (by kernel_rfl : _ = some 1)) ?_
   refine WM.r rfl rfl rfl (b2s (l := K.map (· ^^^ 54)) rfl rfl (by first | exact .here | exact .t1 | exact .t2 | exact .t3 | exact .t4 | exact .t5 | exact .t6 | exact .t7) u136 u5 u9 ?_ ?_) ?_
   ·rw [List.drop_zero, List.take_of_length_le (by simp [hKl])]
   ·simp [hKl]
   refine WM.r rfl rfl rfl (Rm rfl rfl) ?_
   refine WM.r rfl rfl rfl (rd_cat rfl rfl rfl ?_) ?_
   ·simp [hKl]; omega
   refine WM.g rfl rfl rfl (Oc rfl rfl (Kv fun w _ => sum_ok _ (by simp [hKl]; omega) w)) (fun _ _ h => by first | exact h | exact ⟨_, h⟩ | exact ⟨_, h.2⟩ | exact h.2 | exact h.sub (by repeat (first | exact List.Sublist.refl _ | apply List.Sublist.cons)) (fun _ h => by simp [*]) | exact h.2.sub (by repeat (first | exact List.Sublist.refl _ | apply List.Sublist.cons)) (fun _ h => by simp [*])) ?_
   intro _
   refine WM.r rfl rfl rfl (rd_cat rfl rfl rfl ?_) ?_
   ·simp [hKl, sha_len]
   refine WM.g rfl rfl rfl (Oc rfl rfl (Kv fun w _ => sum_ok _ (by simp [hKl, sha_len]) w)) (fun _ _ h => by first | exact h | exact ⟨_, h⟩ | exact ⟨_, h.2⟩ | exact h.2 | exact h.sub (by repeat (first | exact List.Sublist.refl _ | apply List.Sublist.cons)) (fun _ h => by simp [*]) | exact h.2.sub (by repeat (first | exact List.Sublist.refl _ | apply List.Sublist.cons)) (fun _ h => by simp [*])) ?_
   intro _
   refine WM.r rfl rfl rfl (Ra rfl rfl) ?_
   refine WM.nil ?_
   refine Xa (Ce ?_)
   exact WX.ret1 rfl rfl fun w' hS => ⟨by rw [mac, hx1, hx2], hS.below⟩
 ·(try simp only [sB] at hc10)
  refine WC.set 0 rfl (v' := .string (S (keyOf key))) (by rw [keyOf, if_neg (by omega)]) ?_
  refine Ck (Xa (Cq (Cg ?_)))
  refine Kh rfl (Oa rfl (v := (.agg (List.replicate 64 (.int .u8 0)).toArray)) (cs := (List.replicate 64 (.int .u8 0))) (by kernel_rfl) rfl) ?_
  intro b5
  refine Kh rfl (Oa rfl (v := (.agg (List.replicate 64 (.int .u8 0)).toArray)) (cs := (List.replicate 64 (.int .u8 0))) (by kernel_rfl) rfl) ?_
  intro b6
  refine Nn (Xa (Cq (Cg ?_)))
  refine Kq rfl (rd_sla rfl rfl u241 (by kernel_rfl : _ = some 1)) ?_
  refine Km rfl ?_
  refine Kh rfl (cpys rfl rfl rfl (by first | exact .here | exact .t1 | exact .t2 | exact .t3 | exact .t4 | exact .t5 | exact .t6 | exact .t7) u136 (by kernel_rfl) (m := (keyOf key).length) (by omega) (by simp; omega) (ys := K.map B) (by rw [← hK, List.take_zero, List.nil_append, Nat.zero_add, List.take_length, List.drop_replicate, List.map_append, List.map_replicate]; rfl)) ?_
  intro _
  refine Nn (Xa (Cq (Cg ?_)))
  refine Kq rfl (rd_sla rfl rfl u241 (by kernel_rfl : _ = some 1)) ?_
  refine Km rfl ?_
  refine Kh rfl (cpys rfl rfl rfl (by first | exact .here | exact .t1 | exact .t2 | exact .t3 | exact .t4 | exact .t5 | exact .t6 | exact .t7) u136 (by kernel_rfl) (m := (keyOf key).length) (by omega) (by simp; omega) (ys := K.map B) (by rw [← hK, List.take_zero, List.nil_append, Nat.zero_add, List.take_length, List.drop_replicate, List.map_append, List.map_replicate]; rfl)) ?_
  intro _
  refine Nn (Xa (Cq (Cq (Cg (Km rfl (Nn (Xa (Cb ?_))))))))
  refine WC.loop (σ := Nat) (fun k => [(1, .string (S s)), (5, .pointer (some ⟨b5, 0, none⟩)), (6, .pointer (some ⟨b6, 0, none⟩)), (19, .int .i64 (k : Int))]) (fun k w' => k ≤ 64 ∧ St (fun _ => True) w [⟨some b6, ((K.take k).map (· ^^^ 92) ++ K.drop k).map B, 241⟩, ⟨some b5, ((K.take k).map (· ^^^ 54) ++ K.drop k).map B, 241⟩] [] w') (fun k => 64 - k) 0 (by repeat (first | exact S0 _ | refine Sc rfl ?_)) (fun w' h => ⟨by omega, h⟩) ?_
  intro k; refine WC.pu ?_; intro hk
  refine Cq (Cg (Kq rfl (rd_lss rfl rfl rfl) (Nn (Xa (Cq ?_)))))
  refine Cd rfl (fun hc20 => ?_) (fun hc20 => ?_)
  ·(try simp only [sB] at hc20)
   obtain ⟨c, hc⟩ : ∃ c, K[k]? = some c := ⟨_, List.getElem?_eq_getElem (by omega)⟩
   refine Ck (Xa (Cq (Cb (Cq (Cg (Km rfl (Ka rfl (Nn (Xa (Cq (Cg (Km rfl ?_))))))))))))
   refine Kq rfl (Jb rfl rfl rfl u241 (by kernel_rfl : _ = some 1) ?_) ?_
   ·omega
   refine Kq rfl (ld rfl rfl (by first | exact .here | exact .t1 | exact .t2 | exact .t3 | exact .t4 | exact .t5 | exact .t6 | exact .t7) u5 rfl (by exact map_here K (· ^^^ 54) k c hc)) ?_
   refine Kq rfl (rd_xor rfl rfl rfl) (Ns 25 rfl (v' := B (c ^^^ 54)) (congrArg (Value.int .u8) (xor_u8 c 54)) ?_)
   refine Kq rfl (Jb rfl rfl rfl u241 (by kernel_rfl : _ = some 1) ?_) ?_
   ·omega
   refine Ng rfl rfl (st rfl rfl rfl (by first | exact .here | exact .t1 | exact .t2 | exact .t3 | exact .t4 | exact .t5 | exact .t6 | exact .t7) (by kernel_rfl) rfl ?_ rfl) ?_
   ·simp; omega
   intro _
   refine Nn (Xa (Cg (Km rfl ?_)))
   refine Kq rfl (Jb rfl rfl rfl u241 (by kernel_rfl : _ = some 1) ?_) ?_
   ·omega
   refine Kq rfl (ld rfl rfl (by first | exact .here | exact .t1 | exact .t2 | exact .t3 | exact .t4 | exact .t5 | exact .t6 | exact .t7) u5 rfl (by exact map_here K (· ^^^ 92) k c hc)) ?_
   refine Kq rfl (rd_xor rfl rfl rfl) (Ns 30 rfl (v' := B (c ^^^ 92)) (congrArg (Value.int .u8) (xor_u8 c 92)) ?_)
   refine Kq rfl (Jb rfl rfl rfl u241 (by kernel_rfl : _ = some 1) ?_) ?_
   ·omega
   refine Ng rfl rfl (st rfl rfl rfl (by first | exact .here | exact .t1 | exact .t2 | exact .t3 | exact .t4 | exact .t5 | exact .t6 | exact .t7) (by kernel_rfl) rfl ?_ rfl) ?_
   ·simp; omega
   intro _
   refine Nn (Xd (Xa (Cg ?_)))
   first
    | (refine Kq rfl (Rz rfl rfl rfl ?_) ?_; focus (omega))
    | (refine Kq rfl (rd_add64 rfl rfl rfl ?_) ?_; focus (omega))
   refine Km rfl (Nn ?_)
   exact WX.loop (k + 1) (by omega) (by repeat (first | exact S0 _ | refine Sc rfl ?_)) (fun w' h => ⟨by omega, by rw [map_step K (· ^^^ 54) k c hc, map_step K (· ^^^ 92) k c hc] at h; exact h⟩)
  ·(try simp only [sB] at hc20)
   refine Cx (Xc (Xc (Xe ?_)))
   obtain rfl : k = 64 := by omega
   rw [List.take_of_length_le (by omega), List.drop_eq_nil_of_le (by omega), List.append_nil, List.append_nil]
   refine Xa (Cq ?_)
   refine WC.mix [0, 0, 0, 0, 0, 0, 1, 0, 1, 0] (by kernel_rfl) (by kernel_rfl) (fun w h => h.draw) ?_
   refine WM.r rfl rfl rfl (rd_sla rfl rfl u241 (by kernel_rfl : _ = some 1)) ?_
   refine WM.r rfl rfl rfl (b2s (l := K.map (· ^^^ 92)) rfl rfl (by first | exact .here | exact .t1 | exact .t2 | exact .t3 | exact .t4 | exact .t5 | exact .t6 | exact .t7) u136 u5 u9 ?_ ?_) ?_
   ·rw [List.drop_zero, List.take_of_length_le (by simp [hKl])]
   ·simp [hKl]
   refine WM.r rfl rfl rfl (rd_sla rfl rfl u241 (by kernel_rfl : _ = some 1)) ?_
   refine WM.r rfl rfl rfl (b2s (l := K.map (· ^^^ 54)) rfl rfl (by first | exact .here | exact .t1 | exact .t2 | exact .t3 | exact .t4 | exact .t5 | exact .t6 | exact .t7) u136 u5 u9 ?_ ?_) ?_
   ·rw [List.drop_zero, List.take_of_length_le (by simp [hKl])]
   ·simp [hKl]
   refine WM.r rfl rfl rfl (Rm rfl rfl) ?_
   refine WM.r rfl rfl rfl (rd_cat rfl rfl rfl ?_) ?_
   ·simp [hKl]; omega
   refine WM.g rfl rfl rfl (Oc rfl rfl (Kv fun w _ => sum_ok _ (by simp [hKl]; omega) w)) (fun _ _ h => by first | exact h | exact ⟨_, h⟩ | exact ⟨_, h.2⟩ | exact h.2 | exact h.sub (by repeat (first | exact List.Sublist.refl _ | apply List.Sublist.cons)) (fun _ h => by simp [*]) | exact h.2.sub (by repeat (first | exact List.Sublist.refl _ | apply List.Sublist.cons)) (fun _ h => by simp [*])) ?_
   intro _
   refine WM.r rfl rfl rfl (rd_cat rfl rfl rfl ?_) ?_
   ·simp [hKl, sha_len]
   refine WM.g rfl rfl rfl (Oc rfl rfl (Kv fun w _ => sum_ok _ (by simp [hKl, sha_len]) w)) (fun _ _ h => by first | exact h | exact ⟨_, h⟩ | exact ⟨_, h.2⟩ | exact h.2 | exact h.sub (by repeat (first | exact List.Sublist.refl _ | apply List.Sublist.cons)) (fun _ h => by simp [*]) | exact h.2.sub (by repeat (first | exact List.Sublist.refl _ | apply List.Sublist.cons)) (fun _ h => by simp [*])) ?_
   intro _
   refine WM.r rfl rfl rfl (Ra rfl rfl) ?_
   refine WM.nil ?_
   refine Xa (Ce ?_)
   exact WX.ret1 rfl rfl fun w' hS => ⟨by rw [mac, hx1, hx2], hS.below⟩
theorem xorKey_get (key : List UInt8) (x : UInt8) (hk : key.length ≤ 64) (k : Nat) (h : k < 64) : (xorKey key x)[k]? = some (if h : k < key.length then key[k] ^^^ x else x) := by
 unfold xorKey
 by_cases hlt : k < key.length
 ·rw [List.getElem?_map, List.getElem?_append_left hlt, List.getElem?_eq_getElem hlt, dif_pos hlt]; rfl
 ·rw [List.getElem?_map, List.getElem?_append_right (by omega), List.getElem?_replicate, if_pos (by omega), dif_neg hlt]; simp
theorem xorKey_len (key : List UInt8) (x : UInt8) (hk : key.length ≤ 64) : (xorKey key x).length = 64 := by simp [xorKey]; omega
theorem xored_ok (key : List UInt8) (x : UInt8) (hk : key.length ≤ 64) (w : World) :
  Cw 221 #[.string (S key), B x] w (.string (S (xorKey key x))) := by
 have hXl := xorKey_len key x hk
 have hXg := xorKey_get key x hk
 obtain ⟨X, hX⟩ : ∃ X, xorKey key x = X := ⟨_, rfl⟩
 rw [hX] at hXl hXg ⊢
 refine enter (S := St (fun _ => True) w [] []) (L := [(0, .string (S key)), (1, B x)]) Tryz.func221 rfl Tryz.ntmps221 rfl (Ac rfl (Ac rfl (An _))) (St.start (fun _ _ => trivial) (by simp)) ?_
 refine Cq (Cg (Ka rfl (Nn (Xa (Cq (Cg ?_))))))
 refine Kh rfl (og_mk rfl rfl rfl u136 (by kernel_rfl : _ = some (some (.int .u8 0), 1, 1)) rfl ?_ (by (try simp only [sN, Int.reduceToNat, Nat.reduceAdd, Nat.reduceMul, Nat.reduceSub]); rfl) (by (try simp only [sN, Int.reduceToNat, Nat.reduceAdd, Nat.reduceMul, Nat.reduceSub]); rfl)) ?_
 ·decide
 intro b7
 refine Ka rfl (Nn (Xa (Cq (Cq (Cg (Ka rfl (Nn (Xa (Cb ?_)))))))))
 refine WC.loop (σ := Nat) (fun k => [(0, .string (S key)), (1, B x), (5, .slice (some ⟨b7, 0, none⟩) 64 64), (6, .int .i64 (k : Int))]) (fun k w' => k ≤ 64 ∧ St (fun _ => True) w [⟨some b7, (X.take k).map B ++ List.replicate (64 - k) (B 0), 5⟩] [] w') (fun k => 64 - k) 0 (by repeat (first | exact S0 _ | refine Sc rfl ?_)) (fun w' h => ⟨by omega, h⟩) ?_
 intro k; refine WC.pu ?_; intro hk'
 refine Cq (Cq (Cg (Km rfl (Kq rfl (rd_lss rfl rfl rfl) (Nn (Xa ?_))))))
 refine Cd rfl (fun hc9 => ?_) (fun hc9 => ?_)
 ·(try simp only [sB] at hc9)
  have hXk := hXg k (by omega)
  refine Ck (Xa (Cq (Cb (Cq (Cg (Km rfl (Km rfl (Km rfl ?_))))))))
  refine Kq rfl (Ja rfl rfl rfl u136 (by kernel_rfl : _ = some 1) ?_) ?_
  ·omega
  refine Ng rfl rfl (st rfl rfl rfl (by first | exact .here | exact .t1 | exact .t2 | exact .t3 | exact .t4 | exact .t5 | exact .t6 | exact .t7) (by kernel_rfl) rfl ?_ rfl) ?_
  ·simp; omega
  intro _
  refine Nn (Xa (Cq (Cg (Km rfl (Km rfl (Kq rfl (rd_slen rfl rfl u9) (Kq rfl (rd_lss rfl rfl rfl) (Nn (Xa ?_)))))))))
  refine Cd rfl (fun hc19 => ?_) (fun hc19 => ?_)
  ·(try simp only [sB] at hc19)
   rw [dif_pos (by omega)] at hXk
   obtain ⟨c, hc⟩ : ∃ c, key[k]'(by omega) = c := ⟨_, rfl⟩
   rw [hc] at hXk
   have hck : key[k]? = some c := by rw [List.getElem?_eq_getElem (by omega), hc]
   refine Cg (Km rfl (Km rfl (Km rfl (Km rfl ?_))))
   refine Kq rfl (rd_sidx rfl rfl rfl u9 ?_ (by rw [Int.toNat_natCast]; exact hck)) ?_
   ·omega
   refine Km rfl (Kq rfl (rd_xor rfl rfl rfl) (Ns 26 rfl (v' := B (c ^^^ x)) (congrArg (Value.int .u8) (xor_u8 c x)) ?_))
   refine Kq rfl (Ja rfl rfl rfl u136 (by kernel_rfl : _ = some 1) ?_) ?_
   ·omega
   refine Ng rfl rfl (st rfl rfl rfl (by first | exact .here | exact .t1 | exact .t2 | exact .t3 | exact .t4 | exact .t5 | exact .t6 | exact .t7) (by kernel_rfl) rfl ?_ rfl) ?_
   ·simp; omega
   intro _
   refine Nn (Xd (Xa (Cg (Km rfl ?_))))
   first
    | (refine Kq rfl (Rz rfl rfl rfl ?_) ?_; focus (omega))
    | (refine Kq rfl (rd_add64 rfl rfl rfl ?_) ?_; focus (omega))
   refine Ka rfl (Nn ?_)
   exact WX.loop (k + 1) (by omega) (by repeat (first | exact S0 _ | refine Sc rfl ?_)) (fun w' h => ⟨by omega, by (try rw [List.set_set] at h); rw [fill_set X B (B 0) 64 k _ (by omega) hXk] at h; exact h⟩)
  ·(try simp only [sB] at hc19)
   rw [dif_neg (by omega)] at hXk
   refine Ck (Xd (Xa (Cg (Km rfl ?_))))
   first
    | (refine Kq rfl (Rz rfl rfl rfl ?_) ?_; focus (omega))
    | (refine Kq rfl (rd_add64 rfl rfl rfl ?_) ?_; focus (omega))
   refine Ka rfl (Nn ?_)
   exact WX.loop (k + 1) (by omega) (by repeat (first | exact S0 _ | refine Sc rfl ?_)) (fun w' h => ⟨by omega, by (try rw [List.set_set] at h); rw [fill_set X B (B 0) 64 k _ (by omega) hXk] at h; exact h⟩)
 ·(try simp only [sB] at hc9)
  refine Cx (Xc (Xc (Xe ?_)))
  obtain rfl : k = 64 := by omega
  rw [Nat.sub_self, List.replicate_zero, List.append_nil, List.take_of_length_le (by omega)]
  refine Xa (Cq (Cg (Km rfl ?_)))
  refine Kq rfl (b2s (l := X) rfl rfl (by first | exact .here | exact .t1 | exact .t2 | exact .t3 | exact .t4 | exact .t5 | exact .t6 | exact .t7) u136 u5 u9 ?_ ?_) ?_
  ·rw [List.drop_zero, List.take_of_length_le (by simp; omega)]
  ·exact hXl
  refine Ka rfl (Nn (Xa (Ce ?_)))
  exact WX.ret1 rfl rfl fun w' hS => ⟨rfl, hS.below⟩
theorem rmac_ok (key s : List UInt8) (hk : key.length ≤ 500000) (hs : s.length ≤ 500000) (w : World) :
  Cw 194 #[.string (S key), .string (S s)] w (.string (S (mac key s))) := by
 have hkl := keyOf_len key
 have hl1 := xorKey_len (keyOf key) 92 hkl
 have hl2 := xorKey_len (keyOf key) 54 hkl
 refine enter (S := St (fun _ => True) w [] []) (L := [(0, .string (S key)), (1, .string (S s))]) Tryz.func194 rfl Tryz.ntmps194 rfl (Ac rfl (Ac rfl (An _))) (St.start (fun _ _ => trivial) (by simp)) ?_
 refine Cq (Cg (Ka rfl (Nn (Xa (Cq (Cq (Cg (Km rfl (Kq rfl (rd_slen rfl rfl u9) (Kq rfl (rd_gtr rfl rfl rfl) (Nn (Xa ?_))))))))))))
 refine Cd rfl (fun hc7 => ?_) (fun hc7 => ?_)
 ·(try simp only [sB] at hc7)
  refine Cg (Km rfl ?_)
  refine Ku rfl (Oc rfl rfl (Kv fun w _ => rsum_ok _ (by omega) w)) ?_
  refine Ka rfl ?_
  refine Ns 0 rfl (v' := .string (S (keyOf key))) (by rw [keyOf, if_pos (by omega)]) ?_
  refine Nn (Xa (Cq (Cg (Km rfl ?_))))
  refine Ku rfl (Oc rfl rfl (Kv fun w _ => xored_ok (keyOf key) 92 hkl w)) ?_
  refine Km rfl ?_
  refine Ku rfl (Oc rfl rfl (Kv fun w _ => xored_ok (keyOf key) 54 hkl w)) ?_
  refine Km rfl ?_
  refine Kq rfl (rd_cat rfl rfl rfl ?_) ?_
  ·rw [hl2]; omega
  refine Ku rfl (Oc rfl rfl (Kv fun w _ => rsum_ok _ (by rw [List.length_append, hl2]; omega) w)) ?_
  refine Kq rfl (rd_cat rfl rfl rfl ?_) ?_
  ·rw [hl1, sha_len]; omega
  refine Ku rfl (Oc rfl rfl (Kv fun w _ => rsum_ok _ (by rw [List.length_append, hl1, sha_len]; omega) w)) ?_
  refine Ka rfl (Nn (Xa (Ce ?_)))
  exact WX.ret1 rfl rfl fun w' hS => ⟨rfl, hS.below⟩
 ·(try simp only [sB] at hc7)
  refine WC.set 0 rfl (v' := .string (S (keyOf key))) (by rw [keyOf, if_neg (by omega)]) ?_
  refine Ck (Xa (Cq (Cg (Km rfl ?_))))
  refine Ku rfl (Oc rfl rfl (Kv fun w _ => xored_ok (keyOf key) 92 hkl w)) ?_
  refine Km rfl ?_
  refine Ku rfl (Oc rfl rfl (Kv fun w _ => xored_ok (keyOf key) 54 hkl w)) ?_
  refine Km rfl ?_
  refine Kq rfl (rd_cat rfl rfl rfl ?_) ?_
  ·rw [hl2]; omega
  refine Ku rfl (Oc rfl rfl (Kv fun w _ => rsum_ok _ (by rw [List.length_append, hl2]; omega) w)) ?_
  refine Kq rfl (rd_cat rfl rfl rfl ?_) ?_
  ·rw [hl1, sha_len]; omega
  refine Ku rfl (Oc rfl rfl (Kv fun w _ => rsum_ok _ (by rw [List.length_append, hl1, sha_len]; omega) w)) ?_
  refine Ka rfl (Nn (Xa (Ce ?_)))
  exact WX.ret1 rfl rfl fun w' hS => ⟨rfl, hS.below⟩
theorem mac_c {key s : List UInt8} {w : World} (hk : key.length ≤ 500000) (hs : s.length ≤ 500000) :
  Cw 219 #[.string (S key), .string (S s)] w (.string (S (mac key s))) :=
 mac_ok key s hk hs w
theorem rmac_c {key s : List UInt8} {w : World} (hk : key.length ≤ 500000) (hs : s.length ≤ 500000) :
  Cw 194 #[.string (S key), .string (S s)] w (.string (S (mac key s))) :=
 rmac_ok key s hk hs w
end Go.Proofs.YthkmpjobfdeoaaaGreatDoor
