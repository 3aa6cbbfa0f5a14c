/-
  Parts of the walk: Ref1 Ref2 Prs Tz Prm Prn Iks Pgr Pwa.
-/
import Derived.Test.YtddoigmffkmpcaaGreatDoorI14
import Derived.Laws.BitsAllLaws
namespace Go.Proofs.YtddoigmffkmpcaaGreatDoor
open Go.RowKit
set_option linter.unusedSimpArgs false
set_option linter.unusedVariables false
set_option maxHeartbeats 600000
set_option maxRecDepth 20000
theorem right_ok (x : W) (n : Nat) (h0 : 0 < n) (h : n < 32) (w : World) : Cw 116 #[u32 x, .int .i64 (n : Int)] w (u32 (rr x n)) := by
 refine enter (S := St (fun _ => True) w [] []) (L := [(0, u32 x), (1, .int .i64 (n : Int))]) Tryz.func116 rfl Tryz.ntmps116 rfl (Ac rfl (Ac rfl (An _))) (St.start (fun _ _ => trivial) (by simp)) ?_
 refine Cq (Cg (Ka rfl (Nn (Xa (Cq ?_)))))
 refine WC.mix [0, 0, 0, 0, 0, 0, 0, 0, 0] (by kernel_rfl) (by kernel_rfl) (fun w h => h.draw) ?_
 refine WM.r rfl rfl rfl (Rm rfl rfl) ?_
 refine WM.r rfl rfl rfl (Rm rfl rfl) ?_
 refine WM.r rfl rfl rfl (rd_shr rfl rfl rfl ?_) ?_
 ·first | decide | omega
 refine WM.set 7 rfl (v' := u32 (x >>> n)) (congrArg (Value.int .u32) (by rw [Int.toNat_natCast, show min n IntKind.u32.bits = n by simp [IntKind.bits]; omega, shr_W])) ?_
 refine WM.r rfl rfl rfl (Rm rfl rfl) ?_
 refine WM.r rfl rfl rfl (Rm rfl rfl) ?_
 first
  | (refine WM.r rfl rfl rfl (rd_sub64ln rfl rfl rfl ?_) ?_; focus (omega))
  | (refine WM.r rfl rfl rfl (rd_sub64 rfl rfl rfl ?_) ?_; focus (omega))
 refine WM.r rfl rfl rfl (rd_shl rfl rfl rfl ?_) ?_
 ·first | decide | omega
 refine WM.set 11 rfl (v' := u32 (x <<< (32 - n))) (congrArg (Value.int .u32) (by rw [Int.toNat_natCast, show min (32 - n) IntKind.u32.bits = 32 - n by simp [IntKind.bits], shl_W _ _ (by omega)])) ?_
 refine WM.r rfl rfl rfl (rdW_or rfl rfl rfl) ?_
 refine WM.r rfl rfl rfl (Ra rfl rfl) ?_
 refine WM.nil ?_
 refine Xa (Ce ?_)
 exact WX.ret1 rfl rfl fun w' hS => ⟨rfl, hS.below⟩
theorem right_lit (x : W) (n : Nat) (h0 : 0 < n) (h : n < 32) (w : World) : Cw 116 #[u32 x, .int .i64 (@OfNat.ofNat Int n instOfNat)] w (u32 (rr x n)) := right_ok x n h0 h w
theorem rconst_ok (ok : Nat → Prop) (w : World) (hok : ∀ b, w.heap.size ≤ b → ok b) : Calls Tryz.prog 115 #[] w fun e w' => ∃ b : Nat, e = .returned (.slice (some ⟨b, 0, none⟩) 64 64) ∧ Below w.heap.size w w' ∧ ∀ x ∈ [Fact.sl (some ⟨b, 0, none⟩) (KK.map u32)], x.holds ok w' := by
 refine enter (S := St ok w [] []) (L := []) Tryz.func115 rfl Tryz.ntmps115 rfl (An _) (St.start hok (by simp)) ?_
 refine Cq (Cg (Ka rfl (Nn (Xa (Cq (Cg ?_))))))
 refine Kh rfl (og_bs rfl rfl u122 (cs := KK.map u32) (fun w => by kernel_rfl)) ?_
 intro b1
 refine Ka rfl (Nn (Xa (Ce ?_)))
 refine WX.ret1 rfl rfl fun w' hS => ⟨b1, rfl, hS.below, ?_⟩
 have h2 := (st_freeze (sp := []) (by rw [List.append_nil]; exact hS) : St ok w [] [Fact.sl (some ⟨b1, 0, none⟩) (KK.map u32)] w')
 intro x hx; simp only [List.mem_singleton] at hx; subst hx; exact Fact.mono _ (fun _ hb => hb.1) (h2.holds (k := 0) rfl)
theorem len8_drop (M q : Nat) (hq : q ≤ 7) : (len8 M).drop (7 - q) = byteAt M q :: (len8 M).drop (8 - q) := by
 have : q = 0 ∨ q = 1 ∨ q = 2 ∨ q = 3 ∨ q = 4 ∨ q = 5 ∨ q = 6 ∨ q = 7 := by omega
 rcases this with rfl | rfl | rfl | rfl | rfl | rfl | rfl | rfl <;> rfl
theorem len8_set (M q : Nat) (hq : q ≤ 7) : ((List.replicate (8 - q) 0 ++ (len8 M).drop (8 - q)).map B).set (7 - q) (B (byteAt M q)) = (List.replicate (8 - (q + 1)) 0 ++ (len8 M).drop (8 - (q + 1))).map B := by
 rw [← List.map_set]
 congr 1
 rw [show 8 - (q + 1) = 7 - q by omega, len8_drop M q hq, show 8 - q = (7 - q) + 1 by omega, List.replicate_succ', List.append_assoc, List.set_append_right _ _ (by simp)]
 simp
theorem byte_mod (M q : Nat) : ((M / 256 ^ q % 256 : Nat) : Int) = ((byteAt M q).toNat : Int) := by
 rw [byteAt, UInt8.toNat_ofNat', show (2 : Nat) ^ (8 * q) = 256 ^ q by rw [Nat.pow_mul]]
 omega
theorem padded_ok (l : List UInt8) (hl : l.length ≤ 1000000) (w : World) :
  Cw 80 #[.string (S l)] w (.string (S (pad l))) := by
 have hz : zeros l.length = (119 - l.length % 64) % 64 := rfl
 refine enter (S := St (fun _ => True) w [] []) (L := [(0, .string (S l))]) Tryz.func80 rfl Tryz.ntmps80 rfl (Ac rfl (An _)) (St.start (fun _ _ => trivial) (by simp)) ?_
 refine Cq (Cg (Ka rfl (Nn (Xa (Cq (Cg (Km rfl (Kq rfl (rd_slen rfl rfl u9) (Ka rfl (Nn (Xa (Cq (Cg (Km rfl ?_))))))))))))))
 refine Kq rfl (rd_cat (b := [128]) rfl rfl rfl (by simp; omega)) ?_
 refine Ka rfl (Nn (Xa (Cq (Cb ?_))))
 refine WC.loop (σ := Nat) (fun j => [(0, .string (S (l ++ [128] ++ List.replicate j 0))), (3, .int .i64 (l.length : Int))]) (fun j w' => j ≤ zeros l.length ∧ St (fun _ => True) w [] [] w') (fun j => zeros l.length - j) 0 (by repeat (first | exact S0 _ | refine Sc (by simp; rfl) ?_ | refine Sc rfl ?_)) (fun w' h => ⟨by omega, h⟩) ?_
 intro j; refine WC.pu ?_; intro hj
 have hlen : (l ++ [128] ++ List.replicate j 0).length = l.length + 1 + j := by simp; omega
 refine Cq (Cq (Cg (Km rfl (Kq rfl (rd_slen rfl rfl u9) ?_))))
 first
  | (refine Kq rfl (rd_rem64nl rfl rfl rfl ?_) ?_; focus (omega))
  | (refine Kq rfl (rd_rem64 rfl rfl rfl ?_) ?_; focus (omega))
 refine Kq rfl (rd_neq rfl rfl rfl) (Nn (Xa ?_))
 refine Cd rfl (fun hc14 => ?_) (fun hc14 => ?_)
 ·(try simp only [decide_eq_true_eq, decide_eq_false_iff_not, Bool.not_eq_true', Bool.not_eq_false', Bool.not_not, Int.not_lt, Int.not_le] at hc14)
  refine Ck (Xa (Cb (Cg (Km rfl ?_))))
  refine Kq rfl (rd_cat (b := [0]) rfl rfl rfl (by rw [hlen]; simp; omega)) ?_
  refine Ka rfl (Nn (Xd ?_))
  exact WX.loop (j + 1) (by omega) (by repeat (first | exact S0 _ | refine Sc rfl ?_ | refine Sc (by rw [List.replicate_succ', ← List.append_assoc]; rfl) ?_)) (fun w' h => ⟨by omega, h⟩)
 ·(try simp only [decide_eq_true_eq, decide_eq_false_iff_not, Bool.not_eq_true', Bool.not_eq_false', Bool.not_not, Int.not_lt, Int.not_le] at hc14)
  refine Cx (Xc (Xc (Xe ?_)))
  obtain rfl : j = zeros l.length := by omega
  refine Xa (Cq (Cg ?_))
  refine Kh rfl (og_mk rfl rfl rfl u83 (by kernel_rfl : _ = some (some (.int .u8 0), 1, 1)) rfl ?_ (by (try simp only [Int.toNat_natCast, Nat.mul_one, Nat.zero_add, Nat.add_zero, Nat.zero_mul, Int.reduceToNat, Nat.reduceAdd, Nat.reduceMul, Nat.reduceSub, Nat.sub_zero]); rfl) (by (try simp only [Int.toNat_natCast, Nat.mul_one, Nat.zero_add, Nat.add_zero, Nat.zero_mul, Int.reduceToNat, Nat.reduceAdd, Nat.reduceMul, Nat.reduceSub, Nat.sub_zero]); rfl)) ?_
  ·decide
  intro b17
  refine Ka rfl (Nn (Xa (Cq (Cg (Km rfl (Kq rfl (rd_conv rfl rfl u3 u49) (Kq rfl (rd_mul rfl rfl rfl) ?_)))))))
  refine Ns 20 rfl (v' := .int .u64 ((8 * l.length / 256 ^ 0 : Nat) : Int)) (congrArg (Value.int .u64) (by rw [IntKind.wrap_u64, IntKind.wrap_u64, Nat.pow_zero, Nat.div_one]; omega)) ?_
  refine Ka rfl (Nn (Xa (Cq (Cq (Cg (Ka rfl (Nn (Xa (Cb ?_)))))))))
  refine WC.loop (σ := Nat) (fun q => [(0, .string (S (l ++ [128] ++ List.replicate (zeros l.length) 0))), (4, .slice (some ⟨b17, 0, none⟩) 8 8), (5, .int .u64 ((8 * l.length / 256 ^ q : Nat) : Int)), (6, .int .i64 (7 - (q : Int)))]) (fun q w' => q ≤ 8 ∧ St (fun _ => True) w [⟨some b17, (List.replicate (8 - q) 0 ++ (len8 (8 * l.length)).drop (8 - q)).map B, 5⟩] [] w') (fun q => 8 - q) 0 (by repeat (first | exact S0 _ | refine Sc rfl ?_)) (fun w' h => ⟨by omega, h⟩) ?_
  intro q; refine WC.pu ?_; intro hq
  have hdv : 8 * l.length / 256 ^ q ≤ 8 * l.length := Nat.div_le_self _ _
  refine Cq (Cq (Cg (Km rfl (Kq rfl (rd_geq rfl rfl rfl) (Nn (Xa ?_))))))
  refine Cd rfl (fun hc22 => ?_) (fun hc22 => ?_)
  ·(try simp only [decide_eq_true_eq, decide_eq_false_iff_not, Bool.not_eq_true', Bool.not_eq_false', Bool.not_not, Int.not_lt, Int.not_le] at hc22)
   refine Ck (Xa (Cq (Cb (Cq (Cg (Km rfl (Km rfl (Km rfl (Kq rfl (rd_remN rfl rfl rfl (by decide)) (Kq rfl (rd_conv rfl rfl u49 u5) ?_))))))))))
   refine Ns 29 rfl (v' := B (byteAt (8 * l.length) q)) (congrArg (Value.int .u8) (by rw [byte_mod, IntWalk.u8_in _ (by have := (byteAt (8 * l.length) q).toNat_lt; omega)])) ?_
   refine Kq rfl (rd_ia rfl rfl rfl u83 (by kernel_rfl : _ = some 1) (by omega) (q := 7 - q) (by omega)) ?_
   refine Ng rfl rfl (st rfl rfl rfl (by first | exact .here | exact .t1 | exact .t2 | exact .t3 | exact .t4 | exact .t5 | exact .t6 | exact .t7) (by kernel_rfl) rfl ?_ rfl) ?_
   ·simp [len8]; omega
   intro _
   refine Nn (Xa (Cg (Km rfl ?_)))
   refine Kq rfl (rd_quoN rfl rfl rfl (by decide) ?_) ?_
   ·(have h9 := hdv; generalize 8 * l.length / 256 ^ q = z at h9 ⊢; exact IntWalk.u64_in _ ⟨by omega, by omega⟩)
   refine Ns 32 rfl (v' := .int .u64 ((8 * l.length / 256 ^ (q + 1) : Nat) : Int)) (by rw [Nat.pow_succ, ← Nat.div_div_eq_div_mul]) ?_
   refine Ka rfl (Nn (Xd (Xa (Cg (Km rfl ?_)))))
   first
    | (refine Kq rfl (rd_sub64nl rfl rfl rfl ?_) ?_; focus (omega))
    | (refine Kq rfl (rd_sub64 rfl rfl rfl ?_) ?_; focus (omega))
   refine Ka rfl (Nn ?_)
   exact WX.loop (q + 1) (by omega) (by repeat (first | exact S0 _ | refine Sc rfl ?_ | refine Sc (by show some (Value.int _ _) = some (Value.int _ _); congr 2; omega) ?_)) (fun w' h => ⟨by omega, by rw [len8_set (8 * l.length) q (by omega)] at h; exact h⟩)
  ·(try simp only [decide_eq_true_eq, decide_eq_false_iff_not, Bool.not_eq_true', Bool.not_eq_false', Bool.not_not, Int.not_lt, Int.not_le] at hc22)
   refine Cx (Xc (Xc (Xe ?_)))
   obtain rfl : q = 8 := by omega
   refine Xa (Cq (Cg (Km rfl (Km rfl ?_))))
   refine Kq rfl (b2s (l := len8 (8 * l.length)) rfl rfl (by first | exact .here | exact .t1 | exact .t2 | exact .t3 | exact .t4 | exact .t5 | exact .t6 | exact .t7) u83 u5 u9 ?_ ?_) ?_
   ·rfl
   ·rfl
   refine Kq rfl (rd_cat rfl rfl rfl ?_) ?_
   ·simp [len8]; omega
   refine Ka rfl (Nn (Xa (Ce ?_)))
   exact WX.ret1 rfl rfl fun w' hS => ⟨rfl, hS.below⟩
theorem rsched_ok (bs : List UInt8) (hbs : bs.length = 64) (ok : Nat → Prop) (w : World) (hok : ∀ b, w.heap.size ≤ b → ok b) :
  Calls Tryz.prog 114 #[.string (S bs)] w fun e w' => ∃ b : Nat, e = .returned (.slice (some ⟨b, 0, none⟩) 64 64) ∧ Below w.heap.size w w' ∧ ∀ x ∈ [Fact.sl (some ⟨b, 0, none⟩) ((sched 48 (words bs)).map u32)], x.holds ok w' := by
 have hwl := words_len 16 bs hbs
 refine enter (S := St ok w [] []) (L := [(0, .string (S bs))]) Tryz.func114 rfl Tryz.ntmps114 rfl (Ac rfl (An _)) (St.start hok (by simp)) ?_
 refine Cq (Cg (Ka rfl (Nn (Xa (Cq (Cg ?_))))))
 refine Kh rfl (og_mk rfl rfl rfl u122 (by kernel_rfl : _ = some (some (.int .u32 0), 1, 4)) rfl ?_ (by (try simp only [Int.toNat_natCast, Nat.mul_one, Nat.zero_add, Nat.add_zero, Nat.zero_mul, Int.reduceToNat, Nat.reduceAdd, Nat.reduceMul, Nat.reduceSub, Nat.sub_zero]); rfl) (by (try simp only [Int.toNat_natCast, Nat.mul_one, Nat.zero_add, Nat.add_zero, Nat.zero_mul, Int.reduceToNat, Nat.reduceAdd, Nat.reduceMul, Nat.reduceSub, Nat.sub_zero]); rfl)) ?_
 ·decide
 intro b11
 refine Ka rfl (Nn (Xa (Cq (Cq (Cg (Ka rfl (Nn (Xa (Cb ?_)))))))))
 refine WC.loop (σ := Nat) (fun k => [(0, .string (S bs)), (3, .slice (some ⟨b11, 0, none⟩) 64 64), (4, .int .i64 (k : Int))]) (fun k w' => k ≤ 16 ∧ St ok w [⟨some b11, ((words bs).take k).map u32 ++ List.replicate (64 - k) (u32 0), 56⟩] [] w') (fun k => 16 - k) 0 (by repeat (first | exact S0 _ | refine Sc rfl ?_)) (fun w' h => ⟨by omega, h⟩) ?_
 intro k; refine WC.pu ?_; intro hk
 refine Cq (Cq (Cg (Km rfl (Kq rfl (rd_lss rfl rfl rfl) (Nn (Xa ?_))))))
 refine Cd rfl (fun hc13 => ?_) (fun hc13 => ?_)
 ·(try simp only [decide_eq_true_eq, decide_eq_false_iff_not, Bool.not_eq_true', Bool.not_eq_false', Bool.not_not, Int.not_lt, Int.not_le] at hc13)
  obtain ⟨c0, hc0⟩ : ∃ c, bs[4 * k]? = some c := ⟨_, List.getElem?_eq_getElem (by omega)⟩
  obtain ⟨c1, hc1⟩ : ∃ c, bs[4 * k + 1]? = some c := ⟨_, List.getElem?_eq_getElem (by omega)⟩
  obtain ⟨c2, hc2⟩ : ∃ c, bs[4 * k + 2]? = some c := ⟨_, List.getElem?_eq_getElem (by omega)⟩
  obtain ⟨c3, hc3⟩ : ∃ c, bs[4 * k + 3]? = some c := ⟨_, List.getElem?_eq_getElem (by omega)⟩
  have hwk := words_get k bs c0 c1 c2 c3 hc0 hc1 hc2 hc3
  refine Ck (Xa (Cq (Cb (Cq (Cg (Ka rfl (Nn (Xa (Cb ?_)))))))))
  refine WC.loop (σ := Nat) (fun j => [(0, .string (S bs)), (3, .slice (some ⟨b11, 0, none⟩) 64 64), (4, .int .i64 (k : Int)), (5, .int .i64 (j : Int))]) (fun j w' => j ≤ 4 ∧ St ok w [⟨some b11, (((words bs).take k).map u32 ++ List.replicate (64 - k) (u32 0)).set k (u32 (part4 c0 c1 c2 c3 j)), 56⟩] [] w') (fun j => 4 - j) 0 (by repeat (first | exact S0 _ | refine Sc rfl ?_)) (fun w' h => ⟨by omega, by rw [show part4 c0 c1 c2 c3 0 = 0 from rfl, set_zero4 (words bs) hwl k (by omega)]; exact h⟩) ?_
  intro j; refine WC.pu ?_; intro hj
  refine Cq (Cq (Cg (Km rfl (Kq rfl (rd_lss rfl rfl rfl) (Nn (Xa ?_))))))
  refine Cd rfl (fun hc17 => ?_) (fun hc17 => ?_)
  ·(try simp only [decide_eq_true_eq, decide_eq_false_iff_not, Bool.not_eq_true', Bool.not_eq_false', Bool.not_not, Int.not_lt, Int.not_le] at hc17)
   have hcj : bs[4 * k + j]? = some (pick4 c0 c1 c2 c3 j) := by
    have : j = 0 ∨ j = 1 ∨ j = 2 ∨ j = 3 := by omega
    rcases this with rfl | rfl | rfl | rfl
    ·exact hc0
    ·exact hc1
    ·exact hc2
    ·exact hc3
   refine Ck (Xa (Cq (Cb ?_)))
   refine WC.mix [0, 0, 0, 0, 0, 0, 0, 0, 0, 0, 0, 0, 0, 0, 0, 0, 2] (by kernel_rfl) (by kernel_rfl) (fun w h => h.draw) ?_
   refine WM.r rfl rfl rfl (Rm rfl rfl) ?_
   refine WM.r rfl rfl rfl (Rm rfl rfl) ?_
   refine WM.r rfl rfl rfl (Rm rfl rfl) ?_
   refine WM.r rfl rfl rfl (Rm rfl rfl) ?_
   refine WM.r rfl rfl rfl (Ja rfl rfl rfl u122 (by kernel_rfl : _ = some 1) ?_) ?_
   ·omega
   refine WM.r rfl rfl rfl (ld rfl rfl (by first | exact .here | exact .t1 | exact .t2 | exact .t3 | exact .t4 | exact .t5 | exact .t6 | exact .t7) u56 rfl (by rw [List.getElem?_set_self (by simp; omega)])) ?_
   refine WM.r rfl rfl rfl (rd_mul rfl rfl rfl) ?_
   refine WM.set 26 rfl (v' := u32 (part4 c0 c1 c2 c3 j * 256)) (congrArg (Value.int .u32) (mul_W _ 256)) ?_
   refine WM.r rfl rfl rfl (Rm rfl rfl) ?_
   refine WM.r rfl rfl rfl (Rm rfl rfl) ?_
   first
    | (refine WM.r rfl rfl rfl (rd_mul64ln rfl rfl rfl ?_) ?_; focus (omega))
    | (refine WM.r rfl rfl rfl (rd_mul64 rfl rfl rfl ?_) ?_; focus (omega))
   refine WM.r rfl rfl rfl (Rm rfl rfl) ?_
   first
    | (refine WM.r rfl rfl rfl (rd_add64n rfl rfl rfl ?_) ?_; focus (omega))
    | (refine WM.r rfl rfl rfl (rd_add64 rfl rfl rfl ?_) ?_; focus (omega))
   refine WM.r rfl rfl rfl (rd_sidx rfl rfl rfl u9 ?_ (by rw [Int.toNat_natCast]; exact hcj)) ?_
   ·omega
   refine WM.r rfl rfl rfl (rd_conv rfl rfl u5 u56) ?_
   refine WM.set 33 rfl (v' := u32 (BitVec.ofNat 32 (pick4 c0 c1 c2 c3 j).toNat)) (congrArg (Value.int .u32) (u8_W _)) ?_
   refine WM.r rfl rfl rfl (rdW_add rfl rfl rfl) ?_
   refine WM.r rfl rfl rfl (Ja rfl rfl rfl u122 (by kernel_rfl : _ = some 1) ?_) ?_
   ·omega
   refine WM.h0 rfl rfl (st rfl rfl rfl (by first | exact .here | exact .t1 | exact .t2 | exact .t3 | exact .t4 | exact .t5 | exact .t6 | exact .t7) (by kernel_rfl) rfl ?_ rfl) ?_
   ·simp; omega
   intro _
   refine WM.nil ?_
   refine Xd (Xa (Cg (Km rfl ?_)))
   first
    | (refine Kq rfl (Rz rfl rfl rfl ?_) ?_; focus (omega))
    | (refine Kq rfl (rd_add64 rfl rfl rfl ?_) ?_; focus (omega))
   refine Ka rfl (Nn ?_)
   exact WX.loop (j + 1) (by omega) (by repeat (first | exact S0 _ | refine Sc rfl ?_)) (fun w' h => ⟨by omega, by rw [List.set_set] at h; rw [part4_succ c0 c1 c2 c3 j (by omega)]; exact h⟩)
  ·(try simp only [decide_eq_true_eq, decide_eq_false_iff_not, Bool.not_eq_true', Bool.not_eq_false', Bool.not_not, Int.not_lt, Int.not_le] at hc17)
   refine Cx (Xc (Xc (Xe ?_)))
   obtain rfl : j = 4 := by omega
   refine Xd (Xa (Cg (Km rfl ?_)))
   first
    | (refine Kq rfl (Rz rfl rfl rfl ?_) ?_; focus (omega))
    | (refine Kq rfl (rd_add64 rfl rfl rfl ?_) ?_; focus (omega))
   refine Ka rfl (Nn ?_)
   exact WX.loop (k + 1) (by omega) (by repeat (first | exact S0 _ | refine Sc rfl ?_)) (fun w' h => ⟨by omega, by rw [part4_word, fill_set (words bs) u32 (u32 0) 64 k _ (by omega) hwk] at h; exact h⟩)
 ·(try simp only [decide_eq_true_eq, decide_eq_false_iff_not, Bool.not_eq_true', Bool.not_eq_false', Bool.not_not, Int.not_lt, Int.not_le] at hc13)
  refine Cx (Xc (Xc (Xe ?_)))
  obtain rfl : k = 16 := by omega
  refine Xa (Cq (Cq (Cg (Ka rfl (Nn (Xa (Cb ?_)))))))
  refine WC.loop (σ := Nat) (fun j => [(3, .slice (some ⟨b11, 0, none⟩) 64 64), (6, .int .i64 ((16 + j : Nat) : Int))]) (fun j w' => j ≤ 48 ∧ St ok w [⟨some b11, (sched j (words bs)).map u32 ++ List.replicate (48 - j) (u32 0), 56⟩] [] w') (fun j => 48 - j) 0 (by repeat (first | exact S0 _ | refine Sc rfl ?_)) (fun w' h => ⟨by omega, by rw [List.take_of_length_le (by omega)] at h; exact h⟩) ?_
  intro j; refine WC.pu ?_; intro hj
  refine Cq (Cq (Cg (Km rfl (Kq rfl (rd_lss rfl rfl rfl) (Nn (Xa ?_))))))
  refine Cd rfl (fun hc37 => ?_) (fun hc37 => ?_)
  ·(try simp only [decide_eq_true_eq, decide_eq_false_iff_not, Bool.not_eq_true', Bool.not_eq_false', Bool.not_not, Int.not_lt, Int.not_le] at hc37)
   have hsl := sched_len j (words bs)
   rw [hwl] at hsl
   refine Ck (Xa (Cq (Cb (Cq ?_))))
   refine WC.mix [0, 0, 0, 0, 0, 0, 0, 0, 0, 0, 0, 0] (by kernel_rfl) (by kernel_rfl) (fun w h => h.draw) ?_
   refine WM.r rfl rfl rfl (Rm rfl rfl) ?_
   refine WM.r rfl rfl rfl (Rm rfl rfl) ?_
   first
    | (refine WM.r rfl rfl rfl (rd_sub64nl rfl rfl rfl ?_) ?_; focus (omega))
    | (refine WM.r rfl rfl rfl (rd_sub64 rfl rfl rfl ?_) ?_; focus (omega))
   refine WM.r rfl rfl rfl (Ja rfl rfl rfl u122 (by kernel_rfl : _ = some 1) ?_) ?_
   ·omega
   refine WM.r rfl rfl rfl (ld rfl rfl (by first | exact .here | exact .t1 | exact .t2 | exact .t3 | exact .t4 | exact .t5 | exact .t6 | exact .t7) u56 rfl (by exact map_cell _ u32 _ _ _ (get_getD (sched j (words bs)) _ 0 (by omega)))) ?_
   refine WM.r rfl rfl rfl (Rm rfl rfl) ?_
   refine WM.r rfl rfl rfl (Rm rfl rfl) ?_
   first
    | (refine WM.r rfl rfl rfl (rd_sub64nl rfl rfl rfl ?_) ?_; focus (omega))
    | (refine WM.r rfl rfl rfl (rd_sub64 rfl rfl rfl ?_) ?_; focus (omega))
   refine WM.r rfl rfl rfl (Ja rfl rfl rfl u122 (by kernel_rfl : _ = some 1) ?_) ?_
   ·omega
   refine WM.r rfl rfl rfl (ld rfl rfl (by first | exact .here | exact .t1 | exact .t2 | exact .t3 | exact .t4 | exact .t5 | exact .t6 | exact .t7) u56 rfl (by exact map_cell _ u32 _ _ _ (get_getD (sched j (words bs)) _ 0 (by omega)))) ?_
   refine WM.r rfl rfl rfl (Ra rfl rfl) ?_
   refine WM.r rfl rfl rfl (Ra rfl rfl) ?_
   refine WM.nil ?_
   refine Xa (Cq (Cg (Km rfl ?_)))
   refine Ku rfl (Oc rfl rfl (Kv fun w _ => right_lit _ _ (by decide) (by decide) w)) ?_
   refine Km rfl ?_
   refine Ku rfl (Oc rfl rfl (Kv fun w _ => right_lit _ _ (by decide) (by decide) w)) ?_
   refine Kq rfl (rdW_xor rfl rfl rfl) (Km rfl (Kq rfl (rdW_shr rfl rfl rfl (by decide)) (Kq rfl (rdW_xor rfl rfl rfl) (Ka rfl (Nn (Xa (Cq (Cg (Km rfl ?_)))))))))
   refine Ku rfl (Oc rfl rfl (Kv fun w _ => right_lit _ _ (by decide) (by decide) w)) ?_
   refine Km rfl ?_
   refine Ku rfl (Oc rfl rfl (Kv fun w _ => right_lit _ _ (by decide) (by decide) w)) ?_
   refine Kq rfl (rdW_xor rfl rfl rfl) (Km rfl (Kq rfl (rdW_shr rfl rfl rfl (by decide)) (Kq rfl (rdW_xor rfl rfl rfl) (Ka rfl (Nn (Xa ?_))))))
   refine WC.mix [0, 0, 0, 0, 0, 0, 0, 0, 0, 0, 0, 0, 0, 0, 0, 0, 0, 0, 2] (by kernel_rfl) (by kernel_rfl) (fun w h => h.draw) ?_
   refine WM.r rfl rfl rfl (Rm rfl rfl) ?_
   refine WM.r rfl rfl rfl (Rm rfl rfl) ?_
   refine WM.r rfl rfl rfl (Rm rfl rfl) ?_
   refine WM.r rfl rfl rfl (Rm rfl rfl) ?_
   first
    | (refine WM.r rfl rfl rfl (rd_sub64nl rfl rfl rfl ?_) ?_; focus (omega))
    | (refine WM.r rfl rfl rfl (rd_sub64 rfl rfl rfl ?_) ?_; focus (omega))
   refine WM.r rfl rfl rfl (Ja rfl rfl rfl u122 (by kernel_rfl : _ = some 1) ?_) ?_
   ·omega
   refine WM.r rfl rfl rfl (ld rfl rfl (by first | exact .here | exact .t1 | exact .t2 | exact .t3 | exact .t4 | exact .t5 | exact .t6 | exact .t7) u56 rfl (by exact map_cell _ u32 _ _ _ (get_getD (sched j (words bs)) _ 0 (by omega)))) ?_
   refine WM.r rfl rfl rfl (Rm rfl rfl) ?_
   refine WM.r rfl rfl rfl (rdW_add rfl rfl rfl) ?_
   refine WM.r rfl rfl rfl (Rm rfl rfl) ?_
   refine WM.r rfl rfl rfl (Rm rfl rfl) ?_
   first
    | (refine WM.r rfl rfl rfl (rd_sub64nl rfl rfl rfl ?_) ?_; focus (omega))
    | (refine WM.r rfl rfl rfl (rd_sub64 rfl rfl rfl ?_) ?_; focus (omega))
   refine WM.r rfl rfl rfl (Ja rfl rfl rfl u122 (by kernel_rfl : _ = some 1) ?_) ?_
   ·omega
   refine WM.r rfl rfl rfl (ld rfl rfl (by first | exact .here | exact .t1 | exact .t2 | exact .t3 | exact .t4 | exact .t5 | exact .t6 | exact .t7) u56 rfl (by exact map_cell _ u32 _ _ _ (get_getD (sched j (words bs)) _ 0 (by omega)))) ?_
   refine WM.r rfl rfl rfl (rdW_add rfl rfl rfl) ?_
   refine WM.r rfl rfl rfl (Rm rfl rfl) ?_
   refine WM.r rfl rfl rfl (rdW_add rfl rfl rfl) ?_
   refine WM.set 82 rfl (v' := u32 (nextW (sched j (words bs)))) (by unfold nextW; rw [hsl]; rfl) ?_
   refine WM.r rfl rfl rfl (Ja rfl rfl rfl u122 (by kernel_rfl : _ = some 1) ?_) ?_
   ·omega
   refine WM.h0 rfl rfl (st rfl rfl rfl (by first | exact .here | exact .t1 | exact .t2 | exact .t3 | exact .t4 | exact .t5 | exact .t6 | exact .t7) (by kernel_rfl) rfl ?_ rfl) ?_
   ·simp [hsl]; omega
   intro _
   refine WM.nil ?_
   refine Xd (Xa (Cg (Km rfl ?_)))
   first
    | (refine Kq rfl (Rz rfl rfl rfl ?_) ?_; focus (omega))
    | (refine Kq rfl (rd_add64 rfl rfl rfl ?_) ?_; focus (omega))
   refine Ka rfl (Nn ?_)
   exact WX.loop (j + 1) (by omega) (by repeat (first | exact S0 _ | refine Sc rfl ?_)) (fun w' h => ⟨by omega, by rw [sched_set j (words bs) hwl (by omega)] at h; exact h⟩)
  ·(try simp only [decide_eq_true_eq, decide_eq_false_iff_not, Bool.not_eq_true', Bool.not_eq_false', Bool.not_not, Int.not_lt, Int.not_le] at hc37)
   refine Cx (Xc (Xc (Xe ?_)))
   obtain rfl : j = 48 := by omega
   rw [Nat.sub_self, List.replicate_zero]
   refine Xa (Cq (Cg (Km rfl (Ka rfl (Nn (Xa (Ce ?_)))))))
   refine WX.ret1 rfl rfl fun w' hS => ⟨b11, rfl, hS.below, ?_⟩
   have h2 := st_freeze hS
   intro x hx; simp only [List.mem_singleton] at hx; subst hx; exact Fact.mono _ (fun _ hb => hb.1) (h2.holds (k := 0) rfl)
structure GC where
 k : Nat
 b : Nat
 cap : Nat
 sp : List Value
theorem rcompress_ok (x0 : List W) (hx0 : x0.length = 8) (bs : List UInt8) (hbs : bs.length = 64) (ad : Option Addr) (cap0 : Nat) (ok : Nat → Prop) (w : World) (hok : ∀ b, w.heap.size ≤ b → ok b) (hf : (Fact.sl ad (x0.map u32)).holds (fun _ => True) w) :
  Calls Tryz.prog 81 #[.slice ad 8 cap0, .string (S bs)] w fun e w' => ∃ g : GC, e = .returned (.slice (some ⟨g.b, 0, none⟩) 8 g.cap) ∧ Below w.heap.size w w' ∧ ∀ x ∈ [Fact.sl (some ⟨g.b, 0, none⟩) ((compress x0 bs).map u32)], x.holds ok w' := by
 obtain ⟨ad, rfl⟩ : ∃ a, ad = some a := by
  rcases hf with h | ⟨b, off, cs, T, fz, h, _⟩
  ·simp at h; subst h; simp at hx0
  ·exact ⟨_, h⟩
 obtain ⟨b0, off0, rfl⟩ : ∃ b0 off0, ad = ⟨b0, off0, none⟩ := by
  rcases hf with h | ⟨b, off, cs, T, fz, h, _⟩
  ·simp at h; subst h; simp at hx0
  ·exact ⟨b, off, Option.some.inj h⟩
 have hwl := words_len 16 bs hbs
 have hsl := sched_len 48 (words bs)
 rw [hwl] at hsl
 have hsch := rsched_ok bs hbs
 obtain ⟨ws, hws⟩ : ∃ ws, sched 48 (words bs) = ws := ⟨_, rfl⟩
 have hcomp : compress x0 bs = addW (rounds KK ws 64 x0) x0 := by rw [← hws]; rfl
 rw [hws] at hsl hsch
 rw [hcomp]
 have hkk : KK.length = 64 := rfl
 refine Calls.mono (R := fun e w' => ∃ g : GC, e = .returned (.slice (some ⟨g.b, 0, none⟩) 8 g.cap) ∧ St (fun b => ok b ∨ b < w.heap.size) w [] [Fact.sl (some ⟨g.b, 0, none⟩) ((addW (rounds KK ws 64 x0) x0).map u32)] w' ∧ (Fact.sl (some ⟨g.b, 0, none⟩) ((addW (rounds KK ws 64 x0) x0).map u32)).holds (fun b => w.heap.size ≤ b) w') ?_ (fun e w' ⟨g, he, hS, hh⟩ => ⟨g, he, hS.below, fun x hx => by simp only [List.mem_singleton] at hx; subst hx; exact Fact.mono _ (fun b hb => hok b hb) hh⟩)
 refine enter (S := St (fun b => ok b ∨ b < w.heap.size) w [] [Fact.sl (some ⟨b0, off0, none⟩) (x0.map u32)]) (L := [(0, .slice (some ⟨b0, off0, none⟩) 8 cap0), (1, .string (S bs))]) Tryz.func81 rfl Tryz.ntmps81 rfl (Ac rfl (Ac rfl (An _))) (St.start (fun b hb => .inl (hok b hb)) (by intro f hf'; simp only [List.mem_singleton] at hf'; subst hf'; exact Fact.mono _ (fun b hb => .inr hb.2) (Fact.here _ hf))) ?_
 refine Cq (Cg (Ka rfl (Nn (Xa (Cq (Cg (Km rfl ?_)))))))
 refine Kh rfl (Oc rfl rfl (keep_fact (F := fun b : Nat => [Fact.sl (some ⟨b, 0, none⟩) (ws.map u32)]) fun w hS => hsch _ w hS.fresh)) ?_
 intro bw
 refine Kh rfl (Oc rfl rfl (keep_fact (F := fun b : Nat => [Fact.sl (some ⟨b, 0, none⟩) (KK.map u32)]) fun w hS => rconst_ok _ w hS.fresh)) ?_
 intro bk
 refine Ka rfl (Ka rfl (Nn (Xa (Cq (Cg ?_)))))
 refine Kh rfl (og_bs1 rfl rfl u122 (by kernel_rfl : _ = some (some (.int .u32 0), 1, 4)) rfl (by simp only [List.map]; rfl) rfl rfl ?_ (by decide)) ?_
 ·simp
 intro b21
 refine Km rfl ?_
 refine WL.st (S' := St (fun b => ok b ∨ b < w.heap.size) w [⟨some b21, [] ++ [], 56⟩] [Fact.sl (some ⟨bk, 0, none⟩) (KK.map u32), Fact.sl (some ⟨bw, 0, none⟩) (ws.map u32), Fact.sl (some ⟨b0, off0, none⟩) (x0.map u32)]) (fun _ h => h) ?_
 refine Kh rfl (appx rfl u122 (by kernel_rfl : _ = some (some (.int .u32 0), 1, 4)) rfl (ob := some b21) .here (by rfl) (by rfl) (fun w hS => hS.holds_any (k := 2) rfl) (by simp [hx0]) (by simp) (u32_one _)) ?_
 intro g23
 refine WL.pu ?_
 intro hg23
 refine Ka rfl (Nn (Xa (Cq (Cq (Cg (Ka rfl (Nn (Xa (Cb ?_)))))))))
 refine WC.loop (σ := GC) (fun g => [(0, .slice (some ⟨b0, off0, none⟩) 8 cap0), (5, .slice (some ⟨bw, 0, none⟩) 64 64), (6, .slice (some ⟨bk, 0, none⟩) 64 64), (7, .slice (some ⟨g.b, 0, none⟩) 8 g.cap), (8, .int .i64 (g.k : Int))]) (fun g w' => (g.k ≤ 64 ∧ g.cap = 8 + g.sp.length) ∧ St (fun b => ok b ∨ b < w.heap.size) w [⟨some g.b, (rounds KK ws g.k x0).map u32 ++ g.sp, 56⟩] [Fact.sl (some ⟨bk, 0, none⟩) (KK.map u32), Fact.sl (some ⟨bw, 0, none⟩) (ws.map u32), Fact.sl (some ⟨b0, off0, none⟩) (x0.map u32)] w') (fun g => 64 - g.k) ⟨0, g23.b, g23.cap, g23.spare⟩ (by repeat (first | exact S0 _ | refine Sc rfl ?_)) (fun w' h => ⟨⟨by simp, by have := hg23.2; show g23.cap = 8 + g23.spare.length; omega⟩, h⟩) ?_
 rintro ⟨k, bv, capv, sp⟩; dsimp only; refine WC.pu ?_; rintro ⟨hk, hcapv⟩
 refine Cq (Cq (Cg (Km rfl (Kq rfl (rd_lss rfl rfl rfl) (Nn (Xa ?_))))))
 refine Cd rfl (fun hc25 => ?_) (fun hc25 => ?_)
 ·(try simp only [decide_eq_true_eq, decide_eq_false_iff_not, Bool.not_eq_true', Bool.not_eq_false', Bool.not_not, Int.not_lt, Int.not_le] at hc25)
  obtain ⟨xa, xb, xc, xd, xe, xf, xg, xh, hX⟩ := eight (rounds KK ws k x0) (rounds_len _ _ _ _ hx0)
  rw [hX]
  refine Ck (Xa (Cq (Cb (Cq ?_))))
  refine WC.mix [0, 0, 0, 0, 0, 0, 0, 0, 0, 0, 0, 0, 0, 0, 0, 0, 0, 0, 0, 0, 0, 0, 0, 0] (by kernel_rfl) (by kernel_rfl) (fun w h => h.draw) ?_
  refine WM.r rfl rfl rfl (Rm rfl rfl) ?_
  refine WM.r rfl rfl rfl (Ja rfl rfl rfl u122 (by kernel_rfl : _ = some 1) ?_) ?_
  ·omega
  refine WM.r rfl rfl rfl (ld rfl rfl (by first | exact .here | exact .t1 | exact .t2 | exact .t3 | exact .t4 | exact .t5 | exact .t6 | exact .t7) u56 rfl (by rfl)) ?_
  refine WM.r rfl rfl rfl (Rm rfl rfl) ?_
  refine WM.r rfl rfl rfl (Ja rfl rfl rfl u122 (by kernel_rfl : _ = some 1) ?_) ?_
  ·omega
  refine WM.r rfl rfl rfl (ld rfl rfl (by first | exact .here | exact .t1 | exact .t2 | exact .t3 | exact .t4 | exact .t5 | exact .t6 | exact .t7) u56 rfl (by rfl)) ?_
  refine WM.r rfl rfl rfl (Rm rfl rfl) ?_
  refine WM.r rfl rfl rfl (Ja rfl rfl rfl u122 (by kernel_rfl : _ = some 1) ?_) ?_
  ·omega
  refine WM.r rfl rfl rfl (ld rfl rfl (by first | exact .here | exact .t1 | exact .t2 | exact .t3 | exact .t4 | exact .t5 | exact .t6 | exact .t7) u56 rfl (by rfl)) ?_
  refine WM.r rfl rfl rfl (Rm rfl rfl) ?_
  refine WM.r rfl rfl rfl (Ja rfl rfl rfl u122 (by kernel_rfl : _ = some 1) ?_) ?_
  ·omega
  refine WM.r rfl rfl rfl (ld rfl rfl (by first | exact .here | exact .t1 | exact .t2 | exact .t3 | exact .t4 | exact .t5 | exact .t6 | exact .t7) u56 rfl (by rfl)) ?_
  refine WM.r rfl rfl rfl (Rm rfl rfl) ?_
  refine WM.r rfl rfl rfl (Ja rfl rfl rfl u122 (by kernel_rfl : _ = some 1) ?_) ?_
  ·omega
  refine WM.r rfl rfl rfl (ld rfl rfl (by first | exact .here | exact .t1 | exact .t2 | exact .t3 | exact .t4 | exact .t5 | exact .t6 | exact .t7) u56 rfl (by rfl)) ?_
  refine WM.r rfl rfl rfl (Rm rfl rfl) ?_
  refine WM.r rfl rfl rfl (Ja rfl rfl rfl u122 (by kernel_rfl : _ = some 1) ?_) ?_
  ·omega
  refine WM.r rfl rfl rfl (ld rfl rfl (by first | exact .here | exact .t1 | exact .t2 | exact .t3 | exact .t4 | exact .t5 | exact .t6 | exact .t7) u56 rfl (by rfl)) ?_
  refine WM.r rfl rfl rfl (Ra rfl rfl) ?_
  refine WM.r rfl rfl rfl (Ra rfl rfl) ?_
  refine WM.r rfl rfl rfl (Ra rfl rfl) ?_
  refine WM.r rfl rfl rfl (Ra rfl rfl) ?_
  refine WM.r rfl rfl rfl (Ra rfl rfl) ?_
  refine WM.r rfl rfl rfl (Ra rfl rfl) ?_
  refine WM.nil ?_
  refine Xa (Cq ?_)
  refine WC.mix [0, 0, 0, 0, 1, 0, 1, 0, 0, 1, 0, 0, 0, 0, 0, 0, 0, 0, 0, 0, 0, 0, 0, 0, 0, 0, 0, 0, 0, 0, 0, 0] (by kernel_rfl) (by kernel_rfl) (fun w h => h.draw) ?_
  refine WM.r rfl rfl rfl (Rm rfl rfl) ?_
  refine WM.r rfl rfl rfl (Ja rfl rfl rfl u122 (by kernel_rfl : _ = some 1) ?_) ?_
  ·omega
  refine WM.r rfl rfl rfl (ld rfl rfl (by first | exact .here | exact .t1 | exact .t2 | exact .t3 | exact .t4 | exact .t5 | exact .t6 | exact .t7) u56 rfl (by rfl)) ?_
  refine WM.r rfl rfl rfl (Rm rfl rfl) ?_
  refine WM.g rfl rfl rfl (Oc rfl rfl (Kv fun w _ => right_lit _ _ (by decide) (by decide) w)) (fun _ _ h => by first | exact h | exact ⟨_, h⟩ | exact ⟨_, h.2⟩ | exact h.2 | exact h.sub (by repeat (first | exact List.Sublist.refl _ | apply List.Sublist.cons)) (fun _ h => by simp [*]) | exact h.2.sub (by repeat (first | exact List.Sublist.refl _ | apply List.Sublist.cons)) (fun _ h => by simp [*])) ?_
  intro _
  refine WM.r rfl rfl rfl (Rm rfl rfl) ?_
  refine WM.g rfl rfl rfl (Oc rfl rfl (Kv fun w _ => right_lit _ _ (by decide) (by decide) w)) (fun _ _ h => by first | exact h | exact ⟨_, h⟩ | exact ⟨_, h.2⟩ | exact h.2 | exact h.sub (by repeat (first | exact List.Sublist.refl _ | apply List.Sublist.cons)) (fun _ h => by simp [*]) | exact h.2.sub (by repeat (first | exact List.Sublist.refl _ | apply List.Sublist.cons)) (fun _ h => by simp [*])) ?_
  intro _
  refine WM.r rfl rfl rfl (rdW_xor rfl rfl rfl) ?_
  refine WM.r rfl rfl rfl (Rm rfl rfl) ?_
  refine WM.g rfl rfl rfl (Oc rfl rfl (Kv fun w _ => right_lit _ _ (by decide) (by decide) w)) (fun _ _ h => by first | exact h | exact ⟨_, h⟩ | exact ⟨_, h.2⟩ | exact h.2 | exact h.sub (by repeat (first | exact List.Sublist.refl _ | apply List.Sublist.cons)) (fun _ h => by simp [*]) | exact h.2.sub (by repeat (first | exact List.Sublist.refl _ | apply List.Sublist.cons)) (fun _ h => by simp [*])) ?_
  intro _
  refine WM.r rfl rfl rfl (rdW_xor rfl rfl rfl) ?_
  refine WM.r rfl rfl rfl (rdW_add rfl rfl rfl) ?_
  refine WM.r rfl rfl rfl (Rm rfl rfl) ?_
  refine WM.r rfl rfl rfl (Rm rfl rfl) ?_
  refine WM.r rfl rfl rfl (rdW_and rfl rfl rfl) ?_
  refine WM.r rfl rfl rfl (Rm rfl rfl) ?_
  refine WM.r rfl rfl rfl (rdW_com rfl rfl) ?_
  refine WM.r rfl rfl rfl (Rm rfl rfl) ?_
  refine WM.r rfl rfl rfl (rdW_and rfl rfl rfl) ?_
  refine WM.r rfl rfl rfl (rdW_xor rfl rfl rfl) ?_
  refine WM.r rfl rfl rfl (rdW_add rfl rfl rfl) ?_
  refine WM.r rfl rfl rfl (Rm rfl rfl) ?_
  refine WM.r rfl rfl rfl (Rm rfl rfl) ?_
  refine WM.r rfl rfl rfl (Ja rfl rfl rfl u122 (by kernel_rfl : _ = some 1) ?_) ?_
  ·omega
  refine WM.r rfl rfl rfl (ldf rfl rfl (by first | exact .here | exact .t1 | exact .t2 | exact .t3 | exact .t4 | exact .t5 | exact .t6 | exact .t7) u56 rfl (m := k) (by omega) (by rw [List.getElem?_map, get_getD KK k 0 (by omega)]; rfl)) ?_
  refine WM.r rfl rfl rfl (rdW_add rfl rfl rfl) ?_
  refine WM.r rfl rfl rfl (Rm rfl rfl) ?_
  refine WM.r rfl rfl rfl (Rm rfl rfl) ?_
  refine WM.r rfl rfl rfl (Ja rfl rfl rfl u122 (by kernel_rfl : _ = some 1) ?_) ?_
  ·omega
  refine WM.r rfl rfl rfl (ldf rfl rfl (by first | exact .here | exact .t1 | exact .t2 | exact .t3 | exact .t4 | exact .t5 | exact .t6 | exact .t7) u56 rfl (m := k) (by omega) (by rw [List.getElem?_map, get_getD ws k 0 (by omega)]; rfl)) ?_
  refine WM.r rfl rfl rfl (rdW_add rfl rfl rfl) ?_
  refine WM.r rfl rfl rfl (Ra rfl rfl) ?_
  refine WM.nil ?_
  refine Xa (Cq (Cg (Km rfl ?_)))
  refine Ku rfl (Oc rfl rfl (Kv fun w _ => right_lit _ _ (by decide) (by decide) w)) ?_
  refine Km rfl ?_
  refine Ku rfl (Oc rfl rfl (Kv fun w _ => right_lit _ _ (by decide) (by decide) w)) ?_
  refine Kq rfl (rdW_xor rfl rfl rfl) (Km rfl ?_)
  refine Ku rfl (Oc rfl rfl (Kv fun w _ => right_lit _ _ (by decide) (by decide) w)) ?_
  refine Kq rfl (rdW_xor rfl rfl rfl) (Km rfl (Km rfl (Kq rfl (rdW_and rfl rfl rfl) (Km rfl (Km rfl (Kq rfl (rdW_and rfl rfl rfl) (Kq rfl (rdW_xor rfl rfl rfl) (Km rfl (Km rfl (Kq rfl (rdW_and rfl rfl rfl) (Kq rfl (rdW_xor rfl rfl rfl) (Kq rfl (rdW_add rfl rfl rfl) (Ka rfl (Nn (Xa (Cg (Km rfl (Km rfl (Kq rfl (rdW_add rfl rfl rfl) (Km rfl (Km rfl (Km rfl (Km rfl ?_)))))))))))))))))))))))
  refine Kq rfl (Ja rfl rfl rfl u122 (by kernel_rfl : _ = some 1) ?_) ?_
  ·omega
  refine Kq rfl (ld rfl rfl (by first | exact .here | exact .t1 | exact .t2 | exact .t3 | exact .t4 | exact .t5 | exact .t6 | exact .t7) u56 rfl (by rfl)) ?_
  refine Km rfl (Kq rfl (rdW_add rfl rfl rfl) (Km rfl (Km rfl (Km rfl ?_))))
  refine Kh rfl (og_bs1 rfl rfl u122 (by kernel_rfl : _ = some (some (.int .u32 0), 1, 4)) rfl (by simp only [List.map]; rfl) rfl rfl ?_ (by decide)) ?_
  ·simp [u32, Value.cells]
  intro b111
  refine Ka rfl (Nn (Xd (Xa (Cg (Km rfl ?_)))))
  first
   | (refine Kq rfl (Rz rfl rfl rfl ?_) ?_; focus (omega))
   | (refine Kq rfl (rd_add64 rfl rfl rfl ?_) ?_; focus (omega))
  refine Ka rfl (Nn ?_)
  exact WX.loop ⟨k + 1, b111, 8, []⟩ (by show 64 - (k + 1) < 64 - k; omega) (by repeat (first | exact S0 _ | refine Sc rfl ?_)) (fun w' h => ⟨⟨by show k + 1 ≤ 64; omega, rfl⟩, by rw [show rounds KK ws (k + 1) x0 = rnd (KK.getD k 0) (ws.getD k 0) (rounds KK ws k x0) from rfl, hX]; exact h.sub (List.Sublist.cons_cons _ (List.nil_sublist _)) (fun _ h => h)⟩)
 ·(try simp only [decide_eq_true_eq, decide_eq_false_iff_not, Bool.not_eq_true', Bool.not_eq_false', Bool.not_not, Int.not_lt, Int.not_le] at hc25)
  refine Cx (Xc (Xc (Xe ?_)))
  obtain rfl : k = 64 := by omega
  have hrl := rounds_len KK ws 64 x0 hx0
  obtain ⟨X, hX⟩ : ∃ X, rounds KK ws 64 x0 = X := ⟨_, rfl⟩
  rw [hX] at hrl ⊢
  have hadl := addW_len X x0 (by omega)
  refine Xa (Cq (Cq (Cg (Ka rfl (Nn (Xa (Cb ?_)))))))
  refine WC.loop (σ := Nat) (fun k => [(0, .slice (some ⟨b0, off0, none⟩) 8 cap0), (7, .slice (some ⟨bv, 0, none⟩) 8 capv), (17, .int .i64 (k : Int))]) (fun k w' => k ≤ 8 ∧ St (fun b => ok b ∨ b < w.heap.size) w [⟨some bv, ((addW X x0).take k ++ X.drop k).map u32 ++ sp, 56⟩] [Fact.sl (some ⟨b0, off0, none⟩) (x0.map u32)] w') (fun k => 8 - k) 0 (by repeat (first | exact S0 _ | refine Sc rfl ?_)) (fun w' h => ⟨by omega, h.sub (List.Sublist.refl _) (by simp)⟩) ?_
  intro q; refine WC.pu ?_; intro hq
  refine Cq (Cq (Cg (Km rfl (Kq rfl (rd_lss rfl rfl rfl) (Nn (Xa ?_))))))
  refine Cd rfl (fun hc113 => ?_) (fun hc113 => ?_)
  ·(try simp only [decide_eq_true_eq, decide_eq_false_iff_not, Bool.not_eq_true', Bool.not_eq_false', Bool.not_not, Int.not_lt, Int.not_le] at hc113)
   have hXq := get_getD X q 0 (by omega)
   have hxq := get_getD x0 q 0 (by omega)
   have hcell : (((addW X x0).take q ++ X.drop q).map u32 ++ sp)[q]? = some (u32 (X.getD q 0)) := map_cell _ u32 _ _ _ (by rw [List.getElem?_append_right (by simp; omega), List.getElem?_drop, List.length_take, hadl, show q + (q - min q X.length) = q by omega, hXq])
   refine Ck (Xa (Cq (Cb ?_)))
   refine WC.mix [0, 0, 0, 0, 0, 0, 0, 0, 0, 0, 2] (by kernel_rfl) (by kernel_rfl) (fun w h => h.draw) ?_
   refine WM.r rfl rfl rfl (Rm rfl rfl) ?_
   refine WM.r rfl rfl rfl (Rm rfl rfl) ?_
   refine WM.r rfl rfl rfl (Ja rfl rfl rfl u122 (by kernel_rfl : _ = some 1) ?_) ?_
   ·omega
   refine WM.r rfl rfl rfl (ld rfl rfl (by first | exact .here | exact .t1 | exact .t2 | exact .t3 | exact .t4 | exact .t5 | exact .t6 | exact .t7) u56 rfl (by exact hcell)) ?_
   refine WM.r rfl rfl rfl (Rm rfl rfl) ?_
   refine WM.r rfl rfl rfl (Rm rfl rfl) ?_
   refine WM.r rfl rfl rfl (Ja rfl rfl rfl u122 (by kernel_rfl : _ = some 1) ?_) ?_
   ·omega
   refine WM.r rfl rfl rfl (ldf rfl rfl (by first | exact .here | exact .t1 | exact .t2 | exact .t3 | exact .t4 | exact .t5 | exact .t6 | exact .t7) u56 rfl (m := q) (by omega) (by rw [List.getElem?_map, hxq]; rfl)) ?_
   refine WM.r rfl rfl rfl (rdW_add rfl rfl rfl) ?_
   refine WM.r rfl rfl rfl (Ja rfl rfl rfl u122 (by kernel_rfl : _ = some 1) ?_) ?_
   ·omega
   refine WM.h0 rfl rfl (st rfl rfl rfl (by first | exact .here | exact .t1 | exact .t2 | exact .t3 | exact .t4 | exact .t5 | exact .t6 | exact .t7) (by kernel_rfl) rfl ?_ rfl) ?_
   ·simp; omega
   intro _
   refine WM.nil ?_
   refine Xd (Xa (Cg (Km rfl ?_)))
   first
    | (refine Kq rfl (Rz rfl rfl rfl ?_) ?_; focus (omega))
    | (refine Kq rfl (rd_add64 rfl rfl rfl ?_) ?_; focus (omega))
   refine Ka rfl (Nn ?_)
   exact WX.loop (q + 1) (by omega) (by repeat (first | exact S0 _ | refine Sc rfl ?_)) (fun w' h => ⟨by omega, by rw [List.set_append_left _ _ (by simp; omega), addW_set X x0 q _ _ (by omega) hXq hxq] at h; exact h⟩)
  ·(try simp only [decide_eq_true_eq, decide_eq_false_iff_not, Bool.not_eq_true', Bool.not_eq_false', Bool.not_not, Int.not_lt, Int.not_le] at hc113)
   refine Cx (Xc (Xc (Xe ?_)))
   obtain rfl : q = 8 := by omega
   have hfin : (addW X x0).take 8 ++ X.drop 8 = addW X x0 := by rw [List.take_of_length_le (by omega), List.drop_eq_nil_of_le (by omega), List.append_nil]
   rw [hfin]
   refine Xa (Cq (Cg (Km rfl (Ka rfl (Nn (Xa (Ce ?_)))))))
   refine WX.ret1 rfl rfl fun w' hS => ⟨⟨0, bv, capv, []⟩, rfl, ?_, ?_⟩
   ·exact (st_freeze hS).sub (List.Sublist.refl _) (by simp)
   ·exact .inr ⟨bv, 0, _, _, (0, 0), rfl, (hS.own_ ⟨some bv, (addW X x0).map u32 ++ sp, 56⟩ (by simp)).1, (hS.own_ ⟨some bv, (addW X x0).map u32 ++ sp, 56⟩ (by simp)).2, fun i hi => by rw [Nat.zero_add, List.getElem?_toArray, List.getElem?_append_left hi]⟩
structure G3r where
 q : Nat
 b : Nat
 cap : Nat
 x : List W
theorem rsum_ok (l : List UInt8) (hl : l.length ≤ 1000000) (w : World) :
  Cw 47 #[.string (S l)] w (.string (S (sha l))) := by
 have hz : zeros l.length = (119 - l.length % 64) % 64 := rfl
 have hpl : (pad l).length = l.length + 1 + zeros l.length + 8 := by simp [pad, len8]; omega
 obtain ⟨nb, hnb⟩ := pad_len l
 obtain ⟨m, hm⟩ : ∃ m, pad l = m := ⟨_, rfl⟩
 have hpad := padded_ok l hl
 rw [hm] at hnb hpl hpad
 refine enter (S := St (fun _ => True) w [] []) (L := [(0, .string (S l))]) Tryz.func47 rfl Tryz.ntmps47 rfl (Ac rfl (An _)) (St.start (fun _ _ => trivial) (by simp)) ?_
 refine Cq (Cg (Ka rfl (Nn (Xa (Cq (Cg ?_))))))
 refine Kh rfl (og_bs rfl rfl u122 (cs := H0.map u32) (fun w => by kernel_rfl)) ?_
 intro b9
 refine WL.st (S' := St (fun _ => True) w [] [Fact.sl (some ⟨b9, 0, none⟩) (H0.map u32)]) (fun _ h => st_freeze (sp := []) (by rw [List.append_nil]; exact h)) ?_
 refine Ka rfl (Nn (Xa (Cq (Cg (Km rfl ?_)))))
 refine Ku rfl (Oc rfl rfl (Kv fun w _ => hpad w)) ?_
 refine Ka rfl (Nn (Xa (Cq (Cq (Cg (Ka rfl (Nn (Xa (Cb ?_)))))))))
 refine WC.loop (σ := G3r) (fun p => [(3, .slice (some ⟨p.b, 0, none⟩) 8 p.cap), (4, .string (S m)), (5, .int .i64 ((64 * p.q : Nat) : Int))]) (fun p w' => ((p.q ≤ nb ∧ p.x.length = 8) ∧ chunks nb H0 m = chunks (nb - p.q) p.x (m.drop (64 * p.q))) ∧ St (fun _ => True) w [] [Fact.sl (some ⟨p.b, 0, none⟩) (p.x.map u32)] w') (fun p => nb - p.q) ⟨0, b9, 8, H0⟩ (by repeat (first | exact S0 _ | refine Sc rfl ?_)) (fun w' h => ⟨⟨⟨by simp, rfl⟩, by simp⟩, h⟩) ?_
 rintro ⟨q, bv, capv, x⟩; dsimp only; refine WC.pu ?_; rintro ⟨⟨hq, hx⟩, hch⟩
 refine Cq (Cq (Cg (Km rfl (Km rfl (Kq rfl (rd_slen rfl rfl u9) (Kq rfl (rd_lss rfl rfl rfl) (Nn (Xa ?_))))))))
 refine Cd rfl (fun hc15 => ?_) (fun hc15 => ?_)
 ·(try simp only [decide_eq_true_eq, decide_eq_false_iff_not, Bool.not_eq_true', Bool.not_eq_false', Bool.not_not, Int.not_lt, Int.not_le] at hc15)
  have hqn : q < nb := by omega
  refine Ck (Xa (Cq (Cb (Cg (Km rfl (Km rfl (Km rfl (Km rfl ?_))))))))
  first
   | (refine Kq rfl (Rz rfl rfl rfl ?_) ?_; focus (omega))
   | (refine Kq rfl (rd_add64 rfl rfl rfl ?_) ?_; focus (omega))
  refine Kq rfl (rd_ss rfl rfl rfl rfl u9 ?_) ?_
  ·(try simp only [List.length_append, List.length_cons, List.length_nil]); omega
  refine Ns 23 rfl (v' := .string (S ((m.drop (64 * q)).take 64))) (by rw [Int.toNat_natCast, Int.toNat_natCast, show 64 * q + 64 - 64 * q = 64 by omega]) ?_
  refine Kh rfl (Oc rfl rfl (keep_fact (F := fun g : GC => [Fact.sl (some ⟨g.b, 0, none⟩) ((compress x ((m.drop (64 * q)).take 64)).map u32)]) fun w hS => rcompress_ok x hx ((m.drop (64 * q)).take 64) (by simp; omega) _ _ _ w hS.fresh (hS.holds_any (k := 0) rfl))) ?_
  intro gc
  refine Ka rfl (Nn (Xd (Xa (Cg (Km rfl ?_)))))
  first
   | (refine Kq rfl (Rz rfl rfl rfl ?_) ?_; focus (omega))
   | (refine Kq rfl (rd_add64 rfl rfl rfl ?_) ?_; focus (omega))
  refine Ka rfl (Nn ?_)
  exact WX.loop ⟨q + 1, gc.b, gc.cap, compress x ((m.drop (64 * q)).take 64)⟩ (by show nb - (q + 1) < nb - q; omega) (by repeat (first | exact S0 _ | refine Sc rfl ?_)) (fun w' h => ⟨⟨⟨by show q + 1 ≤ nb; omega, compress_len _ _ hx⟩, by rw [hch, show nb - q = (nb - (q + 1)) + 1 by omega, chunks_succ, List.drop_drop]; congr 1⟩, h.sub (List.Sublist.refl _) (by simp)⟩)
 ·(try simp only [decide_eq_true_eq, decide_eq_false_iff_not, Bool.not_eq_true', Bool.not_eq_false', Bool.not_not, Int.not_lt, Int.not_le] at hc15)
  refine Cx (Xc (Xc (Xe ?_)))
  obtain rfl : q = nb := by omega
  have hfin : sha l = outW x := by rw [sha, hm, hnb, Nat.mul_div_cancel_left _ (by omega), hch, Nat.sub_self]; rfl
  refine Xa (Cq (Cg (Ka rfl (Nn (Xa (Cq (Cq (Cg (Ka rfl (Nn (Xa (Cb ?_))))))))))))
  refine WC.loop (σ := G4) (fun p => [(3, .slice (some ⟨bv, 0, none⟩) 8 capv), (7, .int .i64 (p.k : Int)), (6, .slice (p.ob.map fun b => ⟨b, 0, none⟩) (4 * p.k) p.cap)]) (fun p w' => (p.k ≤ 8 ∧ (p.k = 0 ∨ ∃ b, p.ob = some b) ∧ p.cap = 4 * p.k + p.spare.length) ∧ St (fun _ => True) w [⟨p.ob, (outW (x.take p.k)).map B ++ p.spare, 5⟩] [Fact.sl (some ⟨bv, 0, none⟩) (x.map u32)] w') (fun p => 8 - p.k) ⟨0, none, 0, []⟩ (by repeat (first | exact S0 _ | refine Sc rfl ?_)) (fun w' h => ⟨⟨by simp, .inl rfl, rfl⟩, h.nil _⟩) ?_
  rintro ⟨k, ob, cap4, sp4⟩; dsimp only; refine WC.pu ?_; rintro ⟨hk, hob, hcap4⟩
  refine Cq (Cq (Cg (Km rfl (Kq rfl (rd_lss rfl rfl rfl) (Nn (Xa ?_))))))
  refine Cd rfl (fun hc26 => ?_) (fun hc26 => ?_)
  ·(try simp only [decide_eq_true_eq, decide_eq_false_iff_not, Bool.not_eq_true', Bool.not_eq_false', Bool.not_not, Int.not_lt, Int.not_le] at hc26)
   refine Ck (Xa (Cq (Cb (Cq (Cg (Km rfl (Km rfl ?_)))))))
   refine Kq rfl (Ja rfl rfl rfl u122 (by kernel_rfl : _ = some 1) ?_) ?_
   ·omega
   refine Kq rfl (ldf rfl rfl (by first | exact .here | exact .t1 | exact .t2 | exact .t3 | exact .t4 | exact .t5 | exact .t6 | exact .t7) u56 rfl (m := k) (by omega) (by rw [List.getElem?_map, get_getD x _ 0 (by omega)]; rfl)) ?_
   refine Ka rfl (Nn (Xa (Cg (Km rfl (Km rfl (Kq rfl (rdW_shr rfl rfl rfl (by decide)) (Kq rfl (rd_conv rfl rfl u56 u5) (Ns 36 rfl (v' := B (byteAt (x.getD k 0).toNat 3)) (congrArg (Value.int .u8) (byte_W (x.getD k 0) 3)) (Km rfl (Kq rfl (rdW_shr rfl rfl rfl (by decide)) (Kq rfl (rd_conv rfl rfl u56 u5) (Ns 39 rfl (v' := B (byteAt (x.getD k 0).toNat 2)) (congrArg (Value.int .u8) (byte_W (x.getD k 0) 2)) (Km rfl (Kq rfl (rdW_shr rfl rfl rfl (by decide)) (Kq rfl (rd_conv rfl rfl u56 u5) (Ns 42 rfl (v' := B (byteAt (x.getD k 0).toNat 1)) (congrArg (Value.int .u8) (byte_W (x.getD k 0) 1)) (Km rfl (Kq rfl (rd_conv rfl rfl u56 u5) ?_))))))))))))))))))
   refine Ns 44 rfl (v' := B (byteAt (x.getD k 0).toNat 0)) (congrArg (Value.int .u8) (byte_W0 (x.getD k 0))) ?_
   refine Kh rfl (og_bs1 rfl rfl u83 (by kernel_rfl : _ = some (some (.int .u8 0), 1, 1)) rfl (by simp only [List.map]; rfl) rfl rfl ?_ (by decide)) ?_
   ·simp [B, Value.cells]
   intro b45
   refine Kh rfl (app rfl u83 (by kernel_rfl : _ = some (some (.int .u8 0), 1, 1)) rfl (by first | exact .here | exact .t1 | exact .t2 | exact .t3 | exact .t4 | exact .t5 | exact .t6 | exact .t7) (by rfl) (by rfl) (by first | exact .here | exact .t1 | exact .t2 | exact .t3 | exact .t4 | exact .t5 | exact .t6 | exact .t7) (by rfl) ?_ ?_) ?_
   ·(refine ⟨?_, ?_, ?_, ?_, ?_⟩ <;> (try simp [outW_len]) <;> omega)
   ·simp [B, Value.oneCell']
   intro g46
   refine WL.pu ?_
   intro hg46
   refine Ka rfl (Nn (Xd (Xa (Cg (Km rfl ?_)))))
   first
    | (refine Kq rfl (Rz rfl rfl rfl ?_) ?_; focus (omega))
    | (refine Kq rfl (rd_add64 rfl rfl rfl ?_) ?_; focus (omega))
   refine Ka rfl (Nn ?_)
   exact WX.loop ⟨k + 1, some g46.b, g46.cap, g46.spare⟩ (by show 8 - (k + 1) < 8 - k; omega) (by repeat (first | exact S0 _ | refine Sc rfl ?_)) (fun w' h => ⟨⟨by show k + 1 ≤ 8; omega, .inr ⟨_, rfl⟩, by have := hg46.2; show g46.cap = _; omega⟩, by rw [outW_take x k (by omega), List.map_append]; exact h.sub (List.sublist_cons_self _ _) (fun _ h => h)⟩)
  ·(try simp only [decide_eq_true_eq, decide_eq_false_iff_not, Bool.not_eq_true', Bool.not_eq_false', Bool.not_not, Int.not_lt, Int.not_le] at hc26)
   refine Cx (Xc (Xc (Xe ?_)))
   obtain rfl : k = 8 := by omega
   obtain ⟨b9', rfl⟩ : ∃ b, ob = some b := by rcases hob with h | h; omega; exact h
   rw [List.take_of_length_le (by omega)]
   refine Xa (Cq (Cg (Km rfl ?_)))
   refine Kq rfl (b2s (l := outW x) rfl rfl (by first | exact .here | exact .t1 | exact .t2 | exact .t3 | exact .t4 | exact .t5 | exact .t6 | exact .t7) u83 u5 u9 ?_ ?_) ?_
   ·simp [outW_len, hx]
   ·simp [outW_len, hx]
   refine Ka rfl (Nn (Xa (Ce ?_)))
   refine WX.ret1 rfl rfl fun w' hS => ⟨by rw [hfin], hS.below⟩
def ps12 : List Nat := [2, 3, 5, 7, 11, 13, 17, 19, 23, 29, 31, 37]
def tdiv (n : Nat) : List Nat → Option Bool
 | [] => none
 | p :: ps => if n % p = 0 then some (decide (n = p)) else tdiv n ps
def sqs (n : Nat) : Nat → Nat → Bool
 | 0, _ => false
 | s + 1, x => if x = n - 1 then true else sqs n s (x * x % n)
def strN (n a s d : Nat) : Bool := decide (a ^ d % n = 1) || sqs n s (a ^ d % n)
def tzA : Nat → Nat → Nat
 | 0, _ => 0
 | f + 1, n => if n % 2 = 0 then tzA f (n / 2) + 1 else 0
def tz (n : Nat) : Nat := tzA 64 n
def isP (n : Nat) : Bool := if n < 2 then false else match tdiv n ps12 with
 | some b => b
 | none => ps12.all fun a => strN n a (tz (n - 1)) ((n - 1) / 2 ^ tz (n - 1))
theorem pow_low1 {x a e m : Nat} (h : e % 2 = 1) (he : 0 < e) : x * a % m * (a * a % m) ^ (e / 2) % m = x * a ^ e % m := by
 have e1 : e = 2 * (e / 2) + 1 := by omega
 rw [mml, Nat.mul_mod, pow_mod2, ← Nat.mul_mod]
 conv => rhs; rw [e1]
 rw [Nat.pow_succ, Nat.pow_mul, Nat.pow_two, Nat.mul_assoc, Nat.mul_comm a]
theorem pow_low0 {x a e m : Nat} (h : ¬ e % 2 = 1) : x * (a * a % m) ^ (e / 2) % m = x * a ^ e % m := by
 have e1 : e = 2 * (e / 2) := by omega
 rw [Nat.mul_mod, pow_mod2, ← Nat.mul_mod]
 conv => rhs; rw [e1]
 rw [Nat.pow_mul, Nat.pow_two]
def pk (k : Nat) : Nat := ps12.getD k 1
abbrev vU (n : Nat) : Value := .int .u64 (n : Int)
theorem pk_get : ∀ {k : Nat}, k < 12 → ps12[k]? = some (pk k) := fun {k} h => by
 rw [pk, List.getD_eq_getElem?_getD, List.getElem?_eq_getElem (show k < ps12.length from h)]; rfl
theorem pk_cell {k : Nat} (h : k < 12) : (ps12.map vU)[k]? = some (vU (pk k)) := by rw [List.getElem?_map, pk_get h]; rfl
theorem pk_bd : ∀ {k : Nat}, k < 12 → 2 ≤ pk k ∧ pk k ≤ 37 := fun {k} h => by
 have : ∀ k : Fin 12, 2 ≤ pk k ∧ pk k ≤ 37 := by decide
 exact this ⟨k, h⟩
theorem ps_drop {k : Nat} (h : k < 12) : ps12.drop k = pk k :: ps12.drop (k + 1) := by
 have : ∀ k : Fin 12, ps12.drop k = pk k :: ps12.drop (k + 1) := by decide
 exact this ⟨k, h⟩
theorem tdiv_drop (n : Nat) {k : Nat} (h : k < 12) : tdiv n (ps12.drop k) = if n % pk k = 0 then some (decide (n = pk k)) else tdiv n (ps12.drop (k + 1)) := by
 rw [ps_drop h, tdiv]
theorem all_drop (f : Nat → Bool) {k : Nat} (h : k < 12) : (ps12.drop k).all f = (f (pk k) && (ps12.drop (k + 1)).all f) := by
 rw [ps_drop h, List.all_cons]
theorem isP_some {n : Nat} {b : Bool} (h2 : ¬ n < 2) (h : tdiv n ps12 = some b) : isP n = b := by rw [isP, if_neg h2, h]
def stN (n a : Nat) : Bool := strN n a (tz (n - 1)) ((n - 1) / 2 ^ tz (n - 1))
theorem isP_none {n : Nat} (h2 : ¬ n < 2) (h : tdiv n ps12 = none) : isP n = ps12.all (stN n) := by rw [isP, if_neg h2, h]; rfl
theorem tdiv_none : ∀ {n : Nat} {l : List Nat}, tdiv n l = none → ∀ p ∈ l, n % p ≠ 0
 | _, [], _, _, h => by cases h
 | n, q :: l, h, p, hp => by
  rw [tdiv] at h
  split at h
  ·cases h
  ·rename_i hq
   rcases List.mem_cons.1 hp with rfl | h2
   ·exact hq
   ·exact tdiv_none h p h2
theorem tzA_le : ∀ (f n : Nat), tzA f n ≤ f
 | 0, _ => Nat.le_refl _
 | f + 1, n => by rw [tzA]; split <;> have := tzA_le f (n / 2) <;> omega
theorem tz_le (n : Nat) : tz n ≤ 64 := tzA_le 64 n
theorem tz_pos {n : Nat} (h : n % 2 = 0) : 1 ≤ tz n := by rw [tz, tzA, if_pos h]; omega
theorem sqs_hit {n s x : Nat} (hs : 0 < s) (h : x = n - 1) : sqs n s x = true := by
 obtain ⟨s, rfl⟩ : ∃ t, s = t + 1 := ⟨s - 1, by omega⟩
 rw [sqs, if_pos h]
theorem sqs_miss {n s x : Nat} (hs : 0 < s) (h : x ≠ n - 1) : sqs n s x = sqs n (s - 1) (x * x % n) := by
 obtain ⟨s, rfl⟩ : ∃ t, s = t + 1 := ⟨s - 1, by omega⟩
 rw [sqs, if_neg h]; rfl
abbrev TabD (w : World) : Prop := Go.Proofs.TabAt (renTz.g 1) Lib.deBruijn64tab w
theorem tabd_below {w w' : World} (h : TabD w) (hb : Below w.heap.size w w') : TabD w' := by
 intro j hj
 have h1 := h j hj
 have hlt : renTz.g 1 < w.heap.size := by
  rcases Nat.lt_or_ge (renTz.g 1) w.heap.size with q | q
  ·exact q
  ·unfold World.cell? at h1; rw [Array.getElem?_eq_none q] at h1; cases h1
 unfold World.cell? at h1 ⊢
 rw [hb.block _ hlt]; exact h1
theorem tabd_st {ok : Nat → Prop} {w0 w : World} {own : List Ent} {fs : List Fact} (h : TabD w0) (hS : St ok w0 own fs w) : TabD w := tabd_below h hS.below
theorem ctz_tzA : ∀ (f n : Nat), Lib.ctzFrom f n = tzA f n
 | 0, _ => rfl
 | f + 1, n => by
  rw [Lib.ctzFrom, tzA, ctz_tzA f]
  by_cases h : n % 2 = 1
  ·rw [if_pos h, if_neg (by omega)]
  ·rw [if_neg h, if_pos (by omega), Nat.add_comm]
theorem ctz_tz {n : Nat} (h : 0 < n) : Lib.ctz 64 n = tz n := by rw [Lib.ctz, if_neg (by omega), ctz_tzA]; rfl
theorem tz_c {n : Nat} {w : World} (hn0 : 0 < n) (hn : n < 18446744073709551616) (hD : TabD w) :
  Cw 123 #[.int .u64 (n : Int)] w (.int .i64 ((tz n : Nat) : Int)) :=
 (tz_any n hn w (fun _ => hD)).mono fun _ _ ⟨h1, h2⟩ => ⟨by rw [h1, ctz_tz hn0], by rw [h2]; exact Below.refl _ _⟩
theorem pmul_c {a b m : Nat} {w : World} (ha : a < m) (hb : b < m) (hm : m < 18446744073709551616) :
  Cw 125 #[.int .u64 (a : Int), .int .u64 (b : Int), .int .u64 (m : Int)] w (.int .u64 ((a * b % m : Nat) : Int)) := by
 have hml : a * b < m * 18446744073709551616 := Nat.mul_lt_mul'' ha (Nat.lt_trans hb hm)
 have hhi : a * b / 18446744073709551616 < m := by rw [Nat.div_lt_iff_lt_mul (by decide)]; exact hml
 have hlo : a * b % 18446744073709551616 < 18446744073709551616 := Nat.mod_lt _ (by decide)
 have hd : a * b / 18446744073709551616 * 18446744073709551616 + a * b % 18446744073709551616 = a * b := by rw [Nat.mul_comm]; exact Nat.div_add_mod _ _
 refine En [] [(0, .int .u64 (a : Int)), (1, .int .u64 (b : Int)), (2, .int .u64 (m : Int))] Tryz.func125 rfl Tryz.ntmps125 rfl (Ac rfl (Ac rfl (Ac rfl (An _)))) Fn ?_
 refine Cs (Ka rfl (Nt (Cs (Km rfl (Km rfl ?_)))))
 refine Ku rfl (Oc rfl rfl (Kv fun w hS => mul64_c (x := a) (y := b) (by omega) (by omega))) ?_
 refine Km rfl (Kq rfl (Re rfl rfl rfl) (Kq rfl (Re rfl rfl rfl) (Ka rfl (Ka rfl (Nt (Cs (Km rfl (Km rfl (Km rfl ?_)))))))))
 refine Ku rfl (Oc rfl rfl (Kv fun w hS => div64_c (u := a * b / 18446744073709551616) (lo := a * b % 18446744073709551616) (y := m) (by assumption) (by assumption) (by assumption))) ?_
 refine Km rfl (Kq rfl (Re rfl rfl rfl) (Kq rfl (Re rfl rfl rfl) (Ka rfl (Ka rfl (Nt (Cs (Km rfl (Ka rfl (Nt (Ce ?_))))))))))
 exact R1 rfl rfl (by rw [hd]; rfl)
theorem ppow_c {a e0 m : Nat} {w : World} (ha : a < m) (he : e0 < 18446744073709551616) (hm : m < 18446744073709551616) :
  Cw 124 #[.int .u64 (a : Int), .int .u64 (e0 : Int), .int .u64 (m : Int)] w (.int .u64 ((a ^ e0 % m : Nat) : Int)) := by
 have hm0 : 0 < m := by omega
 refine En [] [(0, .int .u64 (a : Int)), (1, .int .u64 (e0 : Int)), (2, .int .u64 (m : Int))] Tryz.func124 rfl Tryz.ntmps124 rfl (Ac rfl (Ac rfl (Ac rfl (An _)))) Fn ?_
 refine Cs (Ka rfl (Nt (Cs (Km rfl ?_))))
 refine Kq rfl (rd_remW (a := 1) rfl rfl rfl ?_) ?_
 ·assumption
 refine Ka rfl (Nt (Cq (Cb ?_)))
 refine Lp (σ := Nat × Nat × Nat) [(2, _)] (fun gq => [(0, .int .u64 (gq.2.1 : Int)), (1, .int .u64 (gq.1 : Int)), (7, .int .u64 (gq.2.2 : Int))]) (fun gq => gq.1 < 18446744073709551616 ∧ gq.2.1 < m ∧ gq.2.2 < m ∧ gq.2.2 * gq.2.1 ^ gq.1 % m = a ^ e0 % m) (fun gq => gq.1) (e0, a, 1 % m) (S1 rfl) (S3 rfl rfl rfl) (by (try dsimp only); exact ⟨he, ha, Nat.mod_lt _ hm0, by rw [mml, Nat.one_mul]⟩) ?_
 rintro ⟨n, b, x⟩ hinv1; (try dsimp only at hinv1 ⊢)
 obtain ⟨hn, hb, hx, hi⟩ := hinv1
 refine Cq (Cs (Km rfl (Kq rfl (rd_gtr rfl rfl rfl) (Nt ?_))))
 refine Cd rfl (fun hc11 => ?_) (fun hc11 => ?_)
 ·(try simp only [sB] at hc11)
  have hnp : 0 < n := by omega
  refine Ck (Xa (Cq (Cb (Cq (Cs (Km rfl ?_))))))
  refine Kq rfl (rd_remW (c := 2) rfl rfl rfl ?_) ?_
  ·omega
  refine Kq rfl (rd_eql rfl rfl rfl) (Nt ?_)
  refine Cd rfl (fun hc16 => ?_) (fun hc16 => ?_)
  ·(try simp only [sB] at hc16)
   refine Cg (Km rfl (Km rfl (Km rfl ?_)))
   refine Ku rfl (Oc rfl rfl (Kv fun w hS => pmul_c (a := x) (b := b) (m := m) (by assumption) (by assumption) (by assumption))) ?_
   refine Ka rfl (Nt (Cg (Km rfl (Km rfl (Km rfl ?_)))))
   refine Ku rfl (Oc rfl rfl (Kv fun w hS => pmul_c (a := b) (b := b) (m := m) (by assumption) (by assumption) (by assumption))) ?_
   refine Ka rfl (Nn (Xd (Xa (Cg (Km rfl ?_)))))
   refine Kq rfl (rd_quoW (c := 2) rfl rfl rfl ?_) ?_
   ·omega
   refine Ka rfl (Nn ?_)
   refine Ly ((n / 2, b * b % m, x * b % m)) (by (try dsimp only); omega) (S1 rfl) (by refine (Sc ?_ (Sc ?_ (Sc ?_ (S0 _)))) <;> (rfl)) ?_ (by (exact fun _ h => h))
   (try dsimp only)
   exact ⟨by omega, Nat.mod_lt _ hm0, Nat.mod_lt _ hm0, by rw [pow_low1 (by omega) hnp, hi]⟩
  ·(try simp only [sB] at hc16)
   refine Ck (Xa (Cg (Km rfl (Km rfl (Km rfl ?_)))))
   refine Ku rfl (Oc rfl rfl (Kv fun w hS => pmul_c (a := b) (b := b) (m := m) (by assumption) (by assumption) (by assumption))) ?_
   refine Ka rfl (Nn (Xd (Xa (Cg (Km rfl ?_)))))
   refine Kq rfl (rd_quoW (c := 2) rfl rfl rfl ?_) ?_
   ·omega
   refine Ka rfl (Nn ?_)
   refine Ly ((n / 2, b * b % m, x)) (by (try dsimp only); omega) (S1 rfl) (by refine (Sc ?_ (Sc ?_ (Sc ?_ (S0 _)))) <;> (rfl)) ?_ (by (exact fun _ h => h))
   (try dsimp only)
   exact ⟨by omega, Nat.mod_lt _ hm0, hx, by rw [pow_low0 (by omega), hi]⟩
 ·(try simp only [sB] at hc11)
  refine Cx (Xc (Xc (Xe ?_)))
  obtain rfl : n = 0 := by omega
  rw [Nat.pow_zero, Nat.mul_one, Nat.mod_eq_of_lt hx] at hi
  refine Xa (Cs (Km rfl (Ka rfl (Nt (Ce ?_)))))
  exact R1 rfl rfl (by rw [hi]; rfl)
theorem pbases_c {w : World} :
  Cw 122 #[] w (.agg (ps12.map vU).toArray) := by
 refine En [] [] Tryz.func122 rfl Tryz.ntmps122 rfl (An _) Fn ?_
 refine Cs ?_
 refine Kh rfl (Oz [.int .u64 0, .int .u64 0, .int .u64 0, .int .u64 0, .int .u64 0, .int .u64 0, .int .u64 0, .int .u64 0, .int .u64 0, .int .u64 0, .int .u64 0, .int .u64 0] rfl) ?_
 intro b0
 refine Nt (Cs ?_)
 refine Kq rfl (rd_build rfl rfl (v := .agg #[.int .u64 2, .int .u64 3, .int .u64 5, .int .u64 7, .int .u64 11, .int .u64 13, .int .u64 17, .int .u64 19, .int .u64 23, .int .u64 29, .int .u64 31, .int .u64 37]) (fun w => by kernel_rfl)) ?_
 refine Nu rfl rfl (Sa rfl rfl rfl .tc) ?_
 refine Nt (Ce ?_)
 exact WX.ret1c (cs := ps12.map vU) rfl rfl .here u149 rfl (by kernel_rfl) fun w' hS => ⟨rfl, hS.below⟩
theorem pis_c {n : Nat} {w : World} (hn : n < 18446744073709551616) (hD : TabD w) :
  Cw 88 #[.int .u64 (n : Int)] w (.bool (isP n)) := by
 refine En [] [(0, .int .u64 (n : Int))] Tryz.func88 rfl Tryz.ntmps88 rfl (Ac rfl (An _)) Fn ?_
 refine Cs (Ka rfl (Nt ?_))
 refine WC.scope ?_
 refine Cq (Cs (Km rfl (Kq rfl (rd_lss rfl rfl rfl) (Nt ?_))))
 refine Cd rfl (fun hc12 => ?_) (fun hc12 => ?_)
 ·(try simp only [sB] at hc12)
  refine Cs (Ka rfl (Nt (Ce (Xb ?_))))
  refine WX.scope_ret ?_
  exact R1 rfl rfl (by rw [isP, if_pos (by omega)]; rfl)
 ·(try simp only [sB] at hc12)
  have hn2 : ¬ n < 2 := by omega
  refine Ck (Xa (Cq (Cs ?_)))
  refine Ku rfl (Oc rfl rfl (Kv fun w hS => pbases_c)) ?_
  refine Km rfl (Nt (Cb ?_))
  refine Lp (σ := Nat) [(0, _), (13, _)] (fun gq => [(14, .int .i64 (gq : Int))]) (fun gq => gq ≤ 12 ∧ tdiv n (ps12.drop gq) = tdiv n ps12) (fun gq => 12 - gq) (0) (S2 rfl rfl) (S1 rfl) (by (try dsimp only); exact ⟨by omega, rfl⟩) ?_
  rintro k hinv1; (try dsimp only at hinv1 ⊢)
  obtain ⟨hk, htd⟩ := hinv1
  refine Cs (Kq rfl (rd_lss rfl rfl rfl) (Nt (Cq ?_)))
  refine Cd rfl (fun hc15 => ?_) (fun hc15 => ?_)
  ·(try simp only [sB] at hc15)
   have hk12 : k < 12 := by omega
   have hpb := pk_bd hk12
   rw [tdiv_drop n hk12] at htd
   refine Ck (Xa (Cq (Cb (Cs ?_))))
   refine Kq rfl (rd_aidx rfl rfl rfl u149 u49 rfl (by kernel_rfl) ?_ (by (rw [Int.toNat_natCast]; exact pk_cell hk12))) ?_
   ·omega
   refine Ka rfl (Nt (Cs (Km rfl (Km rfl ?_))))
   refine Kq rfl (rd_remW rfl rfl rfl ?_) ?_
   ·omega
   refine Kq rfl (rd_eql rfl rfl rfl) (Nt ?_)
   refine Cd rfl (fun hc20 => ?_) (fun hc20 => ?_)
   ·(try simp only [sB] at hc20)
    rw [if_pos (by omega)] at htd
    refine Cs (Km rfl (Km rfl (Kq rfl (rd_eql rfl rfl rfl) (Ka rfl (Nt (Ce (Xf (Xb (Xb (Xf (Xb ?_)))))))))))
    refine WX.scope_ret ?_
    exact R1 rfl rfl (by rw [isP_some hn2 htd.symm]; exact congrArg Ending.returned (congrArg Value.bool (decide_eq_decide.2 (by omega))))
   ·(try simp only [sB] at hc20)
    rw [if_neg (by omega)] at htd
    refine Ck (Xd (Xa (Cg (Kq rfl (Rz rfl rfl rfl (by omega)) (Km rfl (Nn ?_))))))
    refine Ly (k + 1) (by (try dsimp only); omega) (S2 rfl rfl) (by refine (Sc ?_ (S0 _)) <;> (rfl)) ?_ (by (exact fun _ h => h))
    (try dsimp only)
    exact ⟨by omega, htd⟩
  ·(try simp only [sB] at hc15)
   refine Cx (Xc (Xc (Xe ?_)))
   obtain rfl : k = 12 := by omega
   have hno : tdiv n ps12 = none := htd.symm
   have hodd := tdiv_none hno 2 (by decide)
   have htp := tz_pos (n := n - 1) (by omega)
   have htl := tz_le (n - 1)
   obtain ⟨s, hs⟩ : ∃ s, s = tz (n - 1) := ⟨_, rfl⟩
   obtain ⟨d, hd⟩ : ∃ d, d = (n - 1) / 2 ^ s := ⟨_, rfl⟩
   have hdn : d < 18446744073709551616 := by rw [hd]; exact Nat.lt_of_le_of_lt (Nat.div_le_self _ _) (by omega)
   have hst : ∀ a, stN n a = strN n a s d := fun a => by rw [hd, hs]; rfl
   refine Xa (Cs (Km rfl (Kq rfl (rd_subW (c := 1) rfl rfl rfl (by omega)) ?_)))
   refine Ku rfl (Oc rfl rfl (Kv fun w hS => tz_c (n := n - 1) (by omega) (by omega) (by (exact tabd_st hD hS)))) ?_
   refine Ns 27 rfl (v' := .int .i64 ((s : Nat) : Int)) (congrArg (Value.int .i64) (by rw [hs])) ?_
   refine Ka rfl (Nt (Cs (Km rfl (Kq rfl (rd_subW (c := 1) rfl rfl rfl (by omega)) (Km rfl ?_)))))
   refine Kq rfl (rd_shrW rfl rfl rfl (by (show _ ≤ 64; omega))) ?_
   refine Ns 31 rfl (v' := .int .u64 ((d : Nat) : Int)) (congrArg (Value.int .u64) (by rw [hd])) ?_
   refine Ka rfl (Nt (Cq ?_))
   refine WC.label ?_
   refine Xa (Cq (Cs ?_))
   refine Ku rfl (Oc rfl rfl (Kv fun w hS => pbases_c)) ?_
   refine Km rfl (Nt (Cb ?_))
   refine Lp (σ := Nat) [(0, _), (5, _), (6, _), (32, _)] (fun gq => [(33, .int .i64 (gq : Int))]) (fun gq => gq ≤ 12 ∧ (ps12.drop gq).all (stN n) = ps12.all (stN n)) (fun gq => 12 - gq) (0) (S4 rfl rfl rfl rfl) (S1 rfl) (by (try dsimp only); exact ⟨by omega, rfl⟩) ?_
   rintro j hinv2; (try dsimp only at hinv2 ⊢)
   obtain ⟨hj, hall⟩ := hinv2
   refine Cs (Kq rfl (rd_lss rfl rfl rfl) (Nt (Cq ?_)))
   refine Cd rfl (fun hc34 => ?_) (fun hc34 => ?_)
   ·(try simp only [sB] at hc34)
    have hj12 : j < 12 := by omega
    have hjb := pk_bd hj12
    rw [all_drop _ hj12] at hall
    have hjn : pk j % n < n := Nat.mod_lt _ (by omega)
    obtain ⟨x0, hx0⟩ : ∃ x, x = pk j ^ d % n := ⟨_, rfl⟩
    have hpx : (pk j % n) ^ d % n = x0 := by rw [hx0]; exact (Nat.pow_mod (pk j) d n).symm
    have hxl : x0 < n := by rw [hx0]; exact Nat.mod_lt _ (by omega)
    have hsj : stN n (pk j) = (decide (x0 = 1) || sqs n s x0) := by rw [hst, strN, ← hx0]
    refine Ck (Xa (Cq (Cb (Cs ?_))))
    refine Kq rfl (rd_aidx rfl rfl rfl u149 u49 rfl (by kernel_rfl) ?_ (by (rw [Int.toNat_natCast]; exact pk_cell hj12))) ?_
    ·omega
    refine Ka rfl (Nt (Cs (Km rfl (Km rfl ?_))))
    refine Kq rfl (rd_remW rfl rfl rfl ?_) ?_
    ·omega
    refine Km rfl (Km rfl ?_)
    refine Ku rfl (Oc rfl rfl (Kv fun w hS => ppow_c (a := pk j % n) (e0 := d) (m := n) (by assumption) (by assumption) (by assumption))) ?_
    refine Ns 41 rfl (v' := .int .u64 ((x0 : Nat) : Int)) (congrArg (Value.int .u64) (by rw [hpx])) ?_
    refine Ka rfl (Nt (Cq (Cs (Km rfl (Kq rfl (rd_eql rfl rfl rfl) (Km rfl ?_))))))
    refine Nb 44 rfl (fun hg44 => ?_) (fun hg44 => ?_)
    ·(try simp only [sB] at hg44)
     refine Kt rfl (Kt rfl (Kt rfl (Kt rfl (Kq rfl (Rp rfl rfl rfl) (Nt ?_)))))
     refine Cd rfl (fun _ => ?_) (fun h => by cases h)
     have hstr : stN n (pk j) = true := by rw [hsj, decide_eq_true (by omega)]; rfl
     refine Cx (Xc (Xe (Xa (Cg (Kq rfl (Rz rfl rfl rfl (by omega)) (Km rfl (Nn ?_)))))))
     refine Ly (j + 1) (by (try dsimp only); omega) (S4 rfl rfl rfl rfl) (by refine (Sc ?_ (S0 _)) <;> (rfl)) ?_ (by (exact fun _ h => h))
     (try dsimp only)
     exact ⟨by omega, by rw [← hall, hstr, Bool.true_and]⟩
    ·(try simp only [sB] at hg44)
     refine Km rfl (Km rfl (Kq rfl (rd_subW (c := 1) rfl rfl rfl (by omega)) (Kq rfl (rd_eql rfl rfl rfl) (Kq rfl (Rq rfl rfl rfl) (Nt ?_)))))
     refine Cd rfl (fun hc49 => ?_) (fun hc49 => ?_)
     ·(try simp only [sB] at hc49)
      have hstr : stN n (pk j) = true := by rw [hsj, sqs_hit (by omega) (by omega), Bool.or_true]
      refine Cx (Xc (Xe (Xa (Cg (Kq rfl (Rz rfl rfl rfl (by omega)) (Km rfl (Nn ?_)))))))
      refine Ly (j + 1) (by (try dsimp only); omega) (S4 rfl rfl rfl rfl) (by refine (Sc ?_ (S0 _)) <;> (rfl)) ?_ (by (exact fun _ h => h))
      (try dsimp only)
      exact ⟨by omega, by rw [← hall, hstr, Bool.true_and]⟩
     ·(try simp only [sB] at hc49)
      have hx1 : ¬ x0 = 1 := by omega
      have hxm : x0 ≠ n - 1 := by omega
      rw [decide_eq_false hx1, Bool.false_or] at hsj
      refine Ck (Xa (Cq (Cs (Ka rfl (Nt (Cb ?_))))))
      refine Lp (σ := Nat × Nat) [(0, _), (5, _), (6, _), (32, _), (33, _)] (fun gq => [(10, .int .i64 (gq.1 : Int)), (9, .int .u64 (gq.2 : Int))]) (fun gq => 1 ≤ gq.1 ∧ gq.1 ≤ s ∧ gq.2 < n ∧ gq.2 ≠ n - 1 ∧ sqs n (s - gq.1 + 1) gq.2 = sqs n s x0) (fun gq => s - gq.1) (1, x0) (S5 rfl rfl rfl rfl rfl) (S2 rfl rfl) (by (try dsimp only); exact ⟨by omega, by omega, hxl, hxm, by rw [Nat.sub_add_cancel (by omega)]⟩) ?_
      rintro ⟨i, x⟩ hinv3; (try dsimp only at hinv3 ⊢)
      obtain ⟨hi1, his, hxn, hxm1, hsq⟩ := hinv3
      refine Cq (Cs (Km rfl (Km rfl (Kq rfl (rd_lss rfl rfl rfl) (Nt ?_)))))
      refine Cd rfl (fun hc52 => ?_) (fun hc52 => ?_)
      ·(try simp only [sB] at hc52)
       rw [sqs_miss (by omega) hxm1, Nat.add_sub_cancel] at hsq
       have hx2 : x * x % n < n := Nat.mod_lt _ (by omega)
       refine Ck (Xa (Cq (Cb (Cs (Km rfl (Km rfl (Km rfl ?_)))))))
       refine Ku rfl (Oc rfl rfl (Kv fun w hS => pmul_c (a := x) (b := x) (m := n) (by assumption) (by assumption) (by assumption))) ?_
       refine Ka rfl (Nt (Cs (Km rfl (Km rfl (Kq rfl (rd_subW (c := 1) rfl rfl rfl (by omega)) (Kq rfl (rd_eql rfl rfl rfl) (Nt ?_)))))))
       refine Cd rfl (fun hc62 => ?_) (fun hc62 => ?_)
       ·(try simp only [sB] at hc62)
        have hstr : stN n (pk j) = true := by rw [hsj, ← hsq]; exact sqs_hit (by omega) (by omega)
        refine Cx ?_
        refine WX.block_other rfl ?_
        refine Xc (Xc ?_)
        refine WX.block_other rfl ?_
        refine Xc (Xe (Xa (Cg (Kq rfl (Rz rfl rfl rfl (by omega)) (Km rfl (Nn ?_))))))
        refine Ly (j + 1) (by (try dsimp only); omega) (S4 rfl rfl rfl rfl) (by refine (Sc ?_ (S0 _)) <;> (rfl)) ?_ (by (exact fun _ h => h))
        (try dsimp only)
        exact ⟨by omega, by rw [← hall, hstr, Bool.true_and]⟩
       ·(try simp only [sB] at hc62)
        refine Ck (Xd (Xa (Cg (Km rfl (Kq rfl (Rz rfl rfl rfl (by omega)) (Ka rfl (Nn ?_)))))))
        refine Ly ((i + 1, x * x % n)) (by (try dsimp only); omega) (S5 rfl rfl rfl rfl rfl) (by refine (Sc ?_ (Sc ?_ (S0 _))) <;> (rfl)) ?_ (by (exact fun _ h => h))
        (try dsimp only)
        exact ⟨by omega, by omega, hx2, by omega, by rw [← hsq, show s - (i + 1) + 1 = s - i by omega]⟩
      ·(try simp only [sB] at hc52)
       refine Cx (Xc (Xc (Xe ?_)))
       have hstr : stN n (pk j) = false := by rw [hsj, ← hsq, show s - i = 0 by omega, sqs_miss (by omega) hxm1]; rfl
       refine Xa (Cs (Ka rfl (Nt (Ce (Xf (Xb (Xb (Xf (Xb ?_)))))))))
       refine WX.scope_ret ?_
       exact R1 rfl rfl (by rw [isP_none hn2 hno, ← hall, hstr]; rfl)
   ·(try simp only [sB] at hc34)
    refine Cx (Xc (Xc (Xe ?_)))
    obtain rfl : j = 12 := by omega
    refine Xa (Cs (Ka rfl (Nt (Ce ?_))))
    refine WX.scope_ret ?_
    exact R1 rfl rfl (by rw [isP_none hn2 hno, ← hall]; rfl)
theorem smallN_lt (a : Bs) : (smallN a).1 < 18446744073709551616 := by
 rw [smallN]; split
 ·rename_i h; exact val_8 h.2
 ·decide
def primeS (a : Bs) : Bool × Int := if ¬ okN a then (false, 3) else if 8 < a.length then (false, 5) else (isP (val a), 0)
def errS (a : Bs) : Int := if okN a then if 8 < a.length then 5 else 0 else 3
theorem primeS_ok {a : Bs} (h : errS a = 0) : primeS a = (isP (smallN a).1, 0) := by
 unfold errS at h; split at h
 ·rename_i h1; split at h
  ·simp at h
  ·rename_i h2; rw [primeS, if_neg (fun h => h h1), if_neg h2, smallN, if_pos ⟨h1, by omega⟩]
 ·simp at h
theorem primeS_no {a : Bs} (h : ¬ errS a = 0) : primeS a = (false, errS a) := by
 by_cases h1 : okN a
 ·by_cases h2 : 8 < a.length
  ·rw [primeS, if_neg (fun h => h h1), if_pos h2, errS, if_pos h1, if_pos h2]
  ·exact absurd (by rw [errS, if_pos h1, if_neg h2]) h
 ·rw [primeS, if_pos h1, errS, if_neg h1]
theorem prime_ok {a : Bs} (h : okN a) (h8 : a.length ≤ 8) : primeS a = (isP (val a), 0) := by rw [primeS, if_neg (fun h1 => h1 h), if_neg (by omega)]
theorem psmall_c {a : Bs} {w : World} :
  Cw 87 #[.string (S a)] w (.tuple #[.int .u64 ((smallN a).1 : Int), .int .i64 (errS a)]) := by
 refine En [] [(0, .string (S a))] Tryz.func87 rfl Tryz.ntmps87 rfl (Ac rfl (An _)) Fn ?_
 refine Cs (Ka rfl (Ka rfl (Nt (Cq (Cs (Km rfl ?_))))))
 refine Ku rfl (Oc rfl rfl (Kv fun w hS => valid_c (a := a))) ?_
 refine Kq rfl (Rt rfl rfl) (Nt ?_)
 refine Cd rfl (fun hc8 => ?_) (fun hc8 => ?_)
 ·(try simp only [sB] at hc8)
  refine Cs (Ka rfl (Ka rfl (Nt (Ce (Xb ?_)))))
  exact R2 rfl rfl rfl (by rw [smallN, if_neg (fun h => hc8 h.1), errS, if_neg hc8]; rfl)
 ·(try simp only [sB] at hc8)
  have hok : okN a := by simpa using hc8
  have hal := hok.1
  refine Ck (Xa (Cs (Km rfl ?_)))
  refine Ku rfl (Oc rfl rfl (Kv fun w hS => small_c (a := a) (by omega))) ?_
  refine Km rfl (Kq rfl (Re rfl rfl rfl) (Kq rfl (Re rfl rfl rfl) (Ka rfl (Ka rfl (Nt (Cq (Cs (Km rfl (Kq rfl (Rt rfl rfl) (Nt ?_))))))))))
  refine Cd rfl (fun hc15 => ?_) (fun hc15 => ?_)
  ·(try simp only [sB] at hc15)
   have h8 : ¬ a.length ≤ 8 := fun h => by simp [smallN, hok, h] at hc15
   refine Cs (Ka rfl (Ka rfl (Nt (Ce (Xb ?_)))))
   exact R2 rfl rfl rfl (by rw [smallN, if_neg (fun h => h8 h.2), errS, if_pos hok, if_pos (by omega)]; rfl)
  ·(try simp only [sB] at hc15)
   have h8 : a.length ≤ 8 := Decidable.byContradiction fun h => by simp [smallN, hok, h] at hc15
   refine Ck (Xa (Cs (Km rfl (Ka rfl (Ka rfl (Nt (Ce ?_)))))))
   exact R2 rfl rfl rfl (by rw [errS, if_pos hok, if_neg (by omega)]; rfl)
theorem prime_c {a : Bs} {w : World} (hD : TabD w) :
  Cw 55 #[.string (S a)] w (.tuple #[.bool (primeS a).1, .int .i64 (primeS a).2]) := by
 have hsl := smallN_lt a
 refine En [] [(0, .string (S a))] Tryz.func55 rfl Tryz.ntmps55 rfl (Ac rfl (An _)) Fn ?_
 refine Cs (Ka rfl (Ka rfl (Nt (Cs (Km rfl ?_)))))
 refine Ku rfl (Oc rfl rfl (Kv fun w hS => psmall_c (a := a))) ?_
 refine Km rfl (Kq rfl (Re rfl rfl rfl) (Kq rfl (Re rfl rfl rfl) (Ka rfl (Ka rfl (Nt (Cs (Km rfl (Kq rfl (rd_eql rfl rfl rfl) (Km rfl ?_)))))))))
 refine Nb 13 rfl (fun hg13 => ?_) (fun hg13 => ?_)
 ·(try simp only [sB] at hg13)
  refine Km rfl ?_
  refine Ku rfl (Oc rfl rfl (Kv fun w hS => pis_c (n := (smallN a).1) (by assumption) (by (exact tabd_st hD hS)))) ?_
  refine Kq rfl (Rp rfl rfl rfl) (Km rfl (Ka rfl (Ka rfl (Nt (Ce ?_)))))
  exact R2 rfl rfl rfl (by (rw [primeS_ok hg13, hg13]; rfl))
 ·(try simp only [sB] at hg13)
  refine Kt rfl (Kt rfl (Kq rfl (Rq rfl rfl rfl) (Km rfl (Ka rfl (Ka rfl (Nt (Ce ?_)))))))
  exact R2 rfl rfl rfl (by (rw [primeS_no hg13]; rfl))
structure IK where
 name : Bs
 g : Gp
 z : Bs
 s : Bs
 r : List Bs
 u : Bs
 h : Bs
structure PR where
 ch : Bs
 sl : Bs
 mn : PK
 wh : PK
 sec : Bs
 attr : Bs
 han : Bs
 lo : Bs
 sz : Bs
 bl : Bs
 msk : Bs
abbrev nine (p : PR) : List Bs := [p.ch, p.sl, p.sec, p.attr, p.han, p.lo, p.sz, p.bl, p.msk]
def okR (p : PR) : Prop := (∀ x ∈ nine p, okN x) ∧ okK p.mn ∧ okK p.wh
instance (p : PR) : Decidable (okR p) := inferInstanceAs (Decidable (_ ∧ _))
def chkP9 (g : Gp) : Int :=
 if ¬ (okN g.1 ∧ okN g.2) then 3 else if 8 < g.1.length then 5 else if isP (val g.1) = false then 12 else if 8 < g.2.length then 13
 else if isP (val g.2) = false then 12 else if (val g.1 - 1) % val g.2 ≠ 0 then 13 else 0
def genP (g : Gp) (x : Bs) : Prop := hasP g x ∧ x ≠ canon 1
instance (g : Gp) (x : Bs) : Decidable (genP g x) := inferInstanceAs (Decidable (_ ∧ _))
def unitR (g : Gp) (x : Bs) : Prop := hasR g x ∧ x ≠ canon 1
instance (g : Gp) (x : Bs) : Decidable (unitR g x) := inferInstanceAs (Decidable (_ ∧ _))
def grpR (p : PR) : Prop := chkP9 p.mn.1 = 0 ∧ genP p.mn.1 p.mn.2.1 ∧ genP p.mn.1 p.mn.2.2 ∧ unitR p.wh.1 p.wh.2.1 ∧ unitR p.wh.1 p.wh.2.2
instance (p : PR) : Decidable (grpR p) := inferInstanceAs (Decidable (_ ∧ _))
def rngR (p : PR) : Prop := (∀ x ∈ nine p, 2 ≤ val x) ∧ 8 * val p.attr ≤ val p.mn.1.2 ∧ val p.ch ≤ val p.mn.1.2 ∧ val p.sec ≤ val p.mn.1.2
instance (p : PR) : Decidable (rngR p) := inferInstanceAs (Decidable (_ ∧ _))
def letB (c : UInt8) : Prop := (97 ≤ c.toNat ∧ c.toNat ≤ 122) ∨ (65 ≤ c.toNat ∧ c.toNat ≤ 90)
instance (c : UInt8) : Decidable (letB c) := inferInstanceAs (Decidable (_ ∨ _))
def digB (c : UInt8) : Prop := c.toNat = 95 ∨ (48 ≤ c.toNat ∧ c.toNat ≤ 57)
instance (c : UInt8) : Decidable (digB c) := inferInstanceAs (Decidable (_ ∨ _))
def nmB (i : Nat) (c : UInt8) : Prop := letB c ∨ (i ≠ 0 ∧ digB c)
instance (i : Nat) (c : UInt8) : Decidable (nmB i c) := inferInstanceAs (Decidable (_ ∨ _))
def nameS (s : Bs) : Prop := (∀ i, i < s.length → nmB i (s.getD i default)) ∧ s ≠ [] ∧ s.length ≤ 32
instance (s : Bs) : Decidable (nameS s) := inferInstanceAs (Decidable (_ ∧ _))
theorem isP_two {n : Nat} (h : isP n = true) : 2 ≤ n := Nat.not_lt.1 fun h2 => by rw [isP, if_pos h2] at h; cases h
theorem ne_of_pos {x : Bs} (h : 0 < val x) : x ≠ [] := fun h0 => by rw [h0] at h; exact absurd h (Nat.lt_irrefl _)
theorem pgcof_c {g : Gp} {w : World} (h1 : okN g.1) (h2 : okN g.2) (hp1 : 1 ≤ val g.1) (hp2 : 0 < val g.2) :
  Cw 56 #[gV g] w (.tuple #[.string (S (canon ((val g.1 - 1) / val g.2))), .bool (decide ((val g.1 - 1) % val g.2 = 0))]) := by
 have hb1 := okN_val h1
 have hq := ne_of_pos hp2
 have hs1 : subN g.1 [1] = (canon (val g.1 - 1), 0) := by rw [← one_canon, subN, if_pos ⟨h1, okN_can (by omega)⟩, val_canon, if_neg (by omega)]
 have hdv : divN (canon (val g.1 - 1)) g.2 = ((canon ((val g.1 - 1) / val g.2), canon ((val g.1 - 1) % val g.2)), 0) := by rw [divN_ok (okN_can (by omega)) h2 hq, val_canon]
 refine En [] [(0, gV g)] Tryz.func56 rfl Tryz.ntmps56 rfl (Ac rfl (An _)) Fn ?_
 refine Cs ?_
 refine Kh rfl (Oy rfl rfl) ?_
 intro b1
 refine Ka rfl (Ka rfl (Nt (Cs (Kq rfl (Fa (q := 0) rfl rfl u24 rfl rfl) (Kq rfl (Ld rfl rfl .tc u22) ?_)))))
 refine Ku rfl (Oc rfl rfl (Kv fun w hS => (by have := sub_c (w := w) (a := g.1) (b := [1]); rw [hs1] at this; exact this))) ?_
 refine Km rfl (Kq rfl (Re rfl rfl rfl) (Kq rfl (Re rfl rfl rfl) (Ka rfl (Ka rfl (Nt (Cq (Cs (Km rfl (Kq rfl (rd_neq rfl rfl rfl) (Km rfl ?_))))))))))
 refine Nb 17 rfl (fun hg17 => ?_) (fun hg17 => ?_)
 ·(try simp only [sB] at hg17)
  refine Kt rfl (Kt rfl (Kt rfl (Kq rfl (Rp rfl rfl rfl) (Nt ?_))))
  refine Cd rfl (fun _ => ?_) (fun h => by cases h)
  refine Cs (Ka rfl (Ka rfl (Nt (Ce (Xb ?_)))))
  exact R2 rfl rfl rfl (by (exact absurd trivial hg17))
 ·(try simp only [sB] at hg17)
  refine Kq rfl (Fa (q := 1) rfl rfl u24 rfl rfl) (Kq rfl (Ld rfl rfl .tc u22) ?_)
  refine Kq rfl (rd_seq rfl rfl rfl) (Kq rfl (Rq rfl rfl rfl) (Nt ?_))
  refine Cd rfl (fun hc21 => ?_) (fun hc21 => ?_)
  ·(try simp only [sB] at hc21)
   have hbad : False := hq (by simpa using hc21)
   refine Cs (Ka rfl (Ka rfl (Nt (Ce (Xb ?_)))))
   exact R2 rfl rfl rfl (by (exact hbad.elim))
  ·(try simp only [sB] at hc21)
   refine Ck (Xa (Cs (Km rfl (Kq rfl (Fa (q := 1) rfl rfl u24 rfl rfl) (Kq rfl (Ld rfl rfl .tc u22) ?_)))))
   refine Ku rfl (Oc rfl rfl (Kv fun w hS => (by have := divmod_c (w := w) (a := canon (val g.1 - 1)) (b := g.2); rw [hdv] at this; exact this))) ?_
   refine Km rfl (Kq rfl (Re rfl rfl rfl) (Kq rfl (Re rfl rfl rfl) (Kq rfl (Re rfl rfl rfl) (Ka rfl (Ka rfl (Ka rfl (Nt (Cs (Km rfl (Km rfl (Kq rfl (rd_seq rfl rfl rfl) ?_)))))))))))
   refine Ns 32 rfl (v' := .bool (decide ((val g.1 - 1) % val g.2 = 0))) (congrArg Value.bool (by simp [canon_nil])) ?_
   refine Ka rfl (Ka rfl (Nt (Ce ?_)))
   exact R2 rfl rfl rfl (by rfl)
theorem pgcheck_c {g : Gp} {w : World} (hD : TabD w) :
  Cw 27 #[gV g] w (.int .i64 (chkP9 g)) := by
 refine En [] [(0, gV g)] Tryz.func27 rfl Tryz.ntmps27 rfl (Ac rfl (An _)) Fn ?_
 refine Cs ?_
 refine Kh rfl (Oy rfl rfl) ?_
 intro b1
 refine Ka rfl (Nt (Cq (Cs ?_)))
 refine Kq rfl (lda rfl rfl .tc u24 rfl ?_) ?_
 ·kernel_rfl
 refine Ku rfl (Oc rfl rfl (Kv fun w hS => pform_c (g := g))) ?_
 refine Kq rfl (Rt rfl rfl) (Nt ?_)
 refine Cd rfl (fun hc11 => ?_) (fun hc11 => ?_)
 ·(try simp only [sB] at hc11)
  have hr : chkP9 g = 3 := by rw [chkP9, if_pos (by simpa using hc11)]
  refine Cs (Ka rfl (Nt (Ce (Xb ?_))))
  exact R1 rfl rfl (by rw [hr]; rfl)
 ·(try simp only [sB] at hc11)
  have hok : okN g.1 ∧ okN g.2 := by simpa using hc11
  refine Ck (Xa (Cq (Cs (Kq rfl (Fa (q := 0) rfl rfl u24 rfl rfl) (Kq rfl (Ld rfl rfl .tc u22) ?_)))))
  refine Kq rfl (rd_slen rfl rfl u22) (Kq rfl (rd_gtr rfl rfl rfl) (Nt ?_))
  refine Cd rfl (fun hc15 => ?_) (fun hc15 => ?_)
  ·(try simp only [sB] at hc15)
   have hr : chkP9 g = 5 := by rw [chkP9, if_neg (fun h => h hok), if_pos (by omega)]
   refine Cs (Ka rfl (Nt (Ce (Xb ?_))))
   exact R1 rfl rfl (by rw [hr]; rfl)
  ·(try simp only [sB] at hc15)
   have h8 : g.1.length ≤ 8 := by omega
   have hp1 := prime_ok hok.1 h8
   refine Ck (Xa (Cq (Cs (Kq rfl (Fa (q := 0) rfl rfl u24 rfl rfl) (Kq rfl (Ld rfl rfl .tc u22) ?_)))))
   refine Ku rfl (Oc rfl rfl (Kv fun w hS => (by have := prime_c (w := w) (a := g.1) (tabd_st hD hS); rw [hp1] at this; exact this))) ?_
   refine Km rfl (Kq rfl (Re rfl rfl rfl) (Kq rfl (Re rfl rfl rfl) (Ka rfl (Ka rfl (Nt (Cs (Km rfl (Kq rfl (Rt rfl rfl) (Nt ?_)))))))))
   refine Cd rfl (fun hc23 => ?_) (fun hc23 => ?_)
   ·(try simp only [sB] at hc23)
    have hpf : isP (val g.1) = false := by simpa using hc23
    have hr : chkP9 g = 12 := by rw [chkP9, if_neg (fun h => h hok), if_neg (by omega), if_pos hpf]
    refine Cs (Ka rfl (Nt (Ce (Xb ?_))))
    exact R1 rfl rfl (by rw [hr]; rfl)
   ·(try simp only [sB] at hc23)
    have hpt : isP (val g.1) = true := by simpa using hc23
    have hpn : ¬ isP (val g.1) = false := by rw [hpt]; decide
    refine Ck (Xa (Cq (Cs (Kq rfl (Fa (q := 1) rfl rfl u24 rfl rfl) (Kq rfl (Ld rfl rfl .tc u22) ?_)))))
    refine Kq rfl (rd_slen rfl rfl u22) (Kq rfl (rd_gtr rfl rfl rfl) (Nt ?_))
    refine Cd rfl (fun hc27 => ?_) (fun hc27 => ?_)
    ·(try simp only [sB] at hc27)
     have hr : chkP9 g = 13 := by rw [chkP9, if_neg (fun h => h hok), if_neg (by omega), if_neg hpn, if_pos (by omega)]
     refine Cs (Ka rfl (Nt (Ce (Xb ?_))))
     exact R1 rfl rfl (by rw [hr]; rfl)
    ·(try simp only [sB] at hc27)
     have h82 : g.2.length ≤ 8 := by omega
     have hp2 := prime_ok hok.2 h82
     refine Ck (Xa (Cq (Cs (Kq rfl (Fa (q := 1) rfl rfl u24 rfl rfl) (Kq rfl (Ld rfl rfl .tc u22) ?_)))))
     refine Ku rfl (Oc rfl rfl (Kv fun w hS => (by have := prime_c (w := w) (a := g.2) (tabd_st hD hS); rw [hp2] at this; exact this))) ?_
     refine Km rfl (Kq rfl (Re rfl rfl rfl) (Kq rfl (Re rfl rfl rfl) (Ka rfl (Ka rfl (Nt (Cs (Km rfl (Kq rfl (Rt rfl rfl) (Nt ?_)))))))))
     refine Cd rfl (fun hc35 => ?_) (fun hc35 => ?_)
     ·(try simp only [sB] at hc35)
      have hqf : isP (val g.2) = false := by simpa using hc35
      have hr : chkP9 g = 12 := by rw [chkP9, if_neg (fun h => h hok), if_neg (by omega), if_neg hpn, if_neg (by omega), if_pos hqf]
      refine Cs (Ka rfl (Nt (Ce (Xb ?_))))
      exact R1 rfl rfl (by rw [hr]; rfl)
     ·(try simp only [sB] at hc35)
      have hqt : isP (val g.2) = true := by simpa using hc35
      have hqn : ¬ isP (val g.2) = false := by rw [hqt]; decide
      have hg1 := isP_two hpt; have hg2 := isP_two hqt
      refine Ck (Xa (Cq (Cs ?_)))
      refine Kq rfl (lda rfl rfl .tc u24 rfl ?_) ?_
      ·kernel_rfl
      refine Ku rfl (Oc rfl rfl (Kv fun w hS => pgcof_c (g := g) (by exact hok.1) (by exact hok.2) (by omega) (by omega))) ?_
      refine Km rfl (Kq rfl (Re rfl rfl rfl) (Kq rfl (Re rfl rfl rfl) (Ka rfl (Ka rfl (Nt (Cs (Km rfl (Kq rfl (Rt rfl rfl) (Nt ?_)))))))))
      refine Cd rfl (fun hc42 => ?_) (fun hc42 => ?_)
      ·(try simp only [sB] at hc42)
       have hr : chkP9 g = 13 := by rw [chkP9, if_neg (fun h => h hok), if_neg (by omega), if_neg hpn, if_neg (by omega), if_neg hqn, if_pos (by simpa using hc42)]
       refine Cs (Ka rfl (Nt (Ce (Xb ?_))))
       exact R1 rfl rfl (by rw [hr]; rfl)
      ·(try simp only [sB] at hc42)
       have hr : chkP9 g = 0 := by rw [chkP9, if_neg (fun h => h hok), if_neg (by omega), if_neg hpn, if_neg (by omega), if_neg hqn, if_neg (by simpa using hc42)]
       refine Ck (Xa (Cs (Ka rfl (Nt (Ce ?_)))))
       exact R1 rfl rfl (by rw [hr]; rfl)
theorem rgdiv_c {g : Gp} {w : World} (h1 : okN g.1) (h2 : okN g.2) (hp1 : 1 ≤ val g.1) (hp2 : 0 < val g.2) :
  Cw 43 #[gV g] w (.bool (decide ((val g.1 - 1) % val g.2 = 0))) := by
 have hb1 := okN_val h1
 have hl1 := h1.1
 have hq := ne_of_pos hp2
 have hn1 := ne_of_pos (show 0 < val g.1 by omega)
 refine En [] [(0, gV g)] Tryz.func43 rfl Tryz.ntmps43 rfl (Ac rfl (An _)) Fn ?_
 refine Cs ?_
 refine Kh rfl (Oy rfl rfl) ?_
 intro b1
 refine Ka rfl (Nt (Cq (Cs (Kq rfl (Fa (q := 0) rfl rfl u24 rfl rfl) (Kq rfl (Ld rfl rfl .tc u22) ?_)))))
 refine Kq rfl (rd_seq rfl rfl rfl) (Nt ?_)
 refine Cd rfl (fun hc7 => ?_) (fun hc7 => ?_)
 ·(try simp only [sB] at hc7)
  have hbad : False := hn1 (by simpa using hc7)
  refine Cs (Ka rfl (Nt (Ce (Xb ?_))))
  exact R1 rfl rfl (by exact hbad.elim)
 ·(try simp only [sB] at hc7)
  refine Ck (Xa (Cq ?_))
  refine Cf [0, 1, 2, 3, 4, 5, 6, 7, 8, 9, 10] [] [0, 0, 1, 0, 0, 1, 0, 0, 0, 0, 0] (by kernel_rfl) (by kernel_rfl) rfl ?_
  refine Kj rfl (Fa (q := 0) rfl rfl u24 rfl rfl) (Kj rfl (Ld rfl rfl .tc u22) ?_)
  refine Jv rfl rfl rfl rfl rfl (fun ext => Oc rfl rfl (Kv fun w hS => minus_c (a := g.1) (b := [1]) (by exact hp1) (by omega) (by decide))) ?_
  refine WJ.set 11 rfl (v' := .string (S (canon (val g.1 - 1)))) (congrArg (fun l => Value.string (S l)) (by rfl)) ?_
  refine Kj rfl (Fa (q := 1) rfl rfl u24 rfl rfl) (Kj rfl (Ld rfl rfl .tc u22) ?_)
  refine Jv rfl rfl rfl rfl rfl (fun ext => Oc rfl rfl (Kv fun w hS => rover_c (a := canon (val g.1 - 1)) (b := g.2) (by exact okN_can (by omega)) (by exact h2) (by exact hq))) ?_
  refine Kj rfl (Rm rfl rfl) (Kj rfl (Re rfl rfl rfl) (Kj rfl (Re rfl rfl rfl) (Kj rfl (Ra rfl rfl) (Kj rfl (Ra rfl rfl) ?_))))
  refine WJ.nil ?_
  refine Nt (Cs (Km rfl (Kq rfl (rd_seq rfl rfl rfl) ?_)))
  refine Ns 18 rfl (v' := .bool (decide ((val g.1 - 1) % val g.2 = 0))) (congrArg Value.bool (by simp [canon_nil, val_canon])) ?_
  refine Ka rfl (Nt (Ce ?_))
  exact R1 rfl rfl (by rfl)
theorem rsum8_c {s : Bs} {w : World} (hs : s.length ≤ 1000000) :
  Cw 47 #[.string (S s)] w (.string (S (sha s))) :=
 rsum_ok s hs w
theorem hshF_yes {g : Gp} {l : Bs} {c : Nat} (hc : c < 64) (h : hshV g l c ≠ 0 ∧ hshV g l c ≠ 1) : hshF g l (64 - c) c = some (hshV g l c) := by
 rw [show 64 - c = (64 - c - 1) + 1 by omega, hshF, if_pos h]
theorem hshF_no {g : Gp} {l : Bs} {c : Nat} (hc : c < 64) (h : ¬ (hshV g l c ≠ 0 ∧ hshV g l c ≠ 1)) : hshF g l (64 - c) c = hshF g l (64 - (c + 1)) (c + 1) := by
 rw [show 64 - c = (64 - (c + 1)) + 1 by omega, hshF, if_neg h]
theorem hshV_if {n : Nat} : (canon n ≠ [] ∧ canon n ≠ [1]) ↔ (n ≠ 0 ∧ n ≠ 1) := by
 rw [Ne, canon_nil, Ne, canon_one]
theorem okN_h {l : Bs} {c : Nat} : okN (canon (val (hshL l c))) := by
 have h1 := val_lt (hshL l c)
 rw [show (hshL l c).length = 32 from sha_len _] at h1
 exact okN_can (Nat.lt_of_lt_of_le h1 (by decide +kernel))
theorem mexp_h {g : Gp} {l : Bs} {c : Nat} (h1 : okN g.1) (hm : g.1 ≠ []) (he : cofG g < Big) : mexpM (canon (val (hshL l c))) (canon (cofG g)) g.1 = (canon (hshV g l c), 0) := by
 have h0 : chkM [canon (val (hshL l c)), canon (cofG g)] [g.1] = 0 := by
  rw [chkM, if_pos (by intro x hx; simp at hx; rcases hx with rfl | rfl | rfl; exact okN_h; exact okN_can he; exact h1), if_neg (by simpa using hm)]
 rw [mexpM, if_pos h0, val_canon, val_canon]; rfl
theorem hsh_ok {g : Gp} {l : Bs} (hf : okN g.1 ∧ okN g.2) (hz : ¬ (g.1 = [] ∨ g.2 = [])) (hd : (val g.1 - 1) % val g.2 = 0) : hshS g l = (match hshF g l 64 0 with | some x => (canon x, 0) | none => ([], 13)) := by
 rw [hshS, if_neg (fun h => h hf), if_neg hz, if_neg (fun h => h hd)]; cases hshF g l 64 0 <;> rfl
theorem pos_nn {x : Bs} (hx : okN x) (h : x ≠ []) : 0 < val x := Nat.pos_of_ne_zero fun h0 => h (by rw [← ok_canon hx, h0, canon_nil])
theorem cof_big {g : Gp} (h1 : okN g.1) : cofG g < Big := by
 have := okN_val h1
 have h2 := Nat.div_le_self (val g.1 - 1) (val g.2)
 unfold cofG; omega
theorem pghash_c {g : Gp} {l : Bs} {w : World} (hm8 : g.1.length ≤ 8) (hl : l.length ≤ 900000) (hT : Tab w) :
  Cw 39 #[gV g, .string (S l)] w (NE (hshS g l)) := by
 refine En [] [(0, gV g), (1, .string (S l))] Tryz.func39 rfl Tryz.ntmps39 rfl (Ac rfl (Ac rfl (An _))) Fn ?_
 refine Cs ?_
 refine Kh rfl (Oy rfl rfl) ?_
 intro b2
 refine Ka rfl (Ka rfl (Nt (Cq (Cs ?_))))
 refine Kq rfl (lda rfl rfl .tc u24 rfl ?_) ?_
 ·kernel_rfl
 refine Ku rfl (Oc rfl rfl (Kv fun w hS => pform_c (g := g))) ?_
 refine Kq rfl (Rt rfl rfl) (Nt ?_)
 refine Cd rfl (fun hc14 => ?_) (fun hc14 => ?_)
 ·(try simp only [sB] at hc14)
  have hr : hshS g l = ([], 3) := by rw [hshS, if_pos (by simpa using hc14)]
  refine Cs (Ka rfl (Ka rfl (Nt (Ce (Xb ?_)))))
  exact R2 rfl rfl rfl (by rw [hr]; rfl)
 ·(try simp only [sB] at hc14)
  have hf : okN g.1 ∧ okN g.2 := by simpa using hc14
  refine Ck (Xa (Cq ?_))
  refine WC.joinP (σ := Unit) [(1, _), (2, _)] (fun gq => [(22, .bool (decide (g.1 = [] ∨ g.2 = [])))]) (fun gq => True) (S2 rfl rfl) ?_ ?_
  ·skip
   refine Cg (Kq rfl (Fa (q := 0) rfl rfl u24 rfl rfl) (Kq rfl (Ld rfl rfl .tc u22) ?_))
   refine Kq rfl (rd_seq rfl rfl rfl) (Km rfl ?_)
   refine Nb 18 rfl (fun hg18 => ?_) (fun hg18 => ?_)
   ·(try simp only [sB] at hg18)
    refine Kt rfl (Kt rfl (Kt rfl (Kq rfl (Rp rfl rfl rfl) (Nn ?_))))
    refine WX.joinP (()) (S2 rfl rfl) (by refine (Sc ?_ (S0 _)) <;> ((refine slot_b rfl ?_; (try dsimp only); (simp [*]; done)))) ?_ (by (exact fun _ h => h))
    (try dsimp only)
    done
   ·(try simp only [sB] at hg18)
    refine Kq rfl (Fa (q := 1) rfl rfl u24 rfl rfl) (Kq rfl (Ld rfl rfl .tc u22) ?_)
    refine Kq rfl (rd_seq rfl rfl rfl) (Kq rfl (Rq rfl rfl rfl) (Nn ?_))
    refine WX.joinP (()) (S2 rfl rfl) (by refine (Sc ?_ (S0 _)) <;> ((refine slot_b rfl ?_; (try dsimp only); (simp [*]; done)))) ?_ (by (exact fun _ h => h))
    (try dsimp only)
    done
  ·rintro _ hmeet; (try dsimp only at hmeet ⊢)
   refine Cd rfl (fun hc22 => ?_) (fun hc22 => ?_)
   ·(try simp only [sB] at hc22)
    have hr : hshS g l = ([], 11) := by rw [hshS, if_neg (fun h => h hf), if_pos hc22]
    refine Cs (Ka rfl (Ka rfl (Nt (Ce (Xb ?_)))))
    exact R2 rfl rfl rfl (by rw [hr]; rfl)
   ·(try simp only [sB] at hc22)
    have hp1 : 0 < val g.1 := pos_nn hf.1 (fun h => hc22 (Or.inl h))
    have hp2 : 0 < val g.2 := pos_nn hf.2 (fun h => hc22 (Or.inr h))
    refine Ck (Xa (Cs ?_))
    refine Kq rfl (lda rfl rfl .tc u24 rfl ?_) ?_
    ·kernel_rfl
    refine Ku rfl (Oc rfl rfl (Kv fun w hS => pgcof_c (g := g) (by exact hf.1) (by exact hf.2) (by exact hp1) (by exact hp2))) ?_
    refine Km rfl (Kq rfl (Re rfl rfl rfl) (Kq rfl (Re rfl rfl rfl) (Ka rfl (Ka rfl (Nt (Cq (Cs (Km rfl (Kq rfl (Rt rfl rfl) (Nt ?_))))))))))
    refine Cd rfl (fun hc29 => ?_) (fun hc29 => ?_)
    ·(try simp only [sB] at hc29)
     have hr : hshS g l = ([], 13) := by rw [hshS, if_neg (fun h => h hf), if_neg hc22, if_pos (by simpa using hc29)]
     refine Cs (Ka rfl (Ka rfl (Nt (Ce (Xb ?_)))))
     exact R2 rfl rfl rfl (by rw [hr]; rfl)
    ·(try simp only [sB] at hc29)
     have hd : (val g.1 - 1) % val g.2 = 0 := by simpa using hc29
     have hr := hsh_ok (l := l) hf hc22 hd
     refine Ck (Xa (Cq (Cs (Km rfl (Nt (Cb ?_))))))
     refine Lp (σ := Nat) [(1, _), (2, _), (6, _)] (fun gq => [(30, .int .i64 (gq : Int))]) (fun gq => gq ≤ 64 ∧ hshF g l (64 - gq) gq = hshF g l 64 0) (fun gq => 64 - gq) (0) (S3 rfl rfl rfl) (S1 rfl) (by (try dsimp only); exact ⟨Nat.zero_le _, rfl⟩) ?_
     rintro c hinv1; (try dsimp only at hinv1 ⊢)
     obtain ⟨hc64, hi⟩ := hinv1
     refine Cs (Kq rfl (rd_lss rfl rfl rfl) (Nt (Cq ?_)))
     refine Cd rfl (fun hc31 => ?_) (fun hc31 => ?_)
     ·(try simp only [sB] at hc31)
      have hcl : c < 64 := by omega
      have hd2 := dec_len20 1 c (by omega)
      refine Ck (Xa (Cq (Cb (Cs (Km rfl (Ka rfl (Nt (Cs (Km rfl ?_)))))))))
      refine Ku rfl (Oc rfl rfl (Kv fun w hS => itoa_c (n := c) (by omega) (by (exact tab_st hT hS)))) ?_
      refine Kq rfl (rd_cat rfl rfl rfl ?_) ?_
      ·((try simp only [List.length_append, List.length_cons, List.length_nil]); omega)
      refine Km rfl ?_
      refine Kq rfl (rd_cat rfl rfl rfl ?_) ?_
      ·((try simp only [List.length_append, List.length_cons, List.length_nil]); omega)
      refine Ns 37 rfl (v' := .string (S (Lib.decDigits c ++ 58 :: l))) (congrArg (fun l => Value.string (S l)) (by simp)) ?_
      refine Ku rfl (Oc rfl rfl (Kv fun w hS => sum_c (s := Lib.decDigits c ++ 58 :: l) (by simp only [List.length_append, List.length_cons]; omega))) ?_
      refine Ka rfl (Nt (Cq (Cb ?_)))
      refine Lp (σ := Bs) [(1, _), (2, _), (6, _), (30, _)] (fun gq => [(9, .string (S gq))]) (fun gq => trimB gq = trimB (hshL l c)) (fun gq => gq.length) (hshL l c) (S4 rfl rfl rfl rfl) (S1 rfl) (by (try dsimp only); all_goals rfl) ?_
      rintro t hinv2; (try dsimp only at hinv2 ⊢)
      refine Cq ?_
      refine WC.joinP (σ := Unit) [(1, _), (2, _), (6, _), (9, _), (30, _)] (fun gq => [(46, .bool (decide (0 < t.length ∧ (t.getD 0 default).toNat = 0)))]) (fun gq => True) (S5 rfl rfl rfl rfl rfl) ?_ ?_
      ·skip
       refine Cg (Km rfl (Kq rfl (rd_slen rfl rfl u9) (Kq rfl (rd_gtr rfl rfl rfl) (Km rfl ?_))))
       refine Nb 42 rfl (fun hg42 => ?_) (fun hg42 => ?_)
       ·(try simp only [sB] at hg42)
        refine Km rfl ?_
        refine Kq rfl (rd_sidxD rfl rfl rfl u9 ?_) ?_
        ·omega
        refine Kq rfl (rd_eql rfl rfl rfl) (Kq rfl (Rp rfl rfl rfl) (Nn ?_))
        refine WX.joinP (()) (S5 rfl rfl rfl rfl rfl) (by refine (Sc ?_ (S0 _)) <;> ((refine congrArg (fun b => some (Value.bool b)) ?_; simp [*]; omega))) ?_ (by (exact fun _ h => h))
        (try dsimp only)
        done
       ·(try simp only [sB] at hg42)
        refine Kt rfl (Kt rfl (Kt rfl (Kq rfl (Rq rfl rfl rfl) (Nn ?_))))
        refine WX.joinP (()) (S5 rfl rfl rfl rfl rfl) (by refine (Sc ?_ (S0 _)) <;> ((exact congrArg (fun b => some (Value.bool b)) (by symm; apply decide_eq_false; omega)))) ?_ (by (exact fun _ h => h))
        (try dsimp only)
        done
      ·rintro _ hmeet; (try dsimp only at hmeet ⊢)
       refine Cd rfl (fun hc46 => ?_) (fun hc46 => ?_)
       ·(try simp only [sB] at hc46)
        have hz := hc46.2
        have hz0 := hc46.1
        refine Ck (Xa (Cb (Cg (Km rfl ?_))))
        refine Kq rfl (rd_sfrom rfl rfl rfl u9 ?_) ?_
        ·(try simp only [List.length_append, List.length_cons, List.length_nil]); omega
        refine Ns 48 rfl (v' := .string (S (t.drop 1))) (congrArg (fun l => Value.string (S l)) (by rfl)) ?_
        refine Ka rfl (Nn (Xd ?_))
        refine Ly (t.drop 1) (by simp only [List.length_drop]; omega) (S4 rfl rfl rfl rfl) (by refine (Sc ?_ (S0 _)) <;> (rfl)) ?_ (by (exact fun _ h => h))
        (try dsimp only)
        rw [← trimB_zero (by omega) hz]; exact hinv2
       ·(try simp only [sB] at hc46)
        refine Cx (Xc (Xc (Xe ?_)))
        have htc : t = canon (val (hshL l c)) := by rw [← trim_canon, ← hinv2, trimB_stop (by by_cases h0 : t.length = 0; exact .inl h0; exact .inr (fun h => hc46 ⟨by omega, h⟩))]
        subst htc
        refine Xa (Cs (Km rfl (Km rfl (Kq rfl (Fa (q := 0) rfl rfl u24 rfl rfl) (Kq rfl (Ld rfl rfl .tc u22) ?_)))))
        refine Ku rfl (Oc rfl rfl (Kv fun w hS => (by have := mexp_c (w := w) (a := canon (val (hshL l c))) (x := canon (cofG g)) (m := g.1) hm8; rw [mexp_h hf.1 (fun h => hc22 (Or.inl h)) (cof_big hf.1)] at this; exact this))) ?_
        refine Km rfl (Kq rfl (Re rfl rfl rfl) (Kq rfl (Re rfl rfl rfl) (Ka rfl (Ka rfl (Nt ?_)))))
        refine WC.joinP (σ := Unit) [(1, _), (2, _), (6, _), (10, _), (30, _)] (fun gq => [(62, .bool (decide (canon (hshV g l c) ≠ [] ∧ canon (hshV g l c) ≠ [1])))]) (fun gq => True) (S5 rfl rfl rfl rfl rfl) ?_ ?_
        ·skip
         refine Cg (Km rfl (Kq rfl (rd_sne rfl rfl rfl) (Km rfl ?_)))
         refine Nb 59 rfl (fun hg59 => ?_) (fun hg59 => ?_)
         ·(try simp only [sB] at hg59)
          refine Km rfl (Kq rfl (rd_sne rfl rfl rfl) (Kq rfl (Rp rfl rfl rfl) (Nn ?_)))
          refine WX.joinP (()) (S5 rfl rfl rfl rfl rfl) (by refine (Sc ?_ (S0 _)) <;> ((refine slot_b rfl ?_; (try dsimp only); (simp [*]; done)))) ?_ (by (exact fun _ h => h))
          (try dsimp only)
          done
         ·(try simp only [sB] at hg59)
          refine Kt rfl (Kt rfl (Kq rfl (Rq rfl rfl rfl) (Nn ?_)))
          refine WX.joinP (()) (S5 rfl rfl rfl rfl rfl) (by refine (Sc ?_ (S0 _)) <;> ((refine slot_b rfl ?_; (try dsimp only); (simp [*]; done)))) ?_ (by (exact fun _ h => h))
          (try dsimp only)
          done
        ·rintro _ hmeet; (try dsimp only at hmeet ⊢)
         refine Cd rfl (fun hc62 => ?_) (fun hc62 => ?_)
         ·(try simp only [sB] at hc62)
          have hr2 : hshF g l 64 0 = some (hshV g l c) := by rw [← hi, hshF_yes hcl (hshV_if.1 hc62)]
          refine Cs (Km rfl (Ka rfl (Ka rfl (Nt (Ce (Xf (Xb (Xb (Xf (Xb ?_))))))))))
          exact R2 rfl rfl rfl (by rw [hr, hr2]; rfl)
         ·(try simp only [sB] at hc62)
          have hi2 : hshF g l (64 - (c + 1)) (c + 1) = hshF g l 64 0 := by rw [← hi, hshF_no hcl (fun h => hc62 (hshV_if.2 h))]
          refine Ck (Xd (Xa (Cg (Kq rfl (Rz rfl rfl rfl (by omega)) (Km rfl (Nn ?_))))))
          refine Ly (c + 1) (by (try dsimp only); omega) (S3 rfl rfl rfl) (by refine (Sc ?_ (S0 _)) <;> (rfl)) ?_ (by (exact fun _ h => h))
          (try dsimp only)
          exact ⟨by omega, hi2⟩
     ·(try simp only [sB] at hc31)
      refine Cx (Xc (Xc (Xe ?_)))
      obtain rfl : c = 64 := by omega
      have hr2 : hshF g l 64 0 = none := by rw [← hi]; rfl
      refine Xa (Cs (Ka rfl (Ka rfl (Nt (Ce ?_)))))
      exact R2 rfl rfl rfl (by rw [hr, hr2]; rfl)
end Go.Proofs.YtddoigmffkmpcaaGreatDoor
