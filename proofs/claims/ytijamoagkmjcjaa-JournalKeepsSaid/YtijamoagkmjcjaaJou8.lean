/-
  The specification of the journal: small functions and writing.
-/
import Derived.Test.YtijamoagkmjcjaaJou7
import Derived.Test.YtijamoagkmjcjaaRef2
import Derived.Test.YtijamoagkmjcjaaPlus
namespace Go.Proofs.Ytijamoagkmjcjaa
set_option linter.unusedSimpArgs false
set_option linter.unusedVariables false
set_option maxRecDepth 20000
set_option maxHeartbeats 600000
open Go.RowKit

theorem rsum_c {s : Bs} {w : World} (hs : s.length ≤ 1000000) :
    Calls Try.prog 30 #[.string (S s)] w fun e w' => e = .returned (.string (S (sha s))) ∧ Below w.heap.size w w' :=
  rsum_ok s hs w
theorem byte_quo (k j : Nat) : IntKind.u8.wrap (((k / j % 256 : Nat) : Int)) = ((UInt8.ofNat (k / j)).toNat : Int) := by
  rw [IntKind.wrap_u8, UInt8.toNat_ofNat']; omega
theorem rfour_c {k : Nat} {w : World} (hk : k ≤ 1000000000) :
    Calls Try.prog 47 #[.int .i64 (k : Int)] w fun e w' => e = .returned (.string (S (four k))) ∧ Below w.heap.size w w' := by
  refine enter (S := St (fun _ => True) w [] []) (L := [(0, .int .i64 (k : Int))]) Try.func47 rfl Try.ntmps47 rfl (args_cons rfl (args_nil _)) (St.start (fun _ _ => trivial) facts_nil) ?_
  refine WC.sr ?_
  refine WL.r rfl rfl rfl (rd_assign rfl rfl) ?_
  refine WL.nt ?_
  refine WC.sr ?_
  refine WL.r rfl rfl rfl (rd_move rfl rfl) ?_
  first
    | (refine WL.r rfl rfl rfl (rd_quo64nl rfl rfl rfl ?_) ?_; (focus (first | assumption | omega | (dsimp only; first | assumption | omega) | (simp <;> omega) | (simp; done))))
    | (refine WL.r rfl rfl rfl (rd_quo64 rfl rfl rfl ?_) ?_; (focus (first | assumption | omega | (dsimp only; first | assumption | omega) | (simp <;> omega) | (simp; done))))
  refine WL.r rfl rfl rfl (rd_conv rfl rfl Try.underlying3 Try.underlying5) ?_
  refine WL.set 5 rfl (v' := B (UInt8.ofNat (k / 16777216))) (congrArg (Value.int .u8) (byte_of _)) ?_
  refine WL.r rfl rfl rfl (rd_move rfl rfl) ?_
  first
    | (refine WL.r rfl rfl rfl (rd_quo64nl rfl rfl rfl ?_) ?_; (focus (first | assumption | omega | (dsimp only; first | assumption | omega) | (simp <;> omega) | (simp; done))))
    | (refine WL.r rfl rfl rfl (rd_quo64 rfl rfl rfl ?_) ?_; (focus (first | assumption | omega | (dsimp only; first | assumption | omega) | (simp <;> omega) | (simp; done))))
  first
    | (refine WL.r rfl rfl rfl (rd_rem64nl rfl rfl rfl ?_) ?_; (focus (first | assumption | omega | (dsimp only; first | assumption | omega) | (simp <;> omega) | (simp; done))))
    | (refine WL.r rfl rfl rfl (rd_rem64 rfl rfl rfl ?_) ?_; (focus (first | assumption | omega | (dsimp only; first | assumption | omega) | (simp <;> omega) | (simp; done))))
  refine WL.r rfl rfl rfl (rd_conv rfl rfl Try.underlying3 Try.underlying5) ?_
  refine WL.set 9 rfl (v' := B (UInt8.ofNat (k / 65536))) (congrArg (Value.int .u8) (byte_quo _ _)) ?_
  refine WL.r rfl rfl rfl (rd_move rfl rfl) ?_
  first
    | (refine WL.r rfl rfl rfl (rd_quo64nl rfl rfl rfl ?_) ?_; (focus (first | assumption | omega | (dsimp only; first | assumption | omega) | (simp <;> omega) | (simp; done))))
    | (refine WL.r rfl rfl rfl (rd_quo64 rfl rfl rfl ?_) ?_; (focus (first | assumption | omega | (dsimp only; first | assumption | omega) | (simp <;> omega) | (simp; done))))
  first
    | (refine WL.r rfl rfl rfl (rd_rem64nl rfl rfl rfl ?_) ?_; (focus (first | assumption | omega | (dsimp only; first | assumption | omega) | (simp <;> omega) | (simp; done))))
    | (refine WL.r rfl rfl rfl (rd_rem64 rfl rfl rfl ?_) ?_; (focus (first | assumption | omega | (dsimp only; first | assumption | omega) | (simp <;> omega) | (simp; done))))
  refine WL.r rfl rfl rfl (rd_conv rfl rfl Try.underlying3 Try.underlying5) ?_
  refine WL.set 13 rfl (v' := B (UInt8.ofNat (k / 256))) (congrArg (Value.int .u8) (byte_quo _ _)) ?_
  refine WL.r rfl rfl rfl (rd_move rfl rfl) ?_
  first
    | (refine WL.r rfl rfl rfl (rd_rem64nl rfl rfl rfl ?_) ?_; (focus (first | assumption | omega | (dsimp only; first | assumption | omega) | (simp <;> omega) | (simp; done))))
    | (refine WL.r rfl rfl rfl (rd_rem64 rfl rfl rfl ?_) ?_; (focus (first | assumption | omega | (dsimp only; first | assumption | omega) | (simp <;> omega) | (simp; done))))
  refine WL.r rfl rfl rfl (rd_conv rfl rfl Try.underlying3 Try.underlying5) ?_
  refine WL.set 16 rfl (v' := B (UInt8.ofNat k)) (congrArg (Value.int .u8) (by simpa using byte_quo k 1)) ?_
  refine WL.g rfl rfl rfl (og_bs1 rfl rfl Try.underlying70 (by kernel_rfl : _ = some (some (.int .u8 0), 1, 1)) rfl (by simp only [List.map]; rfl) rfl rfl ?_ (by decide)) ?_
  · simp [Value.cells, B]
  intro b17
  refine WL.r rfl rfl rfl (b2s (l := four k) rfl rfl .tc Try.underlying70 Try.underlying5 Try.underlying9 ?_ ?_) ?_
  · first | rfl | simp
  · first | rfl | simp
  refine WL.r rfl rfl rfl (rd_assign rfl rfl) ?_
  refine WL.nt ?_
  refine WC.ret ?_
  exact WX.retN rfl (.tmp rfl .nil) fun w' hS => ⟨by first | rfl | (simp [tup]; done) | (simp [*, tup]; done), hS.below⟩
theorem rnum_c {s : Bs} {w : World} (hs : 4 ≤ s.length) :
    Calls Try.prog 29 #[.string (S s)] w fun e w' => e = .returned (.int .i64 (num4 s : Int)) ∧ Below w.heap.size w w' := by
  have b0 := (s.getD 0 default).toNat_lt; have b1 := (s.getD 1 default).toNat_lt; have b2 := (s.getD 2 default).toNat_lt; have b3 := (s.getD 3 default).toNat_lt
  (try simp only [Nat.reducePow] at b0 b1 b2 b3)
  refine enter (S := St (fun _ => True) w [] []) (L := [(0, .string (S s))]) Try.func29 rfl Try.ntmps29 rfl (args_cons rfl (args_nil _)) (St.start (fun _ _ => trivial) facts_nil) ?_
  refine WC.sr ?_
  refine WL.r rfl rfl rfl (rd_assign rfl rfl) ?_
  refine WL.nt ?_
  refine WC.seq ?_
  refine WC.free0 [0, 1, 2, 3, 4, 5, 6, 7, 8, 9, 10, 11, 12, 13, 14, 15, 16, 17, 18] [] [0, 0, 0, 0, 0, 0, 0, 0, 0, 0, 0, 0, 0, 0, 0, 0, 0, 0, 0] (by kernel_rfl) (by kernel_rfl) rfl ?_
  refine WJ.r rfl rfl rfl rfl rfl (rd_move rfl rfl) ?_
  refine WJ.r rfl rfl rfl rfl rfl (rd_sidxD rfl rfl rfl Try.underlying9 ?_) ?_
  · first | omega | (refine ⟨?_, ?_⟩ <;> omega) | (refine ⟨?_, ?_⟩ <;> (simp only [Int.toNat_natCast, Int.reduceToNat]; omega)) | (simp; omega)
  refine WJ.r rfl rfl rfl rfl rfl (rd_convN rfl rfl Try.underlying5 Try.underlying3 ?_) ?_
  · first | exact wrap8_64 _ | (rw [IntKind.wrap_i64]; omega)
  first
    | (refine WJ.r rfl rfl rfl rfl rfl (rd_mul64nl rfl rfl rfl ?_) ?_; (focus (first | omega | (refine ⟨?_, ?_⟩ <;> omega) | (refine ⟨?_, ?_⟩ <;> (simp only [Int.toNat_natCast, Int.reduceToNat]; omega)) | (simp; omega))))
    | (refine WJ.r rfl rfl rfl rfl rfl (rd_mul64 rfl rfl rfl ?_) ?_; (focus (first | omega | (refine ⟨?_, ?_⟩ <;> omega) | (refine ⟨?_, ?_⟩ <;> (simp only [Int.toNat_natCast, Int.reduceToNat]; omega)) | (simp; omega))))
  refine WJ.r rfl rfl rfl rfl rfl (rd_move rfl rfl) ?_
  refine WJ.r rfl rfl rfl rfl rfl (rd_sidxD rfl rfl rfl Try.underlying9 ?_) ?_
  · first | omega | (refine ⟨?_, ?_⟩ <;> omega) | (refine ⟨?_, ?_⟩ <;> (simp only [Int.toNat_natCast, Int.reduceToNat]; omega)) | (simp; omega)
  refine WJ.r rfl rfl rfl rfl rfl (rd_convN rfl rfl Try.underlying5 Try.underlying3 ?_) ?_
  · first | exact wrap8_64 _ | (rw [IntKind.wrap_i64]; omega)
  first
    | (refine WJ.r rfl rfl rfl rfl rfl (rd_mul64nl rfl rfl rfl ?_) ?_; (focus (first | omega | (refine ⟨?_, ?_⟩ <;> omega) | (refine ⟨?_, ?_⟩ <;> (simp only [Int.toNat_natCast, Int.reduceToNat]; omega)) | (simp; omega))))
    | (refine WJ.r rfl rfl rfl rfl rfl (rd_mul64 rfl rfl rfl ?_) ?_; (focus (first | omega | (refine ⟨?_, ?_⟩ <;> omega) | (refine ⟨?_, ?_⟩ <;> (simp only [Int.toNat_natCast, Int.reduceToNat]; omega)) | (simp; omega))))
  first
    | (refine WJ.r rfl rfl rfl rfl rfl (rd_add64n rfl rfl rfl ?_) ?_; (focus (first | omega | (refine ⟨?_, ?_⟩ <;> omega) | (refine ⟨?_, ?_⟩ <;> (simp only [Int.toNat_natCast, Int.reduceToNat]; omega)) | (simp; omega))))
    | (refine WJ.r rfl rfl rfl rfl rfl (rd_add64 rfl rfl rfl ?_) ?_; (focus (first | omega | (refine ⟨?_, ?_⟩ <;> omega) | (refine ⟨?_, ?_⟩ <;> (simp only [Int.toNat_natCast, Int.reduceToNat]; omega)) | (simp; omega))))
  refine WJ.r rfl rfl rfl rfl rfl (rd_move rfl rfl) ?_
  refine WJ.r rfl rfl rfl rfl rfl (rd_sidxD rfl rfl rfl Try.underlying9 ?_) ?_
  · first | omega | (refine ⟨?_, ?_⟩ <;> omega) | (refine ⟨?_, ?_⟩ <;> (simp only [Int.toNat_natCast, Int.reduceToNat]; omega)) | (simp; omega)
  refine WJ.r rfl rfl rfl rfl rfl (rd_convN rfl rfl Try.underlying5 Try.underlying3 ?_) ?_
  · first | exact wrap8_64 _ | (rw [IntKind.wrap_i64]; omega)
  first
    | (refine WJ.r rfl rfl rfl rfl rfl (rd_mul64nl rfl rfl rfl ?_) ?_; (focus (first | omega | (refine ⟨?_, ?_⟩ <;> omega) | (refine ⟨?_, ?_⟩ <;> (simp only [Int.toNat_natCast, Int.reduceToNat]; omega)) | (simp; omega))))
    | (refine WJ.r rfl rfl rfl rfl rfl (rd_mul64 rfl rfl rfl ?_) ?_; (focus (first | omega | (refine ⟨?_, ?_⟩ <;> omega) | (refine ⟨?_, ?_⟩ <;> (simp only [Int.toNat_natCast, Int.reduceToNat]; omega)) | (simp; omega))))
  first
    | (refine WJ.r rfl rfl rfl rfl rfl (rd_add64n rfl rfl rfl ?_) ?_; (focus (first | omega | (refine ⟨?_, ?_⟩ <;> omega) | (refine ⟨?_, ?_⟩ <;> (simp only [Int.toNat_natCast, Int.reduceToNat]; omega)) | (simp; omega))))
    | (refine WJ.r rfl rfl rfl rfl rfl (rd_add64 rfl rfl rfl ?_) ?_; (focus (first | omega | (refine ⟨?_, ?_⟩ <;> omega) | (refine ⟨?_, ?_⟩ <;> (simp only [Int.toNat_natCast, Int.reduceToNat]; omega)) | (simp; omega))))
  refine WJ.r rfl rfl rfl rfl rfl (rd_move rfl rfl) ?_
  refine WJ.r rfl rfl rfl rfl rfl (rd_sidxD rfl rfl rfl Try.underlying9 ?_) ?_
  · first | omega | (refine ⟨?_, ?_⟩ <;> omega) | (refine ⟨?_, ?_⟩ <;> (simp only [Int.toNat_natCast, Int.reduceToNat]; omega)) | (simp; omega)
  refine WJ.r rfl rfl rfl rfl rfl (rd_convN rfl rfl Try.underlying5 Try.underlying3 ?_) ?_
  · first | exact wrap8_64 _ | (rw [IntKind.wrap_i64]; omega)
  first
    | (refine WJ.r rfl rfl rfl rfl rfl (rd_add64n rfl rfl rfl ?_) ?_; (focus (first | omega | (refine ⟨?_, ?_⟩ <;> omega) | (refine ⟨?_, ?_⟩ <;> (simp only [Int.toNat_natCast, Int.reduceToNat]; omega)) | (simp; omega))))
    | (refine WJ.r rfl rfl rfl rfl rfl (rd_add64 rfl rfl rfl ?_) ?_; (focus (first | omega | (refine ⟨?_, ?_⟩ <;> omega) | (refine ⟨?_, ?_⟩ <;> (simp only [Int.toNat_natCast, Int.reduceToNat]; omega)) | (simp; omega))))
  refine WJ.r rfl rfl rfl rfl rfl (rd_assign rfl rfl) ?_
  refine WJ.nil ?_
  refine WL.nt ?_
  refine WC.ret ?_
  exact WX.retN rfl (.tmp rfl .nil) fun w' hS => ⟨by first | rfl | (simp [tup]; done) | (simp [*, tup]; done), hS.below⟩
theorem rrec_c {k : UInt8} {c : Bs} {w : World} (hc : c.length ≤ 900000) :
    Calls Try.prog 35 #[.string (S [k]), .string (S c)] w fun e w' => e = .returned (.string (S (recJ k c))) ∧ Below w.heap.size w w' := by
  have hfl := four_len c.length
  refine enter (S := St (fun _ => True) w [] []) (L := [(0, .string (S [k])), (1, .string (S c))]) Try.func35 rfl Try.ntmps35 rfl (args_cons rfl (args_cons rfl (args_nil _))) (St.start (fun _ _ => trivial) facts_nil) ?_
  refine WC.sr ?_
  refine WL.r rfl rfl rfl (rd_assign rfl rfl) ?_
  refine WL.nt ?_
  refine WC.sr ?_
  refine WL.r rfl rfl rfl (rd_move rfl rfl) ?_
  refine WL.r rfl rfl rfl (rd_move rfl rfl) ?_
  refine WL.r rfl rfl rfl (rd_slen rfl rfl Try.underlying9) ?_
  refine WL.g rfl rfl rfl (og_call rfl rfl (by kernel_rfl) (keep_val fun w hS => rfour_c (by first | assumption | omega | (dsimp only; first | assumption | omega) | (simp <;> omega) | (simp; done)))) ?_
  intro _
  refine WL.r rfl rfl rfl (rd_cat rfl rfl rfl ?_) ?_
  · first | ((try simp only [List.length_append, List.length_cons, List.length_nil]); omega) | (simp <;> omega)
  refine WL.r rfl rfl rfl (rd_move rfl rfl) ?_
  refine WL.r rfl rfl rfl (rd_cat rfl rfl rfl ?_) ?_
  · first | ((try simp only [List.length_append, List.length_cons, List.length_nil]); omega) | (simp <;> omega)
  refine WL.r rfl rfl rfl (rd_assign rfl rfl) ?_
  refine WL.nt ?_
  refine WC.sr ?_
  refine WL.r rfl rfl rfl (rd_move rfl rfl) ?_
  refine WL.r rfl rfl rfl (rd_move rfl rfl) ?_
  refine WL.g rfl rfl rfl (og_call rfl rfl (by kernel_rfl) (keep_val fun w hS => rsum_c (by first | assumption | omega | (dsimp only; first | assumption | omega) | (simp <;> omega) | (simp; done)))) ?_
  intro _
  refine WL.r rfl rfl rfl (rd_cat rfl rfl rfl ?_) ?_
  · simp [sha_len]; omega
  refine WL.r rfl rfl rfl (rd_assign rfl rfl) ?_
  refine WL.nt ?_
  refine WC.ret ?_
  exact WX.retN rfl (.tmp rfl .nil) fun w' hS => ⟨by first | rfl | (simp [tup]; done) | (simp [*, tup]; done), hS.below⟩
theorem rlist_c {l : List Bs} {a : Option Addr} {cap : Nat} {w : World} {ok : Nat → Prop} (hF1 : (Fact.sl a (strs l)).holds ok w) (hll : l.length ≤ 100000) (hj : (listJ l).length ≤ 900000) :
    Calls Try.prog 39 #[.slice a l.length cap] w fun e w' => e = .returned (.string (S (listJ l))) ∧ Below w.heap.size w w' := by
  refine enter (S := St (fun _ => True) w [] [Fact.sl a (strs l)]) (L := [(0, .slice a l.length cap)]) Try.func39 rfl Try.ntmps39 rfl (args_cons rfl (args_nil _)) (St.start (fun _ _ => trivial) (facts_cons (fact_any hF1) facts_nil)) ?_
  refine WC.sr ?_
  refine WL.r rfl rfl rfl (rd_assign rfl rfl) ?_
  refine WL.nt ?_
  refine WC.sr ?_
  refine WL.r rfl rfl rfl (rd_assign rfl rfl) ?_
  refine WL.nt ?_
  refine WC.seq ?_
  refine WC.sr ?_
  refine WL.r rfl rfl rfl (rd_assign rfl rfl) ?_
  refine WL.nt ?_
  refine WC.block ?_
  refine WC.loopP (σ := Nat) [(0, _), (2, _)] (fun g => [(3, .string (S (listJ (l.take g)))), (4, .int .i64 (g : Int))]) (fun g => g ≤ l.length) (fun g => l.length - g) (0) (sub_cons rfl (sub_cons rfl (sub_nil _))) (sub_cons rfl (sub_cons rfl (sub_nil _))) (by (try dsimp only); exact Nat.zero_le _) ?_
  rintro k hinv1; (try dsimp only at hinv1 ⊢)
  obtain hk := hinv1
  refine WC.seq ?_
  refine WC.sr ?_
  refine WL.r rfl rfl rfl (rd_move rfl rfl) ?_
  refine WL.r rfl rfl rfl (rd_move rfl rfl) ?_
  refine WL.r rfl rfl rfl (rd_len rfl rfl Try.underlying22) ?_
  refine WL.r rfl rfl rfl (rd_lss rfl rfl rfl) ?_
  refine WL.nt ?_
  refine WC.cond rfl (fun hc8 => ?_) (fun hc8 => ?_)
  · (try simp only [decide_eq_true_eq, decide_eq_false_iff_not, Bool.not_eq_true', Bool.not_eq_false', Bool.not_not, Int.not_lt, Int.not_le] at hc8)
    have hk0 := listJ_take l k (by omega)
    have hk1 := congrArg List.length hk0
    have hk3 := listJ_take_le l (k + 1)
    rw [List.length_append, List.length_append, four_len] at hk1
    have hfl := four_len (l.getD k default).length
    refine WC.skip ?_
    refine WX.then_normal ?_
    refine WC.seq ?_
    refine WC.block ?_
    refine WC.free0 [1, 2, 3, 4, 5, 6, 0, 7, 8, 9, 10, 11, 12, 13] [] [0, 0, 0, 0, 0, 0, 1, 0, 0, 0, 0, 0, 0, 0] (by kernel_rfl) (by kernel_rfl) rfl ?_
    refine WJ.r rfl rfl rfl rfl rfl (rd_move rfl rfl) ?_
    refine WJ.r rfl rfl rfl rfl rfl (rd_move rfl rfl) ?_
    first
      | (refine WJ.r rfl rfl rfl rfl rfl (rd_ia rfl rfl rfl Try.underlying22 (by kernel_rfl : _ = some 1) ?_ (by (try simp only [Int.toNat_natCast, Nat.mul_one, Nat.zero_add, Nat.add_zero, Nat.zero_mul, Int.reduceToNat, Nat.reduceAdd, Nat.reduceMul, Nat.reduceSub, Nat.sub_zero]); rfl)) ?_; (focus (first | assumption | omega | (dsimp only; first | assumption | omega) | (simp <;> omega) | (simp; done))))
      | (refine WJ.r rfl rfl rfl rfl rfl (iaf rfl rfl rfl Try.underlying22 (by kernel_rfl : _ = some 1) ?_ ?_ (by (try simp only [Int.toNat_natCast, Nat.mul_one, Nat.zero_add, Nat.add_zero, Nat.zero_mul, Int.reduceToNat, Nat.reduceAdd, Nat.reduceMul, Nat.reduceSub, Nat.sub_zero]); rfl)) ?_; (focus (first | assumption | omega | (dsimp only; first | assumption | omega) | (simp <;> omega) | (simp; done))); (focus (first | (rw [List.length_map]; omega) | (rw [flatMap_len _ _ _ (fun _ => rfl)]; omega) | (simp <;> omega))))
      | (refine WJ.r rfl rfl rfl rfl rfl (iao rfl rfl rfl Try.underlying22 (by kernel_rfl : _ = some 1) ?_ ?_ (by (try simp only [Int.toNat_natCast, Nat.mul_one, Nat.zero_add, Nat.add_zero, Nat.zero_mul, Int.reduceToNat, Nat.reduceAdd, Nat.reduceMul, Nat.reduceSub, Nat.sub_zero]); rfl)) ?_; (focus (first | assumption | omega | (dsimp only; first | assumption | omega) | (simp <;> omega) | (simp; done))); (focus (first | (simp <;> omega) | (rw [List.length_append, List.length_map]; omega))))
    first
      | (refine WJ.r rfl rfl rfl rfl rfl (ld rfl rfl .tc Try.underlying9 rfl (by rfl)) ?_)
      | (refine WJ.r rfl rfl rfl rfl rfl (ldm rfl rfl Try.underlying9 rfl ?_) ?_; (focus (first | assumption | omega | (dsimp only; first | assumption | omega) | (simp <;> omega) | (simp; done))))
      | (refine WJ.r rfl rfl rfl rfl rfl (ldom rfl rfl Try.underlying9 rfl ?_) ?_; (focus (first | assumption | omega | (dsimp only; first | assumption | omega) | (simp <;> omega) | (simp; done))))
    refine WJ.r rfl rfl rfl rfl rfl (rd_slen rfl rfl Try.underlying9) ?_
    refine WJ.gv rfl rfl rfl rfl rfl (fun ext => og_call rfl rfl (by kernel_rfl) (keep_val fun w hS => rfour_c (by first | assumption | omega | (dsimp only; first | assumption | omega) | (simp <;> omega) | (simp; done)))) ?_
    refine WJ.r rfl rfl rfl rfl rfl (rd_move rfl rfl) ?_
    refine WJ.r rfl rfl rfl rfl rfl (rd_cat rfl rfl rfl ?_) ?_
    · first | ((try simp only [List.length_append, List.length_cons, List.length_nil]); omega) | (simp <;> omega)
    refine WJ.r rfl rfl rfl rfl rfl (rd_move rfl rfl) ?_
    refine WJ.r rfl rfl rfl rfl rfl (rd_move rfl rfl) ?_
    first
      | (refine WJ.r rfl rfl rfl rfl rfl (rd_ia rfl rfl rfl Try.underlying22 (by kernel_rfl : _ = some 1) ?_ (by (try simp only [Int.toNat_natCast, Nat.mul_one, Nat.zero_add, Nat.add_zero, Nat.zero_mul, Int.reduceToNat, Nat.reduceAdd, Nat.reduceMul, Nat.reduceSub, Nat.sub_zero]); rfl)) ?_; (focus (first | assumption | omega | (dsimp only; first | assumption | omega) | (simp <;> omega) | (simp; done))))
      | (refine WJ.r rfl rfl rfl rfl rfl (iaf rfl rfl rfl Try.underlying22 (by kernel_rfl : _ = some 1) ?_ ?_ (by (try simp only [Int.toNat_natCast, Nat.mul_one, Nat.zero_add, Nat.add_zero, Nat.zero_mul, Int.reduceToNat, Nat.reduceAdd, Nat.reduceMul, Nat.reduceSub, Nat.sub_zero]); rfl)) ?_; (focus (first | assumption | omega | (dsimp only; first | assumption | omega) | (simp <;> omega) | (simp; done))); (focus (first | (rw [List.length_map]; omega) | (rw [flatMap_len _ _ _ (fun _ => rfl)]; omega) | (simp <;> omega))))
      | (refine WJ.r rfl rfl rfl rfl rfl (iao rfl rfl rfl Try.underlying22 (by kernel_rfl : _ = some 1) ?_ ?_ (by (try simp only [Int.toNat_natCast, Nat.mul_one, Nat.zero_add, Nat.add_zero, Nat.zero_mul, Int.reduceToNat, Nat.reduceAdd, Nat.reduceMul, Nat.reduceSub, Nat.sub_zero]); rfl)) ?_; (focus (first | assumption | omega | (dsimp only; first | assumption | omega) | (simp <;> omega) | (simp; done))); (focus (first | (simp <;> omega) | (rw [List.length_append, List.length_map]; omega))))
    first
      | (refine WJ.r rfl rfl rfl rfl rfl (ld rfl rfl .tc Try.underlying9 rfl (by rfl)) ?_)
      | (refine WJ.r rfl rfl rfl rfl rfl (ldm rfl rfl Try.underlying9 rfl ?_) ?_; (focus (first | assumption | omega | (dsimp only; first | assumption | omega) | (simp <;> omega) | (simp; done))))
      | (refine WJ.r rfl rfl rfl rfl rfl (ldom rfl rfl Try.underlying9 rfl ?_) ?_; (focus (first | assumption | omega | (dsimp only; first | assumption | omega) | (simp <;> omega) | (simp; done))))
    refine WJ.r rfl rfl rfl rfl rfl (rd_cat rfl rfl rfl ?_) ?_
    · first | ((try simp only [List.length_append, List.length_cons, List.length_nil]); omega) | (simp <;> omega)
    refine WJ.set 23 rfl (v' := .string (S (listJ (l.take (k + 1))))) (congrArg (fun l => Value.string (S l)) (by rw [hk0, ← List.append_assoc])) ?_
    refine WJ.r rfl rfl rfl rfl rfl (rd_assign rfl rfl) ?_
    refine WJ.nil ?_
    refine WL.nil ?_
    refine WX.block_normal ?_
    refine WX.then_normal ?_
    refine WC.region ?_
    refine WL.r rfl rfl rfl (rd_move rfl rfl) ?_
    first
      | (refine WL.r rfl rfl rfl (rd_add64nl rfl rfl rfl ?_) ?_; (focus (first | assumption | omega | (dsimp only; first | assumption | omega) | (simp <;> omega) | (simp; done))))
      | (refine WL.r rfl rfl rfl (rd_add64 rfl rfl rfl ?_) ?_; (focus (first | assumption | omega | (dsimp only; first | assumption | omega) | (simp <;> omega) | (simp; done))))
    refine WL.r rfl rfl rfl (rd_assign rfl rfl) ?_
    refine WL.nil ?_
    refine WX.loopP (k + 1) (by (try dsimp only); omega) (sub_cons rfl (sub_cons rfl (sub_nil _))) (by refine (sub_cons ?_ (sub_cons ?_ (sub_nil _))) <;> (first | rfl | (simp only [List.length_append, List.length_cons, List.length_nil, Nat.zero_add]; rfl) | (dsimp only; first | rfl | (congr 2; omega) | (congr 3; omega)))) ?_ (by first | exact fun _ h => h | exact st_sub)
    (try dsimp only)
    first | assumption | omega | (dsimp only; first | assumption | omega) | (simp <;> omega) | (simp; done)
  · (try simp only [decide_eq_true_eq, decide_eq_false_iff_not, Bool.not_eq_true', Bool.not_eq_false', Bool.not_not, Int.not_lt, Int.not_le] at hc8)
    refine WC.exit ?_
    refine WX.then_exit ?_
    refine WX.then_exit ?_
    refine WX.block_exit ?_
    obtain rfl : k = l.length := by omega
    rw [List.take_of_length_le (Nat.le_refl _)]
    refine WX.then_normal ?_
    refine WC.sr ?_
    refine WL.r rfl rfl rfl (rd_move rfl rfl) ?_
    refine WL.r rfl rfl rfl (rd_assign rfl rfl) ?_
    refine WL.nt ?_
    refine WC.ret ?_
    exact WX.retN rfl (.tmp rfl .nil) fun w' hS => ⟨by first | rfl | (simp [tup]; done) | (simp [*, tup]; done), hS.below⟩
def runl (s : Bs) : List Bs × Bool := if (unl s).2 then ((unl s).1, true) else ([], false)
theorem runl_c {s : Bs} {w : World} (hs : s.length ≤ 1000000) :
    Calls Try.prog 31 #[.string (S s)] w fun e w' => ∃ g : Rs, e = .returned (.tuple #[g.val (runl s).1.length, .bool (runl s).2]) ∧ g.cap = (runl s).1.length + g.sp.length ∧ St (fun _ => True) w [g.ent (strs (runl s).1) 9] [] w' := by
  refine enter (S := St (fun _ => True) w [] []) (L := [(0, .string (S s))]) Try.func31 rfl Try.ntmps31 rfl (args_cons rfl (args_nil _)) (St.start (fun _ _ => trivial) facts_nil) ?_
  refine WC.sr ?_
  refine WL.r rfl rfl rfl (rd_assign rfl rfl) ?_
  refine WL.r rfl rfl rfl (rd_assign rfl rfl) ?_
  refine WL.nt ?_
  refine WC.sr ?_
  refine WL.r rfl rfl rfl (rd_assign rfl rfl) ?_
  refine WL.nt ?_
  refine WC.seq ?_
  refine WC.block ?_
  refine WC.loopO (σ := Bs × (List Bs) × Rs) [] (fun g => [(0, .string (S g.1)), (4, g.2.2.val g.2.1.length)]) (fun g => unlF (g.1.length + 1) g.1 g.2.1 = unl s ∧ g.2.1.length ≤ 4096 ∧ g.2.2.cap = g.2.1.length + g.2.2.sp.length ∧ g.1.length ≤ s.length) (fun g => g.1.length) (fun g => [g.2.2.ent (strs g.2.1) 9]) (fun g => []) (s, [], ⟨none, 0, []⟩) (sub_nil _) (sub_cons rfl (sub_cons rfl (sub_nil _))) (by (try dsimp only); exact ⟨rfl, Nat.zero_le _, rfl, Nat.le_refl _⟩) (by exact fun w h => h.nil _) ?_
  rintro ⟨t, acc, q⟩ hinv1; (try dsimp only at hinv1 ⊢)
  obtain ⟨hu, ha, hq, ht⟩ := hinv1
  refine WC.seq ?_
  refine WC.sr ?_
  refine WL.r rfl rfl rfl (rd_move rfl rfl) ?_
  refine WL.r rfl rfl rfl (rd_sne rfl rfl rfl) ?_
  refine WL.nt ?_
  refine WC.cond rfl (fun hc7 => ?_) (fun hc7 => ?_)
  · (try simp only [decide_eq_true_eq, decide_eq_false_iff_not, Bool.not_eq_true', Bool.not_eq_false', Bool.not_not, Int.not_lt, Int.not_le] at hc7)
    have hne : t ≠ [] := by simpa using hc7
    refine WC.skip ?_
    refine WX.then_normal ?_
    refine WC.block ?_
    refine WC.seq ?_
    refine WC.sr ?_
    refine WL.r rfl rfl rfl (rd_move rfl rfl) ?_
    refine WL.r rfl rfl rfl (rd_slen rfl rfl Try.underlying9) ?_
    refine WL.r rfl rfl rfl (rd_lss rfl rfl rfl) ?_
    refine WL.nt ?_
    refine WC.cond rfl (fun hc10 => ?_) (fun hc10 => ?_)
    · (try simp only [decide_eq_true_eq, decide_eq_false_iff_not, Bool.not_eq_true', Bool.not_eq_false', Bool.not_not, Int.not_lt, Int.not_le] at hc10)
      refine WC.sr ?_
      refine WL.r rfl rfl rfl (rd_assign rfl rfl) ?_
      refine WL.r rfl rfl rfl (rd_assign rfl rfl) ?_
      refine WL.nt ?_
      refine WC.ret ?_
      refine WX.then_ret ?_
      refine WX.block_ret ?_
      refine WX.then_ret ?_
      refine WX.block_ret ?_
      refine WX.then_ret ?_
      exact WX.retN rfl (.tmp rfl (.tmp rfl .nil)) fun w' hS => list_ret (acc := []) (q := ⟨none, 0, []⟩) (by rw [runl, ← hu, unlF_bad hne (by omega)]; rfl) rfl (hS.nil _)
    · (try simp only [decide_eq_true_eq, decide_eq_false_iff_not, Bool.not_eq_true', Bool.not_eq_false', Bool.not_not, Int.not_lt, Int.not_le] at hc10)
      refine WC.skip ?_
      refine WX.then_normal ?_
      refine WC.sr ?_
      refine WL.r rfl rfl rfl (rd_move rfl rfl) ?_
      refine WL.g rfl rfl rfl (og_call rfl rfl (by kernel_rfl) (keep_val fun w hS => rnum_c (by first | assumption | omega | (dsimp only; first | assumption | omega) | (simp <;> omega) | (simp; done)))) ?_
      intro _
      refine WL.r rfl rfl rfl (rd_assign rfl rfl) ?_
      refine WL.nt ?_
      refine WC.seq ?_
      refine WC.sr ?_
      refine WL.r rfl rfl rfl (rd_move rfl rfl) ?_
      refine WL.r rfl rfl rfl (rd_gtr rfl rfl rfl) ?_
      refine WL.r rfl rfl rfl (rd_move rfl rfl) ?_
      refine WL.bool 15 rfl (fun hg15 => ?_) (fun hg15 => ?_)
      · (try simp only [decide_eq_true_eq, decide_eq_false_iff_not, Bool.not_eq_true', Bool.not_eq_false', Bool.not_not, Int.not_lt, Int.not_le] at hg15)
        refine WL.s rfl rfl rfl ?_
        refine WL.s rfl rfl rfl ?_
        refine WL.s rfl rfl rfl ?_
        refine WL.s rfl rfl rfl ?_
        refine WL.s rfl rfl rfl ?_
        refine WL.r rfl rfl rfl (rd_pickt rfl rfl rfl) ?_
        refine WL.r rfl rfl rfl (rd_move rfl rfl) ?_
        refine WL.s rfl rfl rfl ?_
        refine WL.s rfl rfl rfl ?_
        refine WL.s rfl rfl rfl ?_
        refine WL.r rfl rfl rfl (rd_pickt rfl rfl rfl) ?_
        refine WL.nt ?_
        refine WC.cond rfl (fun _ => ?_) (fun h => by cases h)
        refine WC.sr ?_
        refine WL.r rfl rfl rfl (rd_assign rfl rfl) ?_
        refine WL.r rfl rfl rfl (rd_assign rfl rfl) ?_
        refine WL.nt ?_
        refine WC.ret ?_
        refine WX.then_ret ?_
        refine WX.block_ret ?_
        refine WX.then_ret ?_
        refine WX.block_ret ?_
        refine WX.then_ret ?_
        exact WX.retN rfl (.tmp rfl (.tmp rfl .nil)) fun w' hS => list_ret (acc := []) (q := ⟨none, 0, []⟩) (by rw [runl, ← hu, unlF_bad hne (by omega)]; rfl) rfl (hS.nil _)
      · (try simp only [decide_eq_true_eq, decide_eq_false_iff_not, Bool.not_eq_true', Bool.not_eq_false', Bool.not_not, Int.not_lt, Int.not_le] at hg15)
        refine WL.r rfl rfl rfl (rd_move rfl rfl) ?_
        refine WL.r rfl rfl rfl (rd_slen rfl rfl Try.underlying9) ?_
        refine WL.r rfl rfl rfl (rd_move rfl rfl) ?_
        first
          | (refine WL.r rfl rfl rfl (rd_add64ln rfl rfl rfl ?_) ?_; (focus (first | assumption | omega | (dsimp only; first | assumption | omega) | (simp <;> omega) | (simp; done))))
          | (refine WL.r rfl rfl rfl (rd_add64 rfl rfl rfl ?_) ?_; (focus (first | assumption | omega | (dsimp only; first | assumption | omega) | (simp <;> omega) | (simp; done))))
        refine WL.r rfl rfl rfl (rd_lss rfl rfl rfl) ?_
        refine WL.r rfl rfl rfl (rd_pickf rfl rfl rfl) ?_
        refine WL.r rfl rfl rfl (rd_move rfl rfl) ?_
        refine WL.bool 22 rfl (fun hg22 => ?_) (fun hg22 => ?_)
        · (try simp only [decide_eq_true_eq, decide_eq_false_iff_not, Bool.not_eq_true', Bool.not_eq_false', Bool.not_not, Int.not_lt, Int.not_le] at hg22)
          refine WL.s rfl rfl rfl ?_
          refine WL.s rfl rfl rfl ?_
          refine WL.s rfl rfl rfl ?_
          refine WL.r rfl rfl rfl (rd_pickt rfl rfl rfl) ?_
          refine WL.nt ?_
          refine WC.cond rfl (fun _ => ?_) (fun h => by cases h)
          refine WC.sr ?_
          refine WL.r rfl rfl rfl (rd_assign rfl rfl) ?_
          refine WL.r rfl rfl rfl (rd_assign rfl rfl) ?_
          refine WL.nt ?_
          refine WC.ret ?_
          refine WX.then_ret ?_
          refine WX.block_ret ?_
          refine WX.then_ret ?_
          refine WX.block_ret ?_
          refine WX.then_ret ?_
          exact WX.retN rfl (.tmp rfl (.tmp rfl .nil)) fun w' hS => list_ret (acc := []) (q := ⟨none, 0, []⟩) (by rw [runl, ← hu, unlF_bad hne (by omega)]; rfl) rfl (hS.nil _)
        · (try simp only [decide_eq_true_eq, decide_eq_false_iff_not, Bool.not_eq_true', Bool.not_eq_false', Bool.not_not, Int.not_lt, Int.not_le] at hg22)
          refine WL.r rfl rfl rfl (rd_move rfl rfl) ?_
          refine WL.r rfl rfl rfl (rd_len rfl rfl Try.underlying22) ?_
          refine WL.r rfl rfl rfl (rd_eql rfl rfl rfl) ?_
          refine WL.r rfl rfl rfl (rd_pickf rfl rfl rfl) ?_
          refine WL.nt ?_
          refine WC.cond rfl (fun hc26 => ?_) (fun hc26 => ?_)
          · (try simp only [decide_eq_true_eq, decide_eq_false_iff_not, Bool.not_eq_true', Bool.not_eq_false', Bool.not_not, Int.not_lt, Int.not_le] at hc26)
            refine WC.sr ?_
            refine WL.r rfl rfl rfl (rd_assign rfl rfl) ?_
            refine WL.r rfl rfl rfl (rd_assign rfl rfl) ?_
            refine WL.nt ?_
            refine WC.ret ?_
            refine WX.then_ret ?_
            refine WX.block_ret ?_
            refine WX.then_ret ?_
            refine WX.block_ret ?_
            refine WX.then_ret ?_
            exact WX.retN rfl (.tmp rfl (.tmp rfl .nil)) fun w' hS => list_ret (acc := []) (q := ⟨none, 0, []⟩) (by rw [runl, ← hu, unlF_bad hne (by omega)]; rfl) rfl (hS.nil _)
          · (try simp only [decide_eq_true_eq, decide_eq_false_iff_not, Bool.not_eq_true', Bool.not_eq_false', Bool.not_not, Int.not_lt, Int.not_le] at hc26)
            have hn := unlF_next hne (acc := acc) (by omega)
            refine WC.skip ?_
            refine WX.then_normal ?_
            refine WC.sr ?_
            refine WL.r rfl rfl rfl (rd_move rfl rfl) ?_
            refine WL.r rfl rfl rfl (rd_move rfl rfl) ?_
            refine WL.r rfl rfl rfl (rd_move rfl rfl) ?_
            first
              | (refine WL.r rfl rfl rfl (rd_add64ln rfl rfl rfl ?_) ?_; (focus (first | assumption | omega | (dsimp only; first | assumption | omega) | (simp <;> omega) | (simp; done))))
              | (refine WL.r rfl rfl rfl (rd_add64 rfl rfl rfl ?_) ?_; (focus (first | assumption | omega | (dsimp only; first | assumption | omega) | (simp <;> omega) | (simp; done))))
            refine WL.r rfl rfl rfl (rd_ss rfl rfl rfl rfl Try.underlying9 ?_) ?_
            · (try simp only [List.length_append, List.length_cons, List.length_nil]); omega
            refine WL.set 31 rfl (v' := .string (S ((t.drop 4).take (num4 t)))) (congrArg (fun l => Value.string (S l)) (by rw [Int.toNat_natCast]; show List.take (4 + num4 t - 4) (List.drop 4 t) = _; rw [Nat.add_sub_cancel_left])) ?_
            refine WL.g rfl rfl rfl (og_bs1 rfl rfl Try.underlying22 (by kernel_rfl : _ = some (some (.string (S [])), 1, 16)) rfl (by simp only [List.map]; rfl) rfl rfl ?_ (by decide)) ?_
            · simp [Value.cells]
            intro b32
            first
              | (refine WL.g rfl rfl rfl (appg rfl Try.underlying22 (by kernel_rfl : _ = some (some (.string (S [])), 1, 16)) rfl .tc rfl rfl (fun w hS => by first | exact hS.os | exact hS.sl | exact hS.oc) (by first | rfl | simp) ?_ ?_) ?_; (focus ((refine ⟨?_, ?_, ?_, ?_⟩ <;> (try simp) <;> omega))); (focus (first | (simp [Value.oneCell']; done) | (intro u hu; obtain ⟨_, _, rfl⟩ := List.mem_map.1 hu; rfl))))
              | (refine WL.g rfl rfl rfl (appf rfl Try.underlying22 (by kernel_rfl : _ = some (some (.string (S [])), 1, 16)) rfl .tc rfl rfl (fun w hS => by first | exact hS.os | exact hS.sl | exact hS.oc) (by first | rfl | simp) ?_ ?_) ?_; (focus ((refine ⟨?_, ?_, ?_, ?_⟩ <;> (try simp) <;> omega))); (focus (first | (simp [Value.oneCell']; done) | (intro u hu; obtain ⟨_, _, rfl⟩ := List.mem_map.1 hu; rfl))))
              | (refine WL.st (fun w h => h.nil 9) ?_; refine WL.g rfl rfl rfl (appg (ob := none) (xs := []) (sp := []) rfl Try.underlying22 (by kernel_rfl : _ = some (some (.string (S [])), 1, 16)) rfl .tc rfl rfl (fun w hS => by first | exact hS.os | exact hS.sl | exact hS.oc) (by first | rfl | simp) ?_ ?_) ?_; (focus ((refine ⟨?_, ?_, ?_, ?_⟩ <;> (try simp) <;> omega))); (focus (first | (simp [Value.oneCell']; done) | (intro u hu; obtain ⟨_, _, rfl⟩ := List.mem_map.1 hu; rfl))))
            rintro ⟨o33, c33, s33⟩
            refine WL.pu ?_
            intro hg33; (try dsimp only at hg33 ⊢)
            refine WL.r rfl rfl rfl (rd_assign rfl rfl) ?_
            refine WL.nt ?_
            refine WC.region ?_
            refine WL.r rfl rfl rfl (rd_move rfl rfl) ?_
            refine WL.r rfl rfl rfl (rd_move rfl rfl) ?_
            first
              | (refine WL.r rfl rfl rfl (rd_add64ln rfl rfl rfl ?_) ?_; (focus (first | assumption | omega | (dsimp only; first | assumption | omega) | (simp <;> omega) | (simp; done))))
              | (refine WL.r rfl rfl rfl (rd_add64 rfl rfl rfl ?_) ?_; (focus (first | assumption | omega | (dsimp only; first | assumption | omega) | (simp <;> omega) | (simp; done))))
            refine WL.r rfl rfl rfl (rd_sfrom rfl rfl rfl Try.underlying9 ?_) ?_
            · (try simp only [List.length_append, List.length_cons, List.length_nil]); omega
            refine WL.set 37 rfl (v' := .string (S (t.drop (4 + num4 t)))) (congrArg (fun l => Value.string (S l)) (by rw [Int.toNat_natCast])) ?_
            refine WL.r rfl rfl rfl (rd_assign rfl rfl) ?_
            refine WL.nil ?_
            refine WX.block_normal ?_
            refine WX.loopO ((t.drop (4 + num4 t), acc ++ [(t.drop 4).take (num4 t)], ⟨o33, c33, s33⟩)) (by simp; omega) (sub_nil _) (by refine (sub_cons ?_ (sub_cons ?_ (sub_nil _))) <;> (first | rfl | (simp only [List.length_append, List.length_cons, List.length_nil, Nat.zero_add]; rfl) | (dsimp only; first | rfl | (congr 2; omega) | (congr 3; omega)))) ?_ (by exact fun w h => by rw [strs_one]; exact st_sub _ h)
            (try dsimp only)
            exact ⟨hn.symm.trans hu, by simp; omega, by simpa using hg33, by simp; omega⟩
  · (try simp only [decide_eq_true_eq, decide_eq_false_iff_not, Bool.not_eq_true', Bool.not_eq_false', Bool.not_not, Int.not_lt, Int.not_le] at hc7)
    have h0 : t = [] := by simpa using hc7
    refine WC.exit ?_
    refine WX.then_exit ?_
    refine WX.then_exit ?_
    refine WX.block_exit ?_
    refine WX.then_normal ?_
    refine WC.sr ?_
    refine WL.r rfl rfl rfl (rd_move rfl rfl) ?_
    refine WL.r rfl rfl rfl (rd_assign rfl rfl) ?_
    refine WL.r rfl rfl rfl (rd_assign rfl rfl) ?_
    refine WL.nt ?_
    refine WC.ret ?_
    exact WX.retN rfl (.tmp rfl (.tmp rfl .nil)) fun w' hS => list_ret (by rw [runl, ← hu, h0, unlF_stop t acc]; rfl) hq hS
theorem rwrite_c {d : Dk} {r : Bs} {a : Option Addr} {cap : Nat} {w : World} {ok : Nat → Prop} (hF1 : (Fact.sl a (strs d.pend)).holds ok w) (hl : d.pend.length ≤ 100000) :
    Calls Try.prog 34 #[.agg #[.string (S d.safe), .slice a d.pend.length cap, .bool d.crash], .string (S r)] w fun e w' => ∃ g : Rs, e = .returned (.agg #[.string (S d.safe), g.val (d.pend.length + 1), .bool false]) ∧ g.cap = d.pend.length + 1 + g.sp.length ∧ St (fun _ => True) w [g.ent (strs (d.pend ++ [r])) 9] [] w' := by
  refine enter (S := St (fun _ => True) w [] [Fact.sl a (strs d.pend)]) (L := [(0, .agg #[.string (S d.safe), .slice a d.pend.length cap, .bool d.crash]), (1, .string (S r))]) Try.func34 rfl Try.ntmps34 rfl (args_cons rfl (args_cons rfl (args_nil _))) (St.start (fun _ _ => trivial) (facts_cons (fact_any hF1) facts_nil)) ?_
  refine WC.sr ?_
  refine WL.g rfl rfl rfl (og_box rfl rfl (by first | exact cells_agg _ | rfl)) ?_
  intro b2
  refine WL.g rfl rfl rfl (og_alloc rfl (v := (.agg #[.string (S []), .slice none 0 0, .bool false])) (cs := [.string (S []), .slice none 0 0, .bool false]) (by kernel_rfl) rfl) ?_
  intro b4
  refine WL.nt ?_
  refine WC.sr ?_
  first
    | (refine WL.r rfl rfl rfl (rd_fa (q := 0) rfl rfl Try.underlying24 rfl (by kernel_rfl) rfl) ?_)
    | (refine WL.r rfl rfl rfl (faf (q' := 0) rfl rfl Try.underlying24 rfl (by kernel_rfl) rfl) ?_)
  first
    | (refine WL.r rfl rfl rfl (ld rfl rfl .tc Try.underlying9 rfl (by rfl)) ?_)
    | (refine WL.r rfl rfl rfl (ldm rfl rfl Try.underlying9 rfl ?_) ?_; (focus (first | assumption | omega | (dsimp only; first | assumption | omega) | (simp <;> omega) | (simp; done))))
    | (refine WL.r rfl rfl rfl (ldom rfl rfl Try.underlying9 rfl ?_) ?_; (focus (first | assumption | omega | (dsimp only; first | assumption | omega) | (simp <;> omega) | (simp; done))))
  refine WL.r rfl rfl rfl (rd_bld [[.string (S [])], [.slice none 0 0], [.bool false]] rfl rfl (by simp only [bld, fldv, Nat.beq, Value.cells, cond_true, cond_false, List.nil_append, List.cons_append, List.append_nil]; rfl) (fun w => by kernel_rfl)) ?_
  refine WL.g rfl rfl rfl (og_alloc rfl (v := (.agg #[.string (S []), .slice none 0 0, .bool false])) (cs := [.string (S []), .slice none 0 0, .bool false]) (by kernel_rfl) rfl) ?_
  intro b5
  refine WL.g0 rfl rfl (sta rfl rfl rfl .tc ?_ ?_ ?_) ?_
  · kernel_rfl
  · simp [Value.oneCell']
  · first | rfl | simp
  intro _
  refine WL.nt ?_
  refine WC.sr ?_
  first
    | (refine WL.r rfl rfl rfl (rd_fa (q := 1) rfl rfl Try.underlying24 rfl (by kernel_rfl) rfl) ?_)
    | (refine WL.r rfl rfl rfl (faf (q' := 1) rfl rfl Try.underlying24 rfl (by kernel_rfl) rfl) ?_)
  first
    | (refine WL.r rfl rfl rfl (ld rfl rfl .tc Try.underlying22 rfl (by rfl)) ?_)
    | (refine WL.r rfl rfl rfl (ldm rfl rfl Try.underlying22 rfl ?_) ?_; (focus (first | assumption | omega | (dsimp only; first | assumption | omega) | (simp <;> omega) | (simp; done))))
    | (refine WL.r rfl rfl rfl (ldom rfl rfl Try.underlying22 rfl ?_) ?_; (focus (first | assumption | omega | (dsimp only; first | assumption | omega) | (simp <;> omega) | (simp; done))))
  first
    | (refine WL.r rfl rfl rfl (rd_fa (q := 1) rfl rfl Try.underlying24 rfl (by kernel_rfl) rfl) ?_)
    | (refine WL.r rfl rfl rfl (faf (q' := 1) rfl rfl Try.underlying24 rfl (by kernel_rfl) rfl) ?_)
  first
    | (refine WL.r rfl rfl rfl (ld rfl rfl .tc Try.underlying22 rfl (by rfl)) ?_)
    | (refine WL.r rfl rfl rfl (ldm rfl rfl Try.underlying22 rfl ?_) ?_; (focus (first | assumption | omega | (dsimp only; first | assumption | omega) | (simp <;> omega) | (simp; done))))
    | (refine WL.r rfl rfl rfl (ldom rfl rfl Try.underlying22 rfl ?_) ?_; (focus (first | assumption | omega | (dsimp only; first | assumption | omega) | (simp <;> omega) | (simp; done))))
  first
    | (refine WL.g rfl rfl rfl (appg rfl Try.underlying22 (by kernel_rfl : _ = some (some (.string (S [])), 1, 16)) rfl .tc rfl rfl (fun w hS => by first | exact hS.os | exact hS.sl | exact hS.oc) (by first | rfl | simp) ?_ ?_) ?_; (focus ((refine ⟨?_, ?_, ?_, ?_⟩ <;> (try simp) <;> omega))); (focus (first | (simp [Value.oneCell']; done) | (intro u hu; obtain ⟨_, _, rfl⟩ := List.mem_map.1 hu; rfl))))
    | (refine WL.g rfl rfl rfl (appf rfl Try.underlying22 (by kernel_rfl : _ = some (some (.string (S [])), 1, 16)) rfl .tc rfl rfl (fun w hS => by first | exact hS.os | exact hS.sl | exact hS.oc) (by first | rfl | simp) ?_ ?_) ?_; (focus ((refine ⟨?_, ?_, ?_, ?_⟩ <;> (try simp) <;> omega))); (focus (first | (simp [Value.oneCell']; done) | (intro u hu; obtain ⟨_, _, rfl⟩ := List.mem_map.1 hu; rfl))))
    | (refine WL.st (fun w h => h.nil 9) ?_; refine WL.g rfl rfl rfl (appg (ob := none) (xs := []) (sp := []) rfl Try.underlying22 (by kernel_rfl : _ = some (some (.string (S [])), 1, 16)) rfl .tc rfl rfl (fun w hS => by first | exact hS.os | exact hS.sl | exact hS.oc) (by first | rfl | simp) ?_ ?_) ?_; (focus ((refine ⟨?_, ?_, ?_, ?_⟩ <;> (try simp) <;> omega))); (focus (first | (simp [Value.oneCell']; done) | (intro u hu; obtain ⟨_, _, rfl⟩ := List.mem_map.1 hu; rfl))))
  rintro ⟨o13, c13, s13⟩
  refine WL.pu ?_
  intro hg13; (try dsimp only at hg13 ⊢)
  first
    | (refine WL.r rfl rfl rfl (rd_fa (q := 1) rfl rfl Try.underlying24 rfl (by kernel_rfl) rfl) ?_)
    | (refine WL.r rfl rfl rfl (faf (q' := 1) rfl rfl Try.underlying24 rfl (by kernel_rfl) rfl) ?_)
  refine WL.g0 rfl rfl (st rfl rfl rfl .tc (by kernel_rfl) rfl ?_ (by first | (simp only [List.set_cons_zero, List.set_cons_succ]; rfl) | rfl)) ?_
  · first | decide | (simp; done) | (simp <;> omega)
  intro _
  refine WL.nt ?_
  refine WC.sr ?_
  first
    | (refine WL.r rfl rfl rfl (rd_fa (q := 1) rfl rfl Try.underlying24 rfl (by kernel_rfl) rfl) ?_)
    | (refine WL.r rfl rfl rfl (faf (q' := 1) rfl rfl Try.underlying24 rfl (by kernel_rfl) rfl) ?_)
  first
    | (refine WL.r rfl rfl rfl (ld rfl rfl .tc Try.underlying22 rfl (by rfl)) ?_)
    | (refine WL.r rfl rfl rfl (ldm rfl rfl Try.underlying22 rfl ?_) ?_; (focus (first | assumption | omega | (dsimp only; first | assumption | omega) | (simp <;> omega) | (simp; done))))
    | (refine WL.r rfl rfl rfl (ldom rfl rfl Try.underlying22 rfl ?_) ?_; (focus (first | assumption | omega | (dsimp only; first | assumption | omega) | (simp <;> omega) | (simp; done))))
  refine WL.r rfl rfl rfl (rd_move rfl rfl) ?_
  refine WL.g rfl rfl rfl (og_bs1 rfl rfl Try.underlying22 (by kernel_rfl : _ = some (some (.string (S [])), 1, 16)) rfl (by simp only [List.map]; rfl) rfl rfl ?_ (by decide)) ?_
  · simp [Value.cells]
  intro b18
  first
    | (refine WL.g rfl rfl rfl (appg rfl Try.underlying22 (by kernel_rfl : _ = some (some (.string (S [])), 1, 16)) rfl .tc rfl rfl (fun w hS => by first | exact hS.os | exact hS.sl | exact hS.oc) (by first | rfl | simp) ?_ ?_) ?_; (focus ((refine ⟨?_, ?_, ?_, ?_⟩ <;> (try simp) <;> omega))); (focus (first | (simp [Value.oneCell']; done) | (intro u hu; obtain ⟨_, _, rfl⟩ := List.mem_map.1 hu; rfl))))
    | (refine WL.g rfl rfl rfl (appf rfl Try.underlying22 (by kernel_rfl : _ = some (some (.string (S [])), 1, 16)) rfl .tc rfl rfl (fun w hS => by first | exact hS.os | exact hS.sl | exact hS.oc) (by first | rfl | simp) ?_ ?_) ?_; (focus ((refine ⟨?_, ?_, ?_, ?_⟩ <;> (try simp) <;> omega))); (focus (first | (simp [Value.oneCell']; done) | (intro u hu; obtain ⟨_, _, rfl⟩ := List.mem_map.1 hu; rfl))))
    | (refine WL.st (fun w h => h.nil 9) ?_; refine WL.g rfl rfl rfl (appg (ob := none) (xs := []) (sp := []) rfl Try.underlying22 (by kernel_rfl : _ = some (some (.string (S [])), 1, 16)) rfl .tc rfl rfl (fun w hS => by first | exact hS.os | exact hS.sl | exact hS.oc) (by first | rfl | simp) ?_ ?_) ?_; (focus ((refine ⟨?_, ?_, ?_, ?_⟩ <;> (try simp) <;> omega))); (focus (first | (simp [Value.oneCell']; done) | (intro u hu; obtain ⟨_, _, rfl⟩ := List.mem_map.1 hu; rfl))))
  rintro ⟨o19, c19, s19⟩
  refine WL.pu ?_
  intro hg19; (try dsimp only at hg19 ⊢)
  first
    | (refine WL.r rfl rfl rfl (rd_fa (q := 1) rfl rfl Try.underlying24 rfl (by kernel_rfl) rfl) ?_)
    | (refine WL.r rfl rfl rfl (faf (q' := 1) rfl rfl Try.underlying24 rfl (by kernel_rfl) rfl) ?_)
  refine WL.g0 rfl rfl (st rfl rfl rfl .tc (by kernel_rfl) rfl ?_ (by first | (simp only [List.set_cons_zero, List.set_cons_succ]; rfl) | rfl)) ?_
  · first | decide | (simp; done) | (simp <;> omega)
  intro _
  refine WL.nt ?_
  refine WC.sr ?_
  refine WL.r rfl rfl rfl (lda rfl rfl .tc Try.underlying24 rfl ?_) ?_
  · kernel_rfl
  refine WL.g0 rfl rfl (sta rfl rfl rfl .tc ?_ ?_ ?_) ?_
  · kernel_rfl
  · simp [Value.oneCell']
  · first | rfl | simp
  intro _
  refine WL.nt ?_
  refine WC.ret ?_
  exact WX.retN rfl (.agg rfl .tc Try.underlying24 rfl (by kernel_rfl) .nil) fun w' hS => ⟨⟨o19, c19, s19⟩, by simp [Rs.val, tup], by simpa using hg19, (by rw [List.nil_append] at hS; rw [strs_one]; show St _ _ [⟨o19, strs d.pend ++ [.string (S r)] ++ s19, _⟩] _ _; exact st_sub _ hS)⟩
theorem rappend_c {d : Dk} {t : Bs} {a : Option Addr} {cap : Nat} {w : World} {ok : Nat → Prop} (hF1 : (Fact.sl a (strs d.pend)).holds ok w) (hl : d.pend.length ≤ 100000) :
    Calls Try.prog 20 #[.agg #[.string (S d.safe), .slice a d.pend.length cap, .bool d.crash], .string (S t)] w fun e w' => ∃ g : Rs, e = .returned (DE (appendD d t) (g.val (appendD d t).1.pend.length)) ∧ g.cap = (appendD d t).1.pend.length + g.sp.length ∧ St (fun _ => True) w [g.ent (strs (appendD d t).1.pend) 9] [] w' := by
  refine enter (S := St (fun _ => True) w [] [Fact.sl a (strs d.pend)]) (L := [(0, .agg #[.string (S d.safe), .slice a d.pend.length cap, .bool d.crash]), (1, .string (S t))]) Try.func20 rfl Try.ntmps20 rfl (args_cons rfl (args_cons rfl (args_nil _))) (St.start (fun _ _ => trivial) (facts_cons (fact_any hF1) facts_nil)) ?_
  refine WC.sr ?_
  refine WL.g rfl rfl rfl (og_box rfl rfl (by first | exact cells_agg _ | rfl)) ?_
  intro b2
  refine WL.g rfl rfl rfl (og_alloc rfl (v := (.agg #[.string (S []), .slice none 0 0, .bool false])) (cs := [.string (S []), .slice none 0 0, .bool false]) (by kernel_rfl) rfl) ?_
  intro b4
  refine WL.r rfl rfl rfl (rd_assign rfl rfl) ?_
  refine WL.nt ?_
  refine WC.seq ?_
  refine WC.sr ?_
  first
    | (refine WL.r rfl rfl rfl (rd_fa (q := 2) rfl rfl Try.underlying24 rfl (by kernel_rfl) rfl) ?_)
    | (refine WL.r rfl rfl rfl (faf (q' := 2) rfl rfl Try.underlying24 rfl (by kernel_rfl) rfl) ?_)
  first
    | (refine WL.r rfl rfl rfl (ld rfl rfl .tc Try.underlying4 rfl (by rfl)) ?_)
    | (refine WL.r rfl rfl rfl (ldm rfl rfl Try.underlying4 rfl ?_) ?_; (focus (first | assumption | omega | (dsimp only; first | assumption | omega) | (simp <;> omega) | (simp; done))))
    | (refine WL.r rfl rfl rfl (ldom rfl rfl Try.underlying4 rfl ?_) ?_; (focus (first | assumption | omega | (dsimp only; first | assumption | omega) | (simp <;> omega) | (simp; done))))
  refine WL.nt ?_
  refine WC.cond rfl (fun hc7 => ?_) (fun hc7 => ?_)
  · (try simp only [decide_eq_true_eq, decide_eq_false_iff_not, Bool.not_eq_true', Bool.not_eq_false', Bool.not_not, Int.not_lt, Int.not_le] at hc7)
    refine WC.sr ?_
    refine WL.r rfl rfl rfl (rd_bld [[.string (S [])], [.slice none 0 0], [.bool false]] rfl rfl (by simp only [bld, fldv, Nat.beq, Value.cells, cond_true, cond_false, List.nil_append, List.cons_append, List.append_nil]; rfl) (fun w => by kernel_rfl)) ?_
    refine WL.g0 rfl rfl (sta rfl rfl rfl .tc ?_ ?_ ?_) ?_
    · kernel_rfl
    · simp [Value.oneCell']
    · first | rfl | simp
    intro _
    refine WL.r rfl rfl rfl (rd_assign rfl rfl) ?_
    refine WL.nt ?_
    refine WC.ret ?_
    refine WX.then_ret ?_
    exact WX.retN rfl (.agg rfl .tc Try.underlying24 rfl (by kernel_rfl) (.tmp rfl .nil)) fun w' hS => zero_ret (by rw [appendD, if_pos hc7]) hS
  · (try simp only [decide_eq_true_eq, decide_eq_false_iff_not, Bool.not_eq_true', Bool.not_eq_false', Bool.not_not, Int.not_lt, Int.not_le] at hc7)
    refine WC.skip ?_
    refine WX.then_normal ?_
    refine WC.seq ?_
    refine WC.sr ?_
    refine WL.r rfl rfl rfl (rd_move rfl rfl) ?_
    refine WL.r rfl rfl rfl (rd_slen rfl rfl Try.underlying9) ?_
    refine WL.r rfl rfl rfl (rd_gtr rfl rfl rfl) ?_
    refine WL.nt ?_
    refine WC.cond rfl (fun hc11 => ?_) (fun hc11 => ?_)
    · (try simp only [decide_eq_true_eq, decide_eq_false_iff_not, Bool.not_eq_true', Bool.not_eq_false', Bool.not_not, Int.not_lt, Int.not_le] at hc11)
      refine WC.sr ?_
      refine WL.r rfl rfl rfl (rd_bld [[.string (S [])], [.slice none 0 0], [.bool false]] rfl rfl (by simp only [bld, fldv, Nat.beq, Value.cells, cond_true, cond_false, List.nil_append, List.cons_append, List.append_nil]; rfl) (fun w => by kernel_rfl)) ?_
      refine WL.g0 rfl rfl (sta rfl rfl rfl .tc ?_ ?_ ?_) ?_
      · kernel_rfl
      · simp [Value.oneCell']
      · first | rfl | simp
      intro _
      refine WL.r rfl rfl rfl (rd_assign rfl rfl) ?_
      refine WL.nt ?_
      refine WC.ret ?_
      refine WX.then_ret ?_
      exact WX.retN rfl (.agg rfl .tc Try.underlying24 rfl (by kernel_rfl) (.tmp rfl .nil)) fun w' hS => zero_ret (by rw [appendD, if_neg (by simp [hc7]), if_pos (by omega)]) hS
    · (try simp only [decide_eq_true_eq, decide_eq_false_iff_not, Bool.not_eq_true', Bool.not_eq_false', Bool.not_not, Int.not_lt, Int.not_le] at hc11)
      have hr : appendD d t = (⟨d.safe, d.pend ++ [recJ 69 t], false⟩, 0) := by rw [appendD, if_neg (by simp [hc7]), if_neg (by omega)]
      refine WC.skip ?_
      refine WX.then_normal ?_
      refine WC.seq ?_
      refine WC.free0 [1, 2, 0, 3] [4, 5] [0, 0, 1, 1, 2, 2] (by kernel_rfl) (by kernel_rfl) rfl ?_
      refine WJ.r rfl rfl rfl rfl rfl (rd_move rfl rfl) ?_
      refine WJ.gv rfl rfl rfl rfl rfl (fun ext => og_call rfl rfl (by kernel_rfl) (keep_val fun w hS => rrec_c (k := 69) (c := t) (by first | assumption | omega | (dsimp only; first | assumption | omega) | (simp <;> omega) | (simp; done)))) ?_
      refine WJ.r rfl rfl rfl rfl rfl (lda rfl rfl .tc Try.underlying24 rfl ?_) ?_
      · kernel_rfl
      refine WJ.g rfl rfl rfl rfl rfl (fun ext => og_call rfl rfl (by kernel_rfl) (keep_o1J fun w hS => rwrite_c (by first | exact hS.sl | exact hS.os | exact hS.oc | exact sl_takeM _ hS.sl | exact sl_dropM _ hS.sl | exact sl_cutM _ (by omega) hS.sl | exact sl_nil) (by first | assumption | omega | (dsimp only; first | assumption | omega) | (simp <;> omega) | (simp; done)))) ?_
      intro g16 hg16; (try dsimp only at hg16 ⊢)
      refine WJ.nil ?_
      refine WL.g0 rfl rfl (sta rfl rfl rfl .tc ?_ ?_ ?_) ?_
      · kernel_rfl
      · simp [Value.oneCell']
      · first | rfl | simp
      intro _
      refine WL.r rfl rfl rfl (rd_assign rfl rfl) ?_
      refine WL.nt ?_
      refine WC.ret ?_
      exact WX.retN rfl (.agg rfl .tc Try.underlying24 rfl (by kernel_rfl) (.tmp rfl .nil)) fun w' hS => ⟨g16, by rw [hr]; simp [DE, Dk.v, tup], by rw [hr]; simpa using hg16, by rw [hr]; exact st_sub _ hS⟩
theorem rsync_c {d : Dk} {a : Option Addr} {cap : Nat} {w : World} {ok : Nat → Prop} (hF1 : (Fact.sl a (strs d.pend)).holds ok w) (hl : d.pend.length ≤ 100000) (hcap : d.pend.length ≤ cap) (hf : d.pend.flatten.length ≤ 1000000) (hs : d.safe.length ≤ 1000000) :
    Calls Try.prog 23 #[.agg #[.string (S d.safe), .slice a d.pend.length cap, .bool d.crash]] w fun e w' => ∃ g : Rs, e = .returned (DE (syncD d) (g.val (syncD d).1.pend.length)) ∧ g.cap = (syncD d).1.pend.length + g.sp.length ∧ St (fun _ => True) w [g.ent (strs (syncD d).1.pend) 9] [] w' := by
  refine enter (S := St (fun _ => True) w [] [Fact.sl a (strs d.pend)]) (L := [(0, .agg #[.string (S d.safe), .slice a d.pend.length cap, .bool d.crash])]) Try.func23 rfl Try.ntmps23 rfl (args_cons rfl (args_nil _)) (St.start (fun _ _ => trivial) (facts_cons (fact_any hF1) facts_nil)) ?_
  refine WC.sr ?_
  refine WL.g rfl rfl rfl (og_box rfl rfl (by first | exact cells_agg _ | rfl)) ?_
  intro b1
  refine WL.g rfl rfl rfl (og_alloc rfl (v := (.agg #[.string (S []), .slice none 0 0, .bool false])) (cs := [.string (S []), .slice none 0 0, .bool false]) (by kernel_rfl) rfl) ?_
  intro b2
  refine WL.r rfl rfl rfl (rd_assign rfl rfl) ?_
  refine WL.nt ?_
  refine WC.seq ?_
  refine WC.sr ?_
  first
    | (refine WL.r rfl rfl rfl (rd_fa (q := 2) rfl rfl Try.underlying24 rfl (by kernel_rfl) rfl) ?_)
    | (refine WL.r rfl rfl rfl (faf (q' := 2) rfl rfl Try.underlying24 rfl (by kernel_rfl) rfl) ?_)
  first
    | (refine WL.r rfl rfl rfl (ld rfl rfl .tc Try.underlying4 rfl (by rfl)) ?_)
    | (refine WL.r rfl rfl rfl (ldm rfl rfl Try.underlying4 rfl ?_) ?_; (focus (first | assumption | omega | (dsimp only; first | assumption | omega) | (simp <;> omega) | (simp; done))))
    | (refine WL.r rfl rfl rfl (ldom rfl rfl Try.underlying4 rfl ?_) ?_; (focus (first | assumption | omega | (dsimp only; first | assumption | omega) | (simp <;> omega) | (simp; done))))
  refine WL.nt ?_
  refine WC.cond rfl (fun hc7 => ?_) (fun hc7 => ?_)
  · (try simp only [decide_eq_true_eq, decide_eq_false_iff_not, Bool.not_eq_true', Bool.not_eq_false', Bool.not_not, Int.not_lt, Int.not_le] at hc7)
    refine WC.sr ?_
    refine WL.r rfl rfl rfl (rd_bld [[.string (S [])], [.slice none 0 0], [.bool false]] rfl rfl (by simp only [bld, fldv, Nat.beq, Value.cells, cond_true, cond_false, List.nil_append, List.cons_append, List.append_nil]; rfl) (fun w => by kernel_rfl)) ?_
    refine WL.g0 rfl rfl (sta rfl rfl rfl .tc ?_ ?_ ?_) ?_
    · kernel_rfl
    · simp [Value.oneCell']
    · first | rfl | simp
    intro _
    refine WL.r rfl rfl rfl (rd_assign rfl rfl) ?_
    refine WL.nt ?_
    refine WC.ret ?_
    refine WX.then_ret ?_
    exact WX.retN rfl (.agg rfl .tc Try.underlying24 rfl (by kernel_rfl) (.tmp rfl .nil)) fun w' hS => zero_ret (by rw [syncD, if_pos hc7]) hS
  · (try simp only [decide_eq_true_eq, decide_eq_false_iff_not, Bool.not_eq_true', Bool.not_eq_false', Bool.not_not, Int.not_lt, Int.not_le] at hc7)
    have hr : syncD d = (⟨d.safe ++ d.pend.flatten, [], false⟩, 0) := by rw [syncD, if_neg (by simp [hc7])]
    refine WC.skip ?_
    refine WX.then_normal ?_
    refine WC.sr ?_
    first
      | (refine WL.r rfl rfl rfl (rd_fa (q := 0) rfl rfl Try.underlying24 rfl (by kernel_rfl) rfl) ?_)
      | (refine WL.r rfl rfl rfl (faf (q' := 0) rfl rfl Try.underlying24 rfl (by kernel_rfl) rfl) ?_)
    first
      | (refine WL.r rfl rfl rfl (ld rfl rfl .tc Try.underlying9 rfl (by rfl)) ?_)
      | (refine WL.r rfl rfl rfl (ldm rfl rfl Try.underlying9 rfl ?_) ?_; (focus (first | assumption | omega | (dsimp only; first | assumption | omega) | (simp <;> omega) | (simp; done))))
      | (refine WL.r rfl rfl rfl (ldom rfl rfl Try.underlying9 rfl ?_) ?_; (focus (first | assumption | omega | (dsimp only; first | assumption | omega) | (simp <;> omega) | (simp; done))))
    refine WL.r rfl rfl rfl (rd_bld [[.string (S [])], [.slice none 0 0], [.bool false]] rfl rfl (by simp only [bld, fldv, Nat.beq, Value.cells, cond_true, cond_false, List.nil_append, List.cons_append, List.append_nil]; rfl) (fun w => by kernel_rfl)) ?_
    refine WL.g rfl rfl rfl (og_alloc rfl (v := (.agg #[.string (S []), .slice none 0 0, .bool false])) (cs := [.string (S []), .slice none 0 0, .bool false]) (by kernel_rfl) rfl) ?_
    intro b4
    refine WL.g0 rfl rfl (sta rfl rfl rfl .tc ?_ ?_ ?_) ?_
    · kernel_rfl
    · simp [Value.oneCell']
    · first | rfl | simp
    intro _
    refine WL.nt ?_
    refine WC.seq ?_
    refine WC.sr ?_
    refine WL.r rfl rfl rfl (rd_assign rfl rfl) ?_
    refine WL.nt ?_
    refine WC.block ?_
    refine WC.loopO (σ := Nat) [(1, _), (2, _), (3, _), (4, _)] (fun g => [(5, .int .i64 (g : Int))]) (fun g => g ≤ d.pend.length) (fun g => d.pend.length - g) (fun g => [⟨some b4, [.string (S (d.safe ++ (d.pend.take g).flatten)), .slice none 0 0, .bool false], 24⟩, ⟨some b2, [.string (S []), .slice none 0 0, .bool false], 24⟩, ⟨some b1, [.string (S d.safe), .slice a d.pend.length cap, .bool d.crash], 24⟩]) (fun g => [Fact.sl a (strs d.pend)]) (0) (sub_cons rfl (sub_cons rfl (sub_cons rfl (sub_cons rfl (sub_nil _))))) (sub_cons rfl (sub_nil _)) (by (try dsimp only); exact Nat.zero_le _) (by exact fun w h => by rw [List.take_zero, List.flatten_nil, List.append_nil]; exact h) ?_
    rintro k hinv1; (try dsimp only at hinv1 ⊢)
    obtain hk := hinv1
    refine WC.seq ?_
    refine WC.sr ?_
    refine WL.r rfl rfl rfl (rd_move rfl rfl) ?_
    first
      | (refine WL.r rfl rfl rfl (rd_fa (q := 1) rfl rfl Try.underlying24 rfl (by kernel_rfl) rfl) ?_)
      | (refine WL.r rfl rfl rfl (faf (q' := 1) rfl rfl Try.underlying24 rfl (by kernel_rfl) rfl) ?_)
    first
      | (refine WL.r rfl rfl rfl (ld rfl rfl .tc Try.underlying22 rfl (by rfl)) ?_)
      | (refine WL.r rfl rfl rfl (ldm rfl rfl Try.underlying22 rfl ?_) ?_; (focus (first | assumption | omega | (dsimp only; first | assumption | omega) | (simp <;> omega) | (simp; done))))
      | (refine WL.r rfl rfl rfl (ldom rfl rfl Try.underlying22 rfl ?_) ?_; (focus (first | assumption | omega | (dsimp only; first | assumption | omega) | (simp <;> omega) | (simp; done))))
    refine WL.r rfl rfl rfl (rd_len rfl rfl Try.underlying22) ?_
    refine WL.r rfl rfl rfl (rd_lss rfl rfl rfl) ?_
    refine WL.nt ?_
    refine WC.cond rfl (fun hc16 => ?_) (fun hc16 => ?_)
    · (try simp only [decide_eq_true_eq, decide_eq_false_iff_not, Bool.not_eq_true', Bool.not_eq_false', Bool.not_not, Int.not_lt, Int.not_le] at hc16)
      have hk0 := take_flat d.pend k (by omega)
      have hk1 := congrArg List.length hk0
      have hk3 := flat_take_le d.pend (k + 1)
      rw [List.length_append] at hk1
      refine WC.skip ?_
      refine WX.then_normal ?_
      refine WC.seq ?_
      refine WC.block ?_
      refine WC.free0 [0, 1, 2, 3, 4, 5, 6, 7, 8] [9] [0, 0, 0, 0, 0, 0, 0, 0, 0, 2] (by kernel_rfl) (by kernel_rfl) rfl ?_
      first
        | (refine WJ.r rfl rfl rfl rfl rfl (rd_fa (q := 0) rfl rfl Try.underlying24 rfl (by kernel_rfl) rfl) ?_)
        | (refine WJ.r rfl rfl rfl rfl rfl (faf (q' := 0) rfl rfl Try.underlying24 rfl (by kernel_rfl) rfl) ?_)
      first
        | (refine WJ.r rfl rfl rfl rfl rfl (ld rfl rfl .tc Try.underlying9 rfl (by rfl)) ?_)
        | (refine WJ.r rfl rfl rfl rfl rfl (ldm rfl rfl Try.underlying9 rfl ?_) ?_; (focus (first | assumption | omega | (dsimp only; first | assumption | omega) | (simp <;> omega) | (simp; done))))
        | (refine WJ.r rfl rfl rfl rfl rfl (ldom rfl rfl Try.underlying9 rfl ?_) ?_; (focus (first | assumption | omega | (dsimp only; first | assumption | omega) | (simp <;> omega) | (simp; done))))
      first
        | (refine WJ.r rfl rfl rfl rfl rfl (rd_fa (q := 1) rfl rfl Try.underlying24 rfl (by kernel_rfl) rfl) ?_)
        | (refine WJ.r rfl rfl rfl rfl rfl (faf (q' := 1) rfl rfl Try.underlying24 rfl (by kernel_rfl) rfl) ?_)
      first
        | (refine WJ.r rfl rfl rfl rfl rfl (ld rfl rfl .tc Try.underlying22 rfl (by rfl)) ?_)
        | (refine WJ.r rfl rfl rfl rfl rfl (ldm rfl rfl Try.underlying22 rfl ?_) ?_; (focus (first | assumption | omega | (dsimp only; first | assumption | omega) | (simp <;> omega) | (simp; done))))
        | (refine WJ.r rfl rfl rfl rfl rfl (ldom rfl rfl Try.underlying22 rfl ?_) ?_; (focus (first | assumption | omega | (dsimp only; first | assumption | omega) | (simp <;> omega) | (simp; done))))
      refine WJ.r rfl rfl rfl rfl rfl (rd_move rfl rfl) ?_
      first
        | (refine WJ.r rfl rfl rfl rfl rfl (rd_ia rfl rfl rfl Try.underlying22 (by kernel_rfl : _ = some 1) ?_ (by (try simp only [Int.toNat_natCast, Nat.mul_one, Nat.zero_add, Nat.add_zero, Nat.zero_mul, Int.reduceToNat, Nat.reduceAdd, Nat.reduceMul, Nat.reduceSub, Nat.sub_zero]); rfl)) ?_; (focus (first | assumption | omega | (dsimp only; first | assumption | omega) | (simp <;> omega) | (simp; done))))
        | (refine WJ.r rfl rfl rfl rfl rfl (iaf rfl rfl rfl Try.underlying22 (by kernel_rfl : _ = some 1) ?_ ?_ (by (try simp only [Int.toNat_natCast, Nat.mul_one, Nat.zero_add, Nat.add_zero, Nat.zero_mul, Int.reduceToNat, Nat.reduceAdd, Nat.reduceMul, Nat.reduceSub, Nat.sub_zero]); rfl)) ?_; (focus (first | assumption | omega | (dsimp only; first | assumption | omega) | (simp <;> omega) | (simp; done))); (focus (first | (rw [List.length_map]; omega) | (rw [flatMap_len _ _ _ (fun _ => rfl)]; omega) | (simp <;> omega))))
        | (refine WJ.r rfl rfl rfl rfl rfl (iao rfl rfl rfl Try.underlying22 (by kernel_rfl : _ = some 1) ?_ ?_ (by (try simp only [Int.toNat_natCast, Nat.mul_one, Nat.zero_add, Nat.add_zero, Nat.zero_mul, Int.reduceToNat, Nat.reduceAdd, Nat.reduceMul, Nat.reduceSub, Nat.sub_zero]); rfl)) ?_; (focus (first | assumption | omega | (dsimp only; first | assumption | omega) | (simp <;> omega) | (simp; done))); (focus (first | (simp <;> omega) | (rw [List.length_append, List.length_map]; omega))))
      first
        | (refine WJ.r rfl rfl rfl rfl rfl (ld rfl rfl .tc Try.underlying9 rfl (by rfl)) ?_)
        | (refine WJ.r rfl rfl rfl rfl rfl (ldm rfl rfl Try.underlying9 rfl ?_) ?_; (focus (first | assumption | omega | (dsimp only; first | assumption | omega) | (simp <;> omega) | (simp; done))))
        | (refine WJ.r rfl rfl rfl rfl rfl (ldom rfl rfl Try.underlying9 rfl ?_) ?_; (focus (first | assumption | omega | (dsimp only; first | assumption | omega) | (simp <;> omega) | (simp; done))))
      refine WJ.r rfl rfl rfl rfl rfl (rd_cat rfl rfl rfl ?_) ?_
      · first | ((try simp only [List.length_append, List.length_cons, List.length_nil]); omega) | (simp <;> omega)
      first
        | (refine WJ.r rfl rfl rfl rfl rfl (rd_fa (q := 0) rfl rfl Try.underlying24 rfl (by kernel_rfl) rfl) ?_)
        | (refine WJ.r rfl rfl rfl rfl rfl (faf (q' := 0) rfl rfl Try.underlying24 rfl (by kernel_rfl) rfl) ?_)
      refine WJ.nil ?_
      refine WL.g0 rfl rfl (st rfl rfl rfl .tc (by kernel_rfl) rfl ?_ (by first | (simp only [List.set_cons_zero, List.set_cons_succ]; rfl) | rfl)) ?_
      · first | decide | (simp; done) | (simp <;> omega)
      intro _
      refine WL.nil ?_
      refine WX.block_normal ?_
      refine WX.then_normal ?_
      refine WC.region ?_
      refine WL.r rfl rfl rfl (rd_move rfl rfl) ?_
      first
        | (refine WL.r rfl rfl rfl (rd_add64nl rfl rfl rfl ?_) ?_; (focus (first | assumption | omega | (dsimp only; first | assumption | omega) | (simp <;> omega) | (simp; done))))
        | (refine WL.r rfl rfl rfl (rd_add64 rfl rfl rfl ?_) ?_; (focus (first | assumption | omega | (dsimp only; first | assumption | omega) | (simp <;> omega) | (simp; done))))
      refine WL.r rfl rfl rfl (rd_assign rfl rfl) ?_
      refine WL.nil ?_
      refine WX.loopO (k + 1) (by (try dsimp only); omega) (sub_cons rfl (sub_cons rfl (sub_cons rfl (sub_cons rfl (sub_nil _))))) (by refine (sub_cons ?_ (sub_nil _)) <;> (first | rfl | (simp only [List.length_append, List.length_cons, List.length_nil, Nat.zero_add]; rfl) | (dsimp only; first | rfl | (congr 2; omega) | (congr 3; omega)))) ?_ (by exact fun w h => by rw [hk0, ← List.append_assoc]; exact st_sub _ h)
      (try dsimp only)
      first | assumption | omega | (dsimp only; first | assumption | omega) | (simp <;> omega) | (simp; done)
    · (try simp only [decide_eq_true_eq, decide_eq_false_iff_not, Bool.not_eq_true', Bool.not_eq_false', Bool.not_not, Int.not_lt, Int.not_le] at hc16)
      refine WC.exit ?_
      refine WX.then_exit ?_
      refine WX.then_exit ?_
      refine WX.block_exit ?_
      obtain rfl : k = d.pend.length := by omega
      rw [List.take_of_length_le (Nat.le_refl _)]
      refine WX.then_normal ?_
      refine WC.sr ?_
      refine WL.r rfl rfl rfl (lda rfl rfl .tc Try.underlying24 rfl ?_) ?_
      · kernel_rfl
      refine WL.g0 rfl rfl (sta rfl rfl rfl .tc ?_ ?_ ?_) ?_
      · kernel_rfl
      · simp [Value.oneCell']
      · first | rfl | simp
      intro _
      refine WL.r rfl rfl rfl (rd_assign rfl rfl) ?_
      refine WL.nt ?_
      refine WC.ret ?_
      exact WX.retN rfl (.agg rfl .tc Try.underlying24 rfl (by kernel_rfl) (.tmp rfl .nil)) fun w' hS => some_ret hr hS
theorem rcrash_c {d : Dk} {kept bytes : Int} {a : Option Addr} {cap : Nat} {w : World} {ok : Nat → Prop} (hF1 : (Fact.sl a (strs d.pend)).holds ok w) (hl : d.pend.length ≤ 100000) (hcap : d.pend.length ≤ cap) (hf : d.pend.flatten.length ≤ 1000000) (hs : d.safe.length ≤ 1000000) :
    Calls Try.prog 12 #[.agg #[.string (S d.safe), .slice a d.pend.length cap, .bool d.crash], .int .i64 kept, .int .i64 bytes] w fun e w' => ∃ g : Rs, e = .returned (DE (crashD d kept bytes) (g.val (crashD d kept bytes).1.pend.length)) ∧ g.cap = (crashD d kept bytes).1.pend.length + g.sp.length ∧ St (fun _ => True) w [g.ent (strs (crashD d kept bytes).1.pend) 9] [] w' := by
  refine enter (S := St (fun _ => True) w [] [Fact.sl a (strs d.pend)]) (L := [(0, .agg #[.string (S d.safe), .slice a d.pend.length cap, .bool d.crash]), (1, .int .i64 kept), (2, .int .i64 bytes)]) Try.func12 rfl Try.ntmps12 rfl (args_cons rfl (args_cons rfl (args_cons rfl (args_nil _)))) (St.start (fun _ _ => trivial) (facts_cons (fact_any hF1) facts_nil)) ?_
  refine WC.sr ?_
  refine WL.g rfl rfl rfl (og_box rfl rfl (by first | exact cells_agg _ | rfl)) ?_
  intro b3
  refine WL.g rfl rfl rfl (og_alloc rfl (v := (.agg #[.string (S []), .slice none 0 0, .bool false])) (cs := [.string (S []), .slice none 0 0, .bool false]) (by kernel_rfl) rfl) ?_
  intro b6
  refine WL.r rfl rfl rfl (rd_assign rfl rfl) ?_
  refine WL.nt ?_
  refine WC.seq ?_
  refine WC.sr ?_
  first
    | (refine WL.r rfl rfl rfl (rd_fa (q := 2) rfl rfl Try.underlying24 rfl (by kernel_rfl) rfl) ?_)
    | (refine WL.r rfl rfl rfl (faf (q' := 2) rfl rfl Try.underlying24 rfl (by kernel_rfl) rfl) ?_)
  first
    | (refine WL.r rfl rfl rfl (ld rfl rfl .tc Try.underlying4 rfl (by rfl)) ?_)
    | (refine WL.r rfl rfl rfl (ldm rfl rfl Try.underlying4 rfl ?_) ?_; (focus (first | assumption | omega | (dsimp only; first | assumption | omega) | (simp <;> omega) | (simp; done))))
    | (refine WL.r rfl rfl rfl (ldom rfl rfl Try.underlying4 rfl ?_) ?_; (focus (first | assumption | omega | (dsimp only; first | assumption | omega) | (simp <;> omega) | (simp; done))))
  refine WL.nt ?_
  refine WC.cond rfl (fun hc12 => ?_) (fun hc12 => ?_)
  · (try simp only [decide_eq_true_eq, decide_eq_false_iff_not, Bool.not_eq_true', Bool.not_eq_false', Bool.not_not, Int.not_lt, Int.not_le] at hc12)
    refine WC.sr ?_
    refine WL.r rfl rfl rfl (rd_bld [[.string (S [])], [.slice none 0 0], [.bool false]] rfl rfl (by simp only [bld, fldv, Nat.beq, Value.cells, cond_true, cond_false, List.nil_append, List.cons_append, List.append_nil]; rfl) (fun w => by kernel_rfl)) ?_
    refine WL.g0 rfl rfl (sta rfl rfl rfl .tc ?_ ?_ ?_) ?_
    · kernel_rfl
    · simp [Value.oneCell']
    · first | rfl | simp
    intro _
    refine WL.r rfl rfl rfl (rd_assign rfl rfl) ?_
    refine WL.nt ?_
    refine WC.ret ?_
    refine WX.then_ret ?_
    exact WX.retN rfl (.agg rfl .tc Try.underlying24 rfl (by kernel_rfl) (.tmp rfl .nil)) fun w' hS => zero_ret (by rw [crashD, if_pos hc12]) hS
  · (try simp only [decide_eq_true_eq, decide_eq_false_iff_not, Bool.not_eq_true', Bool.not_eq_false', Bool.not_not, Int.not_lt, Int.not_le] at hc12)
    refine WC.skip ?_
    refine WX.then_normal ?_
    refine WC.seq ?_
    refine WC.sr ?_
    refine WL.r rfl rfl rfl (rd_move rfl rfl) ?_
    refine WL.r rfl rfl rfl (rd_lss rfl rfl rfl) ?_
    refine WL.r rfl rfl rfl (rd_move rfl rfl) ?_
    refine WL.bool 16 rfl (fun hg16 => ?_) (fun hg16 => ?_)
    · (try simp only [decide_eq_true_eq, decide_eq_false_iff_not, Bool.not_eq_true', Bool.not_eq_false', Bool.not_not, Int.not_lt, Int.not_le] at hg16)
      refine WL.s rfl rfl rfl ?_
      refine WL.s rfl rfl rfl ?_
      refine WL.s rfl rfl rfl ?_
      refine WL.s rfl rfl rfl ?_
      refine WL.s rfl rfl rfl ?_
      refine WL.r rfl rfl rfl (rd_pickt rfl rfl rfl) ?_
      refine WL.nt ?_
      refine WC.cond rfl (fun _ => ?_) (fun h => by cases h)
      refine WC.sr ?_
      refine WL.r rfl rfl rfl (rd_bld [[.string (S [])], [.slice none 0 0], [.bool false]] rfl rfl (by simp only [bld, fldv, Nat.beq, Value.cells, cond_true, cond_false, List.nil_append, List.cons_append, List.append_nil]; rfl) (fun w => by kernel_rfl)) ?_
      refine WL.g0 rfl rfl (sta rfl rfl rfl .tc ?_ ?_ ?_) ?_
      · kernel_rfl
      · simp [Value.oneCell']
      · first | rfl | simp
      intro _
      refine WL.r rfl rfl rfl (rd_assign rfl rfl) ?_
      refine WL.nt ?_
      refine WC.ret ?_
      refine WX.then_ret ?_
      exact WX.retN rfl (.agg rfl .tc Try.underlying24 rfl (by kernel_rfl) (.tmp rfl .nil)) fun w' hS => zero_ret (by rw [crashD, if_neg (by simp [hc12]), if_pos (by omega)]) hS
    · (try simp only [decide_eq_true_eq, decide_eq_false_iff_not, Bool.not_eq_true', Bool.not_eq_false', Bool.not_not, Int.not_lt, Int.not_le] at hg16)
      refine WL.r rfl rfl rfl (rd_move rfl rfl) ?_
      first
        | (refine WL.r rfl rfl rfl (rd_fa (q := 1) rfl rfl Try.underlying24 rfl (by kernel_rfl) rfl) ?_)
        | (refine WL.r rfl rfl rfl (faf (q' := 1) rfl rfl Try.underlying24 rfl (by kernel_rfl) rfl) ?_)
      first
        | (refine WL.r rfl rfl rfl (ld rfl rfl .tc Try.underlying22 rfl (by rfl)) ?_)
        | (refine WL.r rfl rfl rfl (ldm rfl rfl Try.underlying22 rfl ?_) ?_; (focus (first | assumption | omega | (dsimp only; first | assumption | omega) | (simp <;> omega) | (simp; done))))
        | (refine WL.r rfl rfl rfl (ldom rfl rfl Try.underlying22 rfl ?_) ?_; (focus (first | assumption | omega | (dsimp only; first | assumption | omega) | (simp <;> omega) | (simp; done))))
      refine WL.r rfl rfl rfl (rd_len rfl rfl Try.underlying22) ?_
      refine WL.r rfl rfl rfl (rd_gtr rfl rfl rfl) ?_
      refine WL.r rfl rfl rfl (rd_pickf rfl rfl rfl) ?_
      refine WL.nt ?_
      refine WC.cond rfl (fun hc22 => ?_) (fun hc22 => ?_)
      · (try simp only [decide_eq_true_eq, decide_eq_false_iff_not, Bool.not_eq_true', Bool.not_eq_false', Bool.not_not, Int.not_lt, Int.not_le] at hc22)
        refine WC.sr ?_
        refine WL.r rfl rfl rfl (rd_bld [[.string (S [])], [.slice none 0 0], [.bool false]] rfl rfl (by simp only [bld, fldv, Nat.beq, Value.cells, cond_true, cond_false, List.nil_append, List.cons_append, List.append_nil]; rfl) (fun w => by kernel_rfl)) ?_
        refine WL.g0 rfl rfl (sta rfl rfl rfl .tc ?_ ?_ ?_) ?_
        · kernel_rfl
        · simp [Value.oneCell']
        · first | rfl | simp
        intro _
        refine WL.r rfl rfl rfl (rd_assign rfl rfl) ?_
        refine WL.nt ?_
        refine WC.ret ?_
        refine WX.then_ret ?_
        exact WX.retN rfl (.agg rfl .tc Try.underlying24 rfl (by kernel_rfl) (.tmp rfl .nil)) fun w' hS => zero_ret (by rw [crashD, if_neg (by simp [hc12]), if_pos (by omega)]) hS
      · (try simp only [decide_eq_true_eq, decide_eq_false_iff_not, Bool.not_eq_true', Bool.not_eq_false', Bool.not_not, Int.not_lt, Int.not_le] at hc22)
        refine WC.skip ?_
        refine WX.then_normal ?_
        refine WC.sr ?_
        refine WL.r rfl rfl rfl (rd_assign rfl rfl) ?_
        refine WL.nt ?_
        refine WC.seq ?_
        refine WC.sr ?_
        refine WL.r rfl rfl rfl (rd_move rfl rfl) ?_
        first
          | (refine WL.r rfl rfl rfl (rd_fa (q := 1) rfl rfl Try.underlying24 rfl (by kernel_rfl) rfl) ?_)
          | (refine WL.r rfl rfl rfl (faf (q' := 1) rfl rfl Try.underlying24 rfl (by kernel_rfl) rfl) ?_)
        first
          | (refine WL.r rfl rfl rfl (ld rfl rfl .tc Try.underlying22 rfl (by rfl)) ?_)
          | (refine WL.r rfl rfl rfl (ldm rfl rfl Try.underlying22 rfl ?_) ?_; (focus (first | assumption | omega | (dsimp only; first | assumption | omega) | (simp <;> omega) | (simp; done))))
          | (refine WL.r rfl rfl rfl (ldom rfl rfl Try.underlying22 rfl ?_) ?_; (focus (first | assumption | omega | (dsimp only; first | assumption | omega) | (simp <;> omega) | (simp; done))))
        refine WL.r rfl rfl rfl (rd_len rfl rfl Try.underlying22) ?_
        refine WL.r rfl rfl rfl (rd_lss rfl rfl rfl) ?_
        refine WL.nt ?_
        refine WC.cond rfl (fun hc28 => ?_) (fun hc28 => ?_)
        · (try simp only [decide_eq_true_eq, decide_eq_false_iff_not, Bool.not_eq_true', Bool.not_eq_false', Bool.not_not, Int.not_lt, Int.not_le] at hc28)
          have hgd : d.pend.getD kept.toNat default = d.pend.getD kept.toNat default := rfl
          refine WC.region ?_
          first
            | (refine WL.r rfl rfl rfl (rd_fa (q := 1) rfl rfl Try.underlying24 rfl (by kernel_rfl) rfl) ?_)
            | (refine WL.r rfl rfl rfl (faf (q' := 1) rfl rfl Try.underlying24 rfl (by kernel_rfl) rfl) ?_)
          first
            | (refine WL.r rfl rfl rfl (ld rfl rfl .tc Try.underlying22 rfl (by rfl)) ?_)
            | (refine WL.r rfl rfl rfl (ldm rfl rfl Try.underlying22 rfl ?_) ?_; (focus (first | assumption | omega | (dsimp only; first | assumption | omega) | (simp <;> omega) | (simp; done))))
            | (refine WL.r rfl rfl rfl (ldom rfl rfl Try.underlying22 rfl ?_) ?_; (focus (first | assumption | omega | (dsimp only; first | assumption | omega) | (simp <;> omega) | (simp; done))))
          refine WL.r rfl rfl rfl (rd_move rfl rfl) ?_
          first
            | (refine WL.r rfl rfl rfl (rd_ia rfl rfl rfl Try.underlying22 (by kernel_rfl : _ = some 1) ?_ (by (try simp only [Int.toNat_natCast, Nat.mul_one, Nat.zero_add, Nat.add_zero, Nat.zero_mul, Int.reduceToNat, Nat.reduceAdd, Nat.reduceMul, Nat.reduceSub, Nat.sub_zero]); rfl)) ?_; (focus (first | assumption | omega | (dsimp only; first | assumption | omega) | (simp <;> omega) | (simp; done))))
            | (refine WL.r rfl rfl rfl (iaf rfl rfl rfl Try.underlying22 (by kernel_rfl : _ = some 1) ?_ ?_ (by (try simp only [Int.toNat_natCast, Nat.mul_one, Nat.zero_add, Nat.add_zero, Nat.zero_mul, Int.reduceToNat, Nat.reduceAdd, Nat.reduceMul, Nat.reduceSub, Nat.sub_zero]); rfl)) ?_; (focus (first | assumption | omega | (dsimp only; first | assumption | omega) | (simp <;> omega) | (simp; done))); (focus (first | (rw [List.length_map]; omega) | (rw [flatMap_len _ _ _ (fun _ => rfl)]; omega) | (simp <;> omega))))
            | (refine WL.r rfl rfl rfl (iao rfl rfl rfl Try.underlying22 (by kernel_rfl : _ = some 1) ?_ ?_ (by (try simp only [Int.toNat_natCast, Nat.mul_one, Nat.zero_add, Nat.add_zero, Nat.zero_mul, Int.reduceToNat, Nat.reduceAdd, Nat.reduceMul, Nat.reduceSub, Nat.sub_zero]); rfl)) ?_; (focus (first | assumption | omega | (dsimp only; first | assumption | omega) | (simp <;> omega) | (simp; done))); (focus (first | (simp <;> omega) | (rw [List.length_append, List.length_map]; omega))))
          first
            | (refine WL.r rfl rfl rfl (ld rfl rfl .tc Try.underlying9 rfl (by rfl)) ?_)
            | (refine WL.r rfl rfl rfl (ldm rfl rfl Try.underlying9 rfl ?_) ?_; (focus (first | assumption | omega | (dsimp only; first | assumption | omega) | (simp <;> omega) | (simp; done))))
            | (refine WL.r rfl rfl rfl (ldom rfl rfl Try.underlying9 rfl ?_) ?_; (focus (first | assumption | omega | (dsimp only; first | assumption | omega) | (simp <;> omega) | (simp; done))))
          refine WL.r rfl rfl rfl (rd_assign rfl rfl) ?_
          refine WL.nt ?_
          refine WC.seq ?_
          refine WC.sr ?_
          refine WL.r rfl rfl rfl (rd_move rfl rfl) ?_
          refine WL.r rfl rfl rfl (rd_lss rfl rfl rfl) ?_
          refine WL.r rfl rfl rfl (rd_move rfl rfl) ?_
          refine WL.bool 36 rfl (fun hg36 => ?_) (fun hg36 => ?_)
          · (try simp only [decide_eq_true_eq, decide_eq_false_iff_not, Bool.not_eq_true', Bool.not_eq_false', Bool.not_not, Int.not_lt, Int.not_le] at hg36)
            refine WL.s rfl rfl rfl ?_
            refine WL.s rfl rfl rfl ?_
            refine WL.s rfl rfl rfl ?_
            refine WL.s rfl rfl rfl ?_
            refine WL.r rfl rfl rfl (rd_pickt rfl rfl rfl) ?_
            refine WL.nt ?_
            refine WC.cond rfl (fun _ => ?_) (fun h => by cases h)
            refine WC.sr ?_
            refine WL.r rfl rfl rfl (rd_bld [[.string (S [])], [.slice none 0 0], [.bool false]] rfl rfl (by simp only [bld, fldv, Nat.beq, Value.cells, cond_true, cond_false, List.nil_append, List.cons_append, List.append_nil]; rfl) (fun w => by kernel_rfl)) ?_
            refine WL.g0 rfl rfl (sta rfl rfl rfl .tc ?_ ?_ ?_) ?_
            · kernel_rfl
            · simp [Value.oneCell']
            · first | rfl | simp
            intro _
            refine WL.r rfl rfl rfl (rd_assign rfl rfl) ?_
            refine WL.nt ?_
            refine WC.ret ?_
            refine WX.then_ret ?_
            exact WX.retN rfl (.agg rfl .tc Try.underlying24 rfl (by kernel_rfl) (.tmp rfl .nil)) fun w' hS => zero_ret (by rw [crashD, if_neg (by simp [hc12]), if_neg (by omega), hgd, if_pos (by omega)]) hS
          · (try simp only [decide_eq_true_eq, decide_eq_false_iff_not, Bool.not_eq_true', Bool.not_eq_false', Bool.not_not, Int.not_lt, Int.not_le] at hg36)
            refine WL.r rfl rfl rfl (rd_move rfl rfl) ?_
            refine WL.r rfl rfl rfl (rd_move rfl rfl) ?_
            refine WL.r rfl rfl rfl (rd_slen rfl rfl Try.underlying9) ?_
            refine WL.r rfl rfl rfl (rd_gtr rfl rfl rfl) ?_
            refine WL.r rfl rfl rfl (rd_pickf rfl rfl rfl) ?_
            refine WL.nt ?_
            refine WC.cond rfl (fun hc41 => ?_) (fun hc41 => ?_)
            · (try simp only [decide_eq_true_eq, decide_eq_false_iff_not, Bool.not_eq_true', Bool.not_eq_false', Bool.not_not, Int.not_lt, Int.not_le] at hc41)
              refine WC.sr ?_
              refine WL.r rfl rfl rfl (rd_bld [[.string (S [])], [.slice none 0 0], [.bool false]] rfl rfl (by simp only [bld, fldv, Nat.beq, Value.cells, cond_true, cond_false, List.nil_append, List.cons_append, List.append_nil]; rfl) (fun w => by kernel_rfl)) ?_
              refine WL.g0 rfl rfl (sta rfl rfl rfl .tc ?_ ?_ ?_) ?_
              · kernel_rfl
              · simp [Value.oneCell']
              · first | rfl | simp
              intro _
              refine WL.r rfl rfl rfl (rd_assign rfl rfl) ?_
              refine WL.nt ?_
              refine WC.ret ?_
              refine WX.then_ret ?_
              exact WX.retN rfl (.agg rfl .tc Try.underlying24 rfl (by kernel_rfl) (.tmp rfl .nil)) fun w' hS => zero_ret (by rw [crashD, if_neg (by simp [hc12]), if_neg (by omega), hgd, if_pos (by omega)]) hS
            · (try simp only [decide_eq_true_eq, decide_eq_false_iff_not, Bool.not_eq_true', Bool.not_eq_false', Bool.not_not, Int.not_lt, Int.not_le] at hc41)
              refine WC.skip ?_
              refine WX.then_normal ?_
              refine WC.sr ?_
              first
                | (refine WL.r rfl rfl rfl (rd_fa (q := 0) rfl rfl Try.underlying24 rfl (by kernel_rfl) rfl) ?_)
                | (refine WL.r rfl rfl rfl (faf (q' := 0) rfl rfl Try.underlying24 rfl (by kernel_rfl) rfl) ?_)
              first
                | (refine WL.r rfl rfl rfl (ld rfl rfl .tc Try.underlying9 rfl (by rfl)) ?_)
                | (refine WL.r rfl rfl rfl (ldm rfl rfl Try.underlying9 rfl ?_) ?_; (focus (first | assumption | omega | (dsimp only; first | assumption | omega) | (simp <;> omega) | (simp; done))))
                | (refine WL.r rfl rfl rfl (ldom rfl rfl Try.underlying9 rfl ?_) ?_; (focus (first | assumption | omega | (dsimp only; first | assumption | omega) | (simp <;> omega) | (simp; done))))
              refine WL.r rfl rfl rfl (rd_bld [[.string (S [])], [.slice none 0 0], [.bool false]] rfl rfl (by simp only [bld, fldv, Nat.beq, Value.cells, cond_true, cond_false, List.nil_append, List.cons_append, List.append_nil]; rfl) (fun w => by kernel_rfl)) ?_
              refine WL.g rfl rfl rfl (og_alloc rfl (v := (.agg #[.string (S []), .slice none 0 0, .bool false])) (cs := [.string (S []), .slice none 0 0, .bool false]) (by kernel_rfl) rfl) ?_
              intro b9
              refine WL.g0 rfl rfl (sta rfl rfl rfl .tc ?_ ?_ ?_) ?_
              · kernel_rfl
              · simp [Value.oneCell']
              · first | rfl | simp
              intro _
              refine WL.nt ?_
              refine WC.seq ?_
              refine WC.sr ?_
              refine WL.r rfl rfl rfl (rd_assign rfl rfl) ?_
              refine WL.nt ?_
              refine WC.block ?_
              refine WC.loopO (σ := Nat) [(1, _), (2, _), (3, _), (6, _), (7, _), (8, _), (9, _)] (fun g => [(10, .int .i64 (g : Int))]) (fun g => g ≤ kept.toNat) (fun g => kept.toNat - g) (fun g => [⟨some b9, [.string (S (d.safe ++ (d.pend.take g).flatten)), .slice none 0 0, .bool true], 24⟩, ⟨some b6, [.string (S []), .slice none 0 0, .bool false], 24⟩, ⟨some b3, [.string (S d.safe), .slice a d.pend.length cap, .bool d.crash], 24⟩]) (fun g => [Fact.sl a (strs d.pend)]) (0) (sub_cons rfl (sub_cons rfl (sub_cons rfl (sub_cons rfl (sub_cons rfl (sub_cons rfl (sub_cons rfl (sub_nil _)))))))) (sub_cons rfl (sub_nil _)) (by (try dsimp only); exact Nat.zero_le _) (by exact fun w h => by rw [List.take_zero, List.flatten_nil, List.append_nil]; exact h) ?_
              rintro k hinv1; (try dsimp only at hinv1 ⊢)
              obtain hk := hinv1
              refine WC.seq ?_
              refine WC.sr ?_
              refine WL.r rfl rfl rfl (rd_move rfl rfl) ?_
              refine WL.r rfl rfl rfl (rd_move rfl rfl) ?_
              refine WL.r rfl rfl rfl (rd_lss rfl rfl rfl) ?_
              refine WL.nt ?_
              refine WC.cond rfl (fun hc48 => ?_) (fun hc48 => ?_)
              · (try simp only [decide_eq_true_eq, decide_eq_false_iff_not, Bool.not_eq_true', Bool.not_eq_false', Bool.not_not, Int.not_lt, Int.not_le] at hc48)
                have hk0 := take_flat d.pend k (by omega)
                have hk1 := congrArg List.length hk0
                have hk3 := flat_take_le d.pend (k + 1)
                rw [List.length_append] at hk1
                refine WC.skip ?_
                refine WX.then_normal ?_
                refine WC.seq ?_
                refine WC.block ?_
                refine WC.free0 [0, 1, 2, 3, 4, 5, 6, 7, 8] [9] [0, 0, 0, 0, 0, 0, 0, 0, 0, 2] (by kernel_rfl) (by kernel_rfl) rfl ?_
                first
                  | (refine WJ.r rfl rfl rfl rfl rfl (rd_fa (q := 0) rfl rfl Try.underlying24 rfl (by kernel_rfl) rfl) ?_)
                  | (refine WJ.r rfl rfl rfl rfl rfl (faf (q' := 0) rfl rfl Try.underlying24 rfl (by kernel_rfl) rfl) ?_)
                first
                  | (refine WJ.r rfl rfl rfl rfl rfl (ld rfl rfl .tc Try.underlying9 rfl (by rfl)) ?_)
                  | (refine WJ.r rfl rfl rfl rfl rfl (ldm rfl rfl Try.underlying9 rfl ?_) ?_; (focus (first | assumption | omega | (dsimp only; first | assumption | omega) | (simp <;> omega) | (simp; done))))
                  | (refine WJ.r rfl rfl rfl rfl rfl (ldom rfl rfl Try.underlying9 rfl ?_) ?_; (focus (first | assumption | omega | (dsimp only; first | assumption | omega) | (simp <;> omega) | (simp; done))))
                first
                  | (refine WJ.r rfl rfl rfl rfl rfl (rd_fa (q := 1) rfl rfl Try.underlying24 rfl (by kernel_rfl) rfl) ?_)
                  | (refine WJ.r rfl rfl rfl rfl rfl (faf (q' := 1) rfl rfl Try.underlying24 rfl (by kernel_rfl) rfl) ?_)
                first
                  | (refine WJ.r rfl rfl rfl rfl rfl (ld rfl rfl .tc Try.underlying22 rfl (by rfl)) ?_)
                  | (refine WJ.r rfl rfl rfl rfl rfl (ldm rfl rfl Try.underlying22 rfl ?_) ?_; (focus (first | assumption | omega | (dsimp only; first | assumption | omega) | (simp <;> omega) | (simp; done))))
                  | (refine WJ.r rfl rfl rfl rfl rfl (ldom rfl rfl Try.underlying22 rfl ?_) ?_; (focus (first | assumption | omega | (dsimp only; first | assumption | omega) | (simp <;> omega) | (simp; done))))
                refine WJ.r rfl rfl rfl rfl rfl (rd_move rfl rfl) ?_
                first
                  | (refine WJ.r rfl rfl rfl rfl rfl (rd_ia rfl rfl rfl Try.underlying22 (by kernel_rfl : _ = some 1) ?_ (by (try simp only [Int.toNat_natCast, Nat.mul_one, Nat.zero_add, Nat.add_zero, Nat.zero_mul, Int.reduceToNat, Nat.reduceAdd, Nat.reduceMul, Nat.reduceSub, Nat.sub_zero]); rfl)) ?_; (focus (first | assumption | omega | (dsimp only; first | assumption | omega) | (simp <;> omega) | (simp; done))))
                  | (refine WJ.r rfl rfl rfl rfl rfl (iaf rfl rfl rfl Try.underlying22 (by kernel_rfl : _ = some 1) ?_ ?_ (by (try simp only [Int.toNat_natCast, Nat.mul_one, Nat.zero_add, Nat.add_zero, Nat.zero_mul, Int.reduceToNat, Nat.reduceAdd, Nat.reduceMul, Nat.reduceSub, Nat.sub_zero]); rfl)) ?_; (focus (first | assumption | omega | (dsimp only; first | assumption | omega) | (simp <;> omega) | (simp; done))); (focus (first | (rw [List.length_map]; omega) | (rw [flatMap_len _ _ _ (fun _ => rfl)]; omega) | (simp <;> omega))))
                  | (refine WJ.r rfl rfl rfl rfl rfl (iao rfl rfl rfl Try.underlying22 (by kernel_rfl : _ = some 1) ?_ ?_ (by (try simp only [Int.toNat_natCast, Nat.mul_one, Nat.zero_add, Nat.add_zero, Nat.zero_mul, Int.reduceToNat, Nat.reduceAdd, Nat.reduceMul, Nat.reduceSub, Nat.sub_zero]); rfl)) ?_; (focus (first | assumption | omega | (dsimp only; first | assumption | omega) | (simp <;> omega) | (simp; done))); (focus (first | (simp <;> omega) | (rw [List.length_append, List.length_map]; omega))))
                first
                  | (refine WJ.r rfl rfl rfl rfl rfl (ld rfl rfl .tc Try.underlying9 rfl (by rfl)) ?_)
                  | (refine WJ.r rfl rfl rfl rfl rfl (ldm rfl rfl Try.underlying9 rfl ?_) ?_; (focus (first | assumption | omega | (dsimp only; first | assumption | omega) | (simp <;> omega) | (simp; done))))
                  | (refine WJ.r rfl rfl rfl rfl rfl (ldom rfl rfl Try.underlying9 rfl ?_) ?_; (focus (first | assumption | omega | (dsimp only; first | assumption | omega) | (simp <;> omega) | (simp; done))))
                refine WJ.r rfl rfl rfl rfl rfl (rd_cat rfl rfl rfl ?_) ?_
                · first | ((try simp only [List.length_append, List.length_cons, List.length_nil]); omega) | (simp <;> omega)
                first
                  | (refine WJ.r rfl rfl rfl rfl rfl (rd_fa (q := 0) rfl rfl Try.underlying24 rfl (by kernel_rfl) rfl) ?_)
                  | (refine WJ.r rfl rfl rfl rfl rfl (faf (q' := 0) rfl rfl Try.underlying24 rfl (by kernel_rfl) rfl) ?_)
                refine WJ.nil ?_
                refine WL.g0 rfl rfl (st rfl rfl rfl .tc (by kernel_rfl) rfl ?_ (by first | (simp only [List.set_cons_zero, List.set_cons_succ]; rfl) | rfl)) ?_
                · first | decide | (simp; done) | (simp <;> omega)
                intro _
                refine WL.nil ?_
                refine WX.block_normal ?_
                refine WX.then_normal ?_
                refine WC.region ?_
                refine WL.r rfl rfl rfl (rd_move rfl rfl) ?_
                first
                  | (refine WL.r rfl rfl rfl (rd_add64nl rfl rfl rfl ?_) ?_; (focus (first | assumption | omega | (dsimp only; first | assumption | omega) | (simp <;> omega) | (simp; done))))
                  | (refine WL.r rfl rfl rfl (rd_add64 rfl rfl rfl ?_) ?_; (focus (first | assumption | omega | (dsimp only; first | assumption | omega) | (simp <;> omega) | (simp; done))))
                refine WL.r rfl rfl rfl (rd_assign rfl rfl) ?_
                refine WL.nil ?_
                refine WX.loopO (k + 1) (by (try dsimp only); omega) (sub_cons rfl (sub_cons rfl (sub_cons rfl (sub_cons rfl (sub_cons rfl (sub_cons rfl (sub_cons rfl (sub_nil _)))))))) (by refine (sub_cons ?_ (sub_nil _)) <;> (first | rfl | (simp only [List.length_append, List.length_cons, List.length_nil, Nat.zero_add]; rfl) | (dsimp only; first | rfl | (congr 2; omega) | (congr 3; omega)))) ?_ (by exact fun w h => by rw [hk0, ← List.append_assoc]; exact st_sub _ h)
                (try dsimp only)
                first | assumption | omega | (dsimp only; first | assumption | omega) | (simp <;> omega) | (simp; done)
              · (try simp only [decide_eq_true_eq, decide_eq_false_iff_not, Bool.not_eq_true', Bool.not_eq_false', Bool.not_not, Int.not_lt, Int.not_le] at hc48)
                refine WC.exit ?_
                refine WX.then_exit ?_
                refine WX.then_exit ?_
                refine WX.block_exit ?_
                obtain rfl : k = kept.toNat := by omega
                have hft := flat_take_le d.pend kept.toNat
                have hfg := getD_flat_le d.pend kept.toNat
                have hn0 : ([] : Bs).length = 0 := rfl
                refine WX.then_normal ?_
                refine WC.seq ?_
                refine WC.free0 [0, 1, 2, 3, 4, 5, 6] [7] [0, 0, 0, 0, 0, 0, 0, 2] (by kernel_rfl) (by kernel_rfl) rfl ?_
                first
                  | (refine WJ.r rfl rfl rfl rfl rfl (rd_fa (q := 0) rfl rfl Try.underlying24 rfl (by kernel_rfl) rfl) ?_)
                  | (refine WJ.r rfl rfl rfl rfl rfl (faf (q' := 0) rfl rfl Try.underlying24 rfl (by kernel_rfl) rfl) ?_)
                first
                  | (refine WJ.r rfl rfl rfl rfl rfl (ld rfl rfl .tc Try.underlying9 rfl (by rfl)) ?_)
                  | (refine WJ.r rfl rfl rfl rfl rfl (ldm rfl rfl Try.underlying9 rfl ?_) ?_; (focus (first | assumption | omega | (dsimp only; first | assumption | omega) | (simp <;> omega) | (simp; done))))
                  | (refine WJ.r rfl rfl rfl rfl rfl (ldom rfl rfl Try.underlying9 rfl ?_) ?_; (focus (first | assumption | omega | (dsimp only; first | assumption | omega) | (simp <;> omega) | (simp; done))))
                refine WJ.r rfl rfl rfl rfl rfl (rd_move rfl rfl) ?_
                refine WJ.r rfl rfl rfl rfl rfl (rd_move rfl rfl) ?_
                refine WJ.r rfl rfl rfl rfl rfl (rd_sto rfl rfl rfl Try.underlying9 ?_) ?_
                · (try simp only [List.length_append, List.length_cons, List.length_nil]); omega
                refine WJ.r rfl rfl rfl rfl rfl (rd_cat rfl rfl rfl ?_) ?_
                · simp only [List.length_append, List.length_take, List.length_nil]; omega
                first
                  | (refine WJ.r rfl rfl rfl rfl rfl (rd_fa (q := 0) rfl rfl Try.underlying24 rfl (by kernel_rfl) rfl) ?_)
                  | (refine WJ.r rfl rfl rfl rfl rfl (faf (q' := 0) rfl rfl Try.underlying24 rfl (by kernel_rfl) rfl) ?_)
                refine WJ.nil ?_
                refine WL.g0 rfl rfl (st rfl rfl rfl .tc (by kernel_rfl) rfl ?_ (by first | (simp only [List.set_cons_zero, List.set_cons_succ]; rfl) | rfl)) ?_
                · first | decide | (simp; done) | (simp <;> omega)
                intro _
                refine WL.nt ?_
                refine WC.sr ?_
                refine WL.r rfl rfl rfl (lda rfl rfl .tc Try.underlying24 rfl ?_) ?_
                · kernel_rfl
                refine WL.g0 rfl rfl (sta rfl rfl rfl .tc ?_ ?_ ?_) ?_
                · kernel_rfl
                · simp [Value.oneCell']
                · first | rfl | simp
                intro _
                refine WL.r rfl rfl rfl (rd_assign rfl rfl) ?_
                refine WL.nt ?_
                refine WC.ret ?_
                exact WX.retN rfl (.agg rfl .tc Try.underlying24 rfl (by kernel_rfl) (.tmp rfl .nil)) fun w' hS => some_ret (by rw [crashD, if_neg (by simp [hc12]), if_neg (by omega), hgd, if_neg (by omega)]) hS
        · (try simp only [decide_eq_true_eq, decide_eq_false_iff_not, Bool.not_eq_true', Bool.not_eq_false', Bool.not_not, Int.not_lt, Int.not_le] at hc28)
          have hgd : d.pend.getD kept.toNat default = [] := by rw [List.getD_eq_getElem?_getD, List.getElem?_eq_none (by omega)]; rfl
          refine WC.skip ?_
          refine WX.then_normal ?_
          refine WC.seq ?_
          refine WC.sr ?_
          refine WL.r rfl rfl rfl (rd_move rfl rfl) ?_
          refine WL.r rfl rfl rfl (rd_lss rfl rfl rfl) ?_
          refine WL.r rfl rfl rfl (rd_move rfl rfl) ?_
          refine WL.bool 36 rfl (fun hg36 => ?_) (fun hg36 => ?_)
          · (try simp only [decide_eq_true_eq, decide_eq_false_iff_not, Bool.not_eq_true', Bool.not_eq_false', Bool.not_not, Int.not_lt, Int.not_le] at hg36)
            refine WL.s rfl rfl rfl ?_
            refine WL.s rfl rfl rfl ?_
            refine WL.s rfl rfl rfl ?_
            refine WL.s rfl rfl rfl ?_
            refine WL.r rfl rfl rfl (rd_pickt rfl rfl rfl) ?_
            refine WL.nt ?_
            refine WC.cond rfl (fun _ => ?_) (fun h => by cases h)
            refine WC.sr ?_
            refine WL.r rfl rfl rfl (rd_bld [[.string (S [])], [.slice none 0 0], [.bool false]] rfl rfl (by simp only [bld, fldv, Nat.beq, Value.cells, cond_true, cond_false, List.nil_append, List.cons_append, List.append_nil]; rfl) (fun w => by kernel_rfl)) ?_
            refine WL.g0 rfl rfl (sta rfl rfl rfl .tc ?_ ?_ ?_) ?_
            · kernel_rfl
            · simp [Value.oneCell']
            · first | rfl | simp
            intro _
            refine WL.r rfl rfl rfl (rd_assign rfl rfl) ?_
            refine WL.nt ?_
            refine WC.ret ?_
            refine WX.then_ret ?_
            exact WX.retN rfl (.agg rfl .tc Try.underlying24 rfl (by kernel_rfl) (.tmp rfl .nil)) fun w' hS => zero_ret (by rw [crashD, if_neg (by simp [hc12]), if_neg (by omega), hgd, if_pos (by omega)]) hS
          · (try simp only [decide_eq_true_eq, decide_eq_false_iff_not, Bool.not_eq_true', Bool.not_eq_false', Bool.not_not, Int.not_lt, Int.not_le] at hg36)
            refine WL.r rfl rfl rfl (rd_move rfl rfl) ?_
            refine WL.r rfl rfl rfl (rd_move rfl rfl) ?_
            refine WL.r rfl rfl rfl (rd_slen rfl rfl Try.underlying9) ?_
            refine WL.r rfl rfl rfl (rd_gtr rfl rfl rfl) ?_
            refine WL.r rfl rfl rfl (rd_pickf rfl rfl rfl) ?_
            refine WL.nt ?_
            refine WC.cond rfl (fun hc41 => ?_) (fun hc41 => ?_)
            · (try simp only [decide_eq_true_eq, decide_eq_false_iff_not, Bool.not_eq_true', Bool.not_eq_false', Bool.not_not, Int.not_lt, Int.not_le] at hc41)
              refine WC.sr ?_
              refine WL.r rfl rfl rfl (rd_bld [[.string (S [])], [.slice none 0 0], [.bool false]] rfl rfl (by simp only [bld, fldv, Nat.beq, Value.cells, cond_true, cond_false, List.nil_append, List.cons_append, List.append_nil]; rfl) (fun w => by kernel_rfl)) ?_
              refine WL.g0 rfl rfl (sta rfl rfl rfl .tc ?_ ?_ ?_) ?_
              · kernel_rfl
              · simp [Value.oneCell']
              · first | rfl | simp
              intro _
              refine WL.r rfl rfl rfl (rd_assign rfl rfl) ?_
              refine WL.nt ?_
              refine WC.ret ?_
              refine WX.then_ret ?_
              exact WX.retN rfl (.agg rfl .tc Try.underlying24 rfl (by kernel_rfl) (.tmp rfl .nil)) fun w' hS => zero_ret (by rw [crashD, if_neg (by simp [hc12]), if_neg (by omega), hgd, if_pos (by omega)]) hS
            · (try simp only [decide_eq_true_eq, decide_eq_false_iff_not, Bool.not_eq_true', Bool.not_eq_false', Bool.not_not, Int.not_lt, Int.not_le] at hc41)
              refine WC.skip ?_
              refine WX.then_normal ?_
              refine WC.sr ?_
              first
                | (refine WL.r rfl rfl rfl (rd_fa (q := 0) rfl rfl Try.underlying24 rfl (by kernel_rfl) rfl) ?_)
                | (refine WL.r rfl rfl rfl (faf (q' := 0) rfl rfl Try.underlying24 rfl (by kernel_rfl) rfl) ?_)
              first
                | (refine WL.r rfl rfl rfl (ld rfl rfl .tc Try.underlying9 rfl (by rfl)) ?_)
                | (refine WL.r rfl rfl rfl (ldm rfl rfl Try.underlying9 rfl ?_) ?_; (focus (first | assumption | omega | (dsimp only; first | assumption | omega) | (simp <;> omega) | (simp; done))))
                | (refine WL.r rfl rfl rfl (ldom rfl rfl Try.underlying9 rfl ?_) ?_; (focus (first | assumption | omega | (dsimp only; first | assumption | omega) | (simp <;> omega) | (simp; done))))
              refine WL.r rfl rfl rfl (rd_bld [[.string (S [])], [.slice none 0 0], [.bool false]] rfl rfl (by simp only [bld, fldv, Nat.beq, Value.cells, cond_true, cond_false, List.nil_append, List.cons_append, List.append_nil]; rfl) (fun w => by kernel_rfl)) ?_
              refine WL.g rfl rfl rfl (og_alloc rfl (v := (.agg #[.string (S []), .slice none 0 0, .bool false])) (cs := [.string (S []), .slice none 0 0, .bool false]) (by kernel_rfl) rfl) ?_
              intro b9
              refine WL.g0 rfl rfl (sta rfl rfl rfl .tc ?_ ?_ ?_) ?_
              · kernel_rfl
              · simp [Value.oneCell']
              · first | rfl | simp
              intro _
              refine WL.nt ?_
              refine WC.seq ?_
              refine WC.sr ?_
              refine WL.r rfl rfl rfl (rd_assign rfl rfl) ?_
              refine WL.nt ?_
              refine WC.block ?_
              refine WC.loopO (σ := Nat) [(1, _), (2, _), (3, _), (6, _), (7, _), (8, _), (9, _)] (fun g => [(10, .int .i64 (g : Int))]) (fun g => g ≤ kept.toNat) (fun g => kept.toNat - g) (fun g => [⟨some b9, [.string (S (d.safe ++ (d.pend.take g).flatten)), .slice none 0 0, .bool true], 24⟩, ⟨some b6, [.string (S []), .slice none 0 0, .bool false], 24⟩, ⟨some b3, [.string (S d.safe), .slice a d.pend.length cap, .bool d.crash], 24⟩]) (fun g => [Fact.sl a (strs d.pend)]) (0) (sub_cons rfl (sub_cons rfl (sub_cons rfl (sub_cons rfl (sub_cons rfl (sub_cons rfl (sub_cons rfl (sub_nil _)))))))) (sub_cons rfl (sub_nil _)) (by (try dsimp only); exact Nat.zero_le _) (by exact fun w h => by rw [List.take_zero, List.flatten_nil, List.append_nil]; exact h) ?_
              rintro k hinv1; (try dsimp only at hinv1 ⊢)
              obtain hk := hinv1
              refine WC.seq ?_
              refine WC.sr ?_
              refine WL.r rfl rfl rfl (rd_move rfl rfl) ?_
              refine WL.r rfl rfl rfl (rd_move rfl rfl) ?_
              refine WL.r rfl rfl rfl (rd_lss rfl rfl rfl) ?_
              refine WL.nt ?_
              refine WC.cond rfl (fun hc48 => ?_) (fun hc48 => ?_)
              · (try simp only [decide_eq_true_eq, decide_eq_false_iff_not, Bool.not_eq_true', Bool.not_eq_false', Bool.not_not, Int.not_lt, Int.not_le] at hc48)
                have hk0 := take_flat d.pend k (by omega)
                have hk1 := congrArg List.length hk0
                have hk3 := flat_take_le d.pend (k + 1)
                rw [List.length_append] at hk1
                refine WC.skip ?_
                refine WX.then_normal ?_
                refine WC.seq ?_
                refine WC.block ?_
                refine WC.free0 [0, 1, 2, 3, 4, 5, 6, 7, 8] [9] [0, 0, 0, 0, 0, 0, 0, 0, 0, 2] (by kernel_rfl) (by kernel_rfl) rfl ?_
                first
                  | (refine WJ.r rfl rfl rfl rfl rfl (rd_fa (q := 0) rfl rfl Try.underlying24 rfl (by kernel_rfl) rfl) ?_)
                  | (refine WJ.r rfl rfl rfl rfl rfl (faf (q' := 0) rfl rfl Try.underlying24 rfl (by kernel_rfl) rfl) ?_)
                first
                  | (refine WJ.r rfl rfl rfl rfl rfl (ld rfl rfl .tc Try.underlying9 rfl (by rfl)) ?_)
                  | (refine WJ.r rfl rfl rfl rfl rfl (ldm rfl rfl Try.underlying9 rfl ?_) ?_; (focus (first | assumption | omega | (dsimp only; first | assumption | omega) | (simp <;> omega) | (simp; done))))
                  | (refine WJ.r rfl rfl rfl rfl rfl (ldom rfl rfl Try.underlying9 rfl ?_) ?_; (focus (first | assumption | omega | (dsimp only; first | assumption | omega) | (simp <;> omega) | (simp; done))))
                first
                  | (refine WJ.r rfl rfl rfl rfl rfl (rd_fa (q := 1) rfl rfl Try.underlying24 rfl (by kernel_rfl) rfl) ?_)
                  | (refine WJ.r rfl rfl rfl rfl rfl (faf (q' := 1) rfl rfl Try.underlying24 rfl (by kernel_rfl) rfl) ?_)
                first
                  | (refine WJ.r rfl rfl rfl rfl rfl (ld rfl rfl .tc Try.underlying22 rfl (by rfl)) ?_)
                  | (refine WJ.r rfl rfl rfl rfl rfl (ldm rfl rfl Try.underlying22 rfl ?_) ?_; (focus (first | assumption | omega | (dsimp only; first | assumption | omega) | (simp <;> omega) | (simp; done))))
                  | (refine WJ.r rfl rfl rfl rfl rfl (ldom rfl rfl Try.underlying22 rfl ?_) ?_; (focus (first | assumption | omega | (dsimp only; first | assumption | omega) | (simp <;> omega) | (simp; done))))
                refine WJ.r rfl rfl rfl rfl rfl (rd_move rfl rfl) ?_
                first
                  | (refine WJ.r rfl rfl rfl rfl rfl (rd_ia rfl rfl rfl Try.underlying22 (by kernel_rfl : _ = some 1) ?_ (by (try simp only [Int.toNat_natCast, Nat.mul_one, Nat.zero_add, Nat.add_zero, Nat.zero_mul, Int.reduceToNat, Nat.reduceAdd, Nat.reduceMul, Nat.reduceSub, Nat.sub_zero]); rfl)) ?_; (focus (first | assumption | omega | (dsimp only; first | assumption | omega) | (simp <;> omega) | (simp; done))))
                  | (refine WJ.r rfl rfl rfl rfl rfl (iaf rfl rfl rfl Try.underlying22 (by kernel_rfl : _ = some 1) ?_ ?_ (by (try simp only [Int.toNat_natCast, Nat.mul_one, Nat.zero_add, Nat.add_zero, Nat.zero_mul, Int.reduceToNat, Nat.reduceAdd, Nat.reduceMul, Nat.reduceSub, Nat.sub_zero]); rfl)) ?_; (focus (first | assumption | omega | (dsimp only; first | assumption | omega) | (simp <;> omega) | (simp; done))); (focus (first | (rw [List.length_map]; omega) | (rw [flatMap_len _ _ _ (fun _ => rfl)]; omega) | (simp <;> omega))))
                  | (refine WJ.r rfl rfl rfl rfl rfl (iao rfl rfl rfl Try.underlying22 (by kernel_rfl : _ = some 1) ?_ ?_ (by (try simp only [Int.toNat_natCast, Nat.mul_one, Nat.zero_add, Nat.add_zero, Nat.zero_mul, Int.reduceToNat, Nat.reduceAdd, Nat.reduceMul, Nat.reduceSub, Nat.sub_zero]); rfl)) ?_; (focus (first | assumption | omega | (dsimp only; first | assumption | omega) | (simp <;> omega) | (simp; done))); (focus (first | (simp <;> omega) | (rw [List.length_append, List.length_map]; omega))))
                first
                  | (refine WJ.r rfl rfl rfl rfl rfl (ld rfl rfl .tc Try.underlying9 rfl (by rfl)) ?_)
                  | (refine WJ.r rfl rfl rfl rfl rfl (ldm rfl rfl Try.underlying9 rfl ?_) ?_; (focus (first | assumption | omega | (dsimp only; first | assumption | omega) | (simp <;> omega) | (simp; done))))
                  | (refine WJ.r rfl rfl rfl rfl rfl (ldom rfl rfl Try.underlying9 rfl ?_) ?_; (focus (first | assumption | omega | (dsimp only; first | assumption | omega) | (simp <;> omega) | (simp; done))))
                refine WJ.r rfl rfl rfl rfl rfl (rd_cat rfl rfl rfl ?_) ?_
                · first | ((try simp only [List.length_append, List.length_cons, List.length_nil]); omega) | (simp <;> omega)
                first
                  | (refine WJ.r rfl rfl rfl rfl rfl (rd_fa (q := 0) rfl rfl Try.underlying24 rfl (by kernel_rfl) rfl) ?_)
                  | (refine WJ.r rfl rfl rfl rfl rfl (faf (q' := 0) rfl rfl Try.underlying24 rfl (by kernel_rfl) rfl) ?_)
                refine WJ.nil ?_
                refine WL.g0 rfl rfl (st rfl rfl rfl .tc (by kernel_rfl) rfl ?_ (by first | (simp only [List.set_cons_zero, List.set_cons_succ]; rfl) | rfl)) ?_
                · first | decide | (simp; done) | (simp <;> omega)
                intro _
                refine WL.nil ?_
                refine WX.block_normal ?_
                refine WX.then_normal ?_
                refine WC.region ?_
                refine WL.r rfl rfl rfl (rd_move rfl rfl) ?_
                first
                  | (refine WL.r rfl rfl rfl (rd_add64nl rfl rfl rfl ?_) ?_; (focus (first | assumption | omega | (dsimp only; first | assumption | omega) | (simp <;> omega) | (simp; done))))
                  | (refine WL.r rfl rfl rfl (rd_add64 rfl rfl rfl ?_) ?_; (focus (first | assumption | omega | (dsimp only; first | assumption | omega) | (simp <;> omega) | (simp; done))))
                refine WL.r rfl rfl rfl (rd_assign rfl rfl) ?_
                refine WL.nil ?_
                refine WX.loopO (k + 1) (by (try dsimp only); omega) (sub_cons rfl (sub_cons rfl (sub_cons rfl (sub_cons rfl (sub_cons rfl (sub_cons rfl (sub_cons rfl (sub_nil _)))))))) (by refine (sub_cons ?_ (sub_nil _)) <;> (first | rfl | (simp only [List.length_append, List.length_cons, List.length_nil, Nat.zero_add]; rfl) | (dsimp only; first | rfl | (congr 2; omega) | (congr 3; omega)))) ?_ (by exact fun w h => by rw [hk0, ← List.append_assoc]; exact st_sub _ h)
                (try dsimp only)
                first | assumption | omega | (dsimp only; first | assumption | omega) | (simp <;> omega) | (simp; done)
              · (try simp only [decide_eq_true_eq, decide_eq_false_iff_not, Bool.not_eq_true', Bool.not_eq_false', Bool.not_not, Int.not_lt, Int.not_le] at hc48)
                refine WC.exit ?_
                refine WX.then_exit ?_
                refine WX.then_exit ?_
                refine WX.block_exit ?_
                obtain rfl : k = kept.toNat := by omega
                have hft := flat_take_le d.pend kept.toNat
                have hfg := getD_flat_le d.pend kept.toNat
                have hn0 : ([] : Bs).length = 0 := rfl
                refine WX.then_normal ?_
                refine WC.seq ?_
                refine WC.free0 [0, 1, 2, 3, 4, 5, 6] [7] [0, 0, 0, 0, 0, 0, 0, 2] (by kernel_rfl) (by kernel_rfl) rfl ?_
                first
                  | (refine WJ.r rfl rfl rfl rfl rfl (rd_fa (q := 0) rfl rfl Try.underlying24 rfl (by kernel_rfl) rfl) ?_)
                  | (refine WJ.r rfl rfl rfl rfl rfl (faf (q' := 0) rfl rfl Try.underlying24 rfl (by kernel_rfl) rfl) ?_)
                first
                  | (refine WJ.r rfl rfl rfl rfl rfl (ld rfl rfl .tc Try.underlying9 rfl (by rfl)) ?_)
                  | (refine WJ.r rfl rfl rfl rfl rfl (ldm rfl rfl Try.underlying9 rfl ?_) ?_; (focus (first | assumption | omega | (dsimp only; first | assumption | omega) | (simp <;> omega) | (simp; done))))
                  | (refine WJ.r rfl rfl rfl rfl rfl (ldom rfl rfl Try.underlying9 rfl ?_) ?_; (focus (first | assumption | omega | (dsimp only; first | assumption | omega) | (simp <;> omega) | (simp; done))))
                refine WJ.r rfl rfl rfl rfl rfl (rd_move rfl rfl) ?_
                refine WJ.r rfl rfl rfl rfl rfl (rd_move rfl rfl) ?_
                refine WJ.r rfl rfl rfl rfl rfl (rd_sto rfl rfl rfl Try.underlying9 ?_) ?_
                · (try simp only [List.length_append, List.length_cons, List.length_nil]); omega
                refine WJ.r rfl rfl rfl rfl rfl (rd_cat rfl rfl rfl ?_) ?_
                · simp only [List.length_append, List.length_take, List.length_nil]; omega
                first
                  | (refine WJ.r rfl rfl rfl rfl rfl (rd_fa (q := 0) rfl rfl Try.underlying24 rfl (by kernel_rfl) rfl) ?_)
                  | (refine WJ.r rfl rfl rfl rfl rfl (faf (q' := 0) rfl rfl Try.underlying24 rfl (by kernel_rfl) rfl) ?_)
                refine WJ.nil ?_
                refine WL.g0 rfl rfl (st rfl rfl rfl .tc (by kernel_rfl) rfl ?_ (by first | (simp only [List.set_cons_zero, List.set_cons_succ]; rfl) | rfl)) ?_
                · first | decide | (simp; done) | (simp <;> omega)
                intro _
                refine WL.nt ?_
                refine WC.sr ?_
                refine WL.r rfl rfl rfl (lda rfl rfl .tc Try.underlying24 rfl ?_) ?_
                · kernel_rfl
                refine WL.g0 rfl rfl (sta rfl rfl rfl .tc ?_ ?_ ?_) ?_
                · kernel_rfl
                · simp [Value.oneCell']
                · first | rfl | simp
                intro _
                refine WL.r rfl rfl rfl (rd_assign rfl rfl) ?_
                refine WL.nt ?_
                refine WC.ret ?_
                exact WX.retN rfl (.agg rfl .tc Try.underlying24 rfl (by kernel_rfl) (.tmp rfl .nil)) fun w' hS => some_ret (by rw [crashD, if_neg (by simp [hc12]), if_neg (by omega), hgd, if_neg (by omega)]) hS
theorem rcompact_c {d : Dk} {l : List Bs} {a b : Option Addr} {cap capl : Nat} {w : World} {ok : Nat → Prop} (hF1 : (Fact.sl a (strs d.pend)).holds ok w) (hF2 : (Fact.sl b (strs l)).holds ok w) (hl : d.pend.length ≤ 100000) (hll : l.length ≤ 100000) (hj : (listJ l).length ≤ 900000) :
    Calls Try.prog 22 #[.agg #[.string (S d.safe), .slice a d.pend.length cap, .bool d.crash], .slice b l.length capl] w fun e w' => ∃ g : Rs, e = .returned (DE (compactD d l) (g.val (compactD d l).1.pend.length)) ∧ g.cap = (compactD d l).1.pend.length + g.sp.length ∧ St (fun _ => True) w [g.ent (strs (compactD d l).1.pend) 9] [] w' := by
  refine enter (S := St (fun _ => True) w [] [Fact.sl a (strs d.pend), Fact.sl b (strs l)]) (L := [(0, .agg #[.string (S d.safe), .slice a d.pend.length cap, .bool d.crash]), (1, .slice b l.length capl)]) Try.func22 rfl Try.ntmps22 rfl (args_cons rfl (args_cons rfl (args_nil _))) (St.start (fun _ _ => trivial) (facts_cons (fact_any hF1) (facts_cons (fact_any hF2) facts_nil))) ?_
  refine WC.sr ?_
  refine WL.g rfl rfl rfl (og_box rfl rfl (by first | exact cells_agg _ | rfl)) ?_
  intro b2
  refine WL.g rfl rfl rfl (og_alloc rfl (v := (.agg #[.string (S []), .slice none 0 0, .bool false])) (cs := [.string (S []), .slice none 0 0, .bool false]) (by kernel_rfl) rfl) ?_
  intro b4
  refine WL.r rfl rfl rfl (rd_assign rfl rfl) ?_
  refine WL.nt ?_
  refine WC.seq ?_
  refine WC.sr ?_
  first
    | (refine WL.r rfl rfl rfl (rd_fa (q := 2) rfl rfl Try.underlying24 rfl (by kernel_rfl) rfl) ?_)
    | (refine WL.r rfl rfl rfl (faf (q' := 2) rfl rfl Try.underlying24 rfl (by kernel_rfl) rfl) ?_)
  first
    | (refine WL.r rfl rfl rfl (ld rfl rfl .tc Try.underlying4 rfl (by rfl)) ?_)
    | (refine WL.r rfl rfl rfl (ldm rfl rfl Try.underlying4 rfl ?_) ?_; (focus (first | assumption | omega | (dsimp only; first | assumption | omega) | (simp <;> omega) | (simp; done))))
    | (refine WL.r rfl rfl rfl (ldom rfl rfl Try.underlying4 rfl ?_) ?_; (focus (first | assumption | omega | (dsimp only; first | assumption | omega) | (simp <;> omega) | (simp; done))))
  refine WL.nt ?_
  refine WC.cond rfl (fun hc9 => ?_) (fun hc9 => ?_)
  · (try simp only [decide_eq_true_eq, decide_eq_false_iff_not, Bool.not_eq_true', Bool.not_eq_false', Bool.not_not, Int.not_lt, Int.not_le] at hc9)
    refine WC.sr ?_
    refine WL.r rfl rfl rfl (rd_bld [[.string (S [])], [.slice none 0 0], [.bool false]] rfl rfl (by simp only [bld, fldv, Nat.beq, Value.cells, cond_true, cond_false, List.nil_append, List.cons_append, List.append_nil]; rfl) (fun w => by kernel_rfl)) ?_
    refine WL.g0 rfl rfl (sta rfl rfl rfl .tc ?_ ?_ ?_) ?_
    · kernel_rfl
    · simp [Value.oneCell']
    · first | rfl | simp
    intro _
    refine WL.r rfl rfl rfl (rd_assign rfl rfl) ?_
    refine WL.nt ?_
    refine WC.ret ?_
    refine WX.then_ret ?_
    exact WX.retN rfl (.agg rfl .tc Try.underlying24 rfl (by kernel_rfl) (.tmp rfl .nil)) fun w' hS => zero_ret (by rw [compactD, if_pos hc9]) hS
  · (try simp only [decide_eq_true_eq, decide_eq_false_iff_not, Bool.not_eq_true', Bool.not_eq_false', Bool.not_not, Int.not_lt, Int.not_le] at hc9)
    refine WC.skip ?_
    refine WX.then_normal ?_
    refine WC.seq ?_
    refine WC.sr ?_
    refine WL.r rfl rfl rfl (rd_move rfl rfl) ?_
    refine WL.r rfl rfl rfl (rd_len rfl rfl Try.underlying22) ?_
    refine WL.r rfl rfl rfl (rd_gtr rfl rfl rfl) ?_
    refine WL.nt ?_
    refine WC.cond rfl (fun hc13 => ?_) (fun hc13 => ?_)
    · (try simp only [decide_eq_true_eq, decide_eq_false_iff_not, Bool.not_eq_true', Bool.not_eq_false', Bool.not_not, Int.not_lt, Int.not_le] at hc13)
      refine WC.sr ?_
      refine WL.r rfl rfl rfl (rd_bld [[.string (S [])], [.slice none 0 0], [.bool false]] rfl rfl (by simp only [bld, fldv, Nat.beq, Value.cells, cond_true, cond_false, List.nil_append, List.cons_append, List.append_nil]; rfl) (fun w => by kernel_rfl)) ?_
      refine WL.g0 rfl rfl (sta rfl rfl rfl .tc ?_ ?_ ?_) ?_
      · kernel_rfl
      · simp [Value.oneCell']
      · first | rfl | simp
      intro _
      refine WL.r rfl rfl rfl (rd_assign rfl rfl) ?_
      refine WL.nt ?_
      refine WC.ret ?_
      refine WX.then_ret ?_
      exact WX.retN rfl (.agg rfl .tc Try.underlying24 rfl (by kernel_rfl) (.tmp rfl .nil)) fun w' hS => zero_ret (by rw [compactD, if_neg (by simp [hc9]), if_pos (by omega)]) hS
    · (try simp only [decide_eq_true_eq, decide_eq_false_iff_not, Bool.not_eq_true', Bool.not_eq_false', Bool.not_not, Int.not_lt, Int.not_le] at hc13)
      refine WC.skip ?_
      refine WX.then_normal ?_
      refine WC.sr ?_
      refine WL.r rfl rfl rfl (rd_assign rfl rfl) ?_
      refine WL.nt ?_
      refine WC.seq ?_
      refine WC.sr ?_
      refine WL.r rfl rfl rfl (rd_assign rfl rfl) ?_
      refine WL.nt ?_
      refine WC.block ?_
      refine WC.loopP (σ := Nat) [(1, _), (2, _), (4, _)] (fun g => [(6, .int .i64 ((listJ (l.take g)).length : Int)), (7, .int .i64 (g : Int))]) (fun g => g ≤ l.length ∧ ∀ s ∈ l.take g, s.length ≤ 65536) (fun g => l.length - g) (0) (sub_cons rfl (sub_cons rfl (sub_cons rfl (sub_nil _)))) (sub_cons rfl (sub_cons rfl (sub_nil _))) (by (try dsimp only); exact ⟨Nat.zero_le _, fun s h => by simp at h⟩) ?_
      rintro k hinv1; (try dsimp only at hinv1 ⊢)
      obtain ⟨hk, hks⟩ := hinv1
      refine WC.seq ?_
      refine WC.sr ?_
      refine WL.r rfl rfl rfl (rd_move rfl rfl) ?_
      refine WL.r rfl rfl rfl (rd_move rfl rfl) ?_
      refine WL.r rfl rfl rfl (rd_len rfl rfl Try.underlying22) ?_
      refine WL.r rfl rfl rfl (rd_lss rfl rfl rfl) ?_
      refine WL.nt ?_
      refine WC.cond rfl (fun hc18 => ?_) (fun hc18 => ?_)
      · (try simp only [decide_eq_true_eq, decide_eq_false_iff_not, Bool.not_eq_true', Bool.not_eq_false', Bool.not_not, Int.not_lt, Int.not_le] at hc18)
        have hk1 := congrArg List.length (listJ_take l k (by omega))
        have hk3 := listJ_take_le l (k + 1)
        rw [List.length_append, List.length_append, four_len] at hk1
        refine WC.skip ?_
        refine WX.then_normal ?_
        refine WC.seq ?_
        refine WC.block ?_
        refine WC.seq ?_
        refine WC.sr ?_
        refine WL.r rfl rfl rfl (rd_move rfl rfl) ?_
        refine WL.r rfl rfl rfl (rd_move rfl rfl) ?_
        first
          | (refine WL.r rfl rfl rfl (rd_ia rfl rfl rfl Try.underlying22 (by kernel_rfl : _ = some 1) ?_ (by (try simp only [Int.toNat_natCast, Nat.mul_one, Nat.zero_add, Nat.add_zero, Nat.zero_mul, Int.reduceToNat, Nat.reduceAdd, Nat.reduceMul, Nat.reduceSub, Nat.sub_zero]); rfl)) ?_; (focus (first | assumption | omega | (dsimp only; first | assumption | omega) | (simp <;> omega) | (simp; done))))
          | (refine WL.r rfl rfl rfl (iaf rfl rfl rfl Try.underlying22 (by kernel_rfl : _ = some 1) ?_ ?_ (by (try simp only [Int.toNat_natCast, Nat.mul_one, Nat.zero_add, Nat.add_zero, Nat.zero_mul, Int.reduceToNat, Nat.reduceAdd, Nat.reduceMul, Nat.reduceSub, Nat.sub_zero]); rfl)) ?_; (focus (first | assumption | omega | (dsimp only; first | assumption | omega) | (simp <;> omega) | (simp; done))); (focus (first | (rw [List.length_map]; omega) | (rw [flatMap_len _ _ _ (fun _ => rfl)]; omega) | (simp <;> omega))))
          | (refine WL.r rfl rfl rfl (iao rfl rfl rfl Try.underlying22 (by kernel_rfl : _ = some 1) ?_ ?_ (by (try simp only [Int.toNat_natCast, Nat.mul_one, Nat.zero_add, Nat.add_zero, Nat.zero_mul, Int.reduceToNat, Nat.reduceAdd, Nat.reduceMul, Nat.reduceSub, Nat.sub_zero]); rfl)) ?_; (focus (first | assumption | omega | (dsimp only; first | assumption | omega) | (simp <;> omega) | (simp; done))); (focus (first | (simp <;> omega) | (rw [List.length_append, List.length_map]; omega))))
        first
          | (refine WL.r rfl rfl rfl (ld rfl rfl .tc Try.underlying9 rfl (by rfl)) ?_)
          | (refine WL.r rfl rfl rfl (ldm rfl rfl Try.underlying9 rfl ?_) ?_; (focus (first | assumption | omega | (dsimp only; first | assumption | omega) | (simp <;> omega) | (simp; done))))
          | (refine WL.r rfl rfl rfl (ldom rfl rfl Try.underlying9 rfl ?_) ?_; (focus (first | assumption | omega | (dsimp only; first | assumption | omega) | (simp <;> omega) | (simp; done))))
        refine WL.r rfl rfl rfl (rd_slen rfl rfl Try.underlying9) ?_
        refine WL.r rfl rfl rfl (rd_gtr rfl rfl rfl) ?_
        refine WL.nt ?_
        refine WC.cond rfl (fun hc26 => ?_) (fun hc26 => ?_)
        · (try simp only [decide_eq_true_eq, decide_eq_false_iff_not, Bool.not_eq_true', Bool.not_eq_false', Bool.not_not, Int.not_lt, Int.not_le] at hc26)
          refine WC.sr ?_
          refine WL.r rfl rfl rfl (rd_bld [[.string (S [])], [.slice none 0 0], [.bool false]] rfl rfl (by simp only [bld, fldv, Nat.beq, Value.cells, cond_true, cond_false, List.nil_append, List.cons_append, List.append_nil]; rfl) (fun w => by kernel_rfl)) ?_
          refine WL.g0 rfl rfl (sta rfl rfl rfl .tc ?_ ?_ ?_) ?_
          · kernel_rfl
          · simp [Value.oneCell']
          · first | rfl | simp
          intro _
          refine WL.r rfl rfl rfl (rd_assign rfl rfl) ?_
          refine WL.nt ?_
          refine WC.ret ?_
          refine WX.then_ret ?_
          refine WX.block_ret ?_
          refine WX.then_ret ?_
          refine WX.then_ret ?_
          refine WX.block_ret ?_
          refine WX.then_ret ?_
          exact WX.retN rfl (.agg rfl .tc Try.underlying24 rfl (by kernel_rfl) (.tmp rfl .nil)) fun w' hS => zero_ret (by rw [compactD, if_neg (by simp [hc9]), if_neg (by omega), if_pos (any_of_get l k (by omega) (by omega))]) hS
        · (try simp only [decide_eq_true_eq, decide_eq_false_iff_not, Bool.not_eq_true', Bool.not_eq_false', Bool.not_not, Int.not_lt, Int.not_le] at hc26)
          refine WC.skip ?_
          refine WX.then_normal ?_
          refine WC.region ?_
          refine WL.r rfl rfl rfl (rd_move rfl rfl) ?_
          first
            | (refine WL.r rfl rfl rfl (rd_add64nl rfl rfl rfl ?_) ?_; (focus (first | assumption | omega | (dsimp only; first | assumption | omega) | (simp <;> omega) | (simp; done))))
            | (refine WL.r rfl rfl rfl (rd_add64 rfl rfl rfl ?_) ?_; (focus (first | assumption | omega | (dsimp only; first | assumption | omega) | (simp <;> omega) | (simp; done))))
          refine WL.r rfl rfl rfl (rd_move rfl rfl) ?_
          refine WL.r rfl rfl rfl (rd_move rfl rfl) ?_
          first
            | (refine WL.r rfl rfl rfl (rd_ia rfl rfl rfl Try.underlying22 (by kernel_rfl : _ = some 1) ?_ (by (try simp only [Int.toNat_natCast, Nat.mul_one, Nat.zero_add, Nat.add_zero, Nat.zero_mul, Int.reduceToNat, Nat.reduceAdd, Nat.reduceMul, Nat.reduceSub, Nat.sub_zero]); rfl)) ?_; (focus (first | assumption | omega | (dsimp only; first | assumption | omega) | (simp <;> omega) | (simp; done))))
            | (refine WL.r rfl rfl rfl (iaf rfl rfl rfl Try.underlying22 (by kernel_rfl : _ = some 1) ?_ ?_ (by (try simp only [Int.toNat_natCast, Nat.mul_one, Nat.zero_add, Nat.add_zero, Nat.zero_mul, Int.reduceToNat, Nat.reduceAdd, Nat.reduceMul, Nat.reduceSub, Nat.sub_zero]); rfl)) ?_; (focus (first | assumption | omega | (dsimp only; first | assumption | omega) | (simp <;> omega) | (simp; done))); (focus (first | (rw [List.length_map]; omega) | (rw [flatMap_len _ _ _ (fun _ => rfl)]; omega) | (simp <;> omega))))
            | (refine WL.r rfl rfl rfl (iao rfl rfl rfl Try.underlying22 (by kernel_rfl : _ = some 1) ?_ ?_ (by (try simp only [Int.toNat_natCast, Nat.mul_one, Nat.zero_add, Nat.add_zero, Nat.zero_mul, Int.reduceToNat, Nat.reduceAdd, Nat.reduceMul, Nat.reduceSub, Nat.sub_zero]); rfl)) ?_; (focus (first | assumption | omega | (dsimp only; first | assumption | omega) | (simp <;> omega) | (simp; done))); (focus (first | (simp <;> omega) | (rw [List.length_append, List.length_map]; omega))))
          first
            | (refine WL.r rfl rfl rfl (ld rfl rfl .tc Try.underlying9 rfl (by rfl)) ?_)
            | (refine WL.r rfl rfl rfl (ldm rfl rfl Try.underlying9 rfl ?_) ?_; (focus (first | assumption | omega | (dsimp only; first | assumption | omega) | (simp <;> omega) | (simp; done))))
            | (refine WL.r rfl rfl rfl (ldom rfl rfl Try.underlying9 rfl ?_) ?_; (focus (first | assumption | omega | (dsimp only; first | assumption | omega) | (simp <;> omega) | (simp; done))))
          refine WL.r rfl rfl rfl (rd_slen rfl rfl Try.underlying9) ?_
          first
            | (refine WL.r rfl rfl rfl (rd_add64n rfl rfl rfl ?_) ?_; (focus (first | assumption | omega | (dsimp only; first | assumption | omega) | (simp <;> omega) | (simp; done))))
            | (refine WL.r rfl rfl rfl (rd_add64 rfl rfl rfl ?_) ?_; (focus (first | assumption | omega | (dsimp only; first | assumption | omega) | (simp <;> omega) | (simp; done))))
          refine WL.set 35 rfl (v' := .int .i64 (((listJ (l.take (k + 1))).length : Nat) : Int)) (congrArg (Value.int .i64) (by first | omega | rfl | simp)) ?_
          refine WL.r rfl rfl rfl (rd_assign rfl rfl) ?_
          refine WL.nil ?_
          refine WX.block_normal ?_
          refine WX.then_normal ?_
          refine WC.region ?_
          refine WL.r rfl rfl rfl (rd_move rfl rfl) ?_
          first
            | (refine WL.r rfl rfl rfl (rd_add64nl rfl rfl rfl ?_) ?_; (focus (first | assumption | omega | (dsimp only; first | assumption | omega) | (simp <;> omega) | (simp; done))))
            | (refine WL.r rfl rfl rfl (rd_add64 rfl rfl rfl ?_) ?_; (focus (first | assumption | omega | (dsimp only; first | assumption | omega) | (simp <;> omega) | (simp; done))))
          refine WL.r rfl rfl rfl (rd_assign rfl rfl) ?_
          refine WL.nil ?_
          refine WX.loopP (k + 1) (by (try dsimp only); omega) (sub_cons rfl (sub_cons rfl (sub_cons rfl (sub_nil _)))) (by refine (sub_cons ?_ (sub_cons ?_ (sub_nil _))) <;> (first | rfl | (simp only [List.length_append, List.length_cons, List.length_nil, Nat.zero_add]; rfl) | (dsimp only; first | rfl | (congr 2; omega) | (congr 3; omega)))) ?_ (by first | exact fun _ h => h | exact st_sub)
          (try dsimp only)
          exact ⟨by omega, all_take (by omega) hks (by omega)⟩
      · (try simp only [decide_eq_true_eq, decide_eq_false_iff_not, Bool.not_eq_true', Bool.not_eq_false', Bool.not_not, Int.not_lt, Int.not_le] at hc18)
        refine WC.exit ?_
        refine WX.then_exit ?_
        refine WX.then_exit ?_
        refine WX.block_exit ?_
        obtain rfl : k = l.length := by omega
        rw [List.take_of_length_le (Nat.le_refl _)] at hks ⊢
        have hany : l.any (fun s => decide (65536 < s.length)) = false := by rw [List.any_eq_false]; intro s hs; have := hks s hs; simp; omega
        refine WX.then_normal ?_
        refine WC.seq ?_
        refine WC.sr ?_
        refine WL.r rfl rfl rfl (rd_move rfl rfl) ?_
        refine WL.r rfl rfl rfl (rd_gtr rfl rfl rfl) ?_
        refine WL.nil ?_
        have hr : compactD d l = (⟨d.safe, d.pend ++ [recJ 82 (listJ l)], false⟩, 0) := by rw [compactD, if_neg (by simp [hc9]), if_neg (by omega), if_neg (by simp [hany]), if_neg (by omega)]
        refine WX.then_normal ?_
        refine WC.cond rfl (fun hc37 => by exfalso; (try simp only [decide_eq_true_eq, decide_eq_false_iff_not, Bool.not_eq_true', Bool.not_eq_false', Bool.not_not, Int.not_lt, Int.not_le] at hc37); omega) (fun hc37 => ?_)
        (try simp only [decide_eq_true_eq, decide_eq_false_iff_not, Bool.not_eq_true', Bool.not_eq_false', Bool.not_not, Int.not_lt, Int.not_le] at hc37)
        refine WC.skip ?_
        refine WX.then_normal ?_
        refine WC.seq ?_
        refine WC.free0 [1, 2, 3, 0, 4] [5, 6] [0, 0, 1, 1, 1, 2, 2] (by kernel_rfl) (by kernel_rfl) rfl ?_
        refine WJ.r rfl rfl rfl rfl rfl (rd_move rfl rfl) ?_
        refine WJ.gv rfl rfl rfl rfl rfl (fun ext => og_call rfl rfl (by kernel_rfl) (keep_val fun w hS => rlist_c (by first | exact hS.sl | exact hS.os | exact hS.oc | exact sl_takeM _ hS.sl | exact sl_dropM _ hS.sl | exact sl_cutM _ (by omega) hS.sl | exact sl_nil) (by first | assumption | omega | (dsimp only; first | assumption | omega) | (simp <;> omega) | (simp; done)) (by first | assumption | omega | (dsimp only; first | assumption | omega) | (simp <;> omega) | (simp; done)))) ?_
        refine WJ.gv rfl rfl rfl rfl rfl (fun ext => og_call rfl rfl (by kernel_rfl) (keep_val fun w hS => rrec_c (k := 82) (c := listJ l) (by first | assumption | omega | (dsimp only; first | assumption | omega) | (simp <;> omega) | (simp; done)))) ?_
        refine WJ.r rfl rfl rfl rfl rfl (lda rfl rfl .tc Try.underlying24 rfl ?_) ?_
        · kernel_rfl
        refine WJ.g rfl rfl rfl rfl rfl (fun ext => og_call rfl rfl (by kernel_rfl) (keep_o1J fun w hS => rwrite_c (by first | exact hS.sl | exact hS.os | exact hS.oc | exact sl_takeM _ hS.sl | exact sl_dropM _ hS.sl | exact sl_cutM _ (by omega) hS.sl | exact sl_nil) (by first | assumption | omega | (dsimp only; first | assumption | omega) | (simp <;> omega) | (simp; done)))) ?_
        intro g43 hg43; (try dsimp only at hg43 ⊢)
        refine WJ.nil ?_
        refine WL.g0 rfl rfl (sta rfl rfl rfl .tc ?_ ?_ ?_) ?_
        · kernel_rfl
        · simp [Value.oneCell']
        · first | rfl | simp
        intro _
        refine WL.r rfl rfl rfl (rd_assign rfl rfl) ?_
        refine WL.nt ?_
        refine WC.ret ?_
        exact WX.retN rfl (.agg rfl .tc Try.underlying24 rfl (by kernel_rfl) (.tmp rfl .nil)) fun w' hS => ⟨g43, by rw [hr]; simp [DE, Dk.v, tup], by rw [hr]; simpa using hg43, by rw [hr]; exact st_sub _ hS⟩
end Go.Proofs.Ytijamoagkmjcjaa
