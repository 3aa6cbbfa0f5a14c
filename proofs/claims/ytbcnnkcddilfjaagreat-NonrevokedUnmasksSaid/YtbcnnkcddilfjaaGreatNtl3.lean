/-
  natural: Small, products; the reference's.
-/
import Derived.Test.YtbcnnkcddilfjaaGreatZed
import Derived.Test.YtbcnnkcddilfjaaGreatWrd
import Derived.Test.YtbcnnkcddilfjaaGreatArt
namespace Go.Proofs.YtbcnnkcddilfjaaGreat
set_option linter.unusedSimpArgs false
set_option linter.unusedVariables false
set_option maxRecDepth 20000
set_option maxHeartbeats 600000
open Go.RowKit

theorem val_snoc (s : Bs) (c : UInt8) : val (s ++ [c]) = val s * 256 + c.toNat := by rw [val_append]; simp [val]
theorem val_take_succ (s : Bs) (k : Nat) (h : k < s.length) : val (s.take (k + 1)) = val (s.take k) * 256 + (s.getD k default).toNat := by
  rw [List.take_add_one, List.getElem?_eq_getElem h, List.getD_eq_getElem?_getD, List.getElem?_eq_getElem h]
  exact val_snoc _ _
theorem val_take_lt (s : Bs) (k : Nat) (h : k ≤ 7) : val (s.take k) < 72057594037927936 :=
  Nat.lt_of_lt_of_le (val_lt _) (Nat.le_trans (Nat.pow_le_pow_right (by decide) (Nat.le_trans (List.length_take_le _ _) h)) (by decide))
theorem val_8 {s : Bs} (h : s.length ≤ 8) : val s < 18446744073709551616 :=
  Nat.lt_of_lt_of_le (val_lt _) (Nat.le_trans (Nat.pow_le_pow_right (by decide) h) (by decide))
def smallN (a : Bs) : Nat × Bool := if okN a ∧ a.length ≤ 8 then (val a, true) else (0, false)
theorem small_lt (a : Bs) : (smallN a).1 < 18446744073709551616 := by
  unfold smallN; split
  · rename_i h; exact val_8 h.2
  · decide
theorem small_c {a : Bs} {w : World} (hal : a.length ≤ 9223372036854775807) :
    Calls Tryz.prog 36 #[.string (S a)] w fun e w' => e = .returned (.tuple #[.int .u64 ((smallN a).1 : Int), .bool (smallN a).2]) ∧ Below w.heap.size w w' := by
  refine enter (S := St (fun _ => True) w [] ([])) (L := [(0, .string (S a))]) Tryz.func36 rfl Tryz.ntmps36 rfl (args_cons rfl (args_nil _)) (St.start (fun _ _ => trivial) facts_nil) ?_
  refine WC.sr ?_
  refine WL.r rfl rfl rfl (rd_assign rfl rfl) ?_
  refine WL.r rfl rfl rfl (rd_assign rfl rfl) ?_
  refine WL.nt ?_
  refine WC.seq ?_
  refine WC.sr ?_
  refine WL.r rfl rfl rfl (rd_move rfl rfl) ?_
  refine WL.g rfl rfl rfl (og_call rfl rfl (by kernel_rfl) (keep_val fun w hS => valid_c)) ?_
  intro _
  refine WL.r rfl rfl rfl (rd_not rfl rfl) ?_
  refine WL.r rfl rfl rfl (rd_move rfl rfl) ?_
  refine WL.bool 9 rfl (fun hg9 => ?_) (fun hg9 => ?_)
  · (try simp only [sB] at hg9)
    refine WL.s rfl rfl rfl ?_
    refine WL.s rfl rfl rfl ?_
    refine WL.s rfl rfl rfl ?_
    refine WL.r rfl rfl rfl (rd_pickt rfl rfl rfl) ?_
    refine WL.nt ?_
    refine WC.cond rfl (fun _ => ?_) (fun h => by cases h)
    refine WC.sr ?_
    refine WL.r rfl rfl rfl (rd_assign rfl rfl) ?_
    refine WL.r rfl rfl rfl (rd_assign rfl rfl) ?_
    refine WL.nt ?_
    refine WC.ret ?_
    refine WX.then_ret ?_
    exact WX.retN rfl (.tmp rfl (.tmp rfl .nil)) fun w' hS => ⟨by rw [smallN, if_neg (by simp_all <;> omega)]; rfl, hS.below⟩
  · (try simp only [sB] at hg9)
    refine WL.r rfl rfl rfl (rd_move rfl rfl) ?_
    refine WL.r rfl rfl rfl (rd_slen rfl rfl Tryz.underlying22) ?_
    refine WL.r rfl rfl rfl (rd_gtr rfl rfl rfl) ?_
    refine WL.r rfl rfl rfl (rd_pickf rfl rfl rfl) ?_
    refine WL.nt ?_
    refine WC.cond rfl (fun hc13 => ?_) (fun hc13 => ?_)
    · (try simp only [sB] at hc13)
      refine WC.sr ?_
      refine WL.r rfl rfl rfl (rd_assign rfl rfl) ?_
      refine WL.r rfl rfl rfl (rd_assign rfl rfl) ?_
      refine WL.nt ?_
      refine WC.ret ?_
      refine WX.then_ret ?_
      exact WX.retN rfl (.tmp rfl (.tmp rfl .nil)) fun w' hS => ⟨by rw [smallN, if_neg (by simp_all <;> omega)]; rfl, hS.below⟩
    · (try simp only [sB] at hc13)
      have hok : okN a ∧ a.length ≤ 8 := ⟨by simp_all, by omega⟩
      refine WC.skip ?_
      refine WX.then_normal ?_
      refine WC.sr ?_
      refine WL.r rfl rfl rfl (rd_assign rfl rfl) ?_
      refine WL.nt ?_
      refine WC.seq ?_
      refine WC.sr ?_
      refine WL.r rfl rfl rfl (rd_move rfl rfl) ?_
      refine WL.r rfl rfl rfl (rd_slen rfl rfl Tryz.underlying22) ?_
      refine WL.r rfl rfl rfl (rd_move rfl rfl) ?_
      refine WL.nt ?_
      refine WC.block ?_
      refine WC.loopP (σ := Nat) [(0, _), (2, _), (3, _), (15, _)] (fun g => [(4, .int .u64 (val (a.take g) : Int)), (16, .int .i64 (g : Int))]) (fun g => g ≤ a.length) (fun g => a.length - g) (0) (sub_cons rfl (sub_cons rfl (sub_cons rfl (sub_cons rfl (sub_nil _))))) (sub_cons rfl (sub_cons rfl (sub_nil _))) (by (try dsimp only); omega) ?_
      rintro k hinv1; (try dsimp only at hinv1 ⊢)
      obtain hk := hinv1
      refine WC.sr ?_
      refine WL.r rfl rfl rfl (rd_lss rfl rfl rfl) ?_
      refine WL.nt ?_
      refine WC.seq ?_
      refine WC.cond rfl (fun hc17 => ?_) (fun hc17 => ?_)
      · (try simp only [sB] at hc17)
        have hv := val_take_lt a k (by omega)
        have hc8 := (a.getD k default).toNat_lt
        have hs1 := val_take_succ a k (by omega)
        refine WC.skip ?_
        refine WX.then_normal ?_
        refine WC.seq ?_
        refine WC.block ?_
        refine WC.sr ?_
        refine WL.r rfl rfl rfl (rd_move rfl rfl) ?_
        refine WL.r rfl rfl rfl (rd_assign rfl rfl) ?_
        refine WL.nt ?_
        refine WC.region ?_
        refine WL.r rfl rfl rfl (rd_move rfl rfl) ?_
        (refine WL.r rfl rfl rfl (rd_shlW (c := 8) rfl rfl rfl ?_ ?_) ?_; (focus (decide)); (focus (omega)))
        refine WL.r rfl rfl rfl (rd_move rfl rfl) ?_
        refine WL.r rfl rfl rfl (rd_move rfl rfl) ?_
        (refine WL.r rfl rfl rfl (rd_sidxN rfl rfl rfl Tryz.underlying22 ?_) ?_; (focus (omega)))
        (refine WL.r rfl rfl rfl (rd_conv8 rfl rfl Tryz.underlying5 Tryz.underlying55 (by decide)) ?_)
        refine WL.r rfl rfl rfl (rd_orW 8 rfl rfl rfl ?_) ?_
        · omega
        refine WL.set 25 rfl (v' := .int .u64 ((val (a.take (k + 1)) : Nat) : Int)) (congrArg (Value.int .u64) (by omega)) ?_
        refine WL.r rfl rfl rfl (rd_assign rfl rfl) ?_
        refine WL.nil ?_
        refine WX.block_normal ?_
        refine WX.then_normal ?_
        refine WC.region ?_
        (refine WL.r rfl rfl rfl (rd_add64nl rfl rfl rfl ?_) ?_; (focus (omega)))
        refine WL.r rfl rfl rfl (rd_move rfl rfl) ?_
        refine WL.nil ?_
        refine WX.loopP (k + 1) (by (try dsimp only); omega) (sub_cons rfl (sub_cons rfl (sub_cons rfl (sub_cons rfl (sub_nil _))))) (by refine (sub_cons ?_ (sub_cons ?_ (sub_nil _))) <;> (rfl)) ?_ (by (exact fun _ h => h))
        (try dsimp only)
        omega
      · (try simp only [sB] at hc17)
        refine WC.exit ?_
        refine WX.then_exit ?_
        refine WX.then_exit ?_
        refine WX.block_exit ?_
        obtain rfl : k = a.length := by omega
        refine WX.then_normal ?_
        refine WC.sr ?_
        refine WL.r rfl rfl rfl (rd_move rfl rfl) ?_
        refine WL.r rfl rfl rfl (rd_assign rfl rfl) ?_
        refine WL.r rfl rfl rfl (rd_assign rfl rfl) ?_
        refine WL.nt ?_
        refine WC.ret ?_
        exact WX.retN rfl (.tmp rfl (.tmp rfl .nil)) fun w' hS => ⟨by rw [smallN, if_pos hok, List.take_length]; rfl, hS.below⟩
theorem ru64_c {a : Bs} {w : World} (hal : a.length ≤ 8) :
    Calls Tryz.prog 64 #[.string (S a)] w fun e w' => e = .returned (.int .u64 (val a : Int)) ∧ Below w.heap.size w w' := by
  refine enter (S := St (fun _ => True) w [] ([])) (L := [(0, .string (S a))]) Tryz.func64 rfl Tryz.ntmps64 rfl (args_cons rfl (args_nil _)) (St.start (fun _ _ => trivial) facts_nil) ?_
  refine WC.sr ?_
  refine WL.r rfl rfl rfl (rd_assign rfl rfl) ?_
  refine WL.nt ?_
  refine WC.sr ?_
  refine WL.r rfl rfl rfl (rd_assign rfl rfl) ?_
  refine WL.nt ?_
  refine WC.seq ?_
  refine WC.sr ?_
  refine WL.r rfl rfl rfl (rd_assign rfl rfl) ?_
  refine WL.nt ?_
  refine WC.block ?_
  refine WC.loopP (σ := Nat) [(0, _), (2, _)] (fun g => [(3, .int .u64 (val (a.take g) : Int)), (4, .int .i64 (g : Int))]) (fun g => g ≤ a.length) (fun g => a.length - g) (0) (sub_cons rfl (sub_cons rfl (sub_nil _))) (sub_cons rfl (sub_cons rfl (sub_nil _))) (by (try dsimp only); omega) ?_
  rintro k hinv1; (try dsimp only at hinv1 ⊢)
  obtain hk := hinv1
  refine WC.seq ?_
  refine WC.sr ?_
  refine WL.r rfl rfl rfl (rd_move rfl rfl) ?_
  refine WL.r rfl rfl rfl (rd_move rfl rfl) ?_
  refine WL.r rfl rfl rfl (rd_slen rfl rfl Tryz.underlying22) ?_
  refine WL.r rfl rfl rfl (rd_lss rfl rfl rfl) ?_
  refine WL.nt ?_
  refine WC.cond rfl (fun hc8 => ?_) (fun hc8 => ?_)
  · (try simp only [sB] at hc8)
    have hv := val_take_lt a k (by omega)
    have hc8 := (a.getD k default).toNat_lt
    have hs1 := val_take_succ a k (by omega)
    refine WC.skip ?_
    refine WX.then_normal ?_
    refine WC.seq ?_
    refine WC.block ?_
    refine WC.region ?_
    refine WL.r rfl rfl rfl (rd_move rfl rfl) ?_
    (refine WL.r rfl rfl rfl (rd_mulW (c := 256) rfl rfl rfl ?_) ?_; (focus (omega)))
    refine WL.r rfl rfl rfl (rd_move rfl rfl) ?_
    refine WL.r rfl rfl rfl (rd_move rfl rfl) ?_
    (refine WL.r rfl rfl rfl (rd_sidxN rfl rfl rfl Tryz.underlying22 ?_) ?_; (focus (omega)))
    (refine WL.r rfl rfl rfl (rd_conv8 rfl rfl Tryz.underlying5 Tryz.underlying55 (by decide)) ?_)
    (refine WL.r rfl rfl rfl (rd_addW rfl rfl rfl ?_) ?_; (focus (omega)))
    refine WL.set 17 rfl (v' := .int .u64 ((val (a.take (k + 1)) : Nat) : Int)) (congrArg (Value.int .u64) (by omega)) ?_
    refine WL.r rfl rfl rfl (rd_assign rfl rfl) ?_
    refine WL.nil ?_
    refine WX.block_normal ?_
    refine WX.then_normal ?_
    refine WC.region ?_
    refine WL.r rfl rfl rfl (rd_move rfl rfl) ?_
    (refine WL.r rfl rfl rfl (rd_add64nl rfl rfl rfl ?_) ?_; (focus (omega)))
    refine WL.r rfl rfl rfl (rd_assign rfl rfl) ?_
    refine WL.nil ?_
    refine WX.loopP (k + 1) (by (try dsimp only); omega) (sub_cons rfl (sub_cons rfl (sub_nil _))) (by refine (sub_cons ?_ (sub_cons ?_ (sub_nil _))) <;> (rfl)) ?_ (by (exact fun _ h => h))
    (try dsimp only)
    omega
  · (try simp only [sB] at hc8)
    refine WC.exit ?_
    refine WX.then_exit ?_
    refine WX.then_exit ?_
    refine WX.block_exit ?_
    obtain rfl : k = a.length := by omega
    refine WX.then_normal ?_
    refine WC.sr ?_
    refine WL.r rfl rfl rfl (rd_move rfl rfl) ?_
    refine WL.r rfl rfl rfl (rd_assign rfl rfl) ?_
    refine WL.nt ?_
    refine WC.ret ?_
    exact WX.retN rfl (.tmp rfl .nil) fun w' hS => ⟨by rw [List.take_length]; rfl, hS.below⟩
theorem rsmall_c {a : Bs} {w : World} :
    Calls Tryz.prog 107 #[.string (S a)] w fun e w' => e = .returned (.tuple #[.int .u64 ((smallN a).1 : Int), .bool (smallN a).2]) ∧ Below w.heap.size w w' := by
  refine enter (S := St (fun _ => True) w [] ([])) (L := [(0, .string (S a))]) Tryz.func107 rfl Tryz.ntmps107 rfl (args_cons rfl (args_nil _)) (St.start (fun _ _ => trivial) facts_nil) ?_
  refine WC.sr ?_
  refine WL.r rfl rfl rfl (rd_assign rfl rfl) ?_
  refine WL.r rfl rfl rfl (rd_assign rfl rfl) ?_
  refine WL.nt ?_
  refine WC.seq ?_
  refine WC.sr ?_
  refine WL.r rfl rfl rfl (rd_move rfl rfl) ?_
  refine WL.g rfl rfl rfl (og_call rfl rfl (by kernel_rfl) (keep_val fun w hS => rvalid_c)) ?_
  intro _
  refine WL.r rfl rfl rfl (rd_not rfl rfl) ?_
  refine WL.r rfl rfl rfl (rd_move rfl rfl) ?_
  refine WL.bool 7 rfl (fun hg7 => ?_) (fun hg7 => ?_)
  · (try simp only [sB] at hg7)
    refine WL.s rfl rfl rfl ?_
    refine WL.s rfl rfl rfl ?_
    refine WL.s rfl rfl rfl ?_
    refine WL.r rfl rfl rfl (rd_pickt rfl rfl rfl) ?_
    refine WL.nt ?_
    refine WC.cond rfl (fun _ => ?_) (fun h => by cases h)
    refine WC.sr ?_
    refine WL.r rfl rfl rfl (rd_assign rfl rfl) ?_
    refine WL.r rfl rfl rfl (rd_assign rfl rfl) ?_
    refine WL.nt ?_
    refine WC.ret ?_
    refine WX.then_ret ?_
    exact WX.retN rfl (.tmp rfl (.tmp rfl .nil)) fun w' hS => ⟨by rw [smallN, if_neg (by simp_all <;> omega)]; rfl, hS.below⟩
  · (try simp only [sB] at hg7)
    refine WL.r rfl rfl rfl (rd_move rfl rfl) ?_
    refine WL.r rfl rfl rfl (rd_slen rfl rfl Tryz.underlying22) ?_
    refine WL.r rfl rfl rfl (rd_gtr rfl rfl rfl) ?_
    refine WL.r rfl rfl rfl (rd_pickf rfl rfl rfl) ?_
    refine WL.nt ?_
    refine WC.cond rfl (fun hc11 => ?_) (fun hc11 => ?_)
    · (try simp only [sB] at hc11)
      refine WC.sr ?_
      refine WL.r rfl rfl rfl (rd_assign rfl rfl) ?_
      refine WL.r rfl rfl rfl (rd_assign rfl rfl) ?_
      refine WL.nt ?_
      refine WC.ret ?_
      refine WX.then_ret ?_
      exact WX.retN rfl (.tmp rfl (.tmp rfl .nil)) fun w' hS => ⟨by rw [smallN, if_neg (by simp_all <;> omega)]; rfl, hS.below⟩
    · (try simp only [sB] at hc11)
      have hok : okN a ∧ a.length ≤ 8 := ⟨by simp_all, by omega⟩
      have hal := hok.2
      refine WC.skip ?_
      refine WX.then_normal ?_
      refine WC.sr ?_
      refine WL.r rfl rfl rfl (rd_move rfl rfl) ?_
      refine WL.g rfl rfl rfl (og_call rfl rfl (by kernel_rfl) (keep_val fun w hS => ru64_c (by assumption))) ?_
      intro _
      refine WL.r rfl rfl rfl (rd_assign rfl rfl) ?_
      refine WL.r rfl rfl rfl (rd_assign rfl rfl) ?_
      refine WL.nt ?_
      refine WC.ret ?_
      exact WX.retN rfl (.tmp rfl (.tmp rfl .nil)) fun w' hS => ⟨by rw [smallN, if_pos hok]; rfl, hS.below⟩
/-! products -/
theorem u8_mod {x y : Nat} (h : x % 256 = y % 256) : UInt8.ofNat x = UInt8.ofNat y := UInt8.toNat.inj (by rw [UInt8.toNat_ofNat', UInt8.toNat_ofNat']; exact h)
def cols (c : List Nat) : List Value := c.map fun (x : Nat) => .int .i64 (x : Int)
theorem cols_rep (n : Nat) : cols (List.replicate n 0) = List.replicate n (.int .i64 0) := by simp [cols]
theorem cols_set (c : List Nat) (i y : Nat) : (cols c).set i (.int .i64 (y : Int)) = cols (c.set i y) := by simp [cols, List.map_set]
theorem cols_len (c : List Nat) : (cols c).length = c.length := by simp [cols]
theorem cols_get (c : List Nat) (i : Nat) (h : i < c.length) : (cols c)[i]? = some (.int .i64 (c.getD i 0 : Int)) := by
  simp [cols, List.getElem?_map, List.getElem?_eq_getElem h, List.getD_eq_getElem?_getD]
theorem product_c {a b : Bs} {p : Nat} {cs : List Value} {ok : Nat → Prop} {w0 : World} {fs : List Fact} {w : World} (hS0 : St ok w0 ([⟨some p, cs, 85⟩]) (fs) w) (hcs : cs.length = 256) (ha : a.length ≤ 128) (hb : b.length ≤ 128) :
    Calls Tryz.prog 39 #[.string (S a), .string (S b), .pointer (some ⟨p, 0, none⟩)] w fun e w' => ∃ c : List Nat, e = .returned (.string (S (canon (val a * val b)))) ∧ St ok w0 [⟨some p, cols c, 85⟩] fs w' := by
  refine enter (S := St ok w0 ([⟨some p, cs, 85⟩]) (fs)) (L := [(0, .string (S a)), (1, .string (S b)), (2, .pointer (some ⟨p, 0, none⟩))]) Tryz.func39 rfl Tryz.ntmps39 rfl (args_cons rfl (args_cons rfl (args_cons rfl (args_nil _)))) hS0 ?_
  refine WC.sr ?_
  refine WL.r rfl rfl rfl (rd_assign rfl rfl) ?_
  refine WL.nt ?_
  refine WC.sr ?_
  refine WL.r rfl rfl rfl (rd_move rfl rfl) ?_
  refine WL.r rfl rfl rfl (rd_nil rfl rfl) ?_
  refine WL.r rfl rfl rfl (rd_sla rfl rfl Tryz.underlying85 (by kernel_rfl : _ = some 1)) ?_
  refine WL.g0 rfl rfl (clr rfl rfl .tc Tryz.underlying107 (by kernel_rfl : _ = some (some (.int .i64 0), 1, 8)) rfl rfl ?_ ?_ (show _ = cols (List.replicate 256 0) by rw [cols_rep, List.take_zero, List.drop_eq_nil_of_le (by omega), List.append_nil, List.nil_append])) ?_
  · decide
  · omega
  intro _
  refine WL.nt ?_
  refine WC.seq ?_
  refine WC.sr ?_
  refine WL.r rfl rfl rfl (rd_move rfl rfl) ?_
  refine WL.r rfl rfl rfl (rd_slen rfl rfl Tryz.underlying22) ?_
  refine WL.r rfl rfl rfl (rd_move rfl rfl) ?_
  refine WL.nt ?_
  refine WC.block ?_
  refine WC.loopO (σ := Nat × (List Nat)) [(0, _), (1, _), (2, _), (6, _), (18, _)] (fun g => [(19, .int .i64 (g.1 : Int))]) (fun g => g.1 ≤ a.length ∧ ColInv 256 (val a) (val b) g.1 0 g.2) (fun g => a.length - g.1) (fun g => [⟨some p, cols g.2, 85⟩]) (fun g => fs) (0, List.replicate 256 0) (sub_cons rfl (sub_cons rfl (sub_cons rfl (sub_cons rfl (sub_cons rfl (sub_nil _)))))) (sub_cons rfl (sub_nil _)) (by (try dsimp only); exact ⟨Nat.zero_le _, col_start _ _ _⟩) (by (exact fun _ h => h)) ?_
  rintro ⟨i, c⟩ hinv1; (try dsimp only at hinv1 ⊢)
  obtain ⟨hi, hci⟩ := hinv1
  refine WC.sr ?_
  refine WL.r rfl rfl rfl (rd_lss rfl rfl rfl) ?_
  refine WL.nt ?_
  refine WC.seq ?_
  refine WC.cond rfl (fun hc20 => ?_) (fun hc20 => ?_)
  · (try simp only [sB] at hc20)
    refine WC.skip ?_
    refine WX.then_normal ?_
    refine WC.seq ?_
    refine WC.block ?_
    refine WC.sr ?_
    refine WL.r rfl rfl rfl (rd_move rfl rfl) ?_
    refine WL.r rfl rfl rfl (rd_assign rfl rfl) ?_
    refine WL.nt ?_
    refine WC.sr ?_
    refine WL.r rfl rfl rfl (rd_move rfl rfl) ?_
    refine WL.r rfl rfl rfl (rd_move rfl rfl) ?_
    refine WL.g rfl rfl rfl (og_call rfl rfl (by kernel_rfl) (keep_val fun w hS => digit_c (a := a) (i := i) (by omega) (by omega))) ?_
    intro _
    refine WL.r rfl rfl rfl (rd_assign rfl rfl) ?_
    refine WL.nt ?_
    refine WC.sr ?_
    refine WL.r rfl rfl rfl (rd_move rfl rfl) ?_
    refine WL.r rfl rfl rfl (rd_slen rfl rfl Tryz.underlying22) ?_
    refine WL.r rfl rfl rfl (rd_move rfl rfl) ?_
    refine WL.nt ?_
    refine WC.block ?_
    refine WC.loopO (σ := Nat × (List Nat)) [(0, _), (1, _), (2, _), (6, _), (7, _), (8, _), (18, _), (19, _), (20, _), (21, _), (22, _), (23, _), (24, _), (25, _), (26, _)] (fun g => [(27, .int .i64 (g.1 : Int))]) (fun g => g.1 ≤ b.length ∧ ColInv 256 (val a) (val b) i g.1 g.2) (fun g => b.length - g.1) (fun g => [⟨some p, cols g.2, 85⟩]) (fun g => fs) (0, c) (sub_cons rfl (sub_cons rfl (sub_cons rfl (sub_cons rfl (sub_cons rfl (sub_cons rfl (sub_cons rfl (sub_cons rfl (sub_cons rfl (sub_cons rfl (sub_cons rfl (sub_cons rfl (sub_cons rfl (sub_cons rfl (sub_cons rfl (sub_nil _)))))))))))))))) (sub_cons rfl (sub_nil _)) (by (try dsimp only); exact ⟨Nat.zero_le _, hci⟩) (by (exact fun _ h => h)) ?_
    rintro ⟨k, c2⟩ hinv2; (try dsimp only at hinv2 ⊢)
    obtain ⟨hk, hck⟩ := hinv2
    refine WC.sr ?_
    refine WL.r rfl rfl rfl (rd_lss rfl rfl rfl) ?_
    refine WL.nt ?_
    refine WC.seq ?_
    refine WC.cond rfl (fun hc28 => ?_) (fun hc28 => ?_)
    · (try simp only [sB] at hc28)
      have hcl := hck.len
      have hca := col_add hck (by omega) (i + k)
      have hcs2 := col_step hck (by omega)
      refine WC.skip ?_
      refine WX.then_normal ?_
      refine WC.seq ?_
      refine WC.block ?_
      refine WC.sr ?_
      refine WL.r rfl rfl rfl (rd_move rfl rfl) ?_
      refine WL.r rfl rfl rfl (rd_assign rfl rfl) ?_
      refine WL.nt ?_
      refine WC.free0 [8, 9, 10, 0, 1, 2, 3, 4, 5, 6, 7, 11, 12, 13, 14] [15] [0, 0, 0, 0, 0, 0, 0, 0, 0, 0, 1, 0, 0, 0, 0, 2] (by kernel_rfl) (by kernel_rfl) rfl ?_
      refine WJ.r rfl rfl rfl rfl rfl (rd_move rfl rfl) ?_
      refine WJ.r rfl rfl rfl rfl rfl (rd_move rfl rfl) ?_
      refine WJ.gv rfl rfl rfl rfl rfl (fun ext => og_call rfl rfl (by kernel_rfl) (keep_val fun w hS => digit_c (a := b) (i := k) (by omega) (by omega))) ?_
      refine WJ.r rfl rfl rfl rfl rfl (rd_move rfl rfl) ?_
      refine WJ.r rfl rfl rfl rfl rfl (rd_move rfl rfl) ?_
      refine WJ.r rfl rfl rfl rfl rfl (rd_move rfl rfl) ?_
      (refine WJ.r rfl rfl rfl rfl rfl (rd_add64n rfl rfl rfl ?_) ?_; (focus (omega)))
      refine WJ.r rfl rfl rfl rfl rfl (rd_nil rfl rfl) ?_
      refine WJ.r rfl rfl rfl rfl rfl (rd_iaa rfl rfl rfl Tryz.underlying85 (by kernel_rfl : _ = some 1) ?_ (by (try simp only [sN, Int.reduceToNat, Nat.reduceAdd, Nat.reduceMul, Nat.reduceSub]); rfl)) ?_
      · omega
      refine WJ.r rfl rfl rfl rfl rfl (ld rfl rfl .tc Tryz.underlying3 rfl (cols_get c2 _ (by omega))) ?_
      refine WJ.r rfl rfl rfl rfl rfl (rd_move rfl rfl) ?_
      (refine WJ.r rfl rfl rfl rfl rfl (rd_mul64n rfl rfl rfl ?_) ?_; (focus (omega)))
      (refine WJ.r rfl rfl rfl rfl rfl (rd_add64n rfl rfl rfl ?_) ?_; (focus (omega)))
      refine WJ.r rfl rfl rfl rfl rfl (rd_nil rfl rfl) ?_
      refine WJ.r rfl rfl rfl rfl rfl (rd_iaa rfl rfl rfl Tryz.underlying85 (by kernel_rfl : _ = some 1) ?_ (by (try simp only [sN, Int.reduceToNat, Nat.reduceAdd, Nat.reduceMul, Nat.reduceSub]); rfl)) ?_
      · omega
      refine WJ.nil ?_
      refine WL.g0 rfl rfl (st rfl rfl rfl .tc (by kernel_rfl) rfl ?_ (by rfl)) ?_
      · rw [cols_len]; omega
      intro _
      rw [cols_set]
      refine WL.nil ?_
      refine WX.block_normal ?_
      refine WX.then_normal ?_
      refine WC.region ?_
      (refine WL.r rfl rfl rfl (rd_add64nl rfl rfl rfl ?_) ?_; (focus (omega)))
      refine WL.r rfl rfl rfl (rd_move rfl rfl) ?_
      refine WL.nil ?_
      refine WX.loopO ((k + 1, c2.set (i + k) (c2.getD (i + k) 0 + val a / 256 ^ i % 256 * (val b / 256 ^ k % 256)))) (by (try dsimp only); omega) (sub_cons rfl (sub_cons rfl (sub_cons rfl (sub_cons rfl (sub_cons rfl (sub_cons rfl (sub_cons rfl (sub_cons rfl (sub_cons rfl (sub_cons rfl (sub_cons rfl (sub_cons rfl (sub_cons rfl (sub_cons rfl (sub_cons rfl (sub_nil _)))))))))))))))) (by refine (sub_cons ?_ (sub_nil _)) <;> (rfl)) ?_ (by (exact fun _ h => h))
      (try dsimp only)
      exact ⟨by omega, hcs2⟩
    · (try simp only [sB] at hc28)
      refine WC.exit ?_
      refine WX.then_exit ?_
      refine WX.then_exit ?_
      refine WX.block_exit ?_
      obtain rfl : k = b.length := by omega
      have hrow := col_row hck (val_lt b)
      refine WX.block_normal ?_
      refine WX.then_normal ?_
      refine WC.region ?_
      (refine WL.r rfl rfl rfl (rd_add64nl rfl rfl rfl ?_) ?_; (focus (omega)))
      refine WL.r rfl rfl rfl (rd_move rfl rfl) ?_
      refine WL.nil ?_
      refine WX.loopO ((i + 1, c2)) (by (try dsimp only); omega) (sub_cons rfl (sub_cons rfl (sub_cons rfl (sub_cons rfl (sub_cons rfl (sub_nil _)))))) (by refine (sub_cons ?_ (sub_nil _)) <;> (rfl)) ?_ (by (exact fun _ h => h))
      (try dsimp only)
      exact ⟨by omega, hrow⟩
  · (try simp only [sB] at hc20)
    refine WC.exit ?_
    refine WX.then_exit ?_
    refine WX.then_exit ?_
    refine WX.block_exit ?_
    obtain rfl : i = a.length := by omega
    have hev := col_end hci (val_lt a)
    have hcl := hci.len
    obtain ⟨V, hV⟩ : ∃ V, V = val a * val b := ⟨_, rfl⟩
    rw [← hV] at hev
    have hVl : V < 256 ^ (a.length + b.length) := by rw [hV, Nat.pow_add]; exact Nat.mul_lt_mul'' (val_lt a) (val_lt b)
    refine WX.then_normal ?_
    refine WC.sr ?_
    refine WL.r rfl rfl rfl (rd_move rfl rfl) ?_
    refine WL.r rfl rfl rfl (rd_slen rfl rfl Tryz.underlying22) ?_
    refine WL.r rfl rfl rfl (rd_move rfl rfl) ?_
    refine WL.r rfl rfl rfl (rd_slen rfl rfl Tryz.underlying22) ?_
    (refine WL.r rfl rfl rfl (rd_add64n rfl rfl rfl ?_) ?_; (focus (omega)))
    refine WL.r rfl rfl rfl (rd_assign rfl rfl) ?_
    refine WL.nt ?_
    refine WC.sr ?_
    refine WL.r rfl rfl rfl (rd_move rfl rfl) ?_
    refine WL.g rfl rfl rfl (og_mk rfl rfl rfl Tryz.underlying79 (by kernel_rfl : _ = some (some (.int .u8 0), 1, 1)) rfl ?_ (by (try simp only [sN, Int.reduceToNat, Nat.reduceAdd, Nat.reduceMul, Nat.reduceSub]); rfl) (by (try simp only [sN, Int.reduceToNat, Nat.reduceAdd, Nat.reduceMul, Nat.reduceSub]); rfl)) ?_
    · omega
    intro b53
    refine WL.r rfl rfl rfl (rd_assign rfl rfl) ?_
    refine WL.nt ?_
    refine WC.sr ?_
    refine WL.r rfl rfl rfl (rd_assign rfl rfl) ?_
    refine WL.nt ?_
    refine WC.seq ?_
    refine WC.sr ?_
    refine WL.r rfl rfl rfl (rd_move rfl rfl) ?_
    refine WL.r rfl rfl rfl (rd_move rfl rfl) ?_
    refine WL.nt ?_
    refine WC.block ?_
    refine WC.loopO (σ := Nat × Nat) [(2, _), (6, _), (10, _), (11, _), (54, _)] (fun g => [(12, .int .i64 (g.2 : Int)), (55, .int .i64 (g.1 : Int))]) (fun g => g.1 ≤ a.length + b.length ∧ g.2 = colC 256 c g.1) (fun g => a.length + b.length - g.1) (fun g => [⟨some b53, lowB (a.length + b.length) g.1 V, 5⟩, ⟨some p, cols c, 85⟩]) (fun g => fs) (0, 0) (sub_cons rfl (sub_cons rfl (sub_cons rfl (sub_cons rfl (sub_cons rfl (sub_nil _)))))) (sub_cons rfl (sub_cons rfl (sub_nil _))) (by (try dsimp only); exact ⟨Nat.zero_le _, (colC_zero 256 c).symm⟩) (by exact fun w h => by rw [lowB_zero]; exact h) ?_
    rintro ⟨i, cy⟩ hinv3; (try dsimp only at hinv3 ⊢)
    obtain ⟨hi, hcy⟩ := hinv3
    refine WC.sr ?_
    refine WL.r rfl rfl rfl (rd_lss rfl rfl rfl) ?_
    refine WL.nt ?_
    refine WC.seq ?_
    refine WC.cond rfl (fun hc56 => ?_) (fun hc56 => ?_)
    · (try simp only [sB] at hc56)
      have hcc := col_carry (i := i) hci (by omega) (by omega)
      have hcs3 := colC_succ 256 (by decide) c i (by omega)
      have hcd := colC_digit 256 (by decide) c i (by omega)
      rw [← hcy] at hcc hcs3 hcd
      rw [hev] at hcd
      refine WC.skip ?_
      refine WX.then_normal ?_
      refine WC.seq ?_
      refine WC.block ?_
      refine WC.sr ?_
      refine WL.r rfl rfl rfl (rd_move rfl rfl) ?_
      refine WL.r rfl rfl rfl (rd_assign rfl rfl) ?_
      refine WL.nt ?_
      refine WC.sr ?_
      refine WL.r rfl rfl rfl (rd_move rfl rfl) ?_
      refine WL.r rfl rfl rfl (rd_move rfl rfl) ?_
      refine WL.r rfl rfl rfl (rd_move rfl rfl) ?_
      refine WL.r rfl rfl rfl (rd_nil rfl rfl) ?_
      refine WL.r rfl rfl rfl (rd_iaa rfl rfl rfl Tryz.underlying85 (by kernel_rfl : _ = some 1) ?_ (by (try simp only [sN, Int.reduceToNat, Nat.reduceAdd, Nat.reduceMul, Nat.reduceSub]); rfl)) ?_
      · omega
      refine WL.r rfl rfl rfl (ld rfl rfl .tc Tryz.underlying3 rfl (cols_get c _ (by omega))) ?_
      (refine WL.r rfl rfl rfl (rd_add64n rfl rfl rfl ?_) ?_; (focus (omega)))
      refine WL.r rfl rfl rfl (rd_assign rfl rfl) ?_
      refine WL.nt ?_
      refine WC.sr ?_
      refine WL.r rfl rfl rfl (rd_move rfl rfl) ?_
      refine WL.r rfl rfl rfl (rd_move rfl rfl) ?_
      (refine WL.r rfl rfl rfl (rd_sub64nl rfl rfl rfl ?_) ?_; (focus (omega)))
      refine WL.r rfl rfl rfl (rd_move rfl rfl) ?_
      (refine WL.r rfl rfl rfl (rd_sub64n rfl rfl rfl ?_) ?_; (focus (omega)))
      refine WL.r rfl rfl rfl (rd_move rfl rfl) ?_
      (refine WL.r rfl rfl rfl (rd_convB rfl rfl Tryz.underlying3 Tryz.underlying5) ?_)
      refine WL.set 71 rfl (v' := B (UInt8.ofNat (V / 256 ^ i))) (by exact congrArg (fun b : UInt8 => B b) (u8_mod hcd.symm)) ?_
      (refine WL.r rfl rfl rfl (rd_ia rfl rfl rfl Tryz.underlying79 (by kernel_rfl : _ = some 1) ?_ (by (try simp only [sN, Int.reduceToNat, Nat.reduceAdd, Nat.reduceMul, Nat.reduceSub]); rfl)) ?_; (focus (omega)))
      refine WL.g0 rfl rfl (st rfl rfl rfl .tc (by kernel_rfl) rfl ?_ (by rfl)) ?_
      · rw [lowB_len _ _ _ (by omega)]; omega
      intro _
      refine WL.nt ?_
      refine WC.region ?_
      refine WL.r rfl rfl rfl (rd_move rfl rfl) ?_
      (refine WL.r rfl rfl rfl (rd_shrW (c := 8) rfl rfl rfl ?_) ?_; (focus (decide)))
      refine WL.r rfl rfl rfl (rd_assign rfl rfl) ?_
      refine WL.nil ?_
      refine WX.block_normal ?_
      refine WX.then_normal ?_
      refine WC.region ?_
      (refine WL.r rfl rfl rfl (rd_add64nl rfl rfl rfl ?_) ?_; (focus (omega)))
      refine WL.r rfl rfl rfl (rd_move rfl rfl) ?_
      refine WL.nil ?_
      refine WX.loopO ((i + 1, (cy + c.getD i 0) / 256)) (by (try dsimp only); omega) (sub_cons rfl (sub_cons rfl (sub_cons rfl (sub_cons rfl (sub_cons rfl (sub_nil _)))))) (by refine (sub_cons ?_ (sub_cons ?_ (sub_nil _))) <;> (rfl)) ?_ (by exact fun w h => by rw [← lowB_set (a.length + b.length) i V (by omega)]; exact h)
      (try dsimp only)
      exact ⟨by omega, hcs3.symm⟩
    · (try simp only [sB] at hc56)
      refine WC.exit ?_
      refine WX.then_exit ?_
      refine WX.then_exit ?_
      refine WX.block_exit ?_
      obtain rfl : i = a.length + b.length := by omega
      rw [lowB_full]
      have hbl := be_len (a.length + b.length) V
      refine WX.then_normal ?_
      refine WC.sr ?_
      refine WL.r rfl rfl rfl (rd_move rfl rfl) ?_
      refine WL.g rfl rfl rfl (og_call rfl rfl (by kernel_rfl) (keep_val fun w hS => trimmed_c (b := be (a.length + b.length) V) (by (exact hS.os)) (by omega) (by omega) (by omega))) ?_
      intro _
      refine WL.r rfl rfl rfl (rd_assign rfl rfl) ?_
      refine WL.nt ?_
      refine WC.ret ?_
      exact WX.retN rfl (.tmp rfl .nil) fun w' hS => ⟨c, by rw [val_be, Nat.mod_eq_of_lt hVl, hV]; rfl, st_sub _ hS⟩
end Go.Proofs.YtbcnnkcddilfjaaGreat
