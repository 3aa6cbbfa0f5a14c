/-
  The reference's attempts at a coin.
-/
import Derived.Test.YtikcjkifhliidaaDoorCoi1
import Derived.Lib.ItoaNum
namespace Go.Proofs.YtikcjkifhliidaaDoor
set_option linter.unusedSimpArgs false
set_option linter.unusedVariables false
set_option maxRecDepth 20000
set_option maxHeartbeats 600000
open Go.RowKit

theorem dig10 : ∀ n, n < 10 → (([48, 49, 50, 51, 52, 53, 54, 55, 56, 57] : Bs).drop n).take 1 = [UInt8.ofNat (48 + n)] := by decide
theorem dec_big {n : Nat} (h : ¬ n < 10) : Lib.decDigits n = Lib.decDigits (n / 10) ++ [UInt8.ofNat (48 + n % 10)] := by rw [Lib.decDigits, dif_neg h]
theorem dec_small {n : Nat} (h : n < 10) : Lib.decDigits n = [UInt8.ofNat (48 + n)] := by rw [Lib.decDigits, dif_pos h]
theorem dec_len : ∀ n : Nat, (Lib.decDigits n).length ≤ n + 1
  | n => by
    by_cases h : n < 10
    · rw [dec_small h]; simp
    · rw [dec_big h, List.length_append]
      have := dec_len (n / 10)
      simp; omega
theorem dec_len20 : ∀ (k n : Nat), n < 10 ^ (k + 1) → (Lib.decDigits n).length ≤ k + 1
  | 0, n, h => by rw [dec_small (by simpa using h)]; simp
  | k + 1, n, h => by
    by_cases h' : n < 10
    · rw [dec_small h']; simp
    · rw [dec_big h', List.length_append]
      have := dec_len20 k (n / 10) (by rw [Nat.pow_succ] at h; omega)
      simp; omega
theorem dec_n {n : Nat} {w : World} (hih : ∀ m, m < n → ∀ w, Calls Tryd.prog 77 #[.int .i64 (m : Int)] w fun e w' => e = .returned (.string (S (Lib.decDigits m))) ∧ Below w.heap.size w w') (hn : n < 10000000000000000000) (hn2 : n ≤ 9223372036854775807) :
    Calls Tryd.prog 77 #[.int .i64 (n : Int)] w fun e w' => e = .returned (.string (S (Lib.decDigits n))) ∧ Below w.heap.size w w' := by
  refine enter (S := St (fun _ => True) w [] ([])) (L := [(0, .int .i64 (n : Int))]) Tryd.func77 rfl Tryd.ntmps77 rfl (args_cons rfl (args_nil _)) (St.start (fun _ _ => trivial) facts_nil) ?_
  refine WC.sr ?_
  refine WL.r rfl rfl rfl (rd_assign rfl rfl) ?_
  refine WL.nt ?_
  refine WC.seq ?_
  refine WC.sr ?_
  refine WL.r rfl rfl rfl (rd_move rfl rfl) ?_
  refine WL.r rfl rfl rfl (rd_lss rfl rfl rfl) ?_
  refine WL.nt ?_
  refine WC.cond rfl (fun hc5 => by exfalso; (try simp only [sB] at hc5); omega) (fun hc5 => ?_)
  (try simp only [sB] at hc5)
  refine WC.skip ?_
  refine WX.then_normal ?_
  refine WC.seq ?_
  refine WC.sr ?_
  refine WL.r rfl rfl rfl (rd_move rfl rfl) ?_
  refine WL.r rfl rfl rfl (rd_lss rfl rfl rfl) ?_
  refine WL.nt ?_
  refine WC.cond rfl (fun hc24 => ?_) (fun hc24 => ?_)
  · (try simp only [sB] at hc24)
    refine WC.sr ?_
    refine WL.r rfl rfl rfl (rd_move rfl rfl) ?_
    refine WL.r rfl rfl rfl (rd_move rfl rfl) ?_
    (refine WL.r rfl rfl rfl (rd_add64nl rfl rfl rfl ?_) ?_; (focus (omega)))
    refine WL.r rfl rfl rfl (rd_ss rfl rfl rfl rfl Tryd.underlying9 ?_) ?_
    · (try simp only [List.length_append, List.length_cons, List.length_nil]); omega
    refine WL.set 28 rfl (v' := .string (S ([UInt8.ofNat (48 + n)]))) (congrArg (fun l => Value.string (S l)) (by (have := dig10 n (by omega); rw [← this]; rw [Int.toNat_natCast, Int.toNat_natCast, Nat.add_sub_cancel_left]))) ?_
    refine WL.r rfl rfl rfl (rd_assign rfl rfl) ?_
    refine WL.nt ?_
    refine WC.ret ?_
    refine WX.then_ret ?_
    exact WX.retN rfl (.tmp rfl .nil) fun w' hS => ⟨by rw [dec_small (by omega)]; rfl, hS.below⟩
  · (try simp only [sB] at hc24)
    refine WC.skip ?_
    refine WX.then_normal ?_
    refine WC.seq ?_
    refine WC.free0 [0, 1, 2, 3, 4, 5, 6, 7, 8, 9, 10] [] [0, 0, 1, 0, 0, 0, 0, 0, 0, 0, 0] (by kernel_rfl) (by kernel_rfl) rfl ?_
    refine WJ.r rfl rfl rfl rfl rfl (rd_move rfl rfl) ?_
    (refine WJ.r rfl rfl rfl rfl rfl (rd_quo64nl rfl rfl rfl ?_) ?_; (focus (omega)))
    refine WJ.gv rfl rfl rfl rfl rfl (fun ext => og_call rfl rfl (by kernel_rfl) (keep_val fun w hS => hih (n / 10) (by omega) w)) ?_
    refine WJ.r rfl rfl rfl rfl rfl (rd_move rfl rfl) ?_
    (refine WJ.r rfl rfl rfl rfl rfl (rd_rem64nl rfl rfl rfl ?_) ?_; (focus (omega)))
    refine WJ.r rfl rfl rfl rfl rfl (rd_move rfl rfl) ?_
    (refine WJ.r rfl rfl rfl rfl rfl (rd_rem64nl rfl rfl rfl ?_) ?_; (focus (omega)))
    (refine WJ.r rfl rfl rfl rfl rfl (rd_add64nl rfl rfl rfl ?_) ?_; (focus (omega)))
    refine WJ.r rfl rfl rfl rfl rfl (rd_ss rfl rfl rfl rfl Tryd.underlying9 ?_) ?_
    · (try simp only [List.length_append, List.length_cons, List.length_nil]); omega
    refine WJ.set 37 rfl (v' := .string (S ([UInt8.ofNat (48 + n % 10)]))) (congrArg (fun l => Value.string (S l)) (by (have := dig10 (n % 10) (by omega); rw [← this]; rw [Int.toNat_natCast, Int.toNat_natCast, Nat.add_sub_cancel_left]))) ?_
    have hdl := dec_len20 18 (n / 10) (by omega)
    refine WJ.r rfl rfl rfl rfl rfl (rd_cat rfl rfl rfl ?_) ?_
    · ((try simp only [List.length_append, List.length_cons, List.length_nil]); omega)
    refine WJ.r rfl rfl rfl rfl rfl (rd_assign rfl rfl) ?_
    refine WJ.nil ?_
    refine WL.nt ?_
    refine WC.ret ?_
    exact WX.retN rfl (.tmp rfl .nil) fun w' hS => ⟨by rw [dec_big (n := n) (by omega)]; rfl, hS.below⟩
theorem dec_ok (n : Nat) (hn : n ≤ 9223372036854775807) : ∀ w, Calls Tryd.prog 77 #[.int .i64 (n : Int)] w fun e w' => e = .returned (.string (S (Lib.decDigits n))) ∧ Below w.heap.size w w' := by
  induction n using Nat.strongRecOn with
  | _ n ih => intro w; exact dec_n (fun m hm w => ih m hm (by omega) w) (by omega) hn
theorem dec_c {n : Nat} {w : World} (hn : n ≤ 9223372036854775807) :
    Calls Tryd.prog 77 #[.int .i64 (n : Int)] w fun e w' => e = .returned (.string (S (Lib.decDigits n))) ∧ Below w.heap.size w w' :=
  dec_ok n hn w
theorem canonical_c {s : Bs} {w : World} :
    Calls Tryd.prog 78 #[.string (S s)] w fun e w' => e = .returned (.string (S (canon (val s)))) ∧ Below w.heap.size w w' := by
  refine enter (S := St (fun _ => True) w [] ([])) (L := [(0, .string (S s))]) Tryd.func78 rfl Tryd.ntmps78 rfl (args_cons rfl (args_nil _)) (St.start (fun _ _ => trivial) facts_nil) ?_
  refine WC.sr ?_
  refine WL.r rfl rfl rfl (rd_assign rfl rfl) ?_
  refine WL.nt ?_
  refine WC.seq ?_
  refine WC.block ?_
  refine WC.loopP (σ := Bs) [(2, _)] (fun g => [(0, .string (S g))]) (fun g => trimB g = trimB s) (fun g => g.length) (s) (sub_cons rfl (sub_nil _)) (sub_cons rfl (sub_nil _)) (by (try dsimp only); all_goals rfl) ?_
  rintro t hinv1; (try dsimp only at hinv1 ⊢)
  refine WC.seq ?_
  refine WC.sr ?_
  refine WL.r rfl rfl rfl (rd_move rfl rfl) ?_
  refine WL.r rfl rfl rfl (rd_slen rfl rfl Tryd.underlying9) ?_
  refine WL.r rfl rfl rfl (rd_gtr rfl rfl rfl) ?_
  refine WL.r rfl rfl rfl (rd_move rfl rfl) ?_
  refine WL.bool 6 rfl (fun hg6 => ?_) (fun hg6 => ?_)
  · (try simp only [sB] at hg6)
    refine WL.r rfl rfl rfl (rd_move rfl rfl) ?_
    refine WL.r rfl rfl rfl (rd_sidxD rfl rfl rfl Tryd.underlying9 ?_) ?_
    · omega
    refine WL.r rfl rfl rfl (rd_eql rfl rfl rfl) ?_
    refine WL.r rfl rfl rfl (rd_pickt rfl rfl rfl) ?_
    refine WL.nt ?_
    refine WC.cond rfl (fun hc10 => ?_) (fun hc10 => ?_)
    · (try simp only [sB] at hc10)
      have hz : (t.getD 0 default).toNat = 0 := by (simp at hc10; exact hc10)
      refine WC.skip ?_
      refine WX.then_normal ?_
      refine WC.block ?_
      refine WC.region ?_
      refine WL.r rfl rfl rfl (rd_move rfl rfl) ?_
      refine WL.r rfl rfl rfl (rd_sfrom rfl rfl rfl Tryd.underlying9 ?_) ?_
      · (try simp only [List.length_append, List.length_cons, List.length_nil]); omega
      refine WL.set 12 rfl (v' := .string (S (t.drop 1))) (congrArg (fun l => Value.string (S l)) (by rfl)) ?_
      refine WL.r rfl rfl rfl (rd_assign rfl rfl) ?_
      refine WL.nil ?_
      refine WX.block_normal ?_
      refine WX.loopP (t.drop 1) (by simp only [List.length_drop]; omega) (sub_cons rfl (sub_nil _)) (by refine (sub_cons ?_ (sub_nil _)) <;> (rfl)) ?_ (by (exact fun _ h => h))
      (try dsimp only)
      rw [← trimB_zero (by omega) hz]; exact hinv1
    · (try simp only [sB] at hc10)
      refine WC.exit ?_
      refine WX.then_exit ?_
      refine WX.then_exit ?_
      refine WX.block_exit ?_
      refine WX.then_normal ?_
      refine WC.sr ?_
      refine WL.r rfl rfl rfl (rd_move rfl rfl) ?_
      refine WL.r rfl rfl rfl (rd_assign rfl rfl) ?_
      refine WL.nt ?_
      refine WC.ret ?_
      exact WX.retN rfl (.tmp rfl .nil) fun w' hS => ⟨by rw [show canon (val s) = t from by rw [← trim_canon, ← hinv1, trimB_stop (by (exact .inr (fun h0 => hc10 (by show ((t.getD 0 default).toNat : Int) = 0; omega))))]]; rfl, hS.below⟩
  · (try simp only [sB] at hg6)
    refine WL.s rfl rfl rfl ?_
    refine WL.s rfl rfl rfl ?_
    refine WL.s rfl rfl rfl ?_
    refine WL.r rfl rfl rfl (rd_pickf rfl rfl rfl) ?_
    refine WL.nt ?_
    refine WC.cond rfl (fun h => by cases h) (fun _ => ?_)
    refine WC.exit ?_
    refine WX.then_exit ?_
    refine WX.then_exit ?_
    refine WX.block_exit ?_
    refine WX.then_normal ?_
    refine WC.sr ?_
    refine WL.r rfl rfl rfl (rd_move rfl rfl) ?_
    refine WL.r rfl rfl rfl (rd_assign rfl rfl) ?_
    refine WL.nt ?_
    refine WC.ret ?_
    exact WX.retN rfl (.tmp rfl .nil) fun w' hS => ⟨by rw [show canon (val s) = t from by rw [← trim_canon, ← hinv1, trimB_stop (by (exact .inl (by omega)))]]; rfl, hS.below⟩
theorem mac_len (k s : Bs) : (mac k s).length = 32 := sha_len _
/-- the name of a block, a block, blocks -/
def nameB (at_ a b : Nat) : Bs := Lib.decDigits at_ ++ [46] ++ Lib.decDigits a ++ [46] ++ Lib.decDigits b
def blkB (sd : Bs) (at_ a b : Nat) : Bs := mac sd (nameB at_ a b)
def blks (sd : Bs) (at_ a : Nat) : Nat → Bs
  | 0 => []
  | k + 1 => blks sd at_ a k ++ blkB sd at_ a k
theorem blks_len (sd : Bs) (at_ a : Nat) : ∀ k, (blks sd at_ a k).length = 32 * k
  | 0 => rfl
  | k + 1 => by rw [blks, List.length_append, blks_len sd at_ a k, blkB, mac_len]; omega
def sizeB (nb : Nat) : Nat := (nb + 7) / 8
def bytesB (sd : Bs) (at_ a nb : Nat) : Bs := (blks sd at_ a ((sizeB nb + 31) / 32)).take (sizeB nb)
/-- the number of an attempt -/
def attS (sd : Bs) (at_ a nb : Nat) : Bs := canon (val (bytesB sd at_ a nb) % 2 ^ nb)
theorem bytesB_len (sd : Bs) (at_ a nb : Nat) : (bytesB sd at_ a nb).length = sizeB nb := by
  rw [bytesB, List.length_take, blks_len]; omega
theorem mask_val (c : UInt8) (r : Bs) (x nb : Nat) (hx : x ≤ 8) (hn : nb = 8 * r.length + x) : val (c :: r) % 2 ^ nb = c.toNat % 2 ^ x * 256 ^ r.length + val r := by
  have e : 2 ^ nb = 256 ^ r.length * 2 ^ x := by rw [hn, Nat.pow_add, Nat.pow_mul]
  have h1 := val_lt r
  rw [val, e, Nat.mod_mul, Nat.mul_comm c.toNat, Nat.mul_add_mod, Nat.mod_eq_of_lt h1, Nat.mul_add_div (p256 _), Nat.div_eq_of_lt h1, Nat.add_zero, Nat.mul_comm (c.toNat % 2 ^ x)]
  omega
theorem shl1 (i : Nat) (h : i ≤ 62) : IntKind.i64.wrap (1 * 2 ^ min ((i : Nat) : Int).toNat IntKind.i64.bits) = ((2 ^ i : Nat) : Int) := by
  have m1 : min ((i : Nat) : Int).toNat IntKind.i64.bits = i := by
    have : IntKind.i64.bits = 64 := by decide
    omega
  have h2 : 2 ^ i ≤ 2 ^ 62 := Nat.pow_le_pow_right (by decide) h
  rw [m1, Int.one_mul, show ((2 : Int) ^ i) = ((2 ^ i : Nat) : Int) by norm_cast, wrap64n _ (by omega)]
theorem mod_step (c P : Nat) (hP : 0 < P) : c % P = if P ≤ c % (2 * P) then c % (2 * P) - P else c % (2 * P) := by
  have h1 : c % (2 * P) % P = c % P := Nat.mod_mod_of_dvd _ ⟨2, by omega⟩
  have h2 := Nat.mod_lt c (show 0 < 2 * P by omega)
  split
  · rename_i h
    rw [← h1, Nat.mod_eq_sub_mod h, Nat.mod_eq_of_lt (by omega)]
  · rw [← h1, Nat.mod_eq_of_lt (by omega)]
theorem att_end {sd X : Bs} {at_ a nb Z x : Nat} (hZ : Z = sizeB nb) (hZ0 : 1 ≤ Z) (hby : bytesB sd at_ a nb = X.take Z) (hX : Z ≤ X.length) (hx : x = (X.getD 0 default).toNat % 2 ^ (8 - (8 * Z - nb))) (hnb : nb ≤ 8 * Z) (hnb2 : 8 * Z < nb + 8) :
    canon (val ([UInt8.ofNat x] ++ (X.take Z).drop 1)) = attS sd at_ a nb := by
  have e : X.take Z = X.getD 0 default :: (X.take Z).drop 1 := by
    cases X with
    | nil => simp at hX; omega
    | cons c s => obtain ⟨q, rfl⟩ : ∃ q, Z = q + 1 := ⟨Z - 1, by omega⟩; rfl
  have hl : ((X.take Z).drop 1).length = Z - 1 := by rw [List.length_drop, List.length_take]; omega
  have hc := (X.getD 0 default).toNat_lt
  have hxl : x < 256 := by rw [hx]; exact Nat.lt_of_le_of_lt (Nat.mod_le _ _) hc
  have hm := mask_val (X.getD 0 default) ((X.take Z).drop 1) (8 - (8 * Z - nb)) nb (by omega) (by rw [hl]; omega)
  rw [attS, hby]
  congr 1
  rw [show val (X.take Z) = val (X.getD 0 default :: (X.take Z).drop 1) by rw [← e], hm, List.singleton_append, val, UInt8.toNat_ofNat', ← hx]
  congr 1
  rw [Nat.mod_eq_of_lt (by omega)]
theorem rattempt_c {sd : Bs} {at_ a nb : Nat} {w : World} (hsd : sd.length ≤ 400000) (hat : at_ ≤ 4294967296) (ha : a ≤ 1000) (hnb : 1 ≤ nb) (hnb2 : nb ≤ 100000) :
    Calls Tryd.prog 54 #[.string (S sd), .int .i64 (at_ : Int), .int .i64 (a : Int), .int .i64 (nb : Int)] w fun e w' => e = .returned (.string (S (attS sd at_ a nb))) ∧ Below w.heap.size w w' := by
  have hd1 := dec_len20 18 at_ (by omega); have hd2 := dec_len20 18 a (by omega)
  obtain ⟨Z, hZ⟩ : ∃ Z : Nat, Z = sizeB nb := ⟨_, rfl⟩
  have hZ1 : Z = (nb + 7) / 8 := hZ
  have hZ0 : 1 ≤ Z := by omega
  have hZl : Z ≤ 20000 := by omega
  refine enter (S := St (fun _ => True) w [] ([])) (L := [(0, .string (S sd)), (1, .int .i64 (at_ : Int)), (2, .int .i64 (a : Int)), (3, .int .i64 (nb : Int))]) Tryd.func54 rfl Tryd.ntmps54 rfl (args_cons rfl (args_cons rfl (args_cons rfl (args_cons rfl (args_nil _))))) (St.start (fun _ _ => trivial) facts_nil) ?_
  refine WC.sr ?_
  refine WL.r rfl rfl rfl (rd_assign rfl rfl) ?_
  refine WL.nt ?_
  refine WC.sr ?_
  refine WL.r rfl rfl rfl (rd_move rfl rfl) ?_
  (refine WL.r rfl rfl rfl (rd_add64nl rfl rfl rfl ?_) ?_; (focus (omega)))
  (refine WL.r rfl rfl rfl (rd_quo64nl rfl rfl rfl ?_) ?_; (focus (omega)))
  refine WL.set 16 rfl (v' := .int .i64 ((Z : Nat) : Int)) (congrArg (Value.int .i64) (by omega)) ?_
  refine WL.r rfl rfl rfl (rd_assign rfl rfl) ?_
  refine WL.nt ?_
  refine WC.sr ?_
  refine WL.r rfl rfl rfl (rd_assign rfl rfl) ?_
  refine WL.nt ?_
  refine WC.seq ?_
  refine WC.sr ?_
  refine WL.r rfl rfl rfl (rd_assign rfl rfl) ?_
  refine WL.nt ?_
  refine WC.block ?_
  refine WC.loopP (σ := Nat) [(0, _), (1, _), (2, _), (3, _), (8, _), (9, _)] (fun g => [(10, .string (S (blks sd at_ a g))), (11, .int .i64 (g : Int))]) (fun g => g ≤ (Z + 31) / 32) (fun g => Z - 32 * g) (0) (sub_cons rfl (sub_cons rfl (sub_cons rfl (sub_cons rfl (sub_cons rfl (sub_cons rfl (sub_nil _))))))) (sub_cons rfl (sub_cons rfl (sub_nil _))) (by (try dsimp only); exact Nat.zero_le _) ?_
  rintro k hinv1; (try dsimp only at hinv1 ⊢)
  refine WC.seq ?_
  refine WC.sr ?_
  refine WL.r rfl rfl rfl (rd_move rfl rfl) ?_
  refine WL.r rfl rfl rfl (rd_slen rfl rfl Tryd.underlying9) ?_
  refine WL.r rfl rfl rfl (rd_move rfl rfl) ?_
  refine WL.r rfl rfl rfl (rd_lss rfl rfl rfl) ?_
  refine WL.nt ?_
  refine WC.cond rfl (fun hc20 => ?_) (fun hc20 => ?_)
  · (try simp only [sB] at hc20)
    have hbl := blks_len sd at_ a k
    have hd3 := dec_len20 18 k (by omega)
    have hml := mac_len sd (nameB at_ a k)
    refine WC.skip ?_
    refine WX.then_normal ?_
    refine WC.seq ?_
    refine WC.block ?_
    refine WC.region ?_
    refine WL.r rfl rfl rfl (rd_move rfl rfl) ?_
    refine WL.r rfl rfl rfl (rd_move rfl rfl) ?_
    refine WL.r rfl rfl rfl (rd_move rfl rfl) ?_
    refine WL.g rfl rfl rfl (og_call rfl rfl (by kernel_rfl) (keep_val fun w hS => dec_c (n := at_) (by omega))) ?_
    intro _
    refine WL.r rfl rfl rfl (rd_cat rfl rfl rfl ?_) ?_
    · ((try simp only [List.length_append, List.length_cons, List.length_nil]); omega)
    refine WL.r rfl rfl rfl (rd_move rfl rfl) ?_
    refine WL.g rfl rfl rfl (og_call rfl rfl (by kernel_rfl) (keep_val fun w hS => dec_c (n := a) (by omega))) ?_
    intro _
    refine WL.r rfl rfl rfl (rd_cat rfl rfl rfl ?_) ?_
    · ((try simp only [List.length_append, List.length_cons, List.length_nil]); omega)
    refine WL.r rfl rfl rfl (rd_cat rfl rfl rfl ?_) ?_
    · ((try simp only [List.length_append, List.length_cons, List.length_nil]); omega)
    refine WL.r rfl rfl rfl (rd_move rfl rfl) ?_
    refine WL.g rfl rfl rfl (og_call rfl rfl (by kernel_rfl) (keep_val fun w hS => dec_c (n := k) (by omega))) ?_
    intro _
    refine WL.r rfl rfl rfl (rd_cat rfl rfl rfl ?_) ?_
    · ((try simp only [List.length_append, List.length_cons, List.length_nil]); omega)
    refine WL.g rfl rfl rfl (og_call rfl rfl (by kernel_rfl) (keep_val fun w hS => rmac_c (key := sd) (s := nameB at_ a k) (by omega) (by simp only [nameB, List.length_append, List.length_cons, List.length_nil]; omega))) ?_
    intro _
    refine WL.r rfl rfl rfl (rd_cat rfl rfl rfl ?_) ?_
    · ((try simp only [List.length_append, List.length_cons, List.length_nil]); omega)
    refine WL.r rfl rfl rfl (rd_assign rfl rfl) ?_
    refine WL.nil ?_
    refine WX.block_normal ?_
    refine WX.then_normal ?_
    refine WC.region ?_
    refine WL.r rfl rfl rfl (rd_move rfl rfl) ?_
    (refine WL.r rfl rfl rfl (rd_add64nl rfl rfl rfl ?_) ?_; (focus (omega)))
    refine WL.r rfl rfl rfl (rd_assign rfl rfl) ?_
    refine WL.nil ?_
    have hbl' := blks_len sd at_ a k
    refine WX.loopP (k + 1) (by (try dsimp only); omega) (sub_cons rfl (sub_cons rfl (sub_cons rfl (sub_cons rfl (sub_cons rfl (sub_cons rfl (sub_nil _))))))) (by refine (sub_cons ?_ (sub_cons ?_ (sub_nil _))) <;> (rfl)) ?_ (by (exact fun _ h => h))
    (try dsimp only)
    omega
  · (try simp only [sB] at hc20)
    refine WC.exit ?_
    refine WX.then_exit ?_
    refine WX.then_exit ?_
    refine WX.block_exit ?_
    have hkK : k = (Z + 31) / 32 := by have hbl := blks_len sd at_ a k; omega
    have hbl := blks_len sd at_ a k
    have hby : bytesB sd at_ a nb = (blks sd at_ a k).take Z := by rw [bytesB, ← hZ, hkK]
    obtain ⟨X, hX⟩ : ∃ X, X = blks sd at_ a k := ⟨_, rfl⟩
    rw [← hX] at hby hbl ⊢
    refine WX.then_normal ?_
    refine WC.sr ?_
    refine WL.r rfl rfl rfl (rd_move rfl rfl) ?_
    refine WL.r rfl rfl rfl (rd_sidxD rfl rfl rfl Tryd.underlying9 ?_) ?_
    · omega
    refine WL.r rfl rfl rfl (rd_convN rfl rfl Tryd.underlying5 Tryd.underlying3 ?_) ?_
    · (exact wrap8_64 _)
    have hc0 := (X.getD 0 default).toNat_lt
    refine WL.set 39 rfl (v' := .int .i64 (((X.getD 0 default).toNat % 2 ^ (8 - 0) : Nat) : Int)) (congrArg (Value.int .i64) (by rw [Nat.mod_eq_of_lt (by omega)]; rfl)) ?_
    refine WL.r rfl rfl rfl (rd_assign rfl rfl) ?_
    refine WL.nt ?_
    refine WC.seq ?_
    refine WC.sr ?_
    refine WL.r rfl rfl rfl (rd_assign rfl rfl) ?_
    refine WL.set 13 rfl (v' := .int .i64 (7 - ((0 : Nat) : Int))) (congrArg (Value.int .i64) (by omega)) ?_
    refine WL.nt ?_
    refine WC.block ?_
    refine WC.loopP (σ := Nat) [(3, _), (8, _), (9, _), (10, _)] (fun g => [(12, .int .i64 (((X.getD 0 default).toNat % 2 ^ (8 - g) : Nat) : Int)), (13, .int .i64 (7 - (g : Int)))]) (fun g => g ≤ 8 * Z - nb) (fun g => 8 - g) (0) (sub_cons rfl (sub_cons rfl (sub_cons rfl (sub_cons rfl (sub_nil _))))) (sub_cons rfl (sub_cons rfl (sub_nil _))) (by (try dsimp only); exact Nat.zero_le _) ?_
    rintro j hinv2; (try dsimp only at hinv2 ⊢)
    refine WC.seq ?_
    refine WC.sr ?_
    refine WL.r rfl rfl rfl (rd_move rfl rfl) ?_
    refine WL.r rfl rfl rfl (rd_move rfl rfl) ?_
    (refine WL.r rfl rfl rfl (rd_mul64ln rfl rfl rfl ?_) ?_; (focus (omega)))
    refine WL.r rfl rfl rfl (rd_move rfl rfl) ?_
    (refine WL.r rfl rfl rfl (rd_sub64n rfl rfl rfl ?_) ?_; (focus (omega)))
    (refine WL.r rfl rfl rfl (rd_sub64ln rfl rfl rfl ?_) ?_; (focus (omega)))
    refine WL.r rfl rfl rfl (rd_geq rfl rfl rfl) ?_
    refine WL.nt ?_
    refine WC.cond rfl (fun hc46 => ?_) (fun hc46 => ?_)
    · (try simp only [sB] at hc46)
      have hj7 : j ≤ 6 := by omega
      have hms := mod_step (X.getD 0 default).toNat (2 ^ (7 - j)) (Nat.pow_pos (by decide))
      rw [show 2 * 2 ^ (7 - j) = 2 ^ (8 - j) by rw [Nat.mul_comm, ← Nat.pow_succ]; congr 1; omega, show 2 ^ (7 - j) = 2 ^ (8 - (j + 1)) by congr 1; omega] at hms
      have hpw : 2 ^ (8 - (j + 1)) ≤ 2 ^ 8 := Nat.pow_le_pow_right (by decide) (by omega)
      have hcm : (X.getD 0 default).toNat % 2 ^ (8 - j) < 256 := Nat.lt_of_le_of_lt (Nat.mod_le _ _) hc0
      refine WC.skip ?_
      refine WX.then_normal ?_
      refine WC.seq ?_
      refine WC.block ?_
      refine WC.sr ?_
      refine WL.r rfl rfl rfl (rd_move rfl rfl) ?_
      refine WL.r rfl rfl rfl (rd_move rfl rfl) ?_
      refine WL.set 50 rfl (v' := .int .i64 (((7 - j : Nat) : Int))) (congrArg (Value.int .i64) (by omega)) ?_
      refine WL.r rfl rfl rfl (rd_convN rfl rfl Tryd.underlying3 Tryd.underlying80 ?_) ?_
      · (rw [IntKind.wrap_u64]; omega)
      refine WL.r rfl rfl rfl (rd_shl rfl rfl rfl ?_) ?_
      · omega
      refine WL.set 52 rfl (v' := .int .i64 ((2 ^ (8 - (j + 1)) : Nat) : Int)) (congrArg (Value.int .i64) (by rw [shl1 _ (by omega)]; (try (congr 2; try omega)))) ?_
      refine WL.r rfl rfl rfl (rd_geq rfl rfl rfl) ?_
      refine WL.nt ?_
      refine WC.cond rfl (fun hc53 => ?_) (fun hc53 => ?_)
      · (try simp only [sB] at hc53)
        refine WC.region ?_
        refine WL.r rfl rfl rfl (rd_move rfl rfl) ?_
        refine WL.r rfl rfl rfl (rd_move rfl rfl) ?_
        refine WL.set 55 rfl (v' := .int .i64 (((7 - j : Nat) : Int))) (congrArg (Value.int .i64) (by omega)) ?_
        refine WL.r rfl rfl rfl (rd_convN rfl rfl Tryd.underlying3 Tryd.underlying80 ?_) ?_
        · (rw [IntKind.wrap_u64]; omega)
        refine WL.r rfl rfl rfl (rd_shl rfl rfl rfl ?_) ?_
        · omega
        refine WL.set 57 rfl (v' := .int .i64 ((2 ^ (8 - (j + 1)) : Nat) : Int)) (congrArg (Value.int .i64) (by rw [shl1 _ (by omega)]; (try (congr 2; try omega)))) ?_
        (refine WL.r rfl rfl rfl (rd_sub64n rfl rfl rfl ?_) ?_; (focus (omega)))
        refine WL.set 58 rfl (v' := .int .i64 (((X.getD 0 default).toNat % 2 ^ (8 - (j + 1)) : Nat) : Int)) (congrArg (Value.int .i64) (by rw [hms, if_pos (by omega)]; try omega)) ?_
        refine WL.r rfl rfl rfl (rd_assign rfl rfl) ?_
        refine WL.nil ?_
        refine WX.block_normal ?_
        refine WX.then_normal ?_
        refine WC.region ?_
        refine WL.r rfl rfl rfl (rd_move rfl rfl) ?_
        (refine WL.r rfl rfl rfl (rd_sub64 rfl rfl rfl ?_) ?_; (focus (omega)))
        refine WL.set 48 rfl (v' := .int .i64 (7 - ((j + 1 : Nat) : Int))) (congrArg (Value.int .i64) (by omega)) ?_
        refine WL.r rfl rfl rfl (rd_assign rfl rfl) ?_
        refine WL.nil ?_
        refine WX.loopP (j + 1) (by (try dsimp only); omega) (sub_cons rfl (sub_cons rfl (sub_cons rfl (sub_cons rfl (sub_nil _))))) (by refine (sub_cons ?_ (sub_cons ?_ (sub_nil _))) <;> (rfl)) ?_ (by (exact fun _ h => h))
        (try dsimp only)
        omega
      · (try simp only [sB] at hc53)
        refine WC.set 12 rfl (v' := .int .i64 (((X.getD 0 default).toNat % 2 ^ (8 - (j + 1)) : Nat) : Int)) (congrArg (Value.int .i64) (by rw [hms, if_neg (by omega)])) ?_
        refine WC.skip ?_
        refine WX.block_normal ?_
        refine WX.then_normal ?_
        refine WC.region ?_
        refine WL.r rfl rfl rfl (rd_move rfl rfl) ?_
        (refine WL.r rfl rfl rfl (rd_sub64 rfl rfl rfl ?_) ?_; (focus (omega)))
        refine WL.set 48 rfl (v' := .int .i64 (7 - ((j + 1 : Nat) : Int))) (congrArg (Value.int .i64) (by omega)) ?_
        refine WL.r rfl rfl rfl (rd_assign rfl rfl) ?_
        refine WL.nil ?_
        refine WX.loopP (j + 1) (by (try dsimp only); omega) (sub_cons rfl (sub_cons rfl (sub_cons rfl (sub_cons rfl (sub_nil _))))) (by refine (sub_cons ?_ (sub_cons ?_ (sub_nil _))) <;> (rfl)) ?_ (by (exact fun _ h => h))
        (try dsimp only)
        omega
    · (try simp only [sB] at hc46)
      refine WC.exit ?_
      refine WX.then_exit ?_
      refine WX.then_exit ?_
      refine WX.block_exit ?_
      have hjd : j = 8 * Z - nb := by omega
      have hcm : (X.getD 0 default).toNat % 2 ^ (8 - j) < 256 := Nat.lt_of_le_of_lt (Nat.mod_le _ _) hc0
      obtain ⟨x, hx⟩ : ∃ x, x = (X.getD 0 default).toNat % 2 ^ (8 - j) := ⟨_, rfl⟩
      rw [← hx] at hcm ⊢
      have hae := att_end (sd := sd) (at_ := at_) (a := a) (nb := nb) (X := X) (x := x) hZ hZ0 hby (by omega) (by rw [hx, hjd]) (by omega) (by omega)
      refine WX.then_normal ?_
      refine WC.seq ?_
      refine WC.free0 [0, 1, 2, 3, 4, 5, 6, 7, 8, 9] [] [0, 0, 5, 4, 0, 0, 0, 0, 1, 0] (by kernel_rfl) (by kernel_rfl) rfl ?_
      refine WJ.r rfl rfl rfl rfl rfl (rd_move rfl rfl) ?_
      refine WJ.r rfl rfl rfl rfl rfl (rd_convN rfl rfl Tryd.underlying3 Tryd.underlying5 ?_) ?_
      · (rw [IntKind.wrap_u8]; omega)
      refine WJ.set 60 rfl (v' := B (UInt8.ofNat x)) (by exact congrArg (Value.int .u8) (by rw [UInt8.toNat_ofNat']; omega)) ?_
      refine WJ.fz rfl rfl rfl rfl rfl (fr_bs1 rfl rfl Tryd.underlying73 (by kernel_rfl : _ = some (some (.int .u8 0), 1, 1)) rfl (by simp only [List.map]; rfl) rfl rfl ?_ (by decide)) ?_
      · simp [Value.cells, B]
      intro b61
      (refine WJ.zr rfl rfl rfl rfl rfl List.mem_cons_self (src_conv rfl rfl) (b2s (l := [UInt8.ofNat x]) rfl rfl .tc Tryd.underlying73 Tryd.underlying5 Tryd.underlying9 ?_ ?_) ?_; (focus (rfl)); (focus (rfl)))
      refine WJ.r rfl rfl rfl rfl rfl (rd_move rfl rfl) ?_
      refine WJ.r rfl rfl rfl rfl rfl (rd_move rfl rfl) ?_
      refine WJ.r rfl rfl rfl rfl rfl (rd_ss rfl rfl rfl rfl Tryd.underlying9 ?_) ?_
      · (try simp only [List.length_append, List.length_cons, List.length_nil]); omega
      refine WJ.set 65 rfl (v' := .string (S ((X.take Z).drop 1))) (congrArg (fun l => Value.string (S l)) (by rw [List.drop_take]; rfl)) ?_
      refine WJ.r rfl rfl rfl rfl rfl (rd_cat rfl rfl rfl ?_) ?_
      · simp only [List.length_append, List.length_cons, List.length_nil, List.length_drop, List.length_take]; omega
      refine WJ.gv rfl rfl rfl rfl rfl (fun ext => og_call rfl rfl (by kernel_rfl) (keep_val fun w hS => canonical_c)) ?_
      refine WJ.r rfl rfl rfl rfl rfl (rd_assign rfl rfl) ?_
      refine WJ.nilz ?_
      refine WL.nt ?_
      refine WC.ret ?_
      exact WX.retN rfl (.tmp rfl .nil) fun w' hS => ⟨by rw [hae]; rfl, hS.below⟩
end Go.Proofs.YtikcjkifhliidaaDoor
