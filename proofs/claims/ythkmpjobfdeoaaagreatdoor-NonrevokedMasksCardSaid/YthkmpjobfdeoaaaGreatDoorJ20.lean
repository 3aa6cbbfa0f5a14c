/-
  Parts of the walk: Nrt Nst Nrh Coi2 Itoa Coi3 Apps Coi4.
-/
import Derived.Test.YthkmpjobfdeoaaaGreatDoorJ19
import Derived.Lib.ItoaNum
import Derived.Lib.AppendStr
namespace Go.Proofs.YthkmpjobfdeoaaaGreatDoor
open Go.RowKit
set_option linter.unusedSimpArgs false
set_option linter.unusedVariables false
set_option maxHeartbeats 600000
set_option maxRecDepth 20000
theorem dig10 : ∀ n, n < 10 → (([48, 49, 50, 51, 52, 53, 54, 55, 56, 57] : Bs).drop n).take 1 = [UInt8.ofNat (48 + n)] := by decide
theorem dec_big {n : Nat} (h : ¬ n < 10) : Lib.decDigits n = Lib.decDigits (n / 10) ++ [UInt8.ofNat (48 + n % 10)] := by rw [Lib.decDigits, dif_neg h]
theorem dec_small {n : Nat} (h : n < 10) : Lib.decDigits n = [UInt8.ofNat (48 + n)] := by rw [Lib.decDigits, dif_pos h]
theorem dec_len20 : ∀ (k n : Nat), n < 10 ^ (k + 1) → (Lib.decDigits n).length ≤ k + 1
 | 0, n, h => by rw [dec_small (by simpa using h)]; simp
 | k + 1, n, h => by
  by_cases h' : n < 10
  ·rw [dec_small h']; simp
  ·rw [dec_big h', List.length_append]
   have := dec_len20 k (n / 10) (by rw [Nat.pow_succ] at h; omega)
   simp; omega
theorem dec_n {n : Nat} {w : World} (hih : ∀ m, m < n → ∀ w, Calls Tryz.prog 195 #[.int .i64 (m : Int)] w fun e w' => e = .returned (.string (S (Lib.decDigits m))) ∧ Below w.heap.size w w') (hn : n < 10000000000000000000) (hn2 : n ≤ 9223372036854775807) :
  Cw 195 #[.int .i64 (n : Int)] w (.string (S (Lib.decDigits n))) := by
 refine En [] [(0, .int .i64 (n : Int))] Tryz.func195 rfl Tryz.ntmps195 rfl (Ac rfl (An _)) Fn ?_
 refine Cs (Ka rfl (Nt (Cq (Cs (Km rfl (Kq rfl (rd_lss rfl rfl rfl) (Nt ?_)))))))
 refine Cd rfl (fun hc5 => by exfalso; (try simp only [sB] at hc5); omega) (fun hc5 => ?_)
 (try simp only [sB] at hc5)
 refine Ck (Xa (Cq (Cs (Km rfl (Kq rfl (rd_lss rfl rfl rfl) (Nt ?_))))))
 refine Cd rfl (fun hc24 => ?_) (fun hc24 => ?_)
 ·(try simp only [sB] at hc24)
  refine Cs (Km rfl (Km rfl (Kq rfl (Rz rfl rfl rfl (by omega)) ?_)))
  refine Kq rfl (rd_ss rfl rfl rfl rfl u9 ?_) ?_
  ·(try simp only [List.length_append, List.length_cons, List.length_nil]); omega
  refine Ns 28 rfl (v' := .string (S ([UInt8.ofNat (48 + n)]))) (congrArg (fun l => Value.string (S l)) (by (have := dig10 n (by omega); rw [← this]; rw [Int.toNat_natCast, Int.toNat_natCast, Nat.add_sub_cancel_left]))) ?_
  refine Ka rfl (Nt (Ce (Xb ?_)))
  exact R1 rfl rfl (by rw [dec_small (by omega)]; rfl)
 ·(try simp only [sB] at hc24)
  refine Ck (Xa (Cq ?_))
  refine Cf [0, 1, 2, 3, 4, 5, 6, 7, 8, 9, 10] [] [0, 0, 1, 0, 0, 0, 0, 0, 0, 0, 0] (by kernel_rfl) (by kernel_rfl) rfl ?_
  refine Kj rfl (Rm rfl rfl) (Kj rfl (rd_quo64nl rfl rfl rfl (by omega)) ?_)
  refine Jv rfl rfl rfl rfl rfl (fun ext => Oc rfl rfl (Kv fun w hS => hih (n / 10) (by omega) w)) ?_
  refine Kj rfl (Rm rfl rfl) (Kj rfl (rd_rem64nl rfl rfl rfl (by omega)) (Kj rfl (Rm rfl rfl) (Kj rfl (rd_rem64nl rfl rfl rfl (by omega)) (Kj rfl (Rz rfl rfl rfl (by omega)) ?_))))
  refine Kj rfl (rd_ss rfl rfl rfl rfl u9 ?_) ?_
  ·(try simp only [List.length_append, List.length_cons, List.length_nil]); omega
  refine WJ.set 37 rfl (v' := .string (S ([UInt8.ofNat (48 + n % 10)]))) (congrArg (fun l => Value.string (S l)) (by (have := dig10 (n % 10) (by omega); rw [← this]; rw [Int.toNat_natCast, Int.toNat_natCast, Nat.add_sub_cancel_left]))) ?_
  have hdl := dec_len20 18 (n / 10) (by omega)
  refine Kj rfl (rd_cat rfl rfl rfl ?_) ?_
  ·((try simp only [List.length_append, List.length_cons, List.length_nil]); omega)
  refine Kj rfl (Ra rfl rfl) ?_
  refine WJ.nil ?_
  refine Nt (Ce ?_)
  exact R1 rfl rfl (by rw [dec_big (n := n) (by omega)]; rfl)
theorem dec_ok (n : Nat) (hn : n ≤ 9223372036854775807) : ∀ w, Cw 195 #[.int .i64 (n : Int)] w (.string (S (Lib.decDigits n))) := by
 induction n using Nat.strongRecOn with
 | _ n ih => intro w; exact dec_n (fun m hm w => ih m hm (by omega) w) (by omega) hn
theorem dec_c {n : Nat} {w : World} (hn : n ≤ 9223372036854775807) :
  Cw 195 #[.int .i64 (n : Int)] w (.string (S (Lib.decDigits n))) :=
 dec_ok n hn w
theorem canonical_c {s : Bs} {w : World} :
  Cw 196 #[.string (S s)] w (.string (S (canon (val s)))) := by
 refine En [] [(0, .string (S s))] Tryz.func196 rfl Tryz.ntmps196 rfl (Ac rfl (An _)) Fn ?_
 refine Cs (Ka rfl (Nt (Cq (Cb ?_))))
 refine Lp (σ := Bs) [] (fun gq => [(0, .string (S gq))]) (fun gq => trimB gq = trimB s) (fun gq => gq.length) (s) (S0 _) (S1 rfl) (by (try dsimp only); all_goals rfl) ?_
 rintro t hinv1; (try dsimp only at hinv1 ⊢)
 refine Cq (Cs (Km rfl (Kq rfl (rd_slen rfl rfl u9) (Kq rfl (rd_gtr rfl rfl rfl) (Km rfl ?_)))))
 refine Nb 6 rfl (fun hg6 => ?_) (fun hg6 => ?_)
 ·(try simp only [sB] at hg6)
  refine Km rfl ?_
  refine Kq rfl (rd_sidxD rfl rfl rfl u9 ?_) ?_
  ·omega
  refine Kq rfl (rd_eql rfl rfl rfl) (Kq rfl (Rp rfl rfl rfl) (Nt ?_))
  refine Cd rfl (fun hc10 => ?_) (fun hc10 => ?_)
  ·(try simp only [sB] at hc10)
   have hz : (t.getD 0 default).toNat = 0 := by (simp at hc10; exact hc10)
   refine Ck (Xa (Cb (Cg (Km rfl ?_))))
   refine Kq rfl (rd_sfrom rfl rfl rfl u9 ?_) ?_
   ·(try simp only [List.length_append, List.length_cons, List.length_nil]); omega
   refine Ns 12 rfl (v' := .string (S (t.drop 1))) (congrArg (fun l => Value.string (S l)) (by rfl)) ?_
   refine Ka rfl (Nn (Xd ?_))
   refine Ly (t.drop 1) (by simp only [List.length_drop]; omega) (S0 _) (by refine (Sc ?_ (S0 _)) <;> (rfl)) ?_ (by (exact fun _ h => h))
   (try dsimp only)
   rw [← trimB_zero (by omega) hz]; exact hinv1
  ·(try simp only [sB] at hc10)
   refine Cx (Xc (Xc (Xe (Xa (Cs (Km rfl (Ka rfl (Nt (Ce ?_)))))))))
   exact R1 rfl rfl (by rw [show canon (val s) = t from by rw [← trim_canon, ← hinv1, trimB_stop (by (exact .inr (fun h0 => hc10 (by show ((t.getD 0 default).toNat : Int) = 0; omega))))]]; rfl)
 ·(try simp only [sB] at hg6)
  refine Kt rfl (Kt rfl (Kt rfl (Kq rfl (Rq rfl rfl rfl) (Nt ?_))))
  refine Cd rfl (fun h => by cases h) (fun _ => ?_)
  refine Cx (Xc (Xc (Xe (Xa (Cs (Km rfl (Ka rfl (Nt (Ce ?_)))))))))
  exact R1 rfl rfl (by rw [show canon (val s) = t from by rw [← trim_canon, ← hinv1, trimB_stop (by (exact .inl (by omega)))]]; rfl)
theorem mac_len (k s : Bs) : (mac k s).length = 32 := sha_len _
def nameB (at_ a b : Nat) : Bs := Lib.decDigits at_ ++ [46] ++ Lib.decDigits a ++ [46] ++ Lib.decDigits b
def blkB (sd : Bs) (at_ a b : Nat) : Bs := mac sd (nameB at_ a b)
def blks (sd : Bs) (at_ a : Nat) : Nat → Bs
 | 0 => []
 | k + 1 => blks sd at_ a k ++ blkB sd at_ a k
theorem blks_len (sd : Bs) (at_ a : Nat) : ∀ k, (blks sd at_ a k).length = 32 * k
 | 0 => rfl
 | k + 1 => by rw [blks, List.length_append, blks_len sd at_ a k, blkB, mac_len]; omega
def sizeB (nb : Nat) : Nat := (nb + 7) / 8
def bytesB (sd : Bs) (at_ a nb : Nat) : Bs := (blks sd at_ a ((sizeB nb + 31) / 32)).take (sizeB nb)
def attS (sd : Bs) (at_ a nb : Nat) : Bs := canon (val (bytesB sd at_ a nb) % 2 ^ nb)
theorem mask_val (c : UInt8) (r : Bs) (x nb : Nat) (hx : x ≤ 8) (hn : nb = 8 * r.length + x) : val (c :: r) % 2 ^ nb = c.toNat % 2 ^ x * 256 ^ r.length + val r := by
 have e : 2 ^ nb = 256 ^ r.length * 2 ^ x := by rw [hn, Nat.pow_add, Nat.pow_mul]
 have h1 := val_lt r
 rw [val, e, Nat.mod_mul, Nat.mul_comm c.toNat, Nat.mul_add_mod, Nat.mod_eq_of_lt h1, Nat.mul_add_div (p256 _), Nat.div_eq_of_lt h1, Nat.add_zero, Nat.mul_comm (c.toNat % 2 ^ x)]
 omega
theorem shl1 (i : Nat) (h : i ≤ 62) : IntKind.i64.wrap (1 * 2 ^ min ((i : Nat) : Int).toNat IntKind.i64.bits) = ((2 ^ i : Nat) : Int) := by
 have m1 : min ((i : Nat) : Int).toNat IntKind.i64.bits = i := by
  have : IntKind.i64.bits = 64 := by decide
  omega
 have h2 : 2 ^ i ≤ 2 ^ 62 := Nat.pow_le_pow_right (by decide) h
 rw [m1, Int.one_mul, show ((2 : Int) ^ i) = ((2 ^ i : Nat) : Int) by norm_cast, wrap64n _ (by omega)]
theorem mod_step (c P : Nat) (hP : 0 < P) : c % P = if P ≤ c % (2 * P) then c % (2 * P) - P else c % (2 * P) := by
 have h1 : c % (2 * P) % P = c % P := Nat.mod_mod_of_dvd _ ⟨2, by omega⟩
 have h2 := Nat.mod_lt c (show 0 < 2 * P by omega)
 split
 ·rename_i h
  rw [← h1, Nat.mod_eq_sub_mod h, Nat.mod_eq_of_lt (by omega)]
 ·rw [← h1, Nat.mod_eq_of_lt (by omega)]
theorem att_end {sd X : Bs} {at_ a nb Z x : Nat} (hZ : Z = sizeB nb) (hZ0 : 1 ≤ Z) (hby : bytesB sd at_ a nb = X.take Z) (hX : Z ≤ X.length) (hx : x = (X.getD 0 default).toNat % 2 ^ (8 - (8 * Z - nb))) (hnb : nb ≤ 8 * Z) (hnb2 : 8 * Z < nb + 8) :
  canon (val ([UInt8.ofNat x] ++ (X.take Z).drop 1)) = attS sd at_ a nb := by
 have e : X.take Z = X.getD 0 default :: (X.take Z).drop 1 := by
  cases X with
  | nil => simp at hX; omega
  | cons c s => obtain ⟨q, rfl⟩ : ∃ q, Z = q + 1 := ⟨Z - 1, by omega⟩; rfl
 have hl : ((X.take Z).drop 1).length = Z - 1 := by rw [List.length_drop, List.length_take]; omega
 have hc := (X.getD 0 default).toNat_lt
 have hxl : x < 256 := by rw [hx]; exact Nat.lt_of_le_of_lt (Nat.mod_le _ _) hc
 have hm := mask_val (X.getD 0 default) ((X.take Z).drop 1) (8 - (8 * Z - nb)) nb (by omega) (by rw [hl]; omega)
 rw [attS, hby]
 congr 1
 rw [show val (X.take Z) = val (X.getD 0 default :: (X.take Z).drop 1) by rw [← e], hm, List.singleton_append, val, UInt8.toNat_ofNat', ← hx]
 congr 1
 rw [Nat.mod_eq_of_lt (by omega)]
theorem rattempt_c {sd : Bs} {at_ a nb : Nat} {w : World} (hsd : sd.length ≤ 400000) (hat : at_ ≤ 4294967296) (ha : a ≤ 1000) (hnb : 1 ≤ nb) (hnb2 : nb ≤ 100000) :
  Cw 154 #[.string (S sd), .int .i64 (at_ : Int), .int .i64 (a : Int), .int .i64 (nb : Int)] w (.string (S (attS sd at_ a nb))) := by
 have hd1 := dec_len20 18 at_ (by omega); have hd2 := dec_len20 18 a (by omega)
 obtain ⟨Z, hZ⟩ : ∃ Z : Nat, Z = sizeB nb := ⟨_, rfl⟩
 have hZ1 : Z = (nb + 7) / 8 := hZ
 have hZ0 : 1 ≤ Z := by omega
 have hZl : Z ≤ 20000 := by omega
 refine En [] [(0, .string (S sd)), (1, .int .i64 (at_ : Int)), (2, .int .i64 (a : Int)), (3, .int .i64 (nb : Int))] Tryz.func154 rfl Tryz.ntmps154 rfl (Ac rfl (Ac rfl (Ac rfl (Ac rfl (An _))))) Fn ?_
 refine Cs (Ka rfl (Nt (Cs (Km rfl (Kq rfl (Rz rfl rfl rfl (by omega)) (Kq rfl (rd_quo64nl rfl rfl rfl (by omega)) (Ns 16 rfl (v' := .int .i64 ((Z : Nat) : Int)) (congrArg (Value.int .i64) (by omega)) (Ka rfl (Nt (Cs (Ka rfl (Nt (Cq (Cs (Ka rfl (Nt (Cb ?_)))))))))))))))))
 refine Lp (σ := Nat) [(0, _), (1, _), (2, _), (3, _), (9, _)] (fun gq => [(10, .string (S (blks sd at_ a gq))), (11, .int .i64 (gq : Int))]) (fun gq => gq ≤ (Z + 31) / 32) (fun gq => Z - 32 * gq) (0) (S5 rfl rfl rfl rfl rfl) (S2 rfl rfl) (by (try dsimp only); exact Nat.zero_le _) ?_
 rintro k hinv1; (try dsimp only at hinv1 ⊢)
 refine Cq (Cs (Km rfl (Kq rfl (rd_slen rfl rfl u9) (Km rfl (Kq rfl (rd_lss rfl rfl rfl) (Nt ?_))))))
 refine Cd rfl (fun hc20 => ?_) (fun hc20 => ?_)
 ·(try simp only [sB] at hc20)
  have hbl := blks_len sd at_ a k
  have hd3 := dec_len20 18 k (by omega)
  have hml := mac_len sd (nameB at_ a k)
  refine Ck (Xa (Cq (Cb (Cg (Km rfl (Km rfl (Km rfl ?_)))))))
  refine Ku rfl (Oc rfl rfl (Kv fun w hS => dec_c (n := at_) (by omega))) ?_
  refine Kq rfl (rd_cat rfl rfl rfl ?_) ?_
  ·((try simp only [List.length_append, List.length_cons, List.length_nil]); omega)
  refine Km rfl ?_
  refine Ku rfl (Oc rfl rfl (Kv fun w hS => dec_c (n := a) (by omega))) ?_
  refine Kq rfl (rd_cat rfl rfl rfl ?_) ?_
  ·((try simp only [List.length_append, List.length_cons, List.length_nil]); omega)
  refine Kq rfl (rd_cat rfl rfl rfl ?_) ?_
  ·((try simp only [List.length_append, List.length_cons, List.length_nil]); omega)
  refine Km rfl ?_
  refine Ku rfl (Oc rfl rfl (Kv fun w hS => dec_c (n := k) (by omega))) ?_
  refine Kq rfl (rd_cat rfl rfl rfl ?_) ?_
  ·((try simp only [List.length_append, List.length_cons, List.length_nil]); omega)
  refine Ku rfl (Oc rfl rfl (Kv fun w hS => rmac_c (key := sd) (s := nameB at_ a k) (by omega) (by simp only [nameB, List.length_append, List.length_cons, List.length_nil]; omega))) ?_
  refine Kq rfl (rd_cat rfl rfl rfl ?_) ?_
  ·((try simp only [List.length_append, List.length_cons, List.length_nil]); omega)
  refine Ka rfl (Nn (Xd (Xa (Cg (Km rfl (Kq rfl (Rz rfl rfl rfl (by omega)) (Ka rfl (Nn ?_))))))))
  have hbl' := blks_len sd at_ a k
  refine Ly (k + 1) (by (try dsimp only); omega) (S5 rfl rfl rfl rfl rfl) (by refine (Sc ?_ (Sc ?_ (S0 _))) <;> (rfl)) ?_ (by (exact fun _ h => h))
  (try dsimp only)
  omega
 ·(try simp only [sB] at hc20)
  refine Cx (Xc (Xc (Xe ?_)))
  have hkK : k = (Z + 31) / 32 := by have hbl := blks_len sd at_ a k; omega
  have hbl := blks_len sd at_ a k
  have hby : bytesB sd at_ a nb = (blks sd at_ a k).take Z := by rw [bytesB, ← hZ, hkK]
  obtain ⟨X, hX⟩ : ∃ X, X = blks sd at_ a k := ⟨_, rfl⟩
  rw [← hX] at hby hbl ⊢
  refine Xa (Cs (Km rfl ?_))
  refine Kq rfl (rd_sidxD rfl rfl rfl u9 ?_) ?_
  ·omega
  refine Kq rfl (rd_convN rfl rfl u5 u3 ?_) ?_
  ·(exact wrap8_64 _)
  have hc0 := (X.getD 0 default).toNat_lt
  refine Ns 39 rfl (v' := .int .i64 (((X.getD 0 default).toNat % 2 ^ (8 - 0) : Nat) : Int)) (congrArg (Value.int .i64) (by rw [Nat.mod_eq_of_lt (by omega)]; rfl)) ?_
  refine Ka rfl (Nt (Cq (Cs (Ka rfl (Ns 13 rfl (v' := .int .i64 (7 - ((0 : Nat) : Int))) (congrArg (Value.int .i64) (by omega)) (Nt (Cb ?_)))))))
  refine Lp (σ := Nat) [(3, _), (9, _), (10, _)] (fun gq => [(12, .int .i64 (((X.getD 0 default).toNat % 2 ^ (8 - gq) : Nat) : Int)), (13, .int .i64 (7 - (gq : Int)))]) (fun gq => gq ≤ 8 * Z - nb) (fun gq => 8 - gq) (0) (S3 rfl rfl rfl) (S2 rfl rfl) (by (try dsimp only); exact Nat.zero_le _) ?_
  rintro j hinv2; (try dsimp only at hinv2 ⊢)
  refine Cq (Cs (Km rfl (Km rfl (Kq rfl (rd_mul64ln rfl rfl rfl (by omega)) (Km rfl (Kq rfl (rd_sub64n rfl rfl rfl (by omega)) (Kq rfl (rd_sub64ln rfl rfl rfl (by omega)) (Kq rfl (rd_geq rfl rfl rfl) (Nt ?_)))))))))
  refine Cd rfl (fun hc46 => ?_) (fun hc46 => ?_)
  ·(try simp only [sB] at hc46)
   have hj7 : j ≤ 6 := by omega
   have hms := mod_step (X.getD 0 default).toNat (2 ^ (7 - j)) (Nat.pow_pos (by decide))
   rw [show 2 * 2 ^ (7 - j) = 2 ^ (8 - j) by rw [Nat.mul_comm, ← Nat.pow_succ]; congr 1; omega, show 2 ^ (7 - j) = 2 ^ (8 - (j + 1)) by congr 1; omega] at hms
   have hpw : 2 ^ (8 - (j + 1)) ≤ 2 ^ 8 := Nat.pow_le_pow_right (by decide) (by omega)
   have hcm : (X.getD 0 default).toNat % 2 ^ (8 - j) < 256 := Nat.lt_of_le_of_lt (Nat.mod_le _ _) hc0
   refine Ck (Xa (Cq (Cb (Cs (Km rfl (Km rfl (Ns 50 rfl (v' := .int .i64 (((7 - j : Nat) : Int))) (congrArg (Value.int .i64) (by omega)) ?_)))))))
   refine Kq rfl (rd_convN rfl rfl u3 u128 ?_) ?_
   ·(rw [IntKind.wrap_u64]; omega)
   refine Kq rfl (rd_shl rfl rfl rfl ?_) ?_
   ·omega
   refine Ns 52 rfl (v' := .int .i64 ((2 ^ (8 - (j + 1)) : Nat) : Int)) (congrArg (Value.int .i64) (by rw [shl1 _ (by omega)]; (try (congr 2; try omega)))) ?_
   refine Kq rfl (rd_geq rfl rfl rfl) (Nt ?_)
   refine Cd rfl (fun hc53 => ?_) (fun hc53 => ?_)
   ·(try simp only [sB] at hc53)
    refine Cg (Km rfl (Km rfl (Ns 55 rfl (v' := .int .i64 (((7 - j : Nat) : Int))) (congrArg (Value.int .i64) (by omega)) ?_)))
    refine Kq rfl (rd_convN rfl rfl u3 u128 ?_) ?_
    ·(rw [IntKind.wrap_u64]; omega)
    refine Kq rfl (rd_shl rfl rfl rfl ?_) ?_
    ·omega
    refine Ns 57 rfl (v' := .int .i64 ((2 ^ (8 - (j + 1)) : Nat) : Int)) (congrArg (Value.int .i64) (by rw [shl1 _ (by omega)]; (try (congr 2; try omega)))) ?_
    refine Kq rfl (rd_sub64n rfl rfl rfl (by omega)) ?_
    refine Ns 58 rfl (v' := .int .i64 (((X.getD 0 default).toNat % 2 ^ (8 - (j + 1)) : Nat) : Int)) (congrArg (Value.int .i64) (by rw [hms, if_pos (by omega)]; try omega)) ?_
    refine Ka rfl (Nn (Xd (Xa (Cg (Km rfl (Kq rfl (rd_sub64 rfl rfl rfl (by omega)) (Ns 48 rfl (v' := .int .i64 (7 - ((j + 1 : Nat) : Int))) (congrArg (Value.int .i64) (by omega)) (Ka rfl (Nn ?_)))))))))
    refine Ly (j + 1) (by (try dsimp only); omega) (S3 rfl rfl rfl) (by refine (Sc ?_ (Sc ?_ (S0 _))) <;> (rfl)) ?_ (by (exact fun _ h => h))
    (try dsimp only)
    omega
   ·(try simp only [sB] at hc53)
    refine WC.set 12 rfl (v' := .int .i64 (((X.getD 0 default).toNat % 2 ^ (8 - (j + 1)) : Nat) : Int)) (congrArg (Value.int .i64) (by rw [hms, if_neg (by omega)])) ?_
    refine Ck (Xd (Xa (Cg (Km rfl (Kq rfl (rd_sub64 rfl rfl rfl (by omega)) (Ns 48 rfl (v' := .int .i64 (7 - ((j + 1 : Nat) : Int))) (congrArg (Value.int .i64) (by omega)) (Ka rfl (Nn ?_))))))))
    refine Ly (j + 1) (by (try dsimp only); omega) (S3 rfl rfl rfl) (by refine (Sc ?_ (Sc ?_ (S0 _))) <;> (rfl)) ?_ (by (exact fun _ h => h))
    (try dsimp only)
    omega
  ·(try simp only [sB] at hc46)
   refine Cx (Xc (Xc (Xe ?_)))
   have hjd : j = 8 * Z - nb := by omega
   have hcm : (X.getD 0 default).toNat % 2 ^ (8 - j) < 256 := Nat.lt_of_le_of_lt (Nat.mod_le _ _) hc0
   obtain ⟨x, hx⟩ : ∃ x, x = (X.getD 0 default).toNat % 2 ^ (8 - j) := ⟨_, rfl⟩
   rw [← hx] at hcm ⊢
   have hae := att_end (sd := sd) (at_ := at_) (a := a) (nb := nb) (X := X) (x := x) hZ hZ0 hby (by omega) (by rw [hx, hjd]) (by omega) (by omega)
   refine Xa (Cq ?_)
   refine Cf [0, 1, 2, 3, 4, 5, 6, 7, 8, 9] [] [0, 0, 5, 4, 0, 0, 0, 0, 1, 0] (by kernel_rfl) (by kernel_rfl) rfl ?_
   refine Kj rfl (Rm rfl rfl) ?_
   refine Kj rfl (rd_convN rfl rfl u3 u5 ?_) ?_
   ·(rw [IntKind.wrap_u8]; omega)
   refine WJ.set 60 rfl (v' := B (UInt8.ofNat x)) (by exact congrArg (Value.int .u8) (by rw [UInt8.toNat_ofNat']; omega)) ?_
   refine WJ.fz rfl rfl rfl rfl rfl (fr_bs1 rfl rfl u136 (by kernel_rfl : _ = some (some (.int .u8 0), 1, 1)) rfl (by simp only [List.map]; rfl) rfl rfl ?_ (by decide)) ?_
   ·simp [Value.cells, B]
   intro b61
   refine WJ.zr rfl rfl rfl rfl rfl List.mem_cons_self (src_conv rfl rfl) (b2s (l := [UInt8.ofNat x]) rfl rfl .tc u136 u5 u9 (by rfl) (by rfl)) ?_
   refine Kj rfl (Rm rfl rfl) (Kj rfl (Rm rfl rfl) ?_)
   refine Kj rfl (rd_ss rfl rfl rfl rfl u9 ?_) ?_
   ·(try simp only [List.length_append, List.length_cons, List.length_nil]); omega
   refine WJ.set 65 rfl (v' := .string (S ((X.take Z).drop 1))) (congrArg (fun l => Value.string (S l)) (by rw [List.drop_take]; rfl)) ?_
   refine Kj rfl (rd_cat rfl rfl rfl ?_) ?_
   ·simp only [List.length_append, List.length_cons, List.length_nil, List.length_drop, List.length_take]; omega
   refine Jv rfl rfl rfl rfl rfl (fun ext => Oc rfl rfl (Kv fun w hS => canonical_c)) ?_
   refine Kj rfl (Ra rfl rfl) ?_
   refine WJ.nilz ?_
   refine Nt (Ce ?_)
   exact R1 rfl rfl (by rw [hae]; rfl)
abbrev Tab (w : World) : Prop := Lib.TabIs Tryz.prog w "internal/strconv.uint64pow10" .u64 Lib.pow10Tab
theorem tab_below {w w' : World} (h : Tab w) (hb : Below w.heap.size w w') : Tab w' := by
 have h' : w.var? Tryz.prog "internal/strconv.uint64pow10" = some (Lib.pow10Tab.map fun z => Value.int .u64 z).toArray := h
 show w'.var? Tryz.prog "internal/strconv.uint64pow10" = _
 unfold World.var? at h' ⊢
 cases hg : Tryz.prog.globalNamed "internal/strconv.uint64pow10" with
 | none => rw [hg] at h'; cases h'
 | some g =>
  rw [hg] at h'
  simp only [Option.bind_some] at h' ⊢
  have hlt : g < w.heap.size := by
   rcases Nat.lt_or_ge g w.heap.size with q | q
   ·exact q
   ·rw [Array.getElem?_eq_none q] at h'; cases h'
  rw [hb.block g hlt]; exact h'
theorem tab_st {ok : Nat → Prop} {w0 w : World} {own : List Ent} {fs : List Fact} (h : Tab w0) (hS : St ok w0 own fs w) : Tab w := tab_below h hS.below
theorem grow_below (w : World) (k : Nat) (os : Array Obj) : Below w.heap.size w (Sort.grow (w.drewN k) os) := by
 have hh : (Sort.grow (w.drewN k) os).heap = w.heap ++ os := rfl
 refine ⟨rfl, rfl, rfl, by rw [hh]; simp, fun q hq => ?_⟩
 rw [hh, Array.getElem?_append_left hq]
theorem itoa_c {n : Nat} {w : World} (hn : n ≤ 9223372036854775807) (hT : Tab w) :
  Cw 218 #[.int .i64 (n : Int)] w (.string (S (Lib.decDigits n))) :=
 (itoa_any n (by omega) (by omega) w hT).mono fun _ _ ⟨h1, k, os, h2⟩ => ⟨by rw [h1, Lib.itoa, if_neg (by omega), Int.toNat_natCast]; rfl, by rw [h2]; exact grow_below w k os⟩
def itB {σ : Type} (sd : Bs) (at_ a : Nat) (after : σ → Bs → σ) (stop : σ → Bs → Option Code) : Nat → Nat → σ → σ × Option Code
 | 0, _, s => (s, none)
 | f + 1, b, s => if (stop s (blkB sd at_ a b)).isSome then (after s (blkB sd at_ a b), stop s (blkB sd at_ a b)) else itB sd at_ a after stop f (b + 1) (after s (blkB sd at_ a b))
section
variable {σ : Type} {sd : Bs} {at_ a : Nat} {after : σ → Bs → σ} {stop : σ → Bs → Option Code} {K b : Nat} {s : σ}
theorem itB_stop (h : b < K) (hs : (stop s (blkB sd at_ a b)).isSome = true) : itB sd at_ a after stop (K - b) b s = (after s (blkB sd at_ a b), stop s (blkB sd at_ a b)) := by
 rw [show K - b = (K - b - 1) + 1 by omega, itB, if_pos hs]
theorem itB_next (h : b < K) (hs : stop s (blkB sd at_ a b) = none) : itB sd at_ a after stop (K - b) b s = itB sd at_ a after stop (K - (b + 1)) (b + 1) (after s (blkB sd at_ a b)) := by
 rw [show K - b = (K - (b + 1)) + 1 by omega, itB, if_neg (by simp [hs])]
theorem itB_lt (h : b ≤ K) {s0 : σ} (hi : itB sd at_ a after stop (K - b) b s = itB sd at_ a after stop K 0 s0) (hs : (itB sd at_ a after stop K 0 s0).2.isSome = true) : b < K := by
 rcases Nat.lt_or_ge b K with q | q
 ·exact q
 ·rw [← hi, show K - b = 0 by omega, itB] at hs; cases hs
end
theorem blocks_c {t : Tp} {x : Value} {a : Int} {own0 : List Ent} {ok : Nat → Prop} {w0 : World} {fs : List Fact} {w : World} (hS0 : St ok w0 (own0) (fs) w) :
  Calls Tryz.prog 193 #[.agg #[x, .string (S t.seed), .int .i64 t.at_], .int .i64 a] w fun e w' => ∃ g : Nat × Nat, e = .returned (.func (.func 217) #[] #[.pointer (some ⟨g.1, 0, none⟩), .pointer (some ⟨g.2, 0, none⟩)]) ∧ St ok w0 (⟨some g.2, [.int .i64 a], 3⟩ :: ⟨some g.1, [x, .string (S t.seed), .int .i64 t.at_], 66⟩ :: own0) fs w' := by
 refine enter (S := St ok w0 (own0) (fs)) (L := [(0, .agg #[x, .string (S t.seed), .int .i64 t.at_]), (1, .int .i64 a)]) Tryz.func193 rfl Tryz.ntmps193 rfl (Ac rfl (Ac rfl (An _))) hS0 ?_
 refine Cs ?_
 refine Kh rfl (Oy rfl rfl) ?_
 intro b2
 refine Kh rfl (Oy rfl rfl) ?_
 intro b3
 refine Ka rfl (Nt (Cs (Kq rfl (rd_mkf rfl rfl rfl) (Ka rfl (Nt (Ce ?_))))))
 exact Rn rfl (.tmp rfl .nil) fun w' hS => ⟨(b2, b3), rfl, hS⟩
theorem blk_i {σ γ : Type} {CO : σ → γ → List Ent} {pg : σ → γ → Prop} {inv : σ → Bs → Prop} {after : σ → Bs → σ} {stop : σ → Bs → Option Code} {l : Nat} {r : Loop} {ok : Nat → Prop} {w0 : World} {fs : List Fact} {w : World} {sd : Bs} {x : Value} {at_ a : Nat} {b1 b2 : Nat} {s0 : σ} {K : Nat} [∀ s g, HasE (CO s g) b1 [x, .string (S sd), .int .i64 (at_ : Int)] 66] [∀ s g, HasE (CO s g) b2 [.int .i64 (a : Int)] 3] {g0 : γ} (hY : YOk Tryz.prog l r ok w0 fs CO pg inv after stop (fun s : Bs => #[Value.string (S s)])) (hS0 : St ok w0 (CO s0 g0) (Fact.lp l (rcd r none) :: fs) w) (hg0 : pg s0 g0) (hsd : sd.length ≤ 400000) (hat : at_ ≤ 4294967296) (ha : a ≤ 1000) (hK : K ≤ 100000) (hinv : ∀ s x, x.length = 32 → inv s x) (hstop : (itB sd at_ a after stop K 0 s0).2.isSome = true) (hT : Tab w0) :
  Calls Tryz.prog 217 #[.func (.yield l) #[] #[], .pointer (some ⟨b1, 0, none⟩), .pointer (some ⟨b2, 0, none⟩)] w fun e w' => (∃ v, e = .returned v) ∧ ∃ g', ((itB sd at_ a after stop K 0 s0).2 = none → pg ((itB sd at_ a after stop K 0 s0).1) g') ∧ St ok w0 (CO ((itB sd at_ a after stop K 0 s0).1) g') (Fact.lp l (rcd r ((itB sd at_ a after stop K 0 s0).2)) :: fs) w' := by
 have hd1 := dec_len20 18 at_ (by omega); have hd2 := dec_len20 18 a (by omega)
 refine enter (S := St ok w0 (CO s0 g0) (Fact.lp l (rcd r none) :: fs)) (L := [(0, .func (.yield l) #[] #[]), (1, .pointer (some ⟨b1, 0, none⟩)), (2, .pointer (some ⟨b2, 0, none⟩))]) Tryz.func217 rfl Tryz.ntmps217 rfl (Ac rfl (Ac rfl (Ac rfl (An _)))) hS0 ?_
 refine Cs (Ka rfl (Nt (Cb ?_)))
 refine Lo (σ := Nat × σ × γ) [(0, _), (1, _), (2, _)] (fun gq => [(4, .int .i64 (gq.1 : Int))]) (fun gq => gq.1 ≤ K ∧ pg gq.2.1 gq.2.2 ∧ itB sd at_ a after stop (K - gq.1) gq.1 gq.2.1 = itB sd at_ a after stop K 0 s0) (fun gq => K - gq.1) (fun gq => CO gq.2.1 gq.2.2) (fun gq => Fact.lp l (rcd r none) :: fs) (0, s0, g0) (S3 rfl rfl rfl) (S1 rfl) (by (try dsimp only); exact ⟨Nat.zero_le _, hg0, rfl⟩) (by (exact fun _ h => h)) ?_
 rintro ⟨b, s, g⟩ hinv1; (try dsimp only at hinv1 ⊢)
 obtain ⟨hp, hgs, hi⟩ := hinv1
 have hlt := itB_lt hp hi hstop
 have hd3 := dec_len20 18 b (by omega)
 refine Cq (Cb (Cq ?_))
 refine Cf [0, 1, 2, 4, 5, 8, 9, 3, 6, 7, 10, 11] [] [0, 0, 1, 0, 0, 1, 0, 0, 0, 1, 0, 0] (by kernel_rfl) (by kernel_rfl) rfl ?_
 (refine Kj rfl (rd_fa rfl rfl u66 rfl (by kernel_rfl) (by (try simp only [sN, Int.reduceToNat, Nat.reduceAdd, Nat.reduceMul, Nat.reduceSub]); rfl)) ?_)
 refine Kj rfl (Ld rfl rfl .tc u3) ?_
 refine Jv rfl rfl rfl rfl rfl (fun ext => Oc rfl rfl (Kv fun w hS => itoa_c (by omega) (by (exact tab_st hT hS)))) ?_
 refine Kj rfl (Ld rfl rfl .tc u3) ?_
 refine Jv rfl rfl rfl rfl rfl (fun ext => Oc rfl rfl (Kv fun w hS => itoa_c (by omega) (by (exact tab_st hT hS)))) ?_
 refine Kj rfl (Rm rfl rfl) ?_
 refine Jv rfl rfl rfl rfl rfl (fun ext => Oc rfl rfl (Kv fun w hS => itoa_c (by omega) (by (exact tab_st hT hS)))) ?_
 refine Kj rfl (rd_cat rfl rfl rfl ?_) ?_
 ·((try simp only [List.length_append, List.length_cons, List.length_nil]); omega)
 refine Kj rfl (rd_cat rfl rfl rfl ?_) ?_
 ·((try simp only [List.length_append, List.length_cons, List.length_nil]); omega)
 refine Kj rfl (rd_cat rfl rfl rfl ?_) ?_
 ·((try simp only [List.length_append, List.length_cons, List.length_nil]); omega)
 refine Kj rfl (rd_cat rfl rfl rfl ?_) ?_
 ·((try simp only [List.length_append, List.length_cons, List.length_nil]); omega)
 refine Kj rfl (Ra rfl rfl) ?_
 refine WJ.nil ?_
 refine Nt (Cs (Km rfl ?_))
 (refine Kq rfl (rd_fa rfl rfl u66 rfl (by kernel_rfl) (by (try simp only [sN, Int.reduceToNat, Nat.reduceAdd, Nat.reduceMul, Nat.reduceSub]); rfl)) ?_)
 refine Kq rfl (Ld rfl rfl .tc u9) ?_
 refine Km rfl ?_
 refine Ku rfl (Oc rfl rfl (Kv fun w hS => mac_c (key := sd) (s := nameB at_ a b) (by omega) (by simp only [nameB, List.length_append, List.length_cons, List.length_nil]; omega))) ?_
 refine Kh rfl (og_yield hY [] (blkB sd at_ a b) rfl rfl rfl rfl (hinv _ _ (mac_len _ _)) (hgs)) ?_
 intro gy; refine WL.pu ?_; intro hgy; (refine WL.app0 ?_)
 refine Kq rfl (Rt rfl rfl) (Nt ?_)
 refine Cd rfl (fun hc25 => ?_) (fun hc25 => ?_)
 ·(try simp only [sB] at hc25)
  refine Ce (Xf (Xb (Xb (Xf ?_))))
  exact Rn rfl .nil fun w' hS => ⟨⟨_, rfl⟩, gy, by rw [← hi, itB_stop hlt (by simpa using hc25)]; exact hgy, by rw [← hi, itB_stop hlt (by simpa using hc25)]; dsimp only; exact st_sub _ hS⟩
 ·(try simp only [sB] at hc25)
  have hst : stop s (blkB sd at_ a b) = none := by simpa using hc25
  rw [hst]
  refine Ck (Xd (Xa (Cg (Km rfl (Kq rfl (Rz rfl rfl rfl (by omega)) (Ka rfl (Nn ?_)))))))
  refine Lx ((b + 1, after s (blkB sd at_ a b), gy)) (by (try dsimp only); omega) (S3 rfl rfl rfl) (by refine (Sc ?_ (S0 _)) <;> (rfl)) ?_ (by (exact fun _ h => h))
  (try dsimp only)
  exact ⟨by omega, hgy hst, (itB_next hlt hst).symm.trans hi⟩
theorem strCells_S (l : List UInt8) : Lib.strCells (S l) = l.map B := by simp [Lib.strCells, S, B]
section
variable {ds : List Deferred} {P : Program} {o : Oper} {n : Nat} {L : Slots} {ok : Nat → Prop} {w0 : World} {own : List Ent} {C : Ent → List Ent} {fs : List Fact} {x y : Operand} {t u e : TypeId} {xs : List Value}
theorem run_apps {w : World} {own : List Ent} {kk : Nat} {ob : Option Nat} {len cap : Nat} {sp : List Value} {l : List UInt8} {ty : TypeId} (hS : St ok w0 own fs w) (hk : own[kk]? = some ⟨ob, xs ++ sp, e⟩)
  (hu : P.underlying t = some (.slice e)) (hv : P.underlying u = some .string) (hi : (P.info? e).map (fun i => (i.zero, i.size, i.bytes)) = some (some (.int .u8 0), 1, 1))
  (hxl : xs.length = len) (hcap : cap = len + sp.length) (hb : len + l.length ≤ 140737488355328) (hzz : ob = none ∨ 0 < cap) :
  ∃ (g : Gr) (w' : World), (Builtin.append_ #[t, u] ty #[.slice (ob.map fun b => ⟨b, 0, none⟩) len cap, .string (S l)]).run P w = .ok (.slice (g.ob.map fun b => ⟨b, 0, none⟩) (len + l.length) g.cap) w' ∧ (g.cap = len + l.length + g.sp.length ∧ (g.ob = none ∨ 0 < g.cap)) ∧ St ok w0 (own.set kk ⟨g.ob, (xs ++ l.map B) ++ g.sp, e⟩) fs w' := by
 obtain ⟨i', hi', hz, hs, hbb⟩ := info_parts hi
 have hsz : (S l).size = l.length := S_size l
 have htake : (xs ++ sp).take len = xs := by rw [← hxl]; simp
 have zlen : ∀ q, (Builtin.zeroCells (Value.int .u8 0).cells q).toList = List.replicate q (.int .u8 0) := fun q => zero_one _ q
 have hsame : own.set kk ⟨ob, xs ++ sp, e⟩ = own := by
  apply List.ext_getElem?; intro q
  by_cases hq : kk = q
  ·subst hq; rw [List.getElem?_set_self (List.getElem?_eq_some_iff.1 hk).1, hk]
  ·rw [List.getElem?_set_ne hq]
 cases ob with
 | none =>
  have hcs : xs ++ sp = [] := hS.own_ _ (List.mem_of_getElem? hk)
  obtain ⟨rfl, rfl⟩ : xs = [] ∧ sp = [] := by simpa using hcs
  obtain rfl : len = 0 := by simpa using hxl.symm
  obtain rfl : cap = 0 := by simpa using hcap
  by_cases h0 : l.length = 0
  ·have hl : l = [] := List.eq_nil_of_length_eq_zero h0
   subst hl
   refine ⟨⟨none, 0, []⟩, w, ?_, ⟨rfl, .inl rfl⟩, by show St ok w0 (own.set kk ⟨none, [] ++ [], e⟩) fs w; rw [hsame]; exact hS⟩
   simp [Builtin.append_, run_underlying hu, run_underlying hv, sizeOf, typeInfo, hi', hs, Builtin.lenOf, S, Builtin.firstCells, ByteArray.size]
  ·have hrun := run_append_nil_string (P := P) w t u ty e i' (.int .u8 0) hu hv hi' hz (S l) (by omega) (by omega) (by rw [hbb, hsz]; omega)
   rw [hsz] at hrun
   refine ⟨⟨some w.heap.size, grownCap w l.length 0 e, List.replicate (grownCap w l.length 0 e - l.length) (.int .u8 0)⟩, _, by simpa using hrun, ?_, ?_⟩
   ·have := grownCap_ge w l.length 0 e; exact ⟨by simp; omega, .inr (by show 0 < grownCap w l.length 0 e; omega)⟩
   ·have := (hS.draw.alloc (l.map B ++ List.replicate (grownCap w l.length 0 e - l.length) (.int .u8 0)) e).replace kk
    have e1 : ((S l).data.map (fun b => Value.int .u8 b.toNat) ++ Builtin.zeroCells (Value.int .u8 0).cells (grownCap w l.length 0 e - l.length)) = (l.map B ++ List.replicate (grownCap w l.length 0 e - l.length) (Value.int .u8 0)).toArray := by
     apply Array.ext'; simp [zlen, S, B]
    simp only [List.nil_append]
    rw [e1]; exact this
 | some b' =>
  have hbk := hS.block hk
  by_cases hroom : len + l.length ≤ cap
  ·have hrun := Lib.run_append_room_string (P := P) w t u ty e i' hu hv hi' hs b' len cap (xs ++ sp).toArray hbk (S l) (by omega) (by simp [hsz]; omega)
   rw [hsz, strCells_S] at hrun
   refine ⟨⟨some b', cap, (xs ++ sp).drop (len + l.length)⟩, _, hrun, ?_, ?_⟩
   ·exact ⟨by simp; omega, .inr (hzz.resolve_left (by simp))⟩
   ·have := hS.setRow hk (xs ++ l.map B ++ (xs ++ sp).drop (len + l.length))
    simp only [htake]; exact this
  ·have hrun := Lib.run_append_grow_string (P := P) w t u ty e i' (.int .u8 0) hu hv hi' hz ⟨b', 0, none⟩ len cap xs (by rw [hs]; omega) (fun q v hq => by
     rw [Addr.add_lit, Nat.zero_add, block_cell hbk]
     rw [List.getElem?_append_left (List.getElem?_eq_some_iff.1 hq).1]; exact hq) (S l) (by omega) (by omega) (by rw [hbb, hsz]; exact growslice_fits (by omega) (by omega))
   rw [hsz, strCells_S] at hrun
   refine ⟨⟨some w.heap.size, grownCap w (len + l.length) cap e, List.replicate (grownCap w (len + l.length) cap e - (len + l.length)) (.int .u8 0)⟩, _, hrun, ?_, ?_⟩
   ·have := grownCap_ge w (len + l.length) cap e; exact ⟨by simp; omega, .inr (by show 0 < grownCap w (len + l.length) cap e; omega)⟩
   ·have := (hS.draw.alloc (xs ++ l.map B ++ List.replicate (grownCap w (len + l.length) cap e - (len + l.length)) (.int .u8 0)) e).replace kk
    have e1 : (xs.toArray ++ (l.map B).toArray ++ Builtin.zeroCells (Value.int .u8 0).cells (grownCap w (len + l.length) cap e - (len + l.length))) = (xs ++ l.map B ++ List.replicate (grownCap w (len + l.length) cap e - (len + l.length)) (Value.int .u8 0)).toArray := by
     apply Array.ext'; simp [zlen]
    rw [e1]; exact this
theorem apps {len cap : Nat} {ob : Option Nat} {sp : List Value} {l : List UInt8} (hop : o.op = .call { callee := .builtin .append, args := #[x, y], argTypes := #[t, u] }) (hu : P.underlying t = some (.slice e)) (hv : P.underlying u = some .string) (hi : (P.info? e).map (fun i => (i.zero, i.size, i.bytes)) = some (some (.int .u8 0), 1, 1))
  (hk : Ctx own ⟨ob, xs ++ sp, e⟩ C) (hx : oper L x = some (.slice (ob.map fun b => ⟨b, 0, none⟩) len cap)) (hy : oper L y = some (.string (S l)))
  (hb : xs.length = len ∧ cap = len + sp.length ∧ len + l.length ≤ 140737488355328 ∧ (ob = none ∨ 0 < cap)) :
  Og ds P o n L (St ok w0 own fs) (fun g : Gr => .slice (g.ob.map fun b => ⟨b, 0, none⟩) (len + l.length) g.cap) (fun g w => (g.cap = len + l.length + g.sp.length ∧ (g.ob = none ∨ 0 < g.cap)) ∧ St ok w0 (C ⟨g.ob, (xs ++ l.map B) ++ g.sp, e⟩) fs w) :=
 og_run fun a hF w hS => by
  obtain ⟨kk, hkk, hC⟩ := hk.get
  obtain ⟨g, w', hrun, hp, hS'⟩ := run_apps (P := P) (ty := o.type) hS hkk hu hv hi hb.1 hb.2.1 hb.2.2.1 hb.2.2.2
  refine ⟨g, w', .inl ?_, hp, by rw [hC]; exact hS'⟩
  simp [execOp, hop, resolve, invoke, builtin, hF.eval hx, hF.eval hy, hrun]
end
section
variable {ds : List Deferred} {ρ : Option Nat} {P : Program} {Q : Exit → Act → World → Prop} {n : Nat} {L : Slots} {Z : World → Prop} {p : Prop} {ops rest : List Oper}
theorem WL.know (h : ∀ w, Z w → p) (k : p → WL ds P ops Q n rest L Z) : WL ds P ops Q n rest L Z := fun a w hF hS => k (h w hS) a w hF hS
end
def afterA (s x : Bs) : Bs := s ++ x
def stopA (Z : Nat) (s x : Bs) : Option Code := if Z ≤ s.length + x.length then some (.exit 0) else none
theorem itB_att (sd : Bs) (at_ a Z : Nat) (hZ : 1 ≤ Z) : ∀ (d b : Nat), b + d = (Z + 31) / 32 → 1 ≤ d → itB sd at_ a afterA (stopA Z) d b (blks sd at_ a b) = (blks sd at_ a ((Z + 31) / 32), some (.exit 0))
 | 0, b, h, h1 => by omega
 | d + 1, b, h, h1 => by
  have hl := blks_len sd at_ a b
  have hm : (blkB sd at_ a b).length = 32 := mac_len _ _
  rw [itB]
  by_cases hd : d = 0
  ·subst hd
   have hs : stopA Z (blks sd at_ a b) (blkB sd at_ a b) = some (.exit 0) := by rw [stopA, if_pos (by omega)]
   rw [hs]; simp only [Option.isSome_some, if_true]; rw [← h]; rfl
  ·have hs : stopA Z (blks sd at_ a b) (blkB sd at_ a b) = none := by rw [stopA, if_neg (by omega)]
   rw [hs, if_neg (by simp)]
   exact itB_att sd at_ a Z hZ d (b + 1) (by omega) (by omega)
abbrev ACO (x : Value) (sd : Bs) (at_ a Z : Nat) (g : Nat × Nat) (b8 b7 b3 : Nat) (s : Bs) (q : Option Nat × List Value) : List Ent :=
 [⟨q.1, s.map B ++ q.2, 5⟩, ⟨some g.2, [.int .i64 (a : Int)], 3⟩, ⟨some g.1, [x, .string (S sd), .int .i64 (at_ : Int)], 66⟩, ⟨some b8, [.slice (q.1.map fun b => ⟨b, 0, none⟩) s.length (s.length + q.2.length)], 136⟩, ⟨some b7, [.int .i64 (Z : Int)], 3⟩, ⟨some b3, [x, .string (S sd), .int .i64 (at_ : Int)], 66⟩]
theorem mask8 (c : UInt8) (d : Nat) (hd : d ≤ 7) : bits .and .u8 (c.toNat : Int) (Int.fdiv 255 (2 ^ (min ((d : Nat) : Int).toNat IntKind.u8.bits))) = ((UInt8.ofNat (c.toNat % 2 ^ (8 - d))).toNat : Int) := by
 have h1 := c.toNat_lt
 have e : Int.fdiv 255 (2 ^ (min ((d : Nat) : Int).toNat IntKind.u8.bits)) = ((2 ^ (8 - d) - 1 : Nat) : Int) := by
  have key : ∀ q, q ≤ 7 → Int.fdiv 255 (2 ^ (min ((q : Nat) : Int).toNat IntKind.u8.bits)) = ((2 ^ (8 - q) - 1 : Nat) : Int) := by decide
  exact key d hd
 have h2 : 2 ^ (8 - d) ≤ 2 ^ 8 := Nat.pow_le_pow_right (by decide) (by omega)
 have h3 : c.toNat % 2 ^ (8 - d) < 256 := Nat.lt_of_le_of_lt (Nat.mod_le _ _) h1
 rw [e, u8_and_nat _ _ (by omega) (by omega), Nat.and_two_pow_sub_one_eq_mod, UInt8.toNat_ofNat', Nat.mod_eq_of_lt (a := c.toNat % 2 ^ (8 - d)) (b := 2 ^ 8) (by omega)]
theorem attempt_c {vx : Value} {sd : Bs} {at_ aa nb : Nat} {w : World} (hsd : sd.length ≤ 400000) (hat : at_ ≤ 4294967296) (ha : aa ≤ 1000) (hnb : 1 ≤ nb) (hnb2 : nb ≤ 100000) (hT : Tab w) :
  Cw 152 #[.agg #[vx, .string (S sd), .int .i64 (at_ : Int)], .int .i64 (aa : Int), .int .i64 (nb : Int)] w (.string (S (attS sd at_ aa nb))) := by
 obtain ⟨Z, hZ⟩ : ∃ Z : Nat, Z = sizeB nb := ⟨_, rfl⟩
 have hZ1 : Z = (nb + 7) / 8 := hZ
 have hZ0 : 1 ≤ Z := by omega
 have hZl : Z ≤ 20000 := by omega
 have hit := itB_att sd at_ aa Z hZ0 ((Z + 31) / 32) 0 (by omega) (by omega)
 change itB sd at_ aa afterA (stopA Z) ((Z + 31) / 32) 0 [] = _ at hit
 refine enterM (S := St (fun _ => True) w [] ([])) (L := [(0, .agg #[vx, .string (S sd), .int .i64 (at_ : Int)]), (1, .int .i64 (aa : Int)), (2, .int .i64 (nb : Int))]) Tryz.func152 rfl Tryz.ntmps152 rfl (Ac rfl (Ac rfl (Ac rfl (An _)))) (St.start (fun _ _ => trivial) Fn) ?_
 refine Cs ?_
 refine Kh rfl (Oy rfl rfl) ?_
 intro b3
 refine Ka rfl (Nt (Cs (Km rfl (Kq rfl (Rz rfl rfl rfl (by omega)) (Kq rfl (rd_quo64nl rfl rfl rfl (by omega)) (Ns 12 rfl (v' := .int .i64 ((Z : Nat) : Int)) (congrArg (Value.int .i64) (by omega)) ?_))))))
 refine Kh rfl (Oa rfl (v := (.int .i64 0)) (cs := [.int .i64 0]) (by kernel_rfl) rfl) ?_
 intro b7
 refine Ng rfl rfl (st rfl rfl rfl .tc (by kernel_rfl) rfl ?_ (by (simp only [List.set_cons_zero, List.set_cons_succ]; rfl))) ?_
 ·decide
 intro _
 refine Nt (Cs ?_)
 refine Kh rfl (Oa rfl (v := (.slice none 0 0)) (cs := [.slice none 0 0]) (by kernel_rfl) rfl) ?_
 intro b8
 refine Nt (Cq (Cs ?_))
 refine Kq rfl (lda rfl rfl .tc u66 rfl ?_) ?_
 ·kernel_rfl
 refine Km rfl ?_
 refine Kh rfl (Oc rfl rfl (fun w hS => blocks_c (t := ⟨[], sd, (at_ : Int)⟩) hS)) ?_
 intro g15
 refine Nt (Cb ?_)
 refine WC.range (CO := ACO vx sd at_ aa Z g15 b8 b7 b3) (pg := fun s q => s.length ≤ 30000 ∧ (q.1 = none ∨ 0 < s.length + q.2.length)) (inv := fun s y => y.length = 32) (after := afterA) (stop := stopA Z) (enc := fun s : Bs => #[Value.string (S s)]) ([]) ((none, [])) ((itB sd at_ aa afterA (stopA Z) ((Z + 31) / 32) 0 []).1) ((itB sd at_ aa afterA (stopA Z) ((Z + 31) / 32) 0 []).2) (⟨Nat.zero_le _, .inl rfl⟩) rfl (by kernel_rfl) (fun _ => rfl) (by exact fun w h => h.nil _) ?_ (fun l r D w hl hY hS => blk_i (K := (Z + 31) / 32) (sd := sd) (at_ := at_) (a := aa) (x := vx) hY hS ⟨Nat.zero_le _, .inl rfl⟩ hsd hat ha (by omega) (fun s y h => h) (by rw [hit]; rfl) hT) ?_ ?_
 ·intro l r D f a s g x ext wr hl hi hpg hF hS
  rw [fold1]
  refine round_of (Fr.tm (hF.put (d := 16) rfl _)) hS ?_
  refine WR.region (by kernel_rfl) ?_
  refine Ka rfl (Nn ?_)
  refine WX.begin hl ?_
  refine Cb ?_
  refine WR.sr (by kernel_rfl) ?_
  refine Kq rfl (Ld rfl rfl .tc u136) ?_
  refine Km rfl ?_
  refine Kh rfl (apps rfl u136 u9 (by kernel_rfl) .tc rfl rfl ?_) ?_
  ·exact ⟨by simp, rfl, by have hi' : x.length = 32 := hi; omega, hpg.2⟩
  rintro ⟨o19, c19, s19⟩
  refine WL.pu ?_
  intro hg19; (try dsimp only at hg19 ⊢)
  refine Ng rfl rfl (st rfl rfl rfl .tc (by kernel_rfl) rfl ?_ (by (simp only [List.set_cons_zero, List.set_cons_succ]; rfl))) ?_
  ·(simp; done)
  intro _
  refine Nt ?_
  refine WR.sr (by kernel_rfl) ?_
  refine Kq rfl (Ld rfl rfl .tc u136) ?_
  refine Kq rfl (rd_len rfl rfl u136) (Kq rfl (Ld rfl rfl .tc u3) ?_)
  refine Kq rfl (rd_geq rfl rfl rfl) (Nt ?_)
  refine Cd rfl (fun hc23 => ?_) (fun hc23 => ?_)
  ·(try simp only [sB] at hc23)
   refine Cx ?_
   refine WX.block_other rfl ?_
   exact WX.rexit hl fun w' hS => by
    have hi' : x.length = 32 := hi
    have h2 : stopA Z s x = some (.exit 0) := by rw [stopA, if_pos (by omega)]
    rw [h2]
    refine ⟨rfl, (o19, s19), fun h => (by cases h), ?_⟩
    simp only [ACO, afterA, List.map_append, List.length_append]
    rw [hg19.1] at hS
    exact hS
  ·(try simp only [sB] at hc23)
   refine Ck (Xd ?_)
   exact WX.rnext hl fun w' hS => by
    have hi' : x.length = 32 := hi
    have h2 : stopA Z s x = none := by rw [stopA, if_neg (by omega)]
    rw [h2]
    refine ⟨rfl, (o19, s19), fun _ => ⟨by simp only [afterA, List.length_append]; omega, by simp only [afterA, List.length_append]; rw [← hg19.1]; exact hg19.2⟩, ?_⟩
    simp only [ACO, afterA, List.map_append, List.length_append]
    rw [hg19.1] at hS
    exact hS
 ·intro D1 g1 hD1 hg1 hcf
  exfalso; rw [hit] at hcf; cases hcf -- done
 ·intro D1 g1 c hD1 hcf
  obtain rfl : c = .exit 0 := by (rw [hit] at hcf; cases hcf; rfl)
  refine Cx (Xe ?_)
  rw [hit]; dsimp only [ACO]
  have hbl := blks_len sd at_ aa ((Z + 31) / 32)
  have hby : bytesB sd at_ aa nb = (blks sd at_ aa ((Z + 31) / 32)).take Z := by rw [bytesB, ← hZ]
  generalize blks sd at_ aa ((Z + 31) / 32) = X at *
  obtain ⟨c, X', rfl⟩ : ∃ c X', X = c :: X' := by cases X with
   | nil => simp at hbl; omega
   | cons c X' => exact ⟨c, X', rfl⟩
  obtain ⟨q1, q2⟩ := g1
  dsimp only
  have hcl : X'.length + 1 = 32 * ((Z + 31) / 32) := hbl
  refine Xa (Cs ?_)
  refine WL.know (p := ∃ bb, q1 = some bb) (fun w h => by obtain ⟨b, hb, _⟩ := h.ocx (ob := q1) (cs := List.map B (c :: X') ++ q2) .tc (by simp); exact ⟨b, hb⟩) ?_
  rintro ⟨bb, rfl⟩
  dsimp only [Option.map_some]
  refine Kq rfl (Ld rfl rfl .tc u136) ?_
  refine Kq rfl (Ld rfl rfl .tc u3) ?_
  refine Kq rfl (rd_slt rfl rfl rfl u136 (by kernel_rfl : _ = some 1) ?_ (by (try simp only [sN, Int.reduceToNat, Nat.reduceAdd, Nat.reduceMul, Nat.reduceSub]); rfl)) ?_
  ·omega
  refine Ng rfl rfl (st rfl rfl rfl .tc (by kernel_rfl) rfl ?_ (by (simp only [List.set_cons_zero, List.set_cons_succ]; rfl))) ?_
  ·(simp; done)
  intro _
  refine Nt (Cq (Cs (Kq rfl (Ld rfl rfl .tc u3) ?_)))
  refine Kq rfl (rd_gtr rfl rfl rfl) (Nt ?_)
  refine Cd rfl (fun hc28 => ?_) (fun hc28 => by exfalso; (try simp only [sB] at hc28); omega)
  (try simp only [sB] at hc28)
  refine Cf [0, 1, 2, 3, 4, 5, 6, 7, 8, 9] [10] [0, 0, 0, 0, 0, 0, 0, 0, 0, 0, 2] (by kernel_rfl) (by kernel_rfl) rfl ?_
  refine Kj rfl (Ld rfl rfl .tc u136) ?_
  refine Kj rfl (Ja rfl rfl rfl u136 (by kernel_rfl : _ = some 1) (by omega)) ?_
  refine Kj rfl (Ld rfl rfl .tc u5) ?_
  refine Kj rfl (Ld rfl rfl .tc u3) ?_
  refine Kj rfl (rd_mul64ln rfl rfl rfl (by omega)) (Kj rfl (Rm rfl rfl) (Kj rfl (rd_sub64n rfl rfl rfl (by omega)) ?_))
  refine Kj rfl (rd_shr rfl rfl rfl ?_) ?_
  ·omega
  refine Kj rfl (rd_and rfl rfl rfl) ?_
  refine WJ.set 37 rfl (v' := B (UInt8.ofNat (c.toNat % 2 ^ (8 - (8 * Z - nb))))) (by exact congrArg (Value.int .u8) (mask8 c (8 * Z - nb) (by omega))) ?_
  refine Kj rfl (Ja rfl rfl rfl u136 (by kernel_rfl : _ = some 1) (by omega)) ?_
  refine WJ.nil ?_
  refine Ng rfl rfl (st rfl rfl rfl .tc (by kernel_rfl) rfl ?_ (by rfl)) ?_
  ·(simp; done)
  intro _
  refine Nn ?_
  obtain ⟨y, hy⟩ : ∃ y : Bs, y = (UInt8.ofNat (c.toNat % 2 ^ (8 - (8 * Z - nb))) :: X').take Z := ⟨_, rfl⟩
  have hyl : y.length = Z := by rw [hy, List.length_take, List.length_cons]; omega
  have hya : canon (val y) = attS sd at_ aa nb := by
   have := att_end (sd := sd) (at_ := at_) (a := aa) (nb := nb) (X := c :: X') (x := c.toNat % 2 ^ (8 - (8 * Z - nb))) hZ hZ0 hby (by simp only [List.length_cons]; omega) rfl (by omega) (by omega)
   rw [← this, hy]; obtain ⟨q, rfl⟩ : ∃ q, Z = q + 1 := ⟨Z - 1, by omega⟩; rfl
  refine Xa (Cq (Cb ?_))
  refine Lo (σ := Bs × (Option Addr) × Nat) [(8, _)] (fun gq => []) (fun gq => trimB gq.1 = trimB y ∧ gq.1.length ≤ gq.2.2 ∧ gq.1.length ≤ Z) (fun gq => gq.1.length) (fun gq => [⟨some b8, [.slice gq.2.1 gq.1.length gq.2.2], 136⟩]) (fun gq => [Fact.sl gq.2.1 (gq.1.map B), Fact.dfr D1]) (y, some ⟨bb, 0, none⟩, (c :: X').length + q2.length) (S1 rfl) (S0 _) (by (try dsimp only); exact ⟨rfl, by rw [hyl]; simp only [List.length_cons]; omega, by omega⟩) (by exact fun w h => by dsimp only; rw [hyl]; exact st_sub _ (h.freeze (off := 0) (xs := y.map B) (fun i hi => by
    have hi' : i < Z := by rw [List.length_map, hyl] at hi; exact hi
    show ((B (UInt8.ofNat (c.toNat % 2 ^ (8 - (8 * Z - nb)))) :: (X'.map B ++ q2)) : List Value)[0 + i]? = _
    rw [hy, List.map_take, List.getElem?_take, if_pos hi', Nat.zero_add]
    show (((UInt8.ofNat (c.toNat % 2 ^ (8 - (8 * Z - nb))) :: X').map B ++ q2) : List Value)[i]? = _
    rw [List.getElem?_append_left (by simp; omega)]))) ?_
  rintro ⟨t, a', cp⟩ hinv1; (try dsimp only at hinv1 ⊢)
  obtain ⟨ht, htc, htb⟩ := hinv1
  refine Cq (Cs (Kq rfl (Ld rfl rfl .tc u136) ?_))
  refine Kq rfl (rd_len rfl rfl u136) (Kq rfl (rd_gtr rfl rfl rfl) (Km rfl ?_))
  refine Nb 42 rfl (fun hg42 => ?_) (fun hg42 => ?_)
  ·(try simp only [sB] at hg42)
   refine Kq rfl (Ld rfl rfl .tc u136) ?_
   refine Kq rfl (Ib rfl rfl rfl u136 (by omega) (by (rw [List.length_map]; omega))) ?_
   refine Kq rfl (ldm rfl rfl u5 rfl (by omega)) ?_
   refine Kq rfl (rd_eql rfl rfl rfl) (Kq rfl (Rp rfl rfl rfl) (Nt ?_))
   refine Cd rfl (fun hc47 => ?_) (fun hc47 => ?_)
   ·(try simp only [sB] at hc47)
    have hz : (t.getD 0 default).toNat = 0 := by (simp at hc47; exact hc47)
    refine Ck (Xa (Cb (Cg (Kq rfl (Ld rfl rfl .tc u136) ?_))))
    refine Kq rfl (rd_slf rfl rfl rfl u136 (by kernel_rfl : _ = some 1) (by omega) (by (try simp only [sN, Int.reduceToNat, Nat.reduceAdd, Nat.reduceMul, Nat.reduceSub]); rfl) (by (try simp only [sN, Int.reduceToNat, Nat.reduceAdd, Nat.reduceMul, Nat.reduceSub]); rfl) (by (try simp only [sN, Int.reduceToNat, Nat.reduceAdd, Nat.reduceMul, Nat.reduceSub]); rfl)) ?_
    refine Ns 49 rfl (v' := .slice (cut a' 1 cp 1) (t.drop 1).length (cp - 1)) (by rw [List.length_drop]) ?_
    refine Ng rfl rfl (st rfl rfl rfl .tc (by kernel_rfl) rfl ?_ (by (simp only [List.set_cons_zero, List.set_cons_succ]; rfl))) ?_
    ·(simp; done)
    intro _
    refine Nn (Xd ?_)
    refine Lx ((t.drop 1, cut a' 1 cp 1, cp - 1)) (by simp only [List.length_drop]; omega) (S1 rfl) (S0 _) ?_ (by exact fun w h => (h.add (f := Fact.sl (cut a' 1 cp 1) ((t.drop 1).map B)) (sl_cutM 1 htc (h.fact (Fact.sl a' (t.map B)) (by simp)))).sub (List.Sublist.refl _) (fun f hf => by simp only [List.mem_cons, List.not_mem_nil, or_false] at hf ⊢; rcases hf with h | h <;> simp [h]))
    (try dsimp only)
    exact ⟨by rw [← trimB_zero (by omega) hz]; exact ht, by simp only [List.length_drop]; omega, by simp only [List.length_drop]; omega⟩
   ·(try simp only [sB] at hc47)
    refine Cx (Xc (Xc (Xe (Xa (Cs (Kq rfl (Ld rfl rfl .tc u136) ?_))))))
    refine Kq rfl (b2sf rfl rfl .tc u136 u5 u22 ?_) ?_
    ·rfl
    refine Ka rfl (Nt (Ce ?_))
    exact WX.retM1 hD1 rfl (.tmp rfl .nil) fun w' hS => ⟨by rw [← hya, show canon (val y) = t from by rw [← trim_canon, ← ht, trimB_stop (by (exact .inr (fun h0 => hc47 (by show ((t.getD 0 default).toNat : Int) = 0; omega))))]]; rfl, hS.below⟩
  ·(try simp only [sB] at hg42)
   refine Kt rfl (Kt rfl (Kt rfl (Kt rfl (Kq rfl (Rq rfl rfl rfl) (Nt ?_)))))
   refine Cd rfl (fun h => by cases h) (fun _ => ?_)
   refine Cx (Xc (Xc (Xe (Xa (Cs (Kq rfl (Ld rfl rfl .tc u136) ?_))))))
   refine Kq rfl (b2sf rfl rfl .tc u136 u5 u22 ?_) ?_
   ·rfl
   refine Ka rfl (Nt (Ce ?_))
   exact WX.retM1 hD1 rfl (.tmp rfl .nil) fun w' hS => ⟨by rw [← hya, show canon (val y) = t from by rw [← trim_canon, ← ht, trimB_stop (by (exact .inl (by omega)))]]; rfl, hS.below⟩
end Go.Proofs.YthkmpjobfdeoaaaGreatDoor
