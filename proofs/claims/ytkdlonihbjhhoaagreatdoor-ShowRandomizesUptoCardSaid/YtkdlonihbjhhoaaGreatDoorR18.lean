/-
  Parts of the walk: Shp Dec Itoa Coi2 Coi3 Apps Coi4 Coi5 Coi6 Cbl Egp Shs.
-/
import Derived.Test.YtkdlonihbjhhoaaGreatDoorR17
import Derived.Lib.ItoaNum
import Derived.Lib.AppendStr
namespace Go.Proofs.YtkdlonihbjhhoaaGreatDoor
open Go.RowKit
set_option linter.unusedSimpArgs false
set_option linter.unusedVariables false
set_option maxHeartbeats 600000
set_option maxRecDepth 20000
def gg : List Bs → Nat → List Tm
 | [], _ => []
 | b :: l, i => trm b i :: gg l (i + 1)
theorem iD : ∀ (l : List Bs) (i : Nat), (gg l i).length = l.length
 | [], _ => rfl
 | b :: l, i => by rw [gg, Al, Al, iD l]
theorem n6 : ∀ (l m : List Bs) (i : Nat), gg (l ++ m) i = gg l i ++ gg m (i + l.length)
 | [], m, i => by simp [gg]
 | b :: l, m, i => by rw [List.cons_append, gg, gg, n6 l, List.cons_append, Al]; congr 3; omega
def pfL (m : Nat) (bs : List Bs) (es : List Zs) : Nat := aF (fun p : Bs × Zs => dx m (val p.1) (zv p.2)) (bs.zip es)
theorem sG {g : Gp} {bs : List Bs} {es : List Zs} (hg : a6 g = 0) (hb : ∀ x ∈ bs, elG g x) (he : ∀ x ∈ es, okZ x) (hl : bs.length = es.length) :
  cd g bs es = (ae (pfL (val g.1) bs es % val g.1), 0) := by
 have h0 : fC g bs es (decide (bs.length = es.length)) = 0 := by
  rw [fC, Aa (fun h => h fun x hx => (hb x hx).1), Aa (fun h => h he), Aa (fun h => h hg), Aa (by simpa using hl), Aa (fun h => h hb)]
 rw [cd, Ab h0]; rfl
theorem yz : ∀ n, n < 10 → (([48, 49, 50, 51, 52, 53, 54, 55, 56, 57] : Bs).drop n).take 1 = [UInt8.ofNat (48 + n)] := by decide
theorem rx {n : Nat} (h : ¬ n < 10) : Lib.decDigits n = Lib.decDigits (n / 10) ++ [UInt8.ofNat (48 + n % 10)] := by rw [Lib.decDigits, dif_neg h]
theorem jG {n : Nat} (h : n < 10) : Lib.decDigits n = [UInt8.ofNat (48 + n)] := by rw [Lib.decDigits, dif_pos h]
theorem dm : ∀ (k n : Nat), n < 10 ^ (k + 1) → (Lib.decDigits n).length ≤ k + 1
 | 0, n, h => by rw [jG (by simpa using h)]; simp
 | k + 1, n, h => by
  by_cases h' : n < 10
  ·rw [jG h']; simp
  ·rw [rx h', Ak]; have := dm k (n / 10) (by rw [Au] at h; omega); simp; omega
abbrev Tab (w : World) : Prop := Lib.TabIs Tryz.prog w "internal/strconv.uint64pow10" .u64 Lib.pow10Tab
theorem rT {w w' : World} (h : Tab w) (hb : Below w.heap.size w w') : Tab w' := by
 have h' : w.var? Tryz.prog "internal/strconv.uint64pow10" = some (Lib.pow10Tab.map fun z => Value.int .u64 z).toArray := h
 show w'.var? Tryz.prog "internal/strconv.uint64pow10" = _
 unfold World.var? at h' ⊢
 cases hg : Tryz.prog.globalNamed "internal/strconv.uint64pow10" with
 | none => rw [hg] at h'; cases h'
 | some g =>
  rw [hg] at h'
  simp only [Option.bind_some] at h' ⊢
  have hlt : g < w.heap.size := by
   rcases Cy g w.heap.size with q | q
   ·exact q
   ·rw [Array.getElem?_eq_none q] at h'; cases h'
  rw [hb.block g hlt]; exact h'
theorem fb {ok : Nat → Prop} {w0 w : World} {own : List Ent} {fs : List Fact} (h : Tab w0) (hS : St ok w0 own fs w) : Tab w := rT h hS.below
theorem p4 (w : World) (k : Nat) (os : Array Obj) : Below w.heap.size w (Sort.grow (w.drewN k) os) := by
 have hh : (Sort.grow (w.drewN k) os).heap = w.heap ++ os := rfl
 refine ⟨rfl, rfl, rfl, by rw [hh]; simp, fun q hq => ?_⟩
 rw [hh, Array.getElem?_append_left hq]
theorem pZ {n : Nat} {w : World} (hn : n ≤ 9223372036854775807) (hT : Tab w) :
  Cw 231 #[.int .i64 (n : Int)] w (.string (S (Lib.decDigits n))) :=
 (u6 n (by omega) (by omega) w hT).mono fun _ _ ⟨h1, k, os, h2⟩ => ⟨by rw [h1, Lib.itoa, Aa (by omega), Ah]; rfl, by rw [h2]; exact p4 w k os⟩
theorem CB {n : Nat} {w : World} (hih : ∀ m, m < n → ∀ w, Calls Tryz.prog 202 #[.int .i64 (m : Int)] w fun e w' => e = .returned (.string (S (Lib.decDigits m))) ∧ Below w.heap.size w w') (hn : n < 10000000000000000000) (hn2 : n ≤ 9223372036854775807) :
  Cw 202 #[.int .i64 (n : Int)] w (.string (S (Lib.decDigits n))) := by
 refine En [] [(0, .int .i64 (n : Int))] Tryz.func202 I Tryz.ntmps202 I (Ac I (An _)) Fn (Cs (Ka I (Nt (Cq (Cs (Km I (Yl I (Nt (Cd I (fun hc5 => by exfalso; (try simp only [sB] at hc5); omega) (fun hc5 => ?_))))))))))
 (try simp only [sB] at hc5)
 refine Ck (Xa (Cq (Cs (Km I (Yl I (Nt (Ci I (fun hc24 => ?_) (fun hc24 => ?_))))))))
 ·refine Cs (Km I (Km I (Kq I (Rz I I I (by omega)) ?_)))
  refine Kq I (qI I I I I u9 ?_) ?_
  ·(try simp only [Ak, Al, Bo]); omega
  refine Ns 28 I (v' := .string (S ([UInt8.ofNat (48 + n)]))) (congrArg (fun l => Value.string (S l)) (by (have := yz n (by omega); rw [← this]; rw [Ah, Ah, Nat.add_sub_cancel_left]))) ?_
  refine Ka I (Nt (Ce (Xb ?_)))
  exact R1 I I (by rw [jG (by omega)]; rfl)
 ·refine Ck (Xa (Cq (Cf [0, 1, 2, 3, 4, 5, 6, 7, 8, 9, 10] [] [0, 0, 1, 0, 0, 0, 0, 0, 0, 0, 0] (by kernel_rfl) (by kernel_rfl) I ?_)))
  refine Kj I (Rm I I) (Kj I (bA I I I (by omega)) ?_)
  refine Jv I I I I I (fun ext => Oc I I (Kv fun w hS => hih (n / 10) (by omega) w)) ?_
  refine Kj I (Rm I I) (Kj I (bN I I I (by omega)) (Kj I (Rm I I) (Kj I (bN I I I (by omega)) (Kj I (Rz I I I (by omega)) ?_))))
  refine Kj I (qI I I I I u9 ?_) ?_
  ·(try simp only [Ak, Al, Bo]); omega
  refine WJ.set 37 I (v' := .string (S ([UInt8.ofNat (48 + n % 10)]))) (congrArg (fun l => Value.string (S l)) (by (have := yz (n % 10) (by omega); rw [← this]; rw [Ah, Ah, Nat.add_sub_cancel_left]))) ?_
  have hdl := dm 18 (n / 10) (by omega)
  refine Kj I (bI I I I ?_) ?_
  ·((try simp only [Ak, Al, Bo]); omega)
  refine Kj I (Ra I I) ?_
  refine WJ.nil ?_
  refine Nt (Ce ?_)
  exact R1 I I (by rw [rx (n := n) (by omega)]; rfl)
theorem AB (n : Nat) (hn : n ≤ 9223372036854775807) : ∀ w, Cw 202 #[.int .i64 (n : Int)] w (.string (S (Lib.decDigits n))) := by
 induction n using Nat.strongRecOn with
 | _ n ih => intro w; exact CB (fun m hm w => ih m hm (by omega) w) (by omega) hn
theorem vL {n : Nat} {w : World} (hn : n ≤ 9223372036854775807) :
  Cw 202 #[.int .i64 (n : Int)] w (.string (S (Lib.decDigits n))) :=
 AB n hn w
theorem o7 {s : Bs} {w : World} :
  Cw 203 #[.string (S s)] w (.string (S (ae (val s)))) := by
 refine En [] [(0, .string (S s))] Tryz.func203 I Tryz.ntmps203 I (Ac I (An _)) Fn (Cs (Ka I (Nt (Cq (Cb (Lp (σ := Bs) [] (fun gq => [(0, .string (S gq))]) (fun gq => ct gq = ct s) (fun gq => gq.length) (s) (S0 _) (S1 I) (by (try dsimp only); all_goals rfl) ?_))))))
 rintro t hinv1; (try dsimp only at hinv1 ⊢)
 refine Cq (Cs (Km I (Yn I u9 (Yg I (Km I (Nc 6 I (fun hg6 => ?_) (fun hg6 => ?_)))))))
 ·refine Km I (Kq I (bf I I I u9 ?_) ?_)
  ·omega
  refine Yi I (Yp I (Nt (Ci I (fun hc10 => ?_) (fun hc10 => ?_))))
  ·have hz : (t.getD 0 default).toNat = 0 := by (simp at hc10; exact hc10)
   refine Ck (Xa (Cb (Cg (Km I (Kq I (ur I I I u9 ?_) ?_)))))
   ·(try simp only [Ak, Al, Bo]); omega
   refine Ns 12 I (v' := .string (S (t.drop 1))) (congrArg (fun l => Value.string (S l)) (by rfl)) ?_; refine Ka I (Nn (Xd (Ly (t.drop 1) (by simp only [B8]; omega) (S0 _) (by refine (Sc ?_ (S0 _)) <;> (rfl)) ?_ (fun _ h => h)))); (try dsimp only); rw [← ik (by omega) hz]; exact hinv1
  ·refine Cx (Xc (Xc (Xe (Xa (Cs (Km I (Ka I (Nt (Ce ?_))))))))); exact R1 I I (by rw [show ae (val s) = t from by rw [← cq, ← hinv1, cr (by (exact .inr (fun h0 => hc10 (by show ((t.getD 0 default).toNat : Int) = 0; omega))))]]; rfl)
 ·refine T2 I (Kt I (Yq I (Nt (Cd I (fun h => by cases h) (fun _ => ?_)))))
  refine Cx (Xc (Xc (Xe (Xa (Cs (Km I (Ka I (Nt (Ce ?_)))))))))
  exact R1 I I (by rw [show ae (val s) = t from by rw [← cq, ← hinv1, cr (by (exact .inl (by omega)))]]; rfl)
theorem kt (k s : Bs) : (mac k s).length = 32 := dU _
def mi (at_ a b : Nat) : Bs := Lib.decDigits at_ ++ [46] ++ Lib.decDigits a ++ [46] ++ Lib.decDigits b
def gL (sd : Bs) (at_ a b : Nat) : Bs := mac sd (mi at_ a b)
def jN (sd : Bs) (at_ a : Nat) : Nat → Bs
 | 0 => []
 | k + 1 => jN sd at_ a k ++ gL sd at_ a k
theorem eI (sd : Bs) (at_ a : Nat) : ∀ k, (jN sd at_ a k).length = 32 * k
 | 0 => rfl
 | k + 1 => by rw [jN, Ak, eI sd at_ a k, gL, kt]; omega
def od (nb : Nat) : Nat := (nb + 7) / 8
def jL (sd : Bs) (at_ a nb : Nat) : Bs := (jN sd at_ a ((od nb + 31) / 32)).take (od nb)
def kf (sd : Bs) (at_ a nb : Nat) : Bs := ae (val (jL sd at_ a nb) % 2 ^ nb)
theorem uU (c : UInt8) (r : Bs) (x nb : Nat) (hx : x ≤ 8) (hn : nb = 8 * r.length + x) : val (c :: r) % 2 ^ nb = c.toNat % 2 ^ x * 256 ^ r.length + val r := by
 have e : 2 ^ nb = 256 ^ r.length * 2 ^ x := by rw [hn, Bi, Dm]
 have h1 := aN r
 rw [val, e, Nat.mod_mul, Aj c.toNat, Nat.mul_add_mod, Ai h1, Co (jv _), Bf h1, A6, Aj (c.toNat % 2 ^ x)]
 omega
theorem AQ (i : Nat) (h : i ≤ 62) : IntKind.i64.wrap (1 * 2 ^ min ((i : Nat) : Int).toNat IntKind.i64.bits) = ((2 ^ i : Nat) : Int) := by
 have m1 : min ((i : Nat) : Int).toNat IntKind.i64.bits = i := by
  have : IntKind.i64.bits = 64 := by decide
  omega
 have h2 : 2 ^ i ≤ 2 ^ 62 := A2 (by decide) h
 rw [m1, Int.one_mul, show ((2 : Int) ^ i) = ((2 ^ i : Nat) : Int) by norm_cast, qi _ (by omega)]
theorem uS (c P : Nat) (hP : 0 < P) : c % P = if P ≤ c % (2 * P) then c % (2 * P) - P else c % (2 * P) := by
 have h1 : c % (2 * P) % P = c % P := Nat.mod_mod_of_dvd _ ⟨2, by omega⟩
 have h2 := Ao c (show 0 < 2 * P by omega)
 split
 ·rename_i h
  rw [← h1, Nat.mod_eq_sub_mod h, Ai (by omega)]
 ·rw [← h1, Ai (by omega)]
theorem rL {sd X : Bs} {at_ a nb Z x : Nat} (hZ : Z = od nb) (hZ0 : 1 ≤ Z) (hby : jL sd at_ a nb = X.take Z) (hX : Z ≤ X.length) (hx : x = (X.getD 0 default).toNat % 2 ^ (8 - (8 * Z - nb))) (hnb : nb ≤ 8 * Z) (hnb2 : 8 * Z < nb + 8) :
  ae (val ([UInt8.ofNat x] ++ (X.take Z).drop 1)) = kf sd at_ a nb := by
 have e : X.take Z = X.getD 0 default :: (X.take Z).drop 1 := by
  cases X with
  | nil => simp at hX; omega
  | cons c s => obtain ⟨q, rfl⟩ : ∃ q, Z = q + 1 := ⟨Z - 1, by omega⟩; rfl
 have hl : ((X.take Z).drop 1).length = Z - 1 := by rw [B8, Br]; omega
 have hc := (X.getD 0 default).toNat_lt
 have hxl : x < 256 := by rw [hx]; exact Bb (Nat.mod_le _ _) hc
 have hm := uU (X.getD 0 default) ((X.take Z).drop 1) (8 - (8 * Z - nb)) nb (by omega) (by rw [hl]; omega)
 rw [kf, hby]
 congr 1
 rw [show val (X.take Z) = val (X.getD 0 default :: (X.take Z).drop 1) by rw [← e], hm, List.singleton_append, val, UInt8.toNat_ofNat', ← hx]
 congr 1
 rw [Ai (by omega)]
theorem pL {sd : Bs} {at_ a nb : Nat} {w : World} (hsd : sd.length ≤ 400000) (hat : at_ ≤ 4294967296) (ha : a ≤ 1000) (hnb : 1 ≤ nb) (hnb2 : nb ≤ 100000) :
  Cw 158 #[.string (S sd), .int .i64 (at_ : Int), .int .i64 (a : Int), .int .i64 (nb : Int)] w (.string (S (kf sd at_ a nb))) := by
 have hd1 := dm 18 at_ (by omega); have hd2 := dm 18 a (by omega)
 obtain ⟨Z, hZ⟩ : ∃ Z : Nat, Z = od nb := ⟨_, rfl⟩
 have hZ1 : Z = (nb + 7) / 8 := hZ
 have hZ0 : 1 ≤ Z := by omega
 have hZl : Z ≤ 20000 := by omega
 refine En [] [(0, .string (S sd)), (1, .int .i64 (at_ : Int)), (2, .int .i64 (a : Int)), (3, .int .i64 (nb : Int))] Tryz.func158 I Tryz.ntmps158 I (Ac I (Ac I (Ac I (Ac I (An _))))) Fn (Cs (Ka I (Nt (Cs (Km I (Kq I (Rz I I I (by omega)) (Kq I (bA I I I (by omega)) (Ns 16 I (v' := .int .i64 ((Z : Nat) : Int)) (congrArg (Value.int .i64) (by omega)) (Ka I (Nt (Cs (Ka I (Nt (Cq (Cs (Ka I (Nt (Cb (Lp (σ := Nat) [(0, _), (1, _), (2, _), (3, _), (9, _)] (fun gq => [(10, .string (S (jN sd at_ a gq))), (11, .int .i64 (gq : Int))]) (fun gq => gq ≤ (Z + 31) / 32) (fun gq => Z - 32 * gq) (0) (S5 I I I I I) (S2 I I) (by (try dsimp only); exact Am _) ?_)))))))))))))))))))
 rintro k hinv1; (try dsimp only at hinv1 ⊢)
 refine Cq (Cs (Km I (Yn I u9 (Km I (Yl I (Nt (Ci I (fun hc20 => ?_) (fun hc20 => ?_))))))))
 ·have hbl := eI sd at_ a k
  have hd3 := dm 18 k (by omega)
  have hml := kt sd (mi at_ a k)
  refine Ck (Xa (Cq (Cb (Cg (Km I (Km I (Km I (Kc I (fun w hS => vL (n := at_) (by omega)) (Kq I (bI I I I ?_) ?_)))))))))
  ·((try simp only [Ak, Al, Bo]); omega)
  refine Km I (Kc I (fun w hS => vL (n := a) (by omega)) (Kq I (bI I I I ?_) ?_))
  ·((try simp only [Ak, Al, Bo]); omega)
  refine Kq I (bI I I I ?_) ?_
  ·((try simp only [Ak, Al, Bo]); omega)
  refine Km I (Kc I (fun w hS => vL (n := k) (by omega)) (Kq I (bI I I I ?_) ?_))
  ·((try simp only [Ak, Al, Bo]); omega)
  refine Kc I (fun w hS => yV (key := sd) (s := mi at_ a k) (by omega) (by simp only [mi, Ak, Al, Bo]; omega)) (Kq I (bI I I I ?_) ?_)
  ·((try simp only [Ak, Al, Bo]); omega)
  refine Ka I (Nn (Xd (Xa (Cg (Km I (Kq I (Rz I I I (by omega)) (Ka I (Nn ?_))))))))
  have hbl' := eI sd at_ a k
  refine Ly (k + 1) (by (try dsimp only); omega) (S5 I I I I I) (by refine (Sc ?_ (Sc ?_ (S0 _))) <;> (rfl)) ?_ (fun _ h => h)
  (try dsimp only)
  omega
 ·refine Cx (Xc (Xc (Xe ?_)))
  have hkK : k = (Z + 31) / 32 := by have hbl := eI sd at_ a k; omega
  have hbl := eI sd at_ a k
  have hby : jL sd at_ a nb = (jN sd at_ a k).take Z := by rw [jL, ← hZ, hkK]
  obtain ⟨X, hX⟩ : ∃ X, X = jN sd at_ a k := ⟨_, rfl⟩
  rw [← hX] at hby hbl ⊢
  refine Xa (Cs (Km I (Kq I (bf I I I u9 ?_) ?_)))
  ·omega
  refine Kq I (eD I I u5 u3 ?_) ?_
  ·(exact iC _)
  have hc0 := (X.getD 0 default).toNat_lt
  refine Ns 39 I (v' := .int .i64 (((X.getD 0 default).toNat % 2 ^ (8 - 0) : Nat) : Int)) (congrArg (Value.int .i64) (by rw [Ai (by omega)]; rfl)) ?_
  refine Ka I (Nt (Cq (Cs (Ka I (Ns 13 I (v' := .int .i64 (7 - ((0 : Nat) : Int))) (congrArg (Value.int .i64) (by omega)) (Nt (Cb (Lp (σ := Nat) [(3, _), (9, _), (10, _)] (fun gq => [(12, .int .i64 (((X.getD 0 default).toNat % 2 ^ (8 - gq) : Nat) : Int)), (13, .int .i64 (7 - (gq : Int)))]) (fun gq => gq ≤ 8 * Z - nb) (fun gq => 8 - gq) (0) (S3 I I I) (S2 I I) (by (try dsimp only); exact Am _) ?_))))))))
  rintro j hinv2; (try dsimp only at hinv2 ⊢)
  refine Cq (Cs (Km I (Km I (Kq I (cw I I I (by omega)) (Km I (Kq I (aM I I I (by omega)) (Kq I (dd I I I (by omega)) (Yh I (Nt (Ci I (fun hc46 => ?_) (fun hc46 => ?_)))))))))))
  ·have hj7 : j ≤ 6 := by omega
   have hms := uS (X.getD 0 default).toNat (2 ^ (7 - j)) (Cl (by decide)); rw [show 2 * 2 ^ (7 - j) = 2 ^ (8 - j) by rw [Aj, ← Au]; congr 1; omega, show 2 ^ (7 - j) = 2 ^ (8 - (j + 1)) by congr 1; omega] at hms; have hpw : 2 ^ (8 - (j + 1)) ≤ 2 ^ 8 := A2 (by decide) (by omega); have hcm : (X.getD 0 default).toNat % 2 ^ (8 - j) < 256 := Bb (Nat.mod_le _ _) hc0; refine Ck (Xa (Cq (Cb (Cs (Km I (Km I (Ns 50 I (v' := .int .i64 (((7 - j : Nat) : Int))) (congrArg (Value.int .i64) (by omega)) ?_))))))); refine Kq I (eD I I u3 wz ?_) ?_
   ·(rw [IntKind.wrap_u64]; omega)
   refine Kq I (fM I I I ?_) ?_
   ·omega
   refine Ns 52 I (v' := .int .i64 ((2 ^ (8 - (j + 1)) : Nat) : Int)) (congrArg (Value.int .i64) (by rw [AQ _ (by omega)]; (try (congr 2; try omega)))) ?_; refine Yh I (Nt (Ci I (fun hc53 => ?_) (fun hc53 => ?_)))
   ·refine Cg (Km I (Km I (Ns 55 I (v' := .int .i64 (((7 - j : Nat) : Int))) (congrArg (Value.int .i64) (by omega)) ?_))); refine Kq I (eD I I u3 wz ?_) ?_
    ·(rw [IntKind.wrap_u64]; omega)
    refine Kq I (fM I I I ?_) ?_
    ·omega
    refine Ns 57 I (v' := .int .i64 ((2 ^ (8 - (j + 1)) : Nat) : Int)) (congrArg (Value.int .i64) (by rw [AQ _ (by omega)]; (try (congr 2; try omega)))) ?_; refine Kq I (aM I I I (by omega)) ?_; refine Ns 58 I (v' := .int .i64 (((X.getD 0 default).toNat % 2 ^ (8 - (j + 1)) : Nat) : Int)) (congrArg (Value.int .i64) (by rw [hms, Ab (by omega)]; try omega)) ?_; refine Ka I (Nn (Xd (Xa (Cg (Km I (Kq I (ay I I I (by omega)) (Ns 48 I (v' := .int .i64 (7 - ((j + 1 : Nat) : Int))) (congrArg (Value.int .i64) (by omega)) (Ka I (Nn (Ly (j + 1) (by (try dsimp only); omega) (S3 I I I) (by refine (Sc ?_ (Sc ?_ (S0 _))) <;> (rfl)) ?_ (fun _ h => h))))))))))); (try dsimp only); omega
   ·refine WC.set 12 I (v' := .int .i64 (((X.getD 0 default).toNat % 2 ^ (8 - (j + 1)) : Nat) : Int)) (congrArg (Value.int .i64) (by rw [hms, Aa (by omega)])) ?_; refine Ck (Xd (Xa (Cg (Km I (Kq I (ay I I I (by omega)) (Ns 48 I (v' := .int .i64 (7 - ((j + 1 : Nat) : Int))) (congrArg (Value.int .i64) (by omega)) (Ka I (Nn (Ly (j + 1) (by (try dsimp only); omega) (S3 I I I) (by refine (Sc ?_ (Sc ?_ (S0 _))) <;> (rfl)) ?_ (fun _ h => h)))))))))); (try dsimp only); omega
  ·refine Cx (Xc (Xc (Xe ?_))); have hjd : j = 8 * Z - nb := by omega
   have hcm : (X.getD 0 default).toNat % 2 ^ (8 - j) < 256 := Bb (Nat.mod_le _ _) hc0; obtain ⟨x, hx⟩ : ∃ x, x = (X.getD 0 default).toNat % 2 ^ (8 - j) := ⟨_, rfl⟩; rw [← hx] at hcm ⊢; have hae := rL (sd := sd) (at_ := at_) (a := a) (nb := nb) (X := X) (x := x) hZ hZ0 hby (by omega) (by rw [hx, hjd]) (by omega) (by omega); refine Xa (Cq (Cf [0, 1, 2, 3, 4, 5, 6, 7, 8, 9] [] [0, 0, 5, 4, 0, 0, 0, 0, 1, 0] (by kernel_rfl) (by kernel_rfl) I ?_)); refine Kj I (Rm I I) ?_; refine Kj I (eD I I u3 u5 ?_) ?_
   ·(rw [IntKind.wrap_u8]; omega)
   refine WJ.set 60 I (v' := B (UInt8.ofNat x)) (by exact congrArg (Value.int .u8) (by rw [UInt8.toNat_ofNat']; omega)) ?_; refine WJ.fz I I I I I (iv I I aC (by kernel_rfl : _ = some (some (.int .u8 0), 1, 1)) I (by simp only [List.map]; rfl) I I ?_ (by decide)) ?_
   ·simp [Value.cells, B]
   intro b61; refine WJ.zr I I I I I List.mem_cons_self (tX I I) (b2s (l := [UInt8.ofNat x]) I I .tc aC u5 u9 (by rfl) (by rfl)) ?_; refine Kj I (Rm I I) (Kj I (Rm I I) ?_); refine Kj I (qI I I I I u9 ?_) ?_
   ·(try simp only [Ak, Al, Bo]); omega
   refine WJ.set 65 I (v' := .string (S ((X.take Z).drop 1))) (congrArg (fun l => Value.string (S l)) (by rw [List.drop_take]; rfl)) ?_; refine Kj I (bI I I I ?_) ?_
   ·simp only [Ak, Al, Bo, B8, Br]; omega
   refine Jv I I I I I (fun ext => Oc I I (Kv fun w hS => o7)) ?_; refine Kj I (Ra I I) ?_; refine WJ.nilz ?_; refine Nt (Ce ?_); exact R1 I I (by rw [hae]; rfl)
def itB {σ : Type} (sd : Bs) (at_ a : Nat) (after : σ → Bs → σ) (stop : σ → Bs → Option Code) : Nat → Nat → σ → σ × Option Code
 | 0, _, s => (s, none)
 | f + 1, b, s => if (stop s (gL sd at_ a b)).isSome then (after s (gL sd at_ a b), stop s (gL sd at_ a b)) else itB sd at_ a after stop f (b + 1) (after s (gL sd at_ a b))
section
variable {σ : Type} {sd : Bs} {at_ a : Nat} {after : σ → Bs → σ} {stop : σ → Bs → Option Code} {K b : Nat} {s : σ}
theorem oQ (h : b < K) (hs : (stop s (gL sd at_ a b)).isSome = true) : itB sd at_ a after stop (K - b) b s = (after s (gL sd at_ a b), stop s (gL sd at_ a b)) := by
 rw [show K - b = (K - b - 1) + 1 by omega, itB, Ab hs]
theorem u7 (h : b < K) (hs : stop s (gL sd at_ a b) = none) : itB sd at_ a after stop (K - b) b s = itB sd at_ a after stop (K - (b + 1)) (b + 1) (after s (gL sd at_ a b)) := by
 rw [show K - b = (K - (b + 1)) + 1 by omega, itB, Aa (by simp [hs])]
theorem zP (h : b ≤ K) {s0 : σ} (hi : itB sd at_ a after stop (K - b) b s = itB sd at_ a after stop K 0 s0) (hs : (itB sd at_ a after stop K 0 s0).2.isSome = true) : b < K := by
 rcases Cy b K with q | q
 ·exact q
 ·rw [← hi, show K - b = 0 by omega, itB] at hs; cases hs
end
theorem vV {t : Tp} {x : Value} {a : Int} {own0 : List Ent} {ok : Nat → Prop} {w0 : World} {fs : List Fact} {w : World} (hS0 : St ok w0 (own0) (fs) w) :
  Calls Tryz.prog 194 #[.agg #[x, .string (S t.seed), .int .i64 t.at_], .int .i64 a] w fun e w' => ∃ g : Nat × Nat, e = .returned (.func (.func 230) #[] #[.pointer (some ⟨g.1, 0, none⟩), .pointer (some ⟨g.2, 0, none⟩)]) ∧ St ok w0 (⟨some g.2, [.int .i64 a], 3⟩ :: ⟨some g.1, [x, .string (S t.seed), .int .i64 t.at_], 41⟩ :: own0) fs w' := by
 refine enter (S := St ok w0 (own0) (fs)) (L := [(0, .agg #[x, .string (S t.seed), .int .i64 t.at_]), (1, .int .i64 a)]) Tryz.func194 rfl Tryz.ntmps194 rfl (Ac rfl (Ac rfl (An _))) hS0 ?_
 refine Cs (Kh I (Oy I I) ?_)
 intro b2
 refine Kh I (Oy I I) ?_
 intro b3
 refine Ka I (Nt (Cs (Kq I (du I I I) (Ka I (Nt (Ce ?_))))))
 exact Rn I (.tmp I .nil) fun w' hS => ⟨(b2, b3), rfl, hS⟩
theorem CL {σ γ : Type} {CO : σ → γ → List Ent} {pg : σ → γ → Prop} {inv : σ → Bs → Prop} {after : σ → Bs → σ} {stop : σ → Bs → Option Code} {l : Nat} {r : Loop} {ok : Nat → Prop} {w0 : World} {fs : List Fact} {w : World} {sd : Bs} {x : Value} {at_ a : Nat} {b1 b2 : Nat} {s0 : σ} {K : Nat} [∀ s g, HasE (CO s g) b1 [x, .string (S sd), .int .i64 (at_ : Int)] 41] [∀ s g, HasE (CO s g) b2 [.int .i64 (a : Int)] 3] {g0 : γ} (hY : YOk Tryz.prog l r ok w0 fs CO pg inv after stop (fun s : Bs => #[Value.string (S s)])) (hS0 : St ok w0 (CO s0 g0) (Fact.lp l (rcd r none) :: fs) w) (hg0 : pg s0 g0) (hsd : sd.length ≤ 400000) (hat : at_ ≤ 4294967296) (ha : a ≤ 1000) (hK : K ≤ 100000) (hinv : ∀ s x, x.length = 32 → inv s x) (hstop : (itB sd at_ a after stop K 0 s0).2.isSome = true) (hT : Tab w0) :
  Calls Tryz.prog 230 #[.func (.yield l) #[] #[], .pointer (some ⟨b1, 0, none⟩), .pointer (some ⟨b2, 0, none⟩)] w fun e w' => (∃ v, e = .returned v) ∧ ∃ g', ((itB sd at_ a after stop K 0 s0).2 = none → pg ((itB sd at_ a after stop K 0 s0).1) g') ∧ St ok w0 (CO ((itB sd at_ a after stop K 0 s0).1) g') (Fact.lp l (rcd r ((itB sd at_ a after stop K 0 s0).2)) :: fs) w' := by
 have hd1 := dm 18 at_ (by omega); have hd2 := dm 18 a (by omega)
 refine enter (S := St ok w0 (CO s0 g0) (Fact.lp l (rcd r none) :: fs)) (L := [(0, .func (.yield l) #[] #[]), (1, .pointer (some ⟨b1, 0, none⟩)), (2, .pointer (some ⟨b2, 0, none⟩))]) Tryz.func230 rfl Tryz.ntmps230 rfl (Ac rfl (Ac rfl (Ac rfl (An _)))) hS0 ?_
 refine Cs (Ka I (Nt (Cb (Lo (σ := Nat × σ × γ) [(0, _), (1, _), (2, _)] (fun gq => [(4, .int .i64 (gq.1 : Int))]) (fun gq => gq.1 ≤ K ∧ pg gq.2.1 gq.2.2 ∧ itB sd at_ a after stop (K - gq.1) gq.1 gq.2.1 = itB sd at_ a after stop K 0 s0) (fun gq => K - gq.1) (fun gq => CO gq.2.1 gq.2.2) (fun gq => Fact.lp l (rcd r none) :: fs) (0, s0, g0) (S3 I I I) (S1 I) (by (try dsimp only); exact ⟨Am _, hg0, rfl⟩) (fun _ h => h) ?_))))
 rintro ⟨b, s, g⟩ hinv1; (try dsimp only at hinv1 ⊢)
 obtain ⟨hp, hgs, hi⟩ := hinv1
 have hlt := zP hp hi hstop
 have hd3 := dm 18 b (by omega)
 refine Cq (Cb (Cq (Cf [0, 1, 2, 4, 5, 8, 9, 3, 6, 7, 10, 11] [] [0, 0, 1, 0, 0, 1, 0, 0, 0, 1, 0, 0] (by kernel_rfl) (by kernel_rfl) I ?_)))
 (refine Kj I (dw I I u41 I (by kernel_rfl) (by (try simp only [sN, Int.reduceToNat, Nat.reduceAdd, Nat.reduceMul, Nat.reduceSub]); rfl)) ?_)
 refine Kj I (Ld I I .tc u3) ?_
 refine Jv I I I I I (fun ext => Oc I I (Kv fun w hS => pZ (by omega) (by (exact fb hT hS)))) ?_
 refine Kj I (Ld I I .tc u3) ?_
 refine Jv I I I I I (fun ext => Oc I I (Kv fun w hS => pZ (by omega) (by (exact fb hT hS)))) ?_
 refine Kj I (Rm I I) ?_
 refine Jv I I I I I (fun ext => Oc I I (Kv fun w hS => pZ (by omega) (by (exact fb hT hS)))) ?_
 refine Kj I (bI I I I ?_) ?_
 ·((try simp only [Ak, Al, Bo]); omega)
 refine Kj I (bI I I I ?_) ?_
 ·((try simp only [Ak, Al, Bo]); omega)
 refine Kj I (bI I I I ?_) ?_
 ·((try simp only [Ak, Al, Bo]); omega)
 refine Kj I (bI I I I ?_) ?_
 ·((try simp only [Ak, Al, Bo]); omega)
 refine Kj I (Ra I I) ?_
 refine WJ.nil ?_
 refine Nt (Cs (Km I ?_))
 (refine Kq I (dw I I u41 I (by kernel_rfl) (by (try simp only [sN, Int.reduceToNat, Nat.reduceAdd, Nat.reduceMul, Nat.reduceSub]); rfl)) ?_)
 refine Kq I (Ld I I .tc u9) ?_
 refine Km I (Kc I (fun w hS => BF (key := sd) (s := mi at_ a b) (by omega) (by simp only [mi, Ak, Al, Bo]; omega)) (Kh I (eg hY [] (gL sd at_ a b) I I I I (hinv _ _ (kt _ _)) (hgs)) ?_))
 intro gy; refine WL.pu ?_; intro hgy; (refine WL.app0 ?_)
 refine Yt I (Nt (Ci I (fun hc25 => ?_) (fun hc25 => ?_)))
 ·refine Ce (Xf (Xb (Xb (Xf ?_))))
  exact Rn I .nil fun w' hS => ⟨⟨_, rfl⟩, gy, by rw [← hi, oQ hlt (by simpa using hc25)]; exact hgy, by rw [← hi, oQ hlt (by simpa using hc25)]; dsimp only; exact aw _ hS⟩
 ·have hst : stop s (gL sd at_ a b) = none := by simpa using hc25
  rw [hst]
  refine Ck (Xd (Xa (Cg (Km I (Kq I (Rz I I I (by omega)) (Ka I (Nn (Lx ((b + 1, after s (gL sd at_ a b), gy)) (by (try dsimp only); omega) (S3 I I I) (by refine (Sc ?_ (S0 _)) <;> (rfl)) ?_ (fun _ h => h)))))))))
  (try dsimp only)
  exact ⟨by omega, hgy hst, (u7 hlt hst).symm.trans hi⟩
theorem kM (l : List UInt8) : Lib.strCells (S l) = l.map B := by simp [Lib.strCells, S, B]
section
variable {ds : List Deferred} {P : Program} {o : Oper} {n : Nat} {L : ak} {ok : Nat → Prop} {w0 : World} {own : List Ent} {C : Ent → List Ent} {fs : List Fact} {x y : Operand} {t u e : TypeId} {xs : List Value}
theorem ud {w : World} {own : List Ent} {kk : Nat} {ob : Option Nat} {len cap : Nat} {sp : List Value} {l : List UInt8} {ty : TypeId} (hS : St ok w0 own fs w) (hk : own[kk]? = some ⟨ob, xs ++ sp, e⟩)
  (hu : P.underlying t = some (.slice e)) (hv : P.underlying u = some .string) (hi : (P.info? e).map (fun i => (i.zero, i.size, i.bytes)) = some (some (.int .u8 0), 1, 1))
  (hxl : xs.length = len) (hcap : cap = len + sp.length) (hb : len + l.length ≤ 140737488355328) (hzz : ob = none ∨ 0 < cap) :
  ∃ (g : Gr) (w' : World), (Builtin.append_ #[t, u] ty #[.slice (ob.map fun b => ⟨b, 0, none⟩) len cap, .string (S l)]).run P w = .ok (.slice (g.ob.map fun b => ⟨b, 0, none⟩) (len + l.length) g.cap) w' ∧ (g.cap = len + l.length + g.sp.length ∧ (g.ob = none ∨ 0 < g.cap)) ∧ St ok w0 (own.set kk ⟨g.ob, (xs ++ l.map B) ++ g.sp, e⟩) fs w' := by
 obtain ⟨i', hi', hz, hs, hbb⟩ := info_parts hi
 have hsz : (S l).size = l.length := fh l
 have htake : (xs ++ sp).take len = xs := by rw [← hxl]; simp
 have zlen : ∀ q, (Builtin.zeroCells (Value.int .u8 0).cells q).toList = List.replicate q (.int .u8 0) := fun q => iA _ q
 have hsame : own.set kk ⟨ob, xs ++ sp, e⟩ = own := by
  apply Eb; intro q
  by_cases hq : kk = q
  ·subst hq; rw [C6 (Ap.1 hk).1, hk]
  ·rw [Dk hq]
 cases ob with
 | none =>
  have hcs : xs ++ sp = [] := hS.own_ _ (A7 hk)
  obtain ⟨rfl, rfl⟩ : xs = [] ∧ sp = [] := by simpa using hcs
  obtain rfl : len = 0 := by simpa using hxl.symm
  obtain rfl : cap = 0 := by simpa using hcap
  by_cases h0 : l.length = 0
  ·have hl : l = [] := B5 h0; subst hl; refine ⟨⟨none, 0, []⟩, w, ?_, ⟨rfl, .inl rfl⟩, by show St ok w0 (own.set kk ⟨none, [] ++ [], e⟩) fs w; rw [hsame]; exact hS⟩; simp [Builtin.append_, run_underlying hu, run_underlying hv, sizeOf, typeInfo, hi', hs, Builtin.lenOf, S, Builtin.firstCells, ByteArray.size]
  ·have hrun := run_append_nil_string (P := P) w t u ty e i' (.int .u8 0) hu hv hi' hz (S l) (by omega) (by omega) (by rw [hbb, hsz]; omega); rw [hsz] at hrun; refine ⟨⟨some w.heap.size, grownCap w l.length 0 e, List.replicate (grownCap w l.length 0 e - l.length) (.int .u8 0)⟩, _, by simpa using hrun, ?_, ?_⟩
   ·have := grownCap_ge w l.length 0 e; exact ⟨by simp; omega, .inr (by show 0 < grownCap w l.length 0 e; omega)⟩
   ·have := (hS.draw.alloc (l.map B ++ List.replicate (grownCap w l.length 0 e - l.length) (.int .u8 0)) e).replace kk
    have e1 : ((S l).data.map (fun b => Value.int .u8 b.toNat) ++ Builtin.zeroCells (Value.int .u8 0).cells (grownCap w l.length 0 e - l.length)) = (l.map B ++ List.replicate (grownCap w l.length 0 e - l.length) (Value.int .u8 0)).toArray := by
     apply Array.ext'; simp [zlen, S, B]
    simp only [List.nil_append]; rw [e1]; exact this
 | some b' =>
  have hbk := hS.block hk
  by_cases hroom : len + l.length ≤ cap
  ·have hrun := Lib.run_append_room_string (P := P) w t u ty e i' hu hv hi' hs b' len cap (xs ++ sp).toArray hbk (S l) (by omega) (by simp [hsz]; omega); rw [hsz, kM] at hrun; refine ⟨⟨some b', cap, (xs ++ sp).drop (len + l.length)⟩, _, hrun, ?_, ?_⟩
   ·exact ⟨by simp; omega, .inr (hzz.resolve_left (by simp))⟩
   ·have := hS.setRow hk (xs ++ l.map B ++ (xs ++ sp).drop (len + l.length)); simp only [htake]; exact this
  ·have hrun := Lib.run_append_grow_string (P := P) w t u ty e i' (.int .u8 0) hu hv hi' hz ⟨b', 0, none⟩ len cap xs (by rw [hs]; omega) (fun q v hq => by
     rw [Addr.add_lit, Az, dS hbk]
     rw [Bp (Ap.1 hq).1]; exact hq) (S l) (by omega) (by omega) (by rw [hbb, hsz]; exact growslice_fits (by omega) (by omega))
   rw [hsz, kM] at hrun; refine ⟨⟨some w.heap.size, grownCap w (len + l.length) cap e, List.replicate (grownCap w (len + l.length) cap e - (len + l.length)) (.int .u8 0)⟩, _, hrun, ?_, ?_⟩
   ·have := grownCap_ge w (len + l.length) cap e; exact ⟨by simp; omega, .inr (by show 0 < grownCap w (len + l.length) cap e; omega)⟩
   ·have := (hS.draw.alloc (xs ++ l.map B ++ List.replicate (grownCap w (len + l.length) cap e - (len + l.length)) (.int .u8 0)) e).replace kk
    have e1 : (xs.toArray ++ (l.map B).toArray ++ Builtin.zeroCells (Value.int .u8 0).cells (grownCap w (len + l.length) cap e - (len + l.length))) = (xs ++ l.map B ++ List.replicate (grownCap w (len + l.length) cap e - (len + l.length)) (Value.int .u8 0)).toArray := by
     apply Array.ext'; simp [zlen]
    rw [e1]; exact this
theorem DP {len cap : Nat} {ob : Option Nat} {sp : List Value} {l : List UInt8} (hop : o.op = .call { callee := .builtin .append, args := #[x, y], argTypes := #[t, u] }) (hu : P.underlying t = some (.slice e)) (hv : P.underlying u = some .string) (hi : (P.info? e).map (fun i => (i.zero, i.size, i.bytes)) = some (some (.int .u8 0), 1, 1))
  (hk : Ctx own ⟨ob, xs ++ sp, e⟩ C) (hx : ag L x = some (.slice (ob.map fun b => ⟨b, 0, none⟩) len cap)) (hy : ag L y = some (.string (S l)))
  (hb : xs.length = len ∧ cap = len + sp.length ∧ len + l.length ≤ 140737488355328 ∧ (ob = none ∨ 0 < cap)) :
  Og ds P o n L (St ok w0 own fs) (fun g : Gr => .slice (g.ob.map fun b => ⟨b, 0, none⟩) (len + l.length) g.cap) (fun g w => (g.cap = len + l.length + g.sp.length ∧ (g.ob = none ∨ 0 < g.cap)) ∧ St ok w0 (C ⟨g.ob, (xs ++ l.map B) ++ g.sp, e⟩) fs w) :=
 cS fun a hF w hS => by
  obtain ⟨kk, hkk, hC⟩ := hk.get
  obtain ⟨g, w', hrun, hp, hS'⟩ := ud (P := P) (ty := o.type) hS hkk hu hv hi hb.1 hb.2.1 hb.2.2.1 hb.2.2.2
  refine ⟨g, w', .inl ?_, hp, by rw [hC]; exact hS'⟩
  simp [execOp, hop, resolve, invoke, builtin, hF.eval hx, hF.eval hy, hrun]
end
section
variable {ds : List Deferred} {ρ : Option Nat} {P : Program} {Q : Exit → Act → World → Prop} {n : Nat} {L : ak} {Z : World → Prop} {p : Prop} {ops rest : List Oper}
theorem WL.know (h : ∀ w, Z w → p) (k : p → WL ds P ops Q n rest L Z) : WL ds P ops Q n rest L Z := fun a w hF hS => k (h w hS) a w hF hS
end
def f4 (s x : Bs) : Bs := s ++ x
def fl (Z : Nat) (s x : Bs) : Option Code := if Z ≤ s.length + x.length then some (.exit 0) else none
theorem q9 (sd : Bs) (at_ a Z : Nat) (hZ : 1 ≤ Z) : ∀ (d b : Nat), b + d = (Z + 31) / 32 → 1 ≤ d → itB sd at_ a f4 (fl Z) d b (jN sd at_ a b) = (jN sd at_ a ((Z + 31) / 32), some (.exit 0))
 | 0, b, h, h1 => by omega
 | d + 1, b, h, h1 => by
  have hl := eI sd at_ a b
  have hm : (gL sd at_ a b).length = 32 := kt _ _
  rw [itB]
  by_cases hd : d = 0
  ·subst hd; have hs : fl Z (jN sd at_ a b) (gL sd at_ a b) = some (.exit 0) := by rw [fl, Ab (by omega)]
   rw [hs]; simp only [Option.isSome_some, if_true]; rw [← h]; rfl
  ·have hs : fl Z (jN sd at_ a b) (gL sd at_ a b) = none := by rw [fl, Aa (by omega)]
   rw [hs, Aa (by simp)]; exact q9 sd at_ a Z hZ d (b + 1) (by omega) (by omega)
abbrev ACO (x : Value) (sd : Bs) (at_ a Z : Nat) (g : Nat × Nat) (b8 b7 b3 : Nat) (s : Bs) (q : Option Nat × List Value) : List Ent :=
 [⟨q.1, s.map B ++ q.2, 5⟩, ⟨some g.2, [.int .i64 (a : Int)], 3⟩, ⟨some g.1, [x, .string (S sd), .int .i64 (at_ : Int)], 41⟩, ⟨some b8, [.slice (q.1.map fun b => ⟨b, 0, none⟩) s.length (s.length + q.2.length)], 140⟩, ⟨some b7, [.int .i64 (Z : Int)], 3⟩, ⟨some b3, [x, .string (S sd), .int .i64 (at_ : Int)], 41⟩]
theorem BD (c : UInt8) (d : Nat) (hd : d ≤ 7) : bits .and .u8 (c.toNat : Int) (Int.fdiv 255 (2 ^ (min ((d : Nat) : Int).toNat IntKind.u8.bits))) = ((UInt8.ofNat (c.toNat % 2 ^ (8 - d))).toNat : Int) := by
 have h1 := c.toNat_lt
 have e : Int.fdiv 255 (2 ^ (min ((d : Nat) : Int).toNat IntKind.u8.bits)) = ((2 ^ (8 - d) - 1 : Nat) : Int) := by
  have key : ∀ q, q ≤ 7 → Int.fdiv 255 (2 ^ (min ((q : Nat) : Int).toNat IntKind.u8.bits)) = ((2 ^ (8 - q) - 1 : Nat) : Int) := by decide
  exact key d hd
 have h2 : 2 ^ (8 - d) ≤ 2 ^ 8 := A2 (by decide) (by omega)
 have h3 : c.toNat % 2 ^ (8 - d) < 256 := Bb (Nat.mod_le _ _) h1
 rw [e, u8_and_nat _ _ (by omega) (by omega), Nat.and_two_pow_sub_one_eq_mod, UInt8.toNat_ofNat', Ai (a := c.toNat % 2 ^ (8 - d)) (b := 2 ^ 8) (by omega)]
theorem tn {vx : Value} {sd : Bs} {at_ aa nb : Nat} {w : World} (hsd : sd.length ≤ 400000) (hat : at_ ≤ 4294967296) (ha : aa ≤ 1000) (hnb : 1 ≤ nb) (hnb2 : nb ≤ 100000) (hT : Tab w) :
  Cw 148 #[.agg #[vx, .string (S sd), .int .i64 (at_ : Int)], .int .i64 (aa : Int), .int .i64 (nb : Int)] w (.string (S (kf sd at_ aa nb))) := by
 obtain ⟨Z, hZ⟩ : ∃ Z : Nat, Z = od nb := ⟨_, rfl⟩
 have hZ1 : Z = (nb + 7) / 8 := hZ
 have hZ0 : 1 ≤ Z := by omega
 have hZl : Z ≤ 20000 := by omega
 have hit := q9 sd at_ aa Z hZ0 ((Z + 31) / 32) 0 (by omega) (by omega)
 change itB sd at_ aa f4 (fl Z) ((Z + 31) / 32) 0 [] = _ at hit
 refine lC (S := St (fun _ => True) w [] ([])) (L := [(0, .agg #[vx, .string (S sd), .int .i64 (at_ : Int)]), (1, .int .i64 (aa : Int)), (2, .int .i64 (nb : Int))]) Tryz.func148 rfl Tryz.ntmps148 rfl (Ac rfl (Ac rfl (Ac rfl (An _)))) (St.start (fun _ _ => trivial) Fn) ?_
 refine Cs (Kh I (Oy I I) ?_)
 intro b3
 refine Ka I (Nt (Cs (Km I (Kq I (Rz I I I (by omega)) (Kq I (bA I I I (by omega)) (Ns 12 I (v' := .int .i64 ((Z : Nat) : Int)) (congrArg (Value.int .i64) (by omega)) ?_))))))
 refine Kh I (Oa I (v := (.int .i64 0)) (cs := [.int .i64 0]) (by kernel_rfl) I) ?_
 intro b7
 refine Ng I I (st I I I .tc (by kernel_rfl) I ?_ (by (simp only [Ax, Ay]; rfl))) ?_
 ·decide
 intro _
 refine Nt (Cs (Kh I (Oa I (v := (.slice none 0 0)) (cs := [.slice none 0 0]) (by kernel_rfl) I) ?_))
 intro b8
 refine Nt (Cq (Cs (Kq I (lda I I .tc u41 I ?_) ?_)))
 ·kernel_rfl
 refine Km I (Kh I (Oc I I (fun w hS => vV (t := ⟨[], sd, (at_ : Int)⟩) hS)) ?_)
 intro g15
 refine Nt (Cb (WC.range (CO := ACO vx sd at_ aa Z g15 b8 b7 b3) (pg := fun s q => s.length ≤ 30000 ∧ (q.1 = none ∨ 0 < s.length + q.2.length)) (inv := fun s y => y.length = 32) (after := f4) (stop := fl Z) (enc := fun s : Bs => #[Value.string (S s)]) ([]) ((none, [])) ((itB sd at_ aa f4 (fl Z) ((Z + 31) / 32) 0 []).1) ((itB sd at_ aa f4 (fl Z) ((Z + 31) / 32) 0 []).2) (⟨Am _, .inl rfl⟩) I (by kernel_rfl) (fun _ => rfl) (by exact fun w h => h.nil _) ?_ (fun l r D w hl hY hS => CL (K := (Z + 31) / 32) (sd := sd) (at_ := at_) (a := aa) (x := vx) hY hS ⟨Am _, .inl rfl⟩ hsd hat ha (by omega) (fun s y h => h) (by rw [hit]; rfl) hT) ?_ ?_))
 ·intro l r D f a s g x ext wr hl hi hpg hF hS
  rw [ri]
  refine fp (Fr.tm (hF.put (d := 16) rfl _)) hS ?_
  refine WR.region (by kernel_rfl) ?_
  refine Ka I (Nn (WX.begin hl ?_))
  refine Cb (WR.sr (by kernel_rfl) ?_)
  refine Kq I (Ld I I .tc aC) ?_
  refine Km I (Kh I (DP I aC u9 (by kernel_rfl) .tc I I ?_) ?_)
  ·exact ⟨by simp, rfl, by have hi' : x.length = 32 := hi; omega, hpg.2⟩
  rintro ⟨o19, c19, s19⟩
  refine WL.pu ?_
  intro hg19; (try dsimp only at hg19 ⊢)
  refine Ng I I (st I I I .tc (by kernel_rfl) I ?_ (by (simp only [Ax, Ay]; rfl))) ?_
  ·(simp; done)
  intro _
  refine Nt (WR.sr (by kernel_rfl) ?_)
  refine Kq I (Ld I I .tc aC) ?_
  refine Yo I aC (Kq I (Ld I I .tc u3) ?_)
  refine Yh I (Nt (Ci I (fun hc23 => ?_) (fun hc23 => ?_)))
  ·refine Cx ?_; refine WX.block_other I ?_
   exact WX.rexit hl fun w' hS => by
    have hi' : x.length = 32 := hi; have h2 : fl Z s x = some (.exit 0) := by rw [fl, Ab (by omega)]
    rw [h2]; refine ⟨rfl, (o19, s19), fun h => (by cases h), ?_⟩; simp only [ACO, f4, Ch, Ak]; rw [hg19.1] at hS; exact hS
  ·refine Ck (Xd ?_)
   exact WX.rnext hl fun w' hS => by
    have hi' : x.length = 32 := hi; have h2 : fl Z s x = none := by rw [fl, Aa (by omega)]
    rw [h2]; refine ⟨rfl, (o19, s19), fun _ => ⟨by simp only [f4, Ak]; omega, by simp only [f4, Ak]; rw [← hg19.1]; exact hg19.2⟩, ?_⟩; simp only [ACO, f4, Ch, Ak]; rw [hg19.1] at hS; exact hS
 ·intro D1 g1 hD1 hg1 hcf
  exfalso; rw [hit] at hcf; cases hcf -- done
 ·intro D1 g1 c hD1 hcf
  obtain rfl : c = .exit 0 := by (rw [hit] at hcf; cases hcf; rfl)
  refine Cx (Xe ?_)
  rw [hit]; dsimp only [ACO]
  have hbl := eI sd at_ aa ((Z + 31) / 32)
  have hby : jL sd at_ aa nb = (jN sd at_ aa ((Z + 31) / 32)).take Z := by rw [jL, ← hZ]
  generalize jN sd at_ aa ((Z + 31) / 32) = X at *
  obtain ⟨c, X', rfl⟩ : ∃ c X', X = c :: X' := by cases X with
   | nil => simp at hbl; omega
   | cons c X' => exact ⟨c, X', rfl⟩
  obtain ⟨q1, q2⟩ := g1
  dsimp only
  have hcl : X'.length + 1 = 32 * ((Z + 31) / 32) := hbl
  refine Xa (Cs (WL.know (p := ∃ bb, q1 = some bb) (fun w h => by obtain ⟨b, hb, _⟩ := h.ocx (ob := q1) (cs := List.map B (c :: X') ++ q2) .tc (by simp); exact ⟨b, hb⟩) ?_))
  rintro ⟨bb, rfl⟩
  dsimp only [Option.map_some]
  refine Kq I (Ld I I .tc aC) ?_
  refine Kq I (Ld I I .tc u3) ?_
  refine Kq I (uq I I I aC (by kernel_rfl : _ = some 1) ?_ (by (try simp only [sN, Int.reduceToNat, Nat.reduceAdd, Nat.reduceMul, Nat.reduceSub]); rfl)) ?_
  ·omega
  refine Ng I I (st I I I .tc (by kernel_rfl) I ?_ (by (simp only [Ax, Ay]; rfl))) ?_
  ·(simp; done)
  intro _
  refine Nt (Cq (Cs (Kq I (Ld I I .tc u3) ?_)))
  refine Yg I (Nt (Cd I (fun hc28 => ?_) (fun hc28 => by exfalso; (try simp only [sB] at hc28); omega)))
  (try simp only [sB] at hc28)
  refine Cf [0, 1, 2, 3, 4, 5, 6, 7, 8, 9] [10] [0, 0, 0, 0, 0, 0, 0, 0, 0, 0, 2] (by kernel_rfl) (by kernel_rfl) I ?_
  refine Kj I (Ld I I .tc aC) ?_
  refine Kj I (Ja I I I aC (by kernel_rfl : _ = some 1) (by omega)) ?_
  refine Kj I (Ld I I .tc u5) ?_
  refine Kj I (Ld I I .tc u3) ?_
  refine Kj I (cw I I I (by omega)) (Kj I (Rm I I) (Kj I (aM I I I (by omega)) ?_))
  refine Kj I (gm I I I ?_) ?_
  ·omega
  refine Kj I (np I I I) ?_
  refine WJ.set 37 I (v' := B (UInt8.ofNat (c.toNat % 2 ^ (8 - (8 * Z - nb))))) (by exact congrArg (Value.int .u8) (BD c (8 * Z - nb) (by omega))) ?_
  refine Kj I (Ja I I I aC (by kernel_rfl : _ = some 1) (by omega)) ?_
  refine WJ.nil ?_
  refine Ng I I (st I I I .tc (by kernel_rfl) I ?_ (by rfl)) ?_
  ·(simp; done)
  intro _
  refine Nn ?_
  obtain ⟨y, hy⟩ : ∃ y : Bs, y = (UInt8.ofNat (c.toNat % 2 ^ (8 - (8 * Z - nb))) :: X').take Z := ⟨_, rfl⟩
  have hyl : y.length = Z := by rw [hy, Br, Al]; omega
  have hya : ae (val y) = kf sd at_ aa nb := by
   have := rL (sd := sd) (at_ := at_) (a := aa) (nb := nb) (X := c :: X') (x := c.toNat % 2 ^ (8 - (8 * Z - nb))) hZ hZ0 hby (by simp only [Al]; omega) rfl (by omega) (by omega); rw [← this, hy]; obtain ⟨q, rfl⟩ : ∃ q, Z = q + 1 := ⟨Z - 1, by omega⟩; rfl
  refine Xa (Cq (Cb ?_))
  refine Lo (σ := Bs × (Option Addr) × Nat) [(8, _)] (fun gq => []) (fun gq => ct gq.1 = ct y ∧ gq.1.length ≤ gq.2.2 ∧ gq.1.length ≤ Z) (fun gq => gq.1.length) (fun gq => [⟨some b8, [.slice gq.2.1 gq.1.length gq.2.2], 140⟩]) (fun gq => [Fact.sl gq.2.1 (gq.1.map B), Fact.dfr D1]) (y, some ⟨bb, 0, none⟩, (c :: X').length + q2.length) (S1 I) (S0 _) (by (try dsimp only); exact ⟨rfl, by rw [hyl]; simp only [Al]; omega, by omega⟩) (by exact fun w h => by dsimp only; rw [hyl]; exact aw _ (h.freeze (off := 0) (xs := y.map B) (fun i hi => by
    have hi' : i < Z := by rw [Ag, hyl] at hi; exact hi
    show ((B (UInt8.ofNat (c.toNat % 2 ^ (8 - (8 * Z - nb)))) :: (X'.map B ++ q2)) : List Value)[0 + i]? = _; rw [hy, List.map_take, Cv, Ab hi', Az]; show (((UInt8.ofNat (c.toNat % 2 ^ (8 - (8 * Z - nb))) :: X').map B ++ q2) : List Value)[i]? = _
    rw [Bp (by simp; omega)]))) ?_
  rintro ⟨t, a', cp⟩ hinv1; (try dsimp only at hinv1 ⊢)
  obtain ⟨ht, htc, htb⟩ := hinv1
  refine Cq (Cs (Kq I (Ld I I .tc aC) ?_))
  refine Yo I aC (Yg I (Km I (Nc 42 I (fun hg42 => ?_) (fun hg42 => ?_))))
  ·refine Kq I (Ld I I .tc aC) ?_; refine Kq I (Ib I I I aC (by omega) (by (rw [Ag]; omega))) ?_; refine Kq I (ldm I I u5 I (by omega)) ?_; refine Yi I (Yp I (Nt (Ci I (fun hc47 => ?_) (fun hc47 => ?_))))
   ·have hz : (t.getD 0 default).toNat = 0 := by (simp at hc47; exact hc47)
    refine Ck (Xa (Cb (Cg (Kq I (Ld I I .tc aC) ?_)))); refine Kq I (kX I I I aC (by kernel_rfl : _ = some 1) (by omega) (by (try simp only [sN, Int.reduceToNat, Nat.reduceAdd, Nat.reduceMul, Nat.reduceSub]); rfl) (by (try simp only [sN, Int.reduceToNat, Nat.reduceAdd, Nat.reduceMul, Nat.reduceSub]); rfl) (by (try simp only [sN, Int.reduceToNat, Nat.reduceAdd, Nat.reduceMul, Nat.reduceSub]); rfl)) ?_; refine Ns 49 I (v' := .slice (cut a' 1 cp 1) (t.drop 1).length (cp - 1)) (by rw [B8]) ?_; refine Ng I I (st I I I .tc (by kernel_rfl) I ?_ (by (simp only [Ax, Ay]; rfl))) ?_
    ·(simp; done)
    intro _; refine Nn (Xd (Lx ((t.drop 1, cut a' 1 cp 1, cp - 1)) (by simp only [B8]; omega) (S1 I) (S0 _) ?_ (by exact fun w h => (h.add (f := Fact.sl (cut a' 1 cp 1) ((t.drop 1).map B)) (ki 1 htc (h.fact (Fact.sl a' (t.map B)) (by simp)))).sub (Ar _) (fun f hf => by simp only [A9, List.not_mem_nil, or_false] at hf ⊢; rcases hf with h | h <;> simp [h])))); (try dsimp only); exact ⟨by rw [← ik (by omega) hz]; exact ht, by simp only [B8]; omega, by simp only [B8]; omega⟩
   ·refine Cx (Xc (Xc (Xe (Xa (Cs (Kq I (Ld I I .tc aC) ?_)))))); refine Kq I (tk I I .tc aC u5 u22 ?_) ?_
    ·rfl
    refine Ka I (Nt (Ce ?_)); exact WX.retM1 hD1 I (.tmp I .nil) fun w' hS => ⟨by rw [← hya, show ae (val y) = t from by rw [← cq, ← ht, cr (by (exact .inr (fun h0 => hc47 (by show ((t.getD 0 default).toNat : Int) = 0; omega))))]]; rfl, hS.below⟩
  ·refine T4 I (Yq I (Nt (Cd I (fun h => by cases h) (fun _ => ?_)))); refine Cx (Xc (Xc (Xe (Xa (Cs (Kq I (Ld I I .tc aC) ?_)))))); refine Kq I (tk I I .tc aC u5 u22 ?_) ?_
   ·rfl
   refine Ka I (Nt (Ce ?_)); exact WX.retM1 hD1 I (.tmp I .nil) fun w' hS => ⟨by rw [← hya, show ae (val y) = t from by rw [← cq, ← ht, cr (by (exact .inl (by omega)))]]; rfl, hS.below⟩
def bH : Tp := ⟨[], [], 0⟩
def ej (t : Tp) (n : Bs) : Nat → Nat → Option Bs
 | 0, _ => none
 | f + 1, a => if fg (kf t.seed t.at_.toNat a (aJ n)) n < 0 then some (kf t.seed t.at_.toNat a (aJ n)) else ej t n f (a + 1)
def bg (t : Tp) (n : Bs) : Bs × Tp × Int :=
 if t.at_ < t.vals.length then (if 0 ≤ fg (t.vals.getD t.at_.toNat default) n then ([], bH, 2) else (t.vals.getD t.at_.toNat default, ⟨t.vals, t.seed, t.at_ + 1⟩, 0))
 else if t.seed = [] ∨ t.at_ = 2147483647 then ([], bH, 14)
 else match ej t n 256 0 with
  | some x => (x, ⟨t.vals, t.seed, t.at_ + 1⟩, 0)
  | none => ([], bH, 14)
theorem gK {r : Bs × Tp × Int} {n : Int} {ok : Nat → Prop} {w0 w : World} {own : List Ent} {fs : List Fact} {T : TypeId} (hr : r = ([], bH, n)) (hS : St ok w0 own fs w) :
  ∃ g : Rs, Ending.returned (tup [.string (S []), .agg #[.slice none 0 0, .string (S []), .int .i64 0], .int .i64 n]) = Ending.returned (.tuple #[.string (S r.1), r.2.1.v (g.val r.2.1.vals.length), .int .i64 r.2.2]) ∧ g.cap = r.2.1.vals.length + g.sp.length ∧ St ok w0 [g.ent (an r.2.1.vals) T] [] w := by
 subst hr
 exact ⟨⟨none, 0, []⟩, rfl, rfl, (hS.nil T).sub (List.singleton_sublist.2 (by simp [Rs.ent, bH])) (fun _ h => by cases h)⟩
theorem rn {r : Bs × Tp × Int} {t : Tp} {x : Bs} {q : Rs} {ok : Nat → Prop} {w0 w : World} {own : List Ent} {fs : List Fact} {T : TypeId} (hr : r = (x, ⟨t.vals, t.seed, t.at_ + 1⟩, 0)) (hq : q.cap = t.vals.length + q.sp.length) (hS : St ok w0 own fs w) (hm : q.ent (an t.vals) T ∈ own) :
  ∃ g : Rs, Ending.returned (tup [.string (S x), .agg #[q.val t.vals.length, .string (S t.seed), .int .i64 (t.at_ + 1)], .int .i64 0]) = Ending.returned (.tuple #[.string (S r.1), r.2.1.v (g.val r.2.1.vals.length), .int .i64 r.2.2]) ∧ g.cap = r.2.1.vals.length + g.sp.length ∧ St ok w0 [g.ent (an r.2.1.vals) T] [] w := by
 subst hr
 exact ⟨q, rfl, hq, hS.sub (List.singleton_sublist.2 hm) (fun _ h => by cases h)⟩
theorem mv {t : Tp} {n : Bs} {a : Nat} (h : a < 256) (hc : fg (kf t.seed t.at_.toNat a (aJ n)) n < 0) : ej t n (256 - a) a = some (kf t.seed t.at_.toNat a (aJ n)) := by
 rw [show 256 - a = (255 - a) + 1 by omega, ej, Ab hc]
theorem lu {t : Tp} {n : Bs} {a : Nat} (h : a < 256) (hc : ¬ fg (kf t.seed t.at_.toNat a (aJ n)) n < 0) : ej t n (256 - a) a = ej t n (256 - (a + 1)) (a + 1) := by
 rw [show 256 - a = (256 - (a + 1)) + 1 by omega, ej, Aa hc]
theorem xm {t : Tp} {n : Bs} {a : Option Addr} {cap : Nat} {w : World} {ok : Nat → Prop} (hF1 : (Fact.sl a (an t.vals)).holds ok w) (hl : t.vals.length ≤ 100000) (hg : dA t) (hn : okN n) (hn0 : n ≠ []) (hsd : t.seed.length ≤ 400000) :
  Calls Tryz.prog 102 #[t.v (.slice a t.vals.length cap), .string (S n)] w fun e w' => ∃ g : Rs, e = .returned (.tuple #[.string (S (bg t n).1), (bg t n).2.1.v (g.val (bg t n).2.1.vals.length), .int .i64 (bg t n).2.2]) ∧ g.cap = (bg t n).2.1.vals.length + g.sp.length ∧ St (fun _ => True) w [g.ent (an (bg t n).2.1.vals) 22] [] w' := by
 have hg1 := hg.1; have hg2 := hg.2.1
 have hbp := mI hn hn0
 have hbl := fE hn.1
 obtain ⟨p, hp⟩ : ∃ p : Nat, t.at_ = (p : Int) := ⟨t.at_.toNat, by omega⟩
 refine En [Fact.sl a (an t.vals)] [(0, t.v (.slice a t.vals.length cap)), (1, .string (S n))] Tryz.func102 I Tryz.ntmps102 I (Ac I (Ac I (An _))) (Fc (ah hF1) Fn) (Cs (Kh I (Oy I I) ?_))
 intro b2
 refine Ka I (Kh I (Oz [.slice none 0 0, .string (S []), .int .i64 0] I) ?_)
 intro b5
 refine Ka I (Nt (Cs (Kf 1 I u41 I I I .tc u9 ?_)))
 refine Kf 2 I u41 I I I .tc u3 ?_
 refine Kq I (aI I I I (by omega)) (Kq I (Kb [[.slice none 0 0], [.string (S [])], [.int .i64 0]] I I) ?_)
 refine Kh I (Oz [.slice none 0 0, .string (S []), .int .i64 0] I) ?_
 intro b7
 refine Nu I I (Sa I I I .tc) (Nt (Cs (Kf 0 I u41 I I I .tc u31 ?_)))
 refine Kf 0 I u41 I I I .tc u31 ?_
 (refine WL.st (fun w h => h.nil 22) ?_; refine Kh I (qg (ob := none) (xs := []) (sp := []) I u31 (by kernel_rfl : _ = some (some (.string (S [])), 1, 16)) I .tc I I (fun w hS => by (exact hS.sl)) (by simp) ?_ ?_) ?_; (focus ((refine ⟨?_, ?_, ?_, ?_⟩ <;> (try simp) <;> omega))); (focus ((simp [Value.oneCell']; done))))
 rintro ⟨o20, c20, s20⟩
 refine WL.pu ?_
 intro hg20; (try dsimp only at hg20 ⊢)
 refine Ns 20 I (v' := .slice (o20.map fun b => ⟨b, 0, none⟩) t.vals.length c20) (by rw [Az]) ?_
 simp only [List.nil_append]
 have hq : (⟨o20, c20, s20⟩ : Rs).cap = t.vals.length + (⟨o20, c20, s20⟩ : Rs).sp.length := by show c20 = t.vals.length + s20.length; omega
 refine Kq I (Fa (q := 0) I I u41 I I) (Ng I I (st I I I .tc (by kernel_rfl) I ?_ (by (simp only [Ax, Ay]; rfl))) ?_)
 ·(simp; done)
 intro _
 refine Nt (Cq (Cs (Kf 2 I u41 I I I .tc u3 ?_)))
 refine Kf 0 I u41 I I I .tc u31 ?_
 refine Yo I u31 (Yl I (Nt (Ci I (fun hc27 => ?_) (fun hc27 => ?_))))
 ·have h27 : t.at_ < t.vals.length := hc27
  refine Cq (Cs (Kf 0 I u41 I I I .tc u31 ?_))
  refine Kf 2 I u41 I I I .tc u3 ?_
  refine Kq I (Ib I I I u31 (by omega) (by (rw [Ag]; omega))) ?_
  refine Kq I (ldm I I u22 I (by omega)) ?_
  refine Km I (Kc I (fun w hS => jq (a := t.vals.getD t.at_.toNat default) (b := n)) (Yh I (Nt (Ci I (fun hc36 => ?_) (fun hc36 => ?_)))))
  ·refine Cs (Kq I (Kb [[.slice none 0 0], [.string (S [])], [.int .i64 0]] I I) (Ka I (Nu I I (Sa I I I .tc) (Ka I (Nt (Ce (Xb (Xb ?_)))))))); exact Rn I (.tmp I (.agg I .tc u41 I (by kernel_rfl) (.tmp I .nil))) fun w' hS => gK (by rw [bg, Ab h27, Ab hc36]) hS
  ·refine Ck (Xa (Cq (Cf [0, 1, 2, 3, 4, 5, 6, 7] [8, 9] [0, 0, 0, 0, 0, 0, 0, 0, 2, 2] (by kernel_rfl) (by kernel_rfl) I ?_))); refine Kj I (Fa (q := 0) I I u41 I I) (Kj I (Ld I I .tc u31) ?_); refine Kj I (Fa (q := 2) I I u41 I I) (Kj I (Ld I I .tc u3) ?_); refine Kj I (Ib I I I u31 (by omega) (by (rw [Ag]; omega))) ?_; refine Kj I (ldm I I u22 I (by omega)) ?_; refine Kj I (lda I I .tc u41 I ?_) ?_
   ·kernel_rfl
   refine Kj I (Ra I I) ?_; refine WJ.nil ?_; refine Nu I I (Sa I I I .tc) (Ka I (Nt (Ce (Xb ?_)))); exact Rn I (.tmp I (.agg I .tc u41 I (by kernel_rfl) (.tmp I .nil))) fun w' hS => rn (q := ⟨o20, c20, s20⟩) (by rw [bg, Ab h27, Aa (by omega)]) hq hS (by simp [Rs.ent])
 ·have h27 : ¬ t.at_ < t.vals.length := by omega
  refine Ck (Xa (Cq (Cs (Kf 1 I u41 I I I .tc u9 ?_))))
  refine Ys I (Km I (Nc 48 I (fun hg48 => ?_) (fun hg48 => ?_)))
  ·refine T2 I (Kt I (Yp I (Nt (Cd I (fun _ => ?_) (fun h => by cases h))))); refine Cs (Kq I (Kb [[.slice none 0 0], [.string (S [])], [.int .i64 0]] I I) (Ka I (Nu I I (Sa I I I .tc) (Ka I (Nt (Ce (Xb ?_))))))); exact Rn I (.tmp I (.agg I .tc u41 I (by kernel_rfl) (.tmp I .nil))) fun w' hS => gK (by rw [bg, Aa h27, Ab (by simp_all)]) hS
  ·refine Kf 2 I u41 I I I .tc u3 ?_; refine Yi I (Yq I (Nt (Ci I (fun hc52 => ?_) (fun hc52 => ?_))))
   ·refine Cs (Kq I (Kb [[.slice none 0 0], [.string (S [])], [.int .i64 0]] I I) (Ka I (Nu I I (Sa I I I .tc) (Ka I (Nt (Ce (Xb ?_))))))); exact Rn I (.tmp I (.agg I .tc u41 I (by kernel_rfl) (.tmp I .nil))) fun w' hS => gK (by rw [bg, Aa h27, Ab (by simp_all)]) hS
   ·have h52 : ¬ (t.seed = [] ∨ t.at_ = 2147483647) := by simp_all
    refine Ck (Xa (Cq (Cs (Ka I (Nt (Cb (Lp (σ := Nat) [(1, _), (2, _), (5, _), (7, _)] (fun gq => [(8, .int .i64 (gq : Int))]) (fun gq => gq ≤ 256 ∧ ej t n (256 - gq) gq = ej t n 256 0) (fun gq => 256 - gq) (0) (S4 I I I I) (S1 I) (by (try dsimp only); exact ⟨by omega, rfl⟩) ?_))))))); rintro k hinv1; (try dsimp only at hinv1 ⊢); obtain ⟨hk, hfi⟩ := hinv1; refine Cq (Cs (Km I (Yl I (Nt (Ci I (fun hc55 => ?_) (fun hc55 => ?_))))))
    ·refine Ck (Xa (Cq (Cb (Cq (Cf [5, 6, 0, 1, 2, 3, 4, 7, 8] [] [0, 0, 0, 0, 0, 0, 1, 1, 0] (by kernel_rfl) (by kernel_rfl) I ?_))))); refine Kj I (Rm I I) ?_; refine Jv I I I I I (fun ext => Oc I I (Kv fun w hS => qL (a := n))) ?_; refine WJ.set 64 I (v' := .int .i64 ((aJ n : Nat) : Int)) (congrArg (Value.int .i64) (by rw [Ab hn])) ?_; refine Kj I (Fa (q := 1) I I u41 I I) (Kj I (Ld I I .tc u9) ?_); refine Kj I (Fa (q := 2) I I u41 I I) (Kj I (Ld I I .tc u3) ?_); refine WJ.set 61 I (v' := .int .i64 (((t.at_.toNat : Nat) : Int))) (congrArg (Value.int .i64) (by omega)) ?_; refine Kj I (Rm I I) ?_; refine Jv I I I I I (fun ext => Oc I I (Kv fun w hS => pL (sd := t.seed) (at_ := t.at_.toNat) (a := k) (nb := aJ n) (by assumption) (by omega) (by omega) (by assumption) (by omega))) ?_; refine Kj I (Ra I I) ?_; refine WJ.nil ?_; refine Nt (Cs (Km I (Km I (Kc I (fun w hS => jq (a := kf t.seed t.at_.toNat k (aJ n)) (b := n)) (Yl I (Nt (Ci I (fun hc69 => ?_) (fun hc69 => ?_))))))))
     ·refine Cq (Cf [0, 1, 2] [3, 4] [0, 0, 0, 2, 2] (by kernel_rfl) (by kernel_rfl) I ?_); refine Kj I (Rm I I) ?_; refine Kj I (lda I I .tc u41 I ?_) ?_
      ·kernel_rfl
      refine Kj I (Ra I I) ?_; refine WJ.nil ?_; refine Nu I I (Sa I I I .tc) (Ka I (Nt (Ce (Xf (Xb (Xb (Xf (Xb ?_)))))))); exact Rn I (.tmp I (.agg I .tc u41 I (by kernel_rfl) (.tmp I .nil))) fun w' hS => rn (q := ⟨o20, c20, s20⟩) (by rw [bg, Aa h27, Aa h52, ← hfi, mv (by omega) hc69]) hq hS (by simp [Rs.ent])
     ·refine Ck (Xd (Xa (Cg (Km I (Kq I (Rz I I I (by omega)) (Ka I (Nn (Ly (k + 1) (by (try dsimp only); omega) (S4 I I I I) (by refine (Sc ?_ (S0 _)) <;> (rfl)) ?_ (fun _ h => h))))))))); (try dsimp only); exact ⟨by omega, by rw [← lu (by omega) (by omega)]; exact hfi⟩
    ·refine Cx (Xc (Xc (Xe ?_))); obtain rfl : k = 256 := by omega
     refine Xa (Cs (Kq I (Kb [[.slice none 0 0], [.string (S [])], [.int .i64 0]] I I) (Ka I (Nu I I (Sa I I I .tc) (Ka I (Nt (Ce ?_))))))); exact Rn I (.tmp I (.agg I .tc u41 I (by kernel_rfl) (.tmp I .nil))) fun w' hS => gK (by rw [bg, Aa h27, Aa h52, ← hfi]; rfl) hS
theorem AA {t : Tp} {n : Bs} {a : Option Addr} {cap : Nat} {w : World} {ok : Nat → Prop} (hF1 : (Fact.sl a (an t.vals)).holds ok w) (hl : t.vals.length ≤ 100000) (hg : dA t) (hn : okN n) (hn0 : n ≠ []) (hsd : t.seed.length ≤ 400000) (hT : Tab w) :
  Calls Tryz.prog 87 #[t.v (.slice a t.vals.length cap), .string (S n)] w fun e w' => ∃ g : Rs, e = .returned (.tuple #[.string (S (bg t n).1), (bg t n).2.1.v (g.val (bg t n).2.1.vals.length), .int .i64 (bg t n).2.2]) ∧ g.cap = (bg t n).2.1.vals.length + g.sp.length ∧ St (fun _ => True) w [g.ent (an (bg t n).2.1.vals) 22] [] w' := by
 have hg1 := hg.1; have hg2 := hg.2.1
 have hbp := mI hn hn0
 have hbl := fE hn.1
 have hq : (⟨some 0, t.vals.length, []⟩ : Rs).cap = t.vals.length + (⟨some 0, t.vals.length, []⟩ : Rs).sp.length := rfl
 refine En [Fact.sl a (an t.vals)] [(0, t.v (.slice a t.vals.length cap)), (1, .string (S n))] Tryz.func87 I Tryz.ntmps87 I (Ac I (Ac I (An _))) (Fc (ah hF1) Fn) (Cs (Kh I (Oy I I) ?_))
 intro b2
 refine Ka I (Kh I (Oz [.slice none 0 0, .string (S []), .int .i64 0] I) ?_)
 intro b5
 refine Ka I (Nt (Cq (WC.joinP (σ := Unit) [(1, _), (2, _), (5, _)] (fun gq => [(26, .bool (decide (t.at_ < t.vals.length ∧ 0 ≤ fg (t.vals.getD t.at_.toNat default) n)))]) (fun gq => True) (S3 I I I) ?_ ?_)))
 ·skip
  refine Cg (Kf 2 I u41 I I I .tc u3 ?_)
  refine Kf 0 I u41 I I I .tc u31 ?_
  refine Yo I u31 (Yl I (Km I (Nc 16 I (fun hg16 => ?_) (fun hg16 => ?_))))
  ·refine Kf 0 I u41 I I I .tc u31 ?_; refine Kf 2 I u41 I I I .tc u3 ?_; refine Kq I (Ib I I I u31 (by omega) (by (rw [Ag]; omega))) ?_; refine Kq I (ldm I I u22 I (by omega)) ?_; refine Km I (Kc I (fun w hS => eL (a := t.vals.getD t.at_.toNat default) (b := n)) (Yh I (Yp I (Nn (WX.joinP (()) (S3 I I I) (by refine (Sc ?_ (S0 _)) <;> ((refine ai rfl ?_; (try dsimp only); (exact Af.2 (by omega))))) ?_ (fun _ h => h)))))); (try dsimp only); done
  ·refine T4 I (T4 I (Kt I (Yq I (Nn (WX.joinP (()) (S3 I I I) (by refine (Sc ?_ (S0 _)) <;> ((exact congrArg (fun b => some (Value.bool b)) (by symm; apply At; omega)))) ?_ (fun _ h => h)))))); (try dsimp only); done
 ·rintro _ hmeet; (try dsimp only at hmeet ⊢)
  refine Ci I (fun hc26 => ?_) (fun hc26 => ?_)
  ·refine Cs (Kq I (Kb [[.slice none 0 0], [.string (S [])], [.int .i64 0]] I I) (Ka I (Nu I I (Sa I I I .tc) (Ka I (Nt (Ce (Xb ?_))))))); exact Rn I (.tmp I (.agg I .tc u41 I (by kernel_rfl) (.tmp I .nil))) fun w' hS => gK (by rw [bg, Ab hc26.1, Ab hc26.2]) hS
  ·refine Ck (Xa (Cq (WC.joinP (σ := Unit) [(1, _), (2, _), (5, _)] (fun gq => [(43, .bool (decide (((t.vals.length : Int) ≤ t.at_ ∧ t.seed = []) ∨ t.at_ = 2147483647)))]) (fun gq => True) (S3 I I I) ?_ ?_)))
   ·skip
    refine Cg (Kf 2 I u41 I I I .tc u3 ?_); refine Kf 0 I u41 I I I .tc u31 ?_; refine Yo I u31 (Yh I (Km I (Nc 34 I (fun hg34 => ?_) (fun hg34 => ?_))))
    ·refine Kf 1 I u41 I I I .tc u9 ?_; refine Ys I (Yp I (Km I (Nc 39 I (fun hg39 => ?_) (fun hg39 => ?_))))
     ·refine T2 I (Kt I (Yp I (Nn (WX.joinP (()) (S3 I I I) (by refine (Sc ?_ (S0 _)) <;> ((refine ai rfl ?_; (try dsimp only); (simp [*]; done)))) ?_ (fun _ h => h))))); (try dsimp only); done
     ·refine Kf 2 I u41 I I I .tc u3 ?_; refine Yi I (Yq I (Nn (WX.joinP (()) (S3 I I I) (by refine (Sc ?_ (S0 _)) <;> ((refine ai rfl ?_; (try dsimp only); (simp [*]; done)))) ?_ (fun _ h => h)))); (try dsimp only); done
    ·refine T2 I (Kt I (Yq I (Km I (Kf 2 I u41 I I I .tc u3 ?_)))); refine Yi I (Yq I (Nn (WX.joinP (()) (S3 I I I) (by refine (Sc ?_ (S0 _)) <;> ((refine ai rfl ?_; (try dsimp only); (exact Af.2 (by omega))))) ?_ (fun _ h => h)))); (try dsimp only); done
   ·rintro _ hmeet; (try dsimp only at hmeet ⊢); refine Ci I (fun hc43 => ?_) (fun hc43 => ?_)
    ·refine Cs (Kq I (Kb [[.slice none 0 0], [.string (S [])], [.int .i64 0]] I I) (Ka I (Nu I I (Sa I I I .tc) (Ka I (Nt (Ce (Xb ?_))))))); exact Rn I (.tmp I (.agg I .tc u41 I (by kernel_rfl) (.tmp I .nil))) fun w' hS => gK (by rcases hc43 with h | h; rw [bg, Aa (by omega), Ab (Or.inl h.2)]; rw [bg, Aa (by omega), Ab (Or.inr h)]) hS
    ·refine Ck (Xa (Cq (Cf [0, 1, 2, 3, 4, 5, 6, 7, 8, 9, 10] [11] [0, 0, 0, 3, 0, 0, 0, 0, 0, 0, 3, 2] (by kernel_rfl) (by kernel_rfl) I ?_))); refine Kj I (Fa (q := 0) I I u41 I I) (Kj I (Ld I I .tc u31) ?_); refine Kj I (pJ I I u31) ?_; refine Jf I I I I I (BT I I I u31 (by kernel_rfl : _ = some (some (.string (S [])), 1, 16)) I ?_ (by (try simp only [sN, Int.reduceToNat, Nat.reduceAdd, Nat.reduceMul, Nat.reduceSub]); rfl) (by (try simp only [sN, Int.reduceToNat, Nat.reduceAdd, Nat.reduceMul, Nat.reduceSub]); rfl)) ?_
     ·omega
     intro b48; refine Kj I (Fa (q := 1) I I u41 I I) (Kj I (Ld I I .tc u9) ?_); refine Kj I (Fa (q := 2) I I u41 I I) (Kj I (Ld I I .tc u3) ?_); refine Kj I (aI I I I (by omega)) (Kj I (Kb [[.slice none 0 0], [.string (S [])], [.int .i64 0]] I I) ?_); refine Jf I I I I I (cg I (v := (.agg #[.slice none 0 0, .string (S []), .int .i64 0])) (cs := [.slice none 0 0, .string (S []), .int .i64 0]) (by kernel_rfl) I) ?_; intro b7; refine WJ.nil ?_; refine Nu I I (Sa I I I .tc) (Nt (Cs (Kf 0 I u41 I I I .tc u31 ?_))); refine Kf 0 I u41 I I I .tc u31 ?_; refine Kh I (CC I I I .tc u31 (by kernel_rfl) (m := t.vals.length) (by simp) (by simp) (fun w hS => hS.sl) (by intro u hu; obtain ⟨_, _, rfl⟩ := C3.1 hu; rfl) (by simp) (ys := an t.vals) (by simp)) ?_; intro _; refine Nt (Cq (Cs (Kf 2 I u41 I I I .tc u3 ?_))); refine Kf 0 I u41 I I I .tc u31 ?_; refine Yo I u31 (Yl I (Nt (Ci I (fun hc65 => ?_) (fun hc65 => ?_))))
     ·refine Cq (Cf [0, 1, 2, 3, 4, 5, 6, 7] [8, 9] [0, 0, 0, 0, 0, 0, 0, 0, 2, 2] (by kernel_rfl) (by kernel_rfl) I ?_); refine Kj I (Fa (q := 0) I I u41 I I) (Kj I (Ld I I .tc u31) ?_); refine Kj I (Fa (q := 2) I I u41 I I) (Kj I (Ld I I .tc u3) ?_); refine Kj I (Ib I I I u31 (by omega) (by (rw [Ag]; omega))) ?_; refine Kj I (ldm I I u22 I (by omega)) ?_; refine Kj I (lda I I .tc u41 I ?_) ?_
      ·kernel_rfl
      refine Kj I (Ra I I) ?_; refine WJ.nil ?_; refine Nu I I (Sa I I I .tc) (Ka I (Nt (Ce (Xb ?_)))); exact Rn I (.tmp I (.agg I .tc u41 I (by kernel_rfl) (.tmp I .nil))) fun w' hS => rn (q := ⟨some b48, t.vals.length, []⟩) (by rw [bg, Ab (by omega), Aa (fun h => hc26 ⟨by omega, h⟩)]) I hS (by simp [Rs.ent])
     ·have h27 : ¬ t.at_ < t.vals.length := by omega
      have h52 : ¬ (t.seed = [] ∨ t.at_ = 2147483647) := fun h => hc43 (h.elim (fun h => Or.inl ⟨by omega, h⟩) Or.inr)
      refine Ck (Xa (Cq (Cs (Km I (Nt (Cb (Lp (σ := Nat) [(1, _), (2, _), (5, _), (7, _)] (fun gq => [(73, .int .i64 (gq : Int))]) (fun gq => gq ≤ 256 ∧ ej t n (256 - gq) gq = ej t n 256 0) (fun gq => 256 - gq) (0) (S4 I I I I) (S1 I) (by (try dsimp only); exact ⟨by omega, rfl⟩) ?_))))))); rintro k hinv1; (try dsimp only at hinv1 ⊢); obtain ⟨hk, hfi⟩ := hinv1; refine Cs (Yl I (Nt (Cq (Ci I (fun hc74 => ?_) (fun hc74 => ?_)))))
      ·refine Ck (Xa (Cq (Cb (Cs (Km I (Ka I (Nt (Cq (Cf [2, 3, 0, 1, 4, 5] [] [0, 0, 0, 1, 1, 0] (by kernel_rfl) (by kernel_rfl) I ?_))))))))); refine Kj I (Rm I I) ?_; refine Jv I I I I I (fun ext => Oc I I (Kv fun w hS => nV (a := n))) ?_; refine WJ.set 79 I (v' := .int .i64 ((aJ n : Nat) : Int)) (congrArg (Value.int .i64) (by rw [Ab hn])) ?_; refine Kj I (lda I I .tc u41 I ?_) ?_
       ·kernel_rfl
       refine WJ.set 76 I (v' := .agg #[.slice a t.vals.length cap, .string (S t.seed), .int .i64 ((t.at_.toNat : Nat) : Int)]) (by rw [Int.toNat_of_nonneg hg1]) ?_; refine Kj I (Rm I I) ?_; refine Jv I I I I I (fun ext => Oc I I (Kv fun w hS => tn (sd := t.seed) (at_ := t.at_.toNat) (aa := k) (nb := aJ n) (by assumption) (by omega) (by omega) (by assumption) (by omega) (by (exact fb hT hS)))) ?_; refine Kj I (Ra I I) ?_; refine WJ.nil ?_; refine Nt (Cs (Km I (Km I (Kc I (fun w hS => eL (a := kf t.seed t.at_.toNat k (aJ n)) (b := n)) (Yl I (Nt (Ci I (fun hc84 => ?_) (fun hc84 => ?_))))))))
       ·refine Cq (Cf [0, 1, 2] [3, 4] [0, 0, 0, 2, 2] (by kernel_rfl) (by kernel_rfl) I ?_); refine Kj I (Rm I I) ?_; refine Kj I (lda I I .tc u41 I ?_) ?_
        ·kernel_rfl
        refine Kj I (Ra I I) ?_; refine WJ.nil ?_; refine Nu I I (Sa I I I .tc) (Ka I (Nt (Ce (Xf (Xb (Xb (Xf (Xb ?_)))))))); exact Rn I (.tmp I (.agg I .tc u41 I (by kernel_rfl) (.tmp I .nil))) fun w' hS => rn (q := ⟨some b48, t.vals.length, []⟩) (by rw [bg, Aa h27, Aa h52, ← hfi, mv (by omega) hc84]) I hS (by simp [Rs.ent])
       ·refine Ck (Xd (Xa (Cg (Kq I (Rz I I I (by omega)) (Km I (Nn (Ly (k + 1) (by (try dsimp only); omega) (S4 I I I I) (by refine (Sc ?_ (S0 _)) <;> (rfl)) ?_ (fun _ h => h)))))))); (try dsimp only); exact ⟨by omega, by rw [← lu (by omega) (by omega)]; exact hfi⟩
      ·refine Cx (Xc (Xc (Xe ?_))); obtain rfl : k = 256 := by omega
       refine Xa (Cs (Kq I (Kb [[.slice none 0 0], [.string (S [])], [.int .i64 0]] I I) (Ka I (Nu I I (Sa I I I .tc) (Ka I (Nt (Ce ?_))))))); exact Rn I (.tmp I (.agg I .tc u41 I (by kernel_rfl) (.tmp I .nil))) fun w' hS => gK (by rw [bg, Aa h27, Aa h52, ← hfi]; rfl) hS
def bX (t : Tp) (n : Bs) : Int := if dA t ∧ okN n then (if n = [] then 11 else 0) else 3
theorem tQ {t : Tp} {n : Bs} {a : Option Addr} {cap : Nat} {w : World} {ok : Nat → Prop} (hF1 : (Fact.sl a (an t.vals)).holds ok w) (hl : t.vals.length ≤ 100000) :
  Cw 86 #[t.v (.slice a t.vals.length cap), .string (S n)] w (.int .i64 (bX t n)) := by
 refine En [Fact.sl a (an t.vals)] [(0, t.v (.slice a t.vals.length cap)), (1, .string (S n))] Tryz.func86 I Tryz.ntmps86 I (Ac I (Ac I (An _))) (Fc (ah hF1) Fn) (Cs (Kh I (Oy I I) ?_))
 intro b2
 refine Ka I (Nt (Cq (Cs (Kq I (lda I I .tc u41 I ?_) ?_))))
 ·kernel_rfl
 refine Kc I (fun w hS => zT (t := t) (by (exact hS.sl)) (by omega)) (Yt I (Km I (Nc 8 I (fun hg8 => ?_) (fun hg8 => ?_))))
 ·refine T2 I (Kt I (Yp I (Nt (Cd I (fun _ => ?_) (fun h => by cases h)))))
  refine Cs (Ka I (Nt (Ce (Xb ?_))))
  exact R1 I I (by rw [bX, Aa (by simp_all)]; rfl)
 ·refine Km I (Kc I (fun w hS => ax) (Yt I (Yq I (Nt (Ci I (fun hc12 => ?_) (fun hc12 => ?_))))))
  ·refine Cs (Ka I (Nt (Ce (Xb ?_)))); exact R1 I I (by rw [bX, Aa (by simp_all)]; rfl)
  ·have hgn : dA t ∧ okN n := by simp_all
   refine Ck (Xa (Cq (Cs (Km I (Ys I (Nt (Ci I (fun hc14 => ?_) (fun hc14 => ?_))))))))
   ·refine Cs (Ka I (Nt (Ce (Xb ?_)))); exact R1 I I (by rw [bX, Ab hgn, Ab (by simpa using hc14)]; rfl)
   ·refine Ck (Xa (Cs (Ka I (Nt (Ce ?_))))); exact R1 I I (by rw [bX, Ab hgn, Aa (by simpa using hc14)]; rfl)
def ap (t : Tp) (n : Bs) : Bs × Tp × Int := if bX t n ≠ 0 then ([], bH, bX t n) else bg t n
theorem oz {t : Tp} {n : Bs} (h : bX t n = 0) : dA t ∧ okN n ∧ n ≠ [] := by
 unfold bX at h
 split at h
 ·rename_i h1
  split at h
  ·cases h
  ·rename_i h2; exact ⟨h1.1, h1.2, h2⟩
 ·cases h
theorem yk {t : Tp} {n : Bs} {a : Option Addr} {cap : Nat} {w : World} {ok : Nat → Prop} (hF1 : (Fact.sl a (an t.vals)).holds ok w) (hl : t.vals.length ≤ 100000) (hsd : t.seed.length ≤ 400000) (hT : Tab w) :
  Calls Tryz.prog 42 #[t.v (.slice a t.vals.length cap), .string (S n)] w fun e w' => ∃ g : Rs, e = .returned (.tuple #[.string (S (ap t n).1), (ap t n).2.1.v (g.val (ap t n).2.1.vals.length), .int .i64 (ap t n).2.2]) ∧ g.cap = (ap t n).2.1.vals.length + g.sp.length ∧ St (fun _ => True) w [g.ent (an (ap t n).2.1.vals) 22] [] w' := by
 refine En [Fact.sl a (an t.vals)] [(0, t.v (.slice a t.vals.length cap)), (1, .string (S n))] Tryz.func42 I Tryz.ntmps42 I (Ac I (Ac I (An _))) (Fc (ah hF1) Fn) (Cs (Kh I (Oy I I) ?_))
 intro b2
 refine Ka I (Kh I (Oz [.slice none 0 0, .string (S []), .int .i64 0] I) ?_)
 intro b5
 refine Ka I (Nt (Cq (Cs (Kq I (lda I I .tc u41 I ?_) ?_))))
 ·kernel_rfl
 refine Km I (Kc I (fun w hS => tQ (t := t) (n := n) (by (exact hS.sl)) (by assumption)) (Ka I (Nt (Cs (Km I (Yj I (Nt (Ci I (fun hc12 => ?_) (fun hc12 => ?_)))))))))
 ·have hr : ap t n = ([], bH, bX t n) := by rw [ap, Ab (by simpa using hc12)]
  refine Cs (Kq I (Kb [[.slice none 0 0], [.string (S [])], [.int .i64 0]] I I) (Km I (Ka I (Nu I I (Sa I I I .tc) (Ka I (Nt (Ce (Xb ?_))))))))
  exact Rn I (.tmp I (.agg I .tc u41 I (by kernel_rfl) (.tmp I .nil))) fun w' hS => gK hr hS
 ·have hrd : bX t n = 0 := by simpa using hc12
  have hr : ap t n = bg t n := by rw [ap, Aa (by simp [hrd])]
  obtain ⟨k1, k2, k3⟩ := oz hrd
  refine Ck (Xa (Cs (Kq I (lda I I .tc u41 I ?_) ?_)))
  ·kernel_rfl
  refine Km I (Kh I (Oc I I (ku fun w hS => AA (t := t) (n := n) (by (exact hS.sl)) (by assumption) (by assumption) (by assumption) (by assumption) (by assumption) (by (exact fb hT hS)))) ?_)
  intro g17
  refine WL.pu ?_
  intro hg17; (try dsimp only at hg17 ⊢)
  refine Ye I (Ye I (Ye I (Ka I (Nu I I (Sa I I I .tc) (Ka I (Nt (Ce ?_)))))))
  exact Rn I (.tmp I (.agg I .tc u41 I (by kernel_rfl) (.tmp I .nil))) fun w' hS => ⟨g17, by rw [hr]; rfl, by rw [hr]; exact hg17, by rw [hr]; exact aw _ hS⟩
theorem uy {t : Tp} {n : Bs} {a : Option Addr} {cap : Nat} {w : World} {ok : Nat → Prop} (hF1 : (Fact.sl a (an t.vals)).holds ok w) (hl : t.vals.length ≤ 100000) (hsd : t.seed.length ≤ 400000) :
  Calls Tryz.prog 51 #[t.v (.slice a t.vals.length cap), .string (S n)] w fun e w' => ∃ g : Rs, e = .returned (.tuple #[.string (S (ap t n).1), (ap t n).2.1.v (g.val (ap t n).2.1.vals.length), .int .i64 (ap t n).2.2]) ∧ g.cap = (ap t n).2.1.vals.length + g.sp.length ∧ St (fun _ => True) w [g.ent (an (ap t n).2.1.vals) 22] [] w' := by
 refine En [Fact.sl a (an t.vals)] [(0, t.v (.slice a t.vals.length cap)), (1, .string (S n))] Tryz.func51 I Tryz.ntmps51 I (Ac I (Ac I (An _))) (Fc (ah hF1) Fn) (Cs (Kh I (Oy I I) ?_))
 intro b2
 refine Ka I (Kh I (Oz [.slice none 0 0, .string (S []), .int .i64 0] I) ?_)
 intro b5
 refine Ka I (Nt (Cq (Cs (Kq I (lda I I .tc u41 I ?_) ?_))))
 ·kernel_rfl
 refine Kc I (fun w hS => ug (t := t) (by (exact hS.sl)) (by omega)) (Yt I (Km I (Nc 10 I (fun hg10 => ?_) (fun hg10 => ?_))))
 ·refine T2 I (Kt I (Yp I (Nt (Cd I (fun _ => ?_) (fun h => by cases h)))))
  refine Cs (Kq I (Kb [[.slice none 0 0], [.string (S [])], [.int .i64 0]] I I) (Ka I (Nu I I (Sa I I I .tc) (Ka I (Nt (Ce (Xb ?_)))))))
  exact Rn I (.tmp I (.agg I .tc u41 I (by kernel_rfl) (.tmp I .nil))) fun w' hS => gK (by rw [ap, show bX t n = 3 from by rw [bX, Aa (by simp_all)], Ab (by decide)]) hS
 ·refine Km I (Kc I (fun w hS => av) (Yt I (Yq I (Nt (Ci I (fun hc14 => ?_) (fun hc14 => ?_))))))
  ·refine Cs (Kq I (Kb [[.slice none 0 0], [.string (S [])], [.int .i64 0]] I I) (Ka I (Nu I I (Sa I I I .tc) (Ka I (Nt (Ce (Xb ?_))))))); exact Rn I (.tmp I (.agg I .tc u41 I (by kernel_rfl) (.tmp I .nil))) fun w' hS => gK (by rw [ap, show bX t n = 3 from by rw [bX, Aa (by simp_all)], Ab (by decide)]) hS
  ·have hgn : dA t ∧ okN n := by simp_all
   refine Ck (Xa (Cq (Cs (Km I (Ys I (Nt (Ci I (fun hc17 => ?_) (fun hc17 => ?_))))))))
   ·refine Cs (Kq I (Kb [[.slice none 0 0], [.string (S [])], [.int .i64 0]] I I) (Ka I (Nu I I (Sa I I I .tc) (Ka I (Nt (Ce (Xb ?_))))))); exact Rn I (.tmp I (.agg I .tc u41 I (by kernel_rfl) (.tmp I .nil))) fun w' hS => gK (by rw [ap, show bX t n = 11 from by rw [bX, Ab hgn, Ab (by simpa using hc17)], Ab (by decide)]) hS
   ·have k3 : n ≠ [] := by simpa using hc17
    have hr : ap t n = bg t n := by rw [ap, show bX t n = 0 from by rw [bX, Ab hgn, Aa k3], Aa (by simp)]
    have k1 := hgn.1; have k2 := hgn.2; refine Ck (Xa (Cs (Kq I (lda I I .tc u41 I ?_) ?_)))
    ·kernel_rfl
    refine Km I (Kh I (Oc I I (ku fun w hS => xm (t := t) (n := n) (by (exact hS.sl)) (by assumption) (by assumption) (by assumption) (by assumption) (by assumption))) ?_); intro g21; refine WL.pu ?_; intro hg21; (try dsimp only at hg21 ⊢); refine Ye I (Ye I (Ye I (Ka I (Nu I I (Sa I I I .tc) (Ka I (Nt (Ce ?_))))))); exact Rn I (.tmp I (.agg I .tc u41 I (by kernel_rfl) (.tmp I .nil))) fun w' hS => ⟨g21, by rw [hr]; rfl, by rw [hr]; exact hg21, by rw [hr]; exact aw _ hS⟩
theorem ta {a b : Bs} (h : fg a b < 0) : okN a := by
 unfold fg at h; split at h
 ·rename_i h1; exact h1.1
 ·omega
theorem ls {t : Tp} {n : Bs} : ∀ (f a : Nat) (x : Bs), ej t n f a = some x → okN x
 | 0, a, x, h => by cases h
 | f + 1, a, x, h => by
  unfold ej at h; split at h
  ·rename_i h1; injection h with h; subst h; exact ta h1
  ·exact ls f (a + 1) x h
theorem s7 {t : Tp} {n : Bs} (hg : dA t) (h : (bg t n).2.2 = 0) : okN (bg t n).1 := by
 unfold bg at h ⊢
 split
 ·rename_i h1
  rw [Ab h1] at h
  split
  ·rename_i h2; rw [Ab h2] at h; cases h
  ·exact hg.2.2 _ (jB _ _ (by have := hg.1; omega))
 ·rename_i h1
  rw [Aa h1] at h
  split
  ·rename_i h2; rw [Ab h2] at h; cases h
  ·rename_i h2; rw [Aa h2] at h
   cases hf : ej t n 256 0 with
   | none => rw [hf] at h; cases h
   | some x => exact ls _ _ _ hf
theorem mu {t : Tp} {n : Bs} : ∀ (f a : Nat) (x : Bs), ej t n f a = some x → fg x n < 0
 | 0, a, x, h => by cases h
 | f + 1, a, x, h => by
  unfold ej at h; split at h
  ·rename_i h1; injection h with h; subst h; exact h1
  ·exact mu f (a + 1) x h
theorem vE {t : Tp} {n : Bs} (h : (bg t n).2.2 = 0) : fg (bg t n).1 n < 0 := by
 unfold bg at h ⊢
 split
 ·rename_i h1
  rw [Ab h1] at h
  split
  ·rename_i h2; rw [Ab h2] at h; cases h
  ·rename_i h2; show fg (t.vals.getD t.at_.toNat default) n < 0; omega
 ·rename_i h1
  rw [Aa h1] at h
  split
  ·rename_i h2; rw [Ab h2] at h; cases h
  ·rename_i h2; rw [Aa h2] at h
   cases hf : ej t n 256 0 with
   | none => rw [hf] at h; cases h
   | some x => exact mu _ _ _ hf
theorem mM {t : Tp} {n : Bs} (h : (ap t n).2.2 = 0) (ht : dA t) (hn : okN n) : okN (ap t n).1 ∧ val (ap t n).1 < val n := by
 unfold ap at h ⊢; split at h
 ·rename_i h1; exact absurd h h1
 ·rename_i h1; rw [Aa h1]
  have a := s7 ht h; have b := vE h
  rw [aH a hn, aA] at b; exact ⟨a, b⟩
theorem p7 (t : Tp) (n : Bs) : (bg t n).2.1.vals.length ≤ t.vals.length := by
 unfold bg; repeat' split
 all_goals simp [bH]
theorem pa (t : Tp) (n : Bs) : (ap t n).2.1.vals.length ≤ t.vals.length := by
 unfold ap; split
 ·simp [bH]
 ·exact p7 t n
structure SG where
 a : Bs
 e : Bs
 v : Bs
def ck (p : PR) (k : IK) (s : SG) (t : Tp) : (Bs × Zs × Tp) × Int :=
 if cO p k ≠ 0 then (([], (false, []), bH), cO p k)
 else if ¬ (okN s.a ∧ okN s.e ∧ okN s.v) then (([], (false, []), bH), 3)
 else if ¬ elG k.g s.a then (([], (false, []), bH), 13)
 else if (ap t p.msk).2.2 ≠ 0 then (([], (false, []), bH), (ap t p.msk).2.2)
 else if (bP (aE s.e) (aE (ap t p.msk).1)).2 ≠ 0 ∨ (cR (aE s.v) (bP (aE s.e) (aE (ap t p.msk).1)).1).2 ≠ 0 then (([], (false, []), bH), 5)
 else (((cd k.g [s.a, k.s] [ofZ 1, aE (ap t p.msk).1]).1, (cR (aE s.v) (bP (aE s.e) (aE (ap t p.msk).1)).1).1, (ap t p.msk).2.1), 0)
def eP : Int → List Int → Int → Bool
 | _, [], _ => true
 | last, i :: l, n => decide (last < i ∧ i < n) && eP i l n
abbrev rD (k : IK) (i : Nat) : Bs := k.r.getD i default
def ce (d : List Int) (n : Nat) : List Nat := (List.range n).filter fun i => !(d.contains (i : Int))
def lim (p : PR) (i : Nat) : Bs := if i = 0 then p.sec else if i = 1 then p.han else p.attr
def shE (p : PR) (k : IK) (a : Bs) (d : List Int) (vs : List Bs) : Int :=
 if cO p k ≠ 0 then cO p k else if ¬ (okN a ∧ ∀ x ∈ vs, okN x) then 3 else if ¬ elG k.g a then 13 else if eP 1 d k.r.length = false then 2
 else if vs.length ≠ d.length then 6 else if ¬ (∀ x ∈ vs, val x < val p.attr) then 2 else (j6 p).2
abbrev ngN (v : Bs) : Zs := f7 (aE v)
def tgS (p : PR) (k : IK) (a : Bs) (d : List Int) (vs : List Bs) : Bs := (cd k.g (k.z :: a :: d.map fun i => rD k i.toNat) (ofZ 1 :: ngN p.lo :: vs.map ngN)).1
def shT (p : PR) (k : IK) (a : Bs) (d : List Int) (vs : List Bs) : Sm :=
 ([k.g], p.sz :: (j6 p).1.1 :: (ce d k.r.length).map (lim p), [(0, tgS p k a d vs, gg (a :: k.s :: (ce d k.r.length).map (rD k)) 0)])
def shS (p : PR) (k : IK) (a : Bs) (d : List Int) (vs : List Bs) : Sm × Int := if shE p k a d vs ≠ 0 then (([], [], []), shE p k a d vs) else (shT p k a d vs, 0)
def wiS (p : PR) (s : SG) (v : Zs) (ms : List Bs) (d : List Int) : List Zs × Int :=
 if dH p ≠ 0 then ([], dH p) else if ¬ ((okN s.a ∧ okN s.e ∧ okN s.v) ∧ okZ v ∧ ∀ x ∈ ms, okN x) then ([], 3) else if ms.length < 2 ∨ 18 < ms.length then ([], 6)
 else if eP 1 d ms.length = false then ([], 2) else ((cR (aE s.e) (aE p.lo)).1 :: v :: (ce d ms.length).map (fun i => aE (ms.getD i default)), 0)
theorem ny {x : Bs} (h : okN x) : okZ (false, x) := ⟨h, fun h => by cases h.1⟩
theorem zz {x : Bs} (h : okN x) : ngN x = ofZ (-(val x : Int)) := by
 have e : aE x = ofZ (val x : Int) := by rw [cX h, nA, cx h]
 rw [ngN, e, qY (by rw [Bm]; exact aU h)]
theorem qX {x : Bs} (h : okN x) : okZ (ngN x) := by rw [zz h]; exact cK.2 (by rw [Int.natAbs_neg, Bm]; exact aU h)
theorem ji : ∀ {d : List Int} {last n : Int}, eP last d n = true → ∀ i ∈ d, last < i ∧ i < n
 | [], _, _, _, i, hi => by cases hi
 | j :: l, last, n, h, i, hi => by
  rw [eP, Cr, decide_eq_true_eq] at h
  rcases A9.1 hi with rfl | hi
  ·exact h.1
  ·have := ji h.2 i hi; omega
end Go.Proofs.YtkdlonihbjhhoaaGreatDoor
