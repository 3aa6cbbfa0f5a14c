/-
  Parts of the walk: Pwb Pwe Pwc Pw3 Open Opn Opz Non1 Sin Non2 Non3 Pwd Eqt.
-/
import Derived.Test.YtddoigmffkmpcaaGreatDoorI15
import Derived.ProofKit
import Derived.OpenShut
import Derived.SliceStrings
import Derived.Carry
import Derived.SizedLaws
namespace Go.Proofs.YtddoigmffkmpcaaGreatDoor
open Go.RowKit
set_option linter.unusedSimpArgs false
set_option linter.unusedVariables false
set_option maxHeartbeats 600000
set_option maxRecDepth 20000
theorem val_10 : val [10] = 10 := by decide
theorem okN_10 : okN [10] := by decide
theorem val_256 : val [1, 0] = 256 := by decide
theorem rtext_c {c : Nat} {w : World} (hc : c < 64) :
  Cw 46 #[.string (S (canon c))] w (.tuple #[.string (S (Lib.decDigits c)), .int .i64 0]) := by
 have h64 : 64 < Big := by decide +kernel
 have hok : ∀ n, n < 64 → okN (canon n) := fun n hn => okN_can (by omega)
 refine En [] [(0, .string (S (canon c)))] Tryz.func46 rfl Tryz.ntmps46 rfl (Ac rfl (An _)) Fn ?_
 refine Cs (Ka rfl (Ka rfl (Nt (Cq (Cs (Km rfl ?_))))))
 refine Ku rfl (Oc rfl rfl (Kv fun w hS => rvalid_c (a := canon c))) ?_
 refine Kq rfl (Rt rfl rfl) (Nt ?_)
 refine Cd rfl (fun hc9 => by exfalso; (try simp only [sB] at hc9); (exact hc9 (hok c hc))) (fun hc9 => ?_)
 (try simp only [sB] at hc9)
 refine Ck (Xa (Cq (Cs (Km rfl (Kq rfl (rd_seq rfl rfl rfl) (Nt ?_))))))
 refine Cd rfl (fun hc11 => ?_) (fun hc11 => ?_)
 ·(try simp only [sB] at hc11)
  refine Cs (Ka rfl (Ka rfl (Nt (Ce (Xb ?_)))))
  exact R2 rfl rfl rfl (by rw [show c = 0 from canon_nil.1 (by simpa using hc11), dec_small (by decide)]; rfl)
 ·(try simp only [sB] at hc11)
  have hc0 : c ≠ 0 := fun h => hc11 (by rw [h]; rfl)
  refine Ck (Xa (Cs (Ka rfl (Nt (Cq (Cb ?_))))))
  refine Lp (σ := Nat × Bs) [] (fun gq => [(0, .string (S (canon gq.1))), (4, .string (S gq.2))]) (fun gq => gq.1 < 64 ∧ gq.2.length + gq.1 ≤ 64 ∧ Lib.decDigits c = (if gq.1 = 0 then gq.2 else Lib.decDigits gq.1 ++ gq.2)) (fun gq => gq.1) (c, []) (S0 _) (S2 rfl rfl) (by (try dsimp only); exact ⟨hc, by simp; omega, by rw [if_neg hc0, List.append_nil]⟩) ?_
  rintro ⟨n, t⟩ hinv1; (try dsimp only at hinv1 ⊢)
  obtain ⟨hn, htl, hi⟩ := hinv1
  refine Cq (Cs (Km rfl (Kq rfl (rd_sne rfl rfl rfl) (Nt ?_))))
  refine Cd rfl (fun hc13 => ?_) (fun hc13 => ?_)
  ·(try simp only [sB] at hc13)
   have hn0 : n ≠ 0 := fun h => hc13 (by rw [h]; rfl)
   have hdl : (canon (n % 10)).length ≤ 8 := canon_len_le.2 (by show n % 10 < 256 ^ 8; omega)
   rw [if_neg hn0] at hi
   have hi2 : Lib.decDigits c = (if n / 10 = 0 then UInt8.ofNat (48 + n % 10) :: t else Lib.decDigits (n / 10) ++ UInt8.ofNat (48 + n % 10) :: t) := by
    rw [hi]; split
    ·rename_i h; rw [dec_small (by omega), show n % 10 = n by omega]; rfl
    ·rename_i h; rw [dec_big (n := n) (by omega), List.append_assoc]; rfl
   refine Ck (Xa (Cb (Cs (Km rfl ?_))))
   refine Ku rfl (Oc rfl rfl (Kv fun w hS => (by have := rover_c (w := w) (a := canon n) (b := [10]) (hok n hn) okN_10 (by decide); rw [val_canon, val_10] at this; exact this))) ?_
   refine Km rfl (Kq rfl (Re rfl rfl rfl) (Kq rfl (Re rfl rfl rfl) (Ka rfl (Ka rfl (Nt (Cs (Km rfl ?_)))))))
   refine Ku rfl (Oc rfl rfl (Kv fun w hS => (by have := ru64_c (w := w) (a := canon (n % 10)) hdl; rw [val_canon] at this; exact this))) ?_
   refine Km rfl ?_
   refine Ku rfl (Oc rfl rfl (Kv fun w hS => (by have := ru64_c (w := w) (a := canon (n % 10)) hdl; rw [val_canon] at this; exact this))) ?_
   refine Kq rfl (rd_addW (c := 1) rfl rfl rfl (by omega)) ?_
   refine Kq rfl (rd_ss rfl rfl rfl rfl u9 ?_) ?_
   ·(try simp only [List.length_append, List.length_cons, List.length_nil]); omega
   refine Ns 24 rfl (v' := .string (S ([UInt8.ofNat (48 + n % 10)]))) (congrArg (fun l => Value.string (S l)) (by (have := dig10 (n % 10) (by omega); rw [← this]; rw [Int.toNat_natCast, Int.toNat_natCast, Nat.add_sub_cancel_left]))) ?_
   refine Km rfl ?_
   refine Kq rfl (rd_cat rfl rfl rfl ?_) ?_
   ·((try simp only [List.length_append, List.length_cons, List.length_nil]); omega)
   refine Ka rfl (Nt (Cg (Km rfl (Ka rfl (Nn (Xd ?_))))))
   refine Ly ((n / 10, UInt8.ofNat (48 + n % 10) :: t)) (by omega) (S0 _) (by refine (Sc ?_ (Sc ?_ (S0 _))) <;> (rfl)) ?_ (by (exact fun _ h => h))
   (try dsimp only)
   exact ⟨by omega, by rw [List.length_cons]; omega, hi2⟩
  ·(try simp only [sB] at hc13)
   refine Cx (Xc (Xc (Xe ?_)))
   have hz : n = 0 := canon_nil.1 (by simpa using hc13)
   rw [if_pos hz] at hi
   refine Xa (Cs (Km rfl (Ka rfl (Ka rfl (Nt (Ce ?_))))))
   exact R2 rfl rfl rfl (by rw [hi]; rfl)
theorem h_part {l : Bs} {c j : Nat} : val ((hshL l c).take j) < 256 ^ 32 := by
 have h1 := val_lt ((hshL l c).take j)
 have h2 : (hshL l c).length = 32 := sha_len _
 exact Nat.lt_of_lt_of_le h1 (Nat.pow_le_pow_right (by decide) (by rw [List.length_take]; omega))
theorem big_33 : 256 ^ 33 < Big := by decide +kernel
theorem can_l {n : Nat} (h : n < Big) : (canon n).length ≤ 50000 := by have := (okN_can h).1; omega
theorem rghash_c {g : Gp} {l : Bs} {w : World} (hm8 : g.1.length ≤ 8) (hl : l.length ≤ 900000) :
  Cw 23 #[gV g, .string (S l)] w (NE (hshS g l)) := by
 have hB33 := big_33
 refine En [] [(0, gV g), (1, .string (S l))] Tryz.func23 rfl Tryz.ntmps23 rfl (Ac rfl (Ac rfl (An _))) Fn ?_
 refine Cs ?_
 refine Kh rfl (Oy rfl rfl) ?_
 intro b2
 refine Ka rfl (Ka rfl (Nt (Cq (Cs ?_))))
 refine Kq rfl (lda rfl rfl .tc u24 rfl ?_) ?_
 ·kernel_rfl
 refine Ku rfl (Oc rfl rfl (Kv fun w hS => rpform_c (g := g))) ?_
 refine Kq rfl (Rt rfl rfl) (Nt ?_)
 refine Cd rfl (fun hc18 => ?_) (fun hc18 => ?_)
 ·(try simp only [sB] at hc18)
  have hr : hshS g l = ([], 3) := by rw [hshS, if_pos (by simpa using hc18)]
  refine Cs (Ka rfl (Ka rfl (Nt (Ce (Xb ?_)))))
  exact R2 rfl rfl rfl (by rw [hr]; rfl)
 ·(try simp only [sB] at hc18)
  have hf : okN g.1 ∧ okN g.2 := by simpa using hc18
  refine Ck (Xa (Cq ?_))
  refine WC.joinP (σ := Unit) [(1, _), (2, _)] (fun gq => [(26, .bool (decide (g.1 = [] ∨ g.2 = [])))]) (fun gq => True) (S2 rfl rfl) ?_ ?_
  ·skip
   refine Cg (Kq rfl (Fa (q := 0) rfl rfl u24 rfl rfl) (Kq rfl (Ld rfl rfl .tc u22) ?_))
   refine Kq rfl (rd_seq rfl rfl rfl) (Km rfl ?_)
   refine Nb 22 rfl (fun hg22 => ?_) (fun hg22 => ?_)
   ·(try simp only [sB] at hg22)
    refine Kt rfl (Kt rfl (Kt rfl (Kq rfl (Rp rfl rfl rfl) (Nn ?_))))
    refine WX.joinP (()) (S2 rfl rfl) (by refine (Sc ?_ (S0 _)) <;> ((refine slot_b rfl ?_; (try dsimp only); (simp [*]; done)))) ?_ (by (exact fun _ h => h))
    (try dsimp only)
    done
   ·(try simp only [sB] at hg22)
    refine Kq rfl (Fa (q := 1) rfl rfl u24 rfl rfl) (Kq rfl (Ld rfl rfl .tc u22) ?_)
    refine Kq rfl (rd_seq rfl rfl rfl) (Kq rfl (Rq rfl rfl rfl) (Nn ?_))
    refine WX.joinP (()) (S2 rfl rfl) (by refine (Sc ?_ (S0 _)) <;> ((refine slot_b rfl ?_; (try dsimp only); (simp [*]; done)))) ?_ (by (exact fun _ h => h))
    (try dsimp only)
    done
  ·rintro _ hmeet; (try dsimp only at hmeet ⊢)
   refine Cd rfl (fun hc26 => ?_) (fun hc26 => ?_)
   ·(try simp only [sB] at hc26)
    have hr : hshS g l = ([], 11) := by rw [hshS, if_neg (fun h => h hf), if_pos hc26]
    refine Cs (Ka rfl (Ka rfl (Nt (Ce (Xb ?_)))))
    exact R2 rfl rfl rfl (by rw [hr]; rfl)
   ·(try simp only [sB] at hc26)
    have hp1 : 0 < val g.1 := pos_nn hf.1 (fun h => hc26 (Or.inl h))
    have hp2 : 0 < val g.2 := pos_nn hf.2 (fun h => hc26 (Or.inr h))
    have hb1 := okN_val hf.1
    refine Ck (Xa (Cq (Cs ?_)))
    refine Kq rfl (lda rfl rfl .tc u24 rfl ?_) ?_
    ·kernel_rfl
    refine Ku rfl (Oc rfl rfl (Kv fun w hS => rgdiv_c (g := g) (by exact hf.1) (by exact hf.2) (by exact hp1) (by exact hp2))) ?_
    refine Kq rfl (Rt rfl rfl) (Nt ?_)
    refine Cd rfl (fun hc29 => ?_) (fun hc29 => ?_)
    ·(try simp only [sB] at hc29)
     have hr : hshS g l = ([], 13) := by rw [hshS, if_neg (fun h => h hf), if_neg hc26, if_pos (by simpa using hc29)]
     refine Cs (Ka rfl (Ka rfl (Nt (Ce (Xb ?_)))))
     exact R2 rfl rfl rfl (by rw [hr]; rfl)
    ·(try simp only [sB] at hc29)
     have hd : (val g.1 - 1) % val g.2 = 0 := by simpa using hc29
     have hr := hsh_ok (l := l) hf hc26 hd
     refine Ck (Xa (Cq ?_))
     refine Cf [0, 1, 2, 3, 4, 5, 6, 7, 8, 9, 10] [] [0, 0, 1, 0, 0, 1, 0, 0, 0, 0, 0] (by kernel_rfl) (by kernel_rfl) rfl ?_
     refine Kj rfl (Fa (q := 0) rfl rfl u24 rfl rfl) (Kj rfl (Ld rfl rfl .tc u22) ?_)
     refine Jv rfl rfl rfl rfl rfl (fun ext => Oc rfl rfl (Kv fun w hS => (by have := minus_c (w := w) (a := g.1) (b := [1]) hp1 (by omega) (by simp); rw [show val [1] = 1 from by decide] at this; exact this))) ?_
     refine Kj rfl (Fa (q := 1) rfl rfl u24 rfl rfl) (Kj rfl (Ld rfl rfl .tc u22) ?_)
     refine Jv rfl rfl rfl rfl rfl (fun ext => Oc rfl rfl (Kv fun w hS => (by have := rover_c (w := w) (a := canon (val g.1 - 1)) (b := g.2) (okN_can (by omega)) hf.2 (fun h => hc26 (Or.inr h)); rw [val_canon] at this; exact this))) ?_
     refine Kj rfl (Rm rfl rfl) (Kj rfl (Re rfl rfl rfl) (Kj rfl (Re rfl rfl rfl) (Kj rfl (Ra rfl rfl) (Kj rfl (Ra rfl rfl) ?_))))
     refine WJ.nil ?_
     refine Nt (Cq (Cs (Ka rfl (Nt (Cb ?_)))))
     refine Lp (σ := Nat) [(1, _), (2, _), (6, _)] (fun gq => [(8, .int .u64 (gq : Int))]) (fun gq => gq ≤ 64 ∧ hshF g l (64 - gq) gq = hshF g l 64 0) (fun gq => 64 - gq) (0) (S3 rfl rfl rfl) (S1 rfl) (by (try dsimp only); exact ⟨Nat.zero_le _, rfl⟩) ?_
     rintro c hinv1; (try dsimp only at hinv1 ⊢)
     obtain ⟨hc64, hi⟩ := hinv1
     refine Cq (Cs (Km rfl (Kq rfl (rd_lss rfl rfl rfl) (Nt ?_))))
     refine Cd rfl (fun hc40 => ?_) (fun hc40 => ?_)
     ·(try simp only [sB] at hc40)
      have hcl : c < 64 := by omega
      have hd2 := dec_len20 1 c (by omega)
      have h32 : (hshL l c).length = 32 := sha_len _
      refine Ck (Xa (Cq (Cb (Cs (Km rfl ?_)))))
      refine Ku rfl (Oc rfl rfl (Kv fun w hS => rof_c (n := c) (by omega))) ?_
      refine Ku rfl (Oc rfl rfl (Kv fun w hS => rtext_c (c := c) (by assumption))) ?_
      refine Km rfl (Kq rfl (Re rfl rfl rfl) (Kq rfl (Re rfl rfl rfl) (Ka rfl (Ka rfl (Nt (Cs (Km rfl ?_)))))))
      refine Kq rfl (rd_cat rfl rfl rfl ?_) ?_
      ·((try simp only [List.length_append, List.length_cons, List.length_nil]); omega)
      refine Km rfl ?_
      refine Kq rfl (rd_cat rfl rfl rfl ?_) ?_
      ·((try simp only [List.length_append, List.length_cons, List.length_nil]); omega)
      refine Ns 52 rfl (v' := .string (S (Lib.decDigits c ++ 58 :: l))) (congrArg (fun l => Value.string (S l)) (by simp)) ?_
      refine Ku rfl (Oc rfl rfl (Kv fun w hS => rsum8_c (s := Lib.decDigits c ++ 58 :: l) (by simp only [List.length_append, List.length_cons]; omega))) ?_
      refine Ns 53 rfl (v' := .string (S (hshL l c))) (congrArg (fun l => Value.string (S l)) (by rfl)) ?_
      refine Ka rfl (Nt (Cs (Ka rfl ?_)))
      refine Ns 12 rfl (v' := .string (S (canon (val ((hshL l c).take 0))))) (congrArg (fun l => Value.string (S l)) (by (rw [List.take_zero, show val [] = 0 from rfl, canon_nil.2 rfl]))) ?_
      refine Nt (Cq (Cs (Ka rfl (Nt (Cb ?_)))))
      refine Lp (σ := Nat) [(1, _), (2, _), (6, _), (8, _), (11, _)] (fun gq => [(13, .int .i64 (gq : Int)), (12, .string (S (canon (val ((hshL l c).take gq)))))]) (fun gq => gq ≤ 32) (fun gq => 32 - gq) (0) (S5 rfl rfl rfl rfl rfl) (S2 rfl rfl) (by (try dsimp only); omega) ?_
      rintro j hinv2; (try dsimp only at hinv2 ⊢)
      obtain hj := hinv2
      refine Cq (Cs (Km rfl (Km rfl (Kq rfl (rd_slen rfl rfl u9) (Kq rfl (rd_lss rfl rfl rfl) (Nt ?_))))))
      refine Cd rfl (fun hc57 => ?_) (fun hc57 => ?_)
      ·(try simp only [sB] at hc57)
       have hjl : j < (hshL l c).length := by omega
       have hX := h_part (l := l) (c := c) (j := j)
       have hbt := ((hshL l c).getD j default).toNat_lt
       have hsc := val_take_succ (hshL l c) j hjl
       refine Ck (Xa (Cq (Cb ?_)))
       refine Cf [0, 1, 2, 3, 4, 5, 6, 7, 8] [] [0, 1, 0, 0, 0, 0, 1, 1, 0] (by kernel_rfl) (by kernel_rfl) rfl ?_
       refine Kj rfl (Rm rfl rfl) ?_
       refine Jv rfl rfl rfl rfl rfl (fun ext => Oc rfl rfl (Kv fun w hS => (by have := rtimes_c (w := w) (a := canon (val ((hshL l c).take j))) (b := [1, 0]) (can_l (by omega)) (by simp); rw [val_canon, val_256] at this; exact this))) ?_
       refine Kj rfl (Rm rfl rfl) (Kj rfl (Rm rfl rfl) (Kj rfl (rd_sidxN rfl rfl rfl u9 (by assumption)) (Kj rfl (rd_conv8 rfl rfl u5 u49 (by decide)) ?_)))
       refine Jv rfl rfl rfl rfl rfl (fun ext => Oc rfl rfl (Kv fun w hS => rof_c (n := ((hshL l c).getD j default).toNat) (by omega))) ?_
       refine Jv rfl rfl rfl rfl rfl (fun ext => Oc rfl rfl (Kv fun w hS => (by have := plus_c (w := w) (a := canon (val ((hshL l c).take j) * 256)) (b := canon ((hshL l c).getD j default).toNat) (by have := can_l (n := val ((hshL l c).take j) * 256) (by omega); omega) (by have := can_l (n := ((hshL l c).getD j default).toNat) (by omega); omega); rw [val_canon, val_canon, ← hsc] at this; exact this))) ?_
       refine Kj rfl (Ra rfl rfl) ?_
       refine WJ.nil ?_
       refine Nn (Xd (Xa (Cg (Km rfl (Kq rfl (Rz rfl rfl rfl (by omega)) (Ka rfl (Nn ?_)))))))
       refine Ly (j + 1) (by (try dsimp only); omega) (S5 rfl rfl rfl rfl rfl) (by refine (Sc ?_ (Sc ?_ (S0 _))) <;> (rfl)) ?_ (by (exact fun _ h => h))
       (try dsimp only)
       omega
      ·(try simp only [sB] at hc57)
       refine Cx (Xc (Xc (Xe ?_)))
       obtain rfl : j = 32 := by omega
       rw [show (hshL l c).take 32 = hshL l c from List.take_of_length_le (by omega)]
       refine Xa (Cs (Km rfl (Km rfl (Kq rfl (Fa (q := 0) rfl rfl u24 rfl rfl) (Kq rfl (Ld rfl rfl .tc u22) ?_)))))
       refine Ku rfl (Oc rfl rfl (Kv fun w hS => (by have := rmexp_c (w := w) (a := canon (val (hshL l c))) (x := canon (cofG g)) (m := g.1) hm8; rw [mexp_h hf.1 (fun h => hc26 (Or.inl h)) (cof_big hf.1)] at this; exact this))) ?_
       refine Km rfl (Kq rfl (Re rfl rfl rfl) (Kq rfl (Re rfl rfl rfl) (Ka rfl (Ka rfl (Nt ?_)))))
       refine WC.joinP (σ := Unit) [(1, _), (2, _), (6, _), (8, _), (14, _)] (fun gq => [(81, .bool (decide (canon (hshV g l c) ≠ [] ∧ canon (hshV g l c) ≠ [1])))]) (fun gq => True) (S5 rfl rfl rfl rfl rfl) ?_ ?_
       ·skip
        refine Cg (Km rfl (Kq rfl (rd_sne rfl rfl rfl) (Km rfl ?_)))
        refine Nb 78 rfl (fun hg78 => ?_) (fun hg78 => ?_)
        ·(try simp only [sB] at hg78)
         refine Km rfl (Kq rfl (rd_sne rfl rfl rfl) (Kq rfl (Rp rfl rfl rfl) (Nn ?_)))
         refine WX.joinP (()) (S5 rfl rfl rfl rfl rfl) (by refine (Sc ?_ (S0 _)) <;> ((refine slot_b rfl ?_; (try dsimp only); (simp [*]; done)))) ?_ (by (exact fun _ h => h))
         (try dsimp only)
         done
        ·(try simp only [sB] at hg78)
         refine Kt rfl (Kt rfl (Kq rfl (Rq rfl rfl rfl) (Nn ?_)))
         refine WX.joinP (()) (S5 rfl rfl rfl rfl rfl) (by refine (Sc ?_ (S0 _)) <;> ((refine slot_b rfl ?_; (try dsimp only); (simp [*]; done)))) ?_ (by (exact fun _ h => h))
         (try dsimp only)
         done
       ·rintro _ hmeet; (try dsimp only at hmeet ⊢)
        refine Cd rfl (fun hc81 => ?_) (fun hc81 => ?_)
        ·(try simp only [sB] at hc81)
         have hr2 : hshF g l 64 0 = some (hshV g l c) := by rw [← hi, hshF_yes hcl (hshV_if.1 hc81)]
         refine Cs (Km rfl (Ka rfl (Ka rfl (Nt (Ce (Xf (Xb (Xb (Xf (Xb ?_))))))))))
         exact R2 rfl rfl rfl (by rw [hr, hr2]; rfl)
        ·(try simp only [sB] at hc81)
         have hi2 : hshF g l (64 - (c + 1)) (c + 1) = hshF g l 64 0 := by rw [← hi, hshF_no hcl (fun h => hc81 (hshV_if.2 h))]
         refine Ck (Xd (Xa (Cg (Km rfl (Kq rfl (rd_addW (c := 1) rfl rfl rfl (by omega)) (Ka rfl (Nn ?_)))))))
         refine Ly (c + 1) (by (try dsimp only); omega) (S3 rfl rfl rfl) (by refine (Sc ?_ (S0 _)) <;> (rfl)) ?_ (by (exact fun _ h => h))
         (try dsimp only)
         exact ⟨by omega, hi2⟩
     ·(try simp only [sB] at hc40)
      refine Cx (Xc (Xc (Xe ?_)))
      obtain rfl : c = 64 := by omega
      have hr2 : hshF g l 64 0 = none := by rw [← hi]; rfl
      refine Xa (Cs (Ka rfl (Ka rfl (Nt (Ce ?_)))))
      exact R2 rfl rfl rfl (by rw [hr, hr2]; rfl)
theorem pexp_c {g : Gp} {x : Bs} {z : Zs} {w : World} (hm8 : g.1.length ≤ 8) :
  Cw 29 #[gV g, .string (S x), zV z] w (NE (prodS g [x] [z])) := by
 refine En [] [(0, gV g), (1, .string (S x)), (2, zV z)] Tryz.func29 rfl Tryz.ntmps29 rfl (Ac rfl (Ac rfl (Ac rfl (An _)))) Fn ?_
 refine Cs ?_
 refine Kh rfl (Oy rfl rfl) ?_
 intro b3
 refine Kh rfl (Oy rfl rfl) ?_
 intro b5
 refine Ka rfl (Ka rfl (Nt (Cs ?_)))
 refine Kq rfl (lda rfl rfl .tc u24 rfl ?_) ?_
 ·kernel_rfl
 refine Km rfl ?_
 refine Kh rfl (og_bs1 rfl rfl u64 (by kernel_rfl : _ = some (some (.string (S [])), 1, 16)) rfl (by simp only [List.map]; rfl) rfl rfl ?_ (by decide)) ?_
 ·simp [Value.cells]
 intro b10
 refine Kq rfl (lda rfl rfl .tc u61 rfl ?_) ?_
 ·kernel_rfl
 refine Kh rfl (og_bsN rfl rfl u62 (by kernel_rfl : _ = some (some (.agg #[.bool false, .string (S [])]), 2, 24)) (by kernel_rfl) (by decide) rfl rfl (by (simp [Value.cells]; done)) (by (exact cells_one _)) (by decide)) ?_
 intro b12
 refine Ku rfl (Oc rfl rfl (Kv fun w hS => pproduct_c (g := g) (l := [x]) (es := [z]) (by (exact hS.os)) (by (exact hS.os)) (by (simp <;> omega)) (by (simp <;> omega)) (by assumption))) ?_
 refine Kq rfl (Re rfl rfl rfl) (Kq rfl (Re rfl rfl rfl) (Ka rfl (Ka rfl (Nt (Ce ?_)))))
 exact R2 rfl rfl rfl (by rfl)
def bsmS (k : PK) (s : Bs) (l : List Bs) : Bs × Int := if ¬ (∀ x ∈ l, okN x) then ([], 3) else bseS k s
theorem bsm_yes {k : PK} {s : Bs} {l : List Bs} (h : ∀ x ∈ l, okN x) : bsmS k s l = bseS k s := by rw [bsmS, if_neg (fun hh => hh h)]
theorem bsm_no {k : PK} {s : Bs} {l : List Bs} (h : ¬ ∀ x ∈ l, okN x) : bsmS k s l = ([], 3) := by rw [bsmS, if_pos h]
theorem nym_err {k : PK} {s x : Bs} (h : (bsmS k s [x]).2 ≠ 0) : nymS k s x = ([], (bsmS k s [x]).2) := by
 by_cases hx : okN x
 ·have e : bsmS k s [x] = bseS k s := bsm_yes (by simpa using hx)
  rw [e] at h ⊢; rw [nymS, if_neg (fun h => h hx), if_pos h]
 ·rw [bsm_no (by simpa using hx), nymS, if_pos hx]
theorem chkK_g {k : PK} (h : chkK k = 0) : chkG k.1 = 0 := by
 unfold chkK at h; split at h
 ·simp at h
 ·split at h
  ·rename_i h2; exact absurd h h2
  ·rename_i h2; exact Decidable.not_not.1 h2
theorem psbase_c {k : PK} {s : Bs} {l : List Bs} {a : Option Addr} {c : Nat} {w : World} {ok : Nat → Prop} (hF1 : (Fact.sl a (strs l)).holds ok w) (hm8 : k.1.1.length ≤ 8) (hs : s.length ≤ 140737488351232) (hl : l.length ≤ 100000) (hT : Tab w) :
  Cw 21 #[pkV k, .string (S s), .slice a l.length c] w (NE (bsmS k s l)) := by
 refine En [Fact.sl a (strs l)] [(0, pkV k), (1, .string (S s)), (2, .slice a l.length c)] Tryz.func21 rfl Tryz.ntmps21 rfl (Ac rfl (Ac rfl (Ac rfl (An _)))) (Fc (fact_any hF1) Fn) ?_
 refine Cs ?_
 refine Kh rfl (Oy rfl rfl) ?_
 intro b3
 refine Ka rfl (Ka rfl (Nt (Cq (Cs (Km rfl (Kq rfl (rd_len rfl rfl u64) (Km rfl (Nt (Cb ?_)))))))))
 refine Lp (σ := Nat) [(1, _), (3, _), (13, _), (14, _)] (fun gq => [(15, .int .i64 (gq : Int))]) (fun gq => gq ≤ l.length ∧ ∀ x ∈ l.take gq, okN x) (fun gq => l.length - gq) (0) (S4 rfl rfl rfl rfl) (S1 rfl) (by (try dsimp only); exact ⟨Nat.zero_le _, by simp⟩) ?_
 rintro i hinv1; (try dsimp only at hinv1 ⊢)
 obtain ⟨hi, hok⟩ := hinv1
 refine Cs (Kq rfl (rd_lss rfl rfl rfl) (Nt (Cq ?_)))
 refine Cd rfl (fun hc16 => ?_) (fun hc16 => ?_)
 ·(try simp only [sB] at hc16)
  have hil : i < l.length := by omega
  refine Ck (Xa (Cq (Cb (Cs ?_))))
  refine Kq rfl (Ib rfl rfl rfl u64 (by omega) (by (rw [List.length_map]; omega))) ?_
  refine Kq rfl (ldm rfl rfl u22 rfl (by assumption)) ?_
  refine Ka rfl (Nt (Cs (Km rfl ?_)))
  refine Ku rfl (Oc rfl rfl (Kv fun w hS => valid_c (a := l.getD i default))) ?_
  refine Kq rfl (Rt rfl rfl) (Nt ?_)
  refine Cd rfl (fun hc21 => ?_) (fun hc21 => ?_)
  ·(try simp only [sB] at hc21)
   have hr : bsmS k s l = ([], 3) := by rw [bsmS, if_pos (fun h => (by simpa using hc21 : ¬ okN (l.getD i default)) (h _ (getD_mem l i hil)))]
   refine Cs (Ka rfl (Ka rfl (Nt (Ce (Xf (Xb (Xb (Xf (Xb ?_)))))))))
   exact R2 rfl rfl rfl (by rw [hr]; rfl)
  ·(try simp only [sB] at hc21)
   have hyy : okN (l.getD i default) := by simpa using hc21
   refine Ck (Xd (Xa (Cg (Kq rfl (Rz rfl rfl rfl (by omega)) (Km rfl (Nn ?_))))))
   refine Ly (i + 1) (by (try dsimp only); omega) (S4 rfl rfl rfl rfl) (by refine (Sc ?_ (S0 _)) <;> (rfl)) ?_ (by (exact fun _ h => h))
   (try dsimp only)
   exact ⟨hil, all_take hil hok hyy⟩
 ·(try simp only [sB] at hc16)
  refine Cx (Xc (Xc (Xe ?_)))
  obtain rfl : i = l.length := by omega
  rw [List.take_length] at hok
  have hb : bsmS k s l = bseS k s := by rw [bsmS, if_neg (fun h => h hok)]
  refine Xa (Cq (Cs (Kq rfl (Fa (q := 0) rfl rfl u66 rfl rfl) ?_)))
  refine Kq rfl (ldp rfl rfl .tc u26 rfl (by kernel_rfl : _ = some 4) (by rfl) (by rfl)) ?_
  refine Ku rfl (Oc rfl rfl (Kv fun w hS => pdcheck_c (k := k) (by assumption))) ?_
  refine Ka rfl (Nt (Cs (Km rfl (Kq rfl (rd_neq rfl rfl rfl) (Nt ?_)))))
  refine Cd rfl (fun hc27 => ?_) (fun hc27 => ?_)
  ·(try simp only [sB] at hc27)
   have hr : bsmS k s l = ([], chkK k) := by rw [hb, bseS, if_pos (by simpa using hc27)]
   refine Cs (Km rfl (Ka rfl (Ka rfl (Nt (Ce (Xb ?_))))))
   exact R2 rfl rfl rfl (by rw [hr]; rfl)
  ·(try simp only [sB] at hc27)
   have hK : chkK k = 0 := by simpa using hc27
   have hg := chkK_g hK
   refine Ck (Xa (Cq (Cs (Kq rfl (Fa (q := 0) rfl rfl u66 rfl rfl) (Kq rfl (Fa (q := 0) rfl rfl u26 rfl rfl) (Kq rfl (Fa (q := 1) rfl rfl u24 rfl rfl) (Kq rfl (Ld rfl rfl .tc u22) ?_)))))))
   refine Kq rfl (rd_seq rfl rfl rfl) (Nt ?_)
   refine Cd rfl (fun hc33 => ?_) (fun hc33 => ?_)
   ·(try simp only [sB] at hc33)
    have hr : bsmS k s l = ([], 1) := by rw [hb, bseS, if_neg (fun h => h hK), if_pos (by simpa using hc33)]
    refine Cs (Ka rfl (Ka rfl (Nt (Ce (Xb ?_)))))
    exact R2 rfl rfl rfl (by rw [hr]; rfl)
   ·(try simp only [sB] at hc33)
    have ho : k.1.2 ≠ [] := by simpa using hc33
    refine Ck (Xa (Cq (Cs (Km rfl (Kq rfl (rd_slen rfl rfl u9) (Kq rfl (rd_gtr rfl rfl rfl) (Nt ?_)))))))
    refine Cd rfl (fun hc36 => ?_) (fun hc36 => ?_)
    ·(try simp only [sB] at hc36)
     have hr : bsmS k s l = ([], 5) := by rw [hb, bseS, if_neg (fun h => h hK), if_neg ho, if_pos (by omega)]
     refine Cs (Ka rfl (Ka rfl (Nt (Ce (Xb ?_)))))
     exact R2 rfl rfl rfl (by rw [hr]; rfl)
    ·(try simp only [sB] at hc36)
     have hsl : ¬ 65536 < s.length := by omega
     refine Ck (Xa (Cs (Kq rfl (Fa (q := 0) rfl rfl u66 rfl rfl) (Kq rfl (Fa (q := 0) rfl rfl u26 rfl rfl) ?_))))
     refine Kq rfl (ldp rfl rfl .tc u24 rfl (by kernel_rfl : _ = some 2) (by rfl) (by rfl)) ?_
     refine Km rfl ?_
     refine Kq rfl (rd_cat rfl rfl rfl ?_) ?_
     ·((try simp only [List.length_append, List.length_cons, List.length_nil]); omega)
     refine Ns 42 rfl (v' := .string (S (scoB ++ s))) (congrArg (fun l => Value.string (S l)) (by rfl)) ?_
     refine Ku rfl (Oc rfl rfl (Kv fun w hS => pghash_c (g := k.1) (l := scoB ++ s) (by exact hm8) (by simp [scoB]; omega) (by exact tab_st hT hS))) ?_
     refine Km rfl (Kq rfl (Re rfl rfl rfl) (Kq rfl (Re rfl rfl rfl) (Ka rfl (Ka rfl (Nt (Cq ?_))))))
     refine WC.joinP (σ := Unit) [(11, _), (12, _)] (fun gq => [(55, .bool (decide ((hshS k.1 (scoB ++ s)).2 = 0 ∧ ¬ elG k.1 (hshS k.1 (scoB ++ s)).1)))]) (fun gq => True) (S2 rfl rfl) ?_ ?_
     ·skip
      refine Cg (Km rfl (Kq rfl (rd_eql rfl rfl rfl) (Km rfl ?_)))
      refine Nb 48 rfl (fun hg48 => ?_) (fun hg48 => ?_)
      ·(try simp only [sB] at hg48)
       refine Kq rfl (Fa (q := 0) rfl rfl u66 rfl rfl) (Kq rfl (Fa (q := 0) rfl rfl u26 rfl rfl) ?_)
       refine Kq rfl (ldp rfl rfl .tc u24 rfl (by kernel_rfl : _ = some 2) (by rfl) (by rfl)) ?_
       refine Km rfl ?_
       refine Ku rfl (Oc rfl rfl (Kv fun w hS => pwhas_c (g := k.1) (x := (hshS k.1 (scoB ++ s)).1) (by assumption))) ?_
       refine Ns 53 rfl (v' := .bool (decide (elG k.1 (hshS k.1 (scoB ++ s)).1))) (congrArg Value.bool (by simp [hg])) ?_
       refine Kq rfl (Rt rfl rfl) (Kq rfl (Rp rfl rfl rfl) (Nn ?_))
       refine WX.joinP (()) (S2 rfl rfl) (by refine (Sc ?_ (S0 _)) <;> ((refine slot_b rfl ?_; (try dsimp only); (simp [*]; done)))) ?_ (by (exact fun _ h => h))
       (try dsimp only)
       done
      ·(try simp only [sB] at hg48)
       refine Kt rfl (Kt rfl (Kt rfl (Kt rfl (Kt rfl (Kt rfl (Kq rfl (Rq rfl rfl rfl) (Nn ?_)))))))
       refine WX.joinP (()) (S2 rfl rfl) (by refine (Sc ?_ (S0 _)) <;> ((refine slot_b rfl ?_; (try dsimp only); (simp [*]; done)))) ?_ (by (exact fun _ h => h))
       (try dsimp only)
       done
     ·rintro _ hmeet; (try dsimp only at hmeet ⊢)
      refine Cd rfl (fun hc55 => ?_) (fun hc55 => ?_)
      ·(try simp only [sB] at hc55)
       have hr : bsmS k s l = ([], 13) := by rw [hb, bseS, if_neg (fun h => h hK), if_neg ho, if_neg hsl, if_pos hc55]
       refine Cs (Ka rfl (Ka rfl (Nt (Ce (Xb ?_)))))
       exact R2 rfl rfl rfl (by rw [hr]; rfl)
      ·(try simp only [sB] at hc55)
       have hr : bsmS k s l = hshS k.1 (scoB ++ s) := by rw [hb, bseS, if_neg (fun h => h hK), if_neg ho, if_neg hsl, if_neg hc55]
       refine Ck (Xa (Cs (Km rfl (Km rfl (Ka rfl (Ka rfl (Nt (Ce ?_))))))))
       exact R2 rfl rfl rfl (by rw [hr]; rfl)
theorem psBase_c {k : PK} {s : Bs} {w : World} (hm8 : k.1.1.length ≤ 8) (hs : s.length ≤ 140737488351232) (hT : Tab w) :
  Cw 9 #[pkV k, .string (S s)] w (NE (bseS k s)) := by
 refine En [] [(0, pkV k), (1, .string (S s))] Tryz.func9 rfl Tryz.ntmps9 rfl (Ac rfl (Ac rfl (An _))) Fn ?_
 refine Cs ?_
 refine Kh rfl (Oy rfl rfl) ?_
 intro b2
 refine Ka rfl (Ka rfl (Nt (Cs ?_)))
 refine Kq rfl (lda rfl rfl .tc u26 rfl ?_) ?_
 ·kernel_rfl
 refine Kq rfl (Kb [[.string (S []), .string (S []), .string (S []), .string (S [])]] rfl rfl) (Km rfl ?_)
 refine Ku rfl (Oc rfl rfl (Kv fun w hS => (by have := psbase_c (w := w) (ok := fun _ => True) (k := k) (s := s) (l := []) (a := none) (c := 0) sl_nil hm8 hs (by simp) (tab_st hT hS); rw [bsm_yes (by simp)] at this; exact this))) ?_
 refine Kq rfl (Re rfl rfl rfl) (Kq rfl (Re rfl rfl rfl) (Ka rfl (Ka rfl (Nt (Ce ?_)))))
 exact R2 rfl rfl rfl (by rfl)
theorem psnym_c {k : PK} {s x : Bs} {w : World} (hm8 : k.1.1.length ≤ 8) (hs : s.length ≤ 140737488351232) (hT : Tab w) :
  Cw 17 #[pkV k, .string (S s), .string (S x)] w (NE (nymS k s x)) := by
 refine En [] [(0, pkV k), (1, .string (S s)), (2, .string (S x))] Tryz.func17 rfl Tryz.ntmps17 rfl (Ac rfl (Ac rfl (Ac rfl (An _)))) Fn ?_
 refine Cs ?_
 refine Kh rfl (Oy rfl rfl) ?_
 intro b3
 refine Ka rfl (Ka rfl (Nt (Cs ?_)))
 refine Kq rfl (lda rfl rfl .tc u26 rfl ?_) ?_
 ·kernel_rfl
 refine Kq rfl (Kb [[.string (S []), .string (S []), .string (S []), .string (S [])]] rfl rfl) (Km rfl (Km rfl ?_))
 refine Kh rfl (og_bs1 rfl rfl u64 (by kernel_rfl : _ = some (some (.string (S [])), 1, 16)) rfl (by simp only [List.map]; rfl) rfl rfl ?_ (by decide)) ?_
 ·simp [Value.cells]
 intro b15
 refine Ku rfl (Oc rfl rfl (Kv fun w hS => psbase_c (k := k) (s := s) (l := [x]) (by (exact hS.os)) (by assumption) (by assumption) (by (simp <;> omega)) (by (exact tab_st hT hS)))) ?_
 refine Km rfl (Kq rfl (Re rfl rfl rfl) (Kq rfl (Re rfl rfl rfl) (Ka rfl (Ka rfl (Nt (Cq (Cs (Km rfl (Kq rfl (rd_neq rfl rfl rfl) (Nt ?_))))))))))
 refine Cd rfl (fun hc20 => ?_) (fun hc20 => ?_)
 ·(try simp only [sB] at hc20)
  have hr := nym_err (show (bsmS k s [x]).2 ≠ 0 by simpa using hc20)
  refine Cs (Km rfl (Ka rfl (Ka rfl (Nt (Ce (Xb ?_))))))
  exact R2 rfl rfl rfl (by rw [hr]; rfl)
 ·(try simp only [sB] at hc20)
  have h0 : (bsmS k s [x]).2 = 0 := by simpa using hc20
  have hx : okN x := Decidable.byContradiction fun hx => by
   rw [bsm_no (by simpa using hx)] at h0; exact absurd h0 (by decide)
  have hb : bsmS k s [x] = bseS k s := bsm_yes (by simpa using hx)
  have hr : nymS k s x = prodS k.1 [(bseS k s).1] [fromZ x] := by rw [nymS, if_neg (fun h => h hx), if_neg (fun h => h (by rw [← hb]; exact h0))]
  refine Ck (Xa (Cq ?_))
  refine Cf [3, 4, 0, 1, 2, 5, 6, 7, 8, 9] [] [0, 0, 0, 0, 1, 1, 0, 0, 0, 0] (by kernel_rfl) (by kernel_rfl) rfl ?_
  refine Kj rfl (Rm rfl rfl) ?_
  refine Jv rfl rfl rfl rfl rfl (fun ext => Oc rfl rfl (Kv fun w hS => zfrom_c (a := x))) ?_
  refine Kj rfl (Fa (q := 0) rfl rfl u26 rfl rfl) ?_
  refine Kj rfl (ldp rfl rfl .tc u24 rfl (by kernel_rfl : _ = some 2) (by rfl) (by rfl)) ?_
  refine Kj rfl (Rm rfl rfl) ?_
  refine Jv rfl rfl rfl rfl rfl (fun ext => Oc rfl rfl (Kv fun w hS => pexp_c (g := k.1) (x := (bsmS k s [x]).1) (z := fromZ x) (by assumption))) ?_
  refine Kj rfl (Re rfl rfl rfl) (Kj rfl (Re rfl rfl rfl) (Kj rfl (Ra rfl rfl) (Kj rfl (Ra rfl rfl) ?_)))
  refine WJ.nil ?_
  refine Nt (Ce ?_)
  exact R2 rfl rfl rfl (by rw [hr, hb]; rfl)
end Go.Proofs.YtddoigmffkmpcaaGreatDoor
namespace Go.Proofs.YtddoigmffkmpcaaGreatDoor
set_option linter.unusedSimpArgs false
set_option linter.unusedVariables false
open Go.ChangeShapes Go.WideShapes Go.ChangeAt Go.RowKit
section
variable {H : Type} {enc : TypeId × Value → H} {P : Program} {w : World} {spare : Nat → Bool} {held : Bool}
end
end Go.Proofs.YtddoigmffkmpcaaGreatDoor
namespace Go.Proofs.YtddoigmffkmpcaaGreatDoor
set_option linter.unusedSimpArgs false
set_option linter.unusedVariables false
open Go.ChangeShapes Go.WideShapes Go.ChangeAt Go.RowKit
structure Sl (α : Type) where
 a : Option Addr
 l : List α
 cap : Nat
abbrev Sl.val {α : Type} (s : Sl α) : Value := .slice s.a s.l.length s.cap
section
variable {H : Type} {enc : TypeId × Value → H} {P : Program} {w : World} {spare : Nat → Bool} {held : Bool} {fuel : Nat} {t e : TypeId} {cs : List Value} {x : DataW H × List MemPlace}
theorem mapM_all {α β : Type} {f : α → Option β} : ∀ {l : List α} {r : List β}, l.mapM f = some r → ∀ y ∈ l, ∃ z, f y = some z
 | [], _, _, y, hy => by cases hy
 | a :: l, r, h, y, hy => by
  rw [List.mapM_cons] at h
  cases hf : f a with
  | none => simp [hf] at h
  | some z =>
   cases hr : l.mapM f with
   | none => simp [hf, hr] at h
   | some r' =>
    rcases List.mem_cons.1 hy with rfl | hy
    ·exact ⟨z, hf⟩
    ·exact mapM_all hr y hy
theorem op_struct {fs : Array Field} (ht : P.underlying t = some (.struct fs)) (h : DataW.trod enc P w 0 spare held fuel t cs = some x) :
  cs.length = P.cellsOf t ∧ ∃ m, ∀ f ∈ fs.toList, ∃ y, DataW.trod enc P w 0 spare held m f.type ((cs.drop f.offset).take (P.cellsOf f.type)) = some y := by
 cases fuel with
 | zero => simp [DataW.trod] at h
 | succ n =>
  simp only [DataW.trod, ht] at h
  split at h
  ·rename_i hl
   refine ⟨hl, n, fun f hf => ?_⟩
   obtain ⟨xs, hxs, _⟩ := Option.map_eq_some_iff.1 h
   exact mapM_all hxs f hf
  ·cases h
end
end Go.Proofs.YtddoigmffkmpcaaGreatDoor
namespace Go.Proofs.YtddoigmffkmpcaaGreatDoor
set_option linter.unusedSimpArgs false
set_option linter.unusedVariables false
open Go.ChangeShapes Go.WideShapes Go.ChangeAt Go.RowKit
def Wt {H : Type} (P : Program) (t : TypeId) (d : DataW H) : Prop := ∀ n ∈ d.weights P t, n ≤ 140737488351232
theorem wt_all {H : Type} {P : Program} {ts : List TypeId} {ds : List (DataW H)} (h : (DataW.weightsEach P ts ds).all (· ≤ reachBytes) = true) {j : Nat} {t : TypeId} {d : DataW H} (ht : ts[j]? = some t) (hd : ds[j]? = some d) : Wt P t d := fun n hn => by
 have := List.all_eq_true.1 h n (DataW.weights_mem_each ht hd n hn)
 exact of_decide_eq_true this
theorem mapM_get {α β : Type} {f : α → Option β} : ∀ {l : List α} {r : List β}, l.mapM f = some r → ∀ (i : Nat) y, l[i]? = some y → ∃ z, f y = some z ∧ r[i]? = some z
 | [], _, _, i, y, hy => by simp at hy
 | a :: l, r, h, i, y, hy => by
  rw [List.mapM_cons] at h
  cases hf : f a with
  | none => simp [hf] at h
  | some z =>
   cases hr : l.mapM f with
   | none => simp [hf, hr] at h
   | some r' =>
    simp [hf, hr] at h
    subst h
    cases i with
    | zero => simp at hy; subst hy; exact ⟨z, hf, rfl⟩
    | succ i => simp at hy; simpa using mapM_get hr i y hy
section
variable {H : Type} {enc : TypeId × Value → H} {P : Program} {w : World} {spare : Nat → Bool} {held : Bool} {fuel : Nat} {t e : TypeId} {cs : List Value} {x : DataW H × List MemPlace}
theorem opz_str (ht : P.underlying t = some .string) (h : DataW.trod enc P w 0 spare held fuel t cs = some x) (hz : Wt P t x.1) : ∃ s : List UInt8, cs = [.string (S s)] ∧ s.length ≤ 140737488351232 := by
 cases fuel with
 | zero => simp [DataW.trod] at h
 | succ n =>
  simp only [DataW.trod, ht] at h
  split at h <;> simp_all
  rename_i s
  obtain ⟨h1, rfl⟩ := h
  refine ⟨s.data.toList, (S_data s).symm, hz _ ?_⟩
  simp [DataW.weights]
theorem opz_struct {fs : Array Field} (ht : P.underlying t = some (.struct fs)) (h : DataW.trod enc P w 0 spare held fuel t cs = some x) (hz : Wt P t x.1) :
  cs.length = P.cellsOf t ∧ ∃ m, ∀ (j : Nat) f, fs.toList[j]? = some f → ∃ y, DataW.trod enc P w 0 spare held m f.type ((cs.drop f.offset).take (P.cellsOf f.type)) = some y ∧ Wt P f.type y.1 := by
 cases fuel with
 | zero => simp [DataW.trod] at h
 | succ n =>
  simp only [DataW.trod, ht] at h
  split at h
  ·rename_i hl
   refine ⟨hl, n, fun j f hf => ?_⟩
   obtain ⟨xs, hxs, rfl⟩ := Option.map_eq_some_iff.1 h
   obtain ⟨z, h1, h2⟩ := mapM_get hxs j f hf
   refine ⟨z, h1, fun n hn => hz n ?_⟩
   simp only [DataW.weights, ht]
   exact DataW.weights_mem_each (j := j) (by rw [List.getElem?_map, hf]; rfl) (by rw [List.getElem?_map, h2]; rfl) n hn
  ·cases h
end
end Go.Proofs.YtddoigmffkmpcaaGreatDoor
namespace Go.Proofs.YtddoigmffkmpcaaGreatDoor
open Go.RowKit
set_option linter.unusedSimpArgs false
set_option linter.unusedVariables false
set_option maxHeartbeats 600000
set_option maxRecDepth 20000
def unmOk (k : IK) (x : Bs) (ws : List Zs) (n : Nat) : Prop := (okN k.g.1 ∧ okN k.g.2 ∧ okN k.h ∧ okN x) ∧ ∀ z ∈ ws.take n, okZ z
instance (k : IK) (x : Bs) (ws : List Zs) (n : Nat) : Decidable (unmOk k x ws n) := inferInstanceAs (Decidable (_ ∧ _))
def shortP (n : Int) (l : List Bs) : Prop := ∀ x ∈ l, (x.length : Int) ≤ n
instance (n : Int) (l : List Bs) : Decidable (shortP n l) := inferInstanceAs (Decidable (∀ x ∈ l, _))
def fewK (k : IK) : Prop := shortP 8 [k.g.1, k.g.2] ∧ shortP 9 [k.z, k.s, k.u, k.h] ∧ (k.r.length : Int) ≤ 6 ∧ shortP 9 k.r ∧ (k.name.length : Int) ≤ 60
instance (k : IK) : Decidable (fewK k) := inferInstanceAs (Decidable (_ ∧ _))
theorem rpsbase_c {k : PK} {s : Bs} {w : World} (hm8 : k.1.1.length ≤ 8) (hs : s.length ≤ 140737488351232) :
  Cw 10 #[pkV k, .string (S s)] w (NE (bseS k s)) := by
 refine En [] [(0, pkV k), (1, .string (S s))] Tryz.func10 rfl Tryz.ntmps10 rfl (Ac rfl (Ac rfl (An _))) Fn ?_
 refine Cs ?_
 refine Kh rfl (Oy rfl rfl) ?_
 intro b2
 refine Ka rfl (Ka rfl (Nt (Cq (Cs ?_))))
 refine Kq rfl (lda rfl rfl .tc u26 rfl ?_) ?_
 ·kernel_rfl
 refine Ku rfl (Oc rfl rfl (Kv fun w hS => rpdcheck_c (k := k) (by assumption))) ?_
 refine Ka rfl (Nt (Cs (Km rfl (Kq rfl (rd_neq rfl rfl rfl) (Nt ?_)))))
 refine Cd rfl (fun hc12 => ?_) (fun hc12 => ?_)
 ·(try simp only [sB] at hc12)
  have hr : bseS k s = ([], chkK k) := by rw [bseS, if_pos (by simpa using hc12)]
  refine Cs (Km rfl (Ka rfl (Ka rfl (Nt (Ce (Xb ?_))))))
  exact R2 rfl rfl rfl (by rw [hr]; rfl)
 ·(try simp only [sB] at hc12)
  have hK : chkK k = 0 := by simpa using hc12
  have hg := chkK_g hK
  refine Ck (Xa (Cq (Cs (Kq rfl (Fa (q := 0) rfl rfl u26 rfl rfl) (Kq rfl (Fa (q := 1) rfl rfl u24 rfl rfl) (Kq rfl (Ld rfl rfl .tc u22) ?_))))))
  refine Kq rfl (rd_seq rfl rfl rfl) (Nt ?_)
  refine Cd rfl (fun hc17 => ?_) (fun hc17 => ?_)
  ·(try simp only [sB] at hc17)
   have hr : bseS k s = ([], 1) := by rw [bseS, if_neg (fun h => h hK), if_pos (by simpa using hc17)]
   refine Cs (Ka rfl (Ka rfl (Nt (Ce (Xb ?_)))))
   exact R2 rfl rfl rfl (by rw [hr]; rfl)
  ·(try simp only [sB] at hc17)
   have ho : k.1.2 ≠ [] := by simpa using hc17
   refine Ck (Xa (Cq (Cs (Km rfl (Kq rfl (rd_slen rfl rfl u9) (Kq rfl (rd_gtr rfl rfl rfl) (Nt ?_)))))))
   refine Cd rfl (fun hc20 => ?_) (fun hc20 => ?_)
   ·(try simp only [sB] at hc20)
    have hr : bseS k s = ([], 5) := by rw [bseS, if_neg (fun h => h hK), if_neg ho, if_pos (by omega)]
    refine Cs (Ka rfl (Ka rfl (Nt (Ce (Xb ?_)))))
    exact R2 rfl rfl rfl (by rw [hr]; rfl)
   ·(try simp only [sB] at hc20)
    have hsl : ¬ 65536 < s.length := by omega
    refine Ck (Xa (Cs (Kq rfl (Fa (q := 0) rfl rfl u26 rfl rfl) ?_)))
    refine Kq rfl (ldp rfl rfl .tc u24 rfl (by kernel_rfl : _ = some 2) (by rfl) (by rfl)) ?_
    refine Km rfl ?_
    refine Kq rfl (rd_cat rfl rfl rfl ?_) ?_
    ·((try simp only [List.length_append, List.length_cons, List.length_nil]); omega)
    refine Ns 25 rfl (v' := .string (S (scoB ++ s))) (congrArg (fun l => Value.string (S l)) (by rfl)) ?_
    refine Ku rfl (Oc rfl rfl (Kv fun w hS => rghash_c (g := k.1) (l := scoB ++ s) (by exact hm8) (by simp [scoB]; omega))) ?_
    refine Km rfl (Kq rfl (Re rfl rfl rfl) (Kq rfl (Re rfl rfl rfl) (Ka rfl (Ka rfl (Nt (Cq ?_))))))
    refine WC.joinP (σ := Unit) [(7, _), (8, _)] (fun gq => [(37, .bool (decide ((hshS k.1 (scoB ++ s)).2 = 0 ∧ ¬ elG k.1 (hshS k.1 (scoB ++ s)).1)))]) (fun gq => True) (S2 rfl rfl) ?_ ?_
    ·skip
     refine Cg (Km rfl (Kq rfl (rd_eql rfl rfl rfl) (Km rfl ?_)))
     refine Nb 31 rfl (fun hg31 => ?_) (fun hg31 => ?_)
     ·(try simp only [sB] at hg31)
      refine Kq rfl (Fa (q := 0) rfl rfl u26 rfl rfl) ?_
      refine Kq rfl (ldp rfl rfl .tc u24 rfl (by kernel_rfl : _ = some 2) (by rfl) (by rfl)) ?_
      refine Km rfl ?_
      refine Ku rfl (Oc rfl rfl (Kv fun w hS => rghas_c (g := k.1) (x := (hshS k.1 (scoB ++ s)).1) (by assumption))) ?_
      refine Ns 35 rfl (v' := .bool (decide (elG k.1 (hshS k.1 (scoB ++ s)).1))) (congrArg Value.bool (by simp [hg])) ?_
      refine Kq rfl (Rt rfl rfl) (Kq rfl (Rp rfl rfl rfl) (Nn ?_))
      refine WX.joinP (()) (S2 rfl rfl) (by refine (Sc ?_ (S0 _)) <;> ((refine slot_b rfl ?_; (try dsimp only); (simp [*]; done)))) ?_ (by (exact fun _ h => h))
      (try dsimp only)
      done
     ·(try simp only [sB] at hg31)
      refine Kt rfl (Kt rfl (Kt rfl (Kt rfl (Kt rfl (Kq rfl (Rq rfl rfl rfl) (Nn ?_))))))
      refine WX.joinP (()) (S2 rfl rfl) (by refine (Sc ?_ (S0 _)) <;> ((refine slot_b rfl ?_; (try dsimp only); (simp [*]; done)))) ?_ (by (exact fun _ h => h))
      (try dsimp only)
      done
    ·rintro _ hmeet; (try dsimp only at hmeet ⊢)
     refine Cd rfl (fun hc37 => ?_) (fun hc37 => ?_)
     ·(try simp only [sB] at hc37)
      have hr : bseS k s = ([], 13) := by rw [bseS, if_neg (fun h => h hK), if_neg ho, if_neg hsl, if_pos hc37]
      refine Cs (Ka rfl (Ka rfl (Nt (Ce (Xb ?_)))))
      exact R2 rfl rfl rfl (by rw [hr]; rfl)
     ·(try simp only [sB] at hc37)
      have hr : bseS k s = hshS k.1 (scoB ++ s) := by rw [bseS, if_neg (fun h => h hK), if_neg ho, if_neg hsl, if_neg hc37]
      refine Ck (Xa (Cs (Km rfl (Km rfl (Ka rfl (Ka rfl (Nt (Ce ?_))))))))
      exact R2 rfl rfl rfl (by rw [hr]; rfl)
abbrev smL (k : PK) (l : List Bs) : List Bs := l ++ [k.1.1, k.1.2, k.2.1, k.2.2]
def sml (k : PK) (s : Bs) (l : List Bs) : Prop := shortP 8 (smL k l) ∧ (s.length : Int) ≤ 200
instance (k : PK) (s : Bs) (l : List Bs) : Decidable (sml k s l) := inferInstanceAs (Decidable (_ ∧ _))
theorem small48n_c {k : PK} {s : Bs} {w : World} :
  Cw 7 #[pkV k, .string (S s), .slice none 0 0] w (.bool (decide (sml k s []))) := by
 have hsl : (smL k []).length = 4 := rfl
 refine En [] [(0, pkV k), (1, .string (S s)), (2, .slice none 0 0)] Tryz.func7 rfl Tryz.ntmps7 rfl (Ac rfl (Ac rfl (Ac rfl (An _)))) Fn ?_
 refine Cs ?_
 refine Kh rfl (Oy rfl rfl) ?_
 intro b3
 refine Ka rfl (Nt (Cq (Cs (Km rfl (Kq rfl (Fa (q := 0) rfl rfl u26 rfl rfl) (Kq rfl (Fa (q := 0) rfl rfl u24 rfl rfl) (Kq rfl (Ld rfl rfl .tc u22) ?_)))))))
 refine Kq rfl (Fa (q := 0) rfl rfl u26 rfl rfl) (Kq rfl (Fa (q := 1) rfl rfl u24 rfl rfl) (Kq rfl (Ld rfl rfl .tc u22) ?_))
 refine Kq rfl (Fa (q := 2) rfl rfl u26 rfl rfl) (Kq rfl (Ld rfl rfl .tc u22) ?_)
 refine Kq rfl (Fa (q := 3) rfl rfl u26 rfl rfl) (Kq rfl (Ld rfl rfl .tc u22) ?_)
 refine Kh rfl (og_bs1 rfl rfl u64 (by kernel_rfl : _ = some (some (.string (S [])), 1, 16)) rfl (by simp only [List.map]; rfl) rfl rfl ?_ (by decide)) ?_
 ·simp [Value.cells]
 intro b20
 (refine WL.st (fun w h => h.nil 22) ?_; refine Kh rfl (appg (ob := none) (xs := []) (sp := []) rfl u64 (by kernel_rfl : _ = some (some (.string (S [])), 1, 16)) rfl .tc rfl rfl (fun w hS => by (exact hS.os)) (by rfl) ?_ ?_) ?_; (focus ((refine ⟨?_, ?_, ?_, ?_⟩ <;> (try simp) <;> omega))); (focus ((simp [Value.oneCell']; done))))
 rintro ⟨o21, c21, s21⟩
 refine WL.pu ?_
 intro hg21; (try dsimp only at hg21 ⊢)
 refine Ns 21 rfl (v' := .slice (o21.map fun b => ⟨b, 0, none⟩) (smL k []).length c21) (by simp [smL]) ?_
 refine WL.st (fun w h => st_fz h) ?_
 rw [show [] ++ [Value.string (S k.1.1), .string (S k.1.2), .string (S k.2.1), .string (S k.2.2)] = strs (smL k []) from by simp [smL]]
 refine Kq rfl (rd_len rfl rfl u64) (Km rfl (Nt (Cb ?_)))
 refine Lp (σ := Nat) [(1, _), (21, _), (22, _)] (fun gq => [(23, .int .i64 (gq : Int))]) (fun gq => gq ≤ (smL k []).length ∧ ∀ x ∈ (smL k []).take gq, (x.length : Int) ≤ 8) (fun gq => (smL k []).length - gq) (0) (S3 rfl rfl rfl) (S1 rfl) (by (try dsimp only); exact ⟨Nat.zero_le _, by simp⟩) ?_
 rintro i hinv1; (try dsimp only at hinv1 ⊢)
 obtain ⟨hi, hok⟩ := hinv1
 refine Cs (Kq rfl (rd_lss rfl rfl rfl) (Nt (Cq ?_)))
 refine Cd rfl (fun hc24 => ?_) (fun hc24 => ?_)
 ·(try simp only [sB] at hc24)
  have hil : i < (smL k []).length := by omega
  obtain ⟨y, hy⟩ : ∃ y, Keep (y = (smL k []).getD i default) := ⟨_, rfl⟩
  refine Ck (Xa (Cq (Cb (Cs ?_))))
  refine Kq rfl (Ib rfl rfl rfl u64 (by omega) (by (rw [List.length_map]; omega))) ?_
  refine Kq rfl (ldm rfl rfl u22 rfl (by assumption)) ?_
  refine Ns 26 rfl (v' := .string (S (y))) (congrArg (fun l => Value.string (S l)) (by rw [show y = _ from hy])) ?_
  refine Ka rfl (Nt (Cs (Km rfl (Kq rfl (rd_slen rfl rfl u22) (Kq rfl (rd_gtr rfl rfl rfl) (Nt ?_))))))
  refine Cd rfl (fun hc29 => ?_) (fun hc29 => ?_)
  ·(try simp only [sB] at hc29)
   have hn : ¬ sml k s [] := fun h => by have := h.1 _ (getD_mem (smL k []) i hil); rw [← show y = _ from hy] at this; omega
   refine Cs (Ka rfl (Nt (Ce (Xf (Xb (Xb (Xf (Xb ?_))))))))
   exact R1 rfl rfl (by rw [decide_eq_false hn]; rfl)
  ·(try simp only [sB] at hc29)
   refine Ck (Xd (Xa (Cg (Kq rfl (Rz rfl rfl rfl (by omega)) (Km rfl (Nn ?_))))))
   refine Ly (i + 1) (by (try dsimp only); omega) (S3 rfl rfl rfl) (by refine (Sc ?_ (S0 _)) <;> (rfl)) ?_ (by (exact fun _ h => h))
   (try dsimp only)
   exact ⟨hil, all_take hil hok (by rw [← show y = _ from hy]; omega)⟩
 ·(try simp only [sB] at hc24)
  refine Cx (Xc (Xc (Xe ?_)))
  obtain rfl : i = (smL k []).length := by omega
  rw [List.take_length] at hok
  refine Xa (Cs (Km rfl (Kq rfl (rd_slen rfl rfl u9) (Kq rfl (rd_leq rfl rfl rfl) (Ka rfl (Nt (Ce ?_)))))))
  exact R1 rfl rfl (by rw [show decide (sml k s []) = decide ((s.length : Int) ≤ 200) from decide_eq_decide.2 ⟨fun h => h.2, fun h => ⟨hok, h⟩⟩]; rfl)
theorem sml_b {k : PK} {s : Bs} {l : List Bs} (h : sml k s l) : k.1.1.length ≤ 8 ∧ s.length ≤ 200 := by
 have := h.1 k.1.1 (by simp [smL]); have := h.2; omega
def valP (k : PK) : Prop := (bseS k []).2 = 0 ∧ chkP9 k.1 = 0
instance (k : PK) : Decidable (valP k) := inferInstanceAs (Decidable (_ ∧ _))
theorem valid48_c {k : PK} {w : World} (hm8 : k.1.1.length ≤ 8) (hD : TabD w) :
  Cw 14 #[pkV k] w (.bool (decide (valP k))) := by
 refine En [] [(0, pkV k)] Tryz.func14 rfl Tryz.ntmps14 rfl (Ac rfl (An _)) Fn ?_
 refine Cs ?_
 refine Kh rfl (Oy rfl rfl) ?_
 intro b1
 refine Ka rfl (Nt (Cs ?_))
 refine Kq rfl (lda rfl rfl .tc u26 rfl ?_) ?_
 ·kernel_rfl
 refine Ku rfl (Oc rfl rfl (Kv fun w hS => rpsbase_c (k := k) (s := []) (by exact hm8) (by simp))) ?_
 refine Km rfl (Kq rfl (Re rfl rfl rfl) (Kq rfl (Re rfl rfl rfl) (Ka rfl (Ka rfl (Nt (Cs (Km rfl (Kq rfl (rd_eql rfl rfl rfl) (Km rfl ?_)))))))))
 refine Nb 12 rfl (fun hg12 => ?_) (fun hg12 => ?_)
 ·(try simp only [sB] at hg12)
  refine Kq rfl (Fa (q := 0) rfl rfl u26 rfl rfl) ?_
  refine Kq rfl (ldp rfl rfl .tc u24 rfl (by kernel_rfl : _ = some 2) (by rfl) (by rfl)) ?_
  refine Ku rfl (Oc rfl rfl (Kv fun w hS => pgcheck_c (g := k.1) (by (exact tabd_st hD hS)))) ?_
  refine Kq rfl (rd_eql rfl rfl rfl) (Kq rfl (Rp rfl rfl rfl) (Ka rfl (Nt (Ce ?_))))
  exact R1 rfl rfl (by (simp [*, tup, valP]; done))
 ·(try simp only [sB] at hg12)
  refine Kt rfl (Kt rfl (Kt rfl (Kt rfl (Kq rfl (Rq rfl rfl rfl) (Ka rfl (Nt (Ce ?_)))))))
  exact R1 rfl rfl (by (simp [*, tup, valP]; done))
theorem based48_c {k : PK} {s : Bs} {w : World} (hm8 : k.1.1.length ≤ 8) (hs : s.length ≤ 140737488351232) :
  Cw 15 #[pkV k, .string (S s)] w (.bool (decide ((bseS k s).2 = 0))) := by
 refine En [] [(0, pkV k), (1, .string (S s))] Tryz.func15 rfl Tryz.ntmps15 rfl (Ac rfl (Ac rfl (An _))) Fn ?_
 refine Cs ?_
 refine Kh rfl (Oy rfl rfl) ?_
 intro b2
 refine Ka rfl (Nt (Cs ?_))
 refine Kq rfl (lda rfl rfl .tc u26 rfl ?_) ?_
 ·kernel_rfl
 refine Km rfl ?_
 refine Ku rfl (Oc rfl rfl (Kv fun w hS => rpsbase_c (k := k) (s := s) (by assumption) (by assumption))) ?_
 refine Km rfl (Kq rfl (Re rfl rfl rfl) (Kq rfl (Re rfl rfl rfl) (Ka rfl (Ka rfl (Nt (Cs (Km rfl (Kq rfl (rd_eql rfl rfl rfl) (Ka rfl (Nt (Ce ?_)))))))))))
 exact R1 rfl rfl (by rfl)
def exP : PK := (([23], [11]), [4], [9])
def shopB : Bs := [115, 104, 111, 112]
theorem ex_b : bseS exP shopB = ([16], 0) := by decide +kernel
theorem ex_n {x y : Bs} (h1 : okN x) (h : prodS exP.1 [[16]] [fromZ x] = (y, 0)) : nymS exP shopB x = (y, 0) := by
 rw [nymS, if_neg (fun h => h h1), ex_b, if_neg (fun h => h rfl)]; exact h
theorem ex_0 : nymS exP shopB [] = ([1], 0) := ex_n (by decide +kernel) (by decide +kernel)
theorem ex_1 : nymS exP shopB [1] = ([16], 0) := ex_n (by decide +kernel) (by decide +kernel)
theorem ex_3 : nymS exP shopB [3] = ([2], 0) := ex_n (by decide +kernel) (by decide +kernel)
theorem ex_14 : nymS exP shopB [14] = ([2], 0) := ex_n (by decide +kernel) (by decide +kernel)
theorem awake48_c {w : World} (hT : Tab w) :
  Cw 8 #[] w (.bool true) := by
 refine En [] [] Tryz.func8 rfl Tryz.ntmps8 rfl (An _) Fn ?_
 refine Cs (Ka rfl (Nt (Cs (Kq rfl (Kb [[.string (S [])], [.string (S [])]] rfl rfl) (Kq rfl (Kb [[.string (S []), .string (S [])], [.string (S [])], [.string (S [])]] rfl rfl) ?_)))))
 refine Kh rfl (Oz [.string (S []), .string (S []), .string (S []), .string (S [])] rfl) ?_
 intro b1
 refine Nu rfl rfl (Sa rfl rfl rfl .tc) ?_
 refine Nt (Cs ?_)
 refine Kq rfl (lda rfl rfl .tc u26 rfl ?_) ?_
 ·kernel_rfl
 refine Ku rfl (Oc rfl rfl (Kv fun w hS => (by have := psBase_c (w := w) (k := exP) (s := shopB) (by decide) (by decide) (tab_st hT hS); rw [ex_b] at this; exact this))) ?_
 refine Km rfl (Kq rfl (Re rfl rfl rfl) (Kq rfl (Re rfl rfl rfl) (Ka rfl (Ka rfl (Nt (Cs ?_))))))
 refine Kq rfl (lda rfl rfl .tc u26 rfl ?_) ?_
 ·kernel_rfl
 refine Ku rfl (Oc rfl rfl (Kv fun w hS => (by have := psnym_c (w := w) (k := exP) (s := shopB) (x := []) (by decide) (by decide) (tab_st hT hS); rw [ex_0] at this; exact this))) ?_
 refine Km rfl (Kq rfl (Re rfl rfl rfl) (Kq rfl (Re rfl rfl rfl) (Ka rfl (Ka rfl (Nt (Cs ?_))))))
 refine Kq rfl (lda rfl rfl .tc u26 rfl ?_) ?_
 ·kernel_rfl
 refine Ku rfl (Oc rfl rfl (Kv fun w hS => (by have := psnym_c (w := w) (k := exP) (s := shopB) (x := [1]) (by decide) (by decide) (tab_st hT hS); rw [ex_1] at this; exact this))) ?_
 refine Km rfl (Kq rfl (Re rfl rfl rfl) (Kq rfl (Re rfl rfl rfl) (Ka rfl (Ka rfl (Nt (Cs ?_))))))
 refine Kq rfl (lda rfl rfl .tc u26 rfl ?_) ?_
 ·kernel_rfl
 refine Ku rfl (Oc rfl rfl (Kv fun w hS => (by have := psnym_c (w := w) (k := exP) (s := shopB) (x := [3]) (by decide) (by decide) (tab_st hT hS); rw [ex_3] at this; exact this))) ?_
 refine Km rfl (Kq rfl (Re rfl rfl rfl) (Kq rfl (Re rfl rfl rfl) (Ka rfl (Ka rfl (Nt (Cs ?_))))))
 refine Kq rfl (lda rfl rfl .tc u26 rfl ?_) ?_
 ·kernel_rfl
 refine Ku rfl (Oc rfl rfl (Kv fun w hS => (by have := psnym_c (w := w) (k := exP) (s := shopB) (x := [14]) (by decide) (by decide) (tab_st hT hS); rw [ex_14] at this; exact this))) ?_
 refine Km rfl (Kq rfl (Re rfl rfl rfl) (Kq rfl (Re rfl rfl rfl) (Ka rfl (Ka rfl (Nt (Cs (Km rfl (Km rfl ?_))))))))
 refine Kq rfl (rd_add64n rfl rfl rfl (by (dsimp only; omega))) ?_
 refine Km rfl ?_
 refine Kq rfl (rd_add64n rfl rfl rfl (by (dsimp only; omega))) ?_
 refine Km rfl ?_
 refine Kq rfl (rd_add64n rfl rfl rfl (by (dsimp only; omega))) ?_
 refine Km rfl ?_
 refine Kq rfl (rd_add64n rfl rfl rfl (by (dsimp only; omega))) ?_
 refine Kq rfl (rd_eql rfl rfl rfl) (Km rfl ?_)
 refine Ns 49 rfl (v' := .bool true) (by rfl) ?_
 refine Km rfl (Kq rfl (rd_sne rfl rfl rfl) (Kq rfl (Rp rfl rfl rfl) (Km rfl ?_)))
 refine Ns 53 rfl (v' := .bool true) (by rfl) ?_
 refine Km rfl (Kq rfl (rd_sne rfl rfl rfl) (Kq rfl (Rp rfl rfl rfl) (Km rfl ?_)))
 refine Ns 57 rfl (v' := .bool true) (by rfl) ?_
 refine Km rfl (Kq rfl (rd_seq rfl rfl rfl) (Kq rfl (Rp rfl rfl rfl) (Km rfl ?_)))
 refine Ns 61 rfl (v' := .bool true) (by rfl) ?_
 refine Km rfl (Km rfl (Kq rfl (rd_seq rfl rfl rfl) (Kq rfl (Rp rfl rfl rfl) (Km rfl ?_))))
 refine Ns 66 rfl (v' := .bool true) (by rfl) ?_
 refine Km rfl (Km rfl (Kq rfl (rd_seq rfl rfl rfl) (Kq rfl (Rp rfl rfl rfl) (Ka rfl (Nt (Ce ?_))))))
 exact R1 rfl rfl (by rfl)
end Go.Proofs.YtddoigmffkmpcaaGreatDoor
