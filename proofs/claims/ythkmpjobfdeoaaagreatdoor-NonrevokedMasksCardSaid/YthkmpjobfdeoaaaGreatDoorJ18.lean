/-
  Parts of the walk: Rpc Rik Siz Siy Siw Lin0 Gpl Hol Lin1.
-/
import Derived.Test.YthkmpjobfdeoaaaGreatDoorJ17
namespace Go.Proofs.YthkmpjobfdeoaaaGreatDoor
open Go.RowKit
set_option linter.unusedSimpArgs false
set_option linter.unusedVariables false
set_option maxHeartbeats 600000
set_option maxRecDepth 20000
theorem okR_numR {p : PR} : okR p ↔ ∀ x ∈ numR p, okN x := by
 rw [okR_num]
 constructor <;> (intro h x hx; apply h; simp [numP, numR, pk4] at hx ⊢; rcases hx with rfl | rfl | rfl | rfl | rfl | rfl | rfl | rfl | rfl | rfl | rfl | rfl | rfl | rfl | rfl | rfl | rfl <;> simp)
theorem rpcheckR_c {p : PR} {w : World} (hm8 : p.mn.1.1.length ≤ 8) :
  Cw 82 #[prV p] w (.int .i64 (chkR p)) := by
 refine En [] [(0, prV p)] Tryz.func82 rfl Tryz.ntmps82 rfl (Ac rfl (An _)) Fn ?_
 refine Cs ?_
 refine Kh rfl (Oy rfl rfl) ?_
 intro b1
 refine Ka rfl (Nt (Cs ?_))
 refine Kq rfl (lda rfl rfl .tc u30 rfl ?_) ?_
 ·kernel_rfl
 refine Kh rfl (Oc rfl rfl (keep_f1 fun w hS => rnum_c)) ?_
 intro g11
 refine WL.pu ?_
 intro hg11; (try dsimp only at hg11 ⊢)
 refine Ka rfl (Nt (Cq (Cs (Ka rfl (Nt (Cb ?_))))))
 refine Lp (σ := Nat) [(1, _), (3, _)] (fun gq => [(4, .int .i64 (gq : Int))]) (fun gq => gq ≤ (numR p).length ∧ ∀ x ∈ (numR p).take gq, okN x) (fun gq => (numR p).length - gq) (0) (S2 rfl rfl) (S1 rfl) (by (try dsimp only); exact ⟨Nat.zero_le _, by simp⟩) ?_
 rintro i hinv1; (try dsimp only at hinv1 ⊢)
 obtain ⟨hi, hok⟩ := hinv1
 refine Cq (Cs (Km rfl (Km rfl (Kq rfl (rd_len rfl rfl u31) (Kq rfl (rd_lss rfl rfl rfl) (Nt ?_))))))
 refine Cd rfl (fun hc15 => ?_) (fun hc15 => ?_)
 ·(try simp only [sB] at hc15)
  have hil : i < (numR p).length := by show i < 17; omega
  obtain ⟨y, hy⟩ : ∃ y, Keep (y = (numR p).getD i default) := ⟨_, rfl⟩
  refine Ck (Xa (Cq (Cb (Cs (Km rfl (Km rfl ?_))))))
  refine Kq rfl (Ib rfl rfl rfl u31 (by omega) (by (rw [List.length_map]; omega))) ?_
  refine Kq rfl (ldm rfl rfl u22 rfl (by assumption)) ?_
  refine Ns 21 rfl (v' := .string (S (y))) (congrArg (fun l => Value.string (S l)) (by rw [show y = _ from hy])) ?_
  refine Ku rfl (Oc rfl rfl (Kv fun w hS => rvalid_c (a := y))) ?_
  refine Kq rfl (Rt rfl rfl) (Nt ?_)
  refine Cd rfl (fun hc23 => ?_) (fun hc23 => ?_)
  ·(try simp only [sB] at hc23)
   have hyn : ¬ okN y := by simpa using hc23
   have hn : ¬ okR p := fun h => hyn (by rw [show y = _ from hy]; exact okR_numR.1 h _ (getD_mem (numR p) i hil))
   refine Cs (Ka rfl (Nt (Ce (Xf (Xb (Xb (Xf (Xb ?_))))))))
   exact R1 rfl rfl (by rw [chkR, if_pos hn]; rfl)
  ·(try simp only [sB] at hc23)
   have hyy : okN y := by simpa using hc23
   refine Ck (Xd (Xa (Cg (Km rfl (Kq rfl (Rz rfl rfl rfl (by omega)) (Ka rfl (Nn ?_)))))))
   refine Ly (i + 1) (by (try dsimp only); omega) (S2 rfl rfl) (by refine (Sc ?_ (S0 _)) <;> (rfl)) ?_ (by (exact fun _ h => h))
   (try dsimp only)
   exact ⟨hil, all_take hil hok (by rw [← show y = _ from hy]; exact hyy)⟩
 ·(try simp only [sB] at hc15)
  refine Cx (Xc (Xc (Xe ?_)))
  obtain rfl : i = (numR p).length := by show i = 17; have h17 : i ≤ 17 := hi; omega
  rw [List.take_length] at hok
  have hokR : okR p := okR_numR.2 hok
  have hB8 : 8 < Big := Nat.lt_of_lt_of_le (by decide) big64
  have hz : p.mn.1.2 = [] → ¬ chkP9 p.mn.1 = 0 := fun h h0 => by
   unfold chkP9 at h0; rw [h] at h0
   split at h0
   ·simp at h0
   ·split at h0
    ·simp at h0
    ·split at h0
     ·simp at h0
     ·split at h0
      ·simp at h0
      ·rw [show isP (val []) = false from rfl] at h0; simp at h0
  have hu1 : ¬ p.wh.1.2 = [] → ¬ unitR p.wh.1 p.wh.2.1 := fun h h0 => h h0.1.1.2.1
  have hu2 : ¬ val p.wh.1.1 % 2 = 1 → ¬ unitR p.wh.1 p.wh.2.1 := fun h h0 => h h0.1.1.2.2.1
  have hu3 : ¬ 8 < val p.wh.1.1 → ¬ unitR p.wh.1 p.wh.2.1 := fun h h0 => h h0.1.1.2.2.2
  have hw1 : okN p.wh.1.1 := hokR.2.2.1
  have hq : okN p.mn.1.2 := hokR.2.1.2.1
  have hqB := okN_val hq
  have h2B : okN (canon 2) := okN_can (by omega)
  have hch : okN p.ch := hokR.1 _ (by simp)
  have hsl : okN p.sl := hokR.1 _ (by simp)
  have hse : okN p.sec := hokR.1 _ (by simp)
  have hat : okN p.attr := hokR.1 _ (by simp)
  have hha : okN p.han := hokR.1 _ (by simp)
  have hlo : okN p.lo := hokR.1 _ (by simp)
  have hsz : okN p.sz := hokR.1 _ (by simp)
  have hbl : okN p.bl := hokR.1 _ (by simp)
  have hmk : okN p.msk := hokR.1 _ (by simp)
  have hmu : mulN (canon 8) p.attr = if 8 * val p.attr < Big then (canon (8 * val p.attr), 0) else ([], 5) := by rw [mulN, if_pos ⟨okN_can hB8, hat⟩, val_canon]
  refine Xa (Cq ?_)
  refine WC.free (K := [⟨some b1, prC p, 30⟩]) (fs0 := []) [0, 1, 2, 6, 7, 8, 3, 4, 5] [9] [0, 0, 0, 0, 0, 0, 3, 3, 1, 2] (by kernel_rfl) (by kernel_rfl) rfl ?_
  refine Kj rfl (Fa (q := 2) rfl rfl u30 rfl rfl) (Kj rfl (Fa (q := 2) rfl rfl u28 rfl rfl) ?_)
  refine Kj rfl (ldp rfl rfl .tc u26 rfl (by kernel_rfl : _ = some 2) (by rfl) (by rfl)) ?_
  refine Jf rfl rfl rfl rfl rfl (fr_alloc rfl (v := (.agg #[.string (S []), .string (S [])])) (cs := [.string (S []), .string (S [])]) (by kernel_rfl) rfl) ?_
  intro b5
  refine Jf rfl rfl rfl rfl rfl (fr_alloc rfl (v := (.agg #[.string (S []), .string (S [])])) (cs := [.string (S []), .string (S [])]) (by kernel_rfl) rfl) ?_
  intro b6
  refine WJ.st rfl rfl rfl rfl (staJ rfl rfl rfl ?_ ?_ ?_) ?_
  ·kernel_rfl
  ·simp [Value.oneCell']
  ·rfl
  refine Kj rfl (Fa (q := 6) rfl rfl u30 rfl rfl) (Kj rfl (Fa (q := 6) rfl rfl u28 rfl rfl) ?_)
  refine Kj rfl (ldp rfl rfl .tc u26 rfl (by kernel_rfl : _ = some 2) (by rfl) (by rfl)) ?_
  refine WJ.nil ?_
  refine Nu rfl rfl (Sa rfl rfl rfl .tc) ?_
  refine Nt (Cq ?_)
  refine WC.joinP (σ := Unit) [(1, _), (5, _), (6, _)] (fun gq => [(53, .bool (decide (¬ (chkP9 p.mn.1 = 0 ∧ genP p.mn.1 p.mn.2.1 ∧ genP p.mn.1 p.mn.2.2))))]) (fun gq => True) (S3 rfl rfl rfl) ?_ ?_
  ·skip
   refine Cg (Kq rfl (Fa (q := 1) rfl rfl u26 rfl rfl) (Kq rfl (Ld rfl rfl .tc u22) ?_))
   refine Kq rfl (rd_seq rfl rfl rfl) (Km rfl ?_)
   refine Nb 33 rfl (fun hg33 => ?_) (fun hg33 => ?_)
   ·(try simp only [sB] at hg33)
    refine Kt rfl (Kt rfl (Kt rfl (Kq rfl (Rp rfl rfl rfl) (Km rfl (Kt rfl (Kt rfl (Kt rfl (Kt rfl (Kt rfl (Kt rfl (Kq rfl (Rp rfl rfl rfl) (Km rfl (Kt rfl (Kt rfl (Kt rfl (Kt rfl (Kt rfl (Kt rfl (Kq rfl (Rp rfl rfl rfl) (Nn ?_))))))))))))))))))))
    refine WX.joinP (()) (S3 rfl rfl rfl) (by refine (Sc ?_ (S0 _)) <;> ((refine slot_b rfl ?_; (try dsimp only); (simp [*]; done)))) ?_ (by (exact fun _ h => h))
    (try dsimp only)
    done
   ·(try simp only [sB] at hg33)
    refine Kq rfl (lda rfl rfl .tc u26 rfl ?_) ?_
    ·kernel_rfl
    refine Ku rfl (Oc rfl rfl (Kv fun w hS => rgchk_c (g := p.mn.1))) ?_
    refine Kq rfl (rd_neq rfl rfl rfl) (Kq rfl (Rq rfl rfl rfl) (Km rfl ?_))
    refine Nb 38 rfl (fun hg38 => ?_) (fun hg38 => ?_)
    ·(try simp only [sB] at hg38)
     refine Kt rfl (Kt rfl (Kt rfl (Kt rfl (Kt rfl (Kt rfl (Kq rfl (Rp rfl rfl rfl) (Km rfl (Kt rfl (Kt rfl (Kt rfl (Kt rfl (Kt rfl (Kt rfl (Kq rfl (Rp rfl rfl rfl) (Nn ?_)))))))))))))))
     refine WX.joinP (()) (S3 rfl rfl rfl) (by refine (Sc ?_ (S0 _)) <;> ((refine slot_b rfl ?_; (try dsimp only); (simp [*]; done)))) ?_ (by (exact fun _ h => h))
     (try dsimp only)
     done
    ·(try simp only [sB] at hg38)
     refine Kq rfl (lda rfl rfl .tc u26 rfl ?_) ?_
     ·kernel_rfl
     refine Kq rfl (Fa (q := 2) rfl rfl u30 rfl rfl) (Kq rfl (Fa (q := 4) rfl rfl u28 rfl rfl) (Kq rfl (Ld rfl rfl .tc u22) ?_))
     refine Ku rfl (Oc rfl rfl (Kv fun w hS => rggen_c (g := p.mn.1) (x := p.mn.2.1) (by assumption))) ?_
     refine Kq rfl (Rt rfl rfl) (Kq rfl (Rq rfl rfl rfl) (Km rfl ?_))
     refine Nb 46 rfl (fun hg46 => ?_) (fun hg46 => ?_)
     ·(try simp only [sB] at hg46)
      refine Kt rfl (Kt rfl (Kt rfl (Kt rfl (Kt rfl (Kt rfl (Kq rfl (Rp rfl rfl rfl) (Nn ?_)))))))
      refine WX.joinP (()) (S3 rfl rfl rfl) (by refine (Sc ?_ (S0 _)) <;> ((refine slot_b rfl ?_; (try dsimp only); (simp [*]; done)))) ?_ (by (exact fun _ h => h))
      (try dsimp only)
      done
     ·(try simp only [sB] at hg46)
      refine Kq rfl (lda rfl rfl .tc u26 rfl ?_) ?_
      ·kernel_rfl
      refine Kq rfl (Fa (q := 2) rfl rfl u30 rfl rfl) (Kq rfl (Fa (q := 5) rfl rfl u28 rfl rfl) (Kq rfl (Ld rfl rfl .tc u22) ?_))
      refine Ku rfl (Oc rfl rfl (Kv fun w hS => rggen_c (g := p.mn.1) (x := p.mn.2.2) (by assumption))) ?_
      refine Kq rfl (Rt rfl rfl) (Kq rfl (Rq rfl rfl rfl) (Nn ?_))
      refine WX.joinP (()) (S3 rfl rfl rfl) (by refine (Sc ?_ (S0 _)) <;> ((refine slot_b rfl ?_; (try dsimp only); (simp [*]; done)))) ?_ (by (exact fun _ h => h))
      (try dsimp only)
      done
  ·rintro _ hmeet; (try dsimp only at hmeet ⊢)
   refine Cd rfl (fun hc53 => ?_) (fun hc53 => ?_)
   ·(try simp only [sB] at hc53)
    refine Cs (Ka rfl (Nt (Ce (Xb ?_))))
    exact R1 rfl rfl (by rw [chkR, if_neg (fun h => h hokR), if_pos (fun h : grpR p => hc53 ⟨h.1, h.2.1, h.2.2.1⟩)]; rfl)
   ·(try simp only [sB] at hc53)
    have hg1 := Decidable.not_not.1 hc53
    refine Ck (Xa (Cq ?_))
    refine WC.joinP (σ := Unit) [(1, _), (5, _)] (fun gq => [(85, .bool (decide (¬ (unitR p.wh.1 p.wh.2.1 ∧ unitR p.wh.1 p.wh.2.2))))]) (fun gq => True) (S2 rfl rfl) ?_ ?_
    ·skip
     refine Cf [0, 1, 2, 3, 4, 5, 6, 7, 8, 9, 10, 11, 12, 13, 14, 15, 16, 17, 18, 19, 20, 21, 22, 23, 24, 25, 26, 27, 28, 29, 30, 31] [] [0, 0, 0, 0, 0, 0, 1, 0, 0, 0, 1, 0, 0, 1, 0, 0, 0, 0, 0, 0, 0, 1, 0, 0, 0, 0, 0, 0, 0, 1, 0, 0] (by kernel_rfl) (by kernel_rfl) rfl ?_
     refine Kj rfl (Fa (q := 1) rfl rfl u26 rfl rfl) (Kj rfl (Ld rfl rfl .tc u22) ?_)
     refine Kj rfl (rd_sne rfl rfl rfl) (Kj rfl (Rm rfl rfl) ?_)
     refine WJ.bool 57 rfl (fun hg57 => ?_) (fun hg57 => ?_)
     ·(try simp only [sB] at hg57)
      refine Js rfl rfl rfl rfl (Js rfl rfl rfl rfl (Js rfl rfl rfl rfl (Js rfl rfl rfl rfl (Kj rfl (Rp rfl rfl rfl) (Kj rfl (Rm rfl rfl) (Js rfl rfl rfl rfl (Js rfl rfl rfl rfl (Js rfl rfl rfl rfl (Js rfl rfl rfl rfl (Js rfl rfl rfl rfl (Kj rfl (Rp rfl rfl rfl) (Kj rfl (Rm rfl rfl) (Js rfl rfl rfl rfl (Js rfl rfl rfl rfl (Js rfl rfl rfl rfl (Js rfl rfl rfl rfl (Js rfl rfl rfl rfl (Js rfl rfl rfl rfl (Kj rfl (Rp rfl rfl rfl) (Kj rfl (Rm rfl rfl) (Js rfl rfl rfl rfl (Js rfl rfl rfl rfl (Js rfl rfl rfl rfl (Js rfl rfl rfl rfl (Js rfl rfl rfl rfl (Js rfl rfl rfl rfl (Kj rfl (Rp rfl rfl rfl) ?_)))))))))))))))))))))))))))
      refine WJ.nil ?_
      refine Nn ?_
      refine WX.joinP (()) (S2 rfl rfl) (by refine (Sc ?_ (S0 _)) <;> ((refine slot_b rfl ?_; (try dsimp only); (simp [*]; done)))) ?_ (by (exact fun _ h => h))
      (try dsimp only)
      done
     ·(try simp only [sB] at hg57)
      refine Kj rfl (Fa (q := 0) rfl rfl u26 rfl rfl) (Kj rfl (Ld rfl rfl .tc u22) ?_)
      refine Jv rfl rfl rfl rfl rfl (fun ext => Oc rfl rfl (Kv fun w hS => rbit_c (a := p.wh.1.1) (i := 0) (by omega))) ?_
      refine WJ.set 60 rfl (v' := .bool (decide (val p.wh.1.1 % 2 = 1))) (congrArg Value.bool (by exact odd_bit hw1)) ?_
      refine Kj rfl (Rt rfl rfl) (Kj rfl (Rq rfl rfl rfl) (Kj rfl (Rm rfl rfl) ?_))
      refine WJ.bool 63 rfl (fun hg63 => ?_) (fun hg63 => ?_)
      ·(try simp only [sB] at hg63)
       refine Js rfl rfl rfl rfl (Js rfl rfl rfl rfl (Js rfl rfl rfl rfl (Js rfl rfl rfl rfl (Js rfl rfl rfl rfl (Kj rfl (Rp rfl rfl rfl) (Kj rfl (Rm rfl rfl) (Js rfl rfl rfl rfl (Js rfl rfl rfl rfl (Js rfl rfl rfl rfl (Js rfl rfl rfl rfl (Js rfl rfl rfl rfl (Js rfl rfl rfl rfl (Kj rfl (Rp rfl rfl rfl) (Kj rfl (Rm rfl rfl) (Js rfl rfl rfl rfl (Js rfl rfl rfl rfl (Js rfl rfl rfl rfl (Js rfl rfl rfl rfl (Js rfl rfl rfl rfl (Js rfl rfl rfl rfl (Kj rfl (Rp rfl rfl rfl) ?_)))))))))))))))))))))
       refine WJ.nil ?_
       refine Nn ?_
       refine WX.joinP (()) (S2 rfl rfl) (by refine (Sc ?_ (S0 _)) <;> ((refine slot_b rfl ?_; (try dsimp only); (simp [*]; done)))) ?_ (by (exact fun _ h => h))
       (try dsimp only)
       done
      ·(try simp only [sB] at hg63)
       refine Jv rfl rfl rfl rfl rfl (fun ext => Oc rfl rfl (Kv fun w hS => rof_c (n := 8) (by omega))) ?_
       refine Kj rfl (Fa (q := 0) rfl rfl u26 rfl rfl) (Kj rfl (Ld rfl rfl .tc u22) ?_)
       refine Jv rfl rfl rfl rfl rfl (fun ext => Oc rfl rfl (Kv fun w hS => rless_c (a := canon 8) (b := p.wh.1.1))) ?_
       refine WJ.set 67 rfl (v' := .bool (decide (8 < val p.wh.1.1))) (congrArg Value.bool (by rw [cmpN_ok (okN_can hB8) hw1, val_canon]; exact decide_eq_decide.2 (cmpI_neg _ _))) ?_
       refine Kj rfl (Rt rfl rfl) (Kj rfl (Rq rfl rfl rfl) (Kj rfl (Rm rfl rfl) ?_))
       refine WJ.bool 70 rfl (fun hg70 => ?_) (fun hg70 => ?_)
       ·(try simp only [sB] at hg70)
        refine Js rfl rfl rfl rfl (Js rfl rfl rfl rfl (Js rfl rfl rfl rfl (Js rfl rfl rfl rfl (Js rfl rfl rfl rfl (Js rfl rfl rfl rfl (Kj rfl (Rp rfl rfl rfl) (Kj rfl (Rm rfl rfl) (Js rfl rfl rfl rfl (Js rfl rfl rfl rfl (Js rfl rfl rfl rfl (Js rfl rfl rfl rfl (Js rfl rfl rfl rfl (Js rfl rfl rfl rfl (Kj rfl (Rp rfl rfl rfl) ?_))))))))))))))
        refine WJ.nil ?_
        refine Nn ?_
        refine WX.joinP (()) (S2 rfl rfl) (by refine (Sc ?_ (S0 _)) <;> ((refine slot_b rfl ?_; (try dsimp only); (simp [*]; done)))) ?_ (by (exact fun _ h => h))
        (try dsimp only)
        done
       ·(try simp only [sB] at hg70)
        refine Kj rfl (lda rfl rfl .tc u26 rfl ?_) ?_
        ·kernel_rfl
        refine Kj rfl (Fa (q := 6) rfl rfl u30 rfl rfl) (Kj rfl (Fa (q := 8) rfl rfl u28 rfl rfl) (Kj rfl (Ld rfl rfl .tc u22) ?_))
        refine Jv rfl rfl rfl rfl rfl (fun ext => Oc rfl rfl (Kv fun w hS => runit_c (g := p.wh.1) (x := p.wh.2.1))) ?_
        refine Kj rfl (Rt rfl rfl) (Kj rfl (Rq rfl rfl rfl) (Kj rfl (Rm rfl rfl) ?_))
        refine WJ.bool 78 rfl (fun hg78 => ?_) (fun hg78 => ?_)
        ·(try simp only [sB] at hg78)
         refine Js rfl rfl rfl rfl (Js rfl rfl rfl rfl (Js rfl rfl rfl rfl (Js rfl rfl rfl rfl (Js rfl rfl rfl rfl (Js rfl rfl rfl rfl (Kj rfl (Rp rfl rfl rfl) ?_))))))
         refine WJ.nil ?_
         refine Nn ?_
         refine WX.joinP (()) (S2 rfl rfl) (by refine (Sc ?_ (S0 _)) <;> ((refine slot_b rfl ?_; (try dsimp only); (simp [*]; done)))) ?_ (by (exact fun _ h => h))
         (try dsimp only)
         done
        ·(try simp only [sB] at hg78)
         refine Kj rfl (lda rfl rfl .tc u26 rfl ?_) ?_
         ·kernel_rfl
         refine Kj rfl (Fa (q := 6) rfl rfl u30 rfl rfl) (Kj rfl (Fa (q := 9) rfl rfl u28 rfl rfl) (Kj rfl (Ld rfl rfl .tc u22) ?_))
         refine Jv rfl rfl rfl rfl rfl (fun ext => Oc rfl rfl (Kv fun w hS => runit_c (g := p.wh.1) (x := p.wh.2.2))) ?_
         refine Kj rfl (Rt rfl rfl) (Kj rfl (Rq rfl rfl rfl) ?_)
         refine WJ.nil ?_
         refine Nn ?_
         refine WX.joinP (()) (S2 rfl rfl) (by refine (Sc ?_ (S0 _)) <;> ((refine slot_b rfl ?_; (try dsimp only); (simp [*]; done)))) ?_ (by (exact fun _ h => h))
         (try dsimp only)
         done
    ·rintro _ hmeet; (try dsimp only at hmeet ⊢)
     refine Cd rfl (fun hc85 => ?_) (fun hc85 => ?_)
     ·(try simp only [sB] at hc85)
      refine Cs (Ka rfl (Nt (Ce (Xb ?_))))
      exact R1 rfl rfl (by rw [chkR, if_neg (fun h => h hokR), if_pos (fun h : grpR p => hc85 ⟨h.2.2.2.1, h.2.2.2.2⟩)]; rfl)
     ·(try simp only [sB] at hc85)
      have hg2 := Decidable.not_not.1 hc85
      have hgr : grpR p := ⟨hg1.1, hg1.2.1, hg1.2.2, hg2.1, hg2.2⟩
      refine Ck (Xa (Cs ?_))
      refine Ku rfl (Oc rfl rfl (Kv fun w hS => rof_c (n := 2) (by omega))) ?_
      refine Ka rfl (Nt (Cq ?_))
      refine Cf [0, 1, 2, 3, 4, 5, 6, 7, 8] [] [1, 0, 0, 1, 0, 0, 0, 0, 0] (by kernel_rfl) (by kernel_rfl) rfl ?_
      refine Jv rfl rfl rfl rfl rfl (fun ext => Oc rfl rfl (Kv fun w hS => rof_c (n := 8) (by omega))) ?_
      refine Kj rfl (Fa (q := 11) rfl rfl u30 rfl rfl) (Kj rfl (Ld rfl rfl .tc u22) ?_)
      refine Jv rfl rfl rfl rfl rfl (fun ext => Oc rfl rfl (Kv fun w hS => rmul_c (a := canon 8) (b := p.attr))) ?_
      refine Kj rfl (Rm rfl rfl) (Kj rfl (Re rfl rfl rfl) (Kj rfl (Re rfl rfl rfl) (Kj rfl (Ra rfl rfl) (Kj rfl (Ra rfl rfl) ?_))))
      refine WJ.nil ?_
      refine Nt (Cq ?_)
      refine WC.joinP (σ := Unit) [(1, _), (7, _)] (fun gq => [(142, .bool (decide (¬ (2 ≤ val p.ch ∧ val p.ch ≤ val p.mn.1.2 ∧ 2 ≤ val p.sl ∧ 2 ≤ val p.sec ∧ val p.sec ≤ val p.mn.1.2 ∧ 2 ≤ val p.attr ∧ 8 * val p.attr ≤ val p.mn.1.2))))]) (fun gq => True) (S2 rfl rfl) ?_ ?_
      ·skip
       refine Cg (Kq rfl (Fa (q := 0) rfl rfl u30 rfl rfl) (Kq rfl (Fa (q := 0) rfl rfl u24 rfl rfl) (Kq rfl (Ld rfl rfl .tc u22) ?_)))
       refine Km rfl ?_
       refine Ku rfl (Oc rfl rfl (Kv fun w hS => rless_c (a := p.ch) (b := canon 2))) ?_
       refine Ns 98 rfl (v' := .bool (decide (val p.ch < 2))) (congrArg Value.bool (by rw [cmpN_ok hch h2B, val_canon]; exact decide_eq_decide.2 (cmpI_neg _ _))) ?_
       refine Km rfl ?_
       refine Nb 99 rfl (fun hg99 => ?_) (fun hg99 => ?_)
       ·(try simp only [sB] at hg99)
        refine Kt rfl (Kt rfl (Kt rfl (Kt rfl (Kt rfl (Kt rfl (Kq rfl (Rp rfl rfl rfl) (Km rfl (Kt rfl (Kt rfl (Kt rfl (Kt rfl (Kt rfl (Kq rfl (Rp rfl rfl rfl) (Km rfl (Kt rfl (Kt rfl (Kt rfl (Kt rfl (Kq rfl (Rp rfl rfl rfl) (Km rfl (Kt rfl (Kt rfl (Kt rfl (Kt rfl (Kt rfl (Kq rfl (Rp rfl rfl rfl) (Km rfl (Kt rfl (Kt rfl (Kt rfl (Kt rfl (Kq rfl (Rp rfl rfl rfl) (Km rfl (Kt rfl (Kt rfl (Kq rfl (Rp rfl rfl rfl) (Km rfl (Kt rfl (Kt rfl (Kt rfl (Kt rfl (Kq rfl (Rp rfl rfl rfl) (Nn ?_)))))))))))))))))))))))))))))))))))))))))))
        refine WX.joinP (()) (S2 rfl rfl) (by refine (Sc ?_ (S0 _)) <;> ((refine slot_b rfl ?_; (try dsimp only); (simp [*]; done)))) ?_ (by (exact fun _ h => h))
        (try dsimp only)
        done
       ·(try simp only [sB] at hg99)
        refine Kq rfl (Fa (q := 1) rfl rfl u26 rfl rfl) (Kq rfl (Ld rfl rfl .tc u22) ?_)
        refine Kq rfl (Fa (q := 0) rfl rfl u30 rfl rfl) (Kq rfl (Fa (q := 0) rfl rfl u24 rfl rfl) (Kq rfl (Ld rfl rfl .tc u22) ?_))
        refine Ku rfl (Oc rfl rfl (Kv fun w hS => rless_c (a := p.mn.1.2) (b := p.ch))) ?_
        refine Ns 105 rfl (v' := .bool (decide (val p.mn.1.2 < val p.ch))) (congrArg Value.bool (by rw [cmpN_ok hq hch]; exact decide_eq_decide.2 (cmpI_neg _ _))) ?_
        refine Kq rfl (Rq rfl rfl rfl) (Km rfl ?_)
        refine Nb 107 rfl (fun hg107 => ?_) (fun hg107 => ?_)
        ·(try simp only [sB] at hg107)
         refine Kt rfl (Kt rfl (Kt rfl (Kt rfl (Kt rfl (Kq rfl (Rp rfl rfl rfl) (Km rfl (Kt rfl (Kt rfl (Kt rfl (Kt rfl (Kq rfl (Rp rfl rfl rfl) (Km rfl (Kt rfl (Kt rfl (Kt rfl (Kt rfl (Kt rfl (Kq rfl (Rp rfl rfl rfl) (Km rfl (Kt rfl (Kt rfl (Kt rfl (Kt rfl (Kq rfl (Rp rfl rfl rfl) (Km rfl (Kt rfl (Kt rfl (Kq rfl (Rp rfl rfl rfl) (Km rfl (Kt rfl (Kt rfl (Kt rfl (Kt rfl (Kq rfl (Rp rfl rfl rfl) (Nn ?_)))))))))))))))))))))))))))))))))))
         refine WX.joinP (()) (S2 rfl rfl) (by refine (Sc ?_ (S0 _)) <;> ((refine slot_b rfl ?_; (try dsimp only); (simp [*]; done)))) ?_ (by (exact fun _ h => h))
         (try dsimp only)
         done
        ·(try simp only [sB] at hg107)
         refine Kq rfl (Fa (q := 0) rfl rfl u30 rfl rfl) (Kq rfl (Fa (q := 1) rfl rfl u24 rfl rfl) (Kq rfl (Ld rfl rfl .tc u22) ?_))
         refine Km rfl ?_
         refine Ku rfl (Oc rfl rfl (Kv fun w hS => rless_c (a := p.sl) (b := canon 2))) ?_
         refine Ns 112 rfl (v' := .bool (decide (val p.sl < 2))) (congrArg Value.bool (by rw [cmpN_ok hsl h2B, val_canon]; exact decide_eq_decide.2 (cmpI_neg _ _))) ?_
         refine Kq rfl (Rq rfl rfl rfl) (Km rfl ?_)
         refine Nb 114 rfl (fun hg114 => ?_) (fun hg114 => ?_)
         ·(try simp only [sB] at hg114)
          refine Kt rfl (Kt rfl (Kt rfl (Kt rfl (Kq rfl (Rp rfl rfl rfl) (Km rfl (Kt rfl (Kt rfl (Kt rfl (Kt rfl (Kt rfl (Kq rfl (Rp rfl rfl rfl) (Km rfl (Kt rfl (Kt rfl (Kt rfl (Kt rfl (Kq rfl (Rp rfl rfl rfl) (Km rfl (Kt rfl (Kt rfl (Kq rfl (Rp rfl rfl rfl) (Km rfl (Kt rfl (Kt rfl (Kt rfl (Kt rfl (Kq rfl (Rp rfl rfl rfl) (Nn ?_))))))))))))))))))))))))))))
          refine WX.joinP (()) (S2 rfl rfl) (by refine (Sc ?_ (S0 _)) <;> ((refine slot_b rfl ?_; (try dsimp only); (simp [*]; done)))) ?_ (by (exact fun _ h => h))
          (try dsimp only)
          done
         ·(try simp only [sB] at hg114)
          refine Kq rfl (Fa (q := 10) rfl rfl u30 rfl rfl) (Kq rfl (Ld rfl rfl .tc u22) ?_)
          refine Km rfl ?_
          refine Ku rfl (Oc rfl rfl (Kv fun w hS => rless_c (a := p.sec) (b := canon 2))) ?_
          refine Ns 118 rfl (v' := .bool (decide (val p.sec < 2))) (congrArg Value.bool (by rw [cmpN_ok hse h2B, val_canon]; exact decide_eq_decide.2 (cmpI_neg _ _))) ?_
          refine Kq rfl (Rq rfl rfl rfl) (Km rfl ?_)
          refine Nb 120 rfl (fun hg120 => ?_) (fun hg120 => ?_)
          ·(try simp only [sB] at hg120)
           refine Kt rfl (Kt rfl (Kt rfl (Kt rfl (Kt rfl (Kq rfl (Rp rfl rfl rfl) (Km rfl (Kt rfl (Kt rfl (Kt rfl (Kt rfl (Kq rfl (Rp rfl rfl rfl) (Km rfl (Kt rfl (Kt rfl (Kq rfl (Rp rfl rfl rfl) (Km rfl (Kt rfl (Kt rfl (Kt rfl (Kt rfl (Kq rfl (Rp rfl rfl rfl) (Nn ?_))))))))))))))))))))))
           refine WX.joinP (()) (S2 rfl rfl) (by refine (Sc ?_ (S0 _)) <;> ((refine slot_b rfl ?_; (try dsimp only); (simp [*]; done)))) ?_ (by (exact fun _ h => h))
           (try dsimp only)
           done
          ·(try simp only [sB] at hg120)
           refine Kq rfl (Fa (q := 1) rfl rfl u26 rfl rfl) (Kq rfl (Ld rfl rfl .tc u22) ?_)
           refine Kq rfl (Fa (q := 10) rfl rfl u30 rfl rfl) (Kq rfl (Ld rfl rfl .tc u22) ?_)
           refine Ku rfl (Oc rfl rfl (Kv fun w hS => rless_c (a := p.mn.1.2) (b := p.sec))) ?_
           refine Ns 125 rfl (v' := .bool (decide (val p.mn.1.2 < val p.sec))) (congrArg Value.bool (by rw [cmpN_ok hq hse]; exact decide_eq_decide.2 (cmpI_neg _ _))) ?_
           refine Kq rfl (Rq rfl rfl rfl) (Km rfl ?_)
           refine Nb 127 rfl (fun hg127 => ?_) (fun hg127 => ?_)
           ·(try simp only [sB] at hg127)
            refine Kt rfl (Kt rfl (Kt rfl (Kt rfl (Kq rfl (Rp rfl rfl rfl) (Km rfl (Kt rfl (Kt rfl (Kq rfl (Rp rfl rfl rfl) (Km rfl (Kt rfl (Kt rfl (Kt rfl (Kt rfl (Kq rfl (Rp rfl rfl rfl) (Nn ?_)))))))))))))))
            refine WX.joinP (()) (S2 rfl rfl) (by refine (Sc ?_ (S0 _)) <;> ((refine slot_b rfl ?_; (try dsimp only); (simp [*]; done)))) ?_ (by (exact fun _ h => h))
            (try dsimp only)
            done
           ·(try simp only [sB] at hg127)
            refine Kq rfl (Fa (q := 11) rfl rfl u30 rfl rfl) (Kq rfl (Ld rfl rfl .tc u22) ?_)
            refine Km rfl ?_
            refine Ku rfl (Oc rfl rfl (Kv fun w hS => rless_c (a := p.attr) (b := canon 2))) ?_
            refine Ns 131 rfl (v' := .bool (decide (val p.attr < 2))) (congrArg Value.bool (by rw [cmpN_ok hat h2B, val_canon]; exact decide_eq_decide.2 (cmpI_neg _ _))) ?_
            refine Kq rfl (Rq rfl rfl rfl) (Km rfl ?_)
            refine Nb 133 rfl (fun hg133 => ?_) (fun hg133 => ?_)
            ·(try simp only [sB] at hg133)
             refine Kt rfl (Kt rfl (Kq rfl (Rp rfl rfl rfl) (Km rfl (Kt rfl (Kt rfl (Kt rfl (Kt rfl (Kq rfl (Rp rfl rfl rfl) (Nn ?_)))))))))
             refine WX.joinP (()) (S2 rfl rfl) (by refine (Sc ?_ (S0 _)) <;> ((refine slot_b rfl ?_; (try dsimp only); (simp [*]; done)))) ?_ (by (exact fun _ h => h))
             (try dsimp only)
             done
            ·(try simp only [sB] at hg133)
             refine Km rfl (Kq rfl (rd_neq rfl rfl rfl) ?_)
             refine Ns 135 rfl (v' := .bool (decide (Big ≤ 8 * val p.attr))) (congrArg Value.bool (by rw [hmu]; split <;> simp <;> omega)) ?_
             refine Kq rfl (Rq rfl rfl rfl) (Km rfl ?_)
             refine Nb 137 rfl (fun hg137 => ?_) (fun hg137 => ?_)
             ·(try simp only [sB] at hg137)
              refine Kt rfl (Kt rfl (Kt rfl (Kt rfl (Kq rfl (Rp rfl rfl rfl) (Nn ?_)))))
              refine WX.joinP (()) (S2 rfl rfl) (by refine (Sc ?_ (S0 _)) <;> ((exact congrArg (fun b => some (Value.bool b)) (by symm; apply decide_eq_true; omega)))) ?_ (by (exact fun _ h => h))
              (try dsimp only)
              done
             ·(try simp only [sB] at hg137)
              refine Kq rfl (Fa (q := 1) rfl rfl u26 rfl rfl) (Kq rfl (Ld rfl rfl .tc u22) ?_)
              refine Km rfl ?_
              refine Ku rfl (Oc rfl rfl (Kv fun w hS => rless_c (a := p.mn.1.2) (b := (mulN (canon 8) p.attr).1))) ?_
              refine Ns 141 rfl (v' := .bool (decide (val p.mn.1.2 < 8 * val p.attr))) (congrArg Value.bool (by rw [hmu, if_pos (by omega), cmpN_ok hq (okN_can (by omega)), val_canon]; exact decide_eq_decide.2 (cmpI_neg _ _))) ?_
              refine Kq rfl (Rq rfl rfl rfl) (Nn ?_)
              refine WX.joinP (()) (S2 rfl rfl) (by refine (Sc ?_ (S0 _)) <;> ((refine slot_b rfl ?_; (try dsimp only); (exact decide_eq_decide.2 (by omega))))) ?_ (by (exact fun _ h => h))
              (try dsimp only)
              done
      ·rintro _ hmeet; (try dsimp only at hmeet ⊢)
       refine Cd rfl (fun hc142 => ?_) (fun hc142 => ?_)
       ·(try simp only [sB] at hc142)
        refine Cs (Ka rfl (Nt (Ce (Xb ?_))))
        exact R1 rfl rfl (by rw [chkR, if_neg (fun h => h hokR), if_neg (fun h => h hgr), if_pos (fun h : rngR p => hc142 ⟨h.1 _ (by simp), h.2.2.1, h.1 _ (by simp), h.1 _ (by simp), h.2.2.2, h.1 _ (by simp), h.2.1⟩)]; rfl)
       ·(try simp only [sB] at hc142)
        obtain ⟨r1, r2, r3, r4, r5, r6, r7⟩ := Decidable.not_not.1 hc142
        refine Ck (Xa (Cq ?_))
        refine WC.joinP (σ := Unit) [] (fun gq => [(170, .bool (decide (¬ (2 ≤ val p.han ∧ 2 ≤ val p.lo ∧ 2 ≤ val p.sz ∧ 2 ≤ val p.bl ∧ 2 ≤ val p.msk))))]) (fun gq => True) (S0 _) ?_ ?_
        ·skip
         refine Cg (Kq rfl (Fa (q := 12) rfl rfl u30 rfl rfl) (Kq rfl (Ld rfl rfl .tc u22) ?_))
         refine Km rfl ?_
         refine Ku rfl (Oc rfl rfl (Kv fun w hS => rless_c (a := p.han) (b := canon 2))) ?_
         refine Ns 146 rfl (v' := .bool (decide (val p.han < 2))) (congrArg Value.bool (by rw [cmpN_ok hha h2B, val_canon]; exact decide_eq_decide.2 (cmpI_neg _ _))) ?_
         refine Km rfl ?_
         refine Nb 147 rfl (fun hg147 => ?_) (fun hg147 => ?_)
         ·(try simp only [sB] at hg147)
          refine Kt rfl (Kt rfl (Kt rfl (Kt rfl (Kq rfl (Rp rfl rfl rfl) (Km rfl (Kt rfl (Kt rfl (Kt rfl (Kt rfl (Kq rfl (Rp rfl rfl rfl) (Km rfl (Kt rfl (Kt rfl (Kt rfl (Kt rfl (Kq rfl (Rp rfl rfl rfl) (Km rfl (Kt rfl (Kt rfl (Kt rfl (Kt rfl (Kq rfl (Rp rfl rfl rfl) (Nn ?_)))))))))))))))))))))))
          refine WX.joinP (()) (S0 _) (by refine (Sc ?_ (S0 _)) <;> ((refine slot_b rfl ?_; (try dsimp only); (simp [*]; done)))) ?_ (by (exact fun _ h => h))
          (try dsimp only)
          done
         ·(try simp only [sB] at hg147)
          refine Kq rfl (Fa (q := 13) rfl rfl u30 rfl rfl) (Kq rfl (Ld rfl rfl .tc u22) ?_)
          refine Km rfl ?_
          refine Ku rfl (Oc rfl rfl (Kv fun w hS => rless_c (a := p.lo) (b := canon 2))) ?_
          refine Ns 151 rfl (v' := .bool (decide (val p.lo < 2))) (congrArg Value.bool (by rw [cmpN_ok hlo h2B, val_canon]; exact decide_eq_decide.2 (cmpI_neg _ _))) ?_
          refine Kq rfl (Rq rfl rfl rfl) (Km rfl ?_)
          refine Nb 153 rfl (fun hg153 => ?_) (fun hg153 => ?_)
          ·(try simp only [sB] at hg153)
           refine Kt rfl (Kt rfl (Kt rfl (Kt rfl (Kq rfl (Rp rfl rfl rfl) (Km rfl (Kt rfl (Kt rfl (Kt rfl (Kt rfl (Kq rfl (Rp rfl rfl rfl) (Km rfl (Kt rfl (Kt rfl (Kt rfl (Kt rfl (Kq rfl (Rp rfl rfl rfl) (Nn ?_)))))))))))))))))
           refine WX.joinP (()) (S0 _) (by refine (Sc ?_ (S0 _)) <;> ((refine slot_b rfl ?_; (try dsimp only); (simp [*]; done)))) ?_ (by (exact fun _ h => h))
           (try dsimp only)
           done
          ·(try simp only [sB] at hg153)
           refine Kq rfl (Fa (q := 14) rfl rfl u30 rfl rfl) (Kq rfl (Ld rfl rfl .tc u22) ?_)
           refine Km rfl ?_
           refine Ku rfl (Oc rfl rfl (Kv fun w hS => rless_c (a := p.sz) (b := canon 2))) ?_
           refine Ns 157 rfl (v' := .bool (decide (val p.sz < 2))) (congrArg Value.bool (by rw [cmpN_ok hsz h2B, val_canon]; exact decide_eq_decide.2 (cmpI_neg _ _))) ?_
           refine Kq rfl (Rq rfl rfl rfl) (Km rfl ?_)
           refine Nb 159 rfl (fun hg159 => ?_) (fun hg159 => ?_)
           ·(try simp only [sB] at hg159)
            refine Kt rfl (Kt rfl (Kt rfl (Kt rfl (Kq rfl (Rp rfl rfl rfl) (Km rfl (Kt rfl (Kt rfl (Kt rfl (Kt rfl (Kq rfl (Rp rfl rfl rfl) (Nn ?_)))))))))))
            refine WX.joinP (()) (S0 _) (by refine (Sc ?_ (S0 _)) <;> ((refine slot_b rfl ?_; (try dsimp only); (simp [*]; done)))) ?_ (by (exact fun _ h => h))
            (try dsimp only)
            done
           ·(try simp only [sB] at hg159)
            refine Kq rfl (Fa (q := 15) rfl rfl u30 rfl rfl) (Kq rfl (Ld rfl rfl .tc u22) ?_)
            refine Km rfl ?_
            refine Ku rfl (Oc rfl rfl (Kv fun w hS => rless_c (a := p.bl) (b := canon 2))) ?_
            refine Ns 163 rfl (v' := .bool (decide (val p.bl < 2))) (congrArg Value.bool (by rw [cmpN_ok hbl h2B, val_canon]; exact decide_eq_decide.2 (cmpI_neg _ _))) ?_
            refine Kq rfl (Rq rfl rfl rfl) (Km rfl ?_)
            refine Nb 165 rfl (fun hg165 => ?_) (fun hg165 => ?_)
            ·(try simp only [sB] at hg165)
             refine Kt rfl (Kt rfl (Kt rfl (Kt rfl (Kq rfl (Rp rfl rfl rfl) (Nn ?_)))))
             refine WX.joinP (()) (S0 _) (by refine (Sc ?_ (S0 _)) <;> ((refine slot_b rfl ?_; (try dsimp only); (simp [*]; done)))) ?_ (by (exact fun _ h => h))
             (try dsimp only)
             done
            ·(try simp only [sB] at hg165)
             refine Kq rfl (Fa (q := 16) rfl rfl u30 rfl rfl) (Kq rfl (Ld rfl rfl .tc u22) ?_)
             refine Km rfl ?_
             refine Ku rfl (Oc rfl rfl (Kv fun w hS => rless_c (a := p.msk) (b := canon 2))) ?_
             refine Ns 169 rfl (v' := .bool (decide (val p.msk < 2))) (congrArg Value.bool (by rw [cmpN_ok hmk h2B, val_canon]; exact decide_eq_decide.2 (cmpI_neg _ _))) ?_
             refine Kq rfl (Rq rfl rfl rfl) (Nn ?_)
             refine WX.joinP (()) (S0 _) (by refine (Sc ?_ (S0 _)) <;> ((refine slot_b rfl ?_; (try dsimp only); (exact decide_eq_decide.2 (by omega))))) ?_ (by (exact fun _ h => h))
             (try dsimp only)
             done
        ·rintro _ hmeet; (try dsimp only at hmeet ⊢)
         refine Cd rfl (fun hc170 => ?_) (fun hc170 => ?_)
         ·(try simp only [sB] at hc170)
          refine Cs (Ka rfl (Nt (Ce (Xb ?_))))
          exact R1 rfl rfl (by rw [chkR, if_neg (fun h => h hokR), if_neg (fun h => h hgr), if_pos (fun h : rngR p => hc170 ⟨h.1 _ (by simp), h.1 _ (by simp), h.1 _ (by simp), h.1 _ (by simp), h.1 _ (by simp)⟩)]; rfl)
         ·(try simp only [sB] at hc170)
          obtain ⟨r8, r9, r10, r11, r12⟩ := Decidable.not_not.1 hc170
          have hrg : rngR p := ⟨fun x hx => by simp at hx; rcases hx with rfl | rfl | rfl | rfl | rfl | rfl | rfl | rfl | rfl <;> assumption, r7, r2, r5⟩
          refine Ck (Xa (Cs (Ka rfl (Nt (Ce ?_)))))
          exact R1 rfl rfl (by rw [chkR, if_neg (fun h => h hokR), if_neg (fun h => h hgr), if_neg (fun h => h hrg)]; rfl)
theorem rbases_c {k : IK} {a : Option Addr} {c : Nat} {w : World} {ok : Nat → Prop} (hF1 : (Fact.sl a (strs k.r)).holds ok w) (hl : k.r.length ≤ 100000) :
  Calls Tryz.prog 83 #[ikV k (.slice a k.r.length c)] w fun e w' => ∃ g : Rs, e = .returned (g.val (3 + k.r.length)) ∧ g.cap = 3 + k.r.length + g.sp.length ∧ St (fun _ => True) w [g.ent (strs ([k.z, k.u, k.h] ++ k.r)) 22] [] w' := by
 refine En [Fact.sl a (strs k.r)] [(0, ikV k (.slice a k.r.length c))] Tryz.func83 rfl Tryz.ntmps83 rfl (Ac rfl (An _)) (Fc (fact_any hF1) Fn) ?_
 refine Cs ?_
 refine Kh rfl (Oy rfl rfl) ?_
 intro b1
 refine Ka rfl (Nt (Cs (Kq rfl (Fa (q := 3) rfl rfl u33 rfl rfl) (Kq rfl (Ld rfl rfl .tc u22) ?_))))
 refine Kq rfl (Fa (q := 6) rfl rfl u33 rfl rfl) (Kq rfl (Ld rfl rfl .tc u22) ?_)
 refine Kq rfl (Fa (q := 7) rfl rfl u33 rfl rfl) (Kq rfl (Ld rfl rfl .tc u22) ?_)
 refine Kh rfl (og_bs1 rfl rfl u31 (by kernel_rfl : _ = some (some (.string (S [])), 1, 16)) rfl (by simp only [List.map]; rfl) rfl rfl ?_ (by decide)) ?_
 ·simp [Value.cells]
 intro b10
 refine Ka rfl (Nt (Cs (Km rfl (Kq rfl (Fa (q := 5) rfl rfl u33 rfl rfl) (Kq rfl (Ld rfl rfl .tc u31) ?_)))))
 refine Kh rfl (appf rfl u31 (by kernel_rfl : _ = some (some (.string (S [])), 1, 16)) rfl .tc rfl rfl (fun w hS => by (exact hS.sl)) (by simp) (by (refine ⟨?_, ?_, ?_, ?_⟩ <;> (try simp) <;> omega)) (by (simp [Value.oneCell']; done))) ?_
 rintro ⟨o14, c14, s14⟩
 refine WL.pu ?_
 intro hg14; (try dsimp only at hg14 ⊢)
 refine Ka rfl (Nt (Ce ?_))
 exact Rn rfl (.tmp rfl .nil) fun w' hS => ⟨⟨o14, c14, s14⟩, by simp [Rs.val, tup], by simpa using hg14, by show St _ _ [⟨o14, [Value.string (S k.z), .string (S k.u), .string (S k.h)] ++ strs k.r ++ s14, _⟩] _ _; exact st_sub _ hS⟩
abbrev rlK (k : IK) : List Bs := [k.g.1, k.g.2, k.s] ++ ([k.z, k.u, k.h] ++ k.r)
theorem rlK_ok (k : IK) : (∀ x ∈ rlK k, okN x) ↔ ((okN k.g.1 ∧ okN k.g.2) ∧ ∀ x ∈ bsK k, okN x) := by
 simp [rlK, bsK]; constructor
 ·rintro ⟨h1, h2, h3, h4, h5, h6, h7⟩; exact ⟨⟨h1, h2⟩, h3, h4, h5, h6, h7⟩
 ·rintro ⟨⟨h1, h2⟩, h3, h4, h5, h6, h7⟩; exact ⟨h1, h2, h3, h4, h5, h6, h7⟩
theorem rlK_el (k : IK) : (∀ x ∈ (rlK k).drop 2, elG k.g x) ↔ ∀ x ∈ bsK k, elG k.g x := by simp [rlK, bsK]
theorem all_drop2 {l : List Bs} {j : Nat} {Q : Bs → Prop} (hj : j < l.length) (h2 : 2 ≤ j) (h : ∀ x ∈ (l.take j).drop 2, Q x) (hq : Q (l.getD j default)) : ∀ x ∈ (l.take (j + 1)).drop 2, Q x := by
 intro x hx
 rw [List.take_add_one, List.drop_append_of_le_length (by rw [List.length_take]; omega)] at hx
 rcases List.mem_append.1 hx with hx | hx
 ·exact h x hx
 ·rw [List.getElem?_eq_getElem hj] at hx
  simp at hx; subst hx
  simpa [List.getD, hj] using hq
theorem richeck_c {p : PR} {k : IK} {a : Option Addr} {c : Nat} {w : World} {ok : Nat → Prop} (hF1 : (Fact.sl a (strs k.r)).holds ok w) (hm8 : p.mn.1.1.length ≤ 8) (hk8 : k.g.1.length ≤ 8) (hl : k.r.length ≤ 100000) (hnl : k.name.length ≤ 140737488351232) :
  Cw 41 #[prV p, ikV k (.slice a k.r.length c)] w (.int .i64 (chkN p k)) := by
 have hrl : (rlK k).length = 6 + k.r.length := by simp [rlK]; omega
 refine En [Fact.sl a (strs k.r)] [(0, prV p), (1, ikV k (.slice a k.r.length c))] Tryz.func41 rfl Tryz.ntmps41 rfl (Ac rfl (Ac rfl (An _))) (Fc (fact_any hF1) Fn) ?_
 refine Cs ?_
 refine Kh rfl (Oy rfl rfl) ?_
 intro b2
 refine Kh rfl (Oy rfl rfl) ?_
 intro b3
 refine Ka rfl (Nt (Cq (Cs ?_)))
 refine Kq rfl (lda rfl rfl .tc u30 rfl ?_) ?_
 ·kernel_rfl
 refine Ku rfl (Oc rfl rfl (Kv fun w hS => rpcheckR_c (p := p) (by assumption))) ?_
 refine Ka rfl (Nt (Cs (Km rfl (Kq rfl (rd_neq rfl rfl rfl) (Nt ?_)))))
 refine Cd rfl (fun hc12 => ?_) (fun hc12 => ?_)
 ·(try simp only [sB] at hc12)
  refine Cs (Km rfl (Ka rfl (Nt (Ce (Xb ?_)))))
  exact R1 rfl rfl (by rw [chkN, if_pos (by simpa using hc12)]; rfl)
 ·(try simp only [sB] at hc12)
  have h0 : chkR p = 0 := by simpa using hc12
  refine Ck (Xa (Cq ?_))
  refine Cf [9, 10, 0, 1, 2, 3, 4, 5, 6, 7, 8, 11, 12] [] [0, 0, 0, 0, 0, 0, 0, 0, 3, 0, 1, 1, 0] (by kernel_rfl) (by kernel_rfl) rfl ?_
  refine Kj rfl (lda rfl rfl .tc u33 rfl ?_) ?_
  ·kernel_rfl
  refine Jg rfl rfl rfl rfl rfl (fun ext => Oc rfl rfl (keep_f1 fun w hS => rbases_c (k := k) (by (exact hS.sl)) (by assumption))) ?_
  intro g24 hg24; (try dsimp only at hg24 ⊢)
  refine Kj rfl (Fa (q := 1) rfl rfl u33 rfl rfl) (Kj rfl (Fa (q := 1) rfl rfl u26 rfl rfl) (Kj rfl (Ld rfl rfl .tc u22) ?_))
  refine Kj rfl (Fa (q := 1) rfl rfl u33 rfl rfl) (Kj rfl (Fa (q := 2) rfl rfl u26 rfl rfl) (Kj rfl (Ld rfl rfl .tc u22) ?_))
  refine Kj rfl (Fa (q := 4) rfl rfl u33 rfl rfl) (Kj rfl (Ld rfl rfl .tc u22) ?_)
  refine Jf rfl rfl rfl rfl rfl (fr_bs1 rfl rfl u31 (by kernel_rfl : _ = some (some (.string (S [])), 1, 16)) rfl (by simp only [List.map]; rfl) rfl rfl ?_ (by decide)) ?_
  ·simp [Value.cells]
  intro b22
  refine Jg rfl rfl rfl rfl rfl (appfJ rfl u31 (by kernel_rfl : _ = some (some (.string (S [])), 1, 16)) rfl .tc rfl rfl (fun ext w hS => by (exact hS.sl)) (by simp; omega) (by (refine ⟨?_, ?_, ?_, ?_⟩ <;> (try simp) <;> omega)) (by (simp [Value.oneCell']; done))) ?_
  rintro ⟨o25, c25, s25⟩ hg25; (try dsimp only at hg25 ⊢)
  refine WJ.set 25 rfl (v' := .slice (o25.map fun b => ⟨b, 0, none⟩) (rlK k).length c25) (by congr 1; omega) ?_
  refine Kj rfl (Ra rfl rfl) ?_
  refine WJ.nil ?_
  refine Nt (Cq (Cs ?_))
  refine WL.st (fun w h => st_fz (xs := strs (rlK k)) (sp := s25) h) ?_
  refine Ka rfl (Nt (Cb ?_))
  refine Lp (σ := Nat) [(3, _), (6, _)] (fun gq => [(7, .int .i64 (gq : Int))]) (fun gq => gq ≤ (rlK k).length ∧ ∀ x ∈ (rlK k).take gq, okN x) (fun gq => (rlK k).length - gq) (0) (S2 rfl rfl) (S1 rfl) (by (try dsimp only); exact ⟨Nat.zero_le _, by simp⟩) ?_
  rintro i hinv1; (try dsimp only at hinv1 ⊢)
  obtain ⟨hi, hok⟩ := hinv1
  refine Cq (Cs (Km rfl (Km rfl (Kq rfl (rd_len rfl rfl u31) (Kq rfl (rd_lss rfl rfl rfl) (Nt ?_))))))
  refine Cd rfl (fun hc29 => ?_) (fun hc29 => ?_)
  ·(try simp only [sB] at hc29)
   have hil : i < (rlK k).length := by omega
   refine Ck (Xa (Cq (Cb (Cs (Km rfl (Km rfl ?_))))))
   refine Kq rfl (Ib rfl rfl rfl u31 (by omega) (by (rw [List.length_map]; omega))) ?_
   refine Kq rfl (ldm rfl rfl u22 rfl (by assumption)) ?_
   refine Ku rfl (Oc rfl rfl (Kv fun w hS => rvalid_c (a := (rlK k).getD i default))) ?_
   refine Kq rfl (Rt rfl rfl) (Nt ?_)
   refine Cd rfl (fun hc37 => ?_) (fun hc37 => ?_)
   ·(try simp only [sB] at hc37)
    have hn : ¬ ((okN k.g.1 ∧ okN k.g.2) ∧ ∀ x ∈ bsK k, okN x) := fun h => (by simpa using hc37 : ¬ okN ((rlK k).getD i default)) ((rlK_ok k).2 h _ (getD_mem (rlK k) i hil))
    refine Cs (Ka rfl (Nt (Ce (Xf (Xb (Xb (Xf (Xb ?_))))))))
    exact R1 rfl rfl (by rw [chkN, if_neg (fun h => h h0), if_pos hn]; rfl)
   ·(try simp only [sB] at hc37)
    have hyy : okN ((rlK k).getD i default) := by simpa using hc37
    refine Ck (Xd (Xa (Cg (Km rfl (Kq rfl (Rz rfl rfl rfl (by omega)) (Ka rfl (Nn ?_)))))))
    refine Ly (i + 1) (by (try dsimp only); omega) (S2 rfl rfl) (by refine (Sc ?_ (S0 _)) <;> (rfl)) ?_ (by (exact fun _ h => h))
    (try dsimp only)
    exact ⟨hil, all_take hil hok hyy⟩
  ·(try simp only [sB] at hc29)
   refine Cx (Xc (Xc (Xe ?_)))
   obtain rfl : i = (rlK k).length := by omega
   rw [List.take_length] at hok
   have hok2 := (rlK_ok k).1 hok
   refine Xa (Cq (Cs (Kq rfl (Fa (q := 0) rfl rfl u33 rfl rfl) (Kq rfl (Ld rfl rfl .tc u9) ?_))))
   refine Ku rfl (Oc rfl rfl (Kv fun w hS => rname_c (s := k.name) (by assumption))) ?_
   refine Kq rfl (Rt rfl rfl) (Nt ?_)
   refine Cd rfl (fun hc41 => ?_) (fun hc41 => ?_)
   ·(try simp only [sB] at hc41)
    refine Cs (Ka rfl (Nt (Ce (Xb ?_))))
    exact R1 rfl rfl (by rw [chkN, if_neg (fun h => h h0), if_neg (fun h => h hok2), if_pos (by simpa using hc41)]; rfl)
   ·(try simp only [sB] at hc41)
    have hnm : nameS k.name := by simpa using hc41
    refine Ck (Xa (Cq ?_))
    refine WC.joinP (σ := Unit) [(3, _), (6, _)] (fun gq => [(51, .bool (decide (k.g.2 ≠ [] ∨ chkG k.g ≠ 0)))]) (fun gq => True) (S2 rfl rfl) ?_ ?_
    ·skip
     refine Cg (Kq rfl (Fa (q := 1) rfl rfl u33 rfl rfl) (Kq rfl (Fa (q := 2) rfl rfl u26 rfl rfl) (Kq rfl (Ld rfl rfl .tc u22) ?_)))
     refine Kq rfl (rd_sne rfl rfl rfl) (Km rfl ?_)
     refine Nb 46 rfl (fun hg46 => ?_) (fun hg46 => ?_)
     ·(try simp only [sB] at hg46)
      refine Kt rfl (Kt rfl (Kt rfl (Kt rfl (Kq rfl (Rp rfl rfl rfl) (Nn ?_)))))
      refine WX.joinP (()) (S2 rfl rfl) (by refine (Sc ?_ (S0 _)) <;> ((refine slot_b rfl ?_; (try dsimp only); (simp [*]; done)))) ?_ (by (exact fun _ h => h))
      (try dsimp only)
      done
     ·(try simp only [sB] at hg46)
      refine Kq rfl (Fa (q := 1) rfl rfl u33 rfl rfl) ?_
      refine Kq rfl (ldp rfl rfl .tc u26 rfl (by kernel_rfl : _ = some 2) (by rfl) (by rfl)) ?_
      refine Ku rfl (Oc rfl rfl (Kv fun w hS => rgcheck_c (g := k.g))) ?_
      refine Kq rfl (rd_neq rfl rfl rfl) (Kq rfl (Rq rfl rfl rfl) (Nn ?_))
      refine WX.joinP (()) (S2 rfl rfl) (by refine (Sc ?_ (S0 _)) <;> ((refine slot_b rfl ?_; (try dsimp only); (simp [*]; done)))) ?_ (by (exact fun _ h => h))
      (try dsimp only)
      done
    ·rintro _ hmeet; (try dsimp only at hmeet ⊢)
     refine Cd rfl (fun hc51 => ?_) (fun hc51 => ?_)
     ·(try simp only [sB] at hc51)
      refine Cs (Ka rfl (Nt (Ce (Xb ?_))))
      exact R1 rfl rfl (by rw [chkN, if_neg (fun h => h h0), if_neg (fun h => h hok2), if_neg (fun h => h hnm), if_pos hc51]; rfl)
     ·(try simp only [sB] at hc51)
      have hcg : chkG k.g = 0 := Decidable.byContradiction fun h => hc51 (Or.inr h)
      refine Ck (Xa (Cq ?_))
      refine WC.joinP (σ := Unit) [(3, _), (6, _)] (fun gq => [(61, .bool (decide (k.r.length < 2 ∨ 18 < k.r.length)))]) (fun gq => True) (S2 rfl rfl) ?_ ?_
      ·skip
       refine Cg (Kq rfl (Fa (q := 5) rfl rfl u33 rfl rfl) (Kq rfl (Ld rfl rfl .tc u31) ?_))
       refine Kq rfl (rd_len rfl rfl u31) (Kq rfl (rd_lss rfl rfl rfl) (Km rfl ?_))
       refine Nb 56 rfl (fun hg56 => ?_) (fun hg56 => ?_)
       ·(try simp only [sB] at hg56)
        refine Kt rfl (Kt rfl (Kt rfl (Kt rfl (Kq rfl (Rp rfl rfl rfl) (Nn ?_)))))
        refine WX.joinP (()) (S2 rfl rfl) (by refine (Sc ?_ (S0 _)) <;> ((exact congrArg (fun b => some (Value.bool b)) (by symm; apply decide_eq_true; omega)))) ?_ (by (exact fun _ h => h))
        (try dsimp only)
        done
       ·(try simp only [sB] at hg56)
        refine Kq rfl (Fa (q := 5) rfl rfl u33 rfl rfl) (Kq rfl (Ld rfl rfl .tc u31) ?_)
        refine Kq rfl (rd_len rfl rfl u31) (Kq rfl (rd_gtr rfl rfl rfl) (Kq rfl (Rq rfl rfl rfl) (Nn ?_)))
        refine WX.joinP (()) (S2 rfl rfl) (by refine (Sc ?_ (S0 _)) <;> ((refine slot_b rfl ?_; (try dsimp only); (exact decide_eq_decide.2 (by omega))))) ?_ (by (exact fun _ h => h))
        (try dsimp only)
        done
      ·rintro _ hmeet; (try dsimp only at hmeet ⊢)
       refine Cd rfl (fun hc61 => ?_) (fun hc61 => ?_)
       ·(try simp only [sB] at hc61)
        refine Cs (Ka rfl (Nt (Ce (Xb ?_))))
        exact R1 rfl rfl (by rw [chkN, if_neg (fun h => h h0), if_neg (fun h => h hok2), if_neg (fun h => h hnm), if_neg hc51, if_pos hc61]; rfl)
       ·(try simp only [sB] at hc61)
        refine Ck (Xa (Cq (Cs (Kq rfl (Fa (q := 4) rfl rfl u33 rfl rfl) (Kq rfl (Ld rfl rfl .tc u22) ?_)))))
        refine Kq rfl (rd_seq rfl rfl rfl) (Nt ?_)
        refine Cd rfl (fun hc64 => ?_) (fun hc64 => ?_)
        ·(try simp only [sB] at hc64)
         refine Cs (Ka rfl (Nt (Ce (Xb ?_))))
         exact R1 rfl rfl (by rw [chkN, if_neg (fun h => h h0), if_neg (fun h => h hok2), if_neg (fun h => h hnm), if_neg hc51, if_neg hc61, if_pos (fun h => h.2 (by simpa [one_canon] using hc64))]; rfl)
        ·(try simp only [sB] at hc64)
         have hs1 : k.s ≠ canon 1 := by simpa [one_canon] using hc64
         refine Ck (Xa (Cq (Cs (Ka rfl (Nt (Cb ?_))))))
         refine Lp (σ := Nat) [(3, _), (6, _)] (fun gq => [(8, .int .i64 (gq : Int))]) (fun gq => 2 ≤ gq ∧ gq ≤ (rlK k).length ∧ ∀ x ∈ ((rlK k).take gq).drop 2, elG k.g x) (fun gq => (rlK k).length - gq) (2) (S2 rfl rfl) (S1 rfl) (by (try dsimp only); exact ⟨Nat.le_refl _, by omega, by simp [rlK]⟩) ?_
         rintro j hinv2; (try dsimp only at hinv2 ⊢)
         obtain ⟨hj2, hj, hel⟩ := hinv2
         refine Cq (Cs (Km rfl (Km rfl (Kq rfl (rd_len rfl rfl u31) (Kq rfl (rd_lss rfl rfl rfl) (Nt ?_))))))
         refine Cd rfl (fun hc68 => ?_) (fun hc68 => ?_)
         ·(try simp only [sB] at hc68)
          have hjl : j < (rlK k).length := by omega
          refine Ck (Xa (Cq (Cb (Cq ?_))))
          refine Cf [0, 1, 2, 3, 4, 5, 6, 7] [] [0, 0, 0, 0, 0, 0, 1, 0] (by kernel_rfl) (by kernel_rfl) rfl ?_
          refine Kj rfl (Fa (q := 1) rfl rfl u33 rfl rfl) ?_
          refine Kj rfl (ldp rfl rfl .tc u26 rfl (by kernel_rfl : _ = some 2) (by rfl) (by rfl)) ?_
          refine Kj rfl (Rm rfl rfl) (Kj rfl (Rm rfl rfl) ?_)
          refine Kj rfl (Ib rfl rfl rfl u31 (by omega) (by (rw [List.length_map]; omega))) ?_
          refine Kj rfl (ldm rfl rfl u22 rfl (by assumption)) ?_
          refine Jv rfl rfl rfl rfl rfl (fun ext => Oc rfl rfl (Kv fun w hS => rghas_c (g := k.g) (x := (rlK k).getD j default) (by assumption))) ?_
          refine WJ.set 77 rfl (v' := .bool (decide (elG k.g ((rlK k).getD j default)))) (congrArg Value.bool (by simp [hcg])) ?_
          refine Kj rfl (Rt rfl rfl) ?_
          refine WJ.nil ?_
          refine Nt ?_
          refine Cd rfl (fun hc78 => ?_) (fun hc78 => ?_)
          ·(try simp only [sB] at hc78)
           have hn : ¬ ((∀ x ∈ bsK k, elG k.g x) ∧ k.s ≠ canon 1) := fun h => (by simpa using hc78 : ¬ elG k.g ((rlK k).getD j default)) (by
            have hd := (rlK_el k).2 h.1
            refine hd _ ?_
            obtain ⟨m, rfl⟩ : ∃ m, j = m + 2 := ⟨j - 2, by omega⟩
            have he : (rlK k).getD (m + 2) default = ((rlK k).drop 2).getD m default := rfl
            rw [he]
            exact getD_mem _ _ (by rw [List.length_drop]; omega))
           refine Cs (Ka rfl (Nt (Ce (Xf (Xb (Xb (Xf (Xb ?_))))))))
           exact R1 rfl rfl (by rw [chkN, if_neg (fun h => h h0), if_neg (fun h => h hok2), if_neg (fun h => h hnm), if_neg hc51, if_neg hc61, if_pos hn]; rfl)
          ·(try simp only [sB] at hc78)
           have hyy : elG k.g ((rlK k).getD j default) := by simpa using hc78
           refine Ck (Xd (Xa (Cg (Km rfl (Kq rfl (Rz rfl rfl rfl (by omega)) (Ka rfl (Nn ?_)))))))
           refine Ly (j + 1) (by (try dsimp only); omega) (S2 rfl rfl) (by refine (Sc ?_ (S0 _)) <;> (rfl)) ?_ (by (exact fun _ h => h))
           (try dsimp only)
           exact ⟨by omega, hjl, all_drop2 hjl hj2 hel hyy⟩
         ·(try simp only [sB] at hc68)
          refine Cx (Xc (Xc (Xe ?_)))
          obtain rfl : j = (rlK k).length := by omega
          rw [List.take_length] at hel
          refine Xa (Cs (Ka rfl (Nt (Ce ?_))))
          exact R1 rfl rfl (by rw [chkN, if_neg (fun h => h h0), if_neg (fun h => h hok2), if_neg (fun h => h hnm), if_neg hc51, if_neg hc61, if_neg (fun h => h ⟨(rlK_el k).1 hel, hs1⟩)]; rfl)
abbrev sA (p : PR) := addN p.lo p.sz
abbrev sM (p : PR) := mulN (sA p).1 p.msk
abbrev sB2 (p : PR) := addN p.bl p.bl
abbrev sC (p : PR) := addN (sB2 p).1 (sM p).1
abbrev sH (p : PR) := mulN p.han p.msk
def szE (p : PR) : Prop := (sA p).2 = 0 ∧ (sM p).2 = 0 ∧ (sB2 p).2 = 0 ∧ (sC p).2 = 0 ∧ (sH p).2 = 0
instance (p : PR) : Decidable (szE p) := inferInstanceAs (Decidable (_ ∧ _))
abbrev Tm := Bs × Int × Zs
abbrev Qn := Int × Bs × List Tm
abbrev Sm := List Gp × List Bs × List Qn
abbrev QA := Qn × Option Addr × Nat
structure SA where
 gs : List Gp
 vs : List Bs
 es : List QA
 ga : Option Addr
 gc : Nat
 va : Option Addr
 vc : Nat
 ea : Option Addr
 ec : Nat
def okT (nv : Nat) (t : Tm) : Prop := (0 ≤ t.2.1 ∧ t.2.1 < nv) ∧ okN t.1 ∧ okZ t.2.2
instance (nv : Nat) (t : Tm) : Decidable (okT nv t) := inferInstanceAs (Decidable (_ ∧ _))
def okQh (ng : Nat) (q : Qn) : Prop := (0 ≤ q.1 ∧ q.1 < ng) ∧ okN q.2.1
instance (ng : Nat) (q : Qn) : Decidable (okQh ng q) := inferInstanceAs (Decidable (_ ∧ _))
def okQ (ng nv : Nat) (q : Qn) : Prop := okQh ng q ∧ ∀ t ∈ q.2.2, okT nv t
instance (ng nv : Nat) (q : Qn) : Decidable (okQ ng nv q) := inferInstanceAs (Decidable (_ ∧ _))
def okG (g : Gp) : Prop := okN g.1 ∧ okN g.2
instance (g : Gp) : Decidable (okG g) := inferInstanceAs (Decidable (_ ∧ _))
def formS (s : Sm) : Prop := (∀ g ∈ s.1, okG g) ∧ (∀ v ∈ s.2.1, okN v) ∧ ∀ q ∈ s.2.2, okQ s.1.length s.2.1.length q
instance (s : Sm) : Decidable (formS s) := inferInstanceAs (Decidable (_ ∧ _))
def sizeS (s : Sm) : Prop := (s.1.length ≤ 8 ∧ s.2.1.length ≤ 64 ∧ s.2.2.length ≤ 64) ∧ ∀ q ∈ s.2.2, q.2.2.length ≤ 64
instance (s : Sm) : Decidable (sizeS s) := inferInstanceAs (Decidable (_ ∧ _))
def elQ (gs : List Gp) (q : Qn) : Prop := elG (gs.getD q.1.toNat default) q.2.1 ∧ ∀ t ∈ q.2.2, elG (gs.getD q.1.toNat default) t.1
instance (gs : List Gp) (q : Qn) : Decidable (elQ gs q) := inferInstanceAs (Decidable (_ ∧ _))
def elS (s : Sm) : Prop := (∀ g ∈ s.1, chkG g = 0) ∧ ∀ q ∈ s.2.2, elQ s.1 q
instance (s : Sm) : Decidable (elS s) := inferInstanceAs (Decidable (_ ∧ _))
def ordS (gs : List Gp) : Bs := ((gs.find? fun g => decide (g.2 ≠ [])).map (·.2)).getD []
def kdQ (gs : List Gp) (vs : List Bs) (q : Qn) : Prop := (gs.getD q.1.toNat default).2 ≠ [] ∨ ∀ t ∈ q.2.2, vs.getD t.2.1.toNat default ≠ []
instance (gs : List Gp) (vs : List Bs) (q : Qn) : Decidable (kdQ gs vs q) := inferInstanceAs (Decidable (_ ∨ _))
def kdS (s : Sm) : Prop := (∀ v ∈ s.2.1, v ≠ []) ∨ (ordS s.1 ≠ [] ∧ ∀ g ∈ s.1, ¬ (g.2 ≠ [] ∧ g.2 ≠ ordS s.1)) ∧ ∀ q ∈ s.2.2, kdQ s.1 s.2.1 q
instance (s : Sm) : Decidable (kdS s) := inferInstanceAs (Decidable (_ ∨ _))
def inV (q v : Bs) (x : Zs) : Prop := if v = [] then x.1 = false ∧ val x.2 < val q else val x.2 < val v
instance (q v : Bs) (x : Zs) : Decidable (inV q v x) := by unfold inV; infer_instance
def inR (s : Sm) (w : List Zs) : Prop := ∀ i, i < s.2.1.length → inV (ordS s.1) (s.2.1.getD i default) (w.getD i default)
instance (s : Sm) (w : List Zs) : Decidable (inR s w) := inferInstanceAs (Decidable (∀ i, i < s.2.1.length → _))
abbrev Or (m q x : Nat) : Prop := x ^ q % m = 1 % m
section
variable {ok : Nat → Prop} {w0 w : World} {own : List Ent} {fs : List Fact}
end
end Go.Proofs.YthkmpjobfdeoaaaGreatDoor
