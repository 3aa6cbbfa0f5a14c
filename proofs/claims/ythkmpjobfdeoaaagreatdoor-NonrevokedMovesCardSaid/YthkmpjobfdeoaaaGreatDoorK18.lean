/-
  Parts of the walk: Rpc Rik Siz Siy Siw Lin0 Gpl Hol Lin1.
-/
import Derived.Test.YthkmpjobfdeoaaaGreatDoorK17
namespace Go.Proofs.YthkmpjobfdeoaaaGreatDoor
open Go.RowKit
set_option linter.unusedSimpArgs false
set_option linter.unusedVariables false
set_option maxHeartbeats 600000
set_option maxRecDepth 20000
theorem okR_numR {p : PR} : okR p ↔ ∀ x ∈ numR p, okN x := by
 rw [okR_num]
 constructor <;> (intro h x hx; apply h; simp [numP, numR, pk4] at hx ⊢; rcases hx with rfl | rfl | rfl | rfl | rfl | rfl | rfl | rfl | rfl | rfl | rfl | rfl | rfl | rfl | rfl | rfl | rfl <;> simp)
theorem rpcheckR_c {p : PR} {w : World} (hm8 : p.mn.1.1.length ≤ 8) :
  Cw 82 #[prV p] w (.int .i64 (chkR p)) := by
 refine En [] [(0, prV p)] Tryz.func82 rfl Tryz.ntmps82 rfl (Ac rfl (An _)) Fn ?_
 refine Cs ?_
 refine Kh rfl (Oy rfl rfl) ?_
 intro b1
 refine Ka rfl (Nt (Cs ?_))
 refine Kq rfl (lda rfl rfl .tc u30 rfl ?_) ?_
 ·kernel_rfl
 refine Kh rfl (Oc rfl rfl (keep_f1 fun w hS => rnum_c)) ?_
 intro g11
 refine WL.pu ?_
 intro hg11; (try dsimp only at hg11 ⊢)
 refine Ka rfl (Nt (Cq (Cs (Ka rfl (Nt (Cb ?_))))))
 refine Lp (σ := Nat) [(1, _), (3, _)] (fun gq => [(4, .int .i64 (gq : Int))]) (fun gq => gq ≤ (numR p).length ∧ ∀ x ∈ (numR p).take gq, okN x) (fun gq => (numR p).length - gq) (0) (S2 rfl rfl) (S1 rfl) (by (try dsimp only); exact ⟨Nat.zero_le _, by simp⟩) ?_
 rintro i hinv1; (try dsimp only at hinv1 ⊢)
 obtain ⟨hi, hok⟩ := hinv1
 refine Cq (Cs (Km rfl (Km rfl (Kq rfl (rd_len rfl rfl u31) (Kq rfl (rd_lss rfl rfl rfl) (Nt ?_))))))
 refine Cd rfl (fun hc15 => ?_) (fun hc15 => ?_)
 ·(try simp only [sB] at hc15)
  have hil : i < (numR p).length := by show i < 17; omega
  obtain ⟨y, hy⟩ : ∃ y, Keep (y = (numR p).getD i default) := ⟨_, rfl⟩
  refine Ck (Xa (Cq (Cb (Cs (Km rfl (Km rfl ?_))))))
  refine Kq rfl (Ib rfl rfl rfl u31 (by omega) (by (rw [List.length_map]; omega))) ?_
  refine Kq rfl (ldm rfl rfl u22 rfl (by assumption)) ?_
  refine Ns 21 rfl (v' := .string (S (y))) (congrArg (fun l => Value.string (S l)) (by rw [show y = _ from hy])) ?_
  refine Ku rfl (Oc rfl rfl (Kv fun w hS => rvalid_c (a := y))) ?_
  refine Kq rfl (Rt rfl rfl) (Nt ?_)
  refine Cd rfl (fun hc23 => ?_) (fun hc23 => ?_)
  ·(try simp only [sB] at hc23)
   have hyn : ¬ okN y := by simpa using hc23
   have hn : ¬ okR p := fun h => hyn (by rw [show y = _ from hy]; exact okR_numR.1 h _ (getD_mem (numR p) i hil))
   refine Cs (Ka rfl (Nt (Ce (Xf (Xb (Xb (Xf (Xb ?_))))))))
   exact R1 rfl rfl (by rw [chkR, if_pos hn]; rfl)
  ·(try simp only [sB] at hc23)
   have hyy : okN y := by simpa using hc23
   refine Ck (Xd (Xa (Cg (Km rfl (Kq rfl (Rz rfl rfl rfl (by omega)) (Ka rfl (Nn ?_)))))))
   refine Ly (i + 1) (by (try dsimp only); omega) (S2 rfl rfl) (by refine (Sc ?_ (S0 _)) <;> (rfl)) ?_ (by (exact fun _ h => h))
   (try dsimp only)
   exact ⟨hil, all_take hil hok (by rw [← show y = _ from hy]; exact hyy)⟩
 ·(try simp only [sB] at hc15)
  refine Cx (Xc (Xc (Xe ?_)))
  obtain rfl : i = (numR p).length := by show i = 17; have h17 : i ≤ 17 := hi; omega
  rw [List.take_length] at hok
  have hokR : okR p := okR_numR.2 hok
  have hB8 : 8 < Big := Nat.lt_of_lt_of_le (by decide) big64
  have hz : p.mn.1.2 = [] → ¬ chkP9 p.mn.1 = 0 := fun h h0 => by
   unfold chkP9 at h0; rw [h] at h0
   split at h0
   ·simp at h0
   ·split at h0
    ·simp at h0
    ·split at h0
     ·simp at h0
     ·split at h0
      ·simp at h0
      ·rw [show isP (val []) = false from rfl] at h0; simp at h0
  have hu1 : ¬ p.wh.1.2 = [] → ¬ unitR p.wh.1 p.wh.2.1 := fun h h0 => h h0.1.1.2.1
  have hu2 : ¬ val p.wh.1.1 % 2 = 1 → ¬ unitR p.wh.1 p.wh.2.1 := fun h h0 => h h0.1.1.2.2.1
  have hu3 : ¬ 8 < val p.wh.1.1 → ¬ unitR p.wh.1 p.wh.2.1 := fun h h0 => h h0.1.1.2.2.2
  have hw1 : okN p.wh.1.1 := hokR.2.2.1
  have hq : okN p.mn.1.2 := hokR.2.1.2.1
  have hqB := okN_val hq
  have h2B : okN (canon 2) := okN_can (by omega)
  have hch : okN p.ch := hokR.1 _ (by simp)
  have hsl : okN p.sl := hokR.1 _ (by simp)
  have hse : okN p.sec := hokR.1 _ (by simp)
  have hat : okN p.attr := hokR.1 _ (by simp)
  have hha : okN p.han := hokR.1 _ (by simp)
  have hlo : okN p.lo := hokR.1 _ (by simp)
  have hsz : okN p.sz := hokR.1 _ (by simp)
  have hbl : okN p.bl := hokR.1 _ (by simp)
  have hmk : okN p.msk := hokR.1 _ (by simp)
  have hmu : mulN (canon 8) p.attr = if 8 * val p.attr < Big then (canon (8 * val p.attr), 0) else ([], 5) := by rw [mulN, if_pos ⟨okN_can hB8, hat⟩, val_canon]
  refine Xa (Cq ?_)
  refine WC.free (K := [⟨some b1, prC p, 30⟩]) (fs0 := []) [0, 1, 2, 6, 7, 8, 3, 4, 5] [9] [0, 0, 0, 0, 0, 0, 3, 3, 1, 2] (by kernel_rfl) (by kernel_rfl) rfl ?_
  refine Kj rfl (Fa (q := 2) rfl rfl u30 rfl rfl) (Kj rfl (Fa (q := 2) rfl rfl u28 rfl rfl) ?_)
  refine Kj rfl (ldp rfl rfl .tc u26 rfl (by kernel_rfl : _ = some 2) (by rfl) (by rfl)) ?_
  refine Jf rfl rfl rfl rfl rfl (fr_alloc rfl (v := (.agg #[.string (S []), .string (S [])])) (cs := [.string (S []), .string (S [])]) (by kernel_rfl) rfl) ?_
  intro b5
  refine Jf rfl rfl rfl rfl rfl (fr_alloc rfl (v := (.agg #[.string (S []), .string (S [])])) (cs := [.string (S []), .string (S [])]) (by kernel_rfl) rfl) ?_
  intro b6
  refine WJ.st rfl rfl rfl rfl (staJ rfl rfl rfl ?_ ?_ ?_) ?_
  ·kernel_rfl
  ·simp [Value.oneCell']
  ·rfl
  refine Kj rfl (Fa (q := 6) rfl rfl u30 rfl rfl) (Kj rfl (Fa (q := 6) rfl rfl u28 rfl rfl) ?_)
  refine Kj rfl (ldp rfl rfl .tc u26 rfl (by kernel_rfl : _ = some 2) (by rfl) (by rfl)) ?_
  refine WJ.nil ?_
  refine Nu rfl rfl (Sa rfl rfl rfl .tc) ?_
  refine Nt (Cq ?_)
  refine WC.joinP (σ := Unit) [(1, _), (5, _), (6, _)] (fun gq => [(53, .bool (decide (¬ (chkP9 p.mn.1 = 0 ∧ genP p.mn.1 p.mn.2.1 ∧ genP p.mn.1 p.mn.2.2))))]) (fun gq => True) (S3 rfl rfl rfl) ?_ ?_
  ·skip
   refine Cg (Kq rfl (Fa (q := 1) rfl rfl u26 rfl rfl) (Kq rfl (Ld rfl rfl .tc u22) ?_))
   refine Kq rfl (rd_seq rfl rfl rfl) (Km rfl ?_)
   refine Nb 33 rfl (fun hg33 => ?_) (fun hg33 => ?_)
   ·(try simp only [sB] at hg33)
    refine Kt rfl (Kt rfl (Kt rfl (Kq rfl (Rp rfl rfl rfl) (Km rfl (Kt rfl (Kt rfl (Kt rfl (Kt rfl (Kt rfl (Kt rfl (Kq rfl (Rp rfl rfl rfl) (Km rfl (Kt rfl (Kt rfl (Kt rfl (Kt rfl (Kt rfl (Kt rfl (Kq rfl (Rp rfl rfl rfl) (Nn ?_))))))))))))))))))))
    refine WX.joinP (()) (S3 rfl rfl rfl) (by refine (Sc ?_ (S0 _)) <;> ((refine slot_b rfl ?_; (try dsimp only); (simp [*]; done)))) ?_ (by (exact fun _ h => h))
    (try dsimp only)
    done
   ·(try simp only [sB] at hg33)
    refine Kq rfl (lda rfl rfl .tc u26 rfl ?_) ?_
    ·kernel_rfl
    refine Ku rfl (Oc rfl rfl (Kv fun w hS => rgchk_c (g := p.mn.1))) ?_
    refine Kq rfl (rd_neq rfl rfl rfl) (Kq rfl (Rq rfl rfl rfl) (Km rfl ?_))
    refine Nb 38 rfl (fun hg38 => ?_) (fun hg38 => ?_)
    ·(try simp only [sB] at hg38)
     refine Kt rfl (Kt rfl (Kt rfl (Kt rfl (Kt rfl (Kt rfl (Kq rfl (Rp rfl rfl rfl) (Km rfl (Kt rfl (Kt rfl (Kt rfl (Kt rfl (Kt rfl (Kt rfl (Kq rfl (Rp rfl rfl rfl) (Nn ?_)))))))))))))))
     refine WX.joinP (()) (S3 rfl rfl rfl) (by refine (Sc ?_ (S0 _)) <;> ((refine slot_b rfl ?_; (try dsimp only); (simp [*]; done)))) ?_ (by (exact fun _ h => h))
     (try dsimp only)
     done
    ·(try simp only [sB] at hg38)
     refine Kq rfl (lda rfl rfl .tc u26 rfl ?_) ?_
     ·kernel_rfl
     refine Kq rfl (Fa (q := 2) rfl rfl u30 rfl rfl) (Kq rfl (Fa (q := 4) rfl rfl u28 rfl rfl) (Kq rfl (Ld rfl rfl .tc u22) ?_))
     refine Ku rfl (Oc rfl rfl (Kv fun w hS => rggen_c (g := p.mn.1) (x := p.mn.2.1) (by assumption))) ?_
     refine Kq rfl (Rt rfl rfl) (Kq rfl (Rq rfl rfl rfl) (Km rfl ?_))
     refine Nb 46 rfl (fun hg46 => ?_) (fun hg46 => ?_)
     ·(try simp only [sB] at hg46)
      refine Kt rfl (Kt rfl (Kt rfl (Kt rfl (Kt rfl (Kt rfl (Kq rfl (Rp rfl rfl rfl) (Nn ?_)))))))
      refine WX.joinP (()) (S3 rfl rfl rfl) (by refine (Sc ?_ (S0 _)) <;> ((refine slot_b rfl ?_; (try dsimp only); (simp [*]; done)))) ?_ (by (exact fun _ h => h))
      (try dsimp only)
      done
     ·(try simp only [sB] at hg46)
      refine Kq rfl (lda rfl rfl .tc u26 rfl ?_) ?_
      ·kernel_rfl
      refine Kq rfl (Fa (q := 2) rfl rfl u30 rfl rfl) (Kq rfl (Fa (q := 5) rfl rfl u28 rfl rfl) (Kq rfl (Ld rfl rfl .tc u22) ?_))
      refine Ku rfl (Oc rfl rfl (Kv fun w hS => rggen_c (g := p.mn.1) (x := p.mn.2.2) (by assumption))) ?_
      refine Kq rfl (Rt rfl rfl) (Kq rfl (Rq rfl rfl rfl) (Nn ?_))
      refine WX.joinP (()) (S3 rfl rfl rfl) (by refine (Sc ?_ (S0 _)) <;> ((refine slot_b rfl ?_; (try dsimp only); (simp [*]; done)))) ?_ (by (exact fun _ h => h))
      (try dsimp only)
      done
  ·rintro _ hmeet; (try dsimp only at hmeet ⊢)
   refine Cd rfl (fun hc53 => ?_) (fun hc53 => ?_)
   ·(try simp only [sB] at hc53)
    refine Cs (Ka rfl (Nt (Ce (Xb ?_))))
    exact R1 rfl rfl (by rw [chkR, if_neg (fun h => h hokR), if_pos (fun h : grpR p => hc53 ⟨h.1, h.2.1, h.2.2.1⟩)]; rfl)
   ·(try simp only [sB] at hc53)
    have hg1 := Decidable.not_not.1 hc53
    refine Ck (Xa (Cq ?_))
    refine WC.joinP (σ := Unit) [(1, _), (5, _)] (fun gq => [(85, .bool (decide (¬ (unitR p.wh.1 p.wh.2.1 ∧ unitR p.wh.1 p.wh.2.2))))]) (fun gq => True) (S2 rfl rfl) ?_ ?_
    ·skip
     refine Cf [0, 1, 2, 3, 4, 5, 6, 7, 8, 9, 10, 11, 12, 13, 14, 15, 16, 17, 18, 19, 20, 21, 22, 23, 24, 25, 26, 27, 28, 29, 30, 31] [] [0, 0, 0, 0, 0, 0, 1, 0, 0, 0, 1, 0, 0, 1, 0, 0, 0, 0, 0, 0, 0, 1, 0, 0, 0, 0, 0, 0, 0, 1, 0, 0] (by kernel_rfl) (by kernel_rfl) rfl ?_
     refine Kj rfl (Fa (q := 1) rfl rfl u26 rfl rfl) (Kj rfl (Ld rfl rfl .tc u22) ?_)
     refine Kj rfl (rd_sne rfl rfl rfl) (Kj rfl (Rm rfl rfl) ?_)
     refine WJ.bool 57 rfl (fun hg57 => ?_) (fun hg57 => ?_)
     ·(try simp only [sB] at hg57)
      refine Js rfl rfl rfl rfl (Js rfl rfl rfl rfl (Js rfl rfl rfl rfl (Js rfl rfl rfl rfl (Kj rfl (Rp rfl rfl rfl) (Kj rfl (Rm rfl rfl) (Js rfl rfl rfl rfl (Js rfl rfl rfl rfl (Js rfl rfl rfl rfl (Js rfl rfl rfl rfl (Js rfl rfl rfl rfl (Kj rfl (Rp rfl rfl rfl) (Kj rfl (Rm rfl rfl) (Js rfl rfl rfl rfl (Js rfl rfl rfl rfl (Js rfl rfl rfl rfl (Js rfl rfl rfl rfl (Js rfl rfl rfl rfl (Js rfl rfl rfl rfl (Kj rfl (Rp rfl rfl rfl) (Kj rfl (Rm rfl rfl) (Js rfl rfl rfl rfl (Js rfl rfl rfl rfl (Js rfl rfl rfl rfl (Js rfl rfl rfl rfl (Js rfl rfl rfl rfl (Js rfl rfl rfl rfl (Kj rfl (Rp rfl rfl rfl) ?_)))))))))))))))))))))))))))
      refine WJ.nil ?_
      refine Nn ?_
      refine WX.joinP (()) (S2 rfl rfl) (by refine (Sc ?_ (S0 _)) <;> ((refine slot_b rfl ?_; (try dsimp only); (simp [*]; done)))) ?_ (by (exact fun _ h => h))
      (try dsimp only)
      done
     ·(try simp only [sB] at hg57)
      refine Kj rfl (Fa (q := 0) rfl rfl u26 rfl rfl) (Kj rfl (Ld rfl rfl .tc u22) ?_)
      refine Jv rfl rfl rfl rfl rfl (fun ext => Oc rfl rfl (Kv fun w hS => rbit_c (a := p.wh.1.1) (i := 0) (by omega))) ?_
      refine WJ.set 60 rfl (v' := .bool (decide (val p.wh.1.1 % 2 = 1))) (congrArg Value.bool (by exact odd_bit hw1)) ?_
      refine Kj rfl (Rt rfl rfl) (Kj rfl (Rq rfl rfl rfl) (Kj rfl (Rm rfl rfl) ?_))
      refine WJ.bool 63 rfl (fun hg63 => ?_) (fun hg63 => ?_)
      ·(try simp only [sB] at hg63)
       refine Js rfl rfl rfl rfl (Js rfl rfl rfl rfl (Js rfl rfl rfl rfl (Js rfl rfl rfl rfl (Js rfl rfl rfl rfl (Kj rfl (Rp rfl rfl rfl) (Kj rfl (Rm rfl rfl) (Js rfl rfl rfl rfl (Js rfl rfl rfl rfl (Js rfl rfl rfl rfl (Js rfl rfl rfl rfl (Js rfl rfl rfl rfl (Js rfl rfl rfl rfl (Kj rfl (Rp rfl rfl rfl) (Kj rfl (Rm rfl rfl) (Js rfl rfl rfl rfl (Js rfl rfl rfl rfl (Js rfl rfl rfl rfl (Js rfl rfl rfl rfl (Js rfl rfl rfl rfl (Js rfl rfl rfl rfl (Kj rfl (Rp rfl rfl rfl) ?_)))))))))))))))))))))
       refine WJ.nil ?_
       refine Nn ?_
       refine WX.joinP (()) (S2 rfl rfl) (by refine (Sc ?_ (S0 _)) <;> ((refine slot_b rfl ?_; (try dsimp only); (simp [*]; done)))) ?_ (by (exact fun _ h => h))
       (try dsimp only)
       done
      ·(try simp only [sB] at hg63)
       refine Jv rfl rfl rfl rfl rfl (fun ext => Oc rfl rfl (Kv fun w hS => rof_c (n := 8) (by omega))) ?_
       refine Kj rfl (Fa (q := 0) rfl rfl u26 rfl rfl) (Kj rfl (Ld rfl rfl .tc u22) ?_)
       refine Jv rfl rfl rfl rfl rfl (fun ext => Oc rfl rfl (Kv fun w hS => rless_c (a := canon 8) (b := p.wh.1.1))) ?_
       refine WJ.set 67 rfl (v' := .bool (decide (8 < val p.wh.1.1))) (congrArg Value.bool (by rw [cmpN_ok (okN_can hB8) hw1, val_canon]; exact decide_eq_decide.2 (cmpI_neg _ _))) ?_
       refine Kj rfl (Rt rfl rfl) (Kj rfl (Rq rfl rfl rfl) (Kj rfl (Rm rfl rfl) ?_))
       refine WJ.bool 70 rfl (fun hg70 => ?_) (fun hg70 => ?_)
       ·(try simp only [sB] at hg70)
        refine Js rfl rfl rfl rfl (Js rfl rfl rfl rfl (Js rfl rfl rfl rfl (Js rfl rfl rfl rfl (Js rfl rfl rfl rfl (Js rfl rfl rfl rfl (Kj rfl (Rp rfl rfl rfl) (Kj rfl (Rm rfl rfl) (Js rfl rfl rfl rfl (Js rfl rfl rfl rfl (Js rfl rfl rfl rfl (Js rfl rfl rfl rfl (Js rfl rfl rfl rfl (Js rfl rfl rfl rfl (Kj rfl (Rp rfl rfl rfl) ?_))))))))))))))
        refine WJ.nil ?_
        refine Nn ?_
        refine WX.joinP (()) (S2 rfl rfl) (by refine (Sc ?_ (S0 _)) <;> ((refine slot_b rfl ?_; (try dsimp only); (simp [*]; done)))) ?_ (by (exact fun _ h => h))
        (try dsimp only)
        done
       ·(try simp only [sB] at hg70)
        refine Kj rfl (lda rfl rfl .tc u26 rfl ?_) ?_
        ·kernel_rfl
        refine Kj rfl (Fa (q := 6) rfl rfl u30 rfl rfl) (Kj rfl (Fa (q := 8) rfl rfl u28 rfl rfl) (Kj rfl (Ld rfl rfl .tc u22) ?_))
        refine Jv rfl rfl rfl rfl rfl (fun ext => Oc rfl rfl (Kv fun w hS => runit_c (g := p.wh.1) (x := p.wh.2.1))) ?_
        refine Kj rfl (Rt rfl rfl) (Kj rfl (Rq rfl rfl rfl) (Kj rfl (Rm rfl rfl) ?_))
        refine WJ.bool 78 rfl (fun hg78 => ?_) (fun hg78 => ?_)
        ·(try simp only [sB] at hg78)
         refine Js rfl rfl rfl rfl (Js rfl rfl rfl rfl (Js rfl rfl rfl rfl (Js rfl rfl rfl rfl (Js rfl rfl rfl rfl (Js rfl rfl rfl rfl (Kj rfl (Rp rfl rfl rfl) ?_))))))
         refine WJ.nil ?_
         refine Nn ?_
         refine WX.joinP (()) (S2 rfl rfl) (by refine (Sc ?_ (S0 _)) <;> ((refine slot_b rfl ?_; (try dsimp only); (simp [*]; done)))) ?_ (by (exact fun _ h => h))
         (try dsimp only)
         done
        ·(try simp only [sB] at hg78)
         refine Kj rfl (lda rfl rfl .tc u26 rfl ?_) ?_
         ·kernel_rfl
         refine Kj rfl (Fa (q := 6) rfl rfl u30 rfl rfl) (Kj rfl (Fa (q := 9) rfl rfl u28 rfl rfl) (Kj rfl (Ld rfl rfl .tc u22) ?_))
         refine Jv rfl rfl rfl rfl rfl (fun ext => Oc rfl rfl (Kv fun w hS => runit_c (g := p.wh.1) (x := p.wh.2.2))) ?_
         refine Kj rfl (Rt rfl rfl) (Kj rfl (Rq rfl rfl rfl) ?_)
         refine WJ.nil ?_
         refine Nn ?_
         refine WX.joinP (()) (S2 rfl rfl) (by refine (Sc ?_ (S0 _)) <;> ((refine slot_b rfl ?_; (try dsimp only); (simp [*]; done)))) ?_ (by (exact fun _ h => h))
         (try dsimp only)
         done
    ·rintro _ hmeet; (try dsimp only at hmeet ⊢)
     refine Cd rfl (fun hc85 => ?_) (fun hc85 => ?_)
     ·(try simp only [sB] at hc85)
      refine Cs (Ka rfl (Nt (Ce (Xb ?_))))
      exact R1 rfl rfl (by rw [chkR, if_neg (fun h => h hokR), if_pos (fun h : grpR p => hc85 ⟨h.2.2.2.1, h.2.2.2.2⟩)]; rfl)
     ·(try simp only [sB] at hc85)
      have hg2 := Decidable.not_not.1 hc85
      have hgr : grpR p := ⟨hg1.1, hg1.2.1, hg1.2.2, hg2.1, hg2.2⟩
      refine Ck (Xa (Cs ?_))
      refine Ku rfl (Oc rfl rfl (Kv fun w hS => rof_c (n := 2) (by omega))) ?_
      refine Ka rfl (Nt (Cq ?_))
      refine Cf [0, 1, 2, 3, 4, 5, 6, 7, 8] [] [1, 0, 0, 1, 0, 0, 0, 0, 0] (by kernel_rfl) (by kernel_rfl) rfl ?_
      refine Jv rfl rfl rfl rfl rfl (fun ext => Oc rfl rfl (Kv fun w hS => rof_c (n := 8) (by omega))) ?_
      refine Kj rfl (Fa (q := 11) rfl rfl u30 rfl rfl) (Kj rfl (Ld rfl rfl .tc u22) ?_)
      refine Jv rfl rfl rfl rfl rfl (fun ext => Oc rfl rfl (Kv fun w hS => rmul_c (a := canon 8) (b := p.attr))) ?_
      refine Kj rfl (Rm rfl rfl) (Kj rfl (Re rfl rfl rfl) (Kj rfl (Re rfl rfl rfl) (Kj rfl (Ra rfl rfl) (Kj rfl (Ra rfl rfl) ?_))))
      refine WJ.nil ?_
      refine Nt (Cq ?_)
      refine WC.joinP (σ := Unit) [(1, _), (7, _)] (fun gq => [(142, .bool (decide (¬ (2 ≤ val p.ch ∧ val p.ch ≤ val p.mn.1.2 ∧ 2 ≤ val p.sl ∧ 2 ≤ val p.sec ∧ val p.sec ≤ val p.mn.1.2 ∧ 2 ≤ val p.attr ∧ 8 * val p.attr ≤ val p.mn.1.2))))]) (fun gq => True) (S2 rfl rfl) ?_ ?_
      ·skip
       refine Cg (Kq rfl (Fa (q := 0) rfl rfl u30 rfl rfl) (Kq rfl (Fa (q := 0) rfl rfl u24 rfl rfl) (Kq rfl (Ld rfl rfl .tc u22) ?_)))
       refine Km rfl ?_
       refine Ku rfl (Oc rfl rfl (Kv fun w hS => rless_c (a := p.ch) (b := canon 2))) ?_
       refine Ns 98 rfl (v' := .bool (decide (val p.ch < 2))) (congrArg Value.bool (by rw [cmpN_ok hch h2B, val_canon]; exact decide_eq_decide.2 (cmpI_neg _ _))) ?_
       refine Km rfl ?_
       refine Nb 99 rfl (fun hg99 => ?_) (fun hg99 => ?_)
       ·(try simp only [sB] at hg99)
        refine Kt rfl (Kt rfl (Kt rfl (Kt rfl (Kt rfl (Kt rfl (Kq rfl (Rp rfl rfl rfl) (Km rfl (Kt rfl (Kt rfl (Kt rfl (Kt rfl (Kt rfl (Kq rfl (Rp rfl rfl rfl) (Km rfl (Kt rfl (Kt rfl (Kt rfl (Kt rfl (Kq rfl (Rp rfl rfl rfl) (Km rfl (Kt rfl (Kt rfl (Kt rfl (Kt rfl (Kt rfl (Kq rfl (Rp rfl rfl rfl) (Km rfl (Kt rfl (Kt rfl (Kt rfl (Kt rfl (Kq rfl (Rp rfl rfl rfl) (Km rfl (Kt rfl (Kt rfl (Kq rfl (Rp rfl rfl rfl) (Km rfl (Kt rfl (Kt rfl (Kt rfl (Kt rfl (Kq rfl (Rp rfl rfl rfl) (Nn ?_)))))))))))))))))))))))))))))))))))))))))))
        refine WX.joinP (()) (S2 rfl rfl) (by refine (Sc ?_ (S0 _)) <;> ((refine slot_b rfl ?_; (try dsimp only); (simp [*]; done)))) ?_ (by (exact fun _ h => h))
        (try dsimp only)
        done
       ·(try simp only [sB] at hg99)
        refine Kq rfl (Fa (q := 1) rfl rfl u26 rfl rfl) (Kq rfl (Ld rfl rfl .tc u22) ?_)
        refine Kq rfl (Fa (q := 0) rfl rfl u30 rfl rfl) (Kq rfl (Fa (q := 0) rfl rfl u24 rfl rfl) (Kq rfl (Ld rfl rfl .tc u22) ?_))
        refine Ku rfl (Oc rfl rfl (Kv fun w hS => rless_c (a := p.mn.1.2) (b := p.ch))) ?_
        refine Ns 105 rfl (v' := .bool (decide (val p.mn.1.2 < val p.ch))) (congrArg Value.bool (by rw [cmpN_ok hq hch]; exact decide_eq_decide.2 (cmpI_neg _ _))) ?_
        refine Kq rfl (Rq rfl rfl rfl) (Km rfl ?_)
        refine Nb 107 rfl (fun hg107 => ?_) (fun hg107 => ?_)
        ·(try simp only [sB] at hg107)
         refine Kt rfl (Kt rfl (Kt rfl (Kt rfl (Kt rfl (Kq rfl (Rp rfl rfl rfl) (Km rfl (Kt rfl (Kt rfl (Kt rfl (Kt rfl (Kq rfl (Rp rfl rfl rfl) (Km rfl (Kt rfl (Kt rfl (Kt rfl (Kt rfl (Kt rfl (Kq rfl (Rp rfl rfl rfl) (Km rfl (Kt rfl (Kt rfl (Kt rfl (Kt rfl (Kq rfl (Rp rfl rfl rfl) (Km rfl (Kt rfl (Kt rfl (Kq rfl (Rp rfl rfl rfl) (Km rfl (Kt rfl (Kt rfl (Kt rfl (Kt rfl (Kq rfl (Rp rfl rfl rfl) (Nn ?_)))))))))))))))))))))))))))))))))))
         refine WX.joinP (()) (S2 rfl rfl) (by refine (Sc ?_ (S0 _)) <;> ((refine slot_b rfl ?_; (try dsimp only); (simp [*]; done)))) ?_ (by (exact fun _ h => h))
         (try dsimp only)
         done
        ·(try simp only [sB] at hg107)
         refine Kq rfl (Fa (q := 0) rfl rfl u30 rfl rfl) (Kq rfl (Fa (q := 1) rfl rfl u24 rfl rfl) (Kq rfl (Ld rfl rfl .tc u22) ?_))
         refine Km rfl ?_
         refine Ku rfl (Oc rfl rfl (Kv fun w hS => rless_c (a := p.sl) (b := canon 2))) ?_
         refine Ns 112 rfl (v' := .bool (decide (val p.sl < 2))) (congrArg Value.bool (by rw [cmpN_ok hsl h2B, val_canon]; exact decide_eq_decide.2 (cmpI_neg _ _))) ?_
         refine Kq rfl (Rq rfl rfl rfl) (Km rfl ?_)
         refine Nb 114 rfl (fun hg114 => ?_) (fun hg114 => ?_)
         ·(try simp only [sB] at hg114)
          refine Kt rfl (Kt rfl (Kt rfl (Kt rfl (Kq rfl (Rp rfl rfl rfl) (Km rfl (Kt rfl (Kt rfl (Kt rfl (Kt rfl (Kt rfl (Kq rfl (Rp rfl rfl rfl) (Km rfl (Kt rfl (Kt rfl (Kt rfl (Kt rfl (Kq rfl (Rp rfl rfl rfl) (Km rfl (Kt rfl (Kt rfl (Kq rfl (Rp rfl rfl rfl) (Km rfl (Kt rfl (Kt rfl (Kt rfl (Kt rfl (Kq rfl (Rp rfl rfl rfl) (Nn ?_))))))))))))))))))))))))))))
          refine WX.joinP (()) (S2 rfl rfl) (by refine (Sc ?_ (S0 _)) <;> ((refine slot_b rfl ?_; (try dsimp only); (simp [*]; done)))) ?_ (by (exact fun _ h => h))
          (try dsimp only)
          done
         ·(try simp only [sB] at hg114)
          refine Kq rfl (Fa (q := 10) rfl rfl u30 rfl rfl) (Kq rfl (Ld rfl rfl .tc u22) ?_)
          refine Km rfl ?_
          refine Ku rfl (Oc rfl rfl (Kv fun w hS => rless_c (a := p.sec) (b := canon 2))) ?_
          refine Ns 118 rfl (v' := .bool (decide (val p.sec < 2))) (congrArg Value.bool (by rw [cmpN_ok hse h2B, val_canon]; exact decide_eq_decide.2 (cmpI_neg _ _))) ?_
          refine Kq rfl (Rq rfl rfl rfl) (Km rfl ?_)
          refine Nb 120 rfl (fun hg120 => ?_) (fun hg120 => ?_)
          ·(try simp only [sB] at hg120)
           refine Kt rfl (Kt rfl (Kt rfl (Kt rfl (Kt rfl (Kq rfl (Rp rfl rfl rfl) (Km rfl (Kt rfl (Kt rfl (Kt rfl (Kt rfl (Kq rfl (Rp rfl rfl rfl) (Km rfl (Kt rfl (Kt rfl (Kq rfl (Rp rfl rfl rfl) (Km rfl (Kt rfl (Kt rfl (Kt rfl (Kt rfl (Kq rfl (Rp rfl rfl rfl) (Nn ?_))))))))))))))))))))))
           refine WX.joinP (()) (S2 rfl rfl) (by refine (Sc ?_ (S0 _)) <;> ((refine slot_b rfl ?_; (try dsimp only); (simp [*]; done)))) ?_ (by (exact fun _ h => h))
           (try dsimp only)
           done
          ·(try simp only [sB] at hg120)
           refine Kq rfl (Fa (q := 1) rfl rfl u26 rfl rfl) (Kq rfl (Ld rfl rfl .tc u22) ?_)
           refine Kq rfl (Fa (q := 10) rfl rfl u30 rfl rfl) (Kq rfl (Ld rfl rfl .tc u22) ?_)
           refine Ku rfl (Oc rfl rfl (Kv fun w hS => rless_c (a := p.mn.1.2) (b := p.sec))) ?_
           refine Ns 125 rfl (v' := .bool (decide (val p.mn.1.2 < val p.sec))) (congrArg Value.bool (by rw [cmpN_ok hq hse]; exact decide_eq_decide.2 (cmpI_neg _ _))) ?_
           refine Kq rfl (Rq rfl rfl rfl) (Km rfl ?_)
           refine Nb 127 rfl (fun hg127 => ?_) (fun hg127 => ?_)
           ·(try simp only [sB] at hg127)
            refine Kt rfl (Kt rfl (Kt rfl (Kt rfl (Kq rfl (Rp rfl rfl rfl) (Km rfl (Kt rfl (Kt rfl (Kq rfl (Rp rfl rfl rfl) (Km rfl (Kt rfl (Kt rfl (Kt rfl (Kt rfl (Kq rfl (Rp rfl rfl rfl) (Nn ?_)))))))))))))))
            refine WX.joinP (()) (S2 rfl rfl) (by refine (Sc ?_ (S0 _)) <;> ((refine slot_b rfl ?_; (try dsimp only); (simp [*]; done)))) ?_ (by (exact fun _ h => h))
            (try dsimp only)
            done
           ·(try simp only [sB] at hg127)
            refine Kq rfl (Fa (q := 11) rfl rfl u30 rfl rfl) (Kq rfl (Ld rfl rfl .tc u22) ?_)
            refine Km rfl ?_
            refine Ku rfl (Oc rfl rfl (Kv fun w hS => rless_c (a := p.attr) (b := canon 2))) ?_
            refine Ns 131 rfl (v' := .bool (decide (val p.attr < 2))) (congrArg Value.bool (by rw [cmpN_ok hat h2B, val_canon]; exact decide_eq_decide.2 (cmpI_neg _ _))) ?_
            refine Kq rfl (Rq rfl rfl rfl) (Km rfl ?_)
            refine Nb 133 rfl (fun hg133 => ?_) (fun hg133 => ?_)
            ·(try simp only [sB] at hg133)
             refine Kt rfl (Kt rfl (Kq rfl (Rp rfl rfl rfl) (Km rfl (Kt rfl (Kt rfl (Kt rfl (Kt rfl (Kq rfl (Rp rfl rfl rfl) (Nn ?_)))))))))
             refine WX.joinP (()) (S2 rfl rfl) (by refine (Sc ?_ (S0 _)) <;> ((refine slot_b rfl ?_; (try dsimp only); (simp [*]; done)))) ?_ (by (exact fun _ h => h))
             (try dsimp only)
             done
            ·(try simp only [sB] at hg133)
             refine Km rfl (Kq rfl (rd_neq rfl rfl rfl) ?_)
             refine Ns 135 rfl (v' := .bool (decide (Big ≤ 8 * val p.attr))) (congrArg Value.bool (by rw [hmu]; split <;> simp <;> omega)) ?_
             refine Kq rfl (Rq rfl rfl rfl) (Km rfl ?_)
             refine Nb 137 rfl (fun hg137 => ?_) (fun hg137 => ?_)
             ·(try simp only [sB] at hg137)
              refine Kt rfl (Kt rfl (Kt rfl (Kt rfl (Kq rfl (Rp rfl rfl rfl) (Nn ?_)))))
              refine WX.joinP (()) (S2 rfl rfl) (by refine (Sc ?_ (S0 _)) <;> ((exact congrArg (fun b => some (Value.bool b)) (by symm; apply decide_eq_true; omega)))) ?_ (by (exact fun _ h => h))
              (try dsimp only)
              done
             ·(try simp only [sB] at hg137)
              refine Kq rfl (Fa (q := 1) rfl rfl u26 rfl rfl) (Kq rfl (Ld rfl rfl .tc u22) ?_)
              refine Km rfl ?_
              refine Ku rfl (Oc rfl rfl (Kv fun w hS => rless_c (a := p.mn.1.2) (b := (mulN (canon 8) p.attr).1))) ?_
              refine Ns 141 rfl (v' := .bool (decide (val p.mn.1.2 < 8 * val p.attr))) (congrArg Value.bool (by rw [hmu, if_pos (by omega), cmpN_ok hq (okN_can (by omega)), val_canon]; exact decide_eq_decide.2 (cmpI_neg _ _))) ?_
              refine Kq rfl (Rq rfl rfl rfl) (Nn ?_)
              refine WX.joinP (()) (S2 rfl rfl) (by refine (Sc ?_ (S0 _)) <;> ((refine slot_b rfl ?_; (try dsimp only); (exact decide_eq_decide.2 (by omega))))) ?_ (by (exact fun _ h => h))
              (try dsimp only)
              done
      ·rintro _ hmeet; (try dsimp only at hmeet ⊢)
       refine Cd rfl (fun hc142 => ?_) (fun hc142 => ?_)
       ·(try simp only [sB] at hc142)
        refine Cs (Ka rfl (Nt (Ce (Xb ?_))))
        exact R1 rfl rfl (by rw [chkR, if_neg (fun h => h hokR), if_neg (fun h => h hgr), if_pos (fun h : rngR p => hc142 ⟨h.1 _ (by simp), h.2.2.1, h.1 _ (by simp), h.1 _ (by simp), h.2.2.2, h.1 _ (by simp), h.2.1⟩)]; rfl)
       ·(try simp only [sB] at hc142)
        obtain ⟨r1, r2, r3, r4, r5, r6, r7⟩ := Decidable.not_not.1 hc142
        refine Ck (Xa (Cq ?_))
        refine WC.joinP (σ := Unit) [] (fun gq => [(170, .bool (decide (¬ (2 ≤ val p.han ∧ 2 ≤ val p.lo ∧ 2 ≤ val p.sz ∧ 2 ≤ val p.bl ∧ 2 ≤ val p.msk))))]) (fun gq => True) (S0 _) ?_ ?_
        ·skip
         refine Cg (Kq rfl (Fa (q := 12) rfl rfl u30 rfl rfl) (Kq rfl (Ld rfl rfl .tc u22) ?_))
         refine Km rfl ?_
         refine Ku rfl (Oc rfl rfl (Kv fun w hS => rless_c (a := p.han) (b := canon 2))) ?_
         refine Ns 146 rfl (v' := .bool (decide (val p.han < 2))) (congrArg Value.bool (by rw [cmpN_ok hha h2B, val_canon]; exact decide_eq_decide.2 (cmpI_neg _ _))) ?_
         refine Km rfl ?_
         refine Nb 147 rfl (fun hg147 => ?_) (fun hg147 => ?_)
         ·(try simp only [sB] at hg147)
          refine Kt rfl (Kt rfl (Kt rfl (Kt rfl (Kq rfl (Rp rfl rfl rfl) (Km rfl (Kt rfl (Kt rfl (Kt rfl (Kt rfl (Kq rfl (Rp rfl rfl rfl) (Km rfl (Kt rfl (Kt rfl (Kt rfl (Kt rfl (Kq rfl (Rp rfl rfl rfl) (Km rfl (Kt rfl (Kt rfl (Kt rfl (Kt rfl (Kq rfl (Rp rfl rfl rfl) (Nn ?_)))))))))))))))))))))))
          refine WX.joinP (()) (S0 _) (by refine (Sc ?_ (S0 _)) <;> ((refine slot_b rfl ?_; (try dsimp only); (simp [*]; done)))) ?_ (by (exact fun _ h => h))
          (try dsimp only)
          done
         ·(try simp only [sB] at hg147)
          refine Kq rfl (Fa (q := 13) rfl rfl u30 rfl rfl) (Kq rfl (Ld rfl rfl .tc u22) ?_)
          refine Km rfl ?_
          refine Ku rfl (Oc rfl rfl (Kv fun w hS => rless_c (a := p.lo) (b := canon 2))) ?_
          refine Ns 151 rfl (v' := .bool (decide (val p.lo < 2))) (congrArg Value.bool (by rw [cmpN_ok hlo h2B, val_canon]; exact decide_eq_decide.2 (cmpI_neg _ _))) ?_
          refine Kq rfl (Rq rfl rfl rfl) (Km rfl ?_)
          refine Nb 153 rfl (fun hg153 => ?_) (fun hg153 => ?_)
          ·(try simp only [sB] at hg153)
           refine Kt rfl (Kt rfl (Kt rfl (Kt rfl (Kq rfl (Rp rfl rfl rfl) (Km rfl (Kt rfl (Kt rfl (Kt rfl (Kt rfl (Kq rfl (Rp rfl rfl rfl) (Km rfl (Kt rfl (Kt rfl (Kt rfl (Kt rfl (Kq rfl (Rp rfl rfl rfl) (Nn ?_)))))))))))))))))
           refine WX.joinP (()) (S0 _) (by refine (Sc ?_ (S0 _)) <;> ((refine slot_b rfl ?_; (try dsimp only); (simp [*]; done)))) ?_ (by (exact fun _ h => h))
           (try dsimp only)
           done
          ·(try simp only [sB] at hg153)
           refine Kq rfl (Fa (q := 14) rfl rfl u30 rfl rfl) (Kq rfl (Ld rfl rfl .tc u22) ?_)
           refine Km rfl ?_
           refine Ku rfl (Oc rfl rfl (Kv fun w hS => rless_c (a := p.sz) (b := canon 2))) ?_
           refine Ns 157 rfl (v' := .bool (decide (val p.sz < 2))) (congrArg Value.bool (by rw [cmpN_ok hsz h2B, val_canon]; exact decide_eq_decide.2 (cmpI_neg _ _))) ?_
           refine Kq rfl (Rq rfl rfl rfl) (Km rfl ?_)
           refine Nb 159 rfl (fun hg159 => ?_) (fun hg159 => ?_)
           ·(try simp only [sB] at hg159)
            refine Kt rfl (Kt rfl (Kt rfl (Kt rfl (Kq rfl (Rp rfl rfl rfl) (Km rfl (Kt rfl (Kt rfl (Kt rfl (Kt rfl (Kq rfl (Rp rfl rfl rfl) (Nn ?_)))))))))))
            refine WX.joinP (()) (S0 _) (by refine (Sc ?_ (S0 _)) <;> ((refine slot_b rfl ?_; (try dsimp only); (simp [*]; done)))) ?_ (by (exact fun _ h => h))
            (try dsimp only)
            done
           ·(try simp only [sB] at hg159)
            refine Kq rfl (Fa (q := 15) rfl rfl u30 rfl rfl) (Kq rfl (Ld rfl rfl .tc u22) ?_)
            refine Km rfl ?_
            refine Ku rfl (Oc rfl rfl (Kv fun w hS => rless_c (a := p.bl) (b := canon 2))) ?_
            refine Ns 163 rfl (v' := .bool (decide (val p.bl < 2))) (congrArg Value.bool (by rw [cmpN_ok hbl h2B, val_canon]; exact decide_eq_decide.2 (cmpI_neg _ _))) ?_
            refine Kq rfl (Rq rfl rfl rfl) (Km rfl ?_)
            refine Nb 165 rfl (fun hg165 => ?_) (fun hg165 => ?_)
            ·(try simp only [sB] at hg165)
             refine Kt rfl (Kt rfl (Kt rfl (Kt rfl (Kq rfl (Rp rfl rfl rfl) (Nn ?_)))))
             refine WX.joinP (()) (S0 _) (by refine (Sc ?_ (S0 _)) <;> ((refine slot_b rfl ?_; (try dsimp only); (simp [*]; done)))) ?_ (by (exact fun _ h => h))
             (try dsimp only)
             done
            ·(try simp only [sB] at hg165)
             refine Kq rfl (Fa (q := 16) rfl rfl u30 rfl rfl) (Kq rfl (Ld rfl rfl .tc u22) ?_)
             refine Km rfl ?_
             refine Ku rfl (Oc rfl rfl (Kv fun w hS => rless_c (a := p.msk) (b := canon 2))) ?_
             refine Ns 169 rfl (v' := .bool (decide (val p.msk < 2))) (congrArg Value.bool (by rw [cmpN_ok hmk h2B, val_canon]; exact decide_eq_decide.2 (cmpI_neg _ _))) ?_
             refine Kq rfl (Rq rfl rfl rfl) (Nn ?_)
             refine WX.joinP (()) (S0 _) (by refine (Sc ?_ (S0 _)) <;> ((refine slot_b rfl ?_; (try dsimp only); (exact decide_eq_decide.2 (by omega))))) ?_ (by (exact fun _ h => h))
             (try dsimp only)
             done
        ·rintro _ hmeet; (try dsimp only at hmeet ⊢)
         refine Cd rfl (fun hc170 => ?_) (fun hc170 => ?_)
         ·(try simp only [sB] at hc170)
          refine Cs (Ka rfl (Nt (Ce (Xb ?_))))
          exact R1 rfl rfl (by rw [chkR, if_neg (fun h => h hokR), if_neg (fun h => h hgr), if_pos (fun h : rngR p => hc170 ⟨h.1 _ (by simp), h.1 _ (by simp), h.1 _ (by simp), h.1 _ (by simp), h.1 _ (by simp)⟩)]; rfl)
         ·(try simp only [sB] at hc170)
          obtain ⟨r8, r9, r10, r11, r12⟩ := Decidable.not_not.1 hc170
          have hrg : rngR p := ⟨fun x hx => by simp at hx; rcases hx with rfl | rfl | rfl | rfl | rfl | rfl | rfl | rfl | rfl <;> assumption, r7, r2, r5⟩
          refine Ck (Xa (Cs (Ka rfl (Nt (Ce ?_)))))
          exact R1 rfl rfl (by rw [chkR, if_neg (fun h => h hokR), if_neg (fun h => h hgr), if_neg (fun h => h hrg)]; rfl)
theorem rbases_c {k : IK} {a : Option Addr} {c : Nat} {w : World} {ok : Nat → Prop} (hF1 : (Fact.sl a (strs k.r)).holds ok w) (hl : k.r.length ≤ 100000) :
  Calls Tryz.prog 83 #[ikV k (.slice a k.r.length c)] w fun e w' => ∃ g : Rs, e = .returned (g.val (3 + k.r.length)) ∧ g.cap = 3 + k.r.length + g.sp.length ∧ St (fun _ => True) w [g.ent (strs ([k.z, k.u, k.h] ++ k.r)) 22] [] w' := by
 refine En [Fact.sl a (strs k.r)] [(0, ikV k (.slice a k.r.length c))] Tryz.func83 rfl Tryz.ntmps83 rfl (Ac rfl (An _)) (Fc (fact_any hF1) Fn) ?_
 refine Cs ?_
 refine Kh rfl (Oy rfl rfl) ?_
 intro b1
 refine Ka rfl (Nt (Cs (Kq rfl (Fa (q := 3) rfl rfl u33 rfl rfl) (Kq rfl (Ld rfl rfl .tc u22) ?_))))
 refine Kq rfl (Fa (q := 6) rfl rfl u33 rfl rfl) (Kq rfl (Ld rfl rfl .tc u22) ?_)
 refine Kq rfl (Fa (q := 7) rfl rfl u33 rfl rfl) (Kq rfl (Ld rfl rfl .tc u22) ?_)
 refine Kh rfl (og_bs1 rfl rfl u31 (by kernel_rfl : _ = some (some (.string (S [])), 1, 16)) rfl (by simp only [List.map]; rfl) rfl rfl ?_ (by decide)) ?_
 ·simp [Value.cells]
 intro b10
 refine Ka rfl (Nt (Cs (Km rfl (Kq rfl (Fa (q := 5) rfl rfl u33 rfl rfl) (Kq rfl (Ld rfl rfl .tc u31) ?_)))))
 refine Kh rfl (appf rfl u31 (by kernel_rfl : _ = some (some (.string (S [])), 1, 16)) rfl .tc rfl rfl (fun w hS => by (exact hS.sl)) (by simp) (by (refine ⟨?_, ?_, ?_, ?_⟩ <;> (try simp) <;> omega)) (by (simp [Value.oneCell']; done))) ?_
 rintro ⟨o14, c14, s14⟩
 refine WL.pu ?_
 intro hg14; (try dsimp only at hg14 ⊢)
 refine Ka rfl (Nt (Ce ?_))
 exact Rn rfl (.tmp rfl .nil) fun w' hS => ⟨⟨o14, c14, s14⟩, by simp [Rs.val, tup], by simpa using hg14, by show St _ _ [⟨o14, [Value.string (S k.z), .string (S k.u), .string (S k.h)] ++ strs k.r ++ s14, _⟩] _ _; exact st_sub _ hS⟩
abbrev rlK (k : IK) : List Bs := [k.g.1, k.g.2, k.s] ++ ([k.z, k.u, k.h] ++ k.r)
theorem rlK_ok (k : IK) : (∀ x ∈ rlK k, okN x) ↔ ((okN k.g.1 ∧ okN k.g.2) ∧ ∀ x ∈ bsK k, okN x) := by
 simp [rlK, bsK]; constructor
 ·rintro ⟨h1, h2, h3, h4, h5, h6, h7⟩; exact ⟨⟨h1, h2⟩, h3, h4, h5, h6, h7⟩
 ·rintro ⟨⟨h1, h2⟩, h3, h4, h5, h6, h7⟩; exact ⟨h1, h2, h3, h4, h5, h6, h7⟩
theorem rlK_el (k : IK) : (∀ x ∈ (rlK k).drop 2, elG k.g x) ↔ ∀ x ∈ bsK k, elG k.g x := by simp [rlK, bsK]
theorem all_drop2 {l : List Bs} {j : Nat} {Q : Bs → Prop} (hj : j < l.length) (h2 : 2 ≤ j) (h : ∀ x ∈ (l.take j).drop 2, Q x) (hq : Q (l.getD j default)) : ∀ x ∈ (l.take (j + 1)).drop 2, Q x := by
 intro x hx
 rw [List.take_add_one, List.drop_append_of_le_length (by rw [List.length_take]; omega)] at hx
 rcases List.mem_append.1 hx with hx | hx
 ·exact h x hx
 ·rw [List.getElem?_eq_getElem hj] at hx
  simp at hx; subst hx
  simpa [List.getD, hj] using hq
theorem richeck_c {p : PR} {k : IK} {a : Option Addr} {c : Nat} {w : World} {ok : Nat → Prop} (hF1 : (Fact.sl a (strs k.r)).holds ok w) (hm8 : p.mn.1.1.length ≤ 8) (hk8 : k.g.1.length ≤ 8) (hl : k.r.length ≤ 100000) (hnl : k.name.length ≤ 140737488351232) :
  Cw 41 #[prV p, ikV k (.slice a k.r.length c)] w (.int .i64 (chkN p k)) := by
 have hrl : (rlK k).length = 6 + k.r.length := by simp [rlK]; omega
 refine En [Fact.sl a (strs k.r)] [(0, prV p), (1, ikV k (.slice a k.r.length c))] Tryz.func41 rfl Tryz.ntmps41 rfl (Ac rfl (Ac rfl (An _))) (Fc (fact_any hF1) Fn) ?_
 refine Cs ?_
 refine Kh rfl (Oy rfl rfl) ?_
 intro b2
 refine Kh rfl (Oy rfl rfl) ?_
 intro b3
 refine Ka rfl (Nt (Cq (Cs ?_)))
 refine Kq rfl (lda rfl rfl .tc u30 rfl ?_) ?_
 ·kernel_rfl
 refine Ku rfl (Oc rfl rfl (Kv fun w hS => rpcheckR_c (p := p) (by assumption))) ?_
 refine Ka rfl (Nt (Cs (Km rfl (Kq rfl (rd_neq rfl rfl rfl) (Nt ?_)))))
 refine Cd rfl (fun hc12 => ?_) (fun hc12 => ?_)
 ·(try simp only [sB] at hc12)
  refine Cs (Km rfl (Ka rfl (Nt (Ce (Xb ?_)))))
  exact R1 rfl rfl (by rw [chkN, if_pos (by simpa using hc12)]; rfl)
 ·(try simp only [sB] at hc12)
  have h0 : chkR p = 0 := by simpa using hc12
  refine Ck (Xa (Cq ?_))
  refine Cf [9, 10, 0, 1, 2, 3, 4, 5, 6, 7, 8, 11, 12] [] [0, 0, 0, 0, 0, 0, 0, 0, 3, 0, 1, 1, 0] (by kernel_rfl) (by kernel_rfl) rfl ?_
  refine Kj rfl (lda rfl rfl .tc u33 rfl ?_) ?_
  ·kernel_rfl
  refine Jg rfl rfl rfl rfl rfl (fun ext => Oc rfl rfl (keep_f1 fun w hS => rbases_c (k := k) (by (exact hS.sl)) (by assumption))) ?_
  intro g24 hg24; (try dsimp only at hg24 ⊢)
  refine Kj rfl (Fa (q := 1) rfl rfl u33 rfl rfl) (Kj rfl (Fa (q := 1) rfl rfl u26 rfl rfl) (Kj rfl (Ld rfl rfl .tc u22) ?_))
  refine Kj rfl (Fa (q := 1) rfl rfl u33 rfl rfl) (Kj rfl (Fa (q := 2) rfl rfl u26 rfl rfl) (Kj rfl (Ld rfl rfl .tc u22) ?_))
  refine Kj rfl (Fa (q := 4) rfl rfl u33 rfl rfl) (Kj rfl (Ld rfl rfl .tc u22) ?_)
  refine Jf rfl rfl rfl rfl rfl (fr_bs1 rfl rfl u31 (by kernel_rfl : _ = some (some (.string (S [])), 1, 16)) rfl (by simp only [List.map]; rfl) rfl rfl ?_ (by decide)) ?_
  ·simp [Value.cells]
  intro b22
  refine Jg rfl rfl rfl rfl rfl (appfJ rfl u31 (by kernel_rfl : _ = some (some (.string (S [])), 1, 16)) rfl .tc rfl rfl (fun ext w hS => by (exact hS.sl)) (by simp; omega) (by (refine ⟨?_, ?_, ?_, ?_⟩ <;> (try simp) <;> omega)) (by (simp [Value.oneCell']; done))) ?_
  rintro ⟨o25, c25, s25⟩ hg25; (try dsimp only at hg25 ⊢)
  refine WJ.set 25 rfl (v' := .slice (o25.map fun b => ⟨b, 0, none⟩) (rlK k).length c25) (by congr 1; omega) ?_
  refine Kj rfl (Ra rfl rfl) ?_
  refine WJ.nil ?_
  refine Nt (Cq (Cs ?_))
  refine WL.st (fun w h => st_fz (xs := strs (rlK k)) (sp := s25) h) ?_
  refine Ka rfl (Nt (Cb ?_))
  refine Lp (σ := Nat) [(3, _), (6, _)] (fun gq => [(7, .int .i64 (gq : Int))]) (fun gq => gq ≤ (rlK k).length ∧ ∀ x ∈ (rlK k).take gq, okN x) (fun gq => (rlK k).length - gq) (0) (S2 rfl rfl) (S1 rfl) (by (try dsimp only); exact ⟨Nat.zero_le _, by simp⟩) ?_
  rintro i hinv1; (try dsimp only at hinv1 ⊢)
  obtain ⟨hi, hok⟩ := hinv1
  refine Cq (Cs (Km rfl (Km rfl (Kq rfl (rd_len rfl rfl u31) (Kq rfl (rd_lss rfl rfl rfl) (Nt ?_))))))
  refine Cd rfl (fun hc29 => ?_) (fun hc29 => ?_)
  ·(try simp only [sB] at hc29)
   have hil : i < (rlK k).length := by omega
   refine Ck (Xa (Cq (Cb (Cs (Km rfl (Km rfl ?_))))))
   refine Kq rfl (Ib rfl rfl rfl u31 (by omega) (by (rw [List.length_map]; omega))) ?_
   refine Kq rfl (ldm rfl rfl u22 rfl (by assumption)) ?_
   refine Ku rfl (Oc rfl rfl (Kv fun w hS => rvalid_c (a := (rlK k).getD i default))) ?_
   refine Kq rfl (Rt rfl rfl) (Nt ?_)
   refine Cd rfl (fun hc37 => ?_) (fun hc37 => ?_)
   ·(try simp only [sB] at hc37)
    have hn : ¬ ((okN k.g.1 ∧ okN k.g.2) ∧ ∀ x ∈ bsK k, okN x) := fun h => (by simpa using hc37 : ¬ okN ((rlK k).getD i default)) ((rlK_ok k).2 h _ (getD_mem (rlK k) i hil))
    refine Cs (Ka rfl (Nt (Ce (Xf (Xb (Xb (Xf (Xb ?_))))))))
    exact R1 rfl rfl (by rw [chkN, if_neg (fun h => h h0), if_pos hn]; rfl)
   ·(try simp only [sB] at hc37)
    have hyy : okN ((rlK k).getD i default) := by simpa using hc37
    refine Ck (Xd (Xa (Cg (Km rfl (Kq rfl (Rz rfl rfl rfl (by omega)) (Ka rfl (Nn ?_)))))))
    refine Ly (i + 1) (by (try dsimp only); omega) (S2 rfl rfl) (by refine (Sc ?_ (S0 _)) <;> (rfl)) ?_ (by (exact fun _ h => h))
    (try dsimp only)
    exact ⟨hil, all_take hil hok hyy⟩
  ·(try simp only [sB] at hc29)
   refine Cx (Xc (Xc (Xe ?_)))
   obtain rfl : i = (rlK k).length := by omega
   rw [List.take_length] at hok
   have hok2 := (rlK_ok k).1 hok
   refine Xa (Cq (Cs (Kq rfl (Fa (q := 0) rfl rfl u33 rfl rfl) (Kq rfl (Ld rfl rfl .tc u9) ?_))))
   refine Ku rfl (Oc rfl rfl (Kv fun w hS => rname_c (s := k.name) (by assumption))) ?_
   refine Kq rfl (Rt rfl rfl) (Nt ?_)
   refine Cd rfl (fun hc41 => ?_) (fun hc41 => ?_)
   ·(try simp only [sB] at hc41)
    refine Cs (Ka rfl (Nt (Ce (Xb ?_))))
    exact R1 rfl rfl (by rw [chkN, if_neg (fun h => h h0), if_neg (fun h => h hok2), if_pos (by simpa using hc41)]; rfl)
   ·(try simp only [sB] at hc41)
    have hnm : nameS k.name := by simpa using hc41
    refine Ck (Xa (Cq ?_))
    refine WC.joinP (σ := Unit) [(3, _), (6, _)] (fun gq => [(51, .bool (decide (k.g.2 ≠ [] ∨ chkG k.g ≠ 0)))]) (fun gq => True) (S2 rfl rfl) ?_ ?_
    ·skip
     refine Cg (Kq rfl (Fa (q := 1) rfl rfl u33 rfl rfl) (Kq rfl (Fa (q := 2) rfl rfl u26 rfl rfl) (Kq rfl (Ld rfl rfl .tc u22) ?_)))
     refine Kq rfl (rd_sne rfl rfl rfl) (Km rfl ?_)
     refine Nb 46 rfl (fun hg46 => ?_) (fun hg46 => ?_)
     ·(try simp only [sB] at hg46)
      refine Kt rfl (Kt rfl (Kt rfl (Kt rfl (Kq rfl (Rp rfl rfl rfl) (Nn ?_)))))
      refine WX.joinP (()) (S2 rfl rfl) (by refine (Sc ?_ (S0 _)) <;> ((refine slot_b rfl ?_; (try dsimp only); (simp [*]; done)))) ?_ (by (exact fun _ h => h))
      (try dsimp only)
      done
     ·(try simp only [sB] at hg46)
      refine Kq rfl (Fa (q := 1) rfl rfl u33 rfl rfl) ?_
      refine Kq rfl (ldp rfl rfl .tc u26 rfl (by kernel_rfl : _ = some 2) (by rfl) (by rfl)) ?_
      refine Ku rfl (Oc rfl rfl (Kv fun w hS => rgcheck_c (g := k.g))) ?_
      refine Kq rfl (rd_neq rfl rfl rfl) (Kq rfl (Rq rfl rfl rfl) (Nn ?_))
      refine WX.joinP (()) (S2 rfl rfl) (by refine (Sc ?_ (S0 _)) <;> ((refine slot_b rfl ?_; (try dsimp only); (simp [*]; done)))) ?_ (by (exact fun _ h => h))
      (try dsimp only)
      done
    ·rintro _ hmeet; (try dsimp only at hmeet ⊢)
     refine Cd rfl (fun hc51 => ?_) (fun hc51 => ?_)
     ·(try simp only [sB] at hc51)
      refine Cs (Ka rfl (Nt (Ce (Xb ?_))))
      exact R1 rfl rfl (by rw [chkN, if_neg (fun h => h h0), if_neg (fun h => h hok2), if_neg (fun h => h hnm), if_pos hc51]; rfl)
     ·(try simp only [sB] at hc51)
      have hcg : chkG k.g = 0 := Decidable.byContradiction fun h => hc51 (Or.inr h)
      refine Ck (Xa (Cq ?_))
      refine WC.joinP (σ := Unit) [(3, _), (6, _)] (fun gq => [(61, .bool (decide (k.r.length < 2 ∨ 18 < k.r.length)))]) (fun gq => True) (S2 rfl rfl) ?_ ?_
      ·skip
       refine Cg (Kq rfl (Fa (q := 5) rfl rfl u33 rfl rfl) (Kq rfl (Ld rfl rfl .tc u31) ?_))
       refine Kq rfl (rd_len rfl rfl u31) (Kq rfl (rd_lss rfl rfl rfl) (Km rfl ?_))
       refine Nb 56 rfl (fun hg56 => ?_) (fun hg56 => ?_)
       ·(try simp only [sB] at hg56)
        refine Kt rfl (Kt rfl (Kt rfl (Kt rfl (Kq rfl (Rp rfl rfl rfl) (Nn ?_)))))
        refine WX.joinP (()) (S2 rfl rfl) (by refine (Sc ?_ (S0 _)) <;> ((exact congrArg (fun b => some (Value.bool b)) (by symm; apply decide_eq_true; omega)))) ?_ (by (exact fun _ h => h))
        (try dsimp only)
        done
       ·(try simp only [sB] at hg56)
        refine Kq rfl (Fa (q := 5) rfl rfl u33 rfl rfl) (Kq rfl (Ld rfl rfl .tc u31) ?_)
        refine Kq rfl (rd_len rfl rfl u31) (Kq rfl (rd_gtr rfl rfl rfl) (Kq rfl (Rq rfl rfl rfl) (Nn ?_)))
        refine WX.joinP (()) (S2 rfl rfl) (by refine (Sc ?_ (S0 _)) <;> ((refine slot_b rfl ?_; (try dsimp only); (exact decide_eq_decide.2 (by omega))))) ?_ (by (exact fun _ h => h))
        (try dsimp only)
        done
      ·rintro _ hmeet; (try dsimp only at hmeet ⊢)
       refine Cd rfl (fun hc61 => ?_) (fun hc61 => ?_)
       ·(try simp only [sB] at hc61)
        refine Cs (Ka rfl (Nt (Ce (Xb ?_))))
        exact R1 rfl rfl (by rw [chkN, if_neg (fun h => h h0), if_neg (fun h => h hok2), if_neg (fun h => h hnm), if_neg hc51, if_pos hc61]; rfl)
       ·(try simp only [sB] at hc61)
        refine Ck (Xa (Cq (Cs (Kq rfl (Fa (q := 4) rfl rfl u33 rfl rfl) (Kq rfl (Ld rfl rfl .tc u22) ?_)))))
        refine Kq rfl (rd_seq rfl rfl rfl) (Nt ?_)
        refine Cd rfl (fun hc64 => ?_) (fun hc64 => ?_)
        ·(try simp only [sB] at hc64)
         refine Cs (Ka rfl (Nt (Ce (Xb ?_))))
         exact R1 rfl rfl (by rw [chkN, if_neg (fun h => h h0), if_neg (fun h => h hok2), if_neg (fun h => h hnm), if_neg hc51, if_neg hc61, if_pos (fun h => h.2 (by simpa [one_canon] using hc64))]; rfl)
        ·(try simp only [sB] at hc64)
         have hs1 : k.s ≠ canon 1 := by simpa [one_canon] using hc64
         refine Ck (Xa (Cq (Cs (Ka rfl (Nt (Cb ?_))))))
         refine Lp (σ := Nat) [(3, _), (6, _)] (fun gq => [(8, .int .i64 (gq : Int))]) (fun gq => 2 ≤ gq ∧ gq ≤ (rlK k).length ∧ ∀ x ∈ ((rlK k).take gq).drop 2, elG k.g x) (fun gq => (rlK k).length - gq) (2) (S2 rfl rfl) (S1 rfl) (by (try dsimp only); exact ⟨Nat.le_refl _, by omega, by simp [rlK]⟩) ?_
         rintro j hinv2; (try dsimp only at hinv2 ⊢)
         obtain ⟨hj2, hj, hel⟩ := hinv2
         refine Cq (Cs (Km rfl (Km rfl (Kq rfl (rd_len rfl rfl u31) (Kq rfl (rd_lss rfl rfl rfl) (Nt ?_))))))
         refine Cd rfl (fun hc68 => ?_) (fun hc68 => ?_)
         ·(try simp only [sB] at hc68)
          have hjl : j < (rlK k).length := by omega
          refine Ck (Xa (Cq (Cb (Cq ?_))))
          refine Cf [0, 1, 2, 3, 4, 5, 6, 7] [] [0, 0, 0, 0, 0, 0, 1, 0] (by kernel_rfl) (by kernel_rfl) rfl ?_
          refine Kj rfl (Fa (q := 1) rfl rfl u33 rfl rfl) ?_
          refine Kj rfl (ldp rfl rfl .tc u26 rfl (by kernel_rfl : _ = some 2) (by rfl) (by rfl)) ?_
          refine Kj rfl (Rm rfl rfl) (Kj rfl (Rm rfl rfl) ?_)
          refine Kj rfl (Ib rfl rfl rfl u31 (by omega) (by (rw [List.length_map]; omega))) ?_
          refine Kj rfl (ldm rfl rfl u22 rfl (by assumption)) ?_
          refine Jv rfl rfl rfl rfl rfl (fun ext => Oc rfl rfl (Kv fun w hS => rghas_c (g := k.g) (x := (rlK k).getD j default) (by assumption))) ?_
          refine WJ.set 77 rfl (v' := .bool (decide (elG k.g ((rlK k).getD j default)))) (congrArg Value.bool (by simp [hcg])) ?_
          refine Kj rfl (Rt rfl rfl) ?_
          refine WJ.nil ?_
          refine Nt ?_
          refine Cd rfl (fun hc78 => ?_) (fun hc78 => ?_)
          ·(try simp only [sB] at hc78)
           have hn : ¬ ((∀ x ∈ bsK k, elG k.g x) ∧ k.s ≠ canon 1) := fun h => (by simpa using hc78 : ¬ elG k.g ((rlK k).getD j default)) (by
            have hd := (rlK_el k).2 h.1
            refine hd _ ?_
            obtain ⟨m, rfl⟩ : ∃ m, j = m + 2 := ⟨j - 2, by omega⟩
            have he : (rlK k).getD (m + 2) default = ((rlK k).drop 2).getD m default := rfl
            rw [he]
            exact getD_mem _ _ (by rw [List.length_drop]; omega))
           refine Cs (Ka rfl (Nt (Ce (Xf (Xb (Xb (Xf (Xb ?_))))))))
           exact R1 rfl rfl (by rw [chkN, if_neg (fun h => h h0), if_neg (fun h => h hok2), if_neg (fun h => h hnm), if_neg hc51, if_neg hc61, if_pos hn]; rfl)
          ·(try simp only [sB] at hc78)
           have hyy : elG k.g ((rlK k).getD j default) := by simpa using hc78
           refine Ck (Xd (Xa (Cg (Km rfl (Kq rfl (Rz rfl rfl rfl (by omega)) (Ka rfl (Nn ?_)))))))
           refine Ly (j + 1) (by (try dsimp only); omega) (S2 rfl rfl) (by refine (Sc ?_ (S0 _)) <;> (rfl)) ?_ (by (exact fun _ h => h))
           (try dsimp only)
           exact ⟨by omega, hjl, all_drop2 hjl hj2 hel hyy⟩
         ·(try simp only [sB] at hc68)
          refine Cx (Xc (Xc (Xe ?_)))
          obtain rfl : j = (rlK k).length := by omega
          rw [List.take_length] at hel
          refine Xa (Cs (Ka rfl (Nt (Ce ?_))))
          exact R1 rfl rfl (by rw [chkN, if_neg (fun h => h h0), if_neg (fun h => h hok2), if_neg (fun h => h hnm), if_neg hc51, if_neg hc61, if_neg (fun h => h ⟨(rlK_el k).1 hel, hs1⟩)]; rfl)
theorem add_lt {a b : Bs} (ha : okN a) (hb : okN b) (h : val a + val b < Big) : addN a b = (canon (val a + val b), 0) := by rw [addN, if_pos ⟨ha, hb⟩, if_pos h]
theorem add_z {a b : Bs} (ha : okN a) (hb : okN b) (h : (addN a b).2 = 0) : val a + val b < Big := Decidable.byContradiction fun h1 => by
 rw [addN, if_pos ⟨ha, hb⟩, if_neg h1] at h; exact absurd h (by decide)
theorem mul_lt {a b : Bs} (ha : okN a) (hb : okN b) (h : val a * val b < Big) : mulN a b = (canon (val a * val b), 0) := by rw [mulN, if_pos ⟨ha, hb⟩, if_pos h]
theorem mul_z {a b : Bs} (ha : okN a) (hb : okN b) (h : (mulN a b).2 = 0) : val a * val b < Big := Decidable.byContradiction fun h1 => by
 rw [mulN, if_pos ⟨ha, hb⟩, if_neg h1] at h; exact absurd h (by decide)
abbrev sA (p : PR) := addN p.lo p.sz
abbrev sM (p : PR) := mulN (sA p).1 p.msk
abbrev sB2 (p : PR) := addN p.bl p.bl
abbrev sC (p : PR) := addN (sB2 p).1 (sM p).1
abbrev sH (p : PR) := mulN p.han p.msk
def szE (p : PR) : Prop := (sA p).2 = 0 ∧ (sM p).2 = 0 ∧ (sB2 p).2 = 0 ∧ (sC p).2 = 0 ∧ (sH p).2 = 0
theorem sz_yes {p : PR} (h : chkR p = 0) (h1 : szV p < Big) (h2 : szH p < Big) : szE p ∧ (sC p).1 = canon (szV p) ∧ (sH p).1 = canon (szH p) := by
 obtain ⟨hok, _, hrg⟩ := chkR_ok h
 have o : ∀ x ∈ nine p, okN x := hok.1
 have hlo : okN p.lo := o _ (by simp); have hsz : okN p.sz := o _ (by simp); have hbl : okN p.bl := o _ (by simp); have hmk : okN p.msk := o _ (by simp); have hha : okN p.han := o _ (by simp)
 have hm2 : 2 ≤ val p.msk := hrg.1 _ (by simp)
 unfold szV at h1; unfold szH at h2
 have a0 : val p.lo + val p.sz ≤ (val p.lo + val p.sz) * val p.msk := Nat.le_mul_of_pos_right _ (by omega)
 have eA := add_lt hlo hsz (by omega)
 have eM : mulN (canon (val p.lo + val p.sz)) p.msk = (canon ((val p.lo + val p.sz) * val p.msk), 0) := by
  rw [mul_lt (okN_can (by omega)) hmk (by rw [val_canon]; omega), val_canon]
 have eB := add_lt hbl hbl (by omega)
 have eC : addN (canon (val p.bl + val p.bl)) (canon ((val p.lo + val p.sz) * val p.msk)) = (canon (szV p), 0) := by
  rw [add_lt (okN_can (by omega)) (okN_can (by omega)) (by rw [val_canon, val_canon]; omega), val_canon, val_canon, szV, Nat.two_mul]
 have eH := mul_lt hha hmk h2
 simp only [szE, sA, sM, sB2, sC, sH, eA, eM, eB, eC, eH, szH, and_self]
theorem sz_no {p : PR} (h : chkR p = 0) (he : szE p) : szV p < Big ∧ szH p < Big := by
 obtain ⟨hok, _, hrg⟩ := chkR_ok h
 have o : ∀ x ∈ nine p, okN x := hok.1
 have hlo : okN p.lo := o _ (by simp); have hsz : okN p.sz := o _ (by simp); have hbl : okN p.bl := o _ (by simp); have hmk : okN p.msk := o _ (by simp); have hha : okN p.han := o _ (by simp)
 obtain ⟨hA, hM, hB, hC, hH⟩ := he
 have zA := add_z hlo hsz hA
 have eA := add_lt hlo hsz zA
 simp only [sM, sA, eA] at hM
 have zM := mul_z (okN_can zA) hmk hM
 have eM := mul_lt (okN_can zA) hmk zM
 rw [val_canon] at zM eM
 have zB := add_z hbl hbl hB
 have eB := add_lt hbl hbl zB
 simp only [sC, sB2, sM, sA, eA, eM, eB] at hC
 have zC := add_z (okN_can zB) (okN_can zM) hC
 rw [val_canon, val_canon] at zC
 exact ⟨by rw [szV]; omega, mul_z hha hmk hH⟩
instance (p : PR) : Decidable (szE p) := inferInstanceAs (Decidable (_ ∧ _))
theorem rsizes_c {p : PR} {w : World} (hm8 : p.mn.1.1.length ≤ 8) :
  Cw 44 #[prV p] w (.tuple #[.string (S (sizR p).1.1), .string (S (sizR p).1.2), .int .i64 (sizR p).2]) := by
 refine En [] [(0, prV p)] Tryz.func44 rfl Tryz.ntmps44 rfl (Ac rfl (An _)) Fn ?_
 refine Cs ?_
 refine Kh rfl (Oy rfl rfl) ?_
 intro b1
 refine Ka rfl (Ka rfl (Ka rfl (Nt (Cq (Cs ?_)))))
 refine Kq rfl (lda rfl rfl .tc u30 rfl ?_) ?_
 ·kernel_rfl
 refine Ku rfl (Oc rfl rfl (Kv fun w hS => rpcheckR_c (p := p) (by assumption))) ?_
 refine Ka rfl (Nt (Cs (Km rfl (Kq rfl (rd_neq rfl rfl rfl) (Nt ?_)))))
 refine Cd rfl (fun hc19 => ?_) (fun hc19 => ?_)
 ·(try simp only [sB] at hc19)
  refine Cs (Km rfl (Ka rfl (Ka rfl (Ka rfl (Nt (Ce (Xb ?_)))))))
  exact R3 rfl rfl rfl rfl (by rw [sizR, if_pos (by simpa using hc19)]; rfl)
 ·(try simp only [sB] at hc19)
  have h0 : chkR p = 0 := by simpa using hc19
  refine Ck (Xa (Cs (Kq rfl (Fa (q := 13) rfl rfl u30 rfl rfl) (Kq rfl (Ld rfl rfl .tc u22) ?_))))
  refine Kq rfl (Fa (q := 14) rfl rfl u30 rfl rfl) (Kq rfl (Ld rfl rfl .tc u22) ?_)
  refine Ku rfl (Oc rfl rfl (Kv fun w hS => radd_c (a := p.lo) (b := p.sz))) ?_
  refine Km rfl (Kq rfl (Re rfl rfl rfl) (Kq rfl (Re rfl rfl rfl) (Ka rfl (Ka rfl (Nt (Cs (Km rfl (Kq rfl (Fa (q := 16) rfl rfl u30 rfl rfl) (Kq rfl (Ld rfl rfl .tc u22) ?_)))))))))
  refine Ku rfl (Oc rfl rfl (Kv fun w hS => rmul_c (a := (sA p).1) (b := p.msk))) ?_
  refine Km rfl (Kq rfl (Re rfl rfl rfl) (Kq rfl (Re rfl rfl rfl) (Ka rfl (Ka rfl (Nt (Cs (Kq rfl (Fa (q := 15) rfl rfl u30 rfl rfl) (Kq rfl (Ld rfl rfl .tc u22) ?_))))))))
  refine Kq rfl (Fa (q := 15) rfl rfl u30 rfl rfl) (Kq rfl (Ld rfl rfl .tc u22) ?_)
  refine Ku rfl (Oc rfl rfl (Kv fun w hS => radd_c (a := p.bl) (b := p.bl))) ?_
  refine Km rfl (Kq rfl (Re rfl rfl rfl) (Kq rfl (Re rfl rfl rfl) (Ka rfl (Ka rfl (Nt (Cs (Km rfl (Km rfl ?_))))))))
  refine Ku rfl (Oc rfl rfl (Kv fun w hS => radd_c (a := (sB2 p).1) (b := (sM p).1))) ?_
  refine Km rfl (Kq rfl (Re rfl rfl rfl) (Kq rfl (Re rfl rfl rfl) (Ka rfl (Ka rfl (Nt (Cs (Kq rfl (Fa (q := 12) rfl rfl u30 rfl rfl) (Kq rfl (Ld rfl rfl .tc u22) ?_))))))))
  refine Kq rfl (Fa (q := 16) rfl rfl u30 rfl rfl) (Kq rfl (Ld rfl rfl .tc u22) ?_)
  refine Ku rfl (Oc rfl rfl (Kv fun w hS => rmul_c (a := p.han) (b := p.msk))) ?_
  refine Km rfl (Kq rfl (Re rfl rfl rfl) (Kq rfl (Re rfl rfl rfl) (Ka rfl (Ka rfl (Nt (Cq ?_))))))
  refine WC.joinP (σ := Unit) [(12, _), (14, _)] (fun gq => [(75, .bool (decide (¬ ((sA p).2 = 0 ∧ (sM p).2 = 0 ∧ (sB2 p).2 = 0 ∧ (sC p).2 = 0 ∧ (sH p).2 = 0))))]) (fun gq => True) (S2 rfl rfl) ?_ ?_
  ·skip
   refine Cg (Km rfl (Kq rfl (rd_neq rfl rfl rfl) (Km rfl ?_)))
   refine Nb 60 rfl (fun hg60 => ?_) (fun hg60 => ?_)
   ·(try simp only [sB] at hg60)
    refine Kt rfl (Kt rfl (Kq rfl (Rp rfl rfl rfl) (Km rfl (Kt rfl (Kt rfl (Kq rfl (Rp rfl rfl rfl) (Km rfl (Kt rfl (Kt rfl (Kq rfl (Rp rfl rfl rfl) (Km rfl (Kt rfl (Kt rfl (Kq rfl (Rp rfl rfl rfl) (Nn ?_)))))))))))))))
    refine WX.joinP (()) (S2 rfl rfl) (by refine (Sc ?_ (S0 _)) <;> ((refine slot_b rfl ?_; (try dsimp only); (simp [*]; done)))) ?_ (by (exact fun _ h => h))
    (try dsimp only)
    done
   ·(try simp only [sB] at hg60)
    refine Km rfl (Kq rfl (rd_neq rfl rfl rfl) (Kq rfl (Rq rfl rfl rfl) (Km rfl ?_)))
    refine Nb 64 rfl (fun hg64 => ?_) (fun hg64 => ?_)
    ·(try simp only [sB] at hg64)
     refine Kt rfl (Kt rfl (Kq rfl (Rp rfl rfl rfl) (Km rfl (Kt rfl (Kt rfl (Kq rfl (Rp rfl rfl rfl) (Km rfl (Kt rfl (Kt rfl (Kq rfl (Rp rfl rfl rfl) (Nn ?_)))))))))))
     refine WX.joinP (()) (S2 rfl rfl) (by refine (Sc ?_ (S0 _)) <;> ((refine slot_b rfl ?_; (try dsimp only); (simp [*]; done)))) ?_ (by (exact fun _ h => h))
     (try dsimp only)
     done
    ·(try simp only [sB] at hg64)
     refine Km rfl (Kq rfl (rd_neq rfl rfl rfl) (Kq rfl (Rq rfl rfl rfl) (Km rfl ?_)))
     refine Nb 68 rfl (fun hg68 => ?_) (fun hg68 => ?_)
     ·(try simp only [sB] at hg68)
      refine Kt rfl (Kt rfl (Kq rfl (Rp rfl rfl rfl) (Km rfl (Kt rfl (Kt rfl (Kq rfl (Rp rfl rfl rfl) (Nn ?_)))))))
      refine WX.joinP (()) (S2 rfl rfl) (by refine (Sc ?_ (S0 _)) <;> ((refine slot_b rfl ?_; (try dsimp only); (simp [*]; done)))) ?_ (by (exact fun _ h => h))
      (try dsimp only)
      done
     ·(try simp only [sB] at hg68)
      refine Km rfl (Kq rfl (rd_neq rfl rfl rfl) (Kq rfl (Rq rfl rfl rfl) (Km rfl ?_)))
      refine Nb 72 rfl (fun hg72 => ?_) (fun hg72 => ?_)
      ·(try simp only [sB] at hg72)
       refine Kt rfl (Kt rfl (Kq rfl (Rp rfl rfl rfl) (Nn ?_)))
       refine WX.joinP (()) (S2 rfl rfl) (by refine (Sc ?_ (S0 _)) <;> ((refine slot_b rfl ?_; (try dsimp only); (simp [*]; done)))) ?_ (by (exact fun _ h => h))
       (try dsimp only)
       done
      ·(try simp only [sB] at hg72)
       refine Km rfl (Kq rfl (rd_neq rfl rfl rfl) (Kq rfl (Rq rfl rfl rfl) (Nn ?_)))
       refine WX.joinP (()) (S2 rfl rfl) (by refine (Sc ?_ (S0 _)) <;> ((refine slot_b rfl ?_; (try dsimp only); (simp [*]; done)))) ?_ (by (exact fun _ h => h))
       (try dsimp only)
       done
  ·rintro _ hmeet; (try dsimp only at hmeet ⊢)
   refine Cd rfl (fun hc75 => ?_) (fun hc75 => ?_)
   ·(try simp only [sB] at hc75)
    have hn : ¬ (szV p < Big ∧ szH p < Big) := fun h => hc75 (sz_yes h0 h.1 h.2).1
    refine Cs (Ka rfl (Ka rfl (Ka rfl (Nt (Ce (Xb ?_))))))
    exact R3 rfl rfl rfl rfl (by rw [sizR, if_neg (fun h => h h0), if_neg hn]; rfl)
   ·(try simp only [sB] at hc75)
    have hy := sz_no h0 (Decidable.not_not.1 hc75)
    have he := sz_yes h0 hy.1 hy.2
    refine Ck (Xa (Cs (Km rfl (Km rfl (Ka rfl (Ka rfl (Ka rfl (Nt (Ce ?_)))))))))
    exact R3 rfl rfl rfl rfl (by rw [sizR, if_neg (fun h => h h0), if_pos hy, ← he.2.1, ← he.2.2]; rfl)
theorem szadd_c {p : Nat} {a b : Bs} {er : Int} {rr : List Ent} {ok : Nat → Prop} {w0 : World} {fs : List Fact} {w : World} (hS0 : St ok w0 (⟨some p, [.int .i64 er], 43⟩ :: rr) (fs) w) :
  Calls Tryz.prog 80 #[.string (S a), .string (S b), .pointer (some ⟨p, 0, none⟩)] w fun e w' => e = .returned (.string (S (addN a b).1)) ∧ St ok w0 (⟨some p, [.int .i64 (max er (addN a b).2)], 43⟩ :: rr) (fs) w' := by
 refine enter (S := St ok w0 (⟨some p, [.int .i64 er], 43⟩ :: rr) (fs)) (L := [(0, .string (S a)), (1, .string (S b)), (2, .pointer (some ⟨p, 0, none⟩))]) Tryz.func80 rfl Tryz.ntmps80 rfl (Ac rfl (Ac rfl (Ac rfl (An _)))) hS0 ?_
 refine Cs (Ka rfl (Nt (Cs (Km rfl (Km rfl ?_)))))
 refine Ku rfl (Oc rfl rfl (Kv fun w hS => add_c (a := a) (b := b))) ?_
 refine Km rfl (Kq rfl (Re rfl rfl rfl) (Kq rfl (Re rfl rfl rfl) (Ka rfl (Ka rfl (Nt (Cs (Kq rfl (Ld rfl rfl .tc u43) ?_)))))))
 refine Km rfl (Kq rfl (rd_max2 rfl rfl rfl) ?_)
 refine Ng rfl rfl (st rfl rfl rfl .tc (by kernel_rfl) rfl ?_ (by (simp only [List.set_cons_zero, List.set_cons_succ]; rfl))) ?_
 ·(simp; done)
 intro _
 refine Nt (Cs (Km rfl (Ka rfl (Nt (Ce ?_)))))
 exact Rn rfl (.tmp rfl .nil) fun w' hS => ⟨by rfl, by (exact hS)⟩
theorem szmul_c {p : Nat} {a b : Bs} {er : Int} {rr : List Ent} {ok : Nat → Prop} {w0 : World} {fs : List Fact} {w : World} (hS0 : St ok w0 (⟨some p, [.int .i64 er], 43⟩ :: rr) (fs) w) :
  Calls Tryz.prog 81 #[.string (S a), .string (S b), .pointer (some ⟨p, 0, none⟩)] w fun e w' => e = .returned (.string (S (mulN a b).1)) ∧ St ok w0 (⟨some p, [.int .i64 (max er (mulN a b).2)], 43⟩ :: rr) (fs) w' := by
 refine enter (S := St ok w0 (⟨some p, [.int .i64 er], 43⟩ :: rr) (fs)) (L := [(0, .string (S a)), (1, .string (S b)), (2, .pointer (some ⟨p, 0, none⟩))]) Tryz.func81 rfl Tryz.ntmps81 rfl (Ac rfl (Ac rfl (Ac rfl (An _)))) hS0 ?_
 refine Cs (Ka rfl (Nt (Cs (Km rfl (Km rfl ?_)))))
 refine Ku rfl (Oc rfl rfl (Kv fun w hS => mul_c (a := a) (b := b))) ?_
 refine Km rfl (Kq rfl (Re rfl rfl rfl) (Kq rfl (Re rfl rfl rfl) (Ka rfl (Ka rfl (Nt (Cs (Kq rfl (Ld rfl rfl .tc u43) ?_)))))))
 refine Km rfl (Kq rfl (rd_max2 rfl rfl rfl) ?_)
 refine Ng rfl rfl (st rfl rfl rfl .tc (by kernel_rfl) rfl ?_ (by (simp only [List.set_cons_zero, List.set_cons_succ]; rfl))) ?_
 ·(simp; done)
 intro _
 refine Nt (Cs (Km rfl (Ka rfl (Nt (Ce ?_)))))
 exact Rn rfl (.tmp rfl .nil) fun w' hS => ⟨by rfl, by (exact hS)⟩
abbrev tB (p : PR) := mulN (canon 2) p.bl
abbrev tC (p : PR) := addN (tB p).1 (sM p).1
def tE (p : PR) : Prop := (tB p).2 = 0 ∧ (sA p).2 = 0 ∧ (sM p).2 = 0 ∧ (tC p).2 = 0 ∧ (sH p).2 = 0
theorem t_yes {p : PR} (h : chkR p = 0) (h1 : szV p < Big) (h2 : szH p < Big) : tE p ∧ (tC p).1 = canon (szV p) ∧ (sH p).1 = canon (szH p) := by
 obtain ⟨hok, _, hrg⟩ := chkR_ok h
 have o : ∀ x ∈ nine p, okN x := hok.1
 have hB8 : 8 < Big := Nat.lt_of_lt_of_le (by decide) big64
 have hlo : okN p.lo := o _ (by simp); have hsz : okN p.sz := o _ (by simp); have hbl : okN p.bl := o _ (by simp); have hmk : okN p.msk := o _ (by simp); have hha : okN p.han := o _ (by simp)
 have hm2 : 2 ≤ val p.msk := hrg.1 _ (by simp)
 unfold szV at h1; unfold szH at h2
 have a0 : val p.lo + val p.sz ≤ (val p.lo + val p.sz) * val p.msk := Nat.le_mul_of_pos_right _ (by omega)
 have eA := add_lt hlo hsz (by omega)
 have eM : mulN (canon (val p.lo + val p.sz)) p.msk = (canon ((val p.lo + val p.sz) * val p.msk), 0) := by
  rw [mul_lt (okN_can (by omega)) hmk (by rw [val_canon]; omega), val_canon]
 have eB : mulN (canon 2) p.bl = (canon (2 * val p.bl), 0) := by rw [mul_lt (okN_can (by omega)) hbl (by rw [val_canon]; omega), val_canon]
 have eC : addN (canon (2 * val p.bl)) (canon ((val p.lo + val p.sz) * val p.msk)) = (canon (szV p), 0) := by
  rw [add_lt (okN_can (by omega)) (okN_can (by omega)) (by rw [val_canon, val_canon]; omega), val_canon, val_canon, szV]
 have eH := mul_lt hha hmk h2
 simp only [tE, sA, sM, tB, tC, sH, eA, eM, eB, eC, eH, szH, and_self]
theorem t_no {p : PR} (h : chkR p = 0) (he : tE p) : szV p < Big ∧ szH p < Big := by
 obtain ⟨hok, _, hrg⟩ := chkR_ok h
 have o : ∀ x ∈ nine p, okN x := hok.1
 have hB8 : 8 < Big := Nat.lt_of_lt_of_le (by decide) big64
 have hlo : okN p.lo := o _ (by simp); have hsz : okN p.sz := o _ (by simp); have hbl : okN p.bl := o _ (by simp); have hmk : okN p.msk := o _ (by simp); have hha : okN p.han := o _ (by simp)
 obtain ⟨hB, hA, hM, hC, hH⟩ := he
 have zA := add_z hlo hsz hA
 have eA := add_lt hlo hsz zA
 simp only [sM, sA, eA] at hM
 have zM := mul_z (okN_can zA) hmk hM
 have eM := mul_lt (okN_can zA) hmk zM
 rw [val_canon] at zM eM
 have zB := mul_z (okN_can (by omega)) hbl hB
 have eB := mul_lt (okN_can (by omega)) hbl zB
 rw [val_canon] at zB eB
 simp only [tC, tB, sM, sA, eA, eM, eB] at hC
 have zC := add_z (okN_can zB) (okN_can zM) hC
 rw [val_canon, val_canon] at zC
 exact ⟨by rw [szV]; omega, mul_z hha hmk hH⟩
theorem add_nn (a b : Bs) : 0 ≤ (addN a b).2 := by unfold addN; split <;> (try split) <;> first | exact Int.le_refl 0 | decide
theorem mul_nn (a b : Bs) : 0 ≤ (mulN a b).2 := by unfold mulN; split <;> (try split) <;> first | exact Int.le_refl 0 | decide
theorem max5 {a b c d e : Int} (ha : 0 ≤ a) (hb : 0 ≤ b) (hc : 0 ≤ c) (hd : 0 ≤ d) (he : 0 ≤ e) : max (max (max (max (max 0 a) b) c) d) e = 0 ↔ a = 0 ∧ b = 0 ∧ c = 0 ∧ d = 0 ∧ e = 0 := by omega
theorem keep_u {P : Program} {f : FuncId} {args : Array Value} {v : Value} {ok : Nat → Prop} {w0 : World} {ext rr : List Ent} {x x' : Ent} {fs : List Fact}
  (h : ∀ w, St ok w0 (x :: (ext ++ rr)) fs w → Calls P f args w (fun e w' => e = .returned v ∧ St ok w0 (x' :: (ext ++ rr)) fs w')) :
  ∀ w, St ok w0 (ext ++ x :: rr) fs w → Calls P f args w (fun e w' => ∃ _g : Unit, e = .returned v ∧ True ∧ St ok w0 (ext ++ x' :: rr) fs w') :=
 fun w hS => (h w (hS.perm List.perm_middle.symm)).mono fun _ _ ⟨h1, h2⟩ => ⟨(), h1, trivial, h2.perm List.perm_middle⟩
theorem psizes_c {p : PR} {w : World} (hm8 : p.mn.1.1.length ≤ 8) (hD : TabD w) :
  Cw 39 #[prV p] w (.tuple #[.string (S (sizR p).1.1), .string (S (sizR p).1.2), .int .i64 (sizR p).2]) := by
 refine En [] [(0, prV p)] Tryz.func39 rfl Tryz.ntmps39 rfl (Ac rfl (An _)) Fn ?_
 refine Cs ?_
 refine Kh rfl (Oy rfl rfl) ?_
 intro b1
 refine Ka rfl (Ka rfl (Ka rfl (Nt (Cq (Cs ?_)))))
 refine Kq rfl (lda rfl rfl .tc u30 rfl ?_) ?_
 ·kernel_rfl
 refine Ku rfl (Oc rfl rfl (Kv fun w hS => pcheckR_c (p := p) (by assumption) (by (exact tabd_st hD hS)))) ?_
 refine Ka rfl (Nt (Cs (Km rfl (Kq rfl (rd_neq rfl rfl rfl) (Nt ?_)))))
 refine Cd rfl (fun hc14 => ?_) (fun hc14 => ?_)
 ·(try simp only [sB] at hc14)
  refine Cs (Km rfl (Ka rfl (Ka rfl (Ka rfl (Nt (Ce (Xb ?_)))))))
  exact R3 rfl rfl rfl rfl (by rw [sizR, if_pos (by simpa using hc14)]; rfl)
 ·(try simp only [sB] at hc14)
  have h0 : chkR p = 0 := by simpa using hc14
  have hmx := max5 (mul_nn (canon 2) p.bl) (add_nn p.lo p.sz) (mul_nn (sA p).1 p.msk) (add_nn (tB p).1 (sM p).1) (mul_nn p.han p.msk)
  refine Ck (Xa (Cs ?_))
  refine Kh rfl (Oa rfl (v := (.int .i64 0)) (cs := [.int .i64 0]) (by kernel_rfl) rfl) ?_
  intro b6
  refine Ng rfl rfl (st rfl rfl rfl .tc (by kernel_rfl) rfl ?_ (by (simp only [List.set_cons_zero, List.set_cons_succ]; rfl))) ?_
  ·decide
  intro _
  refine Nt (Cs (Kq rfl (rd_mkf rfl rfl rfl) (Ka rfl (Nt (Cs (Kq rfl (rd_mkf rfl rfl rfl) (Ka rfl (Nt (Cq ?_)))))))))
  refine WC.free (K := [⟨some b1, prC p, 30⟩]) (fs0 := []) [2, 1, 3, 4, 5, 7, 8, 9, 10, 11, 12, 6, 13, 14, 15, 0, 16, 17] [] [0, 0, 1, 0, 0, 1, 0, 0, 0, 0, 0, 0, 1, 0, 0, 1, 1, 0] (by kernel_rfl) (by kernel_rfl) rfl ?_
  refine Jv rfl rfl rfl rfl rfl (fun ext => Oc rfl rfl (Kv fun w hS => of_c (n := 2) (by omega))) ?_
  refine Kj rfl (Rm rfl rfl) (Kj rfl (Fa (q := 15) rfl rfl u30 rfl rfl) (Kj rfl (Ld rfl rfl .tc u22) ?_))
  refine Jg rfl rfl rfl rfl rfl (fun ext => og_callv rfl rfl rfl (by kernel_rfl) rfl (keep_u fun w hS => szmul_c (p := b6) (a := canon 2) (b := p.bl) hS)) ?_
  intro _ _
  refine Kj rfl (Rm rfl rfl) (Kj rfl (Fa (q := 13) rfl rfl u30 rfl rfl) (Kj rfl (Ld rfl rfl .tc u22) ?_))
  refine Kj rfl (Fa (q := 14) rfl rfl u30 rfl rfl) (Kj rfl (Ld rfl rfl .tc u22) ?_)
  refine Jg rfl rfl rfl rfl rfl (fun ext => og_callv rfl rfl rfl (by kernel_rfl) rfl (keep_u fun w hS => szadd_c (p := b6) (a := p.lo) (b := p.sz) hS)) ?_
  intro _ _
  refine Kj rfl (Rm rfl rfl) (Kj rfl (Fa (q := 16) rfl rfl u30 rfl rfl) (Kj rfl (Ld rfl rfl .tc u22) ?_))
  refine Jg rfl rfl rfl rfl rfl (fun ext => og_callv rfl rfl rfl (by kernel_rfl) rfl (keep_u fun w hS => szmul_c (p := b6) (a := (sA p).1) (b := p.msk) hS)) ?_
  intro _ _
  refine Kj rfl (Rm rfl rfl) ?_
  refine Jg rfl rfl rfl rfl rfl (fun ext => og_callv rfl rfl rfl (by kernel_rfl) rfl (keep_u fun w hS => szadd_c (p := b6) (a := (tB p).1) (b := (sM p).1) hS)) ?_
  intro _ _
  refine Kj rfl (Ra rfl rfl) ?_
  refine WJ.nil ?_
  refine Nt (Cs (Km rfl (Kq rfl (Fa (q := 12) rfl rfl u30 rfl rfl) (Kq rfl (Ld rfl rfl .tc u22) ?_))))
  refine Kq rfl (Fa (q := 16) rfl rfl u30 rfl rfl) (Kq rfl (Ld rfl rfl .tc u22) ?_)
  refine Kh rfl (og_callv rfl rfl rfl (by kernel_rfl) rfl (keep_st fun w hS => szmul_c (p := b6) (a := p.han) (b := p.msk) hS)) ?_
  intro _
  refine Ka rfl (Nt (Cq (Cs (Kq rfl (Ld rfl rfl .tc u43) ?_))))
  refine Kq rfl (rd_neq rfl rfl rfl) (Nt ?_)
  refine Cd rfl (fun hc42 => ?_) (fun hc42 => ?_)
  ·(try simp only [sB] at hc42)
   have hn : ¬ (szV p < Big ∧ szH p < Big) := fun h => (by simpa using hc42 : ¬ _) (hmx.2 (t_yes h0 h.1 h.2).1)
   refine Cs (Ka rfl (Ka rfl (Ka rfl (Nt (Ce (Xb ?_))))))
   exact R3 rfl rfl rfl rfl (by rw [sizR, if_neg (fun h => h h0), if_neg hn]; rfl)
  ·(try simp only [sB] at hc42)
   have hy := t_no h0 (hmx.1 (by simpa using hc42))
   have he := t_yes h0 hy.1 hy.2
   refine Ck (Xa (Cs (Km rfl (Km rfl (Ka rfl (Ka rfl (Ka rfl (Nt (Ce ?_)))))))))
   exact R3 rfl rfl rfl rfl (by rw [sizR, if_neg (fun h => h h0), if_pos hy, ← he.2.1, ← he.2.2]; rfl)
abbrev Tm := Bs × Int × Zs
abbrev Qn := Int × Bs × List Tm
abbrev Sm := List Gp × List Bs × List Qn
abbrev tmC (t : Tm) : List Value := [.string (S t.1), .int .i64 t.2.1, .bool t.2.2.1, .string (S t.2.2.2)]
abbrev tms (l : List Tm) : List Value := l.flatMap tmC
abbrev QA := Qn × Option Addr × Nat
abbrev qaC (q : QA) : List Value := [.int .i64 q.1.1, .string (S q.1.2.1), .slice q.2.1 q.1.2.2.length q.2.2]
abbrev qas (l : List QA) : List Value := l.flatMap qaC
abbrev gpC (g : Gp) : List Value := [.string (S g.1), .string (S g.2)]
abbrev gps (l : List Gp) : List Value := l.flatMap gpC
abbrev vrC (v : Bs) : List Value := [.string (S v)]
abbrev vrs (l : List Bs) : List Value := l.flatMap vrC
abbrev qaF (q : QA) : Fact := Fact.sl q.2.1 (tms q.1.2.2)
structure SA where
 gs : List Gp
 vs : List Bs
 es : List QA
 ga : Option Addr
 gc : Nat
 va : Option Addr
 vc : Nat
 ea : Option Addr
 ec : Nat
abbrev SA.core (s : SA) : Sm := (s.gs, s.vs, s.es.map (·.1))
abbrev saV (s : SA) : Value := .agg #[.slice s.ga s.gs.length s.gc, .slice s.va s.vs.length s.vc, .slice s.ea s.es.length s.ec]
abbrev saF (s : SA) : List Fact := Fact.sl s.ga (gps s.gs) :: Fact.sl s.va (vrs s.vs) :: Fact.sl s.ea (qas s.es) :: s.es.map qaF
def saL (s : SA) : Prop := s.gs.length ≤ 100000 ∧ s.vs.length ≤ 100000 ∧ s.es.length ≤ 100000 ∧ (∀ q ∈ s.es, q.1.2.2.length ≤ 100000) ∧ ∀ g ∈ s.gs, g.1.length ≤ 8
def okT (nv : Nat) (t : Tm) : Prop := (0 ≤ t.2.1 ∧ t.2.1 < nv) ∧ okN t.1 ∧ okZ t.2.2
instance (nv : Nat) (t : Tm) : Decidable (okT nv t) := inferInstanceAs (Decidable (_ ∧ _))
def okQh (ng : Nat) (q : Qn) : Prop := (0 ≤ q.1 ∧ q.1 < ng) ∧ okN q.2.1
instance (ng : Nat) (q : Qn) : Decidable (okQh ng q) := inferInstanceAs (Decidable (_ ∧ _))
def okQ (ng nv : Nat) (q : Qn) : Prop := okQh ng q ∧ ∀ t ∈ q.2.2, okT nv t
instance (ng nv : Nat) (q : Qn) : Decidable (okQ ng nv q) := inferInstanceAs (Decidable (_ ∧ _))
def okG (g : Gp) : Prop := okN g.1 ∧ okN g.2
instance (g : Gp) : Decidable (okG g) := inferInstanceAs (Decidable (_ ∧ _))
def formS (s : Sm) : Prop := (∀ g ∈ s.1, okG g) ∧ (∀ v ∈ s.2.1, okN v) ∧ ∀ q ∈ s.2.2, okQ s.1.length s.2.1.length q
instance (s : Sm) : Decidable (formS s) := inferInstanceAs (Decidable (_ ∧ _))
def sizeS (s : Sm) : Prop := (s.1.length ≤ 8 ∧ s.2.1.length ≤ 64 ∧ s.2.2.length ≤ 64) ∧ ∀ q ∈ s.2.2, q.2.2.length ≤ 64
instance (s : Sm) : Decidable (sizeS s) := inferInstanceAs (Decidable (_ ∧ _))
def elQ (gs : List Gp) (q : Qn) : Prop := elG (gs.getD q.1.toNat default) q.2.1 ∧ ∀ t ∈ q.2.2, elG (gs.getD q.1.toNat default) t.1
instance (gs : List Gp) (q : Qn) : Decidable (elQ gs q) := inferInstanceAs (Decidable (_ ∧ _))
def elS (s : Sm) : Prop := (∀ g ∈ s.1, chkG g = 0) ∧ ∀ q ∈ s.2.2, elQ s.1 q
instance (s : Sm) : Decidable (elS s) := inferInstanceAs (Decidable (_ ∧ _))
def ordS (gs : List Gp) : Bs := ((gs.find? fun g => decide (g.2 ≠ [])).map (·.2)).getD []
def kdQ (gs : List Gp) (vs : List Bs) (q : Qn) : Prop := (gs.getD q.1.toNat default).2 ≠ [] ∨ ∀ t ∈ q.2.2, vs.getD t.2.1.toNat default ≠ []
instance (gs : List Gp) (vs : List Bs) (q : Qn) : Decidable (kdQ gs vs q) := inferInstanceAs (Decidable (_ ∨ _))
def kdS (s : Sm) : Prop := (∀ v ∈ s.2.1, v ≠ []) ∨ (ordS s.1 ≠ [] ∧ ∀ g ∈ s.1, ¬ (g.2 ≠ [] ∧ g.2 ≠ ordS s.1)) ∧ ∀ q ∈ s.2.2, kdQ s.1 s.2.1 q
instance (s : Sm) : Decidable (kdS s) := inferInstanceAs (Decidable (_ ∨ _))
def chkS (s : Sm) : Int := if ¬ formS s then 3 else if ¬ sizeS s then 6 else if ¬ elS s then 13 else if ¬ kdS s then 10 else 0
def rdyS (s : Sm) (w : List Zs) : Int := if ¬ formS s then 3 else if ¬ (∀ x ∈ w, okZ x) then 3 else if chkS s ≠ 0 then chkS s else if w.length ≠ s.2.1.length then 6 else 0
def errL : List Int → Int
 | [] => 0
 | e :: l => if e ≠ 0 then e else errL l
abbrev exT (w : List Zs) (t : Tm) : Zs × Int := mulZ t.2.2 (w.getD t.2.1.toNat default)
def exQ (w : List Zs) (q : Qn) : List Zs × Int := if errL (q.2.2.map fun t => (exT w t).2) ≠ 0 then ([], errL (q.2.2.map fun t => (exT w t).2)) else (q.2.2.map fun t => (exT w t).1, 0)
def imQ (gs : List Gp) (w : List Zs) (q : Qn) : Bs × Int := if (exQ w q).2 ≠ 0 then ([], (exQ w q).2) else prodS (gs.getD q.1.toNat default) (q.2.2.map (·.1)) (exQ w q).1
def imS (s : Sm) (w : List Zs) : List Bs × Int := if errL (s.2.2.map fun q => (imQ s.1 w q).2) ≠ 0 then ([], errL (s.2.2.map fun q => (imQ s.1 w q).2)) else (s.2.2.map fun q => (imQ s.1 w q).1, 0)
def inV (q v : Bs) (x : Zs) : Prop := if v = [] then x.1 = false ∧ val x.2 < val q else val x.2 < val v
instance (q v : Bs) (x : Zs) : Decidable (inV q v x) := by unfold inV; infer_instance
def inR (s : Sm) (w : List Zs) : Prop := ∀ i, i < s.2.1.length → inV (ordS s.1) (s.2.1.getD i default) (w.getD i default)
instance (s : Sm) (w : List Zs) : Decidable (inR s w) := inferInstanceAs (Decidable (∀ i, i < s.2.1.length → _))
theorem errL_zero {l : List Int} : errL l = 0 ↔ ∀ e ∈ l, e = 0 := by
 induction l with
 | nil => simp [errL]
 | cons e l ih =>
  rw [errL]; split
  ·rename_i h; simp [h]
  ·rename_i h; rw [ih]; simp; intro _; exact Decidable.not_not.1 h
theorem errL_app {a b : List Int} (h : ∀ e ∈ a, e = 0) : errL (a ++ b) = errL b := by
 induction a with
 | nil => rfl
 | cons e l ih => rw [List.cons_append, errL, if_neg (by simp [h e]), ih fun x hx => h x (List.mem_cons_of_mem _ hx)]
theorem take_succ_getD {α : Type} [Inhabited α] {l : List α} {i : Nat} (h : i < l.length) : l.take (i + 1) = l.take i ++ [l.getD i default] := by
 rw [List.take_add_one, List.getElem?_eq_getElem h, List.getD_eq_getElem?_getD, List.getElem?_eq_getElem h]; rfl
theorem split_at {α : Type} [Inhabited α] {l : List α} {i : Nat} (h : i < l.length) : l = l.take i ++ l.getD i default :: l.drop (i + 1) := by
 rw [← List.singleton_append, ← List.append_assoc, ← take_succ_getD h, List.take_append_drop]
theorem errL_at {α : Type} [Inhabited α] {l : List α} {f : α → Int} {i : Nat} (h : i < l.length) (h0 : ∀ x ∈ l.take i, f x = 0) (h1 : f (l.getD i default) ≠ 0) : errL (l.map f) = f (l.getD i default) := by
 conv => lhs; rw [split_at h]
 rw [List.map_append, errL_app (by intro e he; obtain ⟨x, hx, rfl⟩ := List.mem_map.1 he; exact h0 x hx), List.map_cons, errL, if_pos h1]
theorem errL_map {α : Type} {l : List α} {f : α → Int} (h0 : ∀ x ∈ l, f x = 0) : errL (l.map f) = 0 := errL_zero.2 (by simpa using h0)
theorem qa_getD (l : List QA) (i : Nat) : (l.map (·.1)).getD i default = (l.getD i default).1 := by
 rw [List.getD_eq_getElem?_getD, List.getD_eq_getElem?_getD, List.getElem?_map]; cases l[i]? <;> rfl
theorem forall_qa {l : List QA} {p : Qn → Prop} : (∀ q ∈ l.map (·.1), p q) ↔ ∀ q ∈ l, p q.1 := by simp
theorem ordS_at {gs : List Gp} {i : Nat} (h : i < gs.length) (h0 : ∀ g ∈ gs.take i, g.2 = []) (h1 : (gs.getD i default).2 ≠ []) : ordS gs = (gs.getD i default).2 := by
 have e : gs.find? (fun g => decide (g.2 ≠ [])) = some (gs.getD i default) := by
  conv => lhs; rw [split_at h]
  rw [List.find?_append, List.find?_eq_none.2 (by simpa using h0), List.find?_cons_of_pos (by simpa using h1)]; rfl
 rw [ordS, e]; rfl
theorem ordS_nil {gs : List Gp} (h0 : ∀ g ∈ gs, g.2 = []) : ordS gs = [] := by
 rw [ordS, List.find?_eq_none.2 (by simpa using h0)]; rfl
abbrev Un (m x : Nat) : Prop := Nat.gcd x m = 1
theorem un_mul {m x y : Nat} (h1 : Un m x) (h2 : Un m y) : Un m (x * y) := Nat.Coprime.mul_left h1 h2
theorem un_pow {m x : Nat} (n : Nat) (h : Un m x) : Un m (x ^ n) := Nat.Coprime.pow_left n h
theorem un_mod {m x : Nat} : Un m (x % m) ↔ Un m x := by unfold Un; rw [← Nat.gcd_rec, Nat.gcd_comm]
theorem un_inv {m x : Nat} (hm : 0 < m) (h : Un m x) : x * invN x m % m = 1 % m := by
 obtain ⟨y, hy⟩ := gcd_unit hm h; exact invN_spec hm hy
theorem un_invU {m x : Nat} (hm : 0 < m) (h : Un m x) : Un m (invN x m) := unit_gcd (x := x) (by rw [Nat.mul_comm]; exact un_inv hm h)
theorem un_bs {m x : Nat} (hm : 0 < m) (h : Un m x) (e : Int) : Un m (if e < 0 then invN x m else x) := by split; exact un_invU hm h; exact h
theorem un_powI {m x : Nat} (hm : 0 < m) (h : Un m x) (e : Int) : Un m (powI m x e) := un_mod.2 (un_pow _ (un_bs hm h e))
theorem un_cancel {m a b c : Nat} (hm : 0 < m) (hc : Un m c) (h : a * c % m = b * c % m) : a % m = b % m := by
 have e := un_inv hm hc
 have h1 : ∀ x, x * c * invN c m % m = x % m := fun x => by rw [Nat.mul_assoc, ← mmr, e, mmr, Nat.mul_one]
 rw [← h1 a, ← h1 b, ← mml (a * c), h, mml]
theorem un_prodL {α : Type} {m : Nat} (f : α → Nat) : ∀ l : List α, (∀ x ∈ l, Un m (f x)) → Un m (prodL f l)
 | [], _ => by simp [prodL, Un]
 | x :: l, h => un_mul (h x (by simp)) (un_prodL f l fun y hy => h y (List.mem_cons_of_mem _ hy))
abbrev Or (m q x : Nat) : Prop := x ^ q % m = 1 % m
theorem or_mul {m q x y : Nat} (h1 : Or m q x) (h2 : Or m q y) : Or m q (x * y) := by
 unfold Or at *; rw [Nat.mul_pow, ← mml, h1, mml, Nat.one_mul, h2]
theorem one_pow_mod (m n : Nat) : (1 % m) ^ n % m = 1 % m := by rw [pow_mod2, Nat.one_pow]
theorem or_pow {m q x : Nat} (n : Nat) (h : Or m q x) : Or m q (x ^ n) := by
 unfold Or at *; rw [← Nat.pow_mul, Nat.mul_comm, Nat.pow_mul, ← pow_mod2, h, one_pow_mod]
theorem or_mod {m q x : Nat} : Or m q (x % m) ↔ Or m q x := by unfold Or; rw [pow_mod2]
theorem or_inv {m q x : Nat} (hm : 0 < m) (hu : Un m x) (h : Or m q x) : Or m q (invN x m) := by
 have e : (x * invN x m) ^ q % m = 1 % m := by rw [← pow_mod2, un_inv hm hu, one_pow_mod]
 unfold Or at *; rw [Nat.mul_pow, ← mml, h, mml, Nat.one_mul] at e; exact e
theorem or_powI {m q x : Nat} (hm : 0 < m) (hu : Un m x) (h : Or m q x) (e : Int) : Or m q (powI m x e) := by
 refine or_mod.2 (or_pow _ ?_); split; exact or_inv hm hu h; exact h
theorem or_prodL {α : Type} {m q : Nat} (f : α → Nat) : ∀ l : List α, (∀ x ∈ l, Or m q (f x)) → Or m q (prodL f l)
 | [], _ => by simp [prodL, Or]
 | x :: l, h => or_mul (h x (by simp)) (or_prodL f l fun y hy => h y (List.mem_cons_of_mem _ hy))
theorem elG_prod {g : Gp} {l : List Bs} {es : List Zs} (h : (prodS g l es).2 = 0) : elG g (prodS g l es).1 := by
 have h0 : chkP g l es (decide (l.length = es.length)) = 0 := by
  unfold prodS at h; split at h
  ·assumption
  ·exact h
 obtain ⟨hok, hokz, hg, hs, hel⟩ := chkP_ok h0
 obtain ⟨hm, hq, hm2, _, _⟩ := chkG_ok hg
 rw [prodS, if_pos h0]
 have hm0 : 0 < val g.1 := by omega
 have hmem : ∀ p ∈ l.zip es, elG g p.1 := fun p hp => hel _ (List.of_mem_zip hp).1
 have hU : Un (val g.1) (prodL (fun p => powI (val g.1) (val p.1) (zv p.2)) (l.zip es)) := un_prodL _ _ fun p hp => un_powI hm0 (elG_gcd hg (hmem p hp)) _
 have hlt : prodL (fun p => powI (val g.1) (val p.1) (zv p.2)) (l.zip es) % val g.1 < val g.1 := Nat.mod_lt _ hm0
 have hbig : prodL (fun p => powI (val g.1) (val p.1) (zv p.2)) (l.zip es) % val g.1 < Big := Nat.lt_trans hlt (okN_val hm)
 refine ⟨okN_can hbig, fun h1 => ?_, by rw [val_canon]; exact hlt, ?_⟩
 ·have h2 : val (canon (prodL (fun p => powI (val g.1) (val p.1) (zv p.2)) (l.zip es) % val g.1)) = 0 := by dsimp only at h1; rw [h1]; rfl
  rw [val_canon] at h2
  have := un_mod.2 hU; rw [h2] at this; simp [Un] at this; omega
 ·rw [val_canon]; split
  ·exact un_mod.2 hU
  ·rename_i hq0
   have : Or (val g.1) (val g.2) (prodL (fun p => powI (val g.1) (val p.1) (zv p.2)) (l.zip es)) := or_prodL _ _ fun p hp => or_powI hm0 (elG_gcd hg (hmem p hp)) (by
    have := (hmem p hp).2.2.2; rw [if_neg hq0] at this; rw [Or, this, Nat.mod_eq_of_lt (by omega)]) _
   have h2 := or_mod.2 this; rw [Or, Nat.mod_eq_of_lt (show 1 < val g.1 by omega)] at h2; exact h2
theorem powI_zero {m x : Nat} : powI m x 0 = 1 % m := by simp [powI]
theorem powI_mod {m x : Nat} (e : Int) : powI m x e % m = powI m x e := by rw [powI, Nat.mod_mod]
theorem powI_shift {m x : Nat} (hm : 0 < m) (h : Un m x) (z : Int) (n : Nat) (hn : 0 ≤ z + n) : powI m x z * x ^ n % m = x ^ (z + n).toNat % m := by
 rw [powI, mml]
 by_cases hz : z < 0
 ·rw [if_pos hz, show n = z.natAbs + (z + n).toNat by omega, Nat.pow_add, ← Nat.mul_assoc, ← Nat.mul_pow, Nat.mul_comm (invN x m) x, ← mml, ← pow_mod2, un_inv hm h, one_pow_mod, mml, Nat.one_mul]
  congr 2; omega
 ·rw [if_neg hz, ← Nat.pow_add]; congr 2; omega
theorem powI_add {m x : Nat} (hm : 0 < m) (h : Un m x) (a b : Int) : powI m x a * powI m x b % m = powI m x (a + b) := by
 rw [← powI_mod (a + b)]
 refine un_cancel hm (un_pow (a.natAbs + b.natAbs) h) ?_
 rw [powI_shift hm h _ _ (by omega), Nat.pow_add, show powI m x a * powI m x b * (x ^ a.natAbs * x ^ b.natAbs) = (powI m x a * x ^ a.natAbs) * (powI m x b * x ^ b.natAbs) by simp only [Nat.mul_comm, Nat.mul_left_comm, Nat.mul_assoc], ← mml, powI_shift hm h _ _ (by omega), mml, ← mmr, powI_shift hm h _ _ (by omega), mmr, ← Nat.pow_add]
 congr 2; omega
theorem powI_npow {m x : Nat} (hm : 0 < m) (h : Un m x) (a : Int) : ∀ n : Nat, powI m x a ^ n % m = powI m x (a * n)
 | 0 => by simp [powI_zero]
 | n + 1 => by
  rw [Nat.pow_succ, ← mml, powI_npow hm h a n, powI_add hm h]; congr 1
  rw [Int.natCast_add, Int.mul_add]; simp
theorem powI_inv {m x : Nat} (hm : 0 < m) (h : Un m x) (a : Int) : invN (powI m x a) m = powI m x (-a) := by
 refine invN_eq (by rw [← powI_mod]; exact Nat.mod_lt _ hm) ?_
 rw [powI_add hm h, show a + -a = 0 by omega, powI_zero]
theorem powI_mul {m x : Nat} (hm : 0 < m) (h : Un m x) (a b : Int) : powI m (powI m x a) b = powI m x (a * b) := by
 conv => lhs; rw [powI]
 by_cases hb : b < 0
 ·rw [if_pos hb, powI_inv hm h, powI_npow hm h]; congr 1
  rw [show (b.natAbs : Int) = -b by omega, Int.neg_mul_neg]
 ·rw [if_neg hb, powI_npow hm h]; congr 1
  rw [show (b.natAbs : Int) = b by omega]
theorem inv_mul {m x y : Nat} (hm : 0 < m) (h1 : Un m x) (h2 : Un m y) : invN (x * y % m) m = invN x m * invN y m % m := by
 rw [invN_mod]
 refine invN_eq (Nat.mod_lt _ hm) ?_
 rw [mmr, show x * y * (invN x m * invN y m) = (x * invN x m) * (y * invN y m) by simp only [Nat.mul_comm, Nat.mul_left_comm, Nat.mul_assoc], ← mml, un_inv hm h1, mml, Nat.one_mul, un_inv hm h2]
theorem powI_base {m x y : Nat} (hm : 0 < m) (h1 : Un m x) (h2 : Un m y) (z : Int) : powI m (x * y % m) z = powI m x z * powI m y z % m := by
 simp only [powI]
 by_cases hz : z < 0
 ·simp only [if_pos hz]; rw [inv_mul hm h1 h2, pow_mod2, Nat.mul_pow, mml, mmr]
 ·simp only [if_neg hz]; rw [pow_mod2, Nat.mul_pow, mml, mmr]
abbrev trm (b : Bs) (v : Int) : Tm := (b, v, ofZ 1)
theorem okZ_one : okZ (ofZ 1) := by decide +kernel
theorem mulZ_one {x : Zs} (h : okZ x) : mulZ (ofZ 1) x = (x, 0) := by
 obtain ⟨n, hn, rfl⟩ := okZ_iff.1 h
 have := mulZ_of (a := 1) (b := n) (by decide +kernel) hn (by rw [Int.one_mul]; exact hn)
 rw [Int.one_mul] at this; exact this
theorem okT_trm {n : Nat} {b : Bs} {v : Int} (hb : okN b) (h0 : 0 ≤ v) (h1 : v < n) : okT n (trm b v) := ⟨⟨h0, h1⟩, hb, okZ_one⟩
theorem prodS_two {g : Gp} {a b : Bs} {x y : Zs} (hg : chkG g = 0) (ha : elG g a) (hb : elG g b) (hx : okZ x) (hy : okZ y) :
  prodS g [a, b] [x, y] = (canon (powI (val g.1) (val a) (zv x) * powI (val g.1) (val b) (zv y) % val g.1), 0) := by
 have h0 : chkP g [a, b] [x, y] (decide ([a, b].length = [x, y].length)) = 0 := by
  have e1 : ∀ z ∈ [a, b], okN z := by intro z hz; simp at hz; rcases hz with rfl | rfl; exact ha.1; exact hb.1
  have e2 : ∀ z ∈ [x, y], okZ z := by intro z hz; simp at hz; rcases hz with rfl | rfl <;> assumption
  have e3 : ∀ z ∈ [a, b], elG g z := by intro z hz; simp at hz; rcases hz with rfl | rfl <;> assumption
  rw [chkP, if_neg (fun h => h e1), if_neg (fun h => h e2), if_neg (fun h => h hg), if_neg (by simp), if_neg (fun h => h e3)]
 rw [prodS, if_pos h0]; simp [prodL]
theorem prodS_one {g : Gp} {a : Bs} {x : Zs} (hg : chkG g = 0) (ha : elG g a) (hx : okZ x) : prodS g [a] [x] = (canon (powI (val g.1) (val a) (zv x)), 0) := by
 have h0 : chkP g [a] [x] (decide ([a].length = [x].length)) = 0 := by
  rw [chkP, if_neg (fun h => h (by simpa using ha.1)), if_neg (fun h => h (by simpa using hx)), if_neg (fun h => h hg), if_neg (by simp), if_neg (fun h => h (by simpa using ha))]
 rw [prodS, if_pos h0]; simp [prodL, powI_mod]
theorem elG_lt {g : Gp} {x : Bs} (hg : chkG g = 0) : 0 < val g.1 := by obtain ⟨_, _, h, _, _⟩ := chkG_ok hg; omega
theorem com_pow {m g h : Nat} {x y z s : Int} (hm : 0 < m) (hg : Un m g) (hh : Un m h) :
  powI m (powI m g x * powI m h y % m) z * powI m h s % m = powI m g (x * z) * powI m h (y * z + s) % m := by
 rw [powI_base hm (un_powI hm hg _) (un_powI hm hh _), powI_mul hm hg, powI_mul hm hh, mml, Nat.mul_assoc, ← mmr, powI_add hm hh]
def saN : SA := ⟨[], [], [], none, 0, none, 0, none, 0⟩
abbrev SME (s : SA) (n : Int) : Value := .tuple #[saV s, .int .i64 n]
section
variable {ok : Nat → Prop} {w0 w : World} {own : List Ent} {fs : List Fact}
theorem St.osk (h : St ok w0 own fs w) {b : Nat} {xs : List Value} {T : TypeId} [hf : HasE own b xs T] : (Fact.sl (some ⟨b, 0, none⟩) xs).holds ok w := by
 obtain ⟨k, hk⟩ := hf.h.get
 have := h.own_ _ (List.mem_of_getElem? hk)
 exact .inr ⟨b, 0, xs.toArray, T, (0, 0), rfl, h.okn b this.1, this.2, fun i hi => by simp⟩
theorem sm_err {r : Sm × Int} {n : Int} (hr : r = (([], [], []), n)) (hS : St (fun b => ok b ∨ w0.heap.size ≤ b) w0 own fs w) :
  ∃ gx : SA, Ending.returned (tup [.agg #[.slice none 0 0, .slice none 0 0, .slice none 0 0], .int .i64 n]) = Ending.returned (SME gx r.2) ∧ (gx.core = r.1) ∧ Below w0.heap.size w0 w ∧ ∀ x ∈ (saF gx : List Fact), x.holds (fun b => ok b ∨ w0.heap.size ≤ b) w := by
 subst hr
 exact ⟨saN, rfl, rfl, hS.below, Fc sl_nilk (Fc sl_nilk (Fc sl_nilk Fn))⟩
end
def ixP {α : Type} (p : α → Bool) (l : List α) : Int := if l.any p = true then (l.findIdx p : Int) else -1
theorem ixP_nonneg {α : Type} {p : α → Bool} {l : List α} : decide (ixP p l ≥ 0) = l.any p := by
 rw [ixP]; split
 ·rename_i h; simp [h]
 ·rename_i h; simpa using h
theorem ixP_none {α : Type} {p : α → Bool} {l : List α} (h : ∀ x ∈ l, p x = false) : ixP p l = -1 := by
 rw [ixP, if_neg (by simpa using h)]
theorem ixP_at {α : Type} [Inhabited α] {p : α → Bool} {l : List α} {i : Nat} (hi : i < l.length) (h0 : ∀ x ∈ l.take i, p x = false) (h1 : p (l.getD i default) = true) : ixP p l = i := by
 have e : l.getD i default = l[i] := by rw [List.getD_eq_getElem?_getD, List.getElem?_eq_getElem hi]; rfl
 rw [ixP, if_pos (List.any_eq_true.2 ⟨_, getD_mem l i hi, h1⟩)]
 congr 1
 rw [List.findIdx_eq hi]
 refine ⟨by rw [← e]; exact h1, fun j hj => ?_⟩
 exact h0 _ (List.mem_take_iff_getElem.2 ⟨j, by omega, rfl⟩)
theorem fncall (v : Value) (cs : Array Value) : (#[] : Array Value) ++ [v].toArray ++ cs = #[v] ++ cs := by simp
theorem ixT_c {l : List Tm} {a : Option Addr} {c : Nat} {fk : FuncId} {cs : Array Value} {p : Tm → Bool} {w : World} {ok : Nat → Prop} (hF1 : (Fact.sl a (l.flatMap tmC)).holds ok w) (hl : l.length ≤ 100000) (hgo : goes Tryz.prog fk = true) (hfn : ∀ x ∈ l, ∀ w', Below w.heap.size w w' → Calls Tryz.prog fk (#[.agg (tmC x).toArray] ++ cs) w' fun e w2 => e = .returned (.bool (p x)) ∧ Below w'.heap.size w' w2) :
  Cw 211 #[.slice a l.length c, .func (.func fk) #[] cs] w (.int .i64 (ixP p l)) := by
 refine En [Fact.sl a (l.flatMap tmC)] [(0, .slice a l.length c), (1, .func (.func fk) #[] cs)] Tryz.func211 rfl Tryz.ntmps211 rfl (Ac rfl (Ac rfl (An _))) (Fc (fact_any hF1) Fn) ?_
 refine Cs (Ka rfl (Nt (Cq (Cs (Km rfl (Kq rfl (rd_len rfl rfl u97) (Km rfl (Nt (Cb ?_)))))))))
 refine Lp (σ := Nat) [(0, _), (1, _), (7, _)] (fun gq => [(8, .int .i64 (gq : Int))]) (fun gq => gq ≤ l.length ∧ ∀ x ∈ l.take gq, p x = false) (fun gq => l.length - gq) (0) (S3 rfl rfl rfl) (S1 rfl) (by (try dsimp only); exact ⟨Nat.zero_le _, by simp⟩) ?_
 rintro i hinv1; (try dsimp only at hinv1 ⊢)
 obtain ⟨hi, hok⟩ := hinv1
 refine Cs (Kq rfl (rd_lss rfl rfl rfl) (Nt (Cq ?_)))
 refine Cd rfl (fun hc9 => ?_) (fun hc9 => ?_)
 ·(try simp only [sB] at hc9)
  have hil : i < l.length := by omega
  refine Ck (Xa (Cq (Cb (Cs (Km rfl (Ka rfl (Nt (Cs (Km rfl (Km rfl (Km rfl ?_)))))))))))
  refine Kq rfl (Ia rfl rfl rfl u97 (by kernel_rfl : _ = some 4) (by omega) (by (rw [flatMap_len _ _ 4 (fun _ => rfl)]; omega))) ?_
  refine Kq rfl (ldma _ rfl rfl u95 rfl (by kernel_rfl : _ = some 4) (fun _ => rfl) (by decide) rfl (by assumption)) ?_
  refine Ku rfl (og_callv rfl rfl rfl hgo (fncall _ _) (Kv fun w hS => hfn (l.getD i default) (getD_mem _ _ hil) w hS.below)) ?_
  refine Nt ?_
  refine Cd rfl (fun hc16 => ?_) (fun hc16 => ?_)
  ·(try simp only [sB] at hc16)
   refine Cs (Km rfl (Ka rfl (Nt (Ce (Xf (Xb (Xb (Xf (Xb ?_)))))))))
   exact R1 rfl rfl (by rw [ixP_at hil hok (by simpa using hc16)]; rfl)
  ·(try simp only [sB] at hc16)
   refine Ck (Xd (Xa (Cg (Kq rfl (Rz rfl rfl rfl (by omega)) (Km rfl (Nn ?_))))))
   refine Ly (i + 1) (by (try dsimp only); omega) (S3 rfl rfl rfl) (by refine (Sc ?_ (S0 _)) <;> (rfl)) ?_ (by (exact fun _ h => h))
   (try dsimp only)
   exact ⟨hil, all_take hil hok (by simpa using hc16)⟩
 ·(try simp only [sB] at hc9)
  refine Cx (Xc (Xc (Xe ?_)))
  obtain rfl : i = l.length := by omega
  rw [List.take_length] at hok
  refine Xa (Cs (Ka rfl (Nt (Ce ?_))))
  exact R1 rfl rfl (by rw [ixP_none hok]; rfl)
theorem cfT_c {l : List Tm} {a : Option Addr} {c : Nat} {fk : FuncId} {cs : Array Value} {p : Tm → Bool} {w : World} {ok : Nat → Prop} (hF1 : (Fact.sl a (l.flatMap tmC)).holds ok w) (hl : l.length ≤ 100000) (hgo : goes Tryz.prog fk = true) (hfn : ∀ x ∈ l, ∀ w', Below w.heap.size w w' → Calls Tryz.prog fk (#[.agg (tmC x).toArray] ++ cs) w' fun e w2 => e = .returned (.bool (p x)) ∧ Below w'.heap.size w' w2) :
  Cw 179 #[.slice a l.length c, .func (.func fk) #[] cs] w (.bool (l.any p)) := by
 refine En [Fact.sl a (l.flatMap tmC)] [(0, .slice a l.length c), (1, .func (.func fk) #[] cs)] Tryz.func179 rfl Tryz.ntmps179 rfl (Ac rfl (Ac rfl (An _))) (Fc (fact_any hF1) Fn) ?_
 refine Cs (Ka rfl (Nt (Cs (Km rfl (Km rfl ?_)))))
 refine Ku rfl (Oc rfl rfl (Kv fun w hS => ixT_c (fk := fk) (cs := cs) (p := p) (by (exact hS.sl)) (by exact hl) (by exact hgo) (by exact fun x hx w' hb => hfn x hx w' (hS.below.trans (hb.mono hS.below.size))))) ?_
 refine Kq rfl (rd_geq rfl rfl rfl) (Ka rfl (Nt (Ce ?_)))
 exact R1 rfl rfl (by rw [ixP_nonneg]; rfl)
theorem ixQ_c {l : List QA} {a : Option Addr} {c : Nat} {fk : FuncId} {cs : Array Value} {p : QA → Bool} {w : World} {ok : Nat → Prop} (hF1 : (Fact.sl a (l.flatMap qaC)).holds ok w) (hl : l.length ≤ 100000) (hgo : goes Tryz.prog fk = true) (hfn : ∀ x ∈ l, ∀ w', Below w.heap.size w w' → Calls Tryz.prog fk (#[.agg (qaC x).toArray] ++ cs) w' fun e w2 => e = .returned (.bool (p x)) ∧ Below w'.heap.size w' w2) :
  Cw 210 #[.slice a l.length c, .func (.func fk) #[] cs] w (.int .i64 (ixP p l)) := by
 refine En [Fact.sl a (l.flatMap qaC)] [(0, .slice a l.length c), (1, .func (.func fk) #[] cs)] Tryz.func210 rfl Tryz.ntmps210 rfl (Ac rfl (Ac rfl (An _))) (Fc (fact_any hF1) Fn) ?_
 refine Cs (Ka rfl (Nt (Cq (Cs (Km rfl (Kq rfl (rd_len rfl rfl u40) (Km rfl (Nt (Cb ?_)))))))))
 refine Lp (σ := Nat) [(0, _), (1, _), (7, _)] (fun gq => [(8, .int .i64 (gq : Int))]) (fun gq => gq ≤ l.length ∧ ∀ x ∈ l.take gq, p x = false) (fun gq => l.length - gq) (0) (S3 rfl rfl rfl) (S1 rfl) (by (try dsimp only); exact ⟨Nat.zero_le _, by simp⟩) ?_
 rintro i hinv1; (try dsimp only at hinv1 ⊢)
 obtain ⟨hi, hok⟩ := hinv1
 refine Cs (Kq rfl (rd_lss rfl rfl rfl) (Nt (Cq ?_)))
 refine Cd rfl (fun hc9 => ?_) (fun hc9 => ?_)
 ·(try simp only [sB] at hc9)
  have hil : i < l.length := by omega
  refine Ck (Xa (Cq (Cb (Cs (Km rfl (Ka rfl (Nt (Cs (Km rfl (Km rfl (Km rfl ?_)))))))))))
  refine Kq rfl (Ia rfl rfl rfl u40 (by kernel_rfl : _ = some 3) (by omega) (by (rw [flatMap_len _ _ 3 (fun _ => rfl)]; omega))) ?_
  refine Kq rfl (ldma _ rfl rfl u99 rfl (by kernel_rfl : _ = some 3) (fun _ => rfl) (by decide) rfl (by assumption)) ?_
  refine Ku rfl (og_callv rfl rfl rfl hgo (fncall _ _) (Kv fun w hS => hfn (l.getD i default) (getD_mem _ _ hil) w hS.below)) ?_
  refine Nt ?_
  refine Cd rfl (fun hc16 => ?_) (fun hc16 => ?_)
  ·(try simp only [sB] at hc16)
   refine Cs (Km rfl (Ka rfl (Nt (Ce (Xf (Xb (Xb (Xf (Xb ?_)))))))))
   exact R1 rfl rfl (by rw [ixP_at hil hok (by simpa using hc16)]; rfl)
  ·(try simp only [sB] at hc16)
   refine Ck (Xd (Xa (Cg (Kq rfl (Rz rfl rfl rfl (by omega)) (Km rfl (Nn ?_))))))
   refine Ly (i + 1) (by (try dsimp only); omega) (S3 rfl rfl rfl) (by refine (Sc ?_ (S0 _)) <;> (rfl)) ?_ (by (exact fun _ h => h))
   (try dsimp only)
   exact ⟨hil, all_take hil hok (by simpa using hc16)⟩
 ·(try simp only [sB] at hc9)
  refine Cx (Xc (Xc (Xe ?_)))
  obtain rfl : i = l.length := by omega
  rw [List.take_length] at hok
  refine Xa (Cs (Ka rfl (Nt (Ce ?_))))
  exact R1 rfl rfl (by rw [ixP_none hok]; rfl)
theorem cfQ_c {l : List QA} {a : Option Addr} {c : Nat} {fk : FuncId} {cs : Array Value} {p : QA → Bool} {w : World} {ok : Nat → Prop} (hF1 : (Fact.sl a (l.flatMap qaC)).holds ok w) (hl : l.length ≤ 100000) (hgo : goes Tryz.prog fk = true) (hfn : ∀ x ∈ l, ∀ w', Below w.heap.size w w' → Calls Tryz.prog fk (#[.agg (qaC x).toArray] ++ cs) w' fun e w2 => e = .returned (.bool (p x)) ∧ Below w'.heap.size w' w2) :
  Cw 177 #[.slice a l.length c, .func (.func fk) #[] cs] w (.bool (l.any p)) := by
 refine En [Fact.sl a (l.flatMap qaC)] [(0, .slice a l.length c), (1, .func (.func fk) #[] cs)] Tryz.func177 rfl Tryz.ntmps177 rfl (Ac rfl (Ac rfl (An _))) (Fc (fact_any hF1) Fn) ?_
 refine Cs (Ka rfl (Nt (Cs (Km rfl (Km rfl ?_)))))
 refine Ku rfl (Oc rfl rfl (Kv fun w hS => ixQ_c (fk := fk) (cs := cs) (p := p) (by (exact hS.sl)) (by exact hl) (by exact hgo) (by exact fun x hx w' hb => hfn x hx w' (hS.below.trans (hb.mono hS.below.size))))) ?_
 refine Kq rfl (rd_geq rfl rfl rfl) (Ka rfl (Nt (Ce ?_)))
 exact R1 rfl rfl (by rw [ixP_nonneg]; rfl)
theorem ixV_c {l : List Bs} {a : Option Addr} {c : Nat} {fk : FuncId} {cs : Array Value} {p : Bs → Bool} {w : World} {ok : Nat → Prop} (hF1 : (Fact.sl a (l.flatMap vrC)).holds ok w) (hl : l.length ≤ 100000) (hgo : goes Tryz.prog fk = true) (hfn : ∀ x ∈ l, ∀ w', Below w.heap.size w w' → Calls Tryz.prog fk (#[.agg (vrC x).toArray] ++ cs) w' fun e w2 => e = .returned (.bool (p x)) ∧ Below w'.heap.size w' w2) :
  Cw 212 #[.slice a l.length c, .func (.func fk) #[] cs] w (.int .i64 (ixP p l)) := by
 refine En [Fact.sl a (l.flatMap vrC)] [(0, .slice a l.length c), (1, .func (.func fk) #[] cs)] Tryz.func212 rfl Tryz.ntmps212 rfl (Ac rfl (Ac rfl (An _))) (Fc (fact_any hF1) Fn) ?_
 refine Cs (Ka rfl (Nt (Cq (Cs (Km rfl (Kq rfl (rd_len rfl rfl u39) (Km rfl (Nt (Cb ?_)))))))))
 refine Lp (σ := Nat) [(0, _), (1, _), (7, _)] (fun gq => [(8, .int .i64 (gq : Int))]) (fun gq => gq ≤ l.length ∧ ∀ x ∈ l.take gq, p x = false) (fun gq => l.length - gq) (0) (S3 rfl rfl rfl) (S1 rfl) (by (try dsimp only); exact ⟨Nat.zero_le _, by simp⟩) ?_
 rintro i hinv1; (try dsimp only at hinv1 ⊢)
 obtain ⟨hi, hok⟩ := hinv1
 refine Cs (Kq rfl (rd_lss rfl rfl rfl) (Nt (Cq ?_)))
 refine Cd rfl (fun hc9 => ?_) (fun hc9 => ?_)
 ·(try simp only [sB] at hc9)
  have hil : i < l.length := by omega
  refine Ck (Xa (Cq (Cb (Cs (Km rfl (Ka rfl (Nt (Cs (Km rfl (Km rfl (Km rfl ?_)))))))))))
  refine Kq rfl (Ib rfl rfl rfl u39 (by omega) (by (rw [flatMap_len _ _ 1 (fun _ => rfl)]; omega))) ?_
  refine Kq rfl (ldma _ rfl rfl u102 rfl (by kernel_rfl : _ = some 1) (fun _ => rfl) (by decide) (Nat.mul_one _).symm (by assumption)) ?_
  refine Ku rfl (og_callv rfl rfl rfl hgo (fncall _ _) (Kv fun w hS => hfn (l.getD i default) (getD_mem _ _ hil) w hS.below)) ?_
  refine Nt ?_
  refine Cd rfl (fun hc16 => ?_) (fun hc16 => ?_)
  ·(try simp only [sB] at hc16)
   refine Cs (Km rfl (Ka rfl (Nt (Ce (Xf (Xb (Xb (Xf (Xb ?_)))))))))
   exact R1 rfl rfl (by rw [ixP_at hil hok (by simpa using hc16)]; rfl)
  ·(try simp only [sB] at hc16)
   refine Ck (Xd (Xa (Cg (Kq rfl (Rz rfl rfl rfl (by omega)) (Km rfl (Nn ?_))))))
   refine Ly (i + 1) (by (try dsimp only); omega) (S3 rfl rfl rfl) (by refine (Sc ?_ (S0 _)) <;> (rfl)) ?_ (by (exact fun _ h => h))
   (try dsimp only)
   exact ⟨hil, all_take hil hok (by simpa using hc16)⟩
 ·(try simp only [sB] at hc9)
  refine Cx (Xc (Xc (Xe ?_)))
  obtain rfl : i = l.length := by omega
  rw [List.take_length] at hok
  refine Xa (Cs (Ka rfl (Nt (Ce ?_))))
  exact R1 rfl rfl (by rw [ixP_none hok]; rfl)
theorem cfV_c {l : List Bs} {a : Option Addr} {c : Nat} {fk : FuncId} {cs : Array Value} {p : Bs → Bool} {w : World} {ok : Nat → Prop} (hF1 : (Fact.sl a (l.flatMap vrC)).holds ok w) (hl : l.length ≤ 100000) (hgo : goes Tryz.prog fk = true) (hfn : ∀ x ∈ l, ∀ w', Below w.heap.size w w' → Calls Tryz.prog fk (#[.agg (vrC x).toArray] ++ cs) w' fun e w2 => e = .returned (.bool (p x)) ∧ Below w'.heap.size w' w2) :
  Cw 181 #[.slice a l.length c, .func (.func fk) #[] cs] w (.bool (l.any p)) := by
 refine En [Fact.sl a (l.flatMap vrC)] [(0, .slice a l.length c), (1, .func (.func fk) #[] cs)] Tryz.func181 rfl Tryz.ntmps181 rfl (Ac rfl (Ac rfl (An _))) (Fc (fact_any hF1) Fn) ?_
 refine Cs (Ka rfl (Nt (Cs (Km rfl (Km rfl ?_)))))
 refine Ku rfl (Oc rfl rfl (Kv fun w hS => ixV_c (fk := fk) (cs := cs) (p := p) (by (exact hS.sl)) (by exact hl) (by exact hgo) (by exact fun x hx w' hb => hfn x hx w' (hS.below.trans (hb.mono hS.below.size))))) ?_
 refine Kq rfl (rd_geq rfl rfl rfl) (Ka rfl (Nt (Ce ?_)))
 exact R1 rfl rfl (by rw [ixP_nonneg]; rfl)
theorem ixG_c {l : List Gp} {a : Option Addr} {c : Nat} {fk : FuncId} {cs : Array Value} {p : Gp → Bool} {w : World} {ok : Nat → Prop} (hF1 : (Fact.sl a (l.flatMap gpC)).holds ok w) (hl : l.length ≤ 100000) (hgo : goes Tryz.prog fk = true) (hfn : ∀ x ∈ l, ∀ w', Below w.heap.size w w' → Calls Tryz.prog fk (#[.agg (gpC x).toArray] ++ cs) w' fun e w2 => e = .returned (.bool (p x)) ∧ Below w'.heap.size w' w2) :
  Cw 213 #[.slice a l.length c, .func (.func fk) #[] cs] w (.int .i64 (ixP p l)) := by
 refine En [Fact.sl a (l.flatMap gpC)] [(0, .slice a l.length c), (1, .func (.func fk) #[] cs)] Tryz.func213 rfl Tryz.ntmps213 rfl (Ac rfl (Ac rfl (An _))) (Fc (fact_any hF1) Fn) ?_
 refine Cs (Ka rfl (Nt (Cq (Cs (Km rfl (Kq rfl (rd_len rfl rfl u38) (Km rfl (Nt (Cb ?_)))))))))
 refine Lp (σ := Nat) [(0, _), (1, _), (7, _)] (fun gq => [(8, .int .i64 (gq : Int))]) (fun gq => gq ≤ l.length ∧ ∀ x ∈ l.take gq, p x = false) (fun gq => l.length - gq) (0) (S3 rfl rfl rfl) (S1 rfl) (by (try dsimp only); exact ⟨Nat.zero_le _, by simp⟩) ?_
 rintro i hinv1; (try dsimp only at hinv1 ⊢)
 obtain ⟨hi, hok⟩ := hinv1
 refine Cs (Kq rfl (rd_lss rfl rfl rfl) (Nt (Cq ?_)))
 refine Cd rfl (fun hc9 => ?_) (fun hc9 => ?_)
 ·(try simp only [sB] at hc9)
  have hil : i < l.length := by omega
  refine Ck (Xa (Cq (Cb (Cs (Km rfl (Ka rfl (Nt (Cs (Km rfl (Km rfl (Km rfl ?_)))))))))))
  refine Kq rfl (Ia rfl rfl rfl u38 (by kernel_rfl : _ = some 2) (by omega) (by (rw [flatMap_len _ _ 2 (fun _ => rfl)]; omega))) ?_
  refine Kq rfl (ldma _ rfl rfl u26 rfl (by kernel_rfl : _ = some 2) (fun _ => rfl) (by decide) rfl (by assumption)) ?_
  refine Ku rfl (og_callv rfl rfl rfl hgo (fncall _ _) (Kv fun w hS => hfn (l.getD i default) (getD_mem _ _ hil) w hS.below)) ?_
  refine Nt ?_
  refine Cd rfl (fun hc16 => ?_) (fun hc16 => ?_)
  ·(try simp only [sB] at hc16)
   refine Cs (Km rfl (Ka rfl (Nt (Ce (Xf (Xb (Xb (Xf (Xb ?_)))))))))
   exact R1 rfl rfl (by rw [ixP_at hil hok (by simpa using hc16)]; rfl)
  ·(try simp only [sB] at hc16)
   refine Ck (Xd (Xa (Cg (Kq rfl (Rz rfl rfl rfl (by omega)) (Km rfl (Nn ?_))))))
   refine Ly (i + 1) (by (try dsimp only); omega) (S3 rfl rfl rfl) (by refine (Sc ?_ (S0 _)) <;> (rfl)) ?_ (by (exact fun _ h => h))
   (try dsimp only)
   exact ⟨hil, all_take hil hok (by simpa using hc16)⟩
 ·(try simp only [sB] at hc9)
  refine Cx (Xc (Xc (Xe ?_)))
  obtain rfl : i = l.length := by omega
  rw [List.take_length] at hok
  refine Xa (Cs (Ka rfl (Nt (Ce ?_))))
  exact R1 rfl rfl (by rw [ixP_none hok]; rfl)
theorem cfG_c {l : List Gp} {a : Option Addr} {c : Nat} {fk : FuncId} {cs : Array Value} {p : Gp → Bool} {w : World} {ok : Nat → Prop} (hF1 : (Fact.sl a (l.flatMap gpC)).holds ok w) (hl : l.length ≤ 100000) (hgo : goes Tryz.prog fk = true) (hfn : ∀ x ∈ l, ∀ w', Below w.heap.size w w' → Calls Tryz.prog fk (#[.agg (gpC x).toArray] ++ cs) w' fun e w2 => e = .returned (.bool (p x)) ∧ Below w'.heap.size w' w2) :
  Cw 183 #[.slice a l.length c, .func (.func fk) #[] cs] w (.bool (l.any p)) := by
 refine En [Fact.sl a (l.flatMap gpC)] [(0, .slice a l.length c), (1, .func (.func fk) #[] cs)] Tryz.func183 rfl Tryz.ntmps183 rfl (Ac rfl (Ac rfl (An _))) (Fc (fact_any hF1) Fn) ?_
 refine Cs (Ka rfl (Nt (Cs (Km rfl (Km rfl ?_)))))
 refine Ku rfl (Oc rfl rfl (Kv fun w hS => ixG_c (fk := fk) (cs := cs) (p := p) (by (exact hS.sl)) (by exact hl) (by exact hgo) (by exact fun x hx w' hb => hfn x hx w' (hS.below.trans (hb.mono hS.below.size))))) ?_
 refine Kq rfl (rd_geq rfl rfl rfl) (Ka rfl (Nt (Ce ?_)))
 exact R1 rfl rfl (by rw [ixP_nonneg]; rfl)
theorem ixZ_c {l : List Zs} {a : Option Addr} {c : Nat} {fk : FuncId} {cs : Array Value} {p : Zs → Bool} {w : World} {ok : Nat → Prop} (hF1 : (Fact.sl a (l.flatMap zc)).holds ok w) (hl : l.length ≤ 100000) (hgo : goes Tryz.prog fk = true) (hfn : ∀ x ∈ l, ∀ w', Below w.heap.size w w' → Calls Tryz.prog fk (#[.agg (zc x).toArray] ++ cs) w' fun e w2 => e = .returned (.bool (p x)) ∧ Below w'.heap.size w' w2) :
  Cw 139 #[.slice a l.length c, .func (.func fk) #[] cs] w (.int .i64 (ixP p l)) := by
 refine En [Fact.sl a (l.flatMap zc)] [(0, .slice a l.length c), (1, .func (.func fk) #[] cs)] Tryz.func139 rfl Tryz.ntmps139 rfl (Ac rfl (Ac rfl (An _))) (Fc (fact_any hF1) Fn) ?_
 refine Cs (Ka rfl (Nt (Cq (Cs (Km rfl (Kq rfl (rd_len rfl rfl u54) (Km rfl (Nt (Cb ?_)))))))))
 refine Lp (σ := Nat) [(0, _), (1, _), (7, _)] (fun gq => [(8, .int .i64 (gq : Int))]) (fun gq => gq ≤ l.length ∧ ∀ x ∈ l.take gq, p x = false) (fun gq => l.length - gq) (0) (S3 rfl rfl rfl) (S1 rfl) (by (try dsimp only); exact ⟨Nat.zero_le _, by simp⟩) ?_
 rintro i hinv1; (try dsimp only at hinv1 ⊢)
 obtain ⟨hi, hok⟩ := hinv1
 refine Cs (Kq rfl (rd_lss rfl rfl rfl) (Nt (Cq ?_)))
 refine Cd rfl (fun hc9 => ?_) (fun hc9 => ?_)
 ·(try simp only [sB] at hc9)
  have hil : i < l.length := by omega
  refine Ck (Xa (Cq (Cb (Cs (Km rfl (Ka rfl (Nt (Cs (Km rfl (Km rfl (Km rfl ?_)))))))))))
  refine Kq rfl (Ia rfl rfl rfl u54 (by kernel_rfl : _ = some 2) (by omega) (by (rw [flatMap_len _ _ 2 (fun _ => rfl)]; omega))) ?_
  refine Kq rfl (ldma _ rfl rfl u50 rfl (by kernel_rfl : _ = some 2) (fun _ => rfl) (by decide) rfl (by assumption)) ?_
  refine Ku rfl (og_callv rfl rfl rfl hgo (fncall _ _) (Kv fun w hS => hfn (l.getD i default) (getD_mem _ _ hil) w hS.below)) ?_
  refine Nt ?_
  refine Cd rfl (fun hc16 => ?_) (fun hc16 => ?_)
  ·(try simp only [sB] at hc16)
   refine Cs (Km rfl (Ka rfl (Nt (Ce (Xf (Xb (Xb (Xf (Xb ?_)))))))))
   exact R1 rfl rfl (by rw [ixP_at hil hok (by simpa using hc16)]; rfl)
  ·(try simp only [sB] at hc16)
   refine Ck (Xd (Xa (Cg (Kq rfl (Rz rfl rfl rfl (by omega)) (Km rfl (Nn ?_))))))
   refine Ly (i + 1) (by (try dsimp only); omega) (S3 rfl rfl rfl) (by refine (Sc ?_ (S0 _)) <;> (rfl)) ?_ (by (exact fun _ h => h))
   (try dsimp only)
   exact ⟨hil, all_take hil hok (by simpa using hc16)⟩
 ·(try simp only [sB] at hc9)
  refine Cx (Xc (Xc (Xe ?_)))
  obtain rfl : i = l.length := by omega
  rw [List.take_length] at hok
  refine Xa (Cs (Ka rfl (Nt (Ce ?_))))
  exact R1 rfl rfl (by rw [ixP_none hok]; rfl)
theorem cfZ_c {l : List Zs} {a : Option Addr} {c : Nat} {fk : FuncId} {cs : Array Value} {p : Zs → Bool} {w : World} {ok : Nat → Prop} (hF1 : (Fact.sl a (l.flatMap zc)).holds ok w) (hl : l.length ≤ 100000) (hgo : goes Tryz.prog fk = true) (hfn : ∀ x ∈ l, ∀ w', Below w.heap.size w w' → Calls Tryz.prog fk (#[.agg (zc x).toArray] ++ cs) w' fun e w2 => e = .returned (.bool (p x)) ∧ Below w'.heap.size w' w2) :
  Cw 92 #[.slice a l.length c, .func (.func fk) #[] cs] w (.bool (l.any p)) := by
 refine En [Fact.sl a (l.flatMap zc)] [(0, .slice a l.length c), (1, .func (.func fk) #[] cs)] Tryz.func92 rfl Tryz.ntmps92 rfl (Ac rfl (Ac rfl (An _))) (Fc (fact_any hF1) Fn) ?_
 refine Cs (Ka rfl (Nt (Cs (Km rfl (Km rfl ?_)))))
 refine Ku rfl (Oc rfl rfl (Kv fun w hS => ixZ_c (fk := fk) (cs := cs) (p := p) (by (exact hS.sl)) (by exact hl) (by exact hgo) (by exact fun x hx w' hb => hfn x hx w' (hS.below.trans (hb.mono hS.below.size))))) ?_
 refine Kq rfl (rd_geq rfl rfl rfl) (Ka rfl (Nt (Ce ?_)))
 exact R1 rfl rfl (by rw [ixP_nonneg]; rfl)
end Go.Proofs.YthkmpjobfdeoaaaGreatDoor
