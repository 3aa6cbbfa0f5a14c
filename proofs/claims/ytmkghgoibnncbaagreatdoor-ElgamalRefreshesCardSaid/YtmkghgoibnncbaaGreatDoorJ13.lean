/-
  Parts of the walk: Elf Lin1 Eqs Lin2.
-/
import Derived.Test.YtmkghgoibnncbaaGreatDoorJ12
import Derived.Laws.StructEq
import Derived.ChangeKeysEq
namespace Go.Proofs.YtmkghgoibnncbaaGreatDoor
open Go.RowKit
set_option linter.unusedSimpArgs false
set_option linter.unusedVariables false
set_option maxHeartbeats 600000
set_option maxRecDepth 20000
theorem elformed_c {l : List Bs} {a : Option Addr} {c : Nat} {w : World} {ok : Nat → Prop} (hF1 : (Fact.sl a (strs l)).holds ok w) (hl : l.length ≤ 100000) :
  Cw 56 #[.slice a l.length c] w (.bool (decide (∀ x ∈ l, okN x))) := by
 refine En [Fact.sl a (strs l)] [(0, .slice a l.length c)] Tryz.func56 rfl Tryz.ntmps56 rfl (Ac rfl (An _)) (Fc (fact_any hF1) Fn) ?_
 refine Cs (Ka rfl (Nt (Cq (Cs (Km rfl (Kq rfl (rd_len rfl rfl u31) (Km rfl (Nt (Cb ?_)))))))))
 refine Lp (σ := Nat) [(5, _), (6, _)] (fun gq => [(7, .int .i64 (gq : Int))]) (fun gq => gq ≤ l.length ∧ ∀ x ∈ l.take gq, okN x) (fun gq => l.length - gq) (0) (S2 rfl rfl) (S1 rfl) (by (try dsimp only); exact ⟨Nat.zero_le _, by simp⟩) ?_
 rintro i hinv1; (try dsimp only at hinv1 ⊢)
 obtain ⟨hi, hok⟩ := hinv1
 refine Cs (Kq rfl (rd_lss rfl rfl rfl) (Nt (Cq ?_)))
 refine Cd rfl (fun hc8 => ?_) (fun hc8 => ?_)
 ·(try simp only [sB] at hc8)
  have hil : i < l.length := by omega
  refine Ck (Xa (Cq (Cb (Cs ?_))))
  refine Kq rfl (Ib rfl rfl rfl u31 (by omega) (by (rw [List.length_map]; omega))) ?_
  refine Kq rfl (ldm rfl rfl u22 rfl (by assumption)) ?_
  refine Ka rfl (Nt (Cs (Km rfl ?_)))
  refine Ku rfl (Oc rfl rfl (Kv fun w hS => valid_c (a := l.getD i default))) ?_
  refine Kq rfl (Rt rfl rfl) (Nt ?_)
  refine Cd rfl (fun hc13 => ?_) (fun hc13 => ?_)
  ·(try simp only [sB] at hc13)
   refine Cs (Ka rfl (Nt (Ce (Xf (Xb (Xb (Xf (Xb ?_))))))))
   exact R1 rfl rfl (by rw [decide_eq_false (fun h => absurd (h _ (getD_mem _ _ hil)) (by simpa using hc13))]; rfl)
  ·(try simp only [sB] at hc13)
   refine Ck (Xd (Xa (Cg (Kq rfl (Rz rfl rfl rfl (by omega)) (Km rfl (Nn ?_))))))
   refine Ly (i + 1) (by (try dsimp only); omega) (S2 rfl rfl) (by refine (Sc ?_ (S0 _)) <;> (rfl)) ?_ (by (exact fun _ h => h))
   (try dsimp only)
   exact ⟨hil, all_take hil hok (by simpa using hc13)⟩
 ·(try simp only [sB] at hc8)
  refine Cx (Xc (Xc (Xe ?_)))
  obtain rfl : i = l.length := by omega
  rw [List.take_length] at hok
  refine Xa (Cs (Ka rfl (Nt (Ce ?_))))
  exact R1 rfl rfl (by rw [decide_eq_true hok]; rfl)
theorem schformed_c {l : List Bs} {a : Option Addr} {c : Nat} {w : World} {ok : Nat → Prop} (hF1 : (Fact.sl a (strs l)).holds ok w) (hl : l.length ≤ 100000) :
  Cw 66 #[.slice a l.length c] w (.bool (decide (∀ x ∈ l, okN x))) := by
 refine En [Fact.sl a (strs l)] [(0, .slice a l.length c)] Tryz.func66 rfl Tryz.ntmps66 rfl (Ac rfl (An _)) (Fc (fact_any hF1) Fn) ?_
 refine Cs (Ka rfl (Nt (Cq (Cs (Km rfl (Kq rfl (rd_len rfl rfl u31) (Km rfl (Nt (Cb ?_)))))))))
 refine Lp (σ := Nat) [(5, _), (6, _)] (fun gq => [(7, .int .i64 (gq : Int))]) (fun gq => gq ≤ l.length ∧ ∀ x ∈ l.take gq, okN x) (fun gq => l.length - gq) (0) (S2 rfl rfl) (S1 rfl) (by (try dsimp only); exact ⟨Nat.zero_le _, by simp⟩) ?_
 rintro i hinv1; (try dsimp only at hinv1 ⊢)
 obtain ⟨hi, hok⟩ := hinv1
 refine Cs (Kq rfl (rd_lss rfl rfl rfl) (Nt (Cq ?_)))
 refine Cd rfl (fun hc8 => ?_) (fun hc8 => ?_)
 ·(try simp only [sB] at hc8)
  have hil : i < l.length := by omega
  refine Ck (Xa (Cq (Cb (Cs ?_))))
  refine Kq rfl (Ib rfl rfl rfl u31 (by omega) (by (rw [List.length_map]; omega))) ?_
  refine Kq rfl (ldm rfl rfl u22 rfl (by assumption)) ?_
  refine Ka rfl (Nt (Cs (Km rfl ?_)))
  refine Ku rfl (Oc rfl rfl (Kv fun w hS => valid_c (a := l.getD i default))) ?_
  refine Kq rfl (Rt rfl rfl) (Nt ?_)
  refine Cd rfl (fun hc13 => ?_) (fun hc13 => ?_)
  ·(try simp only [sB] at hc13)
   refine Cs (Ka rfl (Nt (Ce (Xf (Xb (Xb (Xf (Xb ?_))))))))
   exact R1 rfl rfl (by rw [decide_eq_false (fun h => absurd (h _ (getD_mem _ _ hil)) (by simpa using hc13))]; rfl)
  ·(try simp only [sB] at hc13)
   refine Ck (Xd (Xa (Cg (Kq rfl (Rz rfl rfl rfl (by omega)) (Km rfl (Nn ?_))))))
   refine Ly (i + 1) (by (try dsimp only); omega) (S2 rfl rfl) (by refine (Sc ?_ (S0 _)) <;> (rfl)) ?_ (by (exact fun _ h => h))
   (try dsimp only)
   exact ⟨hil, all_take hil hok (by simpa using hc13)⟩
 ·(try simp only [sB] at hc8)
  refine Cx (Xc (Xc (Xe ?_)))
  obtain rfl : i = l.length := by omega
  rw [List.take_length] at hok
  refine Xa (Cs (Ka rfl (Nt (Ce ?_))))
  exact R1 rfl rfl (by rw [decide_eq_true hok]; rfl)
theorem c1E : canon 1 = [1] := by decide +kernel
theorem fncallN' (cs : Array Value) : (#[] : Array Value) ++ ([] : List Value).toArray ++ cs = cs := by simp
theorem pexp_c {g : Gp} {x : Bs} {z : Zs} {w : World} (hm8 : g.1.length ≤ 8) :
  Cw 24 #[gV g, .string (S x), zV z] w (NE (prodS g [x] [z])) := by
 refine En [] [(0, gV g), (1, .string (S x)), (2, zV z)] Tryz.func24 rfl Tryz.ntmps24 rfl (Ac rfl (Ac rfl (Ac rfl (An _)))) Fn ?_
 refine Cs ?_
 refine Kh rfl (Oy rfl rfl) ?_
 intro b3
 refine Kh rfl (Oy rfl rfl) ?_
 intro b5
 refine Ka rfl (Ka rfl (Nt (Cs ?_)))
 refine Kq rfl (lda rfl rfl .tc u24 rfl ?_) ?_
 ·kernel_rfl
 refine Km rfl ?_
 refine Kh rfl (og_bs1 rfl rfl u31 (by kernel_rfl : _ = some (some (.string (S [])), 1, 16)) rfl (by simp only [List.map]; rfl) rfl rfl ?_ (by decide)) ?_
 ·simp [Value.cells]
 intro b10
 refine Kq rfl (lda rfl rfl .tc u64 rfl ?_) ?_
 ·kernel_rfl
 refine Kh rfl (og_bsN rfl rfl u71 (by kernel_rfl : _ = some (some (.agg #[.bool false, .string (S [])]), 2, 24)) (by kernel_rfl) (by decide) rfl rfl (by (simp [Value.cells]; done)) (by (exact cells_one _)) (by decide)) ?_
 intro b12
 refine Ku rfl (Oc rfl rfl (Kv fun w hS => pproduct_c (g := g) (l := [x]) (es := [z]) (by (exact hS.os)) (by (exact hS.os)) (by (simp <;> omega)) (by (simp <;> omega)) (by assumption))) ?_
 refine Kq rfl (Re rfl rfl rfl) (Kq rfl (Re rfl rfl rfl) (Ka rfl (Ka rfl (Nt (Ce ?_)))))
 exact R2 rfl rfl rfl (by rfl)
theorem pmulg_c {g : Gp} {a b : Bs} {w : World} (hm8 : g.1.length ≤ 8) :
  Cw 34 #[gV g, .string (S a), .string (S b)] w (NE (mulS g a b)) := by
 refine En [] [(0, gV g), (1, .string (S a)), (2, .string (S b))] Tryz.func34 rfl Tryz.ntmps34 rfl (Ac rfl (Ac rfl (Ac rfl (An _)))) Fn ?_
 refine Cs ?_
 refine Kh rfl (Oy rfl rfl) ?_
 intro b3
 refine Ka rfl (Ka rfl (Nt (Cq (Cs ?_))))
 refine Kq rfl (lda rfl rfl .tc u24 rfl ?_) ?_
 ·kernel_rfl
 refine Km rfl (Km rfl ?_)
 refine Kh rfl (og_bs1 rfl rfl u31 (by kernel_rfl : _ = some (some (.string (S [])), 1, 16)) rfl (by simp only [List.map]; rfl) rfl rfl ?_ (by decide)) ?_
 ·simp [Value.cells]
 intro b12
 refine Ku rfl (Oc rfl rfl (Kv fun w hS => checked_c (g := g) (l := [a, b]) (es := []) (same := true) (by (exact hS.os)) (by (exact sl_nil)) (by (simp <;> omega)) (by (simp <;> omega)) (by assumption))) ?_
 refine Ka rfl (Nt (Cs (Km rfl (Kq rfl (rd_neq rfl rfl rfl) (Nt ?_)))))
 refine Cd rfl (fun hc15 => ?_) (fun hc15 => ?_)
 ·(try simp only [sB] at hc15)
  refine Cs (Km rfl (Ka rfl (Ka rfl (Nt (Ce (Xb ?_))))))
  exact R2 rfl rfl rfl (by rw [mulS, if_pos (by simpa using hc15)]; rfl)
 ·(try simp only [sB] at hc15)
  have h0 : chkP g [a, b] [] true = 0 := by simpa using hc15
  obtain ⟨_, _, _, _, hel⟩ := chkP_ok h0
  have ha8 := elG_len (hel a (by simp)) hm8
  have hb8 := elG_len (hel b (by simp)) hm8
  refine Ck (Xa (Cs (Km rfl (Km rfl (Kq rfl (Fa (q := 0) rfl rfl u24 rfl rfl) (Kq rfl (Ld rfl rfl .tc u22) ?_))))))
  refine Ku rfl (Oc rfl rfl (Kv fun w hS => mmul_c (a := a) (b := b) (m := g.1) (by assumption) (by assumption) (by assumption))) ?_
  refine Kq rfl (Re rfl rfl rfl) (Kq rfl (Re rfl rfl rfl) (Ka rfl (Ka rfl (Nt (Ce ?_)))))
  exact R2 rfl rfl rfl (by rw [mulS, if_neg (fun h => h h0)]; rfl)
theorem schgen_c {g : Gp} {x : Bs} {w : World} (hm8 : g.1.length ≤ 8) :
  Cw 68 #[gV g, .string (S x)] w (.bool (decide ((chkG g = 0 ∧ elG g x) ∧ x ≠ canon 1))) := by
 refine En [] [(0, gV g), (1, .string (S x))] Tryz.func68 rfl Tryz.ntmps68 rfl (Ac rfl (Ac rfl (An _))) Fn ?_
 refine Cs ?_
 refine Kh rfl (Oy rfl rfl) ?_
 intro b2
 refine Ka rfl (Nt (Cs ?_))
 refine Kq rfl (lda rfl rfl .tc u24 rfl ?_) ?_
 ·kernel_rfl
 refine Km rfl ?_
 refine Ku rfl (Oc rfl rfl (Kv fun w hS => pwhas_c (g := g) (x := x) (by assumption))) ?_
 refine Km rfl ?_
 refine Nb 8 rfl (fun hg8 => ?_) (fun hg8 => ?_)
 ·(try simp only [sB] at hg8)
  refine Km rfl (Kq rfl (rd_sne rfl rfl rfl) (Kq rfl (Rp rfl rfl rfl) (Ka rfl (Nt (Ce ?_)))))
  exact R1 rfl rfl (by (simp [*, tup, c1E]; done))
 ·(try simp only [sB] at hg8)
  refine Kt rfl (Kt rfl (Kq rfl (Rq rfl rfl rfl) (Ka rfl (Nt (Ce ?_)))))
  exact R1 rfl rfl (by (simp [*, tup, c1E]; done))
theorem schcheck_c {k : PK} {w : World} (hm8 : k.1.1.length ≤ 8) :
  Cw 22 #[pkV k] w (.int .i64 (chkY k)) := by
 refine En [] [(0, pkV k)] Tryz.func22 rfl Tryz.ntmps22 rfl (Ac rfl (An _)) Fn ?_
 refine Cs ?_
 refine Kh rfl (Oy rfl rfl) ?_
 intro b1
 refine Ka rfl (Nt (Cq (Cs (Kq rfl (Fa (q := 0) rfl rfl u26 rfl rfl) (Kq rfl (Fa (q := 0) rfl rfl u24 rfl rfl) (Kq rfl (Ld rfl rfl .tc u22) ?_))))))
 refine Kq rfl (Fa (q := 0) rfl rfl u26 rfl rfl) (Kq rfl (Fa (q := 1) rfl rfl u24 rfl rfl) (Kq rfl (Ld rfl rfl .tc u22) ?_))
 refine Kq rfl (Fa (q := 2) rfl rfl u26 rfl rfl) (Kq rfl (Ld rfl rfl .tc u22) ?_)
 refine Kq rfl (Fa (q := 3) rfl rfl u26 rfl rfl) (Kq rfl (Ld rfl rfl .tc u22) ?_)
 refine Kh rfl (og_bs1 rfl rfl u31 (by kernel_rfl : _ = some (some (.string (S [])), 1, 16)) rfl (by simp only [List.map]; rfl) rfl rfl ?_ (by decide)) ?_
 ·simp [Value.cells]
 intro b14
 refine Ku rfl (Oc rfl rfl (Kv fun w hS => schformed_c (l := [k.1.1, k.1.2, k.2.1, k.2.2]) (by (exact hS.os)) (by (simp <;> omega)))) ?_
 refine Kq rfl (Rt rfl rfl) (Nt ?_)
 refine Cd rfl (fun hc16 => ?_) (fun hc16 => ?_)
 ·(try simp only [sB] at hc16)
  have hr : chkY k = 3 := by rw [chkY, if_pos (fun h => hc16 (by intro x hx; simp at hx; rcases hx with rfl | rfl | rfl | rfl; exact h.1; exact h.2.1; exact h.2.2.1; exact h.2.2.2))]
  refine Cs (Ka rfl (Nt (Ce (Xb ?_))))
  exact R1 rfl rfl (by rw [hr]; rfl)
 ·(try simp only [sB] at hc16)
  have hok : okK k := ⟨hc16 _ (by simp), hc16 _ (by simp), hc16 _ (by simp), hc16 _ (by simp)⟩
  refine Ck (Xa (Cq (Cs (Kq rfl (Fa (q := 0) rfl rfl u26 rfl rfl) ?_))))
  refine Kq rfl (ldp rfl rfl .tc u24 rfl (by kernel_rfl : _ = some 2) (by rfl) (by rfl)) ?_
  refine Ku rfl (Oc rfl rfl (Kv fun w hS => pcheck_c (g := k.1))) ?_
  refine Ka rfl (Nt (Cs (Km rfl (Kq rfl (rd_neq rfl rfl rfl) (Nt ?_)))))
  refine Cd rfl (fun hc21 => ?_) (fun hc21 => ?_)
  ·(try simp only [sB] at hc21)
   refine Cs (Km rfl (Ka rfl (Nt (Ce (Xb ?_)))))
   exact R1 rfl rfl (by rw [chkY, if_neg (fun h => h hok), if_pos (by simpa using hc21)]; rfl)
  ·(try simp only [sB] at hc21)
   have hg : chkG k.1 = 0 := by simpa using hc21
   refine Ck (Xa (Cq ?_))
   refine WC.joinP (σ := Unit) [] (fun gq => [(42, .bool (decide (¬ (k.1.2 ≠ [] ∧ (elG k.1 k.2.1 ∧ k.2.1 ≠ canon 1) ∧ elG k.1 k.2.2 ∧ k.2.2 ≠ canon 1))))]) (fun gq => True) (S0 _) ?_ ?_
   ·skip
    refine Cg (Kq rfl (Fa (q := 0) rfl rfl u26 rfl rfl) (Kq rfl (Fa (q := 1) rfl rfl u24 rfl rfl) (Kq rfl (Ld rfl rfl .tc u22) ?_)))
    refine Kq rfl (rd_seq rfl rfl rfl) (Km rfl ?_)
    refine Nb 27 rfl (fun hg27 => ?_) (fun hg27 => ?_)
    ·(try simp only [sB] at hg27)
     refine Kt rfl (Kt rfl (Kt rfl (Kt rfl (Kt rfl (Kt rfl (Kq rfl (Rp rfl rfl rfl) (Km rfl (Kt rfl (Kt rfl (Kt rfl (Kt rfl (Kt rfl (Kt rfl (Kq rfl (Rp rfl rfl rfl) (Nn ?_)))))))))))))))
     refine WX.joinP (()) (S0 _) (by refine (Sc ?_ (S0 _)) <;> ((refine slot_b rfl ?_; (try dsimp only); (simp [*]; done)))) ?_ (by (exact fun _ h => h))
     (try dsimp only)
     done
    ·(try simp only [sB] at hg27)
     refine Kq rfl (Fa (q := 0) rfl rfl u26 rfl rfl) ?_
     refine Kq rfl (ldp rfl rfl .tc u24 rfl (by kernel_rfl : _ = some 2) (by rfl) (by rfl)) ?_
     refine Kq rfl (Fa (q := 2) rfl rfl u26 rfl rfl) (Kq rfl (Ld rfl rfl .tc u22) ?_)
     refine Ku rfl (Oc rfl rfl (Kv fun w hS => schgen_c (g := k.1) (x := k.2.1) (by assumption))) ?_
     refine Ns 32 rfl (v' := .bool (decide (elG k.1 k.2.1 ∧ k.2.1 ≠ canon 1))) (congrArg Value.bool (by simp [hg])) ?_
     refine Kq rfl (Rt rfl rfl) (Kq rfl (Rq rfl rfl rfl) (Km rfl ?_))
     refine Nb 35 rfl (fun hg35 => ?_) (fun hg35 => ?_)
     ·(try simp only [sB] at hg35)
      refine Kt rfl (Kt rfl (Kt rfl (Kt rfl (Kt rfl (Kt rfl (Kq rfl (Rp rfl rfl rfl) (Nn ?_)))))))
      refine WX.joinP (()) (S0 _) (by refine (Sc ?_ (S0 _)) <;> ((refine slot_b rfl ?_; (try dsimp only); (simp [*]; done)))) ?_ (by (exact fun _ h => h))
      (try dsimp only)
      done
     ·(try simp only [sB] at hg35)
      refine Kq rfl (Fa (q := 0) rfl rfl u26 rfl rfl) ?_
      refine Kq rfl (ldp rfl rfl .tc u24 rfl (by kernel_rfl : _ = some 2) (by rfl) (by rfl)) ?_
      refine Kq rfl (Fa (q := 3) rfl rfl u26 rfl rfl) (Kq rfl (Ld rfl rfl .tc u22) ?_)
      refine Ku rfl (Oc rfl rfl (Kv fun w hS => schgen_c (g := k.1) (x := k.2.2) (by assumption))) ?_
      refine Ns 40 rfl (v' := .bool (decide (elG k.1 k.2.2 ∧ k.2.2 ≠ canon 1))) (congrArg Value.bool (by simp [hg])) ?_
      refine Kq rfl (Rt rfl rfl) (Kq rfl (Rq rfl rfl rfl) (Nn ?_))
      refine WX.joinP (()) (S0 _) (by refine (Sc ?_ (S0 _)) <;> ((refine slot_b rfl ?_; (try dsimp only); (simp [*]; done)))) ?_ (by (exact fun _ h => h))
      (try dsimp only)
      done
   ·rintro _ hmeet; (try dsimp only at hmeet ⊢)
    refine Cd rfl (fun hc42 => ?_) (fun hc42 => ?_)
    ·(try simp only [sB] at hc42)
     refine Cs (Ka rfl (Nt (Ce (Xb ?_))))
     exact R1 rfl rfl (by rw [chkY, if_neg (fun h => h hok), if_neg (fun h => h hg), if_pos (show ¬ genK k from hc42)]; rfl)
    ·(try simp only [sB] at hc42)
     refine Ck (Xa (Cs (Ka rfl (Nt (Ce ?_)))))
     exact R1 rfl rfl (by rw [chkY, if_neg (fun h => h hok), if_neg (fun h => h hg), if_neg (show ¬ ¬ genK k from hc42)]; rfl)
theorem rschgen_c {g : Gp} {x : Bs} {w : World} (hm8 : g.1.length ≤ 8) :
  Cw 154 #[gV g, .string (S x)] w (.bool (decide (g.2 ≠ [] ∧ (chkG g = 0 ∧ elG g x) ∧ x ≠ canon 1))) := by
 refine En [] [(0, gV g), (1, .string (S x))] Tryz.func154 rfl Tryz.ntmps154 rfl (Ac rfl (Ac rfl (An _))) Fn ?_
 refine Cs ?_
 refine Kh rfl (Oy rfl rfl) ?_
 intro b2
 refine Ka rfl (Nt (Cs (Kq rfl (Fa (q := 1) rfl rfl u24 rfl rfl) (Kq rfl (Ld rfl rfl .tc u22) ?_))))
 refine Kq rfl (rd_sne rfl rfl rfl) (Km rfl ?_)
 refine Nb 8 rfl (fun hg8 => ?_) (fun hg8 => ?_)
 ·(try simp only [sB] at hg8)
  refine Kq rfl (lda rfl rfl .tc u24 rfl ?_) ?_
  ·kernel_rfl
  refine Km rfl ?_
  refine Ku rfl (Oc rfl rfl (Kv fun w hS => rghas_c (g := g) (x := x) (by assumption))) ?_
  refine Kq rfl (Rp rfl rfl rfl) (Km rfl ?_)
  refine Nb 13 rfl (fun hg13 => ?_) (fun hg13 => ?_)
  ·(try simp only [sB] at hg13)
   refine Km rfl (Kq rfl (rd_sne rfl rfl rfl) (Kq rfl (Rp rfl rfl rfl) (Ka rfl (Nt (Ce ?_)))))
   exact R1 rfl rfl (by (simp [*, tup, c1E]; done))
  ·(try simp only [sB] at hg13)
   refine Kt rfl (Kt rfl (Kq rfl (Rq rfl rfl rfl) (Ka rfl (Nt (Ce ?_)))))
   exact R1 rfl rfl (by (simp [*, tup, c1E]; done))
 ·(try simp only [sB] at hg8)
  refine Kt rfl (Kt rfl (Kt rfl (Kq rfl (Rq rfl rfl rfl) (Km rfl (Kt rfl (Kt rfl (Kq rfl (Rq rfl rfl rfl) (Ka rfl (Nt (Ce ?_))))))))))
  exact R1 rfl rfl (by (simp [*, tup, c1E]; done))
theorem rschcheck_c {k : PK} {w : World} (hm8 : k.1.1.length ≤ 8) :
  Cw 102 #[pkV k] w (.int .i64 (chkY k)) := by
 refine En [] [(0, pkV k)] Tryz.func102 rfl Tryz.ntmps102 rfl (Ac rfl (An _)) Fn ?_
 refine Cs ?_
 refine Kh rfl (Oy rfl rfl) ?_
 intro b1
 refine Ka rfl (Nt (Cs (Kq rfl (Fa (q := 0) rfl rfl u26 rfl rfl) (Kq rfl (Fa (q := 0) rfl rfl u24 rfl rfl) (Kq rfl (Ld rfl rfl .tc u22) ?_)))))
 refine Kq rfl (Fa (q := 0) rfl rfl u26 rfl rfl) (Kq rfl (Fa (q := 1) rfl rfl u24 rfl rfl) (Kq rfl (Ld rfl rfl .tc u22) ?_))
 refine Kq rfl (Fa (q := 2) rfl rfl u26 rfl rfl) (Kq rfl (Ld rfl rfl .tc u22) ?_)
 refine Kq rfl (Fa (q := 3) rfl rfl u26 rfl rfl) (Kq rfl (Ld rfl rfl .tc u22) ?_)
 refine Kh rfl (og_bs1 rfl rfl u31 (by kernel_rfl : _ = some (some (.string (S [])), 1, 16)) rfl (by simp only [List.map]; rfl) rfl rfl ?_ (by decide)) ?_
 ·simp [Value.cells]
 intro b16
 refine Ka rfl (Nt (Cq (Cs ?_)))
 refine WL.st (fun w h => h.freeze (off := 0) (xs := strs [k.1.1, k.1.2, k.2.1, k.2.2]) (fun i hi => by rw [Nat.zero_add]; rfl)) ?_
 refine Ka rfl (Nt (Cb ?_))
 refine Lp (σ := Nat) [(1, _), (3, _)] (fun gq => [(4, .int .i64 (gq : Int))]) (fun gq => gq ≤ 4 ∧ ∀ x ∈ [k.1.1, k.1.2, k.2.1, k.2.2].take gq, okN x) (fun gq => 4 - gq) (0) (S2 rfl rfl) (S1 rfl) (by (try dsimp only); exact ⟨Nat.zero_le _, by simp⟩) ?_
 rintro i hinv1; (try dsimp only at hinv1 ⊢)
 obtain ⟨hi, hall⟩ := hinv1
 refine Cq (Cs (Km rfl (Km rfl (Kq rfl (rd_len rfl rfl u31) (Kq rfl (rd_lss rfl rfl rfl) (Nt ?_))))))
 refine Cd rfl (fun hc20 => ?_) (fun hc20 => ?_)
 ·(try simp only [sB] at hc20)
  have hil : i < [k.1.1, k.1.2, k.2.1, k.2.2].length := by show i < 4; omega
  refine Ck (Xa (Cq (Cb (Cs (Km rfl (Km rfl ?_))))))
  refine Kq rfl (Ja rfl rfl rfl u31 (by kernel_rfl : _ = some 1) (by omega)) ?_
  refine Kq rfl (ldf (off0 := 0) (m := i) rfl rfl .tc u22 rfl (Nat.zero_add _).symm (map_getD [k.1.1, k.1.2, k.2.1, k.2.2] (fun s : Bs => Value.string (S s)) i hil)) ?_
  refine Ku rfl (Oc rfl rfl (Kv fun w hS => rvalid_c (a := [k.1.1, k.1.2, k.2.1, k.2.2].getD i default))) ?_
  refine Kq rfl (Rt rfl rfl) (Nt ?_)
  refine Cd rfl (fun hc28 => ?_) (fun hc28 => ?_)
  ·(try simp only [sB] at hc28)
   have hr : chkY k = 3 := by
    rw [chkY, if_pos (fun h => absurd ((by intro x hx; simp at hx; rcases hx with rfl | rfl | rfl | rfl; exact h.1; exact h.2.1; exact h.2.2.1; exact h.2.2.2 : ∀ x ∈ [k.1.1, k.1.2, k.2.1, k.2.2], okN x) _ (getD_mem _ _ hil)) (by simpa using hc28))]
   refine Cs (Ka rfl (Nt (Ce (Xf (Xb (Xb (Xf (Xb ?_))))))))
   exact R1 rfl rfl (by rw [hr]; rfl)
  ·(try simp only [sB] at hc28)
   refine Ck (Xd (Xa (Cg (Km rfl (Kq rfl (Rz rfl rfl rfl (by omega)) (Ka rfl (Nn ?_)))))))
   refine Ly (i + 1) (by (try dsimp only); omega) (S2 rfl rfl) (by refine (Sc ?_ (S0 _)) <;> (rfl)) ?_ (by (exact fun _ h => h))
   (try dsimp only)
   exact ⟨hil, all_take hil hall (by simpa using hc28)⟩
 ·(try simp only [sB] at hc20)
  refine Cx (Xc (Xc (Xe ?_)))
  obtain rfl : i = 4 := by omega
  have hok : okK k := ⟨hall _ (by simp), hall _ (by simp), hall _ (by simp), hall _ (by simp)⟩
  refine Xa (Cq (Cs (Kq rfl (Fa (q := 0) rfl rfl u26 rfl rfl) ?_)))
  refine Kq rfl (ldp rfl rfl .tc u24 rfl (by kernel_rfl : _ = some 2) (by rfl) (by rfl)) ?_
  refine Ku rfl (Oc rfl rfl (Kv fun w hS => rgcheck_c (g := k.1))) ?_
  refine Ka rfl (Nt (Cs (Km rfl (Kq rfl (rd_neq rfl rfl rfl) (Nt ?_)))))
  refine Cd rfl (fun hc33 => ?_) (fun hc33 => ?_)
  ·(try simp only [sB] at hc33)
   refine Cs (Km rfl (Ka rfl (Nt (Ce (Xb ?_)))))
   exact R1 rfl rfl (by rw [chkY, if_neg (fun h => h hok), if_pos (by simpa using hc33)]; rfl)
  ·(try simp only [sB] at hc33)
   have hg : chkG k.1 = 0 := by simpa using hc33
   refine Ck (Xa (Cq ?_))
   refine WC.joinP (σ := Unit) [] (fun gq => [(48, .bool (decide (¬ ((k.1.2 ≠ [] ∧ elG k.1 k.2.1 ∧ k.2.1 ≠ canon 1) ∧ k.1.2 ≠ [] ∧ elG k.1 k.2.2 ∧ k.2.2 ≠ canon 1))))]) (fun gq => True) (S0 _) ?_ ?_
   ·skip
    refine Cg (Kq rfl (Fa (q := 0) rfl rfl u26 rfl rfl) ?_)
    refine Kq rfl (ldp rfl rfl .tc u24 rfl (by kernel_rfl : _ = some 2) (by rfl) (by rfl)) ?_
    refine Kq rfl (Fa (q := 2) rfl rfl u26 rfl rfl) (Kq rfl (Ld rfl rfl .tc u22) ?_)
    refine Ku rfl (Oc rfl rfl (Kv fun w hS => rschgen_c (g := k.1) (x := k.2.1) (by assumption))) ?_
    refine Ns 39 rfl (v' := .bool (decide (k.1.2 ≠ [] ∧ elG k.1 k.2.1 ∧ k.2.1 ≠ canon 1))) (congrArg Value.bool (by simp [hg])) ?_
    refine Kq rfl (Rt rfl rfl) (Km rfl ?_)
    refine Nb 41 rfl (fun hg41 => ?_) (fun hg41 => ?_)
    ·(try simp only [sB] at hg41)
     refine Kt rfl (Kt rfl (Kt rfl (Kt rfl (Kt rfl (Kt rfl (Kq rfl (Rp rfl rfl rfl) (Nn ?_)))))))
     refine WX.joinP (()) (S0 _) (by refine (Sc ?_ (S0 _)) <;> ((refine slot_b rfl ?_; (try dsimp only); (simp [*]; done)))) ?_ (by (exact fun _ h => h))
     (try dsimp only)
     done
    ·(try simp only [sB] at hg41)
     refine Kq rfl (Fa (q := 0) rfl rfl u26 rfl rfl) ?_
     refine Kq rfl (ldp rfl rfl .tc u24 rfl (by kernel_rfl : _ = some 2) (by rfl) (by rfl)) ?_
     refine Kq rfl (Fa (q := 3) rfl rfl u26 rfl rfl) (Kq rfl (Ld rfl rfl .tc u22) ?_)
     refine Ku rfl (Oc rfl rfl (Kv fun w hS => rschgen_c (g := k.1) (x := k.2.2) (by assumption))) ?_
     refine Ns 46 rfl (v' := .bool (decide (k.1.2 ≠ [] ∧ elG k.1 k.2.2 ∧ k.2.2 ≠ canon 1))) (congrArg Value.bool (by simp [hg])) ?_
     refine Kq rfl (Rt rfl rfl) (Kq rfl (Rq rfl rfl rfl) (Nn ?_))
     refine WX.joinP (()) (S0 _) (by refine (Sc ?_ (S0 _)) <;> ((refine slot_b rfl ?_; (try dsimp only); (simp [*]; done)))) ?_ (by (exact fun _ h => h))
     (try dsimp only)
     done
   ·rintro _ hmeet; (try dsimp only at hmeet ⊢)
    refine Cd rfl (fun hc48 => ?_) (fun hc48 => ?_)
    ·(try simp only [sB] at hc48)
     refine Cs (Ka rfl (Nt (Ce (Xb ?_))))
     exact R1 rfl rfl (by rw [chkY, if_neg (fun h => h hok), if_neg (fun h => h hg), if_pos (fun h : genK k => hc48 ⟨⟨h.1, h.2.1⟩, h.1, h.2.2⟩)]; rfl)
    ·(try simp only [sB] at hc48)
     refine Ck (Xa (Cs (Ka rfl (Nt (Ce ?_)))))
     exact R1 rfl rfl (by rw [chkY, if_neg (fun h => h hok), if_neg (fun h => h hg), if_neg (fun h => h (show genK k from have h2 := Decidable.not_not.1 hc48; ⟨h2.1.1, h2.1.2, h2.2.2⟩))]; rfl)
theorem elexp_c {k : PK} {b z : Bs} {w : World} (hm8 : k.1.1.length ≤ 8) :
  Cw 57 #[pkV k, .string (S b), .string (S z)] w (.string (S (prodS k.1 [b] [(false, z)]).1)) := by
 refine En [] [(0, pkV k), (1, .string (S b)), (2, .string (S z))] Tryz.func57 rfl Tryz.ntmps57 rfl (Ac rfl (Ac rfl (Ac rfl (An _)))) Fn ?_
 refine Cs ?_
 refine Kh rfl (Oy rfl rfl) ?_
 intro b3
 refine Ka rfl (Nt (Cs (Kq rfl (Fa (q := 0) rfl rfl u26 rfl rfl) ?_)))
 refine Kq rfl (ldp rfl rfl .tc u24 rfl (by kernel_rfl : _ = some 2) (by rfl) (by rfl)) ?_
 refine Km rfl (Km rfl (Kq rfl (Kb [[.bool false], [.string (S [])]] rfl rfl) ?_))
 refine Ku rfl (Oc rfl rfl (Kv fun w hS => pexp_c (g := k.1) (x := b) (z := (false, z)) (by assumption))) ?_
 refine Km rfl (Kq rfl (Re rfl rfl rfl) (Kq rfl (Re rfl rfl rfl) (Ka rfl (Ka rfl (Nt (Cs (Km rfl (Ka rfl (Nt (Ce ?_))))))))))
 exact R1 rfl rfl (by rfl)
theorem elmul_c {k : PK} {a b : Bs} {w : World} (hm8 : k.1.1.length ≤ 8) :
  Cw 78 #[pkV k, .string (S a), .string (S b)] w (.string (S (mulS k.1 a b).1)) := by
 refine En [] [(0, pkV k), (1, .string (S a)), (2, .string (S b))] Tryz.func78 rfl Tryz.ntmps78 rfl (Ac rfl (Ac rfl (Ac rfl (An _)))) Fn ?_
 refine Cs ?_
 refine Kh rfl (Oy rfl rfl) ?_
 intro b3
 refine Ka rfl (Nt (Cs (Kq rfl (Fa (q := 0) rfl rfl u26 rfl rfl) ?_)))
 refine Kq rfl (ldp rfl rfl .tc u24 rfl (by kernel_rfl : _ = some 2) (by rfl) (by rfl)) ?_
 refine Km rfl (Km rfl ?_)
 refine Ku rfl (Oc rfl rfl (Kv fun w hS => pmulg_c (g := k.1) (a := a) (b := b) (by assumption))) ?_
 refine Km rfl (Kq rfl (Re rfl rfl rfl) (Kq rfl (Re rfl rfl rfl) (Ka rfl (Ka rfl (Nt (Cs (Km rfl (Ka rfl (Nt (Ce ?_))))))))))
 exact R1 rfl rfl (by rfl)
theorem elmask_c {k : PK} {c : Cp} {r : Bs} {w : World} (hm8 : k.1.1.length ≤ 8) :
  Cw 49 #[pkV k, .agg #[.string (S c.1), .string (S c.2)], .string (S r)] w (.agg #[.string (S (mulS k.1 c.1 (prodS k.1 [k.2.1] [(false, r)]).1).1), .string (S (mulS k.1 c.2 (prodS k.1 [k.2.2] [(false, r)]).1).1)]) := by
 refine En [] [(0, pkV k), (1, .agg #[.string (S c.1), .string (S c.2)]), (2, .string (S r))] Tryz.func49 rfl Tryz.ntmps49 rfl (Ac rfl (Ac rfl (Ac rfl (An _)))) Fn ?_
 refine Cs ?_
 refine Kh rfl (Oy rfl rfl) ?_
 intro b3
 refine Kh rfl (Oy rfl rfl) ?_
 intro b4
 refine Kh rfl (Oz [.string (S []), .string (S [])] rfl) ?_
 intro b6
 refine Nt (Cq ?_)
 refine Cf [3, 4, 5, 6, 7, 0, 1, 2, 8, 12, 13, 14, 15, 16, 9, 10, 11, 17, 18] [19] [0, 0, 0, 0, 0, 0, 0, 1, 1, 0, 0, 0, 0, 0, 0, 0, 1, 1, 0, 2] (by kernel_rfl) (by kernel_rfl) rfl ?_
 refine Kj rfl (lda rfl rfl .tc u26 rfl ?_) ?_
 ·kernel_rfl
 refine Kj rfl (Fa (q := 2) rfl rfl u26 rfl rfl) (Kj rfl (Ld rfl rfl .tc u22) ?_)
 refine Kj rfl (Rm rfl rfl) ?_
 refine Jv rfl rfl rfl rfl rfl (fun ext => Oc rfl rfl (Kv fun w hS => elexp_c (k := k) (b := k.2.1) (z := r) (by assumption))) ?_
 refine Kj rfl (lda rfl rfl .tc u26 rfl ?_) ?_
 ·kernel_rfl
 refine Kj rfl (Fa (q := 0) rfl rfl u28 rfl rfl) (Kj rfl (Ld rfl rfl .tc u22) ?_)
 refine Jv rfl rfl rfl rfl rfl (fun ext => Oc rfl rfl (Kv fun w hS => elmul_c (k := k) (a := c.1) (b := (prodS k.1 [k.2.1] [(false, r)]).1) (by assumption))) ?_
 refine Kj rfl (lda rfl rfl .tc u26 rfl ?_) ?_
 ·kernel_rfl
 refine Kj rfl (Fa (q := 3) rfl rfl u26 rfl rfl) (Kj rfl (Ld rfl rfl .tc u22) ?_)
 refine Kj rfl (Rm rfl rfl) ?_
 refine Jv rfl rfl rfl rfl rfl (fun ext => Oc rfl rfl (Kv fun w hS => elexp_c (k := k) (b := k.2.2) (z := r) (by assumption))) ?_
 refine Kj rfl (lda rfl rfl .tc u26 rfl ?_) ?_
 ·kernel_rfl
 refine Kj rfl (Fa (q := 1) rfl rfl u28 rfl rfl) (Kj rfl (Ld rfl rfl .tc u22) ?_)
 refine Jv rfl rfl rfl rfl rfl (fun ext => Oc rfl rfl (Kv fun w hS => elmul_c (k := k) (a := c.2) (b := (prodS k.1 [k.2.2] [(false, r)]).1) (by assumption))) ?_
 refine Kj rfl (Kb [[.string (S [])], [.string (S [])]] rfl rfl) ?_
 refine WJ.nil ?_
 refine Nu rfl rfl (Sa rfl rfl rfl .tc) ?_
 refine Nt (Ce ?_)
 exact Rn rfl (.agg rfl .tc u28 rfl (by kernel_rfl) .nil) fun w' hS => ⟨by rfl, hS.below⟩
theorem elterm_c {b : Bs} {v : Int} {w : World} :
  Cw 65 #[.string (S b), .int .i64 v] w (.agg #[.string (S b), .int .i64 v, .bool (ofZ 1).1, .string (S (ofZ 1).2)]) := by
 refine En [] [(0, .string (S b)), (1, .int .i64 v)] Tryz.func65 rfl Tryz.ntmps65 rfl (Ac rfl (Ac rfl (An _))) Fn ?_
 refine Cs ?_
 refine Kh rfl (Oz [.string (S []), .int .i64 0, .bool false, .string (S [])] rfl) ?_
 intro b4
 refine Nt (Cs (Km rfl (Km rfl (Kq rfl (Kb [[.bool false], [.string (S [])]] rfl rfl) (Kq rfl (Kb [[.string (S [])], [.int .i64 0], [.bool false, .string (S [])]] rfl rfl) ?_)))))
 refine Nu rfl rfl (Sa rfl rfl rfl .tc) ?_
 refine Nt (Ce ?_)
 exact Rn rfl (.agg rfl .tc u119 rfl (by kernel_rfl) .nil) fun w' hS => ⟨by rfl, hS.below⟩
theorem elalways_c {w : World} :
  Cw 77 #[] w (.bool true) := by
 refine En [] [] Tryz.func77 rfl Tryz.ntmps77 rfl (An _) Fn ?_
 refine Cs (Ka rfl (Nt (Cs (Ka rfl (Nt (Ce ?_))))))
 exact R1 rfl rfl (by rfl)
theorem elready_c {k : PK} {fk : FuncId} {cs : Array Value} {okb : Bool} {l : List Bs} {a : Option Addr} {c : Nat} {w : World} {ok : Nat → Prop} (hF1 : (Fact.sl a (strs l)).holds ok w) (hl : l.length ≤ 1000) (hm8 : k.1.1.length ≤ 8) (hgo : goes Tryz.prog fk = true) (hfn : ∀ w', Below w.heap.size w w' → Calls Tryz.prog fk cs w' fun e w2 => e = .returned (.bool okb) ∧ Below w'.heap.size w' w2) :
  Cw 45 #[pkV k, .func (.func fk) #[] cs, .slice a l.length c] w (.int .i64 (rdyY k okb l)) := by
 refine En [Fact.sl a (strs l)] [(0, pkV k), (1, .func (.func fk) #[] cs), (2, .slice a l.length c)] Tryz.func45 rfl Tryz.ntmps45 rfl (Ac rfl (Ac rfl (Ac rfl (An _)))) (Fc (fact_any hF1) Fn) ?_
 refine Cs ?_
 refine Kh rfl (Oy rfl rfl) ?_
 intro b3
 refine Ka rfl (Nt (Cq (Cs ?_)))
 refine Kq rfl (lda rfl rfl .tc u26 rfl ?_) ?_
 ·kernel_rfl
 refine Ku rfl (Oc rfl rfl (Kv fun w hS => schcheck_c (k := k) (by assumption))) ?_
 refine Ka rfl (Nt (Cs (Km rfl (Kq rfl (rd_neq rfl rfl rfl) (Nt ?_)))))
 refine Cd rfl (fun hc13 => ?_) (fun hc13 => ?_)
 ·(try simp only [sB] at hc13)
  refine Cs (Km rfl (Ka rfl (Nt (Ce (Xb ?_)))))
  exact R1 rfl rfl (by rw [rdyY, if_pos (by simpa using hc13)]; rfl)
 ·(try simp only [sB] at hc13)
  have hY : chkY k = 0 := by simpa using hc13
  have hg := (chkY_ok hY).2.1
  refine Ck (Xa (Cq ?_))
  refine WC.joinP (σ := Unit) [(2, _), (3, _)] (fun gq => [(22, .bool (decide (¬ ((∀ x ∈ l, okN x) ∧ okb = true))))]) (fun gq => True) (S2 rfl rfl) ?_ ?_
  ·skip
   refine Cg (Km rfl ?_)
   refine Ku rfl (Oc rfl rfl (Kv fun w hS => elformed_c (l := l) (by (exact hS.sl)) (by omega))) ?_
   refine Kq rfl (Rt rfl rfl) (Km rfl ?_)
   refine Nb 18 rfl (fun hg18 => ?_) (fun hg18 => ?_)
   ·(try simp only [sB] at hg18)
    refine Kt rfl (Kt rfl (Kt rfl (Kq rfl (Rp rfl rfl rfl) ?_)))
    refine Ns 22 rfl (v' := .bool (decide (¬ ((∀ x ∈ l, okN x) ∧ okb = true)))) (congrArg Value.bool (by (symm; rw [decide_eq_true_eq]; exact fun h => absurd h.1 (by assumption)))) ?_
    refine Nn ?_
    refine WX.joinP (()) (S2 rfl rfl) (by refine (Sc ?_ (S0 _)) <;> (rfl)) ?_ (by (exact fun _ h => h))
    (try dsimp only)
    done
   ·(try simp only [sB] at hg18)
    refine Km rfl ?_
    refine Ku rfl (og_callv rfl rfl rfl hgo (fncallN' _) (Kv fun w hS => hfn w hS.below)) ?_
    refine Ns 20 rfl (v' := .bool (decide (okb = true))) (congrArg Value.bool (by simp)) ?_
    refine Kq rfl (Rt rfl rfl) (Kq rfl (Rq rfl rfl rfl) ?_)
    refine Ns 22 rfl (v' := .bool (decide (¬ ((∀ x ∈ l, okN x) ∧ okb = true)))) (congrArg Value.bool (by (have ha : ∀ x ∈ l, okN x := (by assumption); cases okb <;> simp; exact ha))) ?_
    refine Nn ?_
    refine WX.joinP (()) (S2 rfl rfl) (by refine (Sc ?_ (S0 _)) <;> (rfl)) ?_ (by (exact fun _ h => h))
    (try dsimp only)
    done
  ·rintro _ hmeet; (try dsimp only at hmeet ⊢)
   refine Cd rfl (fun hc22 => ?_) (fun hc22 => ?_)
   ·(try simp only [sB] at hc22)
    refine Cs (Ka rfl (Nt (Ce (Xb ?_))))
    exact R1 rfl rfl (by rw [rdyY, if_neg (fun h => h hY), if_pos hc22]; rfl)
   ·(try simp only [sB] at hc22)
    have hn := Decidable.not_not.1 hc22
    refine Ck (Xa (Cq (Cs (Km rfl (Kq rfl (rd_len rfl rfl u31) (Km rfl (Nt (Cb ?_))))))))
    refine Lp (σ := Nat) [(3, _), (23, _), (24, _)] (fun gq => [(25, .int .i64 (gq : Int))]) (fun gq => gq ≤ l.length ∧ ∀ x ∈ l.take gq, elG k.1 x) (fun gq => l.length - gq) (0) (S3 rfl rfl rfl) (S1 rfl) (by (try dsimp only); exact ⟨Nat.zero_le _, by simp⟩) ?_
    rintro i hinv1; (try dsimp only at hinv1 ⊢)
    obtain ⟨hi, hok⟩ := hinv1
    refine Cs (Kq rfl (rd_lss rfl rfl rfl) (Nt (Cq ?_)))
    refine Cd rfl (fun hc26 => ?_) (fun hc26 => ?_)
    ·(try simp only [sB] at hc26)
     have hil : i < l.length := by omega
     refine Ck (Xa (Cq (Cb (Cs ?_))))
     refine Kq rfl (Ib rfl rfl rfl u31 (by omega) (by (rw [List.length_map]; omega))) ?_
     refine Kq rfl (ldm rfl rfl u22 rfl (by assumption)) ?_
     refine Ka rfl (Nt (Cs (Kq rfl (Fa (q := 0) rfl rfl u26 rfl rfl) ?_)))
     refine Kq rfl (ldp rfl rfl .tc u24 rfl (by kernel_rfl : _ = some 2) (by rfl) (by rfl)) ?_
     refine Km rfl ?_
     refine Ku rfl (Oc rfl rfl (Kv fun w hS => pwhas_c (g := k.1) (x := l.getD i default) (by assumption))) ?_
     refine Ns 32 rfl (v' := .bool (decide (elG k.1 (l.getD i default)))) (congrArg Value.bool (by simp [hg])) ?_
     refine Kq rfl (Rt rfl rfl) (Nt ?_)
     refine Cd rfl (fun hc33 => ?_) (fun hc33 => ?_)
     ·(try simp only [sB] at hc33)
      refine Cs (Ka rfl (Nt (Ce (Xf (Xb (Xb (Xf (Xb ?_))))))))
      exact R1 rfl rfl (by rw [rdyY, if_neg (fun h => h hY), if_neg (fun h => h hn), if_pos (fun h => absurd (h _ (getD_mem _ _ hil)) (by simpa using hc33))]; rfl)
     ·(try simp only [sB] at hc33)
      refine Ck (Xd (Xa (Cg (Kq rfl (Rz rfl rfl rfl (by omega)) (Km rfl (Nn ?_))))))
      refine Ly (i + 1) (by (try dsimp only); omega) (S3 rfl rfl rfl) (by refine (Sc ?_ (S0 _)) <;> (rfl)) ?_ (by (exact fun _ h => h))
      (try dsimp only)
      exact ⟨hil, all_take hil hok (by simpa using hc33)⟩
    ·(try simp only [sB] at hc26)
     refine Cx (Xc (Xc (Xe ?_)))
     obtain rfl : i = l.length := by omega
     rw [List.take_length] at hok
     refine Xa (Cs (Ka rfl (Nt (Ce ?_))))
     exact R1 rfl rfl (by rw [rdyY, if_neg (fun h => h hY), if_neg (fun h => h hn), if_neg (fun h => h hok)]; rfl)
theorem elst1_c {v : Bs} {p : Nat} {w : World} {ok : Nat → Prop} (hF1 : (Fact.sl (some ⟨p, 0, none⟩) [.string (S v)]).holds ok w) :
  Cw 64 #[.pointer (some ⟨p, 0, none⟩)] w (.bool (decide (okN v))) := by
 refine En [Fact.sl (some ⟨p, 0, none⟩) [.string (S v)]] [(0, .pointer (some ⟨p, 0, none⟩))] Tryz.func64 rfl Tryz.ntmps64 rfl (Ac rfl (An _)) (Fc (fact_any hF1) Fn) ?_
 refine Cs (Ka rfl (Nt (Cs (Kq rfl (ldf (m := 0) rfl rfl .tc u22 rfl rfl rfl) ?_))))
 refine Kh rfl (og_bs1 rfl rfl u31 (by kernel_rfl : _ = some (some (.string (S [])), 1, 16)) rfl (by simp only [List.map]; rfl) rfl rfl ?_ (by decide)) ?_
 ·simp [Value.cells]
 intro b3
 refine Ku rfl (Oc rfl rfl (Kv fun w hS => elformed_c (l := [v]) (by (exact hS.os)) (by (simp <;> omega)))) ?_
 refine Ka rfl (Nt (Ce ?_))
 exact R1 rfl rfl (by simp [tup])
theorem eldec1_c {v : Bs} {p : Nat} {w : World} {ok : Nat → Prop} (hF1 : (Fact.sl (some ⟨p, 0, none⟩) [.string (S v)]).holds ok w) :
  Cw 55 #[.pointer (some ⟨p, 0, none⟩)] w (.bool (decide (okN v))) := by
 refine En [Fact.sl (some ⟨p, 0, none⟩) [.string (S v)]] [(0, .pointer (some ⟨p, 0, none⟩))] Tryz.func55 rfl Tryz.ntmps55 rfl (Ac rfl (An _)) (Fc (fact_any hF1) Fn) ?_
 refine Cs (Ka rfl (Nt (Cs (Kq rfl (ldf (m := 0) rfl rfl .tc u22 rfl rfl rfl) ?_))))
 refine Kh rfl (og_bs1 rfl rfl u31 (by kernel_rfl : _ = some (some (.string (S [])), 1, 16)) rfl (by simp only [List.map]; rfl) rfl rfl ?_ (by decide)) ?_
 ·simp [Value.cells]
 intro b3
 refine Ku rfl (Oc rfl rfl (Kv fun w hS => elformed_c (l := [v]) (by (exact hS.os)) (by (simp <;> omega)))) ?_
 refine Ka rfl (Nt (Ce ?_))
 exact R1 rfl rfl (by simp [tup])
def ixP {α : Type} (p : α → Bool) (l : List α) : Int := if l.any p = true then (l.findIdx p : Int) else -1
theorem ixP_nonneg {α : Type} {p : α → Bool} {l : List α} : decide (ixP p l ≥ 0) = l.any p := by
 rw [ixP]; split
 ·rename_i h; simp [h]
 ·rename_i h; simpa using h
theorem ixP_none {α : Type} {p : α → Bool} {l : List α} (h : ∀ x ∈ l, p x = false) : ixP p l = -1 := by
 rw [ixP, if_neg (by simpa using h)]
theorem ixP_at {α : Type} [Inhabited α] {p : α → Bool} {l : List α} {i : Nat} (hi : i < l.length) (h0 : ∀ x ∈ l.take i, p x = false) (h1 : p (l.getD i default) = true) : ixP p l = i := by
 have e : l.getD i default = l[i] := by rw [List.getD_eq_getElem?_getD, List.getElem?_eq_getElem hi]; rfl
 rw [ixP, if_pos (List.any_eq_true.2 ⟨_, getD_mem l i hi, h1⟩)]
 congr 1
 rw [List.findIdx_eq hi]
 refine ⟨by rw [← e]; exact h1, fun j hj => ?_⟩
 exact h0 _ (List.mem_take_iff_getElem.2 ⟨j, by omega, rfl⟩)
theorem fncall (v : Value) (cs : Array Value) : (#[] : Array Value) ++ [v].toArray ++ cs = #[v] ++ cs := by simp
theorem ixT_c {l : List Tm} {a : Option Addr} {c : Nat} {fk : FuncId} {cs : Array Value} {p : Tm → Bool} {w : World} {ok : Nat → Prop} (hF1 : (Fact.sl a (l.flatMap tmC)).holds ok w) (hl : l.length ≤ 100000) (hgo : goes Tryz.prog fk = true) (hfn : ∀ x ∈ l, ∀ w', Below w.heap.size w w' → Calls Tryz.prog fk (#[.agg (tmC x).toArray] ++ cs) w' fun e w2 => e = .returned (.bool (p x)) ∧ Below w'.heap.size w' w2) :
  Cw 243 #[.slice a l.length c, .func (.func fk) #[] cs] w (.int .i64 (ixP p l)) := by
 refine En [Fact.sl a (l.flatMap tmC)] [(0, .slice a l.length c), (1, .func (.func fk) #[] cs)] Tryz.func243 rfl Tryz.ntmps243 rfl (Ac rfl (Ac rfl (An _))) (Fc (fact_any hF1) Fn) ?_
 refine Cs (Ka rfl (Nt (Cq (Cs (Km rfl (Kq rfl (rd_len rfl rfl u121) (Km rfl (Nt (Cb ?_)))))))))
 refine Lp (σ := Nat) [(0, _), (1, _), (7, _)] (fun gq => [(8, .int .i64 (gq : Int))]) (fun gq => gq ≤ l.length ∧ ∀ x ∈ l.take gq, p x = false) (fun gq => l.length - gq) (0) (S3 rfl rfl rfl) (S1 rfl) (by (try dsimp only); exact ⟨Nat.zero_le _, by simp⟩) ?_
 rintro i hinv1; (try dsimp only at hinv1 ⊢)
 obtain ⟨hi, hok⟩ := hinv1
 refine Cs (Kq rfl (rd_lss rfl rfl rfl) (Nt (Cq ?_)))
 refine Cd rfl (fun hc9 => ?_) (fun hc9 => ?_)
 ·(try simp only [sB] at hc9)
  have hil : i < l.length := by omega
  refine Ck (Xa (Cq (Cb (Cs (Km rfl (Ka rfl (Nt (Cs (Km rfl (Km rfl (Km rfl ?_)))))))))))
  refine Kq rfl (Ia rfl rfl rfl u121 (by kernel_rfl : _ = some 4) (by omega) (by (rw [flatMap_len _ _ 4 (fun _ => rfl)]; omega))) ?_
  refine Kq rfl (ldma _ rfl rfl u119 rfl (by kernel_rfl : _ = some 4) (fun _ => rfl) (by decide) rfl (by assumption)) ?_
  refine Ku rfl (og_callv rfl rfl rfl hgo (fncall _ _) (Kv fun w hS => hfn (l.getD i default) (getD_mem _ _ hil) w hS.below)) ?_
  refine Nt ?_
  refine Cd rfl (fun hc16 => ?_) (fun hc16 => ?_)
  ·(try simp only [sB] at hc16)
   refine Cs (Km rfl (Ka rfl (Nt (Ce (Xf (Xb (Xb (Xf (Xb ?_)))))))))
   exact R1 rfl rfl (by rw [ixP_at hil hok (by simpa using hc16)]; rfl)
  ·(try simp only [sB] at hc16)
   refine Ck (Xd (Xa (Cg (Kq rfl (Rz rfl rfl rfl (by omega)) (Km rfl (Nn ?_))))))
   refine Ly (i + 1) (by (try dsimp only); omega) (S3 rfl rfl rfl) (by refine (Sc ?_ (S0 _)) <;> (rfl)) ?_ (by (exact fun _ h => h))
   (try dsimp only)
   exact ⟨hil, all_take hil hok (by simpa using hc16)⟩
 ·(try simp only [sB] at hc9)
  refine Cx (Xc (Xc (Xe ?_)))
  obtain rfl : i = l.length := by omega
  rw [List.take_length] at hok
  refine Xa (Cs (Ka rfl (Nt (Ce ?_))))
  exact R1 rfl rfl (by rw [ixP_none hok]; rfl)
theorem cfT_c {l : List Tm} {a : Option Addr} {c : Nat} {fk : FuncId} {cs : Array Value} {p : Tm → Bool} {w : World} {ok : Nat → Prop} (hF1 : (Fact.sl a (l.flatMap tmC)).holds ok w) (hl : l.length ≤ 100000) (hgo : goes Tryz.prog fk = true) (hfn : ∀ x ∈ l, ∀ w', Below w.heap.size w w' → Calls Tryz.prog fk (#[.agg (tmC x).toArray] ++ cs) w' fun e w2 => e = .returned (.bool (p x)) ∧ Below w'.heap.size w' w2) :
  Cw 217 #[.slice a l.length c, .func (.func fk) #[] cs] w (.bool (l.any p)) := by
 refine En [Fact.sl a (l.flatMap tmC)] [(0, .slice a l.length c), (1, .func (.func fk) #[] cs)] Tryz.func217 rfl Tryz.ntmps217 rfl (Ac rfl (Ac rfl (An _))) (Fc (fact_any hF1) Fn) ?_
 refine Cs (Ka rfl (Nt (Cs (Km rfl (Km rfl ?_)))))
 refine Ku rfl (Oc rfl rfl (Kv fun w hS => ixT_c (fk := fk) (cs := cs) (p := p) (by (exact hS.sl)) (by exact hl) (by exact hgo) (by exact fun x hx w' hb => hfn x hx w' (hS.below.trans (hb.mono hS.below.size))))) ?_
 refine Kq rfl (rd_geq rfl rfl rfl) (Ka rfl (Nt (Ce ?_)))
 exact R1 rfl rfl (by rw [ixP_nonneg]; rfl)
theorem ixQ_c {l : List QA} {a : Option Addr} {c : Nat} {fk : FuncId} {cs : Array Value} {p : QA → Bool} {w : World} {ok : Nat → Prop} (hF1 : (Fact.sl a (l.flatMap qaC)).holds ok w) (hl : l.length ≤ 100000) (hgo : goes Tryz.prog fk = true) (hfn : ∀ x ∈ l, ∀ w', Below w.heap.size w w' → Calls Tryz.prog fk (#[.agg (qaC x).toArray] ++ cs) w' fun e w2 => e = .returned (.bool (p x)) ∧ Below w'.heap.size w' w2) :
  Cw 242 #[.slice a l.length c, .func (.func fk) #[] cs] w (.int .i64 (ixP p l)) := by
 refine En [Fact.sl a (l.flatMap qaC)] [(0, .slice a l.length c), (1, .func (.func fk) #[] cs)] Tryz.func242 rfl Tryz.ntmps242 rfl (Ac rfl (Ac rfl (An _))) (Fc (fact_any hF1) Fn) ?_
 refine Cs (Ka rfl (Nt (Cq (Cs (Km rfl (Kq rfl (rd_len rfl rfl u50) (Km rfl (Nt (Cb ?_)))))))))
 refine Lp (σ := Nat) [(0, _), (1, _), (7, _)] (fun gq => [(8, .int .i64 (gq : Int))]) (fun gq => gq ≤ l.length ∧ ∀ x ∈ l.take gq, p x = false) (fun gq => l.length - gq) (0) (S3 rfl rfl rfl) (S1 rfl) (by (try dsimp only); exact ⟨Nat.zero_le _, by simp⟩) ?_
 rintro i hinv1; (try dsimp only at hinv1 ⊢)
 obtain ⟨hi, hok⟩ := hinv1
 refine Cs (Kq rfl (rd_lss rfl rfl rfl) (Nt (Cq ?_)))
 refine Cd rfl (fun hc9 => ?_) (fun hc9 => ?_)
 ·(try simp only [sB] at hc9)
  have hil : i < l.length := by omega
  refine Ck (Xa (Cq (Cb (Cs (Km rfl (Ka rfl (Nt (Cs (Km rfl (Km rfl (Km rfl ?_)))))))))))
  refine Kq rfl (Ia rfl rfl rfl u50 (by kernel_rfl : _ = some 3) (by omega) (by (rw [flatMap_len _ _ 3 (fun _ => rfl)]; omega))) ?_
  refine Kq rfl (ldma _ rfl rfl u123 rfl (by kernel_rfl : _ = some 3) (fun _ => rfl) (by decide) rfl (by assumption)) ?_
  refine Ku rfl (og_callv rfl rfl rfl hgo (fncall _ _) (Kv fun w hS => hfn (l.getD i default) (getD_mem _ _ hil) w hS.below)) ?_
  refine Nt ?_
  refine Cd rfl (fun hc16 => ?_) (fun hc16 => ?_)
  ·(try simp only [sB] at hc16)
   refine Cs (Km rfl (Ka rfl (Nt (Ce (Xf (Xb (Xb (Xf (Xb ?_)))))))))
   exact R1 rfl rfl (by rw [ixP_at hil hok (by simpa using hc16)]; rfl)
  ·(try simp only [sB] at hc16)
   refine Ck (Xd (Xa (Cg (Kq rfl (Rz rfl rfl rfl (by omega)) (Km rfl (Nn ?_))))))
   refine Ly (i + 1) (by (try dsimp only); omega) (S3 rfl rfl rfl) (by refine (Sc ?_ (S0 _)) <;> (rfl)) ?_ (by (exact fun _ h => h))
   (try dsimp only)
   exact ⟨hil, all_take hil hok (by simpa using hc16)⟩
 ·(try simp only [sB] at hc9)
  refine Cx (Xc (Xc (Xe ?_)))
  obtain rfl : i = l.length := by omega
  rw [List.take_length] at hok
  refine Xa (Cs (Ka rfl (Nt (Ce ?_))))
  exact R1 rfl rfl (by rw [ixP_none hok]; rfl)
theorem cfQ_c {l : List QA} {a : Option Addr} {c : Nat} {fk : FuncId} {cs : Array Value} {p : QA → Bool} {w : World} {ok : Nat → Prop} (hF1 : (Fact.sl a (l.flatMap qaC)).holds ok w) (hl : l.length ≤ 100000) (hgo : goes Tryz.prog fk = true) (hfn : ∀ x ∈ l, ∀ w', Below w.heap.size w w' → Calls Tryz.prog fk (#[.agg (qaC x).toArray] ++ cs) w' fun e w2 => e = .returned (.bool (p x)) ∧ Below w'.heap.size w' w2) :
  Cw 215 #[.slice a l.length c, .func (.func fk) #[] cs] w (.bool (l.any p)) := by
 refine En [Fact.sl a (l.flatMap qaC)] [(0, .slice a l.length c), (1, .func (.func fk) #[] cs)] Tryz.func215 rfl Tryz.ntmps215 rfl (Ac rfl (Ac rfl (An _))) (Fc (fact_any hF1) Fn) ?_
 refine Cs (Ka rfl (Nt (Cs (Km rfl (Km rfl ?_)))))
 refine Ku rfl (Oc rfl rfl (Kv fun w hS => ixQ_c (fk := fk) (cs := cs) (p := p) (by (exact hS.sl)) (by exact hl) (by exact hgo) (by exact fun x hx w' hb => hfn x hx w' (hS.below.trans (hb.mono hS.below.size))))) ?_
 refine Kq rfl (rd_geq rfl rfl rfl) (Ka rfl (Nt (Ce ?_)))
 exact R1 rfl rfl (by rw [ixP_nonneg]; rfl)
theorem ixV_c {l : List Bs} {a : Option Addr} {c : Nat} {fk : FuncId} {cs : Array Value} {p : Bs → Bool} {w : World} {ok : Nat → Prop} (hF1 : (Fact.sl a (l.flatMap vrC)).holds ok w) (hl : l.length ≤ 100000) (hgo : goes Tryz.prog fk = true) (hfn : ∀ x ∈ l, ∀ w', Below w.heap.size w w' → Calls Tryz.prog fk (#[.agg (vrC x).toArray] ++ cs) w' fun e w2 => e = .returned (.bool (p x)) ∧ Below w'.heap.size w' w2) :
  Cw 244 #[.slice a l.length c, .func (.func fk) #[] cs] w (.int .i64 (ixP p l)) := by
 refine En [Fact.sl a (l.flatMap vrC)] [(0, .slice a l.length c), (1, .func (.func fk) #[] cs)] Tryz.func244 rfl Tryz.ntmps244 rfl (Ac rfl (Ac rfl (An _))) (Fc (fact_any hF1) Fn) ?_
 refine Cs (Ka rfl (Nt (Cq (Cs (Km rfl (Kq rfl (rd_len rfl rfl u49) (Km rfl (Nt (Cb ?_)))))))))
 refine Lp (σ := Nat) [(0, _), (1, _), (7, _)] (fun gq => [(8, .int .i64 (gq : Int))]) (fun gq => gq ≤ l.length ∧ ∀ x ∈ l.take gq, p x = false) (fun gq => l.length - gq) (0) (S3 rfl rfl rfl) (S1 rfl) (by (try dsimp only); exact ⟨Nat.zero_le _, by simp⟩) ?_
 rintro i hinv1; (try dsimp only at hinv1 ⊢)
 obtain ⟨hi, hok⟩ := hinv1
 refine Cs (Kq rfl (rd_lss rfl rfl rfl) (Nt (Cq ?_)))
 refine Cd rfl (fun hc9 => ?_) (fun hc9 => ?_)
 ·(try simp only [sB] at hc9)
  have hil : i < l.length := by omega
  refine Ck (Xa (Cq (Cb (Cs (Km rfl (Ka rfl (Nt (Cs (Km rfl (Km rfl (Km rfl ?_)))))))))))
  refine Kq rfl (Ib rfl rfl rfl u49 (by omega) (by (rw [flatMap_len _ _ 1 (fun _ => rfl)]; omega))) ?_
  refine Kq rfl (ldma _ rfl rfl u117 rfl (by kernel_rfl : _ = some 1) (fun _ => rfl) (by decide) (Nat.mul_one _).symm (by assumption)) ?_
  refine Ku rfl (og_callv rfl rfl rfl hgo (fncall _ _) (Kv fun w hS => hfn (l.getD i default) (getD_mem _ _ hil) w hS.below)) ?_
  refine Nt ?_
  refine Cd rfl (fun hc16 => ?_) (fun hc16 => ?_)
  ·(try simp only [sB] at hc16)
   refine Cs (Km rfl (Ka rfl (Nt (Ce (Xf (Xb (Xb (Xf (Xb ?_)))))))))
   exact R1 rfl rfl (by rw [ixP_at hil hok (by simpa using hc16)]; rfl)
  ·(try simp only [sB] at hc16)
   refine Ck (Xd (Xa (Cg (Kq rfl (Rz rfl rfl rfl (by omega)) (Km rfl (Nn ?_))))))
   refine Ly (i + 1) (by (try dsimp only); omega) (S3 rfl rfl rfl) (by refine (Sc ?_ (S0 _)) <;> (rfl)) ?_ (by (exact fun _ h => h))
   (try dsimp only)
   exact ⟨hil, all_take hil hok (by simpa using hc16)⟩
 ·(try simp only [sB] at hc9)
  refine Cx (Xc (Xc (Xe ?_)))
  obtain rfl : i = l.length := by omega
  rw [List.take_length] at hok
  refine Xa (Cs (Ka rfl (Nt (Ce ?_))))
  exact R1 rfl rfl (by rw [ixP_none hok]; rfl)
theorem cfV_c {l : List Bs} {a : Option Addr} {c : Nat} {fk : FuncId} {cs : Array Value} {p : Bs → Bool} {w : World} {ok : Nat → Prop} (hF1 : (Fact.sl a (l.flatMap vrC)).holds ok w) (hl : l.length ≤ 100000) (hgo : goes Tryz.prog fk = true) (hfn : ∀ x ∈ l, ∀ w', Below w.heap.size w w' → Calls Tryz.prog fk (#[.agg (vrC x).toArray] ++ cs) w' fun e w2 => e = .returned (.bool (p x)) ∧ Below w'.heap.size w' w2) :
  Cw 219 #[.slice a l.length c, .func (.func fk) #[] cs] w (.bool (l.any p)) := by
 refine En [Fact.sl a (l.flatMap vrC)] [(0, .slice a l.length c), (1, .func (.func fk) #[] cs)] Tryz.func219 rfl Tryz.ntmps219 rfl (Ac rfl (Ac rfl (An _))) (Fc (fact_any hF1) Fn) ?_
 refine Cs (Ka rfl (Nt (Cs (Km rfl (Km rfl ?_)))))
 refine Ku rfl (Oc rfl rfl (Kv fun w hS => ixV_c (fk := fk) (cs := cs) (p := p) (by (exact hS.sl)) (by exact hl) (by exact hgo) (by exact fun x hx w' hb => hfn x hx w' (hS.below.trans (hb.mono hS.below.size))))) ?_
 refine Kq rfl (rd_geq rfl rfl rfl) (Ka rfl (Nt (Ce ?_)))
 exact R1 rfl rfl (by rw [ixP_nonneg]; rfl)
theorem ixG_c {l : List Gp} {a : Option Addr} {c : Nat} {fk : FuncId} {cs : Array Value} {p : Gp → Bool} {w : World} {ok : Nat → Prop} (hF1 : (Fact.sl a (l.flatMap gpC)).holds ok w) (hl : l.length ≤ 100000) (hgo : goes Tryz.prog fk = true) (hfn : ∀ x ∈ l, ∀ w', Below w.heap.size w w' → Calls Tryz.prog fk (#[.agg (gpC x).toArray] ++ cs) w' fun e w2 => e = .returned (.bool (p x)) ∧ Below w'.heap.size w' w2) :
  Cw 245 #[.slice a l.length c, .func (.func fk) #[] cs] w (.int .i64 (ixP p l)) := by
 refine En [Fact.sl a (l.flatMap gpC)] [(0, .slice a l.length c), (1, .func (.func fk) #[] cs)] Tryz.func245 rfl Tryz.ntmps245 rfl (Ac rfl (Ac rfl (An _))) (Fc (fact_any hF1) Fn) ?_
 refine Cs (Ka rfl (Nt (Cq (Cs (Km rfl (Kq rfl (rd_len rfl rfl u48) (Km rfl (Nt (Cb ?_)))))))))
 refine Lp (σ := Nat) [(0, _), (1, _), (7, _)] (fun gq => [(8, .int .i64 (gq : Int))]) (fun gq => gq ≤ l.length ∧ ∀ x ∈ l.take gq, p x = false) (fun gq => l.length - gq) (0) (S3 rfl rfl rfl) (S1 rfl) (by (try dsimp only); exact ⟨Nat.zero_le _, by simp⟩) ?_
 rintro i hinv1; (try dsimp only at hinv1 ⊢)
 obtain ⟨hi, hok⟩ := hinv1
 refine Cs (Kq rfl (rd_lss rfl rfl rfl) (Nt (Cq ?_)))
 refine Cd rfl (fun hc9 => ?_) (fun hc9 => ?_)
 ·(try simp only [sB] at hc9)
  have hil : i < l.length := by omega
  refine Ck (Xa (Cq (Cb (Cs (Km rfl (Ka rfl (Nt (Cs (Km rfl (Km rfl (Km rfl ?_)))))))))))
  refine Kq rfl (Ia rfl rfl rfl u48 (by kernel_rfl : _ = some 2) (by omega) (by (rw [flatMap_len _ _ 2 (fun _ => rfl)]; omega))) ?_
  refine Kq rfl (ldma _ rfl rfl u24 rfl (by kernel_rfl : _ = some 2) (fun _ => rfl) (by decide) rfl (by assumption)) ?_
  refine Ku rfl (og_callv rfl rfl rfl hgo (fncall _ _) (Kv fun w hS => hfn (l.getD i default) (getD_mem _ _ hil) w hS.below)) ?_
  refine Nt ?_
  refine Cd rfl (fun hc16 => ?_) (fun hc16 => ?_)
  ·(try simp only [sB] at hc16)
   refine Cs (Km rfl (Ka rfl (Nt (Ce (Xf (Xb (Xb (Xf (Xb ?_)))))))))
   exact R1 rfl rfl (by rw [ixP_at hil hok (by simpa using hc16)]; rfl)
  ·(try simp only [sB] at hc16)
   refine Ck (Xd (Xa (Cg (Kq rfl (Rz rfl rfl rfl (by omega)) (Km rfl (Nn ?_))))))
   refine Ly (i + 1) (by (try dsimp only); omega) (S3 rfl rfl rfl) (by refine (Sc ?_ (S0 _)) <;> (rfl)) ?_ (by (exact fun _ h => h))
   (try dsimp only)
   exact ⟨hil, all_take hil hok (by simpa using hc16)⟩
 ·(try simp only [sB] at hc9)
  refine Cx (Xc (Xc (Xe ?_)))
  obtain rfl : i = l.length := by omega
  rw [List.take_length] at hok
  refine Xa (Cs (Ka rfl (Nt (Ce ?_))))
  exact R1 rfl rfl (by rw [ixP_none hok]; rfl)
theorem cfG_c {l : List Gp} {a : Option Addr} {c : Nat} {fk : FuncId} {cs : Array Value} {p : Gp → Bool} {w : World} {ok : Nat → Prop} (hF1 : (Fact.sl a (l.flatMap gpC)).holds ok w) (hl : l.length ≤ 100000) (hgo : goes Tryz.prog fk = true) (hfn : ∀ x ∈ l, ∀ w', Below w.heap.size w w' → Calls Tryz.prog fk (#[.agg (gpC x).toArray] ++ cs) w' fun e w2 => e = .returned (.bool (p x)) ∧ Below w'.heap.size w' w2) :
  Cw 221 #[.slice a l.length c, .func (.func fk) #[] cs] w (.bool (l.any p)) := by
 refine En [Fact.sl a (l.flatMap gpC)] [(0, .slice a l.length c), (1, .func (.func fk) #[] cs)] Tryz.func221 rfl Tryz.ntmps221 rfl (Ac rfl (Ac rfl (An _))) (Fc (fact_any hF1) Fn) ?_
 refine Cs (Ka rfl (Nt (Cs (Km rfl (Km rfl ?_)))))
 refine Ku rfl (Oc rfl rfl (Kv fun w hS => ixG_c (fk := fk) (cs := cs) (p := p) (by (exact hS.sl)) (by exact hl) (by exact hgo) (by exact fun x hx w' hb => hfn x hx w' (hS.below.trans (hb.mono hS.below.size))))) ?_
 refine Kq rfl (rd_geq rfl rfl rfl) (Ka rfl (Nt (Ce ?_)))
 exact R1 rfl rfl (by rw [ixP_nonneg]; rfl)
theorem ixZ_c {l : List Zs} {a : Option Addr} {c : Nat} {fk : FuncId} {cs : Array Value} {p : Zs → Bool} {w : World} {ok : Nat → Prop} (hF1 : (Fact.sl a (l.flatMap zc)).holds ok w) (hl : l.length ≤ 100000) (hgo : goes Tryz.prog fk = true) (hfn : ∀ x ∈ l, ∀ w', Below w.heap.size w w' → Calls Tryz.prog fk (#[.agg (zc x).toArray] ++ cs) w' fun e w2 => e = .returned (.bool (p x)) ∧ Below w'.heap.size w' w2) :
  Cw 176 #[.slice a l.length c, .func (.func fk) #[] cs] w (.int .i64 (ixP p l)) := by
 refine En [Fact.sl a (l.flatMap zc)] [(0, .slice a l.length c), (1, .func (.func fk) #[] cs)] Tryz.func176 rfl Tryz.ntmps176 rfl (Ac rfl (Ac rfl (An _))) (Fc (fact_any hF1) Fn) ?_
 refine Cs (Ka rfl (Nt (Cq (Cs (Km rfl (Kq rfl (rd_len rfl rfl u71) (Km rfl (Nt (Cb ?_)))))))))
 refine Lp (σ := Nat) [(0, _), (1, _), (7, _)] (fun gq => [(8, .int .i64 (gq : Int))]) (fun gq => gq ≤ l.length ∧ ∀ x ∈ l.take gq, p x = false) (fun gq => l.length - gq) (0) (S3 rfl rfl rfl) (S1 rfl) (by (try dsimp only); exact ⟨Nat.zero_le _, by simp⟩) ?_
 rintro i hinv1; (try dsimp only at hinv1 ⊢)
 obtain ⟨hi, hok⟩ := hinv1
 refine Cs (Kq rfl (rd_lss rfl rfl rfl) (Nt (Cq ?_)))
 refine Cd rfl (fun hc9 => ?_) (fun hc9 => ?_)
 ·(try simp only [sB] at hc9)
  have hil : i < l.length := by omega
  refine Ck (Xa (Cq (Cb (Cs (Km rfl (Ka rfl (Nt (Cs (Km rfl (Km rfl (Km rfl ?_)))))))))))
  refine Kq rfl (Ia rfl rfl rfl u71 (by kernel_rfl : _ = some 2) (by omega) (by (rw [flatMap_len _ _ 2 (fun _ => rfl)]; omega))) ?_
  refine Kq rfl (ldma _ rfl rfl u64 rfl (by kernel_rfl : _ = some 2) (fun _ => rfl) (by decide) rfl (by assumption)) ?_
  refine Ku rfl (og_callv rfl rfl rfl hgo (fncall _ _) (Kv fun w hS => hfn (l.getD i default) (getD_mem _ _ hil) w hS.below)) ?_
  refine Nt ?_
  refine Cd rfl (fun hc16 => ?_) (fun hc16 => ?_)
  ·(try simp only [sB] at hc16)
   refine Cs (Km rfl (Ka rfl (Nt (Ce (Xf (Xb (Xb (Xf (Xb ?_)))))))))
   exact R1 rfl rfl (by rw [ixP_at hil hok (by simpa using hc16)]; rfl)
  ·(try simp only [sB] at hc16)
   refine Ck (Xd (Xa (Cg (Kq rfl (Rz rfl rfl rfl (by omega)) (Km rfl (Nn ?_))))))
   refine Ly (i + 1) (by (try dsimp only); omega) (S3 rfl rfl rfl) (by refine (Sc ?_ (S0 _)) <;> (rfl)) ?_ (by (exact fun _ h => h))
   (try dsimp only)
   exact ⟨hil, all_take hil hok (by simpa using hc16)⟩
 ·(try simp only [sB] at hc9)
  refine Cx (Xc (Xc (Xe ?_)))
  obtain rfl : i = l.length := by omega
  rw [List.take_length] at hok
  refine Xa (Cs (Ka rfl (Nt (Ce ?_))))
  exact R1 rfl rfl (by rw [ixP_none hok]; rfl)
theorem cfZ_c {l : List Zs} {a : Option Addr} {c : Nat} {fk : FuncId} {cs : Array Value} {p : Zs → Bool} {w : World} {ok : Nat → Prop} (hF1 : (Fact.sl a (l.flatMap zc)).holds ok w) (hl : l.length ≤ 100000) (hgo : goes Tryz.prog fk = true) (hfn : ∀ x ∈ l, ∀ w', Below w.heap.size w w' → Calls Tryz.prog fk (#[.agg (zc x).toArray] ++ cs) w' fun e w2 => e = .returned (.bool (p x)) ∧ Below w'.heap.size w' w2) :
  Cw 121 #[.slice a l.length c, .func (.func fk) #[] cs] w (.bool (l.any p)) := by
 refine En [Fact.sl a (l.flatMap zc)] [(0, .slice a l.length c), (1, .func (.func fk) #[] cs)] Tryz.func121 rfl Tryz.ntmps121 rfl (Ac rfl (Ac rfl (An _))) (Fc (fact_any hF1) Fn) ?_
 refine Cs (Ka rfl (Nt (Cs (Km rfl (Km rfl ?_)))))
 refine Ku rfl (Oc rfl rfl (Kv fun w hS => ixZ_c (fk := fk) (cs := cs) (p := p) (by (exact hS.sl)) (by exact hl) (by exact hgo) (by exact fun x hx w' hb => hfn x hx w' (hS.below.trans (hb.mono hS.below.size))))) ?_
 refine Kq rfl (rd_geq rfl rfl rfl) (Ka rfl (Nt (Ce ?_)))
 exact R1 rfl rfl (by rw [ixP_nonneg]; rfl)
section
variable {ds : List Deferred} {P : Program} {o : Oper} {n : Nat} {L : Slots} {Z : World → Prop} {x y : Operand} {t t2 : TypeId} {xs ys : Array Value} {b : Bool}
theorem rd_eqA (hop : o.op = .binOp .eql t x y t2) (hx : oper L x = some (.agg xs)) (hy : oper L y = some (.agg ys)) (hg : P.eqGuardType P.depth t = false) (hr : ∀ w : World, (binOp .eql t (.agg xs) (.agg ys)).run P w = .ok (.bool b) w) : Rd ds P o n L Z (.bool b) :=
 run_bin hop hx hy (fun w => run_eqGuard_agg w _ _ _ _ _ _ hg) hr
end
theorem fact_keep {f : Fact} {w w' : World} (h : f.holds (fun _ => True) w) (hb : Below w.heap.size w w') : f.holds (fun _ => True) w' := f.stable h hb.size fun b hlt _ => hb.block b hlt
theorem fnc0 (v : Value) : #[v] ++ (#[] : Array Value) = #[v] := by simp
theorem fnc1 (v u : Value) : #[v] ++ (#[u] : Array Value) = #[v, u] := by simp
theorem st_addm {ok : Nat → Prop} {w0 w : World} {own : List Ent} {fs more : List Fact} {f : Fact} (h : St ok w0 own fs w) [hm : HasM fs more] (hf : f ∈ more) : St ok w0 own (f :: fs) w := h.add (h.fact f (hm.h f hf))
theorem lorder_c {s : SA} {w : World} {ok : Nat → Prop} (hF1 : (Fact.sl s.ga (gps s.gs)).holds ok w) (hs : saL s) :
  Cw 124 #[saV s] w (.string (S (ordS s.gs))) := by
 obtain ⟨hlg, hlv, hle, hlt, hlm⟩ := hs
 refine En [Fact.sl s.ga (gps s.gs)] [(0, saV s)] Tryz.func124 rfl Tryz.ntmps124 rfl (Ac rfl (An _)) (Fc (fact_any hF1) Fn) ?_
 refine Cs ?_
 refine Kh rfl (Oy rfl rfl) ?_
 intro b1
 refine Ka rfl (Nt (Cq (Cs (Kq rfl (Fa (q := 0) rfl rfl u52 rfl rfl) (Kq rfl (Ld rfl rfl .tc u48) ?_)))))
 refine Kq rfl (rd_len rfl rfl u48) (Km rfl (Nt (Cb ?_)))
 refine Lp (σ := Nat) [(6, _), (7, _)] (fun gq => [(8, .int .i64 (gq : Int))]) (fun gq => gq ≤ s.gs.length ∧ ∀ g ∈ s.gs.take gq, g.2 = []) (fun gq => s.gs.length - gq) (0) (S2 rfl rfl) (S1 rfl) (by (try dsimp only); exact ⟨Nat.zero_le _, by simp⟩) ?_
 rintro i hinv1; (try dsimp only at hinv1 ⊢)
 obtain ⟨hi, hok⟩ := hinv1
 refine Cs (Kq rfl (rd_lss rfl rfl rfl) (Nt (Cq ?_)))
 refine Cd rfl (fun hc9 => ?_) (fun hc9 => ?_)
 ·(try simp only [sB] at hc9)
  have hil : i < s.gs.length := by omega
  refine Ck (Xa (Cq (Cb (Cs ?_))))
  refine Kq rfl (Ia rfl rfl rfl u48 (by kernel_rfl : _ = some 2) (by omega) (by (rw [flatMap_len _ _ 2 (fun _ => rfl)]; omega))) ?_
  refine Kq rfl (ldma _ rfl rfl u24 rfl (by kernel_rfl : _ = some 2) (fun _ => rfl) (by decide) rfl (by assumption)) ?_
  refine Kh rfl (Oz [.string (S []), .string (S [])] rfl) ?_
  intro b4
  refine Nu rfl rfl (Sa rfl rfl rfl .tc) ?_
  refine Nt (Cs (Kq rfl (Fa (q := 1) rfl rfl u24 rfl rfl) (Kq rfl (Ld rfl rfl .tc u22) ?_)))
  refine Kq rfl (rd_sne rfl rfl rfl) (Nt ?_)
  refine Cd rfl (fun hc14 => ?_) (fun hc14 => ?_)
  ·(try simp only [sB] at hc14)
   refine Cs (Kq rfl (Fa (q := 1) rfl rfl u24 rfl rfl) (Kq rfl (Ld rfl rfl .tc u22) ?_))
   refine Ka rfl (Nt (Ce (Xf (Xb (Xb (Xf (Xb ?_)))))))
   exact R1 rfl rfl (by rw [ordS_at hil hok (by simpa using hc14)]; rfl)
  ·(try simp only [sB] at hc14)
   refine Ck (Xd (Xa (Cg (Kq rfl (Rz rfl rfl rfl (by omega)) (Km rfl (Nn ?_))))))
   refine Ly (i + 1) (by (try dsimp only); omega) (S2 rfl rfl) (by refine (Sc ?_ (S0 _)) <;> (rfl)) ?_ (by (exact st_sub))
   (try dsimp only)
   exact ⟨hil, all_take hil hok (by simpa using hc14)⟩
 ·(try simp only [sB] at hc9)
  refine Cx (Xc (Xc (Xe ?_)))
  obtain rfl : i = s.gs.length := by omega
  rw [List.take_length] at hok
  refine Xa (Cs (Ka rfl (Nt (Ce ?_))))
  exact R1 rfl rfl (by rw [ordS_nil hok]; rfl)
theorem form_c {s : SA} {w : World} {ok : Nat → Prop} (hF1 : (Fact.sl s.ga (gps s.gs)).holds ok w) (hF2 : (Fact.sl s.va (vrs s.vs)).holds ok w) (hF3 : (Fact.sl s.ea (qas s.es)).holds ok w) (hM : ∀ f ∈ (s.es.map qaF), f.holds ok w) (hs : saL s) :
  Cw 120 #[saV s] w (.int .i64 (if formS s.core then 0 else 3)) := by
 obtain ⟨hlg, hlv, hle, hlt, hlm⟩ := hs
 refine En (Fact.sl s.ga (gps s.gs) :: Fact.sl s.va (vrs s.vs) :: Fact.sl s.ea (qas s.es) :: (s.es.map qaF)) [(0, saV s)] Tryz.func120 rfl Tryz.ntmps120 rfl (Ac rfl (An _)) (Fc (fact_any hF1) (Fc (fact_any hF2) (Fc (fact_any hF3) (facts_more hM)))) ?_
 refine Cs ?_
 refine Kh rfl (Oy rfl rfl) ?_
 intro b1
 refine Ka rfl (Nt (Cq (Cs (Kq rfl (Fa (q := 0) rfl rfl u52 rfl rfl) (Kq rfl (Ld rfl rfl .tc u48) ?_)))))
 refine Kq rfl (rd_len rfl rfl u48) (Km rfl (Nt (Cb ?_)))
 refine Lp (σ := Nat) [(1, _), (12, _), (13, _)] (fun gq => [(14, .int .i64 (gq : Int))]) (fun gq => gq ≤ s.gs.length ∧ ∀ g ∈ s.gs.take gq, okG g) (fun gq => s.gs.length - gq) (0) (S3 rfl rfl rfl) (S1 rfl) (by (try dsimp only); exact ⟨Nat.zero_le _, by simp⟩) ?_
 rintro i hinv1; (try dsimp only at hinv1 ⊢)
 obtain ⟨hi, hok⟩ := hinv1
 refine Cs (Kq rfl (rd_lss rfl rfl rfl) (Nt (Cq ?_)))
 refine Cd rfl (fun hc15 => ?_) (fun hc15 => ?_)
 ·(try simp only [sB] at hc15)
  have hil : i < s.gs.length := by omega
  refine Ck (Xa (Cq (Cb (Cs ?_))))
  refine Kq rfl (Ia rfl rfl rfl u48 (by kernel_rfl : _ = some 2) (by omega) (by (rw [flatMap_len _ _ 2 (fun _ => rfl)]; omega))) ?_
  refine Kq rfl (ldma _ rfl rfl u24 rfl (by kernel_rfl : _ = some 2) (fun _ => rfl) (by decide) rfl (by assumption)) ?_
  refine Kh rfl (Oz [.string (S []), .string (S [])] rfl) ?_
  intro b4
  refine Nu rfl rfl (Sa rfl rfl rfl .tc) ?_
  refine Nt ?_
  refine WC.joinP (σ := Unit) [(1, _), (12, _), (13, _), (14, _)] (fun gq => [(27, .bool (decide (¬ (okN (s.gs.getD i default).1 ∧ okN (s.gs.getD i default).2))))]) (fun gq => True) (S4 rfl rfl rfl rfl) ?_ ?_
  ·skip
   refine Cg (Kq rfl (Fa (q := 0) rfl rfl u24 rfl rfl) (Kq rfl (Ld rfl rfl .tc u22) ?_))
   refine Ku rfl (Oc rfl rfl (Kv fun w hS => valid_c (a := (s.gs.getD i default).1))) ?_
   refine Kq rfl (Rt rfl rfl) (Km rfl ?_)
   refine Nb 22 rfl (fun hg22 => ?_) (fun hg22 => ?_)
   ·(try simp only [sB] at hg22)
    refine Kt rfl (Kt rfl (Kt rfl (Kt rfl (Kq rfl (Rp rfl rfl rfl) (Nn ?_)))))
    refine WX.joinP (()) (S4 rfl rfl rfl rfl) (by refine (Sc ?_ (S0 _)) <;> ((refine congrArg (fun b => some (Value.bool b)) ?_; simp [*, -List.getD_eq_getElem?_getD]; done))) ?_ (by (exact fun _ h => h))
    (try dsimp only)
    done
   ·(try simp only [sB] at hg22)
    refine Kq rfl (Fa (q := 1) rfl rfl u24 rfl rfl) (Kq rfl (Ld rfl rfl .tc u22) ?_)
    refine Ku rfl (Oc rfl rfl (Kv fun w hS => valid_c (a := (s.gs.getD i default).2))) ?_
    refine Kq rfl (Rt rfl rfl) (Kq rfl (Rq rfl rfl rfl) (Nn ?_))
    refine WX.joinP (()) (S4 rfl rfl rfl rfl) (by refine (Sc ?_ (S0 _)) <;> ((refine congrArg (fun b => some (Value.bool b)) ?_; simp [*, -List.getD_eq_getElem?_getD]; done))) ?_ (by (exact fun _ h => h))
    (try dsimp only)
    done
  ·rintro _ hmeet; (try dsimp only at hmeet ⊢)
   refine Cd rfl (fun hc27 => ?_) (fun hc27 => ?_)
   ·(try simp only [sB] at hc27)
    refine Cs (Ka rfl (Nt (Ce (Xf (Xb (Xb (Xf (Xb ?_))))))))
    exact R1 rfl rfl (by rw [if_neg (fun h => absurd (h.1 _ (getD_mem _ _ hil)) hc27)]; rfl)
   ·(try simp only [sB] at hc27)
    refine Ck (Xd (Xa (Cg (Kq rfl (Rz rfl rfl rfl (by omega)) (Km rfl (Nn ?_))))))
    refine Ly (i + 1) (by (try dsimp only); omega) (S3 rfl rfl rfl) (by refine (Sc ?_ (S0 _)) <;> (rfl)) ?_ (by (exact st_sub))
    (try dsimp only)
    exact ⟨hil, all_take hil hok (Decidable.not_not.1 hc27)⟩
 ·(try simp only [sB] at hc15)
  refine Cx (Xc (Xc (Xe ?_)))
  obtain rfl : i = s.gs.length := by omega
  rw [List.take_length] at hok
  refine Xa (Cq (Cs (Kq rfl (Fa (q := 1) rfl rfl u52 rfl rfl) (Kq rfl (Ld rfl rfl .tc u49) ?_))))
  refine Kq rfl (rd_len rfl rfl u49) (Km rfl (Nt (Cb ?_)))
  refine Lp (σ := Nat) [(1, _), (30, _), (31, _)] (fun gq => [(32, .int .i64 (gq : Int))]) (fun gq => gq ≤ s.vs.length ∧ ∀ v ∈ s.vs.take gq, okN v) (fun gq => s.vs.length - gq) (0) (S3 rfl rfl rfl) (S1 rfl) (by (try dsimp only); exact ⟨Nat.zero_le _, by simp⟩) ?_
  rintro j hinv2; (try dsimp only at hinv2 ⊢)
  obtain ⟨hj, hov⟩ := hinv2
  refine Cs (Kq rfl (rd_lss rfl rfl rfl) (Nt (Cq ?_)))
  refine Cd rfl (fun hc33 => ?_) (fun hc33 => ?_)
  ·(try simp only [sB] at hc33)
   have hjl : j < s.vs.length := by omega
   refine Ck (Xa (Cq (Cb (Cs ?_))))
   refine Kq rfl (Ib rfl rfl rfl u49 (by omega) (by (rw [flatMap_len _ _ 1 (fun _ => rfl)]; omega))) ?_
   refine Kq rfl (ldma _ rfl rfl u117 rfl (by kernel_rfl : _ = some 1) (fun _ => rfl) (by decide) (Nat.mul_one _).symm (by assumption)) ?_
   refine Kh rfl (Oz [.string (S [])] rfl) ?_
   intro b6
   refine Nu rfl rfl (Sa rfl rfl rfl .tc) ?_
   refine Nt (Cs (Kq rfl (Fa (q := 0) rfl rfl u117 rfl rfl) (Kq rfl (Ld rfl rfl .tc u22) ?_)))
   refine Ku rfl (Oc rfl rfl (Kv fun w hS => valid_c (a := s.vs.getD j default))) ?_
   refine Kq rfl (Rt rfl rfl) (Nt ?_)
   refine Cd rfl (fun hc39 => ?_) (fun hc39 => ?_)
   ·(try simp only [sB] at hc39)
    refine Cs (Ka rfl (Nt (Ce (Xf (Xb (Xb (Xf (Xb ?_))))))))
    exact R1 rfl rfl (by rw [if_neg (fun h => absurd (h.2.1 _ (getD_mem _ _ hjl)) (by simpa using hc39))]; rfl)
   ·(try simp only [sB] at hc39)
    refine Ck (Xd (Xa (Cg (Kq rfl (Rz rfl rfl rfl (by omega)) (Km rfl (Nn ?_))))))
    refine Ly (j + 1) (by (try dsimp only); omega) (S3 rfl rfl rfl) (by refine (Sc ?_ (S0 _)) <;> (rfl)) ?_ (by (exact st_sub))
    (try dsimp only)
    exact ⟨hjl, all_take hjl hov (by simpa using hc39)⟩
  ·(try simp only [sB] at hc33)
   refine Cx (Xc (Xc (Xe ?_)))
   obtain rfl : j = s.vs.length := by omega
   rw [List.take_length] at hov
   refine Xa (Cq (Cs (Kq rfl (Fa (q := 2) rfl rfl u52 rfl rfl) (Kq rfl (Ld rfl rfl .tc u50) ?_))))
   refine Kq rfl (rd_len rfl rfl u50) (Km rfl (Nt (Cb ?_)))
   refine Lp (σ := Nat) [(1, _), (42, _), (43, _)] (fun gq => [(44, .int .i64 (gq : Int))]) (fun gq => gq ≤ s.es.length ∧ ∀ q ∈ s.es.take gq, okQ s.gs.length s.vs.length q.1) (fun gq => s.es.length - gq) (0) (S3 rfl rfl rfl) (S1 rfl) (by (try dsimp only); exact ⟨Nat.zero_le _, by simp⟩) ?_
   rintro k hinv3; (try dsimp only at hinv3 ⊢)
   obtain ⟨hk, hoq⟩ := hinv3
   refine Cs (Kq rfl (rd_lss rfl rfl rfl) (Nt (Cq ?_)))
   refine Cd rfl (fun hc45 => ?_) (fun hc45 => ?_)
   ·(try simp only [sB] at hc45)
    have hkl : k < s.es.length := by omega
    have hkm := getD_mem s.es k hkl
    have hlt1 := hlt _ hkm
    refine Ck (Xa (Cq (Cb (Cs ?_))))
    refine Kq rfl (Ia rfl rfl rfl u50 (by kernel_rfl : _ = some 3) (by omega) (by (rw [flatMap_len _ _ 3 (fun _ => rfl)]; omega))) ?_
    refine Kq rfl (ldma _ rfl rfl u123 rfl (by kernel_rfl : _ = some 3) (fun _ => rfl) (by decide) rfl (by assumption)) ?_
    refine Kh rfl (Oz [.int .i64 0, .string (S []), .slice none 0 0] rfl) ?_
    intro b8
    refine Nu rfl rfl (Sa rfl rfl rfl .tc) ?_
    refine Nt (Cq ?_)
    refine WC.joinP (σ := Unit) [(1, _), (8, _), (42, _), (43, _), (44, _)] (fun gq => [(64, .bool (decide (¬ ((0 ≤ (s.es.getD k default).1.1 ∧ (s.es.getD k default).1.1 < (s.gs.length : Int)) ∧ okN (s.es.getD k default).1.2.1))))]) (fun gq => True) (S5 rfl rfl rfl rfl rfl) ?_ ?_
    ·skip
     refine Cg (Kq rfl (Fa (q := 0) rfl rfl u123 rfl rfl) (Kq rfl (Ld rfl rfl .tc u3) ?_))
     refine Kq rfl (rd_lss rfl rfl rfl) (Km rfl ?_)
     refine Nb 51 rfl (fun hg51 => ?_) (fun hg51 => ?_)
     ·(try simp only [sB] at hg51)
      refine Kt rfl (Kt rfl (Kt rfl (Kt rfl (Kt rfl (Kt rfl (Kq rfl (Rp rfl rfl rfl) (Km rfl (Kt rfl (Kt rfl (Kt rfl (Kt rfl (Kq rfl (Rp rfl rfl rfl) (Nn ?_)))))))))))))
      refine WX.joinP (()) (S5 rfl rfl rfl rfl rfl) (by refine (Sc ?_ (S0 _)) <;> ((exact congrArg (fun b => some (Value.bool b)) (by symm; apply decide_eq_true; omega)))) ?_ (by (exact fun _ h => h))
      (try dsimp only)
      done
     ·(try simp only [sB] at hg51)
      refine Kq rfl (Fa (q := 0) rfl rfl u123 rfl rfl) (Kq rfl (Ld rfl rfl .tc u3) ?_)
      refine Kq rfl (Fa (q := 0) rfl rfl u52 rfl rfl) (Kq rfl (Ld rfl rfl .tc u48) ?_)
      refine Kq rfl (rd_len rfl rfl u48) (Kq rfl (rd_geq rfl rfl rfl) (Kq rfl (Rq rfl rfl rfl) (Km rfl ?_)))
      refine Nb 59 rfl (fun hg59 => ?_) (fun hg59 => ?_)
      ·(try simp only [sB] at hg59)
       refine Kt rfl (Kt rfl (Kt rfl (Kt rfl (Kq rfl (Rp rfl rfl rfl) (Nn ?_)))))
       refine WX.joinP (()) (S5 rfl rfl rfl rfl rfl) (by refine (Sc ?_ (S0 _)) <;> ((exact congrArg (fun b => some (Value.bool b)) (by symm; apply decide_eq_true; omega)))) ?_ (by (exact fun _ h => h))
       (try dsimp only)
       done
      ·(try simp only [sB] at hg59)
       refine Kq rfl (Fa (q := 1) rfl rfl u123 rfl rfl) (Kq rfl (Ld rfl rfl .tc u22) ?_)
       refine Ku rfl (Oc rfl rfl (Kv fun w hS => valid_c (a := (s.es.getD k default).1.2.1))) ?_
       refine Kq rfl (Rt rfl rfl) (Kq rfl (Rq rfl rfl rfl) (Nn ?_))
       refine WX.joinP (()) (S5 rfl rfl rfl rfl rfl) (by refine (Sc ?_ (S0 _)) <;> ((refine congrArg (fun b => some (Value.bool b)) ?_; simp [*, -List.getD_eq_getElem?_getD]; done))) ?_ (by (exact fun _ h => h))
       (try dsimp only)
       done
    ·rintro _ hmeet; (try dsimp only at hmeet ⊢)
     refine Cd rfl (fun hc64 => ?_) (fun hc64 => ?_)
     ·(try simp only [sB] at hc64)
      refine Cs (Ka rfl (Nt (Ce (Xb (Xf (Xb (Xb (Xf (Xb ?_)))))))))
      exact R1 rfl rfl (by rw [if_neg (fun h => absurd (h.2.2 _ (List.mem_map_of_mem hkm)).1 hc64)]; rfl)
     ·(try simp only [sB] at hc64)
      refine Ck (Xa (Cs (Kq rfl (Fa (q := 2) rfl rfl u123 rfl rfl) ?_)))
      refine WL.st (fun w h => st_addm (more := s.es.map qaF) (f := qaF (s.es.getD k default)) h (List.mem_map_of_mem hkm)) ?_
      refine Kq rfl (Ld rfl rfl .tc u121) ?_
      refine Kq rfl (rd_len rfl rfl u121) (Km rfl (Nt (Cb ?_)))
      refine Lp (σ := Nat) [(1, _), (42, _), (43, _), (44, _), (66, _), (67, _)] (fun gq => [(68, .int .i64 (gq : Int))]) (fun gq => gq ≤ (s.es.getD k default).1.2.2.length ∧ ∀ t ∈ (s.es.getD k default).1.2.2.take gq, okT s.vs.length t) (fun gq => (s.es.getD k default).1.2.2.length - gq) (0) (S6 rfl rfl rfl rfl rfl rfl) (S1 rfl) (by (try dsimp only); exact ⟨Nat.zero_le _, by simp⟩) ?_
      rintro m hinv4; (try dsimp only at hinv4 ⊢)
      obtain ⟨hm, hot⟩ := hinv4
      refine Cs (Kq rfl (rd_lss rfl rfl rfl) (Nt (Cq ?_)))
      refine Cd rfl (fun hc69 => ?_) (fun hc69 => ?_)
      ·(try simp only [sB] at hc69)
       have hml : m < (s.es.getD k default).1.2.2.length := by omega
       refine Ck (Xa (Cq (Cb (Cs ?_))))
       refine Kq rfl (Ia rfl rfl rfl u121 (by kernel_rfl : _ = some 4) (by omega) (by (rw [flatMap_len _ _ 4 (fun _ => rfl)]; omega))) ?_
       refine Kq rfl (ldma _ rfl rfl u119 rfl (by kernel_rfl : _ = some 4) (fun _ => rfl) (by decide) rfl (by assumption)) ?_
       refine Kh rfl (Oz [.string (S []), .int .i64 0, .bool false, .string (S [])] rfl) ?_
       intro b10
       refine Nu rfl rfl (Sa rfl rfl rfl .tc) ?_
       refine Nt ?_
       refine WC.joinP (σ := Unit) [(1, _), (42, _), (43, _), (44, _), (66, _), (67, _), (68, _)] (fun gq => [(94, .bool (decide (¬ ((0 ≤ ((s.es.getD k default).1.2.2.getD m default).2.1 ∧ ((s.es.getD k default).1.2.2.getD m default).2.1 < (s.vs.length : Int)) ∧ okN ((s.es.getD k default).1.2.2.getD m default).1 ∧ okZ ((s.es.getD k default).1.2.2.getD m default).2.2))))]) (fun gq => True) (S7 rfl rfl rfl rfl rfl rfl rfl) ?_ ?_
       ·skip
        refine Cg (Kq rfl (Fa (q := 1) rfl rfl u119 rfl rfl) (Kq rfl (Ld rfl rfl .tc u3) ?_))
        refine Kq rfl (rd_lss rfl rfl rfl) (Km rfl ?_)
        refine Nb 75 rfl (fun hg75 => ?_) (fun hg75 => ?_)
        ·(try simp only [sB] at hg75)
         refine Kt rfl (Kt rfl (Kt rfl (Kt rfl (Kt rfl (Kt rfl (Kq rfl (Rp rfl rfl rfl) (Km rfl (Kt rfl (Kt rfl (Kt rfl (Kt rfl (Kq rfl (Rp rfl rfl rfl) (Km rfl (Kt rfl (Kt rfl (Kt rfl (Kt rfl (Kq rfl (Rp rfl rfl rfl) (Nn ?_)))))))))))))))))))
         refine WX.joinP (()) (S7 rfl rfl rfl rfl rfl rfl rfl) (by refine (Sc ?_ (S0 _)) <;> ((exact congrArg (fun b => some (Value.bool b)) (by symm; apply decide_eq_true; omega)))) ?_ (by (exact fun _ h => h))
         (try dsimp only)
         done
        ·(try simp only [sB] at hg75)
         refine Kq rfl (Fa (q := 1) rfl rfl u119 rfl rfl) (Kq rfl (Ld rfl rfl .tc u3) ?_)
         refine Kq rfl (Fa (q := 1) rfl rfl u52 rfl rfl) (Kq rfl (Ld rfl rfl .tc u49) ?_)
         refine Kq rfl (rd_len rfl rfl u49) (Kq rfl (rd_geq rfl rfl rfl) (Kq rfl (Rq rfl rfl rfl) (Km rfl ?_)))
         refine Nb 83 rfl (fun hg83 => ?_) (fun hg83 => ?_)
         ·(try simp only [sB] at hg83)
          refine Kt rfl (Kt rfl (Kt rfl (Kt rfl (Kq rfl (Rp rfl rfl rfl) (Km rfl (Kt rfl (Kt rfl (Kt rfl (Kt rfl (Kq rfl (Rp rfl rfl rfl) (Nn ?_)))))))))))
          refine WX.joinP (()) (S7 rfl rfl rfl rfl rfl rfl rfl) (by refine (Sc ?_ (S0 _)) <;> ((exact congrArg (fun b => some (Value.bool b)) (by symm; apply decide_eq_true; omega)))) ?_ (by (exact fun _ h => h))
          (try dsimp only)
          done
         ·(try simp only [sB] at hg83)
          refine Kq rfl (Fa (q := 0) rfl rfl u119 rfl rfl) (Kq rfl (Ld rfl rfl .tc u22) ?_)
          refine Ku rfl (Oc rfl rfl (Kv fun w hS => valid_c (a := ((s.es.getD k default).1.2.2.getD m default).1))) ?_
          refine Kq rfl (Rt rfl rfl) (Kq rfl (Rq rfl rfl rfl) (Km rfl ?_))
          refine Nb 89 rfl (fun hg89 => ?_) (fun hg89 => ?_)
          ·(try simp only [sB] at hg89)
           refine Kt rfl (Kt rfl (Kt rfl (Kt rfl (Kq rfl (Rp rfl rfl rfl) (Nn ?_)))))
           refine WX.joinP (()) (S7 rfl rfl rfl rfl rfl rfl rfl) (by refine (Sc ?_ (S0 _)) <;> ((refine congrArg (fun b => some (Value.bool b)) ?_; simp [*, -List.getD_eq_getElem?_getD]; done))) ?_ (by (exact fun _ h => h))
           (try dsimp only)
           done
          ·(try simp only [sB] at hg89)
           refine Kq rfl (Fa (q := 2) rfl rfl u119 rfl rfl) ?_
           refine Kq rfl (ldp rfl rfl .tc u64 rfl (by kernel_rfl : _ = some 2) (by rfl) (by rfl)) ?_
           refine Ku rfl (Oc rfl rfl (Kv fun w hS => zvalid_c (x := ((s.es.getD k default).1.2.2.getD m default).2.2))) ?_
           refine Kq rfl (Rt rfl rfl) (Kq rfl (Rq rfl rfl rfl) (Nn ?_))
           refine WX.joinP (()) (S7 rfl rfl rfl rfl rfl rfl rfl) (by refine (Sc ?_ (S0 _)) <;> ((refine congrArg (fun b => some (Value.bool b)) ?_; simp [*, -List.getD_eq_getElem?_getD]; done))) ?_ (by (exact fun _ h => h))
           (try dsimp only)
           done
       ·rintro _ hmeet; (try dsimp only at hmeet ⊢)
        refine Cd rfl (fun hc94 => ?_) (fun hc94 => ?_)
        ·(try simp only [sB] at hc94)
         refine Cs (Ka rfl (Nt (Ce (Xf (Xb (Xb (Xf (Xf (Xb (Xb (Xf (Xb ?_))))))))))))
         exact R1 rfl rfl (by rw [if_neg (fun h => absurd ((h.2.2 _ (List.mem_map_of_mem hkm)).2 _ (getD_mem _ _ hml)) hc94)]; rfl)
        ·(try simp only [sB] at hc94)
         refine Ck (Xd (Xa (Cg (Kq rfl (Rz rfl rfl rfl (by omega)) (Km rfl (Nn ?_))))))
         refine Ly (m + 1) (by (try dsimp only); omega) (S6 rfl rfl rfl rfl rfl rfl) (by refine (Sc ?_ (S0 _)) <;> (rfl)) ?_ (by (exact st_sub))
         (try dsimp only)
         exact ⟨hml, all_take hml hot (Decidable.not_not.1 hc94)⟩
      ·(try simp only [sB] at hc69)
       refine Cx (Xc (Xc (Xe ?_)))
       obtain rfl : m = (s.es.getD k default).1.2.2.length := by omega
       rw [List.take_length] at hot
       refine Xd (Xa (Cg (Kq rfl (Rz rfl rfl rfl (by omega)) (Km rfl (Nn ?_)))))
       refine Ly (k + 1) (by (try dsimp only); omega) (S3 rfl rfl rfl) (by refine (Sc ?_ (S0 _)) <;> (rfl)) ?_ (by (exact st_sub))
       (try dsimp only)
       exact ⟨hkl, all_take hkl hoq ⟨Decidable.not_not.1 hc64, hot⟩⟩
   ·(try simp only [sB] at hc45)
    refine Cx (Xc (Xc (Xe ?_)))
    obtain rfl : k = s.es.length := by omega
    rw [List.take_length] at hoq
    refine Xa (Cs (Ka rfl (Nt (Ce ?_))))
    exact R1 rfl rfl (by rw [if_pos ⟨hok, hov, forall_qa.2 hoq⟩]; rfl)
theorem szq_c {q : QA} {w : World} :
  Cw 216 #[.agg #[.int .i64 q.1.1, .string (S q.1.2.1), .slice q.2.1 q.1.2.2.length q.2.2]] w (.bool (decide (q.1.2.2.length > 64))) := by
 refine En [] [(0, .agg #[.int .i64 q.1.1, .string (S q.1.2.1), .slice q.2.1 q.1.2.2.length q.2.2])] Tryz.func216 rfl Tryz.ntmps216 rfl (Ac rfl (An _)) Fn ?_
 refine Cs ?_
 refine Kh rfl (Oy rfl rfl) ?_
 intro b1
 refine Ka rfl (Nt (Cs (Kq rfl (Fa (q := 2) rfl rfl u123 rfl rfl) (Kq rfl (Ld rfl rfl .tc u121) ?_))))
 refine Kq rfl (rd_len rfl rfl u121) (Kq rfl (rd_gtr rfl rfl rfl) (Ka rfl (Nt (Ce ?_))))
 exact R1 rfl rfl (by simp [tup]; omega)
theorem sizes_c {s : SA} {w : World} {ok : Nat → Prop} (hF1 : (Fact.sl s.ga (gps s.gs)).holds ok w) (hF2 : (Fact.sl s.va (vrs s.vs)).holds ok w) (hF3 : (Fact.sl s.ea (qas s.es)).holds ok w) (hs : saL s) :
  Cw 177 #[saV s] w (.int .i64 (if sizeS s.core then 0 else 6)) := by
 obtain ⟨hlg, hlv, hle, hlt, hlm⟩ := hs
 refine En [Fact.sl s.ga (gps s.gs), Fact.sl s.va (vrs s.vs), Fact.sl s.ea (qas s.es)] [(0, saV s)] Tryz.func177 rfl Tryz.ntmps177 rfl (Ac rfl (An _)) (Fc (fact_any hF1) (Fc (fact_any hF2) (Fc (fact_any hF3) Fn))) ?_
 refine Cs ?_
 refine Kh rfl (Oy rfl rfl) ?_
 intro b1
 refine Ka rfl (Nt (Cq ?_))
 refine WC.joinP (σ := Unit) [(1, _)] (fun gq => [(18, .bool (decide (¬ (s.gs.length ≤ 8 ∧ s.vs.length ≤ 64 ∧ s.es.length ≤ 64))))]) (fun gq => True) (S1 rfl) ?_ ?_
 ·skip
  refine Cg (Kq rfl (Fa (q := 0) rfl rfl u52 rfl rfl) (Kq rfl (Ld rfl rfl .tc u48) ?_))
  refine Kq rfl (rd_len rfl rfl u48) (Kq rfl (rd_gtr rfl rfl rfl) (Km rfl ?_))
  refine Nb 7 rfl (fun hg7 => ?_) (fun hg7 => ?_)
  ·(try simp only [sB] at hg7)
   refine Kt rfl (Kt rfl (Kt rfl (Kt rfl (Kq rfl (Rp rfl rfl rfl) (Km rfl (Kt rfl (Kt rfl (Kt rfl (Kt rfl (Kq rfl (Rp rfl rfl rfl) (Nn ?_)))))))))))
   refine WX.joinP (()) (S1 rfl) (by refine (Sc ?_ (S0 _)) <;> ((exact congrArg (fun b => some (Value.bool b)) (by symm; apply decide_eq_true; omega)))) ?_ (by (exact fun _ h => h))
   (try dsimp only)
   done
  ·(try simp only [sB] at hg7)
   refine Kq rfl (Fa (q := 1) rfl rfl u52 rfl rfl) (Kq rfl (Ld rfl rfl .tc u49) ?_)
   refine Kq rfl (rd_len rfl rfl u49) (Kq rfl (rd_gtr rfl rfl rfl) (Kq rfl (Rq rfl rfl rfl) (Km rfl ?_)))
   refine Nb 13 rfl (fun hg13 => ?_) (fun hg13 => ?_)
   ·(try simp only [sB] at hg13)
    refine Kt rfl (Kt rfl (Kt rfl (Kt rfl (Kq rfl (Rp rfl rfl rfl) (Nn ?_)))))
    refine WX.joinP (()) (S1 rfl) (by refine (Sc ?_ (S0 _)) <;> ((exact congrArg (fun b => some (Value.bool b)) (by symm; apply decide_eq_true; omega)))) ?_ (by (exact fun _ h => h))
    (try dsimp only)
    done
   ·(try simp only [sB] at hg13)
    refine Kq rfl (Fa (q := 2) rfl rfl u52 rfl rfl) (Kq rfl (Ld rfl rfl .tc u50) ?_)
    refine Kq rfl (rd_len rfl rfl u50) (Kq rfl (rd_gtr rfl rfl rfl) (Kq rfl (Rq rfl rfl rfl) (Nn ?_)))
    refine WX.joinP (()) (S1 rfl) (by refine (Sc ?_ (S0 _)) <;> ((refine slot_b rfl ?_; (try dsimp only); (exact decide_eq_decide.2 (by omega))))) ?_ (by (exact fun _ h => h))
    (try dsimp only)
    done
 ·rintro _ hmeet; (try dsimp only at hmeet ⊢)
  refine Cd rfl (fun hc18 => ?_) (fun hc18 => ?_)
  ·(try simp only [sB] at hc18)
   have hr : ¬ sizeS s.core := fun h => hc18 (by simpa using h.1)
   refine Cs (Ka rfl (Nt (Ce (Xb ?_))))
   exact R1 rfl rfl (by rw [if_neg hr]; rfl)
  ·(try simp only [sB] at hc18)
   refine Ck (Xa (Cq (Cs (Kq rfl (Fa (q := 2) rfl rfl u52 rfl rfl) (Kq rfl (Ld rfl rfl .tc u50) ?_)))))
   refine Ku rfl (Oc rfl rfl (Kv fun w hS => cfQ_c (l := s.es) (fk := 216) (cs := #[]) (p := fun q => decide (q.1.2.2.length > 64)) (by (exact hS.sl)) (by exact hle) (by kernel_rfl) (by exact fun x hx w' hb => by rw [fnc0]; exact szq_c))) ?_
   refine Nt ?_
   refine Cd rfl (fun hc21 => ?_) (fun hc21 => ?_)
   ·(try simp only [sB] at hc21)
    have hr : ¬ sizeS s.core := fun h => by
     obtain ⟨q, hq, hq2⟩ := List.any_eq_true.1 hc21
     have := h.2 _ (List.mem_map_of_mem hq); simp at hq2; omega
    refine Cs (Ka rfl (Nt (Ce (Xb ?_))))
    exact R1 rfl rfl (by rw [if_neg hr]; rfl)
   ·(try simp only [sB] at hc21)
    have hr : sizeS s.core := ⟨by simpa using hc18, forall_qa.2 fun q hq => by
     have := List.any_eq_false.1 hc21 q hq; simpa using this⟩
    refine Ck (Xa (Cs (Ka rfl (Nt (Ce ?_)))))
    exact R1 rfl rfl (by rw [if_pos hr]; rfl)
end Go.Proofs.YtmkghgoibnncbaaGreatDoor
