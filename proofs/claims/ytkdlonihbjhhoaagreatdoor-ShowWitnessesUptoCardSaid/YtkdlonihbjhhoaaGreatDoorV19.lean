/-
  Parts of the walk: Sht Shu Sha1 Rpc Rik ShaA Sha2.
-/
import Derived.Test.YtkdlonihbjhhoaaGreatDoorV18
namespace Go.Proofs.YtkdlonihbjhhoaaGreatDoor
open Go.RowKit
set_option linter.unusedSimpArgs false
set_option linter.unusedVariables false
set_option maxHeartbeats 600000
set_option maxRecDepth 20000
theorem pN {d : List Int} {n i : Nat} (h : i ∈ aM d n) : i < n := by
 rw [aM] at h; exact List.mem_range.1 (List.mem_filter.1 h).1
theorem mC (d : List Int) (n : Nat) : (aM d n).length ≤ n := by
 rw [aM]; exact Nat.le_trans (List.length_filter_le _ _) (by simp)
theorem yv {p : PR} {k : IK} (hN : dQ p k = 0) {i : Nat} (hi : i < k.r.length) : elG k.g (rD k i) := by
 obtain ⟨_, _, _, _, _, _, _, hel⟩ := dE hN
 refine hel _ ?_
 rw [rD, List.getD_eq_getElem?_getD, List.getElem?_eq_getElem hi]
 simp
section
variable {p : PR} {k : IK} {s : SG} {ms : List Bs} {t : Tp} {d : List Int}
end
section
variable {p : PR} {k : IK} {s : SG} {ms : List Bs} {t : Tp} {d : List Int}
end
abbrev sgV (s : SG) : Value := .agg #[.string (S s.a), .string (S s.e), .string (S s.v)]
abbrev zw (p : PR) (k : IK) (rv : Value) : Value := .agg #[.string (S p.ch), .string (S p.sl), .string (S p.mn.1.1), .string (S p.mn.1.2), .string (S p.mn.2.1), .string (S p.mn.2.2), .string (S p.wh.1.1), .string (S p.wh.1.2), .string (S p.wh.2.1), .string (S p.wh.2.2), .string (S p.sec), .string (S p.attr), .string (S p.han), .string (S p.lo), .string (S p.sz), .string (S p.bl), .string (S p.msk), .string (S k.name), .string (S k.g.1), .string (S k.g.2), .string (S k.z), .string (S k.s), rv, .string (S k.u), .string (S k.h)]
theorem o6 {p : PR} {k : IK} {a : Option Addr} {c : Nat} {w : World} {ok : Nat → Prop} (hF1 : (Fact.sl a (ao k.r)).holds ok w) (hm8 : p.mn.1.1.length ≤ 8) (hk8 : k.g.1.length ≤ 8) (hl : k.r.length ≤ 140737488351232) (hnl : k.name.length ≤ 140737488351232) (hD : TabD w) :
  Cw 39 #[prV p, ikV k (.slice a k.r.length c)] w (.tuple #[zw p k (.slice a k.r.length c), .int .i64 (dQ p k)]) := by
 refine En [Fact.sl a (ao k.r)] [(0, prV p), (1, ikV k (.slice a k.r.length c))] Tryz.func39 rfl Tryz.ntmps39 rfl (Ac rfl (Ac rfl (An _))) (Fc (ah hF1) Fn) ?_
 refine Cs ?_
 refine Kh rfl (Oy rfl rfl) ?_
 intro b2
 refine Kh rfl (Oy rfl rfl) ?_
 intro b3
 refine Kh rfl (Oz [.string (S []), .string (S []), .string (S []), .string (S []), .string (S []), .string (S []), .string (S []), .string (S []), .string (S []), .string (S []), .string (S []), .string (S []), .string (S []), .string (S []), .string (S []), .string (S []), .string (S []), .string (S []), .string (S []), .string (S []), .string (S []), .string (S []), .slice none 0 0, .string (S []), .string (S [])] rfl) ?_
 intro b4
 refine Ka rfl (Nt (Cq ?_))
 refine Cf [4, 5, 6, 0, 1, 2, 3] [7, 8] [0, 0, 0, 0, 0, 0, 1, 2, 2] (by kernel_rfl) (by kernel_rfl) rfl ?_
 refine Kj rfl (lda rfl rfl .tc u30 rfl ?_) ?_
 ·kernel_rfl
 refine Kj rfl (lda rfl rfl .tc u33 rfl ?_) ?_
 ·kernel_rfl
 refine Jv rfl rfl rfl rfl rfl (fun ext => Oc rfl rfl (Kv fun w hS => tj (p := p) (k := k) (by (exact hS.sl)) (by assumption) (by assumption) (by assumption) (by assumption) (by (exact bn hD hS)))) ?_
 refine Kj rfl (lda rfl rfl .tc u30 rfl ?_) ?_
 ·kernel_rfl
 refine Kj rfl (Kb [[.string (S []), .string (S []), .string (S []), .string (S []), .string (S []), .string (S []), .string (S []), .string (S []), .string (S []), .string (S []), .string (S []), .string (S []), .string (S []), .string (S []), .string (S []), .string (S []), .string (S [])]] rfl rfl) ?_
 refine Kj rfl (lda rfl rfl .tc u33 rfl ?_) ?_
 ·kernel_rfl
 refine Kj rfl (Kb [[.string (S []), .string (S []), .string (S []), .string (S []), .string (S []), .string (S []), .string (S []), .string (S []), .string (S []), .string (S []), .string (S []), .string (S []), .string (S []), .string (S []), .string (S []), .string (S []), .string (S [])], [.string (S []), .string (S []), .string (S []), .string (S []), .string (S []), .slice none 0 0, .string (S []), .string (S [])]] rfl rfl) ?_
 refine WJ.nil ?_
 refine Nu rfl rfl (Sa rfl rfl rfl .tc) ?_
 refine Ka rfl (Nt (Ce ?_))
 exact Rn rfl (.agg rfl .tc u99 rfl (by kernel_rfl) (.tmp rfl .nil)) fun w' hS => ⟨by rfl, hS.below⟩
theorem gS {l : List Bs} {a : Option Addr} {c : Nat} {w : World} {ok : Nat → Prop} (hF1 : (Fact.sl a (ao l)).holds ok w) (hl : l.length ≤ 140737488351232) :
  Cw 40 #[.slice a l.length c] w (.bool (decide (∀ x ∈ l, okN x))) := by
 refine En [Fact.sl a (ao l)] [(0, .slice a l.length c)] Tryz.func40 rfl Tryz.ntmps40 rfl (Ac rfl (An _)) (Fc (ah hF1) Fn) ?_
 refine Cs (Ka rfl (Nt (Cq (Cs (Km rfl (Yo rfl u31 (Km rfl (Nt (Cb ?_)))))))))
 refine Lp (σ := Nat) [(5, _), (6, _)] (fun gq => [(7, .int .i64 (gq : Int))]) (fun gq => gq ≤ l.length ∧ ∀ x ∈ l.take gq, okN x) (fun gq => l.length - gq) (0) (S2 rfl rfl) (S1 rfl) (by (try dsimp only); exact ⟨Nat.zero_le _, by simp⟩) ?_
 rintro i hinv1; (try dsimp only at hinv1 ⊢)
 obtain ⟨hi, hok⟩ := hinv1
 refine Cs (Yl rfl (Nt (Cq ?_)))
 refine Cd rfl (fun hc8 => ?_) (fun hc8 => ?_)
 ·(try simp only [sB] at hc8)
  have hil : i < l.length := by omega
  refine Ck (Xa (Cq (Cb (Cs ?_))))
  refine Kq rfl (Ib rfl rfl rfl u31 (by omega) (by (rw [List.length_map]; omega))) ?_
  refine Kq rfl (ldm rfl rfl u22 rfl (by assumption)) ?_
  refine Ka rfl (Nt (Cs (Km rfl ?_)))
  refine Ku rfl (Oc rfl rfl (Kv fun w hS => av (a := l.getD i default))) ?_
  refine Yt rfl (Nt ?_)
  refine Cd rfl (fun hc13 => ?_) (fun hc13 => ?_)
  ·(try simp only [sB] at hc13)
   have hn : ¬ ∀ x ∈ l, okN x := fun h => (by simpa using hc13 : ¬ okN (l.getD i default)) (h _ (ap l i hil))
   refine Cs (Ka rfl (Nt (Ce (Xf (Xb (Xb (Xf (Xb ?_))))))))
   exact R1 rfl rfl (by rw [decide_eq_false hn]; rfl)
  ·(try simp only [sB] at hc13)
   have hyy : okN (l.getD i default) := by simpa using hc13
   refine Ck (Xd (Xa (Cg (Kq rfl (Rz rfl rfl rfl (by omega)) (Km rfl (Nn ?_))))))
   refine Ly (i + 1) (by (try dsimp only); omega) (S2 rfl rfl) (by refine (Sc ?_ (S0 _)) <;> (rfl)) ?_ (by (exact fun _ h => h))
   (try dsimp only)
   exact ⟨hil, ay hil hok hyy⟩
 ·(try simp only [sB] at hc8)
  refine Cx (Xc (Xc (Xe ?_)))
  obtain rfl : i = l.length := by omega
  rw [List.take_length] at hok
  refine Xa (Cs (Ka rfl (Nt (Ce ?_))))
  exact R1 rfl rfl (by rw [decide_eq_true hok]; rfl)
abbrev dW (l : List Int) : List Value := l.map fun x => Value.int .i64 x
theorem gg {α : Type} [Inhabited α] {l : List α} {i : Nat} (h : i < l.length) : l.drop i = l.getD i default :: l.drop (i + 1) := by
 rw [List.drop_eq_getElem_cons h, List.getD_eq_getElem?_getD, List.getElem?_eq_getElem h]; rfl
theorem o9 {l : List Int} {n : Int} {a : Option Addr} {c : Nat} {w : World} {ok : Nat → Prop} (hF1 : (Fact.sl a (dW l)).holds ok w) (hl : l.length ≤ 140737488351232) :
  Cw 55 #[.slice a l.length c, .int .i64 n] w (.bool (cz 1 l n)) := by
 refine En [Fact.sl a (dW l)] [(0, .slice a l.length c), (1, .int .i64 n)] Tryz.func55 rfl Tryz.ntmps55 rfl (Ac rfl (Ac rfl (An _))) (Fc (ah hF1) Fn) ?_
 refine Cs (Ka rfl (Nt (Cs (Ka rfl (Nt (Cq (Cs (Km rfl (Yo rfl u38 (Km rfl (Nt (Cb ?_))))))))))))
 refine Lp (σ := Nat × Int) [(1, _), (8, _), (9, _)] (fun gq => [(10, .int .i64 (gq.1 : Int)), (5, .int .i64 gq.2)]) (fun gq => gq.1 ≤ l.length ∧ cz gq.2 (l.drop gq.1) n = cz 1 l n) (fun gq => l.length - gq.1) (0, 1) (S3 rfl rfl rfl) (S2 rfl rfl) (by (try dsimp only); exact ⟨Nat.zero_le _, rfl⟩) ?_
 rintro ⟨i, last⟩ hinv1; (try dsimp only at hinv1 ⊢)
 obtain ⟨hi, he⟩ := hinv1
 refine Cs (Yl rfl (Nt (Cq ?_)))
 refine Cd rfl (fun hc11 => ?_) (fun hc11 => ?_)
 ·(try simp only [sB] at hc11)
  have hil : i < l.length := by omega
  obtain ⟨y, hy⟩ : ∃ y, Keep (y = l.getD i default) := ⟨_, rfl⟩
  rw [gg hil, ← show y = _ from hy, cz] at he
  refine Ck (Xa (Cq (Cb (Cs ?_))))
  refine Kq rfl (Ib rfl rfl rfl u38 (by omega) (by (rw [List.length_map]; omega))) ?_
  refine Kq rfl (ldm rfl rfl u3 rfl (by assumption)) ?_
  refine Ns 13 rfl (v' := .int .i64 (y)) (congrArg (Value.int .i64) (by rw [show y = _ from hy])) ?_
  refine Ka rfl (Nt (Cq ?_))
  refine WC.joinP (σ := Unit) [(1, _), (7, _), (8, _), (9, _), (10, _)] (fun gq => [(21, .bool (decide (¬ (last < y ∧ y < n))))]) (fun gq => True) (S5 rfl rfl rfl rfl rfl) ?_ ?_
  ·skip
   refine Cg (Km rfl (Km rfl (Ym rfl (Km rfl ?_))))
   refine Nb 17 rfl (fun hg17 => ?_) (fun hg17 => ?_)
   ·(try simp only [sB] at hg17)
    refine Kt rfl (Kt rfl (Kt rfl (Yp rfl (Nn ?_))))
    refine WX.joinP (()) (S5 rfl rfl rfl rfl rfl) (by refine (Sc ?_ (S0 _)) <;> ((refine ai rfl ?_; (try dsimp only); (simp [*]; done)))) ?_ (by (exact fun _ h => h))
    (try dsimp only)
    done
   ·(try simp only [sB] at hg17)
    refine Km rfl (Km rfl (Yh rfl (Yq rfl (Nn ?_))))
    refine WX.joinP (()) (S5 rfl rfl rfl rfl rfl) (by refine (Sc ?_ (S0 _)) <;> ((refine ai rfl ?_; (try dsimp only); (exact decide_eq_decide.2 (by omega))))) ?_ (by (exact fun _ h => h))
    (try dsimp only)
    done
  ·rintro _ hmeet; (try dsimp only at hmeet ⊢)
   refine Cd rfl (fun hc21 => ?_) (fun hc21 => ?_)
   ·(try simp only [sB] at hc21)
    have hn : cz 1 l n = false := by rw [← he, decide_eq_false hc21]; rfl
    refine Cs (Ka rfl (Nt (Ce (Xb (Xf (Xb (Xb (Xf (Xb ?_)))))))))
    exact R1 rfl rfl (by rw [hn]; rfl)
   ·(try simp only [sB] at hc21)
    have hy2 := Decidable.not_not.1 hc21
    refine Ck (Xa (Cg (Km rfl (Ka rfl (Nn (Xd (Xa (Cg (Kq rfl (Rz rfl rfl rfl (by omega)) (Km rfl (Nn ?_)))))))))))
    refine Ly ((i + 1, y)) (by (try dsimp only); omega) (S3 rfl rfl rfl) (by refine (Sc ?_ (Sc ?_ (S0 _))) <;> (rfl)) ?_ (by (exact fun _ h => h))
    (try dsimp only)
    exact ⟨hil, by rw [← he, decide_eq_true hy2]; rfl⟩
 ·(try simp only [sB] at hc11)
  refine Cx (Xc (Xc (Xe ?_)))
  obtain rfl : i = l.length := by omega
  have hn : cz 1 l n = true := by rw [← he, List.drop_length]; rfl
  refine Xa (Cs (Ka rfl (Nt (Ce ?_))))
  exact R1 rfl rfl (by rw [hn]; rfl)
theorem o7 {x : Bs} {w : World} :
  Cw 56 #[.string (S x)] w (zV (ngN x)) := by
 refine En [] [(0, .string (S x))] Tryz.func56 rfl Tryz.ntmps56 rfl (Ac rfl (An _)) Fn ?_
 refine Cs ?_
 refine Kh rfl (Oz [.bool false, .string (S [])] rfl) ?_
 intro b2
 refine Nt (Cs (Km rfl ?_))
 refine Ku rfl (Oc rfl rfl (Kv fun w hS => cC (a := x))) ?_
 refine Ku rfl (Oc rfl rfl (Kv fun w hS => rF (x := aF x))) ?_
 refine Nu rfl rfl (Sa rfl rfl rfl .tc) ?_
 refine Nt (Ce ?_)
 exact Rn rfl (.agg rfl .tc u37 rfl (by kernel_rfl) .nil) fun w' hS => ⟨by rfl, hS.below⟩
theorem uM {p : PR} {i : Nat} {w : World} :
  Cw 61 #[prV p, .int .i64 (i : Int)] w (.string (S (lim p i))) := by
 refine En [] [(0, prV p), (1, .int .i64 (i : Int))] Tryz.func61 rfl Tryz.ntmps61 rfl (Ac rfl (Ac rfl (An _))) Fn ?_
 refine Cs ?_
 refine Kh rfl (Oy rfl rfl) ?_
 intro b2
 refine Ka rfl (Nt (Cq (Cs (Km rfl (Nt (Cb (Cs (Yi rfl (Ka rfl (Nt ?_))))))))))
 refine Cd rfl (fun hc6 => ?_) (fun hc6 => ?_)
 ·(try simp only [sB] at hc6)
  refine Cs (Kq rfl (Fa (q := 0) rfl rfl u97 rfl rfl) (Kq rfl (Fa (q := 10) rfl rfl u30 rfl rfl) (Kq rfl (Ld rfl rfl .tc u22) ?_)))
  refine Ka rfl (Nt (Ce (Xf (Xb ?_))))
  exact R1 rfl rfl (by rw [lim, if_pos (by omega)]; rfl)
 ·(try simp only [sB] at hc6)
  refine Cs (Yi rfl (Ka rfl (Nt ?_)))
  refine Cd rfl (fun hc11 => ?_) (fun hc11 => ?_)
  ·(try simp only [sB] at hc11)
   refine Cs (Kq rfl (Fa (q := 0) rfl rfl u97 rfl rfl) (Kq rfl (Fa (q := 12) rfl rfl u30 rfl rfl) (Kq rfl (Ld rfl rfl .tc u22) ?_)))
   refine Ka rfl (Nt (Ce (Xf (Xb ?_))))
   exact R1 rfl rfl (by rw [lim, if_neg (by omega), if_pos (by omega)]; rfl)
  ·(try simp only [sB] at hc11)
   refine Ck (Xd (Xa (Cs (Kq rfl (Fa (q := 0) rfl rfl u97 rfl rfl) (Kq rfl (Fa (q := 11) rfl rfl u30 rfl rfl) (Kq rfl (Ld rfl rfl .tc u22) ?_))))))
   refine Ka rfl (Nt (Ce ?_))
   exact R1 rfl rfl (by rw [lim, if_neg (by omega), if_neg (by omega)]; rfl)
theorem no {p : PR} : okR p ↔ ∀ x ∈ gt p, okN x := by
 rw [mg]
 constructor <;> (intro h x hx; apply h; simp [kc, gt, pk4] at hx ⊢; rcases hx with rfl | rfl | rfl | rfl | rfl | rfl | rfl | rfl | rfl | rfl | rfl | rfl | rfl | rfl | rfl | rfl | rfl <;> simp)
theorem n3 {p : PR} {w : World} (hm8 : p.mn.1.1.length ≤ 8) :
  Cw 69 #[prV p] w (.int .i64 (cx p)) := by
 refine En [] [(0, prV p)] Tryz.func69 rfl Tryz.ntmps69 rfl (Ac rfl (An _)) Fn ?_
 refine Cs ?_
 refine Kh rfl (Oy rfl rfl) ?_
 intro b1
 refine Ka rfl (Nt (Cs ?_))
 refine Kq rfl (lda rfl rfl .tc u30 rfl ?_) ?_
 ·kernel_rfl
 refine Kh rfl (Oc rfl rfl (f8 fun w hS => so)) ?_
 intro g11
 refine WL.pu ?_
 intro hg11; (try dsimp only at hg11 ⊢)
 refine Ka rfl (Nt (Cq (Cs (Ka rfl (Nt (Cb ?_))))))
 refine Lp (σ := Nat) [(1, _), (3, _)] (fun gq => [(4, .int .i64 (gq : Int))]) (fun gq => gq ≤ (gt p).length ∧ ∀ x ∈ (gt p).take gq, okN x) (fun gq => (gt p).length - gq) (0) (S2 rfl rfl) (S1 rfl) (by (try dsimp only); exact ⟨Nat.zero_le _, by simp⟩) ?_
 rintro i hinv1; (try dsimp only at hinv1 ⊢)
 obtain ⟨hi, hok⟩ := hinv1
 refine Cq (Cs (Km rfl (Km rfl (Yo rfl u31 (Yl rfl (Nt ?_))))))
 refine Cd rfl (fun hc15 => ?_) (fun hc15 => ?_)
 ·(try simp only [sB] at hc15)
  have hil : i < (gt p).length := by show i < 17; omega
  obtain ⟨y, hy⟩ : ∃ y, Keep (y = (gt p).getD i default) := ⟨_, rfl⟩
  refine Ck (Xa (Cq (Cb (Cs (Km rfl (Km rfl ?_))))))
  refine Kq rfl (Ib rfl rfl rfl u31 (by omega) (by (rw [List.length_map]; omega))) ?_
  refine Kq rfl (ldm rfl rfl u22 rfl (by assumption)) ?_
  refine Ns 21 rfl (v' := .string (S (y))) (congrArg (fun l => Value.string (S l)) (by rw [show y = _ from hy])) ?_
  refine Ku rfl (Oc rfl rfl (Kv fun w hS => aA (a := y))) ?_
  refine Yt rfl (Nt ?_)
  refine Cd rfl (fun hc23 => ?_) (fun hc23 => ?_)
  ·(try simp only [sB] at hc23)
   have hyn : ¬ okN y := by simpa using hc23
   have hn : ¬ okR p := fun h => hyn (by rw [show y = _ from hy]; exact no.1 h _ (ap (gt p) i hil))
   refine Cs (Ka rfl (Nt (Ce (Xf (Xb (Xb (Xf (Xb ?_))))))))
   exact R1 rfl rfl (by rw [cx, if_pos hn]; rfl)
  ·(try simp only [sB] at hc23)
   have hyy : okN y := by simpa using hc23
   refine Ck (Xd (Xa (Cg (Km rfl (Kq rfl (Rz rfl rfl rfl (by omega)) (Ka rfl (Nn ?_)))))))
   refine Ly (i + 1) (by (try dsimp only); omega) (S2 rfl rfl) (by refine (Sc ?_ (S0 _)) <;> (rfl)) ?_ (by (exact fun _ h => h))
   (try dsimp only)
   exact ⟨hil, ay hil hok (by rw [← show y = _ from hy]; exact hyy)⟩
 ·(try simp only [sB] at hc15)
  refine Cx (Xc (Xc (Xe ?_)))
  obtain rfl : i = (gt p).length := by show i = 17; have h17 : i ≤ 17 := hi; omega
  rw [List.take_length] at hok
  have hokR : okR p := no.2 hok
  have hB8 : 8 < Big := Nat.lt_of_lt_of_le (by decide) gz
  have hz : p.mn.1.2 = [] → ¬ aX p.mn.1 = 0 := fun h h0 => by
   unfold aX at h0; rw [h] at h0
   split at h0
   ·simp at h0
   ·split at h0
    ·simp at h0
    ·split at h0
     ·simp at h0
     ·split at h0
      ·simp at h0
      ·rw [show isP (val []) = false from rfl] at h0; simp at h0
  have hu1 : ¬ p.wh.1.2 = [] → ¬ dz p.wh.1 p.wh.2.1 := fun h h0 => h h0.1.1.2.1
  have hu2 : ¬ val p.wh.1.1 % 2 = 1 → ¬ dz p.wh.1 p.wh.2.1 := fun h h0 => h h0.1.1.2.2.1
  have hu3 : ¬ 8 < val p.wh.1.1 → ¬ dz p.wh.1 p.wh.2.1 := fun h h0 => h h0.1.1.2.2.2
  have hw1 : okN p.wh.1.1 := hokR.2.2.1
  have hq : okN p.mn.1.2 := hokR.2.1.2.1
  have hqB := bv hq
  have h2B : okN (ae 2) := au (by omega)
  have hch : okN p.ch := hokR.1 _ (by simp)
  have hsl : okN p.sl := hokR.1 _ (by simp)
  have hse : okN p.sec := hokR.1 _ (by simp)
  have hat : okN p.attr := hokR.1 _ (by simp)
  have hha : okN p.han := hokR.1 _ (by simp)
  have hlo : okN p.lo := hokR.1 _ (by simp)
  have hsz : okN p.sz := hokR.1 _ (by simp)
  have hbl : okN p.bl := hokR.1 _ (by simp)
  have hmk : okN p.msk := hokR.1 _ (by simp)
  have hmu : bH (ae 8) p.attr = if 8 * val p.attr < Big then (ae (8 * val p.attr), 0) else ([], 5) := by rw [bH, if_pos ⟨au hB8, hat⟩, af]
  refine Xa (Cq ?_)
  refine WC.free (K := [⟨some b1, prC p, 30⟩]) (fs0 := []) [0, 1, 2, 6, 7, 8, 3, 4, 5] [9] [0, 0, 0, 0, 0, 0, 3, 3, 1, 2] (by kernel_rfl) (by kernel_rfl) rfl ?_
  refine Kj rfl (Fa (q := 2) rfl rfl u30 rfl rfl) (Kj rfl (Fa (q := 2) rfl rfl u28 rfl rfl) ?_)
  refine Kj rfl (ldp rfl rfl .tc u26 rfl (by kernel_rfl : _ = some 2) (by rfl) (by rfl)) ?_
  refine Jf rfl rfl rfl rfl rfl (du rfl (v := (.agg #[.string (S []), .string (S [])])) (cs := [.string (S []), .string (S [])]) (by kernel_rfl) rfl) ?_
  intro b5
  refine Jf rfl rfl rfl rfl rfl (du rfl (v := (.agg #[.string (S []), .string (S [])])) (cs := [.string (S []), .string (S [])]) (by kernel_rfl) rfl) ?_
  intro b6
  refine WJ.st rfl rfl rfl rfl (lS rfl rfl rfl ?_ ?_ ?_) ?_
  ·kernel_rfl
  ·simp [Value.oneCell']
  ·rfl
  refine Kj rfl (Fa (q := 6) rfl rfl u30 rfl rfl) (Kj rfl (Fa (q := 6) rfl rfl u28 rfl rfl) ?_)
  refine Kj rfl (ldp rfl rfl .tc u26 rfl (by kernel_rfl : _ = some 2) (by rfl) (by rfl)) ?_
  refine WJ.nil ?_
  refine Nu rfl rfl (Sa rfl rfl rfl .tc) ?_
  refine Nt (Cq ?_)
  refine WC.joinP (σ := Unit) [(1, _), (5, _), (6, _)] (fun gq => [(53, .bool (decide (¬ (aX p.mn.1 = 0 ∧ iK p.mn.1 p.mn.2.1 ∧ iK p.mn.1 p.mn.2.2))))]) (fun gq => True) (S3 rfl rfl rfl) ?_ ?_
  ·skip
   refine Cg (Kq rfl (Fa (q := 1) rfl rfl u26 rfl rfl) (Kq rfl (Ld rfl rfl .tc u22) ?_))
   refine Ys rfl (Km rfl ?_)
   refine Nb 33 rfl (fun hg33 => ?_) (fun hg33 => ?_)
   ·(try simp only [sB] at hg33)
    refine Kt rfl (Kt rfl (Kt rfl (Yp rfl (Km rfl (Kt rfl (Kt rfl (Kt rfl (Kt rfl (Kt rfl (Kt rfl (Yp rfl (Km rfl (Kt rfl (Kt rfl (Kt rfl (Kt rfl (Kt rfl (Kt rfl (Yp rfl (Nn ?_))))))))))))))))))))
    refine WX.joinP (()) (S3 rfl rfl rfl) (by refine (Sc ?_ (S0 _)) <;> ((refine ai rfl ?_; (try dsimp only); (simp [*]; done)))) ?_ (by (exact fun _ h => h))
    (try dsimp only)
    done
   ·(try simp only [sB] at hg33)
    refine Kq rfl (lda rfl rfl .tc u26 rfl ?_) ?_
    ·kernel_rfl
    refine Ku rfl (Oc rfl rfl (Kv fun w hS => u7 (g := p.mn.1))) ?_
    refine Yj rfl (Yq rfl (Km rfl ?_))
    refine Nb 38 rfl (fun hg38 => ?_) (fun hg38 => ?_)
    ·(try simp only [sB] at hg38)
     refine Kt rfl (Kt rfl (Kt rfl (Kt rfl (Kt rfl (Kt rfl (Yp rfl (Km rfl (Kt rfl (Kt rfl (Kt rfl (Kt rfl (Kt rfl (Kt rfl (Yp rfl (Nn ?_)))))))))))))))
     refine WX.joinP (()) (S3 rfl rfl rfl) (by refine (Sc ?_ (S0 _)) <;> ((refine ai rfl ?_; (try dsimp only); (simp [*]; done)))) ?_ (by (exact fun _ h => h))
     (try dsimp only)
     done
    ·(try simp only [sB] at hg38)
     refine Kq rfl (lda rfl rfl .tc u26 rfl ?_) ?_
     ·kernel_rfl
     refine Kq rfl (Fa (q := 2) rfl rfl u30 rfl rfl) (Kq rfl (Fa (q := 4) rfl rfl u28 rfl rfl) (Kq rfl (Ld rfl rfl .tc u22) ?_))
     refine Ku rfl (Oc rfl rfl (Kv fun w hS => pj (g := p.mn.1) (x := p.mn.2.1) (by assumption))) ?_
     refine Yt rfl (Yq rfl (Km rfl ?_))
     refine Nb 46 rfl (fun hg46 => ?_) (fun hg46 => ?_)
     ·(try simp only [sB] at hg46)
      refine Kt rfl (Kt rfl (Kt rfl (Kt rfl (Kt rfl (Kt rfl (Yp rfl (Nn ?_)))))))
      refine WX.joinP (()) (S3 rfl rfl rfl) (by refine (Sc ?_ (S0 _)) <;> ((refine ai rfl ?_; (try dsimp only); (simp [*]; done)))) ?_ (by (exact fun _ h => h))
      (try dsimp only)
      done
     ·(try simp only [sB] at hg46)
      refine Kq rfl (lda rfl rfl .tc u26 rfl ?_) ?_
      ·kernel_rfl
      refine Kq rfl (Fa (q := 2) rfl rfl u30 rfl rfl) (Kq rfl (Fa (q := 5) rfl rfl u28 rfl rfl) (Kq rfl (Ld rfl rfl .tc u22) ?_))
      refine Ku rfl (Oc rfl rfl (Kv fun w hS => pj (g := p.mn.1) (x := p.mn.2.2) (by assumption))) ?_
      refine Yt rfl (Yq rfl (Nn ?_))
      refine WX.joinP (()) (S3 rfl rfl rfl) (by refine (Sc ?_ (S0 _)) <;> ((refine ai rfl ?_; (try dsimp only); (simp [*]; done)))) ?_ (by (exact fun _ h => h))
      (try dsimp only)
      done
  ·rintro _ hmeet; (try dsimp only at hmeet ⊢)
   refine Cd rfl (fun hc53 => ?_) (fun hc53 => ?_)
   ·(try simp only [sB] at hc53)
    refine Cs (Ka rfl (Nt (Ce (Xb ?_))))
    exact R1 rfl rfl (by rw [cx, if_neg (fun h => h hokR), if_pos (fun h : ny p => hc53 ⟨h.1, h.2.1, h.2.2.1⟩)]; rfl)
   ·(try simp only [sB] at hc53)
    have hg1 := Decidable.not_not.1 hc53
    refine Ck (Xa (Cq ?_))
    refine WC.joinP (σ := Unit) [(1, _), (5, _)] (fun gq => [(85, .bool (decide (¬ (dz p.wh.1 p.wh.2.1 ∧ dz p.wh.1 p.wh.2.2))))]) (fun gq => True) (S2 rfl rfl) ?_ ?_
    ·skip
     refine Cf [0, 1, 2, 3, 4, 5, 6, 7, 8, 9, 10, 11, 12, 13, 14, 15, 16, 17, 18, 19, 20, 21, 22, 23, 24, 25, 26, 27, 28, 29, 30, 31] [] [0, 0, 0, 0, 0, 0, 1, 0, 0, 0, 1, 0, 0, 1, 0, 0, 0, 0, 0, 0, 0, 1, 0, 0, 0, 0, 0, 0, 0, 1, 0, 0] (by kernel_rfl) (by kernel_rfl) rfl ?_
     refine Kj rfl (Fa (q := 1) rfl rfl u26 rfl rfl) (Kj rfl (Ld rfl rfl .tc u22) ?_)
     refine Kj rfl (n7 rfl rfl rfl) (Kj rfl (Rm rfl rfl) ?_)
     refine WJ.bool 57 rfl (fun hg57 => ?_) (fun hg57 => ?_)
     ·(try simp only [sB] at hg57)
      refine Js rfl rfl rfl rfl (Js rfl rfl rfl rfl (Js rfl rfl rfl rfl (Js rfl rfl rfl rfl (Kj rfl (Rp rfl rfl rfl) (Kj rfl (Rm rfl rfl) (Js rfl rfl rfl rfl (Js rfl rfl rfl rfl (Js rfl rfl rfl rfl (Js rfl rfl rfl rfl (Js rfl rfl rfl rfl (Kj rfl (Rp rfl rfl rfl) (Kj rfl (Rm rfl rfl) (Js rfl rfl rfl rfl (Js rfl rfl rfl rfl (Js rfl rfl rfl rfl (Js rfl rfl rfl rfl (Js rfl rfl rfl rfl (Js rfl rfl rfl rfl (Kj rfl (Rp rfl rfl rfl) (Kj rfl (Rm rfl rfl) (Js rfl rfl rfl rfl (Js rfl rfl rfl rfl (Js rfl rfl rfl rfl (Js rfl rfl rfl rfl (Js rfl rfl rfl rfl (Js rfl rfl rfl rfl (Kj rfl (Rp rfl rfl rfl) ?_)))))))))))))))))))))))))))
      refine WJ.nil ?_
      refine Nn ?_
      refine WX.joinP (()) (S2 rfl rfl) (by refine (Sc ?_ (S0 _)) <;> ((refine ai rfl ?_; (try dsimp only); (simp [*]; done)))) ?_ (by (exact fun _ h => h))
      (try dsimp only)
      done
     ·(try simp only [sB] at hg57)
      refine Kj rfl (Fa (q := 0) rfl rfl u26 rfl rfl) (Kj rfl (Ld rfl rfl .tc u22) ?_)
      refine Jv rfl rfl rfl rfl rfl (fun ext => Oc rfl rfl (Kv fun w hS => oh (a := p.wh.1.1) (i := 0) (by omega))) ?_
      refine WJ.set 60 rfl (v' := .bool (decide (val p.wh.1.1 % 2 = 1))) (congrArg Value.bool (by exact jt hw1)) ?_
      refine Kj rfl (Rt rfl rfl) (Kj rfl (Rq rfl rfl rfl) (Kj rfl (Rm rfl rfl) ?_))
      refine WJ.bool 63 rfl (fun hg63 => ?_) (fun hg63 => ?_)
      ·(try simp only [sB] at hg63)
       refine Js rfl rfl rfl rfl (Js rfl rfl rfl rfl (Js rfl rfl rfl rfl (Js rfl rfl rfl rfl (Js rfl rfl rfl rfl (Kj rfl (Rp rfl rfl rfl) (Kj rfl (Rm rfl rfl) (Js rfl rfl rfl rfl (Js rfl rfl rfl rfl (Js rfl rfl rfl rfl (Js rfl rfl rfl rfl (Js rfl rfl rfl rfl (Js rfl rfl rfl rfl (Kj rfl (Rp rfl rfl rfl) (Kj rfl (Rm rfl rfl) (Js rfl rfl rfl rfl (Js rfl rfl rfl rfl (Js rfl rfl rfl rfl (Js rfl rfl rfl rfl (Js rfl rfl rfl rfl (Js rfl rfl rfl rfl (Kj rfl (Rp rfl rfl rfl) ?_)))))))))))))))))))))
       refine WJ.nil ?_
       refine Nn ?_
       refine WX.joinP (()) (S2 rfl rfl) (by refine (Sc ?_ (S0 _)) <;> ((refine ai rfl ?_; (try dsimp only); (simp [*]; done)))) ?_ (by (exact fun _ h => h))
       (try dsimp only)
       done
      ·(try simp only [sB] at hg63)
       refine Jv rfl rfl rfl rfl rfl (fun ext => Oc rfl rfl (Kv fun w hS => fw (n := 8) (by omega))) ?_
       refine Kj rfl (Fa (q := 0) rfl rfl u26 rfl rfl) (Kj rfl (Ld rfl rfl .tc u22) ?_)
       refine Jv rfl rfl rfl rfl rfl (fun ext => Oc rfl rfl (Kv fun w hS => bR (a := ae 8) (b := p.wh.1.1))) ?_
       refine WJ.set 67 rfl (v' := .bool (decide (8 < val p.wh.1.1))) (congrArg Value.bool (by rw [az (au hB8) hw1, af]; exact decide_eq_decide.2 (aw _ _))) ?_
       refine Kj rfl (Rt rfl rfl) (Kj rfl (Rq rfl rfl rfl) (Kj rfl (Rm rfl rfl) ?_))
       refine WJ.bool 70 rfl (fun hg70 => ?_) (fun hg70 => ?_)
       ·(try simp only [sB] at hg70)
        refine Js rfl rfl rfl rfl (Js rfl rfl rfl rfl (Js rfl rfl rfl rfl (Js rfl rfl rfl rfl (Js rfl rfl rfl rfl (Js rfl rfl rfl rfl (Kj rfl (Rp rfl rfl rfl) (Kj rfl (Rm rfl rfl) (Js rfl rfl rfl rfl (Js rfl rfl rfl rfl (Js rfl rfl rfl rfl (Js rfl rfl rfl rfl (Js rfl rfl rfl rfl (Js rfl rfl rfl rfl (Kj rfl (Rp rfl rfl rfl) ?_))))))))))))))
        refine WJ.nil ?_
        refine Nn ?_
        refine WX.joinP (()) (S2 rfl rfl) (by refine (Sc ?_ (S0 _)) <;> ((refine ai rfl ?_; (try dsimp only); (simp [*]; done)))) ?_ (by (exact fun _ h => h))
        (try dsimp only)
        done
       ·(try simp only [sB] at hg70)
        refine Kj rfl (lda rfl rfl .tc u26 rfl ?_) ?_
        ·kernel_rfl
        refine Kj rfl (Fa (q := 6) rfl rfl u30 rfl rfl) (Kj rfl (Fa (q := 8) rfl rfl u28 rfl rfl) (Kj rfl (Ld rfl rfl .tc u22) ?_))
        refine Jv rfl rfl rfl rfl rfl (fun ext => Oc rfl rfl (Kv fun w hS => pb (g := p.wh.1) (x := p.wh.2.1))) ?_
        refine Kj rfl (Rt rfl rfl) (Kj rfl (Rq rfl rfl rfl) (Kj rfl (Rm rfl rfl) ?_))
        refine WJ.bool 78 rfl (fun hg78 => ?_) (fun hg78 => ?_)
        ·(try simp only [sB] at hg78)
         refine Js rfl rfl rfl rfl (Js rfl rfl rfl rfl (Js rfl rfl rfl rfl (Js rfl rfl rfl rfl (Js rfl rfl rfl rfl (Js rfl rfl rfl rfl (Kj rfl (Rp rfl rfl rfl) ?_))))))
         refine WJ.nil ?_
         refine Nn ?_
         refine WX.joinP (()) (S2 rfl rfl) (by refine (Sc ?_ (S0 _)) <;> ((refine ai rfl ?_; (try dsimp only); (simp [*]; done)))) ?_ (by (exact fun _ h => h))
         (try dsimp only)
         done
        ·(try simp only [sB] at hg78)
         refine Kj rfl (lda rfl rfl .tc u26 rfl ?_) ?_
         ·kernel_rfl
         refine Kj rfl (Fa (q := 6) rfl rfl u30 rfl rfl) (Kj rfl (Fa (q := 9) rfl rfl u28 rfl rfl) (Kj rfl (Ld rfl rfl .tc u22) ?_))
         refine Jv rfl rfl rfl rfl rfl (fun ext => Oc rfl rfl (Kv fun w hS => pb (g := p.wh.1) (x := p.wh.2.2))) ?_
         refine Kj rfl (Rt rfl rfl) (Kj rfl (Rq rfl rfl rfl) ?_)
         refine WJ.nil ?_
         refine Nn ?_
         refine WX.joinP (()) (S2 rfl rfl) (by refine (Sc ?_ (S0 _)) <;> ((refine ai rfl ?_; (try dsimp only); (simp [*]; done)))) ?_ (by (exact fun _ h => h))
         (try dsimp only)
         done
    ·rintro _ hmeet; (try dsimp only at hmeet ⊢)
     refine Cd rfl (fun hc85 => ?_) (fun hc85 => ?_)
     ·(try simp only [sB] at hc85)
      refine Cs (Ka rfl (Nt (Ce (Xb ?_))))
      exact R1 rfl rfl (by rw [cx, if_neg (fun h => h hokR), if_pos (fun h : ny p => hc85 ⟨h.2.2.2.1, h.2.2.2.2⟩)]; rfl)
     ·(try simp only [sB] at hc85)
      have hg2 := Decidable.not_not.1 hc85
      have hgr : ny p := ⟨hg1.1, hg1.2.1, hg1.2.2, hg2.1, hg2.2⟩
      refine Ck (Xa (Cs ?_))
      refine Ku rfl (Oc rfl rfl (Kv fun w hS => fw (n := 2) (by omega))) ?_
      refine Ka rfl (Nt (Cq ?_))
      refine Cf [0, 1, 2, 3, 4, 5, 6, 7, 8] [] [1, 0, 0, 1, 0, 0, 0, 0, 0] (by kernel_rfl) (by kernel_rfl) rfl ?_
      refine Jv rfl rfl rfl rfl rfl (fun ext => Oc rfl rfl (Kv fun w hS => fw (n := 8) (by omega))) ?_
      refine Kj rfl (Fa (q := 11) rfl rfl u30 rfl rfl) (Kj rfl (Ld rfl rfl .tc u22) ?_)
      refine Jv rfl rfl rfl rfl rfl (fun ext => Oc rfl rfl (Kv fun w hS => n4 (a := ae 8) (b := p.attr))) ?_
      refine Kj rfl (Rm rfl rfl) (Kj rfl (Re rfl rfl rfl) (Kj rfl (Re rfl rfl rfl) (Kj rfl (Ra rfl rfl) (Kj rfl (Ra rfl rfl) ?_))))
      refine WJ.nil ?_
      refine Nt (Cq ?_)
      refine WC.joinP (σ := Unit) [(1, _), (7, _)] (fun gq => [(142, .bool (decide (¬ (2 ≤ val p.ch ∧ val p.ch ≤ val p.mn.1.2 ∧ 2 ≤ val p.sl ∧ 2 ≤ val p.sec ∧ val p.sec ≤ val p.mn.1.2 ∧ 2 ≤ val p.attr ∧ 8 * val p.attr ≤ val p.mn.1.2))))]) (fun gq => True) (S2 rfl rfl) ?_ ?_
      ·skip
       refine Cg (Kq rfl (Fa (q := 0) rfl rfl u30 rfl rfl) (Kq rfl (Fa (q := 0) rfl rfl u24 rfl rfl) (Kq rfl (Ld rfl rfl .tc u22) ?_)))
       refine Km rfl ?_
       refine Ku rfl (Oc rfl rfl (Kv fun w hS => bR (a := p.ch) (b := ae 2))) ?_
       refine Ns 98 rfl (v' := .bool (decide (val p.ch < 2))) (congrArg Value.bool (by rw [az hch h2B, af]; exact decide_eq_decide.2 (aw _ _))) ?_
       refine Km rfl ?_
       refine Nb 99 rfl (fun hg99 => ?_) (fun hg99 => ?_)
       ·(try simp only [sB] at hg99)
        refine Kt rfl (Kt rfl (Kt rfl (Kt rfl (Kt rfl (Kt rfl (Yp rfl (Km rfl (Kt rfl (Kt rfl (Kt rfl (Kt rfl (Kt rfl (Yp rfl (Km rfl (Kt rfl (Kt rfl (Kt rfl (Kt rfl (Yp rfl (Km rfl (Kt rfl (Kt rfl (Kt rfl (Kt rfl (Kt rfl (Yp rfl (Km rfl (Kt rfl (Kt rfl (Kt rfl (Kt rfl (Yp rfl (Km rfl (Kt rfl (Kt rfl (Yp rfl (Km rfl (Kt rfl (Kt rfl (Kt rfl (Kt rfl (Yp rfl (Nn ?_)))))))))))))))))))))))))))))))))))))))))))
        refine WX.joinP (()) (S2 rfl rfl) (by refine (Sc ?_ (S0 _)) <;> ((refine ai rfl ?_; (try dsimp only); (simp [*]; done)))) ?_ (by (exact fun _ h => h))
        (try dsimp only)
        done
       ·(try simp only [sB] at hg99)
        refine Kq rfl (Fa (q := 1) rfl rfl u26 rfl rfl) (Kq rfl (Ld rfl rfl .tc u22) ?_)
        refine Kq rfl (Fa (q := 0) rfl rfl u30 rfl rfl) (Kq rfl (Fa (q := 0) rfl rfl u24 rfl rfl) (Kq rfl (Ld rfl rfl .tc u22) ?_))
        refine Ku rfl (Oc rfl rfl (Kv fun w hS => bR (a := p.mn.1.2) (b := p.ch))) ?_
        refine Ns 105 rfl (v' := .bool (decide (val p.mn.1.2 < val p.ch))) (congrArg Value.bool (by rw [az hq hch]; exact decide_eq_decide.2 (aw _ _))) ?_
        refine Yq rfl (Km rfl ?_)
        refine Nb 107 rfl (fun hg107 => ?_) (fun hg107 => ?_)
        ·(try simp only [sB] at hg107)
         refine Kt rfl (Kt rfl (Kt rfl (Kt rfl (Kt rfl (Yp rfl (Km rfl (Kt rfl (Kt rfl (Kt rfl (Kt rfl (Yp rfl (Km rfl (Kt rfl (Kt rfl (Kt rfl (Kt rfl (Kt rfl (Yp rfl (Km rfl (Kt rfl (Kt rfl (Kt rfl (Kt rfl (Yp rfl (Km rfl (Kt rfl (Kt rfl (Yp rfl (Km rfl (Kt rfl (Kt rfl (Kt rfl (Kt rfl (Yp rfl (Nn ?_)))))))))))))))))))))))))))))))))))
         refine WX.joinP (()) (S2 rfl rfl) (by refine (Sc ?_ (S0 _)) <;> ((refine ai rfl ?_; (try dsimp only); (simp [*]; done)))) ?_ (by (exact fun _ h => h))
         (try dsimp only)
         done
        ·(try simp only [sB] at hg107)
         refine Kq rfl (Fa (q := 0) rfl rfl u30 rfl rfl) (Kq rfl (Fa (q := 1) rfl rfl u24 rfl rfl) (Kq rfl (Ld rfl rfl .tc u22) ?_))
         refine Km rfl ?_
         refine Ku rfl (Oc rfl rfl (Kv fun w hS => bR (a := p.sl) (b := ae 2))) ?_
         refine Ns 112 rfl (v' := .bool (decide (val p.sl < 2))) (congrArg Value.bool (by rw [az hsl h2B, af]; exact decide_eq_decide.2 (aw _ _))) ?_
         refine Yq rfl (Km rfl ?_)
         refine Nb 114 rfl (fun hg114 => ?_) (fun hg114 => ?_)
         ·(try simp only [sB] at hg114)
          refine Kt rfl (Kt rfl (Kt rfl (Kt rfl (Yp rfl (Km rfl (Kt rfl (Kt rfl (Kt rfl (Kt rfl (Kt rfl (Yp rfl (Km rfl (Kt rfl (Kt rfl (Kt rfl (Kt rfl (Yp rfl (Km rfl (Kt rfl (Kt rfl (Yp rfl (Km rfl (Kt rfl (Kt rfl (Kt rfl (Kt rfl (Yp rfl (Nn ?_))))))))))))))))))))))))))))
          refine WX.joinP (()) (S2 rfl rfl) (by refine (Sc ?_ (S0 _)) <;> ((refine ai rfl ?_; (try dsimp only); (simp [*]; done)))) ?_ (by (exact fun _ h => h))
          (try dsimp only)
          done
         ·(try simp only [sB] at hg114)
          refine Kq rfl (Fa (q := 10) rfl rfl u30 rfl rfl) (Kq rfl (Ld rfl rfl .tc u22) ?_)
          refine Km rfl ?_
          refine Ku rfl (Oc rfl rfl (Kv fun w hS => bR (a := p.sec) (b := ae 2))) ?_
          refine Ns 118 rfl (v' := .bool (decide (val p.sec < 2))) (congrArg Value.bool (by rw [az hse h2B, af]; exact decide_eq_decide.2 (aw _ _))) ?_
          refine Yq rfl (Km rfl ?_)
          refine Nb 120 rfl (fun hg120 => ?_) (fun hg120 => ?_)
          ·(try simp only [sB] at hg120)
           refine Kt rfl (Kt rfl (Kt rfl (Kt rfl (Kt rfl (Yp rfl (Km rfl (Kt rfl (Kt rfl (Kt rfl (Kt rfl (Yp rfl (Km rfl (Kt rfl (Kt rfl (Yp rfl (Km rfl (Kt rfl (Kt rfl (Kt rfl (Kt rfl (Yp rfl (Nn ?_))))))))))))))))))))))
           refine WX.joinP (()) (S2 rfl rfl) (by refine (Sc ?_ (S0 _)) <;> ((refine ai rfl ?_; (try dsimp only); (simp [*]; done)))) ?_ (by (exact fun _ h => h))
           (try dsimp only)
           done
          ·(try simp only [sB] at hg120)
           refine Kq rfl (Fa (q := 1) rfl rfl u26 rfl rfl) (Kq rfl (Ld rfl rfl .tc u22) ?_)
           refine Kq rfl (Fa (q := 10) rfl rfl u30 rfl rfl) (Kq rfl (Ld rfl rfl .tc u22) ?_)
           refine Ku rfl (Oc rfl rfl (Kv fun w hS => bR (a := p.mn.1.2) (b := p.sec))) ?_
           refine Ns 125 rfl (v' := .bool (decide (val p.mn.1.2 < val p.sec))) (congrArg Value.bool (by rw [az hq hse]; exact decide_eq_decide.2 (aw _ _))) ?_
           refine Yq rfl (Km rfl ?_)
           refine Nb 127 rfl (fun hg127 => ?_) (fun hg127 => ?_)
           ·(try simp only [sB] at hg127)
            refine Kt rfl (Kt rfl (Kt rfl (Kt rfl (Yp rfl (Km rfl (Kt rfl (Kt rfl (Yp rfl (Km rfl (Kt rfl (Kt rfl (Kt rfl (Kt rfl (Yp rfl (Nn ?_)))))))))))))))
            refine WX.joinP (()) (S2 rfl rfl) (by refine (Sc ?_ (S0 _)) <;> ((refine ai rfl ?_; (try dsimp only); (simp [*]; done)))) ?_ (by (exact fun _ h => h))
            (try dsimp only)
            done
           ·(try simp only [sB] at hg127)
            refine Kq rfl (Fa (q := 11) rfl rfl u30 rfl rfl) (Kq rfl (Ld rfl rfl .tc u22) ?_)
            refine Km rfl ?_
            refine Ku rfl (Oc rfl rfl (Kv fun w hS => bR (a := p.attr) (b := ae 2))) ?_
            refine Ns 131 rfl (v' := .bool (decide (val p.attr < 2))) (congrArg Value.bool (by rw [az hat h2B, af]; exact decide_eq_decide.2 (aw _ _))) ?_
            refine Yq rfl (Km rfl ?_)
            refine Nb 133 rfl (fun hg133 => ?_) (fun hg133 => ?_)
            ·(try simp only [sB] at hg133)
             refine Kt rfl (Kt rfl (Yp rfl (Km rfl (Kt rfl (Kt rfl (Kt rfl (Kt rfl (Yp rfl (Nn ?_)))))))))
             refine WX.joinP (()) (S2 rfl rfl) (by refine (Sc ?_ (S0 _)) <;> ((refine ai rfl ?_; (try dsimp only); (simp [*]; done)))) ?_ (by (exact fun _ h => h))
             (try dsimp only)
             done
            ·(try simp only [sB] at hg133)
             refine Km rfl (Yj rfl ?_)
             refine Ns 135 rfl (v' := .bool (decide (Big ≤ 8 * val p.attr))) (congrArg Value.bool (by rw [hmu]; split <;> simp <;> omega)) ?_
             refine Yq rfl (Km rfl ?_)
             refine Nb 137 rfl (fun hg137 => ?_) (fun hg137 => ?_)
             ·(try simp only [sB] at hg137)
              refine Kt rfl (Kt rfl (Kt rfl (Kt rfl (Yp rfl (Nn ?_)))))
              refine WX.joinP (()) (S2 rfl rfl) (by refine (Sc ?_ (S0 _)) <;> ((exact congrArg (fun b => some (Value.bool b)) (by symm; apply decide_eq_true; omega)))) ?_ (by (exact fun _ h => h))
              (try dsimp only)
              done
             ·(try simp only [sB] at hg137)
              refine Kq rfl (Fa (q := 1) rfl rfl u26 rfl rfl) (Kq rfl (Ld rfl rfl .tc u22) ?_)
              refine Km rfl ?_
              refine Ku rfl (Oc rfl rfl (Kv fun w hS => bR (a := p.mn.1.2) (b := (bH (ae 8) p.attr).1))) ?_
              refine Ns 141 rfl (v' := .bool (decide (val p.mn.1.2 < 8 * val p.attr))) (congrArg Value.bool (by rw [hmu, if_pos (by omega), az hq (au (by omega)), af]; exact decide_eq_decide.2 (aw _ _))) ?_
              refine Yq rfl (Nn ?_)
              refine WX.joinP (()) (S2 rfl rfl) (by refine (Sc ?_ (S0 _)) <;> ((refine ai rfl ?_; (try dsimp only); (exact decide_eq_decide.2 (by omega))))) ?_ (by (exact fun _ h => h))
              (try dsimp only)
              done
      ·rintro _ hmeet; (try dsimp only at hmeet ⊢)
       refine Cd rfl (fun hc142 => ?_) (fun hc142 => ?_)
       ·(try simp only [sB] at hc142)
        refine Cs (Ka rfl (Nt (Ce (Xb ?_))))
        exact R1 rfl rfl (by rw [cx, if_neg (fun h => h hokR), if_neg (fun h => h hgr), if_pos (fun h : na p => hc142 ⟨h.1 _ (by simp), h.2.2.1, h.1 _ (by simp), h.1 _ (by simp), h.2.2.2, h.1 _ (by simp), h.2.1⟩)]; rfl)
       ·(try simp only [sB] at hc142)
        obtain ⟨r1, r2, r3, r4, r5, r6, r7⟩ := Decidable.not_not.1 hc142
        refine Ck (Xa (Cq ?_))
        refine WC.joinP (σ := Unit) [] (fun gq => [(170, .bool (decide (¬ (2 ≤ val p.han ∧ 2 ≤ val p.lo ∧ 2 ≤ val p.sz ∧ 2 ≤ val p.bl ∧ 2 ≤ val p.msk))))]) (fun gq => True) (S0 _) ?_ ?_
        ·skip
         refine Cg (Kq rfl (Fa (q := 12) rfl rfl u30 rfl rfl) (Kq rfl (Ld rfl rfl .tc u22) ?_))
         refine Km rfl ?_
         refine Ku rfl (Oc rfl rfl (Kv fun w hS => bR (a := p.han) (b := ae 2))) ?_
         refine Ns 146 rfl (v' := .bool (decide (val p.han < 2))) (congrArg Value.bool (by rw [az hha h2B, af]; exact decide_eq_decide.2 (aw _ _))) ?_
         refine Km rfl ?_
         refine Nb 147 rfl (fun hg147 => ?_) (fun hg147 => ?_)
         ·(try simp only [sB] at hg147)
          refine Kt rfl (Kt rfl (Kt rfl (Kt rfl (Yp rfl (Km rfl (Kt rfl (Kt rfl (Kt rfl (Kt rfl (Yp rfl (Km rfl (Kt rfl (Kt rfl (Kt rfl (Kt rfl (Yp rfl (Km rfl (Kt rfl (Kt rfl (Kt rfl (Kt rfl (Yp rfl (Nn ?_)))))))))))))))))))))))
          refine WX.joinP (()) (S0 _) (by refine (Sc ?_ (S0 _)) <;> ((refine ai rfl ?_; (try dsimp only); (simp [*]; done)))) ?_ (by (exact fun _ h => h))
          (try dsimp only)
          done
         ·(try simp only [sB] at hg147)
          refine Kq rfl (Fa (q := 13) rfl rfl u30 rfl rfl) (Kq rfl (Ld rfl rfl .tc u22) ?_)
          refine Km rfl ?_
          refine Ku rfl (Oc rfl rfl (Kv fun w hS => bR (a := p.lo) (b := ae 2))) ?_
          refine Ns 151 rfl (v' := .bool (decide (val p.lo < 2))) (congrArg Value.bool (by rw [az hlo h2B, af]; exact decide_eq_decide.2 (aw _ _))) ?_
          refine Yq rfl (Km rfl ?_)
          refine Nb 153 rfl (fun hg153 => ?_) (fun hg153 => ?_)
          ·(try simp only [sB] at hg153)
           refine Kt rfl (Kt rfl (Kt rfl (Kt rfl (Yp rfl (Km rfl (Kt rfl (Kt rfl (Kt rfl (Kt rfl (Yp rfl (Km rfl (Kt rfl (Kt rfl (Kt rfl (Kt rfl (Yp rfl (Nn ?_)))))))))))))))))
           refine WX.joinP (()) (S0 _) (by refine (Sc ?_ (S0 _)) <;> ((refine ai rfl ?_; (try dsimp only); (simp [*]; done)))) ?_ (by (exact fun _ h => h))
           (try dsimp only)
           done
          ·(try simp only [sB] at hg153)
           refine Kq rfl (Fa (q := 14) rfl rfl u30 rfl rfl) (Kq rfl (Ld rfl rfl .tc u22) ?_)
           refine Km rfl ?_
           refine Ku rfl (Oc rfl rfl (Kv fun w hS => bR (a := p.sz) (b := ae 2))) ?_
           refine Ns 157 rfl (v' := .bool (decide (val p.sz < 2))) (congrArg Value.bool (by rw [az hsz h2B, af]; exact decide_eq_decide.2 (aw _ _))) ?_
           refine Yq rfl (Km rfl ?_)
           refine Nb 159 rfl (fun hg159 => ?_) (fun hg159 => ?_)
           ·(try simp only [sB] at hg159)
            refine Kt rfl (Kt rfl (Kt rfl (Kt rfl (Yp rfl (Km rfl (Kt rfl (Kt rfl (Kt rfl (Kt rfl (Yp rfl (Nn ?_)))))))))))
            refine WX.joinP (()) (S0 _) (by refine (Sc ?_ (S0 _)) <;> ((refine ai rfl ?_; (try dsimp only); (simp [*]; done)))) ?_ (by (exact fun _ h => h))
            (try dsimp only)
            done
           ·(try simp only [sB] at hg159)
            refine Kq rfl (Fa (q := 15) rfl rfl u30 rfl rfl) (Kq rfl (Ld rfl rfl .tc u22) ?_)
            refine Km rfl ?_
            refine Ku rfl (Oc rfl rfl (Kv fun w hS => bR (a := p.bl) (b := ae 2))) ?_
            refine Ns 163 rfl (v' := .bool (decide (val p.bl < 2))) (congrArg Value.bool (by rw [az hbl h2B, af]; exact decide_eq_decide.2 (aw _ _))) ?_
            refine Yq rfl (Km rfl ?_)
            refine Nb 165 rfl (fun hg165 => ?_) (fun hg165 => ?_)
            ·(try simp only [sB] at hg165)
             refine Kt rfl (Kt rfl (Kt rfl (Kt rfl (Yp rfl (Nn ?_)))))
             refine WX.joinP (()) (S0 _) (by refine (Sc ?_ (S0 _)) <;> ((refine ai rfl ?_; (try dsimp only); (simp [*]; done)))) ?_ (by (exact fun _ h => h))
             (try dsimp only)
             done
            ·(try simp only [sB] at hg165)
             refine Kq rfl (Fa (q := 16) rfl rfl u30 rfl rfl) (Kq rfl (Ld rfl rfl .tc u22) ?_)
             refine Km rfl ?_
             refine Ku rfl (Oc rfl rfl (Kv fun w hS => bR (a := p.msk) (b := ae 2))) ?_
             refine Ns 169 rfl (v' := .bool (decide (val p.msk < 2))) (congrArg Value.bool (by rw [az hmk h2B, af]; exact decide_eq_decide.2 (aw _ _))) ?_
             refine Yq rfl (Nn ?_)
             refine WX.joinP (()) (S0 _) (by refine (Sc ?_ (S0 _)) <;> ((refine ai rfl ?_; (try dsimp only); (exact decide_eq_decide.2 (by omega))))) ?_ (by (exact fun _ h => h))
             (try dsimp only)
             done
        ·rintro _ hmeet; (try dsimp only at hmeet ⊢)
         refine Cd rfl (fun hc170 => ?_) (fun hc170 => ?_)
         ·(try simp only [sB] at hc170)
          refine Cs (Ka rfl (Nt (Ce (Xb ?_))))
          exact R1 rfl rfl (by rw [cx, if_neg (fun h => h hokR), if_neg (fun h => h hgr), if_pos (fun h : na p => hc170 ⟨h.1 _ (by simp), h.1 _ (by simp), h.1 _ (by simp), h.1 _ (by simp), h.1 _ (by simp)⟩)]; rfl)
         ·(try simp only [sB] at hc170)
          obtain ⟨r8, r9, r10, r11, r12⟩ := Decidable.not_not.1 hc170
          have hrg : na p := ⟨fun x hx => by simp at hx; rcases hx with rfl | rfl | rfl | rfl | rfl | rfl | rfl | rfl | rfl <;> assumption, r7, r2, r5⟩
          refine Ck (Xa (Cs (Ka rfl (Nt (Ce ?_)))))
          exact R1 rfl rfl (by rw [cx, if_neg (fun h => h hokR), if_neg (fun h => h hgr), if_neg (fun h => h hrg)]; rfl)
theorem sI {k : IK} {a : Option Addr} {c : Nat} {w : World} {ok : Nat → Prop} (hF1 : (Fact.sl a (ao k.r)).holds ok w) (hl : k.r.length ≤ 100000) :
  Calls Tryz.prog 35 #[ikV k (.slice a k.r.length c)] w fun e w' => ∃ g : Rs, e = .returned (g.val (3 + k.r.length)) ∧ g.cap = 3 + k.r.length + g.sp.length ∧ St (fun _ => True) w [g.ent (ao ([k.z, k.u, k.h] ++ k.r)) 22] [] w' := by
 refine En [Fact.sl a (ao k.r)] [(0, ikV k (.slice a k.r.length c))] Tryz.func35 rfl Tryz.ntmps35 rfl (Ac rfl (An _)) (Fc (ah hF1) Fn) ?_
 refine Cs ?_
 refine Kh rfl (Oy rfl rfl) ?_
 intro b1
 refine Ka rfl (Nt (Cs (Kq rfl (Fa (q := 3) rfl rfl u33 rfl rfl) (Kq rfl (Ld rfl rfl .tc u22) ?_))))
 refine Kq rfl (Fa (q := 6) rfl rfl u33 rfl rfl) (Kq rfl (Ld rfl rfl .tc u22) ?_)
 refine Kq rfl (Fa (q := 7) rfl rfl u33 rfl rfl) (Kq rfl (Ld rfl rfl .tc u22) ?_)
 refine Kh rfl (aR rfl rfl u31 (by kernel_rfl : _ = some (some (.string (S [])), 1, 16)) rfl (by simp only [List.map]; rfl) rfl rfl ?_ (by decide)) ?_
 ·simp [Value.cells]
 intro b10
 refine Ka rfl (Nt (Cs (Km rfl (Kq rfl (Fa (q := 5) rfl rfl u33 rfl rfl) (Kq rfl (Ld rfl rfl .tc u31) ?_)))))
 refine Kh rfl (zi rfl u31 (by kernel_rfl : _ = some (some (.string (S [])), 1, 16)) rfl .tc rfl rfl (fun w hS => by (exact hS.sl)) (by simp) (by (refine ⟨?_, ?_, ?_, ?_⟩ <;> (try simp) <;> omega)) (by (simp [Value.oneCell']; done))) ?_
 rintro ⟨o14, c14, s14⟩
 refine WL.pu ?_
 intro hg14; (try dsimp only at hg14 ⊢)
 refine Ka rfl (Nt (Ce ?_))
 exact Rn rfl (.tmp rfl .nil) fun w' hS => ⟨⟨o14, c14, s14⟩, by simp [Rs.val, tup], by simpa using hg14, by show St _ _ [⟨o14, [Value.string (S k.z), .string (S k.u), .string (S k.h)] ++ ao k.r ++ s14, _⟩] _ _; exact aq _ hS⟩
theorem yM {l : List Bs} {a : Option Addr} {c : Nat} {fk : FuncId} {cs : Array Value} {p : Bs → Bool} {w : World} {ok : Nat → Prop} (hF1 : (Fact.sl a (ao l)).holds ok w) (hl : l.length ≤ 10000000) (hgo : eE Tryz.prog fk = true) (hfn : ∀ x ∈ l, ∀ w', Below w.heap.size w w' → Calls Tryz.prog fk (#[.string (S x)] ++ cs) w' fun e w2 => e = .returned (.bool (p x)) ∧ Below w'.heap.size w' w2) :
  Cw 81 #[.slice a l.length c, .func (.func fk) #[] cs] w (.int .i64 (ixP p l)) := by
 refine En [Fact.sl a (ao l)] [(0, .slice a l.length c), (1, .func (.func fk) #[] cs)] Tryz.func81 rfl Tryz.ntmps81 rfl (Ac rfl (Ac rfl (An _))) (Fc (ah hF1) Fn) ?_
 refine Cs (Ka rfl (Nt (Cq (Cs (Km rfl (Yo rfl u31 (Km rfl (Nt (Cb ?_)))))))))
 refine Lp (σ := Nat) [(0, _), (1, _), (7, _)] (fun gq => [(8, .int .i64 (gq : Int))]) (fun gq => gq ≤ l.length ∧ ∀ x ∈ l.take gq, p x = false) (fun gq => l.length - gq) (0) (S3 rfl rfl rfl) (S1 rfl) (by (try dsimp only); exact ⟨Nat.zero_le _, by simp⟩) ?_
 rintro i hinv1; (try dsimp only at hinv1 ⊢)
 obtain ⟨hi, hok⟩ := hinv1
 refine Cs (Yl rfl (Nt (Cq ?_)))
 refine Cd rfl (fun hc9 => ?_) (fun hc9 => ?_)
 ·(try simp only [sB] at hc9)
  have hil : i < l.length := by omega
  refine Ck (Xa (Cq (Cb (Cs (Km rfl (Ka rfl (Nt (Cs (Km rfl (Km rfl (Km rfl ?_)))))))))))
  refine Kq rfl (Ib rfl rfl rfl u31 (by omega) (by (rw [List.length_map]; omega))) ?_
  refine Kq rfl (ldm rfl rfl u22 rfl (by assumption)) ?_
  refine Ku rfl (aL rfl rfl rfl hgo (iM _ _) (Kv fun w hS => hfn (l.getD i default) (ap _ _ hil) w hS.below)) ?_
  refine Nt ?_
  refine Cd rfl (fun hc16 => ?_) (fun hc16 => ?_)
  ·(try simp only [sB] at hc16)
   refine Cs (Km rfl (Ka rfl (Nt (Ce (Xf (Xb (Xb (Xf (Xb ?_)))))))))
   exact R1 rfl rfl (by rw [iJ hil hok (by simpa using hc16)]; rfl)
  ·(try simp only [sB] at hc16)
   refine Ck (Xd (Xa (Cg (Kq rfl (Rz rfl rfl rfl (by omega)) (Km rfl (Nn ?_))))))
   refine Ly (i + 1) (by (try dsimp only); omega) (S3 rfl rfl rfl) (by refine (Sc ?_ (S0 _)) <;> (rfl)) ?_ (by (exact fun _ h => h))
   (try dsimp only)
   exact ⟨hil, ay hil hok (by simpa using hc16)⟩
 ·(try simp only [sB] at hc9)
  refine Cx (Xc (Xc (Xe ?_)))
  obtain rfl : i = l.length := by omega
  rw [List.take_length] at hok
  refine Xa (Cs (Ka rfl (Nt (Ce ?_))))
  exact R1 rfl rfl (by rw [ew hok]; rfl)
theorem wU {l : List Bs} {a : Option Addr} {c : Nat} {fk : FuncId} {cs : Array Value} {p : Bs → Bool} {w : World} {ok : Nat → Prop} (hF1 : (Fact.sl a (ao l)).holds ok w) (hl : l.length ≤ 10000000) (hgo : eE Tryz.prog fk = true) (hfn : ∀ x ∈ l, ∀ w', Below w.heap.size w w' → Calls Tryz.prog fk (#[.string (S x)] ++ cs) w' fun e w2 => e = .returned (.bool (p x)) ∧ Below w'.heap.size w' w2) :
  Cw 34 #[.slice a l.length c, .func (.func fk) #[] cs] w (.bool (l.any p)) := by
 refine En [Fact.sl a (ao l)] [(0, .slice a l.length c), (1, .func (.func fk) #[] cs)] Tryz.func34 rfl Tryz.ntmps34 rfl (Ac rfl (Ac rfl (An _))) (Fc (ah hF1) Fn) ?_
 refine Cs (Ka rfl (Nt (Cs (Km rfl (Km rfl ?_)))))
 refine Ku rfl (Oc rfl rfl (Kv fun w hS => yM (l := l) (a := a) (c := c) (fk := fk) (cs := cs) (p := p) (w := w) hS.sl hl hgo (fun x hx w' hb => hfn x hx w' (hS.below.trans (hb.mono hS.below.size))))) ?_
 refine Yh rfl (Ka rfl (Nt (Ce ?_)))
 exact R1 rfl rfl (by rw [dg]; rfl)
theorem tA {x : Bs} {w : World} :
  Cw 36 #[.string (S x)] w (.bool (decide ((x.length : Int) > 8))) := by
 refine En [] [(0, .string (S x))] Tryz.func36 rfl Tryz.ntmps36 rfl (Ac rfl (An _)) Fn ?_
 refine Cs (Ka rfl (Nt (Cs (Km rfl (Yn rfl u22 (Yg rfl (Ka rfl (Nt (Ce ?_)))))))))
 exact R1 rfl rfl (by rfl)
def fL (p : PR) (k : IK) : List Bs := gt p ++ [k.g.1, k.g.2, k.s] ++ ([k.z, k.u, k.h] ++ k.r)
theorem tD (p : PR) (k : IK) : (fL p k).length = 23 + k.r.length := by simp [fL, gt]; omega
theorem uG (p : PR) (k : IK) : ao (fL p k) = ao (gt p) ++ [.string (S k.g.1), .string (S k.g.2), .string (S k.s)] ++ ao ([k.z, k.u, k.h] ++ k.r) := by rw [fL, ← fp, ← fp]; rfl
def kt (p : PR) (k : IK) : Bool := decide ((k.r.length : Int) ≤ 8) && (decide ((k.name.length : Int) ≤ 60) && !((fL p k).any fun x => decide ((x.length : Int) > 8)))
theorem vT {p : PR} {k : IK} {a : Option Addr} {c : Nat} {w : World} {ok : Nat → Prop} (hF1 : (Fact.sl a (ao k.r)).holds ok w) (hl : k.r.length ≤ 1048576) :
  Cw 10 #[prV p, ikV k (.slice a k.r.length c)] w (.bool (kt p k)) := by
 refine En [Fact.sl a (ao k.r)] [(0, prV p), (1, ikV k (.slice a k.r.length c))] Tryz.func10 rfl Tryz.ntmps10 rfl (Ac rfl (Ac rfl (An _))) (Fc (ah hF1) Fn) ?_
 refine Cs ?_
 refine Kh rfl (Oy rfl rfl) ?_
 intro b2
 refine Kh rfl (Oy rfl rfl) ?_
 intro b3
 refine Ka rfl (Nt (Cq ?_))
 refine Cf [0, 1, 2, 3, 4, 5, 6, 7, 8, 9, 10, 11, 12] [] [0, 1, 0, 0, 0, 0, 0, 0, 0, 0, 3, 1, 0] (by kernel_rfl) (by kernel_rfl) rfl ?_
 refine Kj rfl (lda rfl rfl .tc u30 rfl ?_) ?_
 ·kernel_rfl
 refine Jg rfl rfl rfl rfl rfl (fun ext => Oc rfl rfl (ta fun w hS => so (p := p))) ?_
 intro g7 hg7; (try dsimp only at hg7 ⊢)
 refine Kj rfl (Fa (q := 1) rfl rfl u33 rfl rfl) (Kj rfl (Fa (q := 1) rfl rfl u26 rfl rfl) (Kj rfl (Ld rfl rfl .tc u22) ?_))
 refine Kj rfl (Fa (q := 1) rfl rfl u33 rfl rfl) (Kj rfl (Fa (q := 2) rfl rfl u26 rfl rfl) (Kj rfl (Ld rfl rfl .tc u22) ?_))
 refine Kj rfl (Fa (q := 4) rfl rfl u33 rfl rfl) (Kj rfl (Ld rfl rfl .tc u22) ?_)
 refine Jf rfl rfl rfl rfl rfl (kp rfl rfl u31 (by kernel_rfl : _ = some (some (.string (S [])), 1, 16)) rfl (by simp only [List.map]; rfl) rfl rfl ?_ (by decide)) ?_
 ·simp [Value.cells]
 intro b16
 refine Jg rfl rfl rfl rfl rfl (nK rfl u31 (by kernel_rfl : _ = some (some (.string (S [])), 1, 16)) rfl .tc rfl rfl (fun ext w hS => by (exact hS.os)) (by rfl) (by refine ⟨?_, ?_, ?_, ?_⟩ <;> (try simp [gt]) <;> omega) (by (simp [Value.oneCell']; done))) ?_
 rintro ⟨o17, c17, s17⟩ hg17; (try dsimp only at hg17 ⊢)
 refine Kj rfl (Ra rfl rfl) ?_
 refine WJ.nil ?_
 refine Nt (Cs (Kq rfl (Fa (q := 5) rfl rfl u33 rfl rfl) (Kq rfl (Ld rfl rfl .tc u31) ?_)))
 refine Yo rfl u31 (Ym rfl (Km rfl ?_))
 refine Nb 22 rfl (fun hg22 => ?_) (fun hg22 => ?_)
 ·(try simp only [sB] at hg22)
  refine Kq rfl (Fa (q := 0) rfl rfl u33 rfl rfl) (Kq rfl (Ld rfl rfl .tc u9) ?_)
  refine Yn rfl u9 (Ym rfl (Yp rfl (Km rfl ?_)))
  refine Nb 28 rfl (fun hg28 => ?_) (fun hg28 => ?_)
  ·(try simp only [sB] at hg28)
   refine Km rfl ?_
   refine Kq rfl (lda rfl rfl .tc u33 rfl ?_) ?_
   ·kernel_rfl
   refine Kh rfl (Oc rfl rfl (f8 fun w hS => sI (k := k) (by (exact hS.sl)) (by omega))) ?_
   intro g31
   refine WL.pu ?_
   intro hg31; (try dsimp only at hg31 ⊢)
   refine Kh rfl (oR rfl u31 (by kernel_rfl : _ = some (some (.string (S [])), 1, 16)) rfl .tc rfl rfl (fun w hS => by (exact hS.sl)) (by simp; omega) (by refine ⟨?_, ?_, ?_, ?_⟩ <;> (try simp [gt]) <;> omega) (by (simp [Value.oneCell']; done))) ?_
   rintro ⟨o32, c32, s32⟩
   refine WL.pu ?_
   intro hg32; (try dsimp only at hg32 ⊢)
   refine Ns 32 rfl (v' := .slice (o32.map fun b => ⟨b, 0, none⟩) (fL p k).length c32) (by rw [tD]; congr 1; omega) ?_
   refine Ku rfl (Oc rfl rfl (Kv fun w hS => wU (l := fL p k) (a := o32.map fun b => ⟨b, 0, none⟩) (c := c32) (fk := 36) (cs := #[]) (p := fun x => decide ((x.length : Int) > 8)) (w := w) (by rw [uG]; exact hS.oc) (by rw [tD]; omega) (by kernel_rfl) (fun x hx w' hb => tA (x := x)))) ?_
   refine Yt rfl (Yp rfl (Ka rfl (Nt (Ce ?_))))
   exact R1 rfl rfl (by (rw [kt, decide_eq_true hg22, decide_eq_true hg28, Bool.true_and, Bool.true_and]; rfl))
  ·(try simp only [sB] at hg28)
   refine Kt rfl (Kt rfl (Kt rfl (Kt rfl (Kt rfl (Kt rfl (Yq rfl (Ka rfl (Nt (Ce ?_)))))))))
   exact R1 rfl rfl (by (rw [kt, decide_eq_false (show ¬ (k.name.length : Int) ≤ 60 by omega), Bool.false_and, Bool.and_false]; rfl))
 ·(try simp only [sB] at hg22)
  refine Kt rfl (Kt rfl (Kt rfl (Kt rfl (Yq rfl (Km rfl (Kt rfl (Kt rfl (Kt rfl (Kt rfl (Kt rfl (Kt rfl (Yq rfl (Ka rfl (Nt (Ce ?_)))))))))))))))
  exact R1 rfl rfl (by (rw [kt, decide_eq_false (show ¬ (k.r.length : Int) ≤ 8 by omega)]; rfl))
theorem nY {x : Bs} {w : World} :
  Cw 37 #[.string (S x)] w (.bool (decide ((x.length : Int) > 20))) := by
 refine En [] [(0, .string (S x))] Tryz.func37 rfl Tryz.ntmps37 rfl (Ac rfl (An _)) Fn ?_
 refine Cs (Ka rfl (Nt (Cs (Km rfl (Yn rfl u22 (Yg rfl (Ka rfl (Nt (Ce ?_)))))))))
 exact R1 rfl rfl (by rfl)
structure CS where
 sg : SG
 aa : Bs
 wv : Zs
 ms : List Bs
 d : List Int
 vs : List Bs
 ws : List Zs
 t : Tp
abbrev csC (q : CS) (m d v z x : Value) : List Value := [.string (S q.sg.a), .string (S q.sg.e), .string (S q.sg.v), .string (S q.aa), .bool q.wv.1, .string (S q.wv.2), m, d, v, z, x, .string (S q.t.seed), .int .i64 q.t.at_]
abbrev csV (q : CS) (m d v z x : Value) : Value := .agg #[.string (S q.sg.a), .string (S q.sg.e), .string (S q.sg.v), .string (S q.aa), .bool q.wv.1, .string (S q.wv.2), m, d, v, z, x, .string (S q.t.seed), .int .i64 q.t.at_]
abbrev zFs (w : World) (x : Zs) : Prop := x.2.length ≤ 140737488351232
def smL (q : CS) (i : Nat) : List Bs := [q.sg.a, q.sg.e, q.sg.v, q.aa, q.wv.2] ++ q.ms ++ q.vs ++ q.t.vals ++ (q.ws.take i).map (·.2)
theorem jm (q : CS) (i : Nat) (h : i ≤ q.ws.length) : (smL q i).length = 5 + q.ms.length + q.vs.length + q.t.vals.length + i := by simp [smL]; omega
theorem uJ {q : CS} {i : Nat} (h : i < q.ws.length) : smL q (i + 1) = smL q i ++ [(q.ws.getD i default).2] := by
 rw [smL, smL, oY h, List.map_append, ← List.append_assoc]; rfl
theorem rU {q : CS} {sp : List Value} : ao (smL q 0) ++ sp = [.string (S q.sg.a), .string (S q.sg.e), .string (S q.sg.v), .string (S q.aa), .string (S q.wv.2)] ++ ao q.ms ++ ao q.vs ++ ao q.t.vals ++ sp := by simp [smL, ao]
abbrev qb (x : Bs) : Bool := decide ((x.length : Int) > 20)
def fT (q : CS) : Prop := (q.ms.length : Int) ≤ 20 ∧ (q.d.length : Int) ≤ 20 ∧ (q.vs.length : Int) ≤ 20 ∧ (q.ws.length : Int) ≤ 20 ∧ (q.t.vals.length : Int) ≤ 20 ∧ (q.t.seed.length : Int) ≤ 60 ∧ (smL q q.ws.length).any qb = false
instance (q : CS) : Decidable (fT q) := inferInstanceAs (Decidable (_ ∧ _))
abbrev sm6 (q : CS) : Prop := (q.ms.length : Int) ≤ 20 ∧ (q.d.length : Int) ≤ 20 ∧ (q.vs.length : Int) ≤ 20 ∧ (q.ws.length : Int) ≤ 20 ∧ (q.t.vals.length : Int) ≤ 20 ∧ (q.t.seed.length : Int) ≤ 60
theorem zu {q : CS} (h : sm6 q) : Ending.returned (.bool (!(smL q q.ws.length).any qb)) = Ending.returned (.bool (decide (fT q))) := by
 obtain ⟨h1, h2, h3, h4, h5, h6⟩ := h
 cases h7 : (smL q q.ws.length).any qb <;> simp only [fT, h1, h2, h3, h4, h5, h6, h7, true_and] <;> rfl
theorem qt {q : CS} (h : ¬ sm6 q) : Ending.returned (.bool false) = Ending.returned (.bool (decide (fT q))) := by
 rw [decide_eq_false fun g => h ⟨g.1, g.2.1, g.2.2.1, g.2.2.2.1, g.2.2.2.2.1, g.2.2.2.2.2.1⟩]
theorem qs {q : CS} {ma da va za xa : Option Addr} {mc dc vc zc' xc : Nat} {w : World} {ok : Nat → Prop} (hF1 : (Fact.sl ma (ao q.ms)).holds ok w) (hF2 : (Fact.sl da (dW q.d)).holds ok w) (hF3 : (Fact.sl va (ao q.vs)).holds ok w) (hF4 : (Fact.sl za (aW q.ws)).holds ok w) (hF5 : (Fact.sl xa (ao q.t.vals)).holds ok w) (hm : q.ms.length ≤ 1048576) (hd : q.d.length ≤ 1048576) (hv : q.vs.length ≤ 1048576) (hz : q.ws.length ≤ 1048576) (hx : q.t.vals.length ≤ 1048576) :
  Cw 11 #[csV q (.slice ma q.ms.length mc) (.slice da q.d.length dc) (.slice va q.vs.length vc) (.slice za q.ws.length zc') (.slice xa q.t.vals.length xc)] w (.bool (decide (fT q))) := by
 refine En [Fact.sl ma (ao q.ms), Fact.sl da (dW q.d), Fact.sl va (ao q.vs), Fact.sl za (aW q.ws), Fact.sl xa (ao q.t.vals)] [(0, csV q (.slice ma q.ms.length mc) (.slice da q.d.length dc) (.slice va q.vs.length vc) (.slice za q.ws.length zc') (.slice xa q.t.vals.length xc))] Tryz.func11 rfl Tryz.ntmps11 rfl (Ac rfl (An _)) (Fc (ah hF1) (Fc (ah hF2) (Fc (ah hF3) (Fc (ah hF4) (Fc (ah hF5) Fn))))) ?_
 refine Cs ?_
 refine Kh rfl (Oy rfl rfl) ?_
 intro b1
 refine Ka rfl (Nt (Cs (Kq rfl (Fa (q := 0) rfl rfl u43 rfl rfl) (Kq rfl (Fa (q := 0) rfl rfl u35 rfl rfl) (Kq rfl (Ld rfl rfl .tc u22) ?_)))))
 refine Kq rfl (Fa (q := 0) rfl rfl u43 rfl rfl) (Kq rfl (Fa (q := 1) rfl rfl u35 rfl rfl) (Kq rfl (Ld rfl rfl .tc u22) ?_))
 refine Kq rfl (Fa (q := 0) rfl rfl u43 rfl rfl) (Kq rfl (Fa (q := 2) rfl rfl u35 rfl rfl) (Kq rfl (Ld rfl rfl .tc u22) ?_))
 refine Kq rfl (Fa (q := 3) rfl rfl u43 rfl rfl) (Kq rfl (Ld rfl rfl .tc u22) ?_)
 refine Kq rfl (Fa (q := 4) rfl rfl u43 rfl rfl) (Kq rfl (Fa (q := 5) rfl rfl u37 rfl rfl) (Kq rfl (Ld rfl rfl .tc u22) ?_))
 refine Kh rfl (aR rfl rfl u31 (by kernel_rfl : _ = some (some (.string (S [])), 1, 16)) rfl (by simp only [List.map]; rfl) rfl rfl ?_ (by decide)) ?_
 ·simp [Value.cells]
 intro b20
 refine Ka rfl (Nt (Cq ?_))
 refine WC.free (K := [⟨some b1, csC q (.slice ma q.ms.length mc) (.slice da q.d.length dc) (.slice va q.vs.length vc) (.slice za q.ws.length zc') (.slice xa q.t.vals.length xc), 43⟩]) (fs0 := []) [0, 1, 2, 3, 4, 5, 6, 7, 8, 9, 10, 11] [] [0, 0, 0, 1, 0, 0, 1, 0, 0, 0, 1, 0] (by kernel_rfl) (by kernel_rfl) rfl ?_
 refine Kj rfl (Rm rfl rfl) (Kj rfl (Fa (q := 6) rfl rfl u43 rfl rfl) (Kj rfl (Ld rfl rfl .tc u31) ?_))
 refine Jg rfl rfl rfl rfl rfl (zh rfl u31 (by kernel_rfl : _ = some (some (.string (S [])), 1, 16)) rfl .tc rfl rfl (fun ext w hS => by (exact hS.sl)) (by simp) (by (refine ⟨?_, ?_, ?_, ?_⟩ <;> (try simp) <;> omega)) (by (simp [Value.oneCell']; done))) ?_
 rintro ⟨o24, c24, s24⟩ hg24; (try dsimp only at hg24 ⊢)
 refine Kj rfl (Fa (q := 8) rfl rfl u43 rfl rfl) (Kj rfl (Ld rfl rfl .tc u31) ?_)
 refine Jg rfl rfl rfl rfl rfl (nK rfl u31 (by kernel_rfl : _ = some (some (.string (S [])), 1, 16)) rfl .tc rfl rfl (fun ext w hS => by (exact hS.sl)) (by simp) (by (refine ⟨?_, ?_, ?_, ?_⟩ <;> (try simp) <;> omega)) (by (simp [Value.oneCell']; done))) ?_
 rintro ⟨o27, c27, s27⟩ hg27; (try dsimp only at hg27 ⊢)
 refine Kj rfl (Fa (q := 10) rfl rfl u43 rfl rfl) (Kj rfl (Fa (q := 10) rfl rfl u41 rfl rfl) (Kj rfl (Ld rfl rfl .tc u31) ?_))
 refine Jg rfl rfl rfl rfl rfl (nK rfl u31 (by kernel_rfl : _ = some (some (.string (S [])), 1, 16)) rfl .tc rfl rfl (fun ext w hS => by (exact hS.sl)) (by simp) (by (refine ⟨?_, ?_, ?_, ?_⟩ <;> (try simp) <;> omega)) (by (simp [Value.oneCell']; done))) ?_
 rintro ⟨o31, c31, s31⟩ hg31; (try dsimp only at hg31 ⊢)
 refine Kj rfl (Ra rfl rfl) ?_
 refine WJ.nil ?_
 refine Nt (Cq (Cs ?_))
 have hs0 := jm q 0 (Nat.zero_le _)
 refine Ns 3 rfl (v' := .slice (o31.map fun b => ⟨b, 0, none⟩) (smL q 0).length c31) (by rw [hs0]; rfl) ?_
 refine Kq rfl (Fa (q := 9) rfl rfl u43 rfl rfl) (Kq rfl (Ld rfl rfl .tc u39) ?_)
 refine Yo rfl u39 (Km rfl (Nt (Cb ?_)))
 refine Lo (σ := Nat × (Option Nat) × Nat × (List Value)) [(1, _), (33, _), (34, _)] (fun gq => [(3, .slice (gq.2.1.map fun b => ⟨b, 0, none⟩) (smL q gq.1).length gq.2.2.1), (35, .int .i64 (gq.1 : Int))]) (fun gq => gq.1 ≤ q.ws.length ∧ gq.2.2.1 = (smL q gq.1).length + gq.2.2.2.length) (fun gq => q.ws.length - gq.1) (fun gq => [⟨gq.2.1, ao (smL q gq.1) ++ gq.2.2.2, 22⟩, ⟨some b1, csC q (.slice ma q.ms.length mc) (.slice da q.d.length dc) (.slice va q.vs.length vc) (.slice za q.ws.length zc') (.slice xa q.t.vals.length xc), 43⟩]) (fun gq => [Fact.sl ma (ao q.ms), Fact.sl da (dW q.d), Fact.sl va (ao q.vs), Fact.sl za (aW q.ws), Fact.sl xa (ao q.t.vals)]) (0, o31, c31, s31) (S3 rfl rfl rfl) (S2 rfl rfl) (by (try dsimp only); exact ⟨Nat.zero_le _, by omega⟩) (by exact fun w h => by rw [rU]; exact aq _ h) ?_
 rintro ⟨i, o, cp, sp⟩ hinv1; (try dsimp only at hinv1 ⊢)
 obtain ⟨hi, hcp⟩ := hinv1
 refine Cs (Yl rfl (Nt (Cq ?_)))
 refine Cd rfl (fun hc36 => ?_) (fun hc36 => ?_)
 ·(try simp only [sB] at hc36)
  have hil : i < q.ws.length := by omega
  have hsl := jm q i hi
  have hsl' := jm q (i + 1) hil
  refine Ck (Xa (Cq (Cb (Cs ?_))))
  refine Kq rfl (Ia rfl rfl rfl u39 (by kernel_rfl : _ = some 2) (by omega) (by (rw [aj _ _ 2 (fun _ => rfl)]; omega))) ?_
  refine Kq rfl (dC _ rfl rfl u37 rfl (by kernel_rfl : _ = some 2) (fun _ => rfl) (by decide) rfl (by assumption)) ?_
  refine Kh rfl (Oz [.bool false, .string (S [])] rfl) ?_
  intro b5
  refine Nu rfl rfl (Sa rfl rfl rfl .tc) ?_
  refine Nt (Cg (Km rfl (Kq rfl (Fa (q := 1) rfl rfl u37 rfl rfl) (Kq rfl (Ld rfl rfl .tc u22) ?_))))
  refine Kh rfl (aR rfl rfl u31 (by kernel_rfl : _ = some (some (.string (S [])), 1, 16)) rfl (by simp only [List.map]; rfl) rfl rfl ?_ (by decide)) ?_
  ·simp [Value.cells]
  intro b42
  refine Kh rfl (oR rfl u31 (by kernel_rfl : _ = some (some (.string (S [])), 1, 16)) rfl .tc rfl rfl (fun w hS => by (exact hS.os)) (by rfl) (by (refine ⟨by simp, by omega, by omega, by omega⟩)) (by (simp [Value.oneCell']; done))) ?_
  rintro ⟨o43, c43, s43⟩
  refine WL.pu ?_
  intro hg43; (try dsimp only at hg43 ⊢)
  refine Ns 43 rfl (v' := .slice (o43.map fun b => ⟨b, 0, none⟩) (smL q (i + 1)).length c43) (by rw [hsl']; congr 1; omega) ?_
  refine Ka rfl (Nn (Xd (Xa (Cg (Kq rfl (Rz rfl rfl rfl (by omega)) (Km rfl (Nn ?_)))))))
  refine Lx ((i + 1, o43, c43, s43)) (by (try dsimp only); omega) (S3 rfl rfl rfl) (by refine (Sc ?_ (Sc ?_ (S0 _))) <;> (rfl)) ?_ (by exact fun w h => by dsimp only; rw [uJ hil]; simp only [List.map_append, List.map_cons, List.map_nil]; exact aq _ h)
  (try dsimp only)
  exact ⟨hil, by omega⟩
 ·(try simp only [sB] at hc36)
  refine Cx (Xc (Xc (Xe ?_)))
  obtain rfl : i = q.ws.length := by omega
  have hsl := jm q q.ws.length (Nat.le_refl _)
  refine Xa (Cs (Kq rfl (Fa (q := 6) rfl rfl u43 rfl rfl) (Kq rfl (Ld rfl rfl .tc u31) ?_)))
  refine Yo rfl u31 (Ym rfl (Km rfl ?_))
  refine Nb 49 rfl (fun hg49 => ?_) (fun hg49 => ?_)
  ·(try simp only [sB] at hg49)
   refine Kq rfl (Fa (q := 7) rfl rfl u43 rfl rfl) (Kq rfl (Ld rfl rfl .tc u38) ?_)
   refine Yo rfl u38 (Ym rfl (Yp rfl (Km rfl ?_)))
   refine Nb 55 rfl (fun hg55 => ?_) (fun hg55 => ?_)
   ·(try simp only [sB] at hg55)
    refine Kq rfl (Fa (q := 8) rfl rfl u43 rfl rfl) (Kq rfl (Ld rfl rfl .tc u31) ?_)
    refine Yo rfl u31 (Ym rfl (Yp rfl (Km rfl ?_)))
    refine Nb 61 rfl (fun hg61 => ?_) (fun hg61 => ?_)
    ·(try simp only [sB] at hg61)
     refine Kq rfl (Fa (q := 9) rfl rfl u43 rfl rfl) (Kq rfl (Ld rfl rfl .tc u39) ?_)
     refine Yo rfl u39 (Ym rfl (Yp rfl (Km rfl ?_)))
     refine Nb 67 rfl (fun hg67 => ?_) (fun hg67 => ?_)
     ·(try simp only [sB] at hg67)
      refine Kq rfl (Fa (q := 10) rfl rfl u43 rfl rfl) (Kq rfl (Fa (q := 10) rfl rfl u41 rfl rfl) (Kq rfl (Ld rfl rfl .tc u31) ?_))
      refine Yo rfl u31 (Ym rfl (Yp rfl (Km rfl ?_)))
      refine Nb 74 rfl (fun hg74 => ?_) (fun hg74 => ?_)
      ·(try simp only [sB] at hg74)
       refine Kq rfl (Fa (q := 10) rfl rfl u43 rfl rfl) (Kq rfl (Fa (q := 11) rfl rfl u41 rfl rfl) (Kq rfl (Ld rfl rfl .tc u9) ?_))
       refine Yn rfl u9 (Ym rfl (Yp rfl (Km rfl ?_)))
       refine Nb 81 rfl (fun hg81 => ?_) (fun hg81 => ?_)
       ·(try simp only [sB] at hg81)
        refine Km rfl ?_
        refine Ku rfl (Oc rfl rfl (Kv fun w hS => wU (l := smL q q.ws.length) (a := o.map fun b => ⟨b, 0, none⟩) (c := cp) (fk := 37) (cs := #[]) (p := qb) (w := w) hS.oc (by omega) (by kernel_rfl) (fun x hx w' hb => nY (x := x)))) ?_
        refine Yt rfl (Yp rfl (Ka rfl (Nt (Ce ?_))))
        exact R1 rfl rfl (by (exact zu (by omega)))
       ·(try simp only [sB] at hg81)
        refine Kt rfl (Kt rfl (Kt rfl (Yq rfl (Ka rfl (Nt (Ce ?_))))))
        exact R1 rfl rfl (by (exact qt (by omega)))
      ·(try simp only [sB] at hg74)
       refine Kt rfl (Kt rfl (Kt rfl (Kt rfl (Kt rfl (Yq rfl (Km rfl (Kt rfl (Kt rfl (Kt rfl (Yq rfl (Ka rfl (Nt (Ce ?_)))))))))))))
       exact R1 rfl rfl (by (exact qt (by omega)))
     ·(try simp only [sB] at hg67)
      refine Kt rfl (Kt rfl (Kt rfl (Kt rfl (Kt rfl (Yq rfl (Km rfl (Kt rfl (Kt rfl (Kt rfl (Kt rfl (Kt rfl (Yq rfl (Km rfl (Kt rfl (Kt rfl (Kt rfl (Yq rfl (Ka rfl (Nt (Ce ?_))))))))))))))))))))
      exact R1 rfl rfl (by (exact qt (by omega)))
    ·(try simp only [sB] at hg61)
     refine Kt rfl (Kt rfl (Kt rfl (Kt rfl (Yq rfl (Km rfl (Kt rfl (Kt rfl (Kt rfl (Kt rfl (Kt rfl (Yq rfl (Km rfl (Kt rfl (Kt rfl (Kt rfl (Kt rfl (Kt rfl (Yq rfl (Km rfl (Kt rfl (Kt rfl (Kt rfl (Yq rfl (Ka rfl (Nt (Ce ?_))))))))))))))))))))))))))
     exact R1 rfl rfl (by (exact qt (by omega)))
   ·(try simp only [sB] at hg55)
    refine Kt rfl (Kt rfl (Kt rfl (Kt rfl (Yq rfl (Km rfl (Kt rfl (Kt rfl (Kt rfl (Kt rfl (Yq rfl (Km rfl (Kt rfl (Kt rfl (Kt rfl (Kt rfl (Kt rfl (Yq rfl (Km rfl (Kt rfl (Kt rfl (Kt rfl (Kt rfl (Kt rfl (Yq rfl (Km rfl (Kt rfl (Kt rfl (Kt rfl (Yq rfl (Ka rfl (Nt (Ce ?_))))))))))))))))))))))))))))))))
    exact R1 rfl rfl (by (exact qt (by omega)))
  ·(try simp only [sB] at hg49)
   refine Kt rfl (Kt rfl (Kt rfl (Kt rfl (Yq rfl (Km rfl (Kt rfl (Kt rfl (Kt rfl (Kt rfl (Yq rfl (Km rfl (Kt rfl (Kt rfl (Kt rfl (Kt rfl (Yq rfl (Km rfl (Kt rfl (Kt rfl (Kt rfl (Kt rfl (Kt rfl (Yq rfl (Km rfl (Kt rfl (Kt rfl (Kt rfl (Kt rfl (Kt rfl (Yq rfl (Km rfl (Kt rfl (Kt rfl (Kt rfl (Yq rfl (Ka rfl (Nt (Ce ?_))))))))))))))))))))))))))))))))))))))
   exact R1 rfl rfl (by (exact qt (by omega)))
theorem uf : ∀ {d : List Int} {last n : Int}, cz last d n = true → d.Pairwise (· < ·)
 | [], _, _, _ => List.Pairwise.nil
 | x :: l, last, n, h => by
  rw [cz, Bool.and_eq_true] at h
  exact List.Pairwise.cons (fun y hy => (iv h.2 y hy).1) (uf h.2)
def kP (d : List Int) (n i : Nat) : List Nat := (List.range' i (n - i)).filter fun q : Nat => !(d.contains (q : Int))
theorem tn (d : List Int) (n : Nat) : kP d n 0 = aM d n := by rw [kP, aM, List.range_eq_range', Nat.sub_zero]
theorem tk (d : List Int) (n : Nat) : kP d n n = [] := by rw [kP, Nat.sub_self]; rfl
theorem qX {d : List Int} {n i : Nat} (h : i < n) : kP d n i = (if d.contains (i : Int) then kP d n (i + 1) else i :: kP d n (i + 1)) := by
 rw [kP, show n - i = (n - (i + 1)) + 1 by omega, List.range'_succ, List.filter_cons]
 cases hc : d.contains (i : Int) <;> rfl
structure nP (d : List Int) (i j : Nat) : Prop where
 le : j ≤ d.length
 lo : ∀ x ∈ d.take j, x < (i : Int)
 hi : ∀ x ∈ d.drop j, (i : Int) ≤ x
section
variable {d : List Int} {n i j : Nat}
theorem x4 (hp : d.Pairwise (· < ·)) (h : nP d i j) (hc : j < d.length ∧ d.getD j default = (i : Int)) : d.contains (i : Int) = true ∧ nP d (i + 1) (j + 1) := by
 obtain ⟨h1, h2⟩ := hc
 have hd := gg h1
 have hpd : (d.drop j).Pairwise (· < ·) := hp.sublist (List.drop_sublist _ _)
 rw [hd, List.pairwise_cons] at hpd
 refine ⟨List.contains_iff_mem.2 (h2 ▸ ap d j h1), h1, fun x hx => ?_, fun x hx => ?_⟩
 ·rw [aS h1] at hx
  rcases List.mem_append.1 hx with hx | hx
  ·have := h.lo x hx; omega
  ·have := List.mem_singleton.1 hx; omega
 ·have := hpd.1 x hx; omega
theorem vQ (hp : d.Pairwise (· < ·)) (h : nP d i j) (hc : ¬ (j < d.length ∧ d.getD j default = (i : Int))) : d.contains (i : Int) = false ∧ nP d (i + 1) j := by
 have hgt : ∀ x ∈ d.drop j, (i : Int) < x := by
  intro x hx
  by_cases h1 : j < d.length
  ·have hd := gg h1
   have hpd : (d.drop j).Pairwise (· < ·) := hp.sublist (List.drop_sublist _ _)
   rw [hd, List.pairwise_cons] at hpd
   have h2 : d.getD j default ≠ (i : Int) := fun e => hc ⟨h1, e⟩
   have h3 := h.hi (d.getD j default) (by rw [hd]; exact List.mem_cons_self)
   rw [hd] at hx
   rcases List.mem_cons.1 hx with hx | hx
   ·omega
   ·have := hpd.1 x hx; omega
  ·rw [List.drop_eq_nil_of_le (by omega)] at hx; cases hx
 refine ⟨?_, h.le, fun x hx => by have := h.lo x hx; omega, fun x hx => by have := hgt x hx; omega⟩
 cases hb : d.contains (i : Int)
 ·rfl
 ·exfalso
  have hm := List.contains_iff_mem.1 hb
  rw [← List.take_append_drop j d] at hm
  rcases List.mem_append.1 hm with hm | hm
  ·have := h.lo _ hm; omega
  ·have := hgt _ hm; omega
end
theorem pM {d : List Int} {n x : Nat} {s l : List Nat} (h : s ++ x :: l = aM d n) : x < n ∧ s.length < n := by
 have h1 : x ∈ aM d n := by rw [← h]; simp
 have h2 := mC d n
 rw [← h, List.length_append, List.length_cons] at h2
 exact ⟨pN h1, by omega⟩
instance (priority := low) SubL.apq {α : Type} (x y z : List α) [h : SubL x z] : SubL x (y ++ z) := ⟨h.h.trans (List.sublist_append_right _ _)⟩
theorem pJ {l : List Nat} : ∀ s : List Nat, itL (fun (s : List Nat) x => s ++ [x]) (fun _ _ => (none : Option Code)) l s = (s ++ l, none) := by
 induction l with
 | nil => intro s; simp [itL]
 | cons x l ih => intro s; rw [itL]; simp only [Option.isSome_none, Bool.false_eq_true, if_false]; rw [ih]; simp
theorem nx {a : Option Addr} {m c n : Nat} {own0 : List Ent} {ok : Nat → Prop} {w0 : World} {fs : List Fact} {w : World} (hS0 : St ok w0 (own0) (fs) w) :
  Calls Tryz.prog 60 #[.slice a m c, .int .i64 (n : Int)] w fun e w' => ∃ g : Nat × Nat, e = .returned (.func (.func 109) #[] #[.pointer (some ⟨g.2, 0, none⟩), .pointer (some ⟨g.1, 0, none⟩)]) ∧ St ok w0 (⟨some g.2, [.int .i64 (n : Int)], 3⟩ :: ⟨some g.1, [.slice a m c], 38⟩ :: own0) fs w' := by
 refine enter (S := St ok w0 (own0) (fs)) (L := [(0, .slice a m c), (1, .int .i64 (n : Int))]) Tryz.func60 rfl Tryz.ntmps60 rfl (Ac rfl (Ac rfl (An _))) hS0 ?_
 refine Cs ?_
 refine Kh rfl (Oy rfl rfl) ?_
 intro b2
 refine Kh rfl (Oy rfl rfl) ?_
 intro b3
 refine Ka rfl (Nt (Cs (Kq rfl (cE rfl rfl rfl) (Ka rfl (Nt (Ce ?_))))))
 exact Rn rfl (.tmp rfl .nil) fun w' hS => ⟨(b2, b3), rfl, hS⟩
theorem wM {σ γ : Type} {CO : σ → γ → List Ent} {pg : σ → γ → Prop} {inv : σ → Nat → Prop} {after : σ → Nat → σ} {stop : σ → Nat → Option Code} {l : Nat} {r : Loop} {ok : Nat → Prop} {w0 : World} {fs : List Fact} {w : World} {d : List Int} {a : Option Addr} {c n b2 b3 : Nat} {s0 : σ} {J : List Nat → σ → Prop} [∀ s g, HasE (CO s g) b3 [.int .i64 (n : Int)] 3] [∀ s g, HasE (CO s g) b2 [.slice a d.length c] 38] [HasF fs a (dW d)] {g0 : γ} (hY : YOk Tryz.prog l r ok w0 fs CO pg inv after stop (fun y : Nat => #[Value.int .i64 (y : Int)])) (hS0 : St ok w0 (CO s0 g0) (Fact.lp l (rcd r none) :: fs) w) (hg0 : pg s0 g0) (hJ0 : J (aM d n) s0) (hJ : ∀ l x s, J (x :: l) s → inv s x ∧ (stop s x = none → J l (after s x))) (hasc : cz 1 d (n : Int) = true) (hl : d.length ≤ 140737488351232) (hn : n ≤ 140737488351232) :
  Calls Tryz.prog 109 #[.func (.yield l) #[] #[], .pointer (some ⟨b3, 0, none⟩), .pointer (some ⟨b2, 0, none⟩)] w fun e w' => (∃ v, e = .returned v) ∧ ∃ g', ((itL after stop (aM d n) s0).2 = none → pg ((itL after stop (aM d n) s0).1) g') ∧ St ok w0 (CO ((itL after stop (aM d n) s0).1) g') (Fact.lp l (rcd r ((itL after stop (aM d n) s0).2)) :: fs) w' := by
 have hpw := uf hasc
 refine enter (S := St ok w0 (CO s0 g0) (Fact.lp l (rcd r none) :: fs)) (L := [(0, .func (.yield l) #[] #[]), (1, .pointer (some ⟨b3, 0, none⟩)), (2, .pointer (some ⟨b2, 0, none⟩))]) Tryz.func109 rfl Tryz.ntmps109 rfl (Ac rfl (Ac rfl (Ac rfl (An _)))) hS0 ?_
 refine Cs (Ka rfl (Nt (Cs (Kq rfl (Ld rfl rfl .tc u3) ?_))))
 refine Km rfl (Nt (Cb ?_))
 refine Lo (σ := Nat × Nat × σ × γ) [(0, _), (2, _), (6, _)] (fun gq => [(7, .int .i64 (gq.1 : Int)), (4, .int .i64 (gq.2.1 : Int))]) (fun gq => gq.1 ≤ n ∧ nP d gq.1 gq.2.1 ∧ pg gq.2.2.1 gq.2.2.2 ∧ J (kP d n gq.1) gq.2.2.1 ∧ itL after stop (kP d n gq.1) gq.2.2.1 = itL after stop (aM d n) s0) (fun gq => n - gq.1) (fun gq => CO gq.2.2.1 gq.2.2.2) (fun gq => Fact.lp l (rcd r none) :: fs) (0, 0, s0, g0) (S3 rfl rfl rfl) (S2 rfl rfl) (by (try dsimp only); exact ⟨Nat.zero_le _, ⟨Nat.zero_le _, by simp, fun x hx => by have := (iv hasc x (List.mem_of_mem_drop hx)).1; omega⟩, hg0, by rw [tn]; exact hJ0, by rw [tn]⟩) (by (exact fun _ h => h)) ?_
 rintro ⟨i, j, s, g⟩ hinv1; (try dsimp only at hinv1 ⊢)
 obtain ⟨hi, hat, hgs, hJs, hit⟩ := hinv1
 refine Cs (Yl rfl (Nt (Cq ?_)))
 refine Cd rfl (fun hc8 => ?_) (fun hc8 => ?_)
 ·(try simp only [sB] at hc8)
  have hil : i < n := by omega
  have hjl := hat.le
  rw [qX hil] at hit hJs
  refine Ck (Xa (Cq (Cb (Cs (Km rfl (Ka rfl (Nt (Cq ?_))))))))
  refine WC.joinP (σ := Unit) [(0, _), (2, _), (4, _), (5, _), (6, _), (7, _)] (fun gq => [(21, .bool (decide (j < d.length ∧ d.getD j default = (i : Int))))]) (fun gq => True) (S6 rfl rfl rfl rfl rfl rfl) ?_ ?_
  ·skip
   refine Cg (Km rfl (Kq rfl (Ld rfl rfl .tc u38) ?_))
   refine Yo rfl u38 (Yl rfl (Km rfl ?_))
   refine Nb 14 rfl (fun hg14 => ?_) (fun hg14 => ?_)
   ·(try simp only [sB] at hg14)
    refine Kq rfl (Ld rfl rfl .tc u38) ?_
    refine Km rfl ?_
    refine Kq rfl (Ib rfl rfl rfl u38 (by omega) (by (rw [List.length_map]; omega))) ?_
    refine Kq rfl (ldm rfl rfl u3 rfl (by omega)) ?_
    refine Km rfl (Yi rfl (Yp rfl (Nn ?_)))
    refine WX.joinP (()) (S6 rfl rfl rfl rfl rfl rfl) (by refine (Sc ?_ (S0 _)) <;> ((refine ai rfl ?_; (try dsimp only); (exact decide_eq_decide.2 (by omega))))) ?_ (by (exact fun _ h => h))
    (try dsimp only)
    done
   ·(try simp only [sB] at hg14)
    refine Kt rfl (Kt rfl (Kt rfl (Kt rfl (Kt rfl (Kt rfl (Yq rfl (Nn ?_)))))))
    refine WX.joinP (()) (S6 rfl rfl rfl rfl rfl rfl) (by refine (Sc ?_ (S0 _)) <;> ((exact congrArg (fun b => some (Value.bool b)) (by symm; apply decide_eq_false; omega)))) ?_ (by (exact fun _ h => h))
    (try dsimp only)
    done
  ·rintro _ hmeet; (try dsimp only at hmeet ⊢)
   refine Cd rfl (fun hc21 => ?_) (fun hc21 => ?_)
   ·(try simp only [sB] at hc21)
    have hst := x4 hpw hat hc21
    rw [if_pos hst.1] at hit hJs
    refine Cs (Km rfl (Kq rfl (Rz rfl rfl rfl (by omega)) (Ka rfl (Nt (Cx (Xc (Xe (Xa (Cg (Kq rfl (Rz rfl rfl rfl (by omega)) (Km rfl (Nn ?_))))))))))))
    refine Lx ((i + 1, j + 1, s, g)) (by (try dsimp only); omega) (S3 rfl rfl rfl) (by refine (Sc ?_ (Sc ?_ (S0 _))) <;> (rfl)) ?_ (by (exact fun _ h => h))
    (try dsimp only)
    exact ⟨by omega, hst.2, hgs, hJs, hit⟩
   ·(try simp only [sB] at hc21)
    have hst := vQ hpw hat hc21
    rw [if_neg (by rw [hst.1]; decide)] at hit hJs
    obtain ⟨hin, hJn⟩ := hJ _ _ _ hJs
    refine Ck (Xa (Cs (Km rfl (Km rfl ?_))))
    refine Kh rfl (dq hY [] (i) rfl rfl rfl rfl (hin) (hgs)) ?_
    intro gy; refine WL.pu ?_; intro hgy; (refine WL.app0 ?_)
    refine Yt rfl (Nt ?_)
    refine Cd rfl (fun hc27 => ?_) (fun hc27 => ?_)
    ·(try simp only [sB] at hc27)
     have hfin := ey hit (by simpa using hc27)
     refine Ce (Xf (Xb (Xb (Xf ?_))))
     exact Rn rfl .nil fun w' hS => ⟨⟨_, rfl⟩, gy, by rw [hfin]; exact hgy, by rw [hfin]; dsimp only; exact aq _ hS⟩
    ·(try simp only [sB] at hc27)
     have hno := Option.isNone_iff_eq_none.1 hc27
     replace hit := ez hit hno
     rw [hno]
     refine Ck (Xd (Xa (Cg (Kq rfl (Rz rfl rfl rfl (by omega)) (Km rfl (Nn ?_))))))
     refine Lx ((i + 1, j, after s i, gy)) (by (try dsimp only); omega) (S3 rfl rfl rfl) (by refine (Sc ?_ (Sc ?_ (S0 _))) <;> (rfl)) ?_ (by (exact fun _ h => h))
     (try dsimp only)
     exact ⟨by omega, hst.2, hgy hno, hJn hno, hit⟩
 ·(try simp only [sB] at hc8)
  refine Cx (Xc (Xc (Xe ?_)))
  obtain rfl : i = n := by omega
  have hfin : (s, none) = itL after stop (aM d i) s0 := by rw [← hit, tk]; rfl
  refine WX.ret_normal ?_
  exact Rn rfl .nil fun w' hS => ⟨⟨_, rfl⟩, g, fun _ => by rw [← hfin]; exact hgs, by rw [← hfin]; exact aq _ hS⟩
end Go.Proofs.YtkdlonihbjhhoaaGreatDoor
