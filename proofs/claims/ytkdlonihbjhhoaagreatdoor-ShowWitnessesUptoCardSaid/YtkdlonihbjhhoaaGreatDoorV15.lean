/-
  Parts of the walk: Mac Coi1 Isn Tz Prm Prn.
-/
import Derived.Test.YtkdlonihbjhhoaaGreatDoorV14
namespace Go.Proofs.YtkdlonihbjhhoaaGreatDoor
open Go.RowKit
set_option linter.unusedSimpArgs false
set_option linter.unusedVariables false
set_option maxHeartbeats 600000
set_option maxRecDepth 20000
theorem lK (c : UInt8) (x : UInt8) : bits .xor .u8 (c.toNat : Int) (x.toNat : Int) = ((c ^^^ x).toNat : Int) := by
 have h1 := c.toNat_lt; have h2 := x.toNat_lt
 rw [u8_xor_nat _ _ h1 h2, UInt8.toNat_xor]
theorem hO (K : List UInt8) (f : UInt8 → UInt8) (k : Nat) (c : UInt8) (h : K[k]? = some c) :
  (((K.take k).map f ++ K.drop k).map B).set k (B (f c)) = ((K.take (k + 1)).map f ++ K.drop (k + 1)).map B := by
 have hk : k < K.length := (List.getElem?_eq_some_iff.1 h).1
 rw [← List.map_set]
 congr 1
 have hlen : ((K.take k).map f).length = k := by simp; omega
 have hd : (K.drop k).set 0 (f c) = f c :: K.drop (k + 1) := by rw [List.drop_eq_getElem_cons hk]; rfl
 rw [List.set_append_right _ _ (by omega), hlen, Nat.sub_self, hd, List.take_add_one, h]
 simp
theorem hP (K : List UInt8) (f : UInt8 → UInt8) (k : Nat) (c : UInt8) (h : K[k]? = some c) : (((K.take k).map f ++ K.drop k).map B)[k]? = some (B c) := by
 have hk : k < K.length := (List.getElem?_eq_some_iff.1 h).1
 have hlen : ((K.take k).map f).length = k := by simp; omega
 rw [List.getElem?_map, List.getElem?_append_right (by omega), hlen, Nat.sub_self, List.getElem?_drop, Nat.add_zero, h]; rfl
theorem xS (key s : List UInt8) (hk : key.length ≤ 500000) (hs : s.length ≤ 500000) (w : World) :
  Cw 232 #[.string (S key), .string (S s)] w (.string (S (mac key s))) := by
 have hkl := qU key
 obtain ⟨K, hK⟩ : ∃ K, dA key ++ List.replicate (64 - (dA key).length) 0 = K := ⟨_, rfl⟩
 have hKl : K.length = 64 := by rw [← hK]; simp; omega
 have hx1 : lL (dA key) 92 = K.map (· ^^^ 92) := by rw [← hK]; rfl
 have hx2 : lL (dA key) 54 = K.map (· ^^^ 54) := by rw [← hK]; rfl
 refine enter (S := St (fun _ => True) w [] []) (L := [(0, .string (S key)), (1, .string (S s))]) Tryz.func232 rfl Tryz.ntmps232 rfl (Ac rfl (Ac rfl (An _))) (St.start (fun _ _ => trivial) (by simp)) ?_
 refine Cq (Cg (Ka rfl (Nn (Xa (Cq (Cq (Cg (Km rfl (Yn rfl u9 (Yg rfl (Nn (Xa ?_))))))))))))
 refine Cd rfl (fun hc10 => ?_) (fun hc10 => ?_)
 ·(try simp only [sB] at hc10)
  refine Cg (Km rfl ?_)
  refine Ku rfl (Oc rfl rfl (Kv fun w _ => jL _ (by omega) w)) ?_
  refine Ka rfl ?_
  refine Ns 0 rfl (v' := .string (S (dA key))) (by rw [dA, if_pos (by omega)]) ?_
  refine Nn (Xa (Cq (Cg ?_)))
  refine Kh rfl (Oa rfl (v := (.agg (List.replicate 64 (.int .u8 0)).toArray)) (cs := (List.replicate 64 (.int .u8 0))) (by kernel_rfl) rfl) ?_
  intro b5
  refine Kh rfl (Oa rfl (v := (.agg (List.replicate 64 (.int .u8 0)).toArray)) (cs := (List.replicate 64 (.int .u8 0))) (by kernel_rfl) rfl) ?_
  intro b6
  refine Nn (Xa (Cq (Cg ?_)))
  refine Kq rfl (ei rfl rfl gp (by kernel_rfl : _ = some 1)) ?_
  refine Km rfl ?_
  refine Kh rfl (tT rfl rfl rfl (by first | exact .here | exact .t1 | exact .t2 | exact .t3 | exact .t4 | exact .t5 | exact .t6 | exact .t7) aB (by kernel_rfl) (m := (dA key).length) (by omega) (by simp; omega) (ys := K.map B) (by rw [← hK, List.take_zero, List.nil_append, Nat.zero_add, List.take_length, List.drop_replicate, List.map_append, List.map_replicate]; rfl)) ?_
  intro _
  refine Nn (Xa (Cq (Cg ?_)))
  refine Kq rfl (ei rfl rfl gp (by kernel_rfl : _ = some 1)) ?_
  refine Km rfl ?_
  refine Kh rfl (tT rfl rfl rfl (by first | exact .here | exact .t1 | exact .t2 | exact .t3 | exact .t4 | exact .t5 | exact .t6 | exact .t7) aB (by kernel_rfl) (m := (dA key).length) (by omega) (by simp; omega) (ys := K.map B) (by rw [← hK, List.take_zero, List.nil_append, Nat.zero_add, List.take_length, List.drop_replicate, List.map_append, List.map_replicate]; rfl)) ?_
  intro _
  refine Nn (Xa (Cq (Cq (Cg (Km rfl (Nn (Xa (Cb ?_))))))))
  refine WC.loop (σ := Nat) (fun k => [(1, .string (S s)), (5, .pointer (some ⟨b5, 0, none⟩)), (6, .pointer (some ⟨b6, 0, none⟩)), (19, .int .i64 (k : Int))]) (fun k w' => k ≤ 64 ∧ St (fun _ => True) w [⟨some b6, ((K.take k).map (· ^^^ 92) ++ K.drop k).map B, 268⟩, ⟨some b5, ((K.take k).map (· ^^^ 54) ++ K.drop k).map B, 268⟩] [] w') (fun k => 64 - k) 0 (by repeat (first | exact S0 _ | refine Sc rfl ?_)) (fun w' h => ⟨by omega, h⟩) ?_
  intro k; refine WC.pu ?_; intro hk
  refine Cq (Cg (Yl rfl (Nn (Xa (Cq ?_)))))
  refine Cd rfl (fun hc20 => ?_) (fun hc20 => ?_)
  ·(try simp only [sB] at hc20)
   obtain ⟨c, hc⟩ : ∃ c, K[k]? = some c := ⟨_, List.getElem?_eq_getElem (by omega)⟩
   refine Ck (Xa (Cq (Cb (Cq (Cg (Km rfl (Ka rfl (Nn (Xa (Cq (Cg (Km rfl ?_))))))))))))
   refine Kq rfl (Jb rfl rfl rfl gp (by kernel_rfl : _ = some 1) ?_) ?_
   ·omega
   refine Kq rfl (ld rfl rfl (by first | exact .here | exact .t1 | exact .t2 | exact .t3 | exact .t4 | exact .t5 | exact .t6 | exact .t7) u5 rfl (by exact hP K (· ^^^ 54) k c hc)) ?_
   refine Kq rfl (jV rfl rfl rfl) (Ns 25 rfl (v' := B (c ^^^ 54)) (congrArg (Value.int .u8) (lK c 54)) ?_)
   refine Kq rfl (Jb rfl rfl rfl gp (by kernel_rfl : _ = some 1) ?_) ?_
   ·omega
   refine Ng rfl rfl (st rfl rfl rfl (by first | exact .here | exact .t1 | exact .t2 | exact .t3 | exact .t4 | exact .t5 | exact .t6 | exact .t7) (by kernel_rfl) rfl ?_ rfl) ?_
   ·simp; omega
   intro _
   refine Nn (Xa (Cg (Km rfl ?_)))
   refine Kq rfl (Jb rfl rfl rfl gp (by kernel_rfl : _ = some 1) ?_) ?_
   ·omega
   refine Kq rfl (ld rfl rfl (by first | exact .here | exact .t1 | exact .t2 | exact .t3 | exact .t4 | exact .t5 | exact .t6 | exact .t7) u5 rfl (by exact hP K (· ^^^ 92) k c hc)) ?_
   refine Kq rfl (jV rfl rfl rfl) (Ns 30 rfl (v' := B (c ^^^ 92)) (congrArg (Value.int .u8) (lK c 92)) ?_)
   refine Kq rfl (Jb rfl rfl rfl gp (by kernel_rfl : _ = some 1) ?_) ?_
   ·omega
   refine Ng rfl rfl (st rfl rfl rfl (by first | exact .here | exact .t1 | exact .t2 | exact .t3 | exact .t4 | exact .t5 | exact .t6 | exact .t7) (by kernel_rfl) rfl ?_ rfl) ?_
   ·simp; omega
   intro _
   refine Nn (Xd (Xa (Cg ?_)))
   first
    | (refine Kq rfl (Rz rfl rfl rfl ?_) ?_; focus (omega))
    | (refine Kq rfl (bi rfl rfl rfl ?_) ?_; focus (omega))
   refine Km rfl (Nn ?_)
   exact WX.loop (k + 1) (by omega) (by repeat (first | exact S0 _ | refine Sc rfl ?_)) (fun w' h => ⟨by omega, by rw [hO K (· ^^^ 54) k c hc, hO K (· ^^^ 92) k c hc] at h; exact h⟩)
  ·(try simp only [sB] at hc20)
   refine Cx (Xc (Xc (Xe ?_)))
   obtain rfl : k = 64 := by omega
   rw [List.take_of_length_le (by omega), List.drop_eq_nil_of_le (by omega), List.append_nil, List.append_nil]
   refine Xa (Cq ?_)
   refine WC.mix [0, 0, 0, 0, 0, 0, 1, 0, 1, 0] (by kernel_rfl) (by kernel_rfl) (fun w h => h.draw) ?_
   refine WM.r rfl rfl rfl (ei rfl rfl gp (by kernel_rfl : _ = some 1)) ?_
   refine WM.r rfl rfl rfl (b2s (l := K.map (· ^^^ 92)) rfl rfl (by first | exact .here | exact .t1 | exact .t2 | exact .t3 | exact .t4 | exact .t5 | exact .t6 | exact .t7) aB u5 u9 ?_ ?_) ?_
   ·rw [List.drop_zero, List.take_of_length_le (by simp [hKl])]
   ·simp [hKl]
   refine WM.r rfl rfl rfl (ei rfl rfl gp (by kernel_rfl : _ = some 1)) ?_
   refine WM.r rfl rfl rfl (b2s (l := K.map (· ^^^ 54)) rfl rfl (by first | exact .here | exact .t1 | exact .t2 | exact .t3 | exact .t4 | exact .t5 | exact .t6 | exact .t7) aB u5 u9 ?_ ?_) ?_
   ·rw [List.drop_zero, List.take_of_length_le (by simp [hKl])]
   ·simp [hKl]
   refine WM.r rfl rfl rfl (Rm rfl rfl) ?_
   refine WM.r rfl rfl rfl (fy rfl rfl rfl ?_) ?_
   ·simp [hKl]; omega
   refine WM.g rfl rfl rfl (Oc rfl rfl (Kv fun w _ => jL _ (by simp [hKl]; omega) w)) (fun _ _ h => by first | exact h | exact ⟨_, h⟩ | exact ⟨_, h.2⟩ | exact h.2 | exact h.sub (by repeat (first | exact List.Sublist.refl _ | apply List.Sublist.cons)) (fun _ h => by simp [*]) | exact h.2.sub (by repeat (first | exact List.Sublist.refl _ | apply List.Sublist.cons)) (fun _ h => by simp [*])) ?_
   intro _
   refine WM.r rfl rfl rfl (fy rfl rfl rfl ?_) ?_
   ·simp [hKl, fU]
   refine WM.g rfl rfl rfl (Oc rfl rfl (Kv fun w _ => jL _ (by simp [hKl, fU]) w)) (fun _ _ h => by first | exact h | exact ⟨_, h⟩ | exact ⟨_, h.2⟩ | exact h.2 | exact h.sub (by repeat (first | exact List.Sublist.refl _ | apply List.Sublist.cons)) (fun _ h => by simp [*]) | exact h.2.sub (by repeat (first | exact List.Sublist.refl _ | apply List.Sublist.cons)) (fun _ h => by simp [*])) ?_
   intro _
   refine WM.r rfl rfl rfl (Ra rfl rfl) ?_
   refine WM.nil ?_
   refine Xa (Ce ?_)
   exact WX.ret1 rfl rfl fun w' hS => ⟨by rw [mac, hx1, hx2], hS.below⟩
 ·(try simp only [sB] at hc10)
  refine WC.set 0 rfl (v' := .string (S (dA key))) (by rw [dA, if_neg (by omega)]) ?_
  refine Ck (Xa (Cq (Cg ?_)))
  refine Kh rfl (Oa rfl (v := (.agg (List.replicate 64 (.int .u8 0)).toArray)) (cs := (List.replicate 64 (.int .u8 0))) (by kernel_rfl) rfl) ?_
  intro b5
  refine Kh rfl (Oa rfl (v := (.agg (List.replicate 64 (.int .u8 0)).toArray)) (cs := (List.replicate 64 (.int .u8 0))) (by kernel_rfl) rfl) ?_
  intro b6
  refine Nn (Xa (Cq (Cg ?_)))
  refine Kq rfl (ei rfl rfl gp (by kernel_rfl : _ = some 1)) ?_
  refine Km rfl ?_
  refine Kh rfl (tT rfl rfl rfl (by first | exact .here | exact .t1 | exact .t2 | exact .t3 | exact .t4 | exact .t5 | exact .t6 | exact .t7) aB (by kernel_rfl) (m := (dA key).length) (by omega) (by simp; omega) (ys := K.map B) (by rw [← hK, List.take_zero, List.nil_append, Nat.zero_add, List.take_length, List.drop_replicate, List.map_append, List.map_replicate]; rfl)) ?_
  intro _
  refine Nn (Xa (Cq (Cg ?_)))
  refine Kq rfl (ei rfl rfl gp (by kernel_rfl : _ = some 1)) ?_
  refine Km rfl ?_
  refine Kh rfl (tT rfl rfl rfl (by first | exact .here | exact .t1 | exact .t2 | exact .t3 | exact .t4 | exact .t5 | exact .t6 | exact .t7) aB (by kernel_rfl) (m := (dA key).length) (by omega) (by simp; omega) (ys := K.map B) (by rw [← hK, List.take_zero, List.nil_append, Nat.zero_add, List.take_length, List.drop_replicate, List.map_append, List.map_replicate]; rfl)) ?_
  intro _
  refine Nn (Xa (Cq (Cq (Cg (Km rfl (Nn (Xa (Cb ?_))))))))
  refine WC.loop (σ := Nat) (fun k => [(1, .string (S s)), (5, .pointer (some ⟨b5, 0, none⟩)), (6, .pointer (some ⟨b6, 0, none⟩)), (19, .int .i64 (k : Int))]) (fun k w' => k ≤ 64 ∧ St (fun _ => True) w [⟨some b6, ((K.take k).map (· ^^^ 92) ++ K.drop k).map B, 268⟩, ⟨some b5, ((K.take k).map (· ^^^ 54) ++ K.drop k).map B, 268⟩] [] w') (fun k => 64 - k) 0 (by repeat (first | exact S0 _ | refine Sc rfl ?_)) (fun w' h => ⟨by omega, h⟩) ?_
  intro k; refine WC.pu ?_; intro hk
  refine Cq (Cg (Yl rfl (Nn (Xa (Cq ?_)))))
  refine Cd rfl (fun hc20 => ?_) (fun hc20 => ?_)
  ·(try simp only [sB] at hc20)
   obtain ⟨c, hc⟩ : ∃ c, K[k]? = some c := ⟨_, List.getElem?_eq_getElem (by omega)⟩
   refine Ck (Xa (Cq (Cb (Cq (Cg (Km rfl (Ka rfl (Nn (Xa (Cq (Cg (Km rfl ?_))))))))))))
   refine Kq rfl (Jb rfl rfl rfl gp (by kernel_rfl : _ = some 1) ?_) ?_
   ·omega
   refine Kq rfl (ld rfl rfl (by first | exact .here | exact .t1 | exact .t2 | exact .t3 | exact .t4 | exact .t5 | exact .t6 | exact .t7) u5 rfl (by exact hP K (· ^^^ 54) k c hc)) ?_
   refine Kq rfl (jV rfl rfl rfl) (Ns 25 rfl (v' := B (c ^^^ 54)) (congrArg (Value.int .u8) (lK c 54)) ?_)
   refine Kq rfl (Jb rfl rfl rfl gp (by kernel_rfl : _ = some 1) ?_) ?_
   ·omega
   refine Ng rfl rfl (st rfl rfl rfl (by first | exact .here | exact .t1 | exact .t2 | exact .t3 | exact .t4 | exact .t5 | exact .t6 | exact .t7) (by kernel_rfl) rfl ?_ rfl) ?_
   ·simp; omega
   intro _
   refine Nn (Xa (Cg (Km rfl ?_)))
   refine Kq rfl (Jb rfl rfl rfl gp (by kernel_rfl : _ = some 1) ?_) ?_
   ·omega
   refine Kq rfl (ld rfl rfl (by first | exact .here | exact .t1 | exact .t2 | exact .t3 | exact .t4 | exact .t5 | exact .t6 | exact .t7) u5 rfl (by exact hP K (· ^^^ 92) k c hc)) ?_
   refine Kq rfl (jV rfl rfl rfl) (Ns 30 rfl (v' := B (c ^^^ 92)) (congrArg (Value.int .u8) (lK c 92)) ?_)
   refine Kq rfl (Jb rfl rfl rfl gp (by kernel_rfl : _ = some 1) ?_) ?_
   ·omega
   refine Ng rfl rfl (st rfl rfl rfl (by first | exact .here | exact .t1 | exact .t2 | exact .t3 | exact .t4 | exact .t5 | exact .t6 | exact .t7) (by kernel_rfl) rfl ?_ rfl) ?_
   ·simp; omega
   intro _
   refine Nn (Xd (Xa (Cg ?_)))
   first
    | (refine Kq rfl (Rz rfl rfl rfl ?_) ?_; focus (omega))
    | (refine Kq rfl (bi rfl rfl rfl ?_) ?_; focus (omega))
   refine Km rfl (Nn ?_)
   exact WX.loop (k + 1) (by omega) (by repeat (first | exact S0 _ | refine Sc rfl ?_)) (fun w' h => ⟨by omega, by rw [hO K (· ^^^ 54) k c hc, hO K (· ^^^ 92) k c hc] at h; exact h⟩)
  ·(try simp only [sB] at hc20)
   refine Cx (Xc (Xc (Xe ?_)))
   obtain rfl : k = 64 := by omega
   rw [List.take_of_length_le (by omega), List.drop_eq_nil_of_le (by omega), List.append_nil, List.append_nil]
   refine Xa (Cq ?_)
   refine WC.mix [0, 0, 0, 0, 0, 0, 1, 0, 1, 0] (by kernel_rfl) (by kernel_rfl) (fun w h => h.draw) ?_
   refine WM.r rfl rfl rfl (ei rfl rfl gp (by kernel_rfl : _ = some 1)) ?_
   refine WM.r rfl rfl rfl (b2s (l := K.map (· ^^^ 92)) rfl rfl (by first | exact .here | exact .t1 | exact .t2 | exact .t3 | exact .t4 | exact .t5 | exact .t6 | exact .t7) aB u5 u9 ?_ ?_) ?_
   ·rw [List.drop_zero, List.take_of_length_le (by simp [hKl])]
   ·simp [hKl]
   refine WM.r rfl rfl rfl (ei rfl rfl gp (by kernel_rfl : _ = some 1)) ?_
   refine WM.r rfl rfl rfl (b2s (l := K.map (· ^^^ 54)) rfl rfl (by first | exact .here | exact .t1 | exact .t2 | exact .t3 | exact .t4 | exact .t5 | exact .t6 | exact .t7) aB u5 u9 ?_ ?_) ?_
   ·rw [List.drop_zero, List.take_of_length_le (by simp [hKl])]
   ·simp [hKl]
   refine WM.r rfl rfl rfl (Rm rfl rfl) ?_
   refine WM.r rfl rfl rfl (fy rfl rfl rfl ?_) ?_
   ·simp [hKl]; omega
   refine WM.g rfl rfl rfl (Oc rfl rfl (Kv fun w _ => jL _ (by simp [hKl]; omega) w)) (fun _ _ h => by first | exact h | exact ⟨_, h⟩ | exact ⟨_, h.2⟩ | exact h.2 | exact h.sub (by repeat (first | exact List.Sublist.refl _ | apply List.Sublist.cons)) (fun _ h => by simp [*]) | exact h.2.sub (by repeat (first | exact List.Sublist.refl _ | apply List.Sublist.cons)) (fun _ h => by simp [*])) ?_
   intro _
   refine WM.r rfl rfl rfl (fy rfl rfl rfl ?_) ?_
   ·simp [hKl, fU]
   refine WM.g rfl rfl rfl (Oc rfl rfl (Kv fun w _ => jL _ (by simp [hKl, fU]) w)) (fun _ _ h => by first | exact h | exact ⟨_, h⟩ | exact ⟨_, h.2⟩ | exact h.2 | exact h.sub (by repeat (first | exact List.Sublist.refl _ | apply List.Sublist.cons)) (fun _ h => by simp [*]) | exact h.2.sub (by repeat (first | exact List.Sublist.refl _ | apply List.Sublist.cons)) (fun _ h => by simp [*])) ?_
   intro _
   refine WM.r rfl rfl rfl (Ra rfl rfl) ?_
   refine WM.nil ?_
   refine Xa (Ce ?_)
   exact WX.ret1 rfl rfl fun w' hS => ⟨by rw [mac, hx1, hx2], hS.below⟩
theorem yB {key s : List UInt8} {w : World} (hk : key.length ≤ 500000) (hs : s.length ≤ 500000) :
  Cw 232 #[.string (S key), .string (S s)] w (.string (S (mac key s))) :=
 xS key s hk hs w
structure Tp where
 vals : List Bs
 seed : Bs
 at_ : Int
deriving DecidableEq
abbrev Tp.v (t : Tp) (x : Value) : Value := .agg #[x, .string (S t.seed), .int .i64 t.at_]
def eD (t : Tp) : Prop := 0 ≤ t.at_ ∧ t.at_ ≤ 2147483647 ∧ ∀ s ∈ t.vals, okN s
instance (t : Tp) : Decidable (eD t) := inferInstanceAs (Decidable (_ ∧ _ ∧ _))
theorem lk (l : List Bs) (k : Nat) (h : k < l.length) : l.getD k default ∈ l := by
 rw [List.getD_eq_getElem?_getD, List.getElem?_eq_getElem h]; exact List.getElem_mem h
theorem ru {l : List Bs} {k : Nat} {p : Bs → Prop} (h : k < l.length) (h1 : ∀ s ∈ l.take k, p s) (h2 : p (l.getD k default)) : ∀ s ∈ l.take (k + 1), p s := by
 intro s hs
 rw [List.take_add_one, List.getElem?_eq_getElem h] at hs
 rw [List.getD_eq_getElem?_getD, List.getElem?_eq_getElem h] at h2
 rcases List.mem_append.1 hs with hs | hs
 ·exact h1 s hs
 ·simp at hs; subst hs; exact h2
theorem y9 {a : Bs} {w : World} :
  Cw 193 #[.string (S a)] w (.bool (!decide (okN a))) := by
 refine En [] [(0, .string (S a))] Tryz.func193 rfl Tryz.ntmps193 rfl (Ac rfl (An _)) Fn ?_
 refine Cs (Ka rfl (Nt (Cs (Km rfl ?_))))
 refine Ku rfl (Oc rfl rfl (Kv fun w hS => av)) ?_
 refine Yt rfl (Ka rfl (Nt (Ce ?_)))
 exact R1 rfl rfl (by rfl)
theorem x3 {l : List Bs} {a : Option Addr} {cap : Nat} {w : World} {ok : Nat → Prop} (hF1 : (Fact.sl a (ao l)).holds ok w) (hl : l.length ≤ 9223372036854775807) :
  Calls Tryz.prog 81 #[.slice a l.length cap, .func (.func 193) #[] #[]] w fun e w' => ∃ r : Int, e = .returned (.int .i64 r) ∧ (0 ≤ r ↔ ¬ ∀ s ∈ l, okN s) ∧ Below w.heap.size w w' := by
 refine En [Fact.sl a (ao l)] [(0, .slice a l.length cap), (1, .func (.func 193) #[] #[])] Tryz.func81 rfl Tryz.ntmps81 rfl (Ac rfl (Ac rfl (An _))) (Fc (ah hF1) Fn) ?_
 refine Cs (Ka rfl (Nt (Cq (Cs (Km rfl (Yo rfl u31 (Km rfl (Nt (Cb ?_)))))))))
 refine Lp (σ := Nat) [(0, _), (1, _), (7, _)] (fun gq => [(8, .int .i64 (gq : Int))]) (fun gq => gq ≤ l.length ∧ ∀ s ∈ l.take gq, okN s) (fun gq => l.length - gq) (0) (S3 rfl rfl rfl) (S1 rfl) (by (try dsimp only); exact ⟨Nat.zero_le _, fun s h => by simp at h⟩) ?_
 rintro k hinv1; (try dsimp only at hinv1 ⊢)
 obtain ⟨hk, hks⟩ := hinv1
 refine Cs (Yl rfl (Nt (Cq ?_)))
 refine Cd rfl (fun hc9 => ?_) (fun hc9 => ?_)
 ·(try simp only [sB] at hc9)
  refine Ck (Xa (Cq (Cb (Cs (Km rfl (Ka rfl (Nt (Cs (Km rfl (Km rfl (Km rfl ?_)))))))))))
  refine Kq rfl (Ib rfl rfl rfl u31 (by omega) (by (rw [List.length_map]; omega))) ?_
  refine Kq rfl (ldm rfl rfl u22 rfl (by omega)) ?_
  refine Ku rfl (aL rfl rfl rfl (by kernel_rfl) rfl (Kv fun w hS => y9 (a := l.getD k default))) ?_
  refine Nt ?_
  refine Cd rfl (fun hc16 => ?_) (fun hc16 => ?_)
  ·(try simp only [sB] at hc16)
   refine Cs (Km rfl (Ka rfl (Nt (Ce (Xf (Xb (Xb (Xf (Xb ?_)))))))))
   exact Rn rfl (.tmp rfl .nil) fun w' hS => ⟨_, rfl, ⟨fun _ h => by have := h _ (lk l k (by omega)); simp_all, fun _ => by omega⟩, hS.below⟩
  ·(try simp only [sB] at hc16)
   refine Ck (Xd (Xa (Cg (Kq rfl (Rz rfl rfl rfl (by omega)) (Km rfl (Nn ?_))))))
   refine Ly (k + 1) (by (try dsimp only); omega) (S3 rfl rfl rfl) (by refine (Sc ?_ (S0 _)) <;> (rfl)) ?_ (by (exact fun _ h => h))
   (try dsimp only)
   exact ⟨by omega, ru (by omega) hks (by simpa using hc16)⟩
 ·(try simp only [sB] at hc9)
  refine Cx (Xc (Xc (Xe ?_)))
  obtain rfl : k = l.length := by omega
  rw [List.take_of_length_le (Nat.le_refl _)] at hks
  refine Xa (Cs (Ka rfl (Nt (Ce ?_))))
  exact Rn rfl (.tmp rfl .nil) fun w' hS => ⟨-1, rfl, ⟨fun h => by omega, fun h => absurd hks h⟩, hS.below⟩
theorem vG {P : Program} {f : FuncId} {args : Array Value} {ok : Nat → Prop} {w0 : World} {own : List Ent} {fs : List Fact} {γ : Type} {val : γ → Value} {p : γ → Prop} (h : ∀ w, St ok w0 own fs w → Calls P f args w (fun e w' => ∃ r : γ, e = .returned (val r) ∧ p r ∧ Below w.heap.size w w')) :
  ∀ w, St ok w0 own fs w → Calls P f args w (fun e w' => ∃ g, e = .returned (val g) ∧ (p g ∧ St ok w0 own fs w')) :=
 fun w hS => (h w hS).mono fun e w' ⟨r, h1, h2, h3⟩ => ⟨r, h1, h2, hS.keep h3⟩
theorem wn {l : List Bs} {a : Option Addr} {cap : Nat} {w : World} {ok : Nat → Prop} (hF1 : (Fact.sl a (ao l)).holds ok w) (hl : l.length ≤ 9223372036854775807) :
  Cw 34 #[.slice a l.length cap, .func (.func 193) #[] #[]] w (.bool (decide (¬ ∀ s ∈ l, okN s))) := by
 refine En [Fact.sl a (ao l)] [(0, .slice a l.length cap), (1, .func (.func 193) #[] #[])] Tryz.func34 rfl Tryz.ntmps34 rfl (Ac rfl (Ac rfl (An _))) (Fc (ah hF1) Fn) ?_
 refine Cs (Ka rfl (Nt (Cs (Km rfl (Km rfl ?_)))))
 refine Kh rfl (Oc rfl rfl (vG fun w hS => x3 (l := l) (a := a) (cap := cap) (w := w) hS.sl hl)) ?_
 intro r; refine WL.pu ?_; intro hr
 refine Yh rfl (Ka rfl (Nt (Ce ?_)))
 exact Rn rfl (.tmp rfl .nil) fun w' hS => ⟨congrArg (fun b => Ending.returned (.bool b)) (decide_eq_decide.2 hr), hS.below⟩
theorem x5 {t : Tp} {a : Option Addr} {cap : Nat} {w : World} {ok : Nat → Prop} (hF1 : (Fact.sl a (ao t.vals)).holds ok w) (hl : t.vals.length ≤ 9223372036854775807) :
  Cw 147 #[t.v (.slice a t.vals.length cap)] w (.bool (decide (eD t))) := by
 refine En [Fact.sl a (ao t.vals)] [(0, t.v (.slice a t.vals.length cap))] Tryz.func147 rfl Tryz.ntmps147 rfl (Ac rfl (An _)) (Fc (ah hF1) Fn) ?_
 refine Cs ?_
 refine Kh rfl (Oy rfl rfl) ?_
 intro b1
 refine Ka rfl (Nt (Cs (Kq rfl (Fa (q := 2) rfl rfl u41 rfl rfl) (Kq rfl (Ld rfl rfl .tc u3) ?_))))
 refine Yh rfl (Km rfl ?_)
 refine Nb 6 rfl (fun hg6 => ?_) (fun hg6 => ?_)
 ·(try simp only [sB] at hg6)
  refine Kq rfl (Fa (q := 2) rfl rfl u41 rfl rfl) (Kq rfl (Ld rfl rfl .tc u3) ?_)
  refine Ym rfl (Yp rfl (Km rfl ?_))
  refine Nb 11 rfl (fun hg11 => ?_) (fun hg11 => ?_)
  ·(try simp only [sB] at hg11)
   refine Kq rfl (Fa (q := 0) rfl rfl u41 rfl rfl) (Kq rfl (Ld rfl rfl .tc u31) ?_)
   refine Ku rfl (Oc rfl rfl (Kv fun w hS => wn (l := t.vals) (by (exact hS.sl)) (by assumption))) ?_
   refine Yt rfl (Yp rfl (Ka rfl (Nt (Ce ?_))))
   exact Rn rfl (.tmp rfl .nil) fun w' hS => ⟨congrArg (fun b => Ending.returned (.bool b)) (by rw [Bool.eq_iff_iff]; simp only [Bool.not_eq_true', decide_eq_false_iff_not, decide_eq_true_eq, Classical.not_not, Bool.false_eq_true]; unfold eD; (exact ⟨fun h => ⟨by omega, by omega, h⟩, fun h => h.2.2⟩)), hS.below⟩
  ·(try simp only [sB] at hg11)
   refine Kt rfl (Kt rfl (Kt rfl (Kt rfl (Yq rfl (Ka rfl (Nt (Ce ?_)))))))
   exact Rn rfl (.tmp rfl .nil) fun w' hS => ⟨congrArg (fun b => Ending.returned (.bool b)) (by rw [Bool.eq_iff_iff]; simp only [Bool.not_eq_true', decide_eq_false_iff_not, decide_eq_true_eq, Classical.not_not, Bool.false_eq_true]; unfold eD; (exact ⟨fun h => h.elim, fun h => by omega⟩)), hS.below⟩
 ·(try simp only [sB] at hg6)
  refine Kt rfl (Kt rfl (Kt rfl (Yq rfl (Km rfl (Kt rfl (Kt rfl (Kt rfl (Kt rfl (Yq rfl (Ka rfl (Nt (Ce ?_))))))))))))
  exact Rn rfl (.tmp rfl .nil) fun w' hS => ⟨congrArg (fun b => Ending.returned (.bool b)) (by rw [Bool.eq_iff_iff]; simp only [Bool.not_eq_true', decide_eq_false_iff_not, decide_eq_true_eq, Classical.not_not, Bool.false_eq_true]; unfold eD; (exact ⟨fun h => h.elim, fun h => by omega⟩)), hS.below⟩
def zF (t : Tp) : Prop := t.vals.length ≤ 40 ∧ t.seed.length ≤ 100 ∧ ∀ s ∈ t.vals, s.length ≤ 140
instance (t : Tp) : Decidable (zF t) := inferInstanceAs (Decidable (_ ∧ _ ∧ _))
theorem te {s : Bs} {w : World} (hl : s.length ≤ 140737488351232) :
  Cw 143 #[.string (S s)] w (.bool (decide (iX s))) := by
 refine En [] [(0, .string (S s))] Tryz.func143 rfl Tryz.ntmps143 rfl (Ac rfl (An _)) Fn ?_
 refine Cs (Ka rfl (Nt (Cq (Cs (Km rfl (Yn rfl u9 (Km rfl (Nt (Cb ?_)))))))))
 refine Lp (σ := Nat) [(0, _), (7, _)] (fun gq => [(8, .int .i64 (gq : Int))]) (fun gq => gq ≤ s.length ∧ ∀ j, j < gq → nmB j (s.getD j default)) (fun gq => s.length - gq) (0) (S2 rfl rfl) (S1 rfl) (by (try dsimp only); exact ⟨Nat.zero_le _, fun j h => absurd h (by omega)⟩) ?_
 rintro i hinv1; (try dsimp only at hinv1 ⊢)
 obtain ⟨hi, hok⟩ := hinv1
 refine Cs (Yl rfl (Nt (Cq ?_)))
 refine Cd rfl (fun hc9 => ?_) (fun hc9 => ?_)
 ·(try simp only [sB] at hc9)
  have hil : i < s.length := by omega
  obtain ⟨c, hc⟩ : ∃ c, Keep (c = s.getD i default) := ⟨_, rfl⟩
  refine Ck (Xa (Cq (Cb (Cs (Km rfl (Ka rfl (Nt (Cs (Km rfl (Km rfl ?_))))))))))
  refine Kq rfl (bA rfl rfl rfl u9 ?_) ?_
  ·omega
  refine Ns 13 rfl (v' := .int .u8 (c.toNat : Int)) (by rw [show c = _ from hc, Int.toNat_natCast]) ?_
  refine Ka rfl (Nt ?_)
  refine WC.joinP (σ := Unit) [(0, _), (3, _), (4, _), (7, _), (8, _)] (fun gq => [(5, .bool (decide ((97 ≤ c.toNat ∧ c.toNat ≤ 122) ∨ (65 ≤ c.toNat ∧ c.toNat ≤ 90))))]) (fun gq => True) (S5 rfl rfl rfl rfl rfl) ?_ ?_
  ·skip
   refine Cg (Km rfl (Yh rfl (Km rfl ?_)))
   refine Nb 16 rfl (fun hg16 => ?_) (fun hg16 => ?_)
   ·(try simp only [sB] at hg16)
    refine Km rfl (Ym rfl (Yp rfl (Km rfl ?_)))
    refine Nb 20 rfl (fun hg20 => ?_) (fun hg20 => ?_)
    ·(try simp only [sB] at hg20)
     refine Kt rfl (Kt rfl (Kt rfl (Kt rfl (Kt rfl (Kt rfl (Yp rfl (Ka rfl (Nn ?_))))))))
     refine WX.joinP (()) (S5 rfl rfl rfl rfl rfl) (by refine (Sc ?_ (S0 _)) <;> ((exact congrArg (fun b => some (Value.bool b)) (by symm; apply decide_eq_true; omega)))) ?_ (by (exact fun _ h => h))
     (try dsimp only)
     done
    ·(try simp only [sB] at hg20)
     refine Km rfl (Yh rfl (Km rfl ?_))
     refine Nb 23 rfl (fun hg23 => ?_) (fun hg23 => ?_)
     ·(try simp only [sB] at hg23)
      refine Km rfl (Ym rfl (Yp rfl (Yq rfl (Ka rfl (Nn ?_)))))
      refine WX.joinP (()) (S5 rfl rfl rfl rfl rfl) (by refine (Sc ?_ (S0 _)) <;> ((refine ai rfl ?_; (try dsimp only); (exact decide_eq_decide.2 (by omega))))) ?_ (by (exact fun _ h => h))
      (try dsimp only)
      done
     ·(try simp only [sB] at hg23)
      refine Kt rfl (Kt rfl (Yq rfl (Yq rfl (Ka rfl (Nn ?_)))))
      refine WX.joinP (()) (S5 rfl rfl rfl rfl rfl) (by refine (Sc ?_ (S0 _)) <;> ((exact congrArg (fun b => some (Value.bool b)) (by symm; apply decide_eq_false; omega)))) ?_ (by (exact fun _ h => h))
      (try dsimp only)
      done
   ·(try simp only [sB] at hg16)
    refine Kt rfl (Kt rfl (Yq rfl (Km rfl (Km rfl (Yh rfl (Km rfl ?_))))))
    refine Nb 23 rfl (fun hg23 => ?_) (fun hg23 => ?_)
    ·(try simp only [sB] at hg23)
     refine Km rfl (Ym rfl (Yp rfl (Yq rfl (Ka rfl (Nn ?_)))))
     refine WX.joinP (()) (S5 rfl rfl rfl rfl rfl) (by refine (Sc ?_ (S0 _)) <;> ((refine ai rfl ?_; (try dsimp only); (exact decide_eq_decide.2 (by omega))))) ?_ (by (exact fun _ h => h))
     (try dsimp only)
     done
    ·(try simp only [sB] at hg23)
     refine Kt rfl (Kt rfl (Yq rfl (Yq rfl (Ka rfl (Nn ?_)))))
     refine WX.joinP (()) (S5 rfl rfl rfl rfl rfl) (by refine (Sc ?_ (S0 _)) <;> ((exact congrArg (fun b => some (Value.bool b)) (by symm; apply decide_eq_false; omega)))) ?_ (by (exact fun _ h => h))
     (try dsimp only)
     done
  ·rintro _ hmeet; (try dsimp only at hmeet ⊢)
   refine WC.joinP (σ := Unit) [(0, _), (7, _), (8, _)] (fun gq => [(45, .bool (decide (¬ (((97 ≤ c.toNat ∧ c.toNat ≤ 122) ∨ (65 ≤ c.toNat ∧ c.toNat ≤ 90)) ∨ (i ≠ 0 ∧ (c.toNat = 95 ∨ (48 ≤ c.toNat ∧ c.toNat ≤ 57)))))))]) (fun gq => True) (S3 rfl rfl rfl) ?_ ?_
   ·skip
    refine Cg (Km rfl (Yt rfl (Km rfl ?_)))
    refine Nb 30 rfl (fun hg30 => ?_) (fun hg30 => ?_)
    ·(try simp only [sB] at hg30)
     refine Km rfl (Yi rfl (Km rfl ?_))
     refine Nb 33 rfl (fun hg33 => ?_) (fun hg33 => ?_)
     ·(try simp only [sB] at hg33)
      refine Kt rfl (Kt rfl (Kt rfl (Kt rfl (Kt rfl (Kt rfl (Kt rfl (Kt rfl (Kt rfl (Kt rfl (Yp rfl (Yp rfl (Nn ?_))))))))))))
      refine WX.joinP (()) (S3 rfl rfl rfl) (by refine (Sc ?_ (S0 _)) <;> ((exact congrArg (fun b => some (Value.bool b)) (by symm; apply decide_eq_true; omega)))) ?_ (by (exact fun _ h => h))
      (try dsimp only)
      done
     ·(try simp only [sB] at hg33)
      refine Km rfl (Yj rfl (Km rfl ?_))
      refine Nb 36 rfl (fun hg36 => ?_) (fun hg36 => ?_)
      ·(try simp only [sB] at hg36)
       refine Km rfl (Yl rfl (Km rfl ?_))
       refine Nb 39 rfl (fun hg39 => ?_) (fun hg39 => ?_)
       ·(try simp only [sB] at hg39)
        refine Kt rfl (Kt rfl (Yp rfl (Yp rfl (Yq rfl (Yp rfl (Nn ?_))))))
        refine WX.joinP (()) (S3 rfl rfl rfl) (by refine (Sc ?_ (S0 _)) <;> ((exact congrArg (fun b => some (Value.bool b)) (by symm; apply decide_eq_true; omega)))) ?_ (by (exact fun _ h => h))
        (try dsimp only)
        done
       ·(try simp only [sB] at hg39)
        refine Km rfl (Yg rfl (Yq rfl (Yp rfl (Yq rfl (Yp rfl (Nn ?_))))))
        refine WX.joinP (()) (S3 rfl rfl rfl) (by refine (Sc ?_ (S0 _)) <;> ((refine ai rfl ?_; (try dsimp only); (exact decide_eq_decide.2 (by omega))))) ?_ (by (exact fun _ h => h))
        (try dsimp only)
        done
      ·(try simp only [sB] at hg36)
       refine Kt rfl (Kt rfl (Kt rfl (Kt rfl (Kt rfl (Kt rfl (Yq rfl (Yq rfl (Yp rfl (Nn ?_)))))))))
       refine WX.joinP (()) (S3 rfl rfl rfl) (by refine (Sc ?_ (S0 _)) <;> ((exact congrArg (fun b => some (Value.bool b)) (by symm; apply decide_eq_false; omega)))) ?_ (by (exact fun _ h => h))
       (try dsimp only)
       done
    ·(try simp only [sB] at hg30)
     refine Kt rfl (Kt rfl (Kt rfl (Kt rfl (Kt rfl (Kt rfl (Kt rfl (Kt rfl (Kt rfl (Kt rfl (Kt rfl (Kt rfl (Kt rfl (Kt rfl (Yq rfl (Nn ?_)))))))))))))))
     refine WX.joinP (()) (S3 rfl rfl rfl) (by refine (Sc ?_ (S0 _)) <;> ((refine ai rfl ?_; (try dsimp only); (simp [*]; done)))) ?_ (by (exact fun _ h => h))
     (try dsimp only)
     done
   ·rintro _ hmeet; (try dsimp only at hmeet ⊢)
    refine Cd rfl (fun hc45 => ?_) (fun hc45 => ?_)
    ·(try simp only [sB] at hc45)
     have hno : ¬ iX s := fun h => hc45 (by have := h.1 i hil; rw [← show c = _ from hc] at this; exact this)
     refine Cs (Ka rfl (Nt (Ce (Xf (Xb (Xb (Xf (Xb ?_))))))))
     exact R1 rfl rfl (by rw [decide_eq_false hno]; rfl)
    ·(try simp only [sB] at hc45)
     have hyes : nmB i (s.getD i default) := by rw [← show c = _ from hc]; exact Decidable.not_not.1 hc45
     refine Ck (Xd (Xa (Cg (Kq rfl (Rz rfl rfl rfl (by omega)) (Km rfl (Nn ?_))))))
     refine Ly (i + 1) (by (try dsimp only); omega) (S2 rfl rfl) (by refine (Sc ?_ (S0 _)) <;> (rfl)) ?_ (by (exact fun _ h => h))
     (try dsimp only)
     exact ⟨by omega, fun j hj => by rcases Nat.lt_or_eq_of_le (Nat.le_of_lt_succ hj) with h | rfl; exact hok j h; exact hyes⟩
 ·(try simp only [sB] at hc9)
  refine Cx (Xc (Xc (Xe ?_)))
  obtain rfl : i = s.length := by omega
  have hq : iX s ↔ (s ≠ [] ∧ s.length ≤ 32) := ⟨fun h => h.2, fun h => ⟨hok, h⟩⟩
  refine Xa (Cs (Km rfl (Yr rfl (Km rfl ?_))))
  refine Nb 49 rfl (fun hg49 => ?_) (fun hg49 => ?_)
  ·(try simp only [sB] at hg49)
   refine Km rfl (Yn rfl u9 (Ym rfl (Yp rfl (Ka rfl (Nt (Ce ?_))))))
   exact R1 rfl rfl (by (rw [show decide (iX s) = decide ((s.length : Int) ≤ 32) from decide_eq_decide.2 ⟨fun h => by have := h.2.2; omega, fun h => ⟨hok, by simpa using hg49, by omega⟩⟩]; rfl))
  ·(try simp only [sB] at hg49)
   refine Kt rfl (Kt rfl (Kt rfl (Yq rfl (Ka rfl (Nt (Ce ?_))))))
   exact R1 rfl rfl (by (rw [decide_eq_false (show ¬ iX s from fun h => h.2.1 (by simpa using hg49))]; rfl))
def rJ (l : List Bs) : Prop := ∀ x ∈ l, okN x
instance (l : List Bs) : Decidable (rJ l) := inferInstanceAs (Decidable (∀ x ∈ l, _))
abbrev TabD (w : World) : Prop := Go.Proofs.TabAt (renTz.g 1) Lib.deBruijn64tab w
theorem nW {w w' : World} (h : TabD w) (hb : Below w.heap.size w w') : TabD w' := by
 intro j hj
 have h1 := h j hj
 have hlt : renTz.g 1 < w.heap.size := by
  rcases Nat.lt_or_ge (renTz.g 1) w.heap.size with q | q
  ·exact q
  ·unfold World.cell? at h1; rw [Array.getElem?_eq_none q] at h1; cases h1
 unfold World.cell? at h1 ⊢
 rw [hb.block _ hlt]; exact h1
theorem bn {ok : Nat → Prop} {w0 w : World} {own : List Ent} {fs : List Fact} (h : TabD w0) (hS : St ok w0 own fs w) : TabD w := nW h hS.below
theorem pZ : ∀ (f n : Nat), Lib.ctzFrom f n = tzA f n
 | 0, _ => rfl
 | f + 1, n => by
  rw [Lib.ctzFrom, tzA, pZ f]
  by_cases h : n % 2 = 1
  ·rw [if_pos h, if_neg (by omega)]
  ·rw [if_neg h, if_pos (by omega), Nat.add_comm]
theorem yd {n : Nat} (h : 0 < n) : Lib.ctz 64 n = tz n := by rw [Lib.ctz, if_neg (by omega), pZ]; rfl
theorem zr {n : Nat} {w : World} (hn0 : 0 < n) (hn : n < 18446744073709551616) (hD : TabD w) :
  Cw 241 #[.int .u64 (n : Int)] w (.int .i64 ((tz n : Nat) : Int)) :=
 (w8 n hn w (fun _ => hD)).mono fun _ _ ⟨h1, h2⟩ => ⟨by rw [h1, yd hn0], by rw [h2]; exact Below.refl _ _⟩
theorem l8 {a b m : Nat} {w : World} (ha : a < m) (hb : b < m) (hm : m < 18446744073709551616) :
  Cw 243 #[.int .u64 (a : Int), .int .u64 (b : Int), .int .u64 (m : Int)] w (.int .u64 ((a * b % m : Nat) : Int)) := by
 have hml : a * b < m * 18446744073709551616 := Nat.mul_lt_mul'' ha (Nat.lt_trans hb hm)
 have hhi : a * b / 18446744073709551616 < m := by rw [Nat.div_lt_iff_lt_mul (by decide)]; exact hml
 have hlo : a * b % 18446744073709551616 < 18446744073709551616 := Nat.mod_lt _ (by decide)
 have hd : a * b / 18446744073709551616 * 18446744073709551616 + a * b % 18446744073709551616 = a * b := by rw [Nat.mul_comm]; exact Nat.div_add_mod _ _
 refine En [] [(0, .int .u64 (a : Int)), (1, .int .u64 (b : Int)), (2, .int .u64 (m : Int))] Tryz.func243 rfl Tryz.ntmps243 rfl (Ac rfl (Ac rfl (Ac rfl (An _)))) Fn ?_
 refine Cs (Ka rfl (Nt (Cs (Km rfl (Km rfl ?_)))))
 refine Ku rfl (Oc rfl rfl (Kv fun w hS => ml (x := a) (y := b) (by omega) (by omega))) ?_
 refine Km rfl (Ye rfl (Ye rfl (Ka rfl (Ka rfl (Nt (Cs (Km rfl (Km rfl (Km rfl ?_)))))))))
 refine Ku rfl (Oc rfl rfl (Kv fun w hS => pW (u := a * b / 18446744073709551616) (lo := a * b % 18446744073709551616) (y := m) (by assumption) (by assumption) (by assumption))) ?_
 refine Km rfl (Ye rfl (Ye rfl (Ka rfl (Ka rfl (Nt (Cs (Km rfl (Ka rfl (Nt (Ce ?_))))))))))
 exact R1 rfl rfl (by rw [hd]; rfl)
theorem xG {a e0 m : Nat} {w : World} (ha : a < m) (he : e0 < 18446744073709551616) (hm : m < 18446744073709551616) :
  Cw 242 #[.int .u64 (a : Int), .int .u64 (e0 : Int), .int .u64 (m : Int)] w (.int .u64 ((a ^ e0 % m : Nat) : Int)) := by
 have hm0 : 0 < m := by omega
 refine En [] [(0, .int .u64 (a : Int)), (1, .int .u64 (e0 : Int)), (2, .int .u64 (m : Int))] Tryz.func242 rfl Tryz.ntmps242 rfl (Ac rfl (Ac rfl (Ac rfl (An _)))) Fn ?_
 refine Cs (Ka rfl (Nt (Cs (Km rfl ?_))))
 refine Kq rfl (bo (a := 1) rfl rfl rfl ?_) ?_
 ·assumption
 refine Ka rfl (Nt (Cq (Cb ?_)))
 refine Lp (σ := Nat × Nat × Nat) [(2, _)] (fun gq => [(0, .int .u64 (gq.2.1 : Int)), (1, .int .u64 (gq.1 : Int)), (7, .int .u64 (gq.2.2 : Int))]) (fun gq => gq.1 < 18446744073709551616 ∧ gq.2.1 < m ∧ gq.2.2 < m ∧ gq.2.2 * gq.2.1 ^ gq.1 % m = a ^ e0 % m) (fun gq => gq.1) (e0, a, 1 % m) (S1 rfl) (S3 rfl rfl rfl) (by (try dsimp only); exact ⟨he, ha, Nat.mod_lt _ hm0, by rw [mml, Nat.one_mul]⟩) ?_
 rintro ⟨n, b, x⟩ hinv1; (try dsimp only at hinv1 ⊢)
 obtain ⟨hn, hb, hx, hi⟩ := hinv1
 refine Cq (Cs (Km rfl (Yg rfl (Nt ?_))))
 refine Cd rfl (fun hc11 => ?_) (fun hc11 => ?_)
 ·(try simp only [sB] at hc11)
  have hnp : 0 < n := by omega
  refine Ck (Xa (Cq (Cb (Cq (Cs (Km rfl ?_))))))
  refine Kq rfl (bo (c := 2) rfl rfl rfl ?_) ?_
  ·omega
  refine Yi rfl (Nt ?_)
  refine Cd rfl (fun hc16 => ?_) (fun hc16 => ?_)
  ·(try simp only [sB] at hc16)
   refine Cg (Km rfl (Km rfl (Km rfl ?_)))
   refine Ku rfl (Oc rfl rfl (Kv fun w hS => l8 (a := x) (b := b) (m := m) (by assumption) (by assumption) (by assumption))) ?_
   refine Ka rfl (Nt (Cg (Km rfl (Km rfl (Km rfl ?_)))))
   refine Ku rfl (Oc rfl rfl (Kv fun w hS => l8 (a := b) (b := b) (m := m) (by assumption) (by assumption) (by assumption))) ?_
   refine Ka rfl (Nn (Xd (Xa (Cg (Km rfl ?_)))))
   refine Kq rfl (cg (c := 2) rfl rfl rfl ?_) ?_
   ·omega
   refine Ka rfl (Nn ?_)
   refine Ly ((n / 2, b * b % m, x * b % m)) (by (try dsimp only); omega) (S1 rfl) (by refine (Sc ?_ (Sc ?_ (Sc ?_ (S0 _)))) <;> (rfl)) ?_ (by (exact fun _ h => h))
   (try dsimp only)
   exact ⟨by omega, Nat.mod_lt _ hm0, Nat.mod_lt _ hm0, by rw [nj (by omega) hnp, hi]⟩
  ·(try simp only [sB] at hc16)
   refine Ck (Xa (Cg (Km rfl (Km rfl (Km rfl ?_)))))
   refine Ku rfl (Oc rfl rfl (Kv fun w hS => l8 (a := b) (b := b) (m := m) (by assumption) (by assumption) (by assumption))) ?_
   refine Ka rfl (Nn (Xd (Xa (Cg (Km rfl ?_)))))
   refine Kq rfl (cg (c := 2) rfl rfl rfl ?_) ?_
   ·omega
   refine Ka rfl (Nn ?_)
   refine Ly ((n / 2, b * b % m, x)) (by (try dsimp only); omega) (S1 rfl) (by refine (Sc ?_ (Sc ?_ (Sc ?_ (S0 _)))) <;> (rfl)) ?_ (by (exact fun _ h => h))
   (try dsimp only)
   exact ⟨by omega, Nat.mod_lt _ hm0, hx, by rw [nk (by omega), hi]⟩
 ·(try simp only [sB] at hc11)
  refine Cx (Xc (Xc (Xe ?_)))
  obtain rfl : n = 0 := by omega
  rw [Nat.pow_zero, Nat.mul_one, Nat.mod_eq_of_lt hx] at hi
  refine Xa (Cs (Km rfl (Ka rfl (Nt (Ce ?_)))))
  exact R1 rfl rfl (by rw [hi]; rfl)
theorem kF {a b m : Nat} {w : World} (ha : a < m) (hb : b < m) (hm : m < 18446744073709551616) :
  Cw 269 #[.int .u64 (a : Int), .int .u64 (b : Int), .int .u64 (m : Int)] w (.int .u64 (((a + b) % m : Nat) : Int)) := by
 refine En [] [(0, .int .u64 (a : Int)), (1, .int .u64 (b : Int)), (2, .int .u64 (m : Int))] Tryz.func269 rfl Tryz.ntmps269 rfl (Ac rfl (Ac rfl (Ac rfl (An _)))) Fn ?_
 refine Cs (Ka rfl (Nt (Cq (Cs (Km rfl (Km rfl (Km rfl (Kq rfl (bJ rfl rfl rfl (by omega)) (Yh rfl (Nt ?_))))))))))
 refine Cd rfl (fun hc11 => ?_) (fun hc11 => ?_)
 ·(try simp only [sB] at hc11)
  have hr : (a + b) % m = a - (m - b) := by
   rw [show a + b = m + (a - (m - b)) by omega, Nat.add_mod_left, Nat.mod_eq_of_lt (by omega)]
  refine Cs (Km rfl (Km rfl (Km rfl (Kq rfl (bJ rfl rfl rfl (by omega)) (Kq rfl (bJ rfl rfl rfl (by omega)) (Ka rfl (Nt (Ce (Xb ?_)))))))))
  exact R1 rfl rfl (by rw [hr]; rfl)
 ·(try simp only [sB] at hc11)
  have hr : (a + b) % m = a + b := Nat.mod_eq_of_lt (by omega)
  refine Ck (Xa (Cs (Km rfl (Km rfl (Kq rfl (bG rfl rfl rfl (by omega)) (Ka rfl (Nt (Ce ?_))))))))
  exact R1 rfl rfl (by rw [hr]; rfl)
theorem g9 {a b0 m : Nat} {w : World} (ha : a < m) (hb : b0 < m) (hm : m < 18446744073709551616) :
  Cw 261 #[.int .u64 (a : Int), .int .u64 (b0 : Int), .int .u64 (m : Int)] w (.int .u64 ((a * b0 % m : Nat) : Int)) := by
 refine En [] [(0, .int .u64 (a : Int)), (1, .int .u64 (b0 : Int)), (2, .int .u64 (m : Int))] Tryz.func261 rfl Tryz.ntmps261 rfl (Ac rfl (Ac rfl (Ac rfl (An _)))) Fn ?_
 refine Cs (Ka rfl (Nt (Cq (Cs (Km rfl (Yl rfl (Nt ?_)))))))
 refine Cd rfl (fun hc9 => ?_) (fun hc9 => ?_)
 ·(try simp only [sB] at hc9)
  have hml : a * b0 < 18446744073709551616 := Nat.lt_of_lt_of_le (Nat.mul_lt_mul'' (by omega : a < 4294967296) (by omega : b0 < 4294967296)) (by decide)
  refine Cs (Km rfl (Km rfl (Kq rfl (bu rfl rfl rfl (by assumption)) (Km rfl ?_))))
  refine Kq rfl (bo rfl rfl rfl ?_) ?_
  ·omega
  refine Ka rfl (Nt (Ce (Xb ?_)))
  exact R1 rfl rfl (by rfl)
 ·(try simp only [sB] at hc9)
  refine Ck (Xa (Cs (Ka rfl (Nt (Cq (Cb ?_))))))
  refine Lp (σ := Nat × Nat × Nat) [(2, _)] (fun gq => [(0, .int .u64 (gq.2.1 : Int)), (1, .int .u64 (gq.1 : Int)), (7, .int .u64 (gq.2.2 : Int))]) (fun gq => gq.1 < 18446744073709551616 ∧ gq.2.1 < m ∧ gq.2.2 < m ∧ (gq.2.2 + gq.2.1 * gq.1) % m = a * b0 % m) (fun gq => gq.1) (b0, a, 0) (S1 rfl) (S3 rfl rfl rfl) (by (try dsimp only); exact ⟨by omega, ha, by omega, by rw [Nat.zero_add]⟩) ?_
  rintro ⟨n, b, x⟩ hinv1; (try dsimp only at hinv1 ⊢)
  obtain ⟨hn, hb2, hx, hi⟩ := hinv1
  refine Cq (Cs (Km rfl (Yg rfl (Nt ?_))))
  refine Cd rfl (fun hc16 => ?_) (fun hc16 => ?_)
  ·(try simp only [sB] at hc16)
   have hnp : 0 < n := by omega
   refine Ck (Xa (Cb (Cq (Cs (Km rfl ?_)))))
   refine Kq rfl (bo (c := 2) rfl rfl rfl ?_) ?_
   ·omega
   refine Yi rfl (Nt ?_)
   refine Cd rfl (fun hc19 => ?_) (fun hc19 => ?_)
   ·(try simp only [sB] at hc19)
    refine Cg (Km rfl (Km rfl (Km rfl ?_)))
    refine Ku rfl (Oc rfl rfl (Kv fun w hS => kF (a := x) (b := b) (m := m) (by assumption) (by assumption) (by assumption))) ?_
    refine Ka rfl (Nt (Cs (Km rfl (Km rfl (Km rfl ?_)))))
    refine Ku rfl (Oc rfl rfl (Kv fun w hS => kF (a := b) (b := b) (m := m) (by assumption) (by assumption) (by assumption))) ?_
    refine Ka rfl (Nt (Cg (Km rfl ?_)))
    refine Kq rfl (cg (c := 2) rfl rfl rfl ?_) ?_
    ·omega
    refine Ka rfl (Nn (Xd ?_))
    refine Ly ((n / 2, (b + b) % m, (x + b) % m)) (by (try dsimp only); omega) (S1 rfl) (by refine (Sc ?_ (Sc ?_ (Sc ?_ (S0 _)))) <;> (rfl)) ?_ (by (exact fun _ h => h))
    (try dsimp only)
    exact ⟨by omega, Nat.mod_lt _ (by omega), Nat.mod_lt _ (by omega), by
     rw [← hi, Nat.add_mod, Nat.mod_mod, mml, ← Nat.add_mod]; congr 1
     have e : n = 2 * (n / 2) + 1 := by omega
     conv => rhs; rw [e]
     rw [Nat.mul_add, Nat.mul_one, ← Nat.two_mul, Nat.mul_assoc, Nat.mul_left_comm]; omega⟩
   ·(try simp only [sB] at hc19)
    refine Ck (Xa (Cs (Km rfl (Km rfl (Km rfl ?_)))))
    refine Ku rfl (Oc rfl rfl (Kv fun w hS => kF (a := b) (b := b) (m := m) (by assumption) (by assumption) (by assumption))) ?_
    refine Ka rfl (Nt (Cg (Km rfl ?_)))
    refine Kq rfl (cg (c := 2) rfl rfl rfl ?_) ?_
    ·omega
    refine Ka rfl (Nn (Xd ?_))
    refine Ly ((n / 2, (b + b) % m, x)) (by (try dsimp only); omega) (S1 rfl) (by refine (Sc ?_ (Sc ?_ (Sc ?_ (S0 _)))) <;> (rfl)) ?_ (by (exact fun _ h => h))
    (try dsimp only)
    exact ⟨by omega, Nat.mod_lt _ (by omega), hx, by
     rw [← hi, Nat.add_mod, mml, ← Nat.add_mod]; congr 1
     have e : n = 2 * (n / 2) := by omega
     conv => rhs; rw [e]
     rw [← Nat.two_mul, Nat.mul_assoc, Nat.mul_left_comm]⟩
  ·(try simp only [sB] at hc16)
   refine Cx (Xc (Xc (Xe ?_)))
   obtain rfl : n = 0 := by omega
   rw [Nat.mul_zero, Nat.add_zero, Nat.mod_eq_of_lt hx] at hi
   refine Xa (Cs (Km rfl (Ka rfl (Nt (Ce ?_)))))
   exact R1 rfl rfl (by rw [hi]; rfl)
theorem tG {a e0 m : Nat} {w : World} (ha : a < m) (he : e0 < 18446744073709551616) (hm : m < 18446744073709551616) :
  Cw 260 #[.int .u64 (a : Int), .int .u64 (e0 : Int), .int .u64 (m : Int)] w (.int .u64 ((a ^ e0 % m : Nat) : Int)) := by
 have hm0 : 0 < m := by omega
 refine En [] [(0, .int .u64 (a : Int)), (1, .int .u64 (e0 : Int)), (2, .int .u64 (m : Int))] Tryz.func260 rfl Tryz.ntmps260 rfl (Ac rfl (Ac rfl (Ac rfl (An _)))) Fn ?_
 refine Cs (Ka rfl (Nt (Cs (Km rfl ?_))))
 refine Kq rfl (bo (a := 1) rfl rfl rfl ?_) ?_
 ·assumption
 refine Ka rfl (Nt (Cq (Cb ?_)))
 refine Lp (σ := Nat × Nat × Nat) [(2, _)] (fun gq => [(0, .int .u64 (gq.2.1 : Int)), (1, .int .u64 (gq.1 : Int)), (7, .int .u64 (gq.2.2 : Int))]) (fun gq => gq.1 < 18446744073709551616 ∧ gq.2.1 < m ∧ gq.2.2 < m ∧ gq.2.2 * gq.2.1 ^ gq.1 % m = a ^ e0 % m) (fun gq => gq.1) (e0, a, 1 % m) (S1 rfl) (S3 rfl rfl rfl) (by (try dsimp only); exact ⟨he, ha, Nat.mod_lt _ hm0, by rw [mml, Nat.one_mul]⟩) ?_
 rintro ⟨n, b, x⟩ hinv1; (try dsimp only at hinv1 ⊢)
 obtain ⟨hn, hb, hx, hi⟩ := hinv1
 refine Cq (Cs (Km rfl (Yg rfl (Nt ?_))))
 refine Cd rfl (fun hc11 => ?_) (fun hc11 => ?_)
 ·(try simp only [sB] at hc11)
  have hnp : 0 < n := by omega
  refine Ck (Xa (Cb (Cq (Cs (Km rfl ?_)))))
  refine Kq rfl (bo (c := 2) rfl rfl rfl ?_) ?_
  ·omega
  refine Yi rfl (Nt ?_)
  refine Cd rfl (fun hc14 => ?_) (fun hc14 => ?_)
  ·(try simp only [sB] at hc14)
   refine Cg (Km rfl (Km rfl (Km rfl ?_)))
   refine Ku rfl (Oc rfl rfl (Kv fun w hS => g9 (a := x) (b0 := b) (m := m) (by assumption) (by assumption) (by assumption))) ?_
   refine Ka rfl (Nt (Cs (Km rfl (Km rfl (Km rfl ?_)))))
   refine Ku rfl (Oc rfl rfl (Kv fun w hS => g9 (a := b) (b0 := b) (m := m) (by assumption) (by assumption) (by assumption))) ?_
   refine Ka rfl (Nt (Cg (Km rfl ?_)))
   refine Kq rfl (cg (c := 2) rfl rfl rfl ?_) ?_
   ·omega
   refine Ka rfl (Nn (Xd ?_))
   refine Ly ((n / 2, b * b % m, x * b % m)) (by (try dsimp only); omega) (S1 rfl) (by refine (Sc ?_ (Sc ?_ (Sc ?_ (S0 _)))) <;> (rfl)) ?_ (by (exact fun _ h => h))
   (try dsimp only)
   exact ⟨by omega, Nat.mod_lt _ hm0, Nat.mod_lt _ hm0, by rw [nj (by omega) hnp, hi]⟩
  ·(try simp only [sB] at hc14)
   refine Ck (Xa (Cs (Km rfl (Km rfl (Km rfl ?_)))))
   refine Ku rfl (Oc rfl rfl (Kv fun w hS => g9 (a := b) (b0 := b) (m := m) (by assumption) (by assumption) (by assumption))) ?_
   refine Ka rfl (Nt (Cg (Km rfl ?_)))
   refine Kq rfl (cg (c := 2) rfl rfl rfl ?_) ?_
   ·omega
   refine Ka rfl (Nn (Xd ?_))
   refine Ly ((n / 2, b * b % m, x)) (by (try dsimp only); omega) (S1 rfl) (by refine (Sc ?_ (Sc ?_ (Sc ?_ (S0 _)))) <;> (rfl)) ?_ (by (exact fun _ h => h))
   (try dsimp only)
   exact ⟨by omega, Nat.mod_lt _ hm0, hx, by rw [nk (by omega), hi]⟩
 ·(try simp only [sB] at hc11)
  refine Cx (Xc (Xc (Xe ?_)))
  obtain rfl : n = 0 := by omega
  rw [Nat.pow_zero, Nat.mul_one, Nat.mod_eq_of_lt hx] at hi
  refine Xa (Cs (Km rfl (Ka rfl (Nt (Ce ?_)))))
  exact R1 rfl rfl (by rw [hi]; rfl)
theorem nm {w : World} :
  Cw 240 #[] w (.agg (ps12.map vU).toArray) := by
 refine En [] [] Tryz.func240 rfl Tryz.ntmps240 rfl (An _) Fn ?_
 refine Cs ?_
 refine Kh rfl (Oz [.int .u64 0, .int .u64 0, .int .u64 0, .int .u64 0, .int .u64 0, .int .u64 0, .int .u64 0, .int .u64 0, .int .u64 0, .int .u64 0, .int .u64 0, .int .u64 0] rfl) ?_
 intro b0
 refine Nt (Cs ?_)
 refine Kq rfl (j6 rfl rfl (v := .agg #[.int .u64 2, .int .u64 3, .int .u64 5, .int .u64 7, .int .u64 11, .int .u64 13, .int .u64 17, .int .u64 19, .int .u64 23, .int .u64 29, .int .u64 31, .int .u64 37]) (fun w => by kernel_rfl)) ?_
 refine Nu rfl rfl (Sa rfl rfl rfl .tc) ?_
 refine Nt (Ce ?_)
 exact WX.ret1c (cs := ps12.map vU) rfl rfl .here w4 rfl (by kernel_rfl) fun w' hS => ⟨rfl, hS.below⟩
theorem yw {n : Nat} {w : World} (hn : n < 18446744073709551616) (hD : TabD w) :
  Cw 207 #[.int .u64 (n : Int)] w (.bool (isP n)) := by
 refine En [] [(0, .int .u64 (n : Int))] Tryz.func207 rfl Tryz.ntmps207 rfl (Ac rfl (An _)) Fn ?_
 refine Cs (Ka rfl (Nt ?_))
 refine WC.scope ?_
 refine Cq (Cs (Km rfl (Yl rfl (Nt ?_))))
 refine Cd rfl (fun hc12 => ?_) (fun hc12 => ?_)
 ·(try simp only [sB] at hc12)
  refine Cs (Ka rfl (Nt (Ce (Xb ?_))))
  refine WX.scope_ret ?_
  exact R1 rfl rfl (by rw [isP, if_pos (by omega)]; rfl)
 ·(try simp only [sB] at hc12)
  have hn2 : ¬ n < 2 := by omega
  refine Ck (Xa (Cq (Cs ?_)))
  refine Ku rfl (Oc rfl rfl (Kv fun w hS => nm)) ?_
  refine Km rfl (Nt (Cb ?_))
  refine Lp (σ := Nat) [(0, _), (13, _)] (fun gq => [(14, .int .i64 (gq : Int))]) (fun gq => gq ≤ 12 ∧ tdiv n (ps12.drop gq) = tdiv n ps12) (fun gq => 12 - gq) (0) (S2 rfl rfl) (S1 rfl) (by (try dsimp only); exact ⟨by omega, rfl⟩) ?_
  rintro k hinv1; (try dsimp only at hinv1 ⊢)
  obtain ⟨hk, htd⟩ := hinv1
  refine Cs (Yl rfl (Nt (Cq ?_)))
  refine Cd rfl (fun hc15 => ?_) (fun hc15 => ?_)
  ·(try simp only [sB] at hc15)
   have hk12 : k < 12 := by omega
   have hpb := pn hk12
   rw [kW n hk12] at htd
   refine Ck (Xa (Cq (Cb (Cs ?_))))
   refine Kq rfl (jp rfl rfl rfl w4 u76 rfl (by kernel_rfl) ?_ (by (rw [Int.toNat_natCast]; exact l9 hk12))) ?_
   ·omega
   refine Ka rfl (Nt (Cs (Km rfl (Km rfl ?_))))
   refine Kq rfl (bo rfl rfl rfl ?_) ?_
   ·omega
   refine Yi rfl (Nt ?_)
   refine Cd rfl (fun hc20 => ?_) (fun hc20 => ?_)
   ·(try simp only [sB] at hc20)
    rw [if_pos (by omega)] at htd
    refine Cs (Km rfl (Km rfl (Yi rfl (Ka rfl (Nt (Ce (Xf (Xb (Xb (Xf (Xb ?_)))))))))))
    refine WX.scope_ret ?_
    exact R1 rfl rfl (by rw [ki hn2 htd.symm]; exact congrArg Ending.returned (congrArg Value.bool (decide_eq_decide.2 (by omega))))
   ·(try simp only [sB] at hc20)
    rw [if_neg (by omega)] at htd
    refine Ck (Xd (Xa (Cg (Kq rfl (Rz rfl rfl rfl (by omega)) (Km rfl (Nn ?_))))))
    refine Ly (k + 1) (by (try dsimp only); omega) (S2 rfl rfl) (by refine (Sc ?_ (S0 _)) <;> (rfl)) ?_ (by (exact fun _ h => h))
    (try dsimp only)
    exact ⟨by omega, htd⟩
  ·(try simp only [sB] at hc15)
   refine Cx (Xc (Xc (Xe ?_)))
   obtain rfl : k = 12 := by omega
   have hno : tdiv n ps12 = none := htd.symm
   have hodd := iA hno 2 (by decide)
   have htp := w7 (n := n - 1) (by omega)
   have htl := yn (n - 1)
   obtain ⟨s, hs⟩ : ∃ s, s = tz (n - 1) := ⟨_, rfl⟩
   obtain ⟨d, hd⟩ : ∃ d, d = (n - 1) / 2 ^ s := ⟨_, rfl⟩
   have hdn : d < 18446744073709551616 := by rw [hd]; exact Nat.lt_of_le_of_lt (Nat.div_le_self _ _) (by omega)
   have hst : ∀ a, stN n a = rV n a s d := fun a => by rw [hd, hs]; rfl
   refine Xa (Cs (Km rfl (Kq rfl (bJ (c := 1) rfl rfl rfl (by omega)) ?_)))
   refine Ku rfl (Oc rfl rfl (Kv fun w hS => zr (n := n - 1) (by omega) (by omega) (by (exact bn hD hS)))) ?_
   refine Ns 27 rfl (v' := .int .i64 ((s : Nat) : Int)) (congrArg (Value.int .i64) (by rw [hs])) ?_
   refine Ka rfl (Nt (Cs (Km rfl (Kq rfl (bJ (c := 1) rfl rfl rfl (by omega)) (Km rfl ?_)))))
   refine Kq rfl (bq rfl rfl rfl (by (show _ ≤ 64; omega))) ?_
   refine Ns 31 rfl (v' := .int .u64 ((d : Nat) : Int)) (congrArg (Value.int .u64) (by rw [hd])) ?_
   refine Ka rfl (Nt (Cq ?_))
   refine WC.label ?_
   refine Xa (Cq (Cs ?_))
   refine Ku rfl (Oc rfl rfl (Kv fun w hS => nm)) ?_
   refine Km rfl (Nt (Cb ?_))
   refine Lp (σ := Nat) [(0, _), (5, _), (6, _), (32, _)] (fun gq => [(33, .int .i64 (gq : Int))]) (fun gq => gq ≤ 12 ∧ (ps12.drop gq).all (stN n) = ps12.all (stN n)) (fun gq => 12 - gq) (0) (S4 rfl rfl rfl rfl) (S1 rfl) (by (try dsimp only); exact ⟨by omega, rfl⟩) ?_
   rintro j hinv2; (try dsimp only at hinv2 ⊢)
   obtain ⟨hj, hall⟩ := hinv2
   refine Cs (Yl rfl (Nt (Cq ?_)))
   refine Cd rfl (fun hc34 => ?_) (fun hc34 => ?_)
   ·(try simp only [sB] at hc34)
    have hj12 : j < 12 := by omega
    have hjb := pn hj12
    rw [nM _ hj12] at hall
    have hjn : pk j % n < n := Nat.mod_lt _ (by omega)
    obtain ⟨x0, hx0⟩ : ∃ x, x = pk j ^ d % n := ⟨_, rfl⟩
    have hpx : (pk j % n) ^ d % n = x0 := by rw [hx0]; exact (Nat.pow_mod (pk j) d n).symm
    have hxl : x0 < n := by rw [hx0]; exact Nat.mod_lt _ (by omega)
    have hsj : stN n (pk j) = (decide (x0 = 1) || sqs n s x0) := by rw [hst, rV, ← hx0]
    refine Ck (Xa (Cq (Cb (Cs ?_))))
    refine Kq rfl (jp rfl rfl rfl w4 u76 rfl (by kernel_rfl) ?_ (by (rw [Int.toNat_natCast]; exact l9 hj12))) ?_
    ·omega
    refine Ka rfl (Nt (Cs (Km rfl (Km rfl ?_))))
    refine Kq rfl (bo rfl rfl rfl ?_) ?_
    ·omega
    refine Km rfl (Km rfl ?_)
    refine Ku rfl (Oc rfl rfl (Kv fun w hS => xG (a := pk j % n) (e0 := d) (m := n) (by assumption) (by assumption) (by assumption))) ?_
    refine Ns 41 rfl (v' := .int .u64 ((x0 : Nat) : Int)) (congrArg (Value.int .u64) (by rw [hpx])) ?_
    refine Ka rfl (Nt (Cq (Cs (Km rfl (Yi rfl (Km rfl ?_))))))
    refine Nb 44 rfl (fun hg44 => ?_) (fun hg44 => ?_)
    ·(try simp only [sB] at hg44)
     refine Kt rfl (Kt rfl (Kt rfl (Kt rfl (Yp rfl (Nt ?_)))))
     refine Cd rfl (fun _ => ?_) (fun h => by cases h)
     have hstr : stN n (pk j) = true := by rw [hsj, decide_eq_true (by omega)]; rfl
     refine Cx (Xc (Xe (Xa (Cg (Kq rfl (Rz rfl rfl rfl (by omega)) (Km rfl (Nn ?_)))))))
     refine Ly (j + 1) (by (try dsimp only); omega) (S4 rfl rfl rfl rfl) (by refine (Sc ?_ (S0 _)) <;> (rfl)) ?_ (by (exact fun _ h => h))
     (try dsimp only)
     exact ⟨by omega, by rw [← hall, hstr, Bool.true_and]⟩
    ·(try simp only [sB] at hg44)
     refine Km rfl (Km rfl (Kq rfl (bJ (c := 1) rfl rfl rfl (by omega)) (Yi rfl (Yq rfl (Nt ?_)))))
     refine Cd rfl (fun hc49 => ?_) (fun hc49 => ?_)
     ·(try simp only [sB] at hc49)
      have hstr : stN n (pk j) = true := by rw [hsj, lT (by omega) (by omega), Bool.or_true]
      refine Cx (Xc (Xe (Xa (Cg (Kq rfl (Rz rfl rfl rfl (by omega)) (Km rfl (Nn ?_)))))))
      refine Ly (j + 1) (by (try dsimp only); omega) (S4 rfl rfl rfl rfl) (by refine (Sc ?_ (S0 _)) <;> (rfl)) ?_ (by (exact fun _ h => h))
      (try dsimp only)
      exact ⟨by omega, by rw [← hall, hstr, Bool.true_and]⟩
     ·(try simp only [sB] at hc49)
      have hx1 : ¬ x0 = 1 := by omega
      have hxm : x0 ≠ n - 1 := by omega
      rw [decide_eq_false hx1, Bool.false_or] at hsj
      refine Ck (Xa (Cq (Cs (Ka rfl (Nt (Cb ?_))))))
      refine Lp (σ := Nat × Nat) [(0, _), (5, _), (6, _), (32, _), (33, _)] (fun gq => [(10, .int .i64 (gq.1 : Int)), (9, .int .u64 (gq.2 : Int))]) (fun gq => 1 ≤ gq.1 ∧ gq.1 ≤ s ∧ gq.2 < n ∧ gq.2 ≠ n - 1 ∧ sqs n (s - gq.1 + 1) gq.2 = sqs n s x0) (fun gq => s - gq.1) (1, x0) (S5 rfl rfl rfl rfl rfl) (S2 rfl rfl) (by (try dsimp only); exact ⟨by omega, by omega, hxl, hxm, by rw [Nat.sub_add_cancel (by omega)]⟩) ?_
      rintro ⟨i, x⟩ hinv3; (try dsimp only at hinv3 ⊢)
      obtain ⟨hi1, his, hxn, hxm1, hsq⟩ := hinv3
      refine Cq (Cs (Km rfl (Km rfl (Yl rfl (Nt ?_)))))
      refine Cd rfl (fun hc52 => ?_) (fun hc52 => ?_)
      ·(try simp only [sB] at hc52)
       rw [jO (by omega) hxm1, Nat.add_sub_cancel] at hsq
       have hx2 : x * x % n < n := Nat.mod_lt _ (by omega)
       refine Ck (Xa (Cq (Cb (Cs (Km rfl (Km rfl (Km rfl ?_)))))))
       refine Ku rfl (Oc rfl rfl (Kv fun w hS => l8 (a := x) (b := x) (m := n) (by assumption) (by assumption) (by assumption))) ?_
       refine Ka rfl (Nt (Cs (Km rfl (Km rfl (Kq rfl (bJ (c := 1) rfl rfl rfl (by omega)) (Yi rfl (Nt ?_)))))))
       refine Cd rfl (fun hc62 => ?_) (fun hc62 => ?_)
       ·(try simp only [sB] at hc62)
        have hstr : stN n (pk j) = true := by rw [hsj, ← hsq]; exact lT (by omega) (by omega)
        refine Cx ?_
        refine WX.block_other rfl ?_
        refine Xc (Xc ?_)
        refine WX.block_other rfl ?_
        refine Xc (Xe (Xa (Cg (Kq rfl (Rz rfl rfl rfl (by omega)) (Km rfl (Nn ?_))))))
        refine Ly (j + 1) (by (try dsimp only); omega) (S4 rfl rfl rfl rfl) (by refine (Sc ?_ (S0 _)) <;> (rfl)) ?_ (by (exact fun _ h => h))
        (try dsimp only)
        exact ⟨by omega, by rw [← hall, hstr, Bool.true_and]⟩
       ·(try simp only [sB] at hc62)
        refine Ck (Xd (Xa (Cg (Km rfl (Kq rfl (Rz rfl rfl rfl (by omega)) (Ka rfl (Nn ?_)))))))
        refine Ly ((i + 1, x * x % n)) (by (try dsimp only); omega) (S5 rfl rfl rfl rfl rfl) (by refine (Sc ?_ (Sc ?_ (S0 _))) <;> (rfl)) ?_ (by (exact fun _ h => h))
        (try dsimp only)
        exact ⟨by omega, by omega, hx2, by omega, by rw [← hsq, show s - (i + 1) + 1 = s - i by omega]⟩
      ·(try simp only [sB] at hc52)
       refine Cx (Xc (Xc (Xe ?_)))
       have hstr : stN n (pk j) = false := by rw [hsj, ← hsq, show s - i = 0 by omega, jO (by omega) hxm1]; rfl
       refine Xa (Cs (Ka rfl (Nt (Ce (Xf (Xb (Xb (Xf (Xb ?_)))))))))
       refine WX.scope_ret ?_
       exact R1 rfl rfl (by rw [ig hn2 hno, ← hall, hstr]; rfl)
   ·(try simp only [sB] at hc34)
    refine Cx (Xc (Xc (Xe ?_)))
    obtain rfl : j = 12 := by omega
    refine Xa (Cs (Ka rfl (Nt (Ce ?_))))
    refine WX.scope_ret ?_
    exact R1 rfl rfl (by rw [ig hn2 hno, ← hall]; rfl)
theorem qr (a : Bs) : (aO a).1 < 18446744073709551616 := by
 rw [aO]; split
 ·rename_i h; exact dK h.2
 ·decide
def de (a : Bs) : Bool × Int := if ¬ okN a then (false, 3) else if 8 < a.length then (false, 5) else (isP (val a), 0)
def kv (a : Bs) : Int := if okN a then if 8 < a.length then 5 else 0 else 3
theorem qJ {a : Bs} (h : kv a = 0) : de a = (isP (aO a).1, 0) := by
 unfold kv at h; split at h
 ·rename_i h1; split at h
  ·simp at h
  ·rename_i h2; rw [de, if_neg (fun h => h h1), if_neg h2, aO, if_pos ⟨h1, by omega⟩]
 ·simp at h
theorem qK {a : Bs} (h : ¬ kv a = 0) : de a = (false, kv a) := by
 by_cases h1 : okN a
 ·by_cases h2 : 8 < a.length
  ·rw [de, if_neg (fun h => h h1), if_pos h2, kv, if_pos h1, if_pos h2]
  ·exact absurd (by rw [kv, if_pos h1, if_neg h2]) h
 ·rw [de, if_pos h1, kv, if_neg h1]
theorem fC {a : Bs} (h : okN a) (h8 : a.length ≤ 8) : de a = (isP (val a), 0) := by rw [de, if_neg (fun h1 => h1 h), if_neg (by omega)]
theorem sL {a : Bs} {w : World} :
  Cw 206 #[.string (S a)] w (.tuple #[.int .u64 ((aO a).1 : Int), .int .i64 (kv a)]) := by
 refine En [] [(0, .string (S a))] Tryz.func206 rfl Tryz.ntmps206 rfl (Ac rfl (An _)) Fn ?_
 refine Cs (Ka rfl (Ka rfl (Nt (Cq (Cs (Km rfl ?_))))))
 refine Ku rfl (Oc rfl rfl (Kv fun w hS => av (a := a))) ?_
 refine Yt rfl (Nt ?_)
 refine Cd rfl (fun hc8 => ?_) (fun hc8 => ?_)
 ·(try simp only [sB] at hc8)
  refine Cs (Ka rfl (Ka rfl (Nt (Ce (Xb ?_)))))
  exact R2 rfl rfl rfl (by rw [aO, if_neg (fun h => hc8 h.1), kv, if_neg hc8]; rfl)
 ·(try simp only [sB] at hc8)
  have hok : okN a := by simpa using hc8
  have hal := hok.1
  refine Ck (Xa (Cs (Km rfl ?_)))
  refine Ku rfl (Oc rfl rfl (Kv fun w hS => dY (a := a) (by omega))) ?_
  refine Km rfl (Ye rfl (Ye rfl (Ka rfl (Ka rfl (Nt (Cq (Cs (Km rfl (Yt rfl (Nt ?_))))))))))
  refine Cd rfl (fun hc15 => ?_) (fun hc15 => ?_)
  ·(try simp only [sB] at hc15)
   have h8 : ¬ a.length ≤ 8 := fun h => by simp [aO, hok, h] at hc15
   refine Cs (Ka rfl (Ka rfl (Nt (Ce (Xb ?_)))))
   exact R2 rfl rfl rfl (by rw [aO, if_neg (fun h => h8 h.2), kv, if_pos hok, if_pos (by omega)]; rfl)
  ·(try simp only [sB] at hc15)
   have h8 : a.length ≤ 8 := Decidable.byContradiction fun h => by simp [aO, hok, h] at hc15
   refine Ck (Xa (Cs (Km rfl (Ka rfl (Ka rfl (Nt (Ce ?_)))))))
   exact R2 rfl rfl rfl (by rw [kv, if_pos hok, if_neg (by omega)]; rfl)
theorem pm {a : Bs} {w : World} (hD : TabD w) :
  Cw 169 #[.string (S a)] w (.tuple #[.bool (de a).1, .int .i64 (de a).2]) := by
 have hsl := qr a
 refine En [] [(0, .string (S a))] Tryz.func169 rfl Tryz.ntmps169 rfl (Ac rfl (An _)) Fn ?_
 refine Cs (Ka rfl (Ka rfl (Nt (Cs (Km rfl ?_)))))
 refine Ku rfl (Oc rfl rfl (Kv fun w hS => sL (a := a))) ?_
 refine Km rfl (Ye rfl (Ye rfl (Ka rfl (Ka rfl (Nt (Cs (Km rfl (Yi rfl (Km rfl ?_)))))))))
 refine Nb 13 rfl (fun hg13 => ?_) (fun hg13 => ?_)
 ·(try simp only [sB] at hg13)
  refine Km rfl ?_
  refine Ku rfl (Oc rfl rfl (Kv fun w hS => yw (n := (aO a).1) (by assumption) (by (exact bn hD hS)))) ?_
  refine Yp rfl (Km rfl (Ka rfl (Ka rfl (Nt (Ce ?_)))))
  exact R2 rfl rfl rfl (by (rw [qJ hg13, hg13]; rfl))
 ·(try simp only [sB] at hg13)
  refine Kt rfl (Kt rfl (Yq rfl (Km rfl (Ka rfl (Ka rfl (Nt (Ce ?_)))))))
  exact R2 rfl rfl rfl (by (rw [qK hg13]; rfl))
theorem qy {a : Bs} {w : World} :
  Cw 208 #[.string (S a)] w (.bool (decide (okN a))) := by
 have hci := yu a
 refine En [] [(0, .string (S a))] Tryz.func208 rfl Tryz.ntmps208 rfl (Ac rfl (An _)) Fn ?_
 refine Cs (Ka rfl (Nt (Cs (Km rfl (Yn rfl u22 (Ym rfl (Km rfl ?_)))))))
 refine Nb 6 rfl (fun hg6 => ?_) (fun hg6 => ?_)
 ·(try simp only [sB] at hg6)
  refine Km rfl (Yn rfl u22 (Yi rfl (Km rfl ?_)))
  refine Nb 10 rfl (fun hg10 => ?_) (fun hg10 => ?_)
  ·(try simp only [sB] at hg10)
   refine Kt rfl (Kt rfl (Kt rfl (Yp rfl (Yp rfl (Ka rfl (Nt (Ce ?_)))))))
   exact Rn rfl (.tmp rfl .nil) fun w' hS => ⟨congrArg (fun b => Ending.returned (.bool b)) (by
    first
     | (symm; rw [decide_eq_true_eq, hci]; exact ⟨by omega, .inl (by simp_all)⟩)
     | (symm; rw [decide_eq_false_iff_not, hci]; rintro ⟨h, _⟩; omega)
     | (show (!decide ((((a.getD 0 default).toNat : Nat) : Int) = 0)) = _
        rw [Bool.eq_iff_iff]; simp only [Bool.not_eq_true', decide_eq_false_iff_not, decide_eq_true_eq, hci]
        exact ⟨fun h => ⟨by omega, .inr (by omega)⟩, fun h => by have := h.2.resolve_left (by simp_all); omega⟩)), hS.below⟩
  ·(try simp only [sB] at hg10)
   refine Km rfl ?_
   refine Kq rfl (bA rfl rfl rfl u22 ?_) ?_
   ·omega
   refine Yj rfl (Yq rfl (Yp rfl (Ka rfl (Nt (Ce ?_)))))
   exact Rn rfl (.tmp rfl .nil) fun w' hS => ⟨congrArg (fun b => Ending.returned (.bool b)) (by
    first
     | (symm; rw [decide_eq_true_eq, hci]; exact ⟨by omega, .inl (by simp_all)⟩)
     | (symm; rw [decide_eq_false_iff_not, hci]; rintro ⟨h, _⟩; omega)
     | (show (!decide ((((a.getD 0 default).toNat : Nat) : Int) = 0)) = _
        rw [Bool.eq_iff_iff]; simp only [Bool.not_eq_true', decide_eq_false_iff_not, decide_eq_true_eq, hci]
        exact ⟨fun h => ⟨by omega, .inr (by omega)⟩, fun h => by have := h.2.resolve_left (by simp_all); omega⟩)), hS.below⟩
 ·(try simp only [sB] at hg6)
  refine Kt rfl (Kt rfl (Kt rfl (Kt rfl (Kt rfl (Kt rfl (Kt rfl (Kt rfl (Yq rfl (Ka rfl (Nt (Ce ?_)))))))))))
  exact Rn rfl (.tmp rfl .nil) fun w' hS => ⟨congrArg (fun b => Ending.returned (.bool b)) (by
   first
    | (symm; rw [decide_eq_true_eq, hci]; exact ⟨by omega, .inl (by simp_all)⟩)
    | (symm; rw [decide_eq_false_iff_not, hci]; rintro ⟨h, _⟩; omega)
    | (show (!decide ((((a.getD 0 default).toNat : Nat) : Int) = 0)) = _
       rw [Bool.eq_iff_iff]; simp only [Bool.not_eq_true', decide_eq_false_iff_not, decide_eq_true_eq, hci]
       exact ⟨fun h => ⟨by omega, .inr (by omega)⟩, fun h => by have := h.2.resolve_left (by simp_all); omega⟩)), hS.below⟩
theorem zy {a : Bs} {w : World} (ha : okN a) :
  Cw 209 #[.string (S a)] w (.tuple #[.int .u64 ((val a % 18446744073709551616 : Nat) : Int), .bool (decide (a.length ≤ 8))]) := by
 have hal := ha.1
 refine En [] [(0, .string (S a))] Tryz.func209 rfl Tryz.ntmps209 rfl (Ac rfl (An _)) Fn ?_
 refine Cs (Ka rfl (Ka rfl (Nt (Cs (Ka rfl (Nt (Cq (Cs (Ka rfl (Nt (Cb ?_)))))))))))
 refine Lp (σ := Nat) [(0, _)] (fun gq => [(4, .int .u64 ((val (a.take gq) % 18446744073709551616 : Nat) : Int)), (5, .int .i64 (gq : Int))]) (fun gq => gq ≤ a.length) (fun gq => a.length - gq) (0) (S1 rfl) (S2 rfl rfl) (by (try dsimp only); omega) ?_
 rintro k hinv1; (try dsimp only at hinv1 ⊢)
 obtain hk := hinv1
 refine Cq (Cs (Km rfl (Km rfl (Yn rfl u22 (Yl rfl (Nt ?_))))))
 refine Cd rfl (fun hc9 => ?_) (fun hc9 => ?_)
 ·(try simp only [sB] at hc9)
  have hc8 := (a.getD k default).toNat_lt
  have hs1 := eh a k (by omega)
  refine Ck (Xa (Cq (Cb (Cg (Km rfl (Kq rfl (fX (c := 256) rfl rfl rfl) (Km rfl (Km rfl (Kq rfl (gU rfl rfl rfl u22 (by omega)) (Kq rfl (j5 rfl rfl u5 u76 (by decide)) (Kq rfl (bG rfl rfl rfl (by omega)) (Ns 18 rfl (v' := .int .u64 ((val (a.take (k + 1)) % 18446744073709551616 : Nat) : Int)) (congrArg (Value.int .u64) (by omega)) (Ka rfl (Nn (Xd (Xa (Cg (Km rfl (Kq rfl (Rz rfl rfl rfl (by omega)) (Ka rfl (Nn ?_)))))))))))))))))))))
  refine Ly (k + 1) (by (try dsimp only); omega) (S1 rfl) (by refine (Sc ?_ (Sc ?_ (S0 _))) <;> (rfl)) ?_ (by (exact fun _ h => h))
  (try dsimp only)
  omega
 ·(try simp only [sB] at hc9)
  refine Cx (Xc (Xc (Xe ?_)))
  obtain rfl : k = a.length := by omega
  refine Xa (Cs (Km rfl (Km rfl (Yn rfl u22 (Ym rfl (Ka rfl (Ka rfl (Nt (Ce ?_)))))))))
  exact R2 rfl rfl rfl (by rw [List.take_length, show decide ((a.length : Int) ≤ 8) = decide (a.length ≤ 8) from decide_eq_decide.2 (by omega)]; rfl)
theorem qx {n a : Nat} {w : World} (hn3 : 3 ≤ n) (hno : n % 2 = 1) (ha0 : 0 < a) (ha : a < n) (hn : n < 18446744073709551616) :
  Cw 244 #[.int .u64 (n : Int), .int .u64 (a : Int)] w (.bool (stN n a)) := by
 refine En [] [(0, .int .u64 (n : Int)), (1, .int .u64 (a : Int))] Tryz.func244 rfl Tryz.ntmps244 rfl (Ac rfl (Ac rfl (An _))) Fn ?_
 refine Cs (Ka rfl (Nt (Cq (Cs (Km rfl (Yl rfl (Km rfl ?_)))))))
 refine Nb 11 rfl (fun hg11 => ?_) (fun hg11 => ?_)
 ·(try simp only [sB] at hg11)
  refine Kt rfl (Kt rfl (Kt rfl (Yp rfl (Nt ?_))))
  refine Cd rfl (fun _ => ?_) (fun h => by cases h)
  have hbad : False := by omega
  refine Cs (Km rfl (Yi rfl (Ka rfl (Nt (Ce (Xb ?_))))))
  exact R1 rfl rfl (by exact hbad.elim)
 ·(try simp only [sB] at hg11)
  refine Km rfl ?_
  refine Kq rfl (bo (c := 2) rfl rfl rfl ?_) ?_
  ·omega
  refine Yi rfl (Yq rfl (Nt ?_))
  refine Cd rfl (fun hc15 => ?_) (fun hc15 => ?_)
  ·(try simp only [sB] at hc15)
   have hbad : False := by omega
   refine Cs (Km rfl (Yi rfl (Ka rfl (Nt (Ce (Xb ?_))))))
   exact R1 rfl rfl (by exact hbad.elim)
  ·(try simp only [sB] at hc15)
   refine Ck (Xa (Cq (Cs (Km rfl (Yi rfl (Nt ?_))))))
   refine Cd rfl (fun hc19 => ?_) (fun hc19 => ?_)
   ·(try simp only [sB] at hc19)
    have hbad : False := by omega
    refine Cs (Ka rfl (Nt (Ce (Xb ?_))))
    exact R1 rfl rfl (by exact hbad.elim)
   ·(try simp only [sB] at hc19)
    refine Ck (Xa (Cs (Km rfl (Kq rfl (bJ (c := 1) rfl rfl rfl (by omega)) (Ka rfl (Ka rfl (Nt (Cq (Cb ?_)))))))))
    refine Lp (σ := Nat × Nat) [(0, _), (1, _)] (fun gq => [(5, .int .u64 (gq.1 : Int)), (6, .int .i64 (gq.2 : Int))]) (fun gq => 0 < gq.1 ∧ gq.1 < 18446744073709551616 ∧ gq.1 * 2 ^ gq.2 = n - 1 ∧ gq.2 ≤ 64) (fun gq => gq.1) (n - 1, 0) (S2 rfl rfl) (S2 rfl rfl) (by (try dsimp only); exact ⟨by omega, by omega, by rw [Nat.pow_zero, Nat.mul_one], by omega⟩) ?_
    rintro ⟨d, s⟩ hinv1; (try dsimp only at hinv1 ⊢)
    obtain ⟨hd0, hdl, hds, hs⟩ := hinv1
    refine Cq (Cs (Km rfl ?_))
    refine Kq rfl (bo (c := 2) rfl rfl rfl ?_) ?_
    ·omega
    refine Yi rfl (Nt ?_)
    refine Cd rfl (fun hc24 => ?_) (fun hc24 => ?_)
    ·(try simp only [sB] at hc24)
     have hdn : d / 2 * 2 ^ (s + 1) = n - 1 := by rw [← hds, Nat.pow_succ, Nat.mul_comm (2 ^ s), ← Nat.mul_assoc]; congr 1; omega
     have hs64 : s + 1 ≤ 64 := Nat.le_of_lt_succ ((Nat.pow_lt_pow_iff_right (by decide : 1 < 2)).1 (show 2 ^ (s + 1) < 2 ^ 65 from by
      have h1 : 1 * 2 ^ (s + 1) ≤ d / 2 * 2 ^ (s + 1) := Nat.mul_le_mul_right _ (by omega)
      rw [hdn] at h1; omega))
     refine Ck (Xa (Cb (Cs (Km rfl ?_))))
     refine Kq rfl (cg (c := 2) rfl rfl rfl ?_) ?_
     ·omega
     refine Ka rfl (Nt (Cg (Km rfl (Kq rfl (Rz rfl rfl rfl (by omega)) (Ka rfl (Nn (Xd ?_)))))))
     refine Ly ((d / 2, s + 1)) (by (try dsimp only); omega) (S2 rfl rfl) (by refine (Sc ?_ (Sc ?_ (S0 _))) <;> (rfl)) ?_ (by (exact fun _ h => h))
     (try dsimp only)
     exact ⟨by omega, by omega, hdn, hs64⟩
    ·(try simp only [sB] at hc24)
     refine Cx (Xc (Xc (Xe ?_)))
     obtain ⟨hs1, hd1⟩ := uy (n := n - 1) (by omega) (by omega) (by omega) hds
     obtain ⟨x0, hx0⟩ : ∃ x, x = a ^ d % n := ⟨_, rfl⟩
     have hxl : x0 < n := by rw [hx0]; exact Nat.mod_lt _ (by omega)
     have hst : stN n a = (decide (x0 = 1) || sqs n s x0) := by rw [stN, ← hd1, ← hs1, rV, ← hx0]
     refine Xa (Cs (Km rfl (Km rfl (Km rfl ?_))))
     refine Ku rfl (Oc rfl rfl (Kv fun w hS => tG (a := a) (e0 := d) (m := n) (by assumption) (by assumption) (by assumption))) ?_
     refine Ns 32 rfl (v' := .int .u64 ((x0 : Nat) : Int)) (congrArg (Value.int .u64) (by rw [hx0])) ?_
     refine Ka rfl (Nt (Cq (Cs (Km rfl (Yi rfl (Nt ?_))))))
     refine Cd rfl (fun hc34 => ?_) (fun hc34 => ?_)
     ·(try simp only [sB] at hc34)
      refine Cs (Ka rfl (Nt (Ce (Xb ?_))))
      exact R1 rfl rfl (by rw [hst, decide_eq_true (by omega)]; rfl)
     ·(try simp only [sB] at hc34)
      have hx1 : ¬ x0 = 1 := by omega
      rw [decide_eq_false hx1, Bool.false_or] at hst
      refine Ck (Xa (Cq (Cs (Ka rfl (Nt (Cb ?_))))))
      refine Lp (σ := Nat × Nat) [(0, _), (6, _)] (fun gq => [(8, .int .i64 (gq.1 : Int)), (7, .int .u64 (gq.2 : Int))]) (fun gq => gq.1 ≤ s ∧ gq.2 < n ∧ sqs n (s - gq.1) gq.2 = sqs n s x0) (fun gq => s - gq.1) (0, x0) (S2 rfl rfl) (S2 rfl rfl) (by (try dsimp only); exact ⟨by omega, hxl, rfl⟩) ?_
      rintro ⟨i, x⟩ hinv2; (try dsimp only at hinv2 ⊢)
      obtain ⟨his, hxn, hsq⟩ := hinv2
      refine Cq (Cs (Km rfl (Km rfl (Yl rfl (Nt ?_)))))
      refine Cd rfl (fun hc37 => ?_) (fun hc37 => ?_)
      ·(try simp only [sB] at hc37)
       have hx2 : x * x % n < n := Nat.mod_lt _ (by omega)
       refine Ck (Xa (Cq (Cb (Cq (Cs (Km rfl (Km rfl (Kq rfl (bJ (c := 1) rfl rfl rfl (by omega)) (Yi rfl (Nt ?_))))))))))
       refine Cd rfl (fun hc43 => ?_) (fun hc43 => ?_)
       ·(try simp only [sB] at hc43)
        rw [lT (by omega) (by omega)] at hsq
        refine Cs (Ka rfl (Nt (Ce (Xb (Xf (Xb (Xb (Xf (Xb ?_)))))))))
        exact R1 rfl rfl (by rw [hst, ← hsq]; rfl)
       ·(try simp only [sB] at hc43)
        rw [jO (by omega) (by omega)] at hsq
        refine Ck (Xa (Cg (Km rfl (Km rfl (Km rfl ?_)))))
        refine Ku rfl (Oc rfl rfl (Kv fun w hS => g9 (a := x) (b0 := x) (m := n) (by assumption) (by assumption) (by assumption))) ?_
        refine Ka rfl (Nn (Xd (Xa (Cg (Km rfl (Kq rfl (Rz rfl rfl rfl (by omega)) (Ka rfl (Nn ?_))))))))
        refine Ly ((i + 1, x * x % n)) (by (try dsimp only); omega) (S2 rfl rfl) (by refine (Sc ?_ (Sc ?_ (S0 _))) <;> (rfl)) ?_ (by (exact fun _ h => h))
        (try dsimp only)
        exact ⟨by omega, hx2, by rw [← hsq, Nat.sub_sub]⟩
      ·(try simp only [sB] at hc37)
       refine Cx (Xc (Xc (Xe ?_)))
       obtain rfl : i = s := by omega
       refine Xa (Cs (Ka rfl (Nt (Ce ?_))))
       exact R1 rfl rfl (by rw [hst, ← hsq, Nat.sub_self]; rfl)
theorem oq {k : Nat} (h : k < 12) : ([.int .u64 2, .int .u64 3, .int .u64 5, .int .u64 7, .int .u64 11, .int .u64 13, .int .u64 17, .int .u64 19, .int .u64 23, .int .u64 29, .int .u64 31, .int .u64 37] : List Value)[k]? = some (vU (pk k)) := l9 h
theorem xo {n : Nat} {w : World} (hn : n < 18446744073709551616) :
  Cw 210 #[.int .u64 (n : Int)] w (.bool (isP n)) := by
 refine En [] [(0, .int .u64 (n : Int))] Tryz.func210 rfl Tryz.ntmps210 rfl (Ac rfl (An _)) Fn ?_
 refine Cs (Ka rfl (Nt (Cq (Cs (Km rfl (Yl rfl (Nt ?_)))))))
 refine Cd rfl (fun hc7 => ?_) (fun hc7 => ?_)
 ·(try simp only [sB] at hc7)
  refine Cs (Ka rfl (Nt (Ce (Xb ?_))))
  exact R1 rfl rfl (by rw [isP, if_pos (by omega)]; rfl)
 ·(try simp only [sB] at hc7)
  have hn2 : ¬ n < 2 := by omega
  refine Ck (Xa (Cs ?_))
  refine Kh rfl (aR rfl rfl qj (by kernel_rfl : _ = some (some (.int .u64 0), 1, 8)) rfl (by simp only [List.map]; rfl) rfl rfl ?_ (by decide)) ?_
  ·simp [Value.cells]
  intro b8
  refine Ka rfl (Nt (Cq (Cs (Ka rfl (Nt (Cb ?_))))))
  refine Lp (σ := Nat) [(0, _), (3, _)] (fun gq => [(4, .int .i64 (gq : Int))]) (fun gq => gq ≤ 12 ∧ tdiv n (ps12.drop gq) = tdiv n ps12) (fun gq => 12 - gq) (0) (S2 rfl rfl) (S1 rfl) (by (try dsimp only); exact ⟨by omega, rfl⟩) ?_
  rintro k hinv1; (try dsimp only at hinv1 ⊢)
  obtain ⟨hk, htd⟩ := hinv1
  refine Cq (Cs (Km rfl (Km rfl (Yo rfl qj (Yl rfl (Nt ?_))))))
  refine Cd rfl (fun hc12 => ?_) (fun hc12 => ?_)
  ·(try simp only [sB] at hc12)
   have hk12 : k < 12 := by omega
   have hpb := pn hk12
   rw [kW n hk12] at htd
   refine Ck (Xa (Cq (Cb (Cq (Cs (Km rfl (Km rfl (Km rfl ?_))))))))
   refine Kq rfl (Ja rfl rfl rfl qj (by kernel_rfl : _ = some 1) (by omega)) ?_
   refine Kq rfl (ld rfl rfl .tc u76 rfl (oq hk12)) ?_
   refine Yi rfl (Nt ?_)
   refine Cd rfl (fun hc20 => ?_) (fun hc20 => ?_)
   ·(try simp only [sB] at hc20)
    rw [if_pos (by rw [show n = pk k by omega]; exact Nat.mod_self _), decide_eq_true (by omega)] at htd
    refine Cs (Ka rfl (Nt (Ce (Xb (Xf (Xb (Xb (Xf (Xb ?_)))))))))
    exact R1 rfl rfl (by rw [ki hn2 htd.symm]; rfl)
   ·(try simp only [sB] at hc20)
    refine Ck (Xa (Cs (Km rfl (Km rfl (Km rfl ?_)))))
    refine Kq rfl (Ja rfl rfl rfl qj (by kernel_rfl : _ = some 1) (by omega)) ?_
    refine Kq rfl (ld rfl rfl .tc u76 rfl (oq hk12)) ?_
    refine Kq rfl (bo rfl rfl rfl ?_) ?_
    ·omega
    refine Yi rfl (Nt ?_)
    refine Cd rfl (fun hc27 => ?_) (fun hc27 => ?_)
    ·(try simp only [sB] at hc27)
     rw [if_pos (by omega), decide_eq_false (by omega)] at htd
     refine Cs (Ka rfl (Nt (Ce (Xf (Xb (Xb (Xf (Xb ?_))))))))
     exact R1 rfl rfl (by rw [ki hn2 htd.symm]; rfl)
    ·(try simp only [sB] at hc27)
     rw [if_neg (by omega)] at htd
     refine Ck (Xd (Xa (Cg (Km rfl (Kq rfl (Rz rfl rfl rfl (by omega)) (Ka rfl (Nn ?_)))))))
     refine Ly (k + 1) (by (try dsimp only); omega) (S2 rfl rfl) (by refine (Sc ?_ (S0 _)) <;> (rfl)) ?_ (by (exact fun _ h => h))
     (try dsimp only)
     exact ⟨by omega, htd⟩
  ·(try simp only [sB] at hc12)
   refine Cx (Xc (Xc (Xe ?_)))
   obtain rfl : k = 12 := by omega
   have hno : tdiv n ps12 = none := htd.symm
   have hodd := iA hno 2 (by decide)
   have h37 := rS hn2 hno
   refine Xa (Cq (Cs (Ka rfl (Nt (Cb ?_)))))
   refine Lp (σ := Nat) [(0, _), (3, _)] (fun gq => [(5, .int .i64 (gq : Int))]) (fun gq => gq ≤ 12 ∧ (ps12.drop gq).all (stN n) = ps12.all (stN n)) (fun gq => 12 - gq) (0) (S2 rfl rfl) (S1 rfl) (by (try dsimp only); exact ⟨by omega, rfl⟩) ?_
   rintro j hinv2; (try dsimp only at hinv2 ⊢)
   obtain ⟨hj, hall⟩ := hinv2
   refine Cq (Cs (Km rfl (Km rfl (Yo rfl qj (Yl rfl (Nt ?_))))))
   refine Cd rfl (fun hc31 => ?_) (fun hc31 => ?_)
   ·(try simp only [sB] at hc31)
    have hj12 : j < 12 := by omega
    have hjb := pn hj12
    rw [nM _ hj12] at hall
    refine Ck (Xa (Cq (Cb (Cs (Km rfl (Km rfl (Km rfl ?_)))))))
    refine Kq rfl (Ja rfl rfl rfl qj (by kernel_rfl : _ = some 1) (by omega)) ?_
    refine Kq rfl (ld rfl rfl .tc u76 rfl (oq hj12)) ?_
    refine Ku rfl (Oc rfl rfl (Kv fun w hS => qx (n := n) (a := pk j) (by omega) (by omega) (by omega) (by omega) (by assumption))) ?_
    refine Yt rfl (Nt ?_)
    refine Cd rfl (fun hc40 => ?_) (fun hc40 => ?_)
    ·(try simp only [sB] at hc40)
     have hstr : stN n (pk j) = false := by simpa using hc40
     refine Cs (Ka rfl (Nt (Ce (Xf (Xb (Xb (Xf (Xb ?_))))))))
     exact R1 rfl rfl (by rw [ig hn2 hno, ← hall, hstr]; rfl)
    ·(try simp only [sB] at hc40)
     have hstr : stN n (pk j) = true := by simpa using hc40
     refine Ck (Xd (Xa (Cg (Km rfl (Kq rfl (Rz rfl rfl rfl (by omega)) (Ka rfl (Nn ?_)))))))
     refine Ly (j + 1) (by (try dsimp only); omega) (S2 rfl rfl) (by refine (Sc ?_ (S0 _)) <;> (rfl)) ?_ (by (exact fun _ h => h))
     (try dsimp only)
     exact ⟨by omega, by rw [← hall, hstr, Bool.true_and]⟩
   ·(try simp only [sB] at hc31)
    refine Cx (Xc (Xc (Xe ?_)))
    obtain rfl : j = 12 := by omega
    refine Xa (Cs (Ka rfl (Nt (Ce ?_))))
    exact R1 rfl rfl (by rw [ig hn2 hno, ← hall]; rfl)
theorem m7 {a : Bs} {w : World} :
  Cw 172 #[.string (S a)] w (.tuple #[.bool (de a).1, .int .i64 (de a).2]) := by
 refine En [] [(0, .string (S a))] Tryz.func172 rfl Tryz.ntmps172 rfl (Ac rfl (An _)) Fn ?_
 refine Cs (Ka rfl (Ka rfl (Nt (Cq (Cs (Km rfl ?_))))))
 refine Ku rfl (Oc rfl rfl (Kv fun w hS => qy (a := a))) ?_
 refine Yt rfl (Nt ?_)
 refine Cd rfl (fun hc8 => ?_) (fun hc8 => ?_)
 ·(try simp only [sB] at hc8)
  refine Cs (Ka rfl (Ka rfl (Nt (Ce (Xb ?_)))))
  exact R2 rfl rfl rfl (by rw [de, if_pos hc8]; rfl)
 ·(try simp only [sB] at hc8)
  have hok : okN a := by simpa using hc8
  refine Ck (Xa (Cs (Km rfl ?_)))
  refine Ku rfl (Oc rfl rfl (Kv fun w hS => zy (a := a) (by assumption))) ?_
  refine Km rfl (Ye rfl (Ye rfl (Ka rfl (Ka rfl (Nt (Cq (Cs (Km rfl (Yt rfl (Nt ?_))))))))))
  refine Cd rfl (fun hc15 => ?_) (fun hc15 => ?_)
  ·(try simp only [sB] at hc15)
   refine Cs (Ka rfl (Ka rfl (Nt (Ce (Xb ?_)))))
   exact R2 rfl rfl rfl (by rw [de, if_neg (fun h => h hok), if_pos (by omega)]; rfl)
  ·(try simp only [sB] at hc15)
   have h8 : a.length ≤ 8 := by omega
   have hv8 := dK h8
   refine Ck (Xa (Cs (Km rfl ?_)))
   refine Ku rfl (Oc rfl rfl (Kv fun w hS => xo (n := val a % 18446744073709551616) (by omega))) ?_
   refine Ka rfl (Ka rfl (Nt (Ce ?_)))
   exact R2 rfl rfl rfl (by rw [fC hok h8, Nat.mod_eq_of_lt hv8]; rfl)
end Go.Proofs.YtkdlonihbjhhoaaGreatDoor
