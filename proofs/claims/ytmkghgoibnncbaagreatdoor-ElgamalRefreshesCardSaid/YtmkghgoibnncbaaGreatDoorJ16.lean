/-
  Parts of the walk: Mac Coi1 Coi2 Itoa Coi3 Apps Coi4.
-/
import Derived.Test.YtmkghgoibnncbaaGreatDoorJ15
import Derived.Lib.ItoaNum
import Derived.Lib.AppendStr
namespace Go.Proofs.YtmkghgoibnncbaaGreatDoor
open Go.RowKit
set_option linter.unusedSimpArgs false
set_option linter.unusedVariables false
set_option maxHeartbeats 600000
set_option maxRecDepth 20000
theorem xor_u8 (c : UInt8) (x : UInt8) : bits .xor .u8 (c.toNat : Int) (x.toNat : Int) = ((c ^^^ x).toNat : Int) := by
 have h1 := c.toNat_lt; have h2 := x.toNat_lt
 rw [u8_xor_nat _ _ h1 h2, UInt8.toNat_xor]
theorem map_step (K : List UInt8) (f : UInt8 → UInt8) (k : Nat) (c : UInt8) (h : K[k]? = some c) :
  (((K.take k).map f ++ K.drop k).map B).set k (B (f c)) = ((K.take (k + 1)).map f ++ K.drop (k + 1)).map B := by
 have hk : k < K.length := (List.getElem?_eq_some_iff.1 h).1
 rw [← List.map_set]
 congr 1
 have hlen : ((K.take k).map f).length = k := by simp; omega
 have hd : (K.drop k).set 0 (f c) = f c :: K.drop (k + 1) := by rw [List.drop_eq_getElem_cons hk]; rfl
 rw [List.set_append_right _ _ (by omega), hlen, Nat.sub_self, hd, List.take_add_one, h]
 simp
theorem map_here (K : List UInt8) (f : UInt8 → UInt8) (k : Nat) (c : UInt8) (h : K[k]? = some c) : (((K.take k).map f ++ K.drop k).map B)[k]? = some (B c) := by
 have hk : k < K.length := (List.getElem?_eq_some_iff.1 h).1
 have hlen : ((K.take k).map f).length = k := by simp; omega
 rw [List.getElem?_map, List.getElem?_append_right (by omega), hlen, Nat.sub_self, List.getElem?_drop, Nat.add_zero, h]; rfl
theorem mac_ok (key s : List UInt8) (hk : key.length ≤ 500000) (hs : s.length ≤ 500000) (w : World) :
  Cw 232 #[.string (S key), .string (S s)] w (.string (S (mac key s))) := by
 have hkl := keyOf_len key
 obtain ⟨K, hK⟩ : ∃ K, keyOf key ++ List.replicate (64 - (keyOf key).length) 0 = K := ⟨_, rfl⟩
 have hKl : K.length = 64 := by rw [← hK]; simp; omega
 have hx1 : xorKey (keyOf key) 92 = K.map (· ^^^ 92) := by rw [← hK]; rfl
 have hx2 : xorKey (keyOf key) 54 = K.map (· ^^^ 54) := by rw [← hK]; rfl
 refine enter (S := St (fun _ => True) w [] []) (L := [(0, .string (S key)), (1, .string (S s))]) Tryz.func232 rfl Tryz.ntmps232 rfl (Ac rfl (Ac rfl (An _))) (St.start (fun _ _ => trivial) (by simp)) ?_
 refine Cq (Cg (Ka rfl (Nn (Xa (Cq (Cq (Cg (Km rfl (Kq rfl (rd_slen rfl rfl u9) (Kq rfl (rd_gtr rfl rfl rfl) (Nn (Xa ?_))))))))))))
 refine Cd rfl (fun hc10 => ?_) (fun hc10 => ?_)
 ·(try simp only [sB] at hc10)
  refine Cg (Km rfl ?_)
  refine Ku rfl (Oc rfl rfl (Kv fun w _ => sum_ok _ (by omega) w)) ?_
  refine Ka rfl ?_
  refine Ns 0 rfl (v' := .string (S (keyOf key))) (by rw [keyOf, if_pos (by omega)]) ?_
  refine Nn (Xa (Cq (Cg ?_)))
  refine Kh rfl (Oa rfl (v := (.agg (List.replicate 64 (.int .u8 0)).toArray)) (cs := (List.replicate 64 (.int .u8 0))) (by kernel_rfl) rfl) ?_
  intro b5
  refine Kh rfl (Oa rfl (v := (.agg (List.replicate 64 (.int .u8 0)).toArray)) (cs := (List.replicate 64 (.int .u8 0))) (by kernel_rfl) rfl) ?_
  intro b6
  refine Nn (Xa (Cq (Cg ?_)))
  refine Kq rfl (rd_sla rfl rfl u261 (by kernel_rfl : _ = some 1)) ?_
  refine Km rfl ?_
  refine Kh rfl (cpys rfl rfl rfl (by first | exact .here | exact .t1 | exact .t2 | exact .t3 | exact .t4 | exact .t5 | exact .t6 | exact .t7) u128 (by kernel_rfl) (m := (keyOf key).length) (by omega) (by simp; omega) (ys := K.map B) (by rw [← hK, List.take_zero, List.nil_append, Nat.zero_add, List.take_length, List.drop_replicate, List.map_append, List.map_replicate]; rfl)) ?_
  intro _
  refine Nn (Xa (Cq (Cg ?_)))
  refine Kq rfl (rd_sla rfl rfl u261 (by kernel_rfl : _ = some 1)) ?_
  refine Km rfl ?_
  refine Kh rfl (cpys rfl rfl rfl (by first | exact .here | exact .t1 | exact .t2 | exact .t3 | exact .t4 | exact .t5 | exact .t6 | exact .t7) u128 (by kernel_rfl) (m := (keyOf key).length) (by omega) (by simp; omega) (ys := K.map B) (by rw [← hK, List.take_zero, List.nil_append, Nat.zero_add, List.take_length, List.drop_replicate, List.map_append, List.map_replicate]; rfl)) ?_
  intro _
  refine Nn (Xa (Cq (Cq (Cg (Km rfl (Nn (Xa (Cb ?_))))))))
  refine WC.loop (σ := Nat) (fun k => [(1, .string (S s)), (5, .pointer (some ⟨b5, 0, none⟩)), (6, .pointer (some ⟨b6, 0, none⟩)), (19, .int .i64 (k : Int))]) (fun k w' => k ≤ 64 ∧ St (fun _ => True) w [⟨some b6, ((K.take k).map (· ^^^ 92) ++ K.drop k).map B, 261⟩, ⟨some b5, ((K.take k).map (· ^^^ 54) ++ K.drop k).map B, 261⟩] [] w') (fun k => 64 - k) 0 (by repeat (first | exact S0 _ | refine Sc rfl ?_)) (fun w' h => ⟨by omega, h⟩) ?_
  intro k; refine WC.pu ?_; intro hk
  refine Cq (Cg (Kq rfl (rd_lss rfl rfl rfl) (Nn (Xa (Cq ?_)))))
  refine Cd rfl (fun hc20 => ?_) (fun hc20 => ?_)
  ·(try simp only [sB] at hc20)
   obtain ⟨c, hc⟩ : ∃ c, K[k]? = some c := ⟨_, List.getElem?_eq_getElem (by omega)⟩
   refine Ck (Xa (Cq (Cb (Cq (Cg (Km rfl (Ka rfl (Nn (Xa (Cq (Cg (Km rfl ?_))))))))))))
   refine Kq rfl (Jb rfl rfl rfl u261 (by kernel_rfl : _ = some 1) ?_) ?_
   ·omega
   refine Kq rfl (ld rfl rfl (by first | exact .here | exact .t1 | exact .t2 | exact .t3 | exact .t4 | exact .t5 | exact .t6 | exact .t7) u5 rfl (by exact map_here K (· ^^^ 54) k c hc)) ?_
   refine Kq rfl (rd_xor rfl rfl rfl) (Ns 25 rfl (v' := B (c ^^^ 54)) (congrArg (Value.int .u8) (xor_u8 c 54)) ?_)
   refine Kq rfl (Jb rfl rfl rfl u261 (by kernel_rfl : _ = some 1) ?_) ?_
   ·omega
   refine Ng rfl rfl (st rfl rfl rfl (by first | exact .here | exact .t1 | exact .t2 | exact .t3 | exact .t4 | exact .t5 | exact .t6 | exact .t7) (by kernel_rfl) rfl ?_ rfl) ?_
   ·simp; omega
   intro _
   refine Nn (Xa (Cg (Km rfl ?_)))
   refine Kq rfl (Jb rfl rfl rfl u261 (by kernel_rfl : _ = some 1) ?_) ?_
   ·omega
   refine Kq rfl (ld rfl rfl (by first | exact .here | exact .t1 | exact .t2 | exact .t3 | exact .t4 | exact .t5 | exact .t6 | exact .t7) u5 rfl (by exact map_here K (· ^^^ 92) k c hc)) ?_
   refine Kq rfl (rd_xor rfl rfl rfl) (Ns 30 rfl (v' := B (c ^^^ 92)) (congrArg (Value.int .u8) (xor_u8 c 92)) ?_)
   refine Kq rfl (Jb rfl rfl rfl u261 (by kernel_rfl : _ = some 1) ?_) ?_
   ·omega
   refine Ng rfl rfl (st rfl rfl rfl (by first | exact .here | exact .t1 | exact .t2 | exact .t3 | exact .t4 | exact .t5 | exact .t6 | exact .t7) (by kernel_rfl) rfl ?_ rfl) ?_
   ·simp; omega
   intro _
   refine Nn (Xd (Xa (Cg ?_)))
   first
    | (refine Kq rfl (Rz rfl rfl rfl ?_) ?_; focus (omega))
    | (refine Kq rfl (rd_add64 rfl rfl rfl ?_) ?_; focus (omega))
   refine Km rfl (Nn ?_)
   exact WX.loop (k + 1) (by omega) (by repeat (first | exact S0 _ | refine Sc rfl ?_)) (fun w' h => ⟨by omega, by rw [map_step K (· ^^^ 54) k c hc, map_step K (· ^^^ 92) k c hc] at h; exact h⟩)
  ·(try simp only [sB] at hc20)
   refine Cx (Xc (Xc (Xe ?_)))
   obtain rfl : k = 64 := by omega
   rw [List.take_of_length_le (by omega), List.drop_eq_nil_of_le (by omega), List.append_nil, List.append_nil]
   refine Xa (Cq ?_)
   refine WC.mix [0, 0, 0, 0, 0, 0, 1, 0, 1, 0] (by kernel_rfl) (by kernel_rfl) (fun w h => h.draw) ?_
   refine WM.r rfl rfl rfl (rd_sla rfl rfl u261 (by kernel_rfl : _ = some 1)) ?_
   refine WM.r rfl rfl rfl (b2s (l := K.map (· ^^^ 92)) rfl rfl (by first | exact .here | exact .t1 | exact .t2 | exact .t3 | exact .t4 | exact .t5 | exact .t6 | exact .t7) u128 u5 u9 ?_ ?_) ?_
   ·rw [List.drop_zero, List.take_of_length_le (by simp [hKl])]
   ·simp [hKl]
   refine WM.r rfl rfl rfl (rd_sla rfl rfl u261 (by kernel_rfl : _ = some 1)) ?_
   refine WM.r rfl rfl rfl (b2s (l := K.map (· ^^^ 54)) rfl rfl (by first | exact .here | exact .t1 | exact .t2 | exact .t3 | exact .t4 | exact .t5 | exact .t6 | exact .t7) u128 u5 u9 ?_ ?_) ?_
   ·rw [List.drop_zero, List.take_of_length_le (by simp [hKl])]
   ·simp [hKl]
   refine WM.r rfl rfl rfl (Rm rfl rfl) ?_
   refine WM.r rfl rfl rfl (rd_cat rfl rfl rfl ?_) ?_
   ·simp [hKl]; omega
   refine WM.g rfl rfl rfl (Oc rfl rfl (Kv fun w _ => sum_ok _ (by simp [hKl]; omega) w)) (fun _ _ h => by first | exact h | exact ⟨_, h⟩ | exact ⟨_, h.2⟩ | exact h.2 | exact h.sub (by repeat (first | exact List.Sublist.refl _ | apply List.Sublist.cons)) (fun _ h => by simp [*]) | exact h.2.sub (by repeat (first | exact List.Sublist.refl _ | apply List.Sublist.cons)) (fun _ h => by simp [*])) ?_
   intro _
   refine WM.r rfl rfl rfl (rd_cat rfl rfl rfl ?_) ?_
   ·simp [hKl, sha_len]
   refine WM.g rfl rfl rfl (Oc rfl rfl (Kv fun w _ => sum_ok _ (by simp [hKl, sha_len]) w)) (fun _ _ h => by first | exact h | exact ⟨_, h⟩ | exact ⟨_, h.2⟩ | exact h.2 | exact h.sub (by repeat (first | exact List.Sublist.refl _ | apply List.Sublist.cons)) (fun _ h => by simp [*]) | exact h.2.sub (by repeat (first | exact List.Sublist.refl _ | apply List.Sublist.cons)) (fun _ h => by simp [*])) ?_
   intro _
   refine WM.r rfl rfl rfl (Ra rfl rfl) ?_
   refine WM.nil ?_
   refine Xa (Ce ?_)
   exact WX.ret1 rfl rfl fun w' hS => ⟨by rw [mac, hx1, hx2], hS.below⟩
 ·(try simp only [sB] at hc10)
  refine WC.set 0 rfl (v' := .string (S (keyOf key))) (by rw [keyOf, if_neg (by omega)]) ?_
  refine Ck (Xa (Cq (Cg ?_)))
  refine Kh rfl (Oa rfl (v := (.agg (List.replicate 64 (.int .u8 0)).toArray)) (cs := (List.replicate 64 (.int .u8 0))) (by kernel_rfl) rfl) ?_
  intro b5
  refine Kh rfl (Oa rfl (v := (.agg (List.replicate 64 (.int .u8 0)).toArray)) (cs := (List.replicate 64 (.int .u8 0))) (by kernel_rfl) rfl) ?_
  intro b6
  refine Nn (Xa (Cq (Cg ?_)))
  refine Kq rfl (rd_sla rfl rfl u261 (by kernel_rfl : _ = some 1)) ?_
  refine Km rfl ?_
  refine Kh rfl (cpys rfl rfl rfl (by first | exact .here | exact .t1 | exact .t2 | exact .t3 | exact .t4 | exact .t5 | exact .t6 | exact .t7) u128 (by kernel_rfl) (m := (keyOf key).length) (by omega) (by simp; omega) (ys := K.map B) (by rw [← hK, List.take_zero, List.nil_append, Nat.zero_add, List.take_length, List.drop_replicate, List.map_append, List.map_replicate]; rfl)) ?_
  intro _
  refine Nn (Xa (Cq (Cg ?_)))
  refine Kq rfl (rd_sla rfl rfl u261 (by kernel_rfl : _ = some 1)) ?_
  refine Km rfl ?_
  refine Kh rfl (cpys rfl rfl rfl (by first | exact .here | exact .t1 | exact .t2 | exact .t3 | exact .t4 | exact .t5 | exact .t6 | exact .t7) u128 (by kernel_rfl) (m := (keyOf key).length) (by omega) (by simp; omega) (ys := K.map B) (by rw [← hK, List.take_zero, List.nil_append, Nat.zero_add, List.take_length, List.drop_replicate, List.map_append, List.map_replicate]; rfl)) ?_
  intro _
  refine Nn (Xa (Cq (Cq (Cg (Km rfl (Nn (Xa (Cb ?_))))))))
  refine WC.loop (σ := Nat) (fun k => [(1, .string (S s)), (5, .pointer (some ⟨b5, 0, none⟩)), (6, .pointer (some ⟨b6, 0, none⟩)), (19, .int .i64 (k : Int))]) (fun k w' => k ≤ 64 ∧ St (fun _ => True) w [⟨some b6, ((K.take k).map (· ^^^ 92) ++ K.drop k).map B, 261⟩, ⟨some b5, ((K.take k).map (· ^^^ 54) ++ K.drop k).map B, 261⟩] [] w') (fun k => 64 - k) 0 (by repeat (first | exact S0 _ | refine Sc rfl ?_)) (fun w' h => ⟨by omega, h⟩) ?_
  intro k; refine WC.pu ?_; intro hk
  refine Cq (Cg (Kq rfl (rd_lss rfl rfl rfl) (Nn (Xa (Cq ?_)))))
  refine Cd rfl (fun hc20 => ?_) (fun hc20 => ?_)
  ·(try simp only [sB] at hc20)
   obtain ⟨c, hc⟩ : ∃ c, K[k]? = some c := ⟨_, List.getElem?_eq_getElem (by omega)⟩
   refine Ck (Xa (Cq (Cb (Cq (Cg (Km rfl (Ka rfl (Nn (Xa (Cq (Cg (Km rfl ?_))))))))))))
   refine Kq rfl (Jb rfl rfl rfl u261 (by kernel_rfl : _ = some 1) ?_) ?_
   ·omega
   refine Kq rfl (ld rfl rfl (by first | exact .here | exact .t1 | exact .t2 | exact .t3 | exact .t4 | exact .t5 | exact .t6 | exact .t7) u5 rfl (by exact map_here K (· ^^^ 54) k c hc)) ?_
   refine Kq rfl (rd_xor rfl rfl rfl) (Ns 25 rfl (v' := B (c ^^^ 54)) (congrArg (Value.int .u8) (xor_u8 c 54)) ?_)
   refine Kq rfl (Jb rfl rfl rfl u261 (by kernel_rfl : _ = some 1) ?_) ?_
   ·omega
   refine Ng rfl rfl (st rfl rfl rfl (by first | exact .here | exact .t1 | exact .t2 | exact .t3 | exact .t4 | exact .t5 | exact .t6 | exact .t7) (by kernel_rfl) rfl ?_ rfl) ?_
   ·simp; omega
   intro _
   refine Nn (Xa (Cg (Km rfl ?_)))
   refine Kq rfl (Jb rfl rfl rfl u261 (by kernel_rfl : _ = some 1) ?_) ?_
   ·omega
   refine Kq rfl (ld rfl rfl (by first | exact .here | exact .t1 | exact .t2 | exact .t3 | exact .t4 | exact .t5 | exact .t6 | exact .t7) u5 rfl (by exact map_here K (· ^^^ 92) k c hc)) ?_
   refine Kq rfl (rd_xor rfl rfl rfl) (Ns 30 rfl (v' := B (c ^^^ 92)) (congrArg (Value.int .u8) (xor_u8 c 92)) ?_)
   refine Kq rfl (Jb rfl rfl rfl u261 (by kernel_rfl : _ = some 1) ?_) ?_
   ·omega
   refine Ng rfl rfl (st rfl rfl rfl (by first | exact .here | exact .t1 | exact .t2 | exact .t3 | exact .t4 | exact .t5 | exact .t6 | exact .t7) (by kernel_rfl) rfl ?_ rfl) ?_
   ·simp; omega
   intro _
   refine Nn (Xd (Xa (Cg ?_)))
   first
    | (refine Kq rfl (Rz rfl rfl rfl ?_) ?_; focus (omega))
    | (refine Kq rfl (rd_add64 rfl rfl rfl ?_) ?_; focus (omega))
   refine Km rfl (Nn ?_)
   exact WX.loop (k + 1) (by omega) (by repeat (first | exact S0 _ | refine Sc rfl ?_)) (fun w' h => ⟨by omega, by rw [map_step K (· ^^^ 54) k c hc, map_step K (· ^^^ 92) k c hc] at h; exact h⟩)
  ·(try simp only [sB] at hc20)
   refine Cx (Xc (Xc (Xe ?_)))
   obtain rfl : k = 64 := by omega
   rw [List.take_of_length_le (by omega), List.drop_eq_nil_of_le (by omega), List.append_nil, List.append_nil]
   refine Xa (Cq ?_)
   refine WC.mix [0, 0, 0, 0, 0, 0, 1, 0, 1, 0] (by kernel_rfl) (by kernel_rfl) (fun w h => h.draw) ?_
   refine WM.r rfl rfl rfl (rd_sla rfl rfl u261 (by kernel_rfl : _ = some 1)) ?_
   refine WM.r rfl rfl rfl (b2s (l := K.map (· ^^^ 92)) rfl rfl (by first | exact .here | exact .t1 | exact .t2 | exact .t3 | exact .t4 | exact .t5 | exact .t6 | exact .t7) u128 u5 u9 ?_ ?_) ?_
   ·rw [List.drop_zero, List.take_of_length_le (by simp [hKl])]
   ·simp [hKl]
   refine WM.r rfl rfl rfl (rd_sla rfl rfl u261 (by kernel_rfl : _ = some 1)) ?_
   refine WM.r rfl rfl rfl (b2s (l := K.map (· ^^^ 54)) rfl rfl (by first | exact .here | exact .t1 | exact .t2 | exact .t3 | exact .t4 | exact .t5 | exact .t6 | exact .t7) u128 u5 u9 ?_ ?_) ?_
   ·rw [List.drop_zero, List.take_of_length_le (by simp [hKl])]
   ·simp [hKl]
   refine WM.r rfl rfl rfl (Rm rfl rfl) ?_
   refine WM.r rfl rfl rfl (rd_cat rfl rfl rfl ?_) ?_
   ·simp [hKl]; omega
   refine WM.g rfl rfl rfl (Oc rfl rfl (Kv fun w _ => sum_ok _ (by simp [hKl]; omega) w)) (fun _ _ h => by first | exact h | exact ⟨_, h⟩ | exact ⟨_, h.2⟩ | exact h.2 | exact h.sub (by repeat (first | exact List.Sublist.refl _ | apply List.Sublist.cons)) (fun _ h => by simp [*]) | exact h.2.sub (by repeat (first | exact List.Sublist.refl _ | apply List.Sublist.cons)) (fun _ h => by simp [*])) ?_
   intro _
   refine WM.r rfl rfl rfl (rd_cat rfl rfl rfl ?_) ?_
   ·simp [hKl, sha_len]
   refine WM.g rfl rfl rfl (Oc rfl rfl (Kv fun w _ => sum_ok _ (by simp [hKl, sha_len]) w)) (fun _ _ h => by first | exact h | exact ⟨_, h⟩ | exact ⟨_, h.2⟩ | exact h.2 | exact h.sub (by repeat (first | exact List.Sublist.refl _ | apply List.Sublist.cons)) (fun _ h => by simp [*]) | exact h.2.sub (by repeat (first | exact List.Sublist.refl _ | apply List.Sublist.cons)) (fun _ h => by simp [*])) ?_
   intro _
   refine WM.r rfl rfl rfl (Ra rfl rfl) ?_
   refine WM.nil ?_
   refine Xa (Ce ?_)
   exact WX.ret1 rfl rfl fun w' hS => ⟨by rw [mac, hx1, hx2], hS.below⟩
theorem xorKey_get (key : List UInt8) (x : UInt8) (hk : key.length ≤ 64) (k : Nat) (h : k < 64) : (xorKey key x)[k]? = some (if h : k < key.length then key[k] ^^^ x else x) := by
 unfold xorKey
 by_cases hlt : k < key.length
 ·rw [List.getElem?_map, List.getElem?_append_left hlt, List.getElem?_eq_getElem hlt, dif_pos hlt]; rfl
 ·rw [List.getElem?_map, List.getElem?_append_right (by omega), List.getElem?_replicate, if_pos (by omega), dif_neg hlt]; simp
theorem xorKey_len (key : List UInt8) (x : UInt8) (hk : key.length ≤ 64) : (xorKey key x).length = 64 := by simp [xorKey]; omega
theorem xored_ok (key : List UInt8) (x : UInt8) (hk : key.length ≤ 64) (w : World) :
  Cw 234 #[.string (S key), B x] w (.string (S (xorKey key x))) := by
 have hXl := xorKey_len key x hk
 have hXg := xorKey_get key x hk
 obtain ⟨X, hX⟩ : ∃ X, xorKey key x = X := ⟨_, rfl⟩
 rw [hX] at hXl hXg ⊢
 refine enter (S := St (fun _ => True) w [] []) (L := [(0, .string (S key)), (1, B x)]) Tryz.func234 rfl Tryz.ntmps234 rfl (Ac rfl (Ac rfl (An _))) (St.start (fun _ _ => trivial) (by simp)) ?_
 refine Cq (Cg (Ka rfl (Nn (Xa (Cq (Cg ?_))))))
 refine Kh rfl (og_mk rfl rfl rfl u128 (by kernel_rfl : _ = some (some (.int .u8 0), 1, 1)) rfl ?_ (by (try simp only [sN, Int.reduceToNat, Nat.reduceAdd, Nat.reduceMul, Nat.reduceSub]); rfl) (by (try simp only [sN, Int.reduceToNat, Nat.reduceAdd, Nat.reduceMul, Nat.reduceSub]); rfl)) ?_
 ·decide
 intro b7
 refine Ka rfl (Nn (Xa (Cq (Cq (Cg (Ka rfl (Nn (Xa (Cb ?_)))))))))
 refine WC.loop (σ := Nat) (fun k => [(0, .string (S key)), (1, B x), (5, .slice (some ⟨b7, 0, none⟩) 64 64), (6, .int .i64 (k : Int))]) (fun k w' => k ≤ 64 ∧ St (fun _ => True) w [⟨some b7, (X.take k).map B ++ List.replicate (64 - k) (B 0), 5⟩] [] w') (fun k => 64 - k) 0 (by repeat (first | exact S0 _ | refine Sc rfl ?_)) (fun w' h => ⟨by omega, h⟩) ?_
 intro k; refine WC.pu ?_; intro hk'
 refine Cq (Cq (Cg (Km rfl (Kq rfl (rd_lss rfl rfl rfl) (Nn (Xa ?_))))))
 refine Cd rfl (fun hc9 => ?_) (fun hc9 => ?_)
 ·(try simp only [sB] at hc9)
  have hXk := hXg k (by omega)
  refine Ck (Xa (Cq (Cb (Cq (Cg (Km rfl (Km rfl (Km rfl ?_))))))))
  refine Kq rfl (Ja rfl rfl rfl u128 (by kernel_rfl : _ = some 1) ?_) ?_
  ·omega
  refine Ng rfl rfl (st rfl rfl rfl (by first | exact .here | exact .t1 | exact .t2 | exact .t3 | exact .t4 | exact .t5 | exact .t6 | exact .t7) (by kernel_rfl) rfl ?_ rfl) ?_
  ·simp; omega
  intro _
  refine Nn (Xa (Cq (Cg (Km rfl (Km rfl (Kq rfl (rd_slen rfl rfl u9) (Kq rfl (rd_lss rfl rfl rfl) (Nn (Xa ?_)))))))))
  refine Cd rfl (fun hc19 => ?_) (fun hc19 => ?_)
  ·(try simp only [sB] at hc19)
   rw [dif_pos (by omega)] at hXk
   obtain ⟨c, hc⟩ : ∃ c, key[k]'(by omega) = c := ⟨_, rfl⟩
   rw [hc] at hXk
   have hck : key[k]? = some c := by rw [List.getElem?_eq_getElem (by omega), hc]
   refine Cg (Km rfl (Km rfl (Km rfl (Km rfl ?_))))
   refine Kq rfl (rd_sidx rfl rfl rfl u9 ?_ (by rw [Int.toNat_natCast]; exact hck)) ?_
   ·omega
   refine Km rfl (Kq rfl (rd_xor rfl rfl rfl) (Ns 26 rfl (v' := B (c ^^^ x)) (congrArg (Value.int .u8) (xor_u8 c x)) ?_))
   refine Kq rfl (Ja rfl rfl rfl u128 (by kernel_rfl : _ = some 1) ?_) ?_
   ·omega
   refine Ng rfl rfl (st rfl rfl rfl (by first | exact .here | exact .t1 | exact .t2 | exact .t3 | exact .t4 | exact .t5 | exact .t6 | exact .t7) (by kernel_rfl) rfl ?_ rfl) ?_
   ·simp; omega
   intro _
   refine Nn (Xd (Xa (Cg (Km rfl ?_))))
   first
    | (refine Kq rfl (Rz rfl rfl rfl ?_) ?_; focus (omega))
    | (refine Kq rfl (rd_add64 rfl rfl rfl ?_) ?_; focus (omega))
   refine Ka rfl (Nn ?_)
   exact WX.loop (k + 1) (by omega) (by repeat (first | exact S0 _ | refine Sc rfl ?_)) (fun w' h => ⟨by omega, by (try rw [List.set_set] at h); rw [fill_set X B (B 0) 64 k _ (by omega) hXk] at h; exact h⟩)
  ·(try simp only [sB] at hc19)
   rw [dif_neg (by omega)] at hXk
   refine Ck (Xd (Xa (Cg (Km rfl ?_))))
   first
    | (refine Kq rfl (Rz rfl rfl rfl ?_) ?_; focus (omega))
    | (refine Kq rfl (rd_add64 rfl rfl rfl ?_) ?_; focus (omega))
   refine Ka rfl (Nn ?_)
   exact WX.loop (k + 1) (by omega) (by repeat (first | exact S0 _ | refine Sc rfl ?_)) (fun w' h => ⟨by omega, by (try rw [List.set_set] at h); rw [fill_set X B (B 0) 64 k _ (by omega) hXk] at h; exact h⟩)
 ·(try simp only [sB] at hc9)
  refine Cx (Xc (Xc (Xe ?_)))
  obtain rfl : k = 64 := by omega
  rw [Nat.sub_self, List.replicate_zero, List.append_nil, List.take_of_length_le (by omega)]
  refine Xa (Cq (Cg (Km rfl ?_)))
  refine Kq rfl (b2s (l := X) rfl rfl (by first | exact .here | exact .t1 | exact .t2 | exact .t3 | exact .t4 | exact .t5 | exact .t6 | exact .t7) u128 u5 u9 ?_ ?_) ?_
  ·rw [List.drop_zero, List.take_of_length_le (by simp; omega)]
  ·exact hXl
  refine Ka rfl (Nn (Xa (Ce ?_)))
  exact WX.ret1 rfl rfl fun w' hS => ⟨rfl, hS.below⟩
theorem rmac_ok (key s : List UInt8) (hk : key.length ≤ 500000) (hs : s.length ≤ 500000) (w : World) :
  Cw 197 #[.string (S key), .string (S s)] w (.string (S (mac key s))) := by
 have hkl := keyOf_len key
 have hl1 := xorKey_len (keyOf key) 92 hkl
 have hl2 := xorKey_len (keyOf key) 54 hkl
 refine enter (S := St (fun _ => True) w [] []) (L := [(0, .string (S key)), (1, .string (S s))]) Tryz.func197 rfl Tryz.ntmps197 rfl (Ac rfl (Ac rfl (An _))) (St.start (fun _ _ => trivial) (by simp)) ?_
 refine Cq (Cg (Ka rfl (Nn (Xa (Cq (Cq (Cg (Km rfl (Kq rfl (rd_slen rfl rfl u9) (Kq rfl (rd_gtr rfl rfl rfl) (Nn (Xa ?_))))))))))))
 refine Cd rfl (fun hc7 => ?_) (fun hc7 => ?_)
 ·(try simp only [sB] at hc7)
  refine Cg (Km rfl ?_)
  refine Ku rfl (Oc rfl rfl (Kv fun w _ => rsum_ok _ (by omega) w)) ?_
  refine Ka rfl ?_
  refine Ns 0 rfl (v' := .string (S (keyOf key))) (by rw [keyOf, if_pos (by omega)]) ?_
  refine Nn (Xa (Cq (Cg (Km rfl ?_))))
  refine Ku rfl (Oc rfl rfl (Kv fun w _ => xored_ok (keyOf key) 92 hkl w)) ?_
  refine Km rfl ?_
  refine Ku rfl (Oc rfl rfl (Kv fun w _ => xored_ok (keyOf key) 54 hkl w)) ?_
  refine Km rfl ?_
  refine Kq rfl (rd_cat rfl rfl rfl ?_) ?_
  ·rw [hl2]; omega
  refine Ku rfl (Oc rfl rfl (Kv fun w _ => rsum_ok _ (by rw [List.length_append, hl2]; omega) w)) ?_
  refine Kq rfl (rd_cat rfl rfl rfl ?_) ?_
  ·rw [hl1, sha_len]; omega
  refine Ku rfl (Oc rfl rfl (Kv fun w _ => rsum_ok _ (by rw [List.length_append, hl1, sha_len]; omega) w)) ?_
  refine Ka rfl (Nn (Xa (Ce ?_)))
  exact WX.ret1 rfl rfl fun w' hS => ⟨rfl, hS.below⟩
 ·(try simp only [sB] at hc7)
  refine WC.set 0 rfl (v' := .string (S (keyOf key))) (by rw [keyOf, if_neg (by omega)]) ?_
  refine Ck (Xa (Cq (Cg (Km rfl ?_))))
  refine Ku rfl (Oc rfl rfl (Kv fun w _ => xored_ok (keyOf key) 92 hkl w)) ?_
  refine Km rfl ?_
  refine Ku rfl (Oc rfl rfl (Kv fun w _ => xored_ok (keyOf key) 54 hkl w)) ?_
  refine Km rfl ?_
  refine Kq rfl (rd_cat rfl rfl rfl ?_) ?_
  ·rw [hl2]; omega
  refine Ku rfl (Oc rfl rfl (Kv fun w _ => rsum_ok _ (by rw [List.length_append, hl2]; omega) w)) ?_
  refine Kq rfl (rd_cat rfl rfl rfl ?_) ?_
  ·rw [hl1, sha_len]; omega
  refine Ku rfl (Oc rfl rfl (Kv fun w _ => rsum_ok _ (by rw [List.length_append, hl1, sha_len]; omega) w)) ?_
  refine Ka rfl (Nn (Xa (Ce ?_)))
  exact WX.ret1 rfl rfl fun w' hS => ⟨rfl, hS.below⟩
theorem mac_c {key s : List UInt8} {w : World} (hk : key.length ≤ 500000) (hs : s.length ≤ 500000) :
  Cw 232 #[.string (S key), .string (S s)] w (.string (S (mac key s))) :=
 mac_ok key s hk hs w
theorem rmac_c {key s : List UInt8} {w : World} (hk : key.length ≤ 500000) (hs : s.length ≤ 500000) :
  Cw 197 #[.string (S key), .string (S s)] w (.string (S (mac key s))) :=
 rmac_ok key s hk hs w
structure Tp where
 vals : List Bs
 seed : Bs
 at_ : Int
deriving DecidableEq
abbrev Tp.v (t : Tp) (x : Value) : Value := .agg #[x, .string (S t.seed), .int .i64 t.at_]
def goodT (t : Tp) : Prop := 0 ≤ t.at_ ∧ t.at_ ≤ 2147483647 ∧ ∀ s ∈ t.vals, okN s
instance (t : Tp) : Decidable (goodT t) := inferInstanceAs (Decidable (_ ∧ _ ∧ _))
theorem getD_memB (l : List Bs) (k : Nat) (h : k < l.length) : l.getD k default ∈ l := by
 rw [List.getD_eq_getElem?_getD, List.getElem?_eq_getElem h]; exact List.getElem_mem h
theorem all_takeB {l : List Bs} {k : Nat} {p : Bs → Prop} (h : k < l.length) (h1 : ∀ s ∈ l.take k, p s) (h2 : p (l.getD k default)) : ∀ s ∈ l.take (k + 1), p s := by
 intro s hs
 rw [List.take_add_one, List.getElem?_eq_getElem h] at hs
 rw [List.getD_eq_getElem?_getD, List.getElem?_eq_getElem h] at h2
 rcases List.mem_append.1 hs with hs | hs
 ·exact h1 s hs
 ·simp at hs; subst hs; exact h2
theorem bad_c {a : Bs} {w : World} :
  Cw 195 #[.string (S a)] w (.bool (!decide (okN a))) := by
 refine En [] [(0, .string (S a))] Tryz.func195 rfl Tryz.ntmps195 rfl (Ac rfl (An _)) Fn ?_
 refine Cs (Ka rfl (Nt (Cs (Km rfl ?_))))
 refine Ku rfl (Oc rfl rfl (Kv fun w hS => valid_c)) ?_
 refine Kq rfl (Rt rfl rfl) (Ka rfl (Nt (Ce ?_)))
 exact R1 rfl rfl (by rfl)
theorem idxf_c {l : List Bs} {a : Option Addr} {cap : Nat} {w : World} {ok : Nat → Prop} (hF1 : (Fact.sl a (strs l)).holds ok w) (hl : l.length ≤ 9223372036854775807) :
  Calls Tryz.prog 229 #[.slice a l.length cap, .func (.func 195) #[] #[]] w fun e w' => ∃ r : Int, e = .returned (.int .i64 r) ∧ (0 ≤ r ↔ ¬ ∀ s ∈ l, okN s) ∧ Below w.heap.size w w' := by
 refine En [Fact.sl a (strs l)] [(0, .slice a l.length cap), (1, .func (.func 195) #[] #[])] Tryz.func229 rfl Tryz.ntmps229 rfl (Ac rfl (Ac rfl (An _))) (Fc (fact_any hF1) Fn) ?_
 refine Cs (Ka rfl (Nt (Cq (Cs (Km rfl (Kq rfl (rd_len rfl rfl u31) (Km rfl (Nt (Cb ?_)))))))))
 refine Lp (σ := Nat) [(0, _), (1, _), (7, _)] (fun gq => [(8, .int .i64 (gq : Int))]) (fun gq => gq ≤ l.length ∧ ∀ s ∈ l.take gq, okN s) (fun gq => l.length - gq) (0) (S3 rfl rfl rfl) (S1 rfl) (by (try dsimp only); exact ⟨Nat.zero_le _, fun s h => by simp at h⟩) ?_
 rintro k hinv1; (try dsimp only at hinv1 ⊢)
 obtain ⟨hk, hks⟩ := hinv1
 refine Cs (Kq rfl (rd_lss rfl rfl rfl) (Nt (Cq ?_)))
 refine Cd rfl (fun hc9 => ?_) (fun hc9 => ?_)
 ·(try simp only [sB] at hc9)
  refine Ck (Xa (Cq (Cb (Cs (Km rfl (Ka rfl (Nt (Cs (Km rfl (Km rfl (Km rfl ?_)))))))))))
  refine Kq rfl (Ib rfl rfl rfl u31 (by omega) (by (rw [List.length_map]; omega))) ?_
  refine Kq rfl (ldm rfl rfl u22 rfl (by omega)) ?_
  refine Ku rfl (og_callv rfl rfl rfl (by kernel_rfl) rfl (Kv fun w hS => bad_c (a := l.getD k default))) ?_
  refine Nt ?_
  refine Cd rfl (fun hc16 => ?_) (fun hc16 => ?_)
  ·(try simp only [sB] at hc16)
   refine Cs (Km rfl (Ka rfl (Nt (Ce (Xf (Xb (Xb (Xf (Xb ?_)))))))))
   exact Rn rfl (.tmp rfl .nil) fun w' hS => ⟨_, rfl, ⟨fun _ h => by have := h _ (getD_memB l k (by omega)); simp_all, fun _ => by omega⟩, hS.below⟩
  ·(try simp only [sB] at hc16)
   refine Ck (Xd (Xa (Cg (Kq rfl (Rz rfl rfl rfl (by omega)) (Km rfl (Nn ?_))))))
   refine Ly (k + 1) (by (try dsimp only); omega) (S3 rfl rfl rfl) (by refine (Sc ?_ (S0 _)) <;> (rfl)) ?_ (by (exact fun _ h => h))
   (try dsimp only)
   exact ⟨by omega, all_takeB (by omega) hks (by simpa using hc16)⟩
 ·(try simp only [sB] at hc9)
  refine Cx (Xc (Xc (Xe ?_)))
  obtain rfl : k = l.length := by omega
  rw [List.take_of_length_le (Nat.le_refl _)] at hks
  refine Xa (Cs (Ka rfl (Nt (Ce ?_))))
  exact Rn rfl (.tmp rfl .nil) fun w' hS => ⟨-1, rfl, ⟨fun h => by omega, fun h => absurd hks h⟩, hS.below⟩
theorem keep_ex {P : Program} {f : FuncId} {args : Array Value} {ok : Nat → Prop} {w0 : World} {own : List Ent} {fs : List Fact} {γ : Type} {val : γ → Value} {p : γ → Prop} (h : ∀ w, St ok w0 own fs w → Calls P f args w (fun e w' => ∃ r : γ, e = .returned (val r) ∧ p r ∧ Below w.heap.size w w')) :
  ∀ w, St ok w0 own fs w → Calls P f args w (fun e w' => ∃ g, e = .returned (val g) ∧ (p g ∧ St ok w0 own fs w')) :=
 fun w hS => (h w hS).mono fun e w' ⟨r, h1, h2, h3⟩ => ⟨r, h1, h2, hS.keep h3⟩
theorem contf_c {l : List Bs} {a : Option Addr} {cap : Nat} {w : World} {ok : Nat → Prop} (hF1 : (Fact.sl a (strs l)).holds ok w) (hl : l.length ≤ 9223372036854775807) :
  Cw 194 #[.slice a l.length cap, .func (.func 195) #[] #[]] w (.bool (decide (¬ ∀ s ∈ l, okN s))) := by
 refine En [Fact.sl a (strs l)] [(0, .slice a l.length cap), (1, .func (.func 195) #[] #[])] Tryz.func194 rfl Tryz.ntmps194 rfl (Ac rfl (Ac rfl (An _))) (Fc (fact_any hF1) Fn) ?_
 refine Cs (Ka rfl (Nt (Cs (Km rfl (Km rfl ?_)))))
 refine Kh rfl (Oc rfl rfl (keep_ex fun w hS => idxf_c (l := l) (a := a) (cap := cap) (w := w) hS.sl hl)) ?_
 intro r; refine WL.pu ?_; intro hr
 refine Kq rfl (rd_geq rfl rfl rfl) (Ka rfl (Nt (Ce ?_)))
 exact Rn rfl (.tmp rfl .nil) fun w' hS => ⟨congrArg (fun b => Ending.returned (.bool b)) (decide_eq_decide.2 hr), hS.below⟩
theorem good_c {t : Tp} {a : Option Addr} {cap : Nat} {w : World} {ok : Nat → Prop} (hF1 : (Fact.sl a (strs t.vals)).holds ok w) (hl : t.vals.length ≤ 9223372036854775807) :
  Cw 152 #[t.v (.slice a t.vals.length cap)] w (.bool (decide (goodT t))) := by
 refine En [Fact.sl a (strs t.vals)] [(0, t.v (.slice a t.vals.length cap))] Tryz.func152 rfl Tryz.ntmps152 rfl (Ac rfl (An _)) (Fc (fact_any hF1) Fn) ?_
 refine Cs ?_
 refine Kh rfl (Oy rfl rfl) ?_
 intro b1
 refine Ka rfl (Nt (Cs (Kq rfl (Fa (q := 2) rfl rfl u33 rfl rfl) (Kq rfl (Ld rfl rfl .tc u3) ?_))))
 refine Kq rfl (rd_geq rfl rfl rfl) (Km rfl ?_)
 refine Nb 6 rfl (fun hg6 => ?_) (fun hg6 => ?_)
 ·(try simp only [sB] at hg6)
  refine Kq rfl (Fa (q := 2) rfl rfl u33 rfl rfl) (Kq rfl (Ld rfl rfl .tc u3) ?_)
  refine Kq rfl (rd_leq rfl rfl rfl) (Kq rfl (Rp rfl rfl rfl) (Km rfl ?_))
  refine Nb 11 rfl (fun hg11 => ?_) (fun hg11 => ?_)
  ·(try simp only [sB] at hg11)
   refine Kq rfl (Fa (q := 0) rfl rfl u33 rfl rfl) (Kq rfl (Ld rfl rfl .tc u31) ?_)
   refine Ku rfl (Oc rfl rfl (Kv fun w hS => contf_c (l := t.vals) (by (exact hS.sl)) (by assumption))) ?_
   refine Kq rfl (Rt rfl rfl) (Kq rfl (Rp rfl rfl rfl) (Ka rfl (Nt (Ce ?_))))
   exact Rn rfl (.tmp rfl .nil) fun w' hS => ⟨congrArg (fun b => Ending.returned (.bool b)) (by rw [Bool.eq_iff_iff]; simp only [Bool.not_eq_true', decide_eq_false_iff_not, decide_eq_true_eq, Classical.not_not, Bool.false_eq_true]; unfold goodT; (exact ⟨fun h => ⟨by omega, by omega, h⟩, fun h => h.2.2⟩)), hS.below⟩
  ·(try simp only [sB] at hg11)
   refine Kt rfl (Kt rfl (Kt rfl (Kt rfl (Kq rfl (Rq rfl rfl rfl) (Ka rfl (Nt (Ce ?_)))))))
   exact Rn rfl (.tmp rfl .nil) fun w' hS => ⟨congrArg (fun b => Ending.returned (.bool b)) (by rw [Bool.eq_iff_iff]; simp only [Bool.not_eq_true', decide_eq_false_iff_not, decide_eq_true_eq, Classical.not_not, Bool.false_eq_true]; unfold goodT; (exact ⟨fun h => h.elim, fun h => by omega⟩)), hS.below⟩
 ·(try simp only [sB] at hg6)
  refine Kt rfl (Kt rfl (Kt rfl (Kq rfl (Rq rfl rfl rfl) (Km rfl (Kt rfl (Kt rfl (Kt rfl (Kt rfl (Kq rfl (Rq rfl rfl rfl) (Ka rfl (Nt (Ce ?_))))))))))))
  exact Rn rfl (.tmp rfl .nil) fun w' hS => ⟨congrArg (fun b => Ending.returned (.bool b)) (by rw [Bool.eq_iff_iff]; simp only [Bool.not_eq_true', decide_eq_false_iff_not, decide_eq_true_eq, Classical.not_not, Bool.false_eq_true]; unfold goodT; (exact ⟨fun h => h.elim, fun h => by omega⟩)), hS.below⟩
theorem rtgood_c {t : Tp} {a : Option Addr} {cap : Nat} {w : World} {ok : Nat → Prop} (hF1 : (Fact.sl a (strs t.vals)).holds ok w) (hl : t.vals.length ≤ 9223372036854775807) :
  Cw 51 #[t.v (.slice a t.vals.length cap)] w (.bool (decide (goodT t))) := by
 refine En [Fact.sl a (strs t.vals)] [(0, t.v (.slice a t.vals.length cap))] Tryz.func51 rfl Tryz.ntmps51 rfl (Ac rfl (An _)) (Fc (fact_any hF1) Fn) ?_
 refine Cs ?_
 refine Kh rfl (Oy rfl rfl) ?_
 intro b1
 refine Ka rfl (Nt (Cq (Cs (Ka rfl (Nt (Cb ?_))))))
 refine Lp (σ := Nat) [(1, _)] (fun gq => [(3, .int .i64 (gq : Int))]) (fun gq => gq ≤ t.vals.length ∧ ∀ s ∈ t.vals.take gq, okN s) (fun gq => t.vals.length - gq) (0) (S1 rfl) (S1 rfl) (by (try dsimp only); exact ⟨Nat.zero_le _, fun s h => by simp at h⟩) ?_
 rintro k hinv1; (try dsimp only at hinv1 ⊢)
 obtain ⟨hk, hks⟩ := hinv1
 refine Cq (Cs (Km rfl (Kq rfl (Fa (q := 0) rfl rfl u33 rfl rfl) (Kq rfl (Ld rfl rfl .tc u31) ?_))))
 refine Kq rfl (rd_len rfl rfl u31) (Kq rfl (rd_lss rfl rfl rfl) (Nt ?_))
 refine Cd rfl (fun hc8 => ?_) (fun hc8 => ?_)
 ·(try simp only [sB] at hc8)
  refine Ck (Xa (Cq (Cb (Cs (Kq rfl (Fa (q := 0) rfl rfl u33 rfl rfl) (Kq rfl (Ld rfl rfl .tc u31) ?_))))))
  refine Km rfl ?_
  refine Kq rfl (Ib rfl rfl rfl u31 (by omega) (by (rw [List.length_map]; omega))) ?_
  refine Kq rfl (ldm rfl rfl u22 rfl (by omega)) ?_
  refine Ku rfl (Oc rfl rfl (Kv fun w hS => rvalid_c (a := t.vals.getD k default))) ?_
  refine Kq rfl (Rt rfl rfl) (Nt ?_)
  refine Cd rfl (fun hc17 => ?_) (fun hc17 => ?_)
  ·(try simp only [sB] at hc17)
   refine Cs (Ka rfl (Nt (Ce (Xf (Xb (Xb (Xf (Xb ?_))))))))
   exact Rn rfl (.tmp rfl .nil) fun w' hS => ⟨congrArg (fun b => Ending.returned (.bool b)) (by symm; rw [decide_eq_false_iff_not]; intro h; have := h.2.2 _ (getD_memB t.vals k (by omega)); simp_all), hS.below⟩
  ·(try simp only [sB] at hc17)
   refine Ck (Xd (Xa (Cg (Km rfl (Kq rfl (Rz rfl rfl rfl (by omega)) (Ka rfl (Nn ?_)))))))
   refine Ly (k + 1) (by (try dsimp only); omega) (S1 rfl) (by refine (Sc ?_ (S0 _)) <;> (rfl)) ?_ (by (exact fun _ h => h))
   (try dsimp only)
   exact ⟨by omega, all_takeB (by omega) hks (by simpa using hc17)⟩
 ·(try simp only [sB] at hc8)
  refine Cx (Xc (Xc (Xe ?_)))
  obtain rfl : k = t.vals.length := by omega
  rw [List.take_of_length_le (Nat.le_refl _)] at hks
  refine Xa (Cs (Kq rfl (Fa (q := 2) rfl rfl u33 rfl rfl) (Kq rfl (Ld rfl rfl .tc u3) ?_)))
  refine Kq rfl (rd_geq rfl rfl rfl) (Km rfl ?_)
  refine Nb 21 rfl (fun hg21 => ?_) (fun hg21 => ?_)
  ·(try simp only [sB] at hg21)
   refine Kq rfl (Fa (q := 2) rfl rfl u33 rfl rfl) (Kq rfl (Ld rfl rfl .tc u3) ?_)
   refine Kq rfl (rd_leq rfl rfl rfl) (Kq rfl (Rp rfl rfl rfl) (Ka rfl (Nt (Ce ?_))))
   exact Rn rfl (.tmp rfl .nil) fun w' hS => ⟨congrArg (fun b => Ending.returned (.bool b)) (by rw [Bool.eq_iff_iff]; simp only [decide_eq_true_eq, Bool.false_eq_true]; unfold goodT; (exact ⟨fun h => ⟨by omega, by omega, hks⟩, fun h => by omega⟩)), hS.below⟩
  ·(try simp only [sB] at hg21)
   refine Kt rfl (Kt rfl (Kt rfl (Kq rfl (Rq rfl rfl rfl) (Ka rfl (Nt (Ce ?_))))))
   exact Rn rfl (.tmp rfl .nil) fun w' hS => ⟨congrArg (fun b => Ending.returned (.bool b)) (by rw [Bool.eq_iff_iff]; simp only [decide_eq_true_eq, Bool.false_eq_true]; unfold goodT; (exact ⟨fun h => h.elim, fun h => by omega⟩)), hS.below⟩
theorem take_sameL {l m : List Bs} {k : Nat} (h1 : k < l.length) (h2 : k < m.length) (h : l.take k = m.take k) (h3 : l.getD k default = m.getD k default) : l.take (k + 1) = m.take (k + 1) := by
 rw [List.getD_eq_getElem?_getD, List.getD_eq_getElem?_getD, List.getElem?_eq_getElem h1, List.getElem?_eq_getElem h2] at h3
 rw [List.take_add_one, List.take_add_one, h, List.getElem?_eq_getElem h1, List.getElem?_eq_getElem h2]
 rw [Option.toList, Option.toList]; simp only [Option.getD] at h3; rw [h3]
theorem Tp.eq_iff (a b : Tp) : a = b ↔ a.seed = b.seed ∧ a.at_ = b.at_ ∧ a.vals = b.vals := by
 cases a; cases b; simp only [Tp.mk.injEq]; constructor
 ·rintro ⟨h1, h2, h3⟩; exact ⟨h2, h3, h1⟩
 ·rintro ⟨h1, h2, h3⟩; exact ⟨h3, h1, h2⟩
theorem sameT_c {t u : Tp} {a b : Option Addr} {ca cb : Nat} {w : World} {ok : Nat → Prop} (hF1 : (Fact.sl a (strs t.vals)).holds ok w) (hF2 : (Fact.sl b (strs u.vals)).holds ok w) (hl : t.vals.length ≤ 1000000) (hm : u.vals.length ≤ 1000000) :
  Cw 16 #[t.v (.slice a t.vals.length ca), u.v (.slice b u.vals.length cb)] w (.bool (decide (t = u))) := by
 refine En [Fact.sl a (strs t.vals), Fact.sl b (strs u.vals)] [(0, t.v (.slice a t.vals.length ca)), (1, u.v (.slice b u.vals.length cb))] Tryz.func16 rfl Tryz.ntmps16 rfl (Ac rfl (Ac rfl (An _))) (Fc (fact_any hF1) (Fc (fact_any hF2) Fn)) ?_
 refine Cs ?_
 refine Kh rfl (Oy rfl rfl) ?_
 intro b2
 refine Kh rfl (Oy rfl rfl) ?_
 intro b3
 refine Ka rfl (Nt (Cq (Cs (Kq rfl (Fa (q := 1) rfl rfl u33 rfl rfl) (Kq rfl (Ld rfl rfl .tc u9) ?_)))))
 refine Kq rfl (Fa (q := 1) rfl rfl u33 rfl rfl) (Kq rfl (Ld rfl rfl .tc u9) ?_)
 refine Kq rfl (rd_sne rfl rfl rfl) (Km rfl ?_)
 refine Nb 11 rfl (fun hg11 => ?_) (fun hg11 => ?_)
 ·(try simp only [sB] at hg11)
  refine Kt rfl (Kt rfl (Kt rfl (Kt rfl (Kt rfl (Kq rfl (Rp rfl rfl rfl) (Km rfl (Kt rfl (Kt rfl (Kt rfl (Kt rfl (Kt rfl (Kt rfl (Kt rfl (Kq rfl (Rp rfl rfl rfl) (Nt ?_)))))))))))))))
  refine Cd rfl (fun _ => ?_) (fun h => by cases h)
  refine Cs (Ka rfl (Nt (Ce (Xb ?_))))
  exact Rn rfl (.tmp rfl .nil) fun w' hS => ⟨congrArg (fun b => Ending.returned (.bool b)) (by symm; rw [decide_eq_false_iff_not]; rintro rfl; simp_all), hS.below⟩
 ·(try simp only [sB] at hg11)
  refine Kq rfl (Fa (q := 2) rfl rfl u33 rfl rfl) (Kq rfl (Ld rfl rfl .tc u3) ?_)
  refine Kq rfl (Fa (q := 2) rfl rfl u33 rfl rfl) (Kq rfl (Ld rfl rfl .tc u3) ?_)
  refine Kq rfl (rd_neq rfl rfl rfl) (Kq rfl (Rq rfl rfl rfl) (Km rfl ?_))
  refine Nb 18 rfl (fun hg18 => ?_) (fun hg18 => ?_)
  ·(try simp only [sB] at hg18)
   refine Kt rfl (Kt rfl (Kt rfl (Kt rfl (Kt rfl (Kt rfl (Kt rfl (Kq rfl (Rp rfl rfl rfl) (Nt ?_))))))))
   refine Cd rfl (fun _ => ?_) (fun h => by cases h)
   refine Cs (Ka rfl (Nt (Ce (Xb ?_))))
   exact Rn rfl (.tmp rfl .nil) fun w' hS => ⟨congrArg (fun b => Ending.returned (.bool b)) (by symm; rw [decide_eq_false_iff_not]; rintro rfl; simp_all), hS.below⟩
  ·(try simp only [sB] at hg18)
   refine Kq rfl (Fa (q := 0) rfl rfl u33 rfl rfl) (Kq rfl (Ld rfl rfl .tc u31) ?_)
   refine Kq rfl (rd_len rfl rfl u31) (Kq rfl (Fa (q := 0) rfl rfl u33 rfl rfl) (Kq rfl (Ld rfl rfl .tc u31) ?_))
   refine Kq rfl (rd_len rfl rfl u31) (Kq rfl (rd_neq rfl rfl rfl) (Kq rfl (Rq rfl rfl rfl) (Nt ?_)))
   refine Cd rfl (fun hc26 => ?_) (fun hc26 => ?_)
   ·(try simp only [sB] at hc26)
    refine Cs (Ka rfl (Nt (Ce (Xb ?_))))
    exact Rn rfl (.tmp rfl .nil) fun w' hS => ⟨congrArg (fun b => Ending.returned (.bool b)) (by symm; rw [decide_eq_false_iff_not]; rintro rfl; simp_all), hS.below⟩
   ·(try simp only [sB] at hc26)
    have hsd : t.seed = u.seed := by simp_all
    have hat : t.at_ = u.at_ := by simp_all
    have hln : t.vals.length = u.vals.length := by omega
    refine Ck (Xa (Cq (Cs (Ka rfl (Nt (Cb ?_))))))
    refine Lp (σ := Nat) [(2, _), (3, _)] (fun gq => [(5, .int .i64 (gq : Int))]) (fun gq => gq ≤ t.vals.length ∧ t.vals.take gq = u.vals.take gq) (fun gq => t.vals.length - gq) (0) (S2 rfl rfl) (S1 rfl) (by (try dsimp only); exact ⟨Nat.zero_le _, by simp⟩) ?_
    rintro k hinv1; (try dsimp only at hinv1 ⊢)
    obtain ⟨hk, hkk⟩ := hinv1
    refine Cq (Cs (Km rfl (Kq rfl (Fa (q := 0) rfl rfl u33 rfl rfl) (Kq rfl (Ld rfl rfl .tc u31) ?_))))
    refine Kq rfl (rd_len rfl rfl u31) (Kq rfl (rd_lss rfl rfl rfl) (Nt ?_))
    refine Cd rfl (fun hc31 => ?_) (fun hc31 => ?_)
    ·(try simp only [sB] at hc31)
     refine Ck (Xa (Cq (Cb (Cq ?_))))
     refine Cf [0, 1, 2, 3, 4, 5, 6, 7, 8, 9, 10] [] [0, 0, 0, 0, 0, 0, 0, 0, 0, 0, 0] (by kernel_rfl) (by kernel_rfl) rfl ?_
     refine Kj rfl (Fa (q := 0) rfl rfl u33 rfl rfl) (Kj rfl (Ld rfl rfl .tc u31) ?_)
     refine Kj rfl (Rm rfl rfl) ?_
     refine Kj rfl (Ib rfl rfl rfl u31 (by omega) (by (rw [List.length_map]; omega))) ?_
     refine Kj rfl (ldm rfl rfl u22 rfl (by omega)) ?_
     refine Kj rfl (Fa (q := 0) rfl rfl u33 rfl rfl) (Kj rfl (Ld rfl rfl .tc u31) ?_)
     refine Kj rfl (Rm rfl rfl) ?_
     refine Kj rfl (Ib rfl rfl rfl u31 (by omega) (by (rw [List.length_map]; omega))) ?_
     refine Kj rfl (ldm rfl rfl u22 rfl (by omega)) ?_
     refine Kj rfl (rd_sne rfl rfl rfl) ?_
     refine WJ.nil ?_
     refine Nt ?_
     refine Cd rfl (fun hc44 => ?_) (fun hc44 => ?_)
     ·(try simp only [sB] at hc44)
      refine Cs (Ka rfl (Nt (Ce (Xf (Xb (Xb (Xf (Xb ?_))))))))
      exact Rn rfl (.tmp rfl .nil) fun w' hS => ⟨congrArg (fun b => Ending.returned (.bool b)) (by symm; rw [decide_eq_false_iff_not]; intro h; rw [h] at hc44; simp at hc44), hS.below⟩
     ·(try simp only [sB] at hc44)
      refine Ck (Xd (Xa (Cg (Km rfl (Kq rfl (Rz rfl rfl rfl (by omega)) (Ka rfl (Nn ?_)))))))
      refine Ly (k + 1) (by (try dsimp only); omega) (S2 rfl rfl) (by refine (Sc ?_ (S0 _)) <;> (rfl)) ?_ (by (exact fun _ h => h))
      (try dsimp only)
      exact ⟨by omega, take_sameL (by omega) (by omega) hkk (by simpa using hc44)⟩
    ·(try simp only [sB] at hc31)
     refine Cx (Xc (Xc (Xe ?_)))
     obtain rfl : k = t.vals.length := by omega
     rw [List.take_of_length_le (Nat.le_refl _), List.take_of_length_le (by omega)] at hkk
     refine Xa (Cs (Ka rfl (Nt (Ce ?_))))
     exact Rn rfl (.tmp rfl .nil) fun w' hS => ⟨congrArg (fun b => Ending.returned (.bool b)) (by symm; rw [decide_eq_true_eq, Tp.eq_iff]; exact ⟨hsd, hat, hkk⟩), hS.below⟩
def fewT (t : Tp) : Prop := t.vals.length ≤ 40 ∧ t.seed.length ≤ 100 ∧ ∀ s ∈ t.vals, s.length ≤ 140
instance (t : Tp) : Decidable (fewT t) := inferInstanceAs (Decidable (_ ∧ _ ∧ _))
theorem fewT_c {t : Tp} {a : Option Addr} {cap : Nat} {w : World} {ok : Nat → Prop} (hF1 : (Fact.sl a (strs t.vals)).holds ok w) (hl : t.vals.length ≤ 9223372036854775807) :
  Cw 12 #[t.v (.slice a t.vals.length cap)] w (.bool (decide (fewT t))) := by
 refine En [Fact.sl a (strs t.vals)] [(0, t.v (.slice a t.vals.length cap))] Tryz.func12 rfl Tryz.ntmps12 rfl (Ac rfl (An _)) (Fc (fact_any hF1) Fn) ?_
 refine Cs ?_
 refine Kh rfl (Oy rfl rfl) ?_
 intro b1
 refine Ka rfl (Nt (Cq (Cs (Ka rfl (Nt (Cb ?_))))))
 refine Lp (σ := Nat) [(1, _)] (fun gq => [(3, .int .i64 (gq : Int))]) (fun gq => gq ≤ t.vals.length ∧ gq ≤ 40 ∧ ∀ s ∈ t.vals.take gq, s.length ≤ 140) (fun gq => t.vals.length - gq) (0) (S1 rfl) (S1 rfl) (by (try dsimp only); exact ⟨Nat.zero_le _, by omega, fun s h => by simp at h⟩) ?_
 rintro k hinv1; (try dsimp only at hinv1 ⊢)
 obtain ⟨hk, hk4, hks⟩ := hinv1
 refine Cq (Cs (Km rfl (Kq rfl (Fa (q := 0) rfl rfl u33 rfl rfl) (Kq rfl (Ld rfl rfl .tc u31) ?_))))
 refine Kq rfl (rd_len rfl rfl u31) (Kq rfl (rd_lss rfl rfl rfl) (Km rfl ?_))
 refine Nb 9 rfl (fun hg9 => ?_) (fun hg9 => ?_)
 ·(try simp only [sB] at hg9)
  refine Km rfl (Kq rfl (rd_lss rfl rfl rfl) (Kq rfl (Rp rfl rfl rfl) (Nt ?_)))
  refine Cd rfl (fun hc12 => ?_) (fun hc12 => ?_)
  ·(try simp only [sB] at hc12)
   refine Ck (Xa (Cq (Cb (Cs (Kq rfl (Fa (q := 0) rfl rfl u33 rfl rfl) (Kq rfl (Ld rfl rfl .tc u31) ?_))))))
   refine Km rfl ?_
   refine Kq rfl (Ib rfl rfl rfl u31 (by omega) (by (rw [List.length_map]; omega))) ?_
   refine Kq rfl (ldm rfl rfl u22 rfl (by omega)) ?_
   refine Kq rfl (rd_slen rfl rfl u22) (Kq rfl (rd_gtr rfl rfl rfl) (Nt ?_))
   refine Cd rfl (fun hc21 => ?_) (fun hc21 => ?_)
   ·(try simp only [sB] at hc21)
    refine Cs (Ka rfl (Nt (Ce (Xf (Xb (Xb (Xf (Xb ?_))))))))
    exact Rn rfl (.tmp rfl .nil) fun w' hS => ⟨congrArg (fun b => Ending.returned (.bool b)) (by symm; rw [decide_eq_false_iff_not]; intro h; have := h.2.2 _ (getD_memB t.vals k (by omega)); omega), hS.below⟩
   ·(try simp only [sB] at hc21)
    refine Ck (Xd (Xa (Cg (Km rfl (Kq rfl (Rz rfl rfl rfl (by omega)) (Ka rfl (Nn ?_)))))))
    refine Ly (k + 1) (by (try dsimp only); omega) (S1 rfl) (by refine (Sc ?_ (S0 _)) <;> (rfl)) ?_ (by (exact fun _ h => h))
    (try dsimp only)
    exact ⟨by omega, by omega, all_takeB (by omega) hks (by omega)⟩
  ·(try simp only [sB] at hc12)
   refine Cx (Xc (Xc (Xe (Xa (Cs (Kq rfl (Fa (q := 0) rfl rfl u33 rfl rfl) (Kq rfl (Ld rfl rfl .tc u31) ?_)))))))
   refine Kq rfl (rd_len rfl rfl u31) (Kq rfl (rd_leq rfl rfl rfl) (Km rfl ?_))
   refine Nb 26 rfl (fun hg26 => ?_) (fun hg26 => ?_)
   ·(try simp only [sB] at hg26)
    refine Kq rfl (Fa (q := 1) rfl rfl u33 rfl rfl) (Kq rfl (Ld rfl rfl .tc u9) ?_)
    refine Kq rfl (rd_slen rfl rfl u9) (Kq rfl (rd_leq rfl rfl rfl) (Kq rfl (Rp rfl rfl rfl) (Ka rfl (Nt (Ce ?_)))))
    exact Rn rfl (.tmp rfl .nil) fun w' hS => ⟨congrArg (fun b => Ending.returned (.bool b)) (by rw [Bool.eq_iff_iff]; simp only [decide_eq_true_eq, Bool.false_eq_true]; unfold fewT; (exact ⟨fun h => ⟨by omega, by omega, by rw [List.take_of_length_le (by omega)] at hks; exact hks⟩, fun h => by omega⟩)), hS.below⟩
   ·(try simp only [sB] at hg26)
    refine Kt rfl (Kt rfl (Kt rfl (Kt rfl (Kq rfl (Rq rfl rfl rfl) (Ka rfl (Nt (Ce ?_)))))))
    exact Rn rfl (.tmp rfl .nil) fun w' hS => ⟨congrArg (fun b => Ending.returned (.bool b)) (by rw [Bool.eq_iff_iff]; simp only [decide_eq_true_eq, Bool.false_eq_true]; unfold fewT; (exact ⟨fun h => h.elim, fun h => by omega⟩)), hS.below⟩
 ·(try simp only [sB] at hg9)
  refine Kt rfl (Kt rfl (Kq rfl (Rq rfl rfl rfl) (Nt ?_)))
  refine Cd rfl (fun h => by cases h) (fun _ => ?_)
  refine Cx (Xc (Xc (Xe (Xa (Cs (Kq rfl (Fa (q := 0) rfl rfl u33 rfl rfl) (Kq rfl (Ld rfl rfl .tc u31) ?_)))))))
  refine Kq rfl (rd_len rfl rfl u31) (Kq rfl (rd_leq rfl rfl rfl) (Km rfl ?_))
  refine Nb 26 rfl (fun hg26 => ?_) (fun hg26 => ?_)
  ·(try simp only [sB] at hg26)
   refine Kq rfl (Fa (q := 1) rfl rfl u33 rfl rfl) (Kq rfl (Ld rfl rfl .tc u9) ?_)
   refine Kq rfl (rd_slen rfl rfl u9) (Kq rfl (rd_leq rfl rfl rfl) (Kq rfl (Rp rfl rfl rfl) (Ka rfl (Nt (Ce ?_)))))
   exact Rn rfl (.tmp rfl .nil) fun w' hS => ⟨congrArg (fun b => Ending.returned (.bool b)) (by rw [Bool.eq_iff_iff]; simp only [decide_eq_true_eq, Bool.false_eq_true]; unfold fewT; (exact ⟨fun h => ⟨by omega, by omega, by rw [List.take_of_length_le (by omega)] at hks; exact hks⟩, fun h => by omega⟩)), hS.below⟩
  ·(try simp only [sB] at hg26)
   refine Kt rfl (Kt rfl (Kt rfl (Kt rfl (Kq rfl (Rq rfl rfl rfl) (Ka rfl (Nt (Ce ?_)))))))
   exact Rn rfl (.tmp rfl .nil) fun w' hS => ⟨congrArg (fun b => Ending.returned (.bool b)) (by rw [Bool.eq_iff_iff]; simp only [decide_eq_true_eq, Bool.false_eq_true]; unfold fewT; (exact ⟨fun h => h.elim, fun h => by omega⟩)), hS.below⟩
theorem dig10 : ∀ n, n < 10 → (([48, 49, 50, 51, 52, 53, 54, 55, 56, 57] : Bs).drop n).take 1 = [UInt8.ofNat (48 + n)] := by decide
theorem dec_big {n : Nat} (h : ¬ n < 10) : Lib.decDigits n = Lib.decDigits (n / 10) ++ [UInt8.ofNat (48 + n % 10)] := by rw [Lib.decDigits, dif_neg h]
theorem dec_small {n : Nat} (h : n < 10) : Lib.decDigits n = [UInt8.ofNat (48 + n)] := by rw [Lib.decDigits, dif_pos h]
theorem dec_len20 : ∀ (k n : Nat), n < 10 ^ (k + 1) → (Lib.decDigits n).length ≤ k + 1
 | 0, n, h => by rw [dec_small (by simpa using h)]; simp
 | k + 1, n, h => by
  by_cases h' : n < 10
  ·rw [dec_small h']; simp
  ·rw [dec_big h', List.length_append]
   have := dec_len20 k (n / 10) (by rw [Nat.pow_succ] at h; omega)
   simp; omega
theorem dec_n {n : Nat} {w : World} (hih : ∀ m, m < n → ∀ w, Calls Tryz.prog 198 #[.int .i64 (m : Int)] w fun e w' => e = .returned (.string (S (Lib.decDigits m))) ∧ Below w.heap.size w w') (hn : n < 10000000000000000000) (hn2 : n ≤ 9223372036854775807) :
  Cw 198 #[.int .i64 (n : Int)] w (.string (S (Lib.decDigits n))) := by
 refine En [] [(0, .int .i64 (n : Int))] Tryz.func198 rfl Tryz.ntmps198 rfl (Ac rfl (An _)) Fn ?_
 refine Cs (Ka rfl (Nt (Cq (Cs (Km rfl (Kq rfl (rd_lss rfl rfl rfl) (Nt ?_)))))))
 refine Cd rfl (fun hc5 => by exfalso; (try simp only [sB] at hc5); omega) (fun hc5 => ?_)
 (try simp only [sB] at hc5)
 refine Ck (Xa (Cq (Cs (Km rfl (Kq rfl (rd_lss rfl rfl rfl) (Nt ?_))))))
 refine Cd rfl (fun hc24 => ?_) (fun hc24 => ?_)
 ·(try simp only [sB] at hc24)
  refine Cs (Km rfl (Km rfl (Kq rfl (Rz rfl rfl rfl (by omega)) ?_)))
  refine Kq rfl (rd_ss rfl rfl rfl rfl u9 ?_) ?_
  ·(try simp only [List.length_append, List.length_cons, List.length_nil]); omega
  refine Ns 28 rfl (v' := .string (S ([UInt8.ofNat (48 + n)]))) (congrArg (fun l => Value.string (S l)) (by (have := dig10 n (by omega); rw [← this]; rw [Int.toNat_natCast, Int.toNat_natCast, Nat.add_sub_cancel_left]))) ?_
  refine Ka rfl (Nt (Ce (Xb ?_)))
  exact R1 rfl rfl (by rw [dec_small (by omega)]; rfl)
 ·(try simp only [sB] at hc24)
  refine Ck (Xa (Cq ?_))
  refine Cf [0, 1, 2, 3, 4, 5, 6, 7, 8, 9, 10] [] [0, 0, 1, 0, 0, 0, 0, 0, 0, 0, 0] (by kernel_rfl) (by kernel_rfl) rfl ?_
  refine Kj rfl (Rm rfl rfl) (Kj rfl (rd_quo64nl rfl rfl rfl (by omega)) ?_)
  refine Jv rfl rfl rfl rfl rfl (fun ext => Oc rfl rfl (Kv fun w hS => hih (n / 10) (by omega) w)) ?_
  refine Kj rfl (Rm rfl rfl) (Kj rfl (rd_rem64nl rfl rfl rfl (by omega)) (Kj rfl (Rm rfl rfl) (Kj rfl (rd_rem64nl rfl rfl rfl (by omega)) (Kj rfl (Rz rfl rfl rfl (by omega)) ?_))))
  refine Kj rfl (rd_ss rfl rfl rfl rfl u9 ?_) ?_
  ·(try simp only [List.length_append, List.length_cons, List.length_nil]); omega
  refine WJ.set 37 rfl (v' := .string (S ([UInt8.ofNat (48 + n % 10)]))) (congrArg (fun l => Value.string (S l)) (by (have := dig10 (n % 10) (by omega); rw [← this]; rw [Int.toNat_natCast, Int.toNat_natCast, Nat.add_sub_cancel_left]))) ?_
  have hdl := dec_len20 18 (n / 10) (by omega)
  refine Kj rfl (rd_cat rfl rfl rfl ?_) ?_
  ·((try simp only [List.length_append, List.length_cons, List.length_nil]); omega)
  refine Kj rfl (Ra rfl rfl) ?_
  refine WJ.nil ?_
  refine Nt (Ce ?_)
  exact R1 rfl rfl (by rw [dec_big (n := n) (by omega)]; rfl)
theorem dec_ok (n : Nat) (hn : n ≤ 9223372036854775807) : ∀ w, Cw 198 #[.int .i64 (n : Int)] w (.string (S (Lib.decDigits n))) := by
 induction n using Nat.strongRecOn with
 | _ n ih => intro w; exact dec_n (fun m hm w => ih m hm (by omega) w) (by omega) hn
theorem dec_c {n : Nat} {w : World} (hn : n ≤ 9223372036854775807) :
  Cw 198 #[.int .i64 (n : Int)] w (.string (S (Lib.decDigits n))) :=
 dec_ok n hn w
theorem canonical_c {s : Bs} {w : World} :
  Cw 199 #[.string (S s)] w (.string (S (canon (val s)))) := by
 refine En [] [(0, .string (S s))] Tryz.func199 rfl Tryz.ntmps199 rfl (Ac rfl (An _)) Fn ?_
 refine Cs (Ka rfl (Nt (Cq (Cb ?_))))
 refine Lp (σ := Bs) [] (fun gq => [(0, .string (S gq))]) (fun gq => trimB gq = trimB s) (fun gq => gq.length) (s) (S0 _) (S1 rfl) (by (try dsimp only); all_goals rfl) ?_
 rintro t hinv1; (try dsimp only at hinv1 ⊢)
 refine Cq (Cs (Km rfl (Kq rfl (rd_slen rfl rfl u9) (Kq rfl (rd_gtr rfl rfl rfl) (Km rfl ?_)))))
 refine Nb 6 rfl (fun hg6 => ?_) (fun hg6 => ?_)
 ·(try simp only [sB] at hg6)
  refine Km rfl ?_
  refine Kq rfl (rd_sidxD rfl rfl rfl u9 ?_) ?_
  ·omega
  refine Kq rfl (rd_eql rfl rfl rfl) (Kq rfl (Rp rfl rfl rfl) (Nt ?_))
  refine Cd rfl (fun hc10 => ?_) (fun hc10 => ?_)
  ·(try simp only [sB] at hc10)
   have hz : (t.getD 0 default).toNat = 0 := by (simp at hc10; exact hc10)
   refine Ck (Xa (Cb (Cg (Km rfl ?_))))
   refine Kq rfl (rd_sfrom rfl rfl rfl u9 ?_) ?_
   ·(try simp only [List.length_append, List.length_cons, List.length_nil]); omega
   refine Ns 12 rfl (v' := .string (S (t.drop 1))) (congrArg (fun l => Value.string (S l)) (by rfl)) ?_
   refine Ka rfl (Nn (Xd ?_))
   refine Ly (t.drop 1) (by simp only [List.length_drop]; omega) (S0 _) (by refine (Sc ?_ (S0 _)) <;> (rfl)) ?_ (by (exact fun _ h => h))
   (try dsimp only)
   rw [← trimB_zero (by omega) hz]; exact hinv1
  ·(try simp only [sB] at hc10)
   refine Cx (Xc (Xc (Xe (Xa (Cs (Km rfl (Ka rfl (Nt (Ce ?_)))))))))
   exact R1 rfl rfl (by rw [show canon (val s) = t from by rw [← trim_canon, ← hinv1, trimB_stop (by (exact .inr (fun h0 => hc10 (by show ((t.getD 0 default).toNat : Int) = 0; omega))))]]; rfl)
 ·(try simp only [sB] at hg6)
  refine Kt rfl (Kt rfl (Kt rfl (Kq rfl (Rq rfl rfl rfl) (Nt ?_))))
  refine Cd rfl (fun h => by cases h) (fun _ => ?_)
  refine Cx (Xc (Xc (Xe (Xa (Cs (Km rfl (Ka rfl (Nt (Ce ?_)))))))))
  exact R1 rfl rfl (by rw [show canon (val s) = t from by rw [← trim_canon, ← hinv1, trimB_stop (by (exact .inl (by omega)))]]; rfl)
theorem mac_len (k s : Bs) : (mac k s).length = 32 := sha_len _
def nameB (at_ a b : Nat) : Bs := Lib.decDigits at_ ++ [46] ++ Lib.decDigits a ++ [46] ++ Lib.decDigits b
def blkB (sd : Bs) (at_ a b : Nat) : Bs := mac sd (nameB at_ a b)
def blks (sd : Bs) (at_ a : Nat) : Nat → Bs
 | 0 => []
 | k + 1 => blks sd at_ a k ++ blkB sd at_ a k
theorem blks_len (sd : Bs) (at_ a : Nat) : ∀ k, (blks sd at_ a k).length = 32 * k
 | 0 => rfl
 | k + 1 => by rw [blks, List.length_append, blks_len sd at_ a k, blkB, mac_len]; omega
def sizeB (nb : Nat) : Nat := (nb + 7) / 8
def bytesB (sd : Bs) (at_ a nb : Nat) : Bs := (blks sd at_ a ((sizeB nb + 31) / 32)).take (sizeB nb)
def attS (sd : Bs) (at_ a nb : Nat) : Bs := canon (val (bytesB sd at_ a nb) % 2 ^ nb)
theorem mask_val (c : UInt8) (r : Bs) (x nb : Nat) (hx : x ≤ 8) (hn : nb = 8 * r.length + x) : val (c :: r) % 2 ^ nb = c.toNat % 2 ^ x * 256 ^ r.length + val r := by
 have e : 2 ^ nb = 256 ^ r.length * 2 ^ x := by rw [hn, Nat.pow_add, Nat.pow_mul]
 have h1 := val_lt r
 rw [val, e, Nat.mod_mul, Nat.mul_comm c.toNat, Nat.mul_add_mod, Nat.mod_eq_of_lt h1, Nat.mul_add_div (p256 _), Nat.div_eq_of_lt h1, Nat.add_zero, Nat.mul_comm (c.toNat % 2 ^ x)]
 omega
theorem shl1 (i : Nat) (h : i ≤ 62) : IntKind.i64.wrap (1 * 2 ^ min ((i : Nat) : Int).toNat IntKind.i64.bits) = ((2 ^ i : Nat) : Int) := by
 have m1 : min ((i : Nat) : Int).toNat IntKind.i64.bits = i := by
  have : IntKind.i64.bits = 64 := by decide
  omega
 have h2 : 2 ^ i ≤ 2 ^ 62 := Nat.pow_le_pow_right (by decide) h
 rw [m1, Int.one_mul, show ((2 : Int) ^ i) = ((2 ^ i : Nat) : Int) by norm_cast, wrap64n _ (by omega)]
theorem mod_step (c P : Nat) (hP : 0 < P) : c % P = if P ≤ c % (2 * P) then c % (2 * P) - P else c % (2 * P) := by
 have h1 : c % (2 * P) % P = c % P := Nat.mod_mod_of_dvd _ ⟨2, by omega⟩
 have h2 := Nat.mod_lt c (show 0 < 2 * P by omega)
 split
 ·rename_i h
  rw [← h1, Nat.mod_eq_sub_mod h, Nat.mod_eq_of_lt (by omega)]
 ·rw [← h1, Nat.mod_eq_of_lt (by omega)]
theorem att_end {sd X : Bs} {at_ a nb Z x : Nat} (hZ : Z = sizeB nb) (hZ0 : 1 ≤ Z) (hby : bytesB sd at_ a nb = X.take Z) (hX : Z ≤ X.length) (hx : x = (X.getD 0 default).toNat % 2 ^ (8 - (8 * Z - nb))) (hnb : nb ≤ 8 * Z) (hnb2 : 8 * Z < nb + 8) :
  canon (val ([UInt8.ofNat x] ++ (X.take Z).drop 1)) = attS sd at_ a nb := by
 have e : X.take Z = X.getD 0 default :: (X.take Z).drop 1 := by
  cases X with
  | nil => simp at hX; omega
  | cons c s => obtain ⟨q, rfl⟩ : ∃ q, Z = q + 1 := ⟨Z - 1, by omega⟩; rfl
 have hl : ((X.take Z).drop 1).length = Z - 1 := by rw [List.length_drop, List.length_take]; omega
 have hc := (X.getD 0 default).toNat_lt
 have hxl : x < 256 := by rw [hx]; exact Nat.lt_of_le_of_lt (Nat.mod_le _ _) hc
 have hm := mask_val (X.getD 0 default) ((X.take Z).drop 1) (8 - (8 * Z - nb)) nb (by omega) (by rw [hl]; omega)
 rw [attS, hby]
 congr 1
 rw [show val (X.take Z) = val (X.getD 0 default :: (X.take Z).drop 1) by rw [← e], hm, List.singleton_append, val, UInt8.toNat_ofNat', ← hx]
 congr 1
 rw [Nat.mod_eq_of_lt (by omega)]
theorem rattempt_c {sd : Bs} {at_ a nb : Nat} {w : World} (hsd : sd.length ≤ 400000) (hat : at_ ≤ 4294967296) (ha : a ≤ 1000) (hnb : 1 ≤ nb) (hnb2 : nb ≤ 100000) :
  Cw 155 #[.string (S sd), .int .i64 (at_ : Int), .int .i64 (a : Int), .int .i64 (nb : Int)] w (.string (S (attS sd at_ a nb))) := by
 have hd1 := dec_len20 18 at_ (by omega); have hd2 := dec_len20 18 a (by omega)
 obtain ⟨Z, hZ⟩ : ∃ Z : Nat, Z = sizeB nb := ⟨_, rfl⟩
 have hZ1 : Z = (nb + 7) / 8 := hZ
 have hZ0 : 1 ≤ Z := by omega
 have hZl : Z ≤ 20000 := by omega
 refine En [] [(0, .string (S sd)), (1, .int .i64 (at_ : Int)), (2, .int .i64 (a : Int)), (3, .int .i64 (nb : Int))] Tryz.func155 rfl Tryz.ntmps155 rfl (Ac rfl (Ac rfl (Ac rfl (Ac rfl (An _))))) Fn ?_
 refine Cs (Ka rfl (Nt (Cs (Km rfl (Kq rfl (Rz rfl rfl rfl (by omega)) (Kq rfl (rd_quo64nl rfl rfl rfl (by omega)) (Ns 16 rfl (v' := .int .i64 ((Z : Nat) : Int)) (congrArg (Value.int .i64) (by omega)) (Ka rfl (Nt (Cs (Ka rfl (Nt (Cq (Cs (Ka rfl (Nt (Cb ?_)))))))))))))))))
 refine Lp (σ := Nat) [(0, _), (1, _), (2, _), (3, _), (9, _)] (fun gq => [(10, .string (S (blks sd at_ a gq))), (11, .int .i64 (gq : Int))]) (fun gq => gq ≤ (Z + 31) / 32) (fun gq => Z - 32 * gq) (0) (S5 rfl rfl rfl rfl rfl) (S2 rfl rfl) (by (try dsimp only); exact Nat.zero_le _) ?_
 rintro k hinv1; (try dsimp only at hinv1 ⊢)
 refine Cq (Cs (Km rfl (Kq rfl (rd_slen rfl rfl u9) (Km rfl (Kq rfl (rd_lss rfl rfl rfl) (Nt ?_))))))
 refine Cd rfl (fun hc20 => ?_) (fun hc20 => ?_)
 ·(try simp only [sB] at hc20)
  have hbl := blks_len sd at_ a k
  have hd3 := dec_len20 18 k (by omega)
  have hml := mac_len sd (nameB at_ a k)
  refine Ck (Xa (Cq (Cb (Cg (Km rfl (Km rfl (Km rfl ?_)))))))
  refine Ku rfl (Oc rfl rfl (Kv fun w hS => dec_c (n := at_) (by omega))) ?_
  refine Kq rfl (rd_cat rfl rfl rfl ?_) ?_
  ·((try simp only [List.length_append, List.length_cons, List.length_nil]); omega)
  refine Km rfl ?_
  refine Ku rfl (Oc rfl rfl (Kv fun w hS => dec_c (n := a) (by omega))) ?_
  refine Kq rfl (rd_cat rfl rfl rfl ?_) ?_
  ·((try simp only [List.length_append, List.length_cons, List.length_nil]); omega)
  refine Kq rfl (rd_cat rfl rfl rfl ?_) ?_
  ·((try simp only [List.length_append, List.length_cons, List.length_nil]); omega)
  refine Km rfl ?_
  refine Ku rfl (Oc rfl rfl (Kv fun w hS => dec_c (n := k) (by omega))) ?_
  refine Kq rfl (rd_cat rfl rfl rfl ?_) ?_
  ·((try simp only [List.length_append, List.length_cons, List.length_nil]); omega)
  refine Ku rfl (Oc rfl rfl (Kv fun w hS => rmac_c (key := sd) (s := nameB at_ a k) (by omega) (by simp only [nameB, List.length_append, List.length_cons, List.length_nil]; omega))) ?_
  refine Kq rfl (rd_cat rfl rfl rfl ?_) ?_
  ·((try simp only [List.length_append, List.length_cons, List.length_nil]); omega)
  refine Ka rfl (Nn (Xd (Xa (Cg (Km rfl (Kq rfl (Rz rfl rfl rfl (by omega)) (Ka rfl (Nn ?_))))))))
  have hbl' := blks_len sd at_ a k
  refine Ly (k + 1) (by (try dsimp only); omega) (S5 rfl rfl rfl rfl rfl) (by refine (Sc ?_ (Sc ?_ (S0 _))) <;> (rfl)) ?_ (by (exact fun _ h => h))
  (try dsimp only)
  omega
 ·(try simp only [sB] at hc20)
  refine Cx (Xc (Xc (Xe ?_)))
  have hkK : k = (Z + 31) / 32 := by have hbl := blks_len sd at_ a k; omega
  have hbl := blks_len sd at_ a k
  have hby : bytesB sd at_ a nb = (blks sd at_ a k).take Z := by rw [bytesB, ← hZ, hkK]
  obtain ⟨X, hX⟩ : ∃ X, X = blks sd at_ a k := ⟨_, rfl⟩
  rw [← hX] at hby hbl ⊢
  refine Xa (Cs (Km rfl ?_))
  refine Kq rfl (rd_sidxD rfl rfl rfl u9 ?_) ?_
  ·omega
  refine Kq rfl (rd_convN rfl rfl u5 u3 ?_) ?_
  ·(exact wrap8_64 _)
  have hc0 := (X.getD 0 default).toNat_lt
  refine Ns 39 rfl (v' := .int .i64 (((X.getD 0 default).toNat % 2 ^ (8 - 0) : Nat) : Int)) (congrArg (Value.int .i64) (by rw [Nat.mod_eq_of_lt (by omega)]; rfl)) ?_
  refine Ka rfl (Nt (Cq (Cs (Ka rfl (Ns 13 rfl (v' := .int .i64 (7 - ((0 : Nat) : Int))) (congrArg (Value.int .i64) (by omega)) (Nt (Cb ?_)))))))
  refine Lp (σ := Nat) [(3, _), (9, _), (10, _)] (fun gq => [(12, .int .i64 (((X.getD 0 default).toNat % 2 ^ (8 - gq) : Nat) : Int)), (13, .int .i64 (7 - (gq : Int)))]) (fun gq => gq ≤ 8 * Z - nb) (fun gq => 8 - gq) (0) (S3 rfl rfl rfl) (S2 rfl rfl) (by (try dsimp only); exact Nat.zero_le _) ?_
  rintro j hinv2; (try dsimp only at hinv2 ⊢)
  refine Cq (Cs (Km rfl (Km rfl (Kq rfl (rd_mul64ln rfl rfl rfl (by omega)) (Km rfl (Kq rfl (rd_sub64n rfl rfl rfl (by omega)) (Kq rfl (rd_sub64ln rfl rfl rfl (by omega)) (Kq rfl (rd_geq rfl rfl rfl) (Nt ?_)))))))))
  refine Cd rfl (fun hc46 => ?_) (fun hc46 => ?_)
  ·(try simp only [sB] at hc46)
   have hj7 : j ≤ 6 := by omega
   have hms := mod_step (X.getD 0 default).toNat (2 ^ (7 - j)) (Nat.pow_pos (by decide))
   rw [show 2 * 2 ^ (7 - j) = 2 ^ (8 - j) by rw [Nat.mul_comm, ← Nat.pow_succ]; congr 1; omega, show 2 ^ (7 - j) = 2 ^ (8 - (j + 1)) by congr 1; omega] at hms
   have hpw : 2 ^ (8 - (j + 1)) ≤ 2 ^ 8 := Nat.pow_le_pow_right (by decide) (by omega)
   have hcm : (X.getD 0 default).toNat % 2 ^ (8 - j) < 256 := Nat.lt_of_le_of_lt (Nat.mod_le _ _) hc0
   refine Ck (Xa (Cq (Cb (Cs (Km rfl (Km rfl (Ns 50 rfl (v' := .int .i64 (((7 - j : Nat) : Int))) (congrArg (Value.int .i64) (by omega)) ?_)))))))
   refine Kq rfl (rd_convN rfl rfl u3 u215 ?_) ?_
   ·(rw [IntKind.wrap_u64]; omega)
   refine Kq rfl (rd_shl rfl rfl rfl ?_) ?_
   ·omega
   refine Ns 52 rfl (v' := .int .i64 ((2 ^ (8 - (j + 1)) : Nat) : Int)) (congrArg (Value.int .i64) (by rw [shl1 _ (by omega)]; (try (congr 2; try omega)))) ?_
   refine Kq rfl (rd_geq rfl rfl rfl) (Nt ?_)
   refine Cd rfl (fun hc53 => ?_) (fun hc53 => ?_)
   ·(try simp only [sB] at hc53)
    refine Cg (Km rfl (Km rfl (Ns 55 rfl (v' := .int .i64 (((7 - j : Nat) : Int))) (congrArg (Value.int .i64) (by omega)) ?_)))
    refine Kq rfl (rd_convN rfl rfl u3 u215 ?_) ?_
    ·(rw [IntKind.wrap_u64]; omega)
    refine Kq rfl (rd_shl rfl rfl rfl ?_) ?_
    ·omega
    refine Ns 57 rfl (v' := .int .i64 ((2 ^ (8 - (j + 1)) : Nat) : Int)) (congrArg (Value.int .i64) (by rw [shl1 _ (by omega)]; (try (congr 2; try omega)))) ?_
    refine Kq rfl (rd_sub64n rfl rfl rfl (by omega)) ?_
    refine Ns 58 rfl (v' := .int .i64 (((X.getD 0 default).toNat % 2 ^ (8 - (j + 1)) : Nat) : Int)) (congrArg (Value.int .i64) (by rw [hms, if_pos (by omega)]; try omega)) ?_
    refine Ka rfl (Nn (Xd (Xa (Cg (Km rfl (Kq rfl (rd_sub64 rfl rfl rfl (by omega)) (Ns 48 rfl (v' := .int .i64 (7 - ((j + 1 : Nat) : Int))) (congrArg (Value.int .i64) (by omega)) (Ka rfl (Nn ?_)))))))))
    refine Ly (j + 1) (by (try dsimp only); omega) (S3 rfl rfl rfl) (by refine (Sc ?_ (Sc ?_ (S0 _))) <;> (rfl)) ?_ (by (exact fun _ h => h))
    (try dsimp only)
    omega
   ·(try simp only [sB] at hc53)
    refine WC.set 12 rfl (v' := .int .i64 (((X.getD 0 default).toNat % 2 ^ (8 - (j + 1)) : Nat) : Int)) (congrArg (Value.int .i64) (by rw [hms, if_neg (by omega)])) ?_
    refine Ck (Xd (Xa (Cg (Km rfl (Kq rfl (rd_sub64 rfl rfl rfl (by omega)) (Ns 48 rfl (v' := .int .i64 (7 - ((j + 1 : Nat) : Int))) (congrArg (Value.int .i64) (by omega)) (Ka rfl (Nn ?_))))))))
    refine Ly (j + 1) (by (try dsimp only); omega) (S3 rfl rfl rfl) (by refine (Sc ?_ (Sc ?_ (S0 _))) <;> (rfl)) ?_ (by (exact fun _ h => h))
    (try dsimp only)
    omega
  ·(try simp only [sB] at hc46)
   refine Cx (Xc (Xc (Xe ?_)))
   have hjd : j = 8 * Z - nb := by omega
   have hcm : (X.getD 0 default).toNat % 2 ^ (8 - j) < 256 := Nat.lt_of_le_of_lt (Nat.mod_le _ _) hc0
   obtain ⟨x, hx⟩ : ∃ x, x = (X.getD 0 default).toNat % 2 ^ (8 - j) := ⟨_, rfl⟩
   rw [← hx] at hcm ⊢
   have hae := att_end (sd := sd) (at_ := at_) (a := a) (nb := nb) (X := X) (x := x) hZ hZ0 hby (by omega) (by rw [hx, hjd]) (by omega) (by omega)
   refine Xa (Cq ?_)
   refine Cf [0, 1, 2, 3, 4, 5, 6, 7, 8, 9] [] [0, 0, 5, 4, 0, 0, 0, 0, 1, 0] (by kernel_rfl) (by kernel_rfl) rfl ?_
   refine Kj rfl (Rm rfl rfl) ?_
   refine Kj rfl (rd_convN rfl rfl u3 u5 ?_) ?_
   ·(rw [IntKind.wrap_u8]; omega)
   refine WJ.set 60 rfl (v' := B (UInt8.ofNat x)) (by exact congrArg (Value.int .u8) (by rw [UInt8.toNat_ofNat']; omega)) ?_
   refine WJ.fz rfl rfl rfl rfl rfl (fr_bs1 rfl rfl u128 (by kernel_rfl : _ = some (some (.int .u8 0), 1, 1)) rfl (by simp only [List.map]; rfl) rfl rfl ?_ (by decide)) ?_
   ·simp [Value.cells, B]
   intro b61
   refine WJ.zr rfl rfl rfl rfl rfl List.mem_cons_self (src_conv rfl rfl) (b2s (l := [UInt8.ofNat x]) rfl rfl .tc u128 u5 u9 (by rfl) (by rfl)) ?_
   refine Kj rfl (Rm rfl rfl) (Kj rfl (Rm rfl rfl) ?_)
   refine Kj rfl (rd_ss rfl rfl rfl rfl u9 ?_) ?_
   ·(try simp only [List.length_append, List.length_cons, List.length_nil]); omega
   refine WJ.set 65 rfl (v' := .string (S ((X.take Z).drop 1))) (congrArg (fun l => Value.string (S l)) (by rw [List.drop_take]; rfl)) ?_
   refine Kj rfl (rd_cat rfl rfl rfl ?_) ?_
   ·simp only [List.length_append, List.length_cons, List.length_nil, List.length_drop, List.length_take]; omega
   refine Jv rfl rfl rfl rfl rfl (fun ext => Oc rfl rfl (Kv fun w hS => canonical_c)) ?_
   refine Kj rfl (Ra rfl rfl) ?_
   refine WJ.nilz ?_
   refine Nt (Ce ?_)
   exact R1 rfl rfl (by rw [hae]; rfl)
abbrev Tab (w : World) : Prop := Lib.TabIs Tryz.prog w "internal/strconv.uint64pow10" .u64 Lib.pow10Tab
theorem tab_below {w w' : World} (h : Tab w) (hb : Below w.heap.size w w') : Tab w' := by
 have h' : w.var? Tryz.prog "internal/strconv.uint64pow10" = some (Lib.pow10Tab.map fun z => Value.int .u64 z).toArray := h
 show w'.var? Tryz.prog "internal/strconv.uint64pow10" = _
 unfold World.var? at h' ⊢
 cases hg : Tryz.prog.globalNamed "internal/strconv.uint64pow10" with
 | none => rw [hg] at h'; cases h'
 | some g =>
  rw [hg] at h'
  simp only [Option.bind_some] at h' ⊢
  have hlt : g < w.heap.size := by
   rcases Nat.lt_or_ge g w.heap.size with q | q
   ·exact q
   ·rw [Array.getElem?_eq_none q] at h'; cases h'
  rw [hb.block g hlt]; exact h'
theorem tab_st {ok : Nat → Prop} {w0 w : World} {own : List Ent} {fs : List Fact} (h : Tab w0) (hS : St ok w0 own fs w) : Tab w := tab_below h hS.below
theorem grow_below (w : World) (k : Nat) (os : Array Obj) : Below w.heap.size w (Sort.grow (w.drewN k) os) := by
 have hh : (Sort.grow (w.drewN k) os).heap = w.heap ++ os := rfl
 refine ⟨rfl, rfl, rfl, by rw [hh]; simp, fun q hq => ?_⟩
 rw [hh, Array.getElem?_append_left hq]
theorem itoa_c {n : Nat} {w : World} (hn : n ≤ 9223372036854775807) (hT : Tab w) :
  Cw 231 #[.int .i64 (n : Int)] w (.string (S (Lib.decDigits n))) :=
 (itoa_any n (by omega) (by omega) w hT).mono fun _ _ ⟨h1, k, os, h2⟩ => ⟨by rw [h1, Lib.itoa, if_neg (by omega), Int.toNat_natCast]; rfl, by rw [h2]; exact grow_below w k os⟩
def itB {σ : Type} (sd : Bs) (at_ a : Nat) (after : σ → Bs → σ) (stop : σ → Bs → Option Code) : Nat → Nat → σ → σ × Option Code
 | 0, _, s => (s, none)
 | f + 1, b, s => if (stop s (blkB sd at_ a b)).isSome then (after s (blkB sd at_ a b), stop s (blkB sd at_ a b)) else itB sd at_ a after stop f (b + 1) (after s (blkB sd at_ a b))
section
variable {σ : Type} {sd : Bs} {at_ a : Nat} {after : σ → Bs → σ} {stop : σ → Bs → Option Code} {K b : Nat} {s : σ}
theorem itB_stop (h : b < K) (hs : (stop s (blkB sd at_ a b)).isSome = true) : itB sd at_ a after stop (K - b) b s = (after s (blkB sd at_ a b), stop s (blkB sd at_ a b)) := by
 rw [show K - b = (K - b - 1) + 1 by omega, itB, if_pos hs]
theorem itB_next (h : b < K) (hs : stop s (blkB sd at_ a b) = none) : itB sd at_ a after stop (K - b) b s = itB sd at_ a after stop (K - (b + 1)) (b + 1) (after s (blkB sd at_ a b)) := by
 rw [show K - b = (K - (b + 1)) + 1 by omega, itB, if_neg (by simp [hs])]
theorem itB_lt (h : b ≤ K) {s0 : σ} (hi : itB sd at_ a after stop (K - b) b s = itB sd at_ a after stop K 0 s0) (hs : (itB sd at_ a after stop K 0 s0).2.isSome = true) : b < K := by
 rcases Nat.lt_or_ge b K with q | q
 ·exact q
 ·rw [← hi, show K - b = 0 by omega, itB] at hs; cases hs
end
theorem blocks_c {t : Tp} {x : Value} {a : Int} {own0 : List Ent} {ok : Nat → Prop} {w0 : World} {fs : List Fact} {w : World} (hS0 : St ok w0 (own0) (fs) w) :
  Calls Tryz.prog 196 #[.agg #[x, .string (S t.seed), .int .i64 t.at_], .int .i64 a] w fun e w' => ∃ g : Nat × Nat, e = .returned (.func (.func 230) #[] #[.pointer (some ⟨g.1, 0, none⟩), .pointer (some ⟨g.2, 0, none⟩)]) ∧ St ok w0 (⟨some g.2, [.int .i64 a], 3⟩ :: ⟨some g.1, [x, .string (S t.seed), .int .i64 t.at_], 33⟩ :: own0) fs w' := by
 refine enter (S := St ok w0 (own0) (fs)) (L := [(0, .agg #[x, .string (S t.seed), .int .i64 t.at_]), (1, .int .i64 a)]) Tryz.func196 rfl Tryz.ntmps196 rfl (Ac rfl (Ac rfl (An _))) hS0 ?_
 refine Cs ?_
 refine Kh rfl (Oy rfl rfl) ?_
 intro b2
 refine Kh rfl (Oy rfl rfl) ?_
 intro b3
 refine Ka rfl (Nt (Cs (Kq rfl (rd_mkf rfl rfl rfl) (Ka rfl (Nt (Ce ?_))))))
 exact Rn rfl (.tmp rfl .nil) fun w' hS => ⟨(b2, b3), rfl, hS⟩
theorem blk_i {σ γ : Type} {CO : σ → γ → List Ent} {pg : σ → γ → Prop} {inv : σ → Bs → Prop} {after : σ → Bs → σ} {stop : σ → Bs → Option Code} {l : Nat} {r : Loop} {ok : Nat → Prop} {w0 : World} {fs : List Fact} {w : World} {sd : Bs} {x : Value} {at_ a : Nat} {b1 b2 : Nat} {s0 : σ} {K : Nat} [∀ s g, HasE (CO s g) b1 [x, .string (S sd), .int .i64 (at_ : Int)] 33] [∀ s g, HasE (CO s g) b2 [.int .i64 (a : Int)] 3] {g0 : γ} (hY : YOk Tryz.prog l r ok w0 fs CO pg inv after stop (fun s : Bs => #[Value.string (S s)])) (hS0 : St ok w0 (CO s0 g0) (Fact.lp l (rcd r none) :: fs) w) (hg0 : pg s0 g0) (hsd : sd.length ≤ 400000) (hat : at_ ≤ 4294967296) (ha : a ≤ 1000) (hK : K ≤ 100000) (hinv : ∀ s x, x.length = 32 → inv s x) (hstop : (itB sd at_ a after stop K 0 s0).2.isSome = true) (hT : Tab w0) :
  Calls Tryz.prog 230 #[.func (.yield l) #[] #[], .pointer (some ⟨b1, 0, none⟩), .pointer (some ⟨b2, 0, none⟩)] w fun e w' => (∃ v, e = .returned v) ∧ ∃ g', ((itB sd at_ a after stop K 0 s0).2 = none → pg ((itB sd at_ a after stop K 0 s0).1) g') ∧ St ok w0 (CO ((itB sd at_ a after stop K 0 s0).1) g') (Fact.lp l (rcd r ((itB sd at_ a after stop K 0 s0).2)) :: fs) w' := by
 have hd1 := dec_len20 18 at_ (by omega); have hd2 := dec_len20 18 a (by omega)
 refine enter (S := St ok w0 (CO s0 g0) (Fact.lp l (rcd r none) :: fs)) (L := [(0, .func (.yield l) #[] #[]), (1, .pointer (some ⟨b1, 0, none⟩)), (2, .pointer (some ⟨b2, 0, none⟩))]) Tryz.func230 rfl Tryz.ntmps230 rfl (Ac rfl (Ac rfl (Ac rfl (An _)))) hS0 ?_
 refine Cs (Ka rfl (Nt (Cb ?_)))
 refine Lo (σ := Nat × σ × γ) [(0, _), (1, _), (2, _)] (fun gq => [(4, .int .i64 (gq.1 : Int))]) (fun gq => gq.1 ≤ K ∧ pg gq.2.1 gq.2.2 ∧ itB sd at_ a after stop (K - gq.1) gq.1 gq.2.1 = itB sd at_ a after stop K 0 s0) (fun gq => K - gq.1) (fun gq => CO gq.2.1 gq.2.2) (fun gq => Fact.lp l (rcd r none) :: fs) (0, s0, g0) (S3 rfl rfl rfl) (S1 rfl) (by (try dsimp only); exact ⟨Nat.zero_le _, hg0, rfl⟩) (by (exact fun _ h => h)) ?_
 rintro ⟨b, s, g⟩ hinv1; (try dsimp only at hinv1 ⊢)
 obtain ⟨hp, hgs, hi⟩ := hinv1
 have hlt := itB_lt hp hi hstop
 have hd3 := dec_len20 18 b (by omega)
 refine Cq (Cb (Cq ?_))
 refine Cf [0, 1, 2, 4, 5, 8, 9, 3, 6, 7, 10, 11] [] [0, 0, 1, 0, 0, 1, 0, 0, 0, 1, 0, 0] (by kernel_rfl) (by kernel_rfl) rfl ?_
 (refine Kj rfl (rd_fa rfl rfl u33 rfl (by kernel_rfl) (by (try simp only [sN, Int.reduceToNat, Nat.reduceAdd, Nat.reduceMul, Nat.reduceSub]); rfl)) ?_)
 refine Kj rfl (Ld rfl rfl .tc u3) ?_
 refine Jv rfl rfl rfl rfl rfl (fun ext => Oc rfl rfl (Kv fun w hS => itoa_c (by omega) (by (exact tab_st hT hS)))) ?_
 refine Kj rfl (Ld rfl rfl .tc u3) ?_
 refine Jv rfl rfl rfl rfl rfl (fun ext => Oc rfl rfl (Kv fun w hS => itoa_c (by omega) (by (exact tab_st hT hS)))) ?_
 refine Kj rfl (Rm rfl rfl) ?_
 refine Jv rfl rfl rfl rfl rfl (fun ext => Oc rfl rfl (Kv fun w hS => itoa_c (by omega) (by (exact tab_st hT hS)))) ?_
 refine Kj rfl (rd_cat rfl rfl rfl ?_) ?_
 ·((try simp only [List.length_append, List.length_cons, List.length_nil]); omega)
 refine Kj rfl (rd_cat rfl rfl rfl ?_) ?_
 ·((try simp only [List.length_append, List.length_cons, List.length_nil]); omega)
 refine Kj rfl (rd_cat rfl rfl rfl ?_) ?_
 ·((try simp only [List.length_append, List.length_cons, List.length_nil]); omega)
 refine Kj rfl (rd_cat rfl rfl rfl ?_) ?_
 ·((try simp only [List.length_append, List.length_cons, List.length_nil]); omega)
 refine Kj rfl (Ra rfl rfl) ?_
 refine WJ.nil ?_
 refine Nt (Cs (Km rfl ?_))
 (refine Kq rfl (rd_fa rfl rfl u33 rfl (by kernel_rfl) (by (try simp only [sN, Int.reduceToNat, Nat.reduceAdd, Nat.reduceMul, Nat.reduceSub]); rfl)) ?_)
 refine Kq rfl (Ld rfl rfl .tc u9) ?_
 refine Km rfl ?_
 refine Ku rfl (Oc rfl rfl (Kv fun w hS => mac_c (key := sd) (s := nameB at_ a b) (by omega) (by simp only [nameB, List.length_append, List.length_cons, List.length_nil]; omega))) ?_
 refine Kh rfl (og_yield hY [] (blkB sd at_ a b) rfl rfl rfl rfl (hinv _ _ (mac_len _ _)) (hgs)) ?_
 intro gy; refine WL.pu ?_; intro hgy; (refine WL.app0 ?_)
 refine Kq rfl (Rt rfl rfl) (Nt ?_)
 refine Cd rfl (fun hc25 => ?_) (fun hc25 => ?_)
 ·(try simp only [sB] at hc25)
  refine Ce (Xf (Xb (Xb (Xf ?_))))
  exact Rn rfl .nil fun w' hS => ⟨⟨_, rfl⟩, gy, by rw [← hi, itB_stop hlt (by simpa using hc25)]; exact hgy, by rw [← hi, itB_stop hlt (by simpa using hc25)]; dsimp only; exact st_sub _ hS⟩
 ·(try simp only [sB] at hc25)
  have hst : stop s (blkB sd at_ a b) = none := by simpa using hc25
  rw [hst]
  refine Ck (Xd (Xa (Cg (Km rfl (Kq rfl (Rz rfl rfl rfl (by omega)) (Ka rfl (Nn ?_)))))))
  refine Lx ((b + 1, after s (blkB sd at_ a b), gy)) (by (try dsimp only); omega) (S3 rfl rfl rfl) (by refine (Sc ?_ (S0 _)) <;> (rfl)) ?_ (by (exact fun _ h => h))
  (try dsimp only)
  exact ⟨by omega, hgy hst, (itB_next hlt hst).symm.trans hi⟩
theorem strCells_S (l : List UInt8) : Lib.strCells (S l) = l.map B := by simp [Lib.strCells, S, B]
section
variable {ds : List Deferred} {P : Program} {o : Oper} {n : Nat} {L : Slots} {ok : Nat → Prop} {w0 : World} {own : List Ent} {C : Ent → List Ent} {fs : List Fact} {x y : Operand} {t u e : TypeId} {xs : List Value}
theorem run_apps {w : World} {own : List Ent} {kk : Nat} {ob : Option Nat} {len cap : Nat} {sp : List Value} {l : List UInt8} {ty : TypeId} (hS : St ok w0 own fs w) (hk : own[kk]? = some ⟨ob, xs ++ sp, e⟩)
  (hu : P.underlying t = some (.slice e)) (hv : P.underlying u = some .string) (hi : (P.info? e).map (fun i => (i.zero, i.size, i.bytes)) = some (some (.int .u8 0), 1, 1))
  (hxl : xs.length = len) (hcap : cap = len + sp.length) (hb : len + l.length ≤ 140737488355328) (hzz : ob = none ∨ 0 < cap) :
  ∃ (g : Gr) (w' : World), (Builtin.append_ #[t, u] ty #[.slice (ob.map fun b => ⟨b, 0, none⟩) len cap, .string (S l)]).run P w = .ok (.slice (g.ob.map fun b => ⟨b, 0, none⟩) (len + l.length) g.cap) w' ∧ (g.cap = len + l.length + g.sp.length ∧ (g.ob = none ∨ 0 < g.cap)) ∧ St ok w0 (own.set kk ⟨g.ob, (xs ++ l.map B) ++ g.sp, e⟩) fs w' := by
 obtain ⟨i', hi', hz, hs, hbb⟩ := info_parts hi
 have hsz : (S l).size = l.length := S_size l
 have htake : (xs ++ sp).take len = xs := by rw [← hxl]; simp
 have zlen : ∀ q, (Builtin.zeroCells (Value.int .u8 0).cells q).toList = List.replicate q (.int .u8 0) := fun q => zero_one _ q
 have hsame : own.set kk ⟨ob, xs ++ sp, e⟩ = own := by
  apply List.ext_getElem?; intro q
  by_cases hq : kk = q
  ·subst hq; rw [List.getElem?_set_self (List.getElem?_eq_some_iff.1 hk).1, hk]
  ·rw [List.getElem?_set_ne hq]
 cases ob with
 | none =>
  have hcs : xs ++ sp = [] := hS.own_ _ (List.mem_of_getElem? hk)
  obtain ⟨rfl, rfl⟩ : xs = [] ∧ sp = [] := by simpa using hcs
  obtain rfl : len = 0 := by simpa using hxl.symm
  obtain rfl : cap = 0 := by simpa using hcap
  by_cases h0 : l.length = 0
  ·have hl : l = [] := List.eq_nil_of_length_eq_zero h0
   subst hl
   refine ⟨⟨none, 0, []⟩, w, ?_, ⟨rfl, .inl rfl⟩, by show St ok w0 (own.set kk ⟨none, [] ++ [], e⟩) fs w; rw [hsame]; exact hS⟩
   simp [Builtin.append_, run_underlying hu, run_underlying hv, sizeOf, typeInfo, hi', hs, Builtin.lenOf, S, Builtin.firstCells, ByteArray.size]
  ·have hrun := run_append_nil_string (P := P) w t u ty e i' (.int .u8 0) hu hv hi' hz (S l) (by omega) (by omega) (by rw [hbb, hsz]; omega)
   rw [hsz] at hrun
   refine ⟨⟨some w.heap.size, grownCap w l.length 0 e, List.replicate (grownCap w l.length 0 e - l.length) (.int .u8 0)⟩, _, by simpa using hrun, ?_, ?_⟩
   ·have := grownCap_ge w l.length 0 e; exact ⟨by simp; omega, .inr (by show 0 < grownCap w l.length 0 e; omega)⟩
   ·have := (hS.draw.alloc (l.map B ++ List.replicate (grownCap w l.length 0 e - l.length) (.int .u8 0)) e).replace kk
    have e1 : ((S l).data.map (fun b => Value.int .u8 b.toNat) ++ Builtin.zeroCells (Value.int .u8 0).cells (grownCap w l.length 0 e - l.length)) = (l.map B ++ List.replicate (grownCap w l.length 0 e - l.length) (Value.int .u8 0)).toArray := by
     apply Array.ext'; simp [zlen, S, B]
    simp only [List.nil_append]
    rw [e1]; exact this
 | some b' =>
  have hbk := hS.block hk
  by_cases hroom : len + l.length ≤ cap
  ·have hrun := Lib.run_append_room_string (P := P) w t u ty e i' hu hv hi' hs b' len cap (xs ++ sp).toArray hbk (S l) (by omega) (by simp [hsz]; omega)
   rw [hsz, strCells_S] at hrun
   refine ⟨⟨some b', cap, (xs ++ sp).drop (len + l.length)⟩, _, hrun, ?_, ?_⟩
   ·exact ⟨by simp; omega, .inr (hzz.resolve_left (by simp))⟩
   ·have := hS.setRow hk (xs ++ l.map B ++ (xs ++ sp).drop (len + l.length))
    simp only [htake]; exact this
  ·have hrun := Lib.run_append_grow_string (P := P) w t u ty e i' (.int .u8 0) hu hv hi' hz ⟨b', 0, none⟩ len cap xs (by rw [hs]; omega) (fun q v hq => by
     rw [Addr.add_lit, Nat.zero_add, block_cell hbk]
     rw [List.getElem?_append_left (List.getElem?_eq_some_iff.1 hq).1]; exact hq) (S l) (by omega) (by omega) (by rw [hbb, hsz]; exact growslice_fits (by omega) (by omega))
   rw [hsz, strCells_S] at hrun
   refine ⟨⟨some w.heap.size, grownCap w (len + l.length) cap e, List.replicate (grownCap w (len + l.length) cap e - (len + l.length)) (.int .u8 0)⟩, _, hrun, ?_, ?_⟩
   ·have := grownCap_ge w (len + l.length) cap e; exact ⟨by simp; omega, .inr (by show 0 < grownCap w (len + l.length) cap e; omega)⟩
   ·have := (hS.draw.alloc (xs ++ l.map B ++ List.replicate (grownCap w (len + l.length) cap e - (len + l.length)) (.int .u8 0)) e).replace kk
    have e1 : (xs.toArray ++ (l.map B).toArray ++ Builtin.zeroCells (Value.int .u8 0).cells (grownCap w (len + l.length) cap e - (len + l.length))) = (xs ++ l.map B ++ List.replicate (grownCap w (len + l.length) cap e - (len + l.length)) (Value.int .u8 0)).toArray := by
     apply Array.ext'; simp [zlen]
    rw [e1]; exact this
theorem apps {len cap : Nat} {ob : Option Nat} {sp : List Value} {l : List UInt8} (hop : o.op = .call { callee := .builtin .append, args := #[x, y], argTypes := #[t, u] }) (hu : P.underlying t = some (.slice e)) (hv : P.underlying u = some .string) (hi : (P.info? e).map (fun i => (i.zero, i.size, i.bytes)) = some (some (.int .u8 0), 1, 1))
  (hk : Ctx own ⟨ob, xs ++ sp, e⟩ C) (hx : oper L x = some (.slice (ob.map fun b => ⟨b, 0, none⟩) len cap)) (hy : oper L y = some (.string (S l)))
  (hb : xs.length = len ∧ cap = len + sp.length ∧ len + l.length ≤ 140737488355328 ∧ (ob = none ∨ 0 < cap)) :
  Og ds P o n L (St ok w0 own fs) (fun g : Gr => .slice (g.ob.map fun b => ⟨b, 0, none⟩) (len + l.length) g.cap) (fun g w => (g.cap = len + l.length + g.sp.length ∧ (g.ob = none ∨ 0 < g.cap)) ∧ St ok w0 (C ⟨g.ob, (xs ++ l.map B) ++ g.sp, e⟩) fs w) :=
 og_run fun a hF w hS => by
  obtain ⟨kk, hkk, hC⟩ := hk.get
  obtain ⟨g, w', hrun, hp, hS'⟩ := run_apps (P := P) (ty := o.type) hS hkk hu hv hi hb.1 hb.2.1 hb.2.2.1 hb.2.2.2
  refine ⟨g, w', .inl ?_, hp, by rw [hC]; exact hS'⟩
  simp [execOp, hop, resolve, invoke, builtin, hF.eval hx, hF.eval hy, hrun]
end
section
variable {ds : List Deferred} {ρ : Option Nat} {P : Program} {Q : Exit → Act → World → Prop} {n : Nat} {L : Slots} {Z : World → Prop} {p : Prop} {ops rest : List Oper}
theorem WL.know (h : ∀ w, Z w → p) (k : p → WL ds P ops Q n rest L Z) : WL ds P ops Q n rest L Z := fun a w hF hS => k (h w hS) a w hF hS
end
def afterA (s x : Bs) : Bs := s ++ x
def stopA (Z : Nat) (s x : Bs) : Option Code := if Z ≤ s.length + x.length then some (.exit 0) else none
theorem itB_att (sd : Bs) (at_ a Z : Nat) (hZ : 1 ≤ Z) : ∀ (d b : Nat), b + d = (Z + 31) / 32 → 1 ≤ d → itB sd at_ a afterA (stopA Z) d b (blks sd at_ a b) = (blks sd at_ a ((Z + 31) / 32), some (.exit 0))
 | 0, b, h, h1 => by omega
 | d + 1, b, h, h1 => by
  have hl := blks_len sd at_ a b
  have hm : (blkB sd at_ a b).length = 32 := mac_len _ _
  rw [itB]
  by_cases hd : d = 0
  ·subst hd
   have hs : stopA Z (blks sd at_ a b) (blkB sd at_ a b) = some (.exit 0) := by rw [stopA, if_pos (by omega)]
   rw [hs]; simp only [Option.isSome_some, if_true]; rw [← h]; rfl
  ·have hs : stopA Z (blks sd at_ a b) (blkB sd at_ a b) = none := by rw [stopA, if_neg (by omega)]
   rw [hs, if_neg (by simp)]
   exact itB_att sd at_ a Z hZ d (b + 1) (by omega) (by omega)
abbrev ACO (x : Value) (sd : Bs) (at_ a Z : Nat) (g : Nat × Nat) (b8 b7 b3 : Nat) (s : Bs) (q : Option Nat × List Value) : List Ent :=
 [⟨q.1, s.map B ++ q.2, 5⟩, ⟨some g.2, [.int .i64 (a : Int)], 3⟩, ⟨some g.1, [x, .string (S sd), .int .i64 (at_ : Int)], 33⟩, ⟨some b8, [.slice (q.1.map fun b => ⟨b, 0, none⟩) s.length (s.length + q.2.length)], 128⟩, ⟨some b7, [.int .i64 (Z : Int)], 3⟩, ⟨some b3, [x, .string (S sd), .int .i64 (at_ : Int)], 33⟩]
theorem mask8 (c : UInt8) (d : Nat) (hd : d ≤ 7) : bits .and .u8 (c.toNat : Int) (Int.fdiv 255 (2 ^ (min ((d : Nat) : Int).toNat IntKind.u8.bits))) = ((UInt8.ofNat (c.toNat % 2 ^ (8 - d))).toNat : Int) := by
 have h1 := c.toNat_lt
 have e : Int.fdiv 255 (2 ^ (min ((d : Nat) : Int).toNat IntKind.u8.bits)) = ((2 ^ (8 - d) - 1 : Nat) : Int) := by
  have key : ∀ q, q ≤ 7 → Int.fdiv 255 (2 ^ (min ((q : Nat) : Int).toNat IntKind.u8.bits)) = ((2 ^ (8 - q) - 1 : Nat) : Int) := by decide
  exact key d hd
 have h2 : 2 ^ (8 - d) ≤ 2 ^ 8 := Nat.pow_le_pow_right (by decide) (by omega)
 have h3 : c.toNat % 2 ^ (8 - d) < 256 := Nat.lt_of_le_of_lt (Nat.mod_le _ _) h1
 rw [e, u8_and_nat _ _ (by omega) (by omega), Nat.and_two_pow_sub_one_eq_mod, UInt8.toNat_ofNat', Nat.mod_eq_of_lt (a := c.toNat % 2 ^ (8 - d)) (b := 2 ^ 8) (by omega)]
theorem attempt_c {vx : Value} {sd : Bs} {at_ aa nb : Nat} {w : World} (hsd : sd.length ≤ 400000) (hat : at_ ≤ 4294967296) (ha : aa ≤ 1000) (hnb : 1 ≤ nb) (hnb2 : nb ≤ 100000) (hT : Tab w) :
  Cw 153 #[.agg #[vx, .string (S sd), .int .i64 (at_ : Int)], .int .i64 (aa : Int), .int .i64 (nb : Int)] w (.string (S (attS sd at_ aa nb))) := by
 obtain ⟨Z, hZ⟩ : ∃ Z : Nat, Z = sizeB nb := ⟨_, rfl⟩
 have hZ1 : Z = (nb + 7) / 8 := hZ
 have hZ0 : 1 ≤ Z := by omega
 have hZl : Z ≤ 20000 := by omega
 have hit := itB_att sd at_ aa Z hZ0 ((Z + 31) / 32) 0 (by omega) (by omega)
 change itB sd at_ aa afterA (stopA Z) ((Z + 31) / 32) 0 [] = _ at hit
 refine enterM (S := St (fun _ => True) w [] ([])) (L := [(0, .agg #[vx, .string (S sd), .int .i64 (at_ : Int)]), (1, .int .i64 (aa : Int)), (2, .int .i64 (nb : Int))]) Tryz.func153 rfl Tryz.ntmps153 rfl (Ac rfl (Ac rfl (Ac rfl (An _)))) (St.start (fun _ _ => trivial) Fn) ?_
 refine Cs ?_
 refine Kh rfl (Oy rfl rfl) ?_
 intro b3
 refine Ka rfl (Nt (Cs (Km rfl (Kq rfl (Rz rfl rfl rfl (by omega)) (Kq rfl (rd_quo64nl rfl rfl rfl (by omega)) (Ns 12 rfl (v' := .int .i64 ((Z : Nat) : Int)) (congrArg (Value.int .i64) (by omega)) ?_))))))
 refine Kh rfl (Oa rfl (v := (.int .i64 0)) (cs := [.int .i64 0]) (by kernel_rfl) rfl) ?_
 intro b7
 refine Ng rfl rfl (st rfl rfl rfl .tc (by kernel_rfl) rfl ?_ (by (simp only [List.set_cons_zero, List.set_cons_succ]; rfl))) ?_
 ·decide
 intro _
 refine Nt (Cs ?_)
 refine Kh rfl (Oa rfl (v := (.slice none 0 0)) (cs := [.slice none 0 0]) (by kernel_rfl) rfl) ?_
 intro b8
 refine Nt (Cq (Cs ?_))
 refine Kq rfl (lda rfl rfl .tc u33 rfl ?_) ?_
 ·kernel_rfl
 refine Km rfl ?_
 refine Kh rfl (Oc rfl rfl (fun w hS => blocks_c (t := ⟨[], sd, (at_ : Int)⟩) hS)) ?_
 intro g15
 refine Nt (Cb ?_)
 refine WC.range (CO := ACO vx sd at_ aa Z g15 b8 b7 b3) (pg := fun s q => s.length ≤ 30000 ∧ (q.1 = none ∨ 0 < s.length + q.2.length)) (inv := fun s y => y.length = 32) (after := afterA) (stop := stopA Z) (enc := fun s : Bs => #[Value.string (S s)]) ([]) ((none, [])) ((itB sd at_ aa afterA (stopA Z) ((Z + 31) / 32) 0 []).1) ((itB sd at_ aa afterA (stopA Z) ((Z + 31) / 32) 0 []).2) (⟨Nat.zero_le _, .inl rfl⟩) rfl (by kernel_rfl) (fun _ => rfl) (by exact fun w h => h.nil _) ?_ (fun l r D w hl hY hS => blk_i (K := (Z + 31) / 32) (sd := sd) (at_ := at_) (a := aa) (x := vx) hY hS ⟨Nat.zero_le _, .inl rfl⟩ hsd hat ha (by omega) (fun s y h => h) (by rw [hit]; rfl) hT) ?_ ?_
 ·intro l r D f a s g x ext wr hl hi hpg hF hS
  rw [fold1]
  refine round_of (Fr.tm (hF.put (d := 16) rfl _)) hS ?_
  refine WR.region (by kernel_rfl) ?_
  refine Ka rfl (Nn ?_)
  refine WX.begin hl ?_
  refine Cb ?_
  refine WR.sr (by kernel_rfl) ?_
  refine Kq rfl (Ld rfl rfl .tc u128) ?_
  refine Km rfl ?_
  refine Kh rfl (apps rfl u128 u9 (by kernel_rfl) .tc rfl rfl ?_) ?_
  ·exact ⟨by simp, rfl, by have hi' : x.length = 32 := hi; omega, hpg.2⟩
  rintro ⟨o19, c19, s19⟩
  refine WL.pu ?_
  intro hg19; (try dsimp only at hg19 ⊢)
  refine Ng rfl rfl (st rfl rfl rfl .tc (by kernel_rfl) rfl ?_ (by (simp only [List.set_cons_zero, List.set_cons_succ]; rfl))) ?_
  ·(simp; done)
  intro _
  refine Nt ?_
  refine WR.sr (by kernel_rfl) ?_
  refine Kq rfl (Ld rfl rfl .tc u128) ?_
  refine Kq rfl (rd_len rfl rfl u128) (Kq rfl (Ld rfl rfl .tc u3) ?_)
  refine Kq rfl (rd_geq rfl rfl rfl) (Nt ?_)
  refine Cd rfl (fun hc23 => ?_) (fun hc23 => ?_)
  ·(try simp only [sB] at hc23)
   refine Cx ?_
   refine WX.block_other rfl ?_
   exact WX.rexit hl fun w' hS => by
    have hi' : x.length = 32 := hi
    have h2 : stopA Z s x = some (.exit 0) := by rw [stopA, if_pos (by omega)]
    rw [h2]
    refine ⟨rfl, (o19, s19), fun h => (by cases h), ?_⟩
    simp only [ACO, afterA, List.map_append, List.length_append]
    rw [hg19.1] at hS
    exact hS
  ·(try simp only [sB] at hc23)
   refine Ck (Xd ?_)
   exact WX.rnext hl fun w' hS => by
    have hi' : x.length = 32 := hi
    have h2 : stopA Z s x = none := by rw [stopA, if_neg (by omega)]
    rw [h2]
    refine ⟨rfl, (o19, s19), fun _ => ⟨by simp only [afterA, List.length_append]; omega, by simp only [afterA, List.length_append]; rw [← hg19.1]; exact hg19.2⟩, ?_⟩
    simp only [ACO, afterA, List.map_append, List.length_append]
    rw [hg19.1] at hS
    exact hS
 ·intro D1 g1 hD1 hg1 hcf
  exfalso; rw [hit] at hcf; cases hcf -- done
 ·intro D1 g1 c hD1 hcf
  obtain rfl : c = .exit 0 := by (rw [hit] at hcf; cases hcf; rfl)
  refine Cx (Xe ?_)
  rw [hit]; dsimp only [ACO]
  have hbl := blks_len sd at_ aa ((Z + 31) / 32)
  have hby : bytesB sd at_ aa nb = (blks sd at_ aa ((Z + 31) / 32)).take Z := by rw [bytesB, ← hZ]
  generalize blks sd at_ aa ((Z + 31) / 32) = X at *
  obtain ⟨c, X', rfl⟩ : ∃ c X', X = c :: X' := by cases X with
   | nil => simp at hbl; omega
   | cons c X' => exact ⟨c, X', rfl⟩
  obtain ⟨q1, q2⟩ := g1
  dsimp only
  have hcl : X'.length + 1 = 32 * ((Z + 31) / 32) := hbl
  refine Xa (Cs ?_)
  refine WL.know (p := ∃ bb, q1 = some bb) (fun w h => by obtain ⟨b, hb, _⟩ := h.ocx (ob := q1) (cs := List.map B (c :: X') ++ q2) .tc (by simp); exact ⟨b, hb⟩) ?_
  rintro ⟨bb, rfl⟩
  dsimp only [Option.map_some]
  refine Kq rfl (Ld rfl rfl .tc u128) ?_
  refine Kq rfl (Ld rfl rfl .tc u3) ?_
  refine Kq rfl (rd_slt rfl rfl rfl u128 (by kernel_rfl : _ = some 1) ?_ (by (try simp only [sN, Int.reduceToNat, Nat.reduceAdd, Nat.reduceMul, Nat.reduceSub]); rfl)) ?_
  ·omega
  refine Ng rfl rfl (st rfl rfl rfl .tc (by kernel_rfl) rfl ?_ (by (simp only [List.set_cons_zero, List.set_cons_succ]; rfl))) ?_
  ·(simp; done)
  intro _
  refine Nt (Cq (Cs (Kq rfl (Ld rfl rfl .tc u3) ?_)))
  refine Kq rfl (rd_gtr rfl rfl rfl) (Nt ?_)
  refine Cd rfl (fun hc28 => ?_) (fun hc28 => by exfalso; (try simp only [sB] at hc28); omega)
  (try simp only [sB] at hc28)
  refine Cf [0, 1, 2, 3, 4, 5, 6, 7, 8, 9] [10] [0, 0, 0, 0, 0, 0, 0, 0, 0, 0, 2] (by kernel_rfl) (by kernel_rfl) rfl ?_
  refine Kj rfl (Ld rfl rfl .tc u128) ?_
  refine Kj rfl (Ja rfl rfl rfl u128 (by kernel_rfl : _ = some 1) (by omega)) ?_
  refine Kj rfl (Ld rfl rfl .tc u5) ?_
  refine Kj rfl (Ld rfl rfl .tc u3) ?_
  refine Kj rfl (rd_mul64ln rfl rfl rfl (by omega)) (Kj rfl (Rm rfl rfl) (Kj rfl (rd_sub64n rfl rfl rfl (by omega)) ?_))
  refine Kj rfl (rd_shr rfl rfl rfl ?_) ?_
  ·omega
  refine Kj rfl (rd_and rfl rfl rfl) ?_
  refine WJ.set 37 rfl (v' := B (UInt8.ofNat (c.toNat % 2 ^ (8 - (8 * Z - nb))))) (by exact congrArg (Value.int .u8) (mask8 c (8 * Z - nb) (by omega))) ?_
  refine Kj rfl (Ja rfl rfl rfl u128 (by kernel_rfl : _ = some 1) (by omega)) ?_
  refine WJ.nil ?_
  refine Ng rfl rfl (st rfl rfl rfl .tc (by kernel_rfl) rfl ?_ (by rfl)) ?_
  ·(simp; done)
  intro _
  refine Nn ?_
  obtain ⟨y, hy⟩ : ∃ y : Bs, y = (UInt8.ofNat (c.toNat % 2 ^ (8 - (8 * Z - nb))) :: X').take Z := ⟨_, rfl⟩
  have hyl : y.length = Z := by rw [hy, List.length_take, List.length_cons]; omega
  have hya : canon (val y) = attS sd at_ aa nb := by
   have := att_end (sd := sd) (at_ := at_) (a := aa) (nb := nb) (X := c :: X') (x := c.toNat % 2 ^ (8 - (8 * Z - nb))) hZ hZ0 hby (by simp only [List.length_cons]; omega) rfl (by omega) (by omega)
   rw [← this, hy]; obtain ⟨q, rfl⟩ : ∃ q, Z = q + 1 := ⟨Z - 1, by omega⟩; rfl
  refine Xa (Cq (Cb ?_))
  refine Lo (σ := Bs × (Option Addr) × Nat) [(8, _)] (fun gq => []) (fun gq => trimB gq.1 = trimB y ∧ gq.1.length ≤ gq.2.2 ∧ gq.1.length ≤ Z) (fun gq => gq.1.length) (fun gq => [⟨some b8, [.slice gq.2.1 gq.1.length gq.2.2], 128⟩]) (fun gq => [Fact.sl gq.2.1 (gq.1.map B), Fact.dfr D1]) (y, some ⟨bb, 0, none⟩, (c :: X').length + q2.length) (S1 rfl) (S0 _) (by (try dsimp only); exact ⟨rfl, by rw [hyl]; simp only [List.length_cons]; omega, by omega⟩) (by exact fun w h => by dsimp only; rw [hyl]; exact st_sub _ (h.freeze (off := 0) (xs := y.map B) (fun i hi => by
    have hi' : i < Z := by rw [List.length_map, hyl] at hi; exact hi
    show ((B (UInt8.ofNat (c.toNat % 2 ^ (8 - (8 * Z - nb)))) :: (X'.map B ++ q2)) : List Value)[0 + i]? = _
    rw [hy, List.map_take, List.getElem?_take, if_pos hi', Nat.zero_add]
    show (((UInt8.ofNat (c.toNat % 2 ^ (8 - (8 * Z - nb))) :: X').map B ++ q2) : List Value)[i]? = _
    rw [List.getElem?_append_left (by simp; omega)]))) ?_
  rintro ⟨t, a', cp⟩ hinv1; (try dsimp only at hinv1 ⊢)
  obtain ⟨ht, htc, htb⟩ := hinv1
  refine Cq (Cs (Kq rfl (Ld rfl rfl .tc u128) ?_))
  refine Kq rfl (rd_len rfl rfl u128) (Kq rfl (rd_gtr rfl rfl rfl) (Km rfl ?_))
  refine Nb 42 rfl (fun hg42 => ?_) (fun hg42 => ?_)
  ·(try simp only [sB] at hg42)
   refine Kq rfl (Ld rfl rfl .tc u128) ?_
   refine Kq rfl (Ib rfl rfl rfl u128 (by omega) (by (rw [List.length_map]; omega))) ?_
   refine Kq rfl (ldm rfl rfl u5 rfl (by omega)) ?_
   refine Kq rfl (rd_eql rfl rfl rfl) (Kq rfl (Rp rfl rfl rfl) (Nt ?_))
   refine Cd rfl (fun hc47 => ?_) (fun hc47 => ?_)
   ·(try simp only [sB] at hc47)
    have hz : (t.getD 0 default).toNat = 0 := by (simp at hc47; exact hc47)
    refine Ck (Xa (Cb (Cg (Kq rfl (Ld rfl rfl .tc u128) ?_))))
    refine Kq rfl (rd_slf rfl rfl rfl u128 (by kernel_rfl : _ = some 1) (by omega) (by (try simp only [sN, Int.reduceToNat, Nat.reduceAdd, Nat.reduceMul, Nat.reduceSub]); rfl) (by (try simp only [sN, Int.reduceToNat, Nat.reduceAdd, Nat.reduceMul, Nat.reduceSub]); rfl) (by (try simp only [sN, Int.reduceToNat, Nat.reduceAdd, Nat.reduceMul, Nat.reduceSub]); rfl)) ?_
    refine Ns 49 rfl (v' := .slice (cut a' 1 cp 1) (t.drop 1).length (cp - 1)) (by rw [List.length_drop]) ?_
    refine Ng rfl rfl (st rfl rfl rfl .tc (by kernel_rfl) rfl ?_ (by (simp only [List.set_cons_zero, List.set_cons_succ]; rfl))) ?_
    ·(simp; done)
    intro _
    refine Nn (Xd ?_)
    refine Lx ((t.drop 1, cut a' 1 cp 1, cp - 1)) (by simp only [List.length_drop]; omega) (S1 rfl) (S0 _) ?_ (by exact fun w h => (h.add (f := Fact.sl (cut a' 1 cp 1) ((t.drop 1).map B)) (sl_cutM 1 htc (h.fact (Fact.sl a' (t.map B)) (by simp)))).sub (List.Sublist.refl _) (fun f hf => by simp only [List.mem_cons, List.not_mem_nil, or_false] at hf ⊢; rcases hf with h | h <;> simp [h]))
    (try dsimp only)
    exact ⟨by rw [← trimB_zero (by omega) hz]; exact ht, by simp only [List.length_drop]; omega, by simp only [List.length_drop]; omega⟩
   ·(try simp only [sB] at hc47)
    refine Cx (Xc (Xc (Xe (Xa (Cs (Kq rfl (Ld rfl rfl .tc u128) ?_))))))
    refine Kq rfl (b2sf rfl rfl .tc u128 u5 u22 ?_) ?_
    ·rfl
    refine Ka rfl (Nt (Ce ?_))
    exact WX.retM1 hD1 rfl (.tmp rfl .nil) fun w' hS => ⟨by rw [← hya, show canon (val y) = t from by rw [← trim_canon, ← ht, trimB_stop (by (exact .inr (fun h0 => hc47 (by show ((t.getD 0 default).toNat : Int) = 0; omega))))]]; rfl, hS.below⟩
  ·(try simp only [sB] at hg42)
   refine Kt rfl (Kt rfl (Kt rfl (Kt rfl (Kq rfl (Rq rfl rfl rfl) (Nt ?_)))))
   refine Cd rfl (fun h => by cases h) (fun _ => ?_)
   refine Cx (Xc (Xc (Xe (Xa (Cs (Kq rfl (Ld rfl rfl .tc u128) ?_))))))
   refine Kq rfl (b2sf rfl rfl .tc u128 u5 u22 ?_) ?_
   ·rfl
   refine Ka rfl (Nt (Ce ?_))
   exact WX.retM1 hD1 rfl (.tmp rfl .nil) fun w' hS => ⟨by rw [← hya, show canon (val y) = t from by rw [← trim_canon, ← ht, trimB_stop (by (exact .inl (by omega)))]]; rfl, hS.below⟩
end Go.Proofs.YtmkghgoibnncbaaGreatDoor
