/-
  Parts of the walk: Hash1 Hash2 Hash3 Ref1 Ref2.
-/
import Derived.Test.YtkdlonihbjhhoaaGreatDoorR13
import Derived.Test.YtkdlonihbjhhoaaGreatDoorProg
import Derived.Laws.BitsAllLaws
namespace Go.Proofs.YtkdlonihbjhhoaaGreatDoor
open Go.RowKit
set_option linter.unusedSimpArgs false
set_option linter.unusedVariables false
set_option maxHeartbeats 600000
set_option maxRecDepth 20000
theorem yU (x : W) (n : Nat) (h0 : 0 < n) (h : n < 32) (w : World) : Cw 281 #[u32 x, .int .i64 (0 - (n : Int))] w (u32 (rr x n)) := by
 refine enter (S := St (fun _ => True) w [] []) (L := [(0, u32 x), (1, .int .i64 (0 - (n : Int)))]) Tryz.func281 rfl Tryz.ntmps281 rfl (Ac rfl (Ac rfl (An _))) (St.start (fun _ _ => trivial) (by simp)) ?_
 refine Cq (Cg (Ka I (Nn (Xa (Cq (Cg (Km I (Kq I (aK I I u3 wz) (Kq I (np I I I) (Ns 8 I (congrArg (Value.int .u64) (CV n h0 h)) (Ka I (Nn (Xa (Cq (Cg (Km I (Km I (Kq I (fM I I I (by omega)) ?_))))))))))))))))))
 refine Ns 11 I (v' := .int .u32 (IntKind.u32.wrap ((x.toNat : Int) * 2 ^ (32 - n)))) (by congr 3; simp [IntKind.bits]; try omega) ?_
 refine Km I (Km I (Kq I (kW I I I) (Ns 14 I (v' := .int .u64 (n : Int)) (congrArg (Value.int .u64) (by rw [IntKind.wrap_u64]; omega)) ?_)))
 refine Kq I (gm I I I (by omega)) ?_
 refine Ns 15 I (v' := .int .u32 ((x.toNat : Int).fdiv (2 ^ n))) (by congr 3; simp [IntKind.bits]; try omega) ?_
 refine Kq I (k5 I I I) (Ns 16 I (v' := u32 (rr x n)) (congrArg (Value.int .u32) (AR x n h0 h)) (Ka I (Nn (Xa (Ce ?_)))))
 exact WX.ret1 rfl rfl fun w' hS => ⟨rfl, hS.below⟩
theorem wC (x : W) (n : Nat) (h0 : 0 < n) (h : n < 32) (w : World) : Cw 276 #[u32 x, .int .i64 (n : Int)] w (u32 (rr x n)) := by
 refine enter (S := St (fun _ => True) w [] []) (L := [(0, u32 x), (1, .int .i64 (n : Int))]) Tryz.func276 rfl Tryz.ntmps276 rfl (Ac rfl (Ac rfl (An _))) (St.start (fun _ _ => trivial) (by simp)) ?_
 refine Cq (Cg (Ka I (Nn (Xa (Cq (Cg (Km I (Km I (Kq I (oD I I ?_) ?_)))))))))
 ·omega
 refine Ku I (Oc I I (Kv fun w _ => yU x n h0 h w)) (Ka I (Nn (Xa (Ce ?_))))
 exact WX.ret1 rfl rfl fun w' hS => ⟨rfl, hS.below⟩
theorem cW (x : W) (n : Nat) (h0 : 0 < n) (h : n < 32) (w : World) : Cw 276 #[u32 x, .int .i64 (@OfNat.ofNat Int n instOfNat)] w (u32 (rr x n)) := wC x n h0 h w
theorem l0 (j : Nat) (ws : List W) (hw : ws.length = 16) (hj : j < 48) : ((bL j ws).map u32 ++ List.replicate (48 - j) (u32 0)).set (16 + j) (u32 (mh (bL j ws))) = (bL (j + 1) ws).map u32 ++ List.replicate (48 - (j + 1)) (u32 0) := by
 have hl : ((bL j ws).map u32).length = 16 + j := by rw [Ag, cF, hw]
 rw [C0 _ _ (by omega), hl, Cc, show 48 - j = (48 - (j + 1)) + 1 by omega, Dl]
 simp [bL]
theorem vo (w : World) : Cw 263 #[] w (.agg (H0.map u32).toArray) := by
 refine enter (S := St (fun _ => True) w [] []) (L := []) Tryz.func263 rfl Tryz.ntmps263 rfl (An _) (St.start (fun _ _ => trivial) (by simp)) ?_
 refine Cq (Cg (Kh I (Oz [.int .u32 0, .int .u32 0, .int .u32 0, .int .u32 0, .int .u32 0, .int .u32 0, .int .u32 0, .int .u32 0] I) ?_))
 intro b0
 refine Nn (Xa (Cq (Cg (Kq I (k7 I I (v := .agg #[.int .u32 1779033703, .int .u32 3144134277, .int .u32 1013904242, .int .u32 2773480762, .int .u32 1359893119, .int .u32 2600822924, .int .u32 528734635, .int .u32 1541459225]) (fun w => by kernel_rfl)) ?_))))
 refine Nu I I (Sa I I I .tc) (Nn (Xa (Ce ?_)))
 exact WX.ret1c (cs := H0.map u32) rfl rfl .here eN rfl (by kernel_rfl) fun w' hS => ⟨rfl, hS.below⟩
theorem nQ (w : World) : Cw 274 #[] w (.agg (KK.map u32).toArray) := by
 refine enter (S := St (fun _ => True) w [] []) (L := []) Tryz.func274 rfl Tryz.ntmps274 rfl (An _) (St.start (fun _ _ => trivial) (by simp)) ?_
 refine Cq (Cg (Kh I (Oa I (v := (.agg (List.replicate 64 (.int .u32 0)).toArray)) (cs := (List.replicate 64 (.int .u32 0))) (by kernel_rfl) I) ?_))
 intro b0
 refine Nn (Xa (Cq (Cg (Kq I (k7 I I (v := .agg #[.int .u32 1116352408, .int .u32 1899447441, .int .u32 3049323471, .int .u32 3921009573, .int .u32 961987163, .int .u32 1508970993, .int .u32 2453635748, .int .u32 2870763221, .int .u32 3624381080, .int .u32 310598401, .int .u32 607225278, .int .u32 1426881987, .int .u32 1925078388, .int .u32 2162078206, .int .u32 2614888103, .int .u32 3248222580, .int .u32 3835390401, .int .u32 4022224774, .int .u32 264347078, .int .u32 604807628, .int .u32 770255983, .int .u32 1249150122, .int .u32 1555081692, .int .u32 1996064986, .int .u32 2554220882, .int .u32 2821834349, .int .u32 2952996808, .int .u32 3210313671, .int .u32 3336571891, .int .u32 3584528711, .int .u32 113926993, .int .u32 338241895, .int .u32 666307205, .int .u32 773529912, .int .u32 1294757372, .int .u32 1396182291, .int .u32 1695183700, .int .u32 1986661051, .int .u32 2177026350, .int .u32 2456956037, .int .u32 2730485921, .int .u32 2820302411, .int .u32 3259730800, .int .u32 3345764771, .int .u32 3516065817, .int .u32 3600352804, .int .u32 4094571909, .int .u32 275423344, .int .u32 430227734, .int .u32 506948616, .int .u32 659060556, .int .u32 883997877, .int .u32 958139571, .int .u32 1322822218, .int .u32 1537002063, .int .u32 1747873779, .int .u32 1955562222, .int .u32 2024104815, .int .u32 2227730452, .int .u32 2361852424, .int .u32 2428436474, .int .u32 2756734187, .int .u32 3204031479, .int .u32 3329325298]) (fun w => by kernel_rfl)) ?_))))
 refine Nu I I (Sa I I I .tc) (Nn (Xa (Ce ?_)))
 exact WX.ret1c (cs := KK.map u32) rfl rfl .here kJ rfl (by kernel_rfl) fun w' hS => ⟨rfl, hS.below⟩
theorem oh (bs : List UInt8) (hbs : bs.length = 64) (b off cap : Nat) (hcap : 64 ≤ cap) (w : World) (hf : (Fact.sl (some ⟨b, off, none⟩) (bs.map B)).holds (fun _ => True) w) :
  Cw 275 #[.slice (some ⟨b, off, none⟩) 64 cap] w (.agg ((bL 48 (a7 bs)).map u32).toArray) := by
 have hwl := fi 16 bs hbs
 refine enter (S := St (fun _ => True) w [] [Fact.sl (some ⟨b, off, none⟩) (bs.map B)]) (L := [(0, .slice (some ⟨b, off, none⟩) 64 cap)]) Tryz.func275 rfl Tryz.ntmps275 rfl (Ac rfl (An _)) (St.start (fun _ _ => trivial) (by simpa using hf)) ?_
 refine Cq (Cg ?_)
 refine Kh I (Oa I (v := (.agg (List.replicate 64 (.int .u32 0)).toArray)) (cs := (List.replicate 64 (.int .u32 0))) (by kernel_rfl) I) ?_
 intro b2
 refine Nn (Xa (Cq (Cg ?_)))
 refine Kh I (Oa I (v := (.agg (List.replicate 64 (.int .u32 0)).toArray)) (cs := (List.replicate 64 (.int .u32 0))) (by kernel_rfl) I) ?_
 intro b3
 refine Nn (Xa (Cq (Cq (Cg (Km I (Nn (Xa (Cb ?_))))))))
 refine WC.loop (σ := Nat) (fun k => [(0, .slice (some ⟨b, off, none⟩) 64 cap), (2, .pointer (some ⟨b2, 0, none⟩)), (3, .pointer (some ⟨b3, 0, none⟩)), (9, .int .i64 (k : Int))]) (fun k w' => k ≤ 16 ∧ St (fun _ => True) w [⟨some b3, ((a7 bs).take k).map u32 ++ List.replicate (64 - k) (u32 0), 284⟩, ⟨some b2, List.replicate 64 (u32 0), 284⟩] [Fact.sl (some ⟨b, off, none⟩) (bs.map B)] w') (fun k => 16 - k) 0 (by repeat (first | exact S0 _ | refine Sc rfl ?_)) (fun w' h => ⟨by omega, h⟩) ?_
 intro k; refine WC.pu ?_; intro hk
 refine Cq (Cg (Yl I (Nn (Xa (Cq ?_)))))
 refine Cd I (fun hc10 => ?_) (fun hc10 => ?_)
 ·(try simp only [sB] at hc10)
  obtain ⟨c0, hc0⟩ : ∃ c, bs[4 * k]? = some c := ⟨_, Ad (by omega)⟩
  obtain ⟨c1, hc1⟩ : ∃ c, bs[4 * k + 1]? = some c := ⟨_, Ad (by omega)⟩
  obtain ⟨c2, hc2⟩ : ∃ c, bs[4 * k + 2]? = some c := ⟨_, Ad (by omega)⟩
  obtain ⟨c3, hc3⟩ : ∃ c, bs[4 * k + 3]? = some c := ⟨_, Ad (by omega)⟩
  refine Ck (Xa (Cq (Cb (Cq (Cg (Km I (Ka I (Nn (Xa (Cq (Cg (Km I (Km I ?_)))))))))))))
  first
   | (refine Kq rfl (cw rfl rfl rfl ?_) ?_; focus (omega))
   | (refine Kq rfl (iM rfl rfl rfl ?_) ?_; focus (omega))
  refine Km I ?_
  first
   | (refine Kq rfl (cw rfl rfl rfl ?_) ?_; focus (omega))
   | (refine Kq rfl (iM rfl rfl rfl ?_) ?_; focus (omega))
  first
   | (refine Kq rfl (Rz rfl rfl rfl ?_) ?_; focus (omega))
   | (refine Kq rfl (aI rfl rfl rfl ?_) ?_; focus (omega))
  refine Kq I (xp I I I I aC (by kernel_rfl : _ = some 1) ?_ (by (try simp only [Ah, A1, Az, A6, Bw, Int.reduceToNat, Nat.reduceAdd, Nat.reduceMul, Nat.reduceSub, Bx]); rfl) (by (try simp only [Ah, A1, Az, A6, Bw, Int.reduceToNat, Nat.reduceAdd, Nat.reduceMul, Nat.reduceSub, Bx]); rfl) (by (try simp only [Ah, A1, Az, A6, Bw, Int.reduceToNat, Nat.reduceAdd, Nat.reduceMul, Nat.reduceSub, Bx]); rfl)) ?_
  ·omega
  refine Ka I (Nn (Xa ?_))
  refine WC.mix [0, 0, 0, 0, 0, 0, 0, 0, 0, 0, 0, 0, 0, 0, 0, 0, 0, 0, 0, 0, 0, 0, 0, 0, 2] (by kernel_rfl) (by kernel_rfl) (fun w h => h.draw) ?_
  refine WM.r I I I (Rm I I) ?_
  refine WM.r I I I (Rm I I) ?_
  refine WM.r I I I (Ja I I I aC (by kernel_rfl : _ = some 1) ?_) ?_
  ·omega
  refine WM.r I I I (ldf I I (by first | exact .here | exact .t1 | exact .t2 | exact .t3 | exact .t4 | exact .t5 | exact .t6 | exact .t7) u5 I (m := 4 * k) (by omega) (by rw [A8, hc0]; rfl)) ?_
  refine WM.r I I I (aK I I u5 bt) ?_
  refine WM.r I I I (fM I I I ?_) ?_
  ·first | decide | omega
  refine WM.r I I I (Rm I I) ?_
  refine WM.r I I I (Ja I I I aC (by kernel_rfl : _ = some 1) ?_) ?_
  ·omega
  refine WM.r I I I (ldf I I (by first | exact .here | exact .t1 | exact .t2 | exact .t3 | exact .t4 | exact .t5 | exact .t6 | exact .t7) u5 I (m := 4 * k + 1) (by omega) (by rw [A8, hc1]; rfl)) ?_
  refine WM.r I I I (aK I I u5 bt) ?_
  refine WM.r I I I (fM I I I ?_) ?_
  ·first | decide | omega
  refine WM.r I I I (k5 I I I) ?_
  refine WM.r I I I (Rm I I) ?_
  refine WM.r I I I (Ja I I I aC (by kernel_rfl : _ = some 1) ?_) ?_
  ·omega
  refine WM.r I I I (ldf I I (by first | exact .here | exact .t1 | exact .t2 | exact .t3 | exact .t4 | exact .t5 | exact .t6 | exact .t7) u5 I (m := 4 * k + 2) (by omega) (by rw [A8, hc2]; rfl)) ?_
  refine WM.r I I I (aK I I u5 bt) ?_
  refine WM.r I I I (fM I I I ?_) ?_
  ·first | decide | omega
  refine WM.r I I I (k5 I I I) ?_
  refine WM.r I I I (Rm I I) ?_
  refine WM.r I I I (Ja I I I aC (by kernel_rfl : _ = some 1) ?_) ?_
  ·omega
  refine WM.r I I I (ldf I I (by first | exact .here | exact .t1 | exact .t2 | exact .t3 | exact .t4 | exact .t5 | exact .t6 | exact .t7) u5 I (m := 4 * k + 3) (by omega) (by rw [A8, hc3]; rfl)) ?_
  refine WM.r I I I (aK I I u5 bt) ?_
  refine WM.r I I I (k5 I I I) ?_
  refine WM.set 41 I (v' := u32 (n2 c0 c1 c2 c3)) (congrArg (Value.int .u32) (rQ c0 c1 c2 c3)) ?_
  refine WM.r I I I (Jb I I I kJ (by kernel_rfl : _ = some 1) ?_) ?_
  ·omega
  refine WM.h0 I I (st I I I (by first | exact .here | exact .t1 | exact .t2 | exact .t3 | exact .t4 | exact .t5 | exact .t6 | exact .t7) (by kernel_rfl) I ?_ I) ?_
  ·first | decide | (simp; done) | (simp; omega)
  intro _
  refine WM.nil ?_
  refine Xd (Xa (Cg ?_))
  first
   | (refine Kq rfl (Rz rfl rfl rfl ?_) ?_; focus (omega))
   | (refine Kq rfl (aI rfl rfl rfl ?_) ?_; focus (omega))
  refine Km I (Nn ?_)
  exact WX.loop (k + 1) (by omega) (by repeat (first | exact S0 _ | refine Sc rfl ?_)) (fun w' h => ⟨by omega, by rw [i1 (a7 bs) u32 (u32 0) 64 k _ (by omega) (jk k bs c0 c1 c2 c3 hc0 hc1 hc2 hc3)] at h; exact h⟩)
 ·(try simp only [sB] at hc10)
  refine Cx (Xc (Xc (Xe ?_)))
  obtain rfl : k = 16 := by omega
  refine Xa (Cq (Cq (Cg (Ka I (Nn (Xa (Cb ?_)))))))
  refine WC.loop (σ := Nat) (fun j => [(2, .pointer (some ⟨b2, 0, none⟩)), (3, .pointer (some ⟨b3, 0, none⟩)), (6, .int .i64 ((16 + j : Nat) : Int))]) (fun j w' => j ≤ 48 ∧ St (fun _ => True) w [⟨some b3, (bL j (a7 bs)).map u32 ++ List.replicate (48 - j) (u32 0), 284⟩, ⟨some b2, List.replicate 64 (u32 0), 284⟩] [] w') (fun j => 48 - j) 0 (by repeat (first | exact S0 _ | refine Sc rfl ?_)) (fun w' h => ⟨by omega, by rw [Aw (by omega)] at h; exact h.sub (Ar _) (by simp)⟩) ?_
  intro j; refine WC.pu ?_; intro hj
  refine Cq (Cq (Cg (Km I (Yl I (Nn (Xa ?_))))))
  refine Cd I (fun hc45 => ?_) (fun hc45 => ?_)
  ·(try simp only [sB] at hc45)
   have hsl := cF j (a7 bs)
   rw [hwl] at hsl
   refine Ck (Xa (Cq (Cb (Cq ?_))))
   refine WC.mix [0, 0, 0, 0, 0, 0, 0, 0, 0, 0] (by kernel_rfl) (by kernel_rfl) (fun w h => h.draw) ?_
   refine WM.r I I I (Rm I I) ?_
   first
    | (refine WM.r rfl rfl rfl (ar rfl rfl rfl ?_) ?_; focus (omega))
    | (refine WM.r rfl rfl rfl (ay rfl rfl rfl ?_) ?_; focus (omega))
   refine WM.r I I I (Jb I I I kJ (by kernel_rfl : _ = some 1) ?_) ?_
   ·omega
   refine WM.r I I I (ld I I (by first | exact .here | exact .t1 | exact .t2 | exact .t3 | exact .t4 | exact .t5 | exact .t6 | exact .t7) bt I (by exact dz _ u32 _ _ _ (aX (bL j (a7 bs)) _ 0 (by omega)))) ?_
   refine WM.r I I I (Rm I I) ?_
   first
    | (refine WM.r rfl rfl rfl (ar rfl rfl rfl ?_) ?_; focus (omega))
    | (refine WM.r rfl rfl rfl (ay rfl rfl rfl ?_) ?_; focus (omega))
   refine WM.r I I I (Jb I I I kJ (by kernel_rfl : _ = some 1) ?_) ?_
   ·omega
   refine WM.r I I I (ld I I (by first | exact .here | exact .t1 | exact .t2 | exact .t3 | exact .t4 | exact .t5 | exact .t6 | exact .t7) bt I (by exact dz _ u32 _ _ _ (aX (bL j (a7 bs)) _ 0 (by omega)))) ?_
   refine WM.r I I I (Ra I I) ?_
   refine WM.r I I I (Ra I I) ?_
   refine WM.nil ?_
   refine Xa ?_
   refine WC.mix [0, 0, 0, 0, 0, 0, 1, 0, 1, 0, 0, 0, 0, 0, 0, 0, 0, 0, 0, 0, 1, 0, 1, 0, 0, 0, 0, 0, 0, 2] (by kernel_rfl) (by kernel_rfl) (fun w h => h.draw) ?_
   refine WM.r I I I (Rm I I) ?_
   refine WM.r I I I (Rm I I) ?_
   first
    | (refine WM.r rfl rfl rfl (ar rfl rfl rfl ?_) ?_; focus (omega))
    | (refine WM.r rfl rfl rfl (ay rfl rfl rfl ?_) ?_; focus (omega))
   refine WM.r I I I (Jb I I I kJ (by kernel_rfl : _ = some 1) ?_) ?_
   ·omega
   refine WM.r I I I (ld I I (by first | exact .here | exact .t1 | exact .t2 | exact .t3 | exact .t4 | exact .t5 | exact .t6 | exact .t7) bt I (by exact dz _ u32 _ _ _ (aX (bL j (a7 bs)) _ 0 (by omega)))) ?_
   refine WM.r I I I (Rm I I) ?_
   refine WM.g I I I (Oc I I (Kv fun w _ => cW _ _ (by decide) (by decide) w)) (fun _ _ h => by first | exact h | exact ⟨_, h⟩ | exact ⟨_, h.2⟩ | exact h.2 | exact h.sub (by repeat (first | exact Ar _ | apply List.Sublist.cons)) (fun _ h => by simp [*]) | exact h.2.sub (by repeat (first | exact Ar _ | apply List.Sublist.cons)) (fun _ h => by simp [*])) ?_
   intro _
   refine WM.r I I I (Rm I I) ?_
   refine WM.g I I I (Oc I I (Kv fun w _ => cW _ _ (by decide) (by decide) w)) (fun _ _ h => by first | exact h | exact ⟨_, h⟩ | exact ⟨_, h.2⟩ | exact h.2 | exact h.sub (by repeat (first | exact Ar _ | apply List.Sublist.cons)) (fun _ h => by simp [*]) | exact h.2.sub (by repeat (first | exact Ar _ | apply List.Sublist.cons)) (fun _ h => by simp [*])) ?_
   intro _
   refine WM.r I I I (bc I I I) ?_
   refine WM.r I I I (Rm I I) ?_
   refine WM.r I I I (dX I I I (by decide)) ?_
   refine WM.r I I I (bc I I I) ?_
   refine WM.r I I I (aW I I I) ?_
   refine WM.r I I I (Rm I I) ?_
   first
    | (refine WM.r rfl rfl rfl (ar rfl rfl rfl ?_) ?_; focus (omega))
    | (refine WM.r rfl rfl rfl (ay rfl rfl rfl ?_) ?_; focus (omega))
   refine WM.r I I I (Jb I I I kJ (by kernel_rfl : _ = some 1) ?_) ?_
   ·omega
   refine WM.r I I I (ld I I (by first | exact .here | exact .t1 | exact .t2 | exact .t3 | exact .t4 | exact .t5 | exact .t6 | exact .t7) bt I (by exact dz _ u32 _ _ _ (aX (bL j (a7 bs)) _ 0 (by omega)))) ?_
   refine WM.r I I I (aW I I I) ?_
   refine WM.r I I I (Rm I I) ?_
   refine WM.g I I I (Oc I I (Kv fun w _ => cW _ _ (by decide) (by decide) w)) (fun _ _ h => by first | exact h | exact ⟨_, h⟩ | exact ⟨_, h.2⟩ | exact h.2 | exact h.sub (by repeat (first | exact Ar _ | apply List.Sublist.cons)) (fun _ h => by simp [*]) | exact h.2.sub (by repeat (first | exact Ar _ | apply List.Sublist.cons)) (fun _ h => by simp [*])) ?_
   intro _
   refine WM.r I I I (Rm I I) ?_
   refine WM.g I I I (Oc I I (Kv fun w _ => cW _ _ (by decide) (by decide) w)) (fun _ _ h => by first | exact h | exact ⟨_, h⟩ | exact ⟨_, h.2⟩ | exact h.2 | exact h.sub (by repeat (first | exact Ar _ | apply List.Sublist.cons)) (fun _ h => by simp [*]) | exact h.2.sub (by repeat (first | exact Ar _ | apply List.Sublist.cons)) (fun _ h => by simp [*])) ?_
   intro _
   refine WM.r I I I (bc I I I) ?_
   refine WM.r I I I (Rm I I) ?_
   refine WM.r I I I (dX I I I (by decide)) ?_
   refine WM.r I I I (bc I I I) ?_
   refine WM.r I I I (aW I I I) ?_
   refine WM.set 83 I (v' := u32 (mh (bL j (a7 bs)))) (by unfold mh; rw [hsl]; rfl) ?_
   refine WM.r I I I (Jb I I I kJ (by kernel_rfl : _ = some 1) ?_) ?_
   ·omega
   refine WM.h0 I I (st I I I (by first | exact .here | exact .t1 | exact .t2 | exact .t3 | exact .t4 | exact .t5 | exact .t6 | exact .t7) (by kernel_rfl) I ?_ I) ?_
   ·simp [hsl]; omega
   intro _
   refine WM.nil ?_
   refine Xd (Xa (Cg (Km I ?_)))
   first
    | (refine Kq rfl (Rz rfl rfl rfl ?_) ?_; focus (omega))
    | (refine Kq rfl (aI rfl rfl rfl ?_) ?_; focus (omega))
   refine Ka I (Nn ?_)
   exact WX.loop (j + 1) (by omega) (by repeat (first | exact S0 _ | refine Sc rfl ?_)) (fun w' h => ⟨by omega, by rw [l0 j (a7 bs) hwl (by omega)] at h; exact h⟩)
  ·(try simp only [sB] at hc45)
   refine Cx (Xc (Xc (Xe ?_)))
   obtain rfl : j = 48 := by omega
   refine WX.st (S' := St (fun _ => True) w [⟨some b3, (bL 48 (a7 bs)).map u32, 284⟩, ⟨some b2, List.replicate 64 (u32 0), 284⟩] []) (fun w' h => by rw [Cc, List.replicate_zero, Bd] at h; exact h) ?_
   refine Xa (Cq (Cg ?_))
   refine Kq I (lda I I (by first | exact .here | exact .t1 | exact .t2 | exact .t3 | exact .t4 | exact .t5 | exact .t6 | exact .t7) kJ I ?_) ?_
   ·rw [Ag, cF, hwl]; kernel_rfl
   refine Ng I I (sta I I I (by first | exact .here | exact .t1 | exact .t2 | exact .t3 | exact .t4 | exact .t5 | exact .t6 | exact .t7) ?_ ?_ ?_) ?_
   ·rw [Ag, cF, hwl]; kernel_rfl
   ·exact eQ _
   ·rw [Ag, cF, hwl, Ec]
   intro _
   refine Nn (Xa (Ce ?_))
   exact WX.ret1c rfl rfl (by first | exact .here | exact .t1 | exact .t2 | exact .t3) kJ rfl (by rw [Ag, cF, hwl]; kernel_rfl) fun w' hS => ⟨rfl, hS.below⟩
theorem St.sl_of {ok : Nat → Prop} {w0 w : World} {own : List Ent} {fs : List Fact} {b off : Nat} {cs xs : List Value} {T : TypeId} (hk : InE own ⟨some b, cs, T⟩) (hx : (cs.drop off).take xs.length = xs) (h : St ok w0 own fs w) : (Fact.sl (some ⟨b, off, none⟩) xs).holds (fun _ => True) w := by
 obtain ⟨kk, hk⟩ := hk.get
 exact h.own_sl hk (fun i hi => by rw [← hx, Cv, Ab hi, Cn])
theorem we (x0 : List W) (hx0 : x0.length = 8) (bs : List UInt8) (hbs : bs.length = 64) (b off cap : Nat) (hcap : 64 ≤ cap) (w : World) (hf : (Fact.sl (some ⟨b, off, none⟩) (bs.map B)).holds (fun _ => True) w) :
  Cw 264 #[.agg (x0.map u32).toArray, .slice (some ⟨b, off, none⟩) 64 cap] w (.agg ((cY x0 bs).map u32).toArray) := by
 have hwl := fi 16 bs hbs
 have hsl := cF 48 (a7 bs)
 rw [hwl] at hsl
 obtain ⟨ws, hws⟩ : ∃ ws, bL 48 (a7 bs) = ws := ⟨_, rfl⟩
 have hsch := oh bs hbs b off cap hcap
 rw [hws] at hsl hsch
 show Calls _ _ _ _ fun e w' => e = .returned (.agg ((ep (cu KK (bL 48 (a7 bs)) 64 x0) x0).map u32).toArray) ∧ _
 rw [hws]
 refine enter (S := St (fun _ => True) w [] [Fact.sl (some ⟨b, off, none⟩) (bs.map B)]) (L := [(0, .agg (x0.map u32).toArray), (1, .slice (some ⟨b, off, none⟩) 64 cap)]) Tryz.func264 rfl Tryz.ntmps264 rfl (Ac rfl (Ac rfl (An _))) (St.start (fun _ _ => trivial) (by simpa using hf)) ?_
 refine Cq (Cg (Kh I (Ob I I (cs := x0.map u32) I) ?_))
 intro b2
 refine Kh I (Oz [.int .u32 0, .int .u32 0, .int .u32 0, .int .u32 0, .int .u32 0, .int .u32 0, .int .u32 0, .int .u32 0] I) ?_
 intro b4
 refine Nn (Xa (Cq (Cg (Ku I (Oc I I (Kv fun w _ => nQ w)) (Km I (Kc I (fun w hS => hsch w (hS.holds_any (k := 0) I)) (Kh I (Oa I (v := (.agg (List.replicate 64 (.int .u32 0)).toArray)) (cs := (List.replicate 64 (.int .u32 0))) (by kernel_rfl) I) ?_)))))))
 intro b5
 refine Kh I (Oa I (v := (.agg (List.replicate 64 (.int .u32 0)).toArray)) (cs := (List.replicate 64 (.int .u32 0))) (by kernel_rfl) I) ?_
 intro b6
 refine Ng I I (sta I I I .tc ?_ ?_ ?_) ?_
 ·kernel_rfl
 ·exact eQ _
 ·first | rfl | simp
 intro _
 refine Ng I I (sta I I I .tc ?_ ?_ ?_) ?_
 ·rw [Ag, hsl]; kernel_rfl
 ·exact eQ _
 ·simp [hsl]
 intro _
 refine Nn (Xa (Cq (Cg (Kq I (lda I I .tc eN I ?_) ?_))))
 ·rw [Ag, hx0]; kernel_rfl
 refine Kh I (Oz [.int .u32 0, .int .u32 0, .int .u32 0, .int .u32 0, .int .u32 0, .int .u32 0, .int .u32 0, .int .u32 0] I) ?_
 intro b7
 refine Ng I I (sta I I I .tc ?_ ?_ ?_) ?_
 ·rw [Ag, hx0]; kernel_rfl
 ·exact eQ _
 ·simp [hx0]
 intro _
 refine Nn (Xa (Cq (Cq (Cg (Km I (Nn (Xa (Cb (WC.loop (σ := Nat) (fun k => [(2, .pointer (some ⟨b2, 0, none⟩)), (4, .pointer (some ⟨b4, 0, none⟩)), (5, .pointer (some ⟨b5, 0, none⟩)), (6, .pointer (some ⟨b6, 0, none⟩)), (7, .pointer (some ⟨b7, 0, none⟩)), (22, .int .i64 (k : Int))]) (fun k w' => k ≤ 64 ∧ St (fun _ => True) w [⟨some b7, (cu KK ws k x0).map u32, 274⟩, ⟨some b6, ws.map u32, 284⟩, ⟨some b5, KK.map u32, 284⟩, ⟨some b4, List.replicate 8 (u32 0), 274⟩, ⟨some b2, x0.map u32, 274⟩] [] w') (fun k => 64 - k) 0 (by repeat (first | exact S0 _ | refine Sc rfl ?_)) (fun w' h => ⟨by omega, h.sub (Ar _) (by simp)⟩) ?_)))))))))
 intro k; refine WC.pu ?_; intro hk
 refine Cq (Cg (Yl I (Nn (Xa (Cq (Ci I (fun hc23 => ?_) (fun hc23 => ?_)))))))
 ·obtain ⟨xa, xb, xc, xd, xe, xf, xg, xh, hX⟩ := yy (cu KK ws k x0) (ey _ _ _ _ hx0)
  rw [hX]
  have hkk : KK.length = 64 := rfl
  refine Ck (Xa (Cq (Cb (Cq (Cg (Km I (Ka I (Nn (Xa (Cq (WC.mix [0, 0, 0, 0, 0, 0, 0, 0, 0, 0, 0, 0, 0, 0, 0, 0, 0, 0] (by kernel_rfl) (by kernel_rfl) (fun w h => h.draw) ?_)))))))))))
  refine WM.r I I I (Jb I I I eN (by kernel_rfl : _ = some 1) ?_) ?_
  ·omega
  refine WM.r I I I (ld I I .tc bt I (by rfl)) ?_
  refine WM.r I I I (Jb I I I eN (by kernel_rfl : _ = some 1) ?_) ?_
  ·omega
  refine WM.r I I I (ld I I .tc bt I (by rfl)) ?_
  refine WM.r I I I (Jb I I I eN (by kernel_rfl : _ = some 1) ?_) ?_
  ·omega
  refine WM.r I I I (ld I I .tc bt I (by rfl)) ?_
  refine WM.r I I I (Jb I I I eN (by kernel_rfl : _ = some 1) ?_) ?_
  ·omega
  refine WM.r I I I (ld I I .tc bt I (by rfl)) ?_
  refine WM.r I I I (Jb I I I eN (by kernel_rfl : _ = some 1) ?_) ?_
  ·omega
  refine WM.r I I I (ld I I .tc bt I (by rfl)) ?_
  refine WM.r I I I (Jb I I I eN (by kernel_rfl : _ = some 1) ?_) ?_
  ·omega
  refine WM.r I I I (ld I I .tc bt I (by rfl)) ?_
  refine WM.r I I I (Ra I I) ?_
  refine WM.r I I I (Ra I I) ?_
  refine WM.r I I I (Ra I I) ?_
  refine WM.r I I I (Ra I I) ?_
  refine WM.r I I I (Ra I I) ?_
  refine WM.r I I I (Ra I I) ?_
  refine WM.nil ?_
  refine Xa (Cq (WC.mix [0, 0, 0, 1, 0, 1, 0, 0, 1, 0, 0, 0, 0, 0, 0, 0, 0, 0, 0, 0, 0, 0, 0, 0, 0, 0, 0, 0, 0] (by kernel_rfl) (by kernel_rfl) (fun w h => h.draw) ?_))
  refine WM.r I I I (Jb I I I eN (by kernel_rfl : _ = some 1) ?_) ?_
  ·omega
  refine WM.r I I I (ld I I .tc bt I (by rfl)) ?_
  refine WM.r I I I (Rm I I) ?_
  refine WM.g I I I (Oc I I (Kv fun w _ => cW _ _ (by decide) (by decide) w)) (fun _ _ h => by first | exact h | exact ⟨_, h⟩ | exact ⟨_, h.2⟩ | exact h.2 | exact h.sub (by repeat (first | exact Ar _ | apply List.Sublist.cons)) (fun _ h => by simp [*]) | exact h.2.sub (by repeat (first | exact Ar _ | apply List.Sublist.cons)) (fun _ h => by simp [*])) ?_
  intro _
  refine WM.r I I I (Rm I I) ?_
  refine WM.g I I I (Oc I I (Kv fun w _ => cW _ _ (by decide) (by decide) w)) (fun _ _ h => by first | exact h | exact ⟨_, h⟩ | exact ⟨_, h.2⟩ | exact h.2 | exact h.sub (by repeat (first | exact Ar _ | apply List.Sublist.cons)) (fun _ h => by simp [*]) | exact h.2.sub (by repeat (first | exact Ar _ | apply List.Sublist.cons)) (fun _ h => by simp [*])) ?_
  intro _
  refine WM.r I I I (bc I I I) ?_
  refine WM.r I I I (Rm I I) ?_
  refine WM.g I I I (Oc I I (Kv fun w _ => cW _ _ (by decide) (by decide) w)) (fun _ _ h => by first | exact h | exact ⟨_, h⟩ | exact ⟨_, h.2⟩ | exact h.2 | exact h.sub (by repeat (first | exact Ar _ | apply List.Sublist.cons)) (fun _ h => by simp [*]) | exact h.2.sub (by repeat (first | exact Ar _ | apply List.Sublist.cons)) (fun _ h => by simp [*])) ?_
  intro _
  refine WM.r I I I (bc I I I) ?_
  refine WM.r I I I (aW I I I) ?_
  refine WM.r I I I (Rm I I) ?_
  refine WM.r I I I (Rm I I) ?_
  refine WM.r I I I (dY I I I) ?_
  refine WM.r I I I (Rm I I) ?_
  refine WM.r I I I (qK I I) ?_
  refine WM.r I I I (Rm I I) ?_
  refine WM.r I I I (dY I I I) ?_
  refine WM.r I I I (bc I I I) ?_
  refine WM.r I I I (aW I I I) ?_
  refine WM.r I I I (Rm I I) ?_
  refine WM.r I I I (Jb I I I kJ (by kernel_rfl : _ = some 1) ?_) ?_
  ·omega
  refine WM.r I I I (ld I I .tc bt I (by rw [A8, aX KK k 0 (by omega)]; rfl)) ?_
  refine WM.r I I I (aW I I I) ?_
  refine WM.r I I I (Rm I I) ?_
  refine WM.r I I I (Jb I I I kJ (by kernel_rfl : _ = some 1) ?_) ?_
  ·omega
  refine WM.r I I I (ld I I .tc bt I (by rw [A8, aX ws k 0 (by omega)]; rfl)) ?_
  refine WM.r I I I (aW I I I) ?_
  refine WM.r I I I (Ra I I) ?_
  refine WM.nil ?_
  refine Xa (Cq (Cg (Km I (Ku I (Oc I I (Kv fun w _ => cW _ _ (by decide) (by decide) w)) (Km I (Ku I (Oc I I (Kv fun w _ => cW _ _ (by decide) (by decide) w)) (Kq I (bc I I I) (Km I (Ku I (Oc I I (Kv fun w _ => cW _ _ (by decide) (by decide) w)) (Kq I (bc I I I) (Km I (Km I (Kq I (dY I I I) (Km I (Km I (Kq I (dY I I I) (Kq I (bc I I I) (Km I (Km I (Kq I (dY I I I) (Kq I (bc I I I) (Kq I (aW I I I) (Ka I (Nn (Xa (Cq (WC.mix [0, 0, 2] (by kernel_rfl) (by kernel_rfl) (fun w h => h.draw) ?_)))))))))))))))))))))))))))
  refine WM.r I I I (xr I I I eN (by kernel_rfl : _ = some 1) ?_ (by (try simp only [Ah, A1, Az, A6, Bw, Int.reduceToNat, Nat.reduceAdd, Nat.reduceMul, Nat.reduceSub, Bx]); rfl) (by (try simp only [Ah, A1, Az, A6, Bw, Int.reduceToNat, Nat.reduceAdd, Nat.reduceMul, Nat.reduceSub, Bx]); rfl) (by (try simp only [Ah, A1, Az, A6, Bw, Int.reduceToNat, Nat.reduceAdd, Nat.reduceMul, Nat.reduceSub, Bx]); rfl)) ?_
  ·omega
  refine WM.r I I I (xq I I I eN (by kernel_rfl : _ = some 1) ?_ (by (try simp only [Ah, A1, Az, A6, Bw, Int.reduceToNat, Nat.reduceAdd, Nat.reduceMul, Nat.reduceSub, Bx]); rfl)) ?_
  ·omega
  refine WM.h I I I (CC I I I .tc dJ (by kernel_rfl) (by rfl) (by rfl) (fun w' h => h.sl_of (xs := [u32 xa, u32 xb, u32 xc, u32 xd, u32 xe, u32 xf, u32 xg]) (by first | exact .here | exact .t1 | exact .t2 | exact .t3) I) (by simp [u32, Value.oneCell']) (by simp) (ys := [u32 xa, u32 xa, u32 xb, u32 xc, u32 xd, u32 xe, u32 xf, u32 xg]) I) ?_
  intro _
  refine WM.nil ?_
  refine Xa (Cq (Cg (Kq I (Jb I I I eN (by kernel_rfl : _ = some 1) ?_) ?_)))
  ·omega
  refine Kq I (ld I I .tc bt I (by rfl)) ?_
  refine Km I (Kq I (aW I I I) (Kq I (Jb I I I eN (by kernel_rfl : _ = some 1) ?_) ?_))
  ·omega
  refine Ng I I (st I I I .tc (by kernel_rfl) I ?_ I) ?_
  ·first | decide | (simp; done) | (simp; omega)
  intro _
  refine Nn (Xa (Cg (Km I (Km I (Kq I (aW I I I) (Kq I (Jb I I I eN (by kernel_rfl : _ = some 1) ?_) ?_))))))
  ·omega
  refine Ng I I (st I I I .tc (by kernel_rfl) I ?_ I) ?_
  ·first | decide | (simp; done) | (simp; omega)
  intro _
  refine Nn (Xd (Xa (Cg ?_)))
  first
   | (refine Kq rfl (Rz rfl rfl rfl ?_) ?_; focus (omega))
   | (refine Kq rfl (aI rfl rfl rfl ?_) ?_; focus (omega))
  refine Km I (Nn ?_)
  exact WX.loop (k + 1) (by omega) (by repeat (first | exact S0 _ | refine Sc rfl ?_)) (fun w' h => ⟨by omega, by rw [show cu KK ws (k + 1) x0 = rnd (KK.getD k 0) (ws.getD k 0) (cu KK ws k x0) from rfl, hX]; exact h⟩)
 ·refine Cx (Xc (Xc (Xe ?_)))
  obtain rfl : k = 64 := by omega
  have hrl := ey KK ws 64 x0 hx0
  obtain ⟨X, hX⟩ : ∃ X, cu KK ws 64 x0 = X := ⟨_, rfl⟩
  rw [hX] at hrl ⊢
  have hadl := gO X x0 (by omega)
  refine Xa (Cq (Cq (Cg (Km I (Nn (Xa (Cb (WC.loop (σ := Nat) (fun k => [(2, .pointer (some ⟨b2, 0, none⟩)), (4, .pointer (some ⟨b4, 0, none⟩)), (7, .pointer (some ⟨b7, 0, none⟩)), (98, .int .i64 (k : Int))]) (fun k w' => k ≤ 8 ∧ St (fun _ => True) w [⟨some b7, ((ep X x0).take k ++ X.drop k).map u32, 274⟩, ⟨some b4, List.replicate 8 (u32 0), 274⟩, ⟨some b2, x0.map u32, 274⟩] [] w') (fun k => 8 - k) 0 (by repeat (first | exact S0 _ | refine Sc rfl ?_)) (fun w' h => ⟨by omega, h.sub (by repeat first | exact Ar _ | apply Dg | apply List.Sublist.cons) (by simp)⟩) ?_))))))))
  intro q; refine WC.pu ?_; intro hq
  refine Cq (Cg (Yl I (Nn (Xa (Cq (Ci I (fun hc99 => ?_) (fun hc99 => ?_)))))))
  ·have hXq := aX X q 0 (by omega); have hxq := aX x0 q 0 (by omega); refine Ck (Xa (Cq (Cb (Cq (Cg (Km I (Ka I (Nn (Xa (WC.mix [0, 0, 0, 0, 0, 0, 0, 0, 2] (by kernel_rfl) (by kernel_rfl) (fun w h => h.draw) ?_)))))))))); refine WM.r I I I (Rm I I) ?_; refine WM.r I I I (Jb I I I eN (by kernel_rfl : _ = some 1) ?_) ?_
   ·omega
   refine WM.r I I I (ld I I .tc bt I (by rw [A8, List.getElem?_append_right (by simp; omega), Cn, Br, hadl, show q + (q - min q X.length) = q by omega, hXq]; rfl)) ?_; refine WM.r I I I (Rm I I) ?_; refine WM.r I I I (Jb I I I eN (by kernel_rfl : _ = some 1) ?_) ?_
   ·omega
   refine WM.r I I I (ld I I .tc bt I (by rw [A8, hxq]; rfl)) ?_; refine WM.r I I I (aW I I I) ?_; refine WM.r I I I (Jb I I I eN (by kernel_rfl : _ = some 1) ?_) ?_
   ·omega
   refine WM.h0 I I (st I I I .tc (by kernel_rfl) I ?_ I) ?_
   ·simp; omega
   intro _; refine WM.nil ?_; refine Xd (Xa (Cg ?_))
   first
    | (refine Kq rfl (Rz rfl rfl rfl ?_) ?_; focus (omega))
    | (refine Kq rfl (aI rfl rfl rfl ?_) ?_; focus (omega))
   refine Km I (Nn ?_); exact WX.loop (q + 1) (by omega) (by repeat (first | exact S0 _ | refine Sc rfl ?_)) (fun w' h => ⟨by omega, by rw [pf X x0 q _ _ (by omega) hXq hxq] at h; exact h⟩)
  ·refine Cx (Xc (Xc (Xe ?_))); obtain rfl : q = 8 := by omega
   have hfin : (ep X x0).take 8 ++ X.drop 8 = ep X x0 := by rw [Aw (by omega), C7 (by omega), Bd]
   rw [hfin]; have hal : (ep X x0).length = 8 := by omega
   refine Xa (Cq (Cg (Kq I (lda I I .tc eN I ?_) ?_)))
   ·rw [Ag, hal]; kernel_rfl
   refine Ng I I (sta I I I .tc ?_ ?_ ?_) ?_
   ·rw [Ag, hal]; kernel_rfl
   ·exact eQ _
   ·rw [Ag, hal]; rfl
   intro _; refine Nn (Xa (Ce ?_)); exact WX.ret1c I I (by first | exact .here | exact .t1 | exact .t2 | exact .t3) eN I (by rw [Ag, hal]; kernel_rfl) fun w' hS => ⟨rfl, hS.below⟩
theorem St.snoc {ok : Nat → Prop} {w0 w : World} {r : List Ent} {fs : List Fact} {b b2 : Nat} {e : TypeId} {m : List UInt8} {c : UInt8} {v : Value} {sp : List Value} (h : St ok w0 (⟨some b2, [v], e⟩ :: ⟨some b, (m.map B ++ [v]) ++ sp, e⟩ :: r) fs w) (hv : v = B c) : St ok w0 (⟨some b, (m ++ [c]).map B ++ sp, e⟩ :: r) fs w := by
 subst hv
 rw [Ch]
 exact h.sub (Cz _ _) (fun _ h => h)
theorem vQ (M q : Nat) (hM : M < 18446744073709551616) (hq : q ≤ 7) : IntKind.u8.wrap ((M : Int).fdiv (2 ^ (min (56 - 8 * (q : Int)).toNat IntKind.u64.bits))) = ((aR M (7 - q)).toNat : Int) := by
 have e1 : min (56 - 8 * (q : Int)).toNat IntKind.u64.bits = 8 * (7 - q) := by simp [IntKind.bits]; omega
 rw [e1]
 have e2 : ((2 : Int) ^ (8 * (7 - q))) = ((2 ^ (8 * (7 - q)) : Nat) : Int) := by simp
 rw [e2, Dq _ (Bt _), ← Int.natCast_ediv, IntKind.wrap_u8, aR]
 rw [UInt8.toNat_ofNat']
 generalize M / 2 ^ (8 * (7 - q)) = z
 omega
theorem iy (x : W) (i : Nat) : IntKind.u8.wrap ((x >>> (8 * i)).toNat : Int) = ((aR x.toNat i).toNat : Int) := by
 rw [BitVec.toNat_ushiftRight, Nat.shiftRight_eq_div_pow, IntKind.wrap_u8, aR, UInt8.toNat_ofNat']
 generalize x.toNat / 2 ^ (8 * i) = z
 omega
theorem rG (x : W) : IntKind.u8.wrap (x.toNat : Int) = ((aR x.toNat 0).toNat : Int) := by
 have := iy x 0; simpa using this
theorem sV (M q : Nat) (hq : q ≤ 7) : (f8 M).take (q + 1) = (f8 M).take q ++ [aR M (7 - q)] := by
 have : q = 0 ∨ q = 1 ∨ q = 2 ∨ q = 3 ∨ q = 4 ∨ q = 5 ∨ q = 6 ∨ q = 7 := by omega
 rcases this with rfl | rfl | rfl | rfl | rfl | rfl | rfl | rfl <;> rfl
theorem qS (l : List UInt8) : ∃ n, (pad l).length = 64 * n := by
 refine ⟨(l.length + 1 + bZ l.length + 8) / 64, ?_⟩
 have : (pad l).length = l.length + 1 + bZ l.length + 8 := by simp [pad, f8]; omega
 rw [this]; unfold bZ; omega
theorem j0 (n : Nat) (x : List W) (m : List UInt8) : fY (n + 1) x m = fY n (cY x (m.take 64)) (m.drop 64) := rfl
theorem dE (x : List W) (b : List UInt8) (h : x.length = 8) : (cY x b).length = 8 := by
 unfold cY
 have := ey KK (bL 48 (a7 b)) 64 x h
 rw [gO _ _ (by omega)]; exact this
theorem mb (X : List W) (k : Nat) (h : k < X.length) : j8 (X.take (k + 1)) = j8 (X.take k) ++ qa (X.getD k 0) := by
 have hx := aX X k 0 h
 rw [Bl, hx]
 simp [j8]
theorem eF (X : List W) : (j8 X).length = 4 * X.length := by
 induction X with
 | nil => rfl
 | cons x X ih => simp only [j8, Dd, Ak, Al] at *; rw [ih]; simp [qa]; omega
structure G4 where
 k : Nat
 ob : Option Nat
 cap : Nat
 spare : List Value
structure G3 where
 q : Nat
 ad : Option Addr
 x : List W
theorem kL (l : List UInt8) (hl : l.length ≤ 1000000) (w : World) :
  Cw 255 #[.string (S l)] w (.string (S (sha l))) := by
 have hz : bZ l.length = (119 - l.length % 64) % 64 := rfl
 have hpl : (pad l).length = l.length + 1 + bZ l.length + 8 := by simp [pad, f8]; omega
 refine enter (S := St (fun _ => True) w [] []) (L := [(0, .string (S l))]) Tryz.func255 rfl Tryz.ntmps255 rfl (Ac rfl (An _)) (St.start (fun _ _ => trivial) (by simp)) ?_
 refine Cq (Cg (Ka I (Nn (Xa (Cq (Cg (Km I (Yn I u9 (Km I (Yn I u9 ?_))))))))))
 first
  | (refine Kq rfl (Rz rfl rfl rfl ?_) ?_; focus (omega))
  | (refine Kq rfl (aI rfl rfl rfl ?_) ?_; focus (omega))
 refine Kh I (dL I I I aC (by kernel_rfl : _ = some (some (.int .u8 0), 1, 1)) I ?_ (by (try simp only [Ah, A1, Az, A6, Bw, Int.reduceToNat, Nat.reduceAdd, Nat.reduceMul, Nat.reduceSub, Bx]); rfl) (by (try simp only [Ah, A1, Az, A6, Bw, Int.reduceToNat, Nat.reduceAdd, Nat.reduceMul, Nat.reduceSub, Bx]); rfl)) ?_
 ·omega
 intro b15
 refine Ka I (Nn (Xa (Cq (Cg (Km I (Km I ?_))))))
 refine Kh I (vM I I I (by first | exact .here | exact .t1 | exact .t2 | exact .t3 | exact .t4 | exact .t5 | exact .t6 | exact .t7) aC (by kernel_rfl) (m := l.length) (by simp) (by simp) (ys := l.map B ++ List.replicate 72 (B 0)) (by simp [B])) ?_
 intro _
 refine Nn (Xa (Cq (Cg (Km I ?_))))
 refine Kh I (aQ I I aC (by kernel_rfl : _ = some (some (.int .u8 0), 1, 1)) I (by simp only [List.map]; rfl) I I ?_ (by decide)) ?_
 ·simp [Value.cells]
 intro b20
 refine Kh I (app I aC (by kernel_rfl : _ = some (some (.int .u8 0), 1, 1)) I (by first | exact .here | exact .t1 | exact .t2 | exact .t3 | exact .t4 | exact .t5 | exact .t6 | exact .t7) (by rfl) (by rfl) (by first | exact .here | exact .t1 | exact .t2 | exact .t3 | exact .t4 | exact .t5 | exact .t6 | exact .t7) (by rfl) ?_ ?_) ?_
 ·(refine ⟨?_, ?_, ?_, ?_, ?_⟩ <;> (try simp) <;> omega)
 ·simp [Value.oneCell']
 intro g21
 refine WL.pu ?_
 intro hg21
 refine WL.st (S' := St (fun _ => True) w [⟨some g21.b, (l ++ [128]).map B ++ g21.spare, 5⟩] []) (fun w' h => h.snoc I) ?_
 refine Ka I (Nn (Xa (Cq (Cb ?_))))
 refine WC.loop (σ := Nat × App) (fun p => [(0, .string (S l)), (3, .slice (some ⟨p.2.b, 0, none⟩) (l.length + 1 + p.1) p.2.cap)]) (fun p w' => (p.1 ≤ bZ l.length ∧ p.2.cap = l.length + 1 + p.1 + p.2.spare.length) ∧ St (fun _ => True) w [⟨some p.2.b, (l ++ [128] ++ List.replicate p.1 0).map B ++ p.2.spare, 5⟩] [] w') (fun p => bZ l.length - p.1) (0, g21) (by repeat (first | exact S0 _ | refine Sc rfl ?_)) (fun w' h => ⟨⟨by simp, by simpa using hg21.2⟩, by simpa using h⟩) ?_
 rintro ⟨j, g⟩; dsimp only; refine WC.pu ?_; rintro ⟨hj, hg⟩
 refine Cq (Cq (Cg (Km I (Yo I aC ?_))))
 first
  | (refine Kq rfl (bN rfl rfl rfl ?_) ?_; focus (omega))
  | (refine Kq rfl (oC rfl rfl rfl ?_) ?_; focus (omega))
 refine Yj I (Nn (Xa ?_))
 refine Cd I (fun hc25 => ?_) (fun hc25 => ?_)
 ·(try simp only [sB] at hc25)
  refine Ck (Xa (Cb (Cg (Km I ?_))))
  refine Kh I (aQ I I aC (by kernel_rfl : _ = some (some (.int .u8 0), 1, 1)) I (by simp only [List.map]; rfl) I I ?_ (by decide)) ?_
  ·simp [Value.cells]
  intro b27
  refine Kh I (app I aC (by kernel_rfl : _ = some (some (.int .u8 0), 1, 1)) I (by first | exact .here | exact .t1 | exact .t2 | exact .t3 | exact .t4 | exact .t5 | exact .t6 | exact .t7) (by rfl) (by rfl) (by first | exact .here | exact .t1 | exact .t2 | exact .t3 | exact .t4 | exact .t5 | exact .t6 | exact .t7) (by rfl) ?_ ?_) ?_
  ·(refine ⟨?_, ?_, ?_, ?_, ?_⟩ <;> (try simp) <;> omega)
  ·simp [Value.oneCell']
  intro g28
  refine WL.pu ?_
  intro hg28
  refine WL.st (S' := St (fun _ => True) w [⟨some g28.b, (l ++ [128] ++ List.replicate (j + 1) 0).map B ++ g28.spare, 5⟩] []) (fun w' h => by have := h.snoc (c := 0) rfl; rw [B2, ← List.replicate_succ'] at this; exact this) ?_
  refine Ka I (Nn (Xd ?_))
  exact WX.loop (j + 1, g28) (by show bZ l.length - (j + 1) < bZ l.length - j; omega) (by repeat (first | exact S0 _ | refine Sc rfl ?_)) (fun w' h => ⟨⟨by show j + 1 ≤ _; omega, by have := hg28.2; show g28.cap = _; omega⟩, h⟩)
 ·(try simp only [sB] at hc25)
  refine Cx (Xc (Xc (Xe ?_)))
  obtain rfl : j = bZ l.length := by omega
  refine Xa (Cq (Cg (Km I (Yn I u9 (Kq I (aK I I u3 u76) (Kq I (jp I I I) ?_))))))
  refine Ns 32 I (v' := .int .u64 ((8 * l.length : Nat) : Int)) (congrArg (Value.int .u64) (by rw [IntKind.wrap_u64, IntKind.wrap_u64]; omega)) ?_
  refine Ka I (Nn (Xa (Cq (Cq (Cg (Ka I (Nn (Xa (Cb ?_)))))))))
  refine WC.loop (σ := Nat × App) (fun p => [(4, .int .u64 ((8 * l.length : Nat) : Int)), (5, .int .i64 (56 - 8 * (p.1 : Int))), (3, .slice (some ⟨p.2.b, 0, none⟩) (l.length + 1 + bZ l.length + p.1) p.2.cap)]) (fun p w' => (p.1 ≤ 8 ∧ p.2.cap = l.length + 1 + bZ l.length + p.1 + p.2.spare.length) ∧ St (fun _ => True) w [⟨some p.2.b, (l ++ [128] ++ List.replicate (bZ l.length) 0 ++ (f8 (8 * l.length)).take p.1).map B ++ p.2.spare, 5⟩] [] w') (fun p => 8 - p.1) (0, g) (by repeat (first | exact S0 _ | refine Sc rfl ?_)) (fun w' h => ⟨⟨by simp, by simpa using hg⟩, by simpa using h⟩) ?_
  rintro ⟨q, g2⟩; dsimp only; refine WC.pu ?_; rintro ⟨hq, hg2⟩
  refine Cq (Cq (Cg (Km I (Yh I (Nn (Xa ?_))))))
  refine Cd I (fun hc34 => ?_) (fun hc34 => ?_)
  ·(try simp only [sB] at hc34)
   refine Ck (Xa (Cq (Cb (Cg (Km I (Km I (Km I ?_)))))))
   refine Kq I (gm I I I ?_) ?_
   ·first | decide | omega
   refine Kq I (aK I I u76 u5) (Ns 41 I (v' := B (aR (8 * l.length) (7 - q))) (congrArg (Value.int .u8) (vQ (8 * l.length) q (by omega) (by omega))) ?_)
   refine Kh I (aQ I I aC (by kernel_rfl : _ = some (some (.int .u8 0), 1, 1)) I (by simp only [List.map]; rfl) I I ?_ (by decide)) ?_
   ·simp [B, Value.cells]
   intro b42
   refine Kh I (app I aC (by kernel_rfl : _ = some (some (.int .u8 0), 1, 1)) I (by first | exact .here | exact .t1 | exact .t2 | exact .t3 | exact .t4 | exact .t5 | exact .t6 | exact .t7) (by rfl) (by rfl) (by first | exact .here | exact .t1 | exact .t2 | exact .t3 | exact .t4 | exact .t5 | exact .t6 | exact .t7) (by rfl) ?_ ?_) ?_
   ·(refine ⟨?_, ?_, ?_, ?_, ?_⟩ <;> (try simp [f8]) <;> omega)
   ·simp [B, Value.oneCell']
   intro g43
   refine WL.pu ?_
   intro hg43
   refine WL.st (S' := St (fun _ => True) w [⟨some g43.b, (l ++ [128] ++ List.replicate (bZ l.length) 0 ++ (f8 (8 * l.length)).take (q + 1)).map B ++ g43.spare, 5⟩] []) (fun w' h => by have := h.snoc (c := aR (8 * l.length) (7 - q)) rfl; rw [B2, ← sV _ q (by omega)] at this; exact this) ?_
   refine Ka I (Nn (Xd (Xa (Cg (Km I ?_)))))
   first
    | (refine Kq rfl (ar rfl rfl rfl ?_) ?_; focus (omega))
    | (refine Kq rfl (ay rfl rfl rfl ?_) ?_; focus (omega))
   refine Ka I (Nn ?_)
   exact WX.loop (q + 1, g43) (by show 8 - (q + 1) < 8 - q; omega) (by repeat (first | exact S0 _ | refine Sc rfl ?_ | refine Sc (by show some (Value.int _ _) = some (Value.int _ _); congr 2; omega) ?_)) (fun w' h => ⟨⟨by show q + 1 ≤ _; omega, by have := hg43.2; show g43.cap = _; omega⟩, h⟩)
  ·(try simp only [sB] at hc34)
   refine Cx (Xc (Xc (Xe ?_)))
   obtain rfl : q = 8 := by omega
   obtain ⟨m, hm⟩ : ∃ m, pad l = m := ⟨_, rfl⟩
   have hmm : l ++ [128] ++ List.replicate (bZ l.length) 0 ++ (f8 (8 * l.length)).take 8 = m := by rw [← hm]; rfl
   rw [hmm]
   obtain ⟨nb, hnb⟩ := qS l
   have hlen : l.length + 1 + bZ l.length + 8 = 64 * nb := by omega
   rw [hm] at hnb
   refine Xa (Cq (Cg ?_))
   refine Ku I (Oc I I (Kv fun w _ => vo w)) ?_
   refine Kh I (Oz [.int .u32 0, .int .u32 0, .int .u32 0, .int .u32 0, .int .u32 0, .int .u32 0, .int .u32 0, .int .u32 0] I) ?_
   intro b6
   refine Ng I I (sta I I I (by first | exact .here | exact .t1 | exact .t2 | exact .t3 | exact .t4 | exact .t5 | exact .t6 | exact .t7) ?_ ?_ ?_) ?_
   ·kernel_rfl
   ·exact eQ _
   ·first | rfl | simp
   intro _
   refine Nn (Xa (Cq (Cb ?_)))
   refine WC.loop (σ := G3) (fun p => [(6, .pointer (some ⟨b6, 0, none⟩)), (3, .slice p.ad (l.length + 1 + bZ l.length + 8 - 64 * p.q) (g2.cap - 64 * p.q))]) (fun p w' => ((p.q ≤ nb ∧ p.x.length = 8) ∧ (p.q < nb → p.ad = some ⟨g2.b, 64 * p.q, none⟩) ∧ fY nb H0 m = fY (nb - p.q) p.x (m.drop (64 * p.q))) ∧ St (fun _ => True) w [⟨some b6, p.x.map u32, 274⟩, ⟨some g2.b, m.map B ++ g2.spare, 5⟩] [] w') (fun p => nb - p.q) ⟨0, some ⟨g2.b, 0, none⟩, H0⟩ (by repeat (first | exact S0 _ | refine Sc rfl ?_)) (fun w' h => ⟨⟨⟨by simp, rfl⟩, fun _ => rfl, by simp⟩, h⟩) ?_
   rintro ⟨q, ad, x⟩; dsimp only; refine WC.pu ?_; rintro ⟨⟨hq, hx⟩, had, hch⟩
   refine Cq (Cq (Cg (Km I (Yo I aC (Yg I (Nn (Xa ?_)))))))
   refine Cd I (fun hc47 => ?_) (fun hc47 => ?_)
   ·(try simp only [sB] at hc47)
    have hqn : q < nb := by omega
    obtain rfl := had hqn
    have hblk : (m.drop (64 * q)).length = 64 * nb - 64 * q := by simp [hnb]
    refine Ck (Xa (Cq (Cb ?_)))
    refine WC.mix [0, 0, 0, 1, 2] (by kernel_rfl) (by kernel_rfl) (fun w h => h.draw) ?_
    refine WM.r I I I (lda I I (by first | exact .here | exact .t1 | exact .t2 | exact .t3 | exact .t4 | exact .t5 | exact .t6 | exact .t7) eN I ?_) ?_
    ·rw [Ag, hx]; kernel_rfl
    refine WM.r I I I (Rm I I) ?_
    refine WM.r I I I (uq I I I aC (by kernel_rfl : _ = some 1) ?_ (by (try simp only [Ah, A1, Az, A6, Bw, Int.reduceToNat, Nat.reduceAdd, Nat.reduceMul, Nat.reduceSub, Bx]); rfl)) ?_
    ·omega
    refine WM.g I I I (Oc I I (Kv fun w hS => we x hx ((m.drop (64 * q)).take 64) (by simp; omega) g2.b (64 * q) (g2.cap - 64 * q) (by omega) w (hS.sl_of (cs := m.map B ++ g2.spare) (by first | exact .here | exact .t1 | exact .t2) (by rw [List.drop_append_of_le_length (by simp; omega), List.take_append_of_le_length (by simp; omega), ← List.map_drop, ← List.map_take]; congr 1; simp; try omega)))) (fun _ _ h => by first | exact h | exact ⟨_, h⟩ | exact ⟨_, h.2⟩ | exact h.2 | exact h.sub (by repeat (first | exact Ar _ | apply List.Sublist.cons)) (fun _ h => by simp [*]) | exact h.2.sub (by repeat (first | exact Ar _ | apply List.Sublist.cons)) (fun _ h => by simp [*])) ?_
    intro _
    refine WM.h0 I I (sta I I I (by first | exact .here | exact .t1 | exact .t2 | exact .t3 | exact .t4 | exact .t5 | exact .t6 | exact .t7) ?_ ?_ ?_) ?_
    ·rw [Ag, dE _ _ hx]; kernel_rfl
    ·exact eQ _
    ·rw [Ag, dE _ _ hx, Ag, hx]
    intro _
    refine WM.nil ?_
    refine Xd (Xa (Cg (Km I ?_)))
    refine Kq I (kX I I I aC (by kernel_rfl : _ = some 1) ?_ (by (try simp only [Ah, A1, Az, A6, Bw, Int.reduceToNat, Nat.reduceAdd, Nat.reduceMul, Nat.reduceSub, Bx]); rfl) (by (try simp only [Ah, A1, Az, A6, Bw, Int.reduceToNat, Nat.reduceAdd, Nat.reduceMul, Nat.reduceSub, Bx]); rfl) (by (try simp only [Ah, A1, Az, A6, Bw, Int.reduceToNat, Nat.reduceAdd, Nat.reduceMul, Nat.reduceSub, Bx]); rfl)) ?_
    ·omega
    refine Ka I (Nn ?_)
    exact WX.loop ⟨q + 1, cut (some ⟨g2.b, 64 * q, none⟩) 64 (g2.cap - 64 * q) 1, cY x ((m.drop (64 * q)).take 64)⟩ (by show nb - (q + 1) < nb - q; omega) (by repeat (first | exact S0 _ | refine Sc (by show some (Value.slice _ _ _) = some (Value.slice _ _ _); congr 2 <;> omega) ?_ | refine Sc rfl ?_)) (fun w' h => ⟨⟨⟨by show q + 1 ≤ nb; omega, dE _ _ hx⟩, fun (hlt : q + 1 < nb) => by show cut _ _ _ _ = some ⟨g2.b, 64 * (q + 1), none⟩; rw [cut, Aa (by omega), Option.map_some, Addr.add_lit]; congr 2; try omega, by rw [hch, show nb - q = (nb - (q + 1)) + 1 by omega, j0, List.drop_drop]; congr 1⟩, h⟩)
   ·(try simp only [sB] at hc47)
    refine Cx (Xc (Xc (Xe ?_)))
    obtain rfl : q = nb := by omega
    have hfin : sha l = j8 x := by rw [sha, hm, hnb, Db _ (by omega), hch, Cc]; rfl
    refine Xa (Cq (Cg (Ka I (Nn (Xa (Cq (Cq (Cg ?_))))))))
    refine Kq I (lda I I (by first | exact .here | exact .t1 | exact .t2 | exact .t3 | exact .t4 | exact .t5 | exact .t6 | exact .t7) eN I ?_) ?_
    ·rw [Ag, hx]; kernel_rfl
    refine Km I (Nn (Xa (Cb ?_)))
    refine WC.loop (σ := G4) (fun p => [(54, .agg (x.map u32).toArray), (55, .int .i64 (p.k : Int)), (7, .slice (p.ob.map fun b => ⟨b, 0, none⟩) (4 * p.k) p.cap)]) (fun p w' => (p.k ≤ 8 ∧ (p.k = 0 ∨ ∃ b, p.ob = some b) ∧ p.cap = 4 * p.k + p.spare.length) ∧ St (fun _ => True) w [⟨p.ob, (j8 (x.take p.k)).map B ++ p.spare, 5⟩] [] w') (fun p => 8 - p.k) ⟨0, none, 0, []⟩ (by repeat (first | exact S0 _ | refine Sc rfl ?_)) (fun w' h => ⟨⟨by simp, .inl rfl, rfl⟩, (h.sub (own' := []) (fs' := []) (by simp) (by simp)).nil _⟩) ?_
    rintro ⟨k, ob, cap4, sp4⟩; dsimp only; refine WC.pu ?_; rintro ⟨hk, hob, hcap4⟩
    refine Cq (Cg (Yl I (Nn (Xa (Cq ?_)))))
    refine Cd I (fun hc56 => ?_) (fun hc56 => ?_)
    ·(try simp only [sB] at hc56)
     refine Ck (Xa (Cq (Cb (Cq (Cg ?_)))))
     refine Kq I (kl I I I eN bt I (by kernel_rfl) ?_ (by rw [A8, aX x _ 0 (by omega)]; rfl)) ?_
     ·omega
     refine Ka I (Nn (Xa (Cg (Km I (Km I (Kq I (dX I I I (by decide)) (Kq I (aK I I bt u5) (Ns 61 I (v' := B (aR (x.getD k 0).toNat 3)) (congrArg (Value.int .u8) (iy (x.getD k 0) 3)) (Km I (Kq I (dX I I I (by decide)) (Kq I (aK I I bt u5) (Ns 64 I (v' := B (aR (x.getD k 0).toNat 2)) (congrArg (Value.int .u8) (iy (x.getD k 0) 2)) (Km I (Kq I (dX I I I (by decide)) (Kq I (aK I I bt u5) (Ns 67 I (v' := B (aR (x.getD k 0).toNat 1)) (congrArg (Value.int .u8) (iy (x.getD k 0) 1)) (Km I (Kq I (aK I I bt u5) ?_))))))))))))))))))
     refine Ns 69 I (v' := B (aR (x.getD k 0).toNat 0)) (congrArg (Value.int .u8) (rG (x.getD k 0))) ?_
     refine Kh I (aQ I I aC (by kernel_rfl : _ = some (some (.int .u8 0), 1, 1)) I (by simp only [List.map]; rfl) I I ?_ (by decide)) ?_
     ·simp [B, Value.cells]
     intro b70
     refine Kh I (app I aC (by kernel_rfl : _ = some (some (.int .u8 0), 1, 1)) I (by first | exact .here | exact .t1 | exact .t2 | exact .t3 | exact .t4 | exact .t5 | exact .t6 | exact .t7) (by rfl) (by rfl) (by first | exact .here | exact .t1 | exact .t2 | exact .t3 | exact .t4 | exact .t5 | exact .t6 | exact .t7) (by rfl) ?_ ?_) ?_
     ·(refine ⟨?_, ?_, ?_, ?_, ?_⟩ <;> (try simp [eF]) <;> omega)
     ·simp [B, Value.oneCell']
     intro g71
     refine WL.pu ?_
     intro hg71
     refine Ka I (Nn (Xd (Xa (Cg ?_))))
     first
      | (refine Kq rfl (Rz rfl rfl rfl ?_) ?_; focus (omega))
      | (refine Kq rfl (aI rfl rfl rfl ?_) ?_; focus (omega))
     refine Km I (Nn ?_)
     exact WX.loop ⟨k + 1, some g71.b, g71.cap, g71.spare⟩ (by show 8 - (k + 1) < 8 - k; omega) (by repeat (first | exact S0 _ | refine Sc rfl ?_)) (fun w' h => ⟨⟨by show k + 1 ≤ 8; omega, .inr ⟨_, rfl⟩, by have := hg71.2; show g71.cap = _; omega⟩, by rw [mb x k (by omega), Ch]; exact h.sub (Cz _ _) (fun _ h => h)⟩)
    ·(try simp only [sB] at hc56)
     refine Cx (Xc (Xc (Xe ?_)))
     obtain rfl : k = 8 := by omega
     obtain ⟨b9, rfl⟩ : ∃ b, ob = some b := by rcases hob with h | h; omega; exact h
     rw [Aw (by omega)]
     refine Xa (Cq (Cg (Km I ?_)))
     refine Kq I (b2s (l := j8 x) I I (by first | exact .here | exact .t1 | exact .t2 | exact .t3 | exact .t4 | exact .t5 | exact .t6 | exact .t7) aC u5 u9 ?_ ?_) ?_
     ·simp [eF, hx]
     ·simp [eF, hx]
     refine Ka I (Nn (Xa (Ce ?_)))
     refine WX.ret1 I I fun w' hS => ⟨by rw [hfin], hS.below⟩
theorem dU (l : List UInt8) : (sha l).length = 32 := by
 have : ∀ (n : Nat) (x : List W) (m : List UInt8), x.length = 8 → (fY n x m).length = 8 := by
  intro n
  induction n with
  | zero => intro x m h; exact h
  | succ n ih => intro x m h; exact ih _ _ (dE _ _ h)
 rw [sha, eF, this _ _ _ rfl]
theorem mq (key : List UInt8) : (bW key).length ≤ 64 := by
 unfold bW; split
 ·rw [dU]; omega
 ·omega
theorem uo (x : W) (n : Nat) (h0 : 0 < n) (h : n < 32) (w : World) : Cw 268 #[u32 x, .int .i64 (n : Int)] w (u32 (rr x n)) := by
 refine enter (S := St (fun _ => True) w [] []) (L := [(0, u32 x), (1, .int .i64 (n : Int))]) Tryz.func268 rfl Tryz.ntmps268 rfl (Ac rfl (Ac rfl (An _))) (St.start (fun _ _ => trivial) (by simp)) ?_
 refine Cq (Cg (Ka I (Nn (Xa (Cq (WC.mix [0, 0, 0, 0, 0, 0, 0, 0, 0] (by kernel_rfl) (by kernel_rfl) (fun w h => h.draw) ?_))))))
 refine WM.r I I I (Rm I I) ?_
 refine WM.r I I I (Rm I I) ?_
 refine WM.r I I I (gm I I I ?_) ?_
 ·first | decide | omega
 refine WM.set 7 I (v' := u32 (x >>> n)) (congrArg (Value.int .u32) (by rw [Ah, show min n IntKind.u32.bits = n by simp [IntKind.bits]; omega, t8])) ?_
 refine WM.r I I I (Rm I I) ?_
 refine WM.r I I I (Rm I I) ?_
 first
  | (refine WM.r rfl rfl rfl (dd rfl rfl rfl ?_) ?_; focus (omega))
  | (refine WM.r rfl rfl rfl (ay rfl rfl rfl ?_) ?_; focus (omega))
 refine WM.r I I I (fM I I I ?_) ?_
 ·first | decide | omega
 refine WM.set 11 I (v' := u32 (x <<< (32 - n))) (congrArg (Value.int .u32) (by rw [Ah, show min (32 - n) IntKind.u32.bits = 32 - n by simp [IntKind.bits], og _ _ (by omega)])) ?_
 refine WM.r I I I (zk I I I) ?_
 refine WM.r I I I (Ra I I) ?_
 refine WM.nil ?_
 refine Xa (Ce ?_)
 exact WX.ret1 rfl rfl fun w' hS => ⟨rfl, hS.below⟩
theorem cj (x : W) (n : Nat) (h0 : 0 < n) (h : n < 32) (w : World) : Cw 268 #[u32 x, .int .i64 (@OfNat.ofNat Int n instOfNat)] w (u32 (rr x n)) := uo x n h0 h w
theorem ss (ok : Nat → Prop) (w : World) (hok : ∀ b, w.heap.size ≤ b → ok b) : Calls Tryz.prog 267 #[] w fun e w' => ∃ b : Nat, e = .returned (.slice (some ⟨b, 0, none⟩) 64 64) ∧ Below w.heap.size w w' ∧ ∀ x ∈ [Fact.sl (some ⟨b, 0, none⟩) (KK.map u32)], x.holds ok w' := by
 refine enter (S := St ok w [] []) (L := []) Tryz.func267 rfl Tryz.ntmps267 rfl (An _) (St.start hok (by simp)) ?_
 refine Cq (Cg (Ka I (Nn (Xa (Cq (Cg (Kh I (qV I I dJ (cs := KK.map u32) (fun w => by kernel_rfl)) ?_)))))))
 intro b1
 refine Ka I (Nn (Xa (Ce ?_)))
 refine WX.ret1 I I fun w' hS => ⟨b1, rfl, hS.below, ?_⟩
 have h2 := (fm (sp := []) (by rw [Bd]; exact hS) : St ok w [] [Fact.sl (some ⟨b1, 0, none⟩) (KK.map u32)] w')
 intro x hx; simp only [D3] at hx; subst hx; exact Fact.mono _ (fun _ hb => hb.1) (h2.holds (k := 0) rfl)
theorem sW (M q : Nat) (hq : q ≤ 7) : (f8 M).drop (7 - q) = aR M q :: (f8 M).drop (8 - q) := by
 have : q = 0 ∨ q = 1 ∨ q = 2 ∨ q = 3 ∨ q = 4 ∨ q = 5 ∨ q = 6 ∨ q = 7 := by omega
 rcases this with rfl | rfl | rfl | rfl | rfl | rfl | rfl | rfl <;> rfl
theorem uX (M q : Nat) (hq : q ≤ 7) : ((List.replicate (8 - q) 0 ++ (f8 M).drop (8 - q)).map B).set (7 - q) (B (aR M q)) = (List.replicate (8 - (q + 1)) 0 ++ (f8 M).drop (8 - (q + 1))).map B := by
 rw [← List.map_set]
 congr 1
 rw [show 8 - (q + 1) = 7 - q by omega, sW M q hq, show 8 - q = (7 - q) + 1 by omega, List.replicate_succ', B2, C0 _ _ (by simp)]
 simp
theorem vR (M q : Nat) : ((M / 256 ^ q % 256 : Nat) : Int) = ((aR M q).toNat : Int) := by
 rw [aR, UInt8.toNat_ofNat', show (2 : Nat) ^ (8 * q) = 256 ^ q by rw [Dm]]
 omega
theorem sP (l : List UInt8) (hl : l.length ≤ 1000000) (w : World) :
  Cw 258 #[.string (S l)] w (.string (S (pad l))) := by
 have hz : bZ l.length = (119 - l.length % 64) % 64 := rfl
 refine enter (S := St (fun _ => True) w [] []) (L := [(0, .string (S l))]) Tryz.func258 rfl Tryz.ntmps258 rfl (Ac rfl (An _)) (St.start (fun _ _ => trivial) (by simp)) ?_
 refine Cq (Cg (Ka I (Nn (Xa (Cq (Cg (Km I (Yn I u9 (Ka I (Nn (Xa (Cq (Cg (Km I (Kq I (bI (b := [128]) I I I (by simp; omega)) ?_)))))))))))))))
 refine Ka I (Nn (Xa (Cq (Cb (WC.loop (σ := Nat) (fun j => [(0, .string (S (l ++ [128] ++ List.replicate j 0))), (3, .int .i64 (l.length : Int))]) (fun j w' => j ≤ bZ l.length ∧ St (fun _ => True) w [] [] w') (fun j => bZ l.length - j) 0 (by repeat (first | exact S0 _ | refine Sc (by simp; rfl) ?_ | refine Sc rfl ?_)) (fun w' h => ⟨by omega, h⟩) ?_)))))
 intro j; refine WC.pu ?_; intro hj
 have hlen : (l ++ [128] ++ List.replicate j 0).length = l.length + 1 + j := by simp; omega
 refine Cq (Cq (Cg (Km I (Yn I u9 ?_))))
 first
  | (refine Kq rfl (bN rfl rfl rfl ?_) ?_; focus (omega))
  | (refine Kq rfl (oC rfl rfl rfl ?_) ?_; focus (omega))
 refine Yj I (Nn (Xa (Ci I (fun hc14 => ?_) (fun hc14 => ?_))))
 ·refine Ck (Xa (Cb (Cg (Km I (Kq I (bI (b := [0]) I I I (by rw [hlen]; simp; omega)) ?_)))))
  refine Ka I (Nn (Xd ?_))
  exact WX.loop (j + 1) (by omega) (by repeat (first | exact S0 _ | refine Sc rfl ?_ | refine Sc (by rw [List.replicate_succ', ← B2]; rfl) ?_)) (fun w' h => ⟨by omega, h⟩)
 ·refine Cx (Xc (Xc (Xe ?_)))
  obtain rfl : j = bZ l.length := by omega
  refine Xa (Cq (Cg (Kh I (dL I I I aC (by kernel_rfl : _ = some (some (.int .u8 0), 1, 1)) I ?_ (by (try simp only [Ah, A1, Az, A6, Bw, Int.reduceToNat, Nat.reduceAdd, Nat.reduceMul, Nat.reduceSub, Bx]); rfl) (by (try simp only [Ah, A1, Az, A6, Bw, Int.reduceToNat, Nat.reduceAdd, Nat.reduceMul, Nat.reduceSub, Bx]); rfl)) ?_)))
  ·decide
  intro b17
  refine Ka I (Nn (Xa (Cq (Cg (Km I (Kq I (aK I I u3 u76) (Kq I (jp I I I) (Ns 20 I (v' := .int .u64 ((8 * l.length / 256 ^ 0 : Nat) : Int)) (congrArg (Value.int .u64) (by rw [IntKind.wrap_u64, IntKind.wrap_u64, B0, Dh]; omega)) ?_))))))))
  refine Ka I (Nn (Xa (Cq (Cq (Cg (Ka I (Nn (Xa (Cb (WC.loop (σ := Nat) (fun q => [(0, .string (S (l ++ [128] ++ List.replicate (bZ l.length) 0))), (4, .slice (some ⟨b17, 0, none⟩) 8 8), (5, .int .u64 ((8 * l.length / 256 ^ q : Nat) : Int)), (6, .int .i64 (7 - (q : Int)))]) (fun q w' => q ≤ 8 ∧ St (fun _ => True) w [⟨some b17, (List.replicate (8 - q) 0 ++ (f8 (8 * l.length)).drop (8 - q)).map B, 5⟩] [] w') (fun q => 8 - q) 0 (by repeat (first | exact S0 _ | refine Sc rfl ?_)) (fun w' h => ⟨by omega, h⟩) ?_))))))))))
  intro q; refine WC.pu ?_; intro hq
  have hdv : 8 * l.length / 256 ^ q ≤ 8 * l.length := Bz _ _
  refine Cq (Cq (Cg (Km I (Yh I (Nn (Xa (Ci I (fun hc22 => ?_) (fun hc22 => ?_))))))))
  ·refine Ck (Xa (Cq (Cb (Cq (Cg (Km I (Km I (Km I (Kq I (nf I I I (by decide)) (Kq I (aK I I u76 u5) (Ns 29 I (v' := B (aR (8 * l.length) q)) (congrArg (Value.int .u8) (by rw [vR, IntWalk.u8_in _ (by have := (aR (8 * l.length) q).toNat_lt; omega)])) ?_))))))))))); refine Kq I (yn I I I aC (by kernel_rfl : _ = some 1) (by omega) (q := 7 - q) (by omega)) ?_; refine Ng I I (st I I I .tc (by kernel_rfl) I ?_ I) ?_
   ·simp [f8]; omega
   intro _; refine Nn (Xa (Cg (Km I (Kq I (qJ I I I (by decide) ?_) ?_))))
   ·(have h9 := hdv; generalize 8 * l.length / 256 ^ q = z at h9 ⊢; exact IntWalk.u64_in _ ⟨by omega, by omega⟩)
   refine Ns 32 I (v' := .int .u64 ((8 * l.length / 256 ^ (q + 1) : Nat) : Int)) (by rw [Au, ← A3]) ?_; refine Ka I (Nn (Xd (Xa (Cg (Km I ?_)))))
   first
    | (refine Kq rfl (ar rfl rfl rfl ?_) ?_; focus (omega))
    | (refine Kq rfl (ay rfl rfl rfl ?_) ?_; focus (omega))
   refine Ka I (Nn ?_); exact WX.loop (q + 1) (by omega) (by repeat (first | exact S0 _ | refine Sc rfl ?_ | refine Sc (by show some (Value.int _ _) = some (Value.int _ _); congr 2; omega) ?_)) (fun w' h => ⟨by omega, by rw [uX (8 * l.length) q (by omega)] at h; exact h⟩)
  ·refine Cx (Xc (Xc (Xe ?_))); obtain rfl : q = 8 := by omega
   refine Xa (Cq (Cg (Km I (Km I (Kq I (b2s (l := f8 (8 * l.length)) I I .tc aC u5 u9 ?_ ?_) ?_)))))
   ·rfl
   ·rfl
   refine Kq I (bI I I I ?_) ?_
   ·simp [f8]; omega
   refine Ka I (Nn (Xa (Ce ?_))); exact WX.ret1 I I fun w' hS => ⟨rfl, hS.below⟩
theorem sm (bs : List UInt8) (hbs : bs.length = 64) (ok : Nat → Prop) (w : World) (hok : ∀ b, w.heap.size ≤ b → ok b) :
  Calls Tryz.prog 266 #[.string (S bs)] w fun e w' => ∃ b : Nat, e = .returned (.slice (some ⟨b, 0, none⟩) 64 64) ∧ Below w.heap.size w w' ∧ ∀ x ∈ [Fact.sl (some ⟨b, 0, none⟩) ((bL 48 (a7 bs)).map u32)], x.holds ok w' := by
 have hwl := fi 16 bs hbs
 refine enter (S := St ok w [] []) (L := [(0, .string (S bs))]) Tryz.func266 rfl Tryz.ntmps266 rfl (Ac rfl (An _)) (St.start hok (by simp)) ?_
 refine Cq (Cg (Ka I (Nn (Xa (Cq (Cg (Kh I (dL I I I dJ (by kernel_rfl : _ = some (some (.int .u32 0), 1, 4)) I ?_ (by (try simp only [Ah, A1, Az, A6, Bw, Int.reduceToNat, Nat.reduceAdd, Nat.reduceMul, Nat.reduceSub, Bx]); rfl) (by (try simp only [Ah, A1, Az, A6, Bw, Int.reduceToNat, Nat.reduceAdd, Nat.reduceMul, Nat.reduceSub, Bx]); rfl)) ?_)))))))
 ·decide
 intro b11
 refine Ka I (Nn (Xa (Cq (Cq (Cg (Ka I (Nn (Xa (Cb (WC.loop (σ := Nat) (fun k => [(0, .string (S bs)), (3, .slice (some ⟨b11, 0, none⟩) 64 64), (4, .int .i64 (k : Int))]) (fun k w' => k ≤ 16 ∧ St ok w [⟨some b11, ((a7 bs).take k).map u32 ++ List.replicate (64 - k) (u32 0), 249⟩] [] w') (fun k => 16 - k) 0 (by repeat (first | exact S0 _ | refine Sc rfl ?_)) (fun w' h => ⟨by omega, h⟩) ?_))))))))))
 intro k; refine WC.pu ?_; intro hk
 refine Cq (Cq (Cg (Km I (Yl I (Nn (Xa (Ci I (fun hc13 => ?_) (fun hc13 => ?_))))))))
 ·obtain ⟨c0, hc0⟩ : ∃ c, bs[4 * k]? = some c := ⟨_, Ad (by omega)⟩
  obtain ⟨c1, hc1⟩ : ∃ c, bs[4 * k + 1]? = some c := ⟨_, Ad (by omega)⟩
  obtain ⟨c2, hc2⟩ : ∃ c, bs[4 * k + 2]? = some c := ⟨_, Ad (by omega)⟩
  obtain ⟨c3, hc3⟩ : ∃ c, bs[4 * k + 3]? = some c := ⟨_, Ad (by omega)⟩
  have hwk := jk k bs c0 c1 c2 c3 hc0 hc1 hc2 hc3
  refine Ck (Xa (Cq (Cb (Cq (Cg (Ka I (Nn (Xa (Cb (WC.loop (σ := Nat) (fun j => [(0, .string (S bs)), (3, .slice (some ⟨b11, 0, none⟩) 64 64), (4, .int .i64 (k : Int)), (5, .int .i64 (j : Int))]) (fun j w' => j ≤ 4 ∧ St ok w [⟨some b11, (((a7 bs).take k).map u32 ++ List.replicate (64 - k) (u32 0)).set k (u32 (jU c0 c1 c2 c3 j)), 249⟩] [] w') (fun j => 4 - j) 0 (by repeat (first | exact S0 _ | refine Sc rfl ?_)) (fun w' h => ⟨by omega, by rw [show jU c0 c1 c2 c3 0 = 0 from rfl, si (a7 bs) hwl k (by omega)]; exact h⟩) ?_))))))))))
  intro j; refine WC.pu ?_; intro hj
  refine Cq (Cq (Cg (Km I (Yl I (Nn (Xa (Ci I (fun hc17 => ?_) (fun hc17 => ?_))))))))
  ·have hcj : bs[4 * k + j]? = some (oK c0 c1 c2 c3 j) := by
    have : j = 0 ∨ j = 1 ∨ j = 2 ∨ j = 3 := by omega
    rcases this with rfl | rfl | rfl | rfl
    ·exact hc0
    ·exact hc1
    ·exact hc2
    ·exact hc3
   refine Ck (Xa (Cq (Cb (WC.mix [0, 0, 0, 0, 0, 0, 0, 0, 0, 0, 0, 0, 0, 0, 0, 0, 2] (by kernel_rfl) (by kernel_rfl) (fun w h => h.draw) ?_)))); refine WM.r I I I (Rm I I) ?_; refine WM.r I I I (Rm I I) ?_; refine WM.r I I I (Rm I I) ?_; refine WM.r I I I (Rm I I) ?_; refine WM.r I I I (Ja I I I dJ (by kernel_rfl : _ = some 1) ?_) ?_
   ·omega
   refine WM.r I I I (ld I I .tc bt I (by rw [C6 (by simp; omega)])) ?_; refine WM.r I I I (jp I I I) ?_; refine WM.set 26 I (v' := u32 (jU c0 c1 c2 c3 j * 256)) (congrArg (Value.int .u32) (BC _ 256)) ?_; refine WM.r I I I (Rm I I) ?_; refine WM.r I I I (Rm I I) ?_
   first
    | (refine WM.r rfl rfl rfl (cw rfl rfl rfl ?_) ?_; focus (omega))
    | (refine WM.r rfl rfl rfl (iM rfl rfl rfl ?_) ?_; focus (omega))
   refine WM.r I I I (Rm I I) ?_
   first
    | (refine WM.r rfl rfl rfl (az rfl rfl rfl ?_) ?_; focus (omega))
    | (refine WM.r rfl rfl rfl (aI rfl rfl rfl ?_) ?_; focus (omega))
   refine WM.r I I I (na I I I u9 ?_ (by rw [Ah]; exact hcj)) ?_
   ·omega
   refine WM.r I I I (aK I I u5 bt) ?_; refine WM.set 33 I (v' := u32 (BitVec.ofNat 32 (oK c0 c1 c2 c3 j).toNat)) (congrArg (Value.int .u32) (tL _)) ?_; refine WM.r I I I (aW I I I) ?_; refine WM.r I I I (Ja I I I dJ (by kernel_rfl : _ = some 1) ?_) ?_
   ·omega
   refine WM.h0 I I (st I I I .tc (by kernel_rfl) I ?_ I) ?_
   ·simp; omega
   intro _; refine WM.nil ?_; refine Xd (Xa (Cg (Km I ?_)))
   first
    | (refine Kq rfl (Rz rfl rfl rfl ?_) ?_; focus (omega))
    | (refine Kq rfl (aI rfl rfl rfl ?_) ?_; focus (omega))
   refine Ka I (Nn ?_); exact WX.loop (j + 1) (by omega) (by repeat (first | exact S0 _ | refine Sc rfl ?_)) (fun w' h => ⟨by omega, by rw [List.set_set] at h; rw [pQ c0 c1 c2 c3 j (by omega)]; exact h⟩)
  ·refine Cx (Xc (Xc (Xe ?_))); obtain rfl : j = 4 := by omega
   refine Xd (Xa (Cg (Km I ?_)))
   first
    | (refine Kq rfl (Rz rfl rfl rfl ?_) ?_; focus (omega))
    | (refine Kq rfl (aI rfl rfl rfl ?_) ?_; focus (omega))
   refine Ka I (Nn ?_); exact WX.loop (k + 1) (by omega) (by repeat (first | exact S0 _ | refine Sc rfl ?_)) (fun w' h => ⟨by omega, by rw [pP, i1 (a7 bs) u32 (u32 0) 64 k _ (by omega) hwk] at h; exact h⟩)
 ·refine Cx (Xc (Xc (Xe ?_)))
  obtain rfl : k = 16 := by omega
  refine Xa (Cq (Cq (Cg (Ka I (Nn (Xa (Cb (WC.loop (σ := Nat) (fun j => [(3, .slice (some ⟨b11, 0, none⟩) 64 64), (6, .int .i64 ((16 + j : Nat) : Int))]) (fun j w' => j ≤ 48 ∧ St ok w [⟨some b11, (bL j (a7 bs)).map u32 ++ List.replicate (48 - j) (u32 0), 249⟩] [] w') (fun j => 48 - j) 0 (by repeat (first | exact S0 _ | refine Sc rfl ?_)) (fun w' h => ⟨by omega, by rw [Aw (by omega)] at h; exact h⟩) ?_))))))))
  intro j; refine WC.pu ?_; intro hj
  refine Cq (Cq (Cg (Km I (Yl I (Nn (Xa (Ci I (fun hc37 => ?_) (fun hc37 => ?_))))))))
  ·have hsl := cF j (a7 bs); rw [hwl] at hsl; refine Ck (Xa (Cq (Cb (Cq (WC.mix [0, 0, 0, 0, 0, 0, 0, 0, 0, 0, 0, 0] (by kernel_rfl) (by kernel_rfl) (fun w h => h.draw) ?_))))); refine WM.r I I I (Rm I I) ?_; refine WM.r I I I (Rm I I) ?_
   first
    | (refine WM.r rfl rfl rfl (ar rfl rfl rfl ?_) ?_; focus (omega))
    | (refine WM.r rfl rfl rfl (ay rfl rfl rfl ?_) ?_; focus (omega))
   refine WM.r I I I (Ja I I I dJ (by kernel_rfl : _ = some 1) ?_) ?_
   ·omega
   refine WM.r I I I (ld I I .tc bt I (by exact dz _ u32 _ _ _ (aX (bL j (a7 bs)) _ 0 (by omega)))) ?_; refine WM.r I I I (Rm I I) ?_; refine WM.r I I I (Rm I I) ?_
   first
    | (refine WM.r rfl rfl rfl (ar rfl rfl rfl ?_) ?_; focus (omega))
    | (refine WM.r rfl rfl rfl (ay rfl rfl rfl ?_) ?_; focus (omega))
   refine WM.r I I I (Ja I I I dJ (by kernel_rfl : _ = some 1) ?_) ?_
   ·omega
   refine WM.r I I I (ld I I .tc bt I (by exact dz _ u32 _ _ _ (aX (bL j (a7 bs)) _ 0 (by omega)))) ?_; refine WM.r I I I (Ra I I) ?_; refine WM.r I I I (Ra I I) ?_; refine WM.nil ?_; refine Xa (Cq (Cg (Km I (Ku I (Oc I I (Kv fun w _ => cj _ _ (by decide) (by decide) w)) (Km I (Ku I (Oc I I (Kv fun w _ => cj _ _ (by decide) (by decide) w)) (Kq I (bc I I I) (Km I (Kq I (dX I I I (by decide)) (Kq I (bc I I I) (Ka I (Nn (Xa (Cq (Cg (Km I (Ku I (Oc I I (Kv fun w _ => cj _ _ (by decide) (by decide) w)) (Km I (Ku I (Oc I I (Kv fun w _ => cj _ _ (by decide) (by decide) w)) (Kq I (bc I I I) (Km I (Kq I (dX I I I (by decide)) (Kq I (bc I I I) (Ka I (Nn (Xa (WC.mix [0, 0, 0, 0, 0, 0, 0, 0, 0, 0, 0, 0, 0, 0, 0, 0, 0, 0, 2] (by kernel_rfl) (by kernel_rfl) (fun w h => h.draw) ?_))))))))))))))))))))))))))); refine WM.r I I I (Rm I I) ?_; refine WM.r I I I (Rm I I) ?_; refine WM.r I I I (Rm I I) ?_; refine WM.r I I I (Rm I I) ?_
   first
    | (refine WM.r rfl rfl rfl (ar rfl rfl rfl ?_) ?_; focus (omega))
    | (refine WM.r rfl rfl rfl (ay rfl rfl rfl ?_) ?_; focus (omega))
   refine WM.r I I I (Ja I I I dJ (by kernel_rfl : _ = some 1) ?_) ?_
   ·omega
   refine WM.r I I I (ld I I .tc bt I (by exact dz _ u32 _ _ _ (aX (bL j (a7 bs)) _ 0 (by omega)))) ?_; refine WM.r I I I (Rm I I) ?_; refine WM.r I I I (aW I I I) ?_; refine WM.r I I I (Rm I I) ?_; refine WM.r I I I (Rm I I) ?_
   first
    | (refine WM.r rfl rfl rfl (ar rfl rfl rfl ?_) ?_; focus (omega))
    | (refine WM.r rfl rfl rfl (ay rfl rfl rfl ?_) ?_; focus (omega))
   refine WM.r I I I (Ja I I I dJ (by kernel_rfl : _ = some 1) ?_) ?_
   ·omega
   refine WM.r I I I (ld I I .tc bt I (by exact dz _ u32 _ _ _ (aX (bL j (a7 bs)) _ 0 (by omega)))) ?_; refine WM.r I I I (aW I I I) ?_; refine WM.r I I I (Rm I I) ?_; refine WM.r I I I (aW I I I) ?_; refine WM.set 82 I (v' := u32 (mh (bL j (a7 bs)))) (by unfold mh; rw [hsl]; rfl) ?_; refine WM.r I I I (Ja I I I dJ (by kernel_rfl : _ = some 1) ?_) ?_
   ·omega
   refine WM.h0 I I (st I I I .tc (by kernel_rfl) I ?_ I) ?_
   ·simp [hsl]; omega
   intro _; refine WM.nil ?_; refine Xd (Xa (Cg (Km I ?_)))
   first
    | (refine Kq rfl (Rz rfl rfl rfl ?_) ?_; focus (omega))
    | (refine Kq rfl (aI rfl rfl rfl ?_) ?_; focus (omega))
   refine Ka I (Nn ?_); exact WX.loop (j + 1) (by omega) (by repeat (first | exact S0 _ | refine Sc rfl ?_)) (fun w' h => ⟨by omega, by rw [l0 j (a7 bs) hwl (by omega)] at h; exact h⟩)
  ·refine Cx (Xc (Xc (Xe ?_))); obtain rfl : j = 48 := by omega
   rw [Cc, List.replicate_zero]; refine Xa (Cq (Cg (Km I (Ka I (Nn (Xa (Ce ?_))))))); refine WX.ret1 I I fun w' hS => ⟨b11, rfl, hS.below, ?_⟩
   have h2 := fm hS; intro x hx; simp only [D3] at hx; subst hx; exact Fact.mono _ (fun _ hb => hb.1) (h2.holds (k := 0) rfl)
structure GC where
 k : Nat
 b : Nat
 cap : Nat
 sp : List Value
theorem nr (x0 : List W) (hx0 : x0.length = 8) (bs : List UInt8) (hbs : bs.length = 64) (ad : Option Addr) (cap0 : Nat) (ok : Nat → Prop) (w : World) (hok : ∀ b, w.heap.size ≤ b → ok b) (hf : (Fact.sl ad (x0.map u32)).holds (fun _ => True) w) :
  Calls Tryz.prog 259 #[.slice ad 8 cap0, .string (S bs)] w fun e w' => ∃ g : GC, e = .returned (.slice (some ⟨g.b, 0, none⟩) 8 g.cap) ∧ Below w.heap.size w w' ∧ ∀ x ∈ [Fact.sl (some ⟨g.b, 0, none⟩) ((cY x0 bs).map u32)], x.holds ok w' := by
 obtain ⟨ad, rfl⟩ : ∃ a, ad = some a := by
  rcases hf with h | ⟨b, off, cs, T, fz, h, _⟩
  ·simp at h; subst h; simp at hx0
  ·exact ⟨_, h⟩
 obtain ⟨b0, off0, rfl⟩ : ∃ b0 off0, ad = ⟨b0, off0, none⟩ := by
  rcases hf with h | ⟨b, off, cs, T, fz, h, _⟩
  ·simp at h; subst h; simp at hx0
  ·exact ⟨b, off, Option.some.inj h⟩
 have hwl := fi 16 bs hbs
 have hsl := cF 48 (a7 bs)
 rw [hwl] at hsl
 have hsch := sm bs hbs
 obtain ⟨ws, hws⟩ : ∃ ws, bL 48 (a7 bs) = ws := ⟨_, rfl⟩
 have hcomp : cY x0 bs = ep (cu KK ws 64 x0) x0 := by rw [← hws]; rfl
 rw [hws] at hsl hsch
 rw [hcomp]
 have hkk : KK.length = 64 := rfl
 refine Calls.mono (R := fun e w' => ∃ g : GC, e = .returned (.slice (some ⟨g.b, 0, none⟩) 8 g.cap) ∧ St (fun b => ok b ∨ b < w.heap.size) w [] [Fact.sl (some ⟨g.b, 0, none⟩) ((ep (cu KK ws 64 x0) x0).map u32)] w' ∧ (Fact.sl (some ⟨g.b, 0, none⟩) ((ep (cu KK ws 64 x0) x0).map u32)).holds (fun b => w.heap.size ≤ b) w') ?_ (fun e w' ⟨g, he, hS, hh⟩ => ⟨g, he, hS.below, fun x hx => by simp only [D3] at hx; subst hx; exact Fact.mono _ (fun b hb => hok b hb) hh⟩)
 refine enter (S := St (fun b => ok b ∨ b < w.heap.size) w [] [Fact.sl (some ⟨b0, off0, none⟩) (x0.map u32)]) (L := [(0, .slice (some ⟨b0, off0, none⟩) 8 cap0), (1, .string (S bs))]) Tryz.func259 rfl Tryz.ntmps259 rfl (Ac rfl (Ac rfl (An _))) (St.start (fun b hb => .inl (hok b hb)) (by intro f hf'; simp only [D3] at hf'; subst hf'; exact Fact.mono _ (fun b hb => .inr hb.2) (Fact.here _ hf))) ?_
 refine Cq (Cg (Ka I (Nn (Xa (Cq (Cg (Km I ?_)))))))
 refine Kh I (Oc I I (jz (F := fun b : Nat => [Fact.sl (some ⟨b, 0, none⟩) (ws.map u32)]) fun w hS => hsch _ w hS.fresh)) ?_
 intro bw
 refine Kh I (Oc I I (jz (F := fun b : Nat => [Fact.sl (some ⟨b, 0, none⟩) (KK.map u32)]) fun w hS => ss _ w hS.fresh)) ?_
 intro bk
 refine Ka I (Ka I (Nn (Xa (Cq (Cg ?_)))))
 refine Kh I (aQ I I dJ (by kernel_rfl : _ = some (some (.int .u32 0), 1, 4)) I (by simp only [List.map]; rfl) I I ?_ (by decide)) ?_
 ·simp
 intro b21
 refine Km I ?_
 refine WL.st (S' := St (fun b => ok b ∨ b < w.heap.size) w [⟨some b21, [] ++ [], 249⟩] [Fact.sl (some ⟨bk, 0, none⟩) (KK.map u32), Fact.sl (some ⟨bw, 0, none⟩) (ws.map u32), Fact.sl (some ⟨b0, off0, none⟩) (x0.map u32)]) (fun _ h => h) ?_
 refine Kh I (DO I dJ (by kernel_rfl : _ = some (some (.int .u32 0), 1, 4)) I (ob := some b21) .here (by rfl) (by rfl) (fun w hS => hS.holds_any (k := 2) I) (by simp [hx0]) (by simp) (eQ _)) ?_
 intro g23
 refine WL.pu ?_
 intro hg23
 refine Ka I (Nn (Xa (Cq (Cq (Cg (Ka I (Nn (Xa (Cb ?_)))))))))
 refine WC.loop (σ := GC) (fun g => [(0, .slice (some ⟨b0, off0, none⟩) 8 cap0), (5, .slice (some ⟨bw, 0, none⟩) 64 64), (6, .slice (some ⟨bk, 0, none⟩) 64 64), (7, .slice (some ⟨g.b, 0, none⟩) 8 g.cap), (8, .int .i64 (g.k : Int))]) (fun g w' => (g.k ≤ 64 ∧ g.cap = 8 + g.sp.length) ∧ St (fun b => ok b ∨ b < w.heap.size) w [⟨some g.b, (cu KK ws g.k x0).map u32 ++ g.sp, 249⟩] [Fact.sl (some ⟨bk, 0, none⟩) (KK.map u32), Fact.sl (some ⟨bw, 0, none⟩) (ws.map u32), Fact.sl (some ⟨b0, off0, none⟩) (x0.map u32)] w') (fun g => 64 - g.k) ⟨0, g23.b, g23.cap, g23.spare⟩ (by repeat (first | exact S0 _ | refine Sc rfl ?_)) (fun w' h => ⟨⟨by simp, by have := hg23.2; show g23.cap = 8 + g23.spare.length; omega⟩, h⟩) ?_
 rintro ⟨k, bv, capv, sp⟩; dsimp only; refine WC.pu ?_; rintro ⟨hk, hcapv⟩
 refine Cq (Cq (Cg (Km I (Yl I (Nn (Xa ?_))))))
 refine Cd I (fun hc25 => ?_) (fun hc25 => ?_)
 ·(try simp only [sB] at hc25)
  obtain ⟨xa, xb, xc, xd, xe, xf, xg, xh, hX⟩ := yy (cu KK ws k x0) (ey _ _ _ _ hx0)
  rw [hX]
  refine Ck (Xa (Cq (Cb (Cq ?_))))
  refine WC.mix [0, 0, 0, 0, 0, 0, 0, 0, 0, 0, 0, 0, 0, 0, 0, 0, 0, 0, 0, 0, 0, 0, 0, 0] (by kernel_rfl) (by kernel_rfl) (fun w h => h.draw) ?_
  refine WM.r I I I (Rm I I) ?_
  refine WM.r I I I (Ja I I I dJ (by kernel_rfl : _ = some 1) ?_) ?_
  ·omega
  refine WM.r I I I (ld I I (by first | exact .here | exact .t1 | exact .t2 | exact .t3 | exact .t4 | exact .t5 | exact .t6 | exact .t7) bt I (by rfl)) ?_
  refine WM.r I I I (Rm I I) ?_
  refine WM.r I I I (Ja I I I dJ (by kernel_rfl : _ = some 1) ?_) ?_
  ·omega
  refine WM.r I I I (ld I I (by first | exact .here | exact .t1 | exact .t2 | exact .t3 | exact .t4 | exact .t5 | exact .t6 | exact .t7) bt I (by rfl)) ?_
  refine WM.r I I I (Rm I I) ?_
  refine WM.r I I I (Ja I I I dJ (by kernel_rfl : _ = some 1) ?_) ?_
  ·omega
  refine WM.r I I I (ld I I (by first | exact .here | exact .t1 | exact .t2 | exact .t3 | exact .t4 | exact .t5 | exact .t6 | exact .t7) bt I (by rfl)) ?_
  refine WM.r I I I (Rm I I) ?_
  refine WM.r I I I (Ja I I I dJ (by kernel_rfl : _ = some 1) ?_) ?_
  ·omega
  refine WM.r I I I (ld I I (by first | exact .here | exact .t1 | exact .t2 | exact .t3 | exact .t4 | exact .t5 | exact .t6 | exact .t7) bt I (by rfl)) ?_
  refine WM.r I I I (Rm I I) ?_
  refine WM.r I I I (Ja I I I dJ (by kernel_rfl : _ = some 1) ?_) ?_
  ·omega
  refine WM.r I I I (ld I I (by first | exact .here | exact .t1 | exact .t2 | exact .t3 | exact .t4 | exact .t5 | exact .t6 | exact .t7) bt I (by rfl)) ?_
  refine WM.r I I I (Rm I I) ?_
  refine WM.r I I I (Ja I I I dJ (by kernel_rfl : _ = some 1) ?_) ?_
  ·omega
  refine WM.r I I I (ld I I (by first | exact .here | exact .t1 | exact .t2 | exact .t3 | exact .t4 | exact .t5 | exact .t6 | exact .t7) bt I (by rfl)) ?_
  refine WM.r I I I (Ra I I) ?_
  refine WM.r I I I (Ra I I) ?_
  refine WM.r I I I (Ra I I) ?_
  refine WM.r I I I (Ra I I) ?_
  refine WM.r I I I (Ra I I) ?_
  refine WM.r I I I (Ra I I) ?_
  refine WM.nil ?_
  refine Xa (Cq ?_)
  refine WC.mix [0, 0, 0, 0, 1, 0, 1, 0, 0, 1, 0, 0, 0, 0, 0, 0, 0, 0, 0, 0, 0, 0, 0, 0, 0, 0, 0, 0, 0, 0, 0, 0] (by kernel_rfl) (by kernel_rfl) (fun w h => h.draw) ?_
  refine WM.r I I I (Rm I I) ?_
  refine WM.r I I I (Ja I I I dJ (by kernel_rfl : _ = some 1) ?_) ?_
  ·omega
  refine WM.r I I I (ld I I (by first | exact .here | exact .t1 | exact .t2 | exact .t3 | exact .t4 | exact .t5 | exact .t6 | exact .t7) bt I (by rfl)) ?_
  refine WM.r I I I (Rm I I) ?_
  refine WM.g I I I (Oc I I (Kv fun w _ => cj _ _ (by decide) (by decide) w)) (fun _ _ h => by first | exact h | exact ⟨_, h⟩ | exact ⟨_, h.2⟩ | exact h.2 | exact h.sub (by repeat (first | exact Ar _ | apply List.Sublist.cons)) (fun _ h => by simp [*]) | exact h.2.sub (by repeat (first | exact Ar _ | apply List.Sublist.cons)) (fun _ h => by simp [*])) ?_
  intro _
  refine WM.r I I I (Rm I I) ?_
  refine WM.g I I I (Oc I I (Kv fun w _ => cj _ _ (by decide) (by decide) w)) (fun _ _ h => by first | exact h | exact ⟨_, h⟩ | exact ⟨_, h.2⟩ | exact h.2 | exact h.sub (by repeat (first | exact Ar _ | apply List.Sublist.cons)) (fun _ h => by simp [*]) | exact h.2.sub (by repeat (first | exact Ar _ | apply List.Sublist.cons)) (fun _ h => by simp [*])) ?_
  intro _
  refine WM.r I I I (bc I I I) ?_
  refine WM.r I I I (Rm I I) ?_
  refine WM.g I I I (Oc I I (Kv fun w _ => cj _ _ (by decide) (by decide) w)) (fun _ _ h => by first | exact h | exact ⟨_, h⟩ | exact ⟨_, h.2⟩ | exact h.2 | exact h.sub (by repeat (first | exact Ar _ | apply List.Sublist.cons)) (fun _ h => by simp [*]) | exact h.2.sub (by repeat (first | exact Ar _ | apply List.Sublist.cons)) (fun _ h => by simp [*])) ?_
  intro _
  refine WM.r I I I (bc I I I) ?_
  refine WM.r I I I (aW I I I) ?_
  refine WM.r I I I (Rm I I) ?_
  refine WM.r I I I (Rm I I) ?_
  refine WM.r I I I (dY I I I) ?_
  refine WM.r I I I (Rm I I) ?_
  refine WM.r I I I (qK I I) ?_
  refine WM.r I I I (Rm I I) ?_
  refine WM.r I I I (dY I I I) ?_
  refine WM.r I I I (bc I I I) ?_
  refine WM.r I I I (aW I I I) ?_
  refine WM.r I I I (Rm I I) ?_
  refine WM.r I I I (Rm I I) ?_
  refine WM.r I I I (Ja I I I dJ (by kernel_rfl : _ = some 1) ?_) ?_
  ·omega
  refine WM.r I I I (ldf I I (by first | exact .here | exact .t1 | exact .t2 | exact .t3 | exact .t4 | exact .t5 | exact .t6 | exact .t7) bt I (m := k) (by omega) (by rw [A8, aX KK k 0 (by omega)]; rfl)) ?_
  refine WM.r I I I (aW I I I) ?_
  refine WM.r I I I (Rm I I) ?_
  refine WM.r I I I (Rm I I) ?_
  refine WM.r I I I (Ja I I I dJ (by kernel_rfl : _ = some 1) ?_) ?_
  ·omega
  refine WM.r I I I (ldf I I (by first | exact .here | exact .t1 | exact .t2 | exact .t3 | exact .t4 | exact .t5 | exact .t6 | exact .t7) bt I (m := k) (by omega) (by rw [A8, aX ws k 0 (by omega)]; rfl)) ?_
  refine WM.r I I I (aW I I I) ?_
  refine WM.r I I I (Ra I I) ?_
  refine WM.nil ?_
  refine Xa (Cq (Cg (Km I ?_)))
  refine Ku I (Oc I I (Kv fun w _ => cj _ _ (by decide) (by decide) w)) ?_
  refine Km I ?_
  refine Ku I (Oc I I (Kv fun w _ => cj _ _ (by decide) (by decide) w)) ?_
  refine Kq I (bc I I I) (Km I ?_)
  refine Ku I (Oc I I (Kv fun w _ => cj _ _ (by decide) (by decide) w)) ?_
  refine Kq I (bc I I I) (Km I (Km I (Kq I (dY I I I) (Km I (Km I (Kq I (dY I I I) (Kq I (bc I I I) (Km I (Km I (Kq I (dY I I I) (Kq I (bc I I I) (Kq I (aW I I I) (Ka I (Nn (Xa (Cg (Km I (Km I (Kq I (aW I I I) (Km I (Km I (Km I (Km I ?_)))))))))))))))))))))))
  refine Kq I (Ja I I I dJ (by kernel_rfl : _ = some 1) ?_) ?_
  ·omega
  refine Kq I (ld I I (by first | exact .here | exact .t1 | exact .t2 | exact .t3 | exact .t4 | exact .t5 | exact .t6 | exact .t7) bt I (by rfl)) ?_
  refine Km I (Kq I (aW I I I) (Km I (Km I (Km I ?_))))
  refine Kh I (aQ I I dJ (by kernel_rfl : _ = some (some (.int .u32 0), 1, 4)) I (by simp only [List.map]; rfl) I I ?_ (by decide)) ?_
  ·simp [u32, Value.cells]
  intro b111
  refine Ka I (Nn (Xd (Xa (Cg (Km I ?_)))))
  first
   | (refine Kq rfl (Rz rfl rfl rfl ?_) ?_; focus (omega))
   | (refine Kq rfl (aI rfl rfl rfl ?_) ?_; focus (omega))
  refine Ka I (Nn ?_)
  exact WX.loop ⟨k + 1, b111, 8, []⟩ (by show 64 - (k + 1) < 64 - k; omega) (by repeat (first | exact S0 _ | refine Sc rfl ?_)) (fun w' h => ⟨⟨by show k + 1 ≤ 64; omega, rfl⟩, by rw [show cu KK ws (k + 1) x0 = rnd (KK.getD k 0) (ws.getD k 0) (cu KK ws k x0) from rfl, hX]; exact h.sub (Dg _ (List.nil_sublist _)) (fun _ h => h)⟩)
 ·(try simp only [sB] at hc25)
  refine Cx (Xc (Xc (Xe ?_)))
  obtain rfl : k = 64 := by omega
  have hrl := ey KK ws 64 x0 hx0
  obtain ⟨X, hX⟩ : ∃ X, cu KK ws 64 x0 = X := ⟨_, rfl⟩
  rw [hX] at hrl ⊢
  have hadl := gO X x0 (by omega)
  refine Xa (Cq (Cq (Cg (Ka I (Nn (Xa (Cb ?_)))))))
  refine WC.loop (σ := Nat) (fun k => [(0, .slice (some ⟨b0, off0, none⟩) 8 cap0), (7, .slice (some ⟨bv, 0, none⟩) 8 capv), (17, .int .i64 (k : Int))]) (fun k w' => k ≤ 8 ∧ St (fun b => ok b ∨ b < w.heap.size) w [⟨some bv, ((ep X x0).take k ++ X.drop k).map u32 ++ sp, 249⟩] [Fact.sl (some ⟨b0, off0, none⟩) (x0.map u32)] w') (fun k => 8 - k) 0 (by repeat (first | exact S0 _ | refine Sc rfl ?_)) (fun w' h => ⟨by omega, h.sub (Ar _) (by simp)⟩) ?_
  intro q; refine WC.pu ?_; intro hq
  refine Cq (Cq (Cg (Km I (Yl I (Nn (Xa ?_))))))
  refine Cd I (fun hc113 => ?_) (fun hc113 => ?_)
  ·(try simp only [sB] at hc113)
   have hXq := aX X q 0 (by omega)
   have hxq := aX x0 q 0 (by omega)
   have hcell : (((ep X x0).take q ++ X.drop q).map u32 ++ sp)[q]? = some (u32 (X.getD q 0)) := dz _ u32 _ _ _ (by rw [List.getElem?_append_right (by simp; omega), Cn, Br, hadl, show q + (q - min q X.length) = q by omega, hXq])
   refine Ck (Xa (Cq (Cb ?_)))
   refine WC.mix [0, 0, 0, 0, 0, 0, 0, 0, 0, 0, 2] (by kernel_rfl) (by kernel_rfl) (fun w h => h.draw) ?_
   refine WM.r I I I (Rm I I) ?_
   refine WM.r I I I (Rm I I) ?_
   refine WM.r I I I (Ja I I I dJ (by kernel_rfl : _ = some 1) ?_) ?_
   ·omega
   refine WM.r I I I (ld I I (by first | exact .here | exact .t1 | exact .t2 | exact .t3 | exact .t4 | exact .t5 | exact .t6 | exact .t7) bt I (by exact hcell)) ?_
   refine WM.r I I I (Rm I I) ?_
   refine WM.r I I I (Rm I I) ?_
   refine WM.r I I I (Ja I I I dJ (by kernel_rfl : _ = some 1) ?_) ?_
   ·omega
   refine WM.r I I I (ldf I I (by first | exact .here | exact .t1 | exact .t2 | exact .t3 | exact .t4 | exact .t5 | exact .t6 | exact .t7) bt I (m := q) (by omega) (by rw [A8, hxq]; rfl)) ?_
   refine WM.r I I I (aW I I I) ?_
   refine WM.r I I I (Ja I I I dJ (by kernel_rfl : _ = some 1) ?_) ?_
   ·omega
   refine WM.h0 I I (st I I I (by first | exact .here | exact .t1 | exact .t2 | exact .t3 | exact .t4 | exact .t5 | exact .t6 | exact .t7) (by kernel_rfl) I ?_ I) ?_
   ·simp; omega
   intro _
   refine WM.nil ?_
   refine Xd (Xa (Cg (Km I ?_)))
   first
    | (refine Kq rfl (Rz rfl rfl rfl ?_) ?_; focus (omega))
    | (refine Kq rfl (aI rfl rfl rfl ?_) ?_; focus (omega))
   refine Ka I (Nn ?_)
   exact WX.loop (q + 1) (by omega) (by repeat (first | exact S0 _ | refine Sc rfl ?_)) (fun w' h => ⟨by omega, by rw [List.set_append_left _ _ (by simp; omega), pf X x0 q _ _ (by omega) hXq hxq] at h; exact h⟩)
  ·(try simp only [sB] at hc113)
   refine Cx (Xc (Xc (Xe ?_)))
   obtain rfl : q = 8 := by omega
   have hfin : (ep X x0).take 8 ++ X.drop 8 = ep X x0 := by rw [Aw (by omega), C7 (by omega), Bd]
   rw [hfin]
   refine Xa (Cq (Cg (Km I (Ka I (Nn (Xa (Ce ?_)))))))
   refine WX.ret1 I I fun w' hS => ⟨⟨0, bv, capv, []⟩, rfl, ?_, ?_⟩
   ·exact (fm hS).sub (Ar _) (by simp)
   ·exact .inr ⟨bv, 0, _, _, (0, 0), rfl, (hS.own_ ⟨some bv, (ep X x0).map u32 ++ sp, 249⟩ (by simp)).1, (hS.own_ ⟨some bv, (ep X x0).map u32 ++ sp, 249⟩ (by simp)).2, fun i hi => by rw [Az, C9, Bp hi]⟩
structure G3r where
 q : Nat
 b : Nat
 cap : Nat
 x : List W
theorem iI (l : List UInt8) (hl : l.length ≤ 1000000) (w : World) :
  Cw 237 #[.string (S l)] w (.string (S (sha l))) := by
 have hz : bZ l.length = (119 - l.length % 64) % 64 := rfl
 have hpl : (pad l).length = l.length + 1 + bZ l.length + 8 := by simp [pad, f8]; omega
 obtain ⟨nb, hnb⟩ := qS l
 obtain ⟨m, hm⟩ : ∃ m, pad l = m := ⟨_, rfl⟩
 have hpad := sP l hl
 rw [hm] at hnb hpl hpad
 refine enter (S := St (fun _ => True) w [] []) (L := [(0, .string (S l))]) Tryz.func237 rfl Tryz.ntmps237 rfl (Ac rfl (An _)) (St.start (fun _ _ => trivial) (by simp)) ?_
 refine Cq (Cg (Ka I (Nn (Xa (Cq (Cg ?_))))))
 refine Kh I (qV I I dJ (cs := H0.map u32) (fun w => by kernel_rfl)) ?_
 intro b9
 refine WL.st (S' := St (fun _ => True) w [] [Fact.sl (some ⟨b9, 0, none⟩) (H0.map u32)]) (fun _ h => fm (sp := []) (by rw [Bd]; exact h)) ?_
 refine Ka I (Nn (Xa (Cq (Cg (Km I ?_)))))
 refine Ku I (Oc I I (Kv fun w _ => hpad w)) ?_
 refine Ka I (Nn (Xa (Cq (Cq (Cg (Ka I (Nn (Xa (Cb ?_)))))))))
 refine WC.loop (σ := G3r) (fun p => [(3, .slice (some ⟨p.b, 0, none⟩) 8 p.cap), (4, .string (S m)), (5, .int .i64 ((64 * p.q : Nat) : Int))]) (fun p w' => ((p.q ≤ nb ∧ p.x.length = 8) ∧ fY nb H0 m = fY (nb - p.q) p.x (m.drop (64 * p.q))) ∧ St (fun _ => True) w [] [Fact.sl (some ⟨p.b, 0, none⟩) (p.x.map u32)] w') (fun p => nb - p.q) ⟨0, b9, 8, H0⟩ (by repeat (first | exact S0 _ | refine Sc rfl ?_)) (fun w' h => ⟨⟨⟨by simp, rfl⟩, by simp⟩, h⟩) ?_
 rintro ⟨q, bv, capv, x⟩; dsimp only; refine WC.pu ?_; rintro ⟨⟨hq, hx⟩, hch⟩
 refine Cq (Cq (Cg (Km I (Km I (Yn I u9 (Yl I (Nn (Xa ?_))))))))
 refine Cd I (fun hc15 => ?_) (fun hc15 => ?_)
 ·(try simp only [sB] at hc15)
  have hqn : q < nb := by omega
  refine Ck (Xa (Cq (Cb (Cg (Km I (Km I (Km I (Km I ?_))))))))
  first
   | (refine Kq rfl (Rz rfl rfl rfl ?_) ?_; focus (omega))
   | (refine Kq rfl (aI rfl rfl rfl ?_) ?_; focus (omega))
  refine Kq I (qI I I I I u9 ?_) ?_
  ·(try simp only [Ak, Al, Bo]); omega
  refine Ns 23 I (v' := .string (S ((m.drop (64 * q)).take 64))) (by rw [Ah, Ah, show 64 * q + 64 - 64 * q = 64 by omega]) ?_
  refine Kh I (Oc I I (jz (F := fun g : GC => [Fact.sl (some ⟨g.b, 0, none⟩) ((cY x ((m.drop (64 * q)).take 64)).map u32)]) fun w hS => nr x hx ((m.drop (64 * q)).take 64) (by simp; omega) _ _ _ w hS.fresh (hS.holds_any (k := 0) I))) ?_
  intro gc
  refine Ka I (Nn (Xd (Xa (Cg (Km I ?_)))))
  first
   | (refine Kq rfl (Rz rfl rfl rfl ?_) ?_; focus (omega))
   | (refine Kq rfl (aI rfl rfl rfl ?_) ?_; focus (omega))
  refine Ka I (Nn ?_)
  exact WX.loop ⟨q + 1, gc.b, gc.cap, cY x ((m.drop (64 * q)).take 64)⟩ (by show nb - (q + 1) < nb - q; omega) (by repeat (first | exact S0 _ | refine Sc rfl ?_)) (fun w' h => ⟨⟨⟨by show q + 1 ≤ nb; omega, dE _ _ hx⟩, by rw [hch, show nb - q = (nb - (q + 1)) + 1 by omega, j0, List.drop_drop]; congr 1⟩, h.sub (Ar _) (by simp)⟩)
 ·(try simp only [sB] at hc15)
  refine Cx (Xc (Xc (Xe ?_)))
  obtain rfl : q = nb := by omega
  have hfin : sha l = j8 x := by rw [sha, hm, hnb, Db _ (by omega), hch, Cc]; rfl
  refine Xa (Cq (Cg (Ka I (Nn (Xa (Cq (Cq (Cg (Ka I (Nn (Xa (Cb ?_))))))))))))
  refine WC.loop (σ := G4) (fun p => [(3, .slice (some ⟨bv, 0, none⟩) 8 capv), (7, .int .i64 (p.k : Int)), (6, .slice (p.ob.map fun b => ⟨b, 0, none⟩) (4 * p.k) p.cap)]) (fun p w' => (p.k ≤ 8 ∧ (p.k = 0 ∨ ∃ b, p.ob = some b) ∧ p.cap = 4 * p.k + p.spare.length) ∧ St (fun _ => True) w [⟨p.ob, (j8 (x.take p.k)).map B ++ p.spare, 5⟩] [Fact.sl (some ⟨bv, 0, none⟩) (x.map u32)] w') (fun p => 8 - p.k) ⟨0, none, 0, []⟩ (by repeat (first | exact S0 _ | refine Sc rfl ?_)) (fun w' h => ⟨⟨by simp, .inl rfl, rfl⟩, h.nil _⟩) ?_
  rintro ⟨k, ob, cap4, sp4⟩; dsimp only; refine WC.pu ?_; rintro ⟨hk, hob, hcap4⟩
  refine Cq (Cq (Cg (Km I (Yl I (Nn (Xa ?_))))))
  refine Cd I (fun hc26 => ?_) (fun hc26 => ?_)
  ·(try simp only [sB] at hc26)
   refine Ck (Xa (Cq (Cb (Cq (Cg (Km I (Km I ?_)))))))
   refine Kq I (Ja I I I dJ (by kernel_rfl : _ = some 1) ?_) ?_
   ·omega
   refine Kq I (ldf I I (by first | exact .here | exact .t1 | exact .t2 | exact .t3 | exact .t4 | exact .t5 | exact .t6 | exact .t7) bt I (m := k) (by omega) (by rw [A8, aX x _ 0 (by omega)]; rfl)) ?_
   refine Ka I (Nn (Xa (Cg (Km I (Km I (Kq I (dX I I I (by decide)) (Kq I (aK I I bt u5) (Ns 36 I (v' := B (aR (x.getD k 0).toNat 3)) (congrArg (Value.int .u8) (iy (x.getD k 0) 3)) (Km I (Kq I (dX I I I (by decide)) (Kq I (aK I I bt u5) (Ns 39 I (v' := B (aR (x.getD k 0).toNat 2)) (congrArg (Value.int .u8) (iy (x.getD k 0) 2)) (Km I (Kq I (dX I I I (by decide)) (Kq I (aK I I bt u5) (Ns 42 I (v' := B (aR (x.getD k 0).toNat 1)) (congrArg (Value.int .u8) (iy (x.getD k 0) 1)) (Km I (Kq I (aK I I bt u5) ?_))))))))))))))))))
   refine Ns 44 I (v' := B (aR (x.getD k 0).toNat 0)) (congrArg (Value.int .u8) (rG (x.getD k 0))) ?_
   refine Kh I (aQ I I aC (by kernel_rfl : _ = some (some (.int .u8 0), 1, 1)) I (by simp only [List.map]; rfl) I I ?_ (by decide)) ?_
   ·simp [B, Value.cells]
   intro b45
   refine Kh I (app I aC (by kernel_rfl : _ = some (some (.int .u8 0), 1, 1)) I (by first | exact .here | exact .t1 | exact .t2 | exact .t3 | exact .t4 | exact .t5 | exact .t6 | exact .t7) (by rfl) (by rfl) (by first | exact .here | exact .t1 | exact .t2 | exact .t3 | exact .t4 | exact .t5 | exact .t6 | exact .t7) (by rfl) ?_ ?_) ?_
   ·(refine ⟨?_, ?_, ?_, ?_, ?_⟩ <;> (try simp [eF]) <;> omega)
   ·simp [B, Value.oneCell']
   intro g46
   refine WL.pu ?_
   intro hg46
   refine Ka I (Nn (Xd (Xa (Cg (Km I ?_)))))
   first
    | (refine Kq rfl (Rz rfl rfl rfl ?_) ?_; focus (omega))
    | (refine Kq rfl (aI rfl rfl rfl ?_) ?_; focus (omega))
   refine Ka I (Nn ?_)
   exact WX.loop ⟨k + 1, some g46.b, g46.cap, g46.spare⟩ (by show 8 - (k + 1) < 8 - k; omega) (by repeat (first | exact S0 _ | refine Sc rfl ?_)) (fun w' h => ⟨⟨by show k + 1 ≤ 8; omega, .inr ⟨_, rfl⟩, by have := hg46.2; show g46.cap = _; omega⟩, by rw [mb x k (by omega), Ch]; exact h.sub (Cz _ _) (fun _ h => h)⟩)
  ·(try simp only [sB] at hc26)
   refine Cx (Xc (Xc (Xe ?_)))
   obtain rfl : k = 8 := by omega
   obtain ⟨b9', rfl⟩ : ∃ b, ob = some b := by rcases hob with h | h; omega; exact h
   rw [Aw (by omega)]
   refine Xa (Cq (Cg (Km I ?_)))
   refine Kq I (b2s (l := j8 x) I I (by first | exact .here | exact .t1 | exact .t2 | exact .t3 | exact .t4 | exact .t5 | exact .t6 | exact .t7) aC u5 u9 ?_ ?_) ?_
   ·simp [eF, hx]
   ·simp [eF, hx]
   refine Ka I (Nn (Xa (Ce ?_)))
   refine WX.ret1 I I fun w' hS => ⟨by rw [hfin], hS.below⟩
end Go.Proofs.YtkdlonihbjhhoaaGreatDoor
