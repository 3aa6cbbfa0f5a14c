/-
  Parts of the walk: Hash1 Hash2 Hash3 Ref1 Ref2.
-/
import Derived.Test.YtkdlonihbjhhoaaGreatDoorG13
import Derived.Test.YtkdlonihbjhhoaaGreatDoorProg
import Derived.Laws.BitsAllLaws
namespace Go.Proofs.YtkdlonihbjhhoaaGreatDoor
open Go.RowKit
set_option linter.unusedSimpArgs false
set_option linter.unusedVariables false
set_option maxHeartbeats 600000
set_option maxRecDepth 20000
theorem yN (x : W) (n : Nat) (h0 : 0 < n) (h : n < 32) (w : World) : Cw 281 #[u32 x, .int .i64 (0 - (n : Int))] w (u32 (rr x n)) := by
 refine enter (S := St (fun _ => True) w [] []) (L := [(0, u32 x), (1, .int .i64 (0 - (n : Int)))]) Tryz.func281 rfl Tryz.ntmps281 rfl (Ac rfl (Ac rfl (An _))) (St.start (fun _ _ => trivial) (by simp)) ?_
 refine Cq (Cg (Ka I (Nn (Xa (Cq (Cg (Km I (Kq I (aR I I u3 AE) (Kq I (m4 I I I) (Ns 8 I (congrArg (Value.int .u64) (CM n h0 h)) (Ka I (Nn (Xa (Cq (Cg (Km I (Km I (Kq I (jg I I I (by omega)) ?_))))))))))))))))))
 refine Ns 11 I (v' := .int .u32 (IntKind.u32.wrap ((x.toNat : Int) * 2 ^ (32 - n)))) (by congr 3; simp [IntKind.bits]; try omega) ?_
 refine Km I (Km I (Kq I (kF I I I) (Ns 14 I (v' := .int .u64 (n : Int)) (congrArg (Value.int .u64) (by rw [IntKind.wrap_u64]; omega)) ?_)))
 refine Kq I (g5 I I I (by omega)) ?_
 refine Ns 15 I (v' := .int .u32 ((x.toNat : Int).fdiv (2 ^ n))) (by congr 3; simp [IntKind.bits]; try omega) ?_
 refine Kq I (lT I I I) (Ns 16 I (v' := u32 (rr x n)) (congrArg (Value.int .u32) (AK x n h0 h)) (Ka I (Nn (Xa (Ce ?_)))))
 exact WX.ret1 rfl rfl fun w' hS => ⟨rfl, hS.below⟩
theorem vY (x : W) (n : Nat) (h0 : 0 < n) (h : n < 32) (w : World) : Cw 276 #[u32 x, .int .i64 (n : Int)] w (u32 (rr x n)) := by
 refine enter (S := St (fun _ => True) w [] []) (L := [(0, u32 x), (1, .int .i64 (n : Int))]) Tryz.func276 rfl Tryz.ntmps276 rfl (Ac rfl (Ac rfl (An _))) (St.start (fun _ _ => trivial) (by simp)) ?_
 refine Cq (Cg (Ka I (Nn (Xa (Cq (Cg (Km I (Km I (Kq I (n4 I I ?_) ?_)))))))))
 ·omega
 refine Ku I (Oc I I (Kv fun w _ => yN x n h0 h w)) (Ka I (Nn (Xa (Ce ?_))))
 exact WX.ret1 rfl rfl fun w' hS => ⟨rfl, hS.below⟩
theorem cu (x : W) (n : Nat) (h0 : 0 < n) (h : n < 32) (w : World) : Cw 276 #[u32 x, .int .i64 (@OfNat.ofNat Int n instOfNat)] w (u32 (rr x n)) := vY x n h0 h w
theorem rE (j : Nat) (ws : List W) (hw : ws.length = 16) (hj : j < 48) : ((cx j ws).map u32 ++ List.replicate (48 - j) (u32 0)).set (16 + j) (u32 (qx (cx j ws))) = (cx (j + 1) ws).map u32 ++ List.replicate (48 - (j + 1)) (u32 0) := by
 have hl : ((cx j ws).map u32).length = 16 + j := by rw [Ag, dw, hw]
 rw [Dd _ _ (by omega), hl, C0, show 48 - j = (48 - (j + 1)) + 1 by omega, D6]
 simp [cx]
theorem uL (w : World) : Cw 263 #[] w (.agg (H0.map u32).toArray) := by
 refine enter (S := St (fun _ => True) w [] []) (L := []) Tryz.func263 rfl Tryz.ntmps263 rfl (An _) (St.start (fun _ _ => trivial) (by simp)) ?_
 refine Cq (Cg (EQ ?_))
 intro b0
 refine Nn (Xa (Cq (Cg (Kq I (kN I I (v := .agg #[.int .u32 1779033703, .int .u32 3144134277, .int .u32 1013904242, .int .u32 2773480762, .int .u32 1359893119, .int .u32 2600822924, .int .u32 528734635, .int .u32 1541459225]) (fun w => by kernel_rfl)) ?_))))
 refine DQ ?_; refine Nn (Xa (Ce ?_))
 exact WX.ret1c (cs := H0.map u32) rfl rfl .here em rfl (by kernel_rfl) fun w' hS => ⟨rfl, hS.below⟩
theorem nC (w : World) : Cw 274 #[] w (.agg (KK.map u32).toArray) := by
 refine enter (S := St (fun _ => True) w [] []) (L := []) Tryz.func274 rfl Tryz.ntmps274 rfl (An _) (St.start (fun _ _ => trivial) (by simp)) ?_
 refine Cq (Cg (EA ?_))
 intro b0
 refine Nn (Xa (Cq (Cg (Kq I (kN I I (v := .agg #[.int .u32 1116352408, .int .u32 1899447441, .int .u32 3049323471, .int .u32 3921009573, .int .u32 961987163, .int .u32 1508970993, .int .u32 2453635748, .int .u32 2870763221, .int .u32 3624381080, .int .u32 310598401, .int .u32 607225278, .int .u32 1426881987, .int .u32 1925078388, .int .u32 2162078206, .int .u32 2614888103, .int .u32 3248222580, .int .u32 3835390401, .int .u32 4022224774, .int .u32 264347078, .int .u32 604807628, .int .u32 770255983, .int .u32 1249150122, .int .u32 1555081692, .int .u32 1996064986, .int .u32 2554220882, .int .u32 2821834349, .int .u32 2952996808, .int .u32 3210313671, .int .u32 3336571891, .int .u32 3584528711, .int .u32 113926993, .int .u32 338241895, .int .u32 666307205, .int .u32 773529912, .int .u32 1294757372, .int .u32 1396182291, .int .u32 1695183700, .int .u32 1986661051, .int .u32 2177026350, .int .u32 2456956037, .int .u32 2730485921, .int .u32 2820302411, .int .u32 3259730800, .int .u32 3345764771, .int .u32 3516065817, .int .u32 3600352804, .int .u32 4094571909, .int .u32 275423344, .int .u32 430227734, .int .u32 506948616, .int .u32 659060556, .int .u32 883997877, .int .u32 958139571, .int .u32 1322822218, .int .u32 1537002063, .int .u32 1747873779, .int .u32 1955562222, .int .u32 2024104815, .int .u32 2227730452, .int .u32 2361852424, .int .u32 2428436474, .int .u32 2756734187, .int .u32 3204031479, .int .u32 3329325298]) (fun w => by kernel_rfl)) ?_))))
 refine DQ ?_; refine Nn (Xa (Ce ?_))
 exact WX.ret1c (cs := KK.map u32) rfl rfl .here km rfl (by kernel_rfl) fun w' hS => ⟨rfl, hS.below⟩
theorem nU (bs : List UInt8) (hbs : bs.length = 64) (b off cap : Nat) (hcap : 64 ≤ cap) (w : World) (hf : (Fact.sl (some ⟨b, off, none⟩) (bs.map B)).holds (fun _ => True) w) :
  Cw 275 #[.slice (some ⟨b, off, none⟩) 64 cap] w (.agg ((cx 48 (bY bs)).map u32).toArray) := by
 have hwl := jc 16 bs hbs
 refine enter (S := St (fun _ => True) w [] [Fact.sl (some ⟨b, off, none⟩) (bs.map B)]) (L := [(0, .slice (some ⟨b, off, none⟩) 64 cap)]) Tryz.func275 rfl Tryz.ntmps275 rfl (Ac rfl (An _)) (St.start (fun _ _ => trivial) (by simpa using hf)) ?_
 refine Cq (Cg ?_)
 refine EA ?_
 intro b2
 refine Nn (Xa (Cq (Cg ?_)))
 refine EA ?_
 intro b3
 refine Nn (Xa (Cq (Cq (Cg (Km I (Nn (Xa (Cb ?_))))))))
 refine WC.loop (σ := Nat) (fun k => [(0, .slice (some ⟨b, off, none⟩) 64 cap), (2, .pointer (some ⟨b2, 0, none⟩)), (3, .pointer (some ⟨b3, 0, none⟩)), (9, .int .i64 (k : Int))]) (fun k w' => k ≤ 16 ∧ St (fun _ => True) w [⟨some b3, ((bY bs).take k).map u32 ++ List.replicate (64 - k) (u32 0), 284⟩, ⟨some b2, List.replicate 64 (u32 0), 284⟩] [Fact.sl (some ⟨b, off, none⟩) (bs.map B)] w') (fun k => 16 - k) 0 (by repeat (first | exact S0 _ | refine Sc rfl ?_)) (fun w' h => ⟨by omega, h⟩) ?_
 intro k; refine WC.pu ?_; intro hk
 refine Cq (Cg (Yl I (Nn (Xa (Cq ?_)))))
 refine Cd I (fun hc10 => ?_) (fun hc10 => ?_)
 ·(try simp only [sB] at hc10)
  obtain ⟨c0, hc0⟩ : ∃ c, bs[4 * k]? = some c := ⟨_, Ad (by omega)⟩
  obtain ⟨c1, hc1⟩ : ∃ c, bs[4 * k + 1]? = some c := ⟨_, Ad (by omega)⟩
  obtain ⟨c2, hc2⟩ : ∃ c, bs[4 * k + 2]? = some c := ⟨_, Ad (by omega)⟩
  obtain ⟨c3, hc3⟩ : ∃ c, bs[4 * k + 3]? = some c := ⟨_, Ad (by omega)⟩
  refine Ck (Xa (Cq (Cb (Cq (Cg (Km I (Ka I (Nn (Xa (Cq (Cg (Km I (Km I ?_)))))))))))))
  first
   | (refine Kq rfl (bZ rfl rfl rfl ?_) ?_; focus (omega))
   | (refine Kq rfl (kK rfl rfl rfl ?_) ?_; focus (omega))
  refine Km I ?_
  first
   | (refine Kq rfl (bZ rfl rfl rfl ?_) ?_; focus (omega))
   | (refine Kq rfl (kK rfl rfl rfl ?_) ?_; focus (omega))
  first
   | (refine Kq rfl (Rz rfl rfl rfl ?_) ?_; focus (omega))
   | (refine Kq rfl (bf rfl rfl rfl ?_) ?_; focus (omega))
  refine Kq I (wO I I I I aE (by kernel_rfl : _ = some 1) ?_ (by (try simp only [At, A0, Az, Ba, Cc, Int.reduceToNat, Nat.reduceAdd, Nat.reduceMul, Nat.reduceSub, Ch]); rfl) (by (try simp only [At, A0, Az, Ba, Cc, Int.reduceToNat, Nat.reduceAdd, Nat.reduceMul, Nat.reduceSub, Ch]); rfl) (by (try simp only [At, A0, Az, Ba, Cc, Int.reduceToNat, Nat.reduceAdd, Nat.reduceMul, Nat.reduceSub, Ch]); rfl)) ?_
  ·omega
  refine Ka I (Nn (Xa ?_))
  refine WC.mix [0, 0, 0, 0, 0, 0, 0, 0, 0, 0, 0, 0, 0, 0, 0, 0, 0, 0, 0, 0, 0, 0, 0, 0, 2] (by kernel_rfl) (by kernel_rfl) (fun w h => h.draw) ?_
  refine EK ?_
  refine EK ?_
  refine WM.r I I I (Ja I I I aE (by kernel_rfl : _ = some 1) ?_) ?_
  ·omega
  refine WM.r I I I (ldf I I (by first | exact .here | exact .t1 | exact .t2 | exact .t3 | exact .t4 | exact .t5 | exact .t6 | exact .t7) u5 I (m := 4 * k) (by omega) (by rw [A6, hc0]; rfl)) ?_
  refine WM.r I I I (aR I I u5 dN) ?_
  refine WM.r I I I (jg I I I ?_) ?_
  ·first | decide | omega
  refine EK ?_
  refine WM.r I I I (Ja I I I aE (by kernel_rfl : _ = some 1) ?_) ?_
  ·omega
  refine WM.r I I I (ldf I I (by first | exact .here | exact .t1 | exact .t2 | exact .t3 | exact .t4 | exact .t5 | exact .t6 | exact .t7) u5 I (m := 4 * k + 1) (by omega) (by rw [A6, hc1]; rfl)) ?_
  refine WM.r I I I (aR I I u5 dN) ?_
  refine WM.r I I I (jg I I I ?_) ?_
  ·first | decide | omega
  refine WM.r I I I (lT I I I) ?_
  refine EK ?_
  refine WM.r I I I (Ja I I I aE (by kernel_rfl : _ = some 1) ?_) ?_
  ·omega
  refine WM.r I I I (ldf I I (by first | exact .here | exact .t1 | exact .t2 | exact .t3 | exact .t4 | exact .t5 | exact .t6 | exact .t7) u5 I (m := 4 * k + 2) (by omega) (by rw [A6, hc2]; rfl)) ?_
  refine WM.r I I I (aR I I u5 dN) ?_
  refine WM.r I I I (jg I I I ?_) ?_
  ·first | decide | omega
  refine WM.r I I I (lT I I I) ?_
  refine EK ?_
  refine WM.r I I I (Ja I I I aE (by kernel_rfl : _ = some 1) ?_) ?_
  ·omega
  refine WM.r I I I (ldf I I (by first | exact .here | exact .t1 | exact .t2 | exact .t3 | exact .t4 | exact .t5 | exact .t6 | exact .t7) u5 I (m := 4 * k + 3) (by omega) (by rw [A6, hc3]; rfl)) ?_
  refine WM.r I I I (aR I I u5 dN) ?_
  refine WM.r I I I (lT I I I) ?_
  refine WM.set 41 I (v' := u32 (rl c0 c1 c2 c3)) (congrArg (Value.int .u32) (rk c0 c1 c2 c3)) ?_
  refine WM.r I I I (Jb I I I km (by kernel_rfl : _ = some 1) ?_) ?_
  ·omega
  refine WM.h0 I I (st I I I (by first | exact .here | exact .t1 | exact .t2 | exact .t3 | exact .t4 | exact .t5 | exact .t6 | exact .t7) (by kernel_rfl) I ?_ I) ?_
  ·first | decide | (simp; done) | (simp; omega)
  intro _
  refine WM.nil ?_
  refine Xd (Xa (Cg ?_))
  first
   | (refine Kq rfl (Rz rfl rfl rfl ?_) ?_; focus (omega))
   | (refine Kq rfl (bf rfl rfl rfl ?_) ?_; focus (omega))
  refine Km I (Nn ?_)
  exact WX.loop (k + 1) (by omega) (by repeat (first | exact S0 _ | refine Sc rfl ?_)) (fun w' h => ⟨by omega, by rw [uM (bY bs) u32 (u32 0) 64 k _ (by omega) (lJ k bs c0 c1 c2 c3 hc0 hc1 hc2 hc3)] at h; exact h⟩)
 ·(try simp only [sB] at hc10)
  refine AT ?_
  obtain rfl : k = 16 := by omega
  refine Xa (Cq (Cq (Cg (Ka I (Nn (Xa (Cb ?_)))))))
  refine WC.loop (σ := Nat) (fun j => [(2, .pointer (some ⟨b2, 0, none⟩)), (3, .pointer (some ⟨b3, 0, none⟩)), (6, .int .i64 ((16 + j : Nat) : Int))]) (fun j w' => j ≤ 48 ∧ St (fun _ => True) w [⟨some b3, (cx j (bY bs)).map u32 ++ List.replicate (48 - j) (u32 0), 284⟩, ⟨some b2, List.replicate 64 (u32 0), 284⟩] [] w') (fun j => 48 - j) 0 (by repeat (first | exact S0 _ | refine Sc rfl ?_)) (fun w' h => ⟨by omega, by rw [A8 (by omega)] at h; exact h.sub (Ax _) (by simp)⟩) ?_
  intro j; refine WC.pu ?_; intro hj
  refine Cq (Cq (Cg (Km I (Yl I (Nn (Xa ?_))))))
  refine Cd I (fun hc45 => ?_) (fun hc45 => ?_)
  ·(try simp only [sB] at hc45)
   have hsl := dw j (bY bs)
   rw [hwl] at hsl
   refine Ck (Xa (Cq (Cb (Cq ?_))))
   refine WC.mix [0, 0, 0, 0, 0, 0, 0, 0, 0, 0] (by kernel_rfl) (by kernel_rfl) (fun w h => h.draw) ?_
   refine EK ?_
   first
    | (refine WM.r rfl rfl rfl (av rfl rfl rfl ?_) ?_; focus (omega))
    | (refine WM.r rfl rfl rfl (aJ rfl rfl rfl ?_) ?_; focus (omega))
   refine WM.r I I I (Jb I I I km (by kernel_rfl : _ = some 1) ?_) ?_
   ·omega
   refine Er ?_
   refine EK ?_
   first
    | (refine WM.r rfl rfl rfl (av rfl rfl rfl ?_) ?_; focus (omega))
    | (refine WM.r rfl rfl rfl (aJ rfl rfl rfl ?_) ?_; focus (omega))
   refine WM.r I I I (Jb I I I km (by kernel_rfl : _ = some 1) ?_) ?_
   ·omega
   refine Er ?_
   refine F9 ?_
   refine F9 ?_
   refine WM.nil ?_
   refine Xa ?_
   refine WC.mix [0, 0, 0, 0, 0, 0, 1, 0, 1, 0, 0, 0, 0, 0, 0, 0, 0, 0, 0, 0, 1, 0, 1, 0, 0, 0, 0, 0, 0, 2] (by kernel_rfl) (by kernel_rfl) (fun w h => h.draw) ?_
   refine EK ?_
   refine EK ?_
   first
    | (refine WM.r rfl rfl rfl (av rfl rfl rfl ?_) ?_; focus (omega))
    | (refine WM.r rfl rfl rfl (aJ rfl rfl rfl ?_) ?_; focus (omega))
   refine WM.r I I I (Jb I I I km (by kernel_rfl : _ = some 1) ?_) ?_
   ·omega
   refine Er ?_
   refine EK ?_
   refine AI ?_
   intro _
   refine EK ?_
   refine AI ?_
   intro _
   refine Gt ?_
   refine EK ?_
   refine WM.r I I I (iw I I I (by decide)) ?_
   refine Gt ?_
   refine Gb ?_
   refine EK ?_
   first
    | (refine WM.r rfl rfl rfl (av rfl rfl rfl ?_) ?_; focus (omega))
    | (refine WM.r rfl rfl rfl (aJ rfl rfl rfl ?_) ?_; focus (omega))
   refine WM.r I I I (Jb I I I km (by kernel_rfl : _ = some 1) ?_) ?_
   ·omega
   refine Er ?_
   refine Gb ?_
   refine EK ?_
   refine AI ?_
   intro _
   refine EK ?_
   refine AI ?_
   intro _
   refine Gt ?_
   refine EK ?_
   refine WM.r I I I (iw I I I (by decide)) ?_
   refine Gt ?_
   refine Gb ?_
   refine WM.set 83 I (v' := u32 (qx (cx j (bY bs)))) (by unfold qx; rw [hsl]; rfl) ?_
   refine WM.r I I I (Jb I I I km (by kernel_rfl : _ = some 1) ?_) ?_
   ·omega
   refine WM.h0 I I (st I I I (by first | exact .here | exact .t1 | exact .t2 | exact .t3 | exact .t4 | exact .t5 | exact .t6 | exact .t7) (by kernel_rfl) I ?_ I) ?_
   ·simp [hsl]; omega
   intro _
   refine WM.nil ?_
   refine Xd (Xa (Cg (Km I ?_)))
   first
    | (refine Kq rfl (Rz rfl rfl rfl ?_) ?_; focus (omega))
    | (refine Kq rfl (bf rfl rfl rfl ?_) ?_; focus (omega))
   refine Ka I (Nn ?_)
   exact WX.loop (j + 1) (by omega) (by repeat (first | exact S0 _ | refine Sc rfl ?_)) (fun w' h => ⟨by omega, by rw [rE j (bY bs) hwl (by omega)] at h; exact h⟩)
  ·(try simp only [sB] at hc45)
   refine AT ?_
   obtain rfl : j = 48 := by omega
   refine WX.st (S' := St (fun _ => True) w [⟨some b3, (cx 48 (bY bs)).map u32, 284⟩, ⟨some b2, List.replicate 64 (u32 0), 284⟩] []) (fun w' h => by rw [C0, List.replicate_zero, Bl] at h; exact h) ?_
   refine Xa (Cq (Cg ?_))
   refine Kq I (lda I I (by first | exact .here | exact .t1 | exact .t2 | exact .t3 | exact .t4 | exact .t5 | exact .t6 | exact .t7) km I ?_) ?_
   ·rw [Ag, dw, hwl]; kernel_rfl
   refine Ng I I (sta I I I (by first | exact .here | exact .t1 | exact .t2 | exact .t3 | exact .t4 | exact .t5 | exact .t6 | exact .t7) ?_ ?_ ?_) ?_
   ·rw [Ag, dw, hwl]; kernel_rfl
   ·exact fl _
   ·rw [Ag, dw, hwl, Ei]
   intro _
   refine Nn (Xa (Ce ?_))
   exact WX.ret1c rfl rfl (by first | exact .here | exact .t1 | exact .t2 | exact .t3) km rfl (by rw [Ag, dw, hwl]; kernel_rfl) fun w' hS => ⟨rfl, hS.below⟩
theorem St.sl_of {ok : Nat → Prop} {w0 w : World} {own : List Ent} {fs : List Fact} {b off : Nat} {cs xs : List Value} {T : TypeId} (hk : InE own ⟨some b, cs, T⟩) (hx : (cs.drop off).take xs.length = xs) (h : St ok w0 own fs w) : (Fact.sl (some ⟨b, off, none⟩) xs).holds (fun _ => True) w := by
 obtain ⟨kk, hk⟩ := hk.get
 exact h.own_sl hk (fun i hi => by rw [← hx, Cu, Ab hi, Cv])
theorem vC (x0 : List W) (hx0 : x0.length = 8) (bs : List UInt8) (hbs : bs.length = 64) (b off cap : Nat) (hcap : 64 ≤ cap) (w : World) (hf : (Fact.sl (some ⟨b, off, none⟩) (bs.map B)).holds (fun _ => True) w) :
  Cw 264 #[.agg (x0.map u32).toArray, .slice (some ⟨b, off, none⟩) 64 cap] w (.agg ((fb x0 bs).map u32).toArray) := by
 have hwl := jc 16 bs hbs
 have hsl := dw 48 (bY bs)
 rw [hwl] at hsl
 obtain ⟨ws, hws⟩ : ∃ ws, cx 48 (bY bs) = ws := ⟨_, rfl⟩
 have hsch := nU bs hbs b off cap hcap
 rw [hws] at hsl hsch
 show Calls _ _ _ _ fun e w' => e = .returned (.agg ((ig (fo KK (cx 48 (bY bs)) 64 x0) x0).map u32).toArray) ∧ _
 rw [hws]
 refine enter (S := St (fun _ => True) w [] [Fact.sl (some ⟨b, off, none⟩) (bs.map B)]) (L := [(0, .agg (x0.map u32).toArray), (1, .slice (some ⟨b, off, none⟩) 64 cap)]) Tryz.func264 rfl Tryz.ntmps264 rfl (Ac rfl (Ac rfl (An _))) (St.start (fun _ _ => trivial) (by simpa using hf)) ?_
 refine Cq (Cg (Kh I (Ob I I (cs := x0.map u32) I) ?_))
 intro b2
 refine EQ ?_
 intro b4
 refine Nn (Xa (Cq (Cg (Ku I (Oc I I (Kv fun w _ => nC w)) (Km I (Kc I (fun w hS => hsch w (hS.holds_any (k := 0) I)) (EA ?_)))))))
 intro b5
 refine EA ?_
 intro b6
 refine Ng I I (sta I I I .tc ?_ ?_ ?_) ?_
 ·kernel_rfl
 ·exact fl _
 ·first | rfl | simp
 intro _
 refine Ng I I (sta I I I .tc ?_ ?_ ?_) ?_
 ·rw [Ag, hsl]; kernel_rfl
 ·exact fl _
 ·simp [hsl]
 intro _
 refine Nn (Xa (Cq (Cg (Kq I (lda I I .tc em I ?_) ?_))))
 ·rw [Ag, hx0]; kernel_rfl
 refine EQ ?_
 intro b7
 refine Ng I I (sta I I I .tc ?_ ?_ ?_) ?_
 ·rw [Ag, hx0]; kernel_rfl
 ·exact fl _
 ·simp [hx0]
 intro _
 refine Nn (Xa (Cq (Cq (Cg (Km I (Nn (Xa (Cb (WC.loop (σ := Nat) (fun k => [(2, .pointer (some ⟨b2, 0, none⟩)), (4, .pointer (some ⟨b4, 0, none⟩)), (5, .pointer (some ⟨b5, 0, none⟩)), (6, .pointer (some ⟨b6, 0, none⟩)), (7, .pointer (some ⟨b7, 0, none⟩)), (22, .int .i64 (k : Int))]) (fun k w' => k ≤ 64 ∧ St (fun _ => True) w [⟨some b7, (fo KK ws k x0).map u32, 274⟩, ⟨some b6, ws.map u32, 284⟩, ⟨some b5, KK.map u32, 284⟩, ⟨some b4, List.replicate 8 (u32 0), 274⟩, ⟨some b2, x0.map u32, 274⟩] [] w') (fun k => 64 - k) 0 (by repeat (first | exact S0 _ | refine Sc rfl ?_)) (fun w' h => ⟨by omega, h.sub (Ax _) (by simp)⟩) ?_)))))))))
 intro k; refine WC.pu ?_; intro hk
 refine Cq (Cg (Yl I (Nn (Xa (Cq (Ci I (fun hc23 => ?_) (fun hc23 => ?_)))))))
 ·obtain ⟨xa, xb, xc, xd, xe, xf, xg, xh, hX⟩ := BQ (fo KK ws k x0) (g3 _ _ _ _ hx0)
  rw [hX]
  have hkk : KK.length = 64 := rfl
  refine Ck (Xa (Cq (Cb (Cq (Cg (Km I (Ka I (Nn (Xa (Cq (WC.mix [0, 0, 0, 0, 0, 0, 0, 0, 0, 0, 0, 0, 0, 0, 0, 0, 0, 0] (by kernel_rfl) (by kernel_rfl) (fun w h => h.draw) ?_)))))))))))
  refine WM.r I I I (Jb I I I em (by kernel_rfl : _ = some 1) ?_) ?_
  ·omega
  refine Fh ?_
  refine WM.r I I I (Jb I I I em (by kernel_rfl : _ = some 1) ?_) ?_
  ·omega
  refine Fh ?_
  refine WM.r I I I (Jb I I I em (by kernel_rfl : _ = some 1) ?_) ?_
  ·omega
  refine Fh ?_
  refine WM.r I I I (Jb I I I em (by kernel_rfl : _ = some 1) ?_) ?_
  ·omega
  refine Fh ?_
  refine WM.r I I I (Jb I I I em (by kernel_rfl : _ = some 1) ?_) ?_
  ·omega
  refine Fh ?_
  refine WM.r I I I (Jb I I I em (by kernel_rfl : _ = some 1) ?_) ?_
  ·omega
  refine Fh ?_
  refine F9 ?_
  refine F9 ?_
  refine F9 ?_
  refine F9 ?_
  refine F9 ?_
  refine F9 ?_
  refine WM.nil ?_
  refine Xa (Cq (WC.mix [0, 0, 0, 1, 0, 1, 0, 0, 1, 0, 0, 0, 0, 0, 0, 0, 0, 0, 0, 0, 0, 0, 0, 0, 0, 0, 0, 0, 0] (by kernel_rfl) (by kernel_rfl) (fun w h => h.draw) ?_))
  refine WM.r I I I (Jb I I I em (by kernel_rfl : _ = some 1) ?_) ?_
  ·omega
  refine Fh ?_
  refine EK ?_
  refine AI ?_
  intro _
  refine EK ?_
  refine AI ?_
  intro _
  refine Gt ?_
  refine EK ?_
  refine AI ?_
  intro _
  refine Gt ?_
  refine Gb ?_
  refine EK ?_
  refine EK ?_
  refine WM.r I I I (iy I I I) ?_
  refine EK ?_
  refine WM.r I I I (wX I I) ?_
  refine EK ?_
  refine WM.r I I I (iy I I I) ?_
  refine Gt ?_
  refine Gb ?_
  refine EK ?_
  refine WM.r I I I (Jb I I I km (by kernel_rfl : _ = some 1) ?_) ?_
  ·omega
  refine WM.r I I I (ld I I .tc dN I (by rw [A6, cC KK k 0 (by omega)]; rfl)) ?_
  refine Gb ?_
  refine EK ?_
  refine WM.r I I I (Jb I I I km (by kernel_rfl : _ = some 1) ?_) ?_
  ·omega
  refine WM.r I I I (ld I I .tc dN I (by rw [A6, cC ws k 0 (by omega)]; rfl)) ?_
  refine Gb ?_
  refine F9 ?_
  refine WM.nil ?_
  refine Xa (Cq (Cg (Gs ?_))); refine Gs ?_; refine Kq I (cY I I I) (Gs ?_); refine Kq I (cY I I I) (Km I (Km I (Kq I (iy I I I) (Km I (Km I (Kq I (iy I I I) (Kq I (cY I I I) (Km I (Km I (Kq I (iy I I I) (Kq I (cY I I I) (Kq I (cZ I I I) (Ka I (Nn (Xa (Cq (WC.mix [0, 0, 2] (by kernel_rfl) (by kernel_rfl) (fun w h => h.draw) ?_)))))))))))))))))
  refine WM.r I I I (wQ I I I em (by kernel_rfl : _ = some 1) ?_ (by (try simp only [At, A0, Az, Ba, Cc, Int.reduceToNat, Nat.reduceAdd, Nat.reduceMul, Nat.reduceSub, Ch]); rfl) (by (try simp only [At, A0, Az, Ba, Cc, Int.reduceToNat, Nat.reduceAdd, Nat.reduceMul, Nat.reduceSub, Ch]); rfl) (by (try simp only [At, A0, Az, Ba, Cc, Int.reduceToNat, Nat.reduceAdd, Nat.reduceMul, Nat.reduceSub, Ch]); rfl)) ?_
  ·omega
  refine WM.r I I I (wP I I I em (by kernel_rfl : _ = some 1) ?_ (by (try simp only [At, A0, Az, Ba, Cc, Int.reduceToNat, Nat.reduceAdd, Nat.reduceMul, Nat.reduceSub, Ch]); rfl)) ?_
  ·omega
  refine WM.h I I I (BU I I I .tc CT (by kernel_rfl) (by rfl) (by rfl) (fun w' h => h.sl_of (xs := [u32 xa, u32 xb, u32 xc, u32 xd, u32 xe, u32 xf, u32 xg]) (by first | exact .here | exact .t1 | exact .t2 | exact .t3) I) (by simp [u32, Value.oneCell']) (by simp) (ys := [u32 xa, u32 xa, u32 xb, u32 xc, u32 xd, u32 xe, u32 xf, u32 xg]) I) ?_
  intro _
  refine WM.nil ?_
  refine Xa (Cq (Cg (Kq I (Jb I I I em (by kernel_rfl : _ = some 1) ?_) ?_)))
  ·omega
  refine Kq I (ld I I .tc dN I (by rfl)) ?_
  refine Km I (Kq I (cZ I I I) (Kq I (Jb I I I em (by kernel_rfl : _ = some 1) ?_) ?_))
  ·omega
  refine Ng I I (st I I I .tc (by kernel_rfl) I ?_ I) ?_
  ·first | decide | (simp; done) | (simp; omega)
  intro _
  refine Nn (Xa (Cg (Km I (Km I (Kq I (cZ I I I) (Kq I (Jb I I I em (by kernel_rfl : _ = some 1) ?_) ?_))))))
  ·omega
  refine Ng I I (st I I I .tc (by kernel_rfl) I ?_ I) ?_
  ·first | decide | (simp; done) | (simp; omega)
  intro _
  refine Nn (Xd (Xa (Cg ?_)))
  first
   | (refine Kq rfl (Rz rfl rfl rfl ?_) ?_; focus (omega))
   | (refine Kq rfl (bf rfl rfl rfl ?_) ?_; focus (omega))
  refine Km I (Nn ?_)
  exact WX.loop (k + 1) (by omega) (by repeat (first | exact S0 _ | refine Sc rfl ?_)) (fun w' h => ⟨by omega, by rw [show fo KK ws (k + 1) x0 = rnd (KK.getD k 0) (ws.getD k 0) (fo KK ws k x0) from rfl, hX]; exact h⟩)
 ·refine AT ?_
  obtain rfl : k = 64 := by omega
  have hrl := g3 KK ws 64 x0 hx0
  obtain ⟨X, hX⟩ : ∃ X, fo KK ws 64 x0 = X := ⟨_, rfl⟩
  rw [hX] at hrl ⊢
  have hadl := jb X x0 (by omega)
  refine Xa (Cq (Cq (Cg (Km I (Nn (Xa (Cb (WC.loop (σ := Nat) (fun k => [(2, .pointer (some ⟨b2, 0, none⟩)), (4, .pointer (some ⟨b4, 0, none⟩)), (7, .pointer (some ⟨b7, 0, none⟩)), (98, .int .i64 (k : Int))]) (fun k w' => k ≤ 8 ∧ St (fun _ => True) w [⟨some b7, ((ig X x0).take k ++ X.drop k).map u32, 274⟩, ⟨some b4, List.replicate 8 (u32 0), 274⟩, ⟨some b2, x0.map u32, 274⟩] [] w') (fun k => 8 - k) 0 (by repeat (first | exact S0 _ | refine Sc rfl ?_)) (fun w' h => ⟨by omega, h.sub (by repeat first | exact Ax _ | apply Dq | apply List.Sublist.cons) (by simp)⟩) ?_))))))))
  intro q; refine WC.pu ?_; intro hq
  refine Cq (Cg (Yl I (Nn (Xa (Cq (Ci I (fun hc99 => ?_) (fun hc99 => ?_)))))))
  ·have hXq := cC X q 0 (by omega); have hxq := cC x0 q 0 (by omega); refine Ck (Xa (Cq (Cb (Cq (Cg (Km I (Ka I (Nn (Xa (WC.mix [0, 0, 0, 0, 0, 0, 0, 0, 2] (by kernel_rfl) (by kernel_rfl) (fun w h => h.draw) ?_)))))))))); refine EK ?_; refine WM.r I I I (Jb I I I em (by kernel_rfl : _ = some 1) ?_) ?_
   ·omega
   refine WM.r I I I (ld I I .tc dN I (by rw [A6, List.getElem?_append_right (by simp; omega), Cv, Bp, hadl, show q + (q - min q X.length) = q by omega, hXq]; rfl)) ?_; refine EK ?_; refine WM.r I I I (Jb I I I em (by kernel_rfl : _ = some 1) ?_) ?_
   ·omega
   refine WM.r I I I (ld I I .tc dN I (by rw [A6, hxq]; rfl)) ?_; refine Gb ?_; refine WM.r I I I (Jb I I I em (by kernel_rfl : _ = some 1) ?_) ?_
   ·omega
   refine WM.h0 I I (st I I I .tc (by kernel_rfl) I ?_ I) ?_
   ·simp; omega
   intro _; refine WM.nil ?_; refine Xd (Xa (Cg ?_))
   first
    | (refine Kq rfl (Rz rfl rfl rfl ?_) ?_; focus (omega))
    | (refine Kq rfl (bf rfl rfl rfl ?_) ?_; focus (omega))
   refine Km I (Nn ?_); exact WX.loop (q + 1) (by omega) (by repeat (first | exact S0 _ | refine Sc rfl ?_)) (fun w' h => ⟨by omega, by rw [vF X x0 q _ _ (by omega) hXq hxq] at h; exact h⟩)
  ·refine AT ?_; obtain rfl : q = 8 := by omega
   have hfin : (ig X x0).take 8 ++ X.drop 8 = ig X x0 := by rw [A8 (by omega), Db (by omega), Bl]
   rw [hfin]; have hal : (ig X x0).length = 8 := by omega
   refine Xa (Cq (Cg (Kq I (lda I I .tc em I ?_) ?_)))
   ·rw [Ag, hal]; kernel_rfl
   refine Ng I I (sta I I I .tc ?_ ?_ ?_) ?_
   ·rw [Ag, hal]; kernel_rfl
   ·exact fl _
   ·rw [Ag, hal]; rfl
   intro _; refine Nn (Xa (Ce ?_)); exact WX.ret1c I I (by first | exact .here | exact .t1 | exact .t2 | exact .t3) em I (by rw [Ag, hal]; kernel_rfl) fun w' hS => ⟨rfl, hS.below⟩
theorem St.snoc {ok : Nat → Prop} {w0 w : World} {r : List Ent} {fs : List Fact} {b b2 : Nat} {e : TypeId} {m : List UInt8} {c : UInt8} {v : Value} {sp : List Value} (h : St ok w0 (⟨some b2, [v], e⟩ :: ⟨some b, (m.map B ++ [v]) ++ sp, e⟩ :: r) fs w) (hv : v = B c) : St ok w0 (⟨some b, (m ++ [c]).map B ++ sp, e⟩ :: r) fs w := by
 subst hv
 rw [B7]
 exact h.sub (C1 _ _) (fun _ h => h)
theorem vm (M q : Nat) (hM : M < 18446744073709551616) (hq : q ≤ 7) : IntKind.u8.wrap ((M : Int).fdiv (2 ^ (min (56 - 8 * (q : Int)).toNat IntKind.u64.bits))) = ((bk M (7 - q)).toNat : Int) := by
 have e1 : min (56 - 8 * (q : Int)).toNat IntKind.u64.bits = 8 * (7 - q) := by simp [IntKind.bits]; omega
 rw [e1]
 have e2 : ((2 : Int) ^ (8 * (7 - q))) = ((2 ^ (8 * (7 - q)) : Nat) : Int) := by simp
 rw [e2, Dy _ (Bq _), ← Int.natCast_ediv, IntKind.wrap_u8, bk]
 rw [UInt8.toNat_ofNat']
 generalize M / 2 ^ (8 * (7 - q)) = z
 omega
theorem nI (x : W) (i : Nat) : IntKind.u8.wrap ((x >>> (8 * i)).toNat : Int) = ((bk x.toNat i).toNat : Int) := by
 rw [BitVec.toNat_ushiftRight, Nat.shiftRight_eq_div_pow, IntKind.wrap_u8, bk, UInt8.toNat_ofNat']
 generalize x.toNat / 2 ^ (8 * i) = z
 omega
theorem x6 (x : W) : IntKind.u8.wrap (x.toNat : Int) = ((bk x.toNat 0).toNat : Int) := by
 have := nI x 0; simpa using this
theorem si (M q : Nat) (hq : q ≤ 7) : (nq M).take (q + 1) = (nq M).take q ++ [bk M (7 - q)] := by
 have : q = 0 ∨ q = 1 ∨ q = 2 ∨ q = 3 ∨ q = 4 ∨ q = 5 ∨ q = 6 ∨ q = 7 := by omega
 rcases this with rfl | rfl | rfl | rfl | rfl | rfl | rfl | rfl <;> rfl
theorem w7 (l : List UInt8) : ∃ n, (pad l).length = 64 * n := by
 refine ⟨(l.length + 1 + dn l.length + 8) / 64, ?_⟩
 have : (pad l).length = l.length + 1 + dn l.length + 8 := by simp [pad, nq]; omega
 rw [this]; unfold dn; omega
theorem oH (n : Nat) (x : List W) (m : List UInt8) : ib (n + 1) x m = ib n (fb x (m.take 64)) (m.drop 64) := rfl
theorem dU (x : List W) (b : List UInt8) (h : x.length = 8) : (fb x b).length = 8 := by
 unfold fb
 have := g3 KK (cx 48 (bY b)) 64 x h
 rw [jb _ _ (by omega)]; exact this
theorem rW (X : List W) (k : Nat) (h : k < X.length) : na (X.take (k + 1)) = na (X.take k) ++ pF (X.getD k 0) := by
 have hx := cC X k 0 h
 rw [Bt, hx]
 simp [na]
theorem iE (X : List W) : (na X).length = 4 * X.length := by
 induction X with
 | nil => rfl
 | cons x X ih => simp only [na, C2, A5, Ar] at *; rw [ih]; simp [pF]; omega
structure G4 where
 k : Nat
 ob : Option Nat
 cap : Nat
 spare : List Value
structure G3 where
 q : Nat
 ad : Option Addr
 x : List W
theorem kp (l : List UInt8) (hl : l.length ≤ 1000000) (w : World) :
  Cw 255 #[.string (S l)] w (.string (S (sha l))) := by
 have hz : dn l.length = (119 - l.length % 64) % 64 := rfl
 have hpl : (pad l).length = l.length + 1 + dn l.length + 8 := by simp [pad, nq]; omega
 refine enter (S := St (fun _ => True) w [] []) (L := [(0, .string (S l))]) Tryz.func255 rfl Tryz.ntmps255 rfl (Ac rfl (An _)) (St.start (fun _ _ => trivial) (by simp)) ?_
 refine Cq (Cg (Ka I (Nn (Xa (Cq (Cg (Km I (Yn I u9 (Km I (Yn I u9 ?_))))))))))
 first
  | (refine Kq rfl (Rz rfl rfl rfl ?_) ?_; focus (omega))
  | (refine Kq rfl (bf rfl rfl rfl ?_) ?_; focus (omega))
 refine Kh I (ef I I I aE (by kernel_rfl : _ = some (some (.int .u8 0), 1, 1)) I ?_ (by (try simp only [At, A0, Az, Ba, Cc, Int.reduceToNat, Nat.reduceAdd, Nat.reduceMul, Nat.reduceSub, Ch]); rfl) (by (try simp only [At, A0, Az, Ba, Cc, Int.reduceToNat, Nat.reduceAdd, Nat.reduceMul, Nat.reduceSub, Ch]); rfl)) ?_
 ·omega
 intro b15
 refine Ka I (Nn (Xa (Cq (Cg (Km I (Km I ?_))))))
 refine Kh I (vg I I I (by first | exact .here | exact .t1 | exact .t2 | exact .t3 | exact .t4 | exact .t5 | exact .t6 | exact .t7) aE (by kernel_rfl) (m := l.length) (by simp) (by simp) (ys := l.map B ++ List.replicate 72 (B 0)) (by simp [B])) ?_
 intro _
 refine Nn (Xa (Cq (Cg (Km I ?_))))
 refine Kh I (aO I I aE (by kernel_rfl : _ = some (some (.int .u8 0), 1, 1)) I (by simp only [List.map]; rfl) I I ?_ (by decide)) ?_
 ·simp [Value.cells]
 intro b20
 refine Kh I (app I aE (by kernel_rfl : _ = some (some (.int .u8 0), 1, 1)) I (by first | exact .here | exact .t1 | exact .t2 | exact .t3 | exact .t4 | exact .t5 | exact .t6 | exact .t7) (by rfl) (by rfl) (by first | exact .here | exact .t1 | exact .t2 | exact .t3 | exact .t4 | exact .t5 | exact .t6 | exact .t7) (by rfl) ?_ ?_) ?_
 ·(refine ⟨?_, ?_, ?_, ?_, ?_⟩ <;> (try simp) <;> omega)
 ·simp [Value.oneCell']
 intro g21
 refine WL.pu ?_
 intro hg21
 refine WL.st (S' := St (fun _ => True) w [⟨some g21.b, (l ++ [128]).map B ++ g21.spare, 5⟩] []) (fun w' h => h.snoc I) ?_
 refine Ka I (Nn (Xa (Cq (Cb ?_))))
 refine WC.loop (σ := Nat × App) (fun p => [(0, .string (S l)), (3, .slice (some ⟨p.2.b, 0, none⟩) (l.length + 1 + p.1) p.2.cap)]) (fun p w' => (p.1 ≤ dn l.length ∧ p.2.cap = l.length + 1 + p.1 + p.2.spare.length) ∧ St (fun _ => True) w [⟨some p.2.b, (l ++ [128] ++ List.replicate p.1 0).map B ++ p.2.spare, 5⟩] [] w') (fun p => dn l.length - p.1) (0, g21) (by repeat (first | exact S0 _ | refine Sc rfl ?_)) (fun w' h => ⟨⟨by simp, by simpa using hg21.2⟩, by simpa using h⟩) ?_
 rintro ⟨j, g⟩; dsimp only; refine WC.pu ?_; rintro ⟨hj, hg⟩
 refine Cq (Cq (Cg (Km I (Yo I aE ?_))))
 first
  | (refine Kq rfl (cH rfl rfl rfl ?_) ?_; focus (omega))
  | (refine Kq rfl (tO rfl rfl rfl ?_) ?_; focus (omega))
 refine Yj I (Nn (Xa ?_))
 refine Cd I (fun hc25 => ?_) (fun hc25 => ?_)
 ·(try simp only [sB] at hc25)
  refine Ck (Xa (Cb (Cg (Km I ?_))))
  refine Kh I (aO I I aE (by kernel_rfl : _ = some (some (.int .u8 0), 1, 1)) I (by simp only [List.map]; rfl) I I ?_ (by decide)) ?_
  ·simp [Value.cells]
  intro b27
  refine Kh I (app I aE (by kernel_rfl : _ = some (some (.int .u8 0), 1, 1)) I (by first | exact .here | exact .t1 | exact .t2 | exact .t3 | exact .t4 | exact .t5 | exact .t6 | exact .t7) (by rfl) (by rfl) (by first | exact .here | exact .t1 | exact .t2 | exact .t3 | exact .t4 | exact .t5 | exact .t6 | exact .t7) (by rfl) ?_ ?_) ?_
  ·(refine ⟨?_, ?_, ?_, ?_, ?_⟩ <;> (try simp) <;> omega)
  ·simp [Value.oneCell']
  intro g28
  refine WL.pu ?_
  intro hg28
  refine WL.st (S' := St (fun _ => True) w [⟨some g28.b, (l ++ [128] ++ List.replicate (j + 1) 0).map B ++ g28.spare, 5⟩] []) (fun w' h => by have := h.snoc (c := 0) rfl; rw [Cl, ← List.replicate_succ'] at this; exact this) ?_
  refine Ka I (Nn (Xd ?_))
  exact WX.loop (j + 1, g28) (by show dn l.length - (j + 1) < dn l.length - j; omega) (by repeat (first | exact S0 _ | refine Sc rfl ?_)) (fun w' h => ⟨⟨by show j + 1 ≤ _; omega, by have := hg28.2; show g28.cap = _; omega⟩, h⟩)
 ·(try simp only [sB] at hc25)
  refine AT ?_
  obtain rfl : j = dn l.length := by omega
  refine Xa (Cq (Cg (Km I (Yn I u9 (Kq I (aR I I u3 u76) (Kq I (mX I I I) ?_))))))
  refine Ns 32 I (v' := .int .u64 ((8 * l.length : Nat) : Int)) (congrArg (Value.int .u64) (by rw [IntKind.wrap_u64, IntKind.wrap_u64]; omega)) ?_
  refine Ka I (Nn (Xa (Cq (Cq (Cg (Ka I (Nn (Xa (Cb ?_)))))))))
  refine WC.loop (σ := Nat × App) (fun p => [(4, .int .u64 ((8 * l.length : Nat) : Int)), (5, .int .i64 (56 - 8 * (p.1 : Int))), (3, .slice (some ⟨p.2.b, 0, none⟩) (l.length + 1 + dn l.length + p.1) p.2.cap)]) (fun p w' => (p.1 ≤ 8 ∧ p.2.cap = l.length + 1 + dn l.length + p.1 + p.2.spare.length) ∧ St (fun _ => True) w [⟨some p.2.b, (l ++ [128] ++ List.replicate (dn l.length) 0 ++ (nq (8 * l.length)).take p.1).map B ++ p.2.spare, 5⟩] [] w') (fun p => 8 - p.1) (0, g) (by repeat (first | exact S0 _ | refine Sc rfl ?_)) (fun w' h => ⟨⟨by simp, by simpa using hg⟩, by simpa using h⟩) ?_
  rintro ⟨q, g2⟩; dsimp only; refine WC.pu ?_; rintro ⟨hq, hg2⟩
  refine Cq (Cq (Cg (Km I (Yh I (Nn (Xa ?_))))))
  refine Cd I (fun hc34 => ?_) (fun hc34 => ?_)
  ·(try simp only [sB] at hc34)
   refine Ck (Xa (Cq (Cb (Cg (Km I (Km I (Km I ?_)))))))
   refine Kq I (g5 I I I ?_) ?_
   ·first | decide | omega
   refine Kq I (aR I I u76 u5) (Ns 41 I (v' := B (bk (8 * l.length) (7 - q))) (congrArg (Value.int .u8) (vm (8 * l.length) q (by omega) (by omega))) ?_)
   refine Kh I (aO I I aE (by kernel_rfl : _ = some (some (.int .u8 0), 1, 1)) I (by simp only [List.map]; rfl) I I ?_ (by decide)) ?_
   ·simp [B, Value.cells]
   intro b42
   refine Kh I (app I aE (by kernel_rfl : _ = some (some (.int .u8 0), 1, 1)) I (by first | exact .here | exact .t1 | exact .t2 | exact .t3 | exact .t4 | exact .t5 | exact .t6 | exact .t7) (by rfl) (by rfl) (by first | exact .here | exact .t1 | exact .t2 | exact .t3 | exact .t4 | exact .t5 | exact .t6 | exact .t7) (by rfl) ?_ ?_) ?_
   ·(refine ⟨?_, ?_, ?_, ?_, ?_⟩ <;> (try simp [nq]) <;> omega)
   ·simp [B, Value.oneCell']
   intro g43
   refine WL.pu ?_
   intro hg43
   refine WL.st (S' := St (fun _ => True) w [⟨some g43.b, (l ++ [128] ++ List.replicate (dn l.length) 0 ++ (nq (8 * l.length)).take (q + 1)).map B ++ g43.spare, 5⟩] []) (fun w' h => by have := h.snoc (c := bk (8 * l.length) (7 - q)) rfl; rw [Cl, ← si _ q (by omega)] at this; exact this) ?_
   refine Ka I (Nn (Xd (Xa (Cg (Km I ?_)))))
   first
    | (refine Kq rfl (av rfl rfl rfl ?_) ?_; focus (omega))
    | (refine Kq rfl (aJ rfl rfl rfl ?_) ?_; focus (omega))
   refine Ka I (Nn ?_)
   exact WX.loop (q + 1, g43) (by show 8 - (q + 1) < 8 - q; omega) (by repeat (first | exact S0 _ | refine Sc rfl ?_ | refine Sc (by show some (Value.int _ _) = some (Value.int _ _); congr 2; omega) ?_)) (fun w' h => ⟨⟨by show q + 1 ≤ _; omega, by have := hg43.2; show g43.cap = _; omega⟩, h⟩)
  ·(try simp only [sB] at hc34)
   refine AT ?_
   obtain rfl : q = 8 := by omega
   obtain ⟨m, hm⟩ : ∃ m, pad l = m := ⟨_, rfl⟩
   have hmm : l ++ [128] ++ List.replicate (dn l.length) 0 ++ (nq (8 * l.length)).take 8 = m := by rw [← hm]; rfl
   rw [hmm]
   obtain ⟨nb, hnb⟩ := w7 l
   have hlen : l.length + 1 + dn l.length + 8 = 64 * nb := by omega
   rw [hm] at hnb
   refine Xa (Cq (Cg ?_))
   refine Ku I (Oc I I (Kv fun w _ => uL w)) ?_
   refine EQ ?_
   intro b6
   refine Ng I I (sta I I I (by first | exact .here | exact .t1 | exact .t2 | exact .t3 | exact .t4 | exact .t5 | exact .t6 | exact .t7) ?_ ?_ ?_) ?_
   ·kernel_rfl
   ·exact fl _
   ·first | rfl | simp
   intro _
   refine Nn (Xa (Cq (Cb ?_)))
   refine WC.loop (σ := G3) (fun p => [(6, .pointer (some ⟨b6, 0, none⟩)), (3, .slice p.ad (l.length + 1 + dn l.length + 8 - 64 * p.q) (g2.cap - 64 * p.q))]) (fun p w' => ((p.q ≤ nb ∧ p.x.length = 8) ∧ (p.q < nb → p.ad = some ⟨g2.b, 64 * p.q, none⟩) ∧ ib nb H0 m = ib (nb - p.q) p.x (m.drop (64 * p.q))) ∧ St (fun _ => True) w [⟨some b6, p.x.map u32, 274⟩, ⟨some g2.b, m.map B ++ g2.spare, 5⟩] [] w') (fun p => nb - p.q) ⟨0, some ⟨g2.b, 0, none⟩, H0⟩ (by repeat (first | exact S0 _ | refine Sc rfl ?_)) (fun w' h => ⟨⟨⟨by simp, rfl⟩, fun _ => rfl, by simp⟩, h⟩) ?_
   rintro ⟨q, ad, x⟩; dsimp only; refine WC.pu ?_; rintro ⟨⟨hq, hx⟩, had, hch⟩
   refine Cq (Cq (Cg (Km I (Yo I aE (Yg I (Nn (Xa ?_)))))))
   refine Cd I (fun hc47 => ?_) (fun hc47 => ?_)
   ·(try simp only [sB] at hc47)
    have hqn : q < nb := by omega
    obtain rfl := had hqn
    have hblk : (m.drop (64 * q)).length = 64 * nb - 64 * q := by simp [hnb]
    refine Ck (Xa (Cq (Cb ?_)))
    refine WC.mix [0, 0, 0, 1, 2] (by kernel_rfl) (by kernel_rfl) (fun w h => h.draw) ?_
    refine WM.r I I I (lda I I (by first | exact .here | exact .t1 | exact .t2 | exact .t3 | exact .t4 | exact .t5 | exact .t6 | exact .t7) em I ?_) ?_
    ·rw [Ag, hx]; kernel_rfl
    refine EK ?_
    refine WM.r I I I (tN I I I aE (by kernel_rfl : _ = some 1) ?_ (by (try simp only [At, A0, Az, Ba, Cc, Int.reduceToNat, Nat.reduceAdd, Nat.reduceMul, Nat.reduceSub, Ch]); rfl)) ?_
    ·omega
    refine WM.g I I I (Oc I I (Kv fun w hS => vC x hx ((m.drop (64 * q)).take 64) (by simp; omega) g2.b (64 * q) (g2.cap - 64 * q) (by omega) w (hS.sl_of (cs := m.map B ++ g2.spare) (by first | exact .here | exact .t1 | exact .t2) (by rw [List.drop_append_of_le_length (by simp; omega), List.take_append_of_le_length (by simp; omega), ← List.map_drop, ← List.map_take]; congr 1; simp; try omega)))) (fun _ _ h => by first | exact h | exact ⟨_, h⟩ | exact ⟨_, h.2⟩ | exact h.2 | exact h.sub (by repeat (first | exact Ax _ | apply List.Sublist.cons)) (fun _ h => by simp [*]) | exact h.2.sub (by repeat (first | exact Ax _ | apply List.Sublist.cons)) (fun _ h => by simp [*])) ?_
    intro _
    refine WM.h0 I I (sta I I I (by first | exact .here | exact .t1 | exact .t2 | exact .t3 | exact .t4 | exact .t5 | exact .t6 | exact .t7) ?_ ?_ ?_) ?_
    ·rw [Ag, dU _ _ hx]; kernel_rfl
    ·exact fl _
    ·rw [Ag, dU _ _ hx, Ag, hx]
    intro _
    refine WM.nil ?_
    refine Xd (Xa (Cg (Km I ?_)))
    refine Kq I (kG I I I aE (by kernel_rfl : _ = some 1) ?_ (by (try simp only [At, A0, Az, Ba, Cc, Int.reduceToNat, Nat.reduceAdd, Nat.reduceMul, Nat.reduceSub, Ch]); rfl) (by (try simp only [At, A0, Az, Ba, Cc, Int.reduceToNat, Nat.reduceAdd, Nat.reduceMul, Nat.reduceSub, Ch]); rfl) (by (try simp only [At, A0, Az, Ba, Cc, Int.reduceToNat, Nat.reduceAdd, Nat.reduceMul, Nat.reduceSub, Ch]); rfl)) ?_
    ·omega
    refine Ka I (Nn ?_)
    exact WX.loop ⟨q + 1, cut (some ⟨g2.b, 64 * q, none⟩) 64 (g2.cap - 64 * q) 1, fb x ((m.drop (64 * q)).take 64)⟩ (by show nb - (q + 1) < nb - q; omega) (by repeat (first | exact S0 _ | refine Sc (by show some (Value.slice _ _ _) = some (Value.slice _ _ _); congr 2 <;> omega) ?_ | refine Sc rfl ?_)) (fun w' h => ⟨⟨⟨by show q + 1 ≤ nb; omega, dU _ _ hx⟩, fun (hlt : q + 1 < nb) => by show cut _ _ _ _ = some ⟨g2.b, 64 * (q + 1), none⟩; rw [cut, Aa (by omega), Option.map_some, Addr.add_lit]; congr 2; try omega, by rw [hch, show nb - q = (nb - (q + 1)) + 1 by omega, oH, List.drop_drop]; congr 1⟩, h⟩)
   ·(try simp only [sB] at hc47)
    refine AT ?_
    obtain rfl : q = nb := by omega
    have hfin : sha l = na x := by rw [sha, hm, hnb, Dm _ (by omega), hch, C0]; rfl
    refine Xa (Cq (Cg (Ka I (Nn (Xa (Cq (Cq (Cg ?_))))))))
    refine Kq I (lda I I (by first | exact .here | exact .t1 | exact .t2 | exact .t3 | exact .t4 | exact .t5 | exact .t6 | exact .t7) em I ?_) ?_
    ·rw [Ag, hx]; kernel_rfl
    refine Km I (Nn (Xa (Cb ?_)))
    refine WC.loop (σ := G4) (fun p => [(54, .agg (x.map u32).toArray), (55, .int .i64 (p.k : Int)), (7, .slice (p.ob.map fun b => ⟨b, 0, none⟩) (4 * p.k) p.cap)]) (fun p w' => (p.k ≤ 8 ∧ (p.k = 0 ∨ ∃ b, p.ob = some b) ∧ p.cap = 4 * p.k + p.spare.length) ∧ St (fun _ => True) w [⟨p.ob, (na (x.take p.k)).map B ++ p.spare, 5⟩] [] w') (fun p => 8 - p.k) ⟨0, none, 0, []⟩ (by repeat (first | exact S0 _ | refine Sc rfl ?_)) (fun w' h => ⟨⟨by simp, .inl rfl, rfl⟩, (h.sub (own' := []) (fs' := []) (by simp) (by simp)).nil _⟩) ?_
    rintro ⟨k, ob, cap4, sp4⟩; dsimp only; refine WC.pu ?_; rintro ⟨hk, hob, hcap4⟩
    refine Cq (Cg (Yl I (Nn (Xa (Cq ?_)))))
    refine Cd I (fun hc56 => ?_) (fun hc56 => ?_)
    ·(try simp only [sB] at hc56)
     refine Ck (Xa (Cq (Cb (Cq (Cg ?_)))))
     refine Kq I (jY I I I em dN I (by kernel_rfl) ?_ (by rw [A6, cC x _ 0 (by omega)]; rfl)) ?_
     ·omega
     refine Ka I (Nn (Xa (Cg (Km I (Km I (Kq I (iw I I I (by decide)) (Kq I (aR I I dN u5) (Ns 61 I (v' := B (bk (x.getD k 0).toNat 3)) (congrArg (Value.int .u8) (nI (x.getD k 0) 3)) (Km I (Kq I (iw I I I (by decide)) (Kq I (aR I I dN u5) (Ns 64 I (v' := B (bk (x.getD k 0).toNat 2)) (congrArg (Value.int .u8) (nI (x.getD k 0) 2)) (Km I (Kq I (iw I I I (by decide)) (Kq I (aR I I dN u5) (Ns 67 I (v' := B (bk (x.getD k 0).toNat 1)) (congrArg (Value.int .u8) (nI (x.getD k 0) 1)) (Km I (Kq I (aR I I dN u5) ?_))))))))))))))))))
     refine Ns 69 I (v' := B (bk (x.getD k 0).toNat 0)) (congrArg (Value.int .u8) (x6 (x.getD k 0))) ?_
     refine Kh I (aO I I aE (by kernel_rfl : _ = some (some (.int .u8 0), 1, 1)) I (by simp only [List.map]; rfl) I I ?_ (by decide)) ?_
     ·simp [B, Value.cells]
     intro b70
     refine Kh I (app I aE (by kernel_rfl : _ = some (some (.int .u8 0), 1, 1)) I (by first | exact .here | exact .t1 | exact .t2 | exact .t3 | exact .t4 | exact .t5 | exact .t6 | exact .t7) (by rfl) (by rfl) (by first | exact .here | exact .t1 | exact .t2 | exact .t3 | exact .t4 | exact .t5 | exact .t6 | exact .t7) (by rfl) ?_ ?_) ?_
     ·(refine ⟨?_, ?_, ?_, ?_, ?_⟩ <;> (try simp [iE]) <;> omega)
     ·simp [B, Value.oneCell']
     intro g71
     refine WL.pu ?_
     intro hg71
     refine Ka I (Nn (Xd (Xa (Cg ?_))))
     first
      | (refine Kq rfl (Rz rfl rfl rfl ?_) ?_; focus (omega))
      | (refine Kq rfl (bf rfl rfl rfl ?_) ?_; focus (omega))
     refine Km I (Nn ?_)
     exact WX.loop ⟨k + 1, some g71.b, g71.cap, g71.spare⟩ (by show 8 - (k + 1) < 8 - k; omega) (by repeat (first | exact S0 _ | refine Sc rfl ?_)) (fun w' h => ⟨⟨by show k + 1 ≤ 8; omega, .inr ⟨_, rfl⟩, by have := hg71.2; show g71.cap = _; omega⟩, by rw [rW x k (by omega), B7]; exact h.sub (C1 _ _) (fun _ h => h)⟩)
    ·(try simp only [sB] at hc56)
     refine AT ?_
     obtain rfl : k = 8 := by omega
     obtain ⟨b9, rfl⟩ : ∃ b, ob = some b := by rcases hob with h | h; omega; exact h
     rw [A8 (by omega)]
     refine Xa (Cq (Cg (Km I ?_)))
     refine Kq I (b2s (l := na x) I I (by first | exact .here | exact .t1 | exact .t2 | exact .t3 | exact .t4 | exact .t5 | exact .t6 | exact .t7) aE u5 u9 ?_ ?_) ?_
     ·simp [iE, hx]
     ·simp [iE, hx]
     refine Ka I (Nn (Xa (Ce ?_)))
     refine WX.ret1 I I fun w' hS => ⟨by rw [hfin], hS.below⟩
theorem gw (l : List UInt8) : (sha l).length = 32 := by
 have : ∀ (n : Nat) (x : List W) (m : List UInt8), x.length = 8 → (ib n x m).length = 8 := by
  intro n
  induction n with
  | zero => intro x m h; exact h
  | succ n ih => intro x m h; exact ih _ _ (dU _ _ h)
 rw [sha, iE, this _ _ _ rfl]
theorem sk (key : List UInt8) : (dS key).length ≤ 64 := by
 unfold dS; split
 ·rw [gw]; omega
 ·omega
structure GC where
 k : Nat
 b : Nat
 cap : Nat
 sp : List Value
structure G3r where
 q : Nat
 b : Nat
 cap : Nat
 x : List W
end Go.Proofs.YtkdlonihbjhhoaaGreatDoor
