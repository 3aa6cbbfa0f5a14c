/-
  Parts of the walk: Mac Coi1 Isn Tz Prm Prn.
-/
import Derived.Test.YtkdlonihbjhhoaaGreatDoorG14
namespace Go.Proofs.YtkdlonihbjhhoaaGreatDoor
open Go.RowKit
set_option linter.unusedSimpArgs false
set_option linter.unusedVariables false
set_option maxHeartbeats 600000
set_option maxRecDepth 20000
theorem mF (c : UInt8) (x : UInt8) : bits .xor .u8 (c.toNat : Int) (x.toNat : Int) = ((c ^^^ x).toNat : Int) := by
 have h1 := c.toNat_lt; have h2 := x.toNat_lt
 rw [u8_xor_nat _ _ h1 h2, UInt8.toNat_xor]
theorem iJ (K : List UInt8) (f : UInt8 → UInt8) (k : Nat) (c : UInt8) (h : K[k]? = some c) :
  (((K.take k).map f ++ K.drop k).map B).set k (B (f c)) = ((K.take (k + 1)).map f ++ K.drop (k + 1)).map B := by
 have hk : k < K.length := (Al.1 h).1
 rw [← List.map_set]
 congr 1
 have hlen : ((K.take k).map f).length = k := by simp; omega
 have hd : (K.drop k).set 0 (f c) = f c :: K.drop (k + 1) := by rw [Bo hk]; rfl
 rw [Dd _ _ (by omega), hlen, C0, hd, Bt, h]
 simp
theorem iK (K : List UInt8) (f : UInt8 → UInt8) (k : Nat) (c : UInt8) (h : K[k]? = some c) : (((K.take k).map f ++ K.drop k).map B)[k]? = some (B c) := by
 have hk : k < K.length := (Al.1 h).1
 have hlen : ((K.take k).map f).length = k := by simp; omega
 rw [A6, List.getElem?_append_right (by omega), hlen, C0, Cv, Ba, h]; rfl
theorem zr (key s : List UInt8) (hk : key.length ≤ 500000) (hs : s.length ≤ 500000) (w : World) :
  Cw 232 #[.string (S key), .string (S s)] w (.string (S (mac key s))) := by
 have hkl := sk key
 obtain ⟨K, hK⟩ : ∃ K, dS key ++ List.replicate (64 - (dS key).length) 0 = K := ⟨_, rfl⟩
 have hKl : K.length = 64 := by rw [← hK]; simp; omega
 have hx1 : mG (dS key) 92 = K.map (· ^^^ 92) := by rw [← hK]; rfl
 have hx2 : mG (dS key) 54 = K.map (· ^^^ 54) := by rw [← hK]; rfl
 refine enter (S := St (fun _ => True) w [] []) (L := [(0, .string (S key)), (1, .string (S s))]) Tryz.func232 rfl Tryz.ntmps232 rfl (Ac rfl (Ac rfl (An _))) (St.start (fun _ _ => trivial) (by simp)) ?_
 refine Cq (Cg (Ka I (Nn (Xa (Cq (Cq (Cg (Km I (Yn I u9 (Yg I (Nn (Xa (Ci I (fun hc10 => ?_) (fun hc10 => ?_))))))))))))))
 ·refine Cg (Km I (Ku I (Oc I I (Kv fun w _ => kp _ (by omega) w)) (Ka I (Ns 0 I (v' := .string (S (dS key))) (by rw [dS, Ab (by omega)]) ?_))))
  refine Nn (Xa (Cq (Cg (EO ?_))))
  intro b5
  refine EO ?_
  intro b6
  refine Fk ?_
  refine Eo ?_
  intro _
  refine Fk ?_
  refine Eo ?_
  intro _
  refine Nn (Xa (Cq (Cq (Cg (Km I (Nn (Xa (Cb (WC.loop (σ := Nat) (fun k => [(1, .string (S s)), (5, .pointer (some ⟨b5, 0, none⟩)), (6, .pointer (some ⟨b6, 0, none⟩)), (19, .int .i64 (k : Int))]) (fun k w' => k ≤ 64 ∧ St (fun _ => True) w [⟨some b6, ((K.take k).map (· ^^^ 92) ++ K.drop k).map B, 268⟩, ⟨some b5, ((K.take k).map (· ^^^ 54) ++ K.drop k).map B, 268⟩] [] w') (fun k => 64 - k) 0 (by repeat (first | exact S0 _ | refine Sc rfl ?_)) (fun w' h => ⟨by omega, h⟩) ?_)))))))))
  intro k; refine WC.pu ?_; intro hk
  refine Cq (Cg (Yl I (Nn (Xa (Cq (Ci I (fun hc20 => ?_) (fun hc20 => ?_)))))))
  ·obtain ⟨c, hc⟩ : ∃ c, K[k]? = some c := ⟨_, Ad (by omega)⟩; refine Ck (Xa (Cq (Cb (Cq (Cg (Km I (Ka I (Nn (Xa (Cq (Cg (Km I (Kq I (Jb I I I gR (by kernel_rfl : _ = some 1) ?_) ?_)))))))))))))
   ·omega
   refine Kq I (ld I I .tc u5 I (by exact iK K (· ^^^ 54) k c hc)) ?_; refine Kq I (kE I I I) (Ns 25 I (v' := B (c ^^^ 54)) (congrArg (Value.int .u8) (mF c 54)) ?_); refine Kq I (Jb I I I gR (by kernel_rfl : _ = some 1) ?_) ?_
   ·omega
   refine Ng I I (st I I I .tc (by kernel_rfl) I ?_ I) ?_
   ·simp; omega
   intro _; refine Nn (Xa (Cg (Km I (Kq I (Jb I I I gR (by kernel_rfl : _ = some 1) ?_) ?_))))
   ·omega
   refine Kq I (ld I I .tc u5 I (by exact iK K (· ^^^ 92) k c hc)) ?_; refine Kq I (kE I I I) (Ns 30 I (v' := B (c ^^^ 92)) (congrArg (Value.int .u8) (mF c 92)) ?_); refine Kq I (Jb I I I gR (by kernel_rfl : _ = some 1) ?_) ?_
   ·omega
   refine Ng I I (st I I I .tc (by kernel_rfl) I ?_ I) ?_
   ·simp; omega
   intro _; refine Nn (Xd (Xa (Cg ?_)))
   first
    | (refine Kq rfl (Rz rfl rfl rfl ?_) ?_; focus (omega))
    | (refine Kq rfl (bf rfl rfl rfl ?_) ?_; focus (omega))
   refine Km I (Nn ?_); exact WX.loop (k + 1) (by omega) (by repeat (first | exact S0 _ | refine Sc rfl ?_)) (fun w' h => ⟨by omega, by rw [iJ K (· ^^^ 54) k c hc, iJ K (· ^^^ 92) k c hc] at h; exact h⟩)
  ·refine AT ?_; obtain rfl : k = 64 := by omega
   rw [A8 (by omega), Db (by omega), Bl, Bl]; refine Xa (Cq (WC.mix [0, 0, 0, 0, 0, 0, 1, 0, 1, 0] (by kernel_rfl) (by kernel_rfl) (fun w h => h.draw) ?_)); refine FP ?_; refine WM.r I I I (b2s (l := K.map (· ^^^ 92)) I I .tc aE u5 u9 ?_ ?_) ?_
   ·rw [List.drop_zero, A8 (by simp [hKl])]
   ·simp [hKl]
   refine FP ?_; refine WM.r I I I (b2s (l := K.map (· ^^^ 54)) I I .tc aE u5 u9 ?_ ?_) ?_
   ·rw [List.drop_zero, A8 (by simp [hKl])]
   ·simp [hKl]
   refine EK ?_; refine WM.r I I I (fY I I I ?_) ?_
   ·simp [hKl]; omega
   refine WM.g I I I (Oc I I (Kv fun w _ => kp _ (by simp [hKl]; omega) w)) (fun _ _ h => by first | exact h | exact ⟨_, h⟩ | exact ⟨_, h.2⟩ | exact h.2 | exact h.sub (by repeat (first | exact Ax _ | apply List.Sublist.cons)) (fun _ h => by simp [*]) | exact h.2.sub (by repeat (first | exact Ax _ | apply List.Sublist.cons)) (fun _ h => by simp [*])) ?_; intro _; refine WM.r I I I (fY I I I ?_) ?_
   ·simp [hKl, gw]
   refine WM.g I I I (Oc I I (Kv fun w _ => kp _ (by simp [hKl, gw]) w)) (fun _ _ h => by first | exact h | exact ⟨_, h⟩ | exact ⟨_, h.2⟩ | exact h.2 | exact h.sub (by repeat (first | exact Ax _ | apply List.Sublist.cons)) (fun _ h => by simp [*]) | exact h.2.sub (by repeat (first | exact Ax _ | apply List.Sublist.cons)) (fun _ h => by simp [*])) ?_; intro _; refine WM.r I I I (Ra I I) ?_; refine WM.nil ?_; refine Xa (Ce ?_); exact WX.ret1 I I fun w' hS => ⟨by rw [mac, hx1, hx2], hS.below⟩
 ·refine WC.set 0 I (v' := .string (S (dS key))) (by rw [dS, Aa (by omega)]) ?_
  refine Ck (Xa (Cq (Cg (EO ?_))))
  intro b5
  refine EO ?_
  intro b6
  refine Fk ?_
  refine Eo ?_
  intro _
  refine Fk ?_
  refine Eo ?_
  intro _
  refine Nn (Xa (Cq (Cq (Cg (Km I (Nn (Xa (Cb (WC.loop (σ := Nat) (fun k => [(1, .string (S s)), (5, .pointer (some ⟨b5, 0, none⟩)), (6, .pointer (some ⟨b6, 0, none⟩)), (19, .int .i64 (k : Int))]) (fun k w' => k ≤ 64 ∧ St (fun _ => True) w [⟨some b6, ((K.take k).map (· ^^^ 92) ++ K.drop k).map B, 268⟩, ⟨some b5, ((K.take k).map (· ^^^ 54) ++ K.drop k).map B, 268⟩] [] w') (fun k => 64 - k) 0 (by repeat (first | exact S0 _ | refine Sc rfl ?_)) (fun w' h => ⟨by omega, h⟩) ?_)))))))))
  intro k; refine WC.pu ?_; intro hk
  refine Cq (Cg (Yl I (Nn (Xa (Cq (Ci I (fun hc20 => ?_) (fun hc20 => ?_)))))))
  ·obtain ⟨c, hc⟩ : ∃ c, K[k]? = some c := ⟨_, Ad (by omega)⟩; refine Ck (Xa (Cq (Cb (Cq (Cg (Km I (Ka I (Nn (Xa (Cq (Cg (Km I (Kq I (Jb I I I gR (by kernel_rfl : _ = some 1) ?_) ?_)))))))))))))
   ·omega
   refine Kq I (ld I I .tc u5 I (by exact iK K (· ^^^ 54) k c hc)) ?_; refine Kq I (kE I I I) (Ns 25 I (v' := B (c ^^^ 54)) (congrArg (Value.int .u8) (mF c 54)) ?_); refine Kq I (Jb I I I gR (by kernel_rfl : _ = some 1) ?_) ?_
   ·omega
   refine Ng I I (st I I I .tc (by kernel_rfl) I ?_ I) ?_
   ·simp; omega
   intro _; refine Nn (Xa (Cg (Km I (Kq I (Jb I I I gR (by kernel_rfl : _ = some 1) ?_) ?_))))
   ·omega
   refine Kq I (ld I I .tc u5 I (by exact iK K (· ^^^ 92) k c hc)) ?_; refine Kq I (kE I I I) (Ns 30 I (v' := B (c ^^^ 92)) (congrArg (Value.int .u8) (mF c 92)) ?_); refine Kq I (Jb I I I gR (by kernel_rfl : _ = some 1) ?_) ?_
   ·omega
   refine Ng I I (st I I I .tc (by kernel_rfl) I ?_ I) ?_
   ·simp; omega
   intro _; refine Nn (Xd (Xa (Cg ?_)))
   first
    | (refine Kq rfl (Rz rfl rfl rfl ?_) ?_; focus (omega))
    | (refine Kq rfl (bf rfl rfl rfl ?_) ?_; focus (omega))
   refine Km I (Nn ?_); exact WX.loop (k + 1) (by omega) (by repeat (first | exact S0 _ | refine Sc rfl ?_)) (fun w' h => ⟨by omega, by rw [iJ K (· ^^^ 54) k c hc, iJ K (· ^^^ 92) k c hc] at h; exact h⟩)
  ·refine AT ?_; obtain rfl : k = 64 := by omega
   rw [A8 (by omega), Db (by omega), Bl, Bl]; refine Xa (Cq (WC.mix [0, 0, 0, 0, 0, 0, 1, 0, 1, 0] (by kernel_rfl) (by kernel_rfl) (fun w h => h.draw) ?_)); refine FP ?_; refine WM.r I I I (b2s (l := K.map (· ^^^ 92)) I I .tc aE u5 u9 ?_ ?_) ?_
   ·rw [List.drop_zero, A8 (by simp [hKl])]
   ·simp [hKl]
   refine FP ?_; refine WM.r I I I (b2s (l := K.map (· ^^^ 54)) I I .tc aE u5 u9 ?_ ?_) ?_
   ·rw [List.drop_zero, A8 (by simp [hKl])]
   ·simp [hKl]
   refine EK ?_; refine WM.r I I I (fY I I I ?_) ?_
   ·simp [hKl]; omega
   refine WM.g I I I (Oc I I (Kv fun w _ => kp _ (by simp [hKl]; omega) w)) (fun _ _ h => by first | exact h | exact ⟨_, h⟩ | exact ⟨_, h.2⟩ | exact h.2 | exact h.sub (by repeat (first | exact Ax _ | apply List.Sublist.cons)) (fun _ h => by simp [*]) | exact h.2.sub (by repeat (first | exact Ax _ | apply List.Sublist.cons)) (fun _ h => by simp [*])) ?_; intro _; refine WM.r I I I (fY I I I ?_) ?_
   ·simp [hKl, gw]
   refine WM.g I I I (Oc I I (Kv fun w _ => kp _ (by simp [hKl, gw]) w)) (fun _ _ h => by first | exact h | exact ⟨_, h⟩ | exact ⟨_, h.2⟩ | exact h.2 | exact h.sub (by repeat (first | exact Ax _ | apply List.Sublist.cons)) (fun _ h => by simp [*]) | exact h.2.sub (by repeat (first | exact Ax _ | apply List.Sublist.cons)) (fun _ h => by simp [*])) ?_; intro _; refine WM.r I I I (Ra I I) ?_; refine WM.nil ?_; refine Xa (Ce ?_); exact WX.ret1 I I fun w' hS => ⟨by rw [mac, hx1, hx2], hS.below⟩
theorem AX {key s : List UInt8} {w : World} (hk : key.length ≤ 500000) (hs : s.length ≤ 500000) :
  Cw 232 #[.string (S key), .string (S s)] w (.string (S (mac key s))) :=
 zr key s hk hs w
structure Tp where
 vals : List Bs
 seed : Bs
 at_ : Int
deriving DecidableEq
abbrev Tp.v (t : Tp) (x : Value) : Value := .agg #[x, .string (S t.seed), .int .i64 t.at_]
def eD (t : Tp) : Prop := 0 ≤ t.at_ ∧ t.at_ ≤ 2147483647 ∧ ∀ s ∈ t.vals, okN s
instance (t : Tp) : Decidable (eD t) := inferInstanceAs (Decidable (_ ∧ _ ∧ _))
theorem l7 (l : List Bs) (k : Nat) (h : k < l.length) : l.getD k default ∈ l := by
 rw [List.getD_eq_getElem?_getD, Ad h]; exact D0 h
theorem sU {l : List Bs} {k : Nat} {p : Bs → Prop} (h : k < l.length) (h1 : ∀ s ∈ l.take k, p s) (h2 : p (l.getD k default)) : ∀ s ∈ l.take (k + 1), p s := by
 intro s hs
 rw [Bt, Ad h] at hs
 rw [List.getD_eq_getElem?_getD, Ad h] at h2
 rcases B6.1 hs with hs | hs
 ·exact h1 s hs
 ·simp at hs; subst hs; exact h2
theorem CF {a : Bs} {w : World} :
  Cw 193 #[.string (S a)] w (.bool (!decide (okN a))) := by
 refine En [] [(0, .string (S a))] Tryz.func193 I Tryz.ntmps193 I (Ac I (An _)) Fn (Cs (DT ?_)); refine Kc I (fun w hS => ay) (Yt I (to ?_))
 exact GH
theorem zG {l : List Bs} {a : Option Addr} {cap : Nat} {w : World} {ok : Nat → Prop} (hF1 : (Fact.sl a (an l)).holds ok w) (hl : l.length ≤ 9223372036854775807) :
  Calls Tryz.prog 81 #[.slice a l.length cap, .func (.func 193) #[] #[]] w fun e w' => ∃ r : Int, e = .returned (.int .i64 r) ∧ (0 ≤ r ↔ ¬ ∀ s ∈ l, okN s) ∧ Below w.heap.size w w' := by
 refine En [Fact.sl a (an l)] [(0, .slice a l.length cap), (1, .func (.func 193) #[] #[])] Tryz.func81 I Tryz.ntmps81 I (Ac I (Ac I (An _))) (Fc (ah hF1) Fn) (Cs (DR ?_)); refine FW ?_; refine Lp (σ := Nat) [(0, _), (1, _), (7, _)] (fun gq => [(8, .int .i64 (gq : Int))]) (fun gq => gq ≤ l.length ∧ ∀ s ∈ l.take gq, okN s) (fun gq => l.length - gq) (0) (S3 I I I) (S1 I) (by (try dsimp only); exact ⟨Ai _, fun s h => by simp at h⟩) ?_
 rintro k hinv1; (try dsimp only at hinv1 ⊢)
 obtain ⟨hk, hks⟩ := hinv1
 refine DP (fun hc9 => ?_) (fun hc9 => ?_)
 ·refine El ?_; refine DT ?_; refine Km I (Km I (DZ ?_))
  refine Kq I (ldm I I u22 I (by omega)) ?_
  refine Ku I (aN I I I (by kernel_rfl) I (Kv fun w hS => CF (a := l.getD k default))) (Nt (Ci I (fun hc16 => ?_) (fun hc16 => ?_)))
  ·refine Cs (Km I (to ?_)); refine DS ?_; exact Rn I (.tmp I .nil) fun w' hS => ⟨_, rfl, ⟨fun _ h => by have := h _ (l7 l k (by omega)); simp_all, fun _ => by omega⟩, hS.below⟩
  ·refine Ck (Xd (Xa (Cg (Kq I (Rz I I I (by omega)) (Km I (Nn (Ly (k + 1) (by (try dsimp only); omega) (S3 I I I) (by refine (Sc ?_ (S0 _)) <;> (rfl)) ?_ (fun _ h => h)))))))); (try dsimp only); exact ⟨by omega, sU (by omega) hks (by simpa using hc16)⟩
 ·refine AT ?_
  obtain rfl : k = l.length := by omega
  rw [A8 (Bd _)] at hks
  refine Xa (Cs (to ?_))
  exact Rn I (.tmp I .nil) fun w' hS => ⟨-1, rfl, ⟨fun h => by omega, fun h => absurd hks h⟩, hS.below⟩
theorem xp {P : Program} {f : FuncId} {args : Array Value} {ok : Nat → Prop} {w0 : World} {own : List Ent} {fs : List Fact} {γ : Type} {val : γ → Value} {p : γ → Prop} (h : ∀ w, St ok w0 own fs w → Calls P f args w (fun e w' => ∃ r : γ, e = .returned (val r) ∧ p r ∧ Below w.heap.size w w')) :
  ∀ w, St ok w0 own fs w → Calls P f args w (fun e w' => ∃ g, e = .returned (val g) ∧ (p g ∧ St ok w0 own fs w')) :=
 fun w hS => (h w hS).mono fun e w' ⟨r, h1, h2, h3⟩ => ⟨r, h1, h2, hS.keep h3⟩
theorem xS {l : List Bs} {a : Option Addr} {cap : Nat} {w : World} {ok : Nat → Prop} (hF1 : (Fact.sl a (an l)).holds ok w) (hl : l.length ≤ 9223372036854775807) :
  Cw 34 #[.slice a l.length cap, .func (.func 193) #[] #[]] w (.bool (decide (¬ ∀ s ∈ l, okN s))) := by
 refine En [Fact.sl a (an l)] [(0, .slice a l.length cap), (1, .func (.func 193) #[] #[])] Tryz.func34 I Tryz.ntmps34 I (Ac I (Ac I (An _))) (Fc (ah hF1) Fn) (Cs (DT ?_)); refine Km I (Kh I (Oc I I (xp fun w hS => zG (l := l) (a := a) (cap := cap) (w := w) hS.sl hl)) ?_)
 intro r; refine WL.pu ?_; intro hr
 refine Yh I (to ?_)
 exact Rn I (.tmp I .nil) fun w' hS => ⟨congrArg (fun b => Ending.returned (.bool b)) (Af.2 hr), hS.below⟩
theorem zL {t : Tp} {a : Option Addr} {cap : Nat} {w : World} {ok : Nat → Prop} (hF1 : (Fact.sl a (an t.vals)).holds ok w) (hl : t.vals.length ≤ 9223372036854775807) :
  Cw 147 #[t.v (.slice a t.vals.length cap)] w (.bool (decide (eD t))) := by
 refine En [Fact.sl a (an t.vals)] [(0, t.v (.slice a t.vals.length cap))] Tryz.func147 I Tryz.ntmps147 I (Ac I (An _)) (Fc (ah hF1) Fn) (DO ?_)
 intro b1
 refine Ka I (Nt (Cs (Kf 2 I u41 I I I .tc u3 ?_)))
 refine Yh I (Km I (Nc 6 I (fun hg6 => ?_) (fun hg6 => ?_)))
 ·refine Kf 2 I u41 I I I .tc u3 ?_
  refine Ym I (Yp I (Km I (Nc 11 I (fun hg11 => ?_) (fun hg11 => ?_))))
  ·refine Gw ?_; refine Kc I (fun w hS => xS (l := t.vals) (by (exact hS.sl)) (by assumption)) (Yt I (Yp I (to ?_))); exact Rn I (.tmp I .nil) fun w' hS => ⟨congrArg (fun b => Ending.returned (.bool b)) (by rw [Bz]; simp only [Bu, decide_eq_false_iff_not, decide_eq_true_eq, Classical.not_not, Dc]; unfold eD; (exact ⟨fun h => ⟨by omega, by omega, h⟩, fun h => h.2.2⟩)), hS.below⟩
  ·refine T4 I (Yq I (to ?_)); exact Rn I (.tmp I .nil) fun w' hS => ⟨congrArg (fun b => Ending.returned (.bool b)) (by rw [Bz]; simp only [Bu, decide_eq_false_iff_not, decide_eq_true_eq, Classical.not_not, Dc]; unfold eD; (exact ⟨fun h => h.elim, fun h => by omega⟩)), hS.below⟩
 ·refine T2 I (Kt I (Yq I (Km I (T4 I (Yq I (to ?_))))))
  exact Rn I (.tmp I .nil) fun w' hS => ⟨congrArg (fun b => Ending.returned (.bool b)) (by rw [Bz]; simp only [Bu, decide_eq_false_iff_not, decide_eq_true_eq, Classical.not_not, Dc]; unfold eD; (exact ⟨fun h => h.elim, fun h => by omega⟩)), hS.below⟩
def DJ (t : Tp) : Prop := t.vals.length ≤ 40 ∧ t.seed.length ≤ 100 ∧ ∀ s ∈ t.vals, s.length ≤ 140
instance (t : Tp) : Decidable (DJ t) := inferInstanceAs (Decidable (_ ∧ _ ∧ _))
theorem uA {s : Bs} {w : World} (hl : s.length ≤ 140737488351232) :
  Cw 143 #[.string (S s)] w (.bool (decide (ey s))) := by
 refine En [] [(0, .string (S s))] Tryz.func143 I Tryz.ntmps143 I (Ac I (An _)) Fn (Cs (DR ?_)); refine Yn I u9 (Km I (Nt (Cb (Lp (σ := Nat) [(0, _), (7, _)] (fun gq => [(8, .int .i64 (gq : Int))]) (fun gq => gq ≤ s.length ∧ ∀ j, j < gq → nmB j (s.getD j default)) (fun gq => s.length - gq) (0) (S2 I I) (S1 I) (by (try dsimp only); exact ⟨Ai _, fun j h => absurd h (by omega)⟩) ?_))))
 rintro i hinv1; (try dsimp only at hinv1 ⊢)
 obtain ⟨hi, hok⟩ := hinv1
 refine DP (fun hc9 => ?_) (fun hc9 => ?_)
 ·have hil : i < s.length := by omega
  obtain ⟨c, hc⟩ : ∃ c, Keep (c = s.getD i default) := ⟨_, rfl⟩
  refine Ck (Xa (Cq (Cb (Cs (Km I (Ka I (Nt (Cs (Km I (Km I (Kq I (bo I I I u9 ?_) ?_)))))))))))
  ·omega
  refine Ns 13 I (v' := .int .u8 (c.toNat : Int)) (by rw [show c = _ from hc, At]) ?_
  refine Ka I (Nt (WC.joinP (σ := Unit) [(0, _), (3, _), (4, _), (7, _), (8, _)] (fun gq => [(5, .bool (decide ((97 ≤ c.toNat ∧ c.toNat ≤ 122) ∨ (65 ≤ c.toNat ∧ c.toNat ≤ 90))))]) (fun gq => True) (S5 I I I I I) ?_ ?_))
  ·skip
   refine Cg (Km I (Yh I (Km I (Nc 16 I (fun hg16 => ?_) (fun hg16 => ?_)))))
   ·refine Km I (Ym I (Yp I (Km I (Nc 20 I (fun hg20 => ?_) (fun hg20 => ?_)))))
    ·refine T4 I (T2 I (Yp I (Ka I (Nn (WX.joinP (()) (S5 I I I I I) (by refine (Sc ?_ (S0 _)) <;> ((exact congrArg (fun b => some (Value.bool b)) (by symm; apply Am; omega)))) ?_ (fun _ h => h)))))); (try dsimp only); done
    ·refine Km I (Yh I (Km I (Nc 23 I (fun hg23 => ?_) (fun hg23 => ?_))))
     ·refine Km I (Ym I (Yp I (Yq I (Ka I (Nn (WX.joinP (()) (S5 I I I I I) (by refine (Sc ?_ (S0 _)) <;> ((refine ai rfl ?_; (try dsimp only); (exact Af.2 (by omega))))) ?_ (fun _ h => h))))))); (try dsimp only); done
     ·refine T2 I (Yq I (Yq I (Ka I (Nn (WX.joinP (()) (S5 I I I I I) (by refine (Sc ?_ (S0 _)) <;> ((exact congrArg (fun b => some (Value.bool b)) (by symm; apply Aq; omega)))) ?_ (fun _ h => h)))))); (try dsimp only); done
   ·refine T2 I (Yq I (Km I (Km I (Yh I (Km I (Nc 23 I (fun hg23 => ?_) (fun hg23 => ?_)))))))
    ·refine Km I (Ym I (Yp I (Yq I (Ka I (Nn (WX.joinP (()) (S5 I I I I I) (by refine (Sc ?_ (S0 _)) <;> ((refine ai rfl ?_; (try dsimp only); (exact Af.2 (by omega))))) ?_ (fun _ h => h))))))); (try dsimp only); done
    ·refine T2 I (Yq I (Yq I (Ka I (Nn (WX.joinP (()) (S5 I I I I I) (by refine (Sc ?_ (S0 _)) <;> ((exact congrArg (fun b => some (Value.bool b)) (by symm; apply Aq; omega)))) ?_ (fun _ h => h)))))); (try dsimp only); done
  ·rintro _ hmeet; (try dsimp only at hmeet ⊢); refine WC.joinP (σ := Unit) [(0, _), (7, _), (8, _)] (fun gq => [(45, .bool (decide (¬ (((97 ≤ c.toNat ∧ c.toNat ≤ 122) ∨ (65 ≤ c.toNat ∧ c.toNat ≤ 90)) ∨ (i ≠ 0 ∧ (c.toNat = 95 ∨ (48 ≤ c.toNat ∧ c.toNat ≤ 57)))))))]) (fun gq => True) (S3 I I I) ?_ ?_
   ·skip
    refine Cg (Km I (Yt I (Km I (Nc 30 I (fun hg30 => ?_) (fun hg30 => ?_)))))
    ·refine Km I (Yi I (Km I (Nc 33 I (fun hg33 => ?_) (fun hg33 => ?_))))
     ·refine T4 I (T4 I (T2 I (Yp I (Yp I (Nn (WX.joinP (()) (S3 I I I) (by refine (Sc ?_ (S0 _)) <;> ((exact congrArg (fun b => some (Value.bool b)) (by symm; apply Am; omega)))) ?_ (fun _ h => h))))))); (try dsimp only); done
     ·refine Km I (Yj I (Km I (Nc 36 I (fun hg36 => ?_) (fun hg36 => ?_))))
      ·refine Km I (Yl I (Km I (Nc 39 I (fun hg39 => ?_) (fun hg39 => ?_))))
       ·refine T2 I (Yp I (Yp I (Yq I (Yp I (Nn (WX.joinP (()) (S3 I I I) (by refine (Sc ?_ (S0 _)) <;> ((exact congrArg (fun b => some (Value.bool b)) (by symm; apply Am; omega)))) ?_ (fun _ h => h))))))); (try dsimp only); done
       ·refine Km I (Yg I (Yq I (Yp I (Yq I (Yp I (Nn (WX.joinP (()) (S3 I I I) (by refine (Sc ?_ (S0 _)) <;> ((refine ai rfl ?_; (try dsimp only); (exact Af.2 (by omega))))) ?_ (fun _ h => h)))))))); (try dsimp only); done
      ·refine T4 I (T2 I (Yq I (Yq I (Yp I (Nn (WX.joinP (()) (S3 I I I) (by refine (Sc ?_ (S0 _)) <;> ((exact congrArg (fun b => some (Value.bool b)) (by symm; apply Aq; omega)))) ?_ (fun _ h => h))))))); (try dsimp only); done
    ·refine T4 I (T4 I (T4 I (T2 I (Yq I (Nn (WX.joinP (()) (S3 I I I) (by refine (Sc ?_ (S0 _)) <;> ((refine ai rfl ?_; (try dsimp only); (simp [*]; done)))) ?_ (fun _ h => h))))))); (try dsimp only); done
   ·rintro _ hmeet; (try dsimp only at hmeet ⊢); refine Ci I (fun hc45 => ?_) (fun hc45 => ?_)
    ·have hno : ¬ ey s := fun h => hc45 (by have := h.1 i hil; rw [← show c = _ from hc] at this; exact this)
     refine Cs (to ?_); refine DS ?_; exact R1 I I (by rw [Aq hno]; rfl)
    ·have hyes : nmB i (s.getD i default) := by rw [← show c = _ from hc]; exact Ao.1 hc45
     refine Ck (Xd (Xa (Cg (Kq I (Rz I I I (by omega)) (Km I (Nn (Ly (i + 1) (by (try dsimp only); omega) (S2 I I) (by refine (Sc ?_ (S0 _)) <;> (rfl)) ?_ (fun _ h => h)))))))); (try dsimp only); exact ⟨by omega, fun j hj => by rcases Nat.lt_or_eq_of_le (C6 hj) with h | rfl; exact hok j h; exact hyes⟩
 ·refine AT ?_
  obtain rfl : i = s.length := by omega
  have hq : ey s ↔ (s ≠ [] ∧ s.length ≤ 32) := ⟨fun h => h.2, fun h => ⟨hok, h⟩⟩
  refine Xa (Cs (Km I (Yr I (Km I (Nc 49 I (fun hg49 => ?_) (fun hg49 => ?_))))))
  ·refine Km I (Yn I u9 (Ym I (Yp I (to ?_)))); exact R1 I I (by (rw [show decide (ey s) = decide ((s.length : Int) ≤ 32) from Af.2 ⟨fun h => by have := h.2.2; omega, fun h => ⟨hok, by simpa using hg49, by omega⟩⟩]; rfl))
  ·refine T2 I (Kt I (Yq I (to ?_))); exact R1 I I (by (rw [Aq (show ¬ ey s from fun h => h.2.1 (by simpa using hg49))]; rfl))
theorem wF {s : Bs} {w : World} (hl : s.length ≤ 140737488351232) :
  Cw 100 #[.string (S s)] w (.bool (decide (ey s))) := by
 refine En [] [(0, .string (S s))] Tryz.func100 I Tryz.ntmps100 I (Ac I (An _)) Fn (Cs (E5 ?_)); refine Lp (σ := Nat) [(0, _)] (fun gq => [(3, .int .i64 (gq : Int))]) (fun gq => gq ≤ s.length ∧ ∀ j, j < gq → nmB j (s.getD j default)) (fun gq => s.length - gq) (0) (S1 I) (S1 I) (by (try dsimp only); exact ⟨Ai _, fun j h => absurd h (by omega)⟩) ?_
 rintro i hinv1; (try dsimp only at hinv1 ⊢)
 obtain ⟨hi, hok⟩ := hinv1
 refine E0 ?_; refine Yn I u9 (Ew (fun hc9 => ?_) (fun hc9 => ?_))
 ·have hil : i < s.length := by omega
  obtain ⟨c, hc⟩ : ∃ c, Keep (c = s.getD i default) := ⟨_, rfl⟩
  refine Ck (Xa (Cq (Cb (Cs (Km I (Km I (Kq I (bo I I I u9 ?_) ?_)))))))
  ·omega
  refine Ns 14 I (v' := .int .u8 (c.toNat : Int)) (by rw [show c = _ from hc, At]) ?_
  refine Ka I (Nt (WC.joinP (σ := Unit) [(0, _), (3, _), (4, _)] (fun gq => [(5, .bool (decide ((97 ≤ c.toNat ∧ c.toNat ≤ 122) ∨ (65 ≤ c.toNat ∧ c.toNat ≤ 90))))]) (fun gq => True) (S3 I I I) ?_ ?_))
  ·skip
   refine Cg (Km I (Yh I (Km I (Nc 17 I (fun hg17 => ?_) (fun hg17 => ?_)))))
   ·refine Km I (Ym I (Yp I (Km I (Nc 21 I (fun hg21 => ?_) (fun hg21 => ?_)))))
    ·refine T4 I (T2 I (Yp I (Ka I (Nn (WX.joinP (()) (S3 I I I) (by refine (Sc ?_ (S0 _)) <;> ((exact congrArg (fun b => some (Value.bool b)) (by symm; apply Am; omega)))) ?_ (fun _ h => h)))))); (try dsimp only); done
    ·refine Km I (Yh I (Km I (Nc 24 I (fun hg24 => ?_) (fun hg24 => ?_))))
     ·refine Km I (Ym I (Yp I (Yq I (Ka I (Nn (WX.joinP (()) (S3 I I I) (by refine (Sc ?_ (S0 _)) <;> ((refine ai rfl ?_; (try dsimp only); (exact Af.2 (by omega))))) ?_ (fun _ h => h))))))); (try dsimp only); done
     ·refine T2 I (Yq I (Yq I (Ka I (Nn (WX.joinP (()) (S3 I I I) (by refine (Sc ?_ (S0 _)) <;> ((exact congrArg (fun b => some (Value.bool b)) (by symm; apply Aq; omega)))) ?_ (fun _ h => h)))))); (try dsimp only); done
   ·refine T2 I (Yq I (Km I (Km I (Yh I (Km I (Nc 24 I (fun hg24 => ?_) (fun hg24 => ?_)))))))
    ·refine Km I (Ym I (Yp I (Yq I (Ka I (Nn (WX.joinP (()) (S3 I I I) (by refine (Sc ?_ (S0 _)) <;> ((refine ai rfl ?_; (try dsimp only); (exact Af.2 (by omega))))) ?_ (fun _ h => h))))))); (try dsimp only); done
    ·refine T2 I (Yq I (Yq I (Ka I (Nn (WX.joinP (()) (S3 I I I) (by refine (Sc ?_ (S0 _)) <;> ((exact congrArg (fun b => some (Value.bool b)) (by symm; apply Aq; omega)))) ?_ (fun _ h => h)))))); (try dsimp only); done
  ·rintro _ hmeet; (try dsimp only at hmeet ⊢); refine WC.joinP (σ := Unit) [(0, _), (3, _)] (fun gq => [(46, .bool (decide (¬ (((97 ≤ c.toNat ∧ c.toNat ≤ 122) ∨ (65 ≤ c.toNat ∧ c.toNat ≤ 90)) ∨ (i ≠ 0 ∧ (c.toNat = 95 ∨ (48 ≤ c.toNat ∧ c.toNat ≤ 57)))))))]) (fun gq => True) (S2 I I) ?_ ?_
   ·skip
    refine Cg (Km I (Yt I (Km I (Nc 31 I (fun hg31 => ?_) (fun hg31 => ?_)))))
    ·refine Km I (Yi I (Km I (Nc 34 I (fun hg34 => ?_) (fun hg34 => ?_))))
     ·refine T4 I (T4 I (T2 I (Yp I (Yp I (Nn (WX.joinP (()) (S2 I I) (by refine (Sc ?_ (S0 _)) <;> ((exact congrArg (fun b => some (Value.bool b)) (by symm; apply Am; omega)))) ?_ (fun _ h => h))))))); (try dsimp only); done
     ·refine Km I (Yj I (Km I (Nc 37 I (fun hg37 => ?_) (fun hg37 => ?_))))
      ·refine Km I (Yl I (Km I (Nc 40 I (fun hg40 => ?_) (fun hg40 => ?_))))
       ·refine T2 I (Yp I (Yp I (Yq I (Yp I (Nn (WX.joinP (()) (S2 I I) (by refine (Sc ?_ (S0 _)) <;> ((exact congrArg (fun b => some (Value.bool b)) (by symm; apply Am; omega)))) ?_ (fun _ h => h))))))); (try dsimp only); done
       ·refine Km I (Yg I (Yq I (Yp I (Yq I (Yp I (Nn (WX.joinP (()) (S2 I I) (by refine (Sc ?_ (S0 _)) <;> ((refine ai rfl ?_; (try dsimp only); (exact Af.2 (by omega))))) ?_ (fun _ h => h)))))))); (try dsimp only); done
      ·refine T4 I (T2 I (Yq I (Yq I (Yp I (Nn (WX.joinP (()) (S2 I I) (by refine (Sc ?_ (S0 _)) <;> ((exact congrArg (fun b => some (Value.bool b)) (by symm; apply Aq; omega)))) ?_ (fun _ h => h))))))); (try dsimp only); done
    ·refine T4 I (T4 I (T4 I (T2 I (Yq I (Nn (WX.joinP (()) (S2 I I) (by refine (Sc ?_ (S0 _)) <;> ((refine ai rfl ?_; (try dsimp only); (simp [*]; done)))) ?_ (fun _ h => h))))))); (try dsimp only); done
   ·rintro _ hmeet; (try dsimp only at hmeet ⊢); refine Ci I (fun hc46 => ?_) (fun hc46 => ?_)
    ·have hno : ¬ ey s := fun h => hc46 (by have := h.1 i hil; rw [← show c = _ from hc] at this; exact this)
     refine Cs (to ?_); refine DS ?_; exact R1 I I (by rw [Aq hno]; rfl)
    ·have hyes : nmB i (s.getD i default) := by rw [← show c = _ from hc]; exact Ao.1 hc46
     refine Ck (Xd (Xa (Cg (Km I (Kq I (Rz I I I (by omega)) (Ka I (Nn (Ly (i + 1) (by (try dsimp only); omega) (S1 I) (by refine (Sc ?_ (S0 _)) <;> (rfl)) ?_ (fun _ h => h))))))))); (try dsimp only); exact ⟨by omega, fun j hj => by rcases Nat.lt_or_eq_of_le (C6 hj) with h | rfl; exact hok j h; exact hyes⟩
 ·refine AT ?_
  obtain rfl : i = s.length := by omega
  have hq : ey s ↔ (s ≠ [] ∧ s.length ≤ 32) := ⟨fun h => h.2, fun h => ⟨hok, h⟩⟩
  refine Xa (Cs (Km I (Yr I (Km I (Nc 49 I (fun hg49 => ?_) (fun hg49 => ?_))))))
  ·refine Km I (Yn I u9 (Ym I (Yp I (to ?_)))); exact R1 I I (by (rw [show decide (ey s) = decide ((s.length : Int) ≤ 32) from Af.2 ⟨fun h => by have := h.2.2; omega, fun h => ⟨hok, by simpa using hg49, by omega⟩⟩]; rfl))
  ·refine T2 I (Kt I (Yq I (to ?_))); exact R1 I I (by (rw [Aq (show ¬ ey s from fun h => h.2.1 (by simpa using hg49))]; rfl))
def s9 (l : List Bs) : Prop := ∀ x ∈ l, okN x
instance (l : List Bs) : Decidable (s9 l) := inferInstanceAs (Decidable (∀ x ∈ l, _))
abbrev TabD (w : World) : Prop := Go.Proofs.TabAt (renTz.g 1) Lib.deBruijn64tab w
theorem oY {w w' : World} (h : TabD w) (hb : Below w.heap.size w w') : TabD w' := by
 intro j hj
 have h1 := h j hj
 have hlt : renTz.g 1 < w.heap.size := by
  rcases Cy (renTz.g 1) w.heap.size with q | q
  ·exact q
  ·unfold World.cell? at h1; rw [Array.getElem?_eq_none q] at h1; cases h1
 unfold World.cell? at h1 ⊢
 rw [hb.block _ hlt]; exact h1
theorem bh {ok : Nat → Prop} {w0 w : World} {own : List Ent} {fs : List Fact} (h : TabD w0) (hS : St ok w0 own fs w) : TabD w := oY h hS.below
theorem qV : ∀ (f n : Nat), Lib.ctzFrom f n = tzA f n
 | 0, _ => rfl
 | f + 1, n => by
  rw [Lib.ctzFrom, tzA, qV f]
  by_cases h : n % 2 = 1
  ·rw [Ab h, Aa (by omega)]
  ·rw [Aa h, Ab (by omega), Dp]
theorem zU {n : Nat} (h : 0 < n) : Lib.ctz 64 n = tz n := by rw [Lib.ctz, Aa (by omega), qV]; rfl
theorem CW {n : Nat} {w : World} (hn0 : 0 < n) (hn : n < 18446744073709551616) (hD : TabD w) :
  Cw 241 #[.int .u64 (n : Int)] w (.int .i64 ((tz n : Nat) : Int)) :=
 (yG n hn w (fun _ => hD)).mono fun _ _ ⟨h1, h2⟩ => ⟨by rw [h1, zU hn0], by rw [h2]; exact Below.refl _ _⟩
theorem m7 {a b m : Nat} {w : World} (ha : a < m) (hb : b < m) (hm : m < 18446744073709551616) :
  Cw 243 #[.int .u64 (a : Int), .int .u64 (b : Int), .int .u64 (m : Int)] w (.int .u64 ((a * b % m : Nat) : Int)) := by
 have hml : a * b < m * 18446744073709551616 := Dz ha (Do hb hm)
 have hhi : a * b / 18446744073709551616 < m := by rw [Ca (by decide)]; exact hml
 have hlo : a * b % 18446744073709551616 < 18446744073709551616 := Ak _ (by decide)
 have hd : a * b / 18446744073709551616 * 18446744073709551616 + a * b % 18446744073709551616 = a * b := by rw [Aj]; exact Bc _ _
 refine En [] [(0, .int .u64 (a : Int)), (1, .int .u64 (b : Int)), (2, .int .u64 (m : Int))] Tryz.func243 I Tryz.ntmps243 I (Ac I (Ac I (Ac I (An _)))) Fn (Cs (DT ?_)); refine Km I (Kc I (fun w hS => ni (x := a) (y := b) (by omega) (by omega)) (BY ?_)); refine FS ?_; refine Km I (Kc I (fun w hS => qS (u := a * b / 18446744073709551616) (lo := a * b % 18446744073709551616) (y := m) (by assumption) (by assumption) (by assumption)) (BY ?_)); refine Cs (Km I (to ?_))
 exact R1 I I (by rw [hd]; rfl)
theorem y9 {a e0 m : Nat} {w : World} (ha : a < m) (he : e0 < 18446744073709551616) (hm : m < 18446744073709551616) :
  Cw 242 #[.int .u64 (a : Int), .int .u64 (e0 : Int), .int .u64 (m : Int)] w (.int .u64 ((a ^ e0 % m : Nat) : Int)) := by
 have hm0 : 0 < m := by omega
 refine En [] [(0, .int .u64 (a : Int)), (1, .int .u64 (e0 : Int)), (2, .int .u64 (m : Int))] Tryz.func242 I Tryz.ntmps242 I (Ac I (Ac I (Ac I (An _)))) Fn (Cs (Ka I (Nt (Cs (Km I (Kq I (bt (a := 1) I I I ?_) ?_))))))
 ·assumption
 refine Ka I (Nt (Cq (Cb (Lp (σ := Nat × Nat × Nat) [(2, _)] (fun gq => [(0, .int .u64 (gq.2.1 : Int)), (1, .int .u64 (gq.1 : Int)), (7, .int .u64 (gq.2.2 : Int))]) (fun gq => gq.1 < 18446744073709551616 ∧ gq.2.1 < m ∧ gq.2.2 < m ∧ gq.2.2 * gq.2.1 ^ gq.1 % m = a ^ e0 % m) (fun gq => gq.1) (e0, a, 1 % m) (S1 I) (S3 I I I) (by (try dsimp only); exact ⟨he, ha, Ak _ hm0, by rw [mml, Cm]⟩) ?_))))
 rintro ⟨n, b, x⟩ hinv1; (try dsimp only at hinv1 ⊢)
 obtain ⟨hn, hb, hx, hi⟩ := hinv1
 refine Cq (Cs (Km I (FR (fun hc11 => ?_) (fun hc11 => ?_))))
 ·have hnp : 0 < n := by omega
  refine Ck (Xa (Cq (Cb (Cq (Cs (Km I (Kq I (bt (c := 2) I I I ?_) ?_)))))))
  ·omega
  refine FT (fun hc16 => ?_) (fun hc16 => ?_)
  ·refine Cg (Km I (Km I (Km I (Kc I (fun w hS => m7 (a := x) (b := b) (m := m) (by assumption) (by assumption) (by assumption)) (Ka I (Nt (Cg (Km I (Km I (Km I (Kc I (fun w hS => m7 (a := b) (b := b) (m := m) (by assumption) (by assumption) (by assumption)) (Ka I (Nn (Xd (Xa (Cg (Km I (Kq I (cF (c := 2) I I I ?_) ?_))))))))))))))))))
   ·omega
   refine Ka I (Nn (Ly ((n / 2, b * b % m, x * b % m)) (by (try dsimp only); omega) (S1 I) (by refine (Sc ?_ (Sc ?_ (Sc ?_ (S0 _)))) <;> (rfl)) ?_ (fun _ h => h))); (try dsimp only); exact ⟨by omega, Ak _ hm0, Ak _ hm0, by rw [n9 (by omega) hnp, hi]⟩
  ·refine Ck (Xa (Cg (Km I (Km I (Km I (Kc I (fun w hS => m7 (a := b) (b := b) (m := m) (by assumption) (by assumption) (by assumption)) (Ka I (Nn (Xd (Xa (Cg (Km I (Kq I (cF (c := 2) I I I ?_) ?_)))))))))))))
   ·omega
   refine Ka I (Nn (Ly ((n / 2, b * b % m, x)) (by (try dsimp only); omega) (S1 I) (by refine (Sc ?_ (Sc ?_ (Sc ?_ (S0 _)))) <;> (rfl)) ?_ (fun _ h => h))); (try dsimp only); exact ⟨by omega, Ak _ hm0, hx, by rw [oa (by omega), hi]⟩
 ·refine AT ?_
  obtain rfl : n = 0 := by omega
  rw [B1, A0, Ah hx] at hi
  refine Xa (Cs (Km I (to ?_)))
  exact R1 I I (by rw [hi]; rfl)
theorem lu {a b m : Nat} {w : World} (ha : a < m) (hb : b < m) (hm : m < 18446744073709551616) :
  Cw 269 #[.int .u64 (a : Int), .int .u64 (b : Int), .int .u64 (m : Int)] w (.int .u64 (((a + b) % m : Nat) : Int)) := by
 refine En [] [(0, .int .u64 (a : Int)), (1, .int .u64 (b : Int)), (2, .int .u64 (m : Int))] Tryz.func269 I Tryz.ntmps269 I (Ac I (Ac I (Ac I (An _)))) Fn (Cs (DR ?_)); refine Km I (Km I (Kq I (bU I I I (by omega)) (E7 (fun hc11 => ?_) (fun hc11 => ?_))))
 ·have hr : (a + b) % m = a - (m - b) := by
   rw [show a + b = m + (a - (m - b)) by omega, Nat.add_mod_left, Ah (by omega)]
  refine FS ?_; refine Km I (Kq I (bU I I I (by omega)) (Kq I (bU I I I (by omega)) (ne ?_)))
  exact Gz
 ·have hr : (a + b) % m = a + b := Ah (by omega)
  refine EN ?_; refine Kq I (bN I I I (by omega)) (to ?_)
  exact Gz
theorem iG {a b0 m : Nat} {w : World} (ha : a < m) (hb : b0 < m) (hm : m < 18446744073709551616) :
  Cw 261 #[.int .u64 (a : Int), .int .u64 (b0 : Int), .int .u64 (m : Int)] w (.int .u64 ((a * b0 % m : Nat) : Int)) := by
 refine En [] [(0, .int .u64 (a : Int)), (1, .int .u64 (b0 : Int)), (2, .int .u64 (m : Int))] Tryz.func261 I Tryz.ntmps261 I (Ac I (Ac I (Ac I (An _)))) Fn (Cs (DR ?_)); refine Ew (fun hc9 => ?_) (fun hc9 => ?_)
 ·have hml : a * b0 < 18446744073709551616 := Ay (Dz (by omega : a < 4294967296) (by omega : b0 < 4294967296)) (by decide)
  refine Cs (Km I (Km I (Kq I (bH I I I (by assumption)) (Km I (Kq I (bt I I I ?_) ?_)))))
  ·omega
  refine ne ?_
  exact GH
 ·refine Ck (Xa (Cs (Ka I (Nt (Cq (Cb (Lp (σ := Nat × Nat × Nat) [(2, _)] (fun gq => [(0, .int .u64 (gq.2.1 : Int)), (1, .int .u64 (gq.1 : Int)), (7, .int .u64 (gq.2.2 : Int))]) (fun gq => gq.1 < 18446744073709551616 ∧ gq.2.1 < m ∧ gq.2.2 < m ∧ (gq.2.2 + gq.2.1 * gq.1) % m = a * b0 % m) (fun gq => gq.1) (b0, a, 0) (S1 I) (S3 I I I) (by (try dsimp only); exact ⟨by omega, ha, by omega, by rw [Az]⟩) ?_)))))))
  rintro ⟨n, b, x⟩ hinv1; (try dsimp only at hinv1 ⊢)
  obtain ⟨hn, hb2, hx, hi⟩ := hinv1
  refine Cq (Cs (Km I (FR (fun hc16 => ?_) (fun hc16 => ?_))))
  ·have hnp : 0 < n := by omega
   refine Ck (Xa (Cb (Cq (Cs (Km I (Kq I (bt (c := 2) I I I ?_) ?_))))))
   ·omega
   refine FT (fun hc19 => ?_) (fun hc19 => ?_)
   ·refine Cg (Km I (Km I (Km I (Kc I (fun w hS => lu (a := x) (b := b) (m := m) (by assumption) (by assumption) (by assumption)) (Ka I (Nt (Cs (Km I (Km I (Km I (Kc I (fun w hS => lu (a := b) (b := b) (m := m) (by assumption) (by assumption) (by assumption)) (Ka I (Nt (Cg (Km I (Kq I (cF (c := 2) I I I ?_) ?_))))))))))))))))
    ·omega
    refine Ka I (Nn (Xd (Ly ((n / 2, (b + b) % m, (x + b) % m)) (by (try dsimp only); omega) (S1 I) (by refine (Sc ?_ (Sc ?_ (Sc ?_ (S0 _)))) <;> (rfl)) ?_ (fun _ h => h)))); (try dsimp only)
    exact ⟨by omega, Ak _ (by omega), Ak _ (by omega), by
     rw [← hi, Nat.add_mod, Nat.mod_mod, mml, ← Nat.add_mod]; congr 1; have e : n = 2 * (n / 2) + 1 := by omega
     conv => rhs; rw [e]
     rw [Bf, A0, ← Nat.two_mul, Au, Bm]; omega⟩
   ·refine Ck (Xa (Cs (Km I (Km I (Km I (Kc I (fun w hS => lu (a := b) (b := b) (m := m) (by assumption) (by assumption) (by assumption)) (Ka I (Nt (Cg (Km I (Kq I (cF (c := 2) I I I ?_) ?_)))))))))))
    ·omega
    refine Ka I (Nn (Xd (Ly ((n / 2, (b + b) % m, x)) (by (try dsimp only); omega) (S1 I) (by refine (Sc ?_ (Sc ?_ (Sc ?_ (S0 _)))) <;> (rfl)) ?_ (fun _ h => h)))); (try dsimp only)
    exact ⟨by omega, Ak _ (by omega), hx, by
     rw [← hi, Nat.add_mod, mml, ← Nat.add_mod]; congr 1; have e : n = 2 * (n / 2) := by omega
     conv => rhs; rw [e]
     rw [← Nat.two_mul, Au, Bm]⟩
  ·refine AT ?_; obtain rfl : n = 0 := by omega
   rw [Nat.mul_zero, Ba, Ah hx] at hi; refine Xa (Cs (Km I (to ?_))); exact R1 I I (by rw [hi]; rfl)
theorem uR {a e0 m : Nat} {w : World} (ha : a < m) (he : e0 < 18446744073709551616) (hm : m < 18446744073709551616) :
  Cw 260 #[.int .u64 (a : Int), .int .u64 (e0 : Int), .int .u64 (m : Int)] w (.int .u64 ((a ^ e0 % m : Nat) : Int)) := by
 have hm0 : 0 < m := by omega
 refine En [] [(0, .int .u64 (a : Int)), (1, .int .u64 (e0 : Int)), (2, .int .u64 (m : Int))] Tryz.func260 I Tryz.ntmps260 I (Ac I (Ac I (Ac I (An _)))) Fn (Cs (Ka I (Nt (Cs (Km I (Kq I (bt (a := 1) I I I ?_) ?_))))))
 ·assumption
 refine Ka I (Nt (Cq (Cb (Lp (σ := Nat × Nat × Nat) [(2, _)] (fun gq => [(0, .int .u64 (gq.2.1 : Int)), (1, .int .u64 (gq.1 : Int)), (7, .int .u64 (gq.2.2 : Int))]) (fun gq => gq.1 < 18446744073709551616 ∧ gq.2.1 < m ∧ gq.2.2 < m ∧ gq.2.2 * gq.2.1 ^ gq.1 % m = a ^ e0 % m) (fun gq => gq.1) (e0, a, 1 % m) (S1 I) (S3 I I I) (by (try dsimp only); exact ⟨he, ha, Ak _ hm0, by rw [mml, Cm]⟩) ?_))))
 rintro ⟨n, b, x⟩ hinv1; (try dsimp only at hinv1 ⊢)
 obtain ⟨hn, hb, hx, hi⟩ := hinv1
 refine Cq (Cs (Km I (FR (fun hc11 => ?_) (fun hc11 => ?_))))
 ·have hnp : 0 < n := by omega
  refine Ck (Xa (Cb (Cq (Cs (Km I (Kq I (bt (c := 2) I I I ?_) ?_))))))
  ·omega
  refine FT (fun hc14 => ?_) (fun hc14 => ?_)
  ·refine Cg (Km I (Km I (Km I (Kc I (fun w hS => iG (a := x) (b0 := b) (m := m) (by assumption) (by assumption) (by assumption)) (Ka I (Nt (Cs (Km I (Km I (Km I (Kc I (fun w hS => iG (a := b) (b0 := b) (m := m) (by assumption) (by assumption) (by assumption)) (Ka I (Nt (Cg (Km I (Kq I (cF (c := 2) I I I ?_) ?_))))))))))))))))
   ·omega
   refine Ka I (Nn (Xd (Ly ((n / 2, b * b % m, x * b % m)) (by (try dsimp only); omega) (S1 I) (by refine (Sc ?_ (Sc ?_ (Sc ?_ (S0 _)))) <;> (rfl)) ?_ (fun _ h => h)))); (try dsimp only); exact ⟨by omega, Ak _ hm0, Ak _ hm0, by rw [n9 (by omega) hnp, hi]⟩
  ·refine Ck (Xa (Cs (Km I (Km I (Km I (Kc I (fun w hS => iG (a := b) (b0 := b) (m := m) (by assumption) (by assumption) (by assumption)) (Ka I (Nt (Cg (Km I (Kq I (cF (c := 2) I I I ?_) ?_)))))))))))
   ·omega
   refine Ka I (Nn (Xd (Ly ((n / 2, b * b % m, x)) (by (try dsimp only); omega) (S1 I) (by refine (Sc ?_ (Sc ?_ (Sc ?_ (S0 _)))) <;> (rfl)) ?_ (fun _ h => h)))); (try dsimp only); exact ⟨by omega, Ak _ hm0, hx, by rw [oa (by omega), hi]⟩
 ·refine AT ?_
  obtain rfl : n = 0 := by omega
  rw [B1, A0, Ah hx] at hi
  refine Xa (Cs (Km I (to ?_)))
  exact R1 I I (by rw [hi]; rfl)
theorem og {w : World} :
  Cw 240 #[] w (.agg (ps12.map vU).toArray) := by
 refine En [] [] Tryz.func240 I Tryz.ntmps240 I (An _) Fn (Cs (Kh I (Oz [.int .u64 0, .int .u64 0, .int .u64 0, .int .u64 0, .int .u64 0, .int .u64 0, .int .u64 0, .int .u64 0, .int .u64 0, .int .u64 0, .int .u64 0, .int .u64 0] I) ?_))
 intro b0
 refine Nt (Cs (Kq I (kN I I (v := .agg #[.int .u64 2, .int .u64 3, .int .u64 5, .int .u64 7, .int .u64 11, .int .u64 13, .int .u64 17, .int .u64 19, .int .u64 23, .int .u64 29, .int .u64 31, .int .u64 37]) (fun w => by kernel_rfl)) ?_))
 refine DQ ?_; refine Nt (Ce ?_)
 exact WX.ret1c (cs := ps12.map vU) rfl rfl .here yC rfl (by kernel_rfl) fun w' hS => ⟨rfl, hS.below⟩
theorem AQ {n : Nat} {w : World} (hn : n < 18446744073709551616) (hD : TabD w) :
  Cw 207 #[.int .u64 (n : Int)] w (.bool (isP n)) := by
 refine En [] [(0, .int .u64 (n : Int))] Tryz.func207 I Tryz.ntmps207 I (Ac I (An _)) Fn (Cs (Ka I (Nt (WC.scope ?_))))
 refine Cq (Cs (Km I (Ew (fun hc12 => ?_) (fun hc12 => ?_))))
 ·refine Cs (ne ?_); refine WX.scope_ret ?_
  exact R1 I I (by rw [isP, Ab (by omega)]; rfl)
 ·have hn2 : ¬ n < 2 := by omega
  refine Gg ?_; refine Kc I (fun w hS => og) (Km I (Nt (Cb (Lp (σ := Nat) [(0, _), (13, _)] (fun gq => [(14, .int .i64 (gq : Int))]) (fun gq => gq ≤ 12 ∧ tdiv n (ps12.drop gq) = tdiv n ps12) (fun gq => 12 - gq) (0) (S2 I I) (S1 I) (by (try dsimp only); exact ⟨by omega, rfl⟩) ?_))))
  rintro k hinv1; (try dsimp only at hinv1 ⊢)
  obtain ⟨hk, htd⟩ := hinv1
  refine DP (fun hc15 => ?_) (fun hc15 => ?_)
  ·have hk12 : k < 12 := by omega
   have hpb := qo hk12; rw [lM n hk12] at htd; refine Ck (Xa (Cq (Cb (Cs (Kq I (jY I I I yC u76 I (by kernel_rfl) ?_ (by (rw [At]; exact m9 hk12))) ?_)))))
   ·omega
   refine Ka I (Nt (Cs (Km I (Km I (Kq I (bt I I I ?_) ?_)))))
   ·omega
   refine FT (fun hc20 => ?_) (fun hc20 => ?_)
   ·rw [Ab (by omega)] at htd; refine FS ?_; refine Yi I (to ?_); refine DS ?_; refine WX.scope_ret ?_; exact R1 I I (by rw [k5 hn2 htd.symm]; exact congrArg Ending.returned (congrArg Value.bool (Af.2 (by omega))))
   ·rw [Aa (by omega)] at htd; refine Ck (Xd (Xa (Cg (Kq I (Rz I I I (by omega)) (Km I (Nn (Ly (k + 1) (by (try dsimp only); omega) (S2 I I) (by refine (Sc ?_ (S0 _)) <;> (rfl)) ?_ (fun _ h => h)))))))); (try dsimp only); exact ⟨by omega, htd⟩
  ·refine AT ?_; obtain rfl : k = 12 := by omega
   have hno : tdiv n ps12 = none := htd.symm; have hodd := je hno 2 (by decide); have htp := yF (n := n - 1) (by omega); have htl := AF (n - 1); obtain ⟨s, hs⟩ : ∃ s, s = tz (n - 1) := ⟨_, rfl⟩; obtain ⟨d, hd⟩ : ∃ d, d = (n - 1) / 2 ^ s := ⟨_, rfl⟩; have hdn : d < 18446744073709551616 := by rw [hd]; exact Bj (Bw _ _) (by omega)
   have hst : ∀ a, stN n a = tr n a s d := fun a => by rw [hd, hs]; rfl
   refine Xa (Cs (Km I (FC ?_))); refine Kc I (fun w hS => CW (n := n - 1) (by omega) (by omega) (by (exact bh hD hS))) (Ns 27 I (v' := .int .i64 ((s : Nat) : Int)) (congrArg (Value.int .i64) (by rw [hs])) ?_); refine DT ?_; refine FC ?_; refine Km I (Gk ?_); refine Ns 31 I (v' := .int .u64 ((d : Nat) : Int)) (congrArg (Value.int .u64) (by rw [hd])) ?_; refine Ka I (Nt (Cq (WC.label ?_))); refine Xa (Cq (Cs (Kc I (fun w hS => og) (Km I (Nt (Cb (Lp (σ := Nat) [(0, _), (5, _), (6, _), (32, _)] (fun gq => [(33, .int .i64 (gq : Int))]) (fun gq => gq ≤ 12 ∧ (ps12.drop gq).all (stN n) = ps12.all (stN n)) (fun gq => 12 - gq) (0) (S4 I I I I) (S1 I) (by (try dsimp only); exact ⟨by omega, rfl⟩) ?_))))))); rintro j hinv2; (try dsimp only at hinv2 ⊢); obtain ⟨hj, hall⟩ := hinv2; refine DP (fun hc34 => ?_) (fun hc34 => ?_)
   ·have hj12 : j < 12 := by omega
    have hjb := qo hj12; rw [oM _ hj12] at hall; have hjn : pk j % n < n := Ak _ (by omega); obtain ⟨x0, hx0⟩ : ∃ x, x = pk j ^ d % n := ⟨_, rfl⟩; have hpx : (pk j % n) ^ d % n = x0 := by rw [hx0]; exact (Nat.pow_mod (pk j) d n).symm
    have hxl : x0 < n := by rw [hx0]; exact Ak _ (by omega)
    have hsj : stN n (pk j) = (decide (x0 = 1) || sqs n s x0) := by rw [hst, tr, ← hx0]
    refine Ck (Xa (Cq (Cb (Cs (Kq I (jY I I I yC u76 I (by kernel_rfl) ?_ (by (rw [At]; exact m9 hj12))) ?_)))))
    ·omega
    refine Ka I (Nt (Cs (Km I (Km I (Kq I (bt I I I ?_) ?_)))))
    ·omega
    refine Km I (Km I (Kc I (fun w hS => y9 (a := pk j % n) (e0 := d) (m := n) (by assumption) (by assumption) (by assumption)) (Ns 41 I (v' := .int .u64 ((x0 : Nat) : Int)) (congrArg (Value.int .u64) (by rw [hpx])) ?_))); refine DR ?_; refine Yi I (Km I (Nc 44 I (fun hg44 => ?_) (fun hg44 => ?_)))
    ·refine T4 I (Yp I (Nt (Cd I (fun _ => ?_) (fun h => by cases h)))); have hstr : stN n (pk j) = true := by rw [hsj, Am (by omega)]; rfl
     refine Cx (Xc (Xe (Xa (Cg (Kq I (Rz I I I (by omega)) (Km I (Nn ?_))))))); refine Ly (j + 1) (by (try dsimp only); omega) (S4 I I I I) (by refine (Sc ?_ (S0 _)) <;> (rfl)) ?_ (fun _ h => h); (try dsimp only); exact ⟨by omega, by rw [← hall, hstr, Ds]⟩
    ·refine Km I (Km I (FC ?_)); refine Yi I (Yq I (Nt (Ci I (fun hc49 => ?_) (fun hc49 => ?_))))
     ·have hstr : stN n (pk j) = true := by rw [hsj, mO (by omega) (by omega), Bool.or_true]
      refine Cx (Xc (Xe (Xa (Cg (Kq I (Rz I I I (by omega)) (Km I (Nn ?_))))))); refine Ly (j + 1) (by (try dsimp only); omega) (S4 I I I I) (by refine (Sc ?_ (S0 _)) <;> (rfl)) ?_ (fun _ h => h); (try dsimp only); exact ⟨by omega, by rw [← hall, hstr, Ds]⟩
     ·have hx1 : ¬ x0 = 1 := by omega
      have hxm : x0 ≠ n - 1 := by omega
      rw [Aq hx1, Bool.false_or] at hsj; refine Gg ?_; refine Ka I (Nt (Cb (Lp (σ := Nat × Nat) [(0, _), (5, _), (6, _), (32, _), (33, _)] (fun gq => [(10, .int .i64 (gq.1 : Int)), (9, .int .u64 (gq.2 : Int))]) (fun gq => 1 ≤ gq.1 ∧ gq.1 ≤ s ∧ gq.2 < n ∧ gq.2 ≠ n - 1 ∧ sqs n (s - gq.1 + 1) gq.2 = sqs n s x0) (fun gq => s - gq.1) (1, x0) (S5 I I I I I) (S2 I I) (by (try dsimp only); exact ⟨by omega, by omega, hxl, hxm, by rw [Nat.sub_add_cancel (by omega)]⟩) ?_))); rintro ⟨i, x⟩ hinv3; (try dsimp only at hinv3 ⊢); obtain ⟨hi1, his, hxn, hxm1, hsq⟩ := hinv3; refine E0 ?_; refine Ew (fun hc52 => ?_) (fun hc52 => ?_)
      ·rw [ku (by omega) hxm1, Ee] at hsq; have hx2 : x * x % n < n := Ak _ (by omega); refine El ?_; refine Km I (Km I (Kc I (fun w hS => m7 (a := x) (b := x) (m := n) (by assumption) (by assumption) (by assumption)) (DT ?_))); refine Km I (FC ?_); refine FT (fun hc62 => ?_) (fun hc62 => ?_)
       ·have hstr : stN n (pk j) = true := by rw [hsj, ← hsq]; exact mO (by omega) (by omega)
        refine Cx ?_; refine WX.block_other I ?_; refine Xc (Xc (WX.block_other I ?_)); refine Xc (Xe (Xa (Cg (Kq I (Rz I I I (by omega)) (Km I (Nn (Ly (j + 1) (by (try dsimp only); omega) (S4 I I I I) (by refine (Sc ?_ (S0 _)) <;> (rfl)) ?_ (fun _ h => h)))))))); (try dsimp only); exact ⟨by omega, by rw [← hall, hstr, Ds]⟩
       ·refine Ck (Xd (Xa (Cg (Km I (Kq I (Rz I I I (by omega)) (Ka I (Nn (Ly ((i + 1, x * x % n)) (by (try dsimp only); omega) (S5 I I I I I) (by refine (Sc ?_ (Sc ?_ (S0 _))) <;> (rfl)) ?_ (fun _ h => h))))))))); (try dsimp only); exact ⟨by omega, by omega, hx2, by omega, by rw [← hsq, show s - (i + 1) + 1 = s - i by omega]⟩
      ·refine AT ?_; have hstr : stN n (pk j) = false := by rw [hsj, ← hsq, show s - i = 0 by omega, ku (by omega) hxm1]; rfl
       refine Xa (Cs (to ?_)); refine DS ?_; refine WX.scope_ret ?_; exact R1 I I (by rw [iO hn2 hno, ← hall, hstr]; rfl)
   ·refine AT ?_; obtain rfl : j = 12 := by omega
    refine Xa (Cs (to ?_)); refine WX.scope_ret ?_; exact R1 I I (by rw [iO hn2 hno, ← hall]; rfl)
theorem ry (a : Bs) : (aQ a).1 < 18446744073709551616 := by
 rw [aQ]; split
 ·rename_i h; exact dQ h.2
 ·decide
def dz (a : Bs) : Bool × Int := if ¬ okN a then (false, 3) else if 8 < a.length then (false, 5) else (isP (val a), 0)
def lg (a : Bs) : Int := if okN a then if 8 < a.length then 5 else 0 else 3
theorem rR {a : Bs} (h : lg a = 0) : dz a = (isP (aQ a).1, 0) := by
 unfold lg at h; split at h
 ·rename_i h1; split at h
  ·simp at h
  ·rename_i h2; rw [dz, Aa (fun h => h h1), Aa h2, aQ, Ab ⟨h1, by omega⟩]
 ·simp at h
theorem rS {a : Bs} (h : ¬ lg a = 0) : dz a = (false, lg a) := by
 by_cases h1 : okN a
 ·by_cases h2 : 8 < a.length
  ·rw [dz, Aa (fun h => h h1), Ab h2, lg, Ab h1, Ab h2]
  ·exact absurd (by rw [lg, Ab h1, Aa h2]) h
 ·rw [dz, Ab h1, lg, Aa h1]
theorem f5 {a : Bs} (h : okN a) (h8 : a.length ≤ 8) : dz a = (isP (val a), 0) := by rw [dz, Aa (fun h1 => h1 h), Aa (by omega)]
theorem tZ {a : Bs} {w : World} :
  Cw 206 #[.string (S a)] w (.tuple #[.int .u64 ((aQ a).1 : Int), .int .i64 (lg a)]) := by
 refine En [] [(0, .string (S a))] Tryz.func206 I Tryz.ntmps206 I (Ac I (An _)) Fn (Cs (Ka I (DR ?_))); refine Kc I (fun w hS => ay (a := a)) (Eq (fun hc8 => ?_) (fun hc8 => ?_))
 ·refine Cs (Ka I (ne ?_))
  exact R2 I I I (by rw [aQ, Aa (fun h => hc8 h.1), lg, Aa hc8]; rfl)
 ·have hok : okN a := by simpa using hc8
  have hal := hok.1
  refine FN ?_; refine Kc I (fun w hS => ex (a := a) (by omega)) (BY ?_); refine Cq (Cs (Km I (Eq (fun hc15 => ?_) (fun hc15 => ?_))))
  ·have h8 : ¬ a.length ≤ 8 := fun h => by simp [aQ, hok, h] at hc15
   refine Cs (Ka I (ne ?_)); exact R2 I I I (by rw [aQ, Aa (fun h => h8 h.2), lg, Ab hok, Ab (by omega)]; rfl)
  ·have h8 : a.length ≤ 8 := A1 fun h => by simp [aQ, hok, h] at hc15
   refine FN ?_; refine Ka I (to ?_); exact R2 I I I (by rw [lg, Ab hok, Aa (by omega)]; rfl)
theorem qn {a : Bs} {w : World} (hD : TabD w) :
  Cw 169 #[.string (S a)] w (.tuple #[.bool (dz a).1, .int .i64 (dz a).2]) := by
 have hsl := ry a
 refine En [] [(0, .string (S a))] Tryz.func169 I Tryz.ntmps169 I (Ac I (An _)) Fn (Cs (Ka I (DT ?_))); refine Kc I (fun w hS => tZ (a := a)) (BY ?_); refine Cs (Km I (Yi I (Km I (Nc 13 I (fun hg13 => ?_) (fun hg13 => ?_)))))
 ·refine Km I (Kc I (fun w hS => AQ (n := (aQ a).1) (by assumption) (by (exact bh hD hS))) (Yp I (Km I (Ka I (to ?_)))))
  exact R2 I I I (by (rw [rR hg13, hg13]; rfl))
 ·refine T2 I (Yq I (Km I (Ka I (to ?_))))
  exact R2 I I I (by (rw [rS hg13]; rfl))
theorem rH {a : Bs} {w : World} :
  Cw 208 #[.string (S a)] w (.bool (decide (okN a))) := by
 have hci := AO a
 refine En [] [(0, .string (S a))] Tryz.func208 I Tryz.ntmps208 I (Ac I (An _)) Fn (Cs (DT ?_)); refine Yn I u22 (Ym I (Km I (Nc 6 I (fun hg6 => ?_) (fun hg6 => ?_))))
 ·refine Km I (Yn I u22 (Yi I (Km I (Nc 10 I (fun hg10 => ?_) (fun hg10 => ?_)))))
  ·refine T2 I (Kt I (Yp I (Yp I (to ?_))))
   exact Rn I (.tmp I .nil) fun w' hS => ⟨congrArg (fun b => Ending.returned (.bool b)) (by
    first
     | (symm; rw [decide_eq_true_eq, hci]; exact ⟨by omega, .inl (by simp_all)⟩)
     | (symm; rw [decide_eq_false_iff_not, hci]; rintro ⟨h, _⟩; omega)
     | (show (!decide ((((a.getD 0 default).toNat : Nat) : Int) = 0)) = _
        rw [Bz]; simp only [Bu, decide_eq_false_iff_not, decide_eq_true_eq, hci]
        exact ⟨fun h => ⟨by omega, .inr (by omega)⟩, fun h => by have := h.2.resolve_left (by simp_all); omega⟩)), hS.below⟩
  ·refine Km I (Kq I (bo I I I u22 ?_) ?_)
   ·omega
   refine Yj I (Yq I (Yp I (to ?_)))
   exact Rn I (.tmp I .nil) fun w' hS => ⟨congrArg (fun b => Ending.returned (.bool b)) (by
    first
     | (symm; rw [decide_eq_true_eq, hci]; exact ⟨by omega, .inl (by simp_all)⟩)
     | (symm; rw [decide_eq_false_iff_not, hci]; rintro ⟨h, _⟩; omega)
     | (show (!decide ((((a.getD 0 default).toNat : Nat) : Int) = 0)) = _
        rw [Bz]; simp only [Bu, decide_eq_false_iff_not, decide_eq_true_eq, hci]
        exact ⟨fun h => ⟨by omega, .inr (by omega)⟩, fun h => by have := h.2.resolve_left (by simp_all); omega⟩)), hS.below⟩
 ·refine T4 I (T4 I (Yq I (to ?_)))
  exact Rn I (.tmp I .nil) fun w' hS => ⟨congrArg (fun b => Ending.returned (.bool b)) (by
   first
    | (symm; rw [decide_eq_true_eq, hci]; exact ⟨by omega, .inl (by simp_all)⟩)
    | (symm; rw [decide_eq_false_iff_not, hci]; rintro ⟨h, _⟩; omega)
    | (show (!decide ((((a.getD 0 default).toNat : Nat) : Int) = 0)) = _
       rw [Bz]; simp only [Bu, decide_eq_false_iff_not, decide_eq_true_eq, hci]
       exact ⟨fun h => ⟨by omega, .inr (by omega)⟩, fun h => by have := h.2.resolve_left (by simp_all); omega⟩)), hS.below⟩
theorem DD {a : Bs} {w : World} (ha : okN a) :
  Cw 209 #[.string (S a)] w (.tuple #[.int .u64 ((val a % 18446744073709551616 : Nat) : Int), .bool (decide (a.length ≤ 8))]) := by
 have hal := ha.1
 refine En [] [(0, .string (S a))] Tryz.func209 I Tryz.ntmps209 I (Ac I (An _)) Fn (Cs (Ka I (Ka I (Nt (Cs (E5 ?_)))))); refine Lp (σ := Nat) [(0, _)] (fun gq => [(4, .int .u64 ((val (a.take gq) % 18446744073709551616 : Nat) : Int)), (5, .int .i64 (gq : Int))]) (fun gq => gq ≤ a.length) (fun gq => a.length - gq) (0) (S1 I) (S2 I I) (by (try dsimp only); omega) ?_
 rintro k hinv1; (try dsimp only at hinv1 ⊢)
 obtain hk := hinv1
 refine E0 ?_; refine Yn I u22 (Ew (fun hc9 => ?_) (fun hc9 => ?_))
 ·have hc8 := (a.getD k default).toNat_lt
  have hs1 := eK a k (by omega)
  refine Ck (Xa (Cq (Cb (Cg (Km I (Kq I (gD (c := 256) I I I) (Km I (Km I (Kq I (iu I I I u22 (by omega)) (Kq I (kM I I u5 u76 (by decide)) (Kq I (bN I I I (by omega)) (Ns 18 I (v' := .int .u64 ((val (a.take (k + 1)) % 18446744073709551616 : Nat) : Int)) (congrArg (Value.int .u64) (by omega)) (Ka I (Nn (Xd (Xa (Cg (Km I (Kq I (Rz I I I (by omega)) (Ka I (Nn (Ly (k + 1) (by (try dsimp only); omega) (S1 I) (by refine (Sc ?_ (Sc ?_ (S0 _))) <;> (rfl)) ?_ (fun _ h => h)))))))))))))))))))))))
  (try dsimp only)
  omega
 ·refine AT ?_
  obtain rfl : k = a.length := by omega
  refine Xa (FS ?_); refine Yn I u22 (Ym I (Ka I (to ?_)))
  exact R2 I I I (by rw [Ap, show decide ((a.length : Int) ≤ 8) = decide (a.length ≤ 8) from Af.2 (by omega)]; rfl)
theorem rF {n a : Nat} {w : World} (hn3 : 3 ≤ n) (hno : n % 2 = 1) (ha0 : 0 < a) (ha : a < n) (hn : n < 18446744073709551616) :
  Cw 244 #[.int .u64 (n : Int), .int .u64 (a : Int)] w (.bool (stN n a)) := by
 refine En [] [(0, .int .u64 (n : Int)), (1, .int .u64 (a : Int))] Tryz.func244 I Tryz.ntmps244 I (Ac I (Ac I (An _))) Fn (Cs (DR ?_)); refine Yl I (Km I (Nc 11 I (fun hg11 => ?_) (fun hg11 => ?_)))
 ·refine T2 I (Kt I (Yp I (Nt (Cd I (fun _ => ?_) (fun h => by cases h)))))
  have hbad : False := by omega
  refine Cs (Km I (Yi I (ne ?_)))
  exact R1 I I (by exact hbad.elim)
 ·refine Km I (Kq I (bt (c := 2) I I I ?_) ?_)
  ·omega
  refine Yi I (Yq I (Nt (Ci I (fun hc15 => ?_) (fun hc15 => ?_))))
  ·have hbad : False := by omega
   refine Cs (Km I (Yi I (ne ?_))); exact R1 I I (by exact hbad.elim)
  ·refine Fe ?_; refine FT (fun hc19 => ?_) (fun hc19 => ?_)
   ·have hbad : False := by omega
    refine Cs (ne ?_); exact R1 I I (by exact hbad.elim)
   ·refine FN ?_; refine FC ?_; refine Ka I (Ka I (Nt (Cq (Cb (Lp (σ := Nat × Nat) [(0, _), (1, _)] (fun gq => [(5, .int .u64 (gq.1 : Int)), (6, .int .i64 (gq.2 : Int))]) (fun gq => 0 < gq.1 ∧ gq.1 < 18446744073709551616 ∧ gq.1 * 2 ^ gq.2 = n - 1 ∧ gq.2 ≤ 64) (fun gq => gq.1) (n - 1, 0) (S2 I I) (S2 I I) (by (try dsimp only); exact ⟨by omega, by omega, by rw [B1, A0], by omega⟩) ?_))))); rintro ⟨d, s⟩ hinv1; (try dsimp only at hinv1 ⊢); obtain ⟨hd0, hdl, hds, hs⟩ := hinv1; refine Cq (Cs (Km I (Kq I (bt (c := 2) I I I ?_) ?_)))
    ·omega
    refine FT (fun hc24 => ?_) (fun hc24 => ?_)
    ·have hdn : d / 2 * 2 ^ (s + 1) = n - 1 := by rw [← hds, As, Aj (2 ^ s), ← Au]; congr 1; omega
     have hs64 : s + 1 ≤ 64 := C6 ((Nat.pow_lt_pow_iff_right (by decide : 1 < 2)).1 (show 2 ^ (s + 1) < 2 ^ 65 from by
      have h1 : 1 * 2 ^ (s + 1) ≤ d / 2 * 2 ^ (s + 1) := Bk _ (by omega)
      rw [hdn] at h1; omega))
     refine Ck (Xa (Cb (Cs (Km I (Kq I (cF (c := 2) I I I ?_) ?_)))))
     ·omega
     refine Ka I (Nt (Cg (Km I (Kq I (Rz I I I (by omega)) (Ka I (Nn (Xd (Ly ((d / 2, s + 1)) (by (try dsimp only); omega) (S2 I I) (by refine (Sc ?_ (Sc ?_ (S0 _))) <;> (rfl)) ?_ (fun _ h => h))))))))); (try dsimp only); exact ⟨by omega, by omega, hdn, hs64⟩
    ·refine AT ?_; obtain ⟨hs1, hd1⟩ := vW (n := n - 1) (by omega) (by omega) (by omega) hds; obtain ⟨x0, hx0⟩ : ∃ x, x = a ^ d % n := ⟨_, rfl⟩; have hxl : x0 < n := by rw [hx0]; exact Ak _ (by omega)
     have hst : stN n a = (decide (x0 = 1) || sqs n s x0) := by rw [stN, ← hd1, ← hs1, tr, ← hx0]
     refine Xa (FS ?_); refine Km I (Kc I (fun w hS => uR (a := a) (e0 := d) (m := n) (by assumption) (by assumption) (by assumption)) (Ns 32 I (v' := .int .u64 ((x0 : Nat) : Int)) (congrArg (Value.int .u64) (by rw [hx0])) ?_)); refine DR ?_; refine FT (fun hc34 => ?_) (fun hc34 => ?_)
     ·refine Cs (ne ?_); exact R1 I I (by rw [hst, Am (by omega)]; rfl)
     ·have hx1 : ¬ x0 = 1 := by omega
      rw [Aq hx1, Bool.false_or] at hst; refine Gg ?_; refine Ka I (Nt (Cb (Lp (σ := Nat × Nat) [(0, _), (6, _)] (fun gq => [(8, .int .i64 (gq.1 : Int)), (7, .int .u64 (gq.2 : Int))]) (fun gq => gq.1 ≤ s ∧ gq.2 < n ∧ sqs n (s - gq.1) gq.2 = sqs n s x0) (fun gq => s - gq.1) (0, x0) (S2 I I) (S2 I I) (by (try dsimp only); exact ⟨by omega, hxl, rfl⟩) ?_))); rintro ⟨i, x⟩ hinv2; (try dsimp only at hinv2 ⊢); obtain ⟨his, hxn, hsq⟩ := hinv2; refine E0 ?_; refine Ew (fun hc37 => ?_) (fun hc37 => ?_)
      ·have hx2 : x * x % n < n := Ak _ (by omega); refine Ck (Xa (Cq (Cb (E0 ?_)))); refine FC ?_; refine FT (fun hc43 => ?_) (fun hc43 => ?_)
       ·rw [mO (by omega) (by omega)] at hsq; refine Cs (ne ?_); refine DS ?_; exact R1 I I (by rw [hst, ← hsq]; rfl)
       ·rw [ku (by omega) (by omega)] at hsq; refine Ck (Xa (Cg (Km I (Km I (Km I (Kc I (fun w hS => iG (a := x) (b0 := x) (m := n) (by assumption) (by assumption) (by assumption)) (Ka I (Nn (Xd (Xa (Cg (Km I (Kq I (Rz I I I (by omega)) (Ka I (Nn (Ly ((i + 1, x * x % n)) (by (try dsimp only); omega) (S2 I I) (by refine (Sc ?_ (Sc ?_ (S0 _))) <;> (rfl)) ?_ (fun _ h => h))))))))))))))))); (try dsimp only); exact ⟨by omega, hx2, by rw [← hsq, Nat.sub_sub]⟩
      ·refine AT ?_; obtain rfl : i = s := by omega
       refine Xa (Cs (to ?_)); exact R1 I I (by rw [hst, ← hsq, C0]; rfl)
theorem pj {k : Nat} (h : k < 12) : ([.int .u64 2, .int .u64 3, .int .u64 5, .int .u64 7, .int .u64 11, .int .u64 13, .int .u64 17, .int .u64 19, .int .u64 23, .int .u64 29, .int .u64 31, .int .u64 37] : List Value)[k]? = some (vU (pk k)) := m9 h
theorem yP {n : Nat} {w : World} (hn : n < 18446744073709551616) :
  Cw 210 #[.int .u64 (n : Int)] w (.bool (isP n)) := by
 refine En [] [(0, .int .u64 (n : Int))] Tryz.func210 I Tryz.ntmps210 I (Ac I (An _)) Fn (Cs (DR ?_)); refine Ew (fun hc7 => ?_) (fun hc7 => ?_)
 ·refine Cs (ne ?_)
  exact R1 I I (by rw [isP, Ab (by omega)]; rfl)
 ·have hn2 : ¬ n < 2 := by omega
  refine Ck (Xa (Cs (Kh I (aO I I rm (by kernel_rfl : _ = some (some (.int .u64 0), 1, 8)) I (by simp only [List.map]; rfl) I I ?_ (by decide)) ?_)))
  ·simp [Value.cells]
  intro b8
  refine E5 ?_; refine Lp (σ := Nat) [(0, _), (3, _)] (fun gq => [(4, .int .i64 (gq : Int))]) (fun gq => gq ≤ 12 ∧ tdiv n (ps12.drop gq) = tdiv n ps12) (fun gq => 12 - gq) (0) (S2 I I) (S1 I) (by (try dsimp only); exact ⟨by omega, rfl⟩) ?_
  rintro k hinv1; (try dsimp only at hinv1 ⊢)
  obtain ⟨hk, htd⟩ := hinv1
  refine E0 ?_; refine Yo I rm (Ew (fun hc12 => ?_) (fun hc12 => ?_))
  ·have hk12 : k < 12 := by omega
   have hpb := qo hk12; rw [lM n hk12] at htd; refine Ck (Xa (Cq (Cb (E0 ?_)))); refine F8 ?_; refine Kq I (ld I I .tc u76 I (pj hk12)) ?_; refine FT (fun hc20 => ?_) (fun hc20 => ?_)
   ·rw [Ab (by rw [show n = pk k by omega]; exact Nat.mod_self _), Am (by omega)] at htd; refine Cs (ne ?_); refine DS ?_; exact R1 I I (by rw [k5 hn2 htd.symm]; rfl)
   ·refine EN ?_; refine F8 ?_; refine Kq I (ld I I .tc u76 I (pj hk12)) ?_; refine Kq I (bt I I I ?_) ?_
    ·omega
    refine FT (fun hc27 => ?_) (fun hc27 => ?_)
    ·rw [Ab (by omega), Aq (by omega)] at htd; refine Cs (to ?_); refine DS ?_; exact R1 I I (by rw [k5 hn2 htd.symm]; rfl)
    ·rw [Aa (by omega)] at htd; refine Ck (Xd (Xa (Cg (Km I (Kq I (Rz I I I (by omega)) (Ka I (Nn (Ly (k + 1) (by (try dsimp only); omega) (S2 I I) (by refine (Sc ?_ (S0 _)) <;> (rfl)) ?_ (fun _ h => h))))))))); (try dsimp only); exact ⟨by omega, htd⟩
  ·refine AT ?_; obtain rfl : k = 12 := by omega
   have hno : tdiv n ps12 = none := htd.symm; have hodd := je hno 2 (by decide); have h37 := tk hn2 hno; refine Xa (Cq (Cs (Ka I (Nt (Cb (Lp (σ := Nat) [(0, _), (3, _)] (fun gq => [(5, .int .i64 (gq : Int))]) (fun gq => gq ≤ 12 ∧ (ps12.drop gq).all (stN n) = ps12.all (stN n)) (fun gq => 12 - gq) (0) (S2 I I) (S1 I) (by (try dsimp only); exact ⟨by omega, rfl⟩) ?_)))))); rintro j hinv2; (try dsimp only at hinv2 ⊢); obtain ⟨hj, hall⟩ := hinv2; refine E0 ?_; refine Yo I rm (Ew (fun hc31 => ?_) (fun hc31 => ?_))
   ·have hj12 : j < 12 := by omega
    have hjb := qo hj12; rw [oM _ hj12] at hall; refine El ?_; refine Km I (F8 ?_); refine Kq I (ld I I .tc u76 I (pj hj12)) ?_; refine Kc I (fun w hS => rF (n := n) (a := pk j) (by omega) (by omega) (by omega) (by omega) (by assumption)) (Eq (fun hc40 => ?_) (fun hc40 => ?_))
    ·have hstr : stN n (pk j) = false := by simpa using hc40
     refine Cs (to ?_); refine DS ?_; exact R1 I I (by rw [iO hn2 hno, ← hall, hstr]; rfl)
    ·have hstr : stN n (pk j) = true := by simpa using hc40
     refine Ck (Xd (Xa (Cg (Km I (Kq I (Rz I I I (by omega)) (Ka I (Nn (Ly (j + 1) (by (try dsimp only); omega) (S2 I I) (by refine (Sc ?_ (S0 _)) <;> (rfl)) ?_ (fun _ h => h))))))))); (try dsimp only); exact ⟨by omega, by rw [← hall, hstr, Ds]⟩
   ·refine AT ?_; obtain rfl : j = 12 := by omega
    refine Xa (Cs (to ?_)); exact R1 I I (by rw [iO hn2 hno, ← hall]; rfl)
theorem nZ {a : Bs} {w : World} :
  Cw 172 #[.string (S a)] w (.tuple #[.bool (dz a).1, .int .i64 (dz a).2]) := by
 refine En [] [(0, .string (S a))] Tryz.func172 I Tryz.ntmps172 I (Ac I (An _)) Fn (Cs (Ka I (DR ?_))); refine Kc I (fun w hS => rH (a := a)) (Eq (fun hc8 => ?_) (fun hc8 => ?_))
 ·refine Cs (Ka I (ne ?_))
  exact R2 I I I (by rw [dz, Ab hc8]; rfl)
 ·have hok : okN a := by simpa using hc8
  refine FN ?_; refine Kc I (fun w hS => DD (a := a) (by assumption)) (BY ?_); refine Cq (Cs (Km I (Eq (fun hc15 => ?_) (fun hc15 => ?_))))
  ·refine Cs (Ka I (ne ?_)); exact R2 I I I (by rw [dz, Aa (fun h => h hok), Ab (by omega)]; rfl)
  ·have h8 : a.length ≤ 8 := by omega
   have hv8 := dQ h8; refine FN ?_; refine Kc I (fun w hS => yP (n := val a % 18446744073709551616) (by omega)) (Ka I (to ?_)); exact R2 I I I (by rw [f5 hok h8, Ah hv8]; rfl)
end Go.Proofs.YtkdlonihbjhhoaaGreatDoor
