/-
  Parts of the walk: Fs4 Dfr Brf Fs5 Tcr Fs6.
-/
import Derived.Test.YtchonigdjamphaaGreatDoorQ19
import Derived.RecoverIn
import Derived.KernelRfl
namespace Go.Proofs.YtchonigdjamphaaGreatDoor
open Go.RowKit
set_option linter.unusedSimpArgs false
set_option linter.unusedVariables false
set_option maxHeartbeats 600000
set_option maxRecDepth 20000
abbrev sgV (n : Bs) (xs : List Zs) (a : Option Addr) (c : Nat) : Value := .agg #[.string (S n), .slice a xs.length c, .slice none 0 0, .slice none 0 0]
theorem Ep {l : List Zs} {a : Option Addr} {c b : Nat} {w : World} {ok : Nat → Prop} (hF1 : (Fact.sl a (ar l)).holds ok w) (hF2 : (Fact.sl (some ⟨b, 0, none⟩) [.func (.func 184) #[] #[]]).holds ok w) (hl : l.length ≤ 100000) :
  Cw 185 #[.slice a l.length c, .pointer (some ⟨b, 0, none⟩)] w (.bool (decide (¬ bO l))) := by
 refine En [Fact.sl a (ar l), Fact.sl (some ⟨b, 0, none⟩) [.func (.func 184) #[] #[]]] [(0, .slice a l.length c), (1, .pointer (some ⟨b, 0, none⟩))] Tryz.func185 I Tryz.ntmps185 I (Ac I (Ac I (An _))) (Fc (af hF1) (Fc (af hF2) Fn)) (Cs (FN ?_)); refine Kq I (ldf (m := 0) I I .tc CT I I I) ?_
 refine Kc I (fun w hS => rx (l := l) (fk := 184) (cs := #[]) (p := fun x => decide (¬ okZ x)) (by (exact hS.sl)) (by exact hl) (by kernel_rfl) (by exact fun x hx w' hb => Er (x := x))) ?_
 rw [CK]
 refine le ?_
 exact Iq
theorem sj {w : World} :
  Cw 100 #[.slice none 0 0] w (.slice none 0 0) := by
 refine En [] [(0, .slice none 0 0)] Tryz.func100 I Tryz.ntmps100 I (Ac I (An _)) Fn (Cs (Ka I (Nt (Cq (Cs (Km I (Kq I (ns I I I u33) (Nt (Cd I (fun hc4 => ?_) (fun hc4 => by exfalso; (try simp only [sB] at hc4); simp_all))))))))))
 (try simp only [sB] at hc4)
 refine Cs (le ?_); refine Xb ?_
 exact Iq
theorem xZ (l : List Zs) : ∀ u ∈ ar l, u.oneCell' = true := fun u hu => by
 obtain ⟨z, _, hz⟩ := List.mem_flatMap.1 hu
 simp at hz
 rcases hz with rfl | rfl <;> rfl
theorem tj {l : List Zs} {a : Option Addr} {cap : Nat} {w : World} {ok : Nat → Prop} (hF1 : (Fact.sl a (ar l)).holds ok w) (hl : l.length ≤ 100000) :
  Calls Tryz.prog 103 #[.slice a l.length cap] w fun e w' => ∃ gx : Rs, e = .returned (gx.val l.length) ∧ (True) ∧ Below w.heap.size w w' ∧ ∀ x ∈ ([Fact.sl gx.a (ar l)] : List Fact), x.holds (fun b => ok b ∨ w.heap.size ≤ b) w' := by
 refine enter (S := St (fun b => ok b ∨ w.heap.size ≤ b) w [] ([Fact.sl a (ar l)])) (L := [(0, .slice a l.length cap)]) Tryz.func103 rfl Tryz.ntmps103 rfl (Ac rfl (An _)) (St.start (fun _ h => Or.inr h) (bL (Fc hF1 Fn))) ?_
 refine Cs (FM ?_); refine Kq I (ns I I I u31) (Nt (Ci I (fun hc4 => ?_) (fun hc4 => ?_)))
 ·have hl0 : l = [] := by cases l with | nil => rfl | cons x l => exact absurd (lq hF1 hc4) (by simp)
  subst hl0
  refine Cs (le ?_); refine Xb ?_
  exact Rn I (.tmp I .nil) fun w' hS => ⟨⟨none, 0, []⟩, rfl, trivial, hS.below, Fc av Fn⟩
 ·refine Ck (Xa (Cs (Kh I (ew I I u31 (by kernel_rfl : _ = some (some (.agg #[.bool false, .string (S [])]), 2, 24)) (by kernel_rfl) (by decide) I I (by (simp [Value.cells]; done)) (by (simp only [List.map, Value.cells, Cp, C3, A5, D7]; rfl)) (by decide)) ?_)))
  intro b5
  refine Km I (Kh I (ER I u31 (by kernel_rfl : _ = some (some (.agg #[.bool false, .string (S [])]), 2, 24)) (by kernel_rfl) (by decide) .tc I I (fun w hS => by (exact hS.sl)) (by (rw [ag _ _ 2 (fun _ => rfl)]; done)) (by (refine ⟨?_, ?_, ?_, ?_⟩ <;> first | omega | ((try simp) <;> omega))) (by exact xZ l)) ?_)
  rintro ⟨o7, c7, s7⟩
  refine WL.pu ?_
  intro hg7; (try dsimp only at hg7 ⊢)
  refine le ?_
  exact Rn I (.tmp I .nil) fun w' hS => ⟨⟨o7, c7, s7⟩, by simp [Rs.val, tup], trivial, hS.below, Fc hS.ock Fn⟩
theorem yd {r : Gp} {s : SA} {n : Bs} {xs : List Zs} {xa : Option Addr} {xc : Nat} {w : World} {ok : Nat → Prop} (hF1 : (Fact.sl xa (ar xs)).holds ok w) (hxl : xs.length ≤ 100000) (hp1 : okN n) (hp2 : bO xs) (hp3 : xs.length = s.vs.length) (hp4 : val n < val r.1) (hp5 : okN r.1) :
  Cw 98 #[ia r s, sgV n xs xa xc] w (.int .i64 0) := by
 have hcm : ¬ 0 ≤ fg n r.1 := by rw [a8 hp1 hp5]; have := (aR _ _).2 hp4; omega
 refine En [Fact.sl xa (ar xs)] [(0, ia r s), (1, sgV n xs xa xc)] Tryz.func98 I Tryz.ntmps98 I (Ac I (Ac I (An _))) (Fc (af hF1) Fn) (Eq ?_)
 intro b2
 refine Gc ?_
 intro b3
 refine Ka I (Nt (Cs (Kh I (Oa I (v := .nilFunc) (cs := [.nilFunc]) (by kernel_rfl) I) ?_)))
 intro b5
 refine Ng I I (st I I I .tc (by kernel_rfl) I ?_ (by (simp only [Bf, Bg]; rfl))) ?_
 ·decide
 intro _
 refine Nt (Cs (Kq I (bM I I I) (Ka I (Nt (Cq (Cb (Cs (HV ?_))))))))
 refine Hp ?_; refine Ns 15 I (v' := .bool false) (by rw [Az hp1]; rfl) ?_
 refine Km I (Kf 1 I u49 I I I .tc u31 ?_)
 refine Ku I (a6 I I I (by kernel_rfl) I (Kv fun w hS => Ep (l := xs) (b := b5) (by (exact hS.sl)) (by (exact hS.os)) (by assumption))) (Yq I (Km I (Ns 21 I (v' := .bool false) (by rw [Aj (fun h => h hp2)]) ?_)))
 refine Ig ?_
 refine Km I (Kc I (fun w hS => p6) (Yq I (Ka I (Ns 10 I (v' := .bool false) (by rfl) ?_))))
 refine Fx (fun _ => ?_)
 refine Cs (Ih ?_)
 refine Kc I (fun w hS => vN (l := []) (a := none) (c := 0) (fk := 186) (cs := #[]) (p := fun _ => false) (w := w) hJ (Af _) (by kernel_rfl) (fun x hx => by cases hx)) (Ka I (Ns 27 I (v' := .bool false) (by rfl) ?_))
 refine Fx (fun _ => ?_)
 refine Cs (Kf 1 I u49 I I I .tc u31 ?_)
 refine Yo I u31 (H2 ?_)
 refine Yo I u40 (Yj I (Km I (Ns 40 I (v' := .bool false) (by simp [hp3]) ?_)))
 refine Ih ?_
 refine Yo I u33 (Ie ?_); refine Kf 6 I u55 I I I .tc u53 ?_
 refine Yo I u53 (Yj I (Yq I (Km I (Ns 51 I (v' := .bool false) (by rfl) ?_))))
 refine Ig ?_
 refine Yo I u47 (HA ?_)
 refine Yo I u52 (Yj I (Yq I (Ka I (Ns 31 I (v' := .bool false) (by rfl) ?_))))
 refine Fx (fun _ => ?_)
 refine Ck (Xd (Xa (Cq (Cs (Ig ?_)))))
 refine Yo I u47 (Km I (Nt (Cb (Lp (σ := Nat) [(2, _), (3, _), (62, _), (63, _)] (fun gq => [(64, .int .i64 0)]) (fun gq => 0 ≤ gq) (fun gq => 0) (0) (S4 I I I I) (S1 I) (by (try dsimp only); exact Af _) ?_))))
 rintro u hinv1; (try dsimp only at hinv1 ⊢)
 refine Cs (Yl I (Nt (Cq (Cd I (fun hc65 => by exfalso; (try simp only [sB] at hc65); omega) (fun hc65 => ?_)))))
 (try simp only [sB] at hc65)
 refine Fq ?_; refine Xa (Cq (Cs (HV ?_)))
 refine Kq I (Fa (q := 0) I I u89 I I) (Hi ?_)
 refine Kc I (fun w hS => cZ) (Yh I (Km I (Ns 88 I (v' := .bool false) (by exact congrArg Value.bool (Aj hcm)) ?_)))
 refine Ih ?_
 refine Kq I (bM I I I) (Kc I (fun w hS => vN (l := []) (a := none) (c := 0) (fk := 187) (p := fun _ => false) (w := w) hJ (Af _) (by kernel_rfl) (fun x hx => by cases hx)) (Yq I (Ns 93 I (v' := .bool false) (by rfl) ?_)))
 refine Fx (fun _ => ?_)
 refine Ck (Xa (Cs (le ?_)))
 exact Iq
instance subL_app {α : Type} (x y z : List α) [h : SubL x z] : SubL x (y ++ z) := ⟨h.h.trans (List.sublist_append_right _ _)⟩
theorem q6 {r : Gp} {s : SA} {cx n : Bs} {xs : List Zs} {xa : Option Addr} {xc : Nat} {w : World} {ok : Nat → Prop} (hF1 : (Fact.sl s.ga (gps s.gs)).holds ok w) (hF2 : (Fact.sl s.va (vrs s.vs)).holds ok w) (hF3 : (Fact.sl s.ea (qas s.es)).holds ok w) (hF4 : (Fact.sl xa (ar xs)).holds ok w) (hM : ∀ f ∈ (s.es.map qaF), f.holds ok w) (hs : saL s) (hSm : Sml r s.core) (hxl : xs.length ≤ 100000) (hp : Prf r cx s.core n xs) :
  Calls Tryz.prog 38 #[ia r s, sgV n xs xa xc] w fun e w' => ∃ gx : Rs × Rs, e = .returned (.tuple #[.agg #[gx.1.val (cg s.core (val n) xs).length, .string (S n), gx.2.val xs.length], cl0, .int .i64 0]) ∧ (True) ∧ Below w.heap.size w w' ∧ ∀ x ∈ ([Fact.sl gx.1.a (am (cg s.core (val n) xs)), Fact.sl gx.2.a (ar xs)] : List Fact), x.holds (fun b => ok b ∨ w.heap.size ≤ b) w' := by
 have hfst : gn r s.core n xs = (cg s.core (val n) xs, 0) := by rw [gn, Aa (fun g => g hp.bd), Aa (fun g => g ⟨hp.ok, hp.zs⟩), Aa (fun g => g hp.nr), Aa (fun g => g hp.xl), Aa (fun g => g hp.xr)]
 refine enter (S := St (fun b => ok b ∨ w.heap.size ≤ b) w [] (Fact.sl s.ga (gps s.gs) :: Fact.sl s.va (vrs s.vs) :: Fact.sl s.ea (qas s.es) :: Fact.sl xa (ar xs) :: (s.es.map qaF))) (L := [(0, ia r s), (1, sgV n xs xa xc)]) Tryz.func38 rfl Tryz.ntmps38 rfl (Ac rfl (Ac rfl (An _))) (St.start (fun _ h => Or.inr h) (bL (Fc hF1 (Fc hF2 (Fc hF3 (Fc hF4 hM)))))) ?_
 refine Eq ?_
 intro b2
 refine Gc ?_
 intro b3
 refine HW ?_
 intro b4
 refine HR ?_
 intro b5
 refine Ka I (Nt (Cq (Cs (Kq I (lda I I .tc u89 I ?_) ?_))))
 ·kernel_rfl
 refine Kq I (lda I I .tc u49 I ?_) ?_
 ·kernel_rfl
 refine Kc I (fun w hS => yd (r := r) (s := s) (n := n) (xs := xs) (by (exact hS.sl)) (by exact hxl) (by exact hp.ok) (by exact hp.zs) (by exact hp.xl) (by exact hp.nr) (by exact (dg hp.bd).1.1)) (FN ?_); refine Yj I (Ns 20 I (v' := .bool false) (by rfl) ?_)
 refine Fx (fun _ => ?_)
 refine Ck (Xa (Cs (Kq I (Fa (q := 0) I I u89 I I) (Kq I (ldp I I .tc u24 I (by kernel_rfl : _ = some 2) (by rfl) (by rfl)) ?_))))
 refine Ha ?_
 refine HV ?_
 refine Kf 1 I u49 I I I .tc u31 ?_
 refine Kh I (Oc I I (bK fun w hS => zy (r := r) (s := s) (c := n) (xs := xs) (by (exact hS.slo)) (by (exact hS.slo)) (by (exact hS.slo)) (by (exact hS.slo)) (by (exact hS.moreo)) (by exact hs) (by exact hSm.a) (by exact hSm.b) (by exact hSm.v) (by exact hxl))) ?_
 rintro g33
 refine WL.pu ?_
 intro hg33; (try dsimp only [List.cons_append, List.nil_append] at hg33 ⊢)
 rw [hfst]
 refine Fs ?_; refine Cq (Cs (Km I (Yj I (Ns 37 I (v' := .bool false) (by rfl) ?_))))
 refine Fx (fun _ => ?_)
 refine Ck (Xa (Cs (Ih ?_)))
 refine Kc I (fun w hS => sj) (Hf ?_)
 refine HR ?_
 intro b10
 refine FF ?_; refine Nt (Cq (Cs (HA ?_)))
 refine Yo I u52 (Km I (Nt (Cb (Lp (σ := Nat) [(2, _), (3, _), (4, _), (5, _), (8, _), (10, _), (47, _), (48, _)] (fun gq => [(49, .int .i64 0)]) (fun gq => 0 ≤ gq) (fun gq => 0) (0) (S8 I I I I I I I I) (S1 I) (by (try dsimp only); exact Af _) ?_))))
 rintro u hinv1; (try dsimp only at hinv1 ⊢)
 refine Cs (Yl I (Nt (Cq (Cd I (fun hc50 => by exfalso; (try simp only [sB] at hc50); omega) (fun hc50 => ?_)))))
 (try simp only [sB] at hc50)
 refine Fq ?_; refine Xa (Cq ?_)
 refine WC.free (K := [⟨some b10, [.slice none 0 0, .slice none 0 0], 106⟩, ⟨some b3, [.string (S n), .slice xa xs.length xc, .slice none 0 0, .slice none 0 0], 49⟩]) (fs0 := [Fact.sl xa (ar xs)]) [3, 4, 5, 0, 1, 2, 6, 8, 7] [9, 10] [0, 0, 0, 0, 0, 1, 0, 0, 1, 2, 2] (by kernel_rfl) (by kernel_rfl) I ?_
 refine Kj I (Fa (q := 1) I I u49 I I) (Kj I (Ld I I .tc u31) ?_)
 refine Jg I I I I I (fun ext => Oc I I (bK fun w hS => tj (l := xs) (by (exact hS.slo)) (by assumption))) ?_
 rintro g101 hg101; (try dsimp only [List.cons_append, List.nil_append] at hg101 ⊢)
 refine GP ?_; refine Kj I (Fa (q := 0) I I u49 I I) (Gg ?_)
 refine Kj I (Kb [[.slice none 0 0], [.string (S [])], [.slice none 0 0]] I I) ?_
 refine WJ.st I I I I (ft I I I ?_ ?_ ?_) ?_
 ·kernel_rfl
 ·simp [Value.oneCell']
 ·rfl
 refine Kj I (lda I I .tc j0 I ?_) ?_
 ·kernel_rfl
 refine WJ.nil ?_
 refine FF ?_; refine le ?_
 exact Rn I (.agg I .tc fq I (by kernel_rfl) (.agg I .tc j0 I (by kernel_rfl) (.tmp I .nil))) fun w' hS => ⟨(g33, g101), rfl, trivial, hS.below, Fc hS.slk (Fc hS.slk Fn)⟩
section
variable {ds : List Deferred} {ρ : Option Nat} {P : Program} {fn : Func} {f : FuncId} {c : Code} {R : Ending → World → Prop} {n : Nat} {L : an} {S : World → Prop} {ops : List Oper} {Q : Exit → Act → World → Prop} {rest : List Oper} {o : Oper} {ok : Nat → Prop} {w0 : World} {own : List Ent} {fs : List Fact}
theorem BT {args : Array Value} {w : World} (hf : P.funcs[f]? = some fn) (hb : fn.body = some c) (hn : fn.ntmps = n) (ha : Nat.ble args.size n = true) (hL : ∀ k v, ap L k = some v → args[k]? = some v) (hS : S w) (k : WC [] none P c (bodyPostDIn Fence.wide 0 P fn R) n L S) : Calls P f args w R := by
 refine callsIn_wide.1 (callsIn_of_wp_defers (F := Fence.wide) (n := 0) hf hb trivial (k _ w (Fr.enter ?_ hL) hS))
 have := Nat.le_of_ble_eq_true ha
 omega
theorem WL.defer {x : Operand} {g : FuncId} {caps : Array Value} {tys : Array TypeId} (hw : aH ops L o = some true) (hd : o.dst = none) (hop : o.op = .defer { callee := .value x, args := #[], argTypes := tys }) (hx : ai L x = some (.func (.func g) #[] caps))
  (k : WL (⟨.fn (.func g) caps, #[]⟩ :: ds) P ops Q n rest L S) : WL ds P ops Q n (o :: rest) L S := by
 intro a w hF hS
 unfold eZ
 rw [Ae (bj hF hw)]
 unfold opX
 have e1 : (execOp a.eval o).run P w = .ok (.defer ⟨.fn (.func g) caps, #[]⟩) w := by
  simp only [execOp, hop, resolve, hF.eval hx, Deferred.ofValue]
  simp
 rw [e1]
 show eZ P ops.toArray Q rest _ w
 rw [hd]
 exact k _ w ⟨hF.size, by rw [← hF.defers]; rfl, hF.at_⟩ hS
theorem WX.retD {g : FuncId} {caps : Array Value} {rs : List ResultVar} {vs : List Value} (hg : ey P g = true) (hd : ∀ w, CallsDIn Fence.wide 0 P g caps .returning w fun e u w' => (∃ v, e = .returned v) ∧ u = .returning ∧ w' = w)
  (hr : fn.results = rs.toArray) (hv : jP P L own rs vs) (h : ∀ w, St ok w0 own fs w → R (.returned (tup vs)) w) : WX [⟨.fn (.func g) caps, #[]⟩] (bodyPostDIn Fence.wide 0 P fn R) .ret n L (St ok w0 own fs) := fun a w hF hS => by
 show LeavesIn Fence.wide 0 P fn a.tmps R a.defers .returning w
 rw [hF.defers]
 refine ⟨by simp, fun h => absurd h (by decide), .func g, caps, g, caps, rfl, ?_, fun _ _ => trivial, CallsDIn.mono (hd w) fun e u w' hh => ?_⟩
 ·show (callFunc g (#[] ++ caps)).run P w = _
  rw [Array.empty_append]; exact ef hg caps w
 ·obtain ⟨⟨v, rfl⟩, rfl, rfl⟩ := hh
  exact ⟨tup vs, kN hr hv hF hS, h _ hS⟩
theorem zb {Q : Exit → Act → List Frame → World → Prop} {a : Act} {w : World} {cs : List Frame} (hF : Fr ds a n L) (hS : S w) (k : WC ds none P c (fun e a w => Q e a cs w) n L S) : c.wpSIn Fence.wide 0 P Q a cs w := wpSIn_of_wpIn rfl (k a w hF hS)
end
theorem DB {w : World} (p q r : Value) : CallsDIn Fence.wide 0 Tryz.prog 155 #[p, q, r] .returning w fun e u w' => (∃ v, e = .returned v) ∧ u = .returning ∧ w' = w := by
 refine callsDIn_of_wpSIn Tryz.func155 rfl trivial fun c0 cs hu => ?_
 have e0 : recoverD (c0 :: cs) = none := by simp [recoverD, hu]
 have hb : ∀ T, Sem.run Tryz.prog (builtin Builtin.recover #[] T #[] #[]) w = .ok .recover w := fun T => rfl
 refine wpSIn_seq (wpSIn_region (show wpOpsSIn _ _ _ _ _ [0, 1] _ _ _ from ?_))
 simp [wpOpsSIn, Region.wanted, execOp, resolve, invoke, e0, Exit.thenS]
 refine ⟨fun _ _ => trivial, ?_⟩
 rw [hb]
 refine ⟨fun _ _ => trivial, ?_⟩
 refine zb (ds := []) (n := 20) (L := [(3, .nilIface)]) (S := fun w' => w' = w) ⟨by simp [Act.put], by simp [Act.put], fun k v hk => ?_⟩ rfl ?_
 ·have h3 : k = 3 ∧ v = .nilIface := by
   unfold ap at hk; cases hb : Nat.beq k 3 with
   | true => rw [hb] at hk; exact ⟨Nat.eq_of_beq_eq_true hb, by simpa using hk.symm⟩
   | false => rw [hb] at hk; simp [ap] at hk
  obtain ⟨rfl, rfl⟩ := h3
  simp [Act.put, Act.eval]
 ·refine Cq (WR.region I (Km I (Kq I (v := .bool false) (aI fun a hF w _ => ?_) ?_)))
  ·have h7 := hF.eval (x := .tmp 7) (v := .nilIface) rfl; have h8 : a.eval (.const .nilIface) = .nilIface := rfl; simp only [execOp, h7, h8]; show (_ : Result Next) = _; kernel_rfl
  refine Nn (Xa (Cd (t := false) I (fun h => by cases h) fun _ => Ck ?_))
  intro a w' hF hS
  subst hS
  exact ⟨hF.defers, .returning, by rw [← hu], .tuple #[], results_none rfl _ _ _, ⟨_, rfl⟩, rfl, rfl⟩
theorem CE {t : Tp} {a : Option Addr} {c : Nat} {w : World} {ok : Nat → Prop} (hF1 : (Fact.sl a (am t.vals)).holds ok w) (hl : t.vals.length ≤ 100000) :
  Calls Tryz.prog 78 #[cl0, .slice none 0 0, .string (S []), t.v (.slice a t.vals.length c)] w fun e w' => ∃ gx : (Option Addr) × (Option Addr) × (Option Addr) × (Option Addr) × Nat, e = .returned (.tuple #[.agg #[.slice none 0 0, .slice gx.1 0 0, .slice gx.2.1 0 0, .slice gx.2.2.1 0 0], t.v (.slice gx.2.2.2.1 t.vals.length gx.2.2.2.2), .int .i64 0]) ∧ (True) ∧ Below w.heap.size w w' ∧ ∀ x ∈ ([Fact.sl gx.2.2.2.1 (am t.vals)] : List Fact), x.holds (fun b => ok b ∨ w.heap.size ≤ b) w' := by
 refine BT (S := St (fun b => ok b ∨ w.heap.size ≤ b) w [] ([Fact.sl a (am t.vals)])) (L := [(0, cl0), (1, .slice none 0 0), (2, .string (S [])), (3, t.v (.slice a t.vals.length c))]) Tryz.func78 rfl Tryz.ntmps78 rfl (Ac rfl (Ac rfl (Ac rfl (Ac rfl (An _))))) (St.start (fun _ h => Or.inr h) (bL (Fc hF1 Fn))) ?_
 refine Eq ?_
 intro b4
 refine Gc ?_
 intro b7
 refine HD ?_
 intro b8
 refine FP ?_
 intro b9
 refine Kh I (Oa I (v := (.int .i64 0)) (cs := [.int .i64 0]) (by kernel_rfl) I) ?_
 intro b10
 refine Nt (Cs (Hz ?_))
 refine Ka I (Nt (Cq (Cf [1, 2, 0, 3, 4, 5, 6] [] [0, 0, 1, 0, 0, 3, 0] (by kernel_rfl) (by kernel_rfl) I ?_)))
 refine Kj I (lda I I .tc u57 I ?_) ?_
 ·kernel_rfl
 refine Jv I I I I I (fun ext => Oc I I (Kv fun w hS => lI)) ?_
 refine Kj I (lda I I .tc u57 I ?_) ?_
 ·kernel_rfl
 refine Kj I (lda I I .tc u35 I ?_) ?_
 ·kernel_rfl
 refine Kj I (Kb [[.slice none 0 0, .slice none 0 0], [.string (S [])], [.slice none 0 0, .string (S []), .int .i64 0], [.slice none 0 0, .slice none 0 0, .slice none 0 0, .slice none 0 0]] I I) ?_
 refine Jf I I I I I (BL I I (by (exact sP _))) ?_
 intro b23
 refine GR ?_
 refine WJ.nil ?_
 refine Nt (Cq (Cf [0, 1, 2, 3, 4, 5, 6, 7, 8, 9, 10, 11, 12, 13, 14, 15] [16] [0, 0, 0, 0, 3, 0, 0, 0, 3, 0, 0, 0, 3, 0, 0, 0, 2] (by kernel_rfl) (by kernel_rfl) I ?_))
 refine Ft ?_; refine GP ?_; refine Kj I (dN I I u53) ?_
 refine Jf I I I I I (q5 I I I u33 (by kernel_rfl : _ = some (some (.string (S [])), 1, 16)) I ?_ (by (try simp only [sN, Int.reduceToNat, Nat.reduceAdd, Nat.reduceMul, Nat.reduceSub]); rfl) (by (try simp only [sN, Int.reduceToNat, Nat.reduceAdd, Nat.reduceMul, Nat.reduceSub]); rfl)) ?_
 ·omega
 intro b28
 refine Kj I (Fa (q := 0) I I u57 I I) (Kj I (Ld I I .tc u52) ?_)
 refine Kj I (dN I I u52) ?_
 refine Jf I I I I I (q5 I I I u47 (by kernel_rfl : _ = some (some (.slice none 0 0), 1, 24)) I ?_ (by (try simp only [sN, Int.reduceToNat, Nat.reduceAdd, Nat.reduceMul, Nat.reduceSub]); rfl) (by (try simp only [sN, Int.reduceToNat, Nat.reduceAdd, Nat.reduceMul, Nat.reduceSub]); rfl)) ?_
 ·omega
 intro b32
 refine Kj I (Fa (q := 0) I I u57 I I) (Kj I (Ld I I .tc u52) ?_)
 refine Kj I (dN I I u52) ?_
 refine Jf I I I I I (q5 I I I u96 (by kernel_rfl : _ = some (some (.slice none 0 0), 1, 24)) I ?_ (by (try simp only [sN, Int.reduceToNat, Nat.reduceAdd, Nat.reduceMul, Nat.reduceSub]); rfl) (by (try simp only [sN, Int.reduceToNat, Nat.reduceAdd, Nat.reduceMul, Nat.reduceSub]); rfl)) ?_
 ·omega
 intro b36
 refine Kj I (Kb [[.slice none 0 0], [.slice none 0 0], [.slice none 0 0], [.slice none 0 0]] I I) (Kj I (bA I I) (Kj I (Fa (q := 6) I I tB I I) ?_))
 refine WJ.nil ?_
 refine Ng I I (stp I I I .tc (by kernel_rfl) ?_ ?_ I) ?_
 ·simp [Value.oneCell']
 ·(simp; done)
 intro _
 refine Nt (Cq (Cs (Km I (Yo I u53 (Yg I (Km I (Ns 43 I (v' := .bool false) (by rfl) ?_)))))))
 refine T4 I (Yq I (Fx (fun _ => ?_)))
 refine Ck (Xa (Cs (Kq I (bM I I I) (WL.defer I I I I ?_))))
 refine Nt (Cq (Cs (Km I (Yo I u53 (Km I (Nt (Cb (Lp (σ := Nat) [(1, _), (8, _), (9, _), (10, _), (11, _), (12, _), (58, _)] (fun gq => [(59, .int .i64 0)]) (fun gq => 0 ≤ gq) (fun gq => 0) (0) (S7 I I I I I I I) (S1 I) (by (try dsimp only); exact Af _) ?_))))))))
 rintro u hinv1; (try dsimp only at hinv1 ⊢)
 refine Cs (Yl I (Nt (Cq (Cd I (fun hc60 => by exfalso; (try simp only [sB] at hc60); omega) (fun hc60 => ?_)))))
 (try simp only [sB] at hc60)
 refine Fq ?_; refine Xa (Hd ?_); refine Kq I (bA I I) (Kq I (Fa (q := 3) I I tB I I) (Kf 3 I u35 I I I .tc u33 ?_))
 refine Kh I (Oc I I (kj fun w hS => ux (by (exact hS.sl)) (by omega) (by omega))) ?_
 intro g100
 refine WL.pu ?_
 intro hg100; (try dsimp only at hg100 ⊢)
 refine Kq I (bA I I) (Kq I (Fa (q := 3) I I tB I I) (Kq I (Fa (q := 3) I I u35 I I) (Ng I I (st I I I .tc (by kernel_rfl) I ?_ (by rfl)) ?_)))
 ·(simp; done)
 intro _
 refine Nn (WC.st (S' := St (fun b => ok b ∨ w.heap.size ≤ b) w [⟨some b23, [.slice none 0 0, .slice none 0 0, .string (S []), g100.val t.vals.length, .string (S t.seed), .int .i64 t.at_, .slice none 0 0, .slice (some ⟨b28, 0, none⟩) 0 0, .slice (some ⟨b32, 0, none⟩) 0 0, .slice (some ⟨b36, 0, none⟩) 0 0], 231⟩, ⟨some b10, [.int .i64 0], 44⟩, ⟨some b9, [.slice none 0 0, .string (S []), .int .i64 0], 35⟩, ⟨some b8, [.slice none 0 0, .slice none 0 0, .slice none 0 0, .slice none 0 0], 98⟩] [Fact.sl g100.a (am t.vals)]) (fun w' h => aq _ (show St _ _ [⟨some b36, _, _⟩, ⟨some b32, _, _⟩, ⟨some b28, _, _⟩, ⟨some b23, [.slice none 0 0, .slice none 0 0, .string (S []), g100.val t.vals.length, .string (S t.seed), .int .i64 t.at_, .slice none 0 0, .slice (some ⟨b28, 0, none⟩) 0 0, .slice (some ⟨b32, 0, none⟩) 0 0, .slice (some ⟨b36, 0, none⟩) 0 0], 231⟩, ⟨some b10, [.int .i64 0], 44⟩, ⟨some b9, [.slice none 0 0, .string (S []), .int .i64 0], 35⟩, ⟨some b8, [.slice none 0 0, .slice none 0 0, .slice none 0 0, .slice none 0 0], 98⟩, ⟨some b7, _, _⟩, ⟨some b4, _, _⟩] _ _ from h)) ?_)
 refine Xa (Cq (WC.free (K := [⟨some b23, [.slice none 0 0, .slice none 0 0, .string (S []), g100.val t.vals.length, .string (S t.seed), .int .i64 t.at_, .slice none 0 0, .slice (some ⟨b28, 0, none⟩) 0 0, .slice (some ⟨b32, 0, none⟩) 0 0, .slice (some ⟨b36, 0, none⟩) 0 0], 231⟩]) (fs0 := []) [0, 1, 2, 3, 8, 4, 5, 6, 7] [9, 10] [0, 0, 0, 0, 0, 0, 0, 0, 1, 2, 2] (by kernel_rfl) (by kernel_rfl) I ?_))
 refine GP ?_; refine Kj I (bA I I) (Kj I (Fa (q := 6) I I tB I I) ?_)
 refine Kj I (ldp I I .tc u98 I (by kernel_rfl : _ = some 4) (by rfl) (by rfl)) ?_
 refine WJ.st I I I I (ft I I I ?_ ?_ ?_) ?_
 ·kernel_rfl
 ·simp [Value.oneCell']
 ·rfl
 refine GP ?_; refine Kj I (bA I I) (Kj I (Fa (q := 3) I I tB I I) ?_)
 refine Kj I (ldp I I .tc u35 I (by kernel_rfl : _ = some 3) (by rfl) (by rfl)) ?_
 refine WJ.nil ?_
 refine Nu I I (Sa I I I .tc) (Ng I I (st I I I .tc (by kernel_rfl) I ?_ (by (simp only [Bf, Bg]; rfl))) ?_)
 ·decide
 intro _
 refine Nt (Ce ?_)
 exact WX.retD (by kernel_rfl) (fun w => DB _ _ _) rfl (.agg rfl .tc u98 rfl (by kernel_rfl) (.agg rfl .tc u35 rfl (by kernel_rfl) (.one rfl .tc u44 rfl .nil))) fun w' hS => ⟨(some ⟨b28, 0, none⟩, some ⟨b32, 0, none⟩, some ⟨b36, 0, none⟩, g100.a, g100.cap), rfl, trivial, hS.below, Fc hS.slk Fn⟩
theorem s5 {t : Tp} {a : Option Addr} {c : Nat} {w : World} {ok : Nat → Prop} (hF1 : (Fact.sl a (am t.vals)).holds ok w) (hl : t.vals.length ≤ 100000) :
  Calls Tryz.prog 34 #[cl0, .slice none 0 0, t.v (.slice a t.vals.length c)] w fun e w' => ∃ gx : Tp × (Option Addr) × (Option Addr) × (Option Addr) × (Option Addr) × Nat, e = .returned (.tuple #[.agg #[.slice none 0 0, .slice gx.2.1 0 0, .slice gx.2.2.1 0 0, .slice gx.2.2.2.1 0 0], gx.1.v (.slice gx.2.2.2.2.1 gx.1.vals.length gx.2.2.2.2.2), .int .i64 (if cr t then 0 else 3)]) ∧ (cr t → gx.1 = t) ∧ Below w.heap.size w w' ∧ ∀ x ∈ ([Fact.sl gx.2.2.2.2.1 (am gx.1.vals)] : List Fact), x.holds (fun b => ok b ∨ w.heap.size ≤ b) w' := by
 refine enter (S := St (fun b => ok b ∨ w.heap.size ≤ b) w [] ([Fact.sl a (am t.vals)])) (L := [(0, cl0), (1, .slice none 0 0), (2, t.v (.slice a t.vals.length c))]) Tryz.func34 rfl Tryz.ntmps34 rfl (Ac rfl (Ac rfl (Ac rfl (An _)))) (St.start (fun _ h => Or.inr h) (bL (Fc hF1 Fn))) ?_
 refine Eq ?_
 intro b3
 refine Gc ?_
 intro b5
 refine HD ?_
 intro b6
 refine FP ?_
 intro b7
 refine Ka I (Nt (Cq (Cs (Kq I (lda I I .tc u57 I ?_) ?_))))
 ·kernel_rfl
 refine Kc I (fun w hS => lL) (FN ?_); refine Yj I (Ns 15 I (v' := .bool false) (by rfl) ?_)
 refine Fx (fun _ => ?_)
 refine GO ?_; refine Kc I (fun w hS => pk) (Yt I (Ns 21 I (v' := .bool false) (by rfl) ?_))
 refine Km I (Kq I (lda I I .tc u35 I ?_) ?_)
 ·kernel_rfl
 refine Kc I (fun w hS => yJ (t := t) (by (exact hS.sl)) (by assumption)) (Yt I (Yq I (Nt (Ci I (fun hc26 => ?_) (fun hc26 => ?_)))))
 ·have hg : ¬ cr t := by (exact hc26)
  refine Cs (Kq I (Kb [[.slice none 0 0], [.slice none 0 0], [.slice none 0 0], [.slice none 0 0]] I I) (FJ ?_))
  refine FF ?_; refine FF ?_; refine le ?_; refine Xb ?_
  exact Rn I (.agg I .tc u98 I (by kernel_rfl) (.agg I .tc u35 I (by kernel_rfl) (.tmp I .nil))) fun w' hS => ⟨(⟨[], [], 0⟩, none, none, none, none, 0), by rw [Aa hg]; rfl, fun h => absurd h hg, hS.below, Fc av Fn⟩
 ·have hg : cr t := by (simpa using hc26)
  refine Ck (Xa (Cs (Kq I (lda I I .tc u57 I ?_) ?_)))
  ·kernel_rfl
  refine Km I (Kc I (fun w hS => wb) (Fs ?_)); refine Cq (Cs (Km I (Yj I (Ns 36 I (v' := .bool false) (by rfl) ?_))))
  refine Fx (fun _ => ?_)
  refine Ck (Xa (Cs (Kq I (lda I I .tc u57 I ?_) ?_)))
  ·kernel_rfl
  refine Km I (Kq I (lda I I .tc u35 I ?_) ?_)
  ·kernel_rfl
  refine Kh I (Oc I I (bK fun w hS => CE (by (exact hS.slo)) (by assumption))) ?_
  rintro ⟨p143, p243, p343, ha43, hc43⟩
  refine WL.pu ?_
  intro hg43; (try dsimp only [List.cons_append, List.nil_append] at hg43 ⊢)
  refine Ye I (Ye I (Ye I (FF ?_))); refine FF ?_; refine le ?_
  exact Rn I (.agg I .tc u98 I (by kernel_rfl) (.agg I .tc u35 I (by kernel_rfl) (.tmp I .nil))) fun w' hS => ⟨(t, p143, p243, p343, ha43, hc43), by rw [Ae hg]; rfl, fun _ => rfl, hS.below, Fc hS.slk Fn⟩
theorem xU {gs : List Gp} (h : ak gs ≠ []) : ∃ i : Nat, i < gs.length ∧ ixP (fun g : Gp => decide (g.2 ≠ [])) gs = (i : Int) ∧ (gs.getD i default).2 = ak gs := by
 cases e : gs.find? (fun g => decide (g.2 ≠ [])) with
 | none => rw [ak, e] at h; exact absurd rfl h
 | some g =>
  obtain ⟨h1, l, r, h2, h3⟩ := List.find?_eq_some_iff_append.1 e
  have h4 : gs.getD l.length default = g := by rw [h2, List.getD_eq_getElem?_getD]; simp
  refine ⟨l.length, by rw [h2]; simp, ik (by rw [h2]; simp) (by rw [h2]; simpa using h3) (by rw [h4]; exact h1), ?_⟩
  rw [h4, ak, e]; rfl
theorem xN {t : Tp} {a : Option Addr} {c : Nat} {w : World} {ok : Nat → Prop} (hF1 : (Fact.sl a (am t.vals)).holds ok w) (hl : t.vals.length ≤ 100000) :
  Calls Tryz.prog 66 #[t.v (.slice a t.vals.length c), .string (S (ae 1)), .int .i64 0] w fun e w' => ∃ gx : Tp × (Option Addr) × Nat, e = .returned (.tuple #[.slice none 0 0, gx.1.v (.slice gx.2.1 gx.1.vals.length gx.2.2), .int .i64 (bf t (ae 1))]) ∧ (True) ∧ Below w.heap.size w w' ∧ ∀ x ∈ ([] : List Fact), x.holds (fun b => ok b ∨ w.heap.size ≤ b) w' := by
 refine enter (S := St (fun b => ok b ∨ w.heap.size ≤ b) w [] ([Fact.sl a (am t.vals)])) (L := [(0, t.v (.slice a t.vals.length c)), (1, .string (S (ae 1))), (2, .int .i64 0)]) Tryz.func66 rfl Tryz.ntmps66 rfl (Ac rfl (Ac rfl (Ac rfl (An _)))) (St.start (fun _ h => Or.inr h) (bL (Fc hF1 Fn))) ?_
 refine Eq ?_
 intro b3
 refine Ka I (FP ?_)
 intro b7
 refine Ka I (Nt (Cq (Cs (Kq I (lda I I .tc u35 I ?_) ?_))))
 ·kernel_rfl
 refine Km I (Kc I (fun w hS => kF (t := t) (n := ae 1) (by (exact hS.sl)) (by assumption)) (Ka I (Nt (Fz (fun hc18 => ?_) (fun hc18 => ?_)))))
 ·have h0 : bf t (ae 1) ≠ 0 := by (exact hc18)
  refine Cs (FJ ?_); refine Km I (Ka I (FF ?_)); refine le ?_; refine Xb ?_
  exact Rn I (.tmp I (.agg I .tc u35 I (by kernel_rfl) (.tmp I .nil))) fun w' hS => ⟨(⟨[], [], 0⟩, none, 0), rfl, trivial, hS.below, Fn⟩
 ·have h0 : bf t (ae 1) = 0 := by (simpa using hc18)
  refine GO ?_; refine Yl I (Ns 22 I (v' := .bool false) (by rfl) ?_)
  refine Km I (Km I (Yg I (Ns 25 I (v' := .bool false) (by rfl) ?_)))
  refine Yq I (Fx (fun _ => ?_))
  refine Ck (Xa (Cs (FM ?_))); refine Km I (Nt (Cb (Lp (σ := Nat) [(1, _), (3, _), (7, _), (28, _)] (fun gq => [(29, .int .i64 0), (10, .slice none 0 0)]) (fun gq => 0 ≤ gq) (fun gq => 0) (0) (S4 I I I I) (S2 I I) (by (try dsimp only); exact Af _) ?_)))
  rintro u hinv1; (try dsimp only at hinv1 ⊢)
  refine Cs (Yl I (Nt (Cq (Cd I (fun hc30 => by exfalso; (try simp only [sB] at hc30); omega) (fun hc30 => ?_)))))
  (try simp only [sB] at hc30)
  refine Fq ?_; refine Xa (Cq ?_)
  refine Cf [0, 1, 2] [3, 4] [0, 0, 0, 2, 2] (by kernel_rfl) (by kernel_rfl) I ?_
  refine GP ?_
  refine Kj I (lda I I .tc u35 I ?_) ?_
  ·kernel_rfl
  refine GR ?_
  refine WJ.nil ?_
  refine FF ?_; refine le ?_
  exact Rn I (.tmp I (.agg I .tc u35 I (by kernel_rfl) (.tmp I .nil))) fun w' hS => ⟨(t, a, c), by rw [h0]; rfl, trivial, hS.below, Fn⟩
theorem Ei {x : Zs} {w : World} :
  Cw 61 #[zV x] w (.bool (decide (¬ okZ x))) := by
 refine En [] [(0, zV x)] Tryz.func61 I Tryz.ntmps61 I (Ac I (An _)) Fn (Eq ?_)
 intro b1
 refine Ka I (Nt (Cs (Kq I (lda I I .tc u68 I ?_) ?_)))
 ·kernel_rfl
 refine Kc I (fun w hS => bR (x := x)) (Yt I (le ?_))
 exact IE
theorem Eh {g : Gp} {w : World} :
  Cw 69 #[gV g] w (.bool (decide (g.2 ≠ []))) := by
 refine En [] [(0, gV g)] Tryz.func69 I Tryz.ntmps69 I (Ac I (An _)) Fn (Eq ?_)
 intro b1
 refine Ka I (Nt (Cs (Gh ?_)))
 refine Yr I (le ?_)
 exact IE
theorem DZ {v q : Bs} {b : Nat} {w : World} {ok : Nat → Prop} (hF1 : (Fact.sl (some ⟨b, 0, none⟩) [.string (S q)]).holds ok w) :
  Cw 70 #[.agg #[.string (S v)], .pointer (some ⟨b, 0, none⟩)] w (.string (S (if v = [] then q else v))) := by
 refine En [Fact.sl (some ⟨b, 0, none⟩) [.string (S q)]] [(0, .agg #[.string (S v)]), (1, .pointer (some ⟨b, 0, none⟩))] Tryz.func70 I Tryz.ntmps70 I (Ac I (Ac I (An _))) (Fc (af hF1) Fn) (Eq ?_)
 intro b2
 refine GI ?_; refine Hc ?_
 refine Hh (fun hc6 => ?_) (fun hc6 => ?_)
 ·have hv : v = [] := by (exact hc6)
  refine Cs (Ht ?_)
  refine le ?_; refine Xb ?_
  exact R1 I I (by rw [Ae hv]; rfl)
 ·have hv : ¬ v = [] := by (exact hc6)
  refine Ck (Xa (Cs (Hc ?_)))
  refine le ?_
  exact R1 I I (by rw [Aa hv]; rfl)
theorem BJ {r : Gp} {s : SA} {ws : List Zs} {t : Tp} {wa a : Option Addr} {wc c : Nat} {w : World} {ok : Nat → Prop} (hF1 : (Fact.sl s.ga (gps s.gs)).holds ok w) (hF2 : (Fact.sl s.va (vrs s.vs)).holds ok w) (hF3 : (Fact.sl s.ea (qas s.es)).holds ok w) (hF4 : (Fact.sl wa (ar ws)).holds ok w) (hF5 : (Fact.sl a (am t.vals)).holds ok w) (hM : ∀ f ∈ (s.es.map qaF), f.holds ok w) (hs : saL s) (hwl : ws.length ≤ 100000) (hl : t.vals.length ≤ 100000) (hfo : bc s.core) (hq0 : ak s.gs ≠ []) :
  Cw 32 #[ia r s, .slice wa ws.length wc, .slice none 0 0, t.v (.slice a t.vals.length c)] w (.int .i64 (eC s.core ws t)) := by
 obtain ⟨i0, hi0, hix, ho0⟩ := xU hq0
 have hoo : okN (ak s.gs) := cm hfo.1
 have hlg := hs.1
 have hlv := hs.2.1
 refine En (Fact.sl s.ga (gps s.gs) :: Fact.sl s.va (vrs s.vs) :: Fact.sl s.ea (qas s.es) :: Fact.sl wa (ar ws) :: Fact.sl a (am t.vals) :: (s.es.map qaF)) [(0, ia r s), (1, .slice wa ws.length wc), (2, .slice none 0 0), (3, t.v (.slice a t.vals.length c))] Tryz.func32 I Tryz.ntmps32 I (Ac I (Ac I (Ac I (Ac I (An _))))) (Fc (af hF1) (Fc (af hF2) (Fc (af hF3) (Fc (af hF4) (Fc (af hF5) (aE hM)))))) (Eq ?_)
 intro b4
 refine Gc ?_
 intro b7
 refine Ka I (Nt (Cs (Kh I (Oa I (v := .nilFunc) (cs := [.nilFunc]) (by kernel_rfl) I) ?_)))
 intro b9
 refine Ng I I (st I I I .tc (by kernel_rfl) I ?_ (by (simp only [Bf, Bg]; rfl))) ?_
 ·decide
 intro _
 refine Nt (Cq (WC.joinP (σ := Unit) [(1, _), (2, _), (4, _), (7, _)] (fun gq => [(33, .bool (decide (¬ bO ws)))]) (fun gq => True) (S4 I I I I) ?_ ?_))
 ·skip
  refine Cg (Km I (Kq I (Ld I I .tc CT) ?_))
  refine Kc I (fun w hS => rx (l := ws) (fk := 61) (cs := #[]) (p := fun x => decide (¬ okZ x)) (by (exact hS.sl)) (by exact hwl) (by kernel_rfl) (by exact fun x hx w' hb => Ei (x := x))) ?_
  rw [CK]
  refine Km I (Nc 29 I (fun hg29 => ?_) (fun hg29 => ?_))
  ·refine T2 I (Kt I (Yp I (Nn (WX.joinP (()) (S4 I I I I) (by refine (Sc ?_ (S0 _)) <;> ((refine ao rfl ?_; (try dsimp only); (simp [*]; done)))) ?_ (fun _ h => h))))); (try dsimp only); done
  ·refine Km I (Kq I (bM I I I) (Kc I (fun w hS => p6) (Ns 32 I (v' := .bool false) (by rfl) ?_))); refine Yq I (Nn (WX.joinP (()) (S4 I I I I) (by refine (Sc ?_ (S0 _)) <;> ((refine ao rfl ?_; (try dsimp only); (simp [*]; done)))) ?_ (fun _ h => h))); (try dsimp only); done
 ·rintro _ hmeet; (try dsimp only at hmeet ⊢)
  refine Ci I (fun hc33 => ?_) (fun hc33 => ?_)
  ·have hr : eC s.core ws t = 3 := by rw [eC, Ae hc33]
   refine Cs (le ?_); refine Xb ?_; exact Io
  ·have hz : bO ws := Ah.1 hc33; refine Ck (Xa (Cq (Cq (WC.free (K := [⟨some b7, [.slice a t.vals.length c, .string (S t.seed), .int .i64 t.at_], 35⟩]) (fs0 := [Fact.sl a (am t.vals)]) [1, 0, 2, 3, 4, 5, 7, 8, 9, 6] [10] [0, 1, 1, 0, 0, 0, 0, 3, 0, 1, 2] (by kernel_rfl) (by kernel_rfl) I ?_)))); refine Jv I I I I I (fun ext => Oc I I (Kv fun w hS => fU (n := 1) (by omega))) ?_; refine Kj I (lda I I .tc u35 I ?_) ?_
   ·kernel_rfl
   refine Jg I I I I I (fun ext => Oc I I (bK fun w hS => xN (by (exact hS.slo)) (by assumption))) ?_; rintro ⟨u37, ha37, hc37⟩ hg37; (try dsimp only [List.cons_append, List.nil_append] at hg37 ⊢); refine GP ?_; refine Hu ?_; refine Hu ?_; refine Jf I I I I I (cG I (v := (.agg #[.slice none 0 0, .string (S []), .int .i64 0])) (cs := [.slice none 0 0, .string (S []), .int .i64 0]) (by kernel_rfl) I) ?_; intro b11; refine GR ?_; refine WJ.st I I I I (ft I I I ?_ ?_ ?_) ?_
   ·kernel_rfl
   ·simp [Value.oneCell']
   ·rfl
   refine Hu ?_; refine WJ.nil ?_; refine Ka I (Nt (Fz (fun hc42 => ?_) (fun hc42 => ?_)))
   ·have hr : eC s.core ws t = bf t (ae 1) := by rw [eC, Aa (fun g => g hz), Ae (by (exact hc42))]
    refine Cs (Km I (le ?_)); refine Xb ?_; exact Io
   ·have hrd : bf t (ae 1) = 0 := by (simpa using hc42)
    refine Ck (Xa (Cq (WC.joinP (σ := Unit) [(1, _), (2, _), (4, _)] (fun gq => [(59, .bool (decide (¬ ws.length = s.vs.length)))]) (fun gq => True) (S3 I I I) ?_ ?_)))
    ·skip
     refine Cg (Km I (Yo I u31 (H2 ?_))); refine Yo I u40 (Yj I (Km I (Nc 51 I (fun hg51 => ?_) (fun hg51 => ?_))))
     ·refine T4 I (T2 I (Kt I (Yp I (Nn (WX.joinP (()) (S3 I I I) (by refine (Sc ?_ (S0 _)) <;> ((exact congrArg (fun b => some (Value.bool b)) (by symm; apply Az; omega)))) ?_ (fun _ h => h)))))); (try dsimp only); done
     ·refine Km I (Yo I u47 (Kq I (Fa (q := 5) I I u89 I I) (Kf 5 I u57 I I I .tc u52 ?_))); refine Yo I u52 (Yj I (Ns 58 I (v' := .bool false) (by rfl) ?_)); refine Yq I (Nn (WX.joinP (()) (S3 I I I) (by refine (Sc ?_ (S0 _)) <;> ((exact congrArg (fun b => some (Value.bool b)) (by symm; apply Aj; omega)))) ?_ (fun _ h => h))); (try dsimp only); done
    ·rintro _ hmeet; (try dsimp only at hmeet ⊢); refine Ci I (fun hc59 => ?_) (fun hc59 => ?_)
     ·have hr : eC s.core ws t = 6 := by rw [eC, Aa (fun g => g hz), Aa (fun g => g hrd), Ae hc59]
      refine Cs (le ?_); refine Xb ?_; exact Io
     ·have hwv : ws.length = s.vs.length := Ah.1 hc59; refine Ck (Xa (Cs (GI ?_))); refine Kq I (Fa (q := 2) I I u89 I I) (Kf 2 I u43 I I I .tc u39 ?_); refine Kc I (fun w hS => yV (l := s.gs) (fk := 69) (cs := #[]) (p := fun g : Gp => decide (g.2 ≠ [])) (by (exact hS.sl)) (by omega) (by kernel_rfl) (by exact fun x hx w' hb => Eh (g := x))) ?_; rw [hix]; refine Ka I (Nt (Cs (Km I (Yh I (Nt (Cd I (fun hc65 => ?_) (fun hc65 => by exfalso; (try simp only [sB] at hc65); omega))))))); (try simp only [sB] at hc65); refine Cs (Kq I (Fa (q := 2) I I u89 I I) (Kf 2 I u43 I I I .tc u39 ?_)); refine Km I (Fv ?_); (refine Kq I (faf I I u26 I (by kernel_rfl) (by (try simp only [sN, Int.reduceToNat, Nat.reduceAdd, Nat.reduceMul, Nat.reduceSub]); rfl)) ?_); refine FZ ?_; refine Ns 72 I (v' := .string (S (ak s.gs))) (congrArg (fun l => Value.string (S l)) (by rw [ho0])) ?_; refine GN ?_; intro b15; refine Ng I I (st I I I .tc (by kernel_rfl) I ?_ (by (simp only [Bf, Bg]; rfl))) ?_
      ·decide
      intro _; refine Nt (Cg (Kq I (bM I I I) (GI ?_))); refine H2 ?_; refine HF ?_; refine Lp (σ := Nat) [(1, _), (2, _), (4, _), (13, _), (76, _), (77, _)] (fun gq => [(78, .int .i64 (gq : Int))]) (fun gq => gq ≤ s.vs.length ∧ ∀ k, k < gq → inV (ak s.gs) (s.vs.getD k default) (ws.getD k default)) (fun gq => s.vs.length - gq) (0) (S6 I I I I I I) (S1 I) (by (try dsimp only); exact ⟨Af _, fun _ h => absurd h (B6 _)⟩) ?_; rintro j hinv1; (try dsimp only at hinv1 ⊢); obtain ⟨hj, hok⟩ := hinv1; refine ne (fun hc79 => ?_) (fun hc79 => ?_)
      ·have hjl : j < s.vs.length := by omega
       have hjw : j < ws.length := by omega
       obtain ⟨v, hv⟩ : ∃ v, Keep (v = s.vs.getD j default) := ⟨_, rfl⟩; obtain ⟨W, hW⟩ : ∃ W, Keep (W = ws.getD j default) := ⟨_, rfl⟩; have hvo : okN v := by rw [show v = _ from hv]; exact hfo.2.1 _ (aj _ _ hjl)
       have hWo : okZ W := by rw [show W = _ from hW]; exact hz _ (aj _ _ hjw)
       obtain ⟨L, hL⟩ : ∃ L, Keep (L = if v = [] then ak s.gs else v) := ⟨_, rfl⟩; have hLo : okN L := by rw [show L = _ from hL]; split; exact hoo; exact hvo
       have hbw : inV (ak s.gs) v W ↔ blw v W (val L) := by rw [show L = _ from hL]; exact kl
       refine FO ?_; refine Km I (FG ?_); refine Fu ?_; rw [← show v = _ from hv]; refine GK ?_; intro b17; refine Ka I (FF ?_); refine Nt (WC.joinP (σ := Unit) [(1, _), (2, _), (4, _), (13, _), (76, _), (77, _), (78, _)] (fun gq => [(104, .bool (decide (¬ val W.2 < val L ∨ (v = [] ∧ W.1 = true))))]) (fun gq => True) (S7 I I I I I I I) ?_ ?_)
       ·skip
        refine Cf [5, 6, 7, 0, 1, 2, 3, 4, 8, 9, 10, 11, 12, 13, 14, 15, 16, 17, 18, 19, 20, 21] [] [0, 0, 0, 0, 0, 0, 0, 1, 1, 0, 0, 0, 0, 0, 0, 0, 0, 0, 0, 0, 0, 0] (by kernel_rfl) (by kernel_rfl) I ?_; refine GP ?_; refine Kj I (lda I I .tc bG I ?_) ?_
        ·kernel_rfl
        refine Jv I I I I I (fun ext => a6 I I I (by kernel_rfl) I (Kv fun w hS => DZ (v := v) (q := ak s.gs) (by (exact hS.os)))) ?_; refine WJ.set 90 I (v' := .string (S (L))) (congrArg (fun l => Value.string (S l)) (by rw [show L = _ from hL])) ?_; refine Ft ?_; refine Fw ?_; (refine Kj I (faf I I u68 I (by kernel_rfl) (by (try simp only [sN, Int.reduceToNat, Nat.reduceAdd, Nat.reduceMul, Nat.reduceSub]); rfl)) ?_); refine HC ?_; refine WJ.set 87 I (v' := .string (S (W.2))) (congrArg (fun l => Value.string (S l)) (by rw [show W = _ from hW])) ?_; refine Jv I I I I I (fun ext => Oc I I (Kv fun w hS => cZ (a := W.2) (b := L))) ?_; refine Kj I (uh I I I) ?_; refine WJ.set 92 I (v' := .bool (decide (¬ val W.2 < val L))) (congrArg Value.bool (by exact Ak.2 (by rw [a8 hWo.1 hLo]; have := aR (val W.2) (val L); omega))) ?_; refine GP ?_; refine WJ.bool 93 I (fun hg93 => ?_) (fun hg93 => ?_)
        ·(try simp only [sB] at hg93); refine Js I I I I (Js I I I I (Js I I I I (Js I I I I (Js I I I I (Js I I I I (Js I I I I (Js I I I I (Js I I I I (Js I I I I (Kj I (Rp I I I) ?_)))))))))); refine WJ.nil ?_; refine Nn (WX.joinP (()) (S7 I I I I I I I) (by refine (Sc ?_ (S0 _)) <;> ((refine ao rfl ?_; (try dsimp only); (simp [*]; done)))) ?_ (fun _ h => h)); (try dsimp only); done
        ·(try simp only [sB] at hg93); refine Kj I (Fa (q := 0) I I bG I I) (Gg ?_); refine Kj I (jw I I I) (GP ?_); refine WJ.bool 97 I (fun hg97 => ?_) (fun hg97 => ?_)
         ·(try simp only [sB] at hg97); refine Kj I (Rm I I) (Kj I (Rm I I) ?_); refine Kj I (Ia I I I u31 (by kernel_rfl : _ = some 2) (by omega) (by (rw [ag _ _ 2 (fun _ => rfl)]; omega))) ?_; (refine Kj I (faf I I u68 I (by kernel_rfl) (by (try simp only [sN, Int.reduceToNat, Nat.reduceAdd, Nat.reduceMul, Nat.reduceSub]); rfl)) ?_); refine Kj I (cE (sz := 2) _ 0 I I u4 I (fun _ => rfl) I (by assumption) (by decide) I) ?_; refine WJ.set 102 I (v' := .bool (W.1)) (congrArg Value.bool (by rw [show W = _ from hW])) ?_; refine Kj I (Rp I I I) (Kj I (Rq I I I) ?_); refine WJ.nil ?_; refine Nn (WX.joinP (()) (S7 I I I I I I I) (by refine (Sc ?_ (S0 _)) <;> ((refine ao rfl ?_; (try dsimp only); (simp [*]; done)))) ?_ (fun _ h => h)); (try dsimp only); done
         ·(try simp only [sB] at hg97); refine Js I I I I (Js I I I I (Js I I I I (Js I I I I (Js I I I I (Kj I (Rq I I I) (Kj I (Rq I I I) ?_)))))); refine WJ.nil ?_; refine Nn (WX.joinP (()) (S7 I I I I I I I) (by refine (Sc ?_ (S0 _)) <;> ((refine ao rfl ?_; (try dsimp only); (simp [*]; done)))) ?_ (fun _ h => h)); (try dsimp only); done
       ·rintro _ hmeet; (try dsimp only at hmeet ⊢); refine Ci I (fun hc104 => ?_) (fun hc104 => ?_)
        ·have hni : ¬ inV (ak s.gs) v W := fun h => by
          have h1 := hbw.1 h
          rcases hc104 with g | ⟨g1, g2⟩
          ·exact g h1.1
          ·rw [h1.2 g1] at g2; cases g2
         have hn : ¬ inR s.core ws := fun h => hni (by rw [show v = _ from hv, show W = _ from hW]; exact h j hjl)
         have hr : eC s.core ws t = 2 := by rw [eC, Aa (fun g => g hz), Aa (fun g => g hrd), Aa (fun g => g hwv), Ae hn]
         refine Cs (le ?_); refine FE ?_; exact Io
        ·have hyi : inV (ak s.gs) v W := hbw.2 ⟨A8 fun g => hc104 (Or.inl g), fun g => by cases e : W.1 with | false => rfl | true => exact absurd (Or.inr ⟨g, e⟩) hc104⟩; refine Ck (Xd (Xa (Cg (Kq I (Rz I I I (by omega)) (Km I (Nn (Ly (j + 1) (by (try dsimp only); omega) (S6 I I I I I I) (by refine (Sc ?_ (S0 _)) <;> (rfl)) ?_ (by (exact aq))))))))); (try dsimp only); exact ⟨hjl, fun k hk => by rcases Bc.1 hk with h | h; exact hok k h; subst h; rw [← show v = _ from hv, ← show W = _ from hW]; exact hyi⟩
      ·refine Fq ?_; obtain rfl : j = s.vs.length := by omega
       have hin : inR s.core ws := fun k hk => hok k hk
       refine Xa (Cs (Ha ?_)); refine Km I (Kc I (fun w hS => nV (s := s) (ws := ws) (by (exact hS.sl)) (by (exact hS.sl)) (by (exact hS.sl)) (by (exact hS.sl)) (by (exact hS.more)) (by exact hs) (by exact hwl)) (Fs ?_)); refine Cq (Fz (fun hc114 => ?_) (fun hc114 => ?_))
       ·have hr : eC s.core ws t = (cn s.core ws).2 := by rw [eC, Aa (fun g => g hz), Aa (fun g => g hrd), Aa (fun g => g hwv), Aa (fun g => g hin), Ae (by (exact hc114))]
        refine Cs (Km I (le ?_)); refine Xb ?_; exact Io
       ·have hh2 : (cn s.core ws).2 = 0 := by (simpa using hc114)
        refine Ck (Xa (Cs (FM ?_))); refine Yo I u47 (Km I (Nt (Cb (Lp (σ := Nat) [(4, _), (18, _), (116, _), (117, _)] (fun gq => [(118, .int .i64 0), (20, .slice none 0 0)]) (fun gq => 0 ≤ gq) (fun gq => 0) (0) (S4 I I I I) (S2 I I) (by (try dsimp only); exact Af _) ?_)))); rintro u hinv2; (try dsimp only at hinv2 ⊢); refine Cs (Yl I (Nt (Cq (Cd I (fun hc119 => by exfalso; (try simp only [sB] at hc119); omega) (fun hc119 => ?_))))); (try simp only [sB] at hc119); refine Fq ?_; refine Xa (Cs (Ie ?_)); refine G7 ?_; refine Km I (Kc I (fun w hS => o8 (a := none) (c := 0)) (Fs ?_)); refine Cq (WC.joinP (σ := Unit) [] (fun gq => [(167, .bool (decide ((cn s.core ws).1 = false)))]) (fun gq => True) (S0 _) ?_ ?_)
        ·skip
         refine Cg (Km I (Yt I (Km I (Nc 153 I (fun hg153 => ?_) (fun hg153 => ?_)))))
         ·refine T2 I (Yp I (Km I (T4 I (T4 I (Kt I (Yp I (Nn (WX.joinP (()) (S0 _) (by refine (Sc ?_ (S0 _)) <;> ((refine ao rfl ?_; (try dsimp only); (simp [*]; done)))) ?_ (fun _ h => h))))))))); (try dsimp only); done
         ·refine Km I (Yj I (Ns 155 I (v' := .bool false) (by rfl) ?_)); refine Yq I (Km I (Km I (Yo I u95 (Yg I (Km I (Ns 161 I (v' := .bool false) (by rfl) ?_)))))); refine T4 I (Yq I (Yq I (Nn (WX.joinP (()) (S0 _) (by refine (Sc ?_ (S0 _)) <;> ((refine ao rfl ?_; (try dsimp only); (simp [*]; done)))) ?_ (fun _ h => h))))); (try dsimp only); done
        ·rintro _ hmeet; (try dsimp only at hmeet ⊢); refine Ci I (fun hc167 => ?_) (fun hc167 => ?_)
         ·have hr : eC s.core ws t = 18 := by rw [eC, Aa (fun g => g hz), Aa (fun g => g hrd), Aa (fun g => g hwv), Aa (fun g => g hin), Aa (fun g => g hh2), Ae hc167]
          refine Cs (le ?_); refine Xb ?_; exact Io
         ·have hr : eC s.core ws t = 0 := by rw [eC, Aa (fun g => g hz), Aa (fun g => g hrd), Aa (fun g => g hwv), Aa (fun g => g hin), Aa (fun g => g hh2), Aa hc167]
          refine Ck (Xa (Cs (le ?_))); exact Io
def fm (r : Gp) (s : Sm) (ws : List Zs) (n : Bs) (xs : List Zs) : List Bs × Int :=
 if (dm r s ws (cg s (val n) xs) n xs).2 ≠ 0 then ([], (dm r s ws (cg s (val n) xs) n xs).2) else ez r s (dm r s ws (cg s (val n) xs) n xs).1
theorem y9 {r : Gp} {cx : Bs} {s : Sm} {ws : List Zs} {n : Bs} {xs : List Zs} (hp : Prf r cx s n xs) (h : ¬ ((cn s ws).2 = 0 ∧ (cn s ws).1 = true)) : (fm r s ws n xs).2 ≠ 0 := by
 have h1 : (dm r s ws (cg s (val n) xs) n xs).2 ≠ 0 := by
  rw [dm, Aa (fun g => g hp.bd)]
  split
  ·decide
  ·rw [Aa (fun g => g hp.vf)]; split
   ·assumption
   ·rename_i h2; rw [Ae (by cases e : (cn s ws).1 with | false => rfl | true => exact absurd ⟨Ah.1 h2, e⟩ h)]; decide
 rw [fm, Ae h1]; exact h1
theorem uG {α : Type} [Inhabited α] {a b : List α} (hl : a.length = b.length) (h : ∀ i, i < b.length → a.getD i default = b.getD i default) : a = b := by
 refine List.ext_getElem hl fun i h1 h2 => ?_
 have := h i h2
 rw [List.getD_eq_getElem?_getD, List.getD_eq_getElem?_getD, Ad h1, Ad h2] at this
 exact this
theorem sI {q : Bs} {vs : List Bs} {c : Nat} {ws xs : List Zs} {n i : Nat} (h : i < n) : (ip q vs c ws xs n).getD i default = gp q (vs.getD i default) c (ws.getD i default) (xs.getD i default) := by
 rw [ip, List.getD_eq_getElem?_getD, A4, Db h]; rfl
theorem mO {r : Gp} {vs : List Bs} {ms : List Zs} {n i : Nat} (h : i < n) : (fV r vs ms n).getD i default = j5 r (vs.getD i default) (ms.getD i default) := by
 rw [fV, List.getD_eq_getElem?_getD, A4, Db h]; rfl
theorem yg {r : Gp} {q v : Bs} {c : Nat} {w x : Zs} (hq : v = [] → okN q ∧ 0 < val q) (hw : inV q v w) (hwo : okZ w) (hxo : okZ x) (hx : blw v x (val (aw r q v).2)) (hc : c < val r.1) (hv : okN v) (hB : mkI r v < Big) :
  okZ (gp q v c w x) ∧ blw v (gp q v c w x) (val (aw r q v).1) ∧ ofZ (f4 q v c (zv w) (zv (gp q v c w x))) = x := by
 by_cases h : v = []
 ·obtain ⟨hqo, hqp⟩ := hq h
  rw [inV, Ae h] at hw
  obtain ⟨hx1, hx2⟩ := hx
  rw [aw, Ae h] at hx1 ⊢
  have hx2 := hx2 h
  have hqB := a7 hqo
  rw [gp, Ae h, f4, Ae h]
  have hl := Aq (val x.2 % val q + (val q - c * val w.2 % val q % val q)) hqp
  have zw : zv w = (val w.2 : Int) := by obtain ⟨a, b⟩ := w; dsimp only at hw ⊢; rw [hw.1]; rfl
  have zx : zv x = (val x.2 : Int) := by obtain ⟨a, b⟩ := x; dsimp only at hx2 ⊢; rw [hx2]; rfl
  have zm : ∀ k : Nat, zv (false, ae k) = (k : Int) := fun k => by show ((val (ae k) : Nat) : Int) = _; rw [ah]
  refine ⟨uw (az (by omega)), ⟨by dsimp only; rw [ah]; exact hl, fun _ => rfl⟩, ?_⟩
  rw [zw, zm, ← C0, ← D4, ← Dd, ← D4]
  dsimp only at hx1
  have hA := Aq (c * val w.2) hqp
  rw [Nat.mod_mod, Am hx1, Nat.mod_add_mod, show val x.2 + (val q - c * val w.2 % val q) + c * val w.2 % val q = val x.2 + val q by omega, Nat.add_mod_right, Am hx1, ← zx]
  exact ex hxo
 ·rw [inV, Aa h] at hw
  obtain ⟨hx1, _⟩ := hx
  rw [aw, Aa h] at hx1 ⊢
  dsimp only at hx1 ⊢
  rw [ah] at hx1 ⊢
  rw [gp, Aa h, f4, Aa h, dE]
  have hv1 : 1 ≤ val v := by rcases Bw (val v) with g | g; exact absurd ((aM hv.2).1 g) h; exact g
  have h1 : ((c : Int) * zv w).natAbs ≤ (val r.1 - 1) * (val v - 1) := by
   rw [Int.natAbs_mul, Bh, hH]; exact Dg (by omega) (by omega)
  have h2 : (zv x).natAbs < mkI r v - (val r.1 - 1) * (val v - 1) := by rw [hH]; exact hx1
  have h3 : (zv x - (c : Int) * zv w).natAbs < mkI r v := by
   generalize (c : Int) * zv w = y at *; generalize (val r.1 - 1) * (val v - 1) = k at *; generalize mkI r v = M at *; omega
  refine ⟨bZ.2 (by omega), ⟨by rw [iA]; exact h3, fun g => absurd g h⟩, ?_⟩
  rw [show zv x - (c : Int) * zv w + (c : Int) * zv w = zv x by omega]
  exact ex hxo
theorem yu {r : Gp} {q v : Bs} {m : Zs} {l : List Bs} {i : Nat} (hq : v = [] → okN q ∧ q ≠ []) (hr : 1 ≤ val r.1 ∧ 1 ≤ val r.2) (hv : okN v) (hB : 2 * mkI r v < Big) (hmo : okZ m) (hm : blw v m (val (aw r q v).1)) (hl : l.getD i default = j5 r v m) (hi : i < l.length) (hln : l.length ≤ 1000) (hk : ∀ x ∈ l, okN x) :
  cO r q v ⟨l, [], (i : Int)⟩ = (m, ⟨l, [], ((i + 1 : Nat) : Int)⟩, 0) := by
 have hg : cr ⟨l, [], (i : Int)⟩ := ⟨by dsimp only; omega, by dsimp only; omega, hk⟩
 have hat : ((⟨l, [], (i : Int)⟩ : Tp).at_ < ((⟨l, [], (i : Int)⟩ : Tp).vals.length : Int)) := by dsimp only; omega
 by_cases h : v = []
 ·obtain ⟨hqo, hq0⟩ := hq h
  rw [cO, Ae h, aw, Ae h]
  rw [aw, Ae h] at hm
  dsimp only at hm ⊢
  rw [j5, Ae h] at hl
  have hrd : bf ⟨l, [], (i : Int)⟩ q = 0 := by rw [bf, Ae ⟨hg, hqo⟩, Aa hq0]
  have hc : ¬ (0 ≤ fg m.2 q) := by rw [a8 hmo.1 hqo]; have := (aR _ _).2 hm.1; omega
  have hd : aO ⟨l, [], (i : Int)⟩ q = (m.2, ⟨l, [], ((i + 1 : Nat) : Int)⟩, 0) := by
   rw [aO, Ae hat, A2, hl, Aa hc, Dd]; rfl
  rw [ci, Aa (fun g => g hrd), hd]
  obtain ⟨a, b⟩ := m
  have := hm.2 h
  dsimp only at this; subst this; rfl
 ·rw [cO, Aa h, aw, Aa h]
  rw [aw, Aa h] at hm
  dsimp only at hm ⊢
  rw [j5, Aa h] at hl
  rw [ah] at hm
  have hm1 := hm.1
  have hv1 : 1 ≤ val v := by rcases Bw (val v) with g | g; exact absurd ((aM hv.2).1 g) h; exact g
  have hM : 1 ≤ mkI r v := Nat.mul_pos (Nat.mul_pos hr.2 hr.1) hv1
  have hza := hH m
  generalize mkI r v = M at *
  have hrd : bf ⟨l, [], (i : Int)⟩ (ae M) = 0 := by rw [bf, Ae ⟨hg, az (by omega)⟩, Aa (fun g => by have := bk.1 g; omega)]
  have ho : okN (ae (2 * M - 1)) := az (by omega)
  have hx : (zv m + (M : Int) - 1).natAbs < 2 * M - 1 := by omega
  have hc : ¬ (0 ≤ fg (ae (zv m + (M : Int) - 1).natAbs) (ae (2 * M - 1))) := by
   rw [a8 (az (by omega)) ho, ah, ah]; have := (aR _ _).2 hx; omega
  have hd : aO ⟨l, [], (i : Int)⟩ (ae (2 * M - 1)) = (ae (zv m + (M : Int) - 1).natAbs, ⟨l, [], ((i + 1 : Nat) : Int)⟩, 0) := by
   rw [aO, Ae hat, A2, hl, Aa hc, Dd]; rfl
  have e1 : ((false, ae (zv m + (M : Int) - 1).natAbs) : Zs) = ofZ (zv m + (M : Int) - 1) := by rw [ce, Aj (by omega)]
  have e2 : ((false, ae (M - 1)) : Zs) = ofZ ((M : Int) - 1) := by rw [ce, Aj (by omega), show ((M : Int) - 1).natAbs = M - 1 by omega]
  rw [aV, Aa (fun g => g hrd), ah, Aa (by omega), hd, Aa (fun g => g rfl)]
  dsimp only
  rw [e1, e2, j8 (by omega) (by omega) (by omega), show zv m + (M : Int) - 1 - ((M : Int) - 1) = zv m by omega, ex hmo]
theorem rb {r : Gp} {q : Bs} {vs l : List Bs} {ms : List Zs} (hl : l = fV r vs ms vs.length) (hml : ms.length = vs.length) (h : ∀ i, i < vs.length → cO r q (vs.getD i default) ⟨l, [], (i : Int)⟩ = (ms.getD i default, ⟨l, [], ((i + 1 : Nat) : Int)⟩, 0)) :
  ∀ k i, i + k = vs.length → bu r q (vs.drop i) ⟨l, [], (i : Int)⟩ = (ms.drop i, ⟨l, [], (vs.length : Int)⟩, 0)
 | 0, i, hi => by
  rw [Da (by omega), Da (by omega), show i = vs.length by omega]; rfl
 | k + 1, i, hi => by
  have ih := rb hl hml h k (i + 1) (by omega)
  rw [jF (show i < vs.length by omega), jF (show i < ms.length by omega), bu, h i (by omega)]
  dsimp only
  rw [ih]; rfl
theorem yH {r : Gp} {q : Bs} {vs : List Bs} {ms : List Zs} (h : ∀ i, i < vs.length → okZ (ms.getD i default)) (hl : ms.length = vs.length) : bO ms := fun x hx => by
 obtain ⟨i, hi, rfl⟩ := Dz.1 hx
 have := h i (by omega)
 rwa [List.getD_eq_getElem?_getD, Ad hi] at this
theorem wn {r : Gp} {cx : Bs} {s : Sm} {ws : List Zs} {n : Bs} {xs : List Zs} (hs : Sml r s) (hC : fS s) (hvl : s.2.1.length ≤ 1000) (hp : Prf r cx s n xs) (h2 : (cn s ws).2 = 0) (h1 : (cn s ws).1 = true) :
  (fm r s ws n xs).2 = 0 ∧ (fm r s ws n xs).1.length = s.2.1.length ∧ (∀ x ∈ (fm r s ws n xs).1, okN x) ∧ (bF r cx s ws ⟨(fm r s ws n xs).1, [], 0⟩).1 = (n, xs) ∧ (bF r cx s ws ⟨(fm r s ws n xs).1, [], 0⟩).2.2 = 0 := by
 have hw := tn hC h2 h1
 obtain ⟨hrk, hck, hr2, _⟩ := dg hp.bd
 have hoo : okN (ak s.1) := cm hw.form.1
 obtain ⟨ms, hms⟩ : ∃ ms, ms = ip (ak s.1) s.2.1 (val n) ws xs s.2.1.length := ⟨_, rfl⟩
 have hex : dm r s ws (cg s (val n) xs) n xs = (ms, 0) := by
  rw [dm, Aa (fun g => g hp.bd), Aa (fun g => g hw.ok), Aa (fun g => g hp.vf), Aa (fun g => g h2), Aa (by rw [h1]; decide), hms]
 have hml : ms.length = s.2.1.length := by rw [hms, i1]
 have hB : ∀ i, i < s.2.1.length → mkI r (s.2.1.getD i default) < 256 ^ 24 := fun i hi => uB hs.a hs.b (hs.v _ (aj _ _ hi))
 have hBig : 2 * 256 ^ 24 < Big := C9 (by decide) y6
 have hone : ∀ i, i < s.2.1.length → okZ (ms.getD i default) ∧ blw (s.2.1.getD i default) (ms.getD i default) (val (aw r (ak s.1) (s.2.1.getD i default)).1) ∧ ofZ (f4 (ak s.1) (s.2.1.getD i default) (val n) (zv (ws.getD i default)) (zv (ms.getD i default))) = xs.getD i default := fun i hi => by
  rw [hms, sI hi]
  exact yg (fun hv => (iP hp.bd hi hv).2) (hw.rng i hi) (gZ hw.ok i) (gZ hp.zs i) (hp.xr i hi) hp.nr (hw.form.2.1 _ (aj _ _ hi)) (by have := hB i hi; omega)
 have hmz : bO ms := yH (r := r) (q := []) (fun i hi => (hone i hi).1) hml
 have hmr : mkR r (ak s.1) s.2.1 ms := fun i hi => (hone i hi).2.1
 have hrl : rsL (ak s.1) s.2.1 (val n) ws ms s.2.1.length = xs := by
  refine uG (by rw [dS, hp.xl]) fun i hi => ?_
  rw [hp.xl] at hi
  rw [iF hi]; exact (hone i hi).2.2
 have hrsok : np r (ak s.1) s.2.1 (val n) ws ms s.2.1.length := fun i hi hv => by
  have e := (hone i hi).2.2
  have h3 := (hp.xr i hi).1
  rw [← e, iA, aw, Aa hv] at h3
  dsimp only at h3
  rwa [ah] at h3
 obtain ⟨l, hl⟩ : ∃ l, l = fV r s.2.1 ms s.2.1.length := ⟨_, rfl⟩
 have hcs : ez r s ms = (l, 0) := by
  rw [ez, Aa (fun g => g hp.bd), Aa (fun g => g hmz), Aa (fun g => g hml), Aa (fun g => g hmr), hl]
 have hxp : fm r s ws n xs = (l, 0) := by rw [fm, hex, Aa (fun g => g rfl), hcs]
 have hll : l.length = s.2.1.length := by rw [hl, jd]
 have hlk : ∀ x ∈ l, okN x := fun x hx => by
  obtain ⟨i, hi, rfl⟩ := Dz.1 hx
  rw [hll] at hi
  have e : l[i]'(by rw [hll]; exact hi) = l.getD i default := by rw [List.getD_eq_getElem?_getD, Ad (by rw [hll]; exact hi)]; rfl
  rw [e, hl, mO hi, j5]
  obtain ⟨ho, hb, _⟩ := hone i hi
  split
  ·exact ho.1
  ·rename_i hv; have h3 := hb.1; rw [aw, Aa hv] at h3; dsimp only at h3; rw [ah, ← hH] at h3; have h4 := hB i hi; generalize mkI r (s.2.1.getD i default) = M at *; exact az (by omega)
 have hdr : bu r (ak s.1) s.2.1 ⟨l, [], 0⟩ = (ms, ⟨l, [], (s.2.1.length : Int)⟩, 0) := by
  have := rb (r := r) (q := ak s.1) hl hml (fun i hi => yu (fun hv => ⟨(iP hp.bd hi hv).2.1, (iP hp.bd hi hv).1⟩) ⟨by omega, by omega⟩ (hw.form.2.1 _ (aj _ _ hi)) (by have := hB i hi; omega) (hone i hi).1 (hone i hi).2.1 (by rw [hl]; exact mO hi) (by rw [hll]; exact hi) (by omega) hlk) s.2.1.length 0 (by omega)
  simpa using this
 have hrd : dL s ms = 0 := by rw [dL, Aa (fun g => g hw.form), Aa (fun g => g hmz), Aa (fun g => g hck), Aa (fun g => g hml)]
 have him : cF s ms = (cg s (val n) xs, 0) := by
  have h3 := pQ (c := val n) hC hw hmz
  rw [hrl] at h3
  rw [cF, Aa (fun g => g hrd)]
  exact Prod.ext h3 (by rw [fF hC hw.el hw.form hmz])
 have hcm : ba r s ⟨l, [], 0⟩ = ((ms, cg s (val n) xs, ⟨l, [], (s.2.1.length : Int)⟩), 0) := by
  rw [ba, Aa (fun g => g hp.bd), hdr, Aa (fun g => g rfl)]
  dsimp only
  rw [him, Aa (fun g => g rfl)]
 have hgt : cr ⟨l, [], (s.2.1.length : Int)⟩ := ⟨by dsimp only; omega, by dsimp only; omega, hlk⟩
 have hg0 : cr ⟨l, [], 0⟩ := ⟨Int.le_refl 0, by show (0 : Int) ≤ 2147483647; decide, hlk⟩
 have hrsd : dY r s ws ms n = (xs, 0) := by
  rw [dY, Aa (fun g => g hp.bd), Aa (fun g => g ⟨hw.ok, hmz, hp.ok⟩), Aa (fun g => g ⟨hw.len, hml⟩), Aa (fun g => g ⟨hp.nr, hw.rng⟩), Aa (fun g => g hmr), kL, Ae hrsok, hrl]
 have hwe : eC s ws ⟨l, [], 0⟩ = 0 := by
  have h3 : bf ⟨l, [], 0⟩ (ae 1) = 0 := by rw [bf, Ae ⟨hg0, by decide +kernel⟩, Aa (by decide +kernel)]
  rw [eC, Aa (fun g => g hw.ok), Aa (fun g => g h3), Aa (fun g => g hw.len), Aa (fun g => g hw.rng), Aa (fun g => g h2), Aa (by rw [h1]; decide)]
 have hpn : iM r cx s ⟨l, [], 0⟩ = n := by rw [iM, hcm]; exact hp.ch
 have hpr : bF r cx s ws ⟨l, [], 0⟩ = ((n, xs), ⟨l, [], (s.2.1.length : Int)⟩, 0) := by
  rw [bF, Aa (fun g => g hp.bd), Aa (fun g => g hwe), f9, hpn, hcm, Aa (fun g => g rfl)]
  dsimp only
  rw [Aa (fun g => g hgt), hrsd, Aa (fun g => g rfl)]
 rw [hxp]
 dsimp only
 rw [hpr]
 exact ⟨rfl, hll, hlk, rfl, rfl⟩
theorem rc {r : Gp} {q : Bs} : ∀ {l : List Bs} {t : Tp}, (bu r q l t).2.1.vals.length ≤ t.vals.length ∧ (bu r q l t).2.1.seed.length ≤ t.seed.length
 | [], t => ⟨Ba _, Ba _⟩
 | v :: l, t => by
  unfold bu; split
  ·simp [aJ]
  ·split
   ·simp [aJ]
   ·have h1 := re r q v t; have h2 := rc (r := r) (q := q) (l := l) (t := (cO r q v t).2.1); exact ⟨Bi h2.1 h1.1, Bi h2.2 h1.2⟩
theorem BW {r : Gp} {s : Sm} {t : Tp} : ((ba r s t).1.2.2.vals.length ≤ t.vals.length ∧ (ba r s t).1.2.2.seed.length ≤ t.seed.length) ∧ (ba r s t).1.1.length ≤ s.2.1.length := by
 unfold ba; split
 ·simp [aJ]
 ·split
  ·simp [aJ]
  ·split
   ·simp [aJ]
   ·exact ⟨rc, lB⟩
section
variable {ds : List Deferred} {P : Program} {ops : List Oper} {Q : Exit → Act → World → Prop} {n : Nat} {L : an} {l : List Oper} {ok : Nat → Prop} {w0 : World} {own : List Ent} {fs : List Fact} {x y z : Fact}
theorem WL.fa3 (k : WL ds P ops Q n l L (St ok w0 own (x :: y :: z :: fs))) : WL ds P ops Q n l L (St ok w0 own ([x, y, z] ++ fs)) := k
end
theorem BX {r : Gp} {s : Sm} {t : Tp} (hC : fS s) (hg : ∀ g ∈ s.1, g.1.length ≤ 8) (h : (ba r s t).2 = 0) : (ba r s t).1.2.1.length ≤ 100 ∧ ∀ x ∈ (ba r s t).1.2.1, x.length ≤ 100 := by
 obtain ⟨hb, _, hi, hf⟩ := vJ h
 rw [hf]
 have hr : dL s (ba r s t).1.1 = 0 := by
  unfold cF at hi; split at hi
  ·exact hi
  ·rename_i h1; exact Ah.1 h1
 obtain ⟨hfo, hz, hk, _⟩ := kQ hr
 obtain ⟨_, hsz, hel, _⟩ := cX hk
 rw [cF, Aa (fun g => g hr), fF hC hel hfo hz]
 refine ⟨by rw [Ag]; have := hsz.1.2.2; omega, fun x hx => ?_⟩
 obtain ⟨q, hq, rfl⟩ := Ch.1 hx
 obtain ⟨⟨⟨h1, h2⟩, _⟩, _⟩ := hfo.2.2 q hq
 have h3 := aj s.1 q.1.toNat (by omega)
 have h4 := hg _ h3
 have h5 : 0 < val (s.1.getD q.1.toNat default).1 := lA (x := []) (hel.1 _ h3)
 have h6 := Aq (aD (tP (val (s.1.getD q.1.toNat default).1) (ba r s t).1.1) q.2.2) h5
 have h7 := aX.2 (C9 h6 (Aw (aG _) (Ar (by decide) h4)))
 omega
theorem x9 {r : Gp} {cx : Bs} {s : SA} {ws : List Zs} {t : Tp} {wa a : Option Addr} {wc c : Nat} {w : World} {ok : Nat → Prop} (hF1 : (Fact.sl a (am t.vals)).holds ok w) (hF2 : (Fact.sl s.ga (gps s.gs)).holds ok w) (hF3 : (Fact.sl s.va (vrs s.vs)).holds ok w) (hF4 : (Fact.sl s.ea (qas s.es)).holds ok w) (hF5 : (Fact.sl wa (ar ws)).holds ok w) (hM : ∀ f ∈ (s.es.map qaF), f.holds ok w) (hcx : cx.length ≤ 100) (hs : saL s) (hy : pB s.core) (hSm : Sml r s.core) (hC : fS s.core) (hwl : ws.length ≤ 100000) (hl : t.vals.length ≤ 100000) (hsd : t.seed.length ≤ 400000) (hq0 : ak s.gs ≠ []) (hb : bdE r s.core = 0) (hT : Tab w) :
  Calls Tryz.prog 8 #[.agg #[.string (S r.1), .string (S r.2)], .string (S cx), saV s, .slice wa ws.length wc, cl0, .slice none 0 0, t.v (.slice a t.vals.length c)] w fun e w' => ∃ gx : Rs × Tp × (Option Addr) × Nat, e = .returned (.tuple #[sgV (bF r cx s.core ws t).1.1 (bF r cx s.core ws t).1.2 gx.1.a gx.1.cap, gx.2.1.v (.slice gx.2.2.1 gx.2.1.vals.length gx.2.2.2), .int .i64 (bF r cx s.core ws t).2.2]) ∧ (True) ∧ Below w.heap.size w w' ∧ ∀ x ∈ ([Fact.sl gx.1.a (ar (bF r cx s.core ws t).1.2)] : List Fact), x.holds (fun b => ok b ∨ w.heap.size ≤ b) w' := by
 have hns : jB r s = ia r s := by rw [jB, Aa (fun h => h hb)]
 obtain ⟨hrk, hck, hr2, _⟩ := dg hb
 have hfo : bc s.core := (cX hck).1
 have hr0 : r.1 ≠ [] := fun h => by have := hr2.1; rw [h] at this; exact absurd this (by decide)
 have hgl := hs.2.2.2.2
 refine enter (S := St (fun b => ok b ∨ w.heap.size ≤ b) w [] (Fact.sl a (am t.vals) :: Fact.sl s.ga (gps s.gs) :: Fact.sl s.va (vrs s.vs) :: Fact.sl s.ea (qas s.es) :: Fact.sl wa (ar ws) :: (s.es.map qaF))) (L := [(0, .agg #[.string (S r.1), .string (S r.2)]), (1, .string (S cx)), (2, saV s), (3, .slice wa ws.length wc), (4, cl0), (5, .slice none 0 0), (6, t.v (.slice a t.vals.length c))]) Tryz.func8 rfl Tryz.ntmps8 rfl (Ac rfl (Ac rfl (Ac rfl (Ac rfl (Ac rfl (Ac rfl (Ac rfl (An _)))))))) (St.start (fun _ h => Or.inr h) (bL (Fc hF1 (Fc hF2 (Fc hF3 (Fc hF4 (Fc hF5 hM))))))) ?_
 refine Eq ?_
 intro b7
 refine Gc ?_
 intro b9
 refine Gc ?_
 intro b11
 refine Gc ?_
 intro b13
 refine GL ?_
 intro b14
 refine FP ?_
 intro b15
 refine Ka I (Nt (WC.scope ?_))
 refine Cs (Kq I (lda I I .tc u24 I ?_) ?_)
 ·kernel_rfl
 refine Kq I (lda I I .tc u43 I ?_) ?_
 ·kernel_rfl
 refine Kq I (lda I I .tc u57 I ?_) ?_
 ·kernel_rfl
 refine F6 ?_
 rw [hns, hb]
 refine Km I (Ye I (Ye I (FQ ?_)))
 intro b17
 refine FF ?_; refine FM ?_; refine Yi I (Ns 39 I (v' := .bool true) (by rfl) ?_)
 refine Nt (Cd I (fun _ => ?_) (fun h => by cases h))
 refine Cg (Kq I (lda I I .tc u89 I ?_) ?_)
 ·kernel_rfl
 refine Km I (Km I (Kq I (lda I I .tc u35 I ?_) ?_))
 ·kernel_rfl
 refine Kc I (fun w hS => BJ (r := r) (s := s) (ws := ws) (t := t) (by (exact hS.sl)) (by (exact hS.sl)) (by (exact hS.sl)) (by (exact hS.sl)) (by (exact hS.sl)) (by (exact hS.more)) (by exact hs) (by exact hwl) (by exact hl) (by exact hfo) (by exact hq0)) (Ka I (Nt (Cq (Fz (fun hc46 => ?_) (fun hc46 => ?_)))))
 ·have hP : bF r cx s.core ws t = (([], []), aJ, eC s.core ws t) := by rw [bF, Aa (fun h => h hb), Ae (by (exact hc46))]
  refine Cs (Gw ?_); refine FJ ?_; refine Km I (FF ?_); refine FF ?_; refine le ?_; refine Xb (WX.scope_ret ?_)
  exact Ir
 ·have hP0 : bF r cx s.core ws t = f9 r cx s.core ws 64 t := by rw [bF, Aa (fun h => h hb), Aa (by (simpa using hc46))]
  refine Ck (Xa (Cq (WC.label ?_)))
  refine Xa (Cq (Cs (Km I (Nt (Cb (Lo (σ := Nat × Tp × (Option Addr) × Nat) [(1, _), (3, _), (5, _), (7, _), (9, _), (11, _), (13, _), (14, _), (15, _), (17, _)] (fun gq => [(50, .int .i64 (gq.1 : Int))]) (fun gq => (gq.1 ≤ 64 ∧ gq.2.1.vals.length ≤ 100000 ∧ gq.2.1.seed.length ≤ 400000) ∧ f9 r cx s.core ws 64 t = f9 r cx s.core ws (64 - gq.1) gq.2.1) (fun gq => 64 - gq.1) (fun gq => [⟨some b17, [.string (S r.1), .string (S r.2), .slice s.ga s.gs.length s.gc, .slice s.va s.vs.length s.vc, .slice s.ea s.es.length s.ec, .slice none 0 0, .slice none 0 0, .string (S [])], 89⟩, ⟨some b15, [.slice none 0 0, .string (S []), .int .i64 0], 35⟩, ⟨some b14, [.string (S []), .slice none 0 0, .slice none 0 0, .slice none 0 0], 49⟩, ⟨some b13, [.slice gq.2.2.1 gq.2.1.vals.length gq.2.2.2, .string (S gq.2.1.seed), .int .i64 gq.2.1.at_], 35⟩, ⟨some b11, [.slice none 0 0, .slice none 0 0], 57⟩, ⟨some b9, [.slice s.ga s.gs.length s.gc, .slice s.va s.vs.length s.vc, .slice s.ea s.es.length s.ec], 43⟩, ⟨some b7, [.string (S r.1), .string (S r.2)], 24⟩]) (fun gq => (Fact.sl gq.2.2.1 (am gq.2.1.vals) :: Fact.sl s.ga (gps s.gs) :: Fact.sl s.va (vrs s.vs) :: Fact.sl s.ea (qas s.es) :: Fact.sl wa (ar ws) :: s.es.map qaF)) (0, t, a, c) (Sc I (Sc I (Sc I (Sc I (Sc I (Sc I (Sc I (Sc I (Sc I (Sc I (S0 _))))))))))) (S1 I) (by (try dsimp only); exact ⟨⟨by decide, hl, hsd⟩, rfl⟩) (fun _ h => h) ?_))))))
  rintro ⟨k, u, ua, uc⟩ hinv1; (try dsimp only at hinv1 ⊢)
  obtain ⟨⟨hk, hul, hus⟩, hpr⟩ := hinv1
  refine ne (fun hc51 => ?_) (fun hc51 => ?_)
  ·have hkl : k < 64 := by omega
   have hst : f9 r cx s.core ws 64 t = f9 r cx s.core ws ((64 - (k + 1)) + 1) u := by rw [hpr, show 64 - k = (64 - (k + 1)) + 1 by omega]
   obtain ⟨⟨hle1, hle2⟩, hle3⟩ := BW (r := r) (s := s.core) (t := u); have hlv := hs.2.1; have hml : (ba r s.core u).1.1.length ≤ 100000 := Bi hle3 hlv; have hvl2 : (ba r s.core u).1.2.2.vals.length ≤ 100000 := Bi hle1 hul; refine Ck (Xa (Cq (Cb (Cs (Kq I (lda I I .tc u24 I ?_) ?_)))))
   ·kernel_rfl
   refine Kq I (lda I I .tc u43 I ?_) ?_
   ·kernel_rfl
   refine Kq I (lda I I .tc u35 I ?_) ?_
   ·kernel_rfl
   refine Kh I (Oc I I (bK fun w hS => zC (r := r) (s := s) (t := u) (by (exact hS.slo)) (by (exact hS.slo)) (by (exact hS.slo)) (by (exact hS.slo)) (by (exact hS.moreo)) (by exact hs) (by exact hSm.a) (by exact hSm.b) (by exact hSm.v) (by exact hul) (by exact hus) (by exact bW hT hS))) ?_; rintro ⟨g56, h56, ha56, hc56⟩; refine WL.pu ?_; intro hg56; (try dsimp only at hg56 ⊢); refine WL.fa3 ?_; refine HZ ?_; refine Ye I (FP ?_); intro b21; refine Ka I (Ka I (FF ?_)); refine Ka I (Nt (Cq (Fz (fun hc62 => ?_) (fun hc62 => ?_))))
   ·have hP : bF r cx s.core ws t = (([], []), aJ, (ba r s.core u).2) := by rw [hP0, hst, f9, Ae (by (exact hc62))]
    refine Cs (Gw ?_); refine FJ ?_; refine Km I (FF ?_); refine FF ?_; refine le ?_; refine Xb (FE ?_); refine WX.scope_ret ?_; exact Ir
   ·have hc0 : (ba r s.core u).2 = 0 := by (simpa using hc62)
    obtain ⟨hfl, hfx⟩ := BX hC hgl hc0; refine Ck (Xa (Cs (Kq I (lda I I .tc u57 I ?_) ?_)))
    ·kernel_rfl
    refine Km I (Kq I (lda I I .tc u35 I ?_) ?_)
    ·kernel_rfl
    refine Kh I (Oc I I (bK fun w hS => s5 (t := (ba r s.core u).1.2.2) (by (exact hS.slo)) (by exact hvl2))) ?_; rintro ⟨u70, p70, q70, z70, ha70, hc70⟩; refine WL.pu ?_; intro hg70; (try dsimp only at hg70 ⊢); refine WL.fa1 ?_; refine HZ ?_; refine HD ?_; intro b23; refine FF ?_; refine FF ?_; refine Ka I (Nt (Cq (Fz (fun hc75 => ?_) (fun hc75 => ?_))))
    ·have hg : ¬ cr (ba r s.core u).1.2.2 := fun g => by rw [Ae g] at hc75; exact hc75 rfl
     have hP : bF r cx s.core ws t = (([], []), aJ, 3) := by rw [hP0, hst, f9, Aa (fun h => h hc0), Ae hg]
     refine Cs (Gw ?_); refine FJ ?_; refine Km I (FF ?_); refine FF ?_; refine le ?_; refine Xb (FE ?_); refine WX.scope_ret ?_; exact Rn I (.agg I .tc u49 I (by kernel_rfl) (.agg I .tc u35 I (by kernel_rfl) (.tmp I .nil))) fun w' hS => ⟨(⟨none, 0, []⟩, aJ, none, 0), by rw [hP, Aa hg]; rfl, trivial, hS.below, by rw [hP]; exact Fc av Fn⟩
    ·have hg : cr (ba r s.core u).1.2.2 := A8 fun g => by rw [Aa g] at hc75; exact absurd hc75 (by decide)
     obtain rfl := hg70 hg; refine Ck (Xa (Cs (Kq I (lda I I .tc u35 I ?_) ?_)))
     ·kernel_rfl
     refine Nu I I (Sa I I I .tc) (Nt (Cs (Kq I (lda I I .tc u89 I ?_) ?_)))
     ·kernel_rfl
     refine Km I (Km I (Kf 3 I u98 I I I .tc u96 ?_)); refine Kc I (fun w hS => vh (r := r) (s := s) (cx := cx) (fs := (ba r s.core u).1.2.1) (by (exact hS.sl)) (by (exact hS.sl)) (by (exact hS.sl)) (by (exact hS.sl)) (by (exact hS.more)) (by exact hcx) (by exact hs) (by exact hy) (by exact hfl) (by exact hfx) (by exact hrk.1) (by exact hr0) (by exact hSm.a) (by exact bW hT hS)) (Fs ?_); refine Cq (Cs (Km I (Yj I (Ns 90 I (v' := .bool false) (by rfl) ?_)))); refine Fx (fun _ => ?_); refine Ck (Xa (Cs (Kq I (lda I I .tc u24 I ?_) ?_)))
     ·kernel_rfl
     refine Kq I (lda I I .tc u43 I ?_) ?_
     ·kernel_rfl
     refine Km I (Km I (Km I (Kh I (Oc I I (bK fun w hS => zq (r := r) (s := s) (ws := ws) (ms := (ba r s.core u).1.1) (c := iM r cx s.core u) (by (exact hS.slo)) (by (exact hS.slo)) (by (exact hS.slo)) (by (exact hS.slo)) (by (exact hS.slo)) (by (exact hS.moreo)) (by exact hs) (by exact hSm.a) (by exact hSm.b) (by exact hSm.v) (by exact hSm.q) (by exact hwl) (by exact hml))) ?_))); rintro g100; refine WL.pu ?_; intro hg100; (try dsimp only at hg100 ⊢); refine WL.fa1 ?_; refine Fs ?_; refine Cq (Fz (fun hc104 => ?_) (fun hc104 => ?_))
     ·refine Cx (Xc (Xe (Xa (Cg (Kq I (Rz I I I (by omega)) (Km I (Nn ?_))))))); refine Lx ((k + 1, (ba r s.core u).1.2.2, ha70, hc70)) (by (try dsimp only); omega) (Sc I (Sc I (Sc I (Sc I (Sc I (Sc I (Sc I (Sc I (Sc I (Sc I (S0 _))))))))))) (by refine (Sc ?_ (S0 _)) <;> (rfl)) ?_ (by (exact aq)); (try dsimp only); exact ⟨⟨hkl, hvl2, Bi hle2 hus⟩, by rw [hst, f9, Aa (fun h => h hc0), Aa (fun h => h hg), Ae (by (exact hc104))]⟩
     ·have hrs : (dY r s.core ws (ba r s.core u).1.1 (iM r cx s.core u)).2 = 0 := by (simpa using hc104)
      have hP : bF r cx s.core ws t = ((iM r cx s.core u, (dY r s.core ws (ba r s.core u).1.1 (iM r cx s.core u)).1), (ba r s.core u).1.2.2, 0) := by rw [hP0, hst, f9, Aa (fun h => h hc0), Aa (fun h => h hg), Aa (fun h => h hrs)]
      refine GG ?_; refine Gw ?_; refine GL ?_; intro b26; refine FF ?_; refine Nt (Cq (Cs (HH ?_))); refine Yo I u52 (Yg I (Ns 111 I (v' := .bool false) (by rfl) ?_)); refine Fx (fun _ => ?_); refine Ck (Xa (Cq (WC.free (K := [⟨some b26, [.string (S (iM r cx s.core u)), .slice g100.a (dY r s.core ws (ba r s.core u).1.1 (iM r cx s.core u)).1.length g100.cap, .slice none 0 0, .slice none 0 0], 49⟩, ⟨some b13, [.slice ha70 (ba r s.core u).1.2.2.vals.length hc70, .string (S (ba r s.core u).1.2.2.seed), .int .i64 (ba r s.core u).1.2.2.at_], 35⟩]) (fs0 := []) [0, 2, 1] [3, 4] [0, 0, 1, 2, 2] (by kernel_rfl) (by kernel_rfl) I ?_))); refine Kj I (lda I I .tc u49 I ?_) ?_
      ·kernel_rfl
      refine WJ.st I I I I (ft I I I ?_ ?_ ?_) ?_
      ·kernel_rfl
      ·simp [Value.oneCell']
      ·rfl
      refine Kj I (lda I I .tc u35 I ?_) ?_
      ·kernel_rfl
      refine WJ.nil ?_; refine FF ?_; refine le ?_; refine FE ?_; refine WX.scope_ret ?_; exact Rn I (.agg I .tc u49 I (by kernel_rfl) (.agg I .tc u35 I (by kernel_rfl) (.tmp I .nil))) fun w' hS => ⟨(g100, (ba r s.core u).1.2.2, ha70, hc70), by rw [hP]; rfl, trivial, hS.below, by rw [hP]; exact Fc hS.slk Fn⟩
  ·refine Fq ?_; obtain rfl : k = 64 := by omega
   have hP : bF r cx s.core ws t = (([], []), aJ, 15) := by rw [hP0, hpr]; rfl
   refine Xa (Cs (Gw ?_)); refine FJ ?_; refine FF ?_; refine FF ?_; refine le ?_; refine WX.scope_ret ?_; exact Ir
theorem x8 {r : Gp} {cx : Bs} {s : SA} {ws : List Zs} {t : Tp} {wa a : Option Addr} {wc c : Nat} {w : World} {ok : Nat → Prop} (hF1 : (Fact.sl a (am t.vals)).holds ok w) (hF2 : (Fact.sl s.ga (gps s.gs)).holds ok w) (hF3 : (Fact.sl s.va (vrs s.vs)).holds ok w) (hF4 : (Fact.sl s.ea (qas s.es)).holds ok w) (hF5 : (Fact.sl wa (ar ws)).holds ok w) (hM : ∀ f ∈ (s.es.map qaF), f.holds ok w) (hcx : cx.length ≤ 100) (hs : saL s) (hy : pB s.core) (hSm : Sml r s.core) (hC : fS s.core) (hwl : ws.length ≤ 100000) (hl : t.vals.length ≤ 100000) (hsd : t.seed.length ≤ 400000) (hq0 : ak s.gs ≠ []) (hb : bdE r s.core ≠ 0) :
  Calls Tryz.prog 8 #[.agg #[.string (S r.1), .string (S r.2)], .string (S cx), saV s, .slice wa ws.length wc, cl0, .slice none 0 0, t.v (.slice a t.vals.length c)] w fun e w' => ∃ gx : Rs × Tp × (Option Addr) × Nat, e = .returned (.tuple #[sgV (bF r cx s.core ws t).1.1 (bF r cx s.core ws t).1.2 gx.1.a gx.1.cap, gx.2.1.v (.slice gx.2.2.1 gx.2.1.vals.length gx.2.2.2), .int .i64 (bF r cx s.core ws t).2.2]) ∧ (True) ∧ Below w.heap.size w w' ∧ ∀ x ∈ ([Fact.sl gx.1.a (ar (bF r cx s.core ws t).1.2)] : List Fact), x.holds (fun b => ok b ∨ w.heap.size ≤ b) w' := by
 have hns : jB r s = zA := by rw [jB, Ae hb]
 have hP : bF r cx s.core ws t = (([], []), aJ, bdE r s.core) := by rw [bF, Ae hb]
 refine enter (S := St (fun b => ok b ∨ w.heap.size ≤ b) w [] (Fact.sl a (am t.vals) :: Fact.sl s.ga (gps s.gs) :: Fact.sl s.va (vrs s.vs) :: Fact.sl s.ea (qas s.es) :: Fact.sl wa (ar ws) :: (s.es.map qaF))) (L := [(0, .agg #[.string (S r.1), .string (S r.2)]), (1, .string (S cx)), (2, saV s), (3, .slice wa ws.length wc), (4, cl0), (5, .slice none 0 0), (6, t.v (.slice a t.vals.length c))]) Tryz.func8 rfl Tryz.ntmps8 rfl (Ac rfl (Ac rfl (Ac rfl (Ac rfl (Ac rfl (Ac rfl (Ac rfl (An _)))))))) (St.start (fun _ h => Or.inr h) (bL (Fc hF1 (Fc hF2 (Fc hF3 (Fc hF4 (Fc hF5 hM))))))) ?_
 refine Eq ?_
 intro b7
 refine Gc ?_
 intro b9
 refine Gc ?_
 intro b11
 refine Gc ?_
 intro b13
 refine GL ?_
 intro b14
 refine FP ?_
 intro b15
 refine Ka I (Nt (WC.scope ?_))
 refine Cs (Kq I (lda I I .tc u24 I ?_) ?_)
 ·kernel_rfl
 refine Kq I (lda I I .tc u43 I ?_) ?_
 ·kernel_rfl
 refine Kq I (lda I I .tc u57 I ?_) ?_
 ·kernel_rfl
 refine F6 ?_
 rw [hns]
 refine Km I (Ye I (Ye I (FQ ?_)))
 intro b17
 refine FF ?_; refine FM ?_; refine Yi I (Nt (Cd I (fun hc39 => by exfalso; (try simp only [sB] at hc39); ((exact hb hc39))) (fun hc39 => ?_)))
 (try simp only [sB] at hc39)
 refine Ck (Xa (Cq (Cs (Km I (Yj I (Nt (Cd I (fun hc46 => ?_) (fun hc46 => by exfalso; (try simp only [sB] at hc46); ((exact hb hc46))))))))))
 (try simp only [sB] at hc46)
 refine Cs (Gw ?_); refine FJ ?_; refine Km I (FF ?_); refine FF ?_; refine le ?_; refine Xb (WX.scope_ret ?_)
 exact Ir
theorem u0 {r : Gp} {cx : Bs} {s : SA} {ws : List Zs} {t : Tp} {wa a : Option Addr} {wc c : Nat} {w : World} {ok : Nat → Prop} (hF1 : (Fact.sl a (am t.vals)).holds ok w) (hF2 : (Fact.sl s.ga (gps s.gs)).holds ok w) (hF3 : (Fact.sl s.va (vrs s.vs)).holds ok w) (hF4 : (Fact.sl s.ea (qas s.es)).holds ok w) (hF5 : (Fact.sl wa (ar ws)).holds ok w) (hM : ∀ f ∈ (s.es.map qaF), f.holds ok w) (hcx : cx.length ≤ 100) (hs : saL s) (hy : pB s.core) (hSm : Sml r s.core) (hC : fS s.core) (hwl : ws.length ≤ 100000) (hl : t.vals.length ≤ 100000) (hsd : t.seed.length ≤ 400000) (hq0 : ak s.gs ≠ []) (hT : Tab w) :
  Calls Tryz.prog 8 #[.agg #[.string (S r.1), .string (S r.2)], .string (S cx), saV s, .slice wa ws.length wc, cl0, .slice none 0 0, t.v (.slice a t.vals.length c)] w fun e w' => ∃ gx : Rs × Tp × (Option Addr) × Nat, e = .returned (.tuple #[sgV (bF r cx s.core ws t).1.1 (bF r cx s.core ws t).1.2 gx.1.a gx.1.cap, gx.2.1.v (.slice gx.2.2.1 gx.2.1.vals.length gx.2.2.2), .int .i64 (bF r cx s.core ws t).2.2]) ∧ (True) ∧ Below w.heap.size w w' ∧ ∀ x ∈ ([Fact.sl gx.1.a (ar (bF r cx s.core ws t).1.2)] : List Fact), x.holds (fun b => ok b ∨ w.heap.size ≤ b) w' :=
 if hb : bdE r s.core = 0 then x9 hF1 hF2 hF3 hF4 hF5 hM hcx hs hy hSm hC hwl hl hsd hq0 hb hT else x8 hF1 hF2 hF3 hF4 hF5 hM hcx hs hy hSm hC hwl hl hsd hq0 hb
end Go.Proofs.YtchonigdjamphaaGreatDoor
