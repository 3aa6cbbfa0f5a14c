/-
  Parts of the walk: ShaC Lir1 Lir2.
-/
import Derived.Test.YtkdlonihbjhhoaaGreatDoorK21
namespace Go.Proofs.YtkdlonihbjhhoaaGreatDoor
open Go.RowKit
set_option linter.unusedSimpArgs false
set_option linter.unusedVariables false
set_option maxHeartbeats 600000
set_option maxRecDepth 20000
abbrev pfS (p : PR) (k : IK) (xa : Bs) (d : List Int) (vs : List Bs) (i : Nat) : Nat := pfL (val k.g.1) (bsL k xa d i) (zsL p vs i) % val k.g.1
theorem zD {p : PR} {k : IK} {xa : Bs} {d : List Int} {vs : List Bs} (h0 : bV p k = 0) (hxa : elG k.g xa) (hasc : cC 1 d k.r.length = true) (hv : ∀ x ∈ vs, okN x) (hl : vs.length = d.length) (i : Nat) (hi : i ≤ vs.length) :
  bu k.g (bsL k xa d i) (zsL p vs i) = (ae (pfS p k xa d vs i), 0) := by
 obtain ⟨hR, _, _, _, hg, _, _, hel⟩ := bo h0
 rw [jw hg ?_ ?_ (by simp; omega)]
 ·intro x hx
  rcases A7.1 hx with rfl | hx
  ·exact hel _ (by simp)
  ·rcases A7.1 hx with rfl | hx
   ·exact hxa
   ·obtain ⟨j, hj, rfl⟩ := B5.1 hx; have := ef hasc j (List.mem_of_mem_take hj); exact uI h0 (by omega)
 ·intro z hz
  rcases A7.1 hz with rfl | hz
  ·exact nx
  ·rcases A7.1 hz with rfl | hz
   ·exact eP ((dp hR).1.1 _ (by simp))
   ·obtain ⟨x, hx, rfl⟩ := B5.1 hz; exact eP (hv x (List.mem_of_mem_take hx))
theorem BH {p : PR} {k : IK} {xa : Bs} {d : List Int} {vs : List Bs} {i : Nat} (h : bu k.g (bsL k xa d i) (zsL p vs i) = (ae (pfS p k xa d vs i), 0)) : elG k.g (ae (pfS p k xa d vs i)) := by
 have := pc (g := k.g) (l := bsL k xa d i) (es := zsL p vs i) (by rw [h])
 rw [h] at this; exact this
theorem xK {p : PR} {k : IK} {xa : Bs} {d : List Int} {vs : List Bs} : val (ae (bT (val k.g.1) (val xa) (zv (ngN p.lo)))) * val k.z % val k.g.1 = pfS p k xa d vs 0 := by
 rw [af]
 show _ = pfL _ (k.z :: xa :: []) (ofZ 1 :: ngN p.lo :: []) % _
 rw [li, li, qW, pv, uO, Aw, Am, Nat.mod_mul_mod]
theorem xL {p : PR} {k : IK} {xa : Bs} {d : List Int} {vs : List Bs} {i : Nat} (h1 : i < d.length) (h2 : i < vs.length) : val (ae (pfS p k xa d vs i)) * val (ae (bT (val k.g.1) (val (rD k (d.getD i default).toNat)) (zv (ngN (vs.getD i default))))) % val k.g.1 = pfS p k xa d vs (i + 1) := by
 rw [af, af, show pfS p k xa d vs (i + 1) = pfL (val k.g.1) (bsL k xa d (i + 1)) (zsL p vs (i + 1)) % val k.g.1 from rfl, rN h1, qi h2, xM (b2 := [_]) (e2 := [_]) (by simp; omega), li (bs := []) (es := []), qW, Aw, Nat.mod_mul_mod]
theorem tS {l : List Bs} {x : Bs} : vrs (l ++ [x]) = vrs l ++ [.string (S x)] := by simp
theorem w7 {p : PR} {k : IK} {xa : Bs} {d : List Int} {vs : List Bs} {ra da va : Option Addr} {rc dc vc : Nat} {w : World} {ok : Nat → Prop} (hF1 : (Fact.sl ra (al k.r)).holds ok w) (hF2 : (Fact.sl da (cP d)).holds ok w) (hF3 : (Fact.sl va (al vs)).holds ok w) (hm8 : p.mn.1.1.length ≤ 8) (hk8 : k.g.1.length ≤ 8) (hkl : k.r.length ≤ 100000) (hnl : k.name.length ≤ 140737488351232) (hdl : d.length ≤ 140737488351232) (hvl : vs.length ≤ 140737488351232) :
  Calls Tryz.prog 17 #[prV p, ikV k (.slice ra k.r.length rc), .string (S xa), .slice da d.length dc, .slice va vs.length vc] w fun e w' => ∃ gx : SA, e = .returned (SME gx (shS p k xa d vs).2) ∧ (gx.core = (shS p k xa d vs).1) ∧ Below w.heap.size w w' ∧ ∀ x ∈ (saF gx : List Fact), x.holds (fun b => ok b ∨ w.heap.size ≤ b) w' := by
 refine enter (S := St (fun b => ok b ∨ w.heap.size ≤ b) w [] ([Fact.sl ra (al k.r), Fact.sl da (cP d), Fact.sl va (al vs)])) (L := [(0, prV p), (1, ikV k (.slice ra k.r.length rc)), (2, .string (S xa)), (3, .slice da d.length dc), (4, .slice va vs.length vc)]) Tryz.func17 rfl Tryz.ntmps17 rfl (Ac rfl (Ac rfl (Ac rfl (Ac rfl (Ac rfl (An _)))))) (St.start (fun _ h => Or.inr h) (fu (Fc hF1 (Fc hF2 (Fc hF3 Fn))))) ?_
 refine DX ?_
 intro b5
 refine Ff ?_
 intro b6
 refine E9 ?_
 intro b10
 refine Ka I (Nt (Cq (Cs (Kq I (lda I I .tc u30 I ?_) ?_))))
 ·kernel_rfl
 refine Kq I (lda I I .tc u33 I ?_) ?_
 ·kernel_rfl
 refine Kc I (fun w hS => sw (p := p) (k := k) (by (exact hS.sl)) (by assumption) (by assumption) (by assumption) (by assumption)) (Et ?_); refine EF (fun hc34 => ?_) (fun hc34 => ?_)
 ·have hE : shE p k xa d vs = bV p k := by rw [shE, Ab (by simpa using hc34)]
  have hr : shS p k xa d vs = (([], [], []), bV p k) := by rw [shS, hE, Ab (by simpa using hc34)]
  refine Cs (Em ?_); refine Km I (DZ ?_); refine ne ?_
  exact G2
 ·have h0 : bV p k = 0 := by simpa using hc34
  have hg : aW k.g = 0 := (bo h0).2.2.2.2.1
  have h18 : k.r.length ≤ 18 := (bo h0).2.2.2.2.2.2.1
  refine Ck (Fv ?_); refine Lp (σ := Nat) [(2, _), (3, _), (4, _), (5, _), (6, _), (10, _)] (fun gq => [(13, .int .i64 (gq : Int))]) (fun gq => gq ≤ vs.length ∧ ∀ x ∈ vs.take gq, okN x) (fun gq => vs.length - gq) (0) (S6 I I I I I I) (S1 I) (by (try dsimp only); exact ⟨Ai _, by simp⟩) ?_
  rintro i hinv1; (try dsimp only at hinv1 ⊢)
  obtain ⟨hi, hov⟩ := hinv1
  refine Cq (E3 ?_); refine Yo I u31 (Es (fun hc40 => ?_) (fun hc40 => ?_))
  ·have hil : i < vs.length := by omega
   obtain ⟨v, hv⟩ : ∃ v, Keep (v = vs.getD i default) := ⟨_, rfl⟩; refine Ez ?_; refine Km I (Km I (Ey ?_)); refine EZ ?_; refine Ns 46 I (v' := .string (S (v))) (congrArg (fun l => Value.string (S l)) (by rw [show v = _ from hv])) ?_; refine Kc I (fun w hS => av (a := v)) (Ex (fun hc48 => ?_) (fun hc48 => ?_))
   ·have hn : ¬ (okN xa ∧ ∀ x ∈ vs, okN x) := fun h => by
     have := h.2 _ (ak vs i hil); rw [← show v = _ from hv] at this; simp_all
    have hE : shE p k xa d vs = 3 := by rw [shE, Aa (fun h => h h0), Ab hn]
    have hr : shS p k xa d vs = (([], [], []), 3) := by rw [shS, hE, Ab (by decide)]
    refine Cs (Em ?_); refine DZ ?_; refine to ?_; refine DY ?_; exact G2
   ·refine Ck (Xd (Xa (Cg (Km I (Kq I (Rz I I I (by omega)) (Ka I (Nn (Ly (i + 1) (by (try dsimp only); omega) (S6 I I I I I I) (by refine (Sc ?_ (S0 _)) <;> (rfl)) ?_ (fun _ h => h))))))))); (try dsimp only); exact ⟨hil, aq hil hov (by rw [← show v = _ from hv]; simpa using hc48)⟩
  ·refine AS ?_; obtain rfl : i = vs.length := by omega
   rw [Ah] at hov; refine Xa (Cq (Cs (Km I (Kc I (fun w hS => av (a := xa)) (Ex (fun hc52 => ?_) (fun hc52 => ?_))))))
   ·have hn : ¬ (okN xa ∧ ∀ x ∈ vs, okN x) := fun h => absurd h.1 (by simpa using hc52)
    have hE : shE p k xa d vs = 3 := by rw [shE, Aa (fun h => h h0), Ab hn]
    have hr : shS p k xa d vs = (([], [], []), 3) := by rw [shS, hE, Ab (by decide)]
    refine Cs (Em ?_); refine DZ ?_; refine ne ?_; exact G2
   ·have hok : okN xa ∧ ∀ x ∈ vs, okN x := ⟨by simpa using hc52, hov⟩; refine GV ?_; refine EC ?_; refine Km I (Kc I (fun w hS => ka (g := k.g) (x := xa) (by assumption)) (Ns 57 I (v' := .bool (decide (elG k.g xa))) (congrArg Value.bool (by simp [hg])) ?_)); refine Ex (fun hc58 => ?_) (fun hc58 => ?_)
    ·have hn : ¬ elG k.g xa := by simpa using hc58
     have hE : shE p k xa d vs = 13 := by rw [shE, Aa (fun h => h h0), Aa (fun h => h hok), Ab hn]
     have hr : shS p k xa d vs = (([], [], []), 13) := by rw [shS, hE, Ab (by decide)]
     refine Cs (Em ?_); refine DZ ?_; refine ne ?_; exact G2
    ·have hel : elG k.g xa := by simpa using hc58
     refine Fs ?_; refine Fx ?_; refine Yo I u31 (Kc I (fun w hS => y8 (l := d) (n := (k.r.length : Int)) (by (exact hS.sl)) (by assumption)) (Ex (fun hc65 => ?_) (fun hc65 => ?_)))
     ·have hasc : cC 1 d k.r.length = false := by simpa using hc65
      have hE : shE p k xa d vs = 2 := by rw [shE, Aa (fun h => h h0), Aa (fun h => h hok), Aa (fun h => h hel), Ab hasc]
      have hr : shS p k xa d vs = (([], [], []), 2) := by rw [shS, hE, Ab (by decide)]
      refine Cs (Em ?_); refine DZ ?_; refine ne ?_; exact G2
     ·have hasc : cC 1 d k.r.length = true := by simpa using hc65
      have hasn : ¬ cC 1 d k.r.length = false := by rw [hasc]; decide
      refine Fs ?_; refine Yo I u31 (Km I (Yo I u38 (EF (fun hc71 => ?_) (fun hc71 => ?_))))
      ·have hE : shE p k xa d vs = 6 := by rw [shE, Aa (fun h => h h0), Aa (fun h => h hok), Aa (fun h => h hel), Aa hasn, Ab (by omega)]
       have hr : shS p k xa d vs = (([], [], []), 6) := by rw [shS, hE, Ab (by decide)]
       refine Cs (Em ?_); refine DZ ?_; refine ne ?_; exact G2
      ·have hlen : vs.length = d.length := by omega
       have hlen2 : ¬ vs.length ≠ d.length := by omega
       have hd18 := n5 hasc (by have := (bo h0).2.2.2.2.2.1; omega); have hoa : okN p.attr := (dp (bo h0).1).1.1 _ (by simp); refine Ck (Fv ?_); refine Lp (σ := Nat) [(2, _), (3, _), (4, _), (5, _), (6, _), (10, _)] (fun gq => [(14, .int .i64 (gq : Int))]) (fun gq => gq ≤ vs.length ∧ ∀ x ∈ vs.take gq, val x < val p.attr) (fun gq => vs.length - gq) (0) (S6 I I I I I I) (S1 I) (by (try dsimp only); exact ⟨Ai _, by simp⟩) ?_; rintro j hinv2; (try dsimp only at hinv2 ⊢); obtain ⟨hj, hlt⟩ := hinv2; refine Cq (E3 ?_); refine Yo I u31 (Es (fun hc76 => ?_) (fun hc76 => ?_))
       ·have hjl : j < vs.length := by omega
        obtain ⟨v, hv⟩ : ∃ v, Keep (v = vs.getD j default) := ⟨_, rfl⟩; have hvo : okN v := by rw [show v = _ from hv]; exact hok.2 _ (ak vs j hjl)
        refine Gf ?_; refine Cf [0, 1, 2, 3, 4, 5, 6, 7] [] [0, 0, 0, 0, 0, 0, 1, 0] (by kernel_rfl) (by kernel_rfl) I ?_; refine Ei ?_; refine EE ?_; refine E2 ?_; refine WJ.set 82 I (v' := .string (S (v))) (congrArg (fun l => Value.string (S l)) (by rw [show v = _ from hv])) ?_; refine Kj I (Fa (q := 11) I I u30 I I) (EB ?_); refine Jv I I I I I (fun ext => Oc I I (Kv fun w hS => fM (a := v) (b := p.attr) (by exact hvo.2) (by exact hoa.2) (by exact C0 hvo.1 (by decide)))) ?_; refine Kj I (pP I I I) ?_; refine WJ.nil ?_; refine Nt (Ci I (fun hc86 => ?_) (fun hc86 => ?_))
        ·have hn : ¬ ∀ x ∈ vs, val x < val p.attr := fun h => by
          have h1 := h _ (ak vs j hjl); rw [← show v = _ from hv] at h1; rw [eW] at hc86; omega
         have hE : shE p k xa d vs = 2 := by rw [shE, Aa (fun h => h h0), Aa (fun h => h hok), Aa (fun h => h hel), Aa hasn, Aa hlen2, Ab hn]
         have hr : shS p k xa d vs = (([], [], []), 2) := by rw [shS, hE, Ab (by decide)]
         refine Cs (Em ?_); refine DZ ?_; refine to ?_; refine DY ?_; exact G2
        ·refine Ck (Xd (Xa (Cg (Km I (Kq I (Rz I I I (by omega)) (Ka I (Nn (Ly (j + 1) (by (try dsimp only); omega) (S6 I I I I I I) (by refine (Sc ?_ (S0 _)) <;> (rfl)) ?_ (fun _ h => h))))))))); (try dsimp only); exact ⟨hjl, aq hjl hlt (by rw [← show v = _ from hv]; rw [ay] at hc86; exact hc86)⟩
       ·refine AS ?_; obtain rfl : j = vs.length := by omega
        rw [Ah] at hlt; have hE : shE p k xa d vs = (fh p).2 := by rw [shE, Aa (fun h => h h0), Aa (fun h => h hok), Aa (fun h => h hel), Aa hasn, Aa hlen2, Aa (fun h => h hlt)]
        refine Xa (Cs (Kq I (lda I I .tc u30 I ?_) ?_))
        ·kernel_rfl
        refine Kc I (fun w hS => uq (p := p) (by assumption)) (Fh ?_); refine Eo ?_; refine EF (fun hc95 => ?_) (fun hc95 => ?_)
        ·have hr : shS p k xa d vs = (([], [], []), (fh p).2) := by rw [shS, hE, Ab (by simpa using hc95)]
         refine Cs (Em ?_); refine Km I (DZ ?_); refine ne ?_; exact G2
        ·have hr : shS p k xa d vs = (shT p k xa d vs, 0) := by rw [shS, hE, Aa (by simpa using hc95)]
         have hlo : okN p.lo := (dp (bo h0).1).1.1 _ (by simp); have hz : elG k.g k.z := (bo h0).2.2.2.2.2.2.2 _ (by simp); have hpf := zD h0 hel hasc hok.2 hlen; refine Ck (Xa (Cq (Cf [3, 4, 5, 6, 0, 1, 2, 7, 8, 9, 10, 11, 12] [] [0, 0, 0, 0, 0, 1, 1, 1, 0, 0, 0, 0, 0] (by kernel_rfl) (by kernel_rfl) I ?_))); refine Kj I (Fa (q := 13) I I u30 I I) (EB ?_); refine Jv I I I I I (fun ext => Oc I I (Kv fun w hS => uz (x := p.lo))) ?_; refine Jv I I I I I (fun ext => Oc I I (Kv fun w hS => na (x := ((false, p.lo) : Zs)))) ?_; refine WJ.set 105 I (v' := zV (ngN p.lo)) (by rw [ngN, di hlo]) ?_; refine Gc ?_; refine Fe ?_; refine E0 ?_; refine Jv I I I I I (fun ext => Oc I I (Kv fun w hS => qD (g := k.g) (x := xa) (z := ngN p.lo) (by exact hk8) (by exact hg) (by exact hel) (by exact eP hlo))) ?_; refine E0 ?_; refine EN ?_; refine WJ.nil ?_; refine Nt (Cs (EC ?_)); refine Km I (Kf 3 I u33 I I I .tc u22 ?_)
         refine Kc I (fun w hS => qC (g := k.g) (a := ae (bT (val k.g.1) (val xa) (zv (ngN p.lo)))) (b := k.z) (by exact hk8) (by exact hg) (by exact vK hg hel (eP hlo)) (by exact hz)) (Km I (Ye I (Ns 116 I (v' := .string (S (ae (pfS p k xa d vs 0)))) (congrArg (fun l => Value.string (S l)) (by rw [xK])) ?_))); refine Ye I (EP ?_); refine Lp (σ := Nat) [(2, _), (3, _), (4, _), (5, _), (6, _), (10, _), (15, _)] (fun gq => [(20, .int .i64 (gq : Int)), (18, .string (S (ae (pfS p k xa d vs gq))))]) (fun gq => gq ≤ d.length) (fun gq => d.length - gq) (0) (S7 I I I I I I I) (S2 I I) (by (try dsimp only); exact Ai _) ?_; rintro i hinv3; (try dsimp only at hinv3 ⊢); obtain hi := hinv3; refine Cq (E3 ?_); refine Yo I u38 (Es (fun hc121 => ?_) (fun hc121 => ?_))
         ·have hid : i < d.length := by omega
          have hiv : i < vs.length := by omega
          obtain ⟨v, hv⟩ : ∃ v, Keep (v = vs.getD i default) := ⟨_, rfl⟩; have hdi := ef hasc _ (ak d i hid); obtain ⟨y, hy⟩ : ∃ y : Nat, Keep ((y : Int) = d.getD i default) := ⟨(d.getD i default).toNat, by show ((d.getD i default).toNat : Int) = _; omega⟩; have hyl : y < k.r.length := by rw [← show (y : Int) = _ from hy] at hdi; omega
          have hvo : okN v := by rw [show v = _ from hv]; exact hok.2 _ (ak vs i hiv)
          have hry : elG k.g (rD k y) := uI h0 hyl; have hps := xL (p := p) (k := k) (xa := xa) hid hiv; rw [← show (y : Int) = _ from hy, ← show v = _ from hv, Au] at hps; refine Gf ?_; refine Cf [10, 11, 12, 13, 14, 15, 0, 1, 2, 3, 4, 5, 6, 7, 8, 9, 16, 17, 18, 19, 20, 21] [] [0, 0, 0, 0, 0, 0, 0, 0, 0, 0, 0, 0, 0, 0, 1, 1, 1, 0, 0, 0, 0, 0] (by kernel_rfl) (by kernel_rfl) I ?_; refine Ei ?_; refine EE ?_; refine E2 ?_; refine WJ.set 138 I (v' := .string (S (v))) (congrArg (fun l => Value.string (S l)) (by rw [show v = _ from hv])) ?_; refine Jv I I I I I (fun ext => Oc I I (Kv fun w hS => uz (x := v))) ?_; refine Jv I I I I I (fun ext => Oc I I (Kv fun w hS => na (x := ((false, v) : Zs)))) ?_; refine WJ.set 140 I (v' := zV (ngN v)) (by rw [ngN, di hvo]) ?_; refine Gc ?_; refine Fe ?_; refine Kj I (Fa (q := 5) I I u33 I I) (FC ?_); refine Ei ?_; refine Fd ?_; refine Fy ?_
          refine WJ.set 132 I (v' := .int .i64 ((y : Nat) : Int)) (congrArg (Value.int .i64) (by rw [show (y : Int) = _ from hy])) ?_; refine Kj I (Ib I I I u31 (by omega) (by (rw [Af]; omega))) ?_; refine Kj I (ldm I I u22 I (by assumption)) ?_; refine WJ.set 134 I (v' := .string (S (rD k y))) (congrArg (fun l => Value.string (S l)) (by rfl)) ?_; refine Jv I I I I I (fun ext => Oc I I (Kv fun w hS => qD (g := k.g) (x := rD k y) (z := ngN v) (by exact hk8) (by exact hg) (by exact hry) (by exact eP hvo))) ?_; refine Kj I (Rm I I) (Kj I (Re I I I) (Kj I (Re I I I) (Kj I (Ra I I) (Kj I (Ra I I) ?_)))); refine WJ.nil ?_; refine Nt (Cg (Kq I (Fa (q := 1) I I u33 I I) (Kq I (ldp I I .tc u26 I (by kernel_rfl : _ = some 2) (by rfl) (by rfl)) ?_))); refine Km I (Km I (Kc I (fun w hS => qC (g := k.g) (a := ae (pfS p k xa d vs i)) (b := ae (bT (val k.g.1) (val (rD k y)) (zv (ngN v)))) (by exact hk8) (by exact hg) (by exact BH (hpf i (by omega))) (by exact vK hg hry (eP hvo))) (Km I (Ye I (Ns 150 I (v' := .string (S (ae (pfS p k xa d vs (i + 1))))) (congrArg (fun l => Value.string (S l)) (by rw [hps])) ?_))))); refine Ye I (Ka I (Nn (Xd (Xa (Cg (Km I (Kq I (Rz I I I (by omega)) (Ka I (Nn (Ly (i + 1) (by (try dsimp only); omega) (S7 I I I I I I I) (by refine (Sc ?_ (Sc ?_ (S0 _))) <;> (rfl)) ?_ (fun _ h => h)))))))))))
          (try dsimp only); exact hid
         ·refine AS ?_; obtain rfl : i = d.length := by omega
          obtain ⟨tg, htg⟩ : ∃ tg, Keep (tg = ae (pfS p k xa d vs d.length)) := ⟨_, rfl⟩; rw [← show tg = _ from htg]; refine Xa (Cs (EC ?_)); refine Kh I (ew I I u54 (by kernel_rfl : _ = some (some (.agg #[.string (S []), .string (S [])]), 2, 32)) (by kernel_rfl) (by decide) I I (by (simp [Value.cells]; done)) (by (exact bD _)) (by decide)) ?_; intro b154; refine Gx ?_; refine Kq I (Kb [[.string (S [])]] I I) (Km I (Kq I (Kb [[.string (S [])]] I I) ?_)); refine Kh I (ew I I u55 (by kernel_rfl : _ = some (some (.agg #[.string (S [])]), 1, 16)) (by kernel_rfl) (by decide) I I (by (simp [Value.cells]; done)) (by (simp only [List.map, Value.cells, C5, List.flatMap_nil, Bm, Dy]; rfl)) (by decide)) ?_; intro b160; refine Em ?_; refine E9 ?_; intro b23; refine DZ ?_; refine Nt (Cs (Km I (Kf 4 I u33 I I I .tc u22 ?_))); refine Kh I (aR I I u31 (by kernel_rfl : _ = some (some (.string (S [])), 1, 16)) I (by simp only [List.map]; rfl) I I ?_ (by decide)) ?_
          ·simp [Value.cells]
          intro b165; refine Et ?_; refine Fx ?_; refine Yo I u31 (Kh I (Oc I I (eT fun w hS => uA (by (exact hS.sl)) (by assumption) (by omega))) ?_); intro g170; refine WL.pu ?_; intro hg170; (try dsimp only at hg170 ⊢); refine EP ?_; refine Lo (σ := Nat × (Option Nat) × Nat × (List Value) × (Option Nat) × Nat × (List Value)) [(5, _), (6, _), (10, _), (18, _), (23, _), (25, _)] (fun gq => [(26, .int .i64 (gq.1 : Int)), (24, .slice (gq.2.1.map fun b => ⟨b, 0, none⟩) (2 + gq.1) gq.2.2.1)]) (fun gq => gq.1 ≤ (ax d k.r.length).length ∧ gq.2.2.1 = 2 + gq.1 + gq.2.2.2.1.length ∧ gq.2.2.2.2.2.1 = 2 + gq.1 + gq.2.2.2.2.2.2.length) (fun gq => (ax d k.r.length).length - gq.1) (fun gq => [⟨gq.2.1, al (bsW k xa ((ax d k.r.length).take gq.1)) ++ gq.2.2.2.1, 22⟩, ⟨some b23, [.slice (some ⟨b154, 0, none⟩) 1 1, .slice (gq.2.2.2.2.1.map fun b => ⟨b, 0, none⟩) (2 + gq.1) gq.2.2.2.2.2.1, .slice none 0 0], 58⟩, ⟨gq.2.2.2.2.1, vrs (vsW p ((ax d k.r.length).take gq.1)) ++ gq.2.2.2.2.2.2, 124⟩, ⟨some b154, gpC k.g, 26⟩, xR b10, ⟨some b6, ikC k (.slice ra k.r.length rc), 33⟩, ⟨some b5, prC p, 30⟩]) (fun gq => [Fact.sl g170.a (nA (ax d k.r.length)), Fact.sl ra (al k.r), Fact.sl da (cP d), Fact.sl va (al vs)]) (0, some b165, 2, [], some b160, 2, []) (S6 I I I I I I) (S2 I I) (by (try dsimp only); exact ⟨Ai _, rfl, rfl⟩) (by exact fun w h => h) ?_
          rintro ⟨i, o1, c1, p1, o2, c2, p2⟩ hinv4; (try dsimp only at hinv4 ⊢); obtain ⟨hi, hc1, hc2⟩ := hinv4; refine Cq (E3 ?_); refine Yo I u38 (Es (fun hc174 => ?_) (fun hc174 => ?_))
          ·have hil : i < (ax d k.r.length).length := by omega
           obtain ⟨x, hx⟩ : ∃ x : Nat, Keep (x = (ax d k.r.length).getD i default) := ⟨_, rfl⟩
           have hxn : x < k.r.length := by
            have := ak (ax d k.r.length) i hil; rw [← show x = _ from hx] at this; exact Cj.1 (List.mem_filter.1 this).1
           have htk := aF hil
           have hH : (ax d k.r.length).length ≤ k.r.length := by
            have := List.length_filter_le (fun i : Nat => !(d.contains (i : Int))) (List.range k.r.length); rw [List.length_range] at this; exact this
           have hbl : (al (bsW k xa ((ax d k.r.length).take i))).length = 2 + i := by rw [Af, Aq, Aq, Af, Bk]; omega
           have hwl : (vrs (vsW p ((ax d k.r.length).take i))).length = 2 + i := by rw [ag _ _ 1 (fun _ => rfl), Aq, Aq, Af, Bk]; omega
           rw [← show x = _ from hx] at htk; refine Ez ?_; refine Gv ?_; refine Ka I (Nt (WC.joinP (σ := Bs) [(5, _), (6, _), (10, _), (18, _), (23, _), (24, _), (25, _), (26, _)] (fun gq => [(27, .string (S gq))]) (fun gq => gq = if x = 0 then p.sec else p.attr) (S8 I I I I I I I I) ?_ ?_))
           ·skip
            refine E3 ?_; refine Kq I (Ib I I I u38 (by omega) (by (rw [Af]; omega))) ?_; refine Kq I (ldm I I u3 I (by assumption)) ?_; refine Ns 182 I (v' := .int .i64 ((x : Nat) : Int)) (congrArg (Value.int .i64) (by rw [show x = _ from hx])) ?_; refine FX (fun hc183 => ?_) (fun hc183 => ?_)
            ·refine Cg (Kf 10 I u30 I I I .tc u22 ?_); refine Ka I (Nn (WX.joinP (p.sec) (S8 I I I I I I I I) (by refine (Sc ?_ (S0 _)) <;> (rfl)) ?_ (fun _ h => h))); (try dsimp only); rw [Ab (by omega)]
            ·refine Ck (WX.joinP (p.attr) (S8 I I I I I I I I) (by refine (Sc ?_ (S0 _)) <;> (rfl)) ?_ (fun _ h => h)); (try dsimp only); rw [Aa (by omega)]
           ·rintro u hmeet; (try dsimp only at hmeet ⊢); refine WC.joinP (σ := Bs) [(5, _), (6, _), (10, _), (18, _), (23, _), (24, _), (25, _), (26, _)] (fun gq => [(27, .string (S gq))]) (fun gq => gq = lim p x) (S8 I I I I I I I I) ?_ ?_
            ·skip
             refine E3 ?_; refine Kq I (Ib I I I u38 (by omega) (by (rw [Af]; omega))) ?_; refine Kq I (ldm I I u3 I (by assumption)) ?_; refine Ns 189 I (v' := .int .i64 ((x : Nat) : Int)) (congrArg (Value.int .i64) (by rw [show x = _ from hx])) ?_; refine FX (fun hc190 => ?_) (fun hc190 => ?_)
             ·refine Cg (Kf 12 I u30 I I I .tc u22 ?_); refine Ka I (Nn (WX.joinP (p.han) (S8 I I I I I I I I) (by refine (Sc ?_ (S0 _)) <;> (rfl)) ?_ (fun _ h => h))); (try dsimp only); rw [lim, Aa (by omega), Ab (by omega)]
             ·refine Ck (WX.joinP (u) (S8 I I I I I I I I) (by refine (Sc ?_ (S0 _)) <;> (rfl)) ?_ (fun _ h => h)); (try dsimp only); rw [hmeet, lim]; split; rfl; rw [Aa (by omega)]
            ·rintro u2 hmeet; (try dsimp only at hmeet ⊢); refine Cs (FS ?_); refine Km I (Kq I (Kb [[.string (S [])]] I I) ?_); refine Kh I (ew I I u55 (by kernel_rfl : _ = some (some (.agg #[.string (S [])]), 1, 16)) (by kernel_rfl) (by decide) I I (by (simp [Value.cells]; done)) (by (exact bD _)) (by decide)) ?_; intro b197; refine Kh I (rR I u55 (by kernel_rfl : _ = some (some (.agg #[.string (S [])]), 1, 16)) (by kernel_rfl) (by decide) .tc I I (fun w hS => by (exact hS.os)) (by rfl) (by (refine ⟨by (rw [hwl, Aw]), by omega, by omega, by omega⟩)) (by (simp [Value.oneCell']; done))) ?_; rintro ⟨o198, c198, s198⟩; refine WL.pu ?_; intro hg198; (try dsimp only at hg198 ⊢); refine Kq I (Fa (q := 1) I I u58 I I) (Ng I I (st I I I .tc (by kernel_rfl) I ?_ (by (simp only [As, At]; rfl))) ?_)
             ·(simp; done)
             intro _; refine Nt (WC.free (K := [⟨some b6, ikC k (.slice ra k.r.length rc), 33⟩]) (fs0 := [Fact.sl g170.a (nA (ax d k.r.length)), Fact.sl ra (al k.r)]) [0, 1, 2, 3, 4, 5, 6, 7, 8, 9, 10, 11] [] [0, 0, 0, 0, 0, 0, 0, 0, 0, 3, 1, 0] (by kernel_rfl) (by kernel_rfl) I ?_); refine E0 ?_; refine Kj I (Fa (q := 5) I I u33 I I) (FC ?_); refine Ei ?_; refine Fd ?_; refine Fy ?_; refine WJ.set 206 I (v' := .int .i64 ((x : Nat) : Int)) (congrArg (Value.int .i64) (by rw [show x = _ from hx])) ?_; refine EE ?_; refine E2 ?_; refine WJ.set 208 I (v' := .string (S (rD k x))) (congrArg (fun l => Value.string (S l)) (by rfl)) ?_; refine Jf I I I I I (ir I I u31 (by kernel_rfl : _ = some (some (.string (S [])), 1, 16)) I (by simp only [List.map]; rfl) I I ?_ (by decide)) ?_
             ·simp [Value.cells]
             intro b209; refine Jg I I I I I (mS I u31 (by kernel_rfl : _ = some (some (.string (S [])), 1, 16)) I .tc I I (fun ext w hS => by (exact hS.os)) (by rfl) (by (refine ⟨hbl, by omega, by omega, by omega⟩)) (by (simp [Value.oneCell']; done))) ?_; rintro ⟨o210, c210, s210⟩ hg210; (try dsimp only at hg210 ⊢); refine Kj I (Ra I I) ?_; refine WJ.nil ?_; refine Nn (Xd (Xa (Cg (Km I (Kq I (Rz I I I (by omega)) (Ka I (Nn (Lx ((i + 1, o210, c210, s210, o198, c198, s198)) (by (try dsimp only); omega) (S6 I I I I I I) (by refine (Sc ?_ (Sc ?_ (S0 _))) <;> (rfl)) ?_ (by exact fun w h => by dsimp only; rw [htk, n2, qm, l9, tS, ← hmeet]; exact au _ h))))))))); (try dsimp only); exact ⟨hil, by omega, by omega⟩
          ·refine AS ?_; obtain rfl : i = (ax d k.r.length).length := by omega
           simp only [Ah]
           have hH : (ax d k.r.length).length ≤ k.r.length := by
            have := List.length_filter_le (fun i : Nat => !(d.contains (i : Int))) (List.range k.r.length); rw [List.length_range] at this; exact this
           have hBl : (bsW k xa (ax d k.r.length)).length = 2 + (ax d k.r.length).length := by rw [Aq, Aq, Af]; omega
           refine Xa (Cs (WL.st (fun w h => yB (xs := al (bsW k xa (ax d k.r.length))) (sp := p1) h) ?_)); refine Km I (Kq I (Kb [[.int .i64 0], [.string (S [])], [.slice none 0 0]] I I) ?_); refine EQ ?_; intro b28
           refine DZ ?_; refine Nt (Cq (Cs (Ka I (Nt (Cb (Lo (σ := Nat × (Option Nat) × Nat × (List Value)) [(10, _), (23, _), (24, _), (28, _)] (fun gq => [(29, .int .i64 (gq.1 : Int))]) (fun gq => gq.1 ≤ (bsW k xa (ax d k.r.length)).length ∧ gq.2.2.1 * 4 = gq.1 * 4 + gq.2.2.2.length) (fun gq => (bsW k xa (ax d k.r.length)).length - gq.1) (fun gq => [⟨gq.2.1, (e8 ((bsW k xa (ax d k.r.length)).take gq.1) 0).flatMap tmC ++ gq.2.2.2, 122⟩, ⟨some b28, [.int .i64 0, .string (S tg), .slice (gq.2.1.map fun b => ⟨b, 0, none⟩) gq.1 gq.2.2.1], 95⟩, ⟨some b23, [.slice (some ⟨b154, 0, none⟩) 1 1, .slice (o2.map fun b => ⟨b, 0, none⟩) (2 + (ax d k.r.length).length) c2, .slice none 0 0], 58⟩, ⟨o2, vrs (vsW p (ax d k.r.length)) ++ p2, 124⟩, ⟨some b154, gpC k.g, 26⟩, xR b10]) (fun gq => [Fact.sl (o1.map fun b => ⟨b, 0, none⟩) (al (bsW k xa (ax d k.r.length)))]) (0, none, 0, []) (S4 I I I I) (S1 I) (by (try dsimp only); exact ⟨Ai _, rfl⟩) (by exact fun w h => (h.nil 122).sub (.cons_cons _ (.cons_cons _ (.cons_cons _ (.cons_cons _ (.cons_cons _ (.cons_cons _ (List.nil_sublist _))))))) (fun _ hh => by rcases List.mem_singleton.1 hh with rfl; exact List.mem_cons_self)) ?_)))))); rintro ⟨j, o3, c3, p3⟩ hinv5; (try dsimp only at hinv5 ⊢); obtain ⟨hj, hc3⟩ := hinv5; refine Cq (E3 ?_); refine Yo I u31 (Es (fun hc216 => ?_) (fun hc216 => ?_))
           ·have hjl : j < (bsW k xa (ax d k.r.length)).length := by omega
            obtain ⟨y, hy⟩ : ∃ y, Keep (y = (bsW k xa (ax d k.r.length)).getD j default) := ⟨_, rfl⟩; have htk := aF hjl; rw [← show y = _ from hy] at htk; have htl : ((bsW k xa (ax d k.r.length)).take j).length = j := by rw [Bk]; omega
            have hxl : ((e8 ((bsW k xa (ax d k.r.length)).take j) 0).flatMap tmC).length = j * 4 := by rw [ag _ _ 4 (fun _ => rfl), fe, htl]
            refine Ck (Xa (Cq (Cb (WC.free (K := [⟨some b28, [.int .i64 0, .string (S tg), .slice (o3.map fun b => ⟨b, 0, none⟩) j c3], 95⟩]) (fs0 := [Fact.sl (o1.map fun b => ⟨b, 0, none⟩) (al (bsW k xa (ax d k.r.length)))]) [0, 1, 2, 3, 4, 5, 6, 7, 8, 9, 10, 11] [12] [0, 0, 0, 0, 0, 0, 0, 0, 0, 3, 1, 0, 2] (by kernel_rfl) (by kernel_rfl) I ?_)))); refine FJ ?_; refine Ei ?_; refine EE ?_; refine E2 ?_; refine WJ.set 224 I (v' := .string (S (y))) (congrArg (fun l => Value.string (S l)) (by rw [show y = _ from hy])) ?_; refine E0 ?_; refine Kj I (Kb [[.bool false], [.string (S [])]] I I) ?_; refine WJ.set 226 I (v' := .agg #[.bool false, .string (S [1])]) (by rfl) ?_; refine Kj I (Kb [[.string (S [])], [.int .i64 0], [.bool false, .string (S [])]] I I) ?_; refine Jf I I I I I (iq I I u93 (by kernel_rfl : _ = some (some (.agg #[.string (S []), .int .i64 0, .bool false, .string (S [])]), 4, 48)) (by kernel_rfl) (by decide) I I (by (simp [Value.cells]; done)) (by (exact bD _)) (by decide)) ?_; intro b228
            refine Jg I I I I I (lL I u93 (by kernel_rfl : _ = some (some (.agg #[.string (S []), .int .i64 0, .bool false, .string (S [])]), 4, 48)) (by kernel_rfl) (by decide) .tc I I (fun ext w hS => by (exact hS.os)) (by rfl) (by (refine ⟨hxl, by omega, by omega, by omega⟩)) (by (simp [Value.oneCell']; done))) ?_; rintro ⟨o229, c229, s229⟩ hg229; (try dsimp only at hg229 ⊢); refine Kj I (Fa (q := 2) I I u95 I I) ?_; refine WJ.nil ?_; refine Ng I I (st I I I .tc (by kernel_rfl) I ?_ (by (simp only [As, At]; rfl))) ?_
            ·(simp; done)
            intro _; refine Nn (Xd (Xa (Cg (Km I (Kq I (Rz I I I (by omega)) (Ka I (Nn (Lx ((j + 1, o229, c229, s229)) (by (try dsimp only); omega) (S4 I I I I) (by refine (Sc ?_ (S0 _)) <;> (rfl)) ?_ (by exact fun w h => by dsimp only; rw [htk, og, htl, List.flatMap_append, show [trm y (j : Int)].flatMap tmC = [.string (S y), .int .i64 (j : Int), .bool false, .string (S [1])] from rfl]; exact au _ h))))))))); (try dsimp only); exact ⟨hjl, by omega⟩
           ·refine AS ?_; obtain rfl : j = (bsW k xa (ax d k.r.length)).length := by omega
            simp only [Ah]
            have htg2 : tgS p k xa d vs = tg := by
             have h1 := hpf d.length (by omega); rw [bsL, zsL, Ah, ← hlen, Ah] at h1; rw [tgS, h1, show tg = _ from htg, hlen]
            rw [show 2 + (ax d k.r.length).length = (vsW p (ax d k.r.length)).length by rw [Aq, Aq, Af]; omega, show (bsW k xa (ax d k.r.length)).length = (e8 (bsW k xa (ax d k.r.length)) 0).length by rw [fe]]; refine Xa (Cs (Kq I (lda I I .tc u95 I ?_) ?_))
            ·kernel_rfl
            refine Kh I (ew I I u56 (by kernel_rfl : _ = some (some (.agg #[.int .i64 0, .string (S []), .slice none 0 0]), 3, 48)) (by kernel_rfl) (by decide) I I (by (simp [Value.cells]; done)) (by (exact bD _)) (by decide)) ?_; intro b232; refine Kq I (Fa (q := 2) I I u58 I I) (Ng I I (st I I I .tc (by kernel_rfl) I ?_ (by (simp only [As, At]; rfl))) ?_)
            ·(simp; done)
            intro _; refine Nt (Cs (Kq I (lda I I .tc u58 I ?_) ?_))
            ·kernel_rfl
            refine DZ ?_; refine to ?_; exact Rn I (.agg I .tc u58 I (by kernel_rfl) (.tmp I .nil)) fun w' hS => ⟨⟨[k.g], vsW p (ax d k.r.length), [((0, tg, e8 (bsW k xa (ax d k.r.length)) 0), o3.map fun b => ⟨b, 0, none⟩, c3)], some ⟨b154, 0, none⟩, 1, o2.map fun b => ⟨b, 0, none⟩, c2, some ⟨b232, 0, none⟩, 1⟩, by rw [hr]; rfl, by rw [hr]; show _ = shT p k xa d vs; rw [shT, htg2]; rfl, hS.below, Fc hS.osk (Fc hS.ock (Fc hS.osk (Fc hS.ock Fn)))⟩
theorem xq {s : SA} {w : World} {ok : Nat → Prop} (hF1 : (Fact.sl s.ga (gps s.gs)).holds ok w) (hF2 : (Fact.sl s.va (vrs s.vs)).holds ok w) (hF3 : (Fact.sl s.ea (qas s.es)).holds ok w) (hM : ∀ f ∈ (s.es.map qaF), f.holds ok w) (hs : saL s) :
  Cw 183 #[saV s] w (.bool (decide (bK s.core))) := by
 obtain ⟨hlg, hlv, hle, hlt, hlm⟩ := hs
 refine En (Fact.sl s.ga (gps s.gs) :: Fact.sl s.va (vrs s.vs) :: Fact.sl s.ea (qas s.es) :: (s.es.map qaF)) [(0, saV s)] Tryz.func183 I Tryz.ntmps183 I (Ac I (An _)) (Fc (ah hF1) (Fc (ah hF2) (Fc (ah hF3) (aY hM)))) (DX ?_)
 intro b1
 refine EP ?_; refine Lp (σ := Nat) [(1, _)] (fun gq => [(3, .int .i64 (gq : Int))]) (fun gq => gq ≤ s.gs.length ∧ ∀ g ∈ s.gs.take gq, okG g) (fun gq => s.gs.length - gq) (0) (S1 I) (S1 I) (by (try dsimp only); exact ⟨Ai _, by simp⟩) ?_
 rintro i hinv1; (try dsimp only at hinv1 ⊢)
 obtain ⟨hi, hok⟩ := hinv1
 refine Cq (Cs (Km I (Fi ?_)))
 refine Yo I u54 (Es (fun hc13 => ?_) (fun hc13 => ?_))
 ·have hil : i < s.gs.length := by omega
  refine Ck (Xa (Cq (Cb (WC.joinP (σ := Unit) [(1, _), (3, _)] (fun gq => [(33, .bool (decide (¬ (okN (s.gs.getD i default).1 ∧ okN (s.gs.getD i default).2))))]) (fun gq => True) (S2 I I) ?_ ?_))))
  ·skip
   refine Cg (Fi ?_); refine Km I (El ?_); (refine Kq I (faf I I u26 I (by kernel_rfl) (by (try simp only [sN, Int.reduceToNat, Nat.reduceAdd, Nat.reduceMul, Nat.reduceSub]); rfl)) ?_); refine Kq I (cO (sz := 2) _ 0 I I u22 I (fun _ => rfl) I (by assumption) (by decide) I) ?_; refine Kc I (fun w hS => av (a := (s.gs.getD i default).1)) (Yt I (Km I (Nc 24 I (fun hg24 => ?_) (fun hg24 => ?_))))
   ·refine T4 I (T4 I (Yp I (Nn (WX.joinP (()) (S2 I I) (by refine (Sc ?_ (S0 _)) <;> ((refine congrArg (fun b => some (Value.bool b)) ?_; simp [*, -List.getD_eq_getElem?_getD]; done))) ?_ (fun _ h => h))))); (try dsimp only); done
   ·refine Kf 0 I u58 I I I .tc u54 ?_; refine Km I (Kq I (Ia I I I u54 (by kernel_rfl : _ = some 2) (by omega) (by (rw [ag _ _ 2 (fun _ => rfl)]; omega))) ?_); (refine Kq I (faf I I u26 I (by kernel_rfl) (by (try simp only [sN, Int.reduceToNat, Nat.reduceAdd, Nat.reduceMul, Nat.reduceSub]); rfl)) ?_); refine Kq I (cO (sz := 2) _ 1 I I u22 I (fun _ => rfl) I (by assumption) (by decide) I) ?_; refine Kc I (fun w hS => av (a := (s.gs.getD i default).2)) (Yt I (Yq I (Nn (WX.joinP (()) (S2 I I) (by refine (Sc ?_ (S0 _)) <;> ((refine congrArg (fun b => some (Value.bool b)) ?_; simp [*, -List.getD_eq_getElem?_getD]; done))) ?_ (fun _ h => h))))); (try dsimp only); done
  ·rintro _ hmeet; (try dsimp only at hmeet ⊢); refine Ci I (fun hc33 => ?_) (fun hc33 => ?_)
   ·refine Cs (to ?_); refine DY ?_; exact R1 I I (by rw [Aj (fun h => absurd (h.1 _ (ak _ _ hil)) hc33)]; rfl)
   ·refine Ck (Xd (Xa (Cg (Km I (Kq I (Rz I I I (by omega)) (Ka I (Nn (Ly (i + 1) (by (try dsimp only); omega) (S1 I) (by refine (Sc ?_ (S0 _)) <;> (rfl)) ?_ (fun _ h => h))))))))); (try dsimp only); exact ⟨hil, aq hil hok (Al.1 hc33)⟩
 ·refine AS ?_
  obtain rfl : i = s.gs.length := by omega
  rw [Ah] at hok
  refine Fv ?_; refine Lp (σ := Nat) [(1, _)] (fun gq => [(4, .int .i64 (gq : Int))]) (fun gq => gq ≤ s.vs.length ∧ ∀ v ∈ s.vs.take gq, okN v) (fun gq => s.vs.length - gq) (0) (S1 I) (S1 I) (by (try dsimp only); exact ⟨Ai _, by simp⟩) ?_
  rintro j hinv2; (try dsimp only at hinv2 ⊢)
  obtain ⟨hj, hov⟩ := hinv2
  refine Cq (Cs (Km I (FS ?_)))
  refine Yo I u55 (Es (fun hc38 => ?_) (fun hc38 => ?_))
  ·have hjl : j < s.vs.length := by omega
   refine Ez ?_; refine FS ?_; refine Km I (Fo ?_); (refine Kq I (faf I I jp I (by kernel_rfl) (by (try simp only [sN, Int.reduceToNat, Nat.reduceAdd, Nat.reduceMul, Nat.reduceSub]); rfl)) ?_); refine Kq I (cO (l := s.vs) (f := vrC) (sz := 1) j 0 I I u22 I (fun _ => rfl) (Aw _).symm hjl (by decide) I) ?_; refine Kc I (fun w hS => av (a := s.vs.getD j default)) (Ex (fun hc48 => ?_) (fun hc48 => ?_))
   ·refine Cs (to ?_); refine DY ?_; exact R1 I I (by rw [Aj (fun h => absurd (h.2.1 _ (ak _ _ hjl)) (by simpa using hc48))]; rfl)
   ·refine Ck (Xd (Xa (Cg (Km I (Kq I (Rz I I I (by omega)) (Ka I (Nn (Ly (j + 1) (by (try dsimp only); omega) (S1 I) (by refine (Sc ?_ (S0 _)) <;> (rfl)) ?_ (fun _ h => h))))))))); (try dsimp only); exact ⟨hjl, aq hjl hov (by simpa using hc48)⟩
  ·refine AS ?_; obtain rfl : j = s.vs.length := by omega
   rw [Ah] at hov; refine Fv ?_; refine Lp (σ := Nat) [(1, _)] (fun gq => [(5, .int .i64 (gq : Int))]) (fun gq => gq ≤ s.es.length ∧ ∀ q ∈ s.es.take gq, okQ s.gs.length s.vs.length q.1) (fun gq => s.es.length - gq) (0) (S1 I) (S1 I) (by (try dsimp only); exact ⟨Ai _, by simp⟩) ?_; rintro k hinv3; (try dsimp only at hinv3 ⊢); obtain ⟨hk, hoq⟩ := hinv3; refine Cq (Cs (Km I (Fm ?_))); refine Yo I u56 (Es (fun hc53 => ?_) (fun hc53 => ?_))
   ·have hkl : k < s.es.length := by omega
    have hkm := ak s.es k hkl; have hlt1 := hlt _ hkm; refine Ez ?_; refine Fm ?_; refine Km I (Eq ?_); refine Ev ?_; refine EQ ?_; intro b6; refine DZ ?_; refine Nt (Cq (WC.joinP (σ := Unit) [(1, _), (5, _), (6, _)] (fun gq => [(77, .bool (decide (¬ ((0 ≤ (s.es.getD k default).1.1 ∧ (s.es.getD k default).1.1 < (s.gs.length : Int)) ∧ okN (s.es.getD k default).1.2.1))))]) (fun gq => True) (S3 I I I) ?_ ?_))
    ·skip
     refine Cg (Kf 1 I u95 I I I .tc u22 ?_); refine Kc I (fun w hS => av (a := (s.es.getD k default).1.2.1)) (Yt I (Km I (Nc 65 I (fun hg65 => ?_) (fun hg65 => ?_))))
     ·refine T2 I (Kt I (Yp I (Km I (T4 I (T2 I (Yp I (Nn (WX.joinP (()) (S3 I I I) (by refine (Sc ?_ (S0 _)) <;> ((refine congrArg (fun b => some (Value.bool b)) ?_; simp [*, -List.getD_eq_getElem?_getD]; done))) ?_ (fun _ h => h))))))))); (try dsimp only); done
     ·refine Kf 0 I u95 I I I .tc u3 ?_; refine Yl I (Yq I (Km I (Nc 70 I (fun hg70 => ?_) (fun hg70 => ?_))))
      ·refine T4 I (T2 I (Yp I (Nn (WX.joinP (()) (S3 I I I) (by refine (Sc ?_ (S0 _)) <;> ((exact congrArg (fun b => some (Value.bool b)) (by symm; apply Ak; omega)))) ?_ (fun _ h => h))))); (try dsimp only); done
      ·refine Kf 0 I u95 I I I .tc u3 ?_; refine Kf 0 I u58 I I I .tc u54 ?_; refine Yo I u54 (Yh I (Yq I (Nn (WX.joinP (()) (S3 I I I) (by refine (Sc ?_ (S0 _)) <;> ((refine congrArg (fun b => some (Value.bool b)) ?_; simp [*, -List.getD_eq_getElem?_getD]; done))) ?_ (fun _ h => h))))); (try dsimp only); done
    ·rintro _ hmeet; (try dsimp only at hmeet ⊢); refine Ci I (fun hc77 => ?_) (fun hc77 => ?_)
     ·refine Cs (ne ?_); refine DY ?_; exact R1 I I (by rw [Aj (fun h => absurd (h.2.2 _ (A3 hkm)).1 hc77)]; rfl)
     ·refine Ck (Xa (Cs (Fw ?_))); refine Ka I (Nt (Cb (Lp (σ := Nat) [(1, _), (5, _), (6, _)] (fun gq => [(7, .int .i64 (gq : Int))]) (fun gq => gq ≤ (s.es.getD k default).1.2.2.length ∧ ∀ t ∈ (s.es.getD k default).1.2.2.take gq, okT s.vs.length t) (fun gq => (s.es.getD k default).1.2.2.length - gq) (0) (S3 I I I) (S1 I) (by (try dsimp only); exact ⟨Ai _, by simp⟩) ?_))); rintro m hinv4; (try dsimp only at hinv4 ⊢); obtain ⟨hm, hot⟩ := hinv4; refine Cq (Cs (Km I (F1 ?_))); refine Yo I u93 (Es (fun hc82 => ?_) (fun hc82 => ?_))
      ·have hml : m < (s.es.getD k default).1.2.2.length := by omega
       refine Ez ?_; refine F1 ?_; refine Km I (E4 ?_); refine Fq ?_; refine Gm ?_; intro b8; refine DZ ?_; refine Nt (WC.joinP (σ := Unit) [(1, _), (5, _), (6, _), (7, _)] (fun gq => [(112, .bool (decide (¬ ((0 ≤ ((s.es.getD k default).1.2.2.getD m default).2.1 ∧ ((s.es.getD k default).1.2.2.getD m default).2.1 < (s.vs.length : Int)) ∧ okN ((s.es.getD k default).1.2.2.getD m default).1 ∧ okZ ((s.es.getD k default).1.2.2.getD m default).2.2))))]) (fun gq => True) (S4 I I I I) ?_ ?_)
       ·skip
        refine Cg (Kf 0 I eK I I I .tc u22 ?_); refine Kc I (fun w hS => av (a := ((s.es.getD k default).1.2.2.getD m default).1)) (Yt I (Km I (Nc 94 I (fun hg94 => ?_) (fun hg94 => ?_))))
        ·refine T4 I (Yp I (Km I (T2 I (Kt I (Yp I (Km I (T4 I (T2 I (Yp I (Nn (WX.joinP (()) (S4 I I I I) (by refine (Sc ?_ (S0 _)) <;> ((refine congrArg (fun b => some (Value.bool b)) ?_; simp [*, -List.getD_eq_getElem?_getD]; done))) ?_ (fun _ h => h)))))))))))); (try dsimp only); done
        ·refine Kq I (Fa (q := 2) I I eK I I) (FG ?_); refine Kc I (fun w hS => a8 (x := ((s.es.getD k default).1.2.2.getD m default).2.2)) (Yt I (Yq I (Km I (Nc 100 I (fun hg100 => ?_) (fun hg100 => ?_)))))
         ·refine T2 I (Kt I (Yp I (Km I (T4 I (T2 I (Yp I (Nn (WX.joinP (()) (S4 I I I I) (by refine (Sc ?_ (S0 _)) <;> ((refine congrArg (fun b => some (Value.bool b)) ?_; simp [*, -List.getD_eq_getElem?_getD]; done))) ?_ (fun _ h => h))))))))); (try dsimp only); done
         ·refine Kf 1 I eK I I I .tc u3 ?_; refine Yl I (Yq I (Km I (Nc 105 I (fun hg105 => ?_) (fun hg105 => ?_))))
          ·refine T4 I (T2 I (Yp I (Nn (WX.joinP (()) (S4 I I I I) (by refine (Sc ?_ (S0 _)) <;> ((exact congrArg (fun b => some (Value.bool b)) (by symm; apply Ak; omega)))) ?_ (fun _ h => h))))); (try dsimp only); done
          ·refine Kf 1 I eK I I I .tc u3 ?_; refine Kf 1 I u58 I I I .tc u55 ?_; refine Yo I u55 (Yh I (Yq I (Nn (WX.joinP (()) (S4 I I I I) (by refine (Sc ?_ (S0 _)) <;> ((refine congrArg (fun b => some (Value.bool b)) ?_; simp [*, -List.getD_eq_getElem?_getD]; done))) ?_ (fun _ h => h))))); (try dsimp only); done
       ·rintro _ hmeet; (try dsimp only at hmeet ⊢); refine Ci I (fun hc112 => ?_) (fun hc112 => ?_)
        ·refine Cs (to ?_); refine Xf (Xb (Xb (Xf (DY ?_)))); exact R1 I I (by rw [Aj (fun h => absurd ((h.2.2 _ (A3 hkm)).2 _ (ak _ _ hml)) hc112)]; rfl)
        ·refine Ck (Xd (Xa (Cg (Km I (Kq I (Rz I I I (by omega)) (Ka I (Nn (Ly (m + 1) (by (try dsimp only); omega) (S3 I I I) (by refine (Sc ?_ (S0 _)) <;> (rfl)) ?_ (by (exact au)))))))))); (try dsimp only); exact ⟨hml, aq hml hot (Al.1 hc112)⟩
      ·refine AS ?_; obtain rfl : m = (s.es.getD k default).1.2.2.length := by omega
       rw [Ah] at hot; refine Xd (Xa (Cg (Km I (Kq I (Rz I I I (by omega)) (Ka I (Nn (Ly (k + 1) (by (try dsimp only); omega) (S1 I) (by refine (Sc ?_ (S0 _)) <;> (rfl)) ?_ (by (exact au))))))))); (try dsimp only); exact ⟨hkl, aq hkl hoq ⟨Al.1 hc77, hot⟩⟩
   ·refine AS ?_; obtain rfl : k = s.es.length := by omega
    rw [Ah] at hoq; refine Xa (Cs (to ?_)); exact R1 I I (by rw [Ak (show bK s.core from ⟨hok, hov, ct.2 hoq⟩)]; rfl)
theorem xl {s : SA} {w : World} {ok : Nat → Prop} (hF1 : (Fact.sl s.ea (qas s.es)).holds ok w) (hs : saL s) :
  Cw 216 #[saV s] w (.bool (decide (¬ dO s.core))) := by
 obtain ⟨hlg, hlv, hle, hlt, hlm⟩ := hs
 refine En [Fact.sl s.ea (qas s.es)] [(0, saV s)] Tryz.func216 I Tryz.ntmps216 I (Ac I (An _)) (Fc (ah hF1) Fn) (DX ?_)
 intro b1
 refine EP ?_; refine Lp (σ := Nat) [(1, _)] (fun gq => [(3, .int .i64 (gq : Int))]) (fun gq => gq ≤ s.es.length ∧ ∀ q ∈ s.es.take gq, q.1.2.2.length ≤ 64) (fun gq => s.es.length - gq) (0) (S1 I) (S1 I) (by (try dsimp only); exact ⟨Ai _, by simp⟩) ?_
 rintro k hinv1; (try dsimp only at hinv1 ⊢)
 obtain ⟨hk, hoq⟩ := hinv1
 refine Cq (Cs (Km I (Fm ?_)))
 refine Yo I u56 (Es (fun hc8 => ?_) (fun hc8 => ?_))
 ·have hkl : k < s.es.length := by omega
  have hkm := ak s.es k hkl
  have hlt1 := hlt _ hkm
  refine Ez ?_; refine Fm ?_
  refine Km I (Eq ?_)
  (refine Kq I (faf I I u95 I (by kernel_rfl) (by (try simp only [sN, Int.reduceToNat, Nat.reduceAdd, Nat.reduceMul, Nat.reduceSub]); rfl)) ?_)
  refine Kq I (cO (sz := 3) _ 2 I I u93 I (fun _ => rfl) I (by assumption) (by decide) I) ?_
  refine Yo I u93 (F6 (fun hc18 => ?_) (fun hc18 => ?_))
  ·have hn : ¬ dO s.core := fun h => by have := h.2 _ (A3 hkm); omega
   refine Cs (to ?_); refine DY ?_; exact R1 I I (by rw [Ak hn]; rfl)
  ·refine Ck (Xd (Xa (Cg (Km I (Kq I (Rz I I I (by omega)) (Ka I (Nn (Ly (k + 1) (by (try dsimp only); omega) (S1 I) (by refine (Sc ?_ (S0 _)) <;> (rfl)) ?_ (fun _ h => h))))))))); (try dsimp only); exact ⟨hkl, aq hkl hoq (by omega)⟩
 ·refine AS ?_
  obtain rfl : k = s.es.length := by omega
  rw [Ah] at hoq
  have hr : dO s.core ↔ s.gs.length ≤ 8 ∧ s.vs.length ≤ 64 ∧ s.es.length ≤ 64 := ⟨fun h => by simpa using h.1, fun h => ⟨by simpa using h, ct.2 hoq⟩⟩
  refine Xa (WC.joinP (σ := Unit) [] (fun gq => [(2, .bool (decide (¬ (s.gs.length ≤ 8 ∧ s.vs.length ≤ 64 ∧ s.es.length ≤ 64))))]) (fun gq => True) (S0 _) ?_ ?_)
  ·skip
   refine Cg (Fi ?_); refine Yo I u54 (Yg I (Km I (Nc 23 I (fun hg23 => ?_) (fun hg23 => ?_))))
   ·refine T4 I (Yp I (Km I (T4 I (Yp I (Ka I (Nn (WX.joinP (()) (S0 _) (by refine (Sc ?_ (S0 _)) <;> ((exact congrArg (fun b => some (Value.bool b)) (by symm; apply Ak; omega)))) ?_ (fun _ h => h)))))))); (try dsimp only); done
   ·refine FS ?_; refine Yo I u55 (Yg I (Yq I (Km I (Nc 29 I (fun hg29 => ?_) (fun hg29 => ?_)))))
    ·refine T4 I (Yp I (Ka I (Nn (WX.joinP (()) (S0 _) (by refine (Sc ?_ (S0 _)) <;> ((exact congrArg (fun b => some (Value.bool b)) (by symm; apply Ak; omega)))) ?_ (fun _ h => h))))); (try dsimp only); done
    ·refine Kf 2 I u58 I I I .tc u56 ?_; refine Yo I u56 (Yg I (Yq I (Ka I (Nn (WX.joinP (()) (S0 _) (by refine (Sc ?_ (S0 _)) <;> ((refine aj rfl ?_; (try dsimp only); (exact Ag.2 (by omega))))) ?_ (fun _ h => h)))))); (try dsimp only); done
  ·rintro _ hmeet; (try dsimp only at hmeet ⊢); refine Ce ?_; exact R1 I I (by rw [show decide (¬ dO s.core) = _ from Ag.2 (not_congr hr)]; rfl)
theorem xt {s : SA} {w : World} {ok : Nat → Prop} (hF1 : (Fact.sl s.ga (gps s.gs)).holds ok w) (hF2 : (Fact.sl s.ea (qas s.es)).holds ok w) (hM : ∀ f ∈ (s.es.map qaF), f.holds ok w) (hs : saL s) (hfo : bK s.core) :
  Cw 217 #[saV s] w (.bool (decide (elS s.core))) := by
 obtain ⟨hlg, hlv, hle, hlt, hlm⟩ := hs
 refine En (Fact.sl s.ga (gps s.gs) :: Fact.sl s.ea (qas s.es) :: (s.es.map qaF)) [(0, saV s)] Tryz.func217 I Tryz.ntmps217 I (Ac I (An _)) (Fc (ah hF1) (Fc (ah hF2) (aY hM))) (DX ?_)
 intro b1
 refine EP ?_; refine Lp (σ := Nat) [(1, _)] (fun gq => [(3, .int .i64 (gq : Int))]) (fun gq => gq ≤ s.gs.length ∧ ∀ g ∈ s.gs.take gq, aW g = 0) (fun gq => s.gs.length - gq) (0) (S1 I) (S1 I) (by (try dsimp only); exact ⟨Ai _, by simp⟩) ?_
 rintro i hinv1; (try dsimp only at hinv1 ⊢)
 obtain ⟨hi, hok⟩ := hinv1
 refine Cq (Cs (Km I (Fi ?_)))
 refine Yo I u54 (Es (fun hc12 => ?_) (fun hc12 => ?_))
 ·have hil : i < s.gs.length := by omega
  refine Ez ?_; refine Fi ?_
  refine Km I (El ?_)
  refine EA ?_
  refine Kc I (fun w hS => eh (g := s.gs.getD i default)) (EF (fun hc21 => ?_) (fun hc21 => ?_))
  ·refine Cs (to ?_); refine DY ?_; exact R1 I I (by rw [Aj (fun h => absurd (h.1 _ (ak _ _ hil)) (by simpa using hc21))]; rfl)
  ·refine Ck (Xd (Xa (Cg (Km I (Kq I (Rz I I I (by omega)) (Ka I (Nn (Ly (i + 1) (by (try dsimp only); omega) (S1 I) (by refine (Sc ?_ (S0 _)) <;> (rfl)) ?_ (fun _ h => h))))))))); (try dsimp only); exact ⟨hil, aq hil hok (by simpa using hc21)⟩
 ·refine AS ?_
  obtain rfl : i = s.gs.length := by omega
  rw [Ah] at hok
  refine Fv ?_; refine Lp (σ := Nat) [(1, _)] (fun gq => [(4, .int .i64 (gq : Int))]) (fun gq => gq ≤ s.es.length ∧ ∀ q ∈ s.es.take gq, elQ s.gs q.1) (fun gq => s.es.length - gq) (0) (S1 I) (S1 I) (by (try dsimp only); exact ⟨Ai _, by simp⟩) ?_
  rintro k hinv2; (try dsimp only at hinv2 ⊢)
  obtain ⟨hk, hoq⟩ := hinv2
  refine Cq (Cs (Km I (Fm ?_)))
  refine Yo I u56 (Es (fun hc26 => ?_) (fun hc26 => ?_))
  ·have hkl : k < s.es.length := by omega
   have hkm := ak s.es k hkl; have hlt1 := hlt _ hkm; have hfq := (hfo.2.2 _ (A3 hkm)).1.1; have hgl : (s.es.getD k default).1.1.toNat < s.gs.length := by have := hfq.1; have := hfq.2; simp only [SA.core] at this; omega
   have hg0 := hok _ (ak _ _ hgl); have hg8 := hlm _ (ak _ _ hgl); refine Ez ?_; refine Fm ?_; refine Km I (Eq ?_); refine Ev ?_; refine EQ ?_; intro b5; refine DZ ?_; refine Nt (Cs (Fi ?_)); refine Kf 0 I u95 I I I .tc u3 ?_; refine Kq I (Ia I I I u54 (by kernel_rfl : _ = some 2) (by assumption) (by (rw [ag _ _ 2 (fun _ => rfl)]; omega))) ?_; refine EA ?_; refine FH ?_; intro b6; refine Nu I I (Sa I I I .tc) (Nt (Cq (Cs (Kq I (lda I I .tc u26 I ?_) ?_))))
   ·kernel_rfl
   refine Kf 1 I u95 I I I .tc u22 ?_; refine Kc I (fun w hS => ka (g := s.gs.getD (s.es.getD k default).1.1.toNat default) (x := (s.es.getD k default).1.2.1) (by exact hg8)) (Ns 43 I (v' := .bool (decide (elG (s.gs.getD (s.es.getD k default).1.1.toNat default) (s.es.getD k default).1.2.1))) (congrArg Value.bool (by exact Ag.2 ⟨fun h => h.2, fun h => ⟨hg0, h⟩⟩)) ?_); refine Ex (fun hc44 => ?_) (fun hc44 => ?_)
   ·refine Cs (ne ?_); refine DY ?_; exact R1 I I (by rw [Aj (fun h => absurd (h.2 _ (A3 hkm)).1 (by simpa using hc44))]; rfl)
   ·refine Ck (Xa (Cs (Fw ?_))); refine Ka I (Nt (Cb (Lp (σ := Nat) [(1, _), (4, _), (5, _), (6, _)] (fun gq => [(7, .int .i64 (gq : Int))]) (fun gq => gq ≤ (s.es.getD k default).1.2.2.length ∧ ∀ t ∈ (s.es.getD k default).1.2.2.take gq, elG (s.gs.getD (s.es.getD k default).1.1.toNat default) t.1) (fun gq => (s.es.getD k default).1.2.2.length - gq) (0) (S4 I I I I) (S1 I) (by (try dsimp only); exact ⟨Ai _, by simp⟩) ?_))); rintro m hinv3; (try dsimp only at hinv3 ⊢); obtain ⟨hm, hot⟩ := hinv3; refine Cq (Cs (Km I (F1 ?_))); refine Yo I u93 (Es (fun hc49 => ?_) (fun hc49 => ?_))
    ·have hml : m < (s.es.getD k default).1.2.2.length := by omega
     refine Gf ?_; refine Cf [0, 1, 2, 3, 4, 5, 6, 7, 8] [] [0, 0, 0, 0, 0, 0, 0, 1, 0] (by kernel_rfl) (by kernel_rfl) I ?_; refine Kj I (lda I I .tc u26 I ?_) ?_
     ·kernel_rfl
     refine FJ ?_; refine E0 ?_; refine Fl ?_; (refine Kj I (faf I I eK I (by kernel_rfl) (by (try simp only [sN, Int.reduceToNat, Nat.reduceAdd, Nat.reduceMul, Nat.reduceSub]); rfl)) ?_); refine Kj I (cO (sz := 4) _ 0 I I u22 I (fun _ => rfl) I (by assumption) (by decide) I) ?_; refine Jv I I I I I (fun ext => Oc I I (Kv fun w hS => ka (g := s.gs.getD (s.es.getD k default).1.1.toNat default) (x := ((s.es.getD k default).1.2.2.getD m default).1) (by exact hg8))) ?_; refine WJ.set 59 I (v' := .bool (decide (elG (s.gs.getD (s.es.getD k default).1.1.toNat default) ((s.es.getD k default).1.2.2.getD m default).1))) (congrArg Value.bool (by exact Ag.2 ⟨fun h => h.2, fun h => ⟨hg0, h⟩⟩)) ?_; refine Kj I (Rt I I) ?_; refine WJ.nil ?_; refine Nt (Ci I (fun hc60 => ?_) (fun hc60 => ?_))
     ·refine Cs (to ?_); refine Xf (Xb (Xb (Xf (DY ?_)))); exact R1 I I (by rw [Aj (fun h => absurd ((h.2 _ (A3 hkm)).2 _ (ak _ _ hml)) (by simpa using hc60))]; rfl)
     ·refine Ck (Xd (Xa (Cg (Km I (Kq I (Rz I I I (by omega)) (Ka I (Nn (Ly (m + 1) (by (try dsimp only); omega) (S4 I I I I) (by refine (Sc ?_ (S0 _)) <;> (rfl)) ?_ (fun _ h => h))))))))); (try dsimp only); exact ⟨hml, aq hml hot (by simpa using hc60)⟩
    ·refine AS ?_; obtain rfl : m = (s.es.getD k default).1.2.2.length := by omega
     rw [Ah] at hot; refine Xd (Xa (Cg (Km I (Kq I (Rz I I I (by omega)) (Ka I (Nn (Ly (k + 1) (by (try dsimp only); omega) (S1 I) (by refine (Sc ?_ (S0 _)) <;> (rfl)) ?_ (by (exact au))))))))); (try dsimp only); exact ⟨hkl, aq hkl hoq ⟨by simpa using hc44, hot⟩⟩
  ·refine AS ?_; obtain rfl : k = s.es.length := by omega
   rw [Ah] at hoq; refine Xa (Cs (to ?_)); exact R1 I I (by rw [Ak (show elS s.core from ⟨hok, ct.2 hoq⟩)]; rfl)
theorem uv {s : SA} {w : World} {ok : Nat → Prop} (hF1 : (Fact.sl s.ga (gps s.gs)).holds ok w) (hs : saL s) :
  Cw 134 #[saV s] w (.string (S (dU s.gs))) := by
 obtain ⟨hlg, hlv, hle, hlt, hlm⟩ := hs
 refine En [Fact.sl s.ga (gps s.gs)] [(0, saV s)] Tryz.func134 I Tryz.ntmps134 I (Ac I (An _)) (Fc (ah hF1) Fn) (DX ?_)
 intro b1
 refine EP ?_; refine Lp (σ := Nat) [(1, _)] (fun gq => [(3, .int .i64 (gq : Int))]) (fun gq => gq ≤ s.gs.length ∧ ∀ g ∈ s.gs.take gq, g.2 = []) (fun gq => s.gs.length - gq) (0) (S1 I) (S1 I) (by (try dsimp only); exact ⟨Ai _, by simp⟩) ?_
 rintro i hinv1; (try dsimp only at hinv1 ⊢)
 obtain ⟨hi, hok⟩ := hinv1
 refine Cq (Cs (Km I (Fi ?_)))
 refine Yo I u54 (Es (fun hc8 => ?_) (fun hc8 => ?_))
 ·have hil : i < s.gs.length := by omega
  refine Ez ?_; refine Fi ?_
  refine Km I (El ?_)
  (refine Kq I (faf I I u26 I (by kernel_rfl) (by (try simp only [sN, Int.reduceToNat, Nat.reduceAdd, Nat.reduceMul, Nat.reduceSub]); rfl)) ?_)
  refine E5 ?_
  refine GL (fun hc17 => ?_) (fun hc17 => ?_)
  ·refine Cs (Fi ?_); refine Km I (El ?_); (refine Kq I (faf I I u26 I (by kernel_rfl) (by (try simp only [sN, Int.reduceToNat, Nat.reduceAdd, Nat.reduceMul, Nat.reduceSub]); rfl)) ?_); refine E5 ?_; refine to ?_; refine DY ?_; exact R1 I I (by rw [qY hil hok (by simpa using hc17)]; rfl)
  ·refine Ck (Xd (Xa (Cg (Km I (Kq I (Rz I I I (by omega)) (Ka I (Nn (Ly (i + 1) (by (try dsimp only); omega) (S1 I) (by refine (Sc ?_ (S0 _)) <;> (rfl)) ?_ (fun _ h => h))))))))); (try dsimp only); exact ⟨hil, aq hil hok (by simpa using hc17)⟩
 ·refine AS ?_
  obtain rfl : i = s.gs.length := by omega
  rw [Ah] at hok
  refine Xa (Cs (to ?_))
  exact R1 I I (by rw [oR hok]; rfl)
theorem y6 {s : SA} {w : World} {ok : Nat → Prop} (hF1 : (Fact.sl s.ga (gps s.gs)).holds ok w) (hF2 : (Fact.sl s.va (vrs s.vs)).holds ok w) (hF3 : (Fact.sl s.ea (qas s.es)).holds ok w) (hM : ∀ f ∈ (s.es.map qaF), f.holds ok w) (hs : saL s) (hfo : bK s.core) :
  Cw 218 #[saV s] w (.bool (decide (kdS s.core))) := by
 have hs' := hs
 obtain ⟨hlg, hlv, hle, hlt, hlm⟩ := hs
 refine En (Fact.sl s.ga (gps s.gs) :: Fact.sl s.va (vrs s.vs) :: Fact.sl s.ea (qas s.es) :: (s.es.map qaF)) [(0, saV s)] Tryz.func218 I Tryz.ntmps218 I (Ac I (An _)) (Fc (ah hF1) (Fc (ah hF2) (Fc (ah hF3) (aY hM)))) (DX ?_)
 intro b1
 refine Ka I (Nt (Cs (EP ?_))); refine Lp (σ := Nat × Bool) [(1, _)] (fun gq => [(3, .bool gq.2), (4, .int .i64 (gq.1 : Int))]) (fun gq => gq.1 ≤ s.vs.length ∧ (gq.2 = false ↔ ∀ v ∈ s.vs.take gq.1, v ≠ [])) (fun gq => s.vs.length - gq.1) (0, false) (S1 I) (S2 I I) (by (try dsimp only); exact ⟨Ai _, by simp⟩) ?_
 rintro ⟨i, b⟩ hinv1; (try dsimp only at hinv1 ⊢)
 obtain ⟨hi, hok⟩ := hinv1
 refine Cq (Cs (Km I (FS ?_)))
 refine Yo I u55 (Es (fun hc14 => ?_) (fun hc14 => ?_))
 ·have hil : i < s.vs.length := by omega
  refine Ck (Xa (WC.joinP (σ := Bool) [(1, _), (4, _)] (fun gq => [(3, .bool gq)]) (fun gq => gq = (b || decide (s.vs.getD i default = []))) (S2 I I) ?_ ?_))
  ·skip
   refine Cb (Cg (Km I (Km I (Nc 18 I (fun hg18 => ?_) (fun hg18 => ?_)))))
   ·refine T4 I (T2 I (Kt I (Yp I (Ka I (Nn (Xd (WX.joinP (b || decide (s.vs.getD i default = [])) (S2 I I) (by refine (Sc ?_ (S0 _)) <;> ((refine aj rfl ?_; (try dsimp only); (simp [*]; done)))) ?_ (fun _ h => h)))))))); (try dsimp only); done
   ·refine Kf 1 I u58 I I I .tc u55 ?_; refine Km I (Kq I (Ib I I I u55 (by omega) (by (rw [ag _ _ 1 (fun _ => rfl)]; omega))) ?_); (refine Kq I (faf I I jp I (by kernel_rfl) (by (try simp only [sN, Int.reduceToNat, Nat.reduceAdd, Nat.reduceMul, Nat.reduceSub]); rfl)) ?_); refine Kq I (cO (l := s.vs) (f := vrC) (sz := 1) i 0 I I u22 I (fun _ => rfl) (Aw _).symm hil (by decide) I) ?_; refine Ys I (Yq I (Ka I (Nn (Xd (WX.joinP (b || decide (s.vs.getD i default = [])) (S2 I I) (by refine (Sc ?_ (S0 _)) <;> ((refine aj rfl ?_; (try dsimp only); (simp [*]; done)))) ?_ (fun _ h => h)))))); (try dsimp only); done
  ·rintro u hmeet; (try dsimp only at hmeet ⊢); refine Cg (Km I (Kq I (Rz I I I (by omega)) (Ka I (Nn (Ly ((i + 1, u)) (by (try dsimp only); omega) (S1 I) (by refine (Sc ?_ (Sc ?_ (S0 _))) <;> (rfl)) ?_ (fun _ h => h)))))); (try dsimp only)
   exact ⟨hil, by
     rw [hmeet, Bool.or_eq_false_iff, decide_eq_false_iff_not, hok, aF hil]; constructor
     ·intro h x hx; rcases Bt.1 hx with h1 | h1; exact h.1 x h1; rw [List.mem_singleton.1 h1]; exact h.2
     ·intro h; exact ⟨fun x hx => h x (Ds _ hx), h _ (by simp)⟩⟩
 ·refine AS ?_
  obtain rfl : i = s.vs.length := by omega
  rw [Ah] at hok
  refine Xa (Cq (Cs (Km I (Ex (fun hc28 => ?_) (fun hc28 => ?_)))))
  ·have hr : kdS s.core := Or.inl (hok.1 (by simpa using hc28)); refine Cs (ne ?_); exact R1 I I (by rw [Ak hr]; rfl)
  ·have hnv : ¬ ∀ v ∈ s.vs, v ≠ [] := fun h => by have := hok.2 h; simp [this] at hc28
   refine Ck (Xa (Cs (Kq I (lda I I .tc u58 I ?_) ?_)))
   ·kernel_rfl
   refine Kc I (fun w hS => uv (s := s) (by (exact hS.sl)) (by exact hs')) (Eo ?_); refine FN (fun hc32 => ?_) (fun hc32 => ?_)
   ·have hr : ¬ kdS s.core := fun h => h.elim hnv fun h => h.1.1 (by simpa using hc32)
    refine Cs (ne ?_); exact R1 I I (by rw [Aj hr]; rfl)
   ·have hon : dU s.gs ≠ [] := by simpa using hc32
    refine Ck (Fv ?_); refine Lp (σ := Nat) [(1, _), (5, _)] (fun gq => [(6, .int .i64 (gq : Int))]) (fun gq => gq ≤ s.gs.length ∧ ∀ g ∈ s.gs.take gq, ¬ (g.2 ≠ [] ∧ g.2 ≠ dU s.gs)) (fun gq => s.gs.length - gq) (0) (S2 I I) (S1 I) (by (try dsimp only); exact ⟨Ai _, by simp⟩) ?_; rintro i hinv2; (try dsimp only at hinv2 ⊢); obtain ⟨hi, hog⟩ := hinv2; refine Cq (Cs (Km I (Fi ?_))); refine Yo I u54 (Es (fun hc37 => ?_) (fun hc37 => ?_))
    ·have hil : i < s.gs.length := by omega
     refine Ck (Xa (Cq (Cb (WC.joinP (σ := Unit) [(1, _), (5, _), (6, _)] (fun gq => [(56, .bool (decide ((s.gs.getD i default).2 ≠ [] ∧ (s.gs.getD i default).2 ≠ dU s.gs)))]) (fun gq => True) (S3 I I I) ?_ ?_))))
     ·skip
      refine Cg (Fi ?_); refine Km I (El ?_); (refine Kq I (faf I I u26 I (by kernel_rfl) (by (try simp only [sN, Int.reduceToNat, Nat.reduceAdd, Nat.reduceMul, Nat.reduceSub]); rfl)) ?_); refine E5 ?_; refine Yr I (Km I (Nc 47 I (fun hg47 => ?_) (fun hg47 => ?_)))
      ·refine Kf 0 I u58 I I I .tc u54 ?_; refine Km I (Kq I (Ia I I I u54 (by kernel_rfl : _ = some 2) (by omega) (by (rw [ag _ _ 2 (fun _ => rfl)]; omega))) ?_); (refine Kq I (faf I I u26 I (by kernel_rfl) (by (try simp only [sN, Int.reduceToNat, Nat.reduceAdd, Nat.reduceMul, Nat.reduceSub]); rfl)) ?_); refine Kq I (cO (sz := 2) _ 1 I I u22 I (fun _ => rfl) I (by assumption) (by decide) I) ?_; refine Km I (Yr I (Yp I (Nn (WX.joinP (()) (S3 I I I) (by refine (Sc ?_ (S0 _)) <;> ((refine congrArg (fun b => some (Value.bool b)) ?_; simp [*, -List.getD_eq_getElem?_getD]; done))) ?_ (fun _ h => h))))); (try dsimp only); done
      ·refine T4 I (T4 I (Yq I (Nn (WX.joinP (()) (S3 I I I) (by refine (Sc ?_ (S0 _)) <;> ((refine congrArg (fun b => some (Value.bool b)) ?_; simp [*, -List.getD_eq_getElem?_getD]; done))) ?_ (fun _ h => h))))); (try dsimp only); done
     ·rintro _ hmeet; (try dsimp only at hmeet ⊢); refine Ci I (fun hc56 => ?_) (fun hc56 => ?_)
      ·have hr : ¬ kdS s.core := fun h => h.elim hnv fun h => h.1.2 _ (ak _ _ hil) hc56
       refine Cs (to ?_); refine DY ?_; exact R1 I I (by rw [Aj hr]; rfl)
      ·refine Ck (Xd (Xa (Cg (Km I (Kq I (Rz I I I (by omega)) (Ka I (Nn (Ly (i + 1) (by (try dsimp only); omega) (S2 I I) (by refine (Sc ?_ (S0 _)) <;> (rfl)) ?_ (fun _ h => h))))))))); (try dsimp only); exact ⟨hil, aq hil hog hc56⟩
    ·refine AS ?_; obtain rfl : i = s.gs.length := by omega
     rw [Ah] at hog; refine Fv ?_; refine Lp (σ := Nat) [(1, _)] (fun gq => [(7, .int .i64 (gq : Int))]) (fun gq => gq ≤ s.es.length ∧ ∀ q ∈ s.es.take gq, kdQ s.gs s.vs q.1) (fun gq => s.es.length - gq) (0) (S1 I) (S1 I) (by (try dsimp only); exact ⟨Ai _, by simp⟩) ?_; rintro k hinv3; (try dsimp only at hinv3 ⊢); obtain ⟨hk, hoq⟩ := hinv3; refine Cq (Cs (Km I (Fm ?_))); refine Yo I u56 (Es (fun hc61 => ?_) (fun hc61 => ?_))
     ·have hkl : k < s.es.length := by omega
      have hkm := ak s.es k hkl; have hlt1 := hlt _ hkm; have hfq := hfo.2.2 _ (A3 hkm); have hgl : (s.es.getD k default).1.1.toNat < s.gs.length := by have := hfq.1.1.1; have := hfq.1.1.2; simp only [SA.core] at this; omega
      have hq0 := hfq.1.1.1; refine Ez ?_; refine Fm ?_; refine Km I (Eq ?_); refine Ev ?_; refine EQ ?_; intro b8; refine DZ ?_; refine Nt (Cs (Fw ?_)); refine Ka I (Nt (Cb (Lp (σ := Nat) [(1, _), (7, _), (8, _)] (fun gq => [(9, .int .i64 (gq : Int))]) (fun gq => gq ≤ (s.es.getD k default).1.2.2.length ∧ ∀ t ∈ (s.es.getD k default).1.2.2.take gq, ¬ (s.vs.getD t.2.1.toNat default = [] ∧ (s.gs.getD (s.es.getD k default).1.1.toNat default).2 = [])) (fun gq => (s.es.getD k default).1.2.2.length - gq) (0) (S3 I I I) (S1 I) (by (try dsimp only); exact ⟨Ai _, by simp⟩) ?_))); rintro m hinv4; (try dsimp only at hinv4 ⊢); obtain ⟨hm, hot⟩ := hinv4; refine Cq (Cs (Km I (F1 ?_))); refine Yo I u93 (Es (fun hc73 => ?_) (fun hc73 => ?_))
      ·have hml : m < (s.es.getD k default).1.2.2.length := by omega
       have htm := (hfq.2 _ (ak _ _ hml)).1; have ht0 := htm.1; have htl : ((s.es.getD k default).1.2.2.getD m default).2.1.toNat < s.vs.length := by have := htm.2; simp only [SA.core] at this; omega
       refine Ck (Xa (Cq (Cb (WC.joinP (σ := Unit) [(1, _), (7, _), (8, _), (9, _)] (fun gq => [(97, .bool (decide (s.vs.getD ((s.es.getD k default).1.2.2.getD m default).2.1.toNat default = [] ∧ (s.gs.getD (s.es.getD k default).1.1.toNat default).2 = [])))]) (fun gq => True) (S4 I I I I) ?_ ?_))))
       ·skip
        refine Cf [0, 1, 2, 3, 4, 5, 6, 7, 8, 9, 10, 11, 12, 13, 14, 15, 16, 17, 18, 19, 20, 21] [] [0, 0, 0, 0, 0, 0, 0, 0, 0, 0, 0, 0, 0, 0, 0, 0, 0, 0, 0, 0, 0, 0] (by kernel_rfl) (by kernel_rfl) I ?_; refine Kj I (Fa (q := 1) I I u58 I I) (Kj I (Ld I I .tc u55) ?_); refine FJ ?_; refine E0 ?_; refine Fl ?_; (refine Kj I (faf I I eK I (by kernel_rfl) (by (try simp only [sN, Int.reduceToNat, Nat.reduceAdd, Nat.reduceMul, Nat.reduceSub]); rfl)) ?_); refine Kj I (cO (sz := 4) _ 1 I I u3 I (fun _ => rfl) I (by assumption) (by decide) I) ?_; refine Kj I (Ib I I I u55 (by assumption) (by (rw [ag _ _ 1 (fun _ => rfl)]; omega))) ?_; (refine Kj I (faf I I jp I (by kernel_rfl) (by (try simp only [sN, Int.reduceToNat, Nat.reduceAdd, Nat.reduceMul, Nat.reduceSub]); rfl)) ?_); refine Kj I (cO (l := s.vs) (f := vrC) (sz := 1) ((s.es.getD k default).1.2.2.getD m default).2.1.toNat 0 I I u22 I (fun _ => rfl) (Aw _).symm htl (by decide) I) ?_; refine Kj I (ju I I I) (E0 ?_); refine WJ.bool 88 I (fun hg88 => ?_) (fun hg88 => ?_)
        ·(try simp only [sB] at hg88); refine Kj I (Fa (q := 0) I I u58 I I) (Kj I (Ld I I .tc u54) ?_); refine Kj I (Fa (q := 0) I I u95 I I) (Kj I (Ld I I .tc u3) ?_); refine Kj I (Ia I I I u54 (by kernel_rfl : _ = some 2) (by omega) (by (rw [ag _ _ 2 (fun _ => rfl)]; omega))) ?_; (refine Kj I (faf I I u26 I (by kernel_rfl) (by (try simp only [sN, Int.reduceToNat, Nat.reduceAdd, Nat.reduceMul, Nat.reduceSub]); rfl)) ?_); refine Kj I (cO (sz := 2) _ 1 I I u22 I (fun _ => rfl) I (by assumption) (by decide) I) ?_; refine Kj I (ju I I I) (Kj I (Rp I I I) ?_); refine WJ.nil ?_; refine Nn (WX.joinP (()) (S4 I I I I) (by refine (Sc ?_ (S0 _)) <;> ((refine congrArg (fun b => some (Value.bool b)) ?_; simp [*, -List.getD_eq_getElem?_getD]; done))) ?_ (fun _ h => h)); (try dsimp only); done
        ·(try simp only [sB] at hg88); refine Js I I I I (Js I I I I (Js I I I I (Js I I I I (Js I I I I (Js I I I I (Js I I I I (Js I I I I (Kj I (Rq I I I) ?_)))))))); refine WJ.nil ?_; refine Nn (WX.joinP (()) (S4 I I I I) (by refine (Sc ?_ (S0 _)) <;> ((refine congrArg (fun b => some (Value.bool b)) ?_; simp [*, -List.getD_eq_getElem?_getD]; done))) ?_ (fun _ h => h)); (try dsimp only); done
       ·rintro _ hmeet; (try dsimp only at hmeet ⊢); refine Ci I (fun hc97 => ?_) (fun hc97 => ?_)
        ·have hr : ¬ kdS s.core := fun h => h.elim hnv fun h => (h.2 _ (A3 hkm)).elim (fun h => h hc97.2) fun h => h _ (ak _ _ hml) hc97.1
         refine Cs (to ?_); refine Xf (Xb (Xb (Xf (DY ?_)))); exact R1 I I (by rw [Aj hr]; rfl)
        ·refine Ck (Xd (Xa (Cg (Km I (Kq I (Rz I I I (by omega)) (Ka I (Nn (Ly (m + 1) (by (try dsimp only); omega) (S3 I I I) (by refine (Sc ?_ (S0 _)) <;> (rfl)) ?_ (fun _ h => h))))))))); (try dsimp only); exact ⟨hml, aq hml hot hc97⟩
      ·refine AS ?_; obtain rfl : m = (s.es.getD k default).1.2.2.length := by omega
       rw [Ah] at hot
       have hkq : kdQ s.gs s.vs (s.es.getD k default).1 := by
        by_cases hg : (s.gs.getD (s.es.getD k default).1.1.toNat default).2 = []
        ·exact Or.inr fun t ht h => hot t ht ⟨h, hg⟩
        ·exact Or.inl hg
       refine Xd (Xa (Cg (Km I (Kq I (Rz I I I (by omega)) (Ka I (Nn (Ly (k + 1) (by (try dsimp only); omega) (S1 I) (by refine (Sc ?_ (S0 _)) <;> (rfl)) ?_ (by (exact au))))))))); (try dsimp only); exact ⟨hkl, aq hkl hoq hkq⟩
     ·refine AS ?_; obtain rfl : k = s.es.length := by omega
      rw [Ah] at hoq; refine Xa (Cs (to ?_)); exact R1 I I (by rw [Ak (show kdS s.core from Or.inr ⟨⟨hon, hog⟩, ct.2 hoq⟩)]; rfl)
theorem kq {s : Sm} (h : bK s) : fW s = if ¬ dO s then 6 else if ¬ elS s then 13 else if ¬ kdS s then 10 else 0 := by rw [fW, Aa (fun h1 => h1 h)]
theorem w9 {s : SA} {w : World} {ok : Nat → Prop} (hF1 : (Fact.sl s.ga (gps s.gs)).holds ok w) (hF2 : (Fact.sl s.va (vrs s.vs)).holds ok w) (hF3 : (Fact.sl s.ea (qas s.es)).holds ok w) (hM : ∀ f ∈ (s.es.map qaF), f.holds ok w) (hs : saL s) (hfo : bK s.core) :
  Cw 184 #[saV s] w (.int .i64 (fW s.core)) := by
 refine En (Fact.sl s.ga (gps s.gs) :: Fact.sl s.va (vrs s.vs) :: Fact.sl s.ea (qas s.es) :: (s.es.map qaF)) [(0, saV s)] Tryz.func184 I Tryz.ntmps184 I (Ac I (An _)) (Fc (ah hF1) (Fc (ah hF2) (Fc (ah hF3) (aY hM)))) (DX ?_)
 intro b1
 refine Ka I (Nt (Cq (Cs (Kq I (lda I I .tc u58 I ?_) ?_))))
 ·kernel_rfl
 refine Kc I (fun w hS => xl (s := s) (by (exact hS.sl)) (by exact hs)) (Nt (Ci I (fun hc4 => ?_) (fun hc4 => ?_)))
 ·have hr : fW s.core = 6 := by rw [kq hfo, Ab (by (exact hc4))]
  refine Cs (ne ?_)
  exact GY
 ·have h1 : dO s.core := by (exact Al.1 hc4)
  refine Ck (Xa (Cq (Cs (Kq I (lda I I .tc u58 I ?_) ?_))))
  ·kernel_rfl
  refine Kc I (fun w hS => xt (s := s) (by (exact hS.sl)) (by (exact hS.sl)) (by (exact hS.more)) (by exact hs) (by exact hfo)) (Ex (fun hc7 => ?_) (fun hc7 => ?_))
  ·have hr : fW s.core = 13 := by rw [kq hfo, Aa (fun h => h h1), Ab (by (exact hc7))]
   refine Cs (ne ?_); exact GY
  ·have h2 : elS s.core := by (simpa using hc7)
   refine Ck (Xa (Cq (Cs (Kq I (lda I I .tc u58 I ?_) ?_))))
   ·kernel_rfl
   refine Kc I (fun w hS => y6 (s := s) (by (exact hS.sl)) (by (exact hS.sl)) (by (exact hS.sl)) (by (exact hS.more)) (by exact hs) (by exact hfo)) (Ex (fun hc10 => ?_) (fun hc10 => ?_))
   ·have hr : fW s.core = 10 := by rw [kq hfo, Aa (fun h => h h1), Aa (fun h => h h2), Ab (by (exact hc10))]
    refine Cs (ne ?_); exact GY
   ·have h3 : kdS s.core := by (simpa using hc10)
    have hr : fW s.core = 0 := by rw [kq hfo, Aa (fun h => h h1), Aa (fun h => h h2), Aa (fun h => h h3)]
    refine Ck (Xa (Cs (to ?_))); exact GY
theorem uH {s : SA} {ws : List Zs} {a : Option Addr} {c : Nat} {w : World} {ok : Nat → Prop} (hF1 : (Fact.sl s.ga (gps s.gs)).holds ok w) (hF2 : (Fact.sl s.va (vrs s.vs)).holds ok w) (hF3 : (Fact.sl s.ea (qas s.es)).holds ok w) (hF4 : (Fact.sl a (aN ws)).holds ok w) (hM : ∀ f ∈ (s.es.map qaF), f.holds ok w) (hs : saL s) (hw : ws.length ≤ 100000) :
  Cw 132 #[saV s, .slice a ws.length c] w (.int .i64 (ep s.core ws)) := by
 refine En (Fact.sl s.ga (gps s.gs) :: Fact.sl s.va (vrs s.vs) :: Fact.sl s.ea (qas s.es) :: Fact.sl a (aN ws) :: (s.es.map qaF)) [(0, saV s), (1, .slice a ws.length c)] Tryz.func132 I Tryz.ntmps132 I (Ac I (Ac I (An _))) (Fc (ah hF1) (Fc (ah hF2) (Fc (ah hF3) (Fc (ah hF4) (aY hM))))) (DX ?_)
 intro b2
 refine Ka I (Nt (Cq (Cs (Kq I (lda I I .tc u58 I ?_) ?_))))
 ·kernel_rfl
 refine Kc I (fun w hS => xq (s := s) (by (exact hS.sl)) (by (exact hS.sl)) (by (exact hS.sl)) (by (exact hS.more)) (by exact hs)) (Ex (fun hc9 => ?_) (fun hc9 => ?_))
 ·have hr : ep s.core ws = 3 := by rw [ep, Ab (by (exact hc9))]
  refine Cs (ne ?_)
  exact GY
 ·have hf1 : bK s.core := by (simpa using hc9)
  refine Ck (Fv ?_); refine Lp (σ := Nat) [(1, _), (2, _)] (fun gq => [(5, .int .i64 (gq : Int))]) (fun gq => gq ≤ ws.length ∧ ∀ x ∈ ws.take gq, okZ x) (fun gq => ws.length - gq) (0) (S2 I I) (S1 I) (by (try dsimp only); exact ⟨Ai _, by simp⟩) ?_
  rintro i hinv1; (try dsimp only at hinv1 ⊢)
  obtain ⟨hi, hok⟩ := hinv1
  refine Cq (E3 ?_); refine Yo I u39 (Es (fun hc13 => ?_) (fun hc13 => ?_))
  ·have hil : i < ws.length := by omega
   refine Ez ?_; refine Km I (Km I (Ep ?_)); refine EY ?_; refine Kc I (fun w hS => a8 (x := ws.getD i default)) (Ex (fun hc21 => ?_) (fun hc21 => ?_))
   ·have hr : ep s.core ws = 3 := by rw [ep, Aa (fun h => h hf1), Ab (fun h => absurd (h _ (ak _ _ hil)) (by simpa using hc21))]
    refine Cs (to ?_); refine DY ?_; exact GY
   ·refine Ck (Xd (Xa (Cg (Km I (Kq I (Rz I I I (by omega)) (Ka I (Nn (Ly (i + 1) (by (try dsimp only); omega) (S2 I I) (by refine (Sc ?_ (S0 _)) <;> (rfl)) ?_ (fun _ h => h))))))))); (try dsimp only); exact ⟨hil, aq hil hok (by simpa using hc21)⟩
  ·refine AS ?_; obtain rfl : i = ws.length := by omega
   rw [Ah] at hok; refine Xa (Cq (Cs (Kq I (lda I I .tc u58 I ?_) ?_)))
   ·kernel_rfl
   refine Kc I (fun w hS => w9 (s := s) (by (exact hS.sl)) (by (exact hS.sl)) (by (exact hS.sl)) (by (exact hS.more)) (by exact hs) (by exact hf1)) (Et ?_); refine EF (fun hc25 => ?_) (fun hc25 => ?_)
   ·refine Cs (Km I (ne ?_)); exact R1 I I (by rw [ep, Aa (fun h => h hf1), Aa (fun h => h hok), Ab (by simpa using hc25)]; rfl)
   ·have hk0 : fW s.core = 0 := by simpa using hc25
    refine Fs ?_; refine Yo I u39 (FS ?_); refine Yo I u55 (EF (fun hc32 => ?_) (fun hc32 => ?_))
    ·refine Cs (ne ?_); exact R1 I I (by rw [ep, Aa (fun h => h hf1), Aa (fun h => h hok), Aa (fun h => h hk0), Ab (fun h => hc32 (by rw [h]))]; rfl)
    ·refine Ck (Xa (Cs (to ?_))); exact R1 I I (by rw [ep, Aa (fun h => h hf1), Aa (fun h => h hok), Aa (fun h => h hk0), Aa (fun h => h (show ws.length = s.vs.length by omega))]; rfl)
theorem zd {v q : Bs} {x : Zs} {w : World} (hv : okN v) (hq : okN q) (hx : okN x.2) :
  Cw 133 #[.agg #[.string (S v)], .string (S q), zV x] w (.bool (decide (inV q v x))) := by
 refine En [] [(0, .agg #[.string (S v)]), (1, .string (S q)), (2, zV x)] Tryz.func133 I Tryz.ntmps133 I (Ac I (Ac I (Ac I (An _)))) Fn (DX ?_)
 intro b3
 refine Ff ?_
 intro b5
 refine GR ?_; refine Kf 0 I jp I I I .tc u22 ?_
 refine FN (fun hc9 => ?_) (fun hc9 => ?_)
 ·have hv0 : v = [] := by simpa using hc9
  have hr : inV q v x ↔ x.1 = false ∧ val x.2 < val q := by rw [inV, Ab hv0]
  have hc : (ee x.2 q < 0) ↔ val x.2 < val q := by rw [aC hx hq]; exact ay _ _
  refine WC.joinP (σ := Unit) [] (fun gq => [(6, .bool (decide (x.1 = false ∧ ee x.2 q < 0)))]) (fun gq => True) (S0 _) ?_ ?_
  ·skip
   refine Cg (EX ?_); refine Yt I (Km I (Nc 13 I (fun hg13 => ?_) (fun hg13 => ?_)))
   ·refine Kf 1 I u37 I I I .tc u22 ?_; refine Km I (Kc I (fun w hS => jv (a := x.2) (b := q)) (Yl I (Yp I (Ka I (Nn (WX.joinP (()) (S0 _) (by refine (Sc ?_ (S0 _)) <;> ((refine aj rfl ?_; (try dsimp only); (simp [*]; done)))) ?_ (fun _ h => h))))))); (try dsimp only); done
   ·refine T4 I (Kt I (Yq I (Ka I (Nn (WX.joinP (()) (S0 _) (by refine (Sc ?_ (S0 _)) <;> ((refine aj rfl ?_; (try dsimp only); (simp [*]; done)))) ?_ (fun _ h => h)))))); (try dsimp only); done
  ·rintro _ hmeet; (try dsimp only at hmeet ⊢); refine Ce (Xb ?_); exact R1 I I (by rw [show decide (inV q v x) = _ from Ag.2 (hr.trans (and_congr Iff.rfl hc.symm))]; rfl)
 ·have hv0 : v ≠ [] := by simpa using hc9
  have hr : inV q v x ↔ val x.2 < val v := by rw [inV, Aa hv0]
  have hc : (ee x.2 v < 0) ↔ val x.2 < val v := by rw [aC hx hv]; exact ay _ _
  refine Ck (Xa (Cs (ED ?_)))
  refine Kf 0 I jp I I I .tc u22 ?_
  refine Kc I (fun w hS => jv (a := x.2) (b := v)) (Yl I (to ?_))
  exact R1 I I (by rw [show decide (inV q v x) = _ from Ag.2 (hr.trans hc.symm)]; rfl)
end Go.Proofs.YtkdlonihbjhhoaaGreatDoor
