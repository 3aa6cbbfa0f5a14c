/-
  Parts of the walk: Lin1 Lin2 Lin3 Lin4 Lin5 Lin6.
-/
import Derived.Test.YtkdlonihbjhhoaaGreatDoorG16
namespace Go.Proofs.YtkdlonihbjhhoaaGreatDoor
open Go.RowKit
set_option linter.unusedSimpArgs false
set_option linter.unusedVariables false
set_option maxHeartbeats 600000
set_option maxRecDepth 20000
def ixP {α : Type} (p : α → Bool) (l : List α) : Int := if l.any p = true then (l.findIdx p : Int) else -1
theorem dA {α : Type} {p : α → Bool} {l : List α} : decide (ixP p l ≥ 0) = l.any p := by
 rw [ixP]; split
 ·rename_i h; simp [h]
 ·rename_i h; simpa using h
theorem eW {α : Type} {p : α → Bool} {l : List α} (h : ∀ x ∈ l, p x = false) : ixP p l = -1 := by
 rw [ixP, Aa (by simpa using h)]
theorem jo {α : Type} [Inhabited α] {p : α → Bool} {l : List α} {i : Nat} (hi : i < l.length) (h0 : ∀ x ∈ l.take i, p x = false) (h1 : p (l.getD i default) = true) : ixP p l = i := by
 have e : l.getD i default = l[i] := by rw [List.getD_eq_getElem?_getD, Ad hi]; rfl
 rw [ixP, Ab (List.any_eq_true.2 ⟨_, ap l i hi, h1⟩)]
 congr 1
 rw [List.findIdx_eq hi]
 refine ⟨by rw [← e]; exact h1, fun j hj => ?_⟩
 exact h0 _ (List.mem_take_iff_getElem.2 ⟨j, by omega, rfl⟩)
theorem jq (v : Value) (cs : Array Value) : (#[] : Array Value) ++ [v].toArray ++ cs = #[v] ++ cs := by simp
theorem BH {l : List Tm} {a : Option Addr} {c : Nat} {fk : FuncId} {cs : Array Value} {p : Tm → Bool} {w : World} {ok : Nat → Prop} (hF1 : (Fact.sl a (l.flatMap tmC)).holds ok w) (hl : l.length ≤ 100000) (hgo : eO Tryz.prog fk = true) (hfn : ∀ x ∈ l, ∀ w', Below w.heap.size w w' → Calls Tryz.prog fk (#[.agg (tmC x).toArray] ++ cs) w' fun e w2 => e = .returned (.bool (p x)) ∧ Below w'.heap.size w' w2) :
  Cw 250 #[.slice a l.length c, .func (.func fk) #[] cs] w (.int .i64 (ixP p l)) := by
 refine En [Fact.sl a (l.flatMap tmC)] [(0, .slice a l.length c), (1, .func (.func fk) #[] cs)] Tryz.func250 I Tryz.ntmps250 I (Ac I (Ac I (An _))) (Fc (ah hF1) Fn) (Cs (DR ?_)); refine Yo I u93 (DN ?_)
 rintro i hinv1; (try dsimp only at hinv1 ⊢)
 obtain ⟨hi, hok⟩ := hinv1
 refine DP (fun hc9 => ?_) (fun hc9 => ?_)
 ·have hil : i < l.length := by omega
  refine El ?_; refine DT ?_; refine Km I (Km I (Fj ?_))
  refine Fp ?_
  refine Ez (fun hc16 => ?_) (fun hc16 => ?_)
  ·refine Cs (Km I (to ?_)); refine DS ?_; exact GK
  ·refine Ck (Xd (Xa (Cg (Kq I (Rz I I I (by omega)) (Km I (Nn (Ly (i + 1) (by (try dsimp only); omega) (S3 I I I) (by refine (Sc ?_ (S0 _)) <;> (rfl)) ?_ (fun _ h => h)))))))); (try dsimp only); exact ⟨hil, az hil hok (by simpa using hc16)⟩
 ·refine AT ?_
  obtain rfl : i = l.length := by omega
  rw [Ap] at hok
  refine Xa (Cs (to ?_))
  exact GV
theorem yu {l : List Tm} {a : Option Addr} {c : Nat} {fk : FuncId} {cs : Array Value} {p : Tm → Bool} {w : World} {ok : Nat → Prop} (hF1 : (Fact.sl a (l.flatMap tmC)).holds ok w) (hl : l.length ≤ 100000) (hgo : eO Tryz.prog fk = true) (hfn : ∀ x ∈ l, ∀ w', Below w.heap.size w w' → Calls Tryz.prog fk (#[.agg (tmC x).toArray] ++ cs) w' fun e w2 => e = .returned (.bool (p x)) ∧ Below w'.heap.size w' w2) :
  Cw 221 #[.slice a l.length c, .func (.func fk) #[] cs] w (.bool (l.any p)) := by
 refine En [Fact.sl a (l.flatMap tmC)] [(0, .slice a l.length c), (1, .func (.func fk) #[] cs)] Tryz.func221 I Tryz.ntmps221 I (Ac I (Ac I (An _))) (Fc (ah hF1) Fn) (Cs (DT ?_)); refine Km I (Kc I (fun w hS => BH (fk := fk) (cs := cs) (p := p) (by (exact hS.sl)) (by exact hl) (by exact hgo) (by exact fun x hx w' hb => hfn x hx w' (hS.below.trans (hb.mono hS.below.size)))) (Yh I (to ?_)))
 exact G1
theorem BI {l : List QA} {a : Option Addr} {c : Nat} {fk : FuncId} {cs : Array Value} {p : QA → Bool} {w : World} {ok : Nat → Prop} (hF1 : (Fact.sl a (l.flatMap qaC)).holds ok w) (hl : l.length ≤ 100000) (hgo : eO Tryz.prog fk = true) (hfn : ∀ x ∈ l, ∀ w', Below w.heap.size w w' → Calls Tryz.prog fk (#[.agg (qaC x).toArray] ++ cs) w' fun e w2 => e = .returned (.bool (p x)) ∧ Below w'.heap.size w' w2) :
  Cw 249 #[.slice a l.length c, .func (.func fk) #[] cs] w (.int .i64 (ixP p l)) := by
 refine En [Fact.sl a (l.flatMap qaC)] [(0, .slice a l.length c), (1, .func (.func fk) #[] cs)] Tryz.func249 I Tryz.ntmps249 I (Ac I (Ac I (An _))) (Fc (ah hF1) Fn) (Cs (DR ?_)); refine Yo I u56 (DN ?_)
 rintro i hinv1; (try dsimp only at hinv1 ⊢)
 obtain ⟨hi, hok⟩ := hinv1
 refine DP (fun hc9 => ?_) (fun hc9 => ?_)
 ·have hil : i < l.length := by omega
  refine El ?_; refine DT ?_; refine Km I (Km I (EB ?_))
  refine EF ?_
  refine Ez (fun hc16 => ?_) (fun hc16 => ?_)
  ·refine Cs (Km I (to ?_)); refine DS ?_; exact GK
  ·refine Ck (Xd (Xa (Cg (Kq I (Rz I I I (by omega)) (Km I (Nn (Ly (i + 1) (by (try dsimp only); omega) (S3 I I I) (by refine (Sc ?_ (S0 _)) <;> (rfl)) ?_ (fun _ h => h)))))))); (try dsimp only); exact ⟨hil, az hil hok (by simpa using hc16)⟩
 ·refine AT ?_
  obtain rfl : i = l.length := by omega
  rw [Ap] at hok
  refine Xa (Cs (to ?_))
  exact GV
theorem CC {l : List QA} {a : Option Addr} {c : Nat} {fk : FuncId} {cs : Array Value} {p : QA → Bool} {w : World} {ok : Nat → Prop} (hF1 : (Fact.sl a (l.flatMap qaC)).holds ok w) (hl : l.length ≤ 100000) (hgo : eO Tryz.prog fk = true) (hfn : ∀ x ∈ l, ∀ w', Below w.heap.size w w' → Calls Tryz.prog fk (#[.agg (qaC x).toArray] ++ cs) w' fun e w2 => e = .returned (.bool (p x)) ∧ Below w'.heap.size w' w2) :
  Cw 219 #[.slice a l.length c, .func (.func fk) #[] cs] w (.bool (l.any p)) := by
 refine En [Fact.sl a (l.flatMap qaC)] [(0, .slice a l.length c), (1, .func (.func fk) #[] cs)] Tryz.func219 I Tryz.ntmps219 I (Ac I (Ac I (An _))) (Fc (ah hF1) Fn) (Cs (DT ?_)); refine Km I (Kc I (fun w hS => BI (fk := fk) (cs := cs) (p := p) (by (exact hS.sl)) (by exact hl) (by exact hgo) (by exact fun x hx w' hb => hfn x hx w' (hS.below.trans (hb.mono hS.below.size)))) (Yh I (to ?_)))
 exact G1
theorem BG {l : List Bs} {a : Option Addr} {c : Nat} {fk : FuncId} {cs : Array Value} {p : Bs → Bool} {w : World} {ok : Nat → Prop} (hF1 : (Fact.sl a (l.flatMap vrC)).holds ok w) (hl : l.length ≤ 100000) (hgo : eO Tryz.prog fk = true) (hfn : ∀ x ∈ l, ∀ w', Below w.heap.size w w' → Calls Tryz.prog fk (#[.agg (vrC x).toArray] ++ cs) w' fun e w2 => e = .returned (.bool (p x)) ∧ Below w'.heap.size w' w2) :
  Cw 251 #[.slice a l.length c, .func (.func fk) #[] cs] w (.int .i64 (ixP p l)) := by
 refine En [Fact.sl a (l.flatMap vrC)] [(0, .slice a l.length c), (1, .func (.func fk) #[] cs)] Tryz.func251 I Tryz.ntmps251 I (Ac I (Ac I (An _))) (Fc (ah hF1) Fn) (Cs (DR ?_)); refine Yo I u55 (DN ?_)
 rintro i hinv1; (try dsimp only at hinv1 ⊢)
 obtain ⟨hi, hok⟩ := hinv1
 refine DP (fun hc9 => ?_) (fun hc9 => ?_)
 ·have hil : i < l.length := by omega
  refine El ?_; refine DT ?_; refine Km I (Km I (E8 ?_))
  refine Ff ?_
  refine Ez (fun hc16 => ?_) (fun hc16 => ?_)
  ·refine Cs (Km I (to ?_)); refine DS ?_; exact GK
  ·refine Ck (Xd (Xa (Cg (Kq I (Rz I I I (by omega)) (Km I (Nn (Ly (i + 1) (by (try dsimp only); omega) (S3 I I I) (by refine (Sc ?_ (S0 _)) <;> (rfl)) ?_ (fun _ h => h)))))))); (try dsimp only); exact ⟨hil, az hil hok (by simpa using hc16)⟩
 ·refine AT ?_
  obtain rfl : i = l.length := by omega
  rw [Ap] at hok
  refine Xa (Cs (to ?_))
  exact GV
theorem CB {l : List Bs} {a : Option Addr} {c : Nat} {fk : FuncId} {cs : Array Value} {p : Bs → Bool} {w : World} {ok : Nat → Prop} (hF1 : (Fact.sl a (l.flatMap vrC)).holds ok w) (hl : l.length ≤ 100000) (hgo : eO Tryz.prog fk = true) (hfn : ∀ x ∈ l, ∀ w', Below w.heap.size w w' → Calls Tryz.prog fk (#[.agg (vrC x).toArray] ++ cs) w' fun e w2 => e = .returned (.bool (p x)) ∧ Below w'.heap.size w' w2) :
  Cw 223 #[.slice a l.length c, .func (.func fk) #[] cs] w (.bool (l.any p)) := by
 refine En [Fact.sl a (l.flatMap vrC)] [(0, .slice a l.length c), (1, .func (.func fk) #[] cs)] Tryz.func223 I Tryz.ntmps223 I (Ac I (Ac I (An _))) (Fc (ah hF1) Fn) (Cs (DT ?_)); refine Km I (Kc I (fun w hS => BG (fk := fk) (cs := cs) (p := p) (by (exact hS.sl)) (by exact hl) (by exact hgo) (by exact fun x hx w' hb => hfn x hx w' (hS.below.trans (hb.mono hS.below.size)))) (Yh I (to ?_)))
 exact G1
theorem BK {l : List Gp} {a : Option Addr} {c : Nat} {fk : FuncId} {cs : Array Value} {p : Gp → Bool} {w : World} {ok : Nat → Prop} (hF1 : (Fact.sl a (l.flatMap gpC)).holds ok w) (hl : l.length ≤ 100000) (hgo : eO Tryz.prog fk = true) (hfn : ∀ x ∈ l, ∀ w', Below w.heap.size w w' → Calls Tryz.prog fk (#[.agg (gpC x).toArray] ++ cs) w' fun e w2 => e = .returned (.bool (p x)) ∧ Below w'.heap.size w' w2) :
  Cw 252 #[.slice a l.length c, .func (.func fk) #[] cs] w (.int .i64 (ixP p l)) := by
 refine En [Fact.sl a (l.flatMap gpC)] [(0, .slice a l.length c), (1, .func (.func fk) #[] cs)] Tryz.func252 I Tryz.ntmps252 I (Ac I (Ac I (An _))) (Fc (ah hF1) Fn) (Cs (DR ?_)); refine Yo I u54 (DN ?_)
 rintro i hinv1; (try dsimp only at hinv1 ⊢)
 obtain ⟨hi, hok⟩ := hinv1
 refine DP (fun hc9 => ?_) (fun hc9 => ?_)
 ·have hil : i < l.length := by omega
  refine El ?_; refine DT ?_; refine Km I (Km I (EC ?_))
  refine EG ?_
  refine Ez (fun hc16 => ?_) (fun hc16 => ?_)
  ·refine Cs (Km I (to ?_)); refine DS ?_; exact GK
  ·refine Ck (Xd (Xa (Cg (Kq I (Rz I I I (by omega)) (Km I (Nn (Ly (i + 1) (by (try dsimp only); omega) (S3 I I I) (by refine (Sc ?_ (S0 _)) <;> (rfl)) ?_ (fun _ h => h)))))))); (try dsimp only); exact ⟨hil, az hil hok (by simpa using hc16)⟩
 ·refine AT ?_
  obtain rfl : i = l.length := by omega
  rw [Ap] at hok
  refine Xa (Cs (to ?_))
  exact GV
theorem CD {l : List Gp} {a : Option Addr} {c : Nat} {fk : FuncId} {cs : Array Value} {p : Gp → Bool} {w : World} {ok : Nat → Prop} (hF1 : (Fact.sl a (l.flatMap gpC)).holds ok w) (hl : l.length ≤ 100000) (hgo : eO Tryz.prog fk = true) (hfn : ∀ x ∈ l, ∀ w', Below w.heap.size w w' → Calls Tryz.prog fk (#[.agg (gpC x).toArray] ++ cs) w' fun e w2 => e = .returned (.bool (p x)) ∧ Below w'.heap.size w' w2) :
  Cw 225 #[.slice a l.length c, .func (.func fk) #[] cs] w (.bool (l.any p)) := by
 refine En [Fact.sl a (l.flatMap gpC)] [(0, .slice a l.length c), (1, .func (.func fk) #[] cs)] Tryz.func225 I Tryz.ntmps225 I (Ac I (Ac I (An _))) (Fc (ah hF1) Fn) (Cs (DT ?_)); refine Km I (Kc I (fun w hS => BK (fk := fk) (cs := cs) (p := p) (by (exact hS.sl)) (by exact hl) (by exact hgo) (by exact fun x hx w' hb => hfn x hx w' (hS.below.trans (hb.mono hS.below.size)))) (Yh I (to ?_)))
 exact G1
theorem BF {l : List Zs} {a : Option Addr} {c : Nat} {fk : FuncId} {cs : Array Value} {p : Zs → Bool} {w : World} {ok : Nat → Prop} (hF1 : (Fact.sl a (l.flatMap zc)).holds ok w) (hl : l.length ≤ 100000) (hgo : eO Tryz.prog fk = true) (hfn : ∀ x ∈ l, ∀ w', Below w.heap.size w w' → Calls Tryz.prog fk (#[.agg (zc x).toArray] ++ cs) w' fun e w2 => e = .returned (.bool (p x)) ∧ Below w'.heap.size w' w2) :
  Cw 185 #[.slice a l.length c, .func (.func fk) #[] cs] w (.int .i64 (ixP p l)) := by
 refine En [Fact.sl a (l.flatMap zc)] [(0, .slice a l.length c), (1, .func (.func fk) #[] cs)] Tryz.func185 I Tryz.ntmps185 I (Ac I (Ac I (An _))) (Fc (ah hF1) Fn) (Cs (DR ?_)); refine Yo I u39 (DN ?_)
 rintro i hinv1; (try dsimp only at hinv1 ⊢)
 obtain ⟨hi, hok⟩ := hinv1
 refine DP (fun hc9 => ?_) (fun hc9 => ?_)
 ·have hil : i < l.length := by omega
  refine El ?_; refine DT ?_; refine Km I (Km I (DX ?_))
  refine EZ ?_
  refine Ez (fun hc16 => ?_) (fun hc16 => ?_)
  ·refine Cs (Km I (to ?_)); refine DS ?_; exact GK
  ·refine Ck (Xd (Xa (Cg (Kq I (Rz I I I (by omega)) (Km I (Nn (Ly (i + 1) (by (try dsimp only); omega) (S3 I I I) (by refine (Sc ?_ (S0 _)) <;> (rfl)) ?_ (fun _ h => h)))))))); (try dsimp only); exact ⟨hil, az hil hok (by simpa using hc16)⟩
 ·refine AT ?_
  obtain rfl : i = l.length := by omega
  rw [Ap] at hok
  refine Xa (Cs (to ?_))
  exact GV
theorem CA {l : List Zs} {a : Option Addr} {c : Nat} {fk : FuncId} {cs : Array Value} {p : Zs → Bool} {w : World} {ok : Nat → Prop} (hF1 : (Fact.sl a (l.flatMap zc)).holds ok w) (hl : l.length ≤ 100000) (hgo : eO Tryz.prog fk = true) (hfn : ∀ x ∈ l, ∀ w', Below w.heap.size w w' → Calls Tryz.prog fk (#[.agg (zc x).toArray] ++ cs) w' fun e w2 => e = .returned (.bool (p x)) ∧ Below w'.heap.size w' w2) :
  Cw 137 #[.slice a l.length c, .func (.func fk) #[] cs] w (.bool (l.any p)) := by
 refine En [Fact.sl a (l.flatMap zc)] [(0, .slice a l.length c), (1, .func (.func fk) #[] cs)] Tryz.func137 I Tryz.ntmps137 I (Ac I (Ac I (An _))) (Fc (ah hF1) Fn) (Cs (DT ?_)); refine Km I (Kc I (fun w hS => BF (fk := fk) (cs := cs) (p := p) (by (exact hS.sl)) (by exact hl) (by exact hgo) (by exact fun x hx w' hb => hfn x hx w' (hS.below.trans (hb.mono hS.below.size)))) (Yh I (to ?_)))
 exact G1
theorem gL {f : Fact} {w w' : World} (h : f.holds (fun _ => True) w) (hb : Below w.heap.size w w') : f.holds (fun _ => True) w' := f.stable h hb.size fun b hlt _ => hb.block b hlt
theorem zO (v : Value) : #[v] ++ (#[] : Array Value) = #[v] := by simp
theorem zN (v u : Value) : #[v] ++ (#[u] : Array Value) = #[v, u] := by simp
theorem wi {ok : Nat → Prop} {w0 w : World} {own : List Ent} {fs more : List Fact} {f : Fact} (h : St ok w0 own fs w) [hm : oQ fs more] (hf : f ∈ more) : St ok w0 own (f :: fs) w := h.add (h.fact f (hm.h f hf))
theorem oo {s : SA} {w : World} {ok : Nat → Prop} (hF1 : (Fact.sl s.ga (gps s.gs)).holds ok w) (hs : saL s) :
  Cw 140 #[saV s] w (.string (S (fK s.gs))) := by
 obtain ⟨hlg, hlv, hle, hlt, hlm⟩ := hs
 refine En [Fact.sl s.ga (gps s.gs)] [(0, saV s)] Tryz.func140 I Tryz.ntmps140 I (Ac I (An _)) (Fc (ah hF1) Fn) (DO ?_)
 intro b1
 refine Ka I (Nt (Cq (Cs (Kf 0 I u58 I I I .tc u54 ?_))))
 refine Yo I u54 (Km I (Nt (Cb (Lp (σ := Nat) [(6, _), (7, _)] (fun gq => [(8, .int .i64 (gq : Int))]) (fun gq => gq ≤ s.gs.length ∧ ∀ g ∈ s.gs.take gq, g.2 = []) (fun gq => s.gs.length - gq) (0) (S2 I I) (S1 I) (by (try dsimp only); exact ⟨Ai _, by simp⟩) ?_))))
 rintro i hinv1; (try dsimp only at hinv1 ⊢)
 obtain ⟨hi, hok⟩ := hinv1
 refine DP (fun hc9 => ?_) (fun hc9 => ?_)
 ·have hil : i < s.gs.length := by omega
  refine E3 ?_; refine EC ?_
  refine EG ?_
  refine Fx ?_
  intro b4
  refine DQ ?_; refine Nt (Cs (EE ?_))
  refine Yr I (Nt (Ci I (fun hc14 => ?_) (fun hc14 => ?_)))
  ·refine Cs (EE ?_); refine to ?_; refine DS ?_; exact R1 I I (by rw [w8 hil hok (by simpa using hc14)]; rfl)
  ·refine Ck (Xd (Xa (Cg (Kq I (Rz I I I (by omega)) (Km I (Nn (Ly (i + 1) (by (try dsimp only); omega) (S2 I I) (by refine (Sc ?_ (S0 _)) <;> (rfl)) ?_ (by (exact au))))))))); (try dsimp only); exact ⟨hil, az hil hok (by simpa using hc14)⟩
 ·refine AT ?_
  obtain rfl : i = s.gs.length := by omega
  rw [Ap] at hok
  refine Xa (Cs (to ?_))
  exact R1 I I (by rw [ug hok]; rfl)
theorem uK {s : SA} {w : World} {ok : Nat → Prop} (hF1 : (Fact.sl s.ga (gps s.gs)).holds ok w) (hF2 : (Fact.sl s.va (vrs s.vs)).holds ok w) (hF3 : (Fact.sl s.ea (qas s.es)).holds ok w) (hM : ∀ f ∈ (s.es.map qaF), f.holds ok w) (hs : saL s) :
  Cw 136 #[saV s] w (.int .i64 (if cO s.core then 0 else 3)) := by
 obtain ⟨hlg, hlv, hle, hlt, hlm⟩ := hs
 refine En (Fact.sl s.ga (gps s.gs) :: Fact.sl s.va (vrs s.vs) :: Fact.sl s.ea (qas s.es) :: (s.es.map qaF)) [(0, saV s)] Tryz.func136 I Tryz.ntmps136 I (Ac I (An _)) (Fc (ah hF1) (Fc (ah hF2) (Fc (ah hF3) (cK hM)))) ?_
 refine Cs ?_
 refine EW ?_
 intro b1
 refine Ka I (Nt (Cq (Cs (FF ?_))))
 refine Yo I u54 (Km I (Nt (Cb ?_)))
 refine Lp (σ := Nat) [(1, _), (12, _), (13, _)] (fun gq => [(14, .int .i64 (gq : Int))]) (fun gq => gq ≤ s.gs.length ∧ ∀ g ∈ s.gs.take gq, okG g) (fun gq => s.gs.length - gq) (0) (S3 I I I) (S1 I) (by (try dsimp only); exact ⟨Ai _, by simp⟩) ?_
 rintro i hinv1; (try dsimp only at hinv1 ⊢)
 obtain ⟨hi, hok⟩ := hinv1
 refine Cs (Yl I (Nt (Cq ?_)))
 refine Cd I (fun hc15 => ?_) (fun hc15 => ?_)
 ·(try simp only [sB] at hc15)
  have hil : i < s.gs.length := by omega
  refine E3 ?_
  refine EC ?_
  refine EG ?_
  refine Fx ?_
  intro b4
  refine DQ ?_
  refine Nt ?_
  refine WC.joinP (σ := Unit) [(1, _), (12, _), (13, _), (14, _)] (fun gq => [(27, .bool (decide (¬ (okN (s.gs.getD i default).1 ∧ okN (s.gs.getD i default).2))))]) (fun gq => True) (S4 I I I I) ?_ ?_
  ·skip
   refine Cg (Kq I (Fa (q := 0) I I u26 I I) (Em ?_))
   refine Ku I (Oc I I (Kv fun w hS => ay (a := (s.gs.getD i default).1))) ?_
   refine Yt I (Km I ?_)
   refine Nb 22 I (fun hg22 => ?_) (fun hg22 => ?_)
   ·(try simp only [sB] at hg22)
    refine Fi ?_
    refine WX.joinP (()) (S4 I I I I) (by refine (Sc ?_ (S0 _)) <;> ((refine congrArg (fun b => some (Value.bool b)) ?_; simp [*, -List.getD_eq_getElem?_getD]; done))) ?_ (by (exact fun _ h => h))
    (try dsimp only)
    done
   ·(try simp only [sB] at hg22)
    refine Kq I (Fa (q := 1) I I u26 I I) (Em ?_)
    refine Ku I (Oc I I (Kv fun w hS => ay (a := (s.gs.getD i default).2))) ?_
    refine Yt I (Yq I (Nn ?_))
    refine WX.joinP (()) (S4 I I I I) (by refine (Sc ?_ (S0 _)) <;> ((refine congrArg (fun b => some (Value.bool b)) ?_; simp [*, -List.getD_eq_getElem?_getD]; done))) ?_ (by (exact fun _ h => h))
    (try dsimp only)
    done
  ·rintro _ hmeet; (try dsimp only at hmeet ⊢)
   refine Cd I (fun hc27 => ?_) (fun hc27 => ?_)
   ·(try simp only [sB] at hc27)
    refine Cs (to ?_); refine DS ?_
    exact R1 I I (by rw [Aa (fun h => absurd (h.1 _ (ap _ _ hil)) hc27)]; rfl)
   ·(try simp only [sB] at hc27)
    refine Ck (EU ?_)
    refine Ly (i + 1) (by (try dsimp only); omega) (S3 I I I) (by refine (Sc ?_ (S0 _)) <;> (rfl)) ?_ (by (exact au))
    (try dsimp only)
    exact ⟨hil, az hil hok (Ao.1 hc27)⟩
 ·(try simp only [sB] at hc15)
  refine AT ?_
  obtain rfl : i = s.gs.length := by omega
  rw [Ap] at hok
  refine Xa (Cq (Cs (Kq I (Fa (q := 1) I I u58 I I) (Kq I (Ld I I .tc u55) ?_))))
  refine Yo I u55 (Km I (Nt (Cb ?_)))
  refine Lp (σ := Nat) [(1, _), (30, _), (31, _)] (fun gq => [(32, .int .i64 (gq : Int))]) (fun gq => gq ≤ s.vs.length ∧ ∀ v ∈ s.vs.take gq, okN v) (fun gq => s.vs.length - gq) (0) (S3 I I I) (S1 I) (by (try dsimp only); exact ⟨Ai _, by simp⟩) ?_
  rintro j hinv2; (try dsimp only at hinv2 ⊢)
  obtain ⟨hj, hov⟩ := hinv2
  refine Cs (Yl I (Nt (Cq ?_)))
  refine Cd I (fun hc33 => ?_) (fun hc33 => ?_)
  ·(try simp only [sB] at hc33)
   have hjl : j < s.vs.length := by omega
   refine E3 ?_
   refine E8 ?_
   refine Ff ?_
   refine Kh I (Oz [.string (S [])] I) ?_
   intro b6
   refine DQ ?_
   refine Nt (Cs (Kq I (Fa (q := 0) I I oW I I) (Em ?_)))
   refine Ku I (Oc I I (Kv fun w hS => ay (a := s.vs.getD j default))) ?_
   refine Yt I (Nt ?_)
   refine Cd I (fun hc39 => ?_) (fun hc39 => ?_)
   ·(try simp only [sB] at hc39)
    refine Cs (to ?_); refine DS ?_
    exact R1 I I (by rw [Aa (fun h => absurd (h.2.1 _ (ap _ _ hjl)) (by simpa using hc39))]; rfl)
   ·(try simp only [sB] at hc39)
    refine Ck (EU ?_)
    refine Ly (j + 1) (by (try dsimp only); omega) (S3 I I I) (by refine (Sc ?_ (S0 _)) <;> (rfl)) ?_ (by (exact au))
    (try dsimp only)
    exact ⟨hjl, az hjl hov (by simpa using hc39)⟩
  ·(try simp only [sB] at hc33)
   refine AT ?_
   obtain rfl : j = s.vs.length := by omega
   rw [Ap] at hov
   refine F1 ?_
   refine Yo I u56 (Km I (Nt (Cb ?_)))
   refine Lp (σ := Nat) [(1, _), (42, _), (43, _)] (fun gq => [(44, .int .i64 (gq : Int))]) (fun gq => gq ≤ s.es.length ∧ ∀ q ∈ s.es.take gq, okQ s.gs.length s.vs.length q.1) (fun gq => s.es.length - gq) (0) (S3 I I I) (S1 I) (by (try dsimp only); exact ⟨Ai _, by simp⟩) ?_
   rintro k hinv3; (try dsimp only at hinv3 ⊢)
   obtain ⟨hk, hoq⟩ := hinv3
   refine Cs (Yl I (Nt (Cq ?_)))
   refine Cd I (fun hc45 => ?_) (fun hc45 => ?_)
   ·(try simp only [sB] at hc45)
    have hkl : k < s.es.length := by omega
    have hkm := ap s.es k hkl
    have hlt1 := hlt _ hkm
    refine E3 ?_
    refine EB ?_
    refine EF ?_
    refine E1 ?_
    intro b8
    refine DQ ?_
    refine Nt (Cq ?_)
    refine WC.joinP (σ := Unit) [(1, _), (8, _), (42, _), (43, _), (44, _)] (fun gq => [(64, .bool (decide (¬ ((0 ≤ (s.es.getD k default).1.1 ∧ (s.es.getD k default).1.1 < (s.gs.length : Int)) ∧ okN (s.es.getD k default).1.2.1))))]) (fun gq => True) (S5 I I I I I) ?_ ?_
    ·skip
     refine Cg (Kq I (Fa (q := 0) I I u95 I I) (F2 ?_))
     refine Yl I (Km I ?_)
     refine Nb 51 I (fun hg51 => ?_) (fun hg51 => ?_)
     ·(try simp only [sB] at hg51)
      refine Kt I (Kt I (Kt I (Kt I (Kt I (Kt I (Yp I (Km I (Fi ?_))))))))
      refine WX.joinP (()) (S5 I I I I I) (by refine (Sc ?_ (S0 _)) <;> ((exact congrArg (fun b => some (Value.bool b)) (by symm; apply Am; omega)))) ?_ (by (exact fun _ h => h))
      (try dsimp only)
      done
     ·(try simp only [sB] at hg51)
      refine Kq I (Fa (q := 0) I I u95 I I) (F2 ?_)
      refine FF ?_
      refine Yo I u54 (Yh I (Yq I (Km I ?_)))
      refine Nb 59 I (fun hg59 => ?_) (fun hg59 => ?_)
      ·(try simp only [sB] at hg59)
       refine Fi ?_
       refine WX.joinP (()) (S5 I I I I I) (by refine (Sc ?_ (S0 _)) <;> ((exact congrArg (fun b => some (Value.bool b)) (by symm; apply Am; omega)))) ?_ (by (exact fun _ h => h))
       (try dsimp only)
       done
      ·(try simp only [sB] at hg59)
       refine Kq I (Fa (q := 1) I I u95 I I) (Em ?_)
       refine Ku I (Oc I I (Kv fun w hS => ay (a := (s.es.getD k default).1.2.1))) ?_
       refine Yt I (Yq I (Nn ?_))
       refine WX.joinP (()) (S5 I I I I I) (by refine (Sc ?_ (S0 _)) <;> ((refine congrArg (fun b => some (Value.bool b)) ?_; simp [*, -List.getD_eq_getElem?_getD]; done))) ?_ (by (exact fun _ h => h))
       (try dsimp only)
       done
    ·rintro _ hmeet; (try dsimp only at hmeet ⊢)
     refine Cd I (fun hc64 => ?_) (fun hc64 => ?_)
     ·(try simp only [sB] at hc64)
      refine Cs (ne ?_); refine DS ?_
      exact R1 I I (by rw [Aa (fun h => absurd (h.2.2 _ (B4 hkm)).1 hc64)]; rfl)
     ·(try simp only [sB] at hc64)
      refine Ck (Xa (Cs (Kq I (Fa (q := 2) I I u95 I I) ?_)))
      refine WL.st (fun w h => wi (more := s.es.map qaF) (f := qaF (s.es.getD k default)) h (B4 hkm)) ?_
      refine Kq I (Ld I I .tc u93) ?_
      refine Yo I u93 (Km I (Nt (Cb ?_)))
      refine Lp (σ := Nat) [(1, _), (42, _), (43, _), (44, _), (66, _), (67, _)] (fun gq => [(68, .int .i64 (gq : Int))]) (fun gq => gq ≤ (s.es.getD k default).1.2.2.length ∧ ∀ t ∈ (s.es.getD k default).1.2.2.take gq, okT s.vs.length t) (fun gq => (s.es.getD k default).1.2.2.length - gq) (0) (S6 I I I I I I) (S1 I) (by (try dsimp only); exact ⟨Ai _, by simp⟩) ?_
      rintro m hinv4; (try dsimp only at hinv4 ⊢)
      obtain ⟨hm, hot⟩ := hinv4
      refine Cs (Yl I (Nt (Cq ?_)))
      refine Cd I (fun hc69 => ?_) (fun hc69 => ?_)
      ·(try simp only [sB] at hc69)
       have hml : m < (s.es.getD k default).1.2.2.length := by omega
       refine E3 ?_
       refine Fj ?_
       refine Fp ?_
       refine Kh I (Oz [.string (S []), .int .i64 0, .bool false, .string (S [])] I) ?_
       intro b10
       refine DQ ?_
       refine Nt ?_
       refine WC.joinP (σ := Unit) [(1, _), (42, _), (43, _), (44, _), (66, _), (67, _), (68, _)] (fun gq => [(94, .bool (decide (¬ ((0 ≤ ((s.es.getD k default).1.2.2.getD m default).2.1 ∧ ((s.es.getD k default).1.2.2.getD m default).2.1 < (s.vs.length : Int)) ∧ okN ((s.es.getD k default).1.2.2.getD m default).1 ∧ okZ ((s.es.getD k default).1.2.2.getD m default).2.2))))]) (fun gq => True) (S7 I I I I I I I) ?_ ?_
       ·skip
        refine Cg (Kq I (Fa (q := 1) I I jM I I) (F2 ?_))
        refine Yl I (Km I ?_)
        refine Nb 75 I (fun hg75 => ?_) (fun hg75 => ?_)
        ·(try simp only [sB] at hg75)
         refine Kt I (Kt I (Kt I (Kt I (Kt I (Kt I (Yp I (Km I (Kt I (Kt I (Kt I (Kt I (Yp I (Km I (Fi ?_))))))))))))))
         refine WX.joinP (()) (S7 I I I I I I I) (by refine (Sc ?_ (S0 _)) <;> ((exact congrArg (fun b => some (Value.bool b)) (by symm; apply Am; omega)))) ?_ (by (exact fun _ h => h))
         (try dsimp only)
         done
        ·(try simp only [sB] at hg75)
         refine Kq I (Fa (q := 1) I I jM I I) (F2 ?_)
         refine Kq I (Fa (q := 1) I I u58 I I) (Kq I (Ld I I .tc u55) ?_)
         refine Yo I u55 (Yh I (Yq I (Km I ?_)))
         refine Nb 83 I (fun hg83 => ?_) (fun hg83 => ?_)
         ·(try simp only [sB] at hg83)
          refine Kt I (Kt I (Kt I (Kt I (Yp I (Km I (Fi ?_))))))
          refine WX.joinP (()) (S7 I I I I I I I) (by refine (Sc ?_ (S0 _)) <;> ((exact congrArg (fun b => some (Value.bool b)) (by symm; apply Am; omega)))) ?_ (by (exact fun _ h => h))
          (try dsimp only)
          done
         ·(try simp only [sB] at hg83)
          refine Kq I (Fa (q := 0) I I jM I I) (Em ?_)
          refine Ku I (Oc I I (Kv fun w hS => ay (a := ((s.es.getD k default).1.2.2.getD m default).1))) ?_
          refine Yt I (Yq I (Km I ?_))
          refine Nb 89 I (fun hg89 => ?_) (fun hg89 => ?_)
          ·(try simp only [sB] at hg89)
           refine Fi ?_
           refine WX.joinP (()) (S7 I I I I I I I) (by refine (Sc ?_ (S0 _)) <;> ((refine congrArg (fun b => some (Value.bool b)) ?_; simp [*, -List.getD_eq_getElem?_getD]; done))) ?_ (by (exact fun _ h => h))
           (try dsimp only)
           done
          ·(try simp only [sB] at hg89)
           refine Kq I (Fa (q := 2) I I jM I I) ?_
           refine FX ?_
           refine Ku I (Oc I I (Kv fun w hS => dY (x := ((s.es.getD k default).1.2.2.getD m default).2.2))) ?_
           refine Yt I (Yq I (Nn ?_))
           refine WX.joinP (()) (S7 I I I I I I I) (by refine (Sc ?_ (S0 _)) <;> ((refine congrArg (fun b => some (Value.bool b)) ?_; simp [*, -List.getD_eq_getElem?_getD]; done))) ?_ (by (exact fun _ h => h))
           (try dsimp only)
           done
       ·rintro _ hmeet; (try dsimp only at hmeet ⊢)
        refine Cd I (fun hc94 => ?_) (fun hc94 => ?_)
        ·(try simp only [sB] at hc94)
         refine Cs (to ?_); refine Xf (Xb (Xb (Xf (DS ?_))))
         exact R1 I I (by rw [Aa (fun h => absurd ((h.2.2 _ (B4 hkm)).2 _ (ap _ _ hml)) hc94)]; rfl)
        ·(try simp only [sB] at hc94)
         refine Ck (EU ?_)
         refine Ly (m + 1) (by (try dsimp only); omega) (S6 I I I I I I) (by refine (Sc ?_ (S0 _)) <;> (rfl)) ?_ (by (exact au))
         (try dsimp only)
         exact ⟨hml, az hml hot (Ao.1 hc94)⟩
      ·(try simp only [sB] at hc69)
       refine AT ?_
       obtain rfl : m = (s.es.getD k default).1.2.2.length := by omega
       rw [Ap] at hot
       refine EU ?_
       refine Ly (k + 1) (by (try dsimp only); omega) (S3 I I I) (by refine (Sc ?_ (S0 _)) <;> (rfl)) ?_ (by (exact au))
       (try dsimp only)
       exact ⟨hkl, az hkl hoq ⟨Ao.1 hc64, hot⟩⟩
   ·(try simp only [sB] at hc45)
    refine AT ?_
    obtain rfl : k = s.es.length := by omega
    rw [Ap] at hoq
    refine Xa (Cs (to ?_))
    exact R1 I I (by rw [Ab ⟨hok, hov, eZ.2 hoq⟩]; rfl)
theorem AG {q : QA} {w : World} :
  Cw 220 #[.agg #[.int .i64 q.1.1, .string (S q.1.2.1), .slice q.2.1 q.1.2.2.length q.2.2]] w (.bool (decide (q.1.2.2.length > 64))) := by
 refine En [] [(0, .agg #[.int .i64 q.1.1, .string (S q.1.2.1), .slice q.2.1 q.1.2.2.length q.2.2])] Tryz.func220 I Tryz.ntmps220 I (Ac I (An _)) Fn (DO ?_)
 intro b1
 refine Ka I (Nt (Cs (Kf 2 I u95 I I I .tc u93 ?_)))
 refine Yo I u93 (Yg I (to ?_))
 exact R1 I I (by simp [tup]; omega)
theorem wl {s : SA} {w : World} {ok : Nat → Prop} (hF1 : (Fact.sl s.ga (gps s.gs)).holds ok w) (hF2 : (Fact.sl s.va (vrs s.vs)).holds ok w) (hF3 : (Fact.sl s.ea (qas s.es)).holds ok w) (hs : saL s) :
  Cw 186 #[saV s] w (.int .i64 (if fV s.core then 0 else 6)) := by
 obtain ⟨hlg, hlv, hle, hlt, hlm⟩ := hs
 refine En [Fact.sl s.ga (gps s.gs), Fact.sl s.va (vrs s.vs), Fact.sl s.ea (qas s.es)] [(0, saV s)] Tryz.func186 I Tryz.ntmps186 I (Ac I (An _)) (Fc (ah hF1) (Fc (ah hF2) (Fc (ah hF3) Fn))) (DO ?_)
 intro b1
 refine Ka I (Nt (Cq (WC.joinP (σ := Unit) [(1, _)] (fun gq => [(18, .bool (decide (¬ (s.gs.length ≤ 8 ∧ s.vs.length ≤ 64 ∧ s.es.length ≤ 64))))]) (fun gq => True) (S1 I) ?_ ?_)))
 ·skip
  refine Cg (Kf 0 I u58 I I I .tc u54 ?_)
  refine Yo I u54 (Yg I (Km I (Nc 7 I (fun hg7 => ?_) (fun hg7 => ?_))))
  ·refine T4 I (Yp I (Km I (T4 I (Yp I (Nn (WX.joinP (()) (S1 I) (by refine (Sc ?_ (S0 _)) <;> ((exact congrArg (fun b => some (Value.bool b)) (by symm; apply Am; omega)))) ?_ (fun _ h => h))))))); (try dsimp only); done
  ·refine Kf 1 I u58 I I I .tc u55 ?_; refine Yo I u55 (Yg I (Yq I (Km I (Nc 13 I (fun hg13 => ?_) (fun hg13 => ?_)))))
   ·refine T4 I (Yp I (Nn (WX.joinP (()) (S1 I) (by refine (Sc ?_ (S0 _)) <;> ((exact congrArg (fun b => some (Value.bool b)) (by symm; apply Am; omega)))) ?_ (fun _ h => h)))); (try dsimp only); done
   ·refine Kf 2 I u58 I I I .tc u56 ?_; refine Yo I u56 (Yg I (Yq I (Nn (WX.joinP (()) (S1 I) (by refine (Sc ?_ (S0 _)) <;> ((refine ai rfl ?_; (try dsimp only); (exact Af.2 (by omega))))) ?_ (fun _ h => h))))); (try dsimp only); done
 ·rintro _ hmeet; (try dsimp only at hmeet ⊢)
  refine Ci I (fun hc18 => ?_) (fun hc18 => ?_)
  ·have hr : ¬ fV s.core := fun h => hc18 (by simpa using h.1)
   refine Cs (ne ?_); exact R1 I I (by rw [Aa hr]; rfl)
  ·refine Gg ?_; refine Kf 2 I u58 I I I .tc u56 ?_; refine Kc I (fun w hS => CC (l := s.es) (fk := 220) (cs := #[]) (p := fun q => decide (q.1.2.2.length > 64)) (by (exact hS.sl)) (by exact hle) (by kernel_rfl) (by exact fun x hx w' hb => by rw [zO]; exact AG)) (Nt (Ci I (fun hc21 => ?_) (fun hc21 => ?_)))
   ·have hr : ¬ fV s.core := fun h => by
     obtain ⟨q, hq, hq2⟩ := List.any_eq_true.1 hc21; have := h.2 _ (B4 hq); simp at hq2; omega
    refine Cs (ne ?_); exact R1 I I (by rw [Aa hr]; rfl)
   ·have hr : fV s.core := ⟨by simpa using hc18, eZ.2 fun q hq => by
     have := List.any_eq_false.1 hc21 q hq; simpa using this⟩
    refine Ck (Xa (Cs (to ?_))); exact R1 I I (by rw [Ab hr]; rfl)
theorem rg {α : Type} (l : List α) (p : α → Prop) [DecidablePred p] : (l.any fun x => decide (¬ p x)) = decide (¬ ∀ x ∈ l, p x) := by rw [Bz]; simp
theorem ls {α : Type} (l : List α) (p : α → Prop) [DecidablePred p] : (l.any fun x => decide (p x)) = decide (¬ ∀ x ∈ l, ¬ p x) := by rw [Bz]; simp
instance hasM_appL {a b : List Fact} : oQ (a ++ b) a := ⟨fun _ h => List.mem_append_left _ h⟩
instance hasM_appR {a b c : List Fact} [h : oQ b c] : oQ (a ++ b) c := ⟨fun _ hh => List.mem_append_right _ (h.h _ hh)⟩
theorem BO {t : Tm} {g : Gp} {p : Nat} {w : World} {ok : Nat → Prop} (hF1 : (Fact.sl (some ⟨p, 0, none⟩) (gpC g)).holds ok w) (hg : aU g = 0) (hm8 : g.1.length ≤ 8) :
  Cw 222 #[.agg #[.string (S t.1), .int .i64 t.2.1, .bool t.2.2.1, .string (S t.2.2.2)], .pointer (some ⟨p, 0, none⟩)] w (.bool (decide (¬ elG g t.1))) := by
 refine En [Fact.sl (some ⟨p, 0, none⟩) (gpC g)] [(0, .agg #[.string (S t.1), .int .i64 t.2.1, .bool t.2.2.1, .string (S t.2.2.2)]), (1, .pointer (some ⟨p, 0, none⟩))] Tryz.func222 I Tryz.ntmps222 I (Ac I (Ac I (An _))) (Fc (ah hF1) Fn) (DO ?_)
 intro b2
 refine Ka I (Nt (Cs (Kq I (zy (m := 0) I I .tc u26 I (by kernel_rfl : _ = some 2) I I I (by decide)) ?_)))
 refine Kf 0 I jM I I I .tc u22 ?_
 refine Kc I (fun w hS => iz (g := g) (x := t.1) (by assumption)) (Ns 7 I (v' := .bool (decide (elG g t.1))) (congrArg Value.bool (by simp [hg])) ?_)
 refine Yt I (to ?_)
 exact R1 I I (by (simp [tup]; done))
theorem xI {s : SA} {w : World} {ok : Nat → Prop} (hF1 : (Fact.sl s.ga (gps s.gs)).holds ok w) (hF2 : (Fact.sl s.ea (qas s.es)).holds ok w) (hM : ∀ f ∈ (s.es.map qaF), f.holds ok w) (hs : saL s) (hfo : cO s.core) :
  Cw 187 #[saV s] w (.int .i64 (if elS s.core then 0 else 13)) := by
 obtain ⟨hlg, hlv, hle, hlt, hlm⟩ := hs
 refine En (Fact.sl s.ga (gps s.gs) :: Fact.sl s.ea (qas s.es) :: (s.es.map qaF)) [(0, saV s)] Tryz.func187 I Tryz.ntmps187 I (Ac I (An _)) (Fc (ah hF1) (Fc (ah hF2) (cK hM))) ?_
 refine Cs ?_
 refine EW ?_
 intro b1
 refine Ka I (Nt (Cq (Cs (FF ?_))))
 refine Yo I u54 (Km I (Nt (Cb ?_)))
 refine Lp (σ := Nat) [(1, _), (9, _), (10, _)] (fun gq => [(11, .int .i64 (gq : Int))]) (fun gq => gq ≤ s.gs.length ∧ ∀ g ∈ s.gs.take gq, aU g = 0) (fun gq => s.gs.length - gq) (0) (S3 I I I) (S1 I) (by (try dsimp only); exact ⟨Ai _, by simp⟩) ?_
 rintro i hinv1; (try dsimp only at hinv1 ⊢)
 obtain ⟨hi, hok⟩ := hinv1
 refine Cs (Yl I (Nt (Cq ?_)))
 refine Cd I (fun hc12 => ?_) (fun hc12 => ?_)
 ·(try simp only [sB] at hc12)
  have hil : i < s.gs.length := by omega
  refine E3 ?_
  refine EC ?_
  refine EG ?_
  refine Fx ?_
  intro b4
  refine DQ ?_
  refine Nt (Cs ?_)
  refine Kq I (lda I I .tc u26 I ?_) ?_
  ·kernel_rfl
  refine Ku I (Oc I I (Kv fun w hS => iC (g := s.gs.getD i default))) ?_
  refine Yj I (Nt ?_)
  refine Cd I (fun hc17 => ?_) (fun hc17 => ?_)
  ·(try simp only [sB] at hc17)
   refine Cs (to ?_); refine DS ?_
   exact R1 I I (by rw [Aa (fun h => absurd (h.1 _ (ap _ _ hil)) (by simpa using hc17))]; rfl)
  ·(try simp only [sB] at hc17)
   refine Ck (EU ?_)
   refine Ly (i + 1) (by (try dsimp only); omega) (S3 I I I) (by refine (Sc ?_ (S0 _)) <;> (rfl)) ?_ (by (exact au))
   (try dsimp only)
   exact ⟨hil, az hil hok (by simpa using hc17)⟩
 ·(try simp only [sB] at hc12)
  refine AT ?_
  obtain rfl : i = s.gs.length := by omega
  rw [Ap] at hok
  refine F1 ?_
  refine Yo I u56 (Km I (Nt (Cb ?_)))
  refine Lp (σ := Nat) [(1, _), (20, _), (21, _)] (fun gq => [(22, .int .i64 (gq : Int))]) (fun gq => gq ≤ s.es.length ∧ ∀ q ∈ s.es.take gq, elQ s.gs q.1) (fun gq => s.es.length - gq) (0) (S3 I I I) (S1 I) (by (try dsimp only); exact ⟨Ai _, by simp⟩) ?_
  rintro k hinv2; (try dsimp only at hinv2 ⊢)
  obtain ⟨hk, hoq⟩ := hinv2
  refine Cs (Yl I (Nt (Cq ?_)))
  refine Cd I (fun hc23 => ?_) (fun hc23 => ?_)
  ·(try simp only [sB] at hc23)
   have hkl : k < s.es.length := by omega
   have hkm := ap s.es k hkl
   have hlt1 := hlt _ hkm
   have hfq := (hfo.2.2 _ (B4 hkm)).1.1
   have hgl : (s.es.getD k default).1.1.toNat < s.gs.length := by have := hfq.1; have := hfq.2; simp only [SA.core] at this; omega
   have hg0 := hok _ (ap _ _ hgl)
   have hg8 := hlm _ (ap _ _ hgl)
   refine E3 ?_
   refine EB ?_
   refine EF ?_
   refine E1 ?_
   intro b6
   refine DQ ?_
   refine Nt (Cs (FF ?_))
   refine Kq I (Fa (q := 0) I I u95 I I) (F2 ?_)
   refine Kq I (Ia I I I u54 (by kernel_rfl : _ = some 2) (by assumption) (by (rw [aj _ _ 2 (fun _ => rfl)]; omega))) ?_
   refine EG ?_
   refine Fx ?_
   intro b7
   refine DQ ?_
   refine Nt ?_
   refine WC.joinP (σ := Unit) [(1, _), (20, _), (21, _), (22, _)] (fun gq => [(42, .bool (decide (¬ (elG (s.gs.getD (s.es.getD k default).1.1.toNat default) (s.es.getD k default).1.2.1 ∧ ∀ t ∈ (s.es.getD k default).1.2.2, elG (s.gs.getD (s.es.getD k default).1.1.toNat default) t.1))))]) (fun gq => True) (S4 I I I I) ?_ ?_
   ·skip
    refine Cg ?_
    refine Kq I (lda I I .tc u26 I ?_) ?_
    ·kernel_rfl
    refine Kq I (Fa (q := 1) I I u95 I I) (Em ?_)
    refine Ku I (Oc I I (Kv fun w hS => iz (g := s.gs.getD (s.es.getD k default).1.1.toNat default) (x := (s.es.getD k default).1.2.1) (by exact hg8))) ?_
    refine Ns 35 I (v' := .bool (decide (elG (s.gs.getD (s.es.getD k default).1.1.toNat default) (s.es.getD k default).1.2.1))) (congrArg Value.bool (by exact Af.2 ⟨fun h => h.2, fun h => ⟨hg0, h⟩⟩)) ?_
    refine Yt I (Km I ?_)
    refine Nb 37 I (fun hg37 => ?_) (fun hg37 => ?_)
    ·(try simp only [sB] at hg37)
     refine Fi ?_
     refine WX.joinP (()) (S4 I I I I) (by refine (Sc ?_ (S0 _)) <;> ((refine congrArg (fun b => some (Value.bool b)) ?_; simp [*, -List.getD_eq_getElem?_getD]; done))) ?_ (by (exact fun _ h => h))
     (try dsimp only)
     done
    ·(try simp only [sB] at hg37)
     refine Kq I (Fa (q := 2) I I u95 I I) (Kq I (Ld I I .tc u93) ?_)
     refine Kq I (cW I I I) ?_
     refine Ku I (Oc I I (Kv fun w hS => yu (l := (s.es.getD k default).1.2.2) (fk := 222) (p := fun t => decide (¬ elG (s.gs.getD (s.es.getD k default).1.1.toNat default) t.1)) (hS.more (more := s.es.map qaF) _ (B4 hkm)) (by exact hlt1) (by kernel_rfl) (by exact fun x hx w' hb => by rw [zN]; exact BO (gL hS.os hb) hg0 hg8))) ?_
     refine Ns 41 I (v' := .bool (decide (¬ ∀ t ∈ (s.es.getD k default).1.2.2, elG (s.gs.getD (s.es.getD k default).1.1.toNat default) t.1))) (congrArg Value.bool (by exact rg _ _)) ?_
     refine Yq I (Nn ?_)
     refine WX.joinP (()) (S4 I I I I) (by refine (Sc ?_ (S0 _)) <;> ((refine congrArg (fun b => some (Value.bool b)) ?_; simp [*, -List.getD_eq_getElem?_getD]; done))) ?_ (by (exact fun _ h => h))
     (try dsimp only)
     done
   ·rintro _ hmeet; (try dsimp only at hmeet ⊢)
    refine Cd I (fun hc42 => ?_) (fun hc42 => ?_)
    ·(try simp only [sB] at hc42)
     refine Cs (to ?_); refine DS ?_
     exact R1 I I (by rw [Aa (fun h => absurd (h.2 _ (B4 hkm)) hc42)]; rfl)
    ·(try simp only [sB] at hc42)
     refine Ck (EU ?_)
     refine Ly (k + 1) (by (try dsimp only); omega) (S3 I I I) (by refine (Sc ?_ (S0 _)) <;> (rfl)) ?_ (by (exact au))
     (try dsimp only)
     exact ⟨hkl, az hkl hoq (Ao.1 hc42)⟩
  ·(try simp only [sB] at hc23)
   refine AT ?_
   obtain rfl : k = s.es.length := by omega
   rw [Ap] at hoq
   refine Xa (Cs (to ?_))
   exact R1 I I (by rw [Ab ⟨hok, eZ.2 hoq⟩]; rfl)
theorem BB {v : Bs} {w : World} :
  Cw 224 #[.agg #[.string (S v)]] w (.bool (decide (v = []))) := by
 refine En [] [(0, .agg #[.string (S v)])] Tryz.func224 I Tryz.ntmps224 I (Ac I (An _)) Fn (DO ?_)
 intro b1
 refine Ka I (Nt (Cs (Kf 0 I oW I I I .tc u22 ?_)))
 refine Ys I (to ?_)
 exact GH
theorem BD {g : Gp} {n : Bs} {p : Nat} {w : World} {ok : Nat → Prop} (hF1 : (Fact.sl (some ⟨p, 0, none⟩) [.string (S n)]).holds ok w) :
  Cw 226 #[.agg #[.string (S g.1), .string (S g.2)], .pointer (some ⟨p, 0, none⟩)] w (.bool (decide (g.2 ≠ [] ∧ g.2 ≠ n))) := by
 refine En [Fact.sl (some ⟨p, 0, none⟩) [.string (S n)]] [(0, .agg #[.string (S g.1), .string (S g.2)]), (1, .pointer (some ⟨p, 0, none⟩))] Tryz.func226 I Tryz.ntmps226 I (Ac I (Ac I (An _))) (Fc (ah hF1) Fn) (DO ?_)
 intro b2
 refine Ka I (Nt (Cs (EE ?_)))
 refine Yr I (Km I (Nc 7 I (fun hg7 => ?_) (fun hg7 => ?_)))
 ·refine EE ?_
  refine Kq I (ldf (m := 0) I I .tc u22 I I I) ?_
  refine Yr I (Yp I (to ?_))
  exact GF
 ·refine T4 I (Yq I (to ?_))
  exact GF
theorem BC {t : Tm} {s : SA} {p : Nat} {w : World} {ok : Nat → Prop} (hF1 : (Fact.sl (some ⟨p, 0, none⟩) [.slice s.ga s.gs.length s.gc, .slice s.va s.vs.length s.vc, .slice s.ea s.es.length s.ec]).holds ok w) (hF2 : (Fact.sl s.va (vrs s.vs)).holds ok w) (ht0 : 0 ≤ t.2.1) (ht1 : t.2.1 < s.vs.length) (hlv : s.vs.length ≤ 100000) :
  Cw 227 #[.agg #[.string (S t.1), .int .i64 t.2.1, .bool t.2.2.1, .string (S t.2.2.2)], .pointer (some ⟨p, 0, none⟩)] w (.bool (decide (s.vs.getD t.2.1.toNat default = []))) := by
 refine En [Fact.sl (some ⟨p, 0, none⟩) [.slice s.ga s.gs.length s.gc, .slice s.va s.vs.length s.vc, .slice s.ea s.es.length s.ec], Fact.sl s.va (vrs s.vs)] [(0, .agg #[.string (S t.1), .int .i64 t.2.1, .bool t.2.2.1, .string (S t.2.2.2)]), (1, .pointer (some ⟨p, 0, none⟩))] Tryz.func227 I Tryz.ntmps227 I (Ac I (Ac I (An _))) (Fc (ah hF1) (Fc (ah hF2) Fn)) (DO ?_)
 intro b2
 refine Ka I (Nt (Cs ?_))
 (refine Kq I (cX I I u58 I (by kernel_rfl) (by (try simp only [sN, Int.reduceToNat, Nat.reduceAdd, Nat.reduceMul, Nat.reduceSub]); rfl)) ?_)
 refine Kq I (ldf (m := 1) I I .tc u55 I I I) ?_
 refine Kf 1 I jM I I I .tc u3 ?_
 refine E8 ?_
 (refine Kq I (faf I I oW I (by kernel_rfl) (by (try simp only [sN, Int.reduceToNat, Nat.reduceAdd, Nat.reduceMul, Nat.reduceSub]); rfl)) ?_)
 refine Kq I (lE (l := s.vs) (f := vrC) (sz := 1) t.2.1.toNat 0 I I u22 I (fun _ => rfl) (A0 _).symm (by omega) (by decide) I) ?_
 refine Ys I (to ?_)
 exact GH
theorem xo {s : SA} {w : World} {ok : Nat → Prop} (hF1 : (Fact.sl s.ga (gps s.gs)).holds ok w) (hF2 : (Fact.sl s.va (vrs s.vs)).holds ok w) (hF3 : (Fact.sl s.ea (qas s.es)).holds ok w) (hM : ∀ f ∈ (s.es.map qaF), f.holds ok w) (hs : saL s) (hfo : cO s.core) :
  Cw 188 #[saV s] w (.int .i64 (if kdS s.core then 0 else 10)) := by
 have hs' := hs
 obtain ⟨hlg, hlv, hle, hlt, hlm⟩ := hs
 refine En (Fact.sl s.ga (gps s.gs) :: Fact.sl s.va (vrs s.vs) :: Fact.sl s.ea (qas s.es) :: (s.es.map qaF)) [(0, saV s)] Tryz.func188 I Tryz.ntmps188 I (Ac I (An _)) (Fc (ah hF1) (Fc (ah hF2) (Fc (ah hF3) (cK hM)))) (DO ?_)
 intro b1
 refine Ka I (Nt (Cq (Cs (Kf 1 I u58 I I I .tc u55 ?_))))
 refine Kc I (fun w hS => CB (l := s.vs) (fk := 224) (cs := #[]) (p := fun v => decide (v = [])) (by (exact hS.sl)) (by exact hlv) (by kernel_rfl) (by exact fun x hx w' hb => by rw [zO]; exact BB)) (Ns 8 I (v' := .bool (decide (¬ ∀ v ∈ s.vs, v ≠ []))) (congrArg Value.bool (by exact ls _ _)) ?_)
 refine Eq (fun hc9 => ?_) (fun hc9 => ?_)
 ·have hr : kdS s.core := Or.inl (by (exact Ao.1 hc9))
  refine Cs (ne ?_)
  exact R1 I I (by rw [Ab hr]; rfl)
 ·have hnv : ¬ ∀ v ∈ s.vs, v ≠ [] := hc9
  refine Ck (Xa (Cs (Kq I (lda I I .tc u58 I ?_) ?_)))
  ·kernel_rfl
  refine Kc I (fun w hS => oo (s := s) (by (exact hS.sl)) (by exact hs')) (ET ?_)
  intro b3
  refine Ng I I (st I I I .tc (by kernel_rfl) I ?_ (by (simp only [Av, Aw]; rfl))) ?_
  ·decide
  intro _
  refine Nt (Cq (WC.joinP (σ := Unit) [(1, _)] (fun gq => [(19, .bool (decide (¬ (fK s.gs ≠ [] ∧ ∀ g ∈ s.gs, ¬ (g.2 ≠ [] ∧ g.2 ≠ fK s.gs)))))]) (fun gq => True) (S1 I) ?_ ?_))
  ·skip
   refine Cg (Em ?_); refine Ys I (Km I (Nc 14 I (fun hg14 => ?_) (fun hg14 => ?_)))
   ·refine T4 I (Yp I (Nn (WX.joinP (()) (S1 I) (by refine (Sc ?_ (S0 _)) <;> ((refine ai rfl ?_; (try dsimp only); (simp [*]; done)))) ?_ (fun _ h => h)))); (try dsimp only); done
   ·refine Kf 0 I u58 I I I .tc u54 ?_; refine Kq I (cW I I I) (Kc I (fun w hS => CD (l := s.gs) (fk := 226) (p := fun g => decide (g.2 ≠ [] ∧ g.2 ≠ fK s.gs)) (by (exact hS.sl)) (by exact hlg) (by kernel_rfl) (by exact fun x hx w' hb => by rw [zN]; exact BD (gL hS.os hb))) (Ns 18 I (v' := .bool (decide (¬ ∀ g ∈ s.gs, ¬ (g.2 ≠ [] ∧ g.2 ≠ fK s.gs)))) (congrArg Value.bool (by exact ls _ _)) ?_)); refine Yq I (Nn (WX.joinP (()) (S1 I) (by refine (Sc ?_ (S0 _)) <;> ((refine ai rfl ?_; (try dsimp only); (simp [*]; done)))) ?_ (fun _ h => h))); (try dsimp only); done
  ·rintro _ hmeet; (try dsimp only at hmeet ⊢); refine Ci I (fun hc19 => ?_) (fun hc19 => ?_)
   ·refine Cs (ne ?_); exact R1 I I (by rw [Aa (fun h => h.elim hnv fun h => hc19 h.1)]; rfl)
   ·refine Gg ?_; refine Kf 2 I u58 I I I .tc u56 ?_; refine Yo I u56 (Km I (Nt (Cb (Lp (σ := Nat) [(1, _), (21, _), (22, _)] (fun gq => [(23, .int .i64 (gq : Int))]) (fun gq => gq ≤ s.es.length ∧ ∀ q ∈ s.es.take gq, kdQ s.gs s.vs q.1) (fun gq => s.es.length - gq) (0) (S3 I I I) (S1 I) (by (try dsimp only); exact ⟨Ai _, by simp⟩) ?_)))); rintro k hinv1; (try dsimp only at hinv1 ⊢); obtain ⟨hk, hoq⟩ := hinv1; refine DP (fun hc24 => ?_) (fun hc24 => ?_)
    ·have hkl : k < s.es.length := by omega
     have hkm := ap s.es k hkl; have hlt1 := hlt _ hkm; have hfq := hfo.2.2 _ (B4 hkm); have hgl : (s.es.getD k default).1.1.toNat < s.gs.length := by have := hfq.1.1.1; have := hfq.1.1.2; simp only [SA.core] at this; omega
     have hq0 := hfq.1.1.1; refine E3 ?_; refine EB ?_; refine EF ?_; refine E1 ?_; intro b5; refine DQ ?_; refine Nt (Cq (Cs (Kf 0 I u58 I I I .tc u54 ?_))); refine Kf 0 I u95 I I I .tc u3 ?_; refine EC ?_; (refine Kq I (faf I I u26 I (by kernel_rfl) (by (try simp only [sN, Int.reduceToNat, Nat.reduceAdd, Nat.reduceMul, Nat.reduceSub]); rfl)) ?_); refine FE ?_; refine Yr I (Nt (Ci I (fun hc34 => ?_) (fun hc34 => ?_)))
     ·refine Cx (Xc (Xe (Xa (Cg (Kq I (Rz I I I (by omega)) (Km I (Nn ?_))))))); refine Ly (k + 1) (by (try dsimp only); omega) (S3 I I I) (by refine (Sc ?_ (S0 _)) <;> (rfl)) ?_ (by (exact au)); (try dsimp only); exact ⟨hkl, az hkl hoq (by (exact Or.inl (by simpa using hc34)))⟩
     ·refine Ck (Xa (Cs (Kf 2 I u95 I I I .tc u93 ?_))); refine Kq I (cW I I I) (Kc I (fun w hS => yu (l := (s.es.getD k default).1.2.2) (fk := 227) (p := fun t => decide (s.vs.getD t.2.1.toNat default = [])) (hS.more (more := s.es.map qaF) _ (B4 hkm)) (by exact hlt1) (by kernel_rfl) (by exact fun x hx w' hb => by rw [zN]; exact BC (gL hS.os hb) (gL hS.sl hb) (hfq.2 x hx).1.1 (hfq.2 x hx).1.2 hlv)) (Ns 38 I (v' := .bool (decide (¬ ∀ t ∈ (s.es.getD k default).1.2.2, s.vs.getD t.2.1.toNat default ≠ []))) (congrArg Value.bool (by exact ls _ _)) ?_)); refine Nt (Ci I (fun hc38 => ?_) (fun hc38 => ?_))
      ·refine Cs (to ?_); refine DS ?_; exact R1 I I (by rw [Aa (fun h => h.elim hnv fun h => (h.2 _ (B4 hkm)).elim (fun h => h (by simpa using hc34)) fun h => hc38 h)]; rfl)
      ·refine Ck (Xd (Xa (Cg (Kq I (Rz I I I (by omega)) (Km I (Nn (Ly (k + 1) (by (try dsimp only); omega) (S3 I I I) (by refine (Sc ?_ (S0 _)) <;> (rfl)) ?_ (by (exact au))))))))); (try dsimp only); exact ⟨hkl, az hkl hoq (by (exact Or.inr (by simpa using hc38)))⟩
    ·refine AT ?_; obtain rfl : k = s.es.length := by omega
     rw [Ap] at hoq; refine Xa (Cs (to ?_)); exact R1 I I (by rw [Ab (show kdS s.core from Or.inr ⟨Ao.1 hc19, eZ.2 hoq⟩)]; rfl)
def BX (i : Nat) : Nat := [136, 186, 187, 188].getD i default
def iX (s : Sm) (i : Nat) : Int := [if cO s then 0 else 3, if fV s then 0 else 6, if elS s then 0 else 13, if kdS s then 0 else 10].getD i default
theorem sG {i : Nat} (h : i < 4) : eO Tryz.prog (BX i) = true := by
 rcases i with _ | _ | _ | _ | i
 ·kernel_rfl
 ·kernel_rfl
 ·kernel_rfl
 ·kernel_rfl
 ·omega
theorem mv {s : Sm} (h : iX s 0 = 0) : cO s := by
 have h1 : (if cO s then (0 : Int) else 3) = 0 := h
 split at h1
 ·assumption
 ·simp at h1
theorem zX {s : SA} {w : World} {ok : Nat → Prop} (h1 : (Fact.sl s.ga (gps s.gs)).holds ok w) (h2 : (Fact.sl s.va (vrs s.vs)).holds ok w) (h3 : (Fact.sl s.ea (qas s.es)).holds ok w) (hM : ∀ f ∈ s.es.map qaF, f.holds ok w) (hs : saL s) {i : Nat} (hi : i < 4) (h0 : ∀ j, j < i → iX s.core j = 0) :
  Calls Tryz.prog (BX i) #[saV s] w fun e w' => e = .returned (.int .i64 (iX s.core i)) ∧ Below w.heap.size w w' := by
 rcases i with _ | _ | _ | _ | i
 ·exact uK h1 h2 h3 hM hs
 ·exact wl h1 h2 h3 hs
 ·exact xI h1 h3 hM hs (mv (h0 0 (by decide)))
 ·exact xo h1 h2 h3 hM hs (mv (h0 0 (by decide)))
 ·omega
theorem xW {s : Sm} {i : Nat} (hi : i < 4) (h0 : ∀ j, j < i → iX s j = 0) (h1 : iX s i ≠ 0) : nE s = iX s i := by
 have a0 := h0 0; have a1 := h0 1; have a2 := h0 2
 simp only [iX, C9, D8] at a0 a1 a2
 unfold nE
 rcases i with _ | _ | _ | _ | i
 ·simp only [iX, C9] at h1 ⊢; by_cases h : cO s <;> simp [h] at h1 ⊢
 ·have f0 : cO s := A1 fun h => by simp [h] at a0
  simp only [iX, C9, D8] at h1 ⊢; by_cases h : fV s <;> simp [h, f0] at h1 ⊢
 ·have f0 : cO s := A1 fun h => by simp [h] at a0
  have f1 : fV s := A1 fun h => by simp [h] at a1
  simp only [iX, C9, D8] at h1 ⊢; by_cases h : elS s <;> simp [h, f0, f1] at h1 ⊢
 ·have f0 : cO s := A1 fun h => by simp [h] at a0
  have f1 : fV s := A1 fun h => by simp [h] at a1
  have f2 : elS s := A1 fun h => by simp [h] at a2
  simp only [iX, C9, D8] at h1 ⊢; by_cases h : kdS s <;> simp [h, f0, f1, f2] at h1 ⊢
 ·omega
theorem xV {s : Sm} (h0 : ∀ j, j < 4 → iX s j = 0) : nE s = 0 := by
 have a0 := h0 0 (by decide); have a1 := h0 1 (by decide); have a2 := h0 2 (by decide); have a3 := h0 3 (by decide)
 simp only [iX, C9, D8] at a0 a1 a2 a3
 have f0 : cO s := A1 fun h => by simp [h] at a0
 have f1 : fV s := A1 fun h => by simp [h] at a1
 have f2 : elS s := A1 fun h => by simp [h] at a2
 have f3 : kdS s := A1 fun h => by simp [h] at a3
 simp [nE, f0, f1, f2, f3]
theorem xA (v : Value) : (#[] : Array Value) ++ [v].toArray ++ #[] = #[v] := by simp
theorem uw {s : SA} {w : World} {ok : Nat → Prop} (hF1 : (Fact.sl s.ga (gps s.gs)).holds ok w) (hF2 : (Fact.sl s.va (vrs s.vs)).holds ok w) (hF3 : (Fact.sl s.ea (qas s.es)).holds ok w) (hM : ∀ f ∈ (s.es.map qaF), f.holds ok w) (hs : saL s) :
  Cw 139 #[saV s] w (.int .i64 (nE s.core)) := by
 refine En (Fact.sl s.ga (gps s.gs) :: Fact.sl s.va (vrs s.vs) :: Fact.sl s.ea (qas s.es) :: (s.es.map qaF)) [(0, saV s)] Tryz.func139 I Tryz.ntmps139 I (Ac I (An _)) (Fc (ah hF1) (Fc (ah hF2) (Fc (ah hF3) (cK hM)))) (DO ?_)
 intro b1
 refine Ka I (Nt (Cq (Cs (Kq I (Kb [[.nilFunc], [.nilFunc], [.nilFunc], [.nilFunc]] I I) (Km I (Nt (Cb (Lp (σ := Nat) [(1, _), (6, _)] (fun gq => [(7, .int .i64 (gq : Int))]) (fun gq => gq ≤ 4 ∧ ∀ j, j < gq → iX s.core j = 0) (fun gq => 4 - gq) (0) (S2 I I) (S1 I) (by (try dsimp only); exact ⟨Ai _, fun _ h => absurd h (Ea _)⟩) ?_))))))))
 rintro i hinv1; (try dsimp only at hinv1 ⊢)
 obtain ⟨hi, hok⟩ := hinv1
 refine DP (fun hc8 => ?_) (fun hc8 => ?_)
 ·have hil : i < 4 := by omega
  refine Ck (Xa (Cq (Cb (Cs (Kq I (jY I I I CU CV I (by kernel_rfl) ?_ (by rw [At]; exact f9 [136, 186, 187, 188] (fun k : Nat => Value.func (.func k) #[] #[]) i hil)) ?_)))))
  ·omega
  refine Ka I (Nt (Cs (Km I (Kq I (lda I I .tc u58 I ?_) ?_))))
  ·kernel_rfl
  refine Ku I (aN I I I (sG hil) (xA _) (Kv fun w hS => zX hS.sl hS.sl hS.sl hS.more hs hil hok)) (DT ?_); refine EL (fun hc14 => ?_) (fun hc14 => ?_)
  ·have hr := xW hil hok hc14; refine Cs (Km I (to ?_)); refine DS ?_; exact Gz
  ·refine Ck (Xd (Xa (Cg (Kq I (Rz I I I (by omega)) (Km I (Nn (Ly (i + 1) (by (try dsimp only); omega) (S2 I I) (by refine (Sc ?_ (S0 _)) <;> (rfl)) ?_ (fun _ h => h)))))))); (try dsimp only); exact ⟨hil, fun j hj => by rcases C4.1 hj with h | h; exact hok j h; subst h; simpa using hc14⟩
 ·refine AT ?_
  obtain rfl : i = 4 := by omega
  refine Xa (Cs (to ?_))
  exact R1 I I (by rw [xV hok]; rfl)
theorem AL {x : Zs} {w : World} :
  Cw 138 #[.agg #[.bool x.1, .string (S x.2)]] w (.bool (decide (¬ okZ x))) := by
 refine En [] [(0, .agg #[.bool x.1, .string (S x.2)])] Tryz.func138 I Tryz.ntmps138 I (Ac I (An _)) Fn (DO ?_)
 intro b1
 refine Ka I (Nt (Cs (Kq I (lda I I .tc u37 I ?_) ?_)))
 ·kernel_rfl
 refine Kc I (fun w hS => dY (x := x)) (Yt I (to ?_))
 exact R1 I I (by (simp [tup]; done))
theorem wL {s : SA} {ws : List Zs} {a : Option Addr} {c : Nat} {w : World} {ok : Nat → Prop} (hF1 : (Fact.sl s.ga (gps s.gs)).holds ok w) (hF2 : (Fact.sl s.va (vrs s.vs)).holds ok w) (hF3 : (Fact.sl s.ea (qas s.es)).holds ok w) (hF4 : (Fact.sl a (aZ ws)).holds ok w) (hM : ∀ f ∈ (s.es.map qaF), f.holds ok w) (hs : saL s) (hw : ws.length ≤ 100000) :
  Cw 78 #[saV s, .slice a ws.length c] w (.int .i64 (jO s.core ws)) := by
 refine En (Fact.sl s.ga (gps s.gs) :: Fact.sl s.va (vrs s.vs) :: Fact.sl s.ea (qas s.es) :: Fact.sl a (aZ ws) :: (s.es.map qaF)) [(0, saV s), (1, .slice a ws.length c)] Tryz.func78 I Tryz.ntmps78 I (Ac I (Ac I (An _))) (Fc (ah hF1) (Fc (ah hF2) (Fc (ah hF3) (Fc (ah hF4) (cK hM))))) (DO ?_)
 intro b2
 refine Ka I (Nt (Cq (WC.joinP (σ := Unit) [(1, _), (2, _)] (fun gq => [(12, .bool (decide (¬ (cO s.core ∧ ∀ x ∈ ws, okZ x))))]) (fun gq => True) (S2 I I) ?_ ?_)))
 ·skip
  refine Cg (Kq I (lda I I .tc u58 I ?_) ?_)
  ·kernel_rfl
  refine Kc I (fun w hS => uK (s := s) (by (exact hS.sl)) (by (exact hS.sl)) (by (exact hS.sl)) (by (exact hS.more)) (by exact hs)) (Yj I (Ns 8 I (v' := .bool (decide (¬ cO s.core))) (congrArg Value.bool (by split <;> simp_all)) ?_))
  refine Km I (Nc 9 I (fun hg9 => ?_) (fun hg9 => ?_))
  ·refine T2 I (Yp I (Nn (WX.joinP (()) (S2 I I) (by refine (Sc ?_ (S0 _)) <;> ((refine ai rfl ?_; (try dsimp only); (simp [*]; done)))) ?_ (fun _ h => h)))); (try dsimp only); done
  ·refine Km I (Kc I (fun w hS => CA (l := ws) (fk := 138) (cs := #[]) (p := fun x => decide (¬ okZ x)) (by (exact hS.sl)) (by exact hw) (by kernel_rfl) (by exact fun x hx w' hb => by rw [zO]; exact AL)) (Ns 11 I (v' := .bool (decide (¬ ∀ x ∈ ws, okZ x))) (congrArg Value.bool (by exact rg _ _)) ?_)); refine Yq I (Nn (WX.joinP (()) (S2 I I) (by refine (Sc ?_ (S0 _)) <;> ((refine ai rfl ?_; (try dsimp only); (simp [*]; done)))) ?_ (fun _ h => h))); (try dsimp only); done
 ·rintro _ hmeet; (try dsimp only at hmeet ⊢)
  refine Ci I (fun hc12 => ?_) (fun hc12 => ?_)
  ·have hr : jO s.core ws = 3 := by
    rw [jO]; by_cases h : cO s.core
    ·rw [Aa (fun h2 => h2 h), Ab (fun h2 => hc12 ⟨h, h2⟩)]
    ·rw [Ab h]
   refine Cs (ne ?_); exact Gz
  ·obtain ⟨hf1, hz1⟩ := Ao.1 hc12; refine Ck (Xa (Cq (Cs (Kq I (lda I I .tc u58 I ?_) ?_))))
   ·kernel_rfl
   refine Kc I (fun w hS => uw (s := s) (by (exact hS.sl)) (by (exact hS.sl)) (by (exact hS.sl)) (by (exact hS.more)) (by exact hs)) (DT ?_); refine EL (fun hc16 => ?_) (fun hc16 => ?_)
   ·refine Cs (Km I (ne ?_)); exact R1 I I (by rw [jO, Aa (fun h => h hf1), Aa (fun h => h hz1), Ab (by simpa using hc16)]; rfl)
   ·have hk0 : nE s.core = 0 := by simpa using hc16
    refine Fe ?_; refine Yo I u39 (Kf 1 I u58 I I I .tc u55 ?_); refine Yo I u55 (EL (fun hc23 => ?_) (fun hc23 => ?_))
    ·refine Cs (ne ?_); exact R1 I I (by rw [jO, Aa (fun h => h hf1), Aa (fun h => h hz1), Aa (fun h => h hk0), Ab (fun h => hc23 (by rw [h]))]; rfl)
    ·refine Ck (Xa (Cs (to ?_))); exact R1 I I (by rw [jO, Aa (fun h => h hf1), Aa (fun h => h hz1), Aa (fun h => h hk0), Aa (fun h => h (show ws.length = s.vs.length by omega))]; rfl)
section
variable {P : Program} {ok : Nat → Prop} {w0 w : World} {own : List Ent} {fs : List Fact} {γ : Type} {f : FuncId} {args : Array Value} {val : γ → Value} {p : γ → Prop} {F : γ → List Fact} {xs : List Value}
theorem nu (h : ∀ w, St ok w0 own fs w → Calls P f args w (fun e w' => ∃ g, e = .returned (val g) ∧ p g ∧ Below w.heap.size w w' ∧ ∀ x ∈ F g, x.holds (fun b => w.heap.size ≤ b) w')) :
  ∀ w, St ok w0 own fs w → Calls P f args w (fun e w' => ∃ g, e = .returned (val g) ∧ p g ∧ St ok w0 own (F g ++ fs) w') :=
 iN fun w hS => (h w hS).mono fun _ w' ⟨g, he, hp, hb, hF⟩ => ⟨g, he, hp, hb, fun x hx => x.mono (fun _ h => .inr h) (hF x hx)⟩
theorem St.ocf (h : St ok w0 own fs w) {ob : Option Nat} {sp : List Value} {T : TypeId} {C : Ent → List Ent} [hf : HasC own ob (xs ++ sp) T C] : (Fact.sl (ob.map fun b => ⟨b, 0, none⟩) xs).holds (fun b => w0.heap.size ≤ b) w := by
 obtain ⟨k, hk, _⟩ := hf.h.get
 have := h.own_ _ (A9 hk)
 cases ob with
 | none => exact .inl (by have h1 : xs ++ sp = [] := this; simp at h1; exact h1.1)
 | some b =>
  refine .inr ⟨b, 0, (xs ++ sp).toArray, T, (0, 0), rfl, this.1, this.2, fun i hi => ?_⟩
  rw [Az, De, B5 hi]
end
section
variable {ds : List Deferred} {P : Program} {ops l : List Oper} {Q : Exit → Act → World → Prop} {n : Nat} {L : ak} {ok : Nat → Prop} {w0 : World} {own : List Ent} {fs : List Fact} {x y : Fact}
theorem WL.fa2 (k : WL ds P ops Q n l L (St ok w0 own (x :: y :: fs))) : WL ds P ops Q n l L (St ok w0 own ([x, y] ++ fs)) := k
end
def bsQ (ws : List Zs) (q : Qn) : List Bs := if (exQ ws q).2 ≠ 0 then [] else q.2.2.map (·.1)
theorem pC {ws : List Zs} {q : Qn} {i : Nat} (h : i < q.2.2.length) (h0 : ∀ t ∈ q.2.2.take i, (exT ws t).2 = 0) (h1 : (exT ws (q.2.2.getD i default)).2 ≠ 0) : exQ ws q = ([], (exT ws (q.2.2.getD i default)).2) := by
 rw [exQ, qO h h0 h1, Ab h1]
theorem uS {ws : List Zs} {q : Qn} (h0 : ∀ t ∈ q.2.2, (exT ws t).2 = 0) : exQ ws q = (q.2.2.map fun t => (exT ws t).1, 0) := by
 rw [exQ, oD h0, Aa (by decide)]
theorem vZ {l : List Tm} {i : Nat} (h : i < l.length) : an ((l.take (i + 1)).map (·.1)) = an ((l.take i).map (·.1)) ++ [.string (S (l.getD i default).1)] := by
 rw [aV h, B7]; simp [an]
theorem wa {l : List Tm} (f : Tm → Zs) {i : Nat} (h : i < l.length) : aZ ((l.take (i + 1)).map f) = aZ ((l.take i).map f) ++ zc (f (l.getD i default)) := by
 rw [aV h, B7]; simp
theorem vo {ws : List Zs} {q : Qn} {i : Nat} (h : i < q.2.2.length) (h0 : ∀ t ∈ q.2.2.take i, (exT ws t).2 = 0) (h1 : (exT ws (q.2.2.getD i default)).2 ≠ 0) : bsQ ws q = [] := by
 rw [bsQ, pC h h0 h1, Ab h1]
theorem sE {q : QA} {ws : List Zs} {p : Nat} {a : Option Addr} {c : Nat} {w : World} {ok : Nat → Prop} (hF1 : (Fact.sl (some ⟨p, 0, none⟩) [.slice a ws.length c]).holds ok w) (hF2 : (Fact.sl a (aZ ws)).holds ok w) (hF3 : (Fact.sl q.2.1 (tms q.1.2.2)).holds ok w) (hw : ws.length ≤ 100000) (hl : q.1.2.2.length ≤ 100000) (ht : ∀ t ∈ q.1.2.2, 0 ≤ t.2.1 ∧ t.2.1 < ws.length) :
  Calls Tryz.prog 141 #[.agg #[.int .i64 q.1.1, .string (S q.1.2.1), .slice q.2.1 q.1.2.2.length q.2.2], .pointer (some ⟨p, 0, none⟩)] w fun e w' => ∃ gx : Rs × Rs, e = .returned (.tuple #[gx.1.val (bsQ ws q.1).length, gx.2.val (exQ ws q.1).1.length, .int .i64 (exQ ws q.1).2]) ∧ (True) ∧ Below w.heap.size w w' ∧ ∀ x ∈ ([Fact.sl gx.1.a (an (bsQ ws q.1)), Fact.sl gx.2.a (aZ (exQ ws q.1).1)] : List Fact), x.holds (fun b => w.heap.size ≤ b) w' := by
 refine En [Fact.sl (some ⟨p, 0, none⟩) [.slice a ws.length c], Fact.sl a (aZ ws), Fact.sl q.2.1 (tms q.1.2.2)] [(0, .agg #[.int .i64 q.1.1, .string (S q.1.2.1), .slice q.2.1 q.1.2.2.length q.2.2]), (1, .pointer (some ⟨p, 0, none⟩))] Tryz.func141 I Tryz.ntmps141 I (Ac I (Ac I (An _))) (Fc (ah hF1) (Fc (ah hF2) (Fc (ah hF3) Fn))) (DO ?_)
 intro b2
 refine Ka I (Ka I (Ka I (Nt (Cs (Ka I (Nt (Cs (Ka I (Nt (Cq (Cs (Kf 2 I u95 I I I .tc u93 ?_))))))))))))
 refine Yo I u93 (Km I (Nt (Cb (Lo (σ := Nat × (Option Nat) × Nat × (List Value) × (Option Nat) × Nat × (List Value)) [(1, _), (13, _), (14, _)] (fun gq => [(6, .slice (gq.2.1.map fun b => ⟨b, 0, none⟩) gq.1 gq.2.2.1), (7, .slice (gq.2.2.2.2.1.map fun b => ⟨b, 0, none⟩) gq.1 gq.2.2.2.2.2.1), (15, .int .i64 (gq.1 : Int))]) (fun gq => (gq.1 ≤ q.1.2.2.length ∧ gq.2.2.1 = gq.1 + gq.2.2.2.1.length ∧ gq.2.2.2.2.2.1 * 2 = gq.1 * 2 + gq.2.2.2.2.2.2.length) ∧ ∀ t ∈ q.1.2.2.take gq.1, (exT ws t).2 = 0) (fun gq => q.1.2.2.length - gq.1) (fun gq => [⟨gq.2.2.2.2.1, aZ ((q.1.2.2.take gq.1).map fun t => (exT ws t).1) ++ gq.2.2.2.2.2.2, 37⟩, ⟨gq.2.1, an ((q.1.2.2.take gq.1).map (·.1)) ++ gq.2.2.2.1, 22⟩, ⟨some b2, [.int .i64 q.1.1, .string (S q.1.2.1), .slice q.2.1 q.1.2.2.length q.2.2], 95⟩]) (fun gq => [Fact.sl (some ⟨p, 0, none⟩) [.slice a ws.length c], Fact.sl a (aZ ws), Fact.sl q.2.1 (tms q.1.2.2)]) (0, none, 0, [], none, 0, []) (S3 I I I) (S3 I I I) (by (try dsimp only); exact ⟨⟨Ai _, rfl, rfl⟩, by simp⟩) (by exact fun w h => (h.nil _).nil _) ?_))))
 rintro ⟨i, o, cp, sp, o2, cp2, sp2⟩ hinv1; (try dsimp only at hinv1 ⊢)
 obtain ⟨⟨hi, hcp, hcp2⟩, hok⟩ := hinv1
 refine DP (fun hc16 => ?_) (fun hc16 => ?_)
 ·have hil : i < q.1.2.2.length := by omega
  have htm := ht _ (ap _ _ hil)
  have htl : (q.1.2.2.getD i default).2.1.toNat < ws.length := by omega
  refine E3 ?_; refine Fj ?_
  refine Fp ?_
  refine Kh I (Oz [.string (S []), .int .i64 0, .bool false, .string (S [])] I) ?_
  intro b9
  refine DQ ?_; refine Nt (Cq (Cf [0, 1, 2, 3, 4, 5, 6, 7, 8, 9, 11, 12, 10, 13] [] [0, 0, 0, 0, 0, 0, 0, 1, 0, 0, 0, 3, 1, 0] (by kernel_rfl) (by kernel_rfl) I ?_))
  refine Kj I (Fa (q := 2) I I jM I I) ?_
  refine Fb ?_
  refine Kj I (ldf (m := 0) I I .tc u39 I I I) ?_
  refine Kj I (Fa (q := 1) I I jM I I) (Kj I (Ld I I .tc u3) ?_)
  refine Kj I (Ia I I I u39 (by kernel_rfl : _ = some 2) (by assumption) (by (rw [aj _ _ 2 (fun _ => rfl)]; omega))) ?_
  refine Fl ?_
  refine Jv I I I I I (fun ext => Oc I I (Kv fun w hS => oR (x := (q.1.2.2.getD i default).2.2) (y := ws.getD (q.1.2.2.getD i default).2.1.toNat default))) ?_
  refine ER ?_; refine F3 ?_
  refine DV ?_
  intro b10
  refine WJ.st I I I I (gS I I I ?_ ?_ ?_) ?_
  ·kernel_rfl
  ·simp [Value.oneCell']
  ·rfl
  refine F3 ?_; refine ES ?_
  refine WJ.nil ?_
  refine Nt (Cq (Cs (Km I (EL (fun hc31 => ?_) (fun hc31 => ?_)))))
  ·refine Cs (Km I (Ka I (Ka I (ne ?_)))); refine DS ?_; exact Rn I (.tmp I (.tmp I (.tmp I .nil))) fun w' hS => ⟨(⟨none, 0, []⟩, ⟨none, 0, []⟩), by rw [vo hil hok hc31, pC hil hok hc31]; rfl, trivial, hS.below, by rw [vo hil hok hc31, pC hil hok hc31]; exact Fc cU (Fc cU Fn)⟩
  ·have hx0 : (exT ws (q.1.2.2.getD i default)).2 = 0 := by simpa [exT] using hc31
   have hln : (aZ ((q.1.2.2.take i).map fun t => (exT ws t).1)).length = i * 2 := by rw [aj _ _ 2 (fun _ => rfl), Ag, Bp]; omega
   have hls : (an ((q.1.2.2.take i).map (·.1))).length = i := by simp [an]; omega
   refine Ck (Xa (WC.free (K := [⟨some b10, [.bool (bP (q.1.2.2.getD i default).2.2 (ws.getD (q.1.2.2.getD i default).2.1.toNat default)).1.1, .string (S (bP (q.1.2.2.getD i default).2.2 (ws.getD (q.1.2.2.getD i default).2.1.toNat default)).1.2)], 37⟩, ⟨some b9, [.string (S (q.1.2.2.getD i default).1), .int .i64 (q.1.2.2.getD i default).2.1, .bool (q.1.2.2.getD i default).2.2.1, .string (S (q.1.2.2.getD i default).2.2.2)], 122⟩]) (fs0 := []) [0, 1, 2, 3, 4, 5, 6, 7, 8, 9, 10] [] [0, 0, 0, 3, 1, 0, 0, 3, 1, 0, 0] (by kernel_rfl) (by kernel_rfl) I ?_)); refine ER ?_; refine Kj I (Fa (q := 0) I I jM I I) (DY ?_); refine Jf I I I I I (ia I I u31 (by kernel_rfl : _ = some (some (.string (S [])), 1, 16)) I (by simp only [List.map]; rfl) I I ?_ (by decide)) ?_
   ·simp [Value.cells]
   intro b36; refine Jg I I I I I (oK I u31 (by kernel_rfl : _ = some (some (.string (S [])), 1, 16)) I .tc I I (fun ext w hS => by (exact hS.os)) (by rfl) (by refine ⟨?_, ?_, ?_, ?_⟩ <;> first | exact hls | (try simp) <;> omega) (by (simp [Value.oneCell']; done))) ?_; rintro ⟨o37, c37, s37⟩ hg37; (try dsimp only at hg37 ⊢); refine Kj I (Rm I I) ?_; refine Kj I (lda I I .tc u37 I ?_) ?_
   ·kernel_rfl
   refine Jf I I I I I (hO I I u39 (by kernel_rfl : _ = some (some (.agg #[.bool false, .string (S [])]), 2, 24)) (by kernel_rfl) (by decide) I I (by (simp [Value.cells]; done)) (by (exact cP _)) (by decide)) ?_; intro b40; refine Jg I I I I I (nL I u39 (by kernel_rfl : _ = some (some (.agg #[.bool false, .string (S [])]), 2, 24)) (by kernel_rfl) (by decide) .tc I I (fun ext w hS => by (exact hS.os)) (by rfl) (by refine ⟨?_, ?_, ?_, ?_⟩ <;> first | exact hln | omega) (by (simp [Value.oneCell']; done))) ?_; rintro ⟨o41, c41, s41⟩ hg41; (try dsimp only at hg41 ⊢); refine Kj I (Ra I I) (Kj I (Ra I I) ?_); refine WJ.nil ?_; refine Nn (Xd (Xa (Cg (Kq I (Rz I I I (by omega)) (Km I (Nn (Lx ((i + 1, o37, c37, s37, o41, c41, s41)) (by (try dsimp only); omega) (S3 I I I) (by refine (Sc ?_ (Sc ?_ (Sc ?_ (S0 _)))) <;> (rfl)) ?_ (by exact fun w h => by rw [vZ hil, wa _ hil]; exact au _ h)))))))); (try dsimp only); exact ⟨⟨hil, by omega, by omega⟩, az hil hok hx0⟩
 ·refine AT ?_
  obtain rfl : i = q.1.2.2.length := by omega
  rw [Ap] at hok
  rw [Ap]
  refine Xa (FS ?_); refine Ka I (Ka I (to ?_))
  exact Rn I (.tmp I (.tmp I (.tmp I .nil))) fun w' hS => ⟨(⟨o, cp, sp⟩, ⟨o2, cp2, sp2⟩), by rw [bsQ, uS hok, Aa (fun h => h rfl), Ag, Ag]; rfl, trivial, hS.below, by rw [bsQ, uS hok, Aa (fun h => h rfl)]; exact Fc hS.ocf (Fc hS.ocf Fn)⟩
theorem sn {s : SA} {ws : List Zs} {a : Option Addr} {c : Nat} {w : World} {ok : Nat → Prop} (hF1 : (Fact.sl s.ga (gps s.gs)).holds ok w) (hF2 : (Fact.sl s.va (vrs s.vs)).holds ok w) (hF3 : (Fact.sl a (aZ ws)).holds ok w) (hs : saL s) (hw : ws.length = s.vs.length) (hfo : cO s.core) (hz : ∀ x ∈ ws, okZ x) :
  Cw 79 #[saV s, .slice a ws.length c] w (.bool (decide (inR s.core ws))) := by
 have hs' := hs
 obtain ⟨hlg, hlv, hle, hlt, hlm⟩ := hs
 have hoo : okN (fK s.gs) := uf hfo.1
 refine En [Fact.sl s.ga (gps s.gs), Fact.sl s.va (vrs s.vs), Fact.sl a (aZ ws)] [(0, saV s), (1, .slice a ws.length c)] Tryz.func79 I Tryz.ntmps79 I (Ac I (Ac I (An _))) (Fc (ah hF1) (Fc (ah hF2) (Fc (ah hF3) Fn))) (DO ?_)
 intro b2
 refine Ka I (Nt (Cq (Cs (Kf 1 I u58 I I I .tc u55 ?_))))
 refine Yo I u55 (Km I (Nt (Cb (Lp (σ := Nat) [(1, _), (2, _), (9, _), (10, _)] (fun gq => [(11, .int .i64 (gq : Int))]) (fun gq => gq ≤ s.vs.length ∧ ∀ j, j < gq → inV (fK s.gs) (s.vs.getD j default) (ws.getD j default)) (fun gq => s.vs.length - gq) (0) (S4 I I I I) (S1 I) (by (try dsimp only); exact ⟨Ai _, fun _ h => absurd h (Ea _)⟩) ?_))))
 rintro i hinv1; (try dsimp only at hinv1 ⊢)
 obtain ⟨hi, hok⟩ := hinv1
 refine DP (fun hc12 => ?_) (fun hc12 => ?_)
 ·have hil : i < s.vs.length := by omega
  have hwl : i < ws.length := by omega
  have hov : okN (s.vs.getD i default) := hfo.2.1 _ (ap _ _ hil)
  have hoz := (hz _ (ap _ _ hwl)).1
  refine El ?_; refine E8 ?_
  refine Ff ?_
  refine Kh I (Oz [.string (S [])] I) ?_
  intro b6
  refine Ka I (DQ ?_); refine Nt (Cs (Kf 0 I oW I I I .tc u22 ?_))
  refine DR ?_; refine Fu (fun hc19 => ?_) (fun hc19 => ?_)
  ·have hv0 : s.vs.getD i default = [] := by simpa using hc19
   refine Cs (Kq I (lda I I .tc u58 I ?_) ?_)
   ·kernel_rfl
   refine Kc I (fun w hS => oo (s := s) (by (exact hS.sl)) (by exact hs')) (DT ?_); refine Km I (DX ?_); (refine Kq I (faf I I u37 I (by kernel_rfl) (by (try simp only [sN, Int.reduceToNat, Nat.reduceAdd, Nat.reduceMul, Nat.reduceSub]); rfl)) ?_); refine Kq I (lE (sz := 2) _ 0 I I u4 I (fun _ => rfl) I (by assumption) (by decide) I) ?_; refine Nt (Ci I (fun hc26 => ?_) (fun hc26 => ?_))
   ·have hn : ¬ inR s.core ws := fun h => by
     have h1 := h i hil; rw [inV, Ab hv0] at h1; rw [h1.1] at hc26; cases hc26
    refine Cs (ne ?_); refine DS ?_; exact GZ
   ·refine EN ?_; refine DX ?_; (refine Kq I (faf I I u37 I (by kernel_rfl) (by (try simp only [sN, Int.reduceToNat, Nat.reduceAdd, Nat.reduceMul, Nat.reduceSub]); rfl)) ?_); refine FE ?_; refine Km I (Kc I (fun w hS => el (a := (ws.getD i default).2)) (E7 (fun hc34 => ?_) (fun hc34 => ?_)))
    ·have hn : ¬ inR s.core ws := fun h => by
      have h1 := h i hil; rw [inV] at h1; simp only [SA.core] at h1; (rw [Ab hv0] at h1; rw [aB hoz hoo] at hc34; have := (dk _ _).1 hc34; have h2 := h1.2; omega)
     refine Cs (to ?_); refine DS ?_; exact GZ
    ·have hlt : inV (fK s.gs) (s.vs.getD i default) (ws.getD i default) := by
      rw [inV]; (rw [Ab hv0]; rw [aB hoz hoo, ] at hc34; exact ⟨by simpa using hc26, (ax _ _).1 (by omega)⟩)
     refine Ck (Xd (Xa (Cg (Kq I (Rz I I I (by omega)) (Km I (Nn (Ly (i + 1) (by (try dsimp only); omega) (S4 I I I I) (by refine (Sc ?_ (S0 _)) <;> (rfl)) ?_ (by (exact au))))))))); (try dsimp only); exact ⟨hil, fun j hj => by rcases C4.1 hj with h | h; exact hok j h; subst h; exact hlt⟩
  ·have hv0 : s.vs.getD i default ≠ [] := by simpa using hc19
   refine EN ?_; refine DX ?_; (refine Kq I (faf I I u37 I (by kernel_rfl) (by (try simp only [sN, Int.reduceToNat, Nat.reduceAdd, Nat.reduceMul, Nat.reduceSub]); rfl)) ?_); refine FE ?_; refine Km I (Kc I (fun w hS => el (a := (ws.getD i default).2)) (E7 (fun hc34 => ?_) (fun hc34 => ?_)))
   ·have hn : ¬ inR s.core ws := fun h => by
     have h1 := h i hil; rw [inV] at h1; simp only [SA.core] at h1; (rw [Aa hv0] at h1; rw [aB hoz hov] at hc34; have := (dk _ _).1 hc34; omega)
    refine Cs (to ?_); refine DS ?_; exact GZ
   ·have hlt : inV (fK s.gs) (s.vs.getD i default) (ws.getD i default) := by
     rw [inV]; (rw [Aa hv0]; rw [aB hoz hov] at hc34; exact (ax _ _).1 (by omega))
    refine Ck (Xd (Xa (Cg (Kq I (Rz I I I (by omega)) (Km I (Nn (Ly (i + 1) (by (try dsimp only); omega) (S4 I I I I) (by refine (Sc ?_ (S0 _)) <;> (rfl)) ?_ (by (exact au))))))))); (try dsimp only); exact ⟨hil, fun j hj => by rcases C4.1 hj with h | h; exact hok j h; subst h; exact hlt⟩
 ·refine AT ?_
  obtain rfl : i = s.vs.length := by omega
  refine Xa (Cs (to ?_))
  exact R1 I I (by rw [Am (show inR s.core ws from fun j hj => hok j hj)]; rfl)
theorem nx {s : SA} {ws : List Zs} {i : Nat} (h : i < s.es.length) (h0 : ∀ q ∈ s.es.take i, (imQ s.gs ws q.1).2 = 0) (h1 : (imQ s.gs ws (s.es.getD i default).1).2 ≠ 0) : imS s.core ws = ([], (imQ s.gs ws (s.es.getD i default).1).2) := by
 have e : gU (s.core.2.2.map fun q => (imQ s.core.1 ws q).2) = (imQ s.gs ws (s.es.getD i default).1).2 := by
  rw [← qO (f := fun q : QA => (imQ s.gs ws q.1).2) h h0 h1, List.map_map]; rfl
 rw [imS, e, Ab h1]
theorem uD {s : SA} {ws : List Zs} (h0 : ∀ q ∈ s.es, (imQ s.gs ws q.1).2 = 0) : imS s.core ws = (s.es.map fun q => (imQ s.gs ws q.1).1, 0) := by
 have e : gU (s.core.2.2.map fun q => (imQ s.core.1 ws q).2) = 0 := oD fun q hq => by
  obtain ⟨x, hx, rfl⟩ := B9.1 hq; exact h0 x hx
 rw [imS, e, Aa (fun h => h rfl), List.map_map]; rfl
theorem xu {gs : List Gp} {ws : List Zs} {q : Qn} (h : (exQ ws q).2 ≠ 0) : imQ gs ws q = ([], (exQ ws q).2) := by rw [imQ, Ab h]
theorem zF {gs : List Gp} {ws : List Zs} {q : Qn} (h : (exQ ws q).2 = 0) : imQ gs ws q = bL (gs.getD q.1.toNat default) (bsQ ws q) (exQ ws q).1 := by rw [imQ, bsQ, Aa (fun h2 => h2 h), Aa (fun h2 => h2 h)]
theorem wZ {l : List QA} (f : QA → Bs) {i : Nat} (h : i < l.length) : an ((l.take (i + 1)).map f) = an ((l.take i).map f) ++ [.string (S (f (l.getD i default)))] := by
 rw [aV h, B7]; simp [an]
theorem x8 {ws : List Zs} {q : Qn} : (bsQ ws q).length ≤ q.2.2.length := by rw [bsQ]; split <;> simp
theorem xG {ws : List Zs} {q : Qn} : (exQ ws q).1.length ≤ q.2.2.length := by rw [exQ]; split <;> simp
theorem uC {s : SA} {ws : List Zs} {a : Option Addr} {c : Nat} {w : World} {ok : Nat → Prop} (hF1 : (Fact.sl s.ga (gps s.gs)).holds ok w) (hF2 : (Fact.sl s.ea (qas s.es)).holds ok w) (hF3 : (Fact.sl a (aZ ws)).holds ok w) (hM : ∀ f ∈ (s.es.map qaF), f.holds ok w) (hs : saL s) (hw : ws.length = s.vs.length) (hfo : cO s.core) :
  Calls Tryz.prog 80 #[saV s, .slice a ws.length c] w fun e w' => ∃ gx : Rs, e = .returned (.tuple #[gx.val (imS s.core ws).1.length, .int .i64 (imS s.core ws).2]) ∧ (True) ∧ Below w.heap.size w w' ∧ ∀ x ∈ ([Fact.sl gx.a (an (imS s.core ws).1)] : List Fact), x.holds (fun b => w.heap.size ≤ b) w' := by
 obtain ⟨hlg, hlv, hle, hlt, hlm⟩ := hs
 refine En (Fact.sl s.ga (gps s.gs) :: Fact.sl s.ea (qas s.es) :: Fact.sl a (aZ ws) :: (s.es.map qaF)) [(0, saV s), (1, .slice a ws.length c)] Tryz.func80 I Tryz.ntmps80 I (Ac I (Ac I (An _))) (Fc (ah hF1) (Fc (ah hF2) (Fc (ah hF3) (cK hM)))) (DO ?_)
 intro b2
 refine EW ?_
 intro b3
 refine Ka I (Gq ?_); refine Ka I (Nt (Cs (Ka I (Nt (Cq (Cs (Kf 2 I u58 I I I .tc u56 ?_)))))))
 refine Yo I u56 (Km I (Nt (Cb (Lo (σ := Nat × (Option Nat) × Nat × (List Value)) [(2, _), (6, _), (16, _), (17, _)] (fun gq => [(7, .slice (gq.2.1.map fun b => ⟨b, 0, none⟩) gq.1 gq.2.2.1), (18, .int .i64 (gq.1 : Int))]) (fun gq => (gq.1 ≤ s.es.length ∧ gq.2.2.1 = gq.1 + gq.2.2.2.length) ∧ ∀ q ∈ s.es.take gq.1, (imQ s.gs ws q.1).2 = 0) (fun gq => s.es.length - gq.1) (fun gq => [⟨gq.2.1, an ((s.es.take gq.1).map fun q => (imQ s.gs ws q.1).1) ++ gq.2.2.2, 22⟩, ⟨some b3, [.slice a ws.length c], 39⟩, ⟨some b2, [.slice s.ga s.gs.length s.gc, .slice s.va s.vs.length s.vc, .slice s.ea s.es.length s.ec], 58⟩]) (fun gq => (Fact.sl s.ga (gps s.gs) :: Fact.sl s.ea (qas s.es) :: Fact.sl a (aZ ws) :: s.es.map qaF)) (0, none, 0, []) (S4 I I I I) (S2 I I) (by (try dsimp only); exact ⟨⟨Ai _, rfl⟩, by simp⟩) (by exact fun w h => h.nil _) ?_))))
 rintro ⟨i, o, cp, sp⟩ hinv1; (try dsimp only at hinv1 ⊢)
 obtain ⟨⟨hi, hcp⟩, hok⟩ := hinv1
 refine DP (fun hc19 => ?_) (fun hc19 => ?_)
 ·have hil : i < s.es.length := by omega
  have him := ap s.es i hil
  have hlt1 := hlt _ him
  have hfq := hfo.2.2 _ (B4 him)
  have hgl : (s.es.getD i default).1.1.toNat < s.gs.length := by have := hfq.1.1.1; have := hfq.1.1.2; simp only [SA.core] at this; omega
  have hg8 := hlm _ (ap _ _ hgl)
  have hq0 := hfq.1.1.1
  refine E3 ?_; refine EB ?_
  refine EF ?_
  refine E1 ?_
  intro b9
  refine Nu I I (Sa I I I .tc) (Nt (Cs (Km I (Kq I (lda I I .tc u95 I ?_) ?_))))
  ·kernel_rfl
  refine Kh I (aN I I I (by kernel_rfl) I (nu fun w hS => sE (q := s.es.getD i default) (ws := ws) (p := b3) (a := a) (c := c) hS.os hS.sl (hS.more (more := s.es.map qaF) _ (B4 him)) (by omega) (by exact hlt1) (by exact fun t ht => by have h1 := (hfq.2 t ht).1; refine ⟨h1.1, ?_⟩; rw [hw]; exact h1.2))) ?_
  rintro ⟨gb25, ge25⟩
  refine WL.pu ?_
  intro hg25; (try dsimp only at hg25 ⊢)
  refine WL.fa2 ?_
  refine EX ?_; refine DR ?_; refine EL (fun hc30 => ?_) (fun hc30 => ?_)
  ·have hr : imQ s.gs ws (s.es.getD i default).1 = ([], (exQ ws (s.es.getD i default).1).2) := xu hc30; refine Cs (Km I (Ka I (ne ?_))); refine DS ?_; exact Rn I (.tmp I (.tmp I .nil)) fun w' hS => ⟨⟨none, 0, []⟩, by rw [nx hil hok (by rw [hr]; exact hc30), hr]; rfl, trivial, hS.below, by rw [nx hil hok (by rw [hr]; exact hc30)]; exact Fc cU Fn⟩
  ·have hr : imQ s.gs ws (s.es.getD i default).1 = bL (s.gs.getD (s.es.getD i default).1.1.toNat default) (bsQ ws (s.es.getD i default).1) (exQ ws (s.es.getD i default).1).1 := zF hc30; refine Ck (Xa (Cs (Kf 0 I u58 I I I .tc u54 ?_))); refine Kf 0 I u95 I I I .tc u3 ?_; refine EC ?_; refine EG ?_; refine Km I (Km I (Kc I (fun w hS => g6 (g := s.gs.getD (s.es.getD i default).1.1.toNat default) (l := bsQ ws (s.es.getD i default).1) (es := (exQ ws (s.es.getD i default).1).1) (by (exact hS.sl)) (by (exact hS.sl)) (by exact Br x8 hlt1) (by exact Br xG hlt1) (by exact hg8)) (BY ?_))); refine Cq (Cs (Km I (EL (fun hc45 => ?_) (fun hc45 => ?_))))
   ·refine Cs (Km I (Ka I (ne ?_))); refine DS ?_; exact Rn I (.tmp I (.tmp I .nil)) fun w' hS => ⟨⟨none, 0, []⟩, by rw [nx hil hok (by rw [hr]; exact hc45), hr]; rfl, trivial, hS.below, by rw [nx hil hok (by rw [hr]; exact hc45)]; exact Fc cU Fn⟩
   ·have hx0 : (imQ s.gs ws (s.es.getD i default).1).2 = 0 := by rw [hr]; simpa using hc45
    have hls : (an ((s.es.take i).map fun q => (imQ s.gs ws q.1).1)).length = i := by simp [an]; omega
    refine Ck (Xa (Cg (Km I (Km I (Kh I (aO I I u31 (by kernel_rfl : _ = some (some (.string (S [])), 1, 16)) I (by simp only [List.map]; rfl) I I ?_ (by decide)) ?_)))))
    ·simp [Value.cells]
    intro b49; refine Kh I (pL I u31 (by kernel_rfl : _ = some (some (.string (S [])), 1, 16)) I .tc I I (fun w hS => by (exact hS.os)) (by rfl) (by refine ⟨?_, ?_, ?_, ?_⟩ <;> first | exact hls | (try simp) <;> omega) (by (simp [Value.oneCell']; done))) ?_; rintro ⟨o50, c50, s50⟩; refine WL.pu ?_; intro hg50; (try dsimp only at hg50 ⊢); refine Ka I (Nn (Xd (Xa (Cg (Kq I (Rz I I I (by omega)) (Km I (Nn (Lx ((i + 1, o50, c50, s50)) (by (try dsimp only); omega) (S4 I I I I) (by refine (Sc ?_ (Sc ?_ (S0 _))) <;> (rfl)) ?_ (by exact fun w h => by rw [wZ _ hil, hr]; exact au _ h))))))))); (try dsimp only); exact ⟨⟨hil, by omega⟩, az hil hok hx0⟩
 ·refine AT ?_
  obtain rfl : i = s.es.length := by omega
  rw [Ap] at hok
  rw [Ap]
  refine Xa (Cs (Km I (Ka I (to ?_))))
  exact Rn I (.tmp I (.tmp I .nil)) fun w' hS => ⟨⟨o, cp, sp⟩, by rw [uD hok, Ag]; rfl, trivial, hS.below, by rw [uD hok]; exact Fc hS.ocf Fn⟩
theorem yU {s : Sm} {ws : List Zs} (h : jO s ws = 0) : cO s ∧ (∀ x ∈ ws, okZ x) ∧ nE s = 0 ∧ ws.length = s.2.1.length := by
 unfold jO at h
 split at h
 ·simp at h
 ·rename_i h1; split at h
  ·simp at h
  ·rename_i h2; split at h
   ·rename_i h3; exact absurd h h3
   ·rename_i h3; split at h
    ·simp at h
    ·rename_i h4; exact ⟨Ao.1 h1, Ao.1 h2, Ao.1 h3, Ao.1 h4⟩
theorem xt {s : Sm} {ws : List Zs} (h : (imS s ws).2 = 0) : (imS s ws).1.length = s.2.2.length := by
 unfold imS at h ⊢; split at h
 ·rename_i h1; exact absurd h h1
 ·rename_i h1; rw [Aa h1]; simp
theorem xD {α : Type} [Inhabited α] {x y : List α} (hl : x.length = y.length) (h : ∀ i, i < x.length → x.getD i default = y.getD i default) : x = y := by
 refine List.ext_getElem hl fun i h1 h2 => ?_
 have := h i h1
 rw [List.getD_eq_getElem?_getD, List.getD_eq_getElem?_getD, Ad h1, Ad h2] at this; exact this
theorem nR (l : List QA) (i : Nat) (h : i < l.length) : ((l.map (·.1)).map (·.2.1)).getD i default = (l.getD i default).1.2.1 := by
 rw [List.getD_eq_getElem?_getD, List.getD_eq_getElem?_getD, A6, A6, Ad h]; rfl
theorem xw {s : SA} {ws : List Zs} {a : Option Addr} {c : Nat} {w : World} {ok : Nat → Prop} (hF1 : (Fact.sl s.ga (gps s.gs)).holds ok w) (hF2 : (Fact.sl s.va (vrs s.vs)).holds ok w) (hF3 : (Fact.sl s.ea (qas s.es)).holds ok w) (hF4 : (Fact.sl a (aZ ws)).holds ok w) (hM : ∀ f ∈ (s.es.map qaF), f.holds ok w) (hs : saL s) (hw : ws.length ≤ 100000) :
  Cw 32 #[saV s, .slice a ws.length c] w (.tuple #[.bool (k6 s.core ws).1, .int .i64 (k6 s.core ws).2]) := by
 have hs' := hs
 obtain ⟨hlg, hlv, hle, hlt, hlm⟩ := hs
 refine En (Fact.sl s.ga (gps s.gs) :: Fact.sl s.va (vrs s.vs) :: Fact.sl s.ea (qas s.es) :: Fact.sl a (aZ ws) :: (s.es.map qaF)) [(0, saV s), (1, .slice a ws.length c)] Tryz.func32 I Tryz.ntmps32 I (Ac I (Ac I (An _))) (Fc (ah hF1) (Fc (ah hF2) (Fc (ah hF3) (Fc (ah hF4) (cK hM))))) ?_
 refine Cs ?_
 refine EW ?_
 intro b2
 refine Ka I (Ka I (Nt (Cq (Cs ?_))))
 refine Kq I (lda I I .tc u58 I ?_) ?_
 ·kernel_rfl
 refine Km I ?_
 refine Ku I (Oc I I (Kv fun w hS => wL (s := s) (ws := ws) (by (exact hS.sl)) (by (exact hS.sl)) (by (exact hS.sl)) (by (exact hS.sl)) (by (exact hS.more)) (by exact hs') (by exact hw))) ?_
 refine DT ?_; refine Yj I (Nt ?_)
 refine Cd I (fun hc15 => ?_) (fun hc15 => ?_)
 ·(try simp only [sB] at hc15)
  have hr : k6 s.core ws = (false, jO s.core ws) := by rw [k6, Ab hc15]
  refine Cs (Km I (Ka I (ne ?_)))
  exact GE
 ·(try simp only [sB] at hc15)
  have h0 : jO s.core ws = 0 := by simpa using hc15
  obtain ⟨hfo, hz, hk, hwl⟩ := yU h0
  refine Gg ?_
  refine Kq I (lda I I .tc u58 I ?_) ?_
  ·kernel_rfl
  refine Km I ?_
  refine Ku I (Oc I I (Kv fun w hS => sn (s := s) (ws := ws) (by (exact hS.sl)) (by (exact hS.sl)) (by (exact hS.sl)) (by exact hs') (by exact hwl) (by exact hfo) (by exact hz))) ?_
  refine Yt I (Nt ?_)
  refine Cd I (fun hc20 => ?_) (fun hc20 => ?_)
  ·(try simp only [sB] at hc20)
   have hr : k6 s.core ws = (false, 0) := by rw [k6, Aa (fun h => h h0), Ab (by simpa using hc20)]
   refine Cs (Ka I (ne ?_))
   exact GE
  ·(try simp only [sB] at hc20)
   have hin : inR s.core ws := by simpa using hc20
   refine Ck (Xa (Cs ?_))
   refine Kq I (lda I I .tc u58 I ?_) ?_
   ·kernel_rfl
   refine Km I ?_
   refine Kh I (Oc I I (nu fun w hS => uC (s := s) (ws := ws) (by (exact hS.sl)) (by (exact hS.sl)) (by (exact hS.sl)) (by (exact hS.more)) (by exact hs') (by exact hwl) (by exact hfo))) ?_
   rintro g24
   refine WL.pu ?_
   intro hg24; (try dsimp only [List.cons_append, List.nil_append] at hg24 ⊢)
   refine BY ?_; refine Cq (Cs (Km I (Yj I (Nt ?_))))
   refine Cd I (fun hc28 => ?_) (fun hc28 => ?_)
   ·(try simp only [sB] at hc28)
    have hr : k6 s.core ws = (false, (imS s.core ws).2) := by rw [k6, Aa (fun h => h h0), Aa (fun h => h hin), Ab hc28]
    refine Cs (Km I (Ka I (ne ?_)))
    exact GE
   ·(try simp only [sB] at hc28)
    have hi0 : (imS s.core ws).2 = 0 := by simpa using hc28
    have hlI : (imS s.core ws).1.length = s.es.length := by rw [xt hi0]; simp
    have hr : k6 s.core ws = (decide ((imS s.core ws).1 = s.core.2.2.map (·.2.1)), 0) := by rw [k6, Aa (fun h => h h0), Aa (fun h => h hin), Aa (fun h => h hi0)]
    refine Ck (F1 ?_)
    refine Yo I u56 (Km I (Nt (Cb ?_)))
    refine Lp (σ := Nat) [(7, _), (31, _), (32, _)] (fun gq => [(33, .int .i64 (gq : Int))]) (fun gq => gq ≤ s.es.length ∧ ∀ j, j < gq → (imS s.core ws).1.getD j default = (s.es.getD j default).1.2.1) (fun gq => s.es.length - gq) (0) (S3 I I I) (S1 I) (by (try dsimp only); exact ⟨Ai _, fun _ h => absurd h (Ea _)⟩) ?_
    rintro i hinv1; (try dsimp only at hinv1 ⊢)
    obtain ⟨hi, hok⟩ := hinv1
    refine Cs (Yl I (Nt (Cq ?_)))
    refine Cd I (fun hc34 => ?_) (fun hc34 => ?_)
    ·(try simp only [sB] at hc34)
     have hil : i < s.es.length := by omega
     have hil2 : i < (imS s.core ws).1.length := by omega
     refine El ?_
     refine EB ?_
     refine EF ?_
     refine E1 ?_
     intro b10
     refine Ka I ?_
     refine DQ ?_
     refine Nt (Cq ?_)
     refine FA ?_
     refine DW ?_
     refine EV ?_
     refine Fy ?_
     refine Kj I (Fa (q := 1) I I u95 I I) (DY ?_)
     refine Kj I (pc I I I) ?_
     refine WJ.nil ?_
     refine Nt ?_
     refine Cd I (fun hc44 => ?_) (fun hc44 => ?_)
     ·(try simp only [sB] at hc44)
      have hne : ¬ (imS s.core ws).1 = s.core.2.2.map (·.2.1) := fun h => by
       have h1 := nR s.es i hil
       exact absurd ((congrArg (fun l : List Bs => l.getD i default) h).trans h1) (by simpa using hc44)
      refine Cs (Ka I (to ?_)); refine DS ?_
      exact R2 I I I (by rw [hr, Aq hne]; rfl)
     ·(try simp only [sB] at hc44)
      refine Ck (EU ?_)
      refine Ly (i + 1) (by (try dsimp only); omega) (S3 I I I) (by refine (Sc ?_ (S0 _)) <;> (rfl)) ?_ (by (exact au))
      (try dsimp only)
      exact ⟨hil, fun j hj => by rcases C4.1 hj with h | h; exact hok j h; subst h; simpa using hc44⟩
    ·(try simp only [sB] at hc34)
     refine AT ?_
     obtain rfl : i = s.es.length := by omega
     have heq : (imS s.core ws).1 = s.core.2.2.map (·.2.1) := xD (by rw [hlI]; simp) fun j hj => by
      have h1 := nR s.es j (by omega)
      rw [hok j (by omega)]; exact h1.symm
     refine Xa (Cs (Ka I (to ?_)))
     exact R2 I I I (by rw [hr, Am heq]; rfl)
end Go.Proofs.YtkdlonihbjhhoaaGreatDoor
