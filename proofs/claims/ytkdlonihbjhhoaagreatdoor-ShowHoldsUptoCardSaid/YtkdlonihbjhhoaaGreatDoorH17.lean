/-
  Parts of the walk: Lin1 Lin2 Lin3 Lin4 Lin5 Lin6.
-/
import Derived.Test.YtkdlonihbjhhoaaGreatDoorH16
namespace Go.Proofs.YtkdlonihbjhhoaaGreatDoor
open Go.RowKit
set_option linter.unusedSimpArgs false
set_option linter.unusedVariables false
set_option maxHeartbeats 600000
set_option maxRecDepth 20000
def ixP {α : Type} (p : α → Bool) (l : List α) : Int := if l.any p = true then (l.findIdx p : Int) else -1
theorem dI {α : Type} {p : α → Bool} {l : List α} : decide (ixP p l ≥ 0) = l.any p := by
 rw [ixP]; split
 ·rename_i h; simp [h]
 ·rename_i h; simpa using h
theorem fq {α : Type} {p : α → Bool} {l : List α} (h : ∀ x ∈ l, p x = false) : ixP p l = -1 := by
 rw [ixP, Aa (by simpa using h)]
theorem jO {α : Type} [Inhabited α] {p : α → Bool} {l : List α} {i : Nat} (hi : i < l.length) (h0 : ∀ x ∈ l.take i, p x = false) (h1 : p (l.getD i default) = true) : ixP p l = i := by
 have e : l.getD i default = l[i] := by rw [List.getD_eq_getElem?_getD, Ad hi]; rfl
 rw [ixP, Ab (List.any_eq_true.2 ⟨_, ao l i hi, h1⟩)]
 congr 1
 rw [List.findIdx_eq hi]
 refine ⟨by rw [← e]; exact h1, fun j hj => ?_⟩
 exact h0 _ (List.mem_take_iff_getElem.2 ⟨j, by omega, rfl⟩)
theorem jR (v : Value) (cs : Array Value) : (#[] : Array Value) ++ [v].toArray ++ cs = #[v] ++ cs := by simp
theorem CR {l : List Tm} {a : Option Addr} {c : Nat} {fk : FuncId} {cs : Array Value} {p : Tm → Bool} {w : World} {ok : Nat → Prop} (hF1 : (Fact.sl a (l.flatMap tmC)).holds ok w) (hl : l.length ≤ 100000) (hgo : fg Tryz.prog fk = true) (hfn : ∀ x ∈ l, ∀ w', Below w.heap.size w w' → Calls Tryz.prog fk (#[.agg (tmC x).toArray] ++ cs) w' fun e w2 => e = .returned (.bool (p x)) ∧ Below w'.heap.size w' w2) :
  Cw 250 #[.slice a l.length c, .func (.func fk) #[] cs] w (.int .i64 (ixP p l)) := by
 refine En [Fact.sl a (l.flatMap tmC)] [(0, .slice a l.length c), (1, .func (.func fk) #[] cs)] Tryz.func250 I Tryz.ntmps250 I (Ac I (Ac I (An _))) (Fc (ah hF1) Fn) (Cs (Ka I (Nt (Cq (Cs (Km I (Yo I u93 (Km I (Nt (Cb (Lp (σ := Nat) [(0, _), (1, _), (7, _)] (fun gq => [(8, .int .i64 (gq : Int))]) (fun gq => gq ≤ l.length ∧ ∀ x ∈ l.take gq, p x = false) (fun gq => l.length - gq) (0) (S3 I I I) (S1 I) (by (try dsimp only); exact ⟨Aj _, by simp⟩) ?_)))))))))))
 rintro i hinv1; (try dsimp only at hinv1 ⊢)
 obtain ⟨hi, hok⟩ := hinv1
 refine Cs (Yl I (Nt (Cq (Ci I (fun hc9 => ?_) (fun hc9 => ?_)))))
 ·have hil : i < l.length := by omega
  refine Ck (Xa (Cq (Cb (Cs (Km I (Ka I (Nt (Cs (Km I (Km I (Km I (Kq I (Ia I I I u93 (by kernel_rfl : _ = some 4) (by omega) (by (rw [aj _ _ 4 (fun _ => rfl)]; omega))) ?_))))))))))))
  refine Kq I (dx _ I I ke I (by kernel_rfl : _ = some 4) (fun _ => rfl) (by decide) I (by assumption)) ?_
  refine Ku I (aP I I I hgo (jR _ _) (Kv fun w hS => hfn (l.getD i default) (ao _ _ hil) w hS.below)) (Nt (Ci I (fun hc16 => ?_) (fun hc16 => ?_)))
  ·refine Cs (Km I (Ka I (Nt (Ce (Xf (Xb (Xb (Xf (Xb ?_))))))))); exact R1 I I (by rw [jO hil hok (by simpa using hc16)]; rfl)
  ·refine Ck (Xd (Xa (Cg (Kq I (Rz I I I (by omega)) (Km I (Nn (Ly (i + 1) (by (try dsimp only); omega) (S3 I I I) (by refine (Sc ?_ (S0 _)) <;> (rfl)) ?_ (fun _ h => h)))))))); (try dsimp only); exact ⟨hil, az hil hok (by simpa using hc16)⟩
 ·refine Cx (Xc (Xc (Xe ?_)))
  obtain rfl : i = l.length := by omega
  rw [Ao] at hok
  refine Xa (Cs (Ka I (Nt (Ce ?_))))
  exact R1 I I (by rw [fq hok]; rfl)
theorem ze {l : List Tm} {a : Option Addr} {c : Nat} {fk : FuncId} {cs : Array Value} {p : Tm → Bool} {w : World} {ok : Nat → Prop} (hF1 : (Fact.sl a (l.flatMap tmC)).holds ok w) (hl : l.length ≤ 100000) (hgo : fg Tryz.prog fk = true) (hfn : ∀ x ∈ l, ∀ w', Below w.heap.size w w' → Calls Tryz.prog fk (#[.agg (tmC x).toArray] ++ cs) w' fun e w2 => e = .returned (.bool (p x)) ∧ Below w'.heap.size w' w2) :
  Cw 221 #[.slice a l.length c, .func (.func fk) #[] cs] w (.bool (l.any p)) := by
 refine En [Fact.sl a (l.flatMap tmC)] [(0, .slice a l.length c), (1, .func (.func fk) #[] cs)] Tryz.func221 I Tryz.ntmps221 I (Ac I (Ac I (An _))) (Fc (ah hF1) Fn) (Cs (Ka I (Nt (Cs (Km I (Km I (Kc I (fun w hS => CR (fk := fk) (cs := cs) (p := p) (by (exact hS.sl)) (by exact hl) (by exact hgo) (by exact fun x hx w' hb => hfn x hx w' (hS.below.trans (hb.mono hS.below.size)))) (Yh I (Ka I (Nt (Ce ?_)))))))))))
 exact R1 I I (by rw [dI]; rfl)
theorem CT {l : List QA} {a : Option Addr} {c : Nat} {fk : FuncId} {cs : Array Value} {p : QA → Bool} {w : World} {ok : Nat → Prop} (hF1 : (Fact.sl a (l.flatMap qaC)).holds ok w) (hl : l.length ≤ 100000) (hgo : fg Tryz.prog fk = true) (hfn : ∀ x ∈ l, ∀ w', Below w.heap.size w w' → Calls Tryz.prog fk (#[.agg (qaC x).toArray] ++ cs) w' fun e w2 => e = .returned (.bool (p x)) ∧ Below w'.heap.size w' w2) :
  Cw 249 #[.slice a l.length c, .func (.func fk) #[] cs] w (.int .i64 (ixP p l)) := by
 refine En [Fact.sl a (l.flatMap qaC)] [(0, .slice a l.length c), (1, .func (.func fk) #[] cs)] Tryz.func249 I Tryz.ntmps249 I (Ac I (Ac I (An _))) (Fc (ah hF1) Fn) (Cs (Ka I (Nt (Cq (Cs (Km I (Yo I u56 (Km I (Nt (Cb (Lp (σ := Nat) [(0, _), (1, _), (7, _)] (fun gq => [(8, .int .i64 (gq : Int))]) (fun gq => gq ≤ l.length ∧ ∀ x ∈ l.take gq, p x = false) (fun gq => l.length - gq) (0) (S3 I I I) (S1 I) (by (try dsimp only); exact ⟨Aj _, by simp⟩) ?_)))))))))))
 rintro i hinv1; (try dsimp only at hinv1 ⊢)
 obtain ⟨hi, hok⟩ := hinv1
 refine Cs (Yl I (Nt (Cq (Ci I (fun hc9 => ?_) (fun hc9 => ?_)))))
 ·have hil : i < l.length := by omega
  refine Ck (Xa (Cq (Cb (Cs (Km I (Ka I (Nt (Cs (Km I (Km I (Km I (Kq I (Ia I I I u56 (by kernel_rfl : _ = some 3) (by omega) (by (rw [aj _ _ 3 (fun _ => rfl)]; omega))) ?_))))))))))))
  refine Kq I (dx _ I I u95 I (by kernel_rfl : _ = some 3) (fun _ => rfl) (by decide) I (by assumption)) ?_
  refine Ku I (aP I I I hgo (jR _ _) (Kv fun w hS => hfn (l.getD i default) (ao _ _ hil) w hS.below)) (Nt (Ci I (fun hc16 => ?_) (fun hc16 => ?_)))
  ·refine Cs (Km I (Ka I (Nt (Ce (Xf (Xb (Xb (Xf (Xb ?_))))))))); exact R1 I I (by rw [jO hil hok (by simpa using hc16)]; rfl)
  ·refine Ck (Xd (Xa (Cg (Kq I (Rz I I I (by omega)) (Km I (Nn (Ly (i + 1) (by (try dsimp only); omega) (S3 I I I) (by refine (Sc ?_ (S0 _)) <;> (rfl)) ?_ (fun _ h => h)))))))); (try dsimp only); exact ⟨hil, az hil hok (by simpa using hc16)⟩
 ·refine Cx (Xc (Xc (Xe ?_)))
  obtain rfl : i = l.length := by omega
  rw [Ao] at hok
  refine Xa (Cs (Ka I (Nt (Ce ?_))))
  exact R1 I I (by rw [fq hok]; rfl)
theorem DO {l : List QA} {a : Option Addr} {c : Nat} {fk : FuncId} {cs : Array Value} {p : QA → Bool} {w : World} {ok : Nat → Prop} (hF1 : (Fact.sl a (l.flatMap qaC)).holds ok w) (hl : l.length ≤ 100000) (hgo : fg Tryz.prog fk = true) (hfn : ∀ x ∈ l, ∀ w', Below w.heap.size w w' → Calls Tryz.prog fk (#[.agg (qaC x).toArray] ++ cs) w' fun e w2 => e = .returned (.bool (p x)) ∧ Below w'.heap.size w' w2) :
  Cw 219 #[.slice a l.length c, .func (.func fk) #[] cs] w (.bool (l.any p)) := by
 refine En [Fact.sl a (l.flatMap qaC)] [(0, .slice a l.length c), (1, .func (.func fk) #[] cs)] Tryz.func219 I Tryz.ntmps219 I (Ac I (Ac I (An _))) (Fc (ah hF1) Fn) (Cs (Ka I (Nt (Cs (Km I (Km I (Kc I (fun w hS => CT (fk := fk) (cs := cs) (p := p) (by (exact hS.sl)) (by exact hl) (by exact hgo) (by exact fun x hx w' hb => hfn x hx w' (hS.below.trans (hb.mono hS.below.size)))) (Yh I (Ka I (Nt (Ce ?_)))))))))))
 exact R1 I I (by rw [dI]; rfl)
theorem CQ {l : List Bs} {a : Option Addr} {c : Nat} {fk : FuncId} {cs : Array Value} {p : Bs → Bool} {w : World} {ok : Nat → Prop} (hF1 : (Fact.sl a (l.flatMap vrC)).holds ok w) (hl : l.length ≤ 100000) (hgo : fg Tryz.prog fk = true) (hfn : ∀ x ∈ l, ∀ w', Below w.heap.size w w' → Calls Tryz.prog fk (#[.agg (vrC x).toArray] ++ cs) w' fun e w2 => e = .returned (.bool (p x)) ∧ Below w'.heap.size w' w2) :
  Cw 251 #[.slice a l.length c, .func (.func fk) #[] cs] w (.int .i64 (ixP p l)) := by
 refine En [Fact.sl a (l.flatMap vrC)] [(0, .slice a l.length c), (1, .func (.func fk) #[] cs)] Tryz.func251 I Tryz.ntmps251 I (Ac I (Ac I (An _))) (Fc (ah hF1) Fn) (Cs (Ka I (Nt (Cq (Cs (Km I (Yo I u55 (Km I (Nt (Cb (Lp (σ := Nat) [(0, _), (1, _), (7, _)] (fun gq => [(8, .int .i64 (gq : Int))]) (fun gq => gq ≤ l.length ∧ ∀ x ∈ l.take gq, p x = false) (fun gq => l.length - gq) (0) (S3 I I I) (S1 I) (by (try dsimp only); exact ⟨Aj _, by simp⟩) ?_)))))))))))
 rintro i hinv1; (try dsimp only at hinv1 ⊢)
 obtain ⟨hi, hok⟩ := hinv1
 refine Cs (Yl I (Nt (Cq (Ci I (fun hc9 => ?_) (fun hc9 => ?_)))))
 ·have hil : i < l.length := by omega
  refine Ck (Xa (Cq (Cb (Cs (Km I (Ka I (Nt (Cs (Km I (Km I (Km I (Kq I (Ib I I I u55 (by omega) (by (rw [aj _ _ 1 (fun _ => rfl)]; omega))) ?_))))))))))))
  refine Kq I (dx _ I I pO I (by kernel_rfl : _ = some 1) (fun _ => rfl) (by decide) (A3 _).symm (by assumption)) ?_
  refine Ku I (aP I I I hgo (jR _ _) (Kv fun w hS => hfn (l.getD i default) (ao _ _ hil) w hS.below)) (Nt (Ci I (fun hc16 => ?_) (fun hc16 => ?_)))
  ·refine Cs (Km I (Ka I (Nt (Ce (Xf (Xb (Xb (Xf (Xb ?_))))))))); exact R1 I I (by rw [jO hil hok (by simpa using hc16)]; rfl)
  ·refine Ck (Xd (Xa (Cg (Kq I (Rz I I I (by omega)) (Km I (Nn (Ly (i + 1) (by (try dsimp only); omega) (S3 I I I) (by refine (Sc ?_ (S0 _)) <;> (rfl)) ?_ (fun _ h => h)))))))); (try dsimp only); exact ⟨hil, az hil hok (by simpa using hc16)⟩
 ·refine Cx (Xc (Xc (Xe ?_)))
  obtain rfl : i = l.length := by omega
  rw [Ao] at hok
  refine Xa (Cs (Ka I (Nt (Ce ?_))))
  exact R1 I I (by rw [fq hok]; rfl)
theorem DN {l : List Bs} {a : Option Addr} {c : Nat} {fk : FuncId} {cs : Array Value} {p : Bs → Bool} {w : World} {ok : Nat → Prop} (hF1 : (Fact.sl a (l.flatMap vrC)).holds ok w) (hl : l.length ≤ 100000) (hgo : fg Tryz.prog fk = true) (hfn : ∀ x ∈ l, ∀ w', Below w.heap.size w w' → Calls Tryz.prog fk (#[.agg (vrC x).toArray] ++ cs) w' fun e w2 => e = .returned (.bool (p x)) ∧ Below w'.heap.size w' w2) :
  Cw 223 #[.slice a l.length c, .func (.func fk) #[] cs] w (.bool (l.any p)) := by
 refine En [Fact.sl a (l.flatMap vrC)] [(0, .slice a l.length c), (1, .func (.func fk) #[] cs)] Tryz.func223 I Tryz.ntmps223 I (Ac I (Ac I (An _))) (Fc (ah hF1) Fn) (Cs (Ka I (Nt (Cs (Km I (Km I (Kc I (fun w hS => CQ (fk := fk) (cs := cs) (p := p) (by (exact hS.sl)) (by exact hl) (by exact hgo) (by exact fun x hx w' hb => hfn x hx w' (hS.below.trans (hb.mono hS.below.size)))) (Yh I (Ka I (Nt (Ce ?_)))))))))))
 exact R1 I I (by rw [dI]; rfl)
theorem CV {l : List Gp} {a : Option Addr} {c : Nat} {fk : FuncId} {cs : Array Value} {p : Gp → Bool} {w : World} {ok : Nat → Prop} (hF1 : (Fact.sl a (l.flatMap gpC)).holds ok w) (hl : l.length ≤ 100000) (hgo : fg Tryz.prog fk = true) (hfn : ∀ x ∈ l, ∀ w', Below w.heap.size w w' → Calls Tryz.prog fk (#[.agg (gpC x).toArray] ++ cs) w' fun e w2 => e = .returned (.bool (p x)) ∧ Below w'.heap.size w' w2) :
  Cw 252 #[.slice a l.length c, .func (.func fk) #[] cs] w (.int .i64 (ixP p l)) := by
 refine En [Fact.sl a (l.flatMap gpC)] [(0, .slice a l.length c), (1, .func (.func fk) #[] cs)] Tryz.func252 I Tryz.ntmps252 I (Ac I (Ac I (An _))) (Fc (ah hF1) Fn) (Cs (Ka I (Nt (Cq (Cs (Km I (Yo I u54 (Km I (Nt (Cb (Lp (σ := Nat) [(0, _), (1, _), (7, _)] (fun gq => [(8, .int .i64 (gq : Int))]) (fun gq => gq ≤ l.length ∧ ∀ x ∈ l.take gq, p x = false) (fun gq => l.length - gq) (0) (S3 I I I) (S1 I) (by (try dsimp only); exact ⟨Aj _, by simp⟩) ?_)))))))))))
 rintro i hinv1; (try dsimp only at hinv1 ⊢)
 obtain ⟨hi, hok⟩ := hinv1
 refine Cs (Yl I (Nt (Cq (Ci I (fun hc9 => ?_) (fun hc9 => ?_)))))
 ·have hil : i < l.length := by omega
  refine Ck (Xa (Cq (Cb (Cs (Km I (Ka I (Nt (Cs (Km I (Km I (Km I (Kq I (Ia I I I u54 (by kernel_rfl : _ = some 2) (by omega) (by (rw [aj _ _ 2 (fun _ => rfl)]; omega))) ?_))))))))))))
  refine Kq I (dx _ I I u26 I (by kernel_rfl : _ = some 2) (fun _ => rfl) (by decide) I (by assumption)) ?_
  refine Ku I (aP I I I hgo (jR _ _) (Kv fun w hS => hfn (l.getD i default) (ao _ _ hil) w hS.below)) (Nt (Ci I (fun hc16 => ?_) (fun hc16 => ?_)))
  ·refine Cs (Km I (Ka I (Nt (Ce (Xf (Xb (Xb (Xf (Xb ?_))))))))); exact R1 I I (by rw [jO hil hok (by simpa using hc16)]; rfl)
  ·refine Ck (Xd (Xa (Cg (Kq I (Rz I I I (by omega)) (Km I (Nn (Ly (i + 1) (by (try dsimp only); omega) (S3 I I I) (by refine (Sc ?_ (S0 _)) <;> (rfl)) ?_ (fun _ h => h)))))))); (try dsimp only); exact ⟨hil, az hil hok (by simpa using hc16)⟩
 ·refine Cx (Xc (Xc (Xe ?_)))
  obtain rfl : i = l.length := by omega
  rw [Ao] at hok
  refine Xa (Cs (Ka I (Nt (Ce ?_))))
  exact R1 I I (by rw [fq hok]; rfl)
theorem DP {l : List Gp} {a : Option Addr} {c : Nat} {fk : FuncId} {cs : Array Value} {p : Gp → Bool} {w : World} {ok : Nat → Prop} (hF1 : (Fact.sl a (l.flatMap gpC)).holds ok w) (hl : l.length ≤ 100000) (hgo : fg Tryz.prog fk = true) (hfn : ∀ x ∈ l, ∀ w', Below w.heap.size w w' → Calls Tryz.prog fk (#[.agg (gpC x).toArray] ++ cs) w' fun e w2 => e = .returned (.bool (p x)) ∧ Below w'.heap.size w' w2) :
  Cw 225 #[.slice a l.length c, .func (.func fk) #[] cs] w (.bool (l.any p)) := by
 refine En [Fact.sl a (l.flatMap gpC)] [(0, .slice a l.length c), (1, .func (.func fk) #[] cs)] Tryz.func225 I Tryz.ntmps225 I (Ac I (Ac I (An _))) (Fc (ah hF1) Fn) (Cs (Ka I (Nt (Cs (Km I (Km I (Kc I (fun w hS => CV (fk := fk) (cs := cs) (p := p) (by (exact hS.sl)) (by exact hl) (by exact hgo) (by exact fun x hx w' hb => hfn x hx w' (hS.below.trans (hb.mono hS.below.size)))) (Yh I (Ka I (Nt (Ce ?_)))))))))))
 exact R1 I I (by rw [dI]; rfl)
theorem CP {l : List Zs} {a : Option Addr} {c : Nat} {fk : FuncId} {cs : Array Value} {p : Zs → Bool} {w : World} {ok : Nat → Prop} (hF1 : (Fact.sl a (l.flatMap zc)).holds ok w) (hl : l.length ≤ 100000) (hgo : fg Tryz.prog fk = true) (hfn : ∀ x ∈ l, ∀ w', Below w.heap.size w w' → Calls Tryz.prog fk (#[.agg (zc x).toArray] ++ cs) w' fun e w2 => e = .returned (.bool (p x)) ∧ Below w'.heap.size w' w2) :
  Cw 185 #[.slice a l.length c, .func (.func fk) #[] cs] w (.int .i64 (ixP p l)) := by
 refine En [Fact.sl a (l.flatMap zc)] [(0, .slice a l.length c), (1, .func (.func fk) #[] cs)] Tryz.func185 I Tryz.ntmps185 I (Ac I (Ac I (An _))) (Fc (ah hF1) Fn) (Cs (Ka I (Nt (Cq (Cs (Km I (Yo I u39 (Km I (Nt (Cb (Lp (σ := Nat) [(0, _), (1, _), (7, _)] (fun gq => [(8, .int .i64 (gq : Int))]) (fun gq => gq ≤ l.length ∧ ∀ x ∈ l.take gq, p x = false) (fun gq => l.length - gq) (0) (S3 I I I) (S1 I) (by (try dsimp only); exact ⟨Aj _, by simp⟩) ?_)))))))))))
 rintro i hinv1; (try dsimp only at hinv1 ⊢)
 obtain ⟨hi, hok⟩ := hinv1
 refine Cs (Yl I (Nt (Cq (Ci I (fun hc9 => ?_) (fun hc9 => ?_)))))
 ·have hil : i < l.length := by omega
  refine Ck (Xa (Cq (Cb (Cs (Km I (Ka I (Nt (Cs (Km I (Km I (Km I (Kq I (Ia I I I u39 (by kernel_rfl : _ = some 2) (by omega) (by (rw [aj _ _ 2 (fun _ => rfl)]; omega))) ?_))))))))))))
  refine Kq I (dx _ I I u37 I (by kernel_rfl : _ = some 2) (fun _ => rfl) (by decide) I (by assumption)) ?_
  refine Ku I (aP I I I hgo (jR _ _) (Kv fun w hS => hfn (l.getD i default) (ao _ _ hil) w hS.below)) (Nt (Ci I (fun hc16 => ?_) (fun hc16 => ?_)))
  ·refine Cs (Km I (Ka I (Nt (Ce (Xf (Xb (Xb (Xf (Xb ?_))))))))); exact R1 I I (by rw [jO hil hok (by simpa using hc16)]; rfl)
  ·refine Ck (Xd (Xa (Cg (Kq I (Rz I I I (by omega)) (Km I (Nn (Ly (i + 1) (by (try dsimp only); omega) (S3 I I I) (by refine (Sc ?_ (S0 _)) <;> (rfl)) ?_ (fun _ h => h)))))))); (try dsimp only); exact ⟨hil, az hil hok (by simpa using hc16)⟩
 ·refine Cx (Xc (Xc (Xe ?_)))
  obtain rfl : i = l.length := by omega
  rw [Ao] at hok
  refine Xa (Cs (Ka I (Nt (Ce ?_))))
  exact R1 I I (by rw [fq hok]; rfl)
theorem DM {l : List Zs} {a : Option Addr} {c : Nat} {fk : FuncId} {cs : Array Value} {p : Zs → Bool} {w : World} {ok : Nat → Prop} (hF1 : (Fact.sl a (l.flatMap zc)).holds ok w) (hl : l.length ≤ 100000) (hgo : fg Tryz.prog fk = true) (hfn : ∀ x ∈ l, ∀ w', Below w.heap.size w w' → Calls Tryz.prog fk (#[.agg (zc x).toArray] ++ cs) w' fun e w2 => e = .returned (.bool (p x)) ∧ Below w'.heap.size w' w2) :
  Cw 137 #[.slice a l.length c, .func (.func fk) #[] cs] w (.bool (l.any p)) := by
 refine En [Fact.sl a (l.flatMap zc)] [(0, .slice a l.length c), (1, .func (.func fk) #[] cs)] Tryz.func137 I Tryz.ntmps137 I (Ac I (Ac I (An _))) (Fc (ah hF1) Fn) (Cs (Ka I (Nt (Cs (Km I (Km I (Kc I (fun w hS => CP (fk := fk) (cs := cs) (p := p) (by (exact hS.sl)) (by exact hl) (by exact hgo) (by exact fun x hx w' hb => hfn x hx w' (hS.below.trans (hb.mono hS.below.size)))) (Yh I (Ka I (Nt (Ce ?_)))))))))))
 exact R1 I I (by rw [dI]; rfl)
theorem ib {f : Fact} {w w' : World} (h : f.holds (fun _ => True) w) (hb : Below w.heap.size w w') : f.holds (fun _ => True) w' := f.stable h hb.size fun b hlt _ => hb.block b hlt
theorem BA (v : Value) : #[v] ++ (#[] : Array Value) = #[v] := by simp
theorem AZ (v u : Value) : #[v] ++ (#[u] : Array Value) = #[v, u] := by simp
theorem xj {ok : Nat → Prop} {w0 w : World} {own : List Ent} {fs more : List Fact} {f : Fact} (h : St ok w0 own fs w) [hm : pK fs more] (hf : f ∈ more) : St ok w0 own (f :: fs) w := h.add (h.fact f (hm.h f hf))
theorem ph {s : SA} {w : World} {ok : Nat → Prop} (hF1 : (Fact.sl s.ga (gps s.gs)).holds ok w) (hs : saL s) :
  Cw 140 #[saV s] w (.string (S (f7 s.gs))) := by
 obtain ⟨hlg, hlv, hle, hlt, hlm⟩ := hs
 refine En [Fact.sl s.ga (gps s.gs)] [(0, saV s)] Tryz.func140 I Tryz.ntmps140 I (Ac I (An _)) (Fc (ah hF1) Fn) (Cs (Kh I (Oy I I) ?_))
 intro b1
 refine Ka I (Nt (Cq (Cs (Kf 0 I u58 I I I .tc u54 ?_))))
 refine Yo I u54 (Km I (Nt (Cb (Lp (σ := Nat) [(6, _), (7, _)] (fun gq => [(8, .int .i64 (gq : Int))]) (fun gq => gq ≤ s.gs.length ∧ ∀ g ∈ s.gs.take gq, g.2 = []) (fun gq => s.gs.length - gq) (0) (S2 I I) (S1 I) (by (try dsimp only); exact ⟨Aj _, by simp⟩) ?_))))
 rintro i hinv1; (try dsimp only at hinv1 ⊢)
 obtain ⟨hi, hok⟩ := hinv1
 refine Cs (Yl I (Nt (Cq (Ci I (fun hc9 => ?_) (fun hc9 => ?_)))))
 ·have hil : i < s.gs.length := by omega
  refine Ck (Xa (Cq (Cb (Cs (Kq I (Ia I I I u54 (by kernel_rfl : _ = some 2) (by omega) (by (rw [aj _ _ 2 (fun _ => rfl)]; omega))) ?_)))))
  refine Kq I (dx _ I I u26 I (by kernel_rfl : _ = some 2) (fun _ => rfl) (by decide) I (by assumption)) ?_
  refine Kh I (Oz [.string (S []), .string (S [])] I) ?_
  intro b4
  refine Nu I I (Sa I I I .tc) (Nt (Cs (Kf 1 I u26 I I I .tc u22 ?_)))
  refine Yr I (Nt (Ci I (fun hc14 => ?_) (fun hc14 => ?_)))
  ·refine Cs (Kf 1 I u26 I I I .tc u22 ?_); refine Ka I (Nt (Ce (Xf (Xb (Xb (Xf (Xb ?_))))))); exact R1 I I (by rw [x5 hil hok (by simpa using hc14)]; rfl)
  ·refine Ck (Xd (Xa (Cg (Kq I (Rz I I I (by omega)) (Km I (Nn (Ly (i + 1) (by (try dsimp only); omega) (S2 I I) (by refine (Sc ?_ (S0 _)) <;> (rfl)) ?_ (by (exact ar))))))))); (try dsimp only); exact ⟨hil, az hil hok (by simpa using hc14)⟩
 ·refine Cx (Xc (Xc (Xe ?_)))
  obtain rfl : i = s.gs.length := by omega
  rw [Ao] at hok
  refine Xa (Cs (Ka I (Nt (Ce ?_))))
  exact R1 I I (by rw [u6 hok]; rfl)
theorem vH {s : SA} {w : World} {ok : Nat → Prop} (hF1 : (Fact.sl s.ga (gps s.gs)).holds ok w) (hF2 : (Fact.sl s.va (vrs s.vs)).holds ok w) (hF3 : (Fact.sl s.ea (qas s.es)).holds ok w) (hM : ∀ f ∈ (s.es.map qaF), f.holds ok w) (hs : saL s) :
  Cw 136 #[saV s] w (.int .i64 (if cJ s.core then 0 else 3)) := by
 obtain ⟨hlg, hlv, hle, hlt, hlm⟩ := hs
 refine En (Fact.sl s.ga (gps s.gs) :: Fact.sl s.va (vrs s.vs) :: Fact.sl s.ea (qas s.es) :: (s.es.map qaF)) [(0, saV s)] Tryz.func136 I Tryz.ntmps136 I (Ac I (An _)) (Fc (ah hF1) (Fc (ah hF2) (Fc (ah hF3) (cQ hM)))) ?_
 refine Cs ?_
 refine Kh I (Oy I I) ?_
 intro b1
 refine Ka I (Nt (Cq (Cs (Kq I (Fa (q := 0) I I u58 I I) (Kq I (Ld I I .tc u54) ?_)))))
 refine Yo I u54 (Km I (Nt (Cb ?_)))
 refine Lp (σ := Nat) [(1, _), (12, _), (13, _)] (fun gq => [(14, .int .i64 (gq : Int))]) (fun gq => gq ≤ s.gs.length ∧ ∀ g ∈ s.gs.take gq, okG g) (fun gq => s.gs.length - gq) (0) (S3 I I I) (S1 I) (by (try dsimp only); exact ⟨Aj _, by simp⟩) ?_
 rintro i hinv1; (try dsimp only at hinv1 ⊢)
 obtain ⟨hi, hok⟩ := hinv1
 refine Cs (Yl I (Nt (Cq ?_)))
 refine Cd I (fun hc15 => ?_) (fun hc15 => ?_)
 ·(try simp only [sB] at hc15)
  have hil : i < s.gs.length := by omega
  refine Ck (Xa (Cq (Cb (Cs ?_))))
  refine Kq I (Ia I I I u54 (by kernel_rfl : _ = some 2) (by omega) (by (rw [aj _ _ 2 (fun _ => rfl)]; omega))) ?_
  refine Kq I (dx _ I I u26 I (by kernel_rfl : _ = some 2) (fun _ => rfl) (by decide) I (by assumption)) ?_
  refine Kh I (Oz [.string (S []), .string (S [])] I) ?_
  intro b4
  refine Nu I I (Sa I I I .tc) ?_
  refine Nt ?_
  refine WC.joinP (σ := Unit) [(1, _), (12, _), (13, _), (14, _)] (fun gq => [(27, .bool (decide (¬ (okN (s.gs.getD i default).1 ∧ okN (s.gs.getD i default).2))))]) (fun gq => True) (S4 I I I I) ?_ ?_
  ·skip
   refine Cg (Kq I (Fa (q := 0) I I u26 I I) (Kq I (Ld I I .tc u22) ?_))
   refine Ku I (Oc I I (Kv fun w hS => ay (a := (s.gs.getD i default).1))) ?_
   refine Yt I (Km I ?_)
   refine Nb 22 I (fun hg22 => ?_) (fun hg22 => ?_)
   ·(try simp only [sB] at hg22)
    refine Kt I (Kt I (Kt I (Kt I (Yp I (Nn ?_)))))
    refine WX.joinP (()) (S4 I I I I) (by refine (Sc ?_ (S0 _)) <;> ((refine congrArg (fun b => some (Value.bool b)) ?_; simp [*, -List.getD_eq_getElem?_getD]; done))) ?_ (by (exact fun _ h => h))
    (try dsimp only)
    done
   ·(try simp only [sB] at hg22)
    refine Kq I (Fa (q := 1) I I u26 I I) (Kq I (Ld I I .tc u22) ?_)
    refine Ku I (Oc I I (Kv fun w hS => ay (a := (s.gs.getD i default).2))) ?_
    refine Yt I (Yq I (Nn ?_))
    refine WX.joinP (()) (S4 I I I I) (by refine (Sc ?_ (S0 _)) <;> ((refine congrArg (fun b => some (Value.bool b)) ?_; simp [*, -List.getD_eq_getElem?_getD]; done))) ?_ (by (exact fun _ h => h))
    (try dsimp only)
    done
  ·rintro _ hmeet; (try dsimp only at hmeet ⊢)
   refine Cd I (fun hc27 => ?_) (fun hc27 => ?_)
   ·(try simp only [sB] at hc27)
    refine Cs (Ka I (Nt (Ce (Xf (Xb (Xb (Xf (Xb ?_))))))))
    exact R1 I I (by rw [Aa (fun h => absurd (h.1 _ (ao _ _ hil)) hc27)]; rfl)
   ·(try simp only [sB] at hc27)
    refine Ck (Xd (Xa (Cg (Kq I (Rz I I I (by omega)) (Km I (Nn ?_))))))
    refine Ly (i + 1) (by (try dsimp only); omega) (S3 I I I) (by refine (Sc ?_ (S0 _)) <;> (rfl)) ?_ (by (exact ar))
    (try dsimp only)
    exact ⟨hil, az hil hok (Ah.1 hc27)⟩
 ·(try simp only [sB] at hc15)
  refine Cx (Xc (Xc (Xe ?_)))
  obtain rfl : i = s.gs.length := by omega
  rw [Ao] at hok
  refine Xa (Cq (Cs (Kq I (Fa (q := 1) I I u58 I I) (Kq I (Ld I I .tc u55) ?_))))
  refine Yo I u55 (Km I (Nt (Cb ?_)))
  refine Lp (σ := Nat) [(1, _), (30, _), (31, _)] (fun gq => [(32, .int .i64 (gq : Int))]) (fun gq => gq ≤ s.vs.length ∧ ∀ v ∈ s.vs.take gq, okN v) (fun gq => s.vs.length - gq) (0) (S3 I I I) (S1 I) (by (try dsimp only); exact ⟨Aj _, by simp⟩) ?_
  rintro j hinv2; (try dsimp only at hinv2 ⊢)
  obtain ⟨hj, hov⟩ := hinv2
  refine Cs (Yl I (Nt (Cq ?_)))
  refine Cd I (fun hc33 => ?_) (fun hc33 => ?_)
  ·(try simp only [sB] at hc33)
   have hjl : j < s.vs.length := by omega
   refine Ck (Xa (Cq (Cb (Cs ?_))))
   refine Kq I (Ib I I I u55 (by omega) (by (rw [aj _ _ 1 (fun _ => rfl)]; omega))) ?_
   refine Kq I (dx _ I I pO I (by kernel_rfl : _ = some 1) (fun _ => rfl) (by decide) (A3 _).symm (by assumption)) ?_
   refine Kh I (Oz [.string (S [])] I) ?_
   intro b6
   refine Nu I I (Sa I I I .tc) ?_
   refine Nt (Cs (Kq I (Fa (q := 0) I I pO I I) (Kq I (Ld I I .tc u22) ?_)))
   refine Ku I (Oc I I (Kv fun w hS => ay (a := s.vs.getD j default))) ?_
   refine Yt I (Nt ?_)
   refine Cd I (fun hc39 => ?_) (fun hc39 => ?_)
   ·(try simp only [sB] at hc39)
    refine Cs (Ka I (Nt (Ce (Xf (Xb (Xb (Xf (Xb ?_))))))))
    exact R1 I I (by rw [Aa (fun h => absurd (h.2.1 _ (ao _ _ hjl)) (by simpa using hc39))]; rfl)
   ·(try simp only [sB] at hc39)
    refine Ck (Xd (Xa (Cg (Kq I (Rz I I I (by omega)) (Km I (Nn ?_))))))
    refine Ly (j + 1) (by (try dsimp only); omega) (S3 I I I) (by refine (Sc ?_ (S0 _)) <;> (rfl)) ?_ (by (exact ar))
    (try dsimp only)
    exact ⟨hjl, az hjl hov (by simpa using hc39)⟩
  ·(try simp only [sB] at hc33)
   refine Cx (Xc (Xc (Xe ?_)))
   obtain rfl : j = s.vs.length := by omega
   rw [Ao] at hov
   refine Xa (Cq (Cs (Kq I (Fa (q := 2) I I u58 I I) (Kq I (Ld I I .tc u56) ?_))))
   refine Yo I u56 (Km I (Nt (Cb ?_)))
   refine Lp (σ := Nat) [(1, _), (42, _), (43, _)] (fun gq => [(44, .int .i64 (gq : Int))]) (fun gq => gq ≤ s.es.length ∧ ∀ q ∈ s.es.take gq, okQ s.gs.length s.vs.length q.1) (fun gq => s.es.length - gq) (0) (S3 I I I) (S1 I) (by (try dsimp only); exact ⟨Aj _, by simp⟩) ?_
   rintro k hinv3; (try dsimp only at hinv3 ⊢)
   obtain ⟨hk, hoq⟩ := hinv3
   refine Cs (Yl I (Nt (Cq ?_)))
   refine Cd I (fun hc45 => ?_) (fun hc45 => ?_)
   ·(try simp only [sB] at hc45)
    have hkl : k < s.es.length := by omega
    have hkm := ao s.es k hkl
    have hlt1 := hlt _ hkm
    refine Ck (Xa (Cq (Cb (Cs ?_))))
    refine Kq I (Ia I I I u56 (by kernel_rfl : _ = some 3) (by omega) (by (rw [aj _ _ 3 (fun _ => rfl)]; omega))) ?_
    refine Kq I (dx _ I I u95 I (by kernel_rfl : _ = some 3) (fun _ => rfl) (by decide) I (by assumption)) ?_
    refine Kh I (Oz [.int .i64 0, .string (S []), .slice none 0 0] I) ?_
    intro b8
    refine Nu I I (Sa I I I .tc) ?_
    refine Nt (Cq ?_)
    refine WC.joinP (σ := Unit) [(1, _), (8, _), (42, _), (43, _), (44, _)] (fun gq => [(64, .bool (decide (¬ ((0 ≤ (s.es.getD k default).1.1 ∧ (s.es.getD k default).1.1 < (s.gs.length : Int)) ∧ okN (s.es.getD k default).1.2.1))))]) (fun gq => True) (S5 I I I I I) ?_ ?_
    ·skip
     refine Cg (Kq I (Fa (q := 0) I I u95 I I) (Kq I (Ld I I .tc u3) ?_))
     refine Yl I (Km I ?_)
     refine Nb 51 I (fun hg51 => ?_) (fun hg51 => ?_)
     ·(try simp only [sB] at hg51)
      refine Kt I (Kt I (Kt I (Kt I (Kt I (Kt I (Yp I (Km I (Kt I (Kt I (Kt I (Kt I (Yp I (Nn ?_)))))))))))))
      refine WX.joinP (()) (S5 I I I I I) (by refine (Sc ?_ (S0 _)) <;> ((exact congrArg (fun b => some (Value.bool b)) (by symm; apply Aq; omega)))) ?_ (by (exact fun _ h => h))
      (try dsimp only)
      done
     ·(try simp only [sB] at hg51)
      refine Kq I (Fa (q := 0) I I u95 I I) (Kq I (Ld I I .tc u3) ?_)
      refine Kq I (Fa (q := 0) I I u58 I I) (Kq I (Ld I I .tc u54) ?_)
      refine Yo I u54 (Yh I (Yq I (Km I ?_)))
      refine Nb 59 I (fun hg59 => ?_) (fun hg59 => ?_)
      ·(try simp only [sB] at hg59)
       refine Kt I (Kt I (Kt I (Kt I (Yp I (Nn ?_)))))
       refine WX.joinP (()) (S5 I I I I I) (by refine (Sc ?_ (S0 _)) <;> ((exact congrArg (fun b => some (Value.bool b)) (by symm; apply Aq; omega)))) ?_ (by (exact fun _ h => h))
       (try dsimp only)
       done
      ·(try simp only [sB] at hg59)
       refine Kq I (Fa (q := 1) I I u95 I I) (Kq I (Ld I I .tc u22) ?_)
       refine Ku I (Oc I I (Kv fun w hS => ay (a := (s.es.getD k default).1.2.1))) ?_
       refine Yt I (Yq I (Nn ?_))
       refine WX.joinP (()) (S5 I I I I I) (by refine (Sc ?_ (S0 _)) <;> ((refine congrArg (fun b => some (Value.bool b)) ?_; simp [*, -List.getD_eq_getElem?_getD]; done))) ?_ (by (exact fun _ h => h))
       (try dsimp only)
       done
    ·rintro _ hmeet; (try dsimp only at hmeet ⊢)
     refine Cd I (fun hc64 => ?_) (fun hc64 => ?_)
     ·(try simp only [sB] at hc64)
      refine Cs (Ka I (Nt (Ce (Xb (Xf (Xb (Xb (Xf (Xb ?_)))))))))
      exact R1 I I (by rw [Aa (fun h => absurd (h.2.2 _ (B7 hkm)).1 hc64)]; rfl)
     ·(try simp only [sB] at hc64)
      refine Ck (Xa (Cs (Kq I (Fa (q := 2) I I u95 I I) ?_)))
      refine WL.st (fun w h => xj (more := s.es.map qaF) (f := qaF (s.es.getD k default)) h (B7 hkm)) ?_
      refine Kq I (Ld I I .tc u93) ?_
      refine Yo I u93 (Km I (Nt (Cb ?_)))
      refine Lp (σ := Nat) [(1, _), (42, _), (43, _), (44, _), (66, _), (67, _)] (fun gq => [(68, .int .i64 (gq : Int))]) (fun gq => gq ≤ (s.es.getD k default).1.2.2.length ∧ ∀ t ∈ (s.es.getD k default).1.2.2.take gq, okT s.vs.length t) (fun gq => (s.es.getD k default).1.2.2.length - gq) (0) (S6 I I I I I I) (S1 I) (by (try dsimp only); exact ⟨Aj _, by simp⟩) ?_
      rintro m hinv4; (try dsimp only at hinv4 ⊢)
      obtain ⟨hm, hot⟩ := hinv4
      refine Cs (Yl I (Nt (Cq ?_)))
      refine Cd I (fun hc69 => ?_) (fun hc69 => ?_)
      ·(try simp only [sB] at hc69)
       have hml : m < (s.es.getD k default).1.2.2.length := by omega
       refine Ck (Xa (Cq (Cb (Cs ?_))))
       refine Kq I (Ia I I I u93 (by kernel_rfl : _ = some 4) (by omega) (by (rw [aj _ _ 4 (fun _ => rfl)]; omega))) ?_
       refine Kq I (dx _ I I ke I (by kernel_rfl : _ = some 4) (fun _ => rfl) (by decide) I (by assumption)) ?_
       refine Kh I (Oz [.string (S []), .int .i64 0, .bool false, .string (S [])] I) ?_
       intro b10
       refine Nu I I (Sa I I I .tc) ?_
       refine Nt ?_
       refine WC.joinP (σ := Unit) [(1, _), (42, _), (43, _), (44, _), (66, _), (67, _), (68, _)] (fun gq => [(94, .bool (decide (¬ ((0 ≤ ((s.es.getD k default).1.2.2.getD m default).2.1 ∧ ((s.es.getD k default).1.2.2.getD m default).2.1 < (s.vs.length : Int)) ∧ okN ((s.es.getD k default).1.2.2.getD m default).1 ∧ okZ ((s.es.getD k default).1.2.2.getD m default).2.2))))]) (fun gq => True) (S7 I I I I I I I) ?_ ?_
       ·skip
        refine Cg (Kq I (Fa (q := 1) I I ke I I) (Kq I (Ld I I .tc u3) ?_))
        refine Yl I (Km I ?_)
        refine Nb 75 I (fun hg75 => ?_) (fun hg75 => ?_)
        ·(try simp only [sB] at hg75)
         refine Kt I (Kt I (Kt I (Kt I (Kt I (Kt I (Yp I (Km I (Kt I (Kt I (Kt I (Kt I (Yp I (Km I (Kt I (Kt I (Kt I (Kt I (Yp I (Nn ?_)))))))))))))))))))
         refine WX.joinP (()) (S7 I I I I I I I) (by refine (Sc ?_ (S0 _)) <;> ((exact congrArg (fun b => some (Value.bool b)) (by symm; apply Aq; omega)))) ?_ (by (exact fun _ h => h))
         (try dsimp only)
         done
        ·(try simp only [sB] at hg75)
         refine Kq I (Fa (q := 1) I I ke I I) (Kq I (Ld I I .tc u3) ?_)
         refine Kq I (Fa (q := 1) I I u58 I I) (Kq I (Ld I I .tc u55) ?_)
         refine Yo I u55 (Yh I (Yq I (Km I ?_)))
         refine Nb 83 I (fun hg83 => ?_) (fun hg83 => ?_)
         ·(try simp only [sB] at hg83)
          refine Kt I (Kt I (Kt I (Kt I (Yp I (Km I (Kt I (Kt I (Kt I (Kt I (Yp I (Nn ?_)))))))))))
          refine WX.joinP (()) (S7 I I I I I I I) (by refine (Sc ?_ (S0 _)) <;> ((exact congrArg (fun b => some (Value.bool b)) (by symm; apply Aq; omega)))) ?_ (by (exact fun _ h => h))
          (try dsimp only)
          done
         ·(try simp only [sB] at hg83)
          refine Kq I (Fa (q := 0) I I ke I I) (Kq I (Ld I I .tc u22) ?_)
          refine Ku I (Oc I I (Kv fun w hS => ay (a := ((s.es.getD k default).1.2.2.getD m default).1))) ?_
          refine Yt I (Yq I (Km I ?_))
          refine Nb 89 I (fun hg89 => ?_) (fun hg89 => ?_)
          ·(try simp only [sB] at hg89)
           refine Kt I (Kt I (Kt I (Kt I (Yp I (Nn ?_)))))
           refine WX.joinP (()) (S7 I I I I I I I) (by refine (Sc ?_ (S0 _)) <;> ((refine congrArg (fun b => some (Value.bool b)) ?_; simp [*, -List.getD_eq_getElem?_getD]; done))) ?_ (by (exact fun _ h => h))
           (try dsimp only)
           done
          ·(try simp only [sB] at hg89)
           refine Kq I (Fa (q := 2) I I ke I I) ?_
           refine Kq I (ldp I I .tc u37 I (by kernel_rfl : _ = some 2) (by rfl) (by rfl)) ?_
           refine Ku I (Oc I I (Kv fun w hS => ep (x := ((s.es.getD k default).1.2.2.getD m default).2.2))) ?_
           refine Yt I (Yq I (Nn ?_))
           refine WX.joinP (()) (S7 I I I I I I I) (by refine (Sc ?_ (S0 _)) <;> ((refine congrArg (fun b => some (Value.bool b)) ?_; simp [*, -List.getD_eq_getElem?_getD]; done))) ?_ (by (exact fun _ h => h))
           (try dsimp only)
           done
       ·rintro _ hmeet; (try dsimp only at hmeet ⊢)
        refine Cd I (fun hc94 => ?_) (fun hc94 => ?_)
        ·(try simp only [sB] at hc94)
         refine Cs (Ka I (Nt (Ce (Xf (Xb (Xb (Xf (Xf (Xb (Xb (Xf (Xb ?_))))))))))))
         exact R1 I I (by rw [Aa (fun h => absurd ((h.2.2 _ (B7 hkm)).2 _ (ao _ _ hml)) hc94)]; rfl)
        ·(try simp only [sB] at hc94)
         refine Ck (Xd (Xa (Cg (Kq I (Rz I I I (by omega)) (Km I (Nn ?_))))))
         refine Ly (m + 1) (by (try dsimp only); omega) (S6 I I I I I I) (by refine (Sc ?_ (S0 _)) <;> (rfl)) ?_ (by (exact ar))
         (try dsimp only)
         exact ⟨hml, az hml hot (Ah.1 hc94)⟩
      ·(try simp only [sB] at hc69)
       refine Cx (Xc (Xc (Xe ?_)))
       obtain rfl : m = (s.es.getD k default).1.2.2.length := by omega
       rw [Ao] at hot
       refine Xd (Xa (Cg (Kq I (Rz I I I (by omega)) (Km I (Nn ?_)))))
       refine Ly (k + 1) (by (try dsimp only); omega) (S3 I I I) (by refine (Sc ?_ (S0 _)) <;> (rfl)) ?_ (by (exact ar))
       (try dsimp only)
       exact ⟨hkl, az hkl hoq ⟨Ah.1 hc64, hot⟩⟩
   ·(try simp only [sB] at hc45)
    refine Cx (Xc (Xc (Xe ?_)))
    obtain rfl : k = s.es.length := by omega
    rw [Ao] at hoq
    refine Xa (Cs (Ka I (Nt (Ce ?_))))
    exact R1 I I (by rw [Ab ⟨hok, hov, fx.2 hoq⟩]; rfl)
theorem BT {q : QA} {w : World} :
  Cw 220 #[.agg #[.int .i64 q.1.1, .string (S q.1.2.1), .slice q.2.1 q.1.2.2.length q.2.2]] w (.bool (decide (q.1.2.2.length > 64))) := by
 refine En [] [(0, .agg #[.int .i64 q.1.1, .string (S q.1.2.1), .slice q.2.1 q.1.2.2.length q.2.2])] Tryz.func220 I Tryz.ntmps220 I (Ac I (An _)) Fn (Cs (Kh I (Oy I I) ?_))
 intro b1
 refine Ka I (Nt (Cs (Kf 2 I u95 I I I .tc u93 ?_)))
 refine Yo I u93 (Yg I (Ka I (Nt (Ce ?_))))
 exact R1 I I (by simp [tup]; omega)
theorem xm {s : SA} {w : World} {ok : Nat → Prop} (hF1 : (Fact.sl s.ga (gps s.gs)).holds ok w) (hF2 : (Fact.sl s.va (vrs s.vs)).holds ok w) (hF3 : (Fact.sl s.ea (qas s.es)).holds ok w) (hs : saL s) :
  Cw 186 #[saV s] w (.int .i64 (if f5 s.core then 0 else 6)) := by
 obtain ⟨hlg, hlv, hle, hlt, hlm⟩ := hs
 refine En [Fact.sl s.ga (gps s.gs), Fact.sl s.va (vrs s.vs), Fact.sl s.ea (qas s.es)] [(0, saV s)] Tryz.func186 I Tryz.ntmps186 I (Ac I (An _)) (Fc (ah hF1) (Fc (ah hF2) (Fc (ah hF3) Fn))) (Cs (Kh I (Oy I I) ?_))
 intro b1
 refine Ka I (Nt (Cq (WC.joinP (σ := Unit) [(1, _)] (fun gq => [(18, .bool (decide (¬ (s.gs.length ≤ 8 ∧ s.vs.length ≤ 64 ∧ s.es.length ≤ 64))))]) (fun gq => True) (S1 I) ?_ ?_)))
 ·skip
  refine Cg (Kf 0 I u58 I I I .tc u54 ?_)
  refine Yo I u54 (Yg I (Km I (Nc 7 I (fun hg7 => ?_) (fun hg7 => ?_))))
  ·refine T4 I (Yp I (Km I (T4 I (Yp I (Nn (WX.joinP (()) (S1 I) (by refine (Sc ?_ (S0 _)) <;> ((exact congrArg (fun b => some (Value.bool b)) (by symm; apply Aq; omega)))) ?_ (fun _ h => h))))))); (try dsimp only); done
  ·refine Kf 1 I u58 I I I .tc u55 ?_; refine Yo I u55 (Yg I (Yq I (Km I (Nc 13 I (fun hg13 => ?_) (fun hg13 => ?_)))))
   ·refine T4 I (Yp I (Nn (WX.joinP (()) (S1 I) (by refine (Sc ?_ (S0 _)) <;> ((exact congrArg (fun b => some (Value.bool b)) (by symm; apply Aq; omega)))) ?_ (fun _ h => h)))); (try dsimp only); done
   ·refine Kf 2 I u58 I I I .tc u56 ?_; refine Yo I u56 (Yg I (Yq I (Nn (WX.joinP (()) (S1 I) (by refine (Sc ?_ (S0 _)) <;> ((refine ai rfl ?_; (try dsimp only); (exact Ag.2 (by omega))))) ?_ (fun _ h => h))))); (try dsimp only); done
 ·rintro _ hmeet; (try dsimp only at hmeet ⊢)
  refine Ci I (fun hc18 => ?_) (fun hc18 => ?_)
  ·have hr : ¬ f5 s.core := fun h => hc18 (by simpa using h.1)
   refine Cs (Ka I (Nt (Ce (Xb ?_)))); exact R1 I I (by rw [Aa hr]; rfl)
  ·refine Ck (Xa (Cq (Cs (Kf 2 I u58 I I I .tc u56 ?_)))); refine Kc I (fun w hS => DO (l := s.es) (fk := 220) (cs := #[]) (p := fun q => decide (q.1.2.2.length > 64)) (by (exact hS.sl)) (by exact hle) (by kernel_rfl) (by exact fun x hx w' hb => by rw [BA]; exact BT)) (Nt (Ci I (fun hc21 => ?_) (fun hc21 => ?_)))
   ·have hr : ¬ f5 s.core := fun h => by
     obtain ⟨q, hq, hq2⟩ := List.any_eq_true.1 hc21; have := h.2 _ (B7 hq); simp at hq2; omega
    refine Cs (Ka I (Nt (Ce (Xb ?_)))); exact R1 I I (by rw [Aa hr]; rfl)
   ·have hr : f5 s.core := ⟨by simpa using hc18, fx.2 fun q hq => by
     have := List.any_eq_false.1 hc21 q hq; simpa using this⟩
    refine Ck (Xa (Cs (Ka I (Nt (Ce ?_))))); exact R1 I I (by rw [Ab hr]; rfl)
theorem si {α : Type} (l : List α) (p : α → Prop) [DecidablePred p] : (l.any fun x => decide (¬ p x)) = decide (¬ ∀ x ∈ l, p x) := by rw [B2]; simp
theorem l4 {α : Type} (l : List α) (p : α → Prop) [DecidablePred p] : (l.any fun x => decide (p x)) = decide (¬ ∀ x ∈ l, ¬ p x) := by rw [B2]; simp
instance hasM_appL {a b : List Fact} : pK (a ++ b) a := ⟨fun _ h => List.mem_append_left _ h⟩
instance hasM_appR {a b c : List Fact} [h : pK b c] : pK (a ++ b) c := ⟨fun _ hh => List.mem_append_right _ (h.h _ hh)⟩
theorem DA {t : Tm} {g : Gp} {p : Nat} {w : World} {ok : Nat → Prop} (hF1 : (Fact.sl (some ⟨p, 0, none⟩) (gpC g)).holds ok w) (hg : bc g = 0) (hm8 : g.1.length ≤ 8) :
  Cw 222 #[.agg #[.string (S t.1), .int .i64 t.2.1, .bool t.2.2.1, .string (S t.2.2.2)], .pointer (some ⟨p, 0, none⟩)] w (.bool (decide (¬ elG g t.1))) := by
 refine En [Fact.sl (some ⟨p, 0, none⟩) (gpC g)] [(0, .agg #[.string (S t.1), .int .i64 t.2.1, .bool t.2.2.1, .string (S t.2.2.2)]), (1, .pointer (some ⟨p, 0, none⟩))] Tryz.func222 I Tryz.ntmps222 I (Ac I (Ac I (An _))) (Fc (ah hF1) Fn) (Cs (Kh I (Oy I I) ?_))
 intro b2
 refine Ka I (Nt (Cs (Kq I (AP (m := 0) I I .tc u26 I (by kernel_rfl : _ = some 2) I I I (by decide)) ?_)))
 refine Kf 0 I ke I I I .tc u22 ?_
 refine Kc I (fun w hS => iX (g := g) (x := t.1) (by assumption)) (Ns 7 I (v' := .bool (decide (elG g t.1))) (congrArg Value.bool (by simp [hg])) ?_)
 refine Yt I (Ka I (Nt (Ce ?_)))
 exact R1 I I (by (simp [tup]; done))
theorem yw {s : SA} {w : World} {ok : Nat → Prop} (hF1 : (Fact.sl s.ga (gps s.gs)).holds ok w) (hF2 : (Fact.sl s.ea (qas s.es)).holds ok w) (hM : ∀ f ∈ (s.es.map qaF), f.holds ok w) (hs : saL s) (hfo : cJ s.core) :
  Cw 187 #[saV s] w (.int .i64 (if elS s.core then 0 else 13)) := by
 obtain ⟨hlg, hlv, hle, hlt, hlm⟩ := hs
 refine En (Fact.sl s.ga (gps s.gs) :: Fact.sl s.ea (qas s.es) :: (s.es.map qaF)) [(0, saV s)] Tryz.func187 I Tryz.ntmps187 I (Ac I (An _)) (Fc (ah hF1) (Fc (ah hF2) (cQ hM))) ?_
 refine Cs ?_
 refine Kh I (Oy I I) ?_
 intro b1
 refine Ka I (Nt (Cq (Cs (Kq I (Fa (q := 0) I I u58 I I) (Kq I (Ld I I .tc u54) ?_)))))
 refine Yo I u54 (Km I (Nt (Cb ?_)))
 refine Lp (σ := Nat) [(1, _), (9, _), (10, _)] (fun gq => [(11, .int .i64 (gq : Int))]) (fun gq => gq ≤ s.gs.length ∧ ∀ g ∈ s.gs.take gq, bc g = 0) (fun gq => s.gs.length - gq) (0) (S3 I I I) (S1 I) (by (try dsimp only); exact ⟨Aj _, by simp⟩) ?_
 rintro i hinv1; (try dsimp only at hinv1 ⊢)
 obtain ⟨hi, hok⟩ := hinv1
 refine Cs (Yl I (Nt (Cq ?_)))
 refine Cd I (fun hc12 => ?_) (fun hc12 => ?_)
 ·(try simp only [sB] at hc12)
  have hil : i < s.gs.length := by omega
  refine Ck (Xa (Cq (Cb (Cs ?_))))
  refine Kq I (Ia I I I u54 (by kernel_rfl : _ = some 2) (by omega) (by (rw [aj _ _ 2 (fun _ => rfl)]; omega))) ?_
  refine Kq I (dx _ I I u26 I (by kernel_rfl : _ = some 2) (fun _ => rfl) (by decide) I (by assumption)) ?_
  refine Kh I (Oz [.string (S []), .string (S [])] I) ?_
  intro b4
  refine Nu I I (Sa I I I .tc) ?_
  refine Nt (Cs ?_)
  refine Kq I (lda I I .tc u26 I ?_) ?_
  ·kernel_rfl
  refine Ku I (Oc I I (Kv fun w hS => i1 (g := s.gs.getD i default))) ?_
  refine Yj I (Nt ?_)
  refine Cd I (fun hc17 => ?_) (fun hc17 => ?_)
  ·(try simp only [sB] at hc17)
   refine Cs (Ka I (Nt (Ce (Xf (Xb (Xb (Xf (Xb ?_))))))))
   exact R1 I I (by rw [Aa (fun h => absurd (h.1 _ (ao _ _ hil)) (by simpa using hc17))]; rfl)
  ·(try simp only [sB] at hc17)
   refine Ck (Xd (Xa (Cg (Kq I (Rz I I I (by omega)) (Km I (Nn ?_))))))
   refine Ly (i + 1) (by (try dsimp only); omega) (S3 I I I) (by refine (Sc ?_ (S0 _)) <;> (rfl)) ?_ (by (exact ar))
   (try dsimp only)
   exact ⟨hil, az hil hok (by simpa using hc17)⟩
 ·(try simp only [sB] at hc12)
  refine Cx (Xc (Xc (Xe ?_)))
  obtain rfl : i = s.gs.length := by omega
  rw [Ao] at hok
  refine Xa (Cq (Cs (Kq I (Fa (q := 2) I I u58 I I) (Kq I (Ld I I .tc u56) ?_))))
  refine Yo I u56 (Km I (Nt (Cb ?_)))
  refine Lp (σ := Nat) [(1, _), (20, _), (21, _)] (fun gq => [(22, .int .i64 (gq : Int))]) (fun gq => gq ≤ s.es.length ∧ ∀ q ∈ s.es.take gq, elQ s.gs q.1) (fun gq => s.es.length - gq) (0) (S3 I I I) (S1 I) (by (try dsimp only); exact ⟨Aj _, by simp⟩) ?_
  rintro k hinv2; (try dsimp only at hinv2 ⊢)
  obtain ⟨hk, hoq⟩ := hinv2
  refine Cs (Yl I (Nt (Cq ?_)))
  refine Cd I (fun hc23 => ?_) (fun hc23 => ?_)
  ·(try simp only [sB] at hc23)
   have hkl : k < s.es.length := by omega
   have hkm := ao s.es k hkl
   have hlt1 := hlt _ hkm
   have hfq := (hfo.2.2 _ (B7 hkm)).1.1
   have hgl : (s.es.getD k default).1.1.toNat < s.gs.length := by have := hfq.1; have := hfq.2; simp only [SA.core] at this; omega
   have hg0 := hok _ (ao _ _ hgl)
   have hg8 := hlm _ (ao _ _ hgl)
   refine Ck (Xa (Cq (Cb (Cs ?_))))
   refine Kq I (Ia I I I u56 (by kernel_rfl : _ = some 3) (by omega) (by (rw [aj _ _ 3 (fun _ => rfl)]; omega))) ?_
   refine Kq I (dx _ I I u95 I (by kernel_rfl : _ = some 3) (fun _ => rfl) (by decide) I (by assumption)) ?_
   refine Kh I (Oz [.int .i64 0, .string (S []), .slice none 0 0] I) ?_
   intro b6
   refine Nu I I (Sa I I I .tc) ?_
   refine Nt (Cs (Kq I (Fa (q := 0) I I u58 I I) (Kq I (Ld I I .tc u54) ?_)))
   refine Kq I (Fa (q := 0) I I u95 I I) (Kq I (Ld I I .tc u3) ?_)
   refine Kq I (Ia I I I u54 (by kernel_rfl : _ = some 2) (by assumption) (by (rw [aj _ _ 2 (fun _ => rfl)]; omega))) ?_
   refine Kq I (dx _ I I u26 I (by kernel_rfl : _ = some 2) (fun _ => rfl) (by decide) I (by assumption)) ?_
   refine Kh I (Oz [.string (S []), .string (S [])] I) ?_
   intro b7
   refine Nu I I (Sa I I I .tc) ?_
   refine Nt ?_
   refine WC.joinP (σ := Unit) [(1, _), (20, _), (21, _), (22, _)] (fun gq => [(42, .bool (decide (¬ (elG (s.gs.getD (s.es.getD k default).1.1.toNat default) (s.es.getD k default).1.2.1 ∧ ∀ t ∈ (s.es.getD k default).1.2.2, elG (s.gs.getD (s.es.getD k default).1.1.toNat default) t.1))))]) (fun gq => True) (S4 I I I I) ?_ ?_
   ·skip
    refine Cg ?_
    refine Kq I (lda I I .tc u26 I ?_) ?_
    ·kernel_rfl
    refine Kq I (Fa (q := 1) I I u95 I I) (Kq I (Ld I I .tc u22) ?_)
    refine Ku I (Oc I I (Kv fun w hS => iX (g := s.gs.getD (s.es.getD k default).1.1.toNat default) (x := (s.es.getD k default).1.2.1) (by exact hg8))) ?_
    refine Ns 35 I (v' := .bool (decide (elG (s.gs.getD (s.es.getD k default).1.1.toNat default) (s.es.getD k default).1.2.1))) (congrArg Value.bool (by exact Ag.2 ⟨fun h => h.2, fun h => ⟨hg0, h⟩⟩)) ?_
    refine Yt I (Km I ?_)
    refine Nb 37 I (fun hg37 => ?_) (fun hg37 => ?_)
    ·(try simp only [sB] at hg37)
     refine Kt I (Kt I (Kt I (Kt I (Yp I (Nn ?_)))))
     refine WX.joinP (()) (S4 I I I I) (by refine (Sc ?_ (S0 _)) <;> ((refine congrArg (fun b => some (Value.bool b)) ?_; simp [*, -List.getD_eq_getElem?_getD]; done))) ?_ (by (exact fun _ h => h))
     (try dsimp only)
     done
    ·(try simp only [sB] at hg37)
     refine Kq I (Fa (q := 2) I I u95 I I) (Kq I (Ld I I .tc u93) ?_)
     refine Kq I (dh I I I) ?_
     refine Ku I (Oc I I (Kv fun w hS => ze (l := (s.es.getD k default).1.2.2) (fk := 222) (p := fun t => decide (¬ elG (s.gs.getD (s.es.getD k default).1.1.toNat default) t.1)) (hS.more (more := s.es.map qaF) _ (B7 hkm)) (by exact hlt1) (by kernel_rfl) (by exact fun x hx w' hb => by rw [AZ]; exact DA (ib hS.os hb) hg0 hg8))) ?_
     refine Ns 41 I (v' := .bool (decide (¬ ∀ t ∈ (s.es.getD k default).1.2.2, elG (s.gs.getD (s.es.getD k default).1.1.toNat default) t.1))) (congrArg Value.bool (by exact si _ _)) ?_
     refine Yq I (Nn ?_)
     refine WX.joinP (()) (S4 I I I I) (by refine (Sc ?_ (S0 _)) <;> ((refine congrArg (fun b => some (Value.bool b)) ?_; simp [*, -List.getD_eq_getElem?_getD]; done))) ?_ (by (exact fun _ h => h))
     (try dsimp only)
     done
   ·rintro _ hmeet; (try dsimp only at hmeet ⊢)
    refine Cd I (fun hc42 => ?_) (fun hc42 => ?_)
    ·(try simp only [sB] at hc42)
     refine Cs (Ka I (Nt (Ce (Xf (Xb (Xb (Xf (Xb ?_))))))))
     exact R1 I I (by rw [Aa (fun h => absurd (h.2 _ (B7 hkm)) hc42)]; rfl)
    ·(try simp only [sB] at hc42)
     refine Ck (Xd (Xa (Cg (Kq I (Rz I I I (by omega)) (Km I (Nn ?_))))))
     refine Ly (k + 1) (by (try dsimp only); omega) (S3 I I I) (by refine (Sc ?_ (S0 _)) <;> (rfl)) ?_ (by (exact ar))
     (try dsimp only)
     exact ⟨hkl, az hkl hoq (Ah.1 hc42)⟩
  ·(try simp only [sB] at hc23)
   refine Cx (Xc (Xc (Xe ?_)))
   obtain rfl : k = s.es.length := by omega
   rw [Ao] at hoq
   refine Xa (Cs (Ka I (Nt (Ce ?_))))
   exact R1 I I (by rw [Ab ⟨hok, fx.2 hoq⟩]; rfl)
theorem CL {v : Bs} {w : World} :
  Cw 224 #[.agg #[.string (S v)]] w (.bool (decide (v = []))) := by
 refine En [] [(0, .agg #[.string (S v)])] Tryz.func224 I Tryz.ntmps224 I (Ac I (An _)) Fn (Cs (Kh I (Oy I I) ?_))
 intro b1
 refine Ka I (Nt (Cs (Kf 0 I pO I I I .tc u22 ?_)))
 refine Ys I (Ka I (Nt (Ce ?_)))
 exact R1 I I (by rfl)
theorem CN {g : Gp} {n : Bs} {p : Nat} {w : World} {ok : Nat → Prop} (hF1 : (Fact.sl (some ⟨p, 0, none⟩) [.string (S n)]).holds ok w) :
  Cw 226 #[.agg #[.string (S g.1), .string (S g.2)], .pointer (some ⟨p, 0, none⟩)] w (.bool (decide (g.2 ≠ [] ∧ g.2 ≠ n))) := by
 refine En [Fact.sl (some ⟨p, 0, none⟩) [.string (S n)]] [(0, .agg #[.string (S g.1), .string (S g.2)]), (1, .pointer (some ⟨p, 0, none⟩))] Tryz.func226 I Tryz.ntmps226 I (Ac I (Ac I (An _))) (Fc (ah hF1) Fn) (Cs (Kh I (Oy I I) ?_))
 intro b2
 refine Ka I (Nt (Cs (Kf 1 I u26 I I I .tc u22 ?_)))
 refine Yr I (Km I (Nc 7 I (fun hg7 => ?_) (fun hg7 => ?_)))
 ·refine Kf 1 I u26 I I I .tc u22 ?_
  refine Kq I (ldf (m := 0) I I .tc u22 I I I) ?_
  refine Yr I (Yp I (Ka I (Nt (Ce ?_))))
  exact R1 I I (by (simp [*, tup]; done))
 ·refine T4 I (Yq I (Ka I (Nt (Ce ?_))))
  exact R1 I I (by (simp [*, tup]; done))
theorem CM {t : Tm} {s : SA} {p : Nat} {w : World} {ok : Nat → Prop} (hF1 : (Fact.sl (some ⟨p, 0, none⟩) [.slice s.ga s.gs.length s.gc, .slice s.va s.vs.length s.vc, .slice s.ea s.es.length s.ec]).holds ok w) (hF2 : (Fact.sl s.va (vrs s.vs)).holds ok w) (ht0 : 0 ≤ t.2.1) (ht1 : t.2.1 < s.vs.length) (hlv : s.vs.length ≤ 100000) :
  Cw 227 #[.agg #[.string (S t.1), .int .i64 t.2.1, .bool t.2.2.1, .string (S t.2.2.2)], .pointer (some ⟨p, 0, none⟩)] w (.bool (decide (s.vs.getD t.2.1.toNat default = []))) := by
 refine En [Fact.sl (some ⟨p, 0, none⟩) [.slice s.ga s.gs.length s.gc, .slice s.va s.vs.length s.vc, .slice s.ea s.es.length s.ec], Fact.sl s.va (vrs s.vs)] [(0, .agg #[.string (S t.1), .int .i64 t.2.1, .bool t.2.2.1, .string (S t.2.2.2)]), (1, .pointer (some ⟨p, 0, none⟩))] Tryz.func227 I Tryz.ntmps227 I (Ac I (Ac I (An _))) (Fc (ah hF1) (Fc (ah hF2) Fn)) (Cs (Kh I (Oy I I) ?_))
 intro b2
 refine Ka I (Nt (Cs ?_))
 (refine Kq I (di I I u58 I (by kernel_rfl) (by (try simp only [sN, Int.reduceToNat, Nat.reduceAdd, Nat.reduceMul, Nat.reduceSub]); rfl)) ?_)
 refine Kq I (ldf (m := 1) I I .tc u55 I I I) ?_
 refine Kf 1 I ke I I I .tc u3 ?_
 refine Kq I (Ib I I I u55 (by omega) (by (rw [aj _ _ 1 (fun _ => rfl)]; omega))) ?_
 (refine Kq I (faf I I pO I (by kernel_rfl) (by (try simp only [sN, Int.reduceToNat, Nat.reduceAdd, Nat.reduceMul, Nat.reduceSub]); rfl)) ?_)
 refine Kq I (ki (l := s.vs) (f := vrC) (sz := 1) t.2.1.toNat 0 I I u22 I (fun _ => rfl) (A3 _).symm (by omega) (by decide) I) ?_
 refine Ys I (Ka I (Nt (Ce ?_)))
 exact R1 I I (by rfl)
theorem yb {s : SA} {w : World} {ok : Nat → Prop} (hF1 : (Fact.sl s.ga (gps s.gs)).holds ok w) (hF2 : (Fact.sl s.va (vrs s.vs)).holds ok w) (hF3 : (Fact.sl s.ea (qas s.es)).holds ok w) (hM : ∀ f ∈ (s.es.map qaF), f.holds ok w) (hs : saL s) (hfo : cJ s.core) :
  Cw 188 #[saV s] w (.int .i64 (if kdS s.core then 0 else 10)) := by
 have hs' := hs
 obtain ⟨hlg, hlv, hle, hlt, hlm⟩ := hs
 refine En (Fact.sl s.ga (gps s.gs) :: Fact.sl s.va (vrs s.vs) :: Fact.sl s.ea (qas s.es) :: (s.es.map qaF)) [(0, saV s)] Tryz.func188 I Tryz.ntmps188 I (Ac I (An _)) (Fc (ah hF1) (Fc (ah hF2) (Fc (ah hF3) (cQ hM)))) (Cs (Kh I (Oy I I) ?_))
 intro b1
 refine Ka I (Nt (Cq (Cs (Kf 1 I u58 I I I .tc u55 ?_))))
 refine Kc I (fun w hS => DN (l := s.vs) (fk := 224) (cs := #[]) (p := fun v => decide (v = [])) (by (exact hS.sl)) (by exact hlv) (by kernel_rfl) (by exact fun x hx w' hb => by rw [BA]; exact CL)) (Ns 8 I (v' := .bool (decide (¬ ∀ v ∈ s.vs, v ≠ []))) (congrArg Value.bool (by exact l4 _ _)) ?_)
 refine Yt I (Nt (Ci I (fun hc9 => ?_) (fun hc9 => ?_)))
 ·have hr : kdS s.core := Or.inl (by (exact Ah.1 hc9))
  refine Cs (Ka I (Nt (Ce (Xb ?_))))
  exact R1 I I (by rw [Ab hr]; rfl)
 ·have hnv : ¬ ∀ v ∈ s.vs, v ≠ [] := hc9
  refine Ck (Xa (Cs (Kq I (lda I I .tc u58 I ?_) ?_)))
  ·kernel_rfl
  refine Kc I (fun w hS => ph (s := s) (by (exact hS.sl)) (by exact hs')) (Kh I (Oa I (v := (.string (S []))) (cs := [.string (S [])]) (by kernel_rfl) I) ?_)
  intro b3
  refine Ng I I (st I I I .tc (by kernel_rfl) I ?_ (by (simp only [Av, Aw]; rfl))) ?_
  ·decide
  intro _
  refine Nt (Cq (WC.joinP (σ := Unit) [(1, _)] (fun gq => [(19, .bool (decide (¬ (f7 s.gs ≠ [] ∧ ∀ g ∈ s.gs, ¬ (g.2 ≠ [] ∧ g.2 ≠ f7 s.gs)))))]) (fun gq => True) (S1 I) ?_ ?_))
  ·skip
   refine Cg (Kq I (Ld I I .tc u22) ?_); refine Ys I (Km I (Nc 14 I (fun hg14 => ?_) (fun hg14 => ?_)))
   ·refine T4 I (Yp I (Nn (WX.joinP (()) (S1 I) (by refine (Sc ?_ (S0 _)) <;> ((refine ai rfl ?_; (try dsimp only); (simp [*]; done)))) ?_ (fun _ h => h)))); (try dsimp only); done
   ·refine Kf 0 I u58 I I I .tc u54 ?_; refine Kq I (dh I I I) (Kc I (fun w hS => DP (l := s.gs) (fk := 226) (p := fun g => decide (g.2 ≠ [] ∧ g.2 ≠ f7 s.gs)) (by (exact hS.sl)) (by exact hlg) (by kernel_rfl) (by exact fun x hx w' hb => by rw [AZ]; exact CN (ib hS.os hb))) (Ns 18 I (v' := .bool (decide (¬ ∀ g ∈ s.gs, ¬ (g.2 ≠ [] ∧ g.2 ≠ f7 s.gs)))) (congrArg Value.bool (by exact l4 _ _)) ?_)); refine Yq I (Nn (WX.joinP (()) (S1 I) (by refine (Sc ?_ (S0 _)) <;> ((refine ai rfl ?_; (try dsimp only); (simp [*]; done)))) ?_ (fun _ h => h))); (try dsimp only); done
  ·rintro _ hmeet; (try dsimp only at hmeet ⊢); refine Ci I (fun hc19 => ?_) (fun hc19 => ?_)
   ·refine Cs (Ka I (Nt (Ce (Xb ?_)))); exact R1 I I (by rw [Aa (fun h => h.elim hnv fun h => hc19 h.1)]; rfl)
   ·refine Ck (Xa (Cq (Cs (Kf 2 I u58 I I I .tc u56 ?_)))); refine Yo I u56 (Km I (Nt (Cb (Lp (σ := Nat) [(1, _), (21, _), (22, _)] (fun gq => [(23, .int .i64 (gq : Int))]) (fun gq => gq ≤ s.es.length ∧ ∀ q ∈ s.es.take gq, kdQ s.gs s.vs q.1) (fun gq => s.es.length - gq) (0) (S3 I I I) (S1 I) (by (try dsimp only); exact ⟨Aj _, by simp⟩) ?_)))); rintro k hinv1; (try dsimp only at hinv1 ⊢); obtain ⟨hk, hoq⟩ := hinv1; refine Cs (Yl I (Nt (Cq (Ci I (fun hc24 => ?_) (fun hc24 => ?_)))))
    ·have hkl : k < s.es.length := by omega
     have hkm := ao s.es k hkl; have hlt1 := hlt _ hkm; have hfq := hfo.2.2 _ (B7 hkm); have hgl : (s.es.getD k default).1.1.toNat < s.gs.length := by have := hfq.1.1.1; have := hfq.1.1.2; simp only [SA.core] at this; omega
     have hq0 := hfq.1.1.1; refine Ck (Xa (Cq (Cb (Cs (Kq I (Ia I I I u56 (by kernel_rfl : _ = some 3) (by omega) (by (rw [aj _ _ 3 (fun _ => rfl)]; omega))) ?_))))); refine Kq I (dx _ I I u95 I (by kernel_rfl : _ = some 3) (fun _ => rfl) (by decide) I (by assumption)) ?_; refine Kh I (Oz [.int .i64 0, .string (S []), .slice none 0 0] I) ?_; intro b5; refine Nu I I (Sa I I I .tc) (Nt (Cq (Cs (Kf 0 I u58 I I I .tc u54 ?_)))); refine Kf 0 I u95 I I I .tc u3 ?_; refine Kq I (Ia I I I u54 (by kernel_rfl : _ = some 2) (by omega) (by (rw [aj _ _ 2 (fun _ => rfl)]; omega))) ?_; (refine Kq I (faf I I u26 I (by kernel_rfl) (by (try simp only [sN, Int.reduceToNat, Nat.reduceAdd, Nat.reduceMul, Nat.reduceSub]); rfl)) ?_); refine Kq I (ki (sz := 2) _ 1 I I u22 I (fun _ => rfl) I (by assumption) (by decide) I) ?_; refine Yr I (Nt (Ci I (fun hc34 => ?_) (fun hc34 => ?_)))
     ·refine Cx (Xc (Xe (Xa (Cg (Kq I (Rz I I I (by omega)) (Km I (Nn ?_))))))); refine Ly (k + 1) (by (try dsimp only); omega) (S3 I I I) (by refine (Sc ?_ (S0 _)) <;> (rfl)) ?_ (by (exact ar)); (try dsimp only); exact ⟨hkl, az hkl hoq (by (exact Or.inl (by simpa using hc34)))⟩
     ·refine Ck (Xa (Cs (Kf 2 I u95 I I I .tc u93 ?_))); refine Kq I (dh I I I) (Kc I (fun w hS => ze (l := (s.es.getD k default).1.2.2) (fk := 227) (p := fun t => decide (s.vs.getD t.2.1.toNat default = [])) (hS.more (more := s.es.map qaF) _ (B7 hkm)) (by exact hlt1) (by kernel_rfl) (by exact fun x hx w' hb => by rw [AZ]; exact CM (ib hS.os hb) (ib hS.sl hb) (hfq.2 x hx).1.1 (hfq.2 x hx).1.2 hlv)) (Ns 38 I (v' := .bool (decide (¬ ∀ t ∈ (s.es.getD k default).1.2.2, s.vs.getD t.2.1.toNat default ≠ []))) (congrArg Value.bool (by exact l4 _ _)) ?_)); refine Nt (Ci I (fun hc38 => ?_) (fun hc38 => ?_))
      ·refine Cs (Ka I (Nt (Ce (Xf (Xb (Xb (Xf (Xb ?_)))))))); exact R1 I I (by rw [Aa (fun h => h.elim hnv fun h => (h.2 _ (B7 hkm)).elim (fun h => h (by simpa using hc34)) fun h => hc38 h)]; rfl)
      ·refine Ck (Xd (Xa (Cg (Kq I (Rz I I I (by omega)) (Km I (Nn (Ly (k + 1) (by (try dsimp only); omega) (S3 I I I) (by refine (Sc ?_ (S0 _)) <;> (rfl)) ?_ (by (exact ar))))))))); (try dsimp only); exact ⟨hkl, az hkl hoq (by (exact Or.inr (by simpa using hc38)))⟩
    ·refine Cx (Xc (Xc (Xe ?_))); obtain rfl : k = s.es.length := by omega
     rw [Ao] at hoq; refine Xa (Cs (Ka I (Nt (Ce ?_)))); exact R1 I I (by rw [Ab (show kdS s.core from Or.inr ⟨Ah.1 hc19, fx.2 hoq⟩)]; rfl)
def DK (i : Nat) : Nat := [136, 186, 187, 188].getD i default
def jo (s : Sm) (i : Nat) : Int := [if cJ s then 0 else 3, if f5 s then 0 else 6, if elS s then 0 else 13, if kdS s then 0 else 10].getD i default
theorem tF {i : Nat} (h : i < 4) : fg Tryz.prog (DK i) = true := by
 rcases i with _ | _ | _ | _ | i
 ·kernel_rfl
 ·kernel_rfl
 ·kernel_rfl
 ·kernel_rfl
 ·omega
theorem mY {s : Sm} (h : jo s 0 = 0) : cJ s := by
 have h1 : (if cJ s then (0 : Int) else 3) = 0 := h
 split at h1
 ·assumption
 ·simp at h1
theorem BI {s : SA} {w : World} {ok : Nat → Prop} (h1 : (Fact.sl s.ga (gps s.gs)).holds ok w) (h2 : (Fact.sl s.va (vrs s.vs)).holds ok w) (h3 : (Fact.sl s.ea (qas s.es)).holds ok w) (hM : ∀ f ∈ s.es.map qaF, f.holds ok w) (hs : saL s) {i : Nat} (hi : i < 4) (h0 : ∀ j, j < i → jo s.core j = 0) :
  Calls Tryz.prog (DK i) #[saV s] w fun e w' => e = .returned (.int .i64 (jo s.core i)) ∧ Below w.heap.size w w' := by
 rcases i with _ | _ | _ | _ | i
 ·exact vH h1 h2 h3 hM hs
 ·exact xm h1 h2 h3 hs
 ·exact yw h1 h3 hM hs (mY (h0 0 (by decide)))
 ·exact yb h1 h2 h3 hM hs (mY (h0 0 (by decide)))
 ·omega
theorem yH {s : Sm} {i : Nat} (hi : i < 4) (h0 : ∀ j, j < i → jo s j = 0) (h1 : jo s i ≠ 0) : lV s = jo s i := by
 have a0 := h0 0; have a1 := h0 1; have a2 := h0 2
 simp only [jo, B8, C4] at a0 a1 a2
 unfold lV
 rcases i with _ | _ | _ | _ | i
 ·simp only [jo, B8] at h1 ⊢; by_cases h : cJ s <;> simp [h] at h1 ⊢
 ·have f0 : cJ s := Ay fun h => by simp [h] at a0
  simp only [jo, B8, C4] at h1 ⊢; by_cases h : f5 s <;> simp [h, f0] at h1 ⊢
 ·have f0 : cJ s := Ay fun h => by simp [h] at a0
  have f1 : f5 s := Ay fun h => by simp [h] at a1
  simp only [jo, B8, C4] at h1 ⊢; by_cases h : elS s <;> simp [h, f0, f1] at h1 ⊢
 ·have f0 : cJ s := Ay fun h => by simp [h] at a0
  have f1 : f5 s := Ay fun h => by simp [h] at a1
  have f2 : elS s := Ay fun h => by simp [h] at a2
  simp only [jo, B8, C4] at h1 ⊢; by_cases h : kdS s <;> simp [h, f0, f1, f2] at h1 ⊢
 ·omega
theorem yG {s : Sm} (h0 : ∀ j, j < 4 → jo s j = 0) : lV s = 0 := by
 have a0 := h0 0 (by decide); have a1 := h0 1 (by decide); have a2 := h0 2 (by decide); have a3 := h0 3 (by decide)
 simp only [jo, B8, C4] at a0 a1 a2 a3
 have f0 : cJ s := Ay fun h => by simp [h] at a0
 have f1 : f5 s := Ay fun h => by simp [h] at a1
 have f2 : elS s := Ay fun h => by simp [h] at a2
 have f3 : kdS s := Ay fun h => by simp [h] at a3
 simp [lV, f0, f1, f2, f3]
theorem ym (v : Value) : (#[] : Array Value) ++ [v].toArray ++ #[] = #[v] := by simp
theorem vq {s : SA} {w : World} {ok : Nat → Prop} (hF1 : (Fact.sl s.ga (gps s.gs)).holds ok w) (hF2 : (Fact.sl s.va (vrs s.vs)).holds ok w) (hF3 : (Fact.sl s.ea (qas s.es)).holds ok w) (hM : ∀ f ∈ (s.es.map qaF), f.holds ok w) (hs : saL s) :
  Cw 139 #[saV s] w (.int .i64 (lV s.core)) := by
 refine En (Fact.sl s.ga (gps s.gs) :: Fact.sl s.va (vrs s.vs) :: Fact.sl s.ea (qas s.es) :: (s.es.map qaF)) [(0, saV s)] Tryz.func139 I Tryz.ntmps139 I (Ac I (An _)) (Fc (ah hF1) (Fc (ah hF2) (Fc (ah hF3) (cQ hM)))) (Cs (Kh I (Oy I I) ?_))
 intro b1
 refine Ka I (Nt (Cq (Cs (Kq I (Kb [[.nilFunc], [.nilFunc], [.nilFunc], [.nilFunc]] I I) (Km I (Nt (Cb (Lp (σ := Nat) [(1, _), (6, _)] (fun gq => [(7, .int .i64 (gq : Int))]) (fun gq => gq ≤ 4 ∧ ∀ j, j < gq → jo s.core j = 0) (fun gq => 4 - gq) (0) (S2 I I) (S1 I) (by (try dsimp only); exact ⟨Aj _, fun _ h => absurd h (D6 _)⟩) ?_))))))))
 rintro i hinv1; (try dsimp only at hinv1 ⊢)
 obtain ⟨hi, hok⟩ := hinv1
 refine Cs (Yl I (Nt (Cq (Ci I (fun hc8 => ?_) (fun hc8 => ?_)))))
 ·have hil : i < 4 := by omega
  refine Ck (Xa (Cq (Cb (Cs (Kq I (kt I I I Eo Ep I (by kernel_rfl) ?_ (by rw [Au]; exact gF [136, 186, 187, 188] (fun k : Nat => Value.func (.func k) #[] #[]) i hil)) ?_)))))
  ·omega
  refine Ka I (Nt (Cs (Km I (Kq I (lda I I .tc u58 I ?_) ?_))))
  ·kernel_rfl
  refine Ku I (aP I I I (tF hil) (ym _) (Kv fun w hS => BI hS.sl hS.sl hS.sl hS.more hs hil hok)) (Ka I (Nt (Cs (Km I (Yj I (Nt (Ci I (fun hc14 => ?_) (fun hc14 => ?_))))))))
  ·have hr := yH hil hok hc14; refine Cs (Km I (Ka I (Nt (Ce (Xf (Xb (Xb (Xf (Xb ?_))))))))); exact R1 I I (by rw [hr]; rfl)
  ·refine Ck (Xd (Xa (Cg (Kq I (Rz I I I (by omega)) (Km I (Nn (Ly (i + 1) (by (try dsimp only); omega) (S2 I I) (by refine (Sc ?_ (S0 _)) <;> (rfl)) ?_ (fun _ h => h)))))))); (try dsimp only); exact ⟨hil, fun j hj => by rcases C8.1 hj with h | h; exact hok j h; subst h; simpa using hc14⟩
 ·refine Cx (Xc (Xc (Xe ?_)))
  obtain rfl : i = 4 := by omega
  refine Xa (Cs (Ka I (Nt (Ce ?_))))
  exact R1 I I (by rw [yG hok]; rfl)
theorem BX {x : Zs} {w : World} :
  Cw 138 #[.agg #[.bool x.1, .string (S x.2)]] w (.bool (decide (¬ okZ x))) := by
 refine En [] [(0, .agg #[.bool x.1, .string (S x.2)])] Tryz.func138 I Tryz.ntmps138 I (Ac I (An _)) Fn (Cs (Kh I (Oy I I) ?_))
 intro b1
 refine Ka I (Nt (Cs (Kq I (lda I I .tc u37 I ?_) ?_)))
 ·kernel_rfl
 refine Kc I (fun w hS => ep (x := x)) (Yt I (Ka I (Nt (Ce ?_))))
 exact R1 I I (by (simp [tup]; done))
theorem xK {s : SA} {ws : List Zs} {a : Option Addr} {c : Nat} {w : World} {ok : Nat → Prop} (hF1 : (Fact.sl s.ga (gps s.gs)).holds ok w) (hF2 : (Fact.sl s.va (vrs s.vs)).holds ok w) (hF3 : (Fact.sl s.ea (qas s.es)).holds ok w) (hF4 : (Fact.sl a (aY ws)).holds ok w) (hM : ∀ f ∈ (s.es.map qaF), f.holds ok w) (hs : saL s) (hw : ws.length ≤ 100000) :
  Cw 78 #[saV s, .slice a ws.length c] w (.int .i64 (iv s.core ws)) := by
 refine En (Fact.sl s.ga (gps s.gs) :: Fact.sl s.va (vrs s.vs) :: Fact.sl s.ea (qas s.es) :: Fact.sl a (aY ws) :: (s.es.map qaF)) [(0, saV s), (1, .slice a ws.length c)] Tryz.func78 I Tryz.ntmps78 I (Ac I (Ac I (An _))) (Fc (ah hF1) (Fc (ah hF2) (Fc (ah hF3) (Fc (ah hF4) (cQ hM))))) (Cs (Kh I (Oy I I) ?_))
 intro b2
 refine Ka I (Nt (Cq (WC.joinP (σ := Unit) [(1, _), (2, _)] (fun gq => [(12, .bool (decide (¬ (cJ s.core ∧ ∀ x ∈ ws, okZ x))))]) (fun gq => True) (S2 I I) ?_ ?_)))
 ·skip
  refine Cg (Kq I (lda I I .tc u58 I ?_) ?_)
  ·kernel_rfl
  refine Kc I (fun w hS => vH (s := s) (by (exact hS.sl)) (by (exact hS.sl)) (by (exact hS.sl)) (by (exact hS.more)) (by exact hs)) (Yj I (Ns 8 I (v' := .bool (decide (¬ cJ s.core))) (congrArg Value.bool (by split <;> simp_all)) ?_))
  refine Km I (Nc 9 I (fun hg9 => ?_) (fun hg9 => ?_))
  ·refine T2 I (Yp I (Nn (WX.joinP (()) (S2 I I) (by refine (Sc ?_ (S0 _)) <;> ((refine ai rfl ?_; (try dsimp only); (simp [*]; done)))) ?_ (fun _ h => h)))); (try dsimp only); done
  ·refine Km I (Kc I (fun w hS => DM (l := ws) (fk := 138) (cs := #[]) (p := fun x => decide (¬ okZ x)) (by (exact hS.sl)) (by exact hw) (by kernel_rfl) (by exact fun x hx w' hb => by rw [BA]; exact BX)) (Ns 11 I (v' := .bool (decide (¬ ∀ x ∈ ws, okZ x))) (congrArg Value.bool (by exact si _ _)) ?_)); refine Yq I (Nn (WX.joinP (()) (S2 I I) (by refine (Sc ?_ (S0 _)) <;> ((refine ai rfl ?_; (try dsimp only); (simp [*]; done)))) ?_ (fun _ h => h))); (try dsimp only); done
 ·rintro _ hmeet; (try dsimp only at hmeet ⊢)
  refine Ci I (fun hc12 => ?_) (fun hc12 => ?_)
  ·have hr : iv s.core ws = 3 := by
    rw [iv]; by_cases h : cJ s.core
    ·rw [Aa (fun h2 => h2 h), Ab (fun h2 => hc12 ⟨h, h2⟩)]
    ·rw [Ab h]
   refine Cs (Ka I (Nt (Ce (Xb ?_)))); exact R1 I I (by rw [hr]; rfl)
  ·obtain ⟨hf1, hz1⟩ := Ah.1 hc12; refine Ck (Xa (Cq (Cs (Kq I (lda I I .tc u58 I ?_) ?_))))
   ·kernel_rfl
   refine Kc I (fun w hS => vq (s := s) (by (exact hS.sl)) (by (exact hS.sl)) (by (exact hS.sl)) (by (exact hS.more)) (by exact hs)) (Ka I (Nt (Cs (Km I (Yj I (Nt (Ci I (fun hc16 => ?_) (fun hc16 => ?_))))))))
   ·refine Cs (Km I (Ka I (Nt (Ce (Xb ?_))))); exact R1 I I (by rw [iv, Aa (fun h => h hf1), Aa (fun h => h hz1), Ab (by simpa using hc16)]; rfl)
   ·have hk0 : lV s.core = 0 := by simpa using hc16
    refine Ck (Xa (Cq (Cs (Km I (Yo I u39 (Kf 1 I u58 I I I .tc u55 ?_)))))); refine Yo I u55 (Yj I (Nt (Ci I (fun hc23 => ?_) (fun hc23 => ?_))))
    ·refine Cs (Ka I (Nt (Ce (Xb ?_)))); exact R1 I I (by rw [iv, Aa (fun h => h hf1), Aa (fun h => h hz1), Aa (fun h => h hk0), Ab (fun h => hc23 (by rw [h]))]; rfl)
    ·refine Ck (Xa (Cs (Ka I (Nt (Ce ?_))))); exact R1 I I (by rw [iv, Aa (fun h => h hf1), Aa (fun h => h hz1), Aa (fun h => h hk0), Aa (fun h => h (show ws.length = s.vs.length by omega))]; rfl)
section
variable {P : Program} {ok : Nat → Prop} {w0 w : World} {own : List Ent} {fs : List Fact} {γ : Type} {f : FuncId} {args : Array Value} {val : γ → Value} {p : γ → Prop} {F : γ → List Fact} {xs : List Value}
theorem kB (h : ∀ w, St ok w0 own fs w → Calls P f args w (fun e w' => ∃ g, e = .returned (val g) ∧ p g ∧ Below w.heap.size w w' ∧ ∀ x ∈ F g, x.holds (fun b => w.heap.size ≤ b) w')) :
  ∀ w, St ok w0 own fs w → Calls P f args w (fun e w' => ∃ g, e = .returned (val g) ∧ p g ∧ St ok w0 own (F g ++ fs) w') :=
 eh fun w hS => (h w hS).mono fun _ w' ⟨g, he, hp, hb, hF⟩ => ⟨g, he, hp, hb, fun x hx => x.mono (fun _ h => .inr h) (hF x hx)⟩
theorem St.ocf (h : St ok w0 own fs w) {ob : Option Nat} {sp : List Value} {T : TypeId} {C : Ent → List Ent} [hf : HasC own ob (xs ++ sp) T C] : (Fact.sl (ob.map fun b => ⟨b, 0, none⟩) xs).holds (fun b => w0.heap.size ≤ b) w := by
 obtain ⟨k, hk, _⟩ := hf.h.get
 have := h.own_ _ (A7 hk)
 cases ob with
 | none => exact .inl (by have h1 : xs ++ sp = [] := this; simp at h1; exact h1.1)
 | some b =>
  refine .inr ⟨b, 0, (xs ++ sp).toArray, T, (0, 0), rfl, this.1, this.2, fun i hi => ?_⟩
  rw [A0, Di, B9 hi]
end
section
variable {ds : List Deferred} {P : Program} {ops l : List Oper} {Q : Exit → Act → World → Prop} {n : Nat} {L : al} {ok : Nat → Prop} {w0 : World} {own : List Ent} {fs : List Fact} {x y : Fact}
theorem WL.fa2 (k : WL ds P ops Q n l L (St ok w0 own (x :: y :: fs))) : WL ds P ops Q n l L (St ok w0 own ([x, y] ++ fs)) := k
end
def bsQ (ws : List Zs) (q : Qn) : List Bs := if (exQ ws q).2 ≠ 0 then [] else q.2.2.map (·.1)
theorem qp {ws : List Zs} {q : Qn} {i : Nat} (h : i < q.2.2.length) (h0 : ∀ t ∈ q.2.2.take i, (exT ws t).2 = 0) (h1 : (exT ws (q.2.2.getD i default)).2 ≠ 0) : exQ ws q = ([], (exT ws (q.2.2.getD i default)).2) := by
 rw [exQ, rI h h0 h1, Ab h1]
theorem qo {ws : List Zs} {q : Qn} (h0 : ∀ t ∈ q.2.2, (exT ws t).2 = 0) : exQ ws q = (q.2.2.map fun t => (exT ws t).1, 0) := by
 rw [exQ, pq h0, Aa (by decide)]
theorem w5 {l : List Tm} {i : Nat} (h : i < l.length) : ak ((l.take (i + 1)).map (·.1)) = ak ((l.take i).map (·.1)) ++ [.string (S (l.getD i default).1)] := by
 rw [aL h, Cr]; simp [ak]
theorem w6 {l : List Tm} (f : Tm → Zs) {i : Nat} (h : i < l.length) : aY ((l.take (i + 1)).map f) = aY ((l.take i).map f) ++ zc (f (l.getD i default)) := by
 rw [aL h, Cr]; simp
theorem ww {ws : List Zs} {q : Qn} {i : Nat} (h : i < q.2.2.length) (h0 : ∀ t ∈ q.2.2.take i, (exT ws t).2 = 0) (h1 : (exT ws (q.2.2.getD i default)).2 ≠ 0) : bsQ ws q = [] := by
 rw [bsQ, qp h h0 h1, Ab h1]
theorem tA {q : QA} {ws : List Zs} {p : Nat} {a : Option Addr} {c : Nat} {w : World} {ok : Nat → Prop} (hF1 : (Fact.sl (some ⟨p, 0, none⟩) [.slice a ws.length c]).holds ok w) (hF2 : (Fact.sl a (aY ws)).holds ok w) (hF3 : (Fact.sl q.2.1 (tms q.1.2.2)).holds ok w) (hw : ws.length ≤ 100000) (hl : q.1.2.2.length ≤ 100000) (ht : ∀ t ∈ q.1.2.2, 0 ≤ t.2.1 ∧ t.2.1 < ws.length) :
  Calls Tryz.prog 141 #[.agg #[.int .i64 q.1.1, .string (S q.1.2.1), .slice q.2.1 q.1.2.2.length q.2.2], .pointer (some ⟨p, 0, none⟩)] w fun e w' => ∃ gx : Rs × Rs, e = .returned (.tuple #[gx.1.val (bsQ ws q.1).length, gx.2.val (exQ ws q.1).1.length, .int .i64 (exQ ws q.1).2]) ∧ (True) ∧ Below w.heap.size w w' ∧ ∀ x ∈ ([Fact.sl gx.1.a (ak (bsQ ws q.1)), Fact.sl gx.2.a (aY (exQ ws q.1).1)] : List Fact), x.holds (fun b => w.heap.size ≤ b) w' := by
 refine En [Fact.sl (some ⟨p, 0, none⟩) [.slice a ws.length c], Fact.sl a (aY ws), Fact.sl q.2.1 (tms q.1.2.2)] [(0, .agg #[.int .i64 q.1.1, .string (S q.1.2.1), .slice q.2.1 q.1.2.2.length q.2.2]), (1, .pointer (some ⟨p, 0, none⟩))] Tryz.func141 I Tryz.ntmps141 I (Ac I (Ac I (An _))) (Fc (ah hF1) (Fc (ah hF2) (Fc (ah hF3) Fn))) (Cs (Kh I (Oy I I) ?_))
 intro b2
 refine Ka I (Ka I (Ka I (Nt (Cs (Ka I (Nt (Cs (Ka I (Nt (Cq (Cs (Kf 2 I u95 I I I .tc u93 ?_))))))))))))
 refine Yo I u93 (Km I (Nt (Cb (Lo (σ := Nat × (Option Nat) × Nat × (List Value) × (Option Nat) × Nat × (List Value)) [(1, _), (13, _), (14, _)] (fun gq => [(6, .slice (gq.2.1.map fun b => ⟨b, 0, none⟩) gq.1 gq.2.2.1), (7, .slice (gq.2.2.2.2.1.map fun b => ⟨b, 0, none⟩) gq.1 gq.2.2.2.2.2.1), (15, .int .i64 (gq.1 : Int))]) (fun gq => (gq.1 ≤ q.1.2.2.length ∧ gq.2.2.1 = gq.1 + gq.2.2.2.1.length ∧ gq.2.2.2.2.2.1 * 2 = gq.1 * 2 + gq.2.2.2.2.2.2.length) ∧ ∀ t ∈ q.1.2.2.take gq.1, (exT ws t).2 = 0) (fun gq => q.1.2.2.length - gq.1) (fun gq => [⟨gq.2.2.2.2.1, aY ((q.1.2.2.take gq.1).map fun t => (exT ws t).1) ++ gq.2.2.2.2.2.2, 37⟩, ⟨gq.2.1, ak ((q.1.2.2.take gq.1).map (·.1)) ++ gq.2.2.2.1, 22⟩, ⟨some b2, [.int .i64 q.1.1, .string (S q.1.2.1), .slice q.2.1 q.1.2.2.length q.2.2], 95⟩]) (fun gq => [Fact.sl (some ⟨p, 0, none⟩) [.slice a ws.length c], Fact.sl a (aY ws), Fact.sl q.2.1 (tms q.1.2.2)]) (0, none, 0, [], none, 0, []) (S3 I I I) (S3 I I I) (by (try dsimp only); exact ⟨⟨Aj _, rfl, rfl⟩, by simp⟩) (by exact fun w h => (h.nil _).nil _) ?_))))
 rintro ⟨i, o, cp, sp, o2, cp2, sp2⟩ hinv1; (try dsimp only at hinv1 ⊢)
 obtain ⟨⟨hi, hcp, hcp2⟩, hok⟩ := hinv1
 refine Cs (Yl I (Nt (Cq (Ci I (fun hc16 => ?_) (fun hc16 => ?_)))))
 ·have hil : i < q.1.2.2.length := by omega
  have htm := ht _ (ao _ _ hil)
  have htl : (q.1.2.2.getD i default).2.1.toNat < ws.length := by omega
  refine Ck (Xa (Cq (Cb (Cs (Kq I (Ia I I I u93 (by kernel_rfl : _ = some 4) (by omega) (by (rw [aj _ _ 4 (fun _ => rfl)]; omega))) ?_)))))
  refine Kq I (dx _ I I ke I (by kernel_rfl : _ = some 4) (fun _ => rfl) (by decide) I (by assumption)) ?_
  refine Kh I (Oz [.string (S []), .int .i64 0, .bool false, .string (S [])] I) ?_
  intro b9
  refine Nu I I (Sa I I I .tc) (Nt (Cq (Cf [0, 1, 2, 3, 4, 5, 6, 7, 8, 9, 11, 12, 10, 13] [] [0, 0, 0, 0, 0, 0, 0, 1, 0, 0, 0, 3, 1, 0] (by kernel_rfl) (by kernel_rfl) I ?_)))
  refine Kj I (Fa (q := 2) I I ke I I) ?_
  refine Kj I (ldp I I .tc u37 I (by kernel_rfl : _ = some 2) (by rfl) (by rfl)) ?_
  refine Kj I (ldf (m := 0) I I .tc u39 I I I) ?_
  refine Kj I (Fa (q := 1) I I ke I I) (Kj I (Ld I I .tc u3) ?_)
  refine Kj I (Ia I I I u39 (by kernel_rfl : _ = some 2) (by assumption) (by (rw [aj _ _ 2 (fun _ => rfl)]; omega))) ?_
  refine Kj I (dx _ I I u37 I (by kernel_rfl : _ = some 2) (fun _ => rfl) (by decide) I (by assumption)) ?_
  refine Jv I I I I I (fun ext => Oc I I (Kv fun w hS => pL (x := (q.1.2.2.getD i default).2.2) (y := ws.getD (q.1.2.2.getD i default).2.1.toNat default))) ?_
  refine Kj I (Rm I I) (Kj I (Re I I I) ?_)
  refine Jf I I I I I (cm I (v := (.agg #[.bool false, .string (S [])])) (cs := [.bool false, .string (S [])]) (by kernel_rfl) I) ?_
  intro b10
  refine WJ.st I I I I (ip I I I ?_ ?_ ?_) ?_
  ·kernel_rfl
  ·simp [Value.oneCell']
  ·rfl
  refine Kj I (Re I I I) (Kj I (Ra I I) ?_)
  refine WJ.nil ?_
  refine Nt (Cq (Cs (Km I (Yj I (Nt (Ci I (fun hc31 => ?_) (fun hc31 => ?_)))))))
  ·refine Cs (Km I (Ka I (Ka I (Ka I (Nt (Ce (Xb (Xf (Xb (Xb (Xf (Xb ?_)))))))))))); exact Rn I (.tmp I (.tmp I (.tmp I .nil))) fun w' hS => ⟨(⟨none, 0, []⟩, ⟨none, 0, []⟩), by rw [ww hil hok hc31, qp hil hok hc31]; rfl, trivial, hS.below, by rw [ww hil hok hc31, qp hil hok hc31]; exact Fc bI (Fc bI Fn)⟩
  ·have hx0 : (exT ws (q.1.2.2.getD i default)).2 = 0 := by simpa [exT] using hc31
   have hln : (aY ((q.1.2.2.take i).map fun t => (exT ws t).1)).length = i * 2 := by rw [aj _ _ 2 (fun _ => rfl), Af, Bo]; omega
   have hls : (ak ((q.1.2.2.take i).map (·.1))).length = i := by simp [ak]; omega
   refine Ck (Xa (WC.free (K := [⟨some b10, [.bool (bV (q.1.2.2.getD i default).2.2 (ws.getD (q.1.2.2.getD i default).2.1.toNat default)).1.1, .string (S (bV (q.1.2.2.getD i default).2.2 (ws.getD (q.1.2.2.getD i default).2.1.toNat default)).1.2)], 37⟩, ⟨some b9, [.string (S (q.1.2.2.getD i default).1), .int .i64 (q.1.2.2.getD i default).2.1, .bool (q.1.2.2.getD i default).2.2.1, .string (S (q.1.2.2.getD i default).2.2.2)], 122⟩]) (fs0 := []) [0, 1, 2, 3, 4, 5, 6, 7, 8, 9, 10] [] [0, 0, 0, 3, 1, 0, 0, 3, 1, 0, 0] (by kernel_rfl) (by kernel_rfl) I ?_)); refine Kj I (Rm I I) (Kj I (Fa (q := 0) I I ke I I) (Kj I (Ld I I .tc u22) ?_)); refine Jf I I I I I (jQ I I u31 (by kernel_rfl : _ = some (some (.string (S [])), 1, 16)) I (by simp only [List.map]; rfl) I I ?_ (by decide)) ?_
   ·simp [Value.cells]
   intro b36; refine Jg I I I I I (pD I u31 (by kernel_rfl : _ = some (some (.string (S [])), 1, 16)) I .tc I I (fun ext w hS => by (exact hS.os)) (by rfl) (by refine ⟨?_, ?_, ?_, ?_⟩ <;> first | exact hls | (try simp) <;> omega) (by (simp [Value.oneCell']; done))) ?_; rintro ⟨o37, c37, s37⟩ hg37; (try dsimp only at hg37 ⊢); refine Kj I (Rm I I) ?_; refine Kj I (lda I I .tc u37 I ?_) ?_
   ·kernel_rfl
   refine Jf I I I I I (iD I I u39 (by kernel_rfl : _ = some (some (.agg #[.bool false, .string (S [])]), 2, 24)) (by kernel_rfl) (by decide) I I (by (simp [Value.cells]; done)) (by (exact cY _)) (by decide)) ?_; intro b40; refine Jg I I I I I (ox I u39 (by kernel_rfl : _ = some (some (.agg #[.bool false, .string (S [])]), 2, 24)) (by kernel_rfl) (by decide) .tc I I (fun ext w hS => by (exact hS.os)) (by rfl) (by refine ⟨?_, ?_, ?_, ?_⟩ <;> first | exact hln | omega) (by (simp [Value.oneCell']; done))) ?_; rintro ⟨o41, c41, s41⟩ hg41; (try dsimp only at hg41 ⊢); refine Kj I (Ra I I) (Kj I (Ra I I) ?_); refine WJ.nil ?_; refine Nn (Xd (Xa (Cg (Kq I (Rz I I I (by omega)) (Km I (Nn (Lx ((i + 1, o37, c37, s37, o41, c41, s41)) (by (try dsimp only); omega) (S3 I I I) (by refine (Sc ?_ (Sc ?_ (Sc ?_ (S0 _)))) <;> (rfl)) ?_ (by exact fun w h => by rw [w5 hil, w6 _ hil]; exact ar _ h)))))))); (try dsimp only); exact ⟨⟨hil, by omega, by omega⟩, az hil hok hx0⟩
 ·refine Cx (Xc (Xc (Xe ?_)))
  obtain rfl : i = q.1.2.2.length := by omega
  rw [Ao] at hok
  rw [Ao]
  refine Xa (Cs (Km I (Km I (Ka I (Ka I (Ka I (Nt (Ce ?_))))))))
  exact Rn I (.tmp I (.tmp I (.tmp I .nil))) fun w' hS => ⟨(⟨o, cp, sp⟩, ⟨o2, cp2, sp2⟩), by rw [bsQ, qo hok, Aa (fun h => h rfl), Af, Af]; rfl, trivial, hS.below, by rw [bsQ, qo hok, Aa (fun h => h rfl)]; exact Fc hS.ocf (Fc hS.ocf Fn)⟩
theorem ti {s : SA} {ws : List Zs} {a : Option Addr} {c : Nat} {w : World} {ok : Nat → Prop} (hF1 : (Fact.sl s.ga (gps s.gs)).holds ok w) (hF2 : (Fact.sl s.va (vrs s.vs)).holds ok w) (hF3 : (Fact.sl a (aY ws)).holds ok w) (hs : saL s) (hw : ws.length = s.vs.length) (hfo : cJ s.core) (hz : ∀ x ∈ ws, okZ x) :
  Cw 79 #[saV s, .slice a ws.length c] w (.bool (decide (inR s.core ws))) := by
 have hs' := hs
 obtain ⟨hlg, hlv, hle, hlt, hlm⟩ := hs
 have hoo : okN (f7 s.gs) := u1 hfo.1
 refine En [Fact.sl s.ga (gps s.gs), Fact.sl s.va (vrs s.vs), Fact.sl a (aY ws)] [(0, saV s), (1, .slice a ws.length c)] Tryz.func79 I Tryz.ntmps79 I (Ac I (Ac I (An _))) (Fc (ah hF1) (Fc (ah hF2) (Fc (ah hF3) Fn))) (Cs (Kh I (Oy I I) ?_))
 intro b2
 refine Ka I (Nt (Cq (Cs (Kf 1 I u58 I I I .tc u55 ?_))))
 refine Yo I u55 (Km I (Nt (Cb (Lp (σ := Nat) [(1, _), (2, _), (9, _), (10, _)] (fun gq => [(11, .int .i64 (gq : Int))]) (fun gq => gq ≤ s.vs.length ∧ ∀ j, j < gq → inV (f7 s.gs) (s.vs.getD j default) (ws.getD j default)) (fun gq => s.vs.length - gq) (0) (S4 I I I I) (S1 I) (by (try dsimp only); exact ⟨Aj _, fun _ h => absurd h (D6 _)⟩) ?_))))
 rintro i hinv1; (try dsimp only at hinv1 ⊢)
 obtain ⟨hi, hok⟩ := hinv1
 refine Cs (Yl I (Nt (Cq (Ci I (fun hc12 => ?_) (fun hc12 => ?_)))))
 ·have hil : i < s.vs.length := by omega
  have hwl : i < ws.length := by omega
  have hov : okN (s.vs.getD i default) := hfo.2.1 _ (ao _ _ hil)
  have hoz := (hz _ (ao _ _ hwl)).1
  refine Ck (Xa (Cq (Cb (Cs (Km I (Kq I (Ib I I I u55 (by omega) (by (rw [aj _ _ 1 (fun _ => rfl)]; omega))) ?_))))))
  refine Kq I (dx _ I I pO I (by kernel_rfl : _ = some 1) (fun _ => rfl) (by decide) (A3 _).symm (by assumption)) ?_
  refine Kh I (Oz [.string (S [])] I) ?_
  intro b6
  refine Ka I (Nu I I (Sa I I I .tc) (Nt (Cs (Kf 0 I pO I I I .tc u22 ?_))))
  refine Ka I (Nt (Cq (Cs (Km I (Ys I (Nt (Ci I (fun hc19 => ?_) (fun hc19 => ?_))))))))
  ·have hv0 : s.vs.getD i default = [] := by simpa using hc19
   refine Cs (Kq I (lda I I .tc u58 I ?_) ?_)
   ·kernel_rfl
   refine Kc I (fun w hS => ph (s := s) (by (exact hS.sl)) (by exact hs')) (Ka I (Nt (Cs (Km I (Km I (Kq I (Ia I I I u39 (by kernel_rfl : _ = some 2) (by omega) (by (rw [aj _ _ 2 (fun _ => rfl)]; omega))) ?_)))))); (refine Kq I (faf I I u37 I (by kernel_rfl) (by (try simp only [sN, Int.reduceToNat, Nat.reduceAdd, Nat.reduceMul, Nat.reduceSub]); rfl)) ?_); refine Kq I (ki (sz := 2) _ 0 I I u4 I (fun _ => rfl) I (by assumption) (by decide) I) ?_; refine Nt (Ci I (fun hc26 => ?_) (fun hc26 => ?_))
   ·have hn : ¬ inR s.core ws := fun h => by
     have h1 := h i hil; rw [inV, Ab hv0] at h1; rw [h1.1] at hc26; cases hc26
    refine Cs (Ka I (Nt (Ce (Xb (Xf (Xb (Xb (Xf (Xb ?_))))))))); exact R1 I I (by rw [Ap hn]; rfl)
   ·refine Ck (Xa (Cs (Km I (Km I (Kq I (Ia I I I u39 (by kernel_rfl : _ = some 2) (by omega) (by (rw [aj _ _ 2 (fun _ => rfl)]; omega))) ?_))))); (refine Kq I (faf I I u37 I (by kernel_rfl) (by (try simp only [sN, Int.reduceToNat, Nat.reduceAdd, Nat.reduceMul, Nat.reduceSub]); rfl)) ?_); refine Kq I (ki (sz := 2) _ 1 I I u22 I (fun _ => rfl) I (by assumption) (by decide) I) ?_; refine Km I (Kc I (fun w hS => eF (a := (ws.getD i default).2)) (Yh I (Nt (Ci I (fun hc34 => ?_) (fun hc34 => ?_)))))
    ·have hn : ¬ inR s.core ws := fun h => by
      have h1 := h i hil; rw [inV] at h1; simp only [SA.core] at h1; (rw [Ab hv0] at h1; rw [aD hoz hoo] at hc34; have := (dR _ _).1 hc34; have h2 := h1.2; omega)
     refine Cs (Ka I (Nt (Ce (Xf (Xb (Xb (Xf (Xb ?_)))))))); exact R1 I I (by rw [Ap hn]; rfl)
    ·have hlt : inV (f7 s.gs) (s.vs.getD i default) (ws.getD i default) := by
      rw [inV]; (rw [Ab hv0]; rw [aD hoz hoo, ] at hc34; exact ⟨by simpa using hc26, (ax _ _).1 (by omega)⟩)
     refine Ck (Xd (Xa (Cg (Kq I (Rz I I I (by omega)) (Km I (Nn (Ly (i + 1) (by (try dsimp only); omega) (S4 I I I I) (by refine (Sc ?_ (S0 _)) <;> (rfl)) ?_ (by (exact ar))))))))); (try dsimp only); exact ⟨hil, fun j hj => by rcases C8.1 hj with h | h; exact hok j h; subst h; exact hlt⟩
  ·have hv0 : s.vs.getD i default ≠ [] := by simpa using hc19
   refine Ck (Xa (Cs (Km I (Km I (Kq I (Ia I I I u39 (by kernel_rfl : _ = some 2) (by omega) (by (rw [aj _ _ 2 (fun _ => rfl)]; omega))) ?_))))); (refine Kq I (faf I I u37 I (by kernel_rfl) (by (try simp only [sN, Int.reduceToNat, Nat.reduceAdd, Nat.reduceMul, Nat.reduceSub]); rfl)) ?_); refine Kq I (ki (sz := 2) _ 1 I I u22 I (fun _ => rfl) I (by assumption) (by decide) I) ?_; refine Km I (Kc I (fun w hS => eF (a := (ws.getD i default).2)) (Yh I (Nt (Ci I (fun hc34 => ?_) (fun hc34 => ?_)))))
   ·have hn : ¬ inR s.core ws := fun h => by
     have h1 := h i hil; rw [inV] at h1; simp only [SA.core] at h1; (rw [Aa hv0] at h1; rw [aD hoz hov] at hc34; have := (dR _ _).1 hc34; omega)
    refine Cs (Ka I (Nt (Ce (Xf (Xb (Xb (Xf (Xb ?_)))))))); exact R1 I I (by rw [Ap hn]; rfl)
   ·have hlt : inV (f7 s.gs) (s.vs.getD i default) (ws.getD i default) := by
     rw [inV]; (rw [Aa hv0]; rw [aD hoz hov] at hc34; exact (ax _ _).1 (by omega))
    refine Ck (Xd (Xa (Cg (Kq I (Rz I I I (by omega)) (Km I (Nn (Ly (i + 1) (by (try dsimp only); omega) (S4 I I I I) (by refine (Sc ?_ (S0 _)) <;> (rfl)) ?_ (by (exact ar))))))))); (try dsimp only); exact ⟨hil, fun j hj => by rcases C8.1 hj with h | h; exact hok j h; subst h; exact hlt⟩
 ·refine Cx (Xc (Xc (Xe ?_)))
  obtain rfl : i = s.vs.length := by omega
  refine Xa (Cs (Ka I (Nt (Ce ?_))))
  exact R1 I I (by rw [Aq (show inR s.core ws from fun j hj => hok j hj)]; rfl)
theorem n6 {s : SA} {ws : List Zs} {i : Nat} (h : i < s.es.length) (h0 : ∀ q ∈ s.es.take i, (imQ s.gs ws q.1).2 = 0) (h1 : (imQ s.gs ws (s.es.getD i default).1).2 ≠ 0) : imS s.core ws = ([], (imQ s.gs ws (s.es.getD i default).1).2) := by
 have e : gO (s.core.2.2.map fun q => (imQ s.core.1 ws q).2) = (imQ s.gs ws (s.es.getD i default).1).2 := by
  rw [← rI (f := fun q : QA => (imQ s.gs ws q.1).2) h h0 h1, Dy]; rfl
 rw [imS, e, Ab h1]
theorem vz {s : SA} {ws : List Zs} (h0 : ∀ q ∈ s.es, (imQ s.gs ws q.1).2 = 0) : imS s.core ws = (s.es.map fun q => (imQ s.gs ws q.1).1, 0) := by
 have e : gO (s.core.2.2.map fun q => (imQ s.core.1 ws q).2) = 0 := pq fun q hq => by
  obtain ⟨x, hx, rfl⟩ := Bq.1 hq; exact h0 x hx
 rw [imS, e, Aa (fun h => h rfl), Dy]; rfl
theorem yh {gs : List Gp} {ws : List Zs} {q : Qn} (h : (exQ ws q).2 ≠ 0) : imQ gs ws q = ([], (exQ ws q).2) := by rw [imQ, Ab h]
theorem AV {gs : List Gp} {ws : List Zs} {q : Qn} (h : (exQ ws q).2 = 0) : imQ gs ws q = bu (gs.getD q.1.toNat default) (bsQ ws q) (exQ ws q).1 := by rw [imQ, bsQ, Aa (fun h2 => h2 h), Aa (fun h2 => h2 h)]
theorem xX {l : List QA} (f : QA → Bs) {i : Nat} (h : i < l.length) : ak ((l.take (i + 1)).map f) = ak ((l.take i).map f) ++ [.string (S (f (l.getD i default)))] := by
 rw [aL h, Cr]; simp [ak]
theorem yO {ws : List Zs} {q : Qn} : (bsQ ws q).length ≤ q.2.2.length := by rw [bsQ]; split <;> simp
theorem yu {ws : List Zs} {q : Qn} : (exQ ws q).1.length ≤ q.2.2.length := by rw [exQ]; split <;> simp
theorem vy {s : SA} {ws : List Zs} {a : Option Addr} {c : Nat} {w : World} {ok : Nat → Prop} (hF1 : (Fact.sl s.ga (gps s.gs)).holds ok w) (hF2 : (Fact.sl s.ea (qas s.es)).holds ok w) (hF3 : (Fact.sl a (aY ws)).holds ok w) (hM : ∀ f ∈ (s.es.map qaF), f.holds ok w) (hs : saL s) (hw : ws.length = s.vs.length) (hfo : cJ s.core) :
  Calls Tryz.prog 80 #[saV s, .slice a ws.length c] w fun e w' => ∃ gx : Rs, e = .returned (.tuple #[gx.val (imS s.core ws).1.length, .int .i64 (imS s.core ws).2]) ∧ (True) ∧ Below w.heap.size w w' ∧ ∀ x ∈ ([Fact.sl gx.a (ak (imS s.core ws).1)] : List Fact), x.holds (fun b => w.heap.size ≤ b) w' := by
 obtain ⟨hlg, hlv, hle, hlt, hlm⟩ := hs
 refine En (Fact.sl s.ga (gps s.gs) :: Fact.sl s.ea (qas s.es) :: Fact.sl a (aY ws) :: (s.es.map qaF)) [(0, saV s), (1, .slice a ws.length c)] Tryz.func80 I Tryz.ntmps80 I (Ac I (Ac I (An _))) (Fc (ah hF1) (Fc (ah hF2) (Fc (ah hF3) (cQ hM)))) (Cs (Kh I (Oy I I) ?_))
 intro b2
 refine Kh I (Oy I I) ?_
 intro b3
 refine Ka I (Ka I (Nt (Cs (Kq I (dh I I I) (Ka I (Nt (Cs (Ka I (Nt (Cq (Cs (Kf 2 I u58 I I I .tc u56 ?_))))))))))))
 refine Yo I u56 (Km I (Nt (Cb (Lo (σ := Nat × (Option Nat) × Nat × (List Value)) [(2, _), (6, _), (16, _), (17, _)] (fun gq => [(7, .slice (gq.2.1.map fun b => ⟨b, 0, none⟩) gq.1 gq.2.2.1), (18, .int .i64 (gq.1 : Int))]) (fun gq => (gq.1 ≤ s.es.length ∧ gq.2.2.1 = gq.1 + gq.2.2.2.length) ∧ ∀ q ∈ s.es.take gq.1, (imQ s.gs ws q.1).2 = 0) (fun gq => s.es.length - gq.1) (fun gq => [⟨gq.2.1, ak ((s.es.take gq.1).map fun q => (imQ s.gs ws q.1).1) ++ gq.2.2.2, 22⟩, ⟨some b3, [.slice a ws.length c], 39⟩, ⟨some b2, [.slice s.ga s.gs.length s.gc, .slice s.va s.vs.length s.vc, .slice s.ea s.es.length s.ec], 58⟩]) (fun gq => (Fact.sl s.ga (gps s.gs) :: Fact.sl s.ea (qas s.es) :: Fact.sl a (aY ws) :: s.es.map qaF)) (0, none, 0, []) (S4 I I I I) (S2 I I) (by (try dsimp only); exact ⟨⟨Aj _, rfl⟩, by simp⟩) (by exact fun w h => h.nil _) ?_))))
 rintro ⟨i, o, cp, sp⟩ hinv1; (try dsimp only at hinv1 ⊢)
 obtain ⟨⟨hi, hcp⟩, hok⟩ := hinv1
 refine Cs (Yl I (Nt (Cq (Ci I (fun hc19 => ?_) (fun hc19 => ?_)))))
 ·have hil : i < s.es.length := by omega
  have him := ao s.es i hil
  have hlt1 := hlt _ him
  have hfq := hfo.2.2 _ (B7 him)
  have hgl : (s.es.getD i default).1.1.toNat < s.gs.length := by have := hfq.1.1.1; have := hfq.1.1.2; simp only [SA.core] at this; omega
  have hg8 := hlm _ (ao _ _ hgl)
  have hq0 := hfq.1.1.1
  refine Ck (Xa (Cq (Cb (Cs (Kq I (Ia I I I u56 (by kernel_rfl : _ = some 3) (by omega) (by (rw [aj _ _ 3 (fun _ => rfl)]; omega))) ?_)))))
  refine Kq I (dx _ I I u95 I (by kernel_rfl : _ = some 3) (fun _ => rfl) (by decide) I (by assumption)) ?_
  refine Kh I (Oz [.int .i64 0, .string (S []), .slice none 0 0] I) ?_
  intro b9
  refine Nu I I (Sa I I I .tc) (Nt (Cs (Km I (Kq I (lda I I .tc u95 I ?_) ?_))))
  ·kernel_rfl
  refine Kh I (aP I I I (by kernel_rfl) I (kB fun w hS => tA (q := s.es.getD i default) (ws := ws) (p := b3) (a := a) (c := c) hS.os hS.sl (hS.more (more := s.es.map qaF) _ (B7 him)) (by omega) (by exact hlt1) (by exact fun t ht => by have h1 := (hfq.2 t ht).1; refine ⟨h1.1, ?_⟩; rw [hw]; exact h1.2))) ?_
  rintro ⟨gb25, ge25⟩
  refine WL.pu ?_
  intro hg25; (try dsimp only at hg25 ⊢)
  refine WL.fa2 ?_
  refine Km I (Ye I (Ye I (Ye I (Ka I (Ka I (Ka I (Nt (Cq (Cs (Km I (Yj I (Nt (Ci I (fun hc30 => ?_) (fun hc30 => ?_))))))))))))))
  ·have hr : imQ s.gs ws (s.es.getD i default).1 = ([], (exQ ws (s.es.getD i default).1).2) := yh hc30; refine Cs (Km I (Ka I (Ka I (Nt (Ce (Xb (Xf (Xb (Xb (Xf (Xb ?_))))))))))); exact Rn I (.tmp I (.tmp I .nil)) fun w' hS => ⟨⟨none, 0, []⟩, by rw [n6 hil hok (by rw [hr]; exact hc30), hr]; rfl, trivial, hS.below, by rw [n6 hil hok (by rw [hr]; exact hc30)]; exact Fc bI Fn⟩
  ·have hr : imQ s.gs ws (s.es.getD i default).1 = bu (s.gs.getD (s.es.getD i default).1.1.toNat default) (bsQ ws (s.es.getD i default).1) (exQ ws (s.es.getD i default).1).1 := AV hc30; refine Ck (Xa (Cs (Kf 0 I u58 I I I .tc u54 ?_))); refine Kf 0 I u95 I I I .tc u3 ?_; refine Kq I (Ia I I I u54 (by kernel_rfl : _ = some 2) (by omega) (by (rw [aj _ _ 2 (fun _ => rfl)]; omega))) ?_; refine Kq I (dx _ I I u26 I (by kernel_rfl : _ = some 2) (fun _ => rfl) (by decide) I (by assumption)) ?_; refine Km I (Km I (Kc I (fun w hS => iy (g := s.gs.getD (s.es.getD i default).1.1.toNat default) (l := bsQ ws (s.es.getD i default).1) (es := (exQ ws (s.es.getD i default).1).1) (by (exact hS.sl)) (by (exact hS.sl)) (by exact Bu yO hlt1) (by exact Bu yu hlt1) (by exact hg8)) (Km I (Ye I (Ye I (Ka I (Ka I (Nt (Cq (Cs (Km I (Yj I (Nt (Ci I (fun hc45 => ?_) (fun hc45 => ?_)))))))))))))))
   ·refine Cs (Km I (Ka I (Ka I (Nt (Ce (Xb (Xf (Xb (Xb (Xf (Xb ?_))))))))))); exact Rn I (.tmp I (.tmp I .nil)) fun w' hS => ⟨⟨none, 0, []⟩, by rw [n6 hil hok (by rw [hr]; exact hc45), hr]; rfl, trivial, hS.below, by rw [n6 hil hok (by rw [hr]; exact hc45)]; exact Fc bI Fn⟩
   ·have hx0 : (imQ s.gs ws (s.es.getD i default).1).2 = 0 := by rw [hr]; simpa using hc45
    have hls : (ak ((s.es.take i).map fun q => (imQ s.gs ws q.1).1)).length = i := by simp [ak]; omega
    refine Ck (Xa (Cg (Km I (Km I (Kh I (aQ I I u31 (by kernel_rfl : _ = some (some (.string (S [])), 1, 16)) I (by simp only [List.map]; rfl) I I ?_ (by decide)) ?_)))))
    ·simp [Value.cells]
    intro b49; refine Kh I (pE I u31 (by kernel_rfl : _ = some (some (.string (S [])), 1, 16)) I .tc I I (fun w hS => by (exact hS.os)) (by rfl) (by refine ⟨?_, ?_, ?_, ?_⟩ <;> first | exact hls | (try simp) <;> omega) (by (simp [Value.oneCell']; done))) ?_; rintro ⟨o50, c50, s50⟩; refine WL.pu ?_; intro hg50; (try dsimp only at hg50 ⊢); refine Ka I (Nn (Xd (Xa (Cg (Kq I (Rz I I I (by omega)) (Km I (Nn (Lx ((i + 1, o50, c50, s50)) (by (try dsimp only); omega) (S4 I I I I) (by refine (Sc ?_ (Sc ?_ (S0 _))) <;> (rfl)) ?_ (by exact fun w h => by rw [xX _ hil, hr]; exact ar _ h))))))))); (try dsimp only); exact ⟨⟨hil, by omega⟩, az hil hok hx0⟩
 ·refine Cx (Xc (Xc (Xe ?_)))
  obtain rfl : i = s.es.length := by omega
  rw [Ao] at hok
  rw [Ao]
  refine Xa (Cs (Km I (Ka I (Ka I (Nt (Ce ?_))))))
  exact Rn I (.tmp I (.tmp I .nil)) fun w' hS => ⟨⟨o, cp, sp⟩, by rw [vz hok, Af]; rfl, trivial, hS.below, by rw [vz hok]; exact Fc hS.ocf Fn⟩
theorem uJ {s : Sm} {ws : List Zs} (h : iv s ws = 0) : cJ s ∧ (∀ x ∈ ws, okZ x) ∧ lV s = 0 ∧ ws.length = s.2.1.length := by
 unfold iv at h
 split at h
 ·simp at h
 ·rename_i h1; split at h
  ·simp at h
  ·rename_i h2; split at h
   ·rename_i h3; exact absurd h h3
   ·rename_i h3; split at h
    ·simp at h
    ·rename_i h4; exact ⟨Ah.1 h1, Ah.1 h2, Ah.1 h3, Ah.1 h4⟩
theorem yg {s : Sm} {ws : List Zs} (h : (imS s ws).2 = 0) : (imS s ws).1.length = s.2.2.length := by
 unfold imS at h ⊢; split at h
 ·rename_i h1; exact absurd h h1
 ·rename_i h1; rw [Aa h1]; simp
theorem rG {α : Type} [Inhabited α] {x y : List α} (hl : x.length = y.length) (h : ∀ i, i < x.length → x.getD i default = y.getD i default) : x = y := by
 refine List.ext_getElem hl fun i h1 h2 => ?_
 have := h i h1
 rw [List.getD_eq_getElem?_getD, List.getD_eq_getElem?_getD, Ad h1, Ad h2] at this; exact this
theorem oG (l : List QA) (i : Nat) (h : i < l.length) : ((l.map (·.1)).map (·.2.1)).getD i default = (l.getD i default).1.2.1 := by
 rw [List.getD_eq_getElem?_getD, List.getD_eq_getElem?_getD, Be, Be, Ad h]; rfl
theorem n7 {s : SA} {ws : List Zs} {a : Option Addr} {c : Nat} {w : World} {ok : Nat → Prop} (hF1 : (Fact.sl s.ga (gps s.gs)).holds ok w) (hF2 : (Fact.sl s.va (vrs s.vs)).holds ok w) (hF3 : (Fact.sl s.ea (qas s.es)).holds ok w) (hF4 : (Fact.sl a (aY ws)).holds ok w) (hM : ∀ f ∈ (s.es.map qaF), f.holds ok w) (hs : saL s) (hw : ws.length ≤ 100000) :
  Cw 32 #[saV s, .slice a ws.length c] w (.tuple #[.bool (eJ s.core ws).1, .int .i64 (eJ s.core ws).2]) := by
 have hs' := hs
 obtain ⟨hlg, hlv, hle, hlt, hlm⟩ := hs
 refine En (Fact.sl s.ga (gps s.gs) :: Fact.sl s.va (vrs s.vs) :: Fact.sl s.ea (qas s.es) :: Fact.sl a (aY ws) :: (s.es.map qaF)) [(0, saV s), (1, .slice a ws.length c)] Tryz.func32 I Tryz.ntmps32 I (Ac I (Ac I (An _))) (Fc (ah hF1) (Fc (ah hF2) (Fc (ah hF3) (Fc (ah hF4) (cQ hM))))) ?_
 refine Cs ?_
 refine Kh I (Oy I I) ?_
 intro b2
 refine Ka I (Ka I (Nt (Cq (Cs ?_))))
 refine Kq I (lda I I .tc u58 I ?_) ?_
 ·kernel_rfl
 refine Km I ?_
 refine Ku I (Oc I I (Kv fun w hS => xK (s := s) (ws := ws) (by (exact hS.sl)) (by (exact hS.sl)) (by (exact hS.sl)) (by (exact hS.sl)) (by (exact hS.more)) (by exact hs') (by exact hw))) ?_
 refine Ka I (Nt (Cs (Km I (Yj I (Nt ?_)))))
 refine Cd I (fun hc15 => ?_) (fun hc15 => ?_)
 ·(try simp only [sB] at hc15)
  have hr : eJ s.core ws = (false, iv s.core ws) := by rw [eJ, Ab hc15]
  refine Cs (Km I (Ka I (Ka I (Nt (Ce (Xb ?_))))))
  exact R2 I I I (by rw [hr]; rfl)
 ·(try simp only [sB] at hc15)
  have h0 : iv s.core ws = 0 := by simpa using hc15
  obtain ⟨hfo, hz, hk, hwl⟩ := uJ h0
  refine Ck (Xa (Cq (Cs ?_)))
  refine Kq I (lda I I .tc u58 I ?_) ?_
  ·kernel_rfl
  refine Km I ?_
  refine Ku I (Oc I I (Kv fun w hS => ti (s := s) (ws := ws) (by (exact hS.sl)) (by (exact hS.sl)) (by (exact hS.sl)) (by exact hs') (by exact hwl) (by exact hfo) (by exact hz))) ?_
  refine Yt I (Nt ?_)
  refine Cd I (fun hc20 => ?_) (fun hc20 => ?_)
  ·(try simp only [sB] at hc20)
   have hr : eJ s.core ws = (false, 0) := by rw [eJ, Aa (fun h => h h0), Ab (by simpa using hc20)]
   refine Cs (Ka I (Ka I (Nt (Ce (Xb ?_)))))
   exact R2 I I I (by rw [hr]; rfl)
  ·(try simp only [sB] at hc20)
   have hin : inR s.core ws := by simpa using hc20
   refine Ck (Xa (Cs ?_))
   refine Kq I (lda I I .tc u58 I ?_) ?_
   ·kernel_rfl
   refine Km I ?_
   refine Kh I (Oc I I (kB fun w hS => vy (s := s) (ws := ws) (by (exact hS.sl)) (by (exact hS.sl)) (by (exact hS.sl)) (by (exact hS.more)) (by exact hs') (by exact hwl) (by exact hfo))) ?_
   rintro g24
   refine WL.pu ?_
   intro hg24; (try dsimp only [List.cons_append, List.nil_append] at hg24 ⊢)
   refine Km I (Ye I (Ye I (Ka I (Ka I (Nt (Cq (Cs (Km I (Yj I (Nt ?_))))))))))
   refine Cd I (fun hc28 => ?_) (fun hc28 => ?_)
   ·(try simp only [sB] at hc28)
    have hr : eJ s.core ws = (false, (imS s.core ws).2) := by rw [eJ, Aa (fun h => h h0), Aa (fun h => h hin), Ab hc28]
    refine Cs (Km I (Ka I (Ka I (Nt (Ce (Xb ?_))))))
    exact R2 I I I (by rw [hr]; rfl)
   ·(try simp only [sB] at hc28)
    have hi0 : (imS s.core ws).2 = 0 := by simpa using hc28
    have hlI : (imS s.core ws).1.length = s.es.length := by rw [yg hi0]; simp
    have hr : eJ s.core ws = (decide ((imS s.core ws).1 = s.core.2.2.map (·.2.1)), 0) := by rw [eJ, Aa (fun h => h h0), Aa (fun h => h hin), Aa (fun h => h hi0)]
    refine Ck (Xa (Cq (Cs (Kq I (Fa (q := 2) I I u58 I I) (Kq I (Ld I I .tc u56) ?_)))))
    refine Yo I u56 (Km I (Nt (Cb ?_)))
    refine Lp (σ := Nat) [(7, _), (31, _), (32, _)] (fun gq => [(33, .int .i64 (gq : Int))]) (fun gq => gq ≤ s.es.length ∧ ∀ j, j < gq → (imS s.core ws).1.getD j default = (s.es.getD j default).1.2.1) (fun gq => s.es.length - gq) (0) (S3 I I I) (S1 I) (by (try dsimp only); exact ⟨Aj _, fun _ h => absurd h (D6 _)⟩) ?_
    rintro i hinv1; (try dsimp only at hinv1 ⊢)
    obtain ⟨hi, hok⟩ := hinv1
    refine Cs (Yl I (Nt (Cq ?_)))
    refine Cd I (fun hc34 => ?_) (fun hc34 => ?_)
    ·(try simp only [sB] at hc34)
     have hil : i < s.es.length := by omega
     have hil2 : i < (imS s.core ws).1.length := by omega
     refine Ck (Xa (Cq (Cb (Cs (Km I ?_)))))
     refine Kq I (Ia I I I u56 (by kernel_rfl : _ = some 3) (by omega) (by (rw [aj _ _ 3 (fun _ => rfl)]; omega))) ?_
     refine Kq I (dx _ I I u95 I (by kernel_rfl : _ = some 3) (fun _ => rfl) (by decide) I (by assumption)) ?_
     refine Kh I (Oz [.int .i64 0, .string (S []), .slice none 0 0] I) ?_
     intro b10
     refine Ka I ?_
     refine Nu I I (Sa I I I .tc) ?_
     refine Nt (Cq ?_)
     refine Cf [0, 1, 2, 3, 4, 5, 6] [] [0, 0, 0, 0, 0, 0, 0] (by kernel_rfl) (by kernel_rfl) I ?_
     refine Kj I (Rm I I) (Kj I (Rm I I) ?_)
     refine Kj I (Ib I I I u31 (by omega) (by (rw [Af]; omega))) ?_
     refine Kj I (ldm I I u22 I (by assumption)) ?_
     refine Kj I (Fa (q := 1) I I u95 I I) (Kj I (Ld I I .tc u22) ?_)
     refine Kj I (ny I I I) ?_
     refine WJ.nil ?_
     refine Nt ?_
     refine Cd I (fun hc44 => ?_) (fun hc44 => ?_)
     ·(try simp only [sB] at hc44)
      have hne : ¬ (imS s.core ws).1 = s.core.2.2.map (·.2.1) := fun h => by
       have h1 := oG s.es i hil
       exact absurd ((congrArg (fun l : List Bs => l.getD i default) h).trans h1) (by simpa using hc44)
      refine Cs (Ka I (Ka I (Nt (Ce (Xf (Xb (Xb (Xf (Xb ?_)))))))))
      exact R2 I I I (by rw [hr, Ap hne]; rfl)
     ·(try simp only [sB] at hc44)
      refine Ck (Xd (Xa (Cg (Kq I (Rz I I I (by omega)) (Km I (Nn ?_))))))
      refine Ly (i + 1) (by (try dsimp only); omega) (S3 I I I) (by refine (Sc ?_ (S0 _)) <;> (rfl)) ?_ (by (exact ar))
      (try dsimp only)
      exact ⟨hil, fun j hj => by rcases C8.1 hj with h | h; exact hok j h; subst h; simpa using hc44⟩
    ·(try simp only [sB] at hc34)
     refine Cx (Xc (Xc (Xe ?_)))
     obtain rfl : i = s.es.length := by omega
     have heq : (imS s.core ws).1 = s.core.2.2.map (·.2.1) := rG (by rw [hlI]; simp) fun j hj => by
      have h1 := oG s.es j (by omega)
      rw [hok j (by omega)]; exact h1.symm
     refine Xa (Cs (Ka I (Ka I (Nt (Ce ?_)))))
     exact R2 I I I (by rw [hr, Aq heq]; rfl)
end Go.Proofs.YtkdlonihbjhhoaaGreatDoor
