/-
  Parts of the walk: Lin1 Lin2 Lin3 Lin4 Lin5 Lin6.
-/
import Derived.Test.YtkdlonihbjhhoaaGreatDoorV16
namespace Go.Proofs.YtkdlonihbjhhoaaGreatDoor
open Go.RowKit
set_option linter.unusedSimpArgs false
set_option linter.unusedVariables false
set_option maxHeartbeats 600000
set_option maxRecDepth 20000
def ixP {α : Type} (p : α → Bool) (l : List α) : Int := if l.any p = true then (l.findIdx p : Int) else -1
theorem dg {α : Type} {p : α → Bool} {l : List α} : decide (ixP p l ≥ 0) = l.any p := by
 rw [ixP]; split
 ·rename_i h; simp [h]
 ·rename_i h; simpa using h
theorem ew {α : Type} {p : α → Bool} {l : List α} (h : ∀ x ∈ l, p x = false) : ixP p l = -1 := by
 rw [ixP, if_neg (by simpa using h)]
theorem iJ {α : Type} [Inhabited α] {p : α → Bool} {l : List α} {i : Nat} (hi : i < l.length) (h0 : ∀ x ∈ l.take i, p x = false) (h1 : p (l.getD i default) = true) : ixP p l = i := by
 have e : l.getD i default = l[i] := by rw [List.getD_eq_getElem?_getD, List.getElem?_eq_getElem hi]; rfl
 rw [ixP, if_pos (List.any_eq_true.2 ⟨_, ap l i hi, h1⟩)]
 congr 1
 rw [List.findIdx_eq hi]
 refine ⟨by rw [← e]; exact h1, fun j hj => ?_⟩
 exact h0 _ (List.mem_take_iff_getElem.2 ⟨j, by omega, rfl⟩)
theorem iM (v : Value) (cs : Array Value) : (#[] : Array Value) ++ [v].toArray ++ cs = #[v] ++ cs := by simp
theorem yK {l : List Tm} {a : Option Addr} {c : Nat} {fk : FuncId} {cs : Array Value} {p : Tm → Bool} {w : World} {ok : Nat → Prop} (hF1 : (Fact.sl a (l.flatMap tmC)).holds ok w) (hl : l.length ≤ 100000) (hgo : eE Tryz.prog fk = true) (hfn : ∀ x ∈ l, ∀ w', Below w.heap.size w w' → Calls Tryz.prog fk (#[.agg (tmC x).toArray] ++ cs) w' fun e w2 => e = .returned (.bool (p x)) ∧ Below w'.heap.size w' w2) :
  Cw 250 #[.slice a l.length c, .func (.func fk) #[] cs] w (.int .i64 (ixP p l)) := by
 refine En [Fact.sl a (l.flatMap tmC)] [(0, .slice a l.length c), (1, .func (.func fk) #[] cs)] Tryz.func250 rfl Tryz.ntmps250 rfl (Ac rfl (Ac rfl (An _))) (Fc (ah hF1) Fn) ?_
 refine Cs (Ka rfl (Nt (Cq (Cs (Km rfl (Yo rfl u93 (Km rfl (Nt (Cb ?_)))))))))
 refine Lp (σ := Nat) [(0, _), (1, _), (7, _)] (fun gq => [(8, .int .i64 (gq : Int))]) (fun gq => gq ≤ l.length ∧ ∀ x ∈ l.take gq, p x = false) (fun gq => l.length - gq) (0) (S3 rfl rfl rfl) (S1 rfl) (by (try dsimp only); exact ⟨Nat.zero_le _, by simp⟩) ?_
 rintro i hinv1; (try dsimp only at hinv1 ⊢)
 obtain ⟨hi, hok⟩ := hinv1
 refine Cs (Yl rfl (Nt (Cq ?_)))
 refine Cd rfl (fun hc9 => ?_) (fun hc9 => ?_)
 ·(try simp only [sB] at hc9)
  have hil : i < l.length := by omega
  refine Ck (Xa (Cq (Cb (Cs (Km rfl (Ka rfl (Nt (Cs (Km rfl (Km rfl (Km rfl ?_)))))))))))
  refine Kq rfl (Ia rfl rfl rfl u93 (by kernel_rfl : _ = some 4) (by omega) (by (rw [aj _ _ 4 (fun _ => rfl)]; omega))) ?_
  refine Kq rfl (dC _ rfl rfl jc rfl (by kernel_rfl : _ = some 4) (fun _ => rfl) (by decide) rfl (by assumption)) ?_
  refine Ku rfl (aL rfl rfl rfl hgo (iM _ _) (Kv fun w hS => hfn (l.getD i default) (ap _ _ hil) w hS.below)) ?_
  refine Nt ?_
  refine Cd rfl (fun hc16 => ?_) (fun hc16 => ?_)
  ·(try simp only [sB] at hc16)
   refine Cs (Km rfl (Ka rfl (Nt (Ce (Xf (Xb (Xb (Xf (Xb ?_)))))))))
   exact R1 rfl rfl (by rw [iJ hil hok (by simpa using hc16)]; rfl)
  ·(try simp only [sB] at hc16)
   refine Ck (Xd (Xa (Cg (Kq rfl (Rz rfl rfl rfl (by omega)) (Km rfl (Nn ?_))))))
   refine Ly (i + 1) (by (try dsimp only); omega) (S3 rfl rfl rfl) (by refine (Sc ?_ (S0 _)) <;> (rfl)) ?_ (by (exact fun _ h => h))
   (try dsimp only)
   exact ⟨hil, ay hil hok (by simpa using hc16)⟩
 ·(try simp only [sB] at hc9)
  refine Cx (Xc (Xc (Xe ?_)))
  obtain rfl : i = l.length := by omega
  rw [List.take_length] at hok
  refine Xa (Cs (Ka rfl (Nt (Ce ?_))))
  exact R1 rfl rfl (by rw [ew hok]; rfl)
theorem wT {l : List Tm} {a : Option Addr} {c : Nat} {fk : FuncId} {cs : Array Value} {p : Tm → Bool} {w : World} {ok : Nat → Prop} (hF1 : (Fact.sl a (l.flatMap tmC)).holds ok w) (hl : l.length ≤ 100000) (hgo : eE Tryz.prog fk = true) (hfn : ∀ x ∈ l, ∀ w', Below w.heap.size w w' → Calls Tryz.prog fk (#[.agg (tmC x).toArray] ++ cs) w' fun e w2 => e = .returned (.bool (p x)) ∧ Below w'.heap.size w' w2) :
  Cw 221 #[.slice a l.length c, .func (.func fk) #[] cs] w (.bool (l.any p)) := by
 refine En [Fact.sl a (l.flatMap tmC)] [(0, .slice a l.length c), (1, .func (.func fk) #[] cs)] Tryz.func221 rfl Tryz.ntmps221 rfl (Ac rfl (Ac rfl (An _))) (Fc (ah hF1) Fn) ?_
 refine Cs (Ka rfl (Nt (Cs (Km rfl (Km rfl ?_)))))
 refine Ku rfl (Oc rfl rfl (Kv fun w hS => yK (fk := fk) (cs := cs) (p := p) (by (exact hS.sl)) (by exact hl) (by exact hgo) (by exact fun x hx w' hb => hfn x hx w' (hS.below.trans (hb.mono hS.below.size))))) ?_
 refine Yh rfl (Ka rfl (Nt (Ce ?_)))
 exact R1 rfl rfl (by rw [dg]; rfl)
theorem yL {l : List QA} {a : Option Addr} {c : Nat} {fk : FuncId} {cs : Array Value} {p : QA → Bool} {w : World} {ok : Nat → Prop} (hF1 : (Fact.sl a (l.flatMap qaC)).holds ok w) (hl : l.length ≤ 100000) (hgo : eE Tryz.prog fk = true) (hfn : ∀ x ∈ l, ∀ w', Below w.heap.size w w' → Calls Tryz.prog fk (#[.agg (qaC x).toArray] ++ cs) w' fun e w2 => e = .returned (.bool (p x)) ∧ Below w'.heap.size w' w2) :
  Cw 249 #[.slice a l.length c, .func (.func fk) #[] cs] w (.int .i64 (ixP p l)) := by
 refine En [Fact.sl a (l.flatMap qaC)] [(0, .slice a l.length c), (1, .func (.func fk) #[] cs)] Tryz.func249 rfl Tryz.ntmps249 rfl (Ac rfl (Ac rfl (An _))) (Fc (ah hF1) Fn) ?_
 refine Cs (Ka rfl (Nt (Cq (Cs (Km rfl (Yo rfl u56 (Km rfl (Nt (Cb ?_)))))))))
 refine Lp (σ := Nat) [(0, _), (1, _), (7, _)] (fun gq => [(8, .int .i64 (gq : Int))]) (fun gq => gq ≤ l.length ∧ ∀ x ∈ l.take gq, p x = false) (fun gq => l.length - gq) (0) (S3 rfl rfl rfl) (S1 rfl) (by (try dsimp only); exact ⟨Nat.zero_le _, by simp⟩) ?_
 rintro i hinv1; (try dsimp only at hinv1 ⊢)
 obtain ⟨hi, hok⟩ := hinv1
 refine Cs (Yl rfl (Nt (Cq ?_)))
 refine Cd rfl (fun hc9 => ?_) (fun hc9 => ?_)
 ·(try simp only [sB] at hc9)
  have hil : i < l.length := by omega
  refine Ck (Xa (Cq (Cb (Cs (Km rfl (Ka rfl (Nt (Cs (Km rfl (Km rfl (Km rfl ?_)))))))))))
  refine Kq rfl (Ia rfl rfl rfl u56 (by kernel_rfl : _ = some 3) (by omega) (by (rw [aj _ _ 3 (fun _ => rfl)]; omega))) ?_
  refine Kq rfl (dC _ rfl rfl u95 rfl (by kernel_rfl : _ = some 3) (fun _ => rfl) (by decide) rfl (by assumption)) ?_
  refine Ku rfl (aL rfl rfl rfl hgo (iM _ _) (Kv fun w hS => hfn (l.getD i default) (ap _ _ hil) w hS.below)) ?_
  refine Nt ?_
  refine Cd rfl (fun hc16 => ?_) (fun hc16 => ?_)
  ·(try simp only [sB] at hc16)
   refine Cs (Km rfl (Ka rfl (Nt (Ce (Xf (Xb (Xb (Xf (Xb ?_)))))))))
   exact R1 rfl rfl (by rw [iJ hil hok (by simpa using hc16)]; rfl)
  ·(try simp only [sB] at hc16)
   refine Ck (Xd (Xa (Cg (Kq rfl (Rz rfl rfl rfl (by omega)) (Km rfl (Nn ?_))))))
   refine Ly (i + 1) (by (try dsimp only); omega) (S3 rfl rfl rfl) (by refine (Sc ?_ (S0 _)) <;> (rfl)) ?_ (by (exact fun _ h => h))
   (try dsimp only)
   exact ⟨hil, ay hil hok (by simpa using hc16)⟩
 ·(try simp only [sB] at hc9)
  refine Cx (Xc (Xc (Xe ?_)))
  obtain rfl : i = l.length := by omega
  rw [List.take_length] at hok
  refine Xa (Cs (Ka rfl (Nt (Ce ?_))))
  exact R1 rfl rfl (by rw [ew hok]; rfl)
theorem y6 {l : List QA} {a : Option Addr} {c : Nat} {fk : FuncId} {cs : Array Value} {p : QA → Bool} {w : World} {ok : Nat → Prop} (hF1 : (Fact.sl a (l.flatMap qaC)).holds ok w) (hl : l.length ≤ 100000) (hgo : eE Tryz.prog fk = true) (hfn : ∀ x ∈ l, ∀ w', Below w.heap.size w w' → Calls Tryz.prog fk (#[.agg (qaC x).toArray] ++ cs) w' fun e w2 => e = .returned (.bool (p x)) ∧ Below w'.heap.size w' w2) :
  Cw 219 #[.slice a l.length c, .func (.func fk) #[] cs] w (.bool (l.any p)) := by
 refine En [Fact.sl a (l.flatMap qaC)] [(0, .slice a l.length c), (1, .func (.func fk) #[] cs)] Tryz.func219 rfl Tryz.ntmps219 rfl (Ac rfl (Ac rfl (An _))) (Fc (ah hF1) Fn) ?_
 refine Cs (Ka rfl (Nt (Cs (Km rfl (Km rfl ?_)))))
 refine Ku rfl (Oc rfl rfl (Kv fun w hS => yL (fk := fk) (cs := cs) (p := p) (by (exact hS.sl)) (by exact hl) (by exact hgo) (by exact fun x hx w' hb => hfn x hx w' (hS.below.trans (hb.mono hS.below.size))))) ?_
 refine Yh rfl (Ka rfl (Nt (Ce ?_)))
 exact R1 rfl rfl (by rw [dg]; rfl)
theorem yJ {l : List Bs} {a : Option Addr} {c : Nat} {fk : FuncId} {cs : Array Value} {p : Bs → Bool} {w : World} {ok : Nat → Prop} (hF1 : (Fact.sl a (l.flatMap vrC)).holds ok w) (hl : l.length ≤ 100000) (hgo : eE Tryz.prog fk = true) (hfn : ∀ x ∈ l, ∀ w', Below w.heap.size w w' → Calls Tryz.prog fk (#[.agg (vrC x).toArray] ++ cs) w' fun e w2 => e = .returned (.bool (p x)) ∧ Below w'.heap.size w' w2) :
  Cw 251 #[.slice a l.length c, .func (.func fk) #[] cs] w (.int .i64 (ixP p l)) := by
 refine En [Fact.sl a (l.flatMap vrC)] [(0, .slice a l.length c), (1, .func (.func fk) #[] cs)] Tryz.func251 rfl Tryz.ntmps251 rfl (Ac rfl (Ac rfl (An _))) (Fc (ah hF1) Fn) ?_
 refine Cs (Ka rfl (Nt (Cq (Cs (Km rfl (Yo rfl u55 (Km rfl (Nt (Cb ?_)))))))))
 refine Lp (σ := Nat) [(0, _), (1, _), (7, _)] (fun gq => [(8, .int .i64 (gq : Int))]) (fun gq => gq ≤ l.length ∧ ∀ x ∈ l.take gq, p x = false) (fun gq => l.length - gq) (0) (S3 rfl rfl rfl) (S1 rfl) (by (try dsimp only); exact ⟨Nat.zero_le _, by simp⟩) ?_
 rintro i hinv1; (try dsimp only at hinv1 ⊢)
 obtain ⟨hi, hok⟩ := hinv1
 refine Cs (Yl rfl (Nt (Cq ?_)))
 refine Cd rfl (fun hc9 => ?_) (fun hc9 => ?_)
 ·(try simp only [sB] at hc9)
  have hil : i < l.length := by omega
  refine Ck (Xa (Cq (Cb (Cs (Km rfl (Ka rfl (Nt (Cs (Km rfl (Km rfl (Km rfl ?_)))))))))))
  refine Kq rfl (Ib rfl rfl rfl u55 (by omega) (by (rw [aj _ _ 1 (fun _ => rfl)]; omega))) ?_
  refine Kq rfl (dC _ rfl rfl nU rfl (by kernel_rfl : _ = some 1) (fun _ => rfl) (by decide) (Nat.mul_one _).symm (by assumption)) ?_
  refine Ku rfl (aL rfl rfl rfl hgo (iM _ _) (Kv fun w hS => hfn (l.getD i default) (ap _ _ hil) w hS.below)) ?_
  refine Nt ?_
  refine Cd rfl (fun hc16 => ?_) (fun hc16 => ?_)
  ·(try simp only [sB] at hc16)
   refine Cs (Km rfl (Ka rfl (Nt (Ce (Xf (Xb (Xb (Xf (Xb ?_)))))))))
   exact R1 rfl rfl (by rw [iJ hil hok (by simpa using hc16)]; rfl)
  ·(try simp only [sB] at hc16)
   refine Ck (Xd (Xa (Cg (Kq rfl (Rz rfl rfl rfl (by omega)) (Km rfl (Nn ?_))))))
   refine Ly (i + 1) (by (try dsimp only); omega) (S3 rfl rfl rfl) (by refine (Sc ?_ (S0 _)) <;> (rfl)) ?_ (by (exact fun _ h => h))
   (try dsimp only)
   exact ⟨hil, ay hil hok (by simpa using hc16)⟩
 ·(try simp only [sB] at hc9)
  refine Cx (Xc (Xc (Xe ?_)))
  obtain rfl : i = l.length := by omega
  rw [List.take_length] at hok
  refine Xa (Cs (Ka rfl (Nt (Ce ?_))))
  exact R1 rfl rfl (by rw [ew hok]; rfl)
theorem y4 {l : List Bs} {a : Option Addr} {c : Nat} {fk : FuncId} {cs : Array Value} {p : Bs → Bool} {w : World} {ok : Nat → Prop} (hF1 : (Fact.sl a (l.flatMap vrC)).holds ok w) (hl : l.length ≤ 100000) (hgo : eE Tryz.prog fk = true) (hfn : ∀ x ∈ l, ∀ w', Below w.heap.size w w' → Calls Tryz.prog fk (#[.agg (vrC x).toArray] ++ cs) w' fun e w2 => e = .returned (.bool (p x)) ∧ Below w'.heap.size w' w2) :
  Cw 223 #[.slice a l.length c, .func (.func fk) #[] cs] w (.bool (l.any p)) := by
 refine En [Fact.sl a (l.flatMap vrC)] [(0, .slice a l.length c), (1, .func (.func fk) #[] cs)] Tryz.func223 rfl Tryz.ntmps223 rfl (Ac rfl (Ac rfl (An _))) (Fc (ah hF1) Fn) ?_
 refine Cs (Ka rfl (Nt (Cs (Km rfl (Km rfl ?_)))))
 refine Ku rfl (Oc rfl rfl (Kv fun w hS => yJ (fk := fk) (cs := cs) (p := p) (by (exact hS.sl)) (by exact hl) (by exact hgo) (by exact fun x hx w' hb => hfn x hx w' (hS.below.trans (hb.mono hS.below.size))))) ?_
 refine Yh rfl (Ka rfl (Nt (Ce ?_)))
 exact R1 rfl rfl (by rw [dg]; rfl)
theorem yN {l : List Gp} {a : Option Addr} {c : Nat} {fk : FuncId} {cs : Array Value} {p : Gp → Bool} {w : World} {ok : Nat → Prop} (hF1 : (Fact.sl a (l.flatMap gpC)).holds ok w) (hl : l.length ≤ 100000) (hgo : eE Tryz.prog fk = true) (hfn : ∀ x ∈ l, ∀ w', Below w.heap.size w w' → Calls Tryz.prog fk (#[.agg (gpC x).toArray] ++ cs) w' fun e w2 => e = .returned (.bool (p x)) ∧ Below w'.heap.size w' w2) :
  Cw 252 #[.slice a l.length c, .func (.func fk) #[] cs] w (.int .i64 (ixP p l)) := by
 refine En [Fact.sl a (l.flatMap gpC)] [(0, .slice a l.length c), (1, .func (.func fk) #[] cs)] Tryz.func252 rfl Tryz.ntmps252 rfl (Ac rfl (Ac rfl (An _))) (Fc (ah hF1) Fn) ?_
 refine Cs (Ka rfl (Nt (Cq (Cs (Km rfl (Yo rfl u54 (Km rfl (Nt (Cb ?_)))))))))
 refine Lp (σ := Nat) [(0, _), (1, _), (7, _)] (fun gq => [(8, .int .i64 (gq : Int))]) (fun gq => gq ≤ l.length ∧ ∀ x ∈ l.take gq, p x = false) (fun gq => l.length - gq) (0) (S3 rfl rfl rfl) (S1 rfl) (by (try dsimp only); exact ⟨Nat.zero_le _, by simp⟩) ?_
 rintro i hinv1; (try dsimp only at hinv1 ⊢)
 obtain ⟨hi, hok⟩ := hinv1
 refine Cs (Yl rfl (Nt (Cq ?_)))
 refine Cd rfl (fun hc9 => ?_) (fun hc9 => ?_)
 ·(try simp only [sB] at hc9)
  have hil : i < l.length := by omega
  refine Ck (Xa (Cq (Cb (Cs (Km rfl (Ka rfl (Nt (Cs (Km rfl (Km rfl (Km rfl ?_)))))))))))
  refine Kq rfl (Ia rfl rfl rfl u54 (by kernel_rfl : _ = some 2) (by omega) (by (rw [aj _ _ 2 (fun _ => rfl)]; omega))) ?_
  refine Kq rfl (dC _ rfl rfl u26 rfl (by kernel_rfl : _ = some 2) (fun _ => rfl) (by decide) rfl (by assumption)) ?_
  refine Ku rfl (aL rfl rfl rfl hgo (iM _ _) (Kv fun w hS => hfn (l.getD i default) (ap _ _ hil) w hS.below)) ?_
  refine Nt ?_
  refine Cd rfl (fun hc16 => ?_) (fun hc16 => ?_)
  ·(try simp only [sB] at hc16)
   refine Cs (Km rfl (Ka rfl (Nt (Ce (Xf (Xb (Xb (Xf (Xb ?_)))))))))
   exact R1 rfl rfl (by rw [iJ hil hok (by simpa using hc16)]; rfl)
  ·(try simp only [sB] at hc16)
   refine Ck (Xd (Xa (Cg (Kq rfl (Rz rfl rfl rfl (by omega)) (Km rfl (Nn ?_))))))
   refine Ly (i + 1) (by (try dsimp only); omega) (S3 rfl rfl rfl) (by refine (Sc ?_ (S0 _)) <;> (rfl)) ?_ (by (exact fun _ h => h))
   (try dsimp only)
   exact ⟨hil, ay hil hok (by simpa using hc16)⟩
 ·(try simp only [sB] at hc9)
  refine Cx (Xc (Xc (Xe ?_)))
  obtain rfl : i = l.length := by omega
  rw [List.take_length] at hok
  refine Xa (Cs (Ka rfl (Nt (Ce ?_))))
  exact R1 rfl rfl (by rw [ew hok]; rfl)
theorem y7 {l : List Gp} {a : Option Addr} {c : Nat} {fk : FuncId} {cs : Array Value} {p : Gp → Bool} {w : World} {ok : Nat → Prop} (hF1 : (Fact.sl a (l.flatMap gpC)).holds ok w) (hl : l.length ≤ 100000) (hgo : eE Tryz.prog fk = true) (hfn : ∀ x ∈ l, ∀ w', Below w.heap.size w w' → Calls Tryz.prog fk (#[.agg (gpC x).toArray] ++ cs) w' fun e w2 => e = .returned (.bool (p x)) ∧ Below w'.heap.size w' w2) :
  Cw 225 #[.slice a l.length c, .func (.func fk) #[] cs] w (.bool (l.any p)) := by
 refine En [Fact.sl a (l.flatMap gpC)] [(0, .slice a l.length c), (1, .func (.func fk) #[] cs)] Tryz.func225 rfl Tryz.ntmps225 rfl (Ac rfl (Ac rfl (An _))) (Fc (ah hF1) Fn) ?_
 refine Cs (Ka rfl (Nt (Cs (Km rfl (Km rfl ?_)))))
 refine Ku rfl (Oc rfl rfl (Kv fun w hS => yN (fk := fk) (cs := cs) (p := p) (by (exact hS.sl)) (by exact hl) (by exact hgo) (by exact fun x hx w' hb => hfn x hx w' (hS.below.trans (hb.mono hS.below.size))))) ?_
 refine Yh rfl (Ka rfl (Nt (Ce ?_)))
 exact R1 rfl rfl (by rw [dg]; rfl)
theorem yI {l : List Zs} {a : Option Addr} {c : Nat} {fk : FuncId} {cs : Array Value} {p : Zs → Bool} {w : World} {ok : Nat → Prop} (hF1 : (Fact.sl a (l.flatMap zc)).holds ok w) (hl : l.length ≤ 100000) (hgo : eE Tryz.prog fk = true) (hfn : ∀ x ∈ l, ∀ w', Below w.heap.size w w' → Calls Tryz.prog fk (#[.agg (zc x).toArray] ++ cs) w' fun e w2 => e = .returned (.bool (p x)) ∧ Below w'.heap.size w' w2) :
  Cw 185 #[.slice a l.length c, .func (.func fk) #[] cs] w (.int .i64 (ixP p l)) := by
 refine En [Fact.sl a (l.flatMap zc)] [(0, .slice a l.length c), (1, .func (.func fk) #[] cs)] Tryz.func185 rfl Tryz.ntmps185 rfl (Ac rfl (Ac rfl (An _))) (Fc (ah hF1) Fn) ?_
 refine Cs (Ka rfl (Nt (Cq (Cs (Km rfl (Yo rfl u39 (Km rfl (Nt (Cb ?_)))))))))
 refine Lp (σ := Nat) [(0, _), (1, _), (7, _)] (fun gq => [(8, .int .i64 (gq : Int))]) (fun gq => gq ≤ l.length ∧ ∀ x ∈ l.take gq, p x = false) (fun gq => l.length - gq) (0) (S3 rfl rfl rfl) (S1 rfl) (by (try dsimp only); exact ⟨Nat.zero_le _, by simp⟩) ?_
 rintro i hinv1; (try dsimp only at hinv1 ⊢)
 obtain ⟨hi, hok⟩ := hinv1
 refine Cs (Yl rfl (Nt (Cq ?_)))
 refine Cd rfl (fun hc9 => ?_) (fun hc9 => ?_)
 ·(try simp only [sB] at hc9)
  have hil : i < l.length := by omega
  refine Ck (Xa (Cq (Cb (Cs (Km rfl (Ka rfl (Nt (Cs (Km rfl (Km rfl (Km rfl ?_)))))))))))
  refine Kq rfl (Ia rfl rfl rfl u39 (by kernel_rfl : _ = some 2) (by omega) (by (rw [aj _ _ 2 (fun _ => rfl)]; omega))) ?_
  refine Kq rfl (dC _ rfl rfl u37 rfl (by kernel_rfl : _ = some 2) (fun _ => rfl) (by decide) rfl (by assumption)) ?_
  refine Ku rfl (aL rfl rfl rfl hgo (iM _ _) (Kv fun w hS => hfn (l.getD i default) (ap _ _ hil) w hS.below)) ?_
  refine Nt ?_
  refine Cd rfl (fun hc16 => ?_) (fun hc16 => ?_)
  ·(try simp only [sB] at hc16)
   refine Cs (Km rfl (Ka rfl (Nt (Ce (Xf (Xb (Xb (Xf (Xb ?_)))))))))
   exact R1 rfl rfl (by rw [iJ hil hok (by simpa using hc16)]; rfl)
  ·(try simp only [sB] at hc16)
   refine Ck (Xd (Xa (Cg (Kq rfl (Rz rfl rfl rfl (by omega)) (Km rfl (Nn ?_))))))
   refine Ly (i + 1) (by (try dsimp only); omega) (S3 rfl rfl rfl) (by refine (Sc ?_ (S0 _)) <;> (rfl)) ?_ (by (exact fun _ h => h))
   (try dsimp only)
   exact ⟨hil, ay hil hok (by simpa using hc16)⟩
 ·(try simp only [sB] at hc9)
  refine Cx (Xc (Xc (Xe ?_)))
  obtain rfl : i = l.length := by omega
  rw [List.take_length] at hok
  refine Xa (Cs (Ka rfl (Nt (Ce ?_))))
  exact R1 rfl rfl (by rw [ew hok]; rfl)
theorem y3 {l : List Zs} {a : Option Addr} {c : Nat} {fk : FuncId} {cs : Array Value} {p : Zs → Bool} {w : World} {ok : Nat → Prop} (hF1 : (Fact.sl a (l.flatMap zc)).holds ok w) (hl : l.length ≤ 100000) (hgo : eE Tryz.prog fk = true) (hfn : ∀ x ∈ l, ∀ w', Below w.heap.size w w' → Calls Tryz.prog fk (#[.agg (zc x).toArray] ++ cs) w' fun e w2 => e = .returned (.bool (p x)) ∧ Below w'.heap.size w' w2) :
  Cw 137 #[.slice a l.length c, .func (.func fk) #[] cs] w (.bool (l.any p)) := by
 refine En [Fact.sl a (l.flatMap zc)] [(0, .slice a l.length c), (1, .func (.func fk) #[] cs)] Tryz.func137 rfl Tryz.ntmps137 rfl (Ac rfl (Ac rfl (An _))) (Fc (ah hF1) Fn) ?_
 refine Cs (Ka rfl (Nt (Cs (Km rfl (Km rfl ?_)))))
 refine Ku rfl (Oc rfl rfl (Kv fun w hS => yI (fk := fk) (cs := cs) (p := p) (by (exact hS.sl)) (by exact hl) (by exact hgo) (by exact fun x hx w' hb => hfn x hx w' (hS.below.trans (hb.mono hS.below.size))))) ?_
 refine Yh rfl (Ka rfl (Nt (Ce ?_)))
 exact R1 rfl rfl (by rw [dg]; rfl)
theorem ge {f : Fact} {w w' : World} (h : f.holds (fun _ => True) w) (hb : Below w.heap.size w w') : f.holds (fun _ => True) w' := f.stable h hb.size fun b hlt _ => hb.block b hlt
theorem x7 (v : Value) : #[v] ++ (#[] : Array Value) = #[v] := by simp
theorem x6 (v u : Value) : #[v] ++ (#[u] : Array Value) = #[v, u] := by simp
theorem uH {ok : Nat → Prop} {w0 w : World} {own : List Ent} {fs more : List Fact} {f : Fact} (h : St ok w0 own fs w) [hm : nQ fs more] (hf : f ∈ more) : St ok w0 own (f :: fs) w := h.add (h.fact f (hm.h f hf))
theorem nq {s : SA} {w : World} {ok : Nat → Prop} (hF1 : (Fact.sl s.ga (gps s.gs)).holds ok w) (hs : saL s) :
  Cw 140 #[saV s] w (.string (S (fh s.gs))) := by
 obtain ⟨hlg, hlv, hle, hlt, hlm⟩ := hs
 refine En [Fact.sl s.ga (gps s.gs)] [(0, saV s)] Tryz.func140 rfl Tryz.ntmps140 rfl (Ac rfl (An _)) (Fc (ah hF1) Fn) ?_
 refine Cs ?_
 refine Kh rfl (Oy rfl rfl) ?_
 intro b1
 refine Ka rfl (Nt (Cq (Cs (Kq rfl (Fa (q := 0) rfl rfl u58 rfl rfl) (Kq rfl (Ld rfl rfl .tc u54) ?_)))))
 refine Yo rfl u54 (Km rfl (Nt (Cb ?_)))
 refine Lp (σ := Nat) [(6, _), (7, _)] (fun gq => [(8, .int .i64 (gq : Int))]) (fun gq => gq ≤ s.gs.length ∧ ∀ g ∈ s.gs.take gq, g.2 = []) (fun gq => s.gs.length - gq) (0) (S2 rfl rfl) (S1 rfl) (by (try dsimp only); exact ⟨Nat.zero_le _, by simp⟩) ?_
 rintro i hinv1; (try dsimp only at hinv1 ⊢)
 obtain ⟨hi, hok⟩ := hinv1
 refine Cs (Yl rfl (Nt (Cq ?_)))
 refine Cd rfl (fun hc9 => ?_) (fun hc9 => ?_)
 ·(try simp only [sB] at hc9)
  have hil : i < s.gs.length := by omega
  refine Ck (Xa (Cq (Cb (Cs ?_))))
  refine Kq rfl (Ia rfl rfl rfl u54 (by kernel_rfl : _ = some 2) (by omega) (by (rw [aj _ _ 2 (fun _ => rfl)]; omega))) ?_
  refine Kq rfl (dC _ rfl rfl u26 rfl (by kernel_rfl : _ = some 2) (fun _ => rfl) (by decide) rfl (by assumption)) ?_
  refine Kh rfl (Oz [.string (S []), .string (S [])] rfl) ?_
  intro b4
  refine Nu rfl rfl (Sa rfl rfl rfl .tc) ?_
  refine Nt (Cs (Kq rfl (Fa (q := 1) rfl rfl u26 rfl rfl) (Kq rfl (Ld rfl rfl .tc u22) ?_)))
  refine Yr rfl (Nt ?_)
  refine Cd rfl (fun hc14 => ?_) (fun hc14 => ?_)
  ·(try simp only [sB] at hc14)
   refine Cs (Kq rfl (Fa (q := 1) rfl rfl u26 rfl rfl) (Kq rfl (Ld rfl rfl .tc u22) ?_))
   refine Ka rfl (Nt (Ce (Xf (Xb (Xb (Xf (Xb ?_)))))))
   exact R1 rfl rfl (by rw [vz hil hok (by simpa using hc14)]; rfl)
  ·(try simp only [sB] at hc14)
   refine Ck (Xd (Xa (Cg (Kq rfl (Rz rfl rfl rfl (by omega)) (Km rfl (Nn ?_))))))
   refine Ly (i + 1) (by (try dsimp only); omega) (S2 rfl rfl) (by refine (Sc ?_ (S0 _)) <;> (rfl)) ?_ (by (exact aq))
   (try dsimp only)
   exact ⟨hil, ay hil hok (by simpa using hc14)⟩
 ·(try simp only [sB] at hc9)
  refine Cx (Xc (Xc (Xe ?_)))
  obtain rfl : i = s.gs.length := by omega
  rw [List.take_length] at hok
  refine Xa (Cs (Ka rfl (Nt (Ce ?_))))
  exact R1 rfl rfl (by rw [sT hok]; rfl)
theorem tu {s : SA} {w : World} {ok : Nat → Prop} (hF1 : (Fact.sl s.ga (gps s.gs)).holds ok w) (hF2 : (Fact.sl s.va (vrs s.vs)).holds ok w) (hF3 : (Fact.sl s.ea (qas s.es)).holds ok w) (hM : ∀ f ∈ (s.es.map qaF), f.holds ok w) (hs : saL s) :
  Cw 136 #[saV s] w (.int .i64 (if cr s.core then 0 else 3)) := by
 obtain ⟨hlg, hlv, hle, hlt, hlm⟩ := hs
 refine En (Fact.sl s.ga (gps s.gs) :: Fact.sl s.va (vrs s.vs) :: Fact.sl s.ea (qas s.es) :: (s.es.map qaF)) [(0, saV s)] Tryz.func136 rfl Tryz.ntmps136 rfl (Ac rfl (An _)) (Fc (ah hF1) (Fc (ah hF2) (Fc (ah hF3) (cm hM)))) ?_
 refine Cs ?_
 refine Kh rfl (Oy rfl rfl) ?_
 intro b1
 refine Ka rfl (Nt (Cq (Cs (Kq rfl (Fa (q := 0) rfl rfl u58 rfl rfl) (Kq rfl (Ld rfl rfl .tc u54) ?_)))))
 refine Yo rfl u54 (Km rfl (Nt (Cb ?_)))
 refine Lp (σ := Nat) [(1, _), (12, _), (13, _)] (fun gq => [(14, .int .i64 (gq : Int))]) (fun gq => gq ≤ s.gs.length ∧ ∀ g ∈ s.gs.take gq, okG g) (fun gq => s.gs.length - gq) (0) (S3 rfl rfl rfl) (S1 rfl) (by (try dsimp only); exact ⟨Nat.zero_le _, by simp⟩) ?_
 rintro i hinv1; (try dsimp only at hinv1 ⊢)
 obtain ⟨hi, hok⟩ := hinv1
 refine Cs (Yl rfl (Nt (Cq ?_)))
 refine Cd rfl (fun hc15 => ?_) (fun hc15 => ?_)
 ·(try simp only [sB] at hc15)
  have hil : i < s.gs.length := by omega
  refine Ck (Xa (Cq (Cb (Cs ?_))))
  refine Kq rfl (Ia rfl rfl rfl u54 (by kernel_rfl : _ = some 2) (by omega) (by (rw [aj _ _ 2 (fun _ => rfl)]; omega))) ?_
  refine Kq rfl (dC _ rfl rfl u26 rfl (by kernel_rfl : _ = some 2) (fun _ => rfl) (by decide) rfl (by assumption)) ?_
  refine Kh rfl (Oz [.string (S []), .string (S [])] rfl) ?_
  intro b4
  refine Nu rfl rfl (Sa rfl rfl rfl .tc) ?_
  refine Nt ?_
  refine WC.joinP (σ := Unit) [(1, _), (12, _), (13, _), (14, _)] (fun gq => [(27, .bool (decide (¬ (okN (s.gs.getD i default).1 ∧ okN (s.gs.getD i default).2))))]) (fun gq => True) (S4 rfl rfl rfl rfl) ?_ ?_
  ·skip
   refine Cg (Kq rfl (Fa (q := 0) rfl rfl u26 rfl rfl) (Kq rfl (Ld rfl rfl .tc u22) ?_))
   refine Ku rfl (Oc rfl rfl (Kv fun w hS => av (a := (s.gs.getD i default).1))) ?_
   refine Yt rfl (Km rfl ?_)
   refine Nb 22 rfl (fun hg22 => ?_) (fun hg22 => ?_)
   ·(try simp only [sB] at hg22)
    refine Kt rfl (Kt rfl (Kt rfl (Kt rfl (Yp rfl (Nn ?_)))))
    refine WX.joinP (()) (S4 rfl rfl rfl rfl) (by refine (Sc ?_ (S0 _)) <;> ((refine congrArg (fun b => some (Value.bool b)) ?_; simp [*, -List.getD_eq_getElem?_getD]; done))) ?_ (by (exact fun _ h => h))
    (try dsimp only)
    done
   ·(try simp only [sB] at hg22)
    refine Kq rfl (Fa (q := 1) rfl rfl u26 rfl rfl) (Kq rfl (Ld rfl rfl .tc u22) ?_)
    refine Ku rfl (Oc rfl rfl (Kv fun w hS => av (a := (s.gs.getD i default).2))) ?_
    refine Yt rfl (Yq rfl (Nn ?_))
    refine WX.joinP (()) (S4 rfl rfl rfl rfl) (by refine (Sc ?_ (S0 _)) <;> ((refine congrArg (fun b => some (Value.bool b)) ?_; simp [*, -List.getD_eq_getElem?_getD]; done))) ?_ (by (exact fun _ h => h))
    (try dsimp only)
    done
  ·rintro _ hmeet; (try dsimp only at hmeet ⊢)
   refine Cd rfl (fun hc27 => ?_) (fun hc27 => ?_)
   ·(try simp only [sB] at hc27)
    refine Cs (Ka rfl (Nt (Ce (Xf (Xb (Xb (Xf (Xb ?_))))))))
    exact R1 rfl rfl (by rw [if_neg (fun h => absurd (h.1 _ (ap _ _ hil)) hc27)]; rfl)
   ·(try simp only [sB] at hc27)
    refine Ck (Xd (Xa (Cg (Kq rfl (Rz rfl rfl rfl (by omega)) (Km rfl (Nn ?_))))))
    refine Ly (i + 1) (by (try dsimp only); omega) (S3 rfl rfl rfl) (by refine (Sc ?_ (S0 _)) <;> (rfl)) ?_ (by (exact aq))
    (try dsimp only)
    exact ⟨hil, ay hil hok (Decidable.not_not.1 hc27)⟩
 ·(try simp only [sB] at hc15)
  refine Cx (Xc (Xc (Xe ?_)))
  obtain rfl : i = s.gs.length := by omega
  rw [List.take_length] at hok
  refine Xa (Cq (Cs (Kq rfl (Fa (q := 1) rfl rfl u58 rfl rfl) (Kq rfl (Ld rfl rfl .tc u55) ?_))))
  refine Yo rfl u55 (Km rfl (Nt (Cb ?_)))
  refine Lp (σ := Nat) [(1, _), (30, _), (31, _)] (fun gq => [(32, .int .i64 (gq : Int))]) (fun gq => gq ≤ s.vs.length ∧ ∀ v ∈ s.vs.take gq, okN v) (fun gq => s.vs.length - gq) (0) (S3 rfl rfl rfl) (S1 rfl) (by (try dsimp only); exact ⟨Nat.zero_le _, by simp⟩) ?_
  rintro j hinv2; (try dsimp only at hinv2 ⊢)
  obtain ⟨hj, hov⟩ := hinv2
  refine Cs (Yl rfl (Nt (Cq ?_)))
  refine Cd rfl (fun hc33 => ?_) (fun hc33 => ?_)
  ·(try simp only [sB] at hc33)
   have hjl : j < s.vs.length := by omega
   refine Ck (Xa (Cq (Cb (Cs ?_))))
   refine Kq rfl (Ib rfl rfl rfl u55 (by omega) (by (rw [aj _ _ 1 (fun _ => rfl)]; omega))) ?_
   refine Kq rfl (dC _ rfl rfl nU rfl (by kernel_rfl : _ = some 1) (fun _ => rfl) (by decide) (Nat.mul_one _).symm (by assumption)) ?_
   refine Kh rfl (Oz [.string (S [])] rfl) ?_
   intro b6
   refine Nu rfl rfl (Sa rfl rfl rfl .tc) ?_
   refine Nt (Cs (Kq rfl (Fa (q := 0) rfl rfl nU rfl rfl) (Kq rfl (Ld rfl rfl .tc u22) ?_)))
   refine Ku rfl (Oc rfl rfl (Kv fun w hS => av (a := s.vs.getD j default))) ?_
   refine Yt rfl (Nt ?_)
   refine Cd rfl (fun hc39 => ?_) (fun hc39 => ?_)
   ·(try simp only [sB] at hc39)
    refine Cs (Ka rfl (Nt (Ce (Xf (Xb (Xb (Xf (Xb ?_))))))))
    exact R1 rfl rfl (by rw [if_neg (fun h => absurd (h.2.1 _ (ap _ _ hjl)) (by simpa using hc39))]; rfl)
   ·(try simp only [sB] at hc39)
    refine Ck (Xd (Xa (Cg (Kq rfl (Rz rfl rfl rfl (by omega)) (Km rfl (Nn ?_))))))
    refine Ly (j + 1) (by (try dsimp only); omega) (S3 rfl rfl rfl) (by refine (Sc ?_ (S0 _)) <;> (rfl)) ?_ (by (exact aq))
    (try dsimp only)
    exact ⟨hjl, ay hjl hov (by simpa using hc39)⟩
  ·(try simp only [sB] at hc33)
   refine Cx (Xc (Xc (Xe ?_)))
   obtain rfl : j = s.vs.length := by omega
   rw [List.take_length] at hov
   refine Xa (Cq (Cs (Kq rfl (Fa (q := 2) rfl rfl u58 rfl rfl) (Kq rfl (Ld rfl rfl .tc u56) ?_))))
   refine Yo rfl u56 (Km rfl (Nt (Cb ?_)))
   refine Lp (σ := Nat) [(1, _), (42, _), (43, _)] (fun gq => [(44, .int .i64 (gq : Int))]) (fun gq => gq ≤ s.es.length ∧ ∀ q ∈ s.es.take gq, okQ s.gs.length s.vs.length q.1) (fun gq => s.es.length - gq) (0) (S3 rfl rfl rfl) (S1 rfl) (by (try dsimp only); exact ⟨Nat.zero_le _, by simp⟩) ?_
   rintro k hinv3; (try dsimp only at hinv3 ⊢)
   obtain ⟨hk, hoq⟩ := hinv3
   refine Cs (Yl rfl (Nt (Cq ?_)))
   refine Cd rfl (fun hc45 => ?_) (fun hc45 => ?_)
   ·(try simp only [sB] at hc45)
    have hkl : k < s.es.length := by omega
    have hkm := ap s.es k hkl
    have hlt1 := hlt _ hkm
    refine Ck (Xa (Cq (Cb (Cs ?_))))
    refine Kq rfl (Ia rfl rfl rfl u56 (by kernel_rfl : _ = some 3) (by omega) (by (rw [aj _ _ 3 (fun _ => rfl)]; omega))) ?_
    refine Kq rfl (dC _ rfl rfl u95 rfl (by kernel_rfl : _ = some 3) (fun _ => rfl) (by decide) rfl (by assumption)) ?_
    refine Kh rfl (Oz [.int .i64 0, .string (S []), .slice none 0 0] rfl) ?_
    intro b8
    refine Nu rfl rfl (Sa rfl rfl rfl .tc) ?_
    refine Nt (Cq ?_)
    refine WC.joinP (σ := Unit) [(1, _), (8, _), (42, _), (43, _), (44, _)] (fun gq => [(64, .bool (decide (¬ ((0 ≤ (s.es.getD k default).1.1 ∧ (s.es.getD k default).1.1 < (s.gs.length : Int)) ∧ okN (s.es.getD k default).1.2.1))))]) (fun gq => True) (S5 rfl rfl rfl rfl rfl) ?_ ?_
    ·skip
     refine Cg (Kq rfl (Fa (q := 0) rfl rfl u95 rfl rfl) (Kq rfl (Ld rfl rfl .tc u3) ?_))
     refine Yl rfl (Km rfl ?_)
     refine Nb 51 rfl (fun hg51 => ?_) (fun hg51 => ?_)
     ·(try simp only [sB] at hg51)
      refine Kt rfl (Kt rfl (Kt rfl (Kt rfl (Kt rfl (Kt rfl (Yp rfl (Km rfl (Kt rfl (Kt rfl (Kt rfl (Kt rfl (Yp rfl (Nn ?_)))))))))))))
      refine WX.joinP (()) (S5 rfl rfl rfl rfl rfl) (by refine (Sc ?_ (S0 _)) <;> ((exact congrArg (fun b => some (Value.bool b)) (by symm; apply decide_eq_true; omega)))) ?_ (by (exact fun _ h => h))
      (try dsimp only)
      done
     ·(try simp only [sB] at hg51)
      refine Kq rfl (Fa (q := 0) rfl rfl u95 rfl rfl) (Kq rfl (Ld rfl rfl .tc u3) ?_)
      refine Kq rfl (Fa (q := 0) rfl rfl u58 rfl rfl) (Kq rfl (Ld rfl rfl .tc u54) ?_)
      refine Yo rfl u54 (Yh rfl (Yq rfl (Km rfl ?_)))
      refine Nb 59 rfl (fun hg59 => ?_) (fun hg59 => ?_)
      ·(try simp only [sB] at hg59)
       refine Kt rfl (Kt rfl (Kt rfl (Kt rfl (Yp rfl (Nn ?_)))))
       refine WX.joinP (()) (S5 rfl rfl rfl rfl rfl) (by refine (Sc ?_ (S0 _)) <;> ((exact congrArg (fun b => some (Value.bool b)) (by symm; apply decide_eq_true; omega)))) ?_ (by (exact fun _ h => h))
       (try dsimp only)
       done
      ·(try simp only [sB] at hg59)
       refine Kq rfl (Fa (q := 1) rfl rfl u95 rfl rfl) (Kq rfl (Ld rfl rfl .tc u22) ?_)
       refine Ku rfl (Oc rfl rfl (Kv fun w hS => av (a := (s.es.getD k default).1.2.1))) ?_
       refine Yt rfl (Yq rfl (Nn ?_))
       refine WX.joinP (()) (S5 rfl rfl rfl rfl rfl) (by refine (Sc ?_ (S0 _)) <;> ((refine congrArg (fun b => some (Value.bool b)) ?_; simp [*, -List.getD_eq_getElem?_getD]; done))) ?_ (by (exact fun _ h => h))
       (try dsimp only)
       done
    ·rintro _ hmeet; (try dsimp only at hmeet ⊢)
     refine Cd rfl (fun hc64 => ?_) (fun hc64 => ?_)
     ·(try simp only [sB] at hc64)
      refine Cs (Ka rfl (Nt (Ce (Xb (Xf (Xb (Xb (Xf (Xb ?_)))))))))
      exact R1 rfl rfl (by rw [if_neg (fun h => absurd (h.2.2 _ (List.mem_map_of_mem hkm)).1 hc64)]; rfl)
     ·(try simp only [sB] at hc64)
      refine Ck (Xa (Cs (Kq rfl (Fa (q := 2) rfl rfl u95 rfl rfl) ?_)))
      refine WL.st (fun w h => uH (more := s.es.map qaF) (f := qaF (s.es.getD k default)) h (List.mem_map_of_mem hkm)) ?_
      refine Kq rfl (Ld rfl rfl .tc u93) ?_
      refine Yo rfl u93 (Km rfl (Nt (Cb ?_)))
      refine Lp (σ := Nat) [(1, _), (42, _), (43, _), (44, _), (66, _), (67, _)] (fun gq => [(68, .int .i64 (gq : Int))]) (fun gq => gq ≤ (s.es.getD k default).1.2.2.length ∧ ∀ t ∈ (s.es.getD k default).1.2.2.take gq, okT s.vs.length t) (fun gq => (s.es.getD k default).1.2.2.length - gq) (0) (S6 rfl rfl rfl rfl rfl rfl) (S1 rfl) (by (try dsimp only); exact ⟨Nat.zero_le _, by simp⟩) ?_
      rintro m hinv4; (try dsimp only at hinv4 ⊢)
      obtain ⟨hm, hot⟩ := hinv4
      refine Cs (Yl rfl (Nt (Cq ?_)))
      refine Cd rfl (fun hc69 => ?_) (fun hc69 => ?_)
      ·(try simp only [sB] at hc69)
       have hml : m < (s.es.getD k default).1.2.2.length := by omega
       refine Ck (Xa (Cq (Cb (Cs ?_))))
       refine Kq rfl (Ia rfl rfl rfl u93 (by kernel_rfl : _ = some 4) (by omega) (by (rw [aj _ _ 4 (fun _ => rfl)]; omega))) ?_
       refine Kq rfl (dC _ rfl rfl jc rfl (by kernel_rfl : _ = some 4) (fun _ => rfl) (by decide) rfl (by assumption)) ?_
       refine Kh rfl (Oz [.string (S []), .int .i64 0, .bool false, .string (S [])] rfl) ?_
       intro b10
       refine Nu rfl rfl (Sa rfl rfl rfl .tc) ?_
       refine Nt ?_
       refine WC.joinP (σ := Unit) [(1, _), (42, _), (43, _), (44, _), (66, _), (67, _), (68, _)] (fun gq => [(94, .bool (decide (¬ ((0 ≤ ((s.es.getD k default).1.2.2.getD m default).2.1 ∧ ((s.es.getD k default).1.2.2.getD m default).2.1 < (s.vs.length : Int)) ∧ okN ((s.es.getD k default).1.2.2.getD m default).1 ∧ okZ ((s.es.getD k default).1.2.2.getD m default).2.2))))]) (fun gq => True) (S7 rfl rfl rfl rfl rfl rfl rfl) ?_ ?_
       ·skip
        refine Cg (Kq rfl (Fa (q := 1) rfl rfl jc rfl rfl) (Kq rfl (Ld rfl rfl .tc u3) ?_))
        refine Yl rfl (Km rfl ?_)
        refine Nb 75 rfl (fun hg75 => ?_) (fun hg75 => ?_)
        ·(try simp only [sB] at hg75)
         refine Kt rfl (Kt rfl (Kt rfl (Kt rfl (Kt rfl (Kt rfl (Yp rfl (Km rfl (Kt rfl (Kt rfl (Kt rfl (Kt rfl (Yp rfl (Km rfl (Kt rfl (Kt rfl (Kt rfl (Kt rfl (Yp rfl (Nn ?_)))))))))))))))))))
         refine WX.joinP (()) (S7 rfl rfl rfl rfl rfl rfl rfl) (by refine (Sc ?_ (S0 _)) <;> ((exact congrArg (fun b => some (Value.bool b)) (by symm; apply decide_eq_true; omega)))) ?_ (by (exact fun _ h => h))
         (try dsimp only)
         done
        ·(try simp only [sB] at hg75)
         refine Kq rfl (Fa (q := 1) rfl rfl jc rfl rfl) (Kq rfl (Ld rfl rfl .tc u3) ?_)
         refine Kq rfl (Fa (q := 1) rfl rfl u58 rfl rfl) (Kq rfl (Ld rfl rfl .tc u55) ?_)
         refine Yo rfl u55 (Yh rfl (Yq rfl (Km rfl ?_)))
         refine Nb 83 rfl (fun hg83 => ?_) (fun hg83 => ?_)
         ·(try simp only [sB] at hg83)
          refine Kt rfl (Kt rfl (Kt rfl (Kt rfl (Yp rfl (Km rfl (Kt rfl (Kt rfl (Kt rfl (Kt rfl (Yp rfl (Nn ?_)))))))))))
          refine WX.joinP (()) (S7 rfl rfl rfl rfl rfl rfl rfl) (by refine (Sc ?_ (S0 _)) <;> ((exact congrArg (fun b => some (Value.bool b)) (by symm; apply decide_eq_true; omega)))) ?_ (by (exact fun _ h => h))
          (try dsimp only)
          done
         ·(try simp only [sB] at hg83)
          refine Kq rfl (Fa (q := 0) rfl rfl jc rfl rfl) (Kq rfl (Ld rfl rfl .tc u22) ?_)
          refine Ku rfl (Oc rfl rfl (Kv fun w hS => av (a := ((s.es.getD k default).1.2.2.getD m default).1))) ?_
          refine Yt rfl (Yq rfl (Km rfl ?_))
          refine Nb 89 rfl (fun hg89 => ?_) (fun hg89 => ?_)
          ·(try simp only [sB] at hg89)
           refine Kt rfl (Kt rfl (Kt rfl (Kt rfl (Yp rfl (Nn ?_)))))
           refine WX.joinP (()) (S7 rfl rfl rfl rfl rfl rfl rfl) (by refine (Sc ?_ (S0 _)) <;> ((refine congrArg (fun b => some (Value.bool b)) ?_; simp [*, -List.getD_eq_getElem?_getD]; done))) ?_ (by (exact fun _ h => h))
           (try dsimp only)
           done
          ·(try simp only [sB] at hg89)
           refine Kq rfl (Fa (q := 2) rfl rfl jc rfl rfl) ?_
           refine Kq rfl (ldp rfl rfl .tc u37 rfl (by kernel_rfl : _ = some 2) (by rfl) (by rfl)) ?_
           refine Ku rfl (Oc rfl rfl (Kv fun w hS => dJ (x := ((s.es.getD k default).1.2.2.getD m default).2.2))) ?_
           refine Yt rfl (Yq rfl (Nn ?_))
           refine WX.joinP (()) (S7 rfl rfl rfl rfl rfl rfl rfl) (by refine (Sc ?_ (S0 _)) <;> ((refine congrArg (fun b => some (Value.bool b)) ?_; simp [*, -List.getD_eq_getElem?_getD]; done))) ?_ (by (exact fun _ h => h))
           (try dsimp only)
           done
       ·rintro _ hmeet; (try dsimp only at hmeet ⊢)
        refine Cd rfl (fun hc94 => ?_) (fun hc94 => ?_)
        ·(try simp only [sB] at hc94)
         refine Cs (Ka rfl (Nt (Ce (Xf (Xb (Xb (Xf (Xf (Xb (Xb (Xf (Xb ?_))))))))))))
         exact R1 rfl rfl (by rw [if_neg (fun h => absurd ((h.2.2 _ (List.mem_map_of_mem hkm)).2 _ (ap _ _ hml)) hc94)]; rfl)
        ·(try simp only [sB] at hc94)
         refine Ck (Xd (Xa (Cg (Kq rfl (Rz rfl rfl rfl (by omega)) (Km rfl (Nn ?_))))))
         refine Ly (m + 1) (by (try dsimp only); omega) (S6 rfl rfl rfl rfl rfl rfl) (by refine (Sc ?_ (S0 _)) <;> (rfl)) ?_ (by (exact aq))
         (try dsimp only)
         exact ⟨hml, ay hml hot (Decidable.not_not.1 hc94)⟩
      ·(try simp only [sB] at hc69)
       refine Cx (Xc (Xc (Xe ?_)))
       obtain rfl : m = (s.es.getD k default).1.2.2.length := by omega
       rw [List.take_length] at hot
       refine Xd (Xa (Cg (Kq rfl (Rz rfl rfl rfl (by omega)) (Km rfl (Nn ?_)))))
       refine Ly (k + 1) (by (try dsimp only); omega) (S3 rfl rfl rfl) (by refine (Sc ?_ (S0 _)) <;> (rfl)) ?_ (by (exact aq))
       (try dsimp only)
       exact ⟨hkl, ay hkl hoq ⟨Decidable.not_not.1 hc64, hot⟩⟩
   ·(try simp only [sB] at hc45)
    refine Cx (Xc (Xc (Xe ?_)))
    obtain rfl : k = s.es.length := by omega
    rw [List.take_length] at hoq
    refine Xa (Cs (Ka rfl (Nt (Ce ?_))))
    exact R1 rfl rfl (by rw [if_pos ⟨hok, hov, eF.2 hoq⟩]; rfl)
theorem yo {q : QA} {w : World} :
  Cw 220 #[.agg #[.int .i64 q.1.1, .string (S q.1.2.1), .slice q.2.1 q.1.2.2.length q.2.2]] w (.bool (decide (q.1.2.2.length > 64))) := by
 refine En [] [(0, .agg #[.int .i64 q.1.1, .string (S q.1.2.1), .slice q.2.1 q.1.2.2.length q.2.2])] Tryz.func220 rfl Tryz.ntmps220 rfl (Ac rfl (An _)) Fn ?_
 refine Cs ?_
 refine Kh rfl (Oy rfl rfl) ?_
 intro b1
 refine Ka rfl (Nt (Cs (Kq rfl (Fa (q := 2) rfl rfl u95 rfl rfl) (Kq rfl (Ld rfl rfl .tc u93) ?_))))
 refine Yo rfl u93 (Yg rfl (Ka rfl (Nt (Ce ?_))))
 exact R1 rfl rfl (by simp [tup]; omega)
theorem uK {s : SA} {w : World} {ok : Nat → Prop} (hF1 : (Fact.sl s.ga (gps s.gs)).holds ok w) (hF2 : (Fact.sl s.va (vrs s.vs)).holds ok w) (hF3 : (Fact.sl s.ea (qas s.es)).holds ok w) (hs : saL s) :
  Cw 186 #[saV s] w (.int .i64 (if fu s.core then 0 else 6)) := by
 obtain ⟨hlg, hlv, hle, hlt, hlm⟩ := hs
 refine En [Fact.sl s.ga (gps s.gs), Fact.sl s.va (vrs s.vs), Fact.sl s.ea (qas s.es)] [(0, saV s)] Tryz.func186 rfl Tryz.ntmps186 rfl (Ac rfl (An _)) (Fc (ah hF1) (Fc (ah hF2) (Fc (ah hF3) Fn))) ?_
 refine Cs ?_
 refine Kh rfl (Oy rfl rfl) ?_
 intro b1
 refine Ka rfl (Nt (Cq ?_))
 refine WC.joinP (σ := Unit) [(1, _)] (fun gq => [(18, .bool (decide (¬ (s.gs.length ≤ 8 ∧ s.vs.length ≤ 64 ∧ s.es.length ≤ 64))))]) (fun gq => True) (S1 rfl) ?_ ?_
 ·skip
  refine Cg (Kq rfl (Fa (q := 0) rfl rfl u58 rfl rfl) (Kq rfl (Ld rfl rfl .tc u54) ?_))
  refine Yo rfl u54 (Yg rfl (Km rfl ?_))
  refine Nb 7 rfl (fun hg7 => ?_) (fun hg7 => ?_)
  ·(try simp only [sB] at hg7)
   refine Kt rfl (Kt rfl (Kt rfl (Kt rfl (Yp rfl (Km rfl (Kt rfl (Kt rfl (Kt rfl (Kt rfl (Yp rfl (Nn ?_)))))))))))
   refine WX.joinP (()) (S1 rfl) (by refine (Sc ?_ (S0 _)) <;> ((exact congrArg (fun b => some (Value.bool b)) (by symm; apply decide_eq_true; omega)))) ?_ (by (exact fun _ h => h))
   (try dsimp only)
   done
  ·(try simp only [sB] at hg7)
   refine Kq rfl (Fa (q := 1) rfl rfl u58 rfl rfl) (Kq rfl (Ld rfl rfl .tc u55) ?_)
   refine Yo rfl u55 (Yg rfl (Yq rfl (Km rfl ?_)))
   refine Nb 13 rfl (fun hg13 => ?_) (fun hg13 => ?_)
   ·(try simp only [sB] at hg13)
    refine Kt rfl (Kt rfl (Kt rfl (Kt rfl (Yp rfl (Nn ?_)))))
    refine WX.joinP (()) (S1 rfl) (by refine (Sc ?_ (S0 _)) <;> ((exact congrArg (fun b => some (Value.bool b)) (by symm; apply decide_eq_true; omega)))) ?_ (by (exact fun _ h => h))
    (try dsimp only)
    done
   ·(try simp only [sB] at hg13)
    refine Kq rfl (Fa (q := 2) rfl rfl u58 rfl rfl) (Kq rfl (Ld rfl rfl .tc u56) ?_)
    refine Yo rfl u56 (Yg rfl (Yq rfl (Nn ?_)))
    refine WX.joinP (()) (S1 rfl) (by refine (Sc ?_ (S0 _)) <;> ((refine ai rfl ?_; (try dsimp only); (exact decide_eq_decide.2 (by omega))))) ?_ (by (exact fun _ h => h))
    (try dsimp only)
    done
 ·rintro _ hmeet; (try dsimp only at hmeet ⊢)
  refine Cd rfl (fun hc18 => ?_) (fun hc18 => ?_)
  ·(try simp only [sB] at hc18)
   have hr : ¬ fu s.core := fun h => hc18 (by simpa using h.1)
   refine Cs (Ka rfl (Nt (Ce (Xb ?_))))
   exact R1 rfl rfl (by rw [if_neg hr]; rfl)
  ·(try simp only [sB] at hc18)
   refine Ck (Xa (Cq (Cs (Kq rfl (Fa (q := 2) rfl rfl u58 rfl rfl) (Kq rfl (Ld rfl rfl .tc u56) ?_)))))
   refine Ku rfl (Oc rfl rfl (Kv fun w hS => y6 (l := s.es) (fk := 220) (cs := #[]) (p := fun q => decide (q.1.2.2.length > 64)) (by (exact hS.sl)) (by exact hle) (by kernel_rfl) (by exact fun x hx w' hb => by rw [x7]; exact yo))) ?_
   refine Nt ?_
   refine Cd rfl (fun hc21 => ?_) (fun hc21 => ?_)
   ·(try simp only [sB] at hc21)
    have hr : ¬ fu s.core := fun h => by
     obtain ⟨q, hq, hq2⟩ := List.any_eq_true.1 hc21
     have := h.2 _ (List.mem_map_of_mem hq); simp at hq2; omega
    refine Cs (Ka rfl (Nt (Ce (Xb ?_))))
    exact R1 rfl rfl (by rw [if_neg hr]; rfl)
   ·(try simp only [sB] at hc21)
    have hr : fu s.core := ⟨by simpa using hc18, eF.2 fun q hq => by
     have := List.any_eq_false.1 hc21 q hq; simpa using this⟩
    refine Ck (Xa (Cs (Ka rfl (Nt (Ce ?_)))))
    exact R1 rfl rfl (by rw [if_pos hr]; rfl)
theorem qe {α : Type} (l : List α) (p : α → Prop) [DecidablePred p] : (l.any fun x => decide (¬ p x)) = decide (¬ ∀ x ∈ l, p x) := by rw [Bool.eq_iff_iff]; simp
theorem kE {α : Type} (l : List α) (p : α → Prop) [DecidablePred p] : (l.any fun x => decide (p x)) = decide (¬ ∀ x ∈ l, ¬ p x) := by rw [Bool.eq_iff_iff]; simp
instance hasM_appL {a b : List Fact} : nQ (a ++ b) a := ⟨fun _ h => List.mem_append_left _ h⟩
instance hasM_appR {a b c : List Fact} [h : nQ b c] : nQ (a ++ b) c := ⟨fun _ hh => List.mem_append_right _ (h.h _ hh)⟩
theorem yQ {t : Tm} {g : Gp} {p : Nat} {w : World} {ok : Nat → Prop} (hF1 : (Fact.sl (some ⟨p, 0, none⟩) (gpC g)).holds ok w) (hg : bP g = 0) (hm8 : g.1.length ≤ 8) :
  Cw 222 #[.agg #[.string (S t.1), .int .i64 t.2.1, .bool t.2.2.1, .string (S t.2.2.2)], .pointer (some ⟨p, 0, none⟩)] w (.bool (decide (¬ elG g t.1))) := by
 refine En [Fact.sl (some ⟨p, 0, none⟩) (gpC g)] [(0, .agg #[.string (S t.1), .int .i64 t.2.1, .bool t.2.2.1, .string (S t.2.2.2)]), (1, .pointer (some ⟨p, 0, none⟩))] Tryz.func222 rfl Tryz.ntmps222 rfl (Ac rfl (Ac rfl (An _))) (Fc (ah hF1) Fn) ?_
 refine Cs ?_
 refine Kh rfl (Oy rfl rfl) ?_
 intro b2
 refine Ka rfl (Nt (Cs ?_))
 refine Kq rfl (xW (m := 0) rfl rfl .tc u26 rfl (by kernel_rfl : _ = some 2) rfl rfl rfl (by decide)) ?_
 refine Kq rfl (Fa (q := 0) rfl rfl jc rfl rfl) (Kq rfl (Ld rfl rfl .tc u22) ?_)
 refine Ku rfl (Oc rfl rfl (Kv fun w hS => gZ (g := g) (x := t.1) (by assumption))) ?_
 refine Ns 7 rfl (v' := .bool (decide (elG g t.1))) (congrArg Value.bool (by simp [hg])) ?_
 refine Yt rfl (Ka rfl (Nt (Ce ?_)))
 exact R1 rfl rfl (by (simp [tup]; done))
theorem wb {s : SA} {w : World} {ok : Nat → Prop} (hF1 : (Fact.sl s.ga (gps s.gs)).holds ok w) (hF2 : (Fact.sl s.ea (qas s.es)).holds ok w) (hM : ∀ f ∈ (s.es.map qaF), f.holds ok w) (hs : saL s) (hfo : cr s.core) :
  Cw 187 #[saV s] w (.int .i64 (if elS s.core then 0 else 13)) := by
 obtain ⟨hlg, hlv, hle, hlt, hlm⟩ := hs
 refine En (Fact.sl s.ga (gps s.gs) :: Fact.sl s.ea (qas s.es) :: (s.es.map qaF)) [(0, saV s)] Tryz.func187 rfl Tryz.ntmps187 rfl (Ac rfl (An _)) (Fc (ah hF1) (Fc (ah hF2) (cm hM))) ?_
 refine Cs ?_
 refine Kh rfl (Oy rfl rfl) ?_
 intro b1
 refine Ka rfl (Nt (Cq (Cs (Kq rfl (Fa (q := 0) rfl rfl u58 rfl rfl) (Kq rfl (Ld rfl rfl .tc u54) ?_)))))
 refine Yo rfl u54 (Km rfl (Nt (Cb ?_)))
 refine Lp (σ := Nat) [(1, _), (9, _), (10, _)] (fun gq => [(11, .int .i64 (gq : Int))]) (fun gq => gq ≤ s.gs.length ∧ ∀ g ∈ s.gs.take gq, bP g = 0) (fun gq => s.gs.length - gq) (0) (S3 rfl rfl rfl) (S1 rfl) (by (try dsimp only); exact ⟨Nat.zero_le _, by simp⟩) ?_
 rintro i hinv1; (try dsimp only at hinv1 ⊢)
 obtain ⟨hi, hok⟩ := hinv1
 refine Cs (Yl rfl (Nt (Cq ?_)))
 refine Cd rfl (fun hc12 => ?_) (fun hc12 => ?_)
 ·(try simp only [sB] at hc12)
  have hil : i < s.gs.length := by omega
  refine Ck (Xa (Cq (Cb (Cs ?_))))
  refine Kq rfl (Ia rfl rfl rfl u54 (by kernel_rfl : _ = some 2) (by omega) (by (rw [aj _ _ 2 (fun _ => rfl)]; omega))) ?_
  refine Kq rfl (dC _ rfl rfl u26 rfl (by kernel_rfl : _ = some 2) (fun _ => rfl) (by decide) rfl (by assumption)) ?_
  refine Kh rfl (Oz [.string (S []), .string (S [])] rfl) ?_
  intro b4
  refine Nu rfl rfl (Sa rfl rfl rfl .tc) ?_
  refine Nt (Cs ?_)
  refine Kq rfl (lda rfl rfl .tc u26 rfl ?_) ?_
  ·kernel_rfl
  refine Ku rfl (Oc rfl rfl (Kv fun w hS => g5 (g := s.gs.getD i default))) ?_
  refine Yj rfl (Nt ?_)
  refine Cd rfl (fun hc17 => ?_) (fun hc17 => ?_)
  ·(try simp only [sB] at hc17)
   refine Cs (Ka rfl (Nt (Ce (Xf (Xb (Xb (Xf (Xb ?_))))))))
   exact R1 rfl rfl (by rw [if_neg (fun h => absurd (h.1 _ (ap _ _ hil)) (by simpa using hc17))]; rfl)
  ·(try simp only [sB] at hc17)
   refine Ck (Xd (Xa (Cg (Kq rfl (Rz rfl rfl rfl (by omega)) (Km rfl (Nn ?_))))))
   refine Ly (i + 1) (by (try dsimp only); omega) (S3 rfl rfl rfl) (by refine (Sc ?_ (S0 _)) <;> (rfl)) ?_ (by (exact aq))
   (try dsimp only)
   exact ⟨hil, ay hil hok (by simpa using hc17)⟩
 ·(try simp only [sB] at hc12)
  refine Cx (Xc (Xc (Xe ?_)))
  obtain rfl : i = s.gs.length := by omega
  rw [List.take_length] at hok
  refine Xa (Cq (Cs (Kq rfl (Fa (q := 2) rfl rfl u58 rfl rfl) (Kq rfl (Ld rfl rfl .tc u56) ?_))))
  refine Yo rfl u56 (Km rfl (Nt (Cb ?_)))
  refine Lp (σ := Nat) [(1, _), (20, _), (21, _)] (fun gq => [(22, .int .i64 (gq : Int))]) (fun gq => gq ≤ s.es.length ∧ ∀ q ∈ s.es.take gq, elQ s.gs q.1) (fun gq => s.es.length - gq) (0) (S3 rfl rfl rfl) (S1 rfl) (by (try dsimp only); exact ⟨Nat.zero_le _, by simp⟩) ?_
  rintro k hinv2; (try dsimp only at hinv2 ⊢)
  obtain ⟨hk, hoq⟩ := hinv2
  refine Cs (Yl rfl (Nt (Cq ?_)))
  refine Cd rfl (fun hc23 => ?_) (fun hc23 => ?_)
  ·(try simp only [sB] at hc23)
   have hkl : k < s.es.length := by omega
   have hkm := ap s.es k hkl
   have hlt1 := hlt _ hkm
   have hfq := (hfo.2.2 _ (List.mem_map_of_mem hkm)).1.1
   have hgl : (s.es.getD k default).1.1.toNat < s.gs.length := by have := hfq.1; have := hfq.2; simp only [SA.core] at this; omega
   have hg0 := hok _ (ap _ _ hgl)
   have hg8 := hlm _ (ap _ _ hgl)
   refine Ck (Xa (Cq (Cb (Cs ?_))))
   refine Kq rfl (Ia rfl rfl rfl u56 (by kernel_rfl : _ = some 3) (by omega) (by (rw [aj _ _ 3 (fun _ => rfl)]; omega))) ?_
   refine Kq rfl (dC _ rfl rfl u95 rfl (by kernel_rfl : _ = some 3) (fun _ => rfl) (by decide) rfl (by assumption)) ?_
   refine Kh rfl (Oz [.int .i64 0, .string (S []), .slice none 0 0] rfl) ?_
   intro b6
   refine Nu rfl rfl (Sa rfl rfl rfl .tc) ?_
   refine Nt (Cs (Kq rfl (Fa (q := 0) rfl rfl u58 rfl rfl) (Kq rfl (Ld rfl rfl .tc u54) ?_)))
   refine Kq rfl (Fa (q := 0) rfl rfl u95 rfl rfl) (Kq rfl (Ld rfl rfl .tc u3) ?_)
   refine Kq rfl (Ia rfl rfl rfl u54 (by kernel_rfl : _ = some 2) (by assumption) (by (rw [aj _ _ 2 (fun _ => rfl)]; omega))) ?_
   refine Kq rfl (dC _ rfl rfl u26 rfl (by kernel_rfl : _ = some 2) (fun _ => rfl) (by decide) rfl (by assumption)) ?_
   refine Kh rfl (Oz [.string (S []), .string (S [])] rfl) ?_
   intro b7
   refine Nu rfl rfl (Sa rfl rfl rfl .tc) ?_
   refine Nt ?_
   refine WC.joinP (σ := Unit) [(1, _), (20, _), (21, _), (22, _)] (fun gq => [(42, .bool (decide (¬ (elG (s.gs.getD (s.es.getD k default).1.1.toNat default) (s.es.getD k default).1.2.1 ∧ ∀ t ∈ (s.es.getD k default).1.2.2, elG (s.gs.getD (s.es.getD k default).1.1.toNat default) t.1))))]) (fun gq => True) (S4 rfl rfl rfl rfl) ?_ ?_
   ·skip
    refine Cg ?_
    refine Kq rfl (lda rfl rfl .tc u26 rfl ?_) ?_
    ·kernel_rfl
    refine Kq rfl (Fa (q := 1) rfl rfl u95 rfl rfl) (Kq rfl (Ld rfl rfl .tc u22) ?_)
    refine Ku rfl (Oc rfl rfl (Kv fun w hS => gZ (g := s.gs.getD (s.es.getD k default).1.1.toNat default) (x := (s.es.getD k default).1.2.1) (by exact hg8))) ?_
    refine Ns 35 rfl (v' := .bool (decide (elG (s.gs.getD (s.es.getD k default).1.1.toNat default) (s.es.getD k default).1.2.1))) (congrArg Value.bool (by exact decide_eq_decide.2 ⟨fun h => h.2, fun h => ⟨hg0, h⟩⟩)) ?_
    refine Yt rfl (Km rfl ?_)
    refine Nb 37 rfl (fun hg37 => ?_) (fun hg37 => ?_)
    ·(try simp only [sB] at hg37)
     refine Kt rfl (Kt rfl (Kt rfl (Kt rfl (Yp rfl (Nn ?_)))))
     refine WX.joinP (()) (S4 rfl rfl rfl rfl) (by refine (Sc ?_ (S0 _)) <;> ((refine congrArg (fun b => some (Value.bool b)) ?_; simp [*, -List.getD_eq_getElem?_getD]; done))) ?_ (by (exact fun _ h => h))
     (try dsimp only)
     done
    ·(try simp only [sB] at hg37)
     refine Kq rfl (Fa (q := 2) rfl rfl u95 rfl rfl) (Kq rfl (Ld rfl rfl .tc u93) ?_)
     refine Kq rfl (cE rfl rfl rfl) ?_
     refine Ku rfl (Oc rfl rfl (Kv fun w hS => wT (l := (s.es.getD k default).1.2.2) (fk := 222) (p := fun t => decide (¬ elG (s.gs.getD (s.es.getD k default).1.1.toNat default) t.1)) (hS.more (more := s.es.map qaF) _ (List.mem_map_of_mem hkm)) (by exact hlt1) (by kernel_rfl) (by exact fun x hx w' hb => by rw [x6]; exact yQ (ge hS.os hb) hg0 hg8))) ?_
     refine Ns 41 rfl (v' := .bool (decide (¬ ∀ t ∈ (s.es.getD k default).1.2.2, elG (s.gs.getD (s.es.getD k default).1.1.toNat default) t.1))) (congrArg Value.bool (by exact qe _ _)) ?_
     refine Yq rfl (Nn ?_)
     refine WX.joinP (()) (S4 rfl rfl rfl rfl) (by refine (Sc ?_ (S0 _)) <;> ((refine congrArg (fun b => some (Value.bool b)) ?_; simp [*, -List.getD_eq_getElem?_getD]; done))) ?_ (by (exact fun _ h => h))
     (try dsimp only)
     done
   ·rintro _ hmeet; (try dsimp only at hmeet ⊢)
    refine Cd rfl (fun hc42 => ?_) (fun hc42 => ?_)
    ·(try simp only [sB] at hc42)
     refine Cs (Ka rfl (Nt (Ce (Xf (Xb (Xb (Xf (Xb ?_))))))))
     exact R1 rfl rfl (by rw [if_neg (fun h => absurd (h.2 _ (List.mem_map_of_mem hkm)) hc42)]; rfl)
    ·(try simp only [sB] at hc42)
     refine Ck (Xd (Xa (Cg (Kq rfl (Rz rfl rfl rfl (by omega)) (Km rfl (Nn ?_))))))
     refine Ly (k + 1) (by (try dsimp only); omega) (S3 rfl rfl rfl) (by refine (Sc ?_ (S0 _)) <;> (rfl)) ?_ (by (exact aq))
     (try dsimp only)
     exact ⟨hkl, ay hkl hoq (Decidable.not_not.1 hc42)⟩
  ·(try simp only [sB] at hc23)
   refine Cx (Xc (Xc (Xe ?_)))
   obtain rfl : k = s.es.length := by omega
   rw [List.take_length] at hoq
   refine Xa (Cs (Ka rfl (Nt (Ce ?_))))
   exact R1 rfl rfl (by rw [if_pos ⟨hok, eF.2 hoq⟩]; rfl)
theorem yF {v : Bs} {w : World} :
  Cw 224 #[.agg #[.string (S v)]] w (.bool (decide (v = []))) := by
 refine En [] [(0, .agg #[.string (S v)])] Tryz.func224 rfl Tryz.ntmps224 rfl (Ac rfl (An _)) Fn ?_
 refine Cs ?_
 refine Kh rfl (Oy rfl rfl) ?_
 intro b1
 refine Ka rfl (Nt (Cs (Kq rfl (Fa (q := 0) rfl rfl nU rfl rfl) (Kq rfl (Ld rfl rfl .tc u22) ?_))))
 refine Ys rfl (Ka rfl (Nt (Ce ?_)))
 exact R1 rfl rfl (by rfl)
theorem yH {g : Gp} {n : Bs} {p : Nat} {w : World} {ok : Nat → Prop} (hF1 : (Fact.sl (some ⟨p, 0, none⟩) [.string (S n)]).holds ok w) :
  Cw 226 #[.agg #[.string (S g.1), .string (S g.2)], .pointer (some ⟨p, 0, none⟩)] w (.bool (decide (g.2 ≠ [] ∧ g.2 ≠ n))) := by
 refine En [Fact.sl (some ⟨p, 0, none⟩) [.string (S n)]] [(0, .agg #[.string (S g.1), .string (S g.2)]), (1, .pointer (some ⟨p, 0, none⟩))] Tryz.func226 rfl Tryz.ntmps226 rfl (Ac rfl (Ac rfl (An _))) (Fc (ah hF1) Fn) ?_
 refine Cs ?_
 refine Kh rfl (Oy rfl rfl) ?_
 intro b2
 refine Ka rfl (Nt (Cs (Kq rfl (Fa (q := 1) rfl rfl u26 rfl rfl) (Kq rfl (Ld rfl rfl .tc u22) ?_))))
 refine Yr rfl (Km rfl ?_)
 refine Nb 7 rfl (fun hg7 => ?_) (fun hg7 => ?_)
 ·(try simp only [sB] at hg7)
  refine Kq rfl (Fa (q := 1) rfl rfl u26 rfl rfl) (Kq rfl (Ld rfl rfl .tc u22) ?_)
  refine Kq rfl (ldf (m := 0) rfl rfl .tc u22 rfl rfl rfl) ?_
  refine Yr rfl (Yp rfl (Ka rfl (Nt (Ce ?_))))
  exact R1 rfl rfl (by (simp [*, tup]; done))
 ·(try simp only [sB] at hg7)
  refine Kt rfl (Kt rfl (Kt rfl (Kt rfl (Yq rfl (Ka rfl (Nt (Ce ?_)))))))
  exact R1 rfl rfl (by (simp [*, tup]; done))
theorem yG {t : Tm} {s : SA} {p : Nat} {w : World} {ok : Nat → Prop} (hF1 : (Fact.sl (some ⟨p, 0, none⟩) [.slice s.ga s.gs.length s.gc, .slice s.va s.vs.length s.vc, .slice s.ea s.es.length s.ec]).holds ok w) (hF2 : (Fact.sl s.va (vrs s.vs)).holds ok w) (ht0 : 0 ≤ t.2.1) (ht1 : t.2.1 < s.vs.length) (hlv : s.vs.length ≤ 100000) :
  Cw 227 #[.agg #[.string (S t.1), .int .i64 t.2.1, .bool t.2.2.1, .string (S t.2.2.2)], .pointer (some ⟨p, 0, none⟩)] w (.bool (decide (s.vs.getD t.2.1.toNat default = []))) := by
 refine En [Fact.sl (some ⟨p, 0, none⟩) [.slice s.ga s.gs.length s.gc, .slice s.va s.vs.length s.vc, .slice s.ea s.es.length s.ec], Fact.sl s.va (vrs s.vs)] [(0, .agg #[.string (S t.1), .int .i64 t.2.1, .bool t.2.2.1, .string (S t.2.2.2)]), (1, .pointer (some ⟨p, 0, none⟩))] Tryz.func227 rfl Tryz.ntmps227 rfl (Ac rfl (Ac rfl (An _))) (Fc (ah hF1) (Fc (ah hF2) Fn)) ?_
 refine Cs ?_
 refine Kh rfl (Oy rfl rfl) ?_
 intro b2
 refine Ka rfl (Nt (Cs ?_))
 (refine Kq rfl (cU rfl rfl u58 rfl (by kernel_rfl) (by (try simp only [sN, Int.reduceToNat, Nat.reduceAdd, Nat.reduceMul, Nat.reduceSub]); rfl)) ?_)
 refine Kq rfl (ldf (m := 1) rfl rfl .tc u55 rfl rfl rfl) ?_
 refine Kq rfl (Fa (q := 1) rfl rfl jc rfl rfl) (Kq rfl (Ld rfl rfl .tc u3) ?_)
 refine Kq rfl (Ib rfl rfl rfl u55 (by omega) (by (rw [aj _ _ 1 (fun _ => rfl)]; omega))) ?_
 (refine Kq rfl (faf rfl rfl nU rfl (by kernel_rfl) (by (try simp only [sN, Int.reduceToNat, Nat.reduceAdd, Nat.reduceMul, Nat.reduceSub]); rfl)) ?_)
 refine Kq rfl (kO (l := s.vs) (f := vrC) (sz := 1) t.2.1.toNat 0 rfl rfl u22 rfl (fun _ => rfl) (Nat.mul_one _).symm (by omega) (by decide) rfl) ?_
 refine Ys rfl (Ka rfl (Nt (Ce ?_)))
 exact R1 rfl rfl (by rfl)
theorem vF {s : SA} {w : World} {ok : Nat → Prop} (hF1 : (Fact.sl s.ga (gps s.gs)).holds ok w) (hF2 : (Fact.sl s.va (vrs s.vs)).holds ok w) (hF3 : (Fact.sl s.ea (qas s.es)).holds ok w) (hM : ∀ f ∈ (s.es.map qaF), f.holds ok w) (hs : saL s) (hfo : cr s.core) :
  Cw 188 #[saV s] w (.int .i64 (if kdS s.core then 0 else 10)) := by
 have hs' := hs
 obtain ⟨hlg, hlv, hle, hlt, hlm⟩ := hs
 refine En (Fact.sl s.ga (gps s.gs) :: Fact.sl s.va (vrs s.vs) :: Fact.sl s.ea (qas s.es) :: (s.es.map qaF)) [(0, saV s)] Tryz.func188 rfl Tryz.ntmps188 rfl (Ac rfl (An _)) (Fc (ah hF1) (Fc (ah hF2) (Fc (ah hF3) (cm hM)))) ?_
 refine Cs ?_
 refine Kh rfl (Oy rfl rfl) ?_
 intro b1
 refine Ka rfl (Nt (Cq (Cs (Kq rfl (Fa (q := 1) rfl rfl u58 rfl rfl) (Kq rfl (Ld rfl rfl .tc u55) ?_)))))
 refine Ku rfl (Oc rfl rfl (Kv fun w hS => y4 (l := s.vs) (fk := 224) (cs := #[]) (p := fun v => decide (v = [])) (by (exact hS.sl)) (by exact hlv) (by kernel_rfl) (by exact fun x hx w' hb => by rw [x7]; exact yF))) ?_
 refine Ns 8 rfl (v' := .bool (decide (¬ ∀ v ∈ s.vs, v ≠ []))) (congrArg Value.bool (by exact kE _ _)) ?_
 refine Yt rfl (Nt ?_)
 refine Cd rfl (fun hc9 => ?_) (fun hc9 => ?_)
 ·(try simp only [sB] at hc9)
  have hr : kdS s.core := Or.inl (by (exact Decidable.not_not.1 hc9))
  refine Cs (Ka rfl (Nt (Ce (Xb ?_))))
  exact R1 rfl rfl (by rw [if_pos hr]; rfl)
 ·(try simp only [sB] at hc9)
  have hnv : ¬ ∀ v ∈ s.vs, v ≠ [] := hc9
  refine Ck (Xa (Cs ?_))
  refine Kq rfl (lda rfl rfl .tc u58 rfl ?_) ?_
  ·kernel_rfl
  refine Ku rfl (Oc rfl rfl (Kv fun w hS => nq (s := s) (by (exact hS.sl)) (by exact hs'))) ?_
  refine Kh rfl (Oa rfl (v := (.string (S []))) (cs := [.string (S [])]) (by kernel_rfl) rfl) ?_
  intro b3
  refine Ng rfl rfl (st rfl rfl rfl .tc (by kernel_rfl) rfl ?_ (by (simp only [List.set_cons_zero, List.set_cons_succ]; rfl))) ?_
  ·decide
  intro _
  refine Nt (Cq ?_)
  refine WC.joinP (σ := Unit) [(1, _)] (fun gq => [(19, .bool (decide (¬ (fh s.gs ≠ [] ∧ ∀ g ∈ s.gs, ¬ (g.2 ≠ [] ∧ g.2 ≠ fh s.gs)))))]) (fun gq => True) (S1 rfl) ?_ ?_
  ·skip
   refine Cg (Kq rfl (Ld rfl rfl .tc u22) ?_)
   refine Ys rfl (Km rfl ?_)
   refine Nb 14 rfl (fun hg14 => ?_) (fun hg14 => ?_)
   ·(try simp only [sB] at hg14)
    refine Kt rfl (Kt rfl (Kt rfl (Kt rfl (Yp rfl (Nn ?_)))))
    refine WX.joinP (()) (S1 rfl) (by refine (Sc ?_ (S0 _)) <;> ((refine ai rfl ?_; (try dsimp only); (simp [*]; done)))) ?_ (by (exact fun _ h => h))
    (try dsimp only)
    done
   ·(try simp only [sB] at hg14)
    refine Kq rfl (Fa (q := 0) rfl rfl u58 rfl rfl) (Kq rfl (Ld rfl rfl .tc u54) ?_)
    refine Kq rfl (cE rfl rfl rfl) ?_
    refine Ku rfl (Oc rfl rfl (Kv fun w hS => y7 (l := s.gs) (fk := 226) (p := fun g => decide (g.2 ≠ [] ∧ g.2 ≠ fh s.gs)) (by (exact hS.sl)) (by exact hlg) (by kernel_rfl) (by exact fun x hx w' hb => by rw [x6]; exact yH (ge hS.os hb)))) ?_
    refine Ns 18 rfl (v' := .bool (decide (¬ ∀ g ∈ s.gs, ¬ (g.2 ≠ [] ∧ g.2 ≠ fh s.gs)))) (congrArg Value.bool (by exact kE _ _)) ?_
    refine Yq rfl (Nn ?_)
    refine WX.joinP (()) (S1 rfl) (by refine (Sc ?_ (S0 _)) <;> ((refine ai rfl ?_; (try dsimp only); (simp [*]; done)))) ?_ (by (exact fun _ h => h))
    (try dsimp only)
    done
  ·rintro _ hmeet; (try dsimp only at hmeet ⊢)
   refine Cd rfl (fun hc19 => ?_) (fun hc19 => ?_)
   ·(try simp only [sB] at hc19)
    refine Cs (Ka rfl (Nt (Ce (Xb ?_))))
    exact R1 rfl rfl (by rw [if_neg (fun h => h.elim hnv fun h => hc19 h.1)]; rfl)
   ·(try simp only [sB] at hc19)
    refine Ck (Xa (Cq (Cs (Kq rfl (Fa (q := 2) rfl rfl u58 rfl rfl) (Kq rfl (Ld rfl rfl .tc u56) ?_)))))
    refine Yo rfl u56 (Km rfl (Nt (Cb ?_)))
    refine Lp (σ := Nat) [(1, _), (21, _), (22, _)] (fun gq => [(23, .int .i64 (gq : Int))]) (fun gq => gq ≤ s.es.length ∧ ∀ q ∈ s.es.take gq, kdQ s.gs s.vs q.1) (fun gq => s.es.length - gq) (0) (S3 rfl rfl rfl) (S1 rfl) (by (try dsimp only); exact ⟨Nat.zero_le _, by simp⟩) ?_
    rintro k hinv1; (try dsimp only at hinv1 ⊢)
    obtain ⟨hk, hoq⟩ := hinv1
    refine Cs (Yl rfl (Nt (Cq ?_)))
    refine Cd rfl (fun hc24 => ?_) (fun hc24 => ?_)
    ·(try simp only [sB] at hc24)
     have hkl : k < s.es.length := by omega
     have hkm := ap s.es k hkl
     have hlt1 := hlt _ hkm
     have hfq := hfo.2.2 _ (List.mem_map_of_mem hkm)
     have hgl : (s.es.getD k default).1.1.toNat < s.gs.length := by have := hfq.1.1.1; have := hfq.1.1.2; simp only [SA.core] at this; omega
     have hq0 := hfq.1.1.1
     refine Ck (Xa (Cq (Cb (Cs ?_))))
     refine Kq rfl (Ia rfl rfl rfl u56 (by kernel_rfl : _ = some 3) (by omega) (by (rw [aj _ _ 3 (fun _ => rfl)]; omega))) ?_
     refine Kq rfl (dC _ rfl rfl u95 rfl (by kernel_rfl : _ = some 3) (fun _ => rfl) (by decide) rfl (by assumption)) ?_
     refine Kh rfl (Oz [.int .i64 0, .string (S []), .slice none 0 0] rfl) ?_
     intro b5
     refine Nu rfl rfl (Sa rfl rfl rfl .tc) ?_
     refine Nt (Cq (Cs (Kq rfl (Fa (q := 0) rfl rfl u58 rfl rfl) (Kq rfl (Ld rfl rfl .tc u54) ?_))))
     refine Kq rfl (Fa (q := 0) rfl rfl u95 rfl rfl) (Kq rfl (Ld rfl rfl .tc u3) ?_)
     refine Kq rfl (Ia rfl rfl rfl u54 (by kernel_rfl : _ = some 2) (by omega) (by (rw [aj _ _ 2 (fun _ => rfl)]; omega))) ?_
     (refine Kq rfl (faf rfl rfl u26 rfl (by kernel_rfl) (by (try simp only [sN, Int.reduceToNat, Nat.reduceAdd, Nat.reduceMul, Nat.reduceSub]); rfl)) ?_)
     refine Kq rfl (kO (sz := 2) _ 1 rfl rfl u22 rfl (fun _ => rfl) rfl (by assumption) (by decide) rfl) ?_
     refine Yr rfl (Nt ?_)
     refine Cd rfl (fun hc34 => ?_) (fun hc34 => ?_)
     ·(try simp only [sB] at hc34)
      refine Cx (Xc (Xe (Xa (Cg (Kq rfl (Rz rfl rfl rfl (by omega)) (Km rfl (Nn ?_)))))))
      refine Ly (k + 1) (by (try dsimp only); omega) (S3 rfl rfl rfl) (by refine (Sc ?_ (S0 _)) <;> (rfl)) ?_ (by (exact aq))
      (try dsimp only)
      exact ⟨hkl, ay hkl hoq (by (exact Or.inl (by simpa using hc34)))⟩
     ·(try simp only [sB] at hc34)
      refine Ck (Xa (Cs (Kq rfl (Fa (q := 2) rfl rfl u95 rfl rfl) (Kq rfl (Ld rfl rfl .tc u93) ?_))))
      refine Kq rfl (cE rfl rfl rfl) ?_
      refine Ku rfl (Oc rfl rfl (Kv fun w hS => wT (l := (s.es.getD k default).1.2.2) (fk := 227) (p := fun t => decide (s.vs.getD t.2.1.toNat default = [])) (hS.more (more := s.es.map qaF) _ (List.mem_map_of_mem hkm)) (by exact hlt1) (by kernel_rfl) (by exact fun x hx w' hb => by rw [x6]; exact yG (ge hS.os hb) (ge hS.sl hb) (hfq.2 x hx).1.1 (hfq.2 x hx).1.2 hlv))) ?_
      refine Ns 38 rfl (v' := .bool (decide (¬ ∀ t ∈ (s.es.getD k default).1.2.2, s.vs.getD t.2.1.toNat default ≠ []))) (congrArg Value.bool (by exact kE _ _)) ?_
      refine Nt ?_
      refine Cd rfl (fun hc38 => ?_) (fun hc38 => ?_)
      ·(try simp only [sB] at hc38)
       refine Cs (Ka rfl (Nt (Ce (Xf (Xb (Xb (Xf (Xb ?_))))))))
       exact R1 rfl rfl (by rw [if_neg (fun h => h.elim hnv fun h => (h.2 _ (List.mem_map_of_mem hkm)).elim (fun h => h (by simpa using hc34)) fun h => hc38 h)]; rfl)
      ·(try simp only [sB] at hc38)
       refine Ck (Xd (Xa (Cg (Kq rfl (Rz rfl rfl rfl (by omega)) (Km rfl (Nn ?_))))))
       refine Ly (k + 1) (by (try dsimp only); omega) (S3 rfl rfl rfl) (by refine (Sc ?_ (S0 _)) <;> (rfl)) ?_ (by (exact aq))
       (try dsimp only)
       exact ⟨hkl, ay hkl hoq (by (exact Or.inr (by simpa using hc38)))⟩
    ·(try simp only [sB] at hc24)
     refine Cx (Xc (Xc (Xe ?_)))
     obtain rfl : k = s.es.length := by omega
     rw [List.take_length] at hoq
     refine Xa (Cs (Ka rfl (Nt (Ce ?_))))
     exact R1 rfl rfl (by rw [if_pos (show kdS s.core from Or.inr ⟨Decidable.not_not.1 hc19, eF.2 hoq⟩)]; rfl)
def y2 (i : Nat) : Nat := [136, 186, 187, 188].getD i default
def io (s : Sm) (i : Nat) : Int := [if cr s then 0 else 3, if fu s then 0 else 6, if elS s then 0 else 13, if kdS s then 0 else 10].getD i default
theorem rf {i : Nat} (h : i < 4) : eE Tryz.prog (y2 i) = true := by
 rcases i with _ | _ | _ | _ | i
 ·kernel_rfl
 ·kernel_rfl
 ·kernel_rfl
 ·kernel_rfl
 ·omega
theorem lz {s : Sm} (h : io s 0 = 0) : cr s := by
 have h1 : (if cr s then (0 : Int) else 3) = 0 := h
 split at h1
 ·assumption
 ·simp at h1
theorem ye {s : SA} {w : World} {ok : Nat → Prop} (h1 : (Fact.sl s.ga (gps s.gs)).holds ok w) (h2 : (Fact.sl s.va (vrs s.vs)).holds ok w) (h3 : (Fact.sl s.ea (qas s.es)).holds ok w) (hM : ∀ f ∈ s.es.map qaF, f.holds ok w) (hs : saL s) {i : Nat} (hi : i < 4) (h0 : ∀ j, j < i → io s.core j = 0) :
  Calls Tryz.prog (y2 i) #[saV s] w fun e w' => e = .returned (.int .i64 (io s.core i)) ∧ Below w.heap.size w w' := by
 rcases i with _ | _ | _ | _ | i
 ·exact tu h1 h2 h3 hM hs
 ·exact uK h1 h2 h3 hs
 ·exact wb h1 h3 hM hs (lz (h0 0 (by decide)))
 ·exact vF h1 h2 h3 hM hs (lz (h0 0 (by decide)))
 ·omega
theorem wq {s : Sm} {i : Nat} (hi : i < 4) (h0 : ∀ j, j < i → io s j = 0) (h1 : io s i ≠ 0) : mI s = io s i := by
 have a0 := h0 0; have a1 := h0 1; have a2 := h0 2
 simp only [io, List.getD_cons_zero, List.getD_cons_succ] at a0 a1 a2
 unfold mI
 rcases i with _ | _ | _ | _ | i
 ·simp only [io, List.getD_cons_zero] at h1 ⊢; by_cases h : cr s <;> simp [h] at h1 ⊢
 ·have f0 : cr s := Decidable.byContradiction fun h => by simp [h] at a0
  simp only [io, List.getD_cons_zero, List.getD_cons_succ] at h1 ⊢; by_cases h : fu s <;> simp [h, f0] at h1 ⊢
 ·have f0 : cr s := Decidable.byContradiction fun h => by simp [h] at a0
  have f1 : fu s := Decidable.byContradiction fun h => by simp [h] at a1
  simp only [io, List.getD_cons_zero, List.getD_cons_succ] at h1 ⊢; by_cases h : elS s <;> simp [h, f0, f1] at h1 ⊢
 ·have f0 : cr s := Decidable.byContradiction fun h => by simp [h] at a0
  have f1 : fu s := Decidable.byContradiction fun h => by simp [h] at a1
  have f2 : elS s := Decidable.byContradiction fun h => by simp [h] at a2
  simp only [io, List.getD_cons_zero, List.getD_cons_succ] at h1 ⊢; by_cases h : kdS s <;> simp [h, f0, f1, f2] at h1 ⊢
 ·omega
theorem wo {s : Sm} (h0 : ∀ j, j < 4 → io s j = 0) : mI s = 0 := by
 have a0 := h0 0 (by decide); have a1 := h0 1 (by decide); have a2 := h0 2 (by decide); have a3 := h0 3 (by decide)
 simp only [io, List.getD_cons_zero, List.getD_cons_succ] at a0 a1 a2 a3
 have f0 : cr s := Decidable.byContradiction fun h => by simp [h] at a0
 have f1 : fu s := Decidable.byContradiction fun h => by simp [h] at a1
 have f2 : elS s := Decidable.byContradiction fun h => by simp [h] at a2
 have f3 : kdS s := Decidable.byContradiction fun h => by simp [h] at a3
 simp [mI, f0, f1, f2, f3]
theorem vR (v : Value) : (#[] : Array Value) ++ [v].toArray ++ #[] = #[v] := by simp
theorem s9 {s : SA} {w : World} {ok : Nat → Prop} (hF1 : (Fact.sl s.ga (gps s.gs)).holds ok w) (hF2 : (Fact.sl s.va (vrs s.vs)).holds ok w) (hF3 : (Fact.sl s.ea (qas s.es)).holds ok w) (hM : ∀ f ∈ (s.es.map qaF), f.holds ok w) (hs : saL s) :
  Cw 139 #[saV s] w (.int .i64 (mI s.core)) := by
 refine En (Fact.sl s.ga (gps s.gs) :: Fact.sl s.va (vrs s.vs) :: Fact.sl s.ea (qas s.es) :: (s.es.map qaF)) [(0, saV s)] Tryz.func139 rfl Tryz.ntmps139 rfl (Ac rfl (An _)) (Fc (ah hF1) (Fc (ah hF2) (Fc (ah hF3) (cm hM)))) ?_
 refine Cs ?_
 refine Kh rfl (Oy rfl rfl) ?_
 intro b1
 refine Ka rfl (Nt (Cq (Cs (Kq rfl (Kb [[.nilFunc], [.nilFunc], [.nilFunc], [.nilFunc]] rfl rfl) (Km rfl (Nt (Cb ?_)))))))
 refine Lp (σ := Nat) [(1, _), (6, _)] (fun gq => [(7, .int .i64 (gq : Int))]) (fun gq => gq ≤ 4 ∧ ∀ j, j < gq → io s.core j = 0) (fun gq => 4 - gq) (0) (S2 rfl rfl) (S1 rfl) (by (try dsimp only); exact ⟨Nat.zero_le _, fun _ h => absurd h (Nat.not_lt_zero _)⟩) ?_
 rintro i hinv1; (try dsimp only at hinv1 ⊢)
 obtain ⟨hi, hok⟩ := hinv1
 refine Cs (Yl rfl (Nt (Cq ?_)))
 refine Cd rfl (fun hc8 => ?_) (fun hc8 => ?_)
 ·(try simp only [sB] at hc8)
  have hil : i < 4 := by omega
  refine Ck (Xa (Cq (Cb (Cs ?_))))
  refine Kq rfl (jp rfl rfl rfl zp zq rfl (by kernel_rfl) ?_ (by rw [Int.toNat_natCast]; exact fH [136, 186, 187, 188] (fun k : Nat => Value.func (.func k) #[] #[]) i hil)) ?_
  ·omega
  refine Ka rfl (Nt (Cs (Km rfl ?_)))
  refine Kq rfl (lda rfl rfl .tc u58 rfl ?_) ?_
  ·kernel_rfl
  refine Ku rfl (aL rfl rfl rfl (rf hil) (vR _) (Kv fun w hS => ye hS.sl hS.sl hS.sl hS.more hs hil hok)) ?_
  refine Ka rfl (Nt (Cs (Km rfl (Yj rfl (Nt ?_)))))
  refine Cd rfl (fun hc14 => ?_) (fun hc14 => ?_)
  ·(try simp only [sB] at hc14)
   have hr := wq hil hok hc14
   refine Cs (Km rfl (Ka rfl (Nt (Ce (Xf (Xb (Xb (Xf (Xb ?_)))))))))
   exact R1 rfl rfl (by rw [hr]; rfl)
  ·(try simp only [sB] at hc14)
   refine Ck (Xd (Xa (Cg (Kq rfl (Rz rfl rfl rfl (by omega)) (Km rfl (Nn ?_))))))
   refine Ly (i + 1) (by (try dsimp only); omega) (S2 rfl rfl) (by refine (Sc ?_ (S0 _)) <;> (rfl)) ?_ (by (exact fun _ h => h))
   (try dsimp only)
   exact ⟨hil, fun j hj => by rcases Nat.lt_succ_iff_lt_or_eq.1 hj with h | h; exact hok j h; subst h; simpa using hc14⟩
 ·(try simp only [sB] at hc8)
  refine Cx (Xc (Xc (Xe ?_)))
  obtain rfl : i = 4 := by omega
  refine Xa (Cs (Ka rfl (Nt (Ce ?_))))
  exact R1 rfl rfl (by rw [wo hok]; rfl)
theorem yq {x : Zs} {w : World} :
  Cw 138 #[.agg #[.bool x.1, .string (S x.2)]] w (.bool (decide (¬ okZ x))) := by
 refine En [] [(0, .agg #[.bool x.1, .string (S x.2)])] Tryz.func138 rfl Tryz.ntmps138 rfl (Ac rfl (An _)) Fn ?_
 refine Cs ?_
 refine Kh rfl (Oy rfl rfl) ?_
 intro b1
 refine Ka rfl (Nt (Cs ?_))
 refine Kq rfl (lda rfl rfl .tc u37 rfl ?_) ?_
 ·kernel_rfl
 refine Ku rfl (Oc rfl rfl (Kv fun w hS => dJ (x := x))) ?_
 refine Yt rfl (Ka rfl (Nt (Ce ?_)))
 exact R1 rfl rfl (by (simp [tup]; done))
theorem ve {s : SA} {ws : List Zs} {a : Option Addr} {c : Nat} {w : World} {ok : Nat → Prop} (hF1 : (Fact.sl s.ga (gps s.gs)).holds ok w) (hF2 : (Fact.sl s.va (vrs s.vs)).holds ok w) (hF3 : (Fact.sl s.ea (qas s.es)).holds ok w) (hF4 : (Fact.sl a (aW ws)).holds ok w) (hM : ∀ f ∈ (s.es.map qaF), f.holds ok w) (hs : saL s) (hw : ws.length ≤ 100000) :
  Cw 78 #[saV s, .slice a ws.length c] w (.int .i64 (je s.core ws)) := by
 refine En (Fact.sl s.ga (gps s.gs) :: Fact.sl s.va (vrs s.vs) :: Fact.sl s.ea (qas s.es) :: Fact.sl a (aW ws) :: (s.es.map qaF)) [(0, saV s), (1, .slice a ws.length c)] Tryz.func78 rfl Tryz.ntmps78 rfl (Ac rfl (Ac rfl (An _))) (Fc (ah hF1) (Fc (ah hF2) (Fc (ah hF3) (Fc (ah hF4) (cm hM))))) ?_
 refine Cs ?_
 refine Kh rfl (Oy rfl rfl) ?_
 intro b2
 refine Ka rfl (Nt (Cq ?_))
 refine WC.joinP (σ := Unit) [(1, _), (2, _)] (fun gq => [(12, .bool (decide (¬ (cr s.core ∧ ∀ x ∈ ws, okZ x))))]) (fun gq => True) (S2 rfl rfl) ?_ ?_
 ·skip
  refine Cg ?_
  refine Kq rfl (lda rfl rfl .tc u58 rfl ?_) ?_
  ·kernel_rfl
  refine Ku rfl (Oc rfl rfl (Kv fun w hS => tu (s := s) (by (exact hS.sl)) (by (exact hS.sl)) (by (exact hS.sl)) (by (exact hS.more)) (by exact hs))) ?_
  refine Yj rfl ?_
  refine Ns 8 rfl (v' := .bool (decide (¬ cr s.core))) (congrArg Value.bool (by split <;> simp_all)) ?_
  refine Km rfl ?_
  refine Nb 9 rfl (fun hg9 => ?_) (fun hg9 => ?_)
  ·(try simp only [sB] at hg9)
   refine Kt rfl (Kt rfl (Yp rfl (Nn ?_)))
   refine WX.joinP (()) (S2 rfl rfl) (by refine (Sc ?_ (S0 _)) <;> ((refine ai rfl ?_; (try dsimp only); (simp [*]; done)))) ?_ (by (exact fun _ h => h))
   (try dsimp only)
   done
  ·(try simp only [sB] at hg9)
   refine Km rfl ?_
   refine Ku rfl (Oc rfl rfl (Kv fun w hS => y3 (l := ws) (fk := 138) (cs := #[]) (p := fun x => decide (¬ okZ x)) (by (exact hS.sl)) (by exact hw) (by kernel_rfl) (by exact fun x hx w' hb => by rw [x7]; exact yq))) ?_
   refine Ns 11 rfl (v' := .bool (decide (¬ ∀ x ∈ ws, okZ x))) (congrArg Value.bool (by exact qe _ _)) ?_
   refine Yq rfl (Nn ?_)
   refine WX.joinP (()) (S2 rfl rfl) (by refine (Sc ?_ (S0 _)) <;> ((refine ai rfl ?_; (try dsimp only); (simp [*]; done)))) ?_ (by (exact fun _ h => h))
   (try dsimp only)
   done
 ·rintro _ hmeet; (try dsimp only at hmeet ⊢)
  refine Cd rfl (fun hc12 => ?_) (fun hc12 => ?_)
  ·(try simp only [sB] at hc12)
   have hr : je s.core ws = 3 := by
    rw [je]; by_cases h : cr s.core
    ·rw [if_neg (fun h2 => h2 h), if_pos (fun h2 => hc12 ⟨h, h2⟩)]
    ·rw [if_pos h]
   refine Cs (Ka rfl (Nt (Ce (Xb ?_))))
   exact R1 rfl rfl (by rw [hr]; rfl)
  ·(try simp only [sB] at hc12)
   obtain ⟨hf1, hz1⟩ := Decidable.not_not.1 hc12
   refine Ck (Xa (Cq (Cs ?_)))
   refine Kq rfl (lda rfl rfl .tc u58 rfl ?_) ?_
   ·kernel_rfl
   refine Ku rfl (Oc rfl rfl (Kv fun w hS => s9 (s := s) (by (exact hS.sl)) (by (exact hS.sl)) (by (exact hS.sl)) (by (exact hS.more)) (by exact hs))) ?_
   refine Ka rfl (Nt (Cs (Km rfl (Yj rfl (Nt ?_)))))
   refine Cd rfl (fun hc16 => ?_) (fun hc16 => ?_)
   ·(try simp only [sB] at hc16)
    refine Cs (Km rfl (Ka rfl (Nt (Ce (Xb ?_)))))
    exact R1 rfl rfl (by rw [je, if_neg (fun h => h hf1), if_neg (fun h => h hz1), if_pos (by simpa using hc16)]; rfl)
   ·(try simp only [sB] at hc16)
    have hk0 : mI s.core = 0 := by simpa using hc16
    refine Ck (Xa (Cq (Cs (Km rfl (Yo rfl u39 (Kq rfl (Fa (q := 1) rfl rfl u58 rfl rfl) (Kq rfl (Ld rfl rfl .tc u55) ?_)))))))
    refine Yo rfl u55 (Yj rfl (Nt ?_))
    refine Cd rfl (fun hc23 => ?_) (fun hc23 => ?_)
    ·(try simp only [sB] at hc23)
     refine Cs (Ka rfl (Nt (Ce (Xb ?_))))
     exact R1 rfl rfl (by rw [je, if_neg (fun h => h hf1), if_neg (fun h => h hz1), if_neg (fun h => h hk0), if_pos (fun h => hc23 (by rw [h]))]; rfl)
    ·(try simp only [sB] at hc23)
     refine Ck (Xa (Cs (Ka rfl (Nt (Ce ?_)))))
     exact R1 rfl rfl (by rw [je, if_neg (fun h => h hf1), if_neg (fun h => h hz1), if_neg (fun h => h hk0), if_neg (fun h => h (show ws.length = s.vs.length by omega))]; rfl)
section
variable {P : Program} {ok : Nat → Prop} {w0 w : World} {own : List Ent} {fs : List Fact} {γ : Type} {f : FuncId} {args : Array Value} {val : γ → Value} {p : γ → Prop} {F : γ → List Fact} {xs : List Value}
theorem ie (h : ∀ w, St ok w0 own fs w → Calls P f args w (fun e w' => ∃ g, e = .returned (val g) ∧ p g ∧ Below w.heap.size w w' ∧ ∀ x ∈ F g, x.holds (fun b => w.heap.size ≤ b) w')) :
  ∀ w, St ok w0 own fs w → Calls P f args w (fun e w' => ∃ g, e = .returned (val g) ∧ p g ∧ St ok w0 own (F g ++ fs) w') :=
 my fun w hS => (h w hS).mono fun _ w' ⟨g, he, hp, hb, hF⟩ => ⟨g, he, hp, hb, fun x hx => x.mono (fun _ h => .inr h) (hF x hx)⟩
theorem St.ocf (h : St ok w0 own fs w) {ob : Option Nat} {sp : List Value} {T : TypeId} {C : Ent → List Ent} [hf : HasC own ob (xs ++ sp) T C] : (Fact.sl (ob.map fun b => ⟨b, 0, none⟩) xs).holds (fun b => w0.heap.size ≤ b) w := by
 obtain ⟨k, hk, _⟩ := hf.h.get
 have := h.own_ _ (List.mem_of_getElem? hk)
 cases ob with
 | none => exact .inl (by have h1 : xs ++ sp = [] := this; simp at h1; exact h1.1)
 | some b =>
  refine .inr ⟨b, 0, (xs ++ sp).toArray, T, (0, 0), rfl, this.1, this.2, fun i hi => ?_⟩
  rw [Nat.zero_add, List.getElem?_toArray, List.getElem?_append_left hi]
end
section
variable {ds : List Deferred} {P : Program} {ops l : List Oper} {Q : Exit → Act → World → Prop} {n : Nat} {L : ak} {ok : Nat → Prop} {w0 : World} {own : List Ent} {fs : List Fact} {x y : Fact}
theorem WL.fa2 (k : WL ds P ops Q n l L (St ok w0 own (x :: y :: fs))) : WL ds P ops Q n l L (St ok w0 own ([x, y] ++ fs)) := k
end
def bsQ (ws : List Zs) (q : Qn) : List Bs := if (exQ ws q).2 ≠ 0 then [] else q.2.2.map (·.1)
theorem oI {ws : List Zs} {q : Qn} {i : Nat} (h : i < q.2.2.length) (h0 : ∀ t ∈ q.2.2.take i, (exT ws t).2 = 0) (h1 : (exT ws (q.2.2.getD i default)).2 ≠ 0) : exQ ws q = ([], (exT ws (q.2.2.getD i default)).2) := by
 rw [exQ, pR h h0 h1, if_pos h1]
theorem tH {ws : List Zs} {q : Qn} (h0 : ∀ t ∈ q.2.2, (exT ws t).2 = 0) : exQ ws q = (q.2.2.map fun t => (exT ws t).1, 0) := by
 rw [exQ, nD h0, if_neg (by decide)]
theorem uB {l : List Tm} {i : Nat} (h : i < l.length) : ao ((l.take (i + 1)).map (·.1)) = ao ((l.take i).map (·.1)) ++ [.string (S (l.getD i default).1)] := by
 rw [aS h, List.map_append]; simp [ao]
theorem uC {l : List Tm} (f : Tm → Zs) {i : Nat} (h : i < l.length) : aW ((l.take (i + 1)).map f) = aW ((l.take i).map f) ++ zc (f (l.getD i default)) := by
 rw [aS h, List.map_append]; simp
theorem tZ {ws : List Zs} {q : Qn} {i : Nat} (h : i < q.2.2.length) (h0 : ∀ t ∈ q.2.2.take i, (exT ws t).2 = 0) (h1 : (exT ws (q.2.2.getD i default)).2 ≠ 0) : bsQ ws q = [] := by
 rw [bsQ, oI h h0 h1, if_pos h1]
theorem rb {q : QA} {ws : List Zs} {p : Nat} {a : Option Addr} {c : Nat} {w : World} {ok : Nat → Prop} (hF1 : (Fact.sl (some ⟨p, 0, none⟩) [.slice a ws.length c]).holds ok w) (hF2 : (Fact.sl a (aW ws)).holds ok w) (hF3 : (Fact.sl q.2.1 (tms q.1.2.2)).holds ok w) (hw : ws.length ≤ 100000) (hl : q.1.2.2.length ≤ 100000) (ht : ∀ t ∈ q.1.2.2, 0 ≤ t.2.1 ∧ t.2.1 < ws.length) :
  Calls Tryz.prog 141 #[.agg #[.int .i64 q.1.1, .string (S q.1.2.1), .slice q.2.1 q.1.2.2.length q.2.2], .pointer (some ⟨p, 0, none⟩)] w fun e w' => ∃ gx : Rs × Rs, e = .returned (.tuple #[gx.1.val (bsQ ws q.1).length, gx.2.val (exQ ws q.1).1.length, .int .i64 (exQ ws q.1).2]) ∧ (True) ∧ Below w.heap.size w w' ∧ ∀ x ∈ ([Fact.sl gx.1.a (ao (bsQ ws q.1)), Fact.sl gx.2.a (aW (exQ ws q.1).1)] : List Fact), x.holds (fun b => w.heap.size ≤ b) w' := by
 refine En [Fact.sl (some ⟨p, 0, none⟩) [.slice a ws.length c], Fact.sl a (aW ws), Fact.sl q.2.1 (tms q.1.2.2)] [(0, .agg #[.int .i64 q.1.1, .string (S q.1.2.1), .slice q.2.1 q.1.2.2.length q.2.2]), (1, .pointer (some ⟨p, 0, none⟩))] Tryz.func141 rfl Tryz.ntmps141 rfl (Ac rfl (Ac rfl (An _))) (Fc (ah hF1) (Fc (ah hF2) (Fc (ah hF3) Fn))) ?_
 refine Cs ?_
 refine Kh rfl (Oy rfl rfl) ?_
 intro b2
 refine Ka rfl (Ka rfl (Ka rfl (Nt (Cs (Ka rfl (Nt (Cs (Ka rfl (Nt (Cq (Cs (Kq rfl (Fa (q := 2) rfl rfl u95 rfl rfl) (Kq rfl (Ld rfl rfl .tc u93) ?_)))))))))))))
 refine Yo rfl u93 (Km rfl (Nt (Cb ?_)))
 refine Lo (σ := Nat × (Option Nat) × Nat × (List Value) × (Option Nat) × Nat × (List Value)) [(1, _), (13, _), (14, _)] (fun gq => [(6, .slice (gq.2.1.map fun b => ⟨b, 0, none⟩) gq.1 gq.2.2.1), (7, .slice (gq.2.2.2.2.1.map fun b => ⟨b, 0, none⟩) gq.1 gq.2.2.2.2.2.1), (15, .int .i64 (gq.1 : Int))]) (fun gq => (gq.1 ≤ q.1.2.2.length ∧ gq.2.2.1 = gq.1 + gq.2.2.2.1.length ∧ gq.2.2.2.2.2.1 * 2 = gq.1 * 2 + gq.2.2.2.2.2.2.length) ∧ ∀ t ∈ q.1.2.2.take gq.1, (exT ws t).2 = 0) (fun gq => q.1.2.2.length - gq.1) (fun gq => [⟨gq.2.2.2.2.1, aW ((q.1.2.2.take gq.1).map fun t => (exT ws t).1) ++ gq.2.2.2.2.2.2, 37⟩, ⟨gq.2.1, ao ((q.1.2.2.take gq.1).map (·.1)) ++ gq.2.2.2.1, 22⟩, ⟨some b2, [.int .i64 q.1.1, .string (S q.1.2.1), .slice q.2.1 q.1.2.2.length q.2.2], 95⟩]) (fun gq => [Fact.sl (some ⟨p, 0, none⟩) [.slice a ws.length c], Fact.sl a (aW ws), Fact.sl q.2.1 (tms q.1.2.2)]) (0, none, 0, [], none, 0, []) (S3 rfl rfl rfl) (S3 rfl rfl rfl) (by (try dsimp only); exact ⟨⟨Nat.zero_le _, rfl, rfl⟩, by simp⟩) (by exact fun w h => (h.nil _).nil _) ?_
 rintro ⟨i, o, cp, sp, o2, cp2, sp2⟩ hinv1; (try dsimp only at hinv1 ⊢)
 obtain ⟨⟨hi, hcp, hcp2⟩, hok⟩ := hinv1
 refine Cs (Yl rfl (Nt (Cq ?_)))
 refine Cd rfl (fun hc16 => ?_) (fun hc16 => ?_)
 ·(try simp only [sB] at hc16)
  have hil : i < q.1.2.2.length := by omega
  have htm := ht _ (ap _ _ hil)
  have htl : (q.1.2.2.getD i default).2.1.toNat < ws.length := by omega
  refine Ck (Xa (Cq (Cb (Cs ?_))))
  refine Kq rfl (Ia rfl rfl rfl u93 (by kernel_rfl : _ = some 4) (by omega) (by (rw [aj _ _ 4 (fun _ => rfl)]; omega))) ?_
  refine Kq rfl (dC _ rfl rfl jc rfl (by kernel_rfl : _ = some 4) (fun _ => rfl) (by decide) rfl (by assumption)) ?_
  refine Kh rfl (Oz [.string (S []), .int .i64 0, .bool false, .string (S [])] rfl) ?_
  intro b9
  refine Nu rfl rfl (Sa rfl rfl rfl .tc) ?_
  refine Nt (Cq ?_)
  refine Cf [0, 1, 2, 3, 4, 5, 6, 7, 8, 9, 11, 12, 10, 13] [] [0, 0, 0, 0, 0, 0, 0, 1, 0, 0, 0, 3, 1, 0] (by kernel_rfl) (by kernel_rfl) rfl ?_
  refine Kj rfl (Fa (q := 2) rfl rfl jc rfl rfl) ?_
  refine Kj rfl (ldp rfl rfl .tc u37 rfl (by kernel_rfl : _ = some 2) (by rfl) (by rfl)) ?_
  refine Kj rfl (ldf (m := 0) rfl rfl .tc u39 rfl rfl rfl) ?_
  refine Kj rfl (Fa (q := 1) rfl rfl jc rfl rfl) (Kj rfl (Ld rfl rfl .tc u3) ?_)
  refine Kj rfl (Ia rfl rfl rfl u39 (by kernel_rfl : _ = some 2) (by assumption) (by (rw [aj _ _ 2 (fun _ => rfl)]; omega))) ?_
  refine Kj rfl (dC _ rfl rfl u37 rfl (by kernel_rfl : _ = some 2) (fun _ => rfl) (by decide) rfl (by assumption)) ?_
  refine Jv rfl rfl rfl rfl rfl (fun ext => Oc rfl rfl (Kv fun w hS => nR (x := (q.1.2.2.getD i default).2.2) (y := ws.getD (q.1.2.2.getD i default).2.1.toNat default))) ?_
  refine Kj rfl (Rm rfl rfl) (Kj rfl (Re rfl rfl rfl) ?_)
  refine Jf rfl rfl rfl rfl rfl (du rfl (v := (.agg #[.bool false, .string (S [])])) (cs := [.bool false, .string (S [])]) (by kernel_rfl) rfl) ?_
  intro b10
  refine WJ.st rfl rfl rfl rfl (lS rfl rfl rfl ?_ ?_ ?_) ?_
  ·kernel_rfl
  ·simp [Value.oneCell']
  ·rfl
  refine Kj rfl (Re rfl rfl rfl) (Kj rfl (Ra rfl rfl) ?_)
  refine WJ.nil ?_
  refine Nt (Cq (Cs (Km rfl (Yj rfl (Nt ?_)))))
  refine Cd rfl (fun hc31 => ?_) (fun hc31 => ?_)
  ·(try simp only [sB] at hc31)
   refine Cs (Km rfl (Ka rfl (Ka rfl (Ka rfl (Nt (Ce (Xb (Xf (Xb (Xb (Xf (Xb ?_))))))))))))
   exact Rn rfl (.tmp rfl (.tmp rfl (.tmp rfl .nil))) fun w' hS => ⟨(⟨none, 0, []⟩, ⟨none, 0, []⟩), by rw [tZ hil hok hc31, oI hil hok hc31]; rfl, trivial, hS.below, by rw [tZ hil hok hc31, oI hil hok hc31]; exact Fc bt (Fc bt Fn)⟩
  ·(try simp only [sB] at hc31)
   have hx0 : (exT ws (q.1.2.2.getD i default)).2 = 0 := by simpa [exT] using hc31
   have hln : (aW ((q.1.2.2.take i).map fun t => (exT ws t).1)).length = i * 2 := by rw [aj _ _ 2 (fun _ => rfl), List.length_map, List.length_take]; omega
   have hls : (ao ((q.1.2.2.take i).map (·.1))).length = i := by simp [ao]; omega
   refine Ck (Xa ?_)
   refine WC.free (K := [⟨some b10, [.bool (dO (q.1.2.2.getD i default).2.2 (ws.getD (q.1.2.2.getD i default).2.1.toNat default)).1.1, .string (S (dO (q.1.2.2.getD i default).2.2 (ws.getD (q.1.2.2.getD i default).2.1.toNat default)).1.2)], 37⟩, ⟨some b9, [.string (S (q.1.2.2.getD i default).1), .int .i64 (q.1.2.2.getD i default).2.1, .bool (q.1.2.2.getD i default).2.2.1, .string (S (q.1.2.2.getD i default).2.2.2)], 122⟩]) (fs0 := []) [0, 1, 2, 3, 4, 5, 6, 7, 8, 9, 10] [] [0, 0, 0, 3, 1, 0, 0, 3, 1, 0, 0] (by kernel_rfl) (by kernel_rfl) rfl ?_
   refine Kj rfl (Rm rfl rfl) (Kj rfl (Fa (q := 0) rfl rfl jc rfl rfl) (Kj rfl (Ld rfl rfl .tc u22) ?_))
   refine Jf rfl rfl rfl rfl rfl (kp rfl rfl u31 (by kernel_rfl : _ = some (some (.string (S [])), 1, 16)) rfl (by simp only [List.map]; rfl) rfl rfl ?_ (by decide)) ?_
   ·simp [Value.cells]
   intro b36
   refine Jg rfl rfl rfl rfl rfl (nK rfl u31 (by kernel_rfl : _ = some (some (.string (S [])), 1, 16)) rfl .tc rfl rfl (fun ext w hS => by (exact hS.os)) (by rfl) (by refine ⟨?_, ?_, ?_, ?_⟩ <;> first | exact hls | (try simp) <;> omega) (by (simp [Value.oneCell']; done))) ?_
   rintro ⟨o37, c37, s37⟩ hg37; (try dsimp only at hg37 ⊢)
   refine Kj rfl (Rm rfl rfl) ?_
   refine Kj rfl (lda rfl rfl .tc u37 rfl ?_) ?_
   ·kernel_rfl
   refine Jf rfl rfl rfl rfl rfl (iL rfl rfl u39 (by kernel_rfl : _ = some (some (.agg #[.bool false, .string (S [])]), 2, 24)) (by kernel_rfl) (by decide) rfl rfl (by (simp [Value.cells]; done)) (by (exact cu _)) (by decide)) ?_
   intro b40
   refine Jg rfl rfl rfl rfl rfl (mP rfl u39 (by kernel_rfl : _ = some (some (.agg #[.bool false, .string (S [])]), 2, 24)) (by kernel_rfl) (by decide) .tc rfl rfl (fun ext w hS => by (exact hS.os)) (by rfl) (by refine ⟨?_, ?_, ?_, ?_⟩ <;> first | exact hln | omega) (by (simp [Value.oneCell']; done))) ?_
   rintro ⟨o41, c41, s41⟩ hg41; (try dsimp only at hg41 ⊢)
   refine Kj rfl (Ra rfl rfl) (Kj rfl (Ra rfl rfl) ?_)
   refine WJ.nil ?_
   refine Nn (Xd (Xa (Cg (Kq rfl (Rz rfl rfl rfl (by omega)) (Km rfl (Nn ?_))))))
   refine Lx ((i + 1, o37, c37, s37, o41, c41, s41)) (by (try dsimp only); omega) (S3 rfl rfl rfl) (by refine (Sc ?_ (Sc ?_ (Sc ?_ (S0 _)))) <;> (rfl)) ?_ (by exact fun w h => by rw [uB hil, uC _ hil]; exact aq _ h)
   (try dsimp only)
   exact ⟨⟨hil, by omega, by omega⟩, ay hil hok hx0⟩
 ·(try simp only [sB] at hc16)
  refine Cx (Xc (Xc (Xe ?_)))
  obtain rfl : i = q.1.2.2.length := by omega
  rw [List.take_length] at hok
  rw [List.take_length]
  refine Xa (Cs (Km rfl (Km rfl (Ka rfl (Ka rfl (Ka rfl (Nt (Ce ?_))))))))
  exact Rn rfl (.tmp rfl (.tmp rfl (.tmp rfl .nil))) fun w' hS => ⟨(⟨o, cp, sp⟩, ⟨o2, cp2, sp2⟩), by rw [bsQ, tH hok, if_neg (fun h => h rfl), List.length_map, List.length_map]; rfl, trivial, hS.below, by rw [bsQ, tH hok, if_neg (fun h => h rfl)]; exact Fc hS.ocf (Fc hS.ocf Fn)⟩
theorem qW {s : SA} {ws : List Zs} {a : Option Addr} {c : Nat} {w : World} {ok : Nat → Prop} (hF1 : (Fact.sl s.ga (gps s.gs)).holds ok w) (hF2 : (Fact.sl s.va (vrs s.vs)).holds ok w) (hF3 : (Fact.sl a (aW ws)).holds ok w) (hs : saL s) (hw : ws.length = s.vs.length) (hfo : cr s.core) (hz : ∀ x ∈ ws, okZ x) :
  Cw 79 #[saV s, .slice a ws.length c] w (.bool (decide (inR s.core ws))) := by
 have hs' := hs
 obtain ⟨hlg, hlv, hle, hlt, hlm⟩ := hs
 have hoo : okN (fh s.gs) := sS hfo.1
 refine En [Fact.sl s.ga (gps s.gs), Fact.sl s.va (vrs s.vs), Fact.sl a (aW ws)] [(0, saV s), (1, .slice a ws.length c)] Tryz.func79 rfl Tryz.ntmps79 rfl (Ac rfl (Ac rfl (An _))) (Fc (ah hF1) (Fc (ah hF2) (Fc (ah hF3) Fn))) ?_
 refine Cs ?_
 refine Kh rfl (Oy rfl rfl) ?_
 intro b2
 refine Ka rfl (Nt (Cq (Cs (Kq rfl (Fa (q := 1) rfl rfl u58 rfl rfl) (Kq rfl (Ld rfl rfl .tc u55) ?_)))))
 refine Yo rfl u55 (Km rfl (Nt (Cb ?_)))
 refine Lp (σ := Nat) [(1, _), (2, _), (9, _), (10, _)] (fun gq => [(11, .int .i64 (gq : Int))]) (fun gq => gq ≤ s.vs.length ∧ ∀ j, j < gq → inV (fh s.gs) (s.vs.getD j default) (ws.getD j default)) (fun gq => s.vs.length - gq) (0) (S4 rfl rfl rfl rfl) (S1 rfl) (by (try dsimp only); exact ⟨Nat.zero_le _, fun _ h => absurd h (Nat.not_lt_zero _)⟩) ?_
 rintro i hinv1; (try dsimp only at hinv1 ⊢)
 obtain ⟨hi, hok⟩ := hinv1
 refine Cs (Yl rfl (Nt (Cq ?_)))
 refine Cd rfl (fun hc12 => ?_) (fun hc12 => ?_)
 ·(try simp only [sB] at hc12)
  have hil : i < s.vs.length := by omega
  have hwl : i < ws.length := by omega
  have hov : okN (s.vs.getD i default) := hfo.2.1 _ (ap _ _ hil)
  have hoz := (hz _ (ap _ _ hwl)).1
  refine Ck (Xa (Cq (Cb (Cs (Km rfl ?_)))))
  refine Kq rfl (Ib rfl rfl rfl u55 (by omega) (by (rw [aj _ _ 1 (fun _ => rfl)]; omega))) ?_
  refine Kq rfl (dC _ rfl rfl nU rfl (by kernel_rfl : _ = some 1) (fun _ => rfl) (by decide) (Nat.mul_one _).symm (by assumption)) ?_
  refine Kh rfl (Oz [.string (S [])] rfl) ?_
  intro b6
  refine Ka rfl ?_
  refine Nu rfl rfl (Sa rfl rfl rfl .tc) ?_
  refine Nt (Cs (Kq rfl (Fa (q := 0) rfl rfl nU rfl rfl) (Kq rfl (Ld rfl rfl .tc u22) ?_)))
  refine Ka rfl (Nt (Cq (Cs (Km rfl (Ys rfl (Nt ?_))))))
  refine Cd rfl (fun hc19 => ?_) (fun hc19 => ?_)
  ·(try simp only [sB] at hc19)
   have hv0 : s.vs.getD i default = [] := by simpa using hc19
   refine Cs ?_
   refine Kq rfl (lda rfl rfl .tc u58 rfl ?_) ?_
   ·kernel_rfl
   refine Ku rfl (Oc rfl rfl (Kv fun w hS => nq (s := s) (by (exact hS.sl)) (by exact hs'))) ?_
   refine Ka rfl (Nt (Cs (Km rfl (Km rfl ?_))))
   refine Kq rfl (Ia rfl rfl rfl u39 (by kernel_rfl : _ = some 2) (by omega) (by (rw [aj _ _ 2 (fun _ => rfl)]; omega))) ?_
   (refine Kq rfl (faf rfl rfl u37 rfl (by kernel_rfl) (by (try simp only [sN, Int.reduceToNat, Nat.reduceAdd, Nat.reduceMul, Nat.reduceSub]); rfl)) ?_)
   refine Kq rfl (kO (sz := 2) _ 0 rfl rfl u4 rfl (fun _ => rfl) rfl (by assumption) (by decide) rfl) ?_
   refine Nt ?_
   refine Cd rfl (fun hc26 => ?_) (fun hc26 => ?_)
   ·(try simp only [sB] at hc26)
    have hn : ¬ inR s.core ws := fun h => by
     have h1 := h i hil; rw [inV, if_pos hv0] at h1; rw [h1.1] at hc26; cases hc26
    refine Cs (Ka rfl (Nt (Ce (Xb (Xf (Xb (Xb (Xf (Xb ?_)))))))))
    exact R1 rfl rfl (by rw [decide_eq_false hn]; rfl)
   ·(try simp only [sB] at hc26)
    refine Ck (Xa (Cs (Km rfl (Km rfl ?_))))
    refine Kq rfl (Ia rfl rfl rfl u39 (by kernel_rfl : _ = some 2) (by omega) (by (rw [aj _ _ 2 (fun _ => rfl)]; omega))) ?_
    (refine Kq rfl (faf rfl rfl u37 rfl (by kernel_rfl) (by (try simp only [sN, Int.reduceToNat, Nat.reduceAdd, Nat.reduceMul, Nat.reduceSub]); rfl)) ?_)
    refine Kq rfl (kO (sz := 2) _ 1 rfl rfl u22 rfl (fun _ => rfl) rfl (by assumption) (by decide) rfl) ?_
    refine Km rfl ?_
    refine Ku rfl (Oc rfl rfl (Kv fun w hS => dT (a := (ws.getD i default).2))) ?_
    refine Yh rfl (Nt ?_)
    refine Cd rfl (fun hc34 => ?_) (fun hc34 => ?_)
    ·(try simp only [sB] at hc34)
     have hn : ¬ inR s.core ws := fun h => by
      have h1 := h i hil; rw [inV] at h1; simp only [SA.core] at h1
      (rw [if_pos hv0] at h1; rw [az hoz hoo] at hc34; have := (fb _ _).1 hc34; have h2 := h1.2; omega)
     refine Cs (Ka rfl (Nt (Ce (Xf (Xb (Xb (Xf (Xb ?_))))))))
     exact R1 rfl rfl (by rw [decide_eq_false hn]; rfl)
    ·(try simp only [sB] at hc34)
     have hlt : inV (fh s.gs) (s.vs.getD i default) (ws.getD i default) := by
      rw [inV]; (rw [if_pos hv0]; rw [az hoz hoo, ] at hc34; exact ⟨by simpa using hc26, (aw _ _).1 (by omega)⟩)
     refine Ck (Xd (Xa (Cg (Kq rfl (Rz rfl rfl rfl (by omega)) (Km rfl (Nn ?_))))))
     refine Ly (i + 1) (by (try dsimp only); omega) (S4 rfl rfl rfl rfl) (by refine (Sc ?_ (S0 _)) <;> (rfl)) ?_ (by (exact aq))
     (try dsimp only)
     exact ⟨hil, fun j hj => by rcases Nat.lt_succ_iff_lt_or_eq.1 hj with h | h; exact hok j h; subst h; exact hlt⟩
  ·(try simp only [sB] at hc19)
   have hv0 : s.vs.getD i default ≠ [] := by simpa using hc19
   refine Ck (Xa (Cs (Km rfl (Km rfl ?_))))
   refine Kq rfl (Ia rfl rfl rfl u39 (by kernel_rfl : _ = some 2) (by omega) (by (rw [aj _ _ 2 (fun _ => rfl)]; omega))) ?_
   (refine Kq rfl (faf rfl rfl u37 rfl (by kernel_rfl) (by (try simp only [sN, Int.reduceToNat, Nat.reduceAdd, Nat.reduceMul, Nat.reduceSub]); rfl)) ?_)
   refine Kq rfl (kO (sz := 2) _ 1 rfl rfl u22 rfl (fun _ => rfl) rfl (by assumption) (by decide) rfl) ?_
   refine Km rfl ?_
   refine Ku rfl (Oc rfl rfl (Kv fun w hS => dT (a := (ws.getD i default).2))) ?_
   refine Yh rfl (Nt ?_)
   refine Cd rfl (fun hc34 => ?_) (fun hc34 => ?_)
   ·(try simp only [sB] at hc34)
    have hn : ¬ inR s.core ws := fun h => by
     have h1 := h i hil; rw [inV] at h1; simp only [SA.core] at h1
     (rw [if_neg hv0] at h1; rw [az hoz hov] at hc34; have := (fb _ _).1 hc34; omega)
    refine Cs (Ka rfl (Nt (Ce (Xf (Xb (Xb (Xf (Xb ?_))))))))
    exact R1 rfl rfl (by rw [decide_eq_false hn]; rfl)
   ·(try simp only [sB] at hc34)
    have hlt : inV (fh s.gs) (s.vs.getD i default) (ws.getD i default) := by
     rw [inV]; (rw [if_neg hv0]; rw [az hoz hov] at hc34; exact (aw _ _).1 (by omega))
    refine Ck (Xd (Xa (Cg (Kq rfl (Rz rfl rfl rfl (by omega)) (Km rfl (Nn ?_))))))
    refine Ly (i + 1) (by (try dsimp only); omega) (S4 rfl rfl rfl rfl) (by refine (Sc ?_ (S0 _)) <;> (rfl)) ?_ (by (exact aq))
    (try dsimp only)
    exact ⟨hil, fun j hj => by rcases Nat.lt_succ_iff_lt_or_eq.1 hj with h | h; exact hok j h; subst h; exact hlt⟩
 ·(try simp only [sB] at hc12)
  refine Cx (Xc (Xc (Xe ?_)))
  obtain rfl : i = s.vs.length := by omega
  refine Xa (Cs (Ka rfl (Nt (Ce ?_))))
  exact R1 rfl rfl (by rw [decide_eq_true (show inR s.core ws from fun j hj => hok j hj)]; rfl)
theorem mB {s : SA} {ws : List Zs} {i : Nat} (h : i < s.es.length) (h0 : ∀ q ∈ s.es.take i, (imQ s.gs ws q.1).2 = 0) (h1 : (imQ s.gs ws (s.es.getD i default).1).2 ≠ 0) : imS s.core ws = ([], (imQ s.gs ws (s.es.getD i default).1).2) := by
 have e : gw (s.core.2.2.map fun q => (imQ s.core.1 ws q).2) = (imQ s.gs ws (s.es.getD i default).1).2 := by
  rw [← pR (f := fun q : QA => (imQ s.gs ws q.1).2) h h0 h1, List.map_map]; rfl
 rw [imS, e, if_pos h1]
theorem ti {s : SA} {ws : List Zs} (h0 : ∀ q ∈ s.es, (imQ s.gs ws q.1).2 = 0) : imS s.core ws = (s.es.map fun q => (imQ s.gs ws q.1).1, 0) := by
 have e : gw (s.core.2.2.map fun q => (imQ s.core.1 ws q).2) = 0 := nD fun q hq => by
  obtain ⟨x, hx, rfl⟩ := List.mem_map.1 hq; exact h0 x hx
 rw [imS, e, if_neg (fun h => h rfl), List.map_map]; rfl
theorem vN {gs : List Gp} {ws : List Zs} {q : Qn} (h : (exQ ws q).2 ≠ 0) : imQ gs ws q = ([], (exQ ws q).2) := by rw [imQ, if_pos h]
theorem x2 {gs : List Gp} {ws : List Zs} {q : Qn} (h : (exQ ws q).2 = 0) : imQ gs ws q = dn (gs.getD q.1.toNat default) (bsQ ws q) (exQ ws q).1 := by rw [imQ, bsQ, if_neg (fun h2 => h2 h), if_neg (fun h2 => h2 h)]
theorem vt {l : List QA} (f : QA → Bs) {i : Nat} (h : i < l.length) : ao ((l.take (i + 1)).map f) = ao ((l.take i).map f) ++ [.string (S (f (l.getD i default)))] := by
 rw [aS h, List.map_append]; simp [ao]
theorem wA {ws : List Zs} {q : Qn} : (bsQ ws q).length ≤ q.2.2.length := by rw [bsQ]; split <;> simp
theorem vZ {ws : List Zs} {q : Qn} : (exQ ws q).1.length ≤ q.2.2.length := by rw [exQ]; split <;> simp
theorem th {s : SA} {ws : List Zs} {a : Option Addr} {c : Nat} {w : World} {ok : Nat → Prop} (hF1 : (Fact.sl s.ga (gps s.gs)).holds ok w) (hF2 : (Fact.sl s.ea (qas s.es)).holds ok w) (hF3 : (Fact.sl a (aW ws)).holds ok w) (hM : ∀ f ∈ (s.es.map qaF), f.holds ok w) (hs : saL s) (hw : ws.length = s.vs.length) (hfo : cr s.core) :
  Calls Tryz.prog 80 #[saV s, .slice a ws.length c] w fun e w' => ∃ gx : Rs, e = .returned (.tuple #[gx.val (imS s.core ws).1.length, .int .i64 (imS s.core ws).2]) ∧ (True) ∧ Below w.heap.size w w' ∧ ∀ x ∈ ([Fact.sl gx.a (ao (imS s.core ws).1)] : List Fact), x.holds (fun b => w.heap.size ≤ b) w' := by
 obtain ⟨hlg, hlv, hle, hlt, hlm⟩ := hs
 refine En (Fact.sl s.ga (gps s.gs) :: Fact.sl s.ea (qas s.es) :: Fact.sl a (aW ws) :: (s.es.map qaF)) [(0, saV s), (1, .slice a ws.length c)] Tryz.func80 rfl Tryz.ntmps80 rfl (Ac rfl (Ac rfl (An _))) (Fc (ah hF1) (Fc (ah hF2) (Fc (ah hF3) (cm hM)))) ?_
 refine Cs ?_
 refine Kh rfl (Oy rfl rfl) ?_
 intro b2
 refine Kh rfl (Oy rfl rfl) ?_
 intro b3
 refine Ka rfl (Ka rfl (Nt (Cs (Kq rfl (cE rfl rfl rfl) (Ka rfl (Nt (Cs (Ka rfl (Nt (Cq (Cs (Kq rfl (Fa (q := 2) rfl rfl u58 rfl rfl) (Kq rfl (Ld rfl rfl .tc u56) ?_)))))))))))))
 refine Yo rfl u56 (Km rfl (Nt (Cb ?_)))
 refine Lo (σ := Nat × (Option Nat) × Nat × (List Value)) [(2, _), (6, _), (16, _), (17, _)] (fun gq => [(7, .slice (gq.2.1.map fun b => ⟨b, 0, none⟩) gq.1 gq.2.2.1), (18, .int .i64 (gq.1 : Int))]) (fun gq => (gq.1 ≤ s.es.length ∧ gq.2.2.1 = gq.1 + gq.2.2.2.length) ∧ ∀ q ∈ s.es.take gq.1, (imQ s.gs ws q.1).2 = 0) (fun gq => s.es.length - gq.1) (fun gq => [⟨gq.2.1, ao ((s.es.take gq.1).map fun q => (imQ s.gs ws q.1).1) ++ gq.2.2.2, 22⟩, ⟨some b3, [.slice a ws.length c], 39⟩, ⟨some b2, [.slice s.ga s.gs.length s.gc, .slice s.va s.vs.length s.vc, .slice s.ea s.es.length s.ec], 58⟩]) (fun gq => (Fact.sl s.ga (gps s.gs) :: Fact.sl s.ea (qas s.es) :: Fact.sl a (aW ws) :: s.es.map qaF)) (0, none, 0, []) (S4 rfl rfl rfl rfl) (S2 rfl rfl) (by (try dsimp only); exact ⟨⟨Nat.zero_le _, rfl⟩, by simp⟩) (by exact fun w h => h.nil _) ?_
 rintro ⟨i, o, cp, sp⟩ hinv1; (try dsimp only at hinv1 ⊢)
 obtain ⟨⟨hi, hcp⟩, hok⟩ := hinv1
 refine Cs (Yl rfl (Nt (Cq ?_)))
 refine Cd rfl (fun hc19 => ?_) (fun hc19 => ?_)
 ·(try simp only [sB] at hc19)
  have hil : i < s.es.length := by omega
  have him := ap s.es i hil
  have hlt1 := hlt _ him
  have hfq := hfo.2.2 _ (List.mem_map_of_mem him)
  have hgl : (s.es.getD i default).1.1.toNat < s.gs.length := by have := hfq.1.1.1; have := hfq.1.1.2; simp only [SA.core] at this; omega
  have hg8 := hlm _ (ap _ _ hgl)
  have hq0 := hfq.1.1.1
  refine Ck (Xa (Cq (Cb (Cs ?_))))
  refine Kq rfl (Ia rfl rfl rfl u56 (by kernel_rfl : _ = some 3) (by omega) (by (rw [aj _ _ 3 (fun _ => rfl)]; omega))) ?_
  refine Kq rfl (dC _ rfl rfl u95 rfl (by kernel_rfl : _ = some 3) (fun _ => rfl) (by decide) rfl (by assumption)) ?_
  refine Kh rfl (Oz [.int .i64 0, .string (S []), .slice none 0 0] rfl) ?_
  intro b9
  refine Nu rfl rfl (Sa rfl rfl rfl .tc) ?_
  refine Nt (Cs (Km rfl ?_))
  refine Kq rfl (lda rfl rfl .tc u95 rfl ?_) ?_
  ·kernel_rfl
  refine Kh rfl (aL rfl rfl rfl (by kernel_rfl) rfl (ie fun w hS => rb (q := s.es.getD i default) (ws := ws) (p := b3) (a := a) (c := c) hS.os hS.sl (hS.more (more := s.es.map qaF) _ (List.mem_map_of_mem him)) (by omega) (by exact hlt1) (by exact fun t ht => by have h1 := (hfq.2 t ht).1; refine ⟨h1.1, ?_⟩; rw [hw]; exact h1.2))) ?_
  rintro ⟨gb25, ge25⟩
  refine WL.pu ?_
  intro hg25; (try dsimp only at hg25 ⊢)
  refine WL.fa2 ?_
  refine Km rfl (Ye rfl (Ye rfl (Ye rfl (Ka rfl (Ka rfl (Ka rfl (Nt (Cq (Cs (Km rfl (Yj rfl (Nt ?_))))))))))))
  refine Cd rfl (fun hc30 => ?_) (fun hc30 => ?_)
  ·(try simp only [sB] at hc30)
   have hr : imQ s.gs ws (s.es.getD i default).1 = ([], (exQ ws (s.es.getD i default).1).2) := vN hc30
   refine Cs (Km rfl (Ka rfl (Ka rfl (Nt (Ce (Xb (Xf (Xb (Xb (Xf (Xb ?_)))))))))))
   exact Rn rfl (.tmp rfl (.tmp rfl .nil)) fun w' hS => ⟨⟨none, 0, []⟩, by rw [mB hil hok (by rw [hr]; exact hc30), hr]; rfl, trivial, hS.below, by rw [mB hil hok (by rw [hr]; exact hc30)]; exact Fc bt Fn⟩
  ·(try simp only [sB] at hc30)
   have hr : imQ s.gs ws (s.es.getD i default).1 = dn (s.gs.getD (s.es.getD i default).1.1.toNat default) (bsQ ws (s.es.getD i default).1) (exQ ws (s.es.getD i default).1).1 := x2 hc30
   refine Ck (Xa (Cs (Kq rfl (Fa (q := 0) rfl rfl u58 rfl rfl) (Kq rfl (Ld rfl rfl .tc u54) ?_))))
   refine Kq rfl (Fa (q := 0) rfl rfl u95 rfl rfl) (Kq rfl (Ld rfl rfl .tc u3) ?_)
   refine Kq rfl (Ia rfl rfl rfl u54 (by kernel_rfl : _ = some 2) (by omega) (by (rw [aj _ _ 2 (fun _ => rfl)]; omega))) ?_
   refine Kq rfl (dC _ rfl rfl u26 rfl (by kernel_rfl : _ = some 2) (fun _ => rfl) (by decide) rfl (by assumption)) ?_
   refine Km rfl (Km rfl ?_)
   refine Ku rfl (Oc rfl rfl (Kv fun w hS => gG (g := s.gs.getD (s.es.getD i default).1.1.toNat default) (l := bsQ ws (s.es.getD i default).1) (es := (exQ ws (s.es.getD i default).1).1) (by (exact hS.sl)) (by (exact hS.sl)) (by exact Nat.le_trans wA hlt1) (by exact Nat.le_trans vZ hlt1) (by exact hg8))) ?_
   refine Km rfl (Ye rfl (Ye rfl (Ka rfl (Ka rfl (Nt (Cq (Cs (Km rfl (Yj rfl (Nt ?_))))))))))
   refine Cd rfl (fun hc45 => ?_) (fun hc45 => ?_)
   ·(try simp only [sB] at hc45)
    refine Cs (Km rfl (Ka rfl (Ka rfl (Nt (Ce (Xb (Xf (Xb (Xb (Xf (Xb ?_)))))))))))
    exact Rn rfl (.tmp rfl (.tmp rfl .nil)) fun w' hS => ⟨⟨none, 0, []⟩, by rw [mB hil hok (by rw [hr]; exact hc45), hr]; rfl, trivial, hS.below, by rw [mB hil hok (by rw [hr]; exact hc45)]; exact Fc bt Fn⟩
   ·(try simp only [sB] at hc45)
    have hx0 : (imQ s.gs ws (s.es.getD i default).1).2 = 0 := by rw [hr]; simpa using hc45
    have hls : (ao ((s.es.take i).map fun q => (imQ s.gs ws q.1).1)).length = i := by simp [ao]; omega
    refine Ck (Xa (Cg (Km rfl (Km rfl ?_))))
    refine Kh rfl (aR rfl rfl u31 (by kernel_rfl : _ = some (some (.string (S [])), 1, 16)) rfl (by simp only [List.map]; rfl) rfl rfl ?_ (by decide)) ?_
    ·simp [Value.cells]
    intro b49
    refine Kh rfl (oR rfl u31 (by kernel_rfl : _ = some (some (.string (S [])), 1, 16)) rfl .tc rfl rfl (fun w hS => by (exact hS.os)) (by rfl) (by refine ⟨?_, ?_, ?_, ?_⟩ <;> first | exact hls | (try simp) <;> omega) (by (simp [Value.oneCell']; done))) ?_
    rintro ⟨o50, c50, s50⟩
    refine WL.pu ?_
    intro hg50; (try dsimp only at hg50 ⊢)
    refine Ka rfl (Nn (Xd (Xa (Cg (Kq rfl (Rz rfl rfl rfl (by omega)) (Km rfl (Nn ?_)))))))
    refine Lx ((i + 1, o50, c50, s50)) (by (try dsimp only); omega) (S4 rfl rfl rfl rfl) (by refine (Sc ?_ (Sc ?_ (S0 _))) <;> (rfl)) ?_ (by exact fun w h => by rw [vt _ hil, hr]; exact aq _ h)
    (try dsimp only)
    exact ⟨⟨hil, by omega⟩, ay hil hok hx0⟩
 ·(try simp only [sB] at hc19)
  refine Cx (Xc (Xc (Xe ?_)))
  obtain rfl : i = s.es.length := by omega
  rw [List.take_length] at hok
  rw [List.take_length]
  refine Xa (Cs (Km rfl (Ka rfl (Ka rfl (Nt (Ce ?_))))))
  exact Rn rfl (.tmp rfl (.tmp rfl .nil)) fun w' hS => ⟨⟨o, cp, sp⟩, by rw [ti hok, List.length_map]; rfl, trivial, hS.below, by rw [ti hok]; exact Fc hS.ocf Fn⟩
theorem xt {s : Sm} {ws : List Zs} (h : je s ws = 0) : cr s ∧ (∀ x ∈ ws, okZ x) ∧ mI s = 0 ∧ ws.length = s.2.1.length := by
 unfold je at h
 split at h
 ·simp at h
 ·rename_i h1; split at h
  ·simp at h
  ·rename_i h2; split at h
   ·rename_i h3; exact absurd h h3
   ·rename_i h3; split at h
    ·simp at h
    ·rename_i h4; exact ⟨Decidable.not_not.1 h1, Decidable.not_not.1 h2, Decidable.not_not.1 h3, Decidable.not_not.1 h4⟩
theorem vM {s : Sm} {ws : List Zs} (h : (imS s ws).2 = 0) : (imS s ws).1.length = s.2.2.length := by
 unfold imS at h ⊢; split at h
 ·rename_i h1; exact absurd h h1
 ·rename_i h1; rw [if_neg h1]; simp
theorem vW {α : Type} [Inhabited α] {x y : List α} (hl : x.length = y.length) (h : ∀ i, i < x.length → x.getD i default = y.getD i default) : x = y := by
 refine List.ext_getElem hl fun i h1 h2 => ?_
 have := h i h1
 rw [List.getD_eq_getElem?_getD, List.getD_eq_getElem?_getD, List.getElem?_eq_getElem h1, List.getElem?_eq_getElem h2] at this; exact this
theorem mU (l : List QA) (i : Nat) (h : i < l.length) : ((l.map (·.1)).map (·.2.1)).getD i default = (l.getD i default).1.2.1 := by
 rw [List.getD_eq_getElem?_getD, List.getD_eq_getElem?_getD, List.getElem?_map, List.getElem?_map, List.getElem?_eq_getElem h]; rfl
theorem vP {s : SA} {ws : List Zs} {a : Option Addr} {c : Nat} {w : World} {ok : Nat → Prop} (hF1 : (Fact.sl s.ga (gps s.gs)).holds ok w) (hF2 : (Fact.sl s.va (vrs s.vs)).holds ok w) (hF3 : (Fact.sl s.ea (qas s.es)).holds ok w) (hF4 : (Fact.sl a (aW ws)).holds ok w) (hM : ∀ f ∈ (s.es.map qaF), f.holds ok w) (hs : saL s) (hw : ws.length ≤ 100000) :
  Cw 32 #[saV s, .slice a ws.length c] w (.tuple #[.bool (kj s.core ws).1, .int .i64 (kj s.core ws).2]) := by
 have hs' := hs
 obtain ⟨hlg, hlv, hle, hlt, hlm⟩ := hs
 refine En (Fact.sl s.ga (gps s.gs) :: Fact.sl s.va (vrs s.vs) :: Fact.sl s.ea (qas s.es) :: Fact.sl a (aW ws) :: (s.es.map qaF)) [(0, saV s), (1, .slice a ws.length c)] Tryz.func32 rfl Tryz.ntmps32 rfl (Ac rfl (Ac rfl (An _))) (Fc (ah hF1) (Fc (ah hF2) (Fc (ah hF3) (Fc (ah hF4) (cm hM))))) ?_
 refine Cs ?_
 refine Kh rfl (Oy rfl rfl) ?_
 intro b2
 refine Ka rfl (Ka rfl (Nt (Cq (Cs ?_))))
 refine Kq rfl (lda rfl rfl .tc u58 rfl ?_) ?_
 ·kernel_rfl
 refine Km rfl ?_
 refine Ku rfl (Oc rfl rfl (Kv fun w hS => ve (s := s) (ws := ws) (by (exact hS.sl)) (by (exact hS.sl)) (by (exact hS.sl)) (by (exact hS.sl)) (by (exact hS.more)) (by exact hs') (by exact hw))) ?_
 refine Ka rfl (Nt (Cs (Km rfl (Yj rfl (Nt ?_)))))
 refine Cd rfl (fun hc15 => ?_) (fun hc15 => ?_)
 ·(try simp only [sB] at hc15)
  have hr : kj s.core ws = (false, je s.core ws) := by rw [kj, if_pos hc15]
  refine Cs (Km rfl (Ka rfl (Ka rfl (Nt (Ce (Xb ?_))))))
  exact R2 rfl rfl rfl (by rw [hr]; rfl)
 ·(try simp only [sB] at hc15)
  have h0 : je s.core ws = 0 := by simpa using hc15
  obtain ⟨hfo, hz, hk, hwl⟩ := xt h0
  refine Ck (Xa (Cq (Cs ?_)))
  refine Kq rfl (lda rfl rfl .tc u58 rfl ?_) ?_
  ·kernel_rfl
  refine Km rfl ?_
  refine Ku rfl (Oc rfl rfl (Kv fun w hS => qW (s := s) (ws := ws) (by (exact hS.sl)) (by (exact hS.sl)) (by (exact hS.sl)) (by exact hs') (by exact hwl) (by exact hfo) (by exact hz))) ?_
  refine Yt rfl (Nt ?_)
  refine Cd rfl (fun hc20 => ?_) (fun hc20 => ?_)
  ·(try simp only [sB] at hc20)
   have hr : kj s.core ws = (false, 0) := by rw [kj, if_neg (fun h => h h0), if_pos (by simpa using hc20)]
   refine Cs (Ka rfl (Ka rfl (Nt (Ce (Xb ?_)))))
   exact R2 rfl rfl rfl (by rw [hr]; rfl)
  ·(try simp only [sB] at hc20)
   have hin : inR s.core ws := by simpa using hc20
   refine Ck (Xa (Cs ?_))
   refine Kq rfl (lda rfl rfl .tc u58 rfl ?_) ?_
   ·kernel_rfl
   refine Km rfl ?_
   refine Kh rfl (Oc rfl rfl (ie fun w hS => th (s := s) (ws := ws) (by (exact hS.sl)) (by (exact hS.sl)) (by (exact hS.sl)) (by (exact hS.more)) (by exact hs') (by exact hwl) (by exact hfo))) ?_
   rintro g24
   refine WL.pu ?_
   intro hg24; (try dsimp only [List.cons_append, List.nil_append] at hg24 ⊢)
   refine Km rfl (Ye rfl (Ye rfl (Ka rfl (Ka rfl (Nt (Cq (Cs (Km rfl (Yj rfl (Nt ?_))))))))))
   refine Cd rfl (fun hc28 => ?_) (fun hc28 => ?_)
   ·(try simp only [sB] at hc28)
    have hr : kj s.core ws = (false, (imS s.core ws).2) := by rw [kj, if_neg (fun h => h h0), if_neg (fun h => h hin), if_pos hc28]
    refine Cs (Km rfl (Ka rfl (Ka rfl (Nt (Ce (Xb ?_))))))
    exact R2 rfl rfl rfl (by rw [hr]; rfl)
   ·(try simp only [sB] at hc28)
    have hi0 : (imS s.core ws).2 = 0 := by simpa using hc28
    have hlI : (imS s.core ws).1.length = s.es.length := by rw [vM hi0]; simp
    have hr : kj s.core ws = (decide ((imS s.core ws).1 = s.core.2.2.map (·.2.1)), 0) := by rw [kj, if_neg (fun h => h h0), if_neg (fun h => h hin), if_neg (fun h => h hi0)]
    refine Ck (Xa (Cq (Cs (Kq rfl (Fa (q := 2) rfl rfl u58 rfl rfl) (Kq rfl (Ld rfl rfl .tc u56) ?_)))))
    refine Yo rfl u56 (Km rfl (Nt (Cb ?_)))
    refine Lp (σ := Nat) [(7, _), (31, _), (32, _)] (fun gq => [(33, .int .i64 (gq : Int))]) (fun gq => gq ≤ s.es.length ∧ ∀ j, j < gq → (imS s.core ws).1.getD j default = (s.es.getD j default).1.2.1) (fun gq => s.es.length - gq) (0) (S3 rfl rfl rfl) (S1 rfl) (by (try dsimp only); exact ⟨Nat.zero_le _, fun _ h => absurd h (Nat.not_lt_zero _)⟩) ?_
    rintro i hinv1; (try dsimp only at hinv1 ⊢)
    obtain ⟨hi, hok⟩ := hinv1
    refine Cs (Yl rfl (Nt (Cq ?_)))
    refine Cd rfl (fun hc34 => ?_) (fun hc34 => ?_)
    ·(try simp only [sB] at hc34)
     have hil : i < s.es.length := by omega
     have hil2 : i < (imS s.core ws).1.length := by omega
     refine Ck (Xa (Cq (Cb (Cs (Km rfl ?_)))))
     refine Kq rfl (Ia rfl rfl rfl u56 (by kernel_rfl : _ = some 3) (by omega) (by (rw [aj _ _ 3 (fun _ => rfl)]; omega))) ?_
     refine Kq rfl (dC _ rfl rfl u95 rfl (by kernel_rfl : _ = some 3) (fun _ => rfl) (by decide) rfl (by assumption)) ?_
     refine Kh rfl (Oz [.int .i64 0, .string (S []), .slice none 0 0] rfl) ?_
     intro b10
     refine Ka rfl ?_
     refine Nu rfl rfl (Sa rfl rfl rfl .tc) ?_
     refine Nt (Cq ?_)
     refine Cf [0, 1, 2, 3, 4, 5, 6] [] [0, 0, 0, 0, 0, 0, 0] (by kernel_rfl) (by kernel_rfl) rfl ?_
     refine Kj rfl (Rm rfl rfl) (Kj rfl (Rm rfl rfl) ?_)
     refine Kj rfl (Ib rfl rfl rfl u31 (by omega) (by (rw [List.length_map]; omega))) ?_
     refine Kj rfl (ldm rfl rfl u22 rfl (by assumption)) ?_
     refine Kj rfl (Fa (q := 1) rfl rfl u95 rfl rfl) (Kj rfl (Ld rfl rfl .tc u22) ?_)
     refine Kj rfl (n7 rfl rfl rfl) ?_
     refine WJ.nil ?_
     refine Nt ?_
     refine Cd rfl (fun hc44 => ?_) (fun hc44 => ?_)
     ·(try simp only [sB] at hc44)
      have hne : ¬ (imS s.core ws).1 = s.core.2.2.map (·.2.1) := fun h => by
       have h1 := mU s.es i hil
       exact absurd ((congrArg (fun l : List Bs => l.getD i default) h).trans h1) (by simpa using hc44)
      refine Cs (Ka rfl (Ka rfl (Nt (Ce (Xf (Xb (Xb (Xf (Xb ?_)))))))))
      exact R2 rfl rfl rfl (by rw [hr, decide_eq_false hne]; rfl)
     ·(try simp only [sB] at hc44)
      refine Ck (Xd (Xa (Cg (Kq rfl (Rz rfl rfl rfl (by omega)) (Km rfl (Nn ?_))))))
      refine Ly (i + 1) (by (try dsimp only); omega) (S3 rfl rfl rfl) (by refine (Sc ?_ (S0 _)) <;> (rfl)) ?_ (by (exact aq))
      (try dsimp only)
      exact ⟨hil, fun j hj => by rcases Nat.lt_succ_iff_lt_or_eq.1 hj with h | h; exact hok j h; subst h; simpa using hc44⟩
    ·(try simp only [sB] at hc34)
     refine Cx (Xc (Xc (Xe ?_)))
     obtain rfl : i = s.es.length := by omega
     have heq : (imS s.core ws).1 = s.core.2.2.map (·.2.1) := vW (by rw [hlI]; simp) fun j hj => by
      have h1 := mU s.es j (by omega)
      rw [hok j (by omega)]; exact h1.symm
     refine Xa (Cs (Ka rfl (Ka rfl (Nt (Ce ?_)))))
     exact R2 rfl rfl rfl (by rw [hr, decide_eq_true heq]; rfl)
end Go.Proofs.YtkdlonihbjhhoaaGreatDoor
