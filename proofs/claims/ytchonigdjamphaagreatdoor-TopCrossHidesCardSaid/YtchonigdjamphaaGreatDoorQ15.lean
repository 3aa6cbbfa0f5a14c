/-
  Parts of the walk: Trc Sgb Dec Itoa Coi2 Coi3 Coi4 Coi5 Coi6.
-/
import Derived.Test.YtchonigdjamphaaGreatDoorQ14
import Derived.Lib.ItoaNum
namespace Go.Proofs.YtchonigdjamphaaGreatDoor
open Go.RowKit
set_option linter.unusedSimpArgs false
set_option linter.unusedVariables false
set_option maxHeartbeats 600000
set_option maxRecDepth 20000
abbrev fr1 (s : Bs) : Bs := be8 s.length ++ s
def dP (k : UInt8) (l : List Bs) : Bs := ([k] ++ be8 l.length) ++ l.flatMap fr1
def bo (k : UInt8) (l : List Bs) : Bs := sha (dP k l)
theorem lv (k : UInt8) (n : Nat) (l : List Bs) {j : Nat} : (([k] ++ be8 n) ++ (l.take j).flatMap fr1).length ≤ (([k] ++ be8 n) ++ l.flatMap fr1).length := by
 conv => rhs; rw [← Dt j l, List.flatMap_append]
 simp only [Al]; omega
theorem lw {m : Bs} {l : List Bs} {j : Nat} (h : j < l.length) : m ++ (l.take (j + 1)).flatMap fr1 = ((m ++ (l.take j).flatMap fr1) ++ be8 (l.getD j default).length) ++ l.getD j default := by
 rw [aA h, List.flatMap_append]; simp [fr1]
theorem vU {bb : Nat} : BOk bb none none [] [] 0 := ⟨.inl rfl, rfl, .inl rfl⟩
def zTx (z : Zs) : Bs := (if z.1 = true then 45 else 43) :: z.2
theorem CW {x : Bs} {w : World} :
  Cw 168 #[.string (S x)] w (.string (S x)) := by
 refine En [] [(0, .string (S x))] Tryz.func168 I Tryz.ntmps168 I (Ac I (An _)) Fn (Cs (FN ?_)); refine le ?_
 exact Iq
theorem CV {x : Bs} {w : World} :
  Cw 228 #[.string (S x)] w (.string (S x)) := by
 refine En [] [(0, .string (S x))] Tryz.func228 I Tryz.ntmps228 I (Ac I (An _)) Fn (Cs (FN ?_)); refine le ?_
 exact Iq
theorem CU {z : Zs} {w : World} (hz : z.2.length ≤ 1000) :
  Cw 231 #[zV z] w (.string (S (zTx z))) := by
 refine En [] [(0, zV z)] Tryz.func231 I Tryz.ntmps231 I (Ac I (An _)) Fn (Eq ?_)
 intro b1
 refine GI ?_; refine G1 ?_
 refine Nt (Ci I (fun hc4 => ?_) (fun hc4 => ?_))
 ·have hr : zTx z = 45 :: z.2 := by rw [zTx, Ae hc4]
  refine Cs (Gn ?_)
  refine Kq I (eQ I I I ?_) ?_
  ·((try simp only [Al, Ay, B4]); omega)
  refine le ?_; refine Xb ?_
  exact Io
 ·have hr : zTx z = 43 :: z.2 := by rw [zTx, Aa (by (simpa using hc4))]
  refine Ck (Xa (Cs (Gn ?_)))
  refine Kq I (eQ I I I ?_) ?_
  ·((try simp only [Al, Ay, B4]); omega)
  refine le ?_
  exact Io
theorem Em {k : UInt8} {l : List Bs} {nl : List Bs} {a b : Option Addr} {c d : Nat} {w : World} {ok : Nat → Prop} (hF1 : (Fact.sl a (am l)).holds ok w) (hF2 : (Fact.sl b (am nl)).holds ok w) (hl : l.length + 0 = 0 → a = none) (hc : l.length + 0 ≤ c) (hll : l.length + nl.length ≤ 100000) (hlen : (dP k (l ++ nl)).length ≤ 1000000) :
  Cw 167 #[B k, .slice a l.length c, .slice b nl.length d, .func (.func 168) #[] #[]] w (.string (S (bo k (l ++ nl)))) := by
 have hall : (l ++ nl).length = l.length + nl.length := by simp
 refine En [Fact.sl a (am l), Fact.sl b (am nl)] [(0, B k), (1, .slice a l.length c), (2, .slice b nl.length d), (3, .func (.func 168) #[] #[])] Tryz.func167 I Tryz.ntmps167 I (Ac I (Ac I (Ac I (Ac I (An _))))) (Fc (af hF1) (Fc (af hF2) Fn)) (Cs (Ka I (Nt (Cs (Hy ?_)))))
 intro b9
 refine Gl ?_
 rintro ⟨o1, c1, s1⟩; refine WL.pu ?_; intro hb1
 refine Nt (Cs (Km I (Yo I cS (Km I (Yo I u33 (GU ?_))))))
 refine GB ?_
 rintro ⟨o2, c2, s2⟩; refine WL.pu ?_; intro hb2; dsimp only at hb2 ⊢
 refine Nt (Cq (Cs (Km I (HT ?_)))); refine Lo (σ := Nat × (Option Addr) × Nat) [(3, _), (9, _), (23, _), (24, _)] (fun gq => [(1, .slice gq.2.1 (l.length + gq.1) gq.2.2), (25, .int .i64 (gq.1 : Int))]) (fun gq => (gq.1 ≤ nl.length ∧ l.length + gq.1 ≤ gq.2.2) ∧ (l.length + gq.1 = 0 → gq.2.1 = none)) (fun gq => nl.length - gq.1) (fun gq => BDT FR b9 (some ⟨b9, 0, none⟩) o2 ([k] ++ be8 (l.length + nl.length)) s2 c2 []) (fun gq => [Fact.sl gq.2.1 (am (l ++ (nl.take gq.1))), Fact.sl b (am nl)]) (0, a, c) (S4 I I I I) (S2 I I) (by (try dsimp only); exact ⟨⟨Af _, hc⟩, hl⟩) (by exact fun w h => by simp only [Bz, List.map_nil, A5]; exact aq _ h) ?_
 rintro ⟨i, u, cu⟩ hinv1; (try dsimp only at hinv1 ⊢)
 obtain ⟨⟨hi, hcu⟩, hun⟩ := hinv1
 refine ne (fun hc26 => ?_) (fun hc26 => ?_)
 ·have hil : i < nl.length := by omega
  have hnx : am (l ++ nl.take (i + 1)) = am (l ++ nl.take i) ++ [.string (S (nl.getD i default))] := by rw [aA hil]; simp [am]
  have hsl : (am (l ++ nl.take i)).length = l.length + i := by simp [am]; omega
  refine FO ?_; refine FW ?_
  refine GA ?_
  refine Ka I (Nt (Cf [6, 7, 8, 0, 1, 2, 3, 4, 5, 9] [10, 11] [0, 0, 0, 0, 0, 0, 0, 0, 1, 3, 2, 2] (by kernel_rfl) (by kernel_rfl) I ?_))
  refine Ft ?_
  refine Jv I I I I I (fun ext => a6 I I I (by kernel_rfl) (fI _ _) (Kv fun w hS => by rw [sG]; exact CW (x := nl.getD i default))) ?_
  refine Ft ?_; refine Kj I (dN I I cS) (GP ?_); refine Kj I (dN I I cS) ?_
  refine G5 ?_
  refine Jf I I I I I (im I I cS (by kernel_rfl : _ = some (some (.string (S [])), 1, 16)) I (by simp only [List.map]; rfl) I I ?_ (by decide)) ?_
  ·simp [Value.cells]
  intro b38
  refine WJ.nil ?_
  refine Kh I (qh I cS (by kernel_rfl : _ = some (some (.string (S [])), 1, 16)) I I I (fun w hS => hS.os) I ?_ ?_) ?_
  ·exact ⟨hsl, hun, by decide, by omega, by omega⟩
  ·simp [Value.oneCell']
  rintro ⟨o39, c39, s39⟩
  refine WL.pu ?_
  intro hg39; (try dsimp only at hg39 ⊢)
  refine Ka I (Nn (Xd (Xa (Cg (Kq I (Rz I I I (by omega)) (Km I (Nn (Lx ((i + 1, o39.map fun b => ⟨b, 0, none⟩, c39)) (by (try dsimp only); omega) (S4 I I I I) (by refine (Sc ?_ (Sc ?_ (S0 _))) <;> (rfl)) ?_ (by exact fun w h => by rw [hnx]; exact aq _ h.frc)))))))))
  (try dsimp only)
  exact ⟨⟨hil, by omega⟩, fun h => by omega⟩
 ·refine Fq ?_
  obtain rfl : i = nl.length := by omega
  rw [Ai]
  obtain ⟨al, hal⟩ : ∃ al, Keep (al = l ++ nl) := ⟨_, rfl⟩
  rw [← show al = _ from hal] at hall hlen ⊢
  have hcl : (([k] ++ be8 (l.length + nl.length)) ++ al.flatMap fr1).length ≤ 1000000 := by rw [← hall]; exact hlen
  refine Fy ?_
  rintro ⟨j, g⟩ hinv2; (try dsimp only at hinv2 ⊢)
  obtain ⟨hj, hb⟩ := hinv2
  refine ne (fun hc44 => ?_) (fun hc44 => ?_)
  ·have hjl : j < al.length := by omega
   have hn1 := lw (m := [k] ++ be8 (l.length + nl.length)) hjl; have hl1 := lv k (l.length + nl.length) al (j := j + 1); rw [hn1] at hl1; simp only [Al, cj] at hl1 hcl; refine Ck (Xa (Cq (Cb (Cs (Kq I (Ib I I I cS (by omega) (by (rw [Ag]; omega))) ?_))))); refine Kq I (ldm I I u9 I (by assumption)) ?_; refine Ka I (Nt (Cs (Km I (Yn I u9 (Kh I (Oc I I (fun w hS => fL (bb := b9) (p := some ⟨b9, 0, none⟩) (ob := g.ob) (m := ([k] ++ be8 (l.length + nl.length)) ++ (al.take j).flatMap fr1) (n := (al.getD j default).length) (sp := g.sp) (cap := g.cap) (rr := []) hS hb (by simp only [Al, cj]; omega) (by omega))) ?_))))); rintro ⟨o3, c3, s3⟩; refine WL.pu ?_; intro hb3; dsimp only at hb3 ⊢; refine Nt (Cg (Kq I (Fa (q := 0) I I kC I I) (Km I (Kh I (Oc I I (fun w hS => wsT (T := FR) (bb := b9) (p := some ⟨b9, 0, none⟩) (ob := o3) (m := (([k] ++ be8 (l.length + nl.length)) ++ (al.take j).flatMap fr1) ++ be8 (al.getD j default).length) (s := al.getD j default) (sp := s3) (cap := c3) (rr := []) hS ij hb3 (by simp only [Al, cj]; omega))) ?_)))); rintro ⟨o4, c4, s4⟩; refine WL.pu ?_; intro hb4; dsimp only at hb4 ⊢; refine Nn (Xd (Xa (Cg (Kq I (Rz I I I (by omega)) (Km I (Nn (Lx ((j + 1, ⟨o4, c4, s4⟩)) (by (try dsimp only); omega) (S3 I I I) (by refine (Sc ?_ (S0 _)) <;> (rfl)) ?_ (by exact fun w h => by rw [hn1]; exact h))))))))
   (try dsimp only); exact ⟨hjl, by rw [hn1]; exact hb4⟩
  ·refine Fq ?_; obtain rfl : j = al.length := by omega
   rw [Ai] at hb; rw [Ai]; have hfr : ([k] ++ be8 (l.length + nl.length)) ++ al.flatMap fr1 = dP k al := by rw [dP, hall]
   rw [hfr] at hb; rw [hfr]; refine Hm ?_; intro _; refine Kc I (fun w hS => tE (s := dP k al) (by assumption)) (le ?_); exact Iq
theorem El {k : UInt8} {l : List Bs} {nl : List Bs} {a b : Option Addr} {c d : Nat} {w : World} {ok : Nat → Prop} (hF1 : (Fact.sl a (am l)).holds ok w) (hF2 : (Fact.sl b (am nl)).holds ok w) (hl : l.length + 0 = 0 → a = none) (hc : l.length + 0 ≤ c) (hll : l.length + nl.length ≤ 100000) (hlen : (dP k (l ++ nl)).length ≤ 1000000) :
  Cw 227 #[B k, .slice a l.length c, .slice b nl.length d, .func (.func 228) #[] #[]] w (.string (S (bo k (l ++ nl)))) := by
 have hall : (l ++ nl).length = l.length + nl.length := by simp
 refine En [Fact.sl a (am l), Fact.sl b (am nl)] [(0, B k), (1, .slice a l.length c), (2, .slice b nl.length d), (3, .func (.func 228) #[] #[])] Tryz.func227 I Tryz.ntmps227 I (Ac I (Ac I (Ac I (Ac I (An _))))) (Fc (af hF1) (Fc (af hF2) Fn)) (Cs (Ka I (Nt (Cs (Hy ?_)))))
 intro b9
 refine Gl ?_
 rintro ⟨o1, c1, s1⟩; refine WL.pu ?_; intro hb1
 refine Nt (Cs (Km I (Yo I cS (Km I (Yo I cS (GU ?_))))))
 refine GB ?_
 rintro ⟨o2, c2, s2⟩; refine WL.pu ?_; intro hb2; dsimp only at hb2 ⊢
 refine Nt (Cq (Cs (Km I (Yo I cS (Km I (Nt (Cb (Lo (σ := Nat × (Option Addr) × Nat) [(3, _), (9, _), (23, _), (24, _)] (fun gq => [(1, .slice gq.2.1 (l.length + gq.1) gq.2.2), (25, .int .i64 (gq.1 : Int))]) (fun gq => (gq.1 ≤ nl.length ∧ l.length + gq.1 ≤ gq.2.2) ∧ (l.length + gq.1 = 0 → gq.2.1 = none)) (fun gq => nl.length - gq.1) (fun gq => BDT FR b9 (some ⟨b9, 0, none⟩) o2 ([k] ++ be8 (l.length + nl.length)) s2 c2 []) (fun gq => [Fact.sl gq.2.1 (am (l ++ (nl.take gq.1))), Fact.sl b (am nl)]) (0, a, c) (S4 I I I I) (S2 I I) (by (try dsimp only); exact ⟨⟨Af _, hc⟩, hl⟩) (by exact fun w h => by simp only [Bz, List.map_nil, A5]; exact aq _ h) ?_))))))))
 rintro ⟨i, u, cu⟩ hinv1; (try dsimp only at hinv1 ⊢)
 obtain ⟨⟨hi, hcu⟩, hun⟩ := hinv1
 refine ne (fun hc26 => ?_) (fun hc26 => ?_)
 ·have hil : i < nl.length := by omega
  have hnx : am (l ++ nl.take (i + 1)) = am (l ++ nl.take i) ++ [.string (S (nl.getD i default))] := by rw [aA hil]; simp [am]
  have hsl : (am (l ++ nl.take i)).length = l.length + i := by simp [am]; omega
  refine FO ?_; refine Kq I (Ib I I I cS (by omega) (by (rw [Ag]; omega))) ?_
  refine Kq I (ldm I I u9 I (by assumption)) ?_
  refine Ka I (Nt (Cf [6, 7, 8, 0, 1, 2, 3, 4, 5, 9] [10, 11] [0, 0, 0, 0, 0, 0, 0, 0, 1, 3, 2, 2] (by kernel_rfl) (by kernel_rfl) I ?_))
  refine Ft ?_
  refine Jv I I I I I (fun ext => a6 I I I (by kernel_rfl) (fI _ _) (Kv fun w hS => by rw [sG]; exact CV (x := nl.getD i default))) ?_
  refine Ft ?_; refine Kj I (dN I I cS) (GP ?_); refine Kj I (dN I I cS) ?_
  refine G5 ?_
  refine Jf I I I I I (im I I cS (by kernel_rfl : _ = some (some (.string (S [])), 1, 16)) I (by simp only [List.map]; rfl) I I ?_ (by decide)) ?_
  ·simp [Value.cells]
  intro b38
  refine WJ.nil ?_
  refine Kh I (qh I cS (by kernel_rfl : _ = some (some (.string (S [])), 1, 16)) I I I (fun w hS => hS.os) I ?_ ?_) ?_
  ·exact ⟨hsl, hun, by decide, by omega, by omega⟩
  ·simp [Value.oneCell']
  rintro ⟨o39, c39, s39⟩
  refine WL.pu ?_
  intro hg39; (try dsimp only at hg39 ⊢)
  refine Ka I (Nn (Xd (Xa (Cg (Kq I (Rz I I I (by omega)) (Km I (Nn (Lx ((i + 1, o39.map fun b => ⟨b, 0, none⟩, c39)) (by (try dsimp only); omega) (S4 I I I I) (by refine (Sc ?_ (Sc ?_ (S0 _))) <;> (rfl)) ?_ (by exact fun w h => by rw [hnx]; exact aq _ h.frc)))))))))
  (try dsimp only)
  exact ⟨⟨hil, by omega⟩, fun h => by omega⟩
 ·refine Fq ?_
  obtain rfl : i = nl.length := by omega
  rw [Ai]
  obtain ⟨al, hal⟩ : ∃ al, Keep (al = l ++ nl) := ⟨_, rfl⟩
  rw [← show al = _ from hal] at hall hlen ⊢
  have hcl : (([k] ++ be8 (l.length + nl.length)) ++ al.flatMap fr1).length ≤ 1000000 := by rw [← hall]; exact hlen
  refine Fy ?_
  rintro ⟨j, g⟩ hinv2; (try dsimp only at hinv2 ⊢)
  obtain ⟨hj, hb⟩ := hinv2
  refine ne (fun hc44 => ?_) (fun hc44 => ?_)
  ·have hjl : j < al.length := by omega
   have hn1 := lw (m := [k] ++ be8 (l.length + nl.length)) hjl; have hl1 := lv k (l.length + nl.length) al (j := j + 1); rw [hn1] at hl1; simp only [Al, cj] at hl1 hcl; refine Ck (Xa (Cq (Cb (Cs (Kq I (Ib I I I cS (by omega) (by (rw [Ag]; omega))) ?_))))); refine Kq I (ldm I I u9 I (by assumption)) ?_; refine Ka I (Nt (Cs (Km I (Yn I u9 (Kh I (Oc I I (fun w hS => fL (bb := b9) (p := some ⟨b9, 0, none⟩) (ob := g.ob) (m := ([k] ++ be8 (l.length + nl.length)) ++ (al.take j).flatMap fr1) (n := (al.getD j default).length) (sp := g.sp) (cap := g.cap) (rr := []) hS hb (by simp only [Al, cj]; omega) (by omega))) ?_))))); rintro ⟨o3, c3, s3⟩; refine WL.pu ?_; intro hb3; dsimp only at hb3 ⊢; refine Nt (Cg (Kq I (Fa (q := 0) I I kC I I) (Km I (Kh I (Oc I I (fun w hS => wsT (T := FR) (bb := b9) (p := some ⟨b9, 0, none⟩) (ob := o3) (m := (([k] ++ be8 (l.length + nl.length)) ++ (al.take j).flatMap fr1) ++ be8 (al.getD j default).length) (s := al.getD j default) (sp := s3) (cap := c3) (rr := []) hS ij hb3 (by simp only [Al, cj]; omega))) ?_)))); rintro ⟨o4, c4, s4⟩; refine WL.pu ?_; intro hb4; dsimp only at hb4 ⊢; refine Nn (Xd (Xa (Cg (Kq I (Rz I I I (by omega)) (Km I (Nn (Lx ((j + 1, ⟨o4, c4, s4⟩)) (by (try dsimp only); omega) (S3 I I I) (by refine (Sc ?_ (S0 _)) <;> (rfl)) ?_ (by exact fun w h => by rw [hn1]; exact h))))))))
   (try dsimp only); exact ⟨hjl, by rw [hn1]; exact hb4⟩
  ·refine Fq ?_; obtain rfl : j = al.length := by omega
   rw [Ai] at hb; rw [Ai]; have hfr : ([k] ++ be8 (l.length + nl.length)) ++ al.flatMap fr1 = dP k al := by rw [dP, hall]
   rw [hfr] at hb; rw [hfr]; refine Hm ?_; intro _; refine Kc I (fun w hS => tE (s := dP k al) (by assumption)) (le ?_); exact Iq
theorem Ek {k : UInt8} {l : List Bs} {nl : List Zs} {a b : Option Addr} {c d : Nat} {w : World} {ok : Nat → Prop} (hF1 : (Fact.sl a (am l)).holds ok w) (hF2 : (Fact.sl b (ar nl)).holds ok w) (hl : l.length + 0 = 0 → a = none) (hc : l.length + 0 ≤ c) (hll : l.length + nl.length ≤ 100000) (hz : ∀ x ∈ nl, x.2.length ≤ 1000) (hlen : (dP k (l ++ nl.map zTx)).length ≤ 1000000) :
  Cw 230 #[B k, .slice a l.length c, .slice b nl.length d, .func (.func 231) #[] #[]] w (.string (S (bo k (l ++ nl.map zTx)))) := by
 have hall : (l ++ nl.map zTx).length = l.length + nl.length := by simp
 refine En [Fact.sl a (am l), Fact.sl b (ar nl)] [(0, B k), (1, .slice a l.length c), (2, .slice b nl.length d), (3, .func (.func 231) #[] #[])] Tryz.func230 I Tryz.ntmps230 I (Ac I (Ac I (Ac I (Ac I (An _))))) (Fc (af hF1) (Fc (af hF2) Fn)) (Cs (Ka I (Nt (Cs (Hy ?_)))))
 intro b9
 refine Gl ?_
 rintro ⟨o1, c1, s1⟩; refine WL.pu ?_; intro hb1
 refine Nt (Cs (Km I (Yo I cS (Km I (Yo I u31 (GU ?_))))))
 refine GB ?_
 rintro ⟨o2, c2, s2⟩; refine WL.pu ?_; intro hb2; dsimp only at hb2 ⊢
 refine Nt (Cq (Cs (Km I (Yo I u31 (Km I (Nt (Cb (Lo (σ := Nat × (Option Addr) × Nat) [(3, _), (9, _), (23, _), (24, _)] (fun gq => [(1, .slice gq.2.1 (l.length + gq.1) gq.2.2), (25, .int .i64 (gq.1 : Int))]) (fun gq => (gq.1 ≤ nl.length ∧ l.length + gq.1 ≤ gq.2.2) ∧ (l.length + gq.1 = 0 → gq.2.1 = none)) (fun gq => nl.length - gq.1) (fun gq => BDT FR b9 (some ⟨b9, 0, none⟩) o2 ([k] ++ be8 (l.length + nl.length)) s2 c2 []) (fun gq => [Fact.sl gq.2.1 (am (l ++ (nl.take gq.1).map zTx)), Fact.sl b (ar nl)]) (0, a, c) (S4 I I I I) (S2 I I) (by (try dsimp only); exact ⟨⟨Af _, hc⟩, hl⟩) (by exact fun w h => by simp only [Bz, List.map_nil, A5]; exact aq _ h) ?_))))))))
 rintro ⟨i, u, cu⟩ hinv1; (try dsimp only at hinv1 ⊢)
 obtain ⟨⟨hi, hcu⟩, hun⟩ := hinv1
 refine ne (fun hc26 => ?_) (fun hc26 => ?_)
 ·have hil : i < nl.length := by omega
  have hnx : am (l ++ (nl.take (i + 1)).map zTx) = am (l ++ (nl.take i).map zTx) ++ [.string (S (zTx (nl.getD i default)))] := by rw [aA hil]; simp [am]
  have hsl : (am (l ++ (nl.take i).map zTx)).length = l.length + i := by simp [am]; omega
  have hz1 : (nl.getD i default).2.length ≤ 1000 := hz _ (aj _ _ hil)
  refine FO ?_; refine FI ?_
  refine Gx ?_
  refine FS ?_
  intro b11
  refine FF ?_; refine Nt (WC.free (K := [⟨some b11, [.bool (nl.getD i default).1, .string (S (nl.getD i default).2)], 68⟩]) (fs0 := []) [6, 7, 8, 0, 1, 2, 3, 4, 5, 9] [10, 11] [0, 0, 0, 0, 0, 0, 0, 0, 1, 3, 2, 2] (by kernel_rfl) (by kernel_rfl) I ?_)
  refine GP ?_
  refine Kj I (lda I I .tc u68 I ?_) ?_
  ·kernel_rfl
  refine Jv I I I I I (fun ext => a6 I I I (by kernel_rfl) (fI _ _) (Kv fun w hS => by rw [sG]; exact CU (z := nl.getD i default) hz1)) ?_
  refine Ft ?_; refine Kj I (dN I I cS) (GP ?_); refine Kj I (dN I I cS) ?_
  refine G5 ?_
  refine Jf I I I I I (im I I cS (by kernel_rfl : _ = some (some (.string (S [])), 1, 16)) I (by simp only [List.map]; rfl) I I ?_ (by decide)) ?_
  ·simp [Value.cells]
  intro b38
  refine WJ.nil ?_
  refine Kh I (qh I cS (by kernel_rfl : _ = some (some (.string (S [])), 1, 16)) I I I (fun w hS => hS.os) I ?_ ?_) ?_
  ·exact ⟨hsl, hun, by decide, by omega, by omega⟩
  ·simp [Value.oneCell']
  rintro ⟨o39, c39, s39⟩
  refine WL.pu ?_
  intro hg39; (try dsimp only at hg39 ⊢)
  refine Ka I (Nn (Xd (Xa (Cg (Kq I (Rz I I I (by omega)) (Km I (Nn (Lx ((i + 1, o39.map fun b => ⟨b, 0, none⟩, c39)) (by (try dsimp only); omega) (S4 I I I I) (by refine (Sc ?_ (Sc ?_ (S0 _))) <;> (rfl)) ?_ (by exact fun w h => by rw [hnx]; exact aq _ h.frc)))))))))
  (try dsimp only)
  exact ⟨⟨hil, by omega⟩, fun h => by omega⟩
 ·refine Fq ?_
  obtain rfl : i = nl.length := by omega
  rw [Ai]
  obtain ⟨al, hal⟩ : ∃ al, Keep (al = l ++ nl.map zTx) := ⟨_, rfl⟩
  rw [← show al = _ from hal] at hall hlen ⊢
  have hcl : (([k] ++ be8 (l.length + nl.length)) ++ al.flatMap fr1).length ≤ 1000000 := by rw [← hall]; exact hlen
  refine Fy ?_
  rintro ⟨j, g⟩ hinv2; (try dsimp only at hinv2 ⊢)
  obtain ⟨hj, hb⟩ := hinv2
  refine ne (fun hc44 => ?_) (fun hc44 => ?_)
  ·have hjl : j < al.length := by omega
   have hn1 := lw (m := [k] ++ be8 (l.length + nl.length)) hjl; have hl1 := lv k (l.length + nl.length) al (j := j + 1); rw [hn1] at hl1; simp only [Al, cj] at hl1 hcl; refine Ck (Xa (Cq (Cb (Cs (Kq I (Ib I I I cS (by omega) (by (rw [Ag]; omega))) ?_))))); refine Kq I (ldm I I u9 I (by assumption)) ?_; refine Ka I (Nt (Cs (Km I (Yn I u9 (Kh I (Oc I I (fun w hS => fL (bb := b9) (p := some ⟨b9, 0, none⟩) (ob := g.ob) (m := ([k] ++ be8 (l.length + nl.length)) ++ (al.take j).flatMap fr1) (n := (al.getD j default).length) (sp := g.sp) (cap := g.cap) (rr := []) hS hb (by simp only [Al, cj]; omega) (by omega))) ?_))))); rintro ⟨o3, c3, s3⟩; refine WL.pu ?_; intro hb3; dsimp only at hb3 ⊢; refine Nt (Cg (Kq I (Fa (q := 0) I I kC I I) (Km I (Kh I (Oc I I (fun w hS => wsT (T := FR) (bb := b9) (p := some ⟨b9, 0, none⟩) (ob := o3) (m := (([k] ++ be8 (l.length + nl.length)) ++ (al.take j).flatMap fr1) ++ be8 (al.getD j default).length) (s := al.getD j default) (sp := s3) (cap := c3) (rr := []) hS ij hb3 (by simp only [Al, cj]; omega))) ?_)))); rintro ⟨o4, c4, s4⟩; refine WL.pu ?_; intro hb4; dsimp only at hb4 ⊢; refine Nn (Xd (Xa (Cg (Kq I (Rz I I I (by omega)) (Km I (Nn (Lx ((j + 1, ⟨o4, c4, s4⟩)) (by (try dsimp only); omega) (S3 I I I) (by refine (Sc ?_ (S0 _)) <;> (rfl)) ?_ (by exact fun w h => by rw [hn1]; exact h))))))))
   (try dsimp only); exact ⟨hjl, by rw [hn1]; exact hb4⟩
  ·refine Fq ?_; obtain rfl : j = al.length := by omega
   rw [Ai] at hb; rw [Ai]; have hfr : ([k] ++ be8 (l.length + nl.length)) ++ al.flatMap fr1 = dP k al := by rw [dP, hall]
   rw [hfr] at hb; rw [hfr]; refine Hm ?_; intro _; refine Kc I (fun w hS => tE (s := dP k al) (by assumption)) (le ?_); exact Iq
theorem nA {k : UInt8} {l : List Bs} {a : Option Addr} {c : Nat} {w : World} {ok : Nat → Prop} (hF1 : (Fact.sl a (am l)).holds ok w) (hll : l.length ≤ 100000) (hlen : (dP k l).length ≤ 1000000) :
  Cw 159 #[B k, .slice a l.length c] w (.string (S (bo k l))) := by
 refine En [Fact.sl a (am l)] [(0, B k), (1, .slice a l.length c)] Tryz.func159 I Tryz.ntmps159 I (Ac I (Ac I (An _))) (Fc (af hF1) Fn) (Cs (FN ?_)); refine Km I (Kc I (fun w hS => (El (k := k) (l := []) (nl := l) (a := none) (c := 0) (b := a) (d := c) (w := w) hJ hS.sl (fun _ => rfl) (Ba _) (by simpa using hll) hlen)) (le ?_))
 exact Iq
theorem zn {x : Bs} {w : World} (hx : x.length ≤ 100000) :
  Cw 80 #[.string (S x)] w (.string (S (bo 78 [x]))) := by
 refine En [] [(0, .string (S x))] Tryz.func80 I Tryz.ntmps80 I (Ac I (An _)) Fn (Cs (Ka I (Nt (Cs (Km I (Kh I (aN I I cS (by kernel_rfl : _ = some (some (.string (S [])), 1, 16)) I (by simp only [List.map]; rfl) I I ?_ (by decide)) ?_))))))
 ·simp [Value.cells]
 intro b4
 refine Kc I (fun w hS => nA (k := 78) (l := [x]) (by (exact hS.os)) (by simp) (by (simp [dP, cj]; omega))) (le ?_)
 exact Iq
theorem nj {s x y : Bs} {w : World} (hs : s.length ≤ 100000) (hx : x.length ≤ 100000) (hy : y.length ≤ 100000) :
  Cw 79 #[.string (S s), .string (S x), .string (S y)] w (.string (S (bo 65 [s, x, y]))) := by
 refine En [] [(0, .string (S s)), (1, .string (S x)), (2, .string (S y))] Tryz.func79 I Tryz.ntmps79 I (Ac I (Ac I (Ac I (An _)))) Fn (Cs (Ka I (Nt (Cs (Km I (Km I (Km I (Kh I (aN I I cS (by kernel_rfl : _ = some (some (.string (S [])), 1, 16)) I (by simp only [List.map]; rfl) I I ?_ (by decide)) ?_))))))))
 ·simp [Value.cells]
 intro b10
 refine Kc I (fun w hS => nA (k := 65) (l := [s, x, y]) (by (exact hS.os)) (by simp) (by (simp [dP, cj]; omega))) (le ?_)
 exact Iq
theorem iB {s x : Bs} {nl : List Bs} {b : Option Addr} {d : Nat} {w : World} {ok : Nat → Prop} (hF1 : (Fact.sl b (am nl)).holds ok w) (hll : 2 + nl.length ≤ 100000) (hlen : (dP 76 ([s, x] ++ nl)).length ≤ 1000000) :
  Cw 83 #[.string (S s), .string (S x), .slice b nl.length d] w (.string (S (bo 76 ([s, x] ++ nl)))) := by
 refine En [Fact.sl b (am nl)] [(0, .string (S s)), (1, .string (S x)), (2, .slice b nl.length d)] Tryz.func83 I Tryz.ntmps83 I (Ac I (Ac I (Ac I (An _)))) (Fc (af hF1) Fn) (Cs (Ka I (Nt (Cs (Km I (Km I (Kh I (aN I I cS (by kernel_rfl : _ = some (some (.string (S [])), 1, 16)) I (by simp only [List.map]; rfl) I I ?_ (by decide)) ?_)))))))
 ·simp [Value.cells]
 intro b9
 refine Km I (Kc I (fun w hS => Em (k := 76) (l := [s, x]) (nl := nl) (a := some ⟨b9, 0, none⟩) (c := 2) (b := b) (d := d) (w := w) hS.os hS.sl (fun h => by cases h) (Ba _) hll hlen) (le ?_))
 exact Iq
theorem wF {s x : Bs} {nl : List Zs} {b : Option Addr} {d : Nat} {w : World} {ok : Nat → Prop} (hF1 : (Fact.sl b (ar nl)).holds ok w) (hll : 2 + nl.length ≤ 100000) (hz : ∀ x ∈ nl, x.2.length ≤ 1000) (hlen : (dP 73 ([s, x] ++ nl.map zTx)).length ≤ 1000000) :
  Cw 161 #[.string (S s), .string (S x), .slice b nl.length d] w (.string (S (bo 73 ([s, x] ++ nl.map zTx)))) := by
 refine En [Fact.sl b (ar nl)] [(0, .string (S s)), (1, .string (S x)), (2, .slice b nl.length d)] Tryz.func161 I Tryz.ntmps161 I (Ac I (Ac I (Ac I (An _)))) (Fc (af hF1) Fn) (Cs (Ka I (Nt (Cs (Km I (Km I (Kh I (aN I I cS (by kernel_rfl : _ = some (some (.string (S [])), 1, 16)) I (by simp only [List.map]; rfl) I I ?_ (by decide)) ?_)))))))
 ·simp [Value.cells]
 intro b9
 refine Km I (Kc I (fun w hS => Ek (k := 73) (l := [s, x]) (nl := nl) (a := some ⟨b9, 0, none⟩) (c := 2) (b := b) (d := d) (w := w) hS.os hS.sl (fun h => by cases h) (Ba _) hll hz hlen) (le ?_))
 exact Iq
theorem vK (a b : Nat) : 0 < dn a b ↔ b < a := by
 unfold dn; split
 ·constructor <;> intro h <;> omega
 ·split
  ·constructor <;> intro h <;> omega
  ·constructor <;> intro h <;> omega
theorem kl {q v : Bs} {x : Zs} : inV q v x ↔ blw v x (val (if v = [] then q else v)) := by
 rw [inV, blw]; by_cases hv : v = []
 ·simp only [hv, if_true]; exact ⟨fun h => ⟨h.2, fun _ => h.1⟩, fun h => ⟨h.2 trivial, h.1⟩⟩
 ·simp only [hv, if_false]; exact ⟨fun h => ⟨h, fun h => h.elim⟩, fun h => h.1⟩
theorem zu {s : SA} {ws : List Zs} {a : Option Addr} {c : Nat} {w : World} {ok : Nat → Prop} (hF1 : (Fact.sl s.ga (gps s.gs)).holds ok w) (hF2 : (Fact.sl s.va (vrs s.vs)).holds ok w) (hF3 : (Fact.sl a (ar ws)).holds ok w) (hs : saL s) (hw : ws.length = s.vs.length) (hfo : bc s.core) (hz : ∀ x ∈ ws, okZ x) :
  Cw 86 #[saV s, .slice a ws.length c] w (.bool (decide (inR s.core ws))) := by
 have hs' := hs
 obtain ⟨hlg, hlv, hle, hlt, hlm⟩ := hs
 have hoo : okN (ak s.gs) := cm hfo.1
 refine En [Fact.sl s.ga (gps s.gs), Fact.sl s.va (vrs s.vs), Fact.sl a (ar ws)] [(0, saV s), (1, .slice a ws.length c)] Tryz.func86 I Tryz.ntmps86 I (Ac I (Ac I (An _))) (Fc (af hF1) (Fc (af hF2) (Fc (af hF3) Fn))) (Eq ?_)
 intro b2
 refine Ka I (Nt (Cs (Kq I (lda I I .tc u43 I ?_) ?_)))
 ·kernel_rfl
 refine Kc I (fun w hS => tI (s := s) (by (exact hS.sl)) (by exact hs')) (GI ?_); refine Ge ?_
 refine HF ?_; refine Lp (σ := Nat) [(1, _), (5, _), (12, _), (13, _)] (fun gq => [(14, .int .i64 (gq : Int))]) (fun gq => gq ≤ s.vs.length ∧ ∀ j, j < gq → inV (ak s.gs) (s.vs.getD j default) (ws.getD j default)) (fun gq => s.vs.length - gq) (0) (S4 I I I I) (S1 I) (by (try dsimp only); exact ⟨Af _, fun _ h => absurd h (B6 _)⟩) ?_
 rintro i hinv1; (try dsimp only at hinv1 ⊢)
 obtain ⟨hi, hok⟩ := hinv1
 refine ne (fun hc15 => ?_) (fun hc15 => ?_)
 ·have hil : i < s.vs.length := by omega
  have hwl : i < ws.length := by omega
  have hov : okN (s.vs.getD i default) := hfo.2.1 _ (aj _ _ hil)
  have hoz := (hz _ (aj _ _ hwl)).1
  have hol : okN (if s.vs.getD i default = [] then ak s.gs else s.vs.getD i default) := by split; exact hoo; exact hov
  refine FO ?_; refine Km I (FG ?_)
  refine Fu ?_
  refine GK ?_
  intro b7
  refine Ka I (FF ?_); refine Nt (Cs (Hc ?_))
  refine Ka I (Nt (WC.joinP (σ := Bs) [(1, _), (5, _), (6, _), (7, _), (12, _), (13, _), (14, _)] (fun gq => [(8, .string (S gq))]) (fun gq => gq = if s.vs.getD i default = [] then ak s.gs else s.vs.getD i default) (S7 I I I I I I I) ?_ ?_))
  ·skip
   refine Cs (Kq I (lda I I .tc bG I ?_) ?_)
   ·kernel_rfl
   refine Kc I (fun w hS => jD (v := s.vs.getD i default)) (Yi I (Ns 23 I (v' := .bool (decide (s.vs.getD i default = []))) (congrArg Value.bool (by by_cases h : s.vs.getD i default = [] <;> simp [h])) ?_)); refine Nt (Ci I (fun hc23 => ?_) (fun hc23 => ?_))
   ·refine Cg (Km I (Ka I (Nn (WX.joinP (ak s.gs) (S7 I I I I I I I) (by refine (Sc ?_ (S0 _)) <;> (rfl)) ?_ (fun _ h => h))))); (try dsimp only); rw [Ae (by (exact hc23))]
   ·refine Ck (WX.joinP (s.vs.getD i default) (S7 I I I I I I I) (by refine (Sc ?_ (S0 _)) <;> (rfl)) ?_ (fun _ h => h)); (try dsimp only); rw [Aa (by (exact hc23))]
  ·rintro u hmeet; (try dsimp only at hmeet ⊢); refine Cq (Cf [0, 1, 2, 3, 4, 5, 6, 7] [] [0, 0, 0, 0, 0, 0, 1, 0] (by kernel_rfl) (by kernel_rfl) I ?_); refine Kj I (lda I I .tc bG I ?_) ?_
   ·kernel_rfl
   refine Ft ?_; refine Fw ?_; refine FC ?_; refine GP ?_; refine Jv I I I I I (fun ext => Oc I I (Kv fun w hS => iD (v := s.vs.getD i default) (x := ws.getD i default) (n := u) (by exact hoz) (by (rw [hmeet]; exact hol)))) ?_; refine Kj I (Rt I I) ?_; refine WJ.nil ?_; refine Nt (Ci I (fun hc32 => ?_) (fun hc32 => ?_))
   ·have hn : ¬ inR s.core ws := fun h => absurd (kl.1 (h i hil)) (by rw [← hmeet]; (exact hc32))
    refine Cs (le ?_); refine FE ?_; exact R1 I I (by rw [Aj hn]; rfl)
   ·refine Ck (Xd (Xa (Cg (Kq I (Rz I I I (by omega)) (Km I (Nn (Ly (i + 1) (by (try dsimp only); omega) (S4 I I I I) (by refine (Sc ?_ (S0 _)) <;> (rfl)) ?_ (by (exact aq))))))))); (try dsimp only); exact ⟨hil, fun j hj => by rcases Bc.1 hj with h | h; exact hok j h; subst h; exact kl.2 (by rw [← hmeet]; (simpa using hc32))⟩
 ·refine Fq ?_
  obtain rfl : i = s.vs.length := by omega
  refine Xa (Cs (le ?_))
  exact R1 I I (by rw [Az (show inR s.core ws from fun j hj => hok j hj)]; rfl)
def bdE (r : Gp) (s : Sm) : Int :=
 if ¬ (okN r.1 ∧ okN r.2) then 3 else if dQ s ≠ 0 then dQ s else if ¬ (2 ≤ val r.1 ∧ 2 ≤ val r.2) then 2
 else if ¬ (∀ v ∈ s.2.1, v = [] → val r.1 ≤ val (ak s.1)) then 2 else 0
def bdS (r : Gp) (s : Sm) : List Gp × Int := if bdE r s ≠ 0 then ([], bdE r s) else (s.2.1.map (aw r (ak s.1)), 0)
theorem jk {r : Gp} {s : Sm} {e : Int} (h : bdE r s = e) (h0 : e ≠ 0) : bdS r s = ([], e) := by rw [bdS, h, Ae h0]
def xP (i : Nat) : Nat := [148, 149].getD i default
abbrev iW (r : Gp) (q : Bs) (f : Nat) : Value := .func (.func f) #[stV r q] #[]
theorem sq {i : Nat} (h : i < 2) : ey Tryz.prog (xP i) = true := by
 rcases i with _ | _ | i
 ·kernel_rfl
 ·kernel_rfl
 ·omega
theorem xO (x v : Value) : (#[x] : Array Value) ++ [v].toArray ++ #[] = #[x, v] := by simp
abbrev knd (v : Bs) : Nat := if v = [] then 0 else 1
theorem DO {r : Gp} {q v : Bs} {w : World} (h1 : okN r.1) (h2 : okN r.2) (h3 : okN v) (h4 : r.1.length ≤ 8) (h5 : r.2.length ≤ 8) (h6 : v.length ≤ 8) (h7 : 2 ≤ val r.1) (h8 : 2 ≤ val r.2) :
  Calls Tryz.prog (xP (knd v)) #[stV r q, .string (S v)] w fun e w' => e = .returned (.tuple #[.agg #[.string (S (aw r q v).1), .string (S (aw r q v).2)], .int .i64 0]) ∧ Below w.heap.size w w' := by
 by_cases hv : v = []
 ·rw [knd, Ae hv, aw, Ae hv]; exact AP
 ·rw [knd, Aa hv, aw, Aa hv]; exact BD h1 h2 h3 h4 h5 h6 h7 h8 hv
theorem uW {l : List Gp} {g : Gp} : gps (l ++ [g]) = gps l ++ [.string (S g.1), .string (S g.2)] := by simp
theorem od {r : Gp} {s : SA} {w : World} {ok : Nat → Prop} (hF1 : (Fact.sl s.ga (gps s.gs)).holds ok w) (hF2 : (Fact.sl s.va (vrs s.vs)).holds ok w) (hF3 : (Fact.sl s.ea (qas s.es)).holds ok w) (hM : ∀ f ∈ (s.es.map qaF), f.holds ok w) (hs : saL s) (h4 : r.1.length ≤ 8) (h5 : r.2.length ≤ 8) (h6 : ∀ v ∈ s.vs, v.length ≤ 8) :
  Calls Tryz.prog 72 #[.agg #[.string (S r.1), .string (S r.2)], saV s] w fun e w' => ∃ gx : Rs, e = .returned (.tuple #[gx.val (bdS r s.core).1.length, .int .i64 (bdS r s.core).2]) ∧ (True) ∧ Below w.heap.size w w' ∧ ∀ x ∈ ([Fact.sl gx.a (gps (bdS r s.core).1)] : List Fact), x.holds (fun b => w.heap.size ≤ b) w' := by
 have hs' := hs
 obtain ⟨hlg, hlv, hle, hlt, hlm⟩ := hs
 refine En (Fact.sl s.ga (gps s.gs) :: Fact.sl s.va (vrs s.vs) :: Fact.sl s.ea (qas s.es) :: (s.es.map qaF)) [(0, .agg #[.string (S r.1), .string (S r.2)]), (1, saV s)] Tryz.func72 I Tryz.ntmps72 I (Ac I (Ac I (An _))) (Fc (af hF1) (Fc (af hF2) (Fc (af hF3) (aE hM)))) (Eq ?_)
 intro b2
 refine Gc ?_
 intro b3
 refine Ka I (Ka I (Nt (Cq (WC.joinP (σ := Unit) [(2, _), (3, _)] (fun gq => [(26, .bool (decide (¬ (okN r.1 ∧ okN r.2))))]) (fun gq => True) (S2 I I) ?_ ?_))))
 ·skip
  refine Cg (Hi ?_)
  refine Kc I (fun w hS => ay (a := r.1)) (Yt I (Km I (Nc 21 I (fun hg21 => ?_) (fun hg21 => ?_))))
  ·refine T4 I (Yp I (Nn (WX.joinP (()) (S2 I I) (by refine (Sc ?_ (S0 _)) <;> ((refine ao rfl ?_; (try dsimp only); (simp [*]; done)))) ?_ (fun _ h => h)))); (try dsimp only); done
  ·refine Kf 1 I u24 I I I .tc u22 ?_; refine Kc I (fun w hS => ay (a := r.2)) (Yt I (Yq I (Nn (WX.joinP (()) (S2 I I) (by refine (Sc ?_ (S0 _)) <;> ((refine ao rfl ?_; (try dsimp only); (simp [*]; done)))) ?_ (fun _ h => h))))); (try dsimp only); done
 ·rintro _ hmeet; (try dsimp only at hmeet ⊢)
  refine Ci I (fun hc26 => ?_) (fun hc26 => ?_)
  ·have hr : bdS r s.core = ([], 3) := jk (by rw [bdE, Ae hc26]) (by decide); refine Cs (Ka I (le ?_)); refine Xb ?_; exact Im
  ·have hok := Ah.1 hc26; refine Ck (Xa (Cq (Cs (Kq I (lda I I .tc u43 I ?_) ?_))))
   ·kernel_rfl
   refine Kc I (fun w hS => oT (s := s) (by (exact hS.sl)) (by (exact hS.sl)) (by (exact hS.sl)) (by (exact hS.more)) (by exact hs')) (Ka I (Nt (Fz (fun hc30 => ?_) (fun hc30 => ?_))))
   ·have hr : bdS r s.core = ([], dQ s.core) := jk (by rw [bdE, Aa (fun h => h hok), Ae (by simpa using hc30)]) (by simpa using hc30); refine H7 ?_; refine le ?_; refine Xb ?_; exact Im
   ·have hk0 : dQ s.core = 0 := by simpa using hc30
    have hfo : bc s.core := A8 fun h => by rw [dQ, Ae h] at hk0; cases hk0
    have hoo : okN (ak s.gs) := cm hfo.1; have ho2 : okN (ae 2) := by decide +kernel
    have hv2 : val (ae 2) = 2 := ah 2; refine Ck (Xa (Cs (Kc I (fun w hS => fU (n := 2) (by omega)) (Ka I (Nt (Cq (WC.joinP (σ := Unit) [(2, _), (3, _)] (fun gq => [(44, .bool (decide (¬ (2 ≤ val r.1 ∧ 2 ≤ val r.2))))]) (fun gq => True) (S2 I I) ?_ ?_)))))))
    ·skip
     refine Cg (Hi ?_); refine Km I (Kc I (fun w hS => cZ (a := r.1) (b := ae 2)) (Yl I (Ns 37 I (v' := .bool (decide (val r.1 < 2))) (congrArg Value.bool (by exact Ak.2 (by rw [a8 hok.1 ho2, hv2]; exact aR _ _))) ?_))); refine Km I (Nc 38 I (fun hg38 => ?_) (fun hg38 => ?_))
     ·refine T4 I (Kt I (Yp I (Nn (WX.joinP (()) (S2 I I) (by refine (Sc ?_ (S0 _)) <;> ((refine ao rfl ?_; (try dsimp only); (simp [*]; done)))) ?_ (fun _ h => h))))); (try dsimp only); done
     ·refine Kf 1 I u24 I I I .tc u22 ?_; refine Km I (Kc I (fun w hS => cZ (a := r.2) (b := ae 2)) (Yl I (Ns 43 I (v' := .bool (decide (val r.2 < 2))) (congrArg Value.bool (by exact Ak.2 (by rw [a8 hok.2 ho2, hv2]; exact aR _ _))) ?_))); refine Yq I (Nn (WX.joinP (()) (S2 I I) (by refine (Sc ?_ (S0 _)) <;> ((refine ao rfl ?_; (try dsimp only); (exact Ak.2 (by omega))))) ?_ (fun _ h => h))); (try dsimp only); done
    ·rintro _ hmeet; (try dsimp only at hmeet ⊢); refine Ci I (fun hc44 => ?_) (fun hc44 => ?_)
     ·have hr : bdS r s.core = ([], 2) := jk (by rw [bdE, Aa (fun h => h hok), Aa (fun h => h hk0), Ae hc44]) (by decide); refine Cs (Ka I (le ?_)); refine Xb ?_; exact Im
     ·obtain ⟨h7, h8⟩ := Ah.1 hc44; refine Ck (Xa (Cq (WC.free (K := [⟨some b3, [.slice s.ga s.gs.length s.gc, .slice s.va s.vs.length s.vc, .slice s.ea s.es.length s.ec], 43⟩, ⟨some b2, [.string (S r.1), .string (S r.2)], 24⟩]) (fs0 := []) [1, 2, 0, 3, 4] [5] [0, 0, 1, 0, 3, 2] (by kernel_rfl) (by kernel_rfl) I ?_))); refine Kj I (lda I I .tc u43 I ?_) ?_
      ·kernel_rfl
      refine Jv I I I I I (fun ext => Oc I I (Kv fun w hS => tI (s := s) (by (exact hS.sl)) (by exact hs'))) ?_; refine Kj I (lda I I .tc u24 I ?_) ?_
      ·kernel_rfl
      refine Kj I (Kb [[.string (S []), .string (S [])], [.string (S [])]] I I) ?_; refine Jf I I I I I (cG I (v := (.agg #[.string (S []), .string (S []), .string (S [])])) (cs := [.string (S []), .string (S []), .string (S [])]) (by kernel_rfl) I) ?_; intro b8; refine WJ.nil ?_; refine FF ?_; refine Nt (Cq (Cs (Ge ?_))); refine HF ?_; refine Lp (σ := Nat) [(2, _), (3, _), (8, _), (50, _), (51, _)] (fun gq => [(52, .int .i64 (gq : Int))]) (fun gq => gq ≤ s.vs.length ∧ ∀ v ∈ s.vs.take gq, v = [] → val r.1 ≤ val (ak s.gs)) (fun gq => s.vs.length - gq) (0) (S5 I I I I I) (S1 I) (by (try dsimp only); exact ⟨Af _, by simp⟩) ?_; rintro i hinv1; (try dsimp only at hinv1 ⊢); obtain ⟨hi, hov⟩ := hinv1; refine ne (fun hc53 => ?_) (fun hc53 => ?_)
      ·have hil : i < s.vs.length := by omega
       refine FO ?_; refine FG ?_; refine Fu ?_; refine GK ?_; intro b10; refine FF ?_; refine Nt (WC.joinP (σ := Unit) [(2, _), (3, _), (8, _), (50, _), (51, _), (52, _)] (fun gq => [(66, .bool (decide (s.vs.getD i default = [] ∧ val (ak s.gs) < val r.1)))]) (fun gq => True) (S6 I I I I I I) ?_ ?_)
       ·skip
        refine Cg (Kq I (lda I I .tc bG I ?_) ?_)
        ·kernel_rfl
        refine Kc I (fun w hS => jD (v := s.vs.getD i default)) (Yi I (Ns 58 I (v' := .bool (decide (s.vs.getD i default = []))) (congrArg Value.bool (by by_cases h : s.vs.getD i default = [] <;> simp [h])) ?_)); refine Km I (Nc 59 I (fun hg59 => ?_) (fun hg59 => ?_))
        ·refine Kf 0 I u24 I I I .tc u22 ?_; refine Kf 2 I ox I I I .tc u22 ?_; refine Kc I (fun w hS => cZ (a := r.1) (b := ak s.gs)) (Yg I (Ns 65 I (v' := .bool (decide (val (ak s.gs) < val r.1))) (congrArg Value.bool (by exact Ak.2 (by rw [a8 hok.1 hoo]; exact vK _ _))) ?_)); refine Yp I (Nn (WX.joinP (()) (S6 I I I I I I) (by refine (Sc ?_ (S0 _)) <;> ((refine congrArg (fun b => some (Value.bool b)) ?_; simp [*, -List.getD_eq_getElem?_getD]; done))) ?_ (fun _ h => h))); (try dsimp only); done
        ·refine T4 I (T2 I (Yq I (Nn (WX.joinP (()) (S6 I I I I I I) (by refine (Sc ?_ (S0 _)) <;> ((refine congrArg (fun b => some (Value.bool b)) ?_; simp [*, -List.getD_eq_getElem?_getD]; done))) ?_ (fun _ h => h))))); (try dsimp only); done
       ·rintro _ hmeet; (try dsimp only at hmeet ⊢); refine Ci I (fun hc66 => ?_) (fun hc66 => ?_)
        ·have hr : bdS r s.core = ([], 2) := jk (by rw [bdE, Aa (fun h => h hok), Aa (fun h => h hk0), Aa (fun h => h ⟨h7, h8⟩), Ae (fun h => by have := h _ (aj _ _ hil) hc66.1; have h9 := hc66.2; simp only [SA.core] at this; omega)]) (by decide); refine Cs (Ka I (le ?_)); refine FE ?_; exact Im
        ·refine Ck (Xd (Xa (Cg (Kq I (Rz I I I (by omega)) (Km I (Nn (Ly (i + 1) (by (try dsimp only); omega) (S5 I I I I I) (by refine (Sc ?_ (S0 _)) <;> (rfl)) ?_ (by (exact aq))))))))); (try dsimp only); exact ⟨hil, ax hil hov (fun hv => Nat.not_lt.1 fun h9 => hc66 ⟨hv, h9⟩)⟩
      ·refine Fq ?_; obtain rfl : i = s.vs.length := by omega
       rw [Ai] at hov
       have hr : bdS r s.core = (s.vs.map (aw r (ak s.gs)), 0) := by
        have h9 : bdE r s.core = 0 := by rw [bdE, Aa (fun h => h hok), Aa (fun h => h hk0), Aa (fun h => h ⟨h7, h8⟩), Aa (fun h => h hov)]
        rw [bdS, Aa (fun h => h h9)]
       refine Xa (Cs (Kq I (lda I I .tc ox I ?_) ?_))
       ·kernel_rfl
       refine Kq I (bM I I I) (Kq I (lda I I .tc ox I ?_) ?_)
       ·kernel_rfl
       refine Kq I (bM I I I) (Kq I (Kb [[.nilFunc], [.nilFunc]] I I) ?_); refine Kh I (Oz [.nilFunc, .nilFunc] I) ?_; intro b11; refine FF ?_; refine Nt (Cs (GI ?_)); refine Ge ?_; refine HF ?_; refine Lo (σ := Nat × (Option Nat) × Nat × (List Value)) [(11, _), (74, _), (75, _)] (fun gq => [(12, .slice (gq.2.1.map fun b => ⟨b, 0, none⟩) gq.1 gq.2.2.1), (76, .int .i64 (gq.1 : Int))]) (fun gq => gq.1 ≤ s.vs.length ∧ gq.2.2.1 * 2 = gq.1 * 2 + gq.2.2.2.length) (fun gq => s.vs.length - gq.1) (fun gq => [⟨gq.2.1, gps ((s.vs.take gq.1).map (aw r (ak s.gs))) ++ gq.2.2.2, 169⟩, ⟨some b11, [iW r (ak s.gs) 148, iW r (ak s.gs) 149], 225⟩]) (fun gq => [Fact.sl s.va (vrs s.vs)]) (0, none, 0, []) (S3 I I I) (S2 I I) (by (try dsimp only); exact ⟨Af _, rfl⟩) (by exact fun w h => by show St _ _ [_, ⟨some b11, [iW r (ak s.gs) _, iW r (ak s.gs) _], _⟩] _ _; exact (aq _ h : St _ _ [⟨some b11, [iW r (ak s.gs) _, iW r (ak s.gs) _], _⟩] _ _).nil _) ?_; rintro ⟨i, o, cp, sp⟩ hinv2; (try dsimp only at hinv2 ⊢); obtain ⟨hi, hcp⟩ := hinv2; refine ne (fun hc77 => ?_) (fun hc77 => ?_)
       ·have hil : i < s.vs.length := by omega
        obtain ⟨v, hv⟩ : ∃ v, Keep (v = s.vs.getD i default) := ⟨_, rfl⟩; have hvm : v ∈ s.vs := by rw [show v = _ from hv]; exact aj _ _ hil
        have hvo : okN v := hfo.2.1 _ hvm; have hv8 : v.length ≤ 8 := h6 _ hvm; have hk2 : knd v < 2 := by rw [knd]; split <;> decide
        refine FO ?_; refine FG ?_; refine Fu ?_; rw [← show v = _ from hv]; refine GK ?_; intro b14; refine FF ?_; refine Nt (Cq (WC.free (K := [⟨some b14, [.string (S v)], 132⟩, ⟨some b11, [iW r (ak s.gs) 148, iW r (ak s.gs) 149], 225⟩]) (fs0 := []) [0, 1, 2, 3, 4, 5, 6, 7, 8, 10, 11, 9, 12] [] [0, 1, 0, 0, 0, 0, 1, 0, 0, 0, 3, 1, 0] (by kernel_rfl) (by kernel_rfl) I ?_)); refine Kj I (lda I I .tc bG I ?_) ?_
        ·kernel_rfl
        refine Jv I I I I I (fun ext => Oc I I (Kv fun w hS => jD (v := v))) ?_; refine WJ.set 82 I (v' := .int .i64 ((knd v : Nat) : Int)) (congrArg (Value.int .i64) (by by_cases h : v = [] <;> simp [knd, h])) ?_; refine Kj I (Jb I I I E1 (by kernel_rfl : _ = some 1) ?_) ?_
        ·omega
        refine Kj I (ld I I .tc E2 I (show _ = some (iW r (ak s.gs) (xP (knd v))) from by by_cases h : v = [] <;> simp [knd, xP, h])) ?_; refine Kj I (Fa (q := 0) I I bG I I) (Kj I (Ld I I .tc u22) ?_); refine Jv I I I I I (fun ext => a6 I I I (sq hk2) (xO _ _) (Kv fun w hS => DO hok.1 hok.2 hvo h4 h5 hv8 h7 h8)) ?_; refine Kj I (Rm I I) (Kj I (Re I I I) ?_); refine Jf I I I I I (cG I (v := (.agg #[.string (S []), .string (S [])])) (cs := [.string (S []), .string (S [])]) (by kernel_rfl) I) ?_; intro b15; refine WJ.st I I I I (ft I I I ?_ ?_ ?_) ?_
        ·kernel_rfl
        ·simp [Value.oneCell']
        ·rfl
        refine Hu ?_; refine GR ?_; refine WJ.nil ?_; refine Nt (Cq (Cs (Km I (Yj I (Ns 91 I (v' := .bool false) (by rfl) ?_))))); refine Fx (fun _ => ?_); refine Ck (Xa (Cg ?_)); have hls : (gps ((s.vs.take i).map (aw r (ak s.gs)))).length = i * 2 := by rw [ag _ _ 2 (fun _ => rfl), Ag, B1]; omega
        refine Km I (Kq I (lda I I .tc jt I ?_) ?_)
        ·kernel_rfl
        refine Kh I (ew I I kD (by kernel_rfl : _ = some (some (.agg #[.string (S []), .string (S [])]), 2, 32)) (by kernel_rfl) (by decide) I I (by (simp [Value.cells]; done)) (by (exact bV _)) (by decide)) ?_; intro b95; refine Kh I (jm I kD (by kernel_rfl : _ = some (some (.agg #[.string (S []), .string (S [])]), 2, 32)) (by kernel_rfl) (by decide) .tc I I (fun w hS => by (exact hS.os)) (by rfl) (by refine ⟨?_, ?_, ?_, ?_⟩ <;> first | exact hls | (try simp) <;> omega) (by (simp [Value.oneCell']; done))) ?_; rintro ⟨o96, c96, s96⟩; refine WL.pu ?_; intro hg96; (try dsimp only at hg96 ⊢); refine Ka I (Nn (Xd (Xa (Cg (Kq I (Rz I I I (by omega)) (Km I (Nn (Lx ((i + 1, o96, c96, s96)) (by (try dsimp only); omega) (S3 I I I) (by refine (Sc ?_ (Sc ?_ (S0 _))) <;> (rfl)) ?_ (by exact fun w h => by rw [aA hil, Bu, Ds, List.map_nil, uW, ← show v = _ from hv]; exact aq _ h))))))))); (try dsimp only); exact ⟨hil, by omega⟩
       ·refine Fq ?_; obtain rfl : i = s.vs.length := by omega
        rw [Ai]; refine Xa (H7 ?_); refine le ?_; exact Rn I (.tmp I (.tmp I .nil)) fun w' hS => ⟨⟨o, cp, sp⟩, by rw [hr]; dsimp only; rw [Ag]; rfl, trivial, hS.below, by rw [hr]; exact Fc hS.ocf Fn⟩
theorem rl {n : Nat} (h : ¬ n < 10) : Lib.decDigits n = Lib.decDigits (n / 10) ++ [UInt8.ofNat (48 + n % 10)] := by rw [Lib.decDigits, dif_neg h]
theorem jG {n : Nat} (h : n < 10) : Lib.decDigits n = [UInt8.ofNat (48 + n)] := by rw [Lib.decDigits, dif_pos h]
theorem rk : ∀ n : Nat, (Lib.decDigits n).length ≤ n + 1
 | n => by
  by_cases h : n < 10
  ·rw [jG h]; simp
  ·rw [rl h, Al]; have := rk (n / 10); simp; omega
theorem gW : ∀ (k n : Nat), n < 10 ^ (k + 1) → (Lib.decDigits n).length ≤ k + 1
 | 0, n, h => by rw [jG (by simpa using h)]; simp
 | k + 1, n, h => by
  by_cases h' : n < 10
  ·rw [jG h']; simp
  ·rw [rl h', Al]; have := gW k (n / 10) (by rw [A0] at h; omega); simp; omega
abbrev Tab (w : World) : Prop := Lib.TabIs Tryz.prog w "internal/strconv.uint64pow10" .u64 Lib.pow10Tab
theorem rQ {w w' : World} (h : Tab w) (hb : Below w.heap.size w w') : Tab w' := by
 have h' : w.var? Tryz.prog "internal/strconv.uint64pow10" = some (Lib.pow10Tab.map fun z => Value.int .u64 z).toArray := h
 show w'.var? Tryz.prog "internal/strconv.uint64pow10" = _
 unfold World.var? at h' ⊢
 cases hg : Tryz.prog.globalNamed "internal/strconv.uint64pow10" with
 | none => rw [hg] at h'; cases h'
 | some g =>
  rw [hg] at h'
  simp only [Option.bind_some] at h' ⊢
  have hlt : g < w.heap.size := by
   rcases Cc g w.heap.size with q | q
   ·exact q
   ·rw [Array.getElem?_eq_none q] at h'; cases h'
  rw [hb.block g hlt]; exact h'
theorem bW {ok : Nat → Prop} {w0 w : World} {own : List Ent} {fs : List Fact} (h : Tab w0) (hS : St ok w0 own fs w) : Tab w := rQ h hS.below
theorem pU (w : World) (k : Nat) (os : Array Obj) : Below w.heap.size w (Sort.grow (w.drewN k) os) := by
 have hh : (Sort.grow (w.drewN k) os).heap = w.heap ++ os := rfl
 refine ⟨rfl, rfl, rfl, by rw [hh]; simp, fun q hq => ?_⟩
 rw [hh, Array.getElem?_append_left hq]
theorem ln {n : Nat} {w : World} (hn : n ≤ 9223372036854775807) (hT : Tab w) :
  Cw 160 #[.int .i64 (n : Int)] w (.string (S (Lib.decDigits n))) :=
 (uL n (by omega) (by omega) w hT).mono fun _ _ ⟨h1, k, os, h2⟩ => ⟨by rw [h1, Lib.itoa, Aa (by omega), A2]; rfl, by rw [h2]; exact pU w k os⟩
theorem nN (k s : Bs) : (mac k s).length = 32 := eH _
def uy (at_ a b : Nat) : Bs := Lib.decDigits at_ ++ [46] ++ Lib.decDigits a ++ [46] ++ Lib.decDigits b
def gz (sd : Bs) (at_ a b : Nat) : Bs := mac sd (uy at_ a b)
def lZ (sd : Bs) (at_ a : Nat) : Nat → Bs
 | 0 => []
 | k + 1 => lZ sd at_ a k ++ gz sd at_ a k
theorem lJ (sd : Bs) (at_ a : Nat) : ∀ k, (lZ sd at_ a k).length = 32 * k
 | 0 => rfl
 | k + 1 => by rw [lZ, Al, lJ sd at_ a k, gz, nN]; omega
def qk (nb : Nat) : Nat := (nb + 7) / 8
def n9 (sd : Bs) (at_ a nb : Nat) : Bs := (lZ sd at_ a ((qk nb + 31) / 32)).take (qk nb)
def l0 (sd : Bs) (at_ a nb : Nat) : Bs := ae (val (n9 sd at_ a nb) % 2 ^ nb)
theorem uD (c : UInt8) (r : Bs) (x nb : Nat) (hx : x ≤ 8) (hn : nb = 8 * r.length + x) : val (c :: r) % 2 ^ nb = c.toNat % 2 ^ x * 256 ^ r.length + val r := by
 have e : 2 ^ nb = 256 ^ r.length * 2 ^ x := by rw [hn, Bj, Nat.pow_mul]
 have h1 := aG r
 rw [val, e, Nat.mod_mul, Ao c.toNat, Nat.mul_add_mod, Am h1, Cj (jA _), Bo h1, Bd, Ao (c.toNat % 2 ^ x)]
 omega
theorem yL {sd X : Bs} {at_ a nb Z x : Nat} (hZ : Z = qk nb) (hZ0 : 1 ≤ Z) (hby : n9 sd at_ a nb = X.take Z) (hX : Z ≤ X.length) (hx : x = (X.getD 0 default).toNat % 2 ^ (8 - (8 * Z - nb))) (hnb : nb ≤ 8 * Z) (hnb2 : 8 * Z < nb + 8) :
  ae (val ([UInt8.ofNat x] ++ (X.take Z).drop 1)) = l0 sd at_ a nb := by
 have e : X.take Z = X.getD 0 default :: (X.take Z).drop 1 := by
  cases X with
  | nil => simp at hX; omega
  | cons c s => obtain ⟨q, rfl⟩ : ∃ q, Z = q + 1 := ⟨Z - 1, by omega⟩; rfl
 have hl : ((X.take Z).drop 1).length = Z - 1 := by rw [C2, B1]; omega
 have hc := (X.getD 0 default).toNat_lt
 have hxl : x < 256 := by rw [hx]; exact Bb (Nat.mod_le _ _) hc
 have hm := uD (X.getD 0 default) ((X.take Z).drop 1) (8 - (8 * Z - nb)) nb (by omega) (by rw [hl]; omega)
 rw [l0, hby]
 congr 1
 rw [show val (X.take Z) = val (X.getD 0 default :: (X.take Z).drop 1) by rw [← e], hm, List.singleton_append, val, UInt8.toNat_ofNat', ← hx]
 congr 1
 rw [Am (by omega)]
def itB {σ : Type} (sd : Bs) (at_ a : Nat) (after : σ → Bs → σ) (stop : σ → Bs → Option Code) : Nat → Nat → σ → σ × Option Code
 | 0, _, s => (s, none)
 | f + 1, b, s => if (stop s (gz sd at_ a b)).isSome then (after s (gz sd at_ a b), stop s (gz sd at_ a b)) else itB sd at_ a after stop f (b + 1) (after s (gz sd at_ a b))
section
variable {σ : Type} {sd : Bs} {at_ a : Nat} {after : σ → Bs → σ} {stop : σ → Bs → Option Code} {K b : Nat} {s : σ}
theorem oV (h : b < K) (hs : (stop s (gz sd at_ a b)).isSome = true) : itB sd at_ a after stop (K - b) b s = (after s (gz sd at_ a b), stop s (gz sd at_ a b)) := by
 rw [show K - b = (K - b - 1) + 1 by omega, itB, Ae hs]
theorem uM (h : b < K) (hs : stop s (gz sd at_ a b) = none) : itB sd at_ a after stop (K - b) b s = itB sd at_ a after stop (K - (b + 1)) (b + 1) (after s (gz sd at_ a b)) := by
 rw [show K - b = (K - (b + 1)) + 1 by omega, itB, Aa (by simp [hs])]
theorem BC (h : b ≤ K) {s0 : σ} (hi : itB sd at_ a after stop (K - b) b s = itB sd at_ a after stop K 0 s0) (hs : (itB sd at_ a after stop K 0 s0).2.isSome = true) : b < K := by
 rcases Cc b K with q | q
 ·exact q
 ·rw [← hi, show K - b = 0 by omega, itB] at hs; cases hs
end
theorem vX {t : Tp} {x : Value} {a : Int} {own0 : List Ent} {ok : Nat → Prop} {w0 : World} {fs : List Fact} {w : World} (hS0 : St ok w0 (own0) (fs) w) :
  Calls Tryz.prog 276 #[.agg #[x, .string (S t.seed), .int .i64 t.at_], .int .i64 a] w fun e w' => ∃ g : Nat × Nat, e = .returned (.func (.func 298) #[] #[.pointer (some ⟨g.1, 0, none⟩), .pointer (some ⟨g.2, 0, none⟩)]) ∧ St ok w0 (⟨some g.2, [.int .i64 a], 3⟩ :: ⟨some g.1, [x, .string (S t.seed), .int .i64 t.at_], 35⟩ :: own0) fs w' := by
 refine enter (S := St ok w0 (own0) (fs)) (L := [(0, .agg #[x, .string (S t.seed), .int .i64 t.at_]), (1, .int .i64 a)]) Tryz.func276 rfl Tryz.ntmps276 rfl (Ac rfl (Ac rfl (An _))) hS0 ?_
 refine Eq ?_
 intro b2
 refine Gc ?_
 intro b3
 refine Ka I (Nt (Cs (Kq I (bM I I I) (le ?_))))
 exact Rn I (.tmp I .nil) fun w' hS => ⟨(b2, b3), rfl, hS⟩
theorem EO {σ γ : Type} {CO : σ → γ → List Ent} {pg : σ → γ → Prop} {inv : σ → Bs → Prop} {after : σ → Bs → σ} {stop : σ → Bs → Option Code} {l : Nat} {r : Loop} {ok : Nat → Prop} {w0 : World} {fs : List Fact} {w : World} {sd : Bs} {x : Value} {at_ a : Nat} {b1 b2 : Nat} {s0 : σ} {K : Nat} [∀ s g, HasE (CO s g) b1 [x, .string (S sd), .int .i64 (at_ : Int)] 35] [∀ s g, HasE (CO s g) b2 [.int .i64 (a : Int)] 3] {g0 : γ} (hY : YOk Tryz.prog l r ok w0 fs CO pg inv after stop (fun s : Bs => #[Value.string (S s)])) (hS0 : St ok w0 (CO s0 g0) (Fact.lp l (rcd r none) :: fs) w) (hg0 : pg s0 g0) (hsd : sd.length ≤ 400000) (hat : at_ ≤ 4294967296) (ha : a ≤ 1000) (hK : K ≤ 100000) (hinv : ∀ s x, x.length = 32 → inv s x) (hstop : (itB sd at_ a after stop K 0 s0).2.isSome = true) (hT : Tab w0) :
  Calls Tryz.prog 298 #[.func (.yield l) #[] #[], .pointer (some ⟨b1, 0, none⟩), .pointer (some ⟨b2, 0, none⟩)] w fun e w' => (∃ v, e = .returned v) ∧ ∃ g', ((itB sd at_ a after stop K 0 s0).2 = none → pg ((itB sd at_ a after stop K 0 s0).1) g') ∧ St ok w0 (CO ((itB sd at_ a after stop K 0 s0).1) g') (Fact.lp l (rcd r ((itB sd at_ a after stop K 0 s0).2)) :: fs) w' := by
 have hd1 := gW 18 at_ (by omega); have hd2 := gW 18 a (by omega)
 refine enter (S := St ok w0 (CO s0 g0) (Fact.lp l (rcd r none) :: fs)) (L := [(0, .func (.yield l) #[] #[]), (1, .pointer (some ⟨b1, 0, none⟩)), (2, .pointer (some ⟨b2, 0, none⟩))]) Tryz.func298 rfl Tryz.ntmps298 rfl (Ac rfl (Ac rfl (Ac rfl (An _)))) hS0 ?_
 refine Cs (Ka I (Nt (Cb (Lo (σ := Nat × σ × γ) [(0, _), (1, _), (2, _)] (fun gq => [(4, .int .i64 (gq.1 : Int))]) (fun gq => gq.1 ≤ K ∧ pg gq.2.1 gq.2.2 ∧ itB sd at_ a after stop (K - gq.1) gq.1 gq.2.1 = itB sd at_ a after stop K 0 s0) (fun gq => K - gq.1) (fun gq => CO gq.2.1 gq.2.2) (fun gq => Fact.lp l (rcd r none) :: fs) (0, s0, g0) (S3 I I I) (S1 I) (by (try dsimp only); exact ⟨Af _, hg0, rfl⟩) (fun _ h => h) ?_))))
 rintro ⟨b, s, g⟩ hinv1; (try dsimp only at hinv1 ⊢)
 obtain ⟨hp, hgs, hi⟩ := hinv1
 have hlt := BC hp hi hstop
 have hd3 := gW 18 b (by omega)
 refine Cq (Cb (Cq (Cf [0, 1, 2, 4, 5, 8, 9, 3, 6, 7, 10, 11] [] [0, 0, 1, 0, 0, 1, 0, 0, 0, 1, 0, 0] (by kernel_rfl) (by kernel_rfl) I ?_)))
 (refine Kj I (cA I I u35 I (by kernel_rfl) (by (try simp only [sN, Int.reduceToNat, Nat.reduceAdd, Nat.reduceMul, Nat.reduceSub]); rfl)) ?_)
 refine HP ?_
 refine Hv ?_
 refine HP ?_
 refine Hv ?_
 refine GP ?_
 refine Hv ?_
 refine Kj I (eQ I I I ?_) ?_
 ·((try simp only [Al, Ay, B4]); omega)
 refine Kj I (eQ I I I ?_) ?_
 ·((try simp only [Al, Ay, B4]); omega)
 refine Kj I (eQ I I I ?_) ?_
 ·((try simp only [Al, Ay, B4]); omega)
 refine Kj I (eQ I I I ?_) ?_
 ·((try simp only [Al, Ay, B4]); omega)
 refine GR ?_
 refine WJ.nil ?_
 refine Nt (Cs (Km I ?_))
 (refine Kq I (cA I I u35 I (by kernel_rfl) (by (try simp only [sN, Int.reduceToNat, Nat.reduceAdd, Nat.reduceMul, Nat.reduceSub]); rfl)) ?_)
 refine Kq I (Ld I I .tc u9) ?_
 refine Km I (Kc I (fun w hS => DM (key := sd) (s := uy at_ a b) (by omega) (by simp only [uy, Al, Ay, B4]; omega)) (Kh I (oR hY [] (gz sd at_ a b) I I I I (hinv _ _ (nN _ _)) (hgs)) ?_))
 intro gy; refine WL.pu ?_; intro hgy; (refine WL.app0 ?_)
 refine Gs (fun hc25 => ?_) (fun hc25 => ?_)
 ·refine Ce (Xf (Xb (Xb (Xf ?_))))
  exact Rn I .nil fun w' hS => ⟨⟨_, rfl⟩, gy, by rw [← hi, oV hlt (by simpa using hc25)]; exact hgy, by rw [← hi, oV hlt (by simpa using hc25)]; dsimp only; exact aq _ hS⟩
 ·have hst : stop s (gz sd at_ a b) = none := by simpa using hc25
  rw [hst]
  refine Ck (Xd (Xa (Cg (Km I (Kq I (Rz I I I (by omega)) (Ka I (Nn (Lx ((b + 1, after s (gz sd at_ a b), gy)) (by (try dsimp only); omega) (S3 I I I) (by refine (Sc ?_ (S0 _)) <;> (rfl)) ?_ (fun _ h => h)))))))))
  (try dsimp only)
  exact ⟨by omega, hgy hst, (uM hlt hst).symm.trans hi⟩
def fP (s x : Bs) : Bs := s ++ x
def eT (Z : Nat) (s x : Bs) : Option Code := if Z ≤ s.length + x.length then some (.exit 0) else none
theorem qU (sd : Bs) (at_ a Z : Nat) (hZ : 1 ≤ Z) : ∀ (d b : Nat), b + d = (Z + 31) / 32 → 1 ≤ d → itB sd at_ a fP (eT Z) d b (lZ sd at_ a b) = (lZ sd at_ a ((Z + 31) / 32), some (.exit 0))
 | 0, b, h, h1 => by omega
 | d + 1, b, h, h1 => by
  have hl := lJ sd at_ a b
  have hm : (gz sd at_ a b).length = 32 := nN _ _
  rw [itB]
  by_cases hd : d = 0
  ·subst hd; have hs : eT Z (lZ sd at_ a b) (gz sd at_ a b) = some (.exit 0) := by rw [eT, Ae (by omega)]
   rw [hs]; simp only [Option.isSome_some, if_true]; rw [← h]; rfl
  ·have hs : eT Z (lZ sd at_ a b) (gz sd at_ a b) = none := by rw [eT, Aa (by omega)]
   rw [hs, Aa (by simp)]; exact qU sd at_ a Z hZ d (b + 1) (by omega) (by omega)
abbrev ACO (x : Value) (sd : Bs) (at_ a Z : Nat) (g : Nat × Nat) (b8 b7 b3 : Nat) (s : Bs) (q : Option Nat × List Value) : List Ent :=
 [⟨q.1, s.map B ++ q.2, 5⟩, ⟨some g.2, [.int .i64 (a : Int)], 3⟩, ⟨some g.1, [x, .string (S sd), .int .i64 (at_ : Int)], 35⟩, ⟨some b8, [.slice (q.1.map fun b => ⟨b, 0, none⟩) s.length (s.length + q.2.length)], 210⟩, ⟨some b7, [.int .i64 (Z : Int)], 3⟩, ⟨some b3, [x, .string (S sd), .int .i64 (at_ : Int)], 35⟩]
theorem DL (c : UInt8) (d : Nat) (hd : d ≤ 7) : bits .and .u8 (c.toNat : Int) (Int.fdiv 255 (2 ^ (min ((d : Nat) : Int).toNat IntKind.u8.bits))) = ((UInt8.ofNat (c.toNat % 2 ^ (8 - d))).toNat : Int) := by
 have h1 := c.toNat_lt
 have e : Int.fdiv 255 (2 ^ (min ((d : Nat) : Int).toNat IntKind.u8.bits)) = ((2 ^ (8 - d) - 1 : Nat) : Int) := by
  have key : ∀ q, q ≤ 7 → Int.fdiv 255 (2 ^ (min ((q : Nat) : Int).toNat IntKind.u8.bits)) = ((2 ^ (8 - q) - 1 : Nat) : Int) := by decide
  exact key d hd
 have h2 : 2 ^ (8 - d) ≤ 2 ^ 8 := Ar (by decide) (by omega)
 have h3 : c.toNat % 2 ^ (8 - d) < 256 := Bb (Nat.mod_le _ _) h1
 rw [e, u8_and_nat _ _ (by omega) (by omega), Nat.and_two_pow_sub_one_eq_mod, UInt8.toNat_ofNat', Am (a := c.toNat % 2 ^ (8 - d)) (b := 2 ^ 8) (by omega)]
theorem s8 {vx : Value} {sd : Bs} {at_ aa nb : Nat} {w : World} (hsd : sd.length ≤ 400000) (hat : at_ ≤ 4294967296) (ha : aa ≤ 1000) (hnb : 1 ≤ nb) (hnb2 : nb ≤ 100000) (hT : Tab w) :
  Cw 224 #[.agg #[vx, .string (S sd), .int .i64 (at_ : Int)], .int .i64 (aa : Int), .int .i64 (nb : Int)] w (.string (S (l0 sd at_ aa nb))) := by
 obtain ⟨Z, hZ⟩ : ∃ Z : Nat, Z = qk nb := ⟨_, rfl⟩
 have hZ1 : Z = (nb + 7) / 8 := hZ
 have hZ0 : 1 ≤ Z := by omega
 have hZl : Z ≤ 20000 := by omega
 have hit := qU sd at_ aa Z hZ0 ((Z + 31) / 32) 0 (by omega) (by omega)
 change itB sd at_ aa fP (eT Z) ((Z + 31) / 32) 0 [] = _ at hit
 refine vu (S := St (fun _ => True) w [] ([])) (L := [(0, .agg #[vx, .string (S sd), .int .i64 (at_ : Int)]), (1, .int .i64 (aa : Int)), (2, .int .i64 (nb : Int))]) Tryz.func224 rfl Tryz.ntmps224 rfl (Ac rfl (Ac rfl (Ac rfl (An _)))) (St.start (fun _ _ => trivial) Fn) ?_
 refine Eq ?_
 intro b3
 refine FN ?_; refine HB ?_; refine Kq I (bX I I I (by omega)) (Ns 12 I (v' := .int .i64 ((Z : Nat) : Int)) (congrArg (Value.int .i64) (by omega)) ?_)
 refine Kh I (Oa I (v := (.int .i64 0)) (cs := [.int .i64 0]) (by kernel_rfl) I) ?_
 intro b7
 refine Ng I I (st I I I .tc (by kernel_rfl) I ?_ (by (simp only [Bf, Bg]; rfl))) ?_
 ·decide
 intro _
 refine Nt (Cs (Kh I (Oa I (v := (.slice none 0 0)) (cs := [.slice none 0 0]) (by kernel_rfl) I) ?_))
 intro b8
 refine Nt (Cq (Cs (Kq I (lda I I .tc u35 I ?_) ?_)))
 ·kernel_rfl
 refine Km I (Kh I (Oc I I (fun w hS => vX (t := ⟨[], sd, (at_ : Int)⟩) hS)) ?_)
 intro g15
 refine Nt (Cb (WC.range (CO := ACO vx sd at_ aa Z g15 b8 b7 b3) (pg := fun s q => s.length ≤ 30000 ∧ (q.1 = none ∨ 0 < s.length + q.2.length)) (inv := fun s y => y.length = 32) (after := fP) (stop := eT Z) (enc := fun s : Bs => #[Value.string (S s)]) ([]) ((none, [])) ((itB sd at_ aa fP (eT Z) ((Z + 31) / 32) 0 []).1) ((itB sd at_ aa fP (eT Z) ((Z + 31) / 32) 0 []).2) (⟨Af _, .inl rfl⟩) I (by kernel_rfl) (fun _ => rfl) (by exact fun w h => h.nil _) ?_ (fun l r D w hl hY hS => EO (K := (Z + 31) / 32) (sd := sd) (at_ := at_) (a := aa) (x := vx) hY hS ⟨Af _, .inl rfl⟩ hsd hat ha (by omega) (fun s y h => h) (by rw [hit]; rfl) hT) ?_ ?_))
 ·intro l r D f a s g x ext wr hl hi hpg hF hS
  rw [yY]
  refine oJ (Fr.tm (hF.put (d := 16) rfl _)) hS ?_
  refine WR.region (by kernel_rfl) ?_
  refine Ka I (Nn (WX.begin hl ?_))
  refine Cb (WR.sr (by kernel_rfl) ?_)
  refine Hx ?_
  refine Km I (Kh I (EQ I aF u9 (by kernel_rfl) .tc I I ?_) ?_)
  ·exact ⟨by simp, rfl, by have hi' : x.length = 32 := hi; omega, hpg.2⟩
  rintro ⟨o19, c19, s19⟩
  refine WL.pu ?_
  intro hg19; (try dsimp only at hg19 ⊢)
  refine Ng I I (st I I I .tc (by kernel_rfl) I ?_ (by (simp only [Bf, Bg]; rfl))) ?_
  ·(simp; done)
  intro _
  refine Nt (WR.sr (by kernel_rfl) ?_)
  refine Hx ?_
  refine Yo I aF (Kq I (Ld I I .tc u3) ?_)
  refine Hg (fun hc23 => ?_) (fun hc23 => ?_)
  ·refine Cx ?_; refine WX.block_other I ?_
   exact WX.rexit hl fun w' hS => by
    have hi' : x.length = 32 := hi; have h2 : eT Z s x = some (.exit 0) := by rw [eT, Ae (by omega)]
    rw [h2]; refine ⟨rfl, (o19, s19), fun h => (by cases h), ?_⟩; simp only [ACO, fP, Bu, Al]; rw [hg19.1] at hS; exact hS
  ·refine Ck (Xd ?_)
   exact WX.rnext hl fun w' hS => by
    have hi' : x.length = 32 := hi; have h2 : eT Z s x = none := by rw [eT, Aa (by omega)]
    rw [h2]; refine ⟨rfl, (o19, s19), fun _ => ⟨by simp only [fP, Al]; omega, by simp only [fP, Al]; rw [← hg19.1]; exact hg19.2⟩, ?_⟩; simp only [ACO, fP, Bu, Al]; rw [hg19.1] at hS; exact hS
 ·intro D1 g1 hD1 hg1 hcf
  exfalso; rw [hit] at hcf; cases hcf -- done
 ·intro D1 g1 c hD1 hcf
  obtain rfl : c = .exit 0 := by (rw [hit] at hcf; cases hcf; rfl)
  refine Cx (Xe ?_)
  rw [hit]; dsimp only [ACO]
  have hbl := lJ sd at_ aa ((Z + 31) / 32)
  have hby : n9 sd at_ aa nb = (lZ sd at_ aa ((Z + 31) / 32)).take Z := by rw [n9, ← hZ]
  generalize lZ sd at_ aa ((Z + 31) / 32) = X at *
  obtain ⟨c, X', rfl⟩ : ∃ c X', X = c :: X' := by cases X with
   | nil => simp at hbl; omega
   | cons c X' => exact ⟨c, X', rfl⟩
  obtain ⟨q1, q2⟩ := g1
  dsimp only
  have hcl : X'.length + 1 = 32 * ((Z + 31) / 32) := hbl
  refine Xa (Cs (WL.know (p := ∃ bb, q1 = some bb) (fun w h => by obtain ⟨b, hb, _⟩ := h.ocx (ob := q1) (cs := List.map B (c :: X') ++ q2) .tc (by simp); exact ⟨b, hb⟩) ?_))
  rintro ⟨bb, rfl⟩
  dsimp only [Option.map_some]
  refine Hx ?_
  refine Kq I (Ld I I .tc u3) ?_
  refine Kq I (t8 I I I aF (by kernel_rfl : _ = some 1) ?_ (by (try simp only [sN, Int.reduceToNat, Nat.reduceAdd, Nat.reduceMul, Nat.reduceSub]); rfl)) ?_
  ·omega
  refine Ng I I (st I I I .tc (by kernel_rfl) I ?_ (by (simp only [Bf, Bg]; rfl))) ?_
  ·(simp; done)
  intro _
  refine Nt (Cq (Cs (Kq I (Ld I I .tc u3) ?_)))
  refine Yg I (Nt (Cd I (fun hc28 => ?_) (fun hc28 => by exfalso; (try simp only [sB] at hc28); omega)))
  (try simp only [sB] at hc28)
  refine Cf [0, 1, 2, 3, 4, 5, 6, 7, 8, 9] [10] [0, 0, 0, 0, 0, 0, 0, 0, 0, 0, 2] (by kernel_rfl) (by kernel_rfl) I ?_
  refine Kj I (Ld I I .tc aF) ?_
  refine Kj I (Ja I I I aF (by kernel_rfl : _ = some 1) (by omega)) ?_
  refine Kj I (Ld I I .tc u5) ?_
  refine HP ?_
  refine Kj I (dM I I I (by omega)) (GP ?_); refine Kj I (aU I I I (by omega)) ?_
  refine Kj I (f6 I I I ?_) ?_
  ·omega
  refine Kj I (nz I I I) ?_
  refine WJ.set 37 I (v' := B (UInt8.ofNat (c.toNat % 2 ^ (8 - (8 * Z - nb))))) (by exact congrArg (Value.int .u8) (DL c (8 * Z - nb) (by omega))) ?_
  refine Kj I (Ja I I I aF (by kernel_rfl : _ = some 1) (by omega)) ?_
  refine WJ.nil ?_
  refine Ng I I (st I I I .tc (by kernel_rfl) I ?_ (by rfl)) ?_
  ·(simp; done)
  intro _
  refine Nn ?_
  obtain ⟨y, hy⟩ : ∃ y : Bs, y = (UInt8.ofNat (c.toNat % 2 ^ (8 - (8 * Z - nb))) :: X').take Z := ⟨_, rfl⟩
  have hyl : y.length = Z := by rw [hy, B1, Ay]; omega
  have hya : ae (val y) = l0 sd at_ aa nb := by
   have := yL (sd := sd) (at_ := at_) (a := aa) (nb := nb) (X := c :: X') (x := c.toNat % 2 ^ (8 - (8 * Z - nb))) hZ hZ0 hby (by simp only [Ay]; omega) rfl (by omega) (by omega); rw [← this, hy]; obtain ⟨q, rfl⟩ : ∃ q, Z = q + 1 := ⟨Z - 1, by omega⟩; rfl
  refine Xa (Cq (Cb ?_))
  refine Lo (σ := Bs × (Option Addr) × Nat) [(8, _)] (fun gq => []) (fun gq => cU gq.1 = cU y ∧ gq.1.length ≤ gq.2.2 ∧ gq.1.length ≤ Z) (fun gq => gq.1.length) (fun gq => [⟨some b8, [.slice gq.2.1 gq.1.length gq.2.2], 210⟩]) (fun gq => [Fact.sl gq.2.1 (gq.1.map B), Fact.dfr D1]) (y, some ⟨bb, 0, none⟩, (c :: X').length + q2.length) (S1 I) (S0 _) (by (try dsimp only); exact ⟨rfl, by rw [hyl]; simp only [Ay]; omega, by omega⟩) (by exact fun w h => by dsimp only; rw [hyl]; exact aq _ (h.freeze (off := 0) (xs := y.map B) (fun i hi => by
    have hi' : i < Z := by rw [Ag, hyl] at hi; exact hi
    show ((B (UInt8.ofNat (c.toNat % 2 ^ (8 - (8 * Z - nb)))) :: (X'.map B ++ q2)) : List Value)[0 + i]? = _; rw [hy, List.map_take, Cv, Ae hi', A3]; show (((UInt8.ofNat (c.toNat % 2 ^ (8 - (8 * Z - nb))) :: X').map B ++ q2) : List Value)[i]? = _
    rw [B2 (by simp; omega)]))) ?_
  rintro ⟨t, a', cp⟩ hinv1; (try dsimp only at hinv1 ⊢)
  obtain ⟨ht, htc, htb⟩ := hinv1
  refine Cq (Cs (Hx ?_))
  refine Yo I aF (Yg I (Km I (Nc 42 I (fun hg42 => ?_) (fun hg42 => ?_))))
  ·refine Hx ?_; refine Kq I (Ib I I I aF (by omega) (by (rw [Ag]; omega))) ?_; refine Kq I (ldm I I u5 I (by omega)) ?_; refine Yi I (Yp I (Nt (Ci I (fun hc47 => ?_) (fun hc47 => ?_))))
   ·have hz : (t.getD 0 default).toNat = 0 := by (simp at hc47; exact hc47)
    refine Ck (Xa (Cb (Cg (Hx ?_)))); refine Kq I (kT I I I aF (by kernel_rfl : _ = some 1) (by omega) (by (try simp only [sN, Int.reduceToNat, Nat.reduceAdd, Nat.reduceMul, Nat.reduceSub]); rfl) (by (try simp only [sN, Int.reduceToNat, Nat.reduceAdd, Nat.reduceMul, Nat.reduceSub]); rfl) (by (try simp only [sN, Int.reduceToNat, Nat.reduceAdd, Nat.reduceMul, Nat.reduceSub]); rfl)) ?_; refine Ns 49 I (v' := .slice (cut a' 1 cp 1) (t.drop 1).length (cp - 1)) (by rw [C2]) ?_; refine Ng I I (st I I I .tc (by kernel_rfl) I ?_ (by (simp only [Bf, Bg]; rfl))) ?_
    ·(simp; done)
    intro _; refine Nn (Xd (Lx ((t.drop 1, cut a' 1 cp 1, cp - 1)) (by simp only [C2]; omega) (S1 I) (S0 _) ?_ (by exact fun w h => (h.add (f := Fact.sl (cut a' 1 cp 1) ((t.drop 1).map B)) (ka 1 htc (h.fact (Fact.sl a' (t.map B)) (by simp)))).sub (Ax _) (fun f hf => by simp only [Be, D3, or_false] at hf ⊢; rcases hf with h | h <;> simp [h])))); (try dsimp only); exact ⟨by rw [← kE (by omega) hz]; exact ht, by simp only [C2]; omega, by simp only [C2]; omega⟩
   ·refine Fq ?_; refine Xa (Cs (Hx ?_)); refine Kq I (s6 I I .tc aF u5 u22 ?_) ?_
    ·rfl
    refine le ?_; exact WX.retM1 hD1 I (.tmp I .nil) fun w' hS => ⟨by rw [← hya, show ae (val y) = t from by rw [← dH, ← ht, dI (by (exact .inr (fun h0 => hc47 (by show ((t.getD 0 default).toNat : Int) = 0; omega))))]]; rfl, hS.below⟩
  ·refine T4 I (Yq I (Fx (fun _ => ?_))); refine Fq ?_; refine Xa (Cs (Hx ?_)); refine Kq I (s6 I I .tc aF u5 u22 ?_) ?_
   ·rfl
   refine le ?_; exact WX.retM1 hD1 I (.tmp I .nil) fun w' hS => ⟨by rw [← hya, show ae (val y) = t from by rw [← dH, ← ht, dI (by (exact .inl (by omega)))]]; rfl, hS.below⟩
def aJ : Tp := ⟨[], [], 0⟩
def iY (t : Tp) (n : Bs) : Nat → Nat → Option Bs
 | 0, _ => none
 | f + 1, a => if fg (l0 t.seed t.at_.toNat a (aL n)) n < 0 then some (l0 t.seed t.at_.toNat a (aL n)) else iY t n f (a + 1)
def aO (t : Tp) (n : Bs) : Bs × Tp × Int :=
 if t.at_ < t.vals.length then (if 0 ≤ fg (t.vals.getD t.at_.toNat default) n then ([], aJ, 2) else (t.vals.getD t.at_.toNat default, ⟨t.vals, t.seed, t.at_ + 1⟩, 0))
 else if t.seed = [] ∨ t.at_ = 2147483647 then ([], aJ, 14)
 else match iY t n 256 0 with
  | some x => (x, ⟨t.vals, t.seed, t.at_ + 1⟩, 0)
  | none => ([], aJ, 14)
theorem rf {r : Bs × Tp × Int} {n : Int} {ok : Nat → Prop} {w0 w : World} {own : List Ent} {fs : List Fact} {T : TypeId} (hr : r = ([], aJ, n)) (hS : St ok w0 own fs w) :
  ∃ g : Rs, Ending.returned (tup [.string (S []), .agg #[.slice none 0 0, .string (S []), .int .i64 0], .int .i64 n]) = Ending.returned (.tuple #[.string (S r.1), r.2.1.v (g.val r.2.1.vals.length), .int .i64 r.2.2]) ∧ g.cap = r.2.1.vals.length + g.sp.length ∧ St ok w0 [g.ent (am r.2.1.vals) T] [] w := by
 subst hr
 exact ⟨⟨none, 0, []⟩, rfl, rfl, (hS.nil T).sub (List.singleton_sublist.2 (by simp [Rs.ent, aJ])) (fun _ h => by cases h)⟩
theorem y3 {r : Bs × Tp × Int} {t : Tp} {x : Bs} {q : Rs} {ok : Nat → Prop} {w0 w : World} {own : List Ent} {fs : List Fact} {T : TypeId} (hr : r = (x, ⟨t.vals, t.seed, t.at_ + 1⟩, 0)) (hq : q.cap = t.vals.length + q.sp.length) (hS : St ok w0 own fs w) (hm : q.ent (am t.vals) T ∈ own) :
  ∃ g : Rs, Ending.returned (tup [.string (S x), .agg #[q.val t.vals.length, .string (S t.seed), .int .i64 (t.at_ + 1)], .int .i64 0]) = Ending.returned (.tuple #[.string (S r.1), r.2.1.v (g.val r.2.1.vals.length), .int .i64 r.2.2]) ∧ g.cap = r.2.1.vals.length + g.sp.length ∧ St ok w0 [g.ent (am r.2.1.vals) T] [] w := by
 subst hr
 exact ⟨q, rfl, hq, hS.sub (List.singleton_sublist.2 hm) (fun _ h => by cases h)⟩
theorem sH {t : Tp} {n : Bs} {a : Nat} (h : a < 256) (hc : fg (l0 t.seed t.at_.toNat a (aL n)) n < 0) : iY t n (256 - a) a = some (l0 t.seed t.at_.toNat a (aL n)) := by
 rw [show 256 - a = (255 - a) + 1 by omega, iY, Ae hc]
theorem pV {t : Tp} {n : Bs} {a : Nat} (h : a < 256) (hc : ¬ fg (l0 t.seed t.at_.toNat a (aL n)) n < 0) : iY t n (256 - a) a = iY t n (256 - (a + 1)) (a + 1) := by
 rw [show 256 - a = (256 - (a + 1)) + 1 by omega, iY, Aa hc]
theorem pX {t : Tp} {n : Bs} {a : Option Addr} {cap : Nat} {w : World} {ok : Nat → Prop} (hF1 : (Fact.sl a (am t.vals)).holds ok w) (hl : t.vals.length ≤ 100000) (hg : cr t) (hn : okN n) (hn0 : n ≠ []) (hsd : t.seed.length ≤ 400000) (hT : Tab w) :
  Calls Tryz.prog 144 #[t.v (.slice a t.vals.length cap), .string (S n)] w fun e w' => ∃ g : Rs, e = .returned (.tuple #[.string (S (aO t n).1), (aO t n).2.1.v (g.val (aO t n).2.1.vals.length), .int .i64 (aO t n).2.2]) ∧ g.cap = (aO t n).2.1.vals.length + g.sp.length ∧ St (fun _ => True) w [g.ent (am (aO t n).2.1.vals) 22] [] w' := by
 have hg1 := hg.1; have hg2 := hg.2.1
 have hbp := sU hn hn0
 have hbl := gA hn.1
 have hq : (⟨some 0, t.vals.length, []⟩ : Rs).cap = t.vals.length + (⟨some 0, t.vals.length, []⟩ : Rs).sp.length := rfl
 refine En [Fact.sl a (am t.vals)] [(0, t.v (.slice a t.vals.length cap)), (1, .string (S n))] Tryz.func144 I Tryz.ntmps144 I (Ac I (Ac I (An _))) (Fc (af hF1) Fn) (Eq ?_)
 intro b2
 refine Ka I (FP ?_)
 intro b5
 refine Ka I (Nt (Cq (WC.joinP (σ := Unit) [(1, _), (2, _), (5, _)] (fun gq => [(26, .bool (decide (t.at_ < t.vals.length ∧ 0 ≤ fg (t.vals.getD t.at_.toNat default) n)))]) (fun gq => True) (S3 I I I) ?_ ?_)))
 ·skip
  refine Cg (HY ?_)
  refine Hj ?_
  refine Yo I u33 (Yl I (Km I (Nc 16 I (fun hg16 => ?_) (fun hg16 => ?_))))
  ·refine Kf 0 I u35 I I I .tc u33 ?_; refine Kf 2 I u35 I I I .tc u3 ?_; refine Kq I (Ib I I I u33 (by omega) (by (rw [Ag]; omega))) ?_; refine Kq I (ldm I I u22 I (by omega)) ?_; refine Km I (Kc I (fun w hS => cZ (a := t.vals.getD t.at_.toNat default) (b := n)) (Yh I (Yp I (Nn (WX.joinP (()) (S3 I I I) (by refine (Sc ?_ (S0 _)) <;> ((refine ao rfl ?_; (try dsimp only); (exact Ak.2 (by omega))))) ?_ (fun _ h => h)))))); (try dsimp only); done
  ·refine T4 I (T4 I (Kt I (Yq I (Nn (WX.joinP (()) (S3 I I I) (by refine (Sc ?_ (S0 _)) <;> ((exact congrArg (fun b => some (Value.bool b)) (by symm; apply Aj; omega)))) ?_ (fun _ h => h)))))); (try dsimp only); done
 ·rintro _ hmeet; (try dsimp only at hmeet ⊢)
  refine Ci I (fun hc26 => ?_) (fun hc26 => ?_)
  ·refine Cs (FJ ?_); refine Ka I (FF ?_); refine le ?_; refine Xb ?_; exact Rn I (.tmp I (.agg I .tc u35 I (by kernel_rfl) (.tmp I .nil))) fun w' hS => rf (by rw [aO, Ae hc26.1, Ae hc26.2]) hS
  ·refine Ck (Xa (Cq (WC.joinP (σ := Unit) [(1, _), (2, _), (5, _)] (fun gq => [(43, .bool (decide (((t.vals.length : Int) ≤ t.at_ ∧ t.seed = []) ∨ t.at_ = 2147483647)))]) (fun gq => True) (S3 I I I) ?_ ?_)))
   ·skip
    refine Cg (HY ?_); refine Hj ?_; refine Yo I u33 (Yh I (Km I (Nc 34 I (fun hg34 => ?_) (fun hg34 => ?_))))
    ·refine Kf 1 I u35 I I I .tc u9 ?_; refine Ys I (Yp I (Km I (Nc 39 I (fun hg39 => ?_) (fun hg39 => ?_))))
     ·refine T2 I (Kt I (Yp I (Nn (WX.joinP (()) (S3 I I I) (by refine (Sc ?_ (S0 _)) <;> ((refine ao rfl ?_; (try dsimp only); (simp [*]; done)))) ?_ (fun _ h => h))))); (try dsimp only); done
     ·refine Kf 2 I u35 I I I .tc u3 ?_; refine Yi I (Yq I (Nn (WX.joinP (()) (S3 I I I) (by refine (Sc ?_ (S0 _)) <;> ((refine ao rfl ?_; (try dsimp only); (simp [*]; done)))) ?_ (fun _ h => h)))); (try dsimp only); done
    ·refine T2 I (Kt I (Yq I (Km I (Kf 2 I u35 I I I .tc u3 ?_)))); refine Yi I (Yq I (Nn (WX.joinP (()) (S3 I I I) (by refine (Sc ?_ (S0 _)) <;> ((refine ao rfl ?_; (try dsimp only); (exact Ak.2 (by omega))))) ?_ (fun _ h => h)))); (try dsimp only); done
   ·rintro _ hmeet; (try dsimp only at hmeet ⊢); refine Ci I (fun hc43 => ?_) (fun hc43 => ?_)
    ·refine Cs (FJ ?_); refine Ka I (FF ?_); refine le ?_; refine Xb ?_; exact Rn I (.tmp I (.agg I .tc u35 I (by kernel_rfl) (.tmp I .nil))) fun w' hS => rf (by rcases hc43 with h | h; rw [aO, Aa (by omega), Ae (Or.inl h.2)]; rw [aO, Aa (by omega), Ae (Or.inr h)]) hS
    ·refine Ck (Xa (Cq (Cf [0, 1, 2, 3, 4, 5, 6, 7, 8, 9, 10] [11] [0, 0, 0, 3, 0, 0, 0, 0, 0, 0, 3, 2] (by kernel_rfl) (by kernel_rfl) I ?_))); refine Kj I (Fa (q := 0) I I u35 I I) (Kj I (Ld I I .tc u33) ?_); refine Kj I (dN I I u33) ?_; refine Jf I I I I I (q5 I I I u33 (by kernel_rfl : _ = some (some (.string (S [])), 1, 16)) I ?_ (by (try simp only [sN, Int.reduceToNat, Nat.reduceAdd, Nat.reduceMul, Nat.reduceSub]); rfl) (by (try simp only [sN, Int.reduceToNat, Nat.reduceAdd, Nat.reduceMul, Nat.reduceSub]); rfl)) ?_
     ·omega
     intro b48; refine Kj I (Fa (q := 1) I I u35 I I) (Kj I (Ld I I .tc u9) ?_); refine Kj I (Fa (q := 2) I I u35 I I) (HP ?_); refine Kj I (bB I I I (by omega)) (Kj I (Kb [[.slice none 0 0], [.string (S [])], [.int .i64 0]] I I) ?_); refine Jf I I I I I (cG I (v := (.agg #[.slice none 0 0, .string (S []), .int .i64 0])) (cs := [.slice none 0 0, .string (S []), .int .i64 0]) (by kernel_rfl) I) ?_; intro b7; refine WJ.nil ?_; refine FF ?_; refine Nt (Cs (Hj ?_)); refine Hj ?_; refine Kh I (EG I I I .tc u33 (by kernel_rfl) (m := t.vals.length) (by simp) (by simp) (fun w hS => hS.sl) (by intro u hu; obtain ⟨_, _, rfl⟩ := Ch.1 hu; rfl) (by simp) (ys := am t.vals) (by simp)) ?_; intro _; refine Nt (Cq (Cs (HY ?_))); refine Hj ?_; refine Yo I u33 (F7 (fun hc65 => ?_) (fun hc65 => ?_))
     ·refine Cq (Cf [0, 1, 2, 3, 4, 5, 6, 7] [8, 9] [0, 0, 0, 0, 0, 0, 0, 0, 2, 2] (by kernel_rfl) (by kernel_rfl) I ?_); refine Kj I (Fa (q := 0) I I u35 I I) (Kj I (Ld I I .tc u33) ?_); refine Kj I (Fa (q := 2) I I u35 I I) (HP ?_); refine GD ?_; refine Kj I (ldm I I u22 I (by omega)) ?_; refine Kj I (lda I I .tc u35 I ?_) ?_
      ·kernel_rfl
      refine GR ?_; refine WJ.nil ?_; refine FF ?_; refine le ?_; refine Xb ?_; exact Rn I (.tmp I (.agg I .tc u35 I (by kernel_rfl) (.tmp I .nil))) fun w' hS => y3 (q := ⟨some b48, t.vals.length, []⟩) (by rw [aO, Ae (by omega), Aa (fun h => hc26 ⟨by omega, h⟩)]) I hS (by simp [Rs.ent])
     ·have h27 : ¬ t.at_ < t.vals.length := by omega
      have h52 : ¬ (t.seed = [] ∨ t.at_ = 2147483647) := fun h => hc43 (h.elim (fun h => Or.inl ⟨by omega, h⟩) Or.inr)
      refine GO ?_; refine Nt (Cb (Lp (σ := Nat) [(1, _), (2, _), (5, _), (7, _)] (fun gq => [(73, .int .i64 (gq : Int))]) (fun gq => gq ≤ 256 ∧ iY t n (256 - gq) gq = iY t n 256 0) (fun gq => 256 - gq) (0) (S4 I I I I) (S1 I) (by (try dsimp only); exact ⟨by omega, rfl⟩) ?_)); rintro k hinv1; (try dsimp only at hinv1 ⊢); obtain ⟨hk, hfi⟩ := hinv1; refine ne (fun hc74 => ?_) (fun hc74 => ?_)
      ·refine FO ?_; refine Km I (Ka I (Nt (Cq (Cf [2, 3, 0, 1, 4, 5] [] [0, 0, 0, 1, 1, 0] (by kernel_rfl) (by kernel_rfl) I ?_)))); refine GP ?_; refine Jv I I I I I (fun ext => Oc I I (Kv fun w hS => og (a := n))) ?_; refine WJ.set 79 I (v' := .int .i64 ((aL n : Nat) : Int)) (congrArg (Value.int .i64) (by rw [Ae hn])) ?_; refine Kj I (lda I I .tc u35 I ?_) ?_
       ·kernel_rfl
       refine WJ.set 76 I (v' := .agg #[.slice a t.vals.length cap, .string (S t.seed), .int .i64 ((t.at_.toNat : Nat) : Int)]) (by rw [Ea hg1]) ?_; refine GP ?_; refine Jv I I I I I (fun ext => Oc I I (Kv fun w hS => s8 (sd := t.seed) (at_ := t.at_.toNat) (aa := k) (nb := aL n) (by assumption) (by omega) (by omega) (by assumption) (by omega) (by (exact bW hT hS)))) ?_; refine GR ?_; refine WJ.nil ?_; refine Nt (Hd ?_); refine Kc I (fun w hS => cZ (a := l0 t.seed t.at_.toNat k (aL n)) (b := n)) (F7 (fun hc84 => ?_) (fun hc84 => ?_))
       ·refine Cq (Cf [0, 1, 2] [3, 4] [0, 0, 0, 2, 2] (by kernel_rfl) (by kernel_rfl) I ?_); refine GP ?_; refine Kj I (lda I I .tc u35 I ?_) ?_
        ·kernel_rfl
        refine GR ?_; refine WJ.nil ?_; refine FF ?_; refine le ?_; refine FE ?_; exact Rn I (.tmp I (.agg I .tc u35 I (by kernel_rfl) (.tmp I .nil))) fun w' hS => y3 (q := ⟨some b48, t.vals.length, []⟩) (by rw [aO, Aa h27, Aa h52, ← hfi, sH (by omega) hc84]) I hS (by simp [Rs.ent])
       ·refine Ck (Xd (Xa (Cg (Kq I (Rz I I I (by omega)) (Km I (Nn (Ly (k + 1) (by (try dsimp only); omega) (S4 I I I I) (by refine (Sc ?_ (S0 _)) <;> (rfl)) ?_ (fun _ h => h)))))))); (try dsimp only); exact ⟨by omega, by rw [← pV (by omega) (by omega)]; exact hfi⟩
      ·refine Fq ?_; obtain rfl : k = 256 := by omega
       refine Xa (Cs (FJ ?_)); refine Ka I (FF ?_); refine le ?_; exact Rn I (.tmp I (.agg I .tc u35 I (by kernel_rfl) (.tmp I .nil))) fun w' hS => rf (by rw [aO, Aa h27, Aa h52, ← hfi]; rfl) hS
def bf (t : Tp) (n : Bs) : Int := if cr t ∧ okN n then (if n = [] then 11 else 0) else 3
theorem kF {t : Tp} {n : Bs} {a : Option Addr} {cap : Nat} {w : World} {ok : Nat → Prop} (hF1 : (Fact.sl a (am t.vals)).holds ok w) (hl : t.vals.length ≤ 100000) :
  Cw 143 #[t.v (.slice a t.vals.length cap), .string (S n)] w (.int .i64 (bf t n)) := by
 refine En [Fact.sl a (am t.vals)] [(0, t.v (.slice a t.vals.length cap)), (1, .string (S n))] Tryz.func143 I Tryz.ntmps143 I (Ac I (Ac I (An _))) (Fc (af hF1) Fn) (Eq ?_)
 intro b2
 refine Ka I (Nt (Cq (Cs (Kq I (lda I I .tc u35 I ?_) ?_))))
 ·kernel_rfl
 refine Kc I (fun w hS => BG (t := t) (by (exact hS.sl)) (by omega)) (Yt I (Km I (Nc 8 I (fun hg8 => ?_) (fun hg8 => ?_))))
 ·refine T2 I (Kt I (Yp I (Nt (Cd I (fun _ => ?_) (fun h => by cases h)))))
  refine Cs (le ?_); refine Xb ?_
  exact R1 I I (by rw [bf, Aa (by simp_all)]; rfl)
 ·refine GM (fun hc12 => ?_) (fun hc12 => ?_)
  ·refine Cs (le ?_); refine Xb ?_; exact R1 I I (by rw [bf, Aa (by simp_all)]; rfl)
  ·have hgn : cr t ∧ okN n := by simp_all
   refine GO ?_; refine Hh (fun hc14 => ?_) (fun hc14 => ?_)
   ·refine Cs (le ?_); refine Xb ?_; exact R1 I I (by rw [bf, Ae hgn, Ae (by simpa using hc14)]; rfl)
   ·refine Ck (Xa (Cs (le ?_))); exact R1 I I (by rw [bf, Ae hgn, Aa (by simpa using hc14)]; rfl)
def ci (t : Tp) (n : Bs) : Bs × Tp × Int := if bf t n ≠ 0 then ([], aJ, bf t n) else aO t n
theorem kP {t : Tp} {n : Bs} (h : bf t n = 0) : cr t ∧ okN n ∧ n ≠ [] := by
 unfold bf at h
 split at h
 ·rename_i h1
  split at h
  ·cases h
  ·rename_i h2; exact ⟨h1.1, h1.2, h2⟩
 ·cases h
theorem yK {t : Tp} {n : Bs} {a : Option Addr} {cap : Nat} {w : World} {ok : Nat → Prop} (hF1 : (Fact.sl a (am t.vals)).holds ok w) (hl : t.vals.length ≤ 100000) (hsd : t.seed.length ≤ 400000) (hT : Tab w) :
  Calls Tryz.prog 151 #[t.v (.slice a t.vals.length cap), .string (S n)] w fun e w' => ∃ g : Rs, e = .returned (.tuple #[.string (S (ci t n).1), (ci t n).2.1.v (g.val (ci t n).2.1.vals.length), .int .i64 (ci t n).2.2]) ∧ g.cap = (ci t n).2.1.vals.length + g.sp.length ∧ St (fun _ => True) w [g.ent (am (ci t n).2.1.vals) 22] [] w' := by
 refine En [Fact.sl a (am t.vals)] [(0, t.v (.slice a t.vals.length cap)), (1, .string (S n))] Tryz.func151 I Tryz.ntmps151 I (Ac I (Ac I (An _))) (Fc (af hF1) Fn) (Eq ?_)
 intro b2
 refine Ka I (FP ?_)
 intro b5
 refine Ka I (Nt (Cq (Cs (Kq I (lda I I .tc u35 I ?_) ?_))))
 ·kernel_rfl
 refine Km I (Kc I (fun w hS => kF (t := t) (n := n) (by (exact hS.sl)) (by assumption)) (Ka I (Nt (Fz (fun hc12 => ?_) (fun hc12 => ?_)))))
 ·have hr : ci t n = ([], aJ, bf t n) := by rw [ci, Ae (by simpa using hc12)]
  refine Cs (FJ ?_); refine Km I (Ka I (FF ?_)); refine le ?_; refine Xb ?_
  exact Rn I (.tmp I (.agg I .tc u35 I (by kernel_rfl) (.tmp I .nil))) fun w' hS => rf hr hS
 ·have hrd : bf t n = 0 := by simpa using hc12
  have hr : ci t n = aO t n := by rw [ci, Aa (by simp [hrd])]
  obtain ⟨k1, k2, k3⟩ := kP hrd
  refine Ck (Xa (Cs (Kq I (lda I I .tc u35 I ?_) ?_)))
  ·kernel_rfl
  refine Km I (Kh I (Oc I I (nQ fun w hS => pX (t := t) (n := n) (by (exact hS.sl)) (by assumption) (by assumption) (by assumption) (by assumption) (by assumption) (by (exact bW hT hS)))) ?_)
  intro g17
  refine WL.pu ?_
  intro hg17; (try dsimp only at hg17 ⊢)
  refine Ye I (Ye I (Ye I (Ka I (FF ?_)))); refine le ?_
  exact Rn I (.tmp I (.agg I .tc u35 I (by kernel_rfl) (.tmp I .nil))) fun w' hS => ⟨g17, by rw [hr]; rfl, by rw [hr]; exact hg17, by rw [hr]; exact aq _ hS⟩
end Go.Proofs.YtchonigdjamphaaGreatDoor
