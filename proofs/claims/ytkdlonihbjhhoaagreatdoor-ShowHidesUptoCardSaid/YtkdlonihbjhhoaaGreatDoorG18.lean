/-
  Parts of the walk: Shp Dec Itoa Coi2 Coi3 Apps Coi4 Coi5 Coi6 Cbl Egp Shs.
-/
import Derived.Test.YtkdlonihbjhhoaaGreatDoorG17
import Derived.Lib.ItoaNum
import Derived.Lib.AppendStr
namespace Go.Proofs.YtkdlonihbjhhoaaGreatDoor
open Go.RowKit
set_option linter.unusedSimpArgs false
set_option linter.unusedVariables false
set_option maxHeartbeats 600000
set_option maxRecDepth 20000
def fR : List Bs → Nat → List Tm
 | [], _ => []
 | b :: l, i => trm b i :: fR l (i + 1)
theorem ik : ∀ (l : List Bs) (i : Nat), (fR l i).length = l.length
 | [], _ => rfl
 | b :: l, i => by rw [fR, Ar, Ar, ik l]
theorem nQ : ∀ (l m : List Bs) (i : Nat), fR (l ++ m) i = fR l i ++ fR m (i + l.length)
 | [], m, i => by simp [fR]
 | b :: l, m, i => by rw [List.cons_append, fR, fR, nQ l, List.cons_append, Ar]; congr 3; omega
def pfL (m : Nat) (bs : List Bs) (es : List Zs) : Nat := aD (fun p : Bs × Zs => db m (val p.1) (zv p.2)) (bs.zip es)
theorem rP {g : Gp} {bs : List Bs} {es : List Zs} (hg : aU g = 0) (hb : ∀ x ∈ bs, elG g x) (he : ∀ x ∈ es, okZ x) (hl : bs.length = es.length) :
  bL g bs es = (ae (pfL (val g.1) bs es % val g.1), 0) := by
 have h0 : dO g bs es (decide (bs.length = es.length)) = 0 := by
  rw [dO, Aa (fun h => h fun x hx => (hb x hx).1), Aa (fun h => h he), Aa (fun h => h hg), Aa (by simpa using hl), Aa (fun h => h hb)]
 rw [bL, Ab h0]; rfl
theorem xR {n : Nat} (h : ¬ n < 10) : Lib.decDigits n = Lib.decDigits (n / 10) ++ [UInt8.ofNat (48 + n % 10)] := by rw [Lib.decDigits, dif_neg h]
theorem mm {n : Nat} (h : n < 10) : Lib.decDigits n = [UInt8.ofNat (48 + n)] := by rw [Lib.decDigits, dif_pos h]
theorem gO : ∀ (k n : Nat), n < 10 ^ (k + 1) → (Lib.decDigits n).length ≤ k + 1
 | 0, n, h => by rw [mm (by simpa using h)]; simp
 | k + 1, n, h => by
  by_cases h' : n < 10
  ·rw [mm h']; simp
  ·rw [xR h', A5]; have := gO k (n / 10) (by rw [As] at h; omega); simp; omega
abbrev Tab (w : World) : Prop := Lib.TabIs Tryz.prog w "internal/strconv.uint64pow10" .u64 Lib.pow10Tab
theorem ro {w w' : World} (h : Tab w) (hb : Below w.heap.size w w') : Tab w' := by
 have h' : w.var? Tryz.prog "internal/strconv.uint64pow10" = some (Lib.pow10Tab.map fun z => Value.int .u64 z).toArray := h
 show w'.var? Tryz.prog "internal/strconv.uint64pow10" = _
 unfold World.var? at h' ⊢
 cases hg : Tryz.prog.globalNamed "internal/strconv.uint64pow10" with
 | none => rw [hg] at h'; cases h'
 | some g =>
  rw [hg] at h'
  simp only [Option.bind_some] at h' ⊢
  have hlt : g < w.heap.size := by
   rcases Cy g w.heap.size with q | q
   ·exact q
   ·rw [Array.getElem?_eq_none q] at h'; cases h'
  rw [hb.block g hlt]; exact h'
theorem dZ {ok : Nat → Prop} {w0 w : World} {own : List Ent} {fs : List Fact} (h : Tab w0) (hS : St ok w0 own fs w) : Tab w := ro h hS.below
theorem px (w : World) (k : Nat) (os : Array Obj) : Below w.heap.size w (Sort.grow (w.drewN k) os) := by
 have hh : (Sort.grow (w.drewN k) os).heap = w.heap ++ os := rfl
 refine ⟨rfl, rfl, rfl, by rw [hh]; simp, fun q hq => ?_⟩
 rw [hh, Array.getElem?_append_left hq]
theorem pw {n : Nat} {w : World} (hn : n ≤ 9223372036854775807) (hT : Tab w) :
  Cw 231 #[.int .i64 (n : Int)] w (.string (S (Lib.decDigits n))) :=
 (uy n (by omega) (by omega) w hT).mono fun _ _ ⟨h1, k, os, h2⟩ => ⟨by rw [h1, Lib.itoa, Aa (by omega), At]; rfl, by rw [h2]; exact px w k os⟩
theorem nm (k s : Bs) : (mac k s).length = 32 := gw _
def uk (at_ a b : Nat) : Bs := Lib.decDigits at_ ++ [46] ++ Lib.decDigits a ++ [46] ++ Lib.decDigits b
def gm (sd : Bs) (at_ a b : Nat) : Bs := mac sd (uk at_ a b)
def lH (sd : Bs) (at_ a : Nat) : Nat → Bs
 | 0 => []
 | k + 1 => lH sd at_ a k ++ gm sd at_ a k
theorem ln (sd : Bs) (at_ a : Nat) : ∀ k, (lH sd at_ a k).length = 32 * k
 | 0 => rfl
 | k + 1 => by rw [lH, A5, ln sd at_ a k, gm, nm]; omega
def pX (nb : Nat) : Nat := (nb + 7) / 8
def nH (sd : Bs) (at_ a nb : Nat) : Bs := (lH sd at_ a ((pX nb + 31) / 32)).take (pX nb)
def lI (sd : Bs) (at_ a nb : Nat) : Bs := ae (val (nH sd at_ a nb) % 2 ^ nb)
theorem uq (c : UInt8) (r : Bs) (x nb : Nat) (hx : x ≤ 8) (hn : nb = 8 * r.length + x) : val (c :: r) % 2 ^ nb = c.toNat % 2 ^ x * 256 ^ r.length + val r := by
 have e : 2 ^ nb = 256 ^ r.length * 2 ^ x := by rw [hn, Bg, Du]
 have h1 := aL r
 rw [val, e, Nat.mod_mul, Aj c.toNat, Nat.mul_add_mod, Ah h1, Cn (jl _), Bh h1, Ba, Aj (c.toNat % 2 ^ x)]
 omega
theorem yd {sd X : Bs} {at_ a nb Z x : Nat} (hZ : Z = pX nb) (hZ0 : 1 ≤ Z) (hby : nH sd at_ a nb = X.take Z) (hX : Z ≤ X.length) (hx : x = (X.getD 0 default).toNat % 2 ^ (8 - (8 * Z - nb))) (hnb : nb ≤ 8 * Z) (hnb2 : 8 * Z < nb + 8) :
  ae (val ([UInt8.ofNat x] ++ (X.take Z).drop 1)) = lI sd at_ a nb := by
 have e : X.take Z = X.getD 0 default :: (X.take Z).drop 1 := by
  cases X with
  | nil => simp at hX; omega
  | cons c s => obtain ⟨q, rfl⟩ : ∃ q, Z = q + 1 := ⟨Z - 1, by omega⟩; rfl
 have hl : ((X.take Z).drop 1).length = Z - 1 := by rw [Cp, Bp]; omega
 have hc := (X.getD 0 default).toNat_lt
 have hxl : x < 256 := by rw [hx]; exact Bj (Nat.mod_le _ _) hc
 have hm := uq (X.getD 0 default) ((X.take Z).drop 1) (8 - (8 * Z - nb)) nb (by omega) (by rw [hl]; omega)
 rw [lI, hby]
 congr 1
 rw [show val (X.take Z) = val (X.getD 0 default :: (X.take Z).drop 1) by rw [← e], hm, List.singleton_append, val, UInt8.toNat_ofNat', ← hx]
 congr 1
 rw [Ah (by omega)]
def itB {σ : Type} (sd : Bs) (at_ a : Nat) (after : σ → Bs → σ) (stop : σ → Bs → Option Code) : Nat → Nat → σ → σ × Option Code
 | 0, _, s => (s, none)
 | f + 1, b, s => if (stop s (gm sd at_ a b)).isSome then (after s (gm sd at_ a b), stop s (gm sd at_ a b)) else itB sd at_ a after stop f (b + 1) (after s (gm sd at_ a b))
section
variable {σ : Type} {sd : Bs} {at_ a : Nat} {after : σ → Bs → σ} {stop : σ → Bs → Option Code} {K b : Nat} {s : σ}
theorem ou (h : b < K) (hs : (stop s (gm sd at_ a b)).isSome = true) : itB sd at_ a after stop (K - b) b s = (after s (gm sd at_ a b), stop s (gm sd at_ a b)) := by
 rw [show K - b = (K - b - 1) + 1 by omega, itB, Ab hs]
theorem uz (h : b < K) (hs : stop s (gm sd at_ a b) = none) : itB sd at_ a after stop (K - b) b s = itB sd at_ a after stop (K - (b + 1)) (b + 1) (after s (gm sd at_ a b)) := by
 rw [show K - b = (K - (b + 1)) + 1 by omega, itB, Aa (by simp [hs])]
theorem zE (h : b ≤ K) {s0 : σ} (hi : itB sd at_ a after stop (K - b) b s = itB sd at_ a after stop K 0 s0) (hs : (itB sd at_ a after stop K 0 s0).2.isSome = true) : b < K := by
 rcases Cy b K with q | q
 ·exact q
 ·rw [← hi, show K - b = 0 by omega, itB] at hs; cases hs
end
theorem vp {t : Tp} {x : Value} {a : Int} {own0 : List Ent} {ok : Nat → Prop} {w0 : World} {fs : List Fact} {w : World} (hS0 : St ok w0 (own0) (fs) w) :
  Calls Tryz.prog 194 #[.agg #[x, .string (S t.seed), .int .i64 t.at_], .int .i64 a] w fun e w' => ∃ g : Nat × Nat, e = .returned (.func (.func 230) #[] #[.pointer (some ⟨g.1, 0, none⟩), .pointer (some ⟨g.2, 0, none⟩)]) ∧ St ok w0 (⟨some g.2, [.int .i64 a], 3⟩ :: ⟨some g.1, [x, .string (S t.seed), .int .i64 t.at_], 41⟩ :: own0) fs w' := by
 refine enter (S := St ok w0 (own0) (fs)) (L := [(0, .agg #[x, .string (S t.seed), .int .i64 t.at_]), (1, .int .i64 a)]) Tryz.func194 rfl Tryz.ntmps194 rfl (Ac rfl (Ac rfl (An _))) hS0 ?_
 refine DO ?_
 intro b2
 refine EW ?_
 intro b3
 refine Gq ?_; refine to ?_
 exact Rn I (.tmp I .nil) fun w' hS => ⟨(b2, b3), rfl, hS⟩
theorem CE {σ γ : Type} {CO : σ → γ → List Ent} {pg : σ → γ → Prop} {inv : σ → Bs → Prop} {after : σ → Bs → σ} {stop : σ → Bs → Option Code} {l : Nat} {r : Loop} {ok : Nat → Prop} {w0 : World} {fs : List Fact} {w : World} {sd : Bs} {x : Value} {at_ a : Nat} {b1 b2 : Nat} {s0 : σ} {K : Nat} [∀ s g, HasE (CO s g) b1 [x, .string (S sd), .int .i64 (at_ : Int)] 41] [∀ s g, HasE (CO s g) b2 [.int .i64 (a : Int)] 3] {g0 : γ} (hY : YOk Tryz.prog l r ok w0 fs CO pg inv after stop (fun s : Bs => #[Value.string (S s)])) (hS0 : St ok w0 (CO s0 g0) (Fact.lp l (rcd r none) :: fs) w) (hg0 : pg s0 g0) (hsd : sd.length ≤ 400000) (hat : at_ ≤ 4294967296) (ha : a ≤ 1000) (hK : K ≤ 100000) (hinv : ∀ s x, x.length = 32 → inv s x) (hstop : (itB sd at_ a after stop K 0 s0).2.isSome = true) (hT : Tab w0) :
  Calls Tryz.prog 230 #[.func (.yield l) #[] #[], .pointer (some ⟨b1, 0, none⟩), .pointer (some ⟨b2, 0, none⟩)] w fun e w' => (∃ v, e = .returned v) ∧ ∃ g', ((itB sd at_ a after stop K 0 s0).2 = none → pg ((itB sd at_ a after stop K 0 s0).1) g') ∧ St ok w0 (CO ((itB sd at_ a after stop K 0 s0).1) g') (Fact.lp l (rcd r ((itB sd at_ a after stop K 0 s0).2)) :: fs) w' := by
 have hd1 := gO 18 at_ (by omega); have hd2 := gO 18 a (by omega)
 refine enter (S := St ok w0 (CO s0 g0) (Fact.lp l (rcd r none) :: fs)) (L := [(0, .func (.yield l) #[] #[]), (1, .pointer (some ⟨b1, 0, none⟩)), (2, .pointer (some ⟨b2, 0, none⟩))]) Tryz.func230 rfl Tryz.ntmps230 rfl (Ac rfl (Ac rfl (Ac rfl (An _)))) hS0 ?_
 refine Cs (Ka I (Nt (Cb (Lo (σ := Nat × σ × γ) [(0, _), (1, _), (2, _)] (fun gq => [(4, .int .i64 (gq.1 : Int))]) (fun gq => gq.1 ≤ K ∧ pg gq.2.1 gq.2.2 ∧ itB sd at_ a after stop (K - gq.1) gq.1 gq.2.1 = itB sd at_ a after stop K 0 s0) (fun gq => K - gq.1) (fun gq => CO gq.2.1 gq.2.2) (fun gq => Fact.lp l (rcd r none) :: fs) (0, s0, g0) (S3 I I I) (S1 I) (by (try dsimp only); exact ⟨Ai _, hg0, rfl⟩) (fun _ h => h) ?_))))
 rintro ⟨b, s, g⟩ hinv1; (try dsimp only at hinv1 ⊢)
 obtain ⟨hp, hgs, hi⟩ := hinv1
 have hlt := zE hp hi hstop
 have hd3 := gO 18 b (by omega)
 refine Cq (Cb (Cq (Cf [0, 1, 2, 4, 5, 8, 9, 3, 6, 7, 10, 11] [] [0, 0, 1, 0, 0, 1, 0, 0, 0, 1, 0, 0] (by kernel_rfl) (by kernel_rfl) I ?_)))
 (refine Kj I (cX I I u41 I (by kernel_rfl) (by (try simp only [sN, Int.reduceToNat, Nat.reduceAdd, Nat.reduceMul, Nat.reduceSub]); rfl)) ?_)
 refine Kj I (Ld I I .tc u3) ?_
 refine Fw ?_
 refine Kj I (Ld I I .tc u3) ?_
 refine Fw ?_
 refine ER ?_
 refine Fw ?_
 refine Kj I (fY I I I ?_) ?_
 ·((try simp only [A5, Ar, Eb]); omega)
 refine Kj I (fY I I I ?_) ?_
 ·((try simp only [A5, Ar, Eb]); omega)
 refine Kj I (fY I I I ?_) ?_
 ·((try simp only [A5, Ar, Eb]); omega)
 refine Kj I (fY I I I ?_) ?_
 ·((try simp only [A5, Ar, Eb]); omega)
 refine ES ?_
 refine WJ.nil ?_
 refine Nt (Cs (Km I ?_))
 (refine Kq I (cX I I u41 I (by kernel_rfl) (by (try simp only [sN, Int.reduceToNat, Nat.reduceAdd, Nat.reduceMul, Nat.reduceSub]); rfl)) ?_)
 refine Kq I (Ld I I .tc u9) ?_
 refine Km I (Kc I (fun w hS => AX (key := sd) (s := uk at_ a b) (by omega) (by simp only [uk, A5, Ar, Eb]; omega)) (Kh I (dK hY [] (gm sd at_ a b) I I I I (hinv _ _ (nm _ _)) (hgs)) ?_))
 intro gy; refine WL.pu ?_; intro hgy; (refine WL.app0 ?_)
 refine Eq (fun hc25 => ?_) (fun hc25 => ?_)
 ·refine Ce (Xf (Xb (Xb (Xf ?_))))
  exact Rn I .nil fun w' hS => ⟨⟨_, rfl⟩, gy, by rw [← hi, ou hlt (by simpa using hc25)]; exact hgy, by rw [← hi, ou hlt (by simpa using hc25)]; dsimp only; exact au _ hS⟩
 ·have hst : stop s (gm sd at_ a b) = none := by simpa using hc25
  rw [hst]
  refine Ck (Xd (Xa (Cg (Km I (Kq I (Rz I I I (by omega)) (Ka I (Nn (Lx ((b + 1, after s (gm sd at_ a b), gy)) (by (try dsimp only); omega) (S3 I I I) (by refine (Sc ?_ (S0 _)) <;> (rfl)) ?_ (fun _ h => h)))))))))
  (try dsimp only)
  exact ⟨by omega, hgy hst, (uz hlt hst).symm.trans hi⟩
theorem kq (l : List UInt8) : Lib.strCells (S l) = l.map B := by simp [Lib.strCells, S, B]
section
variable {ds : List Deferred} {P : Program} {o : Oper} {n : Nat} {L : ak} {ok : Nat → Prop} {w0 : World} {own : List Ent} {C : Ent → List Ent} {fs : List Fact} {x y : Operand} {t u e : TypeId} {xs : List Value}
theorem tF {w : World} {own : List Ent} {kk : Nat} {ob : Option Nat} {len cap : Nat} {sp : List Value} {l : List UInt8} {ty : TypeId} (hS : St ok w0 own fs w) (hk : own[kk]? = some ⟨ob, xs ++ sp, e⟩)
  (hu : P.underlying t = some (.slice e)) (hv : P.underlying u = some .string) (hi : (P.info? e).map (fun i => (i.zero, i.size, i.bytes)) = some (some (.int .u8 0), 1, 1))
  (hxl : xs.length = len) (hcap : cap = len + sp.length) (hb : len + l.length ≤ 140737488355328) (hzz : ob = none ∨ 0 < cap) :
  ∃ (g : Gr) (w' : World), (Builtin.append_ #[t, u] ty #[.slice (ob.map fun b => ⟨b, 0, none⟩) len cap, .string (S l)]).run P w = .ok (.slice (g.ob.map fun b => ⟨b, 0, none⟩) (len + l.length) g.cap) w' ∧ (g.cap = len + l.length + g.sp.length ∧ (g.ob = none ∨ 0 < g.cap)) ∧ St ok w0 (own.set kk ⟨g.ob, (xs ++ l.map B) ++ g.sp, e⟩) fs w' := by
 obtain ⟨i', hi', hz, hs, hbb⟩ := info_parts hi
 have hsz : (S l).size = l.length := ii l
 have htake : (xs ++ sp).take len = xs := by rw [← hxl]; simp
 have zlen : ∀ q, (Builtin.zeroCells (Value.int .u8 0).cells q).toList = List.replicate q (.int .u8 0) := fun q => ij _ q
 have hsame : own.set kk ⟨ob, xs ++ sp, e⟩ = own := by
  apply C7; intro q
  by_cases hq : kk = q
  ·subst hq; rw [Da (Al.1 hk).1, hk]
  ·rw [Dl hq]
 cases ob with
 | none =>
  have hcs : xs ++ sp = [] := hS.own_ _ (A9 hk)
  obtain ⟨rfl, rfl⟩ : xs = [] ∧ sp = [] := by simpa using hcs
  obtain rfl : len = 0 := by simpa using hxl.symm
  obtain rfl : cap = 0 := by simpa using hcap
  by_cases h0 : l.length = 0
  ·have hl : l = [] := B2 h0; subst hl; refine ⟨⟨none, 0, []⟩, w, ?_, ⟨rfl, .inl rfl⟩, by show St ok w0 (own.set kk ⟨none, [] ++ [], e⟩) fs w; rw [hsame]; exact hS⟩; simp [Builtin.append_, run_underlying hu, run_underlying hv, sizeOf, typeInfo, hi', hs, Builtin.lenOf, S, Builtin.firstCells, ByteArray.size]
  ·have hrun := run_append_nil_string (P := P) w t u ty e i' (.int .u8 0) hu hv hi' hz (S l) (by omega) (by omega) (by rw [hbb, hsz]; omega); rw [hsz] at hrun; refine ⟨⟨some w.heap.size, grownCap w l.length 0 e, List.replicate (grownCap w l.length 0 e - l.length) (.int .u8 0)⟩, _, by simpa using hrun, ?_, ?_⟩
   ·have := grownCap_ge w l.length 0 e; exact ⟨by simp; omega, .inr (by show 0 < grownCap w l.length 0 e; omega)⟩
   ·have := (hS.draw.alloc (l.map B ++ List.replicate (grownCap w l.length 0 e - l.length) (.int .u8 0)) e).replace kk
    have e1 : ((S l).data.map (fun b => Value.int .u8 b.toNat) ++ Builtin.zeroCells (Value.int .u8 0).cells (grownCap w l.length 0 e - l.length)) = (l.map B ++ List.replicate (grownCap w l.length 0 e - l.length) (Value.int .u8 0)).toArray := by
     apply Array.ext'; simp [zlen, S, B]
    simp only [List.nil_append]; rw [e1]; exact this
 | some b' =>
  have hbk := hS.block hk
  by_cases hroom : len + l.length ≤ cap
  ·have hrun := Lib.run_append_room_string (P := P) w t u ty e i' hu hv hi' hs b' len cap (xs ++ sp).toArray hbk (S l) (by omega) (by simp [hsz]; omega); rw [hsz, kq] at hrun; refine ⟨⟨some b', cap, (xs ++ sp).drop (len + l.length)⟩, _, hrun, ?_, ?_⟩
   ·exact ⟨by simp; omega, .inr (hzz.resolve_left (by simp))⟩
   ·have := hS.setRow hk (xs ++ l.map B ++ (xs ++ sp).drop (len + l.length)); simp only [htake]; exact this
  ·have hrun := Lib.run_append_grow_string (P := P) w t u ty e i' (.int .u8 0) hu hv hi' hz ⟨b', 0, none⟩ len cap xs (by rw [hs]; omega) (fun q v hq => by
     rw [Addr.add_lit, Az, dD hbk]
     rw [B5 (Al.1 hq).1]; exact hq) (S l) (by omega) (by omega) (by rw [hbb, hsz]; exact growslice_fits (by omega) (by omega))
   rw [hsz, kq] at hrun; refine ⟨⟨some w.heap.size, grownCap w (len + l.length) cap e, List.replicate (grownCap w (len + l.length) cap e - (len + l.length)) (.int .u8 0)⟩, _, hrun, ?_, ?_⟩
   ·have := grownCap_ge w (len + l.length) cap e; exact ⟨by simp; omega, .inr (by show 0 < grownCap w (len + l.length) cap e; omega)⟩
   ·have := (hS.draw.alloc (xs ++ l.map B ++ List.replicate (grownCap w (len + l.length) cap e - (len + l.length)) (.int .u8 0)) e).replace kk
    have e1 : (xs.toArray ++ (l.map B).toArray ++ Builtin.zeroCells (Value.int .u8 0).cells (grownCap w (len + l.length) cap e - (len + l.length))) = (xs ++ l.map B ++ List.replicate (grownCap w (len + l.length) cap e - (len + l.length)) (Value.int .u8 0)).toArray := by
     apply Array.ext'; simp [zlen]
    rw [e1]; exact this
theorem DM {len cap : Nat} {ob : Option Nat} {sp : List Value} {l : List UInt8} (hop : o.op = .call { callee := .builtin .append, args := #[x, y], argTypes := #[t, u] }) (hu : P.underlying t = some (.slice e)) (hv : P.underlying u = some .string) (hi : (P.info? e).map (fun i => (i.zero, i.size, i.bytes)) = some (some (.int .u8 0), 1, 1))
  (hk : Ctx own ⟨ob, xs ++ sp, e⟩ C) (hx : ag L x = some (.slice (ob.map fun b => ⟨b, 0, none⟩) len cap)) (hy : ag L y = some (.string (S l)))
  (hb : xs.length = len ∧ cap = len + sp.length ∧ len + l.length ≤ 140737488355328 ∧ (ob = none ∨ 0 < cap)) :
  Og ds P o n L (St ok w0 own fs) (fun g : Gr => .slice (g.ob.map fun b => ⟨b, 0, none⟩) (len + l.length) g.cap) (fun g w => (g.cap = len + l.length + g.sp.length ∧ (g.ob = none ∨ 0 < g.cap)) ∧ St ok w0 (C ⟨g.ob, (xs ++ l.map B) ++ g.sp, e⟩) fs w) :=
 bO fun a hF w hS => by
  obtain ⟨kk, hkk, hC⟩ := hk.get
  obtain ⟨g, w', hrun, hp, hS'⟩ := tF (P := P) (ty := o.type) hS hkk hu hv hi hb.1 hb.2.1 hb.2.2.1 hb.2.2.2
  refine ⟨g, w', .inl ?_, hp, by rw [hC]; exact hS'⟩
  simp [execOp, hop, resolve, invoke, builtin, hF.eval hx, hF.eval hy, hrun]
end
section
variable {ds : List Deferred} {ρ : Option Nat} {P : Program} {Q : Exit → Act → World → Prop} {n : Nat} {L : ak} {Z : World → Prop} {p : Prop} {ops rest : List Oper}
theorem WL.know (h : ∀ w, Z w → p) (k : p → WL ds P ops Q n rest L Z) : WL ds P ops Q n rest L Z := fun a w hF hS => k (h w hS) a w hF hS
end
def fI (s x : Bs) : Bs := s ++ x
def eQ (Z : Nat) (s x : Bs) : Option Code := if Z ≤ s.length + x.length then some (.exit 0) else none
theorem qG (sd : Bs) (at_ a Z : Nat) (hZ : 1 ≤ Z) : ∀ (d b : Nat), b + d = (Z + 31) / 32 → 1 ≤ d → itB sd at_ a fI (eQ Z) d b (lH sd at_ a b) = (lH sd at_ a ((Z + 31) / 32), some (.exit 0))
 | 0, b, h, h1 => by omega
 | d + 1, b, h, h1 => by
  have hl := ln sd at_ a b
  have hm : (gm sd at_ a b).length = 32 := nm _ _
  rw [itB]
  by_cases hd : d = 0
  ·subst hd; have hs : eQ Z (lH sd at_ a b) (gm sd at_ a b) = some (.exit 0) := by rw [eQ, Ab (by omega)]
   rw [hs]; simp only [Option.isSome_some, if_true]; rw [← h]; rfl
  ·have hs : eQ Z (lH sd at_ a b) (gm sd at_ a b) = none := by rw [eQ, Aa (by omega)]
   rw [hs, Aa (by simp)]; exact qG sd at_ a Z hZ d (b + 1) (by omega) (by omega)
abbrev ACO (x : Value) (sd : Bs) (at_ a Z : Nat) (g : Nat × Nat) (b8 b7 b3 : Nat) (s : Bs) (q : Option Nat × List Value) : List Ent :=
 [⟨q.1, s.map B ++ q.2, 5⟩, ⟨some g.2, [.int .i64 (a : Int)], 3⟩, ⟨some g.1, [x, .string (S sd), .int .i64 (at_ : Int)], 41⟩, ⟨some b8, [.slice (q.1.map fun b => ⟨b, 0, none⟩) s.length (s.length + q.2.length)], 140⟩, ⟨some b7, [.int .i64 (Z : Int)], 3⟩, ⟨some b3, [x, .string (S sd), .int .i64 (at_ : Int)], 41⟩]
theorem AW (c : UInt8) (d : Nat) (hd : d ≤ 7) : bits .and .u8 (c.toNat : Int) (Int.fdiv 255 (2 ^ (min ((d : Nat) : Int).toNat IntKind.u8.bits))) = ((UInt8.ofNat (c.toNat % 2 ^ (8 - d))).toNat : Int) := by
 have h1 := c.toNat_lt
 have e : Int.fdiv 255 (2 ^ (min ((d : Nat) : Int).toNat IntKind.u8.bits)) = ((2 ^ (8 - d) - 1 : Nat) : Int) := by
  have key : ∀ q, q ≤ 7 → Int.fdiv 255 (2 ^ (min ((q : Nat) : Int).toNat IntKind.u8.bits)) = ((2 ^ (8 - q) - 1 : Nat) : Int) := by decide
  exact key d hd
 have h2 : 2 ^ (8 - d) ≤ 2 ^ 8 := A2 (by decide) (by omega)
 have h3 : c.toNat % 2 ^ (8 - d) < 256 := Bj (Nat.mod_le _ _) h1
 rw [e, u8_and_nat _ _ (by omega) (by omega), Nat.and_two_pow_sub_one_eq_mod, UInt8.toNat_ofNat', Ah (a := c.toNat % 2 ^ (8 - d)) (b := 2 ^ 8) (by omega)]
theorem sT {vx : Value} {sd : Bs} {at_ aa nb : Nat} {w : World} (hsd : sd.length ≤ 400000) (hat : at_ ≤ 4294967296) (ha : aa ≤ 1000) (hnb : 1 ≤ nb) (hnb2 : nb ≤ 100000) (hT : Tab w) :
  Cw 148 #[.agg #[vx, .string (S sd), .int .i64 (at_ : Int)], .int .i64 (aa : Int), .int .i64 (nb : Int)] w (.string (S (lI sd at_ aa nb))) := by
 obtain ⟨Z, hZ⟩ : ∃ Z : Nat, Z = pX nb := ⟨_, rfl⟩
 have hZ1 : Z = (nb + 7) / 8 := hZ
 have hZ0 : 1 ≤ Z := by omega
 have hZl : Z ≤ 20000 := by omega
 have hit := qG sd at_ aa Z hZ0 ((Z + 31) / 32) 0 (by omega) (by omega)
 change itB sd at_ aa fI (eQ Z) ((Z + 31) / 32) 0 [] = _ at hit
 refine li (S := St (fun _ => True) w [] ([])) (L := [(0, .agg #[vx, .string (S sd), .int .i64 (at_ : Int)]), (1, .int .i64 (aa : Int)), (2, .int .i64 (nb : Int))]) Tryz.func148 rfl Tryz.ntmps148 rfl (Ac rfl (Ac rfl (Ac rfl (An _)))) (St.start (fun _ _ => trivial) Fn) ?_
 refine DO ?_
 intro b3
 refine DT ?_; refine F7 ?_; refine Kq I (bM I I I (by omega)) (Ns 12 I (v' := .int .i64 ((Z : Nat) : Int)) (congrArg (Value.int .i64) (by omega)) ?_)
 refine FV ?_
 intro b7
 refine Ng I I (st I I I .tc (by kernel_rfl) I ?_ (by (simp only [Av, Aw]; rfl))) ?_
 ·decide
 intro _
 refine Nt (Cs (Kh I (Oa I (v := (.slice none 0 0)) (cs := [.slice none 0 0]) (by kernel_rfl) I) ?_))
 intro b8
 refine Nt (Cq (Cs (Kq I (lda I I .tc u41 I ?_) ?_)))
 ·kernel_rfl
 refine Km I (Kh I (Oc I I (fun w hS => vp (t := ⟨[], sd, (at_ : Int)⟩) hS)) ?_)
 intro g15
 refine Nt (Cb (WC.range (CO := ACO vx sd at_ aa Z g15 b8 b7 b3) (pg := fun s q => s.length ≤ 30000 ∧ (q.1 = none ∨ 0 < s.length + q.2.length)) (inv := fun s y => y.length = 32) (after := fI) (stop := eQ Z) (enc := fun s : Bs => #[Value.string (S s)]) ([]) ((none, [])) ((itB sd at_ aa fI (eQ Z) ((Z + 31) / 32) 0 []).1) ((itB sd at_ aa fI (eQ Z) ((Z + 31) / 32) 0 []).2) (⟨Ai _, .inl rfl⟩) I (by kernel_rfl) (fun _ => rfl) (by exact fun w h => h.nil _) ?_ (fun l r D w hl hY hS => CE (K := (Z + 31) / 32) (sd := sd) (at_ := at_) (a := aa) (x := vx) hY hS ⟨Ai _, .inl rfl⟩ hsd hat ha (by omega) (fun s y h => h) (by rw [hit]; rfl) hT) ?_ ?_))
 ·intro l r D f a s g x ext wr hl hi hpg hF hS
  rw [qL]
  refine eS (Fr.tm (hF.put (d := 16) rfl _)) hS ?_
  refine FI ?_
  refine Ka I (Nn (WX.begin hl ?_))
  refine Cb (Ga ?_)
  refine Gh ?_
  refine Km I (Kh I (DM I aE u9 (by kernel_rfl) .tc I I ?_) ?_)
  ·exact ⟨by simp, rfl, by have hi' : x.length = 32 := hi; omega, hpg.2⟩
  rintro ⟨o19, c19, s19⟩
  refine WL.pu ?_
  intro hg19; (try dsimp only at hg19 ⊢)
  refine Ng I I (st I I I .tc (by kernel_rfl) I ?_ (by (simp only [Av, Aw]; rfl))) ?_
  ·(simp; done)
  intro _
  refine Nt (Ga ?_)
  refine Gh ?_
  refine Yo I aE (F2 ?_)
  refine E7 (fun hc23 => ?_) (fun hc23 => ?_)
  ·refine Cx ?_; refine WX.block_other I ?_
   exact WX.rexit hl fun w' hS => by
    have hi' : x.length = 32 := hi; have h2 : eQ Z s x = some (.exit 0) := by rw [eQ, Ab (by omega)]
    rw [h2]; refine ⟨rfl, (o19, s19), fun h => (by cases h), ?_⟩; simp only [ACO, fI, B7, A5]; rw [hg19.1] at hS; exact hS
  ·refine Ck (Xd ?_)
   exact WX.rnext hl fun w' hS => by
    have hi' : x.length = 32 := hi; have h2 : eQ Z s x = none := by rw [eQ, Aa (by omega)]
    rw [h2]; refine ⟨rfl, (o19, s19), fun _ => ⟨by simp only [fI, A5]; omega, by simp only [fI, A5]; rw [← hg19.1]; exact hg19.2⟩, ?_⟩; simp only [ACO, fI, B7, A5]; rw [hg19.1] at hS; exact hS
 ·intro D1 g1 hD1 hg1 hcf
  exfalso; rw [hit] at hcf; cases hcf -- done
 ·intro D1 g1 c hD1 hcf
  obtain rfl : c = .exit 0 := by (rw [hit] at hcf; cases hcf; rfl)
  refine Cx (Xe ?_)
  rw [hit]; dsimp only [ACO]
  have hbl := ln sd at_ aa ((Z + 31) / 32)
  have hby : nH sd at_ aa nb = (lH sd at_ aa ((Z + 31) / 32)).take Z := by rw [nH, ← hZ]
  generalize lH sd at_ aa ((Z + 31) / 32) = X at *
  obtain ⟨c, X', rfl⟩ : ∃ c X', X = c :: X' := by cases X with
   | nil => simp at hbl; omega
   | cons c X' => exact ⟨c, X', rfl⟩
  obtain ⟨q1, q2⟩ := g1
  dsimp only
  have hcl : X'.length + 1 = 32 * ((Z + 31) / 32) := hbl
  refine Xa (Cs (WL.know (p := ∃ bb, q1 = some bb) (fun w h => by obtain ⟨b, hb, _⟩ := h.ocx (ob := q1) (cs := List.map B (c :: X') ++ q2) .tc (by simp); exact ⟨b, hb⟩) ?_))
  rintro ⟨bb, rfl⟩
  dsimp only [Option.map_some]
  refine Gh ?_
  refine F2 ?_
  refine Kq I (tN I I I aE (by kernel_rfl : _ = some 1) ?_ (by (try simp only [sN, Int.reduceToNat, Nat.reduceAdd, Nat.reduceMul, Nat.reduceSub]); rfl)) ?_
  ·omega
  refine Ng I I (st I I I .tc (by kernel_rfl) I ?_ (by (simp only [Av, Aw]; rfl))) ?_
  ·(simp; done)
  intro _
  refine Nt (Cq (Cs (F2 ?_)))
  refine Yg I (Nt (Cd I (fun hc28 => ?_) (fun hc28 => by exfalso; (try simp only [sB] at hc28); omega)))
  (try simp only [sB] at hc28)
  refine Cf [0, 1, 2, 3, 4, 5, 6, 7, 8, 9] [10] [0, 0, 0, 0, 0, 0, 0, 0, 0, 0, 2] (by kernel_rfl) (by kernel_rfl) I ?_
  refine Kj I (Ld I I .tc aE) ?_
  refine Kj I (Ja I I I aE (by kernel_rfl : _ = some 1) (by omega)) ?_
  refine Kj I (Ld I I .tc u5) ?_
  refine Kj I (Ld I I .tc u3) ?_
  refine Kj I (bZ I I I (by omega)) (ER ?_); refine Kj I (aS I I I (by omega)) ?_
  refine Kj I (g5 I I I ?_) ?_
  ·omega
  refine Kj I (m4 I I I) ?_
  refine WJ.set 37 I (v' := B (UInt8.ofNat (c.toNat % 2 ^ (8 - (8 * Z - nb))))) (by exact congrArg (Value.int .u8) (AW c (8 * Z - nb) (by omega))) ?_
  refine Kj I (Ja I I I aE (by kernel_rfl : _ = some 1) (by omega)) ?_
  refine WJ.nil ?_
  refine Ng I I (st I I I .tc (by kernel_rfl) I ?_ (by rfl)) ?_
  ·(simp; done)
  intro _
  refine Nn ?_
  obtain ⟨y, hy⟩ : ∃ y : Bs, y = (UInt8.ofNat (c.toNat % 2 ^ (8 - (8 * Z - nb))) :: X').take Z := ⟨_, rfl⟩
  have hyl : y.length = Z := by rw [hy, Bp, Ar]; omega
  have hya : ae (val y) = lI sd at_ aa nb := by
   have := yd (sd := sd) (at_ := at_) (a := aa) (nb := nb) (X := c :: X') (x := c.toNat % 2 ^ (8 - (8 * Z - nb))) hZ hZ0 hby (by simp only [Ar]; omega) rfl (by omega) (by omega); rw [← this, hy]; obtain ⟨q, rfl⟩ : ∃ q, Z = q + 1 := ⟨Z - 1, by omega⟩; rfl
  refine Xa (Cq (Cb ?_))
  refine Lo (σ := Bs × (Option Addr) × Nat) [(8, _)] (fun gq => []) (fun gq => cw gq.1 = cw y ∧ gq.1.length ≤ gq.2.2 ∧ gq.1.length ≤ Z) (fun gq => gq.1.length) (fun gq => [⟨some b8, [.slice gq.2.1 gq.1.length gq.2.2], 140⟩]) (fun gq => [Fact.sl gq.2.1 (gq.1.map B), Fact.dfr D1]) (y, some ⟨bb, 0, none⟩, (c :: X').length + q2.length) (S1 I) (S0 _) (by (try dsimp only); exact ⟨rfl, by rw [hyl]; simp only [Ar]; omega, by omega⟩) (by exact fun w h => by dsimp only; rw [hyl]; exact au _ (h.freeze (off := 0) (xs := y.map B) (fun i hi => by
    have hi' : i < Z := by rw [Ag, hyl] at hi; exact hi
    show ((B (UInt8.ofNat (c.toNat % 2 ^ (8 - (8 * Z - nb)))) :: (X'.map B ++ q2)) : List Value)[0 + i]? = _; rw [hy, List.map_take, Cu, Ab hi', Az]; show (((UInt8.ofNat (c.toNat % 2 ^ (8 - (8 * Z - nb))) :: X').map B ++ q2) : List Value)[i]? = _
    rw [B5 (by simp; omega)]))) ?_
  rintro ⟨t, a', cp⟩ hinv1; (try dsimp only at hinv1 ⊢)
  obtain ⟨ht, htc, htb⟩ := hinv1
  refine Cq (Cs (Gh ?_))
  refine Yo I aE (Yg I (Km I (Nc 42 I (fun hg42 => ?_) (fun hg42 => ?_))))
  ·refine Gh ?_; refine Kq I (Ib I I I aE (by omega) (by (rw [Ag]; omega))) ?_; refine Kq I (ldm I I u5 I (by omega)) ?_; refine Yi I (Yp I (Nt (Ci I (fun hc47 => ?_) (fun hc47 => ?_))))
   ·have hz : (t.getD 0 default).toNat = 0 := by (simp at hc47; exact hc47)
    refine Ck (Xa (Cb (Cg (Gh ?_)))); refine Kq I (kG I I I aE (by kernel_rfl : _ = some 1) (by omega) (by (try simp only [sN, Int.reduceToNat, Nat.reduceAdd, Nat.reduceMul, Nat.reduceSub]); rfl) (by (try simp only [sN, Int.reduceToNat, Nat.reduceAdd, Nat.reduceMul, Nat.reduceSub]); rfl) (by (try simp only [sN, Int.reduceToNat, Nat.reduceAdd, Nat.reduceMul, Nat.reduceSub]); rfl)) ?_; refine Ns 49 I (v' := .slice (cut a' 1 cp 1) (t.drop 1).length (cp - 1)) (by rw [Cp]) ?_; refine Ng I I (st I I I .tc (by kernel_rfl) I ?_ (by (simp only [Av, Aw]; rfl))) ?_
    ·(simp; done)
    intro _; refine Nn (Xd (Lx ((t.drop 1, cut a' 1 cp 1, cp - 1)) (by simp only [Cp]; omega) (S1 I) (S0 _) ?_ (by exact fun w h => (h.add (f := Fact.sl (cut a' 1 cp 1) ((t.drop 1).map B)) (jW 1 htc (h.fact (Fact.sl a' (t.map B)) (by simp)))).sub (Ax _) (fun f hf => by simp only [A7, List.not_mem_nil, or_false] at hf ⊢; rcases hf with h | h <;> simp [h])))); (try dsimp only); exact ⟨by rw [← ko (by omega) hz]; exact ht, by simp only [Cp]; omega, by simp only [Cp]; omega⟩
   ·refine AT ?_; refine Xa (Cs (Gh ?_)); refine Kq I (sS I I .tc aE u5 u22 ?_) ?_
    ·rfl
    refine to ?_; exact WX.retM1 hD1 I (.tmp I .nil) fun w' hS => ⟨by rw [← hya, show ae (val y) = t from by rw [← dt, ← ht, du (by (exact .inr (fun h0 => hc47 (by show ((t.getD 0 default).toNat : Int) = 0; omega))))]]; rfl, hS.below⟩
  ·refine T4 I (Yq I (Fg (fun _ => ?_))); refine AT ?_; refine Xa (Cs (Gh ?_)); refine Kq I (sS I I .tc aE u5 u22 ?_) ?_
   ·rfl
   refine to ?_; exact WX.retM1 hD1 I (.tmp I .nil) fun w' hS => ⟨by rw [← hya, show ae (val y) = t from by rw [← dt, ← ht, du (by (exact .inl (by omega)))]]; rfl, hS.below⟩
def dp : Tp := ⟨[], [], 0⟩
def eg (t : Tp) (n : Bs) : Nat → Nat → Option Bs
 | 0, _ => none
 | f + 1, a => if eh (lI t.seed t.at_.toNat a (aF n)) n < 0 then some (lI t.seed t.at_.toNat a (aF n)) else eg t n f (a + 1)
def cE (t : Tp) (n : Bs) : Bs × Tp × Int :=
 if t.at_ < t.vals.length then (if 0 ≤ eh (t.vals.getD t.at_.toNat default) n then ([], dp, 2) else (t.vals.getD t.at_.toNat default, ⟨t.vals, t.seed, t.at_ + 1⟩, 0))
 else if t.seed = [] ∨ t.at_ = 2147483647 then ([], dp, 14)
 else match eg t n 256 0 with
  | some x => (x, ⟨t.vals, t.seed, t.at_ + 1⟩, 0)
  | none => ([], dp, 14)
theorem qQ {r : Bs × Tp × Int} {n : Int} {ok : Nat → Prop} {w0 w : World} {own : List Ent} {fs : List Fact} {T : TypeId} (hr : r = ([], dp, n)) (hS : St ok w0 own fs w) :
  ∃ g : Rs, Ending.returned (tup [.string (S []), .agg #[.slice none 0 0, .string (S []), .int .i64 0], .int .i64 n]) = Ending.returned (.tuple #[.string (S r.1), r.2.1.v (g.val r.2.1.vals.length), .int .i64 r.2.2]) ∧ g.cap = r.2.1.vals.length + g.sp.length ∧ St ok w0 [g.ent (an r.2.1.vals) T] [] w := by
 subst hr
 exact ⟨⟨none, 0, []⟩, rfl, rfl, (hS.nil T).sub (List.singleton_sublist.2 (by simp [Rs.ent, dp])) (fun _ h => by cases h)⟩
theorem yt {r : Bs × Tp × Int} {t : Tp} {x : Bs} {q : Rs} {ok : Nat → Prop} {w0 w : World} {own : List Ent} {fs : List Fact} {T : TypeId} (hr : r = (x, ⟨t.vals, t.seed, t.at_ + 1⟩, 0)) (hq : q.cap = t.vals.length + q.sp.length) (hS : St ok w0 own fs w) (hm : q.ent (an t.vals) T ∈ own) :
  ∃ g : Rs, Ending.returned (tup [.string (S x), .agg #[q.val t.vals.length, .string (S t.seed), .int .i64 (t.at_ + 1)], .int .i64 0]) = Ending.returned (.tuple #[.string (S r.1), r.2.1.v (g.val r.2.1.vals.length), .int .i64 r.2.2]) ∧ g.cap = r.2.1.vals.length + g.sp.length ∧ St ok w0 [g.ent (an r.2.1.vals) T] [] w := by
 subst hr
 exact ⟨q, rfl, hq, hS.sub (List.singleton_sublist.2 hm) (fun _ h => by cases h)⟩
theorem ss {t : Tp} {n : Bs} {a : Nat} (h : a < 256) (hc : eh (lI t.seed t.at_.toNat a (aF n)) n < 0) : eg t n (256 - a) a = some (lI t.seed t.at_.toNat a (aF n)) := by
 rw [show 256 - a = (255 - a) + 1 by omega, eg, Ab hc]
theorem pz {t : Tp} {n : Bs} {a : Nat} (h : a < 256) (hc : ¬ eh (lI t.seed t.at_.toNat a (aF n)) n < 0) : eg t n (256 - a) a = eg t n (256 - (a + 1)) (a + 1) := by
 rw [show 256 - a = (256 - (a + 1)) + 1 by omega, eg, Aa hc]
theorem zT {t : Tp} {n : Bs} {a : Option Addr} {cap : Nat} {w : World} {ok : Nat → Prop} (hF1 : (Fact.sl a (an t.vals)).holds ok w) (hl : t.vals.length ≤ 100000) (hg : eD t) (hn : okN n) (hn0 : n ≠ []) (hsd : t.seed.length ≤ 400000) (hT : Tab w) :
  Calls Tryz.prog 87 #[t.v (.slice a t.vals.length cap), .string (S n)] w fun e w' => ∃ g : Rs, e = .returned (.tuple #[.string (S (cE t n).1), (cE t n).2.1.v (g.val (cE t n).2.1.vals.length), .int .i64 (cE t n).2.2]) ∧ g.cap = (cE t n).2.1.vals.length + g.sp.length ∧ St (fun _ => True) w [g.ent (an (cE t n).2.1.vals) 22] [] w' := by
 have hg1 := hg.1; have hg2 := hg.2.1
 have hbp := sK hn hn0
 have hbl := gn hn.1
 have hq : (⟨some 0, t.vals.length, []⟩ : Rs).cap = t.vals.length + (⟨some 0, t.vals.length, []⟩ : Rs).sp.length := rfl
 refine En [Fact.sl a (an t.vals)] [(0, t.v (.slice a t.vals.length cap)), (1, .string (S n))] Tryz.func87 I Tryz.ntmps87 I (Ac I (Ac I (An _))) (Fc (ah hF1) Fn) (DO ?_)
 intro b2
 refine Ka I (E6 ?_)
 intro b5
 refine Ka I (Nt (Cq (WC.joinP (σ := Unit) [(1, _), (2, _), (5, _)] (fun gq => [(26, .bool (decide (t.at_ < t.vals.length ∧ 0 ≤ eh (t.vals.getD t.at_.toNat default) n)))]) (fun gq => True) (S3 I I I) ?_ ?_)))
 ·skip
  refine Cg (Kf 2 I u41 I I I .tc u3 ?_)
  refine Gw ?_
  refine Yo I u31 (Yl I (Km I (Nc 16 I (fun hg16 => ?_) (fun hg16 => ?_))))
  ·refine Kf 0 I u41 I I I .tc u31 ?_; refine Kf 2 I u41 I I I .tc u3 ?_; refine Kq I (Ib I I I u31 (by omega) (by (rw [Ag]; omega))) ?_; refine Kq I (ldm I I u22 I (by omega)) ?_; refine Km I (Kc I (fun w hS => el (a := t.vals.getD t.at_.toNat default) (b := n)) (Yh I (Yp I (Nn (WX.joinP (()) (S3 I I I) (by refine (Sc ?_ (S0 _)) <;> ((refine ai rfl ?_; (try dsimp only); (exact Af.2 (by omega))))) ?_ (fun _ h => h)))))); (try dsimp only); done
  ·refine T4 I (T4 I (Kt I (Yq I (Nn (WX.joinP (()) (S3 I I I) (by refine (Sc ?_ (S0 _)) <;> ((exact congrArg (fun b => some (Value.bool b)) (by symm; apply Aq; omega)))) ?_ (fun _ h => h)))))); (try dsimp only); done
 ·rintro _ hmeet; (try dsimp only at hmeet ⊢)
  refine Ci I (fun hc26 => ?_) (fun hc26 => ?_)
  ·refine Cs (Ex ?_); refine Ka I (DQ ?_); refine ne ?_; exact Rn I (.tmp I (.agg I .tc u41 I (by kernel_rfl) (.tmp I .nil))) fun w' hS => qQ (by rw [cE, Ab hc26.1, Ab hc26.2]) hS
  ·refine Ck (Xa (Cq (WC.joinP (σ := Unit) [(1, _), (2, _), (5, _)] (fun gq => [(43, .bool (decide (((t.vals.length : Int) ≤ t.at_ ∧ t.seed = []) ∨ t.at_ = 2147483647)))]) (fun gq => True) (S3 I I I) ?_ ?_)))
   ·skip
    refine Cg (Kf 2 I u41 I I I .tc u3 ?_); refine Gw ?_; refine Yo I u31 (Yh I (Km I (Nc 34 I (fun hg34 => ?_) (fun hg34 => ?_))))
    ·refine Kf 1 I u41 I I I .tc u9 ?_; refine Ys I (Yp I (Km I (Nc 39 I (fun hg39 => ?_) (fun hg39 => ?_))))
     ·refine T2 I (Kt I (Yp I (Nn (WX.joinP (()) (S3 I I I) (by refine (Sc ?_ (S0 _)) <;> ((refine ai rfl ?_; (try dsimp only); (simp [*]; done)))) ?_ (fun _ h => h))))); (try dsimp only); done
     ·refine Kf 2 I u41 I I I .tc u3 ?_; refine Yi I (Yq I (Nn (WX.joinP (()) (S3 I I I) (by refine (Sc ?_ (S0 _)) <;> ((refine ai rfl ?_; (try dsimp only); (simp [*]; done)))) ?_ (fun _ h => h)))); (try dsimp only); done
    ·refine T2 I (Kt I (Yq I (Km I (Kf 2 I u41 I I I .tc u3 ?_)))); refine Yi I (Yq I (Nn (WX.joinP (()) (S3 I I I) (by refine (Sc ?_ (S0 _)) <;> ((refine ai rfl ?_; (try dsimp only); (exact Af.2 (by omega))))) ?_ (fun _ h => h)))); (try dsimp only); done
   ·rintro _ hmeet; (try dsimp only at hmeet ⊢); refine Ci I (fun hc43 => ?_) (fun hc43 => ?_)
    ·refine Cs (Ex ?_); refine Ka I (DQ ?_); refine ne ?_; exact Rn I (.tmp I (.agg I .tc u41 I (by kernel_rfl) (.tmp I .nil))) fun w' hS => qQ (by rcases hc43 with h | h; rw [cE, Aa (by omega), Ab (Or.inl h.2)]; rw [cE, Aa (by omega), Ab (Or.inr h)]) hS
    ·refine Ck (Xa (Cq (Cf [0, 1, 2, 3, 4, 5, 6, 7, 8, 9, 10] [11] [0, 0, 0, 3, 0, 0, 0, 0, 0, 0, 3, 2] (by kernel_rfl) (by kernel_rfl) I ?_))); refine Kj I (Fa (q := 0) I I u41 I I) (Gc ?_); refine Kj I (pf I I u31) ?_; refine Jf I I I I I (BM I I I u31 (by kernel_rfl : _ = some (some (.string (S [])), 1, 16)) I ?_ (by (try simp only [sN, Int.reduceToNat, Nat.reduceAdd, Nat.reduceMul, Nat.reduceSub]); rfl) (by (try simp only [sN, Int.reduceToNat, Nat.reduceAdd, Nat.reduceMul, Nat.reduceSub]); rfl)) ?_
     ·omega
     intro b48; refine Kj I (Fa (q := 1) I I u41 I I) (Kj I (Ld I I .tc u9) ?_); refine Kj I (Fa (q := 2) I I u41 I I) (Kj I (Ld I I .tc u3) ?_); refine Kj I (bf I I I (by omega)) (Kj I (Kb [[.slice none 0 0], [.string (S [])], [.int .i64 0]] I I) ?_); refine Jf I I I I I (bJ I (v := (.agg #[.slice none 0 0, .string (S []), .int .i64 0])) (cs := [.slice none 0 0, .string (S []), .int .i64 0]) (by kernel_rfl) I) ?_; intro b7; refine WJ.nil ?_; refine DQ ?_; refine Nt (Cs (Gw ?_)); refine Gw ?_; refine Kh I (BU I I I .tc u31 (by kernel_rfl) (m := t.vals.length) (by simp) (by simp) (fun w hS => hS.sl) (by intro u hu; obtain ⟨_, _, rfl⟩ := B9.1 hu; rfl) (by simp) (ys := an t.vals) (by simp)) ?_; intro _; refine Nt (Cq (Cs (Kf 2 I u41 I I I .tc u3 ?_))); refine Gw ?_; refine Yo I u31 (Ew (fun hc65 => ?_) (fun hc65 => ?_))
     ·refine Cq (Cf [0, 1, 2, 3, 4, 5, 6, 7] [8, 9] [0, 0, 0, 0, 0, 0, 0, 0, 2, 2] (by kernel_rfl) (by kernel_rfl) I ?_); refine Kj I (Fa (q := 0) I I u41 I I) (Gc ?_); refine Kj I (Fa (q := 2) I I u41 I I) (Kj I (Ld I I .tc u3) ?_); refine EV ?_; refine Kj I (ldm I I u22 I (by omega)) ?_; refine Kj I (lda I I .tc u41 I ?_) ?_
      ·kernel_rfl
      refine ES ?_; refine WJ.nil ?_; refine DQ ?_; refine ne ?_; exact Rn I (.tmp I (.agg I .tc u41 I (by kernel_rfl) (.tmp I .nil))) fun w' hS => yt (q := ⟨some b48, t.vals.length, []⟩) (by rw [cE, Ab (by omega), Aa (fun h => hc26 ⟨by omega, h⟩)]) I hS (by simp [Rs.ent])
     ·have h27 : ¬ t.at_ < t.vals.length := by omega
      have h52 : ¬ (t.seed = [] ∨ t.at_ = 2147483647) := fun h => hc43 (h.elim (fun h => Or.inl ⟨by omega, h⟩) Or.inr)
      refine Fe ?_; refine Nt (Cb (Lp (σ := Nat) [(1, _), (2, _), (5, _), (7, _)] (fun gq => [(73, .int .i64 (gq : Int))]) (fun gq => gq ≤ 256 ∧ eg t n (256 - gq) gq = eg t n 256 0) (fun gq => 256 - gq) (0) (S4 I I I I) (S1 I) (by (try dsimp only); exact ⟨by omega, rfl⟩) ?_)); rintro k hinv1; (try dsimp only at hinv1 ⊢); obtain ⟨hk, hfi⟩ := hinv1; refine DP (fun hc74 => ?_) (fun hc74 => ?_)
      ·refine El ?_; refine Ka I (Nt (Cq (Cf [2, 3, 0, 1, 4, 5] [] [0, 0, 0, 1, 1, 0] (by kernel_rfl) (by kernel_rfl) I ?_))); refine ER ?_; refine Jv I I I I I (fun ext => Oc I I (Kv fun w hS => nJ (a := n))) ?_; refine WJ.set 79 I (v' := .int .i64 ((aF n : Nat) : Int)) (congrArg (Value.int .i64) (by rw [Ab hn])) ?_; refine Kj I (lda I I .tc u41 I ?_) ?_
       ·kernel_rfl
       refine WJ.set 76 I (v' := .agg #[.slice a t.vals.length cap, .string (S t.seed), .int .i64 ((t.at_.toNat : Nat) : Int)]) (by rw [Int.toNat_of_nonneg hg1]) ?_; refine ER ?_; refine Jv I I I I I (fun ext => Oc I I (Kv fun w hS => sT (sd := t.seed) (at_ := t.at_.toNat) (aa := k) (nb := aF n) (by assumption) (by omega) (by omega) (by assumption) (by omega) (by (exact dZ hT hS)))) ?_; refine ES ?_; refine WJ.nil ?_; refine Nt (FS ?_); refine Kc I (fun w hS => el (a := lI t.seed t.at_.toNat k (aF n)) (b := n)) (Ew (fun hc84 => ?_) (fun hc84 => ?_))
       ·refine Cq (Cf [0, 1, 2] [3, 4] [0, 0, 0, 2, 2] (by kernel_rfl) (by kernel_rfl) I ?_); refine ER ?_; refine Kj I (lda I I .tc u41 I ?_) ?_
        ·kernel_rfl
        refine ES ?_; refine WJ.nil ?_; refine DQ ?_; refine to ?_; refine DS ?_; exact Rn I (.tmp I (.agg I .tc u41 I (by kernel_rfl) (.tmp I .nil))) fun w' hS => yt (q := ⟨some b48, t.vals.length, []⟩) (by rw [cE, Aa h27, Aa h52, ← hfi, ss (by omega) hc84]) I hS (by simp [Rs.ent])
       ·refine Ck (Xd (Xa (Cg (Kq I (Rz I I I (by omega)) (Km I (Nn (Ly (k + 1) (by (try dsimp only); omega) (S4 I I I I) (by refine (Sc ?_ (S0 _)) <;> (rfl)) ?_ (fun _ h => h)))))))); (try dsimp only); exact ⟨by omega, by rw [← pz (by omega) (by omega)]; exact hfi⟩
      ·refine AT ?_; obtain rfl : k = 256 := by omega
       refine Xa (Cs (Ex ?_)); refine Ka I (DQ ?_); refine to ?_; exact Rn I (.tmp I (.agg I .tc u41 I (by kernel_rfl) (.tmp I .nil))) fun w' hS => qQ (by rw [cE, Aa h27, Aa h52, ← hfi]; rfl) hS
def dy (t : Tp) (n : Bs) : Int := if eD t ∧ okN n then (if n = [] then 11 else 0) else 3
theorem ti {t : Tp} {n : Bs} {a : Option Addr} {cap : Nat} {w : World} {ok : Nat → Prop} (hF1 : (Fact.sl a (an t.vals)).holds ok w) (hl : t.vals.length ≤ 100000) :
  Cw 86 #[t.v (.slice a t.vals.length cap), .string (S n)] w (.int .i64 (dy t n)) := by
 refine En [Fact.sl a (an t.vals)] [(0, t.v (.slice a t.vals.length cap)), (1, .string (S n))] Tryz.func86 I Tryz.ntmps86 I (Ac I (Ac I (An _))) (Fc (ah hF1) Fn) (DO ?_)
 intro b2
 refine Ka I (Nt (Cq (Cs (Kq I (lda I I .tc u41 I ?_) ?_))))
 ·kernel_rfl
 refine Kc I (fun w hS => zL (t := t) (by (exact hS.sl)) (by omega)) (Yt I (Km I (Nc 8 I (fun hg8 => ?_) (fun hg8 => ?_))))
 ·refine T2 I (Kt I (Yp I (Nt (Cd I (fun _ => ?_) (fun h => by cases h)))))
  refine Cs (ne ?_)
  exact R1 I I (by rw [dy, Aa (by simp_all)]; rfl)
 ·refine Gi ?_; refine EP (fun hc12 => ?_) (fun hc12 => ?_)
  ·refine Cs (ne ?_); exact R1 I I (by rw [dy, Aa (by simp_all)]; rfl)
  ·have hgn : eD t ∧ okN n := by simp_all
   refine Fe ?_; refine Fu (fun hc14 => ?_) (fun hc14 => ?_)
   ·refine Cs (ne ?_); exact R1 I I (by rw [dy, Ab hgn, Ab (by simpa using hc14)]; rfl)
   ·refine Ck (Xa (Cs (to ?_))); exact R1 I I (by rw [dy, Ab hgn, Aa (by simpa using hc14)]; rfl)
def aI (t : Tp) (n : Bs) : Bs × Tp × Int := if dy t n ≠ 0 then ([], dp, dy t n) else cE t n
theorem n3 {t : Tp} {n : Bs} (h : dy t n = 0) : eD t ∧ okN n ∧ n ≠ [] := by
 unfold dy at h
 split at h
 ·rename_i h1
  split at h
  ·cases h
  ·rename_i h2; exact ⟨h1.1, h1.2, h2⟩
 ·cases h
theorem yc {t : Tp} {n : Bs} {a : Option Addr} {cap : Nat} {w : World} {ok : Nat → Prop} (hF1 : (Fact.sl a (an t.vals)).holds ok w) (hl : t.vals.length ≤ 100000) (hsd : t.seed.length ≤ 400000) (hT : Tab w) :
  Calls Tryz.prog 42 #[t.v (.slice a t.vals.length cap), .string (S n)] w fun e w' => ∃ g : Rs, e = .returned (.tuple #[.string (S (aI t n).1), (aI t n).2.1.v (g.val (aI t n).2.1.vals.length), .int .i64 (aI t n).2.2]) ∧ g.cap = (aI t n).2.1.vals.length + g.sp.length ∧ St (fun _ => True) w [g.ent (an (aI t n).2.1.vals) 22] [] w' := by
 refine En [Fact.sl a (an t.vals)] [(0, t.v (.slice a t.vals.length cap)), (1, .string (S n))] Tryz.func42 I Tryz.ntmps42 I (Ac I (Ac I (An _))) (Fc (ah hF1) Fn) (DO ?_)
 intro b2
 refine Ka I (E6 ?_)
 intro b5
 refine Ka I (Nt (Cq (Cs (Kq I (lda I I .tc u41 I ?_) ?_))))
 ·kernel_rfl
 refine Km I (Kc I (fun w hS => ti (t := t) (n := n) (by (exact hS.sl)) (by assumption)) (DT ?_)); refine EL (fun hc12 => ?_) (fun hc12 => ?_)
 ·have hr : aI t n = ([], dp, dy t n) := by rw [aI, Ab (by simpa using hc12)]
  refine Cs (Ex ?_); refine Km I (Ka I (DQ ?_)); refine ne ?_
  exact Rn I (.tmp I (.agg I .tc u41 I (by kernel_rfl) (.tmp I .nil))) fun w' hS => qQ hr hS
 ·have hrd : dy t n = 0 := by simpa using hc12
  have hr : aI t n = cE t n := by rw [aI, Aa (by simp [hrd])]
  obtain ⟨k1, k2, k3⟩ := n3 hrd
  refine Ck (Xa (Cs (Kq I (lda I I .tc u41 I ?_) ?_)))
  ·kernel_rfl
  refine Km I (Kh I (Oc I I (qD fun w hS => zT (t := t) (n := n) (by (exact hS.sl)) (by assumption) (by assumption) (by assumption) (by assumption) (by assumption) (by (exact dZ hT hS)))) ?_)
  intro g17
  refine WL.pu ?_
  intro hg17; (try dsimp only at hg17 ⊢)
  refine Ye I (Ye I (Ye I (Ka I (DQ ?_)))); refine to ?_
  exact Rn I (.tmp I (.agg I .tc u41 I (by kernel_rfl) (.tmp I .nil))) fun w' hS => ⟨g17, by rw [hr]; rfl, by rw [hr]; exact hg17, by rw [hr]; exact au _ hS⟩
theorem sF {a b : Bs} (h : eh a b < 0) : okN a := by
 unfold eh at h; split at h
 ·rename_i h1; exact h1.1
 ·omega
theorem k8 {t : Tp} {n : Bs} : ∀ (f a : Nat) (x : Bs), eg t n f a = some x → okN x
 | 0, a, x, h => by cases h
 | f + 1, a, x, h => by
  unfold eg at h; split at h
  ·rename_i h1; injection h with h; subst h; exact sF h1
  ·exact k8 f (a + 1) x h
theorem sw {t : Tp} {n : Bs} (hg : eD t) (h : (cE t n).2.2 = 0) : okN (cE t n).1 := by
 unfold cE at h ⊢
 split
 ·rename_i h1
  rw [Ab h1] at h
  split
  ·rename_i h2; rw [Ab h2] at h; cases h
  ·exact hg.2.2 _ (l7 _ _ (by have := hg.1; omega))
 ·rename_i h1
  rw [Aa h1] at h
  split
  ·rename_i h2; rw [Ab h2] at h; cases h
  ·rename_i h2; rw [Aa h2] at h
   cases hf : eg t n 256 0 with
   | none => rw [hf] at h; cases h
   | some x => exact k8 _ _ _ hf
theorem l9 {t : Tp} {n : Bs} : ∀ (f a : Nat) (x : Bs), eg t n f a = some x → eh x n < 0
 | 0, a, x, h => by cases h
 | f + 1, a, x, h => by
  unfold eg at h; split at h
  ·rename_i h1; injection h with h; subst h; exact h1
  ·exact l9 f (a + 1) x h
theorem u0 {t : Tp} {n : Bs} (h : (cE t n).2.2 = 0) : eh (cE t n).1 n < 0 := by
 unfold cE at h ⊢
 split
 ·rename_i h1
  rw [Ab h1] at h
  split
  ·rename_i h2; rw [Ab h2] at h; cases h
  ·rename_i h2; show eh (t.vals.getD t.at_.toNat default) n < 0; omega
 ·rename_i h1
  rw [Aa h1] at h
  split
  ·rename_i h2; rw [Ab h2] at h; cases h
  ·rename_i h2; rw [Aa h2] at h
   cases hf : eg t n 256 0 with
   | none => rw [hf] at h; cases h
   | some x => exact l9 _ _ _ hf
theorem sR {t : Tp} {n : Bs} (h : (aI t n).2.2 = 0) (ht : eD t) (hn : okN n) : okN (aI t n).1 ∧ val (aI t n).1 < val n := by
 unfold aI at h ⊢; split at h
 ·rename_i h1; exact absurd h h1
 ·rename_i h1; rw [Aa h1]
  have a := sw ht h; have b := u0 h
  rw [aB a hn, ax] at b; exact ⟨a, b⟩
theorem ub {m x : Nat} : db m x 1 = x % m := by rw [db, Aa (by decide)]; simp
structure SG where
 a : Bs
 e : Bs
 v : Bs
def eo (p : PR) (k : IK) (s : SG) (t : Tp) : (Bs × Zs × Tp) × Int :=
 if bK p k ≠ 0 then (([], (false, []), dp), bK p k)
 else if ¬ (okN s.a ∧ okN s.e ∧ okN s.v) then (([], (false, []), dp), 3)
 else if ¬ elG k.g s.a then (([], (false, []), dp), 13)
 else if (aI t p.msk).2.2 ≠ 0 then (([], (false, []), dp), (aI t p.msk).2.2)
 else if (bP (aw s.e) (aw (aI t p.msk).1)).2 ≠ 0 ∨ (cG (aw s.v) (bP (aw s.e) (aw (aI t p.msk).1)).1).2 ≠ 0 then (([], (false, []), dp), 5)
 else (((bL k.g [s.a, k.s] [ofZ 1, aw (aI t p.msk).1]).1, (cG (aw s.v) (bP (aw s.e) (aw (aI t p.msk).1)).1).1, (aI t p.msk).2.1), 0)
def eu : Int → List Int → Int → Bool
 | _, [], _ => true
 | last, i :: l, n => decide (last < i ∧ i < n) && eu i l n
abbrev rD (k : IK) (i : Nat) : Bs := k.r.getD i default
def bQ (d : List Int) (n : Nat) : List Nat := (List.range n).filter fun i => !(d.contains (i : Int))
def lim (p : PR) (i : Nat) : Bs := if i = 0 then p.sec else if i = 1 then p.han else p.attr
def shE (p : PR) (k : IK) (a : Bs) (d : List Int) (vs : List Bs) : Int :=
 if bK p k ≠ 0 then bK p k else if ¬ (okN a ∧ ∀ x ∈ vs, okN x) then 3 else if ¬ elG k.g a then 13 else if eu 1 d k.r.length = false then 2
 else if vs.length ≠ d.length then 6 else if ¬ (∀ x ∈ vs, val x < val p.attr) then 2 else (jN p).2
abbrev ngN (v : Bs) : Zs := fM (aw v)
def tgS (p : PR) (k : IK) (a : Bs) (d : List Int) (vs : List Bs) : Bs := (bL k.g (k.z :: a :: d.map fun i => rD k i.toNat) (ofZ 1 :: ngN p.lo :: vs.map ngN)).1
def shT (p : PR) (k : IK) (a : Bs) (d : List Int) (vs : List Bs) : Sm :=
 ([k.g], p.sz :: (jN p).1.1 :: (bQ d k.r.length).map (lim p), [(0, tgS p k a d vs, fR (a :: k.s :: (bQ d k.r.length).map (rD k)) 0)])
def shS (p : PR) (k : IK) (a : Bs) (d : List Int) (vs : List Bs) : Sm × Int := if shE p k a d vs ≠ 0 then (([], [], []), shE p k a d vs) else (shT p k a d vs, 0)
def wiS (p : PR) (s : SG) (v : Zs) (ms : List Bs) (d : List Int) : List Zs × Int :=
 if cr p ≠ 0 then ([], cr p) else if ¬ ((okN s.a ∧ okN s.e ∧ okN s.v) ∧ okZ v ∧ ∀ x ∈ ms, okN x) then ([], 3) else if ms.length < 2 ∨ 18 < ms.length then ([], 6)
 else if eu 1 d ms.length = false then ([], 2) else ((cG (aw s.e) (aw p.lo)).1 :: v :: (bQ d ms.length).map (fun i => aw (ms.getD i default)), 0)
def DC (p : PR) (k : IK) (s : SG) (ms : List Bs) : Prop :=
 bK p k = 0 ∧ ms.length = k.r.length ∧ elG k.g s.a ∧ okN s.e ∧ okN s.v ∧ val p.lo ≤ val s.e ∧ val s.e < val p.lo + val p.sz ∧ val s.v < val p.bl + val p.bl ∧
 (∀ i, i < ms.length → okN (ms.getD i default) ∧ val (ms.getD i default) < val (lim p i)) ∧
 bL k.g (s.a :: k.s :: k.r) ((false, s.e) :: (false, s.v) :: ms.map fun m => (false, m)) = (k.z, 0)
theorem pn {x : Bs} (h : okN x) : okZ (false, x) := ⟨h, fun h => by cases h.1⟩
theorem zm {x : Bs} (h : okN x) : ngN x = ofZ (-(val x : Int)) := by
 have e : aw x = ofZ (val x : Int) := by rw [cD h, gH, bB h]
 rw [ngN, e, qy (by rw [Bb]; exact aK h)]
theorem qw {x : Bs} (h : okN x) : okZ (ngN x) := by rw [zm h]; exact bW.2 (by rw [Int.natAbs_neg, Bb]; exact aK h)
theorem i8 : ∀ {d : List Int} {last n : Int}, eu last d n = true → ∀ i ∈ d, last < i ∧ i < n
 | [], _, _, _, i, hi => by cases hi
 | j :: l, last, n, h, i, hi => by
  rw [eu, Cj, decide_eq_true_eq] at h
  rcases A7.1 hi with rfl | hi
  ·exact h.1
  ·have := i8 h.2 i hi; omega
end Go.Proofs.YtkdlonihbjhhoaaGreatDoor
