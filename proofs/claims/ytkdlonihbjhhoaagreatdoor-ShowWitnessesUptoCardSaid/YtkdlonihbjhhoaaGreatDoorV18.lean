/-
  Parts of the walk: Shp Dec Itoa Coi2 Coi3 Apps Coi4 Coi5 Coi6 Cbl Egp Shs.
-/
import Derived.Test.YtkdlonihbjhhoaaGreatDoorV17
import Derived.Lib.ItoaNum
import Derived.Lib.AppendStr
namespace Go.Proofs.YtkdlonihbjhhoaaGreatDoor
open Go.RowKit
set_option linter.unusedSimpArgs false
set_option linter.unusedVariables false
set_option maxHeartbeats 600000
set_option maxRecDepth 20000
def fo : List Bs → Nat → List Tm
 | [], _ => []
 | b :: l, i => trm b i :: fo l (i + 1)
theorem gQ : ∀ (l : List Bs) (i : Nat), (fo l i).length = l.length
 | [], _ => rfl
 | b :: l, i => by rw [fo, List.length_cons, List.length_cons, gQ l]
theorem mT : ∀ (l m : List Bs) (i : Nat), fo (l ++ m) i = fo l i ++ fo m (i + l.length)
 | [], m, i => by simp [fo]
 | b :: l, m, i => by rw [List.cons_append, fo, fo, mT l, List.cons_append, List.length_cons]; congr 3; omega
def pfL (m : Nat) (bs : List Bs) (es : List Zs) : Nat := aJ (fun p : Bs × Zs => nl m (val p.1) (zv p.2)) (bs.zip es)
theorem qH {g : Gp} {bs : List Bs} {es : List Zs} (hg : bP g = 0) (hb : ∀ x ∈ bs, elG g x) (he : ∀ x ∈ es, okZ x) (hl : bs.length = es.length) :
  dn g bs es = (ae (pfL (val g.1) bs es % val g.1), 0) := by
 have h0 : fN g bs es (decide (bs.length = es.length)) = 0 := by
  rw [fN, if_neg (fun h => h fun x hx => (hb x hx).1), if_neg (fun h => h he), if_neg (fun h => h hg), if_neg (by simpa using hl), if_neg (fun h => h hb)]
 rw [dn, if_pos h0]; rfl
theorem wm {n : Nat} (h : ¬ n < 10) : Lib.decDigits n = Lib.decDigits (n / 10) ++ [UInt8.ofNat (48 + n % 10)] := by rw [Lib.decDigits, dif_neg h]
theorem lw {n : Nat} (h : n < 10) : Lib.decDigits n = [UInt8.ofNat (48 + n)] := by rw [Lib.decDigits, dif_pos h]
theorem gi : ∀ (k n : Nat), n < 10 ^ (k + 1) → (Lib.decDigits n).length ≤ k + 1
 | 0, n, h => by rw [lw (by simpa using h)]; simp
 | k + 1, n, h => by
  by_cases h' : n < 10
  ·rw [lw h']; simp
  ·rw [wm h', List.length_append]
   have := gi k (n / 10) (by rw [Nat.pow_succ] at h; omega)
   simp; omega
abbrev Tab (w : World) : Prop := Lib.TabIs Tryz.prog w "internal/strconv.uint64pow10" .u64 Lib.pow10Tab
theorem ql {w w' : World} (h : Tab w) (hb : Below w.heap.size w w') : Tab w' := by
 have h' : w.var? Tryz.prog "internal/strconv.uint64pow10" = some (Lib.pow10Tab.map fun z => Value.int .u64 z).toArray := h
 show w'.var? Tryz.prog "internal/strconv.uint64pow10" = _
 unfold World.var? at h' ⊢
 cases hg : Tryz.prog.globalNamed "internal/strconv.uint64pow10" with
 | none => rw [hg] at h'; cases h'
 | some g =>
  rw [hg] at h'
  simp only [Option.bind_some] at h' ⊢
  have hlt : g < w.heap.size := by
   rcases Nat.lt_or_ge g w.heap.size with q | q
   ·exact q
   ·rw [Array.getElem?_eq_none q] at h'; cases h'
  rw [hb.block g hlt]; exact h'
theorem eP {ok : Nat → Prop} {w0 w : World} {own : List Ent} {fs : List Fact} (h : Tab w0) (hS : St ok w0 own fs w) : Tab w := ql h hS.below
theorem oF (w : World) (k : Nat) (os : Array Obj) : Below w.heap.size w (Sort.grow (w.drewN k) os) := by
 have hh : (Sort.grow (w.drewN k) os).heap = w.heap ++ os := rfl
 refine ⟨rfl, rfl, rfl, by rw [hh]; simp, fun q hq => ?_⟩
 rw [hh, Array.getElem?_append_left hq]
theorem oE {n : Nat} {w : World} (hn : n ≤ 9223372036854775807) (hT : Tab w) :
  Cw 231 #[.int .i64 (n : Int)] w (.string (S (Lib.decDigits n))) :=
 (tb n (by omega) (by omega) w hT).mono fun _ _ ⟨h1, k, os, h2⟩ => ⟨by rw [h1, Lib.itoa, if_neg (by omega), Int.toNat_natCast]; rfl, by rw [h2]; exact oF w k os⟩
theorem mr (k s : Bs) : (mac k s).length = 32 := fU _
def sW (at_ a b : Nat) : Bs := Lib.decDigits at_ ++ [46] ++ Lib.decDigits a ++ [46] ++ Lib.decDigits b
def fO (sd : Bs) (at_ a b : Nat) : Bs := mac sd (sW at_ a b)
def kR (sd : Bs) (at_ a : Nat) : Nat → Bs
 | 0 => []
 | k + 1 => kR sd at_ a k ++ fO sd at_ a k
theorem kC (sd : Bs) (at_ a : Nat) : ∀ k, (kR sd at_ a k).length = 32 * k
 | 0 => rfl
 | k + 1 => by rw [kR, List.length_append, kC sd at_ a k, fO, mr]; omega
def o4 (nb : Nat) : Nat := (nb + 7) / 8
def mL (sd : Bs) (at_ a nb : Nat) : Bs := (kR sd at_ a ((o4 nb + 31) / 32)).take (o4 nb)
def kS (sd : Bs) (at_ a nb : Nat) : Bs := ae (val (mL sd at_ a nb) % 2 ^ nb)
theorem s4 (c : UInt8) (r : Bs) (x nb : Nat) (hx : x ≤ 8) (hn : nb = 8 * r.length + x) : val (c :: r) % 2 ^ nb = c.toNat % 2 ^ x * 256 ^ r.length + val r := by
 have e : 2 ^ nb = 256 ^ r.length * 2 ^ x := by rw [hn, Nat.pow_add, Nat.pow_mul]
 have h1 := aK r
 rw [val, e, Nat.mod_mul, Nat.mul_comm c.toNat, Nat.mul_add_mod, Nat.mod_eq_of_lt h1, Nat.mul_add_div (iG _), Nat.div_eq_of_lt h1, Nat.add_zero, Nat.mul_comm (c.toNat % 2 ^ x)]
 omega
theorem wE {sd X : Bs} {at_ a nb Z x : Nat} (hZ : Z = o4 nb) (hZ0 : 1 ≤ Z) (hby : mL sd at_ a nb = X.take Z) (hX : Z ≤ X.length) (hx : x = (X.getD 0 default).toNat % 2 ^ (8 - (8 * Z - nb))) (hnb : nb ≤ 8 * Z) (hnb2 : 8 * Z < nb + 8) :
  ae (val ([UInt8.ofNat x] ++ (X.take Z).drop 1)) = kS sd at_ a nb := by
 have e : X.take Z = X.getD 0 default :: (X.take Z).drop 1 := by
  cases X with
  | nil => simp at hX; omega
  | cons c s => obtain ⟨q, rfl⟩ : ∃ q, Z = q + 1 := ⟨Z - 1, by omega⟩; rfl
 have hl : ((X.take Z).drop 1).length = Z - 1 := by rw [List.length_drop, List.length_take]; omega
 have hc := (X.getD 0 default).toNat_lt
 have hxl : x < 256 := by rw [hx]; exact Nat.lt_of_le_of_lt (Nat.mod_le _ _) hc
 have hm := s4 (X.getD 0 default) ((X.take Z).drop 1) (8 - (8 * Z - nb)) nb (by omega) (by rw [hl]; omega)
 rw [kS, hby]
 congr 1
 rw [show val (X.take Z) = val (X.getD 0 default :: (X.take Z).drop 1) by rw [← e], hm, List.singleton_append, val, UInt8.toNat_ofNat', ← hx]
 congr 1
 rw [Nat.mod_eq_of_lt (by omega)]
def itB {σ : Type} (sd : Bs) (at_ a : Nat) (after : σ → Bs → σ) (stop : σ → Bs → Option Code) : Nat → Nat → σ → σ × Option Code
 | 0, _, s => (s, none)
 | f + 1, b, s => if (stop s (fO sd at_ a b)).isSome then (after s (fO sd at_ a b), stop s (fO sd at_ a b)) else itB sd at_ a after stop f (b + 1) (after s (fO sd at_ a b))
section
variable {σ : Type} {sd : Bs} {at_ a : Nat} {after : σ → Bs → σ} {stop : σ → Bs → Option Code} {K b : Nat} {s : σ}
theorem nr (h : b < K) (hs : (stop s (fO sd at_ a b)).isSome = true) : itB sd at_ a after stop (K - b) b s = (after s (fO sd at_ a b), stop s (fO sd at_ a b)) := by
 rw [show K - b = (K - b - 1) + 1 by omega, itB, if_pos hs]
theorem td (h : b < K) (hs : stop s (fO sd at_ a b) = none) : itB sd at_ a after stop (K - b) b s = itB sd at_ a after stop (K - (b + 1)) (b + 1) (after s (fO sd at_ a b)) := by
 rw [show K - b = (K - (b + 1)) + 1 by omega, itB, if_neg (by simp [hs])]
theorem xZ (h : b ≤ K) {s0 : σ} (hi : itB sd at_ a after stop (K - b) b s = itB sd at_ a after stop K 0 s0) (hs : (itB sd at_ a after stop K 0 s0).2.isSome = true) : b < K := by
 rcases Nat.lt_or_ge b K with q | q
 ·exact q
 ·rw [← hi, show K - b = 0 by omega, itB] at hs; cases hs
end
theorem t8 {t : Tp} {x : Value} {a : Int} {own0 : List Ent} {ok : Nat → Prop} {w0 : World} {fs : List Fact} {w : World} (hS0 : St ok w0 (own0) (fs) w) :
  Calls Tryz.prog 194 #[.agg #[x, .string (S t.seed), .int .i64 t.at_], .int .i64 a] w fun e w' => ∃ g : Nat × Nat, e = .returned (.func (.func 230) #[] #[.pointer (some ⟨g.1, 0, none⟩), .pointer (some ⟨g.2, 0, none⟩)]) ∧ St ok w0 (⟨some g.2, [.int .i64 a], 3⟩ :: ⟨some g.1, [x, .string (S t.seed), .int .i64 t.at_], 41⟩ :: own0) fs w' := by
 refine enter (S := St ok w0 (own0) (fs)) (L := [(0, .agg #[x, .string (S t.seed), .int .i64 t.at_]), (1, .int .i64 a)]) Tryz.func194 rfl Tryz.ntmps194 rfl (Ac rfl (Ac rfl (An _))) hS0 ?_
 refine Cs ?_
 refine Kh rfl (Oy rfl rfl) ?_
 intro b2
 refine Kh rfl (Oy rfl rfl) ?_
 intro b3
 refine Ka rfl (Nt (Cs (Kq rfl (cE rfl rfl rfl) (Ka rfl (Nt (Ce ?_))))))
 exact Rn rfl (.tmp rfl .nil) fun w' hS => ⟨(b2, b3), rfl, hS⟩
theorem y8 {σ γ : Type} {CO : σ → γ → List Ent} {pg : σ → γ → Prop} {inv : σ → Bs → Prop} {after : σ → Bs → σ} {stop : σ → Bs → Option Code} {l : Nat} {r : Loop} {ok : Nat → Prop} {w0 : World} {fs : List Fact} {w : World} {sd : Bs} {x : Value} {at_ a : Nat} {b1 b2 : Nat} {s0 : σ} {K : Nat} [∀ s g, HasE (CO s g) b1 [x, .string (S sd), .int .i64 (at_ : Int)] 41] [∀ s g, HasE (CO s g) b2 [.int .i64 (a : Int)] 3] {g0 : γ} (hY : YOk Tryz.prog l r ok w0 fs CO pg inv after stop (fun s : Bs => #[Value.string (S s)])) (hS0 : St ok w0 (CO s0 g0) (Fact.lp l (rcd r none) :: fs) w) (hg0 : pg s0 g0) (hsd : sd.length ≤ 400000) (hat : at_ ≤ 4294967296) (ha : a ≤ 1000) (hK : K ≤ 100000) (hinv : ∀ s x, x.length = 32 → inv s x) (hstop : (itB sd at_ a after stop K 0 s0).2.isSome = true) (hT : Tab w0) :
  Calls Tryz.prog 230 #[.func (.yield l) #[] #[], .pointer (some ⟨b1, 0, none⟩), .pointer (some ⟨b2, 0, none⟩)] w fun e w' => (∃ v, e = .returned v) ∧ ∃ g', ((itB sd at_ a after stop K 0 s0).2 = none → pg ((itB sd at_ a after stop K 0 s0).1) g') ∧ St ok w0 (CO ((itB sd at_ a after stop K 0 s0).1) g') (Fact.lp l (rcd r ((itB sd at_ a after stop K 0 s0).2)) :: fs) w' := by
 have hd1 := gi 18 at_ (by omega); have hd2 := gi 18 a (by omega)
 refine enter (S := St ok w0 (CO s0 g0) (Fact.lp l (rcd r none) :: fs)) (L := [(0, .func (.yield l) #[] #[]), (1, .pointer (some ⟨b1, 0, none⟩)), (2, .pointer (some ⟨b2, 0, none⟩))]) Tryz.func230 rfl Tryz.ntmps230 rfl (Ac rfl (Ac rfl (Ac rfl (An _)))) hS0 ?_
 refine Cs (Ka rfl (Nt (Cb ?_)))
 refine Lo (σ := Nat × σ × γ) [(0, _), (1, _), (2, _)] (fun gq => [(4, .int .i64 (gq.1 : Int))]) (fun gq => gq.1 ≤ K ∧ pg gq.2.1 gq.2.2 ∧ itB sd at_ a after stop (K - gq.1) gq.1 gq.2.1 = itB sd at_ a after stop K 0 s0) (fun gq => K - gq.1) (fun gq => CO gq.2.1 gq.2.2) (fun gq => Fact.lp l (rcd r none) :: fs) (0, s0, g0) (S3 rfl rfl rfl) (S1 rfl) (by (try dsimp only); exact ⟨Nat.zero_le _, hg0, rfl⟩) (by (exact fun _ h => h)) ?_
 rintro ⟨b, s, g⟩ hinv1; (try dsimp only at hinv1 ⊢)
 obtain ⟨hp, hgs, hi⟩ := hinv1
 have hlt := xZ hp hi hstop
 have hd3 := gi 18 b (by omega)
 refine Cq (Cb (Cq ?_))
 refine Cf [0, 1, 2, 4, 5, 8, 9, 3, 6, 7, 10, 11] [] [0, 0, 1, 0, 0, 1, 0, 0, 0, 1, 0, 0] (by kernel_rfl) (by kernel_rfl) rfl ?_
 (refine Kj rfl (cU rfl rfl u41 rfl (by kernel_rfl) (by (try simp only [sN, Int.reduceToNat, Nat.reduceAdd, Nat.reduceMul, Nat.reduceSub]); rfl)) ?_)
 refine Kj rfl (Ld rfl rfl .tc u3) ?_
 refine Jv rfl rfl rfl rfl rfl (fun ext => Oc rfl rfl (Kv fun w hS => oE (by omega) (by (exact eP hT hS)))) ?_
 refine Kj rfl (Ld rfl rfl .tc u3) ?_
 refine Jv rfl rfl rfl rfl rfl (fun ext => Oc rfl rfl (Kv fun w hS => oE (by omega) (by (exact eP hT hS)))) ?_
 refine Kj rfl (Rm rfl rfl) ?_
 refine Jv rfl rfl rfl rfl rfl (fun ext => Oc rfl rfl (Kv fun w hS => oE (by omega) (by (exact eP hT hS)))) ?_
 refine Kj rfl (fy rfl rfl rfl ?_) ?_
 ·((try simp only [List.length_append, List.length_cons, List.length_nil]); omega)
 refine Kj rfl (fy rfl rfl rfl ?_) ?_
 ·((try simp only [List.length_append, List.length_cons, List.length_nil]); omega)
 refine Kj rfl (fy rfl rfl rfl ?_) ?_
 ·((try simp only [List.length_append, List.length_cons, List.length_nil]); omega)
 refine Kj rfl (fy rfl rfl rfl ?_) ?_
 ·((try simp only [List.length_append, List.length_cons, List.length_nil]); omega)
 refine Kj rfl (Ra rfl rfl) ?_
 refine WJ.nil ?_
 refine Nt (Cs (Km rfl ?_))
 (refine Kq rfl (cU rfl rfl u41 rfl (by kernel_rfl) (by (try simp only [sN, Int.reduceToNat, Nat.reduceAdd, Nat.reduceMul, Nat.reduceSub]); rfl)) ?_)
 refine Kq rfl (Ld rfl rfl .tc u9) ?_
 refine Km rfl ?_
 refine Ku rfl (Oc rfl rfl (Kv fun w hS => yB (key := sd) (s := sW at_ a b) (by omega) (by simp only [sW, List.length_append, List.length_cons, List.length_nil]; omega))) ?_
 refine Kh rfl (dq hY [] (fO sd at_ a b) rfl rfl rfl rfl (hinv _ _ (mr _ _)) (hgs)) ?_
 intro gy; refine WL.pu ?_; intro hgy; (refine WL.app0 ?_)
 refine Yt rfl (Nt ?_)
 refine Cd rfl (fun hc25 => ?_) (fun hc25 => ?_)
 ·(try simp only [sB] at hc25)
  refine Ce (Xf (Xb (Xb (Xf ?_))))
  exact Rn rfl .nil fun w' hS => ⟨⟨_, rfl⟩, gy, by rw [← hi, nr hlt (by simpa using hc25)]; exact hgy, by rw [← hi, nr hlt (by simpa using hc25)]; dsimp only; exact aq _ hS⟩
 ·(try simp only [sB] at hc25)
  have hst : stop s (fO sd at_ a b) = none := by simpa using hc25
  rw [hst]
  refine Ck (Xd (Xa (Cg (Km rfl (Kq rfl (Rz rfl rfl rfl (by omega)) (Ka rfl (Nn ?_)))))))
  refine Lx ((b + 1, after s (fO sd at_ a b), gy)) (by (try dsimp only); omega) (S3 rfl rfl rfl) (by refine (Sc ?_ (S0 _)) <;> (rfl)) ?_ (by (exact fun _ h => h))
  (try dsimp only)
  exact ⟨by omega, hgy hst, (td hlt hst).symm.trans hi⟩
theorem jM (l : List UInt8) : Lib.strCells (S l) = l.map B := by simp [Lib.strCells, S, B]
section
variable {ds : List Deferred} {P : Program} {o : Oper} {n : Nat} {L : ak} {ok : Nat → Prop} {w0 : World} {own : List Ent} {C : Ent → List Ent} {fs : List Fact} {x y : Operand} {t u e : TypeId} {xs : List Value}
theorem sc {w : World} {own : List Ent} {kk : Nat} {ob : Option Nat} {len cap : Nat} {sp : List Value} {l : List UInt8} {ty : TypeId} (hS : St ok w0 own fs w) (hk : own[kk]? = some ⟨ob, xs ++ sp, e⟩)
  (hu : P.underlying t = some (.slice e)) (hv : P.underlying u = some .string) (hi : (P.info? e).map (fun i => (i.zero, i.size, i.bytes)) = some (some (.int .u8 0), 1, 1))
  (hxl : xs.length = len) (hcap : cap = len + sp.length) (hb : len + l.length ≤ 140737488355328) (hzz : ob = none ∨ 0 < cap) :
  ∃ (g : Gr) (w' : World), (Builtin.append_ #[t, u] ty #[.slice (ob.map fun b => ⟨b, 0, none⟩) len cap, .string (S l)]).run P w = .ok (.slice (g.ob.map fun b => ⟨b, 0, none⟩) (len + l.length) g.cap) w' ∧ (g.cap = len + l.length + g.sp.length ∧ (g.ob = none ∨ 0 < g.cap)) ∧ St ok w0 (own.set kk ⟨g.ob, (xs ++ l.map B) ++ g.sp, e⟩) fs w' := by
 obtain ⟨i', hi', hz, hs, hbb⟩ := info_parts hi
 have hsz : (S l).size = l.length := gO l
 have htake : (xs ++ sp).take len = xs := by rw [← hxl]; simp
 have zlen : ∀ q, (Builtin.zeroCells (Value.int .u8 0).cells q).toList = List.replicate q (.int .u8 0) := fun q => gP _ q
 have hsame : own.set kk ⟨ob, xs ++ sp, e⟩ = own := by
  apply List.ext_getElem?; intro q
  by_cases hq : kk = q
  ·subst hq; rw [List.getElem?_set_self (List.getElem?_eq_some_iff.1 hk).1, hk]
  ·rw [List.getElem?_set_ne hq]
 cases ob with
 | none =>
  have hcs : xs ++ sp = [] := hS.own_ _ (List.mem_of_getElem? hk)
  obtain ⟨rfl, rfl⟩ : xs = [] ∧ sp = [] := by simpa using hcs
  obtain rfl : len = 0 := by simpa using hxl.symm
  obtain rfl : cap = 0 := by simpa using hcap
  by_cases h0 : l.length = 0
  ·have hl : l = [] := List.eq_nil_of_length_eq_zero h0
   subst hl
   refine ⟨⟨none, 0, []⟩, w, ?_, ⟨rfl, .inl rfl⟩, by show St ok w0 (own.set kk ⟨none, [] ++ [], e⟩) fs w; rw [hsame]; exact hS⟩
   simp [Builtin.append_, run_underlying hu, run_underlying hv, sizeOf, typeInfo, hi', hs, Builtin.lenOf, S, Builtin.firstCells, ByteArray.size]
  ·have hrun := run_append_nil_string (P := P) w t u ty e i' (.int .u8 0) hu hv hi' hz (S l) (by omega) (by omega) (by rw [hbb, hsz]; omega)
   rw [hsz] at hrun
   refine ⟨⟨some w.heap.size, grownCap w l.length 0 e, List.replicate (grownCap w l.length 0 e - l.length) (.int .u8 0)⟩, _, by simpa using hrun, ?_, ?_⟩
   ·have := grownCap_ge w l.length 0 e; exact ⟨by simp; omega, .inr (by show 0 < grownCap w l.length 0 e; omega)⟩
   ·have := (hS.draw.alloc (l.map B ++ List.replicate (grownCap w l.length 0 e - l.length) (.int .u8 0)) e).replace kk
    have e1 : ((S l).data.map (fun b => Value.int .u8 b.toNat) ++ Builtin.zeroCells (Value.int .u8 0).cells (grownCap w l.length 0 e - l.length)) = (l.map B ++ List.replicate (grownCap w l.length 0 e - l.length) (Value.int .u8 0)).toArray := by
     apply Array.ext'; simp [zlen, S, B]
    simp only [List.nil_append]
    rw [e1]; exact this
 | some b' =>
  have hbk := hS.block hk
  by_cases hroom : len + l.length ≤ cap
  ·have hrun := Lib.run_append_room_string (P := P) w t u ty e i' hu hv hi' hs b' len cap (xs ++ sp).toArray hbk (S l) (by omega) (by simp [hsz]; omega)
   rw [hsz, jM] at hrun
   refine ⟨⟨some b', cap, (xs ++ sp).drop (len + l.length)⟩, _, hrun, ?_, ?_⟩
   ·exact ⟨by simp; omega, .inr (hzz.resolve_left (by simp))⟩
   ·have := hS.setRow hk (xs ++ l.map B ++ (xs ++ sp).drop (len + l.length))
    simp only [htake]; exact this
  ·have hrun := Lib.run_append_grow_string (P := P) w t u ty e i' (.int .u8 0) hu hv hi' hz ⟨b', 0, none⟩ len cap xs (by rw [hs]; omega) (fun q v hq => by
     rw [Addr.add_lit, Nat.zero_add, di hbk]
     rw [List.getElem?_append_left (List.getElem?_eq_some_iff.1 hq).1]; exact hq) (S l) (by omega) (by omega) (by rw [hbb, hsz]; exact growslice_fits (by omega) (by omega))
   rw [hsz, jM] at hrun
   refine ⟨⟨some w.heap.size, grownCap w (len + l.length) cap e, List.replicate (grownCap w (len + l.length) cap e - (len + l.length)) (.int .u8 0)⟩, _, hrun, ?_, ?_⟩
   ·have := grownCap_ge w (len + l.length) cap e; exact ⟨by simp; omega, .inr (by show 0 < grownCap w (len + l.length) cap e; omega)⟩
   ·have := (hS.draw.alloc (xs ++ l.map B ++ List.replicate (grownCap w (len + l.length) cap e - (len + l.length)) (.int .u8 0)) e).replace kk
    have e1 : (xs.toArray ++ (l.map B).toArray ++ Builtin.zeroCells (Value.int .u8 0).cells (grownCap w (len + l.length) cap e - (len + l.length))) = (xs ++ l.map B ++ List.replicate (grownCap w (len + l.length) cap e - (len + l.length)) (Value.int .u8 0)).toArray := by
     apply Array.ext'; simp [zlen]
    rw [e1]; exact this
theorem zJ {len cap : Nat} {ob : Option Nat} {sp : List Value} {l : List UInt8} (hop : o.op = .call { callee := .builtin .append, args := #[x, y], argTypes := #[t, u] }) (hu : P.underlying t = some (.slice e)) (hv : P.underlying u = some .string) (hi : (P.info? e).map (fun i => (i.zero, i.size, i.bytes)) = some (some (.int .u8 0), 1, 1))
  (hk : Ctx own ⟨ob, xs ++ sp, e⟩ C) (hx : ag L x = some (.slice (ob.map fun b => ⟨b, 0, none⟩) len cap)) (hy : ag L y = some (.string (S l)))
  (hb : xs.length = len ∧ cap = len + sp.length ∧ len + l.length ≤ 140737488355328 ∧ (ob = none ∨ 0 < cap)) :
  Og ds P o n L (St ok w0 own fs) (fun g : Gr => .slice (g.ob.map fun b => ⟨b, 0, none⟩) (len + l.length) g.cap) (fun g w => (g.cap = len + l.length + g.sp.length ∧ (g.ob = none ∨ 0 < g.cap)) ∧ St ok w0 (C ⟨g.ob, (xs ++ l.map B) ++ g.sp, e⟩) fs w) :=
 cj fun a hF w hS => by
  obtain ⟨kk, hkk, hC⟩ := hk.get
  obtain ⟨g, w', hrun, hp, hS'⟩ := sc (P := P) (ty := o.type) hS hkk hu hv hi hb.1 hb.2.1 hb.2.2.1 hb.2.2.2
  refine ⟨g, w', .inl ?_, hp, by rw [hC]; exact hS'⟩
  simp [execOp, hop, resolve, invoke, builtin, hF.eval hx, hF.eval hy, hrun]
end
section
variable {ds : List Deferred} {ρ : Option Nat} {P : Program} {Q : Exit → Act → World → Prop} {n : Nat} {L : ak} {Z : World → Prop} {p : Prop} {ops rest : List Oper}
theorem WL.know (h : ∀ w, Z w → p) (k : p → WL ds P ops Q n rest L Z) : WL ds P ops Q n rest L Z := fun a w hF hS => k (h w hS) a w hF hS
end
def fe (s x : Bs) : Bs := s ++ x
def em (Z : Nat) (s x : Bs) : Option Code := if Z ≤ s.length + x.length then some (.exit 0) else none
theorem pL (sd : Bs) (at_ a Z : Nat) (hZ : 1 ≤ Z) : ∀ (d b : Nat), b + d = (Z + 31) / 32 → 1 ≤ d → itB sd at_ a fe (em Z) d b (kR sd at_ a b) = (kR sd at_ a ((Z + 31) / 32), some (.exit 0))
 | 0, b, h, h1 => by omega
 | d + 1, b, h, h1 => by
  have hl := kC sd at_ a b
  have hm : (fO sd at_ a b).length = 32 := mr _ _
  rw [itB]
  by_cases hd : d = 0
  ·subst hd
   have hs : em Z (kR sd at_ a b) (fO sd at_ a b) = some (.exit 0) := by rw [em, if_pos (by omega)]
   rw [hs]; simp only [Option.isSome_some, if_true]; rw [← h]; rfl
  ·have hs : em Z (kR sd at_ a b) (fO sd at_ a b) = none := by rw [em, if_neg (by omega)]
   rw [hs, if_neg (by simp)]
   exact pL sd at_ a Z hZ d (b + 1) (by omega) (by omega)
abbrev ACO (x : Value) (sd : Bs) (at_ a Z : Nat) (g : Nat × Nat) (b8 b7 b3 : Nat) (s : Bs) (q : Option Nat × List Value) : List Ent :=
 [⟨q.1, s.map B ++ q.2, 5⟩, ⟨some g.2, [.int .i64 (a : Int)], 3⟩, ⟨some g.1, [x, .string (S sd), .int .i64 (at_ : Int)], 41⟩, ⟨some b8, [.slice (q.1.map fun b => ⟨b, 0, none⟩) s.length (s.length + q.2.length)], 140⟩, ⟨some b7, [.int .i64 (Z : Int)], 3⟩, ⟨some b3, [x, .string (S sd), .int .i64 (at_ : Int)], 41⟩]
theorem yA (c : UInt8) (d : Nat) (hd : d ≤ 7) : bits .and .u8 (c.toNat : Int) (Int.fdiv 255 (2 ^ (min ((d : Nat) : Int).toNat IntKind.u8.bits))) = ((UInt8.ofNat (c.toNat % 2 ^ (8 - d))).toNat : Int) := by
 have h1 := c.toNat_lt
 have e : Int.fdiv 255 (2 ^ (min ((d : Nat) : Int).toNat IntKind.u8.bits)) = ((2 ^ (8 - d) - 1 : Nat) : Int) := by
  have key : ∀ q, q ≤ 7 → Int.fdiv 255 (2 ^ (min ((q : Nat) : Int).toNat IntKind.u8.bits)) = ((2 ^ (8 - q) - 1 : Nat) : Int) := by decide
  exact key d hd
 have h2 : 2 ^ (8 - d) ≤ 2 ^ 8 := Nat.pow_le_pow_right (by decide) (by omega)
 have h3 : c.toNat % 2 ^ (8 - d) < 256 := Nat.lt_of_le_of_lt (Nat.mod_le _ _) h1
 rw [e, u8_and_nat _ _ (by omega) (by omega), Nat.and_two_pow_sub_one_eq_mod, UInt8.toNat_ofNat', Nat.mod_eq_of_lt (a := c.toNat % 2 ^ (8 - d)) (b := 2 ^ 8) (by omega)]
theorem rq {vx : Value} {sd : Bs} {at_ aa nb : Nat} {w : World} (hsd : sd.length ≤ 400000) (hat : at_ ≤ 4294967296) (ha : aa ≤ 1000) (hnb : 1 ≤ nb) (hnb2 : nb ≤ 100000) (hT : Tab w) :
  Cw 148 #[.agg #[vx, .string (S sd), .int .i64 (at_ : Int)], .int .i64 (aa : Int), .int .i64 (nb : Int)] w (.string (S (kS sd at_ aa nb))) := by
 obtain ⟨Z, hZ⟩ : ∃ Z : Nat, Z = o4 nb := ⟨_, rfl⟩
 have hZ1 : Z = (nb + 7) / 8 := hZ
 have hZ0 : 1 ≤ Z := by omega
 have hZl : Z ≤ 20000 := by omega
 have hit := pL sd at_ aa Z hZ0 ((Z + 31) / 32) 0 (by omega) (by omega)
 change itB sd at_ aa fe (em Z) ((Z + 31) / 32) 0 [] = _ at hit
 refine kx (S := St (fun _ => True) w [] ([])) (L := [(0, .agg #[vx, .string (S sd), .int .i64 (at_ : Int)]), (1, .int .i64 (aa : Int)), (2, .int .i64 (nb : Int))]) Tryz.func148 rfl Tryz.ntmps148 rfl (Ac rfl (Ac rfl (Ac rfl (An _)))) (St.start (fun _ _ => trivial) Fn) ?_
 refine Cs ?_
 refine Kh rfl (Oy rfl rfl) ?_
 intro b3
 refine Ka rfl (Nt (Cs (Km rfl (Kq rfl (Rz rfl rfl rfl (by omega)) (Kq rfl (bF rfl rfl rfl (by omega)) (Ns 12 rfl (v' := .int .i64 ((Z : Nat) : Int)) (congrArg (Value.int .i64) (by omega)) ?_))))))
 refine Kh rfl (Oa rfl (v := (.int .i64 0)) (cs := [.int .i64 0]) (by kernel_rfl) rfl) ?_
 intro b7
 refine Ng rfl rfl (st rfl rfl rfl .tc (by kernel_rfl) rfl ?_ (by (simp only [List.set_cons_zero, List.set_cons_succ]; rfl))) ?_
 ·decide
 intro _
 refine Nt (Cs ?_)
 refine Kh rfl (Oa rfl (v := (.slice none 0 0)) (cs := [.slice none 0 0]) (by kernel_rfl) rfl) ?_
 intro b8
 refine Nt (Cq (Cs ?_))
 refine Kq rfl (lda rfl rfl .tc u41 rfl ?_) ?_
 ·kernel_rfl
 refine Km rfl ?_
 refine Kh rfl (Oc rfl rfl (fun w hS => t8 (t := ⟨[], sd, (at_ : Int)⟩) hS)) ?_
 intro g15
 refine Nt (Cb ?_)
 refine WC.range (CO := ACO vx sd at_ aa Z g15 b8 b7 b3) (pg := fun s q => s.length ≤ 30000 ∧ (q.1 = none ∨ 0 < s.length + q.2.length)) (inv := fun s y => y.length = 32) (after := fe) (stop := em Z) (enc := fun s : Bs => #[Value.string (S s)]) ([]) ((none, [])) ((itB sd at_ aa fe (em Z) ((Z + 31) / 32) 0 []).1) ((itB sd at_ aa fe (em Z) ((Z + 31) / 32) 0 []).2) (⟨Nat.zero_le _, .inl rfl⟩) rfl (by kernel_rfl) (fun _ => rfl) (by exact fun w h => h.nil _) ?_ (fun l r D w hl hY hS => y8 (K := (Z + 31) / 32) (sd := sd) (at_ := at_) (a := aa) (x := vx) hY hS ⟨Nat.zero_le _, .inl rfl⟩ hsd hat ha (by omega) (fun s y h => h) (by rw [hit]; rfl) hT) ?_ ?_
 ·intro l r D f a s g x ext wr hl hi hpg hF hS
  rw [pO]
  refine ep (Fr.tm (hF.put (d := 16) rfl _)) hS ?_
  refine WR.region (by kernel_rfl) ?_
  refine Ka rfl (Nn ?_)
  refine WX.begin hl ?_
  refine Cb ?_
  refine WR.sr (by kernel_rfl) ?_
  refine Kq rfl (Ld rfl rfl .tc aB) ?_
  refine Km rfl ?_
  refine Kh rfl (zJ rfl aB u9 (by kernel_rfl) .tc rfl rfl ?_) ?_
  ·exact ⟨by simp, rfl, by have hi' : x.length = 32 := hi; omega, hpg.2⟩
  rintro ⟨o19, c19, s19⟩
  refine WL.pu ?_
  intro hg19; (try dsimp only at hg19 ⊢)
  refine Ng rfl rfl (st rfl rfl rfl .tc (by kernel_rfl) rfl ?_ (by (simp only [List.set_cons_zero, List.set_cons_succ]; rfl))) ?_
  ·(simp; done)
  intro _
  refine Nt ?_
  refine WR.sr (by kernel_rfl) ?_
  refine Kq rfl (Ld rfl rfl .tc aB) ?_
  refine Yo rfl aB (Kq rfl (Ld rfl rfl .tc u3) ?_)
  refine Yh rfl (Nt ?_)
  refine Cd rfl (fun hc23 => ?_) (fun hc23 => ?_)
  ·(try simp only [sB] at hc23)
   refine Cx ?_
   refine WX.block_other rfl ?_
   exact WX.rexit hl fun w' hS => by
    have hi' : x.length = 32 := hi
    have h2 : em Z s x = some (.exit 0) := by rw [em, if_pos (by omega)]
    rw [h2]
    refine ⟨rfl, (o19, s19), fun h => (by cases h), ?_⟩
    simp only [ACO, fe, List.map_append, List.length_append]
    rw [hg19.1] at hS
    exact hS
  ·(try simp only [sB] at hc23)
   refine Ck (Xd ?_)
   exact WX.rnext hl fun w' hS => by
    have hi' : x.length = 32 := hi
    have h2 : em Z s x = none := by rw [em, if_neg (by omega)]
    rw [h2]
    refine ⟨rfl, (o19, s19), fun _ => ⟨by simp only [fe, List.length_append]; omega, by simp only [fe, List.length_append]; rw [← hg19.1]; exact hg19.2⟩, ?_⟩
    simp only [ACO, fe, List.map_append, List.length_append]
    rw [hg19.1] at hS
    exact hS
 ·intro D1 g1 hD1 hg1 hcf
  exfalso; rw [hit] at hcf; cases hcf -- done
 ·intro D1 g1 c hD1 hcf
  obtain rfl : c = .exit 0 := by (rw [hit] at hcf; cases hcf; rfl)
  refine Cx (Xe ?_)
  rw [hit]; dsimp only [ACO]
  have hbl := kC sd at_ aa ((Z + 31) / 32)
  have hby : mL sd at_ aa nb = (kR sd at_ aa ((Z + 31) / 32)).take Z := by rw [mL, ← hZ]
  generalize kR sd at_ aa ((Z + 31) / 32) = X at *
  obtain ⟨c, X', rfl⟩ : ∃ c X', X = c :: X' := by cases X with
   | nil => simp at hbl; omega
   | cons c X' => exact ⟨c, X', rfl⟩
  obtain ⟨q1, q2⟩ := g1
  dsimp only
  have hcl : X'.length + 1 = 32 * ((Z + 31) / 32) := hbl
  refine Xa (Cs ?_)
  refine WL.know (p := ∃ bb, q1 = some bb) (fun w h => by obtain ⟨b, hb, _⟩ := h.ocx (ob := q1) (cs := List.map B (c :: X') ++ q2) .tc (by simp); exact ⟨b, hb⟩) ?_
  rintro ⟨bb, rfl⟩
  dsimp only [Option.map_some]
  refine Kq rfl (Ld rfl rfl .tc aB) ?_
  refine Kq rfl (Ld rfl rfl .tc u3) ?_
  refine Kq rfl (sq rfl rfl rfl aB (by kernel_rfl : _ = some 1) ?_ (by (try simp only [sN, Int.reduceToNat, Nat.reduceAdd, Nat.reduceMul, Nat.reduceSub]); rfl)) ?_
  ·omega
  refine Ng rfl rfl (st rfl rfl rfl .tc (by kernel_rfl) rfl ?_ (by (simp only [List.set_cons_zero, List.set_cons_succ]; rfl))) ?_
  ·(simp; done)
  intro _
  refine Nt (Cq (Cs (Kq rfl (Ld rfl rfl .tc u3) ?_)))
  refine Yg rfl (Nt ?_)
  refine Cd rfl (fun hc28 => ?_) (fun hc28 => by exfalso; (try simp only [sB] at hc28); omega)
  (try simp only [sB] at hc28)
  refine Cf [0, 1, 2, 3, 4, 5, 6, 7, 8, 9] [10] [0, 0, 0, 0, 0, 0, 0, 0, 0, 0, 2] (by kernel_rfl) (by kernel_rfl) rfl ?_
  refine Kj rfl (Ld rfl rfl .tc aB) ?_
  refine Kj rfl (Ja rfl rfl rfl aB (by kernel_rfl : _ = some 1) (by omega)) ?_
  refine Kj rfl (Ld rfl rfl .tc u5) ?_
  refine Kj rfl (Ld rfl rfl .tc u3) ?_
  refine Kj rfl (dd rfl rfl rfl (by omega)) (Kj rfl (Rm rfl rfl) (Kj rfl (aP rfl rfl rfl (by omega)) ?_))
  refine Kj rfl (gF rfl rfl rfl ?_) ?_
  ·omega
  refine Kj rfl (l6 rfl rfl rfl) ?_
  refine WJ.set 37 rfl (v' := B (UInt8.ofNat (c.toNat % 2 ^ (8 - (8 * Z - nb))))) (by exact congrArg (Value.int .u8) (yA c (8 * Z - nb) (by omega))) ?_
  refine Kj rfl (Ja rfl rfl rfl aB (by kernel_rfl : _ = some 1) (by omega)) ?_
  refine WJ.nil ?_
  refine Ng rfl rfl (st rfl rfl rfl .tc (by kernel_rfl) rfl ?_ (by rfl)) ?_
  ·(simp; done)
  intro _
  refine Nn ?_
  obtain ⟨y, hy⟩ : ∃ y : Bs, y = (UInt8.ofNat (c.toNat % 2 ^ (8 - (8 * Z - nb))) :: X').take Z := ⟨_, rfl⟩
  have hyl : y.length = Z := by rw [hy, List.length_take, List.length_cons]; omega
  have hya : ae (val y) = kS sd at_ aa nb := by
   have := wE (sd := sd) (at_ := at_) (a := aa) (nb := nb) (X := c :: X') (x := c.toNat % 2 ^ (8 - (8 * Z - nb))) hZ hZ0 hby (by simp only [List.length_cons]; omega) rfl (by omega) (by omega)
   rw [← this, hy]; obtain ⟨q, rfl⟩ : ∃ q, Z = q + 1 := ⟨Z - 1, by omega⟩; rfl
  refine Xa (Cq (Cb ?_))
  refine Lo (σ := Bs × (Option Addr) × Nat) [(8, _)] (fun gq => []) (fun gq => cb gq.1 = cb y ∧ gq.1.length ≤ gq.2.2 ∧ gq.1.length ≤ Z) (fun gq => gq.1.length) (fun gq => [⟨some b8, [.slice gq.2.1 gq.1.length gq.2.2], 140⟩]) (fun gq => [Fact.sl gq.2.1 (gq.1.map B), Fact.dfr D1]) (y, some ⟨bb, 0, none⟩, (c :: X').length + q2.length) (S1 rfl) (S0 _) (by (try dsimp only); exact ⟨rfl, by rw [hyl]; simp only [List.length_cons]; omega, by omega⟩) (by exact fun w h => by dsimp only; rw [hyl]; exact aq _ (h.freeze (off := 0) (xs := y.map B) (fun i hi => by
    have hi' : i < Z := by rw [List.length_map, hyl] at hi; exact hi
    show ((B (UInt8.ofNat (c.toNat % 2 ^ (8 - (8 * Z - nb)))) :: (X'.map B ++ q2)) : List Value)[0 + i]? = _
    rw [hy, List.map_take, List.getElem?_take, if_pos hi', Nat.zero_add]
    show (((UInt8.ofNat (c.toNat % 2 ^ (8 - (8 * Z - nb))) :: X').map B ++ q2) : List Value)[i]? = _
    rw [List.getElem?_append_left (by simp; omega)]))) ?_
  rintro ⟨t, a', cp⟩ hinv1; (try dsimp only at hinv1 ⊢)
  obtain ⟨ht, htc, htb⟩ := hinv1
  refine Cq (Cs (Kq rfl (Ld rfl rfl .tc aB) ?_))
  refine Yo rfl aB (Yg rfl (Km rfl ?_))
  refine Nb 42 rfl (fun hg42 => ?_) (fun hg42 => ?_)
  ·(try simp only [sB] at hg42)
   refine Kq rfl (Ld rfl rfl .tc aB) ?_
   refine Kq rfl (Ib rfl rfl rfl aB (by omega) (by (rw [List.length_map]; omega))) ?_
   refine Kq rfl (ldm rfl rfl u5 rfl (by omega)) ?_
   refine Yi rfl (Yp rfl (Nt ?_))
   refine Cd rfl (fun hc47 => ?_) (fun hc47 => ?_)
   ·(try simp only [sB] at hc47)
    have hz : (t.getD 0 default).toNat = 0 := by (simp at hc47; exact hc47)
    refine Ck (Xa (Cb (Cg (Kq rfl (Ld rfl rfl .tc aB) ?_))))
    refine Kq rfl (jX rfl rfl rfl aB (by kernel_rfl : _ = some 1) (by omega) (by (try simp only [sN, Int.reduceToNat, Nat.reduceAdd, Nat.reduceMul, Nat.reduceSub]); rfl) (by (try simp only [sN, Int.reduceToNat, Nat.reduceAdd, Nat.reduceMul, Nat.reduceSub]); rfl) (by (try simp only [sN, Int.reduceToNat, Nat.reduceAdd, Nat.reduceMul, Nat.reduceSub]); rfl)) ?_
    refine Ns 49 rfl (v' := .slice (cut a' 1 cp 1) (t.drop 1).length (cp - 1)) (by rw [List.length_drop]) ?_
    refine Ng rfl rfl (st rfl rfl rfl .tc (by kernel_rfl) rfl ?_ (by (simp only [List.set_cons_zero, List.set_cons_succ]; rfl))) ?_
    ·(simp; done)
    intro _
    refine Nn (Xd ?_)
    refine Lx ((t.drop 1, cut a' 1 cp 1, cp - 1)) (by simp only [List.length_drop]; omega) (S1 rfl) (S0 _) ?_ (by exact fun w h => (h.add (f := Fact.sl (cut a' 1 cp 1) ((t.drop 1).map B)) (jn 1 htc (h.fact (Fact.sl a' (t.map B)) (by simp)))).sub (List.Sublist.refl _) (fun f hf => by simp only [List.mem_cons, List.not_mem_nil, or_false] at hf ⊢; rcases hf with h | h <;> simp [h]))
    (try dsimp only)
    exact ⟨by rw [← jK (by omega) hz]; exact ht, by simp only [List.length_drop]; omega, by simp only [List.length_drop]; omega⟩
   ·(try simp only [sB] at hc47)
    refine Cx (Xc (Xc (Xe (Xa (Cs (Kq rfl (Ld rfl rfl .tc aB) ?_))))))
    refine Kq rfl (rp rfl rfl .tc aB u5 u22 ?_) ?_
    ·rfl
    refine Ka rfl (Nt (Ce ?_))
    exact WX.retM1 hD1 rfl (.tmp rfl .nil) fun w' hS => ⟨by rw [← hya, show ae (val y) = t from by rw [← cX, ← ht, cY (by (exact .inr (fun h0 => hc47 (by show ((t.getD 0 default).toNat : Int) = 0; omega))))]]; rfl, hS.below⟩
  ·(try simp only [sB] at hg42)
   refine Kt rfl (Kt rfl (Kt rfl (Kt rfl (Yq rfl (Nt ?_)))))
   refine Cd rfl (fun h => by cases h) (fun _ => ?_)
   refine Cx (Xc (Xc (Xe (Xa (Cs (Kq rfl (Ld rfl rfl .tc aB) ?_))))))
   refine Kq rfl (rp rfl rfl .tc aB u5 u22 ?_) ?_
   ·rfl
   refine Ka rfl (Nt (Ce ?_))
   exact WX.retM1 hD1 rfl (.tmp rfl .nil) fun w' hS => ⟨by rw [← hya, show ae (val y) = t from by rw [← cX, ← ht, cY (by (exact .inl (by omega)))]]; rfl, hS.below⟩
def cS : Tp := ⟨[], [], 0⟩
def dP (t : Tp) (n : Bs) : Nat → Nat → Option Bs
 | 0, _ => none
 | f + 1, a => if ej (kS t.seed t.at_.toNat a (aC n)) n < 0 then some (kS t.seed t.at_.toNat a (aC n)) else dP t n f (a + 1)
def ct (t : Tp) (n : Bs) : Bs × Tp × Int :=
 if t.at_ < t.vals.length then (if 0 ≤ ej (t.vals.getD t.at_.toNat default) n then ([], cS, 2) else (t.vals.getD t.at_.toNat default, ⟨t.vals, t.seed, t.at_ + 1⟩, 0))
 else if t.seed = [] ∨ t.at_ = 2147483647 then ([], cS, 14)
 else match dP t n 256 0 with
  | some x => (x, ⟨t.vals, t.seed, t.at_ + 1⟩, 0)
  | none => ([], cS, 14)
theorem pU {r : Bs × Tp × Int} {n : Int} {ok : Nat → Prop} {w0 w : World} {own : List Ent} {fs : List Fact} {T : TypeId} (hr : r = ([], cS, n)) (hS : St ok w0 own fs w) :
  ∃ g : Rs, Ending.returned (tup [.string (S []), .agg #[.slice none 0 0, .string (S []), .int .i64 0], .int .i64 n]) = Ending.returned (.tuple #[.string (S r.1), r.2.1.v (g.val r.2.1.vals.length), .int .i64 r.2.2]) ∧ g.cap = r.2.1.vals.length + g.sp.length ∧ St ok w0 [g.ent (ao r.2.1.vals) T] [] w := by
 subst hr
 exact ⟨⟨none, 0, []⟩, rfl, rfl, (hS.nil T).sub (List.singleton_sublist.2 (by simp [Rs.ent, cS])) (fun _ h => by cases h)⟩
theorem wS {r : Bs × Tp × Int} {t : Tp} {x : Bs} {q : Rs} {ok : Nat → Prop} {w0 w : World} {own : List Ent} {fs : List Fact} {T : TypeId} (hr : r = (x, ⟨t.vals, t.seed, t.at_ + 1⟩, 0)) (hq : q.cap = t.vals.length + q.sp.length) (hS : St ok w0 own fs w) (hm : q.ent (ao t.vals) T ∈ own) :
  ∃ g : Rs, Ending.returned (tup [.string (S x), .agg #[q.val t.vals.length, .string (S t.seed), .int .i64 (t.at_ + 1)], .int .i64 0]) = Ending.returned (.tuple #[.string (S r.1), r.2.1.v (g.val r.2.1.vals.length), .int .i64 r.2.2]) ∧ g.cap = r.2.1.vals.length + g.sp.length ∧ St ok w0 [g.ent (ao r.2.1.vals) T] [] w := by
 subst hr
 exact ⟨q, rfl, hq, hS.sub (List.singleton_sublist.2 hm) (fun _ h => by cases h)⟩
theorem qZ {t : Tp} {n : Bs} {a : Nat} (h : a < 256) (hc : ej (kS t.seed t.at_.toNat a (aC n)) n < 0) : dP t n (256 - a) a = some (kS t.seed t.at_.toNat a (aC n)) := by
 rw [show 256 - a = (255 - a) + 1 by omega, dP, if_pos hc]
theorem oH {t : Tp} {n : Bs} {a : Nat} (h : a < 256) (hc : ¬ ej (kS t.seed t.at_.toNat a (aC n)) n < 0) : dP t n (256 - a) a = dP t n (256 - (a + 1)) (a + 1) := by
 rw [show 256 - a = (256 - (a + 1)) + 1 by omega, dP, if_neg hc]
theorem yc {t : Tp} {n : Bs} {a : Option Addr} {cap : Nat} {w : World} {ok : Nat → Prop} (hF1 : (Fact.sl a (ao t.vals)).holds ok w) (hl : t.vals.length ≤ 100000) (hg : eD t) (hn : okN n) (hn0 : n ≠ []) (hsd : t.seed.length ≤ 400000) (hT : Tab w) :
  Calls Tryz.prog 87 #[t.v (.slice a t.vals.length cap), .string (S n)] w fun e w' => ∃ g : Rs, e = .returned (.tuple #[.string (S (ct t n).1), (ct t n).2.1.v (g.val (ct t n).2.1.vals.length), .int .i64 (ct t n).2.2]) ∧ g.cap = (ct t n).2.1.vals.length + g.sp.length ∧ St (fun _ => True) w [g.ent (ao (ct t n).2.1.vals) 22] [] w' := by
 have hg1 := hg.1; have hg2 := hg.2.1
 have hbp := rj hn hn0
 have hbl := fP hn.1
 have hq : (⟨some 0, t.vals.length, []⟩ : Rs).cap = t.vals.length + (⟨some 0, t.vals.length, []⟩ : Rs).sp.length := rfl
 refine En [Fact.sl a (ao t.vals)] [(0, t.v (.slice a t.vals.length cap)), (1, .string (S n))] Tryz.func87 rfl Tryz.ntmps87 rfl (Ac rfl (Ac rfl (An _))) (Fc (ah hF1) Fn) ?_
 refine Cs ?_
 refine Kh rfl (Oy rfl rfl) ?_
 intro b2
 refine Ka rfl ?_
 refine Kh rfl (Oz [.slice none 0 0, .string (S []), .int .i64 0] rfl) ?_
 intro b5
 refine Ka rfl (Nt (Cq ?_))
 refine WC.joinP (σ := Unit) [(1, _), (2, _), (5, _)] (fun gq => [(26, .bool (decide (t.at_ < t.vals.length ∧ 0 ≤ ej (t.vals.getD t.at_.toNat default) n)))]) (fun gq => True) (S3 rfl rfl rfl) ?_ ?_
 ·skip
  refine Cg (Kq rfl (Fa (q := 2) rfl rfl u41 rfl rfl) (Kq rfl (Ld rfl rfl .tc u3) ?_))
  refine Kq rfl (Fa (q := 0) rfl rfl u41 rfl rfl) (Kq rfl (Ld rfl rfl .tc u31) ?_)
  refine Yo rfl u31 (Yl rfl (Km rfl ?_))
  refine Nb 16 rfl (fun hg16 => ?_) (fun hg16 => ?_)
  ·(try simp only [sB] at hg16)
   refine Kq rfl (Fa (q := 0) rfl rfl u41 rfl rfl) (Kq rfl (Ld rfl rfl .tc u31) ?_)
   refine Kq rfl (Fa (q := 2) rfl rfl u41 rfl rfl) (Kq rfl (Ld rfl rfl .tc u3) ?_)
   refine Kq rfl (Ib rfl rfl rfl u31 (by omega) (by (rw [List.length_map]; omega))) ?_
   refine Kq rfl (ldm rfl rfl u22 rfl (by omega)) ?_
   refine Km rfl ?_
   refine Ku rfl (Oc rfl rfl (Kv fun w hS => dT (a := t.vals.getD t.at_.toNat default) (b := n))) ?_
   refine Yh rfl (Yp rfl (Nn ?_))
   refine WX.joinP (()) (S3 rfl rfl rfl) (by refine (Sc ?_ (S0 _)) <;> ((refine ai rfl ?_; (try dsimp only); (exact decide_eq_decide.2 (by omega))))) ?_ (by (exact fun _ h => h))
   (try dsimp only)
   done
  ·(try simp only [sB] at hg16)
   refine Kt rfl (Kt rfl (Kt rfl (Kt rfl (Kt rfl (Kt rfl (Kt rfl (Kt rfl (Kt rfl (Yq rfl (Nn ?_))))))))))
   refine WX.joinP (()) (S3 rfl rfl rfl) (by refine (Sc ?_ (S0 _)) <;> ((exact congrArg (fun b => some (Value.bool b)) (by symm; apply decide_eq_false; omega)))) ?_ (by (exact fun _ h => h))
   (try dsimp only)
   done
 ·rintro _ hmeet; (try dsimp only at hmeet ⊢)
  refine Cd rfl (fun hc26 => ?_) (fun hc26 => ?_)
  ·(try simp only [sB] at hc26)
   refine Cs (Kq rfl (Kb [[.slice none 0 0], [.string (S [])], [.int .i64 0]] rfl rfl) (Ka rfl ?_))
   refine Nu rfl rfl (Sa rfl rfl rfl .tc) ?_
   refine Ka rfl (Nt (Ce (Xb ?_)))
   exact Rn rfl (.tmp rfl (.agg rfl .tc u41 rfl (by kernel_rfl) (.tmp rfl .nil))) fun w' hS => pU (by rw [ct, if_pos hc26.1, if_pos hc26.2]) hS
  ·(try simp only [sB] at hc26)
   refine Ck (Xa (Cq ?_))
   refine WC.joinP (σ := Unit) [(1, _), (2, _), (5, _)] (fun gq => [(43, .bool (decide (((t.vals.length : Int) ≤ t.at_ ∧ t.seed = []) ∨ t.at_ = 2147483647)))]) (fun gq => True) (S3 rfl rfl rfl) ?_ ?_
   ·skip
    refine Cg (Kq rfl (Fa (q := 2) rfl rfl u41 rfl rfl) (Kq rfl (Ld rfl rfl .tc u3) ?_))
    refine Kq rfl (Fa (q := 0) rfl rfl u41 rfl rfl) (Kq rfl (Ld rfl rfl .tc u31) ?_)
    refine Yo rfl u31 (Yh rfl (Km rfl ?_))
    refine Nb 34 rfl (fun hg34 => ?_) (fun hg34 => ?_)
    ·(try simp only [sB] at hg34)
     refine Kq rfl (Fa (q := 1) rfl rfl u41 rfl rfl) (Kq rfl (Ld rfl rfl .tc u9) ?_)
     refine Ys rfl (Yp rfl (Km rfl ?_))
     refine Nb 39 rfl (fun hg39 => ?_) (fun hg39 => ?_)
     ·(try simp only [sB] at hg39)
      refine Kt rfl (Kt rfl (Kt rfl (Yp rfl (Nn ?_))))
      refine WX.joinP (()) (S3 rfl rfl rfl) (by refine (Sc ?_ (S0 _)) <;> ((refine ai rfl ?_; (try dsimp only); (simp [*]; done)))) ?_ (by (exact fun _ h => h))
      (try dsimp only)
      done
     ·(try simp only [sB] at hg39)
      refine Kq rfl (Fa (q := 2) rfl rfl u41 rfl rfl) (Kq rfl (Ld rfl rfl .tc u3) ?_)
      refine Yi rfl (Yq rfl (Nn ?_))
      refine WX.joinP (()) (S3 rfl rfl rfl) (by refine (Sc ?_ (S0 _)) <;> ((refine ai rfl ?_; (try dsimp only); (simp [*]; done)))) ?_ (by (exact fun _ h => h))
      (try dsimp only)
      done
    ·(try simp only [sB] at hg34)
     refine Kt rfl (Kt rfl (Kt rfl (Yq rfl (Km rfl (Kq rfl (Fa (q := 2) rfl rfl u41 rfl rfl) (Kq rfl (Ld rfl rfl .tc u3) ?_))))))
     refine Yi rfl (Yq rfl (Nn ?_))
     refine WX.joinP (()) (S3 rfl rfl rfl) (by refine (Sc ?_ (S0 _)) <;> ((refine ai rfl ?_; (try dsimp only); (exact decide_eq_decide.2 (by omega))))) ?_ (by (exact fun _ h => h))
     (try dsimp only)
     done
   ·rintro _ hmeet; (try dsimp only at hmeet ⊢)
    refine Cd rfl (fun hc43 => ?_) (fun hc43 => ?_)
    ·(try simp only [sB] at hc43)
     refine Cs (Kq rfl (Kb [[.slice none 0 0], [.string (S [])], [.int .i64 0]] rfl rfl) (Ka rfl ?_))
     refine Nu rfl rfl (Sa rfl rfl rfl .tc) ?_
     refine Ka rfl (Nt (Ce (Xb ?_)))
     exact Rn rfl (.tmp rfl (.agg rfl .tc u41 rfl (by kernel_rfl) (.tmp rfl .nil))) fun w' hS => pU (by rcases hc43 with h | h; rw [ct, if_neg (by omega), if_pos (Or.inl h.2)]; rw [ct, if_neg (by omega), if_pos (Or.inr h)]) hS
    ·(try simp only [sB] at hc43)
     refine Ck (Xa (Cq ?_))
     refine Cf [0, 1, 2, 3, 4, 5, 6, 7, 8, 9, 10] [11] [0, 0, 0, 3, 0, 0, 0, 0, 0, 0, 3, 2] (by kernel_rfl) (by kernel_rfl) rfl ?_
     refine Kj rfl (Fa (q := 0) rfl rfl u41 rfl rfl) (Kj rfl (Ld rfl rfl .tc u31) ?_)
     refine Kj rfl (od rfl rfl u31) ?_
     refine Jf rfl rfl rfl rfl rfl (yP rfl rfl rfl u31 (by kernel_rfl : _ = some (some (.string (S [])), 1, 16)) rfl ?_ (by (try simp only [sN, Int.reduceToNat, Nat.reduceAdd, Nat.reduceMul, Nat.reduceSub]); rfl) (by (try simp only [sN, Int.reduceToNat, Nat.reduceAdd, Nat.reduceMul, Nat.reduceSub]); rfl)) ?_
     ·omega
     intro b48
     refine Kj rfl (Fa (q := 1) rfl rfl u41 rfl rfl) (Kj rfl (Ld rfl rfl .tc u9) ?_)
     refine Kj rfl (Fa (q := 2) rfl rfl u41 rfl rfl) (Kj rfl (Ld rfl rfl .tc u3) ?_)
     refine Kj rfl (bi rfl rfl rfl (by omega)) (Kj rfl (Kb [[.slice none 0 0], [.string (S [])], [.int .i64 0]] rfl rfl) ?_)
     refine Jf rfl rfl rfl rfl rfl (du rfl (v := (.agg #[.slice none 0 0, .string (S []), .int .i64 0])) (cs := [.slice none 0 0, .string (S []), .int .i64 0]) (by kernel_rfl) rfl) ?_
     intro b7
     refine WJ.nil ?_
     refine Nu rfl rfl (Sa rfl rfl rfl .tc) ?_
     refine Nt (Cs (Kq rfl (Fa (q := 0) rfl rfl u41 rfl rfl) (Kq rfl (Ld rfl rfl .tc u31) ?_)))
     refine Kq rfl (Fa (q := 0) rfl rfl u41 rfl rfl) (Kq rfl (Ld rfl rfl .tc u31) ?_)
     refine Kh rfl (yX rfl rfl rfl .tc u31 (by kernel_rfl) (m := t.vals.length) (by simp) (by simp) (fun w hS => hS.sl) (by intro u hu; obtain ⟨_, _, rfl⟩ := List.mem_map.1 hu; rfl) (by simp) (ys := ao t.vals) (by simp)) ?_
     intro _
     refine Nt (Cq (Cs (Kq rfl (Fa (q := 2) rfl rfl u41 rfl rfl) (Kq rfl (Ld rfl rfl .tc u3) ?_))))
     refine Kq rfl (Fa (q := 0) rfl rfl u41 rfl rfl) (Kq rfl (Ld rfl rfl .tc u31) ?_)
     refine Yo rfl u31 (Yl rfl (Nt ?_))
     refine Cd rfl (fun hc65 => ?_) (fun hc65 => ?_)
     ·(try simp only [sB] at hc65)
      refine Cq ?_
      refine Cf [0, 1, 2, 3, 4, 5, 6, 7] [8, 9] [0, 0, 0, 0, 0, 0, 0, 0, 2, 2] (by kernel_rfl) (by kernel_rfl) rfl ?_
      refine Kj rfl (Fa (q := 0) rfl rfl u41 rfl rfl) (Kj rfl (Ld rfl rfl .tc u31) ?_)
      refine Kj rfl (Fa (q := 2) rfl rfl u41 rfl rfl) (Kj rfl (Ld rfl rfl .tc u3) ?_)
      refine Kj rfl (Ib rfl rfl rfl u31 (by omega) (by (rw [List.length_map]; omega))) ?_
      refine Kj rfl (ldm rfl rfl u22 rfl (by omega)) ?_
      refine Kj rfl (lda rfl rfl .tc u41 rfl ?_) ?_
      ·kernel_rfl
      refine Kj rfl (Ra rfl rfl) ?_
      refine WJ.nil ?_
      refine Nu rfl rfl (Sa rfl rfl rfl .tc) ?_
      refine Ka rfl (Nt (Ce (Xb ?_)))
      exact Rn rfl (.tmp rfl (.agg rfl .tc u41 rfl (by kernel_rfl) (.tmp rfl .nil))) fun w' hS => wS (q := ⟨some b48, t.vals.length, []⟩) (by rw [ct, if_pos (by omega), if_neg (fun h => hc26 ⟨by omega, h⟩)]) rfl hS (by simp [Rs.ent])
     ·(try simp only [sB] at hc65)
      have h27 : ¬ t.at_ < t.vals.length := by omega
      have h52 : ¬ (t.seed = [] ∨ t.at_ = 2147483647) := fun h => hc43 (h.elim (fun h => Or.inl ⟨by omega, h⟩) Or.inr)
      refine Ck (Xa (Cq (Cs (Km rfl (Nt (Cb ?_))))))
      refine Lp (σ := Nat) [(1, _), (2, _), (5, _), (7, _)] (fun gq => [(73, .int .i64 (gq : Int))]) (fun gq => gq ≤ 256 ∧ dP t n (256 - gq) gq = dP t n 256 0) (fun gq => 256 - gq) (0) (S4 rfl rfl rfl rfl) (S1 rfl) (by (try dsimp only); exact ⟨by omega, rfl⟩) ?_
      rintro k hinv1; (try dsimp only at hinv1 ⊢)
      obtain ⟨hk, hfi⟩ := hinv1
      refine Cs (Yl rfl (Nt (Cq ?_)))
      refine Cd rfl (fun hc74 => ?_) (fun hc74 => ?_)
      ·(try simp only [sB] at hc74)
       refine Ck (Xa (Cq (Cb (Cs (Km rfl (Ka rfl (Nt (Cq ?_))))))))
       refine Cf [2, 3, 0, 1, 4, 5] [] [0, 0, 0, 1, 1, 0] (by kernel_rfl) (by kernel_rfl) rfl ?_
       refine Kj rfl (Rm rfl rfl) ?_
       refine Jv rfl rfl rfl rfl rfl (fun ext => Oc rfl rfl (Kv fun w hS => mN (a := n))) ?_
       refine WJ.set 79 rfl (v' := .int .i64 ((aC n : Nat) : Int)) (congrArg (Value.int .i64) (by rw [if_pos hn])) ?_
       refine Kj rfl (lda rfl rfl .tc u41 rfl ?_) ?_
       ·kernel_rfl
       refine WJ.set 76 rfl (v' := .agg #[.slice a t.vals.length cap, .string (S t.seed), .int .i64 ((t.at_.toNat : Nat) : Int)]) (by rw [Int.toNat_of_nonneg hg1]) ?_
       refine Kj rfl (Rm rfl rfl) ?_
       refine Jv rfl rfl rfl rfl rfl (fun ext => Oc rfl rfl (Kv fun w hS => rq (sd := t.seed) (at_ := t.at_.toNat) (aa := k) (nb := aC n) (by assumption) (by omega) (by omega) (by assumption) (by omega) (by (exact eP hT hS)))) ?_
       refine Kj rfl (Ra rfl rfl) ?_
       refine WJ.nil ?_
       refine Nt (Cs (Km rfl (Km rfl ?_)))
       refine Ku rfl (Oc rfl rfl (Kv fun w hS => dT (a := kS t.seed t.at_.toNat k (aC n)) (b := n))) ?_
       refine Yl rfl (Nt ?_)
       refine Cd rfl (fun hc84 => ?_) (fun hc84 => ?_)
       ·(try simp only [sB] at hc84)
        refine Cq ?_
        refine Cf [0, 1, 2] [3, 4] [0, 0, 0, 2, 2] (by kernel_rfl) (by kernel_rfl) rfl ?_
        refine Kj rfl (Rm rfl rfl) ?_
        refine Kj rfl (lda rfl rfl .tc u41 rfl ?_) ?_
        ·kernel_rfl
        refine Kj rfl (Ra rfl rfl) ?_
        refine WJ.nil ?_
        refine Nu rfl rfl (Sa rfl rfl rfl .tc) ?_
        refine Ka rfl (Nt (Ce (Xf (Xb (Xb (Xf (Xb ?_)))))))
        exact Rn rfl (.tmp rfl (.agg rfl .tc u41 rfl (by kernel_rfl) (.tmp rfl .nil))) fun w' hS => wS (q := ⟨some b48, t.vals.length, []⟩) (by rw [ct, if_neg h27, if_neg h52, ← hfi, qZ (by omega) hc84]) rfl hS (by simp [Rs.ent])
       ·(try simp only [sB] at hc84)
        refine Ck (Xd (Xa (Cg (Kq rfl (Rz rfl rfl rfl (by omega)) (Km rfl (Nn ?_))))))
        refine Ly (k + 1) (by (try dsimp only); omega) (S4 rfl rfl rfl rfl) (by refine (Sc ?_ (S0 _)) <;> (rfl)) ?_ (by (exact fun _ h => h))
        (try dsimp only)
        exact ⟨by omega, by rw [← oH (by omega) (by omega)]; exact hfi⟩
      ·(try simp only [sB] at hc74)
       refine Cx (Xc (Xc (Xe ?_)))
       obtain rfl : k = 256 := by omega
       refine Xa (Cs (Kq rfl (Kb [[.slice none 0 0], [.string (S [])], [.int .i64 0]] rfl rfl) (Ka rfl ?_)))
       refine Nu rfl rfl (Sa rfl rfl rfl .tc) ?_
       refine Ka rfl (Nt (Ce ?_))
       exact Rn rfl (.tmp rfl (.agg rfl .tc u41 rfl (by kernel_rfl) (.tmp rfl .nil))) fun w' hS => pU (by rw [ct, if_neg h27, if_neg h52, ← hfi]; rfl) hS
def dL (t : Tp) (n : Bs) : Int := if eD t ∧ okN n then (if n = [] then 11 else 0) else 3
theorem rQ {t : Tp} {n : Bs} {a : Option Addr} {cap : Nat} {w : World} {ok : Nat → Prop} (hF1 : (Fact.sl a (ao t.vals)).holds ok w) (hl : t.vals.length ≤ 100000) :
  Cw 86 #[t.v (.slice a t.vals.length cap), .string (S n)] w (.int .i64 (dL t n)) := by
 refine En [Fact.sl a (ao t.vals)] [(0, t.v (.slice a t.vals.length cap)), (1, .string (S n))] Tryz.func86 rfl Tryz.ntmps86 rfl (Ac rfl (Ac rfl (An _))) (Fc (ah hF1) Fn) ?_
 refine Cs ?_
 refine Kh rfl (Oy rfl rfl) ?_
 intro b2
 refine Ka rfl (Nt (Cq (Cs ?_)))
 refine Kq rfl (lda rfl rfl .tc u41 rfl ?_) ?_
 ·kernel_rfl
 refine Ku rfl (Oc rfl rfl (Kv fun w hS => x5 (t := t) (by (exact hS.sl)) (by omega))) ?_
 refine Yt rfl (Km rfl ?_)
 refine Nb 8 rfl (fun hg8 => ?_) (fun hg8 => ?_)
 ·(try simp only [sB] at hg8)
  refine Kt rfl (Kt rfl (Kt rfl (Yp rfl (Nt ?_))))
  refine Cd rfl (fun _ => ?_) (fun h => by cases h)
  refine Cs (Ka rfl (Nt (Ce (Xb ?_))))
  exact R1 rfl rfl (by rw [dL, if_neg (by simp_all)]; rfl)
 ·(try simp only [sB] at hg8)
  refine Km rfl ?_
  refine Ku rfl (Oc rfl rfl (Kv fun w hS => av)) ?_
  refine Yt rfl (Yq rfl (Nt ?_))
  refine Cd rfl (fun hc12 => ?_) (fun hc12 => ?_)
  ·(try simp only [sB] at hc12)
   refine Cs (Ka rfl (Nt (Ce (Xb ?_))))
   exact R1 rfl rfl (by rw [dL, if_neg (by simp_all)]; rfl)
  ·(try simp only [sB] at hc12)
   have hgn : eD t ∧ okN n := by simp_all
   refine Ck (Xa (Cq (Cs (Km rfl (Ys rfl (Nt ?_))))))
   refine Cd rfl (fun hc14 => ?_) (fun hc14 => ?_)
   ·(try simp only [sB] at hc14)
    refine Cs (Ka rfl (Nt (Ce (Xb ?_))))
    exact R1 rfl rfl (by rw [dL, if_pos hgn, if_pos (by simpa using hc14)]; rfl)
   ·(try simp only [sB] at hc14)
    refine Ck (Xa (Cs (Ka rfl (Nt (Ce ?_)))))
    exact R1 rfl rfl (by rw [dL, if_pos hgn, if_neg (by simpa using hc14)]; rfl)
def aI (t : Tp) (n : Bs) : Bs × Tp × Int := if dL t n ≠ 0 then ([], cS, dL t n) else ct t n
theorem nc {t : Tp} {n : Bs} (h : dL t n = 0) : eD t ∧ okN n ∧ n ≠ [] := by
 unfold dL at h
 split at h
 ·rename_i h1
  split at h
  ·cases h
  ·rename_i h2; exact ⟨h1.1, h1.2, h2⟩
 ·cases h
theorem wD {t : Tp} {n : Bs} {a : Option Addr} {cap : Nat} {w : World} {ok : Nat → Prop} (hF1 : (Fact.sl a (ao t.vals)).holds ok w) (hl : t.vals.length ≤ 100000) (hsd : t.seed.length ≤ 400000) (hT : Tab w) :
  Calls Tryz.prog 42 #[t.v (.slice a t.vals.length cap), .string (S n)] w fun e w' => ∃ g : Rs, e = .returned (.tuple #[.string (S (aI t n).1), (aI t n).2.1.v (g.val (aI t n).2.1.vals.length), .int .i64 (aI t n).2.2]) ∧ g.cap = (aI t n).2.1.vals.length + g.sp.length ∧ St (fun _ => True) w [g.ent (ao (aI t n).2.1.vals) 22] [] w' := by
 refine En [Fact.sl a (ao t.vals)] [(0, t.v (.slice a t.vals.length cap)), (1, .string (S n))] Tryz.func42 rfl Tryz.ntmps42 rfl (Ac rfl (Ac rfl (An _))) (Fc (ah hF1) Fn) ?_
 refine Cs ?_
 refine Kh rfl (Oy rfl rfl) ?_
 intro b2
 refine Ka rfl ?_
 refine Kh rfl (Oz [.slice none 0 0, .string (S []), .int .i64 0] rfl) ?_
 intro b5
 refine Ka rfl (Nt (Cq (Cs ?_)))
 refine Kq rfl (lda rfl rfl .tc u41 rfl ?_) ?_
 ·kernel_rfl
 refine Km rfl ?_
 refine Ku rfl (Oc rfl rfl (Kv fun w hS => rQ (t := t) (n := n) (by (exact hS.sl)) (by assumption))) ?_
 refine Ka rfl (Nt (Cs (Km rfl (Yj rfl (Nt ?_)))))
 refine Cd rfl (fun hc12 => ?_) (fun hc12 => ?_)
 ·(try simp only [sB] at hc12)
  have hr : aI t n = ([], cS, dL t n) := by rw [aI, if_pos (by simpa using hc12)]
  refine Cs (Kq rfl (Kb [[.slice none 0 0], [.string (S [])], [.int .i64 0]] rfl rfl) (Km rfl (Ka rfl ?_)))
  refine Nu rfl rfl (Sa rfl rfl rfl .tc) ?_
  refine Ka rfl (Nt (Ce (Xb ?_)))
  exact Rn rfl (.tmp rfl (.agg rfl .tc u41 rfl (by kernel_rfl) (.tmp rfl .nil))) fun w' hS => pU hr hS
 ·(try simp only [sB] at hc12)
  have hrd : dL t n = 0 := by simpa using hc12
  have hr : aI t n = ct t n := by rw [aI, if_neg (by simp [hrd])]
  obtain ⟨k1, k2, k3⟩ := nc hrd
  refine Ck (Xa (Cs ?_))
  refine Kq rfl (lda rfl rfl .tc u41 rfl ?_) ?_
  ·kernel_rfl
  refine Km rfl ?_
  refine Kh rfl (Oc rfl rfl (pI fun w hS => yc (t := t) (n := n) (by (exact hS.sl)) (by assumption) (by assumption) (by assumption) (by assumption) (by assumption) (by (exact eP hT hS)))) ?_
  intro g17
  refine WL.pu ?_
  intro hg17; (try dsimp only at hg17 ⊢)
  refine Ye rfl (Ye rfl (Ye rfl (Ka rfl ?_)))
  refine Nu rfl rfl (Sa rfl rfl rfl .tc) ?_
  refine Ka rfl (Nt (Ce ?_))
  exact Rn rfl (.tmp rfl (.agg rfl .tc u41 rfl (by kernel_rfl) (.tmp rfl .nil))) fun w' hS => ⟨g17, by rw [hr]; rfl, by rw [hr]; exact hg17, by rw [hr]; exact aq _ hS⟩
theorem re {a b : Bs} (h : ej a b < 0) : okN a := by
 unfold ej at h; split at h
 ·rename_i h1; exact h1.1
 ·omega
theorem kq {t : Tp} {n : Bs} : ∀ (f a : Nat) (x : Bs), dP t n f a = some x → okN x
 | 0, a, x, h => by cases h
 | f + 1, a, x, h => by
  unfold dP at h; split at h
  ·rename_i h1; injection h with h; subst h; exact re h1
  ·exact kq f (a + 1) x h
theorem q8 {t : Tp} {n : Bs} (hg : eD t) (h : (ct t n).2.2 = 0) : okN (ct t n).1 := by
 unfold ct at h ⊢
 split
 ·rename_i h1
  rw [if_pos h1] at h
  split
  ·rename_i h2; rw [if_pos h2] at h; cases h
  ·exact hg.2.2 _ (lk _ _ (by have := hg.1; omega))
 ·rename_i h1
  rw [if_neg h1] at h
  split
  ·rename_i h2; rw [if_pos h2] at h; cases h
  ·rename_i h2
   rw [if_neg h2] at h
   cases hf : dP t n 256 0 with
   | none => rw [hf] at h; cases h
   | some x => exact kq _ _ _ hf
theorem lm {t : Tp} {n : Bs} : ∀ (f a : Nat) (x : Bs), dP t n f a = some x → ej x n < 0
 | 0, a, x, h => by cases h
 | f + 1, a, x, h => by
  unfold dP at h; split at h
  ·rename_i h1; injection h with h; subst h; exact h1
  ·exact lm f (a + 1) x h
theorem tM {t : Tp} {n : Bs} (h : (ct t n).2.2 = 0) : ej (ct t n).1 n < 0 := by
 unfold ct at h ⊢
 split
 ·rename_i h1
  rw [if_pos h1] at h
  split
  ·rename_i h2; rw [if_pos h2] at h; cases h
  ·rename_i h2; show ej (t.vals.getD t.at_.toNat default) n < 0; omega
 ·rename_i h1
  rw [if_neg h1] at h
  split
  ·rename_i h2; rw [if_pos h2] at h; cases h
  ·rename_i h2
   rw [if_neg h2] at h
   cases hf : dP t n 256 0 with
   | none => rw [hf] at h; cases h
   | some x => exact lm _ _ _ hf
theorem ro {t : Tp} {n : Bs} (h : (aI t n).2.2 = 0) (ht : eD t) (hn : okN n) : okN (aI t n).1 ∧ val (aI t n).1 < val n := by
 unfold aI at h ⊢; split at h
 ·rename_i h1; exact absurd h h1
 ·rename_i h1; rw [if_neg h1]
  have a := q8 ht h; have b := tM h
  rw [az a hn, aw] at b; exact ⟨a, b⟩
structure SG where
 a : Bs
 e : Bs
 v : Bs
def fg (p : PR) (k : IK) (s : SG) (t : Tp) : (Bs × Zs × Tp) × Int :=
 if dQ p k ≠ 0 then (([], (false, []), cS), dQ p k)
 else if ¬ (okN s.a ∧ okN s.e ∧ okN s.v) then (([], (false, []), cS), 3)
 else if ¬ elG k.g s.a then (([], (false, []), cS), 13)
 else if (aI t p.msk).2.2 ≠ 0 then (([], (false, []), cS), (aI t p.msk).2.2)
 else if (dO (aF s.e) (aF (aI t p.msk).1)).2 ≠ 0 ∨ (cO (aF s.v) (dO (aF s.e) (aF (aI t p.msk).1)).1).2 ≠ 0 then (([], (false, []), cS), 5)
 else (((dn k.g [s.a, k.s] [ofZ 1, aF (aI t p.msk).1]).1, (cO (aF s.v) (dO (aF s.e) (aF (aI t p.msk).1)).1).1, (aI t p.msk).2.1), 0)
def cz : Int → List Int → Int → Bool
 | _, [], _ => true
 | last, i :: l, n => decide (last < i ∧ i < n) && cz i l n
abbrev rD (k : IK) (i : Nat) : Bs := k.r.getD i default
def aM (d : List Int) (n : Nat) : List Nat := (List.range n).filter fun i => !(d.contains (i : Int))
def lim (p : PR) (i : Nat) : Bs := if i = 0 then p.sec else if i = 1 then p.han else p.attr
def shE (p : PR) (k : IK) (a : Bs) (d : List Int) (vs : List Bs) : Int :=
 if dQ p k ≠ 0 then dQ p k else if ¬ (okN a ∧ ∀ x ∈ vs, okN x) then 3 else if ¬ elG k.g a then 13 else if cz 1 d k.r.length = false then 2
 else if vs.length ≠ d.length then 6 else if ¬ (∀ x ∈ vs, val x < val p.attr) then 2 else (jd p).2
abbrev ngN (v : Bs) : Zs := fi (aF v)
def tgS (p : PR) (k : IK) (a : Bs) (d : List Int) (vs : List Bs) : Bs := (dn k.g (k.z :: a :: d.map fun i => rD k i.toNat) (ofZ 1 :: ngN p.lo :: vs.map ngN)).1
def shT (p : PR) (k : IK) (a : Bs) (d : List Int) (vs : List Bs) : Sm :=
 ([k.g], p.sz :: (jd p).1.1 :: (aM d k.r.length).map (lim p), [(0, tgS p k a d vs, fo (a :: k.s :: (aM d k.r.length).map (rD k)) 0)])
def shS (p : PR) (k : IK) (a : Bs) (d : List Int) (vs : List Bs) : Sm × Int := if shE p k a d vs ≠ 0 then (([], [], []), shE p k a d vs) else (shT p k a d vs, 0)
def wiS (p : PR) (s : SG) (v : Zs) (ms : List Bs) (d : List Int) : List Zs × Int :=
 if cx p ≠ 0 then ([], cx p) else if ¬ ((okN s.a ∧ okN s.e ∧ okN s.v) ∧ okZ v ∧ ∀ x ∈ ms, okN x) then ([], 3) else if ms.length < 2 ∨ 18 < ms.length then ([], 6)
 else if cz 1 d ms.length = false then ([], 2) else ((cO (aF s.e) (aF p.lo)).1 :: v :: (aM d ms.length).map (fun i => aF (ms.getD i default)), 0)
theorem ov {x : Bs} (h : okN x) : okZ (false, x) := ⟨h, fun h => by cases h.1⟩
theorem xN {x : Bs} (h : okN x) : ngN x = ofZ (-(val x : Int)) := by
 have e : aF x = ofZ (val x : Int) := by rw [dt h, mi, dp h]
 rw [ngN, e, pD (by rw [Int.natAbs_natCast]; exact bv h)]
theorem pz {x : Bs} (h : okN x) : okZ (ngN x) := by rw [xN h]; exact cI.2 (by rw [Int.natAbs_neg, Int.natAbs_natCast]; exact bv h)
theorem iv : ∀ {d : List Int} {last n : Int}, cz last d n = true → ∀ i ∈ d, last < i ∧ i < n
 | [], _, _, _, i, hi => by cases hi
 | j :: l, last, n, h, i, hi => by
  rw [cz, Bool.and_eq_true, decide_eq_true_eq] at h
  rcases List.mem_cons.1 hi with rfl | hi
  ·exact h.1
  ·have := iv h.2 i hi; omega
end Go.Proofs.YtkdlonihbjhhoaaGreatDoor
