/-
  Parts of the walk: Lib1 Plus App Ntl1 Ntl2 Int1.
-/
import Derived.Test.YtchonigdjamphaaGreatDoorQ6
namespace Go.Proofs.YtchonigdjamphaaGreatDoor
open Go.RowKit
set_option linter.unusedSimpArgs false
set_option linter.unusedVariables false
set_option maxHeartbeats 600000
set_option maxRecDepth 20000
theorem iu {w : World} : Below w.heap.size w w := ⟨rfl, rfl, rfl, Ba _, fun _ _ => rfl⟩
section
variable {ds : List Deferred} {P : Program} {o : Oper} {n : Nat} {L : an} {Z : World → Prop} {x y : Operand} {t t2 : TypeId} {k : IntKind} {i j : Int}
theorem kb (hop : o.op = .call { callee := .builtin .max, args := #[x, y], argTypes := #[t, t2] }) (hx : ai L x = some (.int k i)) (hy : ai L y = some (.int k j)) : Rd ds P o n L Z (.int k (max i j)) :=
  aI fun a hF w _ => by
    have e : max i j = if j > i then j else i := by split <;> omega
    rw [e]; simp [execOp, hop, resolve, invoke, builtin, hF.eval hx, hF.eval hy, Builtin.max_, Builtin.max2]
theorem xp (hop : o.op = .call { callee := .builtin .min, args := #[x, y], argTypes := #[t, t2] }) (hx : ai L x = some (.int k i)) (hy : ai L y = some (.int k j)) : Rd ds P o n L Z (.int k (min i j)) :=
  aI fun a hF w _ => by
    have e : min i j = if j < i then j else i := by split <;> omega
    rw [e]; simp [execOp, hop, resolve, invoke, builtin, hF.eval hx, hF.eval hy, Builtin.min_, Builtin.min2]
end
theorem E6 (x : Nat) : (x : Int).fdiv (2 ^ (min (Int.toNat 8) IntKind.i64.bits)) = ((x / 256 : Nat) : Int) := by
  have m1 : min (Int.toNat 8) IntKind.i64.bits = 8 := by decide
  rw [m1, Dn _ (by decide)]; norm_cast
theorem zD {a b : Bs} {w : World} :
    Calls Tryz.prog 222 #[.string (S a), .string (S b)] w fun e w' => e = .returned (.int .i64 (Lib.compareBytes a b)) ∧ Below w.heap.size w w' :=
  (pZ (S a) (S b) w).mono fun _ _ ⟨h1, h2⟩ => ⟨by simpa [S] using h1, by rw [h2]; exact iu⟩
theorem uI {x : Nat} {w : World} (hx : x < 256) :
    Calls Tryz.prog 209 #[.int .u8 (x : Int)] w fun e w' => e = .returned (.int .i64 (Lib.bitLen x)) ∧ Below w.heap.size w w' :=
  (xQ x w (by omega) (by omega)).mono fun _ _ ⟨h1, h2⟩ => ⟨by simpa using h1, by rw [h2]; exact iu⟩
theorem yU {x : Int} {w : World} :
    Calls Tryz.prog 273 #[.int .i64 x] w fun e w' => e = .returned (.bool false) ∧ Below w.heap.size w w' := by
  refine enter (S := St (fun _ => True) w [] ([])) (L := [(0, .int .i64 x)]) Tryz.func273 rfl Tryz.ntmps273 rfl (fl rfl (jl _)) (St.start (fun _ _ => trivial) gS) ?_
  refine WC.sr ?_
  refine WL.r I I I (bS I I) ?_
  refine WL.nt ?_
  refine WC.sr ?_
  refine H3 ?_
  refine H3 ?_
  refine WL.r I I I (kY I I I) ?_
  refine WL.r I I I (bS I I) ?_
  refine WL.nt ?_
  refine WC.ret ?_
  exact WX.retN rfl (.tmp rfl .nil) fun w' hS => ⟨by (simp [tup]; done), hS.below⟩
def dn (a b : Int) : Int := if a < b then -1 else if b < a then 1 else 0
theorem EI {a b : Int} {w : World} :
    Calls Tryz.prog 221 #[.int .i64 a, .int .i64 b] w fun e w' => e = .returned (.int .i64 (dn a b)) ∧ Below w.heap.size w w' := by
  refine enter (S := St (fun _ => True) w [] ([])) (L := [(0, .int .i64 a), (1, .int .i64 b)]) Tryz.func221 rfl Tryz.ntmps221 rfl (fl rfl (fl rfl (jl _))) (St.start (fun _ _ => trivial) gS) ?_
  refine WC.sr ?_
  refine WL.r I I I (bS I I) ?_
  refine WL.nt ?_
  refine WC.sr ?_
  refine H3 ?_
  refine WL.g I I I (kf I I (by kernel_rfl) (gm fun w hS => yU)) ?_
  intro _
  refine WL.r I I I (bS I I) ?_
  refine WL.nt ?_
  refine WC.sr ?_
  refine H3 ?_
  refine WL.g I I I (kf I I (by kernel_rfl) (gm fun w hS => yU)) ?_
  intro _
  refine WL.r I I I (bS I I) ?_
  refine WL.nt ?_
  refine WC.seq ?_
  refine WC.sr ?_
  refine H3 ?_
  refine WL.nt ?_
  refine WC.cond I (fun hc11 => by exfalso; (try simp only [sB] at hc11); cases hc11) (fun hc11 => ?_)
  (try simp only [sB] at hc11)
  refine WC.skip ?_
  refine WX.then_normal ?_
  refine WC.seq ?_
  refine WC.sr ?_
  refine H3 ?_
  refine WL.nt ?_
  refine WC.cond I (fun hc13 => by exfalso; (try simp only [sB] at hc13); cases hc13) (fun hc13 => ?_)
  (try simp only [sB] at hc13)
  refine WC.skip ?_
  refine WX.then_normal ?_
  refine WC.seq ?_
  refine WC.sr ?_
  refine H3 ?_
  refine H3 ?_
  refine WL.r I I I (nx I I I) ?_
  refine WL.nt ?_
  refine WC.cond I (fun hc16 => ?_) (fun hc16 => ?_)
  · (try simp only [sB] at hc16); refine WC.sr ?_; refine WL.r I I I (bS I I) ?_; refine WL.nt ?_; refine WC.ret ?_; refine WX.then_ret ?_; exact WX.retN I (.tmp I .nil) fun w' hS => ⟨by simp [dn, hc16, tup], hS.below⟩
  · (try simp only [sB] at hc16); refine WC.skip ?_; refine WX.then_normal ?_; refine WC.seq ?_; refine WC.sr ?_; refine WL.r I I I (cI I I) ?_; refine WL.r I I I (cI I I) ?_; refine WL.r I I I (pI I I I) ?_; refine WL.nt ?_; refine WC.cond I (fun hc19 => ?_) (fun hc19 => ?_)
    · (try simp only [sB] at hc19); refine WC.sr ?_; refine WL.r I I I (bS I I) ?_; refine WL.nt ?_; refine WC.ret ?_; refine WX.then_ret ?_; exact WX.retN I (.tmp I .nil) fun w' hS => ⟨by simp [dn, tup]; omega, hS.below⟩
    · (try simp only [sB] at hc19); refine WC.skip ?_; refine WX.then_normal ?_; refine WC.sr ?_; refine WL.r I I I (bS I I) ?_; refine WL.nt ?_; refine WC.ret ?_; exact WX.retN I (.tmp I .nil) fun w' hS => ⟨by simp [dn, tup]; omega, hS.below⟩
theorem sP (l : List Value) : (Value.agg l.toArray).cells.toList = l := by simp [Value.cells]
section
variable {ds : List Deferred} {P : Program} {o : Oper} {n : Nat} {L : an} {Z : World → Prop} {x y : Operand} {t t2 : TypeId} {k : IntKind} {i : Int}
theorem k5 {k' : IntKind} (hop : o.op = .convert t t2 x) (hx : ai L x = some (.int k' i)) {d : TypeDesc} (h1 : P.underlying t = some d) (h2 : P.underlying t2 = some (.int k)) (h : k.wrap i = i) : Rd ds P o n L Z (.int k i) := by
 have := aS (ds := ds) (n := n) (St := Z) hop hx h1 h2
 rw [h] at this; exact this
theorem kv (c : UInt8) : IntKind.i64.wrap (c.toNat : Int) = (c.toNat : Int) := wo _ (by have := c.toNat_lt; omega)
end
section
variable {ds : List Deferred} {P : Program} {o : Oper} {n : Nat} {L : an} {ok : Nat → Prop} {w0 : World} {own : List Ent} {fs : List Fact} {x y : Operand} {t T : TypeId} {b off : Nat} {cs xs ys : List Value} {C : Ent → List Ent}
theorem ft (hop : o.op = .store t x y) (hx : ai L x = some (.pointer (some ⟨b, 0, none⟩))) (hy : ai L y = some (.agg xs.toArray)) [hk : HasC own (some b) cs T C] (hs : (P.info? t).map (·.size) = some xs.length) (h1 : ∀ v ∈ xs, v.oneCell' = true) (hl : xs.length = cs.length) :
  ∀ ext, Og ds P o n L (St ok w0 (ext ++ own) fs) (fun _ : Unit => undef) (fun _ => St ok w0 (ext ++ C ⟨some b, xs, T⟩) fs) := fun ext => sta hop hx hy (Ctx.right hk.h ext) hs h1 hl
end
class oq (fs more : List Fact) : Prop where
 h : ∀ f ∈ more, f ∈ fs
instance hasM_here {fs : List Fact} : oq fs fs := ⟨fun _ h => h⟩
instance hasM_there {f : Fact} {fs more : List Fact} [h : oq fs more] : oq (f :: fs) more := ⟨fun g hg => Cu _ (h.h g hg)⟩
theorem St.more {ok : Nat → Prop} {w0 w : World} {own : List Ent} {fs more : List Fact} (hS : St ok w0 own fs w) [h : oq fs more] : ∀ f ∈ more, f.holds (fun _ => True) w := fun f hf => af (hS.fact f (h.h f hf))
theorem aE {more : List Fact} {ok : Nat → Prop} {w : World} (h : ∀ f ∈ more, f.holds ok w) : ∀ f ∈ more, f.holds (fun _ => True) w := fun f hf => af (h f hf)
theorem ti (z : Array Value) (m : Nat) : (Builtin.zeroCells z m).toList.length = m * z.size := by simp [Builtin.zeroCells]
section
variable {P : Program} {ok : Nat → Prop} {w0 : World} {fs : List Fact} {t e : TypeId} {sz z : Nat} {cs : List Value}
theorem tS {w : World} {own : List Ent} {kk : Nat} {ob : Option Nat} {len cap : Nat} {news : List Value} {zv : Value} {src : Value} {m : Nat} {ty : TypeId} (hS : St ok w0 own fs w) (hk : own[kk]? = some ⟨ob, cs, e⟩)
  (hu : P.underlying t = some (.slice e)) (hi : (P.info? e).map (fun i => (i.zero, i.size, i.bytes)) = some (some zv, z, sz)) (h1 : zv.cells.size = z) (hz0 : 0 < z)
  (hlen : len ≤ cap) (hcap : cap * z = cs.length) (hsrc : Src w src m news) (hm : news.length = m * z) (h1c : ∀ u ∈ news, u.oneCell' = true) (hpos : 0 < m)
  (h63 : len + m ≤ 9223372036854775807) (hb : (len + m) * sz ≤ 140737488355328) :
  ∃ (g : App) (w' : World), (Builtin.append_ #[t, t] ty #[.slice (ob.map fun b => ⟨b, 0, none⟩) len cap, src]).run P w = .ok (.slice (some ⟨g.b, 0, none⟩) (len + m) g.cap) w' ∧ (len + m ≤ g.cap ∧ g.cap * z = (len + m) * z + g.spare.length) ∧ St ok w0 (own.set kk ⟨some g.b, cs.take (len * z) ++ news ++ g.spare, e⟩) fs w' := by
 obtain ⟨i', hi', hz, hs, hbb⟩ := info_parts hi
 obtain ⟨ad, c', rfl, hnone, hcell⟩ := hsrc
 cases ad with
 | none => have := (hnone rfl).1; omega
 | some a =>
 have hnews := hcell a rfl
 have hl : news.length = m * i'.size := by rw [hs]; exact hm
 have zlen : ∀ q, (Builtin.zeroCells zv.cells q).toList.length = q * z := fun q => by rw [ti, h1]
 have hge : ∀ g q : Nat, q ≤ g → g * z = q * z + (g - q) * z := fun g q h => by rw [← Bk]; congr 1; omega
 cases ob with
 | none =>
  have hcs : cs = [] := hS.own_ _ (A9 hk)
  subst hcs
  have hc0 : cap = 0 := by
   rcases Bw cap with h | h
   ·exact h
   ·have := Nat.mul_pos h hz0; simp at hcap; omega
  subst hc0
  have hl0 : len = 0 := by omega
  subst hl0
  have hrun := run_append_nil (P := P) w t ty e i' zv hu hi' hz a m c' news hl hnews hpos (by omega) (by rw [hbb]; rw [A3] at hb; omega)
  have hg := grownCap_ge w m 0 e
  refine ⟨⟨w.heap.size, grownCap w m 0 e, (Builtin.zeroCells zv.cells (grownCap w m 0 e - m)).toList⟩, _, by simpa using hrun, ⟨?_, ?_⟩, ?_⟩
  ·simpa using hg
  ·simp only [zlen, A3]; exact hge _ _ hg
  ·have := (hS.draw.alloc (news ++ (Builtin.zeroCells zv.cells (grownCap w m 0 e - m)).toList) e).replace kk
   have e1 : (news.toArray ++ Builtin.zeroCells zv.cells (grownCap w m 0 e - m)) = (news ++ (Builtin.zeroCells zv.cells (grownCap w m 0 e - m)).toList).toArray := by
    apply Array.ext'; simp
   simp only [List.take_nil, List.nil_append]; rw [e1]; exact this
 | some b' =>
  have hbk := hS.block hk
  have hlc : len * z ≤ cs.length := by rw [← hcap]; exact Bp _ hlen
  by_cases hroom : len + m ≤ cap
  ·have hlm : (len + m) * z ≤ cs.length := by rw [← hcap]; exact Bp _ hroom
   have hrun := run_append_room (P := P) w t ty e i' hu hi' b' len cap cs.toArray hbk a m c' news hl hnews h1c hroom (by rw [hs]; simp; rw [Bk] at hlm; omega); refine ⟨⟨b', cap, cs.drop (len * z + m * z)⟩, _, hrun, ⟨hroom, ?_⟩, ?_⟩
   ·simp only [C2]; rw [hcap, ← Bk]; omega
   ·have := hS.setRow hk (cs.take (len * z) ++ news ++ cs.drop (len * z + m * z)); rw [hs]; simp only [hm]; exact this
  ·have hrun := run_append_grow (P := P) w t ty e i' zv hu hi' hz ⟨b', 0, none⟩ len cap (cs.take (len * z)) (by rw [hs]; simp; omega) (fun q u hq => by
     rw [Addr.add_lit, A3, df hbk]; rw [Cv] at hq; split at hq
     ·exact hq
     ·cases hq) a m c' news hl hnews (by omega) (by omega) (by rw [hbb]; exact growslice_fits (by omega) hb)
   have hg := grownCap_ge w (len + m) cap e; refine ⟨⟨w.heap.size, grownCap w (len + m) cap e, (Builtin.zeroCells zv.cells (grownCap w (len + m) cap e - (len + m))).toList⟩, _, hrun, ⟨hg, ?_⟩, ?_⟩
   ·simp only [zlen]; exact hge _ _ hg
   ·have := (hS.draw.alloc (cs.take (len * z) ++ news ++ (Builtin.zeroCells zv.cells (grownCap w (len + m) cap e - (len + m))).toList) e).replace kk
    have e1 : ((cs.take (len * z)).toArray ++ news.toArray ++ Builtin.zeroCells zv.cells (grownCap w (len + m) cap e - (len + m))) = (cs.take (len * z) ++ news ++ (Builtin.zeroCells zv.cells (grownCap w (len + m) cap e - (len + m))).toList).toArray := by
     apply Array.ext'; simp
    rw [e1]; exact this
end
section
variable {ds : List Deferred} {P : Program} {o : Oper} {n : Nat} {L : an} {ok : Nat → Prop} {w0 : World} {own : List Ent} {C : Ent → List Ent} {fs : List Fact} {x y : Operand} {t e : TypeId} {sz z : Nat} {xs : List Value}
theorem jm {len cap : Nat} {ob : Option Nat} {news sp : List Value} {zv : Value} {m c : Nat} {ad : Option Addr} (hop : o.op = .call { callee := .builtin .append, args := #[x, y], argTypes := #[t, t] }) (hu : P.underlying t = some (.slice e)) (hi : (P.info? e).map (fun i => (i.zero, i.size, i.bytes)) = some (some zv, z, sz)) (h1 : zv.cells.size = z) (hz0 : 0 < z)
  (hk : Ctx own ⟨ob, xs ++ sp, e⟩ C) (hx : ai L x = some (.slice (ob.map fun b => ⟨b, 0, none⟩) len cap)) (hy : ai L y = some (.slice ad m c)) (hsrc : ∀ w, St ok w0 own fs w → (Fact.sl ad news).holds (fun _ => True) w) (hm : news.length = m * z)
  (hb : xs.length = len * z ∧ cap * z = len * z + sp.length ∧ len + m ≤ 9223372036854775807 ∧ (len + m) * sz ≤ 140737488355328) (h1c : ∀ u ∈ news, u.oneCell' = true) :
  Og ds P o n L (St ok w0 own fs) (fun g : Gr => .slice (g.ob.map fun b => ⟨b, 0, none⟩) (len + m) g.cap) (fun g w => (g.cap * z = (len + m) * z + g.sp.length) ∧ St ok w0 (C ⟨g.ob, (xs ++ news) ++ g.sp, e⟩) fs w) :=
 cB fun a hF w hS => by
  obtain ⟨kk, hkk, hC⟩ := hk.get
  obtain ⟨hxl, hcap, h63, hbb⟩ := hb
  have hlc : len ≤ cap := by
   rcases Cc cap len with h | h
   ·have := Nat.mul_lt_mul_of_pos_right h hz0; omega
   ·exact h
  by_cases hpos : 0 < m
  ·have htake : (xs ++ sp).take (len * z) = xs := by rw [← hxl]; simp
   have hs : Src w (.slice ad m c) m news := by
    rcases hsrc w hS with h0 | ⟨b', off', cells, T', fz, e1, _, e3, e4⟩
    ·subst h0; have := Nat.mul_pos hpos hz0; simp at hm; omega
    ·subst e1; refine ⟨_, _, rfl, (fun h => by cases h), fun a ha q u hq => ?_⟩; obtain rfl := Option.some.inj ha; have hlt : q < news.length := (Ap.1 hq).1; rw [Addr.add_lit]; simp [World.cell?, e3, e4 q hlt, hq]
   obtain ⟨g, w', hrun, hp, hS'⟩ := tS (P := P) (ty := o.type) hS hkk hu hi h1 hz0 hlc (by simp; omega) hs hm h1c hpos h63 hbb; rw [htake] at hS'; refine ⟨⟨some g.b, g.cap, g.spare⟩, w', .inl ?_, ?_, ?_⟩
   ·simp [execOp, hop, resolve, invoke, builtin, hF.eval hx, hF.eval hy, hrun]
   ·exact hp.2
   ·rw [hC]; exact hS'
  ·have hm0 : m = 0 := by omega
   subst hm0; have hn0 : news = [] := B0 (by omega); subst hn0; obtain ⟨i', hi', hz, hs, hbb'⟩ := info_parts hi; have hrun := kJ (P := P) (w := w) (ob := ob) (len := len) (cap := cap) (c := c) (ad := ad) (ty := o.type) (sz := z) hu (by rw [hi']; simp [hs]) hlc; refine ⟨⟨ob, cap, sp⟩, w, .inl ?_, ?_, ?_⟩
   ·simp [execOp, hop, resolve, invoke, builtin, hF.eval hx, hF.eval hy, hrun]
   ·exact hcap
   ·rw [A5]; rw [hC]
    have : own.set kk ⟨ob, xs ++ sp, e⟩ = own := by
     apply Ef; intro q; by_cases hq : kk = q
     ·subst hq; rw [Dk (Ap.1 hkk).1, hkk]
     ·rw [Dp hq]
    rw [this]; exact hS
theorem ER {len cap b : Nat} {news : List Value} {zv : Value} {m c : Nat} {ad : Option Addr} (hop : o.op = .call { callee := .builtin .append, args := #[x, y], argTypes := #[t, t] }) (hu : P.underlying t = some (.slice e)) (hi : (P.info? e).map (fun i => (i.zero, i.size, i.bytes)) = some (some zv, z, sz)) (h1 : zv.cells.size = z) (hz0 : 0 < z)
  (hk : Ctx own ⟨some b, xs, e⟩ C) (hx : ai L x = some (.slice (some ⟨b, 0, none⟩) len cap)) (hy : ai L y = some (.slice ad m c)) (hsrc : ∀ w, St ok w0 own fs w → (Fact.sl ad news).holds (fun _ => True) w) (hm : news.length = m * z)
  (hb : xs.length = len * z ∧ cap = len ∧ len + m ≤ 9223372036854775807 ∧ (len + m) * sz ≤ 140737488355328) (h1c : ∀ u ∈ news, u.oneCell' = true) :
  Og ds P o n L (St ok w0 own fs) (fun g : Gr => .slice (g.ob.map fun b => ⟨b, 0, none⟩) (len + m) g.cap) (fun g w => (g.cap * z = (len + m) * z + g.sp.length) ∧ St ok w0 (C ⟨g.ob, (xs ++ news) ++ g.sp, e⟩) fs w) :=
 jm (ob := some b) (sp := []) hop hu hi h1 hz0 (by rw [A5]; exact hk) hx hy hsrc hm ⟨hb.1, by rw [hb.2.1]; simp, hb.2.2⟩ h1c
theorem wg {len cap : Nat} {ob : Option Nat} {news sp : List Value} {zv : Value} {m c : Nat} {ad : Option Addr} (hop : o.op = .call { callee := .builtin .append, args := #[x, y], argTypes := #[t, t] }) (hu : P.underlying t = some (.slice e)) (hi : (P.info? e).map (fun i => (i.zero, i.size, i.bytes)) = some (some zv, z, sz)) (h1 : zv.cells.size = z) (hz0 : 0 < z)
  (hk : Ctx own ⟨ob, xs ++ sp, e⟩ C) (hx : ai L x = some (.slice (ob.map fun b => ⟨b, 0, none⟩) len cap)) (hy : ai L y = some (.slice ad m c)) (hsrc : ∀ ext w, St ok w0 (ext ++ own) fs w → (Fact.sl ad news).holds (fun _ => True) w) (hm : news.length = m * z)
  (hb : xs.length = len * z ∧ cap * z = len * z + sp.length ∧ len + m ≤ 9223372036854775807 ∧ (len + m) * sz ≤ 140737488355328) (h1c : ∀ u ∈ news, u.oneCell' = true) (ext : List Ent) :
  Og ds P o n L (St ok w0 (ext ++ own) fs) (fun g : Gr => .slice (g.ob.map fun b => ⟨b, 0, none⟩) (len + m) g.cap) (fun g w => (g.cap * z = (len + m) * z + g.sp.length) ∧ St ok w0 (ext ++ C ⟨g.ob, (xs ++ news) ++ g.sp, e⟩) fs w) :=
 jm hop hu hi h1 hz0 (Ctx.right hk ext) hx hy (hsrc ext) hm hb h1c
end
theorem bV {k : Nat} (c : List Value) : (([(k, Value.agg c.toArray)] : List (Nat × Value)).map Prod.snd).flatMap (fun v => v.cells.toList) = c := by simp [Value.cells]
theorem qm (off : Nat) (tl : List Value) : ∀ (c : List Value) (k : Nat) (done mid : List Value), mid.length = c.length → done.length = off + k →
  (c.zipIdx k).foldl (fun (cs : Array Value) (x : Value × Nat) => cs.setIfInBounds (off + x.2) x.1) (done ++ (mid ++ tl)).toArray = (done ++ (c ++ tl)).toArray
 | [], k, done, mid, h, _ => by
  have : mid = [] := B0 h
  subst this; simp
 | x :: c, k, done, [], h, _ => by simp at h
 | x :: c, k, done, m :: mid, h, hd => by
  rw [List.zipIdx_cons, List.foldl_cons]
  have e1 : (done ++ (m :: mid ++ tl)).toArray.setIfInBounds (off + k) x = ((done ++ [x]) ++ (mid ++ tl)).toArray := by
   rw [← hd]; apply Array.ext'; simp
  simp only
  rw [e1, qm off tl c (k + 1) (done ++ [x]) mid (by simpa using h) (by simp; omega)]
  simp
theorem ve (z : Nat) : ∀ (vs done zs : List Value) (k : Nat), zs.length = vs.length * z → (∀ v ∈ vs, v.cells.size = z) → done.length = k * z →
  Instr.fill (fun i => some (i * z, z)) (done ++ zs).toArray ((List.range' k vs.length).zip vs) = some (done ++ vs.flatMap fun v => v.cells.toList).toArray
 | [], done, zs, k, hl, _, _ => by have : zs = [] := B0 (by simpa using hl); subst this; simp [Instr.fill]
 | v :: vs, done, zs, k, hl, h1, hd => by
  have hv := h1 v (by simp)
  rw [Ay, Bk, Cn] at hl
  have hz : zs = zs.take z ++ zs.drop z := (Dt z zs).symm
  have hzl : (zs.take z).length = z := by rw [B1]; omega
  have hdl : (zs.drop z).length = vs.length * z := by rw [C2]; omega
  have e1 := qm (k * z) (zs.drop z) v.cells.toList 0 done (zs.take z) (by rw [hzl]; simpa using hv.symm) (by omega)
  rw [← hz] at e1
  have ih := ve z vs (done ++ v.cells.toList) (zs.drop z) (k + 1) hdl (fun u hu => h1 u (by simp [hu])) (by rw [Al, hd, Bk]; simp [hv])
  simp only [Ay, List.range'_succ, List.zip_cons_cons, Instr.fill]
  rw [Aa (by simp [hv, hd]; omega)]
  have e2 : (v.cells.zipIdx.foldl (fun (cs : Array Value) (x : Value × Nat) => cs.setIfInBounds (k * z + x.2) x.1) (done ++ zs).toArray) = (done ++ (v.cells.toList ++ zs.drop z)).toArray := by
   rw [← e1, ← Array.foldl_toList, Array.toList_zipIdx]
  have e3 : (v.cells.zipIdx.foldl (fun cs x => match x with | (c, j) => cs.setIfInBounds (k * z + j) c) (done ++ zs).toArray) = (done ++ (v.cells.toList ++ zs.drop z)).toArray := e2
  rw [e3, ← Cr, ih]
  simp
section
variable {ds : List Deferred} {P : Program} {o : Oper} {n : Nat} {L : an} {ok : Nat → Prop} {w0 : World} {own : List Ent} {fs : List Fact} {t e : TypeId} {sz z : Nat} {cs : List Value}
theorem qp {len : Nat} {vs : List (Nat × Value)} {zv : Value} (hu : P.underlying t = some (.slice e))
  (hi : (P.info? e).map (fun i => (i.zero, i.size, i.bytes)) = some (some zv, z, sz)) (hzs : zv.cells.size = z) (hz0 : 0 < z) (hnum : vs = (List.range' 0 len).zip (vs.map Prod.snd)) (hlen : (vs.map Prod.snd).length = len) (h1 : ∀ v ∈ vs.map Prod.snd, v.cells.size = z) (hcs : (vs.map Prod.snd).flatMap (fun v => v.cells.toList) = cs) (hsm : len * z ≤ 16777216) (w : World) :
  (Instr.buildSlice t len vs.toArray).run P w = .ok (.slice (some ⟨w.heap.size, 0, none⟩) len len) (w.alloc (.cells cs.toArray e)) := by
 obtain ⟨i', hi', hz', hs, hbb⟩ := info_parts hi
 have hfill : ∀ zs : List Value, zs.length = len * z → Instr.fill (fun i => some (i * z, z)) zs.toArray vs = some cs.toArray := fun zs hzl => by
  have := ve z (vs.map Prod.snd) [] zs 0 (by rw [hlen]; exact hzl) h1 (by simp)
  rw [hlen, ← hnum, hcs] at this; simpa using this
 simp only [Instr.buildSlice, Sem.run_bind, run_underlying hu, Result.andThen, sizeOf, typeInfo, run_program, hi', Sem.run_pure, hs]
 rw [Aa (by omega)]
 by_cases h0 : len * z = 0
 ·have hzero : ((Array.range (len * z)).map fun x => (#[] : Array Value)[x % (#[] : Array Value).size]!) = (((Array.range (len * z)).map fun x => (#[] : Array Value)[x % (#[] : Array Value).size]!).toList).toArray := (Array.toArray_toList).symm
  rw [Ae h0]
  simp only [Sem.run_pure, Sem.run_bind, Result.andThen]
  rw [hzero, hfill _ (by simp)]
  rfl
 ·have hzero : ((Array.range (len * z)).map fun x => zv.cells[x % zv.cells.size]!) = (((Array.range (len * z)).map fun x => zv.cells[x % zv.cells.size]!).toList).toArray := (Array.toArray_toList).symm
  rw [Aa h0]
  simp only [Sem.run_bind, zeroValue, typeInfo, run_program, Result.andThen, hi', Sem.run_pure, hz']
  rw [hzero, hfill _ (by simp)]
  rfl
theorem ew {len : Nat} {parts : List (Nat × Operand)} {vs : List (Nat × Value)} {zv : Value} (hop : o.op = .buildSlice t len parts.toArray) (hp : cK L parts = some vs) (hu : P.underlying t = some (.slice e))
  (hi : (P.info? e).map (fun i => (i.zero, i.size, i.bytes)) = some (some zv, z, sz)) (hzs : zv.cells.size = z) (hz0 : 0 < z) (hnum : vs = (List.range' 0 len).zip (vs.map Prod.snd)) (hlen : (vs.map Prod.snd).length = len) (h1 : ∀ v ∈ vs.map Prod.snd, v.cells.size = z) (hcs : (vs.map Prod.snd).flatMap (fun v => v.cells.toList) = cs) (hsm : len * z ≤ 16777216) :
  Og ds P o n L (St ok w0 own fs) (fun b : Nat => .slice (some ⟨b, 0, none⟩) len len) (fun b => St ok w0 (⟨some b, cs, e⟩ :: own) fs) := yS hop hp hu (qp hu hi hzs hz0 hnum hlen h1 hcs hsm)
theorem jE {len : Nat} {parts : List (Nat × Operand)} {vs : List (Nat × Value)} {zv : Value} (hop : o.op = .buildSlice t len parts.toArray) (hp : cK L parts = some vs) (hu : P.underlying t = some (.slice e))
  (hi : (P.info? e).map (fun i => (i.zero, i.size, i.bytes)) = some (some zv, z, sz)) (hzs : zv.cells.size = z) (hz0 : 0 < z) (hnum : vs = (List.range' 0 len).zip (vs.map Prod.snd)) (hlen : (vs.map Prod.snd).length = len) (h1 : ∀ v ∈ vs.map Prod.snd, v.cells.size = z) (hcs : (vs.map Prod.snd).flatMap (fun v => v.cells.toList) = cs) (hsm : len * z ≤ 16777216) :
  Fre ds P o n L (fun b : Nat => .slice (some ⟨b, 0, none⟩) len len) cs e := yX hop hp hu (qp hu hi hzs hz0 hnum hlen h1 hcs hsm)
end
theorem St.addN {ok : Nat → Prop} {w0 w : World} {own : List Ent} {fs : List Fact} (h : St ok w0 own fs w) : St ok w0 own (Fact.sl none [] :: fs) w := h.add (f := Fact.sl none []) (Or.inl rfl)
def okN (a : Bs) : Prop := a.length ≤ 128 ∧ Can a
instance (a : Bs) : Decidable (okN a) := inferInstanceAs (Decidable (_ ∧ _))
theorem jh (a : Bs) : Can a ↔ a.length = 0 ∨ (a.getD 0 default).toNat ≠ 0 := by
 cases a with
 | nil => simp [Can]
 | cons c s =>
  simp only [Can, List.head?_cons, Ay, Dj]
  constructor
  ·intro h; right; intro h0; exact h (by rw [show c = 0 from UInt8.toNat_inj.1 h0])
  ·rintro (h | h)
   ·omega
   ·intro h0; injection h0 with h0; subst h0; exact h rfl
theorem ay {a : Bs} {w : World} :
  Cw 53 #[.string (S a)] w (.bool (decide (okN a))) := by
 have hci := jh a
 refine En [] [(0, .string (S a))] Tryz.func53 I Tryz.ntmps53 I (Ac I (An _)) Fn (Cs (FN ?_)); refine Yn I u22 (Ym I (Km I (Nc 6 I (fun hg6 => ?_) (fun hg6 => ?_))))
 ·refine Km I (Yn I u22 (Yi I (Km I (Nc 10 I (fun hg10 => ?_) (fun hg10 => ?_)))))
  ·refine T2 I (Kt I (Yp I (Yp I (le ?_))))
   exact Rn I (.tmp I .nil) fun w' hS => ⟨congrArg (fun b => Ending.returned (.bool b)) (by
    first
     | (symm; rw [decide_eq_true_eq]; exact ⟨by omega, hci.2 (.inl (by omega))⟩)
     | (symm; rw [decide_eq_false_iff_not]; rintro ⟨h, _⟩; omega)
     | (show (!decide ((((a.getD 0 default).toNat : Nat) : Int) = 0)) = _
        rw [B7]; simp only [C4, decide_eq_false_iff_not, decide_eq_true_eq]
        exact ⟨fun h => ⟨by omega, hci.2 (.inr (by omega))⟩, fun h => by have := (hci.1 h.2).resolve_left (by omega); omega⟩)), hS.below⟩
  ·refine Km I (Kq I (ck I I I u22 ?_) ?_)
   ·omega
   refine Yj I (Yq I (Yp I (le ?_)))
   exact Rn I (.tmp I .nil) fun w' hS => ⟨congrArg (fun b => Ending.returned (.bool b)) (by
    first
     | (symm; rw [decide_eq_true_eq]; exact ⟨by omega, hci.2 (.inl (by omega))⟩)
     | (symm; rw [decide_eq_false_iff_not]; rintro ⟨h, _⟩; omega)
     | (show (!decide ((((a.getD 0 default).toNat : Nat) : Int) = 0)) = _
        rw [B7]; simp only [C4, decide_eq_false_iff_not, decide_eq_true_eq]
        exact ⟨fun h => ⟨by omega, hci.2 (.inr (by omega))⟩, fun h => by have := (hci.1 h.2).resolve_left (by omega); omega⟩)), hS.below⟩
 ·refine T4 I (T4 I (Yq I (le ?_)))
  exact Rn I (.tmp I .nil) fun w' hS => ⟨congrArg (fun b => Ending.returned (.bool b)) (by
   first
    | (symm; rw [decide_eq_true_eq]; exact ⟨by omega, hci.2 (.inl (by omega))⟩)
    | (symm; rw [decide_eq_false_iff_not]; rintro ⟨h, _⟩; omega)
    | (show (!decide ((((a.getD 0 default).toNat : Nat) : Int) = 0)) = _
       rw [B7]; simp only [C4, decide_eq_false_iff_not, decide_eq_true_eq]
       exact ⟨fun h => ⟨by omega, hci.2 (.inr (by omega))⟩, fun h => by have := (hci.1 h.2).resolve_left (by omega); omega⟩)), hS.below⟩
theorem dx {a : Bs} {i : Nat} {w : World} (ha : a.length ≤ 1000000000) (hi : i ≤ 1000000000) :
  Cw 210 #[.string (S a), .int .i64 (i : Int)] w (.int .i64 ((val a / 256 ^ i % 256 : Nat) : Int)) := by
 refine En [] [(0, .string (S a)), (1, .int .i64 (i : Int))] Tryz.func210 I Tryz.ntmps210 I (Ac I (Ac I (An _))) Fn (Cs (FM ?_)); refine Km I (Yn I u22 (Hg (fun hc8 => ?_) (fun hc8 => ?_)))
 ·refine Cs (le ?_); refine Xb ?_
  exact R1 I I (by rw [kz a i (by omega)]; rfl)
 ·refine GG ?_; refine Yn I u22 (F1 ?_)
  refine Kq I (ck I I I u22 ?_) ?_
  ·omega
  refine Kq I (k5 I I u5 u3 ?_) ?_
  ·(exact kv _)
  refine le ?_
  exact R1 I I (by rw [jr a i (by omega)]; simp only [tup]; congr 3)
theorem kE {t : Bs} (h0 : 0 < t.length) (h : (t.getD 0 default).toNat = 0) : cU t = cU (t.drop 1) := by
 cases t with
 | nil => simp at h0
 | cons c s =>
  have : c = 0 := UInt8.toNat_inj.1 h
  subst this; simp [cU]
theorem dI {t : Bs} (h : t.length = 0 ∨ (t.getD 0 default).toNat ≠ 0) : cU t = t := tC ((jh t).2 h)
theorem rP {b : Bs} {ad : Option Addr} {cap : Nat} {w : World} {ok : Nat → Prop} (hF1 : (Fact.sl ad (b.map B)).holds ok w) (hcap : b.length ≤ cap) (hb : b.length ≤ 1000000000) :
  Cw 134 #[.slice ad b.length cap] w (.string (S (ae (val b)))) := by
 refine En [Fact.sl ad (b.map B)] [(0, .slice ad b.length cap)] Tryz.func134 I Tryz.ntmps134 I (Ac I (An _)) (Fc (af hF1) Fn) (Cs (Ka I (Nt (Cq (Cb (Lo (σ := Bs × (Option Addr) × Nat) [] (fun gq => [(0, .slice gq.2.1 gq.1.length gq.2.2)]) (fun gq => cU gq.1 = cU b ∧ gq.1.length ≤ gq.2.2 ∧ gq.1.length ≤ b.length) (fun gq => gq.1.length) (fun gq => []) (fun gq => [Fact.sl gq.2.1 (gq.1.map B)]) (b, ad, cap) (S0 _) (S1 I) (by (try dsimp only); exact ⟨rfl, hcap, Ba _⟩) (fun _ h => h) ?_))))))
 rintro ⟨t, a', c⟩ hinv1; (try dsimp only at hinv1 ⊢)
 obtain ⟨ht, htc, htb⟩ := hinv1
 refine Cq (Cs (Km I (Yo I aF (Yg I (Km I (Nc 6 I (fun hg6 => ?_) (fun hg6 => ?_)))))))
 ·refine Km I (Kq I (Ib I I I aF (by omega) (by (rw [Ag]; omega))) ?_)
  refine Kq I (ldm I I u5 I (by omega)) ?_
  refine Yi I (Yp I (Nt (Ci I (fun hc11 => ?_) (fun hc11 => ?_))))
  ·have hz : (t.getD 0 default).toNat = 0 := by (simp at hc11; exact hc11)
   refine Ck (Xa (Cb (Cg (Km I (Kq I (kT I I I aF (by kernel_rfl : _ = some 1) (by omega) (by (try simp only [sN, Int.reduceToNat, Nat.reduceAdd, Nat.reduceMul, Nat.reduceSub]); rfl) (by (try simp only [sN, Int.reduceToNat, Nat.reduceAdd, Nat.reduceMul, Nat.reduceSub]); rfl) (by (try simp only [sN, Int.reduceToNat, Nat.reduceAdd, Nat.reduceMul, Nat.reduceSub]); rfl)) ?_))))); refine Ns 13 I (v' := .slice (cut a' 1 c 1) (t.drop 1).length (c - 1)) (by rw [C2]) ?_; refine Ka I (Nn (Xd (Lx ((t.drop 1, cut a' 1 c 1, c - 1)) (by simp only [C2]; omega) (S0 _) (by refine (Sc ?_ (S0 _)) <;> (rfl)) ?_ (by exact fun w h => (h.add (f := Fact.sl (cut a' 1 c 1) ((t.drop 1).map B)) (ka 1 htc (h.fact (Fact.sl a' (t.map B)) (by simp)))).sub (Ax _) (fun f hf => Be.2 (.inl (List.mem_singleton.1 hf))))))); (try dsimp only); exact ⟨by rw [← kE (by omega) hz]; exact ht, by simp; omega, by simp; omega⟩
  ·refine Fq ?_; refine Xa (Cs (Km I ?_)); refine Kq I (s6 I I .tc aF u5 u22 ?_) ?_
   ·rfl
   refine le ?_; exact R1 I I (by rw [show ae (val b) = t from by rw [← dH, ← ht, dI (by omega)]]; rfl)
 ·refine T4 I (Yq I (Fx (fun _ => ?_)))
  refine Fq ?_; refine Xa (Cs (Km I ?_))
  refine Kq I (s6 I I .tc aF u5 u22 ?_) ?_
  ·rfl
  refine le ?_
  exact R1 I I (by rw [show ae (val b) = t from by rw [← dH, ← ht, dI (by omega)]]; rfl)
theorem em {b : Bs} {ad : Option Addr} {m cap : Nat} {w : World} {ok : Nat → Prop} (hF1 : (Fact.sl ad (b.map B)).holds ok w) (hm : m = b.length) (hcap : b.length ≤ cap) (hb : b.length ≤ 1000000000) :
  Cw 134 #[.slice ad m cap] w (.string (S (ae (val b)))) :=
 by subst hm; exact rP hF1 hcap hb
def fE (m k n : Nat) : List Value := (List.replicate (m - k) (0 : UInt8) ++ be k n).map B
theorem dk (m n : Nat) : fE m 0 n = List.replicate m (B 0) := by simp [fE, be]
theorem cL (m n : Nat) : fE m m n = (be m n).map B := by simp [fE]
theorem cD (m k n : Nat) (h : k ≤ m) : (fE m k n).length = m := by simp [fE, aQ]; omega
theorem cC (m k n : Nat) (h : k < m) : (fE m k n).set (m - 1 - k) (B (UInt8.ofNat (n / 256 ^ k))) = fE m (k + 1) n := by
 unfold fE
 rw [← List.map_set]
 congr 1
 rw [show m - k = (m - (k + 1)) + 1 by omega, List.replicate_succ', Cr, Do _ _ (by simp; omega), Eg, show m - 1 - k - (m - (k + 1)) = 0 by omega]
 rfl
theorem p8 (n k : Nat) (h : k ≤ 8) : IntKind.u8.wrap ((n : Int).fdiv (2 ^ (min (Int.toNat ((8 * k : Nat) : Int)) IntKind.u64.bits))) = ((UInt8.ofNat (n / 256 ^ k)).toNat : Int) := by
 have m1 : min (Int.toNat ((8 * k : Nat) : Int)) IntKind.u64.bits = 8 * k := by
  have : IntKind.u64.bits = 64 := by decide
  omega
 have e2 : ((2 : Int) ^ (8 * k)) = ((256 ^ k : Nat) : Int) := by rw [Int.pow_mul]; norm_cast
 rw [m1, e2, IntKind.wrap_u8, Dn _ (Br _), UInt8.toNat_ofNat']
 norm_cast
theorem fU {n : Nat} {w : World} (hn : n < 18446744073709551616) :
  Cw 55 #[.int .u64 (n : Int)] w (.string (S (ae n))) := by
 refine En [] [(0, .int .u64 (n : Int))] Tryz.func55 I Tryz.ntmps55 I (Ac I (An _)) Fn (Cs (Ka I (Nt (Cs (Kh I (Oz [.int .u8 0, .int .u8 0, .int .u8 0, .int .u8 0, .int .u8 0, .int .u8 0, .int .u8 0, .int .u8 0] I) ?_)))))
 intro b3
 refine Nt (Cq (Cs (Km I (Nt (Cb (Lo (σ := Nat) [(0, _), (3, _)] (fun gq => [(5, .int .i64 (gq : Int))]) (fun gq => gq ≤ 8) (fun gq => 8 - gq) (fun gq => [⟨some b3, fE 8 gq n, 208⟩]) (fun gq => []) (0) (S2 I I) (S1 I) (by (try dsimp only); exact Af _) (by exact fun w h => h) ?_))))))
 rintro k hinv1; (try dsimp only at hinv1 ⊢)
 obtain hk := hinv1
 refine ne (fun hc6 => ?_) (fun hc6 => ?_)
 ·refine FO ?_; refine Km I (Ka I (Nt (Cg (Km I (Kq I (et I I I (by omega)) (Ns 9 I (v' := .int .i64 (((7 - k : Nat) : Int))) (congrArg (Value.int .i64) (by omega)) (Km I (Km I (Kq I (dM I I I (by omega)) ?_)))))))))
  refine Kq I (f6 I I I ?_) ?_
  ·omega
  refine Kq I (aS I I nh u5) (Ns 14 I (v' := B (UInt8.ofNat (n / 256 ^ k))) (by exact congrArg (Value.int .u8) (p8 n k (by omega))) ?_)
  refine Kq I (Jb I I I CS (by kernel_rfl : _ = some 1) ?_) ?_
  ·omega
  refine Ng I I (st I I I .tc (by kernel_rfl) I ?_ (by rfl)) ?_
  ·rw [cD _ _ _ (by omega)]; omega
  intro _
  refine Nn (Xd (Xa (Cg (Kq I (Rz I I I (by omega)) (Km I (Nn (Lx (k + 1) (by (try dsimp only); omega) (S2 I I) (by refine (Sc ?_ (S0 _)) <;> (rfl)) ?_ (by exact fun w h => by rw [← cC 8 k n (by omega)]; exact h))))))))
  (try dsimp only)
  omega
 ·refine Fq ?_
  obtain rfl : k = 8 := by omega
  rw [cL]
  refine Xa (Cs (Kq I (eP I I CS (by kernel_rfl : _ = some 1)) ?_))
  refine Kc I (fun w hS => em (b := be 8 n) (by (exact hS.os)) (by rw [aQ]) (by rw [aQ]; decide) (by rw [aQ]; decide)) (le ?_)
  exact R1 I I (by rw [dF, Am (by omega)]; rfl)
theorem pf : ∀ (a b : Bs), a.length = b.length → Lib.compareBytes a b = dn (val a) (val b)
 | [], [], _ => by simp [Lib.compareBytes, dn, val]
 | [], _ :: _, h => by simp at h
 | _ :: _, [], h => by simp at h
 | x :: a, y :: b, h => by
  have hl : a.length = b.length := by simpa using h
  have ih := pf a b hl
  have ha := aG a; have hb := aG b
  rw [hl] at ha
  simp only [Lib.compareBytes, val, hl]
  rcases Nat.lt_trichotomy x.toNat y.toNat with q | q | q
  ·have h1 : (x.toNat + 1) * 256 ^ b.length ≤ y.toNat * 256 ^ b.length := Bp _ q; rw [Bk, Cn] at h1; rw [Ae (show x < y from q), dn, Ae (by omega)]
  ·have hxy : x = y := UInt8.toNat_inj.1 q; subst hxy; rw [Aa (show ¬ x < x from Nat.lt_irrefl _), Aa (show ¬ x < x from Nat.lt_irrefl _), ih]; unfold dn; split <;> split <;> (try split) <;> (try split) <;> omega
  ·have h1 : (y.toNat + 1) * 256 ^ b.length ≤ x.toNat * 256 ^ b.length := Bp _ q; rw [Bk, Cn] at h1; rw [Aa (show ¬ x < y from Nat.not_lt.2 (Nat.le_of_lt q)), Ae (show y < x from q), dn, Aa (by omega), Ae (by omega)]
theorem rq {a b : Bs} (ha : Can a) (hb : Can b) (h : a.length ≠ b.length) : dn (a.length : Int) (b.length : Int) = dn (val a) (val b) := by
 unfold dn
 rcases Nat.lt_or_gt_of_ne h with q | q
 ·have : val a < val b := Nat.lt_of_not_le fun h' => by have := jg hb ha h'; omega
  rw [Ae (by omega), Ae (by omega)]
 ·have : val b < val a := Nat.lt_of_not_le fun h' => by have := jg ha hb h'; omega
  rw [Aa (by omega), Ae (by omega), Aa (by omega), Ae (by omega)]
theorem jH {a b : Bs} {w : World} (ha : Can a) (hb : Can b) :
  Cw 140 #[.string (S a), .string (S b)] w (.int .i64 (dn (val a) (val b))) := by
 refine En [] [(0, .string (S a)), (1, .string (S b))] Tryz.func140 I Tryz.ntmps140 I (Ac I (Ac I (An _))) Fn (Cs (FM ?_)); refine Yn I u22 (Km I (Yn I u22 (Kc I (fun w hS => EI (a := (a.length : Int)) (b := (b.length : Int))) (Ka I (Nt (Fz (fun hc12 => ?_) (fun hc12 => ?_)))))))
 ·have hne : a.length ≠ b.length := fun h => by rw [dn, Aa (by omega), Aa (by omega)] at hc12; exact hc12 rfl
  refine Cs (Km I (le ?_)); refine Xb ?_
  exact R1 I I (by rw [← rq ha hb hne]; rfl)
 ·have heq : a.length = b.length := by unfold dn at hc12; split at hc12 <;> (try split at hc12) <;> omega
  refine GG ?_; refine Kc I (fun w hS => zD) (le ?_)
  exact R1 I I (by rw [← pf a b heq]; rfl)
def fg (a b : Bs) : Int := if okN a ∧ okN b then dn (val a) (val b) else 0
theorem cZ {a b : Bs} {w : World} :
  Cw 60 #[.string (S a), .string (S b)] w (.int .i64 (fg a b)) := by
 refine En [] [(0, .string (S a)), (1, .string (S b))] Tryz.func60 I Tryz.ntmps60 I (Ac I (Ac I (An _))) Fn (Cs (FM ?_)); refine Hp ?_; refine Nc 8 I (fun hg8 => ?_) (fun hg8 => ?_)
 ·refine T2 I (Kt I (Yp I (Nt (Cd I (fun _ => ?_) (fun h => by cases h)))))
  refine Cs (le ?_); refine Xb ?_
  exact R1 I I (by rw [fg, Aa (by simp_all)]; rfl)
 ·refine GM (fun hc12 => ?_) (fun hc12 => ?_)
  ·refine Cs (le ?_); refine Xb ?_; exact R1 I I (by rw [fg, Aa (by simp_all)]; rfl)
  ·have hab : okN a ∧ okN b := by simp_all
   refine GG ?_; refine Kc I (fun w hS => jH (a := a) (b := b) (by exact hab.1.2) (by exact hab.2.2)) (le ?_); exact R1 I I (by rw [fg, Ae hab]; rfl)
theorem mC {a : Bs} {w : World} :
  Cw 251 #[.string (S a)] w (.tuple #[.string (S (if 128 < a.length then [] else a)), .int .i64 (if 128 < a.length then 5 else 0)]) := by
 refine En [] [(0, .string (S a))] Tryz.func251 I Tryz.ntmps251 I (Ac I (An _)) Fn (Cs (Ka I (FM ?_))); refine Yn I u22 (Yg I (Nt (Ci I (fun hc6 => ?_) (fun hc6 => ?_))))
 ·refine Cs (Ka I (le ?_)); refine Xb ?_
  exact R2 I I I (by rw [Ae (by omega), Ae (by omega)]; rfl)
 ·refine Ck (Xa (H7 ?_)); refine le ?_
  exact R2 I I I (by rw [Aa (by omega), Aa (by omega)]; rfl)
def Big : Nat := 256 ^ 128
theorem eo {n : Nat} : (ae n).length ≤ 128 ↔ n < Big := aX
def addN (a b : Bs) : Bs × Int := if okN a ∧ okN b then (if val a + val b < Big then (ae (val a + val b), 0) else ([], 5)) else ([], 3)
def NE (r : Bs × Int) : Value := .tuple #[.string (S r.1), .int .i64 r.2]
theorem rE {a b : Bs} {w : World} :
  Cw 200 #[.string (S a), .string (S b)] w (NE (addN a b)) := by
 refine En [] [(0, .string (S a)), (1, .string (S b))] Tryz.func200 I Tryz.ntmps200 I (Ac I (Ac I (An _))) Fn (Cs (Ka I (FM ?_))); refine Hp ?_; refine Nc 13 I (fun hg13 => ?_) (fun hg13 => ?_)
 ·refine T2 I (Kt I (Yp I (Nt (Cd I (fun _ => ?_) (fun h => by cases h)))))
  refine Cs (Ka I (le ?_)); refine Xb ?_
  exact R2 I I I (by rw [addN, Aa (by simp_all)]; rfl)
 ·refine GM (fun hc17 => ?_) (fun hc17 => ?_)
  ·refine Cs (Ka I (le ?_)); refine Xb ?_; exact R2 I I I (by rw [addN, Aa (by simp_all)]; rfl)
  ·have hab : okN a ∧ okN b := by simp_all
   have hal := hab.1.1; have hbl := hab.2.1; refine Ck (Xa (Cs (Km I (Yn I u22 (Km I (Yn I u22 (Kq I (kb I I I) (Ns 22 I (v' := .int .i64 ((max a.length b.length : Nat) : Int)) (congrArg (Value.int .i64) (by omega)) (HB ?_))))))))); obtain ⟨N, hN⟩ : ∃ N : Nat, N = max a.length b.length + 1 := ⟨_, rfl⟩; refine Ns 23 I (v' := .int .i64 (N : Int)) (by rw [hN]) ?_; have hNl : N ≤ 129 := by omega
   have hS256 : val a + val b < 256 ^ N := by
    have h1 := aG a; have h2 := aG b; have h3 : 256 ^ a.length ≤ 256 ^ (N - 1) := Ar (by decide) (by omega); have h4 : 256 ^ b.length ≤ 256 ^ (N - 1) := Ar (by decide) (by omega); have h5 : 256 ^ N = 256 ^ (N - 1) * 256 := by rw [← A0]; congr 1; omega
    omega
   have hcl : (if 128 < (ae (val a + val b)).length then ([] : Bs) else ae (val a + val b)) = (addN a b).1 ∧ (if 128 < (ae (val a + val b)).length then (5 : Int) else 0) = (addN a b).2 := by
    rw [addN, Ae hab]; by_cases h : val a + val b < Big
    ·have hl := eo.2 h; rw [Aa (show ¬ 128 < (ae (val a + val b)).length by omega), Aa (show ¬ 128 < (ae (val a + val b)).length by omega), Ae h]; exact ⟨rfl, rfl⟩
    ·have hl : ¬ (ae (val a + val b)).length ≤ 128 := fun h' => h (eo.1 h')
     rw [Ae (show 128 < (ae (val a + val b)).length by omega), Ae (show 128 < (ae (val a + val b)).length by omega), Aa h]; exact ⟨rfl, rfl⟩
   refine Ka I (Nt (Cs (Km I (Kh I (ed I I I aF (by kernel_rfl : _ = some (some (.int .u8 0), 1, 1)) I ?_ (by (try simp only [sN, Int.reduceToNat, Nat.reduceAdd, Nat.reduceMul, Nat.reduceSub]); rfl) (by (try simp only [sN, Int.reduceToNat, Nat.reduceAdd, Nat.reduceMul, Nat.reduceSub]); rfl)) ?_))))
   ·omega
   intro b25; refine Ka I (Nt (Cs (Ka I (Ns 8 I (v' := .int .i64 ((cR (val a) (val b) 0 : Nat) : Int)) (congrArg (Value.int .i64) (by rw [jV]; rfl)) ?_)))); refine Nt (Cq (Hd ?_)); refine Nt (Cb (Lo (σ := Nat) [(0, _), (1, _), (6, _), (7, _), (26, _)] (fun gq => [(8, .int .i64 (cR (val a) (val b) gq : Int)), (27, .int .i64 (gq : Int))]) (fun gq => gq ≤ N) (fun gq => N - gq) (fun gq => [⟨some b25, fE N gq (val a + val b), 5⟩]) (fun gq => []) (0) (S5 I I I I I) (S2 I I) (by (try dsimp only); exact Af _) (by exact fun w h => by rw [dk]; exact h) ?_)); rintro k hinv1; (try dsimp only at hinv1 ⊢); obtain hk := hinv1; refine ne (fun hc28 => ?_) (fun hc28 => ?_)
   ·have hc1 := mR (val a) (val b) k; have hd1 := Aq (val a / 256 ^ k) (show 0 < 256 by decide); have hd2 := Aq (val b / 256 ^ k) (show 0 < 256 by decide); refine FO ?_; refine Km I (FN ?_); refine Km I (HX ?_); refine H8 ?_; refine Hk ?_; refine Hk ?_; refine FN ?_; refine Km I (F1 ?_); refine Ns 43 I (v' := .int .i64 ((N - 1 - k : Nat) : Int)) (congrArg (Value.int .i64) (by omega)) (Km I (Kq I (aS I I u3 u5) (Ns 45 I (v' := B (UInt8.ofNat ((val a + val b) / 256 ^ k))) (by exact congrArg (Value.int .u8) (by rw [yD, l7, Cl])) ?_))); refine FX ?_; refine Ng I I (st I I I .tc (by kernel_rfl) I ?_ (by rfl)) ?_
    ·rw [cD _ _ _ (by omega)]; omega
    intro _; refine Nt (Cg (Km I (Kq I (f6 I I I ?_) ?_)))
    ·decide
    refine Ns 48 I (v' := .int .i64 ((cR (val a) (val b) (k + 1) : Nat) : Int)) (congrArg (Value.int .i64) (by rw [E6, jW, Cl])) ?_; refine Ka I (Nn (Xd (Xa (Cg (Kq I (Rz I I I (by omega)) (Km I (Nn (Lx (k + 1) (by (try dsimp only); omega) (S5 I I I I I) (by refine (Sc ?_ (Sc ?_ (S0 _))) <;> (rfl)) ?_ (by exact fun w h => by rw [← cC N k _ (by omega)]; exact h))))))))); (try dsimp only); omega
   ·refine Fq ?_; obtain rfl : k = N := by omega
    rw [cL]; refine Xa (Cs (Km I (Kc I (fun w hS => em (b := be k (val a + val b)) (by (exact hS.os)) (by rw [aQ]) (by rw [aQ]; exact Ba _) (by rw [aQ]; omega)) (Ns 51 I (v' := .string (S (ae (val a + val b)))) (congrArg (fun l => Value.string (S l)) (by rw [dF, Am hS256])) ?_)))); refine Kc I (fun w hS => mC) (Ye I (Ye I (Ka I (le ?_)))); exact R2 I I I (by simp only [tup, NE]; rw [← hcl.1, ← hcl.2])
theorem jN (a b i : Nat) : bm a b i ≤ 1 := by unfold bm; split <;> omega
theorem eM (a b i : Nat) : bm a b (i + 1) = if a / 256 ^ i % 256 < b / 256 ^ i % 256 + bm a b i then 1 else 0 := by
 have e1 : a % 256 ^ (i + 1) = a % 256 ^ i + 256 ^ i * (a / 256 ^ i % 256) := by rw [A0, Nat.mod_mul]
 have e2 : b % 256 ^ (i + 1) = b % 256 ^ i + 256 ^ i * (b / 256 ^ i % 256) := by rw [A0, Nat.mod_mul]
 have m1 := Aq a (jA i); have m2 := Aq b (jA i)
 unfold bm
 rw [e1, e2]
 generalize 256 ^ i = P at *
 generalize a / P % 256 = x at *
 generalize b / P % 256 = y at *
 rcases Nat.lt_trichotomy x y with q | q | q
 ·have h1 : P * (x + 1) ≤ P * y := Ca _ q
  rw [Bn, As] at h1
  rw [Ae (by omega)]
  split <;> rw [Ae (by omega)]
 ·subst q
  by_cases h : a % P < b % P
  ·rw [Ae (by omega), Ae h, Ae (by omega)]
  ·rw [Aa (by omega), Aa h, Aa (by omega)]
 ·have h1 : P * (y + 1) ≤ P * x := Ca _ q
  rw [Bn, As] at h1
  rw [Aa (by omega)]
  split <;> rw [Aa (by omega)]
theorem iC {a b : Nat} (h : b ≤ a) (i : Nat) (x : Int) (hx : x = (a / 256 ^ i % 256 : Nat) - (b / 256 ^ i % 256 : Nat) - (bm a b i : Nat) ∨ x = (a / 256 ^ i % 256 : Nat) - (b / 256 ^ i % 256 : Nat) - (bm a b i : Nat) + 256) :
  IntKind.u8.wrap x = ((UInt8.ofNat ((a - b) / 256 ^ i)).toNat : Int) := by
 obtain ⟨h1, h2⟩ := qb h i
 have h3 := jN a b i
 rw [IntKind.wrap_u8, UInt8.toNat_ofNat', h1]
 omega
theorem AY {a b : Bs} {w : World} (hle : val b ≤ val a) (ha : a.length ≤ 1000000) (hb : b.length ≤ 1000000) :
  Cw 211 #[.string (S a), .string (S b)] w (.string (S (ae (val a - val b)))) := by
 have hS256 : val a - val b < 256 ^ a.length := Bb (Eb _ _) (aG a)
 refine En [] [(0, .string (S a)), (1, .string (S b))] Tryz.func211 I Tryz.ntmps211 I (Ac I (Ac I (An _))) Fn (Cs (Ka I (Nt (Cs (Km I (Yn I u22 (Ka I (Nt (Cs (Km I (Kh I (ed I I I aF (by kernel_rfl : _ = some (some (.int .u8 0), 1, 1)) I ?_ (by (try simp only [sN, Int.reduceToNat, Nat.reduceAdd, Nat.reduceMul, Nat.reduceSub]); rfl) (by (try simp only [sN, Int.reduceToNat, Nat.reduceAdd, Nat.reduceMul, Nat.reduceSub]); rfl)) ?_)))))))))))
 ·omega
 intro b13
 refine Ka I (Nt (Cs (Ka I (Ns 7 I (v' := .int .i64 ((bm (val a) (val b) 0 : Nat) : Int)) (congrArg (Value.int .i64) (by rw [ji]; rfl)) ?_))))
 refine Nt (Cq (Hd ?_)); refine Nt (Cb (Lo (σ := Nat) [(0, _), (1, _), (5, _), (6, _), (14, _)] (fun gq => [(7, .int .i64 (bm (val a) (val b) gq : Int)), (15, .int .i64 (gq : Int))]) (fun gq => gq ≤ a.length) (fun gq => a.length - gq) (fun gq => [⟨some b13, fE a.length gq (val a - val b), 5⟩]) (fun gq => []) (0) (S5 I I I I I) (S2 I I) (by (try dsimp only); exact Af _) (by exact fun w h => by rw [dk]; exact h) ?_))
 rintro k hinv1; (try dsimp only at hinv1 ⊢)
 obtain hk := hinv1
 refine ne (fun hc16 => ?_) (fun hc16 => ?_)
 ·have hc1 := jN (val a) (val b) k
  have hd1 := Aq (val a / 256 ^ k) (show 0 < 256 by decide); have hd2 := Aq (val b / 256 ^ k) (show 0 < 256 by decide)
  refine FO ?_; refine Km I (FN ?_); refine HX ?_; refine H8 ?_; refine Kq I (aK I I I (by omega)) (Ns 24 I (v' := .int .i64 ((((val a / 256 ^ k % 256 : Nat) : Int) - ((val b / 256 ^ k % 256 : Nat) : Int)))) (congrArg (Value.int .i64) (by omega)) (Km I (Hq ?_))); refine Cs (FM ?_); refine F7 (fun hc28 => ?_) (fun hc28 => ?_)
  ·refine Cs (Km I (Kq I (bB I I I (by omega)) (Ka I (Nt (Cg (Ka I (Nt (Cg (Ns 7 I (v' := .int .i64 (bm (val a) (val b) (k + 1) : Int)) (congrArg (Value.int .i64) (by rw [eM]; (rw [Ae (by omega)]; rfl))) ?_))))))))); refine Km I (Km I (F1 ?_)); refine Ns 35 I (v' := .int .i64 ((a.length - 1 - k : Nat) : Int)) (congrArg (Value.int .i64) (by omega)) (Km I (Kq I (aS I I u3 u5) (Ns 37 I (v' := B (UInt8.ofNat ((val a - val b) / 256 ^ k))) (by exact congrArg (Value.int .u8) (iC hle k _ (by omega))) ?_))); refine FX ?_; refine Ng I I (st I I I .tc (by kernel_rfl) I ?_ (by rfl)) ?_
   ·rw [cD _ _ _ (by omega)]; omega
   intro _; refine Nn (Xd (Xa (Cg (Kq I (Rz I I I (by omega)) (Km I (Nn (Lx (k + 1) (by (try dsimp only); omega) (S5 I I I I I) (by refine (Sc ?_ (Sc ?_ (S0 _))) <;> (rfl)) ?_ (by exact fun w h => by rw [← cC a.length k _ (by omega)]; exact h)))))))); (try dsimp only); omega
  ·refine Ck (Xa (Cg (Ns 7 I (v' := .int .i64 (bm (val a) (val b) (k + 1) : Int)) (congrArg (Value.int .i64) (by rw [eM]; (rw [Aa (by omega)]; rfl))) ?_))); refine Km I (Km I (F1 ?_)); refine Ns 35 I (v' := .int .i64 ((a.length - 1 - k : Nat) : Int)) (congrArg (Value.int .i64) (by omega)) (Km I (Kq I (aS I I u3 u5) (Ns 37 I (v' := B (UInt8.ofNat ((val a - val b) / 256 ^ k))) (by exact congrArg (Value.int .u8) (iC hle k _ (by omega))) ?_))); refine FX ?_; refine Ng I I (st I I I .tc (by kernel_rfl) I ?_ (by rfl)) ?_
   ·rw [cD _ _ _ (by omega)]; omega
   intro _; refine Nn (Xd (Xa (Cg (Kq I (Rz I I I (by omega)) (Km I (Nn (Lx (k + 1) (by (try dsimp only); omega) (S5 I I I I I) (by refine (Sc ?_ (Sc ?_ (S0 _))) <;> (rfl)) ?_ (by exact fun w h => by rw [← cC a.length k _ (by omega)]; exact h)))))))); (try dsimp only); omega
 ·refine Fq ?_
  obtain rfl : k = a.length := by omega
  rw [cL]
  refine Xa (Cs (Km I (Kc I (fun w hS => em (b := be a.length (val a - val b)) (by (exact hS.os)) (by rw [aQ]) (by rw [aQ]; exact Ba _) (by rw [aQ]; omega)) (le ?_))))
  exact II
def fT (a b : Bs) : Bs × Int := if okN a ∧ okN b then (if val a < val b then ([], 2) else (ae (val a - val b), 0)) else ([], 3)
theorem aR (a b : Nat) : dn a b < 0 ↔ a < b := by
 unfold dn
 constructor
 ·intro h; split at h <;> (try split at h) <;> omega
 ·intro h; rw [Ae (by omega)]; decide
theorem fQ {a b : Bs} {w : World} :
  Cw 132 #[.string (S a), .string (S b)] w (NE (fT a b)) := by
 refine En [] [(0, .string (S a)), (1, .string (S b))] Tryz.func132 I Tryz.ntmps132 I (Ac I (Ac I (An _))) Fn (Cs (Ka I (FM ?_))); refine Hp ?_; refine Nc 9 I (fun hg9 => ?_) (fun hg9 => ?_)
 ·refine T2 I (Kt I (Yp I (Nt (Cd I (fun _ => ?_) (fun h => by cases h)))))
  refine Cs (Ka I (le ?_)); refine Xb ?_
  exact R2 I I I (by rw [fT, Aa (by simp_all)]; rfl)
 ·refine GM (fun hc13 => ?_) (fun hc13 => ?_)
  ·refine Cs (Ka I (le ?_)); refine Xb ?_; exact R2 I I I (by rw [fT, Aa (by simp_all)]; rfl)
  ·have hab : okN a ∧ okN b := by simp_all
   have hal := hab.1.1; have hbl := hab.2.1; refine GO ?_; refine Km I (Kc I (fun w hS => jH (a := a) (b := b) (by exact hab.1.2) (by exact hab.2.2)) (F7 (fun hc17 => ?_) (fun hc17 => ?_)))
   ·rw [aR] at hc17; refine Cs (Ka I (le ?_)); refine Xb ?_; exact R2 I I I (by rw [fT, Ae hab, Ae hc17]; rfl)
   ·have hle : val b ≤ val a := Nat.not_lt.1 fun h => by have := (aR _ _).2 h; omega
    refine GG ?_; refine Kc I (fun w hS => AY (a := a) (b := b) (by assumption) (by omega) (by omega)) (Ka I (le ?_)); exact R2 I I I (by rw [fT, Ae hab, Aa (by omega)]; rfl)
def aL (a : Bs) : Nat := if a = [] then 0 else 8 * (a.length - 1) + Lib.bitLen (a.getD 0 default).toNat
theorem jj : ∀ f x, Lib.bitLenAux f x ≤ f
 | 0, x => by simp [Lib.bitLenAux]
 | f + 1, x => by unfold Lib.bitLenAux; split; omega; have := jj f (x / 2); omega
theorem fi (x : Nat) : Lib.bitLen x ≤ 64 := jj 64 x
theorem og {a : Bs} {w : World} :
  Cw 129 #[.string (S a)] w (.int .i64 ((if okN a then aL a else 0 : Nat) : Int)) := by
 refine En [] [(0, .string (S a))] Tryz.func129 I Tryz.ntmps129 I (Ac I (An _)) Fn (Cs (FM ?_)); refine Hp ?_; refine Nc 6 I (fun hg6 => ?_) (fun hg6 => ?_)
 ·refine T2 I (Yp I (Nt (Cd I (fun _ => ?_) (fun h => by cases h))))
  refine Cs (le ?_); refine Xb ?_
  exact R1 I I (by (rw [Aa hg6]; rfl))
 ·refine Km I (Ys I (Yq I (Nt (Ci I (fun hc9 => ?_) (fun hc9 => ?_)))))
  ·refine Cs (le ?_); refine Xb ?_; exact R1 I I (by (rw [hc9]; simp [aL, tup]))
  ·have hok : okN a := by simp_all
   have hne : a ≠ [] := by simp_all
   have hl0 : 0 < a.length := Di.2 hne; have hal := hok.1; have hbl := fi (a.getD 0 default).toNat; refine Ck (Xa (Cs (Km I (Yn I u22 (Kq I (aB I I I (by omega)) (Kq I (dM I I I (by omega)) (Km I (Kq I (ck I I I u22 ?_) ?_))))))))
   ·omega
   refine Kc I (fun w hS => uI (x := (a.getD 0 default).toNat) (by exact (a.getD 0 default).toNat_lt)) (Hk ?_); refine le ?_; exact R1 I I (by rw [Ae hok, aL, Aa hne]; rfl)
theorem E8 (a : Bs) : okN a ↔ a.length ≤ 128 ∧ (a = [] ∨ (a.getD 0 default).toNat ≠ 0) := by
 rw [okN, jh]; cases a <;> simp
theorem aY {a : Bs} {w : World} :
  Cw 122 #[.string (S a)] w (.bool (decide (okN a))) := by
 have hci := E8 a
 refine En [] [(0, .string (S a))] Tryz.func122 I Tryz.ntmps122 I (Ac I (An _)) Fn (Cs (FN ?_)); refine Yn I u22 (Ym I (Km I (Nc 6 I (fun hg6 => ?_) (fun hg6 => ?_))))
 ·refine Km I (Ys I (Km I (Nc 9 I (fun hg9 => ?_) (fun hg9 => ?_))))
  ·refine T2 I (Kt I (Yp I (Yp I (le ?_))))
   exact Rn I (.tmp I .nil) fun w' hS => ⟨congrArg (fun b => Ending.returned (.bool b)) (by
    first
     | (symm; rw [decide_eq_true_eq, hci]; exact ⟨by omega, .inl (by simp_all)⟩)
     | (symm; rw [decide_eq_false_iff_not, hci]; rintro ⟨h, _⟩; omega)
     | (show (!decide ((((a.getD 0 default).toNat : Nat) : Int) = 0)) = _
        rw [B7]; simp only [C4, decide_eq_false_iff_not, decide_eq_true_eq, hci]
        exact ⟨fun h => ⟨by omega, .inr (by omega)⟩, fun h => by have := h.2.resolve_left (by simp_all); omega⟩)), hS.below⟩
  ·refine Km I (Kq I (ck I I I u22 ?_) ?_)
   ·(exact ⟨by decide, Di.2 (by simp_all)⟩)
   refine Yj I (Yq I (Yp I (le ?_)))
   exact Rn I (.tmp I .nil) fun w' hS => ⟨congrArg (fun b => Ending.returned (.bool b)) (by
    first
     | (symm; rw [decide_eq_true_eq, hci]; exact ⟨by omega, .inl (by simp_all)⟩)
     | (symm; rw [decide_eq_false_iff_not, hci]; rintro ⟨h, _⟩; omega)
     | (show (!decide ((((a.getD 0 default).toNat : Nat) : Int) = 0)) = _
        rw [B7]; simp only [C4, decide_eq_false_iff_not, decide_eq_true_eq, hci]
        exact ⟨fun h => ⟨by omega, .inr (by omega)⟩, fun h => by have := h.2.resolve_left (by simp_all); omega⟩)), hS.below⟩
 ·refine T4 I (T2 I (Kt I (Yq I (le ?_))))
  exact Rn I (.tmp I .nil) fun w' hS => ⟨congrArg (fun b => Ending.returned (.bool b)) (by
   first
    | (symm; rw [decide_eq_true_eq, hci]; exact ⟨by omega, .inl (by simp_all)⟩)
    | (symm; rw [decide_eq_false_iff_not, hci]; rintro ⟨h, _⟩; omega)
    | (show (!decide ((((a.getD 0 default).toNat : Nat) : Int) = 0)) = _
       rw [B7]; simp only [C4, decide_eq_false_iff_not, decide_eq_true_eq, hci]
       exact ⟨fun h => ⟨by omega, .inr (by omega)⟩, fun h => by have := h.2.resolve_left (by simp_all); omega⟩)), hS.below⟩
theorem k8 {a : Bs} {i : Nat} {w : World} (ha : a.length ≤ 1000000000) (hi : i ≤ 1000000000) :
  Cw 293 #[.string (S a), .int .i64 (i : Int)] w (.int .i64 ((val a / 256 ^ i % 256 : Nat) : Int)) := by
 refine En [] [(0, .string (S a)), (1, .int .i64 (i : Int))] Tryz.func293 I Tryz.ntmps293 I (Ac I (Ac I (An _))) Fn (Cs (FM ?_)); refine Km I (Yn I u22 (Hg (fun hc8 => ?_) (fun hc8 => ?_)))
 ·refine Cs (le ?_); refine Xb ?_
  exact R1 I I (by rw [kz a i (by omega)]; rfl)
 ·refine GG ?_; refine Yn I u22 (F1 ?_)
  refine Kq I (ck I I I u22 ?_) ?_
  ·omega
  refine Kq I (k5 I I u5 u3 ?_) ?_
  ·(exact kv _)
  refine le ?_
  exact R1 I I (by rw [jr a i (by omega)]; simp only [tup]; congr 3)
theorem hI : ∀ (b : Bs) (i : Nat), (∀ j, j < i → (b.getD j default).toNat = 0) → i ≤ b.length → cU b = cU (b.drop i)
 | b, 0, _, _ => by simp
 | [], i + 1, _, h => by simp at h
 | c :: s, i + 1, h, hl => by
  have h0 := h 0 (by omega)
  have : c = 0 := UInt8.toNat_inj.1 h0
  subst this
  rw [List.drop_succ_cons, ← hI s i (fun j hj => h (j + 1) (by omega)) (by simpa using hl)]
  simp [cU]
theorem wR {b : Bs} {ad : Option Addr} {cap : Nat} {w : World} {ok : Nat → Prop} (hF1 : (Fact.sl ad (b.map B)).holds ok w) (hcap : b.length ≤ cap) (hb : b.length ≤ 1000000000) :
  Cw 292 #[.slice ad b.length cap] w (.string (S (ae (val b)))) := by
 refine En [Fact.sl ad (b.map B)] [(0, .slice ad b.length cap)] Tryz.func292 I Tryz.ntmps292 I (Ac I (An _)) (Fc (af hF1) Fn) (Cs (Ka I (Nt (Cs (Ka I (Nt (Cq (Cb (Lp (σ := Nat) [(0, _)] (fun gq => [(3, .int .i64 (gq : Int))]) (fun gq => gq ≤ b.length ∧ ∀ j, j < gq → (b.getD j default).toNat = 0) (fun gq => b.length - gq) (0) (S1 I) (S1 I) (by (try dsimp only); exact ⟨Af _, fun j h => by omega⟩) ?_)))))))))
 rintro i hinv1; (try dsimp only at hinv1 ⊢)
 obtain ⟨hi, hz⟩ := hinv1
 refine Cq (Hd ?_); refine Yo I aF (Yl I (Km I (Nc 8 I (fun hg8 => ?_) (fun hg8 => ?_))))
 ·refine Km I (Km I (Kq I (Ib I I I aF (by omega) (by (rw [Ag]; omega))) ?_))
  refine Kq I (ldm I I u5 I (by omega)) ?_
  refine Yi I (Yp I (Nt (Ci I (fun hc14 => ?_) (fun hc14 => ?_))))
  ·have hzi : (b.getD i default).toNat = 0 := by (simp at hc14; exact hc14)
   refine Ck (Xa (Cb (Cg (Km I (Kq I (Rz I I I (by omega)) (Ka I (Nn (Xd (Ly (i + 1) (by (try dsimp only); omega) (S1 I) (by refine (Sc ?_ (S0 _)) <;> (rfl)) ?_ (fun _ h => h)))))))))); (try dsimp only); exact ⟨by omega, fun j hj => by rcases Bc.1 hj with h | rfl; exact hz j h; exact hzi⟩
  ·refine Fq ?_; refine Xa (Hd ?_); refine Kq I (w9 I I I aF (by kernel_rfl : _ = some 1) (by omega) (by (try simp only [sN, Int.reduceToNat, Nat.reduceAdd, Nat.reduceMul, Nat.reduceSub]); rfl) (by (try simp only [sN, Int.reduceToNat, Nat.reduceAdd, Nat.reduceMul, Nat.reduceSub]); rfl) (by (try simp only [sN, Int.reduceToNat, Nat.reduceAdd, Nat.reduceMul, Nat.reduceSub]); rfl)) ?_; refine WL.st (fun w h => (h.add (f := Fact.sl (sh ad i) ((b.drop i).map B)) (kI i (h.fact (Fact.sl ad (b.map B)) (by simp))))) ?_; refine WL.st (fun w h => (h.add (f := Fact.sl (cut ad i cap 1) ((b.drop i).map B)) (ka i hcap (h.fact (Fact.sl ad (b.map B)) (by simp))))) ?_; refine Kq I (s6 I I .tc aF u5 u22 ?_) ?_
   ·simp
   refine le ?_; exact R1 I I (by rw [show ae (val b) = b.drop i from by rw [← dH, hI b i hz hi, dI (by rw [C2]; (exact .inr (by rw [show (b.drop i).getD 0 default = b.getD i default from by simp [List.getD]]; omega)))]]; rfl)
 ·refine T4 I (Kt I (Yq I (Fx (fun _ => ?_))))
  refine Fq ?_; refine Xa (Hd ?_)
  refine Kq I (kT I I I aF (by kernel_rfl : _ = some 1) (by omega) (by (try simp only [sN, Int.reduceToNat, Nat.reduceAdd, Nat.reduceMul, Nat.reduceSub]); rfl) (by (try simp only [sN, Int.reduceToNat, Nat.reduceAdd, Nat.reduceMul, Nat.reduceSub]); rfl) (by (try simp only [sN, Int.reduceToNat, Nat.reduceAdd, Nat.reduceMul, Nat.reduceSub]); rfl)) ?_
  refine WL.st (fun w h => (h.add (f := Fact.sl (sh ad i) ((b.drop i).map B)) (kI i (h.fact (Fact.sl ad (b.map B)) (by simp))))) ?_
  refine WL.st (fun w h => (h.add (f := Fact.sl (cut ad i cap 1) ((b.drop i).map B)) (ka i hcap (h.fact (Fact.sl ad (b.map B)) (by simp))))) ?_
  refine Kq I (s6 I I .tc aF u5 u22 ?_) ?_
  ·simp
  refine le ?_
  exact R1 I I (by rw [show ae (val b) = b.drop i from by rw [← dH, hI b i hz hi, dI (by rw [C2]; (exact .inl (by omega)))]]; rfl)
theorem iE {b : Bs} {ad : Option Addr} {m cap : Nat} {w : World} {ok : Nat → Prop} (hF1 : (Fact.sl ad (b.map B)).holds ok w) (hm : m = b.length) (hcap : b.length ≤ cap) (hb : b.length ≤ 1000000000) :
  Cw 292 #[.slice ad m cap] w (.string (S (ae (val b)))) :=
 by subst hm; exact wR hF1 hcap hb
theorem mS (x : Nat) : IntKind.u8.wrap ((x % 256 : Nat) : Int) = ((UInt8.ofNat x).toNat : Int) := by
 rw [IntKind.wrap_u8, UInt8.toNat_ofNat']; omega
theorem oK {n : Nat} {w : World} (hn : n < 18446744073709551616) :
  Cw 288 #[.int .u64 (n : Int)] w (.string (S (ae n))) := by
 refine En [] [(0, .int .u64 (n : Int))] Tryz.func288 I Tryz.ntmps288 I (Ac I (An _)) Fn (Cs (Ka I (Nt (Cs (Kh I (ed I I I aF (by kernel_rfl : _ = some (some (.int .u8 0), 1, 1)) I ?_ (by (try simp only [sN, Int.reduceToNat, Nat.reduceAdd, Nat.reduceMul, Nat.reduceSub]); rfl) (by (try simp only [sN, Int.reduceToNat, Nat.reduceAdd, Nat.reduceMul, Nat.reduceSub]); rfl)) ?_)))))
 ·omega
 intro b5
 refine GI ?_; refine Ka I (Ns 0 I (v' := .int .u64 ((n / 256 ^ 0 : Nat) : Int)) (by simp) ?_)
 refine Ns 4 I (v' := .int .i64 (7 - ((0 : Nat) : Int))) (by simp) ?_
 refine Nt (Cb (Lo (σ := Nat) [(3, _)] (fun gq => [(0, .int .u64 ((n / 256 ^ gq : Nat) : Int)), (4, .int .i64 (7 - (gq : Int)))]) (fun gq => gq ≤ 8) (fun gq => 8 - gq) (fun gq => [⟨some b5, fE 8 gq n, 5⟩]) (fun gq => []) (0) (S1 I) (S2 I I) (by (try dsimp only); exact Af _) (by exact fun w h => by rw [dk]; exact h) ?_))
 rintro k hinv1; (try dsimp only at hinv1 ⊢)
 obtain hk := hinv1
 refine Cq (Cs (Km I (Hg (fun hc7 => ?_) (fun hc7 => ?_))))
 ·have hdv : n / 256 ^ k ≤ n := Cz _ _
  refine FO ?_; refine Km I (Km I (Ns 11 I (v' := .int .i64 (((7 - k : Nat) : Int))) (congrArg (Value.int .i64) (by omega)) (Km I (Kq I (qw I I I (by decide)) (Kq I (aS I I nh u5) (Ns 14 I (v' := B (UInt8.ofNat (n / 256 ^ k))) (by exact congrArg (Value.int .u8) (mS _)) ?_))))))
  refine FX ?_
  refine Ng I I (st I I I .tc (by kernel_rfl) I ?_ (by rfl)) ?_
  ·rw [cD _ _ _ (by omega)]; omega
  intro _
  refine Nt (Cg (Km I (Kq I (xo I I I (by decide) ?_) ?_)))
  ·(generalize n / 256 ^ k = z at *; exact IntWalk.u64_in _ ⟨by omega, by omega⟩)
  refine Ns 17 I (v' := .int .u64 ((n / 256 ^ (k + 1) : Nat) : Int)) (congrArg (Value.int .u64) (by rw [A0, ← A6])) ?_
  refine Ka I (Nn (Xd (Xa (Cg (Km I (Kq I (aK I I I (by omega)) (Ns 9 I (v' := .int .i64 (7 - ((k + 1 : Nat) : Int))) (congrArg (Value.int .i64) (by omega)) (Ka I (Nn (Lx (k + 1) (by (try dsimp only); omega) (S1 I) (by refine (Sc ?_ (Sc ?_ (S0 _))) <;> (rfl)) ?_ (by exact fun w h => by rw [← cC 8 k n (by omega)]; exact h)))))))))))
  (try dsimp only)
  omega
 ·refine Fq ?_
  obtain rfl : k = 8 := by omega
  rw [cL]
  refine Xa (Cs (Km I (Kc I (fun w hS => iE (b := be 8 n) (by (exact hS.os)) (by rw [aQ]) (by rw [aQ]; decide) (by rw [aQ]; decide)) (le ?_))))
  exact R1 I I (by rw [dF, Am (by omega)]; rfl)
theorem sg {a b : Bs} (h : a.length = b.length) {i : Nat} (hi : i < a.length) (hp : a.take i = b.take i) (hne : (a.getD i default).toNat ≠ (b.getD i default).toNat) : dn (val a) (val b) = if (a.getD i default).toNat < (b.getD i default).toNat then -1 else 1 := by
 have ea : a = a.take i ++ (a.getD i default :: a.drop (i + 1)) := by
  conv => lhs; rw [← Dt i a, B3 hi]
  rw [List.getD_eq_getElem?_getD, Ad hi]; rfl
 have eb : b = b.take i ++ (b.getD i default :: b.drop (i + 1)) := by
  conv => lhs; rw [← Dt i b, B3 (by omega : i < b.length)]
  rw [List.getD_eq_getElem?_getD, Ad (by omega : i < b.length)]; rfl
 have la := aG (a.drop (i + 1)); have lb := aG (b.drop (i + 1))
 have hl : (a.drop (i + 1)).length = (b.drop (i + 1)).length := by simp [h]
 have va : val a = val (a.take i) * 256 ^ ((b.drop (i + 1)).length + 1) + ((a.getD i default).toNat * 256 ^ (b.drop (i + 1)).length + val (a.drop (i + 1))) := by
  conv => lhs; rw [ea]
  rw [fo, val, Ay, hl]
 have vb : val b = val (a.take i) * 256 ^ ((b.drop (i + 1)).length + 1) + ((b.getD i default).toNat * 256 ^ (b.drop (i + 1)).length + val (b.drop (i + 1))) := by
  conv => lhs; rw [eb]
  rw [fo, val, Ay, hp]
 rw [hl] at la
 rw [va, vb]
 generalize (a.getD i default).toNat = x at *
 generalize (b.getD i default).toNat = y at *
 generalize 256 ^ (b.drop (i + 1)).length = P at *
 generalize val (a.take i) * 256 ^ ((b.drop (i + 1)).length + 1) = Q at *
 unfold dn
 rcases Nat.lt_or_gt_of_ne hne with q | q
 ·have h1 : (x + 1) * P ≤ y * P := Bp _ q
  rw [Bk, Cn] at h1
  rw [Ae (by omega), Ae q]
 ·have h1 : (y + 1) * P ≤ x * P := Bp _ q
  rw [Bk, Cn] at h1
  rw [Aa (by omega), Ae (by omega), Aa (by omega)]
theorem py {l m : Bs} {k : Nat} (h1 : k < l.length) (h2 : k < m.length) (h : l.take k = m.take k) (h3 : (l.getD k default).toNat = (m.getD k default).toNat) : l.take (k + 1) = m.take (k + 1) := by
 have h4 := UInt8.toNat_inj.1 h3
 rw [List.getD_eq_getElem?_getD, List.getD_eq_getElem?_getD, Ad h1, Ad h2] at h4
 rw [Bv, Bv, h, Ad h1, Ad h2]
 rw [Option.toList, Option.toList]; simp only [Option.getD] at h4; rw [h4]
theorem kc {a b : Bs} {w : World} (ha : Can a) (hb : Can b) (hal : a.length ≤ 1000000) :
  Cw 257 #[.string (S a), .string (S b)] w (.int .i64 (dn (val a) (val b))) := by
 refine En [] [(0, .string (S a)), (1, .string (S b))] Tryz.func257 I Tryz.ntmps257 I (Ac I (Ac I (An _))) Fn (Cs (FM ?_)); refine Yn I u22 (Km I (Yn I u22 (Yj I (Nt (Ci I (fun hc10 => ?_) (fun hc10 => ?_))))))
 ·have hne : a.length ≠ b.length := by omega
  have hcl := rq ha hb hne
  refine Cq (Cs (Km I (Yn I u22 (Km I (Yn I u22 (F7 (fun hc15 => ?_) (fun hc15 => ?_)))))))
  ·refine Cs (le ?_); refine Xb (Xb ?_); exact R1 I I (by rw [← hcl, dn, Ae (by omega)]; rfl)
  ·refine Ck (Xa (Cs (le ?_))); refine Xb ?_; exact R1 I I (by rw [← hcl, dn, Aa (by omega), Ae (by omega)]; rfl)
 ·have heq : a.length = b.length := by omega
  refine Ck (HJ ?_); refine Lp (σ := Nat) [(0, _), (1, _)] (fun gq => [(5, .int .i64 (gq : Int))]) (fun gq => gq ≤ a.length ∧ a.take gq = b.take gq) (fun gq => a.length - gq) (0) (S2 I I) (S1 I) (by (try dsimp only); exact ⟨Af _, by simp⟩) ?_
  rintro i hinv1; (try dsimp only at hinv1 ⊢)
  obtain ⟨hi, ht⟩ := hinv1
  refine Cq (Hd ?_); refine Yn I u22 (F7 (fun hc19 => ?_) (fun hc19 => ?_))
  ·refine Ck (Xa (Cq (Cb (Ho ?_)))); refine Ft ?_; refine Kj I (ck I I I u22 ?_) ?_
   ·omega
   refine Ft ?_; refine Kj I (ck I I I u22 ?_) ?_
   ·omega
   refine Kj I (kY I I I) ?_; refine WJ.nil ?_; refine Nt (Ci I (fun hc28 => ?_) (fun hc28 => ?_))
   ·simp only [A2] at hc28; have hoe := sg heq (i := i) (by omega) ht (by omega); refine Cq (Ho ?_); refine Ft ?_; refine Kj I (ck I I I u22 ?_) ?_
    ·omega
    refine Ft ?_; refine Kj I (ck I I I u22 ?_) ?_
    ·omega
    refine Kj I (nx I I I) ?_; refine WJ.nil ?_; refine Nt (Ci I (fun hc35 => ?_) (fun hc35 => ?_))
    ·simp only [A2] at hc35; refine Cs (le ?_); refine Xb (FE ?_); exact R1 I I (by rw [hoe, Ae (by omega)]; rfl)
    ·simp only [A2] at hc35; refine Ck (Xa (Cs (le ?_))); refine FE ?_; exact R1 I I (by rw [hoe, Aa (by omega)]; rfl)
   ·simp only [A2] at hc28; refine Ck (Xd (Xa (Cg (Km I (Kq I (Rz I I I (by omega)) (Ka I (Nn (Ly (i + 1) (by (try dsimp only); omega) (S2 I I) (by refine (Sc ?_ (S0 _)) <;> (rfl)) ?_ (fun _ h => h))))))))); (try dsimp only); exact ⟨by omega, py (by omega) (by omega) ht (by omega)⟩
  ·refine Fq ?_; obtain rfl : i = a.length := by omega
   have hab : a = b := by rw [A7 (Ba _), A7 (by omega)] at ht; exact ht
   refine Xa (Cs (le ?_)); exact R1 I I (by rw [hab]; simp [dn, tup])
theorem uq {a b : Bs} {w : World} (hal : a.length ≤ 1000000) (hbl : b.length ≤ 1000000) :
  Cw 290 #[.string (S a), .string (S b)] w (.string (S (ae (val a + val b)))) := by
 refine En [] [(0, .string (S a)), (1, .string (S b))] Tryz.func290 I Tryz.ntmps290 I (Ac I (Ac I (An _))) Fn (Cs (FN ?_)); refine Yn I u22 (Km I (Yn I u22 (Kq I (kb I I I) (Ns 14 I (v' := .int .i64 ((max a.length b.length : Nat) : Int)) (congrArg (Value.int .i64) (by omega)) (HB ?_)))))
 obtain ⟨N, hN⟩ : ∃ N : Nat, N = max a.length b.length + 1 := ⟨_, rfl⟩
 refine Ns 15 I (v' := .int .i64 (N : Int)) (by rw [hN]) ?_
 have hNl : N ≤ 1000001 := by omega
 have hS256 : val a + val b < 256 ^ N := by
  have h1 := aG a; have h2 := aG b
  have h3 : 256 ^ a.length ≤ 256 ^ (N - 1) := Ar (by decide) (by omega)
  have h4 : 256 ^ b.length ≤ 256 ^ (N - 1) := Ar (by decide) (by omega)
  have h5 : 256 ^ N = 256 ^ (N - 1) * 256 := by rw [← A0]; congr 1; omega
  omega
 refine Ka I (Nt (Cs (Km I (Kh I (ed I I I aF (by kernel_rfl : _ = some (some (.int .u8 0), 1, 1)) I ?_ (by (try simp only [sN, Int.reduceToNat, Nat.reduceAdd, Nat.reduceMul, Nat.reduceSub]); rfl) (by (try simp only [sN, Int.reduceToNat, Nat.reduceAdd, Nat.reduceMul, Nat.reduceSub]); rfl)) ?_))))
 ·omega
 intro b17
 refine Ka I (Nt (Cs (Ka I (Ns 7 I (v' := .int .i64 ((cR (val a) (val b) 0 : Nat) : Int)) (congrArg (Value.int .i64) (by rw [jV]; rfl)) ?_))))
 refine Nt (Cq (Cs (Ka I (Nt (Cb (Lo (σ := Nat) [(0, _), (1, _), (5, _), (6, _)] (fun gq => [(7, .int .i64 (cR (val a) (val b) gq : Int)), (8, .int .i64 (gq : Int))]) (fun gq => gq ≤ N) (fun gq => N - gq) (fun gq => [⟨some b17, fE N gq (val a + val b), 5⟩]) (fun gq => []) (0) (S4 I I I I) (S2 I I) (by (try dsimp only); exact Af _) (by exact fun w h => by rw [dk]; exact h) ?_))))))
 rintro k hinv1; (try dsimp only at hinv1 ⊢)
 obtain hk := hinv1
 refine Cq (Hd ?_); refine F7 (fun hc20 => ?_) (fun hc20 => ?_)
 ·have hc1 := mR (val a) (val b) k
  have hd1 := Aq (val a / 256 ^ k) (show 0 < 256 by decide); have hd2 := Aq (val b / 256 ^ k) (show 0 < 256 by decide)
  refine FO ?_; refine Km I (Km I (Kc I (fun w hS => k8 (a := a) (i := k) (by omega) (by omega)) (Km I (Km I (Kc I (fun w hS => k8 (a := b) (i := k) (by omega) (by omega)) (Hk ?_)))))); refine Km I (Hk ?_); refine Ns 31 I (v' := .int .i64 ((cR (val a) (val b) k + val a / 256 ^ k % 256 + val b / 256 ^ k % 256 : Nat) : Int)) (congrArg (Value.int .i64) (by omega)) (FN ?_); refine Km I (F1 ?_); refine Ns 36 I (v' := .int .i64 ((N - 1 - k : Nat) : Int)) (congrArg (Value.int .i64) (by omega)) (Km I (Kq I (dc I I I (by omega)) (Kq I (aS I I u3 u5) (Ns 39 I (v' := B (UInt8.ofNat ((val a + val b) / 256 ^ k))) (by exact congrArg (Value.int .u8) (by rw [mS, l7])) ?_))))
  refine FX ?_
  refine Ng I I (st I I I .tc (by kernel_rfl) I ?_ (by rfl)) ?_
  ·rw [cD _ _ _ (by omega)]; omega
  intro _
  refine Nt (Cg (Il ?_))
  refine Ns 42 I (v' := .int .i64 ((cR (val a) (val b) (k + 1) : Nat) : Int)) (congrArg (Value.int .i64) (by rw [jW])) ?_
  refine Ka I (Nn (Xd (Xa (Cg (Km I (Kq I (Rz I I I (by omega)) (Ka I (Nn (Lx (k + 1) (by (try dsimp only); omega) (S4 I I I I) (by refine (Sc ?_ (Sc ?_ (S0 _))) <;> (rfl)) ?_ (by exact fun w h => by rw [← cC N k _ (by omega)]; exact h))))))))))
  (try dsimp only)
  omega
 ·refine Fq ?_
  obtain rfl : k = N := by omega
  rw [cL]
  refine Xa (Cs (Km I (Kc I (fun w hS => iE (b := be k (val a + val b)) (by (exact hS.os)) (by rw [aQ]) (by rw [aQ]; exact Ba _) (by rw [aQ]; omega)) (le ?_))))
  exact II
theorem qS {a b : Bs} {w : World} (hle : val b ≤ val a) (ha : a.length ≤ 1000000) (hb : b.length ≤ 1000000) :
  Cw 259 #[.string (S a), .string (S b)] w (.string (S (ae (val a - val b)))) := by
 have hS256 : val a - val b < 256 ^ a.length := Bb (Eb _ _) (aG a)
 refine En [] [(0, .string (S a)), (1, .string (S b))] Tryz.func259 I Tryz.ntmps259 I (Ac I (Ac I (An _))) Fn (Cs (Ka I (Nt (Cs (Km I (Yn I u22 (Ka I (Nt (Cs (Km I (Kh I (ed I I I aF (by kernel_rfl : _ = some (some (.int .u8 0), 1, 1)) I ?_ (by (try simp only [sN, Int.reduceToNat, Nat.reduceAdd, Nat.reduceMul, Nat.reduceSub]); rfl) (by (try simp only [sN, Int.reduceToNat, Nat.reduceAdd, Nat.reduceMul, Nat.reduceSub]); rfl)) ?_)))))))))))
 ·omega
 intro b13
 refine Ka I (Nt (Cs (Ka I (Ns 7 I (v' := .int .i64 ((bm (val a) (val b) 0 : Nat) : Int)) (congrArg (Value.int .i64) (by rw [ji]; rfl)) ?_))))
 refine Nt (Cq (Cs (Ka I (Nt (Cb (Lo (σ := Nat) [(0, _), (1, _), (5, _), (6, _)] (fun gq => [(7, .int .i64 (bm (val a) (val b) gq : Int)), (8, .int .i64 (gq : Int))]) (fun gq => gq ≤ a.length) (fun gq => a.length - gq) (fun gq => [⟨some b13, fE a.length gq (val a - val b), 5⟩]) (fun gq => []) (0) (S4 I I I I) (S2 I I) (by (try dsimp only); exact Af _) (by exact fun w h => by rw [dk]; exact h) ?_))))))
 rintro k hinv1; (try dsimp only at hinv1 ⊢)
 obtain hk := hinv1
 refine Cq (Hd ?_); refine F7 (fun hc16 => ?_) (fun hc16 => ?_)
 ·have hc1 := jN (val a) (val b) k
  have hd1 := Aq (val a / 256 ^ k) (show 0 < 256 by decide); have hd2 := Aq (val b / 256 ^ k) (show 0 < 256 by decide)
  refine FO ?_; refine Km I (Km I (Kc I (fun w hS => k8 (a := a) (i := k) (by omega) (by omega)) (Km I (Km I (Kc I (fun w hS => k8 (a := b) (i := k) (by omega) (by omega)) (Kq I (aK I I I (by omega)) (Ns 25 I (v' := .int .i64 ((((val a / 256 ^ k % 256 : Nat) : Int) - ((val b / 256 ^ k % 256 : Nat) : Int)))) (congrArg (Value.int .i64) (by omega)) (Km I (Hq ?_))))))))); refine Cs (FM ?_); refine F7 (fun hc29 => ?_) (fun hc29 => ?_)
  ·refine Cs (Km I (Kq I (bB I I I (by omega)) (Ka I (Nt (Cg (Ka I (Nt (Cg (Ns 7 I (v' := .int .i64 (bm (val a) (val b) (k + 1) : Int)) (congrArg (Value.int .i64) (by rw [eM]; (rw [Ae (by omega)]; rfl))) ?_))))))))); refine Km I (Km I (F1 ?_)); refine Ns 36 I (v' := .int .i64 ((a.length - 1 - k : Nat) : Int)) (congrArg (Value.int .i64) (by omega)) (Km I (Kq I (aS I I u3 u5) (Ns 38 I (v' := B (UInt8.ofNat ((val a - val b) / 256 ^ k))) (by exact congrArg (Value.int .u8) (iC hle k _ (by omega))) ?_))); refine FX ?_; refine Ng I I (st I I I .tc (by kernel_rfl) I ?_ (by rfl)) ?_
   ·rw [cD _ _ _ (by omega)]; omega
   intro _; refine Nn (Xd (Xa (Cg (Km I (Kq I (Rz I I I (by omega)) (Ka I (Nn (Lx (k + 1) (by (try dsimp only); omega) (S4 I I I I) (by refine (Sc ?_ (Sc ?_ (S0 _))) <;> (rfl)) ?_ (by exact fun w h => by rw [← cC a.length k _ (by omega)]; exact h))))))))); (try dsimp only); omega
  ·refine Ck (Xa (Cg (Ns 7 I (v' := .int .i64 (bm (val a) (val b) (k + 1) : Int)) (congrArg (Value.int .i64) (by rw [eM]; (rw [Aa (by omega)]; rfl))) ?_))); refine Km I (Km I (F1 ?_)); refine Ns 36 I (v' := .int .i64 ((a.length - 1 - k : Nat) : Int)) (congrArg (Value.int .i64) (by omega)) (Km I (Kq I (aS I I u3 u5) (Ns 38 I (v' := B (UInt8.ofNat ((val a - val b) / 256 ^ k))) (by exact congrArg (Value.int .u8) (iC hle k _ (by omega))) ?_))); refine FX ?_; refine Ng I I (st I I I .tc (by kernel_rfl) I ?_ (by rfl)) ?_
   ·rw [cD _ _ _ (by omega)]; omega
   intro _; refine Nn (Xd (Xa (Cg (Km I (Kq I (Rz I I I (by omega)) (Ka I (Nn (Lx (k + 1) (by (try dsimp only); omega) (S4 I I I I) (by refine (Sc ?_ (Sc ?_ (S0 _))) <;> (rfl)) ?_ (by exact fun w h => by rw [← cC a.length k _ (by omega)]; exact h))))))))); (try dsimp only); omega
 ·refine Fq ?_
  obtain rfl : k = a.length := by omega
  rw [cL]
  refine Xa (Cs (Km I (Kc I (fun w hS => iE (b := be a.length (val a - val b)) (by (exact hS.os)) (by rw [aQ]) (by rw [aQ]; exact Ba _) (by rw [aQ]; omega)) (le ?_))))
  exact II
theorem Eo {a : Bs} {w : World} :
  Cw 328 #[.string (S a)] w (.tuple #[.string (S (if 128 < a.length then [] else a)), .int .i64 (if 128 < a.length then 5 else 0)]) := by
 refine En [] [(0, .string (S a))] Tryz.func328 I Tryz.ntmps328 I (Ac I (An _)) Fn (Cs (Ka I (FM ?_))); refine Yn I u22 (Yg I (Nt (Ci I (fun hc6 => ?_) (fun hc6 => ?_))))
 ·refine Cs (Ka I (le ?_)); refine Xb ?_
  exact R2 I I I (by rw [Ae (by omega), Ae (by omega)]; rfl)
 ·refine Ck (Xa (H7 ?_)); refine le ?_
  exact R2 I I I (by rw [Aa (by omega), Aa (by omega)]; rfl)
abbrev Zs := Bool × Bs
abbrev zV (x : Zs) : Value := .agg #[.bool x.1, .string (S x.2)]
def okZ (x : Zs) : Prop := okN x.2 ∧ ¬ (x.1 = true ∧ x.2 = [])
instance (x : Zs) : Decidable (okZ x) := inferInstanceAs (Decidable (_ ∧ _))
def mkZ (n : Bool) (a : Bs) : Zs := (n && !decide (a = []), a)
def lj (x : Zs) : Zs := if okZ x then mkZ (!x.1) x.2 else (false, [])
def gD (x y : Zs) : Zs × Int :=
 if okZ x ∧ okZ y then
  (if x.1 = y.1 then (mkZ x.1 (addN x.2 y.2).1, (addN x.2 y.2).2)
   else if val x.2 < val y.2 then (mkZ y.1 (ae (val y.2 - val x.2)), 0) else (mkZ x.1 (ae (val x.2 - val y.2)), 0))
 else ((false, []), 3)
def eO (x y : Zs) : Zs × Int := if okZ x ∧ okZ y then gD x (lj y) else ((false, []), 3)
abbrev ZE (r : Zs × Int) : Value := .tuple #[zV r.1, .int .i64 r.2]
theorem gl {n : Bool} {a : Bs} {w : World} :
  Cw 136 #[.bool n, .string (S a)] w (zV (mkZ n a)) := by
 refine En [] [(0, .bool n), (1, .string (S a))] Tryz.func136 I Tryz.ntmps136 I (Ac I (Ac I (An _))) Fn (Cs (FS ?_))
 intro b4
 refine Nt (Hd ?_); refine Nc 6 I (fun hg6 => ?_) (fun hg6 => ?_)
 ·refine Km I (Yr I (Yp I (Km I (FY ?_))))
  refine FF ?_; refine Nt (Ce ?_)
  exact Rn I (.agg I .tc u68 I (by kernel_rfl) .nil) fun w' hS => ⟨by (simp [*, tup, mkZ]; done), hS.below⟩
 ·refine T2 I (Yq I (Km I (FY ?_)))
  refine FF ?_; refine Nt (Ce ?_)
  exact Rn I (.agg I .tc u68 I (by kernel_rfl) .nil) fun w' hS => ⟨by (simp [*, tup, mkZ]; done), hS.below⟩
theorem bR {x : Zs} {w : World} :
  Cw 62 #[zV x] w (.bool (decide (okZ x))) := by
 refine En [] [(0, zV x)] Tryz.func62 I Tryz.ntmps62 I (Ac I (An _)) Fn (Eq ?_)
 intro b1
 refine Ka I (Nt (Cs (Gn ?_)))
 refine Kc I (fun w hS => ay (a := x.2)) (Km I (Nc 6 I (fun hg6 => ?_) (fun hg6 => ?_)))
 ·refine G1 ?_
  refine Km I (Nc 9 I (fun hg9 => ?_) (fun hg9 => ?_))
  ·refine Gn ?_; refine Ys I (Yp I (Yt I (Yp I (le ?_)))); exact IG
  ·refine T2 I (Kt I (Yq I (Yt I (Yp I (le ?_))))); exact IG
 ·refine T4 I (T4 I (Yq I (le ?_)))
  exact IG
theorem rV {x : Zs} {w : World} :
  Cw 123 #[zV x] w (.bool (decide (okZ x))) := by
 refine En [] [(0, zV x)] Tryz.func123 I Tryz.ntmps123 I (Ac I (An _)) Fn (Eq ?_)
 intro b1
 refine Ka I (Nt (Cs (Gn ?_)))
 refine Kc I (fun w hS => aY (a := x.2)) (Km I (Nc 6 I (fun hg6 => ?_) (fun hg6 => ?_)))
 ·refine G1 ?_
  refine Km I (Nc 9 I (fun hg9 => ?_) (fun hg9 => ?_))
  ·refine Gn ?_; refine Ys I (Yp I (Yt I (Yp I (le ?_)))); exact IG
  ·refine T2 I (Kt I (Yq I (Yt I (Yp I (le ?_))))); exact IG
 ·refine T4 I (T4 I (Yq I (le ?_)))
  exact IG
theorem p9 {x y : Zs} {w : World} :
  Cw 194 #[zV x, zV y] w (.bool (decide (okZ x ∧ okZ y))) := by
 refine En [] [(0, zV x), (1, zV y)] Tryz.func194 I Tryz.ntmps194 I (Ac I (Ac I (An _))) Fn (Eq ?_)
 intro b2
 refine Gc ?_
 intro b3
 refine Ka I (Nt (Cs (Kq I (lda I I .tc u68 I ?_) ?_)))
 ·kernel_rfl
 refine Kc I (fun w hS => bR (x := x)) (Km I (Nc 7 I (fun hg7 => ?_) (fun hg7 => ?_)))
 ·refine Kq I (lda I I .tc u68 I ?_) ?_
  ·kernel_rfl
  refine Kc I (fun w hS => bR (x := y)) (Yp I (le ?_))
  exact It
 ·refine T2 I (Yq I (le ?_))
  exact It
theorem tg {x : Zs} {w : World} :
  Cw 199 #[zV x] w (zV (lj x)) := by
 refine En [] [(0, zV x)] Tryz.func199 I Tryz.ntmps199 I (Ac I (An _)) Fn (Eq ?_)
 intro b1
 refine FS ?_
 intro b2
 refine Nt (Cq (Cs (Kq I (lda I I .tc u68 I ?_) ?_)))
 ·kernel_rfl
 refine Kc I (fun w hS => bR (x := x)) (Gs (fun hc5 => ?_) (fun hc5 => ?_))
 ·have hr : lj x = (false, []) := by rw [lj, Aa (by simpa using hc5)]
  refine Cs (FY ?_)
  refine FF ?_; refine Nt (Ce (Xb ?_))
  exact Iz
 ·have hr : lj x = mkZ (!x.1) x.2 := by rw [lj, Ae (by simpa using hc5)]
  refine Ck (Xa (Cs (G1 ?_)))
  refine Yt I (Gn ?_)
  refine Kc I (fun w hS => gl (n := !x.1) (a := x.2)) (FF ?_); refine Nt (Ce ?_)
  exact Iz
theorem dq {a b : Bs} (ha : okN a) (hb : okN b) (h : val b ≤ val a) : fT a b = (ae (val a - val b), 0) := by rw [fT, Ae ⟨ha, hb⟩, Aa (by omega)]
theorem a8 {a b : Bs} (ha : okN a) (hb : okN b) : fg a b = dn (val a) (val b) := by rw [fg, Ae ⟨ha, hb⟩]
theorem ku {x y : Zs} {w : World} :
  Cw 117 #[zV x, zV y] w (ZE (gD x y)) := by
 refine En [] [(0, zV x), (1, zV y)] Tryz.func117 I Tryz.ntmps117 I (Ac I (Ac I (An _))) Fn (Eq ?_)
 intro b2
 refine Gc ?_
 intro b3
 refine FS ?_
 intro b4
 refine Ka I (Nt (Cq (Cs (Kq I (lda I I .tc u68 I ?_) ?_))))
 ·kernel_rfl
 refine Kq I (lda I I .tc u68 I ?_) ?_
 ·kernel_rfl
 refine Kc I (fun w hS => p9 (x := x) (y := y)) (Gs (fun hc13 => ?_) (fun hc13 => ?_))
 ·have hr : gD x y = ((false, []), 3) := by rw [gD, Aa (by simpa using hc13)]
  refine Cs (FY ?_)
  refine FF ?_; refine le ?_; refine Xb ?_
  exact Is
 ·have hok : okZ x ∧ okZ y := by simpa using hc13
  have ho1 := hok.1.1; have ho2 := hok.2.1
  refine Ck (Xa (Cq (Cs (G1 ?_))))
  refine G1 ?_
  refine Kq I (AB I I I u4) (Nt (Ci I (fun hc19 => ?_) (fun hc19 => ?_)))
  ·have hs : x.1 = y.1 := by simpa using hc19
   have hr : gD x y = (mkZ x.1 (addN x.2 y.2).1, (addN x.2 y.2).2) := by rw [gD, Ae hok, Ae hs]
   refine Cs (Gn ?_); refine Gn ?_; refine Kc I (fun w hS => rE (a := x.2) (b := y.2)) (Fs ?_); refine Cs (G1 ?_); refine Km I (Kc I (fun w hS => gl (n := x.1) (a := (addN x.2 y.2).1)) (Km I (FF ?_))); refine le ?_; refine Xb ?_; exact Is
  ·have hs : ¬ x.1 = y.1 := by simpa using hc19
   refine Ck (Xa (Cq (Cs (Gn ?_)))); refine Gn ?_; refine Kc I (fun w hS => cZ (a := x.2) (b := y.2)) (F7 (fun hc38 => ?_) (fun hc38 => ?_))
   ·rw [a8 ho1 ho2, aR] at hc38; have hr : gD x y = (mkZ y.1 (ae (val y.2 - val x.2)), 0) := by rw [gD, Ae hok, Aa hs, Ae hc38]
    refine Cg (Kq I (lda I I .tc u68 I ?_) ?_)
    ·kernel_rfl
    refine Kq I (lda I I .tc u68 I ?_) ?_
    ·kernel_rfl
    refine FF ?_; refine FF ?_; refine Nt (Cs (Gn ?_)); refine Gn ?_; refine Kc I (fun w hS => fQ) (Fs ?_); refine Cs (G1 ?_); refine Km I (Kc I (fun w hS => gl) (Km I (FF ?_))); refine le ?_; exact Rn I (.agg I .tc u68 I (by kernel_rfl) (.tmp I .nil)) fun w' hS => ⟨by rw [hr]; (rw [dq ho2 ho1 (by omega)]; rfl), hS.below⟩
   ·have hge : val y.2 ≤ val x.2 := Nat.not_lt.1 fun h => by rw [a8 ho1 ho2] at hc38; have := (aR _ _).2 h; omega
    have hr : gD x y = (mkZ x.1 (ae (val x.2 - val y.2)), 0) := by rw [gD, Ae hok, Aa hs, Aa (by omega)]
    refine Ck (Xa (Cs (Gn ?_))); refine Gn ?_; refine Kc I (fun w hS => fQ) (Fs ?_); refine Cs (G1 ?_); refine Km I (Kc I (fun w hS => gl) (Km I (FF ?_))); refine le ?_; exact Rn I (.agg I .tc u68 I (by kernel_rfl) (.tmp I .nil)) fun w' hS => ⟨by rw [hr]; (rw [dq ho1 ho2 hge]; rfl), hS.below⟩
theorem jp {x y : Zs} {w : World} :
  Cw 114 #[zV x, zV y] w (ZE (eO x y)) := by
 refine En [] [(0, zV x), (1, zV y)] Tryz.func114 I Tryz.ntmps114 I (Ac I (Ac I (An _))) Fn (Eq ?_)
 intro b2
 refine Gc ?_
 intro b3
 refine FS ?_
 intro b4
 refine Ka I (Nt (Cq (Cs (Kq I (lda I I .tc u68 I ?_) ?_))))
 ·kernel_rfl
 refine Kq I (lda I I .tc u68 I ?_) ?_
 ·kernel_rfl
 refine Kc I (fun w hS => p9 (x := x) (y := y)) (Gs (fun hc9 => ?_) (fun hc9 => ?_))
 ·have hr : eO x y = ((false, []), 3) := by rw [eO, Aa (by simpa using hc9)]
  refine Cs (FY ?_)
  refine FF ?_; refine le ?_; refine Xb ?_
  exact Is
 ·have hr : eO x y = gD x (lj y) := by rw [eO, Ae (by simpa using hc9)]
  refine Ck (Xa (Cq (Cf [1, 2, 0, 3, 4, 5] [6, 7] [0, 0, 1, 1, 0, 0, 2, 2] (by kernel_rfl) (by kernel_rfl) I ?_)))
  refine Kj I (lda I I .tc u68 I ?_) ?_
  ·kernel_rfl
  refine Jv I I I I I (fun ext => Oc I I (Kv fun w hS => tg (x := y))) ?_
  refine Kj I (lda I I .tc u68 I ?_) ?_
  ·kernel_rfl
  refine Jv I I I I I (fun ext => Oc I I (Kv fun w hS => ku (x := x) (y := lj y))) ?_
  refine Hu ?_; refine Hu ?_
  refine WJ.nil ?_
  refine FF ?_; refine le ?_
  exact Is
def ofZ (n : Int) : Zs := mkZ (decide (n < 0)) (ae n.natAbs)
theorem l4 {n : Int} {w : World} (h0 : -9223372036854775808 ≤ n) (h1 : n ≤ 9223372036854775807) :
  Cw 57 #[.int .i64 n] w (zV (ofZ n)) := by
 refine En [] [(0, .int .i64 n)] Tryz.func57 I Tryz.ntmps57 I (Ac I (An _)) Fn (Cs (FS ?_))
 intro b2
 refine Nt (Cq (Cs (Km I (F7 (fun hc4 => ?_) (fun hc4 => ?_)))))
 ·have hr : ofZ n = mkZ true (ae n.natAbs) := by rw [ofZ, Az hc4]
  refine Cs (Km I (Kq I (aS I I u2 nh) (Kq I (uf I I) (Ns 7 I (v' := .int .u64 ((n.natAbs : Nat) : Int)) (by exact congrArg (Value.int .u64) (by rw [IntKind.wrap_u64, IntKind.wrap_u64]; omega)) ?_))))
  refine Kc I (fun w hS => fU (n := n.natAbs) (by omega)) (Kc I (fun w hS => gl (n := true) (a := ae n.natAbs)) (FF ?_)); refine Nt (Ce (Xb ?_))
  exact Iz
 ·have hr : ofZ n = mkZ false (ae n.natAbs) := by rw [ofZ, Aj (by omega)]
  refine Ck (Xa (Cs (Km I (Kq I (aS I I u2 nh) (Ns 11 I (v' := .int .u64 ((n.natAbs : Nat) : Int)) (by exact congrArg (Value.int .u64) (by rw [IntKind.wrap_u64]; omega)) ?_)))))
  refine Kc I (fun w hS => fU (n := n.natAbs) (by omega)) (Kc I (fun w hS => gl (n := false) (a := ae n.natAbs)) (FF ?_)); refine Nt (Ce ?_)
  exact Iz
end Go.Proofs.YtchonigdjamphaaGreatDoor
