/-
  Own framework: append where an element takes more than one cell.
-/
import Derived.Test.YtbcnnkcddilfjaaGreatPlus
namespace Go.Proofs.YtbcnnkcddilfjaaGreat
set_option linter.unusedSimpArgs false
set_option linter.unusedVariables false
open Go.RowKit

/-- further facts, a list of them -/
class HasM (fs more : List Fact) : Prop where
  h : ∀ f ∈ more, f ∈ fs
instance hasM_here {fs : List Fact} : HasM fs fs := ⟨fun _ h => h⟩
instance hasM_there {f : Fact} {fs more : List Fact} [h : HasM fs more] : HasM (f :: fs) more := ⟨fun g hg => List.mem_cons_of_mem _ (h.h g hg)⟩
theorem St.more {ok : Nat → Prop} {w0 w : World} {own : List Ent} {fs more : List Fact} (hS : St ok w0 own fs w) [h : HasM fs more] : ∀ f ∈ more, f.holds (fun _ => True) w := fun f hf => fact_any (hS.fact f (h.h f hf))
theorem facts_more {more : List Fact} {ok : Nat → Prop} {w : World} (h : ∀ f ∈ more, f.holds ok w) : ∀ f ∈ more, f.holds (fun _ => True) w := fun f hf => fact_any (h f hf)
/-- an own slice is not changed any more -/
theorem st_fz {ok : Nat → Prop} {w0 w : World} {ob : Option Nat} {xs sp : List Value} {T : TypeId} {r : List Ent} {fs : List Fact} (h : St ok w0 (⟨ob, xs ++ sp, T⟩ :: r) fs w) : St ok w0 r (Fact.sl (ob.map fun b => ⟨b, 0, none⟩) xs :: fs) w := by
  cases ob with
  | some b => exact st_freeze h
  | none =>
    have h0 : xs ++ sp = [] := h.own_ _ (List.mem_cons_self)
    have h1 : xs = [] := (List.append_eq_nil_iff.1 h0).1
    subst h1
    exact St.add (h.sub (List.sublist_cons_self _ _) (fun _ h => h)) (.inl rfl)
theorem zero_len (z : Array Value) (m : Nat) : (Builtin.zeroCells z m).toList.length = m * z.size := by simp [Builtin.zeroCells]
section
variable {P : Program} {ok : Nat → Prop} {w0 : World} {fs : List Fact} {t e : TypeId} {sz z : Nat} {cs : List Value}
theorem run_appN {w : World} {own : List Ent} {kk : Nat} {ob : Option Nat} {len cap : Nat} {news : List Value} {zv : Value} {src : Value} {m : Nat} {ty : TypeId} (hS : St ok w0 own fs w) (hk : own[kk]? = some ⟨ob, cs, e⟩)
    (hu : P.underlying t = some (.slice e)) (hi : (P.info? e).map (fun i => (i.zero, i.size, i.bytes)) = some (some zv, z, sz)) (h1 : zv.cells.size = z) (hz0 : 0 < z)
    (hlen : len ≤ cap) (hcap : cap * z = cs.length) (hsrc : Src w src m news) (hm : news.length = m * z) (h1c : ∀ u ∈ news, u.oneCell' = true) (hpos : 0 < m)
    (h63 : len + m ≤ 9223372036854775807) (hb : (len + m) * sz ≤ 140737488355328) :
    ∃ (g : App) (w' : World), (Builtin.append_ #[t, t] ty #[.slice (ob.map fun b => ⟨b, 0, none⟩) len cap, src]).run P w = .ok (.slice (some ⟨g.b, 0, none⟩) (len + m) g.cap) w' ∧ (len + m ≤ g.cap ∧ g.cap * z = (len + m) * z + g.spare.length) ∧ St ok w0 (own.set kk ⟨some g.b, cs.take (len * z) ++ news ++ g.spare, e⟩) fs w' := by
  obtain ⟨i', hi', hz, hs, hbb⟩ := info_parts hi
  obtain ⟨ad, c', rfl, hnone, hcell⟩ := hsrc
  cases ad with
  | none => have := (hnone rfl).1; omega
  | some a =>
  have hnews := hcell a rfl
  have hl : news.length = m * i'.size := by rw [hs]; exact hm
  have zlen : ∀ q, (Builtin.zeroCells zv.cells q).toList.length = q * z := fun q => by rw [zero_len, h1]
  have hge : ∀ g q : Nat, q ≤ g → g * z = q * z + (g - q) * z := fun g q h => by rw [← Nat.add_mul]; congr 1; omega
  cases ob with
  | none =>
    have hcs : cs = [] := hS.own_ _ (List.mem_of_getElem? hk)
    subst hcs
    have hc0 : cap = 0 := by
      rcases Nat.eq_zero_or_pos cap with h | h
      · exact h
      · have := Nat.mul_pos h hz0; simp at hcap; omega
    subst hc0
    have hl0 : len = 0 := by omega
    subst hl0
    have hrun := run_append_nil (P := P) w t ty e i' zv hu hi' hz a m c' news hl hnews hpos (by omega) (by rw [hbb]; rw [Nat.zero_add] at hb; omega)
    have hg := grownCap_ge w m 0 e
    refine ⟨⟨w.heap.size, grownCap w m 0 e, (Builtin.zeroCells zv.cells (grownCap w m 0 e - m)).toList⟩, _, by simpa using hrun, ⟨?_, ?_⟩, ?_⟩
    · simpa using hg
    · simp only [zlen, Nat.zero_add]; exact hge _ _ hg
    · have := (hS.draw.alloc (news ++ (Builtin.zeroCells zv.cells (grownCap w m 0 e - m)).toList) e).replace kk
      have e1 : (news.toArray ++ Builtin.zeroCells zv.cells (grownCap w m 0 e - m)) = (news ++ (Builtin.zeroCells zv.cells (grownCap w m 0 e - m)).toList).toArray := by
        apply Array.ext'; simp
      simp only [List.take_nil, List.nil_append]
      rw [e1]; exact this
  | some b' =>
    have hbk := hS.block hk
    have hlc : len * z ≤ cs.length := by rw [← hcap]; exact Nat.mul_le_mul_right _ hlen
    by_cases hroom : len + m ≤ cap
    · have hlm : (len + m) * z ≤ cs.length := by rw [← hcap]; exact Nat.mul_le_mul_right _ hroom
      have hrun := run_append_room (P := P) w t ty e i' hu hi' b' len cap cs.toArray hbk a m c' news hl hnews h1c hroom (by rw [hs]; simp; rw [Nat.add_mul] at hlm; omega)
      refine ⟨⟨b', cap, cs.drop (len * z + m * z)⟩, _, hrun, ⟨hroom, ?_⟩, ?_⟩
      · simp only [List.length_drop]; rw [hcap, ← Nat.add_mul]; omega
      · have := hS.setRow hk (cs.take (len * z) ++ news ++ cs.drop (len * z + m * z))
        rw [hs]; simp only [hm]; exact this
    · have hrun := run_append_grow (P := P) w t ty e i' zv hu hi' hz ⟨b', 0, none⟩ len cap (cs.take (len * z)) (by rw [hs]; simp; omega) (fun q u hq => by
          rw [Addr.add_lit, Nat.zero_add, block_cell hbk]
          rw [List.getElem?_take] at hq; split at hq
          · exact hq
          · cases hq) a m c' news hl hnews (by omega) (by omega) (by rw [hbb]; exact growslice_fits (by omega) hb)
      have hg := grownCap_ge w (len + m) cap e
      refine ⟨⟨w.heap.size, grownCap w (len + m) cap e, (Builtin.zeroCells zv.cells (grownCap w (len + m) cap e - (len + m))).toList⟩, _, hrun, ⟨hg, ?_⟩, ?_⟩
      · simp only [zlen]; exact hge _ _ hg
      · have := (hS.draw.alloc (cs.take (len * z) ++ news ++ (Builtin.zeroCells zv.cells (grownCap w (len + m) cap e - (len + m))).toList) e).replace kk
        have e1 : ((cs.take (len * z)).toArray ++ news.toArray ++ Builtin.zeroCells zv.cells (grownCap w (len + m) cap e - (len + m))) = (cs.take (len * z) ++ news ++ (Builtin.zeroCells zv.cells (grownCap w (len + m) cap e - (len + m))).toList).toArray := by
          apply Array.ext'; simp
        rw [e1]; exact this
end
section
variable {ds : List Deferred} {P : Program} {o : Oper} {n : Nat} {L : Slots} {ok : Nat → Prop} {w0 : World} {own : List Ent} {C : Ent → List Ent} {fs : List Fact} {x y : Operand} {t e : TypeId} {sz z : Nat} {xs : List Value}
theorem appgN {len cap : Nat} {ob : Option Nat} {news sp : List Value} {zv : Value} {m c : Nat} {ad : Option Addr} (hop : o.op = .call { callee := .builtin .append, args := #[x, y], argTypes := #[t, t] }) (hu : P.underlying t = some (.slice e)) (hi : (P.info? e).map (fun i => (i.zero, i.size, i.bytes)) = some (some zv, z, sz)) (h1 : zv.cells.size = z) (hz0 : 0 < z)
    (hk : Ctx own ⟨ob, xs ++ sp, e⟩ C) (hx : oper L x = some (.slice (ob.map fun b => ⟨b, 0, none⟩) len cap)) (hy : oper L y = some (.slice ad m c)) (hsrc : ∀ w, St ok w0 own fs w → (Fact.sl ad news).holds (fun _ => True) w) (hm : news.length = m * z)
    (hb : xs.length = len * z ∧ cap * z = len * z + sp.length ∧ len + m ≤ 9223372036854775807 ∧ (len + m) * sz ≤ 140737488355328) (h1c : ∀ u ∈ news, u.oneCell' = true) :
    Og ds P o n L (St ok w0 own fs) (fun g : Gr => .slice (g.ob.map fun b => ⟨b, 0, none⟩) (len + m) g.cap) (fun g w => (g.cap * z = (len + m) * z + g.sp.length) ∧ St ok w0 (C ⟨g.ob, (xs ++ news) ++ g.sp, e⟩) fs w) :=
  og_run fun a hF w hS => by
    obtain ⟨kk, hkk, hC⟩ := hk.get
    obtain ⟨hxl, hcap, h63, hbb⟩ := hb
    have hlc : len ≤ cap := by
      rcases Nat.lt_or_ge cap len with h | h
      · have := Nat.mul_lt_mul_of_pos_right h hz0; omega
      · exact h
    by_cases hpos : 0 < m
    · have htake : (xs ++ sp).take (len * z) = xs := by rw [← hxl]; simp
      have hs : Src w (.slice ad m c) m news := by
        rcases hsrc w hS with h0 | ⟨b', off', cells, T', fz, e1, _, e3, e4⟩
        · subst h0; have := Nat.mul_pos hpos hz0; simp at hm; omega
        · subst e1
          refine ⟨_, _, rfl, (fun h => by cases h), fun a ha q u hq => ?_⟩
          obtain rfl := Option.some.inj ha
          have hlt : q < news.length := (List.getElem?_eq_some_iff.1 hq).1
          rw [Addr.add_lit]; simp [World.cell?, e3, e4 q hlt, hq]
      obtain ⟨g, w', hrun, hp, hS'⟩ := run_appN (P := P) (ty := o.type) hS hkk hu hi h1 hz0 hlc (by simp; omega) hs hm h1c hpos h63 hbb
      rw [htake] at hS'
      refine ⟨⟨some g.b, g.cap, g.spare⟩, w', .inl ?_, ?_, ?_⟩
      · simp [execOp, hop, resolve, invoke, builtin, hF.eval hx, hF.eval hy, hrun]
      · exact hp.2
      · rw [hC]; exact hS'
    · have hm0 : m = 0 := by omega
      subst hm0
      have hn0 : news = [] := List.eq_nil_of_length_eq_zero (by omega)
      subst hn0
      obtain ⟨i', hi', hz, hs, hbb'⟩ := info_parts hi
      have hrun := run_app0 (P := P) (w := w) (ob := ob) (len := len) (cap := cap) (c := c) (ad := ad) (ty := o.type) (sz := z) hu (by rw [hi']; simp [hs]) hlc
      refine ⟨⟨ob, cap, sp⟩, w, .inl ?_, ?_, ?_⟩
      · simp [execOp, hop, resolve, invoke, builtin, hF.eval hx, hF.eval hy, hrun]
      · exact hcap
      · rw [List.append_nil]
        rw [hC]
        have : own.set kk ⟨ob, xs ++ sp, e⟩ = own := by
          apply List.ext_getElem?; intro q
          by_cases hq : kk = q
          · subst hq; rw [List.getElem?_set_self (List.getElem?_eq_some_iff.1 hkk).1, hkk]
          · rw [List.getElem?_set_ne hq]
        rw [this]; exact hS
/-- append to a block that is full -/
theorem appfN {len cap b : Nat} {news : List Value} {zv : Value} {m c : Nat} {ad : Option Addr} (hop : o.op = .call { callee := .builtin .append, args := #[x, y], argTypes := #[t, t] }) (hu : P.underlying t = some (.slice e)) (hi : (P.info? e).map (fun i => (i.zero, i.size, i.bytes)) = some (some zv, z, sz)) (h1 : zv.cells.size = z) (hz0 : 0 < z)
    (hk : Ctx own ⟨some b, xs, e⟩ C) (hx : oper L x = some (.slice (some ⟨b, 0, none⟩) len cap)) (hy : oper L y = some (.slice ad m c)) (hsrc : ∀ w, St ok w0 own fs w → (Fact.sl ad news).holds (fun _ => True) w) (hm : news.length = m * z)
    (hb : xs.length = len * z ∧ cap = len ∧ len + m ≤ 9223372036854775807 ∧ (len + m) * sz ≤ 140737488355328) (h1c : ∀ u ∈ news, u.oneCell' = true) :
    Og ds P o n L (St ok w0 own fs) (fun g : Gr => .slice (g.ob.map fun b => ⟨b, 0, none⟩) (len + m) g.cap) (fun g w => (g.cap * z = (len + m) * z + g.sp.length) ∧ St ok w0 (C ⟨g.ob, (xs ++ news) ++ g.sp, e⟩) fs w) :=
  appgN (ob := some b) (sp := []) hop hu hi h1 hz0 (by rw [List.append_nil]; exact hk) hx hy hsrc hm ⟨hb.1, by rw [hb.2.1]; simp, hb.2.2⟩ h1c
theorem appgNJ {len cap : Nat} {ob : Option Nat} {news sp : List Value} {zv : Value} {m c : Nat} {ad : Option Addr} (hop : o.op = .call { callee := .builtin .append, args := #[x, y], argTypes := #[t, t] }) (hu : P.underlying t = some (.slice e)) (hi : (P.info? e).map (fun i => (i.zero, i.size, i.bytes)) = some (some zv, z, sz)) (h1 : zv.cells.size = z) (hz0 : 0 < z)
    (hk : Ctx own ⟨ob, xs ++ sp, e⟩ C) (hx : oper L x = some (.slice (ob.map fun b => ⟨b, 0, none⟩) len cap)) (hy : oper L y = some (.slice ad m c)) (hsrc : ∀ ext w, St ok w0 (ext ++ own) fs w → (Fact.sl ad news).holds (fun _ => True) w) (hm : news.length = m * z)
    (hb : xs.length = len * z ∧ cap * z = len * z + sp.length ∧ len + m ≤ 9223372036854775807 ∧ (len + m) * sz ≤ 140737488355328) (h1c : ∀ u ∈ news, u.oneCell' = true) (ext : List Ent) :
    Og ds P o n L (St ok w0 (ext ++ own) fs) (fun g : Gr => .slice (g.ob.map fun b => ⟨b, 0, none⟩) (len + m) g.cap) (fun g w => (g.cap * z = (len + m) * z + g.sp.length) ∧ St ok w0 (ext ++ C ⟨g.ob, (xs ++ news) ++ g.sp, e⟩) fs w) :=
  appgN hop hu hi h1 hz0 (Ctx.right hk ext) hx hy (hsrc ext) hm hb h1c
theorem appfNJ {len cap b : Nat} {news : List Value} {zv : Value} {m c : Nat} {ad : Option Addr} (hop : o.op = .call { callee := .builtin .append, args := #[x, y], argTypes := #[t, t] }) (hu : P.underlying t = some (.slice e)) (hi : (P.info? e).map (fun i => (i.zero, i.size, i.bytes)) = some (some zv, z, sz)) (h1 : zv.cells.size = z) (hz0 : 0 < z)
    (hk : Ctx own ⟨some b, xs, e⟩ C) (hx : oper L x = some (.slice (some ⟨b, 0, none⟩) len cap)) (hy : oper L y = some (.slice ad m c)) (hsrc : ∀ ext w, St ok w0 (ext ++ own) fs w → (Fact.sl ad news).holds (fun _ => True) w) (hm : news.length = m * z)
    (hb : xs.length = len * z ∧ cap = len ∧ len + m ≤ 9223372036854775807 ∧ (len + m) * sz ≤ 140737488355328) (h1c : ∀ u ∈ news, u.oneCell' = true) (ext : List Ent) :
    Og ds P o n L (St ok w0 (ext ++ own) fs) (fun g : Gr => .slice (g.ob.map fun b => ⟨b, 0, none⟩) (len + m) g.cap) (fun g w => (g.cap * z = (len + m) * z + g.sp.length) ∧ St ok w0 (ext ++ C ⟨g.ob, (xs ++ news) ++ g.sp, e⟩) fs w) :=
  appfN hop hu hi h1 hz0 (Ctx.right hk ext) hx hy (hsrc ext) hm hb h1c
end
/-! literals of wide elements -/
theorem cells_one {k : Nat} (c : List Value) : (([(k, Value.agg c.toArray)] : List (Nat × Value)).map Prod.snd).flatMap (fun v => v.cells.toList) = c := by simp [Value.cells]
theorem set_row (off : Nat) (tl : List Value) : ∀ (c : List Value) (k : Nat) (done mid : List Value), mid.length = c.length → done.length = off + k →
    (c.zipIdx k).foldl (fun (cs : Array Value) (x : Value × Nat) => cs.setIfInBounds (off + x.2) x.1) (done ++ (mid ++ tl)).toArray = (done ++ (c ++ tl)).toArray
  | [], k, done, mid, h, _ => by
    have : mid = [] := List.eq_nil_of_length_eq_zero h
    subst this; simp
  | x :: c, k, done, [], h, _ => by simp at h
  | x :: c, k, done, m :: mid, h, hd => by
    rw [List.zipIdx_cons, List.foldl_cons]
    have e1 : (done ++ (m :: mid ++ tl)).toArray.setIfInBounds (off + k) x = ((done ++ [x]) ++ (mid ++ tl)).toArray := by
      rw [← hd]; apply Array.ext'; simp
    simp only
    rw [e1, set_row off tl c (k + 1) (done ++ [x]) mid (by simpa using h) (by simp; omega)]
    simp
theorem fill_n (z : Nat) : ∀ (vs done zs : List Value) (k : Nat), zs.length = vs.length * z → (∀ v ∈ vs, v.cells.size = z) → done.length = k * z →
    Instr.fill (fun i => some (i * z, z)) (done ++ zs).toArray ((List.range' k vs.length).zip vs) = some (done ++ vs.flatMap fun v => v.cells.toList).toArray
  | [], done, zs, k, hl, _, _ => by have : zs = [] := List.eq_nil_of_length_eq_zero (by simpa using hl); subst this; simp [Instr.fill]
  | v :: vs, done, zs, k, hl, h1, hd => by
    have hv := h1 v (by simp)
    rw [List.length_cons, Nat.add_mul, Nat.one_mul] at hl
    have hz : zs = zs.take z ++ zs.drop z := (List.take_append_drop z zs).symm
    have hzl : (zs.take z).length = z := by rw [List.length_take]; omega
    have hdl : (zs.drop z).length = vs.length * z := by rw [List.length_drop]; omega
    have e1 := set_row (k * z) (zs.drop z) v.cells.toList 0 done (zs.take z) (by rw [hzl]; simpa using hv.symm) (by omega)
    rw [← hz] at e1
    have ih := fill_n z vs (done ++ v.cells.toList) (zs.drop z) (k + 1) hdl (fun u hu => h1 u (by simp [hu])) (by rw [List.length_append, hd, Nat.add_mul]; simp [hv])
    simp only [List.length_cons, List.range'_succ, List.zip_cons_cons, Instr.fill]
    rw [if_neg (by simp [hv, hd]; omega)]
    have e2 : (v.cells.zipIdx.foldl (fun (cs : Array Value) (x : Value × Nat) => cs.setIfInBounds (k * z + x.2) x.1) (done ++ zs).toArray) = (done ++ (v.cells.toList ++ zs.drop z)).toArray := by
      rw [← e1, ← Array.foldl_toList, Array.toList_zipIdx]
    have e3 : (v.cells.zipIdx.foldl (fun cs x => match x with | (c, j) => cs.setIfInBounds (k * z + j) c) (done ++ zs).toArray) = (done ++ (v.cells.toList ++ zs.drop z)).toArray := e2
    rw [e3, ← List.append_assoc, ih]
    simp
section
variable {ds : List Deferred} {P : Program} {o : Oper} {n : Nat} {L : Slots} {ok : Nat → Prop} {w0 : World} {own : List Ent} {fs : List Fact} {t e : TypeId} {sz z : Nat} {cs : List Value}
theorem run_bsN {len : Nat} {vs : List (Nat × Value)} {zv : Value} (hu : P.underlying t = some (.slice e))
    (hi : (P.info? e).map (fun i => (i.zero, i.size, i.bytes)) = some (some zv, z, sz)) (hzs : zv.cells.size = z) (hz0 : 0 < z) (hnum : vs = (List.range' 0 len).zip (vs.map Prod.snd)) (hlen : (vs.map Prod.snd).length = len) (h1 : ∀ v ∈ vs.map Prod.snd, v.cells.size = z) (hcs : (vs.map Prod.snd).flatMap (fun v => v.cells.toList) = cs) (hsm : len * z ≤ 16777216) (w : World) :
    (Instr.buildSlice t len vs.toArray).run P w = .ok (.slice (some ⟨w.heap.size, 0, none⟩) len len) (w.alloc (.cells cs.toArray e)) := by
  obtain ⟨i', hi', hz', hs, hbb⟩ := info_parts hi
  have hfill : ∀ zs : List Value, zs.length = len * z → Instr.fill (fun i => some (i * z, z)) zs.toArray vs = some cs.toArray := fun zs hzl => by
    have := fill_n z (vs.map Prod.snd) [] zs 0 (by rw [hlen]; exact hzl) h1 (by simp)
    rw [hlen, ← hnum, hcs] at this; simpa using this
  simp only [Instr.buildSlice, Sem.run_bind, run_underlying hu, Result.andThen, sizeOf, typeInfo, run_program, hi', Sem.run_pure, hs]
  rw [if_neg (by omega)]
  by_cases h0 : len * z = 0
  · have hzero : ((Array.range (len * z)).map fun x => (#[] : Array Value)[x % (#[] : Array Value).size]!) = (((Array.range (len * z)).map fun x => (#[] : Array Value)[x % (#[] : Array Value).size]!).toList).toArray := (Array.toArray_toList).symm
    rw [if_pos h0]
    simp only [Sem.run_pure, Sem.run_bind, Result.andThen]
    rw [hzero, hfill _ (by simp)]
    rfl
  · have hzero : ((Array.range (len * z)).map fun x => zv.cells[x % zv.cells.size]!) = (((Array.range (len * z)).map fun x => zv.cells[x % zv.cells.size]!).toList).toArray := (Array.toArray_toList).symm
    rw [if_neg h0]
    simp only [Sem.run_bind, zeroValue, typeInfo, run_program, Result.andThen, hi', Sem.run_pure, hz']
    rw [hzero, hfill _ (by simp)]
    rfl
theorem og_bsN {len : Nat} {parts : List (Nat × Operand)} {vs : List (Nat × Value)} {zv : Value} (hop : o.op = .buildSlice t len parts.toArray) (hp : partsOf L parts = some vs) (hu : P.underlying t = some (.slice e))
    (hi : (P.info? e).map (fun i => (i.zero, i.size, i.bytes)) = some (some zv, z, sz)) (hzs : zv.cells.size = z) (hz0 : 0 < z) (hnum : vs = (List.range' 0 len).zip (vs.map Prod.snd)) (hlen : (vs.map Prod.snd).length = len) (h1 : ∀ v ∈ vs.map Prod.snd, v.cells.size = z) (hcs : (vs.map Prod.snd).flatMap (fun v => v.cells.toList) = cs) (hsm : len * z ≤ 16777216) :
    Og ds P o n L (St ok w0 own fs) (fun b : Nat => .slice (some ⟨b, 0, none⟩) len len) (fun b => St ok w0 (⟨some b, cs, e⟩ :: own) fs) := og_bs hop hp hu (run_bsN hu hi hzs hz0 hnum hlen h1 hcs hsm)
theorem fr_bsN {len : Nat} {parts : List (Nat × Operand)} {vs : List (Nat × Value)} {zv : Value} (hop : o.op = .buildSlice t len parts.toArray) (hp : partsOf L parts = some vs) (hu : P.underlying t = some (.slice e))
    (hi : (P.info? e).map (fun i => (i.zero, i.size, i.bytes)) = some (some zv, z, sz)) (hzs : zv.cells.size = z) (hz0 : 0 < z) (hnum : vs = (List.range' 0 len).zip (vs.map Prod.snd)) (hlen : (vs.map Prod.snd).length = len) (h1 : ∀ v ∈ vs.map Prod.snd, v.cells.size = z) (hcs : (vs.map Prod.snd).flatMap (fun v => v.cells.toList) = cs) (hsm : len * z ≤ 16777216) :
    Fre ds P o n L (fun b : Nat => .slice (some ⟨b, 0, none⟩) len len) cs e := fr_bs hop hp hu (run_bsN hu hi hzs hz0 hnum hlen h1 hcs hsm)
end
theorem St.addN {ok : Nat → Prop} {w0 w : World} {own : List Ent} {fs : List Fact} (h : St ok w0 own fs w) : St ok w0 own (Fact.sl none [] :: fs) w := h.add (f := Fact.sl none []) (Or.inl rfl)
end Go.Proofs.YtbcnnkcddilfjaaGreat
