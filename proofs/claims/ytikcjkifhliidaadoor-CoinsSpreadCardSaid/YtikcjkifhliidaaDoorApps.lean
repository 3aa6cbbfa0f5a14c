/-
  Own framework: append of a string's bytes (the part of XBld2 that knows no program).
-/
import Derived.Test.YtikcjkifhliidaaDoorApp
import Derived.Lib.AppendStr
namespace Go.Proofs.YtikcjkifhliidaaDoor
set_option linter.unusedSimpArgs false
set_option linter.unusedVariables false
open Go.RowKit

theorem strCells_S (l : List UInt8) : Lib.strCells (S l) = l.map B := by simp [Lib.strCells, S, B]
section
variable {ds : List Deferred} {P : Program} {o : Oper} {n : Nat} {L : Slots} {ok : Nat → Prop} {w0 : World} {own : List Ent} {C : Ent → List Ent} {fs : List Fact} {x y : Operand} {t u e : TypeId} {xs : List Value}
theorem run_apps {w : World} {own : List Ent} {kk : Nat} {ob : Option Nat} {len cap : Nat} {sp : List Value} {l : List UInt8} {ty : TypeId} (hS : St ok w0 own fs w) (hk : own[kk]? = some ⟨ob, xs ++ sp, e⟩)
    (hu : P.underlying t = some (.slice e)) (hv : P.underlying u = some .string) (hi : (P.info? e).map (fun i => (i.zero, i.size, i.bytes)) = some (some (.int .u8 0), 1, 1))
    (hxl : xs.length = len) (hcap : cap = len + sp.length) (hb : len + l.length ≤ 140737488355328) (hzz : ob = none ∨ 0 < cap) :
    ∃ (g : Gr) (w' : World), (Builtin.append_ #[t, u] ty #[.slice (ob.map fun b => ⟨b, 0, none⟩) len cap, .string (S l)]).run P w = .ok (.slice (g.ob.map fun b => ⟨b, 0, none⟩) (len + l.length) g.cap) w' ∧ (g.cap = len + l.length + g.sp.length ∧ (g.ob = none ∨ 0 < g.cap)) ∧ St ok w0 (own.set kk ⟨g.ob, (xs ++ l.map B) ++ g.sp, e⟩) fs w' := by
  obtain ⟨i', hi', hz, hs, hbb⟩ := info_parts hi
  have hsz : (S l).size = l.length := S_size l
  have htake : (xs ++ sp).take len = xs := by rw [← hxl]; simp
  have zlen : ∀ q, (Builtin.zeroCells (Value.int .u8 0).cells q).toList = List.replicate q (.int .u8 0) := fun q => zero_one _ q
  have hsame : own.set kk ⟨ob, xs ++ sp, e⟩ = own := by
    apply List.ext_getElem?; intro q
    by_cases hq : kk = q
    · subst hq; rw [List.getElem?_set_self (List.getElem?_eq_some_iff.1 hk).1, hk]
    · rw [List.getElem?_set_ne hq]
  cases ob with
  | none =>
    have hcs : xs ++ sp = [] := hS.own_ _ (List.mem_of_getElem? hk)
    obtain ⟨rfl, rfl⟩ : xs = [] ∧ sp = [] := by simpa using hcs
    obtain rfl : len = 0 := by simpa using hxl.symm
    obtain rfl : cap = 0 := by simpa using hcap
    by_cases h0 : l.length = 0
    · have hl : l = [] := List.eq_nil_of_length_eq_zero h0
      subst hl
      refine ⟨⟨none, 0, []⟩, w, ?_, ⟨rfl, .inl rfl⟩, by show St ok w0 (own.set kk ⟨none, [] ++ [], e⟩) fs w; rw [hsame]; exact hS⟩
      simp [Builtin.append_, run_underlying hu, run_underlying hv, sizeOf, typeInfo, hi', hs, Builtin.lenOf, S, Builtin.firstCells, ByteArray.size]
    · have hrun := run_append_nil_string (P := P) w t u ty e i' (.int .u8 0) hu hv hi' hz (S l) (by omega) (by omega) (by rw [hbb, hsz]; omega)
      rw [hsz] at hrun
      refine ⟨⟨some w.heap.size, grownCap w l.length 0 e, List.replicate (grownCap w l.length 0 e - l.length) (.int .u8 0)⟩, _, by simpa using hrun, ?_, ?_⟩
      · have := grownCap_ge w l.length 0 e; exact ⟨by simp; omega, .inr (by show 0 < grownCap w l.length 0 e; omega)⟩
      · have := (hS.draw.alloc (l.map B ++ List.replicate (grownCap w l.length 0 e - l.length) (.int .u8 0)) e).replace kk
        have e1 : ((S l).data.map (fun b => Value.int .u8 b.toNat) ++ Builtin.zeroCells (Value.int .u8 0).cells (grownCap w l.length 0 e - l.length)) = (l.map B ++ List.replicate (grownCap w l.length 0 e - l.length) (Value.int .u8 0)).toArray := by
          apply Array.ext'; simp [zlen, S, B]
        simp only [List.nil_append]
        rw [e1]; exact this
  | some b' =>
    have hbk := hS.block hk
    by_cases hroom : len + l.length ≤ cap
    · have hrun := Lib.run_append_room_string (P := P) w t u ty e i' hu hv hi' hs b' len cap (xs ++ sp).toArray hbk (S l) (by omega) (by simp [hsz]; omega)
      rw [hsz, strCells_S] at hrun
      refine ⟨⟨some b', cap, (xs ++ sp).drop (len + l.length)⟩, _, hrun, ?_, ?_⟩
      · exact ⟨by simp; omega, .inr (hzz.resolve_left (by simp))⟩
      · have := hS.setRow hk (xs ++ l.map B ++ (xs ++ sp).drop (len + l.length))
        simp only [htake]; exact this
    · have hrun := Lib.run_append_grow_string (P := P) w t u ty e i' (.int .u8 0) hu hv hi' hz ⟨b', 0, none⟩ len cap xs (by rw [hs]; omega) (fun q v hq => by
          rw [Addr.add_lit, Nat.zero_add, block_cell hbk]
          rw [List.getElem?_append_left (List.getElem?_eq_some_iff.1 hq).1]; exact hq) (S l) (by omega) (by omega) (by rw [hbb, hsz]; exact growslice_fits (by omega) (by omega))
      rw [hsz, strCells_S] at hrun
      refine ⟨⟨some w.heap.size, grownCap w (len + l.length) cap e, List.replicate (grownCap w (len + l.length) cap e - (len + l.length)) (.int .u8 0)⟩, _, hrun, ?_, ?_⟩
      · have := grownCap_ge w (len + l.length) cap e; exact ⟨by simp; omega, .inr (by show 0 < grownCap w (len + l.length) cap e; omega)⟩
      · have := (hS.draw.alloc (xs ++ l.map B ++ List.replicate (grownCap w (len + l.length) cap e - (len + l.length)) (.int .u8 0)) e).replace kk
        have e1 : (xs.toArray ++ (l.map B).toArray ++ Builtin.zeroCells (Value.int .u8 0).cells (grownCap w (len + l.length) cap e - (len + l.length))) = (xs ++ l.map B ++ List.replicate (grownCap w (len + l.length) cap e - (len + l.length)) (Value.int .u8 0)).toArray := by
          apply Array.ext'; simp [zlen]
        rw [e1]; exact this
theorem apps {len cap : Nat} {ob : Option Nat} {sp : List Value} {l : List UInt8} (hop : o.op = .call { callee := .builtin .append, args := #[x, y], argTypes := #[t, u] }) (hu : P.underlying t = some (.slice e)) (hv : P.underlying u = some .string) (hi : (P.info? e).map (fun i => (i.zero, i.size, i.bytes)) = some (some (.int .u8 0), 1, 1))
    (hk : Ctx own ⟨ob, xs ++ sp, e⟩ C) (hx : oper L x = some (.slice (ob.map fun b => ⟨b, 0, none⟩) len cap)) (hy : oper L y = some (.string (S l)))
    (hb : xs.length = len ∧ cap = len + sp.length ∧ len + l.length ≤ 140737488355328 ∧ (ob = none ∨ 0 < cap)) :
    Og ds P o n L (St ok w0 own fs) (fun g : Gr => .slice (g.ob.map fun b => ⟨b, 0, none⟩) (len + l.length) g.cap) (fun g w => (g.cap = len + l.length + g.sp.length ∧ (g.ob = none ∨ 0 < g.cap)) ∧ St ok w0 (C ⟨g.ob, (xs ++ l.map B) ++ g.sp, e⟩) fs w) :=
  og_run fun a hF w hS => by
    obtain ⟨kk, hkk, hC⟩ := hk.get
    obtain ⟨g, w', hrun, hp, hS'⟩ := run_apps (P := P) (ty := o.type) hS hkk hu hv hi hb.1 hb.2.1 hb.2.2.1 hb.2.2.2
    refine ⟨g, w', .inl ?_, hp, by rw [hC]; exact hS'⟩
    simp [execOp, hop, resolve, invoke, builtin, hF.eval hx, hF.eval hy, hrun]
end
section
variable {ds : List Deferred} {ρ : Option Nat} {P : Program} {Q : Exit → Act → World → Prop} {n : Nat} {L : Slots} {Z : World → Prop} {p : Prop} {ops rest : List Oper}
theorem WL.know (h : ∀ w, Z w → p) (k : p → WL ds P ops Q n rest L Z) : WL ds P ops Q n rest L Z := fun a w hF hS => k (h w hS) a w hF hS
end
end Go.Proofs.YtikcjkifhliidaaDoor
