/-
  strings.Builder: WriteString, Grow; strings.Join.
-/
import Derived.Test.YtijamoagkmjcjaaBuild
import Derived.Test.YtijamoagkmjcjaaRng
import Derived.Lib.AppendStr
import Derived.Lib.MakeNoZero
namespace Go.Proofs.Ytijamoagkmjcjaa
set_option linter.unusedSimpArgs false
set_option linter.unusedVariables false
set_option maxRecDepth 20000
open Go.RowKit

theorem strCells_S (l : List UInt8) : Lib.strCells (S l) = l.map B := by simp [Lib.strCells, S, B]
section
variable {ds : List Deferred} {P : Program} {o : Oper} {n : Nat} {L : Slots} {ok : Nat → Prop} {w0 : World} {own : List Ent} {C : Ent → List Ent} {fs : List Fact} {x y : Operand} {t u e : TypeId} {xs : List Value}
theorem run_apps {w : World} {own : List Ent} {kk : Nat} {ob : Option Nat} {len cap : Nat} {sp : List Value} {l : List UInt8} {ty : TypeId} (hS : St ok w0 own fs w) (hk : own[kk]? = some ⟨ob, xs ++ sp, e⟩)
    (hu : P.underlying t = some (.slice e)) (hv : P.underlying u = some .string) (hi : (P.info? e).map (fun i => (i.zero, i.size, i.bytes)) = some (some (.int .u8 0), 1, 1))
    (hxl : xs.length = len) (hcap : cap = len + sp.length) (hb : len + l.length ≤ 140737488355328) (hzz : ob = none ∨ 0 < cap) :
    ∃ (g : Gr) (w' : World), (Builtin.append_ #[t, u] ty #[.slice (ob.map fun b => ⟨b, 0, none⟩) len cap, .string (S l)]).run P w = .ok (.slice (g.ob.map fun b => ⟨b, 0, none⟩) (len + l.length) g.cap) w' ∧ (g.cap = len + l.length + g.sp.length ∧ (g.ob = none ∨ 0 < g.cap)) ∧ St ok w0 (own.set kk ⟨g.ob, (xs ++ l.map B) ++ g.sp, e⟩) fs w' := by
  obtain ⟨i', hi', hz, hs, hbb⟩ := info_parts hi
  have hsz : (S l).size = l.length := S_size l
  have htake : (xs ++ sp).take len = xs := by rw [← hxl]; simp
  have zlen : ∀ q, (Builtin.zeroCells (Value.int .u8 0).cells q).toList = List.replicate q (.int .u8 0) := fun q => zero_one _ q
  have hsame : own.set kk ⟨ob, xs ++ sp, e⟩ = own := by
    apply List.ext_getElem?; intro q
    by_cases hq : kk = q
    · subst hq; rw [List.getElem?_set_self (List.getElem?_eq_some_iff.1 hk).1, hk]
    · rw [List.getElem?_set_ne hq]
  cases ob with
  | none =>
    have hcs : xs ++ sp = [] := hS.own_ _ (List.mem_of_getElem? hk)
    obtain ⟨rfl, rfl⟩ : xs = [] ∧ sp = [] := by simpa using hcs
    obtain rfl : len = 0 := by simpa using hxl.symm
    obtain rfl : cap = 0 := by simpa using hcap
    by_cases h0 : l.length = 0
    · have hl : l = [] := List.eq_nil_of_length_eq_zero h0
      subst hl
      refine ⟨⟨none, 0, []⟩, w, ?_, ⟨rfl, .inl rfl⟩, by show St ok w0 (own.set kk ⟨none, [] ++ [], e⟩) fs w; rw [hsame]; exact hS⟩
      simp [Builtin.append_, run_underlying hu, run_underlying hv, sizeOf, typeInfo, hi', hs, Builtin.lenOf, S, Builtin.firstCells, ByteArray.size]
    · have hrun := run_append_nil_string (P := P) w t u ty e i' (.int .u8 0) hu hv hi' hz (S l) (by omega) (by omega) (by rw [hbb, hsz]; omega)
      rw [hsz] at hrun
      refine ⟨⟨some w.heap.size, grownCap w l.length 0 e, List.replicate (grownCap w l.length 0 e - l.length) (.int .u8 0)⟩, _, by simpa using hrun, ?_, ?_⟩
      · have := grownCap_ge w l.length 0 e; exact ⟨by simp; omega, .inr (by show 0 < grownCap w l.length 0 e; omega)⟩
      · have := (hS.draw.alloc (l.map B ++ List.replicate (grownCap w l.length 0 e - l.length) (.int .u8 0)) e).replace kk
        have e1 : ((S l).data.map (fun b => Value.int .u8 b.toNat) ++ Builtin.zeroCells (Value.int .u8 0).cells (grownCap w l.length 0 e - l.length)) = (l.map B ++ List.replicate (grownCap w l.length 0 e - l.length) (Value.int .u8 0)).toArray := by
          apply Array.ext'; simp [zlen, S, B]
        simp only [List.nil_append]
        rw [e1]; exact this
  | some b' =>
    have hbk := hS.block hk
    by_cases hroom : len + l.length ≤ cap
    · have hrun := Lib.run_append_room_string (P := P) w t u ty e i' hu hv hi' hs b' len cap (xs ++ sp).toArray hbk (S l) (by omega) (by simp [hsz]; omega)
      rw [hsz, strCells_S] at hrun
      refine ⟨⟨some b', cap, (xs ++ sp).drop (len + l.length)⟩, _, hrun, ?_, ?_⟩
      · exact ⟨by simp; omega, .inr (hzz.resolve_left (by simp))⟩
      · have := hS.setRow hk (xs ++ l.map B ++ (xs ++ sp).drop (len + l.length))
        simp only [htake]; exact this
    · have hrun := Lib.run_append_grow_string (P := P) w t u ty e i' (.int .u8 0) hu hv hi' hz ⟨b', 0, none⟩ len cap xs (by rw [hs]; omega) (fun q v hq => by
          rw [Addr.add_lit, Nat.zero_add, block_cell hbk]
          rw [List.getElem?_append_left (List.getElem?_eq_some_iff.1 hq).1]; exact hq) (S l) (by omega) (by omega) (by rw [hbb, hsz]; exact growslice_fits (by omega) (by omega))
      rw [hsz, strCells_S] at hrun
      refine ⟨⟨some w.heap.size, grownCap w (len + l.length) cap e, List.replicate (grownCap w (len + l.length) cap e - (len + l.length)) (.int .u8 0)⟩, _, hrun, ?_, ?_⟩
      · have := grownCap_ge w (len + l.length) cap e; exact ⟨by simp; omega, .inr (by show 0 < grownCap w (len + l.length) cap e; omega)⟩
      · have := (hS.draw.alloc (xs ++ l.map B ++ List.replicate (grownCap w (len + l.length) cap e - (len + l.length)) (.int .u8 0)) e).replace kk
        have e1 : (xs.toArray ++ (l.map B).toArray ++ Builtin.zeroCells (Value.int .u8 0).cells (grownCap w (len + l.length) cap e - (len + l.length))) = (xs ++ l.map B ++ List.replicate (grownCap w (len + l.length) cap e - (len + l.length)) (Value.int .u8 0)).toArray := by
          apply Array.ext'; simp [zlen]
        rw [e1]; exact this
theorem apps {len cap : Nat} {ob : Option Nat} {sp : List Value} {l : List UInt8} (hop : o.op = .call { callee := .builtin .append, args := #[x, y], argTypes := #[t, u] }) (hu : P.underlying t = some (.slice e)) (hv : P.underlying u = some .string) (hi : (P.info? e).map (fun i => (i.zero, i.size, i.bytes)) = some (some (.int .u8 0), 1, 1))
    (hk : Ctx own ⟨ob, xs ++ sp, e⟩ C) (hx : oper L x = some (.slice (ob.map fun b => ⟨b, 0, none⟩) len cap)) (hy : oper L y = some (.string (S l)))
    (hb : xs.length = len ∧ cap = len + sp.length ∧ len + l.length ≤ 140737488355328 ∧ (ob = none ∨ 0 < cap)) :
    Og ds P o n L (St ok w0 own fs) (fun g : Gr => .slice (g.ob.map fun b => ⟨b, 0, none⟩) (len + l.length) g.cap) (fun g w => (g.cap = len + l.length + g.sp.length ∧ (g.ob = none ∨ 0 < g.cap)) ∧ St ok w0 (C ⟨g.ob, (xs ++ l.map B) ++ g.sp, e⟩) fs w) :=
  og_run fun a hF w hS => by
    obtain ⟨kk, hkk, hC⟩ := hk.get
    obtain ⟨g, w', hrun, hp, hS'⟩ := run_apps (P := P) (ty := o.type) hS hkk hu hv hi hb.1 hb.2.1 hb.2.2.1 hb.2.2.2
    refine ⟨g, w', .inl ?_, hp, by rw [hC]; exact hS'⟩
    simp [execOp, hop, resolve, invoke, builtin, hF.eval hx, hF.eval hy, hrun]
end
abbrev BD (bb : Nat) (p : Option Addr) (ob : Option Nat) (m : List UInt8) (sp : List Value) (cap : Nat) (rr : List Ent) : List Ent :=
  ⟨some bb, [.pointer p, .slice (ob.map fun b => ⟨b, 0, none⟩) m.length cap], 72⟩ :: ⟨ob, m.map B ++ sp, 5⟩ :: rr

/-- what a builder keeps true -/
def BOk (bb : Nat) (p : Option Addr) (ob : Option Nat) (m : List UInt8) (sp : List Value) (cap : Nat) : Prop := (p = none ∨ p = some ⟨bb, 0, none⟩) ∧ cap = m.length + sp.length ∧ (ob = none ∨ 0 < cap)

theorem wstr_c {bb : Nat} {p : Option Addr} {ob : Option Nat} {m s : List UInt8} {sp : List Value} {cap : Nat} {rr : List Ent} {ok : Nat → Prop} {w0 : World} {fs : List Fact} {w : World} (hS0 : St ok w0 (BD bb p ob m sp cap rr) (fs) w) (hB : BOk bb p ob m sp cap) (hm : m.length + s.length ≤ 1000000000) :
    Calls Try.prog 36 #[.pointer (some ⟨bb, 0, none⟩), .string (S s)] w fun e w' => ∃ g : Gr, e = .returned (.tuple #[.int .i64 (s.length : Int), .nilIface]) ∧ BOk bb (some ⟨bb, 0, none⟩) g.ob (m ++ s) g.sp g.cap ∧ St ok w0 (BD bb (some ⟨bb, 0, none⟩) g.ob (m ++ s) g.sp g.cap rr) fs w' := by
  obtain ⟨hp, hcap, hz⟩ := hB
  refine enter (S := St ok w0 (BD bb p ob m sp cap rr) (fs)) (L := [(0, .pointer (some ⟨bb, 0, none⟩)), (1, .string (S s))]) Try.func36 rfl Try.ntmps36 rfl (args_cons rfl (args_cons rfl (args_nil _))) hS0 ?_
  refine WC.sr ?_
  refine WL.r rfl rfl rfl (rd_assign rfl rfl) ?_
  refine WL.r rfl rfl rfl (rd_assign rfl rfl) ?_
  refine WL.nt ?_
  refine WC.sr ?_
  refine WL.r rfl rfl rfl (rd_move rfl rfl) ?_
  refine WL.g rfl rfl rfl (og_call rfl rfl (by kernel_rfl) (fun w hS => cc_ok bb p hp _ w hS)) ?_
  intro _
  refine WL.nt ?_
  refine WC.sr ?_
  refine WL.r rfl rfl rfl (rd_move rfl rfl) ?_
  refine WL.r rfl rfl rfl (rd_move rfl rfl) ?_
  refine WL.r rfl rfl rfl (rd_nil rfl rfl) ?_
  first
    | (refine WL.r rfl rfl rfl (rd_fa rfl rfl Try.underlying72 rfl (by kernel_rfl) (by (try simp only [Int.toNat_natCast, Nat.mul_one, Nat.zero_add, Nat.add_zero, Nat.zero_mul, Int.reduceToNat, Nat.reduceAdd, Nat.reduceMul, Nat.reduceSub, Nat.sub_zero]); rfl)) ?_)
    | (refine WL.r rfl rfl rfl (faf rfl rfl Try.underlying72 rfl (by kernel_rfl) (by (try simp only [Int.toNat_natCast, Nat.mul_one, Nat.zero_add, Nat.add_zero, Nat.zero_mul, Int.reduceToNat, Nat.reduceAdd, Nat.reduceMul, Nat.reduceSub, Nat.sub_zero]); rfl)) ?_)
  first
    | (refine WL.r rfl rfl rfl (ld rfl rfl .tc Try.underlying70 rfl (by rfl)) ?_)
    | (refine WL.r rfl rfl rfl (ldm rfl rfl Try.underlying70 rfl ?_) ?_; (focus (first | assumption | omega | (simp <;> omega) | (simp; done))))
    | (refine WL.r rfl rfl rfl (ldom rfl rfl Try.underlying70 rfl ?_) ?_; (focus (first | assumption | omega | (simp <;> omega) | (simp; done))))
  refine WL.r rfl rfl rfl (rd_move rfl rfl) ?_
  refine WL.g rfl rfl rfl (apps rfl Try.underlying70 Try.underlying9 (by kernel_rfl) .tc rfl rfl ?_) ?_
  · (refine ⟨?_, ?_, ?_, ?_⟩ <;> first | assumption | ((try simp) <;> omega))
  rintro ⟨o14, c14, s14⟩
  refine WL.pu ?_
  intro hg14; (try dsimp only at hg14 ⊢)
  refine WL.r rfl rfl rfl (rd_nil rfl rfl) ?_
  first
    | (refine WL.r rfl rfl rfl (rd_fa rfl rfl Try.underlying72 rfl (by kernel_rfl) (by (try simp only [Int.toNat_natCast, Nat.mul_one, Nat.zero_add, Nat.add_zero, Nat.zero_mul, Int.reduceToNat, Nat.reduceAdd, Nat.reduceMul, Nat.reduceSub, Nat.sub_zero]); rfl)) ?_)
    | (refine WL.r rfl rfl rfl (faf rfl rfl Try.underlying72 rfl (by kernel_rfl) (by (try simp only [Int.toNat_natCast, Nat.mul_one, Nat.zero_add, Nat.add_zero, Nat.zero_mul, Int.reduceToNat, Nat.reduceAdd, Nat.reduceMul, Nat.reduceSub, Nat.sub_zero]); rfl)) ?_)
  refine WL.g0 rfl rfl (st rfl rfl rfl .tc (by kernel_rfl) rfl ?_ rfl) ?_
  · first | decide | (simp; done) | (simp <;> omega)
  intro _
  refine WL.nt ?_
  refine WC.sr ?_
  refine WL.r rfl rfl rfl (rd_move rfl rfl) ?_
  refine WL.r rfl rfl rfl (rd_slen rfl rfl Try.underlying9) ?_
  refine WL.r rfl rfl rfl (rd_assign rfl rfl) ?_
  refine WL.r rfl rfl rfl (rd_assign rfl rfl) ?_
  refine WL.nt ?_
  refine WC.ret ?_
  exact WX.retN rfl (.tmp rfl (.tmp rfl .nil)) fun w' hS => ⟨⟨o14, c14, s14⟩, rfl, ⟨.inr rfl, by simpa using hg14.1, hg14.2⟩, by simpa [BD] using hS⟩

section
variable {ds : List Deferred} {P : Program} {o : Oper} {n : Nat} {L : Slots} {ok : Nat → Prop} {w0 : World} {own : List Ent} {fs : List Fact} {x : Operand} {t e : TypeId}
theorem rd_cap {Z : World → Prop} {ad : Option Addr} {m c : Nat} {ty e : TypeId} (hop : o.op = .call { callee := .builtin .cap, args := #[x], argTypes := #[ty] }) (hx : oper L x = some (.slice ad m c)) (h1 : P.underlying ty = some (.slice e)) : Rd ds P o n L Z (.int .i64 (c : Int)) :=
  rd_run fun a hF w _ => by simp [execOp, hop, resolve, invoke, builtin, hF.eval hx, Builtin.cap_, run_underlying h1, goInt]
theorem og_mnz {f : FuncId} {fn : Func} {ps tys : Array TypeId} {k : Nat} (hop : o.op = .call { callee := .value (.func f), args := #[x], argTypes := tys }) (hx : oper L x = some (.int .i64 (k : Int))) (hf : P.funcs[f]? = some fn) (hname : (fn.name == "runtime.NumGoroutine") = false)
    (hb : fn.body.isNone = true) (hn : Extern.findNext fn = none) (he : Extern.find fn = some (Extern.BytealgMakeNoZero.makeNoZero ps #[t])) (ht : P.underlying t = some (.slice e)) (hk : k ≤ 281474976710656) :
    Og ds P o n L (St ok w0 own fs) (fun g : Nat × List Value => .slice (some ⟨g.1, 0, none⟩) k g.2.length) (fun g w => k ≤ g.2.length ∧ St ok w0 (⟨some g.1, g.2, e⟩ :: own) fs w) :=
  og_run fun a hF w hS => by
    obtain ⟨cs, hrun, hle, _⟩ := Lib.run_makeNoZero (P := P) w ps t e ht k hk
    refine ⟨(w.heap.size, cs.toList), w.drew.drew.alloc (.cells cs e), .inl ?_, by simpa using hle, ?_⟩
    · simp only [execOp, hop, resolve, Act.eval, Deferred.ofValue, invoke]
      simp [hF.eval hx, run_callFunc_extern hf hname hb hn he, hrun, Result.andThen]
    · have := hS.draw.draw.alloc cs.toList e
      simp only [Array.toArray_toList] at this; exact this
theorem og_mnzJ {f : FuncId} {fn : Func} {ps tys : Array TypeId} {k : Nat} (hop : o.op = .call { callee := .value (.func f), args := #[x], argTypes := tys }) (hx : oper L x = some (.int .i64 (k : Int))) (hf : P.funcs[f]? = some fn) (hname : (fn.name == "runtime.NumGoroutine") = false)
    (hb : fn.body.isNone = true) (hn : Extern.findNext fn = none) (he : Extern.find fn = some (Extern.BytealgMakeNoZero.makeNoZero ps #[t])) (ht : P.underlying t = some (.slice e)) (hk : k ≤ 281474976710656) (ext : List Ent) :
    Og ds P o n L (St ok w0 (ext ++ own) fs) (fun g : Nat × List Value => .slice (some ⟨g.1, 0, none⟩) k g.2.length) (fun g w => k ≤ g.2.length ∧ St ok w0 (ext ++ (⟨some g.1, g.2, e⟩ :: own)) fs w) := fun a w hF hS =>
  opX_mono (fun a' w' hh => by obtain ⟨u, e1, g, e2, h1, h2⟩ := hh; exact ⟨u, e1, g, e2, h1, h2.perm List.perm_middle⟩) (og_mnz hop hx hf hname hb hn he ht hk a w hF hS)
end
theorem grow_c {bb : Nat} {p : Option Addr} {k : Nat} {rr : List Ent} {ok : Nat → Prop} {w0 : World} {fs : List Fact} {w : World} (hS0 : St ok w0 (⟨some bb, [.pointer p, .slice none 0 0], 72⟩ :: rr) (fs) w) (hk : k ≤ 1000000000) :
    Calls Try.prog 49 #[.pointer (some ⟨bb, 0, none⟩), .int .i64 (k : Int)] w fun e w' => ∃ g : Nat × List Value, e = .returned (.tuple #[]) ∧ k ≤ g.2.length ∧ St ok w0 (⟨some bb, [.pointer p, .slice (some ⟨g.1, 0, none⟩) 0 g.2.length], 72⟩ :: ⟨some g.1, g.2, 5⟩ :: rr) fs w' := by
  refine enter (S := St ok w0 (⟨some bb, [.pointer p, .slice none 0 0], 72⟩ :: rr) (fs)) (L := [(0, .pointer (some ⟨bb, 0, none⟩)), (1, .int .i64 (k : Int))]) Try.func49 rfl Try.ntmps49 rfl (args_cons rfl (args_cons rfl (args_nil _))) hS0 ?_
  refine WC.seq ?_
  refine WC.free0 [0, 1, 2, 3, 4, 5, 6, 7, 8, 9, 10, 11, 12, 13, 14, 15] [] [0, 0, 0, 0, 0, 0, 0, 0, 1, 0, 0, 0, 0, 0, 0, 0] (by kernel_rfl) (by kernel_rfl) rfl ?_
  refine WJ.r rfl rfl rfl rfl rfl (rd_move rfl rfl) ?_
  refine WJ.r rfl rfl rfl rfl rfl (rd_nil rfl rfl) ?_
  first
    | (refine WJ.r rfl rfl rfl rfl rfl (rd_fa rfl rfl Try.underlying72 rfl (by kernel_rfl) (by (try simp only [Int.toNat_natCast, Nat.mul_one, Nat.zero_add, Nat.add_zero, Nat.zero_mul, Int.reduceToNat, Nat.reduceAdd, Nat.reduceMul, Nat.reduceSub, Nat.sub_zero]); rfl)) ?_)
    | (refine WJ.r rfl rfl rfl rfl rfl (faf rfl rfl Try.underlying72 rfl (by kernel_rfl) (by (try simp only [Int.toNat_natCast, Nat.mul_one, Nat.zero_add, Nat.add_zero, Nat.zero_mul, Int.reduceToNat, Nat.reduceAdd, Nat.reduceMul, Nat.reduceSub, Nat.sub_zero]); rfl)) ?_)
  first
    | (refine WJ.r rfl rfl rfl rfl rfl (ld rfl rfl .tc Try.underlying70 rfl (by rfl)) ?_)
    | (refine WJ.r rfl rfl rfl rfl rfl (ldm rfl rfl Try.underlying70 rfl ?_) ?_; (focus (first | assumption | omega | (simp <;> omega) | (simp; done))))
    | (refine WJ.r rfl rfl rfl rfl rfl (ldom rfl rfl Try.underlying70 rfl ?_) ?_; (focus (first | assumption | omega | (simp <;> omega) | (simp; done))))
  refine WJ.r rfl rfl rfl rfl rfl (rd_cap rfl rfl Try.underlying70) ?_
  first
    | (refine WJ.r rfl rfl rfl rfl rfl (rd_mul64ln rfl rfl rfl ?_) ?_; (focus (first | assumption | omega | (simp <;> omega) | (simp; done))))
    | (refine WJ.r rfl rfl rfl rfl rfl (rd_mul64 rfl rfl rfl ?_) ?_; (focus (first | assumption | omega | (simp <;> omega) | (simp; done))))
  refine WJ.r rfl rfl rfl rfl rfl (rd_move rfl rfl) ?_
  first
    | (refine WJ.r rfl rfl rfl rfl rfl (rd_add64n rfl rfl rfl ?_) ?_; (focus (first | assumption | omega | (simp <;> omega) | (simp; done))))
    | (refine WJ.r rfl rfl rfl rfl rfl (rd_add64 rfl rfl rfl ?_) ?_; (focus (first | assumption | omega | (simp <;> omega) | (simp; done))))
  refine WJ.g rfl rfl rfl rfl rfl (og_mnzJ rfl (ps := #[]) (k := k) (by show some (Value.int .i64 ((2 * 0 + k : Nat) : Int)) = _; simp) Try.func56 (by kernel_rfl) (by kernel_rfl) (by kernel_rfl) (by kernel_rfl) Try.underlying70 (by omega)) ?_
  rintro ⟨b1, cs1⟩ hle; dsimp only at hle ⊢
  refine WJ.r rfl rfl rfl rfl rfl (rd_move rfl rfl) ?_
  refine WJ.r rfl rfl rfl rfl rfl (rd_nil rfl rfl) ?_
  first
    | (refine WJ.r rfl rfl rfl rfl rfl (rd_fa rfl rfl Try.underlying72 rfl (by kernel_rfl) (by (try simp only [Int.toNat_natCast, Nat.mul_one, Nat.zero_add, Nat.add_zero, Nat.zero_mul, Int.reduceToNat, Nat.reduceAdd, Nat.reduceMul, Nat.reduceSub, Nat.sub_zero]); rfl)) ?_)
    | (refine WJ.r rfl rfl rfl rfl rfl (faf rfl rfl Try.underlying72 rfl (by kernel_rfl) (by (try simp only [Int.toNat_natCast, Nat.mul_one, Nat.zero_add, Nat.add_zero, Nat.zero_mul, Int.reduceToNat, Nat.reduceAdd, Nat.reduceMul, Nat.reduceSub, Nat.sub_zero]); rfl)) ?_)
  first
    | (refine WJ.r rfl rfl rfl rfl rfl (ld rfl rfl .tc Try.underlying70 rfl (by rfl)) ?_)
    | (refine WJ.r rfl rfl rfl rfl rfl (ldm rfl rfl Try.underlying70 rfl ?_) ?_; (focus (first | assumption | omega | (simp <;> omega) | (simp; done))))
    | (refine WJ.r rfl rfl rfl rfl rfl (ldom rfl rfl Try.underlying70 rfl ?_) ?_; (focus (first | assumption | omega | (simp <;> omega) | (simp; done))))
  refine WJ.r rfl rfl rfl rfl rfl (rd_len rfl rfl Try.underlying70) ?_
  refine WJ.r rfl rfl rfl rfl rfl (rd_slt rfl rfl rfl Try.underlying70 (by kernel_rfl : _ = some 1) ?_ (by (try simp only [Int.toNat_natCast, Nat.mul_one, Nat.zero_add, Nat.add_zero, Nat.zero_mul, Int.reduceToNat, Nat.reduceAdd, Nat.reduceMul, Nat.reduceSub, Nat.sub_zero]); rfl)) ?_
  · first | assumption | omega | (simp <;> omega) | (simp; done)
  refine WJ.r rfl rfl rfl rfl rfl (rd_assign rfl rfl) ?_
  refine WJ.nil ?_
  refine WL.nt ?_
  refine WC.sr ?_
  refine WL.r rfl rfl rfl (rd_move rfl rfl) ?_
  refine WL.r rfl rfl rfl (rd_move rfl rfl) ?_
  refine WL.r rfl rfl rfl (rd_nil rfl rfl) ?_
  first
    | (refine WL.r rfl rfl rfl (rd_fa rfl rfl Try.underlying72 rfl (by kernel_rfl) (by (try simp only [Int.toNat_natCast, Nat.mul_one, Nat.zero_add, Nat.add_zero, Nat.zero_mul, Int.reduceToNat, Nat.reduceAdd, Nat.reduceMul, Nat.reduceSub, Nat.sub_zero]); rfl)) ?_)
    | (refine WL.r rfl rfl rfl (faf rfl rfl Try.underlying72 rfl (by kernel_rfl) (by (try simp only [Int.toNat_natCast, Nat.mul_one, Nat.zero_add, Nat.add_zero, Nat.zero_mul, Int.reduceToNat, Nat.reduceAdd, Nat.reduceMul, Nat.reduceSub, Nat.sub_zero]); rfl)) ?_)
  first
    | (refine WL.r rfl rfl rfl (ld rfl rfl .tc Try.underlying70 rfl (by rfl)) ?_)
    | (refine WL.r rfl rfl rfl (ldm rfl rfl Try.underlying70 rfl ?_) ?_; (focus (first | assumption | omega | (simp <;> omega) | (simp; done))))
    | (refine WL.r rfl rfl rfl (ldom rfl rfl Try.underlying70 rfl ?_) ?_; (focus (first | assumption | omega | (simp <;> omega) | (simp; done))))
  refine WL.g rfl rfl rfl (cpyl rfl rfl rfl .tc Try.underlying70 (by kernel_rfl) (by rfl) rfl (fun _ _ => sl_nil) (by simp) (by simp) (by simp; rfl)) ?_
  intro _
  refine WL.nt ?_
  refine WC.region ?_
  refine WL.r rfl rfl rfl (rd_move rfl rfl) ?_
  refine WL.r rfl rfl rfl (rd_move rfl rfl) ?_
  refine WL.r rfl rfl rfl (rd_nil rfl rfl) ?_
  first
    | (refine WL.r rfl rfl rfl (rd_fa rfl rfl Try.underlying72 rfl (by kernel_rfl) (by (try simp only [Int.toNat_natCast, Nat.mul_one, Nat.zero_add, Nat.add_zero, Nat.zero_mul, Int.reduceToNat, Nat.reduceAdd, Nat.reduceMul, Nat.reduceSub, Nat.sub_zero]); rfl)) ?_)
    | (refine WL.r rfl rfl rfl (faf rfl rfl Try.underlying72 rfl (by kernel_rfl) (by (try simp only [Int.toNat_natCast, Nat.mul_one, Nat.zero_add, Nat.add_zero, Nat.zero_mul, Int.reduceToNat, Nat.reduceAdd, Nat.reduceMul, Nat.reduceSub, Nat.sub_zero]); rfl)) ?_)
  refine WL.g0 rfl rfl (st rfl rfl rfl .tc (by kernel_rfl) rfl ?_ rfl) ?_
  · first | decide | (simp; done) | (simp <;> omega)
  intro _
  refine WL.nil ?_
  refine WX.ret_normal ?_
  exact WX.retN rfl .nil fun w' hS => ⟨(b1, cs1), rfl, by simpa using hle, st_swap hS⟩
theorem Grow_c {bb : Nat} {k : Nat} {rr : List Ent} {ok : Nat → Prop} {w0 : World} {fs : List Fact} {w : World} (hS0 : St ok w0 (⟨some bb, [.pointer none, .slice none 0 0], 72⟩ :: rr) (fs) w) (hk : k ≤ 1000000000) :
    Calls Try.prog 40 #[.pointer (some ⟨bb, 0, none⟩), .int .i64 (k : Int)] w fun e w' => ∃ g : Gr, e = .returned (.tuple #[]) ∧ BOk bb (some ⟨bb, 0, none⟩) g.ob [] g.sp g.cap ∧ St ok w0 (BD bb (some ⟨bb, 0, none⟩) g.ob [] g.sp g.cap rr) fs w' := by
  refine enter (S := St ok w0 (⟨some bb, [.pointer none, .slice none 0 0], 72⟩ :: rr) (fs)) (L := [(0, .pointer (some ⟨bb, 0, none⟩)), (1, .int .i64 (k : Int))]) Try.func40 rfl Try.ntmps40 rfl (args_cons rfl (args_cons rfl (args_nil _))) hS0 ?_
  refine WC.sr ?_
  refine WL.r rfl rfl rfl (rd_move rfl rfl) ?_
  refine WL.g rfl rfl rfl (og_call rfl rfl (by kernel_rfl) (fun w hS => cc_ok bb none (.inl rfl) _ w hS)) ?_
  intro _
  refine WL.nt ?_
  refine WC.seq ?_
  refine WC.sr ?_
  refine WL.r rfl rfl rfl (rd_move rfl rfl) ?_
  refine WL.r rfl rfl rfl (rd_lss rfl rfl rfl) ?_
  refine WL.nt ?_
  refine WC.cond rfl (fun hc7 => by exfalso; (try simp only [decide_eq_true_eq, decide_eq_false_iff_not, Bool.not_eq_true', Bool.not_eq_false', Bool.not_not, Int.not_lt, Int.not_le] at hc7); omega) (fun hc7 => ?_)
  (try simp only [decide_eq_true_eq, decide_eq_false_iff_not, Bool.not_eq_true', Bool.not_eq_false', Bool.not_not, Int.not_lt, Int.not_le] at hc7)
  refine WC.skip ?_
  refine WX.then_normal ?_
  refine WC.seq ?_
  refine WC.free0 [0, 1, 2, 3, 4, 5, 6, 7, 8, 9, 10, 11, 12] [] [0, 0, 0, 0, 0, 0, 0, 0, 0, 0, 0, 0, 0] (by kernel_rfl) (by kernel_rfl) rfl ?_
  refine WJ.r rfl rfl rfl rfl rfl (rd_move rfl rfl) ?_
  refine WJ.r rfl rfl rfl rfl rfl (rd_nil rfl rfl) ?_
  first
    | (refine WJ.r rfl rfl rfl rfl rfl (rd_fa rfl rfl Try.underlying72 rfl (by kernel_rfl) (by (try simp only [Int.toNat_natCast, Nat.mul_one, Nat.zero_add, Nat.add_zero, Nat.zero_mul, Int.reduceToNat, Nat.reduceAdd, Nat.reduceMul, Nat.reduceSub, Nat.sub_zero]); rfl)) ?_)
    | (refine WJ.r rfl rfl rfl rfl rfl (faf rfl rfl Try.underlying72 rfl (by kernel_rfl) (by (try simp only [Int.toNat_natCast, Nat.mul_one, Nat.zero_add, Nat.add_zero, Nat.zero_mul, Int.reduceToNat, Nat.reduceAdd, Nat.reduceMul, Nat.reduceSub, Nat.sub_zero]); rfl)) ?_)
  first
    | (refine WJ.r rfl rfl rfl rfl rfl (ld rfl rfl .tc Try.underlying70 rfl (by rfl)) ?_)
    | (refine WJ.r rfl rfl rfl rfl rfl (ldm rfl rfl Try.underlying70 rfl ?_) ?_; (focus (first | assumption | omega | (simp <;> omega) | (simp; done))))
    | (refine WJ.r rfl rfl rfl rfl rfl (ldom rfl rfl Try.underlying70 rfl ?_) ?_; (focus (first | assumption | omega | (simp <;> omega) | (simp; done))))
  refine WJ.r rfl rfl rfl rfl rfl (rd_cap rfl rfl Try.underlying70) ?_
  refine WJ.r rfl rfl rfl rfl rfl (rd_move rfl rfl) ?_
  refine WJ.r rfl rfl rfl rfl rfl (rd_nil rfl rfl) ?_
  first
    | (refine WJ.r rfl rfl rfl rfl rfl (rd_fa rfl rfl Try.underlying72 rfl (by kernel_rfl) (by (try simp only [Int.toNat_natCast, Nat.mul_one, Nat.zero_add, Nat.add_zero, Nat.zero_mul, Int.reduceToNat, Nat.reduceAdd, Nat.reduceMul, Nat.reduceSub, Nat.sub_zero]); rfl)) ?_)
    | (refine WJ.r rfl rfl rfl rfl rfl (faf rfl rfl Try.underlying72 rfl (by kernel_rfl) (by (try simp only [Int.toNat_natCast, Nat.mul_one, Nat.zero_add, Nat.add_zero, Nat.zero_mul, Int.reduceToNat, Nat.reduceAdd, Nat.reduceMul, Nat.reduceSub, Nat.sub_zero]); rfl)) ?_)
  first
    | (refine WJ.r rfl rfl rfl rfl rfl (ld rfl rfl .tc Try.underlying70 rfl (by rfl)) ?_)
    | (refine WJ.r rfl rfl rfl rfl rfl (ldm rfl rfl Try.underlying70 rfl ?_) ?_; (focus (first | assumption | omega | (simp <;> omega) | (simp; done))))
    | (refine WJ.r rfl rfl rfl rfl rfl (ldom rfl rfl Try.underlying70 rfl ?_) ?_; (focus (first | assumption | omega | (simp <;> omega) | (simp; done))))
  refine WJ.r rfl rfl rfl rfl rfl (rd_len rfl rfl Try.underlying70) ?_
  first
    | (refine WJ.r rfl rfl rfl rfl rfl (rd_sub64n rfl rfl rfl ?_) ?_; (focus (first | assumption | omega | (simp <;> omega) | (simp; done))))
    | (refine WJ.r rfl rfl rfl rfl rfl (rd_sub64 rfl rfl rfl ?_) ?_; (focus (first | assumption | omega | (simp <;> omega) | (simp; done))))
  refine WJ.r rfl rfl rfl rfl rfl (rd_move rfl rfl) ?_
  refine WJ.r rfl rfl rfl rfl rfl (rd_lss rfl rfl rfl) ?_
  refine WJ.nil ?_
  refine WL.nt ?_
  refine WC.cond rfl (fun hc21 => ?_) (fun hc21 => ?_)
  · (try simp only [decide_eq_true_eq, decide_eq_false_iff_not, Bool.not_eq_true', Bool.not_eq_false', Bool.not_not, Int.not_lt, Int.not_le] at hc21)
    refine WC.region ?_
    refine WL.r rfl rfl rfl (rd_move rfl rfl) ?_
    refine WL.r rfl rfl rfl (rd_move rfl rfl) ?_
    refine WL.g rfl rfl rfl (og_call rfl rfl (by kernel_rfl) (fun w hS => grow_c hS hk)) ?_
    rintro ⟨b1, cs1⟩; refine WL.pu ?_; intro hle; dsimp only at hle ⊢
    refine WL.nil ?_
    refine WX.ret_normal ?_
    exact WX.retN rfl .nil fun w' hS => ⟨⟨some b1, cs1.length, cs1⟩, rfl, ⟨.inr rfl, by simp, .inr (by show 0 < cs1.length; simp at hc21; omega)⟩, hS⟩
  · (try simp only [decide_eq_true_eq, decide_eq_false_iff_not, Bool.not_eq_true', Bool.not_eq_false', Bool.not_not, Int.not_lt, Int.not_le] at hc21)
    refine WC.skip ?_
    refine WX.ret_normal ?_
    exact WX.retN rfl .nil fun w' hS => ⟨⟨none, 0, []⟩, rfl, ⟨.inr rfl, rfl, .inl rfl⟩, st_swap (hS.nil _)⟩

section
variable {ok : Nat → Prop} {w0 : World} {fs : List Fact}
theorem str_s1 (bb g : Nat) (p : Option Addr) (m : List UInt8) (sp : List Value) (cap : Nat) (r : List Ent) (hm : m ≠ []) (hcap : cap = m.length + sp.length) (hml : m.length ≤ 1000000000) (w : World)
    (hS : St ok w0 (⟨some bb, [.pointer p, .slice (some ⟨g, 0, none⟩) m.length cap], 72⟩ :: ⟨some g, m.map B ++ sp, 5⟩ :: r) fs w) :
    Calls Try.prog 38 #[.pointer (some ⟨bb, 0, none⟩)] w fun e w' => ∃ _g : Unit, e = .returned (.string (S m)) ∧ St ok w0 r fs w' := by
  have hml0 : m.length ≠ 0 := by simpa using hm
  refine enter (L := [(0, .pointer (some ⟨bb, 0, none⟩))]) Try.func38 rfl Try.ntmps38 rfl (args_cons rfl (args_nil _)) hS ?_
  refine WC.seq ?_
  refine WC.region ?_
  refine WL.r rfl rfl rfl (rd_assign rfl rfl) ?_
  refine WL.nil ?_
  refine WX.then_normal ?_
  refine WC.seq ?_
  refine WC.mix [0, 0, 0, 0, 0, 0, 0, 0, 0, 0, 2, 2] (by kernel_rfl) (by kernel_rfl) (fun w h => h.draw) ?_
  refine WM.r rfl rfl rfl (rd_move rfl rfl) ?_
  refine WM.r rfl rfl rfl (rd_nil rfl rfl) ?_
  refine WM.r rfl rfl rfl (rd_fa rfl rfl Try.underlying72 rfl (by kernel_rfl) (by (try simp only [Int.toNat_natCast, Nat.mul_one, Nat.zero_add, Nat.add_zero, Nat.zero_mul, Int.reduceToNat, Nat.reduceAdd, Nat.reduceMul, Nat.reduceSub, Nat.sub_zero]); rfl)) ?_
  refine WM.r rfl rfl rfl (ld rfl rfl (by first | exact .here | exact .t1 | exact .t2 | exact .t3 | exact .t4 | exact .t5 | exact .t6 | exact .t7) Try.underlying70 rfl (by rfl)) ?_
  refine WM.r rfl rfl rfl (rd_usd rfl rfl (by omega)) ?_
  refine WM.r rfl rfl rfl (rd_move rfl rfl) ?_
  refine WM.r rfl rfl rfl (rd_nil rfl rfl) ?_
  refine WM.r rfl rfl rfl (rd_fa rfl rfl Try.underlying72 rfl (by kernel_rfl) (by (try simp only [Int.toNat_natCast, Nat.mul_one, Nat.zero_add, Nat.add_zero, Nat.zero_mul, Int.reduceToNat, Nat.reduceAdd, Nat.reduceMul, Nat.reduceSub, Nat.sub_zero]); rfl)) ?_
  refine WM.r rfl rfl rfl (ld rfl rfl (by first | exact .here | exact .t1 | exact .t2 | exact .t3 | exact .t4 | exact .t5 | exact .t6 | exact .t7) Try.underlying70 rfl (by rfl)) ?_
  refine WM.r rfl rfl rfl (rd_len rfl rfl Try.underlying70) ?_
  refine WM.h rfl rfl rfl (og_us rfl rfl rfl Try.underlying87 (by kernel_rfl) hm (by omega)) ?_
  intro _
  refine WM.hr rfl rfl rfl (rd_assign rfl rfl) ?_
  refine WM.nil ?_
  refine WX.then_normal ?_
  refine WC.ret ?_
  exact WX.ret1 rfl rfl fun w' hS => ⟨(), rfl, hS.sub (List.sublist_cons_self _ _) (fun _ h => h)⟩
theorem str_s0 (bb g : Nat) (p : Option Addr) (cs : List Value) (cap : Nat) (r : List Ent) (hcap : 0 < cap) (w : World)
    (hS : St ok w0 (⟨some bb, [.pointer p, .slice (some ⟨g, 0, none⟩) 0 cap], 72⟩ :: ⟨some g, cs, 5⟩ :: r) fs w) :
    Calls Try.prog 38 #[.pointer (some ⟨bb, 0, none⟩)] w fun e w' => ∃ _g : Unit, e = .returned (.string (S [])) ∧ St ok w0 r fs w' := by
  refine enter (L := [(0, .pointer (some ⟨bb, 0, none⟩))]) Try.func38 rfl Try.ntmps38 rfl (args_cons rfl (args_nil _)) hS ?_
  refine WC.seq ?_
  refine WC.region ?_
  refine WL.r rfl rfl rfl (rd_assign rfl rfl) ?_
  refine WL.nil ?_
  refine WX.then_normal ?_
  refine WC.seq ?_
  refine WC.mix [0, 0, 0, 0, 0, 0, 0, 0, 0, 0, 0, 0] (by kernel_rfl) (by kernel_rfl) (fun w h => h.draw) ?_
  refine WM.r rfl rfl rfl (rd_move rfl rfl) ?_
  refine WM.r rfl rfl rfl (rd_nil rfl rfl) ?_
  refine WM.r rfl rfl rfl (rd_fa rfl rfl Try.underlying72 rfl (by kernel_rfl) (by (try simp only [Int.toNat_natCast, Nat.mul_one, Nat.zero_add, Nat.add_zero, Nat.zero_mul, Int.reduceToNat, Nat.reduceAdd, Nat.reduceMul, Nat.reduceSub, Nat.sub_zero]); rfl)) ?_
  refine WM.r rfl rfl rfl (ld rfl rfl (by first | exact .here | exact .t1 | exact .t2 | exact .t3 | exact .t4 | exact .t5 | exact .t6 | exact .t7) Try.underlying70 rfl (by rfl)) ?_
  refine WM.r rfl rfl rfl (rd_usd rfl rfl (by omega)) ?_
  refine WM.r rfl rfl rfl (rd_move rfl rfl) ?_
  refine WM.r rfl rfl rfl (rd_nil rfl rfl) ?_
  refine WM.r rfl rfl rfl (rd_fa rfl rfl Try.underlying72 rfl (by kernel_rfl) (by (try simp only [Int.toNat_natCast, Nat.mul_one, Nat.zero_add, Nat.add_zero, Nat.zero_mul, Int.reduceToNat, Nat.reduceAdd, Nat.reduceMul, Nat.reduceSub, Nat.sub_zero]); rfl)) ?_
  refine WM.r rfl rfl rfl (ld rfl rfl (by first | exact .here | exact .t1 | exact .t2 | exact .t3 | exact .t4 | exact .t5 | exact .t6 | exact .t7) Try.underlying70 rfl (by rfl)) ?_
  refine WM.r rfl rfl rfl (rd_len rfl rfl Try.underlying70) ?_
  refine WM.r rfl rfl rfl (rd_us0 rfl rfl rfl) ?_
  refine WM.r rfl rfl rfl (rd_assign rfl rfl) ?_
  refine WM.nil ?_
  refine WX.then_normal ?_
  refine WC.ret ?_
  exact WX.ret1 rfl rfl fun w' hS => ⟨(), rfl, hS.sub ((List.sublist_cons_self _ _).trans (List.sublist_cons_self _ _)) (fun _ h => h)⟩
theorem str_c {bb : Nat} {p : Option Addr} {ob : Option Nat} {m : List UInt8} {sp : List Value} {cap : Nat} {r : List Ent} {w : World} (hS : St ok w0 (BD bb p ob m sp cap r) fs w) (hB : BOk bb p ob m sp cap) (hml : m.length ≤ 1000000000) :
    Calls Try.prog 38 #[.pointer (some ⟨bb, 0, none⟩)] w fun e w' => ∃ _g : Unit, e = .returned (.string (S m)) ∧ St ok w0 r fs w' := by
  obtain ⟨hp, hcap, hz⟩ := hB
  cases ob with
  | none =>
    have hcs : m.map B ++ sp = [] := hS.own_ ⟨none, m.map B ++ sp, 5⟩ (by simp)
    obtain ⟨h1, rfl⟩ : m.map B = [] ∧ sp = [] := by simpa using hcs
    obtain rfl : m = [] := by simpa using h1
    obtain rfl : cap = 0 := by simpa using hcap
    exact (str_nil bb p w hS).mono fun _ _ ⟨g, he, hs⟩ => ⟨g, he, hs.sub ((List.sublist_cons_self _ _).trans (List.sublist_cons_self _ _)) (fun _ h => h)⟩
  | some g =>
    by_cases hm : m = []
    · subst hm; exact str_s0 bb g p _ cap r (hz.resolve_left (by simp)) w hS
    · exact str_s1 bb g p m sp cap r hm hcap hml w hS
end
end Go.Proofs.Ytijamoagkmjcjaa
