/-
  strings.Builder, as one of the caller's own variables: WriteByte, String.
-/
import Derived.Test.YtijamoagkmjcjaaHash3
import Derived.Test.YtijamoagkmjcjaaAux
import Derived.Lib.Builder
import Derived.Lib.UnsafeStr
namespace Go.Proofs.Ytijamoagkmjcjaa
set_option linter.unusedSimpArgs false
set_option linter.unusedVariables false
set_option maxRecDepth 20000
open Go.RowKit

section
variable {ds : List Deferred} {ρ : Option Nat} {P : Program} {o : Oper} {n : Nat} {L : Slots} {ok : Nat → Prop} {w0 : World} {own : List Ent} {fs : List Fact} {x y : Operand} {v : Value} {t t2 e : TypeId} {b off : Nat} {cs : List Value} {T : TypeId} {Z : World → Prop}

theorem guard_ptr (op : BinOp) (p q : Option Addr) (w : World) : (eqGuard op t x y (.pointer p) (.pointer q)).run P w = .ok () w := by
  cases op <;> simp [eqGuard]
theorem rd_pnil {p : Option Addr} (hop : o.op = .binOp .eql t x y t2) (hx : oper L x = some (.pointer p)) (hy : oper L y = some (.pointer none)) (hu : P.underlying t = some (.pointer (P.pointee t))) : Rd ds P o n L Z (.bool p.isNone) :=
  run_bin hop hx hy (guard_ptr _ _ _) fun w => run_eql_pointer_nil w t p hu
theorem rd_pne {a : Addr} {j : TypeInfo} (hop : o.op = .binOp .neq t x y t2) (hx : oper L x = some (.pointer (some a))) (hy : oper L y = some (.pointer (some a))) (hu : P.underlying t = some (.pointer e)) (hi : P.info? e = some j) : Rd ds P o n L Z (.bool false) :=
  run_bin hop hx hy (guard_ptr _ _ _) fun w => Lib.run_neq_ptr_same w a hu hi

theorem St.shape {w : World} (hS : St ok w0 own fs w) (hk : InE own ⟨some b, cs, T⟩) : w.shape? b = some (T, cs.length) := by
  obtain ⟨kk, hk⟩ := hk.get
  simp [World.shape?, hS.block hk]
theorem rd_tou {j : TypeInfo} (hop : o.op = .convert t t2 x) (hx : oper L x = some (.pointer (some ⟨b, off, none⟩))) (hk : InE own ⟨some b, cs, T⟩) (hs : P.underlying t = some (.pointer e)) (hd : P.underlying t2 = some .unsafePointer) (hi : P.info? e = some j) (hj : j.size ≠ 0) (hoff : off < cs.length) : Rd ds P o n L (St ok w0 own fs) (.pointer (some ⟨b, off, none⟩)) :=
  run_conv hop hx fun w hS => Lib.run_to_unsafe w ⟨b, off, none⟩ hs hd hi hj (hS.shape hk) hoff
theorem rd_fromu {j : TypeInfo} (hop : o.op = .convert t t2 x) (hx : oper L x = some (.pointer (some ⟨b, off, none⟩))) (hk : InE own ⟨some b, cs, T⟩) (hs : P.underlying t = some .unsafePointer) (hd : P.underlying t2 = some (.pointer e)) (hi : P.info? e = some j) (hl : liesAt P P.depth T (cs.length / P.cellsOf T) off e 1 = true) : Rd ds P o n L (St ok w0 own fs) (.pointer (some ⟨b, off, none⟩)) :=
  run_conv hop hx fun w hS => Lib.run_from_unsafe w ⟨b, off, none⟩ hs hd hi (hS.shape hk) hl
theorem rd_noesc {f : FuncId} {tys : Array TypeId} (hop : o.op = .call { callee := .value (.func f), args := #[x], argTypes := tys }) (hx : oper L x = some v) (hrun : ∀ w : World, (callFunc f #[v]).run P w = .ok (.value v) w) : Rd ds P o n L Z v :=
  rd_run fun a hF w _ => by
    simp only [execOp, hop, resolve, Act.eval, Deferred.ofValue, invoke]
    simp [hF.eval hx, hrun]
theorem rd_usd {a : Addr} {m c : Nat} {tys : Array TypeId} (hop : o.op = .call { callee := .builtin .unsafeSliceData, args := #[x], argTypes := tys }) (hx : oper L x = some (.slice (some a) m c)) (hc : c ≠ 0) : Rd ds P o n L Z (.pointer (some a)) :=
  rd_run fun ac hF w _ => by
    have := Lib.run_unsafeSliceData_row (P := P) w tys o.type a m c hc
    simp [execOp, hop, resolve, invoke, builtin, hF.eval hx, this]
theorem rd_usd0 {m c : Nat} {tys : Array TypeId} (hop : o.op = .call { callee := .builtin .unsafeSliceData, args := #[x], argTypes := tys }) (hx : oper L x = some (.slice none m c)) : Rd ds P o n L Z (.pointer none) :=
  rd_run fun ac hF w _ => by
    have := Lib.run_unsafeSliceData_nil (P := P) w tys o.type m c
    simp [execOp, hop, resolve, invoke, builtin, hF.eval hx, this]
theorem rd_us0 {p : Option Addr} {pt it : TypeId} (hop : o.op = .call { callee := .builtin .unsafeString, args := #[x, y], argTypes := #[pt, it] }) (hx : oper L x = some (.pointer p)) (hy : oper L y = some (.int .i64 0)) : Rd ds P o n L Z (.string (S [])) :=
  rd_run fun ac hF w _ => by
    have := Lib.run_unsafeString_none (P := P) w pt it o.type p
    simp [execOp, hop, resolve, invoke, builtin, hF.eval hx, hF.eval hy, this, S]
    rfl

/-- a block's bytes become a string: the block is given up -/
theorem St.drop_freeze {w : World} {r : List Ent} {n : Nat} (h : St ok w0 (⟨some b, cs, T⟩ :: r) fs w) : St ok w0 r fs (w.freeze ⟨b, 0, none⟩ n) := by
  have h' := h.sub (own' := r) (fs' := fs) (List.sublist_cons_self _ _) (fun _ h => h)
  have hb : w0.heap.size ≤ b := (h.lt (b := b) (mem_ids (x := ⟨some b, cs, T⟩) (by simp) rfl)).1
  have hnb : b ∉ ids r := (List.nodup_cons.1 (show (b :: ids r).Nodup from h.nd)).1
  have hoth : ∀ k, k ≠ b → (w.freeze ⟨b, 0, none⟩ n).heap[k]? = w.heap[k]? := fun k hk => by
    unfold World.freeze
    split
    · rfl
    · simp only [Array.getElem?_modify]; rw [if_neg (by omega)]
  have hsz : (w.freeze ⟨b, 0, none⟩ n).heap.size = w.heap.size := by unfold World.freeze; split <;> simp
  refine ⟨h'.okn, Lib.below_freeze h'.below hb n, fun x hx => Ent.holds_same (h'.own_ x hx) fun c hc => hoth c (fun e => hnb (by rw [← e]; exact mem_ids hx hc)), h'.nd, fun f hf => ?_⟩
  have hf' := h.fact f hf
  refine f.mono (ok := fun c => ok c ∧ c ∉ ids (⟨some b, cs, T⟩ :: r)) (fun c hc => ⟨hc.1, fun hm => hc.2 (List.mem_cons_of_mem b hm)⟩) ?_
  exact f.stable hf' (by rw [hsz]; exact Nat.le_refl _) fun c _ hc => hoth c (fun e => hc.2 (by rw [e]; exact List.mem_cons_self))

theorem og_us {m : List UInt8} {pt it : TypeId} {r : List Ent} {sp : List Value} {q : Ent} (hop : o.op = .call { callee := .builtin .unsafeString, args := #[x, y], argTypes := #[pt, it] }) (hx : oper L x = some (.pointer (some ⟨b, 0, none⟩))) (hy : oper L y = some (.int .i64 (m.length : Int))) (hp : P.underlying pt = some (.pointer e)) (hc : P.cellsOf e = 1) (h0 : m ≠ []) (h63 : m.length ≤ 9223372036854775807) :
    Og ds P o n L (St ok w0 (q :: ⟨some b, m.map B ++ sp, e⟩ :: r) fs) (fun _ : Unit => .string (S m)) (fun _ => St ok w0 (q :: r) fs) :=
  og_run fun a hF w hS => by
    have hsh := hS.shape (b := b) (cs := m.map B ++ sp) (T := e) .t1
    have hbk : w.heap[b]? = some (.cells (m.map B ++ sp).toArray e (0, 0)) := hS.block (k := 1) rfl
    have hrun := Lib.run_unsafeString_row (P := P) w pt it o.type e hp hc b _ hsh m h0 (by simp) h63 (fun j c hj => by
      rw [Addr.add_lit, Nat.zero_add, block_cell hbk]; exact map_cell m B sp j c hj)
    refine ⟨(), w.freeze ⟨b, 0, none⟩ m.length, .inl ?_, ?_⟩
    · simp [execOp, hop, resolve, invoke, builtin, hF.eval hx, hF.eval hy, hrun]; rfl
    · -- the entry is brought to the front
      exact (st_swap hS).drop_freeze
end

section
variable {ok : Nat → Prop} {w0 : World} {r : List Ent} {fs : List Fact}

theorem cc_none (bb : Nat) (v : Value) (w : World) (hS : St ok w0 (⟨some bb, [.pointer none, v], 72⟩ :: r) fs w) :
    Calls Try.prog 48 #[.pointer (some ⟨bb, 0, none⟩)] w fun e w' => ∃ _g : Unit, e = .returned (.tuple #[]) ∧ St ok w0 (⟨some bb, [.pointer (some ⟨bb, 0, none⟩), v], 72⟩ :: r) fs w' := by
  obtain ⟨j, hj, hj2⟩ : ∃ j, Try.prog.info? 72 = some j ∧ j.size ≠ 0 := by
    have h : (Try.prog.info? 72).map (·.size) = some 2 := by kernel_rfl
    obtain ⟨j, h1, h2⟩ := Option.map_eq_some_iff.1 h
    exact ⟨j, h1, by omega⟩
  refine enter (L := [(0, .pointer (some ⟨bb, 0, none⟩))]) Try.func48 rfl Try.ntmps48 rfl (args_cons rfl (args_nil _)) hS ?_
  refine WC.seq ?_
  refine WC.region ?_
  refine WL.r rfl rfl rfl (rd_move rfl rfl) ?_
  refine WL.r rfl rfl rfl (rd_nil rfl rfl) ?_
  refine WL.r rfl rfl rfl (rd_fa rfl rfl Try.underlying72 rfl (by kernel_rfl) (by (try simp only [Int.toNat_natCast, Nat.mul_one, Nat.zero_add, Nat.add_zero, Nat.zero_mul, Int.reduceToNat, Nat.reduceAdd, Nat.reduceMul, Nat.reduceSub, Nat.sub_zero]); rfl)) ?_
  refine WL.r rfl rfl rfl (ld rfl rfl (by first | exact .here | exact .t1 | exact .t2 | exact .t3 | exact .t4 | exact .t5 | exact .t6 | exact .t7) Try.underlying69 rfl (by rfl)) ?_
  refine WL.r rfl rfl rfl (rd_pnil rfl rfl rfl (by kernel_rfl)) ?_
  refine WL.set 6 rfl (v' := .bool true) (by rfl) ?_
  refine WL.nil ?_
  refine WX.then_normal ?_
  refine WC.cond rfl (fun _ => ?_) (fun h => by cases h)
  refine WC.region ?_
  refine WL.r rfl rfl rfl (rd_move rfl rfl) ?_
  refine WL.r rfl rfl rfl (rd_move rfl rfl) ?_
  refine WL.r rfl rfl rfl (rd_tou rfl rfl (by first | exact .here) Try.underlying69 Try.underlying96 hj hj2 (by simp)) ?_
  refine WL.r rfl rfl rfl (rd_noesc rfl rfl (fun w => by kernel_rfl)) ?_
  refine WL.r rfl rfl rfl (rd_fromu rfl rfl (by first | exact .here) Try.underlying96 Try.underlying69 hj (by kernel_rfl)) ?_
  refine WL.r rfl rfl rfl (rd_nil rfl rfl) ?_
  refine WL.r rfl rfl rfl (rd_fa rfl rfl Try.underlying72 rfl (by kernel_rfl) (by (try simp only [Int.toNat_natCast, Nat.mul_one, Nat.zero_add, Nat.add_zero, Nat.zero_mul, Int.reduceToNat, Nat.reduceAdd, Nat.reduceMul, Nat.reduceSub, Nat.sub_zero]); rfl)) ?_
  refine WL.g0 rfl rfl (st rfl rfl rfl (by first | exact .here | exact .t1 | exact .t2 | exact .t3 | exact .t4 | exact .t5 | exact .t6 | exact .t7) (by kernel_rfl) rfl ?_ rfl) ?_
  · first | decide | (simp; done) | (simp; omega)
  intro _
  refine WL.nil ?_
  refine WX.ret_normal ?_
  exact WX.ret0 rfl fun w' hS => ⟨(), rfl, hS⟩

theorem cc_some (bb : Nat) (v : Value) (w : World) (hS : St ok w0 (⟨some bb, [.pointer (some ⟨bb, 0, none⟩), v], 72⟩ :: r) fs w) :
    Calls Try.prog 48 #[.pointer (some ⟨bb, 0, none⟩)] w fun e w' => ∃ _g : Unit, e = .returned (.tuple #[]) ∧ St ok w0 (⟨some bb, [.pointer (some ⟨bb, 0, none⟩), v], 72⟩ :: r) fs w' := by
  obtain ⟨j, hj⟩ : ∃ j, Try.prog.info? 72 = some j := by
    have h : (Try.prog.info? 72).map (·.size) = some 2 := by kernel_rfl
    obtain ⟨j, h1, h2⟩ := Option.map_eq_some_iff.1 h
    exact ⟨j, h1⟩
  refine enter (L := [(0, .pointer (some ⟨bb, 0, none⟩))]) Try.func48 rfl Try.ntmps48 rfl (args_cons rfl (args_nil _)) hS ?_
  refine WC.seq ?_
  refine WC.region ?_
  refine WL.r rfl rfl rfl (rd_move rfl rfl) ?_
  refine WL.r rfl rfl rfl (rd_nil rfl rfl) ?_
  refine WL.r rfl rfl rfl (rd_fa rfl rfl Try.underlying72 rfl (by kernel_rfl) (by (try simp only [Int.toNat_natCast, Nat.mul_one, Nat.zero_add, Nat.add_zero, Nat.zero_mul, Int.reduceToNat, Nat.reduceAdd, Nat.reduceMul, Nat.reduceSub, Nat.sub_zero]); rfl)) ?_
  refine WL.r rfl rfl rfl (ld rfl rfl (by first | exact .here | exact .t1 | exact .t2 | exact .t3 | exact .t4 | exact .t5 | exact .t6 | exact .t7) Try.underlying69 rfl (by rfl)) ?_
  refine WL.r rfl rfl rfl (rd_pnil rfl rfl rfl (by kernel_rfl)) ?_
  refine WL.set 6 rfl (v' := .bool false) (by rfl) ?_
  refine WL.nil ?_
  refine WX.then_normal ?_
  refine WC.cond rfl (fun h => by cases h) (fun _ => ?_)
  refine WC.seq ?_
  refine WC.region ?_
  refine WL.r rfl rfl rfl (rd_move rfl rfl) ?_
  refine WL.r rfl rfl rfl (rd_nil rfl rfl) ?_
  refine WL.r rfl rfl rfl (rd_fa rfl rfl Try.underlying72 rfl (by kernel_rfl) (by (try simp only [Int.toNat_natCast, Nat.mul_one, Nat.zero_add, Nat.add_zero, Nat.zero_mul, Int.reduceToNat, Nat.reduceAdd, Nat.reduceMul, Nat.reduceSub, Nat.sub_zero]); rfl)) ?_
  refine WL.r rfl rfl rfl (ld rfl rfl (by first | exact .here | exact .t1 | exact .t2 | exact .t3 | exact .t4 | exact .t5 | exact .t6 | exact .t7) Try.underlying69 rfl (by rfl)) ?_
  refine WL.r rfl rfl rfl (rd_move rfl rfl) ?_
  refine WL.r rfl rfl rfl (rd_pne rfl rfl rfl Try.underlying69 hj) ?_
  refine WL.set 19 rfl (v' := .bool false) (by rfl) ?_
  refine WL.nil ?_
  refine WX.then_normal ?_
  refine WC.cond rfl (fun h => by cases h) (fun _ => ?_)
  refine WC.skip ?_
  refine WX.ret_normal ?_
  exact WX.ret0 rfl fun w' hS => ⟨(), rfl, hS⟩

theorem cc_ok (bb : Nat) (p : Option Addr) (hp : p = none ∨ p = some ⟨bb, 0, none⟩) (v : Value) (w : World) (hS : St ok w0 (⟨some bb, [.pointer p, v], 72⟩ :: r) fs w) :
    Calls Try.prog 48 #[.pointer (some ⟨bb, 0, none⟩)] w fun e w' => ∃ _g : Unit, e = .returned (.tuple #[]) ∧ St ok w0 (⟨some bb, [.pointer (some ⟨bb, 0, none⟩), v], 72⟩ :: r) fs w' := by
  rcases hp with rfl | rfl
  · exact cc_none bb v w hS
  · exact cc_some bb v w hS

theorem str_some (bb g : Nat) (m : List UInt8) (sp : List Value) (cap : Nat) (hm : m ≠ []) (hcap : cap = m.length + sp.length) (hml : m.length ≤ 1000000000) (w : World)
    (hS : St ok w0 (⟨some bb, [.pointer (some ⟨bb, 0, none⟩), .slice (some ⟨g, 0, none⟩) m.length cap], 72⟩ :: ⟨some g, m.map B ++ sp, 5⟩ :: r) fs w) :
    Calls Try.prog 38 #[.pointer (some ⟨bb, 0, none⟩)] w fun e w' => ∃ _g : Unit, e = .returned (.string (S m)) ∧
      St ok w0 (⟨some bb, [.pointer (some ⟨bb, 0, none⟩), .slice (some ⟨g, 0, none⟩) m.length cap], 72⟩ :: r) fs w' := by
  have hml0 : m.length ≠ 0 := by simpa using hm
  refine enter (L := [(0, .pointer (some ⟨bb, 0, none⟩))]) Try.func38 rfl Try.ntmps38 rfl (args_cons rfl (args_nil _)) hS ?_
  refine WC.seq ?_
  refine WC.region ?_
  refine WL.r rfl rfl rfl (rd_assign rfl rfl) ?_
  refine WL.nil ?_
  refine WX.then_normal ?_
  refine WC.seq ?_
  refine WC.mix [0, 0, 0, 0, 0, 0, 0, 0, 0, 0, 2, 2] (by kernel_rfl) (by kernel_rfl) (fun w h => h.draw) ?_
  refine WM.r rfl rfl rfl (rd_move rfl rfl) ?_
  refine WM.r rfl rfl rfl (rd_nil rfl rfl) ?_
  refine WM.r rfl rfl rfl (rd_fa rfl rfl Try.underlying72 rfl (by kernel_rfl) (by (try simp only [Int.toNat_natCast, Nat.mul_one, Nat.zero_add, Nat.add_zero, Nat.zero_mul, Int.reduceToNat, Nat.reduceAdd, Nat.reduceMul, Nat.reduceSub, Nat.sub_zero]); rfl)) ?_
  refine WM.r rfl rfl rfl (ld rfl rfl (by first | exact .here | exact .t1 | exact .t2 | exact .t3 | exact .t4 | exact .t5 | exact .t6 | exact .t7) Try.underlying70 rfl (by rfl)) ?_
  refine WM.r rfl rfl rfl (rd_usd rfl rfl (by omega)) ?_
  refine WM.r rfl rfl rfl (rd_move rfl rfl) ?_
  refine WM.r rfl rfl rfl (rd_nil rfl rfl) ?_
  refine WM.r rfl rfl rfl (rd_fa rfl rfl Try.underlying72 rfl (by kernel_rfl) (by (try simp only [Int.toNat_natCast, Nat.mul_one, Nat.zero_add, Nat.add_zero, Nat.zero_mul, Int.reduceToNat, Nat.reduceAdd, Nat.reduceMul, Nat.reduceSub, Nat.sub_zero]); rfl)) ?_
  refine WM.r rfl rfl rfl (ld rfl rfl (by first | exact .here | exact .t1 | exact .t2 | exact .t3 | exact .t4 | exact .t5 | exact .t6 | exact .t7) Try.underlying70 rfl (by rfl)) ?_
  refine WM.r rfl rfl rfl (rd_len rfl rfl Try.underlying70) ?_
  refine WM.h rfl rfl rfl (og_us rfl rfl rfl Try.underlying87 (by kernel_rfl) hm (by omega)) ?_
  intro _
  refine WM.hr rfl rfl rfl (rd_assign rfl rfl) ?_
  refine WM.nil ?_
  refine WX.then_normal ?_
  refine WC.ret ?_
  exact WX.ret1 rfl rfl fun w' hS => ⟨(), rfl, hS⟩

theorem str_nil (bb : Nat) (p : Option Addr) (w : World)
    (hS : St ok w0 (⟨some bb, [.pointer p, .slice none 0 0], 72⟩ :: r) fs w) :
    Calls Try.prog 38 #[.pointer (some ⟨bb, 0, none⟩)] w fun e w' => ∃ _g : Unit, e = .returned (.string (S [])) ∧
      St ok w0 (⟨some bb, [.pointer p, .slice none 0 0], 72⟩ :: r) fs w' := by
  refine enter (L := [(0, .pointer (some ⟨bb, 0, none⟩))]) Try.func38 rfl Try.ntmps38 rfl (args_cons rfl (args_nil _)) hS ?_
  refine WC.seq ?_
  refine WC.region ?_
  refine WL.r rfl rfl rfl (rd_assign rfl rfl) ?_
  refine WL.nil ?_
  refine WX.then_normal ?_
  refine WC.seq ?_
  refine WC.mix [0, 0, 0, 0, 0, 0, 0, 0, 0, 0, 0, 0] (by kernel_rfl) (by kernel_rfl) (fun w h => h.draw) ?_
  refine WM.r rfl rfl rfl (rd_move rfl rfl) ?_
  refine WM.r rfl rfl rfl (rd_nil rfl rfl) ?_
  refine WM.r rfl rfl rfl (rd_fa rfl rfl Try.underlying72 rfl (by kernel_rfl) (by (try simp only [Int.toNat_natCast, Nat.mul_one, Nat.zero_add, Nat.add_zero, Nat.zero_mul, Int.reduceToNat, Nat.reduceAdd, Nat.reduceMul, Nat.reduceSub, Nat.sub_zero]); rfl)) ?_
  refine WM.r rfl rfl rfl (ld rfl rfl (by first | exact .here | exact .t1 | exact .t2 | exact .t3 | exact .t4 | exact .t5 | exact .t6 | exact .t7) Try.underlying70 rfl (by rfl)) ?_
  refine WM.r rfl rfl rfl (rd_usd0 rfl rfl) ?_
  refine WM.r rfl rfl rfl (rd_move rfl rfl) ?_
  refine WM.r rfl rfl rfl (rd_nil rfl rfl) ?_
  refine WM.r rfl rfl rfl (rd_fa rfl rfl Try.underlying72 rfl (by kernel_rfl) (by (try simp only [Int.toNat_natCast, Nat.mul_one, Nat.zero_add, Nat.add_zero, Nat.zero_mul, Int.reduceToNat, Nat.reduceAdd, Nat.reduceMul, Nat.reduceSub, Nat.sub_zero]); rfl)) ?_
  refine WM.r rfl rfl rfl (ld rfl rfl (by first | exact .here | exact .t1 | exact .t2 | exact .t3 | exact .t4 | exact .t5 | exact .t6 | exact .t7) Try.underlying70 rfl (by rfl)) ?_
  refine WM.r rfl rfl rfl (rd_len rfl rfl Try.underlying70) ?_
  refine WM.r rfl rfl rfl (rd_us0 rfl rfl rfl) ?_
  refine WM.r rfl rfl rfl (rd_assign rfl rfl) ?_
  refine WM.nil ?_
  refine WX.then_normal ?_
  refine WC.ret ?_
  exact WX.ret1 rfl rfl fun w' hS => ⟨(), rfl, hS⟩
end
end Go.Proofs.Ytijamoagkmjcjaa
