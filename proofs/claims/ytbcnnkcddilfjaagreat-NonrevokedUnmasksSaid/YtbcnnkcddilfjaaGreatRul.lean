/-
  Own framework, part 5: the rules as the generator prints them; calls, returns.
-/
import Derived.Test.YtbcnnkcddilfjaaGreatMem
namespace Go.Proofs.YtbcnnkcddilfjaaGreat
set_option linter.unusedSimpArgs false
set_option linter.unusedVariables false
open Go.RowKit

inductive InE : List Ent → Ent → Prop
  | here {x : Ent} {r : List Ent} : InE (x :: r) x
  | there {x y : Ent} {r : List Ent} (h : InE r x) : InE (y :: r) x
/-- the list with a hole in the place of the entry -/
inductive Ctx : List Ent → Ent → (Ent → List Ent) → Prop
  | here {x : Ent} {r : List Ent} : Ctx (x :: r) x (fun y => y :: r)
  | there {x z : Ent} {r : List Ent} {C : Ent → List Ent} (h : Ctx r x C) : Ctx (z :: r) x (fun y => z :: C y)
inductive InF : List Fact → Fact → Prop
  | here {x : Fact} {r : List Fact} : InF (x :: r) x
  | there {x y : Fact} {r : List Fact} (h : InF r x) : InF (y :: r) x

theorem InE.t1 {x z0 : Ent} {r : List Ent} : InE (z0 :: x :: r) x := .there .here
theorem InE.t2 {x z0 z1 : Ent} {r : List Ent} : InE (z0 :: z1 :: x :: r) x := .there (.there .here)
theorem InE.t3 {x z0 z1 z2 : Ent} {r : List Ent} : InE (z0 :: z1 :: z2 :: x :: r) x := .there (.there (.there .here))
theorem InE.t4 {x z0 z1 z2 z3 : Ent} {r : List Ent} : InE (z0 :: z1 :: z2 :: z3 :: x :: r) x := .there (.there (.there (.there .here)))
theorem InE.t5 {x z0 z1 z2 z3 z4 : Ent} {r : List Ent} : InE (z0 :: z1 :: z2 :: z3 :: z4 :: x :: r) x := .there (.there (.there (.there (.there .here))))
theorem InE.t6 {x z0 z1 z2 z3 z4 z5 : Ent} {r : List Ent} : InE (z0 :: z1 :: z2 :: z3 :: z4 :: z5 :: x :: r) x := .there (.there (.there (.there (.there (.there .here)))))
theorem InE.t7 {x z0 z1 z2 z3 z4 z5 z6 : Ent} {r : List Ent} : InE (z0 :: z1 :: z2 :: z3 :: z4 :: z5 :: z6 :: x :: r) x := .there (.there (.there (.there (.there (.there (.there .here))))))
theorem InF.t1 {x z0 : Fact} {r : List Fact} : InF (z0 :: x :: r) x := .there .here
theorem InF.t2 {x z0 z1 : Fact} {r : List Fact} : InF (z0 :: z1 :: x :: r) x := .there (.there .here)
theorem InF.t3 {x z0 z1 z2 : Fact} {r : List Fact} : InF (z0 :: z1 :: z2 :: x :: r) x := .there (.there (.there .here))
theorem InF.t4 {x z0 z1 z2 z3 : Fact} {r : List Fact} : InF (z0 :: z1 :: z2 :: z3 :: x :: r) x := .there (.there (.there (.there .here)))
theorem InF.t5 {x z0 z1 z2 z3 z4 : Fact} {r : List Fact} : InF (z0 :: z1 :: z2 :: z3 :: z4 :: x :: r) x := .there (.there (.there (.there (.there .here))))
theorem InF.t6 {x z0 z1 z2 z3 z4 z5 : Fact} {r : List Fact} : InF (z0 :: z1 :: z2 :: z3 :: z4 :: z5 :: x :: r) x := .there (.there (.there (.there (.there (.there .here)))))
theorem InF.t7 {x z0 z1 z2 z3 z4 z5 z6 : Fact} {r : List Fact} : InF (z0 :: z1 :: z2 :: z3 :: z4 :: z5 :: z6 :: x :: r) x := .there (.there (.there (.there (.there (.there (.there .here))))))
theorem Ctx.t1 {x z0 : Ent} {r : List Ent} : Ctx (z0 :: x :: r) x (fun y => z0 :: y :: r) := .there .here
theorem Ctx.t2 {x z0 z1 : Ent} {r : List Ent} : Ctx (z0 :: z1 :: x :: r) x (fun y => z0 :: z1 :: y :: r) := .there (.there .here)
theorem Ctx.t3 {x z0 z1 z2 : Ent} {r : List Ent} : Ctx (z0 :: z1 :: z2 :: x :: r) x (fun y => z0 :: z1 :: z2 :: y :: r) := .there (.there (.there .here))
theorem Ctx.t4 {x z0 z1 z2 z3 : Ent} {r : List Ent} : Ctx (z0 :: z1 :: z2 :: z3 :: x :: r) x (fun y => z0 :: z1 :: z2 :: z3 :: y :: r) := .there (.there (.there (.there .here)))
theorem Ctx.t5 {x z0 z1 z2 z3 z4 : Ent} {r : List Ent} : Ctx (z0 :: z1 :: z2 :: z3 :: z4 :: x :: r) x (fun y => z0 :: z1 :: z2 :: z3 :: z4 :: y :: r) := .there (.there (.there (.there (.there .here))))
theorem Ctx.t6 {x z0 z1 z2 z3 z4 z5 : Ent} {r : List Ent} : Ctx (z0 :: z1 :: z2 :: z3 :: z4 :: z5 :: x :: r) x (fun y => z0 :: z1 :: z2 :: z3 :: z4 :: z5 :: y :: r) := .there (.there (.there (.there (.there (.there .here)))))
theorem Ctx.t7 {x z0 z1 z2 z3 z4 z5 z6 : Ent} {r : List Ent} : Ctx (z0 :: z1 :: z2 :: z3 :: z4 :: z5 :: z6 :: x :: r) x (fun y => z0 :: z1 :: z2 :: z3 :: z4 :: z5 :: z6 :: y :: r) := .there (.there (.there (.there (.there (.there (.there .here))))))

theorem InE.get {own : List Ent} {x : Ent} (h : InE own x) : ∃ k : Nat, own[k]? = some x := by
  induction h with
  | here => exact ⟨0, rfl⟩
  | there _ ih => obtain ⟨k, hk⟩ := ih; exact ⟨k + 1, by simpa using hk⟩
theorem Ctx.get {own : List Ent} {x : Ent} {C : Ent → List Ent} (h : Ctx own x C) : ∃ k : Nat, own[k]? = some x ∧ ∀ y, C y = own.set k y := by
  induction h with
  | here => exact ⟨0, rfl, fun _ => rfl⟩
  | there _ ih => obtain ⟨k, hk, e⟩ := ih; exact ⟨k + 1, by simpa using hk, fun y => by show _ :: _ = _; rw [e y]; rfl⟩
theorem InF.get {fs : List Fact} {x : Fact} (h : InF fs x) : ∃ k : Nat, fs[k]? = some x := by
  induction h with
  | here => exact ⟨0, rfl⟩
  | there _ ih => obtain ⟨k, hk⟩ := ih; exact ⟨k + 1, by simpa using hk⟩

def argsOf (L : Slots) : List Operand → Option (List Value)
  | [] => some []
  | x :: xs => match oper L x, argsOf L xs with
    | some v, some vs => some (v :: vs)
    | _, _ => none

theorem argsOf_eval {ds : List Deferred} {a : Act} {n : Nat} {L : Slots} (hF : Fr ds a n L) : ∀ {xs : List Operand} {vs : List Value}, argsOf L xs = some vs → xs.map a.eval = vs
  | [], vs, h => by simpa [argsOf] using h
  | x :: xs, vs, h => by
    simp only [argsOf] at h
    split at h
    · rename_i v vs' h1 h2
      simp only [Option.some.injEq] at h
      rw [List.map_cons, hF.eval h1, argsOf_eval hF h2, h]
    · cases h

def goes (P : Program) (f : FuncId) : Bool :=
  match P.funcs[f]? with
  | some fn => fn.body.isSome && !(fn.name == "runtime.NumGoroutine")
  | none => false

theorem run_callFunc {P : Program} {f : FuncId} (h : goes P f = true) (args : Array Value) (w : World) : (callFunc f args).run P w = .ok (.enter f args) w := by
  unfold goes at h
  split at h
  · rename_i fn hf
    simp only [Bool.and_eq_true, Bool.not_eq_true'] at h
    have hb : fn.body.isNone = false := by cases hbb : fn.body <;> simp_all
    simp only [callFunc, Sem.run_bind, run_program, Result.andThen, hf, h.2, hb]
    rfl
  · cases h

section
variable {ds : List Deferred} {ρ : Option Nat} {P : Program} {o : Oper} {n : Nat} {L : Slots} {ok : Nat → Prop} {w0 : World} {own r : List Ent} {C : Ent → List Ent} {fs : List Fact} {x y z : Operand} {v u : Value} {t t2 e : TypeId} {k : IntKind} {i j : Int} {b off sz : Nat} {cs xs ys : List Value} {T : TypeId}
variable {γ : Type} {Z : World → Prop} {val : γ → Value} {Z' : γ → World → Prop}

theorem og_call {f : FuncId} {as : List Operand} {tys : Array TypeId} {args : List Value} (hop : o.op = .call { callee := .value (.func f), args := as.toArray, argTypes := tys }) (hargs : argsOf L as = some args) (hg : goes P f = true)
    (h : ∀ w, Z w → Calls P f args.toArray w (fun e w' => ∃ g, e = .returned (val g) ∧ Z' g w')) : Og ds P o n L Z val Z' := by
  intro a w hF hS
  unfold opX
  have e1 : (execOp a.eval o).run P w = .ok (.enter f args.toArray) w := by
    have ha := argsOf_eval hF hargs
    simp only [execOp, hop, resolve, Act.eval, Deferred.ofValue, invoke]
    simp [run_callFunc hg, ha]
  rw [e1]
  refine ⟨fun h => absurd h (by decide), callsIn_wide.2 (Calls.mono (h w hS) fun e w' hh => ?_)⟩
  obtain ⟨g, rfl, hS'⟩ := hh
  exact ⟨_, rfl, g, rfl, hS'⟩

/-- a closure's call: the function value lies in a slot -/
theorem og_callv {c : Operand} {f : FuncId} {first caps : Array Value} {as : List Operand} {tys : Array TypeId} {args : List Value} (hop : o.op = .call { callee := .value c, args := as.toArray, argTypes := tys }) (hc : oper L c = some (.func (.func f) first caps)) (hargs : argsOf L as = some args) (hg : goes P f = true)
    {all : Array Value} (hall : first ++ args.toArray ++ caps = all) (h : ∀ w, Z w → Calls P f all w (fun e w' => ∃ g, e = .returned (val g) ∧ Z' g w')) : Og ds P o n L Z val Z' := by
  intro a w hF hS
  unfold opX
  have e1 : (execOp a.eval o).run P w = .ok (.enter f all) w := by
    have ha := argsOf_eval hF hargs
    have hm : Array.map a.eval as.toArray = args.toArray := by simp [ha]
    simp only [execOp, hop, resolve, hF.eval hc, Deferred.ofValue, invoke]
    simp [run_callFunc hg, ha, ← hall]
  rw [e1]
  refine ⟨fun h => absurd h (by decide), callsIn_wide.2 (Calls.mono (h w hS) fun e w' hh => ?_)⟩
  obtain ⟨g, rfl, hS'⟩ := hh
  exact ⟨_, rfl, g, rfl, hS'⟩

/-- of a callee that leaves alone what was there: a known value -/
theorem keep_val {f : FuncId} {args : Array Value} (h : ∀ w, St ok w0 own fs w → Calls P f args w (fun e w' => e = .returned v ∧ Below w.heap.size w w')) :
    ∀ w, St ok w0 own fs w → Calls P f args w (fun e w' => ∃ _g : Unit, e = .returned v ∧ St ok w0 own fs w') :=
  fun w hS => (h w hS).mono fun _ _ ⟨he, hb⟩ => ⟨(), he, hS.keep hb⟩

theorem ld (hop : o.op = .load t x) (hx : oper L x = some (.pointer (some ⟨b, off, none⟩))) (hk : InE own ⟨some b, cs, T⟩) {d : TypeDesc} (hu : P.underlying t = some d) (hd : isAggD d = false) (hv : cs[off]? = some v) : Rd ds P o n L (St ok w0 own fs) v := by
  obtain ⟨kk, hk⟩ := hk.get; exact rd_ld kk hop hx hk hu hd hv
theorem lda (hop : o.op = .load t x) (hx : oper L x = some (.pointer (some ⟨b, 0, none⟩))) (hk : InE own ⟨some b, cs, T⟩) {d : TypeDesc} (hu : P.underlying t = some d) (hd : isAggD d = true) (hs : (P.info? t).map (·.size) = some cs.length) : Rd ds P o n L (St ok w0 own fs) (.agg cs.toArray) := by
  obtain ⟨kk, hk⟩ := hk.get; exact rd_lda kk hop hx hk hu hd hs
theorem ldp (hop : o.op = .load t x) (hx : oper L x = some (.pointer (some ⟨b, off, none⟩))) (hk : InE own ⟨some b, cs, T⟩) {d : TypeDesc} (hu : P.underlying t = some d) (hd : isAggD d = true) (hs : (P.info? t).map (·.size) = some sz) (hxs : (cs.drop off).take sz = xs) (hlen : xs.length = sz) : Rd ds P o n L (St ok w0 own fs) (.agg xs.toArray) := by
  obtain ⟨kk, hk⟩ := hk.get; exact rd_ldp kk hop hx hk hu hd hs hxs hlen
theorem ldf {off0 m : Nat} (hop : o.op = .load t x) (hx : oper L x = some (.pointer (some ⟨b, off, none⟩))) (hk : InF fs (Fact.sl (some ⟨b, off0, none⟩) xs)) {d : TypeDesc} (hu : P.underlying t = some d) (hd : isAggD d = false) (hm : off = off0 + m) (hv : xs[m]? = some v) : Rd ds P o n L (St ok w0 own fs) v := by
  obtain ⟨kk, hk⟩ := hk.get; exact rd_ldf kk hop hx hk hu hd hm hv
theorem ldfa {off0 m : Nat} (hop : o.op = .load t x) (hx : oper L x = some (.pointer (some ⟨b, off, none⟩))) (hk : InF fs (Fact.sl (some ⟨b, off0, none⟩) xs)) {d : TypeDesc} (hu : P.underlying t = some d) (hd : isAggD d = true) (hs : (P.info? t).map (·.size) = some sz) (hm : off = off0 + m) (hys : (xs.drop m).take sz = ys) (hlen : ys.length = sz) (h0 : 0 < sz) : Rd ds P o n L (St ok w0 own fs) (.agg ys.toArray) := by
  obtain ⟨kk, hk⟩ := hk.get; exact rd_ldfa kk hop hx hk hu hd hs hm hys hlen h0

theorem st (hop : o.op = .store t x y) (hx : oper L x = some (.pointer (some ⟨b, off, none⟩))) (hy : oper L y = some v) (hk : Ctx own ⟨some b, cs, T⟩ C) (hs : (P.info? t).map (·.size) = some 1) (h1 : v.oneCell' = true) (hoff : off < cs.length) (hxs : cs.set off v = xs) :
    Og ds P o n L (St ok w0 own fs) (fun _ : Unit => undef) (fun _ => St ok w0 (C ⟨some b, xs, T⟩) fs) := by
  subst hxs; obtain ⟨kk, hk', hC⟩ := hk.get; rw [hC]; exact og_st kk hop hx hy hk' hs h1 hoff
theorem sta (hop : o.op = .store t x y) (hx : oper L x = some (.pointer (some ⟨b, 0, none⟩))) (hy : oper L y = some (.agg xs.toArray)) (hk : Ctx own ⟨some b, cs, T⟩ C) (hs : (P.info? t).map (·.size) = some xs.length) (h1 : ∀ v ∈ xs, v.oneCell' = true) (hl : xs.length = cs.length) :
    Og ds P o n L (St ok w0 own fs) (fun _ : Unit => undef) (fun _ => St ok w0 (C ⟨some b, xs, T⟩) fs) := by
  obtain ⟨kk, hk', hC⟩ := hk.get; rw [hC]; exact og_sta kk hop hx hy hk' hs h1 hl
theorem stp (hop : o.op = .store t x y) (hx : oper L x = some (.pointer (some ⟨b, off, none⟩))) (hy : oper L y = some (.agg xs.toArray)) (hk : Ctx own ⟨some b, cs, T⟩ C) (hs : (P.info? t).map (·.size) = some xs.length) (h1 : ∀ v ∈ xs, v.oneCell' = true) (hl : off + xs.length ≤ cs.length) (hys : cs.take off ++ xs ++ cs.drop (off + xs.length) = ys) :
    Og ds P o n L (St ok w0 own fs) (fun _ : Unit => undef) (fun _ => St ok w0 (C ⟨some b, ys, T⟩) fs) := by
  obtain ⟨kk, hk', hC⟩ := hk.get; rw [hC]; exact og_stp kk hop hx hy hk' hs h1 hl hys

/-! append -/
theorem src_own {w : World} {own : List Ent} (hS : St ok w0 own fs w) {news : List Value} {m c : Nat} (hk : InE own ⟨some b, cs, T⟩) (hx : ∀ q, q < news.length → cs[off + q]? = news[q]?) : Src w (.slice (some ⟨b, off, none⟩) m c) m news := by
  obtain ⟨kk, hk⟩ := hk.get
  refine ⟨_, _, rfl, (fun h => by cases h), fun a ha q u hq => ?_⟩
  obtain rfl := Option.some.inj ha
  have hlt : q < news.length := (List.getElem?_eq_some_iff.1 hq).1
  rw [Addr.add_lit, block_cell (hS.block hk), hx q hlt, hq]

/-- the new cells lie at the head of an own block (what 'append(s, x, y)' has just built) -/
theorem app {len cap : Nat} {ob : Option Nat} {news sp : List Value} {zv : Value} {m c : Nat} {b2 : Nat} {T2 : TypeId} (hop : o.op = .call { callee := .builtin .append, args := #[x, y], argTypes := #[t, t] }) (hu : P.underlying t = some (.slice e)) (hi : (P.info? e).map (fun i => (i.zero, i.size, i.bytes)) = some (some zv, 1, sz)) (h1 : zv.cells = #[zv])
    (hk : Ctx own ⟨ob, xs ++ sp, e⟩ C) (hx : oper L x = some (.slice (ob.map fun b => ⟨b, 0, none⟩) len cap)) (hy : oper L y = some (.slice (some ⟨b2, 0, none⟩) m c)) (hnew : InE own ⟨some b2, news, T2⟩) (hm : news.length = m)
    (hb : xs.length = len ∧ cap = len + sp.length ∧ 0 < m ∧ len + m ≤ 9223372036854775807 ∧ (len + m) * sz ≤ 140737488355328) (h1c : ∀ u ∈ news, u.oneCell' = true) :
    Og ds P o n L (St ok w0 own fs) (fun g : App => .slice (some ⟨g.b, 0, none⟩) (len + m) g.cap) (fun g w => (len + m ≤ g.cap ∧ g.cap = len + m + g.spare.length) ∧ St ok w0 (C ⟨some g.b, (xs ++ news) ++ g.spare, e⟩) fs w) :=
  og_run fun a hF w hS => by
    obtain ⟨kk, hkk, hC⟩ := hk.get
    obtain ⟨hxl, hcap, hpos, h63, hbb⟩ := hb
    have htake : (xs ++ sp).take len = xs := by rw [← hxl]; simp
    obtain ⟨g, w', hrun, hp, hS'⟩ := run_app (P := P) (ty := o.type) hS hkk hu hi h1 (by omega : len ≤ cap) (by simp; omega) (src_own (c := c) hS hnew (fun q _ => by simp) : Src w (.slice (some ⟨b2, 0, none⟩) m c) m news) hm h1c hpos h63 hbb
    rw [htake] at hp hS'
    refine ⟨g, w', .inl ?_, ⟨hp.1, ?_⟩, ?_⟩
    · simp [execOp, hop, resolve, invoke, builtin, hF.eval hx, hF.eval hy, hrun]
    · rw [hp.2]; simp [hxl, hm]; omega
    · rw [hC]; exact hS'

/-- a nil slice as an entry; a made slice as a growable one -/
theorem St.nil {w : World} (h : St ok w0 own fs w) (e : TypeId) : St ok w0 (⟨none, [] ++ [], e⟩ :: own) fs w :=
  ⟨h.okn, h.below, fun x hx => by
    rcases List.mem_cons.1 hx with rfl | hx
    · rfl
    · exact h.own_ x hx, h.nd, h.fact⟩
theorem St.turn {w : World} {ob : Option Nat} (hk : Ctx own ⟨ob, cs, T⟩ C) (hcs : cs = xs) (h : St ok w0 own fs w) : St ok w0 (C ⟨ob, xs, T⟩) fs w := by
  subst hcs
  obtain ⟨kk, hkk, hC⟩ := hk.get
  rw [hC]
  have : own.set kk ⟨ob, cs, T⟩ = own := by
    apply List.ext_getElem?; intro q
    by_cases hq : kk = q
    · subst hq; rw [List.getElem?_set_self (List.getElem?_eq_some_iff.1 hkk).1, hkk]
    · rw [List.getElem?_set_ne hq]
  rw [this]; exact h

/-! bytes and strings -/
/-- a byte's cell -/
def B (c : UInt8) : Value := .int .u8 (c.toNat : Int)
theorem B_one (l : List UInt8) : ∀ u ∈ l.map B, u.oneCell' = true := fun u hu => by obtain ⟨c, _, rfl⟩ := List.mem_map.1 hu; rfl

theorem fold_push (l : List UInt8) : ∀ s : ByteArray, (l.map (fun c : UInt8 => (c.toNat : Int))).foldl (fun r n => r.push (UInt8.ofNat n.toNat)) s = S (s.data.toList ++ l) := by
  induction l with
  | nil => intro s; simp [S_data]
  | cons c l ih =>
    intro s
    simp only [List.map_cons, List.foldl_cons]
    rw [ih]
    congr 1
    simp

theorem run_b2s {w : World} {l : List UInt8} {cells : Array Value} {fz : Nat × Nat} {len cap : Nat} (hb : w.heap[b]? = some (.cells cells T fz)) (hl : l.length = len) (hxs : ∀ i, i < l.length → cells[off + i]? = (l.map B)[i]?) (hs : P.underlying t = some (.slice e)) (he : P.underlying e = some (.int .u8)) (hd : P.underlying t2 = some .string) :
    (convert t t2 (.slice (some ⟨b, off, none⟩) len cap)).run P w = .ok (.string (S l)) w := by
  have hmap : l.map B = (l.map (fun c : UInt8 => (c.toNat : Int))).map (Value.int .u8) := by simp [B]
  have hload : (loadCells ⟨b, off, none⟩ len).run P w = .ok ((l.map (fun c : UInt8 => (c.toNat : Int))).map (Value.int .u8)).toArray w := by
    rw [← hmap, ← hl]
    have := run_loadCells_list (P := P) w ⟨b, off, none⟩ (l.map B) (fun j v hv => by
      have hj : j < l.length := by have := (List.getElem?_eq_some_iff.1 hv).1; simpa using this
      rw [Addr.add_lit]; simp only [World.cell?, hb]; rw [if_neg (by simp)]; rw [hxs j hj]; exact hv)
    simpa using this
  rw [run_convert_bytes_string w t t2 e _ _ _ hs he hd, run_bytesToString w _ len cap _ hload, fold_push]
  simp

theorem b2s {l : List UInt8} {len cap : Nat} (hop : o.op = .convert t t2 x) (hx : oper L x = some (.slice (some ⟨b, off, none⟩) len cap)) (hk : InE own ⟨some b, cs, T⟩) (hs : P.underlying t = some (.slice e)) (he : P.underlying e = some (.int .u8)) (hd : P.underlying t2 = some .string) (hl : (cs.drop off).take len = l.map B) (hlen : l.length = len) : Rd ds P o n L (St ok w0 own fs) (.string (S l)) := by
  obtain ⟨kk, hk⟩ := hk.get
  exact run_conv hop hx fun w hS => run_b2s (hS.block hk) hlen (fun q hq => by rw [← hl, List.getElem?_take, if_pos (by omega), List.getElem?_drop]; simp) hs he hd
theorem b2s0 (hop : o.op = .convert t t2 x) {len cap : Nat} (hx : oper L x = some (.slice none len cap)) (hs : P.underlying t = some (.slice e)) (he : P.underlying e = some (.int .u8)) (hd : P.underlying t2 = some .string) : Rd ds P o n L (St ok w0 own fs) (.string (S [])) :=
  run_conv hop hx fun w hS => by rw [run_convert_bytes_string w t t2 e _ _ _ hs he hd]; simp [Conv.bytesToString, S]; rfl
theorem b2sf {l : List UInt8} {len cap : Nat} {a0 : Option Addr} (hop : o.op = .convert t t2 x) (hx : oper L x = some (.slice a0 len cap)) (hk : InF fs (Fact.sl a0 (l.map B))) (hs : P.underlying t = some (.slice e)) (he : P.underlying e = some (.int .u8)) (hd : P.underlying t2 = some .string) (hlen : l.length = len) : Rd ds P o n L (St ok w0 own fs) (.string (S l)) := by
  obtain ⟨kk, hk⟩ := hk.get
  exact run_conv hop hx fun w hS => by
    rcases hS.holds hk with h0 | ⟨b', off', cells, T', fz, e1, _, e3, e4⟩
    · have hl0 : l = [] := by simpa using h0
      subst hl0
      simp at hlen; subst hlen
      rw [run_convert_bytes_string w t t2 e _ _ _ hs he hd]
      cases a0 <;> simp [Conv.bytesToString, S, loadCells, loadCellsFrom] <;> rfl
    · subst e1
      exact run_b2s e3 hlen (fun q hq => e4 q (by simpa using hq)) hs he hd

/-! copy into an own block -/
theorem run_copy {w w' : World} {rt ty : TypeId} {src : Value} {len cap q m : Nat} (hu : P.underlying t = some (.slice e)) (hs : (P.info? e).map (·.size) = some 1) (hq : ∀ w : World, (Builtin.lenOf src).run P w = .ok q w) (hm : min q len = m) (hf : (Builtin.firstCells 1 m src).run P w = .ok xs.toArray w) (hst : (storeCells ⟨b, off, none⟩ xs).run P w = .ok () w') :
    (Builtin.copy_ #[t, rt] ty #[.slice (some ⟨b, off, none⟩) len cap, src]).run P w = .ok (.int .i64 (m : Int)) w' := by
  have hm' : Nat.min q len = m := hm
  simp [Builtin.copy_, run_underlying hu, hq, hm, size_run hs, hf, hst, goInt]

theorem cpys {l : List UInt8} {len cap m : Nat} {rt : TypeId} (hop : o.op = .call { callee := .builtin .copy, args := #[x, y], argTypes := #[t, rt] }) (hx : oper L x = some (.slice (some ⟨b, off, none⟩) len cap)) (hy : oper L y = some (.string (S l))) (hk : Ctx own ⟨some b, cs, T⟩ C) (hu : P.underlying t = some (.slice e)) (hs : (P.info? e).map (·.size) = some 1)
    (hm : min l.length len = m) (hfit : off + m ≤ cs.length) (hys : cs.take off ++ (l.take m).map B ++ cs.drop (off + m) = ys) :
    Og ds P o n L (St ok w0 own fs) (fun _ : Unit => .int .i64 (m : Int)) (fun _ => St ok w0 (C ⟨some b, ys, T⟩) fs) :=
  og_run fun a hF w hS => by
    obtain ⟨kk, hkk, hC⟩ := hk.get
    have hlm : (l.take m).length = m := by simp; omega
    have hst := run_storeCells_at P b off T ((l.take m).map B) 0 cs.toArray w (hS.block hkk) (by simp [hlm]; omega) (B_one _)
    simp only [Nat.add_zero, List.length_map, hlm, hys] at hst
    refine ⟨(), w.setRow b ys.toArray, .inl ?_, by rw [hC]; exact hS.setRow hkk _⟩
    have hf : (Builtin.firstCells 1 m (.string (S l))).run P w = .ok ((l.take m).map B).toArray w := by
      have hex : Array.map (fun c : UInt8 => Value.int .u8 (c.toNat : Int)) ((S l).extract 0 m).data = ((l.take m).map B).toArray := by
        apply Array.ext'; rw [S_extract]; simp [S]; rfl
      show Result.ok _ w = _
      rw [hex]
    have hrun := run_copy (P := P) (w := w) (ty := o.type) (rt := rt) (src := .string (S l)) (cap := cap) (q := l.length) hu hs (fun w => by simp [Builtin.lenOf, S_size]) hm hf hst
    simp [execOp, hop, resolve, invoke, builtin, hF.eval hx, hF.eval hy, hrun]

/-- from a slice whose cells are known -/
theorem cpyl {len cap len2 cap2 m : Nat} {ad2 : Option Addr} {rt : TypeId} (hop : o.op = .call { callee := .builtin .copy, args := #[x, y], argTypes := #[t, rt] }) (hx : oper L x = some (.slice (some ⟨b, off, none⟩) len cap)) (hy : oper L y = some (.slice ad2 len2 cap2)) (hk : Ctx own ⟨some b, cs, T⟩ C) (hu : P.underlying t = some (.slice e)) (hs : (P.info? e).map (·.size) = some 1)
    (hm : min len2 len = m) (hxm : xs.length = m) (hsrc : ∀ w, St ok w0 own fs w → (Fact.sl ad2 xs).holds (fun _ => True) w) (h1 : ∀ u ∈ xs, u.oneCell' = true) (hfit : off + m ≤ cs.length) (hys : cs.take off ++ xs ++ cs.drop (off + m) = ys) :
    Og ds P o n L (St ok w0 own fs) (fun _ : Unit => .int .i64 (m : Int)) (fun _ => St ok w0 (C ⟨some b, ys, T⟩) fs) :=
  og_run fun a hF w hS => by
    obtain ⟨kk, hkk, hC⟩ := hk.get
    have hst := run_storeCells_at P b off T xs 0 cs.toArray w (hS.block hkk) (by simp; omega) h1
    simp only [Nat.add_zero, hxm, hys] at hst
    refine ⟨(), w.setRow b ys.toArray, .inl ?_, by rw [hC]; exact hS.setRow hkk _⟩
    have hf : (Builtin.firstCells 1 m (.slice ad2 len2 cap2)).run P w = .ok xs.toArray w := by
      rcases hsrc w hS with h0 | ⟨b', off', cells, T', fz, e1, _, e3, e4⟩
      · subst h0
        simp at hxm; subst hxm
        cases ad2 <;> simp [Builtin.firstCells, loadCells, loadCellsFrom]
      · subst e1
        have := run_loadCells_list (P := P) w ⟨b', off', none⟩ xs (fun j v hv => by
          have hj : j < xs.length := (List.getElem?_eq_some_iff.1 hv).1
          rw [Addr.add_lit]; simp [World.cell?, e3, e4 j hj, hv])
        rw [hxm] at this
        simp [Builtin.firstCells, this]
    have hrun := run_copy (P := P) (w := w) (ty := o.type) (rt := rt) (src := .slice ad2 len2 cap2) (cap := cap) (q := len2) hu hs (fun w => by simp [Builtin.lenOf]) hm hf hst
    simp [execOp, hop, resolve, invoke, builtin, hF.eval hx, hF.eval hy, hrun]

/-! a literal slice -/
def partsOf (L : Slots) : List (Nat × Operand) → Option (List (Nat × Value))
  | [] => some []
  | (q, x) :: xs => match oper L x, partsOf L xs with
    | some v, some vs => some ((q, v) :: vs)
    | _, _ => none

theorem partsOf_eval {ds : List Deferred} {a : Act} {n : Nat} {L : Slots} (hF : Fr ds a n L) : ∀ {xs : List (Nat × Operand)} {vs : List (Nat × Value)}, partsOf L xs = some vs → xs.map (fun (q, x) => (q, a.eval x)) = vs
  | [], vs, h => by simpa [partsOf] using h
  | (q, x) :: xs, vs, h => by
    simp only [partsOf] at h
    split at h
    · rename_i v vs' h1 h2
      simp only [Option.some.injEq] at h
      rw [List.map_cons, partsOf_eval hF h2, ← h]; simp [hF.eval h1]
    · cases h

theorem og_bs {len : Nat} {parts : List (Nat × Operand)} {vs : List (Nat × Value)} (hop : o.op = .buildSlice t len parts.toArray) (hp : partsOf L parts = some vs) (hu : P.underlying t = some (.slice e))
    (hrun : ∀ w : World, (Instr.buildSlice t len vs.toArray).run P w = .ok (.slice (some ⟨w.heap.size, 0, none⟩) len len) (w.alloc (.cells cs.toArray e))) :
    Og ds P o n L (St ok w0 own fs) (fun b : Nat => .slice (some ⟨b, 0, none⟩) len len) (fun b => St ok w0 (⟨some b, cs, e⟩ :: own) fs) :=
  og_run fun a hF w hS => by
    refine ⟨w.heap.size, w.alloc (.cells cs.toArray e), .inl ?_, hS.alloc cs e⟩
    have hpp := partsOf_eval hF hp
    have e1 : Array.map (fun x => (x.1, a.eval x.2)) parts.toArray = vs.toArray := by simp [← hpp]
    simp only [execOp, hop, e1]
    simp [hrun]

theorem fill_one : ∀ (vs done : List Value) (zs : List Value), vs.length = zs.length → (∀ v ∈ vs, v.cells = #[v]) →
    Instr.fill (fun i => some (i * 1, 1)) (done ++ zs).toArray ((List.range' done.length vs.length).zip vs) = some (done ++ vs).toArray
  | [], done, zs, hl, _ => by have : zs = [] := List.eq_nil_of_length_eq_zero hl.symm; subst this; simp [Instr.fill]
  | v :: vs, done, zs, hl, h1 => by
    cases zs with
    | nil => simp at hl
    | cons z zs =>
      have hv := h1 v (by simp)
      have ih := fill_one vs (done ++ [v]) zs (by simpa using hl) (fun u hu => h1 u (by simp [hu]))
      have e1 : (done ++ z :: zs).toArray.setIfInBounds done.length v = (done ++ [v] ++ zs).toArray := by
        apply Array.ext'; simp
      simp only [List.length_cons, List.range'_succ, List.zip_cons_cons, Instr.fill, hv]
      rw [if_neg (by simp)]
      simp only [Nat.mul_one, List.length_append, List.length_singleton, List.append_assoc] at ih e1 ⊢
      have e2 : (#[v].zipIdx.foldl (fun (cs : Array Value) (x : Value × Nat) => cs.setIfInBounds (done.length + x.2) x.1) (done ++ z :: zs).toArray) = (done ++ ([v] ++ zs)).toArray := by
        simp
      rw [e2]
      simpa using ih

/-- a literal slice of one-cell elements -/
theorem og_bs1 {len : Nat} {parts : List (Nat × Operand)} {vs : List (Nat × Value)} {zv : Value} (hop : o.op = .buildSlice t len parts.toArray) (hp : partsOf L parts = some vs) (hu : P.underlying t = some (.slice e))
    (hi : (P.info? e).map (fun i => (i.zero, i.size, i.bytes)) = some (some zv, 1, sz)) (hz : zv.cells = #[zv]) (hcs : vs.map Prod.snd = cs) (hnum : vs = (List.range' 0 len).zip (vs.map Prod.snd)) (hlen : cs.length = len) (h1 : ∀ v ∈ cs, v.cells = #[v]) (hsm : len ≤ 16777216) :
    Og ds P o n L (St ok w0 own fs) (fun b : Nat => .slice (some ⟨b, 0, none⟩) len len) (fun b => St ok w0 (⟨some b, cs, e⟩ :: own) fs) :=
  og_bs hop hp hu fun w => by
    obtain ⟨i', hi', hz', hs, hbb⟩ := info_parts hi
    have hfill := fill_one cs [] (List.replicate len zv) (by simp [hlen]) h1
    simp only [List.nil_append, List.length_nil, hlen] at hfill
    have hsz : ¬ (len * i'.size > 2 ^ 24) := by rw [hs]; omega
    have hvs : vs = (List.range' 0 len).zip cs := by rw [← hcs]; exact hnum
    have hfill' : Instr.fill (fun i => some (i, 1)) (List.replicate len zv).toArray vs = some cs.toArray := by
      rw [hvs]; simpa using hfill
    rw [hs] at hsz
    simp only [Instr.buildSlice, Sem.run_bind, run_underlying hu, Result.andThen, sizeOf, typeInfo, run_program, hi', Sem.run_pure, hs, Nat.mul_one]
    rw [if_neg (by omega)]
    by_cases h0 : len = 0
    · subst h0
      have hzero : Array.map (fun x => (#[] : Array Value)[x % (#[] : Array Value).size]!) (Array.range 0) = (List.replicate 0 zv).toArray := by simp
      simp only [Sem.run_pure, Sem.run_bind, Result.andThen, if_true, hzero, hfill']
      rfl
    · have hzero : Array.map (fun x => zv.cells[x % zv.cells.size]!) (Array.range len) = (List.replicate len zv).toArray := by
        rw [hz]
        have := madeCells_one zv len
        unfold madeCells at this
        apply Array.ext'
        simpa using this
      simp only [if_neg h0, Sem.run_bind, zeroValue, typeInfo, run_program, Result.andThen, hi', Sem.run_pure, hz', hzero, hfill']
      rfl

/-- a struct's cells: of each field the part that is given, or its zero -/
def fldv (ps : List (Nat × Value)) (i : Nat) (z : List Value) : List Value :=
  match ps with
  | [] => z
  | (q, v) :: r => bif Nat.beq q i then v.cells.toList else fldv r i z
def bld (ps : List (Nat × Value)) : Nat → List (List Value) → List Value
  | _, [] => []
  | i, z :: zs => fldv ps i z ++ bld ps (i + 1) zs
theorem rd_bld {parts : List (Nat × Operand)} {vs : List (Nat × Value)} (zs : List (List Value)) (hop : o.op = .build t parts.toArray) (hp : partsOf L parts = some vs) (hcs : bld vs 0 zs = cs) (hrun : ∀ w : World, (Instr.build t vs.toArray).run P w = .ok (.agg cs.toArray) w) : Rd ds P o n L Z (.agg cs.toArray) :=
  rd_run fun a hF w _ => by
    have hpp := partsOf_eval hF hp
    have e1 : Array.map (fun x => (x.1, a.eval x.2)) parts.toArray = vs.toArray := by simp [← hpp]
    simp only [execOp, hop, e1]
    simp [hrun]

/-! a slice's part, not at its very end -/
theorem rd_slbn {len cap : Nat} {lo hi : Operand} {k' : IntKind} (hop : o.op = .slice t x (some lo) (some hi) none) (hx : oper L x = some (.slice (some ⟨b, off, none⟩) len cap)) (hl : oper L lo = some (.int k i)) (hh : oper L hi = some (.int k' j)) (hu : P.underlying t = some (.slice e)) (hs : (P.info? e).map (·.size) = some sz)
    (hb : 0 ≤ i ∧ i ≤ j ∧ j ≤ (cap : Int) ∧ i < (cap : Int)) {q1 q2 q3 : Nat} (h1 : off + i.toNat * sz = q1) (h2 : j.toNat - i.toNat = q2) (h3 : cap - i.toNat = q3) : Rd ds P o n L (St ok w0 own fs) (.slice (some ⟨b, q1, none⟩) q2 q3) := by
  have := rd_slb (ds := ds) (P := P) (n := n) (ok := ok) (w0 := w0) (own := own) (fs := fs) hop hx hl hh hu hs ⟨hb.1, hb.2.1, hb.2.2.1⟩ rfl rfl rfl
  rwa [cut, if_neg (by omega), Option.map_some, Addr.add_lit, h1, h2, h3] at this
theorem rd_slfn {len cap : Nat} {lo : Operand} (hop : o.op = .slice t x (some lo) none none) (hx : oper L x = some (.slice (some ⟨b, off, none⟩) len cap)) (hl : oper L lo = some (.int k i)) (hu : P.underlying t = some (.slice e)) (hs : (P.info? e).map (·.size) = some sz)
    (hb : 0 ≤ i ∧ i ≤ (len : Int) ∧ i < (cap : Int)) {q1 q2 q3 : Nat} (h1 : off + i.toNat * sz = q1) (h2 : len - i.toNat = q2) (h3 : cap - i.toNat = q3) : Rd ds P o n L (St ok w0 own fs) (.slice (some ⟨b, q1, none⟩) q2 q3) := by
  have := rd_slf (ds := ds) (P := P) (n := n) (ok := ok) (w0 := w0) (own := own) (fs := fs) hop hx hl hu hs ⟨hb.1, hb.2.1⟩ rfl rfl rfl
  rwa [cut, if_neg (by omega), Option.map_some, Addr.add_lit, h1, h2, h3] at this

/-! natural numbers stay natural numbers -/
section
variable {a c : Nat}
theorem rd_add64n (hop : o.op = .binOp .add t x y t2) (hx : oper L x = some (.int .i64 (a : Int))) (hy : oper L y = some (.int .i64 (c : Int))) (h : a + c ≤ 9223372036854775807) : Rd ds P o n L Z (.int .i64 ((a + c : Nat) : Int)) := by
  rw [Int.natCast_add]; exact rd_add64 hop hx hy (by omega)
theorem rd_sub64n (hop : o.op = .binOp .sub t x y t2) (hx : oper L x = some (.int .i64 (a : Int))) (hy : oper L y = some (.int .i64 (c : Int))) (h : c ≤ a ∧ a ≤ 9223372036854775807) : Rd ds P o n L Z (.int .i64 ((a - c : Nat) : Int)) := by
  rw [Int.natCast_sub h.1]; exact rd_sub64 hop hx hy (by omega)
theorem rd_mul64n (hop : o.op = .binOp .mul t x y t2) (hx : oper L x = some (.int .i64 (a : Int))) (hy : oper L y = some (.int .i64 (c : Int))) (h : a * c ≤ 9223372036854775807) : Rd ds P o n L Z (.int .i64 ((a * c : Nat) : Int)) := by
  have h0 : 0 ≤ (a : Int) * (c : Int) := Int.mul_nonneg (by omega) (by omega)
  have h1 : (a : Int) * (c : Int) ≤ 9223372036854775807 := by rw [← Int.natCast_mul]; omega
  rw [Int.natCast_mul]; exact rd_mul64 hop hx hy ⟨by omega, h1⟩
theorem rd_quo64n (hop : o.op = .binOp .quo t x y t2) (hx : oper L x = some (.int .i64 (a : Int))) (hy : oper L y = some (.int .i64 (c : Int))) (h : 0 < c ∧ a ≤ 9223372036854775807) : Rd ds P o n L Z (.int .i64 ((a / c : Nat) : Int)) := by
  have := rd_quo (ds := ds) (P := P) (n := n) (St := Z) hop hx hy (by omega)
  rw [Int.tdiv_eq_ediv_of_nonneg (by omega), ← Int.natCast_ediv] at this
  have h2 : a / c ≤ a := Nat.div_le_self _ _
  have h3 : -9223372036854775808 ≤ ((a / c : Nat) : Int) ∧ ((a / c : Nat) : Int) ≤ 9223372036854775807 := by generalize a / c = q at h2; omega
  rwa [IntWalk.i64_in _ h3] at this
theorem rd_rem64n (hop : o.op = .binOp .rem t x y t2) (hx : oper L x = some (.int .i64 (a : Int))) (hy : oper L y = some (.int .i64 (c : Int))) (h : 0 < c) : Rd ds P o n L Z (.int .i64 ((a % c : Nat) : Int)) := by
  have := rd_rem (ds := ds) (P := P) (n := n) (St := Z) hop hx hy (by omega)
  rwa [Int.tmod_eq_emod_of_nonneg (by omega), ← Int.natCast_emod] at this
theorem rd_add64ln (hop : o.op = .binOp .add t x y t2) (hx : oper L x = some (.int .i64 (@OfNat.ofNat Int a instOfNat))) (hy : oper L y = some (.int .i64 (c : Int))) (h : (@OfNat.ofNat Nat a (instOfNatNat a)) + c ≤ 9223372036854775807) : Rd ds P o n L Z (.int .i64 (((@OfNat.ofNat Nat a (instOfNatNat a)) + c : Nat) : Int)) := rd_add64n hop hx hy h
theorem rd_add64nl (hop : o.op = .binOp .add t x y t2) (hx : oper L x = some (.int .i64 (a : Int))) (hy : oper L y = some (.int .i64 (@OfNat.ofNat Int c instOfNat))) (h : a + (@OfNat.ofNat Nat c (instOfNatNat c)) ≤ 9223372036854775807) : Rd ds P o n L Z (.int .i64 ((a + (@OfNat.ofNat Nat c (instOfNatNat c)) : Nat) : Int)) := rd_add64n hop hx hy h
theorem rd_sub64ln (hop : o.op = .binOp .sub t x y t2) (hx : oper L x = some (.int .i64 (@OfNat.ofNat Int a instOfNat))) (hy : oper L y = some (.int .i64 (c : Int))) (h : c ≤ (@OfNat.ofNat Nat a (instOfNatNat a)) ∧ (@OfNat.ofNat Nat a (instOfNatNat a)) ≤ 9223372036854775807) : Rd ds P o n L Z (.int .i64 (((@OfNat.ofNat Nat a (instOfNatNat a)) - c : Nat) : Int)) := rd_sub64n hop hx hy h
theorem rd_sub64nl (hop : o.op = .binOp .sub t x y t2) (hx : oper L x = some (.int .i64 (a : Int))) (hy : oper L y = some (.int .i64 (@OfNat.ofNat Int c instOfNat))) (h : (@OfNat.ofNat Nat c (instOfNatNat c)) ≤ a ∧ a ≤ 9223372036854775807) : Rd ds P o n L Z (.int .i64 ((a - (@OfNat.ofNat Nat c (instOfNatNat c)) : Nat) : Int)) := rd_sub64n hop hx hy h
theorem rd_mul64ln (hop : o.op = .binOp .mul t x y t2) (hx : oper L x = some (.int .i64 (@OfNat.ofNat Int a instOfNat))) (hy : oper L y = some (.int .i64 (c : Int))) (h : (@OfNat.ofNat Nat a (instOfNatNat a)) * c ≤ 9223372036854775807) : Rd ds P o n L Z (.int .i64 (((@OfNat.ofNat Nat a (instOfNatNat a)) * c : Nat) : Int)) := rd_mul64n hop hx hy h
theorem rd_mul64nl (hop : o.op = .binOp .mul t x y t2) (hx : oper L x = some (.int .i64 (a : Int))) (hy : oper L y = some (.int .i64 (@OfNat.ofNat Int c instOfNat))) (h : a * (@OfNat.ofNat Nat c (instOfNatNat c)) ≤ 9223372036854775807) : Rd ds P o n L Z (.int .i64 ((a * (@OfNat.ofNat Nat c (instOfNatNat c)) : Nat) : Int)) := rd_mul64n hop hx hy h
theorem rd_quo64ln (hop : o.op = .binOp .quo t x y t2) (hx : oper L x = some (.int .i64 (@OfNat.ofNat Int a instOfNat))) (hy : oper L y = some (.int .i64 (c : Int))) (h : 0 < c ∧ (@OfNat.ofNat Nat a (instOfNatNat a)) ≤ 9223372036854775807) : Rd ds P o n L Z (.int .i64 (((@OfNat.ofNat Nat a (instOfNatNat a)) / c : Nat) : Int)) := rd_quo64n hop hx hy h
theorem rd_quo64nl (hop : o.op = .binOp .quo t x y t2) (hx : oper L x = some (.int .i64 (a : Int))) (hy : oper L y = some (.int .i64 (@OfNat.ofNat Int c instOfNat))) (h : 0 < (@OfNat.ofNat Nat c (instOfNatNat c)) ∧ a ≤ 9223372036854775807) : Rd ds P o n L Z (.int .i64 ((a / (@OfNat.ofNat Nat c (instOfNatNat c)) : Nat) : Int)) := rd_quo64n hop hx hy h
theorem rd_rem64ln (hop : o.op = .binOp .rem t x y t2) (hx : oper L x = some (.int .i64 (@OfNat.ofNat Int a instOfNat))) (hy : oper L y = some (.int .i64 (c : Int))) (h : 0 < c) : Rd ds P o n L Z (.int .i64 (((@OfNat.ofNat Nat a (instOfNatNat a)) % c : Nat) : Int)) := rd_rem64n hop hx hy h
theorem rd_rem64nl (hop : o.op = .binOp .rem t x y t2) (hx : oper L x = some (.int .i64 (a : Int))) (hy : oper L y = some (.int .i64 (@OfNat.ofNat Int c instOfNat))) (h : 0 < (@OfNat.ofNat Nat c (instOfNatNat c))) : Rd ds P o n L Z (.int .i64 ((a % (@OfNat.ofNat Nat c (instOfNatNat c)) : Nat) : Int)) := rd_rem64n hop hx hy h
theorem rd_remN {k : IntKind} (hop : o.op = .binOp .rem t x y t2) (hx : oper L x = some (.int k (a : Int))) (hy : oper L y = some (.int k (@OfNat.ofNat Int c instOfNat))) (h : 0 < c) : Rd ds P o n L Z (.int k ((a % (@OfNat.ofNat Nat c (instOfNatNat c)) : Nat) : Int)) := by
  have := rd_rem (ds := ds) (P := P) (n := n) (St := Z) hop hx hy (by show ((c : Nat) : Int) ≠ 0; omega)
  rwa [Int.tmod_eq_emod_of_nonneg (by omega), show (@OfNat.ofNat Int c instOfNat) = ((c : Nat) : Int) from rfl, ← Int.natCast_emod] at this
theorem rd_quoN {k : IntKind} (hop : o.op = .binOp .quo t x y t2) (hx : oper L x = some (.int k (a : Int))) (hy : oper L y = some (.int k (@OfNat.ofNat Int c instOfNat))) (h : 0 < c) (hw : k.wrap ((a / (@OfNat.ofNat Nat c (instOfNatNat c)) : Nat) : Int) = ((a / (@OfNat.ofNat Nat c (instOfNatNat c)) : Nat) : Int)) : Rd ds P o n L Z (.int k ((a / (@OfNat.ofNat Nat c (instOfNatNat c)) : Nat) : Int)) := by
  have := rd_quo (ds := ds) (P := P) (n := n) (St := Z) hop hx hy (by show ((c : Nat) : Int) ≠ 0; omega)
  rw [Int.tdiv_eq_ediv_of_nonneg (by omega), show (@OfNat.ofNat Int c instOfNat) = ((c : Nat) : Int) from rfl, ← Int.natCast_ediv] at this
  rw [← hw]; exact this
end

/-! a callee that hands back memory of its own, or lets the caller's stand -/
theorem St.fresh {w : World} (h : St ok w0 own fs w) : ∀ b, w.heap.size ≤ b → ok b ∧ b ∉ ids own := fun b hb =>
  ⟨h.okn b (Nat.le_trans h.below.size hb), fun hm => by have := (h.lt hm).2; omega⟩
theorem keep_fact {f : FuncId} {args : Array Value} {F : γ → List Fact} (h : ∀ w, St ok w0 own fs w → Calls P f args w (fun e w' => ∃ g, e = .returned (val g) ∧ Below w.heap.size w w' ∧ ∀ x ∈ F g, x.holds (fun b => ok b ∧ b ∉ ids own) w')) :
    ∀ w, St ok w0 own fs w → Calls P f args w (fun e w' => ∃ g, e = .returned (val g) ∧ St ok w0 own (F g ++ fs) w') :=
  fun w hS => (h w hS).mono fun _ _ ⟨g, he, hb, hF⟩ => ⟨g, he, by
    have h1 := hS.keep hb
    exact ⟨h1.okn, h1.below, h1.own_, h1.nd, fun x hx => (List.mem_append.1 hx).elim (hF x) (h1.fact x)⟩⟩
theorem st_freeze {w : World} {xs sp : List Value} (h : St ok w0 (⟨some b, xs ++ sp, T⟩ :: r) fs w) : St ok w0 r (Fact.sl (some ⟨b, 0, none⟩) xs :: fs) w :=
  h.freeze fun i hi => by rw [Nat.zero_add, List.getElem?_append_left hi]

/-- append of what lies elsewhere -/
theorem appx {len cap : Nat} {ob : Option Nat} {news sp : List Value} {zv : Value} {m c : Nat} {ad : Option Addr} (hop : o.op = .call { callee := .builtin .append, args := #[x, y], argTypes := #[t, t] }) (hu : P.underlying t = some (.slice e)) (hi : (P.info? e).map (fun i => (i.zero, i.size, i.bytes)) = some (some zv, 1, sz)) (h1 : zv.cells = #[zv])
    (hk : Ctx own ⟨ob, xs ++ sp, e⟩ C) (hx : oper L x = some (.slice (ob.map fun b => ⟨b, 0, none⟩) len cap)) (hy : oper L y = some (.slice ad m c)) (hsrc : ∀ w, St ok w0 own fs w → (Fact.sl ad news).holds (fun _ => True) w) (hm : news.length = m)
    (hb : xs.length = len ∧ cap = len + sp.length ∧ 0 < m ∧ len + m ≤ 9223372036854775807 ∧ (len + m) * sz ≤ 140737488355328) (h1c : ∀ u ∈ news, u.oneCell' = true) :
    Og ds P o n L (St ok w0 own fs) (fun g : App => .slice (some ⟨g.b, 0, none⟩) (len + m) g.cap) (fun g w => (len + m ≤ g.cap ∧ g.cap = len + m + g.spare.length) ∧ St ok w0 (C ⟨some g.b, (xs ++ news) ++ g.spare, e⟩) fs w) :=
  og_run fun a hF w hS => by
    obtain ⟨kk, hkk, hC⟩ := hk.get
    obtain ⟨hxl, hcap, hpos, h63, hbb⟩ := hb
    have htake : (xs ++ sp).take len = xs := by rw [← hxl]; simp
    have hs : Src w (.slice ad m c) m news := by
      rcases hsrc w hS with h0 | ⟨b', off', cells, T', fz, e1, _, e3, e4⟩
      · subst h0; simp at hm; omega
      · subst e1
        refine ⟨_, _, rfl, (fun h => by cases h), fun a ha q u hq => ?_⟩
        obtain rfl := Option.some.inj ha
        have hlt : q < news.length := (List.getElem?_eq_some_iff.1 hq).1
        rw [Addr.add_lit]; simp [World.cell?, e3, e4 q hlt, hq]
    obtain ⟨g, w', hrun, hp, hS'⟩ := run_app (P := P) (ty := o.type) hS hkk hu hi h1 (by omega : len ≤ cap) (by simp; omega) hs hm h1c hpos h63 hbb
    rw [htake] at hp hS'
    refine ⟨g, w', .inl ?_, ⟨hp.1, ?_⟩, ?_⟩
    · simp [execOp, hop, resolve, invoke, builtin, hF.eval hx, hF.eval hy, hrun]
    · rw [hp.2]; simp [hxl, hm]; omega
    · rw [hC]; exact hS'

/-! small ones -/
theorem rd_pickt {c : Operand} (hop : o.op = .pick c x y) (hc : oper L c = some (.bool true)) (hx : oper L x = some v) : Rd ds P o n L Z v := rd_run fun a hF w _ => by simp [execOp, hop, hF.eval hc, hF.eval hx, asBool]
theorem rd_pickf {c : Operand} (hop : o.op = .pick c x y) (hc : oper L c = some (.bool false)) (hy : oper L y = some v) : Rd ds P o n L Z v := rd_run fun a hF w _ => by simp [execOp, hop, hF.eval hc, hF.eval hy, asBool]
theorem rd_nil {ad : Addr} (hop : o.op = .nilCheck x) (hx : oper L x = some (.pointer (some ad))) : Rd ds P o n L Z (.pointer (some ad)) := rd_run fun a hF w _ => by simp [execOp, hop, hF.eval hx]
theorem rd_neg64 (hop : o.op = .unOp .neg t x) (hx : oper L x = some (.int .i64 i)) (h : -9223372036854775808 ≤ 0 - i ∧ 0 - i ≤ 9223372036854775807) : Rd ds P o n L Z (.int .i64 (0 - i)) := by
  have := rd_neg (ds := ds) (P := P) (n := n) (St := Z) hop hx; rwa [IntWalk.i64_in _ h] at this
theorem rd_quo64 (hop : o.op = .binOp .quo t x y t2) (hx : oper L x = some (.int .i64 i)) (hy : oper L y = some (.int .i64 j)) (h : 0 ≤ i ∧ 0 < j ∧ i ≤ 9223372036854775807) : Rd ds P o n L Z (.int .i64 (i / j)) := by
  have := rd_quo (ds := ds) (P := P) (n := n) (St := Z) hop hx hy (by omega)
  rw [Int.tdiv_eq_ediv_of_nonneg h.1] at this
  rwa [IntWalk.i64_in] at this
  have h1 : 0 ≤ i / j := Int.ediv_nonneg h.1 (by omega)
  have h2 : i / j ≤ i := Int.ediv_le_self _ h.1
  omega
theorem rd_rem64 (hop : o.op = .binOp .rem t x y t2) (hx : oper L x = some (.int .i64 i)) (hy : oper L y = some (.int .i64 j)) (h : 0 ≤ i ∧ 0 < j) : Rd ds P o n L Z (.int .i64 (i % j)) := by
  have := rd_rem (ds := ds) (P := P) (n := n) (St := Z) hop hx hy (by omega)
  rwa [Int.tmod_eq_emod_of_nonneg h.1] at this
theorem rd_x20 {v u : Value} (hop : o.op = .extract x 0) (hx : oper L x = some (.tuple #[v, u])) : Rd ds P o n L Z v := rd_ext hop hx rfl
theorem rd_x21 {v u : Value} (hop : o.op = .extract x 1) (hx : oper L x = some (.tuple #[v, u])) : Rd ds P o n L Z u := rd_ext hop hx rfl
theorem rd_x30 {v u q : Value} (hop : o.op = .extract x 0) (hx : oper L x = some (.tuple #[v, u, q])) : Rd ds P o n L Z v := rd_ext hop hx rfl
theorem rd_x31 {v u q : Value} (hop : o.op = .extract x 1) (hx : oper L x = some (.tuple #[v, u, q])) : Rd ds P o n L Z u := rd_ext hop hx rfl
theorem rd_x32 {v u q : Value} (hop : o.op = .extract x 2) (hx : oper L x = some (.tuple #[v, u, q])) : Rd ds P o n L Z q := rd_ext hop hx rfl
theorem rd_beq {p q : Bool} (hop : o.op = .binOp .eql t x y t2) (hx : oper L x = some (.bool p)) (hy : oper L y = some (.bool q)) (hu : P.underlying t = some .bool) : Rd ds P o n L Z (.bool (p == q)) :=
  run_bin hop hx hy (guard_bool _ _ _) fun w => run_eql_bool w t p q hu
theorem rd_mkf {fn : Fn} {fa ca : List Operand} {fv cv : List Value} (hop : o.op = .makeFunc fn fa.toArray ca.toArray) (hf : argsOf L fa = some fv) (hc : argsOf L ca = some cv) : Rd ds P o n L Z (.func fn fv.toArray cv.toArray) := rd_run fun a hF w _ => by
  have h1 := argsOf_eval hF hf; have h2 := argsOf_eval hF hc
  simp [execOp, hop, Instr.makeFunc, h1, h2]

theorem rd_build {parts : List (Nat × Operand)} {vs : List (Nat × Value)} (hop : o.op = .build t parts.toArray) (hp : partsOf L parts = some vs) (hrun : ∀ w : World, (Instr.build t vs.toArray).run P w = .ok v w) : Rd ds P o n L Z v :=
  rd_run fun a hF w _ => by
    have hpp := partsOf_eval hF hp
    have e1 : Array.map (fun x => (x.1, a.eval x.2)) parts.toArray = vs.toArray := by simp [← hpp]
    simp only [execOp, hop, e1]
    simp [hrun]
end

/-! pure facts beside a world's predicate; existence -/
section
variable {ds : List Deferred} {ρ : Option Nat} {P : Program} {ops : List Oper} {C S : World → Prop} {Q : Exit → Act → World → Prop} {n : Nat} {rest : List Oper} {L : Slots} {marks : List Nat} {p : Prop}
theorem WM.r1 {o : Oper} {d : Nat} {v : Value} (hw : wantO ops L o = some true) (hdst : o.dst = some d) (hd : Nat.blt d n = true) (h : Rd ds P o n L S v) (hC : ∀ w, S w → C w) (k : WM ds P ops C Q n marks rest ((d, v) :: L) S) : WM ds P ops C Q n (1 :: marks) (o :: rest) L S :=
  WM.op hw (by rw [hdst]; exact hd) (Op1.of_rd h) (fun _ w hh => hC w hh.2) fun _ a w hF hh => by obtain ⟨rfl, hS⟩ := hh; rw [hdst] at hF; exact k a w hF hS
theorem WL.pu (k : p → WL ds P ops Q n rest L S) : WL ds P ops Q n rest L (fun w => p ∧ S w) := fun a w hF hS => k hS.1 a w hF hS.2
theorem WM.pu (k : p → WM ds P ops C Q n marks rest L S) : WM ds P ops C Q n marks rest L (fun w => p ∧ S w) := fun a w hF hS => k hS.1 a w hF hS.2
theorem WC.pu {c : Code} (k : p → WC ds ρ P c Q n L S) : WC ds ρ P c Q n L (fun w => p ∧ S w) := fun a w hF hS => k hS.1 a w hF hS.2
end

/-! ### Entry and return -/
section
variable {ds : List Deferred} {ρ : Option Nat} {P : Program} {fn : Func} {f : FuncId} {c : Code} {R : Ending → World → Prop} {n : Nat} {L : Slots} {S : World → Prop} {v u q : Value}

theorem enter {args : Array Value} {w : World} (hf : P.funcs[f]? = some fn) (hb : fn.body = some c) (hn : fn.ntmps = n) (ha : Nat.ble args.size n = true) (hL : ∀ k v, slot L k = some v → args[k]? = some v) (hS : S w) (k : WC [] none P c (bodyPost P fn R) n L S) : Calls P f args w R := by
  refine callsIn_wide.1 (callsIn_of_wp (F := Fence.wide) (n := 0) hf hb trivial (k _ w (Fr.enter ?_ hL) hS))
  have := Nat.le_of_ble_eq_true ha
  omega

theorem WX.ret_normal (k : WX [] (bodyPost P fn R) .ret n L S) : WX [] (bodyPost P fn R) .normal n L S := k

theorem WX.ret0 (hr : fn.results = #[]) (h : ∀ w, S w → R (.returned (.tuple #[])) w) : WX [] (bodyPost P fn R) .ret n L S := fun a w hF hS =>
  bodyPost_ret (results_none hr _ _ _) hF.defers (h w hS)
theorem WX.ret1 {r : Nat} (hr : fn.results = #[.tmp r]) (hs : slot L r = some v) (h : ∀ w, S w → R (.returned v) w) : WX [] (bodyPost P fn R) .ret n L S := fun a w hF hS =>
  bodyPost_ret (results_tmp hr _ _ _) hF.defers (by have := hF.at_ r v hs; simp [this]; exact h w hS)
theorem WX.ret2 {r r2 : Nat} (hr : fn.results = #[.tmp r, .tmp r2]) (hs : slot L r = some v) (hs2 : slot L r2 = some u) (h : ∀ w, S w → R (.returned (.tuple #[v, u])) w) : WX [] (bodyPost P fn R) .ret n L S := fun a w hF hS =>
  bodyPost_ret (results_tmp2 hr _ _ _) hF.defers (by have h1 := hF.at_ r v hs; have h2 := hF.at_ r2 u hs2; simp [h1, h2]; exact h w hS)
theorem WX.ret3 {r r2 r3 : Nat} (hr : fn.results = #[.tmp r, .tmp r2, .tmp r3]) (hs : slot L r = some v) (hs2 : slot L r2 = some u) (hs3 : slot L r3 = some q) (h : ∀ w, S w → R (.returned (.tuple #[v, u, q])) w) : WX [] (bodyPost P fn R) .ret n L S := fun a w hF hS =>
  bodyPost_ret (results_tmp3 hr _ _ _) hF.defers (by have h1 := hF.at_ r v hs; have h2 := hF.at_ r2 u hs2; have h3 := hF.at_ r3 q hs3; simp [h1, h2, h3]; exact h w hS)
/-- one struct or array result, in its own block -/
theorem WX.ret1c {r b : Nat} {t T : TypeId} {cs : List Value} {ok : Nat → Prop} {w0 : World} {own : List Ent} {fs : List Fact} {d : TypeDesc} (hr : fn.results = #[.cell r t]) (hs : slot L r = some (.pointer (some ⟨b, 0, none⟩))) (hk : InE own ⟨some b, cs, T⟩) (hu : P.underlying t = some d) (hd : isAggD d = true) (hsz : (P.info? t).map (·.size) = some cs.length)
    (h : ∀ w, St ok w0 own fs w → R (.returned (.agg cs.toArray)) w) : WX [] (bodyPost P fn R) .ret n L (St ok w0 own fs) := fun a w hF hS => by
  obtain ⟨kk, hk⟩ := hk.get
  refine bodyPost_ret ?_ hF.defers (h w hS)
  have h1 := hF.at_ r _ hs
  have h2 := run_lda (P := P) (off := 0) (xs := cs) (hS.block hk) (fun i _ => by simp) hu hd hsz
  simp [results, hr, h1, asAddr, h2]
end
end Go.Proofs.YtbcnnkcddilfjaaGreat
