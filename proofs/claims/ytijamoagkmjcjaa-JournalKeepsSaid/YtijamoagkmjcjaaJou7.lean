/-
  Open.
-/
import Derived.Test.YtijamoagkmjcjaaJou6
namespace Go.Proofs.Ytijamoagkmjcjaa
set_option linter.unusedSimpArgs false
set_option linter.unusedVariables false
set_option maxRecDepth 20000
open Go.RowKit

/-- the entries so far, where they begin and end, the error -/
structure OS where
  out : List Bs
  fr : Nat
  to : Nat
  r : Int
def errO (s : OS) (x : It) : Int :=
  if x.e ≠ 0 then x.e else if x.k.toNat = 69 then (if 65536 < x.c.length then 3 else if 4096 < s.out.length + 1 then 6 else 0) else if (unl x.c).2 = false then 3 else 0
def afterO (s : OS) (x : It) : OS :=
  if x.e ≠ 0 then { s with r := x.e }
  else if x.k.toNat = 69 then (if 65536 < x.c.length then { s with r := 3 } else if 4096 < s.out.length + 1 then { s with out := s.out ++ [x.c], r := 6 } else { s with out := s.out ++ [x.c], to := x.to })
  else if (unl x.c).2 = false then { s with r := 3 } else { s with out := (unl x.c).1, fr := x.fr, to := x.to }
def stopO (s : OS) (x : It) : Option Code := if errO s x ≠ 0 then some .ret else none
def openS (d : Bs) : OS × Option Code := itJ d afterO stopO (d.length + 1) 0 ⟨[], 0, 0, 0⟩
def opn (d : Dk) : List Bs × Dk × Int :=
  if d.pend ≠ [] then ([], .zero, 26) else if (openS d.safe).2.isSome then ([], .zero, (openS d.safe).1.r)
  else ((openS d.safe).1.out, ⟨(d.safe.drop (openS d.safe).1.fr).take ((openS d.safe).1.to - (openS d.safe).1.fr), [], false⟩, 0)
abbrev OCO (d : Dk) (a : Option Addr) (cap bs b7 b6 b5 b4 b3 b2 b1 : Nat) (s : OS) (g : Rs) : List Ent :=
  [g.ent (strs s.out) 9, ⟨some bs, [.string (S d.safe)], 9⟩, ⟨some b7, [.int .i64 (s.to : Int)], 3⟩, ⟨some b6, [.int .i64 (s.fr : Int)], 3⟩, ⟨some b5, [g.val s.out.length], 22⟩,
   ⟨some b4, [.int .i64 s.r], 27⟩, ⟨some b3, [.string (S []), .slice none 0 0, .bool false], 24⟩, ⟨some b2, [.slice none 0 0], 22⟩, ⟨some b1, [.string (S d.safe), .slice a d.pend.length cap, .bool d.crash], 24⟩]

theorem nextJ_fr {d : Bs} {p : Nat} {x : It} (h : nextJ d p = some x) : x.fr = p := by
  unfold nextJ at h
  split at h
  · cases h
  · split at h
    · injection h with h; subst h; rfl
    · split at h
      · cases h
      · split at h <;> (injection h with h; subst h; rfl)
theorem itO_ret (d : Bs) : ∀ (f p : Nat) (s : OS), (itJ d afterO stopO f p s).2 = none ∨ (itJ d afterO stopO f p s).2 = some .ret
  | 0, p, s => .inl rfl
  | f + 1, p, s => by
    unfold itJ
    cases hn : nextJ d p with
    | none => exact .inl rfl
    | some x =>
      simp only
      split
      · simp only [stopO]; split
        · exact .inr rfl
        · exact .inl rfl
      · exact itO_ret d f _ _
theorem itO_ends (d : Bs) : ∀ (f p : Nat) (s : OS), s.fr ≤ s.to → s.to ≤ d.length → s.fr ≤ p → (itJ d afterO stopO f p s).2 = none → (itJ d afterO stopO f p s).1.fr ≤ (itJ d afterO stopO f p s).1.to ∧ (itJ d afterO stopO f p s).1.to ≤ d.length
  | 0, p, s, h1, h2, _, _ => ⟨h1, h2⟩
  | f + 1, p, s, h1, h2, h3, h => by
    unfold itJ at h ⊢
    cases hn : nextJ d p with
    | none => exact ⟨h1, h2⟩
    | some x =>
      simp only [hn] at h ⊢
      by_cases hx : x.e ≠ 0 ∨ (stopO s x).isSome
      · rw [if_pos hx] at h ⊢
        exfalso
        simp only [stopO] at h hx
        rcases hx with hx | hx
        · simp [errO, hx] at h
        · rw [h] at hx; simp at hx
      · rw [if_neg hx] at h ⊢
        have he : x.e = 0 := by simp at hx; exact hx.1
        have hs : errO s x = 0 := by
          have : stopO s x = none := by simp at hx; exact hx.2
          simpa [stopO] using this
        have ht := nextJ_to hn he
        have hf := nextJ_fr hn
        have key : (afterO s x).fr ≤ (afterO s x).to ∧ (afterO s x).to ≤ d.length ∧ (afterO s x).fr ≤ x.to := by
          unfold errO at hs; unfold afterO
          rw [if_neg (by simp [he])] at hs ⊢
          split at hs
          · rename_i h69
            rw [if_pos h69]
            split at hs
            · cases hs
            · rename_i h5
              rw [if_neg h5]
              split at hs
              · cases hs
              · rename_i h6
                rw [if_neg h6]; simp only; omega
          · rename_i h69
            rw [if_neg h69]
            split at hs
            · cases hs
            · rename_i h5
              rw [if_neg h5]; simp only; omega
        exact itO_ends d f x.to (afterO s x) key.1 key.2.1 key.2.2 h
theorem opn_ret {v : List Bs × Dk × Int} {out : List Bs} {q : Rs} {s : Bs} {n : Int} {ok : Nat → Prop} {w0 w : World} {own : List Ent} {fs : List Fact} {T : TypeId} (hr : v = (out, ⟨s, [], false⟩, n)) (hq : q.cap = out.length + q.sp.length) (hS : St ok w0 own fs w) (hm : q.ent (strs out) T ∈ own) :
    ∃ g : Rs, Ending.returned (tup [q.val out.length, .agg #[.string (S s), .slice none 0 0, .bool false], .int .i64 n]) = Ending.returned (.tuple #[g.val v.1.length, .agg #[.string (S v.2.1.safe), .slice none 0 0, .bool false], .int .i64 v.2.2]) ∧ g.cap = v.1.length + g.sp.length ∧ St ok w0 [g.ent (strs v.1) T] [] w := by
  subst hr
  exact ⟨q, rfl, hq, hS.sub (List.singleton_sublist.2 hm) (fun _ h => by cases h)⟩
theorem opn_ret0 {v : List Bs × Dk × Int} {n : Int} {ok : Nat → Prop} {w0 w : World} {own : List Ent} {fs : List Fact} {T : TypeId} (hr : v = ([], .zero, n)) (hS : St ok w0 own fs w) :
    ∃ g : Rs, Ending.returned (tup [.slice none 0 0, .agg #[.string (S []), .slice none 0 0, .bool false], .int .i64 n]) = Ending.returned (.tuple #[g.val v.1.length, .agg #[.string (S v.2.1.safe), .slice none 0 0, .bool false], .int .i64 v.2.2]) ∧ g.cap = v.1.length + g.sp.length ∧ St ok w0 [g.ent (strs v.1) T] [] w :=
  opn_ret (out := []) (q := ⟨none, 0, []⟩) (s := []) hr rfl (hS.nil T) (by simp [Rs.ent])
theorem st_in {ok : Nat → Prop} {w0 w : World} {fs : List Fact} {e b x : Ent} {ext r : List Ent} (h : St ok w0 (e :: b :: (ext ++ x :: r)) fs w) : St ok w0 (ext ++ e :: r) fs w :=
  (h.sub (own' := e :: (ext ++ r)) ((((List.Sublist.refl ext).append (List.sublist_cons_self x r)).cons b).cons_cons e) (fun _ h => h)).perm List.perm_middle
theorem open_c {d : Dk} {a : Option Addr} {cap : Nat} {w : World} {ok : Nat → Prop} (hF1 : (Fact.sl a (strs d.pend)).holds ok w) (hs : d.safe.length ≤ 1000000) (hl : d.pend.length ≤ 100000) :
    Calls Try.prog 14 #[.agg #[.string (S d.safe), .slice a d.pend.length cap, .bool d.crash]] w fun e w' => ∃ g : Rs, e = .returned (.tuple #[g.val (opn d).1.length, .agg #[.string (S (opn d).2.1.safe), .slice none 0 0, .bool false], .int .i64 (opn d).2.2]) ∧ g.cap = (opn d).1.length + g.sp.length ∧ St (fun _ => True) w [g.ent (strs (opn d).1) 9] [] w' := by
  refine enterM (S := St (fun _ => True) w [] [Fact.sl a (strs d.pend)]) (L := [(0, .agg #[.string (S d.safe), .slice a d.pend.length cap, .bool d.crash])]) Try.func14 rfl Try.ntmps14 rfl (args_cons rfl (args_nil _)) (St.start (fun _ _ => trivial) (facts_cons (fact_any hF1) facts_nil)) ?_
  refine WC.sr ?_
  refine WL.g rfl rfl rfl (og_box rfl rfl rfl) ?_
  intro b1
  refine WL.g rfl rfl rfl (og_alloc rfl (v := (.slice none 0 0)) (cs := [.slice none 0 0]) (by kernel_rfl) rfl) ?_
  intro b2
  refine WL.g rfl rfl rfl (og_alloc rfl (v := (.agg #[.string (S []), .slice none 0 0, .bool false])) (cs := [.string (S []), .slice none 0 0, .bool false]) (by kernel_rfl) rfl) ?_
  intro b3
  refine WL.g rfl rfl rfl (og_alloc rfl (v := (.int .i64 0)) (cs := [.int .i64 0]) (by kernel_rfl) rfl) ?_
  intro b4
  refine WL.nt ?_
  refine WC.seq ?_
  refine WC.sr ?_
  first
    | (refine WL.r rfl rfl rfl (rd_fa rfl rfl Try.underlying24 rfl (by kernel_rfl) (by (try simp only [Int.toNat_natCast, Nat.mul_one, Nat.zero_add, Nat.add_zero, Nat.zero_mul, Int.reduceToNat, Nat.reduceAdd, Nat.reduceMul, Nat.reduceSub, Nat.sub_zero]); rfl)) ?_)
    | (refine WL.r rfl rfl rfl (faf rfl rfl Try.underlying24 rfl (by kernel_rfl) (by (try simp only [Int.toNat_natCast, Nat.mul_one, Nat.zero_add, Nat.add_zero, Nat.zero_mul, Int.reduceToNat, Nat.reduceAdd, Nat.reduceMul, Nat.reduceSub, Nat.sub_zero]); rfl)) ?_)
  first
    | (refine WL.r rfl rfl rfl (ld rfl rfl .tc Try.underlying22 rfl (by rfl)) ?_)
    | (refine WL.r rfl rfl rfl (ldm rfl rfl Try.underlying22 rfl ?_) ?_; (focus (first | assumption | omega | (simp <;> omega) | (simp; done))))
    | (refine WL.r rfl rfl rfl (ldom rfl rfl Try.underlying22 rfl ?_) ?_; (focus (first | assumption | omega | (simp <;> omega) | (simp; done))))
  refine WL.r rfl rfl rfl (rd_len rfl rfl Try.underlying22) ?_
  refine WL.r rfl rfl rfl (rd_gtr rfl rfl rfl) ?_
  refine WL.nt ?_
  refine WC.cond rfl (fun hc15 => ?_) (fun hc15 => ?_)
  · (try simp only [decide_eq_true_eq, decide_eq_false_iff_not, Bool.not_eq_true', Bool.not_eq_false', Bool.not_not, Int.not_lt, Int.not_le] at hc15)
    refine WC.sr ?_
    refine WL.r rfl rfl rfl (rd_bld [[.string (S [])], [.slice none 0 0], [.bool false]] rfl rfl (by simp only [bld, fldv, Nat.beq, Value.cells, cond_true, cond_false, List.nil_append, List.cons_append, List.append_nil]; rfl) (fun w => by kernel_rfl)) ?_
    refine WL.g0 rfl rfl (st rfl rfl rfl .tc (by kernel_rfl) rfl ?_ rfl) ?_
    · first | decide | (simp; done) | (simp <;> omega)
    intro _
    refine WL.g0 rfl rfl (sta rfl rfl rfl .tc ?_ ?_ ?_) ?_
    · kernel_rfl
    · simp [Value.oneCell']
    · first | rfl | simp
    intro _
    refine WL.g0 rfl rfl (st rfl rfl rfl .tc (by kernel_rfl) rfl ?_ rfl) ?_
    · first | decide | (simp; done) | (simp <;> omega)
    intro _
    refine WL.nt ?_
    refine WC.ret ?_
    refine WX.then_ret ?_
    exact WX.retM0 rfl (.one rfl .tc Try.underlying22 rfl (.agg rfl .tc Try.underlying24 rfl (by kernel_rfl) (.one rfl .tc Try.underlying27 rfl .nil))) fun w' hS => opn_ret0 (by rw [opn, if_pos (by intro h; rw [h] at hc15; simp at hc15)]) hS
  · (try simp only [decide_eq_true_eq, decide_eq_false_iff_not, Bool.not_eq_true', Bool.not_eq_false', Bool.not_not, Int.not_lt, Int.not_le] at hc15)
    refine WC.skip ?_
    refine WX.then_normal ?_
    refine WC.sr ?_
    refine WL.g rfl rfl rfl (og_alloc rfl (v := (.slice none 0 0)) (cs := [.slice none 0 0]) (by kernel_rfl) rfl) ?_
    intro b5
    refine WL.nt ?_
    refine WC.sr ?_
    refine WL.g rfl rfl rfl (og_alloc rfl (v := (.int .i64 0)) (cs := [.int .i64 0]) (by kernel_rfl) rfl) ?_
    intro b6
    refine WL.g rfl rfl rfl (og_alloc rfl (v := (.int .i64 0)) (cs := [.int .i64 0]) (by kernel_rfl) rfl) ?_
    intro b7
    refine WL.g0 rfl rfl (st rfl rfl rfl .tc (by kernel_rfl) rfl ?_ rfl) ?_
    · first | decide | (simp; done) | (simp <;> omega)
    intro _
    refine WL.g0 rfl rfl (st rfl rfl rfl .tc (by kernel_rfl) rfl ?_ rfl) ?_
    · first | decide | (simp; done) | (simp <;> omega)
    intro _
    refine WL.nt ?_
    refine WC.seq ?_
    refine WC.sr ?_
    first
      | (refine WL.r rfl rfl rfl (rd_fa rfl rfl Try.underlying24 rfl (by kernel_rfl) (by (try simp only [Int.toNat_natCast, Nat.mul_one, Nat.zero_add, Nat.add_zero, Nat.zero_mul, Int.reduceToNat, Nat.reduceAdd, Nat.reduceMul, Nat.reduceSub, Nat.sub_zero]); rfl)) ?_)
      | (refine WL.r rfl rfl rfl (faf rfl rfl Try.underlying24 rfl (by kernel_rfl) (by (try simp only [Int.toNat_natCast, Nat.mul_one, Nat.zero_add, Nat.add_zero, Nat.zero_mul, Int.reduceToNat, Nat.reduceAdd, Nat.reduceMul, Nat.reduceSub, Nat.sub_zero]); rfl)) ?_)
    first
      | (refine WL.r rfl rfl rfl (ld rfl rfl .tc Try.underlying9 rfl (by rfl)) ?_)
      | (refine WL.r rfl rfl rfl (ldm rfl rfl Try.underlying9 rfl ?_) ?_; (focus (first | assumption | omega | (simp <;> omega) | (simp; done))))
      | (refine WL.r rfl rfl rfl (ldom rfl rfl Try.underlying9 rfl ?_) ?_; (focus (first | assumption | omega | (simp <;> omega) | (simp; done))))
    refine WL.g rfl rfl rfl (og_call rfl rfl (by kernel_rfl) (fun w hS => records_c hS)) ?_
    intro b19
    refine WL.nt ?_
    refine WC.block ?_
    refine WC.range (CO := OCO d a cap b19 b7 b6 b5 b4 b3 b2 b1) (pg := fun s g => g.cap = s.out.length + g.sp.length ∧ s.out.length ≤ 4096 ∧ s.r = 0) (inv := fun s x => x.c.length ≤ 1000000) (after := afterO) (stop := stopO) (enc := It.enc) (⟨[], 0, 0, 0⟩) (⟨none, 0, []⟩) ((openS d.safe).1) ((openS d.safe).2) (⟨rfl, Nat.zero_le _, rfl⟩) rfl (by kernel_rfl) (fun _ => rfl) (by exact fun w h => h.nil _) ?_ (fun l r D w hl hY hS => iter_c hY hS ⟨rfl, Nat.zero_le _, rfl⟩ hs (fun s x h => Nat.le_trans h hs)) ?_ ?_
    · intro l r D f a s g x ext wr hl hi hpg hF hS
      unfold It.enc
      rw [fold2]
      refine round_of (Fr.tm ((hF.put (d := 20) rfl _).put (d := 21) rfl _)) hS ?_
      refine WR.sr (by kernel_rfl) ?_
      refine WL.g rfl rfl rfl (og_alloc rfl (v := (.agg #[.int .u8 0, .string (S []), .int .i64 0, .int .i64 0])) (cs := [.int .u8 0, .string (S []), .int .i64 0, .int .i64 0]) (by kernel_rfl) rfl) ?_
      intro b8
      refine WL.g0 rfl rfl (sta rfl rfl rfl .tc ?_ ?_ ?_) ?_
      · kernel_rfl
      · simp [Value.oneCell']
      · first | rfl | simp
      intro _
      refine WL.nt ?_
      refine WR.region (by kernel_rfl) ?_
      refine WL.r rfl rfl rfl (rd_assign rfl rfl) ?_
      refine WL.nil ?_
      refine WX.begin hl ?_
      refine WC.block ?_
      refine WC.seq ?_
      refine WR.sr (by kernel_rfl) ?_
      refine WL.r rfl rfl rfl (rd_move rfl rfl) ?_
      refine WL.r rfl rfl rfl (rd_neq rfl rfl rfl) ?_
      refine WL.nt ?_
      refine WC.cond rfl (fun hc23 => ?_) (fun hc23 => ?_)
      · (try simp only [decide_eq_true_eq, decide_eq_false_iff_not, Bool.not_eq_true', Bool.not_eq_false', Bool.not_not, Int.not_lt, Int.not_le] at hc23)
        refine WR.sr (by kernel_rfl) ?_
        refine WL.r rfl rfl rfl (rd_bld [[.string (S [])], [.slice none 0 0], [.bool false]] rfl rfl (by simp only [bld, fldv, Nat.beq, Value.cells, cond_true, cond_false, List.nil_append, List.cons_append, List.append_nil]; rfl) (fun w => by kernel_rfl)) ?_
        refine WL.r rfl rfl rfl (rd_move rfl rfl) ?_
        refine WL.g0 rfl rfl (st rfl rfl rfl .tc (by kernel_rfl) rfl ?_ rfl) ?_
        · first | decide | (simp; done) | (simp <;> omega)
        intro _
        refine WL.g0 rfl rfl (sta rfl rfl rfl .tc ?_ ?_ ?_) ?_
        · kernel_rfl
        · simp [Value.oneCell']
        · first | rfl | simp
        intro _
        refine WL.g0 rfl rfl (st rfl rfl rfl .tc (by kernel_rfl) rfl ?_ rfl) ?_
        · first | decide | (simp; done) | (simp <;> omega)
        intro _
        refine WL.nt ?_
        refine WC.ret ?_
        refine WX.then_ret ?_
        refine WX.block_ret ?_
        exact WX.rret hl fun w' hS => by
          have h1 : afterO s x = { s with r := x.e } := by rw [afterO, if_pos (by simpa using hc23)]
          have h3 : errO s x = x.e := by rw [errO, if_pos (by simpa using hc23)]
          have h2 : stopO s x = some .ret := by rw [stopO, h3, if_pos (by simpa using hc23)]
          rw [h2, h1]
          exact ⟨rfl, g, fun h => (by cases h), hS.sub (List.sublist_cons_self _ _) (fun _ h => h)⟩
      · (try simp only [decide_eq_true_eq, decide_eq_false_iff_not, Bool.not_eq_true', Bool.not_eq_false', Bool.not_not, Int.not_lt, Int.not_le] at hc23)
        have he0 : x.e = 0 := by simpa using hc23
        refine WC.skip ?_
        refine WX.then_normal ?_
        refine WC.seq ?_
        refine WR.sr (by kernel_rfl) ?_
        first
          | (refine WL.r rfl rfl rfl (rd_fa rfl rfl Try.underlying61 rfl (by kernel_rfl) (by (try simp only [Int.toNat_natCast, Nat.mul_one, Nat.zero_add, Nat.add_zero, Nat.zero_mul, Int.reduceToNat, Nat.reduceAdd, Nat.reduceMul, Nat.reduceSub, Nat.sub_zero]); rfl)) ?_)
          | (refine WL.r rfl rfl rfl (faf rfl rfl Try.underlying61 rfl (by kernel_rfl) (by (try simp only [Int.toNat_natCast, Nat.mul_one, Nat.zero_add, Nat.add_zero, Nat.zero_mul, Int.reduceToNat, Nat.reduceAdd, Nat.reduceMul, Nat.reduceSub, Nat.sub_zero]); rfl)) ?_)
        first
          | (refine WL.r rfl rfl rfl (ld rfl rfl .tc Try.underlying5 rfl (by rfl)) ?_)
          | (refine WL.r rfl rfl rfl (ldm rfl rfl Try.underlying5 rfl ?_) ?_; (focus (first | assumption | omega | (simp <;> omega) | (simp; done))))
          | (refine WL.r rfl rfl rfl (ldom rfl rfl Try.underlying5 rfl ?_) ?_; (focus (first | assumption | omega | (simp <;> omega) | (simp; done))))
        refine WL.nt ?_
        refine WC.block ?_
        refine WR.sr (by kernel_rfl) ?_
        refine WL.r rfl rfl rfl (rd_eql rfl rfl rfl) ?_
        refine WL.r rfl rfl rfl (rd_assign rfl rfl) ?_
        refine WL.nt ?_
        refine WC.cond rfl (fun hc40 => ?_) (fun hc40 => ?_)
        · (try simp only [decide_eq_true_eq, decide_eq_false_iff_not, Bool.not_eq_true', Bool.not_eq_false', Bool.not_not, Int.not_lt, Int.not_le] at hc40)
          refine WC.seq ?_
          refine WR.sr (by kernel_rfl) ?_
          first
            | (refine WL.r rfl rfl rfl (rd_fa rfl rfl Try.underlying61 rfl (by kernel_rfl) (by (try simp only [Int.toNat_natCast, Nat.mul_one, Nat.zero_add, Nat.add_zero, Nat.zero_mul, Int.reduceToNat, Nat.reduceAdd, Nat.reduceMul, Nat.reduceSub, Nat.sub_zero]); rfl)) ?_)
            | (refine WL.r rfl rfl rfl (faf rfl rfl Try.underlying61 rfl (by kernel_rfl) (by (try simp only [Int.toNat_natCast, Nat.mul_one, Nat.zero_add, Nat.add_zero, Nat.zero_mul, Int.reduceToNat, Nat.reduceAdd, Nat.reduceMul, Nat.reduceSub, Nat.sub_zero]); rfl)) ?_)
          first
            | (refine WL.r rfl rfl rfl (ld rfl rfl .tc Try.underlying9 rfl (by rfl)) ?_)
            | (refine WL.r rfl rfl rfl (ldm rfl rfl Try.underlying9 rfl ?_) ?_; (focus (first | assumption | omega | (simp <;> omega) | (simp; done))))
            | (refine WL.r rfl rfl rfl (ldom rfl rfl Try.underlying9 rfl ?_) ?_; (focus (first | assumption | omega | (simp <;> omega) | (simp; done))))
          refine WL.r rfl rfl rfl (rd_slen rfl rfl Try.underlying9) ?_
          refine WL.r rfl rfl rfl (rd_gtr rfl rfl rfl) ?_
          refine WL.nt ?_
          refine WC.cond rfl (fun hc45 => ?_) (fun hc45 => ?_)
          · (try simp only [decide_eq_true_eq, decide_eq_false_iff_not, Bool.not_eq_true', Bool.not_eq_false', Bool.not_not, Int.not_lt, Int.not_le] at hc45)
            refine WR.sr (by kernel_rfl) ?_
            refine WL.r rfl rfl rfl (rd_bld [[.string (S [])], [.slice none 0 0], [.bool false]] rfl rfl (by simp only [bld, fldv, Nat.beq, Value.cells, cond_true, cond_false, List.nil_append, List.cons_append, List.append_nil]; rfl) (fun w => by kernel_rfl)) ?_
            refine WL.g0 rfl rfl (st rfl rfl rfl .tc (by kernel_rfl) rfl ?_ rfl) ?_
            · first | decide | (simp; done) | (simp <;> omega)
            intro _
            refine WL.g0 rfl rfl (sta rfl rfl rfl .tc ?_ ?_ ?_) ?_
            · kernel_rfl
            · simp [Value.oneCell']
            · first | rfl | simp
            intro _
            refine WL.g0 rfl rfl (st rfl rfl rfl .tc (by kernel_rfl) rfl ?_ rfl) ?_
            · first | decide | (simp; done) | (simp <;> omega)
            intro _
            refine WL.nt ?_
            refine WC.ret ?_
            refine WX.then_ret ?_
            refine WX.block_ret ?_
            refine WX.then_ret ?_
            refine WX.block_ret ?_
            exact WX.rret hl fun w' hS => by
              have h1 : afterO s x = { s with r := 3 } := by rw [afterO, if_neg (by simp [he0]), if_pos (by omega), if_pos (by omega)]
              have h3 : errO s x = 3 := by rw [errO, if_neg (by simp [he0]), if_pos (by omega), if_pos (by omega)]
              have h2 : stopO s x = some .ret := by rw [stopO, h3]; rfl
              rw [h2, h1]
              exact ⟨rfl, g, fun h => (by cases h), hS.sub (List.sublist_cons_self _ _) (fun _ h => h)⟩
          · (try simp only [decide_eq_true_eq, decide_eq_false_iff_not, Bool.not_eq_true', Bool.not_eq_false', Bool.not_not, Int.not_lt, Int.not_le] at hc45)
            refine WC.skip ?_
            refine WX.then_normal ?_
            refine WR.region (by kernel_rfl) ?_
            refine WL.r rfl rfl rfl (ld rfl rfl .tc Try.underlying22 rfl (by rfl)) ?_
            first
              | (refine WL.r rfl rfl rfl (rd_fa rfl rfl Try.underlying61 rfl (by kernel_rfl) (by (try simp only [Int.toNat_natCast, Nat.mul_one, Nat.zero_add, Nat.add_zero, Nat.zero_mul, Int.reduceToNat, Nat.reduceAdd, Nat.reduceMul, Nat.reduceSub, Nat.sub_zero]); rfl)) ?_)
              | (refine WL.r rfl rfl rfl (faf rfl rfl Try.underlying61 rfl (by kernel_rfl) (by (try simp only [Int.toNat_natCast, Nat.mul_one, Nat.zero_add, Nat.add_zero, Nat.zero_mul, Int.reduceToNat, Nat.reduceAdd, Nat.reduceMul, Nat.reduceSub, Nat.sub_zero]); rfl)) ?_)
            first
              | (refine WL.r rfl rfl rfl (ld rfl rfl .tc Try.underlying9 rfl (by rfl)) ?_)
              | (refine WL.r rfl rfl rfl (ldm rfl rfl Try.underlying9 rfl ?_) ?_; (focus (first | assumption | omega | (simp <;> omega) | (simp; done))))
              | (refine WL.r rfl rfl rfl (ldom rfl rfl Try.underlying9 rfl ?_) ?_; (focus (first | assumption | omega | (simp <;> omega) | (simp; done))))
            refine WL.g rfl rfl rfl (og_bs1 rfl rfl Try.underlying22 (by kernel_rfl : _ = some (some (.string (S [])), 1, 16)) rfl (by simp only [List.map]; rfl) rfl rfl ?_ (by decide)) ?_
            · simp [Value.cells]
            intro b50
            first
              | (refine WL.g rfl rfl rfl (appg rfl Try.underlying22 (by kernel_rfl : _ = some (some (.string (S [])), 1, 16)) rfl .tc rfl rfl (fun w hS => by first | exact hS.os | exact hS.sl | exact hS.oc) (by first | rfl | simp) ?_ ?_) ?_; (focus ((refine ⟨?_, ?_, ?_, ?_⟩ <;> (try simp) <;> omega))); (focus (first | (simp [Value.oneCell']; done) | (intro u hu; obtain ⟨_, _, rfl⟩ := List.mem_map.1 hu; rfl))))
              | (refine WL.g rfl rfl rfl (appf rfl Try.underlying22 (by kernel_rfl : _ = some (some (.string (S [])), 1, 16)) rfl .tc rfl rfl (fun w hS => by first | exact hS.os | exact hS.sl | exact hS.oc) (by first | rfl | simp) ?_ ?_) ?_; (focus ((refine ⟨?_, ?_, ?_, ?_⟩ <;> (try simp) <;> omega))); (focus (first | (simp [Value.oneCell']; done) | (intro u hu; obtain ⟨_, _, rfl⟩ := List.mem_map.1 hu; rfl))))
            rintro ⟨o51, c51, s51⟩
            refine WL.pu ?_
            intro hg51; (try dsimp only at hg51 ⊢)
            refine WL.g0 rfl rfl (st rfl rfl rfl .tc (by kernel_rfl) rfl ?_ rfl) ?_
            · first | decide | (simp; done) | (simp <;> omega)
            intro _
            refine WL.nil ?_
            refine WX.block_normal ?_
            refine WX.then_normal ?_
            refine WC.seq ?_
            refine WR.sr (by kernel_rfl) ?_
            refine WL.r rfl rfl rfl (ld rfl rfl .tc Try.underlying22 rfl (by rfl)) ?_
            refine WL.r rfl rfl rfl (rd_len rfl rfl Try.underlying22) ?_
            refine WL.r rfl rfl rfl (rd_gtr rfl rfl rfl) ?_
            refine WL.nt ?_
            refine WC.cond rfl (fun hc54 => ?_) (fun hc54 => ?_)
            · (try simp only [decide_eq_true_eq, decide_eq_false_iff_not, Bool.not_eq_true', Bool.not_eq_false', Bool.not_not, Int.not_lt, Int.not_le] at hc54)
              refine WR.sr (by kernel_rfl) ?_
              refine WL.r rfl rfl rfl (rd_bld [[.string (S [])], [.slice none 0 0], [.bool false]] rfl rfl (by simp only [bld, fldv, Nat.beq, Value.cells, cond_true, cond_false, List.nil_append, List.cons_append, List.append_nil]; rfl) (fun w => by kernel_rfl)) ?_
              refine WL.g0 rfl rfl (st rfl rfl rfl .tc (by kernel_rfl) rfl ?_ rfl) ?_
              · first | decide | (simp; done) | (simp <;> omega)
              intro _
              refine WL.g0 rfl rfl (sta rfl rfl rfl .tc ?_ ?_ ?_) ?_
              · kernel_rfl
              · simp [Value.oneCell']
              · first | rfl | simp
              intro _
              refine WL.g0 rfl rfl (st rfl rfl rfl .tc (by kernel_rfl) rfl ?_ rfl) ?_
              · first | decide | (simp; done) | (simp <;> omega)
              intro _
              refine WL.nt ?_
              refine WC.ret ?_
              refine WX.then_ret ?_
              refine WX.block_ret ?_
              first
                | (exfalso; have := unlF_len (x.c.length + 1) x.c [] (Nat.zero_le _); change (unl x.c).1.length ≤ 4096 at this; omega)
                | exact WX.rret hl fun w' hS => by
                    have h1 : afterO s x = { s with out := s.out ++ [x.c], r := 6 } := by rw [afterO, if_neg (by simp [he0]), if_pos (by omega), if_neg (by omega), if_pos (by omega)]
                    have h3 : errO s x = 6 := by rw [errO, if_neg (by simp [he0]), if_pos (by omega), if_neg (by omega), if_pos (by omega)]
                    have h2 : stopO s x = some .ret := by rw [stopO, h3]; rfl
                    rw [h2, h1]
                    refine ⟨rfl, ⟨o51, c51, s51⟩, fun h => (by cases h), ?_⟩
                    simp only [OCO, Rs.ent, Rs.val, strs_one, List.length_append, List.length_cons, List.length_nil, Nat.zero_add]
                    exact hS.sub ((List.sublist_cons_self _ _).trans (List.sublist_cons_self _ _)) (fun _ h => h)
            · (try simp only [decide_eq_true_eq, decide_eq_false_iff_not, Bool.not_eq_true', Bool.not_eq_false', Bool.not_not, Int.not_lt, Int.not_le] at hc54)
              refine WC.skip ?_
              refine WX.then_normal ?_
              refine WR.region (by kernel_rfl) ?_
              first
                | (refine WL.r rfl rfl rfl (rd_fa rfl rfl Try.underlying61 rfl (by kernel_rfl) (by (try simp only [Int.toNat_natCast, Nat.mul_one, Nat.zero_add, Nat.add_zero, Nat.zero_mul, Int.reduceToNat, Nat.reduceAdd, Nat.reduceMul, Nat.reduceSub, Nat.sub_zero]); rfl)) ?_)
                | (refine WL.r rfl rfl rfl (faf rfl rfl Try.underlying61 rfl (by kernel_rfl) (by (try simp only [Int.toNat_natCast, Nat.mul_one, Nat.zero_add, Nat.add_zero, Nat.zero_mul, Int.reduceToNat, Nat.reduceAdd, Nat.reduceMul, Nat.reduceSub, Nat.sub_zero]); rfl)) ?_)
              first
                | (refine WL.r rfl rfl rfl (ld rfl rfl .tc Try.underlying3 rfl (by rfl)) ?_)
                | (refine WL.r rfl rfl rfl (ldm rfl rfl Try.underlying3 rfl ?_) ?_; (focus (first | assumption | omega | (simp <;> omega) | (simp; done))))
                | (refine WL.r rfl rfl rfl (ldom rfl rfl Try.underlying3 rfl ?_) ?_; (focus (first | assumption | omega | (simp <;> omega) | (simp; done))))
              refine WL.g0 rfl rfl (st rfl rfl rfl .tc (by kernel_rfl) rfl ?_ rfl) ?_
              · first | decide | (simp; done) | (simp <;> omega)
              intro _
              refine WL.nil ?_
              refine WX.block_normal ?_
              first
                | exact WX.rnext hl fun w' hS => by
                    have h1 : afterO s x = { s with out := s.out ++ [x.c], to := x.to } := by rw [afterO, if_neg (by simp [he0]), if_pos (by omega), if_neg (by omega), if_neg (by omega)]
                    have h3 : errO s x = 0 := by rw [errO, if_neg (by simp [he0]), if_pos (by omega), if_neg (by omega), if_neg (by omega)]
                    have h2 : stopO s x = none := by rw [stopO, h3]; rfl
                    rw [h2, h1]
                    refine ⟨rfl, ⟨o51, c51, s51⟩, fun _ => ⟨by simpa using hg51, by simp; omega, hpg.2.2⟩, ?_⟩
                    simp only [OCO, Rs.ent, Rs.val, strs_one, List.length_append, List.length_cons, List.length_nil, Nat.zero_add]
                    exact hS.sub ((List.sublist_cons_self _ _).trans (List.sublist_cons_self _ _)) (fun _ h => h)
                | exact WX.rnext hl fun w' hS => by
                    have h1 : afterO s x = { s with out := (unl x.c).1, fr := x.fr, to := x.to } := by rw [afterO, if_neg (by simp [he0]), if_neg (by omega), if_neg (by simpa using hc35)]
                    have h3 : errO s x = 0 := by rw [errO, if_neg (by simp [he0]), if_neg (by omega), if_neg (by simpa using hc35)]
                    have h2 : stopO s x = none := by rw [stopO, h3]; rfl
                    rw [h2, h1]
                    refine ⟨rfl, g31, fun _ => ⟨hg31, (by show (unl x.c).1.length ≤ 4096; omega), hpg.2.2⟩, ?_⟩
                    exact st_in hS
        · (try simp only [decide_eq_true_eq, decide_eq_false_iff_not, Bool.not_eq_true', Bool.not_eq_false', Bool.not_not, Int.not_lt, Int.not_le] at hc40)
          refine WR.sr (by kernel_rfl) ?_
          first
            | (refine WL.r rfl rfl rfl (rd_fa rfl rfl Try.underlying61 rfl (by kernel_rfl) (by (try simp only [Int.toNat_natCast, Nat.mul_one, Nat.zero_add, Nat.add_zero, Nat.zero_mul, Int.reduceToNat, Nat.reduceAdd, Nat.reduceMul, Nat.reduceSub, Nat.sub_zero]); rfl)) ?_)
            | (refine WL.r rfl rfl rfl (faf rfl rfl Try.underlying61 rfl (by kernel_rfl) (by (try simp only [Int.toNat_natCast, Nat.mul_one, Nat.zero_add, Nat.add_zero, Nat.zero_mul, Int.reduceToNat, Nat.reduceAdd, Nat.reduceMul, Nat.reduceSub, Nat.sub_zero]); rfl)) ?_)
          first
            | (refine WL.r rfl rfl rfl (ld rfl rfl .tc Try.underlying9 rfl (by rfl)) ?_)
            | (refine WL.r rfl rfl rfl (ldm rfl rfl Try.underlying9 rfl ?_) ?_; (focus (first | assumption | omega | (simp <;> omega) | (simp; done))))
            | (refine WL.r rfl rfl rfl (ldom rfl rfl Try.underlying9 rfl ?_) ?_; (focus (first | assumption | omega | (simp <;> omega) | (simp; done))))
          refine WL.g rfl rfl rfl (og_call rfl rfl (by kernel_rfl) (keep_o1 fun w hS => list_c (by first | assumption | omega | (simp <;> omega) | (simp; done)))) ?_
          intro g31
          refine WL.pu ?_
          intro hg31; (try dsimp only at hg31 ⊢)
          refine WL.r rfl rfl rfl (rd_move rfl rfl) ?_
          refine WL.r rfl rfl rfl (rd_extL rfl rfl rfl) ?_
          refine WL.r rfl rfl rfl (rd_extL rfl rfl rfl) ?_
          refine WL.r rfl rfl rfl (rd_assign rfl rfl) ?_
          refine WL.r rfl rfl rfl (rd_assign rfl rfl) ?_
          refine WL.nt ?_
          refine WC.seq ?_
          refine WR.sr (by kernel_rfl) ?_
          refine WL.r rfl rfl rfl (rd_move rfl rfl) ?_
          refine WL.r rfl rfl rfl (rd_not rfl rfl) ?_
          refine WL.nt ?_
          refine WC.cond rfl (fun hc35 => ?_) (fun hc35 => ?_)
          · (try simp only [decide_eq_true_eq, decide_eq_false_iff_not, Bool.not_eq_true', Bool.not_eq_false', Bool.not_not, Int.not_lt, Int.not_le] at hc35)
            refine WR.sr (by kernel_rfl) ?_
            refine WL.r rfl rfl rfl (rd_bld [[.string (S [])], [.slice none 0 0], [.bool false]] rfl rfl (by simp only [bld, fldv, Nat.beq, Value.cells, cond_true, cond_false, List.nil_append, List.cons_append, List.append_nil]; rfl) (fun w => by kernel_rfl)) ?_
            refine WL.g0 rfl rfl (st rfl rfl rfl .tc (by kernel_rfl) rfl ?_ rfl) ?_
            · first | decide | (simp; done) | (simp <;> omega)
            intro _
            refine WL.g0 rfl rfl (sta rfl rfl rfl .tc ?_ ?_ ?_) ?_
            · kernel_rfl
            · simp [Value.oneCell']
            · first | rfl | simp
            intro _
            refine WL.g0 rfl rfl (st rfl rfl rfl .tc (by kernel_rfl) rfl ?_ rfl) ?_
            · first | decide | (simp; done) | (simp <;> omega)
            intro _
            refine WL.nt ?_
            refine WC.ret ?_
            refine WX.then_ret ?_
            refine WX.block_ret ?_
            refine WX.then_ret ?_
            refine WX.block_ret ?_
            exact WX.rret hl fun w' hS => by
              have h1 : afterO s x = { s with r := 3 } := by rw [afterO, if_neg (by simp [he0]), if_neg (by omega), if_pos (by simpa using hc35)]
              have h3 : errO s x = 3 := by rw [errO, if_neg (by simp [he0]), if_neg (by omega), if_pos (by simpa using hc35)]
              have h2 : stopO s x = some .ret := by rw [stopO, h3]; rfl
              rw [h2, h1]
              exact ⟨rfl, g, fun h => (by cases h), hS.sub ((List.sublist_cons_self _ _).trans (List.sublist_cons_self _ _)) (fun _ h => h)⟩
          · (try simp only [decide_eq_true_eq, decide_eq_false_iff_not, Bool.not_eq_true', Bool.not_eq_false', Bool.not_not, Int.not_lt, Int.not_le] at hc35)
            refine WC.skip ?_
            refine WX.then_normal ?_
            refine WR.free (K := [⟨some b8, [.int .u8 (x.k.toNat : Int), .string (S x.c), .int .i64 (x.fr : Int), .int .i64 (x.to : Int)], 61⟩]) (fs0 := []) (by kernel_rfl) [0, 3, 1, 2] [4] [0, 0, 0, 1, 2] (by kernel_rfl) (by kernel_rfl) rfl ?_
            refine WJ.r rfl rfl rfl rfl rfl (rd_move rfl rfl) ?_
            refine WJ.st rfl rfl rfl rfl (stJ rfl rfl rfl (by kernel_rfl) rfl ?_ rfl) ?_
            · first | decide | (simp; done) | (simp <;> omega)
            first
              | (refine WJ.r rfl rfl rfl rfl rfl (rd_fa rfl rfl Try.underlying61 rfl (by kernel_rfl) (by (try simp only [Int.toNat_natCast, Nat.mul_one, Nat.zero_add, Nat.add_zero, Nat.zero_mul, Int.reduceToNat, Nat.reduceAdd, Nat.reduceMul, Nat.reduceSub, Nat.sub_zero]); rfl)) ?_)
              | (refine WJ.r rfl rfl rfl rfl rfl (faf rfl rfl Try.underlying61 rfl (by kernel_rfl) (by (try simp only [Int.toNat_natCast, Nat.mul_one, Nat.zero_add, Nat.add_zero, Nat.zero_mul, Int.reduceToNat, Nat.reduceAdd, Nat.reduceMul, Nat.reduceSub, Nat.sub_zero]); rfl)) ?_)
            first
              | (refine WJ.r rfl rfl rfl rfl rfl (ld rfl rfl .tc Try.underlying3 rfl (by rfl)) ?_)
              | (refine WJ.r rfl rfl rfl rfl rfl (ldm rfl rfl Try.underlying3 rfl ?_) ?_; (focus (first | assumption | omega | (simp <;> omega) | (simp; done))))
              | (refine WJ.r rfl rfl rfl rfl rfl (ldom rfl rfl Try.underlying3 rfl ?_) ?_; (focus (first | assumption | omega | (simp <;> omega) | (simp; done))))
            refine WJ.nil ?_
            refine WL.g0 rfl rfl (st rfl rfl rfl .tc (by kernel_rfl) rfl ?_ rfl) ?_
            · first | decide | (simp; done) | (simp <;> omega)
            intro _
            refine WL.nil ?_
            refine WX.block_normal ?_
            refine WX.then_normal ?_
            refine WC.seq ?_
            refine WR.sr (by kernel_rfl) ?_
            refine WL.r rfl rfl rfl (ld rfl rfl .tc Try.underlying22 rfl (by rfl)) ?_
            refine WL.r rfl rfl rfl (rd_len rfl rfl Try.underlying22) ?_
            refine WL.r rfl rfl rfl (rd_gtr rfl rfl rfl) ?_
            refine WL.nt ?_
            refine WC.cond rfl (fun hc54 => ?_) (fun hc54 => ?_)
            · (try simp only [decide_eq_true_eq, decide_eq_false_iff_not, Bool.not_eq_true', Bool.not_eq_false', Bool.not_not, Int.not_lt, Int.not_le] at hc54)
              refine WR.sr (by kernel_rfl) ?_
              refine WL.r rfl rfl rfl (rd_bld [[.string (S [])], [.slice none 0 0], [.bool false]] rfl rfl (by simp only [bld, fldv, Nat.beq, Value.cells, cond_true, cond_false, List.nil_append, List.cons_append, List.append_nil]; rfl) (fun w => by kernel_rfl)) ?_
              refine WL.g0 rfl rfl (st rfl rfl rfl .tc (by kernel_rfl) rfl ?_ rfl) ?_
              · first | decide | (simp; done) | (simp <;> omega)
              intro _
              refine WL.g0 rfl rfl (sta rfl rfl rfl .tc ?_ ?_ ?_) ?_
              · kernel_rfl
              · simp [Value.oneCell']
              · first | rfl | simp
              intro _
              refine WL.g0 rfl rfl (st rfl rfl rfl .tc (by kernel_rfl) rfl ?_ rfl) ?_
              · first | decide | (simp; done) | (simp <;> omega)
              intro _
              refine WL.nt ?_
              refine WC.ret ?_
              refine WX.then_ret ?_
              refine WX.block_ret ?_
              first
                | (exfalso; have := unlF_len (x.c.length + 1) x.c [] (Nat.zero_le _); change (unl x.c).1.length ≤ 4096 at this; omega)
                | exact WX.rret hl fun w' hS => by
                    have h1 : afterO s x = { s with out := s.out ++ [x.c], r := 6 } := by rw [afterO, if_neg (by simp [he0]), if_pos (by omega), if_neg (by omega), if_pos (by omega)]
                    have h3 : errO s x = 6 := by rw [errO, if_neg (by simp [he0]), if_pos (by omega), if_neg (by omega), if_pos (by omega)]
                    have h2 : stopO s x = some .ret := by rw [stopO, h3]; rfl
                    rw [h2, h1]
                    refine ⟨rfl, ⟨o51, c51, s51⟩, fun h => (by cases h), ?_⟩
                    simp only [OCO, Rs.ent, Rs.val, strs_one, List.length_append, List.length_cons, List.length_nil, Nat.zero_add]
                    exact hS.sub ((List.sublist_cons_self _ _).trans (List.sublist_cons_self _ _)) (fun _ h => h)
            · (try simp only [decide_eq_true_eq, decide_eq_false_iff_not, Bool.not_eq_true', Bool.not_eq_false', Bool.not_not, Int.not_lt, Int.not_le] at hc54)
              refine WC.skip ?_
              refine WX.then_normal ?_
              refine WR.region (by kernel_rfl) ?_
              first
                | (refine WL.r rfl rfl rfl (rd_fa rfl rfl Try.underlying61 rfl (by kernel_rfl) (by (try simp only [Int.toNat_natCast, Nat.mul_one, Nat.zero_add, Nat.add_zero, Nat.zero_mul, Int.reduceToNat, Nat.reduceAdd, Nat.reduceMul, Nat.reduceSub, Nat.sub_zero]); rfl)) ?_)
                | (refine WL.r rfl rfl rfl (faf rfl rfl Try.underlying61 rfl (by kernel_rfl) (by (try simp only [Int.toNat_natCast, Nat.mul_one, Nat.zero_add, Nat.add_zero, Nat.zero_mul, Int.reduceToNat, Nat.reduceAdd, Nat.reduceMul, Nat.reduceSub, Nat.sub_zero]); rfl)) ?_)
              first
                | (refine WL.r rfl rfl rfl (ld rfl rfl .tc Try.underlying3 rfl (by rfl)) ?_)
                | (refine WL.r rfl rfl rfl (ldm rfl rfl Try.underlying3 rfl ?_) ?_; (focus (first | assumption | omega | (simp <;> omega) | (simp; done))))
                | (refine WL.r rfl rfl rfl (ldom rfl rfl Try.underlying3 rfl ?_) ?_; (focus (first | assumption | omega | (simp <;> omega) | (simp; done))))
              refine WL.g0 rfl rfl (st rfl rfl rfl .tc (by kernel_rfl) rfl ?_ rfl) ?_
              · first | decide | (simp; done) | (simp <;> omega)
              intro _
              refine WL.nil ?_
              refine WX.block_normal ?_
              first
                | exact WX.rnext hl fun w' hS => by
                    have h1 : afterO s x = { s with out := s.out ++ [x.c], to := x.to } := by rw [afterO, if_neg (by simp [he0]), if_pos (by omega), if_neg (by omega), if_neg (by omega)]
                    have h3 : errO s x = 0 := by rw [errO, if_neg (by simp [he0]), if_pos (by omega), if_neg (by omega), if_neg (by omega)]
                    have h2 : stopO s x = none := by rw [stopO, h3]; rfl
                    rw [h2, h1]
                    refine ⟨rfl, ⟨o51, c51, s51⟩, fun _ => ⟨by simpa using hg51, by simp; omega, hpg.2.2⟩, ?_⟩
                    simp only [OCO, Rs.ent, Rs.val, strs_one, List.length_append, List.length_cons, List.length_nil, Nat.zero_add]
                    exact hS.sub ((List.sublist_cons_self _ _).trans (List.sublist_cons_self _ _)) (fun _ h => h)
                | exact WX.rnext hl fun w' hS => by
                    have h1 : afterO s x = { s with out := (unl x.c).1, fr := x.fr, to := x.to } := by rw [afterO, if_neg (by simp [he0]), if_neg (by omega), if_neg (by simpa using hc35)]
                    have h3 : errO s x = 0 := by rw [errO, if_neg (by simp [he0]), if_neg (by omega), if_neg (by simpa using hc35)]
                    have h2 : stopO s x = none := by rw [stopO, h3]; rfl
                    rw [h2, h1]
                    refine ⟨rfl, g31, fun _ => ⟨hg31, (by show (unl x.c).1.length ≤ 4096; omega), hpg.2.2⟩, ?_⟩
                    exact st_in hS
    · intro D1 g1 hD1 hg1 hcf
      have hends := itO_ends d.safe (d.safe.length + 1) 0 ⟨[], 0, 0, 0⟩ (Nat.le_refl _) (Nat.zero_le _) (Nat.le_refl _) hcf
      change (openS d.safe).1.fr ≤ (openS d.safe).1.to ∧ (openS d.safe).1.to ≤ d.safe.length at hends
      refine WX.block_normal ?_
      refine WX.then_normal ?_
      refine WC.seq ?_
      refine WC.free (K := [⟨some b7, [.int .i64 ((openS d.safe).1.to : Int)], 3⟩, ⟨some b6, [.int .i64 ((openS d.safe).1.fr : Int)], 3⟩, ⟨some b5, [g1.val (openS d.safe).1.out.length], 22⟩, ⟨some b1, [.string (S d.safe), .slice a d.pend.length cap, .bool d.crash], 24⟩]) (fs0 := []) [0, 7, 1, 2, 3, 4, 5, 6] [8, 9] [0, 0, 0, 0, 0, 0, 0, 1, 2, 2] (by kernel_rfl) (by kernel_rfl) rfl ?_
      refine WJ.r rfl rfl rfl rfl rfl (ld rfl rfl .tc Try.underlying22 rfl (by rfl)) ?_
      refine WJ.st rfl rfl rfl rfl (stJ rfl rfl rfl (by kernel_rfl) rfl ?_ rfl) ?_
      · first | decide | (simp; done) | (simp <;> omega)
      first
        | (refine WJ.r rfl rfl rfl rfl rfl (rd_fa rfl rfl Try.underlying24 rfl (by kernel_rfl) (by (try simp only [Int.toNat_natCast, Nat.mul_one, Nat.zero_add, Nat.add_zero, Nat.zero_mul, Int.reduceToNat, Nat.reduceAdd, Nat.reduceMul, Nat.reduceSub, Nat.sub_zero]); rfl)) ?_)
        | (refine WJ.r rfl rfl rfl rfl rfl (faf rfl rfl Try.underlying24 rfl (by kernel_rfl) (by (try simp only [Int.toNat_natCast, Nat.mul_one, Nat.zero_add, Nat.add_zero, Nat.zero_mul, Int.reduceToNat, Nat.reduceAdd, Nat.reduceMul, Nat.reduceSub, Nat.sub_zero]); rfl)) ?_)
      first
        | (refine WJ.r rfl rfl rfl rfl rfl (ld rfl rfl .tc Try.underlying9 rfl (by rfl)) ?_)
        | (refine WJ.r rfl rfl rfl rfl rfl (ldm rfl rfl Try.underlying9 rfl ?_) ?_; (focus (first | assumption | omega | (simp <;> omega) | (simp; done))))
        | (refine WJ.r rfl rfl rfl rfl rfl (ldom rfl rfl Try.underlying9 rfl ?_) ?_; (focus (first | assumption | omega | (simp <;> omega) | (simp; done))))
      refine WJ.r rfl rfl rfl rfl rfl (ld rfl rfl .tc Try.underlying3 rfl (by rfl)) ?_
      refine WJ.r rfl rfl rfl rfl rfl (ld rfl rfl .tc Try.underlying3 rfl (by rfl)) ?_
      refine WJ.r rfl rfl rfl rfl rfl (rd_ss rfl rfl rfl rfl Try.underlying9 ?_) ?_
      · (try simp only [List.length_append, List.length_cons, List.length_nil]); omega
      refine WJ.r rfl rfl rfl rfl rfl (rd_bld [[.string (S [])], [.slice none 0 0], [.bool false]] rfl rfl (by simp only [bld, fldv, Nat.beq, Value.cells, cond_true, cond_false, List.nil_append, List.cons_append, List.append_nil]; rfl) (fun w => by kernel_rfl)) ?_
      refine WJ.nil ?_
      refine WL.g0 rfl rfl (sta rfl rfl rfl .tc ?_ ?_ ?_) ?_
      · kernel_rfl
      · simp [Value.oneCell']
      · first | rfl | simp
      intro _
      refine WL.g0 rfl rfl (st rfl rfl rfl .tc (by kernel_rfl) rfl ?_ rfl) ?_
      · first | decide | (simp; done) | (simp <;> omega)
      intro _
      refine WL.nt ?_
      refine WC.ret ?_
      exact WX.retM1 hD1 rfl (.one rfl .tc Try.underlying22 rfl (.agg rfl .tc Try.underlying24 rfl (by kernel_rfl) (.one rfl .tc Try.underlying27 rfl .nil))) fun w' hS => opn_ret (q := g1) (by rw [opn, if_neg (by simp; exact List.eq_nil_of_length_eq_zero (by omega)), if_neg (by rw [hcf]; simp)]; rfl) hg1.1 hS (by simp)
    · intro D1 g1 c hD1 hcf
      obtain rfl : c = .ret := by (have hq : ∀ (f p : Nat) (s : OS), (itJ d.safe afterO stopO f p s).2 = none ∨ (itJ d.safe afterO stopO f p s).2 = some .ret := fun f p s => itO_ret d.safe f p s; rcases hq (d.safe.length + 1) 0 ⟨[], 0, 0, 0⟩ with h | h <;> (change (openS d.safe).2 = _ at h; rw [h] at hcf; cases hcf); rfl)
      refine WC.ret ?_
      refine WX.block_ret ?_
      refine WX.then_ret ?_
      exact WX.retM1 hD1 rfl (.one rfl .tc Try.underlying22 rfl (.agg rfl .tc Try.underlying24 rfl (by kernel_rfl) (.one rfl .tc Try.underlying27 rfl .nil))) fun w' hS => opn_ret0 (by rw [opn, if_neg (by simp; exact List.eq_nil_of_length_eq_zero (by omega)), if_pos (by rw [hcf]; rfl)]) hS
end Go.Proofs.Ytijamoagkmjcjaa
