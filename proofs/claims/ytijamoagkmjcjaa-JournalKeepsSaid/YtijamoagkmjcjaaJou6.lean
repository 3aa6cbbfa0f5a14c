/-
  The records of a text, one by one.
-/
import Derived.Test.YtijamoagkmjcjaaJou5
namespace Go.Proofs.Ytijamoagkmjcjaa
set_option linter.unusedSimpArgs false
set_option linter.unusedVariables false
set_option maxRecDepth 20000
open Go.RowKit

/-- what is handed on: a record, where it begins and ends, and an error -/
structure It where
  k : UInt8
  c : Bs
  fr : Nat
  to : Nat
  e : Int
def It.enc (x : It) : Array Value := #[.agg #[.int .u8 (x.k.toNat : Int), .string (S x.c), .int .i64 (x.fr : Int), .int .i64 (x.to : Int)], .int .i64 x.e]
def nextJ (d : Bs) (p : Nat) : Option It :=
  if d.length < p + 5 then none
  else if ((d.getD p default).toNat ≠ 69 ∧ (d.getD p default).toNat ≠ 82) ∨ 16777216 < num4 (d.drop (p + 1)) then some ⟨d.getD p default, [], p, 0, 3⟩
  else if d.length < p + 37 + num4 (d.drop (p + 1)) then none
  else if sha ((d.drop p).take (5 + num4 (d.drop (p + 1)))) ≠ (d.drop (p + 5 + num4 (d.drop (p + 1)))).take 32 then some ⟨d.getD p default, (d.drop (p + 5)).take (num4 (d.drop (p + 1))), p, p + 5 + num4 (d.drop (p + 1)) + 32, 25⟩
  else some ⟨d.getD p default, (d.drop (p + 5)).take (num4 (d.drop (p + 1))), p, p + 5 + num4 (d.drop (p + 1)) + 32, 0⟩
def itJ {σ : Type} (d : Bs) (after : σ → It → σ) (stop : σ → It → Option Code) : Nat → Nat → σ → σ × Option Code
  | 0, _, s => (s, none)
  | f + 1, p, s => match nextJ d p with
    | none => (s, none)
    | some x => if x.e ≠ 0 ∨ (stop s x).isSome then (after s x, stop s x) else itJ d after stop f x.to (after s x)

theorem nextJ_to {d : Bs} {p : Nat} {x : It} (h : nextJ d p = some x) (he : x.e = 0) : p < x.to ∧ x.to ≤ d.length := by
  unfold nextJ at h
  split at h
  · cases h
  · split at h
    · injection h with h; subst h; simp at he
    · split at h
      · cases h
      · split at h
        · injection h with h; subst h; simp at he
        · injection h with h; subst h; simp only; omega
section
variable {σ : Type} {d : Bs} {after : σ → It → σ} {stop : σ → It → Option Code} {p : Nat} {s : σ} {x : It}
theorem itJ_fuel : ∀ (f g p : Nat) (s : σ), d.length < f + p → d.length < g + p → p ≤ d.length → itJ d after stop f p s = itJ d after stop g p s
  | 0, g, p, s, h, _, h2 => by omega
  | f + 1, 0, p, s, _, h, h2 => by omega
  | f + 1, g + 1, p, s, h1, h2, h3 => by
    unfold itJ
    cases hn : nextJ d p with
    | none => rfl
    | some x =>
      simp only
      split
      · rfl
      · rename_i hh
        have he : x.e = 0 := by simp at hh; exact hh.1
        have := nextJ_to hn he
        exact itJ_fuel f g _ _ (by omega) (by omega) this.2
theorem it_none (hp : p ≤ d.length) (h : nextJ d p = none) : itJ d after stop (d.length + 1 - p) p s = (s, none) := by
  rw [show d.length + 1 - p = (d.length - p) + 1 by omega, itJ, h]
theorem it_stop (hp : p ≤ d.length) (h : nextJ d p = some x) (hx : x.e ≠ 0 ∨ (stop s x).isSome) : itJ d after stop (d.length + 1 - p) p s = (after s x, stop s x) := by
  rw [show d.length + 1 - p = (d.length - p) + 1 by omega, itJ, h]; simp only; rw [if_pos hx]
theorem it_next (hp : p ≤ d.length) (h : nextJ d p = some x) (he : x.e = 0) (hx : stop s x = none) : itJ d after stop (d.length + 1 - p) p s = itJ d after stop (d.length + 1 - x.to) x.to (after s x) := by
  have := nextJ_to h he
  rw [show d.length + 1 - p = (d.length - p) + 1 by omega, itJ, h]; simp only; rw [if_neg (by simp [he, hx])]
  exact itJ_fuel _ _ _ _ (by omega) (by omega) this.2
end

theorem records_c {s : Bs} {own0 : List Ent} {ok : Nat → Prop} {w0 : World} {fs : List Fact} {w : World} (hS0 : St ok w0 (own0) (fs) w) :
    Calls Try.prog 27 #[.string (S s)] w fun e w' => ∃ b : Nat, e = .returned (.func (.func 41) #[] #[.pointer (some ⟨b, 0, none⟩)]) ∧ St ok w0 (⟨some b, [.string (S s)], 9⟩ :: own0) fs w' := by
  refine enter (S := St ok w0 (own0) (fs)) (L := [(0, .string (S s))]) Try.func27 rfl Try.ntmps27 rfl (args_cons rfl (args_nil _)) hS0 ?_
  refine WC.sr ?_
  refine WL.g rfl rfl rfl (og_box rfl rfl rfl) ?_
  intro b1
  refine WL.r rfl rfl rfl (rd_assign rfl rfl) ?_
  refine WL.nt ?_
  refine WC.sr ?_
  refine WL.r rfl rfl rfl (rd_mkf rfl rfl rfl) ?_
  refine WL.r rfl rfl rfl (rd_assign rfl rfl) ?_
  refine WL.nt ?_
  refine WC.ret ?_
  exact WX.retN rfl (.tmp rfl .nil) fun w' hS => ⟨b1, rfl, hS⟩

theorem iter_c {σ γ : Type} {CO : σ → γ → List Ent} {pg : σ → γ → Prop} {inv : σ → It → Prop} {after : σ → It → σ} {stop : σ → It → Option Code} {l : Nat} {r : Loop} {ok : Nat → Prop} {w0 : World} {fs : List Fact} {w : World} {d : Bs} {bs : Nat} {s0 : σ} [∀ s g, HasE (CO s g) bs [.string (S d)] 9] {g0 : γ} (hY : YOk Try.prog l r ok w0 fs CO pg inv after stop (It.enc)) (hS0 : St ok w0 (CO s0 g0) (Fact.lp l (rcd r none) :: fs) w) (hg0 : pg s0 g0) (hd : d.length ≤ 1000000) (hinv : ∀ s x, x.c.length ≤ d.length → inv s x) :
    Calls Try.prog 41 #[.func (.yield l) #[] #[], .pointer (some ⟨bs, 0, none⟩)] w fun e w' => (∃ v, e = .returned v) ∧ ∃ g', ((itJ d after stop (d.length + 1) 0 s0).2 = none → pg ((itJ d after stop (d.length + 1) 0 s0).1) g') ∧ St ok w0 (CO ((itJ d after stop (d.length + 1) 0 s0).1) g') (Fact.lp l (rcd r ((itJ d after stop (d.length + 1) 0 s0).2)) :: fs) w' := by
  refine enter (S := St ok w0 (CO s0 g0) (Fact.lp l (rcd r none) :: fs)) (L := [(0, .func (.yield l) #[] #[]), (1, .pointer (some ⟨bs, 0, none⟩))]) Try.func41 rfl Try.ntmps41 rfl (args_cons rfl (args_cons rfl (args_nil _))) hS0 ?_
  refine WC.sr ?_
  refine WL.r rfl rfl rfl (rd_assign rfl rfl) ?_
  refine WL.nt ?_
  refine WC.block ?_
  refine WC.loopO (σ := Nat × σ × γ) [(0, _), (1, _)] (fun g => [(3, .int .i64 (g.1 : Int))]) (fun g => g.1 ≤ d.length ∧ pg g.2.1 g.2.2 ∧ itJ d after stop (d.length + 1 - g.1) g.1 g.2.1 = itJ d after stop (d.length + 1) 0 s0) (fun g => d.length - g.1) (fun g => CO g.2.1 g.2.2) (fun g => Fact.lp l (rcd r none) :: fs) (0, s0, g0) (sub_cons rfl (sub_cons rfl (sub_nil _))) (sub_cons rfl (sub_nil _)) (by (try dsimp only); exact ⟨Nat.zero_le _, hg0, rfl⟩) (by first | exact fun _ h => h | exact st_sub) ?_
  rintro ⟨p, s, g⟩ hinv1; (try dsimp only at hinv1 ⊢)
  obtain ⟨hp, hgs, hi⟩ := hinv1
  refine WC.seq ?_
  refine WC.sr ?_
  refine WL.r rfl rfl rfl (ld rfl rfl .tc Try.underlying9 rfl (by rfl)) ?_
  refine WL.r rfl rfl rfl (rd_slen rfl rfl Try.underlying9) ?_
  refine WL.r rfl rfl rfl (rd_move rfl rfl) ?_
  first
    | (refine WL.r rfl rfl rfl (rd_sub64n rfl rfl rfl ?_) ?_; (focus (first | assumption | omega | (simp <;> omega) | (simp; done))))
    | (refine WL.r rfl rfl rfl (rd_sub64 rfl rfl rfl ?_) ?_; (focus (first | assumption | omega | (simp <;> omega) | (simp; done))))
  refine WL.r rfl rfl rfl (rd_geq rfl rfl rfl) ?_
  refine WL.nt ?_
  refine WC.cond rfl (fun hc11 => ?_) (fun hc11 => ?_)
  · (try simp only [decide_eq_true_eq, decide_eq_false_iff_not, Bool.not_eq_true', Bool.not_eq_false', Bool.not_not, Int.not_lt, Int.not_le] at hc11)
    refine WC.skip ?_
    refine WX.then_normal ?_
    refine WC.block ?_
    refine WC.sr ?_
    refine WL.r rfl rfl rfl (ld rfl rfl .tc Try.underlying9 rfl (by rfl)) ?_
    refine WL.r rfl rfl rfl (rd_move rfl rfl) ?_
    refine WL.r rfl rfl rfl (rd_sidxD rfl rfl rfl Try.underlying9 ?_) ?_
    · first | assumption | omega | (simp <;> omega) | (simp; done)
    refine WL.set 14 rfl (v' := .int .u8 ((d.getD p default).toNat : Int)) rfl ?_
    refine WL.r rfl rfl rfl (rd_move rfl rfl) ?_
    refine WL.r rfl rfl rfl (rd_bld [[.int .u8 0], [.string (S [])], [.int .i64 0], [.int .i64 0]] rfl rfl (by simp only [bld, fldv, Nat.beq, Value.cells, cond_true, cond_false, List.nil_append, List.cons_append, List.append_nil]; rfl) (fun w => by kernel_rfl)) ?_
    refine WL.g rfl rfl rfl (og_alloc rfl (v := (.agg #[.int .u8 0, .string (S []), .int .i64 0, .int .i64 0])) (cs := [.int .u8 0, .string (S []), .int .i64 0, .int .i64 0]) (by kernel_rfl) rfl) ?_
    intro b4
    refine WL.g0 rfl rfl (sta rfl rfl rfl .tc ?_ ?_ ?_) ?_
    · kernel_rfl
    · simp [Value.oneCell']
    · first | rfl | simp
    intro _
    refine WL.nt ?_
    refine WC.sr ?_
    refine WL.r rfl rfl rfl (ld rfl rfl .tc Try.underlying9 rfl (by rfl)) ?_
    refine WL.r rfl rfl rfl (rd_move rfl rfl) ?_
    first
      | (refine WL.r rfl rfl rfl (rd_add64nl rfl rfl rfl ?_) ?_; (focus (first | assumption | omega | (simp <;> omega) | (simp; done))))
      | (refine WL.r rfl rfl rfl (rd_add64 rfl rfl rfl ?_) ?_; (focus (first | assumption | omega | (simp <;> omega) | (simp; done))))
    refine WL.r rfl rfl rfl (rd_sfrom rfl rfl rfl Try.underlying9 ?_) ?_
    · (try simp only [List.length_append, List.length_cons, List.length_nil]); omega
    refine WL.set 20 rfl (v' := .string (S (d.drop (p + 1)))) rfl ?_
    refine WL.g rfl rfl rfl (og_call rfl rfl (by kernel_rfl) (keep_val fun w hS => num_c (by first | assumption | omega | (simp <;> omega) | (simp; done)))) ?_
    intro _
    refine WL.r rfl rfl rfl (rd_assign rfl rfl) ?_
    refine WL.nt ?_
    refine WC.seq ?_
    refine WC.sr ?_
    first
      | (refine WL.r rfl rfl rfl (rd_fa rfl rfl Try.underlying61 rfl (by kernel_rfl) (by (try simp only [Int.toNat_natCast, Nat.mul_one, Nat.zero_add, Nat.add_zero, Nat.zero_mul, Int.reduceToNat, Nat.reduceAdd, Nat.reduceMul, Nat.reduceSub, Nat.sub_zero]); rfl)) ?_)
      | (refine WL.r rfl rfl rfl (faf rfl rfl Try.underlying61 rfl (by kernel_rfl) (by (try simp only [Int.toNat_natCast, Nat.mul_one, Nat.zero_add, Nat.add_zero, Nat.zero_mul, Int.reduceToNat, Nat.reduceAdd, Nat.reduceMul, Nat.reduceSub, Nat.sub_zero]); rfl)) ?_)
    first
      | (refine WL.r rfl rfl rfl (ld rfl rfl .tc Try.underlying5 rfl (by rfl)) ?_)
      | (refine WL.r rfl rfl rfl (ldm rfl rfl Try.underlying5 rfl ?_) ?_; (focus (first | assumption | omega | (simp <;> omega) | (simp; done))))
      | (refine WL.r rfl rfl rfl (ldom rfl rfl Try.underlying5 rfl ?_) ?_; (focus (first | assumption | omega | (simp <;> omega) | (simp; done))))
    refine WL.r rfl rfl rfl (rd_neq rfl rfl rfl) ?_
    refine WL.r rfl rfl rfl (rd_move rfl rfl) ?_
    refine WL.bool 25 rfl (fun hg25 => ?_) (fun hg25 => ?_)
    · (try simp only [decide_eq_true_eq, decide_eq_false_iff_not, Bool.not_eq_true', Bool.not_eq_false', Bool.not_not, Int.not_lt, Int.not_le] at hg25)
      first
        | (refine WL.r rfl rfl rfl (rd_fa rfl rfl Try.underlying61 rfl (by kernel_rfl) (by (try simp only [Int.toNat_natCast, Nat.mul_one, Nat.zero_add, Nat.add_zero, Nat.zero_mul, Int.reduceToNat, Nat.reduceAdd, Nat.reduceMul, Nat.reduceSub, Nat.sub_zero]); rfl)) ?_)
        | (refine WL.r rfl rfl rfl (faf rfl rfl Try.underlying61 rfl (by kernel_rfl) (by (try simp only [Int.toNat_natCast, Nat.mul_one, Nat.zero_add, Nat.add_zero, Nat.zero_mul, Int.reduceToNat, Nat.reduceAdd, Nat.reduceMul, Nat.reduceSub, Nat.sub_zero]); rfl)) ?_)
      first
        | (refine WL.r rfl rfl rfl (ld rfl rfl .tc Try.underlying5 rfl (by rfl)) ?_)
        | (refine WL.r rfl rfl rfl (ldm rfl rfl Try.underlying5 rfl ?_) ?_; (focus (first | assumption | omega | (simp <;> omega) | (simp; done))))
        | (refine WL.r rfl rfl rfl (ldom rfl rfl Try.underlying5 rfl ?_) ?_; (focus (first | assumption | omega | (simp <;> omega) | (simp; done))))
      refine WL.r rfl rfl rfl (rd_neq rfl rfl rfl) ?_
      refine WL.r rfl rfl rfl (rd_pickt rfl rfl rfl) ?_
      refine WL.r rfl rfl rfl (rd_move rfl rfl) ?_
      refine WL.bool 30 rfl (fun hg30 => ?_) (fun hg30 => ?_)
      · (try simp only [decide_eq_true_eq, decide_eq_false_iff_not, Bool.not_eq_true', Bool.not_eq_false', Bool.not_not, Int.not_lt, Int.not_le] at hg30)
        refine WL.s rfl rfl rfl ?_
        refine WL.s rfl rfl rfl ?_
        refine WL.r rfl rfl rfl (rd_pickt rfl rfl rfl) ?_
        refine WL.nt ?_
        refine WC.cond rfl (fun _ => ?_) (fun h => by cases h)
        refine WC.sr ?_
        refine WL.r rfl rfl rfl (rd_move rfl rfl) ?_
        refine WL.r rfl rfl rfl (lda rfl rfl .tc Try.underlying61 rfl ?_) ?_
        · kernel_rfl
        refine WL.g rfl rfl rfl (og_yield hY [⟨some b4, [.int .u8 ((d.getD p default).toNat : Int), .string (S []), .int .i64 (p : Int), .int .i64 0], 61⟩] ((⟨d.getD p default, [], p, 0, 3⟩ : It)) rfl rfl rfl rfl (hinv _ _ (Nat.zero_le _)) (hgs)) ?_
        intro gy; refine WL.pu ?_; intro hgy; first | refine WL.app1 ?_ | refine WL.app0 ?_ | skip
        refine WL.nt ?_
        refine WC.ret ?_
        refine WX.then_ret ?_
        refine WX.block_ret ?_
        refine WX.then_ret ?_
        refine WX.block_ret ?_
        exact WX.retN rfl .nil fun w' hS => ⟨⟨_, rfl⟩, gy, by rw [← hi, it_stop hp (by rw [nextJ, if_neg (by omega), if_pos (by omega)]) (.inl (by simp))]; exact hgy, by rw [← hi, it_stop hp (by rw [nextJ, if_neg (by omega), if_pos (by omega)]) (.inl (by simp))]; dsimp only; exact st_sub _ hS⟩
      · (try simp only [decide_eq_true_eq, decide_eq_false_iff_not, Bool.not_eq_true', Bool.not_eq_false', Bool.not_not, Int.not_lt, Int.not_le] at hg30)
        refine WL.r rfl rfl rfl (rd_move rfl rfl) ?_
        refine WL.r rfl rfl rfl (rd_gtr rfl rfl rfl) ?_
        refine WL.r rfl rfl rfl (rd_pickf rfl rfl rfl) ?_
        refine WL.nt ?_
        refine WC.cond rfl (fun hc33 => ?_) (fun hc33 => ?_)
        · (try simp only [decide_eq_true_eq, decide_eq_false_iff_not, Bool.not_eq_true', Bool.not_eq_false', Bool.not_not, Int.not_lt, Int.not_le] at hc33)
          refine WC.sr ?_
          refine WL.r rfl rfl rfl (rd_move rfl rfl) ?_
          refine WL.r rfl rfl rfl (lda rfl rfl .tc Try.underlying61 rfl ?_) ?_
          · kernel_rfl
          refine WL.g rfl rfl rfl (og_yield hY [⟨some b4, [.int .u8 ((d.getD p default).toNat : Int), .string (S []), .int .i64 (p : Int), .int .i64 0], 61⟩] ((⟨d.getD p default, [], p, 0, 3⟩ : It)) rfl rfl rfl rfl (hinv _ _ (Nat.zero_le _)) (hgs)) ?_
          intro gy; refine WL.pu ?_; intro hgy; first | refine WL.app1 ?_ | refine WL.app0 ?_ | skip
          refine WL.nt ?_
          refine WC.ret ?_
          refine WX.then_ret ?_
          refine WX.block_ret ?_
          refine WX.then_ret ?_
          refine WX.block_ret ?_
          exact WX.retN rfl .nil fun w' hS => ⟨⟨_, rfl⟩, gy, by rw [← hi, it_stop hp (by rw [nextJ, if_neg (by omega), if_pos (by omega)]) (.inl (by simp))]; exact hgy, by rw [← hi, it_stop hp (by rw [nextJ, if_neg (by omega), if_pos (by omega)]) (.inl (by simp))]; dsimp only; exact st_sub _ hS⟩
        · (try simp only [decide_eq_true_eq, decide_eq_false_iff_not, Bool.not_eq_true', Bool.not_eq_false', Bool.not_not, Int.not_lt, Int.not_le] at hc33)
          refine WC.skip ?_
          refine WX.then_normal ?_
          refine WC.seq ?_
          refine WC.sr ?_
          refine WL.r rfl rfl rfl (ld rfl rfl .tc Try.underlying9 rfl (by rfl)) ?_
          refine WL.r rfl rfl rfl (rd_slen rfl rfl Try.underlying9) ?_
          refine WL.r rfl rfl rfl (rd_move rfl rfl) ?_
          first
            | (refine WL.r rfl rfl rfl (rd_sub64n rfl rfl rfl ?_) ?_; (focus (first | assumption | omega | (simp <;> omega) | (simp; done))))
            | (refine WL.r rfl rfl rfl (rd_sub64 rfl rfl rfl ?_) ?_; (focus (first | assumption | omega | (simp <;> omega) | (simp; done))))
          refine WL.r rfl rfl rfl (rd_move rfl rfl) ?_
          first
            | (refine WL.r rfl rfl rfl (rd_add64ln rfl rfl rfl ?_) ?_; (focus (first | assumption | omega | (simp <;> omega) | (simp; done))))
            | (refine WL.r rfl rfl rfl (rd_add64 rfl rfl rfl ?_) ?_; (focus (first | assumption | omega | (simp <;> omega) | (simp; done))))
          first
            | (refine WL.r rfl rfl rfl (rd_add64nl rfl rfl rfl ?_) ?_; (focus (first | assumption | omega | (simp <;> omega) | (simp; done))))
            | (refine WL.r rfl rfl rfl (rd_add64 rfl rfl rfl ?_) ?_; (focus (first | assumption | omega | (simp <;> omega) | (simp; done))))
          refine WL.r rfl rfl rfl (rd_lss rfl rfl rfl) ?_
          refine WL.nt ?_
          refine WC.cond rfl (fun hc44 => ?_) (fun hc44 => ?_)
          · (try simp only [decide_eq_true_eq, decide_eq_false_iff_not, Bool.not_eq_true', Bool.not_eq_false', Bool.not_not, Int.not_lt, Int.not_le] at hc44)
            refine WC.ret ?_
            refine WX.then_ret ?_
            refine WX.block_ret ?_
            refine WX.then_ret ?_
            refine WX.block_ret ?_
            exact WX.retN rfl .nil fun w' hS => ⟨⟨_, rfl⟩, g, fun _ => by rw [← hi, it_none hp (by rw [nextJ, if_neg (by omega), if_neg (by omega), if_pos (by omega)])]; exact hgs, by rw [← hi, it_none hp (by rw [nextJ, if_neg (by omega), if_neg (by omega), if_pos (by omega)])]; dsimp only; exact st_sub _ hS⟩
          · (try simp only [decide_eq_true_eq, decide_eq_false_iff_not, Bool.not_eq_true', Bool.not_eq_false', Bool.not_not, Int.not_lt, Int.not_le] at hc44)
            refine WC.skip ?_
            refine WX.then_normal ?_
            refine WC.sr ?_
            refine WL.r rfl rfl rfl (rd_move rfl rfl) ?_
            first
              | (refine WL.r rfl rfl rfl (rd_add64nl rfl rfl rfl ?_) ?_; (focus (first | assumption | omega | (simp <;> omega) | (simp; done))))
              | (refine WL.r rfl rfl rfl (rd_add64 rfl rfl rfl ?_) ?_; (focus (first | assumption | omega | (simp <;> omega) | (simp; done))))
            refine WL.r rfl rfl rfl (rd_move rfl rfl) ?_
            first
              | (refine WL.r rfl rfl rfl (rd_add64n rfl rfl rfl ?_) ?_; (focus (first | assumption | omega | (simp <;> omega) | (simp; done))))
              | (refine WL.r rfl rfl rfl (rd_add64 rfl rfl rfl ?_) ?_; (focus (first | assumption | omega | (simp <;> omega) | (simp; done))))
            refine WL.r rfl rfl rfl (rd_assign rfl rfl) ?_
            refine WL.nt ?_
            refine WC.sr ?_
            refine WL.r rfl rfl rfl (ld rfl rfl .tc Try.underlying9 rfl (by rfl)) ?_
            refine WL.r rfl rfl rfl (rd_move rfl rfl) ?_
            first
              | (refine WL.r rfl rfl rfl (rd_add64nl rfl rfl rfl ?_) ?_; (focus (first | assumption | omega | (simp <;> omega) | (simp; done))))
              | (refine WL.r rfl rfl rfl (rd_add64 rfl rfl rfl ?_) ?_; (focus (first | assumption | omega | (simp <;> omega) | (simp; done))))
            refine WL.r rfl rfl rfl (rd_move rfl rfl) ?_
            refine WL.r rfl rfl rfl (rd_ss rfl rfl rfl rfl Try.underlying9 ?_) ?_
            · (try simp only [List.length_append, List.length_cons, List.length_nil]); omega
            refine WL.set 53 rfl (v' := .string (S ((d.drop (p + 5)).take (num4 (d.drop (p + 1)))))) (congrArg (fun l => Value.string (S l)) (by show List.take (p + 5 + num4 (d.drop (p + 1)) - (p + 5)) (List.drop (p + 5) d) = _; rw [Nat.add_sub_cancel_left])) ?_
            refine WL.r rfl rfl rfl (rd_move rfl rfl) ?_
            first
              | (refine WL.r rfl rfl rfl (rd_add64nl rfl rfl rfl ?_) ?_; (focus (first | assumption | omega | (simp <;> omega) | (simp; done))))
              | (refine WL.r rfl rfl rfl (rd_add64 rfl rfl rfl ?_) ?_; (focus (first | assumption | omega | (simp <;> omega) | (simp; done))))
            first
              | (refine WL.r rfl rfl rfl (rd_fa rfl rfl Try.underlying61 rfl (by kernel_rfl) (by (try simp only [Int.toNat_natCast, Nat.mul_one, Nat.zero_add, Nat.add_zero, Nat.zero_mul, Int.reduceToNat, Nat.reduceAdd, Nat.reduceMul, Nat.reduceSub, Nat.sub_zero]); rfl)) ?_)
              | (refine WL.r rfl rfl rfl (faf rfl rfl Try.underlying61 rfl (by kernel_rfl) (by (try simp only [Int.toNat_natCast, Nat.mul_one, Nat.zero_add, Nat.add_zero, Nat.zero_mul, Int.reduceToNat, Nat.reduceAdd, Nat.reduceMul, Nat.reduceSub, Nat.sub_zero]); rfl)) ?_)
            refine WL.g0 rfl rfl (st rfl rfl rfl .tc (by kernel_rfl) rfl ?_ rfl) ?_
            · first | decide | (simp; done) | (simp <;> omega)
            intro _
            first
              | (refine WL.r rfl rfl rfl (rd_fa rfl rfl Try.underlying61 rfl (by kernel_rfl) (by (try simp only [Int.toNat_natCast, Nat.mul_one, Nat.zero_add, Nat.add_zero, Nat.zero_mul, Int.reduceToNat, Nat.reduceAdd, Nat.reduceMul, Nat.reduceSub, Nat.sub_zero]); rfl)) ?_)
              | (refine WL.r rfl rfl rfl (faf rfl rfl Try.underlying61 rfl (by kernel_rfl) (by (try simp only [Int.toNat_natCast, Nat.mul_one, Nat.zero_add, Nat.add_zero, Nat.zero_mul, Int.reduceToNat, Nat.reduceAdd, Nat.reduceMul, Nat.reduceSub, Nat.sub_zero]); rfl)) ?_)
            refine WL.g0 rfl rfl (st rfl rfl rfl .tc (by kernel_rfl) rfl ?_ rfl) ?_
            · first | decide | (simp; done) | (simp <;> omega)
            intro _
            refine WL.nt ?_
            refine WC.seq ?_
            refine WC.seq ?_
            refine WC.free0 [0, 1, 2, 3, 4, 5, 6, 7, 8, 9, 10] [] [0, 0, 0, 0, 1, 0, 0, 0, 0, 0, 0] (by kernel_rfl) (by kernel_rfl) rfl ?_
            refine WJ.r rfl rfl rfl rfl rfl (ld rfl rfl .tc Try.underlying9 rfl (by rfl)) ?_
            refine WJ.r rfl rfl rfl rfl rfl (rd_move rfl rfl) ?_
            refine WJ.r rfl rfl rfl rfl rfl (rd_move rfl rfl) ?_
            refine WJ.r rfl rfl rfl rfl rfl (rd_ss rfl rfl rfl rfl Try.underlying9 ?_) ?_
            · (try simp only [List.length_append, List.length_cons, List.length_nil]); omega
            refine WJ.set 61 rfl (v' := .string (S ((d.drop p).take (5 + num4 (d.drop (p + 1)))))) (congrArg (fun l => Value.string (S l)) (by show List.take (p + 5 + num4 (d.drop (p + 1)) - p) (List.drop p d) = _; rw [Nat.add_assoc, Nat.add_sub_cancel_left])) ?_
            refine WJ.gv rfl rfl rfl rfl rfl (fun ext => og_call rfl rfl (by kernel_rfl) (keep_val fun w hS => sum_c (by first | assumption | omega | (simp <;> omega) | (simp; done)))) ?_
            refine WJ.r rfl rfl rfl rfl rfl (ld rfl rfl .tc Try.underlying9 rfl (by rfl)) ?_
            refine WJ.r rfl rfl rfl rfl rfl (rd_move rfl rfl) ?_
            first
              | (refine WJ.r rfl rfl rfl rfl rfl (rd_fa rfl rfl Try.underlying61 rfl (by kernel_rfl) (by (try simp only [Int.toNat_natCast, Nat.mul_one, Nat.zero_add, Nat.add_zero, Nat.zero_mul, Int.reduceToNat, Nat.reduceAdd, Nat.reduceMul, Nat.reduceSub, Nat.sub_zero]); rfl)) ?_)
              | (refine WJ.r rfl rfl rfl rfl rfl (faf rfl rfl Try.underlying61 rfl (by kernel_rfl) (by (try simp only [Int.toNat_natCast, Nat.mul_one, Nat.zero_add, Nat.add_zero, Nat.zero_mul, Int.reduceToNat, Nat.reduceAdd, Nat.reduceMul, Nat.reduceSub, Nat.sub_zero]); rfl)) ?_)
            first
              | (refine WJ.r rfl rfl rfl rfl rfl (ld rfl rfl .tc Try.underlying3 rfl (by rfl)) ?_)
              | (refine WJ.r rfl rfl rfl rfl rfl (ldm rfl rfl Try.underlying3 rfl ?_) ?_; (focus (first | assumption | omega | (simp <;> omega) | (simp; done))))
              | (refine WJ.r rfl rfl rfl rfl rfl (ldom rfl rfl Try.underlying3 rfl ?_) ?_; (focus (first | assumption | omega | (simp <;> omega) | (simp; done))))
            refine WJ.r rfl rfl rfl rfl rfl (rd_ss rfl rfl rfl rfl Try.underlying9 ?_) ?_
            · (try simp only [List.length_append, List.length_cons, List.length_nil]); omega
            refine WJ.set 67 rfl (v' := .string (S ((d.drop (p + 5 + num4 (d.drop (p + 1)))).take 32))) (congrArg (fun l => Value.string (S l)) (by show List.take (p + 5 + num4 (d.drop (p + 1)) + 32 - (p + 5 + num4 (d.drop (p + 1)))) (List.drop (p + 5 + num4 (d.drop (p + 1))) d) = _; rw [Nat.add_sub_cancel_left])) ?_
            refine WJ.r rfl rfl rfl rfl rfl (rd_sne rfl rfl rfl) ?_
            refine WJ.nil ?_
            refine WL.nt ?_
            refine WC.cond rfl (fun hc68 => ?_) (fun hc68 => ?_)
            · (try simp only [decide_eq_true_eq, decide_eq_false_iff_not, Bool.not_eq_true', Bool.not_eq_false', Bool.not_not, Int.not_lt, Int.not_le] at hc68)
              refine WC.sr ?_
              refine WL.r rfl rfl rfl (rd_move rfl rfl) ?_
              refine WL.r rfl rfl rfl (lda rfl rfl .tc Try.underlying61 rfl ?_) ?_
              · kernel_rfl
              refine WL.g rfl rfl rfl (og_yield hY [⟨some b4, [.int .u8 ((d.getD p default).toNat : Int), .string (S ((d.drop (p + 5)).take (num4 (d.drop (p + 1))))), .int .i64 (p : Int), .int .i64 ((p + 5 + num4 (d.drop (p + 1)) + 32 : Nat) : Int)], 61⟩] ((⟨d.getD p default, (d.drop (p + 5)).take (num4 (d.drop (p + 1))), p, p + 5 + num4 (d.drop (p + 1)) + 32, 25⟩ : It)) rfl rfl rfl rfl (hinv _ _ (by simp; omega)) (hgs)) ?_
              intro gy; refine WL.pu ?_; intro hgy; first | refine WL.app1 ?_ | refine WL.app0 ?_ | skip
              refine WL.nt ?_
              refine WC.ret ?_
              refine WX.then_ret ?_
              refine WX.block_ret ?_
              refine WX.then_ret ?_
              refine WX.block_ret ?_
              exact WX.retN rfl .nil fun w' hS => ⟨⟨_, rfl⟩, gy, by rw [← hi, it_stop hp (by rw [nextJ, if_neg (by omega), if_neg (by omega), if_neg (by omega), if_pos (by simpa using hc68)]) (.inl (by simp))]; exact hgy, by rw [← hi, it_stop hp (by rw [nextJ, if_neg (by omega), if_neg (by omega), if_neg (by omega), if_pos (by simpa using hc68)]) (.inl (by simp))]; dsimp only; exact st_sub _ hS⟩
            · (try simp only [decide_eq_true_eq, decide_eq_false_iff_not, Bool.not_eq_true', Bool.not_eq_false', Bool.not_not, Int.not_lt, Int.not_le] at hc68)
              have hnx : nextJ d p = some (⟨d.getD p default, (d.drop (p + 5)).take (num4 (d.drop (p + 1))), p, p + 5 + num4 (d.drop (p + 1)) + 32, 0⟩ : It) := by rw [nextJ, if_neg (by omega), if_neg (by omega), if_neg (by omega), if_neg (by simpa using hc68)]
              refine WC.skip ?_
              refine WX.then_normal ?_
              refine WC.seq ?_
              refine WC.sr ?_
              refine WL.r rfl rfl rfl (rd_move rfl rfl) ?_
              refine WL.r rfl rfl rfl (lda rfl rfl .tc Try.underlying61 rfl ?_) ?_
              · kernel_rfl
              refine WL.g rfl rfl rfl (og_yield hY [⟨some b4, [.int .u8 ((d.getD p default).toNat : Int), .string (S ((d.drop (p + 5)).take (num4 (d.drop (p + 1))))), .int .i64 (p : Int), .int .i64 ((p + 5 + num4 (d.drop (p + 1)) + 32 : Nat) : Int)], 61⟩] ((⟨d.getD p default, (d.drop (p + 5)).take (num4 (d.drop (p + 1))), p, p + 5 + num4 (d.drop (p + 1)) + 32, 0⟩ : It)) rfl rfl rfl rfl (hinv _ _ (by simp; omega)) (hgs)) ?_
              intro gy; refine WL.pu ?_; intro hgy; first | refine WL.app1 ?_ | refine WL.app0 ?_ | skip
              refine WL.r rfl rfl rfl (rd_not rfl rfl) ?_
              refine WL.nt ?_
              refine WC.cond rfl (fun hc75 => ?_) (fun hc75 => ?_)
              · (try simp only [decide_eq_true_eq, decide_eq_false_iff_not, Bool.not_eq_true', Bool.not_eq_false', Bool.not_not, Int.not_lt, Int.not_le] at hc75)
                refine WC.ret ?_
                refine WX.then_ret ?_
                refine WX.block_ret ?_
                refine WX.then_ret ?_
                refine WX.block_ret ?_
                exact WX.retN rfl .nil fun w' hS => ⟨⟨_, rfl⟩, gy, by rw [← hi, it_stop hp hnx (.inr (by simpa using hc75))]; exact hgy, by rw [← hi, it_stop hp hnx (.inr (by simpa using hc75))]; dsimp only; exact st_sub _ hS⟩
              · (try simp only [decide_eq_true_eq, decide_eq_false_iff_not, Bool.not_eq_true', Bool.not_eq_false', Bool.not_not, Int.not_lt, Int.not_le] at hc75)
                have hst : stop s (⟨d.getD p default, (d.drop (p + 5)).take (num4 (d.drop (p + 1))), p, p + 5 + num4 (d.drop (p + 1)) + 32, 0⟩ : It) = none := by simpa using hc75
                rw [hst]
                refine WC.skip ?_
                refine WX.then_normal ?_
                refine WC.region ?_
                first
                  | (refine WL.r rfl rfl rfl (rd_fa rfl rfl Try.underlying61 rfl (by kernel_rfl) (by (try simp only [Int.toNat_natCast, Nat.mul_one, Nat.zero_add, Nat.add_zero, Nat.zero_mul, Int.reduceToNat, Nat.reduceAdd, Nat.reduceMul, Nat.reduceSub, Nat.sub_zero]); rfl)) ?_)
                  | (refine WL.r rfl rfl rfl (faf rfl rfl Try.underlying61 rfl (by kernel_rfl) (by (try simp only [Int.toNat_natCast, Nat.mul_one, Nat.zero_add, Nat.add_zero, Nat.zero_mul, Int.reduceToNat, Nat.reduceAdd, Nat.reduceMul, Nat.reduceSub, Nat.sub_zero]); rfl)) ?_)
                first
                  | (refine WL.r rfl rfl rfl (ld rfl rfl .tc Try.underlying3 rfl (by rfl)) ?_)
                  | (refine WL.r rfl rfl rfl (ldm rfl rfl Try.underlying3 rfl ?_) ?_; (focus (first | assumption | omega | (simp <;> omega) | (simp; done))))
                  | (refine WL.r rfl rfl rfl (ldom rfl rfl Try.underlying3 rfl ?_) ?_; (focus (first | assumption | omega | (simp <;> omega) | (simp; done))))
                refine WL.r rfl rfl rfl (rd_assign rfl rfl) ?_
                refine WL.nil ?_
                refine WX.block_normal ?_
                refine WX.loopO ((p + 5 + num4 (d.drop (p + 1)) + 32, after s (⟨d.getD p default, (d.drop (p + 5)).take (num4 (d.drop (p + 1))), p, p + 5 + num4 (d.drop (p + 1)) + 32, 0⟩ : It), gy)) (by (try dsimp only); omega) (sub_cons rfl (sub_cons rfl (sub_nil _))) (by refine (sub_cons ?_ (sub_nil _)) <;> (first | rfl | (simp only [List.length_append, List.length_cons, List.length_nil, Nat.zero_add]; rfl) | (dsimp only; first | rfl | (congr 2; omega) | (congr 3; omega)))) ?_ (by first | exact fun _ h => h | exact st_sub)
                (try dsimp only)
                exact ⟨by omega, hgy hst, (it_next hp hnx rfl hst).symm.trans hi⟩
    · (try simp only [decide_eq_true_eq, decide_eq_false_iff_not, Bool.not_eq_true', Bool.not_eq_false', Bool.not_not, Int.not_lt, Int.not_le] at hg25)
      refine WL.s rfl rfl rfl ?_
      refine WL.s rfl rfl rfl ?_
      refine WL.s rfl rfl rfl ?_
      refine WL.r rfl rfl rfl (rd_pickf rfl rfl rfl) ?_
      refine WL.r rfl rfl rfl (rd_move rfl rfl) ?_
      refine WL.r rfl rfl rfl (rd_move rfl rfl) ?_
      refine WL.r rfl rfl rfl (rd_gtr rfl rfl rfl) ?_
      refine WL.r rfl rfl rfl (rd_pickf rfl rfl rfl) ?_
      refine WL.nt ?_
      refine WC.cond rfl (fun hc33 => ?_) (fun hc33 => ?_)
      · (try simp only [decide_eq_true_eq, decide_eq_false_iff_not, Bool.not_eq_true', Bool.not_eq_false', Bool.not_not, Int.not_lt, Int.not_le] at hc33)
        refine WC.sr ?_
        refine WL.r rfl rfl rfl (rd_move rfl rfl) ?_
        refine WL.r rfl rfl rfl (lda rfl rfl .tc Try.underlying61 rfl ?_) ?_
        · kernel_rfl
        refine WL.g rfl rfl rfl (og_yield hY [⟨some b4, [.int .u8 ((d.getD p default).toNat : Int), .string (S []), .int .i64 (p : Int), .int .i64 0], 61⟩] ((⟨d.getD p default, [], p, 0, 3⟩ : It)) rfl rfl rfl rfl (hinv _ _ (Nat.zero_le _)) (hgs)) ?_
        intro gy; refine WL.pu ?_; intro hgy; first | refine WL.app1 ?_ | refine WL.app0 ?_ | skip
        refine WL.nt ?_
        refine WC.ret ?_
        refine WX.then_ret ?_
        refine WX.block_ret ?_
        refine WX.then_ret ?_
        refine WX.block_ret ?_
        exact WX.retN rfl .nil fun w' hS => ⟨⟨_, rfl⟩, gy, by rw [← hi, it_stop hp (by rw [nextJ, if_neg (by omega), if_pos (by omega)]) (.inl (by simp))]; exact hgy, by rw [← hi, it_stop hp (by rw [nextJ, if_neg (by omega), if_pos (by omega)]) (.inl (by simp))]; dsimp only; exact st_sub _ hS⟩
      · (try simp only [decide_eq_true_eq, decide_eq_false_iff_not, Bool.not_eq_true', Bool.not_eq_false', Bool.not_not, Int.not_lt, Int.not_le] at hc33)
        refine WC.skip ?_
        refine WX.then_normal ?_
        refine WC.seq ?_
        refine WC.sr ?_
        refine WL.r rfl rfl rfl (ld rfl rfl .tc Try.underlying9 rfl (by rfl)) ?_
        refine WL.r rfl rfl rfl (rd_slen rfl rfl Try.underlying9) ?_
        refine WL.r rfl rfl rfl (rd_move rfl rfl) ?_
        first
          | (refine WL.r rfl rfl rfl (rd_sub64n rfl rfl rfl ?_) ?_; (focus (first | assumption | omega | (simp <;> omega) | (simp; done))))
          | (refine WL.r rfl rfl rfl (rd_sub64 rfl rfl rfl ?_) ?_; (focus (first | assumption | omega | (simp <;> omega) | (simp; done))))
        refine WL.r rfl rfl rfl (rd_move rfl rfl) ?_
        first
          | (refine WL.r rfl rfl rfl (rd_add64ln rfl rfl rfl ?_) ?_; (focus (first | assumption | omega | (simp <;> omega) | (simp; done))))
          | (refine WL.r rfl rfl rfl (rd_add64 rfl rfl rfl ?_) ?_; (focus (first | assumption | omega | (simp <;> omega) | (simp; done))))
        first
          | (refine WL.r rfl rfl rfl (rd_add64nl rfl rfl rfl ?_) ?_; (focus (first | assumption | omega | (simp <;> omega) | (simp; done))))
          | (refine WL.r rfl rfl rfl (rd_add64 rfl rfl rfl ?_) ?_; (focus (first | assumption | omega | (simp <;> omega) | (simp; done))))
        refine WL.r rfl rfl rfl (rd_lss rfl rfl rfl) ?_
        refine WL.nt ?_
        refine WC.cond rfl (fun hc44 => ?_) (fun hc44 => ?_)
        · (try simp only [decide_eq_true_eq, decide_eq_false_iff_not, Bool.not_eq_true', Bool.not_eq_false', Bool.not_not, Int.not_lt, Int.not_le] at hc44)
          refine WC.ret ?_
          refine WX.then_ret ?_
          refine WX.block_ret ?_
          refine WX.then_ret ?_
          refine WX.block_ret ?_
          exact WX.retN rfl .nil fun w' hS => ⟨⟨_, rfl⟩, g, fun _ => by rw [← hi, it_none hp (by rw [nextJ, if_neg (by omega), if_neg (by omega), if_pos (by omega)])]; exact hgs, by rw [← hi, it_none hp (by rw [nextJ, if_neg (by omega), if_neg (by omega), if_pos (by omega)])]; dsimp only; exact st_sub _ hS⟩
        · (try simp only [decide_eq_true_eq, decide_eq_false_iff_not, Bool.not_eq_true', Bool.not_eq_false', Bool.not_not, Int.not_lt, Int.not_le] at hc44)
          refine WC.skip ?_
          refine WX.then_normal ?_
          refine WC.sr ?_
          refine WL.r rfl rfl rfl (rd_move rfl rfl) ?_
          first
            | (refine WL.r rfl rfl rfl (rd_add64nl rfl rfl rfl ?_) ?_; (focus (first | assumption | omega | (simp <;> omega) | (simp; done))))
            | (refine WL.r rfl rfl rfl (rd_add64 rfl rfl rfl ?_) ?_; (focus (first | assumption | omega | (simp <;> omega) | (simp; done))))
          refine WL.r rfl rfl rfl (rd_move rfl rfl) ?_
          first
            | (refine WL.r rfl rfl rfl (rd_add64n rfl rfl rfl ?_) ?_; (focus (first | assumption | omega | (simp <;> omega) | (simp; done))))
            | (refine WL.r rfl rfl rfl (rd_add64 rfl rfl rfl ?_) ?_; (focus (first | assumption | omega | (simp <;> omega) | (simp; done))))
          refine WL.r rfl rfl rfl (rd_assign rfl rfl) ?_
          refine WL.nt ?_
          refine WC.sr ?_
          refine WL.r rfl rfl rfl (ld rfl rfl .tc Try.underlying9 rfl (by rfl)) ?_
          refine WL.r rfl rfl rfl (rd_move rfl rfl) ?_
          first
            | (refine WL.r rfl rfl rfl (rd_add64nl rfl rfl rfl ?_) ?_; (focus (first | assumption | omega | (simp <;> omega) | (simp; done))))
            | (refine WL.r rfl rfl rfl (rd_add64 rfl rfl rfl ?_) ?_; (focus (first | assumption | omega | (simp <;> omega) | (simp; done))))
          refine WL.r rfl rfl rfl (rd_move rfl rfl) ?_
          refine WL.r rfl rfl rfl (rd_ss rfl rfl rfl rfl Try.underlying9 ?_) ?_
          · (try simp only [List.length_append, List.length_cons, List.length_nil]); omega
          refine WL.set 53 rfl (v' := .string (S ((d.drop (p + 5)).take (num4 (d.drop (p + 1)))))) (congrArg (fun l => Value.string (S l)) (by show List.take (p + 5 + num4 (d.drop (p + 1)) - (p + 5)) (List.drop (p + 5) d) = _; rw [Nat.add_sub_cancel_left])) ?_
          refine WL.r rfl rfl rfl (rd_move rfl rfl) ?_
          first
            | (refine WL.r rfl rfl rfl (rd_add64nl rfl rfl rfl ?_) ?_; (focus (first | assumption | omega | (simp <;> omega) | (simp; done))))
            | (refine WL.r rfl rfl rfl (rd_add64 rfl rfl rfl ?_) ?_; (focus (first | assumption | omega | (simp <;> omega) | (simp; done))))
          first
            | (refine WL.r rfl rfl rfl (rd_fa rfl rfl Try.underlying61 rfl (by kernel_rfl) (by (try simp only [Int.toNat_natCast, Nat.mul_one, Nat.zero_add, Nat.add_zero, Nat.zero_mul, Int.reduceToNat, Nat.reduceAdd, Nat.reduceMul, Nat.reduceSub, Nat.sub_zero]); rfl)) ?_)
            | (refine WL.r rfl rfl rfl (faf rfl rfl Try.underlying61 rfl (by kernel_rfl) (by (try simp only [Int.toNat_natCast, Nat.mul_one, Nat.zero_add, Nat.add_zero, Nat.zero_mul, Int.reduceToNat, Nat.reduceAdd, Nat.reduceMul, Nat.reduceSub, Nat.sub_zero]); rfl)) ?_)
          refine WL.g0 rfl rfl (st rfl rfl rfl .tc (by kernel_rfl) rfl ?_ rfl) ?_
          · first | decide | (simp; done) | (simp <;> omega)
          intro _
          first
            | (refine WL.r rfl rfl rfl (rd_fa rfl rfl Try.underlying61 rfl (by kernel_rfl) (by (try simp only [Int.toNat_natCast, Nat.mul_one, Nat.zero_add, Nat.add_zero, Nat.zero_mul, Int.reduceToNat, Nat.reduceAdd, Nat.reduceMul, Nat.reduceSub, Nat.sub_zero]); rfl)) ?_)
            | (refine WL.r rfl rfl rfl (faf rfl rfl Try.underlying61 rfl (by kernel_rfl) (by (try simp only [Int.toNat_natCast, Nat.mul_one, Nat.zero_add, Nat.add_zero, Nat.zero_mul, Int.reduceToNat, Nat.reduceAdd, Nat.reduceMul, Nat.reduceSub, Nat.sub_zero]); rfl)) ?_)
          refine WL.g0 rfl rfl (st rfl rfl rfl .tc (by kernel_rfl) rfl ?_ rfl) ?_
          · first | decide | (simp; done) | (simp <;> omega)
          intro _
          refine WL.nt ?_
          refine WC.seq ?_
          refine WC.seq ?_
          refine WC.free0 [0, 1, 2, 3, 4, 5, 6, 7, 8, 9, 10] [] [0, 0, 0, 0, 1, 0, 0, 0, 0, 0, 0] (by kernel_rfl) (by kernel_rfl) rfl ?_
          refine WJ.r rfl rfl rfl rfl rfl (ld rfl rfl .tc Try.underlying9 rfl (by rfl)) ?_
          refine WJ.r rfl rfl rfl rfl rfl (rd_move rfl rfl) ?_
          refine WJ.r rfl rfl rfl rfl rfl (rd_move rfl rfl) ?_
          refine WJ.r rfl rfl rfl rfl rfl (rd_ss rfl rfl rfl rfl Try.underlying9 ?_) ?_
          · (try simp only [List.length_append, List.length_cons, List.length_nil]); omega
          refine WJ.set 61 rfl (v' := .string (S ((d.drop p).take (5 + num4 (d.drop (p + 1)))))) (congrArg (fun l => Value.string (S l)) (by show List.take (p + 5 + num4 (d.drop (p + 1)) - p) (List.drop p d) = _; rw [Nat.add_assoc, Nat.add_sub_cancel_left])) ?_
          refine WJ.gv rfl rfl rfl rfl rfl (fun ext => og_call rfl rfl (by kernel_rfl) (keep_val fun w hS => sum_c (by first | assumption | omega | (simp <;> omega) | (simp; done)))) ?_
          refine WJ.r rfl rfl rfl rfl rfl (ld rfl rfl .tc Try.underlying9 rfl (by rfl)) ?_
          refine WJ.r rfl rfl rfl rfl rfl (rd_move rfl rfl) ?_
          first
            | (refine WJ.r rfl rfl rfl rfl rfl (rd_fa rfl rfl Try.underlying61 rfl (by kernel_rfl) (by (try simp only [Int.toNat_natCast, Nat.mul_one, Nat.zero_add, Nat.add_zero, Nat.zero_mul, Int.reduceToNat, Nat.reduceAdd, Nat.reduceMul, Nat.reduceSub, Nat.sub_zero]); rfl)) ?_)
            | (refine WJ.r rfl rfl rfl rfl rfl (faf rfl rfl Try.underlying61 rfl (by kernel_rfl) (by (try simp only [Int.toNat_natCast, Nat.mul_one, Nat.zero_add, Nat.add_zero, Nat.zero_mul, Int.reduceToNat, Nat.reduceAdd, Nat.reduceMul, Nat.reduceSub, Nat.sub_zero]); rfl)) ?_)
          first
            | (refine WJ.r rfl rfl rfl rfl rfl (ld rfl rfl .tc Try.underlying3 rfl (by rfl)) ?_)
            | (refine WJ.r rfl rfl rfl rfl rfl (ldm rfl rfl Try.underlying3 rfl ?_) ?_; (focus (first | assumption | omega | (simp <;> omega) | (simp; done))))
            | (refine WJ.r rfl rfl rfl rfl rfl (ldom rfl rfl Try.underlying3 rfl ?_) ?_; (focus (first | assumption | omega | (simp <;> omega) | (simp; done))))
          refine WJ.r rfl rfl rfl rfl rfl (rd_ss rfl rfl rfl rfl Try.underlying9 ?_) ?_
          · (try simp only [List.length_append, List.length_cons, List.length_nil]); omega
          refine WJ.set 67 rfl (v' := .string (S ((d.drop (p + 5 + num4 (d.drop (p + 1)))).take 32))) (congrArg (fun l => Value.string (S l)) (by show List.take (p + 5 + num4 (d.drop (p + 1)) + 32 - (p + 5 + num4 (d.drop (p + 1)))) (List.drop (p + 5 + num4 (d.drop (p + 1))) d) = _; rw [Nat.add_sub_cancel_left])) ?_
          refine WJ.r rfl rfl rfl rfl rfl (rd_sne rfl rfl rfl) ?_
          refine WJ.nil ?_
          refine WL.nt ?_
          refine WC.cond rfl (fun hc68 => ?_) (fun hc68 => ?_)
          · (try simp only [decide_eq_true_eq, decide_eq_false_iff_not, Bool.not_eq_true', Bool.not_eq_false', Bool.not_not, Int.not_lt, Int.not_le] at hc68)
            refine WC.sr ?_
            refine WL.r rfl rfl rfl (rd_move rfl rfl) ?_
            refine WL.r rfl rfl rfl (lda rfl rfl .tc Try.underlying61 rfl ?_) ?_
            · kernel_rfl
            refine WL.g rfl rfl rfl (og_yield hY [⟨some b4, [.int .u8 ((d.getD p default).toNat : Int), .string (S ((d.drop (p + 5)).take (num4 (d.drop (p + 1))))), .int .i64 (p : Int), .int .i64 ((p + 5 + num4 (d.drop (p + 1)) + 32 : Nat) : Int)], 61⟩] ((⟨d.getD p default, (d.drop (p + 5)).take (num4 (d.drop (p + 1))), p, p + 5 + num4 (d.drop (p + 1)) + 32, 25⟩ : It)) rfl rfl rfl rfl (hinv _ _ (by simp; omega)) (hgs)) ?_
            intro gy; refine WL.pu ?_; intro hgy; first | refine WL.app1 ?_ | refine WL.app0 ?_ | skip
            refine WL.nt ?_
            refine WC.ret ?_
            refine WX.then_ret ?_
            refine WX.block_ret ?_
            refine WX.then_ret ?_
            refine WX.block_ret ?_
            exact WX.retN rfl .nil fun w' hS => ⟨⟨_, rfl⟩, gy, by rw [← hi, it_stop hp (by rw [nextJ, if_neg (by omega), if_neg (by omega), if_neg (by omega), if_pos (by simpa using hc68)]) (.inl (by simp))]; exact hgy, by rw [← hi, it_stop hp (by rw [nextJ, if_neg (by omega), if_neg (by omega), if_neg (by omega), if_pos (by simpa using hc68)]) (.inl (by simp))]; dsimp only; exact st_sub _ hS⟩
          · (try simp only [decide_eq_true_eq, decide_eq_false_iff_not, Bool.not_eq_true', Bool.not_eq_false', Bool.not_not, Int.not_lt, Int.not_le] at hc68)
            have hnx : nextJ d p = some (⟨d.getD p default, (d.drop (p + 5)).take (num4 (d.drop (p + 1))), p, p + 5 + num4 (d.drop (p + 1)) + 32, 0⟩ : It) := by rw [nextJ, if_neg (by omega), if_neg (by omega), if_neg (by omega), if_neg (by simpa using hc68)]
            refine WC.skip ?_
            refine WX.then_normal ?_
            refine WC.seq ?_
            refine WC.sr ?_
            refine WL.r rfl rfl rfl (rd_move rfl rfl) ?_
            refine WL.r rfl rfl rfl (lda rfl rfl .tc Try.underlying61 rfl ?_) ?_
            · kernel_rfl
            refine WL.g rfl rfl rfl (og_yield hY [⟨some b4, [.int .u8 ((d.getD p default).toNat : Int), .string (S ((d.drop (p + 5)).take (num4 (d.drop (p + 1))))), .int .i64 (p : Int), .int .i64 ((p + 5 + num4 (d.drop (p + 1)) + 32 : Nat) : Int)], 61⟩] ((⟨d.getD p default, (d.drop (p + 5)).take (num4 (d.drop (p + 1))), p, p + 5 + num4 (d.drop (p + 1)) + 32, 0⟩ : It)) rfl rfl rfl rfl (hinv _ _ (by simp; omega)) (hgs)) ?_
            intro gy; refine WL.pu ?_; intro hgy; first | refine WL.app1 ?_ | refine WL.app0 ?_ | skip
            refine WL.r rfl rfl rfl (rd_not rfl rfl) ?_
            refine WL.nt ?_
            refine WC.cond rfl (fun hc75 => ?_) (fun hc75 => ?_)
            · (try simp only [decide_eq_true_eq, decide_eq_false_iff_not, Bool.not_eq_true', Bool.not_eq_false', Bool.not_not, Int.not_lt, Int.not_le] at hc75)
              refine WC.ret ?_
              refine WX.then_ret ?_
              refine WX.block_ret ?_
              refine WX.then_ret ?_
              refine WX.block_ret ?_
              exact WX.retN rfl .nil fun w' hS => ⟨⟨_, rfl⟩, gy, by rw [← hi, it_stop hp hnx (.inr (by simpa using hc75))]; exact hgy, by rw [← hi, it_stop hp hnx (.inr (by simpa using hc75))]; dsimp only; exact st_sub _ hS⟩
            · (try simp only [decide_eq_true_eq, decide_eq_false_iff_not, Bool.not_eq_true', Bool.not_eq_false', Bool.not_not, Int.not_lt, Int.not_le] at hc75)
              have hst : stop s (⟨d.getD p default, (d.drop (p + 5)).take (num4 (d.drop (p + 1))), p, p + 5 + num4 (d.drop (p + 1)) + 32, 0⟩ : It) = none := by simpa using hc75
              rw [hst]
              refine WC.skip ?_
              refine WX.then_normal ?_
              refine WC.region ?_
              first
                | (refine WL.r rfl rfl rfl (rd_fa rfl rfl Try.underlying61 rfl (by kernel_rfl) (by (try simp only [Int.toNat_natCast, Nat.mul_one, Nat.zero_add, Nat.add_zero, Nat.zero_mul, Int.reduceToNat, Nat.reduceAdd, Nat.reduceMul, Nat.reduceSub, Nat.sub_zero]); rfl)) ?_)
                | (refine WL.r rfl rfl rfl (faf rfl rfl Try.underlying61 rfl (by kernel_rfl) (by (try simp only [Int.toNat_natCast, Nat.mul_one, Nat.zero_add, Nat.add_zero, Nat.zero_mul, Int.reduceToNat, Nat.reduceAdd, Nat.reduceMul, Nat.reduceSub, Nat.sub_zero]); rfl)) ?_)
              first
                | (refine WL.r rfl rfl rfl (ld rfl rfl .tc Try.underlying3 rfl (by rfl)) ?_)
                | (refine WL.r rfl rfl rfl (ldm rfl rfl Try.underlying3 rfl ?_) ?_; (focus (first | assumption | omega | (simp <;> omega) | (simp; done))))
                | (refine WL.r rfl rfl rfl (ldom rfl rfl Try.underlying3 rfl ?_) ?_; (focus (first | assumption | omega | (simp <;> omega) | (simp; done))))
              refine WL.r rfl rfl rfl (rd_assign rfl rfl) ?_
              refine WL.nil ?_
              refine WX.block_normal ?_
              refine WX.loopO ((p + 5 + num4 (d.drop (p + 1)) + 32, after s (⟨d.getD p default, (d.drop (p + 5)).take (num4 (d.drop (p + 1))), p, p + 5 + num4 (d.drop (p + 1)) + 32, 0⟩ : It), gy)) (by (try dsimp only); omega) (sub_cons rfl (sub_cons rfl (sub_nil _))) (by refine (sub_cons ?_ (sub_nil _)) <;> (first | rfl | (simp only [List.length_append, List.length_cons, List.length_nil, Nat.zero_add]; rfl) | (dsimp only; first | rfl | (congr 2; omega) | (congr 3; omega)))) ?_ (by first | exact fun _ h => h | exact st_sub)
              (try dsimp only)
              exact ⟨by omega, hgy hst, (it_next hp hnx rfl hst).symm.trans hi⟩
  · (try simp only [decide_eq_true_eq, decide_eq_false_iff_not, Bool.not_eq_true', Bool.not_eq_false', Bool.not_not, Int.not_lt, Int.not_le] at hc11)
    refine WC.exit ?_
    refine WX.then_exit ?_
    refine WX.then_exit ?_
    refine WX.block_exit ?_
    refine WX.ret_normal ?_
    exact WX.retN rfl .nil fun w' hS => ⟨⟨_, rfl⟩, g, fun _ => by rw [← hi, it_none hp (by rw [nextJ, if_pos (by omega)])]; exact hgs, by rw [← hi, it_none hp (by rw [nextJ, if_pos (by omega)])]; dsimp only; exact st_sub _ hS⟩
end Go.Proofs.Ytijamoagkmjcjaa
