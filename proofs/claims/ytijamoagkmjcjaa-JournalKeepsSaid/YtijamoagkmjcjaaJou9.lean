/-
  The specification's Open; comparisons.
-/
import Derived.Test.YtijamoagkmjcjaaJou8
namespace Go.Proofs.Ytijamoagkmjcjaa
set_option linter.unusedSimpArgs false
set_option linter.unusedVariables false
set_option maxRecDepth 20000
set_option maxHeartbeats 600000
open Go.RowKit

theorem after_err {s : OS} {x : It} (h : errO s x ≠ 0) : (afterO s x).r = errO s x := by
  unfold errO at h ⊢; unfold afterO
  by_cases h1 : x.e ≠ 0
  · rw [if_pos h1, if_pos h1]
  · rw [if_neg h1] at h ⊢; rw [if_neg h1]
    by_cases h2 : x.k.toNat = 69
    · rw [if_pos h2] at h ⊢; rw [if_pos h2]
      by_cases h3 : 65536 < x.c.length
      · rw [if_pos h3, if_pos h3]
      · rw [if_neg h3] at h ⊢; rw [if_neg h3]
        by_cases h4 : 4096 < s.out.length + 1
        · rw [if_pos h4, if_pos h4]
        · rw [if_neg h4] at h; exact absurd rfl h
    · rw [if_neg h2] at h ⊢; rw [if_neg h2]
      by_cases h3 : (unl x.c).2 = false
      · rw [if_pos h3, if_pos h3]
      · rw [if_neg h3] at h; exact absurd rfl h
section
variable {d : Dk} {p : Nat} {s : OS} {x : It} {n : Int}
theorem opn_err (h0 : d.pend = []) (hi : itJ d.safe afterO stopO (d.safe.length + 1 - p) p s = openS d.safe) (hp : p ≤ d.safe.length) (hx : nextJ d.safe p = some x) (he : errO s x = n) (hn : n ≠ 0) : opn d = ([], .zero, n) := by
  subst he
  have hs : stopO s x = some .ret := by rw [stopO, if_pos hn]
  rw [it_stop hp hx (.inr (by rw [hs]; rfl))] at hi
  rw [opn, if_neg (by simp [h0]), ← hi, if_pos (by rw [hs]; rfl)]
  simp only [after_err hn]
theorem opn_done (h0 : d.pend = []) (hi : itJ d.safe afterO stopO (d.safe.length + 1 - p) p s = openS d.safe) (hp : p ≤ d.safe.length) (hx : nextJ d.safe p = none) : opn d = (s.out, ⟨(d.safe.drop s.fr).take (s.to - s.fr), [], false⟩, 0) := by
  rw [it_none hp hx] at hi
  rw [opn, if_neg (by simp [h0]), ← hi, if_neg (by simp)]
theorem opn_next (hi : itJ d.safe afterO stopO (d.safe.length + 1 - p) p s = openS d.safe) (hp : p ≤ d.safe.length) (hx : nextJ d.safe p = some x) (he : errO s x = 0) : itJ d.safe afterO stopO (d.safe.length + 1 - x.to) x.to (afterO s x) = openS d.safe := by
  have h1 : x.e = 0 := by
    by_cases h : x.e = 0
    · exact h
    · rw [errO, if_pos h] at he; exact he
  have hs : stopO s x = none := by rw [stopO, he]; rfl
  rw [← it_next hp hx h1 hs, hi]
theorem one_eq (c k : UInt8) : ([c] = [k]) ↔ c.toNat = k.toNat := by
  constructor
  · intro h; injection h with h; rw [h]
  · intro h; rw [UInt8.toNat_inj.1 h]
theorem k69 (c : UInt8) : ([c] = [69]) ↔ c.toNat = 69 := one_eq c 69
theorem k82 (c : UInt8) : ([c] = [82]) ↔ c.toNat = 82 := one_eq c 82
theorem S_eq (a b : Bs) : (S a = S b) ↔ a = b := ⟨S_inj, fun h => by rw [h]⟩
end
theorem take_one (l : Bs) (k : Nat) (h : k < l.length) : (l.drop k).take 1 = [l.getD k default] := by
  rw [List.getD_eq_getElem?_getD, List.getElem?_eq_getElem h, List.drop_eq_getElem_cons h]; rfl
theorem ropen_c {d : Dk} {a : Option Addr} {cap : Nat} {w : World} {ok : Nat → Prop} (hF1 : (Fact.sl a (strs d.pend)).holds ok w) (hs : d.safe.length ≤ 1000000) (hl : d.pend.length ≤ 100000) :
    Calls Try.prog 15 #[.agg #[.string (S d.safe), .slice a d.pend.length cap, .bool d.crash]] w fun e w' => ∃ g : Rs, e = .returned (.tuple #[g.val (opn d).1.length, .agg #[.string (S (opn d).2.1.safe), .slice none 0 0, .bool false], .int .i64 (opn d).2.2]) ∧ g.cap = (opn d).1.length + g.sp.length ∧ St (fun _ => True) w [g.ent (strs (opn d).1) 9] [] w' := by
  refine enter (S := St (fun _ => True) w [] [Fact.sl a (strs d.pend)]) (L := [(0, .agg #[.string (S d.safe), .slice a d.pend.length cap, .bool d.crash])]) Try.func15 rfl Try.ntmps15 rfl (args_cons rfl (args_nil _)) (St.start (fun _ _ => trivial) (facts_cons (fact_any hF1) facts_nil)) ?_
  refine WC.sr ?_
  refine WL.g rfl rfl rfl (og_box rfl rfl (by first | exact cells_agg _ | rfl)) ?_
  intro b1
  refine WL.r rfl rfl rfl (rd_assign rfl rfl) ?_
  refine WL.g rfl rfl rfl (og_alloc rfl (v := (.agg #[.string (S []), .slice none 0 0, .bool false])) (cs := [.string (S []), .slice none 0 0, .bool false]) (by kernel_rfl) rfl) ?_
  intro b3
  refine WL.r rfl rfl rfl (rd_assign rfl rfl) ?_
  refine WL.nt ?_
  refine WC.seq ?_
  refine WC.sr ?_
  first
    | (refine WL.r rfl rfl rfl (rd_fa (q := 1) rfl rfl Try.underlying24 rfl (by kernel_rfl) rfl) ?_)
    | (refine WL.r rfl rfl rfl (faf (q' := 1) rfl rfl Try.underlying24 rfl (by kernel_rfl) rfl) ?_)
  first
    | (refine WL.r rfl rfl rfl (ld rfl rfl .tc Try.underlying22 rfl (by rfl)) ?_)
    | (refine WL.r rfl rfl rfl (ldm rfl rfl Try.underlying22 rfl ?_) ?_; (focus (first | assumption | omega | (dsimp only; first | assumption | omega) | (simp <;> omega) | (simp; done))))
    | (refine WL.r rfl rfl rfl (ldom rfl rfl Try.underlying22 rfl ?_) ?_; (focus (first | assumption | omega | (dsimp only; first | assumption | omega) | (simp <;> omega) | (simp; done))))
  refine WL.r rfl rfl rfl (rd_len rfl rfl Try.underlying22) ?_
  refine WL.r rfl rfl rfl (rd_gtr rfl rfl rfl) ?_
  refine WL.nt ?_
  refine WC.cond rfl (fun hc17 => ?_) (fun hc17 => ?_)
  · (try simp only [decide_eq_true_eq, decide_eq_false_iff_not, Bool.not_eq_true', Bool.not_eq_false', Bool.not_not, Int.not_lt, Int.not_le] at hc17)
    refine WC.sr ?_
    refine WL.r rfl rfl rfl (rd_bld [[.string (S [])], [.slice none 0 0], [.bool false]] rfl rfl (by simp only [bld, fldv, Nat.beq, Value.cells, cond_true, cond_false, List.nil_append, List.cons_append, List.append_nil]; rfl) (fun w => by kernel_rfl)) ?_
    refine WL.r rfl rfl rfl (rd_assign rfl rfl) ?_
    refine WL.g0 rfl rfl (sta rfl rfl rfl .tc ?_ ?_ ?_) ?_
    · kernel_rfl
    · simp [Value.oneCell']
    · first | rfl | simp
    intro _
    refine WL.r rfl rfl rfl (rd_assign rfl rfl) ?_
    refine WL.nt ?_
    refine WC.ret ?_
    refine WX.then_ret ?_
    exact WX.retN rfl (.tmp rfl (.agg rfl .tc Try.underlying24 rfl (by kernel_rfl) (.tmp rfl .nil))) fun w' hS => opn_ret0 (by rw [opn, if_pos (by intro h; rw [h] at hc17; simp at hc17)]) hS
  · (try simp only [decide_eq_true_eq, decide_eq_false_iff_not, Bool.not_eq_true', Bool.not_eq_false', Bool.not_not, Int.not_lt, Int.not_le] at hc17)
    have hd0 : d.pend = [] := List.eq_nil_of_length_eq_zero (by omega)
    refine WC.skip ?_
    refine WX.then_normal ?_
    refine WC.sr ?_
    refine WL.r rfl rfl rfl (rd_assign rfl rfl) ?_
    refine WL.nt ?_
    refine WC.sr ?_
    first
      | (refine WL.r rfl rfl rfl (rd_fa (q := 0) rfl rfl Try.underlying24 rfl (by kernel_rfl) rfl) ?_)
      | (refine WL.r rfl rfl rfl (faf (q' := 0) rfl rfl Try.underlying24 rfl (by kernel_rfl) rfl) ?_)
    first
      | (refine WL.r rfl rfl rfl (ld rfl rfl .tc Try.underlying9 rfl (by rfl)) ?_)
      | (refine WL.r rfl rfl rfl (ldm rfl rfl Try.underlying9 rfl ?_) ?_; (focus (first | assumption | omega | (dsimp only; first | assumption | omega) | (simp <;> omega) | (simp; done))))
      | (refine WL.r rfl rfl rfl (ldom rfl rfl Try.underlying9 rfl ?_) ?_; (focus (first | assumption | omega | (dsimp only; first | assumption | omega) | (simp <;> omega) | (simp; done))))
    refine WL.r rfl rfl rfl (rd_assign rfl rfl) ?_
    refine WL.nt ?_
    refine WC.sr ?_
    refine WL.r rfl rfl rfl (rd_assign rfl rfl) ?_
    refine WL.r rfl rfl rfl (rd_assign rfl rfl) ?_
    refine WL.nt ?_
    refine WC.seq ?_
    refine WC.block ?_
    refine WC.loopO (σ := Nat × Nat × (List Bs) × Rs) [(3, _), (6, _)] (fun g => [(5, g.2.2.2.val g.2.2.1.length), (7, .int .i64 (g.1 : Int)), (8, .int .i64 (g.2.1 : Int))]) (fun g => g.1 ≤ d.safe.length ∧ g.2.1 ≤ g.1 ∧ itJ d.safe afterO stopO (d.safe.length + 1 - g.1) g.1 ⟨g.2.2.1, g.2.1, g.1, 0⟩ = openS d.safe ∧ g.2.2.1.length ≤ 4096 ∧ g.2.2.2.cap = g.2.2.1.length + g.2.2.2.sp.length) (fun g => d.safe.length - g.1) (fun g => g.2.2.2.ent (strs g.2.2.1) 9 :: [⟨some b3, [.string (S []), .slice none 0 0, .bool false], 24⟩, ⟨some b1, [.string (S d.safe), .slice a d.pend.length cap, .bool d.crash], 24⟩]) (fun g => [Fact.sl a (strs d.pend)]) (0, 0, [], ⟨none, 0, []⟩) (sub_cons rfl (sub_cons rfl (sub_nil _))) (sub_cons rfl (sub_cons rfl (sub_cons rfl (sub_nil _)))) (by (try dsimp only); exact ⟨Nat.zero_le _, Nat.zero_le _, rfl, Nat.zero_le _, rfl⟩) (by exact fun w h => h.nil _) ?_
    rintro ⟨p, fr, out, q⟩ hinv1; (try dsimp only at hinv1 ⊢)
    obtain ⟨hp, hfr, hi, ho, hq⟩ := hinv1
    refine WC.block ?_
    refine WC.seq ?_
    refine WC.sr ?_
    refine WL.r rfl rfl rfl (rd_move rfl rfl) ?_
    refine WL.r rfl rfl rfl (rd_slen rfl rfl Try.underlying9) ?_
    refine WL.r rfl rfl rfl (rd_move rfl rfl) ?_
    first
      | (refine WL.r rfl rfl rfl (rd_sub64n rfl rfl rfl ?_) ?_; (focus (first | assumption | omega | (dsimp only; first | assumption | omega) | (simp <;> omega) | (simp; done))))
      | (refine WL.r rfl rfl rfl (rd_sub64 rfl rfl rfl ?_) ?_; (focus (first | assumption | omega | (dsimp only; first | assumption | omega) | (simp <;> omega) | (simp; done))))
    refine WL.r rfl rfl rfl (rd_lss rfl rfl rfl) ?_
    refine WL.nt ?_
    refine WC.cond rfl (fun hc25 => ?_) (fun hc25 => ?_)
    · (try simp only [decide_eq_true_eq, decide_eq_false_iff_not, Bool.not_eq_true', Bool.not_eq_false', Bool.not_not, Int.not_lt, Int.not_le] at hc25)
      refine WC.exit ?_
      refine WX.then_exit ?_
      refine WX.block_other rfl ?_
      refine WX.then_exit ?_
      refine WX.block_exit ?_
      refine WX.then_normal ?_
      refine WC.seq ?_
      refine WC.free0 [0, 1, 2, 3, 4, 5, 6] [7, 8] [0, 0, 0, 0, 0, 0, 0, 2, 2] (by kernel_rfl) (by kernel_rfl) rfl ?_
      refine WJ.r rfl rfl rfl rfl rfl (rd_move rfl rfl) ?_
      refine WJ.r rfl rfl rfl rfl rfl (rd_move rfl rfl) ?_
      refine WJ.r rfl rfl rfl rfl rfl (rd_move rfl rfl) ?_
      refine WJ.r rfl rfl rfl rfl rfl (rd_move rfl rfl) ?_
      refine WJ.r rfl rfl rfl rfl rfl (rd_ss rfl rfl rfl rfl Try.underlying9 ?_) ?_
      · (try simp only [List.length_append, List.length_cons, List.length_nil]); omega
      refine WJ.r rfl rfl rfl rfl rfl (rd_bld [[.string (S [])], [.slice none 0 0], [.bool false]] rfl rfl (by simp only [bld, fldv, Nat.beq, Value.cells, cond_true, cond_false, List.nil_append, List.cons_append, List.append_nil]; rfl) (fun w => by kernel_rfl)) ?_
      refine WJ.r rfl rfl rfl rfl rfl (rd_assign rfl rfl) ?_
      refine WJ.nil ?_
      refine WL.g0 rfl rfl (sta rfl rfl rfl .tc ?_ ?_ ?_) ?_
      · kernel_rfl
      · simp [Value.oneCell']
      · first | rfl | simp
      intro _
      refine WL.r rfl rfl rfl (rd_assign rfl rfl) ?_
      refine WL.nt ?_
      refine WC.ret ?_
      exact WX.retN rfl (.tmp rfl (.agg rfl .tc Try.underlying24 rfl (by kernel_rfl) (.tmp rfl .nil))) fun w' hS => opn_ret (opn_done hd0 hi hp (by rw [nextJ]; first | rw [if_pos (by omega)] | (rw [← hn]; rw [if_neg (by omega)]; rw [if_neg (by omega)]; rw [if_pos (by omega)]))) hq hS (by simp)
    · (try simp only [decide_eq_true_eq, decide_eq_false_iff_not, Bool.not_eq_true', Bool.not_eq_false', Bool.not_not, Int.not_lt, Int.not_le] at hc25)
      refine WC.skip ?_
      refine WX.then_normal ?_
      refine WC.sr ?_
      refine WL.r rfl rfl rfl (rd_move rfl rfl) ?_
      refine WL.r rfl rfl rfl (rd_move rfl rfl) ?_
      refine WL.r rfl rfl rfl (rd_move rfl rfl) ?_
      first
        | (refine WL.r rfl rfl rfl (rd_add64nl rfl rfl rfl ?_) ?_; (focus (first | assumption | omega | (dsimp only; first | assumption | omega) | (simp <;> omega) | (simp; done))))
        | (refine WL.r rfl rfl rfl (rd_add64 rfl rfl rfl ?_) ?_; (focus (first | assumption | omega | (dsimp only; first | assumption | omega) | (simp <;> omega) | (simp; done))))
      refine WL.r rfl rfl rfl (rd_ss rfl rfl rfl rfl Try.underlying9 ?_) ?_
      · (try simp only [List.length_append, List.length_cons, List.length_nil]); omega
      refine WL.set 30 rfl (v' := .string (S ([d.safe.getD p default]))) (congrArg (fun l => Value.string (S l)) (by rw [Int.toNat_natCast, Int.toNat_natCast, Nat.add_sub_cancel_left]; exact take_one _ _ (by omega))) ?_
      refine WL.r rfl rfl rfl (rd_assign rfl rfl) ?_
      refine WL.nt ?_
      refine WC.sr ?_
      refine WL.r rfl rfl rfl (rd_move rfl rfl) ?_
      refine WL.r rfl rfl rfl (rd_move rfl rfl) ?_
      first
        | (refine WL.r rfl rfl rfl (rd_add64nl rfl rfl rfl ?_) ?_; (focus (first | assumption | omega | (dsimp only; first | assumption | omega) | (simp <;> omega) | (simp; done))))
        | (refine WL.r rfl rfl rfl (rd_add64 rfl rfl rfl ?_) ?_; (focus (first | assumption | omega | (dsimp only; first | assumption | omega) | (simp <;> omega) | (simp; done))))
      refine WL.r rfl rfl rfl (rd_sfrom rfl rfl rfl Try.underlying9 ?_) ?_
      · (try simp only [List.length_append, List.length_cons, List.length_nil]); omega
      refine WL.set 34 rfl (v' := .string (S (d.safe.drop (p + 1)))) (congrArg (fun l => Value.string (S l)) (by rfl)) ?_
      refine WL.g rfl rfl rfl (og_call rfl rfl (by kernel_rfl) (keep_val fun w hS => rnum_c (by first | assumption | omega | (dsimp only; first | assumption | omega) | (simp <;> omega) | (simp; done)))) ?_
      intro _
      obtain ⟨n, hn⟩ : ∃ n : Nat, n = num4 (d.safe.drop (p + 1)) := ⟨_, rfl⟩
      refine WL.set 35 rfl (v' := .int .i64 (n : Int)) (by rw [hn]) ?_
      refine WL.r rfl rfl rfl (rd_assign rfl rfl) ?_
      refine WL.nt ?_
      refine WC.seq ?_
      refine WC.sr ?_
      refine WL.r rfl rfl rfl (rd_move rfl rfl) ?_
      refine WL.r rfl rfl rfl (rd_sne rfl rfl rfl) ?_
      refine WL.r rfl rfl rfl (rd_move rfl rfl) ?_
      refine WL.bool 38 rfl (fun hg38 => ?_) (fun hg38 => ?_)
      · (try simp only [decide_eq_true_eq, decide_eq_false_iff_not, Bool.not_eq_true', Bool.not_eq_false', Bool.not_not, Int.not_lt, Int.not_le] at hg38)
        refine WL.r rfl rfl rfl (rd_move rfl rfl) ?_
        refine WL.r rfl rfl rfl (rd_sne rfl rfl rfl) ?_
        refine WL.r rfl rfl rfl (rd_pickt rfl rfl rfl) ?_
        refine WL.r rfl rfl rfl (rd_move rfl rfl) ?_
        refine WL.bool 42 rfl (fun hg42 => ?_) (fun hg42 => ?_)
        · (try simp only [decide_eq_true_eq, decide_eq_false_iff_not, Bool.not_eq_true', Bool.not_eq_false', Bool.not_not, Int.not_lt, Int.not_le] at hg42)
          refine WL.s rfl rfl rfl ?_
          refine WL.s rfl rfl rfl ?_
          refine WL.r rfl rfl rfl (rd_pickt rfl rfl rfl) ?_
          refine WL.nt ?_
          refine WC.cond rfl (fun _ => ?_) (fun h => by cases h)
          refine WC.sr ?_
          refine WL.r rfl rfl rfl (rd_bld [[.string (S [])], [.slice none 0 0], [.bool false]] rfl rfl (by simp only [bld, fldv, Nat.beq, Value.cells, cond_true, cond_false, List.nil_append, List.cons_append, List.append_nil]; rfl) (fun w => by kernel_rfl)) ?_
          refine WL.r rfl rfl rfl (rd_assign rfl rfl) ?_
          refine WL.g0 rfl rfl (sta rfl rfl rfl .tc ?_ ?_ ?_) ?_
          · kernel_rfl
          · simp [Value.oneCell']
          · first | rfl | simp
          intro _
          refine WL.r rfl rfl rfl (rd_assign rfl rfl) ?_
          refine WL.nt ?_
          refine WC.ret ?_
          refine WX.then_ret ?_
          refine WX.block_ret ?_
          refine WX.then_ret ?_
          refine WX.block_ret ?_
          refine WX.then_ret ?_
          (try rw [k69] at hg38); (try rw [k82] at hg42); exact WX.retN rfl (.tmp rfl (.agg rfl .tc Try.underlying24 rfl (by kernel_rfl) (.tmp rfl .nil))) fun w' hS => opn_ret0 (opn_err hd0 hi hp (by rw [nextJ, ← hn, if_neg (by omega), if_pos (by omega)]) (by rw [errO, if_pos (by simp)]) (by decide)) hS
        · (try simp only [decide_eq_true_eq, decide_eq_false_iff_not, Bool.not_eq_true', Bool.not_eq_false', Bool.not_not, Int.not_lt, Int.not_le] at hg42)
          refine WL.r rfl rfl rfl (rd_move rfl rfl) ?_
          refine WL.r rfl rfl rfl (rd_gtr rfl rfl rfl) ?_
          refine WL.r rfl rfl rfl (rd_pickf rfl rfl rfl) ?_
          refine WL.nt ?_
          refine WC.cond rfl (fun hc45 => ?_) (fun hc45 => ?_)
          · (try simp only [decide_eq_true_eq, decide_eq_false_iff_not, Bool.not_eq_true', Bool.not_eq_false', Bool.not_not, Int.not_lt, Int.not_le] at hc45)
            refine WC.sr ?_
            refine WL.r rfl rfl rfl (rd_bld [[.string (S [])], [.slice none 0 0], [.bool false]] rfl rfl (by simp only [bld, fldv, Nat.beq, Value.cells, cond_true, cond_false, List.nil_append, List.cons_append, List.append_nil]; rfl) (fun w => by kernel_rfl)) ?_
            refine WL.r rfl rfl rfl (rd_assign rfl rfl) ?_
            refine WL.g0 rfl rfl (sta rfl rfl rfl .tc ?_ ?_ ?_) ?_
            · kernel_rfl
            · simp [Value.oneCell']
            · first | rfl | simp
            intro _
            refine WL.r rfl rfl rfl (rd_assign rfl rfl) ?_
            refine WL.nt ?_
            refine WC.ret ?_
            refine WX.then_ret ?_
            refine WX.block_ret ?_
            refine WX.then_ret ?_
            refine WX.block_ret ?_
            refine WX.then_ret ?_
            (try rw [k69] at hg38); (try rw [k82] at hg42); exact WX.retN rfl (.tmp rfl (.agg rfl .tc Try.underlying24 rfl (by kernel_rfl) (.tmp rfl .nil))) fun w' hS => opn_ret0 (opn_err hd0 hi hp (by rw [nextJ, ← hn, if_neg (by omega), if_pos (by omega)]) (by rw [errO, if_pos (by simp)]) (by decide)) hS
          · (try simp only [decide_eq_true_eq, decide_eq_false_iff_not, Bool.not_eq_true', Bool.not_eq_false', Bool.not_not, Int.not_lt, Int.not_le] at hc45)
            (try rw [k69] at hg38); (try rw [k82] at hg42)
            refine WC.skip ?_
            refine WX.then_normal ?_
            refine WC.seq ?_
            refine WC.sr ?_
            refine WL.r rfl rfl rfl (rd_move rfl rfl) ?_
            refine WL.r rfl rfl rfl (rd_slen rfl rfl Try.underlying9) ?_
            refine WL.r rfl rfl rfl (rd_move rfl rfl) ?_
            first
              | (refine WL.r rfl rfl rfl (rd_sub64n rfl rfl rfl ?_) ?_; (focus (first | assumption | omega | (dsimp only; first | assumption | omega) | (simp <;> omega) | (simp; done))))
              | (refine WL.r rfl rfl rfl (rd_sub64 rfl rfl rfl ?_) ?_; (focus (first | assumption | omega | (dsimp only; first | assumption | omega) | (simp <;> omega) | (simp; done))))
            refine WL.r rfl rfl rfl (rd_move rfl rfl) ?_
            first
              | (refine WL.r rfl rfl rfl (rd_add64ln rfl rfl rfl ?_) ?_; (focus (first | assumption | omega | (dsimp only; first | assumption | omega) | (simp <;> omega) | (simp; done))))
              | (refine WL.r rfl rfl rfl (rd_add64 rfl rfl rfl ?_) ?_; (focus (first | assumption | omega | (dsimp only; first | assumption | omega) | (simp <;> omega) | (simp; done))))
            refine WL.r rfl rfl rfl (rd_lss rfl rfl rfl) ?_
            refine WL.nt ?_
            refine WC.cond rfl (fun hc53 => ?_) (fun hc53 => ?_)
            · (try simp only [decide_eq_true_eq, decide_eq_false_iff_not, Bool.not_eq_true', Bool.not_eq_false', Bool.not_not, Int.not_lt, Int.not_le] at hc53)
              refine WC.exit ?_
              refine WX.then_exit ?_
              refine WX.block_other rfl ?_
              refine WX.then_exit ?_
              refine WX.block_exit ?_
              refine WX.then_normal ?_
              refine WC.seq ?_
              refine WC.free0 [0, 1, 2, 3, 4, 5, 6] [7, 8] [0, 0, 0, 0, 0, 0, 0, 2, 2] (by kernel_rfl) (by kernel_rfl) rfl ?_
              refine WJ.r rfl rfl rfl rfl rfl (rd_move rfl rfl) ?_
              refine WJ.r rfl rfl rfl rfl rfl (rd_move rfl rfl) ?_
              refine WJ.r rfl rfl rfl rfl rfl (rd_move rfl rfl) ?_
              refine WJ.r rfl rfl rfl rfl rfl (rd_move rfl rfl) ?_
              refine WJ.r rfl rfl rfl rfl rfl (rd_ss rfl rfl rfl rfl Try.underlying9 ?_) ?_
              · (try simp only [List.length_append, List.length_cons, List.length_nil]); omega
              refine WJ.r rfl rfl rfl rfl rfl (rd_bld [[.string (S [])], [.slice none 0 0], [.bool false]] rfl rfl (by simp only [bld, fldv, Nat.beq, Value.cells, cond_true, cond_false, List.nil_append, List.cons_append, List.append_nil]; rfl) (fun w => by kernel_rfl)) ?_
              refine WJ.r rfl rfl rfl rfl rfl (rd_assign rfl rfl) ?_
              refine WJ.nil ?_
              refine WL.g0 rfl rfl (sta rfl rfl rfl .tc ?_ ?_ ?_) ?_
              · kernel_rfl
              · simp [Value.oneCell']
              · first | rfl | simp
              intro _
              refine WL.r rfl rfl rfl (rd_assign rfl rfl) ?_
              refine WL.nt ?_
              refine WC.ret ?_
              exact WX.retN rfl (.tmp rfl (.agg rfl .tc Try.underlying24 rfl (by kernel_rfl) (.tmp rfl .nil))) fun w' hS => opn_ret (opn_done hd0 hi hp (by rw [nextJ]; first | rw [if_pos (by omega)] | (rw [← hn]; rw [if_neg (by omega)]; rw [if_neg (by omega)]; rw [if_pos (by omega)]))) hq hS (by simp)
            · (try simp only [decide_eq_true_eq, decide_eq_false_iff_not, Bool.not_eq_true', Bool.not_eq_false', Bool.not_not, Int.not_lt, Int.not_le] at hc53)
              refine WC.skip ?_
              refine WX.then_normal ?_
              refine WC.seq ?_
              refine WC.seq ?_
              refine WC.free0 [0, 1, 2, 3, 4, 5, 6, 7, 8, 9, 10, 11, 12, 13, 14, 15, 16, 17, 18] [] [0, 0, 0, 0, 0, 0, 0, 1, 0, 0, 0, 0, 0, 0, 0, 0, 0, 0, 0] (by kernel_rfl) (by kernel_rfl) rfl ?_
              refine WJ.r rfl rfl rfl rfl rfl (rd_move rfl rfl) ?_
              refine WJ.r rfl rfl rfl rfl rfl (rd_move rfl rfl) ?_
              refine WJ.r rfl rfl rfl rfl rfl (rd_move rfl rfl) ?_
              first
                | (refine WJ.r rfl rfl rfl rfl rfl (rd_add64nl rfl rfl rfl ?_) ?_; (focus (first | assumption | omega | (dsimp only; first | assumption | omega) | (simp <;> omega) | (simp; done))))
                | (refine WJ.r rfl rfl rfl rfl rfl (rd_add64 rfl rfl rfl ?_) ?_; (focus (first | assumption | omega | (dsimp only; first | assumption | omega) | (simp <;> omega) | (simp; done))))
              refine WJ.r rfl rfl rfl rfl rfl (rd_move rfl rfl) ?_
              first
                | (refine WJ.r rfl rfl rfl rfl rfl (rd_add64n rfl rfl rfl ?_) ?_; (focus (first | assumption | omega | (dsimp only; first | assumption | omega) | (simp <;> omega) | (simp; done))))
                | (refine WJ.r rfl rfl rfl rfl rfl (rd_add64 rfl rfl rfl ?_) ?_; (focus (first | assumption | omega | (dsimp only; first | assumption | omega) | (simp <;> omega) | (simp; done))))
              refine WJ.r rfl rfl rfl rfl rfl (rd_ss rfl rfl rfl rfl Try.underlying9 ?_) ?_
              · (try simp only [List.length_append, List.length_cons, List.length_nil]); omega
              refine WJ.set 60 rfl (v' := .string (S ((d.safe.drop p).take (5 + n)))) (congrArg (fun l => Value.string (S l)) (by rw [Int.toNat_natCast, Int.toNat_natCast]; exact congrArg (fun n => List.take n _) (by omega))) ?_
              refine WJ.gv rfl rfl rfl rfl rfl (fun ext => og_call rfl rfl (by kernel_rfl) (keep_val fun w hS => rsum_c (s := (d.safe.drop p).take (5 + n)) (by exact Nat.le_trans (List.length_take_le _ _) (by omega)))) ?_
              refine WJ.r rfl rfl rfl rfl rfl (rd_move rfl rfl) ?_
              refine WJ.r rfl rfl rfl rfl rfl (rd_move rfl rfl) ?_
              first
                | (refine WJ.r rfl rfl rfl rfl rfl (rd_add64nl rfl rfl rfl ?_) ?_; (focus (first | assumption | omega | (dsimp only; first | assumption | omega) | (simp <;> omega) | (simp; done))))
                | (refine WJ.r rfl rfl rfl rfl rfl (rd_add64 rfl rfl rfl ?_) ?_; (focus (first | assumption | omega | (dsimp only; first | assumption | omega) | (simp <;> omega) | (simp; done))))
              refine WJ.r rfl rfl rfl rfl rfl (rd_move rfl rfl) ?_
              first
                | (refine WJ.r rfl rfl rfl rfl rfl (rd_add64n rfl rfl rfl ?_) ?_; (focus (first | assumption | omega | (dsimp only; first | assumption | omega) | (simp <;> omega) | (simp; done))))
                | (refine WJ.r rfl rfl rfl rfl rfl (rd_add64 rfl rfl rfl ?_) ?_; (focus (first | assumption | omega | (dsimp only; first | assumption | omega) | (simp <;> omega) | (simp; done))))
              refine WJ.r rfl rfl rfl rfl rfl (rd_move rfl rfl) ?_
              first
                | (refine WJ.r rfl rfl rfl rfl rfl (rd_add64nl rfl rfl rfl ?_) ?_; (focus (first | assumption | omega | (dsimp only; first | assumption | omega) | (simp <;> omega) | (simp; done))))
                | (refine WJ.r rfl rfl rfl rfl rfl (rd_add64 rfl rfl rfl ?_) ?_; (focus (first | assumption | omega | (dsimp only; first | assumption | omega) | (simp <;> omega) | (simp; done))))
              refine WJ.r rfl rfl rfl rfl rfl (rd_move rfl rfl) ?_
              first
                | (refine WJ.r rfl rfl rfl rfl rfl (rd_add64n rfl rfl rfl ?_) ?_; (focus (first | assumption | omega | (dsimp only; first | assumption | omega) | (simp <;> omega) | (simp; done))))
                | (refine WJ.r rfl rfl rfl rfl rfl (rd_add64 rfl rfl rfl ?_) ?_; (focus (first | assumption | omega | (dsimp only; first | assumption | omega) | (simp <;> omega) | (simp; done))))
              refine WJ.r rfl rfl rfl rfl rfl (rd_ss rfl rfl rfl rfl Try.underlying9 ?_) ?_
              · (try simp only [List.length_append, List.length_cons, List.length_nil]); omega
              refine WJ.set 71 rfl (v' := .string (S ((d.safe.drop (p + 5 + n)).take 32))) (congrArg (fun l => Value.string (S l)) (by rw [Int.toNat_natCast, Int.toNat_natCast]; exact congrArg (fun n => List.take n _) (by omega))) ?_
              refine WJ.r rfl rfl rfl rfl rfl (rd_sne rfl rfl rfl) ?_
              refine WJ.nil ?_
              refine WL.nt ?_
              refine WC.cond rfl (fun hc72 => ?_) (fun hc72 => ?_)
              · (try simp only [decide_eq_true_eq, decide_eq_false_iff_not, Bool.not_eq_true', Bool.not_eq_false', Bool.not_not, Int.not_lt, Int.not_le] at hc72)
                refine WC.sr ?_
                refine WL.r rfl rfl rfl (rd_bld [[.string (S [])], [.slice none 0 0], [.bool false]] rfl rfl (by simp only [bld, fldv, Nat.beq, Value.cells, cond_true, cond_false, List.nil_append, List.cons_append, List.append_nil]; rfl) (fun w => by kernel_rfl)) ?_
                refine WL.r rfl rfl rfl (rd_assign rfl rfl) ?_
                refine WL.g0 rfl rfl (sta rfl rfl rfl .tc ?_ ?_ ?_) ?_
                · kernel_rfl
                · simp [Value.oneCell']
                · first | rfl | simp
                intro _
                refine WL.r rfl rfl rfl (rd_assign rfl rfl) ?_
                refine WL.nt ?_
                refine WC.ret ?_
                refine WX.then_ret ?_
                refine WX.block_ret ?_
                refine WX.then_ret ?_
                refine WX.block_ret ?_
                refine WX.then_ret ?_
                exact WX.retN rfl (.tmp rfl (.agg rfl .tc Try.underlying24 rfl (by kernel_rfl) (.tmp rfl .nil))) fun w' hS => opn_ret0 (opn_err hd0 hi hp (by rw [nextJ, ← hn, if_neg (by omega), if_neg (by omega), if_neg (by omega), if_pos (by simpa using hc72)]) (by rw [errO, if_pos (by simp)]) (by decide)) hS
              · (try simp only [decide_eq_true_eq, decide_eq_false_iff_not, Bool.not_eq_true', Bool.not_eq_false', Bool.not_not, Int.not_lt, Int.not_le] at hc72)
                have hnx : nextJ d.safe p = some (⟨d.safe.getD p default, (d.safe.drop (p + 5)).take (n), p, p + 5 + n + 32, 0⟩ : It) := by rw [nextJ, ← hn, if_neg (by omega), if_neg (by omega), if_neg (by omega), if_neg (by simpa using hc72)]
                have hcl : ((d.safe.drop (p + 5)).take (n)).length = n := by rw [List.length_take, List.length_drop]; exact Nat.min_eq_left (by omega)
                refine WC.skip ?_
                refine WX.then_normal ?_
                refine WC.sr ?_
                refine WL.r rfl rfl rfl (rd_move rfl rfl) ?_
                refine WL.r rfl rfl rfl (rd_move rfl rfl) ?_
                first
                  | (refine WL.r rfl rfl rfl (rd_add64nl rfl rfl rfl ?_) ?_; (focus (first | assumption | omega | (dsimp only; first | assumption | omega) | (simp <;> omega) | (simp; done))))
                  | (refine WL.r rfl rfl rfl (rd_add64 rfl rfl rfl ?_) ?_; (focus (first | assumption | omega | (dsimp only; first | assumption | omega) | (simp <;> omega) | (simp; done))))
                refine WL.r rfl rfl rfl (rd_move rfl rfl) ?_
                first
                  | (refine WL.r rfl rfl rfl (rd_add64nl rfl rfl rfl ?_) ?_; (focus (first | assumption | omega | (dsimp only; first | assumption | omega) | (simp <;> omega) | (simp; done))))
                  | (refine WL.r rfl rfl rfl (rd_add64 rfl rfl rfl ?_) ?_; (focus (first | assumption | omega | (dsimp only; first | assumption | omega) | (simp <;> omega) | (simp; done))))
                refine WL.r rfl rfl rfl (rd_move rfl rfl) ?_
                first
                  | (refine WL.r rfl rfl rfl (rd_add64n rfl rfl rfl ?_) ?_; (focus (first | assumption | omega | (dsimp only; first | assumption | omega) | (simp <;> omega) | (simp; done))))
                  | (refine WL.r rfl rfl rfl (rd_add64 rfl rfl rfl ?_) ?_; (focus (first | assumption | omega | (dsimp only; first | assumption | omega) | (simp <;> omega) | (simp; done))))
                refine WL.r rfl rfl rfl (rd_ss rfl rfl rfl rfl Try.underlying9 ?_) ?_
                · (try simp only [List.length_append, List.length_cons, List.length_nil]); omega
                refine WL.set 81 rfl (v' := .string (S ((d.safe.drop (p + 5)).take (n)))) (congrArg (fun l => Value.string (S l)) (by rw [Int.toNat_natCast, Int.toNat_natCast]; exact congrArg (fun n => List.take n _) (by omega))) ?_
                refine WL.r rfl rfl rfl (rd_assign rfl rfl) ?_
                refine WL.nt ?_
                refine WC.seq ?_
                refine WC.sr ?_
                refine WL.r rfl rfl rfl (rd_move rfl rfl) ?_
                refine WL.r rfl rfl rfl (rd_seq rfl rfl rfl) ?_
                refine WL.nt ?_
                refine WC.cond rfl (fun hc83 => ?_) (fun hc83 => ?_)
                · (try simp only [decide_eq_true_eq, decide_eq_false_iff_not, Bool.not_eq_true', Bool.not_eq_false', Bool.not_not, Int.not_lt, Int.not_le] at hc83)
                  rw [k69] at hc83
                  refine WC.seq ?_
                  refine WC.sr ?_
                  refine WL.r rfl rfl rfl (rd_move rfl rfl) ?_
                  refine WL.r rfl rfl rfl (rd_gtr rfl rfl rfl) ?_
                  refine WL.nt ?_
                  refine WC.cond rfl (fun hc85 => ?_) (fun hc85 => ?_)
                  · (try simp only [decide_eq_true_eq, decide_eq_false_iff_not, Bool.not_eq_true', Bool.not_eq_false', Bool.not_not, Int.not_lt, Int.not_le] at hc85)
                    refine WC.sr ?_
                    refine WL.r rfl rfl rfl (rd_bld [[.string (S [])], [.slice none 0 0], [.bool false]] rfl rfl (by simp only [bld, fldv, Nat.beq, Value.cells, cond_true, cond_false, List.nil_append, List.cons_append, List.append_nil]; rfl) (fun w => by kernel_rfl)) ?_
                    refine WL.r rfl rfl rfl (rd_assign rfl rfl) ?_
                    refine WL.g0 rfl rfl (sta rfl rfl rfl .tc ?_ ?_ ?_) ?_
                    · kernel_rfl
                    · simp [Value.oneCell']
                    · first | rfl | simp
                    intro _
                    refine WL.r rfl rfl rfl (rd_assign rfl rfl) ?_
                    refine WL.nt ?_
                    refine WC.ret ?_
                    refine WX.then_ret ?_
                    refine WX.then_ret ?_
                    refine WX.block_ret ?_
                    refine WX.then_ret ?_
                    refine WX.block_ret ?_
                    refine WX.then_ret ?_
                    exact WX.retN rfl (.tmp rfl (.agg rfl .tc Try.underlying24 rfl (by kernel_rfl) (.tmp rfl .nil))) fun w' hS => opn_ret0 (opn_err hd0 hi hp hnx (by rw [errO, if_neg (by simp), if_pos hc83, if_pos (by simp only [hcl]; omega)]) (by decide)) hS
                  · (try simp only [decide_eq_true_eq, decide_eq_false_iff_not, Bool.not_eq_true', Bool.not_eq_false', Bool.not_not, Int.not_lt, Int.not_le] at hc85)
                    refine WC.skip ?_
                    refine WX.then_normal ?_
                    refine WC.region ?_
                    refine WL.r rfl rfl rfl (rd_move rfl rfl) ?_
                    refine WL.r rfl rfl rfl (rd_move rfl rfl) ?_
                    refine WL.g rfl rfl rfl (og_bs1 rfl rfl Try.underlying22 (by kernel_rfl : _ = some (some (.string (S [])), 1, 16)) rfl (by simp only [List.map]; rfl) rfl rfl ?_ (by decide)) ?_
                    · simp [Value.cells]
                    intro b89
                    first
                      | (refine WL.g rfl rfl rfl (appg rfl Try.underlying22 (by kernel_rfl : _ = some (some (.string (S [])), 1, 16)) rfl .tc rfl rfl (fun w hS => by first | exact hS.os | exact hS.sl | exact hS.oc) (by first | rfl | simp) ?_ ?_) ?_; (focus ((refine ⟨?_, ?_, ?_, ?_⟩ <;> (try simp) <;> omega))); (focus (first | (simp [Value.oneCell']; done) | (intro u hu; obtain ⟨_, _, rfl⟩ := List.mem_map.1 hu; rfl))))
                      | (refine WL.g rfl rfl rfl (appf rfl Try.underlying22 (by kernel_rfl : _ = some (some (.string (S [])), 1, 16)) rfl .tc rfl rfl (fun w hS => by first | exact hS.os | exact hS.sl | exact hS.oc) (by first | rfl | simp) ?_ ?_) ?_; (focus ((refine ⟨?_, ?_, ?_, ?_⟩ <;> (try simp) <;> omega))); (focus (first | (simp [Value.oneCell']; done) | (intro u hu; obtain ⟨_, _, rfl⟩ := List.mem_map.1 hu; rfl))))
                      | (refine WL.st (fun w h => h.nil 9) ?_; refine WL.g rfl rfl rfl (appg (ob := none) (xs := []) (sp := []) rfl Try.underlying22 (by kernel_rfl : _ = some (some (.string (S [])), 1, 16)) rfl .tc rfl rfl (fun w hS => by first | exact hS.os | exact hS.sl | exact hS.oc) (by first | rfl | simp) ?_ ?_) ?_; (focus ((refine ⟨?_, ?_, ?_, ?_⟩ <;> (try simp) <;> omega))); (focus (first | (simp [Value.oneCell']; done) | (intro u hu; obtain ⟨_, _, rfl⟩ := List.mem_map.1 hu; rfl))))
                    rintro ⟨o90, c90, s90⟩
                    refine WL.pu ?_
                    intro hg90; (try dsimp only at hg90 ⊢)
                    refine WL.r rfl rfl rfl (rd_assign rfl rfl) ?_
                    refine WL.nt ?_
                    refine WC.seq ?_
                    refine WC.sr ?_
                    refine WL.r rfl rfl rfl (rd_move rfl rfl) ?_
                    refine WL.r rfl rfl rfl (rd_len rfl rfl Try.underlying22) ?_
                    refine WL.r rfl rfl rfl (rd_gtr rfl rfl rfl) ?_
                    refine WL.nt ?_
                    refine WC.cond rfl (fun hc103 => ?_) (fun hc103 => ?_)
                    · (try simp only [decide_eq_true_eq, decide_eq_false_iff_not, Bool.not_eq_true', Bool.not_eq_false', Bool.not_not, Int.not_lt, Int.not_le] at hc103)
                      refine WC.sr ?_
                      refine WL.r rfl rfl rfl (rd_bld [[.string (S [])], [.slice none 0 0], [.bool false]] rfl rfl (by simp only [bld, fldv, Nat.beq, Value.cells, cond_true, cond_false, List.nil_append, List.cons_append, List.append_nil]; rfl) (fun w => by kernel_rfl)) ?_
                      refine WL.r rfl rfl rfl (rd_assign rfl rfl) ?_
                      refine WL.g0 rfl rfl (sta rfl rfl rfl .tc ?_ ?_ ?_) ?_
                      · kernel_rfl
                      · simp [Value.oneCell']
                      · first | rfl | simp
                      intro _
                      refine WL.r rfl rfl rfl (rd_assign rfl rfl) ?_
                      refine WL.nt ?_
                      refine WC.ret ?_
                      refine WX.then_ret ?_
                      refine WX.block_ret ?_
                      refine WX.then_ret ?_
                      refine WX.block_ret ?_
                      refine WX.then_ret ?_
                      first
                        | (exfalso; rw [hu1] at hc103; omega)
                        | exact WX.retN rfl (.tmp rfl (.agg rfl .tc Try.underlying24 rfl (by kernel_rfl) (.tmp rfl .nil))) fun w' hS => opn_ret0 (opn_err hd0 hi hp hnx (by rw [errO, if_neg (by simp), if_pos hc83, if_neg (by simp only [hcl]; omega), if_pos (by simp only; omega)]) (by decide)) hS
                    · (try simp only [decide_eq_true_eq, decide_eq_false_iff_not, Bool.not_eq_true', Bool.not_eq_false', Bool.not_not, Int.not_lt, Int.not_le] at hc103)
                      refine WC.skip ?_
                      refine WX.then_normal ?_
                      refine WC.region ?_
                      refine WL.r rfl rfl rfl (rd_move rfl rfl) ?_
                      first
                        | (refine WL.r rfl rfl rfl (rd_add64nl rfl rfl rfl ?_) ?_; (focus (first | assumption | omega | (dsimp only; first | assumption | omega) | (simp <;> omega) | (simp; done))))
                        | (refine WL.r rfl rfl rfl (rd_add64 rfl rfl rfl ?_) ?_; (focus (first | assumption | omega | (dsimp only; first | assumption | omega) | (simp <;> omega) | (simp; done))))
                      refine WL.r rfl rfl rfl (rd_move rfl rfl) ?_
                      first
                        | (refine WL.r rfl rfl rfl (rd_add64n rfl rfl rfl ?_) ?_; (focus (first | assumption | omega | (dsimp only; first | assumption | omega) | (simp <;> omega) | (simp; done))))
                        | (refine WL.r rfl rfl rfl (rd_add64 rfl rfl rfl ?_) ?_; (focus (first | assumption | omega | (dsimp only; first | assumption | omega) | (simp <;> omega) | (simp; done))))
                      refine WL.set 108 rfl (v' := .int .i64 ((p + 5 + n + 32 : Nat) : Int)) (congrArg (Value.int .i64) (by first | omega | rfl | simp)) ?_
                      refine WL.r rfl rfl rfl (rd_assign rfl rfl) ?_
                      refine WL.nil ?_
                      refine WX.block_normal ?_
                      refine WX.loopO ((p + 5 + n + 32, fr, out ++ [(d.safe.drop (p + 5)).take (n)], ⟨o90, c90, s90⟩)) (by (try dsimp only); omega) (sub_cons rfl (sub_cons rfl (sub_nil _))) (by refine (sub_cons ?_ (sub_cons ?_ (sub_cons ?_ (sub_nil _)))) <;> (first | rfl | (simp only [List.length_append, List.length_cons, List.length_nil, Nat.zero_add]; rfl) | (dsimp only; first | rfl | (congr 2; omega) | (congr 3; omega)))) ?_ (by exact fun w h => by rw [strs_one]; exact st_sub _ h)
                      (try dsimp only)
                      exact ⟨by omega, by omega, by have := opn_next hi hp hnx (by rw [errO, if_neg (by simp), if_pos hc83, if_neg (by simp only [hcl]; omega), if_neg (by simp only; omega)]); rw [afterO, if_neg (by simp), if_pos hc83, if_neg (by simp only [hcl]; omega), if_neg (by simp only; omega)] at this; exact this, by simp; omega, by simpa using hg90⟩
                · (try simp only [decide_eq_true_eq, decide_eq_false_iff_not, Bool.not_eq_true', Bool.not_eq_false', Bool.not_not, Int.not_lt, Int.not_le] at hc83)
                  rw [k69] at hc83
                  refine WC.sr ?_
                  refine WL.r rfl rfl rfl (rd_move rfl rfl) ?_
                  refine WL.g rfl rfl rfl (og_call rfl rfl (by kernel_rfl) (keep_o1 fun w hS => runl_c (s := (d.safe.drop (p + 5)).take (n)) (by rw [hcl]; omega))) ?_
                  intro g93
                  refine WL.pu ?_
                  intro hg93; (try dsimp only at hg93 ⊢)
                  refine WL.r rfl rfl rfl (rd_move rfl rfl) ?_
                  refine WL.r rfl rfl rfl (rd_extL rfl rfl rfl) ?_
                  refine WL.r rfl rfl rfl (rd_extL rfl rfl rfl) ?_
                  refine WL.r rfl rfl rfl (rd_assign rfl rfl) ?_
                  refine WL.r rfl rfl rfl (rd_assign rfl rfl) ?_
                  refine WL.nt ?_
                  refine WC.seq ?_
                  refine WC.sr ?_
                  refine WL.r rfl rfl rfl (rd_move rfl rfl) ?_
                  refine WL.r rfl rfl rfl (rd_not rfl rfl) ?_
                  refine WL.nt ?_
                  refine WC.cond rfl (fun hc97 => ?_) (fun hc97 => ?_)
                  · (try simp only [decide_eq_true_eq, decide_eq_false_iff_not, Bool.not_eq_true', Bool.not_eq_false', Bool.not_not, Int.not_lt, Int.not_le] at hc97)
                    refine WC.sr ?_
                    refine WL.r rfl rfl rfl (rd_bld [[.string (S [])], [.slice none 0 0], [.bool false]] rfl rfl (by simp only [bld, fldv, Nat.beq, Value.cells, cond_true, cond_false, List.nil_append, List.cons_append, List.append_nil]; rfl) (fun w => by kernel_rfl)) ?_
                    refine WL.r rfl rfl rfl (rd_assign rfl rfl) ?_
                    refine WL.g0 rfl rfl (sta rfl rfl rfl .tc ?_ ?_ ?_) ?_
                    · kernel_rfl
                    · simp [Value.oneCell']
                    · first | rfl | simp
                    intro _
                    refine WL.r rfl rfl rfl (rd_assign rfl rfl) ?_
                    refine WL.nt ?_
                    refine WC.ret ?_
                    refine WX.then_ret ?_
                    refine WX.then_ret ?_
                    refine WX.block_ret ?_
                    refine WX.then_ret ?_
                    refine WX.block_ret ?_
                    refine WX.then_ret ?_
                    exact WX.retN rfl (.tmp rfl (.agg rfl .tc Try.underlying24 rfl (by kernel_rfl) (.tmp rfl .nil))) fun w' hS => opn_ret0 (opn_err hd0 hi hp hnx (by rw [errO, if_neg (by simp), if_neg hc83, if_pos (by rw [runl] at hc97; revert hc97; split <;> simp_all)]) (by decide)) hS
                  · (try simp only [decide_eq_true_eq, decide_eq_false_iff_not, Bool.not_eq_true', Bool.not_eq_false', Bool.not_not, Int.not_lt, Int.not_le] at hc97)
                    have hu2 : (unl ((d.safe.drop (p + 5)).take (n))).2 = true := by rw [runl] at hc97; revert hc97; split <;> simp_all
                    have hu1 : (runl ((d.safe.drop (p + 5)).take (n))).1 = (unl ((d.safe.drop (p + 5)).take (n))).1 := by rw [runl, if_pos hu2]
                    have hu3 : (unl ((d.safe.drop (p + 5)).take (n))).1.length ≤ 4096 := unlF_len _ _ [] (Nat.zero_le _)
                    refine WC.skip ?_
                    refine WX.then_normal ?_
                    refine WC.sr ?_
                    refine WL.r rfl rfl rfl (rd_move rfl rfl) ?_
                    refine WL.r rfl rfl rfl (rd_assign rfl rfl) ?_
                    refine WL.nt ?_
                    refine WC.region ?_
                    refine WL.r rfl rfl rfl (rd_move rfl rfl) ?_
                    refine WL.r rfl rfl rfl (rd_assign rfl rfl) ?_
                    refine WL.nt ?_
                    refine WC.seq ?_
                    refine WC.sr ?_
                    refine WL.r rfl rfl rfl (rd_move rfl rfl) ?_
                    refine WL.r rfl rfl rfl (rd_len rfl rfl Try.underlying22) ?_
                    refine WL.r rfl rfl rfl (rd_gtr rfl rfl rfl) ?_
                    refine WL.nt ?_
                    refine WC.cond rfl (fun hc103 => ?_) (fun hc103 => ?_)
                    · (try simp only [decide_eq_true_eq, decide_eq_false_iff_not, Bool.not_eq_true', Bool.not_eq_false', Bool.not_not, Int.not_lt, Int.not_le] at hc103)
                      refine WC.sr ?_
                      refine WL.r rfl rfl rfl (rd_bld [[.string (S [])], [.slice none 0 0], [.bool false]] rfl rfl (by simp only [bld, fldv, Nat.beq, Value.cells, cond_true, cond_false, List.nil_append, List.cons_append, List.append_nil]; rfl) (fun w => by kernel_rfl)) ?_
                      refine WL.r rfl rfl rfl (rd_assign rfl rfl) ?_
                      refine WL.g0 rfl rfl (sta rfl rfl rfl .tc ?_ ?_ ?_) ?_
                      · kernel_rfl
                      · simp [Value.oneCell']
                      · first | rfl | simp
                      intro _
                      refine WL.r rfl rfl rfl (rd_assign rfl rfl) ?_
                      refine WL.nt ?_
                      refine WC.ret ?_
                      refine WX.then_ret ?_
                      refine WX.block_ret ?_
                      refine WX.then_ret ?_
                      refine WX.block_ret ?_
                      refine WX.then_ret ?_
                      first
                        | (exfalso; rw [hu1] at hc103; omega)
                        | exact WX.retN rfl (.tmp rfl (.agg rfl .tc Try.underlying24 rfl (by kernel_rfl) (.tmp rfl .nil))) fun w' hS => opn_ret0 (opn_err hd0 hi hp hnx (by rw [errO, if_neg (by simp), if_pos hc83, if_neg (by simp only [hcl]; omega), if_pos (by simp only; omega)]) (by decide)) hS
                    · (try simp only [decide_eq_true_eq, decide_eq_false_iff_not, Bool.not_eq_true', Bool.not_eq_false', Bool.not_not, Int.not_lt, Int.not_le] at hc103)
                      refine WC.skip ?_
                      refine WX.then_normal ?_
                      refine WC.region ?_
                      refine WL.r rfl rfl rfl (rd_move rfl rfl) ?_
                      first
                        | (refine WL.r rfl rfl rfl (rd_add64nl rfl rfl rfl ?_) ?_; (focus (first | assumption | omega | (dsimp only; first | assumption | omega) | (simp <;> omega) | (simp; done))))
                        | (refine WL.r rfl rfl rfl (rd_add64 rfl rfl rfl ?_) ?_; (focus (first | assumption | omega | (dsimp only; first | assumption | omega) | (simp <;> omega) | (simp; done))))
                      refine WL.r rfl rfl rfl (rd_move rfl rfl) ?_
                      first
                        | (refine WL.r rfl rfl rfl (rd_add64n rfl rfl rfl ?_) ?_; (focus (first | assumption | omega | (dsimp only; first | assumption | omega) | (simp <;> omega) | (simp; done))))
                        | (refine WL.r rfl rfl rfl (rd_add64 rfl rfl rfl ?_) ?_; (focus (first | assumption | omega | (dsimp only; first | assumption | omega) | (simp <;> omega) | (simp; done))))
                      refine WL.set 108 rfl (v' := .int .i64 ((p + 5 + n + 32 : Nat) : Int)) (congrArg (Value.int .i64) (by first | omega | rfl | simp)) ?_
                      refine WL.r rfl rfl rfl (rd_assign rfl rfl) ?_
                      refine WL.nil ?_
                      refine WX.block_normal ?_
                      rw [hu1] at hc103 hg93 ⊢
                      refine WX.loopO ((p + 5 + n + 32, p, (unl ((d.safe.drop (p + 5)).take (n))).1, g93)) (by (try dsimp only); omega) (sub_cons rfl (sub_cons rfl (sub_nil _))) (by refine (sub_cons ?_ (sub_cons ?_ (sub_cons ?_ (sub_nil _)))) <;> (first | rfl | (simp only [List.length_append, List.length_cons, List.length_nil, Nat.zero_add]; rfl) | (dsimp only; first | rfl | (congr 2; omega) | (congr 3; omega)))) ?_ (by first | exact fun _ h => h | exact st_sub)
                      (try dsimp only)
                      exact ⟨by omega, by omega, by have := opn_next hi hp hnx (by rw [errO, if_neg (by simp), if_neg hc83, if_neg (by simp [hu2])]); rw [afterO, if_neg (by simp), if_neg hc83, if_neg (by simp [hu2])] at this; exact this, hu3, hg93⟩
      · (try simp only [decide_eq_true_eq, decide_eq_false_iff_not, Bool.not_eq_true', Bool.not_eq_false', Bool.not_not, Int.not_lt, Int.not_le] at hg38)
        refine WL.s rfl rfl rfl ?_
        refine WL.s rfl rfl rfl ?_
        refine WL.r rfl rfl rfl (rd_pickf rfl rfl rfl) ?_
        refine WL.r rfl rfl rfl (rd_move rfl rfl) ?_
        refine WL.r rfl rfl rfl (rd_move rfl rfl) ?_
        refine WL.r rfl rfl rfl (rd_gtr rfl rfl rfl) ?_
        refine WL.r rfl rfl rfl (rd_pickf rfl rfl rfl) ?_
        refine WL.nt ?_
        refine WC.cond rfl (fun hc45 => ?_) (fun hc45 => ?_)
        · (try simp only [decide_eq_true_eq, decide_eq_false_iff_not, Bool.not_eq_true', Bool.not_eq_false', Bool.not_not, Int.not_lt, Int.not_le] at hc45)
          refine WC.sr ?_
          refine WL.r rfl rfl rfl (rd_bld [[.string (S [])], [.slice none 0 0], [.bool false]] rfl rfl (by simp only [bld, fldv, Nat.beq, Value.cells, cond_true, cond_false, List.nil_append, List.cons_append, List.append_nil]; rfl) (fun w => by kernel_rfl)) ?_
          refine WL.r rfl rfl rfl (rd_assign rfl rfl) ?_
          refine WL.g0 rfl rfl (sta rfl rfl rfl .tc ?_ ?_ ?_) ?_
          · kernel_rfl
          · simp [Value.oneCell']
          · first | rfl | simp
          intro _
          refine WL.r rfl rfl rfl (rd_assign rfl rfl) ?_
          refine WL.nt ?_
          refine WC.ret ?_
          refine WX.then_ret ?_
          refine WX.block_ret ?_
          refine WX.then_ret ?_
          refine WX.block_ret ?_
          refine WX.then_ret ?_
          (try rw [k69] at hg38); (try rw [k82] at hg42); exact WX.retN rfl (.tmp rfl (.agg rfl .tc Try.underlying24 rfl (by kernel_rfl) (.tmp rfl .nil))) fun w' hS => opn_ret0 (opn_err hd0 hi hp (by rw [nextJ, ← hn, if_neg (by omega), if_pos (by omega)]) (by rw [errO, if_pos (by simp)]) (by decide)) hS
        · (try simp only [decide_eq_true_eq, decide_eq_false_iff_not, Bool.not_eq_true', Bool.not_eq_false', Bool.not_not, Int.not_lt, Int.not_le] at hc45)
          (try rw [k69] at hg38); (try rw [k82] at hg42)
          refine WC.skip ?_
          refine WX.then_normal ?_
          refine WC.seq ?_
          refine WC.sr ?_
          refine WL.r rfl rfl rfl (rd_move rfl rfl) ?_
          refine WL.r rfl rfl rfl (rd_slen rfl rfl Try.underlying9) ?_
          refine WL.r rfl rfl rfl (rd_move rfl rfl) ?_
          first
            | (refine WL.r rfl rfl rfl (rd_sub64n rfl rfl rfl ?_) ?_; (focus (first | assumption | omega | (dsimp only; first | assumption | omega) | (simp <;> omega) | (simp; done))))
            | (refine WL.r rfl rfl rfl (rd_sub64 rfl rfl rfl ?_) ?_; (focus (first | assumption | omega | (dsimp only; first | assumption | omega) | (simp <;> omega) | (simp; done))))
          refine WL.r rfl rfl rfl (rd_move rfl rfl) ?_
          first
            | (refine WL.r rfl rfl rfl (rd_add64ln rfl rfl rfl ?_) ?_; (focus (first | assumption | omega | (dsimp only; first | assumption | omega) | (simp <;> omega) | (simp; done))))
            | (refine WL.r rfl rfl rfl (rd_add64 rfl rfl rfl ?_) ?_; (focus (first | assumption | omega | (dsimp only; first | assumption | omega) | (simp <;> omega) | (simp; done))))
          refine WL.r rfl rfl rfl (rd_lss rfl rfl rfl) ?_
          refine WL.nt ?_
          refine WC.cond rfl (fun hc53 => ?_) (fun hc53 => ?_)
          · (try simp only [decide_eq_true_eq, decide_eq_false_iff_not, Bool.not_eq_true', Bool.not_eq_false', Bool.not_not, Int.not_lt, Int.not_le] at hc53)
            refine WC.exit ?_
            refine WX.then_exit ?_
            refine WX.block_other rfl ?_
            refine WX.then_exit ?_
            refine WX.block_exit ?_
            refine WX.then_normal ?_
            refine WC.seq ?_
            refine WC.free0 [0, 1, 2, 3, 4, 5, 6] [7, 8] [0, 0, 0, 0, 0, 0, 0, 2, 2] (by kernel_rfl) (by kernel_rfl) rfl ?_
            refine WJ.r rfl rfl rfl rfl rfl (rd_move rfl rfl) ?_
            refine WJ.r rfl rfl rfl rfl rfl (rd_move rfl rfl) ?_
            refine WJ.r rfl rfl rfl rfl rfl (rd_move rfl rfl) ?_
            refine WJ.r rfl rfl rfl rfl rfl (rd_move rfl rfl) ?_
            refine WJ.r rfl rfl rfl rfl rfl (rd_ss rfl rfl rfl rfl Try.underlying9 ?_) ?_
            · (try simp only [List.length_append, List.length_cons, List.length_nil]); omega
            refine WJ.r rfl rfl rfl rfl rfl (rd_bld [[.string (S [])], [.slice none 0 0], [.bool false]] rfl rfl (by simp only [bld, fldv, Nat.beq, Value.cells, cond_true, cond_false, List.nil_append, List.cons_append, List.append_nil]; rfl) (fun w => by kernel_rfl)) ?_
            refine WJ.r rfl rfl rfl rfl rfl (rd_assign rfl rfl) ?_
            refine WJ.nil ?_
            refine WL.g0 rfl rfl (sta rfl rfl rfl .tc ?_ ?_ ?_) ?_
            · kernel_rfl
            · simp [Value.oneCell']
            · first | rfl | simp
            intro _
            refine WL.r rfl rfl rfl (rd_assign rfl rfl) ?_
            refine WL.nt ?_
            refine WC.ret ?_
            exact WX.retN rfl (.tmp rfl (.agg rfl .tc Try.underlying24 rfl (by kernel_rfl) (.tmp rfl .nil))) fun w' hS => opn_ret (opn_done hd0 hi hp (by rw [nextJ]; first | rw [if_pos (by omega)] | (rw [← hn]; rw [if_neg (by omega)]; rw [if_neg (by omega)]; rw [if_pos (by omega)]))) hq hS (by simp)
          · (try simp only [decide_eq_true_eq, decide_eq_false_iff_not, Bool.not_eq_true', Bool.not_eq_false', Bool.not_not, Int.not_lt, Int.not_le] at hc53)
            refine WC.skip ?_
            refine WX.then_normal ?_
            refine WC.seq ?_
            refine WC.seq ?_
            refine WC.free0 [0, 1, 2, 3, 4, 5, 6, 7, 8, 9, 10, 11, 12, 13, 14, 15, 16, 17, 18] [] [0, 0, 0, 0, 0, 0, 0, 1, 0, 0, 0, 0, 0, 0, 0, 0, 0, 0, 0] (by kernel_rfl) (by kernel_rfl) rfl ?_
            refine WJ.r rfl rfl rfl rfl rfl (rd_move rfl rfl) ?_
            refine WJ.r rfl rfl rfl rfl rfl (rd_move rfl rfl) ?_
            refine WJ.r rfl rfl rfl rfl rfl (rd_move rfl rfl) ?_
            first
              | (refine WJ.r rfl rfl rfl rfl rfl (rd_add64nl rfl rfl rfl ?_) ?_; (focus (first | assumption | omega | (dsimp only; first | assumption | omega) | (simp <;> omega) | (simp; done))))
              | (refine WJ.r rfl rfl rfl rfl rfl (rd_add64 rfl rfl rfl ?_) ?_; (focus (first | assumption | omega | (dsimp only; first | assumption | omega) | (simp <;> omega) | (simp; done))))
            refine WJ.r rfl rfl rfl rfl rfl (rd_move rfl rfl) ?_
            first
              | (refine WJ.r rfl rfl rfl rfl rfl (rd_add64n rfl rfl rfl ?_) ?_; (focus (first | assumption | omega | (dsimp only; first | assumption | omega) | (simp <;> omega) | (simp; done))))
              | (refine WJ.r rfl rfl rfl rfl rfl (rd_add64 rfl rfl rfl ?_) ?_; (focus (first | assumption | omega | (dsimp only; first | assumption | omega) | (simp <;> omega) | (simp; done))))
            refine WJ.r rfl rfl rfl rfl rfl (rd_ss rfl rfl rfl rfl Try.underlying9 ?_) ?_
            · (try simp only [List.length_append, List.length_cons, List.length_nil]); omega
            refine WJ.set 60 rfl (v' := .string (S ((d.safe.drop p).take (5 + n)))) (congrArg (fun l => Value.string (S l)) (by rw [Int.toNat_natCast, Int.toNat_natCast]; exact congrArg (fun n => List.take n _) (by omega))) ?_
            refine WJ.gv rfl rfl rfl rfl rfl (fun ext => og_call rfl rfl (by kernel_rfl) (keep_val fun w hS => rsum_c (s := (d.safe.drop p).take (5 + n)) (by exact Nat.le_trans (List.length_take_le _ _) (by omega)))) ?_
            refine WJ.r rfl rfl rfl rfl rfl (rd_move rfl rfl) ?_
            refine WJ.r rfl rfl rfl rfl rfl (rd_move rfl rfl) ?_
            first
              | (refine WJ.r rfl rfl rfl rfl rfl (rd_add64nl rfl rfl rfl ?_) ?_; (focus (first | assumption | omega | (dsimp only; first | assumption | omega) | (simp <;> omega) | (simp; done))))
              | (refine WJ.r rfl rfl rfl rfl rfl (rd_add64 rfl rfl rfl ?_) ?_; (focus (first | assumption | omega | (dsimp only; first | assumption | omega) | (simp <;> omega) | (simp; done))))
            refine WJ.r rfl rfl rfl rfl rfl (rd_move rfl rfl) ?_
            first
              | (refine WJ.r rfl rfl rfl rfl rfl (rd_add64n rfl rfl rfl ?_) ?_; (focus (first | assumption | omega | (dsimp only; first | assumption | omega) | (simp <;> omega) | (simp; done))))
              | (refine WJ.r rfl rfl rfl rfl rfl (rd_add64 rfl rfl rfl ?_) ?_; (focus (first | assumption | omega | (dsimp only; first | assumption | omega) | (simp <;> omega) | (simp; done))))
            refine WJ.r rfl rfl rfl rfl rfl (rd_move rfl rfl) ?_
            first
              | (refine WJ.r rfl rfl rfl rfl rfl (rd_add64nl rfl rfl rfl ?_) ?_; (focus (first | assumption | omega | (dsimp only; first | assumption | omega) | (simp <;> omega) | (simp; done))))
              | (refine WJ.r rfl rfl rfl rfl rfl (rd_add64 rfl rfl rfl ?_) ?_; (focus (first | assumption | omega | (dsimp only; first | assumption | omega) | (simp <;> omega) | (simp; done))))
            refine WJ.r rfl rfl rfl rfl rfl (rd_move rfl rfl) ?_
            first
              | (refine WJ.r rfl rfl rfl rfl rfl (rd_add64n rfl rfl rfl ?_) ?_; (focus (first | assumption | omega | (dsimp only; first | assumption | omega) | (simp <;> omega) | (simp; done))))
              | (refine WJ.r rfl rfl rfl rfl rfl (rd_add64 rfl rfl rfl ?_) ?_; (focus (first | assumption | omega | (dsimp only; first | assumption | omega) | (simp <;> omega) | (simp; done))))
            refine WJ.r rfl rfl rfl rfl rfl (rd_ss rfl rfl rfl rfl Try.underlying9 ?_) ?_
            · (try simp only [List.length_append, List.length_cons, List.length_nil]); omega
            refine WJ.set 71 rfl (v' := .string (S ((d.safe.drop (p + 5 + n)).take 32))) (congrArg (fun l => Value.string (S l)) (by rw [Int.toNat_natCast, Int.toNat_natCast]; exact congrArg (fun n => List.take n _) (by omega))) ?_
            refine WJ.r rfl rfl rfl rfl rfl (rd_sne rfl rfl rfl) ?_
            refine WJ.nil ?_
            refine WL.nt ?_
            refine WC.cond rfl (fun hc72 => ?_) (fun hc72 => ?_)
            · (try simp only [decide_eq_true_eq, decide_eq_false_iff_not, Bool.not_eq_true', Bool.not_eq_false', Bool.not_not, Int.not_lt, Int.not_le] at hc72)
              refine WC.sr ?_
              refine WL.r rfl rfl rfl (rd_bld [[.string (S [])], [.slice none 0 0], [.bool false]] rfl rfl (by simp only [bld, fldv, Nat.beq, Value.cells, cond_true, cond_false, List.nil_append, List.cons_append, List.append_nil]; rfl) (fun w => by kernel_rfl)) ?_
              refine WL.r rfl rfl rfl (rd_assign rfl rfl) ?_
              refine WL.g0 rfl rfl (sta rfl rfl rfl .tc ?_ ?_ ?_) ?_
              · kernel_rfl
              · simp [Value.oneCell']
              · first | rfl | simp
              intro _
              refine WL.r rfl rfl rfl (rd_assign rfl rfl) ?_
              refine WL.nt ?_
              refine WC.ret ?_
              refine WX.then_ret ?_
              refine WX.block_ret ?_
              refine WX.then_ret ?_
              refine WX.block_ret ?_
              refine WX.then_ret ?_
              exact WX.retN rfl (.tmp rfl (.agg rfl .tc Try.underlying24 rfl (by kernel_rfl) (.tmp rfl .nil))) fun w' hS => opn_ret0 (opn_err hd0 hi hp (by rw [nextJ, ← hn, if_neg (by omega), if_neg (by omega), if_neg (by omega), if_pos (by simpa using hc72)]) (by rw [errO, if_pos (by simp)]) (by decide)) hS
            · (try simp only [decide_eq_true_eq, decide_eq_false_iff_not, Bool.not_eq_true', Bool.not_eq_false', Bool.not_not, Int.not_lt, Int.not_le] at hc72)
              have hnx : nextJ d.safe p = some (⟨d.safe.getD p default, (d.safe.drop (p + 5)).take (n), p, p + 5 + n + 32, 0⟩ : It) := by rw [nextJ, ← hn, if_neg (by omega), if_neg (by omega), if_neg (by omega), if_neg (by simpa using hc72)]
              have hcl : ((d.safe.drop (p + 5)).take (n)).length = n := by rw [List.length_take, List.length_drop]; exact Nat.min_eq_left (by omega)
              refine WC.skip ?_
              refine WX.then_normal ?_
              refine WC.sr ?_
              refine WL.r rfl rfl rfl (rd_move rfl rfl) ?_
              refine WL.r rfl rfl rfl (rd_move rfl rfl) ?_
              first
                | (refine WL.r rfl rfl rfl (rd_add64nl rfl rfl rfl ?_) ?_; (focus (first | assumption | omega | (dsimp only; first | assumption | omega) | (simp <;> omega) | (simp; done))))
                | (refine WL.r rfl rfl rfl (rd_add64 rfl rfl rfl ?_) ?_; (focus (first | assumption | omega | (dsimp only; first | assumption | omega) | (simp <;> omega) | (simp; done))))
              refine WL.r rfl rfl rfl (rd_move rfl rfl) ?_
              first
                | (refine WL.r rfl rfl rfl (rd_add64nl rfl rfl rfl ?_) ?_; (focus (first | assumption | omega | (dsimp only; first | assumption | omega) | (simp <;> omega) | (simp; done))))
                | (refine WL.r rfl rfl rfl (rd_add64 rfl rfl rfl ?_) ?_; (focus (first | assumption | omega | (dsimp only; first | assumption | omega) | (simp <;> omega) | (simp; done))))
              refine WL.r rfl rfl rfl (rd_move rfl rfl) ?_
              first
                | (refine WL.r rfl rfl rfl (rd_add64n rfl rfl rfl ?_) ?_; (focus (first | assumption | omega | (dsimp only; first | assumption | omega) | (simp <;> omega) | (simp; done))))
                | (refine WL.r rfl rfl rfl (rd_add64 rfl rfl rfl ?_) ?_; (focus (first | assumption | omega | (dsimp only; first | assumption | omega) | (simp <;> omega) | (simp; done))))
              refine WL.r rfl rfl rfl (rd_ss rfl rfl rfl rfl Try.underlying9 ?_) ?_
              · (try simp only [List.length_append, List.length_cons, List.length_nil]); omega
              refine WL.set 81 rfl (v' := .string (S ((d.safe.drop (p + 5)).take (n)))) (congrArg (fun l => Value.string (S l)) (by rw [Int.toNat_natCast, Int.toNat_natCast]; exact congrArg (fun n => List.take n _) (by omega))) ?_
              refine WL.r rfl rfl rfl (rd_assign rfl rfl) ?_
              refine WL.nt ?_
              refine WC.seq ?_
              refine WC.sr ?_
              refine WL.r rfl rfl rfl (rd_move rfl rfl) ?_
              refine WL.r rfl rfl rfl (rd_seq rfl rfl rfl) ?_
              refine WL.nt ?_
              refine WC.cond rfl (fun hc83 => ?_) (fun hc83 => ?_)
              · (try simp only [decide_eq_true_eq, decide_eq_false_iff_not, Bool.not_eq_true', Bool.not_eq_false', Bool.not_not, Int.not_lt, Int.not_le] at hc83)
                rw [k69] at hc83
                refine WC.seq ?_
                refine WC.sr ?_
                refine WL.r rfl rfl rfl (rd_move rfl rfl) ?_
                refine WL.r rfl rfl rfl (rd_gtr rfl rfl rfl) ?_
                refine WL.nt ?_
                refine WC.cond rfl (fun hc85 => ?_) (fun hc85 => ?_)
                · (try simp only [decide_eq_true_eq, decide_eq_false_iff_not, Bool.not_eq_true', Bool.not_eq_false', Bool.not_not, Int.not_lt, Int.not_le] at hc85)
                  refine WC.sr ?_
                  refine WL.r rfl rfl rfl (rd_bld [[.string (S [])], [.slice none 0 0], [.bool false]] rfl rfl (by simp only [bld, fldv, Nat.beq, Value.cells, cond_true, cond_false, List.nil_append, List.cons_append, List.append_nil]; rfl) (fun w => by kernel_rfl)) ?_
                  refine WL.r rfl rfl rfl (rd_assign rfl rfl) ?_
                  refine WL.g0 rfl rfl (sta rfl rfl rfl .tc ?_ ?_ ?_) ?_
                  · kernel_rfl
                  · simp [Value.oneCell']
                  · first | rfl | simp
                  intro _
                  refine WL.r rfl rfl rfl (rd_assign rfl rfl) ?_
                  refine WL.nt ?_
                  refine WC.ret ?_
                  refine WX.then_ret ?_
                  refine WX.then_ret ?_
                  refine WX.block_ret ?_
                  refine WX.then_ret ?_
                  refine WX.block_ret ?_
                  refine WX.then_ret ?_
                  exact WX.retN rfl (.tmp rfl (.agg rfl .tc Try.underlying24 rfl (by kernel_rfl) (.tmp rfl .nil))) fun w' hS => opn_ret0 (opn_err hd0 hi hp hnx (by rw [errO, if_neg (by simp), if_pos hc83, if_pos (by simp only [hcl]; omega)]) (by decide)) hS
                · (try simp only [decide_eq_true_eq, decide_eq_false_iff_not, Bool.not_eq_true', Bool.not_eq_false', Bool.not_not, Int.not_lt, Int.not_le] at hc85)
                  refine WC.skip ?_
                  refine WX.then_normal ?_
                  refine WC.region ?_
                  refine WL.r rfl rfl rfl (rd_move rfl rfl) ?_
                  refine WL.r rfl rfl rfl (rd_move rfl rfl) ?_
                  refine WL.g rfl rfl rfl (og_bs1 rfl rfl Try.underlying22 (by kernel_rfl : _ = some (some (.string (S [])), 1, 16)) rfl (by simp only [List.map]; rfl) rfl rfl ?_ (by decide)) ?_
                  · simp [Value.cells]
                  intro b89
                  first
                    | (refine WL.g rfl rfl rfl (appg rfl Try.underlying22 (by kernel_rfl : _ = some (some (.string (S [])), 1, 16)) rfl .tc rfl rfl (fun w hS => by first | exact hS.os | exact hS.sl | exact hS.oc) (by first | rfl | simp) ?_ ?_) ?_; (focus ((refine ⟨?_, ?_, ?_, ?_⟩ <;> (try simp) <;> omega))); (focus (first | (simp [Value.oneCell']; done) | (intro u hu; obtain ⟨_, _, rfl⟩ := List.mem_map.1 hu; rfl))))
                    | (refine WL.g rfl rfl rfl (appf rfl Try.underlying22 (by kernel_rfl : _ = some (some (.string (S [])), 1, 16)) rfl .tc rfl rfl (fun w hS => by first | exact hS.os | exact hS.sl | exact hS.oc) (by first | rfl | simp) ?_ ?_) ?_; (focus ((refine ⟨?_, ?_, ?_, ?_⟩ <;> (try simp) <;> omega))); (focus (first | (simp [Value.oneCell']; done) | (intro u hu; obtain ⟨_, _, rfl⟩ := List.mem_map.1 hu; rfl))))
                    | (refine WL.st (fun w h => h.nil 9) ?_; refine WL.g rfl rfl rfl (appg (ob := none) (xs := []) (sp := []) rfl Try.underlying22 (by kernel_rfl : _ = some (some (.string (S [])), 1, 16)) rfl .tc rfl rfl (fun w hS => by first | exact hS.os | exact hS.sl | exact hS.oc) (by first | rfl | simp) ?_ ?_) ?_; (focus ((refine ⟨?_, ?_, ?_, ?_⟩ <;> (try simp) <;> omega))); (focus (first | (simp [Value.oneCell']; done) | (intro u hu; obtain ⟨_, _, rfl⟩ := List.mem_map.1 hu; rfl))))
                  rintro ⟨o90, c90, s90⟩
                  refine WL.pu ?_
                  intro hg90; (try dsimp only at hg90 ⊢)
                  refine WL.r rfl rfl rfl (rd_assign rfl rfl) ?_
                  refine WL.nt ?_
                  refine WC.seq ?_
                  refine WC.sr ?_
                  refine WL.r rfl rfl rfl (rd_move rfl rfl) ?_
                  refine WL.r rfl rfl rfl (rd_len rfl rfl Try.underlying22) ?_
                  refine WL.r rfl rfl rfl (rd_gtr rfl rfl rfl) ?_
                  refine WL.nt ?_
                  refine WC.cond rfl (fun hc103 => ?_) (fun hc103 => ?_)
                  · (try simp only [decide_eq_true_eq, decide_eq_false_iff_not, Bool.not_eq_true', Bool.not_eq_false', Bool.not_not, Int.not_lt, Int.not_le] at hc103)
                    refine WC.sr ?_
                    refine WL.r rfl rfl rfl (rd_bld [[.string (S [])], [.slice none 0 0], [.bool false]] rfl rfl (by simp only [bld, fldv, Nat.beq, Value.cells, cond_true, cond_false, List.nil_append, List.cons_append, List.append_nil]; rfl) (fun w => by kernel_rfl)) ?_
                    refine WL.r rfl rfl rfl (rd_assign rfl rfl) ?_
                    refine WL.g0 rfl rfl (sta rfl rfl rfl .tc ?_ ?_ ?_) ?_
                    · kernel_rfl
                    · simp [Value.oneCell']
                    · first | rfl | simp
                    intro _
                    refine WL.r rfl rfl rfl (rd_assign rfl rfl) ?_
                    refine WL.nt ?_
                    refine WC.ret ?_
                    refine WX.then_ret ?_
                    refine WX.block_ret ?_
                    refine WX.then_ret ?_
                    refine WX.block_ret ?_
                    refine WX.then_ret ?_
                    first
                      | (exfalso; rw [hu1] at hc103; omega)
                      | exact WX.retN rfl (.tmp rfl (.agg rfl .tc Try.underlying24 rfl (by kernel_rfl) (.tmp rfl .nil))) fun w' hS => opn_ret0 (opn_err hd0 hi hp hnx (by rw [errO, if_neg (by simp), if_pos hc83, if_neg (by simp only [hcl]; omega), if_pos (by simp only; omega)]) (by decide)) hS
                  · (try simp only [decide_eq_true_eq, decide_eq_false_iff_not, Bool.not_eq_true', Bool.not_eq_false', Bool.not_not, Int.not_lt, Int.not_le] at hc103)
                    refine WC.skip ?_
                    refine WX.then_normal ?_
                    refine WC.region ?_
                    refine WL.r rfl rfl rfl (rd_move rfl rfl) ?_
                    first
                      | (refine WL.r rfl rfl rfl (rd_add64nl rfl rfl rfl ?_) ?_; (focus (first | assumption | omega | (dsimp only; first | assumption | omega) | (simp <;> omega) | (simp; done))))
                      | (refine WL.r rfl rfl rfl (rd_add64 rfl rfl rfl ?_) ?_; (focus (first | assumption | omega | (dsimp only; first | assumption | omega) | (simp <;> omega) | (simp; done))))
                    refine WL.r rfl rfl rfl (rd_move rfl rfl) ?_
                    first
                      | (refine WL.r rfl rfl rfl (rd_add64n rfl rfl rfl ?_) ?_; (focus (first | assumption | omega | (dsimp only; first | assumption | omega) | (simp <;> omega) | (simp; done))))
                      | (refine WL.r rfl rfl rfl (rd_add64 rfl rfl rfl ?_) ?_; (focus (first | assumption | omega | (dsimp only; first | assumption | omega) | (simp <;> omega) | (simp; done))))
                    refine WL.set 108 rfl (v' := .int .i64 ((p + 5 + n + 32 : Nat) : Int)) (congrArg (Value.int .i64) (by first | omega | rfl | simp)) ?_
                    refine WL.r rfl rfl rfl (rd_assign rfl rfl) ?_
                    refine WL.nil ?_
                    refine WX.block_normal ?_
                    refine WX.loopO ((p + 5 + n + 32, fr, out ++ [(d.safe.drop (p + 5)).take (n)], ⟨o90, c90, s90⟩)) (by (try dsimp only); omega) (sub_cons rfl (sub_cons rfl (sub_nil _))) (by refine (sub_cons ?_ (sub_cons ?_ (sub_cons ?_ (sub_nil _)))) <;> (first | rfl | (simp only [List.length_append, List.length_cons, List.length_nil, Nat.zero_add]; rfl) | (dsimp only; first | rfl | (congr 2; omega) | (congr 3; omega)))) ?_ (by exact fun w h => by rw [strs_one]; exact st_sub _ h)
                    (try dsimp only)
                    exact ⟨by omega, by omega, by have := opn_next hi hp hnx (by rw [errO, if_neg (by simp), if_pos hc83, if_neg (by simp only [hcl]; omega), if_neg (by simp only; omega)]); rw [afterO, if_neg (by simp), if_pos hc83, if_neg (by simp only [hcl]; omega), if_neg (by simp only; omega)] at this; exact this, by simp; omega, by simpa using hg90⟩
              · (try simp only [decide_eq_true_eq, decide_eq_false_iff_not, Bool.not_eq_true', Bool.not_eq_false', Bool.not_not, Int.not_lt, Int.not_le] at hc83)
                rw [k69] at hc83
                refine WC.sr ?_
                refine WL.r rfl rfl rfl (rd_move rfl rfl) ?_
                refine WL.g rfl rfl rfl (og_call rfl rfl (by kernel_rfl) (keep_o1 fun w hS => runl_c (s := (d.safe.drop (p + 5)).take (n)) (by rw [hcl]; omega))) ?_
                intro g93
                refine WL.pu ?_
                intro hg93; (try dsimp only at hg93 ⊢)
                refine WL.r rfl rfl rfl (rd_move rfl rfl) ?_
                refine WL.r rfl rfl rfl (rd_extL rfl rfl rfl) ?_
                refine WL.r rfl rfl rfl (rd_extL rfl rfl rfl) ?_
                refine WL.r rfl rfl rfl (rd_assign rfl rfl) ?_
                refine WL.r rfl rfl rfl (rd_assign rfl rfl) ?_
                refine WL.nt ?_
                refine WC.seq ?_
                refine WC.sr ?_
                refine WL.r rfl rfl rfl (rd_move rfl rfl) ?_
                refine WL.r rfl rfl rfl (rd_not rfl rfl) ?_
                refine WL.nt ?_
                refine WC.cond rfl (fun hc97 => ?_) (fun hc97 => ?_)
                · (try simp only [decide_eq_true_eq, decide_eq_false_iff_not, Bool.not_eq_true', Bool.not_eq_false', Bool.not_not, Int.not_lt, Int.not_le] at hc97)
                  refine WC.sr ?_
                  refine WL.r rfl rfl rfl (rd_bld [[.string (S [])], [.slice none 0 0], [.bool false]] rfl rfl (by simp only [bld, fldv, Nat.beq, Value.cells, cond_true, cond_false, List.nil_append, List.cons_append, List.append_nil]; rfl) (fun w => by kernel_rfl)) ?_
                  refine WL.r rfl rfl rfl (rd_assign rfl rfl) ?_
                  refine WL.g0 rfl rfl (sta rfl rfl rfl .tc ?_ ?_ ?_) ?_
                  · kernel_rfl
                  · simp [Value.oneCell']
                  · first | rfl | simp
                  intro _
                  refine WL.r rfl rfl rfl (rd_assign rfl rfl) ?_
                  refine WL.nt ?_
                  refine WC.ret ?_
                  refine WX.then_ret ?_
                  refine WX.then_ret ?_
                  refine WX.block_ret ?_
                  refine WX.then_ret ?_
                  refine WX.block_ret ?_
                  refine WX.then_ret ?_
                  exact WX.retN rfl (.tmp rfl (.agg rfl .tc Try.underlying24 rfl (by kernel_rfl) (.tmp rfl .nil))) fun w' hS => opn_ret0 (opn_err hd0 hi hp hnx (by rw [errO, if_neg (by simp), if_neg hc83, if_pos (by rw [runl] at hc97; revert hc97; split <;> simp_all)]) (by decide)) hS
                · (try simp only [decide_eq_true_eq, decide_eq_false_iff_not, Bool.not_eq_true', Bool.not_eq_false', Bool.not_not, Int.not_lt, Int.not_le] at hc97)
                  have hu2 : (unl ((d.safe.drop (p + 5)).take (n))).2 = true := by rw [runl] at hc97; revert hc97; split <;> simp_all
                  have hu1 : (runl ((d.safe.drop (p + 5)).take (n))).1 = (unl ((d.safe.drop (p + 5)).take (n))).1 := by rw [runl, if_pos hu2]
                  have hu3 : (unl ((d.safe.drop (p + 5)).take (n))).1.length ≤ 4096 := unlF_len _ _ [] (Nat.zero_le _)
                  refine WC.skip ?_
                  refine WX.then_normal ?_
                  refine WC.sr ?_
                  refine WL.r rfl rfl rfl (rd_move rfl rfl) ?_
                  refine WL.r rfl rfl rfl (rd_assign rfl rfl) ?_
                  refine WL.nt ?_
                  refine WC.region ?_
                  refine WL.r rfl rfl rfl (rd_move rfl rfl) ?_
                  refine WL.r rfl rfl rfl (rd_assign rfl rfl) ?_
                  refine WL.nt ?_
                  refine WC.seq ?_
                  refine WC.sr ?_
                  refine WL.r rfl rfl rfl (rd_move rfl rfl) ?_
                  refine WL.r rfl rfl rfl (rd_len rfl rfl Try.underlying22) ?_
                  refine WL.r rfl rfl rfl (rd_gtr rfl rfl rfl) ?_
                  refine WL.nt ?_
                  refine WC.cond rfl (fun hc103 => ?_) (fun hc103 => ?_)
                  · (try simp only [decide_eq_true_eq, decide_eq_false_iff_not, Bool.not_eq_true', Bool.not_eq_false', Bool.not_not, Int.not_lt, Int.not_le] at hc103)
                    refine WC.sr ?_
                    refine WL.r rfl rfl rfl (rd_bld [[.string (S [])], [.slice none 0 0], [.bool false]] rfl rfl (by simp only [bld, fldv, Nat.beq, Value.cells, cond_true, cond_false, List.nil_append, List.cons_append, List.append_nil]; rfl) (fun w => by kernel_rfl)) ?_
                    refine WL.r rfl rfl rfl (rd_assign rfl rfl) ?_
                    refine WL.g0 rfl rfl (sta rfl rfl rfl .tc ?_ ?_ ?_) ?_
                    · kernel_rfl
                    · simp [Value.oneCell']
                    · first | rfl | simp
                    intro _
                    refine WL.r rfl rfl rfl (rd_assign rfl rfl) ?_
                    refine WL.nt ?_
                    refine WC.ret ?_
                    refine WX.then_ret ?_
                    refine WX.block_ret ?_
                    refine WX.then_ret ?_
                    refine WX.block_ret ?_
                    refine WX.then_ret ?_
                    first
                      | (exfalso; rw [hu1] at hc103; omega)
                      | exact WX.retN rfl (.tmp rfl (.agg rfl .tc Try.underlying24 rfl (by kernel_rfl) (.tmp rfl .nil))) fun w' hS => opn_ret0 (opn_err hd0 hi hp hnx (by rw [errO, if_neg (by simp), if_pos hc83, if_neg (by simp only [hcl]; omega), if_pos (by simp only; omega)]) (by decide)) hS
                  · (try simp only [decide_eq_true_eq, decide_eq_false_iff_not, Bool.not_eq_true', Bool.not_eq_false', Bool.not_not, Int.not_lt, Int.not_le] at hc103)
                    refine WC.skip ?_
                    refine WX.then_normal ?_
                    refine WC.region ?_
                    refine WL.r rfl rfl rfl (rd_move rfl rfl) ?_
                    first
                      | (refine WL.r rfl rfl rfl (rd_add64nl rfl rfl rfl ?_) ?_; (focus (first | assumption | omega | (dsimp only; first | assumption | omega) | (simp <;> omega) | (simp; done))))
                      | (refine WL.r rfl rfl rfl (rd_add64 rfl rfl rfl ?_) ?_; (focus (first | assumption | omega | (dsimp only; first | assumption | omega) | (simp <;> omega) | (simp; done))))
                    refine WL.r rfl rfl rfl (rd_move rfl rfl) ?_
                    first
                      | (refine WL.r rfl rfl rfl (rd_add64n rfl rfl rfl ?_) ?_; (focus (first | assumption | omega | (dsimp only; first | assumption | omega) | (simp <;> omega) | (simp; done))))
                      | (refine WL.r rfl rfl rfl (rd_add64 rfl rfl rfl ?_) ?_; (focus (first | assumption | omega | (dsimp only; first | assumption | omega) | (simp <;> omega) | (simp; done))))
                    refine WL.set 108 rfl (v' := .int .i64 ((p + 5 + n + 32 : Nat) : Int)) (congrArg (Value.int .i64) (by first | omega | rfl | simp)) ?_
                    refine WL.r rfl rfl rfl (rd_assign rfl rfl) ?_
                    refine WL.nil ?_
                    refine WX.block_normal ?_
                    rw [hu1] at hc103 hg93 ⊢
                    refine WX.loopO ((p + 5 + n + 32, p, (unl ((d.safe.drop (p + 5)).take (n))).1, g93)) (by (try dsimp only); omega) (sub_cons rfl (sub_cons rfl (sub_nil _))) (by refine (sub_cons ?_ (sub_cons ?_ (sub_cons ?_ (sub_nil _)))) <;> (first | rfl | (simp only [List.length_append, List.length_cons, List.length_nil, Nat.zero_add]; rfl) | (dsimp only; first | rfl | (congr 2; omega) | (congr 3; omega)))) ?_ (by first | exact fun _ h => h | exact st_sub)
                    (try dsimp only)
                    exact ⟨by omega, by omega, by have := opn_next hi hp hnx (by rw [errO, if_neg (by simp), if_neg hc83, if_neg (by simp [hu2])]); rw [afterO, if_neg (by simp), if_neg hc83, if_neg (by simp [hu2])] at this; exact this, hu3, hg93⟩
theorem take_same {l m : List Bs} {k : Nat} (h1 : k < l.length) (h2 : k < m.length) (h : l.take k = m.take k) (h3 : l.getD k default = m.getD k default) : l.take (k + 1) = m.take (k + 1) := by
  rw [List.getD_eq_getElem?_getD, List.getD_eq_getElem?_getD, List.getElem?_eq_getElem h1, List.getElem?_eq_getElem h2] at h3
  rw [List.take_add_one, List.take_add_one, h, List.getElem?_eq_getElem h1, List.getElem?_eq_getElem h2]
  rw [Option.toList, Option.toList]; simp only [Option.getD] at h3; rw [h3]
theorem same_c {l m : List Bs} {a b : Option Addr} {ca cb : Nat} {w : World} {ok : Nat → Prop} (hF1 : (Fact.sl a (strs l)).holds ok w) (hF2 : (Fact.sl b (strs m)).holds ok w) (hl : l.length ≤ 1000000) (hm : m.length ≤ 1000000) :
    Calls Try.prog 16 #[.slice a l.length ca, .slice b m.length cb] w fun e w' => e = .returned (.bool (decide (l = m))) ∧ Below w.heap.size w w' := by
  refine enter (S := St (fun _ => True) w [] [Fact.sl a (strs l), Fact.sl b (strs m)]) (L := [(0, .slice a l.length ca), (1, .slice b m.length cb)]) Try.func16 rfl Try.ntmps16 rfl (args_cons rfl (args_cons rfl (args_nil _))) (St.start (fun _ _ => trivial) (facts_cons (fact_any hF1) (facts_cons (fact_any hF2) facts_nil))) ?_
  refine WC.sr ?_
  refine WL.r rfl rfl rfl (rd_assign rfl rfl) ?_
  refine WL.nt ?_
  refine WC.seq ?_
  refine WC.sr ?_
  refine WL.r rfl rfl rfl (rd_move rfl rfl) ?_
  refine WL.r rfl rfl rfl (rd_len rfl rfl Try.underlying22) ?_
  refine WL.r rfl rfl rfl (rd_move rfl rfl) ?_
  refine WL.r rfl rfl rfl (rd_len rfl rfl Try.underlying22) ?_
  refine WL.r rfl rfl rfl (rd_neq rfl rfl rfl) ?_
  refine WL.nt ?_
  refine WC.cond rfl (fun hc10 => ?_) (fun hc10 => ?_)
  · (try simp only [decide_eq_true_eq, decide_eq_false_iff_not, Bool.not_eq_true', Bool.not_eq_false', Bool.not_not, Int.not_lt, Int.not_le] at hc10)
    refine WC.sr ?_
    refine WL.r rfl rfl rfl (rd_assign rfl rfl) ?_
    refine WL.nt ?_
    refine WC.ret ?_
    refine WX.then_ret ?_
    exact WX.retN rfl (.tmp rfl .nil) fun w' hS => ⟨congrArg (fun b => Ending.returned (.bool b)) (by symm; rw [decide_eq_false_iff_not]; intro h; rw [h] at hc10; exact hc10 rfl), hS.below⟩
  · (try simp only [decide_eq_true_eq, decide_eq_false_iff_not, Bool.not_eq_true', Bool.not_eq_false', Bool.not_not, Int.not_lt, Int.not_le] at hc10)
    refine WC.skip ?_
    refine WX.then_normal ?_
    refine WC.seq ?_
    refine WC.sr ?_
    refine WL.r rfl rfl rfl (rd_assign rfl rfl) ?_
    refine WL.nt ?_
    refine WC.block ?_
    refine WC.loopP (σ := Nat) [(0, _), (1, _)] (fun g => [(5, .int .i64 (g : Int))]) (fun g => g ≤ l.length ∧ l.take g = m.take g) (fun g => l.length - g) (0) (sub_cons rfl (sub_cons rfl (sub_nil _))) (sub_cons rfl (sub_nil _)) (by (try dsimp only); exact ⟨Nat.zero_le _, by simp⟩) ?_
    rintro k hinv1; (try dsimp only at hinv1 ⊢)
    obtain ⟨hk, hkk⟩ := hinv1
    refine WC.seq ?_
    refine WC.sr ?_
    refine WL.r rfl rfl rfl (rd_move rfl rfl) ?_
    refine WL.r rfl rfl rfl (rd_move rfl rfl) ?_
    refine WL.r rfl rfl rfl (rd_len rfl rfl Try.underlying22) ?_
    refine WL.r rfl rfl rfl (rd_lss rfl rfl rfl) ?_
    refine WL.nt ?_
    refine WC.cond rfl (fun hc14 => ?_) (fun hc14 => ?_)
    · (try simp only [decide_eq_true_eq, decide_eq_false_iff_not, Bool.not_eq_true', Bool.not_eq_false', Bool.not_not, Int.not_lt, Int.not_le] at hc14)
      refine WC.skip ?_
      refine WX.then_normal ?_
      refine WC.seq ?_
      refine WC.block ?_
      refine WC.seq ?_
      refine WC.free0 [0, 1, 2, 3, 4, 5, 6, 7, 8] [] [0, 0, 0, 0, 0, 0, 0, 0, 0] (by kernel_rfl) (by kernel_rfl) rfl ?_
      refine WJ.r rfl rfl rfl rfl rfl (rd_move rfl rfl) ?_
      refine WJ.r rfl rfl rfl rfl rfl (rd_move rfl rfl) ?_
      first
        | (refine WJ.r rfl rfl rfl rfl rfl (rd_ia rfl rfl rfl Try.underlying22 (by kernel_rfl : _ = some 1) ?_ (by (try simp only [Int.toNat_natCast, Nat.mul_one, Nat.zero_add, Nat.add_zero, Nat.zero_mul, Int.reduceToNat, Nat.reduceAdd, Nat.reduceMul, Nat.reduceSub, Nat.sub_zero]); rfl)) ?_; (focus (first | assumption | omega | (dsimp only; first | assumption | omega) | (simp <;> omega) | (simp; done))))
        | (refine WJ.r rfl rfl rfl rfl rfl (iaf rfl rfl rfl Try.underlying22 (by kernel_rfl : _ = some 1) ?_ ?_ (by (try simp only [Int.toNat_natCast, Nat.mul_one, Nat.zero_add, Nat.add_zero, Nat.zero_mul, Int.reduceToNat, Nat.reduceAdd, Nat.reduceMul, Nat.reduceSub, Nat.sub_zero]); rfl)) ?_; (focus (first | assumption | omega | (dsimp only; first | assumption | omega) | (simp <;> omega) | (simp; done))); (focus (first | (rw [List.length_map]; omega) | (rw [flatMap_len _ _ _ (fun _ => rfl)]; omega) | (simp <;> omega))))
        | (refine WJ.r rfl rfl rfl rfl rfl (iao rfl rfl rfl Try.underlying22 (by kernel_rfl : _ = some 1) ?_ ?_ (by (try simp only [Int.toNat_natCast, Nat.mul_one, Nat.zero_add, Nat.add_zero, Nat.zero_mul, Int.reduceToNat, Nat.reduceAdd, Nat.reduceMul, Nat.reduceSub, Nat.sub_zero]); rfl)) ?_; (focus (first | assumption | omega | (dsimp only; first | assumption | omega) | (simp <;> omega) | (simp; done))); (focus (first | (simp <;> omega) | (rw [List.length_append, List.length_map]; omega))))
      first
        | (refine WJ.r rfl rfl rfl rfl rfl (ld rfl rfl .tc Try.underlying9 rfl (by rfl)) ?_)
        | (refine WJ.r rfl rfl rfl rfl rfl (ldm rfl rfl Try.underlying9 rfl ?_) ?_; (focus (first | assumption | omega | (dsimp only; first | assumption | omega) | (simp <;> omega) | (simp; done))))
        | (refine WJ.r rfl rfl rfl rfl rfl (ldom rfl rfl Try.underlying9 rfl ?_) ?_; (focus (first | assumption | omega | (dsimp only; first | assumption | omega) | (simp <;> omega) | (simp; done))))
      refine WJ.r rfl rfl rfl rfl rfl (rd_move rfl rfl) ?_
      refine WJ.r rfl rfl rfl rfl rfl (rd_move rfl rfl) ?_
      first
        | (refine WJ.r rfl rfl rfl rfl rfl (rd_ia rfl rfl rfl Try.underlying22 (by kernel_rfl : _ = some 1) ?_ (by (try simp only [Int.toNat_natCast, Nat.mul_one, Nat.zero_add, Nat.add_zero, Nat.zero_mul, Int.reduceToNat, Nat.reduceAdd, Nat.reduceMul, Nat.reduceSub, Nat.sub_zero]); rfl)) ?_; (focus (first | assumption | omega | (dsimp only; first | assumption | omega) | (simp <;> omega) | (simp; done))))
        | (refine WJ.r rfl rfl rfl rfl rfl (iaf rfl rfl rfl Try.underlying22 (by kernel_rfl : _ = some 1) ?_ ?_ (by (try simp only [Int.toNat_natCast, Nat.mul_one, Nat.zero_add, Nat.add_zero, Nat.zero_mul, Int.reduceToNat, Nat.reduceAdd, Nat.reduceMul, Nat.reduceSub, Nat.sub_zero]); rfl)) ?_; (focus (first | assumption | omega | (dsimp only; first | assumption | omega) | (simp <;> omega) | (simp; done))); (focus (first | (rw [List.length_map]; omega) | (rw [flatMap_len _ _ _ (fun _ => rfl)]; omega) | (simp <;> omega))))
        | (refine WJ.r rfl rfl rfl rfl rfl (iao rfl rfl rfl Try.underlying22 (by kernel_rfl : _ = some 1) ?_ ?_ (by (try simp only [Int.toNat_natCast, Nat.mul_one, Nat.zero_add, Nat.add_zero, Nat.zero_mul, Int.reduceToNat, Nat.reduceAdd, Nat.reduceMul, Nat.reduceSub, Nat.sub_zero]); rfl)) ?_; (focus (first | assumption | omega | (dsimp only; first | assumption | omega) | (simp <;> omega) | (simp; done))); (focus (first | (simp <;> omega) | (rw [List.length_append, List.length_map]; omega))))
      first
        | (refine WJ.r rfl rfl rfl rfl rfl (ld rfl rfl .tc Try.underlying9 rfl (by rfl)) ?_)
        | (refine WJ.r rfl rfl rfl rfl rfl (ldm rfl rfl Try.underlying9 rfl ?_) ?_; (focus (first | assumption | omega | (dsimp only; first | assumption | omega) | (simp <;> omega) | (simp; done))))
        | (refine WJ.r rfl rfl rfl rfl rfl (ldom rfl rfl Try.underlying9 rfl ?_) ?_; (focus (first | assumption | omega | (dsimp only; first | assumption | omega) | (simp <;> omega) | (simp; done))))
      refine WJ.r rfl rfl rfl rfl rfl (rd_sne rfl rfl rfl) ?_
      refine WJ.nil ?_
      refine WL.nt ?_
      refine WC.cond rfl (fun hc25 => ?_) (fun hc25 => ?_)
      · (try simp only [decide_eq_true_eq, decide_eq_false_iff_not, Bool.not_eq_true', Bool.not_eq_false', Bool.not_not, Int.not_lt, Int.not_le] at hc25)
        refine WC.sr ?_
        refine WL.r rfl rfl rfl (rd_assign rfl rfl) ?_
        refine WL.nt ?_
        refine WC.ret ?_
        refine WX.block_ret ?_
        refine WX.then_ret ?_
        refine WX.then_ret ?_
        refine WX.block_ret ?_
        refine WX.then_ret ?_
        exact WX.retN rfl (.tmp rfl .nil) fun w' hS => ⟨congrArg (fun b => Ending.returned (.bool b)) (by symm; rw [decide_eq_false_iff_not]; intro h; rw [h] at hc25; simp at hc25), hS.below⟩
      · (try simp only [decide_eq_true_eq, decide_eq_false_iff_not, Bool.not_eq_true', Bool.not_eq_false', Bool.not_not, Int.not_lt, Int.not_le] at hc25)
        refine WC.skip ?_
        refine WX.block_normal ?_
        refine WX.then_normal ?_
        refine WC.region ?_
        refine WL.r rfl rfl rfl (rd_move rfl rfl) ?_
        first
          | (refine WL.r rfl rfl rfl (rd_add64nl rfl rfl rfl ?_) ?_; (focus (first | assumption | omega | (dsimp only; first | assumption | omega) | (simp <;> omega) | (simp; done))))
          | (refine WL.r rfl rfl rfl (rd_add64 rfl rfl rfl ?_) ?_; (focus (first | assumption | omega | (dsimp only; first | assumption | omega) | (simp <;> omega) | (simp; done))))
        refine WL.r rfl rfl rfl (rd_assign rfl rfl) ?_
        refine WL.nil ?_
        refine WX.loopP (k + 1) (by (try dsimp only); omega) (sub_cons rfl (sub_cons rfl (sub_nil _))) (by refine (sub_cons ?_ (sub_nil _)) <;> (first | rfl | (simp only [List.length_append, List.length_cons, List.length_nil, Nat.zero_add]; rfl) | (dsimp only; first | rfl | (congr 2; omega) | (congr 3; omega)))) ?_ (by first | exact fun _ h => h | exact st_sub)
        (try dsimp only)
        exact ⟨by omega, take_same (by omega) (by omega) hkk (by simpa using hc25)⟩
    · (try simp only [decide_eq_true_eq, decide_eq_false_iff_not, Bool.not_eq_true', Bool.not_eq_false', Bool.not_not, Int.not_lt, Int.not_le] at hc14)
      refine WC.exit ?_
      refine WX.then_exit ?_
      refine WX.then_exit ?_
      refine WX.block_exit ?_
      obtain rfl : k = l.length := by omega
      rw [List.take_of_length_le (Nat.le_refl _), List.take_of_length_le (by omega)] at hkk
      refine WX.then_normal ?_
      refine WC.sr ?_
      refine WL.r rfl rfl rfl (rd_assign rfl rfl) ?_
      refine WL.nt ?_
      refine WC.ret ?_
      exact WX.retN rfl (.tmp rfl .nil) fun w' hS => ⟨by rw [hkk]; simp [tup], hS.below⟩
deriving instance DecidableEq for Dk
theorem Dk.eq_iff (a b : Dk) : a = b ↔ a.safe = b.safe ∧ a.crash = b.crash ∧ a.pend = b.pend := by cases a; cases b; simp only [Dk.mk.injEq]; exact and_congr_right fun _ => And.comm
def fewP (l : List Bs) : Prop := l.length ≤ 30 ∧ l.flatten.length ≤ 3000
instance (l : List Bs) : Decidable (fewP l) := inferInstanceAs (Decidable (_ ∧ _))
theorem flat_le (l : List Bs) (k : Nat) (hs : ∀ s ∈ l, s.length ≤ 140737488351232) : (l.take k).flatten.length ≤ k * 140737488351232 := by
  induction k with
  | zero => simp
  | succ k ih =>
    by_cases h : k < l.length
    · have h1 := congrArg List.length (take_flat l k h)
      have h2 : (l.getD k default).length ≤ 140737488351232 := hs _ (by rw [List.getD_eq_getElem?_getD, List.getElem?_eq_getElem h]; exact List.getElem_mem h)
      rw [List.length_append] at h1; omega
    · rw [List.take_of_length_le (by omega)] at ih ⊢; exact Nat.le_trans ih (Nat.mul_le_mul_right _ (Nat.le_succ k))
theorem few_end {l : List Bs} {k : Nat} (h1 : k ≤ l.length) (h2 : k ≤ 40) (h3 : l.length ≤ k ∨ 40 ≤ k) : (decide (l.length ≤ 30) && decide ((l.take k).flatten.length ≤ 3000)) = decide (fewP l) := by
  rw [← Bool.decide_and, decide_eq_decide]
  unfold fewP
  by_cases h : l.length ≤ 30
  · rw [List.take_of_length_le (by omega)]
  · simp [h]
theorem few_c {l : List Bs} {a : Option Addr} {cap : Nat} {w : World} {ok : Nat → Prop} (hF1 : (Fact.sl a (strs l)).holds ok w) (hl : l.length ≤ 9223372036854775807) (hs : ∀ s ∈ l, s.length ≤ 140737488351232) :
    Calls Try.prog 19 #[.slice a l.length cap] w fun e w' => e = .returned (.bool (decide (fewP l))) ∧ Below w.heap.size w w' := by
  refine enter (S := St (fun _ => True) w [] [Fact.sl a (strs l)]) (L := [(0, .slice a l.length cap)]) Try.func19 rfl Try.ntmps19 rfl (args_cons rfl (args_nil _)) (St.start (fun _ _ => trivial) (facts_cons (fact_any hF1) facts_nil)) ?_
  refine WC.sr ?_
  refine WL.r rfl rfl rfl (rd_assign rfl rfl) ?_
  refine WL.nt ?_
  refine WC.sr ?_
  refine WL.r rfl rfl rfl (rd_assign rfl rfl) ?_
  refine WL.nt ?_
  refine WC.seq ?_
  refine WC.sr ?_
  refine WL.r rfl rfl rfl (rd_assign rfl rfl) ?_
  refine WL.nt ?_
  refine WC.block ?_
  refine WC.loopP (σ := Nat) [(0, _), (2, _)] (fun g => [(3, .int .i64 ((l.take g).flatten.length : Int)), (4, .int .i64 (g : Int))]) (fun g => g ≤ l.length ∧ g ≤ 40) (fun g => l.length - g) (0) (sub_cons rfl (sub_cons rfl (sub_nil _))) (sub_cons rfl (sub_cons rfl (sub_nil _))) (by (try dsimp only); exact ⟨Nat.zero_le _, by omega⟩) ?_
  rintro k hinv1; (try dsimp only at hinv1 ⊢)
  obtain ⟨hk, hk4⟩ := hinv1
  refine WC.seq ?_
  refine WC.sr ?_
  refine WL.r rfl rfl rfl (rd_move rfl rfl) ?_
  refine WL.r rfl rfl rfl (rd_move rfl rfl) ?_
  refine WL.r rfl rfl rfl (rd_len rfl rfl Try.underlying22) ?_
  refine WL.r rfl rfl rfl (rd_lss rfl rfl rfl) ?_
  refine WL.r rfl rfl rfl (rd_move rfl rfl) ?_
  refine WL.bool 9 rfl (fun hg9 => ?_) (fun hg9 => ?_)
  · (try simp only [decide_eq_true_eq, decide_eq_false_iff_not, Bool.not_eq_true', Bool.not_eq_false', Bool.not_not, Int.not_lt, Int.not_le] at hg9)
    refine WL.r rfl rfl rfl (rd_move rfl rfl) ?_
    refine WL.r rfl rfl rfl (rd_lss rfl rfl rfl) ?_
    refine WL.r rfl rfl rfl (rd_pickt rfl rfl rfl) ?_
    refine WL.nt ?_
    refine WC.cond rfl (fun hc12 => ?_) (fun hc12 => ?_)
    · (try simp only [decide_eq_true_eq, decide_eq_false_iff_not, Bool.not_eq_true', Bool.not_eq_false', Bool.not_not, Int.not_lt, Int.not_le] at hc12)
      have hk0 := congrArg List.length (take_flat l k (by omega))
      rw [List.length_append] at hk0
      have hk1 : (l.take (k + 1)).flatten.length ≤ 6000000000000000 := by have := flat_le l (k + 1) hs; omega
      refine WC.skip ?_
      refine WX.then_normal ?_
      refine WC.seq ?_
      refine WC.block ?_
      refine WC.region ?_
      refine WL.r rfl rfl rfl (rd_move rfl rfl) ?_
      refine WL.r rfl rfl rfl (rd_move rfl rfl) ?_
      refine WL.r rfl rfl rfl (rd_move rfl rfl) ?_
      first
        | (refine WL.r rfl rfl rfl (rd_ia rfl rfl rfl Try.underlying22 (by kernel_rfl : _ = some 1) ?_ (by (try simp only [Int.toNat_natCast, Nat.mul_one, Nat.zero_add, Nat.add_zero, Nat.zero_mul, Int.reduceToNat, Nat.reduceAdd, Nat.reduceMul, Nat.reduceSub, Nat.sub_zero]); rfl)) ?_; (focus (first | assumption | omega | (dsimp only; first | assumption | omega) | (simp <;> omega) | (simp; done))))
        | (refine WL.r rfl rfl rfl (iaf rfl rfl rfl Try.underlying22 (by kernel_rfl : _ = some 1) ?_ ?_ (by (try simp only [Int.toNat_natCast, Nat.mul_one, Nat.zero_add, Nat.add_zero, Nat.zero_mul, Int.reduceToNat, Nat.reduceAdd, Nat.reduceMul, Nat.reduceSub, Nat.sub_zero]); rfl)) ?_; (focus (first | assumption | omega | (dsimp only; first | assumption | omega) | (simp <;> omega) | (simp; done))); (focus (first | (rw [List.length_map]; omega) | (rw [flatMap_len _ _ _ (fun _ => rfl)]; omega) | (simp <;> omega))))
        | (refine WL.r rfl rfl rfl (iao rfl rfl rfl Try.underlying22 (by kernel_rfl : _ = some 1) ?_ ?_ (by (try simp only [Int.toNat_natCast, Nat.mul_one, Nat.zero_add, Nat.add_zero, Nat.zero_mul, Int.reduceToNat, Nat.reduceAdd, Nat.reduceMul, Nat.reduceSub, Nat.sub_zero]); rfl)) ?_; (focus (first | assumption | omega | (dsimp only; first | assumption | omega) | (simp <;> omega) | (simp; done))); (focus (first | (simp <;> omega) | (rw [List.length_append, List.length_map]; omega))))
      first
        | (refine WL.r rfl rfl rfl (ld rfl rfl .tc Try.underlying9 rfl (by rfl)) ?_)
        | (refine WL.r rfl rfl rfl (ldm rfl rfl Try.underlying9 rfl ?_) ?_; (focus (first | assumption | omega | (dsimp only; first | assumption | omega) | (simp <;> omega) | (simp; done))))
        | (refine WL.r rfl rfl rfl (ldom rfl rfl Try.underlying9 rfl ?_) ?_; (focus (first | assumption | omega | (dsimp only; first | assumption | omega) | (simp <;> omega) | (simp; done))))
      refine WL.r rfl rfl rfl (rd_slen rfl rfl Try.underlying9) ?_
      first
        | (refine WL.r rfl rfl rfl (rd_add64n rfl rfl rfl ?_) ?_; (focus (first | assumption | omega | (dsimp only; first | assumption | omega) | (simp <;> omega) | (simp; done))))
        | (refine WL.r rfl rfl rfl (rd_add64 rfl rfl rfl ?_) ?_; (focus (first | assumption | omega | (dsimp only; first | assumption | omega) | (simp <;> omega) | (simp; done))))
      refine WL.set 21 rfl (v' := .int .i64 (((l.take (k + 1)).flatten.length : Nat) : Int)) (congrArg (Value.int .i64) (by first | omega | rfl | simp)) ?_
      refine WL.r rfl rfl rfl (rd_assign rfl rfl) ?_
      refine WL.nil ?_
      refine WX.block_normal ?_
      refine WX.then_normal ?_
      refine WC.region ?_
      refine WL.r rfl rfl rfl (rd_move rfl rfl) ?_
      first
        | (refine WL.r rfl rfl rfl (rd_add64nl rfl rfl rfl ?_) ?_; (focus (first | assumption | omega | (dsimp only; first | assumption | omega) | (simp <;> omega) | (simp; done))))
        | (refine WL.r rfl rfl rfl (rd_add64 rfl rfl rfl ?_) ?_; (focus (first | assumption | omega | (dsimp only; first | assumption | omega) | (simp <;> omega) | (simp; done))))
      refine WL.r rfl rfl rfl (rd_assign rfl rfl) ?_
      refine WL.nil ?_
      refine WX.loopP (k + 1) (by (try dsimp only); omega) (sub_cons rfl (sub_cons rfl (sub_nil _))) (by refine (sub_cons ?_ (sub_cons ?_ (sub_nil _))) <;> (first | rfl | (simp only [List.length_append, List.length_cons, List.length_nil, Nat.zero_add]; rfl) | (dsimp only; first | rfl | (congr 2; omega) | (congr 3; omega)))) ?_ (by first | exact fun _ h => h | exact st_sub)
      (try dsimp only)
      exact ⟨by omega, by omega⟩
    · (try simp only [decide_eq_true_eq, decide_eq_false_iff_not, Bool.not_eq_true', Bool.not_eq_false', Bool.not_not, Int.not_lt, Int.not_le] at hc12)
      refine WC.exit ?_
      refine WX.then_exit ?_
      refine WX.then_exit ?_
      refine WX.block_exit ?_
      refine WX.then_normal ?_
      refine WC.sr ?_
      refine WL.r rfl rfl rfl (rd_move rfl rfl) ?_
      refine WL.r rfl rfl rfl (rd_len rfl rfl Try.underlying22) ?_
      refine WL.r rfl rfl rfl (rd_leq rfl rfl rfl) ?_
      refine WL.r rfl rfl rfl (rd_move rfl rfl) ?_
      refine WL.bool 25 rfl (fun hg25 => ?_) (fun hg25 => ?_)
      · (try simp only [decide_eq_true_eq, decide_eq_false_iff_not, Bool.not_eq_true', Bool.not_eq_false', Bool.not_not, Int.not_lt, Int.not_le] at hg25)
        refine WL.r rfl rfl rfl (rd_move rfl rfl) ?_
        refine WL.r rfl rfl rfl (rd_leq rfl rfl rfl) ?_
        refine WL.r rfl rfl rfl (rd_pickt rfl rfl rfl) ?_
        refine WL.r rfl rfl rfl (rd_assign rfl rfl) ?_
        refine WL.nt ?_
        refine WC.ret ?_
        exact WX.retN rfl (.tmp rfl .nil) fun w' hS => ⟨congrArg (fun b => Ending.returned (.bool b)) (by rw [← few_end hk hk4 (by omega), Bool.eq_iff_iff]; simp only [Bool.and_eq_true, decide_eq_true_eq, Bool.false_eq_true]; first | omega | exact ⟨fun h => h.elim, fun h => by omega⟩), hS.below⟩
      · (try simp only [decide_eq_true_eq, decide_eq_false_iff_not, Bool.not_eq_true', Bool.not_eq_false', Bool.not_not, Int.not_lt, Int.not_le] at hg25)
        refine WL.s rfl rfl rfl ?_
        refine WL.s rfl rfl rfl ?_
        refine WL.r rfl rfl rfl (rd_pickf rfl rfl rfl) ?_
        refine WL.r rfl rfl rfl (rd_assign rfl rfl) ?_
        refine WL.nt ?_
        refine WC.ret ?_
        exact WX.retN rfl (.tmp rfl .nil) fun w' hS => ⟨congrArg (fun b => Ending.returned (.bool b)) (by rw [← few_end hk hk4 (by omega), Bool.eq_iff_iff]; simp only [Bool.and_eq_true, decide_eq_true_eq, Bool.false_eq_true]; first | omega | exact ⟨fun h => h.elim, fun h => by omega⟩), hS.below⟩
  · (try simp only [decide_eq_true_eq, decide_eq_false_iff_not, Bool.not_eq_true', Bool.not_eq_false', Bool.not_not, Int.not_lt, Int.not_le] at hg9)
    refine WL.s rfl rfl rfl ?_
    refine WL.s rfl rfl rfl ?_
    refine WL.r rfl rfl rfl (rd_pickf rfl rfl rfl) ?_
    refine WL.nt ?_
    refine WC.cond rfl (fun h => by cases h) (fun _ => ?_)
    refine WC.exit ?_
    refine WX.then_exit ?_
    refine WX.then_exit ?_
    refine WX.block_exit ?_
    refine WX.then_normal ?_
    refine WC.sr ?_
    refine WL.r rfl rfl rfl (rd_move rfl rfl) ?_
    refine WL.r rfl rfl rfl (rd_len rfl rfl Try.underlying22) ?_
    refine WL.r rfl rfl rfl (rd_leq rfl rfl rfl) ?_
    refine WL.r rfl rfl rfl (rd_move rfl rfl) ?_
    refine WL.bool 25 rfl (fun hg25 => ?_) (fun hg25 => ?_)
    · (try simp only [decide_eq_true_eq, decide_eq_false_iff_not, Bool.not_eq_true', Bool.not_eq_false', Bool.not_not, Int.not_lt, Int.not_le] at hg25)
      refine WL.r rfl rfl rfl (rd_move rfl rfl) ?_
      refine WL.r rfl rfl rfl (rd_leq rfl rfl rfl) ?_
      refine WL.r rfl rfl rfl (rd_pickt rfl rfl rfl) ?_
      refine WL.r rfl rfl rfl (rd_assign rfl rfl) ?_
      refine WL.nt ?_
      refine WC.ret ?_
      exact WX.retN rfl (.tmp rfl .nil) fun w' hS => ⟨congrArg (fun b => Ending.returned (.bool b)) (by rw [← few_end hk hk4 (by omega), Bool.eq_iff_iff]; simp only [Bool.and_eq_true, decide_eq_true_eq, Bool.false_eq_true]; first | omega | exact ⟨fun h => h.elim, fun h => by omega⟩), hS.below⟩
    · (try simp only [decide_eq_true_eq, decide_eq_false_iff_not, Bool.not_eq_true', Bool.not_eq_false', Bool.not_not, Int.not_lt, Int.not_le] at hg25)
      refine WL.s rfl rfl rfl ?_
      refine WL.s rfl rfl rfl ?_
      refine WL.r rfl rfl rfl (rd_pickf rfl rfl rfl) ?_
      refine WL.r rfl rfl rfl (rd_assign rfl rfl) ?_
      refine WL.nt ?_
      refine WC.ret ?_
      exact WX.retN rfl (.tmp rfl .nil) fun w' hS => ⟨congrArg (fun b => Ending.returned (.bool b)) (by rw [← few_end hk hk4 (by omega), Bool.eq_iff_iff]; simp only [Bool.and_eq_true, decide_eq_true_eq, Bool.false_eq_true]; first | omega | exact ⟨fun h => h.elim, fun h => by omega⟩), hS.below⟩
theorem small_c {d : Dk} {a : Option Addr} {cap : Nat} {w : World} {ok : Nat → Prop} (hF1 : (Fact.sl a (strs d.pend)).holds ok w) (hl : d.pend.length ≤ 9223372036854775807) (hs : ∀ s ∈ d.pend, s.length ≤ 140737488351232) :
    Calls Try.prog 9 #[.agg #[.string (S d.safe), .slice a d.pend.length cap, .bool d.crash]] w fun e w' => e = .returned (.bool (decide (d.safe.length ≤ 3000 ∧ fewP d.pend))) ∧ Below w.heap.size w w' := by
  refine enter (S := St (fun _ => True) w [] [Fact.sl a (strs d.pend)]) (L := [(0, .agg #[.string (S d.safe), .slice a d.pend.length cap, .bool d.crash])]) Try.func9 rfl Try.ntmps9 rfl (args_cons rfl (args_nil _)) (St.start (fun _ _ => trivial) (facts_cons (fact_any hF1) facts_nil)) ?_
  refine WC.sr ?_
  refine WL.g rfl rfl rfl (og_box rfl rfl (by first | exact cells_agg _ | rfl)) ?_
  intro b1
  refine WL.r rfl rfl rfl (rd_assign rfl rfl) ?_
  refine WL.nt ?_
  refine WC.sr ?_
  first
    | (refine WL.r rfl rfl rfl (rd_fa (q := 0) rfl rfl Try.underlying24 rfl (by kernel_rfl) rfl) ?_)
    | (refine WL.r rfl rfl rfl (faf (q' := 0) rfl rfl Try.underlying24 rfl (by kernel_rfl) rfl) ?_)
  first
    | (refine WL.r rfl rfl rfl (ld rfl rfl .tc Try.underlying9 rfl (by rfl)) ?_)
    | (refine WL.r rfl rfl rfl (ldm rfl rfl Try.underlying9 rfl ?_) ?_; (focus (first | assumption | omega | (dsimp only; first | assumption | omega) | (simp <;> omega) | (simp; done))))
    | (refine WL.r rfl rfl rfl (ldom rfl rfl Try.underlying9 rfl ?_) ?_; (focus (first | assumption | omega | (dsimp only; first | assumption | omega) | (simp <;> omega) | (simp; done))))
  refine WL.r rfl rfl rfl (rd_slen rfl rfl Try.underlying9) ?_
  refine WL.r rfl rfl rfl (rd_leq rfl rfl rfl) ?_
  refine WL.r rfl rfl rfl (rd_move rfl rfl) ?_
  refine WL.bool 7 rfl (fun hg7 => ?_) (fun hg7 => ?_)
  · (try simp only [decide_eq_true_eq, decide_eq_false_iff_not, Bool.not_eq_true', Bool.not_eq_false', Bool.not_not, Int.not_lt, Int.not_le] at hg7)
    first
      | (refine WL.r rfl rfl rfl (rd_fa (q := 1) rfl rfl Try.underlying24 rfl (by kernel_rfl) rfl) ?_)
      | (refine WL.r rfl rfl rfl (faf (q' := 1) rfl rfl Try.underlying24 rfl (by kernel_rfl) rfl) ?_)
    first
      | (refine WL.r rfl rfl rfl (ld rfl rfl .tc Try.underlying22 rfl (by rfl)) ?_)
      | (refine WL.r rfl rfl rfl (ldm rfl rfl Try.underlying22 rfl ?_) ?_; (focus (first | assumption | omega | (dsimp only; first | assumption | omega) | (simp <;> omega) | (simp; done))))
      | (refine WL.r rfl rfl rfl (ldom rfl rfl Try.underlying22 rfl ?_) ?_; (focus (first | assumption | omega | (dsimp only; first | assumption | omega) | (simp <;> omega) | (simp; done))))
    refine WL.g rfl rfl rfl (og_call rfl rfl (by kernel_rfl) (keep_val fun w hS => few_c (by first | exact hS.sl | exact hS.os | exact hS.oc | exact sl_takeM _ hS.sl | exact sl_dropM _ hS.sl | exact sl_cutM _ (by omega) hS.sl | exact sl_nil) (by first | assumption | omega | (dsimp only; first | assumption | omega) | (simp <;> omega) | (simp; done)) (by first | assumption | omega | (dsimp only; first | assumption | omega) | (simp <;> omega) | (simp; done)))) ?_
    intro _
    refine WL.r rfl rfl rfl (rd_pickt rfl rfl rfl) ?_
    refine WL.r rfl rfl rfl (rd_assign rfl rfl) ?_
    refine WL.nt ?_
    refine WC.ret ?_
    exact WX.retN rfl (.tmp rfl .nil) fun w' hS => ⟨congrArg (fun b => Ending.returned (.bool b)) (by rw [Bool.eq_iff_iff]; simp only [Bool.and_eq_true, decide_eq_true_eq, Bool.false_eq_true]; constructor <;> intro h <;> first | omega | exact ⟨by omega, h⟩ | exact h.2 | (exfalso; exact h) | (exfalso; omega)), hS.below⟩
  · (try simp only [decide_eq_true_eq, decide_eq_false_iff_not, Bool.not_eq_true', Bool.not_eq_false', Bool.not_not, Int.not_lt, Int.not_le] at hg7)
    refine WL.s rfl rfl rfl ?_
    refine WL.s rfl rfl rfl ?_
    refine WL.s rfl rfl rfl ?_
    refine WL.r rfl rfl rfl (rd_pickf rfl rfl rfl) ?_
    refine WL.r rfl rfl rfl (rd_assign rfl rfl) ?_
    refine WL.nt ?_
    refine WC.ret ?_
    exact WX.retN rfl (.tmp rfl .nil) fun w' hS => ⟨congrArg (fun b => Ending.returned (.bool b)) (by rw [Bool.eq_iff_iff]; simp only [Bool.and_eq_true, decide_eq_true_eq, Bool.false_eq_true]; constructor <;> intro h <;> first | omega | exact ⟨by omega, h⟩ | exact h.2 | (exfalso; exact h) | (exfalso; omega)), hS.below⟩
theorem Same_c {d d' : Dk} {a b : Option Addr} {ca cb : Nat} {w : World} {ok : Nat → Prop} (hF1 : (Fact.sl a (strs d.pend)).holds ok w) (hF2 : (Fact.sl b (strs d'.pend)).holds ok w) (hl : d.pend.length ≤ 1000000) (hm : d'.pend.length ≤ 1000000) :
    Calls Try.prog 13 #[.agg #[.string (S d.safe), .slice a d.pend.length ca, .bool d.crash], .agg #[.string (S d'.safe), .slice b d'.pend.length cb, .bool d'.crash]] w fun e w' => e = .returned (.bool (decide (d = d'))) ∧ Below w.heap.size w w' := by
  refine enter (S := St (fun _ => True) w [] [Fact.sl a (strs d.pend), Fact.sl b (strs d'.pend)]) (L := [(0, .agg #[.string (S d.safe), .slice a d.pend.length ca, .bool d.crash]), (1, .agg #[.string (S d'.safe), .slice b d'.pend.length cb, .bool d'.crash])]) Try.func13 rfl Try.ntmps13 rfl (args_cons rfl (args_cons rfl (args_nil _))) (St.start (fun _ _ => trivial) (facts_cons (fact_any hF1) (facts_cons (fact_any hF2) facts_nil))) ?_
  refine WC.sr ?_
  refine WL.g rfl rfl rfl (og_box rfl rfl (by first | exact cells_agg _ | rfl)) ?_
  intro b2
  refine WL.g rfl rfl rfl (og_box rfl rfl (by first | exact cells_agg _ | rfl)) ?_
  intro b3
  refine WL.r rfl rfl rfl (rd_assign rfl rfl) ?_
  refine WL.nt ?_
  refine WC.sr ?_
  first
    | (refine WL.r rfl rfl rfl (rd_fa (q := 0) rfl rfl Try.underlying24 rfl (by kernel_rfl) rfl) ?_)
    | (refine WL.r rfl rfl rfl (faf (q' := 0) rfl rfl Try.underlying24 rfl (by kernel_rfl) rfl) ?_)
  first
    | (refine WL.r rfl rfl rfl (ld rfl rfl .tc Try.underlying9 rfl (by rfl)) ?_)
    | (refine WL.r rfl rfl rfl (ldm rfl rfl Try.underlying9 rfl ?_) ?_; (focus (first | assumption | omega | (dsimp only; first | assumption | omega) | (simp <;> omega) | (simp; done))))
    | (refine WL.r rfl rfl rfl (ldom rfl rfl Try.underlying9 rfl ?_) ?_; (focus (first | assumption | omega | (dsimp only; first | assumption | omega) | (simp <;> omega) | (simp; done))))
  first
    | (refine WL.r rfl rfl rfl (rd_fa (q := 0) rfl rfl Try.underlying24 rfl (by kernel_rfl) rfl) ?_)
    | (refine WL.r rfl rfl rfl (faf (q' := 0) rfl rfl Try.underlying24 rfl (by kernel_rfl) rfl) ?_)
  first
    | (refine WL.r rfl rfl rfl (ld rfl rfl .tc Try.underlying9 rfl (by rfl)) ?_)
    | (refine WL.r rfl rfl rfl (ldm rfl rfl Try.underlying9 rfl ?_) ?_; (focus (first | assumption | omega | (dsimp only; first | assumption | omega) | (simp <;> omega) | (simp; done))))
    | (refine WL.r rfl rfl rfl (ldom rfl rfl Try.underlying9 rfl ?_) ?_; (focus (first | assumption | omega | (dsimp only; first | assumption | omega) | (simp <;> omega) | (simp; done))))
  refine WL.r rfl rfl rfl (rd_seq rfl rfl rfl) ?_
  refine WL.r rfl rfl rfl (rd_move rfl rfl) ?_
  refine WL.bool 10 rfl (fun hg10 => ?_) (fun hg10 => ?_)
  · (try simp only [decide_eq_true_eq, decide_eq_false_iff_not, Bool.not_eq_true', Bool.not_eq_false', Bool.not_not, Int.not_lt, Int.not_le] at hg10)
    first
      | (refine WL.r rfl rfl rfl (rd_fa (q := 2) rfl rfl Try.underlying24 rfl (by kernel_rfl) rfl) ?_)
      | (refine WL.r rfl rfl rfl (faf (q' := 2) rfl rfl Try.underlying24 rfl (by kernel_rfl) rfl) ?_)
    first
      | (refine WL.r rfl rfl rfl (ld rfl rfl .tc Try.underlying4 rfl (by rfl)) ?_)
      | (refine WL.r rfl rfl rfl (ldm rfl rfl Try.underlying4 rfl ?_) ?_; (focus (first | assumption | omega | (dsimp only; first | assumption | omega) | (simp <;> omega) | (simp; done))))
      | (refine WL.r rfl rfl rfl (ldom rfl rfl Try.underlying4 rfl ?_) ?_; (focus (first | assumption | omega | (dsimp only; first | assumption | omega) | (simp <;> omega) | (simp; done))))
    first
      | (refine WL.r rfl rfl rfl (rd_fa (q := 2) rfl rfl Try.underlying24 rfl (by kernel_rfl) rfl) ?_)
      | (refine WL.r rfl rfl rfl (faf (q' := 2) rfl rfl Try.underlying24 rfl (by kernel_rfl) rfl) ?_)
    first
      | (refine WL.r rfl rfl rfl (ld rfl rfl .tc Try.underlying4 rfl (by rfl)) ?_)
      | (refine WL.r rfl rfl rfl (ldm rfl rfl Try.underlying4 rfl ?_) ?_; (focus (first | assumption | omega | (dsimp only; first | assumption | omega) | (simp <;> omega) | (simp; done))))
      | (refine WL.r rfl rfl rfl (ldom rfl rfl Try.underlying4 rfl ?_) ?_; (focus (first | assumption | omega | (dsimp only; first | assumption | omega) | (simp <;> omega) | (simp; done))))
    refine WL.r rfl rfl rfl (rd_beq rfl rfl rfl Try.underlying4) ?_
    refine WL.r rfl rfl rfl (rd_pickt rfl rfl rfl) ?_
    refine WL.r rfl rfl rfl (rd_move rfl rfl) ?_
    refine WL.bool 17 rfl (fun hg17 => ?_) (fun hg17 => ?_)
    · (try simp only [decide_eq_true_eq, decide_eq_false_iff_not, Bool.not_eq_true', Bool.not_eq_false', Bool.not_not, Int.not_lt, Int.not_le] at hg17)
      first
        | (refine WL.r rfl rfl rfl (rd_fa (q := 1) rfl rfl Try.underlying24 rfl (by kernel_rfl) rfl) ?_)
        | (refine WL.r rfl rfl rfl (faf (q' := 1) rfl rfl Try.underlying24 rfl (by kernel_rfl) rfl) ?_)
      first
        | (refine WL.r rfl rfl rfl (ld rfl rfl .tc Try.underlying22 rfl (by rfl)) ?_)
        | (refine WL.r rfl rfl rfl (ldm rfl rfl Try.underlying22 rfl ?_) ?_; (focus (first | assumption | omega | (dsimp only; first | assumption | omega) | (simp <;> omega) | (simp; done))))
        | (refine WL.r rfl rfl rfl (ldom rfl rfl Try.underlying22 rfl ?_) ?_; (focus (first | assumption | omega | (dsimp only; first | assumption | omega) | (simp <;> omega) | (simp; done))))
      first
        | (refine WL.r rfl rfl rfl (rd_fa (q := 1) rfl rfl Try.underlying24 rfl (by kernel_rfl) rfl) ?_)
        | (refine WL.r rfl rfl rfl (faf (q' := 1) rfl rfl Try.underlying24 rfl (by kernel_rfl) rfl) ?_)
      first
        | (refine WL.r rfl rfl rfl (ld rfl rfl .tc Try.underlying22 rfl (by rfl)) ?_)
        | (refine WL.r rfl rfl rfl (ldm rfl rfl Try.underlying22 rfl ?_) ?_; (focus (first | assumption | omega | (dsimp only; first | assumption | omega) | (simp <;> omega) | (simp; done))))
        | (refine WL.r rfl rfl rfl (ldom rfl rfl Try.underlying22 rfl ?_) ?_; (focus (first | assumption | omega | (dsimp only; first | assumption | omega) | (simp <;> omega) | (simp; done))))
      refine WL.g rfl rfl rfl (og_call rfl rfl (by kernel_rfl) (keep_val fun w hS => same_c (by first | exact hS.sl | exact hS.os | exact hS.oc | exact sl_takeM _ hS.sl | exact sl_dropM _ hS.sl | exact sl_cutM _ (by omega) hS.sl | exact sl_nil) (by first | exact hS.sl | exact hS.os | exact hS.oc | exact sl_takeM _ hS.sl | exact sl_dropM _ hS.sl | exact sl_cutM _ (by omega) hS.sl | exact sl_nil) (by first | assumption | omega | (dsimp only; first | assumption | omega) | (simp <;> omega) | (simp; done)) (by first | assumption | omega | (dsimp only; first | assumption | omega) | (simp <;> omega) | (simp; done)))) ?_
      intro _
      refine WL.r rfl rfl rfl (rd_pickt rfl rfl rfl) ?_
      refine WL.r rfl rfl rfl (rd_assign rfl rfl) ?_
      refine WL.nt ?_
      refine WC.ret ?_
      exact WX.retN rfl (.tmp rfl .nil) fun w' hS => ⟨congrArg (fun b => Ending.returned (.bool b)) (by rw [Bool.eq_iff_iff]; simp only [decide_eq_true_eq, Dk.eq_iff]; simp_all), hS.below⟩
    · (try simp only [decide_eq_true_eq, decide_eq_false_iff_not, Bool.not_eq_true', Bool.not_eq_false', Bool.not_not, Int.not_lt, Int.not_le] at hg17)
      refine WL.s rfl rfl rfl ?_
      refine WL.s rfl rfl rfl ?_
      refine WL.s rfl rfl rfl ?_
      refine WL.s rfl rfl rfl ?_
      refine WL.s rfl rfl rfl ?_
      refine WL.r rfl rfl rfl (rd_pickf rfl rfl rfl) ?_
      refine WL.r rfl rfl rfl (rd_assign rfl rfl) ?_
      refine WL.nt ?_
      refine WC.ret ?_
      exact WX.retN rfl (.tmp rfl .nil) fun w' hS => ⟨congrArg (fun b => Ending.returned (.bool b)) (by rw [Bool.eq_iff_iff]; simp only [decide_eq_true_eq, Dk.eq_iff]; simp_all), hS.below⟩
  · (try simp only [decide_eq_true_eq, decide_eq_false_iff_not, Bool.not_eq_true', Bool.not_eq_false', Bool.not_not, Int.not_lt, Int.not_le] at hg10)
    refine WL.s rfl rfl rfl ?_
    refine WL.s rfl rfl rfl ?_
    refine WL.s rfl rfl rfl ?_
    refine WL.s rfl rfl rfl ?_
    refine WL.s rfl rfl rfl ?_
    refine WL.r rfl rfl rfl (rd_pickf rfl rfl rfl) ?_
    refine WL.r rfl rfl rfl (rd_move rfl rfl) ?_
    refine WL.s rfl rfl rfl ?_
    refine WL.s rfl rfl rfl ?_
    refine WL.s rfl rfl rfl ?_
    refine WL.s rfl rfl rfl ?_
    refine WL.s rfl rfl rfl ?_
    refine WL.r rfl rfl rfl (rd_pickf rfl rfl rfl) ?_
    refine WL.r rfl rfl rfl (rd_assign rfl rfl) ?_
    refine WL.nt ?_
    refine WC.ret ?_
    exact WX.retN rfl (.tmp rfl .nil) fun w' hS => ⟨congrArg (fun b => Ending.returned (.bool b)) (by rw [Bool.eq_iff_iff]; simp only [decide_eq_true_eq, Dk.eq_iff]; simp_all), hS.below⟩
end Go.Proofs.Ytijamoagkmjcjaa
