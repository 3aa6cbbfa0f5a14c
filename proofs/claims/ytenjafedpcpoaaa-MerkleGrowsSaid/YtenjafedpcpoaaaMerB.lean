/-
  Extends, and MerkleGrows.
-/
import Derived.Test.YtenjafedpcpoaaaMerA
namespace Go.Proofs.Ytenjafedpcpoaaa
set_option linter.unusedSimpArgs false
set_option linter.unusedVariables false
open Go.RowKit

theorem isNone_nil {a : Option Addr} {xs : List Value} {ok : Nat → Prop} {w : World} (h : (Fact.sl a xs).holds ok w) (ha : a.isNone = true) : xs = [] := by
  rcases h with h | ⟨b, off, cs, T, fz, h1, _⟩
  · exact h
  · subst h1; simp at ha
theorem clone_c {l : List Bs} {a : Option Addr} {m cap : Nat} {w : World} {ok : Nat → Prop} (hF1 : (Fact.sl a (strs l)).holds ok w) (hl : l.length ≤ 1000000) (hm : m = l.length) :
    Calls Try.prog 39 #[.slice a m cap] w fun e w' => ∃ g : Rs, e = .returned (g.val l.length) ∧ g.cap = l.length + g.sp.length ∧ St (fun _ => True) w [g.ent (strs l) 9] [] w' := by
  refine enter (S := St (fun _ => True) w [] [Fact.sl a (strs l)]) (L := [(0, .slice a m cap)]) Try.func39 rfl Try.ntmps39 rfl (args_cons rfl (args_nil _)) (St.start (fun _ _ => trivial) (facts_cons (fact_any hF1) facts_nil)) ?_
  refine WC.sr ?_
  refine WL.r rfl rfl rfl (rd_assign rfl rfl) ?_
  refine WL.nt ?_
  refine WC.seq ?_
  refine WC.sr ?_
  refine WL.r rfl rfl rfl (rd_move rfl rfl) ?_
  refine WL.r rfl rfl rfl (rd_sleq rfl rfl rfl Try.underlying22) ?_
  refine WL.nt ?_
  refine WC.cond rfl (fun hc4 => ?_) (fun hc4 => ?_)
  · (try simp only [decide_eq_true_eq, decide_eq_false_iff_not, Bool.not_eq_true', Bool.not_eq_false', Bool.not_not, Int.not_lt, Int.not_le] at hc4)
    have hl0 : l = [] := by simpa using isNone_nil hF1 hc4
    subst hl0
    refine WC.sr ?_
    refine WL.r rfl rfl rfl (rd_assign rfl rfl) ?_
    refine WL.nt ?_
    refine WC.ret ?_
    refine WX.then_ret ?_
    exact WX.retN rfl (.tmp rfl .nil) fun w' hS => ⟨⟨none, 0, []⟩, rfl, rfl, (hS.nil _).sub (List.Sublist.refl _) (fun _ h => by cases h)⟩
  · (try simp only [decide_eq_true_eq, decide_eq_false_iff_not, Bool.not_eq_true', Bool.not_eq_false', Bool.not_not, Int.not_lt, Int.not_le] at hc4)
    refine WC.skip ?_
    refine WX.then_normal ?_
    refine WC.sr ?_
    refine WL.g rfl rfl rfl (og_bs1 rfl rfl Try.underlying22 (by kernel_rfl : _ = some (some (.string (S [])), 1, 16)) rfl (by simp only [List.map]; rfl) rfl rfl ?_ (by decide)) ?_
    · simp [Value.cells]
    intro b5
    refine WL.r rfl rfl rfl (rd_move rfl rfl) ?_
    first
      | (refine WL.g rfl rfl rfl (appg rfl Try.underlying22 (by kernel_rfl : _ = some (some (.string (S [])), 1, 16)) rfl .tc rfl rfl (fun w hS => by first | exact hS.os | exact hS.sl | exact hS.oc) (by simp [hm]) ?_ ?_) ?_; (focus ((refine ⟨?_, ?_, ?_, ?_⟩ <;> (try simp) <;> omega))); (focus (first | (simp [Value.oneCell']; done) | (intro u hu; obtain ⟨_, _, rfl⟩ := List.mem_map.1 hu; rfl))))
      | (refine WL.g rfl rfl rfl (appf rfl Try.underlying22 (by kernel_rfl : _ = some (some (.string (S [])), 1, 16)) rfl .tc rfl rfl (fun w hS => by first | exact hS.os | exact hS.sl | exact hS.oc) (by simp [hm]) ?_ ?_) ?_; (focus ((refine ⟨?_, ?_, ?_, ?_⟩ <;> (try simp) <;> omega))); (focus (first | (simp [Value.oneCell']; done) | (intro u hu; obtain ⟨_, _, rfl⟩ := List.mem_map.1 hu; rfl))))
    rintro ⟨o7, c7, s7⟩
    refine WL.pu ?_
    intro hg7; (try dsimp only at hg7 ⊢)
    refine WL.r rfl rfl rfl (rd_assign rfl rfl) ?_
    refine WL.nt ?_
    refine WC.ret ?_
    exact WX.retN rfl (.tmp rfl .nil) fun w' hS => ⟨⟨o7, c7, s7⟩, by simp [Rs.val, hm, tup], by simpa [hm] using hg7, by simpa using hS.sub (List.Sublist.refl _) (fun _ h => by cases h)⟩

/-- what is taken from the end of the proof: how much is left, and whether there was enough -/
def popS (pr : List Bs) (s : Nat × Bool) : Bs × (Nat × Bool) := if s.1 = 0 then ([], (0, false)) else (pr.getD (s.1 - 1) default, (s.1 - 1, s.2))
def climbS (before : Bs) (pr : List Bs) : Nat → Nat → Nat → Bool → Nat × Bool → (Bs × Bs) × (Nat × Bool)
  | 0, _, _, _, s => (([], []), s)
  | f + 1, m, n, wh, s =>
    if s.2 = false then (([], []), s)
    else if m = n then (if wh then ((before, before), s) else (((popS pr s).1, (popS pr s).1), (popS pr s).2))
    else if m ≤ half n then (((climbS before pr f m (half n) wh (popS pr s).2).1.1, nodeH (climbS before pr f m (half n) wh (popS pr s).2).1.2 (popS pr s).1), (climbS before pr f m (half n) wh (popS pr s).2).2)
    else ((nodeH (popS pr s).1 (climbS before pr f (m - half n) (n - half n) false (popS pr s).2).1.1, nodeH (popS pr s).1 (climbS before pr f (m - half n) (n - half n) false (popS pr s).2).1.2), (climbS before pr f (m - half n) (n - half n) false (popS pr s).2).2)

abbrev ptr (b : Nat) : Value := .pointer (some ⟨b, 0, none⟩)
abbrev EX (br bo bb bp bc : Nat) (before : Bs) (a : Option Addr) (cap : Nat) (s : Nat × Bool) : List Ent :=
  [⟨some bc, [.func (.func 41) #[] #[ptr bo, ptr bb, ptr bp, ptr bc]], 63⟩, ⟨some bp, [.func (.func 40) #[] #[ptr br, ptr bo]], 62⟩,
    ⟨some bo, [.bool s.2], 4⟩, ⟨some br, [.slice a s.1 cap], 22⟩, ⟨some bb, [.string (S before)], 9⟩]

theorem pop_c {br bo bb bp bc : Nat} {before : Bs} {a : Option Addr} {cap k : Nat} {v : Bool} {pr : List Bs} {ok : Nat → Prop} {w0 : World} {fs : List Fact} {w : World} (hS0 : St ok w0 (EX br bo bb bp bc before a cap (k, v)) (Fact.sl a (strs pr) :: fs) w) (hk : k ≤ pr.length) (hp : pr.length ≤ 1000000) (hc : pr.length ≤ cap) :
    Calls Try.prog 40 #[ptr br, ptr bo] w fun e w' => e = .returned (.string (S (popS pr (k, v)).1)) ∧ St ok w0 (EX br bo bb bp bc before a cap (popS pr (k, v)).2) (Fact.sl a (strs pr) :: fs) w' := by
  refine enter (S := St ok w0 (EX br bo bb bp bc before a cap (k, v)) (Fact.sl a (strs pr) :: fs)) (L := [(0, ptr br), (1, ptr bo)]) Try.func40 rfl Try.ntmps40 rfl (args_cons rfl (args_cons rfl (args_nil _))) hS0 ?_
  refine WC.sr ?_
  refine WL.r rfl rfl rfl (rd_assign rfl rfl) ?_
  refine WL.nt ?_
  refine WC.seq ?_
  refine WC.sr ?_
  refine WL.r rfl rfl rfl (ld rfl rfl .tc Try.underlying22 rfl (by rfl)) ?_
  refine WL.r rfl rfl rfl (rd_len rfl rfl Try.underlying22) ?_
  refine WL.r rfl rfl rfl (rd_eql rfl rfl rfl) ?_
  refine WL.nt ?_
  refine WC.cond rfl (fun hc6 => ?_) (fun hc6 => ?_)
  · (try simp only [decide_eq_true_eq, decide_eq_false_iff_not, Bool.not_eq_true', Bool.not_eq_false', Bool.not_not, Int.not_lt, Int.not_le] at hc6)
    have hps : popS pr (k, v) = ([], (0, false)) := if_pos (by omega)
    obtain rfl : k = 0 := by omega
    refine WC.sr ?_
    refine WL.g0 rfl rfl (st rfl rfl rfl .tc (by kernel_rfl) rfl ?_ rfl) ?_
    · first | decide | (simp; done) | (simp <;> omega)
    intro _
    refine WL.nt ?_
    refine WC.sr ?_
    refine WL.r rfl rfl rfl (rd_assign rfl rfl) ?_
    refine WL.nt ?_
    refine WC.ret ?_
    refine WX.then_ret ?_
    exact WX.retN rfl (.tmp rfl .nil) fun w' hS => ⟨by first | rfl | (simp [*, hps, tup]; done), by rw [hps]; exact hS⟩
  · (try simp only [decide_eq_true_eq, decide_eq_false_iff_not, Bool.not_eq_true', Bool.not_eq_false', Bool.not_not, Int.not_lt, Int.not_le] at hc6)
    have hps : popS pr (k, v) = (pr.getD (k - 1) default, (k - 1, v)) := if_neg (by omega)
    refine WC.skip ?_
    refine WX.then_normal ?_
    refine WC.sr ?_
    refine WL.r rfl rfl rfl (ld rfl rfl .tc Try.underlying22 rfl (by rfl)) ?_
    refine WL.r rfl rfl rfl (ld rfl rfl .tc Try.underlying22 rfl (by rfl)) ?_
    refine WL.r rfl rfl rfl (rd_len rfl rfl Try.underlying22) ?_
    first
      | (refine WL.r rfl rfl rfl (rd_sub64nl rfl rfl rfl ?_) ?_; (focus (first | assumption | omega | (simp <;> omega) | (simp; done))))
      | (refine WL.r rfl rfl rfl (rd_sub64 rfl rfl rfl ?_) ?_; (focus (first | assumption | omega | (simp <;> omega) | (simp; done))))
    first
      | (refine WL.r rfl rfl rfl (rd_ia rfl rfl rfl Try.underlying22 (by kernel_rfl : _ = some 1) ?_ (by (try simp only [Int.toNat_natCast, Nat.mul_one, Nat.zero_add, Nat.add_zero, Nat.zero_mul, Int.reduceToNat, Nat.reduceAdd, Nat.reduceMul, Nat.reduceSub, Nat.sub_zero]); rfl)) ?_; (focus (first | assumption | omega | (simp <;> omega) | (simp; done))))
      | (refine WL.r rfl rfl rfl (iaf rfl rfl rfl Try.underlying22 (by kernel_rfl : _ = some 1) ?_ ?_ (by (try simp only [Int.toNat_natCast, Nat.mul_one, Nat.zero_add, Nat.add_zero, Nat.zero_mul, Int.reduceToNat, Nat.reduceAdd, Nat.reduceMul, Nat.reduceSub, Nat.sub_zero]); rfl)) ?_; (focus (first | assumption | omega | (simp <;> omega) | (simp; done))); (focus (first | (rw [List.length_map]; omega) | (rw [flatMap_len _ _ _ (fun _ => rfl)]; omega) | (simp <;> omega))))
      | (refine WL.r rfl rfl rfl (iao rfl rfl rfl Try.underlying22 (by kernel_rfl : _ = some 1) ?_ ?_ (by (try simp only [Int.toNat_natCast, Nat.mul_one, Nat.zero_add, Nat.add_zero, Nat.zero_mul, Int.reduceToNat, Nat.reduceAdd, Nat.reduceMul, Nat.reduceSub, Nat.sub_zero]); rfl)) ?_; (focus (first | assumption | omega | (simp <;> omega) | (simp; done))); (focus (first | (simp <;> omega) | (rw [List.length_append, List.length_map]; omega))))
    first
      | (refine WL.r rfl rfl rfl (ld rfl rfl .tc Try.underlying9 rfl (by rfl)) ?_)
      | (refine WL.r rfl rfl rfl (ldm rfl rfl Try.underlying9 rfl ?_) ?_; (focus (first | assumption | omega | (simp <;> omega) | (simp; done))))
      | (refine WL.r rfl rfl rfl (ldom rfl rfl Try.underlying9 rfl ?_) ?_; (focus (first | assumption | omega | (simp <;> omega) | (simp; done))))
    refine WL.r rfl rfl rfl (rd_assign rfl rfl) ?_
    refine WL.nt ?_
    refine WC.sr ?_
    refine WL.r rfl rfl rfl (ld rfl rfl .tc Try.underlying22 rfl (by rfl)) ?_
    refine WL.r rfl rfl rfl (ld rfl rfl .tc Try.underlying22 rfl (by rfl)) ?_
    refine WL.r rfl rfl rfl (rd_len rfl rfl Try.underlying22) ?_
    first
      | (refine WL.r rfl rfl rfl (rd_sub64nl rfl rfl rfl ?_) ?_; (focus (first | assumption | omega | (simp <;> omega) | (simp; done))))
      | (refine WL.r rfl rfl rfl (rd_sub64 rfl rfl rfl ?_) ?_; (focus (first | assumption | omega | (simp <;> omega) | (simp; done))))
    refine WL.r rfl rfl rfl (rd_slt rfl rfl rfl Try.underlying22 (by kernel_rfl : _ = some 1) ?_ (by (try simp only [Int.toNat_natCast, Nat.mul_one, Nat.zero_add, Nat.add_zero, Nat.zero_mul, Int.reduceToNat, Nat.reduceAdd, Nat.reduceMul, Nat.reduceSub, Nat.sub_zero]); rfl)) ?_
    · first | assumption | omega | (simp <;> omega) | (simp; done)
    refine WL.g0 rfl rfl (st rfl rfl rfl .tc (by kernel_rfl) rfl ?_ rfl) ?_
    · first | decide | (simp; done) | (simp <;> omega)
    intro _
    refine WL.nt ?_
    refine WC.sr ?_
    refine WL.r rfl rfl rfl (rd_move rfl rfl) ?_
    refine WL.r rfl rfl rfl (rd_assign rfl rfl) ?_
    refine WL.nt ?_
    refine WC.ret ?_
    exact WX.retN rfl (.tmp rfl .nil) fun w' hS => ⟨by first | rfl | (simp [*, hps, tup]; done), by rw [hps]; exact hS⟩

theorem pop_small (pr : List Bs) (hs : ∀ x ∈ pr, x.length ≤ 300000) (s : Nat × Bool) (h : s.1 ≤ pr.length) : (popS pr s).1.length ≤ 300000 ∧ (popS pr s).2.1 ≤ pr.length := by
  unfold popS
  split
  · exact ⟨by simp, by simp⟩
  · exact ⟨hs _ (getD_mem (by omega)), by dsimp only; omega⟩
theorem climb_small (before : Bs) (pr : List Bs) (hb : before.length ≤ 300000) (hs : ∀ x ∈ pr, x.length ≤ 300000) : ∀ (f m n : Nat) (wh : Bool) (s : Nat × Bool), s.1 ≤ pr.length → (climbS before pr f m n wh s).1.1.length ≤ 300000 ∧ (climbS before pr f m n wh s).1.2.length ≤ 300000 ∧ (climbS before pr f m n wh s).2.1 ≤ pr.length
  | 0, m, n, wh, s, h => ⟨by simp [climbS], by simp [climbS], h⟩
  | f + 1, m, n, wh, s, h => by
    have hp := pop_small pr hs s h
    have h1 := climb_small before pr hb hs f m (half n) wh (popS pr s).2 hp.2
    have h2 := climb_small before pr hb hs f (m - half n) (n - half n) false (popS pr s).2 hp.2
    unfold climbS
    split
    · exact ⟨by simp, by simp, h⟩
    · split
      · split
        · exact ⟨hb, hb, h⟩
        · exact ⟨hp.1, hp.1, hp.2⟩
      · split
        · exact ⟨h1.1, by simp [nodeH, sha_len], h1.2.2⟩
        · exact ⟨by simp [nodeH, sha_len], by simp [nodeH, sha_len], h2.2.2⟩

def ClimbE (f : Nat) : Prop := ∀ {br bo bb bp bc : Nat} {before : Bs} {a : Option Addr} {cap : Nat} {pr : List Bs} {m n : Nat} {wh : Bool} {s : Nat × Bool} {ok : Nat → Prop} {w0 : World} {fs : List Fact} {w : World},
  St ok w0 (EX br bo bb bp bc before a cap s) (Fact.sl a (strs pr) :: fs) w → n ≤ f → 0 < m → m ≤ n → n ≤ 2305843009213693952 → s.1 ≤ pr.length → pr.length ≤ 1000000 → pr.length ≤ cap → before.length ≤ 300000 → (∀ x ∈ pr, x.length ≤ 300000) →
  Calls Try.prog 41 #[.int .i64 (m : Int), .int .i64 (n : Int), .bool wh, ptr bo, ptr bb, ptr bp, ptr bc] w fun e w' => e = .returned (.tuple #[.string (S (climbS before pr f m n wh s).1.1), .string (S (climbS before pr f m n wh s).1.2)]) ∧ St ok w0 (EX br bo bb bp bc before a cap (climbS before pr f m n wh s).2) (Fact.sl a (strs pr) :: fs) w'
theorem half_c {n : Nat} {w : World} (h2 : 2 ≤ n) (hn : n ≤ 2305843009213693952) :
    Calls Try.prog 25 #[.int .i64 (n : Int)] w fun e w' => e = .returned (.int .i64 (half n : Int)) ∧ Below w.heap.size w w' :=
  half_ok n h2 hn w
theorem nh_c {a b : Bs} {w : World} (ha : a.length ≤ 400000) (hb : b.length ≤ 400000) :
    Calls Try.prog 26 #[.string (S a), .string (S b)] w fun e w' => e = .returned (.string (S (nodeH a b))) ∧ Below w.heap.size w w' :=
  nh_ok a b ha hb w
theorem climbE_step {f : Nat} {br bo bb bp bc : Nat} {before : Bs} {a : Option Addr} {cap k m n : Nat} {wh v : Bool} {pr : List Bs} {ok : Nat → Prop} {w0 : World} {fs : List Fact} {w : World} (hS0 : St ok w0 (EX br bo bb bp bc before a cap (k, v)) (Fact.sl a (strs pr) :: fs) w) (hih : ClimbE f) (hnf : n ≤ f + 1) (hm0 : 0 < m) (hmn : m ≤ n) (hn : n ≤ 2305843009213693952) (hk : k ≤ pr.length) (hp : pr.length ≤ 1000000) (hc : pr.length ≤ cap) (hb : before.length ≤ 300000) (hs : ∀ x ∈ pr, x.length ≤ 300000) :
    Calls Try.prog 41 #[.int .i64 (m : Int), .int .i64 (n : Int), .bool wh, ptr bo, ptr bb, ptr bp, ptr bc] w fun e w' => e = .returned (.tuple #[.string (S (climbS before pr (f + 1) m n wh (k, v)).1.1), .string (S (climbS before pr (f + 1) m n wh (k, v)).1.2)]) ∧ St ok w0 (EX br bo bb bp bc before a cap (climbS before pr (f + 1) m n wh (k, v)).2) (Fact.sl a (strs pr) :: fs) w' := by
  refine enter (S := St ok w0 (EX br bo bb bp bc before a cap (k, v)) (Fact.sl a (strs pr) :: fs)) (L := [(0, .int .i64 (m : Int)), (1, .int .i64 (n : Int)), (2, .bool wh), (3, ptr bo), (4, ptr bb), (5, ptr bp), (6, ptr bc)]) Try.func41 rfl Try.ntmps41 rfl (args_cons rfl (args_cons rfl (args_cons rfl (args_cons rfl (args_cons rfl (args_cons rfl (args_cons rfl (args_nil _)))))))) hS0 ?_
  refine WC.sr ?_
  refine WL.r rfl rfl rfl (rd_assign rfl rfl) ?_
  refine WL.r rfl rfl rfl (rd_assign rfl rfl) ?_
  refine WL.nt ?_
  refine WC.seq ?_
  refine WC.sr ?_
  refine WL.r rfl rfl rfl (ld rfl rfl .tc Try.underlying4 rfl (by rfl)) ?_
  refine WL.r rfl rfl rfl (rd_not rfl rfl) ?_
  refine WL.nt ?_
  refine WC.cond rfl (fun hc20 => ?_) (fun hc20 => ?_)
  · (try simp only [decide_eq_true_eq, decide_eq_false_iff_not, Bool.not_eq_true', Bool.not_eq_false', Bool.not_not, Int.not_lt, Int.not_le] at hc20)
    have hr : climbS before pr (f + 1) m n wh (k, v) = (([], []), (k, v)) := by simp only [climbS]; rw [if_pos (by simpa using hc20)]
    refine WC.sr ?_
    refine WL.r rfl rfl rfl (rd_assign rfl rfl) ?_
    refine WL.r rfl rfl rfl (rd_assign rfl rfl) ?_
    refine WL.nt ?_
    refine WC.ret ?_
    refine WX.then_ret ?_
    exact WX.retN rfl (.tmp rfl (.tmp rfl .nil)) fun w' hS => ⟨by rw [hr]; rfl, by rw [hr]; exact hS⟩
  · (try simp only [decide_eq_true_eq, decide_eq_false_iff_not, Bool.not_eq_true', Bool.not_eq_false', Bool.not_not, Int.not_lt, Int.not_le] at hc20)
    have hv : v = true := by simpa using hc20
    have hps := pop_small pr hs (k, v) hk
    refine WC.skip ?_
    refine WX.then_normal ?_
    refine WC.seq ?_
    refine WC.sr ?_
    refine WL.r rfl rfl rfl (rd_move rfl rfl) ?_
    refine WL.r rfl rfl rfl (rd_move rfl rfl) ?_
    refine WL.r rfl rfl rfl (rd_eql rfl rfl rfl) ?_
    refine WL.nt ?_
    refine WC.cond rfl (fun hc23 => ?_) (fun hc23 => ?_)
    · (try simp only [decide_eq_true_eq, decide_eq_false_iff_not, Bool.not_eq_true', Bool.not_eq_false', Bool.not_not, Int.not_lt, Int.not_le] at hc23)
      refine WC.sr ?_
      refine WL.r rfl rfl rfl (ld rfl rfl .tc Try.underlying9 rfl (by rfl)) ?_
      refine WL.r rfl rfl rfl (rd_assign rfl rfl) ?_
      refine WL.nt ?_
      refine WC.seq ?_
      refine WC.sr ?_
      refine WL.r rfl rfl rfl (rd_move rfl rfl) ?_
      refine WL.r rfl rfl rfl (rd_not rfl rfl) ?_
      refine WL.nt ?_
      refine WC.cond rfl (fun hc26 => ?_) (fun hc26 => ?_)
      · (try simp only [decide_eq_true_eq, decide_eq_false_iff_not, Bool.not_eq_true', Bool.not_eq_false', Bool.not_not, Int.not_lt, Int.not_le] at hc26)
        have hr : climbS before pr (f + 1) m n wh (k, v) = (((popS pr (k, v)).1, (popS pr (k, v)).1), (popS pr (k, v)).2) := by simp only [climbS]; rw [if_neg (by simp [hv]), if_pos (by omega), if_neg (by simpa using hc26)]
        refine WC.region ?_
        refine WL.r rfl rfl rfl (ld rfl rfl .tc Try.underlying62 rfl (by rfl)) ?_
        refine WL.g rfl rfl rfl (og_callv rfl rfl rfl (by kernel_rfl) rfl (keep_st fun w hS => pop_c hS (by first | assumption | omega | (simp <;> omega) | (simp; done)) (by first | assumption | omega | (simp <;> omega) | (simp; done)) (by first | assumption | omega | (simp <;> omega) | (simp; done)))) ?_
        intro _
        refine WL.r rfl rfl rfl (rd_assign rfl rfl) ?_
        refine WL.nt ?_
        refine WC.sr ?_
        refine WL.r rfl rfl rfl (rd_move rfl rfl) ?_
        refine WL.r rfl rfl rfl (rd_move rfl rfl) ?_
        refine WL.r rfl rfl rfl (rd_assign rfl rfl) ?_
        refine WL.r rfl rfl rfl (rd_assign rfl rfl) ?_
        refine WL.nt ?_
        refine WC.ret ?_
        refine WX.then_ret ?_
        exact WX.retN rfl (.tmp rfl (.tmp rfl .nil)) fun w' hS => ⟨by rw [hr]; rfl, by rw [hr]; exact hS⟩
      · (try simp only [decide_eq_true_eq, decide_eq_false_iff_not, Bool.not_eq_true', Bool.not_eq_false', Bool.not_not, Int.not_lt, Int.not_le] at hc26)
        have hr : climbS before pr (f + 1) m n wh (k, v) = ((before, before), (k, v)) := by simp only [climbS]; rw [if_neg (by simp [hv]), if_pos (by omega), if_pos (by simpa using hc26)]
        refine WC.skip ?_
        refine WX.then_normal ?_
        refine WC.sr ?_
        refine WL.r rfl rfl rfl (rd_move rfl rfl) ?_
        refine WL.r rfl rfl rfl (rd_move rfl rfl) ?_
        refine WL.r rfl rfl rfl (rd_assign rfl rfl) ?_
        refine WL.r rfl rfl rfl (rd_assign rfl rfl) ?_
        refine WL.nt ?_
        refine WC.ret ?_
        refine WX.then_ret ?_
        exact WX.retN rfl (.tmp rfl (.tmp rfl .nil)) fun w' hS => ⟨by rw [hr]; rfl, by rw [hr]; exact hS⟩
    · (try simp only [decide_eq_true_eq, decide_eq_false_iff_not, Bool.not_eq_true', Bool.not_eq_false', Bool.not_not, Int.not_lt, Int.not_le] at hc23)
      have hh := half_spec n (by omega) (by omega)
      refine WC.skip ?_
      refine WX.then_normal ?_
      refine WC.sr ?_
      refine WL.r rfl rfl rfl (ld rfl rfl .tc Try.underlying62 rfl (by rfl)) ?_
      refine WL.g rfl rfl rfl (og_callv rfl rfl rfl (by kernel_rfl) rfl (keep_st fun w hS => pop_c hS (by first | assumption | omega | (simp <;> omega) | (simp; done)) (by first | assumption | omega | (simp <;> omega) | (simp; done)) (by first | assumption | omega | (simp <;> omega) | (simp; done)))) ?_
      intro _
      refine WL.r rfl rfl rfl (rd_assign rfl rfl) ?_
      refine WL.nt ?_
      refine WC.sr ?_
      refine WL.r rfl rfl rfl (rd_move rfl rfl) ?_
      refine WL.g rfl rfl rfl (og_call rfl rfl (by kernel_rfl) (keep_val fun w hS => half_c (by first | assumption | omega | (simp <;> omega) | (simp; done)) (by first | assumption | omega | (simp <;> omega) | (simp; done)))) ?_
      intro _
      refine WL.r rfl rfl rfl (rd_assign rfl rfl) ?_
      refine WL.nt ?_
      refine WC.seq ?_
      refine WC.sr ?_
      refine WL.r rfl rfl rfl (rd_move rfl rfl) ?_
      refine WL.r rfl rfl rfl (rd_move rfl rfl) ?_
      refine WL.r rfl rfl rfl (rd_leq rfl rfl rfl) ?_
      refine WL.nt ?_
      refine WC.cond rfl (fun hc37 => ?_) (fun hc37 => ?_)
      · (try simp only [decide_eq_true_eq, decide_eq_false_iff_not, Bool.not_eq_true', Bool.not_eq_false', Bool.not_not, Int.not_lt, Int.not_le] at hc37)
        have hr : climbS before pr (f + 1) m n wh (k, v) = (((climbS before pr f m (half n) wh (popS pr (k, v)).2).1.1, nodeH (climbS before pr f m (half n) wh (popS pr (k, v)).2).1.2 (popS pr (k, v)).1), (climbS before pr f m (half n) wh (popS pr (k, v)).2).2) := by
          rw [climbS]; rw [if_neg (by simp [hv]), if_neg (by omega), if_pos (by omega)]
        have hcs := climb_small before pr hb hs f m (half n) wh (popS pr (k, v)).2 hps.2
        refine WC.sr ?_
        refine WL.r rfl rfl rfl (ld rfl rfl .tc Try.underlying63 rfl (by rfl)) ?_
        refine WL.r rfl rfl rfl (rd_move rfl rfl) ?_
        refine WL.r rfl rfl rfl (rd_move rfl rfl) ?_
        refine WL.r rfl rfl rfl (rd_move rfl rfl) ?_
        refine WL.g rfl rfl rfl (og_callv rfl rfl rfl (by kernel_rfl) rfl (keep_st fun w hS => hih hS (by omega) hm0 (by omega) (by omega) hps.2 hp hc hb hs)) ?_
        intro g43
        refine WL.r rfl rfl rfl (rd_move rfl rfl) ?_
        refine WL.r rfl rfl rfl (rd_extL rfl rfl rfl) ?_
        refine WL.r rfl rfl rfl (rd_extL rfl rfl rfl) ?_
        refine WL.r rfl rfl rfl (rd_assign rfl rfl) ?_
        refine WL.r rfl rfl rfl (rd_assign rfl rfl) ?_
        refine WL.nt ?_
        refine WC.sr ?_
        refine WL.r rfl rfl rfl (rd_move rfl rfl) ?_
        refine WL.r rfl rfl rfl (rd_move rfl rfl) ?_
        refine WL.r rfl rfl rfl (rd_move rfl rfl) ?_
        refine WL.g rfl rfl rfl (og_call rfl rfl (by kernel_rfl) (keep_val fun w hS => nh_c (by first | assumption | omega | (simp <;> omega) | (simp; done)) (by first | assumption | omega | (simp <;> omega) | (simp; done)))) ?_
        intro _
        refine WL.r rfl rfl rfl (rd_assign rfl rfl) ?_
        refine WL.r rfl rfl rfl (rd_assign rfl rfl) ?_
        refine WL.nt ?_
        refine WC.ret ?_
        refine WX.then_ret ?_
        exact WX.retN rfl (.tmp rfl (.tmp rfl .nil)) fun w' hS => ⟨by rw [hr]; rfl, by rw [hr]; exact hS⟩
      · (try simp only [decide_eq_true_eq, decide_eq_false_iff_not, Bool.not_eq_true', Bool.not_eq_false', Bool.not_not, Int.not_lt, Int.not_le] at hc37)
        have hr : climbS before pr (f + 1) m n wh (k, v) = ((nodeH (popS pr (k, v)).1 (climbS before pr f (m - half n) (n - half n) false (popS pr (k, v)).2).1.1, nodeH (popS pr (k, v)).1 (climbS before pr f (m - half n) (n - half n) false (popS pr (k, v)).2).1.2), (climbS before pr f (m - half n) (n - half n) false (popS pr (k, v)).2).2) := by
          rw [climbS]; rw [if_neg (by simp [hv]), if_neg (by omega), if_neg (by omega)]
        have hcs := climb_small before pr hb hs f (m - half n) (n - half n) false (popS pr (k, v)).2 hps.2
        refine WC.skip ?_
        refine WX.then_normal ?_
        refine WC.sr ?_
        refine WL.r rfl rfl rfl (ld rfl rfl .tc Try.underlying63 rfl (by rfl)) ?_
        refine WL.r rfl rfl rfl (rd_move rfl rfl) ?_
        refine WL.r rfl rfl rfl (rd_move rfl rfl) ?_
        first
          | (refine WL.r rfl rfl rfl (rd_sub64n rfl rfl rfl ?_) ?_; (focus (first | assumption | omega | (simp <;> omega) | (simp; done))))
          | (refine WL.r rfl rfl rfl (rd_sub64 rfl rfl rfl ?_) ?_; (focus (first | assumption | omega | (simp <;> omega) | (simp; done))))
        refine WL.r rfl rfl rfl (rd_move rfl rfl) ?_
        refine WL.r rfl rfl rfl (rd_move rfl rfl) ?_
        first
          | (refine WL.r rfl rfl rfl (rd_sub64n rfl rfl rfl ?_) ?_; (focus (first | assumption | omega | (simp <;> omega) | (simp; done))))
          | (refine WL.r rfl rfl rfl (rd_sub64 rfl rfl rfl ?_) ?_; (focus (first | assumption | omega | (simp <;> omega) | (simp; done))))
        refine WL.g rfl rfl rfl (og_callv rfl rfl rfl (by kernel_rfl) rfl (keep_st fun w hS => hih hS (by omega) (by omega) (by omega) (by omega) hps.2 hp hc hb hs)) ?_
        intro g58
        refine WL.r rfl rfl rfl (rd_move rfl rfl) ?_
        refine WL.r rfl rfl rfl (rd_extL rfl rfl rfl) ?_
        refine WL.r rfl rfl rfl (rd_extL rfl rfl rfl) ?_
        refine WL.r rfl rfl rfl (rd_assign rfl rfl) ?_
        refine WL.r rfl rfl rfl (rd_assign rfl rfl) ?_
        refine WL.nt ?_
        refine WC.sr ?_
        refine WL.r rfl rfl rfl (rd_move rfl rfl) ?_
        refine WL.r rfl rfl rfl (rd_move rfl rfl) ?_
        refine WL.g rfl rfl rfl (og_call rfl rfl (by kernel_rfl) (keep_val fun w hS => nh_c (by first | assumption | omega | (simp <;> omega) | (simp; done)) (by first | assumption | omega | (simp <;> omega) | (simp; done)))) ?_
        intro _
        refine WL.r rfl rfl rfl (rd_move rfl rfl) ?_
        refine WL.r rfl rfl rfl (rd_move rfl rfl) ?_
        refine WL.g rfl rfl rfl (og_call rfl rfl (by kernel_rfl) (keep_val fun w hS => nh_c (by first | assumption | omega | (simp <;> omega) | (simp; done)) (by first | assumption | omega | (simp <;> omega) | (simp; done)))) ?_
        intro _
        refine WL.r rfl rfl rfl (rd_assign rfl rfl) ?_
        refine WL.r rfl rfl rfl (rd_assign rfl rfl) ?_
        refine WL.nt ?_
        refine WC.ret ?_
        exact WX.retN rfl (.tmp rfl (.tmp rfl .nil)) fun w' hS => ⟨by rw [hr]; rfl, by rw [hr]; exact hS⟩
theorem climbE (f : Nat) : ClimbE f := by
  induction f with
  | zero => intro br bo bb bp bc before a cap pr m n wh s ok w0 fs w hS h1 h2 h3; omega
  | succ f ih =>
    intro br bo bb bp bc before a cap pr m n wh s ok w0 fs w hS h1 h2 h3 h4 h5 h6 h7 h8 h9
    obtain ⟨k, v⟩ := s
    exact climbE_step hS ih h1 h2 h3 h4 h5 h6 h7 h8 h9

def extR (before after : Bs) (r : (Bs × Bs) × (Nat × Bool)) : Bool := r.2.2 && decide (r.2.1 = 0) && decide (r.1.1 = before) && decide (r.1.2 = after)
def extB (before : Bs) (m : Nat) (after : Bs) (n : Nat) (pr : List Bs) : Bool :=
  if m = 0 then decide (pr.length = 0) && decide (before = sha [])
  else if m = n then decide (pr.length = 0) && decide (before = after)
  else extR before after (climbS before pr n m n true (pr.length, true))
theorem ext_c {before after : Bs} {m n : Nat} {pr : List Bs} {a : Option Addr} {q cap : Nat} {w : World} {ok : Nat → Prop} (hF1 : (Fact.sl a (strs pr)).holds ok w) (hmn : m ≤ n) (hn : n ≤ 2305843009213693952) (hb : before.length ≤ 300000) (hs : ∀ x ∈ pr, x.length ≤ 300000) (hp : pr.length ≤ 1000000) (hq : q = pr.length) (hcap : q ≤ cap) :
    Calls Try.prog 23 #[.string (S before), .int .i64 (m : Int), .string (S after), .int .i64 (n : Int), .slice a q cap] w fun e w' => e = .returned (.bool (extB before m after n pr)) ∧ Below w.heap.size w w' := by
  refine enter (S := St (fun _ => True) w [] [Fact.sl a (strs pr)]) (L := [(0, .string (S before)), (1, .int .i64 (m : Int)), (2, .string (S after)), (3, .int .i64 (n : Int)), (4, .slice a q cap)]) Try.func23 rfl Try.ntmps23 rfl (args_cons rfl (args_cons rfl (args_cons rfl (args_cons rfl (args_cons rfl (args_nil _)))))) (St.start (fun _ _ => trivial) (facts_cons (fact_any hF1) facts_nil)) ?_
  refine WC.sr ?_
  refine WL.g rfl rfl rfl (og_box rfl rfl rfl) ?_
  intro b5
  refine WL.r rfl rfl rfl (rd_assign rfl rfl) ?_
  refine WL.nt ?_
  refine WC.seq ?_
  refine WC.block ?_
  refine WC.sr ?_
  refine WL.r rfl rfl rfl (rd_move rfl rfl) ?_
  refine WL.r rfl rfl rfl (rd_lss rfl rfl rfl) ?_
  refine WL.set 19 rfl (v' := .bool false) (by exact congrArg Value.bool (decide_eq_false (by omega))) ?_
  refine WL.r rfl rfl rfl (rd_move rfl rfl) ?_
  refine WL.r rfl rfl rfl (rd_move rfl rfl) ?_
  refine WL.r rfl rfl rfl (rd_move rfl rfl) ?_
  refine WL.r rfl rfl rfl (rd_gtr rfl rfl rfl) ?_
  refine WL.set 23 rfl (v' := .bool false) (by exact congrArg Value.bool (decide_eq_false (by omega))) ?_
  refine WL.r rfl rfl rfl (rd_pickf rfl rfl rfl) ?_
  refine WL.r rfl rfl rfl (rd_assign rfl rfl) ?_
  refine WL.nt ?_
  refine WC.cond rfl (fun h => by cases h) (fun _ => ?_)
  refine WC.sr ?_
  refine WL.r rfl rfl rfl (rd_move rfl rfl) ?_
  refine WL.r rfl rfl rfl (rd_eql rfl rfl rfl) ?_
  refine WL.r rfl rfl rfl (rd_assign rfl rfl) ?_
  refine WL.nt ?_
  refine WC.cond rfl (fun hc25 => ?_) (fun hc25 => ?_)
  · (try simp only [decide_eq_true_eq, decide_eq_false_iff_not, Bool.not_eq_true', Bool.not_eq_false', Bool.not_not, Int.not_lt, Int.not_le] at hc25)
    refine WC.seq ?_
    refine WC.free0 [0, 1, 2, 3, 5, 4, 6, 7, 8] [] [0, 0, 0, 0, 0, 1, 0, 0, 0] (by kernel_rfl) (by kernel_rfl) rfl ?_
    refine WJ.r rfl rfl rfl rfl rfl (rd_move rfl rfl) ?_
    refine WJ.r rfl rfl rfl rfl rfl (rd_len rfl rfl Try.underlying22) ?_
    refine WJ.r rfl rfl rfl rfl rfl (rd_eql rfl rfl rfl) ?_
    refine WJ.r rfl rfl rfl rfl rfl (rd_move rfl rfl) ?_
    refine WJ.bool 31 rfl (fun hg31 => ?_) (fun hg31 => ?_)
    · (try simp only [decide_eq_true_eq, decide_eq_false_iff_not, Bool.not_eq_true', Bool.not_eq_false', Bool.not_not, Int.not_lt, Int.not_le] at hg31)
      refine WJ.gv rfl rfl rfl rfl rfl (fun ext => og_call rfl rfl (by kernel_rfl) (keep_val fun w hS => root_c (l := []) (by first | exact hS.sl | exact hS.os | exact hS.oc | exact sl_takeM _ hS.sl | exact sl_dropM _ hS.sl | exact sl_cutM _ (by omega) hS.sl | exact sl_nil) (by decide) (by intro s h; cases h) (by first | assumption | omega | (simp <;> omega) | (simp; done)) (by first | assumption | omega | (simp <;> omega) | (simp; done)))) ?_
      refine WJ.r rfl rfl rfl rfl rfl (ld rfl rfl .tc Try.underlying9 rfl (by rfl)) ?_
      refine WJ.r rfl rfl rfl rfl rfl (rd_seq rfl rfl rfl) ?_
      refine WJ.r rfl rfl rfl rfl rfl (rd_pickt rfl rfl rfl) ?_
      refine WJ.r rfl rfl rfl rfl rfl (rd_assign rfl rfl) ?_
      refine WJ.nil ?_
      refine WL.nt ?_
      refine WC.ret ?_
      refine WX.block_ret ?_
      refine WX.then_ret ?_
      exact WX.retN rfl (.tmp rfl .nil) fun w' hS => ⟨by rw [extB, if_pos (by omega)]; simp_all [tup, root_nil] <;> congr, hS.below⟩
    · (try simp only [decide_eq_true_eq, decide_eq_false_iff_not, Bool.not_eq_true', Bool.not_eq_false', Bool.not_not, Int.not_lt, Int.not_le] at hg31)
      refine WJ.s rfl rfl rfl rfl ?_
      refine WJ.s rfl rfl rfl rfl ?_
      refine WJ.s rfl rfl rfl rfl ?_
      refine WJ.r rfl rfl rfl rfl rfl (rd_pickf rfl rfl rfl) ?_
      refine WJ.r rfl rfl rfl rfl rfl (rd_assign rfl rfl) ?_
      refine WJ.nil ?_
      refine WL.nt ?_
      refine WC.ret ?_
      refine WX.block_ret ?_
      refine WX.then_ret ?_
      exact WX.retN rfl (.tmp rfl .nil) fun w' hS => ⟨by rw [extB, if_pos (by omega)]; simp_all [tup, root_nil] <;> congr, hS.below⟩
  · (try simp only [decide_eq_true_eq, decide_eq_false_iff_not, Bool.not_eq_true', Bool.not_eq_false', Bool.not_not, Int.not_lt, Int.not_le] at hc25)
    refine WC.sr ?_
    refine WL.r rfl rfl rfl (rd_move rfl rfl) ?_
    refine WL.r rfl rfl rfl (rd_move rfl rfl) ?_
    refine WL.r rfl rfl rfl (rd_eql rfl rfl rfl) ?_
    refine WL.r rfl rfl rfl (rd_assign rfl rfl) ?_
    refine WL.nt ?_
    refine WC.cond rfl (fun hc36 => ?_) (fun hc36 => ?_)
    · (try simp only [decide_eq_true_eq, decide_eq_false_iff_not, Bool.not_eq_true', Bool.not_eq_false', Bool.not_not, Int.not_lt, Int.not_le] at hc36)
      refine WC.sr ?_
      refine WL.r rfl rfl rfl (rd_move rfl rfl) ?_
      refine WL.r rfl rfl rfl (rd_len rfl rfl Try.underlying22) ?_
      refine WL.r rfl rfl rfl (rd_eql rfl rfl rfl) ?_
      refine WL.r rfl rfl rfl (rd_move rfl rfl) ?_
      refine WL.bool 43 rfl (fun hg43 => ?_) (fun hg43 => ?_)
      · (try simp only [decide_eq_true_eq, decide_eq_false_iff_not, Bool.not_eq_true', Bool.not_eq_false', Bool.not_not, Int.not_lt, Int.not_le] at hg43)
        refine WL.r rfl rfl rfl (ld rfl rfl .tc Try.underlying9 rfl (by rfl)) ?_
        refine WL.r rfl rfl rfl (rd_move rfl rfl) ?_
        refine WL.r rfl rfl rfl (rd_seq rfl rfl rfl) ?_
        refine WL.r rfl rfl rfl (rd_pickt rfl rfl rfl) ?_
        refine WL.r rfl rfl rfl (rd_assign rfl rfl) ?_
        refine WL.nt ?_
        refine WC.ret ?_
        refine WX.block_ret ?_
        refine WX.then_ret ?_
        exact WX.retN rfl (.tmp rfl .nil) fun w' hS => ⟨by rw [extB, if_neg (by omega), if_pos (by omega)]; simp_all [tup], hS.below⟩
      · (try simp only [decide_eq_true_eq, decide_eq_false_iff_not, Bool.not_eq_true', Bool.not_eq_false', Bool.not_not, Int.not_lt, Int.not_le] at hg43)
        refine WL.s rfl rfl rfl ?_
        refine WL.s rfl rfl rfl ?_
        refine WL.s rfl rfl rfl ?_
        refine WL.r rfl rfl rfl (rd_pickf rfl rfl rfl) ?_
        refine WL.r rfl rfl rfl (rd_assign rfl rfl) ?_
        refine WL.nt ?_
        refine WC.ret ?_
        refine WX.block_ret ?_
        refine WX.then_ret ?_
        exact WX.retN rfl (.tmp rfl .nil) fun w' hS => ⟨by rw [extB, if_neg (by omega), if_pos (by omega)]; simp_all [tup], hS.below⟩
    · (try simp only [decide_eq_true_eq, decide_eq_false_iff_not, Bool.not_eq_true', Bool.not_eq_false', Bool.not_not, Int.not_lt, Int.not_le] at hc36)
      refine WC.skip ?_
      refine WX.block_normal ?_
      refine WX.then_normal ?_
      refine WC.sr ?_
      refine WL.r rfl rfl rfl (rd_move rfl rfl) ?_
      refine WL.g rfl rfl rfl (og_call rfl rfl (by kernel_rfl) (keep_f1 fun w hS => clone_c (by first | exact hS.sl | exact hS.os | exact hS.oc | exact sl_takeM _ hS.sl | exact sl_dropM _ hS.sl | exact sl_cutM _ (by omega) hS.sl | exact sl_nil) (by first | assumption | omega | (simp <;> omega) | (simp; done)) (by first | assumption | omega | (simp <;> omega) | (simp; done)))) ?_
      intro g49
      refine WL.pu ?_
      intro hg49; (try dsimp only at hg49 ⊢)
      refine WL.g rfl rfl rfl (og_alloc rfl (v := (.slice none 0 0)) (cs := [.slice none 0 0]) (by kernel_rfl) rfl) ?_
      intro b11
      refine WL.g0 rfl rfl (st rfl rfl rfl .tc (by kernel_rfl) rfl ?_ rfl) ?_
      · first | decide | (simp; done) | (simp <;> omega)
      intro _
      refine WL.nt ?_
      refine WC.sr ?_
      refine WL.g rfl rfl rfl (og_alloc rfl (v := (.bool false)) (cs := [.bool false]) (by kernel_rfl) rfl) ?_
      intro b12
      refine WL.g0 rfl rfl (st rfl rfl rfl .tc (by kernel_rfl) rfl ?_ rfl) ?_
      · first | decide | (simp; done) | (simp <;> omega)
      intro _
      refine WL.nt ?_
      refine WC.sr ?_
      refine WL.r rfl rfl rfl (rd_mkf rfl rfl rfl) ?_
      refine WL.g rfl rfl rfl (og_alloc rfl (v := .nilFunc) (cs := [.nilFunc]) (by kernel_rfl) rfl) ?_
      intro b13
      refine WL.g0 rfl rfl (st rfl rfl rfl .tc (by kernel_rfl) rfl ?_ rfl) ?_
      · first | decide | (simp; done) | (simp <;> omega)
      intro _
      refine WL.nt ?_
      refine WC.sr ?_
      refine WL.g rfl rfl rfl (og_alloc rfl (v := .nilFunc) (cs := [.nilFunc]) (by kernel_rfl) rfl) ?_
      intro b14
      refine WL.nt ?_
      refine WC.sr ?_
      refine WL.r rfl rfl rfl (rd_mkf rfl rfl rfl) ?_
      refine WL.g0 rfl rfl (st rfl rfl rfl .tc (by kernel_rfl) rfl ?_ rfl) ?_
      · first | decide | (simp; done) | (simp <;> omega)
      intro _
      refine WL.nt ?_
      refine WC.sr ?_
      refine WL.r rfl rfl rfl (ld rfl rfl .tc Try.underlying63 rfl (by rfl)) ?_
      refine WL.r rfl rfl rfl (rd_move rfl rfl) ?_
      refine WL.r rfl rfl rfl (rd_move rfl rfl) ?_
      refine WL.g rfl rfl rfl (og_callv rfl rfl rfl (by kernel_rfl) rfl (keep_st fun w hS => climbE n (s := (pr.length, true)) hS (Nat.le_refl _) (by omega) hmn hn (Nat.le_refl _) hp (by omega) hb hs)) ?_
      intro g56
      refine WL.r rfl rfl rfl (rd_move rfl rfl) ?_
      refine WL.r rfl rfl rfl (rd_extL rfl rfl rfl) ?_
      refine WL.r rfl rfl rfl (rd_extL rfl rfl rfl) ?_
      refine WL.r rfl rfl rfl (rd_assign rfl rfl) ?_
      refine WL.r rfl rfl rfl (rd_assign rfl rfl) ?_
      refine WL.nt ?_
      refine WC.sr ?_
      refine WL.r rfl rfl rfl (ld rfl rfl .tc Try.underlying4 rfl (by rfl)) ?_
      refine WL.r rfl rfl rfl (rd_move rfl rfl) ?_
      refine WL.bool 60 rfl (fun hg60 => ?_) (fun hg60 => ?_)
      · (try simp only [decide_eq_true_eq, decide_eq_false_iff_not, Bool.not_eq_true', Bool.not_eq_false', Bool.not_not, Int.not_lt, Int.not_le] at hg60)
        refine WL.r rfl rfl rfl (ld rfl rfl .tc Try.underlying22 rfl (by rfl)) ?_
        refine WL.r rfl rfl rfl (rd_len rfl rfl Try.underlying22) ?_
        refine WL.r rfl rfl rfl (rd_eql rfl rfl rfl) ?_
        refine WL.r rfl rfl rfl (rd_pickt rfl rfl rfl) ?_
        refine WL.r rfl rfl rfl (rd_move rfl rfl) ?_
        refine WL.bool 65 rfl (fun hg65 => ?_) (fun hg65 => ?_)
        · (try simp only [decide_eq_true_eq, decide_eq_false_iff_not, Bool.not_eq_true', Bool.not_eq_false', Bool.not_not, Int.not_lt, Int.not_le] at hg65)
          refine WL.r rfl rfl rfl (rd_move rfl rfl) ?_
          refine WL.r rfl rfl rfl (ld rfl rfl .tc Try.underlying9 rfl (by rfl)) ?_
          refine WL.r rfl rfl rfl (rd_seq rfl rfl rfl) ?_
          refine WL.r rfl rfl rfl (rd_pickt rfl rfl rfl) ?_
          refine WL.r rfl rfl rfl (rd_move rfl rfl) ?_
          refine WL.bool 70 rfl (fun hg70 => ?_) (fun hg70 => ?_)
          · (try simp only [decide_eq_true_eq, decide_eq_false_iff_not, Bool.not_eq_true', Bool.not_eq_false', Bool.not_not, Int.not_lt, Int.not_le] at hg70)
            refine WL.r rfl rfl rfl (rd_move rfl rfl) ?_
            refine WL.r rfl rfl rfl (rd_move rfl rfl) ?_
            refine WL.r rfl rfl rfl (rd_seq rfl rfl rfl) ?_
            refine WL.r rfl rfl rfl (rd_pickt rfl rfl rfl) ?_
            refine WL.r rfl rfl rfl (rd_assign rfl rfl) ?_
            refine WL.nt ?_
            refine WC.ret ?_
            exact WX.retN rfl (.tmp rfl .nil) fun w' hS => ⟨by rw [extB, if_neg (by omega), if_neg (by omega), extR]; simp_all [tup], hS.below⟩
          · (try simp only [decide_eq_true_eq, decide_eq_false_iff_not, Bool.not_eq_true', Bool.not_eq_false', Bool.not_not, Int.not_lt, Int.not_le] at hg70)
            refine WL.s rfl rfl rfl ?_
            refine WL.s rfl rfl rfl ?_
            refine WL.s rfl rfl rfl ?_
            refine WL.r rfl rfl rfl (rd_pickf rfl rfl rfl) ?_
            refine WL.r rfl rfl rfl (rd_assign rfl rfl) ?_
            refine WL.nt ?_
            refine WC.ret ?_
            exact WX.retN rfl (.tmp rfl .nil) fun w' hS => ⟨by rw [extB, if_neg (by omega), if_neg (by omega), extR]; simp_all [tup], hS.below⟩
        · (try simp only [decide_eq_true_eq, decide_eq_false_iff_not, Bool.not_eq_true', Bool.not_eq_false', Bool.not_not, Int.not_lt, Int.not_le] at hg65)
          refine WL.s rfl rfl rfl ?_
          refine WL.s rfl rfl rfl ?_
          refine WL.s rfl rfl rfl ?_
          refine WL.r rfl rfl rfl (rd_pickf rfl rfl rfl) ?_
          refine WL.r rfl rfl rfl (rd_move rfl rfl) ?_
          refine WL.s rfl rfl rfl ?_
          refine WL.s rfl rfl rfl ?_
          refine WL.s rfl rfl rfl ?_
          refine WL.r rfl rfl rfl (rd_pickf rfl rfl rfl) ?_
          refine WL.r rfl rfl rfl (rd_assign rfl rfl) ?_
          refine WL.nt ?_
          refine WC.ret ?_
          exact WX.retN rfl (.tmp rfl .nil) fun w' hS => ⟨by rw [extB, if_neg (by omega), if_neg (by omega), extR]; simp_all [tup], hS.below⟩
      · (try simp only [decide_eq_true_eq, decide_eq_false_iff_not, Bool.not_eq_true', Bool.not_eq_false', Bool.not_not, Int.not_lt, Int.not_le] at hg60)
        refine WL.s rfl rfl rfl ?_
        refine WL.s rfl rfl rfl ?_
        refine WL.s rfl rfl rfl ?_
        refine WL.r rfl rfl rfl (rd_pickf rfl rfl rfl) ?_
        refine WL.r rfl rfl rfl (rd_move rfl rfl) ?_
        refine WL.s rfl rfl rfl ?_
        refine WL.s rfl rfl rfl ?_
        refine WL.s rfl rfl rfl ?_
        refine WL.r rfl rfl rfl (rd_pickf rfl rfl rfl) ?_
        refine WL.r rfl rfl rfl (rd_move rfl rfl) ?_
        refine WL.s rfl rfl rfl ?_
        refine WL.s rfl rfl rfl ?_
        refine WL.s rfl rfl rfl ?_
        refine WL.r rfl rfl rfl (rd_pickf rfl rfl rfl) ?_
        refine WL.r rfl rfl rfl (rd_assign rfl rfl) ?_
        refine WL.nt ?_
        refine WC.ret ?_
        exact WX.retN rfl (.tmp rfl .nil) fun w' hS => ⟨by rw [extB, if_neg (by omega), if_neg (by omega), extR]; simp_all [tup], hS.below⟩

theorem popS_snoc (pr xs : List Bs) (x : Bs) (k : Nat) (hk : k ≤ pr.length) (h : pr.take k = xs ++ [x]) : popS pr (k, true) = (x, (k - 1, true)) ∧ pr.take (k - 1) = xs ∧ k = xs.length + 1 := by
  have hl := congrArg List.length h
  simp at hl
  have hk1 : k = xs.length + 1 := by omega
  subst hk1
  refine ⟨?_, ?_, rfl⟩
  · unfold popS
    rw [if_neg (by simp)]
    simp only [Nat.add_sub_cancel]
    have h1 := congrArg (fun l => l[xs.length]?) h
    simp at h1
    simp [List.getD, h1]
  · have h1 := congrArg (fun l => l.take xs.length) h
    simp only [List.take_take, Nat.min_eq_left (Nat.le_succ _)] at h1
    simpa using h1
theorem betw_cases (l : List Bs) (m : Nat) (wh : Bool) (h2 : l.length ≤ 1000000) (hm0 : 0 < m) (hm : m ≤ l.length) (hne : m ≠ l.length) :
    betw l m wh = if m ≤ half l.length then betw (l.take (half l.length)) m wh ++ [root (l.drop (half l.length))] else betw (l.drop (half l.length)) (m - half l.length) false ++ [root (l.take (half l.length))] := by
  rw [betw_eq l m wh h2 hm0 hm, if_neg hne]
theorem half_same (m n : Nat) (hn1 : 2 ≤ n) (hn2 : n ≤ 1000000) (h1 : half n < m) (h2 : m ≤ n) : half m = half n := by
  have hh := half_spec n (by omega) (by omega)
  have key : ∀ f k, 0 < k → k < m → halfF f n k < m → halfF f m k = halfF f n k := by
    intro f
    induction f with
    | zero => intro k _ _ _; rfl
    | succ f ih =>
      intro k hk hkm hlt
      by_cases hc : 2 * k < n
      · rw [halfF_turn f n k hc] at hlt ⊢
        have : 2 * k ≤ halfF f n (2 * k) := (by
          have mono : ∀ f k, k ≤ halfF f n k := by
            intro f; induction f with
            | zero => intro k; exact Nat.le_refl _
            | succ f ih => intro k; by_cases hc : 2 * k < n
                           · rw [halfF_turn f n k hc]; exact Nat.le_trans (by omega) (ih (2 * k))
                           · rw [halfF_stop _ n k (by omega)]; exact Nat.le_refl _
          exact mono f (2 * k))
        rw [halfF_turn f m k (by omega)]
        exact ih (2 * k) (by omega) (by omega) hlt
      · rw [halfF_stop _ n k (by omega), halfF_stop _ m k (by omega)]
  exact key 62 1 (by omega) (by omega) h1
theorem climbS_betw (before : Bs) (pr : List Bs) : ∀ (f : Nat) (l : List Bs) (m : Nat) (wh : Bool) (k : Nat) (pre : List Bs), l.length ≤ f → l.length ≤ 1000000 → 0 < m → m ≤ l.length → (wh = true → before = root (l.take m)) → k ≤ pr.length → pr.take k = pre ++ betw l m wh →
    climbS before pr f m l.length wh (k, true) = ((root (l.take m), root l), (pre.length, true))
  | 0, l, m, wh, k, pre, hf, _, hm0, hm, _, _, _ => by omega
  | f + 1, l, m, wh, k, pre, hf, hl, hm0, hm, hb, hk, ht => by
    unfold climbS
    rw [if_neg (by simp)]
    by_cases hmn : m = l.length
    · rw [if_pos hmn]
      have htm : l.take m = l := List.take_of_length_le (by omega)
      rw [betw_eq l m wh hl hm0 hm, if_pos hmn] at ht
      cases wh with
      | true =>
        rw [if_pos rfl, htm, hb rfl, htm]
        have := congrArg List.length ht
        simp at this
        rw [show k = pre.length by omega]
      | false =>
        simp only [Bool.false_eq_true, if_false] at ht ⊢
        obtain ⟨h1, _, h3⟩ := popS_snoc pr pre (root l) k hk ht
        rw [h1, htm, h3]; simp
    · rw [if_neg hmn]
      have hh := half_spec l.length (by omega) (by omega)
      rw [betw_cases l m wh hl hm0 hm hmn] at ht
      by_cases hmk : m ≤ half l.length
      · rw [if_pos hmk] at ht ⊢
        rw [← List.append_assoc] at ht
        obtain ⟨h1, h2, h3⟩ := popS_snoc pr _ _ k hk ht
        have hlen : (l.take (half l.length)).length = half l.length := by simp; omega
        have htt : (l.take (half l.length)).take m = l.take m := by rw [List.take_take, Nat.min_eq_left hmk]
        have ih := climbS_betw before pr f (l.take (half l.length)) m wh (k - 1) pre (by omega) (by omega) hm0 (by omega) (fun h => by rw [htt]; exact hb h) (by omega) h2
        rw [hlen] at ih
        rw [h1]; dsimp only; rw [ih, htt, ← root_two l (by omega) hl]
      · rw [if_neg hmk] at ht ⊢
        rw [← List.append_assoc] at ht
        obtain ⟨h1, h2, h3⟩ := popS_snoc pr _ _ k hk ht
        have hlen : (l.drop (half l.length)).length = l.length - half l.length := by simp
        have ih := climbS_betw before pr f (l.drop (half l.length)) (m - half l.length) false (k - 1) pre (by omega) (by omega) (by omega) (by omega) (fun h => by cases h) (by omega) h2
        rw [hlen] at ih
        have hm2 : (l.take m).length = m := by simp; omega
        have hrm : root (l.take m) = nodeH (root (l.take (half l.length))) (root ((l.drop (half l.length)).take (m - half l.length))) := by
          rw [root_two (l.take m) (by omega) (by omega), hm2, half_same m l.length (by omega) hl (by omega) hm, List.take_take, Nat.min_eq_left (by omega), List.drop_take]
        rw [h1]; dsimp only; rw [ih, hrm, ← root_two l (by omega) hl]
theorem climbS_cnt (before : Bs) (pr : List Bs) : ∀ (f : Nat) (l : List Bs) (m : Nat) (wh : Bool) (k : Nat), l.length ≤ f → l.length ≤ 1000000 → 0 < m → m ≤ l.length → (betw l m wh).length ≤ k →
    (climbS before pr f m l.length wh (k, true)).2 = (k - (betw l m wh).length, true)
  | 0, l, m, wh, k, hf, _, hm0, hm, _ => by omega
  | f + 1, l, m, wh, k, hf, hl, hm0, hm, hk => by
    have hpop : k ≠ 0 → (popS pr (k, true)).2 = (k - 1, true) := fun h => by unfold popS; rw [if_neg h]
    unfold climbS
    rw [if_neg (by simp)]
    by_cases hmn : m = l.length
    · rw [if_pos hmn]
      rw [betw_eq l m wh hl hm0 hm, if_pos hmn] at hk ⊢
      cases wh with
      | true => simp
      | false =>
        simp only [Bool.false_eq_true, if_false, List.length_singleton] at hk ⊢
        rw [hpop (by omega)]
    · rw [if_neg hmn]
      have hh := half_spec l.length (by omega) (by omega)
      rw [betw_cases l m wh hl hm0 hm hmn] at hk ⊢
      by_cases hmk : m ≤ half l.length
      · rw [if_pos hmk] at hk ⊢
        rw [if_pos hmk]
        simp only [List.length_append, List.length_singleton] at hk ⊢
        have hlen : (l.take (half l.length)).length = half l.length := by simp; omega
        have ih := climbS_cnt before pr f (l.take (half l.length)) m wh (k - 1) (by omega) (by omega) hm0 (by omega) (by omega)
        rw [hlen] at ih
        rw [hpop (by omega), ih]
        congr 1; omega
      · rw [if_neg hmk] at hk ⊢
        rw [if_neg hmk]
        simp only [List.length_append, List.length_singleton] at hk ⊢
        have hlen : (l.drop (half l.length)).length = l.length - half l.length := by simp
        have ih := climbS_cnt before pr f (l.drop (half l.length)) (m - half l.length) false (k - 1) (by omega) (by omega) (by omega) (by omega) (by omega)
        rw [hlen] at ih
        rw [hpop (by omega), ih]
        congr 1; omega
theorem grow_yes (l : List Bs) (m : Nat) (hl : l.length ≤ 1000000) (hm : m ≤ l.length) : extB (root (l.take m)) m (root l) l.length (betwR l m).1 = true := by
  unfold extB
  by_cases h0 : m = 0
  · subst h0
    rw [if_pos rfl, betwR, if_neg (by omega), if_pos (by omega)]; simp [root_nil]
  · rw [if_neg h0]
    by_cases hn : m = l.length
    · rw [if_pos hn, betwR, if_neg (by omega), if_pos (by omega), List.take_of_length_le (by omega)]; simp
    · rw [if_neg hn, betwR, if_neg (by omega), if_neg (by omega)]
      have h := climbS_betw (root (l.take m)) (betw l m true) l.length l m true (betw l m true).length [] (Nat.le_refl _) hl (by omega) hm (fun _ => rfl) (Nat.le_refl _) (by simp)
      simp only [Int.toNat_natCast]
      rw [h]; simp [extR]
theorem grow_no (l : List Bs) (m : Nat) (x : Bs) (hl : l.length ≤ 1000000) (hm : m ≤ l.length) : extB (root (l.take m)) m (root l) l.length ((betwR l m).1 ++ [x]) = false := by
  unfold extB
  by_cases h0 : m = 0
  · subst h0; simp
  · rw [if_neg h0]
    by_cases hn : m = l.length
    · rw [if_pos hn]; simp
    · rw [if_neg hn, betwR, if_neg (by omega), if_neg (by omega)]
      simp only [Int.toNat_natCast]
      have h := climbS_cnt (root (l.take m)) (betw l m true ++ [x]) l.length l m true (betw l m true ++ [x]).length (Nat.le_refl _) hl (by omega) hm (by simp)
      have h1 := congrArg Prod.fst h
      simp only [List.length_append, List.length_singleton] at h1 ⊢
      simp only [extR, h1]
      simp
theorem betwR_two (l : List Bs) (m : Nat) (hm : m ≤ l.length) : (betwR l m).2 = 0 := by
  rw [betwR, if_neg (by omega)]; split <;> rfl
theorem betw_small (l : List Bs) (m : Nat) (wh : Bool) (h2 : l.length ≤ 1000000) (hm0 : 0 < m) (hm : m ≤ l.length) : ∀ s ∈ betw l m wh, s.length ≤ 300000 := by
  have key : ∀ n (l : List Bs) m wh, l.length = n → l.length ≤ 1000000 → 0 < m → m ≤ l.length → ∀ s ∈ betw l m wh, s.length ≤ 300000 := by
    intro n
    induction n using Nat.strongRecOn with
    | _ n ih =>
      intro l m wh hn hl hm0 hm s hs
      by_cases hmn : m = l.length
      · rw [betw_eq l m wh hl hm0 hm, if_pos hmn] at hs
        split at hs
        · cases hs
        · simp only [List.mem_singleton] at hs; subst hs; rw [root_len l hl]; omega
      · have hh := half_spec l.length (by omega) (by omega)
        rw [betw_cases l m wh hl hm0 hm hmn] at hs
        split at hs
        · rcases List.mem_append.1 hs with hs | hs
          · exact ih (l.take (half l.length)).length (by simp; omega) _ m wh rfl (by simp; omega) hm0 (by simp; omega) s hs
          · simp only [List.mem_singleton] at hs; subst hs; rw [root_len _ (by simp; omega)]; omega
        · rcases List.mem_append.1 hs with hs | hs
          · exact ih (l.drop (half l.length)).length (by simp; omega) _ _ false rfl (by simp; omega) (by omega) (by simp; omega) s hs
          · simp only [List.mem_singleton] at hs; subst hs; rw [root_len _ (by simp; omega)]; omega
  exact key _ l m wh rfl h2 hm0 hm
theorem betwR_small (l : List Bs) (m : Nat) (hl : l.length ≤ 1000000) (hm : m ≤ l.length) : ∀ s ∈ (betwR l m).1, s.length ≤ 300000 := by
  rw [betwR, if_neg (by omega)]
  split
  · intro s h; cases h
  · simp only [Int.toNat_natCast]; exact betw_small l m true hl (by omega) hm
theorem betwR_len (l : List Bs) (m : Nat) (hl : l.length ≤ 1000000) (hm : m ≤ l.length) : (betwR l m).1.length ≤ l.length := by
  rw [betwR, if_neg (by omega)]
  split
  · simp
  · simp only [Int.toNat_natCast]; exact betw_len l _ _ (by omega) (by omega) (by omega)

theorem grows_c {l : List Bs} {a : Option Addr} {cap : Nat} {w : World} {ok : Nat → Prop} (hF1 : (Fact.sl a (strs l)).holds ok w) (hcap : l.length ≤ cap) :
    Calls Try.prog 9 #[.slice a l.length cap] w fun e w' => e = .returned (.bool true) ∧ Below w.heap.size w w' := by
  refine enter (S := St (fun _ => True) w [] [Fact.sl a (strs l)]) (L := [(0, .slice a l.length cap)]) Try.func9 rfl Try.ntmps9 rfl (args_cons rfl (args_nil _)) (St.start (fun _ _ => trivial) (facts_cons (fact_any hF1) facts_nil)) ?_
  refine WC.sr ?_
  refine WL.r rfl rfl rfl (rd_assign rfl rfl) ?_
  refine WL.nt ?_
  refine WC.seq ?_
  refine WC.sr ?_
  refine WL.r rfl rfl rfl (rd_move rfl rfl) ?_
  refine WL.g rfl rfl rfl (og_call rfl rfl (by kernel_rfl) (keep_val fun w hS => few34_c (by first | exact hS.sl | exact hS.os | exact hS.oc | exact sl_takeM _ hS.sl | exact sl_dropM _ hS.sl | exact sl_cutM _ (by omega) hS.sl | exact sl_nil) (by first | assumption | omega | (simp <;> omega) | (simp; done)))) ?_
  intro _
  refine WL.r rfl rfl rfl (rd_not rfl rfl) ?_
  refine WL.r rfl rfl rfl (rd_move rfl rfl) ?_
  refine WL.bool 11 rfl (fun hg11 => ?_) (fun hg11 => ?_)
  · (try simp only [decide_eq_true_eq, decide_eq_false_iff_not, Bool.not_eq_true', Bool.not_eq_false', Bool.not_not, Int.not_lt, Int.not_le] at hg11)
    refine WL.s rfl rfl rfl ?_
    refine WL.s rfl rfl rfl ?_
    refine WL.s rfl rfl rfl ?_
    refine WL.r rfl rfl rfl (rd_pickt rfl rfl rfl) ?_
    refine WL.nt ?_
    refine WC.cond rfl (fun _ => ?_) (fun h => by cases h)
    refine WC.sr ?_
    refine WL.g rfl rfl rfl (og_call rfl rfl (by kernel_rfl) (keep_val fun w hS => awake34_c)) ?_
    intro _
    refine WL.r rfl rfl rfl (rd_assign rfl rfl) ?_
    refine WL.nt ?_
    refine WC.ret ?_
    refine WX.then_ret ?_
    exact WX.retN rfl (.tmp rfl .nil) fun w' hS => ⟨by first | rfl | (simp [*]; done), hS.below⟩
  · (try simp only [decide_eq_true_eq, decide_eq_false_iff_not, Bool.not_eq_true', Bool.not_eq_false', Bool.not_not, Int.not_lt, Int.not_le] at hg11)
    refine WL.r rfl rfl rfl (rd_move rfl rfl) ?_
    refine WL.r rfl rfl rfl (rd_len rfl rfl Try.underlying22) ?_
    refine WL.r rfl rfl rfl (rd_gtr rfl rfl rfl) ?_
    refine WL.r rfl rfl rfl (rd_pickf rfl rfl rfl) ?_
    refine WL.nt ?_
    refine WC.cond rfl (fun hc15 => ?_) (fun hc15 => ?_)
    · (try simp only [decide_eq_true_eq, decide_eq_false_iff_not, Bool.not_eq_true', Bool.not_eq_false', Bool.not_not, Int.not_lt, Int.not_le] at hc15)
      refine WC.sr ?_
      refine WL.g rfl rfl rfl (og_call rfl rfl (by kernel_rfl) (keep_val fun w hS => awake34_c)) ?_
      intro _
      refine WL.r rfl rfl rfl (rd_assign rfl rfl) ?_
      refine WL.nt ?_
      refine WC.ret ?_
      refine WX.then_ret ?_
      exact WX.retN rfl (.tmp rfl .nil) fun w' hS => ⟨by first | rfl | (simp [*]; done), hS.below⟩
    · (try simp only [decide_eq_true_eq, decide_eq_false_iff_not, Bool.not_eq_true', Bool.not_eq_false', Bool.not_not, Int.not_lt, Int.not_le] at hc15)
      obtain ⟨hl, hs, -⟩ := few_le (l := l) (by simpa using hg11)
      have hrl := root_len l (by omega)
      refine WC.skip ?_
      refine WX.then_normal ?_
      refine WC.sr ?_
      refine WL.r rfl rfl rfl (rd_move rfl rfl) ?_
      refine WL.g rfl rfl rfl (og_call rfl rfl (by kernel_rfl) (keep_val fun w hS => root_c (by first | exact hS.sl | exact hS.os | exact hS.oc | exact sl_takeM _ hS.sl | exact sl_dropM _ hS.sl | exact sl_cutM _ (by omega) hS.sl | exact sl_nil) (by first | assumption | omega | (simp <;> omega) | (simp; done)) (by first | assumption | omega | (simp <;> omega) | (simp; done)) (by first | assumption | omega | (simp <;> omega) | (simp; done)) (by first | assumption | omega | (simp <;> omega) | (simp; done)))) ?_
      intro _
      refine WL.r rfl rfl rfl (rd_assign rfl rfl) ?_
      refine WL.nt ?_
      refine WC.seq ?_
      refine WC.sr ?_
      refine WL.r rfl rfl rfl (rd_assign rfl rfl) ?_
      refine WL.nt ?_
      refine WC.block ?_
      refine WC.loopP (σ := Nat) [(0, _), (3, _)] (fun g => [(4, .int .i64 (g : Int))]) (fun g => g ≤ l.length + 1) (fun g => l.length + 1 - g) (0) (sub_cons rfl (sub_cons rfl (sub_nil _))) (sub_cons rfl (sub_nil _)) (by (try dsimp only); first | assumption | omega | (simp <;> omega) | (simp; done)) ?_
      rintro m hinv1; (try dsimp only at hinv1 ⊢)
      obtain hm := hinv1
      refine WC.seq ?_
      refine WC.sr ?_
      refine WL.r rfl rfl rfl (rd_move rfl rfl) ?_
      refine WL.r rfl rfl rfl (rd_move rfl rfl) ?_
      refine WL.r rfl rfl rfl (rd_len rfl rfl Try.underlying22) ?_
      refine WL.r rfl rfl rfl (rd_leq rfl rfl rfl) ?_
      refine WL.nt ?_
      refine WC.cond rfl (fun hc22 => ?_) (fun hc22 => ?_)
      · (try simp only [decide_eq_true_eq, decide_eq_false_iff_not, Bool.not_eq_true', Bool.not_eq_false', Bool.not_not, Int.not_lt, Int.not_le] at hc22)
        have hb2 := betwR_two l m (by omega)
        have hbs := betwR_small l m (by omega) (by omega)
        have hbl := betwR_len l m (by omega) (by omega)
        have hrm := root_len (l.take m) (by simp; omega)
        have htk : (l.take m).length = m := by simp; omega
        refine WC.skip ?_
        refine WX.then_normal ?_
        refine WC.seq ?_
        refine WC.block ?_
        refine WC.sr ?_
        refine WL.r rfl rfl rfl (rd_move rfl rfl) ?_
        refine WL.r rfl rfl rfl (rd_move rfl rfl) ?_
        refine WL.r rfl rfl rfl (rd_slt rfl rfl rfl Try.underlying22 (by kernel_rfl : _ = some 1) ?_ (by (try simp only [Int.toNat_natCast, Nat.mul_one, Nat.zero_add, Nat.add_zero, Nat.zero_mul, Int.reduceToNat, Nat.reduceAdd, Nat.reduceMul, Nat.reduceSub, Nat.sub_zero]); rfl)) ?_
        · first | assumption | omega | (simp <;> omega) | (simp; done)
        refine WL.g rfl rfl rfl (og_call rfl rfl (by kernel_rfl) (keep_val fun w hS => root_c (l := l.take m) (by first | exact hS.sl | exact hS.os | exact hS.oc | exact sl_takeM _ hS.sl | exact sl_dropM _ hS.sl | exact sl_cutM _ (by omega) hS.sl | exact sl_nil) (by omega) (by intro s h; exact hs s (List.mem_of_mem_take h)) (by omega) (by omega))) ?_
        intro _
        refine WL.r rfl rfl rfl (rd_assign rfl rfl) ?_
        refine WL.nt ?_
        refine WC.sr ?_
        refine WL.r rfl rfl rfl (rd_move rfl rfl) ?_
        refine WL.r rfl rfl rfl (rd_move rfl rfl) ?_
        refine WL.g rfl rfl rfl (og_call rfl rfl (by kernel_rfl) (keep_f1 fun w hS => betw_c (by first | exact hS.sl | exact hS.os | exact hS.oc | exact sl_takeM _ hS.sl | exact sl_dropM _ hS.sl | exact sl_cutM _ (by omega) hS.sl | exact sl_nil) (by first | assumption | omega | (simp <;> omega) | (simp; done)) (by first | assumption | omega | (simp <;> omega) | (simp; done)) (by first | assumption | omega | (simp <;> omega) | (simp; done)) (by first | assumption | omega | (simp <;> omega) | (simp; done)))) ?_
        intro g32
        refine WL.pu ?_
        intro hg32; (try dsimp only at hg32 ⊢)
        refine WL.r rfl rfl rfl (rd_move rfl rfl) ?_
        refine WL.r rfl rfl rfl (rd_extL rfl rfl rfl) ?_
        refine WL.r rfl rfl rfl (rd_extL rfl rfl rfl) ?_
        refine WL.r rfl rfl rfl (rd_assign rfl rfl) ?_
        refine WL.r rfl rfl rfl (rd_assign rfl rfl) ?_
        refine WL.nt ?_
        refine WC.sr ?_
        refine WL.r rfl rfl rfl (rd_move rfl rfl) ?_
        refine WL.r rfl rfl rfl (rd_neq rfl rfl rfl) ?_
        refine WL.set 36 rfl (v' := .bool false) (by exact congrArg Value.bool (by rw [hb2]; rfl)) ?_
        refine WL.r rfl rfl rfl (rd_move rfl rfl) ?_
        refine WL.r rfl rfl rfl (rd_move rfl rfl) ?_
        refine WL.r rfl rfl rfl (rd_move rfl rfl) ?_
        refine WL.r rfl rfl rfl (rd_move rfl rfl) ?_
        refine WL.r rfl rfl rfl (rd_move rfl rfl) ?_
        refine WL.r rfl rfl rfl (rd_len rfl rfl Try.underlying22) ?_
        refine WL.r rfl rfl rfl (rd_move rfl rfl) ?_
        refine WL.g rfl rfl rfl (og_call rfl rfl (by kernel_rfl) (keep_val fun w hS => ext_c (by first | exact hS.sl | exact hS.os | exact hS.oc | exact sl_takeM _ hS.sl | exact sl_dropM _ hS.sl | exact sl_cutM _ (by omega) hS.sl | exact sl_nil) (by first | assumption | omega | (simp <;> omega) | (simp; done)) (by first | assumption | omega | (simp <;> omega) | (simp; done)) (by first | assumption | omega | (simp <;> omega) | (simp; done)) (by first | assumption | omega | (simp <;> omega) | (simp; done)) (by first | assumption | omega | (simp <;> omega) | (simp; done)) (by first | assumption | omega | (simp <;> omega) | (simp; done)) (by first | assumption | omega | (simp <;> omega) | (simp; done)))) ?_
        intro _
        refine WL.set 44 rfl (v' := .bool true) (by exact congrArg Value.bool (grow_yes l m (by omega) (by omega))) ?_
        refine WL.r rfl rfl rfl (rd_not rfl rfl) ?_
        refine WL.r rfl rfl rfl (rd_pickf rfl rfl rfl) ?_
        refine WL.r rfl rfl rfl (rd_move rfl rfl) ?_
        refine WL.r rfl rfl rfl (rd_move rfl rfl) ?_
        refine WL.r rfl rfl rfl (rd_move rfl rfl) ?_
        refine WL.r rfl rfl rfl (rd_move rfl rfl) ?_
        refine WL.r rfl rfl rfl (rd_move rfl rfl) ?_
        refine WL.r rfl rfl rfl (rd_len rfl rfl Try.underlying22) ?_
        refine WL.g rfl rfl rfl (og_bs1 rfl rfl Try.underlying22 (by kernel_rfl : _ = some (some (.string (S [])), 1, 16)) rfl (by simp only [List.map]; rfl) rfl rfl ?_ (by decide)) ?_
        · simp [Value.cells]
        intro b53
        refine WL.r rfl rfl rfl (rd_move rfl rfl) ?_
        first
          | (refine WL.g rfl rfl rfl (appg rfl Try.underlying22 (by kernel_rfl : _ = some (some (.string (S [])), 1, 16)) rfl .tc rfl rfl (fun w hS => by first | exact hS.os | exact hS.sl | exact hS.oc) (by first | rfl | simp) ?_ ?_) ?_; (focus ((refine ⟨?_, ?_, ?_, ?_⟩ <;> (try simp) <;> omega))); (focus (first | (simp [Value.oneCell']; done) | (intro u hu; obtain ⟨_, _, rfl⟩ := List.mem_map.1 hu; rfl))))
          | (refine WL.g rfl rfl rfl (appf rfl Try.underlying22 (by kernel_rfl : _ = some (some (.string (S [])), 1, 16)) rfl .tc rfl rfl (fun w hS => by first | exact hS.os | exact hS.sl | exact hS.oc) (by first | rfl | simp) ?_ ?_) ?_; (focus ((refine ⟨?_, ?_, ?_, ?_⟩ <;> (try simp) <;> omega))); (focus (first | (simp [Value.oneCell']; done) | (intro u hu; obtain ⟨_, _, rfl⟩ := List.mem_map.1 hu; rfl))))
        rintro ⟨o55, c55, s55⟩
        refine WL.pu ?_
        intro hg55; (try dsimp only at hg55 ⊢)
        refine WL.r rfl rfl rfl (rd_move rfl rfl) ?_
        refine WL.g rfl rfl rfl (og_bs1 rfl rfl Try.underlying22 (by kernel_rfl : _ = some (some (.string (S [])), 1, 16)) rfl (by simp only [List.map]; rfl) rfl rfl ?_ (by decide)) ?_
        · simp [Value.cells]
        intro b57
        first
          | (refine WL.g rfl rfl rfl (appg rfl Try.underlying22 (by kernel_rfl : _ = some (some (.string (S [])), 1, 16)) rfl .tc rfl rfl (fun w hS => by first | exact hS.os | exact hS.sl | exact hS.oc) (by first | rfl | simp) ?_ ?_) ?_; (focus ((refine ⟨?_, ?_, ?_, ?_⟩ <;> (try simp) <;> omega))); (focus (first | (simp [Value.oneCell']; done) | (intro u hu; obtain ⟨_, _, rfl⟩ := List.mem_map.1 hu; rfl))))
          | (refine WL.g rfl rfl rfl (appf rfl Try.underlying22 (by kernel_rfl : _ = some (some (.string (S [])), 1, 16)) rfl .tc rfl rfl (fun w hS => by first | exact hS.os | exact hS.sl | exact hS.oc) (by first | rfl | simp) ?_ ?_) ?_; (focus ((refine ⟨?_, ?_, ?_, ?_⟩ <;> (try simp) <;> omega))); (focus (first | (simp [Value.oneCell']; done) | (intro u hu; obtain ⟨_, _, rfl⟩ := List.mem_map.1 hu; rfl))))
        rintro ⟨o58, c58, s58⟩
        refine WL.pu ?_
        intro hg58; (try dsimp only at hg58 ⊢)
        refine WL.g rfl rfl rfl (og_call rfl rfl (by kernel_rfl) (keep_val fun w hS => ext_c (pr := (betwR l m).1 ++ [root l]) (by have := hS.oc (ob := o58); simpa [strs] using this) (by first | assumption | omega | (simp <;> omega) | (simp; done)) (by first | assumption | omega | (simp <;> omega) | (simp; done)) (by first | assumption | omega | (simp <;> omega) | (simp; done)) (by intro s h; rcases List.mem_append.1 h with h | h; exact hbs s h; simp at h; subst h; omega) (by first | assumption | omega | (simp <;> omega) | (simp; done)) (by first | assumption | omega | (simp <;> omega) | (simp; done)) (by first | assumption | omega | (simp <;> omega) | (simp; done)))) ?_
        intro _
        refine WL.set 59 rfl (v' := .bool false) (by exact congrArg Value.bool (grow_no l m (root l) (by omega) (by omega))) ?_
        refine WL.r rfl rfl rfl (rd_pickf rfl rfl rfl) ?_
        refine WL.nt ?_
        refine WC.cond rfl (fun h => by cases h) (fun _ => ?_)
        refine WC.skip ?_
        refine WX.block_normal ?_
        refine WX.then_normal ?_
        refine WC.region ?_
        refine WL.r rfl rfl rfl (rd_move rfl rfl) ?_
        first
          | (refine WL.r rfl rfl rfl (rd_add64nl rfl rfl rfl ?_) ?_; (focus (first | assumption | omega | (simp <;> omega) | (simp; done))))
          | (refine WL.r rfl rfl rfl (rd_add64 rfl rfl rfl ?_) ?_; (focus (first | assumption | omega | (simp <;> omega) | (simp; done))))
        refine WL.r rfl rfl rfl (rd_assign rfl rfl) ?_
        refine WL.nil ?_
        refine WX.loopP (m + 1) (by (try dsimp only); omega) (sub_cons rfl (sub_cons rfl (sub_nil _))) (by refine (sub_cons ?_ (sub_nil _)) <;> (first | rfl | (simp only [List.length_append, List.length_cons, List.length_nil, Nat.zero_add]; rfl) | (dsimp only; first | rfl | (congr 2; omega) | (congr 3; omega)))) ?_ (by first | exact fun _ h => h | exact st_sub)
        (try dsimp only)
        first | assumption | omega | (simp <;> omega) | (simp; done)
      · (try simp only [decide_eq_true_eq, decide_eq_false_iff_not, Bool.not_eq_true', Bool.not_eq_false', Bool.not_not, Int.not_lt, Int.not_le] at hc22)
        refine WC.exit ?_
        refine WX.then_exit ?_
        refine WX.then_exit ?_
        refine WX.block_exit ?_
        refine WX.then_normal ?_
        refine WC.sr ?_
        refine WL.g rfl rfl rfl (og_call rfl rfl (by kernel_rfl) (keep_val fun w hS => awake34_c)) ?_
        intro _
        refine WL.r rfl rfl rfl (rd_assign rfl rfl) ?_
        refine WL.nt ?_
        refine WC.ret ?_
        exact WX.retN rfl (.tmp rfl .nil) fun w' hS => ⟨by first | rfl | (simp [*]; done), hS.below⟩
end Go.Proofs.Ytenjafedpcpoaaa
