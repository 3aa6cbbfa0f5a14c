/-
  The strings that are hashed on the way to a root; MerkleBinds.
-/
import Derived.Test.YtenjafedpcpoaaaMer9
namespace Go.Proofs.Ytenjafedpcpoaaa
set_option linter.unusedSimpArgs false
set_option linter.unusedVariables false
open Go.RowKit

abbrev bools (l : List Bool) : List Value := l.map fun b => .bool b
theorem rhalf_c {n : Nat} {w : World} (h2 : 2 ≤ n) (hn : n ≤ 2305843009213693952) :
    Calls Try.prog 29 #[.int .i64 (n : Int)] w fun e w' => e = .returned (.int .i64 (half n : Int)) ∧ Below w.heap.size w w' :=
  rhalf_ok n h2 hn w
theorem inps_small (p : List Bs) (hp : ∀ s ∈ p, s.length ≤ 300000) (leaf : Bs) (hl : leaf.length ≤ 900000) : ∀ (zs : List (Bool × Bs)) (s : Bs), (∀ z ∈ zs, z.2 ∈ p) → s.length ≤ 900001 → ∀ x ∈ inps s zs, x.length ≤ 900001
  | [], s, _, hs, x, hx => by simp [inps] at hx; subst hx; exact hs
  | z :: zs, s, hz, hs, x, hx => by
    simp only [inps, List.mem_cons] at hx
    rcases hx with rfl | hx
    · exact hs
    · refine inps_small p hp leaf hl zs _ (fun q hq => hz q (by simp [hq])) ?_ x hx
      have h1 := hp _ (hz z (by simp))
      unfold up; split <;> simp [sha_len] <;> omega
theorem ways_take (n i : Nat) (p : List Bs) (j : Nat) (hj : j < p.length) (hj2 : j < (lefts n i).length) : (ways n i p).take (j + 1) = (ways n i p).take j ++ [((lefts n i).getD ((lefts n i).length - 1 - j) default, p.getD j default)] := by
  have h1 : j < (ways n i p).length := by rw [ways, List.length_zip]; simp; omega
  rw [List.take_succ_eq_append_getElem h1]
  congr 1
  simp only [ways, List.getElem_zip, List.getElem_reverse]
  congr 2
  · simp [List.getD, show (lefts n i).length - 1 - j < (lefts n i).length by omega]
  · simp [List.getD, hj]
theorem ways_all (n i : Nat) (p : List Bs) (j : Nat) (h : p.length ≤ j ∨ (lefts n i).length ≤ j) : (ways n i p).take j = ways n i p := List.take_of_length_le (by rw [ways, List.length_zip]; simp; omega)
theorem inps_getD (s : Bs) (zs : List (Bool × Bs)) : (inps s zs).getD zs.length default = zs.foldl up s := by
  have := inps_last zs s
  simp [List.getD, this]

def WAY (n i : Nat) (leaf : Bs) (p : List Bs) (j : Nat) : List Bs := inps (0 :: leaf) ((ways n i p).take j)
theorem way_len (n i : Nat) (leaf : Bs) (p : List Bs) (j : Nat) (h1 : j ≤ p.length) (h2 : j ≤ (lefts n i).length) : (WAY n i leaf p j).length = j + 1 := by
  rw [WAY, inps_len, List.length_take, ways, List.length_zip]; simp; omega
theorem way_succ (n i : Nat) (leaf : Bs) (p : List Bs) (j : Nat) (h1 : j < p.length) (h2 : j < (lefts n i).length) :
    WAY n i leaf p (j + 1) = WAY n i leaf p j ++ [up ((WAY n i leaf p j).getD j default) ((lefts n i).getD ((lefts n i).length - 1 - j) default, p.getD j default)] := by
  have hl : ((ways n i p).take j).length = j := by rw [List.length_take, ways, List.length_zip]; simp; omega
  have h3 := inps_getD (0 :: leaf) ((ways n i p).take j)
  rw [hl] at h3
  rw [WAY, ways_take n i p j h1 h2, inps_snoc, WAY, h3]
theorem way_all (n i : Nat) (leaf : Bs) (p : List Bs) (j : Nat) (h : p.length ≤ j ∨ (lefts n i).length ≤ j) : WAY n i leaf p j = inps (0 :: leaf) (ways n i p) := by rw [WAY, ways_all n i p j h]
theorem way_small (n i : Nat) (leaf : Bs) (p : List Bs) (j : Nat) (hs : ∀ s ∈ p, s.length ≤ 300000) (hle : leaf.length ≤ 900000) (k : Nat) : ((WAY n i leaf p j).getD k default).length ≤ 900001 := by
  have h := inps_small p hs leaf hle ((ways n i p).take j) (0 :: leaf) (fun z hz => (List.of_mem_zip (List.mem_of_mem_take hz)).2) (by simp; omega)
  by_cases hk : k < (WAY n i leaf p j).length
  · simp only [List.getD, List.getElem?_eq_getElem hk, Option.getD_some]
    exact h _ (List.getElem_mem hk)
  · simp [List.getD, List.getElem?_eq_none (Nat.le_of_not_lt hk)]; exact Nat.zero_le _
theorem getD_mem {l : List Bs} {j : Nat} (h : j < l.length) : l.getD j default ∈ l := by simp [List.getD, h]
theorem inputs_c {n i : Nat} {leaf : Bs} {p : List Bs} {a : Option Addr} {m cap : Nat} {w : World} {ok : Nat → Prop} (hF1 : (Fact.sl a (strs p)).holds ok w) (hn0 : 0 < n) (hn : n ≤ 1099511627776) (hi : i < n) (hle : leaf.length ≤ 900000) (hs : ∀ s ∈ p, s.length ≤ 300000) (hp : p.length ≤ 1000000) (hm : m = p.length) (hcap : m ≤ cap) :
    Calls Try.prog 21 #[.int .i64 (n : Int), .int .i64 (i : Int), .string (S leaf), .slice a m cap] w fun e w' => ∃ g : Rs, e = .returned (g.val (inps (0 :: leaf) (ways n i p)).length) ∧ g.cap = (inps (0 :: leaf) (ways n i p)).length + g.sp.length ∧ St (fun _ => True) w [g.ent (strs (inps (0 :: leaf) (ways n i p))) 9] [] w' := by
  refine enter (S := St (fun _ => True) w [] [Fact.sl a (strs p)]) (L := [(0, .int .i64 (n : Int)), (1, .int .i64 (i : Int)), (2, .string (S leaf)), (3, .slice a m cap)]) Try.func21 rfl Try.ntmps21 rfl (args_cons rfl (args_cons rfl (args_cons rfl (args_cons rfl (args_nil _))))) (St.start (fun _ _ => trivial) (facts_cons (fact_any hF1) facts_nil)) ?_
  refine WC.sr ?_
  refine WL.r rfl rfl rfl (rd_assign rfl rfl) ?_
  refine WL.nt ?_
  refine WC.sr ?_
  refine WL.r rfl rfl rfl (rd_move rfl rfl) ?_
  refine WL.r rfl rfl rfl (rd_cat rfl rfl rfl ?_) ?_
  · first | ((try simp only [List.length_append, List.length_cons, List.length_nil]); omega) | (simp <;> omega)
  refine WL.g rfl rfl rfl (og_bs1 rfl rfl Try.underlying22 (by kernel_rfl : _ = some (some (.string (S [])), 1, 16)) rfl (by simp only [List.map]; rfl) rfl rfl ?_ (by decide)) ?_
  · simp [Value.cells]
  intro b16
  refine WL.r rfl rfl rfl (rd_assign rfl rfl) ?_
  refine WL.nt ?_
  refine WC.sr ?_
  refine WL.r rfl rfl rfl (rd_assign rfl rfl) ?_
  refine WL.nt ?_
  refine WC.seq ?_
  refine WC.block ?_
  refine WC.loopO (σ := Nat × Nat × (List Bool) × Rs) [(3, _), (8, _), (9, _)] (fun g => [(0, .int .i64 (g.1 : Int)), (1, .int .i64 (g.2.1 : Int)), (10, g.2.2.2.val g.2.2.1.length)]) (fun g => 0 < g.1 ∧ g.1 ≤ n ∧ g.2.1 < g.1 ∧ g.2.2.1 ++ lefts g.1 g.2.1 = lefts n i ∧ g.2.2.2.cap = g.2.2.1.length + g.2.2.2.sp.length ∧ g.2.2.1.length + g.1 ≤ n) (fun g => g.1) (fun g => [g.2.2.2.ent (bools g.2.2.1) 4, ⟨some b16, strs (WAY n i leaf p 0), 9⟩]) (fun g => [Fact.sl a (strs p)]) (n, i, [], ⟨none, 0, []⟩) (sub_cons rfl (sub_cons rfl (sub_cons rfl (sub_nil _)))) (sub_cons rfl (sub_cons rfl (sub_cons rfl (sub_nil _)))) (by (try dsimp only); exact ⟨hn0, Nat.le_refl _, hi, by simp, rfl, by simp⟩) (by exact fun w h => h.nil _) ?_
  rintro ⟨x, y, acc, r⟩ hinv1; (try dsimp only at hinv1 ⊢)
  obtain ⟨hx0, hxn, hyx, hacc, hrc, hal⟩ := hinv1
  refine WC.seq ?_
  refine WC.sr ?_
  refine WL.r rfl rfl rfl (rd_move rfl rfl) ?_
  refine WL.r rfl rfl rfl (rd_gtr rfl rfl rfl) ?_
  refine WL.nt ?_
  refine WC.cond rfl (fun hc18 => ?_) (fun hc18 => ?_)
  · (try simp only [decide_eq_true_eq, decide_eq_false_iff_not, Bool.not_eq_true', Bool.not_eq_false', Bool.not_not, Int.not_lt, Int.not_le] at hc18)
    have hh := half_spec x (by omega) (by omega)
    have hacl : acc.length ≤ 1099511627776 := by omega
    refine WC.skip ?_
    refine WX.then_normal ?_
    refine WC.block ?_
    refine WC.sr ?_
    refine WL.r rfl rfl rfl (rd_move rfl rfl) ?_
    refine WL.g rfl rfl rfl (og_call rfl rfl (by kernel_rfl) (keep_val fun w hS => rhalf_c (by first | assumption | omega | (simp <;> omega) | (simp; done)) (by first | assumption | omega | (simp <;> omega) | (simp; done)))) ?_
    intro _
    refine WL.r rfl rfl rfl (rd_assign rfl rfl) ?_
    refine WL.nt ?_
    refine WC.sr ?_
    refine WL.r rfl rfl rfl (rd_move rfl rfl) ?_
    refine WL.r rfl rfl rfl (rd_move rfl rfl) ?_
    refine WL.r rfl rfl rfl (rd_move rfl rfl) ?_
    refine WL.r rfl rfl rfl (rd_lss rfl rfl rfl) ?_
    refine WL.g rfl rfl rfl (og_bs1 rfl rfl Try.underlying52 (by kernel_rfl : _ = some (some (.bool false), 1, 1)) rfl (by simp only [List.map]; rfl) rfl rfl ?_ (by decide)) ?_
    · simp [Value.cells]
    intro b25
    first
      | (refine WL.g rfl rfl rfl (appg rfl Try.underlying52 (by kernel_rfl : _ = some (some (.bool false), 1, 1)) rfl .tc rfl rfl (fun w hS => by first | exact hS.os | exact hS.sl | exact hS.oc) (by first | rfl | simp) ?_ ?_) ?_; (focus ((refine ⟨?_, ?_, ?_, ?_⟩ <;> (try simp) <;> omega))); (focus (first | (simp [Value.oneCell']; done) | (intro u hu; obtain ⟨_, _, rfl⟩ := List.mem_map.1 hu; rfl))))
      | (refine WL.g rfl rfl rfl (appf rfl Try.underlying52 (by kernel_rfl : _ = some (some (.bool false), 1, 1)) rfl .tc rfl rfl (fun w hS => by first | exact hS.os | exact hS.sl | exact hS.oc) (by first | rfl | simp) ?_ ?_) ?_; (focus ((refine ⟨?_, ?_, ?_, ?_⟩ <;> (try simp) <;> omega))); (focus (first | (simp [Value.oneCell']; done) | (intro u hu; obtain ⟨_, _, rfl⟩ := List.mem_map.1 hu; rfl))))
    rintro ⟨o26, c26, s26⟩
    refine WL.pu ?_
    intro hg26; (try dsimp only at hg26 ⊢)
    refine WL.r rfl rfl rfl (rd_assign rfl rfl) ?_
    refine WL.nt ?_
    refine WC.sr ?_
    refine WL.r rfl rfl rfl (rd_move rfl rfl) ?_
    refine WL.r rfl rfl rfl (rd_move rfl rfl) ?_
    refine WL.r rfl rfl rfl (rd_lss rfl rfl rfl) ?_
    refine WL.nt ?_
    refine WC.cond rfl (fun hc29 => ?_) (fun hc29 => ?_)
    · (try simp only [decide_eq_true_eq, decide_eq_false_iff_not, Bool.not_eq_true', Bool.not_eq_false', Bool.not_not, Int.not_lt, Int.not_le] at hc29)
      refine WC.region ?_
      refine WL.r rfl rfl rfl (rd_move rfl rfl) ?_
      refine WL.r rfl rfl rfl (rd_assign rfl rfl) ?_
      refine WL.nil ?_
      refine WX.block_normal ?_
      have hl := lefts_lt x y (by omega) (by omega) (by omega)
      refine WX.loopO (half x, y, acc ++ [true], ⟨o26, c26, s26⟩) (by dsimp only; omega) (sub_cons rfl (sub_cons rfl (sub_cons rfl (sub_nil _)))) (by refine (sub_cons ?_ (sub_cons ?_ (sub_cons ?_ (sub_nil _)))) <;> (first | rfl | (simp only [List.length_append, List.length_cons, List.length_nil, Nat.zero_add]; rfl) | (dsimp only; first | rfl | (congr 2; omega) | (congr 3; omega)))) ?_ (by intro w h; rw [show bools acc ++ [Value.bool (decide ((y : Int) < (half x : Int)))] = bools (acc ++ [true]) by simp [bools]; omega] at h; exact st_sub _ h)
      (try dsimp only)
      exact ⟨by omega, by omega, by omega, by rw [List.append_assoc]; show acc ++ (true :: lefts (half x) y) = _; rw [← hl]; exact hacc, by simpa using hg26, by simp; omega⟩
    · (try simp only [decide_eq_true_eq, decide_eq_false_iff_not, Bool.not_eq_true', Bool.not_eq_false', Bool.not_not, Int.not_lt, Int.not_le] at hc29)
      have hl := lefts_ge x y (by omega) (by omega) (by omega)
      refine WC.region ?_
      refine WL.r rfl rfl rfl (rd_move rfl rfl) ?_
      refine WL.r rfl rfl rfl (rd_move rfl rfl) ?_
      first
        | (refine WL.r rfl rfl rfl (rd_sub64n rfl rfl rfl ?_) ?_; (focus (first | assumption | omega | (simp <;> omega) | (simp; done))))
        | (refine WL.r rfl rfl rfl (rd_sub64 rfl rfl rfl ?_) ?_; (focus (first | assumption | omega | (simp <;> omega) | (simp; done))))
      refine WL.r rfl rfl rfl (rd_move rfl rfl) ?_
      refine WL.r rfl rfl rfl (rd_move rfl rfl) ?_
      first
        | (refine WL.r rfl rfl rfl (rd_sub64n rfl rfl rfl ?_) ?_; (focus (first | assumption | omega | (simp <;> omega) | (simp; done))))
        | (refine WL.r rfl rfl rfl (rd_sub64 rfl rfl rfl ?_) ?_; (focus (first | assumption | omega | (simp <;> omega) | (simp; done))))
      refine WL.r rfl rfl rfl (rd_assign rfl rfl) ?_
      refine WL.r rfl rfl rfl (rd_assign rfl rfl) ?_
      refine WL.nil ?_
      refine WX.block_normal ?_
      refine WX.loopO (x - half x, y - half x, acc ++ [false], ⟨o26, c26, s26⟩) (by dsimp only; omega) (sub_cons rfl (sub_cons rfl (sub_cons rfl (sub_nil _)))) (by refine (sub_cons ?_ (sub_cons ?_ (sub_cons ?_ (sub_nil _)))) <;> (first | rfl | (simp only [List.length_append, List.length_cons, List.length_nil, Nat.zero_add]; rfl) | (dsimp only; first | rfl | (congr 2; omega) | (congr 3; omega)))) ?_ (by intro w h; rw [show bools acc ++ [Value.bool (decide ((y : Int) < (half x : Int)))] = bools (acc ++ [false]) by simp [bools]; omega] at h; exact st_sub _ h)
      (try dsimp only)
      exact ⟨by omega, by omega, by omega, by rw [List.append_assoc]; show acc ++ (false :: lefts (x - half x) (y - half x)) = _; rw [← hl]; exact hacc, by simpa using hg26, by simp; omega⟩
  · (try simp only [decide_eq_true_eq, decide_eq_false_iff_not, Bool.not_eq_true', Bool.not_eq_false', Bool.not_not, Int.not_lt, Int.not_le] at hc18)
    have hlz : acc = lefts n i := by rw [← hacc, lefts_one x y (by omega), List.append_nil]
    refine WC.exit ?_
    refine WX.then_exit ?_
    refine WX.then_exit ?_
    refine WX.block_exit ?_
    refine WX.then_normal ?_
    refine WC.seq ?_
    refine WC.sr ?_
    refine WL.r rfl rfl rfl (rd_assign rfl rfl) ?_
    refine WL.nt ?_
    refine WC.block ?_
    refine WC.loopO (σ := Nat × Rs) [(3, _), (8, _), (10, _)] (fun g => [(12, .int .i64 (g.1 : Int)), (9, g.2.val (g.1 + 1))]) (fun g => g.1 ≤ p.length ∧ g.1 ≤ acc.length ∧ g.2.cap = g.1 + 1 + g.2.sp.length) (fun g => p.length - g.1) (fun g => [g.2.ent (strs (WAY n i leaf p g.1)) 9, r.ent (bools acc) 4]) (fun g => [Fact.sl a (strs p)]) (0, ⟨some b16, 1, []⟩) (sub_cons rfl (sub_cons rfl (sub_cons rfl (sub_nil _)))) (sub_cons rfl (sub_cons rfl (sub_nil _))) (by (try dsimp only); exact ⟨by omega, by omega, rfl⟩) (by exact fun w h => st_swap h) ?_
    rintro ⟨j, q⟩ hinv2; (try dsimp only at hinv2 ⊢)
    obtain ⟨hj1, hj2, hqc⟩ := hinv2
    have hwl := way_len n i leaf p j hj1 (by rw [← hlz]; exact hj2)
    have hws := way_small n i leaf p j hs hle j
    refine WC.seq ?_
    refine WC.sr ?_
    refine WL.r rfl rfl rfl (rd_move rfl rfl) ?_
    refine WL.r rfl rfl rfl (rd_move rfl rfl) ?_
    refine WL.r rfl rfl rfl (rd_len rfl rfl Try.underlying22) ?_
    refine WL.r rfl rfl rfl (rd_lss rfl rfl rfl) ?_
    refine WL.r rfl rfl rfl (rd_move rfl rfl) ?_
    refine WL.bool 41 rfl (fun hg41 => ?_) (fun hg41 => ?_)
    · (try simp only [decide_eq_true_eq, decide_eq_false_iff_not, Bool.not_eq_true', Bool.not_eq_false', Bool.not_not, Int.not_lt, Int.not_le] at hg41)
      refine WL.r rfl rfl rfl (rd_move rfl rfl) ?_
      refine WL.r rfl rfl rfl (rd_move rfl rfl) ?_
      refine WL.r rfl rfl rfl (rd_len rfl rfl Try.underlying52) ?_
      refine WL.r rfl rfl rfl (rd_lss rfl rfl rfl) ?_
      refine WL.r rfl rfl rfl (rd_pickt rfl rfl rfl) ?_
      refine WL.nt ?_
      refine WC.cond rfl (fun hc46 => ?_) (fun hc46 => ?_)
      · (try simp only [decide_eq_true_eq, decide_eq_false_iff_not, Bool.not_eq_true', Bool.not_eq_false', Bool.not_not, Int.not_lt, Int.not_le] at hc46)
        have hpj := hs _ (getD_mem (l := p) (j := j) (by omega))
        have hsl := sha_len ((WAY n i leaf p j).getD j default)
        have hsu := way_succ n i leaf p j (by omega) (by rw [← hlz]; omega)
        rw [← hlz] at hsu
        refine WC.skip ?_
        refine WX.then_normal ?_
        refine WC.seq ?_
        refine WC.block ?_
        refine WC.sr ?_
        refine WL.r rfl rfl rfl (rd_move rfl rfl) ?_
        refine WL.r rfl rfl rfl (rd_move rfl rfl) ?_
        first
          | (refine WL.r rfl rfl rfl (rd_ia rfl rfl rfl Try.underlying22 (by kernel_rfl : _ = some 1) ?_ (by (try simp only [Int.toNat_natCast, Nat.mul_one, Nat.zero_add, Nat.add_zero, Nat.zero_mul, Int.reduceToNat, Nat.reduceAdd, Nat.reduceMul, Nat.reduceSub, Nat.sub_zero]); rfl)) ?_; (focus (first | assumption | omega | (simp <;> omega) | (simp; done))))
          | (refine WL.r rfl rfl rfl (iaf rfl rfl rfl Try.underlying22 (by kernel_rfl : _ = some 1) ?_ ?_ (by (try simp only [Int.toNat_natCast, Nat.mul_one, Nat.zero_add, Nat.add_zero, Nat.zero_mul, Int.reduceToNat, Nat.reduceAdd, Nat.reduceMul, Nat.reduceSub, Nat.sub_zero]); rfl)) ?_; (focus (first | assumption | omega | (simp <;> omega) | (simp; done))); (focus (first | (rw [List.length_map]; omega) | (rw [flatMap_len _ _ _ (fun _ => rfl)]; omega) | (simp <;> omega))))
          | (refine WL.r rfl rfl rfl (iao rfl rfl rfl Try.underlying22 (by kernel_rfl : _ = some 1) ?_ ?_ (by (try simp only [Int.toNat_natCast, Nat.mul_one, Nat.zero_add, Nat.add_zero, Nat.zero_mul, Int.reduceToNat, Nat.reduceAdd, Nat.reduceMul, Nat.reduceSub, Nat.sub_zero]); rfl)) ?_; (focus (first | assumption | omega | (simp <;> omega) | (simp; done))); (focus (first | (simp <;> omega) | (rw [List.length_append, List.length_map]; omega))))
        first
          | (refine WL.r rfl rfl rfl (ld rfl rfl .tc Try.underlying9 rfl (by rfl)) ?_)
          | (refine WL.r rfl rfl rfl (ldm rfl rfl Try.underlying9 rfl ?_) ?_; (focus (first | assumption | omega | (simp <;> omega) | (simp; done))))
          | (refine WL.r rfl rfl rfl (ldom rfl rfl Try.underlying9 rfl ?_) ?_; (focus (first | assumption | omega | (simp <;> omega) | (simp; done))))
        refine WL.g rfl rfl rfl (og_call rfl rfl (by kernel_rfl) (keep_val fun w hS => sum_c (by first | assumption | omega | (simp <;> omega) | (simp; done)))) ?_
        intro _
        refine WL.r rfl rfl rfl (rd_assign rfl rfl) ?_
        refine WL.nt ?_
        refine WC.sr ?_
        refine WL.r rfl rfl rfl (rd_move rfl rfl) ?_
        refine WL.r rfl rfl rfl (rd_move rfl rfl) ?_
        refine WL.r rfl rfl rfl (rd_len rfl rfl Try.underlying52) ?_
        first
          | (refine WL.r rfl rfl rfl (rd_sub64nl rfl rfl rfl ?_) ?_; (focus (first | assumption | omega | (simp <;> omega) | (simp; done))))
          | (refine WL.r rfl rfl rfl (rd_sub64 rfl rfl rfl ?_) ?_; (focus (first | assumption | omega | (simp <;> omega) | (simp; done))))
        refine WL.r rfl rfl rfl (rd_move rfl rfl) ?_
        first
          | (refine WL.r rfl rfl rfl (rd_sub64n rfl rfl rfl ?_) ?_; (focus (first | assumption | omega | (simp <;> omega) | (simp; done))))
          | (refine WL.r rfl rfl rfl (rd_sub64 rfl rfl rfl ?_) ?_; (focus (first | assumption | omega | (simp <;> omega) | (simp; done))))
        first
          | (refine WL.r rfl rfl rfl (rd_ia rfl rfl rfl Try.underlying52 (by kernel_rfl : _ = some 1) ?_ (by (try simp only [Int.toNat_natCast, Nat.mul_one, Nat.zero_add, Nat.add_zero, Nat.zero_mul, Int.reduceToNat, Nat.reduceAdd, Nat.reduceMul, Nat.reduceSub, Nat.sub_zero]); rfl)) ?_; (focus (first | assumption | omega | (simp <;> omega) | (simp; done))))
          | (refine WL.r rfl rfl rfl (iaf rfl rfl rfl Try.underlying52 (by kernel_rfl : _ = some 1) ?_ ?_ (by (try simp only [Int.toNat_natCast, Nat.mul_one, Nat.zero_add, Nat.add_zero, Nat.zero_mul, Int.reduceToNat, Nat.reduceAdd, Nat.reduceMul, Nat.reduceSub, Nat.sub_zero]); rfl)) ?_; (focus (first | assumption | omega | (simp <;> omega) | (simp; done))); (focus (first | (rw [List.length_map]; omega) | (rw [flatMap_len _ _ _ (fun _ => rfl)]; omega) | (simp <;> omega))))
          | (refine WL.r rfl rfl rfl (iao rfl rfl rfl Try.underlying52 (by kernel_rfl : _ = some 1) ?_ ?_ (by (try simp only [Int.toNat_natCast, Nat.mul_one, Nat.zero_add, Nat.add_zero, Nat.zero_mul, Int.reduceToNat, Nat.reduceAdd, Nat.reduceMul, Nat.reduceSub, Nat.sub_zero]); rfl)) ?_; (focus (first | assumption | omega | (simp <;> omega) | (simp; done))); (focus (first | (simp <;> omega) | (rw [List.length_append, List.length_map]; omega))))
        first
          | (refine WL.r rfl rfl rfl (ld rfl rfl .tc Try.underlying4 rfl (by rfl)) ?_)
          | (refine WL.r rfl rfl rfl (ldm rfl rfl Try.underlying4 rfl ?_) ?_; (focus (first | assumption | omega | (simp <;> omega) | (simp; done))))
          | (refine WL.r rfl rfl rfl (ldom rfl rfl Try.underlying4 rfl ?_) ?_; (focus (first | assumption | omega | (simp <;> omega) | (simp; done))))
        refine WL.nt ?_
        refine WC.cond rfl (fun hc61 => ?_) (fun hc61 => ?_)
        · (try simp only [decide_eq_true_eq, decide_eq_false_iff_not, Bool.not_eq_true', Bool.not_eq_false', Bool.not_not, Int.not_lt, Int.not_le] at hc61)
          refine WC.region ?_
          refine WL.r rfl rfl rfl (rd_move rfl rfl) ?_
          refine WL.r rfl rfl rfl (rd_move rfl rfl) ?_
          refine WL.r rfl rfl rfl (rd_cat rfl rfl rfl ?_) ?_
          · first | ((try simp only [List.length_append, List.length_cons, List.length_nil]); omega) | (simp <;> omega)
          refine WL.r rfl rfl rfl (rd_move rfl rfl) ?_
          refine WL.r rfl rfl rfl (rd_move rfl rfl) ?_
          first
            | (refine WL.r rfl rfl rfl (rd_ia rfl rfl rfl Try.underlying22 (by kernel_rfl : _ = some 1) ?_ (by (try simp only [Int.toNat_natCast, Nat.mul_one, Nat.zero_add, Nat.add_zero, Nat.zero_mul, Int.reduceToNat, Nat.reduceAdd, Nat.reduceMul, Nat.reduceSub, Nat.sub_zero]); rfl)) ?_; (focus (first | assumption | omega | (simp <;> omega) | (simp; done))))
            | (refine WL.r rfl rfl rfl (iaf rfl rfl rfl Try.underlying22 (by kernel_rfl : _ = some 1) ?_ ?_ (by (try simp only [Int.toNat_natCast, Nat.mul_one, Nat.zero_add, Nat.add_zero, Nat.zero_mul, Int.reduceToNat, Nat.reduceAdd, Nat.reduceMul, Nat.reduceSub, Nat.sub_zero]); rfl)) ?_; (focus (first | assumption | omega | (simp <;> omega) | (simp; done))); (focus (first | (rw [List.length_map]; omega) | (rw [flatMap_len _ _ _ (fun _ => rfl)]; omega) | (simp <;> omega))))
            | (refine WL.r rfl rfl rfl (iao rfl rfl rfl Try.underlying22 (by kernel_rfl : _ = some 1) ?_ ?_ (by (try simp only [Int.toNat_natCast, Nat.mul_one, Nat.zero_add, Nat.add_zero, Nat.zero_mul, Int.reduceToNat, Nat.reduceAdd, Nat.reduceMul, Nat.reduceSub, Nat.sub_zero]); rfl)) ?_; (focus (first | assumption | omega | (simp <;> omega) | (simp; done))); (focus (first | (simp <;> omega) | (rw [List.length_append, List.length_map]; omega))))
          first
            | (refine WL.r rfl rfl rfl (ld rfl rfl .tc Try.underlying9 rfl (by rfl)) ?_)
            | (refine WL.r rfl rfl rfl (ldm rfl rfl Try.underlying9 rfl ?_) ?_; (focus (first | assumption | omega | (simp <;> omega) | (simp; done))))
            | (refine WL.r rfl rfl rfl (ldom rfl rfl Try.underlying9 rfl ?_) ?_; (focus (first | assumption | omega | (simp <;> omega) | (simp; done))))
          refine WL.r rfl rfl rfl (rd_cat rfl rfl rfl ?_) ?_
          · first | ((try simp only [List.length_append, List.length_cons, List.length_nil]); omega) | (simp <;> omega)
          refine WL.g rfl rfl rfl (og_bs1 rfl rfl Try.underlying22 (by kernel_rfl : _ = some (some (.string (S [])), 1, 16)) rfl (by simp only [List.map]; rfl) rfl rfl ?_ (by decide)) ?_
          · simp [Value.cells]
          intro b70
          first
            | (refine WL.g rfl rfl rfl (appg rfl Try.underlying22 (by kernel_rfl : _ = some (some (.string (S [])), 1, 16)) rfl .tc rfl rfl (fun w hS => by first | exact hS.os | exact hS.sl | exact hS.oc) (by first | rfl | simp) ?_ ?_) ?_; (focus ((refine ⟨?_, ?_, ?_, ?_⟩ <;> (try simp) <;> omega))); (focus (first | (simp [Value.oneCell']; done) | (intro u hu; obtain ⟨_, _, rfl⟩ := List.mem_map.1 hu; rfl))))
            | (refine WL.g rfl rfl rfl (appf rfl Try.underlying22 (by kernel_rfl : _ = some (some (.string (S [])), 1, 16)) rfl .tc rfl rfl (fun w hS => by first | exact hS.os | exact hS.sl | exact hS.oc) (by first | rfl | simp) ?_ ?_) ?_; (focus ((refine ⟨?_, ?_, ?_, ?_⟩ <;> (try simp) <;> omega))); (focus (first | (simp [Value.oneCell']; done) | (intro u hu; obtain ⟨_, _, rfl⟩ := List.mem_map.1 hu; rfl))))
          rintro ⟨o71, c71, s71⟩
          refine WL.pu ?_
          intro hg71; (try dsimp only at hg71 ⊢)
          refine WL.r rfl rfl rfl (rd_assign rfl rfl) ?_
          refine WL.nil ?_
          refine WX.block_normal ?_
          refine WX.then_normal ?_
          refine WC.region ?_
          refine WL.r rfl rfl rfl (rd_move rfl rfl) ?_
          first
            | (refine WL.r rfl rfl rfl (rd_add64nl rfl rfl rfl ?_) ?_; (focus (first | assumption | omega | (simp <;> omega) | (simp; done))))
            | (refine WL.r rfl rfl rfl (rd_add64 rfl rfl rfl ?_) ?_; (focus (first | assumption | omega | (simp <;> omega) | (simp; done))))
          refine WL.r rfl rfl rfl (rd_assign rfl rfl) ?_
          refine WL.nil ?_
          rw [hc61] at hsu
          refine WX.loopO (j + 1, ⟨o71, c71, s71⟩) (by (try dsimp only); omega) (sub_cons rfl (sub_cons rfl (sub_cons rfl (sub_nil _)))) (by refine (sub_cons ?_ (sub_cons ?_ (sub_nil _))) <;> (first | rfl | (simp only [List.length_append, List.length_cons, List.length_nil, Nat.zero_add]; rfl) | (dsimp only; first | rfl | (congr 2; omega) | (congr 3; omega)))) ?_ (by intro w h; rw [show strs (WAY n i leaf p j) ++ [_] = strs (WAY n i leaf p (j + 1)) by rw [hsu]; simp [strs, up]] at h; exact st_sub _ h)
          (try dsimp only)
          exact ⟨by omega, by omega, by simpa using hg71⟩
        · (try simp only [decide_eq_true_eq, decide_eq_false_iff_not, Bool.not_eq_true', Bool.not_eq_false', Bool.not_not, Int.not_lt, Int.not_le] at hc61)
          refine WC.region ?_
          refine WL.r rfl rfl rfl (rd_move rfl rfl) ?_
          refine WL.r rfl rfl rfl (rd_move rfl rfl) ?_
          refine WL.r rfl rfl rfl (rd_move rfl rfl) ?_
          first
            | (refine WL.r rfl rfl rfl (rd_ia rfl rfl rfl Try.underlying22 (by kernel_rfl : _ = some 1) ?_ (by (try simp only [Int.toNat_natCast, Nat.mul_one, Nat.zero_add, Nat.add_zero, Nat.zero_mul, Int.reduceToNat, Nat.reduceAdd, Nat.reduceMul, Nat.reduceSub, Nat.sub_zero]); rfl)) ?_; (focus (first | assumption | omega | (simp <;> omega) | (simp; done))))
            | (refine WL.r rfl rfl rfl (iaf rfl rfl rfl Try.underlying22 (by kernel_rfl : _ = some 1) ?_ ?_ (by (try simp only [Int.toNat_natCast, Nat.mul_one, Nat.zero_add, Nat.add_zero, Nat.zero_mul, Int.reduceToNat, Nat.reduceAdd, Nat.reduceMul, Nat.reduceSub, Nat.sub_zero]); rfl)) ?_; (focus (first | assumption | omega | (simp <;> omega) | (simp; done))); (focus (first | (rw [List.length_map]; omega) | (rw [flatMap_len _ _ _ (fun _ => rfl)]; omega) | (simp <;> omega))))
            | (refine WL.r rfl rfl rfl (iao rfl rfl rfl Try.underlying22 (by kernel_rfl : _ = some 1) ?_ ?_ (by (try simp only [Int.toNat_natCast, Nat.mul_one, Nat.zero_add, Nat.add_zero, Nat.zero_mul, Int.reduceToNat, Nat.reduceAdd, Nat.reduceMul, Nat.reduceSub, Nat.sub_zero]); rfl)) ?_; (focus (first | assumption | omega | (simp <;> omega) | (simp; done))); (focus (first | (simp <;> omega) | (rw [List.length_append, List.length_map]; omega))))
          first
            | (refine WL.r rfl rfl rfl (ld rfl rfl .tc Try.underlying9 rfl (by rfl)) ?_)
            | (refine WL.r rfl rfl rfl (ldm rfl rfl Try.underlying9 rfl ?_) ?_; (focus (first | assumption | omega | (simp <;> omega) | (simp; done))))
            | (refine WL.r rfl rfl rfl (ldom rfl rfl Try.underlying9 rfl ?_) ?_; (focus (first | assumption | omega | (simp <;> omega) | (simp; done))))
          refine WL.r rfl rfl rfl (rd_cat rfl rfl rfl ?_) ?_
          · first | ((try simp only [List.length_append, List.length_cons, List.length_nil]); omega) | (simp <;> omega)
          refine WL.r rfl rfl rfl (rd_move rfl rfl) ?_
          refine WL.r rfl rfl rfl (rd_cat rfl rfl rfl ?_) ?_
          · first | ((try simp only [List.length_append, List.length_cons, List.length_nil]); omega) | (simp <;> omega)
          refine WL.g rfl rfl rfl (og_bs1 rfl rfl Try.underlying22 (by kernel_rfl : _ = some (some (.string (S [])), 1, 16)) rfl (by simp only [List.map]; rfl) rfl rfl ?_ (by decide)) ?_
          · simp [Value.cells]
          intro b80
          first
            | (refine WL.g rfl rfl rfl (appg rfl Try.underlying22 (by kernel_rfl : _ = some (some (.string (S [])), 1, 16)) rfl .tc rfl rfl (fun w hS => by first | exact hS.os | exact hS.sl | exact hS.oc) (by first | rfl | simp) ?_ ?_) ?_; (focus ((refine ⟨?_, ?_, ?_, ?_⟩ <;> (try simp) <;> omega))); (focus (first | (simp [Value.oneCell']; done) | (intro u hu; obtain ⟨_, _, rfl⟩ := List.mem_map.1 hu; rfl))))
            | (refine WL.g rfl rfl rfl (appf rfl Try.underlying22 (by kernel_rfl : _ = some (some (.string (S [])), 1, 16)) rfl .tc rfl rfl (fun w hS => by first | exact hS.os | exact hS.sl | exact hS.oc) (by first | rfl | simp) ?_ ?_) ?_; (focus ((refine ⟨?_, ?_, ?_, ?_⟩ <;> (try simp) <;> omega))); (focus (first | (simp [Value.oneCell']; done) | (intro u hu; obtain ⟨_, _, rfl⟩ := List.mem_map.1 hu; rfl))))
          rintro ⟨o81, c81, s81⟩
          refine WL.pu ?_
          intro hg81; (try dsimp only at hg81 ⊢)
          refine WL.r rfl rfl rfl (rd_assign rfl rfl) ?_
          refine WL.nil ?_
          refine WX.block_normal ?_
          refine WX.then_normal ?_
          refine WC.region ?_
          refine WL.r rfl rfl rfl (rd_move rfl rfl) ?_
          first
            | (refine WL.r rfl rfl rfl (rd_add64nl rfl rfl rfl ?_) ?_; (focus (first | assumption | omega | (simp <;> omega) | (simp; done))))
            | (refine WL.r rfl rfl rfl (rd_add64 rfl rfl rfl ?_) ?_; (focus (first | assumption | omega | (simp <;> omega) | (simp; done))))
          refine WL.r rfl rfl rfl (rd_assign rfl rfl) ?_
          refine WL.nil ?_
          rw [hc61] at hsu
          refine WX.loopO (j + 1, ⟨o81, c81, s81⟩) (by (try dsimp only); omega) (sub_cons rfl (sub_cons rfl (sub_cons rfl (sub_nil _)))) (by refine (sub_cons ?_ (sub_cons ?_ (sub_nil _))) <;> (first | rfl | (simp only [List.length_append, List.length_cons, List.length_nil, Nat.zero_add]; rfl) | (dsimp only; first | rfl | (congr 2; omega) | (congr 3; omega)))) ?_ (by intro w h; rw [show strs (WAY n i leaf p j) ++ [_] = strs (WAY n i leaf p (j + 1)) by rw [hsu]; simp [strs, up]] at h; exact st_sub _ h)
          (try dsimp only)
          exact ⟨by omega, by omega, by simpa using hg81⟩
      · (try simp only [decide_eq_true_eq, decide_eq_false_iff_not, Bool.not_eq_true', Bool.not_eq_false', Bool.not_not, Int.not_lt, Int.not_le] at hc46)
        have hal := way_all n i leaf p j (by rw [← hlz]; omega)
        refine WC.exit ?_
        refine WX.then_exit ?_
        refine WX.then_exit ?_
        refine WX.block_exit ?_
        refine WX.then_normal ?_
        refine WC.sr ?_
        refine WL.r rfl rfl rfl (rd_move rfl rfl) ?_
        refine WL.r rfl rfl rfl (rd_assign rfl rfl) ?_
        refine WL.nt ?_
        refine WC.ret ?_
        exact WX.retN rfl (.tmp rfl .nil) fun w' hS => ⟨q, by rw [← hal, hwl]; rfl, by rw [← hal, hwl]; exact hqc, by rw [← hal]; exact st_sub _ hS⟩
    · (try simp only [decide_eq_true_eq, decide_eq_false_iff_not, Bool.not_eq_true', Bool.not_eq_false', Bool.not_not, Int.not_lt, Int.not_le] at hg41)
      have hal := way_all n i leaf p j (by omega)
      refine WL.s rfl rfl rfl ?_
      refine WL.s rfl rfl rfl ?_
      refine WL.s rfl rfl rfl ?_
      refine WL.s rfl rfl rfl ?_
      refine WL.r rfl rfl rfl (rd_pickf rfl rfl rfl) ?_
      refine WL.nt ?_
      refine WC.cond rfl (fun h => by cases h) (fun _ => ?_)
      refine WC.exit ?_
      refine WX.then_exit ?_
      refine WX.then_exit ?_
      refine WX.block_exit ?_
      refine WX.then_normal ?_
      refine WC.sr ?_
      refine WL.r rfl rfl rfl (rd_move rfl rfl) ?_
      refine WL.r rfl rfl rfl (rd_assign rfl rfl) ?_
      refine WL.nt ?_
      refine WC.ret ?_
      exact WX.retN rfl (.tmp rfl .nil) fun w' hS => ⟨q, by rw [← hal, hwl]; rfl, by rw [← hal, hwl]; exact hqc, by rw [← hal]; exact st_sub _ hS⟩

theorem incl_nat {rt leaf : Bs} {n i : Int} {p : List Bs} (h : inclB rt n i leaf p = true) : ∃ N I : Nat, n = N ∧ i = I ∧ I < N ∧ (climb (leafH leaf) N I p.reverse).2 = true ∧ (climb (leafH leaf) N I p.reverse).1 = rt := by
  simp only [inclB, Bool.and_eq_true, decide_eq_true_eq] at h
  exact ⟨n.toNat, i.toNat, by omega, by omega, by omega, h.2.1, h.2.2⟩
theorem inps_get (s : Bs) (zs : List (Bool × Bs)) (k : Nat) (h : k < (inps s zs).length) : (inps s zs)[k]? = some ((inps s zs).getD k default) := by simp [List.getD, h]
theorem inps_le (p : List Bs) (hp : ∀ s ∈ p, s.length ≤ 300000) (leaf : Bs) (hl : leaf.length ≤ 900000) (n i k : Nat) : ((inps (0 :: leaf) (ways n i p)).getD k default).length ≤ 1000000 := by
  have h := way_small n i leaf p (ways n i p).length hp hl k
  rw [WAY, List.take_length] at h; omega
theorem binds_c {rt leaf : Bs} {n i : Int} {p : List Bs} {a : Option Addr} {cap : Nat} {lf : Bs} {p2 : List Bs} {a2 : Option Addr} {cap2 : Nat} {w : World} {ok : Nat → Prop} (hF1 : (Fact.sl a (strs p)).holds ok w) (hF2 : (Fact.sl a2 (strs p2)).holds ok w) (hcap : p.length ≤ cap) (hcap2 : p2.length ≤ cap2) :
    Calls Try.prog 7 #[.agg #[.string (S rt), .int .i64 n, .int .i64 i, .string (S leaf), .slice a p.length cap], .string (S lf), .slice a2 p2.length cap2] w fun e w' => e = .returned (.bool true) ∧ Below w.heap.size w w' := by
  refine enter (S := St (fun _ => True) w [] [Fact.sl a (strs p), Fact.sl a2 (strs p2)]) (L := [(0, .agg #[.string (S rt), .int .i64 n, .int .i64 i, .string (S leaf), .slice a p.length cap]), (1, .string (S lf)), (2, .slice a2 p2.length cap2)]) Try.func7 rfl Try.ntmps7 rfl (args_cons rfl (args_cons rfl (args_cons rfl (args_nil _)))) (St.start (fun _ _ => trivial) (facts_cons (fact_any hF1) (facts_cons (fact_any hF2) facts_nil))) ?_
  refine WC.sr ?_
  refine WL.g rfl rfl rfl (og_box rfl rfl rfl) ?_
  intro b3
  refine WL.r rfl rfl rfl (rd_assign rfl rfl) ?_
  refine WL.nt ?_
  refine WC.seq ?_
  refine WC.sr ?_
  first
    | (refine WL.r rfl rfl rfl (rd_fa rfl rfl Try.underlying34 rfl (by kernel_rfl) (by (try simp only [Int.toNat_natCast, Nat.mul_one, Nat.zero_add, Nat.add_zero, Nat.zero_mul, Int.reduceToNat, Nat.reduceAdd, Nat.reduceMul, Nat.reduceSub, Nat.sub_zero]); rfl)) ?_)
    | (refine WL.r rfl rfl rfl (faf rfl rfl Try.underlying34 rfl (by kernel_rfl) (by (try simp only [Int.toNat_natCast, Nat.mul_one, Nat.zero_add, Nat.add_zero, Nat.zero_mul, Int.reduceToNat, Nat.reduceAdd, Nat.reduceMul, Nat.reduceSub, Nat.sub_zero]); rfl)) ?_)
  first
    | (refine WL.r rfl rfl rfl (ld rfl rfl .tc Try.underlying22 rfl (by rfl)) ?_)
    | (refine WL.r rfl rfl rfl (ldm rfl rfl Try.underlying22 rfl ?_) ?_; (focus (first | assumption | omega | (simp <;> omega) | (simp; done))))
    | (refine WL.r rfl rfl rfl (ldom rfl rfl Try.underlying22 rfl ?_) ?_; (focus (first | assumption | omega | (simp <;> omega) | (simp; done))))
  refine WL.g rfl rfl rfl (og_call rfl rfl (by kernel_rfl) (keep_val fun w hS => few34_c (by first | exact hS.sl | exact hS.os | exact hS.oc | exact sl_takeM _ hS.sl | exact sl_dropM _ hS.sl | exact sl_cutM _ (by omega) hS.sl | exact sl_nil) (by first | assumption | omega | (simp <;> omega) | (simp; done)))) ?_
  intro _
  refine WL.r rfl rfl rfl (rd_not rfl rfl) ?_
  refine WL.r rfl rfl rfl (rd_move rfl rfl) ?_
  refine WL.bool 14 rfl (fun hg14 => ?_) (fun hg14 => ?_)
  · (try simp only [decide_eq_true_eq, decide_eq_false_iff_not, Bool.not_eq_true', Bool.not_eq_false', Bool.not_not, Int.not_lt, Int.not_le] at hg14)
    refine WL.s rfl rfl rfl ?_
    refine WL.s rfl rfl rfl ?_
    refine WL.s rfl rfl rfl ?_
    refine WL.r rfl rfl rfl (rd_pickt rfl rfl rfl) ?_
    refine WL.r rfl rfl rfl (rd_move rfl rfl) ?_
    refine WL.s rfl rfl rfl ?_
    refine WL.s rfl rfl rfl ?_
    refine WL.s rfl rfl rfl ?_
    refine WL.s rfl rfl rfl ?_
    refine WL.r rfl rfl rfl (rd_pickt rfl rfl rfl) ?_
    refine WL.r rfl rfl rfl (rd_move rfl rfl) ?_
    refine WL.s rfl rfl rfl ?_
    refine WL.s rfl rfl rfl ?_
    refine WL.s rfl rfl rfl ?_
    refine WL.r rfl rfl rfl (rd_pickt rfl rfl rfl) ?_
    refine WL.r rfl rfl rfl (rd_move rfl rfl) ?_
    refine WL.s rfl rfl rfl ?_
    refine WL.s rfl rfl rfl ?_
    refine WL.s rfl rfl rfl ?_
    refine WL.r rfl rfl rfl (rd_pickt rfl rfl rfl) ?_
    refine WL.nt ?_
    refine WC.cond rfl (fun _ => ?_) (fun h => by cases h)
    refine WC.sr ?_
    refine WL.g rfl rfl rfl (og_call rfl rfl (by kernel_rfl) (keep_val fun w hS => awake34_c)) ?_
    intro _
    refine WL.r rfl rfl rfl (rd_assign rfl rfl) ?_
    refine WL.nt ?_
    refine WC.ret ?_
    refine WX.then_ret ?_
    exact WX.retN rfl (.tmp rfl .nil) fun w' hS => ⟨by first | rfl | (simp [*]; done), hS.below⟩
  · (try simp only [decide_eq_true_eq, decide_eq_false_iff_not, Bool.not_eq_true', Bool.not_eq_false', Bool.not_not, Int.not_lt, Int.not_le] at hg14)
    refine WL.r rfl rfl rfl (rd_move rfl rfl) ?_
    refine WL.g rfl rfl rfl (og_call rfl rfl (by kernel_rfl) (keep_val fun w hS => few34_c (by first | exact hS.sl | exact hS.os | exact hS.oc | exact sl_takeM _ hS.sl | exact sl_dropM _ hS.sl | exact sl_cutM _ (by omega) hS.sl | exact sl_nil) (by first | assumption | omega | (simp <;> omega) | (simp; done)))) ?_
    intro _
    refine WL.r rfl rfl rfl (rd_not rfl rfl) ?_
    refine WL.r rfl rfl rfl (rd_pickf rfl rfl rfl) ?_
    refine WL.r rfl rfl rfl (rd_move rfl rfl) ?_
    refine WL.bool 19 rfl (fun hg19 => ?_) (fun hg19 => ?_)
    · (try simp only [decide_eq_true_eq, decide_eq_false_iff_not, Bool.not_eq_true', Bool.not_eq_false', Bool.not_not, Int.not_lt, Int.not_le] at hg19)
      refine WL.s rfl rfl rfl ?_
      refine WL.s rfl rfl rfl ?_
      refine WL.s rfl rfl rfl ?_
      refine WL.s rfl rfl rfl ?_
      refine WL.r rfl rfl rfl (rd_pickt rfl rfl rfl) ?_
      refine WL.r rfl rfl rfl (rd_move rfl rfl) ?_
      refine WL.s rfl rfl rfl ?_
      refine WL.s rfl rfl rfl ?_
      refine WL.s rfl rfl rfl ?_
      refine WL.r rfl rfl rfl (rd_pickt rfl rfl rfl) ?_
      refine WL.r rfl rfl rfl (rd_move rfl rfl) ?_
      refine WL.s rfl rfl rfl ?_
      refine WL.s rfl rfl rfl ?_
      refine WL.s rfl rfl rfl ?_
      refine WL.r rfl rfl rfl (rd_pickt rfl rfl rfl) ?_
      refine WL.nt ?_
      refine WC.cond rfl (fun _ => ?_) (fun h => by cases h)
      refine WC.sr ?_
      refine WL.g rfl rfl rfl (og_call rfl rfl (by kernel_rfl) (keep_val fun w hS => awake34_c)) ?_
      intro _
      refine WL.r rfl rfl rfl (rd_assign rfl rfl) ?_
      refine WL.nt ?_
      refine WC.ret ?_
      refine WX.then_ret ?_
      exact WX.retN rfl (.tmp rfl .nil) fun w' hS => ⟨by first | rfl | (simp [*]; done), hS.below⟩
    · (try simp only [decide_eq_true_eq, decide_eq_false_iff_not, Bool.not_eq_true', Bool.not_eq_false', Bool.not_not, Int.not_lt, Int.not_le] at hg19)
      first
        | (refine WL.r rfl rfl rfl (rd_fa rfl rfl Try.underlying34 rfl (by kernel_rfl) (by (try simp only [Int.toNat_natCast, Nat.mul_one, Nat.zero_add, Nat.add_zero, Nat.zero_mul, Int.reduceToNat, Nat.reduceAdd, Nat.reduceMul, Nat.reduceSub, Nat.sub_zero]); rfl)) ?_)
        | (refine WL.r rfl rfl rfl (faf rfl rfl Try.underlying34 rfl (by kernel_rfl) (by (try simp only [Int.toNat_natCast, Nat.mul_one, Nat.zero_add, Nat.add_zero, Nat.zero_mul, Int.reduceToNat, Nat.reduceAdd, Nat.reduceMul, Nat.reduceSub, Nat.sub_zero]); rfl)) ?_)
      first
        | (refine WL.r rfl rfl rfl (ld rfl rfl .tc Try.underlying9 rfl (by rfl)) ?_)
        | (refine WL.r rfl rfl rfl (ldm rfl rfl Try.underlying9 rfl ?_) ?_; (focus (first | assumption | omega | (simp <;> omega) | (simp; done))))
        | (refine WL.r rfl rfl rfl (ldom rfl rfl Try.underlying9 rfl ?_) ?_; (focus (first | assumption | omega | (simp <;> omega) | (simp; done))))
      refine WL.r rfl rfl rfl (rd_slen rfl rfl Try.underlying9) ?_
      refine WL.r rfl rfl rfl (rd_gtr rfl rfl rfl) ?_
      refine WL.r rfl rfl rfl (rd_pickf rfl rfl rfl) ?_
      refine WL.r rfl rfl rfl (rd_move rfl rfl) ?_
      refine WL.bool 25 rfl (fun hg25 => ?_) (fun hg25 => ?_)
      · (try simp only [decide_eq_true_eq, decide_eq_false_iff_not, Bool.not_eq_true', Bool.not_eq_false', Bool.not_not, Int.not_lt, Int.not_le] at hg25)
        refine WL.s rfl rfl rfl ?_
        refine WL.s rfl rfl rfl ?_
        refine WL.s rfl rfl rfl ?_
        refine WL.r rfl rfl rfl (rd_pickt rfl rfl rfl) ?_
        refine WL.r rfl rfl rfl (rd_move rfl rfl) ?_
        refine WL.s rfl rfl rfl ?_
        refine WL.s rfl rfl rfl ?_
        refine WL.s rfl rfl rfl ?_
        refine WL.r rfl rfl rfl (rd_pickt rfl rfl rfl) ?_
        refine WL.nt ?_
        refine WC.cond rfl (fun _ => ?_) (fun h => by cases h)
        refine WC.sr ?_
        refine WL.g rfl rfl rfl (og_call rfl rfl (by kernel_rfl) (keep_val fun w hS => awake34_c)) ?_
        intro _
        refine WL.r rfl rfl rfl (rd_assign rfl rfl) ?_
        refine WL.nt ?_
        refine WC.ret ?_
        refine WX.then_ret ?_
        exact WX.retN rfl (.tmp rfl .nil) fun w' hS => ⟨by first | rfl | (simp [*]; done), hS.below⟩
      · (try simp only [decide_eq_true_eq, decide_eq_false_iff_not, Bool.not_eq_true', Bool.not_eq_false', Bool.not_not, Int.not_lt, Int.not_le] at hg25)
        refine WL.r rfl rfl rfl (rd_move rfl rfl) ?_
        refine WL.r rfl rfl rfl (rd_slen rfl rfl Try.underlying9) ?_
        refine WL.r rfl rfl rfl (rd_gtr rfl rfl rfl) ?_
        refine WL.r rfl rfl rfl (rd_pickf rfl rfl rfl) ?_
        refine WL.r rfl rfl rfl (rd_move rfl rfl) ?_
        refine WL.bool 30 rfl (fun hg30 => ?_) (fun hg30 => ?_)
        · (try simp only [decide_eq_true_eq, decide_eq_false_iff_not, Bool.not_eq_true', Bool.not_eq_false', Bool.not_not, Int.not_lt, Int.not_le] at hg30)
          refine WL.s rfl rfl rfl ?_
          refine WL.s rfl rfl rfl ?_
          refine WL.s rfl rfl rfl ?_
          refine WL.r rfl rfl rfl (rd_pickt rfl rfl rfl) ?_
          refine WL.nt ?_
          refine WC.cond rfl (fun _ => ?_) (fun h => by cases h)
          refine WC.sr ?_
          refine WL.g rfl rfl rfl (og_call rfl rfl (by kernel_rfl) (keep_val fun w hS => awake34_c)) ?_
          intro _
          refine WL.r rfl rfl rfl (rd_assign rfl rfl) ?_
          refine WL.nt ?_
          refine WC.ret ?_
          refine WX.then_ret ?_
          exact WX.retN rfl (.tmp rfl .nil) fun w' hS => ⟨by first | rfl | (simp [*]; done), hS.below⟩
        · (try simp only [decide_eq_true_eq, decide_eq_false_iff_not, Bool.not_eq_true', Bool.not_eq_false', Bool.not_not, Int.not_lt, Int.not_le] at hg30)
          first
            | (refine WL.r rfl rfl rfl (rd_fa rfl rfl Try.underlying34 rfl (by kernel_rfl) (by (try simp only [Int.toNat_natCast, Nat.mul_one, Nat.zero_add, Nat.add_zero, Nat.zero_mul, Int.reduceToNat, Nat.reduceAdd, Nat.reduceMul, Nat.reduceSub, Nat.sub_zero]); rfl)) ?_)
            | (refine WL.r rfl rfl rfl (faf rfl rfl Try.underlying34 rfl (by kernel_rfl) (by (try simp only [Int.toNat_natCast, Nat.mul_one, Nat.zero_add, Nat.add_zero, Nat.zero_mul, Int.reduceToNat, Nat.reduceAdd, Nat.reduceMul, Nat.reduceSub, Nat.sub_zero]); rfl)) ?_)
          first
            | (refine WL.r rfl rfl rfl (ld rfl rfl .tc Try.underlying3 rfl (by rfl)) ?_)
            | (refine WL.r rfl rfl rfl (ldm rfl rfl Try.underlying3 rfl ?_) ?_; (focus (first | assumption | omega | (simp <;> omega) | (simp; done))))
            | (refine WL.r rfl rfl rfl (ldom rfl rfl Try.underlying3 rfl ?_) ?_; (focus (first | assumption | omega | (simp <;> omega) | (simp; done))))
          refine WL.r rfl rfl rfl (rd_gtr rfl rfl rfl) ?_
          refine WL.r rfl rfl rfl (rd_pickf rfl rfl rfl) ?_
          refine WL.nt ?_
          refine WC.cond rfl (fun hc34 => ?_) (fun hc34 => ?_)
          · (try simp only [decide_eq_true_eq, decide_eq_false_iff_not, Bool.not_eq_true', Bool.not_eq_false', Bool.not_not, Int.not_lt, Int.not_le] at hc34)
            refine WC.sr ?_
            refine WL.g rfl rfl rfl (og_call rfl rfl (by kernel_rfl) (keep_val fun w hS => awake34_c)) ?_
            intro _
            refine WL.r rfl rfl rfl (rd_assign rfl rfl) ?_
            refine WL.nt ?_
            refine WC.ret ?_
            refine WX.then_ret ?_
            exact WX.retN rfl (.tmp rfl .nil) fun w' hS => ⟨by first | rfl | (simp [*]; done), hS.below⟩
          · (try simp only [decide_eq_true_eq, decide_eq_false_iff_not, Bool.not_eq_true', Bool.not_eq_false', Bool.not_not, Int.not_lt, Int.not_le] at hc34)
            obtain ⟨hl, -, hs⟩ := few_le (l := p) (by simpa using hg14)
            obtain ⟨hl2, -, hs2⟩ := few_le (l := p2) (by simpa using hg19)
            refine WC.skip ?_
            refine WX.then_normal ?_
            refine WC.seq ?_
            refine WC.sr ?_
            first
              | (refine WL.r rfl rfl rfl (rd_fa rfl rfl Try.underlying34 rfl (by kernel_rfl) (by (try simp only [Int.toNat_natCast, Nat.mul_one, Nat.zero_add, Nat.add_zero, Nat.zero_mul, Int.reduceToNat, Nat.reduceAdd, Nat.reduceMul, Nat.reduceSub, Nat.sub_zero]); rfl)) ?_)
              | (refine WL.r rfl rfl rfl (faf rfl rfl Try.underlying34 rfl (by kernel_rfl) (by (try simp only [Int.toNat_natCast, Nat.mul_one, Nat.zero_add, Nat.add_zero, Nat.zero_mul, Int.reduceToNat, Nat.reduceAdd, Nat.reduceMul, Nat.reduceSub, Nat.sub_zero]); rfl)) ?_)
            first
              | (refine WL.r rfl rfl rfl (ld rfl rfl .tc Try.underlying9 rfl (by rfl)) ?_)
              | (refine WL.r rfl rfl rfl (ldm rfl rfl Try.underlying9 rfl ?_) ?_; (focus (first | assumption | omega | (simp <;> omega) | (simp; done))))
              | (refine WL.r rfl rfl rfl (ldom rfl rfl Try.underlying9 rfl ?_) ?_; (focus (first | assumption | omega | (simp <;> omega) | (simp; done))))
            first
              | (refine WL.r rfl rfl rfl (rd_fa rfl rfl Try.underlying34 rfl (by kernel_rfl) (by (try simp only [Int.toNat_natCast, Nat.mul_one, Nat.zero_add, Nat.add_zero, Nat.zero_mul, Int.reduceToNat, Nat.reduceAdd, Nat.reduceMul, Nat.reduceSub, Nat.sub_zero]); rfl)) ?_)
              | (refine WL.r rfl rfl rfl (faf rfl rfl Try.underlying34 rfl (by kernel_rfl) (by (try simp only [Int.toNat_natCast, Nat.mul_one, Nat.zero_add, Nat.add_zero, Nat.zero_mul, Int.reduceToNat, Nat.reduceAdd, Nat.reduceMul, Nat.reduceSub, Nat.sub_zero]); rfl)) ?_)
            first
              | (refine WL.r rfl rfl rfl (ld rfl rfl .tc Try.underlying3 rfl (by rfl)) ?_)
              | (refine WL.r rfl rfl rfl (ldm rfl rfl Try.underlying3 rfl ?_) ?_; (focus (first | assumption | omega | (simp <;> omega) | (simp; done))))
              | (refine WL.r rfl rfl rfl (ldom rfl rfl Try.underlying3 rfl ?_) ?_; (focus (first | assumption | omega | (simp <;> omega) | (simp; done))))
            first
              | (refine WL.r rfl rfl rfl (rd_fa rfl rfl Try.underlying34 rfl (by kernel_rfl) (by (try simp only [Int.toNat_natCast, Nat.mul_one, Nat.zero_add, Nat.add_zero, Nat.zero_mul, Int.reduceToNat, Nat.reduceAdd, Nat.reduceMul, Nat.reduceSub, Nat.sub_zero]); rfl)) ?_)
              | (refine WL.r rfl rfl rfl (faf rfl rfl Try.underlying34 rfl (by kernel_rfl) (by (try simp only [Int.toNat_natCast, Nat.mul_one, Nat.zero_add, Nat.add_zero, Nat.zero_mul, Int.reduceToNat, Nat.reduceAdd, Nat.reduceMul, Nat.reduceSub, Nat.sub_zero]); rfl)) ?_)
            first
              | (refine WL.r rfl rfl rfl (ld rfl rfl .tc Try.underlying3 rfl (by rfl)) ?_)
              | (refine WL.r rfl rfl rfl (ldm rfl rfl Try.underlying3 rfl ?_) ?_; (focus (first | assumption | omega | (simp <;> omega) | (simp; done))))
              | (refine WL.r rfl rfl rfl (ldom rfl rfl Try.underlying3 rfl ?_) ?_; (focus (first | assumption | omega | (simp <;> omega) | (simp; done))))
            first
              | (refine WL.r rfl rfl rfl (rd_fa rfl rfl Try.underlying34 rfl (by kernel_rfl) (by (try simp only [Int.toNat_natCast, Nat.mul_one, Nat.zero_add, Nat.add_zero, Nat.zero_mul, Int.reduceToNat, Nat.reduceAdd, Nat.reduceMul, Nat.reduceSub, Nat.sub_zero]); rfl)) ?_)
              | (refine WL.r rfl rfl rfl (faf rfl rfl Try.underlying34 rfl (by kernel_rfl) (by (try simp only [Int.toNat_natCast, Nat.mul_one, Nat.zero_add, Nat.add_zero, Nat.zero_mul, Int.reduceToNat, Nat.reduceAdd, Nat.reduceMul, Nat.reduceSub, Nat.sub_zero]); rfl)) ?_)
            first
              | (refine WL.r rfl rfl rfl (ld rfl rfl .tc Try.underlying9 rfl (by rfl)) ?_)
              | (refine WL.r rfl rfl rfl (ldm rfl rfl Try.underlying9 rfl ?_) ?_; (focus (first | assumption | omega | (simp <;> omega) | (simp; done))))
              | (refine WL.r rfl rfl rfl (ldom rfl rfl Try.underlying9 rfl ?_) ?_; (focus (first | assumption | omega | (simp <;> omega) | (simp; done))))
            first
              | (refine WL.r rfl rfl rfl (rd_fa rfl rfl Try.underlying34 rfl (by kernel_rfl) (by (try simp only [Int.toNat_natCast, Nat.mul_one, Nat.zero_add, Nat.add_zero, Nat.zero_mul, Int.reduceToNat, Nat.reduceAdd, Nat.reduceMul, Nat.reduceSub, Nat.sub_zero]); rfl)) ?_)
              | (refine WL.r rfl rfl rfl (faf rfl rfl Try.underlying34 rfl (by kernel_rfl) (by (try simp only [Int.toNat_natCast, Nat.mul_one, Nat.zero_add, Nat.add_zero, Nat.zero_mul, Int.reduceToNat, Nat.reduceAdd, Nat.reduceMul, Nat.reduceSub, Nat.sub_zero]); rfl)) ?_)
            first
              | (refine WL.r rfl rfl rfl (ld rfl rfl .tc Try.underlying22 rfl (by rfl)) ?_)
              | (refine WL.r rfl rfl rfl (ldm rfl rfl Try.underlying22 rfl ?_) ?_; (focus (first | assumption | omega | (simp <;> omega) | (simp; done))))
              | (refine WL.r rfl rfl rfl (ldom rfl rfl Try.underlying22 rfl ?_) ?_; (focus (first | assumption | omega | (simp <;> omega) | (simp; done))))
            refine WL.g rfl rfl rfl (og_call rfl rfl (by kernel_rfl) (keep_val fun w hS => incl_c (by first | exact hS.sl | exact hS.os | exact hS.oc | exact sl_takeM _ hS.sl | exact sl_dropM _ hS.sl | exact sl_cutM _ (by omega) hS.sl | exact sl_nil) (by first | assumption | omega | (simp <;> omega) | (simp; done)) (by first | assumption | omega | (simp <;> omega) | (simp; done)) (by first | assumption | omega | (simp <;> omega) | (simp; done)) (by first | assumption | omega | (simp <;> omega) | (simp; done)) (by first | assumption | omega | (simp <;> omega) | (simp; done)) (by first | assumption | omega | (simp <;> omega) | (simp; done)))) ?_
            intro _
            refine WL.r rfl rfl rfl (rd_not rfl rfl) ?_
            refine WL.r rfl rfl rfl (rd_move rfl rfl) ?_
            refine WL.bool 48 rfl (fun hg48 => ?_) (fun hg48 => ?_)
            · (try simp only [decide_eq_true_eq, decide_eq_false_iff_not, Bool.not_eq_true', Bool.not_eq_false', Bool.not_not, Int.not_lt, Int.not_le] at hg48)
              refine WL.s rfl rfl rfl ?_
              refine WL.s rfl rfl rfl ?_
              refine WL.s rfl rfl rfl ?_
              refine WL.s rfl rfl rfl ?_
              refine WL.s rfl rfl rfl ?_
              refine WL.s rfl rfl rfl ?_
              refine WL.s rfl rfl rfl ?_
              refine WL.s rfl rfl rfl ?_
              refine WL.s rfl rfl rfl ?_
              refine WL.s rfl rfl rfl ?_
              refine WL.r rfl rfl rfl (rd_pickt rfl rfl rfl) ?_
              refine WL.nt ?_
              refine WC.cond rfl (fun _ => ?_) (fun h => by cases h)
              refine WC.sr ?_
              refine WL.g rfl rfl rfl (og_call rfl rfl (by kernel_rfl) (keep_val fun w hS => awake34_c)) ?_
              intro _
              refine WL.r rfl rfl rfl (rd_assign rfl rfl) ?_
              refine WL.nt ?_
              refine WC.ret ?_
              refine WX.then_ret ?_
              exact WX.retN rfl (.tmp rfl .nil) fun w' hS => ⟨by first | rfl | (simp [*]; done), hS.below⟩
            · (try simp only [decide_eq_true_eq, decide_eq_false_iff_not, Bool.not_eq_true', Bool.not_eq_false', Bool.not_not, Int.not_lt, Int.not_le] at hg48)
              first
                | (refine WL.r rfl rfl rfl (rd_fa rfl rfl Try.underlying34 rfl (by kernel_rfl) (by (try simp only [Int.toNat_natCast, Nat.mul_one, Nat.zero_add, Nat.add_zero, Nat.zero_mul, Int.reduceToNat, Nat.reduceAdd, Nat.reduceMul, Nat.reduceSub, Nat.sub_zero]); rfl)) ?_)
                | (refine WL.r rfl rfl rfl (faf rfl rfl Try.underlying34 rfl (by kernel_rfl) (by (try simp only [Int.toNat_natCast, Nat.mul_one, Nat.zero_add, Nat.add_zero, Nat.zero_mul, Int.reduceToNat, Nat.reduceAdd, Nat.reduceMul, Nat.reduceSub, Nat.sub_zero]); rfl)) ?_)
              first
                | (refine WL.r rfl rfl rfl (ld rfl rfl .tc Try.underlying9 rfl (by rfl)) ?_)
                | (refine WL.r rfl rfl rfl (ldm rfl rfl Try.underlying9 rfl ?_) ?_; (focus (first | assumption | omega | (simp <;> omega) | (simp; done))))
                | (refine WL.r rfl rfl rfl (ldom rfl rfl Try.underlying9 rfl ?_) ?_; (focus (first | assumption | omega | (simp <;> omega) | (simp; done))))
              first
                | (refine WL.r rfl rfl rfl (rd_fa rfl rfl Try.underlying34 rfl (by kernel_rfl) (by (try simp only [Int.toNat_natCast, Nat.mul_one, Nat.zero_add, Nat.add_zero, Nat.zero_mul, Int.reduceToNat, Nat.reduceAdd, Nat.reduceMul, Nat.reduceSub, Nat.sub_zero]); rfl)) ?_)
                | (refine WL.r rfl rfl rfl (faf rfl rfl Try.underlying34 rfl (by kernel_rfl) (by (try simp only [Int.toNat_natCast, Nat.mul_one, Nat.zero_add, Nat.add_zero, Nat.zero_mul, Int.reduceToNat, Nat.reduceAdd, Nat.reduceMul, Nat.reduceSub, Nat.sub_zero]); rfl)) ?_)
              first
                | (refine WL.r rfl rfl rfl (ld rfl rfl .tc Try.underlying3 rfl (by rfl)) ?_)
                | (refine WL.r rfl rfl rfl (ldm rfl rfl Try.underlying3 rfl ?_) ?_; (focus (first | assumption | omega | (simp <;> omega) | (simp; done))))
                | (refine WL.r rfl rfl rfl (ldom rfl rfl Try.underlying3 rfl ?_) ?_; (focus (first | assumption | omega | (simp <;> omega) | (simp; done))))
              first
                | (refine WL.r rfl rfl rfl (rd_fa rfl rfl Try.underlying34 rfl (by kernel_rfl) (by (try simp only [Int.toNat_natCast, Nat.mul_one, Nat.zero_add, Nat.add_zero, Nat.zero_mul, Int.reduceToNat, Nat.reduceAdd, Nat.reduceMul, Nat.reduceSub, Nat.sub_zero]); rfl)) ?_)
                | (refine WL.r rfl rfl rfl (faf rfl rfl Try.underlying34 rfl (by kernel_rfl) (by (try simp only [Int.toNat_natCast, Nat.mul_one, Nat.zero_add, Nat.add_zero, Nat.zero_mul, Int.reduceToNat, Nat.reduceAdd, Nat.reduceMul, Nat.reduceSub, Nat.sub_zero]); rfl)) ?_)
              first
                | (refine WL.r rfl rfl rfl (ld rfl rfl .tc Try.underlying3 rfl (by rfl)) ?_)
                | (refine WL.r rfl rfl rfl (ldm rfl rfl Try.underlying3 rfl ?_) ?_; (focus (first | assumption | omega | (simp <;> omega) | (simp; done))))
                | (refine WL.r rfl rfl rfl (ldom rfl rfl Try.underlying3 rfl ?_) ?_; (focus (first | assumption | omega | (simp <;> omega) | (simp; done))))
              refine WL.r rfl rfl rfl (rd_move rfl rfl) ?_
              refine WL.r rfl rfl rfl (rd_move rfl rfl) ?_
              refine WL.g rfl rfl rfl (og_call rfl rfl (by kernel_rfl) (keep_val fun w hS => incl_c (by first | exact hS.sl | exact hS.os | exact hS.oc | exact sl_takeM _ hS.sl | exact sl_dropM _ hS.sl | exact sl_cutM _ (by omega) hS.sl | exact sl_nil) (by first | assumption | omega | (simp <;> omega) | (simp; done)) (by first | assumption | omega | (simp <;> omega) | (simp; done)) (by first | assumption | omega | (simp <;> omega) | (simp; done)) (by first | assumption | omega | (simp <;> omega) | (simp; done)) (by first | assumption | omega | (simp <;> omega) | (simp; done)) (by first | assumption | omega | (simp <;> omega) | (simp; done)))) ?_
              intro _
              refine WL.r rfl rfl rfl (rd_not rfl rfl) ?_
              refine WL.r rfl rfl rfl (rd_pickf rfl rfl rfl) ?_
              refine WL.nt ?_
              refine WC.cond rfl (fun hc59 => ?_) (fun hc59 => ?_)
              · (try simp only [decide_eq_true_eq, decide_eq_false_iff_not, Bool.not_eq_true', Bool.not_eq_false', Bool.not_not, Int.not_lt, Int.not_le] at hc59)
                refine WC.sr ?_
                refine WL.g rfl rfl rfl (og_call rfl rfl (by kernel_rfl) (keep_val fun w hS => awake34_c)) ?_
                intro _
                refine WL.r rfl rfl rfl (rd_assign rfl rfl) ?_
                refine WL.nt ?_
                refine WC.ret ?_
                refine WX.then_ret ?_
                exact WX.retN rfl (.tmp rfl .nil) fun w' hS => ⟨by first | rfl | (simp [*]; done), hS.below⟩
              · (try simp only [decide_eq_true_eq, decide_eq_false_iff_not, Bool.not_eq_true', Bool.not_eq_false', Bool.not_not, Int.not_lt, Int.not_le] at hc59)
                have hi1 : inclB rt n i leaf p = true := by simpa using hg48
                have hi2 : inclB rt n i lf p2 = true := by simpa using hc59
                obtain ⟨N, I, rfl, rfl, hIN, hc1, hr1⟩ := incl_nat hi1
                obtain ⟨N', I', hN', hI', -, hc2, hr2⟩ := incl_nat hi2
                obtain rfl : N = N' := by omega
                obtain rfl : I = I' := by omega
                obtain ⟨hw1, hx1⟩ := climb_ways leaf p.length p N I rfl (by omega) (by omega) hc1
                obtain ⟨hw2, hx2⟩ := climb_ways lf p2.length p2 N I rfl (by omega) (by omega) hc2
                have hA : (inps (0 :: leaf) (ways N I p)).length = p.length + 1 := by rw [inps_len, ways_len N I p hw1]
                have hB : (inps (0 :: lf) (ways N I p2)).length = p.length + 1 := by rw [inps_len, ways_len N I p2 hw2]; omega
                have hAl : sha ((inps (0 :: leaf) (ways N I p)).getD ((inps (0 :: leaf) (ways N I p)).length - 1) default) = rt := by rw [inps_len, Nat.add_sub_cancel, inps_getD, ← hx1]; exact hr1
                have hBl : sha ((inps (0 :: lf) (ways N I p2)).getD ((inps (0 :: lf) (ways N I p2)).length - 1) default) = rt := by rw [inps_len, Nat.add_sub_cancel, inps_getD, ← hx2]; exact hr2
                have hAs := inps_le p hs leaf (by omega) N I
                have hBs := inps_le p2 hs2 lf (by omega) N I
                refine WC.skip ?_
                refine WX.then_normal ?_
                refine WC.seq ?_
                refine WC.free0 [0, 1, 2, 3, 4, 5, 6, 7, 8, 9, 10, 11, 12, 13, 14, 15, 16, 17] [] [0, 0, 0, 0, 0, 0, 0, 0, 1, 0, 0, 0, 0, 0, 0, 1, 0, 0] (by kernel_rfl) (by kernel_rfl) rfl ?_
                first
                  | (refine WJ.r rfl rfl rfl rfl rfl (rd_fa rfl rfl Try.underlying34 rfl (by kernel_rfl) (by (try simp only [Int.toNat_natCast, Nat.mul_one, Nat.zero_add, Nat.add_zero, Nat.zero_mul, Int.reduceToNat, Nat.reduceAdd, Nat.reduceMul, Nat.reduceSub, Nat.sub_zero]); rfl)) ?_)
                  | (refine WJ.r rfl rfl rfl rfl rfl (faf rfl rfl Try.underlying34 rfl (by kernel_rfl) (by (try simp only [Int.toNat_natCast, Nat.mul_one, Nat.zero_add, Nat.add_zero, Nat.zero_mul, Int.reduceToNat, Nat.reduceAdd, Nat.reduceMul, Nat.reduceSub, Nat.sub_zero]); rfl)) ?_)
                first
                  | (refine WJ.r rfl rfl rfl rfl rfl (ld rfl rfl .tc Try.underlying3 rfl (by rfl)) ?_)
                  | (refine WJ.r rfl rfl rfl rfl rfl (ldm rfl rfl Try.underlying3 rfl ?_) ?_; (focus (first | assumption | omega | (simp <;> omega) | (simp; done))))
                  | (refine WJ.r rfl rfl rfl rfl rfl (ldom rfl rfl Try.underlying3 rfl ?_) ?_; (focus (first | assumption | omega | (simp <;> omega) | (simp; done))))
                first
                  | (refine WJ.r rfl rfl rfl rfl rfl (rd_fa rfl rfl Try.underlying34 rfl (by kernel_rfl) (by (try simp only [Int.toNat_natCast, Nat.mul_one, Nat.zero_add, Nat.add_zero, Nat.zero_mul, Int.reduceToNat, Nat.reduceAdd, Nat.reduceMul, Nat.reduceSub, Nat.sub_zero]); rfl)) ?_)
                  | (refine WJ.r rfl rfl rfl rfl rfl (faf rfl rfl Try.underlying34 rfl (by kernel_rfl) (by (try simp only [Int.toNat_natCast, Nat.mul_one, Nat.zero_add, Nat.add_zero, Nat.zero_mul, Int.reduceToNat, Nat.reduceAdd, Nat.reduceMul, Nat.reduceSub, Nat.sub_zero]); rfl)) ?_)
                first
                  | (refine WJ.r rfl rfl rfl rfl rfl (ld rfl rfl .tc Try.underlying3 rfl (by rfl)) ?_)
                  | (refine WJ.r rfl rfl rfl rfl rfl (ldm rfl rfl Try.underlying3 rfl ?_) ?_; (focus (first | assumption | omega | (simp <;> omega) | (simp; done))))
                  | (refine WJ.r rfl rfl rfl rfl rfl (ldom rfl rfl Try.underlying3 rfl ?_) ?_; (focus (first | assumption | omega | (simp <;> omega) | (simp; done))))
                first
                  | (refine WJ.r rfl rfl rfl rfl rfl (rd_fa rfl rfl Try.underlying34 rfl (by kernel_rfl) (by (try simp only [Int.toNat_natCast, Nat.mul_one, Nat.zero_add, Nat.add_zero, Nat.zero_mul, Int.reduceToNat, Nat.reduceAdd, Nat.reduceMul, Nat.reduceSub, Nat.sub_zero]); rfl)) ?_)
                  | (refine WJ.r rfl rfl rfl rfl rfl (faf rfl rfl Try.underlying34 rfl (by kernel_rfl) (by (try simp only [Int.toNat_natCast, Nat.mul_one, Nat.zero_add, Nat.add_zero, Nat.zero_mul, Int.reduceToNat, Nat.reduceAdd, Nat.reduceMul, Nat.reduceSub, Nat.sub_zero]); rfl)) ?_)
                first
                  | (refine WJ.r rfl rfl rfl rfl rfl (ld rfl rfl .tc Try.underlying9 rfl (by rfl)) ?_)
                  | (refine WJ.r rfl rfl rfl rfl rfl (ldm rfl rfl Try.underlying9 rfl ?_) ?_; (focus (first | assumption | omega | (simp <;> omega) | (simp; done))))
                  | (refine WJ.r rfl rfl rfl rfl rfl (ldom rfl rfl Try.underlying9 rfl ?_) ?_; (focus (first | assumption | omega | (simp <;> omega) | (simp; done))))
                first
                  | (refine WJ.r rfl rfl rfl rfl rfl (rd_fa rfl rfl Try.underlying34 rfl (by kernel_rfl) (by (try simp only [Int.toNat_natCast, Nat.mul_one, Nat.zero_add, Nat.add_zero, Nat.zero_mul, Int.reduceToNat, Nat.reduceAdd, Nat.reduceMul, Nat.reduceSub, Nat.sub_zero]); rfl)) ?_)
                  | (refine WJ.r rfl rfl rfl rfl rfl (faf rfl rfl Try.underlying34 rfl (by kernel_rfl) (by (try simp only [Int.toNat_natCast, Nat.mul_one, Nat.zero_add, Nat.add_zero, Nat.zero_mul, Int.reduceToNat, Nat.reduceAdd, Nat.reduceMul, Nat.reduceSub, Nat.sub_zero]); rfl)) ?_)
                first
                  | (refine WJ.r rfl rfl rfl rfl rfl (ld rfl rfl .tc Try.underlying22 rfl (by rfl)) ?_)
                  | (refine WJ.r rfl rfl rfl rfl rfl (ldm rfl rfl Try.underlying22 rfl ?_) ?_; (focus (first | assumption | omega | (simp <;> omega) | (simp; done))))
                  | (refine WJ.r rfl rfl rfl rfl rfl (ldom rfl rfl Try.underlying22 rfl ?_) ?_; (focus (first | assumption | omega | (simp <;> omega) | (simp; done))))
                refine WJ.g rfl rfl rfl rfl rfl (fun ext => og_call rfl rfl (by kernel_rfl) (keep_f1 fun w hS => inputs_c (by first | exact hS.sl | exact hS.os | exact hS.oc | exact sl_takeM _ hS.sl | exact sl_dropM _ hS.sl | exact sl_cutM _ (by omega) hS.sl | exact sl_nil) (by first | assumption | omega | (simp <;> omega) | (simp; done)) (by first | assumption | omega | (simp <;> omega) | (simp; done)) (by first | assumption | omega | (simp <;> omega) | (simp; done)) (by first | assumption | omega | (simp <;> omega) | (simp; done)) (by first | assumption | omega | (simp <;> omega) | (simp; done)) (by first | assumption | omega | (simp <;> omega) | (simp; done)) (by first | assumption | omega | (simp <;> omega) | (simp; done)) (by first | assumption | omega | (simp <;> omega) | (simp; done)))) ?_
                intro g69 hg69; (try dsimp only at hg69 ⊢)
                first
                  | (refine WJ.r rfl rfl rfl rfl rfl (rd_fa rfl rfl Try.underlying34 rfl (by kernel_rfl) (by (try simp only [Int.toNat_natCast, Nat.mul_one, Nat.zero_add, Nat.add_zero, Nat.zero_mul, Int.reduceToNat, Nat.reduceAdd, Nat.reduceMul, Nat.reduceSub, Nat.sub_zero]); rfl)) ?_)
                  | (refine WJ.r rfl rfl rfl rfl rfl (faf rfl rfl Try.underlying34 rfl (by kernel_rfl) (by (try simp only [Int.toNat_natCast, Nat.mul_one, Nat.zero_add, Nat.add_zero, Nat.zero_mul, Int.reduceToNat, Nat.reduceAdd, Nat.reduceMul, Nat.reduceSub, Nat.sub_zero]); rfl)) ?_)
                first
                  | (refine WJ.r rfl rfl rfl rfl rfl (ld rfl rfl .tc Try.underlying3 rfl (by rfl)) ?_)
                  | (refine WJ.r rfl rfl rfl rfl rfl (ldm rfl rfl Try.underlying3 rfl ?_) ?_; (focus (first | assumption | omega | (simp <;> omega) | (simp; done))))
                  | (refine WJ.r rfl rfl rfl rfl rfl (ldom rfl rfl Try.underlying3 rfl ?_) ?_; (focus (first | assumption | omega | (simp <;> omega) | (simp; done))))
                first
                  | (refine WJ.r rfl rfl rfl rfl rfl (rd_fa rfl rfl Try.underlying34 rfl (by kernel_rfl) (by (try simp only [Int.toNat_natCast, Nat.mul_one, Nat.zero_add, Nat.add_zero, Nat.zero_mul, Int.reduceToNat, Nat.reduceAdd, Nat.reduceMul, Nat.reduceSub, Nat.sub_zero]); rfl)) ?_)
                  | (refine WJ.r rfl rfl rfl rfl rfl (faf rfl rfl Try.underlying34 rfl (by kernel_rfl) (by (try simp only [Int.toNat_natCast, Nat.mul_one, Nat.zero_add, Nat.add_zero, Nat.zero_mul, Int.reduceToNat, Nat.reduceAdd, Nat.reduceMul, Nat.reduceSub, Nat.sub_zero]); rfl)) ?_)
                first
                  | (refine WJ.r rfl rfl rfl rfl rfl (ld rfl rfl .tc Try.underlying3 rfl (by rfl)) ?_)
                  | (refine WJ.r rfl rfl rfl rfl rfl (ldm rfl rfl Try.underlying3 rfl ?_) ?_; (focus (first | assumption | omega | (simp <;> omega) | (simp; done))))
                  | (refine WJ.r rfl rfl rfl rfl rfl (ldom rfl rfl Try.underlying3 rfl ?_) ?_; (focus (first | assumption | omega | (simp <;> omega) | (simp; done))))
                refine WJ.r rfl rfl rfl rfl rfl (rd_move rfl rfl) ?_
                refine WJ.r rfl rfl rfl rfl rfl (rd_move rfl rfl) ?_
                refine WJ.g rfl rfl rfl rfl rfl (fun ext => og_call rfl rfl (by kernel_rfl) (keep_f1 fun w hS => inputs_c (by first | exact hS.sl | exact hS.os | exact hS.oc | exact sl_takeM _ hS.sl | exact sl_dropM _ hS.sl | exact sl_cutM _ (by omega) hS.sl | exact sl_nil) (by first | assumption | omega | (simp <;> omega) | (simp; done)) (by first | assumption | omega | (simp <;> omega) | (simp; done)) (by first | assumption | omega | (simp <;> omega) | (simp; done)) (by first | assumption | omega | (simp <;> omega) | (simp; done)) (by first | assumption | omega | (simp <;> omega) | (simp; done)) (by first | assumption | omega | (simp <;> omega) | (simp; done)) (by first | assumption | omega | (simp <;> omega) | (simp; done)) (by first | assumption | omega | (simp <;> omega) | (simp; done)))) ?_
                intro g76 hg76; (try dsimp only at hg76 ⊢)
                refine WJ.r rfl rfl rfl rfl rfl (rd_assign rfl rfl) ?_
                refine WJ.r rfl rfl rfl rfl rfl (rd_assign rfl rfl) ?_
                refine WJ.nil ?_
                refine WL.nt ?_
                refine WC.seq ?_
                refine WC.seq ?_
                refine WC.free0 [0, 1, 2, 3, 4, 5, 6, 7, 8, 9, 10, 11, 12, 13, 14, 15, 16, 17, 18, 19, 20, 21, 22, 23, 24, 25, 26, 27, 28, 29, 30, 31, 32, 33, 34, 35, 36] [] [0, 0, 0, 0, 0, 0, 0, 0, 0, 0, 0, 0, 0, 0, 0, 0, 0, 0, 0, 0, 1, 0, 0, 0, 0, 0, 0, 0, 0, 0, 0, 0, 1, 0, 0, 0, 0] (by kernel_rfl) (by kernel_rfl) rfl ?_
                refine WJ.r rfl rfl rfl rfl rfl (rd_move rfl rfl) ?_
                refine WJ.r rfl rfl rfl rfl rfl (rd_len rfl rfl Try.underlying22) ?_
                refine WJ.r rfl rfl rfl rfl rfl (rd_move rfl rfl) ?_
                refine WJ.r rfl rfl rfl rfl rfl (rd_len rfl rfl Try.underlying22) ?_
                refine WJ.r rfl rfl rfl rfl rfl (rd_neq rfl rfl rfl) ?_
                refine WJ.set 81 rfl (v' := .bool false) (by exact congrArg Value.bool (by simp; omega)) ?_
                refine WJ.r rfl rfl rfl rfl rfl (rd_move rfl rfl) ?_
                refine WJ.r rfl rfl rfl rfl rfl (rd_move rfl rfl) ?_
                refine WJ.r rfl rfl rfl rfl rfl (rd_len rfl rfl Try.underlying22) ?_
                first
                  | (refine WJ.r rfl rfl rfl rfl rfl (rd_fa rfl rfl Try.underlying34 rfl (by kernel_rfl) (by (try simp only [Int.toNat_natCast, Nat.mul_one, Nat.zero_add, Nat.add_zero, Nat.zero_mul, Int.reduceToNat, Nat.reduceAdd, Nat.reduceMul, Nat.reduceSub, Nat.sub_zero]); rfl)) ?_)
                  | (refine WJ.r rfl rfl rfl rfl rfl (faf rfl rfl Try.underlying34 rfl (by kernel_rfl) (by (try simp only [Int.toNat_natCast, Nat.mul_one, Nat.zero_add, Nat.add_zero, Nat.zero_mul, Int.reduceToNat, Nat.reduceAdd, Nat.reduceMul, Nat.reduceSub, Nat.sub_zero]); rfl)) ?_)
                first
                  | (refine WJ.r rfl rfl rfl rfl rfl (ld rfl rfl .tc Try.underlying22 rfl (by rfl)) ?_)
                  | (refine WJ.r rfl rfl rfl rfl rfl (ldm rfl rfl Try.underlying22 rfl ?_) ?_; (focus (first | assumption | omega | (simp <;> omega) | (simp; done))))
                  | (refine WJ.r rfl rfl rfl rfl rfl (ldom rfl rfl Try.underlying22 rfl ?_) ?_; (focus (first | assumption | omega | (simp <;> omega) | (simp; done))))
                refine WJ.r rfl rfl rfl rfl rfl (rd_len rfl rfl Try.underlying22) ?_
                refine WJ.r rfl rfl rfl rfl rfl (rd_neq rfl rfl rfl) ?_
                refine WJ.set 88 rfl (v' := .bool false) (by exact congrArg Value.bool (by simp; omega)) ?_
                refine WJ.r rfl rfl rfl rfl rfl (rd_pickf rfl rfl rfl) ?_
                refine WJ.r rfl rfl rfl rfl rfl (rd_move rfl rfl) ?_
                refine WJ.r rfl rfl rfl rfl rfl (rd_move rfl rfl) ?_
                refine WJ.r rfl rfl rfl rfl rfl (rd_move rfl rfl) ?_
                refine WJ.r rfl rfl rfl rfl rfl (rd_len rfl rfl Try.underlying22) ?_
                first
                  | (refine WJ.r rfl rfl rfl rfl rfl (rd_sub64nl rfl rfl rfl ?_) ?_; (focus (first | assumption | omega | (simp <;> omega) | (simp; done))))
                  | (refine WJ.r rfl rfl rfl rfl rfl (rd_sub64 rfl rfl rfl ?_) ?_; (focus (first | assumption | omega | (simp <;> omega) | (simp; done))))
                first
                  | (refine WJ.r rfl rfl rfl rfl rfl (rd_ia rfl rfl rfl Try.underlying22 (by kernel_rfl : _ = some 1) ?_ (by (try simp only [Int.toNat_natCast, Nat.mul_one, Nat.zero_add, Nat.add_zero, Nat.zero_mul, Int.reduceToNat, Nat.reduceAdd, Nat.reduceMul, Nat.reduceSub, Nat.sub_zero]); rfl)) ?_; (focus (first | assumption | omega | (simp <;> omega) | (simp; done))))
                  | (refine WJ.r rfl rfl rfl rfl rfl (iaf rfl rfl rfl Try.underlying22 (by kernel_rfl : _ = some 1) ?_ ?_ (by (try simp only [Int.toNat_natCast, Nat.mul_one, Nat.zero_add, Nat.add_zero, Nat.zero_mul, Int.reduceToNat, Nat.reduceAdd, Nat.reduceMul, Nat.reduceSub, Nat.sub_zero]); rfl)) ?_; (focus (first | assumption | omega | (simp <;> omega) | (simp; done))); (focus (first | (rw [List.length_map]; omega) | (rw [flatMap_len _ _ _ (fun _ => rfl)]; omega) | (simp <;> omega))))
                  | (refine WJ.r rfl rfl rfl rfl rfl (iao rfl rfl rfl Try.underlying22 (by kernel_rfl : _ = some 1) ?_ ?_ (by (try simp only [Int.toNat_natCast, Nat.mul_one, Nat.zero_add, Nat.add_zero, Nat.zero_mul, Int.reduceToNat, Nat.reduceAdd, Nat.reduceMul, Nat.reduceSub, Nat.sub_zero]); rfl)) ?_; (focus (first | assumption | omega | (simp <;> omega) | (simp; done))); (focus (first | (simp <;> omega) | (rw [List.length_append, List.length_map]; omega))))
                first
                  | (refine WJ.r rfl rfl rfl rfl rfl (ld rfl rfl .tc Try.underlying9 rfl (by rfl)) ?_)
                  | (refine WJ.r rfl rfl rfl rfl rfl (ldm rfl rfl Try.underlying9 rfl ?_) ?_; (focus (first | assumption | omega | (simp <;> omega) | (simp; done))))
                  | (refine WJ.r rfl rfl rfl rfl rfl (ldom rfl rfl Try.underlying9 rfl ?_) ?_; (focus (first | assumption | omega | (simp <;> omega) | (simp; done))))
                refine WJ.gv rfl rfl rfl rfl rfl (fun ext => og_call rfl rfl (by kernel_rfl) (keep_val fun w hS => sum_c (by exact hAs _))) ?_
                first
                  | (refine WJ.r rfl rfl rfl rfl rfl (rd_fa rfl rfl Try.underlying34 rfl (by kernel_rfl) (by (try simp only [Int.toNat_natCast, Nat.mul_one, Nat.zero_add, Nat.add_zero, Nat.zero_mul, Int.reduceToNat, Nat.reduceAdd, Nat.reduceMul, Nat.reduceSub, Nat.sub_zero]); rfl)) ?_)
                  | (refine WJ.r rfl rfl rfl rfl rfl (faf rfl rfl Try.underlying34 rfl (by kernel_rfl) (by (try simp only [Int.toNat_natCast, Nat.mul_one, Nat.zero_add, Nat.add_zero, Nat.zero_mul, Int.reduceToNat, Nat.reduceAdd, Nat.reduceMul, Nat.reduceSub, Nat.sub_zero]); rfl)) ?_)
                first
                  | (refine WJ.r rfl rfl rfl rfl rfl (ld rfl rfl .tc Try.underlying9 rfl (by rfl)) ?_)
                  | (refine WJ.r rfl rfl rfl rfl rfl (ldm rfl rfl Try.underlying9 rfl ?_) ?_; (focus (first | assumption | omega | (simp <;> omega) | (simp; done))))
                  | (refine WJ.r rfl rfl rfl rfl rfl (ldom rfl rfl Try.underlying9 rfl ?_) ?_; (focus (first | assumption | omega | (simp <;> omega) | (simp; done))))
                refine WJ.r rfl rfl rfl rfl rfl (rd_sne rfl rfl rfl) ?_
                refine WJ.set 100 rfl (v' := .bool false) (by exact congrArg Value.bool (by simp only [hAl]; simp)) ?_
                refine WJ.r rfl rfl rfl rfl rfl (rd_pickf rfl rfl rfl) ?_
                refine WJ.r rfl rfl rfl rfl rfl (rd_move rfl rfl) ?_
                refine WJ.r rfl rfl rfl rfl rfl (rd_move rfl rfl) ?_
                refine WJ.r rfl rfl rfl rfl rfl (rd_move rfl rfl) ?_
                refine WJ.r rfl rfl rfl rfl rfl (rd_len rfl rfl Try.underlying22) ?_
                first
                  | (refine WJ.r rfl rfl rfl rfl rfl (rd_sub64nl rfl rfl rfl ?_) ?_; (focus (first | assumption | omega | (simp <;> omega) | (simp; done))))
                  | (refine WJ.r rfl rfl rfl rfl rfl (rd_sub64 rfl rfl rfl ?_) ?_; (focus (first | assumption | omega | (simp <;> omega) | (simp; done))))
                first
                  | (refine WJ.r rfl rfl rfl rfl rfl (rd_ia rfl rfl rfl Try.underlying22 (by kernel_rfl : _ = some 1) ?_ (by (try simp only [Int.toNat_natCast, Nat.mul_one, Nat.zero_add, Nat.add_zero, Nat.zero_mul, Int.reduceToNat, Nat.reduceAdd, Nat.reduceMul, Nat.reduceSub, Nat.sub_zero]); rfl)) ?_; (focus (first | assumption | omega | (simp <;> omega) | (simp; done))))
                  | (refine WJ.r rfl rfl rfl rfl rfl (iaf rfl rfl rfl Try.underlying22 (by kernel_rfl : _ = some 1) ?_ ?_ (by (try simp only [Int.toNat_natCast, Nat.mul_one, Nat.zero_add, Nat.add_zero, Nat.zero_mul, Int.reduceToNat, Nat.reduceAdd, Nat.reduceMul, Nat.reduceSub, Nat.sub_zero]); rfl)) ?_; (focus (first | assumption | omega | (simp <;> omega) | (simp; done))); (focus (first | (rw [List.length_map]; omega) | (rw [flatMap_len _ _ _ (fun _ => rfl)]; omega) | (simp <;> omega))))
                  | (refine WJ.r rfl rfl rfl rfl rfl (iao rfl rfl rfl Try.underlying22 (by kernel_rfl : _ = some 1) ?_ ?_ (by (try simp only [Int.toNat_natCast, Nat.mul_one, Nat.zero_add, Nat.add_zero, Nat.zero_mul, Int.reduceToNat, Nat.reduceAdd, Nat.reduceMul, Nat.reduceSub, Nat.sub_zero]); rfl)) ?_; (focus (first | assumption | omega | (simp <;> omega) | (simp; done))); (focus (first | (simp <;> omega) | (rw [List.length_append, List.length_map]; omega))))
                first
                  | (refine WJ.r rfl rfl rfl rfl rfl (ld rfl rfl .tc Try.underlying9 rfl (by rfl)) ?_)
                  | (refine WJ.r rfl rfl rfl rfl rfl (ldm rfl rfl Try.underlying9 rfl ?_) ?_; (focus (first | assumption | omega | (simp <;> omega) | (simp; done))))
                  | (refine WJ.r rfl rfl rfl rfl rfl (ldom rfl rfl Try.underlying9 rfl ?_) ?_; (focus (first | assumption | omega | (simp <;> omega) | (simp; done))))
                refine WJ.gv rfl rfl rfl rfl rfl (fun ext => og_call rfl rfl (by kernel_rfl) (keep_val fun w hS => sum_c (by exact hBs _))) ?_
                first
                  | (refine WJ.r rfl rfl rfl rfl rfl (rd_fa rfl rfl Try.underlying34 rfl (by kernel_rfl) (by (try simp only [Int.toNat_natCast, Nat.mul_one, Nat.zero_add, Nat.add_zero, Nat.zero_mul, Int.reduceToNat, Nat.reduceAdd, Nat.reduceMul, Nat.reduceSub, Nat.sub_zero]); rfl)) ?_)
                  | (refine WJ.r rfl rfl rfl rfl rfl (faf rfl rfl Try.underlying34 rfl (by kernel_rfl) (by (try simp only [Int.toNat_natCast, Nat.mul_one, Nat.zero_add, Nat.add_zero, Nat.zero_mul, Int.reduceToNat, Nat.reduceAdd, Nat.reduceMul, Nat.reduceSub, Nat.sub_zero]); rfl)) ?_)
                first
                  | (refine WJ.r rfl rfl rfl rfl rfl (ld rfl rfl .tc Try.underlying9 rfl (by rfl)) ?_)
                  | (refine WJ.r rfl rfl rfl rfl rfl (ldm rfl rfl Try.underlying9 rfl ?_) ?_; (focus (first | assumption | omega | (simp <;> omega) | (simp; done))))
                  | (refine WJ.r rfl rfl rfl rfl rfl (ldom rfl rfl Try.underlying9 rfl ?_) ?_; (focus (first | assumption | omega | (simp <;> omega) | (simp; done))))
                refine WJ.r rfl rfl rfl rfl rfl (rd_sne rfl rfl rfl) ?_
                refine WJ.set 112 rfl (v' := .bool false) (by exact congrArg Value.bool (by simp only [hBl]; simp)) ?_
                refine WJ.r rfl rfl rfl rfl rfl (rd_pickf rfl rfl rfl) ?_
                refine WJ.nil ?_
                refine WL.nt ?_
                refine WC.cond rfl (fun h => by cases h) (fun _ => ?_)
                refine WC.skip ?_
                refine WX.then_normal ?_
                refine WC.seq ?_
                refine WC.sr ?_
                refine WL.r rfl rfl rfl (rd_move rfl rfl) ?_
                first
                  | (refine WL.r rfl rfl rfl (rd_fa rfl rfl Try.underlying34 rfl (by kernel_rfl) (by (try simp only [Int.toNat_natCast, Nat.mul_one, Nat.zero_add, Nat.add_zero, Nat.zero_mul, Int.reduceToNat, Nat.reduceAdd, Nat.reduceMul, Nat.reduceSub, Nat.sub_zero]); rfl)) ?_)
                  | (refine WL.r rfl rfl rfl (faf rfl rfl Try.underlying34 rfl (by kernel_rfl) (by (try simp only [Int.toNat_natCast, Nat.mul_one, Nat.zero_add, Nat.add_zero, Nat.zero_mul, Int.reduceToNat, Nat.reduceAdd, Nat.reduceMul, Nat.reduceSub, Nat.sub_zero]); rfl)) ?_)
                first
                  | (refine WL.r rfl rfl rfl (ld rfl rfl .tc Try.underlying9 rfl (by rfl)) ?_)
                  | (refine WL.r rfl rfl rfl (ldm rfl rfl Try.underlying9 rfl ?_) ?_; (focus (first | assumption | omega | (simp <;> omega) | (simp; done))))
                  | (refine WL.r rfl rfl rfl (ldom rfl rfl Try.underlying9 rfl ?_) ?_; (focus (first | assumption | omega | (simp <;> omega) | (simp; done))))
                refine WL.r rfl rfl rfl (rd_seq rfl rfl rfl) ?_
                refine WL.nt ?_
                refine WC.cond rfl (fun hc117 => ?_) (fun hc117 => ?_)
                · (try simp only [decide_eq_true_eq, decide_eq_false_iff_not, Bool.not_eq_true', Bool.not_eq_false', Bool.not_not, Int.not_lt, Int.not_le] at hc117)
                  refine WC.sr ?_
                  refine WL.g rfl rfl rfl (og_call rfl rfl (by kernel_rfl) (keep_val fun w hS => awake34_c)) ?_
                  intro _
                  refine WL.r rfl rfl rfl (rd_assign rfl rfl) ?_
                  refine WL.nt ?_
                  refine WC.ret ?_
                  refine WX.then_ret ?_
                  exact WX.retN rfl (.tmp rfl .nil) fun w' hS => ⟨by first | rfl | (simp [*]; done), hS.below⟩
                · (try simp only [decide_eq_true_eq, decide_eq_false_iff_not, Bool.not_eq_true', Bool.not_eq_false', Bool.not_not, Int.not_lt, Int.not_le] at hc117)
                  refine WC.skip ?_
                  refine WX.then_normal ?_
                  refine WC.seq ?_
                  refine WC.sr ?_
                  refine WL.r rfl rfl rfl (rd_move rfl rfl) ?_
                  refine WL.r rfl rfl rfl (rd_len rfl rfl Try.underlying22) ?_
                  first
                    | (refine WL.r rfl rfl rfl (rd_sub64nl rfl rfl rfl ?_) ?_; (focus (first | assumption | omega | (simp <;> omega) | (simp; done))))
                    | (refine WL.r rfl rfl rfl (rd_sub64 rfl rfl rfl ?_) ?_; (focus (first | assumption | omega | (simp <;> omega) | (simp; done))))
                  refine WL.set 121 rfl (v' := .int .i64 (((inps (0 :: leaf) (ways N I p)).length : Int) - 1)) (by congr 1; omega) ?_
                  refine WL.r rfl rfl rfl (rd_assign rfl rfl) ?_
                  refine WL.nt ?_
                  refine WC.block ?_
                  refine WC.loopP (σ := Nat) [(7, _), (8, _)] (fun g => [(9, .int .i64 ((g : Int) - 1))]) (fun g => g ≤ p.length + 1 ∧ ∀ k, g ≤ k → k < p.length + 1 → (inps (0 :: leaf) (ways N I p)).getD k default = (inps (0 :: lf) (ways N I p2)).getD k default) (fun g => g) ((inps (0 :: leaf) (ways N I p)).length) (sub_cons rfl (sub_cons rfl (sub_nil _))) (sub_cons rfl (sub_nil _)) (by (try dsimp only); exact ⟨by omega, fun k h1 h2 => by omega⟩) ?_
                  rintro t hinv1; (try dsimp only at hinv1 ⊢)
                  obtain ⟨ht, heq⟩ := hinv1
                  refine WC.seq ?_
                  refine WC.sr ?_
                  refine WL.r rfl rfl rfl (rd_move rfl rfl) ?_
                  refine WL.r rfl rfl rfl (rd_geq rfl rfl rfl) ?_
                  refine WL.nt ?_
                  refine WC.cond rfl (fun hc123 => ?_) (fun hc123 => ?_)
                  · (try simp only [decide_eq_true_eq, decide_eq_false_iff_not, Bool.not_eq_true', Bool.not_eq_false', Bool.not_not, Int.not_lt, Int.not_le] at hc123)
                    obtain ⟨u, rfl⟩ : ∃ u, t = u + 1 := ⟨t - 1, by omega⟩
                    refine WC.set 9 rfl (v' := .int .i64 (u : Int)) (by congr 1; omega) ?_
                    refine WC.skip ?_
                    refine WX.then_normal ?_
                    refine WC.seq ?_
                    refine WC.block ?_
                    refine WC.seq ?_
                    refine WC.free0 [0, 1, 2, 3, 4, 5, 6, 7, 8] [] [0, 0, 0, 0, 0, 0, 0, 0, 0] (by kernel_rfl) (by kernel_rfl) rfl ?_
                    refine WJ.r rfl rfl rfl rfl rfl (rd_move rfl rfl) ?_
                    refine WJ.r rfl rfl rfl rfl rfl (rd_move rfl rfl) ?_
                    first
                      | (refine WJ.r rfl rfl rfl rfl rfl (rd_ia rfl rfl rfl Try.underlying22 (by kernel_rfl : _ = some 1) ?_ (by (try simp only [Int.toNat_natCast, Nat.mul_one, Nat.zero_add, Nat.add_zero, Nat.zero_mul, Int.reduceToNat, Nat.reduceAdd, Nat.reduceMul, Nat.reduceSub, Nat.sub_zero]); rfl)) ?_; (focus (first | assumption | omega | (simp <;> omega) | (simp; done))))
                      | (refine WJ.r rfl rfl rfl rfl rfl (iaf rfl rfl rfl Try.underlying22 (by kernel_rfl : _ = some 1) ?_ ?_ (by (try simp only [Int.toNat_natCast, Nat.mul_one, Nat.zero_add, Nat.add_zero, Nat.zero_mul, Int.reduceToNat, Nat.reduceAdd, Nat.reduceMul, Nat.reduceSub, Nat.sub_zero]); rfl)) ?_; (focus (first | assumption | omega | (simp <;> omega) | (simp; done))); (focus (first | (rw [List.length_map]; omega) | (rw [flatMap_len _ _ _ (fun _ => rfl)]; omega) | (simp <;> omega))))
                      | (refine WJ.r rfl rfl rfl rfl rfl (iao rfl rfl rfl Try.underlying22 (by kernel_rfl : _ = some 1) ?_ ?_ (by (try simp only [Int.toNat_natCast, Nat.mul_one, Nat.zero_add, Nat.add_zero, Nat.zero_mul, Int.reduceToNat, Nat.reduceAdd, Nat.reduceMul, Nat.reduceSub, Nat.sub_zero]); rfl)) ?_; (focus (first | assumption | omega | (simp <;> omega) | (simp; done))); (focus (first | (simp <;> omega) | (rw [List.length_append, List.length_map]; omega))))
                    first
                      | (refine WJ.r rfl rfl rfl rfl rfl (ld rfl rfl .tc Try.underlying9 rfl (by rfl)) ?_)
                      | (refine WJ.r rfl rfl rfl rfl rfl (ldm rfl rfl Try.underlying9 rfl ?_) ?_; (focus (first | assumption | omega | (simp <;> omega) | (simp; done))))
                      | (refine WJ.r rfl rfl rfl rfl rfl (ldom rfl rfl Try.underlying9 rfl ?_) ?_; (focus (first | assumption | omega | (simp <;> omega) | (simp; done))))
                    refine WJ.r rfl rfl rfl rfl rfl (rd_move rfl rfl) ?_
                    refine WJ.r rfl rfl rfl rfl rfl (rd_move rfl rfl) ?_
                    first
                      | (refine WJ.r rfl rfl rfl rfl rfl (rd_ia rfl rfl rfl Try.underlying22 (by kernel_rfl : _ = some 1) ?_ (by (try simp only [Int.toNat_natCast, Nat.mul_one, Nat.zero_add, Nat.add_zero, Nat.zero_mul, Int.reduceToNat, Nat.reduceAdd, Nat.reduceMul, Nat.reduceSub, Nat.sub_zero]); rfl)) ?_; (focus (first | assumption | omega | (simp <;> omega) | (simp; done))))
                      | (refine WJ.r rfl rfl rfl rfl rfl (iaf rfl rfl rfl Try.underlying22 (by kernel_rfl : _ = some 1) ?_ ?_ (by (try simp only [Int.toNat_natCast, Nat.mul_one, Nat.zero_add, Nat.add_zero, Nat.zero_mul, Int.reduceToNat, Nat.reduceAdd, Nat.reduceMul, Nat.reduceSub, Nat.sub_zero]); rfl)) ?_; (focus (first | assumption | omega | (simp <;> omega) | (simp; done))); (focus (first | (rw [List.length_map]; omega) | (rw [flatMap_len _ _ _ (fun _ => rfl)]; omega) | (simp <;> omega))))
                      | (refine WJ.r rfl rfl rfl rfl rfl (iao rfl rfl rfl Try.underlying22 (by kernel_rfl : _ = some 1) ?_ ?_ (by (try simp only [Int.toNat_natCast, Nat.mul_one, Nat.zero_add, Nat.add_zero, Nat.zero_mul, Int.reduceToNat, Nat.reduceAdd, Nat.reduceMul, Nat.reduceSub, Nat.sub_zero]); rfl)) ?_; (focus (first | assumption | omega | (simp <;> omega) | (simp; done))); (focus (first | (simp <;> omega) | (rw [List.length_append, List.length_map]; omega))))
                    first
                      | (refine WJ.r rfl rfl rfl rfl rfl (ld rfl rfl .tc Try.underlying9 rfl (by rfl)) ?_)
                      | (refine WJ.r rfl rfl rfl rfl rfl (ldm rfl rfl Try.underlying9 rfl ?_) ?_; (focus (first | assumption | omega | (simp <;> omega) | (simp; done))))
                      | (refine WJ.r rfl rfl rfl rfl rfl (ldom rfl rfl Try.underlying9 rfl ?_) ?_; (focus (first | assumption | omega | (simp <;> omega) | (simp; done))))
                    refine WJ.r rfl rfl rfl rfl rfl (rd_sne rfl rfl rfl) ?_
                    refine WJ.nil ?_
                    refine WL.nt ?_
                    refine WC.cond rfl (fun hc134 => ?_) (fun hc134 => ?_)
                    · (try simp only [decide_eq_true_eq, decide_eq_false_iff_not, Bool.not_eq_true', Bool.not_eq_false', Bool.not_not, Int.not_lt, Int.not_le] at hc134)
                      have hsh : sha ((inps (0 :: leaf) (ways N I p)).getD u default) = sha ((inps (0 :: lf) (ways N I p2)).getD u default) := by
                        by_cases hu : u = p.length
                        · subst hu
                          rw [hA, Nat.add_sub_cancel] at hAl; rw [hB, Nat.add_sub_cancel] at hBl; rw [hAl, hBl]
                        · have h1 := inps_get (0 :: leaf) (ways N I p) (u + 1) (by omega)
                          have h2 := inps_get (0 :: lf) (ways N I p2) (u + 1) (by omega)
                          rw [heq (u + 1) (by omega) (by omega)] at h1
                          exact inps_link _ _ _ _ u _ _ _ (by rw [ways_fst N I p hw1, ways_fst N I p2 hw2]) (inps_get _ _ u (by omega)) (inps_get _ _ u (by omega)) h1 h2
                      refine WC.seq ?_
                      refine WC.free0 [0, 1, 2, 3, 4, 5, 6, 7, 8, 9, 10, 11, 12, 13, 14] [] [1, 0, 0, 0, 0, 0, 1, 0, 0, 0, 0, 1, 0, 0, 0] (by kernel_rfl) (by kernel_rfl) rfl ?_
                      refine WJ.gv rfl rfl rfl rfl rfl (fun ext => og_call rfl rfl (by kernel_rfl) (keep_val fun w hS => awake34_c)) ?_
                      refine WJ.set 135 rfl (v' := .bool true) (by rfl) ?_
                      refine WJ.r rfl rfl rfl rfl rfl (rd_move rfl rfl) ?_
                      refine WJ.r rfl rfl rfl rfl rfl (rd_move rfl rfl) ?_
                      refine WJ.r rfl rfl rfl rfl rfl (rd_move rfl rfl) ?_
                      first
                        | (refine WJ.r rfl rfl rfl rfl rfl (rd_ia rfl rfl rfl Try.underlying22 (by kernel_rfl : _ = some 1) ?_ (by (try simp only [Int.toNat_natCast, Nat.mul_one, Nat.zero_add, Nat.add_zero, Nat.zero_mul, Int.reduceToNat, Nat.reduceAdd, Nat.reduceMul, Nat.reduceSub, Nat.sub_zero]); rfl)) ?_; (focus (first | assumption | omega | (simp <;> omega) | (simp; done))))
                        | (refine WJ.r rfl rfl rfl rfl rfl (iaf rfl rfl rfl Try.underlying22 (by kernel_rfl : _ = some 1) ?_ ?_ (by (try simp only [Int.toNat_natCast, Nat.mul_one, Nat.zero_add, Nat.add_zero, Nat.zero_mul, Int.reduceToNat, Nat.reduceAdd, Nat.reduceMul, Nat.reduceSub, Nat.sub_zero]); rfl)) ?_; (focus (first | assumption | omega | (simp <;> omega) | (simp; done))); (focus (first | (rw [List.length_map]; omega) | (rw [flatMap_len _ _ _ (fun _ => rfl)]; omega) | (simp <;> omega))))
                        | (refine WJ.r rfl rfl rfl rfl rfl (iao rfl rfl rfl Try.underlying22 (by kernel_rfl : _ = some 1) ?_ ?_ (by (try simp only [Int.toNat_natCast, Nat.mul_one, Nat.zero_add, Nat.add_zero, Nat.zero_mul, Int.reduceToNat, Nat.reduceAdd, Nat.reduceMul, Nat.reduceSub, Nat.sub_zero]); rfl)) ?_; (focus (first | assumption | omega | (simp <;> omega) | (simp; done))); (focus (first | (simp <;> omega) | (rw [List.length_append, List.length_map]; omega))))
                      first
                        | (refine WJ.r rfl rfl rfl rfl rfl (ld rfl rfl .tc Try.underlying9 rfl (by rfl)) ?_)
                        | (refine WJ.r rfl rfl rfl rfl rfl (ldm rfl rfl Try.underlying9 rfl ?_) ?_; (focus (first | assumption | omega | (simp <;> omega) | (simp; done))))
                        | (refine WJ.r rfl rfl rfl rfl rfl (ldom rfl rfl Try.underlying9 rfl ?_) ?_; (focus (first | assumption | omega | (simp <;> omega) | (simp; done))))
                      refine WJ.gv rfl rfl rfl rfl rfl (fun ext => og_call rfl rfl (by kernel_rfl) (keep_val fun w hS => sum_c (by exact hAs _))) ?_
                      refine WJ.r rfl rfl rfl rfl rfl (rd_move rfl rfl) ?_
                      refine WJ.r rfl rfl rfl rfl rfl (rd_move rfl rfl) ?_
                      first
                        | (refine WJ.r rfl rfl rfl rfl rfl (rd_ia rfl rfl rfl Try.underlying22 (by kernel_rfl : _ = some 1) ?_ (by (try simp only [Int.toNat_natCast, Nat.mul_one, Nat.zero_add, Nat.add_zero, Nat.zero_mul, Int.reduceToNat, Nat.reduceAdd, Nat.reduceMul, Nat.reduceSub, Nat.sub_zero]); rfl)) ?_; (focus (first | assumption | omega | (simp <;> omega) | (simp; done))))
                        | (refine WJ.r rfl rfl rfl rfl rfl (iaf rfl rfl rfl Try.underlying22 (by kernel_rfl : _ = some 1) ?_ ?_ (by (try simp only [Int.toNat_natCast, Nat.mul_one, Nat.zero_add, Nat.add_zero, Nat.zero_mul, Int.reduceToNat, Nat.reduceAdd, Nat.reduceMul, Nat.reduceSub, Nat.sub_zero]); rfl)) ?_; (focus (first | assumption | omega | (simp <;> omega) | (simp; done))); (focus (first | (rw [List.length_map]; omega) | (rw [flatMap_len _ _ _ (fun _ => rfl)]; omega) | (simp <;> omega))))
                        | (refine WJ.r rfl rfl rfl rfl rfl (iao rfl rfl rfl Try.underlying22 (by kernel_rfl : _ = some 1) ?_ ?_ (by (try simp only [Int.toNat_natCast, Nat.mul_one, Nat.zero_add, Nat.add_zero, Nat.zero_mul, Int.reduceToNat, Nat.reduceAdd, Nat.reduceMul, Nat.reduceSub, Nat.sub_zero]); rfl)) ?_; (focus (first | assumption | omega | (simp <;> omega) | (simp; done))); (focus (first | (simp <;> omega) | (rw [List.length_append, List.length_map]; omega))))
                      first
                        | (refine WJ.r rfl rfl rfl rfl rfl (ld rfl rfl .tc Try.underlying9 rfl (by rfl)) ?_)
                        | (refine WJ.r rfl rfl rfl rfl rfl (ldm rfl rfl Try.underlying9 rfl ?_) ?_; (focus (first | assumption | omega | (simp <;> omega) | (simp; done))))
                        | (refine WJ.r rfl rfl rfl rfl rfl (ldom rfl rfl Try.underlying9 rfl ?_) ?_; (focus (first | assumption | omega | (simp <;> omega) | (simp; done))))
                      refine WJ.gv rfl rfl rfl rfl rfl (fun ext => og_call rfl rfl (by kernel_rfl) (keep_val fun w hS => sum_c (by exact hBs _))) ?_
                      refine WJ.r rfl rfl rfl rfl rfl (rd_seq rfl rfl rfl) ?_
                      refine WJ.set 147 rfl (v' := .bool true) (by exact congrArg Value.bool (decide_eq_true hsh)) ?_
                      refine WJ.r rfl rfl rfl rfl rfl (rd_pickt rfl rfl rfl) ?_
                      refine WJ.r rfl rfl rfl rfl rfl (rd_assign rfl rfl) ?_
                      refine WJ.nil ?_
                      refine WL.nt ?_
                      refine WC.ret ?_
                      refine WX.block_ret ?_
                      refine WX.then_ret ?_
                      refine WX.then_ret ?_
                      refine WX.block_ret ?_
                      refine WX.then_ret ?_
                      exact WX.retN rfl (.tmp rfl .nil) fun w' hS => ⟨by first | rfl | (simp [*]; done), hS.below⟩
                    · (try simp only [decide_eq_true_eq, decide_eq_false_iff_not, Bool.not_eq_true', Bool.not_eq_false', Bool.not_not, Int.not_lt, Int.not_le] at hc134)
                      refine WC.skip ?_
                      refine WX.block_normal ?_
                      refine WX.then_normal ?_
                      refine WC.region ?_
                      refine WL.r rfl rfl rfl (rd_move rfl rfl) ?_
                      first
                        | (refine WL.r rfl rfl rfl (rd_sub64nl rfl rfl rfl ?_) ?_; (focus (first | assumption | omega | (simp <;> omega) | (simp; done))))
                        | (refine WL.r rfl rfl rfl (rd_sub64 rfl rfl rfl ?_) ?_; (focus (first | assumption | omega | (simp <;> omega) | (simp; done))))
                      refine WL.r rfl rfl rfl (rd_assign rfl rfl) ?_
                      refine WL.nil ?_
                      refine WX.loopP (u) (by (try dsimp only); omega) (sub_cons rfl (sub_cons rfl (sub_nil _))) (by refine (sub_cons ?_ (sub_nil _)) <;> (first | rfl | (simp only [List.length_append, List.length_cons, List.length_nil, Nat.zero_add]; rfl) | (dsimp only; first | rfl | (congr 2; omega) | (congr 3; omega)))) ?_ (by first | exact fun _ h => h | exact st_sub)
                      (try dsimp only)
                      refine ⟨by omega, fun k h1 h2 => ?_⟩
                      by_cases hk : k = u
                      · subst hk; simpa using hc134
                      · exact heq k (by omega) h2
                  · (try simp only [decide_eq_true_eq, decide_eq_false_iff_not, Bool.not_eq_true', Bool.not_eq_false', Bool.not_not, Int.not_lt, Int.not_le] at hc123)
                    exfalso
                    have h0 := heq 0 (by omega) (by omega)
                    have h1 := inps_get (0 :: leaf) (ways N I p) 0 (by omega)
                    have h2 := inps_get (0 :: lf) (ways N I p2) 0 (by omega)
                    rw [inps_head] at h1 h2
                    rw [← h0] at h2
                    have h3 := h1.trans h2.symm
                    simp at h3
                    exact hc117 h3.symm -- done
end Go.Proofs.Ytenjafedpcpoaaa
