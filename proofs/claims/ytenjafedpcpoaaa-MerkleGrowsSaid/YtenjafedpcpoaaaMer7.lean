/-
  The examples of the chapter on hash trees; MerkleRoots and MerklePaths.
-/
import Derived.Test.YtenjafedpcpoaaaMer6
namespace Go.Proofs.Ytenjafedpcpoaaa
set_option linter.unusedSimpArgs false
set_option linter.unusedVariables false
open Go.RowKit

section
variable {P : Program} {ok : Nat → Prop} {w0 : World} {own : List Ent} {fs : List Fact}
/-- a slice that a call hands over, taken as one that stands -/
theorem keep_gs {f : FuncId} {args : Array Value} {val : GS → Value} {l : List Bs} {n : Nat} (h : ∀ w, St ok w0 own fs w → Calls P f args w (fun e w' => ∃ g : GS, e = .returned (val g) ∧ g.cap = n + g.sp.length ∧ St (fun _ => True) w [g.ent l] [] w')) :
    ∀ w, St ok w0 own fs w → Calls P f args w (fun e w' => ∃ g : { g : GS // g.cap = n + g.sp.length }, e = .returned (val g.1) ∧ St ok w0 own (Fact.sl (g.1.ob.map fun b => ⟨b, 0, none⟩) (strs l) :: fs) w') :=
  fun w hS => (h w hS).mono fun _ _ ⟨g, he, hg, hn⟩ => ⟨⟨g, hg⟩, he, by
    have h1 := hS.keep hn.below
    have h2 := new_fact (ok := fun b => ok b ∧ b ∉ ids own) hn hS.fresh
    exact h1.addF (h2.2 _ (by simp))⟩
end

def L3 : List Bs := [[97], [98], [99]]
def P0 : List Bs := [leafH [98], leafH [99]]
theorem ex_path0 : pathR L3 0 = (P0, 0) := by kernel_rfl
theorem ex_path2 : pathR L3 2 = ([root [[97], [98]]], 0) := by kernel_rfl
theorem ex_betw : betwR L3 2 = ([leafH [99]], 0) := by kernel_rfl
theorem ex_inc : inclB (root L3) 3 0 [97] P0 = true := by
  have h : climb (leafH [97]) 3 0 P0.reverse = (root L3, true) := by kernel_rfl
  show (decide (0 ≤ (0 : Int) ∧ (0 : Int) < 3) && ((climb (leafH [97]) 3 0 P0.reverse).2 && decide ((climb (leafH [97]) 3 0 P0.reverse).1 = root L3))) = true
  rw [h]; simp
theorem ex_not : inclB (root L3) 3 1 [97] P0 = false := by decide +kernel

theorem awake_ok (w : World) : Calls Try.prog 11 #[] w fun e w' => e = .returned (.bool true) ∧ Below w.heap.size w w' := by
  refine enter (S := St (fun _ => True) w [] []) (L := []) Try.func11 rfl Try.ntmps11 rfl (args_nil _) (St.start (fun _ _ => trivial) (by simp)) ?_
  refine WC.seq ?_
  refine WC.region ?_
  refine WL.r rfl rfl rfl (rd_assign rfl rfl) ?_
  refine WL.nil ?_
  refine WX.then_normal ?_
  refine WC.seq ?_
  refine WC.region ?_
  refine WL.g rfl rfl rfl (og_bs1 rfl rfl Try.underlying22 (by kernel_rfl : _ = some (some (.string (S [])), 1, 16)) rfl (by simp only [List.map]; rfl) rfl rfl ?_ (by decide)) ?_
  · simp [Value.cells]
  intro b10
  refine WL.st (S' := St (fun _ => True) w [] [Fact.sl (some ⟨b10, 0, none⟩) (strs L3)]) (fun w h => h.freeze (fun i hi => by rw [Nat.zero_add]; rfl)) ?_
  refine WL.r rfl rfl rfl (rd_assign rfl rfl) ?_
  refine WL.nil ?_
  refine WX.then_normal ?_
  refine WC.seq ?_
  refine WC.region ?_
  refine WL.r rfl rfl rfl (rd_move rfl rfl) ?_
  refine WL.g rfl rfl rfl (og_call rfl rfl (by kernel_rfl) (keep_gs (l := P0) (n := 2) (val := fun g => .tuple #[g.val 2, .int .i64 0]) fun w hS => by have h := Path_ok L3 0 (by decide) (by decide) (some ⟨b10, 0, none⟩) 3 3 rfl (by decide) _ w (hS.fact _ (by simp)); rw [ex_path0] at h; exact h)) ?_
  rintro ⟨⟨ob1, cp1, sp1⟩, hg1⟩; simp only [GS.val]; dsimp only at hg1
  refine WL.r rfl rfl rfl (rd_move rfl rfl) ?_
  first
    | (refine WL.r rfl rfl rfl (rd_x20 rfl rfl) ?_)
    | (refine WL.r rfl rfl rfl (rd_x30 rfl rfl) ?_)
    | (refine WL.r rfl rfl rfl (rd_ext rfl rfl rfl) ?_)
  first
    | (refine WL.r rfl rfl rfl (rd_x21 rfl rfl) ?_)
    | (refine WL.r rfl rfl rfl (rd_x31 rfl rfl) ?_)
    | (refine WL.r rfl rfl rfl (rd_ext rfl rfl rfl) ?_)
  refine WL.r rfl rfl rfl (rd_assign rfl rfl) ?_
  refine WL.r rfl rfl rfl (rd_assign rfl rfl) ?_
  refine WL.nil ?_
  refine WX.then_normal ?_
  refine WC.seq ?_
  refine WC.region ?_
  refine WL.r rfl rfl rfl (rd_move rfl rfl) ?_
  refine WL.g rfl rfl rfl (og_call rfl rfl (by kernel_rfl) (keep_gs (l := [root [[97], [98]]]) (n := 1) (val := fun g => .tuple #[g.val 1, .int .i64 0]) fun w hS => by have h := Path_ok L3 2 (by decide) (by decide) (some ⟨b10, 0, none⟩) 3 3 rfl (by decide) _ w (hS.fact (Fact.sl (some ⟨b10, 0, none⟩) (strs L3)) (by simp)); rw [ex_path2] at h; exact h)) ?_
  rintro ⟨⟨ob2, cp2, sp2⟩, hg2⟩; simp only [GS.val]; dsimp only at hg2
  refine WL.r rfl rfl rfl (rd_move rfl rfl) ?_
  first
    | (refine WL.r rfl rfl rfl (rd_x20 rfl rfl) ?_)
    | (refine WL.r rfl rfl rfl (rd_x30 rfl rfl) ?_)
    | (refine WL.r rfl rfl rfl (rd_ext rfl rfl rfl) ?_)
  first
    | (refine WL.r rfl rfl rfl (rd_x21 rfl rfl) ?_)
    | (refine WL.r rfl rfl rfl (rd_x31 rfl rfl) ?_)
    | (refine WL.r rfl rfl rfl (rd_ext rfl rfl rfl) ?_)
  refine WL.r rfl rfl rfl (rd_assign rfl rfl) ?_
  refine WL.r rfl rfl rfl (rd_assign rfl rfl) ?_
  refine WL.nil ?_
  refine WX.then_normal ?_
  refine WC.seq ?_
  refine WC.region ?_
  refine WL.r rfl rfl rfl (rd_move rfl rfl) ?_
  refine WL.g rfl rfl rfl (og_call rfl rfl (by kernel_rfl) (keep_gs (l := [leafH [99]]) (n := 1) (val := fun g => .tuple #[g.val 1, .int .i64 0]) fun w hS => by have h := Between_ok L3 2 (by decide) (by decide) (some ⟨b10, 0, none⟩) 3 3 rfl (by decide) _ w (hS.fact (Fact.sl (some ⟨b10, 0, none⟩) (strs L3)) (by simp)); rw [ex_betw] at h; exact h)) ?_
  rintro ⟨⟨ob3, cp3, sp3⟩, hg3⟩; simp only [GS.val]; dsimp only at hg3
  refine WL.r rfl rfl rfl (rd_move rfl rfl) ?_
  first
    | (refine WL.r rfl rfl rfl (rd_x20 rfl rfl) ?_)
    | (refine WL.r rfl rfl rfl (rd_x30 rfl rfl) ?_)
    | (refine WL.r rfl rfl rfl (rd_ext rfl rfl rfl) ?_)
  first
    | (refine WL.r rfl rfl rfl (rd_x21 rfl rfl) ?_)
    | (refine WL.r rfl rfl rfl (rd_x31 rfl rfl) ?_)
    | (refine WL.r rfl rfl rfl (rd_ext rfl rfl rfl) ?_)
  refine WL.r rfl rfl rfl (rd_assign rfl rfl) ?_
  refine WL.r rfl rfl rfl (rd_assign rfl rfl) ?_
  refine WL.nil ?_
  refine WX.then_normal ?_
  refine WC.seq ?_
  refine WC.region ?_
  refine WL.g rfl rfl rfl (og_call rfl rfl (by kernel_rfl) (keep_val fun w _ => sum_ok [0, 98] (by decide) w)) ?_
  intro _
  refine WL.g rfl rfl rfl (og_call rfl rfl (by kernel_rfl) (keep_val fun w _ => sum_ok [0, 99] (by decide) w)) ?_
  intro _
  refine WL.r rfl rfl rfl (rd_assign rfl rfl) ?_
  refine WL.r rfl rfl rfl (rd_assign rfl rfl) ?_
  refine WL.nil ?_
  refine WX.then_normal ?_
  refine WC.seq ?_
  refine WC.region ?_
  refine WL.r rfl rfl rfl (rd_move rfl rfl) ?_
  refine WL.r rfl rfl rfl (rd_eql rfl rfl rfl) ?_
  refine WL.set 29 rfl (v' := .bool true) (by rfl) ?_
  refine WL.r rfl rfl rfl (rd_move rfl rfl) ?_
  refine WL.r rfl rfl rfl (rd_move rfl rfl) ?_
  refine WL.r rfl rfl rfl (rd_move rfl rfl) ?_
  refine WL.r rfl rfl rfl (rd_move rfl rfl) ?_
  refine WL.g rfl rfl rfl (og_bs1 rfl rfl Try.underlying22 (by kernel_rfl : _ = some (some (.string (S [])), 1, 16)) rfl (by simp only [List.map]; rfl) rfl rfl ?_ (by decide)) ?_
  · simp [Value.cells]
  intro b34
  refine WL.g rfl rfl rfl (og_call rfl rfl (by kernel_rfl) (keep_val fun w hS => same_ok P0 P0 (by decide) _ _ _ _ _ _ rfl rfl _ _ w (hS.fact (Fact.sl (ob1.map fun b => ⟨b, 0, none⟩) (strs P0)) (by simp)) (own_fact hS .here))) ?_
  intro _
  refine WL.set 35 rfl (v' := .bool true) (by exact congrArg Value.bool (decide_eq_true rfl)) ?_
  refine WL.r rfl rfl rfl (rd_pickt rfl rfl rfl) ?_
  refine WL.r rfl rfl rfl (rd_move rfl rfl) ?_
  refine WL.r rfl rfl rfl (rd_move rfl rfl) ?_
  refine WL.r rfl rfl rfl (rd_eql rfl rfl rfl) ?_
  refine WL.set 39 rfl (v' := .bool true) (by rfl) ?_
  refine WL.r rfl rfl rfl (rd_pickt rfl rfl rfl) ?_
  refine WL.r rfl rfl rfl (rd_move rfl rfl) ?_
  refine WL.r rfl rfl rfl (rd_move rfl rfl) ?_
  refine WL.r rfl rfl rfl (rd_move rfl rfl) ?_
  refine WL.r rfl rfl rfl (rd_slt rfl rfl rfl Try.underlying22 (by kernel_rfl : _ = some 1) ?_ (by (try simp only [Int.toNat_natCast, Nat.mul_one, Nat.zero_add, Nat.add_zero, Nat.zero_mul, Int.reduceToNat, Nat.reduceAdd, Nat.reduceMul, Nat.reduceSub, Nat.sub_zero]); rfl)) ?_
  · omega
  refine WL.g rfl rfl rfl (og_call rfl rfl (by kernel_rfl) (keep_val fun w hS => root_ok [[97], [98]] (by decide) (by decide) (some ⟨b10, 0, none⟩) 2 3 rfl (by decide) _ w (sl_take 2 (hS.fact (Fact.sl (some ⟨b10, 0, none⟩) (strs L3)) (by simp))))) ?_
  intro _
  refine WL.g rfl rfl rfl (og_bs1 rfl rfl Try.underlying22 (by kernel_rfl : _ = some (some (.string (S [])), 1, 16)) rfl (by simp only [List.map]; rfl) rfl rfl ?_ (by decide)) ?_
  · simp [Value.cells]
  intro b46
  refine WL.g rfl rfl rfl (og_call rfl rfl (by kernel_rfl) (keep_val fun w hS => same_ok [root [[97], [98]]] [root [[97], [98]]] (by decide) _ _ _ _ _ _ rfl rfl _ _ w (hS.fact (Fact.sl (ob2.map fun b => ⟨b, 0, none⟩) (strs [root [[97], [98]]])) (by simp)) (own_fact hS .here))) ?_
  intro _
  refine WL.set 47 rfl (v' := .bool true) (by exact congrArg Value.bool (decide_eq_true rfl)) ?_
  refine WL.r rfl rfl rfl (rd_pickt rfl rfl rfl) ?_
  refine WL.r rfl rfl rfl (rd_move rfl rfl) ?_
  refine WL.r rfl rfl rfl (rd_move rfl rfl) ?_
  refine WL.r rfl rfl rfl (rd_eql rfl rfl rfl) ?_
  refine WL.set 51 rfl (v' := .bool true) (by rfl) ?_
  refine WL.r rfl rfl rfl (rd_pickt rfl rfl rfl) ?_
  refine WL.r rfl rfl rfl (rd_move rfl rfl) ?_
  refine WL.r rfl rfl rfl (rd_move rfl rfl) ?_
  refine WL.r rfl rfl rfl (rd_move rfl rfl) ?_
  refine WL.g rfl rfl rfl (og_bs1 rfl rfl Try.underlying22 (by kernel_rfl : _ = some (some (.string (S [])), 1, 16)) rfl (by simp only [List.map]; rfl) rfl rfl ?_ (by decide)) ?_
  · simp [Value.cells]
  intro b56
  refine WL.g rfl rfl rfl (og_call rfl rfl (by kernel_rfl) (keep_val fun w hS => same_ok [leafH [99]] [leafH [99]] (by decide) _ _ _ _ _ _ rfl rfl _ _ w (hS.fact (Fact.sl (ob3.map fun b => ⟨b, 0, none⟩) (strs [leafH [99]])) (by simp)) (own_fact hS .here))) ?_
  intro _
  refine WL.set 57 rfl (v' := .bool true) (by exact congrArg Value.bool (decide_eq_true rfl)) ?_
  refine WL.r rfl rfl rfl (rd_pickt rfl rfl rfl) ?_
  refine WL.r rfl rfl rfl (rd_move rfl rfl) ?_
  refine WL.r rfl rfl rfl (rd_move rfl rfl) ?_
  refine WL.g rfl rfl rfl (og_call rfl rfl (by kernel_rfl) (keep_val fun w hS => root_ok L3 (by decide) (by decide) (some ⟨b10, 0, none⟩) 3 3 rfl (by decide) _ w (hS.fact (Fact.sl (some ⟨b10, 0, none⟩) (strs L3)) (by simp)))) ?_
  intro _
  refine WL.r rfl rfl rfl (rd_move rfl rfl) ?_
  refine WL.g rfl rfl rfl (og_call rfl rfl (by kernel_rfl) (keep_val fun w hS => Included_ok (root L3) 3 0 [97] P0 (by decide) (by decide) (by simp [P0, leafH, sha_len]) (by decide) _ _ _ rfl (by show 2 ≤ cp1; omega) _ w (hS.fact (Fact.sl (ob1.map fun b => ⟨b, 0, none⟩) (strs P0)) (by simp)))) ?_
  intro _
  refine WL.set 63 rfl (v' := .bool true) (by exact congrArg Value.bool ex_inc) ?_
  refine WL.r rfl rfl rfl (rd_pickt rfl rfl rfl) ?_
  refine WL.r rfl rfl rfl (rd_move rfl rfl) ?_
  refine WL.r rfl rfl rfl (rd_move rfl rfl) ?_
  refine WL.g rfl rfl rfl (og_call rfl rfl (by kernel_rfl) (keep_val fun w hS => root_ok L3 (by decide) (by decide) (some ⟨b10, 0, none⟩) 3 3 rfl (by decide) _ w (hS.fact (Fact.sl (some ⟨b10, 0, none⟩) (strs L3)) (by simp)))) ?_
  intro _
  refine WL.r rfl rfl rfl (rd_move rfl rfl) ?_
  refine WL.g rfl rfl rfl (og_call rfl rfl (by kernel_rfl) (keep_val fun w hS => Included_ok (root L3) 3 1 [97] P0 (by decide) (by decide) (by simp [P0, leafH, sha_len]) (by decide) _ _ _ rfl (by show 2 ≤ cp1; omega) _ w (hS.fact (Fact.sl (ob1.map fun b => ⟨b, 0, none⟩) (strs P0)) (by simp)))) ?_
  intro _
  refine WL.set 69 rfl (v' := .bool false) (by exact congrArg Value.bool ex_not) ?_
  refine WL.r rfl rfl rfl (rd_not rfl rfl) ?_
  refine WL.r rfl rfl rfl (rd_pickt rfl rfl rfl) ?_
  refine WL.r rfl rfl rfl (rd_assign rfl rfl) ?_
  refine WL.nil ?_
  refine WX.then_normal ?_
  refine WC.ret ?_
  exact WX.ret1 rfl rfl fun w' hS => ⟨rfl, hS.below⟩

/-- what the law's slice is, as the caller laid it -/
theorem roots_ok (l : List Bs) (a : Option Addr) (cap : Nat) (hcap : l.length ≤ cap) (ok : Nat → Prop) (w : World) (hF : (Fact.sl a (strs l)).holds ok w) :
    Calls Try.prog 3 #[.slice a l.length cap] w fun e w' => e = .returned (.bool true) ∧ Below w.heap.size w w' := by
  refine enter (S := St (fun _ => True) w [] [Fact.sl a (strs l)]) (L := [(0, .slice a l.length cap)]) Try.func3 rfl Try.ntmps3 rfl (args_cons rfl (args_nil _)) (St.start (fun _ _ => trivial) (by simpa using sl_any hF)) ?_
  refine WC.seq ?_
  refine WC.region ?_
  refine WL.r rfl rfl rfl (rd_assign rfl rfl) ?_
  refine WL.nil ?_
  refine WX.then_normal ?_
  refine WC.seq ?_
  refine WC.seq ?_
  refine WC.region ?_
  refine WL.r rfl rfl rfl (rd_move rfl rfl) ?_
  refine WL.g rfl rfl rfl (og_call rfl rfl (by kernel_rfl) (keep_val fun w hS => few_ok l _ _ _ w (hS.fact _ (by simp)))) ?_
  intro _
  refine WL.r rfl rfl rfl (rd_not rfl rfl) ?_
  refine WL.nil ?_
  refine WX.then_normal ?_
  refine WC.cond rfl (fun hc5 => ?_) (fun hc5 => ?_)
  · (try simp only [decide_eq_true_eq, decide_eq_false_iff_not, Bool.not_eq_true', Bool.not_eq_false', Bool.not_not, Int.not_lt, Int.not_le] at hc5)
    refine WC.seq ?_
    refine WC.region ?_
    refine WL.g rfl rfl rfl (og_call rfl rfl (by kernel_rfl) (keep_val fun w _ => awake_ok w)) ?_
    intro _
    refine WL.r rfl rfl rfl (rd_assign rfl rfl) ?_
    refine WL.nil ?_
    refine WX.then_normal ?_
    refine WC.ret ?_
    refine WX.then_ret ?_
    exact WX.ret1 rfl rfl fun w' hS => ⟨rfl, hS.below⟩
  · (try simp only [decide_eq_true_eq, decide_eq_false_iff_not, Bool.not_eq_true', Bool.not_eq_false', Bool.not_not, Int.not_lt, Int.not_le] at hc5)
    have hl : l.length ≤ 40 := hc5.1
    have hs : ∀ s ∈ l, s.length ≤ 900000 := fun s h => Nat.le_trans (hc5.2 s h) (by decide)
    refine WC.skip ?_
    refine WX.then_normal ?_
    refine WC.seq ?_
    refine WC.region ?_
    refine WL.g rfl rfl rfl (og_call rfl rfl (by kernel_rfl) (keep_val fun w _ => awake_ok w)) ?_
    intro _
    refine WL.set 7 rfl (v' := .bool true) (by rfl) ?_
    refine WL.r rfl rfl rfl (rd_move rfl rfl) ?_
    refine WL.r rfl rfl rfl (rd_move rfl rfl) ?_
    refine WL.g rfl rfl rfl (og_call rfl rfl (by kernel_rfl) (keep_val fun w hS => root_ok l (by omega) hs _ _ _ rfl hcap _ w (hS.fact _ (by simp)))) ?_
    intro _
    refine WL.r rfl rfl rfl (rd_move rfl rfl) ?_
    refine WL.g rfl rfl rfl (og_call rfl rfl (by kernel_rfl) (keep_val fun w hS => rroot_ok l (by omega) hs _ _ _ rfl hcap _ w (hS.fact _ (by simp)))) ?_
    intro _
    refine WL.r rfl rfl rfl (rd_seq rfl rfl rfl) ?_
    refine WL.set 13 rfl (v' := .bool true) (by exact congrArg Value.bool (decide_eq_true rfl)) ?_
    refine WL.r rfl rfl rfl (rd_pickt rfl rfl rfl) ?_
    refine WL.r rfl rfl rfl (rd_assign rfl rfl) ?_
    refine WL.nil ?_
    refine WX.then_normal ?_
    refine WC.ret ?_
    exact WX.ret1 rfl rfl fun w' hS => ⟨rfl, hS.below⟩
theorem paths_ok (l : List Bs) (a : Option Addr) (cap : Nat) (hcap : l.length ≤ cap) (i : Int) (ok : Nat → Prop) (w : World) (hF : (Fact.sl a (strs l)).holds ok w) :
    Calls Try.prog 4 #[.slice a l.length cap, .int .i64 i] w fun e w' => e = .returned (.bool true) ∧ Below w.heap.size w w' := by
  refine enter (S := St (fun _ => True) w [] [Fact.sl a (strs l)]) (L := [(0, .slice a l.length cap), (1, .int .i64 i)]) Try.func4 rfl Try.ntmps4 rfl (args_cons rfl (args_cons rfl (args_nil _))) (St.start (fun _ _ => trivial) (by simpa using sl_any hF)) ?_
  refine WC.seq ?_
  refine WC.region ?_
  refine WL.r rfl rfl rfl (rd_assign rfl rfl) ?_
  refine WL.nil ?_
  refine WX.then_normal ?_
  refine WC.seq ?_
  refine WC.seq ?_
  refine WC.region ?_
  refine WL.r rfl rfl rfl (rd_move rfl rfl) ?_
  refine WL.g rfl rfl rfl (og_call rfl rfl (by kernel_rfl) (keep_val fun w hS => few_ok l _ _ _ w (hS.fact _ (by simp)))) ?_
  intro _
  refine WL.r rfl rfl rfl (rd_not rfl rfl) ?_
  refine WL.nil ?_
  refine WX.then_normal ?_
  refine WC.cond rfl (fun hc15 => ?_) (fun hc15 => ?_)
  · (try simp only [decide_eq_true_eq, decide_eq_false_iff_not, Bool.not_eq_true', Bool.not_eq_false', Bool.not_not, Int.not_lt, Int.not_le] at hc15)
    refine WC.seq ?_
    refine WC.region ?_
    refine WL.g rfl rfl rfl (og_call rfl rfl (by kernel_rfl) (keep_val fun w _ => awake_ok w)) ?_
    intro _
    refine WL.r rfl rfl rfl (rd_assign rfl rfl) ?_
    refine WL.nil ?_
    refine WX.then_normal ?_
    refine WC.ret ?_
    refine WX.then_ret ?_
    exact WX.ret1 rfl rfl fun w' hS => ⟨rfl, hS.below⟩
  · (try simp only [decide_eq_true_eq, decide_eq_false_iff_not, Bool.not_eq_true', Bool.not_eq_false', Bool.not_not, Int.not_lt, Int.not_le] at hc15)
    have hl : l.length ≤ 40 := hc15.1
    have hs : ∀ s ∈ l, s.length ≤ 900000 := fun s h => Nat.le_trans (hc15.2 s h) (by decide)
    have hpl : (pathR l i).1.length ≤ 40 := by rw [pathR]; split; simp; exact Nat.le_trans (path_len l _ (by omega)) hl
    have hbl : (betwR l i).1.length ≤ 40 := by
      rw [betwR]; split; simp
      split; simp
      exact Nat.le_trans (betw_len l _ _ (by omega) (by omega) (by omega)) hl
    refine WC.skip ?_
    refine WX.then_normal ?_
    refine WC.seq ?_
    refine WC.region ?_
    refine WL.r rfl rfl rfl (rd_move rfl rfl) ?_
    refine WL.r rfl rfl rfl (rd_move rfl rfl) ?_
    refine WL.g rfl rfl rfl (og_call rfl rfl (by kernel_rfl) (keep_gs (val := fun g => .tuple #[g.val (pathR l i).1.length, .int .i64 (pathR l i).2]) fun w hS => Path_ok l i (by omega) hs _ _ _ rfl hcap _ w (hS.fact (Fact.sl a (strs l)) (by simp)))) ?_
    rintro ⟨⟨ob1, cp1, sp1⟩, hg1⟩; simp only [GS.val]; dsimp only at hg1
    refine WL.r rfl rfl rfl (rd_move rfl rfl) ?_
    first
      | (refine WL.r rfl rfl rfl (rd_x20 rfl rfl) ?_)
      | (refine WL.r rfl rfl rfl (rd_x30 rfl rfl) ?_)
      | (refine WL.r rfl rfl rfl (rd_ext rfl rfl rfl) ?_)
    first
      | (refine WL.r rfl rfl rfl (rd_x21 rfl rfl) ?_)
      | (refine WL.r rfl rfl rfl (rd_x31 rfl rfl) ?_)
      | (refine WL.r rfl rfl rfl (rd_ext rfl rfl rfl) ?_)
    refine WL.r rfl rfl rfl (rd_assign rfl rfl) ?_
    refine WL.r rfl rfl rfl (rd_assign rfl rfl) ?_
    refine WL.nil ?_
    refine WX.then_normal ?_
    refine WC.seq ?_
    refine WC.region ?_
    refine WL.r rfl rfl rfl (rd_move rfl rfl) ?_
    refine WL.r rfl rfl rfl (rd_move rfl rfl) ?_
    refine WL.g rfl rfl rfl (og_call rfl rfl (by kernel_rfl) (keep_gs (val := fun g => .tuple #[g.val (pathR l i).1.length, .int .i64 (pathR l i).2]) fun w hS => rPath_ok l i (by omega) hs _ _ _ rfl hcap _ w (hS.fact (Fact.sl a (strs l)) (by simp)))) ?_
    rintro ⟨⟨ob2, cp2, sp2⟩, hg2⟩; simp only [GS.val]; dsimp only at hg2
    refine WL.r rfl rfl rfl (rd_move rfl rfl) ?_
    first
      | (refine WL.r rfl rfl rfl (rd_x20 rfl rfl) ?_)
      | (refine WL.r rfl rfl rfl (rd_x30 rfl rfl) ?_)
      | (refine WL.r rfl rfl rfl (rd_ext rfl rfl rfl) ?_)
    first
      | (refine WL.r rfl rfl rfl (rd_x21 rfl rfl) ?_)
      | (refine WL.r rfl rfl rfl (rd_x31 rfl rfl) ?_)
      | (refine WL.r rfl rfl rfl (rd_ext rfl rfl rfl) ?_)
    refine WL.r rfl rfl rfl (rd_assign rfl rfl) ?_
    refine WL.r rfl rfl rfl (rd_assign rfl rfl) ?_
    refine WL.nil ?_
    refine WX.then_normal ?_
    refine WC.seq ?_
    refine WC.region ?_
    refine WL.r rfl rfl rfl (rd_move rfl rfl) ?_
    refine WL.r rfl rfl rfl (rd_move rfl rfl) ?_
    refine WL.g rfl rfl rfl (og_call rfl rfl (by kernel_rfl) (keep_gs (val := fun g => .tuple #[g.val (betwR l i).1.length, .int .i64 (betwR l i).2]) fun w hS => Between_ok l i (by omega) hs _ _ _ rfl hcap _ w (hS.fact (Fact.sl a (strs l)) (by simp)))) ?_
    rintro ⟨⟨ob3, cp3, sp3⟩, hg3⟩; simp only [GS.val]; dsimp only at hg3
    refine WL.r rfl rfl rfl (rd_move rfl rfl) ?_
    first
      | (refine WL.r rfl rfl rfl (rd_x20 rfl rfl) ?_)
      | (refine WL.r rfl rfl rfl (rd_x30 rfl rfl) ?_)
      | (refine WL.r rfl rfl rfl (rd_ext rfl rfl rfl) ?_)
    first
      | (refine WL.r rfl rfl rfl (rd_x21 rfl rfl) ?_)
      | (refine WL.r rfl rfl rfl (rd_x31 rfl rfl) ?_)
      | (refine WL.r rfl rfl rfl (rd_ext rfl rfl rfl) ?_)
    refine WL.r rfl rfl rfl (rd_assign rfl rfl) ?_
    refine WL.r rfl rfl rfl (rd_assign rfl rfl) ?_
    refine WL.nil ?_
    refine WX.then_normal ?_
    refine WC.seq ?_
    refine WC.region ?_
    refine WL.r rfl rfl rfl (rd_move rfl rfl) ?_
    refine WL.r rfl rfl rfl (rd_move rfl rfl) ?_
    refine WL.g rfl rfl rfl (og_call rfl rfl (by kernel_rfl) (keep_gs (val := fun g => .tuple #[g.val (betwR l i).1.length, .int .i64 (betwR l i).2]) fun w hS => rBetween_ok l i (by omega) hs _ _ _ rfl hcap _ w (hS.fact (Fact.sl a (strs l)) (by simp)))) ?_
    rintro ⟨⟨ob4, cp4, sp4⟩, hg4⟩; simp only [GS.val]; dsimp only at hg4
    refine WL.r rfl rfl rfl (rd_move rfl rfl) ?_
    first
      | (refine WL.r rfl rfl rfl (rd_x20 rfl rfl) ?_)
      | (refine WL.r rfl rfl rfl (rd_x30 rfl rfl) ?_)
      | (refine WL.r rfl rfl rfl (rd_ext rfl rfl rfl) ?_)
    first
      | (refine WL.r rfl rfl rfl (rd_x21 rfl rfl) ?_)
      | (refine WL.r rfl rfl rfl (rd_x31 rfl rfl) ?_)
      | (refine WL.r rfl rfl rfl (rd_ext rfl rfl rfl) ?_)
    refine WL.r rfl rfl rfl (rd_assign rfl rfl) ?_
    refine WL.r rfl rfl rfl (rd_assign rfl rfl) ?_
    refine WL.nil ?_
    refine WX.then_normal ?_
    refine WC.seq ?_
    refine WC.region ?_
    refine WL.g rfl rfl rfl (og_call rfl rfl (by kernel_rfl) (keep_val fun w _ => awake_ok w)) ?_
    intro _
    refine WL.set 41 rfl (v' := .bool true) (by rfl) ?_
    refine WL.r rfl rfl rfl (rd_move rfl rfl) ?_
    refine WL.r rfl rfl rfl (rd_move rfl rfl) ?_
    refine WL.r rfl rfl rfl (rd_move rfl rfl) ?_
    refine WL.g rfl rfl rfl (og_call rfl rfl (by kernel_rfl) (keep_val fun w hS => same_ok (pathR l i).1 (pathR l i).1 (by omega) _ _ _ _ _ _ rfl rfl _ _ w (hS.fact (Fact.sl (ob1.map fun b => ⟨b, 0, none⟩) (strs (pathR l i).1)) (by simp)) (hS.fact (Fact.sl (ob2.map fun b => ⟨b, 0, none⟩) (strs (pathR l i).1)) (by simp)))) ?_
    intro _
    refine WL.set 45 rfl (v' := .bool true) (by exact congrArg Value.bool (decide_eq_true rfl)) ?_
    refine WL.r rfl rfl rfl (rd_pickt rfl rfl rfl) ?_
    refine WL.r rfl rfl rfl (rd_move rfl rfl) ?_
    refine WL.r rfl rfl rfl (rd_move rfl rfl) ?_
    refine WL.r rfl rfl rfl (rd_move rfl rfl) ?_
    refine WL.r rfl rfl rfl (rd_eql rfl rfl rfl) ?_
    refine WL.set 50 rfl (v' := .bool true) (by exact congrArg Value.bool (decide_eq_true rfl)) ?_
    refine WL.r rfl rfl rfl (rd_pickt rfl rfl rfl) ?_
    refine WL.r rfl rfl rfl (rd_move rfl rfl) ?_
    refine WL.r rfl rfl rfl (rd_move rfl rfl) ?_
    refine WL.r rfl rfl rfl (rd_move rfl rfl) ?_
    refine WL.g rfl rfl rfl (og_call rfl rfl (by kernel_rfl) (keep_val fun w hS => same_ok (betwR l i).1 (betwR l i).1 (by omega) _ _ _ _ _ _ rfl rfl _ _ w (hS.fact (Fact.sl (ob3.map fun b => ⟨b, 0, none⟩) (strs (betwR l i).1)) (by simp)) (hS.fact (Fact.sl (ob4.map fun b => ⟨b, 0, none⟩) (strs (betwR l i).1)) (by simp)))) ?_
    intro _
    refine WL.set 55 rfl (v' := .bool true) (by exact congrArg Value.bool (decide_eq_true rfl)) ?_
    refine WL.r rfl rfl rfl (rd_pickt rfl rfl rfl) ?_
    refine WL.r rfl rfl rfl (rd_move rfl rfl) ?_
    refine WL.r rfl rfl rfl (rd_move rfl rfl) ?_
    refine WL.r rfl rfl rfl (rd_move rfl rfl) ?_
    refine WL.r rfl rfl rfl (rd_eql rfl rfl rfl) ?_
    refine WL.set 60 rfl (v' := .bool true) (by exact congrArg Value.bool (decide_eq_true rfl)) ?_
    refine WL.r rfl rfl rfl (rd_pickt rfl rfl rfl) ?_
    refine WL.r rfl rfl rfl (rd_assign rfl rfl) ?_
    refine WL.nil ?_
    refine WX.then_normal ?_
    refine WC.ret ?_
    exact WX.ret1 rfl rfl fun w' hS => ⟨rfl, hS.below⟩
end Go.Proofs.Ytenjafedpcpoaaa
