/-
  The journal's small functions.
-/
import Derived.Test.YtijamoagkmjcjaaJou
import Derived.Test.YtijamoagkmjcjaaBld2
namespace Go.Proofs.Ytijamoagkmjcjaa
set_option linter.unusedSimpArgs false
set_option linter.unusedVariables false
set_option maxRecDepth 20000
open Go.RowKit

theorem clone_c {l : List Bs} {a : Option Addr} {m cap : Nat} {w : World} {ok : Nat → Prop} (hF1 : (Fact.sl a (strs l)).holds ok w) (hl : l.length ≤ 1000000) (hm : m = l.length) :
    Calls Try.prog 46 #[.slice a m cap] w fun e w' => ∃ g : Rs, e = .returned (g.val l.length) ∧ g.cap = l.length + g.sp.length ∧ St (fun _ => True) w [g.ent (strs l) 9] [] w' := by
  refine enter (S := St (fun _ => True) w [] [Fact.sl a (strs l)]) (L := [(0, .slice a m cap)]) Try.func46 rfl Try.ntmps46 rfl (args_cons rfl (args_nil _)) (St.start (fun _ _ => trivial) (facts_cons (fact_any hF1) facts_nil)) ?_
  refine WC.sr ?_
  refine WL.r rfl rfl rfl (rd_assign rfl rfl) ?_
  refine WL.nt ?_
  refine WC.seq ?_
  refine WC.sr ?_
  refine WL.r rfl rfl rfl (rd_move rfl rfl) ?_
  refine WL.r rfl rfl rfl (rd_sleq rfl rfl rfl Try.underlying22) ?_
  refine WL.nt ?_
  refine WC.cond rfl (fun hc4 => ?_) (fun hc4 => ?_)
  · (try simp only [decide_eq_true_eq, decide_eq_false_iff_not, Bool.not_eq_true', Bool.not_eq_false', Bool.not_not, Int.not_lt, Int.not_le] at hc4)
    have hl0 : l = [] := by simpa using isNone_nil hF1 hc4
    subst hl0
    refine WC.sr ?_
    refine WL.r rfl rfl rfl (rd_assign rfl rfl) ?_
    refine WL.nt ?_
    refine WC.ret ?_
    refine WX.then_ret ?_
    exact WX.retN rfl (.tmp rfl .nil) fun w' hS => ⟨⟨none, 0, []⟩, rfl, rfl, (hS.nil _).sub (List.Sublist.refl _) (fun _ h => by cases h)⟩
  · (try simp only [decide_eq_true_eq, decide_eq_false_iff_not, Bool.not_eq_true', Bool.not_eq_false', Bool.not_not, Int.not_lt, Int.not_le] at hc4)
    refine WC.skip ?_
    refine WX.then_normal ?_
    refine WC.sr ?_
    refine WL.g rfl rfl rfl (og_bs1 rfl rfl Try.underlying22 (by kernel_rfl : _ = some (some (.string (S [])), 1, 16)) rfl (by simp only [List.map]; rfl) rfl rfl ?_ (by decide)) ?_
    · simp [Value.cells]
    intro b5
    refine WL.r rfl rfl rfl (rd_move rfl rfl) ?_
    first
      | (refine WL.g rfl rfl rfl (appg rfl Try.underlying22 (by kernel_rfl : _ = some (some (.string (S [])), 1, 16)) rfl .tc rfl rfl (fun w hS => by first | exact hS.os | exact hS.sl | exact hS.oc) (by simp [hm]) ?_ ?_) ?_; (focus ((refine ⟨?_, ?_, ?_, ?_⟩ <;> (try simp) <;> omega))); (focus (first | (simp [Value.oneCell']; done) | (intro u hu; obtain ⟨_, _, rfl⟩ := List.mem_map.1 hu; rfl))))
      | (refine WL.g rfl rfl rfl (appf rfl Try.underlying22 (by kernel_rfl : _ = some (some (.string (S [])), 1, 16)) rfl .tc rfl rfl (fun w hS => by first | exact hS.os | exact hS.sl | exact hS.oc) (by simp [hm]) ?_ ?_) ?_; (focus ((refine ⟨?_, ?_, ?_, ?_⟩ <;> (try simp) <;> omega))); (focus (first | (simp [Value.oneCell']; done) | (intro u hu; obtain ⟨_, _, rfl⟩ := List.mem_map.1 hu; rfl))))
    rintro ⟨o7, c7, s7⟩
    refine WL.pu ?_
    intro hg7; (try dsimp only at hg7 ⊢)
    refine WL.r rfl rfl rfl (rd_assign rfl rfl) ?_
    refine WL.nt ?_
    refine WC.ret ?_
    exact WX.retN rfl (.tmp rfl .nil) fun w' hS => ⟨⟨o7, c7, s7⟩, by simp [Rs.val, hm, tup], by simpa [hm] using hg7, by simpa using hS.sub (List.Sublist.refl _) (fun _ h => by cases h)⟩

theorem four_c {k : Nat} {w : World} (hk : k ≤ 1000000000) :
    Calls Try.prog 37 #[.int .i64 (k : Int)] w fun e w' => e = .returned (.string (S (four k))) ∧ Below w.heap.size w w' := by
  refine enter (S := St (fun _ => True) w [] []) (L := [(0, .int .i64 (k : Int))]) Try.func37 rfl Try.ntmps37 rfl (args_cons rfl (args_nil _)) (St.start (fun _ _ => trivial) facts_nil) ?_
  refine WC.sr ?_
  refine WL.r rfl rfl rfl (rd_assign rfl rfl) ?_
  refine WL.nt ?_
  refine WC.sr ?_
  refine WL.r rfl rfl rfl (rd_move rfl rfl) ?_
  refine WL.r rfl rfl rfl (rd_shr rfl rfl rfl ?_) ?_
  · first | decide | omega
  refine WL.r rfl rfl rfl (rd_conv rfl rfl Try.underlying3 Try.underlying5) ?_
  refine WL.set 5 rfl (v' := B (UInt8.ofNat (k / 16777216))) (congrArg (Value.int .u8) (byte_shrI k 24 (by omega))) ?_
  refine WL.r rfl rfl rfl (rd_move rfl rfl) ?_
  refine WL.r rfl rfl rfl (rd_shr rfl rfl rfl ?_) ?_
  · first | decide | omega
  refine WL.r rfl rfl rfl (rd_conv rfl rfl Try.underlying3 Try.underlying5) ?_
  refine WL.set 8 rfl (v' := B (UInt8.ofNat (k / 65536))) (congrArg (Value.int .u8) (byte_shrI k 16 (by omega))) ?_
  refine WL.r rfl rfl rfl (rd_move rfl rfl) ?_
  refine WL.r rfl rfl rfl (rd_shr rfl rfl rfl ?_) ?_
  · first | decide | omega
  refine WL.r rfl rfl rfl (rd_conv rfl rfl Try.underlying3 Try.underlying5) ?_
  refine WL.set 11 rfl (v' := B (UInt8.ofNat (k / 256))) (congrArg (Value.int .u8) (byte_shrI k 8 (by omega))) ?_
  refine WL.r rfl rfl rfl (rd_move rfl rfl) ?_
  refine WL.r rfl rfl rfl (rd_conv rfl rfl Try.underlying3 Try.underlying5) ?_
  refine WL.set 13 rfl (v' := B (UInt8.ofNat k)) (congrArg (Value.int .u8) (byte_of k)) ?_
  refine WL.g rfl rfl rfl (og_bs1 rfl rfl Try.underlying70 (by kernel_rfl : _ = some (some (.int .u8 0), 1, 1)) rfl (by simp only [List.map]; rfl) rfl rfl ?_ (by decide)) ?_
  · simp [Value.cells, B]
  intro b14
  refine WL.r rfl rfl rfl (b2s (l := four k) rfl rfl .tc Try.underlying70 Try.underlying5 Try.underlying9 ?_ ?_) ?_
  · first | rfl | simp
  · first | rfl | simp
  refine WL.r rfl rfl rfl (rd_assign rfl rfl) ?_
  refine WL.nt ?_
  refine WC.ret ?_
  exact WX.retN rfl (.tmp rfl .nil) fun w' hS => ⟨by first | rfl | (simp [*]; done), hS.below⟩

theorem num_c {s : Bs} {w : World} (hs : 4 ≤ s.length) :
    Calls Try.prog 42 #[.string (S s)] w fun e w' => e = .returned (.int .i64 (num4 s : Int)) ∧ Below w.heap.size w w' := by
  refine enter (S := St (fun _ => True) w [] []) (L := [(0, .string (S s))]) Try.func42 rfl Try.ntmps42 rfl (args_cons rfl (args_nil _)) (St.start (fun _ _ => trivial) facts_nil) ?_
  refine WC.sr ?_
  refine WL.r rfl rfl rfl (rd_assign rfl rfl) ?_
  refine WL.nt ?_
  refine WC.seq ?_
  refine WC.free0 [0, 1, 2, 3, 4, 5, 6, 7, 8, 9, 10, 11, 12, 13, 14, 15, 16, 17, 18] [] [0, 0, 0, 0, 0, 0, 0, 0, 0, 0, 0, 0, 0, 0, 0, 0, 0, 0, 0] (by kernel_rfl) (by kernel_rfl) rfl ?_
  refine WJ.r rfl rfl rfl rfl rfl (rd_move rfl rfl) ?_
  refine WJ.r rfl rfl rfl rfl rfl (rd_sidxD rfl rfl rfl Try.underlying9 ?_) ?_
  · first | assumption | omega | (simp <;> omega) | (simp; done)
  refine WJ.r rfl rfl rfl rfl rfl (rd_conv rfl rfl Try.underlying5 Try.underlying3) ?_
  refine WJ.r rfl rfl rfl rfl rfl (rd_shl rfl rfl rfl ?_) ?_
  · first | decide | omega
  refine WJ.r rfl rfl rfl rfl rfl (rd_move rfl rfl) ?_
  refine WJ.r rfl rfl rfl rfl rfl (rd_sidxD rfl rfl rfl Try.underlying9 ?_) ?_
  · first | assumption | omega | (simp <;> omega) | (simp; done)
  refine WJ.r rfl rfl rfl rfl rfl (rd_conv rfl rfl Try.underlying5 Try.underlying3) ?_
  refine WJ.r rfl rfl rfl rfl rfl (rd_shl rfl rfl rfl ?_) ?_
  · first | decide | omega
  refine WJ.r rfl rfl rfl rfl rfl (rd_or rfl rfl rfl) ?_
  refine WJ.r rfl rfl rfl rfl rfl (rd_move rfl rfl) ?_
  refine WJ.r rfl rfl rfl rfl rfl (rd_sidxD rfl rfl rfl Try.underlying9 ?_) ?_
  · first | assumption | omega | (simp <;> omega) | (simp; done)
  refine WJ.r rfl rfl rfl rfl rfl (rd_conv rfl rfl Try.underlying5 Try.underlying3) ?_
  refine WJ.r rfl rfl rfl rfl rfl (rd_shl rfl rfl rfl ?_) ?_
  · first | decide | omega
  refine WJ.r rfl rfl rfl rfl rfl (rd_or rfl rfl rfl) ?_
  refine WJ.r rfl rfl rfl rfl rfl (rd_move rfl rfl) ?_
  refine WJ.r rfl rfl rfl rfl rfl (rd_sidxD rfl rfl rfl Try.underlying9 ?_) ?_
  · first | assumption | omega | (simp <;> omega) | (simp; done)
  refine WJ.r rfl rfl rfl rfl rfl (rd_conv rfl rfl Try.underlying5 Try.underlying3) ?_
  refine WJ.r rfl rfl rfl rfl rfl (rd_or rfl rfl rfl) ?_
  refine WJ.r rfl rfl rfl rfl rfl (rd_assign rfl rfl) ?_
  refine WJ.nil ?_
  refine WL.nt ?_
  refine WC.ret ?_
  exact WX.retN rfl (.tmp rfl .nil) fun w' hS => ⟨by exact congrArg (fun i : Int => Ending.returned (.int .i64 i)) (num_bits _ _ _ _), hS.below⟩

theorem rec_c {k : UInt8} {c : Bs} {w : World} (hc : c.length ≤ 900000) :
    Calls Try.prog 33 #[.int .u8 (k.toNat : Int), .string (S c)] w fun e w' => e = .returned (.string (S (recJ k c))) ∧ Below w.heap.size w w' := by
  have hfl := four_len c.length
  refine enter (S := St (fun _ => True) w [] []) (L := [(0, .int .u8 (k.toNat : Int)), (1, .string (S c))]) Try.func33 rfl Try.ntmps33 rfl (args_cons rfl (args_cons rfl (args_nil _))) (St.start (fun _ _ => trivial) facts_nil) ?_
  refine WC.sr ?_
  refine WL.r rfl rfl rfl (rd_assign rfl rfl) ?_
  refine WL.nt ?_
  refine WC.seq ?_
  refine WC.free0 [3, 4, 5, 0, 1, 2, 6, 7, 8, 9] [] [0, 5, 4, 0, 0, 1, 0, 0, 0, 0] (by kernel_rfl) (by kernel_rfl) rfl ?_
  refine WJ.r rfl rfl rfl rfl rfl (rd_move rfl rfl) ?_
  refine WJ.r rfl rfl rfl rfl rfl (rd_slen rfl rfl Try.underlying9) ?_
  refine WJ.gv rfl rfl rfl rfl rfl (fun ext => og_call rfl rfl (by kernel_rfl) (keep_val fun w hS => four_c (by first | assumption | omega | (simp <;> omega) | (simp; done)))) ?_
  refine WJ.r rfl rfl rfl rfl rfl (rd_move rfl rfl) ?_
  refine WJ.fz rfl rfl rfl rfl rfl (fr_bs1 rfl rfl Try.underlying70 (by kernel_rfl : _ = some (some (.int .u8 0), 1, 1)) rfl (by simp only [List.map]; rfl) rfl rfl ?_ (by decide)) ?_
  · simp [Value.cells]
  intro b7
  first
    | (refine WJ.zr rfl rfl rfl rfl rfl List.mem_cons_self (src_conv rfl rfl) (b2s (l := [k]) rfl rfl .tc Try.underlying70 Try.underlying5 Try.underlying9 ?_ ?_) ?_; (focus (first | rfl | simp)); (focus (first | rfl | simp)))
    | (refine WJ.zr rfl rfl rfl rfl rfl (.tail _ List.mem_cons_self) (src_conv rfl rfl) (b2s (l := [k]) rfl rfl .tc Try.underlying70 Try.underlying5 Try.underlying9 ?_ ?_) ?_; (focus (first | rfl | simp)); (focus (first | rfl | simp)))
    | (refine WJ.zr rfl rfl rfl rfl rfl (.tail _ (.tail _ List.mem_cons_self)) (src_conv rfl rfl) (b2s (l := [k]) rfl rfl .tc Try.underlying70 Try.underlying5 Try.underlying9 ?_ ?_) ?_; (focus (first | rfl | simp)); (focus (first | rfl | simp)))
  refine WJ.r rfl rfl rfl rfl rfl (rd_cat rfl rfl rfl ?_) ?_
  · first | ((try simp only [List.length_append, List.length_cons, List.length_nil]); omega) | (simp <;> omega)
  refine WJ.r rfl rfl rfl rfl rfl (rd_move rfl rfl) ?_
  refine WJ.r rfl rfl rfl rfl rfl (rd_cat rfl rfl rfl ?_) ?_
  · first | ((try simp only [List.length_append, List.length_cons, List.length_nil]); omega) | (simp <;> omega)
  refine WJ.r rfl rfl rfl rfl rfl (rd_assign rfl rfl) ?_
  refine WJ.nilz ?_
  refine WL.nt ?_
  refine WC.sr ?_
  refine WL.r rfl rfl rfl (rd_move rfl rfl) ?_
  refine WL.r rfl rfl rfl (rd_move rfl rfl) ?_
  refine WL.g rfl rfl rfl (og_call rfl rfl (by kernel_rfl) (keep_val fun w hS => sum_c (by first | assumption | omega | (simp <;> omega) | (simp; done)))) ?_
  intro _
  refine WL.r rfl rfl rfl (rd_cat rfl rfl rfl ?_) ?_
  · simp [sha_len]; omega
  refine WL.r rfl rfl rfl (rd_assign rfl rfl) ?_
  refine WL.nt ?_
  refine WC.ret ?_
  exact WX.retN rfl (.tmp rfl .nil) fun w' hS => ⟨by first | rfl | (simp [*]; done), hS.below⟩
end Go.Proofs.Ytijamoagkmjcjaa
